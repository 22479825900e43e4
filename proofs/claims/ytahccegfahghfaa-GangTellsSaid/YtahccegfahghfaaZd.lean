/- Texts of this proof, one behind the other. -/
import Derived.Test.YtahccegfahghfaaZc
import Derived.Test.YtahccegfahghfaaZb
import Derived.Test.YtahccegfahghfaaZa
import Derived.ProofKit
import Derived.Carry
import Derived.Deep.Slices
import Derived.Lib.SmallJoins
import Derived.Test.YtahccegfahghfaaProg
/-! The document: Of. -/
namespace Go.Proofs.Ytahccegfahghfaa
open Go Go.RowKit

set_option maxRecDepth 100000 in
theorem rof_t (q : Option Addr) (m capq : Nat) (al : List GngA) (k : Int) (w : World)
 (hal : Sv w q al) (hma : m = al.length) (hbm : m ≤ 1000) (hnm : ∀ x ∈ al, x.Reads w) (hm9 : ∀ x ∈ al, x.n ≤ 1000)
 : Calls Try.prog 24 #[.agg #[.slice q m capq], .int .i64 k] w fun e w' => e = .returned (.int .i64 (rofV (al.map GngA.val) k)) ∧ Below w.heap.size w w' := by
 refine enter (Hs.start w) Try.func24 rfl Try.ntmps24 rfl (sq_ (ma0 [] [1] (fun γ1 => [(2, .pointer (some ⟨γ1 0, 0, none⟩))]) (fun γ1 L => bx (γ1 0) (#[.slice q m capq]) 38 :: L) (fun γ1 => ds_ (sq_ (sq_ (qa0 [(1, .go (owns 0 0 1))] [1] [(8, .slice q m capq), (9, .int .i64 (m : Nat)), (10, .int .i64 0)] (ds_ (at_block (At.pick [[bx (γ1 0) (#[.slice q m capq]) 38]] [] [0] ([]) (by kernel_rfl) rfl rfl (at_loop (α := Nat) [1, 8, 9, 10] (fun j => [(1, .int .i64 k), (8, .slice q m capq), (9, .int .i64 (m : Nat)), (10, .int .i64 (j : Nat))]) (fun j => []) (fun j => j ≤ m ∧ ∀ (t : Nat) (y : GngA), t < j → al[t]? = some y → hasG k y = false) (fun j => m - j) 0 (by kernel_rfl) rfl ⟨Nat.zero_le _, fun t y h => by omega⟩ ?_))))))))))
 rintro j
 rintro ⟨hj, hI⟩
 refine sq_ ?_
 by_cases q4 : ((j : Nat) : Int) < ((m : Nat) : Int)
 ·
  refine qa [(0, .yes)] [1, 8, 9, 10] [(11, .bool true)] ([((j : Nat) : Int) < ((m : Nat) : Int)]) (al1 q4) (ds_ (sq_ (t_ (at_skip (ds_ (sq_ (at_block (sq_ ?_))))))))
  obtain ⟨b7, o7, rfl⟩ := hal.pos (i := j) (by omega)
  obtain ⟨x9, hx9⟩ := get_some (l := al) (m := j) (by omega)
  have hsx9 : Sv w x9.p x9.l := (hnm x9 (List.mem_of_getElem? hx9)).sv
  have hnx9 : x9.n = x9.l.length := (hnm x9 (List.mem_of_getElem? hx9)).hn
  have hm9x9 := hm9 x9 (List.mem_of_getElem? hx9)
  refine ma [(0, .at b7 o7 j), (1, .go (outs b7 (o7 + j * 2) [.int .i64 x9.id, .slice x9.p x9.n x9.cap])), (3, .go (owns 0 0 2))] [1, 8, 9, 10] (fun γ10 => [(6, .pointer (some ⟨γ10 0, 0, none⟩))]) (fun γ10 L => bx (γ10 0) (#[.int .i64 x9.id, .slice x9.p x9.n x9.cap]) 46 :: L) (fun γ10 => [(some ⟨b7, o7, none⟩ : Option Addr) = some ⟨b7, o7, none⟩, (j : Nat) = ((j : Nat) : Int), j < m] ++ (cellsP w b7 (o7 + j * 2) [.int .i64 x9.id, .slice x9.p x9.n x9.cap])) (fun γ10 => (alA (al2 rfl (al2 rfl (al1 (by omega)))) (rd_pre (hal.get hx9) _ rfl))) (fun γ10 => ds_ (sq_ (ao_ (qo0 3 [(1, .go (owns 0 1 1))] [1, 6, 8, 9, 10] [(15, .slice x9.p x9.n x9.cap), (16, .int .i64 k)] ?_))))
  rcases q12 : decide (k ∈ x9.l) with _ | _
  ·
   refine cD (.bool false) Try.call38 (fun w hw => by have := has_t x9.p x9.n x9.cap x9.l k w (hsx9.kept hw.below) hnx9 (by omega); rw [q12] at this; exact this) (on_ (ds_ (f_ (at_skip (done_block (ds_ (qa [(0, .fit)] [1, 8, 9] [(10, .int .i64 (j + 1 : Nat))] ([Fit .i64 ((j + 1 : Nat))]) (al1 (fit64 (by omega) (by omega))) (Done.drop (L' := []) ?_ (List.Sublist.cons _ (List.Sublist.refl _))))))))))
   exact dr [1, 8, 9, 10] (j + 1) ⟨by omega, fun t y ht e => by by_cases htj : t = j; (subst htj; rw [hx9] at e; cases e; exact q12); exact hI t y (by omega) e⟩
  ·
   refine cD (.bool true) Try.call38 (fun w hw => by have := has_t x9.p x9.n x9.cap x9.l k w (hsx9.kept hw.below) hnx9 (by omega); rw [q12] at this; exact this) (on_ (ds_ (t_ (sq_ (qa0 [(1, .go (owns 0 0 1))] [] [(4, .int .i64 x9.id)] (ds_ (rt ([]) (.int .i64 x9.id) ?_)))))))
   exact fun w' hw => ⟨by rw [rofv_some hx9 q12 hI], hw.below⟩
 ·
  refine qa [(0, .no)] [1, 8, 9, 10] [(11, .bool false)] ([¬ (((j : Nat) : Int) < ((m : Nat) : Int))]) (al1 q4) (ds_ (sq_ (f_ (at_leave _ rfl (ds_ (sq_ (qa0 [] [] [(4, .int .i64 0)] (ds_ (rt ([]) (.int .i64 0) ?_)))))))))
  exact fun w' hw => ⟨by rw [rofv_none (by omega) hI], hw.below⟩
end Go.Proofs.Ytahccegfahghfaa

/-! The document: members. -/
namespace Go.Proofs.Ytahccegfahghfaa
open Go Go.RowKit
theorem last_prev {l : List Int} {i j : Nat} {y : Int} (hx : l[i]? = some y) (e : j = i + 1) : lastV 0 (l.take j) = y := by subst e; exact last_onT hx
theorem last_zero {l : List Int} {j : Nat} (e : j = 0) : lastV 0 (l.take j) = 0 := by subst e; rfl
theorem up_last : ∀ {l : List Int} {a : Int}, upB a l = true → a ≤ lastV a l
 | [], a, _ => Int.le_refl _
 | b :: l, a, h => by
  simp only [upB, Bool.and_eq_true, decide_eq_true_eq] at h
  rw [last_cons]
  have := up_last h.2
  omega
theorem up_bad0 {l : List Int} {j : Nat} {n : Int} (h : upB 0 (l.take j) = true) (hx : l[j]? = some n) (e : ¬ (1 ≤ n ∧ n ≤ 16)) : mayB l = false := up_bad hx (by have := up_last h; omega)

set_option maxRecDepth 100000 in
theorem rmembers_t (p : Option Addr) (n cap : Nat) (l : List Int) (w : World)
 (hsl : Sv w p l) (hn : n = l.length) (hb : n ≤ 1000)
 : Calls Try.prog 40 #[.slice p n cap] w fun e w' => e = .returned (.bool (mayB l)) ∧ Below w.heap.size w w' := by
 refine enter (Hs.start w) Try.func40 rfl Try.ntmps40 rfl (sq_ (qa0 [] [0] [] (ds_ (sq_ (sq_ (qa0 [] [0] [(5, .slice p n cap), (6, .int .i64 (n : Nat)), (7, .int .i64 0)] (ds_ (at_block (at_loop (α := Nat) [0, 5, 6, 7] (fun j => [(0, .slice p n cap), (5, .slice p n cap), (6, .int .i64 (n : Nat)), (7, .int .i64 (j : Nat))]) (fun j => []) (fun j => j ≤ n ∧ upB 0 (l.take j) = true) (fun j => n - j) 0 (by kernel_rfl) rfl ⟨Nat.zero_le _, rfl⟩ ?_)))))))))
 rintro j
 rintro ⟨hj, hI⟩
 refine sq_ ?_
 by_cases q4 : ((j : Nat) : Int) < ((n : Nat) : Int)
 ·
  refine qa [(0, .yes)] [0, 5, 6, 7] [(8, .bool true)] ([((j : Nat) : Int) < ((n : Nat) : Int)]) (al1 q4) (ds_ (sq_ (t_ (at_skip (ds_ (sq_ (at_block (sq_ ?_))))))))
  obtain ⟨b7, o7, rfl⟩ := hsl.pos (i := j) (by omega)
  obtain ⟨x9, hx9⟩ := get_some (l := l) (m := j) (by omega)
  refine qa [(1, .at b7 o7 j), (2, .go (outs b7 (o7 + j * 1) [.int .i64 x9]))] [0, 5, 6, 7] [(3, .int .i64 (j : Nat)), (4, .int .i64 x9)] ([(some ⟨b7, o7, none⟩ : Option Addr) = some ⟨b7, o7, none⟩, (j : Nat) = ((j : Nat) : Int), j < n] ++ (cellsP w b7 (o7 + j * 1) [.int .i64 x9])) (alA (al2 rfl (al2 rfl (al1 (by omega)))) (rd_pre (hsl.get hx9) _ rfl)) (ds_ (sq_ ?_))
  by_cases q12 : (x9 : Int) < (1 : Int)
  ·
   refine qa [(1, .yes)] [0, 5, 6, 7] [(30, .bool true)] ([(x9 : Int) < (1 : Int)]) (al1 q12) (ds_ (t_ (sq_ (qa0 [] [] [(2, .bool false)] (ds_ (rt ([]) (.bool false) ?_))))))
   exact fun w' hw => ⟨by rw [up_bad0 hI hx9 (by omega)], hw.below⟩
  ·
   by_cases q16 : (x9 : Int) > (16 : Int)
   ·
    refine qa [(1, .no), (4, .yes)] [0, 5, 6, 7] [(30, .bool true)] ([¬ ((x9 : Int) < (1 : Int))] ++ ([(x9 : Int) > (16 : Int)])) (alA (al1 q12) (al1 q16)) (ds_ (t_ (sq_ (qa0 [] [] [(2, .bool false)] (ds_ (rt ([]) (.bool false) ?_))))))
    exact fun w' hw => ⟨by rw [up_bad0 hI hx9 (by omega)], hw.below⟩
   ·
    by_cases q20 : ((j : Nat) : Int) > (0 : Int)
    ·
     obtain ⟨x22, hx22⟩ := get_some (l := l) (m := ((((j : Nat) : Int) - 1)).toNat) (by omega)
     by_cases q24 : (x22 : Int) ≥ (x9 : Int)
     ·
      refine qa [(1, .no), (4, .no), (8, .yes), (12, .fit), (13, .at b7 o7 (((((j : Nat) : Int) - 1)).toNat)), (14, .go (outs b7 (o7 + (((((j : Nat) : Int) - 1)).toNat) * 1) [.int .i64 x22])), (16, .yes)] [0, 5, 6, 7] [(30, .bool true)] ([¬ ((x9 : Int) < (1 : Int))] ++ ([¬ ((x9 : Int) > (16 : Int))] ++ ([((j : Nat) : Int) > (0 : Int)] ++ ([Fit .i64 ((j : Nat) - 1)] ++ ([(some ⟨b7, o7, none⟩ : Option Addr) = some ⟨b7, o7, none⟩, (((j : Nat) : Int) - 1) = ((((((j : Nat) : Int) - 1)).toNat : Nat) : Int), ((((j : Nat) : Int) - 1)).toNat < n] ++ (cellsP w b7 (o7 + (((((j : Nat) : Int) - 1)).toNat) * 1) [.int .i64 x22] ++ ([(x22 : Int) ≥ (x9 : Int)]))))))) (alA (al1 q12) (alA (al1 q16) (alA (al1 q20) (alA (al1 (fit64 (by omega) (by omega))) (alA (al2 rfl (al2 (by omega) (al1 (by omega)))) (alA (rd_pre (hsl.get hx22) _ rfl) (al1 q24))))))) (ds_ (t_ (sq_ (qa0 [] [] [(2, .bool false)] (ds_ (rt ([]) (.bool false) ?_))))))
      have hla := last_prev (j := j) hx22 (by omega)
      exact fun w' hw => ⟨by rw [up_bad hx9 (by rw [hla]; omega)], hw.below⟩
     ·
      refine qa [(1, .no), (4, .no), (8, .yes), (12, .fit), (13, .at b7 o7 (((((j : Nat) : Int) - 1)).toNat)), (14, .go (outs b7 (o7 + (((((j : Nat) : Int) - 1)).toNat) * 1) [.int .i64 x22])), (16, .no)] [0, 5, 6, 7] [(30, .bool false)] ([¬ ((x9 : Int) < (1 : Int))] ++ ([¬ ((x9 : Int) > (16 : Int))] ++ ([((j : Nat) : Int) > (0 : Int)] ++ ([Fit .i64 ((j : Nat) - 1)] ++ ([(some ⟨b7, o7, none⟩ : Option Addr) = some ⟨b7, o7, none⟩, (((j : Nat) : Int) - 1) = ((((((j : Nat) : Int) - 1)).toNat : Nat) : Int), ((((j : Nat) : Int) - 1)).toNat < n] ++ (cellsP w b7 (o7 + (((((j : Nat) : Int) - 1)).toNat) * 1) [.int .i64 x22] ++ ([¬ ((x22 : Int) ≥ (x9 : Int))]))))))) (alA (al1 q12) (alA (al1 q16) (alA (al1 q20) (alA (al1 (fit64 (by omega) (by omega))) (alA (al2 rfl (al2 (by omega) (al1 (by omega)))) (alA (rd_pre (hsl.get hx22) _ rfl) (al1 q24))))))) (ds_ (f_ (at_skip (done_block (ds_ (qa [(0, .fit)] [0, 5, 6] [(7, .int .i64 (j + 1 : Nat))] ([Fit .i64 ((j + 1 : Nat))]) (al1 (fit64 (by omega) (by omega))) ?_))))))
      have hla := last_prev (j := j) hx22 (by omega)
      exact dr [0, 5, 6, 7] (j + 1) ⟨by omega, up_onT hI hx9 (by rw [hla]; omega)⟩
    ·
     refine qa [(1, .no), (4, .no), (8, .no)] [0, 5, 6, 7] [(30, .bool false)] ([¬ ((x9 : Int) < (1 : Int))] ++ ([¬ ((x9 : Int) > (16 : Int))] ++ ([¬ (((j : Nat) : Int) > (0 : Int))]))) (alA (al1 q12) (alA (al1 q16) (al1 q20))) (ds_ (f_ (at_skip (done_block (ds_ (qa [(0, .fit)] [0, 5, 6] [(7, .int .i64 (j + 1 : Nat))] ([Fit .i64 ((j + 1 : Nat))]) (al1 (fit64 (by omega) (by omega))) ?_))))))
     have hla := last_zero (l := l) (j := j) (by omega)
     exact dr [0, 5, 6, 7] (j + 1) ⟨by omega, up_onT hI hx9 (by rw [hla]; omega)⟩
 ·
  refine qa [(0, .no)] [0, 5, 6, 7] [(8, .bool false)] ([¬ (((j : Nat) : Int) < ((n : Nat) : Int))]) (al1 q4) (ds_ (sq_ (f_ (at_leave _ rfl (ds_ (sq_ ?_))))))
  by_cases q33 : ((n : Nat) : Int) ≥ (2 : Int)
  ·
   by_cases q35 : ((n : Nat) : Int) ≤ (8 : Int)
   ·
    refine qa [(2, .yes), (6, .yes)] [] [(2, .bool true)] ([((n : Nat) : Int) ≥ (2 : Int)] ++ ([((n : Nat) : Int) ≤ (8 : Int)])) (alA (al1 q33) (al1 q35)) (ds_ (rt ([]) (.bool true) ?_))
    exact fun w' hw => ⟨by rw [may_yes hI (by omega) (by omega)], hw.below⟩
   ·
    refine qa [(2, .yes), (6, .no)] [] [(2, .bool false)] ([((n : Nat) : Int) ≥ (2 : Int)] ++ ([¬ (((n : Nat) : Int) ≤ (8 : Int))])) (alA (al1 q33) (al1 q35)) (ds_ (rt ([]) (.bool false) ?_))
    exact fun w' hw => ⟨by rw [may_no hI (by omega) (by omega)], hw.below⟩
  ·
   refine qa [(2, .no)] [] [(2, .bool false)] ([¬ (((n : Nat) : Int) ≥ (2 : Int))]) (al1 q33) (ds_ (rt ([]) (.bool false) ?_))
   exact fun w' hw => ⟨by rw [may_no hI (by omega) (by omega)], hw.below⟩
end Go.Proofs.Ytahccegfahghfaa

/-! The document: Right, Get, Same. -/
namespace Go.Proofs.Ytahccegfahghfaa
open Go Go.RowKit

set_option maxRecDepth 100000 in
theorem rright_t (q : Option Addr) (m capq : Nat) (al : List GngA) (w : World)
 (hal : Sv w q al) (hma : m = al.length) (hbm : m ≤ 1000) (hnm : ∀ x ∈ al, x.Reads w) (hm9 : ∀ x ∈ al, x.n ≤ 1000)
 (hcq : m ≤ capq)
 : Calls Try.prog 17 #[.agg #[.slice q m capq]] w fun e w' => e = .returned (.bool (gangB (al.map GngA.val))) ∧ Below w.heap.size w w' := by
 refine enter (Hs.start w) Try.func17 rfl Try.ntmps17 rfl (sq_ (ma0 [] [] (fun γ1 => [(1, .pointer (some ⟨γ1 0, 0, none⟩))]) (fun γ1 L => bx (γ1 0) (#[.slice q m capq]) 38 :: L) (fun γ1 => ds_ (sq_ (sq_ (qa0 [(1, .go (owns 0 0 1))] [1] [(8, .slice q m capq), (9, .int .i64 (m : Nat)), (10, .int .i64 0)] (ds_ (at_block (At.pick [[bx (γ1 0) (#[.slice q m capq]) 38]] [0] [] ([bx (γ1 0) (#[.slice q m capq]) 38]) (by kernel_rfl) rfl rfl (at_loop (α := Nat) [1, 8, 9, 10] (fun j => [(1, .pointer (some ⟨γ1 0, 0, none⟩)), (8, .slice q m capq), (9, .int .i64 (m : Nat)), (10, .int .i64 (j : Nat))]) (fun j => [bx (γ1 0) (#[.slice q m capq]) 38]) (fun j => j ≤ m ∧ idsB 0 (((al.map GngA.val).take j).map (·.1)) = true ∧ (∀ g ∈ (al.map GngA.val).take j, mayB g.2 = true) ∧ (memL ((al.map GngA.val).take j)).Nodup) (fun j => m - j) 0 (by kernel_rfl) rfl ⟨Nat.zero_le _, rfl, all_take0T, List.nodup_nil⟩ ?_))))))))))
 rintro j
 rintro ⟨hj, hI, hA, hN⟩
 refine sq_ ?_
 by_cases q4 : ((j : Nat) : Int) < ((m : Nat) : Int)
 ·
  refine qa [(0, .yes)] [1, 8, 9, 10] [(11, .bool true)] ([((j : Nat) : Int) < ((m : Nat) : Int)]) (al1 q4) (ds_ (sq_ (t_ (at_skip (ds_ (sq_ (at_block (sq_ ?_))))))))
  obtain ⟨b7, o7, rfl⟩ := hal.pos (i := j) (by omega)
  obtain ⟨x9, hx9⟩ := get_some (l := al) (m := j) (by omega)
  have hsx9 : Sv w x9.p x9.l := (hnm x9 (List.mem_of_getElem? hx9)).sv
  have hnx9 : x9.n = x9.l.length := (hnm x9 (List.mem_of_getElem? hx9)).hn
  have hm9x9 := hm9 x9 (List.mem_of_getElem? hx9)
  refine ma [(1, .at b7 o7 j), (2, .go (outs b7 (o7 + j * 2) [.int .i64 x9.id, .slice x9.p x9.n x9.cap])), (5, .go (owns 0 0 2))] [1, 8, 9, 10] (fun γ10 => [(3, .int .i64 (j : Nat)), (4, .pointer (some ⟨γ10 0, 0, none⟩))]) (fun γ10 L => bx (γ10 0) (#[.int .i64 x9.id, .slice x9.p x9.n x9.cap]) 46 :: L) (fun γ10 => [(some ⟨b7, o7, none⟩ : Option Addr) = some ⟨b7, o7, none⟩, (j : Nat) = ((j : Nat) : Int), j < m] ++ (cellsP w b7 (o7 + j * 2) [.int .i64 x9.id, .slice x9.p x9.n x9.cap])) (fun γ10 => (alA (al2 rfl (al2 rfl (al1 (by omega)))) (rd_pre (hal.get hx9) _ rfl))) (fun γ10 => ds_ (sq_ (sq_ ?_)))
  by_cases q12 : (x9.id : Int) < (1 : Int)
  ·
   refine cq [(1, .go (owns 0 0 1)), (2, .yes)] [1, 3, 4, 8, 9, 10] [(44, .bool true)] ([(x9.id : Int) < (1 : Int)]) rfl (by kernel_rfl) (by kernel_rfl) (by kernel_rfl) (al1 q12) (ds_ (t_ (sq_ (qa0 [] [] [(2, .bool false)] (ds_ (rt ([]) (.bool false) ?_))))))
   have hla := ids_last hI
   exact fun w' hw => ⟨by rw [gang_ids (val_at hx9) (by show ¬ (_ < x9.id ∧ x9.id ≤ 8); omega)], hw.below⟩
  ·
   by_cases q16 : (x9.id : Int) > (8 : Int)
   ·
    refine cq [(1, .go (owns 0 0 1)), (2, .no), (5, .go (owns 0 0 1)), (6, .yes)] [1, 3, 4, 8, 9, 10] [(44, .bool true)] ([¬ ((x9.id : Int) < (1 : Int))] ++ ([(x9.id : Int) > (8 : Int)])) rfl (by kernel_rfl) (by kernel_rfl) (by kernel_rfl) (alA (al1 q12) (al1 q16)) (ds_ (t_ (sq_ (qa0 [] [] [(2, .bool false)] (ds_ (rt ([]) (.bool false) ?_))))))
    have hla := ids_last hI
    exact fun w' hw => ⟨by rw [gang_ids (val_at hx9) (by show ¬ (_ < x9.id ∧ x9.id ≤ 8); omega)], hw.below⟩
   ·
    by_cases q20 : ((j : Nat) : Int) > (0 : Int)
    ·
     obtain ⟨x22, hx22⟩ := get_some (l := al) (m := ((((j : Nat) : Int) - 1)).toNat) (by omega)
     have hsx22 : Sv w x22.p x22.l := (hnm x22 (List.mem_of_getElem? hx22)).sv
     have hnx22 : x22.n = x22.l.length := (hnm x22 (List.mem_of_getElem? hx22)).hn
     have hm9x22 := hm9 x22 (List.mem_of_getElem? hx22)
     by_cases q24 : (x22.id : Int) ≥ (x9.id : Int)
     ·
      refine cq [(1, .go (owns 0 0 1)), (2, .no), (5, .go (owns 0 0 1)), (6, .no), (10, .yes), (13, .go (owns 1 0 1)), (15, .fit), (16, .at b7 o7 (((((j : Nat) : Int) - 1)).toNat)), (18, .go (outs b7 (o7 + (((((j : Nat) : Int) - 1)).toNat) * 2) [.int .i64 x22.id])), (20, .go (owns 0 0 1)), (21, .yes)] [1, 3, 4, 8, 9, 10] [(44, .bool true)] ([¬ ((x9.id : Int) < (1 : Int))] ++ ([¬ ((x9.id : Int) > (8 : Int))] ++ ([((j : Nat) : Int) > (0 : Int)] ++ ([Fit .i64 ((j : Nat) - 1)] ++ ([(some ⟨b7, o7, none⟩ : Option Addr) = some ⟨b7, o7, none⟩, (((j : Nat) : Int) - 1) = ((((((j : Nat) : Int) - 1)).toNat : Nat) : Int), ((((j : Nat) : Int) - 1)).toNat < m] ++ (cellsP w b7 (o7 + (((((j : Nat) : Int) - 1)).toNat) * 2) [.int .i64 x22.id] ++ ([(x22.id : Int) ≥ (x9.id : Int)]))))))) rfl (by kernel_rfl) (by kernel_rfl) (by kernel_rfl) (alA (al1 q12) (alA (al1 q16) (alA (al1 q20) (alA (al1 (fit64 (by omega) (by omega))) (alA (al2 rfl (al2 (by omega) (al1 (by omega)))) (alA (rd_pre (hal.get hx22) _ rfl) (al1 q24))))))) (ds_ (t_ (sq_ (qa0 [] [] [(2, .bool false)] (ds_ (rt ([]) (.bool false) ?_))))))
      have hla : lastV 0 (((al.map GngA.val).take j).map (·.1)) = x22.id := lastid_prev (j := j) (val_at hx22) (by omega)
      exact fun w' hw => ⟨by rw [gang_ids (val_at hx9) (by rw [hla]; show ¬ (_ < x9.id ∧ x9.id ≤ 8); omega)], hw.below⟩
     ·
      refine at_calm rfl (by kernel_rfl) (by kernel_rfl) ?_
      refine cm 27 [(1, .go (owns 0 0 1)), (2, .no), (5, .go (owns 0 0 1)), (6, .no), (10, .yes), (13, .go (owns 1 0 1)), (15, .fit), (16, .at b7 o7 (((((j : Nat) : Int) - 1)).toNat)), (18, .go (outs b7 (o7 + (((((j : Nat) : Int) - 1)).toNat) * 2) [.int .i64 x22.id])), (20, .go (owns 0 0 1)), (21, .no), (26, .go (owns 0 1 1))] [1, 3, 4, 8, 9, 10] [(39, .bool false), (41, .slice x9.p x9.n x9.cap)] ([¬ ((x9.id : Int) < (1 : Int))] ++ ([¬ ((x9.id : Int) > (8 : Int))] ++ ([((j : Nat) : Int) > (0 : Int)] ++ ([Fit .i64 ((j : Nat) - 1)] ++ ([(some ⟨b7, o7, none⟩ : Option Addr) = some ⟨b7, o7, none⟩, (((j : Nat) : Int) - 1) = ((((((j : Nat) : Int) - 1)).toNat : Nat) : Int), ((((j : Nat) : Int) - 1)).toNat < m] ++ (cellsP w b7 (o7 + (((((j : Nat) : Int) - 1)).toNat) * 2) [.int .i64 x22.id] ++ ([¬ ((x22.id : Int) ≥ (x9.id : Int))]))))))) (by kernel_rfl) rfl (alA (al1 q12) (alA (al1 q16) (alA (al1 q20) (alA (al1 (fit64 (by omega) (by omega))) (alA (al2 rfl (al2 (by omega) (al1 (by omega)))) (alA (rd_pre (hal.get hx22) _ rfl) (al1 q24))))))) ?_
      rcases q28 : mayB x9.l with _ | _
      ·
       refine cK (.bool false) Try.call40 (fun w hw => by have := rmembers_t x9.p x9.n x9.cap x9.l w (hsx9.kept hw.below) hnx9 (by omega); rw [q28] at this; exact this) ?_
       refine cm 2 [] [1, 3, 4, 8, 9, 10] [(44, .bool true)] ([]) (by kernel_rfl) rfl al0 ?_
       refine calm_nil' ?_
       refine ds_ (t_ (sq_ (qa0 [] [] [(2, .bool false)] (ds_ (rt ([]) (.bool false) ?_)))))
       exact fun w' hw => ⟨by rw [gang_may (val_at hx9) q28], hw.below⟩
      ·
       refine cK (.bool true) Try.call40 (fun w hw => by have := rmembers_t x9.p x9.n x9.cap x9.l w (hsx9.kept hw.below) hnx9 (by omega); rw [q28] at this; exact this) ?_
       refine cm 2 [] [1, 3, 4, 8, 9, 10] [(44, .bool false)] ([]) (by kernel_rfl) rfl al0 ?_
       refine calm_nil' ?_
       refine ds_ (f_ (at_skip (ds_ (sq_ (qa0 [(1, .go (owns 0 1 1))] [1, 3, 8, 9, 10] [(46, .slice x9.p x9.n x9.cap), (47, .int .i64 (x9.n : Nat)), (48, .int .i64 0)] (ds_ (at_block (At.pick [[bx (γ10 0) (#[.int .i64 x9.id, .slice x9.p x9.n x9.cap]) 46], [bx (γ1 0) (#[.slice (some ⟨b7, o7, none⟩) m capq]) 38]] [1] [0] ([bx (γ1 0) (#[.slice (some ⟨b7, o7, none⟩) m capq]) 38]) (by kernel_rfl) rfl rfl (at_loop (α := Nat) [1, 3, 8, 9, 10, 46, 47, 48] (fun i => [(1, .pointer (some ⟨γ1 0, 0, none⟩)), (3, .int .i64 (j : Nat)), (8, .slice (some ⟨b7, o7, none⟩) m capq), (9, .int .i64 (m : Nat)), (10, .int .i64 (j : Nat)), (46, .slice x9.p x9.n x9.cap), (47, .int .i64 (x9.n : Nat)), (48, .int .i64 (i : Nat))]) (fun i => [bx (γ1 0) (#[.slice (some ⟨b7, o7, none⟩) m capq]) 38]) (fun i => i ≤ x9.n ∧ (memL ((al.map GngA.val).take j) ++ x9.l.take i).Nodup) (fun i => x9.n - i) 0 (by kernel_rfl) rfl ⟨Nat.zero_le _, by rw [List.take_zero, List.append_nil]; exact hN⟩ ?_)))))))))
       rintro i
       rintro ⟨hi, hN2⟩
       refine sq_ ?_
       by_cases q34 : ((i : Nat) : Int) < ((x9.n : Nat) : Int)
       ·
        refine qa [(0, .yes)] [1, 3, 8, 9, 10, 46, 47, 48] [(49, .bool true)] ([((i : Nat) : Int) < ((x9.n : Nat) : Int)]) (al1 q34) (ds_ (sq_ (t_ (at_skip (ds_ (sq_ (at_block (sq_ ?_))))))))
        obtain ⟨b37, o37, hbo37⟩ := hsx9.pos (i := i) (by omega)
        have hsv37 := hsx9
        rw [hbo37] at hsv37
        obtain ⟨x39, hx39⟩ := get_some (l := x9.l) (m := i) (by omega)
        refine qa [(0, .at b37 o37 i), (1, .go (outs b37 (o37 + i * 1) [.int .i64 x39]))] [1, 3, 8, 9, 10, 46, 47, 48] [(6, .int .i64 x39)] ([(x9.p : Option Addr) = some ⟨b37, o37, none⟩, (i : Nat) = ((i : Nat) : Int), i < x9.n] ++ (cellsP w b37 (o37 + i * 1) [.int .i64 x39])) (alA (al2 hbo37 (al2 rfl (al1 (by omega)))) (rd_pre (hsv37.get hx39) _ rfl)) (ds_ (sq_ (ao_ (qo 6 [(1, .go (owns 0 0 1)), (3, .sl (.slice (some ⟨b7, o7, none⟩) j capq))] [1, 3, 8, 9, 10, 46, 47, 48] [(56, .agg #[.slice (some ⟨b7, o7, none⟩) j capq]), (57, .int .i64 x39)] ([SlRun Try.prog 36 (.slice (some ⟨b7, o7, none⟩) m capq) none (some (.int .i64 (j : Nat))) none (.slice (some ⟨b7, o7, none⟩) j capq)]) (al1 (slE_hi (P := Try.prog) (h := j) (T := 36) (e := 46) (k := 2) (by_ := 32) (by kernel_rfl) (by omega))) (cD (.int .i64 (rofV ((al.take j).map GngA.val) x39)) Try.call24 (fun w hw => rof_t (some ⟨b7, o7, none⟩) j capq (al.take j) x39 w ((hal.kept hw.below).take j) (by rw [List.length_take]; omega) (by omega) (fun x hx => (fun x hx => (hnm x hx).kept hw.below) x (List.mem_of_mem_take hx)) (fun x hx => hm9 x (List.mem_of_mem_take hx))) ?_)))))
        by_cases q43 : ((rofV ((al.take j).map GngA.val) x39) : Int) > (0 : Int)
        ·
         refine qo 1 [(7, .yes)] [1, 3, 8, 9, 10, 46, 47, 48] [(59, .bool true)] ([((rofV ((al.take j).map GngA.val) x39) : Int) > (0 : Int)]) (al1 q43) (on_ (ds_ (t_ (sq_ (qa0 [] [] [(2, .bool false)] (ds_ (rt ([]) (.bool false) ?_)))))))
         exact fun w' hw => ⟨by rw [gang_twice (val_at hx9) hx39 (rr_twice (by rw [val_take]; exact q43))], hw.below⟩
        ·
         refine qo 1 [(7, .no)] [1, 3, 8, 9, 10, 46, 47, 48] [(59, .bool false)] ([¬ (((rofV ((al.take j).map GngA.val) x39) : Int) > (0 : Int))]) (al1 q43) (on_ (ds_ (f_ (at_skip (done_block (ds_ (qa [(0, .fit)] [1, 3, 8, 9, 10, 46, 47] [(48, .int .i64 (i + 1 : Nat))] ([Fit .i64 ((i + 1 : Nat))]) (al1 (fit64 (by omega) (by omega))) ?_)))))))
         exact dr [1, 3, 8, 9, 10, 46, 47, 48] (i + 1) ⟨by omega, by rw [take_one hx39, ← List.append_assoc]; exact nodup_more hN2 (rr_more hI q28 hx39 (by rw [val_take]; exact q43))⟩
       ·
        refine qa [(0, .no)] [1, 3, 8, 9, 10, 46, 47, 48] [(49, .bool false)] ([¬ (((i : Nat) : Int) < ((x9.n : Nat) : Int))]) (al1 q34) (ds_ (sq_ (f_ (at_leave _ rfl (done_block (ds_ (qa [(0, .fit)] [1, 8, 9] [(10, .int .i64 (j + 1 : Nat))] ([Fit .i64 ((j + 1 : Nat))]) (al1 (fit64 (by omega) (by omega))) ?_)))))))
        rw [show x9.l.take i = x9.l from List.take_of_length_le (by omega)] at hN2
        have hla : lastV 0 (((al.map GngA.val).take j).map (·.1)) = x22.id := lastid_prev (j := j) (val_at hx22) (by omega)
        exact dr [1, 8, 9, 10] (j + 1) ⟨by omega, ids_onT hI (val_at hx9) (by rw [hla]; show _ < x9.id ∧ x9.id ≤ 8; omega), all_onT hA (val_at hx9) q28, by rw [memL_onT (val_at hx9)]; exact hN2⟩
    ·
     refine at_calm rfl (by kernel_rfl) (by kernel_rfl) ?_
     refine cm 27 [(1, .go (owns 0 0 1)), (2, .no), (5, .go (owns 0 0 1)), (6, .no), (10, .no), (26, .go (owns 0 1 1))] [1, 3, 4, 8, 9, 10] [(39, .bool false), (41, .slice x9.p x9.n x9.cap)] ([¬ ((x9.id : Int) < (1 : Int))] ++ ([¬ ((x9.id : Int) > (8 : Int))] ++ ([¬ (((j : Nat) : Int) > (0 : Int))]))) (by kernel_rfl) rfl (alA (al1 q12) (alA (al1 q16) (al1 q20))) ?_
     rcases q51 : mayB x9.l with _ | _
     ·
      refine cK (.bool false) Try.call40 (fun w hw => by have := rmembers_t x9.p x9.n x9.cap x9.l w (hsx9.kept hw.below) hnx9 (by omega); rw [q51] at this; exact this) ?_
      refine cm 2 [] [1, 3, 4, 8, 9, 10] [(44, .bool true)] ([]) (by kernel_rfl) rfl al0 ?_
      refine calm_nil' ?_
      refine ds_ (t_ (sq_ (qa0 [] [] [(2, .bool false)] (ds_ (rt ([]) (.bool false) ?_)))))
      exact fun w' hw => ⟨by rw [gang_may (val_at hx9) q51], hw.below⟩
     ·
      refine cK (.bool true) Try.call40 (fun w hw => by have := rmembers_t x9.p x9.n x9.cap x9.l w (hsx9.kept hw.below) hnx9 (by omega); rw [q51] at this; exact this) ?_
      refine cm 2 [] [1, 3, 4, 8, 9, 10] [(44, .bool false)] ([]) (by kernel_rfl) rfl al0 ?_
      refine calm_nil' ?_
      refine ds_ (f_ (at_skip (ds_ (sq_ (qa0 [(1, .go (owns 0 1 1))] [1, 3, 8, 9, 10] [(46, .slice x9.p x9.n x9.cap), (47, .int .i64 (x9.n : Nat)), (48, .int .i64 0)] (ds_ (at_block (At.pick [[bx (γ10 0) (#[.int .i64 x9.id, .slice x9.p x9.n x9.cap]) 46], [bx (γ1 0) (#[.slice (some ⟨b7, o7, none⟩) m capq]) 38]] [1] [0] ([bx (γ1 0) (#[.slice (some ⟨b7, o7, none⟩) m capq]) 38]) (by kernel_rfl) rfl rfl (at_loop (α := Nat) [1, 3, 8, 9, 10, 46, 47, 48] (fun i => [(1, .pointer (some ⟨γ1 0, 0, none⟩)), (3, .int .i64 (j : Nat)), (8, .slice (some ⟨b7, o7, none⟩) m capq), (9, .int .i64 (m : Nat)), (10, .int .i64 (j : Nat)), (46, .slice x9.p x9.n x9.cap), (47, .int .i64 (x9.n : Nat)), (48, .int .i64 (i : Nat))]) (fun i => [bx (γ1 0) (#[.slice (some ⟨b7, o7, none⟩) m capq]) 38]) (fun i => i ≤ x9.n ∧ (memL ((al.map GngA.val).take j) ++ x9.l.take i).Nodup) (fun i => x9.n - i) 0 (by kernel_rfl) rfl ⟨Nat.zero_le _, by rw [List.take_zero, List.append_nil]; exact hN⟩ ?_)))))))))
      rintro i
      rintro ⟨hi, hN2⟩
      refine sq_ ?_
      by_cases q57 : ((i : Nat) : Int) < ((x9.n : Nat) : Int)
      ·
       refine qa [(0, .yes)] [1, 3, 8, 9, 10, 46, 47, 48] [(49, .bool true)] ([((i : Nat) : Int) < ((x9.n : Nat) : Int)]) (al1 q57) (ds_ (sq_ (t_ (at_skip (ds_ (sq_ (at_block (sq_ ?_))))))))
       obtain ⟨b60, o60, hbo60⟩ := hsx9.pos (i := i) (by omega)
       have hsv60 := hsx9
       rw [hbo60] at hsv60
       obtain ⟨x62, hx62⟩ := get_some (l := x9.l) (m := i) (by omega)
       refine qa [(0, .at b60 o60 i), (1, .go (outs b60 (o60 + i * 1) [.int .i64 x62]))] [1, 3, 8, 9, 10, 46, 47, 48] [(6, .int .i64 x62)] ([(x9.p : Option Addr) = some ⟨b60, o60, none⟩, (i : Nat) = ((i : Nat) : Int), i < x9.n] ++ (cellsP w b60 (o60 + i * 1) [.int .i64 x62])) (alA (al2 hbo60 (al2 rfl (al1 (by omega)))) (rd_pre (hsv60.get hx62) _ rfl)) (ds_ (sq_ (ao_ (qo 6 [(1, .go (owns 0 0 1)), (3, .sl (.slice (some ⟨b7, o7, none⟩) j capq))] [1, 3, 8, 9, 10, 46, 47, 48] [(56, .agg #[.slice (some ⟨b7, o7, none⟩) j capq]), (57, .int .i64 x62)] ([SlRun Try.prog 36 (.slice (some ⟨b7, o7, none⟩) m capq) none (some (.int .i64 (j : Nat))) none (.slice (some ⟨b7, o7, none⟩) j capq)]) (al1 (slE_hi (P := Try.prog) (h := j) (T := 36) (e := 46) (k := 2) (by_ := 32) (by kernel_rfl) (by omega))) (cD (.int .i64 (rofV ((al.take j).map GngA.val) x62)) Try.call24 (fun w hw => rof_t (some ⟨b7, o7, none⟩) j capq (al.take j) x62 w ((hal.kept hw.below).take j) (by rw [List.length_take]; omega) (by omega) (fun x hx => (fun x hx => (hnm x hx).kept hw.below) x (List.mem_of_mem_take hx)) (fun x hx => hm9 x (List.mem_of_mem_take hx))) ?_)))))
       by_cases q66 : ((rofV ((al.take j).map GngA.val) x62) : Int) > (0 : Int)
       ·
        refine qo 1 [(7, .yes)] [1, 3, 8, 9, 10, 46, 47, 48] [(59, .bool true)] ([((rofV ((al.take j).map GngA.val) x62) : Int) > (0 : Int)]) (al1 q66) (on_ (ds_ (t_ (sq_ (qa0 [] [] [(2, .bool false)] (ds_ (rt ([]) (.bool false) ?_)))))))
        exact fun w' hw => ⟨by rw [gang_twice (val_at hx9) hx62 (rr_twice (by rw [val_take]; exact q66))], hw.below⟩
       ·
        refine qo 1 [(7, .no)] [1, 3, 8, 9, 10, 46, 47, 48] [(59, .bool false)] ([¬ (((rofV ((al.take j).map GngA.val) x62) : Int) > (0 : Int))]) (al1 q66) (on_ (ds_ (f_ (at_skip (done_block (ds_ (qa [(0, .fit)] [1, 3, 8, 9, 10, 46, 47] [(48, .int .i64 (i + 1 : Nat))] ([Fit .i64 ((i + 1 : Nat))]) (al1 (fit64 (by omega) (by omega))) ?_)))))))
        exact dr [1, 3, 8, 9, 10, 46, 47, 48] (i + 1) ⟨by omega, by rw [take_one hx62, ← List.append_assoc]; exact nodup_more hN2 (rr_more hI q51 hx62 (by rw [val_take]; exact q66))⟩
      ·
       refine qa [(0, .no)] [1, 3, 8, 9, 10, 46, 47, 48] [(49, .bool false)] ([¬ (((i : Nat) : Int) < ((x9.n : Nat) : Int))]) (al1 q57) (ds_ (sq_ (f_ (at_leave _ rfl (done_block (ds_ (qa [(0, .fit)] [1, 8, 9] [(10, .int .i64 (j + 1 : Nat))] ([Fit .i64 ((j + 1 : Nat))]) (al1 (fit64 (by omega) (by omega))) ?_)))))))
       rw [show x9.l.take i = x9.l from List.take_of_length_le (by omega)] at hN2
       have hla : lastV 0 (((al.map GngA.val).take j).map (·.1)) = 0 := lastid_zero (by omega)
       exact dr [1, 8, 9, 10] (j + 1) ⟨by omega, ids_onT hI (val_at hx9) (by rw [hla]; show _ < x9.id ∧ x9.id ≤ 8; omega), all_onT hA (val_at hx9) q51, by rw [memL_onT (val_at hx9)]; exact hN2⟩
 ·
  refine qa [(0, .no)] [1, 8, 9, 10] [(11, .bool false)] ([¬ (((j : Nat) : Int) < ((m : Nat) : Int))]) (al1 q4) (ds_ (sq_ (f_ (at_leave _ rfl (ds_ (sq_ (qa0 [] [] [(2, .bool true)] (ds_ (rt ([]) (.bool true) ?_)))))))))
  exact fun w' hw => ⟨by rw [gang_end hI hA hN (by rw [List.length_map]; omega)], hw.below⟩

set_option maxRecDepth 100000 in
theorem rget_t (q : Option Addr) (m capq : Nat) (al : List GngA) (k : Int) (w : World)
 (hal : Sv w q al) (hma : m = al.length) (hbm : m ≤ 1000) (hnm : ∀ x ∈ al, x.Reads w) (hm9 : ∀ x ∈ al, x.n ≤ 1000)
 : Calls Try.prog 23 #[.agg #[.slice q m capq], .int .i64 k] w fun e w' => e = .returned (.slice (getA al k).1 (getA al k).2.1 (getA al k).2.2.1) ∧ Below w.heap.size w w' := by
 refine enter (Hs.start w) Try.func23 rfl Try.ntmps23 rfl (sq_ (ma0 [] [1] (fun γ1 => [(2, .pointer (some ⟨γ1 0, 0, none⟩))]) (fun γ1 L => bx (γ1 0) (#[.slice q m capq]) 38 :: L) (fun γ1 => ds_ (sq_ (sq_ (qa0 [(1, .go (owns 0 0 1))] [1] [(8, .slice q m capq), (9, .int .i64 (m : Nat)), (10, .int .i64 0)] (ds_ (at_block (At.pick [[bx (γ1 0) (#[.slice q m capq]) 38]] [] [0] ([]) (by kernel_rfl) rfl rfl (at_loop (α := Nat) [1, 8, 9, 10] (fun j => [(1, .int .i64 k), (8, .slice q m capq), (9, .int .i64 (m : Nat)), (10, .int .i64 (j : Nat))]) (fun j => []) (fun j => j ≤ m ∧ ∀ (t : Nat) (y : GngA), t < j → al[t]? = some y → ¬ y.id = k) (fun j => m - j) 0 (by kernel_rfl) rfl ⟨Nat.zero_le _, fun t y h => by omega⟩ ?_))))))))))
 rintro j
 rintro ⟨hj, hI⟩
 refine sq_ ?_
 by_cases q4 : ((j : Nat) : Int) < ((m : Nat) : Int)
 ·
  refine qa [(0, .yes)] [1, 8, 9, 10] [(11, .bool true)] ([((j : Nat) : Int) < ((m : Nat) : Int)]) (al1 q4) (ds_ (sq_ (t_ (at_skip (ds_ (sq_ (at_block (sq_ ?_))))))))
  obtain ⟨b7, o7, rfl⟩ := hal.pos (i := j) (by omega)
  obtain ⟨x9, hx9⟩ := get_some (l := al) (m := j) (by omega)
  have hsx9 : Sv w x9.p x9.l := (hnm x9 (List.mem_of_getElem? hx9)).sv
  have hnx9 : x9.n = x9.l.length := (hnm x9 (List.mem_of_getElem? hx9)).hn
  have hm9x9 := hm9 x9 (List.mem_of_getElem? hx9)
  refine ma [(0, .at b7 o7 j), (1, .go (outs b7 (o7 + j * 2) [.int .i64 x9.id, .slice x9.p x9.n x9.cap])), (3, .go (owns 0 0 2))] [1, 8, 9, 10] (fun γ10 => [(6, .pointer (some ⟨γ10 0, 0, none⟩))]) (fun γ10 L => bx (γ10 0) (#[.int .i64 x9.id, .slice x9.p x9.n x9.cap]) 46 :: L) (fun γ10 => [(some ⟨b7, o7, none⟩ : Option Addr) = some ⟨b7, o7, none⟩, (j : Nat) = ((j : Nat) : Int), j < m] ++ (cellsP w b7 (o7 + j * 2) [.int .i64 x9.id, .slice x9.p x9.n x9.cap])) (fun γ10 => (alA (al2 rfl (al2 rfl (al1 (by omega)))) (rd_pre (hal.get hx9) _ rfl))) (fun γ10 => ds_ (sq_ ?_))
  by_cases q12 : (x9.id : Int) = (k : Int)
  ·
   refine qa [(1, .go (owns 0 0 1)), (3, .yes)] [1, 6, 8, 9, 10] [(17, .bool true)] ([(x9.id : Int) = (k : Int)]) (al1 q12) (ds_ (t_ (sq_ (qa0 [(1, .go (owns 0 1 1))] [] [(4, .slice x9.p x9.n x9.cap)] (ds_ (rt ([]) (.slice x9.p x9.n x9.cap) ?_))))))
   exact fun w' hw => ⟨by rw [get_some14 hx9 q12 hI], hw.below⟩
  ·
   refine qa [(1, .go (owns 0 0 1)), (3, .no)] [1, 6, 8, 9, 10] [(17, .bool false)] ([¬ ((x9.id : Int) = (k : Int))]) (al1 q12) (ds_ (f_ (at_skip (done_block (ds_ (qa [(0, .fit)] [1, 8, 9] [(10, .int .i64 (j + 1 : Nat))] ([Fit .i64 ((j + 1 : Nat))]) (al1 (fit64 (by omega) (by omega))) (Done.drop (L' := []) ?_ (List.Sublist.cons _ (List.Sublist.refl _)))))))))
   exact dr [1, 8, 9, 10] (j + 1) ⟨by omega, fun t y ht e => by by_cases htj : t = j; (subst htj; rw [hx9] at e; cases e; exact q12); exact hI t y (by omega) e⟩
 ·
  refine qa [(0, .no)] [1, 8, 9, 10] [(11, .bool false)] ([¬ (((j : Nat) : Int) < ((m : Nat) : Int))]) (al1 q4) (ds_ (sq_ (f_ (at_leave _ rfl (ds_ (sq_ (qa0 [] [] [(4, .slice none 0 0)] (ds_ (rt ([]) (.slice none 0 0) ?_)))))))))
  exact fun w' hw => ⟨by rw [get_none14 (by omega) hI], hw.below⟩

set_option maxRecDepth 100000 in
theorem rsame_t (q : Option Addr) (m capq : Nat) (al : List GngA) (q2 : Option Addr) (m2 capq2 : Nat) (bl : List GngA) (w : World)
 (hal : Sv w q al) (hma : m = al.length) (hbm : m ≤ 1000) (hnm : ∀ x ∈ al, x.Reads w) (hm9 : ∀ x ∈ al, x.n ≤ 1000)
 (hal2 : Sv w q2 bl) (hma2 : m2 = bl.length) (hbm2 : m2 ≤ 1000) (hnm2 : ∀ x ∈ bl, x.Reads w) (hm92 : ∀ x ∈ bl, x.n ≤ 1000)
 : Calls Try.prog 20 #[.agg #[.slice q m capq], .agg #[.slice q2 m2 capq2]] w fun e w' => e = .returned (.bool (decide (al.map GngA.val = bl.map GngA.val))) ∧ Below w.heap.size w w' := by
 refine enter (Hs.start w) Try.func20 rfl Try.ntmps20 rfl (sq_ (ma0 [] [] (fun γ1 => [(2, .pointer (some ⟨γ1 0, 0, none⟩)), (3, .pointer (some ⟨γ1 1, 0, none⟩))]) (fun γ1 L => bx (γ1 1) (#[.slice q2 m2 capq2]) 38 :: bx (γ1 0) (#[.slice q m capq]) 38 :: L) (fun γ1 => ds_ (sq_ (sq_ ?_)))))
 by_cases q3 : ((m : Nat) : Int) ≠ ((m2 : Nat) : Int)
 ·
  refine qa [(1, .go (owns 1 0 1)), (4, .go (owns 0 0 1)), (6, .yes)] [2, 3] [(14, .bool true)] ([((m : Nat) : Int) ≠ ((m2 : Nat) : Int)]) (al1 q3) (ds_ (t_ (sq_ (qa0 [] [] [(4, .bool false)] (ds_ (rt ([]) (.bool false) ?_))))))
  exact fun w' hw => ⟨by rw [gsame_len (al := al) (bl := bl) (by omega)], hw.below⟩
 ·
  refine qa [(1, .go (owns 1 0 1)), (4, .go (owns 0 0 1)), (6, .no)] [2, 3] [(14, .bool false)] ([¬ (((m : Nat) : Int) ≠ ((m2 : Nat) : Int))]) (al1 q3) (ds_ (f_ (at_skip (ds_ (sq_ (sq_ (qa0 [(1, .go (owns 1 0 1))] [3] [(16, .slice q m capq), (17, .int .i64 (m : Nat)), (18, .int .i64 0)] (ds_ (at_block (At.pick [[bx (γ1 1) (#[.slice q2 m2 capq2]) 38], [bx (γ1 0) (#[.slice q m capq]) 38]] [0] [1] ([bx (γ1 1) (#[.slice q2 m2 capq2]) 38]) (by kernel_rfl) rfl rfl (at_loop (α := Nat) [3, 16, 17, 18] (fun j => [(3, .pointer (some ⟨γ1 1, 0, none⟩)), (16, .slice q m capq), (17, .int .i64 (m : Nat)), (18, .int .i64 (j : Nat))]) (fun j => [bx (γ1 1) (#[.slice q2 m2 capq2]) 38]) (fun j => j ≤ m ∧ (al.take j).map GngA.val = (bl.take j).map GngA.val) (fun j => m - j) 0 (by kernel_rfl) rfl ⟨Nat.zero_le _, rfl⟩ ?_)))))))))))
  rintro j
  rintro ⟨hj, hI⟩
  refine sq_ ?_
  by_cases q9 : ((j : Nat) : Int) < ((m : Nat) : Int)
  ·
   refine qa [(0, .yes)] [3, 16, 17, 18] [(19, .bool true)] ([((j : Nat) : Int) < ((m : Nat) : Int)]) (al1 q9) (ds_ (sq_ (t_ (at_skip (ds_ (sq_ (at_block (sq_ ?_))))))))
   obtain ⟨b12, o12, rfl⟩ := hal.pos (i := j) (by omega)
   obtain ⟨x14, hx14⟩ := get_some (l := al) (m := j) (by omega)
   have hsx14 : Sv w x14.p x14.l := (hnm x14 (List.mem_of_getElem? hx14)).sv
   have hnx14 : x14.n = x14.l.length := (hnm x14 (List.mem_of_getElem? hx14)).hn
   have hm9x14 := hm9 x14 (List.mem_of_getElem? hx14)
   refine ma [(1, .at b12 o12 j), (2, .go (outs b12 (o12 + j * 2) [.int .i64 x14.id, .slice x14.p x14.n x14.cap])), (5, .go (owns 0 0 2))] [3, 16, 17, 18] (fun γ15 => [(5, .int .i64 (j : Nat)), (6, .pointer (some ⟨γ15 0, 0, none⟩))]) (fun γ15 L => bx (γ15 0) (#[.int .i64 x14.id, .slice x14.p x14.n x14.cap]) 46 :: L) (fun γ15 => [(some ⟨b12, o12, none⟩ : Option Addr) = some ⟨b12, o12, none⟩, (j : Nat) = ((j : Nat) : Int), j < m] ++ (cellsP w b12 (o12 + j * 2) [.int .i64 x14.id, .slice x14.p x14.n x14.cap])) (fun γ15 => (alA (al2 rfl (al2 rfl (al1 (by omega)))) (rd_pre (hal.get hx14) _ rfl))) (fun γ15 => ds_ (sq_ ?_))
   obtain ⟨b17, o17, rfl⟩ := hal2.pos (i := j) (by omega)
   obtain ⟨x19, hx19⟩ := get_some (l := bl) (m := j) (by omega)
   have hsx19 : Sv w x19.p x19.l := (hnm2 x19 (List.mem_of_getElem? hx19)).sv
   have hnx19 : x19.n = x19.l.length := (hnm2 x19 (List.mem_of_getElem? hx19)).hn
   have hm9x19 := hm92 x19 (List.mem_of_getElem? hx19)
   refine ma [(1, .go (owns 1 0 1)), (3, .at b17 o17 j), (4, .go (outs b17 (o17 + j * 2) [.int .i64 x19.id, .slice x19.p x19.n x19.cap])), (6, .go (owns 0 0 2))] [3, 6, 16, 17, 18] (fun γ20 => [(7, .pointer (some ⟨γ20 0, 0, none⟩))]) (fun γ20 L => bx (γ20 0) (#[.int .i64 x19.id, .slice x19.p x19.n x19.cap]) 46 :: L) (fun γ20 => [(some ⟨b17, o17, none⟩ : Option Addr) = some ⟨b17, o17, none⟩, (j : Nat) = ((j : Nat) : Int), j < m2] ++ (cellsP w b17 (o17 + j * 2) [.int .i64 x19.id, .slice x19.p x19.n x19.cap])) (fun γ20 => (alA (al2 rfl (al2 rfl (al1 (by omega)))) (rd_pre (hal2.get hx19) _ rfl))) (fun γ20 => ds_ (sq_ ?_))
   by_cases q22 : (x14.id : Int) ≠ (x19.id : Int)
   ·
    refine qa [(1, .go (owns 1 0 1)), (3, .go (owns 0 0 1)), (4, .yes)] [3, 16, 17, 18] [(40, .bool true)] ([(x14.id : Int) ≠ (x19.id : Int)]) (al1 q22) (ds_ (t_ (sq_ (qa0 [] [] [(4, .bool false)] (ds_ (rt ([]) (.bool false) ?_))))))
    exact fun w' hw => ⟨by rw [gsame_no hx14 hx19 (decide_eq_false (fun e => absurd (show x14.id = x19.id from congrArg Prod.fst e) (by omega)))], hw.below⟩
   ·
    refine ao_ (qo 10 [(1, .go (owns 1 0 1)), (3, .go (owns 0 0 1)), (4, .no), (7, .go (owns 1 1 1)), (9, .go (owns 0 1 1))] [3, 16, 17, 18] [(33, .bool false), (35, .slice x14.p x14.n x14.cap), (37, .slice x19.p x19.n x19.cap)] ([¬ ((x14.id : Int) ≠ (x19.id : Int))]) (al1 q22) ?_)
    rcases q26 : decide (x14.l = x19.l) with _ | _
    ·
     refine cD (.bool false) Try.call14 (fun w hw => by have := samei_t x14.p x14.n x14.cap x14.l x19.p x19.n x19.cap x19.l w (hsx14.kept hw.below) hnx14 (by omega) (hsx19.kept hw.below) hnx19 (by omega); rw [q26] at this; exact this) (qo0 2 [] [3, 16, 17, 18] [(40, .bool true)] (on_ (ds_ (t_ (sq_ (qa0 [] [] [(4, .bool false)] (ds_ (rt ([]) (.bool false) ?_))))))))
     exact fun w' hw => ⟨by rw [gsame_no hx14 hx19 (decide_eq_false (fun e => of_decide_eq_false q26 (congrArg Prod.snd e)))], hw.below⟩
    ·
     refine cD (.bool true) Try.call14 (fun w hw => by have := samei_t x14.p x14.n x14.cap x14.l x19.p x19.n x19.cap x19.l w (hsx14.kept hw.below) hnx14 (by omega) (hsx19.kept hw.below) hnx19 (by omega); rw [q26] at this; exact this) (qo0 2 [] [3, 16, 17, 18] [(40, .bool false)] (on_ (ds_ (f_ (at_skip (done_block (ds_ (qa [(0, .fit)] [3, 16, 17] [(18, .int .i64 (j + 1 : Nat))] ([Fit .i64 ((j + 1 : Nat))]) (al1 (fit64 (by omega) (by omega))) (Done.drop (L' := [bx (γ1 1) (#[.slice (some ⟨b17, o17, none⟩) m2 capq2]) 38]) ?_ (List.Sublist.cons _ (List.Sublist.cons _ (List.Sublist.cons_cons _ (List.Sublist.refl _)))))))))))))
     exact dr [3, 16, 17, 18] (j + 1) ⟨by omega, gsame_on hI hx14 hx19 (decide_eq_true (show (x14.id, x14.l) = (x19.id, x19.l) from by rw [show x14.id = x19.id by omega, of_decide_eq_true q26]))⟩
  ·
   refine qa [(0, .no)] [3, 16, 17, 18] [(19, .bool false)] ([¬ (((j : Nat) : Int) < ((m : Nat) : Int))]) (al1 q9) (ds_ (sq_ (f_ (at_leave _ rfl (ds_ (sq_ (qa0 [] [] [(4, .bool true)] (ds_ (rt ([]) (.bool true) ?_)))))))))
   exact fun w' hw => ⟨by rw [gsame_yes hI (by omega) (by omega)], hw.below⟩
end Go.Proofs.Ytahccegfahghfaa

/-! Short gangs. -/
namespace Go.Proofs.Ytahccegfahghfaa
open Go Go.RowKit

set_option maxRecDepth 100000 in
theorem ints_t (p : Option Addr) (n cap : Nat) (l : List Int) (w : World)
 (hsl : Sv w p l) (hn : n = l.length) (hcp : n ≤ cap) (hb : n ≤ 9223372036854775807)
 : Calls Try.prog 30 #[.slice p n cap] w fun e w' => ∃ q' n' c' Y, e = .returned (.slice q' n' c') ∧ SlO 3 Y q' n' c' (l.take 17) ∧ Below w.heap.size w w' ∧ Hs w Y w' := by
 refine enter (Hs.start w) Try.func30 rfl Try.ntmps30 rfl (sq_ (qa0 [] [0] [] (ds_ (sq_ (ao_ (mo 6 [(5, .sl (.slice p (min n 17) cap))] [] (fun γ2 => [(3, .slice (some ⟨γ2 0, 0, none⟩) 0 0), (8, .slice p (min n 17) cap)]) (fun γ2 L => bx (γ2 0) (#[]) 3 :: L) (fun γ2 => [SlRun Try.prog 25 (.slice p n cap) none (some (.int .i64 (if (17 : Int) < ((n : Nat) : Int) then 17 else (n : Nat)))) none (.slice p (min n 17) cap)]) (fun γ2 => (al1 (by rw [min_if17]; exact slE_hi (P := Try.prog) (h := (min n 17)) (T := 25) (e := 3) (k := 1) (by_ := 8) (by kernel_rfl) (by omega)))) (fun γ2 => ops_append (α := Int) [] ([bx (γ2 0) (#[]) 3]) ([]) (mvE rfl) rfl (by kernel_rfl) (by kernel_rfl) (p := (some ⟨γ2 0, 0, none⟩)) (n := 0) (cap := 0) (m := (min n 17)) (yv := .slice p (min n 17) cap) (by kernel_rfl) (by kernel_rfl) (T := 3) (by_ := 8) (by kernel_rfl) ([]) (l.take (min n 17)) (SlO.lit (by rfl) (by rfl) (by simp [maxLen])) (fun w hw => src_svn Try.underlying25 ((hsl.kept hw.below).take (min n 17)) (by rw [List.length_take]; omega)) (by rw [List.length_take]; omega) (by have hmx : maxLen = 9223372036854775807 := rfl; omega) (by have hmx : maxLen = 9223372036854775807 := rfl; omega) (fun Y3 p3 cap3 hO3 => qo0 1 [] [] [(2, .slice p3 (0 + (min n 17)) cap3)] (on_ (ds_ (rt ([]) (.slice p3 (0 + (min n 17)) cap3) ?_)))))))))))
 exact fun w' hw => ⟨_, _, _, _, rfl, SlO.as14 hO3 (by rw [List.nil_append, take_min17 hn]), hw.below, one_tail14 (Hs.pick [Y3] [0] [] (by kernel_rfl) hw)⟩

set_option maxRecDepth 100000 in
theorem short_t (q : Option Addr) (m capq : Nat) (al : List GngA) (w : World)
 (hal : Sv w q al) (hma : m = al.length) (hbm : m ≤ 9223372036854775807) (hnm : ∀ x ∈ al, x.Reads w)
 : Calls Try.prog 16 #[.agg #[.slice q m capq]] w fun e w' => ∃ q' m' c' Y bl Yi, e = .returned (.agg #[.slice q' m' c']) ∧ SlO 46 Y q' m' c' bl ∧ GotG 3 Yi bl ∧ bl.map GngA.val = shortV (al.map GngA.val) ∧ Below w.heap.size w w' ∧ Hs w (Y ++ Yi) w' := by
 refine enter (Hs.start w) Try.func16 rfl Try.ntmps16 rfl (sq_ (ma0 [] [] (fun γ1 => [(1, .pointer (some ⟨γ1 0, 0, none⟩)), (2, .pointer (some ⟨γ1 1, 0, none⟩))]) (fun γ1 L => bx (γ1 1) (#[.slice none 0 0]) 38 :: bx (γ1 0) (#[.slice q m capq]) 38 :: L) (fun γ1 => ds_ (sq_ (ma0 [] [1, 2] (fun γ2 => [(3, .pointer (some ⟨γ2 0, 0, none⟩))]) (fun γ2 L => bx (γ2 0) (#[.slice none 0 0]) 38 :: L) (fun γ2 => ds_ (sq_ (sq_ (qa0 [(1, .go (owns 2 0 1))] [2, 3] [(7, .slice q m capq), (8, .int .i64 (m : Nat)), (9, .int .i64 0)] (ds_ (at_block (At.pick [[bx (γ2 0) (#[.slice none 0 0]) 38], [bx (γ1 1) (#[.slice none 0 0]) 38], [bx (γ1 0) (#[.slice q m capq]) 38]] [0, 1, 2] [] ([bx (γ2 0) (#[.slice none 0 0]) 38, bx (γ1 1) (#[.slice none 0 0]) 38, bx (γ1 0) (#[.slice q m capq]) 38]) (by kernel_rfl) rfl rfl (at_loop (α := Nat × List Ob × Option Addr × Nat × Nat × List GngA × List Ob) [2, 3, 7, 8, 9] (fun ⟨j, Yo, po, nu, co, bl, Yi⟩ => [(2, .pointer (some ⟨γ1 1, 0, none⟩)), (3, .pointer (some ⟨γ2 0, 0, none⟩)), (7, .slice q m capq), (8, .int .i64 (m : Nat)), (9, .int .i64 (j : Nat))]) (fun ⟨j, Yo, po, nu, co, bl, Yi⟩ => bx (γ2 0) (#[.slice po nu co]) 38 :: bx (γ1 1) (#[.slice none 0 0]) 38 :: bx (γ1 0) (#[.slice q m capq]) 38 :: (Yo ++ (Yi ++ []))) (fun ⟨j, Yo, po, nu, co, bl, Yi⟩ => j ≤ m ∧ nu ≤ j ∧ SlO 46 Yo po nu co bl ∧ GotG 3 Yi bl ∧ bl.map GngA.val = shortV ((al.take j).map GngA.val)) (fun ⟨j, Yo, po, nu, co, bl, Yi⟩ => m - j) (0, [], none, 0, 0, [], []) (by kernel_rfl) rfl ⟨Nat.zero_le _, Nat.le_refl _, SlO.nil, GotG.nil, rfl⟩ ?_)))))))))))))
 rintro ⟨j, Yo, po, nu, co, bl, Yi⟩
 rintro ⟨hj, hnu, hO, hG, hB⟩
 have hlb := hO.len
 refine sq_ ?_
 by_cases q5 : ((j : Nat) : Int) < ((m : Nat) : Int)
 ·
  refine qa [(0, .yes)] [2, 3, 7, 8, 9] [(10, .bool true)] ([((j : Nat) : Int) < ((m : Nat) : Int)]) (al1 q5) (ds_ (sq_ (t_ (at_skip (ds_ (sq_ (at_block (sq_ ?_))))))))
  obtain ⟨b8, o8, rfl⟩ := hal.pos (i := j) (by omega)
  obtain ⟨x10, hx10⟩ := get_some (l := al) (m := j) (by omega)
  have hrx10 := hnm x10 (List.mem_of_getElem? hx10)
  have hsx10 : Sv w x10.p x10.l := hrx10.sv
  have hnx10 : x10.n = x10.l.length := hrx10.hn
  have hcx10 : x10.n ≤ x10.cap := hrx10.hc
  have hbx10 : x10.cap ≤ 9223372036854775807 := hrx10.hb
  refine ma [(1, .at b8 o8 j), (2, .go (outs b8 (o8 + j * 2) [.int .i64 x10.id, .slice x10.p x10.n x10.cap])), (5, .go (owns 0 0 2))] [2, 3, 7, 8, 9] (fun γ11 => [(4, .int .i64 (j : Nat)), (5, .pointer (some ⟨γ11 0, 0, none⟩))]) (fun γ11 L => bx (γ11 0) (#[.int .i64 x10.id, .slice x10.p x10.n x10.cap]) 46 :: L) (fun γ11 => [(some ⟨b8, o8, none⟩ : Option Addr) = some ⟨b8, o8, none⟩, (j : Nat) = ((j : Nat) : Int), j < m] ++ (cellsP w b8 (o8 + j * 2) [.int .i64 x10.id, .slice x10.p x10.n x10.cap])) (fun γ11 => (alA (al2 rfl (al2 rfl (al1 (by omega)))) (rd_pre (hal.get hx10) _ rfl))) (fun γ11 => ds_ (sq_ ?_))
  by_cases q13 : ((j : Nat) : Int) ≤ (8 : Int)
  ·
   refine qa [(1, .yes)] [2, 3, 5, 7, 8, 9] [(15, .bool true)] ([((j : Nat) : Int) ≤ (8 : Int)]) (al1 q13) (ds_ (t_ ?_))
   refine at_any (by kernel_rfl) ?_
   refine tk (m := 9) [0, 2, 4] [] [2, 3, 7, 8, 9] [(16, .pointer (some ⟨γ2 0, 0, none⟩)), (18, .pointer (some ⟨γ11 0, 0, none⟩)), (20, .pointer (some ⟨γ11 0, 1, none⟩))] ([]) #[true, false, true, false, true, false, false, false, false, false, false, false] al0 ?_
   refine any_cutX (V := (List Ob) × (List Ob) × (Nat) × (Nat) × (Nat) × (Option Addr) × (Option Addr) × (Nat → Nat)) (fun ⟨Y138, Y198, c138, cap198, n138, p198, q138, γ178⟩ => SlO 3 Y138 q138 n138 c138 (x10.l.take 17) ∧ SlO 46 Y198 p198 (nu + 1) cap198 (bl ++ [(⟨x10.id, q138, n138, c138, (x10.l.take 17)⟩ : GngA)])) 0 #[true, true, true, true, true, true, true, true, true, true, true, true] (fun ⟨Y138, Y198, c138, cap198, n138, p198, q138, γ178⟩ => [(2, .pointer (some ⟨γ1 1, 0, none⟩)), (3, .pointer (some ⟨γ2 0, 0, none⟩)), (7, .slice (some ⟨b8, o8, none⟩) m capq), (8, .int .i64 (m : Nat)), (9, .int .i64 (j : Nat))]) (fun ⟨Y138, Y198, c138, cap198, n138, p198, q138, γ178⟩ => bx (γ178 0) (#[.int .i64 x10.id, .slice q138 n138 c138]) 46 :: bx (γ11 0) (#[.int .i64 x10.id, .slice x10.p x10.n x10.cap]) 46 :: bx (γ2 0) (#[.slice p198 (nu + 1) cap198]) 38 :: bx (γ1 1) (#[.slice none 0 0]) 38 :: bx (γ1 0) (#[.slice (some ⟨b8, o8, none⟩) m capq]) 38 :: (Y138 ++ (Y198 ++ (Yi ++ [])))) ?_ (fun hmx15 => ?_)
   rotate_left
   ·
    refine any_cutX (V := (List Ob) × (List Ob) × (Nat) × (Nat) × (Nat) × (Option Addr) × (Option Addr) × (Nat → Nat)) (fun ⟨Y138, Y198, c138, cap198, n138, p198, q138, γ178⟩ => SlO 3 Y138 q138 n138 c138 (x10.l.take 17) ∧ SlO 46 Y198 p198 (nu + 1) cap198 (bl ++ [(⟨x10.id, q138, n138, c138, (x10.l.take 17)⟩ : GngA)])) 1 #[true, true, true, true, true, true, true, true, true, true, true, false] (fun ⟨Y138, Y198, c138, cap198, n138, p198, q138, γ178⟩ => [(2, .pointer (some ⟨γ1 1, 0, none⟩)), (3, .pointer (some ⟨γ2 0, 0, none⟩)), (7, .slice (some ⟨b8, o8, none⟩) m capq), (8, .int .i64 (m : Nat)), (9, .int .i64 (j : Nat)), (25, .slice p198 (nu + 1) cap198), (26, .pointer (some ⟨γ2 0, 0, none⟩))]) (fun ⟨Y138, Y198, c138, cap198, n138, p198, q138, γ178⟩ => bx (γ178 0) (#[.int .i64 x10.id, .slice q138 n138 c138]) 46 :: bx (γ11 0) (#[.int .i64 x10.id, .slice x10.p x10.n x10.cap]) 46 :: bx (γ2 0) (#[.slice po nu co]) 38 :: bx (γ1 1) (#[.slice none 0 0]) 38 :: bx (γ1 0) (#[.slice (some ⟨b8, o8, none⟩) m capq]) 38 :: (Y138 ++ (Y198 ++ (Yi ++ [])))) ?_ (fun hmx14 => ?_)
    ·
     rintro ⟨Y138, Y198, c138, cap198, n138, p198, q138, γ178⟩ ⟨hO138, hO198⟩
     refine a1 11 rfl ?_
     refine mo0 1 [(11, .go (owns 2 0 1))] [2, 3, 7, 8, 9] (fun _ => []) (fun _ L => (L.set 2 (bx (γ2 0) (#[.slice p198 (nu + 1) cap198]) 38))) (fun _ => ?_)
     refine od_ ?_
     exact wk (hmx15 (Y138, Y198, c138, cap198, n138, p198, q138, γ178) ⟨hO138, hO198⟩) [2, 3, 7, 8, 9] [[_], [_], [_], [_], [_], _, _, _] [0, 1, 2, 3, 4, 5, 6, 7] rfl rfl
    refine any_cutX (V := (List Ob) × (Nat) × (Nat) × (Option Addr) × (Nat → Nat)) (fun ⟨Y138, c138, n138, q138, γ178⟩ => SlO 3 Y138 q138 n138 c138 (x10.l.take 17)) 3 #[true, true, true, true, true, true, true, true, true, false, false, false] (fun ⟨Y138, c138, n138, q138, γ178⟩ => [(2, .pointer (some ⟨γ1 1, 0, none⟩)), (3, .pointer (some ⟨γ2 0, 0, none⟩)), (7, .slice (some ⟨b8, o8, none⟩) m capq), (8, .int .i64 (m : Nat)), (9, .int .i64 (j : Nat)), (17, .slice po nu co), (24, .slice (some ⟨γ178 0, 0, none⟩) 1 1)]) (fun ⟨Y138, c138, n138, q138, γ178⟩ => bx (γ178 0) (#[.int .i64 x10.id, .slice q138 n138 c138]) 46 :: bx (γ11 0) (#[.int .i64 x10.id, .slice x10.p x10.n x10.cap]) 46 :: bx (γ2 0) (#[.slice po nu co]) 38 :: bx (γ1 1) (#[.slice none 0 0]) 38 :: bx (γ1 0) (#[.slice (some ⟨b8, o8, none⟩) m capq]) 38 :: (Y138 ++ (Yo ++ (Yi ++ [])))) ?_ (fun hmx13 => ?_)
    ·
     rintro ⟨Y138, c138, n138, q138, γ178⟩ hO138
     refine a1 9 rfl ?_
     refine Ops.pick [[bx (γ178 0) (#[.int .i64 x10.id, .slice q138 n138 c138]) 46], [bx (γ11 0) (#[.int .i64 x10.id, .slice x10.p x10.n x10.cap]) 46], [bx (γ2 0) (#[.slice po nu co]) 38], [bx (γ1 1) (#[.slice none 0 0]) 38], [bx (γ1 0) (#[.slice (some ⟨b8, o8, none⟩) m capq]) 38], Y138, Yo, Yi] [0, 1, 2, 3, 4, 6, 5, 7] [] (bx (γ178 0) (#[.int .i64 x10.id, .slice q138 n138 c138]) 46 :: bx (γ11 0) (#[.int .i64 x10.id, .slice x10.p x10.n x10.cap]) 46 :: bx (γ2 0) (#[.slice po nu co]) 38 :: bx (γ1 1) (#[.slice none 0 0]) 38 :: bx (γ1 0) (#[.slice (some ⟨b8, o8, none⟩) m capq]) 38 :: (Yo ++ (Y138 ++ (Yi ++ [])))) (by kernel_rfl) rfl rfl (ops_append (α := GngA) [bx (γ178 0) (#[.int .i64 x10.id, .slice q138 n138 c138]) 46, bx (γ11 0) (#[.int .i64 x10.id, .slice x10.p x10.n x10.cap]) 46, bx (γ2 0) (#[.slice po nu co]) 38, bx (γ1 1) (#[.slice none 0 0]) 38, bx (γ1 0) (#[.slice (some ⟨b8, o8, none⟩) m capq]) 38] Yo (Y138 ++ (Yi ++ [])) (.refl _) rfl (by kernel_rfl) (by kernel_rfl) (p := po) (n := nu) (cap := co) (m := 1) (yv := .slice (some ⟨γ178 0, 0, none⟩) 1 1) (by kernel_rfl) (by kernel_rfl) (T := 46) (by_ := 32) (by kernel_rfl) bl ([(⟨x10.id, q138, n138, c138, (x10.l.take 17)⟩ : GngA)]) hO (fun w hw => src_svn Try.underlying36 (sv_row (hw.row 0 rfl) (by rfl)) (by rfl)) (by rfl) (by have hmx : maxLen = 9223372036854775807 := rfl; omega) (by have hmx : maxLen = 9223372036854775807 := rfl; omega) (fun Y198 p198 cap198 hO198 => ?_))
     refine od_ ?_
     refine tk (m := 1) [10] [] [2, 3, 7, 8, 9, 25] [(26, .pointer (some ⟨γ2 0, 0, none⟩))] ([]) #[true, true, true, true, true, true, true, true, true, true, true, false] al0 ?_
     exact wk (hmx14 (Y138, Y198, c138, cap198, n138, p198, q138, γ178) ⟨hO138, hO198⟩) [2, 3, 7, 8, 9, 25, 26] [[_], [_], [_], [_], [_], _, _, _] [0, 1, 2, 3, 4, 6, 5, 7] rfl rfl
    refine any_cutX (V := (List Ob) × (Nat) × (Nat) × (Option Addr) × (Nat → Nat)) (fun ⟨Y138, c138, n138, q138, γ178⟩ => SlO 3 Y138 q138 n138 c138 (x10.l.take 17)) 4 #[true, false, true, true, true, true, true, true, true, false, false, false] (fun ⟨Y138, c138, n138, q138, γ178⟩ => [(2, .pointer (some ⟨γ1 1, 0, none⟩)), (3, .pointer (some ⟨γ2 0, 0, none⟩)), (7, .slice (some ⟨b8, o8, none⟩) m capq), (8, .int .i64 (m : Nat)), (9, .int .i64 (j : Nat)), (16, .pointer (some ⟨γ2 0, 0, none⟩)), (24, .slice (some ⟨γ178 0, 0, none⟩) 1 1)]) (fun ⟨Y138, c138, n138, q138, γ178⟩ => bx (γ178 0) (#[.int .i64 x10.id, .slice q138 n138 c138]) 46 :: bx (γ11 0) (#[.int .i64 x10.id, .slice x10.p x10.n x10.cap]) 46 :: bx (γ2 0) (#[.slice po nu co]) 38 :: bx (γ1 1) (#[.slice none 0 0]) 38 :: bx (γ1 0) (#[.slice (some ⟨b8, o8, none⟩) m capq]) 38 :: (Y138 ++ (Yo ++ (Yi ++ [])))) ?_ (fun hmx12 => ?_)
    ·
     rintro ⟨Y138, c138, n138, q138, γ178⟩ hO138
     refine a1 1 rfl ?_
     refine qo0 1 [(1, .go (owns 2 0 1))] [2, 3, 7, 8, 9, 24] [(17, .slice po nu co)] ?_
     refine od_ ?_
     exact wk (hmx13 (Y138, c138, n138, q138, γ178) hO138) [2, 3, 7, 8, 9, 17, 24] [[_], [_], [_], [_], [_], _, _, _] [0, 1, 2, 3, 4, 5, 6, 7] rfl rfl
    refine any_cutX (V := (List Ob) × (Nat) × (Nat) × (Option Addr)) (fun ⟨Y138, c138, n138, q138⟩ => SlO 3 Y138 q138 n138 c138 (x10.l.take 17)) 4 #[true, true, true, true, true, true, true, true, false, false, false, false] (fun ⟨Y138, c138, n138, q138⟩ => [(2, .pointer (some ⟨γ1 1, 0, none⟩)), (3, .pointer (some ⟨γ2 0, 0, none⟩)), (7, .slice (some ⟨b8, o8, none⟩) m capq), (8, .int .i64 (m : Nat)), (9, .int .i64 (j : Nat)), (17, .slice po nu co), (23, .agg #[.int .i64 x10.id, .slice q138 n138 c138])]) (fun ⟨Y138, c138, n138, q138⟩ => bx (γ11 0) (#[.int .i64 x10.id, .slice x10.p x10.n x10.cap]) 46 :: bx (γ2 0) (#[.slice po nu co]) 38 :: bx (γ1 1) (#[.slice none 0 0]) 38 :: bx (γ1 0) (#[.slice (some ⟨b8, o8, none⟩) m capq]) 38 :: (Y138 ++ (Yo ++ (Yi ++ [])))) ?_ (fun hmx11 => ?_)
    ·
     rintro ⟨Y138, c138, n138, q138⟩ hO138
     refine a1 8 rfl ?_
     refine mo0 1 [] [2, 3, 7, 8, 9, 17] (fun γ178 => [(24, .slice (some ⟨γ178 0, 0, none⟩) 1 1)]) (fun γ178 L => bx (γ178 0) (#[.int .i64 x10.id, .slice q138 n138 c138]) 46 :: L) (fun γ178 => ?_)
     refine od_ ?_
     exact wk (hmx13 (Y138, c138, n138, q138, γ178) hO138) [2, 3, 7, 8, 9, 17, 24] [[_], [_], [_], [_], [_], _, _, _] [0, 1, 2, 3, 4, 5, 6, 7] rfl rfl
    refine any_cutX (V := (List Ob) × (Nat) × (Nat) × (Option Addr)) (fun ⟨Y138, c138, n138, q138⟩ => SlO 3 Y138 q138 n138 c138 (x10.l.take 17)) 5 #[true, false, true, true, true, true, true, true, false, false, false, false] (fun ⟨Y138, c138, n138, q138⟩ => [(2, .pointer (some ⟨γ1 1, 0, none⟩)), (3, .pointer (some ⟨γ2 0, 0, none⟩)), (7, .slice (some ⟨b8, o8, none⟩) m capq), (8, .int .i64 (m : Nat)), (9, .int .i64 (j : Nat)), (16, .pointer (some ⟨γ2 0, 0, none⟩)), (23, .agg #[.int .i64 x10.id, .slice q138 n138 c138])]) (fun ⟨Y138, c138, n138, q138⟩ => bx (γ11 0) (#[.int .i64 x10.id, .slice x10.p x10.n x10.cap]) 46 :: bx (γ2 0) (#[.slice po nu co]) 38 :: bx (γ1 1) (#[.slice none 0 0]) 38 :: bx (γ1 0) (#[.slice (some ⟨b8, o8, none⟩) m capq]) 38 :: (Y138 ++ (Yo ++ (Yi ++ [])))) ?_ (fun hmx10 => ?_)
    ·
     rintro ⟨Y138, c138, n138, q138⟩ hO138
     refine any_fork [1, 8] (by kernel_rfl) (by simp) (each_cons _ rfl ?_ (each_cons _ rfl ?_ (each_nil)))
     ·
      refine qo0 1 [(1, .go (owns 1 0 1))] [2, 3, 7, 8, 9, 23] [(17, .slice po nu co)] ?_
      refine od_ ?_
      exact wk (hmx11 (Y138, c138, n138, q138) hO138) [2, 3, 7, 8, 9, 17, 23] [[_], [_], [_], [_], _, _, _] [0, 1, 2, 3, 4, 5, 6] rfl rfl
     ·
      refine mo0 1 [] [2, 3, 7, 8, 9, 16] (fun γ178 => [(24, .slice (some ⟨γ178 0, 0, none⟩) 1 1)]) (fun γ178 L => bx (γ178 0) (#[.int .i64 x10.id, .slice q138 n138 c138]) 46 :: L) (fun γ178 => ?_)
      refine od_ ?_
      exact wk (hmx12 (Y138, c138, n138, q138, γ178) hO138) [2, 3, 7, 8, 9, 16, 24] [[_], [_], [_], [_], [_], _, _, _] [0, 1, 2, 3, 4, 5, 6, 7] rfl rfl
    refine any_cutX (V := (List Ob) × (Nat) × (Nat) × (Option Addr)) (fun ⟨Y138, c138, n138, q138⟩ => SlO 3 Y138 q138 n138 c138 (x10.l.take 17)) 6 #[true, true, true, false, true, true, true, false, false, false, false, false] (fun ⟨Y138, c138, n138, q138⟩ => [(2, .pointer (some ⟨γ1 1, 0, none⟩)), (3, .pointer (some ⟨γ2 0, 0, none⟩)), (7, .slice (some ⟨b8, o8, none⟩) m capq), (8, .int .i64 (m : Nat)), (9, .int .i64 (j : Nat)), (17, .slice po nu co), (18, .pointer (some ⟨γ11 0, 0, none⟩)), (22, .slice q138 n138 c138)]) (fun ⟨Y138, c138, n138, q138⟩ => bx (γ11 0) (#[.int .i64 x10.id, .slice x10.p x10.n x10.cap]) 46 :: bx (γ2 0) (#[.slice po nu co]) 38 :: bx (γ1 1) (#[.slice none 0 0]) 38 :: bx (γ1 0) (#[.slice (some ⟨b8, o8, none⟩) m capq]) 38 :: (Y138 ++ (Yo ++ (Yi ++ [])))) ?_ (fun hmx9 => ?_)
    ·
     rintro ⟨Y138, c138, n138, q138⟩ hO138
     refine a1 3 rfl ?_
     refine qo0 1 [(3, .go (owns 0 0 1))] [2, 3, 7, 8, 9, 17, 22] [(19, .int .i64 x10.id)] ?_
     refine od_ ?_
     refine tk (m := 4) [7] [] [2, 3, 7, 8, 9, 17] [(23, .agg #[.int .i64 x10.id, .slice q138 n138 c138])] ([]) #[true, true, true, true, true, true, true, true, false, false, false, false] al0 ?_
     exact wk (hmx11 (Y138, c138, n138, q138) hO138) [2, 3, 7, 8, 9, 17, 23] [[_], [_], [_], [_], _, _, _] [0, 1, 2, 3, 4, 5, 6] rfl rfl
    refine any_cutX (V := Unit) (fun _ => True) 6 #[true, true, true, true, true, true, false, false, false, false, false, false] (fun _ => [(2, .pointer (some ⟨γ1 1, 0, none⟩)), (3, .pointer (some ⟨γ2 0, 0, none⟩)), (7, .slice (some ⟨b8, o8, none⟩) m capq), (8, .int .i64 (m : Nat)), (9, .int .i64 (j : Nat)), (17, .slice po nu co), (19, .int .i64 x10.id), (21, .slice x10.p x10.n x10.cap)]) (fun _ => bx (γ11 0) (#[.int .i64 x10.id, .slice x10.p x10.n x10.cap]) 46 :: bx (γ2 0) (#[.slice po nu co]) 38 :: bx (γ1 1) (#[.slice none 0 0]) 38 :: bx (γ1 0) (#[.slice (some ⟨b8, o8, none⟩) m capq]) 38 :: (Yo ++ (Yi ++ []))) ?_ (fun hmx8 => ?_)
    ·
     rintro _ _
     refine a1 6 rfl ?_
     refine cP (fun v L' => ∃ q_ n_ c_ Y_, v = .slice q_ n_ c_ ∧ L' = List.take 4 (bx (γ11 0) (#[.int .i64 x10.id, .slice x10.p x10.n x10.cap]) 46 :: bx (γ2 0) (#[.slice po nu co]) 38 :: bx (γ1 1) (#[.slice none 0 0]) 38 :: bx (γ1 0) (#[.slice (some ⟨b8, o8, none⟩) m capq]) 38 :: (Yo ++ (Yi ++ []))) ++ (Y_ ++ List.drop 4 (bx (γ11 0) (#[.int .i64 x10.id, .slice x10.p x10.n x10.cap]) 46 :: bx (γ2 0) (#[.slice po nu co]) 38 :: bx (γ1 1) (#[.slice none 0 0]) 38 :: bx (γ1 0) (#[.slice (some ⟨b8, o8, none⟩) m capq]) 38 :: (Yo ++ (Yi ++ [])))) ∧ SlO 3 Y_ q_ n_ c_ (x10.l.take 17)) Try.call30 (fun w hw => (ints_t x10.p x10.n x10.cap x10.l w (hsx10.kept hw.below) hnx10 (by omega) (by omega)).mono fun e w' ⟨q_, n_, c_, Y_, he, hO, hb, hY⟩ => ⟨_, _, he, ⟨q_, n_, c_, Y_, rfl, rfl, hO⟩, hw.join hb hY 4⟩) ?_
     rintro v138 L138 ⟨q138, n138, c138, Y138, rfl, rfl, hO138⟩
     refine od_ ?_
     refine tk (m := 4) [7] [] [2, 3, 7, 8, 9, 17] [(23, .agg #[.int .i64 x10.id, .slice q138 n138 c138])] ([]) #[true, true, true, true, true, true, true, true, false, false, false, false] al0 ?_
     exact wk (hmx11 (Y138, c138, n138, q138) hO138) [2, 3, 7, 8, 9, 17, 23] [[_], [_], [_], [_], _, _, _] [0, 1, 2, 3, 4, 5, 6] rfl rfl
    refine any_cutX (V := (List Ob) × (Nat) × (Nat) × (Option Addr)) (fun ⟨Y138, c138, n138, q138⟩ => SlO 3 Y138 q138 n138 c138 (x10.l.take 17)) 7 #[true, false, true, false, true, true, true, false, false, false, false, false] (fun ⟨Y138, c138, n138, q138⟩ => [(2, .pointer (some ⟨γ1 1, 0, none⟩)), (3, .pointer (some ⟨γ2 0, 0, none⟩)), (7, .slice (some ⟨b8, o8, none⟩) m capq), (8, .int .i64 (m : Nat)), (9, .int .i64 (j : Nat)), (16, .pointer (some ⟨γ2 0, 0, none⟩)), (18, .pointer (some ⟨γ11 0, 0, none⟩)), (22, .slice q138 n138 c138)]) (fun ⟨Y138, c138, n138, q138⟩ => bx (γ11 0) (#[.int .i64 x10.id, .slice x10.p x10.n x10.cap]) 46 :: bx (γ2 0) (#[.slice po nu co]) 38 :: bx (γ1 1) (#[.slice none 0 0]) 38 :: bx (γ1 0) (#[.slice (some ⟨b8, o8, none⟩) m capq]) 38 :: (Y138 ++ (Yo ++ (Yi ++ [])))) ?_ (fun hmx7 => ?_)
    ·
     rintro ⟨Y138, c138, n138, q138⟩ hO138
     refine any_fork [1, 3] (by kernel_rfl) (by simp) (each_cons _ rfl ?_ (each_cons _ rfl ?_ (each_nil)))
     ·
      refine qo0 1 [(1, .go (owns 1 0 1))] [2, 3, 7, 8, 9, 18, 22] [(17, .slice po nu co)] ?_
      refine od_ ?_
      exact wk (hmx9 (Y138, c138, n138, q138) hO138) [2, 3, 7, 8, 9, 17, 18, 22] [[_], [_], [_], [_], _, _, _] [0, 1, 2, 3, 4, 5, 6] rfl rfl
     ·
      refine qo0 1 [(3, .go (owns 0 0 1))] [2, 3, 7, 8, 9, 16, 22] [(19, .int .i64 x10.id)] ?_
      refine od_ ?_
      refine tk (m := 5) [7] [] [2, 3, 7, 8, 9, 16] [(23, .agg #[.int .i64 x10.id, .slice q138 n138 c138])] ([]) #[true, false, true, true, true, true, true, true, false, false, false, false] al0 ?_
      exact wk (hmx10 (Y138, c138, n138, q138) hO138) [2, 3, 7, 8, 9, 16, 23] [[_], [_], [_], [_], _, _, _] [0, 1, 2, 3, 4, 5, 6] rfl rfl
    refine any_cutX (V := Unit) (fun _ => True) 7 #[true, false, true, true, true, true, false, false, false, false, false, false] (fun _ => [(2, .pointer (some ⟨γ1 1, 0, none⟩)), (3, .pointer (some ⟨γ2 0, 0, none⟩)), (7, .slice (some ⟨b8, o8, none⟩) m capq), (8, .int .i64 (m : Nat)), (9, .int .i64 (j : Nat)), (16, .pointer (some ⟨γ2 0, 0, none⟩)), (19, .int .i64 x10.id), (21, .slice x10.p x10.n x10.cap)]) (fun _ => bx (γ11 0) (#[.int .i64 x10.id, .slice x10.p x10.n x10.cap]) 46 :: bx (γ2 0) (#[.slice po nu co]) 38 :: bx (γ1 1) (#[.slice none 0 0]) 38 :: bx (γ1 0) (#[.slice (some ⟨b8, o8, none⟩) m capq]) 38 :: (Yo ++ (Yi ++ []))) ?_ (fun hmx6 => ?_)
    ·
     rintro _ _
     refine any_fork [1, 6] (by kernel_rfl) (by simp) (each_cons _ rfl ?_ (each_cons _ rfl ?_ (each_nil)))
     ·
      refine qo0 1 [(1, .go (owns 1 0 1))] [2, 3, 7, 8, 9, 19, 21] [(17, .slice po nu co)] ?_
      refine od_ ?_
      exact wk (hmx8 () trivial) [2, 3, 7, 8, 9, 17, 19, 21] [[_], [_], [_], [_], _, _] [0, 1, 2, 3, 4, 5] rfl rfl
     ·
      refine cP (fun v L' => ∃ q_ n_ c_ Y_, v = .slice q_ n_ c_ ∧ L' = List.take 4 (bx (γ11 0) (#[.int .i64 x10.id, .slice x10.p x10.n x10.cap]) 46 :: bx (γ2 0) (#[.slice po nu co]) 38 :: bx (γ1 1) (#[.slice none 0 0]) 38 :: bx (γ1 0) (#[.slice (some ⟨b8, o8, none⟩) m capq]) 38 :: (Yo ++ (Yi ++ []))) ++ (Y_ ++ List.drop 4 (bx (γ11 0) (#[.int .i64 x10.id, .slice x10.p x10.n x10.cap]) 46 :: bx (γ2 0) (#[.slice po nu co]) 38 :: bx (γ1 1) (#[.slice none 0 0]) 38 :: bx (γ1 0) (#[.slice (some ⟨b8, o8, none⟩) m capq]) 38 :: (Yo ++ (Yi ++ [])))) ∧ SlO 3 Y_ q_ n_ c_ (x10.l.take 17)) Try.call30 (fun w hw => (ints_t x10.p x10.n x10.cap x10.l w (hsx10.kept hw.below) hnx10 (by omega) (by omega)).mono fun e w' ⟨q_, n_, c_, Y_, he, hO, hb, hY⟩ => ⟨_, _, he, ⟨q_, n_, c_, Y_, rfl, rfl, hO⟩, hw.join hb hY 4⟩) ?_
      rintro v138 L138 ⟨q138, n138, c138, Y138, rfl, rfl, hO138⟩
      refine od_ ?_
      refine tk (m := 5) [7] [] [2, 3, 7, 8, 9, 16] [(23, .agg #[.int .i64 x10.id, .slice q138 n138 c138])] ([]) #[true, false, true, true, true, true, true, true, false, false, false, false] al0 ?_
      exact wk (hmx10 (Y138, c138, n138, q138) hO138) [2, 3, 7, 8, 9, 16, 23] [[_], [_], [_], [_], _, _, _] [0, 1, 2, 3, 4, 5, 6] rfl rfl
    refine any_cutX (V := Unit) (fun _ => True) 7 #[true, true, true, false, true, true, false, false, false, false, false, false] (fun _ => [(2, .pointer (some ⟨γ1 1, 0, none⟩)), (3, .pointer (some ⟨γ2 0, 0, none⟩)), (7, .slice (some ⟨b8, o8, none⟩) m capq), (8, .int .i64 (m : Nat)), (9, .int .i64 (j : Nat)), (17, .slice po nu co), (18, .pointer (some ⟨γ11 0, 0, none⟩)), (21, .slice x10.p x10.n x10.cap)]) (fun _ => bx (γ11 0) (#[.int .i64 x10.id, .slice x10.p x10.n x10.cap]) 46 :: bx (γ2 0) (#[.slice po nu co]) 38 :: bx (γ1 1) (#[.slice none 0 0]) 38 :: bx (γ1 0) (#[.slice (some ⟨b8, o8, none⟩) m capq]) 38 :: (Yo ++ (Yi ++ []))) ?_ (fun hmx5 => ?_)
    ·
     rintro _ _
     refine any_fork [3, 6] (by kernel_rfl) (by simp) (each_cons _ rfl ?_ (each_cons _ rfl ?_ (each_nil)))
     ·
      refine qo0 1 [(3, .go (owns 0 0 1))] [2, 3, 7, 8, 9, 17, 21] [(19, .int .i64 x10.id)] ?_
      refine od_ ?_
      exact wk (hmx8 () trivial) [2, 3, 7, 8, 9, 17, 19, 21] [[_], [_], [_], [_], _, _] [0, 1, 2, 3, 4, 5] rfl rfl
     ·
      refine cP (fun v L' => ∃ q_ n_ c_ Y_, v = .slice q_ n_ c_ ∧ L' = List.take 4 (bx (γ11 0) (#[.int .i64 x10.id, .slice x10.p x10.n x10.cap]) 46 :: bx (γ2 0) (#[.slice po nu co]) 38 :: bx (γ1 1) (#[.slice none 0 0]) 38 :: bx (γ1 0) (#[.slice (some ⟨b8, o8, none⟩) m capq]) 38 :: (Yo ++ (Yi ++ []))) ++ (Y_ ++ List.drop 4 (bx (γ11 0) (#[.int .i64 x10.id, .slice x10.p x10.n x10.cap]) 46 :: bx (γ2 0) (#[.slice po nu co]) 38 :: bx (γ1 1) (#[.slice none 0 0]) 38 :: bx (γ1 0) (#[.slice (some ⟨b8, o8, none⟩) m capq]) 38 :: (Yo ++ (Yi ++ [])))) ∧ SlO 3 Y_ q_ n_ c_ (x10.l.take 17)) Try.call30 (fun w hw => (ints_t x10.p x10.n x10.cap x10.l w (hsx10.kept hw.below) hnx10 (by omega) (by omega)).mono fun e w' ⟨q_, n_, c_, Y_, he, hO, hb, hY⟩ => ⟨_, _, he, ⟨q_, n_, c_, Y_, rfl, rfl, hO⟩, hw.join hb hY 4⟩) ?_
      rintro v138 L138 ⟨q138, n138, c138, Y138, rfl, rfl, hO138⟩
      refine od_ ?_
      exact wk (hmx9 (Y138, c138, n138, q138) hO138) [2, 3, 7, 8, 9, 17, 18, 22] [[_], [_], [_], [_], _, _, _] [0, 1, 2, 3, 4, 5, 6] rfl rfl
    refine any_cutX (V := Unit) (fun _ => True) 7 #[true, true, true, true, true, false, false, false, false, false, false, false] (fun _ => [(2, .pointer (some ⟨γ1 1, 0, none⟩)), (3, .pointer (some ⟨γ2 0, 0, none⟩)), (7, .slice (some ⟨b8, o8, none⟩) m capq), (8, .int .i64 (m : Nat)), (9, .int .i64 (j : Nat)), (17, .slice po nu co), (19, .int .i64 x10.id), (20, .pointer (some ⟨γ11 0, 1, none⟩))]) (fun _ => bx (γ11 0) (#[.int .i64 x10.id, .slice x10.p x10.n x10.cap]) 46 :: bx (γ2 0) (#[.slice po nu co]) 38 :: bx (γ1 1) (#[.slice none 0 0]) 38 :: bx (γ1 0) (#[.slice (some ⟨b8, o8, none⟩) m capq]) 38 :: (Yo ++ (Yi ++ []))) ?_ (fun hmx4 => ?_)
    ·
     rintro _ _
     refine a1 5 rfl ?_
     refine qo0 1 [(5, .go (owns 0 1 1))] [2, 3, 7, 8, 9, 17, 19] [(21, .slice x10.p x10.n x10.cap)] ?_
     refine od_ ?_
     exact wk (hmx8 () trivial) [2, 3, 7, 8, 9, 17, 19, 21] [[_], [_], [_], [_], _, _] [0, 1, 2, 3, 4, 5] rfl rfl
    refine any_cutX (V := Unit) (fun _ => True) 8 #[true, false, true, false, true, true, false, false, false, false, false, false] (fun _ => [(2, .pointer (some ⟨γ1 1, 0, none⟩)), (3, .pointer (some ⟨γ2 0, 0, none⟩)), (7, .slice (some ⟨b8, o8, none⟩) m capq), (8, .int .i64 (m : Nat)), (9, .int .i64 (j : Nat)), (16, .pointer (some ⟨γ2 0, 0, none⟩)), (18, .pointer (some ⟨γ11 0, 0, none⟩)), (21, .slice x10.p x10.n x10.cap)]) (fun _ => bx (γ11 0) (#[.int .i64 x10.id, .slice x10.p x10.n x10.cap]) 46 :: bx (γ2 0) (#[.slice po nu co]) 38 :: bx (γ1 1) (#[.slice none 0 0]) 38 :: bx (γ1 0) (#[.slice (some ⟨b8, o8, none⟩) m capq]) 38 :: (Yo ++ (Yi ++ []))) ?_ (fun hmx3 => ?_)
    ·
     rintro _ _
     refine any_fork [1, 3, 6] (by kernel_rfl) (by simp) (each_cons _ rfl ?_ (each_cons _ rfl ?_ (each_cons _ rfl ?_ (each_nil))))
     ·
      refine qo0 1 [(1, .go (owns 1 0 1))] [2, 3, 7, 8, 9, 18, 21] [(17, .slice po nu co)] ?_
      refine od_ ?_
      exact wk (hmx5 () trivial) [2, 3, 7, 8, 9, 17, 18, 21] [[_], [_], [_], [_], _, _] [0, 1, 2, 3, 4, 5] rfl rfl
     ·
      refine qo0 1 [(3, .go (owns 0 0 1))] [2, 3, 7, 8, 9, 16, 21] [(19, .int .i64 x10.id)] ?_
      refine od_ ?_
      exact wk (hmx6 () trivial) [2, 3, 7, 8, 9, 16, 19, 21] [[_], [_], [_], [_], _, _] [0, 1, 2, 3, 4, 5] rfl rfl
     ·
      refine cP (fun v L' => ∃ q_ n_ c_ Y_, v = .slice q_ n_ c_ ∧ L' = List.take 4 (bx (γ11 0) (#[.int .i64 x10.id, .slice x10.p x10.n x10.cap]) 46 :: bx (γ2 0) (#[.slice po nu co]) 38 :: bx (γ1 1) (#[.slice none 0 0]) 38 :: bx (γ1 0) (#[.slice (some ⟨b8, o8, none⟩) m capq]) 38 :: (Yo ++ (Yi ++ []))) ++ (Y_ ++ List.drop 4 (bx (γ11 0) (#[.int .i64 x10.id, .slice x10.p x10.n x10.cap]) 46 :: bx (γ2 0) (#[.slice po nu co]) 38 :: bx (γ1 1) (#[.slice none 0 0]) 38 :: bx (γ1 0) (#[.slice (some ⟨b8, o8, none⟩) m capq]) 38 :: (Yo ++ (Yi ++ [])))) ∧ SlO 3 Y_ q_ n_ c_ (x10.l.take 17)) Try.call30 (fun w hw => (ints_t x10.p x10.n x10.cap x10.l w (hsx10.kept hw.below) hnx10 (by omega) (by omega)).mono fun e w' ⟨q_, n_, c_, Y_, he, hO, hb, hY⟩ => ⟨_, _, he, ⟨q_, n_, c_, Y_, rfl, rfl, hO⟩, hw.join hb hY 4⟩) ?_
      rintro v138 L138 ⟨q138, n138, c138, Y138, rfl, rfl, hO138⟩
      refine od_ ?_
      exact wk (hmx7 (Y138, c138, n138, q138) hO138) [2, 3, 7, 8, 9, 16, 18, 22] [[_], [_], [_], [_], _, _, _] [0, 1, 2, 3, 4, 5, 6] rfl rfl
    refine any_cutX (V := Unit) (fun _ => True) 8 #[true, false, true, true, true, false, false, false, false, false, false, false] (fun _ => [(2, .pointer (some ⟨γ1 1, 0, none⟩)), (3, .pointer (some ⟨γ2 0, 0, none⟩)), (7, .slice (some ⟨b8, o8, none⟩) m capq), (8, .int .i64 (m : Nat)), (9, .int .i64 (j : Nat)), (16, .pointer (some ⟨γ2 0, 0, none⟩)), (19, .int .i64 x10.id), (20, .pointer (some ⟨γ11 0, 1, none⟩))]) (fun _ => bx (γ11 0) (#[.int .i64 x10.id, .slice x10.p x10.n x10.cap]) 46 :: bx (γ2 0) (#[.slice po nu co]) 38 :: bx (γ1 1) (#[.slice none 0 0]) 38 :: bx (γ1 0) (#[.slice (some ⟨b8, o8, none⟩) m capq]) 38 :: (Yo ++ (Yi ++ []))) ?_ (fun hmx2 => ?_)
    ·
     rintro _ _
     refine any_fork [1, 5] (by kernel_rfl) (by simp) (each_cons _ rfl ?_ (each_cons _ rfl ?_ (each_nil)))
     ·
      refine qo0 1 [(1, .go (owns 1 0 1))] [2, 3, 7, 8, 9, 19, 20] [(17, .slice po nu co)] ?_
      refine od_ ?_
      exact wk (hmx4 () trivial) [2, 3, 7, 8, 9, 17, 19, 20] [[_], [_], [_], [_], _, _] [0, 1, 2, 3, 4, 5] rfl rfl
     ·
      refine qo0 1 [(5, .go (owns 0 1 1))] [2, 3, 7, 8, 9, 16, 19] [(21, .slice x10.p x10.n x10.cap)] ?_
      refine od_ ?_
      exact wk (hmx6 () trivial) [2, 3, 7, 8, 9, 16, 19, 21] [[_], [_], [_], [_], _, _] [0, 1, 2, 3, 4, 5] rfl rfl
    refine any_cutX (V := Unit) (fun _ => True) 8 #[true, true, true, false, true, false, false, false, false, false, false, false] (fun _ => [(2, .pointer (some ⟨γ1 1, 0, none⟩)), (3, .pointer (some ⟨γ2 0, 0, none⟩)), (7, .slice (some ⟨b8, o8, none⟩) m capq), (8, .int .i64 (m : Nat)), (9, .int .i64 (j : Nat)), (17, .slice po nu co), (18, .pointer (some ⟨γ11 0, 0, none⟩)), (20, .pointer (some ⟨γ11 0, 1, none⟩))]) (fun _ => bx (γ11 0) (#[.int .i64 x10.id, .slice x10.p x10.n x10.cap]) 46 :: bx (γ2 0) (#[.slice po nu co]) 38 :: bx (γ1 1) (#[.slice none 0 0]) 38 :: bx (γ1 0) (#[.slice (some ⟨b8, o8, none⟩) m capq]) 38 :: (Yo ++ (Yi ++ []))) ?_ (fun hmx1 => ?_)
    ·
     rintro _ _
     refine any_fork [3, 5] (by kernel_rfl) (by simp) (each_cons _ rfl ?_ (each_cons _ rfl ?_ (each_nil)))
     ·
      refine qo0 1 [(3, .go (owns 0 0 1))] [2, 3, 7, 8, 9, 17, 20] [(19, .int .i64 x10.id)] ?_
      refine od_ ?_
      exact wk (hmx4 () trivial) [2, 3, 7, 8, 9, 17, 19, 20] [[_], [_], [_], [_], _, _] [0, 1, 2, 3, 4, 5] rfl rfl
     ·
      refine qo0 1 [(5, .go (owns 0 1 1))] [2, 3, 7, 8, 9, 17, 18] [(21, .slice x10.p x10.n x10.cap)] ?_
      refine od_ ?_
      exact wk (hmx5 () trivial) [2, 3, 7, 8, 9, 17, 18, 21] [[_], [_], [_], [_], _, _] [0, 1, 2, 3, 4, 5] rfl rfl
    refine any_fork [1, 3, 5] (by kernel_rfl) (by simp) (each_cons _ rfl ?_ (each_cons _ rfl ?_ (each_cons _ rfl ?_ (each_nil))))
    ·
     refine qo0 1 [(1, .go (owns 1 0 1))] [2, 3, 7, 8, 9, 18, 20] [(17, .slice po nu co)] ?_
     refine od_ ?_
     exact wk (hmx1 () trivial) [2, 3, 7, 8, 9, 17, 18, 20] [[_], [_], [_], [_], _, _] [0, 1, 2, 3, 4, 5] rfl rfl
    ·
     refine qo0 1 [(3, .go (owns 0 0 1))] [2, 3, 7, 8, 9, 16, 20] [(19, .int .i64 x10.id)] ?_
     refine od_ ?_
     exact wk (hmx2 () trivial) [2, 3, 7, 8, 9, 16, 19, 20] [[_], [_], [_], [_], _, _] [0, 1, 2, 3, 4, 5] rfl rfl
    ·
     refine qo0 1 [(5, .go (owns 0 1 1))] [2, 3, 7, 8, 9, 16, 18] [(21, .slice x10.p x10.n x10.cap)] ?_
     refine od_ ?_
     exact wk (hmx3 () trivial) [2, 3, 7, 8, 9, 16, 18, 21] [[_], [_], [_], [_], _, _] [0, 1, 2, 3, 4, 5] rfl rfl
   rintro ⟨Y138, Y198, c138, cap198, n138, p198, q138, γ178⟩ ⟨hO138, hO198⟩
   refine any_nil (by kernel_rfl) ?_
   refine done_block (ds_ (qa [(0, .fit)] [2, 3, 7, 8] [(9, .int .i64 (j + 1 : Nat))] ([Fit .i64 ((j + 1 : Nat))]) (al1 (fit64 (by omega) (by omega))) (Done.pick [[bx (γ178 0) (#[.int .i64 x10.id, .slice q138 n138 c138]) 46], [bx (γ11 0) (#[.int .i64 x10.id, .slice x10.p x10.n x10.cap]) 46], [bx (γ2 0) (#[.slice p198 (nu + 1) cap198]) 38], [bx (γ1 1) (#[.slice none 0 0]) 38], [bx (γ1 0) (#[.slice (some ⟨b8, o8, none⟩) m capq]) 38], Y138, Y198, Yi] [2, 3, 4, 6, 7, 5] [0, 1] (bx (γ2 0) (#[.slice p198 (nu + 1) cap198]) 38 :: bx (γ1 1) (#[.slice none 0 0]) 38 :: bx (γ1 0) (#[.slice (some ⟨b8, o8, none⟩) m capq]) 38 :: (Y198 ++ (Yi ++ (Y138 ++ [])))) (by kernel_rfl) rfl rfl (Done.as (L' := bx (γ2 0) (#[.slice p198 (nu + 1) cap198]) 38 :: bx (γ1 1) (#[.slice none 0 0]) 38 :: bx (γ1 0) (#[.slice (some ⟨b8, o8, none⟩) m capq]) 38 :: (Y198 ++ ((Yi ++ Y138) ++ []))) (by simp only [List.append_assoc]) ?_))))
   exact dr [2, 3, 7, 8, 9] (j + 1, Y198, p198, (nu + 1), cap198, (bl ++ [(⟨x10.id, q138, n138, c138, (x10.l.take 17)⟩ : GngA)]), Yi ++ Y138) ⟨by omega, by omega, hO198, GotG.snoc hG hO138, short_add hB hx10 (by omega) rfl⟩
  ·
   refine qa [(1, .no)] [2, 3, 5, 7, 8, 9] [(15, .bool false)] ([¬ (((j : Nat) : Int) ≤ (8 : Int))]) (al1 q13) (ds_ (f_ (at_skip (done_block (ds_ (qa [(0, .fit)] [2, 3, 7, 8] [(9, .int .i64 (j + 1 : Nat))] ([Fit .i64 ((j + 1 : Nat))]) (al1 (fit64 (by omega) (by omega))) (Done.pick [[bx (γ11 0) (#[.int .i64 x10.id, .slice x10.p x10.n x10.cap]) 46], [bx (γ2 0) (#[.slice po nu co]) 38], [bx (γ1 1) (#[.slice none 0 0]) 38], [bx (γ1 0) (#[.slice (some ⟨b8, o8, none⟩) m capq]) 38], Yo, Yi] [1, 2, 3, 4, 5] [0] (bx (γ2 0) (#[.slice po nu co]) 38 :: bx (γ1 1) (#[.slice none 0 0]) 38 :: bx (γ1 0) (#[.slice (some ⟨b8, o8, none⟩) m capq]) 38 :: (Yo ++ (Yi ++ []))) (by kernel_rfl) rfl rfl ?_)))))))
   exact dr [2, 3, 7, 8, 9] (j + 1, Yo, po, nu, co, bl, Yi) ⟨by omega, by omega, hO, hG, short_out hB (by omega)⟩
 ·
  refine qa [(0, .no)] [2, 3, 7, 8, 9] [(10, .bool false)] ([¬ (((j : Nat) : Int) < ((m : Nat) : Int))]) (al1 q5) (ds_ (sq_ (f_ (at_leave _ rfl (ds_ (sq_ (ma0 [(0, .go (owns 0 0 1)), (1, .go (owns 1 0 1))] [2] (fun _ => []) (fun _ L => (L.set 1 (bx (γ1 1) (#[.slice po nu co]) 38))) (fun _ => ds_ (rt (owns 1 0 1) (.agg #[.slice po nu co]) ?_)))))))))
  rw [short_all (by omega)] at hB
  exact fun w' hw => ⟨_, _, _, _, _, _, rfl, hO, hG, hB, hw.below, two_tails14 (Hs.pick [[bx (γ2 0) (#[.slice po nu co]) 38], [bx (γ1 1) (#[.slice po nu co]) 38], [bx (γ1 0) (#[.slice q m capq]) 38], Yo, Yi] [3, 4] [0, 1, 2] (by kernel_rfl) hw)⟩
end Go.Proofs.Ytahccegfahghfaa

/-! Gangs: Rows, Copy. -/
namespace Go.Proofs.Ytahccegfahghfaa
open Go Go.RowKit
theorem rows_add {rl : List IntsA} {al : List GngA} {x : GngA} {y : IntsA} {j : Nat} (hB : rl.map IntsA.l = ((al.take j).map GngA.val).map (·.2)) (hx : al[j]? = some x) (hy : y.l = x.l) : (rl ++ [y]).map IntsA.l = ((al.take (j + 1)).map GngA.val).map (·.2) := by
 rw [take_one hx, List.map_append, List.map_append, List.map_append, hB, List.map_cons, List.map_nil, hy]; rfl
set_option maxRecDepth 100000 in
theorem grows_t (q : Option Addr) (m capq : Nat) (al : List GngA) (w : World)
 (hal : Sv w q al) (hma : m = al.length) (hbm : m ≤ 1000) (hnm : ∀ x ∈ al, x.Reads w) (hm9 : ∀ x ∈ al, x.n ≤ 1000)
 : Calls Try.prog 21 #[.agg #[.slice q m capq]] w fun e w' => ∃ q' m' c' Y rl Yi, e = .returned (.slice q' m' c') ∧ SlO 25 Y q' m' c' rl ∧ GotR 3 Yi rl ∧ rl.map IntsA.l = rowsV (al.map GngA.val) ∧ Below w.heap.size w w' ∧ Hs w (Y ++ Yi) w' := by
 refine enter (Hs.start w) Try.func21 rfl Try.ntmps21 rfl (sq_ (ma0 [] [] (fun γ1 => [(1, .pointer (some ⟨γ1 0, 0, none⟩))]) (fun γ1 L => bx (γ1 0) (#[.slice q m capq]) 38 :: L) (fun γ1 => ds_ (sq_ (sq_ (ao_ (qo0 1 [(0, .go (owns 0 0 1))] [1] [(6, .agg #[.slice q m capq])] ?_)))))))
 rcases q3 : gangB (al.map GngA.val) with _ | _
 ·
  refine cD (.int .i64 240) Try.call18 (fun w hw => by have := gcheck_t q m capq al w (hal.kept hw.below) hma (by omega) (fun x hx => (hnm x hx).kept hw.below) hm9; rw [q3] at this; exact this) (qo0 1 [] [1] [(8, .bool true)] (on_ (ds_ (t_ (sq_ (qa0 [] [] [(2, .slice none 0 0)] (ds_ (rt ([]) (.slice none 0 0) ?_))))))))
  exact fun w' hw => ⟨none, 0, 0, [], [], [], rfl, SlO.nil, GotR.nil, (rows_bad q3).symm, hw.below, hw.sub (List.nil_sublist _)⟩
 ·
  refine cD (.int .i64 0) Try.call18 (fun w hw => by have := gcheck_t q m capq al w (hal.kept hw.below) hma (by omega) (fun x hx => (hnm x hx).kept hw.below) hm9; rw [q3] at this; exact this) (qo0 1 [] [1] [(8, .bool false)] (on_ (ds_ (f_ (at_skip (ds_ (sq_ (qa0 [] [1] [(3, .slice none 0 0)] (ds_ (sq_ (sq_ (qa0 [(1, .go (owns 0 0 1))] [3] [(10, .slice q m capq), (11, .int .i64 (m : Nat)), (12, .int .i64 0)] (ds_ (at_block (At.pick [[bx (γ1 0) (#[.slice q m capq]) 38]] [] [0] ([]) (by kernel_rfl) rfl rfl (at_loop (α := Nat × List Ob × Option Addr × Nat × List IntsA × List Ob) [3, 10, 11, 12] (fun ⟨j, Yo, po, co, rl, Yi⟩ => [(3, .slice po j co), (10, .slice q m capq), (11, .int .i64 (m : Nat)), (12, .int .i64 (j : Nat))]) (fun ⟨j, Yo, po, co, rl, Yi⟩ => (Yo ++ (Yi ++ []))) (fun ⟨j, Yo, po, co, rl, Yi⟩ => j ≤ m ∧ SlO 25 Yo po j co rl ∧ GotR 3 Yi rl ∧ rl.map IntsA.l = ((al.take j).map GngA.val).map (·.2)) (fun ⟨j, Yo, po, co, rl, Yi⟩ => m - j) (0, [], none, 0, [], []) (by kernel_rfl) rfl ⟨Nat.zero_le _, SlO.nil, GotR.nil, rfl⟩ ?_))))))))))))))))
  rintro ⟨j, Yo, po, co, rl, Yi⟩
  rintro ⟨hj, hO, hG, hB⟩
  have hlb := hO.len
  refine sq_ ?_
  by_cases q10 : ((j : Nat) : Int) < ((m : Nat) : Int)
  ·
   refine qa [(0, .yes)] [3, 10, 11, 12] [(13, .bool true)] ([((j : Nat) : Int) < ((m : Nat) : Int)]) (al1 q10) (ds_ (sq_ (t_ (at_skip (ds_ (sq_ (at_block (sq_ ?_))))))))
   obtain ⟨b13, o13, rfl⟩ := hal.pos (i := j) (by omega)
   obtain ⟨x15, hx15⟩ := get_some (l := al) (m := j) (by omega)
   have hsx15 : Sv w x15.p x15.l := (hnm x15 (List.mem_of_getElem? hx15)).sv
   have hnx15 : x15.n = x15.l.length := (hnm x15 (List.mem_of_getElem? hx15)).hn
   have hm9x15 := hm9 x15 (List.mem_of_getElem? hx15)
   refine ma [(0, .at b13 o13 j), (1, .go (outs b13 (o13 + j * 2) [.int .i64 x15.id, .slice x15.p x15.n x15.cap])), (3, .go (owns 0 0 2))] [3, 10, 11, 12] (fun γ16 => [(5, .pointer (some ⟨γ16 0, 0, none⟩))]) (fun γ16 L => bx (γ16 0) (#[.int .i64 x15.id, .slice x15.p x15.n x15.cap]) 46 :: L) (fun γ16 => [(some ⟨b13, o13, none⟩ : Option Addr) = some ⟨b13, o13, none⟩, (j : Nat) = ((j : Nat) : Int), j < m] ++ (cellsP w b13 (o13 + j * 2) [.int .i64 x15.id, .slice x15.p x15.n x15.cap])) (fun γ16 => (alA (al2 rfl (al2 rfl (al1 (by omega)))) (rd_pre (hal.get hx15) _ rfl))) (fun γ16 => ds_ (ao_ (qo0 3 [(2, .go (owns 0 1 1))] [10, 11, 12] [(16, .slice po j co), (18, .slice x15.p x15.n x15.cap)] (cP (fun v L' => ∃ q_ c_ Y_, v = .slice q_ x15.n c_ ∧ L' = List.take 1 (bx (γ16 0) (#[.int .i64 x15.id, .slice x15.p x15.n x15.cap]) 46 :: (Yo ++ (Yi ++ []))) ++ (Y_ ++ List.drop 1 (bx (γ16 0) (#[.int .i64 x15.id, .slice x15.p x15.n x15.cap]) 46 :: (Yo ++ (Yi ++ [])))) ∧ SlO 3 Y_ q_ x15.n c_ x15.l) Try.call44 (fun w hw => (cloneints_t x15.p x15.n x15.cap x15.l w (hsx15.kept hw.below) hnx15 (by omega)).mono fun e w' ⟨q_, c_, Y_, he, hO, hb, hY⟩ => ⟨_, _, he, ⟨q_, c_, Y_, rfl, rfl, hO⟩, hw.join hb hY 1⟩) ?_))))
   rintro v18 L18 ⟨q18, cq18, Y18, rfl, rfl, hO18⟩
   refine mo0 1 [] [10, 11, 12, 16] (fun γ19 => [(20, .slice (some ⟨γ19 0, 0, none⟩) 1 1)]) (fun γ19 L => bx (γ19 0) (#[.slice q18 x15.n cq18]) 25 :: L) (fun γ19 => Ops.pick [[bx (γ19 0) (#[.slice q18 x15.n cq18]) 25], [bx (γ16 0) (#[.int .i64 x15.id, .slice x15.p x15.n x15.cap]) 46], Y18, Yo, Yi] [0, 1, 3, 2, 4] [] (bx (γ19 0) (#[.slice q18 x15.n cq18]) 25 :: bx (γ16 0) (#[.int .i64 x15.id, .slice x15.p x15.n x15.cap]) 46 :: (Yo ++ (Y18 ++ (Yi ++ [])))) (by kernel_rfl) rfl rfl (ops_append (α := IntsA) [bx (γ19 0) (#[.slice q18 x15.n cq18]) 25, bx (γ16 0) (#[.int .i64 x15.id, .slice x15.p x15.n x15.cap]) 46] Yo (Y18 ++ (Yi ++ [])) (.refl _) rfl (by kernel_rfl) (by kernel_rfl) (p := po) (n := j) (cap := co) (m := 1) (yv := .slice (some ⟨γ19 0, 0, none⟩) 1 1) (by kernel_rfl) (by kernel_rfl) (T := 25) (by_ := 24) (by kernel_rfl) rl ([(⟨q18, x15.n, cq18, x15.l⟩ : IntsA)]) hO (fun w hw => src_svn Try.underlying24 (sv_row (hw.row 0 rfl) (by rfl)) (by rfl)) (by rfl) (by have hmx : maxLen = 9223372036854775807 := rfl; omega) (by have hmx : maxLen = 9223372036854775807 := rfl; omega) (fun Y20 p20 cap20 hO20 => qo0 1 [] [10, 11, 12] [(3, .slice p20 (j + 1) cap20)] (on_ (done_block (ds_ (qa [(0, .fit)] [3, 10, 11] [(12, .int .i64 (j + 1 : Nat))] ([Fit .i64 ((j + 1 : Nat))]) (al1 (fit64 (by omega) (by omega))) (Done.pick [[bx (γ19 0) (#[.slice q18 x15.n cq18]) 25], [bx (γ16 0) (#[.int .i64 x15.id, .slice x15.p x15.n x15.cap]) 46], Y20, Y18, Yi] [2, 4, 3] [0, 1] ((Y20 ++ (Yi ++ (Y18 ++ [])))) (by kernel_rfl) rfl rfl (Done.as (L' := (Y20 ++ ((Yi ++ Y18) ++ []))) (by simp only [List.append_assoc]) ?_)))))))))
   exact dr [3, 10, 11, 12] (j + 1, Y20, p20, cap20, (rl ++ [(⟨q18, x15.n, cq18, x15.l⟩ : IntsA)]), Yi ++ Y18) ⟨by omega, hO20, GotR.snoc hG hO18, rows_add hB hx15 rfl⟩
  ·
   refine qa [(0, .no)] [3, 10, 11, 12] [(13, .bool false)] ([¬ (((j : Nat) : Int) < ((m : Nat) : Int))]) (al1 q10) (ds_ (sq_ (f_ (at_leave _ rfl (ds_ (sq_ (qa0 [] [] [(2, .slice po j co)] (ds_ (rt ([]) (.slice po j co) ?_)))))))))
   exact fun w' hw => ⟨_, _, _, _, _, _, rfl, hO, hG, by rw [hB, List.take_of_length_le (by omega), rows_ok q3], hw.below, two_tails14 (Hs.pick [Yo, Yi] [0, 1] [] (by kernel_rfl) hw)⟩

end Go.Proofs.Ytahccegfahghfaa

/-! The layer does something. -/
namespace Go.Proofs.Ytahccegfahghfaa
open Go Go.RowKit
theorem bool_eqRun (op : BinOp) (hop : op = .eql ∨ op = .neq) (x y : Operand) (a b r : Bool) (hr : r = (if op = .eql then a == b else !(a == b))) : EqRun Try.prog op 4 x y (.bool a) (.bool b) r := by
 intro w
 subst hr
 have hg : Try.prog.eqGuardType Try.prog.depth 4 = false := by kernel_rfl
 have key : (Op.equal 4 (.bool a) (.bool b)).run Try.prog w = .ok (a == b) w := by
  unfold Op.equal
  rw [show Op.maxDepth = 9999 + 1 from rfl]
  exact run_equalIn_bool' w 9999 4 a b Try.underlying4
 have guard : (eqGuard op 4 x y (.bool a) (.bool b)).run Try.prog w = .ok () w := by
  unfold eqGuard
  rcases hop with rfl | rfl <;> simp [hg]
 rw [Sem.run_bind, guard]
 simp only [Result.andThen_ok]
 rcases hop with rfl | rfl <;> simp [binOp, Sem.run_bind, key]
theorem bool_same {x y : Operand} (a : Bool) : EqRun Try.prog .neq 4 x y (.bool a) (.bool a) false := bool_eqRun _ (.inr rfl) x y a a _ (by simp)
theorem bool_ne {x y : Operand} (a b : Bool) : EqRun Try.prog .neq 4 x y (.bool a) (.bool b) (!(a == b)) := bool_eqRun _ (.inr rfl) x y a b _ (by simp)
theorem hs_re {w0 w : World} {A Y Z B : List Ob} (h : Hs w0 (A ++ ((Y ++ Z) ++ B)) w) : Hs w0 (A ++ (Y ++ (Z ++ B))) w := by rwa [← List.append_assoc Y Z B]

set_option maxRecDepth 100000 in
theorem wakes_t  (w : World)
 : Calls Try.prog 9 #[] w fun e w' => e = .returned (.bool true) ∧ Below w.heap.size w w' := by
 refine enter (Hs.start w) Try.func9 rfl Try.ntmps9 rfl (sq_ (qa0 [] [] [] (ds_ (sq_ (ao_ (mo0 2 [] [] (fun γ2 => [(10, .agg #[.slice none 0 0]), (11, .slice (some ⟨γ2 0, 0, none⟩) 2 2)]) (fun γ2 L => bx (γ2 0) (#[.int .i64 1, .int .i64 3]) 3 :: L) (fun γ2 => cP (fun v L' => ∃ q_ n_ c_ Y_ Z_ bl_, v = .tuple #[.agg #[.slice q_ n_ c_], .int .i64 1, .int .i64 0] ∧ L' = List.take 1 ([bx (γ2 0) (#[.int .i64 1, .int .i64 3]) 3]) ++ (Y_ ++ (Z_ ++ List.drop 1 ([bx (γ2 0) (#[.int .i64 1, .int .i64 3]) 3]))) ∧ SlO 46 Y_ q_ n_ c_ bl_ ∧ GotG 3 Z_ bl_ ∧ bl_.map GngA.val = [(1, [1, 3])]) Try.call29 (fun w hw => (form_t none 0 0 [] (some ⟨γ2 0, 0, none⟩) 2 2 [1, 3] w Sv.nil rfl (by decide) (fun x hx => nomatch hx) (fun x hx => nomatch hx) (sv_row (hw.row 0 rfl) rfl) rfl (by decide)).mono fun e w' ⟨er, q_, n_, c_, Y_, Z_, bl_, idn, he, hv, hO, hG, hb, hY⟩ => by have hq := hv.trans (show _ = ([(1, [1, 3])], (1 : Int), (0 : Int)) from by kernel_rfl); simp only [Prod.mk.injEq] at hq; obtain ⟨hq1, rfl, rfl⟩ := hq; exact ⟨_, _, he, ⟨q_, n_, c_, Y_, Z_, bl_, rfl, rfl, hO, hG, hq1⟩, hs_re (hw.join hb hY 1)⟩) ?_)))))))
 rintro v3 L3 ⟨q3, n3, c3, Y3, Yz3, bl3, rfl, rfl, hO3, hG3, hV3⟩
 have hbl3 : bl3.length = 1 := by have := congrArg List.length hV3; simpa using this
 refine mo0 8 [(8, .go (owns 0 0 1))] [] (fun γ4 => [(1, .pointer (some ⟨γ4 0, 0, none⟩)), (2, .int .i64 1), (3, .int .i64 0)]) (fun γ4 L => bx (γ4 0) (#[.slice q3 n3 c3]) 38 :: L) (fun γ4 => on_ (ds_ (sq_ (ao_ (mo0 2 [(0, .go (owns 0 0 1))] [2, 3] (fun γ5 => [(17, .agg #[.slice q3 n3 c3]), (18, .slice (some ⟨γ5 0, 0, none⟩) 2 2)]) (fun γ5 L => bx (γ5 0) (#[.int .i64 3, .int .i64 4]) 3 :: L) (fun γ5 => cP (fun v L' => ∃ q_ n_ c_ Y_ Z_ bl_, v = .tuple #[.agg #[.slice q_ n_ c_], .int .i64 0, .int .i64 5] ∧ L' = List.take 3 (bx (γ5 0) (#[.int .i64 3, .int .i64 4]) 3 :: bx (γ4 0) (#[.slice q3 n3 c3]) 38 :: bx (γ2 0) (#[.int .i64 1, .int .i64 3]) 3 :: (Y3 ++ (Yz3 ++ []))) ++ (Y_ ++ (Z_ ++ List.drop 3 (bx (γ5 0) (#[.int .i64 3, .int .i64 4]) 3 :: bx (γ4 0) (#[.slice q3 n3 c3]) 38 :: bx (γ2 0) (#[.int .i64 1, .int .i64 3]) 3 :: (Y3 ++ (Yz3 ++ []))))) ∧ SlO 46 Y_ q_ n_ c_ bl_ ∧ GotG 3 Z_ bl_ ∧ bl_.map GngA.val = []) Try.call29 (fun w hw => (form_t q3 n3 c3 bl3 (some ⟨γ5 0, 0, none⟩) 2 2 [3, 4] w (SlO.sub hO3 hw (List.Sublist.cons _ (List.Sublist.cons _ (List.Sublist.cons _ (List.sublist_append_left Y3 _))))) hO3.len (by have := hO3.len; omega) (GotG.reads hG3 hw (List.Sublist.cons _ (List.Sublist.cons _ (List.Sublist.cons _ (List.Sublist.trans (List.sublist_append_left Yz3 _) (List.sublist_append_right Y3 _)))))) (got_small hG3 (by rw [hV3]; kernel_rfl)) (sv_row (hw.row 0 rfl) rfl) rfl (by decide)).mono fun e w' ⟨er, q_, n_, c_, Y_, Z_, bl_, idn, he, hv, hO, hG, hb, hY⟩ => by have hq := hv.trans (show _ = ([], (0 : Int), (5 : Int)) from by rw [hV3]; kernel_rfl); simp only [Prod.mk.injEq] at hq; obtain ⟨hq1, rfl, rfl⟩ := hq; exact ⟨_, _, he, ⟨q_, n_, c_, Y_, Z_, bl_, rfl, rfl, hO, hG, hq1⟩, hs_re (hw.join hb hY 3)⟩) ?_))))))
 rintro v6 L6 ⟨q6, n6, c6, Y6, Yz6, bl6, rfl, rfl, hO6, hG6, hV6⟩
 have hbl6 : bl6.length = 0 := by have := congrArg List.length hV6; simpa using this
 refine mo0 8 [(8, .go (owns 0 0 1))] [2, 3] (fun γ7 => [(6, .int .i64 5)]) (fun γ7 L => bx (γ7 0) (#[.slice q6 n6 c6]) 38 :: L) (fun γ7 => on_ (ds_ (sq_ (ao_ (mo0 3 [] [2, 3, 6] (fun γ8 => [(26, .slice (some ⟨γ8 2, 0, none⟩) 2 2)]) (fun γ8 L => bx (γ8 2) (#[.slice (some ⟨γ8 0, 0, none⟩) 2 2, .slice (some ⟨γ8 1, 0, none⟩) 1 1]) 25 :: bx (γ8 1) (#[.int .i64 0]) 3 :: bx (γ8 0) (#[.int .i64 0, .int .i64 1]) 3 :: L) (fun γ8 => cP (fun v L' => ∃ q_ c_ Y_, v = .tuple #[.slice q_ 2 c_, .bool true] ∧ L' = List.take 7 (bx (γ8 2) (#[.slice (some ⟨γ8 0, 0, none⟩) 2 2, .slice (some ⟨γ8 1, 0, none⟩) 1 1]) 25 :: bx (γ8 1) (#[.int .i64 0]) 3 :: bx (γ8 0) (#[.int .i64 0, .int .i64 1]) 3 :: bx (γ7 0) (#[.slice q6 n6 c6]) 38 :: bx (γ5 0) (#[.int .i64 3, .int .i64 4]) 3 :: bx (γ4 0) (#[.slice q3 n3 c3]) 38 :: bx (γ2 0) (#[.int .i64 1, .int .i64 3]) 3 :: (Y6 ++ (Yz6 ++ (Y3 ++ (Yz3 ++ []))))) ++ (Y_ ++ List.drop 7 (bx (γ8 2) (#[.slice (some ⟨γ8 0, 0, none⟩) 2 2, .slice (some ⟨γ8 1, 0, none⟩) 1 1]) 25 :: bx (γ8 1) (#[.int .i64 0]) 3 :: bx (γ8 0) (#[.int .i64 0, .int .i64 1]) 3 :: bx (γ7 0) (#[.slice q6 n6 c6]) 38 :: bx (γ5 0) (#[.int .i64 3, .int .i64 4]) 3 :: bx (γ4 0) (#[.slice q3 n3 c3]) 38 :: bx (γ2 0) (#[.int .i64 1, .int .i64 3]) 3 :: (Y6 ++ (Yz6 ++ (Y3 ++ (Yz3 ++ [])))))) ∧ SlO 3 Y_ q_ 2 c_ ([1, 0] : List Int)) Try.call10 (fun w hw => (match_t (some ⟨γ8 2, 0, none⟩) 2 2 ([(⟨(some ⟨γ8 0, 0, none⟩), 2, 2, [0, 1]⟩ : IntsA), (⟨(some ⟨γ8 1, 0, none⟩), 1, 1, [0]⟩ : IntsA)]) w (sv_row (hw.row 0 rfl) rfl) rfl (by decide) (fun x hx => by simp only [List.mem_cons, List.not_mem_nil, or_false] at hx; rcases hx with rfl | rfl; exact ⟨sv_row (hw.row 2 rfl) rfl, rfl, Nat.le_refl _, (by simp)⟩; exact ⟨sv_row (hw.row 1 rfl) rfl, rfl, Nat.le_refl _, (by simp)⟩) (fun x hx => by simp only [List.mem_cons, List.not_mem_nil, or_false] at hx; rcases hx with rfl | rfl <;> simp)).mono fun e w' ⟨q_, n_, c_, Y_, he, hO, hb, hY⟩ => by rw [show matchA _ = (([1, 0] : List Int), true) from (by kernel_rfl)] at he hO; obtain rfl : n_ = 2 := hO.len; exact ⟨_, _, he, ⟨q_, c_, Y_, rfl, rfl, hO⟩, hw.join hb hY 7⟩) ?_))))))
 rintro v9 L9 ⟨q9, c9, Y9, rfl, rfl, hO9⟩
 refine qo0 5 [] [2, 3, 6] [(7, .slice q9 2 c9), (8, .bool true)] (on_ (ds_ (sq_ ?_)))
 have hln12 := hO9.len
 obtain ⟨g12, cs12, rfl, rfl, hOw12⟩ := hO9.rowOf (i := 0) (by omega)
 refine qa [(20, .at g12 0 0), (21, .go (ownps 7 (0 + 0 * 1) [.int .i64 1])), (26, .at g12 0 1), (27, .go (ownps 7 (0 + 1 * 1) [.int .i64 0]))] [] [(0, .bool true)] ([(some ⟨g12, 0, none⟩ : Option Addr) = some ⟨g12, 0, none⟩, 0 = ((0 : Nat) : Int), 0 < 2] ++ (acellsP cs12 (0 + 0 * 1) [.int .i64 1] ++ ([(some ⟨g12, 0, none⟩ : Option Addr) = some ⟨g12, 0, none⟩, 1 = ((1 : Nat) : Int), 1 < 2] ++ (acellsP cs12 (0 + 1 * 1) [.int .i64 0])))) (alA (al2 rfl (al2 rfl (al1 (by omega)))) (alA (rda_pre (hOw12.rdx hO9.len rfl) _ rfl) (alA (al2 rfl (al2 rfl (al1 (by omega)))) (rda_pre (hOw12.rdx hO9.len rfl) _ rfl)))) (ds_ (rt ([]) (.bool true) ?_))
 exact fun w' hw => ⟨rfl, hw.below⟩
end Go.Proofs.Ytahccegfahghfaa

/-! Rows of rows of numbers as elements; what few and Match leave; plain. -/
namespace Go.Proofs.Ytahccegfahghfaa
open Go Go.RowKit
/-- Rows of whole numbers, as an element. -/
structure RowsA where
  p : Option Addr
  n : Nat
  cap : Nat
  l : List IntsA
def RowsA.enc (x : RowsA) : List Value := [.slice x.p x.n x.cap]
instance : Enc RowsA := ⟨RowsA.enc, 1, fun _ => rfl, fun x v h => by simp [RowsA.enc] at h; subst h; rfl, by decide⟩
structure RowsA.Reads (w : World) (x : RowsA) : Prop where
  sv : Sv w x.p x.l
  hn : x.n = x.l.length
  hc : x.n ≤ x.cap
  hb : x.cap ≤ 9223372036854775807
  hi : ∀ y ∈ x.l, y.Reads w
section
variable {T : TypeId} {Yi : List Ob} {bl : List IntsA} {R rows : List (List Int)} {ll : List (List Int)} {ol row : List Int} {i : Nat}
end
end Go.Proofs.Ytahccegfahghfaa

/-! A match is one's own; with more to choose from there still is one; plain. -/
namespace Go.Proofs.Ytahccegfahghfaa
open Go Go.RowKit
section
variable {T : TypeId} {Yi Y : List Ob} {al : List IntsA} {x : IntsA} {L L0 rows : List (List Int)} {row m : List Int} {i j : Nat} {c : Int}
theorem ma_is (hc : choB rows = true) (h : ∃ m, Sdr rows m) : (matchA rows).2 = true := by rw [ma_yes hc ((match_iff (cho_rows hc).1).2 h)]
/-- Each row has at least what it had. -/
structure OwnI (L0 L : List (List Int)) : Prop where
  len : L.length = L0.length
  cho : choB L = true
  sub : ∀ (i : Nat) (r0 : List Int), L0[i]? = some r0 → ∃ r, L[i]? = some r ∧ ∀ c ∈ r0, c ∈ r
theorem OwnI.start (h : choB L = true) : OwnI L L := ⟨rfl, h, fun _ r0 h => ⟨r0, h, fun _ h => h⟩⟩
theorem OwnI.more (h : OwnI L0 L) (hr : L[i]? = some row) (hn : decide (c ∈ row) = false) (h0 : 0 ≤ c) (h8 : c < 8) : OwnI L0 (L.set i (row ++ [c])) := by
  have hl := (List.getElem?_eq_some_iff.1 hr).1
  refine ⟨by rw [List.length_set]; exact h.len, ?_, fun j r0 e => ?_⟩
  · have hc := h.cho
    unfold choB at hc ⊢
    simp only [Bool.and_eq_true, List.all_eq_true, decide_eq_true_eq, List.length_set] at hc ⊢
    refine ⟨fun r hm => ?_, hc.2⟩
    rcases List.mem_or_eq_of_mem_set hm with e | e
    · exact hc.1 r e
    · subst e
      have h1 := row_iff.1 (hc.1 row (List.mem_of_getElem? hr))
      refine row_iff.2 ⟨fun y hy => ?_, nodup_more h1.2 hn⟩
      rcases List.mem_append.1 hy with e | e
      · exact h1.1 y e
      · simp at e; subst e; exact ⟨h0, h8⟩
  · obtain ⟨r, h1, h2⟩ := h.sub j r0 e
    by_cases hj : i = j
    · subst hj
      rw [hr] at h1; cases h1
      exact ⟨row ++ [c], List.getElem?_set_self hl, fun y hy => List.mem_append_left _ (h2 y hy)⟩
    · exact ⟨r, by rw [List.getElem?_set_ne hj]; exact h1, h2⟩
theorem OwnI.yes (h : OwnI L0 L) (hm : Sdr L0 m) : (matchA L).2 = true := by
  refine ma_is h.cho ⟨m, hm.len.trans h.len.symm, hm.nd, fun j c e => ?_⟩
  obtain ⟨r0, h1, h2⟩ := hm.own j c e
  obtain ⟨r, h3, h4⟩ := h.sub j r0 h1
  exact ⟨r, h3, h4 c h2⟩
end
end Go.Proofs.Ytahccegfahghfaa

/-! Gangs: Leave; what the document does to gangs; plain. -/
namespace Go.Proofs.Ytahccegfahghfaa
open Go Go.RowKit
/-- Members without one. -/
def lessL (l : List Int) (k : Int) : List Int := l.filter fun n => !decide (n = k)
/-- Gangs without one member; a gang of one is none. -/
def cutV (k : Int) : Gs → Gs
  | [] => []
  | g :: t => if k ∈ g.2 then (if (lessL g.2 k).length < 2 then t else (g.1, lessL g.2 k) :: t) else g :: cutV k t
/-- What Leave does to a copy. -/
def leaveC (gs : Gs) (k : Int) : Gs × Int := if inV gs k = true then (cutV k gs, 0) else (gs, 4)
section
variable {al bl : List GngA} {gs : Gs} {k n : Int} {x x0 y : GngA} {i0 i j : Nat} {l : List Int} {g : Int × List Int} {T : TypeId} {Yi Y : List Ob}
/-- The blocks of those that are kept. -/
theorem GotG.filter (p : GngA → Bool) : ∀ {al : List GngA} {Yi : List Ob}, GotG T Yi al → ∃ Yi2, List.Sublist Yi2 Yi ∧ GotG T Yi2 (al.filter p)
  | [], Yi, h => ⟨[], List.nil_sublist _, GotG.nil⟩
  | x :: al, Yi, h => by
    obtain ⟨Ys, rfl, hl, hs⟩ := h
    cases Ys with
    | nil => simp at hl
    | cons Z Ys =>
      have h1 : GotG T Ys.flatten al := ⟨Ys, rfl, by simpa using hl, fun i Y y e1 e2 => hs (i + 1) Y y (by simpa using e1) (by simpa using e2)⟩
      obtain ⟨Y2, hsub, hg⟩ := GotG.filter p h1
      by_cases e : p x = true
      · rw [List.filter_cons_of_pos e]
        obtain ⟨Ys2, rfl, hl2, hs2⟩ := hg
        refine ⟨(Z :: Ys2).flatten, ?_, Z :: Ys2, rfl, by simpa using hl2, fun i Y y e1 e2 => ?_⟩
        · rw [List.flatten_cons, List.flatten_cons]; exact (List.Sublist.refl _).append hsub
        · cases i with
          | zero => exact hs 0 Y y (by simpa using e1) (by simpa using e2)
          | succ i => exact hs2 i Y y (by simpa using e1) (by simpa using e2)
      · rw [List.filter_cons_of_neg e]
        exact ⟨Y2, by rw [List.flatten_cons]; exact hsub.trans (List.sublist_append_right _ _), hg⟩
-- the first number that is free
abbrev gapA (al : List GngA) : Nat := gapV 0 (al.map GngA.val)
/-- Gangs as far as they are put in again, with one more. -/
def outT (bl : List GngA) (y : GngA) (j : Nat) : List GngA := if j ≤ gapA bl then bl.take j else bl.take (gapA bl) ++ [y] ++ (bl.take j).drop (gapA bl)
end
end Go.Proofs.Ytahccegfahghfaa

/-! Gangs as an element; what short leaves; plain. -/
namespace Go.Proofs.Ytahccegfahghfaa
open Go Go.RowKit
/-- Gangs, as an element. -/
structure GngsA where
  p : Option Addr
  n : Nat
  cap : Nat
  l : List GngA
def GngsA.enc (x : GngsA) : List Value := [.slice x.p x.n x.cap]
instance : Enc GngsA := ⟨GngsA.enc, 1, fun _ => rfl, fun x v h => by simp [GngsA.enc] at h; subst h; rfl, by decide⟩
structure GngsA.Reads (w : World) (x : GngsA) : Prop where
  sv : Sv w x.p x.l
  hn : x.n = x.l.length
  hc : x.n ≤ x.cap
  hb : x.cap ≤ 9223372036854775807
  hi : ∀ y ∈ x.l, y.Reads w
section
variable {T : TypeId} {Yi : List Ob} {bl bl2 al : List GngA} {gs : Gs} {rl : List IntsA} {x : GngA} {y : IntsA} {j : Nat} {w : World} {k : Int}
theorem short_facts (hG : GotG T Yi bl) (hB : bl.map GngA.val = shortV gs) : bl.length ≤ 9 ∧ ∀ x ∈ bl, x.n ≤ 1000 := by
  have h1 : (shortV gs).length ≤ 9 := by unfold shortV; rw [List.length_map, List.length_take]; omega
  refine ⟨by rw [← List.length_map (f := GngA.val), hB]; exact h1, fun x hx => ?_⟩
  obtain ⟨Z, _, hz⟩ := GotR.own hG (List.mem_map_of_mem (f := GngA.row) hx)
  have h2 : x.val ∈ shortV gs := by rw [← hB]; exact List.mem_map_of_mem hx
  unfold shortV at h2
  obtain ⟨r, _, hr⟩ := List.mem_map.1 h2
  have h3 : x.l.length ≤ 17 := by
    have : x.l = r.2.take 17 := (congrArg Prod.snd hr).symm
    rw [this, List.length_take]; omega
  have h4 : x.row.n = x.row.l.length := hz.facts.1
  have h5 : x.n = x.l.length := h4
  omega
theorem rows_eq (hB : rl.map IntsA.l = rowsV (bl.map GngA.val)) (hg : gangB (bl.map GngA.val) = true) (h1 : rl[j]? = some y) (h2 : bl[j]? = some x) : y.l = x.l := by
  rw [rows_ok hg] at hB
  have h3 := congrArg (fun l : List (List Int) => l[j]?) hB
  simp only [List.getElem?_map, h1, h2, Option.map_some, Option.some.injEq] at h3
  exact h3
theorem rows_len (hB : rl.map IntsA.l = rowsV (bl.map GngA.val)) (hg : gangB (bl.map GngA.val) = true) : rl.length = bl.length := by
  rw [rows_ok hg] at hB
  have := congrArg List.length hB
  simpa using this
theorem rows_nil (hB : rl.map IntsA.l = rowsV (bl.map GngA.val)) (hg : gangB (bl.map GngA.val) = false) : rl.length = 0 := by
  rw [rows_bad hg] at hB
  have := congrArg List.length hB
  simpa using this
/-- What Get finds reads. -/
theorem get_reads (h : ∀ x ∈ al, x.Reads w) (h9 : ∀ x ∈ al, x.n ≤ 1000) : Sv w (getA al k).1 (getA al k).2.2.2 ∧ (getA al k).2.1 = (getA al k).2.2.2.length ∧ (getA al k).2.1 ≤ 1000 := by
  rcases get_cases al k with ⟨e, _⟩ | ⟨i0, x0, hx, _, e⟩
  · rw [e]; exact ⟨Sv.nil, rfl, by decide⟩
  · rw [e]
    have hm := List.mem_of_getElem? hx
    exact ⟨(h x0 hm).sv, (h x0 hm).hn, h9 x0 hm⟩
end
end Go.Proofs.Ytahccegfahghfaa

/-! The statement GangTells, walked. -/
namespace Go.Proofs.Ytahccegfahghfaa
open Go Go.RowKit
theorem rows_small {y : IntsA} {x : GngA} (h : y.n = y.l.length) (e : y.l = x.l) (hx : x.row.n = x.row.l.length) (h9 : x.n ≤ 1000) : y.n ≤ 1000 := by
 have h2 : x.n = x.l.length := hx
 rw [h, e]; omega
set_option maxHeartbeats 1000000 in

set_option maxRecDepth 100000 in
theorem tells_law14 (p : Option Addr) (n cap : Nat) (xl : List GngsA) (pk : Option Addr) (nk ck : Nat) (kl : List Int) (w : World)
 (hxl : Sv w p xl) (hn : n = xl.length) (hcp : n ≤ cap) (hbg : cap ≤ 9223372036854775807) (hnm : ∀ x ∈ xl, x.Reads w) (hkl : Sv w pk kl) (hnk : nk = kl.length) (hck : nk ≤ ck) (hbk : ck ≤ 9223372036854775807)
 : Calls Try.prog 5 #[.slice p n cap, .slice pk nk ck] w fun e w' => e = .returned (.bool true) ∧ Below w.heap.size w w' := by
 refine enter (Hs.start w) Try.func5 rfl Try.ntmps5 rfl (sq_ (qa0 [] [0, 1] [] (ds_ (sq_ (sq_ (ao_ (cD (.bool true) Try.call9 (fun w hw => wakes_t w) (qo0 1 [] [0, 1] [(20, .bool false)] (on_ (ds_ (f_ (at_skip (ds_ (sq_ (sq_ (qa0 [] [0, 1] [(21, .slice p n cap), (22, .int .i64 (n : Nat)), (23, .int .i64 0)] (ds_ (at_block (at_loop (α := Nat) [0, 1, 21, 22, 23] (fun j => [(0, .slice p n cap), (1, .slice pk nk ck), (21, .slice p n cap), (22, .int .i64 (n : Nat)), (23, .int .i64 (j : Nat))]) (fun j => []) (fun j => j ≤ n) (fun j => n - j) 0 (by kernel_rfl) rfl (Nat.zero_le _) ?_)))))))))))))))))))
 rintro j
 rintro hj
 refine sq_ ?_
 by_cases q6 : ((j : Nat) : Int) < ((n : Nat) : Int)
 ·
  refine qa [(0, .yes)] [0, 1, 21, 22, 23] [(24, .bool true)] ([((j : Nat) : Int) < ((n : Nat) : Int)]) (al1 q6) (ds_ (sq_ (t_ (at_skip (ds_ (sq_ (at_block (sq_ ?_))))))))
  obtain ⟨b9, o9, rfl⟩ := hxl.pos (i := j) (by omega)
  obtain ⟨x11, hx11⟩ := get_some (l := xl) (m := j) (by omega)
  have hrx11 := hnm x11 (List.mem_of_getElem? hx11)
  have hsx11 : Sv w x11.p x11.l := hrx11.sv
  have hnx11 : x11.n = x11.l.length := hrx11.hn
  have hcx11 := hrx11.hc
  have hbx11 := hrx11.hb
  refine ma [(1, .at b9 o9 j), (2, .go (outs b9 (o9 + j * 1) [.slice x11.p x11.n x11.cap])), (5, .go (owns 0 0 1))] [0, 1, 21, 22, 23] (fun γ12 => [(5, .int .i64 (j : Nat)), (6, .pointer (some ⟨γ12 0, 0, none⟩))]) (fun γ12 L => bx (γ12 0) (#[.slice x11.p x11.n x11.cap]) 38 :: L) (fun γ12 => [(some ⟨b9, o9, none⟩ : Option Addr) = some ⟨b9, o9, none⟩, (j : Nat) = ((j : Nat) : Int), j < n] ++ (cellsP w b9 (o9 + j * 1) [.slice x11.p x11.n x11.cap])) (fun γ12 => (alA (al2 rfl (al2 rfl (al1 (by omega)))) (rd_pre (hxl.get hx11) _ rfl))) (fun γ12 => ds_ (sq_ (sq_ ?_)))
  by_cases q14 : ((j : Nat) : Int) = (8 : Int)
  ·
   refine qa [(1, .yes)] [0, 1, 6, 21, 22, 23] [(29, .bool true)] ([((j : Nat) : Int) = (8 : Int)]) (al1 q14) (ds_ (t_ (at_leave _ rfl (ds_ (sq_ (qa0 [] [] [(4, .bool true)] (ds_ (rt ([]) (.bool true) ?_))))))))
   exact fun w' hw => ⟨rfl, hw.below⟩
  ·
   refine qa [(1, .no)] [0, 1, 6, 21, 22, 23] [(29, .bool false)] ([¬ (((j : Nat) : Int) = (8 : Int))]) (al1 q14) (ds_ (f_ (at_skip (ds_ (sq_ ?_)))))
   obtain ⟨x18, hx18⟩ := get_some (l := xl) (m := 0) (by omega)
   have hrx18 := hnm x18 (List.mem_of_getElem? hx18)
   have hsx18 : Sv w x18.p x18.l := hrx18.sv
   have hnx18 : x18.n = x18.l.length := hrx18.hn
   have hcx18 := hrx18.hc
   have hbx18 := hrx18.hb
   refine at_any (by kernel_rfl) ?_
   refine tk (m := 8) [2, 3] [(3, .at b9 o9 0)] [0, 1, 6, 21, 22, 23] [(33, .pointer (some ⟨b9, o9 + 0 * 1, none⟩))] ([(some ⟨b9, o9, none⟩ : Option Addr) = some ⟨b9, o9, none⟩, 0 = ((0 : Nat) : Int), 0 < n]) #[false, false, true, true, false, false, false, false, false, false] (al2 rfl (al2 rfl (al1 (by omega)))) ?_
   refine any_cutX (V := (List Ob) × (List Ob) × (List Ob) × (List Ob) × (List GngA) × (List GngA) × (Nat) × (Nat) × (Nat) × (Nat) × (Option Addr) × (Option Addr) × (Nat → Nat) × (Nat → Nat)) (fun ⟨Y122, Y42, Yz122, Yz42, bl122, bl42, c122, c42, n122, n42, q122, q42, γ142, γ162⟩ => bl122.map GngA.val = shortV (x18.l.map GngA.val) ∧ bl42.map GngA.val = shortV (x11.l.map GngA.val) ∧ GotG 3 Yz122 bl122 ∧ GotG 3 Yz42 bl42 ∧ SlO 46 Y122 q122 n122 c122 bl122 ∧ SlO 46 Y42 q42 n42 c42 bl42 ∧ (bl122.length ≤ 9 ∧ ∀ x ∈ bl122, x.n ≤ 1000) ∧ (bl42.length ≤ 9 ∧ ∀ x ∈ bl42, x.n ≤ 1000)) 0 #[true, true, true, true, true, true, true, true, true, true] (fun ⟨Y122, Y42, Yz122, Yz42, bl122, bl42, c122, c42, n122, n42, q122, q42, γ142, γ162⟩ => [(0, .slice (some ⟨b9, o9, none⟩) n cap), (1, .slice pk nk ck), (6, .pointer (some ⟨γ12 0, 0, none⟩)), (7, .pointer (some ⟨γ142 0, 0, none⟩)), (8, .pointer (some ⟨γ162 0, 0, none⟩)), (21, .slice (some ⟨b9, o9, none⟩) n cap), (22, .int .i64 (n : Nat)), (23, .int .i64 (j : Nat))]) (fun ⟨Y122, Y42, Yz122, Yz42, bl122, bl42, c122, c42, n122, n42, q122, q42, γ142, γ162⟩ => bx (γ162 0) (#[.slice q122 n122 c122]) 38 :: bx (γ142 0) (#[.slice q42 n42 c42]) 38 :: bx (γ12 0) (#[.slice x11.p x11.n x11.cap]) 38 :: (Y122 ++ (Y42 ++ (Yz122 ++ (Yz42 ++ []))))) ?_ (fun hmx29 => ?_)
   rotate_left
   ·
    refine any_cutX (V := (List Ob) × (List Ob) × (List Ob) × (List Ob) × (List GngA) × (List GngA) × (Nat) × (Nat) × (Nat) × (Nat) × (Option Addr) × (Option Addr) × (Nat → Nat) × (Nat → Nat)) (fun ⟨Y122, Y42, Yz122, Yz42, bl122, bl42, c122, c42, n122, n42, q122, q42, γ142, γ162⟩ => bl122.map GngA.val = shortV (x18.l.map GngA.val) ∧ bl42.map GngA.val = shortV (x11.l.map GngA.val) ∧ GotG 3 Yz122 bl122 ∧ GotG 3 Yz42 bl42 ∧ SlO 46 Y122 q122 n122 c122 bl122 ∧ SlO 46 Y42 q42 n42 c42 bl42 ∧ (bl122.length ≤ 9 ∧ ∀ x ∈ bl122, x.n ≤ 1000) ∧ (bl42.length ≤ 9 ∧ ∀ x ∈ bl42, x.n ≤ 1000)) 1 #[true, true, true, true, true, true, true, true, true, false] (fun ⟨Y122, Y42, Yz122, Yz42, bl122, bl42, c122, c42, n122, n42, q122, q42, γ142, γ162⟩ => [(0, .slice (some ⟨b9, o9, none⟩) n cap), (1, .slice pk nk ck), (6, .pointer (some ⟨γ12 0, 0, none⟩)), (7, .pointer (some ⟨γ142 0, 0, none⟩)), (8, .pointer (some ⟨γ162 0, 0, none⟩)), (21, .slice (some ⟨b9, o9, none⟩) n cap), (22, .int .i64 (n : Nat)), (23, .int .i64 (j : Nat)), (35, .agg #[.slice q122 n122 c122])]) (fun ⟨Y122, Y42, Yz122, Yz42, bl122, bl42, c122, c42, n122, n42, q122, q42, γ142, γ162⟩ => bx (γ162 0) (#[.slice none 0 0]) 38 :: bx (γ142 0) (#[.slice q42 n42 c42]) 38 :: bx (γ12 0) (#[.slice x11.p x11.n x11.cap]) 38 :: (Y122 ++ (Y42 ++ (Yz122 ++ (Yz42 ++ []))))) ?_ (fun hmx28 => ?_)
    ·
     rintro ⟨Y122, Y42, Yz122, Yz42, bl122, bl42, c122, c42, n122, n42, q122, q42, γ142, γ162⟩ ⟨hB122, hB42, hG122, hG42, hO122, hO42, hf122, hf42⟩
     refine a1 9 rfl ?_
     refine mo0 1 [(9, .go (owns 0 0 1))] [0, 1, 6, 7, 8, 21, 22, 23] (fun _ => []) (fun _ L => (L.set 0 (bx (γ162 0) (#[.slice q122 n122 c122]) 38))) (fun _ => ?_)
     refine od_ ?_
     exact wk (hmx29 (Y122, Y42, Yz122, Yz42, bl122, bl42, c122, c42, n122, n42, q122, q42, γ142, γ162) ⟨hB122, hB42, hG122, hG42, hO122, hO42, hf122, hf42⟩) [0, 1, 6, 7, 8, 21, 22, 23] [[_], [_], [_], _, _, _, _] [0, 1, 2, 3, 4, 5, 6] rfl rfl
    refine any_cutX (V := (List Ob) × (List Ob) × (List Ob) × (List Ob) × (List GngA) × (List GngA) × (Nat) × (Nat) × (Nat) × (Nat) × (Option Addr) × (Option Addr) × (Nat → Nat) × (Nat → Nat)) (fun ⟨Y122, Y42, Yz122, Yz42, bl122, bl42, c122, c42, n122, n42, q122, q42, γ142, γ162⟩ => bl122.map GngA.val = shortV (x18.l.map GngA.val) ∧ bl42.map GngA.val = shortV (x11.l.map GngA.val) ∧ GotG 3 Yz122 bl122 ∧ GotG 3 Yz42 bl42 ∧ SlO 46 Y122 q122 n122 c122 bl122 ∧ SlO 46 Y42 q42 n42 c42 bl42 ∧ (bl122.length ≤ 9 ∧ ∀ x ∈ bl122, x.n ≤ 1000) ∧ (bl42.length ≤ 9 ∧ ∀ x ∈ bl42, x.n ≤ 1000)) 2 #[true, true, true, true, true, true, true, true, false, false] (fun ⟨Y122, Y42, Yz122, Yz42, bl122, bl42, c122, c42, n122, n42, q122, q42, γ142, γ162⟩ => [(0, .slice (some ⟨b9, o9, none⟩) n cap), (1, .slice pk nk ck), (6, .pointer (some ⟨γ12 0, 0, none⟩)), (7, .pointer (some ⟨γ142 0, 0, none⟩)), (8, .pointer (some ⟨γ162 0, 0, none⟩)), (21, .slice (some ⟨b9, o9, none⟩) n cap), (22, .int .i64 (n : Nat)), (23, .int .i64 (j : Nat)), (31, .agg #[.slice q42 n42 c42]), (35, .agg #[.slice q122 n122 c122])]) (fun ⟨Y122, Y42, Yz122, Yz42, bl122, bl42, c122, c42, n122, n42, q122, q42, γ142, γ162⟩ => bx (γ162 0) (#[.slice none 0 0]) 38 :: bx (γ142 0) (#[.slice none 0 0]) 38 :: bx (γ12 0) (#[.slice x11.p x11.n x11.cap]) 38 :: (Y122 ++ (Y42 ++ (Yz122 ++ (Yz42 ++ []))))) ?_ (fun hmx27 => ?_)
    ·
     rintro ⟨Y122, Y42, Yz122, Yz42, bl122, bl42, c122, c42, n122, n42, q122, q42, γ142, γ162⟩ ⟨hB122, hB42, hG122, hG42, hO122, hO42, hf122, hf42⟩
     refine a1 8 rfl ?_
     refine mo0 1 [(8, .go (owns 1 0 1))] [0, 1, 6, 7, 8, 21, 22, 23, 35] (fun _ => []) (fun _ L => (L.set 1 (bx (γ142 0) (#[.slice q42 n42 c42]) 38))) (fun _ => ?_)
     refine od_ ?_
     exact wk (hmx28 (Y122, Y42, Yz122, Yz42, bl122, bl42, c122, c42, n122, n42, q122, q42, γ142, γ162) ⟨hB122, hB42, hG122, hG42, hO122, hO42, hf122, hf42⟩) [0, 1, 6, 7, 8, 21, 22, 23, 35] [[_], [_], [_], _, _, _, _] [0, 1, 2, 3, 4, 5, 6] rfl rfl
    refine any_cutX (V := (List Ob) × (List Ob) × (List GngA) × (Nat) × (Nat) × (Option Addr) × (Nat → Nat) × (Nat → Nat)) (fun ⟨Y42, Yz42, bl42, c42, n42, q42, γ142, γ162⟩ => bl42.map GngA.val = shortV (x11.l.map GngA.val) ∧ GotG 3 Yz42 bl42 ∧ SlO 46 Y42 q42 n42 c42 bl42 ∧ (bl42.length ≤ 9 ∧ ∀ x ∈ bl42, x.n ≤ 1000)) 3 #[true, true, true, true, true, false, true, true, false, false] (fun ⟨Y42, Yz42, bl42, c42, n42, q42, γ142, γ162⟩ => [(0, .slice (some ⟨b9, o9, none⟩) n cap), (1, .slice pk nk ck), (6, .pointer (some ⟨γ12 0, 0, none⟩)), (7, .pointer (some ⟨γ142 0, 0, none⟩)), (8, .pointer (some ⟨γ162 0, 0, none⟩)), (21, .slice (some ⟨b9, o9, none⟩) n cap), (22, .int .i64 (n : Nat)), (23, .int .i64 (j : Nat)), (31, .agg #[.slice q42 n42 c42]), (34, .agg #[.slice x18.p x18.n x18.cap])]) (fun ⟨Y42, Yz42, bl42, c42, n42, q42, γ142, γ162⟩ => bx (γ162 0) (#[.slice none 0 0]) 38 :: bx (γ142 0) (#[.slice none 0 0]) 38 :: bx (γ12 0) (#[.slice x11.p x11.n x11.cap]) 38 :: (Y42 ++ (Yz42 ++ []))) ?_ (fun hmx26 => ?_)
    ·
     rintro ⟨Y42, Yz42, bl42, c42, n42, q42, γ142, γ162⟩ ⟨hB42, hG42, hO42, hf42⟩
     refine a1 5 rfl ?_
     refine cP (fun v L' => ∃ q_ n_ c_ Y_ Z_ bl_, v = .agg #[.slice q_ n_ c_] ∧ L' = List.take 3 (bx (γ162 0) (#[.slice none 0 0]) 38 :: bx (γ142 0) (#[.slice none 0 0]) 38 :: bx (γ12 0) (#[.slice x11.p x11.n x11.cap]) 38 :: (Y42 ++ (Yz42 ++ []))) ++ (Y_ ++ (Z_ ++ List.drop 3 (bx (γ162 0) (#[.slice none 0 0]) 38 :: bx (γ142 0) (#[.slice none 0 0]) 38 :: bx (γ12 0) (#[.slice x11.p x11.n x11.cap]) 38 :: (Y42 ++ (Yz42 ++ []))))) ∧ SlO 46 Y_ q_ n_ c_ bl_ ∧ GotG 3 Z_ bl_ ∧ bl_.map GngA.val = shortV (x18.l.map GngA.val)) Try.call16 (fun w hw => (short_t x18.p x18.n x18.cap x18.l w (hsx18.kept hw.below) hnx18 (by omega) (fun y hy => (hrx18.hi y hy).kept hw.below)).mono fun e w' ⟨q_, n_, c_, Y_, bl_, Z_, he, hO, hG, hB, hb, hY⟩ => ⟨_, _, he, ⟨q_, n_, c_, Y_, Z_, bl_, rfl, rfl, hO, hG, hB⟩, hs_re (hw.join hb hY 3)⟩) ?_
     rintro v122 L122 ⟨q122, n122, c122, Y122, Yz122, bl122, rfl, rfl, hO122, hG122, hB122⟩
     have hf122 := short_facts hG122 hB122
     refine od_ ?_
     exact wk (hmx27 (Y122, Y42, Yz122, Yz42, bl122, bl42, c122, c42, n122, n42, q122, q42, γ142, γ162) ⟨hB122, hB42, hG122, hG42, hO122, hO42, hf122, hf42⟩) [0, 1, 6, 7, 8, 21, 22, 23, 31, 35] [[_], [_], [_], _, _, _, _] [0, 1, 2, 3, 5, 4, 6] rfl rfl
    refine any_cutX (V := (List Ob) × (List Ob) × (List Ob) × (List Ob) × (List GngA) × (List GngA) × (Nat) × (Nat) × (Nat) × (Nat) × (Option Addr) × (Option Addr) × (Nat → Nat)) (fun ⟨Y122, Y42, Yz122, Yz42, bl122, bl42, c122, c42, n122, n42, q122, q42, γ162⟩ => bl122.map GngA.val = shortV (x18.l.map GngA.val) ∧ bl42.map GngA.val = shortV (x11.l.map GngA.val) ∧ GotG 3 Yz122 bl122 ∧ GotG 3 Yz42 bl42 ∧ SlO 46 Y122 q122 n122 c122 bl122 ∧ SlO 46 Y42 q42 n42 c42 bl42 ∧ (bl122.length ≤ 9 ∧ ∀ x ∈ bl122, x.n ≤ 1000) ∧ (bl42.length ≤ 9 ∧ ∀ x ∈ bl42, x.n ≤ 1000)) 3 #[true, true, true, true, true, true, false, true, false, false] (fun ⟨Y122, Y42, Yz122, Yz42, bl122, bl42, c122, c42, n122, n42, q122, q42, γ162⟩ => [(0, .slice (some ⟨b9, o9, none⟩) n cap), (1, .slice pk nk ck), (6, .pointer (some ⟨γ12 0, 0, none⟩)), (8, .pointer (some ⟨γ162 0, 0, none⟩)), (21, .slice (some ⟨b9, o9, none⟩) n cap), (22, .int .i64 (n : Nat)), (23, .int .i64 (j : Nat)), (31, .agg #[.slice q42 n42 c42]), (35, .agg #[.slice q122 n122 c122])]) (fun ⟨Y122, Y42, Yz122, Yz42, bl122, bl42, c122, c42, n122, n42, q122, q42, γ162⟩ => bx (γ162 0) (#[.slice none 0 0]) 38 :: bx (γ12 0) (#[.slice x11.p x11.n x11.cap]) 38 :: (Y122 ++ (Y42 ++ (Yz122 ++ (Yz42 ++ []))))) ?_ (fun hmx25 => ?_)
    ·
     rintro ⟨Y122, Y42, Yz122, Yz42, bl122, bl42, c122, c42, n122, n42, q122, q42, γ162⟩ ⟨hB122, hB42, hG122, hG42, hO122, hO42, hf122, hf42⟩
     refine a1 6 rfl ?_
     refine mo0 1 [] [0, 1, 6, 8, 21, 22, 23, 31, 35] (fun γ142 => [(7, .pointer (some ⟨γ142 0, 0, none⟩))]) (fun γ142 L => bx (γ142 0) (#[.slice none 0 0]) 38 :: L) (fun γ142 => ?_)
     refine od_ ?_
     exact wk (hmx27 (Y122, Y42, Yz122, Yz42, bl122, bl42, c122, c42, n122, n42, q122, q42, γ142, γ162) ⟨hB122, hB42, hG122, hG42, hO122, hO42, hf122, hf42⟩) [0, 1, 6, 7, 8, 21, 22, 23, 31, 35] [[_], [_], [_], _, _, _, _] [1, 0, 2, 3, 4, 5, 6] rfl rfl
    refine any_cutX (V := (List Ob) × (List Ob) × (List Ob) × (List Ob) × (List GngA) × (List GngA) × (Nat) × (Nat) × (Nat) × (Nat) × (Option Addr) × (Option Addr) × (Nat → Nat)) (fun ⟨Y122, Y42, Yz122, Yz42, bl122, bl42, c122, c42, n122, n42, q122, q42, γ142⟩ => bl122.map GngA.val = shortV (x18.l.map GngA.val) ∧ bl42.map GngA.val = shortV (x11.l.map GngA.val) ∧ GotG 3 Yz122 bl122 ∧ GotG 3 Yz42 bl42 ∧ SlO 46 Y122 q122 n122 c122 bl122 ∧ SlO 46 Y42 q42 n42 c42 bl42 ∧ (bl122.length ≤ 9 ∧ ∀ x ∈ bl122, x.n ≤ 1000) ∧ (bl42.length ≤ 9 ∧ ∀ x ∈ bl42, x.n ≤ 1000)) 3 #[true, true, true, true, true, true, true, false, false, false] (fun ⟨Y122, Y42, Yz122, Yz42, bl122, bl42, c122, c42, n122, n42, q122, q42, γ142⟩ => [(0, .slice (some ⟨b9, o9, none⟩) n cap), (1, .slice pk nk ck), (6, .pointer (some ⟨γ12 0, 0, none⟩)), (7, .pointer (some ⟨γ142 0, 0, none⟩)), (21, .slice (some ⟨b9, o9, none⟩) n cap), (22, .int .i64 (n : Nat)), (23, .int .i64 (j : Nat)), (31, .agg #[.slice q42 n42 c42]), (35, .agg #[.slice q122 n122 c122])]) (fun ⟨Y122, Y42, Yz122, Yz42, bl122, bl42, c122, c42, n122, n42, q122, q42, γ142⟩ => bx (γ142 0) (#[.slice none 0 0]) 38 :: bx (γ12 0) (#[.slice x11.p x11.n x11.cap]) 38 :: (Y122 ++ (Y42 ++ (Yz122 ++ (Yz42 ++ []))))) ?_ (fun hmx24 => ?_)
    ·
     rintro ⟨Y122, Y42, Yz122, Yz42, bl122, bl42, c122, c42, n122, n42, q122, q42, γ142⟩ ⟨hB122, hB42, hG122, hG42, hO122, hO42, hf122, hf42⟩
     refine a1 7 rfl ?_
     refine mo0 1 [] [0, 1, 6, 7, 21, 22, 23, 31, 35] (fun γ162 => [(8, .pointer (some ⟨γ162 0, 0, none⟩))]) (fun γ162 L => bx (γ162 0) (#[.slice none 0 0]) 38 :: L) (fun γ162 => ?_)
     refine od_ ?_
     exact wk (hmx27 (Y122, Y42, Yz122, Yz42, bl122, bl42, c122, c42, n122, n42, q122, q42, γ142, γ162) ⟨hB122, hB42, hG122, hG42, hO122, hO42, hf122, hf42⟩) [0, 1, 6, 7, 8, 21, 22, 23, 31, 35] [[_], [_], [_], _, _, _, _] [0, 1, 2, 3, 4, 5, 6] rfl rfl
    refine any_cutX (V := (Nat → Nat) × (Nat → Nat)) (fun ⟨γ142, γ162⟩ => True) 4 #[true, false, true, true, true, false, true, true, false, false] (fun ⟨γ142, γ162⟩ => [(0, .slice (some ⟨b9, o9, none⟩) n cap), (1, .slice pk nk ck), (6, .pointer (some ⟨γ12 0, 0, none⟩)), (7, .pointer (some ⟨γ142 0, 0, none⟩)), (8, .pointer (some ⟨γ162 0, 0, none⟩)), (21, .slice (some ⟨b9, o9, none⟩) n cap), (22, .int .i64 (n : Nat)), (23, .int .i64 (j : Nat)), (30, .agg #[.slice x11.p x11.n x11.cap]), (34, .agg #[.slice x18.p x18.n x18.cap])]) (fun ⟨γ142, γ162⟩ => [bx (γ162 0) (#[.slice none 0 0]) 38, bx (γ142 0) (#[.slice none 0 0]) 38, bx (γ12 0) (#[.slice x11.p x11.n x11.cap]) 38]) ?_ (fun hmx23 => ?_)
    ·
     rintro ⟨γ142, γ162⟩ _
     refine a1 1 rfl ?_
     refine cP (fun v L' => ∃ q_ n_ c_ Y_ Z_ bl_, v = .agg #[.slice q_ n_ c_] ∧ L' = List.take 3 ([bx (γ162 0) (#[.slice none 0 0]) 38, bx (γ142 0) (#[.slice none 0 0]) 38, bx (γ12 0) (#[.slice x11.p x11.n x11.cap]) 38]) ++ (Y_ ++ (Z_ ++ List.drop 3 ([bx (γ162 0) (#[.slice none 0 0]) 38, bx (γ142 0) (#[.slice none 0 0]) 38, bx (γ12 0) (#[.slice x11.p x11.n x11.cap]) 38]))) ∧ SlO 46 Y_ q_ n_ c_ bl_ ∧ GotG 3 Z_ bl_ ∧ bl_.map GngA.val = shortV (x11.l.map GngA.val)) Try.call16 (fun w hw => (short_t x11.p x11.n x11.cap x11.l w (hsx11.kept hw.below) hnx11 (by omega) (fun y hy => (hrx11.hi y hy).kept hw.below)).mono fun e w' ⟨q_, n_, c_, Y_, bl_, Z_, he, hO, hG, hB, hb, hY⟩ => ⟨_, _, he, ⟨q_, n_, c_, Y_, Z_, bl_, rfl, rfl, hO, hG, hB⟩, hs_re (hw.join hb hY 3)⟩) ?_
     rintro v42 L42 ⟨q42, n42, c42, Y42, Yz42, bl42, rfl, rfl, hO42, hG42, hB42⟩
     have hf42 := short_facts hG42 hB42
     refine od_ ?_
     exact wk (hmx26 (Y42, Yz42, bl42, c42, n42, q42, γ142, γ162) ⟨hB42, hG42, hO42, hf42⟩) [0, 1, 6, 7, 8, 21, 22, 23, 31, 34] [[_], [_], [_], _, _] [0, 1, 2, 3, 4] rfl rfl
    refine any_cutX (V := (List Ob) × (List Ob) × (List GngA) × (Nat) × (Nat) × (Option Addr) × (Nat → Nat) × (Nat → Nat)) (fun ⟨Y42, Yz42, bl42, c42, n42, q42, γ142, γ162⟩ => bl42.map GngA.val = shortV (x11.l.map GngA.val) ∧ GotG 3 Yz42 bl42 ∧ SlO 46 Y42 q42 n42 c42 bl42 ∧ (bl42.length ≤ 9 ∧ ∀ x ∈ bl42, x.n ≤ 1000)) 4 #[true, true, true, true, false, false, true, true, false, false] (fun ⟨Y42, Yz42, bl42, c42, n42, q42, γ142, γ162⟩ => [(0, .slice (some ⟨b9, o9, none⟩) n cap), (1, .slice pk nk ck), (6, .pointer (some ⟨γ12 0, 0, none⟩)), (7, .pointer (some ⟨γ142 0, 0, none⟩)), (8, .pointer (some ⟨γ162 0, 0, none⟩)), (21, .slice (some ⟨b9, o9, none⟩) n cap), (22, .int .i64 (n : Nat)), (23, .int .i64 (j : Nat)), (31, .agg #[.slice q42 n42 c42]), (33, .pointer (some ⟨b9, o9 + 0 * 1, none⟩))]) (fun ⟨Y42, Yz42, bl42, c42, n42, q42, γ142, γ162⟩ => bx (γ162 0) (#[.slice none 0 0]) 38 :: bx (γ142 0) (#[.slice none 0 0]) 38 :: bx (γ12 0) (#[.slice x11.p x11.n x11.cap]) 38 :: (Y42 ++ (Yz42 ++ []))) ?_ (fun hmx22 => ?_)
    ·
     rintro ⟨Y42, Yz42, bl42, c42, n42, q42, γ142, γ162⟩ ⟨hB42, hG42, hO42, hf42⟩
     refine a1 4 rfl ?_
     refine qo 1 [(4, .go (outs b9 (o9 + 0 * 1) [.slice x18.p x18.n x18.cap]))] [0, 1, 6, 7, 8, 21, 22, 23, 31] [(34, .agg #[.slice x18.p x18.n x18.cap])] (cellsP w b9 (o9 + 0 * 1) [.slice x18.p x18.n x18.cap]) (rd_pre (hxl.get hx18) _ rfl) ?_
     refine od_ ?_
     exact wk (hmx26 (Y42, Yz42, bl42, c42, n42, q42, γ142, γ162) ⟨hB42, hG42, hO42, hf42⟩) [0, 1, 6, 7, 8, 21, 22, 23, 31, 34] [[_], [_], [_], _, _] [0, 1, 2, 3, 4] rfl rfl
    refine any_cutX (V := (List Ob) × (List Ob) × (List GngA) × (Nat) × (Nat) × (Option Addr) × (Nat → Nat)) (fun ⟨Y42, Yz42, bl42, c42, n42, q42, γ162⟩ => bl42.map GngA.val = shortV (x11.l.map GngA.val) ∧ GotG 3 Yz42 bl42 ∧ SlO 46 Y42 q42 n42 c42 bl42 ∧ (bl42.length ≤ 9 ∧ ∀ x ∈ bl42, x.n ≤ 1000)) 4 #[true, true, true, true, true, false, false, true, false, false] (fun ⟨Y42, Yz42, bl42, c42, n42, q42, γ162⟩ => [(0, .slice (some ⟨b9, o9, none⟩) n cap), (1, .slice pk nk ck), (6, .pointer (some ⟨γ12 0, 0, none⟩)), (8, .pointer (some ⟨γ162 0, 0, none⟩)), (21, .slice (some ⟨b9, o9, none⟩) n cap), (22, .int .i64 (n : Nat)), (23, .int .i64 (j : Nat)), (31, .agg #[.slice q42 n42 c42]), (34, .agg #[.slice x18.p x18.n x18.cap])]) (fun ⟨Y42, Yz42, bl42, c42, n42, q42, γ162⟩ => bx (γ162 0) (#[.slice none 0 0]) 38 :: bx (γ12 0) (#[.slice x11.p x11.n x11.cap]) 38 :: (Y42 ++ (Yz42 ++ []))) ?_ (fun hmx21 => ?_)
    ·
     rintro ⟨Y42, Yz42, bl42, c42, n42, q42, γ162⟩ ⟨hB42, hG42, hO42, hf42⟩
     refine any_fork [5, 6] (by kernel_rfl) (by simp) (each_cons _ rfl ?_ (each_cons _ rfl ?_ (each_nil)))
     ·
      refine cP (fun v L' => ∃ q_ n_ c_ Y_ Z_ bl_, v = .agg #[.slice q_ n_ c_] ∧ L' = List.take 2 (bx (γ162 0) (#[.slice none 0 0]) 38 :: bx (γ12 0) (#[.slice x11.p x11.n x11.cap]) 38 :: (Y42 ++ (Yz42 ++ []))) ++ (Y_ ++ (Z_ ++ List.drop 2 (bx (γ162 0) (#[.slice none 0 0]) 38 :: bx (γ12 0) (#[.slice x11.p x11.n x11.cap]) 38 :: (Y42 ++ (Yz42 ++ []))))) ∧ SlO 46 Y_ q_ n_ c_ bl_ ∧ GotG 3 Z_ bl_ ∧ bl_.map GngA.val = shortV (x18.l.map GngA.val)) Try.call16 (fun w hw => (short_t x18.p x18.n x18.cap x18.l w (hsx18.kept hw.below) hnx18 (by omega) (fun y hy => (hrx18.hi y hy).kept hw.below)).mono fun e w' ⟨q_, n_, c_, Y_, bl_, Z_, he, hO, hG, hB, hb, hY⟩ => ⟨_, _, he, ⟨q_, n_, c_, Y_, Z_, bl_, rfl, rfl, hO, hG, hB⟩, hs_re (hw.join hb hY 2)⟩) ?_
      rintro v122 L122 ⟨q122, n122, c122, Y122, Yz122, bl122, rfl, rfl, hO122, hG122, hB122⟩
      have hf122 := short_facts hG122 hB122
      refine od_ ?_
      exact wk (hmx25 (Y122, Y42, Yz122, Yz42, bl122, bl42, c122, c42, n122, n42, q122, q42, γ162) ⟨hB122, hB42, hG122, hG42, hO122, hO42, hf122, hf42⟩) [0, 1, 6, 8, 21, 22, 23, 31, 35] [[_], [_], _, _, _, _] [0, 1, 2, 4, 3, 5] rfl rfl
     ·
      refine mo0 1 [] [0, 1, 6, 8, 21, 22, 23, 31, 34] (fun γ142 => [(7, .pointer (some ⟨γ142 0, 0, none⟩))]) (fun γ142 L => bx (γ142 0) (#[.slice none 0 0]) 38 :: L) (fun γ142 => ?_)
      refine od_ ?_
      exact wk (hmx26 (Y42, Yz42, bl42, c42, n42, q42, γ142, γ162) ⟨hB42, hG42, hO42, hf42⟩) [0, 1, 6, 7, 8, 21, 22, 23, 31, 34] [[_], [_], [_], _, _] [1, 0, 2, 3, 4] rfl rfl
    refine any_cutX (V := (List Ob) × (List Ob) × (List GngA) × (Nat) × (Nat) × (Option Addr) × (Nat → Nat)) (fun ⟨Y42, Yz42, bl42, c42, n42, q42, γ142⟩ => bl42.map GngA.val = shortV (x11.l.map GngA.val) ∧ GotG 3 Yz42 bl42 ∧ SlO 46 Y42 q42 n42 c42 bl42 ∧ (bl42.length ≤ 9 ∧ ∀ x ∈ bl42, x.n ≤ 1000)) 4 #[true, true, true, true, true, false, true, false, false, false] (fun ⟨Y42, Yz42, bl42, c42, n42, q42, γ142⟩ => [(0, .slice (some ⟨b9, o9, none⟩) n cap), (1, .slice pk nk ck), (6, .pointer (some ⟨γ12 0, 0, none⟩)), (7, .pointer (some ⟨γ142 0, 0, none⟩)), (21, .slice (some ⟨b9, o9, none⟩) n cap), (22, .int .i64 (n : Nat)), (23, .int .i64 (j : Nat)), (31, .agg #[.slice q42 n42 c42]), (34, .agg #[.slice x18.p x18.n x18.cap])]) (fun ⟨Y42, Yz42, bl42, c42, n42, q42, γ142⟩ => bx (γ142 0) (#[.slice none 0 0]) 38 :: bx (γ12 0) (#[.slice x11.p x11.n x11.cap]) 38 :: (Y42 ++ (Yz42 ++ []))) ?_ (fun hmx20 => ?_)
    ·
     rintro ⟨Y42, Yz42, bl42, c42, n42, q42, γ142⟩ ⟨hB42, hG42, hO42, hf42⟩
     refine any_fork [5, 7] (by kernel_rfl) (by simp) (each_cons _ rfl ?_ (each_cons _ rfl ?_ (each_nil)))
     ·
      refine cP (fun v L' => ∃ q_ n_ c_ Y_ Z_ bl_, v = .agg #[.slice q_ n_ c_] ∧ L' = List.take 2 (bx (γ142 0) (#[.slice none 0 0]) 38 :: bx (γ12 0) (#[.slice x11.p x11.n x11.cap]) 38 :: (Y42 ++ (Yz42 ++ []))) ++ (Y_ ++ (Z_ ++ List.drop 2 (bx (γ142 0) (#[.slice none 0 0]) 38 :: bx (γ12 0) (#[.slice x11.p x11.n x11.cap]) 38 :: (Y42 ++ (Yz42 ++ []))))) ∧ SlO 46 Y_ q_ n_ c_ bl_ ∧ GotG 3 Z_ bl_ ∧ bl_.map GngA.val = shortV (x18.l.map GngA.val)) Try.call16 (fun w hw => (short_t x18.p x18.n x18.cap x18.l w (hsx18.kept hw.below) hnx18 (by omega) (fun y hy => (hrx18.hi y hy).kept hw.below)).mono fun e w' ⟨q_, n_, c_, Y_, bl_, Z_, he, hO, hG, hB, hb, hY⟩ => ⟨_, _, he, ⟨q_, n_, c_, Y_, Z_, bl_, rfl, rfl, hO, hG, hB⟩, hs_re (hw.join hb hY 2)⟩) ?_
      rintro v122 L122 ⟨q122, n122, c122, Y122, Yz122, bl122, rfl, rfl, hO122, hG122, hB122⟩
      have hf122 := short_facts hG122 hB122
      refine od_ ?_
      exact wk (hmx24 (Y122, Y42, Yz122, Yz42, bl122, bl42, c122, c42, n122, n42, q122, q42, γ142) ⟨hB122, hB42, hG122, hG42, hO122, hO42, hf122, hf42⟩) [0, 1, 6, 7, 21, 22, 23, 31, 35] [[_], [_], _, _, _, _] [0, 1, 2, 4, 3, 5] rfl rfl
     ·
      refine mo0 1 [] [0, 1, 6, 7, 21, 22, 23, 31, 34] (fun γ162 => [(8, .pointer (some ⟨γ162 0, 0, none⟩))]) (fun γ162 L => bx (γ162 0) (#[.slice none 0 0]) 38 :: L) (fun γ162 => ?_)
      refine od_ ?_
      exact wk (hmx26 (Y42, Yz42, bl42, c42, n42, q42, γ142, γ162) ⟨hB42, hG42, hO42, hf42⟩) [0, 1, 6, 7, 8, 21, 22, 23, 31, 34] [[_], [_], [_], _, _] [0, 1, 2, 3, 4] rfl rfl
    refine any_cutX (V := (List Ob) × (List Ob) × (List Ob) × (List Ob) × (List GngA) × (List GngA) × (Nat) × (Nat) × (Nat) × (Nat) × (Option Addr) × (Option Addr)) (fun ⟨Y122, Y42, Yz122, Yz42, bl122, bl42, c122, c42, n122, n42, q122, q42⟩ => bl122.map GngA.val = shortV (x18.l.map GngA.val) ∧ bl42.map GngA.val = shortV (x11.l.map GngA.val) ∧ GotG 3 Yz122 bl122 ∧ GotG 3 Yz42 bl42 ∧ SlO 46 Y122 q122 n122 c122 bl122 ∧ SlO 46 Y42 q42 n42 c42 bl42 ∧ (bl122.length ≤ 9 ∧ ∀ x ∈ bl122, x.n ≤ 1000) ∧ (bl42.length ≤ 9 ∧ ∀ x ∈ bl42, x.n ≤ 1000)) 4 #[true, true, true, true, true, true, false, false, false, false] (fun ⟨Y122, Y42, Yz122, Yz42, bl122, bl42, c122, c42, n122, n42, q122, q42⟩ => [(0, .slice (some ⟨b9, o9, none⟩) n cap), (1, .slice pk nk ck), (6, .pointer (some ⟨γ12 0, 0, none⟩)), (21, .slice (some ⟨b9, o9, none⟩) n cap), (22, .int .i64 (n : Nat)), (23, .int .i64 (j : Nat)), (31, .agg #[.slice q42 n42 c42]), (35, .agg #[.slice q122 n122 c122])]) (fun ⟨Y122, Y42, Yz122, Yz42, bl122, bl42, c122, c42, n122, n42, q122, q42⟩ => bx (γ12 0) (#[.slice x11.p x11.n x11.cap]) 38 :: (Y122 ++ (Y42 ++ (Yz122 ++ (Yz42 ++ []))))) ?_ (fun hmx19 => ?_)
    ·
     rintro ⟨Y122, Y42, Yz122, Yz42, bl122, bl42, c122, c42, n122, n42, q122, q42⟩ ⟨hB122, hB42, hG122, hG42, hO122, hO42, hf122, hf42⟩
     refine any_fork [6, 7] (by kernel_rfl) (by simp) (each_cons _ rfl ?_ (each_cons _ rfl ?_ (each_nil)))
     ·
      refine mo0 1 [] [0, 1, 6, 21, 22, 23, 31, 35] (fun γ142 => [(7, .pointer (some ⟨γ142 0, 0, none⟩))]) (fun γ142 L => bx (γ142 0) (#[.slice none 0 0]) 38 :: L) (fun γ142 => ?_)
      refine od_ ?_
      exact wk (hmx24 (Y122, Y42, Yz122, Yz42, bl122, bl42, c122, c42, n122, n42, q122, q42, γ142) ⟨hB122, hB42, hG122, hG42, hO122, hO42, hf122, hf42⟩) [0, 1, 6, 7, 21, 22, 23, 31, 35] [[_], [_], _, _, _, _] [0, 1, 2, 3, 4, 5] rfl rfl
     ·
      refine mo0 1 [] [0, 1, 6, 21, 22, 23, 31, 35] (fun γ162 => [(8, .pointer (some ⟨γ162 0, 0, none⟩))]) (fun γ162 L => bx (γ162 0) (#[.slice none 0 0]) 38 :: L) (fun γ162 => ?_)
      refine od_ ?_
      exact wk (hmx25 (Y122, Y42, Yz122, Yz42, bl122, bl42, c122, c42, n122, n42, q122, q42, γ162) ⟨hB122, hB42, hG122, hG42, hO122, hO42, hf122, hf42⟩) [0, 1, 6, 8, 21, 22, 23, 31, 35] [[_], [_], _, _, _, _] [0, 1, 2, 3, 4, 5] rfl rfl
    refine any_cutX (V := (Nat → Nat) × (Nat → Nat)) (fun ⟨γ142, γ162⟩ => True) 5 #[false, false, true, true, true, false, true, true, false, false] (fun ⟨γ142, γ162⟩ => [(0, .slice (some ⟨b9, o9, none⟩) n cap), (1, .slice pk nk ck), (6, .pointer (some ⟨γ12 0, 0, none⟩)), (7, .pointer (some ⟨γ142 0, 0, none⟩)), (8, .pointer (some ⟨γ162 0, 0, none⟩)), (21, .slice (some ⟨b9, o9, none⟩) n cap), (22, .int .i64 (n : Nat)), (23, .int .i64 (j : Nat)), (34, .agg #[.slice x18.p x18.n x18.cap])]) (fun ⟨γ142, γ162⟩ => [bx (γ162 0) (#[.slice none 0 0]) 38, bx (γ142 0) (#[.slice none 0 0]) 38, bx (γ12 0) (#[.slice x11.p x11.n x11.cap]) 38]) ?_ (fun hmx18 => ?_)
    ·
     rintro ⟨γ142, γ162⟩ _
     refine a1 0 rfl ?_
     refine qo0 1 [(0, .go (owns 2 0 1))] [0, 1, 6, 7, 8, 21, 22, 23, 34] [(30, .agg #[.slice x11.p x11.n x11.cap])] ?_
     refine od_ ?_
     exact wk (hmx23 (γ142, γ162) trivial) [0, 1, 6, 7, 8, 21, 22, 23, 30, 34] [[_], [_], [_]] [0, 1, 2] rfl rfl
    refine any_cutX (V := (Nat → Nat) × (Nat → Nat)) (fun ⟨γ142, γ162⟩ => True) 5 #[true, false, true, true, false, false, true, true, false, false] (fun ⟨γ142, γ162⟩ => [(0, .slice (some ⟨b9, o9, none⟩) n cap), (1, .slice pk nk ck), (6, .pointer (some ⟨γ12 0, 0, none⟩)), (7, .pointer (some ⟨γ142 0, 0, none⟩)), (8, .pointer (some ⟨γ162 0, 0, none⟩)), (21, .slice (some ⟨b9, o9, none⟩) n cap), (22, .int .i64 (n : Nat)), (23, .int .i64 (j : Nat)), (30, .agg #[.slice x11.p x11.n x11.cap]), (33, .pointer (some ⟨b9, o9 + 0 * 1, none⟩))]) (fun ⟨γ142, γ162⟩ => [bx (γ162 0) (#[.slice none 0 0]) 38, bx (γ142 0) (#[.slice none 0 0]) 38, bx (γ12 0) (#[.slice x11.p x11.n x11.cap]) 38]) ?_ (fun hmx17 => ?_)
    ·
     rintro ⟨γ142, γ162⟩ _
     refine any_fork [1, 4] (by kernel_rfl) (by simp) (each_cons _ rfl ?_ (each_cons _ rfl ?_ (each_nil)))
     ·
      refine cP (fun v L' => ∃ q_ n_ c_ Y_ Z_ bl_, v = .agg #[.slice q_ n_ c_] ∧ L' = List.take 3 ([bx (γ162 0) (#[.slice none 0 0]) 38, bx (γ142 0) (#[.slice none 0 0]) 38, bx (γ12 0) (#[.slice x11.p x11.n x11.cap]) 38]) ++ (Y_ ++ (Z_ ++ List.drop 3 ([bx (γ162 0) (#[.slice none 0 0]) 38, bx (γ142 0) (#[.slice none 0 0]) 38, bx (γ12 0) (#[.slice x11.p x11.n x11.cap]) 38]))) ∧ SlO 46 Y_ q_ n_ c_ bl_ ∧ GotG 3 Z_ bl_ ∧ bl_.map GngA.val = shortV (x11.l.map GngA.val)) Try.call16 (fun w hw => (short_t x11.p x11.n x11.cap x11.l w (hsx11.kept hw.below) hnx11 (by omega) (fun y hy => (hrx11.hi y hy).kept hw.below)).mono fun e w' ⟨q_, n_, c_, Y_, bl_, Z_, he, hO, hG, hB, hb, hY⟩ => ⟨_, _, he, ⟨q_, n_, c_, Y_, Z_, bl_, rfl, rfl, hO, hG, hB⟩, hs_re (hw.join hb hY 3)⟩) ?_
      rintro v42 L42 ⟨q42, n42, c42, Y42, Yz42, bl42, rfl, rfl, hO42, hG42, hB42⟩
      have hf42 := short_facts hG42 hB42
      refine od_ ?_
      exact wk (hmx22 (Y42, Yz42, bl42, c42, n42, q42, γ142, γ162) ⟨hB42, hG42, hO42, hf42⟩) [0, 1, 6, 7, 8, 21, 22, 23, 31, 33] [[_], [_], [_], _, _] [0, 1, 2, 3, 4] rfl rfl
     ·
      refine qo 1 [(4, .go (outs b9 (o9 + 0 * 1) [.slice x18.p x18.n x18.cap]))] [0, 1, 6, 7, 8, 21, 22, 23, 30] [(34, .agg #[.slice x18.p x18.n x18.cap])] (cellsP w b9 (o9 + 0 * 1) [.slice x18.p x18.n x18.cap]) (rd_pre (hxl.get hx18) _ rfl) ?_
      refine od_ ?_
      exact wk (hmx23 (γ142, γ162) trivial) [0, 1, 6, 7, 8, 21, 22, 23, 30, 34] [[_], [_], [_]] [0, 1, 2] rfl rfl
    refine any_cutX (V := (Nat → Nat)) (fun γ162 => True) 5 #[true, false, true, true, true, false, false, true, false, false] (fun γ162 => [(0, .slice (some ⟨b9, o9, none⟩) n cap), (1, .slice pk nk ck), (6, .pointer (some ⟨γ12 0, 0, none⟩)), (8, .pointer (some ⟨γ162 0, 0, none⟩)), (21, .slice (some ⟨b9, o9, none⟩) n cap), (22, .int .i64 (n : Nat)), (23, .int .i64 (j : Nat)), (30, .agg #[.slice x11.p x11.n x11.cap]), (34, .agg #[.slice x18.p x18.n x18.cap])]) (fun γ162 => [bx (γ162 0) (#[.slice none 0 0]) 38, bx (γ12 0) (#[.slice x11.p x11.n x11.cap]) 38]) ?_ (fun hmx16 => ?_)
    ·
     rintro γ162 _
     refine any_fork [1, 6] (by kernel_rfl) (by simp) (each_cons _ rfl ?_ (each_cons _ rfl ?_ (each_nil)))
     ·
      refine cP (fun v L' => ∃ q_ n_ c_ Y_ Z_ bl_, v = .agg #[.slice q_ n_ c_] ∧ L' = List.take 2 ([bx (γ162 0) (#[.slice none 0 0]) 38, bx (γ12 0) (#[.slice x11.p x11.n x11.cap]) 38]) ++ (Y_ ++ (Z_ ++ List.drop 2 ([bx (γ162 0) (#[.slice none 0 0]) 38, bx (γ12 0) (#[.slice x11.p x11.n x11.cap]) 38]))) ∧ SlO 46 Y_ q_ n_ c_ bl_ ∧ GotG 3 Z_ bl_ ∧ bl_.map GngA.val = shortV (x11.l.map GngA.val)) Try.call16 (fun w hw => (short_t x11.p x11.n x11.cap x11.l w (hsx11.kept hw.below) hnx11 (by omega) (fun y hy => (hrx11.hi y hy).kept hw.below)).mono fun e w' ⟨q_, n_, c_, Y_, bl_, Z_, he, hO, hG, hB, hb, hY⟩ => ⟨_, _, he, ⟨q_, n_, c_, Y_, Z_, bl_, rfl, rfl, hO, hG, hB⟩, hs_re (hw.join hb hY 2)⟩) ?_
      rintro v42 L42 ⟨q42, n42, c42, Y42, Yz42, bl42, rfl, rfl, hO42, hG42, hB42⟩
      have hf42 := short_facts hG42 hB42
      refine od_ ?_
      exact wk (hmx21 (Y42, Yz42, bl42, c42, n42, q42, γ162) ⟨hB42, hG42, hO42, hf42⟩) [0, 1, 6, 8, 21, 22, 23, 31, 34] [[_], [_], _, _] [0, 1, 2, 3] rfl rfl
     ·
      refine mo0 1 [] [0, 1, 6, 8, 21, 22, 23, 30, 34] (fun γ142 => [(7, .pointer (some ⟨γ142 0, 0, none⟩))]) (fun γ142 L => bx (γ142 0) (#[.slice none 0 0]) 38 :: L) (fun γ142 => ?_)
      refine od_ ?_
      exact wk (hmx23 (γ142, γ162) trivial) [0, 1, 6, 7, 8, 21, 22, 23, 30, 34] [[_], [_], [_]] [1, 0, 2] rfl rfl
    refine any_cutX (V := (Nat → Nat)) (fun γ142 => True) 5 #[true, false, true, true, true, false, true, false, false, false] (fun γ142 => [(0, .slice (some ⟨b9, o9, none⟩) n cap), (1, .slice pk nk ck), (6, .pointer (some ⟨γ12 0, 0, none⟩)), (7, .pointer (some ⟨γ142 0, 0, none⟩)), (21, .slice (some ⟨b9, o9, none⟩) n cap), (22, .int .i64 (n : Nat)), (23, .int .i64 (j : Nat)), (30, .agg #[.slice x11.p x11.n x11.cap]), (34, .agg #[.slice x18.p x18.n x18.cap])]) (fun γ142 => [bx (γ142 0) (#[.slice none 0 0]) 38, bx (γ12 0) (#[.slice x11.p x11.n x11.cap]) 38]) ?_ (fun hmx15 => ?_)
    ·
     rintro γ142 _
     refine any_fork [1, 7] (by kernel_rfl) (by simp) (each_cons _ rfl ?_ (each_cons _ rfl ?_ (each_nil)))
     ·
      refine cP (fun v L' => ∃ q_ n_ c_ Y_ Z_ bl_, v = .agg #[.slice q_ n_ c_] ∧ L' = List.take 2 ([bx (γ142 0) (#[.slice none 0 0]) 38, bx (γ12 0) (#[.slice x11.p x11.n x11.cap]) 38]) ++ (Y_ ++ (Z_ ++ List.drop 2 ([bx (γ142 0) (#[.slice none 0 0]) 38, bx (γ12 0) (#[.slice x11.p x11.n x11.cap]) 38]))) ∧ SlO 46 Y_ q_ n_ c_ bl_ ∧ GotG 3 Z_ bl_ ∧ bl_.map GngA.val = shortV (x11.l.map GngA.val)) Try.call16 (fun w hw => (short_t x11.p x11.n x11.cap x11.l w (hsx11.kept hw.below) hnx11 (by omega) (fun y hy => (hrx11.hi y hy).kept hw.below)).mono fun e w' ⟨q_, n_, c_, Y_, bl_, Z_, he, hO, hG, hB, hb, hY⟩ => ⟨_, _, he, ⟨q_, n_, c_, Y_, Z_, bl_, rfl, rfl, hO, hG, hB⟩, hs_re (hw.join hb hY 2)⟩) ?_
      rintro v42 L42 ⟨q42, n42, c42, Y42, Yz42, bl42, rfl, rfl, hO42, hG42, hB42⟩
      have hf42 := short_facts hG42 hB42
      refine od_ ?_
      exact wk (hmx20 (Y42, Yz42, bl42, c42, n42, q42, γ142) ⟨hB42, hG42, hO42, hf42⟩) [0, 1, 6, 7, 21, 22, 23, 31, 34] [[_], [_], _, _] [0, 1, 2, 3] rfl rfl
     ·
      refine mo0 1 [] [0, 1, 6, 7, 21, 22, 23, 30, 34] (fun γ162 => [(8, .pointer (some ⟨γ162 0, 0, none⟩))]) (fun γ162 L => bx (γ162 0) (#[.slice none 0 0]) 38 :: L) (fun γ162 => ?_)
      refine od_ ?_
      exact wk (hmx23 (γ142, γ162) trivial) [0, 1, 6, 7, 8, 21, 22, 23, 30, 34] [[_], [_], [_]] [0, 1, 2] rfl rfl
    refine any_cutX (V := (List Ob) × (List Ob) × (List GngA) × (Nat) × (Nat) × (Option Addr) × (Nat → Nat)) (fun ⟨Y42, Yz42, bl42, c42, n42, q42, γ162⟩ => bl42.map GngA.val = shortV (x11.l.map GngA.val) ∧ GotG 3 Yz42 bl42 ∧ SlO 46 Y42 q42 n42 c42 bl42 ∧ (bl42.length ≤ 9 ∧ ∀ x ∈ bl42, x.n ≤ 1000)) 5 #[true, true, true, true, false, false, false, true, false, false] (fun ⟨Y42, Yz42, bl42, c42, n42, q42, γ162⟩ => [(0, .slice (some ⟨b9, o9, none⟩) n cap), (1, .slice pk nk ck), (6, .pointer (some ⟨γ12 0, 0, none⟩)), (8, .pointer (some ⟨γ162 0, 0, none⟩)), (21, .slice (some ⟨b9, o9, none⟩) n cap), (22, .int .i64 (n : Nat)), (23, .int .i64 (j : Nat)), (31, .agg #[.slice q42 n42 c42]), (33, .pointer (some ⟨b9, o9 + 0 * 1, none⟩))]) (fun ⟨Y42, Yz42, bl42, c42, n42, q42, γ162⟩ => bx (γ162 0) (#[.slice none 0 0]) 38 :: bx (γ12 0) (#[.slice x11.p x11.n x11.cap]) 38 :: (Y42 ++ (Yz42 ++ []))) ?_ (fun hmx14 => ?_)
    ·
     rintro ⟨Y42, Yz42, bl42, c42, n42, q42, γ162⟩ ⟨hB42, hG42, hO42, hf42⟩
     refine any_fork [4, 6] (by kernel_rfl) (by simp) (each_cons _ rfl ?_ (each_cons _ rfl ?_ (each_nil)))
     ·
      refine qo 1 [(4, .go (outs b9 (o9 + 0 * 1) [.slice x18.p x18.n x18.cap]))] [0, 1, 6, 8, 21, 22, 23, 31] [(34, .agg #[.slice x18.p x18.n x18.cap])] (cellsP w b9 (o9 + 0 * 1) [.slice x18.p x18.n x18.cap]) (rd_pre (hxl.get hx18) _ rfl) ?_
      refine od_ ?_
      exact wk (hmx21 (Y42, Yz42, bl42, c42, n42, q42, γ162) ⟨hB42, hG42, hO42, hf42⟩) [0, 1, 6, 8, 21, 22, 23, 31, 34] [[_], [_], _, _] [0, 1, 2, 3] rfl rfl
     ·
      refine mo0 1 [] [0, 1, 6, 8, 21, 22, 23, 31, 33] (fun γ142 => [(7, .pointer (some ⟨γ142 0, 0, none⟩))]) (fun γ142 L => bx (γ142 0) (#[.slice none 0 0]) 38 :: L) (fun γ142 => ?_)
      refine od_ ?_
      exact wk (hmx22 (Y42, Yz42, bl42, c42, n42, q42, γ142, γ162) ⟨hB42, hG42, hO42, hf42⟩) [0, 1, 6, 7, 8, 21, 22, 23, 31, 33] [[_], [_], [_], _, _] [1, 0, 2, 3, 4] rfl rfl
    refine any_cutX (V := (List Ob) × (List Ob) × (List GngA) × (Nat) × (Nat) × (Option Addr) × (Nat → Nat)) (fun ⟨Y42, Yz42, bl42, c42, n42, q42, γ142⟩ => bl42.map GngA.val = shortV (x11.l.map GngA.val) ∧ GotG 3 Yz42 bl42 ∧ SlO 46 Y42 q42 n42 c42 bl42 ∧ (bl42.length ≤ 9 ∧ ∀ x ∈ bl42, x.n ≤ 1000)) 5 #[true, true, true, true, false, false, true, false, false, false] (fun ⟨Y42, Yz42, bl42, c42, n42, q42, γ142⟩ => [(0, .slice (some ⟨b9, o9, none⟩) n cap), (1, .slice pk nk ck), (6, .pointer (some ⟨γ12 0, 0, none⟩)), (7, .pointer (some ⟨γ142 0, 0, none⟩)), (21, .slice (some ⟨b9, o9, none⟩) n cap), (22, .int .i64 (n : Nat)), (23, .int .i64 (j : Nat)), (31, .agg #[.slice q42 n42 c42]), (33, .pointer (some ⟨b9, o9 + 0 * 1, none⟩))]) (fun ⟨Y42, Yz42, bl42, c42, n42, q42, γ142⟩ => bx (γ142 0) (#[.slice none 0 0]) 38 :: bx (γ12 0) (#[.slice x11.p x11.n x11.cap]) 38 :: (Y42 ++ (Yz42 ++ []))) ?_ (fun hmx13 => ?_)
    ·
     rintro ⟨Y42, Yz42, bl42, c42, n42, q42, γ142⟩ ⟨hB42, hG42, hO42, hf42⟩
     refine any_fork [4, 7] (by kernel_rfl) (by simp) (each_cons _ rfl ?_ (each_cons _ rfl ?_ (each_nil)))
     ·
      refine qo 1 [(4, .go (outs b9 (o9 + 0 * 1) [.slice x18.p x18.n x18.cap]))] [0, 1, 6, 7, 21, 22, 23, 31] [(34, .agg #[.slice x18.p x18.n x18.cap])] (cellsP w b9 (o9 + 0 * 1) [.slice x18.p x18.n x18.cap]) (rd_pre (hxl.get hx18) _ rfl) ?_
      refine od_ ?_
      exact wk (hmx20 (Y42, Yz42, bl42, c42, n42, q42, γ142) ⟨hB42, hG42, hO42, hf42⟩) [0, 1, 6, 7, 21, 22, 23, 31, 34] [[_], [_], _, _] [0, 1, 2, 3] rfl rfl
     ·
      refine mo0 1 [] [0, 1, 6, 7, 21, 22, 23, 31, 33] (fun γ162 => [(8, .pointer (some ⟨γ162 0, 0, none⟩))]) (fun γ162 L => bx (γ162 0) (#[.slice none 0 0]) 38 :: L) (fun γ162 => ?_)
      refine od_ ?_
      exact wk (hmx22 (Y42, Yz42, bl42, c42, n42, q42, γ142, γ162) ⟨hB42, hG42, hO42, hf42⟩) [0, 1, 6, 7, 8, 21, 22, 23, 31, 33] [[_], [_], [_], _, _] [0, 1, 2, 3, 4] rfl rfl
    refine any_cutX (V := (List Ob) × (List Ob) × (List GngA) × (Nat) × (Nat) × (Option Addr)) (fun ⟨Y42, Yz42, bl42, c42, n42, q42⟩ => bl42.map GngA.val = shortV (x11.l.map GngA.val) ∧ GotG 3 Yz42 bl42 ∧ SlO 46 Y42 q42 n42 c42 bl42 ∧ (bl42.length ≤ 9 ∧ ∀ x ∈ bl42, x.n ≤ 1000)) 5 #[true, true, true, true, true, false, false, false, false, false] (fun ⟨Y42, Yz42, bl42, c42, n42, q42⟩ => [(0, .slice (some ⟨b9, o9, none⟩) n cap), (1, .slice pk nk ck), (6, .pointer (some ⟨γ12 0, 0, none⟩)), (21, .slice (some ⟨b9, o9, none⟩) n cap), (22, .int .i64 (n : Nat)), (23, .int .i64 (j : Nat)), (31, .agg #[.slice q42 n42 c42]), (34, .agg #[.slice x18.p x18.n x18.cap])]) (fun ⟨Y42, Yz42, bl42, c42, n42, q42⟩ => bx (γ12 0) (#[.slice x11.p x11.n x11.cap]) 38 :: (Y42 ++ (Yz42 ++ []))) ?_ (fun hmx12 => ?_)
    ·
     rintro ⟨Y42, Yz42, bl42, c42, n42, q42⟩ ⟨hB42, hG42, hO42, hf42⟩
     refine any_fork [5, 6, 7] (by kernel_rfl) (by simp) (each_cons _ rfl ?_ (each_cons _ rfl ?_ (each_cons _ rfl ?_ (each_nil))))
     ·
      refine cP (fun v L' => ∃ q_ n_ c_ Y_ Z_ bl_, v = .agg #[.slice q_ n_ c_] ∧ L' = List.take 1 (bx (γ12 0) (#[.slice x11.p x11.n x11.cap]) 38 :: (Y42 ++ (Yz42 ++ []))) ++ (Y_ ++ (Z_ ++ List.drop 1 (bx (γ12 0) (#[.slice x11.p x11.n x11.cap]) 38 :: (Y42 ++ (Yz42 ++ []))))) ∧ SlO 46 Y_ q_ n_ c_ bl_ ∧ GotG 3 Z_ bl_ ∧ bl_.map GngA.val = shortV (x18.l.map GngA.val)) Try.call16 (fun w hw => (short_t x18.p x18.n x18.cap x18.l w (hsx18.kept hw.below) hnx18 (by omega) (fun y hy => (hrx18.hi y hy).kept hw.below)).mono fun e w' ⟨q_, n_, c_, Y_, bl_, Z_, he, hO, hG, hB, hb, hY⟩ => ⟨_, _, he, ⟨q_, n_, c_, Y_, Z_, bl_, rfl, rfl, hO, hG, hB⟩, hs_re (hw.join hb hY 1)⟩) ?_
      rintro v122 L122 ⟨q122, n122, c122, Y122, Yz122, bl122, rfl, rfl, hO122, hG122, hB122⟩
      have hf122 := short_facts hG122 hB122
      refine od_ ?_
      exact wk (hmx19 (Y122, Y42, Yz122, Yz42, bl122, bl42, c122, c42, n122, n42, q122, q42) ⟨hB122, hB42, hG122, hG42, hO122, hO42, hf122, hf42⟩) [0, 1, 6, 21, 22, 23, 31, 35] [[_], _, _, _, _] [0, 1, 3, 2, 4] rfl rfl
     ·
      refine mo0 1 [] [0, 1, 6, 21, 22, 23, 31, 34] (fun γ142 => [(7, .pointer (some ⟨γ142 0, 0, none⟩))]) (fun γ142 L => bx (γ142 0) (#[.slice none 0 0]) 38 :: L) (fun γ142 => ?_)
      refine od_ ?_
      exact wk (hmx20 (Y42, Yz42, bl42, c42, n42, q42, γ142) ⟨hB42, hG42, hO42, hf42⟩) [0, 1, 6, 7, 21, 22, 23, 31, 34] [[_], [_], _, _] [0, 1, 2, 3] rfl rfl
     ·
      refine mo0 1 [] [0, 1, 6, 21, 22, 23, 31, 34] (fun γ162 => [(8, .pointer (some ⟨γ162 0, 0, none⟩))]) (fun γ162 L => bx (γ162 0) (#[.slice none 0 0]) 38 :: L) (fun γ162 => ?_)
      refine od_ ?_
      exact wk (hmx21 (Y42, Yz42, bl42, c42, n42, q42, γ162) ⟨hB42, hG42, hO42, hf42⟩) [0, 1, 6, 8, 21, 22, 23, 31, 34] [[_], [_], _, _] [0, 1, 2, 3] rfl rfl
    refine any_cutX (V := (Nat → Nat) × (Nat → Nat)) (fun ⟨γ142, γ162⟩ => True) 6 #[false, false, true, true, false, false, true, true, false, false] (fun ⟨γ142, γ162⟩ => [(0, .slice (some ⟨b9, o9, none⟩) n cap), (1, .slice pk nk ck), (6, .pointer (some ⟨γ12 0, 0, none⟩)), (7, .pointer (some ⟨γ142 0, 0, none⟩)), (8, .pointer (some ⟨γ162 0, 0, none⟩)), (21, .slice (some ⟨b9, o9, none⟩) n cap), (22, .int .i64 (n : Nat)), (23, .int .i64 (j : Nat)), (33, .pointer (some ⟨b9, o9 + 0 * 1, none⟩))]) (fun ⟨γ142, γ162⟩ => [bx (γ162 0) (#[.slice none 0 0]) 38, bx (γ142 0) (#[.slice none 0 0]) 38, bx (γ12 0) (#[.slice x11.p x11.n x11.cap]) 38]) ?_ (fun hmx11 => ?_)
    ·
     rintro ⟨γ142, γ162⟩ _
     refine any_fork [0, 4] (by kernel_rfl) (by simp) (each_cons _ rfl ?_ (each_cons _ rfl ?_ (each_nil)))
     ·
      refine qo0 1 [(0, .go (owns 2 0 1))] [0, 1, 6, 7, 8, 21, 22, 23, 33] [(30, .agg #[.slice x11.p x11.n x11.cap])] ?_
      refine od_ ?_
      exact wk (hmx17 (γ142, γ162) trivial) [0, 1, 6, 7, 8, 21, 22, 23, 30, 33] [[_], [_], [_]] [0, 1, 2] rfl rfl
     ·
      refine qo 1 [(4, .go (outs b9 (o9 + 0 * 1) [.slice x18.p x18.n x18.cap]))] [0, 1, 6, 7, 8, 21, 22, 23] [(34, .agg #[.slice x18.p x18.n x18.cap])] (cellsP w b9 (o9 + 0 * 1) [.slice x18.p x18.n x18.cap]) (rd_pre (hxl.get hx18) _ rfl) ?_
      refine od_ ?_
      exact wk (hmx18 (γ142, γ162) trivial) [0, 1, 6, 7, 8, 21, 22, 23, 34] [[_], [_], [_]] [0, 1, 2] rfl rfl
    refine any_cutX (V := (Nat → Nat)) (fun γ162 => True) 6 #[false, false, true, true, true, false, false, true, false, false] (fun γ162 => [(0, .slice (some ⟨b9, o9, none⟩) n cap), (1, .slice pk nk ck), (6, .pointer (some ⟨γ12 0, 0, none⟩)), (8, .pointer (some ⟨γ162 0, 0, none⟩)), (21, .slice (some ⟨b9, o9, none⟩) n cap), (22, .int .i64 (n : Nat)), (23, .int .i64 (j : Nat)), (34, .agg #[.slice x18.p x18.n x18.cap])]) (fun γ162 => [bx (γ162 0) (#[.slice none 0 0]) 38, bx (γ12 0) (#[.slice x11.p x11.n x11.cap]) 38]) ?_ (fun hmx10 => ?_)
    ·
     rintro γ162 _
     refine any_fork [0, 6] (by kernel_rfl) (by simp) (each_cons _ rfl ?_ (each_cons _ rfl ?_ (each_nil)))
     ·
      refine qo0 1 [(0, .go (owns 1 0 1))] [0, 1, 6, 8, 21, 22, 23, 34] [(30, .agg #[.slice x11.p x11.n x11.cap])] ?_
      refine od_ ?_
      exact wk (hmx16 γ162 trivial) [0, 1, 6, 8, 21, 22, 23, 30, 34] [[_], [_]] [0, 1] rfl rfl
     ·
      refine mo0 1 [] [0, 1, 6, 8, 21, 22, 23, 34] (fun γ142 => [(7, .pointer (some ⟨γ142 0, 0, none⟩))]) (fun γ142 L => bx (γ142 0) (#[.slice none 0 0]) 38 :: L) (fun γ142 => ?_)
      refine od_ ?_
      exact wk (hmx18 (γ142, γ162) trivial) [0, 1, 6, 7, 8, 21, 22, 23, 34] [[_], [_], [_]] [1, 0, 2] rfl rfl
    refine any_cutX (V := (Nat → Nat)) (fun γ142 => True) 6 #[false, false, true, true, true, false, true, false, false, false] (fun γ142 => [(0, .slice (some ⟨b9, o9, none⟩) n cap), (1, .slice pk nk ck), (6, .pointer (some ⟨γ12 0, 0, none⟩)), (7, .pointer (some ⟨γ142 0, 0, none⟩)), (21, .slice (some ⟨b9, o9, none⟩) n cap), (22, .int .i64 (n : Nat)), (23, .int .i64 (j : Nat)), (34, .agg #[.slice x18.p x18.n x18.cap])]) (fun γ142 => [bx (γ142 0) (#[.slice none 0 0]) 38, bx (γ12 0) (#[.slice x11.p x11.n x11.cap]) 38]) ?_ (fun hmx9 => ?_)
    ·
     rintro γ142 _
     refine any_fork [0, 7] (by kernel_rfl) (by simp) (each_cons _ rfl ?_ (each_cons _ rfl ?_ (each_nil)))
     ·
      refine qo0 1 [(0, .go (owns 1 0 1))] [0, 1, 6, 7, 21, 22, 23, 34] [(30, .agg #[.slice x11.p x11.n x11.cap])] ?_
      refine od_ ?_
      exact wk (hmx15 γ142 trivial) [0, 1, 6, 7, 21, 22, 23, 30, 34] [[_], [_]] [0, 1] rfl rfl
     ·
      refine mo0 1 [] [0, 1, 6, 7, 21, 22, 23, 34] (fun γ162 => [(8, .pointer (some ⟨γ162 0, 0, none⟩))]) (fun γ162 L => bx (γ162 0) (#[.slice none 0 0]) 38 :: L) (fun γ162 => ?_)
      refine od_ ?_
      exact wk (hmx18 (γ142, γ162) trivial) [0, 1, 6, 7, 8, 21, 22, 23, 34] [[_], [_], [_]] [0, 1, 2] rfl rfl
    refine any_cutX (V := (Nat → Nat)) (fun γ162 => True) 6 #[true, false, true, true, false, false, false, true, false, false] (fun γ162 => [(0, .slice (some ⟨b9, o9, none⟩) n cap), (1, .slice pk nk ck), (6, .pointer (some ⟨γ12 0, 0, none⟩)), (8, .pointer (some ⟨γ162 0, 0, none⟩)), (21, .slice (some ⟨b9, o9, none⟩) n cap), (22, .int .i64 (n : Nat)), (23, .int .i64 (j : Nat)), (30, .agg #[.slice x11.p x11.n x11.cap]), (33, .pointer (some ⟨b9, o9 + 0 * 1, none⟩))]) (fun γ162 => [bx (γ162 0) (#[.slice none 0 0]) 38, bx (γ12 0) (#[.slice x11.p x11.n x11.cap]) 38]) ?_ (fun hmx8 => ?_)
    ·
     rintro γ162 _
     refine any_fork [1, 4, 6] (by kernel_rfl) (by simp) (each_cons _ rfl ?_ (each_cons _ rfl ?_ (each_cons _ rfl ?_ (each_nil))))
     ·
      refine cP (fun v L' => ∃ q_ n_ c_ Y_ Z_ bl_, v = .agg #[.slice q_ n_ c_] ∧ L' = List.take 2 ([bx (γ162 0) (#[.slice none 0 0]) 38, bx (γ12 0) (#[.slice x11.p x11.n x11.cap]) 38]) ++ (Y_ ++ (Z_ ++ List.drop 2 ([bx (γ162 0) (#[.slice none 0 0]) 38, bx (γ12 0) (#[.slice x11.p x11.n x11.cap]) 38]))) ∧ SlO 46 Y_ q_ n_ c_ bl_ ∧ GotG 3 Z_ bl_ ∧ bl_.map GngA.val = shortV (x11.l.map GngA.val)) Try.call16 (fun w hw => (short_t x11.p x11.n x11.cap x11.l w (hsx11.kept hw.below) hnx11 (by omega) (fun y hy => (hrx11.hi y hy).kept hw.below)).mono fun e w' ⟨q_, n_, c_, Y_, bl_, Z_, he, hO, hG, hB, hb, hY⟩ => ⟨_, _, he, ⟨q_, n_, c_, Y_, Z_, bl_, rfl, rfl, hO, hG, hB⟩, hs_re (hw.join hb hY 2)⟩) ?_
      rintro v42 L42 ⟨q42, n42, c42, Y42, Yz42, bl42, rfl, rfl, hO42, hG42, hB42⟩
      have hf42 := short_facts hG42 hB42
      refine od_ ?_
      exact wk (hmx14 (Y42, Yz42, bl42, c42, n42, q42, γ162) ⟨hB42, hG42, hO42, hf42⟩) [0, 1, 6, 8, 21, 22, 23, 31, 33] [[_], [_], _, _] [0, 1, 2, 3] rfl rfl
     ·
      refine qo 1 [(4, .go (outs b9 (o9 + 0 * 1) [.slice x18.p x18.n x18.cap]))] [0, 1, 6, 8, 21, 22, 23, 30] [(34, .agg #[.slice x18.p x18.n x18.cap])] (cellsP w b9 (o9 + 0 * 1) [.slice x18.p x18.n x18.cap]) (rd_pre (hxl.get hx18) _ rfl) ?_
      refine od_ ?_
      exact wk (hmx16 γ162 trivial) [0, 1, 6, 8, 21, 22, 23, 30, 34] [[_], [_]] [0, 1] rfl rfl
     ·
      refine mo0 1 [] [0, 1, 6, 8, 21, 22, 23, 30, 33] (fun γ142 => [(7, .pointer (some ⟨γ142 0, 0, none⟩))]) (fun γ142 L => bx (γ142 0) (#[.slice none 0 0]) 38 :: L) (fun γ142 => ?_)
      refine od_ ?_
      exact wk (hmx17 (γ142, γ162) trivial) [0, 1, 6, 7, 8, 21, 22, 23, 30, 33] [[_], [_], [_]] [1, 0, 2] rfl rfl
    refine any_cutX (V := (Nat → Nat)) (fun γ142 => True) 6 #[true, false, true, true, false, false, true, false, false, false] (fun γ142 => [(0, .slice (some ⟨b9, o9, none⟩) n cap), (1, .slice pk nk ck), (6, .pointer (some ⟨γ12 0, 0, none⟩)), (7, .pointer (some ⟨γ142 0, 0, none⟩)), (21, .slice (some ⟨b9, o9, none⟩) n cap), (22, .int .i64 (n : Nat)), (23, .int .i64 (j : Nat)), (30, .agg #[.slice x11.p x11.n x11.cap]), (33, .pointer (some ⟨b9, o9 + 0 * 1, none⟩))]) (fun γ142 => [bx (γ142 0) (#[.slice none 0 0]) 38, bx (γ12 0) (#[.slice x11.p x11.n x11.cap]) 38]) ?_ (fun hmx7 => ?_)
    ·
     rintro γ142 _
     refine any_fork [1, 4, 7] (by kernel_rfl) (by simp) (each_cons _ rfl ?_ (each_cons _ rfl ?_ (each_cons _ rfl ?_ (each_nil))))
     ·
      refine cP (fun v L' => ∃ q_ n_ c_ Y_ Z_ bl_, v = .agg #[.slice q_ n_ c_] ∧ L' = List.take 2 ([bx (γ142 0) (#[.slice none 0 0]) 38, bx (γ12 0) (#[.slice x11.p x11.n x11.cap]) 38]) ++ (Y_ ++ (Z_ ++ List.drop 2 ([bx (γ142 0) (#[.slice none 0 0]) 38, bx (γ12 0) (#[.slice x11.p x11.n x11.cap]) 38]))) ∧ SlO 46 Y_ q_ n_ c_ bl_ ∧ GotG 3 Z_ bl_ ∧ bl_.map GngA.val = shortV (x11.l.map GngA.val)) Try.call16 (fun w hw => (short_t x11.p x11.n x11.cap x11.l w (hsx11.kept hw.below) hnx11 (by omega) (fun y hy => (hrx11.hi y hy).kept hw.below)).mono fun e w' ⟨q_, n_, c_, Y_, bl_, Z_, he, hO, hG, hB, hb, hY⟩ => ⟨_, _, he, ⟨q_, n_, c_, Y_, Z_, bl_, rfl, rfl, hO, hG, hB⟩, hs_re (hw.join hb hY 2)⟩) ?_
      rintro v42 L42 ⟨q42, n42, c42, Y42, Yz42, bl42, rfl, rfl, hO42, hG42, hB42⟩
      have hf42 := short_facts hG42 hB42
      refine od_ ?_
      exact wk (hmx13 (Y42, Yz42, bl42, c42, n42, q42, γ142) ⟨hB42, hG42, hO42, hf42⟩) [0, 1, 6, 7, 21, 22, 23, 31, 33] [[_], [_], _, _] [0, 1, 2, 3] rfl rfl
     ·
      refine qo 1 [(4, .go (outs b9 (o9 + 0 * 1) [.slice x18.p x18.n x18.cap]))] [0, 1, 6, 7, 21, 22, 23, 30] [(34, .agg #[.slice x18.p x18.n x18.cap])] (cellsP w b9 (o9 + 0 * 1) [.slice x18.p x18.n x18.cap]) (rd_pre (hxl.get hx18) _ rfl) ?_
      refine od_ ?_
      exact wk (hmx15 γ142 trivial) [0, 1, 6, 7, 21, 22, 23, 30, 34] [[_], [_]] [0, 1] rfl rfl
     ·
      refine mo0 1 [] [0, 1, 6, 7, 21, 22, 23, 30, 33] (fun γ162 => [(8, .pointer (some ⟨γ162 0, 0, none⟩))]) (fun γ162 L => bx (γ162 0) (#[.slice none 0 0]) 38 :: L) (fun γ162 => ?_)
      refine od_ ?_
      exact wk (hmx17 (γ142, γ162) trivial) [0, 1, 6, 7, 8, 21, 22, 23, 30, 33] [[_], [_], [_]] [0, 1, 2] rfl rfl
    refine any_cutX (V := Unit) (fun _ => True) 6 #[true, false, true, true, true, false, false, false, false, false] (fun _ => [(0, .slice (some ⟨b9, o9, none⟩) n cap), (1, .slice pk nk ck), (6, .pointer (some ⟨γ12 0, 0, none⟩)), (21, .slice (some ⟨b9, o9, none⟩) n cap), (22, .int .i64 (n : Nat)), (23, .int .i64 (j : Nat)), (30, .agg #[.slice x11.p x11.n x11.cap]), (34, .agg #[.slice x18.p x18.n x18.cap])]) (fun _ => [bx (γ12 0) (#[.slice x11.p x11.n x11.cap]) 38]) ?_ (fun hmx6 => ?_)
    ·
     rintro _ _
     refine any_fork [1, 6, 7] (by kernel_rfl) (by simp) (each_cons _ rfl ?_ (each_cons _ rfl ?_ (each_cons _ rfl ?_ (each_nil))))
     ·
      refine cP (fun v L' => ∃ q_ n_ c_ Y_ Z_ bl_, v = .agg #[.slice q_ n_ c_] ∧ L' = List.take 1 ([bx (γ12 0) (#[.slice x11.p x11.n x11.cap]) 38]) ++ (Y_ ++ (Z_ ++ List.drop 1 ([bx (γ12 0) (#[.slice x11.p x11.n x11.cap]) 38]))) ∧ SlO 46 Y_ q_ n_ c_ bl_ ∧ GotG 3 Z_ bl_ ∧ bl_.map GngA.val = shortV (x11.l.map GngA.val)) Try.call16 (fun w hw => (short_t x11.p x11.n x11.cap x11.l w (hsx11.kept hw.below) hnx11 (by omega) (fun y hy => (hrx11.hi y hy).kept hw.below)).mono fun e w' ⟨q_, n_, c_, Y_, bl_, Z_, he, hO, hG, hB, hb, hY⟩ => ⟨_, _, he, ⟨q_, n_, c_, Y_, Z_, bl_, rfl, rfl, hO, hG, hB⟩, hs_re (hw.join hb hY 1)⟩) ?_
      rintro v42 L42 ⟨q42, n42, c42, Y42, Yz42, bl42, rfl, rfl, hO42, hG42, hB42⟩
      have hf42 := short_facts hG42 hB42
      refine od_ ?_
      exact wk (hmx12 (Y42, Yz42, bl42, c42, n42, q42) ⟨hB42, hG42, hO42, hf42⟩) [0, 1, 6, 21, 22, 23, 31, 34] [[_], _, _] [0, 1, 2] rfl rfl
     ·
      refine mo0 1 [] [0, 1, 6, 21, 22, 23, 30, 34] (fun γ142 => [(7, .pointer (some ⟨γ142 0, 0, none⟩))]) (fun γ142 L => bx (γ142 0) (#[.slice none 0 0]) 38 :: L) (fun γ142 => ?_)
      refine od_ ?_
      exact wk (hmx15 γ142 trivial) [0, 1, 6, 7, 21, 22, 23, 30, 34] [[_], [_]] [0, 1] rfl rfl
     ·
      refine mo0 1 [] [0, 1, 6, 21, 22, 23, 30, 34] (fun γ162 => [(8, .pointer (some ⟨γ162 0, 0, none⟩))]) (fun γ162 L => bx (γ162 0) (#[.slice none 0 0]) 38 :: L) (fun γ162 => ?_)
      refine od_ ?_
      exact wk (hmx16 γ162 trivial) [0, 1, 6, 8, 21, 22, 23, 30, 34] [[_], [_]] [0, 1] rfl rfl
    refine any_cutX (V := (List Ob) × (List Ob) × (List GngA) × (Nat) × (Nat) × (Option Addr)) (fun ⟨Y42, Yz42, bl42, c42, n42, q42⟩ => bl42.map GngA.val = shortV (x11.l.map GngA.val) ∧ GotG 3 Yz42 bl42 ∧ SlO 46 Y42 q42 n42 c42 bl42 ∧ (bl42.length ≤ 9 ∧ ∀ x ∈ bl42, x.n ≤ 1000)) 6 #[true, true, true, true, false, false, false, false, false, false] (fun ⟨Y42, Yz42, bl42, c42, n42, q42⟩ => [(0, .slice (some ⟨b9, o9, none⟩) n cap), (1, .slice pk nk ck), (6, .pointer (some ⟨γ12 0, 0, none⟩)), (21, .slice (some ⟨b9, o9, none⟩) n cap), (22, .int .i64 (n : Nat)), (23, .int .i64 (j : Nat)), (31, .agg #[.slice q42 n42 c42]), (33, .pointer (some ⟨b9, o9 + 0 * 1, none⟩))]) (fun ⟨Y42, Yz42, bl42, c42, n42, q42⟩ => bx (γ12 0) (#[.slice x11.p x11.n x11.cap]) 38 :: (Y42 ++ (Yz42 ++ []))) ?_ (fun hmx5 => ?_)
    ·
     rintro ⟨Y42, Yz42, bl42, c42, n42, q42⟩ ⟨hB42, hG42, hO42, hf42⟩
     refine any_fork [4, 6, 7] (by kernel_rfl) (by simp) (each_cons _ rfl ?_ (each_cons _ rfl ?_ (each_cons _ rfl ?_ (each_nil))))
     ·
      refine qo 1 [(4, .go (outs b9 (o9 + 0 * 1) [.slice x18.p x18.n x18.cap]))] [0, 1, 6, 21, 22, 23, 31] [(34, .agg #[.slice x18.p x18.n x18.cap])] (cellsP w b9 (o9 + 0 * 1) [.slice x18.p x18.n x18.cap]) (rd_pre (hxl.get hx18) _ rfl) ?_
      refine od_ ?_
      exact wk (hmx12 (Y42, Yz42, bl42, c42, n42, q42) ⟨hB42, hG42, hO42, hf42⟩) [0, 1, 6, 21, 22, 23, 31, 34] [[_], _, _] [0, 1, 2] rfl rfl
     ·
      refine mo0 1 [] [0, 1, 6, 21, 22, 23, 31, 33] (fun γ142 => [(7, .pointer (some ⟨γ142 0, 0, none⟩))]) (fun γ142 L => bx (γ142 0) (#[.slice none 0 0]) 38 :: L) (fun γ142 => ?_)
      refine od_ ?_
      exact wk (hmx13 (Y42, Yz42, bl42, c42, n42, q42, γ142) ⟨hB42, hG42, hO42, hf42⟩) [0, 1, 6, 7, 21, 22, 23, 31, 33] [[_], [_], _, _] [0, 1, 2, 3] rfl rfl
     ·
      refine mo0 1 [] [0, 1, 6, 21, 22, 23, 31, 33] (fun γ162 => [(8, .pointer (some ⟨γ162 0, 0, none⟩))]) (fun γ162 L => bx (γ162 0) (#[.slice none 0 0]) 38 :: L) (fun γ162 => ?_)
      refine od_ ?_
      exact wk (hmx14 (Y42, Yz42, bl42, c42, n42, q42, γ162) ⟨hB42, hG42, hO42, hf42⟩) [0, 1, 6, 8, 21, 22, 23, 31, 33] [[_], [_], _, _] [0, 1, 2, 3] rfl rfl
    refine any_cutX (V := (Nat → Nat)) (fun γ162 => True) 7 #[false, false, true, true, false, false, false, true, false, false] (fun γ162 => [(0, .slice (some ⟨b9, o9, none⟩) n cap), (1, .slice pk nk ck), (6, .pointer (some ⟨γ12 0, 0, none⟩)), (8, .pointer (some ⟨γ162 0, 0, none⟩)), (21, .slice (some ⟨b9, o9, none⟩) n cap), (22, .int .i64 (n : Nat)), (23, .int .i64 (j : Nat)), (33, .pointer (some ⟨b9, o9 + 0 * 1, none⟩))]) (fun γ162 => [bx (γ162 0) (#[.slice none 0 0]) 38, bx (γ12 0) (#[.slice x11.p x11.n x11.cap]) 38]) ?_ (fun hmx4 => ?_)
    ·
     rintro γ162 _
     refine any_fork [0, 4, 6] (by kernel_rfl) (by simp) (each_cons _ rfl ?_ (each_cons _ rfl ?_ (each_cons _ rfl ?_ (each_nil))))
     ·
      refine qo0 1 [(0, .go (owns 1 0 1))] [0, 1, 6, 8, 21, 22, 23, 33] [(30, .agg #[.slice x11.p x11.n x11.cap])] ?_
      refine od_ ?_
      exact wk (hmx8 γ162 trivial) [0, 1, 6, 8, 21, 22, 23, 30, 33] [[_], [_]] [0, 1] rfl rfl
     ·
      refine qo 1 [(4, .go (outs b9 (o9 + 0 * 1) [.slice x18.p x18.n x18.cap]))] [0, 1, 6, 8, 21, 22, 23] [(34, .agg #[.slice x18.p x18.n x18.cap])] (cellsP w b9 (o9 + 0 * 1) [.slice x18.p x18.n x18.cap]) (rd_pre (hxl.get hx18) _ rfl) ?_
      refine od_ ?_
      exact wk (hmx10 γ162 trivial) [0, 1, 6, 8, 21, 22, 23, 34] [[_], [_]] [0, 1] rfl rfl
     ·
      refine mo0 1 [] [0, 1, 6, 8, 21, 22, 23, 33] (fun γ142 => [(7, .pointer (some ⟨γ142 0, 0, none⟩))]) (fun γ142 L => bx (γ142 0) (#[.slice none 0 0]) 38 :: L) (fun γ142 => ?_)
      refine od_ ?_
      exact wk (hmx11 (γ142, γ162) trivial) [0, 1, 6, 7, 8, 21, 22, 23, 33] [[_], [_], [_]] [1, 0, 2] rfl rfl
    refine any_cutX (V := (Nat → Nat)) (fun γ142 => True) 7 #[false, false, true, true, false, false, true, false, false, false] (fun γ142 => [(0, .slice (some ⟨b9, o9, none⟩) n cap), (1, .slice pk nk ck), (6, .pointer (some ⟨γ12 0, 0, none⟩)), (7, .pointer (some ⟨γ142 0, 0, none⟩)), (21, .slice (some ⟨b9, o9, none⟩) n cap), (22, .int .i64 (n : Nat)), (23, .int .i64 (j : Nat)), (33, .pointer (some ⟨b9, o9 + 0 * 1, none⟩))]) (fun γ142 => [bx (γ142 0) (#[.slice none 0 0]) 38, bx (γ12 0) (#[.slice x11.p x11.n x11.cap]) 38]) ?_ (fun hmx3 => ?_)
    ·
     rintro γ142 _
     refine any_fork [0, 4, 7] (by kernel_rfl) (by simp) (each_cons _ rfl ?_ (each_cons _ rfl ?_ (each_cons _ rfl ?_ (each_nil))))
     ·
      refine qo0 1 [(0, .go (owns 1 0 1))] [0, 1, 6, 7, 21, 22, 23, 33] [(30, .agg #[.slice x11.p x11.n x11.cap])] ?_
      refine od_ ?_
      exact wk (hmx7 γ142 trivial) [0, 1, 6, 7, 21, 22, 23, 30, 33] [[_], [_]] [0, 1] rfl rfl
     ·
      refine qo 1 [(4, .go (outs b9 (o9 + 0 * 1) [.slice x18.p x18.n x18.cap]))] [0, 1, 6, 7, 21, 22, 23] [(34, .agg #[.slice x18.p x18.n x18.cap])] (cellsP w b9 (o9 + 0 * 1) [.slice x18.p x18.n x18.cap]) (rd_pre (hxl.get hx18) _ rfl) ?_
      refine od_ ?_
      exact wk (hmx9 γ142 trivial) [0, 1, 6, 7, 21, 22, 23, 34] [[_], [_]] [0, 1] rfl rfl
     ·
      refine mo0 1 [] [0, 1, 6, 7, 21, 22, 23, 33] (fun γ162 => [(8, .pointer (some ⟨γ162 0, 0, none⟩))]) (fun γ162 L => bx (γ162 0) (#[.slice none 0 0]) 38 :: L) (fun γ162 => ?_)
      refine od_ ?_
      exact wk (hmx11 (γ142, γ162) trivial) [0, 1, 6, 7, 8, 21, 22, 23, 33] [[_], [_], [_]] [0, 1, 2] rfl rfl
    refine any_cutX (V := Unit) (fun _ => True) 7 #[false, false, true, true, true, false, false, false, false, false] (fun _ => [(0, .slice (some ⟨b9, o9, none⟩) n cap), (1, .slice pk nk ck), (6, .pointer (some ⟨γ12 0, 0, none⟩)), (21, .slice (some ⟨b9, o9, none⟩) n cap), (22, .int .i64 (n : Nat)), (23, .int .i64 (j : Nat)), (34, .agg #[.slice x18.p x18.n x18.cap])]) (fun _ => [bx (γ12 0) (#[.slice x11.p x11.n x11.cap]) 38]) ?_ (fun hmx2 => ?_)
    ·
     rintro _ _
     refine any_fork [0, 6, 7] (by kernel_rfl) (by simp) (each_cons _ rfl ?_ (each_cons _ rfl ?_ (each_cons _ rfl ?_ (each_nil))))
     ·
      refine qo0 1 [(0, .go (owns 0 0 1))] [0, 1, 6, 21, 22, 23, 34] [(30, .agg #[.slice x11.p x11.n x11.cap])] ?_
      refine od_ ?_
      exact wk (hmx6 () trivial) [0, 1, 6, 21, 22, 23, 30, 34] [[_]] [0] rfl rfl
     ·
      refine mo0 1 [] [0, 1, 6, 21, 22, 23, 34] (fun γ142 => [(7, .pointer (some ⟨γ142 0, 0, none⟩))]) (fun γ142 L => bx (γ142 0) (#[.slice none 0 0]) 38 :: L) (fun γ142 => ?_)
      refine od_ ?_
      exact wk (hmx9 γ142 trivial) [0, 1, 6, 7, 21, 22, 23, 34] [[_], [_]] [0, 1] rfl rfl
     ·
      refine mo0 1 [] [0, 1, 6, 21, 22, 23, 34] (fun γ162 => [(8, .pointer (some ⟨γ162 0, 0, none⟩))]) (fun γ162 L => bx (γ162 0) (#[.slice none 0 0]) 38 :: L) (fun γ162 => ?_)
      refine od_ ?_
      exact wk (hmx10 γ162 trivial) [0, 1, 6, 8, 21, 22, 23, 34] [[_], [_]] [0, 1] rfl rfl
    refine any_cutX (V := Unit) (fun _ => True) 7 #[true, false, true, true, false, false, false, false, false, false] (fun _ => [(0, .slice (some ⟨b9, o9, none⟩) n cap), (1, .slice pk nk ck), (6, .pointer (some ⟨γ12 0, 0, none⟩)), (21, .slice (some ⟨b9, o9, none⟩) n cap), (22, .int .i64 (n : Nat)), (23, .int .i64 (j : Nat)), (30, .agg #[.slice x11.p x11.n x11.cap]), (33, .pointer (some ⟨b9, o9 + 0 * 1, none⟩))]) (fun _ => [bx (γ12 0) (#[.slice x11.p x11.n x11.cap]) 38]) ?_ (fun hmx1 => ?_)
    ·
     rintro _ _
     refine any_fork [1, 4, 6, 7] (by kernel_rfl) (by simp) (each_cons _ rfl ?_ (each_cons _ rfl ?_ (each_cons _ rfl ?_ (each_cons _ rfl ?_ (each_nil)))))
     ·
      refine cP (fun v L' => ∃ q_ n_ c_ Y_ Z_ bl_, v = .agg #[.slice q_ n_ c_] ∧ L' = List.take 1 ([bx (γ12 0) (#[.slice x11.p x11.n x11.cap]) 38]) ++ (Y_ ++ (Z_ ++ List.drop 1 ([bx (γ12 0) (#[.slice x11.p x11.n x11.cap]) 38]))) ∧ SlO 46 Y_ q_ n_ c_ bl_ ∧ GotG 3 Z_ bl_ ∧ bl_.map GngA.val = shortV (x11.l.map GngA.val)) Try.call16 (fun w hw => (short_t x11.p x11.n x11.cap x11.l w (hsx11.kept hw.below) hnx11 (by omega) (fun y hy => (hrx11.hi y hy).kept hw.below)).mono fun e w' ⟨q_, n_, c_, Y_, bl_, Z_, he, hO, hG, hB, hb, hY⟩ => ⟨_, _, he, ⟨q_, n_, c_, Y_, Z_, bl_, rfl, rfl, hO, hG, hB⟩, hs_re (hw.join hb hY 1)⟩) ?_
      rintro v42 L42 ⟨q42, n42, c42, Y42, Yz42, bl42, rfl, rfl, hO42, hG42, hB42⟩
      have hf42 := short_facts hG42 hB42
      refine od_ ?_
      exact wk (hmx5 (Y42, Yz42, bl42, c42, n42, q42) ⟨hB42, hG42, hO42, hf42⟩) [0, 1, 6, 21, 22, 23, 31, 33] [[_], _, _] [0, 1, 2] rfl rfl
     ·
      refine qo 1 [(4, .go (outs b9 (o9 + 0 * 1) [.slice x18.p x18.n x18.cap]))] [0, 1, 6, 21, 22, 23, 30] [(34, .agg #[.slice x18.p x18.n x18.cap])] (cellsP w b9 (o9 + 0 * 1) [.slice x18.p x18.n x18.cap]) (rd_pre (hxl.get hx18) _ rfl) ?_
      refine od_ ?_
      exact wk (hmx6 () trivial) [0, 1, 6, 21, 22, 23, 30, 34] [[_]] [0] rfl rfl
     ·
      refine mo0 1 [] [0, 1, 6, 21, 22, 23, 30, 33] (fun γ142 => [(7, .pointer (some ⟨γ142 0, 0, none⟩))]) (fun γ142 L => bx (γ142 0) (#[.slice none 0 0]) 38 :: L) (fun γ142 => ?_)
      refine od_ ?_
      exact wk (hmx7 γ142 trivial) [0, 1, 6, 7, 21, 22, 23, 30, 33] [[_], [_]] [0, 1] rfl rfl
     ·
      refine mo0 1 [] [0, 1, 6, 21, 22, 23, 30, 33] (fun γ162 => [(8, .pointer (some ⟨γ162 0, 0, none⟩))]) (fun γ162 L => bx (γ162 0) (#[.slice none 0 0]) 38 :: L) (fun γ162 => ?_)
      refine od_ ?_
      exact wk (hmx8 γ162 trivial) [0, 1, 6, 8, 21, 22, 23, 30, 33] [[_], [_]] [0, 1] rfl rfl
    refine any_fork [0, 4, 6, 7] (by kernel_rfl) (by simp) (each_cons _ rfl ?_ (each_cons _ rfl ?_ (each_cons _ rfl ?_ (each_cons _ rfl ?_ (each_nil)))))
    ·
     refine qo0 1 [(0, .go (owns 0 0 1))] [0, 1, 6, 21, 22, 23, 33] [(30, .agg #[.slice x11.p x11.n x11.cap])] ?_
     refine od_ ?_
     exact wk (hmx1 () trivial) [0, 1, 6, 21, 22, 23, 30, 33] [[_]] [0] rfl rfl
    ·
     refine qo 1 [(4, .go (outs b9 (o9 + 0 * 1) [.slice x18.p x18.n x18.cap]))] [0, 1, 6, 21, 22, 23] [(34, .agg #[.slice x18.p x18.n x18.cap])] (cellsP w b9 (o9 + 0 * 1) [.slice x18.p x18.n x18.cap]) (rd_pre (hxl.get hx18) _ rfl) ?_
     refine od_ ?_
     exact wk (hmx2 () trivial) [0, 1, 6, 21, 22, 23, 34] [[_]] [0] rfl rfl
    ·
     refine mo0 1 [] [0, 1, 6, 21, 22, 23, 33] (fun γ142 => [(7, .pointer (some ⟨γ142 0, 0, none⟩))]) (fun γ142 L => bx (γ142 0) (#[.slice none 0 0]) 38 :: L) (fun γ142 => ?_)
     refine od_ ?_
     exact wk (hmx3 γ142 trivial) [0, 1, 6, 7, 21, 22, 23, 33] [[_], [_]] [0, 1] rfl rfl
    ·
     refine mo0 1 [] [0, 1, 6, 21, 22, 23, 33] (fun γ162 => [(8, .pointer (some ⟨γ162 0, 0, none⟩))]) (fun γ162 L => bx (γ162 0) (#[.slice none 0 0]) 38 :: L) (fun γ162 => ?_)
     refine od_ ?_
     exact wk (hmx4 γ162 trivial) [0, 1, 6, 8, 21, 22, 23, 33] [[_], [_]] [0, 1] rfl rfl
   rintro ⟨Y122, Y42, Yz122, Yz42, bl122, bl42, c122, c42, n122, n42, q122, q42, γ142, γ162⟩ ⟨hB122, hB42, hG122, hG42, hO122, hO42, hf122, hf42⟩
   refine any_nil (by kernel_rfl) ?_
   refine ds_ (sq_ (ao_ (qo0 1 [(0, .go (owns 1 0 1))] [0, 1, 6, 7, 8, 21, 22, 23] [(36, .agg #[.slice q42 n42 c42])] ?_)))
   rcases q262 : gangB (bl42.map GngA.val) with _ | _
   ·
    refine cD (.bool false) Try.call17 (fun w hw => by have := rright_t q42 n42 c42 bl42 w (SlO.sub hO42 hw (List.Sublist.cons _ (List.Sublist.cons _ (List.Sublist.cons _ (List.Sublist.trans (List.sublist_append_left Y42 _) (List.sublist_append_right Y122 _)))))) hO42.len (by have := hO42.len; have := hf42.1; omega) (GotG.reads hG42 hw (List.Sublist.cons _ (List.Sublist.cons _ (List.Sublist.cons _ (List.Sublist.trans (List.Sublist.trans (List.Sublist.trans (List.sublist_append_left Yz42 _) (List.sublist_append_right Yz122 _)) (List.sublist_append_right Y42 _)) (List.sublist_append_right Y122 _)))))) hf42.2 hO42.facts.2.1; rw [q262] at this; exact this) (qo0 1 [] [0, 1, 6, 7, 8, 21, 22, 23] [(9, .bool false)] (on_ (ds_ (sq_ (sq_ (ao_ (qo0 1 [(0, .go (owns 1 0 1))] [0, 1, 6, 7, 8, 9, 21, 22, 23] [(38, .agg #[.slice q42 n42 c42])] (cD (.int .i64 240) Try.call18 (fun w hw => by have := gcheck_t q42 n42 c42 bl42 w (SlO.sub hO42 hw (List.Sublist.cons _ (List.Sublist.cons _ (List.Sublist.cons _ (List.Sublist.trans (List.sublist_append_left Y42 _) (List.sublist_append_right Y122 _)))))) hO42.len (by have := hO42.len; have := hf42.1; omega) (GotG.reads hG42 hw (List.Sublist.cons _ (List.Sublist.cons _ (List.Sublist.cons _ (List.Sublist.trans (List.Sublist.trans (List.Sublist.trans (List.sublist_append_left Yz42 _) (List.sublist_append_right Yz122 _)) (List.sublist_append_right Y42 _)) (List.sublist_append_right Y122 _)))))) hf42.2; rw [q262] at this; exact this) (qo0 1 [] [0, 1, 6, 7, 8, 9, 21, 22, 23] [(10, .int .i64 240)] (on_ (ds_ (sq_ (at_calmTo (f := 6) 22 rfl (by kernel_rfl) (by kernel_rfl) (by kernel_rfl) (by kernel_rfl) (by kernel_rfl) (by kernel_rfl) ?_)))))))))))))
    refine cm 15 [(3, .eqs false), (13, .go (owns 1 0 1)), (14, .go (owns 0 0 1))] [0, 1, 6, 7, 8, 9, 21, 22, 23] [(52, .bool false), (53, .agg #[.slice q42 n42 c42]), (54, .agg #[.slice q122 n122 c122])] ([EqRun Try.prog .neq 4 (.tmp 41) (.tmp 42) (.bool false) (.bool false) false]) (by kernel_rfl) rfl (al1 (bool_ne false false)) ?_
    refine cK (.bool (decide (bl42.map GngA.val = bl122.map GngA.val))) Try.call19 (fun w hw => gsame_t q42 n42 c42 bl42 q122 n122 c122 bl122 w (SlO.sub hO42 hw (List.Sublist.cons _ (List.Sublist.cons _ (List.Sublist.cons _ (List.Sublist.trans (List.sublist_append_left Y42 _) (List.sublist_append_right Y122 _)))))) hO42.len (by have := hO42.len; have := hf42.1; omega) (GotG.reads hG42 hw (List.Sublist.cons _ (List.Sublist.cons _ (List.Sublist.cons _ (List.Sublist.trans (List.Sublist.trans (List.Sublist.trans (List.sublist_append_left Yz42 _) (List.sublist_append_right Yz122 _)) (List.sublist_append_right Y42 _)) (List.sublist_append_right Y122 _)))))) hf42.2 (SlO.sub hO122 hw (List.Sublist.cons _ (List.Sublist.cons _ (List.Sublist.cons _ (List.sublist_append_left Y122 _))))) hO122.len (by have := hO122.len; have := hf122.1; omega) (GotG.reads hG122 hw (List.Sublist.cons _ (List.Sublist.cons _ (List.Sublist.cons _ (List.Sublist.trans (List.Sublist.trans (List.sublist_append_left Yz122 _) (List.sublist_append_right Y42 _)) (List.sublist_append_right Y122 _)))))) hf122.2) ?_
    refine cm 2 [(16, .go (owns 1 0 1)), (17, .go (owns 0 0 1))] [0, 1, 6, 7, 9, 21, 22, 23, 52, 55] [(56, .agg #[.slice q42 n42 c42]), (57, .agg #[.slice q122 n122 c122])] ([]) (by kernel_rfl) rfl al0 ?_
    refine cK (.bool (decide (bl42.map GngA.val = bl122.map GngA.val))) Try.call20 (fun w hw => rsame_t q42 n42 c42 bl42 q122 n122 c122 bl122 w (SlO.sub hO42 hw (List.Sublist.cons _ (List.Sublist.cons _ (List.Sublist.cons _ (List.Sublist.trans (List.sublist_append_left Y42 _) (List.sublist_append_right Y122 _)))))) hO42.len (by have := hO42.len; have := hf42.1; omega) (GotG.reads hG42 hw (List.Sublist.cons _ (List.Sublist.cons _ (List.Sublist.cons _ (List.Sublist.trans (List.Sublist.trans (List.Sublist.trans (List.sublist_append_left Yz42 _) (List.sublist_append_right Yz122 _)) (List.sublist_append_right Y42 _)) (List.sublist_append_right Y122 _)))))) hf42.2 (SlO.sub hO122 hw (List.Sublist.cons _ (List.Sublist.cons _ (List.Sublist.cons _ (List.sublist_append_left Y122 _))))) hO122.len (by have := hO122.len; have := hf122.1; omega) (GotG.reads hG122 hw (List.Sublist.cons _ (List.Sublist.cons _ (List.Sublist.cons _ (List.Sublist.trans (List.Sublist.trans (List.sublist_append_left Yz122 _) (List.sublist_append_right Y42 _)) (List.sublist_append_right Y122 _)))))) hf122.2) ?_
    refine cm 3 [(19, .eqs false)] [0, 1, 6, 7, 9, 21, 22, 23] [(61, .bool false)] ([EqRun Try.prog .neq 4 (.tmp 55) (.tmp 58) (.bool (decide (bl42.map GngA.val = bl122.map GngA.val))) (.bool (decide (bl42.map GngA.val = bl122.map GngA.val))) false]) (by kernel_rfl) rfl (al1 (bool_same _)) ?_
    refine calm_nil' ?_
    refine done_pre (li' := #[true, true, true, true, true, true, true, true, true, true, true, true, true, true, true, true, true, true, true, true, true, true, false, false, false, false, false, false]) (by kernel_rfl) ?_
    refine any_cutX (V := (List Ob) × (List Ob) × (List GngA) × (Nat) × (Nat) × (Option Addr)) (fun ⟨Y751, Yz751, bl751, c751, n751, q751⟩ => bl751.map GngA.val = shortV (x11.l.map GngA.val) ∧ GotG 3 Yz751 bl751 ∧ SlO 46 Y751 q751 n751 c751 bl751 ∧ (bl751.length ≤ 9 ∧ ∀ x ∈ bl751, x.n ≤ 1000)) 0 #[true, true, true, true, true, true, true, true, true, true, true, true, true, true, true, true, true, true, true, true, true, true, true, true, true, true, true, true] (fun ⟨Y751, Yz751, bl751, c751, n751, q751⟩ => [(0, .slice (some ⟨b9, o9, none⟩) n cap), (1, .slice pk nk ck), (7, .pointer (some ⟨γ142 0, 0, none⟩)), (9, .bool false), (21, .slice (some ⟨b9, o9, none⟩) n cap), (22, .int .i64 (n : Nat)), (23, .int .i64 (j : Nat)), (67, .bool false)]) (fun ⟨Y751, Yz751, bl751, c751, n751, q751⟩ => bx (γ162 0) (#[.slice q122 n122 c122]) 38 :: bx (γ142 0) (#[.slice q42 n42 c42]) 38 :: bx (γ12 0) (#[.slice x11.p x11.n x11.cap]) 38 :: (Y751 ++ (Yz751 ++ (Y122 ++ (Y42 ++ (Yz122 ++ (Yz42 ++ []))))))) ?_ (fun hmx6 => ?_)
    rotate_left
    ·
     refine any_cutX (V := (List Ob) × (List Ob) × (List GngA) × (Nat) × (Nat) × (Option Addr)) (fun ⟨Y751, Yz751, bl751, c751, n751, q751⟩ => bl751.map GngA.val = shortV (x11.l.map GngA.val) ∧ GotG 3 Yz751 bl751 ∧ SlO 46 Y751 q751 n751 c751 bl751 ∧ (bl751.length ≤ 9 ∧ ∀ x ∈ bl751, x.n ≤ 1000)) 3 #[true, true, true, true, true, true, true, true, true, true, true, true, true, true, true, true, true, true, true, true, true, true, true, true, true, false, false, false] (fun ⟨Y751, Yz751, bl751, c751, n751, q751⟩ => [(0, .slice (some ⟨b9, o9, none⟩) n cap), (1, .slice pk nk ck), (7, .pointer (some ⟨γ142 0, 0, none⟩)), (9, .bool false), (21, .slice (some ⟨b9, o9, none⟩) n cap), (22, .int .i64 (n : Nat)), (23, .int .i64 (j : Nat)), (61, .bool false), (62, .agg #[.slice q42 n42 c42]), (64, .agg #[.slice q751 n751 c751])]) (fun ⟨Y751, Yz751, bl751, c751, n751, q751⟩ => bx (γ162 0) (#[.slice q122 n122 c122]) 38 :: bx (γ142 0) (#[.slice q42 n42 c42]) 38 :: bx (γ12 0) (#[.slice x11.p x11.n x11.cap]) 38 :: (Y751 ++ (Yz751 ++ (Y122 ++ (Y42 ++ (Yz122 ++ (Yz42 ++ []))))))) ?_ (fun hmx5 => ?_)
     ·
      rintro ⟨Y751, Yz751, bl751, c751, n751, q751⟩ ⟨hB751, hG751, hO751, hf751⟩
      refine a1 25 rfl ?_
      refine cD (.bool true) Try.call19 (fun w hw => by have := gsame_t q42 n42 c42 bl42 q751 n751 c751 bl751 w (SlO.sub hO42 hw (List.Sublist.cons _ (List.Sublist.cons _ (List.Sublist.cons _ (List.Sublist.trans (List.Sublist.trans (List.Sublist.trans (List.sublist_append_left Y42 _) (List.sublist_append_right Y122 _)) (List.sublist_append_right Yz751 _)) (List.sublist_append_right Y751 _)))))) hO42.len (by have := hO42.len; have := hf42.1; omega) (GotG.reads hG42 hw (List.Sublist.cons _ (List.Sublist.cons _ (List.Sublist.cons _ (List.Sublist.trans (List.Sublist.trans (List.Sublist.trans (List.Sublist.trans (List.Sublist.trans (List.sublist_append_left Yz42 _) (List.sublist_append_right Yz122 _)) (List.sublist_append_right Y42 _)) (List.sublist_append_right Y122 _)) (List.sublist_append_right Yz751 _)) (List.sublist_append_right Y751 _)))))) hf42.2 (SlO.sub hO751 hw (List.Sublist.cons _ (List.Sublist.cons _ (List.Sublist.cons _ (List.sublist_append_left Y751 _))))) hO751.len (by have := hO751.len; have := hf751.1; omega) (GotG.reads hG751 hw (List.Sublist.cons _ (List.Sublist.cons _ (List.Sublist.cons _ (List.Sublist.trans (List.sublist_append_left Yz751 _) (List.sublist_append_right Y751 _)))))) hf751.2; rw [hB42, hB751, decide_eq_true rfl] at this; exact this) ?_
      refine od_ ?_
      refine tk (m := 0) [26, 27] [] [0, 1, 7, 9, 21, 22, 23] [(67, .bool false)] ([]) #[true, true, true, true, true, true, true, true, true, true, true, true, true, true, true, true, true, true, true, true, true, true, true, true, true, true, true, true] al0 ?_
      exact wk (hmx6 (Y751, Yz751, bl751, c751, n751, q751) ⟨hB751, hG751, hO751, hf751⟩) [0, 1, 7, 9, 21, 22, 23, 67] [[_], [_], [_], _, _, _, _, _, _] [0, 1, 2, 3, 4, 5, 6, 7, 8] rfl rfl
     refine any_cutX (V := (List Ob) × (List Ob) × (List GngA) × (Nat) × (Nat) × (Option Addr)) (fun ⟨Y751, Yz751, bl751, c751, n751, q751⟩ => bl751.map GngA.val = shortV (x11.l.map GngA.val) ∧ GotG 3 Yz751 bl751 ∧ SlO 46 Y751 q751 n751 c751 bl751 ∧ (bl751.length ≤ 9 ∧ ∀ x ∈ bl751, x.n ≤ 1000)) 4 #[true, true, true, true, true, true, true, true, true, true, true, true, true, true, true, true, true, true, true, true, true, true, false, true, true, false, false, false] (fun ⟨Y751, Yz751, bl751, c751, n751, q751⟩ => [(0, .slice (some ⟨b9, o9, none⟩) n cap), (1, .slice pk nk ck), (7, .pointer (some ⟨γ142 0, 0, none⟩)), (9, .bool false), (21, .slice (some ⟨b9, o9, none⟩) n cap), (22, .int .i64 (n : Nat)), (23, .int .i64 (j : Nat)), (61, .bool false), (64, .agg #[.slice q751 n751 c751])]) (fun ⟨Y751, Yz751, bl751, c751, n751, q751⟩ => bx (γ162 0) (#[.slice q122 n122 c122]) 38 :: bx (γ142 0) (#[.slice q42 n42 c42]) 38 :: bx (γ12 0) (#[.slice x11.p x11.n x11.cap]) 38 :: (Y751 ++ (Yz751 ++ (Y122 ++ (Y42 ++ (Yz122 ++ (Yz42 ++ []))))))) ?_ (fun hmx4 => ?_)
     ·
      rintro ⟨Y751, Yz751, bl751, c751, n751, q751⟩ ⟨hB751, hG751, hO751, hf751⟩
      refine a1 22 rfl ?_
      refine qo0 1 [(22, .go (owns 1 0 1))] [0, 1, 7, 9, 21, 22, 23, 61, 64] [(62, .agg #[.slice q42 n42 c42])] ?_
      refine od_ ?_
      exact wk (hmx5 (Y751, Yz751, bl751, c751, n751, q751) ⟨hB751, hG751, hO751, hf751⟩) [0, 1, 7, 9, 21, 22, 23, 61, 62, 64] [[_], [_], [_], _, _, _, _, _, _] [0, 1, 2, 3, 4, 5, 6, 7, 8] rfl rfl
     refine any_cutX (V := Unit) (fun _ => True) 4 #[true, true, true, true, true, true, true, true, true, true, true, true, true, true, true, true, true, true, true, true, true, true, true, true, false, false, false, false] (fun _ => [(0, .slice (some ⟨b9, o9, none⟩) n cap), (1, .slice pk nk ck), (7, .pointer (some ⟨γ142 0, 0, none⟩)), (9, .bool false), (21, .slice (some ⟨b9, o9, none⟩) n cap), (22, .int .i64 (n : Nat)), (23, .int .i64 (j : Nat)), (61, .bool false), (62, .agg #[.slice q42 n42 c42]), (63, .agg #[.slice x11.p x11.n x11.cap])]) (fun _ => bx (γ162 0) (#[.slice q122 n122 c122]) 38 :: bx (γ142 0) (#[.slice q42 n42 c42]) 38 :: bx (γ12 0) (#[.slice x11.p x11.n x11.cap]) 38 :: (Y122 ++ (Y42 ++ (Yz122 ++ (Yz42 ++ []))))) ?_ (fun hmx3 => ?_)
     ·
      rintro _ _
      refine a1 24 rfl ?_
      refine cP (fun v L' => ∃ q_ n_ c_ Y_ Z_ bl_, v = .agg #[.slice q_ n_ c_] ∧ L' = List.take 3 (bx (γ162 0) (#[.slice q122 n122 c122]) 38 :: bx (γ142 0) (#[.slice q42 n42 c42]) 38 :: bx (γ12 0) (#[.slice x11.p x11.n x11.cap]) 38 :: (Y122 ++ (Y42 ++ (Yz122 ++ (Yz42 ++ []))))) ++ (Y_ ++ (Z_ ++ List.drop 3 (bx (γ162 0) (#[.slice q122 n122 c122]) 38 :: bx (γ142 0) (#[.slice q42 n42 c42]) 38 :: bx (γ12 0) (#[.slice x11.p x11.n x11.cap]) 38 :: (Y122 ++ (Y42 ++ (Yz122 ++ (Yz42 ++ []))))))) ∧ SlO 46 Y_ q_ n_ c_ bl_ ∧ GotG 3 Z_ bl_ ∧ bl_.map GngA.val = shortV (x11.l.map GngA.val)) Try.call16 (fun w hw => (short_t x11.p x11.n x11.cap x11.l w (hsx11.kept hw.below) hnx11 (by omega) (fun y hy => (hrx11.hi y hy).kept hw.below)).mono fun e w' ⟨q_, n_, c_, Y_, bl_, Z_, he, hO, hG, hB, hb, hY⟩ => ⟨_, _, he, ⟨q_, n_, c_, Y_, Z_, bl_, rfl, rfl, hO, hG, hB⟩, hs_re (hw.join hb hY 3)⟩) ?_
      rintro v751 L751 ⟨q751, n751, c751, Y751, Yz751, bl751, rfl, rfl, hO751, hG751, hB751⟩
      have hf751 := short_facts hG751 hB751
      refine od_ ?_
      exact wk (hmx5 (Y751, Yz751, bl751, c751, n751, q751) ⟨hB751, hG751, hO751, hf751⟩) [0, 1, 7, 9, 21, 22, 23, 61, 62, 64] [[_], [_], [_], _, _, _, _, _, _] [0, 1, 2, 3, 4, 5, 6, 7, 8] rfl rfl
     refine any_cutX (V := Unit) (fun _ => True) 5 #[true, true, true, true, true, true, true, true, true, true, true, true, true, true, true, true, true, true, true, true, true, true, false, true, false, false, false, false] (fun _ => [(0, .slice (some ⟨b9, o9, none⟩) n cap), (1, .slice pk nk ck), (7, .pointer (some ⟨γ142 0, 0, none⟩)), (9, .bool false), (21, .slice (some ⟨b9, o9, none⟩) n cap), (22, .int .i64 (n : Nat)), (23, .int .i64 (j : Nat)), (61, .bool false), (63, .agg #[.slice x11.p x11.n x11.cap])]) (fun _ => bx (γ162 0) (#[.slice q122 n122 c122]) 38 :: bx (γ142 0) (#[.slice q42 n42 c42]) 38 :: bx (γ12 0) (#[.slice x11.p x11.n x11.cap]) 38 :: (Y122 ++ (Y42 ++ (Yz122 ++ (Yz42 ++ []))))) ?_ (fun hmx2 => ?_)
     ·
      rintro _ _
      refine any_fork [22, 24] (by kernel_rfl) (by simp) (each_cons _ rfl ?_ (each_cons _ rfl ?_ (each_nil)))
      ·
       refine qo0 1 [(22, .go (owns 1 0 1))] [0, 1, 7, 9, 21, 22, 23, 61, 63] [(62, .agg #[.slice q42 n42 c42])] ?_
       refine od_ ?_
       exact wk (hmx3 () trivial) [0, 1, 7, 9, 21, 22, 23, 61, 62, 63] [[_], [_], [_], _, _, _, _] [0, 1, 2, 3, 4, 5, 6] rfl rfl
      ·
       refine cP (fun v L' => ∃ q_ n_ c_ Y_ Z_ bl_, v = .agg #[.slice q_ n_ c_] ∧ L' = List.take 3 (bx (γ162 0) (#[.slice q122 n122 c122]) 38 :: bx (γ142 0) (#[.slice q42 n42 c42]) 38 :: bx (γ12 0) (#[.slice x11.p x11.n x11.cap]) 38 :: (Y122 ++ (Y42 ++ (Yz122 ++ (Yz42 ++ []))))) ++ (Y_ ++ (Z_ ++ List.drop 3 (bx (γ162 0) (#[.slice q122 n122 c122]) 38 :: bx (γ142 0) (#[.slice q42 n42 c42]) 38 :: bx (γ12 0) (#[.slice x11.p x11.n x11.cap]) 38 :: (Y122 ++ (Y42 ++ (Yz122 ++ (Yz42 ++ []))))))) ∧ SlO 46 Y_ q_ n_ c_ bl_ ∧ GotG 3 Z_ bl_ ∧ bl_.map GngA.val = shortV (x11.l.map GngA.val)) Try.call16 (fun w hw => (short_t x11.p x11.n x11.cap x11.l w (hsx11.kept hw.below) hnx11 (by omega) (fun y hy => (hrx11.hi y hy).kept hw.below)).mono fun e w' ⟨q_, n_, c_, Y_, bl_, Z_, he, hO, hG, hB, hb, hY⟩ => ⟨_, _, he, ⟨q_, n_, c_, Y_, Z_, bl_, rfl, rfl, hO, hG, hB⟩, hs_re (hw.join hb hY 3)⟩) ?_
       rintro v751 L751 ⟨q751, n751, c751, Y751, Yz751, bl751, rfl, rfl, hO751, hG751, hB751⟩
       have hf751 := short_facts hG751 hB751
       refine od_ ?_
       exact wk (hmx4 (Y751, Yz751, bl751, c751, n751, q751) ⟨hB751, hG751, hO751, hf751⟩) [0, 1, 7, 9, 21, 22, 23, 61, 64] [[_], [_], [_], _, _, _, _, _, _] [0, 1, 2, 3, 4, 5, 6, 7, 8] rfl rfl
     refine any_cutX (V := Unit) (fun _ => True) 5 #[true, true, true, true, true, true, true, true, true, true, true, true, true, true, true, true, true, true, true, true, true, true, true, false, false, false, false, false] (fun _ => [(0, .slice (some ⟨b9, o9, none⟩) n cap), (1, .slice pk nk ck), (6, .pointer (some ⟨γ12 0, 0, none⟩)), (7, .pointer (some ⟨γ142 0, 0, none⟩)), (9, .bool false), (21, .slice (some ⟨b9, o9, none⟩) n cap), (22, .int .i64 (n : Nat)), (23, .int .i64 (j : Nat)), (61, .bool false), (62, .agg #[.slice q42 n42 c42])]) (fun _ => bx (γ162 0) (#[.slice q122 n122 c122]) 38 :: bx (γ142 0) (#[.slice q42 n42 c42]) 38 :: bx (γ12 0) (#[.slice x11.p x11.n x11.cap]) 38 :: (Y122 ++ (Y42 ++ (Yz122 ++ (Yz42 ++ []))))) ?_ (fun hmx1 => ?_)
     ·
      rintro _ _
      refine a1 23 rfl ?_
      refine qo0 1 [(23, .go (owns 2 0 1))] [0, 1, 7, 9, 21, 22, 23, 61, 62] [(63, .agg #[.slice x11.p x11.n x11.cap])] ?_
      refine od_ ?_
      exact wk (hmx3 () trivial) [0, 1, 7, 9, 21, 22, 23, 61, 62, 63] [[_], [_], [_], _, _, _, _] [0, 1, 2, 3, 4, 5, 6] rfl rfl
     refine any_fork [22, 23] (by kernel_rfl) (by simp) (each_cons _ rfl ?_ (each_cons _ rfl ?_ (each_nil)))
     ·
      refine qo0 1 [(22, .go (owns 1 0 1))] [0, 1, 6, 7, 9, 21, 22, 23, 61] [(62, .agg #[.slice q42 n42 c42])] ?_
      refine od_ ?_
      exact wk (hmx1 () trivial) [0, 1, 6, 7, 9, 21, 22, 23, 61, 62] [[_], [_], [_], _, _, _, _] [0, 1, 2, 3, 4, 5, 6] rfl rfl
     ·
      refine qo0 1 [(23, .go (owns 2 0 1))] [0, 1, 7, 9, 21, 22, 23, 61] [(63, .agg #[.slice x11.p x11.n x11.cap])] ?_
      refine od_ ?_
      exact wk (hmx2 () trivial) [0, 1, 7, 9, 21, 22, 23, 61, 63] [[_], [_], [_], _, _, _, _] [0, 1, 2, 3, 4, 5, 6] rfl rfl
    rintro ⟨Y751, Yz751, bl751, c751, n751, q751⟩ ⟨hB751, hG751, hO751, hf751⟩
    refine any_nil (by kernel_rfl) ?_
    refine ds_ (f_ (at_skip (ds_ (sq_ (ao_ (qo0 1 [(0, .go (owns 1 0 1))] [0, 1, 7, 9, 21, 22, 23] [(68, .agg #[.slice q42 n42 c42])] (cP (fun v L' => ∃ q_ n_ c_ Y_ Z_ rl_, v = .slice q_ n_ c_ ∧ L' = List.take 3 (bx (γ162 0) (#[.slice q122 n122 c122]) 38 :: bx (γ142 0) (#[.slice q42 n42 c42]) 38 :: bx (γ12 0) (#[.slice x11.p x11.n x11.cap]) 38 :: (Y751 ++ (Yz751 ++ (Y122 ++ (Y42 ++ (Yz122 ++ (Yz42 ++ []))))))) ++ (Y_ ++ (Z_ ++ List.drop 3 (bx (γ162 0) (#[.slice q122 n122 c122]) 38 :: bx (γ142 0) (#[.slice q42 n42 c42]) 38 :: bx (γ12 0) (#[.slice x11.p x11.n x11.cap]) 38 :: (Y751 ++ (Yz751 ++ (Y122 ++ (Y42 ++ (Yz122 ++ (Yz42 ++ []))))))))) ∧ SlO 25 Y_ q_ n_ c_ rl_ ∧ GotR 3 Z_ rl_ ∧ rl_.map IntsA.l = rowsV (bl42.map GngA.val)) Try.call21 (fun w hw => (grows_t q42 n42 c42 bl42 w (SlO.sub hO42 hw (List.Sublist.cons _ (List.Sublist.cons _ (List.Sublist.cons _ (List.Sublist.trans (List.Sublist.trans (List.Sublist.trans (List.sublist_append_left Y42 _) (List.sublist_append_right Y122 _)) (List.sublist_append_right Yz751 _)) (List.sublist_append_right Y751 _)))))) hO42.len (by have := hO42.len; have := hf42.1; omega) (GotG.reads hG42 hw (List.Sublist.cons _ (List.Sublist.cons _ (List.Sublist.cons _ (List.Sublist.trans (List.Sublist.trans (List.Sublist.trans (List.Sublist.trans (List.Sublist.trans (List.sublist_append_left Yz42 _) (List.sublist_append_right Yz122 _)) (List.sublist_append_right Y42 _)) (List.sublist_append_right Y122 _)) (List.sublist_append_right Yz751 _)) (List.sublist_append_right Y751 _)))))) hf42.2).mono fun e w' ⟨q_, n_, c_, Y_, rl_, Z_, he, hO, hG, hB, hb, hY⟩ => ⟨_, _, he, ⟨q_, n_, c_, Y_, Z_, rl_, rfl, rfl, hO, hG, hB⟩, hs_re (hw.join hb hY 3)⟩) ?_)))))))
    rintro v873 L873 ⟨q873, n873, c873, Y873, Yz873, rl873, rfl, rfl, hO873, hG873, hB873⟩
    have hl873 := hO873.len
    have hln873 := hO42.len
    have hrl873 := rows_nil hB873 q262
    refine qo0 1 [] [0, 1, 7, 9, 21, 22, 23] [(11, .slice q873 n873 c873)] (on_ (ds_ (sq_ (sq_ ?_))))
    by_cases q876 : ((n873 : Nat) : Int) ≠ (0 : Int)
    ·
     refine qa [(15, .yes)] [0, 1, 7, 9, 11, 21, 22, 23] [(87, .bool true)] ([((n873 : Nat) : Int) ≠ (0 : Int)]) (al1 q876) (ds_ (t_ (sq_ (qa0 [] [] [(4, .bool false)] (ds_ (rt ([]) (.bool false) ?_))))))
     exfalso
     first | omega | simp_all
    ·
     refine qa [(15, .no)] [0, 1, 7, 9, 11, 21, 22, 23] [(87, .bool false)] ([¬ (((n873 : Nat) : Int) ≠ (0 : Int))]) (al1 q876) (ds_ (f_ (at_skip (ds_ (sq_ (sq_ (qa0 [] [0, 1, 7, 9, 11, 21, 22, 23] [(89, .int .i64 (n873 : Nat)), (90, .int .i64 0)] (ds_ (at_block (At.pick [[bx (γ162 0) (#[.slice q122 n122 c122]) 38], [bx (γ142 0) (#[.slice q42 n42 c42]) 38], [bx (γ12 0) (#[.slice x11.p x11.n x11.cap]) 38], Y873, Yz873, Y751, Yz751, Y122, Y42, Yz122, Yz42] [1, 3, 4, 8, 10] [0, 2, 5, 6, 7, 9] (bx (γ142 0) (#[.slice q42 n42 c42]) 38 :: (Y873 ++ (Yz873 ++ (Y42 ++ (Yz42 ++ []))))) (by kernel_rfl) rfl rfl (at_loop (α := Nat) [0, 1, 7, 9, 11, 21, 22, 23, 89, 90] (fun i => [(0, .slice (some ⟨b9, o9, none⟩) n cap), (1, .slice pk nk ck), (7, .pointer (some ⟨γ142 0, 0, none⟩)), (9, .bool false), (11, .slice q873 n873 c873), (21, .slice (some ⟨b9, o9, none⟩) n cap), (22, .int .i64 (n : Nat)), (23, .int .i64 (j : Nat)), (89, .int .i64 (n873 : Nat)), (90, .int .i64 (i : Nat))]) (fun i => bx (γ142 0) (#[.slice q42 n42 c42]) 38 :: (Y873 ++ (Yz873 ++ (Y42 ++ (Yz42 ++ []))))) (fun i => i ≤ n873) (fun i => n873 - i) 0 (by kernel_rfl) rfl (Nat.zero_le _) ?_)))))))))))
     rintro i
     rintro hi
     refine sq_ (qa [(0, .no)] [0, 1, 7, 9, 11, 21, 22, 23, 89, 90] [(91, .bool false)] ([¬ (((i : Nat) : Int) < ((n873 : Nat) : Int))]) (al1 (by omega)) (ds_ (sq_ (f_ (at_leave _ rfl (ds_ (sq_ (qa0 [] [0, 1, 7, 9, 21, 22, 23] [(106, .slice pk nk ck), (107, .int .i64 (nk : Nat)), (108, .int .i64 0)] (ds_ (at_block (At.pick [[bx (γ142 0) (#[.slice q42 n42 c42]) 38], Y873, Yz873, Y42, Yz42] [0, 3, 4] [1, 2] (bx (γ142 0) (#[.slice q42 n42 c42]) 38 :: (Y42 ++ (Yz42 ++ []))) (by kernel_rfl) rfl rfl (at_loop (α := Nat) [0, 1, 7, 9, 21, 22, 23, 106, 107, 108] (fun k => [(0, .slice (some ⟨b9, o9, none⟩) n cap), (1, .slice pk nk ck), (7, .pointer (some ⟨γ142 0, 0, none⟩)), (9, .bool false), (21, .slice (some ⟨b9, o9, none⟩) n cap), (22, .int .i64 (n : Nat)), (23, .int .i64 (j : Nat)), (106, .slice pk nk ck), (107, .int .i64 (nk : Nat)), (108, .int .i64 (k : Nat))]) (fun k => bx (γ142 0) (#[.slice q42 n42 c42]) 38 :: (Y42 ++ (Yz42 ++ []))) (fun k => k ≤ nk) (fun k => nk - k) 0 (by kernel_rfl) rfl (Nat.zero_le _) ?_))))))))))))
     rintro k
     rintro hk
     refine sq_ ?_
     by_cases q884 : ((k : Nat) : Int) < ((nk : Nat) : Int)
     ·
      refine qa [(0, .yes)] [0, 1, 7, 9, 21, 22, 23, 106, 107, 108] [(109, .bool true)] ([((k : Nat) : Int) < ((nk : Nat) : Int)]) (al1 q884) (ds_ (sq_ (t_ (at_skip (ds_ (sq_ (at_block (sq_ ?_))))))))
      obtain ⟨b887, o887, rfl⟩ := hkl.pos (i := k) (by omega)
      obtain ⟨x889, hx889⟩ := get_some (l := kl) (m := k) (by omega)
      refine qa [(1, .at b887 o887 k), (2, .go (outs b887 (o887 + k * 1) [.int .i64 x889]))] [0, 1, 7, 9, 21, 22, 23, 106, 107, 108] [(13, .int .i64 (k : Nat)), (14, .int .i64 x889)] ([(some ⟨b887, o887, none⟩ : Option Addr) = some ⟨b887, o887, none⟩, (k : Nat) = ((k : Nat) : Int), k < nk] ++ (cellsP w b887 (o887 + k * 1) [.int .i64 x889])) (alA (al2 rfl (al2 rfl (al1 (by omega)))) (rd_pre (hkl.get hx889) _ rfl)) (ds_ (sq_ (sq_ ?_)))
      by_cases q892 : ((k : Nat) : Int) = (12 : Int)
      ·
       refine qa [(1, .yes)] [0, 1, 7, 9, 14, 21, 22, 23, 106, 107, 108] [(114, .bool true)] ([((k : Nat) : Int) = (12 : Int)]) (al1 q892) (ds_ (t_ (at_leave _ rfl (done_block (ds_ (qa [(0, .fit)] [0, 1, 21, 22] [(23, .int .i64 (j + 1 : Nat))] ([Fit .i64 ((j + 1 : Nat))]) (al1 (fit64 (by omega) (by omega))) (Done.drop (L' := []) ?_ (List.Sublist.cons _ ((List.sublist_append_right _ _).trans (List.sublist_append_right _ _))))))))))
       exact done_round [0, 1, 21, 22, 23] (j + 1) (by kernel_rfl) rfl (by omega) (by first | omega | (simp only; omega))
      ·
       refine qa [(1, .no)] [0, 1, 7, 9, 14, 21, 22, 23, 106, 107, 108] [(114, .bool false)] ([¬ (((k : Nat) : Int) = (12 : Int))]) (al1 q892) (ds_ (f_ (at_skip (ds_ (sq_ (ao_ (qo0 2 [(0, .go (owns 0 0 1))] [0, 1, 7, 9, 14, 21, 22, 23, 106, 107, 108] [(116, .agg #[.slice q42 n42 c42]), (117, .int .i64 x889)] (cD (.tuple #[.int .i64 0, .bool false]) Try.call22 (fun w hw => by have := gof_t q42 n42 c42 bl42 x889 w (SlO.sub hO42 hw (List.Sublist.cons _ (List.sublist_append_left Y42 _))) hO42.len (by have := hO42.len; have := hf42.1; omega) (GotG.reads hG42 hw (List.Sublist.cons _ (List.Sublist.trans (List.sublist_append_left Yz42 _) (List.sublist_append_right Y42 _)))) hf42.2; rw [ofv_bad q262] at this; exact this) (qo0 5 [] [0, 1, 7, 9, 14, 21, 22, 23, 106, 107, 108] [(15, .int .i64 0), (16, .bool false)] (on_ (ds_ (sq_ (qa0 [] [0, 1, 7, 9, 14, 15, 16, 21, 22, 23, 106, 107, 108] [(17, .slice none 0 0)] (ds_ (sq_ (qa0 [] [0, 1, 7, 9, 14, 15, 16, 17, 21, 22, 23, 106, 107, 108] [(18, .int .i64 0)] (ds_ (sq_ (sq_ (qa0 [] [0, 1, 7, 9, 14, 15, 16, 17, 18, 21, 22, 23, 106, 107, 108] [(121, .bool false)] (ds_ (f_ (at_skip (ds_ (sq_ (ao_ (qo 12 [(7, .eqs false), (10, .go (owns 0 0 1))] [0, 1, 7, 9, 17, 21, 22, 23, 106, 107, 108] [(137, .bool false), (138, .agg #[.slice q42 n42 c42]), (139, .int .i64 x889)] ([EqRun Try.prog .neq 4 (.tmp 132) (.tmp 134) (.bool false) (.bool false) false]) (al1 (bool_ne false false)) (cP (fun v L' => ∃ q_ n_ c_ Y_, v = .slice q_ n_ c_ ∧ L' = List.take 1 (bx (γ142 0) (#[.slice q42 n42 c42]) 38 :: (Y42 ++ (Yz42 ++ []))) ++ (Y_ ++ List.drop 1 (bx (γ142 0) (#[.slice q42 n42 c42]) 38 :: (Y42 ++ (Yz42 ++ [])))) ∧ SlO 3 Y_ q_ n_ c_ (memV (bl42.map GngA.val) x889)) Try.call25 (fun w hw => (members_t q42 n42 c42 bl42 x889 w (SlO.sub hO42 hw (List.Sublist.cons _ (List.sublist_append_left Y42 _))) hO42.len (by have := hO42.len; have := hf42.1; omega) (GotG.reads hG42 hw (List.Sublist.cons _ (List.Sublist.trans (List.sublist_append_left Yz42 _) (List.sublist_append_right Y42 _)))) hf42.2).mono fun e w' ⟨q_, n_, c_, Y_, he, hO, hb, hY⟩ => ⟨_, _, he, ⟨q_, n_, c_, Y_, rfl, rfl, hO⟩, hw.join hb hY 1⟩) ?_))))))))))))))))))))))))))))
       rintro v902 L902 ⟨q902, n902, c902, Y902, rfl, rfl, hO902⟩
       refine qo0 1 [] [0, 1, 7, 9, 21, 22, 23, 106, 107, 108, 137, 140] [(141, .slice none 0 0)] (cD (.bool true) Try.call14 (fun w hw => by have := samei_t q902 n902 c902 (memV (bl42.map GngA.val) x889) none 0 0 [] w (SlO.sub hO902 hw (List.Sublist.cons _ (List.sublist_append_left Y902 _))) hO902.len (by rw [hO902.len, memv_bad q262]; decide) Sv.nil rfl (by decide); rw [decide_eq_true (memv_bad q262)] at this; exact this) (qo0 2 [] [0, 1, 7, 9, 21, 22, 23, 106, 107, 108] [(144, .bool false)] (on_ (ds_ (f_ (at_skip (done_block (ds_ (qa [(0, .fit)] [0, 1, 7, 9, 21, 22, 23, 106, 107] [(108, .int .i64 (k + 1 : Nat))] ([Fit .i64 ((k + 1 : Nat))]) (al1 (fit64 (by omega) (by omega))) (Done.drop (L' := bx (γ142 0) (#[.slice q42 n42 c42]) 38 :: (Y42 ++ (Yz42 ++ []))) ?_ (List.Sublist.cons_cons _ (List.sublist_append_right _ _))))))))))))
       exact done_round [0, 1, 7, 9, 21, 22, 23, 106, 107, 108] (k + 1) (by kernel_rfl) rfl (by omega) (by first | omega | (simp only; omega))
     ·
      refine qa [(0, .no)] [0, 1, 7, 9, 21, 22, 23, 106, 107, 108] [(109, .bool false)] ([¬ (((k : Nat) : Int) < ((nk : Nat) : Int))]) (al1 q884) (ds_ (sq_ (f_ (at_leave _ rfl (done_block (ds_ (qa [(0, .fit)] [0, 1, 21, 22] [(23, .int .i64 (j + 1 : Nat))] ([Fit .i64 ((j + 1 : Nat))]) (al1 (fit64 (by omega) (by omega))) (Done.drop (L' := []) ?_ (List.Sublist.cons _ ((List.sublist_append_right _ _).trans (List.sublist_append_right _ _)))))))))))
      exact done_round [0, 1, 21, 22, 23] (j + 1) (by kernel_rfl) rfl (by omega) (by first | omega | (simp only; omega))
   ·
    refine cD (.bool true) Try.call17 (fun w hw => by have := rright_t q42 n42 c42 bl42 w (SlO.sub hO42 hw (List.Sublist.cons _ (List.Sublist.cons _ (List.Sublist.cons _ (List.Sublist.trans (List.sublist_append_left Y42 _) (List.sublist_append_right Y122 _)))))) hO42.len (by have := hO42.len; have := hf42.1; omega) (GotG.reads hG42 hw (List.Sublist.cons _ (List.Sublist.cons _ (List.Sublist.cons _ (List.Sublist.trans (List.Sublist.trans (List.Sublist.trans (List.sublist_append_left Yz42 _) (List.sublist_append_right Yz122 _)) (List.sublist_append_right Y42 _)) (List.sublist_append_right Y122 _)))))) hf42.2 hO42.facts.2.1; rw [q262] at this; exact this) (qo0 1 [] [0, 1, 6, 7, 8, 21, 22, 23] [(9, .bool true)] (on_ (ds_ (sq_ (sq_ (ao_ (qo0 1 [(0, .go (owns 1 0 1))] [0, 1, 6, 7, 8, 9, 21, 22, 23] [(38, .agg #[.slice q42 n42 c42])] (cD (.int .i64 0) Try.call18 (fun w hw => by have := gcheck_t q42 n42 c42 bl42 w (SlO.sub hO42 hw (List.Sublist.cons _ (List.Sublist.cons _ (List.Sublist.cons _ (List.Sublist.trans (List.sublist_append_left Y42 _) (List.sublist_append_right Y122 _)))))) hO42.len (by have := hO42.len; have := hf42.1; omega) (GotG.reads hG42 hw (List.Sublist.cons _ (List.Sublist.cons _ (List.Sublist.cons _ (List.Sublist.trans (List.Sublist.trans (List.Sublist.trans (List.sublist_append_left Yz42 _) (List.sublist_append_right Yz122 _)) (List.sublist_append_right Y42 _)) (List.sublist_append_right Y122 _)))))) hf42.2; rw [q262] at this; exact this) (qo0 1 [] [0, 1, 6, 7, 8, 9, 21, 22, 23] [(10, .int .i64 0)] (on_ (ds_ (sq_ (at_calmTo (f := 6) 22 rfl (by kernel_rfl) (by kernel_rfl) (by kernel_rfl) (by kernel_rfl) (by kernel_rfl) (by kernel_rfl) ?_)))))))))))))
    refine cm 15 [(3, .eqs false), (13, .go (owns 1 0 1)), (14, .go (owns 0 0 1))] [0, 1, 6, 7, 8, 9, 21, 22, 23] [(52, .bool false), (53, .agg #[.slice q42 n42 c42]), (54, .agg #[.slice q122 n122 c122])] ([EqRun Try.prog .neq 4 (.tmp 41) (.tmp 42) (.bool true) (.bool true) false]) (by kernel_rfl) rfl (al1 (bool_ne true true)) ?_
    refine cK (.bool (decide (bl42.map GngA.val = bl122.map GngA.val))) Try.call19 (fun w hw => gsame_t q42 n42 c42 bl42 q122 n122 c122 bl122 w (SlO.sub hO42 hw (List.Sublist.cons _ (List.Sublist.cons _ (List.Sublist.cons _ (List.Sublist.trans (List.sublist_append_left Y42 _) (List.sublist_append_right Y122 _)))))) hO42.len (by have := hO42.len; have := hf42.1; omega) (GotG.reads hG42 hw (List.Sublist.cons _ (List.Sublist.cons _ (List.Sublist.cons _ (List.Sublist.trans (List.Sublist.trans (List.Sublist.trans (List.sublist_append_left Yz42 _) (List.sublist_append_right Yz122 _)) (List.sublist_append_right Y42 _)) (List.sublist_append_right Y122 _)))))) hf42.2 (SlO.sub hO122 hw (List.Sublist.cons _ (List.Sublist.cons _ (List.Sublist.cons _ (List.sublist_append_left Y122 _))))) hO122.len (by have := hO122.len; have := hf122.1; omega) (GotG.reads hG122 hw (List.Sublist.cons _ (List.Sublist.cons _ (List.Sublist.cons _ (List.Sublist.trans (List.Sublist.trans (List.sublist_append_left Yz122 _) (List.sublist_append_right Y42 _)) (List.sublist_append_right Y122 _)))))) hf122.2) ?_
    refine cm 2 [(16, .go (owns 1 0 1)), (17, .go (owns 0 0 1))] [0, 1, 6, 7, 9, 21, 22, 23, 52, 55] [(56, .agg #[.slice q42 n42 c42]), (57, .agg #[.slice q122 n122 c122])] ([]) (by kernel_rfl) rfl al0 ?_
    refine cK (.bool (decide (bl42.map GngA.val = bl122.map GngA.val))) Try.call20 (fun w hw => rsame_t q42 n42 c42 bl42 q122 n122 c122 bl122 w (SlO.sub hO42 hw (List.Sublist.cons _ (List.Sublist.cons _ (List.Sublist.cons _ (List.Sublist.trans (List.sublist_append_left Y42 _) (List.sublist_append_right Y122 _)))))) hO42.len (by have := hO42.len; have := hf42.1; omega) (GotG.reads hG42 hw (List.Sublist.cons _ (List.Sublist.cons _ (List.Sublist.cons _ (List.Sublist.trans (List.Sublist.trans (List.Sublist.trans (List.sublist_append_left Yz42 _) (List.sublist_append_right Yz122 _)) (List.sublist_append_right Y42 _)) (List.sublist_append_right Y122 _)))))) hf42.2 (SlO.sub hO122 hw (List.Sublist.cons _ (List.Sublist.cons _ (List.Sublist.cons _ (List.sublist_append_left Y122 _))))) hO122.len (by have := hO122.len; have := hf122.1; omega) (GotG.reads hG122 hw (List.Sublist.cons _ (List.Sublist.cons _ (List.Sublist.cons _ (List.Sublist.trans (List.Sublist.trans (List.sublist_append_left Yz122 _) (List.sublist_append_right Y42 _)) (List.sublist_append_right Y122 _)))))) hf122.2) ?_
    refine cm 3 [(19, .eqs false)] [0, 1, 6, 7, 9, 21, 22, 23] [(61, .bool false)] ([EqRun Try.prog .neq 4 (.tmp 55) (.tmp 58) (.bool (decide (bl42.map GngA.val = bl122.map GngA.val))) (.bool (decide (bl42.map GngA.val = bl122.map GngA.val))) false]) (by kernel_rfl) rfl (al1 (bool_same _)) ?_
    refine calm_nil' ?_
    refine done_pre (li' := #[true, true, true, true, true, true, true, true, true, true, true, true, true, true, true, true, true, true, true, true, true, true, false, false, false, false, false, false]) (by kernel_rfl) ?_
    refine any_cutX (V := (List Ob) × (List Ob) × (List GngA) × (Nat) × (Nat) × (Option Addr)) (fun ⟨Y1396, Yz1396, bl1396, c1396, n1396, q1396⟩ => bl1396.map GngA.val = shortV (x11.l.map GngA.val) ∧ GotG 3 Yz1396 bl1396 ∧ SlO 46 Y1396 q1396 n1396 c1396 bl1396 ∧ (bl1396.length ≤ 9 ∧ ∀ x ∈ bl1396, x.n ≤ 1000)) 0 #[true, true, true, true, true, true, true, true, true, true, true, true, true, true, true, true, true, true, true, true, true, true, true, true, true, true, true, true] (fun ⟨Y1396, Yz1396, bl1396, c1396, n1396, q1396⟩ => [(0, .slice (some ⟨b9, o9, none⟩) n cap), (1, .slice pk nk ck), (7, .pointer (some ⟨γ142 0, 0, none⟩)), (9, .bool true), (21, .slice (some ⟨b9, o9, none⟩) n cap), (22, .int .i64 (n : Nat)), (23, .int .i64 (j : Nat)), (67, .bool false)]) (fun ⟨Y1396, Yz1396, bl1396, c1396, n1396, q1396⟩ => bx (γ162 0) (#[.slice q122 n122 c122]) 38 :: bx (γ142 0) (#[.slice q42 n42 c42]) 38 :: bx (γ12 0) (#[.slice x11.p x11.n x11.cap]) 38 :: (Y1396 ++ (Yz1396 ++ (Y122 ++ (Y42 ++ (Yz122 ++ (Yz42 ++ []))))))) ?_ (fun hmx6 => ?_)
    rotate_left
    ·
     refine any_cutX (V := (List Ob) × (List Ob) × (List GngA) × (Nat) × (Nat) × (Option Addr)) (fun ⟨Y1396, Yz1396, bl1396, c1396, n1396, q1396⟩ => bl1396.map GngA.val = shortV (x11.l.map GngA.val) ∧ GotG 3 Yz1396 bl1396 ∧ SlO 46 Y1396 q1396 n1396 c1396 bl1396 ∧ (bl1396.length ≤ 9 ∧ ∀ x ∈ bl1396, x.n ≤ 1000)) 3 #[true, true, true, true, true, true, true, true, true, true, true, true, true, true, true, true, true, true, true, true, true, true, true, true, true, false, false, false] (fun ⟨Y1396, Yz1396, bl1396, c1396, n1396, q1396⟩ => [(0, .slice (some ⟨b9, o9, none⟩) n cap), (1, .slice pk nk ck), (7, .pointer (some ⟨γ142 0, 0, none⟩)), (9, .bool true), (21, .slice (some ⟨b9, o9, none⟩) n cap), (22, .int .i64 (n : Nat)), (23, .int .i64 (j : Nat)), (61, .bool false), (62, .agg #[.slice q42 n42 c42]), (64, .agg #[.slice q1396 n1396 c1396])]) (fun ⟨Y1396, Yz1396, bl1396, c1396, n1396, q1396⟩ => bx (γ162 0) (#[.slice q122 n122 c122]) 38 :: bx (γ142 0) (#[.slice q42 n42 c42]) 38 :: bx (γ12 0) (#[.slice x11.p x11.n x11.cap]) 38 :: (Y1396 ++ (Yz1396 ++ (Y122 ++ (Y42 ++ (Yz122 ++ (Yz42 ++ []))))))) ?_ (fun hmx5 => ?_)
     ·
      rintro ⟨Y1396, Yz1396, bl1396, c1396, n1396, q1396⟩ ⟨hB1396, hG1396, hO1396, hf1396⟩
      refine a1 25 rfl ?_
      refine cD (.bool true) Try.call19 (fun w hw => by have := gsame_t q42 n42 c42 bl42 q1396 n1396 c1396 bl1396 w (SlO.sub hO42 hw (List.Sublist.cons _ (List.Sublist.cons _ (List.Sublist.cons _ (List.Sublist.trans (List.Sublist.trans (List.Sublist.trans (List.sublist_append_left Y42 _) (List.sublist_append_right Y122 _)) (List.sublist_append_right Yz1396 _)) (List.sublist_append_right Y1396 _)))))) hO42.len (by have := hO42.len; have := hf42.1; omega) (GotG.reads hG42 hw (List.Sublist.cons _ (List.Sublist.cons _ (List.Sublist.cons _ (List.Sublist.trans (List.Sublist.trans (List.Sublist.trans (List.Sublist.trans (List.Sublist.trans (List.sublist_append_left Yz42 _) (List.sublist_append_right Yz122 _)) (List.sublist_append_right Y42 _)) (List.sublist_append_right Y122 _)) (List.sublist_append_right Yz1396 _)) (List.sublist_append_right Y1396 _)))))) hf42.2 (SlO.sub hO1396 hw (List.Sublist.cons _ (List.Sublist.cons _ (List.Sublist.cons _ (List.sublist_append_left Y1396 _))))) hO1396.len (by have := hO1396.len; have := hf1396.1; omega) (GotG.reads hG1396 hw (List.Sublist.cons _ (List.Sublist.cons _ (List.Sublist.cons _ (List.Sublist.trans (List.sublist_append_left Yz1396 _) (List.sublist_append_right Y1396 _)))))) hf1396.2; rw [hB42, hB1396, decide_eq_true rfl] at this; exact this) ?_
      refine od_ ?_
      refine tk (m := 0) [26, 27] [] [0, 1, 7, 9, 21, 22, 23] [(67, .bool false)] ([]) #[true, true, true, true, true, true, true, true, true, true, true, true, true, true, true, true, true, true, true, true, true, true, true, true, true, true, true, true] al0 ?_
      exact wk (hmx6 (Y1396, Yz1396, bl1396, c1396, n1396, q1396) ⟨hB1396, hG1396, hO1396, hf1396⟩) [0, 1, 7, 9, 21, 22, 23, 67] [[_], [_], [_], _, _, _, _, _, _] [0, 1, 2, 3, 4, 5, 6, 7, 8] rfl rfl
     refine any_cutX (V := (List Ob) × (List Ob) × (List GngA) × (Nat) × (Nat) × (Option Addr)) (fun ⟨Y1396, Yz1396, bl1396, c1396, n1396, q1396⟩ => bl1396.map GngA.val = shortV (x11.l.map GngA.val) ∧ GotG 3 Yz1396 bl1396 ∧ SlO 46 Y1396 q1396 n1396 c1396 bl1396 ∧ (bl1396.length ≤ 9 ∧ ∀ x ∈ bl1396, x.n ≤ 1000)) 4 #[true, true, true, true, true, true, true, true, true, true, true, true, true, true, true, true, true, true, true, true, true, true, false, true, true, false, false, false] (fun ⟨Y1396, Yz1396, bl1396, c1396, n1396, q1396⟩ => [(0, .slice (some ⟨b9, o9, none⟩) n cap), (1, .slice pk nk ck), (7, .pointer (some ⟨γ142 0, 0, none⟩)), (9, .bool true), (21, .slice (some ⟨b9, o9, none⟩) n cap), (22, .int .i64 (n : Nat)), (23, .int .i64 (j : Nat)), (61, .bool false), (64, .agg #[.slice q1396 n1396 c1396])]) (fun ⟨Y1396, Yz1396, bl1396, c1396, n1396, q1396⟩ => bx (γ162 0) (#[.slice q122 n122 c122]) 38 :: bx (γ142 0) (#[.slice q42 n42 c42]) 38 :: bx (γ12 0) (#[.slice x11.p x11.n x11.cap]) 38 :: (Y1396 ++ (Yz1396 ++ (Y122 ++ (Y42 ++ (Yz122 ++ (Yz42 ++ []))))))) ?_ (fun hmx4 => ?_)
     ·
      rintro ⟨Y1396, Yz1396, bl1396, c1396, n1396, q1396⟩ ⟨hB1396, hG1396, hO1396, hf1396⟩
      refine a1 22 rfl ?_
      refine qo0 1 [(22, .go (owns 1 0 1))] [0, 1, 7, 9, 21, 22, 23, 61, 64] [(62, .agg #[.slice q42 n42 c42])] ?_
      refine od_ ?_
      exact wk (hmx5 (Y1396, Yz1396, bl1396, c1396, n1396, q1396) ⟨hB1396, hG1396, hO1396, hf1396⟩) [0, 1, 7, 9, 21, 22, 23, 61, 62, 64] [[_], [_], [_], _, _, _, _, _, _] [0, 1, 2, 3, 4, 5, 6, 7, 8] rfl rfl
     refine any_cutX (V := Unit) (fun _ => True) 4 #[true, true, true, true, true, true, true, true, true, true, true, true, true, true, true, true, true, true, true, true, true, true, true, true, false, false, false, false] (fun _ => [(0, .slice (some ⟨b9, o9, none⟩) n cap), (1, .slice pk nk ck), (7, .pointer (some ⟨γ142 0, 0, none⟩)), (9, .bool true), (21, .slice (some ⟨b9, o9, none⟩) n cap), (22, .int .i64 (n : Nat)), (23, .int .i64 (j : Nat)), (61, .bool false), (62, .agg #[.slice q42 n42 c42]), (63, .agg #[.slice x11.p x11.n x11.cap])]) (fun _ => bx (γ162 0) (#[.slice q122 n122 c122]) 38 :: bx (γ142 0) (#[.slice q42 n42 c42]) 38 :: bx (γ12 0) (#[.slice x11.p x11.n x11.cap]) 38 :: (Y122 ++ (Y42 ++ (Yz122 ++ (Yz42 ++ []))))) ?_ (fun hmx3 => ?_)
     ·
      rintro _ _
      refine a1 24 rfl ?_
      refine cP (fun v L' => ∃ q_ n_ c_ Y_ Z_ bl_, v = .agg #[.slice q_ n_ c_] ∧ L' = List.take 3 (bx (γ162 0) (#[.slice q122 n122 c122]) 38 :: bx (γ142 0) (#[.slice q42 n42 c42]) 38 :: bx (γ12 0) (#[.slice x11.p x11.n x11.cap]) 38 :: (Y122 ++ (Y42 ++ (Yz122 ++ (Yz42 ++ []))))) ++ (Y_ ++ (Z_ ++ List.drop 3 (bx (γ162 0) (#[.slice q122 n122 c122]) 38 :: bx (γ142 0) (#[.slice q42 n42 c42]) 38 :: bx (γ12 0) (#[.slice x11.p x11.n x11.cap]) 38 :: (Y122 ++ (Y42 ++ (Yz122 ++ (Yz42 ++ []))))))) ∧ SlO 46 Y_ q_ n_ c_ bl_ ∧ GotG 3 Z_ bl_ ∧ bl_.map GngA.val = shortV (x11.l.map GngA.val)) Try.call16 (fun w hw => (short_t x11.p x11.n x11.cap x11.l w (hsx11.kept hw.below) hnx11 (by omega) (fun y hy => (hrx11.hi y hy).kept hw.below)).mono fun e w' ⟨q_, n_, c_, Y_, bl_, Z_, he, hO, hG, hB, hb, hY⟩ => ⟨_, _, he, ⟨q_, n_, c_, Y_, Z_, bl_, rfl, rfl, hO, hG, hB⟩, hs_re (hw.join hb hY 3)⟩) ?_
      rintro v1396 L1396 ⟨q1396, n1396, c1396, Y1396, Yz1396, bl1396, rfl, rfl, hO1396, hG1396, hB1396⟩
      have hf1396 := short_facts hG1396 hB1396
      refine od_ ?_
      exact wk (hmx5 (Y1396, Yz1396, bl1396, c1396, n1396, q1396) ⟨hB1396, hG1396, hO1396, hf1396⟩) [0, 1, 7, 9, 21, 22, 23, 61, 62, 64] [[_], [_], [_], _, _, _, _, _, _] [0, 1, 2, 3, 4, 5, 6, 7, 8] rfl rfl
     refine any_cutX (V := Unit) (fun _ => True) 5 #[true, true, true, true, true, true, true, true, true, true, true, true, true, true, true, true, true, true, true, true, true, true, false, true, false, false, false, false] (fun _ => [(0, .slice (some ⟨b9, o9, none⟩) n cap), (1, .slice pk nk ck), (7, .pointer (some ⟨γ142 0, 0, none⟩)), (9, .bool true), (21, .slice (some ⟨b9, o9, none⟩) n cap), (22, .int .i64 (n : Nat)), (23, .int .i64 (j : Nat)), (61, .bool false), (63, .agg #[.slice x11.p x11.n x11.cap])]) (fun _ => bx (γ162 0) (#[.slice q122 n122 c122]) 38 :: bx (γ142 0) (#[.slice q42 n42 c42]) 38 :: bx (γ12 0) (#[.slice x11.p x11.n x11.cap]) 38 :: (Y122 ++ (Y42 ++ (Yz122 ++ (Yz42 ++ []))))) ?_ (fun hmx2 => ?_)
     ·
      rintro _ _
      refine any_fork [22, 24] (by kernel_rfl) (by simp) (each_cons _ rfl ?_ (each_cons _ rfl ?_ (each_nil)))
      ·
       refine qo0 1 [(22, .go (owns 1 0 1))] [0, 1, 7, 9, 21, 22, 23, 61, 63] [(62, .agg #[.slice q42 n42 c42])] ?_
       refine od_ ?_
       exact wk (hmx3 () trivial) [0, 1, 7, 9, 21, 22, 23, 61, 62, 63] [[_], [_], [_], _, _, _, _] [0, 1, 2, 3, 4, 5, 6] rfl rfl
      ·
       refine cP (fun v L' => ∃ q_ n_ c_ Y_ Z_ bl_, v = .agg #[.slice q_ n_ c_] ∧ L' = List.take 3 (bx (γ162 0) (#[.slice q122 n122 c122]) 38 :: bx (γ142 0) (#[.slice q42 n42 c42]) 38 :: bx (γ12 0) (#[.slice x11.p x11.n x11.cap]) 38 :: (Y122 ++ (Y42 ++ (Yz122 ++ (Yz42 ++ []))))) ++ (Y_ ++ (Z_ ++ List.drop 3 (bx (γ162 0) (#[.slice q122 n122 c122]) 38 :: bx (γ142 0) (#[.slice q42 n42 c42]) 38 :: bx (γ12 0) (#[.slice x11.p x11.n x11.cap]) 38 :: (Y122 ++ (Y42 ++ (Yz122 ++ (Yz42 ++ []))))))) ∧ SlO 46 Y_ q_ n_ c_ bl_ ∧ GotG 3 Z_ bl_ ∧ bl_.map GngA.val = shortV (x11.l.map GngA.val)) Try.call16 (fun w hw => (short_t x11.p x11.n x11.cap x11.l w (hsx11.kept hw.below) hnx11 (by omega) (fun y hy => (hrx11.hi y hy).kept hw.below)).mono fun e w' ⟨q_, n_, c_, Y_, bl_, Z_, he, hO, hG, hB, hb, hY⟩ => ⟨_, _, he, ⟨q_, n_, c_, Y_, Z_, bl_, rfl, rfl, hO, hG, hB⟩, hs_re (hw.join hb hY 3)⟩) ?_
       rintro v1396 L1396 ⟨q1396, n1396, c1396, Y1396, Yz1396, bl1396, rfl, rfl, hO1396, hG1396, hB1396⟩
       have hf1396 := short_facts hG1396 hB1396
       refine od_ ?_
       exact wk (hmx4 (Y1396, Yz1396, bl1396, c1396, n1396, q1396) ⟨hB1396, hG1396, hO1396, hf1396⟩) [0, 1, 7, 9, 21, 22, 23, 61, 64] [[_], [_], [_], _, _, _, _, _, _] [0, 1, 2, 3, 4, 5, 6, 7, 8] rfl rfl
     refine any_cutX (V := Unit) (fun _ => True) 5 #[true, true, true, true, true, true, true, true, true, true, true, true, true, true, true, true, true, true, true, true, true, true, true, false, false, false, false, false] (fun _ => [(0, .slice (some ⟨b9, o9, none⟩) n cap), (1, .slice pk nk ck), (6, .pointer (some ⟨γ12 0, 0, none⟩)), (7, .pointer (some ⟨γ142 0, 0, none⟩)), (9, .bool true), (21, .slice (some ⟨b9, o9, none⟩) n cap), (22, .int .i64 (n : Nat)), (23, .int .i64 (j : Nat)), (61, .bool false), (62, .agg #[.slice q42 n42 c42])]) (fun _ => bx (γ162 0) (#[.slice q122 n122 c122]) 38 :: bx (γ142 0) (#[.slice q42 n42 c42]) 38 :: bx (γ12 0) (#[.slice x11.p x11.n x11.cap]) 38 :: (Y122 ++ (Y42 ++ (Yz122 ++ (Yz42 ++ []))))) ?_ (fun hmx1 => ?_)
     ·
      rintro _ _
      refine a1 23 rfl ?_
      refine qo0 1 [(23, .go (owns 2 0 1))] [0, 1, 7, 9, 21, 22, 23, 61, 62] [(63, .agg #[.slice x11.p x11.n x11.cap])] ?_
      refine od_ ?_
      exact wk (hmx3 () trivial) [0, 1, 7, 9, 21, 22, 23, 61, 62, 63] [[_], [_], [_], _, _, _, _] [0, 1, 2, 3, 4, 5, 6] rfl rfl
     refine any_fork [22, 23] (by kernel_rfl) (by simp) (each_cons _ rfl ?_ (each_cons _ rfl ?_ (each_nil)))
     ·
      refine qo0 1 [(22, .go (owns 1 0 1))] [0, 1, 6, 7, 9, 21, 22, 23, 61] [(62, .agg #[.slice q42 n42 c42])] ?_
      refine od_ ?_
      exact wk (hmx1 () trivial) [0, 1, 6, 7, 9, 21, 22, 23, 61, 62] [[_], [_], [_], _, _, _, _] [0, 1, 2, 3, 4, 5, 6] rfl rfl
     ·
      refine qo0 1 [(23, .go (owns 2 0 1))] [0, 1, 7, 9, 21, 22, 23, 61] [(63, .agg #[.slice x11.p x11.n x11.cap])] ?_
      refine od_ ?_
      exact wk (hmx2 () trivial) [0, 1, 7, 9, 21, 22, 23, 61, 63] [[_], [_], [_], _, _, _, _] [0, 1, 2, 3, 4, 5, 6] rfl rfl
    rintro ⟨Y1396, Yz1396, bl1396, c1396, n1396, q1396⟩ ⟨hB1396, hG1396, hO1396, hf1396⟩
    refine any_nil (by kernel_rfl) ?_
    refine ds_ (f_ (at_skip (ds_ (sq_ (ao_ (qo0 1 [(0, .go (owns 1 0 1))] [0, 1, 7, 9, 21, 22, 23] [(68, .agg #[.slice q42 n42 c42])] (cP (fun v L' => ∃ q_ n_ c_ Y_ Z_ rl_, v = .slice q_ n_ c_ ∧ L' = List.take 3 (bx (γ162 0) (#[.slice q122 n122 c122]) 38 :: bx (γ142 0) (#[.slice q42 n42 c42]) 38 :: bx (γ12 0) (#[.slice x11.p x11.n x11.cap]) 38 :: (Y1396 ++ (Yz1396 ++ (Y122 ++ (Y42 ++ (Yz122 ++ (Yz42 ++ []))))))) ++ (Y_ ++ (Z_ ++ List.drop 3 (bx (γ162 0) (#[.slice q122 n122 c122]) 38 :: bx (γ142 0) (#[.slice q42 n42 c42]) 38 :: bx (γ12 0) (#[.slice x11.p x11.n x11.cap]) 38 :: (Y1396 ++ (Yz1396 ++ (Y122 ++ (Y42 ++ (Yz122 ++ (Yz42 ++ []))))))))) ∧ SlO 25 Y_ q_ n_ c_ rl_ ∧ GotR 3 Z_ rl_ ∧ rl_.map IntsA.l = rowsV (bl42.map GngA.val)) Try.call21 (fun w hw => (grows_t q42 n42 c42 bl42 w (SlO.sub hO42 hw (List.Sublist.cons _ (List.Sublist.cons _ (List.Sublist.cons _ (List.Sublist.trans (List.Sublist.trans (List.Sublist.trans (List.sublist_append_left Y42 _) (List.sublist_append_right Y122 _)) (List.sublist_append_right Yz1396 _)) (List.sublist_append_right Y1396 _)))))) hO42.len (by have := hO42.len; have := hf42.1; omega) (GotG.reads hG42 hw (List.Sublist.cons _ (List.Sublist.cons _ (List.Sublist.cons _ (List.Sublist.trans (List.Sublist.trans (List.Sublist.trans (List.Sublist.trans (List.Sublist.trans (List.sublist_append_left Yz42 _) (List.sublist_append_right Yz122 _)) (List.sublist_append_right Y42 _)) (List.sublist_append_right Y122 _)) (List.sublist_append_right Yz1396 _)) (List.sublist_append_right Y1396 _)))))) hf42.2).mono fun e w' ⟨q_, n_, c_, Y_, rl_, Z_, he, hO, hG, hB, hb, hY⟩ => ⟨_, _, he, ⟨q_, n_, c_, Y_, Z_, rl_, rfl, rfl, hO, hG, hB⟩, hs_re (hw.join hb hY 3)⟩) ?_)))))))
    rintro v1518 L1518 ⟨q1518, n1518, c1518, Y1518, Yz1518, rl1518, rfl, rfl, hO1518, hG1518, hB1518⟩
    have hl1518 := hO1518.len
    have hln1518 := hO42.len
    have hrl1518 := rows_len hB1518 q262
    refine qo0 1 [] [0, 1, 7, 9, 21, 22, 23] [(11, .slice q1518 n1518 c1518)] (on_ (ds_ (sq_ (sq_ ?_))))
    by_cases q1521 : ((n1518 : Nat) : Int) ≠ ((n42 : Nat) : Int)
    ·
     refine qa [(5, .go (owns 1 0 1)), (7, .yes)] [0, 1, 7, 9, 11, 21, 22, 23] [(87, .bool true)] ([((n1518 : Nat) : Int) ≠ ((n42 : Nat) : Int)]) (al1 q1521) (ds_ (t_ (sq_ (qa0 [] [] [(4, .bool false)] (ds_ (rt ([]) (.bool false) ?_))))))
     exfalso
     first | omega | simp_all
    ·
     refine qa [(5, .go (owns 1 0 1)), (7, .no)] [0, 1, 7, 9, 11, 21, 22, 23] [(87, .bool false)] ([¬ (((n1518 : Nat) : Int) ≠ ((n42 : Nat) : Int))]) (al1 q1521) (ds_ (f_ (at_skip (ds_ (sq_ (sq_ (qa0 [] [0, 1, 7, 9, 11, 21, 22, 23] [(89, .int .i64 (n1518 : Nat)), (90, .int .i64 0)] (ds_ (at_block (At.pick [[bx (γ162 0) (#[.slice q122 n122 c122]) 38], [bx (γ142 0) (#[.slice q42 n42 c42]) 38], [bx (γ12 0) (#[.slice x11.p x11.n x11.cap]) 38], Y1518, Yz1518, Y1396, Yz1396, Y122, Y42, Yz122, Yz42] [1, 3, 4, 8, 10] [0, 2, 5, 6, 7, 9] (bx (γ142 0) (#[.slice q42 n42 c42]) 38 :: (Y1518 ++ (Yz1518 ++ (Y42 ++ (Yz42 ++ []))))) (by kernel_rfl) rfl rfl (at_loop (α := Nat) [0, 1, 7, 9, 11, 21, 22, 23, 89, 90] (fun i => [(0, .slice (some ⟨b9, o9, none⟩) n cap), (1, .slice pk nk ck), (7, .pointer (some ⟨γ142 0, 0, none⟩)), (9, .bool true), (11, .slice q1518 n1518 c1518), (21, .slice (some ⟨b9, o9, none⟩) n cap), (22, .int .i64 (n : Nat)), (23, .int .i64 (j : Nat)), (89, .int .i64 (n1518 : Nat)), (90, .int .i64 (i : Nat))]) (fun i => bx (γ142 0) (#[.slice q42 n42 c42]) 38 :: (Y1518 ++ (Yz1518 ++ (Y42 ++ (Yz42 ++ []))))) (fun i => i ≤ n1518) (fun i => n1518 - i) 0 (by kernel_rfl) rfl (Nat.zero_le _) ?_)))))))))))
     rintro i
     rintro hi
     refine sq_ ?_
     by_cases q1527 : ((i : Nat) : Int) < ((n1518 : Nat) : Int)
     ·
      refine qa [(0, .yes)] [0, 1, 7, 9, 11, 21, 22, 23, 89, 90] [(91, .bool true)] ([((i : Nat) : Int) < ((n1518 : Nat) : Int)]) (al1 q1527) (ds_ (sq_ (t_ (at_skip (ds_ (sq_ (at_block (sq_ (qa0 [] [0, 1, 7, 9, 11, 21, 22, 23, 89, 90] [(12, .int .i64 (i : Nat))] (ds_ (sq_ ?_)))))))))))
      have hln1531 := hO1518.len
      obtain ⟨g1531, cs1531, rfl, rfl, hOw1531⟩ := hO1518.rowOf (i := i) (by omega)
      obtain ⟨x1533, hx1533⟩ := get_some (l := rl1518) (m := i) (by omega)
      refine At.pick [[bx (γ142 0) (#[.slice q42 n42 c42]) 38], [bx g1531 cs1531 25], Yz1518, Y42, Yz42] [0, 1, 3, 2, 4] [] (bx (γ142 0) (#[.slice q42 n42 c42]) 38 :: bx g1531 cs1531 25 :: (Y42 ++ (Yz1518 ++ (Yz42 ++ [])))) (by kernel_rfl) rfl rfl ?_
      have hln1535 := hO42.len
      obtain ⟨g1535, cs1535, rfl, rfl, hOw1535⟩ := hO42.rowOf (i := i) (by omega)
      obtain ⟨x1537, hx1537⟩ := get_some (l := bl42) (m := i) (by omega)
      refine at_calm rfl (by kernel_rfl) (by kernel_rfl) ?_
      refine cm 10 [(2, .at g1531 0 i), (3, .go (ownps 1 (0 + i * 1) [.slice x1533.p x1533.n x1533.cap])), (5, .go (owns 0 0 1)), (7, .at g1535 0 i), (9, .go (ownps 2 (0 + i * 2 + 1) [.slice x1537.p x1537.n x1537.cap]))] [0, 1, 7, 9, 11, 21, 22, 23, 89, 90] [(96, .slice x1533.p x1533.n x1533.cap), (102, .slice x1537.p x1537.n x1537.cap)] ([(some ⟨g1531, 0, none⟩ : Option Addr) = some ⟨g1531, 0, none⟩, (i : Nat) = ((i : Nat) : Int), i < n1518] ++ (acellsP cs1531 (0 + i * 1) [.slice x1533.p x1533.n x1533.cap] ++ ([(some ⟨g1535, 0, none⟩ : Option Addr) = some ⟨g1535, 0, none⟩, (i : Nat) = ((i : Nat) : Int), i < n42] ++ (acellsP cs1535 (0 + i * 2 + 1) [.slice x1537.p x1537.n x1537.cap])))) (by kernel_rfl) rfl (alA (al2 rfl (al2 rfl (al1 (by omega)))) (alA (rda_pre (hOw1531.rdx hO1518.len hx1533) _ rfl) (alA (al2 rfl (al2 rfl (al1 (by omega)))) (rda_part (hOw1535.rdx hO42.len hx1537) 1 _ rfl)))) ?_
      refine cK (.bool true) Try.call14 (fun w hw => by have := samei_t x1533.p x1533.n x1533.cap x1533.l x1537.p x1537.n x1537.cap x1537.l w (GotR.reads hG1518 hw (List.Sublist.cons _ (List.Sublist.cons _ (List.Sublist.cons _ (List.sublist_append_left Yz1518 _)))) x1533 (List.mem_of_getElem? hx1533)).sv (GotR.reads hG1518 hw (List.Sublist.cons _ (List.Sublist.cons _ (List.Sublist.cons _ (List.sublist_append_left Yz1518 _)))) x1533 (List.mem_of_getElem? hx1533)).hn (rows_small (GotR.reads hG1518 hw (List.Sublist.cons _ (List.Sublist.cons _ (List.Sublist.cons _ (List.sublist_append_left Yz1518 _)))) x1533 (List.mem_of_getElem? hx1533)).hn (rows_eq hB1518 q262 hx1533 hx1537) (GotG.reads hG42 hw (List.Sublist.cons _ (List.Sublist.cons _ (List.Sublist.cons _ (List.Sublist.trans (List.sublist_append_left Yz42 _) (List.sublist_append_right Yz1518 _))))) x1537 (List.mem_of_getElem? hx1537)).hn (hf42.2 x1537 (List.mem_of_getElem? hx1537))) (GotG.reads hG42 hw (List.Sublist.cons _ (List.Sublist.cons _ (List.Sublist.cons _ (List.Sublist.trans (List.sublist_append_left Yz42 _) (List.sublist_append_right Yz1518 _))))) x1537 (List.mem_of_getElem? hx1537)).sv (GotG.reads hG42 hw (List.Sublist.cons _ (List.Sublist.cons _ (List.Sublist.cons _ (List.Sublist.trans (List.sublist_append_left Yz42 _) (List.sublist_append_right Yz1518 _))))) x1537 (List.mem_of_getElem? hx1537)).hn (hf42.2 x1537 (List.mem_of_getElem? hx1537)); rw [decide_eq_true (rows_eq hB1518 q262 hx1533 hx1537)] at this; exact this) ?_
      refine cm 1 [] [0, 1, 7, 9, 11, 21, 22, 23, 89, 90] [(104, .bool false)] ([]) (by kernel_rfl) rfl al0 ?_
      refine calm_nil' ?_
      refine ds_ (f_ (at_skip (done_block (ds_ (qa [(0, .fit)] [0, 1, 7, 9, 11, 21, 22, 23, 89] [(90, .int .i64 (i + 1 : Nat))] ([Fit .i64 ((i + 1 : Nat))]) (al1 (fit64 (by omega) (by omega))) (Done.pick [[bx (γ142 0) (#[.slice (some ⟨g1535, 0, none⟩) n42 c42]) 38], [bx g1531 cs1531 25], [bx g1535 cs1535 46], Yz1518, Yz42] [0, 1, 3, 2, 4] [] (bx (γ142 0) (#[.slice (some ⟨g1535, 0, none⟩) n42 c42]) 38 :: ([bx g1531 cs1531 25] ++ (Yz1518 ++ ([bx g1535 cs1535 46] ++ (Yz42 ++ []))))) (by kernel_rfl) rfl rfl ?_))))))
      exact done_round [0, 1, 7, 9, 11, 21, 22, 23, 89, 90] (i + 1) (by kernel_rfl) rfl (by omega) (by first | omega | (simp only; omega))
     ·
      refine qa [(0, .no)] [0, 1, 7, 9, 11, 21, 22, 23, 89, 90] [(91, .bool false)] ([¬ (((i : Nat) : Int) < ((n1518 : Nat) : Int))]) (al1 q1527) (ds_ (sq_ (f_ (at_leave _ rfl (ds_ (sq_ (qa0 [] [0, 1, 7, 9, 21, 22, 23] [(106, .slice pk nk ck), (107, .int .i64 (nk : Nat)), (108, .int .i64 0)] (ds_ (at_block (At.pick [[bx (γ142 0) (#[.slice q42 n42 c42]) 38], Y1518, Yz1518, Y42, Yz42] [0, 3, 4] [1, 2] (bx (γ142 0) (#[.slice q42 n42 c42]) 38 :: (Y42 ++ (Yz42 ++ []))) (by kernel_rfl) rfl rfl (at_loop (α := Nat) [0, 1, 7, 9, 21, 22, 23, 106, 107, 108] (fun k => [(0, .slice (some ⟨b9, o9, none⟩) n cap), (1, .slice pk nk ck), (7, .pointer (some ⟨γ142 0, 0, none⟩)), (9, .bool true), (21, .slice (some ⟨b9, o9, none⟩) n cap), (22, .int .i64 (n : Nat)), (23, .int .i64 (j : Nat)), (106, .slice pk nk ck), (107, .int .i64 (nk : Nat)), (108, .int .i64 (k : Nat))]) (fun k => bx (γ142 0) (#[.slice q42 n42 c42]) 38 :: (Y42 ++ (Yz42 ++ []))) (fun k => k ≤ nk) (fun k => nk - k) 0 (by kernel_rfl) rfl (Nat.zero_le _) ?_)))))))))))
      rintro k
      rintro hk
      refine sq_ ?_
      by_cases q1544 : ((k : Nat) : Int) < ((nk : Nat) : Int)
      ·
       refine qa [(0, .yes)] [0, 1, 7, 9, 21, 22, 23, 106, 107, 108] [(109, .bool true)] ([((k : Nat) : Int) < ((nk : Nat) : Int)]) (al1 q1544) (ds_ (sq_ (t_ (at_skip (ds_ (sq_ (at_block (sq_ ?_))))))))
       obtain ⟨b1547, o1547, rfl⟩ := hkl.pos (i := k) (by omega)
       obtain ⟨x1549, hx1549⟩ := get_some (l := kl) (m := k) (by omega)
       refine qa [(1, .at b1547 o1547 k), (2, .go (outs b1547 (o1547 + k * 1) [.int .i64 x1549]))] [0, 1, 7, 9, 21, 22, 23, 106, 107, 108] [(13, .int .i64 (k : Nat)), (14, .int .i64 x1549)] ([(some ⟨b1547, o1547, none⟩ : Option Addr) = some ⟨b1547, o1547, none⟩, (k : Nat) = ((k : Nat) : Int), k < nk] ++ (cellsP w b1547 (o1547 + k * 1) [.int .i64 x1549])) (alA (al2 rfl (al2 rfl (al1 (by omega)))) (rd_pre (hkl.get hx1549) _ rfl)) (ds_ (sq_ (sq_ ?_)))
       by_cases q1552 : ((k : Nat) : Int) = (12 : Int)
       ·
        refine qa [(1, .yes)] [0, 1, 7, 9, 14, 21, 22, 23, 106, 107, 108] [(114, .bool true)] ([((k : Nat) : Int) = (12 : Int)]) (al1 q1552) (ds_ (t_ (at_leave _ rfl (done_block (ds_ (qa [(0, .fit)] [0, 1, 21, 22] [(23, .int .i64 (j + 1 : Nat))] ([Fit .i64 ((j + 1 : Nat))]) (al1 (fit64 (by omega) (by omega))) (Done.drop (L' := []) ?_ (List.Sublist.cons _ ((List.sublist_append_right _ _).trans (List.sublist_append_right _ _))))))))))
        exact done_round [0, 1, 21, 22, 23] (j + 1) (by kernel_rfl) rfl (by omega) (by first | omega | (simp only; omega))
       ·
        refine qa [(1, .no)] [0, 1, 7, 9, 14, 21, 22, 23, 106, 107, 108] [(114, .bool false)] ([¬ (((k : Nat) : Int) = (12 : Int))]) (al1 q1552) (ds_ (f_ (at_skip (ds_ (sq_ (ao_ (qo0 2 [(0, .go (owns 0 0 1))] [0, 1, 7, 9, 14, 21, 22, 23, 106, 107, 108] [(116, .agg #[.slice q42 n42 c42]), (117, .int .i64 x1549)] (cD (.tuple #[.int .i64 (rofV (bl42.map GngA.val) x1549), .bool (decide (((rofV (bl42.map GngA.val) x1549) : Int) > (0 : Int)))]) Try.call22 (fun w hw => by have := gof_t q42 n42 c42 bl42 x1549 w (SlO.sub hO42 hw (List.Sublist.cons _ (List.sublist_append_left Y42 _))) hO42.len (by have := hO42.len; have := hf42.1; omega) (GotG.reads hG42 hw (List.Sublist.cons _ (List.Sublist.trans (List.sublist_append_left Yz42 _) (List.sublist_append_right Y42 _)))) hf42.2; rw [(of_rof q262).1, (of_rof q262).2] at this; exact this) (qo0 5 [] [0, 1, 7, 9, 14, 21, 22, 23, 106, 107, 108] [(15, .int .i64 (rofV (bl42.map GngA.val) x1549)), (16, .bool (decide (((rofV (bl42.map GngA.val) x1549) : Int) > (0 : Int))))] (on_ (ds_ (sq_ (qa0 [] [0, 1, 7, 9, 14, 15, 16, 21, 22, 23, 106, 107, 108] [(17, .slice none 0 0)] (ds_ (sq_ (qa0 [] [0, 1, 7, 9, 14, 15, 16, 17, 21, 22, 23, 106, 107, 108] [(18, .int .i64 0)] (ds_ (sq_ (sq_ (qa0 [] [0, 1, 7, 9, 14, 15, 16, 17, 18, 21, 22, 23, 106, 107, 108] [(121, .bool true)] (ds_ (t_ ?_))))))))))))))))))))))
        refine at_calm rfl (by kernel_rfl) (by kernel_rfl) ?_
        refine cm 2 [(0, .go (owns 0 0 1))] [0, 1, 7, 9, 14, 15, 16, 21, 22, 23, 106, 107, 108] [(122, .agg #[.slice q42 n42 c42]), (123, .int .i64 x1549)] ([]) (by kernel_rfl) rfl al0 ?_
        refine cK (.slice ((getA bl42 x1549).1) ((getA bl42 x1549).2.1) ((getA bl42 x1549).2.2.1)) Try.call23 (fun w hw => rget_t q42 n42 c42 bl42 x1549 w (SlO.sub hO42 hw (List.Sublist.cons _ (List.sublist_append_left Y42 _))) hO42.len (by have := hO42.len; have := hf42.1; omega) (GotG.reads hG42 hw (List.Sublist.cons _ (List.Sublist.trans (List.sublist_append_left Yz42 _) (List.sublist_append_right Y42 _)))) hf42.2) ?_
        refine cm 2 [(3, .go (owns 0 0 1))] [0, 1, 7, 9, 14, 15, 16, 21, 22, 23, 106, 107, 108, 124] [(125, .agg #[.slice q42 n42 c42]), (126, .int .i64 x1549)] ([]) (by kernel_rfl) rfl al0 ?_
        refine cK (.int .i64 (rofV (bl42.map GngA.val) x1549)) Try.call24 (fun w hw => rof_t q42 n42 c42 bl42 x1549 w (SlO.sub hO42 hw (List.Sublist.cons _ (List.sublist_append_left Y42 _))) hO42.len (by have := hO42.len; have := hf42.1; omega) (GotG.reads hG42 hw (List.Sublist.cons _ (List.Sublist.trans (List.sublist_append_left Yz42 _) (List.sublist_append_right Y42 _)))) hf42.2) ?_
        refine cm 2 [] [0, 1, 7, 9, 14, 15, 16, 21, 22, 23, 106, 107, 108] [(17, .slice ((getA bl42 x1549).1) ((getA bl42 x1549).2.1) ((getA bl42 x1549).2.2.1)), (18, .int .i64 (rofV (bl42.map GngA.val) x1549))] ([]) (by kernel_rfl) rfl al0 ?_
        refine calm_nil' ?_
        refine ds_ (sq_ (ao_ (qo 12 [(2, .no), (7, .eqs false), (10, .go (owns 0 0 1))] [0, 1, 7, 9, 17, 21, 22, 23, 106, 107, 108] [(137, .bool false), (138, .agg #[.slice q42 n42 c42]), (139, .int .i64 x1549)] ([¬ (((rofV (bl42.map GngA.val) x1549) : Int) ≠ ((rofV (bl42.map GngA.val) x1549) : Int))] ++ ([EqRun Try.prog .neq 4 (.tmp 132) (.tmp 134) (.bool (decide (((rofV (bl42.map GngA.val) x1549) : Int) > (0 : Int)))) (.bool (decide (((rofV (bl42.map GngA.val) x1549) : Int) > (0 : Int)))) false])) (alA (al1 (fun h => h rfl)) (al1 (bool_same _))) (cP (fun v L' => ∃ q_ n_ c_ Y_, v = .slice q_ n_ c_ ∧ L' = List.take 1 (bx (γ142 0) (#[.slice q42 n42 c42]) 38 :: (Y42 ++ (Yz42 ++ []))) ++ (Y_ ++ List.drop 1 (bx (γ142 0) (#[.slice q42 n42 c42]) 38 :: (Y42 ++ (Yz42 ++ [])))) ∧ SlO 3 Y_ q_ n_ c_ (memV (bl42.map GngA.val) x1549)) Try.call25 (fun w hw => (members_t q42 n42 c42 bl42 x1549 w (SlO.sub hO42 hw (List.Sublist.cons _ (List.sublist_append_left Y42 _))) hO42.len (by have := hO42.len; have := hf42.1; omega) (GotG.reads hG42 hw (List.Sublist.cons _ (List.Sublist.trans (List.sublist_append_left Yz42 _) (List.sublist_append_right Y42 _)))) hf42.2).mono fun e w' ⟨q_, n_, c_, Y_, he, hO, hb, hY⟩ => ⟨_, _, he, ⟨q_, n_, c_, Y_, rfl, rfl, hO⟩, hw.join hb hY 1⟩) ?_))))
        rintro v1565 L1565 ⟨q1565, n1565, c1565, Y1565, rfl, rfl, hO1565⟩
        refine qo0 1 [] [0, 1, 7, 9, 21, 22, 23, 106, 107, 108, 137, 140] [(141, .slice ((getA bl42 x1549).1) ((getA bl42 x1549).2.1) ((getA bl42 x1549).2.2.1))] (cD (.bool true) Try.call14 (fun w hw => by have := samei_t q1565 n1565 c1565 (memV (bl42.map GngA.val) x1549) (getA bl42 x1549).1 (getA bl42 x1549).2.1 (getA bl42 x1549).2.2.1 (getA bl42 x1549).2.2.2 w (SlO.sub hO1565 hw (List.Sublist.cons _ (List.sublist_append_left Y1565 _))) hO1565.len (by rw [hO1565.len, get_memv q262, ← (get_reads (k := x1549) (GotG.reads hG42 hw (List.Sublist.cons _ (List.Sublist.trans (List.Sublist.trans (List.sublist_append_left Yz42 _) (List.sublist_append_right Y42 _)) (List.sublist_append_right Y1565 _)))) hf42.2).2.1]; exact (get_reads (k := x1549) (GotG.reads hG42 hw (List.Sublist.cons _ (List.Sublist.trans (List.Sublist.trans (List.sublist_append_left Yz42 _) (List.sublist_append_right Y42 _)) (List.sublist_append_right Y1565 _)))) hf42.2).2.2) (get_reads (k := x1549) (GotG.reads hG42 hw (List.Sublist.cons _ (List.Sublist.trans (List.Sublist.trans (List.sublist_append_left Yz42 _) (List.sublist_append_right Y42 _)) (List.sublist_append_right Y1565 _)))) hf42.2).1 (get_reads (k := x1549) (GotG.reads hG42 hw (List.Sublist.cons _ (List.Sublist.trans (List.Sublist.trans (List.sublist_append_left Yz42 _) (List.sublist_append_right Y42 _)) (List.sublist_append_right Y1565 _)))) hf42.2).2.1 (get_reads (k := x1549) (GotG.reads hG42 hw (List.Sublist.cons _ (List.Sublist.trans (List.Sublist.trans (List.sublist_append_left Yz42 _) (List.sublist_append_right Y42 _)) (List.sublist_append_right Y1565 _)))) hf42.2).2.2; rw [decide_eq_true (get_memv q262)] at this; exact this) (qo0 2 [] [0, 1, 7, 9, 21, 22, 23, 106, 107, 108] [(144, .bool false)] (on_ (ds_ (f_ (at_skip (done_block (ds_ (qa [(0, .fit)] [0, 1, 7, 9, 21, 22, 23, 106, 107] [(108, .int .i64 (k + 1 : Nat))] ([Fit .i64 ((k + 1 : Nat))]) (al1 (fit64 (by omega) (by omega))) (Done.drop (L' := bx (γ142 0) (#[.slice q42 n42 c42]) 38 :: (Y42 ++ (Yz42 ++ []))) ?_ (List.Sublist.cons_cons _ (List.sublist_append_right _ _))))))))))))
        exact done_round [0, 1, 7, 9, 21, 22, 23, 106, 107, 108] (k + 1) (by kernel_rfl) rfl (by omega) (by first | omega | (simp only; omega))
      ·
       refine qa [(0, .no)] [0, 1, 7, 9, 21, 22, 23, 106, 107, 108] [(109, .bool false)] ([¬ (((k : Nat) : Int) < ((nk : Nat) : Int))]) (al1 q1544) (ds_ (sq_ (f_ (at_leave _ rfl (done_block (ds_ (qa [(0, .fit)] [0, 1, 21, 22] [(23, .int .i64 (j + 1 : Nat))] ([Fit .i64 ((j + 1 : Nat))]) (al1 (fit64 (by omega) (by omega))) (Done.drop (L' := []) ?_ (List.Sublist.cons _ ((List.sublist_append_right _ _).trans (List.sublist_append_right _ _)))))))))))
       exact done_round [0, 1, 21, 22, 23] (j + 1) (by kernel_rfl) rfl (by omega) (by first | omega | (simp only; omega))
 ·
  refine qa [(0, .no)] [0, 1, 21, 22, 23] [(24, .bool false)] ([¬ (((j : Nat) : Int) < ((n : Nat) : Int))]) (al1 q6) (ds_ (sq_ (f_ (at_leave _ rfl (ds_ (sq_ (qa0 [] [] [(4, .bool true)] (ds_ (rt ([]) (.bool true) ?_)))))))))
  exact fun w' hw => ⟨rfl, hw.below⟩
end Go.Proofs.Ytahccegfahghfaa

/-! The walker: what a row's inputs are: slices and structs, opened into lists. -/
namespace Go.Proofs.Ytahccegfahghfaa
open Go Go.RowKit

section
variable {H : Type} {enc : TypeId × Value → H} {P : Program} {w : World} {base : Nat} {spare : Nat → Bool} {held : Bool}
theorem spot_none {a : Addr} (h : a.spot = none) : a = ⟨a.block, a.off, none⟩ := by
  cases a
  simp at h
  simp [h]
theorem trod_sv {α : Type} [Enc α] {t e : TypeId} {fuel : Nat} {cs : List Value} {x : DataW H × List MemPlace} {Good : α → Prop} (ht : P.underlying t = some (.slice e)) (hc : P.cellsOf e = Enc.k α)
    (hopen : ∀ (fuel : Nat) (cs : List Value) (x : DataW H × List MemPlace), DataW.trod enc P w base spare held fuel e cs = some x → ∃ a : α, cs = Enc.enc a ∧ Good a) (h : DataW.trod enc P w base spare held fuel t cs = some x) :
    ∃ (p : Option Addr) (n cap : Nat) (l : List α), cs = [.slice p n cap] ∧ Sv w p l ∧ n = l.length ∧ n ≤ cap ∧ cap ≤ maxLen ∧ ∀ y ∈ l, Good y := by
  rcases Deep.open_slice ht h with ⟨hcs, _⟩ | ⟨a, len, cap, m, n', D, Pl, hcs, _, hle, hmx, hm, _, hi⟩
  · exact ⟨none, 0, 0, [], hcs, Sv.nil, rfl, Nat.le_refl _, Nat.zero_le _, fun y hy => by cases hy⟩
  · have key : ∀ i, i < len → ∃ y : α, w.cells? base (a.add (i * Enc.k α)) (Enc.k α) = some (Enc.enc y) ∧ Good y := fun i hin => by
      have him : i < m := by rw [hm]; split <;> omega
      obtain ⟨cs', h1, h2⟩ := hi i him
      obtain ⟨y, rfl, hy⟩ := hopen _ _ _ h2
      rw [hc] at h1
      exact ⟨y, h1, hy⟩
    rcases Nat.eq_zero_or_pos len with h0 | h0
    · subst h0
      exact ⟨some a, 0, cap, [], hcs, Sv.nil, rfl, hle, hmx, fun y hy => by cases hy⟩
    · obtain ⟨y0, hy0, _⟩ := key 0 h0
      haveI : Inhabited α := ⟨y0⟩
      obtain ⟨f, hf⟩ := Deep.choose_lt key
      obtain ⟨_, _, hcell⟩ := World.cells?_some hy0
      have h00 := hcell 0 Enc.pos
      have hlen0 : 0 < (Enc.enc y0).length := by rw [Enc.len]; exact Enc.pos
      rw [List.getElem?_eq_getElem hlen0, Nat.zero_mul, show (a.add 0).add 0 = a by simp [Addr.add]] at h00
      have hsp := spot_none (World.cell?_spot h00)
      refine ⟨some a, len, cap, (List.range len).map f, hcs, ⟨fun _ => ⟨a.block, a.off, by rw [← hsp]⟩, fun b o hbo i hil => ?_⟩, by simp, hle, hmx, fun y hy => ?_⟩
      · have hil' : i < len := by simpa using hil
        obtain ⟨_, _, hc2⟩ := World.cells?_some (hf i hil').1
        have ha : a = ⟨b, o, none⟩ := by simpa using hbo
        subst ha
        intro j v hj
        have hjk : j < Enc.k α := by rw [← Enc.len (f i)]; have := (List.getElem?_eq_some_iff.1 hj).1; simpa using this
        have h3 := hc2 j hjk
        rw [Deep.add_add] at h3
        have h4 : (Enc.enc (f i))[j]? = some v := by simpa using hj
        rw [h4] at h3
        have h5 : (⟨b, o, none⟩ : Addr).add (i * Enc.k α + j) = ⟨b, o + i * Enc.k α + j, none⟩ := by
          unfold Addr.add; split <;> simp_all <;> omega
        rw [h5] at h3
        exact h3
      · obtain ⟨i, hir, rfl⟩ := List.mem_map.1 hy
        exact (hf i (List.mem_range.1 hir)).2
theorem trod_int1 {t : TypeId} {fuel : Nat} {cs : List Value} {x : DataW H × List MemPlace} (ht : P.underlying t = some (.int .i64)) (h : DataW.trod enc P w base spare held fuel t cs = some x) : ∃ a : Int, cs = Enc.enc a ∧ True := by
  obtain ⟨a, rfl, _, _⟩ := DataW.trod_int ht h
  exact ⟨a, rfl, trivial⟩
end
end Go.Proofs.Ytahccegfahghfaa

/-! Chapter 14: rows of rows, opened. -/
namespace Go.Proofs.Ytahccegfahghfaa
open Go Go.RowKit Go.ChangeShapes Go.WideShapes

section
variable {H : Type} {enc : TypeId × Value → H} {w : World} {base : Nat} {spare : Nat → Bool} {held : Bool}
theorem cIntT : Try.prog.cellsOf 3 = 1 := by kernel_rfl
theorem cIntsT : Try.prog.cellsOf 25 = 1 := by kernel_rfl
set_option maxRecDepth 100000 in
theorem intsA_open {fuel : Nat} {cs : List Value} {x : DataW H × List MemPlace} (h : DataW.trod enc Try.prog w base spare held fuel 25 cs = some x) : ∃ a : IntsA, cs = Enc.enc a ∧ a.Reads w := by
  obtain ⟨p, m, cap, l, he, hs, hn, hle, hmx, _⟩ := trod_sv (α := Int) (Good := fun _ => True) Try.underlying25 cIntT (fun _ _ _ h => trod_int1 Try.underlying3 h) h
  exact ⟨⟨p, m, cap, l⟩, he, ⟨hs, hn, hle, hmx⟩⟩
end
end Go.Proofs.Ytahccegfahghfaa

/-! Gangs that may be stay so; there and back; plain. -/
namespace Go.Proofs.Ytahccegfahghfaa
open Go Go.RowKit
section
variable {gs t hs : Gs} {k n : Int} {i j : Nat} {l : List Int} {g : Int × List Int} {bl : List GngA} {er idn : Int}
abbrev formL (gs : Gs) (l : List Int) : Gs := gs.take (gapV 0 gs) ++ [(((gapV 0 gs : Nat) : Int) + 1, l)] ++ gs.drop (gapV 0 gs)
end
end Go.Proofs.Ytahccegfahghfaa

/-! Gangs: formed and parted again; who leaves; plain. -/
namespace Go.Proofs.Ytahccegfahghfaa
open Go Go.RowKit
/-- The members of the gang that one is in. -/
def ownV (gs : Gs) (k : Int) : List Int := ((findG gs k).map (·.2)).getD []
section
variable {gs t hs : Gs} {k n : Int} {i j : Nat} {l : List Int} {g a : Int × List Int} {bl : List GngA} {er idn : Int}
section
variable (hg : gangB gs = true) (hin : leaveC gs k = (hs, 0))
include hg hin
end
section
variable (h : (hs, idn, (0 : Int)) = formV gs l)
include h
end
-- rows of members, none twice
end
end Go.Proofs.Ytahccegfahghfaa

/-! What is done to gangs, as elements; plain. -/
namespace Go.Proofs.Ytahccegfahghfaa
open Go Go.RowKit
/-- An op. -/
structure OpG where
  kind : Int
  a : Int
  p : Option Addr
  n : Nat
  cap : Nat
  l : List Int
def OpG.enc (x : OpG) : List Value := [.int .i64 x.kind, .int .i64 x.a, .slice x.p x.n x.cap]
instance : Enc OpG := ⟨OpG.enc, 3, fun _ => rfl, fun x v h => by simp [OpG.enc] at h; rcases h with rfl | rfl | rfl <;> rfl, by decide⟩
def OpG.row (x : OpG) : IntsA := ⟨x.p, x.n, x.cap, x.l⟩
def OpG.Reads (w : World) (x : OpG) : Prop := x.row.Reads w
/-- The rest by six. -/
def kd6 (k : Int) : Int := Int.tmod (IntKind.u64.wrap k) 6
/-- What the layer makes of it: gangs, a number, the error. -/
def runG (gs : Gs) (o : OpG) : Gs × Int × Int :=
  if kd6 o.kind = 0 ∨ kd6 o.kind = 1 ∨ kd6 o.kind = 2 then formV gs (o.l.take 17)
  else if kd6 o.kind = 3 then ((movG gs (partC gs o.a)).1, 0, (movG gs (partC gs o.a)).2)
  else ((movG gs (leaveC gs o.a)).1, 0, (movG gs (leaveC gs o.a)).2)
section
variable {gs hs : Gs} {o : OpG} {idn k er : Int}
end
end Go.Proofs.Ytahccegfahghfaa

/-! Chapter 14: gangs and ops, opened. -/
namespace Go.Proofs.Ytahccegfahghfaa
open Go Go.RowKit Go.ChangeShapes Go.WideShapes
theorem list1V {α : Type} {cs : List α} (h : cs.length = 1) : ∃ a, cs = [a] := by
  match cs, h with
  | [a], _ => exact ⟨a, rfl⟩
theorem list2V {α : Type} {cs : List α} (h : cs.length = 2) : ∃ a b, cs = [a, b] := by
  match cs, h with
  | [a, b], _ => exact ⟨a, b, rfl⟩
section
variable {H : Type} {enc : TypeId × Value → H} {w : World} {base : Nat} {spare : Nat → Bool} {held : Bool}
theorem cGangT : Try.prog.cellsOf 46 = 2 := by kernel_rfl
theorem cGangsT : Try.prog.cellsOf 38 = 1 := by kernel_rfl
theorem cGangRT : Try.prog.cellsOf 36 = 1 := by kernel_rfl
set_option maxRecDepth 100000 in
theorem gng_open {fuel : Nat} {cs : List Value} {x : DataW H × List MemPlace} (h : DataW.trod enc Try.prog w base spare held fuel 46 cs = some x) : ∃ a : GngA, cs = Enc.enc a ∧ a.Reads w := by
  obtain ⟨xs, n, _, rfl, hl, hlen, hf⟩ := DataW.trod_struct Try.underlying46 h
  rw [cGangT] at hl
  obtain ⟨c0, c1, rfl⟩ := list2V hl
  obtain ⟨y0, y1, rfl⟩ := list2V hlen
  have h0 : DataW.trod enc Try.prog w base spare held n 3 (([c0, c1].drop 0).take (Try.prog.cellsOf 3)) = some y0 := hf 0 _ rfl
  have h1 : DataW.trod enc Try.prog w base spare held n 25 (([c0, c1].drop 1).take (Try.prog.cellsOf 25)) = some y1 := hf 1 _ rfl
  clear hf hl hlen h
  rw [cIntT] at h0
  rw [cIntsT] at h1
  simp only [List.drop_zero, List.take_succ_cons, List.take_zero, List.drop_succ_cons] at h0 h1
  obtain ⟨a, ea, _, _⟩ := DataW.trod_int Try.underlying3 h0
  obtain ⟨b, eb, hb⟩ := intsA_open h1
  have eb2 : [c1] = [Value.slice b.p b.n b.cap] := eb
  simp only [List.cons.injEq, and_true] at ea eb2
  subst ea; subst eb2
  exact ⟨⟨a, b.p, b.n, b.cap, b.l⟩, rfl, hb⟩
set_option maxRecDepth 100000 in
theorem gngs_open {fuel : Nat} {cs : List Value} {x : DataW H × List MemPlace} (h : DataW.trod enc Try.prog w base spare held fuel 38 cs = some x) : ∃ a : GngsA, cs = Enc.enc a ∧ a.Reads w := by
  obtain ⟨xs, n, _, rfl, hl, hlen, hf⟩ := DataW.trod_struct Try.underlying38 h
  rw [cGangsT] at hl
  obtain ⟨c0, rfl⟩ := list1V hl
  obtain ⟨y0, rfl⟩ := list1V hlen
  have h0 : DataW.trod enc Try.prog w base spare held n 36 (([c0].drop 0).take (Try.prog.cellsOf 36)) = some y0 := hf 0 _ rfl
  clear hf hl hlen h
  rw [cGangRT] at h0
  simp only [List.drop_zero, List.take_succ_cons, List.take_zero] at h0
  obtain ⟨p, m, cap, l, he, hs, hn, hle, hmx, hg⟩ := trod_sv (α := GngA) Try.underlying36 cGangT (fun _ _ _ h => gng_open h) h0
  simp only [List.cons.injEq, and_true] at he
  subst he
  exact ⟨⟨p, m, cap, l⟩, rfl, ⟨hs, hn, hle, hmx, hg⟩⟩
set_option maxRecDepth 100000 in
theorem gngss_open {v : Value} {d : DataW H} {pl : List MemPlace} (hv : Value.okWide Try.prog w .any base 35 v) (h : DataW.Trod enc Try.prog w 0 spare held 35 v d pl) :
    ∃ (q : Option Addr) (m cap : Nat) (l : List GngsA), v = .slice q m cap ∧ Sv w q l ∧ m = l.length ∧ m ≤ cap ∧ cap ≤ 9223372036854775807 ∧ ∀ x ∈ l, x.Reads w := by
  obtain ⟨a, n, c, rfl⟩ := okWide_slice Try.underlying35 hv
  obtain ⟨fuel, hf⟩ := h
  obtain ⟨p, m, cap, l, he, hs, hn, hle, hmx, hg⟩ := trod_sv (α := GngsA) Try.underlying35 cGangsT (fun _ _ _ h => gngs_open h) hf
  have : a = p ∧ n = m ∧ c = cap := by simpa [Value.cells] using he
  obtain ⟨rfl, rfl, rfl⟩ := this
  exact ⟨a, n, c, l, rfl, hs, hn, hle, hmx, hg⟩
set_option maxRecDepth 100000 in
theorem ints_open14 {v : Value} {d : DataW H} {pl : List MemPlace} (hv : Value.okWide Try.prog w .any base 25 v) (h : DataW.Trod enc Try.prog w 0 spare held 25 v d pl) :
    ∃ (q : Option Addr) (m cap : Nat) (l : List Int), v = .slice q m cap ∧ Sv w q l ∧ m = l.length ∧ m ≤ cap ∧ cap ≤ 9223372036854775807 := by
  obtain ⟨a, n, c, rfl⟩ := okWide_slice Try.underlying25 hv
  obtain ⟨fuel, hf⟩ := h
  obtain ⟨b, eb, hb⟩ := intsA_open hf
  have : a = b.p ∧ n = b.n ∧ c = b.cap := by
    have eb2 : (Value.slice a n c).cells.toList = [Value.slice b.p b.n b.cap] := eb
    simpa [Value.cells] using eb2
  obtain ⟨rfl, rfl, rfl⟩ := this
  exact ⟨b.p, b.n, b.cap, b.l, rfl, hb.sv, hb.hn, hb.hc, hb.hb⟩
end
end Go.Proofs.Ytahccegfahghfaa
