/- Texts of this proof, one behind the other. -/
import Derived.Test.YtahccegfahghfaaZb
import Derived.Test.YtahccegfahghfaaZa
import Derived.ProofKit
import Derived.Carry
import Derived.Deep.Slices
import Derived.Lib.SmallJoins
import Derived.Test.YtahccegfahghfaaProg
/-! Gangs: what Form does to a copy. -/
namespace Go.Proofs.Ytahccegfahghfaa
open Go Go.RowKit
theorem form_perm {w0 w : World} {a b c : Ob} {Y Yi Yc Yq YR : List Ob} (hp : (Yi ++ Yc).Perm Yq) (h : Hs w0 (a :: b :: c :: (Y ++ (Yi ++ (Yc ++ YR)))) w) : Hs w0 (a :: b :: c :: (Y ++ (Yq ++ YR))) w := by
 refine h.perm (.cons _ (.cons _ (.cons _ (List.Perm.append_left _ ?_))))
 rw [← List.append_assoc]
 exact hp.append_right _

set_option maxRecDepth 100000 in
theorem form1_t (w0 : World) (Y Yi YR : List Ob) (gb gm gi : Nat) (q : Option Addr) (m capq : Nat) (bl : List GngA) (p : Option Addr) (n cap : Nat) (l : List Int) (w : World)
 (hsl : Sv w0 p l) (hn : n = l.length) (hb : n ≤ 1000) (hbm : m ≤ 1000) (hO : SlO 46 Y q m capq bl) (hG : GotG 3 Yi bl) (hgd : gangB (bl.map GngA.val) = true) (hH : Hs w0 (bx gb #[.slice q m capq] 38 :: bx gm #[.slice p n cap] 25 :: bx gi #[.int .i64 0] 3 :: (Y ++ (Yi ++ YR))) w)
 : Calls Try.prog 51 #[.pointer (some ⟨gb, 0, none⟩), .pointer (some ⟨gm, 0, none⟩), .pointer (some ⟨gi, 0, none⟩)] w fun e w' => ∃ er q2 n2 c2 Y2 Yi2 bl2 idn, e = .returned (.int .i64 er) ∧ (bl2.map GngA.val, idn, er) = formC (bl.map GngA.val) l ∧ SlO 46 Y2 q2 n2 c2 bl2 ∧ GotG 3 Yi2 bl2 ∧ Hs w0 (bx gb #[.slice q2 n2 c2] 38 :: bx gm #[.slice p n cap] 25 :: bx gi #[.int .i64 idn] 3 :: (Y2 ++ (Yi2 ++ YR))) w' := by
 have hma := hO.len
 have hm9 := got_small hG hgd
 rw [show YR = YR ++ [] from (List.append_nil _).symm] at hH
 refine enter hH Try.func51 rfl Try.ntmps51 rfl (sq_ (ma0 [] [1, 2] (fun γ1 => [(3, .pointer (some ⟨γ1 0, 0, none⟩))]) (fun γ1 L => bx (γ1 0) (#[.pointer (some ⟨gb, 0, none⟩)]) 72 :: L) (fun γ1 => ds_ (sq_ (sq_ (ao_ (qo0 1 [(0, .go (owns 2 0 1))] [1, 2, 3] [(6, .slice p n cap)] ?_)))))))
 rcases q3 : mayB l with _ | _
 ·
  refine cD (.bool false) Try.call41 (fun w hw => by have := may_t p n cap l w (hsl.kept hw.below) hn (by omega); rw [q3] at this; exact this) (qo0 1 [] [1, 2, 3] [(8, .bool true)] (on_ (ds_ (t_ (sq_ (qa0 [] [] [(4, .int .i64 2)] (ds_ (rt ([]) (.int .i64 2) ?_))))))))
  exact fun w' hw => ⟨_, _, _, _, _, _, bl, 0, rfl, (fc_arg q3).symm, hO, hG, (by have := Hs.pick [[bx (γ1 0) (#[.pointer (some ⟨gb, 0, none⟩)]) 72], [bx gb (#[.slice q m capq]) 38], [bx gm (#[.slice p n cap]) 25], [bx gi (#[.int .i64 0]) 3], Y, Yi, YR] [1, 2, 3, 4, 5, 6] [0] (by kernel_rfl) hw; simpa [chunk] using this)⟩
 ·
  refine cD (.bool true) Try.call41 (fun w hw => by have := may_t p n cap l w (hsl.kept hw.below) hn (by omega); rw [q3] at this; exact this) (qo0 1 [] [1, 2, 3] [(8, .bool false)] (on_ (ds_ (f_ (at_skip (ds_ (sq_ (sq_ (ao_ (qo0 2 [(0, .go (owns 2 0 1))] [1, 2, 3] [(9, .slice p n cap), (10, .func (.func 53) #[] #[.pointer (some ⟨γ1 0, 0, none⟩)])] ?_))))))))))
  rcases q8 : l.any (inG bl) with _ | _
  ·
   refine cD (.bool false) Try.call52 (fun w hw => by have := containsf_t _ (bx (γ1 0) (#[.pointer (some ⟨gb, 0, none⟩)]) 72 :: bx gb (#[.slice q m capq]) 38 :: bx gm (#[.slice p n cap]) 25 :: bx gi (#[.int .i64 0]) 3 :: (Y ++ (Yi ++ (YR ++ [])))) 53 #[.pointer (some ⟨γ1 0, 0, none⟩)] (inG bl) p n cap l w (fun args w => Try.call53 args w) hw (hsl.kept hw.below) hn (by omega) (fun x hx w' hX => form11_t q m capq bl (γ1 0) gb x w' (SlO.sub hO hX (List.Sublist.cons _ (List.Sublist.cons _ (List.Sublist.cons _ (List.Sublist.cons _ (List.sublist_append_left Y _)))))) hma (by omega) (GotG.reads hG hX (List.Sublist.cons _ (List.Sublist.cons _ (List.Sublist.cons _ (List.Sublist.cons _ (List.Sublist.trans (List.sublist_append_left Yi _) (List.sublist_append_right Y _))))))) hm9 (rd_one14 (hX.row 0 rfl)) (rd_one14 (hX.row 1 rfl))); rw [q8] at this; exact this) (on_ (ds_ (f_ (at_skip (ds_ (sq_ (qa0 [] [1, 2, 3] [(5, .int .i64 0)] (ds_ (sq_ (at_block (at_loop (α := Nat) [1, 2, 3, 5] (fun j => [(1, .pointer (some ⟨gm, 0, none⟩)), (2, .pointer (some ⟨gi, 0, none⟩)), (3, .pointer (some ⟨γ1 0, 0, none⟩)), (5, .int .i64 (j : Nat))]) (fun j => bx (γ1 0) (#[.pointer (some ⟨gb, 0, none⟩)]) 72 :: bx gb (#[.slice q m capq]) 38 :: bx gm (#[.slice p n cap]) 25 :: bx gi (#[.int .i64 0]) 3 :: (Y ++ (Yi ++ (YR ++ [])))) (fun j => j ≤ m ∧ gapV j ((bl.map GngA.val).drop j) = gapV 0 (bl.map GngA.val)) (fun j => m - j) 0 (by kernel_rfl) rfl ⟨Nat.zero_le _, rfl⟩ ?_)))))))))))
   rintro j
   rintro ⟨hj, hI⟩
   refine sq_ (sq_ ?_)
   by_cases q12 : ((j : Nat) : Int) < ((m : Nat) : Int)
   ·
    have hln14 := hO.len
    obtain ⟨g14, cs14, rfl, rfl, hOw14⟩ := hO.rowOf (i := j) (by omega)
    refine ao_ (qo 14 [(1, .go (owns 0 0 1)), (4, .go (owns 1 0 1)), (6, .yes), (8, .go (owns 0 0 1)), (11, .go (owns 1 0 1)), (13, .at g14 0 j)] [1, 2, 3, 5] [(19, .bool true), (25, .pointer (some ⟨g14, 0 + j * 2, none⟩))] ([((j : Nat) : Int) < ((m : Nat) : Int)] ++ ([(some ⟨g14, 0, none⟩ : Option Addr) = some ⟨g14, 0, none⟩, (j : Nat) = ((j : Nat) : Int), j < m])) (alA (al1 q12) (al2 rfl (al2 rfl (al1 (by omega))))) ?_)
    obtain ⟨x17, hx17⟩ := get_some (l := bl) (m := j) (by omega)
    by_cases q19 : (x17.id : Int) = ((j + 1 : Nat) : Int)
    ·
     refine qo 6 [(15, .go (ownps 4 (0 + j * 2) [.int .i64 x17.id])), (17, .fit), (18, .yes)] [1, 2, 3, 5] [(31, .bool true)] (acellsP cs14 (0 + j * 2) [.int .i64 x17.id] ++ ([Fit .i64 ((j + 1 : Nat))] ++ ([(x17.id : Int) = ((j + 1 : Nat) : Int)]))) (alA (rda_pre (hOw14.rdx hO.len hx17) _ rfl) (alA (al1 (fit64 (by omega) (by omega))) (al1 q19))) (on_ (ds_ (t_ (at_skip (ds_ (at_block (qa [(1, .fit)] [1, 2, 3] [(5, .int .i64 (j + 1 : Nat))] ([Fit .i64 ((j + 1 : Nat))]) (al1 (fit64 (by omega) (by omega))) (done_block ?_))))))))
     exact dr [1, 2, 3, 5] (j + 1) ⟨by omega, by rw [drop_atG (val_at hx17), gap_on (show x17.id = _ by omega)] at hI; exact hI⟩
    ·
     refine qo 6 [(15, .go (ownps 4 (0 + j * 2) [.int .i64 x17.id])), (17, .fit), (18, .no)] [1, 2, 3, 5] [(31, .bool false)] (acellsP cs14 (0 + j * 2) [.int .i64 x17.id] ++ ([Fit .i64 ((j + 1 : Nat))] ++ ([¬ ((x17.id : Int) = ((j + 1 : Nat) : Int))]))) (alA (rda_pre (hOw14.rdx hO.len hx17) _ rfl) (alA (al1 (fit64 (by omega) (by omega))) (al1 q19))) (on_ (ds_ (f_ (at_leave _ rfl (ds_ (sq_ (sq_ ?_)))))))
     rw [drop_atG (val_at hx17), gap_no (show ¬ x17.id = _ by omega)] at hI
     refine At.pick [[bx (γ1 0) (#[.pointer (some ⟨gb, 0, none⟩)]) 72], [bx gb (#[.slice (some ⟨g14, 0, none⟩) m capq]) 38], [bx gm (#[.slice p n cap]) 25], [bx gi (#[.int .i64 0]) 3], [bx g14 cs14 46], Yi, YR] [0, 1, 2, 3, 4, 5, 6] [] (bx (γ1 0) (#[.pointer (some ⟨gb, 0, none⟩)]) 72 :: bx gb (#[.slice (some ⟨g14, 0, none⟩) m capq]) 38 :: bx gm (#[.slice p n cap]) 25 :: bx gi (#[.int .i64 0]) 3 :: ([bx g14 cs14 46] ++ (Yi ++ (YR ++ [])))) (by kernel_rfl) rfl rfl ?_
     by_cases q24 : ((j : Nat) : Int) = (8 : Int)
     ·
      refine qa [(1, .yes)] [1, 2, 3, 5] [(35, .bool true)] ([((j : Nat) : Int) = (8 : Int)]) (al1 q24) (ds_ (t_ (sq_ (qa0 [] [] [(4, .int .i64 6)] (ds_ (rt ([]) (.int .i64 6) ?_))))))
      exact fun w' hw => ⟨_, _, _, _, _, _, bl, 0, rfl, by rw [inG_val] at q8; exact (fc_full q3 q8 hI (by omega)).symm, hO, hG, (by have := Hs.pick [[bx (γ1 0) (#[.pointer (some ⟨gb, 0, none⟩)]) 72], [bx gb (#[.slice (some ⟨g14, 0, none⟩) m capq]) 38], [bx gm (#[.slice p n cap]) 25], [bx gi (#[.int .i64 0]) 3], [bx g14 cs14 46], Yi, YR] [1, 2, 3, 4, 5, 6] [0] (by kernel_rfl) hw; simpa [chunk] using this)⟩
     ·
      refine qa [(1, .no)] [1, 2, 3, 5] [(35, .bool false)] ([¬ (((j : Nat) : Int) = (8 : Int))]) (al1 q24) (ds_ (f_ (at_skip (ds_ (sq_ (ma [(1, .fit), (2, .go (owns 3 0 1))] [1, 2, 3, 5] (fun _ => []) (fun _ L => (L.set 3 (bx gi (#[.int .i64 (j + 1 : Nat)]) 3))) (fun _ => [Fit .i64 ((j + 1 : Nat))]) (fun _ => (al1 (fit64 (by omega) (by omega)))) (fun _ => ds_ (sq_ ?_))))))))
      refine at_any (by kernel_rfl) ?_
      refine tk (m := 14) [5] [] [1, 2, 3] [(43, .int .i64 (j : Nat))] ([]) #[false, false, false, false, false, true, false, false, false, false, false, false, false, false, false] al0 ?_
      refine any_cutX (V := (List Ob) × (List Ob) × (Nat) × (Nat) × (Option Addr) × (Option Addr) × (Nat → Nat)) (fun ⟨Y192, Y252, cq192, cq252, q192, q252, γ232⟩ => SlO 3 Y192 q192 n cq192 l ∧ SlO 46 Y252 q252 (m + 1) cq252 (bl.take j ++ [(⟨(j + 1 : Nat), q192, n, cq192, l⟩ : GngA)] ++ bl.drop j)) 0 #[true, true, true, true, true, true, true, true, true, true, true, true, true, true, true] (fun ⟨Y192, Y252, cq192, cq252, q192, q252, γ232⟩ => []) (fun ⟨Y192, Y252, cq192, cq252, q192, q252, γ232⟩ => bx (γ1 0) (#[.pointer (some ⟨gb, 0, none⟩)]) 72 :: bx gb (#[.slice q252 (m + 1) cq252]) 38 :: bx gm (#[.slice p n cap]) 25 :: bx gi (#[.int .i64 (j + 1 : Nat)]) 3 :: (Y192 ++ (Y252 ++ (Yi ++ (YR ++ []))))) ?_ (fun hmx44 => ?_)
      rotate_left
      ·
       refine any_cutX (V := (List Ob) × (List Ob) × (Nat) × (Nat) × (Option Addr) × (Option Addr) × (Nat → Nat)) (fun ⟨Y192, Y252, cq192, cq252, q192, q252, γ232⟩ => SlO 3 Y192 q192 n cq192 l ∧ SlO 46 Y252 q252 (m + 1) cq252 (bl.take j ++ [(⟨(j + 1 : Nat), q192, n, cq192, l⟩ : GngA)] ++ bl.drop j)) 1 #[true, true, true, true, true, true, true, true, true, true, true, true, true, true, false] (fun ⟨Y192, Y252, cq192, cq252, q192, q252, γ232⟩ => [(49, .slice q252 (m + 1) cq252), (51, .pointer (some ⟨gb, 0, none⟩))]) (fun ⟨Y192, Y252, cq192, cq252, q192, q252, γ232⟩ => bx (γ1 0) (#[.pointer (some ⟨gb, 0, none⟩)]) 72 :: bx gb (#[.slice (some ⟨g14, 0, none⟩) m capq]) 38 :: bx gm (#[.slice p n cap]) 25 :: bx gi (#[.int .i64 (j + 1 : Nat)]) 3 :: (Y192 ++ (Y252 ++ (Yi ++ (YR ++ []))))) ?_ (fun hmx43 => ?_)
       ·
        rintro ⟨Y192, Y252, cq192, cq252, q192, q252, γ232⟩ ⟨hO192, hO252⟩
        refine a1 14 rfl ?_
        refine mo0 1 [(14, .go (owns 1 0 1))] [] (fun _ => []) (fun _ L => (L.set 1 (bx gb (#[.slice q252 (m + 1) cq252]) 38))) (fun _ => ?_)
        refine od_ ?_
        exact wk (hmx44 (Y192, Y252, cq192, cq252, q192, q252, γ232) ⟨hO192, hO252⟩) [] [[_], [_], [_], [_], _, _, _, _] [0, 1, 2, 3, 4, 5, 6, 7] rfl rfl
       refine any_cutX (V := (List Ob) × (List Ob) × (Nat) × (Nat) × (Option Addr) × (Option Addr) × (Nat → Nat)) (fun ⟨Y192, Y252, cq192, cq252, q192, q252, γ232⟩ => SlO 3 Y192 q192 n cq192 l ∧ SlO 46 Y252 q252 (m + 1) cq252 (bl.take j ++ [(⟨(j + 1 : Nat), q192, n, cq192, l⟩ : GngA)] ++ bl.drop j)) 4 #[false, true, true, true, true, true, true, true, true, true, true, true, false, false, false] (fun ⟨Y192, Y252, cq192, cq252, q192, q252, γ232⟩ => [(3, .pointer (some ⟨γ1 0, 0, none⟩)), (49, .slice q252 (m + 1) cq252)]) (fun ⟨Y192, Y252, cq192, cq252, q192, q252, γ232⟩ => bx (γ1 0) (#[.pointer (some ⟨gb, 0, none⟩)]) 72 :: bx gb (#[.slice (some ⟨g14, 0, none⟩) m capq]) 38 :: bx gm (#[.slice p n cap]) 25 :: bx gi (#[.int .i64 (j + 1 : Nat)]) 3 :: (Y192 ++ (Y252 ++ (Yi ++ (YR ++ []))))) ?_ (fun hmx42 => ?_)
       ·
        rintro ⟨Y192, Y252, cq192, cq252, q192, q252, γ232⟩ ⟨hO192, hO252⟩
        refine a1 0 rfl ?_
        refine qo0 1 [(0, .go (owns 0 0 1))] [49] [(38, .pointer (some ⟨gb, 0, none⟩))] ?_
        refine od_ ?_
        refine tk (m := 1) [12, 13] [] [49] [(51, .pointer (some ⟨gb, 0, none⟩))] ([]) #[true, true, true, true, true, true, true, true, true, true, true, true, true, true, false] al0 ?_
        exact wk (hmx43 (Y192, Y252, cq192, cq252, q192, q252, γ232) ⟨hO192, hO252⟩) [49, 51] [[_], [_], [_], [_], _, _, _, _] [0, 1, 2, 3, 4, 5, 6, 7] rfl rfl
       refine any_cutX (V := (List Ob) × (Nat) × (Option Addr) × (Nat → Nat)) (fun ⟨Y192, cq192, q192, γ232⟩ => SlO 3 Y192 q192 n cq192 l) 4 #[true, true, true, true, true, true, true, true, true, true, true, false, false, false, false] (fun ⟨Y192, cq192, q192, γ232⟩ => [(38, .pointer (some ⟨gb, 0, none⟩)), (42, .slice (some ⟨g14, 0, none⟩) m capq), (43, .int .i64 (j : Nat)), (48, .slice (some ⟨γ232 0, 0, none⟩) 1 1)]) (fun ⟨Y192, cq192, q192, γ232⟩ => bx (γ232 0) (#[.int .i64 (j + 1 : Nat), .slice q192 n cq192]) 46 :: bx (γ1 0) (#[.pointer (some ⟨gb, 0, none⟩)]) 72 :: bx gb (#[.slice (some ⟨g14, 0, none⟩) m capq]) 38 :: bx gm (#[.slice p n cap]) 25 :: bx gi (#[.int .i64 (j + 1 : Nat)]) 3 :: (Y192 ++ ([bx g14 cs14 46] ++ (Yi ++ (YR ++ []))))) ?_ (fun hmx41 => ?_)
       ·
        rintro ⟨Y192, cq192, q192, γ232⟩ hO192
        refine a1 11 rfl ?_
        refine Ops.pick [[bx (γ232 0) (#[.int .i64 (j + 1 : Nat), .slice q192 n cq192]) 46], [bx (γ1 0) (#[.pointer (some ⟨gb, 0, none⟩)]) 72], [bx gb (#[.slice (some ⟨g14, 0, none⟩) m capq]) 38], [bx gm (#[.slice p n cap]) 25], [bx gi (#[.int .i64 (j + 1 : Nat)]) 3], Y192, [bx g14 cs14 46], Yi, YR] [0, 1, 2, 3, 4, 6, 5, 7, 8] [] (bx (γ232 0) (#[.int .i64 (j + 1 : Nat), .slice q192 n cq192]) 46 :: bx (γ1 0) (#[.pointer (some ⟨gb, 0, none⟩)]) 72 :: bx gb (#[.slice (some ⟨g14, 0, none⟩) m capq]) 38 :: bx gm (#[.slice p n cap]) 25 :: bx gi (#[.int .i64 (j + 1 : Nat)]) 3 :: ([bx g14 cs14 46] ++ (Y192 ++ (Yi ++ (YR ++ []))))) (by kernel_rfl) rfl rfl (cP (fun v L' => ∃ q_ capq_ Y_, v = .slice q_ (m + 1) capq_ ∧ L' = [bx (γ1 0) (#[.pointer (some ⟨gb, 0, none⟩)]) 72, bx gb (#[.slice (some ⟨g14, 0, none⟩) m capq]) 38, bx gm (#[.slice p n cap]) 25, bx gi (#[.int .i64 (j + 1 : Nat)]) 3] ++ (Y_ ++ (Y192 ++ (Yi ++ (YR ++ [])))) ∧ SlO 46 Y_ q_ (m + 1) capq_ (bl.take j ++ [(⟨(j + 1 : Nat), q192, n, cq192, l⟩ : GngA)] ++ bl.drop j)) Try.call54 (fun w hw => (ginsert_t _ ([bx (γ1 0) (#[.pointer (some ⟨gb, 0, none⟩)]) 72, bx gb (#[.slice (some ⟨g14, 0, none⟩) m capq]) 38, bx gm (#[.slice p n cap]) 25, bx gi (#[.int .i64 (j + 1 : Nat)]) 3] ++ (Y192 ++ (Yi ++ (YR ++ [])))) [bx g14 cs14 46] (some ⟨g14, 0, none⟩) m capq bl j (γ232 0) (#[.int .i64 (j + 1 : Nat), .slice q192 n cq192]) 1 ([(⟨(j + 1 : Nat), q192, n, cq192, l⟩ : GngA)]) w (hw.pull (A := [bx (γ1 0) (#[.pointer (some ⟨gb, 0, none⟩)]) 72, bx gb (#[.slice (some ⟨g14, 0, none⟩) m capq]) 38, bx gm (#[.slice p n cap]) 25, bx gi (#[.int .i64 (j + 1 : Nat)]) 3]) (Y := [bx g14 cs14 46]) (R := (Y192 ++ (Yi ++ (YR ++ []))))) hO (by rfl) (by rfl) (by omega) (by omega) (by omega) (by omega)).mono fun e w' ⟨q_, capq_, Y_, he, hO, hY⟩ => ⟨_, _, he, ⟨q_, capq_, Y_, rfl, rfl, hO⟩, hY.push⟩) ?_)
        rintro v252 L252 ⟨q252, cq252, Y252, rfl, rfl, hO252⟩
        refine od_ ?_
        refine tk (m := 1) [12, 13] [] [49] [(51, .pointer (some ⟨gb, 0, none⟩))] ([]) #[true, true, true, true, true, true, true, true, true, true, true, true, true, true, false] al0 ?_
        exact wk (hmx43 (Y192, Y252, cq192, cq252, q192, q252, γ232) ⟨hO192, hO252⟩) [49, 51] [[_], [_], [_], [_], _, _, _, _] [0, 1, 2, 3, 5, 4, 6, 7] rfl rfl
       refine any_cutX (V := (List Ob) × (Nat) × (Option Addr) × (Nat → Nat)) (fun ⟨Y192, cq192, q192, γ232⟩ => SlO 3 Y192 q192 n cq192 l) 5 #[false, true, true, true, true, true, true, true, true, true, true, false, false, false, false] (fun ⟨Y192, cq192, q192, γ232⟩ => [(3, .pointer (some ⟨γ1 0, 0, none⟩)), (42, .slice (some ⟨g14, 0, none⟩) m capq), (43, .int .i64 (j : Nat)), (48, .slice (some ⟨γ232 0, 0, none⟩) 1 1)]) (fun ⟨Y192, cq192, q192, γ232⟩ => bx (γ232 0) (#[.int .i64 (j + 1 : Nat), .slice q192 n cq192]) 46 :: bx (γ1 0) (#[.pointer (some ⟨gb, 0, none⟩)]) 72 :: bx gb (#[.slice (some ⟨g14, 0, none⟩) m capq]) 38 :: bx gm (#[.slice p n cap]) 25 :: bx gi (#[.int .i64 (j + 1 : Nat)]) 3 :: (Y192 ++ ([bx g14 cs14 46] ++ (Yi ++ (YR ++ []))))) ?_ (fun hmx40 => ?_)
       ·
        rintro ⟨Y192, cq192, q192, γ232⟩ hO192
        refine any_fork [0, 11] (by kernel_rfl) (by simp) (each_cons _ rfl ?_ (each_cons _ rfl ?_ (each_nil)))
        ·
         refine qo0 1 [(0, .go (owns 1 0 1))] [42, 43, 48] [(38, .pointer (some ⟨gb, 0, none⟩))] ?_
         refine od_ ?_
         exact wk (hmx41 (Y192, cq192, q192, γ232) hO192) [38, 42, 43, 48] [[_], [_], [_], [_], [_], _, [bx g14 cs14 46], _, _] [0, 1, 2, 3, 4, 5, 6, 7, 8] rfl rfl
        ·
         refine Ops.pick [[bx (γ232 0) (#[.int .i64 (j + 1 : Nat), .slice q192 n cq192]) 46], [bx (γ1 0) (#[.pointer (some ⟨gb, 0, none⟩)]) 72], [bx gb (#[.slice (some ⟨g14, 0, none⟩) m capq]) 38], [bx gm (#[.slice p n cap]) 25], [bx gi (#[.int .i64 (j + 1 : Nat)]) 3], Y192, [bx g14 cs14 46], Yi, YR] [0, 1, 2, 3, 4, 6, 5, 7, 8] [] (bx (γ232 0) (#[.int .i64 (j + 1 : Nat), .slice q192 n cq192]) 46 :: bx (γ1 0) (#[.pointer (some ⟨gb, 0, none⟩)]) 72 :: bx gb (#[.slice (some ⟨g14, 0, none⟩) m capq]) 38 :: bx gm (#[.slice p n cap]) 25 :: bx gi (#[.int .i64 (j + 1 : Nat)]) 3 :: ([bx g14 cs14 46] ++ (Y192 ++ (Yi ++ (YR ++ []))))) (by kernel_rfl) rfl rfl (cP (fun v L' => ∃ q_ capq_ Y_, v = .slice q_ (m + 1) capq_ ∧ L' = [bx (γ1 0) (#[.pointer (some ⟨gb, 0, none⟩)]) 72, bx gb (#[.slice (some ⟨g14, 0, none⟩) m capq]) 38, bx gm (#[.slice p n cap]) 25, bx gi (#[.int .i64 (j + 1 : Nat)]) 3] ++ (Y_ ++ (Y192 ++ (Yi ++ (YR ++ [])))) ∧ SlO 46 Y_ q_ (m + 1) capq_ (bl.take j ++ [(⟨(j + 1 : Nat), q192, n, cq192, l⟩ : GngA)] ++ bl.drop j)) Try.call54 (fun w hw => (ginsert_t _ ([bx (γ1 0) (#[.pointer (some ⟨gb, 0, none⟩)]) 72, bx gb (#[.slice (some ⟨g14, 0, none⟩) m capq]) 38, bx gm (#[.slice p n cap]) 25, bx gi (#[.int .i64 (j + 1 : Nat)]) 3] ++ (Y192 ++ (Yi ++ (YR ++ [])))) [bx g14 cs14 46] (some ⟨g14, 0, none⟩) m capq bl j (γ232 0) (#[.int .i64 (j + 1 : Nat), .slice q192 n cq192]) 1 ([(⟨(j + 1 : Nat), q192, n, cq192, l⟩ : GngA)]) w (hw.pull (A := [bx (γ1 0) (#[.pointer (some ⟨gb, 0, none⟩)]) 72, bx gb (#[.slice (some ⟨g14, 0, none⟩) m capq]) 38, bx gm (#[.slice p n cap]) 25, bx gi (#[.int .i64 (j + 1 : Nat)]) 3]) (Y := [bx g14 cs14 46]) (R := (Y192 ++ (Yi ++ (YR ++ []))))) hO (by rfl) (by rfl) (by omega) (by omega) (by omega) (by omega)).mono fun e w' ⟨q_, capq_, Y_, he, hO, hY⟩ => ⟨_, _, he, ⟨q_, capq_, Y_, rfl, rfl, hO⟩, hY.push⟩) ?_)
         rintro v252 L252 ⟨q252, cq252, Y252, rfl, rfl, hO252⟩
         refine od_ ?_
         exact wk (hmx42 (Y192, Y252, cq192, cq252, q192, q252, γ232) ⟨hO192, hO252⟩) [3, 49] [[_], [_], [_], [_], _, _, _, _] [0, 1, 2, 3, 5, 4, 6, 7] rfl rfl
       refine any_cutX (V := (List Ob) × (Nat) × (Option Addr)) (fun ⟨Y192, cq192, q192⟩ => SlO 3 Y192 q192 n cq192 l) 5 #[true, true, true, true, true, true, true, true, true, true, false, false, false, false, false] (fun ⟨Y192, cq192, q192⟩ => [(38, .pointer (some ⟨gb, 0, none⟩)), (42, .slice (some ⟨g14, 0, none⟩) m capq), (43, .int .i64 (j : Nat)), (47, .agg #[.int .i64 (j + 1 : Nat), .slice q192 n cq192])]) (fun ⟨Y192, cq192, q192⟩ => bx (γ1 0) (#[.pointer (some ⟨gb, 0, none⟩)]) 72 :: bx gb (#[.slice (some ⟨g14, 0, none⟩) m capq]) 38 :: bx gm (#[.slice p n cap]) 25 :: bx gi (#[.int .i64 (j + 1 : Nat)]) 3 :: (Y192 ++ ([bx g14 cs14 46] ++ (Yi ++ (YR ++ []))))) ?_ (fun hmx39 => ?_)
       ·
        rintro ⟨Y192, cq192, q192⟩ hO192
        refine a1 10 rfl ?_
        refine mo0 1 [] [38, 42, 43] (fun γ232 => [(48, .slice (some ⟨γ232 0, 0, none⟩) 1 1)]) (fun γ232 L => bx (γ232 0) (#[.int .i64 (j + 1 : Nat), .slice q192 n cq192]) 46 :: L) (fun γ232 => ?_)
        refine od_ ?_
        exact wk (hmx41 (Y192, cq192, q192, γ232) hO192) [38, 42, 43, 48] [[_], [_], [_], [_], [_], _, [bx g14 cs14 46], _, _] [0, 1, 2, 3, 4, 5, 6, 7, 8] rfl rfl
       refine any_cutX (V := (List Ob) × (Nat) × (Option Addr) × (Nat → Nat)) (fun ⟨Y192, cq192, q192, γ232⟩ => SlO 3 Y192 q192 n cq192 l) 5 #[true, true, true, true, false, true, true, true, true, true, true, false, false, false, false] (fun ⟨Y192, cq192, q192, γ232⟩ => [(38, .pointer (some ⟨gb, 0, none⟩)), (41, .pointer (some ⟨gb, 0, none⟩)), (43, .int .i64 (j : Nat)), (48, .slice (some ⟨γ232 0, 0, none⟩) 1 1)]) (fun ⟨Y192, cq192, q192, γ232⟩ => bx (γ232 0) (#[.int .i64 (j + 1 : Nat), .slice q192 n cq192]) 46 :: bx (γ1 0) (#[.pointer (some ⟨gb, 0, none⟩)]) 72 :: bx gb (#[.slice (some ⟨g14, 0, none⟩) m capq]) 38 :: bx gm (#[.slice p n cap]) 25 :: bx gi (#[.int .i64 (j + 1 : Nat)]) 3 :: (Y192 ++ ([bx g14 cs14 46] ++ (Yi ++ (YR ++ []))))) ?_ (fun hmx38 => ?_)
       ·
        rintro ⟨Y192, cq192, q192, γ232⟩ hO192
        refine a1 4 rfl ?_
        refine qo0 1 [(4, .go (owns 2 0 1))] [38, 43, 48] [(42, .slice (some ⟨g14, 0, none⟩) m capq)] ?_
        refine od_ ?_
        exact wk (hmx41 (Y192, cq192, q192, γ232) hO192) [38, 42, 43, 48] [[_], [_], [_], [_], [_], _, [bx g14 cs14 46], _, _] [0, 1, 2, 3, 4, 5, 6, 7, 8] rfl rfl
       refine any_cutX (V := (List Ob) × (Nat) × (Option Addr)) (fun ⟨Y192, cq192, q192⟩ => SlO 3 Y192 q192 n cq192 l) 6 #[false, true, true, true, true, true, true, true, true, true, false, false, false, false, false] (fun ⟨Y192, cq192, q192⟩ => [(3, .pointer (some ⟨γ1 0, 0, none⟩)), (42, .slice (some ⟨g14, 0, none⟩) m capq), (43, .int .i64 (j : Nat)), (47, .agg #[.int .i64 (j + 1 : Nat), .slice q192 n cq192])]) (fun ⟨Y192, cq192, q192⟩ => bx (γ1 0) (#[.pointer (some ⟨gb, 0, none⟩)]) 72 :: bx gb (#[.slice (some ⟨g14, 0, none⟩) m capq]) 38 :: bx gm (#[.slice p n cap]) 25 :: bx gi (#[.int .i64 (j + 1 : Nat)]) 3 :: (Y192 ++ ([bx g14 cs14 46] ++ (Yi ++ (YR ++ []))))) ?_ (fun hmx37 => ?_)
       ·
        rintro ⟨Y192, cq192, q192⟩ hO192
        refine any_fork [0, 10] (by kernel_rfl) (by simp) (each_cons _ rfl ?_ (each_cons _ rfl ?_ (each_nil)))
        ·
         refine qo0 1 [(0, .go (owns 0 0 1))] [42, 43, 47] [(38, .pointer (some ⟨gb, 0, none⟩))] ?_
         refine od_ ?_
         exact wk (hmx39 (Y192, cq192, q192) hO192) [38, 42, 43, 47] [[_], [_], [_], [_], _, [bx g14 cs14 46], _, _] [0, 1, 2, 3, 4, 5, 6, 7] rfl rfl
        ·
         refine mo0 1 [] [3, 42, 43] (fun γ232 => [(48, .slice (some ⟨γ232 0, 0, none⟩) 1 1)]) (fun γ232 L => bx (γ232 0) (#[.int .i64 (j + 1 : Nat), .slice q192 n cq192]) 46 :: L) (fun γ232 => ?_)
         refine od_ ?_
         exact wk (hmx40 (Y192, cq192, q192, γ232) hO192) [3, 42, 43, 48] [[_], [_], [_], [_], [_], _, [bx g14 cs14 46], _, _] [0, 1, 2, 3, 4, 5, 6, 7, 8] rfl rfl
       refine any_cutX (V := (List Ob) × (Nat) × (Option Addr) × (Nat → Nat)) (fun ⟨Y192, cq192, q192, γ232⟩ => SlO 3 Y192 q192 n cq192 l) 6 #[false, true, true, true, false, true, true, true, true, true, true, false, false, false, false] (fun ⟨Y192, cq192, q192, γ232⟩ => [(3, .pointer (some ⟨γ1 0, 0, none⟩)), (41, .pointer (some ⟨gb, 0, none⟩)), (43, .int .i64 (j : Nat)), (48, .slice (some ⟨γ232 0, 0, none⟩) 1 1)]) (fun ⟨Y192, cq192, q192, γ232⟩ => bx (γ232 0) (#[.int .i64 (j + 1 : Nat), .slice q192 n cq192]) 46 :: bx (γ1 0) (#[.pointer (some ⟨gb, 0, none⟩)]) 72 :: bx gb (#[.slice (some ⟨g14, 0, none⟩) m capq]) 38 :: bx gm (#[.slice p n cap]) 25 :: bx gi (#[.int .i64 (j + 1 : Nat)]) 3 :: (Y192 ++ ([bx g14 cs14 46] ++ (Yi ++ (YR ++ []))))) ?_ (fun hmx36 => ?_)
       ·
        rintro ⟨Y192, cq192, q192, γ232⟩ hO192
        refine any_fork [0, 4] (by kernel_rfl) (by simp) (each_cons _ rfl ?_ (each_cons _ rfl ?_ (each_nil)))
        ·
         refine qo0 1 [(0, .go (owns 1 0 1))] [41, 43, 48] [(38, .pointer (some ⟨gb, 0, none⟩))] ?_
         refine od_ ?_
         exact wk (hmx38 (Y192, cq192, q192, γ232) hO192) [38, 41, 43, 48] [[_], [_], [_], [_], [_], _, [bx g14 cs14 46], _, _] [0, 1, 2, 3, 4, 5, 6, 7, 8] rfl rfl
        ·
         refine qo0 1 [(4, .go (owns 2 0 1))] [3, 43, 48] [(42, .slice (some ⟨g14, 0, none⟩) m capq)] ?_
         refine od_ ?_
         exact wk (hmx40 (Y192, cq192, q192, γ232) hO192) [3, 42, 43, 48] [[_], [_], [_], [_], [_], _, [bx g14 cs14 46], _, _] [0, 1, 2, 3, 4, 5, 6, 7, 8] rfl rfl
       refine any_cutX (V := (List Ob) × (Nat) × (Option Addr)) (fun ⟨Y192, cq192, q192⟩ => SlO 3 Y192 q192 n cq192 l) 6 #[true, true, true, true, false, true, true, true, true, true, false, false, false, false, false] (fun ⟨Y192, cq192, q192⟩ => [(38, .pointer (some ⟨gb, 0, none⟩)), (41, .pointer (some ⟨gb, 0, none⟩)), (43, .int .i64 (j : Nat)), (47, .agg #[.int .i64 (j + 1 : Nat), .slice q192 n cq192])]) (fun ⟨Y192, cq192, q192⟩ => bx (γ1 0) (#[.pointer (some ⟨gb, 0, none⟩)]) 72 :: bx gb (#[.slice (some ⟨g14, 0, none⟩) m capq]) 38 :: bx gm (#[.slice p n cap]) 25 :: bx gi (#[.int .i64 (j + 1 : Nat)]) 3 :: (Y192 ++ ([bx g14 cs14 46] ++ (Yi ++ (YR ++ []))))) ?_ (fun hmx35 => ?_)
       ·
        rintro ⟨Y192, cq192, q192⟩ hO192
        refine any_fork [4, 10] (by kernel_rfl) (by simp) (each_cons _ rfl ?_ (each_cons _ rfl ?_ (each_nil)))
        ·
         refine qo0 1 [(4, .go (owns 1 0 1))] [38, 43, 47] [(42, .slice (some ⟨g14, 0, none⟩) m capq)] ?_
         refine od_ ?_
         exact wk (hmx39 (Y192, cq192, q192) hO192) [38, 42, 43, 47] [[_], [_], [_], [_], _, [bx g14 cs14 46], _, _] [0, 1, 2, 3, 4, 5, 6, 7] rfl rfl
        ·
         refine mo0 1 [] [38, 41, 43] (fun γ232 => [(48, .slice (some ⟨γ232 0, 0, none⟩) 1 1)]) (fun γ232 L => bx (γ232 0) (#[.int .i64 (j + 1 : Nat), .slice q192 n cq192]) 46 :: L) (fun γ232 => ?_)
         refine od_ ?_
         exact wk (hmx38 (Y192, cq192, q192, γ232) hO192) [38, 41, 43, 48] [[_], [_], [_], [_], [_], _, [bx g14 cs14 46], _, _] [0, 1, 2, 3, 4, 5, 6, 7, 8] rfl rfl
       refine any_cutX (V := (List Ob) × (Nat) × (Option Addr)) (fun ⟨Y192, cq192, q192⟩ => SlO 3 Y192 q192 n cq192 l) 7 #[true, true, true, true, true, true, false, true, true, false, false, false, false, false, false] (fun ⟨Y192, cq192, q192⟩ => [(2, .pointer (some ⟨gi, 0, none⟩)), (38, .pointer (some ⟨gb, 0, none⟩)), (42, .slice (some ⟨g14, 0, none⟩) m capq), (43, .int .i64 (j : Nat)), (46, .slice q192 n cq192)]) (fun ⟨Y192, cq192, q192⟩ => bx (γ1 0) (#[.pointer (some ⟨gb, 0, none⟩)]) 72 :: bx gb (#[.slice (some ⟨g14, 0, none⟩) m capq]) 38 :: bx gm (#[.slice p n cap]) 25 :: bx gi (#[.int .i64 (j + 1 : Nat)]) 3 :: (Y192 ++ ([bx g14 cs14 46] ++ (Yi ++ (YR ++ []))))) ?_ (fun hmx34 => ?_)
       ·
        rintro ⟨Y192, cq192, q192⟩ hO192
        refine a1 6 rfl ?_
        refine qo0 1 [(6, .go (owns 3 0 1))] [38, 42, 43, 46] [(44, .int .i64 (j + 1 : Nat))] ?_
        refine od_ ?_
        refine tk (m := 5) [9] [] [38, 42, 43] [(47, .agg #[.int .i64 (j + 1 : Nat), .slice q192 n cq192])] ([]) #[true, true, true, true, true, true, true, true, true, true, false, false, false, false, false] al0 ?_
        exact wk (hmx39 (Y192, cq192, q192) hO192) [38, 42, 43, 47] [[_], [_], [_], [_], _, [bx g14 cs14 46], _, _] [0, 1, 2, 3, 4, 5, 6, 7] rfl rfl
       refine any_cutX (V := Unit) (fun _ => True) 7 #[true, true, true, true, true, true, true, true, false, false, false, false, false, false, false] (fun _ => [(38, .pointer (some ⟨gb, 0, none⟩)), (42, .slice (some ⟨g14, 0, none⟩) m capq), (43, .int .i64 (j : Nat)), (44, .int .i64 (j + 1 : Nat)), (45, .slice p n cap)]) (fun _ => bx (γ1 0) (#[.pointer (some ⟨gb, 0, none⟩)]) 72 :: bx gb (#[.slice (some ⟨g14, 0, none⟩) m capq]) 38 :: bx gm (#[.slice p n cap]) 25 :: bx gi (#[.int .i64 (j + 1 : Nat)]) 3 :: ([bx g14 cs14 46] ++ (Yi ++ (YR ++ [])))) ?_ (fun hmx33 => ?_)
       ·
        rintro _ _
        refine a1 8 rfl ?_
        refine cP (fun v L' => ∃ q_ c_ Y_, v = .slice q_ n c_ ∧ L' = List.take 4 (bx (γ1 0) (#[.pointer (some ⟨gb, 0, none⟩)]) 72 :: bx gb (#[.slice (some ⟨g14, 0, none⟩) m capq]) 38 :: bx gm (#[.slice p n cap]) 25 :: bx gi (#[.int .i64 (j + 1 : Nat)]) 3 :: ([bx g14 cs14 46] ++ (Yi ++ (YR ++ [])))) ++ (Y_ ++ List.drop 4 (bx (γ1 0) (#[.pointer (some ⟨gb, 0, none⟩)]) 72 :: bx gb (#[.slice (some ⟨g14, 0, none⟩) m capq]) 38 :: bx gm (#[.slice p n cap]) 25 :: bx gi (#[.int .i64 (j + 1 : Nat)]) 3 :: ([bx g14 cs14 46] ++ (Yi ++ (YR ++ []))))) ∧ SlO 3 Y_ q_ n c_ l) Try.call44 (fun w hw => (cloneints_t p n cap l w (hsl.kept hw.below) hn (by omega)).mono fun e w' ⟨q_, c_, Y_, he, hO, hb, hY⟩ => ⟨_, _, he, ⟨q_, c_, Y_, rfl, rfl, hO⟩, hw.join hb hY 4⟩) ?_
        rintro v192 L192 ⟨q192, cq192, Y192, rfl, rfl, hO192⟩
        refine od_ ?_
        refine tk (m := 5) [9] [] [38, 42, 43] [(47, .agg #[.int .i64 (j + 1 : Nat), .slice q192 n cq192])] ([]) #[true, true, true, true, true, true, true, true, true, true, false, false, false, false, false] al0 ?_
        exact wk (hmx39 (Y192, cq192, q192) hO192) [38, 42, 43, 47] [[_], [_], [_], [_], _, [bx g14 cs14 46], _, _] [0, 1, 2, 3, 4, 5, 6, 7] rfl rfl
       refine any_cutX (V := (List Ob) × (Nat) × (Option Addr)) (fun ⟨Y192, cq192, q192⟩ => SlO 3 Y192 q192 n cq192 l) 7 #[false, true, true, true, false, true, true, true, true, true, false, false, false, false, false] (fun ⟨Y192, cq192, q192⟩ => [(3, .pointer (some ⟨γ1 0, 0, none⟩)), (41, .pointer (some ⟨gb, 0, none⟩)), (43, .int .i64 (j : Nat)), (47, .agg #[.int .i64 (j + 1 : Nat), .slice q192 n cq192])]) (fun ⟨Y192, cq192, q192⟩ => bx (γ1 0) (#[.pointer (some ⟨gb, 0, none⟩)]) 72 :: bx gb (#[.slice (some ⟨g14, 0, none⟩) m capq]) 38 :: bx gm (#[.slice p n cap]) 25 :: bx gi (#[.int .i64 (j + 1 : Nat)]) 3 :: (Y192 ++ ([bx g14 cs14 46] ++ (Yi ++ (YR ++ []))))) ?_ (fun hmx32 => ?_)
       ·
        rintro ⟨Y192, cq192, q192⟩ hO192
        refine any_fork [0, 4, 10] (by kernel_rfl) (by simp) (each_cons _ rfl ?_ (each_cons _ rfl ?_ (each_cons _ rfl ?_ (each_nil))))
        ·
         refine qo0 1 [(0, .go (owns 0 0 1))] [41, 43, 47] [(38, .pointer (some ⟨gb, 0, none⟩))] ?_
         refine od_ ?_
         exact wk (hmx35 (Y192, cq192, q192) hO192) [38, 41, 43, 47] [[_], [_], [_], [_], _, [bx g14 cs14 46], _, _] [0, 1, 2, 3, 4, 5, 6, 7] rfl rfl
        ·
         refine qo0 1 [(4, .go (owns 1 0 1))] [3, 43, 47] [(42, .slice (some ⟨g14, 0, none⟩) m capq)] ?_
         refine od_ ?_
         exact wk (hmx37 (Y192, cq192, q192) hO192) [3, 42, 43, 47] [[_], [_], [_], [_], _, [bx g14 cs14 46], _, _] [0, 1, 2, 3, 4, 5, 6, 7] rfl rfl
        ·
         refine mo0 1 [] [3, 41, 43] (fun γ232 => [(48, .slice (some ⟨γ232 0, 0, none⟩) 1 1)]) (fun γ232 L => bx (γ232 0) (#[.int .i64 (j + 1 : Nat), .slice q192 n cq192]) 46 :: L) (fun γ232 => ?_)
         refine od_ ?_
         exact wk (hmx36 (Y192, cq192, q192, γ232) hO192) [3, 41, 43, 48] [[_], [_], [_], [_], [_], _, [bx g14 cs14 46], _, _] [0, 1, 2, 3, 4, 5, 6, 7, 8] rfl rfl
       refine any_cutX (V := (List Ob) × (Nat) × (Option Addr) × (Nat → Nat)) (fun ⟨Y192, cq192, q192, γ232⟩ => SlO 3 Y192 q192 n cq192 l) 8 #[true, false, false, false, false, true, true, true, true, true, true, false, false, false, false] (fun ⟨Y192, cq192, q192, γ232⟩ => [(3, .pointer (some ⟨γ1 0, 0, none⟩)), (38, .pointer (some ⟨gb, 0, none⟩)), (43, .int .i64 (j : Nat)), (48, .slice (some ⟨γ232 0, 0, none⟩) 1 1)]) (fun ⟨Y192, cq192, q192, γ232⟩ => bx (γ232 0) (#[.int .i64 (j + 1 : Nat), .slice q192 n cq192]) 46 :: bx (γ1 0) (#[.pointer (some ⟨gb, 0, none⟩)]) 72 :: bx gb (#[.slice (some ⟨g14, 0, none⟩) m capq]) 38 :: bx gm (#[.slice p n cap]) 25 :: bx gi (#[.int .i64 (j + 1 : Nat)]) 3 :: (Y192 ++ ([bx g14 cs14 46] ++ (Yi ++ (YR ++ []))))) ?_ (fun hmx31 => ?_)
       ·
        rintro ⟨Y192, cq192, q192, γ232⟩ hO192
        refine a1 1 rfl ?_
        refine qo0 1 [(1, .go (owns 1 0 1))] [38, 43, 48] [(39, .pointer (some ⟨gb, 0, none⟩))] ?_
        refine od_ ?_
        refine tk (m := 5) [2, 3] [] [38, 43, 48] [(41, .pointer (some ⟨gb, 0, none⟩))] ([]) #[true, true, true, true, false, true, true, true, true, true, true, false, false, false, false] al0 ?_
        exact wk (hmx38 (Y192, cq192, q192, γ232) hO192) [38, 41, 43, 48] [[_], [_], [_], [_], [_], _, [bx g14 cs14 46], _, _] [0, 1, 2, 3, 4, 5, 6, 7, 8] rfl rfl
       refine any_cutX (V := (List Ob) × (Nat) × (Option Addr)) (fun ⟨Y192, cq192, q192⟩ => SlO 3 Y192 q192 n cq192 l) 8 #[false, true, true, true, true, true, false, true, true, false, false, false, false, false, false] (fun ⟨Y192, cq192, q192⟩ => [(2, .pointer (some ⟨gi, 0, none⟩)), (3, .pointer (some ⟨γ1 0, 0, none⟩)), (42, .slice (some ⟨g14, 0, none⟩) m capq), (43, .int .i64 (j : Nat)), (46, .slice q192 n cq192)]) (fun ⟨Y192, cq192, q192⟩ => bx (γ1 0) (#[.pointer (some ⟨gb, 0, none⟩)]) 72 :: bx gb (#[.slice (some ⟨g14, 0, none⟩) m capq]) 38 :: bx gm (#[.slice p n cap]) 25 :: bx gi (#[.int .i64 (j + 1 : Nat)]) 3 :: (Y192 ++ ([bx g14 cs14 46] ++ (Yi ++ (YR ++ []))))) ?_ (fun hmx30 => ?_)
       ·
        rintro ⟨Y192, cq192, q192⟩ hO192
        refine any_fork [0, 6] (by kernel_rfl) (by simp) (each_cons _ rfl ?_ (each_cons _ rfl ?_ (each_nil)))
        ·
         refine qo0 1 [(0, .go (owns 0 0 1))] [2, 42, 43, 46] [(38, .pointer (some ⟨gb, 0, none⟩))] ?_
         refine od_ ?_
         exact wk (hmx34 (Y192, cq192, q192) hO192) [2, 38, 42, 43, 46] [[_], [_], [_], [_], _, [bx g14 cs14 46], _, _] [0, 1, 2, 3, 4, 5, 6, 7] rfl rfl
        ·
         refine qo0 1 [(6, .go (owns 3 0 1))] [3, 42, 43, 46] [(44, .int .i64 (j + 1 : Nat))] ?_
         refine od_ ?_
         refine tk (m := 6) [9] [] [3, 42, 43] [(47, .agg #[.int .i64 (j + 1 : Nat), .slice q192 n cq192])] ([]) #[false, true, true, true, true, true, true, true, true, true, false, false, false, false, false] al0 ?_
         exact wk (hmx37 (Y192, cq192, q192) hO192) [3, 42, 43, 47] [[_], [_], [_], [_], _, [bx g14 cs14 46], _, _] [0, 1, 2, 3, 4, 5, 6, 7] rfl rfl
       refine any_cutX (V := Unit) (fun _ => True) 8 #[false, true, true, true, true, true, true, true, false, false, false, false, false, false, false] (fun _ => [(3, .pointer (some ⟨γ1 0, 0, none⟩)), (42, .slice (some ⟨g14, 0, none⟩) m capq), (43, .int .i64 (j : Nat)), (44, .int .i64 (j + 1 : Nat)), (45, .slice p n cap)]) (fun _ => bx (γ1 0) (#[.pointer (some ⟨gb, 0, none⟩)]) 72 :: bx gb (#[.slice (some ⟨g14, 0, none⟩) m capq]) 38 :: bx gm (#[.slice p n cap]) 25 :: bx gi (#[.int .i64 (j + 1 : Nat)]) 3 :: ([bx g14 cs14 46] ++ (Yi ++ (YR ++ [])))) ?_ (fun hmx29 => ?_)
       ·
        rintro _ _
        refine any_fork [0, 8] (by kernel_rfl) (by simp) (each_cons _ rfl ?_ (each_cons _ rfl ?_ (each_nil)))
        ·
         refine qo0 1 [(0, .go (owns 0 0 1))] [42, 43, 44, 45] [(38, .pointer (some ⟨gb, 0, none⟩))] ?_
         refine od_ ?_
         exact wk (hmx33 () trivial) [38, 42, 43, 44, 45] [[_], [_], [_], [_], [bx g14 cs14 46], _, _] [0, 1, 2, 3, 4, 5, 6] rfl rfl
        ·
         refine cP (fun v L' => ∃ q_ c_ Y_, v = .slice q_ n c_ ∧ L' = List.take 4 (bx (γ1 0) (#[.pointer (some ⟨gb, 0, none⟩)]) 72 :: bx gb (#[.slice (some ⟨g14, 0, none⟩) m capq]) 38 :: bx gm (#[.slice p n cap]) 25 :: bx gi (#[.int .i64 (j + 1 : Nat)]) 3 :: ([bx g14 cs14 46] ++ (Yi ++ (YR ++ [])))) ++ (Y_ ++ List.drop 4 (bx (γ1 0) (#[.pointer (some ⟨gb, 0, none⟩)]) 72 :: bx gb (#[.slice (some ⟨g14, 0, none⟩) m capq]) 38 :: bx gm (#[.slice p n cap]) 25 :: bx gi (#[.int .i64 (j + 1 : Nat)]) 3 :: ([bx g14 cs14 46] ++ (Yi ++ (YR ++ []))))) ∧ SlO 3 Y_ q_ n c_ l) Try.call44 (fun w hw => (cloneints_t p n cap l w (hsl.kept hw.below) hn (by omega)).mono fun e w' ⟨q_, c_, Y_, he, hO, hb, hY⟩ => ⟨_, _, he, ⟨q_, c_, Y_, rfl, rfl, hO⟩, hw.join hb hY 4⟩) ?_
         rintro v192 L192 ⟨q192, cq192, Y192, rfl, rfl, hO192⟩
         refine od_ ?_
         refine tk (m := 6) [9] [] [3, 42, 43] [(47, .agg #[.int .i64 (j + 1 : Nat), .slice q192 n cq192])] ([]) #[false, true, true, true, true, true, true, true, true, true, false, false, false, false, false] al0 ?_
         exact wk (hmx37 (Y192, cq192, q192) hO192) [3, 42, 43, 47] [[_], [_], [_], [_], _, [bx g14 cs14 46], _, _] [0, 1, 2, 3, 4, 5, 6, 7] rfl rfl
       refine any_cutX (V := Unit) (fun _ => True) 8 #[true, true, true, true, true, true, false, true, false, false, false, false, false, false, false] (fun _ => [(2, .pointer (some ⟨gi, 0, none⟩)), (38, .pointer (some ⟨gb, 0, none⟩)), (42, .slice (some ⟨g14, 0, none⟩) m capq), (43, .int .i64 (j : Nat)), (45, .slice p n cap)]) (fun _ => bx (γ1 0) (#[.pointer (some ⟨gb, 0, none⟩)]) 72 :: bx gb (#[.slice (some ⟨g14, 0, none⟩) m capq]) 38 :: bx gm (#[.slice p n cap]) 25 :: bx gi (#[.int .i64 (j + 1 : Nat)]) 3 :: ([bx g14 cs14 46] ++ (Yi ++ (YR ++ [])))) ?_ (fun hmx28 => ?_)
       ·
        rintro _ _
        refine any_fork [6, 8] (by kernel_rfl) (by simp) (each_cons _ rfl ?_ (each_cons _ rfl ?_ (each_nil)))
        ·
         refine qo0 1 [(6, .go (owns 3 0 1))] [38, 42, 43, 45] [(44, .int .i64 (j + 1 : Nat))] ?_
         refine od_ ?_
         exact wk (hmx33 () trivial) [38, 42, 43, 44, 45] [[_], [_], [_], [_], [bx g14 cs14 46], _, _] [0, 1, 2, 3, 4, 5, 6] rfl rfl
        ·
         refine cP (fun v L' => ∃ q_ c_ Y_, v = .slice q_ n c_ ∧ L' = List.take 4 (bx (γ1 0) (#[.pointer (some ⟨gb, 0, none⟩)]) 72 :: bx gb (#[.slice (some ⟨g14, 0, none⟩) m capq]) 38 :: bx gm (#[.slice p n cap]) 25 :: bx gi (#[.int .i64 (j + 1 : Nat)]) 3 :: ([bx g14 cs14 46] ++ (Yi ++ (YR ++ [])))) ++ (Y_ ++ List.drop 4 (bx (γ1 0) (#[.pointer (some ⟨gb, 0, none⟩)]) 72 :: bx gb (#[.slice (some ⟨g14, 0, none⟩) m capq]) 38 :: bx gm (#[.slice p n cap]) 25 :: bx gi (#[.int .i64 (j + 1 : Nat)]) 3 :: ([bx g14 cs14 46] ++ (Yi ++ (YR ++ []))))) ∧ SlO 3 Y_ q_ n c_ l) Try.call44 (fun w hw => (cloneints_t p n cap l w (hsl.kept hw.below) hn (by omega)).mono fun e w' ⟨q_, c_, Y_, he, hO, hb, hY⟩ => ⟨_, _, he, ⟨q_, c_, Y_, rfl, rfl, hO⟩, hw.join hb hY 4⟩) ?_
         rintro v192 L192 ⟨q192, cq192, Y192, rfl, rfl, hO192⟩
         refine od_ ?_
         exact wk (hmx34 (Y192, cq192, q192) hO192) [2, 38, 42, 43, 46] [[_], [_], [_], [_], _, [bx g14 cs14 46], _, _] [0, 1, 2, 3, 4, 5, 6, 7] rfl rfl
       refine any_cutX (V := Unit) (fun _ => True) 8 #[true, true, true, true, true, true, true, false, false, false, false, false, false, false, false] (fun _ => [(1, .pointer (some ⟨gm, 0, none⟩)), (38, .pointer (some ⟨gb, 0, none⟩)), (42, .slice (some ⟨g14, 0, none⟩) m capq), (43, .int .i64 (j : Nat)), (44, .int .i64 (j + 1 : Nat))]) (fun _ => bx (γ1 0) (#[.pointer (some ⟨gb, 0, none⟩)]) 72 :: bx gb (#[.slice (some ⟨g14, 0, none⟩) m capq]) 38 :: bx gm (#[.slice p n cap]) 25 :: bx gi (#[.int .i64 (j + 1 : Nat)]) 3 :: ([bx g14 cs14 46] ++ (Yi ++ (YR ++ [])))) ?_ (fun hmx27 => ?_)
       ·
        rintro _ _
        refine a1 7 rfl ?_
        refine qo0 1 [(7, .go (owns 2 0 1))] [38, 42, 43, 44] [(45, .slice p n cap)] ?_
        refine od_ ?_
        exact wk (hmx33 () trivial) [38, 42, 43, 44, 45] [[_], [_], [_], [_], [bx g14 cs14 46], _, _] [0, 1, 2, 3, 4, 5, 6] rfl rfl
       refine any_cutX (V := (List Ob) × (Nat) × (Option Addr)) (fun ⟨Y192, cq192, q192⟩ => SlO 3 Y192 q192 n cq192 l) 8 #[true, true, true, true, false, true, false, true, true, false, false, false, false, false, false] (fun ⟨Y192, cq192, q192⟩ => [(2, .pointer (some ⟨gi, 0, none⟩)), (38, .pointer (some ⟨gb, 0, none⟩)), (41, .pointer (some ⟨gb, 0, none⟩)), (43, .int .i64 (j : Nat)), (46, .slice q192 n cq192)]) (fun ⟨Y192, cq192, q192⟩ => bx (γ1 0) (#[.pointer (some ⟨gb, 0, none⟩)]) 72 :: bx gb (#[.slice (some ⟨g14, 0, none⟩) m capq]) 38 :: bx gm (#[.slice p n cap]) 25 :: bx gi (#[.int .i64 (j + 1 : Nat)]) 3 :: (Y192 ++ ([bx g14 cs14 46] ++ (Yi ++ (YR ++ []))))) ?_ (fun hmx26 => ?_)
       ·
        rintro ⟨Y192, cq192, q192⟩ hO192
        refine any_fork [4, 6] (by kernel_rfl) (by simp) (each_cons _ rfl ?_ (each_cons _ rfl ?_ (each_nil)))
        ·
         refine qo0 1 [(4, .go (owns 1 0 1))] [2, 38, 43, 46] [(42, .slice (some ⟨g14, 0, none⟩) m capq)] ?_
         refine od_ ?_
         exact wk (hmx34 (Y192, cq192, q192) hO192) [2, 38, 42, 43, 46] [[_], [_], [_], [_], _, [bx g14 cs14 46], _, _] [0, 1, 2, 3, 4, 5, 6, 7] rfl rfl
        ·
         refine qo0 1 [(6, .go (owns 3 0 1))] [38, 41, 43, 46] [(44, .int .i64 (j + 1 : Nat))] ?_
         refine od_ ?_
         refine tk (m := 6) [9] [] [38, 41, 43] [(47, .agg #[.int .i64 (j + 1 : Nat), .slice q192 n cq192])] ([]) #[true, true, true, true, false, true, true, true, true, true, false, false, false, false, false] al0 ?_
         exact wk (hmx35 (Y192, cq192, q192) hO192) [38, 41, 43, 47] [[_], [_], [_], [_], _, [bx g14 cs14 46], _, _] [0, 1, 2, 3, 4, 5, 6, 7] rfl rfl
       refine any_cutX (V := Unit) (fun _ => True) 8 #[true, true, true, true, false, true, true, true, false, false, false, false, false, false, false] (fun _ => [(38, .pointer (some ⟨gb, 0, none⟩)), (41, .pointer (some ⟨gb, 0, none⟩)), (43, .int .i64 (j : Nat)), (44, .int .i64 (j + 1 : Nat)), (45, .slice p n cap)]) (fun _ => bx (γ1 0) (#[.pointer (some ⟨gb, 0, none⟩)]) 72 :: bx gb (#[.slice (some ⟨g14, 0, none⟩) m capq]) 38 :: bx gm (#[.slice p n cap]) 25 :: bx gi (#[.int .i64 (j + 1 : Nat)]) 3 :: ([bx g14 cs14 46] ++ (Yi ++ (YR ++ [])))) ?_ (fun hmx25 => ?_)
       ·
        rintro _ _
        refine any_fork [4, 8] (by kernel_rfl) (by simp) (each_cons _ rfl ?_ (each_cons _ rfl ?_ (each_nil)))
        ·
         refine qo0 1 [(4, .go (owns 1 0 1))] [38, 43, 44, 45] [(42, .slice (some ⟨g14, 0, none⟩) m capq)] ?_
         refine od_ ?_
         exact wk (hmx33 () trivial) [38, 42, 43, 44, 45] [[_], [_], [_], [_], [bx g14 cs14 46], _, _] [0, 1, 2, 3, 4, 5, 6] rfl rfl
        ·
         refine cP (fun v L' => ∃ q_ c_ Y_, v = .slice q_ n c_ ∧ L' = List.take 4 (bx (γ1 0) (#[.pointer (some ⟨gb, 0, none⟩)]) 72 :: bx gb (#[.slice (some ⟨g14, 0, none⟩) m capq]) 38 :: bx gm (#[.slice p n cap]) 25 :: bx gi (#[.int .i64 (j + 1 : Nat)]) 3 :: ([bx g14 cs14 46] ++ (Yi ++ (YR ++ [])))) ++ (Y_ ++ List.drop 4 (bx (γ1 0) (#[.pointer (some ⟨gb, 0, none⟩)]) 72 :: bx gb (#[.slice (some ⟨g14, 0, none⟩) m capq]) 38 :: bx gm (#[.slice p n cap]) 25 :: bx gi (#[.int .i64 (j + 1 : Nat)]) 3 :: ([bx g14 cs14 46] ++ (Yi ++ (YR ++ []))))) ∧ SlO 3 Y_ q_ n c_ l) Try.call44 (fun w hw => (cloneints_t p n cap l w (hsl.kept hw.below) hn (by omega)).mono fun e w' ⟨q_, c_, Y_, he, hO, hb, hY⟩ => ⟨_, _, he, ⟨q_, c_, Y_, rfl, rfl, hO⟩, hw.join hb hY 4⟩) ?_
         rintro v192 L192 ⟨q192, cq192, Y192, rfl, rfl, hO192⟩
         refine od_ ?_
         refine tk (m := 6) [9] [] [38, 41, 43] [(47, .agg #[.int .i64 (j + 1 : Nat), .slice q192 n cq192])] ([]) #[true, true, true, true, false, true, true, true, true, true, false, false, false, false, false] al0 ?_
         exact wk (hmx35 (Y192, cq192, q192) hO192) [38, 41, 43, 47] [[_], [_], [_], [_], _, [bx g14 cs14 46], _, _] [0, 1, 2, 3, 4, 5, 6, 7] rfl rfl
       refine any_cutX (V := (List Ob) × (Nat) × (Option Addr) × (Nat → Nat)) (fun ⟨Y192, cq192, q192, γ232⟩ => SlO 3 Y192 q192 n cq192 l) 9 #[false, false, false, false, false, true, true, true, true, true, true, false, false, false, false] (fun ⟨Y192, cq192, q192, γ232⟩ => [(3, .pointer (some ⟨γ1 0, 0, none⟩)), (43, .int .i64 (j : Nat)), (48, .slice (some ⟨γ232 0, 0, none⟩) 1 1)]) (fun ⟨Y192, cq192, q192, γ232⟩ => bx (γ232 0) (#[.int .i64 (j + 1 : Nat), .slice q192 n cq192]) 46 :: bx (γ1 0) (#[.pointer (some ⟨gb, 0, none⟩)]) 72 :: bx gb (#[.slice (some ⟨g14, 0, none⟩) m capq]) 38 :: bx gm (#[.slice p n cap]) 25 :: bx gi (#[.int .i64 (j + 1 : Nat)]) 3 :: (Y192 ++ ([bx g14 cs14 46] ++ (Yi ++ (YR ++ []))))) ?_ (fun hmx24 => ?_)
       ·
        rintro ⟨Y192, cq192, q192, γ232⟩ hO192
        refine any_fork [0, 1] (by kernel_rfl) (by simp) (each_cons _ rfl ?_ (each_cons _ rfl ?_ (each_nil)))
        ·
         refine qo0 1 [(0, .go (owns 1 0 1))] [3, 43, 48] [(38, .pointer (some ⟨gb, 0, none⟩))] ?_
         refine od_ ?_
         exact wk (hmx31 (Y192, cq192, q192, γ232) hO192) [3, 38, 43, 48] [[_], [_], [_], [_], [_], _, [bx g14 cs14 46], _, _] [0, 1, 2, 3, 4, 5, 6, 7, 8] rfl rfl
        ·
         refine qo0 1 [(1, .go (owns 1 0 1))] [3, 43, 48] [(39, .pointer (some ⟨gb, 0, none⟩))] ?_
         refine od_ ?_
         refine tk (m := 6) [2, 3] [] [3, 43, 48] [(41, .pointer (some ⟨gb, 0, none⟩))] ([]) #[false, true, true, true, false, true, true, true, true, true, true, false, false, false, false] al0 ?_
         exact wk (hmx36 (Y192, cq192, q192, γ232) hO192) [3, 41, 43, 48] [[_], [_], [_], [_], [_], _, [bx g14 cs14 46], _, _] [0, 1, 2, 3, 4, 5, 6, 7, 8] rfl rfl
       refine any_cutX (V := Unit) (fun _ => True) 9 #[false, true, true, true, true, true, false, true, false, false, false, false, false, false, false] (fun _ => [(2, .pointer (some ⟨gi, 0, none⟩)), (3, .pointer (some ⟨γ1 0, 0, none⟩)), (42, .slice (some ⟨g14, 0, none⟩) m capq), (43, .int .i64 (j : Nat)), (45, .slice p n cap)]) (fun _ => bx (γ1 0) (#[.pointer (some ⟨gb, 0, none⟩)]) 72 :: bx gb (#[.slice (some ⟨g14, 0, none⟩) m capq]) 38 :: bx gm (#[.slice p n cap]) 25 :: bx gi (#[.int .i64 (j + 1 : Nat)]) 3 :: ([bx g14 cs14 46] ++ (Yi ++ (YR ++ [])))) ?_ (fun hmx23 => ?_)
       ·
        rintro _ _
        refine any_fork [0, 6, 8] (by kernel_rfl) (by simp) (each_cons _ rfl ?_ (each_cons _ rfl ?_ (each_cons _ rfl ?_ (each_nil))))
        ·
         refine qo0 1 [(0, .go (owns 0 0 1))] [2, 42, 43, 45] [(38, .pointer (some ⟨gb, 0, none⟩))] ?_
         refine od_ ?_
         exact wk (hmx28 () trivial) [2, 38, 42, 43, 45] [[_], [_], [_], [_], [bx g14 cs14 46], _, _] [0, 1, 2, 3, 4, 5, 6] rfl rfl
        ·
         refine qo0 1 [(6, .go (owns 3 0 1))] [3, 42, 43, 45] [(44, .int .i64 (j + 1 : Nat))] ?_
         refine od_ ?_
         exact wk (hmx29 () trivial) [3, 42, 43, 44, 45] [[_], [_], [_], [_], [bx g14 cs14 46], _, _] [0, 1, 2, 3, 4, 5, 6] rfl rfl
        ·
         refine cP (fun v L' => ∃ q_ c_ Y_, v = .slice q_ n c_ ∧ L' = List.take 4 (bx (γ1 0) (#[.pointer (some ⟨gb, 0, none⟩)]) 72 :: bx gb (#[.slice (some ⟨g14, 0, none⟩) m capq]) 38 :: bx gm (#[.slice p n cap]) 25 :: bx gi (#[.int .i64 (j + 1 : Nat)]) 3 :: ([bx g14 cs14 46] ++ (Yi ++ (YR ++ [])))) ++ (Y_ ++ List.drop 4 (bx (γ1 0) (#[.pointer (some ⟨gb, 0, none⟩)]) 72 :: bx gb (#[.slice (some ⟨g14, 0, none⟩) m capq]) 38 :: bx gm (#[.slice p n cap]) 25 :: bx gi (#[.int .i64 (j + 1 : Nat)]) 3 :: ([bx g14 cs14 46] ++ (Yi ++ (YR ++ []))))) ∧ SlO 3 Y_ q_ n c_ l) Try.call44 (fun w hw => (cloneints_t p n cap l w (hsl.kept hw.below) hn (by omega)).mono fun e w' ⟨q_, c_, Y_, he, hO, hb, hY⟩ => ⟨_, _, he, ⟨q_, c_, Y_, rfl, rfl, hO⟩, hw.join hb hY 4⟩) ?_
         rintro v192 L192 ⟨q192, cq192, Y192, rfl, rfl, hO192⟩
         refine od_ ?_
         exact wk (hmx30 (Y192, cq192, q192) hO192) [2, 3, 42, 43, 46] [[_], [_], [_], [_], _, [bx g14 cs14 46], _, _] [0, 1, 2, 3, 4, 5, 6, 7] rfl rfl
       refine any_cutX (V := Unit) (fun _ => True) 9 #[false, true, true, true, true, true, true, false, false, false, false, false, false, false, false] (fun _ => [(1, .pointer (some ⟨gm, 0, none⟩)), (3, .pointer (some ⟨γ1 0, 0, none⟩)), (42, .slice (some ⟨g14, 0, none⟩) m capq), (43, .int .i64 (j : Nat)), (44, .int .i64 (j + 1 : Nat))]) (fun _ => bx (γ1 0) (#[.pointer (some ⟨gb, 0, none⟩)]) 72 :: bx gb (#[.slice (some ⟨g14, 0, none⟩) m capq]) 38 :: bx gm (#[.slice p n cap]) 25 :: bx gi (#[.int .i64 (j + 1 : Nat)]) 3 :: ([bx g14 cs14 46] ++ (Yi ++ (YR ++ [])))) ?_ (fun hmx22 => ?_)
       ·
        rintro _ _
        refine any_fork [0, 7] (by kernel_rfl) (by simp) (each_cons _ rfl ?_ (each_cons _ rfl ?_ (each_nil)))
        ·
         refine qo0 1 [(0, .go (owns 0 0 1))] [1, 42, 43, 44] [(38, .pointer (some ⟨gb, 0, none⟩))] ?_
         refine od_ ?_
         exact wk (hmx27 () trivial) [1, 38, 42, 43, 44] [[_], [_], [_], [_], [bx g14 cs14 46], _, _] [0, 1, 2, 3, 4, 5, 6] rfl rfl
        ·
         refine qo0 1 [(7, .go (owns 2 0 1))] [3, 42, 43, 44] [(45, .slice p n cap)] ?_
         refine od_ ?_
         exact wk (hmx29 () trivial) [3, 42, 43, 44, 45] [[_], [_], [_], [_], [bx g14 cs14 46], _, _] [0, 1, 2, 3, 4, 5, 6] rfl rfl
       refine any_cutX (V := Unit) (fun _ => True) 9 #[true, true, true, true, true, true, false, false, false, false, false, false, false, false, false] (fun _ => [(1, .pointer (some ⟨gm, 0, none⟩)), (2, .pointer (some ⟨gi, 0, none⟩)), (38, .pointer (some ⟨gb, 0, none⟩)), (42, .slice (some ⟨g14, 0, none⟩) m capq), (43, .int .i64 (j : Nat))]) (fun _ => bx (γ1 0) (#[.pointer (some ⟨gb, 0, none⟩)]) 72 :: bx gb (#[.slice (some ⟨g14, 0, none⟩) m capq]) 38 :: bx gm (#[.slice p n cap]) 25 :: bx gi (#[.int .i64 (j + 1 : Nat)]) 3 :: ([bx g14 cs14 46] ++ (Yi ++ (YR ++ [])))) ?_ (fun hmx21 => ?_)
       ·
        rintro _ _
        refine any_fork [6, 7] (by kernel_rfl) (by simp) (each_cons _ rfl ?_ (each_cons _ rfl ?_ (each_nil)))
        ·
         refine qo0 1 [(6, .go (owns 3 0 1))] [1, 38, 42, 43] [(44, .int .i64 (j + 1 : Nat))] ?_
         refine od_ ?_
         exact wk (hmx27 () trivial) [1, 38, 42, 43, 44] [[_], [_], [_], [_], [bx g14 cs14 46], _, _] [0, 1, 2, 3, 4, 5, 6] rfl rfl
        ·
         refine qo0 1 [(7, .go (owns 2 0 1))] [2, 38, 42, 43] [(45, .slice p n cap)] ?_
         refine od_ ?_
         exact wk (hmx28 () trivial) [2, 38, 42, 43, 45] [[_], [_], [_], [_], [bx g14 cs14 46], _, _] [0, 1, 2, 3, 4, 5, 6] rfl rfl
       refine any_cutX (V := (List Ob) × (Nat) × (Option Addr)) (fun ⟨Y192, cq192, q192⟩ => SlO 3 Y192 q192 n cq192 l) 9 #[true, false, false, false, false, true, true, true, true, true, false, false, false, false, false] (fun ⟨Y192, cq192, q192⟩ => [(3, .pointer (some ⟨γ1 0, 0, none⟩)), (38, .pointer (some ⟨gb, 0, none⟩)), (43, .int .i64 (j : Nat)), (47, .agg #[.int .i64 (j + 1 : Nat), .slice q192 n cq192])]) (fun ⟨Y192, cq192, q192⟩ => bx (γ1 0) (#[.pointer (some ⟨gb, 0, none⟩)]) 72 :: bx gb (#[.slice (some ⟨g14, 0, none⟩) m capq]) 38 :: bx gm (#[.slice p n cap]) 25 :: bx gi (#[.int .i64 (j + 1 : Nat)]) 3 :: (Y192 ++ ([bx g14 cs14 46] ++ (Yi ++ (YR ++ []))))) ?_ (fun hmx20 => ?_)
       ·
        rintro ⟨Y192, cq192, q192⟩ hO192
        refine any_fork [1, 10] (by kernel_rfl) (by simp) (each_cons _ rfl ?_ (each_cons _ rfl ?_ (each_nil)))
        ·
         refine qo0 1 [(1, .go (owns 0 0 1))] [38, 43, 47] [(39, .pointer (some ⟨gb, 0, none⟩))] ?_
         refine od_ ?_
         refine tk (m := 6) [2, 3] [] [38, 43, 47] [(41, .pointer (some ⟨gb, 0, none⟩))] ([]) #[true, true, true, true, false, true, true, true, true, true, false, false, false, false, false] al0 ?_
         exact wk (hmx35 (Y192, cq192, q192) hO192) [38, 41, 43, 47] [[_], [_], [_], [_], _, [bx g14 cs14 46], _, _] [0, 1, 2, 3, 4, 5, 6, 7] rfl rfl
        ·
         refine mo0 1 [] [3, 38, 43] (fun γ232 => [(48, .slice (some ⟨γ232 0, 0, none⟩) 1 1)]) (fun γ232 L => bx (γ232 0) (#[.int .i64 (j + 1 : Nat), .slice q192 n cq192]) 46 :: L) (fun γ232 => ?_)
         refine od_ ?_
         exact wk (hmx31 (Y192, cq192, q192, γ232) hO192) [3, 38, 43, 48] [[_], [_], [_], [_], [_], _, [bx g14 cs14 46], _, _] [0, 1, 2, 3, 4, 5, 6, 7, 8] rfl rfl
       refine any_cutX (V := (List Ob) × (Nat) × (Option Addr)) (fun ⟨Y192, cq192, q192⟩ => SlO 3 Y192 q192 n cq192 l) 9 #[false, true, true, true, false, true, false, true, true, false, false, false, false, false, false] (fun ⟨Y192, cq192, q192⟩ => [(2, .pointer (some ⟨gi, 0, none⟩)), (3, .pointer (some ⟨γ1 0, 0, none⟩)), (41, .pointer (some ⟨gb, 0, none⟩)), (43, .int .i64 (j : Nat)), (46, .slice q192 n cq192)]) (fun ⟨Y192, cq192, q192⟩ => bx (γ1 0) (#[.pointer (some ⟨gb, 0, none⟩)]) 72 :: bx gb (#[.slice (some ⟨g14, 0, none⟩) m capq]) 38 :: bx gm (#[.slice p n cap]) 25 :: bx gi (#[.int .i64 (j + 1 : Nat)]) 3 :: (Y192 ++ ([bx g14 cs14 46] ++ (Yi ++ (YR ++ []))))) ?_ (fun hmx19 => ?_)
       ·
        rintro ⟨Y192, cq192, q192⟩ hO192
        refine any_fork [0, 4, 6] (by kernel_rfl) (by simp) (each_cons _ rfl ?_ (each_cons _ rfl ?_ (each_cons _ rfl ?_ (each_nil))))
        ·
         refine qo0 1 [(0, .go (owns 0 0 1))] [2, 41, 43, 46] [(38, .pointer (some ⟨gb, 0, none⟩))] ?_
         refine od_ ?_
         exact wk (hmx26 (Y192, cq192, q192) hO192) [2, 38, 41, 43, 46] [[_], [_], [_], [_], _, [bx g14 cs14 46], _, _] [0, 1, 2, 3, 4, 5, 6, 7] rfl rfl
        ·
         refine qo0 1 [(4, .go (owns 1 0 1))] [2, 3, 43, 46] [(42, .slice (some ⟨g14, 0, none⟩) m capq)] ?_
         refine od_ ?_
         exact wk (hmx30 (Y192, cq192, q192) hO192) [2, 3, 42, 43, 46] [[_], [_], [_], [_], _, [bx g14 cs14 46], _, _] [0, 1, 2, 3, 4, 5, 6, 7] rfl rfl
        ·
         refine qo0 1 [(6, .go (owns 3 0 1))] [3, 41, 43, 46] [(44, .int .i64 (j + 1 : Nat))] ?_
         refine od_ ?_
         refine tk (m := 7) [9] [] [3, 41, 43] [(47, .agg #[.int .i64 (j + 1 : Nat), .slice q192 n cq192])] ([]) #[false, true, true, true, false, true, true, true, true, true, false, false, false, false, false] al0 ?_
         exact wk (hmx32 (Y192, cq192, q192) hO192) [3, 41, 43, 47] [[_], [_], [_], [_], _, [bx g14 cs14 46], _, _] [0, 1, 2, 3, 4, 5, 6, 7] rfl rfl
       refine any_cutX (V := Unit) (fun _ => True) 9 #[false, true, true, true, false, true, true, true, false, false, false, false, false, false, false] (fun _ => [(3, .pointer (some ⟨γ1 0, 0, none⟩)), (41, .pointer (some ⟨gb, 0, none⟩)), (43, .int .i64 (j : Nat)), (44, .int .i64 (j + 1 : Nat)), (45, .slice p n cap)]) (fun _ => bx (γ1 0) (#[.pointer (some ⟨gb, 0, none⟩)]) 72 :: bx gb (#[.slice (some ⟨g14, 0, none⟩) m capq]) 38 :: bx gm (#[.slice p n cap]) 25 :: bx gi (#[.int .i64 (j + 1 : Nat)]) 3 :: ([bx g14 cs14 46] ++ (Yi ++ (YR ++ [])))) ?_ (fun hmx18 => ?_)
       ·
        rintro _ _
        refine any_fork [0, 4, 8] (by kernel_rfl) (by simp) (each_cons _ rfl ?_ (each_cons _ rfl ?_ (each_cons _ rfl ?_ (each_nil))))
        ·
         refine qo0 1 [(0, .go (owns 0 0 1))] [41, 43, 44, 45] [(38, .pointer (some ⟨gb, 0, none⟩))] ?_
         refine od_ ?_
         exact wk (hmx25 () trivial) [38, 41, 43, 44, 45] [[_], [_], [_], [_], [bx g14 cs14 46], _, _] [0, 1, 2, 3, 4, 5, 6] rfl rfl
        ·
         refine qo0 1 [(4, .go (owns 1 0 1))] [3, 43, 44, 45] [(42, .slice (some ⟨g14, 0, none⟩) m capq)] ?_
         refine od_ ?_
         exact wk (hmx29 () trivial) [3, 42, 43, 44, 45] [[_], [_], [_], [_], [bx g14 cs14 46], _, _] [0, 1, 2, 3, 4, 5, 6] rfl rfl
        ·
         refine cP (fun v L' => ∃ q_ c_ Y_, v = .slice q_ n c_ ∧ L' = List.take 4 (bx (γ1 0) (#[.pointer (some ⟨gb, 0, none⟩)]) 72 :: bx gb (#[.slice (some ⟨g14, 0, none⟩) m capq]) 38 :: bx gm (#[.slice p n cap]) 25 :: bx gi (#[.int .i64 (j + 1 : Nat)]) 3 :: ([bx g14 cs14 46] ++ (Yi ++ (YR ++ [])))) ++ (Y_ ++ List.drop 4 (bx (γ1 0) (#[.pointer (some ⟨gb, 0, none⟩)]) 72 :: bx gb (#[.slice (some ⟨g14, 0, none⟩) m capq]) 38 :: bx gm (#[.slice p n cap]) 25 :: bx gi (#[.int .i64 (j + 1 : Nat)]) 3 :: ([bx g14 cs14 46] ++ (Yi ++ (YR ++ []))))) ∧ SlO 3 Y_ q_ n c_ l) Try.call44 (fun w hw => (cloneints_t p n cap l w (hsl.kept hw.below) hn (by omega)).mono fun e w' ⟨q_, c_, Y_, he, hO, hb, hY⟩ => ⟨_, _, he, ⟨q_, c_, Y_, rfl, rfl, hO⟩, hw.join hb hY 4⟩) ?_
         rintro v192 L192 ⟨q192, cq192, Y192, rfl, rfl, hO192⟩
         refine od_ ?_
         refine tk (m := 7) [9] [] [3, 41, 43] [(47, .agg #[.int .i64 (j + 1 : Nat), .slice q192 n cq192])] ([]) #[false, true, true, true, false, true, true, true, true, true, false, false, false, false, false] al0 ?_
         exact wk (hmx32 (Y192, cq192, q192) hO192) [3, 41, 43, 47] [[_], [_], [_], [_], _, [bx g14 cs14 46], _, _] [0, 1, 2, 3, 4, 5, 6, 7] rfl rfl
       refine any_cutX (V := Unit) (fun _ => True) 9 #[true, true, true, true, false, true, false, true, false, false, false, false, false, false, false] (fun _ => [(2, .pointer (some ⟨gi, 0, none⟩)), (38, .pointer (some ⟨gb, 0, none⟩)), (41, .pointer (some ⟨gb, 0, none⟩)), (43, .int .i64 (j : Nat)), (45, .slice p n cap)]) (fun _ => bx (γ1 0) (#[.pointer (some ⟨gb, 0, none⟩)]) 72 :: bx gb (#[.slice (some ⟨g14, 0, none⟩) m capq]) 38 :: bx gm (#[.slice p n cap]) 25 :: bx gi (#[.int .i64 (j + 1 : Nat)]) 3 :: ([bx g14 cs14 46] ++ (Yi ++ (YR ++ [])))) ?_ (fun hmx17 => ?_)
       ·
        rintro _ _
        refine any_fork [4, 6, 8] (by kernel_rfl) (by simp) (each_cons _ rfl ?_ (each_cons _ rfl ?_ (each_cons _ rfl ?_ (each_nil))))
        ·
         refine qo0 1 [(4, .go (owns 1 0 1))] [2, 38, 43, 45] [(42, .slice (some ⟨g14, 0, none⟩) m capq)] ?_
         refine od_ ?_
         exact wk (hmx28 () trivial) [2, 38, 42, 43, 45] [[_], [_], [_], [_], [bx g14 cs14 46], _, _] [0, 1, 2, 3, 4, 5, 6] rfl rfl
        ·
         refine qo0 1 [(6, .go (owns 3 0 1))] [38, 41, 43, 45] [(44, .int .i64 (j + 1 : Nat))] ?_
         refine od_ ?_
         exact wk (hmx25 () trivial) [38, 41, 43, 44, 45] [[_], [_], [_], [_], [bx g14 cs14 46], _, _] [0, 1, 2, 3, 4, 5, 6] rfl rfl
        ·
         refine cP (fun v L' => ∃ q_ c_ Y_, v = .slice q_ n c_ ∧ L' = List.take 4 (bx (γ1 0) (#[.pointer (some ⟨gb, 0, none⟩)]) 72 :: bx gb (#[.slice (some ⟨g14, 0, none⟩) m capq]) 38 :: bx gm (#[.slice p n cap]) 25 :: bx gi (#[.int .i64 (j + 1 : Nat)]) 3 :: ([bx g14 cs14 46] ++ (Yi ++ (YR ++ [])))) ++ (Y_ ++ List.drop 4 (bx (γ1 0) (#[.pointer (some ⟨gb, 0, none⟩)]) 72 :: bx gb (#[.slice (some ⟨g14, 0, none⟩) m capq]) 38 :: bx gm (#[.slice p n cap]) 25 :: bx gi (#[.int .i64 (j + 1 : Nat)]) 3 :: ([bx g14 cs14 46] ++ (Yi ++ (YR ++ []))))) ∧ SlO 3 Y_ q_ n c_ l) Try.call44 (fun w hw => (cloneints_t p n cap l w (hsl.kept hw.below) hn (by omega)).mono fun e w' ⟨q_, c_, Y_, he, hO, hb, hY⟩ => ⟨_, _, he, ⟨q_, c_, Y_, rfl, rfl, hO⟩, hw.join hb hY 4⟩) ?_
         rintro v192 L192 ⟨q192, cq192, Y192, rfl, rfl, hO192⟩
         refine od_ ?_
         exact wk (hmx26 (Y192, cq192, q192) hO192) [2, 38, 41, 43, 46] [[_], [_], [_], [_], _, [bx g14 cs14 46], _, _] [0, 1, 2, 3, 4, 5, 6, 7] rfl rfl
       refine any_cutX (V := Unit) (fun _ => True) 9 #[true, true, true, true, false, true, true, false, false, false, false, false, false, false, false] (fun _ => [(1, .pointer (some ⟨gm, 0, none⟩)), (38, .pointer (some ⟨gb, 0, none⟩)), (41, .pointer (some ⟨gb, 0, none⟩)), (43, .int .i64 (j : Nat)), (44, .int .i64 (j + 1 : Nat))]) (fun _ => bx (γ1 0) (#[.pointer (some ⟨gb, 0, none⟩)]) 72 :: bx gb (#[.slice (some ⟨g14, 0, none⟩) m capq]) 38 :: bx gm (#[.slice p n cap]) 25 :: bx gi (#[.int .i64 (j + 1 : Nat)]) 3 :: ([bx g14 cs14 46] ++ (Yi ++ (YR ++ [])))) ?_ (fun hmx16 => ?_)
       ·
        rintro _ _
        refine any_fork [4, 7] (by kernel_rfl) (by simp) (each_cons _ rfl ?_ (each_cons _ rfl ?_ (each_nil)))
        ·
         refine qo0 1 [(4, .go (owns 1 0 1))] [1, 38, 43, 44] [(42, .slice (some ⟨g14, 0, none⟩) m capq)] ?_
         refine od_ ?_
         exact wk (hmx27 () trivial) [1, 38, 42, 43, 44] [[_], [_], [_], [_], [bx g14 cs14 46], _, _] [0, 1, 2, 3, 4, 5, 6] rfl rfl
        ·
         refine qo0 1 [(7, .go (owns 2 0 1))] [38, 41, 43, 44] [(45, .slice p n cap)] ?_
         refine od_ ?_
         exact wk (hmx25 () trivial) [38, 41, 43, 44, 45] [[_], [_], [_], [_], [bx g14 cs14 46], _, _] [0, 1, 2, 3, 4, 5, 6] rfl rfl
       refine any_cutX (V := Unit) (fun _ => True) 10 #[false, true, true, true, true, true, false, false, false, false, false, false, false, false, false] (fun _ => [(1, .pointer (some ⟨gm, 0, none⟩)), (2, .pointer (some ⟨gi, 0, none⟩)), (3, .pointer (some ⟨γ1 0, 0, none⟩)), (42, .slice (some ⟨g14, 0, none⟩) m capq), (43, .int .i64 (j : Nat))]) (fun _ => bx (γ1 0) (#[.pointer (some ⟨gb, 0, none⟩)]) 72 :: bx gb (#[.slice (some ⟨g14, 0, none⟩) m capq]) 38 :: bx gm (#[.slice p n cap]) 25 :: bx gi (#[.int .i64 (j + 1 : Nat)]) 3 :: ([bx g14 cs14 46] ++ (Yi ++ (YR ++ [])))) ?_ (fun hmx15 => ?_)
       ·
        rintro _ _
        refine any_fork [0, 6, 7] (by kernel_rfl) (by simp) (each_cons _ rfl ?_ (each_cons _ rfl ?_ (each_cons _ rfl ?_ (each_nil))))
        ·
         refine qo0 1 [(0, .go (owns 0 0 1))] [1, 2, 42, 43] [(38, .pointer (some ⟨gb, 0, none⟩))] ?_
         refine od_ ?_
         exact wk (hmx21 () trivial) [1, 2, 38, 42, 43] [[_], [_], [_], [_], [bx g14 cs14 46], _, _] [0, 1, 2, 3, 4, 5, 6] rfl rfl
        ·
         refine qo0 1 [(6, .go (owns 3 0 1))] [1, 3, 42, 43] [(44, .int .i64 (j + 1 : Nat))] ?_
         refine od_ ?_
         exact wk (hmx22 () trivial) [1, 3, 42, 43, 44] [[_], [_], [_], [_], [bx g14 cs14 46], _, _] [0, 1, 2, 3, 4, 5, 6] rfl rfl
        ·
         refine qo0 1 [(7, .go (owns 2 0 1))] [2, 3, 42, 43] [(45, .slice p n cap)] ?_
         refine od_ ?_
         exact wk (hmx23 () trivial) [2, 3, 42, 43, 45] [[_], [_], [_], [_], [bx g14 cs14 46], _, _] [0, 1, 2, 3, 4, 5, 6] rfl rfl
       refine any_cutX (V := (List Ob) × (Nat) × (Option Addr)) (fun ⟨Y192, cq192, q192⟩ => SlO 3 Y192 q192 n cq192 l) 10 #[false, false, false, false, false, true, true, true, true, true, false, false, false, false, false] (fun ⟨Y192, cq192, q192⟩ => [(3, .pointer (some ⟨γ1 0, 0, none⟩)), (43, .int .i64 (j : Nat)), (47, .agg #[.int .i64 (j + 1 : Nat), .slice q192 n cq192])]) (fun ⟨Y192, cq192, q192⟩ => bx (γ1 0) (#[.pointer (some ⟨gb, 0, none⟩)]) 72 :: bx gb (#[.slice (some ⟨g14, 0, none⟩) m capq]) 38 :: bx gm (#[.slice p n cap]) 25 :: bx gi (#[.int .i64 (j + 1 : Nat)]) 3 :: (Y192 ++ ([bx g14 cs14 46] ++ (Yi ++ (YR ++ []))))) ?_ (fun hmx14 => ?_)
       ·
        rintro ⟨Y192, cq192, q192⟩ hO192
        refine any_fork [0, 1, 10] (by kernel_rfl) (by simp) (each_cons _ rfl ?_ (each_cons _ rfl ?_ (each_cons _ rfl ?_ (each_nil))))
        ·
         refine qo0 1 [(0, .go (owns 0 0 1))] [3, 43, 47] [(38, .pointer (some ⟨gb, 0, none⟩))] ?_
         refine od_ ?_
         exact wk (hmx20 (Y192, cq192, q192) hO192) [3, 38, 43, 47] [[_], [_], [_], [_], _, [bx g14 cs14 46], _, _] [0, 1, 2, 3, 4, 5, 6, 7] rfl rfl
        ·
         refine qo0 1 [(1, .go (owns 0 0 1))] [3, 43, 47] [(39, .pointer (some ⟨gb, 0, none⟩))] ?_
         refine od_ ?_
         refine tk (m := 7) [2, 3] [] [3, 43, 47] [(41, .pointer (some ⟨gb, 0, none⟩))] ([]) #[false, true, true, true, false, true, true, true, true, true, false, false, false, false, false] al0 ?_
         exact wk (hmx32 (Y192, cq192, q192) hO192) [3, 41, 43, 47] [[_], [_], [_], [_], _, [bx g14 cs14 46], _, _] [0, 1, 2, 3, 4, 5, 6, 7] rfl rfl
        ·
         refine mo0 1 [] [3, 43] (fun γ232 => [(48, .slice (some ⟨γ232 0, 0, none⟩) 1 1)]) (fun γ232 L => bx (γ232 0) (#[.int .i64 (j + 1 : Nat), .slice q192 n cq192]) 46 :: L) (fun γ232 => ?_)
         refine od_ ?_
         exact wk (hmx24 (Y192, cq192, q192, γ232) hO192) [3, 43, 48] [[_], [_], [_], [_], [_], _, [bx g14 cs14 46], _, _] [0, 1, 2, 3, 4, 5, 6, 7, 8] rfl rfl
       refine any_cutX (V := Unit) (fun _ => True) 10 #[false, true, true, true, false, true, false, true, false, false, false, false, false, false, false] (fun _ => [(2, .pointer (some ⟨gi, 0, none⟩)), (3, .pointer (some ⟨γ1 0, 0, none⟩)), (41, .pointer (some ⟨gb, 0, none⟩)), (43, .int .i64 (j : Nat)), (45, .slice p n cap)]) (fun _ => bx (γ1 0) (#[.pointer (some ⟨gb, 0, none⟩)]) 72 :: bx gb (#[.slice (some ⟨g14, 0, none⟩) m capq]) 38 :: bx gm (#[.slice p n cap]) 25 :: bx gi (#[.int .i64 (j + 1 : Nat)]) 3 :: ([bx g14 cs14 46] ++ (Yi ++ (YR ++ [])))) ?_ (fun hmx13 => ?_)
       ·
        rintro _ _
        refine any_fork [0, 4, 6, 8] (by kernel_rfl) (by simp) (each_cons _ rfl ?_ (each_cons _ rfl ?_ (each_cons _ rfl ?_ (each_cons _ rfl ?_ (each_nil)))))
        ·
         refine qo0 1 [(0, .go (owns 0 0 1))] [2, 41, 43, 45] [(38, .pointer (some ⟨gb, 0, none⟩))] ?_
         refine od_ ?_
         exact wk (hmx17 () trivial) [2, 38, 41, 43, 45] [[_], [_], [_], [_], [bx g14 cs14 46], _, _] [0, 1, 2, 3, 4, 5, 6] rfl rfl
        ·
         refine qo0 1 [(4, .go (owns 1 0 1))] [2, 3, 43, 45] [(42, .slice (some ⟨g14, 0, none⟩) m capq)] ?_
         refine od_ ?_
         exact wk (hmx23 () trivial) [2, 3, 42, 43, 45] [[_], [_], [_], [_], [bx g14 cs14 46], _, _] [0, 1, 2, 3, 4, 5, 6] rfl rfl
        ·
         refine qo0 1 [(6, .go (owns 3 0 1))] [3, 41, 43, 45] [(44, .int .i64 (j + 1 : Nat))] ?_
         refine od_ ?_
         exact wk (hmx18 () trivial) [3, 41, 43, 44, 45] [[_], [_], [_], [_], [bx g14 cs14 46], _, _] [0, 1, 2, 3, 4, 5, 6] rfl rfl
        ·
         refine cP (fun v L' => ∃ q_ c_ Y_, v = .slice q_ n c_ ∧ L' = List.take 4 (bx (γ1 0) (#[.pointer (some ⟨gb, 0, none⟩)]) 72 :: bx gb (#[.slice (some ⟨g14, 0, none⟩) m capq]) 38 :: bx gm (#[.slice p n cap]) 25 :: bx gi (#[.int .i64 (j + 1 : Nat)]) 3 :: ([bx g14 cs14 46] ++ (Yi ++ (YR ++ [])))) ++ (Y_ ++ List.drop 4 (bx (γ1 0) (#[.pointer (some ⟨gb, 0, none⟩)]) 72 :: bx gb (#[.slice (some ⟨g14, 0, none⟩) m capq]) 38 :: bx gm (#[.slice p n cap]) 25 :: bx gi (#[.int .i64 (j + 1 : Nat)]) 3 :: ([bx g14 cs14 46] ++ (Yi ++ (YR ++ []))))) ∧ SlO 3 Y_ q_ n c_ l) Try.call44 (fun w hw => (cloneints_t p n cap l w (hsl.kept hw.below) hn (by omega)).mono fun e w' ⟨q_, c_, Y_, he, hO, hb, hY⟩ => ⟨_, _, he, ⟨q_, c_, Y_, rfl, rfl, hO⟩, hw.join hb hY 4⟩) ?_
         rintro v192 L192 ⟨q192, cq192, Y192, rfl, rfl, hO192⟩
         refine od_ ?_
         exact wk (hmx19 (Y192, cq192, q192) hO192) [2, 3, 41, 43, 46] [[_], [_], [_], [_], _, [bx g14 cs14 46], _, _] [0, 1, 2, 3, 4, 5, 6, 7] rfl rfl
       refine any_cutX (V := Unit) (fun _ => True) 10 #[false, true, true, true, false, true, true, false, false, false, false, false, false, false, false] (fun _ => [(1, .pointer (some ⟨gm, 0, none⟩)), (3, .pointer (some ⟨γ1 0, 0, none⟩)), (41, .pointer (some ⟨gb, 0, none⟩)), (43, .int .i64 (j : Nat)), (44, .int .i64 (j + 1 : Nat))]) (fun _ => bx (γ1 0) (#[.pointer (some ⟨gb, 0, none⟩)]) 72 :: bx gb (#[.slice (some ⟨g14, 0, none⟩) m capq]) 38 :: bx gm (#[.slice p n cap]) 25 :: bx gi (#[.int .i64 (j + 1 : Nat)]) 3 :: ([bx g14 cs14 46] ++ (Yi ++ (YR ++ [])))) ?_ (fun hmx12 => ?_)
       ·
        rintro _ _
        refine any_fork [0, 4, 7] (by kernel_rfl) (by simp) (each_cons _ rfl ?_ (each_cons _ rfl ?_ (each_cons _ rfl ?_ (each_nil))))
        ·
         refine qo0 1 [(0, .go (owns 0 0 1))] [1, 41, 43, 44] [(38, .pointer (some ⟨gb, 0, none⟩))] ?_
         refine od_ ?_
         exact wk (hmx16 () trivial) [1, 38, 41, 43, 44] [[_], [_], [_], [_], [bx g14 cs14 46], _, _] [0, 1, 2, 3, 4, 5, 6] rfl rfl
        ·
         refine qo0 1 [(4, .go (owns 1 0 1))] [1, 3, 43, 44] [(42, .slice (some ⟨g14, 0, none⟩) m capq)] ?_
         refine od_ ?_
         exact wk (hmx22 () trivial) [1, 3, 42, 43, 44] [[_], [_], [_], [_], [bx g14 cs14 46], _, _] [0, 1, 2, 3, 4, 5, 6] rfl rfl
        ·
         refine qo0 1 [(7, .go (owns 2 0 1))] [3, 41, 43, 44] [(45, .slice p n cap)] ?_
         refine od_ ?_
         exact wk (hmx18 () trivial) [3, 41, 43, 44, 45] [[_], [_], [_], [_], [bx g14 cs14 46], _, _] [0, 1, 2, 3, 4, 5, 6] rfl rfl
       refine any_cutX (V := Unit) (fun _ => True) 10 #[true, true, true, true, false, true, false, false, false, false, false, false, false, false, false] (fun _ => [(1, .pointer (some ⟨gm, 0, none⟩)), (2, .pointer (some ⟨gi, 0, none⟩)), (38, .pointer (some ⟨gb, 0, none⟩)), (41, .pointer (some ⟨gb, 0, none⟩)), (43, .int .i64 (j : Nat))]) (fun _ => bx (γ1 0) (#[.pointer (some ⟨gb, 0, none⟩)]) 72 :: bx gb (#[.slice (some ⟨g14, 0, none⟩) m capq]) 38 :: bx gm (#[.slice p n cap]) 25 :: bx gi (#[.int .i64 (j + 1 : Nat)]) 3 :: ([bx g14 cs14 46] ++ (Yi ++ (YR ++ [])))) ?_ (fun hmx11 => ?_)
       ·
        rintro _ _
        refine any_fork [4, 6, 7] (by kernel_rfl) (by simp) (each_cons _ rfl ?_ (each_cons _ rfl ?_ (each_cons _ rfl ?_ (each_nil))))
        ·
         refine qo0 1 [(4, .go (owns 1 0 1))] [1, 2, 38, 43] [(42, .slice (some ⟨g14, 0, none⟩) m capq)] ?_
         refine od_ ?_
         exact wk (hmx21 () trivial) [1, 2, 38, 42, 43] [[_], [_], [_], [_], [bx g14 cs14 46], _, _] [0, 1, 2, 3, 4, 5, 6] rfl rfl
        ·
         refine qo0 1 [(6, .go (owns 3 0 1))] [1, 38, 41, 43] [(44, .int .i64 (j + 1 : Nat))] ?_
         refine od_ ?_
         exact wk (hmx16 () trivial) [1, 38, 41, 43, 44] [[_], [_], [_], [_], [bx g14 cs14 46], _, _] [0, 1, 2, 3, 4, 5, 6] rfl rfl
        ·
         refine qo0 1 [(7, .go (owns 2 0 1))] [2, 38, 41, 43] [(45, .slice p n cap)] ?_
         refine od_ ?_
         exact wk (hmx17 () trivial) [2, 38, 41, 43, 45] [[_], [_], [_], [_], [bx g14 cs14 46], _, _] [0, 1, 2, 3, 4, 5, 6] rfl rfl
       refine any_cutX (V := (List Ob) × (Nat) × (Option Addr)) (fun ⟨Y192, cq192, q192⟩ => SlO 3 Y192 q192 n cq192 l) 11 #[true, false, false, false, false, true, false, true, true, false, false, false, false, false, false] (fun ⟨Y192, cq192, q192⟩ => [(2, .pointer (some ⟨gi, 0, none⟩)), (3, .pointer (some ⟨γ1 0, 0, none⟩)), (38, .pointer (some ⟨gb, 0, none⟩)), (43, .int .i64 (j : Nat)), (46, .slice q192 n cq192)]) (fun ⟨Y192, cq192, q192⟩ => bx (γ1 0) (#[.pointer (some ⟨gb, 0, none⟩)]) 72 :: bx gb (#[.slice (some ⟨g14, 0, none⟩) m capq]) 38 :: bx gm (#[.slice p n cap]) 25 :: bx gi (#[.int .i64 (j + 1 : Nat)]) 3 :: (Y192 ++ ([bx g14 cs14 46] ++ (Yi ++ (YR ++ []))))) ?_ (fun hmx10 => ?_)
       ·
        rintro ⟨Y192, cq192, q192⟩ hO192
        refine any_fork [1, 6] (by kernel_rfl) (by simp) (each_cons _ rfl ?_ (each_cons _ rfl ?_ (each_nil)))
        ·
         refine qo0 1 [(1, .go (owns 0 0 1))] [2, 38, 43, 46] [(39, .pointer (some ⟨gb, 0, none⟩))] ?_
         refine od_ ?_
         refine tk (m := 8) [2, 3] [] [2, 38, 43, 46] [(41, .pointer (some ⟨gb, 0, none⟩))] ([]) #[true, true, true, true, false, true, false, true, true, false, false, false, false, false, false] al0 ?_
         exact wk (hmx26 (Y192, cq192, q192) hO192) [2, 38, 41, 43, 46] [[_], [_], [_], [_], _, [bx g14 cs14 46], _, _] [0, 1, 2, 3, 4, 5, 6, 7] rfl rfl
        ·
         refine qo0 1 [(6, .go (owns 3 0 1))] [3, 38, 43, 46] [(44, .int .i64 (j + 1 : Nat))] ?_
         refine od_ ?_
         refine tk (m := 9) [9] [] [3, 38, 43] [(47, .agg #[.int .i64 (j + 1 : Nat), .slice q192 n cq192])] ([]) #[true, false, false, false, false, true, true, true, true, true, false, false, false, false, false] al0 ?_
         exact wk (hmx20 (Y192, cq192, q192) hO192) [3, 38, 43, 47] [[_], [_], [_], [_], _, [bx g14 cs14 46], _, _] [0, 1, 2, 3, 4, 5, 6, 7] rfl rfl
       refine any_cutX (V := Unit) (fun _ => True) 11 #[true, false, false, false, false, true, true, true, false, false, false, false, false, false, false] (fun _ => [(3, .pointer (some ⟨γ1 0, 0, none⟩)), (38, .pointer (some ⟨gb, 0, none⟩)), (43, .int .i64 (j : Nat)), (44, .int .i64 (j + 1 : Nat)), (45, .slice p n cap)]) (fun _ => bx (γ1 0) (#[.pointer (some ⟨gb, 0, none⟩)]) 72 :: bx gb (#[.slice (some ⟨g14, 0, none⟩) m capq]) 38 :: bx gm (#[.slice p n cap]) 25 :: bx gi (#[.int .i64 (j + 1 : Nat)]) 3 :: ([bx g14 cs14 46] ++ (Yi ++ (YR ++ [])))) ?_ (fun hmx9 => ?_)
       ·
        rintro _ _
        refine any_fork [1, 8] (by kernel_rfl) (by simp) (each_cons _ rfl ?_ (each_cons _ rfl ?_ (each_nil)))
        ·
         refine qo0 1 [(1, .go (owns 0 0 1))] [38, 43, 44, 45] [(39, .pointer (some ⟨gb, 0, none⟩))] ?_
         refine od_ ?_
         refine tk (m := 8) [2, 3] [] [38, 43, 44, 45] [(41, .pointer (some ⟨gb, 0, none⟩))] ([]) #[true, true, true, true, false, true, true, true, false, false, false, false, false, false, false] al0 ?_
         exact wk (hmx25 () trivial) [38, 41, 43, 44, 45] [[_], [_], [_], [_], [bx g14 cs14 46], _, _] [0, 1, 2, 3, 4, 5, 6] rfl rfl
        ·
         refine cP (fun v L' => ∃ q_ c_ Y_, v = .slice q_ n c_ ∧ L' = List.take 4 (bx (γ1 0) (#[.pointer (some ⟨gb, 0, none⟩)]) 72 :: bx gb (#[.slice (some ⟨g14, 0, none⟩) m capq]) 38 :: bx gm (#[.slice p n cap]) 25 :: bx gi (#[.int .i64 (j + 1 : Nat)]) 3 :: ([bx g14 cs14 46] ++ (Yi ++ (YR ++ [])))) ++ (Y_ ++ List.drop 4 (bx (γ1 0) (#[.pointer (some ⟨gb, 0, none⟩)]) 72 :: bx gb (#[.slice (some ⟨g14, 0, none⟩) m capq]) 38 :: bx gm (#[.slice p n cap]) 25 :: bx gi (#[.int .i64 (j + 1 : Nat)]) 3 :: ([bx g14 cs14 46] ++ (Yi ++ (YR ++ []))))) ∧ SlO 3 Y_ q_ n c_ l) Try.call44 (fun w hw => (cloneints_t p n cap l w (hsl.kept hw.below) hn (by omega)).mono fun e w' ⟨q_, c_, Y_, he, hO, hb, hY⟩ => ⟨_, _, he, ⟨q_, c_, Y_, rfl, rfl, hO⟩, hw.join hb hY 4⟩) ?_
         rintro v192 L192 ⟨q192, cq192, Y192, rfl, rfl, hO192⟩
         refine od_ ?_
         refine tk (m := 9) [9] [] [3, 38, 43] [(47, .agg #[.int .i64 (j + 1 : Nat), .slice q192 n cq192])] ([]) #[true, false, false, false, false, true, true, true, true, true, false, false, false, false, false] al0 ?_
         exact wk (hmx20 (Y192, cq192, q192) hO192) [3, 38, 43, 47] [[_], [_], [_], [_], _, [bx g14 cs14 46], _, _] [0, 1, 2, 3, 4, 5, 6, 7] rfl rfl
       refine any_cutX (V := Unit) (fun _ => True) 11 #[false, true, true, true, false, true, false, false, false, false, false, false, false, false, false] (fun _ => [(1, .pointer (some ⟨gm, 0, none⟩)), (2, .pointer (some ⟨gi, 0, none⟩)), (3, .pointer (some ⟨γ1 0, 0, none⟩)), (41, .pointer (some ⟨gb, 0, none⟩)), (43, .int .i64 (j : Nat))]) (fun _ => bx (γ1 0) (#[.pointer (some ⟨gb, 0, none⟩)]) 72 :: bx gb (#[.slice (some ⟨g14, 0, none⟩) m capq]) 38 :: bx gm (#[.slice p n cap]) 25 :: bx gi (#[.int .i64 (j + 1 : Nat)]) 3 :: ([bx g14 cs14 46] ++ (Yi ++ (YR ++ [])))) ?_ (fun hmx8 => ?_)
       ·
        rintro _ _
        refine any_fork [0, 4, 6, 7] (by kernel_rfl) (by simp) (each_cons _ rfl ?_ (each_cons _ rfl ?_ (each_cons _ rfl ?_ (each_cons _ rfl ?_ (each_nil)))))
        ·
         refine qo0 1 [(0, .go (owns 0 0 1))] [1, 2, 41, 43] [(38, .pointer (some ⟨gb, 0, none⟩))] ?_
         refine od_ ?_
         exact wk (hmx11 () trivial) [1, 2, 38, 41, 43] [[_], [_], [_], [_], [bx g14 cs14 46], _, _] [0, 1, 2, 3, 4, 5, 6] rfl rfl
        ·
         refine qo0 1 [(4, .go (owns 1 0 1))] [1, 2, 3, 43] [(42, .slice (some ⟨g14, 0, none⟩) m capq)] ?_
         refine od_ ?_
         exact wk (hmx15 () trivial) [1, 2, 3, 42, 43] [[_], [_], [_], [_], [bx g14 cs14 46], _, _] [0, 1, 2, 3, 4, 5, 6] rfl rfl
        ·
         refine qo0 1 [(6, .go (owns 3 0 1))] [1, 3, 41, 43] [(44, .int .i64 (j + 1 : Nat))] ?_
         refine od_ ?_
         exact wk (hmx12 () trivial) [1, 3, 41, 43, 44] [[_], [_], [_], [_], [bx g14 cs14 46], _, _] [0, 1, 2, 3, 4, 5, 6] rfl rfl
        ·
         refine qo0 1 [(7, .go (owns 2 0 1))] [2, 3, 41, 43] [(45, .slice p n cap)] ?_
         refine od_ ?_
         exact wk (hmx13 () trivial) [2, 3, 41, 43, 45] [[_], [_], [_], [_], [bx g14 cs14 46], _, _] [0, 1, 2, 3, 4, 5, 6] rfl rfl
       refine any_cutX (V := (List Ob) × (Nat) × (Option Addr)) (fun ⟨Y192, cq192, q192⟩ => SlO 3 Y192 q192 n cq192 l) 12 #[false, false, false, false, false, true, false, true, true, false, false, false, false, false, false] (fun ⟨Y192, cq192, q192⟩ => [(2, .pointer (some ⟨gi, 0, none⟩)), (3, .pointer (some ⟨γ1 0, 0, none⟩)), (43, .int .i64 (j : Nat)), (46, .slice q192 n cq192)]) (fun ⟨Y192, cq192, q192⟩ => bx (γ1 0) (#[.pointer (some ⟨gb, 0, none⟩)]) 72 :: bx gb (#[.slice (some ⟨g14, 0, none⟩) m capq]) 38 :: bx gm (#[.slice p n cap]) 25 :: bx gi (#[.int .i64 (j + 1 : Nat)]) 3 :: (Y192 ++ ([bx g14 cs14 46] ++ (Yi ++ (YR ++ []))))) ?_ (fun hmx7 => ?_)
       ·
        rintro ⟨Y192, cq192, q192⟩ hO192
        refine any_fork [0, 1, 6] (by kernel_rfl) (by simp) (each_cons _ rfl ?_ (each_cons _ rfl ?_ (each_cons _ rfl ?_ (each_nil))))
        ·
         refine qo0 1 [(0, .go (owns 0 0 1))] [2, 3, 43, 46] [(38, .pointer (some ⟨gb, 0, none⟩))] ?_
         refine od_ ?_
         exact wk (hmx10 (Y192, cq192, q192) hO192) [2, 3, 38, 43, 46] [[_], [_], [_], [_], _, [bx g14 cs14 46], _, _] [0, 1, 2, 3, 4, 5, 6, 7] rfl rfl
        ·
         refine qo0 1 [(1, .go (owns 0 0 1))] [2, 3, 43, 46] [(39, .pointer (some ⟨gb, 0, none⟩))] ?_
         refine od_ ?_
         refine tk (m := 9) [2, 3] [] [2, 3, 43, 46] [(41, .pointer (some ⟨gb, 0, none⟩))] ([]) #[false, true, true, true, false, true, false, true, true, false, false, false, false, false, false] al0 ?_
         exact wk (hmx19 (Y192, cq192, q192) hO192) [2, 3, 41, 43, 46] [[_], [_], [_], [_], _, [bx g14 cs14 46], _, _] [0, 1, 2, 3, 4, 5, 6, 7] rfl rfl
        ·
         refine qo0 1 [(6, .go (owns 3 0 1))] [3, 43, 46] [(44, .int .i64 (j + 1 : Nat))] ?_
         refine od_ ?_
         refine tk (m := 10) [9] [] [3, 43] [(47, .agg #[.int .i64 (j + 1 : Nat), .slice q192 n cq192])] ([]) #[false, false, false, false, false, true, true, true, true, true, false, false, false, false, false] al0 ?_
         exact wk (hmx14 (Y192, cq192, q192) hO192) [3, 43, 47] [[_], [_], [_], [_], _, [bx g14 cs14 46], _, _] [0, 1, 2, 3, 4, 5, 6, 7] rfl rfl
       refine any_cutX (V := Unit) (fun _ => True) 12 #[false, false, false, false, false, true, true, true, false, false, false, false, false, false, false] (fun _ => [(3, .pointer (some ⟨γ1 0, 0, none⟩)), (43, .int .i64 (j : Nat)), (44, .int .i64 (j + 1 : Nat)), (45, .slice p n cap)]) (fun _ => bx (γ1 0) (#[.pointer (some ⟨gb, 0, none⟩)]) 72 :: bx gb (#[.slice (some ⟨g14, 0, none⟩) m capq]) 38 :: bx gm (#[.slice p n cap]) 25 :: bx gi (#[.int .i64 (j + 1 : Nat)]) 3 :: ([bx g14 cs14 46] ++ (Yi ++ (YR ++ [])))) ?_ (fun hmx6 => ?_)
       ·
        rintro _ _
        refine any_fork [0, 1, 8] (by kernel_rfl) (by simp) (each_cons _ rfl ?_ (each_cons _ rfl ?_ (each_cons _ rfl ?_ (each_nil))))
        ·
         refine qo0 1 [(0, .go (owns 0 0 1))] [3, 43, 44, 45] [(38, .pointer (some ⟨gb, 0, none⟩))] ?_
         refine od_ ?_
         exact wk (hmx9 () trivial) [3, 38, 43, 44, 45] [[_], [_], [_], [_], [bx g14 cs14 46], _, _] [0, 1, 2, 3, 4, 5, 6] rfl rfl
        ·
         refine qo0 1 [(1, .go (owns 0 0 1))] [3, 43, 44, 45] [(39, .pointer (some ⟨gb, 0, none⟩))] ?_
         refine od_ ?_
         refine tk (m := 9) [2, 3] [] [3, 43, 44, 45] [(41, .pointer (some ⟨gb, 0, none⟩))] ([]) #[false, true, true, true, false, true, true, true, false, false, false, false, false, false, false] al0 ?_
         exact wk (hmx18 () trivial) [3, 41, 43, 44, 45] [[_], [_], [_], [_], [bx g14 cs14 46], _, _] [0, 1, 2, 3, 4, 5, 6] rfl rfl
        ·
         refine cP (fun v L' => ∃ q_ c_ Y_, v = .slice q_ n c_ ∧ L' = List.take 4 (bx (γ1 0) (#[.pointer (some ⟨gb, 0, none⟩)]) 72 :: bx gb (#[.slice (some ⟨g14, 0, none⟩) m capq]) 38 :: bx gm (#[.slice p n cap]) 25 :: bx gi (#[.int .i64 (j + 1 : Nat)]) 3 :: ([bx g14 cs14 46] ++ (Yi ++ (YR ++ [])))) ++ (Y_ ++ List.drop 4 (bx (γ1 0) (#[.pointer (some ⟨gb, 0, none⟩)]) 72 :: bx gb (#[.slice (some ⟨g14, 0, none⟩) m capq]) 38 :: bx gm (#[.slice p n cap]) 25 :: bx gi (#[.int .i64 (j + 1 : Nat)]) 3 :: ([bx g14 cs14 46] ++ (Yi ++ (YR ++ []))))) ∧ SlO 3 Y_ q_ n c_ l) Try.call44 (fun w hw => (cloneints_t p n cap l w (hsl.kept hw.below) hn (by omega)).mono fun e w' ⟨q_, c_, Y_, he, hO, hb, hY⟩ => ⟨_, _, he, ⟨q_, c_, Y_, rfl, rfl, hO⟩, hw.join hb hY 4⟩) ?_
         rintro v192 L192 ⟨q192, cq192, Y192, rfl, rfl, hO192⟩
         refine od_ ?_
         refine tk (m := 10) [9] [] [3, 43] [(47, .agg #[.int .i64 (j + 1 : Nat), .slice q192 n cq192])] ([]) #[false, false, false, false, false, true, true, true, true, true, false, false, false, false, false] al0 ?_
         exact wk (hmx14 (Y192, cq192, q192) hO192) [3, 43, 47] [[_], [_], [_], [_], _, [bx g14 cs14 46], _, _] [0, 1, 2, 3, 4, 5, 6, 7] rfl rfl
       refine any_cutX (V := Unit) (fun _ => True) 12 #[true, false, false, false, false, true, false, true, false, false, false, false, false, false, false] (fun _ => [(2, .pointer (some ⟨gi, 0, none⟩)), (3, .pointer (some ⟨γ1 0, 0, none⟩)), (38, .pointer (some ⟨gb, 0, none⟩)), (43, .int .i64 (j : Nat)), (45, .slice p n cap)]) (fun _ => bx (γ1 0) (#[.pointer (some ⟨gb, 0, none⟩)]) 72 :: bx gb (#[.slice (some ⟨g14, 0, none⟩) m capq]) 38 :: bx gm (#[.slice p n cap]) 25 :: bx gi (#[.int .i64 (j + 1 : Nat)]) 3 :: ([bx g14 cs14 46] ++ (Yi ++ (YR ++ [])))) ?_ (fun hmx5 => ?_)
       ·
        rintro _ _
        refine any_fork [1, 6, 8] (by kernel_rfl) (by simp) (each_cons _ rfl ?_ (each_cons _ rfl ?_ (each_cons _ rfl ?_ (each_nil))))
        ·
         refine qo0 1 [(1, .go (owns 0 0 1))] [2, 38, 43, 45] [(39, .pointer (some ⟨gb, 0, none⟩))] ?_
         refine od_ ?_
         refine tk (m := 9) [2, 3] [] [2, 38, 43, 45] [(41, .pointer (some ⟨gb, 0, none⟩))] ([]) #[true, true, true, true, false, true, false, true, false, false, false, false, false, false, false] al0 ?_
         exact wk (hmx17 () trivial) [2, 38, 41, 43, 45] [[_], [_], [_], [_], [bx g14 cs14 46], _, _] [0, 1, 2, 3, 4, 5, 6] rfl rfl
        ·
         refine qo0 1 [(6, .go (owns 3 0 1))] [3, 38, 43, 45] [(44, .int .i64 (j + 1 : Nat))] ?_
         refine od_ ?_
         exact wk (hmx9 () trivial) [3, 38, 43, 44, 45] [[_], [_], [_], [_], [bx g14 cs14 46], _, _] [0, 1, 2, 3, 4, 5, 6] rfl rfl
        ·
         refine cP (fun v L' => ∃ q_ c_ Y_, v = .slice q_ n c_ ∧ L' = List.take 4 (bx (γ1 0) (#[.pointer (some ⟨gb, 0, none⟩)]) 72 :: bx gb (#[.slice (some ⟨g14, 0, none⟩) m capq]) 38 :: bx gm (#[.slice p n cap]) 25 :: bx gi (#[.int .i64 (j + 1 : Nat)]) 3 :: ([bx g14 cs14 46] ++ (Yi ++ (YR ++ [])))) ++ (Y_ ++ List.drop 4 (bx (γ1 0) (#[.pointer (some ⟨gb, 0, none⟩)]) 72 :: bx gb (#[.slice (some ⟨g14, 0, none⟩) m capq]) 38 :: bx gm (#[.slice p n cap]) 25 :: bx gi (#[.int .i64 (j + 1 : Nat)]) 3 :: ([bx g14 cs14 46] ++ (Yi ++ (YR ++ []))))) ∧ SlO 3 Y_ q_ n c_ l) Try.call44 (fun w hw => (cloneints_t p n cap l w (hsl.kept hw.below) hn (by omega)).mono fun e w' ⟨q_, c_, Y_, he, hO, hb, hY⟩ => ⟨_, _, he, ⟨q_, c_, Y_, rfl, rfl, hO⟩, hw.join hb hY 4⟩) ?_
         rintro v192 L192 ⟨q192, cq192, Y192, rfl, rfl, hO192⟩
         refine od_ ?_
         exact wk (hmx10 (Y192, cq192, q192) hO192) [2, 3, 38, 43, 46] [[_], [_], [_], [_], _, [bx g14 cs14 46], _, _] [0, 1, 2, 3, 4, 5, 6, 7] rfl rfl
       refine any_cutX (V := Unit) (fun _ => True) 12 #[true, false, false, false, false, true, true, false, false, false, false, false, false, false, false] (fun _ => [(1, .pointer (some ⟨gm, 0, none⟩)), (3, .pointer (some ⟨γ1 0, 0, none⟩)), (38, .pointer (some ⟨gb, 0, none⟩)), (43, .int .i64 (j : Nat)), (44, .int .i64 (j + 1 : Nat))]) (fun _ => bx (γ1 0) (#[.pointer (some ⟨gb, 0, none⟩)]) 72 :: bx gb (#[.slice (some ⟨g14, 0, none⟩) m capq]) 38 :: bx gm (#[.slice p n cap]) 25 :: bx gi (#[.int .i64 (j + 1 : Nat)]) 3 :: ([bx g14 cs14 46] ++ (Yi ++ (YR ++ [])))) ?_ (fun hmx4 => ?_)
       ·
        rintro _ _
        refine any_fork [1, 7] (by kernel_rfl) (by simp) (each_cons _ rfl ?_ (each_cons _ rfl ?_ (each_nil)))
        ·
         refine qo0 1 [(1, .go (owns 0 0 1))] [1, 38, 43, 44] [(39, .pointer (some ⟨gb, 0, none⟩))] ?_
         refine od_ ?_
         refine tk (m := 9) [2, 3] [] [1, 38, 43, 44] [(41, .pointer (some ⟨gb, 0, none⟩))] ([]) #[true, true, true, true, false, true, true, false, false, false, false, false, false, false, false] al0 ?_
         exact wk (hmx16 () trivial) [1, 38, 41, 43, 44] [[_], [_], [_], [_], [bx g14 cs14 46], _, _] [0, 1, 2, 3, 4, 5, 6] rfl rfl
        ·
         refine qo0 1 [(7, .go (owns 2 0 1))] [3, 38, 43, 44] [(45, .slice p n cap)] ?_
         refine od_ ?_
         exact wk (hmx9 () trivial) [3, 38, 43, 44, 45] [[_], [_], [_], [_], [bx g14 cs14 46], _, _] [0, 1, 2, 3, 4, 5, 6] rfl rfl
       refine any_cutX (V := Unit) (fun _ => True) 13 #[false, false, false, false, false, true, false, true, false, false, false, false, false, false, false] (fun _ => [(2, .pointer (some ⟨gi, 0, none⟩)), (3, .pointer (some ⟨γ1 0, 0, none⟩)), (43, .int .i64 (j : Nat)), (45, .slice p n cap)]) (fun _ => bx (γ1 0) (#[.pointer (some ⟨gb, 0, none⟩)]) 72 :: bx gb (#[.slice (some ⟨g14, 0, none⟩) m capq]) 38 :: bx gm (#[.slice p n cap]) 25 :: bx gi (#[.int .i64 (j + 1 : Nat)]) 3 :: ([bx g14 cs14 46] ++ (Yi ++ (YR ++ [])))) ?_ (fun hmx3 => ?_)
       ·
        rintro _ _
        refine any_fork [0, 1, 6, 8] (by kernel_rfl) (by simp) (each_cons _ rfl ?_ (each_cons _ rfl ?_ (each_cons _ rfl ?_ (each_cons _ rfl ?_ (each_nil)))))
        ·
         refine qo0 1 [(0, .go (owns 0 0 1))] [2, 3, 43, 45] [(38, .pointer (some ⟨gb, 0, none⟩))] ?_
         refine od_ ?_
         exact wk (hmx5 () trivial) [2, 3, 38, 43, 45] [[_], [_], [_], [_], [bx g14 cs14 46], _, _] [0, 1, 2, 3, 4, 5, 6] rfl rfl
        ·
         refine qo0 1 [(1, .go (owns 0 0 1))] [2, 3, 43, 45] [(39, .pointer (some ⟨gb, 0, none⟩))] ?_
         refine od_ ?_
         refine tk (m := 10) [2, 3] [] [2, 3, 43, 45] [(41, .pointer (some ⟨gb, 0, none⟩))] ([]) #[false, true, true, true, false, true, false, true, false, false, false, false, false, false, false] al0 ?_
         exact wk (hmx13 () trivial) [2, 3, 41, 43, 45] [[_], [_], [_], [_], [bx g14 cs14 46], _, _] [0, 1, 2, 3, 4, 5, 6] rfl rfl
        ·
         refine qo0 1 [(6, .go (owns 3 0 1))] [3, 43, 45] [(44, .int .i64 (j + 1 : Nat))] ?_
         refine od_ ?_
         exact wk (hmx6 () trivial) [3, 43, 44, 45] [[_], [_], [_], [_], [bx g14 cs14 46], _, _] [0, 1, 2, 3, 4, 5, 6] rfl rfl
        ·
         refine cP (fun v L' => ∃ q_ c_ Y_, v = .slice q_ n c_ ∧ L' = List.take 4 (bx (γ1 0) (#[.pointer (some ⟨gb, 0, none⟩)]) 72 :: bx gb (#[.slice (some ⟨g14, 0, none⟩) m capq]) 38 :: bx gm (#[.slice p n cap]) 25 :: bx gi (#[.int .i64 (j + 1 : Nat)]) 3 :: ([bx g14 cs14 46] ++ (Yi ++ (YR ++ [])))) ++ (Y_ ++ List.drop 4 (bx (γ1 0) (#[.pointer (some ⟨gb, 0, none⟩)]) 72 :: bx gb (#[.slice (some ⟨g14, 0, none⟩) m capq]) 38 :: bx gm (#[.slice p n cap]) 25 :: bx gi (#[.int .i64 (j + 1 : Nat)]) 3 :: ([bx g14 cs14 46] ++ (Yi ++ (YR ++ []))))) ∧ SlO 3 Y_ q_ n c_ l) Try.call44 (fun w hw => (cloneints_t p n cap l w (hsl.kept hw.below) hn (by omega)).mono fun e w' ⟨q_, c_, Y_, he, hO, hb, hY⟩ => ⟨_, _, he, ⟨q_, c_, Y_, rfl, rfl, hO⟩, hw.join hb hY 4⟩) ?_
         rintro v192 L192 ⟨q192, cq192, Y192, rfl, rfl, hO192⟩
         refine od_ ?_
         exact wk (hmx7 (Y192, cq192, q192) hO192) [2, 3, 43, 46] [[_], [_], [_], [_], _, [bx g14 cs14 46], _, _] [0, 1, 2, 3, 4, 5, 6, 7] rfl rfl
       refine any_cutX (V := Unit) (fun _ => True) 13 #[false, false, false, false, false, true, true, false, false, false, false, false, false, false, false] (fun _ => [(1, .pointer (some ⟨gm, 0, none⟩)), (3, .pointer (some ⟨γ1 0, 0, none⟩)), (43, .int .i64 (j : Nat)), (44, .int .i64 (j + 1 : Nat))]) (fun _ => bx (γ1 0) (#[.pointer (some ⟨gb, 0, none⟩)]) 72 :: bx gb (#[.slice (some ⟨g14, 0, none⟩) m capq]) 38 :: bx gm (#[.slice p n cap]) 25 :: bx gi (#[.int .i64 (j + 1 : Nat)]) 3 :: ([bx g14 cs14 46] ++ (Yi ++ (YR ++ [])))) ?_ (fun hmx2 => ?_)
       ·
        rintro _ _
        refine any_fork [0, 1, 7] (by kernel_rfl) (by simp) (each_cons _ rfl ?_ (each_cons _ rfl ?_ (each_cons _ rfl ?_ (each_nil))))
        ·
         refine qo0 1 [(0, .go (owns 0 0 1))] [1, 3, 43, 44] [(38, .pointer (some ⟨gb, 0, none⟩))] ?_
         refine od_ ?_
         exact wk (hmx4 () trivial) [1, 3, 38, 43, 44] [[_], [_], [_], [_], [bx g14 cs14 46], _, _] [0, 1, 2, 3, 4, 5, 6] rfl rfl
        ·
         refine qo0 1 [(1, .go (owns 0 0 1))] [1, 3, 43, 44] [(39, .pointer (some ⟨gb, 0, none⟩))] ?_
         refine od_ ?_
         refine tk (m := 10) [2, 3] [] [1, 3, 43, 44] [(41, .pointer (some ⟨gb, 0, none⟩))] ([]) #[false, true, true, true, false, true, true, false, false, false, false, false, false, false, false] al0 ?_
         exact wk (hmx12 () trivial) [1, 3, 41, 43, 44] [[_], [_], [_], [_], [bx g14 cs14 46], _, _] [0, 1, 2, 3, 4, 5, 6] rfl rfl
        ·
         refine qo0 1 [(7, .go (owns 2 0 1))] [3, 43, 44] [(45, .slice p n cap)] ?_
         refine od_ ?_
         exact wk (hmx6 () trivial) [3, 43, 44, 45] [[_], [_], [_], [_], [bx g14 cs14 46], _, _] [0, 1, 2, 3, 4, 5, 6] rfl rfl
       refine any_cutX (V := Unit) (fun _ => True) 13 #[true, false, false, false, false, true, false, false, false, false, false, false, false, false, false] (fun _ => [(1, .pointer (some ⟨gm, 0, none⟩)), (2, .pointer (some ⟨gi, 0, none⟩)), (3, .pointer (some ⟨γ1 0, 0, none⟩)), (38, .pointer (some ⟨gb, 0, none⟩)), (43, .int .i64 (j : Nat))]) (fun _ => bx (γ1 0) (#[.pointer (some ⟨gb, 0, none⟩)]) 72 :: bx gb (#[.slice (some ⟨g14, 0, none⟩) m capq]) 38 :: bx gm (#[.slice p n cap]) 25 :: bx gi (#[.int .i64 (j + 1 : Nat)]) 3 :: ([bx g14 cs14 46] ++ (Yi ++ (YR ++ [])))) ?_ (fun hmx1 => ?_)
       ·
        rintro _ _
        refine any_fork [1, 6, 7] (by kernel_rfl) (by simp) (each_cons _ rfl ?_ (each_cons _ rfl ?_ (each_cons _ rfl ?_ (each_nil))))
        ·
         refine qo0 1 [(1, .go (owns 0 0 1))] [1, 2, 38, 43] [(39, .pointer (some ⟨gb, 0, none⟩))] ?_
         refine od_ ?_
         refine tk (m := 10) [2, 3] [] [1, 2, 38, 43] [(41, .pointer (some ⟨gb, 0, none⟩))] ([]) #[true, true, true, true, false, true, false, false, false, false, false, false, false, false, false] al0 ?_
         exact wk (hmx11 () trivial) [1, 2, 38, 41, 43] [[_], [_], [_], [_], [bx g14 cs14 46], _, _] [0, 1, 2, 3, 4, 5, 6] rfl rfl
        ·
         refine qo0 1 [(6, .go (owns 3 0 1))] [1, 3, 38, 43] [(44, .int .i64 (j + 1 : Nat))] ?_
         refine od_ ?_
         exact wk (hmx4 () trivial) [1, 3, 38, 43, 44] [[_], [_], [_], [_], [bx g14 cs14 46], _, _] [0, 1, 2, 3, 4, 5, 6] rfl rfl
        ·
         refine qo0 1 [(7, .go (owns 2 0 1))] [2, 3, 38, 43] [(45, .slice p n cap)] ?_
         refine od_ ?_
         exact wk (hmx5 () trivial) [2, 3, 38, 43, 45] [[_], [_], [_], [_], [bx g14 cs14 46], _, _] [0, 1, 2, 3, 4, 5, 6] rfl rfl
       refine any_fork [0, 1, 6, 7] (by kernel_rfl) (by simp) (each_cons _ rfl ?_ (each_cons _ rfl ?_ (each_cons _ rfl ?_ (each_cons _ rfl ?_ (each_nil)))))
       ·
        refine qo0 1 [(0, .go (owns 0 0 1))] [1, 2, 3, 43] [(38, .pointer (some ⟨gb, 0, none⟩))] ?_
        refine od_ ?_
        exact wk (hmx1 () trivial) [1, 2, 3, 38, 43] [[_], [_], [_], [_], [bx g14 cs14 46], _, _] [0, 1, 2, 3, 4, 5, 6] rfl rfl
       ·
        refine qo0 1 [(1, .go (owns 0 0 1))] [1, 2, 3, 43] [(39, .pointer (some ⟨gb, 0, none⟩))] ?_
        refine od_ ?_
        refine tk (m := 11) [2, 3] [] [1, 2, 3, 43] [(41, .pointer (some ⟨gb, 0, none⟩))] ([]) #[false, true, true, true, false, true, false, false, false, false, false, false, false, false, false] al0 ?_
        exact wk (hmx8 () trivial) [1, 2, 3, 41, 43] [[_], [_], [_], [_], [bx g14 cs14 46], _, _] [0, 1, 2, 3, 4, 5, 6] rfl rfl
       ·
        refine qo0 1 [(6, .go (owns 3 0 1))] [1, 3, 43] [(44, .int .i64 (j + 1 : Nat))] ?_
        refine od_ ?_
        exact wk (hmx2 () trivial) [1, 3, 43, 44] [[_], [_], [_], [_], [bx g14 cs14 46], _, _] [0, 1, 2, 3, 4, 5, 6] rfl rfl
       ·
        refine qo0 1 [(7, .go (owns 2 0 1))] [2, 3, 43] [(45, .slice p n cap)] ?_
        refine od_ ?_
        exact wk (hmx3 () trivial) [2, 3, 43, 45] [[_], [_], [_], [_], [bx g14 cs14 46], _, _] [0, 1, 2, 3, 4, 5, 6] rfl rfl
      rintro ⟨Y192, Y252, cq192, cq252, q192, q252, γ232⟩ ⟨hO192, hO252⟩
      refine any_nil (by kernel_rfl) ?_
      refine ds_ (sq_ (qa0 [] [] [(4, .int .i64 0)] (ds_ (rt ([]) (.int .i64 0) ?_))))
      obtain ⟨Yq, hpq, hGq⟩ := GotG.ins (x := (⟨(j + 1 : Nat), q192, n, cq192, l⟩ : GngA)) hG hO192 (show j ≤ bl.length by omega)
      exact fun w' hw => ⟨_, _, _, _, _, Yq, (bl.take j ++ [(⟨(j + 1 : Nat), q192, n, cq192, l⟩ : GngA)] ++ bl.drop j), _, rfl, by rw [inG_val] at q8; rw [fc_ok q3 q8 hI (by omega), val_ins]; rfl, hO252, hGq, form_perm hpq (by have := Hs.pick [[bx (γ1 0) (#[.pointer (some ⟨gb, 0, none⟩)]) 72], [bx gb (#[.slice q252 (m + 1) cq252]) 38], [bx gm (#[.slice p n cap]) 25], [bx gi (#[.int .i64 (j + 1 : Nat)]) 3], Y192, Y252, Yi, YR] [1, 2, 3, 5, 6, 4, 7] [0] (by kernel_rfl) hw; simpa [chunk] using this)⟩
   ·
    refine ao_ (qo 14 [(1, .go (owns 0 0 1)), (4, .go (owns 1 0 1)), (6, .no)] [1, 2, 3, 5] [(19, .bool false), (25, undef)] ([¬ (((j : Nat) : Int) < ((m : Nat) : Int))]) (al1 q12) (qo0 6 [] [1, 2, 3, 5] [(31, .bool false)] (on_ (ds_ (f_ (at_leave _ rfl (ds_ (sq_ (sq_ ?_)))))))))
    rw [show (bl.map GngA.val).drop j = [] from List.drop_of_length_le (by rw [List.length_map]; omega)] at hI
    have hI : j = gapV 0 (bl.map GngA.val) := hI
    by_cases q422 : ((j : Nat) : Int) = (8 : Int)
    ·
     refine qa [(1, .yes)] [1, 2, 3, 5] [(35, .bool true)] ([((j : Nat) : Int) = (8 : Int)]) (al1 q422) (ds_ (t_ (sq_ (qa0 [] [] [(4, .int .i64 6)] (ds_ (rt ([]) (.int .i64 6) ?_))))))
     exact fun w' hw => ⟨_, _, _, _, _, _, bl, 0, rfl, by rw [inG_val] at q8; exact (fc_full q3 q8 hI (by omega)).symm, hO, hG, (by have := Hs.pick [[bx (γ1 0) (#[.pointer (some ⟨gb, 0, none⟩)]) 72], [bx gb (#[.slice q m capq]) 38], [bx gm (#[.slice p n cap]) 25], [bx gi (#[.int .i64 0]) 3], Y, Yi, YR] [1, 2, 3, 4, 5, 6] [0] (by kernel_rfl) hw; simpa [chunk] using this)⟩
    ·
     refine qa [(1, .no)] [1, 2, 3, 5] [(35, .bool false)] ([¬ (((j : Nat) : Int) = (8 : Int))]) (al1 q422) (ds_ (f_ (at_skip (ds_ (sq_ (ma [(1, .fit), (2, .go (owns 3 0 1))] [1, 2, 3, 5] (fun _ => []) (fun _ L => (L.set 3 (bx gi (#[.int .i64 (j + 1 : Nat)]) 3))) (fun _ => [Fit .i64 ((j + 1 : Nat))]) (fun _ => (al1 (fit64 (by omega) (by omega)))) (fun _ => ds_ (sq_ ?_))))))))
     refine at_any (by kernel_rfl) ?_
     refine tk (m := 14) [5] [] [1, 2, 3] [(43, .int .i64 (j : Nat))] ([]) #[false, false, false, false, false, true, false, false, false, false, false, false, false, false, false] al0 ?_
     refine any_cutX (V := (List Ob) × (List Ob) × (Nat) × (Nat) × (Option Addr) × (Option Addr) × (Nat → Nat)) (fun ⟨Y590, Y650, cq590, cq650, q590, q650, γ630⟩ => SlO 3 Y590 q590 n cq590 l ∧ SlO 46 Y650 q650 (m + 1) cq650 (bl.take j ++ [(⟨(j + 1 : Nat), q590, n, cq590, l⟩ : GngA)] ++ bl.drop j)) 0 #[true, true, true, true, true, true, true, true, true, true, true, true, true, true, true] (fun ⟨Y590, Y650, cq590, cq650, q590, q650, γ630⟩ => []) (fun ⟨Y590, Y650, cq590, cq650, q590, q650, γ630⟩ => bx (γ1 0) (#[.pointer (some ⟨gb, 0, none⟩)]) 72 :: bx gb (#[.slice q650 (m + 1) cq650]) 38 :: bx gm (#[.slice p n cap]) 25 :: bx gi (#[.int .i64 (j + 1 : Nat)]) 3 :: (Y590 ++ (Y650 ++ (Yi ++ (YR ++ []))))) ?_ (fun hmx44 => ?_)
     rotate_left
     ·
      refine any_cutX (V := (List Ob) × (List Ob) × (Nat) × (Nat) × (Option Addr) × (Option Addr) × (Nat → Nat)) (fun ⟨Y590, Y650, cq590, cq650, q590, q650, γ630⟩ => SlO 3 Y590 q590 n cq590 l ∧ SlO 46 Y650 q650 (m + 1) cq650 (bl.take j ++ [(⟨(j + 1 : Nat), q590, n, cq590, l⟩ : GngA)] ++ bl.drop j)) 1 #[true, true, true, true, true, true, true, true, true, true, true, true, true, true, false] (fun ⟨Y590, Y650, cq590, cq650, q590, q650, γ630⟩ => [(49, .slice q650 (m + 1) cq650), (51, .pointer (some ⟨gb, 0, none⟩))]) (fun ⟨Y590, Y650, cq590, cq650, q590, q650, γ630⟩ => bx (γ1 0) (#[.pointer (some ⟨gb, 0, none⟩)]) 72 :: bx gb (#[.slice q m capq]) 38 :: bx gm (#[.slice p n cap]) 25 :: bx gi (#[.int .i64 (j + 1 : Nat)]) 3 :: (Y590 ++ (Y650 ++ (Yi ++ (YR ++ []))))) ?_ (fun hmx43 => ?_)
      ·
       rintro ⟨Y590, Y650, cq590, cq650, q590, q650, γ630⟩ ⟨hO590, hO650⟩
       refine a1 14 rfl ?_
       refine mo0 1 [(14, .go (owns 1 0 1))] [] (fun _ => []) (fun _ L => (L.set 1 (bx gb (#[.slice q650 (m + 1) cq650]) 38))) (fun _ => ?_)
       refine od_ ?_
       exact wk (hmx44 (Y590, Y650, cq590, cq650, q590, q650, γ630) ⟨hO590, hO650⟩) [] [[_], [_], [_], [_], _, _, _, _] [0, 1, 2, 3, 4, 5, 6, 7] rfl rfl
      refine any_cutX (V := (List Ob) × (List Ob) × (Nat) × (Nat) × (Option Addr) × (Option Addr) × (Nat → Nat)) (fun ⟨Y590, Y650, cq590, cq650, q590, q650, γ630⟩ => SlO 3 Y590 q590 n cq590 l ∧ SlO 46 Y650 q650 (m + 1) cq650 (bl.take j ++ [(⟨(j + 1 : Nat), q590, n, cq590, l⟩ : GngA)] ++ bl.drop j)) 4 #[false, true, true, true, true, true, true, true, true, true, true, true, false, false, false] (fun ⟨Y590, Y650, cq590, cq650, q590, q650, γ630⟩ => [(3, .pointer (some ⟨γ1 0, 0, none⟩)), (49, .slice q650 (m + 1) cq650)]) (fun ⟨Y590, Y650, cq590, cq650, q590, q650, γ630⟩ => bx (γ1 0) (#[.pointer (some ⟨gb, 0, none⟩)]) 72 :: bx gb (#[.slice q m capq]) 38 :: bx gm (#[.slice p n cap]) 25 :: bx gi (#[.int .i64 (j + 1 : Nat)]) 3 :: (Y590 ++ (Y650 ++ (Yi ++ (YR ++ []))))) ?_ (fun hmx42 => ?_)
      ·
       rintro ⟨Y590, Y650, cq590, cq650, q590, q650, γ630⟩ ⟨hO590, hO650⟩
       refine a1 0 rfl ?_
       refine qo0 1 [(0, .go (owns 0 0 1))] [49] [(38, .pointer (some ⟨gb, 0, none⟩))] ?_
       refine od_ ?_
       refine tk (m := 1) [12, 13] [] [49] [(51, .pointer (some ⟨gb, 0, none⟩))] ([]) #[true, true, true, true, true, true, true, true, true, true, true, true, true, true, false] al0 ?_
       exact wk (hmx43 (Y590, Y650, cq590, cq650, q590, q650, γ630) ⟨hO590, hO650⟩) [49, 51] [[_], [_], [_], [_], _, _, _, _] [0, 1, 2, 3, 4, 5, 6, 7] rfl rfl
      refine any_cutX (V := (List Ob) × (Nat) × (Option Addr) × (Nat → Nat)) (fun ⟨Y590, cq590, q590, γ630⟩ => SlO 3 Y590 q590 n cq590 l) 4 #[true, true, true, true, true, true, true, true, true, true, true, false, false, false, false] (fun ⟨Y590, cq590, q590, γ630⟩ => [(38, .pointer (some ⟨gb, 0, none⟩)), (42, .slice q m capq), (43, .int .i64 (j : Nat)), (48, .slice (some ⟨γ630 0, 0, none⟩) 1 1)]) (fun ⟨Y590, cq590, q590, γ630⟩ => bx (γ630 0) (#[.int .i64 (j + 1 : Nat), .slice q590 n cq590]) 46 :: bx (γ1 0) (#[.pointer (some ⟨gb, 0, none⟩)]) 72 :: bx gb (#[.slice q m capq]) 38 :: bx gm (#[.slice p n cap]) 25 :: bx gi (#[.int .i64 (j + 1 : Nat)]) 3 :: (Y590 ++ (Y ++ (Yi ++ (YR ++ []))))) ?_ (fun hmx41 => ?_)
      ·
       rintro ⟨Y590, cq590, q590, γ630⟩ hO590
       refine a1 11 rfl ?_
       refine Ops.pick [[bx (γ630 0) (#[.int .i64 (j + 1 : Nat), .slice q590 n cq590]) 46], [bx (γ1 0) (#[.pointer (some ⟨gb, 0, none⟩)]) 72], [bx gb (#[.slice q m capq]) 38], [bx gm (#[.slice p n cap]) 25], [bx gi (#[.int .i64 (j + 1 : Nat)]) 3], Y590, Y, Yi, YR] [0, 1, 2, 3, 4, 6, 5, 7, 8] [] (bx (γ630 0) (#[.int .i64 (j + 1 : Nat), .slice q590 n cq590]) 46 :: bx (γ1 0) (#[.pointer (some ⟨gb, 0, none⟩)]) 72 :: bx gb (#[.slice q m capq]) 38 :: bx gm (#[.slice p n cap]) 25 :: bx gi (#[.int .i64 (j + 1 : Nat)]) 3 :: (Y ++ (Y590 ++ (Yi ++ (YR ++ []))))) (by kernel_rfl) rfl rfl (cP (fun v L' => ∃ q_ capq_ Y_, v = .slice q_ (m + 1) capq_ ∧ L' = [bx (γ1 0) (#[.pointer (some ⟨gb, 0, none⟩)]) 72, bx gb (#[.slice q m capq]) 38, bx gm (#[.slice p n cap]) 25, bx gi (#[.int .i64 (j + 1 : Nat)]) 3] ++ (Y_ ++ (Y590 ++ (Yi ++ (YR ++ [])))) ∧ SlO 46 Y_ q_ (m + 1) capq_ (bl.take j ++ [(⟨(j + 1 : Nat), q590, n, cq590, l⟩ : GngA)] ++ bl.drop j)) Try.call54 (fun w hw => (ginsert_t _ ([bx (γ1 0) (#[.pointer (some ⟨gb, 0, none⟩)]) 72, bx gb (#[.slice q m capq]) 38, bx gm (#[.slice p n cap]) 25, bx gi (#[.int .i64 (j + 1 : Nat)]) 3] ++ (Y590 ++ (Yi ++ (YR ++ [])))) Y q m capq bl j (γ630 0) (#[.int .i64 (j + 1 : Nat), .slice q590 n cq590]) 1 ([(⟨(j + 1 : Nat), q590, n, cq590, l⟩ : GngA)]) w (hw.pull (A := [bx (γ1 0) (#[.pointer (some ⟨gb, 0, none⟩)]) 72, bx gb (#[.slice q m capq]) 38, bx gm (#[.slice p n cap]) 25, bx gi (#[.int .i64 (j + 1 : Nat)]) 3]) (Y := Y) (R := (Y590 ++ (Yi ++ (YR ++ []))))) hO (by rfl) (by rfl) (by omega) (by omega) (by omega) (by omega)).mono fun e w' ⟨q_, capq_, Y_, he, hO, hY⟩ => ⟨_, _, he, ⟨q_, capq_, Y_, rfl, rfl, hO⟩, hY.push⟩) ?_)
       rintro v650 L650 ⟨q650, cq650, Y650, rfl, rfl, hO650⟩
       refine od_ ?_
       refine tk (m := 1) [12, 13] [] [49] [(51, .pointer (some ⟨gb, 0, none⟩))] ([]) #[true, true, true, true, true, true, true, true, true, true, true, true, true, true, false] al0 ?_
       exact wk (hmx43 (Y590, Y650, cq590, cq650, q590, q650, γ630) ⟨hO590, hO650⟩) [49, 51] [[_], [_], [_], [_], _, _, _, _] [0, 1, 2, 3, 5, 4, 6, 7] rfl rfl
      refine any_cutX (V := (List Ob) × (Nat) × (Option Addr) × (Nat → Nat)) (fun ⟨Y590, cq590, q590, γ630⟩ => SlO 3 Y590 q590 n cq590 l) 5 #[false, true, true, true, true, true, true, true, true, true, true, false, false, false, false] (fun ⟨Y590, cq590, q590, γ630⟩ => [(3, .pointer (some ⟨γ1 0, 0, none⟩)), (42, .slice q m capq), (43, .int .i64 (j : Nat)), (48, .slice (some ⟨γ630 0, 0, none⟩) 1 1)]) (fun ⟨Y590, cq590, q590, γ630⟩ => bx (γ630 0) (#[.int .i64 (j + 1 : Nat), .slice q590 n cq590]) 46 :: bx (γ1 0) (#[.pointer (some ⟨gb, 0, none⟩)]) 72 :: bx gb (#[.slice q m capq]) 38 :: bx gm (#[.slice p n cap]) 25 :: bx gi (#[.int .i64 (j + 1 : Nat)]) 3 :: (Y590 ++ (Y ++ (Yi ++ (YR ++ []))))) ?_ (fun hmx40 => ?_)
      ·
       rintro ⟨Y590, cq590, q590, γ630⟩ hO590
       refine any_fork [0, 11] (by kernel_rfl) (by simp) (each_cons _ rfl ?_ (each_cons _ rfl ?_ (each_nil)))
       ·
        refine qo0 1 [(0, .go (owns 1 0 1))] [42, 43, 48] [(38, .pointer (some ⟨gb, 0, none⟩))] ?_
        refine od_ ?_
        exact wk (hmx41 (Y590, cq590, q590, γ630) hO590) [38, 42, 43, 48] [[_], [_], [_], [_], [_], _, _, _, _] [0, 1, 2, 3, 4, 5, 6, 7, 8] rfl rfl
       ·
        refine Ops.pick [[bx (γ630 0) (#[.int .i64 (j + 1 : Nat), .slice q590 n cq590]) 46], [bx (γ1 0) (#[.pointer (some ⟨gb, 0, none⟩)]) 72], [bx gb (#[.slice q m capq]) 38], [bx gm (#[.slice p n cap]) 25], [bx gi (#[.int .i64 (j + 1 : Nat)]) 3], Y590, Y, Yi, YR] [0, 1, 2, 3, 4, 6, 5, 7, 8] [] (bx (γ630 0) (#[.int .i64 (j + 1 : Nat), .slice q590 n cq590]) 46 :: bx (γ1 0) (#[.pointer (some ⟨gb, 0, none⟩)]) 72 :: bx gb (#[.slice q m capq]) 38 :: bx gm (#[.slice p n cap]) 25 :: bx gi (#[.int .i64 (j + 1 : Nat)]) 3 :: (Y ++ (Y590 ++ (Yi ++ (YR ++ []))))) (by kernel_rfl) rfl rfl (cP (fun v L' => ∃ q_ capq_ Y_, v = .slice q_ (m + 1) capq_ ∧ L' = [bx (γ1 0) (#[.pointer (some ⟨gb, 0, none⟩)]) 72, bx gb (#[.slice q m capq]) 38, bx gm (#[.slice p n cap]) 25, bx gi (#[.int .i64 (j + 1 : Nat)]) 3] ++ (Y_ ++ (Y590 ++ (Yi ++ (YR ++ [])))) ∧ SlO 46 Y_ q_ (m + 1) capq_ (bl.take j ++ [(⟨(j + 1 : Nat), q590, n, cq590, l⟩ : GngA)] ++ bl.drop j)) Try.call54 (fun w hw => (ginsert_t _ ([bx (γ1 0) (#[.pointer (some ⟨gb, 0, none⟩)]) 72, bx gb (#[.slice q m capq]) 38, bx gm (#[.slice p n cap]) 25, bx gi (#[.int .i64 (j + 1 : Nat)]) 3] ++ (Y590 ++ (Yi ++ (YR ++ [])))) Y q m capq bl j (γ630 0) (#[.int .i64 (j + 1 : Nat), .slice q590 n cq590]) 1 ([(⟨(j + 1 : Nat), q590, n, cq590, l⟩ : GngA)]) w (hw.pull (A := [bx (γ1 0) (#[.pointer (some ⟨gb, 0, none⟩)]) 72, bx gb (#[.slice q m capq]) 38, bx gm (#[.slice p n cap]) 25, bx gi (#[.int .i64 (j + 1 : Nat)]) 3]) (Y := Y) (R := (Y590 ++ (Yi ++ (YR ++ []))))) hO (by rfl) (by rfl) (by omega) (by omega) (by omega) (by omega)).mono fun e w' ⟨q_, capq_, Y_, he, hO, hY⟩ => ⟨_, _, he, ⟨q_, capq_, Y_, rfl, rfl, hO⟩, hY.push⟩) ?_)
        rintro v650 L650 ⟨q650, cq650, Y650, rfl, rfl, hO650⟩
        refine od_ ?_
        exact wk (hmx42 (Y590, Y650, cq590, cq650, q590, q650, γ630) ⟨hO590, hO650⟩) [3, 49] [[_], [_], [_], [_], _, _, _, _] [0, 1, 2, 3, 5, 4, 6, 7] rfl rfl
      refine any_cutX (V := (List Ob) × (Nat) × (Option Addr)) (fun ⟨Y590, cq590, q590⟩ => SlO 3 Y590 q590 n cq590 l) 5 #[true, true, true, true, true, true, true, true, true, true, false, false, false, false, false] (fun ⟨Y590, cq590, q590⟩ => [(38, .pointer (some ⟨gb, 0, none⟩)), (42, .slice q m capq), (43, .int .i64 (j : Nat)), (47, .agg #[.int .i64 (j + 1 : Nat), .slice q590 n cq590])]) (fun ⟨Y590, cq590, q590⟩ => bx (γ1 0) (#[.pointer (some ⟨gb, 0, none⟩)]) 72 :: bx gb (#[.slice q m capq]) 38 :: bx gm (#[.slice p n cap]) 25 :: bx gi (#[.int .i64 (j + 1 : Nat)]) 3 :: (Y590 ++ (Y ++ (Yi ++ (YR ++ []))))) ?_ (fun hmx39 => ?_)
      ·
       rintro ⟨Y590, cq590, q590⟩ hO590
       refine a1 10 rfl ?_
       refine mo0 1 [] [38, 42, 43] (fun γ630 => [(48, .slice (some ⟨γ630 0, 0, none⟩) 1 1)]) (fun γ630 L => bx (γ630 0) (#[.int .i64 (j + 1 : Nat), .slice q590 n cq590]) 46 :: L) (fun γ630 => ?_)
       refine od_ ?_
       exact wk (hmx41 (Y590, cq590, q590, γ630) hO590) [38, 42, 43, 48] [[_], [_], [_], [_], [_], _, _, _, _] [0, 1, 2, 3, 4, 5, 6, 7, 8] rfl rfl
      refine any_cutX (V := (List Ob) × (Nat) × (Option Addr) × (Nat → Nat)) (fun ⟨Y590, cq590, q590, γ630⟩ => SlO 3 Y590 q590 n cq590 l) 5 #[true, true, true, true, false, true, true, true, true, true, true, false, false, false, false] (fun ⟨Y590, cq590, q590, γ630⟩ => [(38, .pointer (some ⟨gb, 0, none⟩)), (41, .pointer (some ⟨gb, 0, none⟩)), (43, .int .i64 (j : Nat)), (48, .slice (some ⟨γ630 0, 0, none⟩) 1 1)]) (fun ⟨Y590, cq590, q590, γ630⟩ => bx (γ630 0) (#[.int .i64 (j + 1 : Nat), .slice q590 n cq590]) 46 :: bx (γ1 0) (#[.pointer (some ⟨gb, 0, none⟩)]) 72 :: bx gb (#[.slice q m capq]) 38 :: bx gm (#[.slice p n cap]) 25 :: bx gi (#[.int .i64 (j + 1 : Nat)]) 3 :: (Y590 ++ (Y ++ (Yi ++ (YR ++ []))))) ?_ (fun hmx38 => ?_)
      ·
       rintro ⟨Y590, cq590, q590, γ630⟩ hO590
       refine a1 4 rfl ?_
       refine qo0 1 [(4, .go (owns 2 0 1))] [38, 43, 48] [(42, .slice q m capq)] ?_
       refine od_ ?_
       exact wk (hmx41 (Y590, cq590, q590, γ630) hO590) [38, 42, 43, 48] [[_], [_], [_], [_], [_], _, _, _, _] [0, 1, 2, 3, 4, 5, 6, 7, 8] rfl rfl
      refine any_cutX (V := (List Ob) × (Nat) × (Option Addr)) (fun ⟨Y590, cq590, q590⟩ => SlO 3 Y590 q590 n cq590 l) 6 #[false, true, true, true, true, true, true, true, true, true, false, false, false, false, false] (fun ⟨Y590, cq590, q590⟩ => [(3, .pointer (some ⟨γ1 0, 0, none⟩)), (42, .slice q m capq), (43, .int .i64 (j : Nat)), (47, .agg #[.int .i64 (j + 1 : Nat), .slice q590 n cq590])]) (fun ⟨Y590, cq590, q590⟩ => bx (γ1 0) (#[.pointer (some ⟨gb, 0, none⟩)]) 72 :: bx gb (#[.slice q m capq]) 38 :: bx gm (#[.slice p n cap]) 25 :: bx gi (#[.int .i64 (j + 1 : Nat)]) 3 :: (Y590 ++ (Y ++ (Yi ++ (YR ++ []))))) ?_ (fun hmx37 => ?_)
      ·
       rintro ⟨Y590, cq590, q590⟩ hO590
       refine any_fork [0, 10] (by kernel_rfl) (by simp) (each_cons _ rfl ?_ (each_cons _ rfl ?_ (each_nil)))
       ·
        refine qo0 1 [(0, .go (owns 0 0 1))] [42, 43, 47] [(38, .pointer (some ⟨gb, 0, none⟩))] ?_
        refine od_ ?_
        exact wk (hmx39 (Y590, cq590, q590) hO590) [38, 42, 43, 47] [[_], [_], [_], [_], _, _, _, _] [0, 1, 2, 3, 4, 5, 6, 7] rfl rfl
       ·
        refine mo0 1 [] [3, 42, 43] (fun γ630 => [(48, .slice (some ⟨γ630 0, 0, none⟩) 1 1)]) (fun γ630 L => bx (γ630 0) (#[.int .i64 (j + 1 : Nat), .slice q590 n cq590]) 46 :: L) (fun γ630 => ?_)
        refine od_ ?_
        exact wk (hmx40 (Y590, cq590, q590, γ630) hO590) [3, 42, 43, 48] [[_], [_], [_], [_], [_], _, _, _, _] [0, 1, 2, 3, 4, 5, 6, 7, 8] rfl rfl
      refine any_cutX (V := (List Ob) × (Nat) × (Option Addr) × (Nat → Nat)) (fun ⟨Y590, cq590, q590, γ630⟩ => SlO 3 Y590 q590 n cq590 l) 6 #[false, true, true, true, false, true, true, true, true, true, true, false, false, false, false] (fun ⟨Y590, cq590, q590, γ630⟩ => [(3, .pointer (some ⟨γ1 0, 0, none⟩)), (41, .pointer (some ⟨gb, 0, none⟩)), (43, .int .i64 (j : Nat)), (48, .slice (some ⟨γ630 0, 0, none⟩) 1 1)]) (fun ⟨Y590, cq590, q590, γ630⟩ => bx (γ630 0) (#[.int .i64 (j + 1 : Nat), .slice q590 n cq590]) 46 :: bx (γ1 0) (#[.pointer (some ⟨gb, 0, none⟩)]) 72 :: bx gb (#[.slice q m capq]) 38 :: bx gm (#[.slice p n cap]) 25 :: bx gi (#[.int .i64 (j + 1 : Nat)]) 3 :: (Y590 ++ (Y ++ (Yi ++ (YR ++ []))))) ?_ (fun hmx36 => ?_)
      ·
       rintro ⟨Y590, cq590, q590, γ630⟩ hO590
       refine any_fork [0, 4] (by kernel_rfl) (by simp) (each_cons _ rfl ?_ (each_cons _ rfl ?_ (each_nil)))
       ·
        refine qo0 1 [(0, .go (owns 1 0 1))] [41, 43, 48] [(38, .pointer (some ⟨gb, 0, none⟩))] ?_
        refine od_ ?_
        exact wk (hmx38 (Y590, cq590, q590, γ630) hO590) [38, 41, 43, 48] [[_], [_], [_], [_], [_], _, _, _, _] [0, 1, 2, 3, 4, 5, 6, 7, 8] rfl rfl
       ·
        refine qo0 1 [(4, .go (owns 2 0 1))] [3, 43, 48] [(42, .slice q m capq)] ?_
        refine od_ ?_
        exact wk (hmx40 (Y590, cq590, q590, γ630) hO590) [3, 42, 43, 48] [[_], [_], [_], [_], [_], _, _, _, _] [0, 1, 2, 3, 4, 5, 6, 7, 8] rfl rfl
      refine any_cutX (V := (List Ob) × (Nat) × (Option Addr)) (fun ⟨Y590, cq590, q590⟩ => SlO 3 Y590 q590 n cq590 l) 6 #[true, true, true, true, false, true, true, true, true, true, false, false, false, false, false] (fun ⟨Y590, cq590, q590⟩ => [(38, .pointer (some ⟨gb, 0, none⟩)), (41, .pointer (some ⟨gb, 0, none⟩)), (43, .int .i64 (j : Nat)), (47, .agg #[.int .i64 (j + 1 : Nat), .slice q590 n cq590])]) (fun ⟨Y590, cq590, q590⟩ => bx (γ1 0) (#[.pointer (some ⟨gb, 0, none⟩)]) 72 :: bx gb (#[.slice q m capq]) 38 :: bx gm (#[.slice p n cap]) 25 :: bx gi (#[.int .i64 (j + 1 : Nat)]) 3 :: (Y590 ++ (Y ++ (Yi ++ (YR ++ []))))) ?_ (fun hmx35 => ?_)
      ·
       rintro ⟨Y590, cq590, q590⟩ hO590
       refine any_fork [4, 10] (by kernel_rfl) (by simp) (each_cons _ rfl ?_ (each_cons _ rfl ?_ (each_nil)))
       ·
        refine qo0 1 [(4, .go (owns 1 0 1))] [38, 43, 47] [(42, .slice q m capq)] ?_
        refine od_ ?_
        exact wk (hmx39 (Y590, cq590, q590) hO590) [38, 42, 43, 47] [[_], [_], [_], [_], _, _, _, _] [0, 1, 2, 3, 4, 5, 6, 7] rfl rfl
       ·
        refine mo0 1 [] [38, 41, 43] (fun γ630 => [(48, .slice (some ⟨γ630 0, 0, none⟩) 1 1)]) (fun γ630 L => bx (γ630 0) (#[.int .i64 (j + 1 : Nat), .slice q590 n cq590]) 46 :: L) (fun γ630 => ?_)
        refine od_ ?_
        exact wk (hmx38 (Y590, cq590, q590, γ630) hO590) [38, 41, 43, 48] [[_], [_], [_], [_], [_], _, _, _, _] [0, 1, 2, 3, 4, 5, 6, 7, 8] rfl rfl
      refine any_cutX (V := (List Ob) × (Nat) × (Option Addr)) (fun ⟨Y590, cq590, q590⟩ => SlO 3 Y590 q590 n cq590 l) 7 #[true, true, true, true, true, true, false, true, true, false, false, false, false, false, false] (fun ⟨Y590, cq590, q590⟩ => [(2, .pointer (some ⟨gi, 0, none⟩)), (38, .pointer (some ⟨gb, 0, none⟩)), (42, .slice q m capq), (43, .int .i64 (j : Nat)), (46, .slice q590 n cq590)]) (fun ⟨Y590, cq590, q590⟩ => bx (γ1 0) (#[.pointer (some ⟨gb, 0, none⟩)]) 72 :: bx gb (#[.slice q m capq]) 38 :: bx gm (#[.slice p n cap]) 25 :: bx gi (#[.int .i64 (j + 1 : Nat)]) 3 :: (Y590 ++ (Y ++ (Yi ++ (YR ++ []))))) ?_ (fun hmx34 => ?_)
      ·
       rintro ⟨Y590, cq590, q590⟩ hO590
       refine a1 6 rfl ?_
       refine qo0 1 [(6, .go (owns 3 0 1))] [38, 42, 43, 46] [(44, .int .i64 (j + 1 : Nat))] ?_
       refine od_ ?_
       refine tk (m := 5) [9] [] [38, 42, 43] [(47, .agg #[.int .i64 (j + 1 : Nat), .slice q590 n cq590])] ([]) #[true, true, true, true, true, true, true, true, true, true, false, false, false, false, false] al0 ?_
       exact wk (hmx39 (Y590, cq590, q590) hO590) [38, 42, 43, 47] [[_], [_], [_], [_], _, _, _, _] [0, 1, 2, 3, 4, 5, 6, 7] rfl rfl
      refine any_cutX (V := Unit) (fun _ => True) 7 #[true, true, true, true, true, true, true, true, false, false, false, false, false, false, false] (fun _ => [(38, .pointer (some ⟨gb, 0, none⟩)), (42, .slice q m capq), (43, .int .i64 (j : Nat)), (44, .int .i64 (j + 1 : Nat)), (45, .slice p n cap)]) (fun _ => bx (γ1 0) (#[.pointer (some ⟨gb, 0, none⟩)]) 72 :: bx gb (#[.slice q m capq]) 38 :: bx gm (#[.slice p n cap]) 25 :: bx gi (#[.int .i64 (j + 1 : Nat)]) 3 :: (Y ++ (Yi ++ (YR ++ [])))) ?_ (fun hmx33 => ?_)
      ·
       rintro _ _
       refine a1 8 rfl ?_
       refine cP (fun v L' => ∃ q_ c_ Y_, v = .slice q_ n c_ ∧ L' = List.take 4 (bx (γ1 0) (#[.pointer (some ⟨gb, 0, none⟩)]) 72 :: bx gb (#[.slice q m capq]) 38 :: bx gm (#[.slice p n cap]) 25 :: bx gi (#[.int .i64 (j + 1 : Nat)]) 3 :: (Y ++ (Yi ++ (YR ++ [])))) ++ (Y_ ++ List.drop 4 (bx (γ1 0) (#[.pointer (some ⟨gb, 0, none⟩)]) 72 :: bx gb (#[.slice q m capq]) 38 :: bx gm (#[.slice p n cap]) 25 :: bx gi (#[.int .i64 (j + 1 : Nat)]) 3 :: (Y ++ (Yi ++ (YR ++ []))))) ∧ SlO 3 Y_ q_ n c_ l) Try.call44 (fun w hw => (cloneints_t p n cap l w (hsl.kept hw.below) hn (by omega)).mono fun e w' ⟨q_, c_, Y_, he, hO, hb, hY⟩ => ⟨_, _, he, ⟨q_, c_, Y_, rfl, rfl, hO⟩, hw.join hb hY 4⟩) ?_
       rintro v590 L590 ⟨q590, cq590, Y590, rfl, rfl, hO590⟩
       refine od_ ?_
       refine tk (m := 5) [9] [] [38, 42, 43] [(47, .agg #[.int .i64 (j + 1 : Nat), .slice q590 n cq590])] ([]) #[true, true, true, true, true, true, true, true, true, true, false, false, false, false, false] al0 ?_
       exact wk (hmx39 (Y590, cq590, q590) hO590) [38, 42, 43, 47] [[_], [_], [_], [_], _, _, _, _] [0, 1, 2, 3, 4, 5, 6, 7] rfl rfl
      refine any_cutX (V := (List Ob) × (Nat) × (Option Addr)) (fun ⟨Y590, cq590, q590⟩ => SlO 3 Y590 q590 n cq590 l) 7 #[false, true, true, true, false, true, true, true, true, true, false, false, false, false, false] (fun ⟨Y590, cq590, q590⟩ => [(3, .pointer (some ⟨γ1 0, 0, none⟩)), (41, .pointer (some ⟨gb, 0, none⟩)), (43, .int .i64 (j : Nat)), (47, .agg #[.int .i64 (j + 1 : Nat), .slice q590 n cq590])]) (fun ⟨Y590, cq590, q590⟩ => bx (γ1 0) (#[.pointer (some ⟨gb, 0, none⟩)]) 72 :: bx gb (#[.slice q m capq]) 38 :: bx gm (#[.slice p n cap]) 25 :: bx gi (#[.int .i64 (j + 1 : Nat)]) 3 :: (Y590 ++ (Y ++ (Yi ++ (YR ++ []))))) ?_ (fun hmx32 => ?_)
      ·
       rintro ⟨Y590, cq590, q590⟩ hO590
       refine any_fork [0, 4, 10] (by kernel_rfl) (by simp) (each_cons _ rfl ?_ (each_cons _ rfl ?_ (each_cons _ rfl ?_ (each_nil))))
       ·
        refine qo0 1 [(0, .go (owns 0 0 1))] [41, 43, 47] [(38, .pointer (some ⟨gb, 0, none⟩))] ?_
        refine od_ ?_
        exact wk (hmx35 (Y590, cq590, q590) hO590) [38, 41, 43, 47] [[_], [_], [_], [_], _, _, _, _] [0, 1, 2, 3, 4, 5, 6, 7] rfl rfl
       ·
        refine qo0 1 [(4, .go (owns 1 0 1))] [3, 43, 47] [(42, .slice q m capq)] ?_
        refine od_ ?_
        exact wk (hmx37 (Y590, cq590, q590) hO590) [3, 42, 43, 47] [[_], [_], [_], [_], _, _, _, _] [0, 1, 2, 3, 4, 5, 6, 7] rfl rfl
       ·
        refine mo0 1 [] [3, 41, 43] (fun γ630 => [(48, .slice (some ⟨γ630 0, 0, none⟩) 1 1)]) (fun γ630 L => bx (γ630 0) (#[.int .i64 (j + 1 : Nat), .slice q590 n cq590]) 46 :: L) (fun γ630 => ?_)
        refine od_ ?_
        exact wk (hmx36 (Y590, cq590, q590, γ630) hO590) [3, 41, 43, 48] [[_], [_], [_], [_], [_], _, _, _, _] [0, 1, 2, 3, 4, 5, 6, 7, 8] rfl rfl
      refine any_cutX (V := (List Ob) × (Nat) × (Option Addr) × (Nat → Nat)) (fun ⟨Y590, cq590, q590, γ630⟩ => SlO 3 Y590 q590 n cq590 l) 8 #[true, false, false, false, false, true, true, true, true, true, true, false, false, false, false] (fun ⟨Y590, cq590, q590, γ630⟩ => [(3, .pointer (some ⟨γ1 0, 0, none⟩)), (38, .pointer (some ⟨gb, 0, none⟩)), (43, .int .i64 (j : Nat)), (48, .slice (some ⟨γ630 0, 0, none⟩) 1 1)]) (fun ⟨Y590, cq590, q590, γ630⟩ => bx (γ630 0) (#[.int .i64 (j + 1 : Nat), .slice q590 n cq590]) 46 :: bx (γ1 0) (#[.pointer (some ⟨gb, 0, none⟩)]) 72 :: bx gb (#[.slice q m capq]) 38 :: bx gm (#[.slice p n cap]) 25 :: bx gi (#[.int .i64 (j + 1 : Nat)]) 3 :: (Y590 ++ (Y ++ (Yi ++ (YR ++ []))))) ?_ (fun hmx31 => ?_)
      ·
       rintro ⟨Y590, cq590, q590, γ630⟩ hO590
       refine a1 1 rfl ?_
       refine qo0 1 [(1, .go (owns 1 0 1))] [38, 43, 48] [(39, .pointer (some ⟨gb, 0, none⟩))] ?_
       refine od_ ?_
       refine tk (m := 5) [2, 3] [] [38, 43, 48] [(41, .pointer (some ⟨gb, 0, none⟩))] ([]) #[true, true, true, true, false, true, true, true, true, true, true, false, false, false, false] al0 ?_
       exact wk (hmx38 (Y590, cq590, q590, γ630) hO590) [38, 41, 43, 48] [[_], [_], [_], [_], [_], _, _, _, _] [0, 1, 2, 3, 4, 5, 6, 7, 8] rfl rfl
      refine any_cutX (V := (List Ob) × (Nat) × (Option Addr)) (fun ⟨Y590, cq590, q590⟩ => SlO 3 Y590 q590 n cq590 l) 8 #[false, true, true, true, true, true, false, true, true, false, false, false, false, false, false] (fun ⟨Y590, cq590, q590⟩ => [(2, .pointer (some ⟨gi, 0, none⟩)), (3, .pointer (some ⟨γ1 0, 0, none⟩)), (42, .slice q m capq), (43, .int .i64 (j : Nat)), (46, .slice q590 n cq590)]) (fun ⟨Y590, cq590, q590⟩ => bx (γ1 0) (#[.pointer (some ⟨gb, 0, none⟩)]) 72 :: bx gb (#[.slice q m capq]) 38 :: bx gm (#[.slice p n cap]) 25 :: bx gi (#[.int .i64 (j + 1 : Nat)]) 3 :: (Y590 ++ (Y ++ (Yi ++ (YR ++ []))))) ?_ (fun hmx30 => ?_)
      ·
       rintro ⟨Y590, cq590, q590⟩ hO590
       refine any_fork [0, 6] (by kernel_rfl) (by simp) (each_cons _ rfl ?_ (each_cons _ rfl ?_ (each_nil)))
       ·
        refine qo0 1 [(0, .go (owns 0 0 1))] [2, 42, 43, 46] [(38, .pointer (some ⟨gb, 0, none⟩))] ?_
        refine od_ ?_
        exact wk (hmx34 (Y590, cq590, q590) hO590) [2, 38, 42, 43, 46] [[_], [_], [_], [_], _, _, _, _] [0, 1, 2, 3, 4, 5, 6, 7] rfl rfl
       ·
        refine qo0 1 [(6, .go (owns 3 0 1))] [3, 42, 43, 46] [(44, .int .i64 (j + 1 : Nat))] ?_
        refine od_ ?_
        refine tk (m := 6) [9] [] [3, 42, 43] [(47, .agg #[.int .i64 (j + 1 : Nat), .slice q590 n cq590])] ([]) #[false, true, true, true, true, true, true, true, true, true, false, false, false, false, false] al0 ?_
        exact wk (hmx37 (Y590, cq590, q590) hO590) [3, 42, 43, 47] [[_], [_], [_], [_], _, _, _, _] [0, 1, 2, 3, 4, 5, 6, 7] rfl rfl
      refine any_cutX (V := Unit) (fun _ => True) 8 #[false, true, true, true, true, true, true, true, false, false, false, false, false, false, false] (fun _ => [(3, .pointer (some ⟨γ1 0, 0, none⟩)), (42, .slice q m capq), (43, .int .i64 (j : Nat)), (44, .int .i64 (j + 1 : Nat)), (45, .slice p n cap)]) (fun _ => bx (γ1 0) (#[.pointer (some ⟨gb, 0, none⟩)]) 72 :: bx gb (#[.slice q m capq]) 38 :: bx gm (#[.slice p n cap]) 25 :: bx gi (#[.int .i64 (j + 1 : Nat)]) 3 :: (Y ++ (Yi ++ (YR ++ [])))) ?_ (fun hmx29 => ?_)
      ·
       rintro _ _
       refine any_fork [0, 8] (by kernel_rfl) (by simp) (each_cons _ rfl ?_ (each_cons _ rfl ?_ (each_nil)))
       ·
        refine qo0 1 [(0, .go (owns 0 0 1))] [42, 43, 44, 45] [(38, .pointer (some ⟨gb, 0, none⟩))] ?_
        refine od_ ?_
        exact wk (hmx33 () trivial) [38, 42, 43, 44, 45] [[_], [_], [_], [_], _, _, _] [0, 1, 2, 3, 4, 5, 6] rfl rfl
       ·
        refine cP (fun v L' => ∃ q_ c_ Y_, v = .slice q_ n c_ ∧ L' = List.take 4 (bx (γ1 0) (#[.pointer (some ⟨gb, 0, none⟩)]) 72 :: bx gb (#[.slice q m capq]) 38 :: bx gm (#[.slice p n cap]) 25 :: bx gi (#[.int .i64 (j + 1 : Nat)]) 3 :: (Y ++ (Yi ++ (YR ++ [])))) ++ (Y_ ++ List.drop 4 (bx (γ1 0) (#[.pointer (some ⟨gb, 0, none⟩)]) 72 :: bx gb (#[.slice q m capq]) 38 :: bx gm (#[.slice p n cap]) 25 :: bx gi (#[.int .i64 (j + 1 : Nat)]) 3 :: (Y ++ (Yi ++ (YR ++ []))))) ∧ SlO 3 Y_ q_ n c_ l) Try.call44 (fun w hw => (cloneints_t p n cap l w (hsl.kept hw.below) hn (by omega)).mono fun e w' ⟨q_, c_, Y_, he, hO, hb, hY⟩ => ⟨_, _, he, ⟨q_, c_, Y_, rfl, rfl, hO⟩, hw.join hb hY 4⟩) ?_
        rintro v590 L590 ⟨q590, cq590, Y590, rfl, rfl, hO590⟩
        refine od_ ?_
        refine tk (m := 6) [9] [] [3, 42, 43] [(47, .agg #[.int .i64 (j + 1 : Nat), .slice q590 n cq590])] ([]) #[false, true, true, true, true, true, true, true, true, true, false, false, false, false, false] al0 ?_
        exact wk (hmx37 (Y590, cq590, q590) hO590) [3, 42, 43, 47] [[_], [_], [_], [_], _, _, _, _] [0, 1, 2, 3, 4, 5, 6, 7] rfl rfl
      refine any_cutX (V := Unit) (fun _ => True) 8 #[true, true, true, true, true, true, false, true, false, false, false, false, false, false, false] (fun _ => [(2, .pointer (some ⟨gi, 0, none⟩)), (38, .pointer (some ⟨gb, 0, none⟩)), (42, .slice q m capq), (43, .int .i64 (j : Nat)), (45, .slice p n cap)]) (fun _ => bx (γ1 0) (#[.pointer (some ⟨gb, 0, none⟩)]) 72 :: bx gb (#[.slice q m capq]) 38 :: bx gm (#[.slice p n cap]) 25 :: bx gi (#[.int .i64 (j + 1 : Nat)]) 3 :: (Y ++ (Yi ++ (YR ++ [])))) ?_ (fun hmx28 => ?_)
      ·
       rintro _ _
       refine any_fork [6, 8] (by kernel_rfl) (by simp) (each_cons _ rfl ?_ (each_cons _ rfl ?_ (each_nil)))
       ·
        refine qo0 1 [(6, .go (owns 3 0 1))] [38, 42, 43, 45] [(44, .int .i64 (j + 1 : Nat))] ?_
        refine od_ ?_
        exact wk (hmx33 () trivial) [38, 42, 43, 44, 45] [[_], [_], [_], [_], _, _, _] [0, 1, 2, 3, 4, 5, 6] rfl rfl
       ·
        refine cP (fun v L' => ∃ q_ c_ Y_, v = .slice q_ n c_ ∧ L' = List.take 4 (bx (γ1 0) (#[.pointer (some ⟨gb, 0, none⟩)]) 72 :: bx gb (#[.slice q m capq]) 38 :: bx gm (#[.slice p n cap]) 25 :: bx gi (#[.int .i64 (j + 1 : Nat)]) 3 :: (Y ++ (Yi ++ (YR ++ [])))) ++ (Y_ ++ List.drop 4 (bx (γ1 0) (#[.pointer (some ⟨gb, 0, none⟩)]) 72 :: bx gb (#[.slice q m capq]) 38 :: bx gm (#[.slice p n cap]) 25 :: bx gi (#[.int .i64 (j + 1 : Nat)]) 3 :: (Y ++ (Yi ++ (YR ++ []))))) ∧ SlO 3 Y_ q_ n c_ l) Try.call44 (fun w hw => (cloneints_t p n cap l w (hsl.kept hw.below) hn (by omega)).mono fun e w' ⟨q_, c_, Y_, he, hO, hb, hY⟩ => ⟨_, _, he, ⟨q_, c_, Y_, rfl, rfl, hO⟩, hw.join hb hY 4⟩) ?_
        rintro v590 L590 ⟨q590, cq590, Y590, rfl, rfl, hO590⟩
        refine od_ ?_
        exact wk (hmx34 (Y590, cq590, q590) hO590) [2, 38, 42, 43, 46] [[_], [_], [_], [_], _, _, _, _] [0, 1, 2, 3, 4, 5, 6, 7] rfl rfl
      refine any_cutX (V := Unit) (fun _ => True) 8 #[true, true, true, true, true, true, true, false, false, false, false, false, false, false, false] (fun _ => [(1, .pointer (some ⟨gm, 0, none⟩)), (38, .pointer (some ⟨gb, 0, none⟩)), (42, .slice q m capq), (43, .int .i64 (j : Nat)), (44, .int .i64 (j + 1 : Nat))]) (fun _ => bx (γ1 0) (#[.pointer (some ⟨gb, 0, none⟩)]) 72 :: bx gb (#[.slice q m capq]) 38 :: bx gm (#[.slice p n cap]) 25 :: bx gi (#[.int .i64 (j + 1 : Nat)]) 3 :: (Y ++ (Yi ++ (YR ++ [])))) ?_ (fun hmx27 => ?_)
      ·
       rintro _ _
       refine a1 7 rfl ?_
       refine qo0 1 [(7, .go (owns 2 0 1))] [38, 42, 43, 44] [(45, .slice p n cap)] ?_
       refine od_ ?_
       exact wk (hmx33 () trivial) [38, 42, 43, 44, 45] [[_], [_], [_], [_], _, _, _] [0, 1, 2, 3, 4, 5, 6] rfl rfl
      refine any_cutX (V := (List Ob) × (Nat) × (Option Addr)) (fun ⟨Y590, cq590, q590⟩ => SlO 3 Y590 q590 n cq590 l) 8 #[true, true, true, true, false, true, false, true, true, false, false, false, false, false, false] (fun ⟨Y590, cq590, q590⟩ => [(2, .pointer (some ⟨gi, 0, none⟩)), (38, .pointer (some ⟨gb, 0, none⟩)), (41, .pointer (some ⟨gb, 0, none⟩)), (43, .int .i64 (j : Nat)), (46, .slice q590 n cq590)]) (fun ⟨Y590, cq590, q590⟩ => bx (γ1 0) (#[.pointer (some ⟨gb, 0, none⟩)]) 72 :: bx gb (#[.slice q m capq]) 38 :: bx gm (#[.slice p n cap]) 25 :: bx gi (#[.int .i64 (j + 1 : Nat)]) 3 :: (Y590 ++ (Y ++ (Yi ++ (YR ++ []))))) ?_ (fun hmx26 => ?_)
      ·
       rintro ⟨Y590, cq590, q590⟩ hO590
       refine any_fork [4, 6] (by kernel_rfl) (by simp) (each_cons _ rfl ?_ (each_cons _ rfl ?_ (each_nil)))
       ·
        refine qo0 1 [(4, .go (owns 1 0 1))] [2, 38, 43, 46] [(42, .slice q m capq)] ?_
        refine od_ ?_
        exact wk (hmx34 (Y590, cq590, q590) hO590) [2, 38, 42, 43, 46] [[_], [_], [_], [_], _, _, _, _] [0, 1, 2, 3, 4, 5, 6, 7] rfl rfl
       ·
        refine qo0 1 [(6, .go (owns 3 0 1))] [38, 41, 43, 46] [(44, .int .i64 (j + 1 : Nat))] ?_
        refine od_ ?_
        refine tk (m := 6) [9] [] [38, 41, 43] [(47, .agg #[.int .i64 (j + 1 : Nat), .slice q590 n cq590])] ([]) #[true, true, true, true, false, true, true, true, true, true, false, false, false, false, false] al0 ?_
        exact wk (hmx35 (Y590, cq590, q590) hO590) [38, 41, 43, 47] [[_], [_], [_], [_], _, _, _, _] [0, 1, 2, 3, 4, 5, 6, 7] rfl rfl
      refine any_cutX (V := Unit) (fun _ => True) 8 #[true, true, true, true, false, true, true, true, false, false, false, false, false, false, false] (fun _ => [(38, .pointer (some ⟨gb, 0, none⟩)), (41, .pointer (some ⟨gb, 0, none⟩)), (43, .int .i64 (j : Nat)), (44, .int .i64 (j + 1 : Nat)), (45, .slice p n cap)]) (fun _ => bx (γ1 0) (#[.pointer (some ⟨gb, 0, none⟩)]) 72 :: bx gb (#[.slice q m capq]) 38 :: bx gm (#[.slice p n cap]) 25 :: bx gi (#[.int .i64 (j + 1 : Nat)]) 3 :: (Y ++ (Yi ++ (YR ++ [])))) ?_ (fun hmx25 => ?_)
      ·
       rintro _ _
       refine any_fork [4, 8] (by kernel_rfl) (by simp) (each_cons _ rfl ?_ (each_cons _ rfl ?_ (each_nil)))
       ·
        refine qo0 1 [(4, .go (owns 1 0 1))] [38, 43, 44, 45] [(42, .slice q m capq)] ?_
        refine od_ ?_
        exact wk (hmx33 () trivial) [38, 42, 43, 44, 45] [[_], [_], [_], [_], _, _, _] [0, 1, 2, 3, 4, 5, 6] rfl rfl
       ·
        refine cP (fun v L' => ∃ q_ c_ Y_, v = .slice q_ n c_ ∧ L' = List.take 4 (bx (γ1 0) (#[.pointer (some ⟨gb, 0, none⟩)]) 72 :: bx gb (#[.slice q m capq]) 38 :: bx gm (#[.slice p n cap]) 25 :: bx gi (#[.int .i64 (j + 1 : Nat)]) 3 :: (Y ++ (Yi ++ (YR ++ [])))) ++ (Y_ ++ List.drop 4 (bx (γ1 0) (#[.pointer (some ⟨gb, 0, none⟩)]) 72 :: bx gb (#[.slice q m capq]) 38 :: bx gm (#[.slice p n cap]) 25 :: bx gi (#[.int .i64 (j + 1 : Nat)]) 3 :: (Y ++ (Yi ++ (YR ++ []))))) ∧ SlO 3 Y_ q_ n c_ l) Try.call44 (fun w hw => (cloneints_t p n cap l w (hsl.kept hw.below) hn (by omega)).mono fun e w' ⟨q_, c_, Y_, he, hO, hb, hY⟩ => ⟨_, _, he, ⟨q_, c_, Y_, rfl, rfl, hO⟩, hw.join hb hY 4⟩) ?_
        rintro v590 L590 ⟨q590, cq590, Y590, rfl, rfl, hO590⟩
        refine od_ ?_
        refine tk (m := 6) [9] [] [38, 41, 43] [(47, .agg #[.int .i64 (j + 1 : Nat), .slice q590 n cq590])] ([]) #[true, true, true, true, false, true, true, true, true, true, false, false, false, false, false] al0 ?_
        exact wk (hmx35 (Y590, cq590, q590) hO590) [38, 41, 43, 47] [[_], [_], [_], [_], _, _, _, _] [0, 1, 2, 3, 4, 5, 6, 7] rfl rfl
      refine any_cutX (V := (List Ob) × (Nat) × (Option Addr) × (Nat → Nat)) (fun ⟨Y590, cq590, q590, γ630⟩ => SlO 3 Y590 q590 n cq590 l) 9 #[false, false, false, false, false, true, true, true, true, true, true, false, false, false, false] (fun ⟨Y590, cq590, q590, γ630⟩ => [(3, .pointer (some ⟨γ1 0, 0, none⟩)), (43, .int .i64 (j : Nat)), (48, .slice (some ⟨γ630 0, 0, none⟩) 1 1)]) (fun ⟨Y590, cq590, q590, γ630⟩ => bx (γ630 0) (#[.int .i64 (j + 1 : Nat), .slice q590 n cq590]) 46 :: bx (γ1 0) (#[.pointer (some ⟨gb, 0, none⟩)]) 72 :: bx gb (#[.slice q m capq]) 38 :: bx gm (#[.slice p n cap]) 25 :: bx gi (#[.int .i64 (j + 1 : Nat)]) 3 :: (Y590 ++ (Y ++ (Yi ++ (YR ++ []))))) ?_ (fun hmx24 => ?_)
      ·
       rintro ⟨Y590, cq590, q590, γ630⟩ hO590
       refine any_fork [0, 1] (by kernel_rfl) (by simp) (each_cons _ rfl ?_ (each_cons _ rfl ?_ (each_nil)))
       ·
        refine qo0 1 [(0, .go (owns 1 0 1))] [3, 43, 48] [(38, .pointer (some ⟨gb, 0, none⟩))] ?_
        refine od_ ?_
        exact wk (hmx31 (Y590, cq590, q590, γ630) hO590) [3, 38, 43, 48] [[_], [_], [_], [_], [_], _, _, _, _] [0, 1, 2, 3, 4, 5, 6, 7, 8] rfl rfl
       ·
        refine qo0 1 [(1, .go (owns 1 0 1))] [3, 43, 48] [(39, .pointer (some ⟨gb, 0, none⟩))] ?_
        refine od_ ?_
        refine tk (m := 6) [2, 3] [] [3, 43, 48] [(41, .pointer (some ⟨gb, 0, none⟩))] ([]) #[false, true, true, true, false, true, true, true, true, true, true, false, false, false, false] al0 ?_
        exact wk (hmx36 (Y590, cq590, q590, γ630) hO590) [3, 41, 43, 48] [[_], [_], [_], [_], [_], _, _, _, _] [0, 1, 2, 3, 4, 5, 6, 7, 8] rfl rfl
      refine any_cutX (V := Unit) (fun _ => True) 9 #[false, true, true, true, true, true, false, true, false, false, false, false, false, false, false] (fun _ => [(2, .pointer (some ⟨gi, 0, none⟩)), (3, .pointer (some ⟨γ1 0, 0, none⟩)), (42, .slice q m capq), (43, .int .i64 (j : Nat)), (45, .slice p n cap)]) (fun _ => bx (γ1 0) (#[.pointer (some ⟨gb, 0, none⟩)]) 72 :: bx gb (#[.slice q m capq]) 38 :: bx gm (#[.slice p n cap]) 25 :: bx gi (#[.int .i64 (j + 1 : Nat)]) 3 :: (Y ++ (Yi ++ (YR ++ [])))) ?_ (fun hmx23 => ?_)
      ·
       rintro _ _
       refine any_fork [0, 6, 8] (by kernel_rfl) (by simp) (each_cons _ rfl ?_ (each_cons _ rfl ?_ (each_cons _ rfl ?_ (each_nil))))
       ·
        refine qo0 1 [(0, .go (owns 0 0 1))] [2, 42, 43, 45] [(38, .pointer (some ⟨gb, 0, none⟩))] ?_
        refine od_ ?_
        exact wk (hmx28 () trivial) [2, 38, 42, 43, 45] [[_], [_], [_], [_], _, _, _] [0, 1, 2, 3, 4, 5, 6] rfl rfl
       ·
        refine qo0 1 [(6, .go (owns 3 0 1))] [3, 42, 43, 45] [(44, .int .i64 (j + 1 : Nat))] ?_
        refine od_ ?_
        exact wk (hmx29 () trivial) [3, 42, 43, 44, 45] [[_], [_], [_], [_], _, _, _] [0, 1, 2, 3, 4, 5, 6] rfl rfl
       ·
        refine cP (fun v L' => ∃ q_ c_ Y_, v = .slice q_ n c_ ∧ L' = List.take 4 (bx (γ1 0) (#[.pointer (some ⟨gb, 0, none⟩)]) 72 :: bx gb (#[.slice q m capq]) 38 :: bx gm (#[.slice p n cap]) 25 :: bx gi (#[.int .i64 (j + 1 : Nat)]) 3 :: (Y ++ (Yi ++ (YR ++ [])))) ++ (Y_ ++ List.drop 4 (bx (γ1 0) (#[.pointer (some ⟨gb, 0, none⟩)]) 72 :: bx gb (#[.slice q m capq]) 38 :: bx gm (#[.slice p n cap]) 25 :: bx gi (#[.int .i64 (j + 1 : Nat)]) 3 :: (Y ++ (Yi ++ (YR ++ []))))) ∧ SlO 3 Y_ q_ n c_ l) Try.call44 (fun w hw => (cloneints_t p n cap l w (hsl.kept hw.below) hn (by omega)).mono fun e w' ⟨q_, c_, Y_, he, hO, hb, hY⟩ => ⟨_, _, he, ⟨q_, c_, Y_, rfl, rfl, hO⟩, hw.join hb hY 4⟩) ?_
        rintro v590 L590 ⟨q590, cq590, Y590, rfl, rfl, hO590⟩
        refine od_ ?_
        exact wk (hmx30 (Y590, cq590, q590) hO590) [2, 3, 42, 43, 46] [[_], [_], [_], [_], _, _, _, _] [0, 1, 2, 3, 4, 5, 6, 7] rfl rfl
      refine any_cutX (V := Unit) (fun _ => True) 9 #[false, true, true, true, true, true, true, false, false, false, false, false, false, false, false] (fun _ => [(1, .pointer (some ⟨gm, 0, none⟩)), (3, .pointer (some ⟨γ1 0, 0, none⟩)), (42, .slice q m capq), (43, .int .i64 (j : Nat)), (44, .int .i64 (j + 1 : Nat))]) (fun _ => bx (γ1 0) (#[.pointer (some ⟨gb, 0, none⟩)]) 72 :: bx gb (#[.slice q m capq]) 38 :: bx gm (#[.slice p n cap]) 25 :: bx gi (#[.int .i64 (j + 1 : Nat)]) 3 :: (Y ++ (Yi ++ (YR ++ [])))) ?_ (fun hmx22 => ?_)
      ·
       rintro _ _
       refine any_fork [0, 7] (by kernel_rfl) (by simp) (each_cons _ rfl ?_ (each_cons _ rfl ?_ (each_nil)))
       ·
        refine qo0 1 [(0, .go (owns 0 0 1))] [1, 42, 43, 44] [(38, .pointer (some ⟨gb, 0, none⟩))] ?_
        refine od_ ?_
        exact wk (hmx27 () trivial) [1, 38, 42, 43, 44] [[_], [_], [_], [_], _, _, _] [0, 1, 2, 3, 4, 5, 6] rfl rfl
       ·
        refine qo0 1 [(7, .go (owns 2 0 1))] [3, 42, 43, 44] [(45, .slice p n cap)] ?_
        refine od_ ?_
        exact wk (hmx29 () trivial) [3, 42, 43, 44, 45] [[_], [_], [_], [_], _, _, _] [0, 1, 2, 3, 4, 5, 6] rfl rfl
      refine any_cutX (V := Unit) (fun _ => True) 9 #[true, true, true, true, true, true, false, false, false, false, false, false, false, false, false] (fun _ => [(1, .pointer (some ⟨gm, 0, none⟩)), (2, .pointer (some ⟨gi, 0, none⟩)), (38, .pointer (some ⟨gb, 0, none⟩)), (42, .slice q m capq), (43, .int .i64 (j : Nat))]) (fun _ => bx (γ1 0) (#[.pointer (some ⟨gb, 0, none⟩)]) 72 :: bx gb (#[.slice q m capq]) 38 :: bx gm (#[.slice p n cap]) 25 :: bx gi (#[.int .i64 (j + 1 : Nat)]) 3 :: (Y ++ (Yi ++ (YR ++ [])))) ?_ (fun hmx21 => ?_)
      ·
       rintro _ _
       refine any_fork [6, 7] (by kernel_rfl) (by simp) (each_cons _ rfl ?_ (each_cons _ rfl ?_ (each_nil)))
       ·
        refine qo0 1 [(6, .go (owns 3 0 1))] [1, 38, 42, 43] [(44, .int .i64 (j + 1 : Nat))] ?_
        refine od_ ?_
        exact wk (hmx27 () trivial) [1, 38, 42, 43, 44] [[_], [_], [_], [_], _, _, _] [0, 1, 2, 3, 4, 5, 6] rfl rfl
       ·
        refine qo0 1 [(7, .go (owns 2 0 1))] [2, 38, 42, 43] [(45, .slice p n cap)] ?_
        refine od_ ?_
        exact wk (hmx28 () trivial) [2, 38, 42, 43, 45] [[_], [_], [_], [_], _, _, _] [0, 1, 2, 3, 4, 5, 6] rfl rfl
      refine any_cutX (V := (List Ob) × (Nat) × (Option Addr)) (fun ⟨Y590, cq590, q590⟩ => SlO 3 Y590 q590 n cq590 l) 9 #[true, false, false, false, false, true, true, true, true, true, false, false, false, false, false] (fun ⟨Y590, cq590, q590⟩ => [(3, .pointer (some ⟨γ1 0, 0, none⟩)), (38, .pointer (some ⟨gb, 0, none⟩)), (43, .int .i64 (j : Nat)), (47, .agg #[.int .i64 (j + 1 : Nat), .slice q590 n cq590])]) (fun ⟨Y590, cq590, q590⟩ => bx (γ1 0) (#[.pointer (some ⟨gb, 0, none⟩)]) 72 :: bx gb (#[.slice q m capq]) 38 :: bx gm (#[.slice p n cap]) 25 :: bx gi (#[.int .i64 (j + 1 : Nat)]) 3 :: (Y590 ++ (Y ++ (Yi ++ (YR ++ []))))) ?_ (fun hmx20 => ?_)
      ·
       rintro ⟨Y590, cq590, q590⟩ hO590
       refine any_fork [1, 10] (by kernel_rfl) (by simp) (each_cons _ rfl ?_ (each_cons _ rfl ?_ (each_nil)))
       ·
        refine qo0 1 [(1, .go (owns 0 0 1))] [38, 43, 47] [(39, .pointer (some ⟨gb, 0, none⟩))] ?_
        refine od_ ?_
        refine tk (m := 6) [2, 3] [] [38, 43, 47] [(41, .pointer (some ⟨gb, 0, none⟩))] ([]) #[true, true, true, true, false, true, true, true, true, true, false, false, false, false, false] al0 ?_
        exact wk (hmx35 (Y590, cq590, q590) hO590) [38, 41, 43, 47] [[_], [_], [_], [_], _, _, _, _] [0, 1, 2, 3, 4, 5, 6, 7] rfl rfl
       ·
        refine mo0 1 [] [3, 38, 43] (fun γ630 => [(48, .slice (some ⟨γ630 0, 0, none⟩) 1 1)]) (fun γ630 L => bx (γ630 0) (#[.int .i64 (j + 1 : Nat), .slice q590 n cq590]) 46 :: L) (fun γ630 => ?_)
        refine od_ ?_
        exact wk (hmx31 (Y590, cq590, q590, γ630) hO590) [3, 38, 43, 48] [[_], [_], [_], [_], [_], _, _, _, _] [0, 1, 2, 3, 4, 5, 6, 7, 8] rfl rfl
      refine any_cutX (V := (List Ob) × (Nat) × (Option Addr)) (fun ⟨Y590, cq590, q590⟩ => SlO 3 Y590 q590 n cq590 l) 9 #[false, true, true, true, false, true, false, true, true, false, false, false, false, false, false] (fun ⟨Y590, cq590, q590⟩ => [(2, .pointer (some ⟨gi, 0, none⟩)), (3, .pointer (some ⟨γ1 0, 0, none⟩)), (41, .pointer (some ⟨gb, 0, none⟩)), (43, .int .i64 (j : Nat)), (46, .slice q590 n cq590)]) (fun ⟨Y590, cq590, q590⟩ => bx (γ1 0) (#[.pointer (some ⟨gb, 0, none⟩)]) 72 :: bx gb (#[.slice q m capq]) 38 :: bx gm (#[.slice p n cap]) 25 :: bx gi (#[.int .i64 (j + 1 : Nat)]) 3 :: (Y590 ++ (Y ++ (Yi ++ (YR ++ []))))) ?_ (fun hmx19 => ?_)
      ·
       rintro ⟨Y590, cq590, q590⟩ hO590
       refine any_fork [0, 4, 6] (by kernel_rfl) (by simp) (each_cons _ rfl ?_ (each_cons _ rfl ?_ (each_cons _ rfl ?_ (each_nil))))
       ·
        refine qo0 1 [(0, .go (owns 0 0 1))] [2, 41, 43, 46] [(38, .pointer (some ⟨gb, 0, none⟩))] ?_
        refine od_ ?_
        exact wk (hmx26 (Y590, cq590, q590) hO590) [2, 38, 41, 43, 46] [[_], [_], [_], [_], _, _, _, _] [0, 1, 2, 3, 4, 5, 6, 7] rfl rfl
       ·
        refine qo0 1 [(4, .go (owns 1 0 1))] [2, 3, 43, 46] [(42, .slice q m capq)] ?_
        refine od_ ?_
        exact wk (hmx30 (Y590, cq590, q590) hO590) [2, 3, 42, 43, 46] [[_], [_], [_], [_], _, _, _, _] [0, 1, 2, 3, 4, 5, 6, 7] rfl rfl
       ·
        refine qo0 1 [(6, .go (owns 3 0 1))] [3, 41, 43, 46] [(44, .int .i64 (j + 1 : Nat))] ?_
        refine od_ ?_
        refine tk (m := 7) [9] [] [3, 41, 43] [(47, .agg #[.int .i64 (j + 1 : Nat), .slice q590 n cq590])] ([]) #[false, true, true, true, false, true, true, true, true, true, false, false, false, false, false] al0 ?_
        exact wk (hmx32 (Y590, cq590, q590) hO590) [3, 41, 43, 47] [[_], [_], [_], [_], _, _, _, _] [0, 1, 2, 3, 4, 5, 6, 7] rfl rfl
      refine any_cutX (V := Unit) (fun _ => True) 9 #[false, true, true, true, false, true, true, true, false, false, false, false, false, false, false] (fun _ => [(3, .pointer (some ⟨γ1 0, 0, none⟩)), (41, .pointer (some ⟨gb, 0, none⟩)), (43, .int .i64 (j : Nat)), (44, .int .i64 (j + 1 : Nat)), (45, .slice p n cap)]) (fun _ => bx (γ1 0) (#[.pointer (some ⟨gb, 0, none⟩)]) 72 :: bx gb (#[.slice q m capq]) 38 :: bx gm (#[.slice p n cap]) 25 :: bx gi (#[.int .i64 (j + 1 : Nat)]) 3 :: (Y ++ (Yi ++ (YR ++ [])))) ?_ (fun hmx18 => ?_)
      ·
       rintro _ _
       refine any_fork [0, 4, 8] (by kernel_rfl) (by simp) (each_cons _ rfl ?_ (each_cons _ rfl ?_ (each_cons _ rfl ?_ (each_nil))))
       ·
        refine qo0 1 [(0, .go (owns 0 0 1))] [41, 43, 44, 45] [(38, .pointer (some ⟨gb, 0, none⟩))] ?_
        refine od_ ?_
        exact wk (hmx25 () trivial) [38, 41, 43, 44, 45] [[_], [_], [_], [_], _, _, _] [0, 1, 2, 3, 4, 5, 6] rfl rfl
       ·
        refine qo0 1 [(4, .go (owns 1 0 1))] [3, 43, 44, 45] [(42, .slice q m capq)] ?_
        refine od_ ?_
        exact wk (hmx29 () trivial) [3, 42, 43, 44, 45] [[_], [_], [_], [_], _, _, _] [0, 1, 2, 3, 4, 5, 6] rfl rfl
       ·
        refine cP (fun v L' => ∃ q_ c_ Y_, v = .slice q_ n c_ ∧ L' = List.take 4 (bx (γ1 0) (#[.pointer (some ⟨gb, 0, none⟩)]) 72 :: bx gb (#[.slice q m capq]) 38 :: bx gm (#[.slice p n cap]) 25 :: bx gi (#[.int .i64 (j + 1 : Nat)]) 3 :: (Y ++ (Yi ++ (YR ++ [])))) ++ (Y_ ++ List.drop 4 (bx (γ1 0) (#[.pointer (some ⟨gb, 0, none⟩)]) 72 :: bx gb (#[.slice q m capq]) 38 :: bx gm (#[.slice p n cap]) 25 :: bx gi (#[.int .i64 (j + 1 : Nat)]) 3 :: (Y ++ (Yi ++ (YR ++ []))))) ∧ SlO 3 Y_ q_ n c_ l) Try.call44 (fun w hw => (cloneints_t p n cap l w (hsl.kept hw.below) hn (by omega)).mono fun e w' ⟨q_, c_, Y_, he, hO, hb, hY⟩ => ⟨_, _, he, ⟨q_, c_, Y_, rfl, rfl, hO⟩, hw.join hb hY 4⟩) ?_
        rintro v590 L590 ⟨q590, cq590, Y590, rfl, rfl, hO590⟩
        refine od_ ?_
        refine tk (m := 7) [9] [] [3, 41, 43] [(47, .agg #[.int .i64 (j + 1 : Nat), .slice q590 n cq590])] ([]) #[false, true, true, true, false, true, true, true, true, true, false, false, false, false, false] al0 ?_
        exact wk (hmx32 (Y590, cq590, q590) hO590) [3, 41, 43, 47] [[_], [_], [_], [_], _, _, _, _] [0, 1, 2, 3, 4, 5, 6, 7] rfl rfl
      refine any_cutX (V := Unit) (fun _ => True) 9 #[true, true, true, true, false, true, false, true, false, false, false, false, false, false, false] (fun _ => [(2, .pointer (some ⟨gi, 0, none⟩)), (38, .pointer (some ⟨gb, 0, none⟩)), (41, .pointer (some ⟨gb, 0, none⟩)), (43, .int .i64 (j : Nat)), (45, .slice p n cap)]) (fun _ => bx (γ1 0) (#[.pointer (some ⟨gb, 0, none⟩)]) 72 :: bx gb (#[.slice q m capq]) 38 :: bx gm (#[.slice p n cap]) 25 :: bx gi (#[.int .i64 (j + 1 : Nat)]) 3 :: (Y ++ (Yi ++ (YR ++ [])))) ?_ (fun hmx17 => ?_)
      ·
       rintro _ _
       refine any_fork [4, 6, 8] (by kernel_rfl) (by simp) (each_cons _ rfl ?_ (each_cons _ rfl ?_ (each_cons _ rfl ?_ (each_nil))))
       ·
        refine qo0 1 [(4, .go (owns 1 0 1))] [2, 38, 43, 45] [(42, .slice q m capq)] ?_
        refine od_ ?_
        exact wk (hmx28 () trivial) [2, 38, 42, 43, 45] [[_], [_], [_], [_], _, _, _] [0, 1, 2, 3, 4, 5, 6] rfl rfl
       ·
        refine qo0 1 [(6, .go (owns 3 0 1))] [38, 41, 43, 45] [(44, .int .i64 (j + 1 : Nat))] ?_
        refine od_ ?_
        exact wk (hmx25 () trivial) [38, 41, 43, 44, 45] [[_], [_], [_], [_], _, _, _] [0, 1, 2, 3, 4, 5, 6] rfl rfl
       ·
        refine cP (fun v L' => ∃ q_ c_ Y_, v = .slice q_ n c_ ∧ L' = List.take 4 (bx (γ1 0) (#[.pointer (some ⟨gb, 0, none⟩)]) 72 :: bx gb (#[.slice q m capq]) 38 :: bx gm (#[.slice p n cap]) 25 :: bx gi (#[.int .i64 (j + 1 : Nat)]) 3 :: (Y ++ (Yi ++ (YR ++ [])))) ++ (Y_ ++ List.drop 4 (bx (γ1 0) (#[.pointer (some ⟨gb, 0, none⟩)]) 72 :: bx gb (#[.slice q m capq]) 38 :: bx gm (#[.slice p n cap]) 25 :: bx gi (#[.int .i64 (j + 1 : Nat)]) 3 :: (Y ++ (Yi ++ (YR ++ []))))) ∧ SlO 3 Y_ q_ n c_ l) Try.call44 (fun w hw => (cloneints_t p n cap l w (hsl.kept hw.below) hn (by omega)).mono fun e w' ⟨q_, c_, Y_, he, hO, hb, hY⟩ => ⟨_, _, he, ⟨q_, c_, Y_, rfl, rfl, hO⟩, hw.join hb hY 4⟩) ?_
        rintro v590 L590 ⟨q590, cq590, Y590, rfl, rfl, hO590⟩
        refine od_ ?_
        exact wk (hmx26 (Y590, cq590, q590) hO590) [2, 38, 41, 43, 46] [[_], [_], [_], [_], _, _, _, _] [0, 1, 2, 3, 4, 5, 6, 7] rfl rfl
      refine any_cutX (V := Unit) (fun _ => True) 9 #[true, true, true, true, false, true, true, false, false, false, false, false, false, false, false] (fun _ => [(1, .pointer (some ⟨gm, 0, none⟩)), (38, .pointer (some ⟨gb, 0, none⟩)), (41, .pointer (some ⟨gb, 0, none⟩)), (43, .int .i64 (j : Nat)), (44, .int .i64 (j + 1 : Nat))]) (fun _ => bx (γ1 0) (#[.pointer (some ⟨gb, 0, none⟩)]) 72 :: bx gb (#[.slice q m capq]) 38 :: bx gm (#[.slice p n cap]) 25 :: bx gi (#[.int .i64 (j + 1 : Nat)]) 3 :: (Y ++ (Yi ++ (YR ++ [])))) ?_ (fun hmx16 => ?_)
      ·
       rintro _ _
       refine any_fork [4, 7] (by kernel_rfl) (by simp) (each_cons _ rfl ?_ (each_cons _ rfl ?_ (each_nil)))
       ·
        refine qo0 1 [(4, .go (owns 1 0 1))] [1, 38, 43, 44] [(42, .slice q m capq)] ?_
        refine od_ ?_
        exact wk (hmx27 () trivial) [1, 38, 42, 43, 44] [[_], [_], [_], [_], _, _, _] [0, 1, 2, 3, 4, 5, 6] rfl rfl
       ·
        refine qo0 1 [(7, .go (owns 2 0 1))] [38, 41, 43, 44] [(45, .slice p n cap)] ?_
        refine od_ ?_
        exact wk (hmx25 () trivial) [38, 41, 43, 44, 45] [[_], [_], [_], [_], _, _, _] [0, 1, 2, 3, 4, 5, 6] rfl rfl
      refine any_cutX (V := Unit) (fun _ => True) 10 #[false, true, true, true, true, true, false, false, false, false, false, false, false, false, false] (fun _ => [(1, .pointer (some ⟨gm, 0, none⟩)), (2, .pointer (some ⟨gi, 0, none⟩)), (3, .pointer (some ⟨γ1 0, 0, none⟩)), (42, .slice q m capq), (43, .int .i64 (j : Nat))]) (fun _ => bx (γ1 0) (#[.pointer (some ⟨gb, 0, none⟩)]) 72 :: bx gb (#[.slice q m capq]) 38 :: bx gm (#[.slice p n cap]) 25 :: bx gi (#[.int .i64 (j + 1 : Nat)]) 3 :: (Y ++ (Yi ++ (YR ++ [])))) ?_ (fun hmx15 => ?_)
      ·
       rintro _ _
       refine any_fork [0, 6, 7] (by kernel_rfl) (by simp) (each_cons _ rfl ?_ (each_cons _ rfl ?_ (each_cons _ rfl ?_ (each_nil))))
       ·
        refine qo0 1 [(0, .go (owns 0 0 1))] [1, 2, 42, 43] [(38, .pointer (some ⟨gb, 0, none⟩))] ?_
        refine od_ ?_
        exact wk (hmx21 () trivial) [1, 2, 38, 42, 43] [[_], [_], [_], [_], _, _, _] [0, 1, 2, 3, 4, 5, 6] rfl rfl
       ·
        refine qo0 1 [(6, .go (owns 3 0 1))] [1, 3, 42, 43] [(44, .int .i64 (j + 1 : Nat))] ?_
        refine od_ ?_
        exact wk (hmx22 () trivial) [1, 3, 42, 43, 44] [[_], [_], [_], [_], _, _, _] [0, 1, 2, 3, 4, 5, 6] rfl rfl
       ·
        refine qo0 1 [(7, .go (owns 2 0 1))] [2, 3, 42, 43] [(45, .slice p n cap)] ?_
        refine od_ ?_
        exact wk (hmx23 () trivial) [2, 3, 42, 43, 45] [[_], [_], [_], [_], _, _, _] [0, 1, 2, 3, 4, 5, 6] rfl rfl
      refine any_cutX (V := (List Ob) × (Nat) × (Option Addr)) (fun ⟨Y590, cq590, q590⟩ => SlO 3 Y590 q590 n cq590 l) 10 #[false, false, false, false, false, true, true, true, true, true, false, false, false, false, false] (fun ⟨Y590, cq590, q590⟩ => [(3, .pointer (some ⟨γ1 0, 0, none⟩)), (43, .int .i64 (j : Nat)), (47, .agg #[.int .i64 (j + 1 : Nat), .slice q590 n cq590])]) (fun ⟨Y590, cq590, q590⟩ => bx (γ1 0) (#[.pointer (some ⟨gb, 0, none⟩)]) 72 :: bx gb (#[.slice q m capq]) 38 :: bx gm (#[.slice p n cap]) 25 :: bx gi (#[.int .i64 (j + 1 : Nat)]) 3 :: (Y590 ++ (Y ++ (Yi ++ (YR ++ []))))) ?_ (fun hmx14 => ?_)
      ·
       rintro ⟨Y590, cq590, q590⟩ hO590
       refine any_fork [0, 1, 10] (by kernel_rfl) (by simp) (each_cons _ rfl ?_ (each_cons _ rfl ?_ (each_cons _ rfl ?_ (each_nil))))
       ·
        refine qo0 1 [(0, .go (owns 0 0 1))] [3, 43, 47] [(38, .pointer (some ⟨gb, 0, none⟩))] ?_
        refine od_ ?_
        exact wk (hmx20 (Y590, cq590, q590) hO590) [3, 38, 43, 47] [[_], [_], [_], [_], _, _, _, _] [0, 1, 2, 3, 4, 5, 6, 7] rfl rfl
       ·
        refine qo0 1 [(1, .go (owns 0 0 1))] [3, 43, 47] [(39, .pointer (some ⟨gb, 0, none⟩))] ?_
        refine od_ ?_
        refine tk (m := 7) [2, 3] [] [3, 43, 47] [(41, .pointer (some ⟨gb, 0, none⟩))] ([]) #[false, true, true, true, false, true, true, true, true, true, false, false, false, false, false] al0 ?_
        exact wk (hmx32 (Y590, cq590, q590) hO590) [3, 41, 43, 47] [[_], [_], [_], [_], _, _, _, _] [0, 1, 2, 3, 4, 5, 6, 7] rfl rfl
       ·
        refine mo0 1 [] [3, 43] (fun γ630 => [(48, .slice (some ⟨γ630 0, 0, none⟩) 1 1)]) (fun γ630 L => bx (γ630 0) (#[.int .i64 (j + 1 : Nat), .slice q590 n cq590]) 46 :: L) (fun γ630 => ?_)
        refine od_ ?_
        exact wk (hmx24 (Y590, cq590, q590, γ630) hO590) [3, 43, 48] [[_], [_], [_], [_], [_], _, _, _, _] [0, 1, 2, 3, 4, 5, 6, 7, 8] rfl rfl
      refine any_cutX (V := Unit) (fun _ => True) 10 #[false, true, true, true, false, true, false, true, false, false, false, false, false, false, false] (fun _ => [(2, .pointer (some ⟨gi, 0, none⟩)), (3, .pointer (some ⟨γ1 0, 0, none⟩)), (41, .pointer (some ⟨gb, 0, none⟩)), (43, .int .i64 (j : Nat)), (45, .slice p n cap)]) (fun _ => bx (γ1 0) (#[.pointer (some ⟨gb, 0, none⟩)]) 72 :: bx gb (#[.slice q m capq]) 38 :: bx gm (#[.slice p n cap]) 25 :: bx gi (#[.int .i64 (j + 1 : Nat)]) 3 :: (Y ++ (Yi ++ (YR ++ [])))) ?_ (fun hmx13 => ?_)
      ·
       rintro _ _
       refine any_fork [0, 4, 6, 8] (by kernel_rfl) (by simp) (each_cons _ rfl ?_ (each_cons _ rfl ?_ (each_cons _ rfl ?_ (each_cons _ rfl ?_ (each_nil)))))
       ·
        refine qo0 1 [(0, .go (owns 0 0 1))] [2, 41, 43, 45] [(38, .pointer (some ⟨gb, 0, none⟩))] ?_
        refine od_ ?_
        exact wk (hmx17 () trivial) [2, 38, 41, 43, 45] [[_], [_], [_], [_], _, _, _] [0, 1, 2, 3, 4, 5, 6] rfl rfl
       ·
        refine qo0 1 [(4, .go (owns 1 0 1))] [2, 3, 43, 45] [(42, .slice q m capq)] ?_
        refine od_ ?_
        exact wk (hmx23 () trivial) [2, 3, 42, 43, 45] [[_], [_], [_], [_], _, _, _] [0, 1, 2, 3, 4, 5, 6] rfl rfl
       ·
        refine qo0 1 [(6, .go (owns 3 0 1))] [3, 41, 43, 45] [(44, .int .i64 (j + 1 : Nat))] ?_
        refine od_ ?_
        exact wk (hmx18 () trivial) [3, 41, 43, 44, 45] [[_], [_], [_], [_], _, _, _] [0, 1, 2, 3, 4, 5, 6] rfl rfl
       ·
        refine cP (fun v L' => ∃ q_ c_ Y_, v = .slice q_ n c_ ∧ L' = List.take 4 (bx (γ1 0) (#[.pointer (some ⟨gb, 0, none⟩)]) 72 :: bx gb (#[.slice q m capq]) 38 :: bx gm (#[.slice p n cap]) 25 :: bx gi (#[.int .i64 (j + 1 : Nat)]) 3 :: (Y ++ (Yi ++ (YR ++ [])))) ++ (Y_ ++ List.drop 4 (bx (γ1 0) (#[.pointer (some ⟨gb, 0, none⟩)]) 72 :: bx gb (#[.slice q m capq]) 38 :: bx gm (#[.slice p n cap]) 25 :: bx gi (#[.int .i64 (j + 1 : Nat)]) 3 :: (Y ++ (Yi ++ (YR ++ []))))) ∧ SlO 3 Y_ q_ n c_ l) Try.call44 (fun w hw => (cloneints_t p n cap l w (hsl.kept hw.below) hn (by omega)).mono fun e w' ⟨q_, c_, Y_, he, hO, hb, hY⟩ => ⟨_, _, he, ⟨q_, c_, Y_, rfl, rfl, hO⟩, hw.join hb hY 4⟩) ?_
        rintro v590 L590 ⟨q590, cq590, Y590, rfl, rfl, hO590⟩
        refine od_ ?_
        exact wk (hmx19 (Y590, cq590, q590) hO590) [2, 3, 41, 43, 46] [[_], [_], [_], [_], _, _, _, _] [0, 1, 2, 3, 4, 5, 6, 7] rfl rfl
      refine any_cutX (V := Unit) (fun _ => True) 10 #[false, true, true, true, false, true, true, false, false, false, false, false, false, false, false] (fun _ => [(1, .pointer (some ⟨gm, 0, none⟩)), (3, .pointer (some ⟨γ1 0, 0, none⟩)), (41, .pointer (some ⟨gb, 0, none⟩)), (43, .int .i64 (j : Nat)), (44, .int .i64 (j + 1 : Nat))]) (fun _ => bx (γ1 0) (#[.pointer (some ⟨gb, 0, none⟩)]) 72 :: bx gb (#[.slice q m capq]) 38 :: bx gm (#[.slice p n cap]) 25 :: bx gi (#[.int .i64 (j + 1 : Nat)]) 3 :: (Y ++ (Yi ++ (YR ++ [])))) ?_ (fun hmx12 => ?_)
      ·
       rintro _ _
       refine any_fork [0, 4, 7] (by kernel_rfl) (by simp) (each_cons _ rfl ?_ (each_cons _ rfl ?_ (each_cons _ rfl ?_ (each_nil))))
       ·
        refine qo0 1 [(0, .go (owns 0 0 1))] [1, 41, 43, 44] [(38, .pointer (some ⟨gb, 0, none⟩))] ?_
        refine od_ ?_
        exact wk (hmx16 () trivial) [1, 38, 41, 43, 44] [[_], [_], [_], [_], _, _, _] [0, 1, 2, 3, 4, 5, 6] rfl rfl
       ·
        refine qo0 1 [(4, .go (owns 1 0 1))] [1, 3, 43, 44] [(42, .slice q m capq)] ?_
        refine od_ ?_
        exact wk (hmx22 () trivial) [1, 3, 42, 43, 44] [[_], [_], [_], [_], _, _, _] [0, 1, 2, 3, 4, 5, 6] rfl rfl
       ·
        refine qo0 1 [(7, .go (owns 2 0 1))] [3, 41, 43, 44] [(45, .slice p n cap)] ?_
        refine od_ ?_
        exact wk (hmx18 () trivial) [3, 41, 43, 44, 45] [[_], [_], [_], [_], _, _, _] [0, 1, 2, 3, 4, 5, 6] rfl rfl
      refine any_cutX (V := Unit) (fun _ => True) 10 #[true, true, true, true, false, true, false, false, false, false, false, false, false, false, false] (fun _ => [(1, .pointer (some ⟨gm, 0, none⟩)), (2, .pointer (some ⟨gi, 0, none⟩)), (38, .pointer (some ⟨gb, 0, none⟩)), (41, .pointer (some ⟨gb, 0, none⟩)), (43, .int .i64 (j : Nat))]) (fun _ => bx (γ1 0) (#[.pointer (some ⟨gb, 0, none⟩)]) 72 :: bx gb (#[.slice q m capq]) 38 :: bx gm (#[.slice p n cap]) 25 :: bx gi (#[.int .i64 (j + 1 : Nat)]) 3 :: (Y ++ (Yi ++ (YR ++ [])))) ?_ (fun hmx11 => ?_)
      ·
       rintro _ _
       refine any_fork [4, 6, 7] (by kernel_rfl) (by simp) (each_cons _ rfl ?_ (each_cons _ rfl ?_ (each_cons _ rfl ?_ (each_nil))))
       ·
        refine qo0 1 [(4, .go (owns 1 0 1))] [1, 2, 38, 43] [(42, .slice q m capq)] ?_
        refine od_ ?_
        exact wk (hmx21 () trivial) [1, 2, 38, 42, 43] [[_], [_], [_], [_], _, _, _] [0, 1, 2, 3, 4, 5, 6] rfl rfl
       ·
        refine qo0 1 [(6, .go (owns 3 0 1))] [1, 38, 41, 43] [(44, .int .i64 (j + 1 : Nat))] ?_
        refine od_ ?_
        exact wk (hmx16 () trivial) [1, 38, 41, 43, 44] [[_], [_], [_], [_], _, _, _] [0, 1, 2, 3, 4, 5, 6] rfl rfl
       ·
        refine qo0 1 [(7, .go (owns 2 0 1))] [2, 38, 41, 43] [(45, .slice p n cap)] ?_
        refine od_ ?_
        exact wk (hmx17 () trivial) [2, 38, 41, 43, 45] [[_], [_], [_], [_], _, _, _] [0, 1, 2, 3, 4, 5, 6] rfl rfl
      refine any_cutX (V := (List Ob) × (Nat) × (Option Addr)) (fun ⟨Y590, cq590, q590⟩ => SlO 3 Y590 q590 n cq590 l) 11 #[true, false, false, false, false, true, false, true, true, false, false, false, false, false, false] (fun ⟨Y590, cq590, q590⟩ => [(2, .pointer (some ⟨gi, 0, none⟩)), (3, .pointer (some ⟨γ1 0, 0, none⟩)), (38, .pointer (some ⟨gb, 0, none⟩)), (43, .int .i64 (j : Nat)), (46, .slice q590 n cq590)]) (fun ⟨Y590, cq590, q590⟩ => bx (γ1 0) (#[.pointer (some ⟨gb, 0, none⟩)]) 72 :: bx gb (#[.slice q m capq]) 38 :: bx gm (#[.slice p n cap]) 25 :: bx gi (#[.int .i64 (j + 1 : Nat)]) 3 :: (Y590 ++ (Y ++ (Yi ++ (YR ++ []))))) ?_ (fun hmx10 => ?_)
      ·
       rintro ⟨Y590, cq590, q590⟩ hO590
       refine any_fork [1, 6] (by kernel_rfl) (by simp) (each_cons _ rfl ?_ (each_cons _ rfl ?_ (each_nil)))
       ·
        refine qo0 1 [(1, .go (owns 0 0 1))] [2, 38, 43, 46] [(39, .pointer (some ⟨gb, 0, none⟩))] ?_
        refine od_ ?_
        refine tk (m := 8) [2, 3] [] [2, 38, 43, 46] [(41, .pointer (some ⟨gb, 0, none⟩))] ([]) #[true, true, true, true, false, true, false, true, true, false, false, false, false, false, false] al0 ?_
        exact wk (hmx26 (Y590, cq590, q590) hO590) [2, 38, 41, 43, 46] [[_], [_], [_], [_], _, _, _, _] [0, 1, 2, 3, 4, 5, 6, 7] rfl rfl
       ·
        refine qo0 1 [(6, .go (owns 3 0 1))] [3, 38, 43, 46] [(44, .int .i64 (j + 1 : Nat))] ?_
        refine od_ ?_
        refine tk (m := 9) [9] [] [3, 38, 43] [(47, .agg #[.int .i64 (j + 1 : Nat), .slice q590 n cq590])] ([]) #[true, false, false, false, false, true, true, true, true, true, false, false, false, false, false] al0 ?_
        exact wk (hmx20 (Y590, cq590, q590) hO590) [3, 38, 43, 47] [[_], [_], [_], [_], _, _, _, _] [0, 1, 2, 3, 4, 5, 6, 7] rfl rfl
      refine any_cutX (V := Unit) (fun _ => True) 11 #[true, false, false, false, false, true, true, true, false, false, false, false, false, false, false] (fun _ => [(3, .pointer (some ⟨γ1 0, 0, none⟩)), (38, .pointer (some ⟨gb, 0, none⟩)), (43, .int .i64 (j : Nat)), (44, .int .i64 (j + 1 : Nat)), (45, .slice p n cap)]) (fun _ => bx (γ1 0) (#[.pointer (some ⟨gb, 0, none⟩)]) 72 :: bx gb (#[.slice q m capq]) 38 :: bx gm (#[.slice p n cap]) 25 :: bx gi (#[.int .i64 (j + 1 : Nat)]) 3 :: (Y ++ (Yi ++ (YR ++ [])))) ?_ (fun hmx9 => ?_)
      ·
       rintro _ _
       refine any_fork [1, 8] (by kernel_rfl) (by simp) (each_cons _ rfl ?_ (each_cons _ rfl ?_ (each_nil)))
       ·
        refine qo0 1 [(1, .go (owns 0 0 1))] [38, 43, 44, 45] [(39, .pointer (some ⟨gb, 0, none⟩))] ?_
        refine od_ ?_
        refine tk (m := 8) [2, 3] [] [38, 43, 44, 45] [(41, .pointer (some ⟨gb, 0, none⟩))] ([]) #[true, true, true, true, false, true, true, true, false, false, false, false, false, false, false] al0 ?_
        exact wk (hmx25 () trivial) [38, 41, 43, 44, 45] [[_], [_], [_], [_], _, _, _] [0, 1, 2, 3, 4, 5, 6] rfl rfl
       ·
        refine cP (fun v L' => ∃ q_ c_ Y_, v = .slice q_ n c_ ∧ L' = List.take 4 (bx (γ1 0) (#[.pointer (some ⟨gb, 0, none⟩)]) 72 :: bx gb (#[.slice q m capq]) 38 :: bx gm (#[.slice p n cap]) 25 :: bx gi (#[.int .i64 (j + 1 : Nat)]) 3 :: (Y ++ (Yi ++ (YR ++ [])))) ++ (Y_ ++ List.drop 4 (bx (γ1 0) (#[.pointer (some ⟨gb, 0, none⟩)]) 72 :: bx gb (#[.slice q m capq]) 38 :: bx gm (#[.slice p n cap]) 25 :: bx gi (#[.int .i64 (j + 1 : Nat)]) 3 :: (Y ++ (Yi ++ (YR ++ []))))) ∧ SlO 3 Y_ q_ n c_ l) Try.call44 (fun w hw => (cloneints_t p n cap l w (hsl.kept hw.below) hn (by omega)).mono fun e w' ⟨q_, c_, Y_, he, hO, hb, hY⟩ => ⟨_, _, he, ⟨q_, c_, Y_, rfl, rfl, hO⟩, hw.join hb hY 4⟩) ?_
        rintro v590 L590 ⟨q590, cq590, Y590, rfl, rfl, hO590⟩
        refine od_ ?_
        refine tk (m := 9) [9] [] [3, 38, 43] [(47, .agg #[.int .i64 (j + 1 : Nat), .slice q590 n cq590])] ([]) #[true, false, false, false, false, true, true, true, true, true, false, false, false, false, false] al0 ?_
        exact wk (hmx20 (Y590, cq590, q590) hO590) [3, 38, 43, 47] [[_], [_], [_], [_], _, _, _, _] [0, 1, 2, 3, 4, 5, 6, 7] rfl rfl
      refine any_cutX (V := Unit) (fun _ => True) 11 #[false, true, true, true, false, true, false, false, false, false, false, false, false, false, false] (fun _ => [(1, .pointer (some ⟨gm, 0, none⟩)), (2, .pointer (some ⟨gi, 0, none⟩)), (3, .pointer (some ⟨γ1 0, 0, none⟩)), (41, .pointer (some ⟨gb, 0, none⟩)), (43, .int .i64 (j : Nat))]) (fun _ => bx (γ1 0) (#[.pointer (some ⟨gb, 0, none⟩)]) 72 :: bx gb (#[.slice q m capq]) 38 :: bx gm (#[.slice p n cap]) 25 :: bx gi (#[.int .i64 (j + 1 : Nat)]) 3 :: (Y ++ (Yi ++ (YR ++ [])))) ?_ (fun hmx8 => ?_)
      ·
       rintro _ _
       refine any_fork [0, 4, 6, 7] (by kernel_rfl) (by simp) (each_cons _ rfl ?_ (each_cons _ rfl ?_ (each_cons _ rfl ?_ (each_cons _ rfl ?_ (each_nil)))))
       ·
        refine qo0 1 [(0, .go (owns 0 0 1))] [1, 2, 41, 43] [(38, .pointer (some ⟨gb, 0, none⟩))] ?_
        refine od_ ?_
        exact wk (hmx11 () trivial) [1, 2, 38, 41, 43] [[_], [_], [_], [_], _, _, _] [0, 1, 2, 3, 4, 5, 6] rfl rfl
       ·
        refine qo0 1 [(4, .go (owns 1 0 1))] [1, 2, 3, 43] [(42, .slice q m capq)] ?_
        refine od_ ?_
        exact wk (hmx15 () trivial) [1, 2, 3, 42, 43] [[_], [_], [_], [_], _, _, _] [0, 1, 2, 3, 4, 5, 6] rfl rfl
       ·
        refine qo0 1 [(6, .go (owns 3 0 1))] [1, 3, 41, 43] [(44, .int .i64 (j + 1 : Nat))] ?_
        refine od_ ?_
        exact wk (hmx12 () trivial) [1, 3, 41, 43, 44] [[_], [_], [_], [_], _, _, _] [0, 1, 2, 3, 4, 5, 6] rfl rfl
       ·
        refine qo0 1 [(7, .go (owns 2 0 1))] [2, 3, 41, 43] [(45, .slice p n cap)] ?_
        refine od_ ?_
        exact wk (hmx13 () trivial) [2, 3, 41, 43, 45] [[_], [_], [_], [_], _, _, _] [0, 1, 2, 3, 4, 5, 6] rfl rfl
      refine any_cutX (V := (List Ob) × (Nat) × (Option Addr)) (fun ⟨Y590, cq590, q590⟩ => SlO 3 Y590 q590 n cq590 l) 12 #[false, false, false, false, false, true, false, true, true, false, false, false, false, false, false] (fun ⟨Y590, cq590, q590⟩ => [(2, .pointer (some ⟨gi, 0, none⟩)), (3, .pointer (some ⟨γ1 0, 0, none⟩)), (43, .int .i64 (j : Nat)), (46, .slice q590 n cq590)]) (fun ⟨Y590, cq590, q590⟩ => bx (γ1 0) (#[.pointer (some ⟨gb, 0, none⟩)]) 72 :: bx gb (#[.slice q m capq]) 38 :: bx gm (#[.slice p n cap]) 25 :: bx gi (#[.int .i64 (j + 1 : Nat)]) 3 :: (Y590 ++ (Y ++ (Yi ++ (YR ++ []))))) ?_ (fun hmx7 => ?_)
      ·
       rintro ⟨Y590, cq590, q590⟩ hO590
       refine any_fork [0, 1, 6] (by kernel_rfl) (by simp) (each_cons _ rfl ?_ (each_cons _ rfl ?_ (each_cons _ rfl ?_ (each_nil))))
       ·
        refine qo0 1 [(0, .go (owns 0 0 1))] [2, 3, 43, 46] [(38, .pointer (some ⟨gb, 0, none⟩))] ?_
        refine od_ ?_
        exact wk (hmx10 (Y590, cq590, q590) hO590) [2, 3, 38, 43, 46] [[_], [_], [_], [_], _, _, _, _] [0, 1, 2, 3, 4, 5, 6, 7] rfl rfl
       ·
        refine qo0 1 [(1, .go (owns 0 0 1))] [2, 3, 43, 46] [(39, .pointer (some ⟨gb, 0, none⟩))] ?_
        refine od_ ?_
        refine tk (m := 9) [2, 3] [] [2, 3, 43, 46] [(41, .pointer (some ⟨gb, 0, none⟩))] ([]) #[false, true, true, true, false, true, false, true, true, false, false, false, false, false, false] al0 ?_
        exact wk (hmx19 (Y590, cq590, q590) hO590) [2, 3, 41, 43, 46] [[_], [_], [_], [_], _, _, _, _] [0, 1, 2, 3, 4, 5, 6, 7] rfl rfl
       ·
        refine qo0 1 [(6, .go (owns 3 0 1))] [3, 43, 46] [(44, .int .i64 (j + 1 : Nat))] ?_
        refine od_ ?_
        refine tk (m := 10) [9] [] [3, 43] [(47, .agg #[.int .i64 (j + 1 : Nat), .slice q590 n cq590])] ([]) #[false, false, false, false, false, true, true, true, true, true, false, false, false, false, false] al0 ?_
        exact wk (hmx14 (Y590, cq590, q590) hO590) [3, 43, 47] [[_], [_], [_], [_], _, _, _, _] [0, 1, 2, 3, 4, 5, 6, 7] rfl rfl
      refine any_cutX (V := Unit) (fun _ => True) 12 #[false, false, false, false, false, true, true, true, false, false, false, false, false, false, false] (fun _ => [(3, .pointer (some ⟨γ1 0, 0, none⟩)), (43, .int .i64 (j : Nat)), (44, .int .i64 (j + 1 : Nat)), (45, .slice p n cap)]) (fun _ => bx (γ1 0) (#[.pointer (some ⟨gb, 0, none⟩)]) 72 :: bx gb (#[.slice q m capq]) 38 :: bx gm (#[.slice p n cap]) 25 :: bx gi (#[.int .i64 (j + 1 : Nat)]) 3 :: (Y ++ (Yi ++ (YR ++ [])))) ?_ (fun hmx6 => ?_)
      ·
       rintro _ _
       refine any_fork [0, 1, 8] (by kernel_rfl) (by simp) (each_cons _ rfl ?_ (each_cons _ rfl ?_ (each_cons _ rfl ?_ (each_nil))))
       ·
        refine qo0 1 [(0, .go (owns 0 0 1))] [3, 43, 44, 45] [(38, .pointer (some ⟨gb, 0, none⟩))] ?_
        refine od_ ?_
        exact wk (hmx9 () trivial) [3, 38, 43, 44, 45] [[_], [_], [_], [_], _, _, _] [0, 1, 2, 3, 4, 5, 6] rfl rfl
       ·
        refine qo0 1 [(1, .go (owns 0 0 1))] [3, 43, 44, 45] [(39, .pointer (some ⟨gb, 0, none⟩))] ?_
        refine od_ ?_
        refine tk (m := 9) [2, 3] [] [3, 43, 44, 45] [(41, .pointer (some ⟨gb, 0, none⟩))] ([]) #[false, true, true, true, false, true, true, true, false, false, false, false, false, false, false] al0 ?_
        exact wk (hmx18 () trivial) [3, 41, 43, 44, 45] [[_], [_], [_], [_], _, _, _] [0, 1, 2, 3, 4, 5, 6] rfl rfl
       ·
        refine cP (fun v L' => ∃ q_ c_ Y_, v = .slice q_ n c_ ∧ L' = List.take 4 (bx (γ1 0) (#[.pointer (some ⟨gb, 0, none⟩)]) 72 :: bx gb (#[.slice q m capq]) 38 :: bx gm (#[.slice p n cap]) 25 :: bx gi (#[.int .i64 (j + 1 : Nat)]) 3 :: (Y ++ (Yi ++ (YR ++ [])))) ++ (Y_ ++ List.drop 4 (bx (γ1 0) (#[.pointer (some ⟨gb, 0, none⟩)]) 72 :: bx gb (#[.slice q m capq]) 38 :: bx gm (#[.slice p n cap]) 25 :: bx gi (#[.int .i64 (j + 1 : Nat)]) 3 :: (Y ++ (Yi ++ (YR ++ []))))) ∧ SlO 3 Y_ q_ n c_ l) Try.call44 (fun w hw => (cloneints_t p n cap l w (hsl.kept hw.below) hn (by omega)).mono fun e w' ⟨q_, c_, Y_, he, hO, hb, hY⟩ => ⟨_, _, he, ⟨q_, c_, Y_, rfl, rfl, hO⟩, hw.join hb hY 4⟩) ?_
        rintro v590 L590 ⟨q590, cq590, Y590, rfl, rfl, hO590⟩
        refine od_ ?_
        refine tk (m := 10) [9] [] [3, 43] [(47, .agg #[.int .i64 (j + 1 : Nat), .slice q590 n cq590])] ([]) #[false, false, false, false, false, true, true, true, true, true, false, false, false, false, false] al0 ?_
        exact wk (hmx14 (Y590, cq590, q590) hO590) [3, 43, 47] [[_], [_], [_], [_], _, _, _, _] [0, 1, 2, 3, 4, 5, 6, 7] rfl rfl
      refine any_cutX (V := Unit) (fun _ => True) 12 #[true, false, false, false, false, true, false, true, false, false, false, false, false, false, false] (fun _ => [(2, .pointer (some ⟨gi, 0, none⟩)), (3, .pointer (some ⟨γ1 0, 0, none⟩)), (38, .pointer (some ⟨gb, 0, none⟩)), (43, .int .i64 (j : Nat)), (45, .slice p n cap)]) (fun _ => bx (γ1 0) (#[.pointer (some ⟨gb, 0, none⟩)]) 72 :: bx gb (#[.slice q m capq]) 38 :: bx gm (#[.slice p n cap]) 25 :: bx gi (#[.int .i64 (j + 1 : Nat)]) 3 :: (Y ++ (Yi ++ (YR ++ [])))) ?_ (fun hmx5 => ?_)
      ·
       rintro _ _
       refine any_fork [1, 6, 8] (by kernel_rfl) (by simp) (each_cons _ rfl ?_ (each_cons _ rfl ?_ (each_cons _ rfl ?_ (each_nil))))
       ·
        refine qo0 1 [(1, .go (owns 0 0 1))] [2, 38, 43, 45] [(39, .pointer (some ⟨gb, 0, none⟩))] ?_
        refine od_ ?_
        refine tk (m := 9) [2, 3] [] [2, 38, 43, 45] [(41, .pointer (some ⟨gb, 0, none⟩))] ([]) #[true, true, true, true, false, true, false, true, false, false, false, false, false, false, false] al0 ?_
        exact wk (hmx17 () trivial) [2, 38, 41, 43, 45] [[_], [_], [_], [_], _, _, _] [0, 1, 2, 3, 4, 5, 6] rfl rfl
       ·
        refine qo0 1 [(6, .go (owns 3 0 1))] [3, 38, 43, 45] [(44, .int .i64 (j + 1 : Nat))] ?_
        refine od_ ?_
        exact wk (hmx9 () trivial) [3, 38, 43, 44, 45] [[_], [_], [_], [_], _, _, _] [0, 1, 2, 3, 4, 5, 6] rfl rfl
       ·
        refine cP (fun v L' => ∃ q_ c_ Y_, v = .slice q_ n c_ ∧ L' = List.take 4 (bx (γ1 0) (#[.pointer (some ⟨gb, 0, none⟩)]) 72 :: bx gb (#[.slice q m capq]) 38 :: bx gm (#[.slice p n cap]) 25 :: bx gi (#[.int .i64 (j + 1 : Nat)]) 3 :: (Y ++ (Yi ++ (YR ++ [])))) ++ (Y_ ++ List.drop 4 (bx (γ1 0) (#[.pointer (some ⟨gb, 0, none⟩)]) 72 :: bx gb (#[.slice q m capq]) 38 :: bx gm (#[.slice p n cap]) 25 :: bx gi (#[.int .i64 (j + 1 : Nat)]) 3 :: (Y ++ (Yi ++ (YR ++ []))))) ∧ SlO 3 Y_ q_ n c_ l) Try.call44 (fun w hw => (cloneints_t p n cap l w (hsl.kept hw.below) hn (by omega)).mono fun e w' ⟨q_, c_, Y_, he, hO, hb, hY⟩ => ⟨_, _, he, ⟨q_, c_, Y_, rfl, rfl, hO⟩, hw.join hb hY 4⟩) ?_
        rintro v590 L590 ⟨q590, cq590, Y590, rfl, rfl, hO590⟩
        refine od_ ?_
        exact wk (hmx10 (Y590, cq590, q590) hO590) [2, 3, 38, 43, 46] [[_], [_], [_], [_], _, _, _, _] [0, 1, 2, 3, 4, 5, 6, 7] rfl rfl
      refine any_cutX (V := Unit) (fun _ => True) 12 #[true, false, false, false, false, true, true, false, false, false, false, false, false, false, false] (fun _ => [(1, .pointer (some ⟨gm, 0, none⟩)), (3, .pointer (some ⟨γ1 0, 0, none⟩)), (38, .pointer (some ⟨gb, 0, none⟩)), (43, .int .i64 (j : Nat)), (44, .int .i64 (j + 1 : Nat))]) (fun _ => bx (γ1 0) (#[.pointer (some ⟨gb, 0, none⟩)]) 72 :: bx gb (#[.slice q m capq]) 38 :: bx gm (#[.slice p n cap]) 25 :: bx gi (#[.int .i64 (j + 1 : Nat)]) 3 :: (Y ++ (Yi ++ (YR ++ [])))) ?_ (fun hmx4 => ?_)
      ·
       rintro _ _
       refine any_fork [1, 7] (by kernel_rfl) (by simp) (each_cons _ rfl ?_ (each_cons _ rfl ?_ (each_nil)))
       ·
        refine qo0 1 [(1, .go (owns 0 0 1))] [1, 38, 43, 44] [(39, .pointer (some ⟨gb, 0, none⟩))] ?_
        refine od_ ?_
        refine tk (m := 9) [2, 3] [] [1, 38, 43, 44] [(41, .pointer (some ⟨gb, 0, none⟩))] ([]) #[true, true, true, true, false, true, true, false, false, false, false, false, false, false, false] al0 ?_
        exact wk (hmx16 () trivial) [1, 38, 41, 43, 44] [[_], [_], [_], [_], _, _, _] [0, 1, 2, 3, 4, 5, 6] rfl rfl
       ·
        refine qo0 1 [(7, .go (owns 2 0 1))] [3, 38, 43, 44] [(45, .slice p n cap)] ?_
        refine od_ ?_
        exact wk (hmx9 () trivial) [3, 38, 43, 44, 45] [[_], [_], [_], [_], _, _, _] [0, 1, 2, 3, 4, 5, 6] rfl rfl
      refine any_cutX (V := Unit) (fun _ => True) 13 #[false, false, false, false, false, true, false, true, false, false, false, false, false, false, false] (fun _ => [(2, .pointer (some ⟨gi, 0, none⟩)), (3, .pointer (some ⟨γ1 0, 0, none⟩)), (43, .int .i64 (j : Nat)), (45, .slice p n cap)]) (fun _ => bx (γ1 0) (#[.pointer (some ⟨gb, 0, none⟩)]) 72 :: bx gb (#[.slice q m capq]) 38 :: bx gm (#[.slice p n cap]) 25 :: bx gi (#[.int .i64 (j + 1 : Nat)]) 3 :: (Y ++ (Yi ++ (YR ++ [])))) ?_ (fun hmx3 => ?_)
      ·
       rintro _ _
       refine any_fork [0, 1, 6, 8] (by kernel_rfl) (by simp) (each_cons _ rfl ?_ (each_cons _ rfl ?_ (each_cons _ rfl ?_ (each_cons _ rfl ?_ (each_nil)))))
       ·
        refine qo0 1 [(0, .go (owns 0 0 1))] [2, 3, 43, 45] [(38, .pointer (some ⟨gb, 0, none⟩))] ?_
        refine od_ ?_
        exact wk (hmx5 () trivial) [2, 3, 38, 43, 45] [[_], [_], [_], [_], _, _, _] [0, 1, 2, 3, 4, 5, 6] rfl rfl
       ·
        refine qo0 1 [(1, .go (owns 0 0 1))] [2, 3, 43, 45] [(39, .pointer (some ⟨gb, 0, none⟩))] ?_
        refine od_ ?_
        refine tk (m := 10) [2, 3] [] [2, 3, 43, 45] [(41, .pointer (some ⟨gb, 0, none⟩))] ([]) #[false, true, true, true, false, true, false, true, false, false, false, false, false, false, false] al0 ?_
        exact wk (hmx13 () trivial) [2, 3, 41, 43, 45] [[_], [_], [_], [_], _, _, _] [0, 1, 2, 3, 4, 5, 6] rfl rfl
       ·
        refine qo0 1 [(6, .go (owns 3 0 1))] [3, 43, 45] [(44, .int .i64 (j + 1 : Nat))] ?_
        refine od_ ?_
        exact wk (hmx6 () trivial) [3, 43, 44, 45] [[_], [_], [_], [_], _, _, _] [0, 1, 2, 3, 4, 5, 6] rfl rfl
       ·
        refine cP (fun v L' => ∃ q_ c_ Y_, v = .slice q_ n c_ ∧ L' = List.take 4 (bx (γ1 0) (#[.pointer (some ⟨gb, 0, none⟩)]) 72 :: bx gb (#[.slice q m capq]) 38 :: bx gm (#[.slice p n cap]) 25 :: bx gi (#[.int .i64 (j + 1 : Nat)]) 3 :: (Y ++ (Yi ++ (YR ++ [])))) ++ (Y_ ++ List.drop 4 (bx (γ1 0) (#[.pointer (some ⟨gb, 0, none⟩)]) 72 :: bx gb (#[.slice q m capq]) 38 :: bx gm (#[.slice p n cap]) 25 :: bx gi (#[.int .i64 (j + 1 : Nat)]) 3 :: (Y ++ (Yi ++ (YR ++ []))))) ∧ SlO 3 Y_ q_ n c_ l) Try.call44 (fun w hw => (cloneints_t p n cap l w (hsl.kept hw.below) hn (by omega)).mono fun e w' ⟨q_, c_, Y_, he, hO, hb, hY⟩ => ⟨_, _, he, ⟨q_, c_, Y_, rfl, rfl, hO⟩, hw.join hb hY 4⟩) ?_
        rintro v590 L590 ⟨q590, cq590, Y590, rfl, rfl, hO590⟩
        refine od_ ?_
        exact wk (hmx7 (Y590, cq590, q590) hO590) [2, 3, 43, 46] [[_], [_], [_], [_], _, _, _, _] [0, 1, 2, 3, 4, 5, 6, 7] rfl rfl
      refine any_cutX (V := Unit) (fun _ => True) 13 #[false, false, false, false, false, true, true, false, false, false, false, false, false, false, false] (fun _ => [(1, .pointer (some ⟨gm, 0, none⟩)), (3, .pointer (some ⟨γ1 0, 0, none⟩)), (43, .int .i64 (j : Nat)), (44, .int .i64 (j + 1 : Nat))]) (fun _ => bx (γ1 0) (#[.pointer (some ⟨gb, 0, none⟩)]) 72 :: bx gb (#[.slice q m capq]) 38 :: bx gm (#[.slice p n cap]) 25 :: bx gi (#[.int .i64 (j + 1 : Nat)]) 3 :: (Y ++ (Yi ++ (YR ++ [])))) ?_ (fun hmx2 => ?_)
      ·
       rintro _ _
       refine any_fork [0, 1, 7] (by kernel_rfl) (by simp) (each_cons _ rfl ?_ (each_cons _ rfl ?_ (each_cons _ rfl ?_ (each_nil))))
       ·
        refine qo0 1 [(0, .go (owns 0 0 1))] [1, 3, 43, 44] [(38, .pointer (some ⟨gb, 0, none⟩))] ?_
        refine od_ ?_
        exact wk (hmx4 () trivial) [1, 3, 38, 43, 44] [[_], [_], [_], [_], _, _, _] [0, 1, 2, 3, 4, 5, 6] rfl rfl
       ·
        refine qo0 1 [(1, .go (owns 0 0 1))] [1, 3, 43, 44] [(39, .pointer (some ⟨gb, 0, none⟩))] ?_
        refine od_ ?_
        refine tk (m := 10) [2, 3] [] [1, 3, 43, 44] [(41, .pointer (some ⟨gb, 0, none⟩))] ([]) #[false, true, true, true, false, true, true, false, false, false, false, false, false, false, false] al0 ?_
        exact wk (hmx12 () trivial) [1, 3, 41, 43, 44] [[_], [_], [_], [_], _, _, _] [0, 1, 2, 3, 4, 5, 6] rfl rfl
       ·
        refine qo0 1 [(7, .go (owns 2 0 1))] [3, 43, 44] [(45, .slice p n cap)] ?_
        refine od_ ?_
        exact wk (hmx6 () trivial) [3, 43, 44, 45] [[_], [_], [_], [_], _, _, _] [0, 1, 2, 3, 4, 5, 6] rfl rfl
      refine any_cutX (V := Unit) (fun _ => True) 13 #[true, false, false, false, false, true, false, false, false, false, false, false, false, false, false] (fun _ => [(1, .pointer (some ⟨gm, 0, none⟩)), (2, .pointer (some ⟨gi, 0, none⟩)), (3, .pointer (some ⟨γ1 0, 0, none⟩)), (38, .pointer (some ⟨gb, 0, none⟩)), (43, .int .i64 (j : Nat))]) (fun _ => bx (γ1 0) (#[.pointer (some ⟨gb, 0, none⟩)]) 72 :: bx gb (#[.slice q m capq]) 38 :: bx gm (#[.slice p n cap]) 25 :: bx gi (#[.int .i64 (j + 1 : Nat)]) 3 :: (Y ++ (Yi ++ (YR ++ [])))) ?_ (fun hmx1 => ?_)
      ·
       rintro _ _
       refine any_fork [1, 6, 7] (by kernel_rfl) (by simp) (each_cons _ rfl ?_ (each_cons _ rfl ?_ (each_cons _ rfl ?_ (each_nil))))
       ·
        refine qo0 1 [(1, .go (owns 0 0 1))] [1, 2, 38, 43] [(39, .pointer (some ⟨gb, 0, none⟩))] ?_
        refine od_ ?_
        refine tk (m := 10) [2, 3] [] [1, 2, 38, 43] [(41, .pointer (some ⟨gb, 0, none⟩))] ([]) #[true, true, true, true, false, true, false, false, false, false, false, false, false, false, false] al0 ?_
        exact wk (hmx11 () trivial) [1, 2, 38, 41, 43] [[_], [_], [_], [_], _, _, _] [0, 1, 2, 3, 4, 5, 6] rfl rfl
       ·
        refine qo0 1 [(6, .go (owns 3 0 1))] [1, 3, 38, 43] [(44, .int .i64 (j + 1 : Nat))] ?_
        refine od_ ?_
        exact wk (hmx4 () trivial) [1, 3, 38, 43, 44] [[_], [_], [_], [_], _, _, _] [0, 1, 2, 3, 4, 5, 6] rfl rfl
       ·
        refine qo0 1 [(7, .go (owns 2 0 1))] [2, 3, 38, 43] [(45, .slice p n cap)] ?_
        refine od_ ?_
        exact wk (hmx5 () trivial) [2, 3, 38, 43, 45] [[_], [_], [_], [_], _, _, _] [0, 1, 2, 3, 4, 5, 6] rfl rfl
      refine any_fork [0, 1, 6, 7] (by kernel_rfl) (by simp) (each_cons _ rfl ?_ (each_cons _ rfl ?_ (each_cons _ rfl ?_ (each_cons _ rfl ?_ (each_nil)))))
      ·
       refine qo0 1 [(0, .go (owns 0 0 1))] [1, 2, 3, 43] [(38, .pointer (some ⟨gb, 0, none⟩))] ?_
       refine od_ ?_
       exact wk (hmx1 () trivial) [1, 2, 3, 38, 43] [[_], [_], [_], [_], _, _, _] [0, 1, 2, 3, 4, 5, 6] rfl rfl
      ·
       refine qo0 1 [(1, .go (owns 0 0 1))] [1, 2, 3, 43] [(39, .pointer (some ⟨gb, 0, none⟩))] ?_
       refine od_ ?_
       refine tk (m := 11) [2, 3] [] [1, 2, 3, 43] [(41, .pointer (some ⟨gb, 0, none⟩))] ([]) #[false, true, true, true, false, true, false, false, false, false, false, false, false, false, false] al0 ?_
       exact wk (hmx8 () trivial) [1, 2, 3, 41, 43] [[_], [_], [_], [_], _, _, _] [0, 1, 2, 3, 4, 5, 6] rfl rfl
      ·
       refine qo0 1 [(6, .go (owns 3 0 1))] [1, 3, 43] [(44, .int .i64 (j + 1 : Nat))] ?_
       refine od_ ?_
       exact wk (hmx2 () trivial) [1, 3, 43, 44] [[_], [_], [_], [_], _, _, _] [0, 1, 2, 3, 4, 5, 6] rfl rfl
      ·
       refine qo0 1 [(7, .go (owns 2 0 1))] [2, 3, 43] [(45, .slice p n cap)] ?_
       refine od_ ?_
       exact wk (hmx3 () trivial) [2, 3, 43, 45] [[_], [_], [_], [_], _, _, _] [0, 1, 2, 3, 4, 5, 6] rfl rfl
     rintro ⟨Y590, Y650, cq590, cq650, q590, q650, γ630⟩ ⟨hO590, hO650⟩
     refine any_nil (by kernel_rfl) ?_
     refine ds_ (sq_ (qa0 [] [] [(4, .int .i64 0)] (ds_ (rt ([]) (.int .i64 0) ?_))))
     obtain ⟨Yq, hpq, hGq⟩ := GotG.ins (x := (⟨(j + 1 : Nat), q590, n, cq590, l⟩ : GngA)) hG hO590 (show j ≤ bl.length by omega)
     exact fun w' hw => ⟨_, _, _, _, _, Yq, (bl.take j ++ [(⟨(j + 1 : Nat), q590, n, cq590, l⟩ : GngA)] ++ bl.drop j), _, rfl, by rw [inG_val] at q8; rw [fc_ok q3 q8 hI (by omega), val_ins]; rfl, hO650, hGq, form_perm hpq (by have := Hs.pick [[bx (γ1 0) (#[.pointer (some ⟨gb, 0, none⟩)]) 72], [bx gb (#[.slice q650 (m + 1) cq650]) 38], [bx gm (#[.slice p n cap]) 25], [bx gi (#[.int .i64 (j + 1 : Nat)]) 3], Y590, Y650, Yi, YR] [1, 2, 3, 5, 6, 4, 7] [0] (by kernel_rfl) hw; simpa [chunk] using this)⟩
  ·
   refine cD (.bool true) Try.call52 (fun w hw => by have := containsf_t _ (bx (γ1 0) (#[.pointer (some ⟨gb, 0, none⟩)]) 72 :: bx gb (#[.slice q m capq]) 38 :: bx gm (#[.slice p n cap]) 25 :: bx gi (#[.int .i64 0]) 3 :: (Y ++ (Yi ++ (YR ++ [])))) 53 #[.pointer (some ⟨γ1 0, 0, none⟩)] (inG bl) p n cap l w (fun args w => Try.call53 args w) hw (hsl.kept hw.below) hn (by omega) (fun x hx w' hX => form11_t q m capq bl (γ1 0) gb x w' (SlO.sub hO hX (List.Sublist.cons _ (List.Sublist.cons _ (List.Sublist.cons _ (List.Sublist.cons _ (List.sublist_append_left Y _)))))) hma (by omega) (GotG.reads hG hX (List.Sublist.cons _ (List.Sublist.cons _ (List.Sublist.cons _ (List.Sublist.cons _ (List.Sublist.trans (List.sublist_append_left Yi _) (List.sublist_append_right Y _))))))) hm9 (rd_one14 (hX.row 0 rfl)) (rd_one14 (hX.row 1 rfl))); rw [q8] at this; exact this) (on_ (ds_ (t_ (sq_ (qa0 [] [] [(4, .int .i64 5)] (ds_ (rt ([]) (.int .i64 5) ?_)))))))
   exact fun w' hw => ⟨_, _, _, _, _, _, bl, 0, rfl, by rw [inG_val] at q8; exact (fc_there q3 q8).symm, hO, hG, (by have := Hs.pick [[bx (γ1 0) (#[.pointer (some ⟨gb, 0, none⟩)]) 72], [bx gb (#[.slice q m capq]) 38], [bx gm (#[.slice p n cap]) 25], [bx gi (#[.int .i64 0]) 3], Y, Yi, YR] [1, 2, 3, 4, 5, 6] [0] (by kernel_rfl) hw; simpa [chunk] using this)⟩
end Go.Proofs.Ytahccegfahghfaa

/-! Gangs: Form. -/
namespace Go.Proofs.Ytahccegfahghfaa
open Go Go.RowKit
theorem perm3 {A B C : List Ob} : (A ++ (B ++ C)).Perm (B ++ (A ++ C)) := by rw [← List.append_assoc, ← List.append_assoc]; exact List.perm_append_comm.append_right _
theorem form_in {w0 w : World} {b m i : Ob} {Y Yi O R : List Ob} (h : Hs w0 (b :: (Y ++ (Yi ++ ((m :: i :: O) ++ R)))) w) : Hs w0 (b :: m :: i :: (Y ++ (Yi ++ (O ++ R)))) w := by
  refine h.perm (.cons _ ?_)
  rw [show Y ++ (Yi ++ ((m :: i :: O) ++ R)) = (Y ++ Yi) ++ ([m, i] ++ (O ++ R)) from by simp, show m :: i :: (Y ++ (Yi ++ (O ++ R))) = [m, i] ++ ((Y ++ Yi) ++ (O ++ R)) from by simp]
  exact perm3
theorem form_out {w0 w : World} {b m i : Ob} {Y Yi O R : List Ob} (h : Hs w0 (b :: m :: i :: (Y ++ (Yi ++ (O ++ R)))) w) : Hs w0 (b :: (Y ++ (Yi ++ ((m :: i :: O) ++ R)))) w := by
  refine h.perm (.cons _ ?_)
  rw [show Y ++ (Yi ++ ((m :: i :: O) ++ R)) = (Y ++ Yi) ++ ([m, i] ++ (O ++ R)) from by simp, show m :: i :: (Y ++ (Yi ++ (O ++ R))) = [m, i] ++ ((Y ++ Yi) ++ (O ++ R)) from by simp]
  exact perm3
theorem form_out2 {w0 w : World} {Y Yi X : List Ob} (h : Hs w0 (Y ++ (Yi ++ X)) w) : Hs w0 (X ++ (Y ++ (Yi ++ []))) w := by
  refine h.perm ?_
  rw [List.append_nil, ← List.append_assoc]
  exact List.perm_append_comm
theorem form_post {gs : Gs} {l : List Int} {er : Int} {bl : List GngA} {X : List Ob} {f : Int → List Ob} (h : (gangB gs = false ∧ er = 240 ∧ bl = [] ∧ X = f 0) ∨ (gangB gs = true ∧ er ≠ 0 ∧ bl = [] ∧ ∃ g2 : Gs, ∃ idn, (g2, idn, er) = formC gs l ∧ X = f idn) ∨ (gangB gs = true ∧ er = 0 ∧ ∃ idn, (bl.map GngA.val, idn, (0 : Int)) = formC gs l ∧ X = f idn)) : ∃ idn, X = f idn ∧ (bl.map GngA.val, idn, er) = formV gs l := by
  rcases h with ⟨h, rfl, rfl, rfl⟩ | ⟨h, h2, rfl, g2, idn, h3, rfl⟩ | ⟨h, rfl, idn, h3, rfl⟩
  · exact ⟨0, rfl, by rw [formV, if_pos h]; rfl⟩
  · exact ⟨idn, rfl, by rw [formV, if_neg (by rw [h]; decide), ← h3, if_neg h2]; rfl⟩
  · exact ⟨idn, rfl, by rw [formV, if_neg (by rw [h]; decide), ← h3, if_pos rfl]⟩

set_option maxRecDepth 100000 in
theorem form_t (q : Option Addr) (m capq : Nat) (al : List GngA) (p : Option Addr) (n cap : Nat) (l : List Int) (w : World)
    (hal : Sv w q al) (hma : m = al.length) (hbm : m ≤ 1000) (hnm : ∀ x ∈ al, x.Reads w) (hm9 : ∀ x ∈ al, x.n ≤ 1000)
    (hsl : Sv w p l) (hn : n = l.length) (hb : n ≤ 1000)
    : Calls Try.prog 29 #[.agg #[.slice q m capq], .slice p n cap] w fun e w' => ∃ er q' n' c' Y Yi bl idn, e = .returned (.tuple #[.agg #[.slice q' n' c'], .int .i64 idn, .int .i64 er]) ∧ (bl.map GngA.val, idn, er) = formV (al.map GngA.val) l ∧ SlO 46 Y q' n' c' bl ∧ GotG 3 Yi bl ∧ Below w.heap.size w w' ∧ Hs w (Y ++ Yi) w' := by
  refine enter (Hs.start w) Try.func29 rfl Try.ntmps29 rfl (sq_ (ma0 [] [] (fun γ1 => [(2, .pointer (some ⟨γ1 0, 0, none⟩)), (3, .pointer (some ⟨γ1 1, 0, none⟩)), (4, .pointer (some ⟨γ1 2, 0, none⟩))]) (fun γ1 L => bx (γ1 2) (#[.slice none 0 0]) 38 :: bx (γ1 1) (#[.slice p n cap]) 25 :: bx (γ1 0) (#[.slice q m capq]) 38 :: L) (fun γ1 => ds_ (sq_ (ma0 [(1, .go (owns 0 0 1))] [2, 3, 4] (fun γ2 => [(7, .pointer (some ⟨γ2 0, 0, none⟩))]) (fun γ2 L => bx (γ2 0) (#[.int .i64 0]) 3 :: L) (fun γ2 => ds_ (sq_ (ao_ (qo0 2 [(0, .go (owns 3 0 1))] [4, 7] [(11, .agg #[.slice q m capq]), (12, .func (.func 51) #[] #[.pointer (some ⟨γ1 1, 0, none⟩), .pointer (some ⟨γ2 0, 0, none⟩)])] (Ops.pick [[bx (γ2 0) (#[.int .i64 0]) 3], [bx (γ1 2) (#[.slice none 0 0]) 38], [bx (γ1 1) (#[.slice p n cap]) 25], [bx (γ1 0) (#[.slice q m capq]) 38]] [2, 0, 1, 3] [] ([bx (γ1 1) (#[.slice p n cap]) 25, bx (γ2 0) (#[.int .i64 0]) 3, bx (γ1 2) (#[.slice none 0 0]) 38, bx (γ1 0) (#[.slice q m capq]) 38]) (by kernel_rfl) rfl rfl (cP (fun v L' => ∃ er q_ n_ c_ Y_ Z_ bl_ idn, v = .tuple #[.agg #[.slice q_ n_ c_], .int .i64 er] ∧ L' = (fun idn => [bx (γ1 1) (#[.slice p n cap]) 25, bx (γ2 0) (#[.int .i64 idn]) 3, bx (γ1 2) (#[.slice none 0 0]) 38, bx (γ1 0) (#[.slice q m capq]) 38]) idn ++ (Y_ ++ (Z_ ++ [])) ∧ SlO 46 Y_ q_ n_ c_ bl_ ∧ GotG 3 Z_ bl_ ∧ (bl_.map GngA.val, idn, er) = formV (al.map GngA.val) l) Try.call50 (fun w hw => (with_t _ [bx (γ1 1) (#[.slice p n cap]) 25, bx (γ2 0) (#[.int .i64 0]) 3, bx (γ1 2) (#[.slice none 0 0]) 38, bx (γ1 0) (#[.slice q m capq]) 38] 51 #[.pointer (some ⟨γ1 1, 0, none⟩), .pointer (some ⟨γ2 0, 0, none⟩)] (fun er gs X2 => ∃ idn, (gs, idn, er) = formC (al.map GngA.val) l ∧ X2 = (fun idn => [bx (γ1 1) (#[.slice p n cap]) 25, bx (γ2 0) (#[.int .i64 idn]) 3, bx (γ1 2) (#[.slice none 0 0]) 38, bx (γ1 0) (#[.slice q m capq]) 38]) idn) q m capq al w (fun args w => Try.call51 args w) hw hal hma hbm hnm hm9 (fun hgd gb q' c' Y Yi R bl w' hO hG hV hX => (form1_t _ Y Yi ([bx (γ1 2) (#[.slice none 0 0]) 38, bx (γ1 0) (#[.slice q m capq]) 38] ++ R) gb (γ1 1) (γ2 0) q' m c' bl p n cap l w' hsl hn hb hbm hO hG (by rw [hV]; exact hgd) (form_in (O := [bx (γ1 2) (#[.slice none 0 0]) 38, bx (γ1 0) (#[.slice q m capq]) 38]) hX)).mono fun e w'' ⟨er, q2, n2, c2, Y2, Yi2, bl2, idn, he, h1, h2, h3, h4⟩ => ⟨er, q2, n2, c2, Y2, Yi2, bl2, _, he, ⟨idn, by rw [← hV]; exact h1, rfl⟩, h2, h3, form_out (O := [bx (γ1 2) (#[.slice none 0 0]) 38, bx (γ1 0) (#[.slice q m capq]) 38]) h4⟩)).mono fun e w' ⟨er, q_, n_, c_, Y_, Z_, bl_, X_, he, h1, h2, hX, h3⟩ => by obtain ⟨idn, hx, hv⟩ := form_post (f := (fun idn => [bx (γ1 1) (#[.slice p n cap]) 25, bx (γ2 0) (#[.int .i64 idn]) 3, bx (γ1 2) (#[.slice none 0 0]) 38, bx (γ1 0) (#[.slice q m capq]) 38])) h3; subst hx; exact ⟨_, _, he, ⟨er, q_, n_, c_, Y_, Z_, bl_, idn, rfl, rfl, h1, h2, hv⟩, form_out2 hX⟩) ?_)))))))))))
  rintro v4 L4 ⟨er4, q4, n4, c4, Y4, Yz4, bl4, id4, rfl, rfl, hO4, hG4, hV4⟩
  refine mo0 6 [(7, .go (owns 0 0 1))] [4, 7] (fun γ5 => [(8, .pointer (some ⟨γ5 0, 0, none⟩)), (9, .int .i64 er4)]) (fun γ5 L => bx (γ5 0) (#[.slice q4 n4 c4]) 38 :: L) (fun γ5 => on_ (ds_ (sq_ ?_)))
  refine at_any (by kernel_rfl) ?_
  refine tk (m := 5) [2] [] [4, 7, 8] [(18, .int .i64 er4)] ([]) #[false, false, true, false, false, false] al0 ?_
  refine any_cutX (V := Unit) (fun _ => True) 0 #[true, true, true, true, true, true] (fun _ => [(4, .pointer (some ⟨γ1 2, 0, none⟩)), (5, .int .i64 id4), (6, .int .i64 er4)]) (fun _ => bx (γ5 0) (#[.slice q4 n4 c4]) 38 :: bx (γ1 1) (#[.slice p n cap]) 25 :: bx (γ2 0) (#[.int .i64 id4]) 3 :: bx (γ1 2) (#[.slice q4 n4 c4]) 38 :: bx (γ1 0) (#[.slice q m capq]) 38 :: (Y4 ++ (Yz4 ++ []))) ?_ (fun hmx5 => ?_)
  rotate_left
  ·
    refine any_cutX (V := Unit) (fun _ => True) 3 #[true, false, true, true, false, false] (fun _ => [(4, .pointer (some ⟨γ1 2, 0, none⟩)), (7, .pointer (some ⟨γ2 0, 0, none⟩)), (18, .int .i64 er4)]) (fun _ => bx (γ5 0) (#[.slice q4 n4 c4]) 38 :: bx (γ1 1) (#[.slice p n cap]) 25 :: bx (γ2 0) (#[.int .i64 id4]) 3 :: bx (γ1 2) (#[.slice q4 n4 c4]) 38 :: bx (γ1 0) (#[.slice q m capq]) 38 :: (Y4 ++ (Yz4 ++ []))) ?_ (fun hmx4 => ?_)
    ·
      rintro _ _
      refine a1 1 rfl ?_
      refine qo0 1 [(1, .go (owns 2 0 1))] [4, 18] [(17, .int .i64 id4)] ?_
      refine od_ ?_
      refine tk (m := 0) [4, 5] [] [4] [(5, .int .i64 id4), (6, .int .i64 er4)] ([]) #[true, true, true, true, true, true] al0 ?_
      exact wk (hmx5 () trivial) [4, 5, 6] [[_], [_], [_], [_], [_], _, _] [0, 1, 2, 3, 4, 5, 6] rfl rfl
    refine any_cutX (V := Unit) (fun _ => True) 3 #[true, true, true, false, false, false] (fun _ => [(4, .pointer (some ⟨γ1 2, 0, none⟩)), (16, .agg #[.slice q4 n4 c4]), (17, .int .i64 id4), (18, .int .i64 er4)]) (fun _ => bx (γ5 0) (#[.slice q4 n4 c4]) 38 :: bx (γ1 1) (#[.slice p n cap]) 25 :: bx (γ2 0) (#[.int .i64 id4]) 3 :: bx (γ1 2) (#[.slice none 0 0]) 38 :: bx (γ1 0) (#[.slice q m capq]) 38 :: (Y4 ++ (Yz4 ++ []))) ?_ (fun hmx3 => ?_)
    ·
      rintro _ _
      refine a1 3 rfl ?_
      refine mo0 1 [(3, .go (owns 3 0 1))] [4, 17, 18] (fun _ => []) (fun _ L => (L.set 3 (bx (γ1 2) (#[.slice q4 n4 c4]) 38))) (fun _ => ?_)
      refine od_ ?_
      refine tk (m := 0) [4, 5] [] [4] [(5, .int .i64 id4), (6, .int .i64 er4)] ([]) #[true, true, true, true, true, true] al0 ?_
      exact wk (hmx5 () trivial) [4, 5, 6] [[_], [_], [_], [_], [_], _, _] [0, 1, 2, 3, 4, 5, 6] rfl rfl
    refine any_cutX (V := Unit) (fun _ => True) 4 #[false, true, true, false, false, false] (fun _ => [(4, .pointer (some ⟨γ1 2, 0, none⟩)), (8, .pointer (some ⟨γ5 0, 0, none⟩)), (17, .int .i64 id4), (18, .int .i64 er4)]) (fun _ => bx (γ5 0) (#[.slice q4 n4 c4]) 38 :: bx (γ1 1) (#[.slice p n cap]) 25 :: bx (γ2 0) (#[.int .i64 id4]) 3 :: bx (γ1 2) (#[.slice none 0 0]) 38 :: bx (γ1 0) (#[.slice q m capq]) 38 :: (Y4 ++ (Yz4 ++ []))) ?_ (fun hmx2 => ?_)
    ·
      rintro _ _
      refine a1 0 rfl ?_
      refine qo0 1 [(0, .go (owns 0 0 1))] [4, 17, 18] [(16, .agg #[.slice q4 n4 c4])] ?_
      refine od_ ?_
      exact wk (hmx3 () trivial) [4, 16, 17, 18] [[_], [_], [_], [_], [_], _, _] [0, 1, 2, 3, 4, 5, 6] rfl rfl
    refine any_cutX (V := Unit) (fun _ => True) 4 #[true, false, true, false, false, false] (fun _ => [(4, .pointer (some ⟨γ1 2, 0, none⟩)), (7, .pointer (some ⟨γ2 0, 0, none⟩)), (16, .agg #[.slice q4 n4 c4]), (18, .int .i64 er4)]) (fun _ => bx (γ5 0) (#[.slice q4 n4 c4]) 38 :: bx (γ1 1) (#[.slice p n cap]) 25 :: bx (γ2 0) (#[.int .i64 id4]) 3 :: bx (γ1 2) (#[.slice none 0 0]) 38 :: bx (γ1 0) (#[.slice q m capq]) 38 :: (Y4 ++ (Yz4 ++ []))) ?_ (fun hmx1 => ?_)
    ·
      rintro _ _
      refine any_fork [1, 3] (by kernel_rfl) (by simp) (each_cons _ rfl ?_ (each_cons _ rfl ?_ (each_nil)))
      ·
        refine qo0 1 [(1, .go (owns 2 0 1))] [4, 16, 18] [(17, .int .i64 id4)] ?_
        refine od_ ?_
        exact wk (hmx3 () trivial) [4, 16, 17, 18] [[_], [_], [_], [_], [_], _, _] [0, 1, 2, 3, 4, 5, 6] rfl rfl
      ·
        refine mo0 1 [(3, .go (owns 3 0 1))] [4, 7, 18] (fun _ => []) (fun _ L => (L.set 3 (bx (γ1 2) (#[.slice q4 n4 c4]) 38))) (fun _ => ?_)
        refine od_ ?_
        exact wk (hmx4 () trivial) [4, 7, 18] [[_], [_], [_], [_], [_], _, _] [0, 1, 2, 3, 4, 5, 6] rfl rfl
    refine any_fork [0, 1] (by kernel_rfl) (by simp) (each_cons _ rfl ?_ (each_cons _ rfl ?_ (each_nil)))
    ·
      refine qo0 1 [(0, .go (owns 0 0 1))] [4, 7, 18] [(16, .agg #[.slice q4 n4 c4])] ?_
      refine od_ ?_
      exact wk (hmx1 () trivial) [4, 7, 16, 18] [[_], [_], [_], [_], [_], _, _] [0, 1, 2, 3, 4, 5, 6] rfl rfl
    ·
      refine qo0 1 [(1, .go (owns 2 0 1))] [4, 8, 18] [(17, .int .i64 id4)] ?_
      refine od_ ?_
      exact wk (hmx2 () trivial) [4, 8, 17, 18] [[_], [_], [_], [_], [_], _, _] [0, 1, 2, 3, 4, 5, 6] rfl rfl
  rintro _ _
  refine any_nil (by kernel_rfl) ?_
  refine ds_ (rt (owns 3 0 1) (.tuple #[.agg #[.slice q4 n4 c4], .int .i64 id4, .int .i64 er4]) ?_)
  exact fun w' hw => ⟨_, _, _, _, _, _, _, _, rfl, hV4, hO4, hG4, hw.below, two_tails14 (Hs.pick [[bx (γ5 0) (#[.slice q4 n4 c4]) 38], [bx (γ1 1) (#[.slice p n cap]) 25], [bx (γ2 0) (#[.int .i64 id4]) 3], [bx (γ1 2) (#[.slice q4 n4 c4]) 38], [bx (γ1 0) (#[.slice q m capq]) 38], Y4, Yz4] [5, 6] [0, 1, 2, 3, 4] (by kernel_rfl) hw)⟩
end Go.Proofs.Ytahccegfahghfaa

/-! The layer does something. -/
namespace Go.Proofs.Ytahccegfahghfaa
open Go Go.RowKit
theorem hs_re {w0 w : World} {A Y Z B : List Ob} (h : Hs w0 (A ++ ((Y ++ Z) ++ B)) w) : Hs w0 (A ++ (Y ++ (Z ++ B))) w := by rwa [← List.append_assoc Y Z B]

set_option maxRecDepth 100000 in
theorem wakes_t  (w : World)
 : Calls Try.prog 9 #[] w fun e w' => e = .returned (.bool true) ∧ Below w.heap.size w w' := by
 refine enter (Hs.start w) Try.func9 rfl Try.ntmps9 rfl (sq_ (qa0 [] [] [] (ds_ (sq_ (ao_ (mo0 2 [] [] (fun γ2 => [(10, .agg #[.slice none 0 0]), (11, .slice (some ⟨γ2 0, 0, none⟩) 2 2)]) (fun γ2 L => bx (γ2 0) (#[.int .i64 1, .int .i64 3]) 3 :: L) (fun γ2 => cP (fun v L' => ∃ q_ n_ c_ Y_ Z_ bl_, v = .tuple #[.agg #[.slice q_ n_ c_], .int .i64 1, .int .i64 0] ∧ L' = List.take 1 ([bx (γ2 0) (#[.int .i64 1, .int .i64 3]) 3]) ++ (Y_ ++ (Z_ ++ List.drop 1 ([bx (γ2 0) (#[.int .i64 1, .int .i64 3]) 3]))) ∧ SlO 46 Y_ q_ n_ c_ bl_ ∧ GotG 3 Z_ bl_ ∧ bl_.map GngA.val = [(1, [1, 3])]) Try.call29 (fun w hw => (form_t none 0 0 [] (some ⟨γ2 0, 0, none⟩) 2 2 [1, 3] w Sv.nil rfl (by decide) (fun x hx => nomatch hx) (fun x hx => nomatch hx) (sv_row (hw.row 0 rfl) rfl) rfl (by decide)).mono fun e w' ⟨er, q_, n_, c_, Y_, Z_, bl_, idn, he, hv, hO, hG, hb, hY⟩ => by have hq := hv.trans (show _ = ([(1, [1, 3])], (1 : Int), (0 : Int)) from by kernel_rfl); simp only [Prod.mk.injEq] at hq; obtain ⟨hq1, rfl, rfl⟩ := hq; exact ⟨_, _, he, ⟨q_, n_, c_, Y_, Z_, bl_, rfl, rfl, hO, hG, hq1⟩, hs_re (hw.join hb hY 1)⟩) ?_)))))))
 rintro v3 L3 ⟨q3, n3, c3, Y3, Yz3, bl3, rfl, rfl, hO3, hG3, hV3⟩
 have hbl3 : bl3.length = 1 := by have := congrArg List.length hV3; simpa using this
 refine mo0 8 [(8, .go (owns 0 0 1))] [] (fun γ4 => [(1, .pointer (some ⟨γ4 0, 0, none⟩)), (2, .int .i64 1), (3, .int .i64 0)]) (fun γ4 L => bx (γ4 0) (#[.slice q3 n3 c3]) 38 :: L) (fun γ4 => on_ (ds_ (sq_ (ao_ (mo0 2 [(0, .go (owns 0 0 1))] [2, 3] (fun γ5 => [(17, .agg #[.slice q3 n3 c3]), (18, .slice (some ⟨γ5 0, 0, none⟩) 2 2)]) (fun γ5 L => bx (γ5 0) (#[.int .i64 3, .int .i64 4]) 3 :: L) (fun γ5 => cP (fun v L' => ∃ q_ n_ c_ Y_ Z_ bl_, v = .tuple #[.agg #[.slice q_ n_ c_], .int .i64 0, .int .i64 5] ∧ L' = List.take 3 (bx (γ5 0) (#[.int .i64 3, .int .i64 4]) 3 :: bx (γ4 0) (#[.slice q3 n3 c3]) 38 :: bx (γ2 0) (#[.int .i64 1, .int .i64 3]) 3 :: (Y3 ++ (Yz3 ++ []))) ++ (Y_ ++ (Z_ ++ List.drop 3 (bx (γ5 0) (#[.int .i64 3, .int .i64 4]) 3 :: bx (γ4 0) (#[.slice q3 n3 c3]) 38 :: bx (γ2 0) (#[.int .i64 1, .int .i64 3]) 3 :: (Y3 ++ (Yz3 ++ []))))) ∧ SlO 46 Y_ q_ n_ c_ bl_ ∧ GotG 3 Z_ bl_ ∧ bl_.map GngA.val = []) Try.call29 (fun w hw => (form_t q3 n3 c3 bl3 (some ⟨γ5 0, 0, none⟩) 2 2 [3, 4] w (SlO.sub hO3 hw (List.Sublist.cons _ (List.Sublist.cons _ (List.Sublist.cons _ (List.sublist_append_left Y3 _))))) hO3.len (by have := hO3.len; omega) (GotG.reads hG3 hw (List.Sublist.cons _ (List.Sublist.cons _ (List.Sublist.cons _ (List.Sublist.trans (List.sublist_append_left Yz3 _) (List.sublist_append_right Y3 _)))))) (got_small hG3 (by rw [hV3]; kernel_rfl)) (sv_row (hw.row 0 rfl) rfl) rfl (by decide)).mono fun e w' ⟨er, q_, n_, c_, Y_, Z_, bl_, idn, he, hv, hO, hG, hb, hY⟩ => by have hq := hv.trans (show _ = ([], (0 : Int), (5 : Int)) from by rw [hV3]; kernel_rfl); simp only [Prod.mk.injEq] at hq; obtain ⟨hq1, rfl, rfl⟩ := hq; exact ⟨_, _, he, ⟨q_, n_, c_, Y_, Z_, bl_, rfl, rfl, hO, hG, hq1⟩, hs_re (hw.join hb hY 3)⟩) ?_))))))
 rintro v6 L6 ⟨q6, n6, c6, Y6, Yz6, bl6, rfl, rfl, hO6, hG6, hV6⟩
 have hbl6 : bl6.length = 0 := by have := congrArg List.length hV6; simpa using this
 refine mo0 8 [(8, .go (owns 0 0 1))] [2, 3] (fun γ7 => [(6, .int .i64 5)]) (fun γ7 L => bx (γ7 0) (#[.slice q6 n6 c6]) 38 :: L) (fun γ7 => on_ (ds_ (sq_ (ao_ (mo0 3 [] [2, 3, 6] (fun γ8 => [(26, .slice (some ⟨γ8 2, 0, none⟩) 2 2)]) (fun γ8 L => bx (γ8 2) (#[.slice (some ⟨γ8 0, 0, none⟩) 2 2, .slice (some ⟨γ8 1, 0, none⟩) 1 1]) 25 :: bx (γ8 1) (#[.int .i64 0]) 3 :: bx (γ8 0) (#[.int .i64 0, .int .i64 1]) 3 :: L) (fun γ8 => cP (fun v L' => ∃ q_ c_ Y_, v = .tuple #[.slice q_ 2 c_, .bool true] ∧ L' = List.take 7 (bx (γ8 2) (#[.slice (some ⟨γ8 0, 0, none⟩) 2 2, .slice (some ⟨γ8 1, 0, none⟩) 1 1]) 25 :: bx (γ8 1) (#[.int .i64 0]) 3 :: bx (γ8 0) (#[.int .i64 0, .int .i64 1]) 3 :: bx (γ7 0) (#[.slice q6 n6 c6]) 38 :: bx (γ5 0) (#[.int .i64 3, .int .i64 4]) 3 :: bx (γ4 0) (#[.slice q3 n3 c3]) 38 :: bx (γ2 0) (#[.int .i64 1, .int .i64 3]) 3 :: (Y6 ++ (Yz6 ++ (Y3 ++ (Yz3 ++ []))))) ++ (Y_ ++ List.drop 7 (bx (γ8 2) (#[.slice (some ⟨γ8 0, 0, none⟩) 2 2, .slice (some ⟨γ8 1, 0, none⟩) 1 1]) 25 :: bx (γ8 1) (#[.int .i64 0]) 3 :: bx (γ8 0) (#[.int .i64 0, .int .i64 1]) 3 :: bx (γ7 0) (#[.slice q6 n6 c6]) 38 :: bx (γ5 0) (#[.int .i64 3, .int .i64 4]) 3 :: bx (γ4 0) (#[.slice q3 n3 c3]) 38 :: bx (γ2 0) (#[.int .i64 1, .int .i64 3]) 3 :: (Y6 ++ (Yz6 ++ (Y3 ++ (Yz3 ++ [])))))) ∧ SlO 3 Y_ q_ 2 c_ ([1, 0] : List Int)) Try.call10 (fun w hw => (match_t (some ⟨γ8 2, 0, none⟩) 2 2 ([(⟨(some ⟨γ8 0, 0, none⟩), 2, 2, [0, 1]⟩ : IntsA), (⟨(some ⟨γ8 1, 0, none⟩), 1, 1, [0]⟩ : IntsA)]) w (sv_row (hw.row 0 rfl) rfl) rfl (by decide) (fun x hx => by simp only [List.mem_cons, List.not_mem_nil, or_false] at hx; rcases hx with rfl | rfl; exact ⟨sv_row (hw.row 2 rfl) rfl, rfl, Nat.le_refl _, (by simp)⟩; exact ⟨sv_row (hw.row 1 rfl) rfl, rfl, Nat.le_refl _, (by simp)⟩) (fun x hx => by simp only [List.mem_cons, List.not_mem_nil, or_false] at hx; rcases hx with rfl | rfl <;> simp)).mono fun e w' ⟨q_, n_, c_, Y_, he, hO, hb, hY⟩ => by rw [show matchA _ = (([1, 0] : List Int), true) from (by kernel_rfl)] at he hO; obtain rfl : n_ = 2 := hO.len; exact ⟨_, _, he, ⟨q_, c_, Y_, rfl, rfl, hO⟩, hw.join hb hY 7⟩) ?_))))))
 rintro v9 L9 ⟨q9, c9, Y9, rfl, rfl, hO9⟩
 refine qo0 5 [] [2, 3, 6] [(7, .slice q9 2 c9), (8, .bool true)] (on_ (ds_ (sq_ ?_)))
 have hln12 := hO9.len
 obtain ⟨g12, cs12, rfl, rfl, hOw12⟩ := hO9.rowOf (i := 0) (by omega)
 refine qa [(20, .at g12 0 0), (21, .go (ownps 7 (0 + 0 * 1) [.int .i64 1])), (26, .at g12 0 1), (27, .go (ownps 7 (0 + 1 * 1) [.int .i64 0]))] [] [(0, .bool true)] ([(some ⟨g12, 0, none⟩ : Option Addr) = some ⟨g12, 0, none⟩, 0 = ((0 : Nat) : Int), 0 < 2] ++ (acellsP cs12 (0 + 0 * 1) [.int .i64 1] ++ ([(some ⟨g12, 0, none⟩ : Option Addr) = some ⟨g12, 0, none⟩, 1 = ((1 : Nat) : Int), 1 < 2] ++ (acellsP cs12 (0 + 1 * 1) [.int .i64 0])))) (alA (al2 rfl (al2 rfl (al1 (by omega)))) (alA (rda_pre (hOw12.rdx hO9.len rfl) _ rfl) (alA (al2 rfl (al2 rfl (al1 (by omega)))) (rda_pre (hOw12.rdx hO9.len rfl) _ rfl)))) (ds_ (rt ([]) (.bool true) ?_))
 exact fun w' hw => ⟨rfl, hw.below⟩
end Go.Proofs.Ytahccegfahghfaa

/-! Rows of rows of numbers as elements; what few and Match leave; plain. -/
namespace Go.Proofs.Ytahccegfahghfaa
open Go Go.RowKit
/-- Rows of whole numbers, as an element. -/
structure RowsA where
  p : Option Addr
  n : Nat
  cap : Nat
  l : List IntsA
def RowsA.enc (x : RowsA) : List Value := [.slice x.p x.n x.cap]
instance : Enc RowsA := ⟨RowsA.enc, 1, fun _ => rfl, fun x v h => by simp [RowsA.enc] at h; subst h; rfl, by decide⟩
structure RowsA.Reads (w : World) (x : RowsA) : Prop where
  sv : Sv w x.p x.l
  hn : x.n = x.l.length
  hc : x.n ≤ x.cap
  hb : x.cap ≤ 9223372036854775807
  hi : ∀ y ∈ x.l, y.Reads w
section
variable {T : TypeId} {Yi : List Ob} {bl : List IntsA} {R rows : List (List Int)} {ll : List (List Int)} {ol row : List Int} {i : Nat}
theorem few_facts (hG : GotR T Yi bl) (hB : bl.map IntsA.l = fewV R) : bl.length ≤ 9 ∧ (fewV R).length ≤ 9 ∧ ∀ x ∈ bl, x.n ≤ 1000 := by
  have h1 : (fewV R).length ≤ 9 := by unfold fewV; rw [List.length_map, List.length_take]; omega
  refine ⟨by rw [← List.length_map (f := IntsA.l), hB]; exact h1, h1, fun x hx => ?_⟩
  obtain ⟨Z, _, hz⟩ := hG.own hx
  have h2 : x.l ∈ fewV R := by rw [← hB]; exact List.mem_map_of_mem hx
  unfold fewV at h2
  obtain ⟨r, _, hr⟩ := List.mem_map.1 h2
  have h3 : x.l.length ≤ 9 := by rw [← hr, List.length_take]; omega
  have h4 : x.n = x.l.length := hz.facts.1
  omega
end
end Go.Proofs.Ytahccegfahghfaa

/-! A match is one's own; with more to choose from there still is one; plain. -/
namespace Go.Proofs.Ytahccegfahghfaa
open Go Go.RowKit
section
variable {T : TypeId} {Yi Y : List Ob} {al : List IntsA} {x : IntsA} {L L0 rows : List (List Int)} {row m : List Int} {i j : Nat} {c : Int}
theorem few_nine {bl : List IntsA} {R : List (List Int)} (hG : GotR T Yi bl) (hB : bl.map IntsA.l = fewV R) : ∀ x ∈ bl, x.n ≤ 9 := fun x hx => by
  obtain ⟨Z, _, hz⟩ := hG.own hx
  have h2 : x.l ∈ fewV R := by rw [← hB]; exact List.mem_map_of_mem hx
  unfold fewV at h2
  obtain ⟨r, _, hr⟩ := List.mem_map.1 h2
  have h3 : x.l.length ≤ 9 := by rw [← hr, List.length_take]; omega
  have h4 : x.n = x.l.length := hz.facts.1
  omega
theorem ma_nil (h : (matchA rows).2 = false) : (matchA rows).1 = [] := by
  unfold matchA at h ⊢
  split
  · rename_i e; rw [if_pos e] at h; cases h
  · rfl
theorem ma_sdr (h : (matchA rows).2 = true) : choB rows = true ∧ Sdr rows (matchA rows).1 := by
  unfold matchA at h ⊢
  split
  · rename_i e; exact ⟨e.1, (first_yes (cho_rows e.1).1 e.2).2⟩
  · rename_i e; rw [if_neg e] at h; cases h
theorem ma_is (hc : choB rows = true) (h : ∃ m, Sdr rows m) : (matchA rows).2 = true := by rw [ma_yes hc ((match_iff (cho_rows hc).1).2 h)]
/-- Each row has at least what it had. -/
structure OwnI (L0 L : List (List Int)) : Prop where
  len : L.length = L0.length
  cho : choB L = true
  sub : ∀ (i : Nat) (r0 : List Int), L0[i]? = some r0 → ∃ r, L[i]? = some r ∧ ∀ c ∈ r0, c ∈ r
theorem OwnI.start (h : choB L = true) : OwnI L L := ⟨rfl, h, fun _ r0 h => ⟨r0, h, fun _ h => h⟩⟩
theorem OwnI.more (h : OwnI L0 L) (hr : L[i]? = some row) (hn : decide (c ∈ row) = false) (h0 : 0 ≤ c) (h8 : c < 8) : OwnI L0 (L.set i (row ++ [c])) := by
  have hl := (List.getElem?_eq_some_iff.1 hr).1
  refine ⟨by rw [List.length_set]; exact h.len, ?_, fun j r0 e => ?_⟩
  · have hc := h.cho
    unfold choB at hc ⊢
    simp only [Bool.and_eq_true, List.all_eq_true, decide_eq_true_eq, List.length_set] at hc ⊢
    refine ⟨fun r hm => ?_, hc.2⟩
    rcases List.mem_or_eq_of_mem_set hm with e | e
    · exact hc.1 r e
    · subst e
      have h1 := row_iff.1 (hc.1 row (List.mem_of_getElem? hr))
      refine row_iff.2 ⟨fun y hy => ?_, nodup_more h1.2 hn⟩
      rcases List.mem_append.1 hy with e | e
      · exact h1.1 y e
      · simp at e; subst e; exact ⟨h0, h8⟩
  · obtain ⟨r, h1, h2⟩ := h.sub j r0 e
    by_cases hj : i = j
    · subst hj
      rw [hr] at h1; cases h1
      exact ⟨row ++ [c], List.getElem?_set_self hl, fun y hy => List.mem_append_left _ (h2 y hy)⟩
    · exact ⟨r, by rw [List.getElem?_set_ne hj]; exact h1, h2⟩
theorem OwnI.yes (h : OwnI L0 L) (hm : Sdr L0 m) : (matchA L).2 = true := by
  refine ma_is h.cho ⟨m, hm.len.trans h.len.symm, hm.nd, fun j c e => ?_⟩
  obtain ⟨r0, h1, h2⟩ := hm.own j c e
  obtain ⟨r, h3, h4⟩ := h.sub j r0 h1
  exact ⟨r, h3, h4 c h2⟩
/-- None is met twice, and each is in its row. -/
theorem sdr_at (hm : Sdr rows m) (hc : m[j]? = some c) (hr : rows[j]? = some row) : c ∈ row := by
  obtain ⟨r, h1, h2⟩ := hm.own j c hc
  rw [hr] at h1; cases h1; exact h2
theorem sdr_new (hm : Sdr rows m) (hc : m[j]? = some c) : decide (c ∈ m.take j) = false := by
  refine decide_eq_false fun h => ?_
  have hn := hm.nd
  obtain ⟨hl, he⟩ := List.getElem?_eq_some_iff.1 hc
  rw [show m = m.take j ++ c :: m.drop (j + 1) from by rw [← he, ← List.drop_eq_getElem_cons hl, List.take_append_drop]] at hn
  exact (List.nodup_append.1 hn).2.2 c h c (List.mem_cons_self ..) rfl
/-- One row is taken out, and another laid there. -/
theorem GotR.cut (h : GotR T Yi al) (hx : al[i]? = some x) : ∃ A Z B, Yi = A ++ (Z ++ B) ∧ SlO T Z x.p x.n x.cap x.l ∧ ∀ (Z' : List Ob) (y : IntsA), SlO T Z' y.p y.n y.cap y.l → GotR T (A ++ (Z' ++ B)) (al.set i y) := by
  obtain ⟨Ys, rfl, hl, hs⟩ := h
  have hil := (List.getElem?_eq_some_iff.1 hx).1
  have hiy : i < Ys.length := by omega
  have e : Ys[i]? = some Ys[i] := List.getElem?_eq_getElem hiy
  have hsp : Ys = Ys.take i ++ Ys[i] :: Ys.drop (i + 1) := by rw [← List.drop_eq_getElem_cons hiy, List.take_append_drop]
  refine ⟨(Ys.take i).flatten, Ys[i], (Ys.drop (i + 1)).flatten, ?_, hs i _ x e hx, fun Z' y hy => ⟨Ys.set i Z', ?_, by simp [hl], fun k Z z h1 h2 => ?_⟩⟩
  · have h9 := congrArg List.flatten hsp
    rw [List.flatten_append, List.flatten_cons] at h9
    exact h9
  · rw [List.set_eq_take_append_cons_drop, if_pos hiy]
    simp
  · by_cases hk : i = k
    · subst hk
      rw [List.getElem?_set_self hiy] at h1
      rw [List.getElem?_set_self hil] at h2
      cases h1; cases h2
      exact hy
    · rw [List.getElem?_set_ne hk] at h1 h2
      exact hs k Z z h1 h2
end
end Go.Proofs.Ytahccegfahghfaa

/-! The statement GangOwn, walked. -/
namespace Go.Proofs.Ytahccegfahghfaa
open Go Go.RowKit
theorem own_bound {bl : List IntsA} {y : IntsA} {i j : Nat} (h : ∀ x ∈ bl, x.n ≤ 9 + j) (hy : y.n ≤ 9 + (j + 1)) : ∀ x ∈ bl.set i y, x.n ≤ 9 + (j + 1) := fun x hx => by
  rcases List.mem_or_eq_of_mem_set hx with e | e
  · exact Nat.le_trans (h x e) (by omega)
  · subst e; exact hy

set_option maxRecDepth 100000 in
theorem own_law (q : Option Addr) (m capq : Nat) (al : List IntsA) (w : World)
    (hal : Sv w q al) (hma : m = al.length) (hcp : m ≤ capq) (hbg : capq ≤ 9223372036854775807) (hnm : ∀ x ∈ al, x.Reads w)
    : Calls Try.prog 4 #[.slice q m capq] w fun e w' => e = .returned (.bool true) ∧ Below w.heap.size w w' := by
  refine enter (Hs.start w) Try.func4 rfl Try.ntmps4 rfl (sq_ (qa0 [] [0] [] (ds_ (sq_ (sq_ (ao_ (cD (.bool true) Try.call9 (fun w hw => wakes_t w) (qo0 1 [] [0] [(12, .bool false)] (on_ (ds_ (f_ (at_skip (ds_ (sq_ (ao_ (qo0 1 [] [] [(13, .slice q m capq)] (cP (fun v L' => ∃ q_ n_ c_ Y_ Z_ bl_, v = .slice q_ n_ c_ ∧ L' = List.take 0 ([]) ++ (Y_ ++ (Z_ ++ List.drop 0 ([]))) ∧ SlO 25 Y_ q_ n_ c_ bl_ ∧ GotR 3 Z_ bl_ ∧ bl_.map IntsA.l = fewV (al.map IntsA.l)) Try.call11 (fun w hw => (few_t q m capq al w (hal.kept hw.below) hma (by omega) (fun y hy => (hnm y hy).kept hw.below)).mono fun e w' ⟨q_, n_, c_, Y_, bl_, Z_, he, hO, hG, hB, hb, hY⟩ => ⟨_, _, he, ⟨q_, n_, c_, Y_, Z_, bl_, rfl, rfl, hO, hG, hB⟩, hs_re (hw.join hb hY 0)⟩) ?_)))))))))))))))))
  rintro v5 L5 ⟨q5, n5, c5, Y5, Yz5, bl5, rfl, rfl, hO5, hG5, hB5⟩
  have hf5 := few_facts hG5 hB5
  have hl5 := hO5.len
  refine qo0 1 [] [] [(3, .slice q5 n5 c5)] (on_ (ds_ (sq_ (ao_ (qo0 1 [] [3] [(16, .slice q5 n5 c5)] ?_)))))
  rcases q8 : (matchA (fewV (al.map IntsA.l))).2 with _ | _
  ·
    refine cP (fun v L' => ∃ q_ n_ c_ Y_, v = .tuple #[.slice q_ n_ c_, .bool false] ∧ L' = List.take 0 ((Y5 ++ (Yz5 ++ []))) ++ (Y_ ++ List.drop 0 ((Y5 ++ (Yz5 ++ [])))) ∧ SlO 3 Y_ q_ n_ c_ ([] : List Int)) Try.call10 (fun w hw => (match_t q5 n5 c5 bl5 w (SlO.sub hO5 hw (List.sublist_append_left Y5 _)) hl5 (by omega) (GotR.reads hG5 hw (List.Sublist.trans (List.sublist_append_left Yz5 _) (List.sublist_append_right Y5 _))) hf5.2.2).mono fun e w' ⟨q_, n_, c_, Y_, he, hO, hb, hY⟩ => by rw [hB5, q8] at he; rw [hB5, ma_nil q8] at hO; exact ⟨_, _, he, ⟨q_, n_, c_, Y_, rfl, rfl, hO⟩, hw.join hb hY 0⟩) ?_
    rintro v9 L9 ⟨q9, n9, c9, Y9, rfl, rfl, hO9⟩
    have hl9 := hO9.len
    rw [List.length_nil] at hl9
    refine qo0 5 [] [3] [(4, .slice q9 n9 c9), (5, .bool false)] (on_ (ds_ (sq_ (sq_ (qa0 [] [3, 4] [(21, .bool true)] (ds_ (t_ (sq_ (qa [(2, .yes)] [] [(2, .bool true)] ([((n9 : Nat) : Int) = (0 : Int)]) (al1 (by omega)) (ds_ (rt ([]) (.bool true) ?_)))))))))))
    exact fun w' hw => ⟨rfl, hw.below⟩
  ·
    refine cP (fun v L' => ∃ q_ n_ c_ Y_, v = .tuple #[.slice q_ n_ c_, .bool true] ∧ L' = List.take 0 ((Y5 ++ (Yz5 ++ []))) ++ (Y_ ++ List.drop 0 ((Y5 ++ (Yz5 ++ [])))) ∧ SlO 3 Y_ q_ n_ c_ (matchA (fewV (al.map IntsA.l))).1) Try.call10 (fun w hw => (match_t q5 n5 c5 bl5 w (SlO.sub hO5 hw (List.sublist_append_left Y5 _)) hl5 (by omega) (GotR.reads hG5 hw (List.Sublist.trans (List.sublist_append_left Yz5 _) (List.sublist_append_right Y5 _))) hf5.2.2).mono fun e w' ⟨q_, n_, c_, Y_, he, hO, hb, hY⟩ => by rw [hB5, q8] at he; rw [hB5] at hO; exact ⟨_, _, he, ⟨q_, n_, c_, Y_, rfl, rfl, hO⟩, hw.join hb hY 0⟩) ?_
    rintro v13 L13 ⟨q13, n13, c13, Y13, rfl, rfl, hO13⟩
    have hl13 := hO13.len
    have hs := ma_sdr q8
    have hsl := hs.2.len
    have hbl : bl5.length = (fewV (al.map IntsA.l)).length := by rw [← hB5, List.length_map]
    refine qo0 5 [] [3] [(4, .slice q13 n13 c13), (5, .bool true)] (on_ (ds_ (sq_ (sq_ (qa0 [] [3, 4] [(21, .bool false)] (ds_ (f_ (at_skip (ds_ (sq_ (ma0 [] [3, 4] (fun γ16 => [(6, .map (some (γ16 0)))]) (fun γ16 L => (γ16 0, .map #[] 0) :: L) (fun γ16 => ds_ (sq_ (sq_ (qa0 [] [3, 4, 6] [(26, .slice q13 n13 c13), (27, .int .i64 (n13 : Nat)), (28, .int .i64 0)] (ds_ (at_block (At.pick [[(γ16 0, .map #[] 0)], Y13, Y5, Yz5] [0, 1, 2, 3] [] ((γ16 0, .map #[] 0) :: (Y13 ++ (Y5 ++ (Yz5 ++ [])))) (by kernel_rfl) rfl rfl (at_loop (α := Nat × Array MapEntry × Nat) [3, 4, 6, 26, 27, 28] (fun ⟨j, eD, kD⟩ => [(3, .slice q5 n5 c5), (4, .slice q13 n13 c13), (6, .map (some (γ16 0))), (26, .slice q13 n13 c13), (27, .int .i64 (n13 : Nat)), (28, .int .i64 (j : Nat))]) (fun ⟨j, eD, kD⟩ => (γ16 0, .map eD kD) :: (Y13 ++ (Y5 ++ (Yz5 ++ [])))) (fun ⟨j, eD, kD⟩ => j ≤ n13 ∧ MapIs .i64 Value.bool eD (metM ((matchA (fewV (al.map IntsA.l))).1.take j))) (fun ⟨j, eD, kD⟩ => n13 - j) (0, #[], 0) (by kernel_rfl) rfl ⟨Nat.zero_le _, MapIs.nil⟩ ?_)))))))))))))))))))
    rintro ⟨j, eD, kD⟩
    rintro ⟨hj, hmD⟩
    refine sq_ ?_
    by_cases q19 : ((j : Nat) : Int) < ((n13 : Nat) : Int)
    ·
      refine qa [(0, .yes)] [3, 4, 6, 26, 27, 28] [(29, .bool true)] ([((j : Nat) : Int) < ((n13 : Nat) : Int)]) (al1 q19) (ds_ (sq_ (t_ (at_skip (ds_ (sq_ (at_block (sq_ ?_))))))))
      have hln22 := hO13.len
      obtain ⟨g22, cs22, rfl, rfl, hOw22⟩ := hO13.rowOf (i := j) (by omega)
      obtain ⟨x24, hx24⟩ := get_some (l := (matchA (fewV (al.map IntsA.l))).1) (m := j) (by omega)
      refine qa [(1, .at g22 0 j), (2, .go (ownps 1 (0 + j * 1) [.int .i64 x24]))] [3, 4, 6, 26, 27, 28] [(7, .int .i64 (j : Nat)), (8, .int .i64 x24)] ([(some ⟨g22, 0, none⟩ : Option Addr) = some ⟨g22, 0, none⟩, (j : Nat) = ((j : Nat) : Int), j < n13] ++ (acellsP cs22 (0 + j * 1) [.int .i64 x24])) (alA (al2 rfl (al2 rfl (al1 (by omega)))) (rda_pre (hOw22.rdx hO13.len hx24) _ rfl)) (ds_ (sq_ (sq_ (ao_ (qo0 2 [] [3, 4, 6, 7, 8, 26, 27, 28] [(33, .map (some (γ16 0))), (34, .int .i64 x24)] (ops_lookup (ik := .i64) (enc := Value.bool) (kk := x24) 0 (Value.bool false) (.bool ((mget (metM ((matchA (fewV (al.map IntsA.l))).1.take j)) x24).getD false)) rfl (by kernel_rfl) (by kernel_rfl) (by kernel_rfl) (by kernel_rfl) (⟨3, 4, by kernel_rfl, by kernel_rfl, by kernel_rfl⟩ : mapB Try.prog 33 .i64 (Value.bool false)) rfl hmD (map_getD _ _ _) ?_))))))
      rcases q28 : (mget (metM ((matchA (fewV (al.map IntsA.l))).1.take j)) x24).getD false with _ | _
      ·
        have hln30 := hO5.len
        obtain ⟨g30, cs30, rfl, rfl, hOw30⟩ := hO5.rowOf (i := j) (by omega)
        obtain ⟨x32, hx32⟩ := get_some (l := bl5) (m := j) (by omega)
        refine qo 6 [(6, .at g30 0 j), (7, .go (ownps 2 (0 + j * 1) [.slice x32.p x32.n x32.cap]))] [3, 4, 6, 8, 26, 27, 28] [(36, .bool false), (40, .slice x32.p x32.n x32.cap), (41, .int .i64 x24)] ([(some ⟨g30, 0, none⟩ : Option Addr) = some ⟨g30, 0, none⟩, (j : Nat) = ((j : Nat) : Int), j < n5] ++ (acellsP cs30 (0 + j * 1) [.slice x32.p x32.n x32.cap])) (alA (al2 rfl (al2 rfl (al1 (by omega)))) (rda_pre (hOw30.rdx hO5.len hx32) _ rfl)) (cD (.bool true) Try.call15 (fun w hw => by have := contains_t x32.p x32.n x32.cap x32.l x24 w (GotR.reads hG5 hw (List.Sublist.cons _ (List.Sublist.cons _ (List.Sublist.cons _ (List.sublist_append_left Yz5 _)))) x32 (List.mem_of_getElem? hx32)).sv (GotR.reads hG5 hw (List.Sublist.cons _ (List.Sublist.cons _ (List.Sublist.cons _ (List.sublist_append_left Yz5 _)))) x32 (List.mem_of_getElem? hx32)).hn (hf5.2.2 x32 (List.mem_of_getElem? hx32)); rw [decide_eq_true (sdr_at hs.2 hx24 (row_at hB5 hx32))] at this; exact this) (qo0 2 [] [3, 4, 6, 8, 26, 27, 28] [(44, .bool false)] (on_ (ds_ (f_ (at_skip (ds_ (ao_ (qo0 2 [] [3, 4, 6, 26, 27, 28] [(45, .map (some (γ16 0))), (46, .int .i64 x24)] (ops_update (ik := .i64) (enc := Value.bool) (kk := x24) 0 true (Value.bool false) rfl (by kernel_rfl) (by kernel_rfl) (by kernel_rfl) (by kernel_rfl) (by kernel_rfl) (⟨3, 4, by kernel_rfl, by kernel_rfl, by kernel_rfl⟩ : mapB Try.prog 33 .i64 (Value.bool false)) rfl hmD (fun es36 ck36 hM36 => on_ (done_block (ds_ (qa [(0, .fit)] [3, 4, 6, 26, 27] [(28, .int .i64 (j + 1 : Nat))] ([Fit .i64 ((j + 1 : Nat))]) (al1 (fit64 (by omega) (by omega))) ?_))))))))))))))
        exact dr [3, 4, 6, 26, 27, 28] (j + 1, es36, ck36) ⟨by omega, by rw [take_one hx24, met_on]; exact hM36⟩
      ·
        refine qo0 9 [] [3, 4, 6, 8, 26, 27, 28] [(44, .bool true)] (on_ (ds_ (t_ (sq_ (qa0 [] [] [(2, .bool false)] (ds_ (rt ([]) (.bool false) ?_)))))))
        exact absurd (q28.symm.trans (met_get.trans (sdr_new hs.2 hx24))) (by decide)
    ·
      refine qa [(0, .no)] [3, 4, 6, 26, 27, 28] [(29, .bool false)] ([¬ (((j : Nat) : Int) < ((n13 : Nat) : Int))]) (al1 q19) (ds_ (sq_ (f_ (at_leave _ rfl (ds_ (sq_ (sq_ ?_)))))))
      by_cases q43 : ((n13 : Nat) : Int) ≠ ((n5 : Nat) : Int)
      ·
        refine qa [(4, .yes)] [3, 6] [(52, .bool true)] ([((n13 : Nat) : Int) ≠ ((n5 : Nat) : Int)]) (al1 q43) (ds_ (t_ (sq_ (qa0 [] [] [(2, .bool false)] (ds_ (rt ([]) (.bool false) ?_))))))
        exact False.elim (by omega)
      ·
        refine qa [(4, .no)] [3, 6] [(52, .bool false)] ([¬ (((n13 : Nat) : Int) ≠ ((n5 : Nat) : Int))]) (al1 q43) (ds_ (f_ (at_skip (ds_ (sq_ (sq_ (qa0 [] [3, 6] [(54, .int .i64 (n5 : Nat)), (55, .int .i64 0)] (ds_ (at_block ?_)))))))))
        clear hj
        refine At.pick [[(γ16 0, .map eD kD)], Y13, Y5, Yz5] [0, 2, 3] [1] ((γ16 0, .map eD kD) :: (Y5 ++ (Yz5 ++ []))) (by kernel_rfl) rfl rfl (at_loop (α := Nat × List IntsA × List Ob × Option Addr × Nat × List Ob) [3, 6, 54, 55] (fun ⟨i, bl, Yg, pg, cg, Yi⟩ => [(3, .slice pg n5 cg), (6, .map (some (γ16 0))), (54, .int .i64 (n5 : Nat)), (55, .int .i64 (i : Nat))]) (fun ⟨i, bl, Yg, pg, cg, Yi⟩ => (γ16 0, .map eD kD) :: (Yg ++ (Yi ++ []))) (fun ⟨i, bl, Yg, pg, cg, Yi⟩ => i ≤ n5 ∧ SlO 25 Yg pg n5 cg bl ∧ GotR 3 Yi bl ∧ OwnI (fewV (al.map IntsA.l)) (bl.map IntsA.l) ∧ ∀ x ∈ bl, x.n ≤ 9 + i) (fun ⟨i, bl, Yg, pg, cg, Yi⟩ => n5 - i) (0, bl5, Y5, q5, c5, Yz5) (by kernel_rfl) rfl ⟨Nat.zero_le _, hO5, hG5, by rw [hB5]; exact OwnI.start hs.1, fun x hx => Nat.le_trans (few_nine hG5 hB5 x hx) (by omega)⟩ ?_)
        rintro ⟨i, bl, Yg, pg, cg, Yi⟩
        rintro ⟨hi, hO, hG, hI, hS⟩
        have hlb := hO.len
        refine sq_ ?_
        by_cases q49 : ((i : Nat) : Int) < ((n5 : Nat) : Int)
        ·
          refine qa [(0, .yes)] [3, 6, 54, 55] [(56, .bool true)] ([((i : Nat) : Int) < ((n5 : Nat) : Int)]) (al1 q49) (ds_ (sq_ (t_ (at_skip (ds_ (sq_ (at_block (sq_ (qa0 [] [3, 6, 54, 55] [(9, .int .i64 (i : Nat))] (ds_ (sq_ (qa0 [] [3, 6, 9, 54, 55] [(58, .int .i64 0)] (ds_ (at_block (at_loop (α := Nat) [3, 6, 9, 54, 55, 58] (fun k => [(3, .slice pg n5 cg), (6, .map (some (γ16 0))), (9, .int .i64 (i : Nat)), (54, .int .i64 (n5 : Nat)), (55, .int .i64 (i : Nat)), (58, .int .i64 (k : Nat))]) (fun k => (γ16 0, .map eD kD) :: (Yg ++ (Yi ++ []))) (fun k => k ≤ 8) (fun k => 8 - k) 0 (by kernel_rfl) rfl (Nat.zero_le _) ?_)))))))))))))))
          rintro k
          intro hk
          refine sq_ ?_
          by_cases q54 : ((k : Nat) : Int) < (8 : Int)
          ·
            refine qa [(0, .yes)] [3, 6, 9, 54, 55, 58] [(59, .bool true)] ([((k : Nat) : Int) < (8 : Int)]) (al1 q54) (ds_ (sq_ (t_ (at_skip (ds_ (sq_ (at_block (sq_ (qa0 [] [3, 6, 9, 54, 55, 58] [(10, .int .i64 (k : Nat))] (ds_ (sq_ ?_)))))))))))
            have hln58 := hO.len
            obtain ⟨g58, cs58, rfl, rfl, hOw58⟩ := hO.rowOf (i := i) (by omega)
            obtain ⟨x60, hx60⟩ := get_some (l := bl) (m := i) (by omega)
            refine ao_ (qo 5 [(2, .at g58 0 i), (3, .go (ownps 1 (0 + i * 1) [.slice x60.p x60.n x60.cap]))] [3, 6, 9, 10, 54, 55, 58] [(64, .slice x60.p x60.n x60.cap), (65, .int .i64 (k : Nat))] ([(some ⟨g58, 0, none⟩ : Option Addr) = some ⟨g58, 0, none⟩, (i : Nat) = ((i : Nat) : Int), i < n5] ++ (acellsP cs58 (0 + i * 1) [.slice x60.p x60.n x60.cap])) (alA (al2 rfl (al2 rfl (al1 (by omega)))) (rda_pre (hOw58.rdx hO.len hx60) _ rfl)) ?_)
            rcases q62 : decide (((k : Nat) : Int) ∈ x60.l) with _ | _
            ·
              refine cD (.bool false) Try.call15 (fun w hw => by have := contains_t x60.p x60.n x60.cap x60.l ((k : Nat) : Int) w (GotR.reads hG hw (List.Sublist.cons _ (List.Sublist.cons _ (List.sublist_append_left Yi _))) x60 (List.mem_of_getElem? hx60)).sv (GotR.reads hG hw (List.Sublist.cons _ (List.Sublist.cons _ (List.sublist_append_left Yi _))) x60 (List.mem_of_getElem? hx60)).hn (by have := hS x60 (List.mem_of_getElem? hx60); omega); rw [q62] at this; exact this) (qo0 4 [] [3, 6, 9, 10, 54, 55, 58] [(68, .bool true), (69, .map (some (γ16 0))), (70, .int .i64 (k : Nat))] (ops_lookup (ik := .i64) (enc := Value.bool) (kk := (k : Nat)) 0 (Value.bool false) (.bool ((mget (metM ((matchA (fewV (al.map IntsA.l))).1.take j)) (k : Nat)).getD false)) rfl (by kernel_rfl) (by kernel_rfl) (by kernel_rfl) (by kernel_rfl) (⟨3, 4, by kernel_rfl, by kernel_rfl, by kernel_rfl⟩ : mapB Try.prog 33 .i64 (Value.bool false)) rfl hmD (map_getD _ _ _) ?_))
              rcases q65 : (mget (metM ((matchA (fewV (al.map IntsA.l))).1.take j)) (k : Nat)).getD false with _ | _
              ·
                refine qo0 2 [] [3, 6, 9, 10, 54, 55, 58] [(73, .bool true)] (on_ (ds_ (t_ (sq_ ?_))))
                obtain ⟨Ya5, Yx5, Yb5, rfl, hOx5, hcut5⟩ := hG.cut hx60
                refine At.as (L' := (γ16 0, .map eD kD) :: bx g58 cs58 25 :: (Ya5 ++ (Yx5 ++ (Yb5 ++ [])))) (by simp only [List.append_assoc, List.cons_append, List.nil_append]) ?_
                have hS9 := hS x60 (List.mem_of_getElem? hx60)
                refine ao_ (mo 8 [(4, .at g58 0 i), (5, .go (ownps 1 (0 + i * 1) [.slice x60.p x60.n x60.cap]))] [3, 6, 54, 55] (fun γ67 => [(74, .slice (some ⟨g58, 0, none⟩) n5 cg), (75, .int .i64 (i : Nat)), (79, .slice x60.p x60.n x60.cap), (81, .slice (some ⟨γ67 0, 0, none⟩) 1 1)]) (fun γ67 L => bx (γ67 0) (#[.int .i64 (k : Nat)]) 3 :: L) (fun γ67 => [(some ⟨g58, 0, none⟩ : Option Addr) = some ⟨g58, 0, none⟩, (i : Nat) = ((i : Nat) : Int), i < n5] ++ (acellsP cs58 (0 + i * 1) [.slice x60.p x60.n x60.cap])) (fun γ67 => (alA (al2 rfl (al2 rfl (al1 (by omega)))) (rda_pre (hOw58.rdx hO.len hx60) _ rfl))) (fun γ67 => Ops.pick [[bx (γ67 0) (#[.int .i64 (k : Nat)]) 3], [(γ16 0, .map eD kD)], [bx g58 cs58 25], Ya5, Yx5, Yb5] [0, 1, 2, 4, 3, 5] [] (bx (γ67 0) (#[.int .i64 (k : Nat)]) 3 :: (γ16 0, .map eD kD) :: bx g58 cs58 25 :: (Yx5 ++ (Ya5 ++ (Yb5 ++ [])))) (by kernel_rfl) rfl rfl (ops_append (α := Int) [bx (γ67 0) (#[.int .i64 (k : Nat)]) 3, (γ16 0, .map eD kD), bx g58 cs58 25] Yx5 (Ya5 ++ (Yb5 ++ [])) (.refl _) rfl (by kernel_rfl) (by kernel_rfl) (p := x60.p) (n := x60.n) (cap := x60.cap) (m := 1) (yv := .slice (some ⟨γ67 0, 0, none⟩) 1 1) (by kernel_rfl) (by kernel_rfl) (T := 3) (by_ := 8) (by kernel_rfl) x60.l ([((k : Nat) : Int)]) hOx5 (fun w hw => src_svn Try.underlying25 (sv_row (hw.row 0 rfl) (by rfl)) (by rfl)) (by rfl) (by have hmx : maxLen = 9223372036854775807 := rfl; omega) (by have hmx : maxLen = 9223372036854775807 := rfl; omega) (fun Y68 p68 cap68 hO68 => mo 2 [(9, .at g58 0 i), (10, .go (ownps 2 (0 + i * 1) [undef]))] [3, 6, 54, 55] (fun _ => []) (fun _ L => (L.set 2 (bx g58 ((cs58).setIfInBounds (0 + i * 1) (.slice p68 (x60.n + 1) cap68)) 25))) (fun _ => [(some ⟨g58, 0, none⟩ : Option Addr) = some ⟨g58, 0, none⟩, (i : Nat) = ((i : Nat) : Int), i < n5] ++ ([0 + i * 1 < (cs58).size])) (fun _ => (alA (al2 rfl (al2 rfl (al1 (by omega)))) (al1 (hOw58.room hO.len hx60 (f := 0) (by decide))))) (fun _ => on_ (ds_ (at_leave _ rfl (done_block (ds_ (qa [(0, .fit)] [3, 6, 54] [(55, .int .i64 (i + 1 : Nat))] ([Fit .i64 ((i + 1 : Nat))]) (al1 (fit64 (by omega) (by omega))) (Done.pick [[bx (γ67 0) (#[.int .i64 (k : Nat)]) 3], [(γ16 0, .map eD kD)], [bx g58 ((cs58).setIfInBounds (0 + i * 1) (.slice p68 (x60.n + 1) cap68)) 25], Y68, Ya5, Yb5] [1, 2, 4, 3, 5] [0] ((γ16 0, .map eD kD) :: ([bx g58 ((cs58).setIfInBounds (0 + i * 1) (.slice p68 (x60.n + 1) cap68)) 25] ++ (Ya5 ++ (Y68 ++ (Yb5 ++ []))))) (by kernel_rfl) rfl rfl (Done.as (L' := (γ16 0, .map eD kD) :: ([bx g58 ((cs58).setIfInBounds (0 + i * 1) (.slice p68 (x60.n + 1) cap68)) 25] ++ ((Ya5 ++ (Y68 ++ Yb5)) ++ []))) (by simp only [List.append_assoc]) ?_))))))))))))
                exact dr [3, 6, 54, 55] (i + 1, (bl.set i (⟨p68, (x60.n + 1), cap68, (x60.l ++ [((k : Nat) : Int)])⟩ : IntsA)), ([bx g58 ((cs58).setIfInBounds (0 + i * 1) (.slice p68 (x60.n + 1) cap68)) 25]), (some ⟨g58, 0, none⟩), cg, Ya5 ++ (Y68 ++ Yb5)) ⟨by omega, (SlO.ofOwn (hOw58.put (x' := (⟨p68, (x60.n + 1), cap68, (x60.l ++ [((k : Nat) : Int)])⟩ : IntsA)) hO.len hx60 (f := 0) (by decide) rfl) (len_set hO.len)), hcut5 _ (⟨p68, (x60.n + 1), cap68, (x60.l ++ [((k : Nat) : Int)])⟩ : IntsA) hO68, by rw [List.map_set]; exact hI.more (row_at rfl hx60) q62 (by omega) (by omega), own_bound hS (show x60.n + 1 ≤ 9 + (i + 1) by have := hS x60 (List.mem_of_getElem? hx60); omega)⟩
              ·
                refine qo0 2 [] [3, 6, 9, 10, 54, 55, 58] [(73, .bool false)] (on_ (ds_ (f_ (at_skip (done_block (ds_ (qa [(0, .fit)] [3, 6, 9, 54, 55] [(58, .int .i64 (k + 1 : Nat))] ([Fit .i64 ((k + 1 : Nat))]) (al1 (fit64 (by omega) (by omega))) ?_)))))))
                exact done_round [3, 6, 9, 54, 55, 58] (k + 1) (by kernel_rfl) rfl (by omega) (by first | omega | (simp only; omega))
            ·
              refine cD (.bool true) Try.call15 (fun w hw => by have := contains_t x60.p x60.n x60.cap x60.l ((k : Nat) : Int) w (GotR.reads hG hw (List.Sublist.cons _ (List.Sublist.cons _ (List.sublist_append_left Yi _))) x60 (List.mem_of_getElem? hx60)).sv (GotR.reads hG hw (List.Sublist.cons _ (List.Sublist.cons _ (List.sublist_append_left Yi _))) x60 (List.mem_of_getElem? hx60)).hn (by have := hS x60 (List.mem_of_getElem? hx60); omega); rw [q62] at this; exact this) (qo0 7 [] [3, 6, 9, 10, 54, 55, 58] [(73, .bool false)] (on_ (ds_ (f_ (at_skip (done_block (ds_ (qa [(0, .fit)] [3, 6, 9, 54, 55] [(58, .int .i64 (k + 1 : Nat))] ([Fit .i64 ((k + 1 : Nat))]) (al1 (fit64 (by omega) (by omega))) ?_))))))))
              exact done_round [3, 6, 9, 54, 55, 58] (k + 1) (by kernel_rfl) rfl (by omega) (by first | omega | (simp only; omega))
          ·
            refine qa [(0, .no)] [3, 6, 9, 54, 55, 58] [(59, .bool false)] ([¬ (((k : Nat) : Int) < (8 : Int))]) (al1 q54) (ds_ (sq_ (f_ (at_leave _ rfl (done_block (ds_ (qa [(0, .fit)] [3, 6, 54] [(55, .int .i64 (i + 1 : Nat))] ([Fit .i64 ((i + 1 : Nat))]) (al1 (fit64 (by omega) (by omega))) ?_)))))))
            exact dr [3, 6, 54, 55] (i + 1, bl, Yg, pg, cg, Yi) ⟨by omega, hO, hG, hI, fun x hx => Nat.le_trans (hS x hx) (by omega)⟩
        ·
          refine qa [(0, .no)] [3, 6, 54, 55] [(56, .bool false)] ([¬ (((i : Nat) : Int) < ((n5 : Nat) : Int))]) (al1 q49) (ds_ (sq_ (f_ (at_leave _ rfl (ds_ (sq_ (ao_ (qo0 1 [] [] [(87, .slice pg n5 cg)] (cP (fun v L' => ∃ q_ n_ c_ Y_, v = .tuple #[.slice q_ n_ c_, .bool true] ∧ L' = List.take 1 ((γ16 0, .map eD kD) :: (Yg ++ (Yi ++ []))) ++ (Y_ ++ List.drop 1 ((γ16 0, .map eD kD) :: (Yg ++ (Yi ++ [])))) ∧ SlO 3 Y_ q_ n_ c_ (matchA (bl.map IntsA.l)).1) Try.call10 (fun w hw => (match_t pg n5 cg bl w (SlO.sub hO hw (List.Sublist.cons _ (List.sublist_append_left Yg _))) hlb (by omega) (GotR.reads hG hw (List.Sublist.cons _ (List.Sublist.trans (List.sublist_append_left Yi _) (List.sublist_append_right Yg _)))) (fun x hx => by have := hS x hx; omega)).mono fun e w' ⟨q_, n_, c_, Y_, he, hO, hb, hY⟩ => by rw [OwnI.yes hI hs.2] at he; exact ⟨_, _, he, ⟨q_, n_, c_, Y_, rfl, rfl, hO⟩, hw.join hb hY 1⟩) ?_)))))))))
          rintro v79 L79 ⟨q79, n79, c79, Y79, rfl, rfl, hO79⟩
          have hl79 := hO79.len
          refine qo0 4 [] [] [(5, .bool true)] (on_ (ds_ (sq_ (qa0 [] [] [(2, .bool true)] (ds_ (rt ([]) (.bool true) ?_))))))
          exact fun w' hw => ⟨rfl, hw.below⟩
end Go.Proofs.Ytahccegfahghfaa

/-! The walker: what a row's inputs are: slices and structs, opened into lists. -/
namespace Go.Proofs.Ytahccegfahghfaa
open Go Go.RowKit

section
variable {H : Type} {enc : TypeId × Value → H} {P : Program} {w : World} {base : Nat} {spare : Nat → Bool} {held : Bool}
theorem spot_none {a : Addr} (h : a.spot = none) : a = ⟨a.block, a.off, none⟩ := by
  cases a
  simp at h
  simp [h]
theorem trod_sv {α : Type} [Enc α] {t e : TypeId} {fuel : Nat} {cs : List Value} {x : DataW H × List MemPlace} {Good : α → Prop} (ht : P.underlying t = some (.slice e)) (hc : P.cellsOf e = Enc.k α)
    (hopen : ∀ (fuel : Nat) (cs : List Value) (x : DataW H × List MemPlace), DataW.trod enc P w base spare held fuel e cs = some x → ∃ a : α, cs = Enc.enc a ∧ Good a) (h : DataW.trod enc P w base spare held fuel t cs = some x) :
    ∃ (p : Option Addr) (n cap : Nat) (l : List α), cs = [.slice p n cap] ∧ Sv w p l ∧ n = l.length ∧ n ≤ cap ∧ cap ≤ maxLen ∧ ∀ y ∈ l, Good y := by
  rcases Deep.open_slice ht h with ⟨hcs, _⟩ | ⟨a, len, cap, m, n', D, Pl, hcs, _, hle, hmx, hm, _, hi⟩
  · exact ⟨none, 0, 0, [], hcs, Sv.nil, rfl, Nat.le_refl _, Nat.zero_le _, fun y hy => by cases hy⟩
  · have key : ∀ i, i < len → ∃ y : α, w.cells? base (a.add (i * Enc.k α)) (Enc.k α) = some (Enc.enc y) ∧ Good y := fun i hin => by
      have him : i < m := by rw [hm]; split <;> omega
      obtain ⟨cs', h1, h2⟩ := hi i him
      obtain ⟨y, rfl, hy⟩ := hopen _ _ _ h2
      rw [hc] at h1
      exact ⟨y, h1, hy⟩
    rcases Nat.eq_zero_or_pos len with h0 | h0
    · subst h0
      exact ⟨some a, 0, cap, [], hcs, Sv.nil, rfl, hle, hmx, fun y hy => by cases hy⟩
    · obtain ⟨y0, hy0, _⟩ := key 0 h0
      haveI : Inhabited α := ⟨y0⟩
      obtain ⟨f, hf⟩ := Deep.choose_lt key
      obtain ⟨_, _, hcell⟩ := World.cells?_some hy0
      have h00 := hcell 0 Enc.pos
      have hlen0 : 0 < (Enc.enc y0).length := by rw [Enc.len]; exact Enc.pos
      rw [List.getElem?_eq_getElem hlen0, Nat.zero_mul, show (a.add 0).add 0 = a by simp [Addr.add]] at h00
      have hsp := spot_none (World.cell?_spot h00)
      refine ⟨some a, len, cap, (List.range len).map f, hcs, ⟨fun _ => ⟨a.block, a.off, by rw [← hsp]⟩, fun b o hbo i hil => ?_⟩, by simp, hle, hmx, fun y hy => ?_⟩
      · have hil' : i < len := by simpa using hil
        obtain ⟨_, _, hc2⟩ := World.cells?_some (hf i hil').1
        have ha : a = ⟨b, o, none⟩ := by simpa using hbo
        subst ha
        intro j v hj
        have hjk : j < Enc.k α := by rw [← Enc.len (f i)]; have := (List.getElem?_eq_some_iff.1 hj).1; simpa using this
        have h3 := hc2 j hjk
        rw [Deep.add_add] at h3
        have h4 : (Enc.enc (f i))[j]? = some v := by simpa using hj
        rw [h4] at h3
        have h5 : (⟨b, o, none⟩ : Addr).add (i * Enc.k α + j) = ⟨b, o + i * Enc.k α + j, none⟩ := by
          unfold Addr.add; split <;> simp_all <;> omega
        rw [h5] at h3
        exact h3
      · obtain ⟨i, hir, rfl⟩ := List.mem_map.1 hy
        exact (hf i (List.mem_range.1 hir)).2
theorem trod_int1 {t : TypeId} {fuel : Nat} {cs : List Value} {x : DataW H × List MemPlace} (ht : P.underlying t = some (.int .i64)) (h : DataW.trod enc P w base spare held fuel t cs = some x) : ∃ a : Int, cs = Enc.enc a ∧ True := by
  obtain ⟨a, rfl, _, _⟩ := DataW.trod_int ht h
  exact ⟨a, rfl, trivial⟩
end
end Go.Proofs.Ytahccegfahghfaa

/-! Chapter 14: rows of rows, opened. -/
namespace Go.Proofs.Ytahccegfahghfaa
open Go Go.RowKit Go.ChangeShapes Go.WideShapes

section
variable {H : Type} {enc : TypeId × Value → H} {w : World} {base : Nat} {spare : Nat → Bool} {held : Bool}
theorem cIntT : Try.prog.cellsOf 3 = 1 := by kernel_rfl
theorem cIntsT : Try.prog.cellsOf 25 = 1 := by kernel_rfl
set_option maxRecDepth 100000 in
theorem intsA_open {fuel : Nat} {cs : List Value} {x : DataW H × List MemPlace} (h : DataW.trod enc Try.prog w base spare held fuel 25 cs = some x) : ∃ a : IntsA, cs = Enc.enc a ∧ a.Reads w := by
  obtain ⟨p, m, cap, l, he, hs, hn, hle, hmx, _⟩ := trod_sv (α := Int) (Good := fun _ => True) Try.underlying25 cIntT (fun _ _ _ h => trod_int1 Try.underlying3 h) h
  exact ⟨⟨p, m, cap, l⟩, he, ⟨hs, hn, hle, hmx⟩⟩
set_option maxRecDepth 100000 in
theorem rows2_open {v : Value} {d : DataW H} {pl : List MemPlace} (hv : Value.okWide Try.prog w .any base 24 v) (h : DataW.Trod enc Try.prog w 0 spare held 24 v d pl) :
    ∃ (q : Option Addr) (m cap : Nat) (l : List IntsA), v = .slice q m cap ∧ Sv w q l ∧ m = l.length ∧ m ≤ cap ∧ cap ≤ 9223372036854775807 ∧ ∀ x ∈ l, x.Reads w := by
  obtain ⟨a, n, c, rfl⟩ := okWide_slice Try.underlying24 hv
  obtain ⟨fuel, hf⟩ := h
  obtain ⟨p, m, cap, l, he, hs, hn, hle, hmx, hg⟩ := trod_sv (α := IntsA) Try.underlying24 cIntsT (fun _ _ _ h => intsA_open h) hf
  have : a = p ∧ n = m ∧ c = cap := by simpa [Value.cells] using he
  obtain ⟨rfl, rfl, rfl⟩ := this
  exact ⟨a, n, c, l, rfl, hs, hn, hle, hmx, hg⟩
end
end Go.Proofs.Ytahccegfahghfaa
