/- Texts of this proof, one behind the other. -/
import Derived.Test.YtahccegfahghfaaZb
import Derived.Test.YtahccegfahghfaaZa
/-! Gangs: what Form does to a copy. -/
namespace Go.Proofs.Ytahccegfahghfaa
open Go Go.RowKit
theorem form_perm {w0 w : World} {a b c : Ob} {Y Yi Yc Yq YR : List Ob} (hp : (Yi ++ Yc).Perm Yq) (h : Hs w0 (a :: b :: c :: (Y ++ (Yi ++ (Yc ++ YR)))) w) : Hs w0 (a :: b :: c :: (Y ++ (Yq ++ YR))) w := by
 refine h.perm (.cons _ (.cons _ (.cons _ (List.Perm.append_left _ ?_))))
 rw [← List.append_assoc]
 exact hp.append_right _

set_option maxRecDepth 100000 in
theorem form1_t (w0 : World) (Y Yi YR : List Ob) (gb gm gi : Nat) (q : Option Addr) (m capq : Nat) (bl : List GngA) (p : Option Addr) (n cap : Nat) (l : List Int) (w : World)
 (hsl : Sv w0 p l) (hn : n = l.length) (hb : n ≤ 1000) (hbm : m ≤ 1000) (hO : SlO 46 Y q m capq bl) (hG : GotG 3 Yi bl) (hgd : gangB (bl.map GngA.val) = true) (hH : Hs w0 (bx gb #[.slice q m capq] 38 :: bx gm #[.slice p n cap] 25 :: bx gi #[.int .i64 0] 3 :: (Y ++ (Yi ++ YR))) w)
 : Calls Try.prog 51 #[.pointer (some ⟨gb, 0, none⟩), .pointer (some ⟨gm, 0, none⟩), .pointer (some ⟨gi, 0, none⟩)] w fun e w' => ∃ er q2 n2 c2 Y2 Yi2 bl2 idn, e = .returned (.int .i64 er) ∧ (bl2.map GngA.val, idn, er) = formC (bl.map GngA.val) l ∧ SlO 46 Y2 q2 n2 c2 bl2 ∧ GotG 3 Yi2 bl2 ∧ Hs w0 (bx gb #[.slice q2 n2 c2] 38 :: bx gm #[.slice p n cap] 25 :: bx gi #[.int .i64 idn] 3 :: (Y2 ++ (Yi2 ++ YR))) w' := by
 have hma := hO.len
 have hm9 := got_small hG hgd
 rw [show YR = YR ++ [] from (List.append_nil _).symm] at hH
 refine enter hH Try.func51 rfl Try.ntmps51 rfl (sq_ (ma0 [] [1, 2] (fun γ1 => [(3, .pointer (some ⟨γ1 0, 0, none⟩))]) (fun γ1 L => bx (γ1 0) (#[.pointer (some ⟨gb, 0, none⟩)]) 72 :: L) (fun γ1 => ds_ (sq_ (sq_ (ao_ (qo0 1 [(0, .go (owns 2 0 1))] [1, 2, 3] [(6, .slice p n cap)] ?_)))))))
 rcases q3 : mayB l with _ | _
 ·
  refine cD (.bool false) Try.call41 (fun w hw => by have := may_t p n cap l w (hsl.kept hw.below) hn (by omega); rw [q3] at this; exact this) (qo0 1 [] [1, 2, 3] [(8, .bool true)] (on_ (ds_ (t_ (sq_ (qa0 [] [] [(4, .int .i64 2)] (ds_ (rt ([]) (.int .i64 2) ?_))))))))
  exact fun w' hw => ⟨_, _, _, _, _, _, bl, 0, rfl, (fc_arg q3).symm, hO, hG, (by have := Hs.pick [[bx (γ1 0) (#[.pointer (some ⟨gb, 0, none⟩)]) 72], [bx gb (#[.slice q m capq]) 38], [bx gm (#[.slice p n cap]) 25], [bx gi (#[.int .i64 0]) 3], Y, Yi, YR] [1, 2, 3, 4, 5, 6] [0] (by kernel_rfl) hw; simpa [chunk] using this)⟩
 ·
  refine cD (.bool true) Try.call41 (fun w hw => by have := may_t p n cap l w (hsl.kept hw.below) hn (by omega); rw [q3] at this; exact this) (qo0 1 [] [1, 2, 3] [(8, .bool false)] (on_ (ds_ (f_ (at_skip (ds_ (sq_ (sq_ (ao_ (qo0 2 [(0, .go (owns 2 0 1))] [1, 2, 3] [(9, .slice p n cap), (10, .func (.func 53) #[] #[.pointer (some ⟨γ1 0, 0, none⟩)])] ?_))))))))))
  rcases q8 : l.any (inG bl) with _ | _
  ·
   refine cD (.bool false) Try.call52 (fun w hw => by have := containsf_t _ (bx (γ1 0) (#[.pointer (some ⟨gb, 0, none⟩)]) 72 :: bx gb (#[.slice q m capq]) 38 :: bx gm (#[.slice p n cap]) 25 :: bx gi (#[.int .i64 0]) 3 :: (Y ++ (Yi ++ (YR ++ [])))) 53 #[.pointer (some ⟨γ1 0, 0, none⟩)] (inG bl) p n cap l w (fun args w => Try.call53 args w) hw (hsl.kept hw.below) hn (by omega) (fun x hx w' hX => form11_t q m capq bl (γ1 0) gb x w' (SlO.sub hO hX (List.Sublist.cons _ (List.Sublist.cons _ (List.Sublist.cons _ (List.Sublist.cons _ (List.sublist_append_left Y _)))))) hma (by omega) (GotG.reads hG hX (List.Sublist.cons _ (List.Sublist.cons _ (List.Sublist.cons _ (List.Sublist.cons _ (List.Sublist.trans (List.sublist_append_left Yi _) (List.sublist_append_right Y _))))))) hm9 (rd_one14 (hX.row 0 rfl)) (rd_one14 (hX.row 1 rfl))); rw [q8] at this; exact this) (on_ (ds_ (f_ (at_skip (ds_ (sq_ (qa0 [] [1, 2, 3] [(5, .int .i64 0)] (ds_ (sq_ (at_block (at_loop (α := Nat) [1, 2, 3, 5] (fun j => [(1, .pointer (some ⟨gm, 0, none⟩)), (2, .pointer (some ⟨gi, 0, none⟩)), (3, .pointer (some ⟨γ1 0, 0, none⟩)), (5, .int .i64 (j : Nat))]) (fun j => bx (γ1 0) (#[.pointer (some ⟨gb, 0, none⟩)]) 72 :: bx gb (#[.slice q m capq]) 38 :: bx gm (#[.slice p n cap]) 25 :: bx gi (#[.int .i64 0]) 3 :: (Y ++ (Yi ++ (YR ++ [])))) (fun j => j ≤ m ∧ gapV j ((bl.map GngA.val).drop j) = gapV 0 (bl.map GngA.val)) (fun j => m - j) 0 (by kernel_rfl) rfl ⟨Nat.zero_le _, rfl⟩ ?_)))))))))))
   rintro j
   rintro ⟨hj, hI⟩
   refine sq_ (sq_ ?_)
   by_cases q12 : ((j : Nat) : Int) < ((m : Nat) : Int)
   ·
    have hln14 := hO.len
    obtain ⟨g14, cs14, rfl, rfl, hOw14⟩ := hO.rowOf (i := j) (by omega)
    refine ao_ (qo 14 [(1, .go (owns 0 0 1)), (4, .go (owns 1 0 1)), (6, .yes), (8, .go (owns 0 0 1)), (11, .go (owns 1 0 1)), (13, .at g14 0 j)] [1, 2, 3, 5] [(19, .bool true), (25, .pointer (some ⟨g14, 0 + j * 2, none⟩))] ([((j : Nat) : Int) < ((m : Nat) : Int)] ++ ([(some ⟨g14, 0, none⟩ : Option Addr) = some ⟨g14, 0, none⟩, (j : Nat) = ((j : Nat) : Int), j < m])) (alA (al1 q12) (al2 rfl (al2 rfl (al1 (by omega))))) ?_)
    obtain ⟨x17, hx17⟩ := get_some (l := bl) (m := j) (by omega)
    by_cases q19 : (x17.id : Int) = ((j + 1 : Nat) : Int)
    ·
     refine qo 6 [(15, .go (ownps 4 (0 + j * 2) [.int .i64 x17.id])), (17, .fit), (18, .yes)] [1, 2, 3, 5] [(31, .bool true)] (acellsP cs14 (0 + j * 2) [.int .i64 x17.id] ++ ([Fit .i64 ((j + 1 : Nat))] ++ ([(x17.id : Int) = ((j + 1 : Nat) : Int)]))) (alA (rda_pre (hOw14.rdx hO.len hx17) _ rfl) (alA (al1 (fit64 (by omega) (by omega))) (al1 q19))) (on_ (ds_ (t_ (at_skip (ds_ (at_block (qa [(1, .fit)] [1, 2, 3] [(5, .int .i64 (j + 1 : Nat))] ([Fit .i64 ((j + 1 : Nat))]) (al1 (fit64 (by omega) (by omega))) (done_block ?_))))))))
     exact dr [1, 2, 3, 5] (j + 1) ⟨by omega, by rw [drop_atG (val_at hx17), gap_on (show x17.id = _ by omega)] at hI; exact hI⟩
    ·
     refine qo 6 [(15, .go (ownps 4 (0 + j * 2) [.int .i64 x17.id])), (17, .fit), (18, .no)] [1, 2, 3, 5] [(31, .bool false)] (acellsP cs14 (0 + j * 2) [.int .i64 x17.id] ++ ([Fit .i64 ((j + 1 : Nat))] ++ ([¬ ((x17.id : Int) = ((j + 1 : Nat) : Int))]))) (alA (rda_pre (hOw14.rdx hO.len hx17) _ rfl) (alA (al1 (fit64 (by omega) (by omega))) (al1 q19))) (on_ (ds_ (f_ (at_leave _ rfl (ds_ (sq_ (sq_ ?_)))))))
     rw [drop_atG (val_at hx17), gap_no (show ¬ x17.id = _ by omega)] at hI
     refine At.pick [[bx (γ1 0) (#[.pointer (some ⟨gb, 0, none⟩)]) 72], [bx gb (#[.slice (some ⟨g14, 0, none⟩) m capq]) 38], [bx gm (#[.slice p n cap]) 25], [bx gi (#[.int .i64 0]) 3], [bx g14 cs14 46], Yi, YR] [0, 1, 2, 3, 4, 5, 6] [] (bx (γ1 0) (#[.pointer (some ⟨gb, 0, none⟩)]) 72 :: bx gb (#[.slice (some ⟨g14, 0, none⟩) m capq]) 38 :: bx gm (#[.slice p n cap]) 25 :: bx gi (#[.int .i64 0]) 3 :: ([bx g14 cs14 46] ++ (Yi ++ (YR ++ [])))) (by kernel_rfl) rfl rfl ?_
     by_cases q24 : ((j : Nat) : Int) = (8 : Int)
     ·
      refine qa [(1, .yes)] [1, 2, 3, 5] [(35, .bool true)] ([((j : Nat) : Int) = (8 : Int)]) (al1 q24) (ds_ (t_ (sq_ (qa0 [] [] [(4, .int .i64 6)] (ds_ (rt ([]) (.int .i64 6) ?_))))))
      exact fun w' hw => ⟨_, _, _, _, _, _, bl, 0, rfl, by rw [inG_val] at q8; exact (fc_full q3 q8 hI (by omega)).symm, hO, hG, (by have := Hs.pick [[bx (γ1 0) (#[.pointer (some ⟨gb, 0, none⟩)]) 72], [bx gb (#[.slice (some ⟨g14, 0, none⟩) m capq]) 38], [bx gm (#[.slice p n cap]) 25], [bx gi (#[.int .i64 0]) 3], [bx g14 cs14 46], Yi, YR] [1, 2, 3, 4, 5, 6] [0] (by kernel_rfl) hw; simpa [chunk] using this)⟩
     ·
      refine qa [(1, .no)] [1, 2, 3, 5] [(35, .bool false)] ([¬ (((j : Nat) : Int) = (8 : Int))]) (al1 q24) (ds_ (f_ (at_skip (ds_ (sq_ (ma [(1, .fit), (2, .go (owns 3 0 1))] [1, 2, 3, 5] (fun _ => []) (fun _ L => (L.set 3 (bx gi (#[.int .i64 (j + 1 : Nat)]) 3))) (fun _ => [Fit .i64 ((j + 1 : Nat))]) (fun _ => (al1 (fit64 (by omega) (by omega)))) (fun _ => ds_ (sq_ ?_))))))))
      refine at_any (by kernel_rfl) ?_
      refine tk (m := 14) [5] [] [1, 2, 3] [(43, .int .i64 (j : Nat))] ([]) #[false, false, false, false, false, true, false, false, false, false, false, false, false, false, false] al0 ?_
      refine any_cutX (V := (List Ob) × (List Ob) × (Nat) × (Nat) × (Option Addr) × (Option Addr) × (Nat → Nat)) (fun ⟨Y192, Y252, cq192, cq252, q192, q252, γ232⟩ => SlO 3 Y192 q192 n cq192 l ∧ SlO 46 Y252 q252 (m + 1) cq252 (bl.take j ++ [(⟨(j + 1 : Nat), q192, n, cq192, l⟩ : GngA)] ++ bl.drop j)) 0 #[true, true, true, true, true, true, true, true, true, true, true, true, true, true, true] (fun ⟨Y192, Y252, cq192, cq252, q192, q252, γ232⟩ => []) (fun ⟨Y192, Y252, cq192, cq252, q192, q252, γ232⟩ => bx (γ1 0) (#[.pointer (some ⟨gb, 0, none⟩)]) 72 :: bx gb (#[.slice q252 (m + 1) cq252]) 38 :: bx gm (#[.slice p n cap]) 25 :: bx gi (#[.int .i64 (j + 1 : Nat)]) 3 :: (Y192 ++ (Y252 ++ (Yi ++ (YR ++ []))))) ?_ (fun hmx44 => ?_)
      rotate_left
      ·
       refine any_cutX (V := (List Ob) × (List Ob) × (Nat) × (Nat) × (Option Addr) × (Option Addr) × (Nat → Nat)) (fun ⟨Y192, Y252, cq192, cq252, q192, q252, γ232⟩ => SlO 3 Y192 q192 n cq192 l ∧ SlO 46 Y252 q252 (m + 1) cq252 (bl.take j ++ [(⟨(j + 1 : Nat), q192, n, cq192, l⟩ : GngA)] ++ bl.drop j)) 1 #[true, true, true, true, true, true, true, true, true, true, true, true, true, true, false] (fun ⟨Y192, Y252, cq192, cq252, q192, q252, γ232⟩ => [(49, .slice q252 (m + 1) cq252), (51, .pointer (some ⟨gb, 0, none⟩))]) (fun ⟨Y192, Y252, cq192, cq252, q192, q252, γ232⟩ => bx (γ1 0) (#[.pointer (some ⟨gb, 0, none⟩)]) 72 :: bx gb (#[.slice (some ⟨g14, 0, none⟩) m capq]) 38 :: bx gm (#[.slice p n cap]) 25 :: bx gi (#[.int .i64 (j + 1 : Nat)]) 3 :: (Y192 ++ (Y252 ++ (Yi ++ (YR ++ []))))) ?_ (fun hmx43 => ?_)
       ·
        rintro ⟨Y192, Y252, cq192, cq252, q192, q252, γ232⟩ ⟨hO192, hO252⟩
        refine a1 14 rfl ?_
        refine mo0 1 [(14, .go (owns 1 0 1))] [] (fun _ => []) (fun _ L => (L.set 1 (bx gb (#[.slice q252 (m + 1) cq252]) 38))) (fun _ => ?_)
        refine od_ ?_
        exact wk (hmx44 (Y192, Y252, cq192, cq252, q192, q252, γ232) ⟨hO192, hO252⟩) [] [[_], [_], [_], [_], _, _, _, _] [0, 1, 2, 3, 4, 5, 6, 7] rfl rfl
       refine any_cutX (V := (List Ob) × (List Ob) × (Nat) × (Nat) × (Option Addr) × (Option Addr) × (Nat → Nat)) (fun ⟨Y192, Y252, cq192, cq252, q192, q252, γ232⟩ => SlO 3 Y192 q192 n cq192 l ∧ SlO 46 Y252 q252 (m + 1) cq252 (bl.take j ++ [(⟨(j + 1 : Nat), q192, n, cq192, l⟩ : GngA)] ++ bl.drop j)) 4 #[false, true, true, true, true, true, true, true, true, true, true, true, false, false, false] (fun ⟨Y192, Y252, cq192, cq252, q192, q252, γ232⟩ => [(3, .pointer (some ⟨γ1 0, 0, none⟩)), (49, .slice q252 (m + 1) cq252)]) (fun ⟨Y192, Y252, cq192, cq252, q192, q252, γ232⟩ => bx (γ1 0) (#[.pointer (some ⟨gb, 0, none⟩)]) 72 :: bx gb (#[.slice (some ⟨g14, 0, none⟩) m capq]) 38 :: bx gm (#[.slice p n cap]) 25 :: bx gi (#[.int .i64 (j + 1 : Nat)]) 3 :: (Y192 ++ (Y252 ++ (Yi ++ (YR ++ []))))) ?_ (fun hmx42 => ?_)
       ·
        rintro ⟨Y192, Y252, cq192, cq252, q192, q252, γ232⟩ ⟨hO192, hO252⟩
        refine a1 0 rfl ?_
        refine qo0 1 [(0, .go (owns 0 0 1))] [49] [(38, .pointer (some ⟨gb, 0, none⟩))] ?_
        refine od_ ?_
        refine tk (m := 1) [12, 13] [] [49] [(51, .pointer (some ⟨gb, 0, none⟩))] ([]) #[true, true, true, true, true, true, true, true, true, true, true, true, true, true, false] al0 ?_
        exact wk (hmx43 (Y192, Y252, cq192, cq252, q192, q252, γ232) ⟨hO192, hO252⟩) [49, 51] [[_], [_], [_], [_], _, _, _, _] [0, 1, 2, 3, 4, 5, 6, 7] rfl rfl
       refine any_cutX (V := (List Ob) × (Nat) × (Option Addr) × (Nat → Nat)) (fun ⟨Y192, cq192, q192, γ232⟩ => SlO 3 Y192 q192 n cq192 l) 4 #[true, true, true, true, true, true, true, true, true, true, true, false, false, false, false] (fun ⟨Y192, cq192, q192, γ232⟩ => [(38, .pointer (some ⟨gb, 0, none⟩)), (42, .slice (some ⟨g14, 0, none⟩) m capq), (43, .int .i64 (j : Nat)), (48, .slice (some ⟨γ232 0, 0, none⟩) 1 1)]) (fun ⟨Y192, cq192, q192, γ232⟩ => bx (γ232 0) (#[.int .i64 (j + 1 : Nat), .slice q192 n cq192]) 46 :: bx (γ1 0) (#[.pointer (some ⟨gb, 0, none⟩)]) 72 :: bx gb (#[.slice (some ⟨g14, 0, none⟩) m capq]) 38 :: bx gm (#[.slice p n cap]) 25 :: bx gi (#[.int .i64 (j + 1 : Nat)]) 3 :: (Y192 ++ ([bx g14 cs14 46] ++ (Yi ++ (YR ++ []))))) ?_ (fun hmx41 => ?_)
       ·
        rintro ⟨Y192, cq192, q192, γ232⟩ hO192
        refine a1 11 rfl ?_
        refine Ops.pick [[bx (γ232 0) (#[.int .i64 (j + 1 : Nat), .slice q192 n cq192]) 46], [bx (γ1 0) (#[.pointer (some ⟨gb, 0, none⟩)]) 72], [bx gb (#[.slice (some ⟨g14, 0, none⟩) m capq]) 38], [bx gm (#[.slice p n cap]) 25], [bx gi (#[.int .i64 (j + 1 : Nat)]) 3], Y192, [bx g14 cs14 46], Yi, YR] [0, 1, 2, 3, 4, 6, 5, 7, 8] [] (bx (γ232 0) (#[.int .i64 (j + 1 : Nat), .slice q192 n cq192]) 46 :: bx (γ1 0) (#[.pointer (some ⟨gb, 0, none⟩)]) 72 :: bx gb (#[.slice (some ⟨g14, 0, none⟩) m capq]) 38 :: bx gm (#[.slice p n cap]) 25 :: bx gi (#[.int .i64 (j + 1 : Nat)]) 3 :: ([bx g14 cs14 46] ++ (Y192 ++ (Yi ++ (YR ++ []))))) (by kernel_rfl) rfl rfl (cP (fun v L' => ∃ q_ capq_ Y_, v = .slice q_ (m + 1) capq_ ∧ L' = [bx (γ1 0) (#[.pointer (some ⟨gb, 0, none⟩)]) 72, bx gb (#[.slice (some ⟨g14, 0, none⟩) m capq]) 38, bx gm (#[.slice p n cap]) 25, bx gi (#[.int .i64 (j + 1 : Nat)]) 3] ++ (Y_ ++ (Y192 ++ (Yi ++ (YR ++ [])))) ∧ SlO 46 Y_ q_ (m + 1) capq_ (bl.take j ++ [(⟨(j + 1 : Nat), q192, n, cq192, l⟩ : GngA)] ++ bl.drop j)) Try.call54 (fun w hw => (ginsert_t _ ([bx (γ1 0) (#[.pointer (some ⟨gb, 0, none⟩)]) 72, bx gb (#[.slice (some ⟨g14, 0, none⟩) m capq]) 38, bx gm (#[.slice p n cap]) 25, bx gi (#[.int .i64 (j + 1 : Nat)]) 3] ++ (Y192 ++ (Yi ++ (YR ++ [])))) [bx g14 cs14 46] (some ⟨g14, 0, none⟩) m capq bl j (γ232 0) (#[.int .i64 (j + 1 : Nat), .slice q192 n cq192]) 1 ([(⟨(j + 1 : Nat), q192, n, cq192, l⟩ : GngA)]) w (hw.pull (A := [bx (γ1 0) (#[.pointer (some ⟨gb, 0, none⟩)]) 72, bx gb (#[.slice (some ⟨g14, 0, none⟩) m capq]) 38, bx gm (#[.slice p n cap]) 25, bx gi (#[.int .i64 (j + 1 : Nat)]) 3]) (Y := [bx g14 cs14 46]) (R := (Y192 ++ (Yi ++ (YR ++ []))))) hO (by rfl) (by rfl) (by omega) (by omega) (by omega) (by omega)).mono fun e w' ⟨q_, capq_, Y_, he, hO, hY⟩ => ⟨_, _, he, ⟨q_, capq_, Y_, rfl, rfl, hO⟩, hY.push⟩) ?_)
        rintro v252 L252 ⟨q252, cq252, Y252, rfl, rfl, hO252⟩
        refine od_ ?_
        refine tk (m := 1) [12, 13] [] [49] [(51, .pointer (some ⟨gb, 0, none⟩))] ([]) #[true, true, true, true, true, true, true, true, true, true, true, true, true, true, false] al0 ?_
        exact wk (hmx43 (Y192, Y252, cq192, cq252, q192, q252, γ232) ⟨hO192, hO252⟩) [49, 51] [[_], [_], [_], [_], _, _, _, _] [0, 1, 2, 3, 5, 4, 6, 7] rfl rfl
       refine any_cutX (V := (List Ob) × (Nat) × (Option Addr) × (Nat → Nat)) (fun ⟨Y192, cq192, q192, γ232⟩ => SlO 3 Y192 q192 n cq192 l) 5 #[false, true, true, true, true, true, true, true, true, true, true, false, false, false, false] (fun ⟨Y192, cq192, q192, γ232⟩ => [(3, .pointer (some ⟨γ1 0, 0, none⟩)), (42, .slice (some ⟨g14, 0, none⟩) m capq), (43, .int .i64 (j : Nat)), (48, .slice (some ⟨γ232 0, 0, none⟩) 1 1)]) (fun ⟨Y192, cq192, q192, γ232⟩ => bx (γ232 0) (#[.int .i64 (j + 1 : Nat), .slice q192 n cq192]) 46 :: bx (γ1 0) (#[.pointer (some ⟨gb, 0, none⟩)]) 72 :: bx gb (#[.slice (some ⟨g14, 0, none⟩) m capq]) 38 :: bx gm (#[.slice p n cap]) 25 :: bx gi (#[.int .i64 (j + 1 : Nat)]) 3 :: (Y192 ++ ([bx g14 cs14 46] ++ (Yi ++ (YR ++ []))))) ?_ (fun hmx40 => ?_)
       ·
        rintro ⟨Y192, cq192, q192, γ232⟩ hO192
        refine any_fork [0, 11] (by kernel_rfl) (by simp) (each_cons _ rfl ?_ (each_cons _ rfl ?_ (each_nil)))
        ·
         refine qo0 1 [(0, .go (owns 1 0 1))] [42, 43, 48] [(38, .pointer (some ⟨gb, 0, none⟩))] ?_
         refine od_ ?_
         exact wk (hmx41 (Y192, cq192, q192, γ232) hO192) [38, 42, 43, 48] [[_], [_], [_], [_], [_], _, [bx g14 cs14 46], _, _] [0, 1, 2, 3, 4, 5, 6, 7, 8] rfl rfl
        ·
         refine Ops.pick [[bx (γ232 0) (#[.int .i64 (j + 1 : Nat), .slice q192 n cq192]) 46], [bx (γ1 0) (#[.pointer (some ⟨gb, 0, none⟩)]) 72], [bx gb (#[.slice (some ⟨g14, 0, none⟩) m capq]) 38], [bx gm (#[.slice p n cap]) 25], [bx gi (#[.int .i64 (j + 1 : Nat)]) 3], Y192, [bx g14 cs14 46], Yi, YR] [0, 1, 2, 3, 4, 6, 5, 7, 8] [] (bx (γ232 0) (#[.int .i64 (j + 1 : Nat), .slice q192 n cq192]) 46 :: bx (γ1 0) (#[.pointer (some ⟨gb, 0, none⟩)]) 72 :: bx gb (#[.slice (some ⟨g14, 0, none⟩) m capq]) 38 :: bx gm (#[.slice p n cap]) 25 :: bx gi (#[.int .i64 (j + 1 : Nat)]) 3 :: ([bx g14 cs14 46] ++ (Y192 ++ (Yi ++ (YR ++ []))))) (by kernel_rfl) rfl rfl (cP (fun v L' => ∃ q_ capq_ Y_, v = .slice q_ (m + 1) capq_ ∧ L' = [bx (γ1 0) (#[.pointer (some ⟨gb, 0, none⟩)]) 72, bx gb (#[.slice (some ⟨g14, 0, none⟩) m capq]) 38, bx gm (#[.slice p n cap]) 25, bx gi (#[.int .i64 (j + 1 : Nat)]) 3] ++ (Y_ ++ (Y192 ++ (Yi ++ (YR ++ [])))) ∧ SlO 46 Y_ q_ (m + 1) capq_ (bl.take j ++ [(⟨(j + 1 : Nat), q192, n, cq192, l⟩ : GngA)] ++ bl.drop j)) Try.call54 (fun w hw => (ginsert_t _ ([bx (γ1 0) (#[.pointer (some ⟨gb, 0, none⟩)]) 72, bx gb (#[.slice (some ⟨g14, 0, none⟩) m capq]) 38, bx gm (#[.slice p n cap]) 25, bx gi (#[.int .i64 (j + 1 : Nat)]) 3] ++ (Y192 ++ (Yi ++ (YR ++ [])))) [bx g14 cs14 46] (some ⟨g14, 0, none⟩) m capq bl j (γ232 0) (#[.int .i64 (j + 1 : Nat), .slice q192 n cq192]) 1 ([(⟨(j + 1 : Nat), q192, n, cq192, l⟩ : GngA)]) w (hw.pull (A := [bx (γ1 0) (#[.pointer (some ⟨gb, 0, none⟩)]) 72, bx gb (#[.slice (some ⟨g14, 0, none⟩) m capq]) 38, bx gm (#[.slice p n cap]) 25, bx gi (#[.int .i64 (j + 1 : Nat)]) 3]) (Y := [bx g14 cs14 46]) (R := (Y192 ++ (Yi ++ (YR ++ []))))) hO (by rfl) (by rfl) (by omega) (by omega) (by omega) (by omega)).mono fun e w' ⟨q_, capq_, Y_, he, hO, hY⟩ => ⟨_, _, he, ⟨q_, capq_, Y_, rfl, rfl, hO⟩, hY.push⟩) ?_)
         rintro v252 L252 ⟨q252, cq252, Y252, rfl, rfl, hO252⟩
         refine od_ ?_
         exact wk (hmx42 (Y192, Y252, cq192, cq252, q192, q252, γ232) ⟨hO192, hO252⟩) [3, 49] [[_], [_], [_], [_], _, _, _, _] [0, 1, 2, 3, 5, 4, 6, 7] rfl rfl
       refine any_cutX (V := (List Ob) × (Nat) × (Option Addr)) (fun ⟨Y192, cq192, q192⟩ => SlO 3 Y192 q192 n cq192 l) 5 #[true, true, true, true, true, true, true, true, true, true, false, false, false, false, false] (fun ⟨Y192, cq192, q192⟩ => [(38, .pointer (some ⟨gb, 0, none⟩)), (42, .slice (some ⟨g14, 0, none⟩) m capq), (43, .int .i64 (j : Nat)), (47, .agg #[.int .i64 (j + 1 : Nat), .slice q192 n cq192])]) (fun ⟨Y192, cq192, q192⟩ => bx (γ1 0) (#[.pointer (some ⟨gb, 0, none⟩)]) 72 :: bx gb (#[.slice (some ⟨g14, 0, none⟩) m capq]) 38 :: bx gm (#[.slice p n cap]) 25 :: bx gi (#[.int .i64 (j + 1 : Nat)]) 3 :: (Y192 ++ ([bx g14 cs14 46] ++ (Yi ++ (YR ++ []))))) ?_ (fun hmx39 => ?_)
       ·
        rintro ⟨Y192, cq192, q192⟩ hO192
        refine a1 10 rfl ?_
        refine mo0 1 [] [38, 42, 43] (fun γ232 => [(48, .slice (some ⟨γ232 0, 0, none⟩) 1 1)]) (fun γ232 L => bx (γ232 0) (#[.int .i64 (j + 1 : Nat), .slice q192 n cq192]) 46 :: L) (fun γ232 => ?_)
        refine od_ ?_
        exact wk (hmx41 (Y192, cq192, q192, γ232) hO192) [38, 42, 43, 48] [[_], [_], [_], [_], [_], _, [bx g14 cs14 46], _, _] [0, 1, 2, 3, 4, 5, 6, 7, 8] rfl rfl
       refine any_cutX (V := (List Ob) × (Nat) × (Option Addr) × (Nat → Nat)) (fun ⟨Y192, cq192, q192, γ232⟩ => SlO 3 Y192 q192 n cq192 l) 5 #[true, true, true, true, false, true, true, true, true, true, true, false, false, false, false] (fun ⟨Y192, cq192, q192, γ232⟩ => [(38, .pointer (some ⟨gb, 0, none⟩)), (41, .pointer (some ⟨gb, 0, none⟩)), (43, .int .i64 (j : Nat)), (48, .slice (some ⟨γ232 0, 0, none⟩) 1 1)]) (fun ⟨Y192, cq192, q192, γ232⟩ => bx (γ232 0) (#[.int .i64 (j + 1 : Nat), .slice q192 n cq192]) 46 :: bx (γ1 0) (#[.pointer (some ⟨gb, 0, none⟩)]) 72 :: bx gb (#[.slice (some ⟨g14, 0, none⟩) m capq]) 38 :: bx gm (#[.slice p n cap]) 25 :: bx gi (#[.int .i64 (j + 1 : Nat)]) 3 :: (Y192 ++ ([bx g14 cs14 46] ++ (Yi ++ (YR ++ []))))) ?_ (fun hmx38 => ?_)
       ·
        rintro ⟨Y192, cq192, q192, γ232⟩ hO192
        refine a1 4 rfl ?_
        refine qo0 1 [(4, .go (owns 2 0 1))] [38, 43, 48] [(42, .slice (some ⟨g14, 0, none⟩) m capq)] ?_
        refine od_ ?_
        exact wk (hmx41 (Y192, cq192, q192, γ232) hO192) [38, 42, 43, 48] [[_], [_], [_], [_], [_], _, [bx g14 cs14 46], _, _] [0, 1, 2, 3, 4, 5, 6, 7, 8] rfl rfl
       refine any_cutX (V := (List Ob) × (Nat) × (Option Addr)) (fun ⟨Y192, cq192, q192⟩ => SlO 3 Y192 q192 n cq192 l) 6 #[false, true, true, true, true, true, true, true, true, true, false, false, false, false, false] (fun ⟨Y192, cq192, q192⟩ => [(3, .pointer (some ⟨γ1 0, 0, none⟩)), (42, .slice (some ⟨g14, 0, none⟩) m capq), (43, .int .i64 (j : Nat)), (47, .agg #[.int .i64 (j + 1 : Nat), .slice q192 n cq192])]) (fun ⟨Y192, cq192, q192⟩ => bx (γ1 0) (#[.pointer (some ⟨gb, 0, none⟩)]) 72 :: bx gb (#[.slice (some ⟨g14, 0, none⟩) m capq]) 38 :: bx gm (#[.slice p n cap]) 25 :: bx gi (#[.int .i64 (j + 1 : Nat)]) 3 :: (Y192 ++ ([bx g14 cs14 46] ++ (Yi ++ (YR ++ []))))) ?_ (fun hmx37 => ?_)
       ·
        rintro ⟨Y192, cq192, q192⟩ hO192
        refine any_fork [0, 10] (by kernel_rfl) (by simp) (each_cons _ rfl ?_ (each_cons _ rfl ?_ (each_nil)))
        ·
         refine qo0 1 [(0, .go (owns 0 0 1))] [42, 43, 47] [(38, .pointer (some ⟨gb, 0, none⟩))] ?_
         refine od_ ?_
         exact wk (hmx39 (Y192, cq192, q192) hO192) [38, 42, 43, 47] [[_], [_], [_], [_], _, [bx g14 cs14 46], _, _] [0, 1, 2, 3, 4, 5, 6, 7] rfl rfl
        ·
         refine mo0 1 [] [3, 42, 43] (fun γ232 => [(48, .slice (some ⟨γ232 0, 0, none⟩) 1 1)]) (fun γ232 L => bx (γ232 0) (#[.int .i64 (j + 1 : Nat), .slice q192 n cq192]) 46 :: L) (fun γ232 => ?_)
         refine od_ ?_
         exact wk (hmx40 (Y192, cq192, q192, γ232) hO192) [3, 42, 43, 48] [[_], [_], [_], [_], [_], _, [bx g14 cs14 46], _, _] [0, 1, 2, 3, 4, 5, 6, 7, 8] rfl rfl
       refine any_cutX (V := (List Ob) × (Nat) × (Option Addr) × (Nat → Nat)) (fun ⟨Y192, cq192, q192, γ232⟩ => SlO 3 Y192 q192 n cq192 l) 6 #[false, true, true, true, false, true, true, true, true, true, true, false, false, false, false] (fun ⟨Y192, cq192, q192, γ232⟩ => [(3, .pointer (some ⟨γ1 0, 0, none⟩)), (41, .pointer (some ⟨gb, 0, none⟩)), (43, .int .i64 (j : Nat)), (48, .slice (some ⟨γ232 0, 0, none⟩) 1 1)]) (fun ⟨Y192, cq192, q192, γ232⟩ => bx (γ232 0) (#[.int .i64 (j + 1 : Nat), .slice q192 n cq192]) 46 :: bx (γ1 0) (#[.pointer (some ⟨gb, 0, none⟩)]) 72 :: bx gb (#[.slice (some ⟨g14, 0, none⟩) m capq]) 38 :: bx gm (#[.slice p n cap]) 25 :: bx gi (#[.int .i64 (j + 1 : Nat)]) 3 :: (Y192 ++ ([bx g14 cs14 46] ++ (Yi ++ (YR ++ []))))) ?_ (fun hmx36 => ?_)
       ·
        rintro ⟨Y192, cq192, q192, γ232⟩ hO192
        refine any_fork [0, 4] (by kernel_rfl) (by simp) (each_cons _ rfl ?_ (each_cons _ rfl ?_ (each_nil)))
        ·
         refine qo0 1 [(0, .go (owns 1 0 1))] [41, 43, 48] [(38, .pointer (some ⟨gb, 0, none⟩))] ?_
         refine od_ ?_
         exact wk (hmx38 (Y192, cq192, q192, γ232) hO192) [38, 41, 43, 48] [[_], [_], [_], [_], [_], _, [bx g14 cs14 46], _, _] [0, 1, 2, 3, 4, 5, 6, 7, 8] rfl rfl
        ·
         refine qo0 1 [(4, .go (owns 2 0 1))] [3, 43, 48] [(42, .slice (some ⟨g14, 0, none⟩) m capq)] ?_
         refine od_ ?_
         exact wk (hmx40 (Y192, cq192, q192, γ232) hO192) [3, 42, 43, 48] [[_], [_], [_], [_], [_], _, [bx g14 cs14 46], _, _] [0, 1, 2, 3, 4, 5, 6, 7, 8] rfl rfl
       refine any_cutX (V := (List Ob) × (Nat) × (Option Addr)) (fun ⟨Y192, cq192, q192⟩ => SlO 3 Y192 q192 n cq192 l) 6 #[true, true, true, true, false, true, true, true, true, true, false, false, false, false, false] (fun ⟨Y192, cq192, q192⟩ => [(38, .pointer (some ⟨gb, 0, none⟩)), (41, .pointer (some ⟨gb, 0, none⟩)), (43, .int .i64 (j : Nat)), (47, .agg #[.int .i64 (j + 1 : Nat), .slice q192 n cq192])]) (fun ⟨Y192, cq192, q192⟩ => bx (γ1 0) (#[.pointer (some ⟨gb, 0, none⟩)]) 72 :: bx gb (#[.slice (some ⟨g14, 0, none⟩) m capq]) 38 :: bx gm (#[.slice p n cap]) 25 :: bx gi (#[.int .i64 (j + 1 : Nat)]) 3 :: (Y192 ++ ([bx g14 cs14 46] ++ (Yi ++ (YR ++ []))))) ?_ (fun hmx35 => ?_)
       ·
        rintro ⟨Y192, cq192, q192⟩ hO192
        refine any_fork [4, 10] (by kernel_rfl) (by simp) (each_cons _ rfl ?_ (each_cons _ rfl ?_ (each_nil)))
        ·
         refine qo0 1 [(4, .go (owns 1 0 1))] [38, 43, 47] [(42, .slice (some ⟨g14, 0, none⟩) m capq)] ?_
         refine od_ ?_
         exact wk (hmx39 (Y192, cq192, q192) hO192) [38, 42, 43, 47] [[_], [_], [_], [_], _, [bx g14 cs14 46], _, _] [0, 1, 2, 3, 4, 5, 6, 7] rfl rfl
        ·
         refine mo0 1 [] [38, 41, 43] (fun γ232 => [(48, .slice (some ⟨γ232 0, 0, none⟩) 1 1)]) (fun γ232 L => bx (γ232 0) (#[.int .i64 (j + 1 : Nat), .slice q192 n cq192]) 46 :: L) (fun γ232 => ?_)
         refine od_ ?_
         exact wk (hmx38 (Y192, cq192, q192, γ232) hO192) [38, 41, 43, 48] [[_], [_], [_], [_], [_], _, [bx g14 cs14 46], _, _] [0, 1, 2, 3, 4, 5, 6, 7, 8] rfl rfl
       refine any_cutX (V := (List Ob) × (Nat) × (Option Addr)) (fun ⟨Y192, cq192, q192⟩ => SlO 3 Y192 q192 n cq192 l) 7 #[true, true, true, true, true, true, false, true, true, false, false, false, false, false, false] (fun ⟨Y192, cq192, q192⟩ => [(2, .pointer (some ⟨gi, 0, none⟩)), (38, .pointer (some ⟨gb, 0, none⟩)), (42, .slice (some ⟨g14, 0, none⟩) m capq), (43, .int .i64 (j : Nat)), (46, .slice q192 n cq192)]) (fun ⟨Y192, cq192, q192⟩ => bx (γ1 0) (#[.pointer (some ⟨gb, 0, none⟩)]) 72 :: bx gb (#[.slice (some ⟨g14, 0, none⟩) m capq]) 38 :: bx gm (#[.slice p n cap]) 25 :: bx gi (#[.int .i64 (j + 1 : Nat)]) 3 :: (Y192 ++ ([bx g14 cs14 46] ++ (Yi ++ (YR ++ []))))) ?_ (fun hmx34 => ?_)
       ·
        rintro ⟨Y192, cq192, q192⟩ hO192
        refine a1 6 rfl ?_
        refine qo0 1 [(6, .go (owns 3 0 1))] [38, 42, 43, 46] [(44, .int .i64 (j + 1 : Nat))] ?_
        refine od_ ?_
        refine tk (m := 5) [9] [] [38, 42, 43] [(47, .agg #[.int .i64 (j + 1 : Nat), .slice q192 n cq192])] ([]) #[true, true, true, true, true, true, true, true, true, true, false, false, false, false, false] al0 ?_
        exact wk (hmx39 (Y192, cq192, q192) hO192) [38, 42, 43, 47] [[_], [_], [_], [_], _, [bx g14 cs14 46], _, _] [0, 1, 2, 3, 4, 5, 6, 7] rfl rfl
       refine any_cutX (V := Unit) (fun _ => True) 7 #[true, true, true, true, true, true, true, true, false, false, false, false, false, false, false] (fun _ => [(38, .pointer (some ⟨gb, 0, none⟩)), (42, .slice (some ⟨g14, 0, none⟩) m capq), (43, .int .i64 (j : Nat)), (44, .int .i64 (j + 1 : Nat)), (45, .slice p n cap)]) (fun _ => bx (γ1 0) (#[.pointer (some ⟨gb, 0, none⟩)]) 72 :: bx gb (#[.slice (some ⟨g14, 0, none⟩) m capq]) 38 :: bx gm (#[.slice p n cap]) 25 :: bx gi (#[.int .i64 (j + 1 : Nat)]) 3 :: ([bx g14 cs14 46] ++ (Yi ++ (YR ++ [])))) ?_ (fun hmx33 => ?_)
       ·
        rintro _ _
        refine a1 8 rfl ?_
        refine cP (fun v L' => ∃ q_ c_ Y_, v = .slice q_ n c_ ∧ L' = List.take 4 (bx (γ1 0) (#[.pointer (some ⟨gb, 0, none⟩)]) 72 :: bx gb (#[.slice (some ⟨g14, 0, none⟩) m capq]) 38 :: bx gm (#[.slice p n cap]) 25 :: bx gi (#[.int .i64 (j + 1 : Nat)]) 3 :: ([bx g14 cs14 46] ++ (Yi ++ (YR ++ [])))) ++ (Y_ ++ List.drop 4 (bx (γ1 0) (#[.pointer (some ⟨gb, 0, none⟩)]) 72 :: bx gb (#[.slice (some ⟨g14, 0, none⟩) m capq]) 38 :: bx gm (#[.slice p n cap]) 25 :: bx gi (#[.int .i64 (j + 1 : Nat)]) 3 :: ([bx g14 cs14 46] ++ (Yi ++ (YR ++ []))))) ∧ SlO 3 Y_ q_ n c_ l) Try.call44 (fun w hw => (cloneints_t p n cap l w (hsl.kept hw.below) hn (by omega)).mono fun e w' ⟨q_, c_, Y_, he, hO, hb, hY⟩ => ⟨_, _, he, ⟨q_, c_, Y_, rfl, rfl, hO⟩, hw.join hb hY 4⟩) ?_
        rintro v192 L192 ⟨q192, cq192, Y192, rfl, rfl, hO192⟩
        refine od_ ?_
        refine tk (m := 5) [9] [] [38, 42, 43] [(47, .agg #[.int .i64 (j + 1 : Nat), .slice q192 n cq192])] ([]) #[true, true, true, true, true, true, true, true, true, true, false, false, false, false, false] al0 ?_
        exact wk (hmx39 (Y192, cq192, q192) hO192) [38, 42, 43, 47] [[_], [_], [_], [_], _, [bx g14 cs14 46], _, _] [0, 1, 2, 3, 4, 5, 6, 7] rfl rfl
       refine any_cutX (V := (List Ob) × (Nat) × (Option Addr)) (fun ⟨Y192, cq192, q192⟩ => SlO 3 Y192 q192 n cq192 l) 7 #[false, true, true, true, false, true, true, true, true, true, false, false, false, false, false] (fun ⟨Y192, cq192, q192⟩ => [(3, .pointer (some ⟨γ1 0, 0, none⟩)), (41, .pointer (some ⟨gb, 0, none⟩)), (43, .int .i64 (j : Nat)), (47, .agg #[.int .i64 (j + 1 : Nat), .slice q192 n cq192])]) (fun ⟨Y192, cq192, q192⟩ => bx (γ1 0) (#[.pointer (some ⟨gb, 0, none⟩)]) 72 :: bx gb (#[.slice (some ⟨g14, 0, none⟩) m capq]) 38 :: bx gm (#[.slice p n cap]) 25 :: bx gi (#[.int .i64 (j + 1 : Nat)]) 3 :: (Y192 ++ ([bx g14 cs14 46] ++ (Yi ++ (YR ++ []))))) ?_ (fun hmx32 => ?_)
       ·
        rintro ⟨Y192, cq192, q192⟩ hO192
        refine any_fork [0, 4, 10] (by kernel_rfl) (by simp) (each_cons _ rfl ?_ (each_cons _ rfl ?_ (each_cons _ rfl ?_ (each_nil))))
        ·
         refine qo0 1 [(0, .go (owns 0 0 1))] [41, 43, 47] [(38, .pointer (some ⟨gb, 0, none⟩))] ?_
         refine od_ ?_
         exact wk (hmx35 (Y192, cq192, q192) hO192) [38, 41, 43, 47] [[_], [_], [_], [_], _, [bx g14 cs14 46], _, _] [0, 1, 2, 3, 4, 5, 6, 7] rfl rfl
        ·
         refine qo0 1 [(4, .go (owns 1 0 1))] [3, 43, 47] [(42, .slice (some ⟨g14, 0, none⟩) m capq)] ?_
         refine od_ ?_
         exact wk (hmx37 (Y192, cq192, q192) hO192) [3, 42, 43, 47] [[_], [_], [_], [_], _, [bx g14 cs14 46], _, _] [0, 1, 2, 3, 4, 5, 6, 7] rfl rfl
        ·
         refine mo0 1 [] [3, 41, 43] (fun γ232 => [(48, .slice (some ⟨γ232 0, 0, none⟩) 1 1)]) (fun γ232 L => bx (γ232 0) (#[.int .i64 (j + 1 : Nat), .slice q192 n cq192]) 46 :: L) (fun γ232 => ?_)
         refine od_ ?_
         exact wk (hmx36 (Y192, cq192, q192, γ232) hO192) [3, 41, 43, 48] [[_], [_], [_], [_], [_], _, [bx g14 cs14 46], _, _] [0, 1, 2, 3, 4, 5, 6, 7, 8] rfl rfl
       refine any_cutX (V := (List Ob) × (Nat) × (Option Addr) × (Nat → Nat)) (fun ⟨Y192, cq192, q192, γ232⟩ => SlO 3 Y192 q192 n cq192 l) 8 #[true, false, false, false, false, true, true, true, true, true, true, false, false, false, false] (fun ⟨Y192, cq192, q192, γ232⟩ => [(3, .pointer (some ⟨γ1 0, 0, none⟩)), (38, .pointer (some ⟨gb, 0, none⟩)), (43, .int .i64 (j : Nat)), (48, .slice (some ⟨γ232 0, 0, none⟩) 1 1)]) (fun ⟨Y192, cq192, q192, γ232⟩ => bx (γ232 0) (#[.int .i64 (j + 1 : Nat), .slice q192 n cq192]) 46 :: bx (γ1 0) (#[.pointer (some ⟨gb, 0, none⟩)]) 72 :: bx gb (#[.slice (some ⟨g14, 0, none⟩) m capq]) 38 :: bx gm (#[.slice p n cap]) 25 :: bx gi (#[.int .i64 (j + 1 : Nat)]) 3 :: (Y192 ++ ([bx g14 cs14 46] ++ (Yi ++ (YR ++ []))))) ?_ (fun hmx31 => ?_)
       ·
        rintro ⟨Y192, cq192, q192, γ232⟩ hO192
        refine a1 1 rfl ?_
        refine qo0 1 [(1, .go (owns 1 0 1))] [38, 43, 48] [(39, .pointer (some ⟨gb, 0, none⟩))] ?_
        refine od_ ?_
        refine tk (m := 5) [2, 3] [] [38, 43, 48] [(41, .pointer (some ⟨gb, 0, none⟩))] ([]) #[true, true, true, true, false, true, true, true, true, true, true, false, false, false, false] al0 ?_
        exact wk (hmx38 (Y192, cq192, q192, γ232) hO192) [38, 41, 43, 48] [[_], [_], [_], [_], [_], _, [bx g14 cs14 46], _, _] [0, 1, 2, 3, 4, 5, 6, 7, 8] rfl rfl
       refine any_cutX (V := (List Ob) × (Nat) × (Option Addr)) (fun ⟨Y192, cq192, q192⟩ => SlO 3 Y192 q192 n cq192 l) 8 #[false, true, true, true, true, true, false, true, true, false, false, false, false, false, false] (fun ⟨Y192, cq192, q192⟩ => [(2, .pointer (some ⟨gi, 0, none⟩)), (3, .pointer (some ⟨γ1 0, 0, none⟩)), (42, .slice (some ⟨g14, 0, none⟩) m capq), (43, .int .i64 (j : Nat)), (46, .slice q192 n cq192)]) (fun ⟨Y192, cq192, q192⟩ => bx (γ1 0) (#[.pointer (some ⟨gb, 0, none⟩)]) 72 :: bx gb (#[.slice (some ⟨g14, 0, none⟩) m capq]) 38 :: bx gm (#[.slice p n cap]) 25 :: bx gi (#[.int .i64 (j + 1 : Nat)]) 3 :: (Y192 ++ ([bx g14 cs14 46] ++ (Yi ++ (YR ++ []))))) ?_ (fun hmx30 => ?_)
       ·
        rintro ⟨Y192, cq192, q192⟩ hO192
        refine any_fork [0, 6] (by kernel_rfl) (by simp) (each_cons _ rfl ?_ (each_cons _ rfl ?_ (each_nil)))
        ·
         refine qo0 1 [(0, .go (owns 0 0 1))] [2, 42, 43, 46] [(38, .pointer (some ⟨gb, 0, none⟩))] ?_
         refine od_ ?_
         exact wk (hmx34 (Y192, cq192, q192) hO192) [2, 38, 42, 43, 46] [[_], [_], [_], [_], _, [bx g14 cs14 46], _, _] [0, 1, 2, 3, 4, 5, 6, 7] rfl rfl
        ·
         refine qo0 1 [(6, .go (owns 3 0 1))] [3, 42, 43, 46] [(44, .int .i64 (j + 1 : Nat))] ?_
         refine od_ ?_
         refine tk (m := 6) [9] [] [3, 42, 43] [(47, .agg #[.int .i64 (j + 1 : Nat), .slice q192 n cq192])] ([]) #[false, true, true, true, true, true, true, true, true, true, false, false, false, false, false] al0 ?_
         exact wk (hmx37 (Y192, cq192, q192) hO192) [3, 42, 43, 47] [[_], [_], [_], [_], _, [bx g14 cs14 46], _, _] [0, 1, 2, 3, 4, 5, 6, 7] rfl rfl
       refine any_cutX (V := Unit) (fun _ => True) 8 #[false, true, true, true, true, true, true, true, false, false, false, false, false, false, false] (fun _ => [(3, .pointer (some ⟨γ1 0, 0, none⟩)), (42, .slice (some ⟨g14, 0, none⟩) m capq), (43, .int .i64 (j : Nat)), (44, .int .i64 (j + 1 : Nat)), (45, .slice p n cap)]) (fun _ => bx (γ1 0) (#[.pointer (some ⟨gb, 0, none⟩)]) 72 :: bx gb (#[.slice (some ⟨g14, 0, none⟩) m capq]) 38 :: bx gm (#[.slice p n cap]) 25 :: bx gi (#[.int .i64 (j + 1 : Nat)]) 3 :: ([bx g14 cs14 46] ++ (Yi ++ (YR ++ [])))) ?_ (fun hmx29 => ?_)
       ·
        rintro _ _
        refine any_fork [0, 8] (by kernel_rfl) (by simp) (each_cons _ rfl ?_ (each_cons _ rfl ?_ (each_nil)))
        ·
         refine qo0 1 [(0, .go (owns 0 0 1))] [42, 43, 44, 45] [(38, .pointer (some ⟨gb, 0, none⟩))] ?_
         refine od_ ?_
         exact wk (hmx33 () trivial) [38, 42, 43, 44, 45] [[_], [_], [_], [_], [bx g14 cs14 46], _, _] [0, 1, 2, 3, 4, 5, 6] rfl rfl
        ·
         refine cP (fun v L' => ∃ q_ c_ Y_, v = .slice q_ n c_ ∧ L' = List.take 4 (bx (γ1 0) (#[.pointer (some ⟨gb, 0, none⟩)]) 72 :: bx gb (#[.slice (some ⟨g14, 0, none⟩) m capq]) 38 :: bx gm (#[.slice p n cap]) 25 :: bx gi (#[.int .i64 (j + 1 : Nat)]) 3 :: ([bx g14 cs14 46] ++ (Yi ++ (YR ++ [])))) ++ (Y_ ++ List.drop 4 (bx (γ1 0) (#[.pointer (some ⟨gb, 0, none⟩)]) 72 :: bx gb (#[.slice (some ⟨g14, 0, none⟩) m capq]) 38 :: bx gm (#[.slice p n cap]) 25 :: bx gi (#[.int .i64 (j + 1 : Nat)]) 3 :: ([bx g14 cs14 46] ++ (Yi ++ (YR ++ []))))) ∧ SlO 3 Y_ q_ n c_ l) Try.call44 (fun w hw => (cloneints_t p n cap l w (hsl.kept hw.below) hn (by omega)).mono fun e w' ⟨q_, c_, Y_, he, hO, hb, hY⟩ => ⟨_, _, he, ⟨q_, c_, Y_, rfl, rfl, hO⟩, hw.join hb hY 4⟩) ?_
         rintro v192 L192 ⟨q192, cq192, Y192, rfl, rfl, hO192⟩
         refine od_ ?_
         refine tk (m := 6) [9] [] [3, 42, 43] [(47, .agg #[.int .i64 (j + 1 : Nat), .slice q192 n cq192])] ([]) #[false, true, true, true, true, true, true, true, true, true, false, false, false, false, false] al0 ?_
         exact wk (hmx37 (Y192, cq192, q192) hO192) [3, 42, 43, 47] [[_], [_], [_], [_], _, [bx g14 cs14 46], _, _] [0, 1, 2, 3, 4, 5, 6, 7] rfl rfl
       refine any_cutX (V := Unit) (fun _ => True) 8 #[true, true, true, true, true, true, false, true, false, false, false, false, false, false, false] (fun _ => [(2, .pointer (some ⟨gi, 0, none⟩)), (38, .pointer (some ⟨gb, 0, none⟩)), (42, .slice (some ⟨g14, 0, none⟩) m capq), (43, .int .i64 (j : Nat)), (45, .slice p n cap)]) (fun _ => bx (γ1 0) (#[.pointer (some ⟨gb, 0, none⟩)]) 72 :: bx gb (#[.slice (some ⟨g14, 0, none⟩) m capq]) 38 :: bx gm (#[.slice p n cap]) 25 :: bx gi (#[.int .i64 (j + 1 : Nat)]) 3 :: ([bx g14 cs14 46] ++ (Yi ++ (YR ++ [])))) ?_ (fun hmx28 => ?_)
       ·
        rintro _ _
        refine any_fork [6, 8] (by kernel_rfl) (by simp) (each_cons _ rfl ?_ (each_cons _ rfl ?_ (each_nil)))
        ·
         refine qo0 1 [(6, .go (owns 3 0 1))] [38, 42, 43, 45] [(44, .int .i64 (j + 1 : Nat))] ?_
         refine od_ ?_
         exact wk (hmx33 () trivial) [38, 42, 43, 44, 45] [[_], [_], [_], [_], [bx g14 cs14 46], _, _] [0, 1, 2, 3, 4, 5, 6] rfl rfl
        ·
         refine cP (fun v L' => ∃ q_ c_ Y_, v = .slice q_ n c_ ∧ L' = List.take 4 (bx (γ1 0) (#[.pointer (some ⟨gb, 0, none⟩)]) 72 :: bx gb (#[.slice (some ⟨g14, 0, none⟩) m capq]) 38 :: bx gm (#[.slice p n cap]) 25 :: bx gi (#[.int .i64 (j + 1 : Nat)]) 3 :: ([bx g14 cs14 46] ++ (Yi ++ (YR ++ [])))) ++ (Y_ ++ List.drop 4 (bx (γ1 0) (#[.pointer (some ⟨gb, 0, none⟩)]) 72 :: bx gb (#[.slice (some ⟨g14, 0, none⟩) m capq]) 38 :: bx gm (#[.slice p n cap]) 25 :: bx gi (#[.int .i64 (j + 1 : Nat)]) 3 :: ([bx g14 cs14 46] ++ (Yi ++ (YR ++ []))))) ∧ SlO 3 Y_ q_ n c_ l) Try.call44 (fun w hw => (cloneints_t p n cap l w (hsl.kept hw.below) hn (by omega)).mono fun e w' ⟨q_, c_, Y_, he, hO, hb, hY⟩ => ⟨_, _, he, ⟨q_, c_, Y_, rfl, rfl, hO⟩, hw.join hb hY 4⟩) ?_
         rintro v192 L192 ⟨q192, cq192, Y192, rfl, rfl, hO192⟩
         refine od_ ?_
         exact wk (hmx34 (Y192, cq192, q192) hO192) [2, 38, 42, 43, 46] [[_], [_], [_], [_], _, [bx g14 cs14 46], _, _] [0, 1, 2, 3, 4, 5, 6, 7] rfl rfl
       refine any_cutX (V := Unit) (fun _ => True) 8 #[true, true, true, true, true, true, true, false, false, false, false, false, false, false, false] (fun _ => [(1, .pointer (some ⟨gm, 0, none⟩)), (38, .pointer (some ⟨gb, 0, none⟩)), (42, .slice (some ⟨g14, 0, none⟩) m capq), (43, .int .i64 (j : Nat)), (44, .int .i64 (j + 1 : Nat))]) (fun _ => bx (γ1 0) (#[.pointer (some ⟨gb, 0, none⟩)]) 72 :: bx gb (#[.slice (some ⟨g14, 0, none⟩) m capq]) 38 :: bx gm (#[.slice p n cap]) 25 :: bx gi (#[.int .i64 (j + 1 : Nat)]) 3 :: ([bx g14 cs14 46] ++ (Yi ++ (YR ++ [])))) ?_ (fun hmx27 => ?_)
       ·
        rintro _ _
        refine a1 7 rfl ?_
        refine qo0 1 [(7, .go (owns 2 0 1))] [38, 42, 43, 44] [(45, .slice p n cap)] ?_
        refine od_ ?_
        exact wk (hmx33 () trivial) [38, 42, 43, 44, 45] [[_], [_], [_], [_], [bx g14 cs14 46], _, _] [0, 1, 2, 3, 4, 5, 6] rfl rfl
       refine any_cutX (V := (List Ob) × (Nat) × (Option Addr)) (fun ⟨Y192, cq192, q192⟩ => SlO 3 Y192 q192 n cq192 l) 8 #[true, true, true, true, false, true, false, true, true, false, false, false, false, false, false] (fun ⟨Y192, cq192, q192⟩ => [(2, .pointer (some ⟨gi, 0, none⟩)), (38, .pointer (some ⟨gb, 0, none⟩)), (41, .pointer (some ⟨gb, 0, none⟩)), (43, .int .i64 (j : Nat)), (46, .slice q192 n cq192)]) (fun ⟨Y192, cq192, q192⟩ => bx (γ1 0) (#[.pointer (some ⟨gb, 0, none⟩)]) 72 :: bx gb (#[.slice (some ⟨g14, 0, none⟩) m capq]) 38 :: bx gm (#[.slice p n cap]) 25 :: bx gi (#[.int .i64 (j + 1 : Nat)]) 3 :: (Y192 ++ ([bx g14 cs14 46] ++ (Yi ++ (YR ++ []))))) ?_ (fun hmx26 => ?_)
       ·
        rintro ⟨Y192, cq192, q192⟩ hO192
        refine any_fork [4, 6] (by kernel_rfl) (by simp) (each_cons _ rfl ?_ (each_cons _ rfl ?_ (each_nil)))
        ·
         refine qo0 1 [(4, .go (owns 1 0 1))] [2, 38, 43, 46] [(42, .slice (some ⟨g14, 0, none⟩) m capq)] ?_
         refine od_ ?_
         exact wk (hmx34 (Y192, cq192, q192) hO192) [2, 38, 42, 43, 46] [[_], [_], [_], [_], _, [bx g14 cs14 46], _, _] [0, 1, 2, 3, 4, 5, 6, 7] rfl rfl
        ·
         refine qo0 1 [(6, .go (owns 3 0 1))] [38, 41, 43, 46] [(44, .int .i64 (j + 1 : Nat))] ?_
         refine od_ ?_
         refine tk (m := 6) [9] [] [38, 41, 43] [(47, .agg #[.int .i64 (j + 1 : Nat), .slice q192 n cq192])] ([]) #[true, true, true, true, false, true, true, true, true, true, false, false, false, false, false] al0 ?_
         exact wk (hmx35 (Y192, cq192, q192) hO192) [38, 41, 43, 47] [[_], [_], [_], [_], _, [bx g14 cs14 46], _, _] [0, 1, 2, 3, 4, 5, 6, 7] rfl rfl
       refine any_cutX (V := Unit) (fun _ => True) 8 #[true, true, true, true, false, true, true, true, false, false, false, false, false, false, false] (fun _ => [(38, .pointer (some ⟨gb, 0, none⟩)), (41, .pointer (some ⟨gb, 0, none⟩)), (43, .int .i64 (j : Nat)), (44, .int .i64 (j + 1 : Nat)), (45, .slice p n cap)]) (fun _ => bx (γ1 0) (#[.pointer (some ⟨gb, 0, none⟩)]) 72 :: bx gb (#[.slice (some ⟨g14, 0, none⟩) m capq]) 38 :: bx gm (#[.slice p n cap]) 25 :: bx gi (#[.int .i64 (j + 1 : Nat)]) 3 :: ([bx g14 cs14 46] ++ (Yi ++ (YR ++ [])))) ?_ (fun hmx25 => ?_)
       ·
        rintro _ _
        refine any_fork [4, 8] (by kernel_rfl) (by simp) (each_cons _ rfl ?_ (each_cons _ rfl ?_ (each_nil)))
        ·
         refine qo0 1 [(4, .go (owns 1 0 1))] [38, 43, 44, 45] [(42, .slice (some ⟨g14, 0, none⟩) m capq)] ?_
         refine od_ ?_
         exact wk (hmx33 () trivial) [38, 42, 43, 44, 45] [[_], [_], [_], [_], [bx g14 cs14 46], _, _] [0, 1, 2, 3, 4, 5, 6] rfl rfl
        ·
         refine cP (fun v L' => ∃ q_ c_ Y_, v = .slice q_ n c_ ∧ L' = List.take 4 (bx (γ1 0) (#[.pointer (some ⟨gb, 0, none⟩)]) 72 :: bx gb (#[.slice (some ⟨g14, 0, none⟩) m capq]) 38 :: bx gm (#[.slice p n cap]) 25 :: bx gi (#[.int .i64 (j + 1 : Nat)]) 3 :: ([bx g14 cs14 46] ++ (Yi ++ (YR ++ [])))) ++ (Y_ ++ List.drop 4 (bx (γ1 0) (#[.pointer (some ⟨gb, 0, none⟩)]) 72 :: bx gb (#[.slice (some ⟨g14, 0, none⟩) m capq]) 38 :: bx gm (#[.slice p n cap]) 25 :: bx gi (#[.int .i64 (j + 1 : Nat)]) 3 :: ([bx g14 cs14 46] ++ (Yi ++ (YR ++ []))))) ∧ SlO 3 Y_ q_ n c_ l) Try.call44 (fun w hw => (cloneints_t p n cap l w (hsl.kept hw.below) hn (by omega)).mono fun e w' ⟨q_, c_, Y_, he, hO, hb, hY⟩ => ⟨_, _, he, ⟨q_, c_, Y_, rfl, rfl, hO⟩, hw.join hb hY 4⟩) ?_
         rintro v192 L192 ⟨q192, cq192, Y192, rfl, rfl, hO192⟩
         refine od_ ?_
         refine tk (m := 6) [9] [] [38, 41, 43] [(47, .agg #[.int .i64 (j + 1 : Nat), .slice q192 n cq192])] ([]) #[true, true, true, true, false, true, true, true, true, true, false, false, false, false, false] al0 ?_
         exact wk (hmx35 (Y192, cq192, q192) hO192) [38, 41, 43, 47] [[_], [_], [_], [_], _, [bx g14 cs14 46], _, _] [0, 1, 2, 3, 4, 5, 6, 7] rfl rfl
       refine any_cutX (V := (List Ob) × (Nat) × (Option Addr) × (Nat → Nat)) (fun ⟨Y192, cq192, q192, γ232⟩ => SlO 3 Y192 q192 n cq192 l) 9 #[false, false, false, false, false, true, true, true, true, true, true, false, false, false, false] (fun ⟨Y192, cq192, q192, γ232⟩ => [(3, .pointer (some ⟨γ1 0, 0, none⟩)), (43, .int .i64 (j : Nat)), (48, .slice (some ⟨γ232 0, 0, none⟩) 1 1)]) (fun ⟨Y192, cq192, q192, γ232⟩ => bx (γ232 0) (#[.int .i64 (j + 1 : Nat), .slice q192 n cq192]) 46 :: bx (γ1 0) (#[.pointer (some ⟨gb, 0, none⟩)]) 72 :: bx gb (#[.slice (some ⟨g14, 0, none⟩) m capq]) 38 :: bx gm (#[.slice p n cap]) 25 :: bx gi (#[.int .i64 (j + 1 : Nat)]) 3 :: (Y192 ++ ([bx g14 cs14 46] ++ (Yi ++ (YR ++ []))))) ?_ (fun hmx24 => ?_)
       ·
        rintro ⟨Y192, cq192, q192, γ232⟩ hO192
        refine any_fork [0, 1] (by kernel_rfl) (by simp) (each_cons _ rfl ?_ (each_cons _ rfl ?_ (each_nil)))
        ·
         refine qo0 1 [(0, .go (owns 1 0 1))] [3, 43, 48] [(38, .pointer (some ⟨gb, 0, none⟩))] ?_
         refine od_ ?_
         exact wk (hmx31 (Y192, cq192, q192, γ232) hO192) [3, 38, 43, 48] [[_], [_], [_], [_], [_], _, [bx g14 cs14 46], _, _] [0, 1, 2, 3, 4, 5, 6, 7, 8] rfl rfl
        ·
         refine qo0 1 [(1, .go (owns 1 0 1))] [3, 43, 48] [(39, .pointer (some ⟨gb, 0, none⟩))] ?_
         refine od_ ?_
         refine tk (m := 6) [2, 3] [] [3, 43, 48] [(41, .pointer (some ⟨gb, 0, none⟩))] ([]) #[false, true, true, true, false, true, true, true, true, true, true, false, false, false, false] al0 ?_
         exact wk (hmx36 (Y192, cq192, q192, γ232) hO192) [3, 41, 43, 48] [[_], [_], [_], [_], [_], _, [bx g14 cs14 46], _, _] [0, 1, 2, 3, 4, 5, 6, 7, 8] rfl rfl
       refine any_cutX (V := Unit) (fun _ => True) 9 #[false, true, true, true, true, true, false, true, false, false, false, false, false, false, false] (fun _ => [(2, .pointer (some ⟨gi, 0, none⟩)), (3, .pointer (some ⟨γ1 0, 0, none⟩)), (42, .slice (some ⟨g14, 0, none⟩) m capq), (43, .int .i64 (j : Nat)), (45, .slice p n cap)]) (fun _ => bx (γ1 0) (#[.pointer (some ⟨gb, 0, none⟩)]) 72 :: bx gb (#[.slice (some ⟨g14, 0, none⟩) m capq]) 38 :: bx gm (#[.slice p n cap]) 25 :: bx gi (#[.int .i64 (j + 1 : Nat)]) 3 :: ([bx g14 cs14 46] ++ (Yi ++ (YR ++ [])))) ?_ (fun hmx23 => ?_)
       ·
        rintro _ _
        refine any_fork [0, 6, 8] (by kernel_rfl) (by simp) (each_cons _ rfl ?_ (each_cons _ rfl ?_ (each_cons _ rfl ?_ (each_nil))))
        ·
         refine qo0 1 [(0, .go (owns 0 0 1))] [2, 42, 43, 45] [(38, .pointer (some ⟨gb, 0, none⟩))] ?_
         refine od_ ?_
         exact wk (hmx28 () trivial) [2, 38, 42, 43, 45] [[_], [_], [_], [_], [bx g14 cs14 46], _, _] [0, 1, 2, 3, 4, 5, 6] rfl rfl
        ·
         refine qo0 1 [(6, .go (owns 3 0 1))] [3, 42, 43, 45] [(44, .int .i64 (j + 1 : Nat))] ?_
         refine od_ ?_
         exact wk (hmx29 () trivial) [3, 42, 43, 44, 45] [[_], [_], [_], [_], [bx g14 cs14 46], _, _] [0, 1, 2, 3, 4, 5, 6] rfl rfl
        ·
         refine cP (fun v L' => ∃ q_ c_ Y_, v = .slice q_ n c_ ∧ L' = List.take 4 (bx (γ1 0) (#[.pointer (some ⟨gb, 0, none⟩)]) 72 :: bx gb (#[.slice (some ⟨g14, 0, none⟩) m capq]) 38 :: bx gm (#[.slice p n cap]) 25 :: bx gi (#[.int .i64 (j + 1 : Nat)]) 3 :: ([bx g14 cs14 46] ++ (Yi ++ (YR ++ [])))) ++ (Y_ ++ List.drop 4 (bx (γ1 0) (#[.pointer (some ⟨gb, 0, none⟩)]) 72 :: bx gb (#[.slice (some ⟨g14, 0, none⟩) m capq]) 38 :: bx gm (#[.slice p n cap]) 25 :: bx gi (#[.int .i64 (j + 1 : Nat)]) 3 :: ([bx g14 cs14 46] ++ (Yi ++ (YR ++ []))))) ∧ SlO 3 Y_ q_ n c_ l) Try.call44 (fun w hw => (cloneints_t p n cap l w (hsl.kept hw.below) hn (by omega)).mono fun e w' ⟨q_, c_, Y_, he, hO, hb, hY⟩ => ⟨_, _, he, ⟨q_, c_, Y_, rfl, rfl, hO⟩, hw.join hb hY 4⟩) ?_
         rintro v192 L192 ⟨q192, cq192, Y192, rfl, rfl, hO192⟩
         refine od_ ?_
         exact wk (hmx30 (Y192, cq192, q192) hO192) [2, 3, 42, 43, 46] [[_], [_], [_], [_], _, [bx g14 cs14 46], _, _] [0, 1, 2, 3, 4, 5, 6, 7] rfl rfl
       refine any_cutX (V := Unit) (fun _ => True) 9 #[false, true, true, true, true, true, true, false, false, false, false, false, false, false, false] (fun _ => [(1, .pointer (some ⟨gm, 0, none⟩)), (3, .pointer (some ⟨γ1 0, 0, none⟩)), (42, .slice (some ⟨g14, 0, none⟩) m capq), (43, .int .i64 (j : Nat)), (44, .int .i64 (j + 1 : Nat))]) (fun _ => bx (γ1 0) (#[.pointer (some ⟨gb, 0, none⟩)]) 72 :: bx gb (#[.slice (some ⟨g14, 0, none⟩) m capq]) 38 :: bx gm (#[.slice p n cap]) 25 :: bx gi (#[.int .i64 (j + 1 : Nat)]) 3 :: ([bx g14 cs14 46] ++ (Yi ++ (YR ++ [])))) ?_ (fun hmx22 => ?_)
       ·
        rintro _ _
        refine any_fork [0, 7] (by kernel_rfl) (by simp) (each_cons _ rfl ?_ (each_cons _ rfl ?_ (each_nil)))
        ·
         refine qo0 1 [(0, .go (owns 0 0 1))] [1, 42, 43, 44] [(38, .pointer (some ⟨gb, 0, none⟩))] ?_
         refine od_ ?_
         exact wk (hmx27 () trivial) [1, 38, 42, 43, 44] [[_], [_], [_], [_], [bx g14 cs14 46], _, _] [0, 1, 2, 3, 4, 5, 6] rfl rfl
        ·
         refine qo0 1 [(7, .go (owns 2 0 1))] [3, 42, 43, 44] [(45, .slice p n cap)] ?_
         refine od_ ?_
         exact wk (hmx29 () trivial) [3, 42, 43, 44, 45] [[_], [_], [_], [_], [bx g14 cs14 46], _, _] [0, 1, 2, 3, 4, 5, 6] rfl rfl
       refine any_cutX (V := Unit) (fun _ => True) 9 #[true, true, true, true, true, true, false, false, false, false, false, false, false, false, false] (fun _ => [(1, .pointer (some ⟨gm, 0, none⟩)), (2, .pointer (some ⟨gi, 0, none⟩)), (38, .pointer (some ⟨gb, 0, none⟩)), (42, .slice (some ⟨g14, 0, none⟩) m capq), (43, .int .i64 (j : Nat))]) (fun _ => bx (γ1 0) (#[.pointer (some ⟨gb, 0, none⟩)]) 72 :: bx gb (#[.slice (some ⟨g14, 0, none⟩) m capq]) 38 :: bx gm (#[.slice p n cap]) 25 :: bx gi (#[.int .i64 (j + 1 : Nat)]) 3 :: ([bx g14 cs14 46] ++ (Yi ++ (YR ++ [])))) ?_ (fun hmx21 => ?_)
       ·
        rintro _ _
        refine any_fork [6, 7] (by kernel_rfl) (by simp) (each_cons _ rfl ?_ (each_cons _ rfl ?_ (each_nil)))
        ·
         refine qo0 1 [(6, .go (owns 3 0 1))] [1, 38, 42, 43] [(44, .int .i64 (j + 1 : Nat))] ?_
         refine od_ ?_
         exact wk (hmx27 () trivial) [1, 38, 42, 43, 44] [[_], [_], [_], [_], [bx g14 cs14 46], _, _] [0, 1, 2, 3, 4, 5, 6] rfl rfl
        ·
         refine qo0 1 [(7, .go (owns 2 0 1))] [2, 38, 42, 43] [(45, .slice p n cap)] ?_
         refine od_ ?_
         exact wk (hmx28 () trivial) [2, 38, 42, 43, 45] [[_], [_], [_], [_], [bx g14 cs14 46], _, _] [0, 1, 2, 3, 4, 5, 6] rfl rfl
       refine any_cutX (V := (List Ob) × (Nat) × (Option Addr)) (fun ⟨Y192, cq192, q192⟩ => SlO 3 Y192 q192 n cq192 l) 9 #[true, false, false, false, false, true, true, true, true, true, false, false, false, false, false] (fun ⟨Y192, cq192, q192⟩ => [(3, .pointer (some ⟨γ1 0, 0, none⟩)), (38, .pointer (some ⟨gb, 0, none⟩)), (43, .int .i64 (j : Nat)), (47, .agg #[.int .i64 (j + 1 : Nat), .slice q192 n cq192])]) (fun ⟨Y192, cq192, q192⟩ => bx (γ1 0) (#[.pointer (some ⟨gb, 0, none⟩)]) 72 :: bx gb (#[.slice (some ⟨g14, 0, none⟩) m capq]) 38 :: bx gm (#[.slice p n cap]) 25 :: bx gi (#[.int .i64 (j + 1 : Nat)]) 3 :: (Y192 ++ ([bx g14 cs14 46] ++ (Yi ++ (YR ++ []))))) ?_ (fun hmx20 => ?_)
       ·
        rintro ⟨Y192, cq192, q192⟩ hO192
        refine any_fork [1, 10] (by kernel_rfl) (by simp) (each_cons _ rfl ?_ (each_cons _ rfl ?_ (each_nil)))
        ·
         refine qo0 1 [(1, .go (owns 0 0 1))] [38, 43, 47] [(39, .pointer (some ⟨gb, 0, none⟩))] ?_
         refine od_ ?_
         refine tk (m := 6) [2, 3] [] [38, 43, 47] [(41, .pointer (some ⟨gb, 0, none⟩))] ([]) #[true, true, true, true, false, true, true, true, true, true, false, false, false, false, false] al0 ?_
         exact wk (hmx35 (Y192, cq192, q192) hO192) [38, 41, 43, 47] [[_], [_], [_], [_], _, [bx g14 cs14 46], _, _] [0, 1, 2, 3, 4, 5, 6, 7] rfl rfl
        ·
         refine mo0 1 [] [3, 38, 43] (fun γ232 => [(48, .slice (some ⟨γ232 0, 0, none⟩) 1 1)]) (fun γ232 L => bx (γ232 0) (#[.int .i64 (j + 1 : Nat), .slice q192 n cq192]) 46 :: L) (fun γ232 => ?_)
         refine od_ ?_
         exact wk (hmx31 (Y192, cq192, q192, γ232) hO192) [3, 38, 43, 48] [[_], [_], [_], [_], [_], _, [bx g14 cs14 46], _, _] [0, 1, 2, 3, 4, 5, 6, 7, 8] rfl rfl
       refine any_cutX (V := (List Ob) × (Nat) × (Option Addr)) (fun ⟨Y192, cq192, q192⟩ => SlO 3 Y192 q192 n cq192 l) 9 #[false, true, true, true, false, true, false, true, true, false, false, false, false, false, false] (fun ⟨Y192, cq192, q192⟩ => [(2, .pointer (some ⟨gi, 0, none⟩)), (3, .pointer (some ⟨γ1 0, 0, none⟩)), (41, .pointer (some ⟨gb, 0, none⟩)), (43, .int .i64 (j : Nat)), (46, .slice q192 n cq192)]) (fun ⟨Y192, cq192, q192⟩ => bx (γ1 0) (#[.pointer (some ⟨gb, 0, none⟩)]) 72 :: bx gb (#[.slice (some ⟨g14, 0, none⟩) m capq]) 38 :: bx gm (#[.slice p n cap]) 25 :: bx gi (#[.int .i64 (j + 1 : Nat)]) 3 :: (Y192 ++ ([bx g14 cs14 46] ++ (Yi ++ (YR ++ []))))) ?_ (fun hmx19 => ?_)
       ·
        rintro ⟨Y192, cq192, q192⟩ hO192
        refine any_fork [0, 4, 6] (by kernel_rfl) (by simp) (each_cons _ rfl ?_ (each_cons _ rfl ?_ (each_cons _ rfl ?_ (each_nil))))
        ·
         refine qo0 1 [(0, .go (owns 0 0 1))] [2, 41, 43, 46] [(38, .pointer (some ⟨gb, 0, none⟩))] ?_
         refine od_ ?_
         exact wk (hmx26 (Y192, cq192, q192) hO192) [2, 38, 41, 43, 46] [[_], [_], [_], [_], _, [bx g14 cs14 46], _, _] [0, 1, 2, 3, 4, 5, 6, 7] rfl rfl
        ·
         refine qo0 1 [(4, .go (owns 1 0 1))] [2, 3, 43, 46] [(42, .slice (some ⟨g14, 0, none⟩) m capq)] ?_
         refine od_ ?_
         exact wk (hmx30 (Y192, cq192, q192) hO192) [2, 3, 42, 43, 46] [[_], [_], [_], [_], _, [bx g14 cs14 46], _, _] [0, 1, 2, 3, 4, 5, 6, 7] rfl rfl
        ·
         refine qo0 1 [(6, .go (owns 3 0 1))] [3, 41, 43, 46] [(44, .int .i64 (j + 1 : Nat))] ?_
         refine od_ ?_
         refine tk (m := 7) [9] [] [3, 41, 43] [(47, .agg #[.int .i64 (j + 1 : Nat), .slice q192 n cq192])] ([]) #[false, true, true, true, false, true, true, true, true, true, false, false, false, false, false] al0 ?_
         exact wk (hmx32 (Y192, cq192, q192) hO192) [3, 41, 43, 47] [[_], [_], [_], [_], _, [bx g14 cs14 46], _, _] [0, 1, 2, 3, 4, 5, 6, 7] rfl rfl
       refine any_cutX (V := Unit) (fun _ => True) 9 #[false, true, true, true, false, true, true, true, false, false, false, false, false, false, false] (fun _ => [(3, .pointer (some ⟨γ1 0, 0, none⟩)), (41, .pointer (some ⟨gb, 0, none⟩)), (43, .int .i64 (j : Nat)), (44, .int .i64 (j + 1 : Nat)), (45, .slice p n cap)]) (fun _ => bx (γ1 0) (#[.pointer (some ⟨gb, 0, none⟩)]) 72 :: bx gb (#[.slice (some ⟨g14, 0, none⟩) m capq]) 38 :: bx gm (#[.slice p n cap]) 25 :: bx gi (#[.int .i64 (j + 1 : Nat)]) 3 :: ([bx g14 cs14 46] ++ (Yi ++ (YR ++ [])))) ?_ (fun hmx18 => ?_)
       ·
        rintro _ _
        refine any_fork [0, 4, 8] (by kernel_rfl) (by simp) (each_cons _ rfl ?_ (each_cons _ rfl ?_ (each_cons _ rfl ?_ (each_nil))))
        ·
         refine qo0 1 [(0, .go (owns 0 0 1))] [41, 43, 44, 45] [(38, .pointer (some ⟨gb, 0, none⟩))] ?_
         refine od_ ?_
         exact wk (hmx25 () trivial) [38, 41, 43, 44, 45] [[_], [_], [_], [_], [bx g14 cs14 46], _, _] [0, 1, 2, 3, 4, 5, 6] rfl rfl
        ·
         refine qo0 1 [(4, .go (owns 1 0 1))] [3, 43, 44, 45] [(42, .slice (some ⟨g14, 0, none⟩) m capq)] ?_
         refine od_ ?_
         exact wk (hmx29 () trivial) [3, 42, 43, 44, 45] [[_], [_], [_], [_], [bx g14 cs14 46], _, _] [0, 1, 2, 3, 4, 5, 6] rfl rfl
        ·
         refine cP (fun v L' => ∃ q_ c_ Y_, v = .slice q_ n c_ ∧ L' = List.take 4 (bx (γ1 0) (#[.pointer (some ⟨gb, 0, none⟩)]) 72 :: bx gb (#[.slice (some ⟨g14, 0, none⟩) m capq]) 38 :: bx gm (#[.slice p n cap]) 25 :: bx gi (#[.int .i64 (j + 1 : Nat)]) 3 :: ([bx g14 cs14 46] ++ (Yi ++ (YR ++ [])))) ++ (Y_ ++ List.drop 4 (bx (γ1 0) (#[.pointer (some ⟨gb, 0, none⟩)]) 72 :: bx gb (#[.slice (some ⟨g14, 0, none⟩) m capq]) 38 :: bx gm (#[.slice p n cap]) 25 :: bx gi (#[.int .i64 (j + 1 : Nat)]) 3 :: ([bx g14 cs14 46] ++ (Yi ++ (YR ++ []))))) ∧ SlO 3 Y_ q_ n c_ l) Try.call44 (fun w hw => (cloneints_t p n cap l w (hsl.kept hw.below) hn (by omega)).mono fun e w' ⟨q_, c_, Y_, he, hO, hb, hY⟩ => ⟨_, _, he, ⟨q_, c_, Y_, rfl, rfl, hO⟩, hw.join hb hY 4⟩) ?_
         rintro v192 L192 ⟨q192, cq192, Y192, rfl, rfl, hO192⟩
         refine od_ ?_
         refine tk (m := 7) [9] [] [3, 41, 43] [(47, .agg #[.int .i64 (j + 1 : Nat), .slice q192 n cq192])] ([]) #[false, true, true, true, false, true, true, true, true, true, false, false, false, false, false] al0 ?_
         exact wk (hmx32 (Y192, cq192, q192) hO192) [3, 41, 43, 47] [[_], [_], [_], [_], _, [bx g14 cs14 46], _, _] [0, 1, 2, 3, 4, 5, 6, 7] rfl rfl
       refine any_cutX (V := Unit) (fun _ => True) 9 #[true, true, true, true, false, true, false, true, false, false, false, false, false, false, false] (fun _ => [(2, .pointer (some ⟨gi, 0, none⟩)), (38, .pointer (some ⟨gb, 0, none⟩)), (41, .pointer (some ⟨gb, 0, none⟩)), (43, .int .i64 (j : Nat)), (45, .slice p n cap)]) (fun _ => bx (γ1 0) (#[.pointer (some ⟨gb, 0, none⟩)]) 72 :: bx gb (#[.slice (some ⟨g14, 0, none⟩) m capq]) 38 :: bx gm (#[.slice p n cap]) 25 :: bx gi (#[.int .i64 (j + 1 : Nat)]) 3 :: ([bx g14 cs14 46] ++ (Yi ++ (YR ++ [])))) ?_ (fun hmx17 => ?_)
       ·
        rintro _ _
        refine any_fork [4, 6, 8] (by kernel_rfl) (by simp) (each_cons _ rfl ?_ (each_cons _ rfl ?_ (each_cons _ rfl ?_ (each_nil))))
        ·
         refine qo0 1 [(4, .go (owns 1 0 1))] [2, 38, 43, 45] [(42, .slice (some ⟨g14, 0, none⟩) m capq)] ?_
         refine od_ ?_
         exact wk (hmx28 () trivial) [2, 38, 42, 43, 45] [[_], [_], [_], [_], [bx g14 cs14 46], _, _] [0, 1, 2, 3, 4, 5, 6] rfl rfl
        ·
         refine qo0 1 [(6, .go (owns 3 0 1))] [38, 41, 43, 45] [(44, .int .i64 (j + 1 : Nat))] ?_
         refine od_ ?_
         exact wk (hmx25 () trivial) [38, 41, 43, 44, 45] [[_], [_], [_], [_], [bx g14 cs14 46], _, _] [0, 1, 2, 3, 4, 5, 6] rfl rfl
        ·
         refine cP (fun v L' => ∃ q_ c_ Y_, v = .slice q_ n c_ ∧ L' = List.take 4 (bx (γ1 0) (#[.pointer (some ⟨gb, 0, none⟩)]) 72 :: bx gb (#[.slice (some ⟨g14, 0, none⟩) m capq]) 38 :: bx gm (#[.slice p n cap]) 25 :: bx gi (#[.int .i64 (j + 1 : Nat)]) 3 :: ([bx g14 cs14 46] ++ (Yi ++ (YR ++ [])))) ++ (Y_ ++ List.drop 4 (bx (γ1 0) (#[.pointer (some ⟨gb, 0, none⟩)]) 72 :: bx gb (#[.slice (some ⟨g14, 0, none⟩) m capq]) 38 :: bx gm (#[.slice p n cap]) 25 :: bx gi (#[.int .i64 (j + 1 : Nat)]) 3 :: ([bx g14 cs14 46] ++ (Yi ++ (YR ++ []))))) ∧ SlO 3 Y_ q_ n c_ l) Try.call44 (fun w hw => (cloneints_t p n cap l w (hsl.kept hw.below) hn (by omega)).mono fun e w' ⟨q_, c_, Y_, he, hO, hb, hY⟩ => ⟨_, _, he, ⟨q_, c_, Y_, rfl, rfl, hO⟩, hw.join hb hY 4⟩) ?_
         rintro v192 L192 ⟨q192, cq192, Y192, rfl, rfl, hO192⟩
         refine od_ ?_
         exact wk (hmx26 (Y192, cq192, q192) hO192) [2, 38, 41, 43, 46] [[_], [_], [_], [_], _, [bx g14 cs14 46], _, _] [0, 1, 2, 3, 4, 5, 6, 7] rfl rfl
       refine any_cutX (V := Unit) (fun _ => True) 9 #[true, true, true, true, false, true, true, false, false, false, false, false, false, false, false] (fun _ => [(1, .pointer (some ⟨gm, 0, none⟩)), (38, .pointer (some ⟨gb, 0, none⟩)), (41, .pointer (some ⟨gb, 0, none⟩)), (43, .int .i64 (j : Nat)), (44, .int .i64 (j + 1 : Nat))]) (fun _ => bx (γ1 0) (#[.pointer (some ⟨gb, 0, none⟩)]) 72 :: bx gb (#[.slice (some ⟨g14, 0, none⟩) m capq]) 38 :: bx gm (#[.slice p n cap]) 25 :: bx gi (#[.int .i64 (j + 1 : Nat)]) 3 :: ([bx g14 cs14 46] ++ (Yi ++ (YR ++ [])))) ?_ (fun hmx16 => ?_)
       ·
        rintro _ _
        refine any_fork [4, 7] (by kernel_rfl) (by simp) (each_cons _ rfl ?_ (each_cons _ rfl ?_ (each_nil)))
        ·
         refine qo0 1 [(4, .go (owns 1 0 1))] [1, 38, 43, 44] [(42, .slice (some ⟨g14, 0, none⟩) m capq)] ?_
         refine od_ ?_
         exact wk (hmx27 () trivial) [1, 38, 42, 43, 44] [[_], [_], [_], [_], [bx g14 cs14 46], _, _] [0, 1, 2, 3, 4, 5, 6] rfl rfl
        ·
         refine qo0 1 [(7, .go (owns 2 0 1))] [38, 41, 43, 44] [(45, .slice p n cap)] ?_
         refine od_ ?_
         exact wk (hmx25 () trivial) [38, 41, 43, 44, 45] [[_], [_], [_], [_], [bx g14 cs14 46], _, _] [0, 1, 2, 3, 4, 5, 6] rfl rfl
       refine any_cutX (V := Unit) (fun _ => True) 10 #[false, true, true, true, true, true, false, false, false, false, false, false, false, false, false] (fun _ => [(1, .pointer (some ⟨gm, 0, none⟩)), (2, .pointer (some ⟨gi, 0, none⟩)), (3, .pointer (some ⟨γ1 0, 0, none⟩)), (42, .slice (some ⟨g14, 0, none⟩) m capq), (43, .int .i64 (j : Nat))]) (fun _ => bx (γ1 0) (#[.pointer (some ⟨gb, 0, none⟩)]) 72 :: bx gb (#[.slice (some ⟨g14, 0, none⟩) m capq]) 38 :: bx gm (#[.slice p n cap]) 25 :: bx gi (#[.int .i64 (j + 1 : Nat)]) 3 :: ([bx g14 cs14 46] ++ (Yi ++ (YR ++ [])))) ?_ (fun hmx15 => ?_)
       ·
        rintro _ _
        refine any_fork [0, 6, 7] (by kernel_rfl) (by simp) (each_cons _ rfl ?_ (each_cons _ rfl ?_ (each_cons _ rfl ?_ (each_nil))))
        ·
         refine qo0 1 [(0, .go (owns 0 0 1))] [1, 2, 42, 43] [(38, .pointer (some ⟨gb, 0, none⟩))] ?_
         refine od_ ?_
         exact wk (hmx21 () trivial) [1, 2, 38, 42, 43] [[_], [_], [_], [_], [bx g14 cs14 46], _, _] [0, 1, 2, 3, 4, 5, 6] rfl rfl
        ·
         refine qo0 1 [(6, .go (owns 3 0 1))] [1, 3, 42, 43] [(44, .int .i64 (j + 1 : Nat))] ?_
         refine od_ ?_
         exact wk (hmx22 () trivial) [1, 3, 42, 43, 44] [[_], [_], [_], [_], [bx g14 cs14 46], _, _] [0, 1, 2, 3, 4, 5, 6] rfl rfl
        ·
         refine qo0 1 [(7, .go (owns 2 0 1))] [2, 3, 42, 43] [(45, .slice p n cap)] ?_
         refine od_ ?_
         exact wk (hmx23 () trivial) [2, 3, 42, 43, 45] [[_], [_], [_], [_], [bx g14 cs14 46], _, _] [0, 1, 2, 3, 4, 5, 6] rfl rfl
       refine any_cutX (V := (List Ob) × (Nat) × (Option Addr)) (fun ⟨Y192, cq192, q192⟩ => SlO 3 Y192 q192 n cq192 l) 10 #[false, false, false, false, false, true, true, true, true, true, false, false, false, false, false] (fun ⟨Y192, cq192, q192⟩ => [(3, .pointer (some ⟨γ1 0, 0, none⟩)), (43, .int .i64 (j : Nat)), (47, .agg #[.int .i64 (j + 1 : Nat), .slice q192 n cq192])]) (fun ⟨Y192, cq192, q192⟩ => bx (γ1 0) (#[.pointer (some ⟨gb, 0, none⟩)]) 72 :: bx gb (#[.slice (some ⟨g14, 0, none⟩) m capq]) 38 :: bx gm (#[.slice p n cap]) 25 :: bx gi (#[.int .i64 (j + 1 : Nat)]) 3 :: (Y192 ++ ([bx g14 cs14 46] ++ (Yi ++ (YR ++ []))))) ?_ (fun hmx14 => ?_)
       ·
        rintro ⟨Y192, cq192, q192⟩ hO192
        refine any_fork [0, 1, 10] (by kernel_rfl) (by simp) (each_cons _ rfl ?_ (each_cons _ rfl ?_ (each_cons _ rfl ?_ (each_nil))))
        ·
         refine qo0 1 [(0, .go (owns 0 0 1))] [3, 43, 47] [(38, .pointer (some ⟨gb, 0, none⟩))] ?_
         refine od_ ?_
         exact wk (hmx20 (Y192, cq192, q192) hO192) [3, 38, 43, 47] [[_], [_], [_], [_], _, [bx g14 cs14 46], _, _] [0, 1, 2, 3, 4, 5, 6, 7] rfl rfl
        ·
         refine qo0 1 [(1, .go (owns 0 0 1))] [3, 43, 47] [(39, .pointer (some ⟨gb, 0, none⟩))] ?_
         refine od_ ?_
         refine tk (m := 7) [2, 3] [] [3, 43, 47] [(41, .pointer (some ⟨gb, 0, none⟩))] ([]) #[false, true, true, true, false, true, true, true, true, true, false, false, false, false, false] al0 ?_
         exact wk (hmx32 (Y192, cq192, q192) hO192) [3, 41, 43, 47] [[_], [_], [_], [_], _, [bx g14 cs14 46], _, _] [0, 1, 2, 3, 4, 5, 6, 7] rfl rfl
        ·
         refine mo0 1 [] [3, 43] (fun γ232 => [(48, .slice (some ⟨γ232 0, 0, none⟩) 1 1)]) (fun γ232 L => bx (γ232 0) (#[.int .i64 (j + 1 : Nat), .slice q192 n cq192]) 46 :: L) (fun γ232 => ?_)
         refine od_ ?_
         exact wk (hmx24 (Y192, cq192, q192, γ232) hO192) [3, 43, 48] [[_], [_], [_], [_], [_], _, [bx g14 cs14 46], _, _] [0, 1, 2, 3, 4, 5, 6, 7, 8] rfl rfl
       refine any_cutX (V := Unit) (fun _ => True) 10 #[false, true, true, true, false, true, false, true, false, false, false, false, false, false, false] (fun _ => [(2, .pointer (some ⟨gi, 0, none⟩)), (3, .pointer (some ⟨γ1 0, 0, none⟩)), (41, .pointer (some ⟨gb, 0, none⟩)), (43, .int .i64 (j : Nat)), (45, .slice p n cap)]) (fun _ => bx (γ1 0) (#[.pointer (some ⟨gb, 0, none⟩)]) 72 :: bx gb (#[.slice (some ⟨g14, 0, none⟩) m capq]) 38 :: bx gm (#[.slice p n cap]) 25 :: bx gi (#[.int .i64 (j + 1 : Nat)]) 3 :: ([bx g14 cs14 46] ++ (Yi ++ (YR ++ [])))) ?_ (fun hmx13 => ?_)
       ·
        rintro _ _
        refine any_fork [0, 4, 6, 8] (by kernel_rfl) (by simp) (each_cons _ rfl ?_ (each_cons _ rfl ?_ (each_cons _ rfl ?_ (each_cons _ rfl ?_ (each_nil)))))
        ·
         refine qo0 1 [(0, .go (owns 0 0 1))] [2, 41, 43, 45] [(38, .pointer (some ⟨gb, 0, none⟩))] ?_
         refine od_ ?_
         exact wk (hmx17 () trivial) [2, 38, 41, 43, 45] [[_], [_], [_], [_], [bx g14 cs14 46], _, _] [0, 1, 2, 3, 4, 5, 6] rfl rfl
        ·
         refine qo0 1 [(4, .go (owns 1 0 1))] [2, 3, 43, 45] [(42, .slice (some ⟨g14, 0, none⟩) m capq)] ?_
         refine od_ ?_
         exact wk (hmx23 () trivial) [2, 3, 42, 43, 45] [[_], [_], [_], [_], [bx g14 cs14 46], _, _] [0, 1, 2, 3, 4, 5, 6] rfl rfl
        ·
         refine qo0 1 [(6, .go (owns 3 0 1))] [3, 41, 43, 45] [(44, .int .i64 (j + 1 : Nat))] ?_
         refine od_ ?_
         exact wk (hmx18 () trivial) [3, 41, 43, 44, 45] [[_], [_], [_], [_], [bx g14 cs14 46], _, _] [0, 1, 2, 3, 4, 5, 6] rfl rfl
        ·
         refine cP (fun v L' => ∃ q_ c_ Y_, v = .slice q_ n c_ ∧ L' = List.take 4 (bx (γ1 0) (#[.pointer (some ⟨gb, 0, none⟩)]) 72 :: bx gb (#[.slice (some ⟨g14, 0, none⟩) m capq]) 38 :: bx gm (#[.slice p n cap]) 25 :: bx gi (#[.int .i64 (j + 1 : Nat)]) 3 :: ([bx g14 cs14 46] ++ (Yi ++ (YR ++ [])))) ++ (Y_ ++ List.drop 4 (bx (γ1 0) (#[.pointer (some ⟨gb, 0, none⟩)]) 72 :: bx gb (#[.slice (some ⟨g14, 0, none⟩) m capq]) 38 :: bx gm (#[.slice p n cap]) 25 :: bx gi (#[.int .i64 (j + 1 : Nat)]) 3 :: ([bx g14 cs14 46] ++ (Yi ++ (YR ++ []))))) ∧ SlO 3 Y_ q_ n c_ l) Try.call44 (fun w hw => (cloneints_t p n cap l w (hsl.kept hw.below) hn (by omega)).mono fun e w' ⟨q_, c_, Y_, he, hO, hb, hY⟩ => ⟨_, _, he, ⟨q_, c_, Y_, rfl, rfl, hO⟩, hw.join hb hY 4⟩) ?_
         rintro v192 L192 ⟨q192, cq192, Y192, rfl, rfl, hO192⟩
         refine od_ ?_
         exact wk (hmx19 (Y192, cq192, q192) hO192) [2, 3, 41, 43, 46] [[_], [_], [_], [_], _, [bx g14 cs14 46], _, _] [0, 1, 2, 3, 4, 5, 6, 7] rfl rfl
       refine any_cutX (V := Unit) (fun _ => True) 10 #[false, true, true, true, false, true, true, false, false, false, false, false, false, false, false] (fun _ => [(1, .pointer (some ⟨gm, 0, none⟩)), (3, .pointer (some ⟨γ1 0, 0, none⟩)), (41, .pointer (some ⟨gb, 0, none⟩)), (43, .int .i64 (j : Nat)), (44, .int .i64 (j + 1 : Nat))]) (fun _ => bx (γ1 0) (#[.pointer (some ⟨gb, 0, none⟩)]) 72 :: bx gb (#[.slice (some ⟨g14, 0, none⟩) m capq]) 38 :: bx gm (#[.slice p n cap]) 25 :: bx gi (#[.int .i64 (j + 1 : Nat)]) 3 :: ([bx g14 cs14 46] ++ (Yi ++ (YR ++ [])))) ?_ (fun hmx12 => ?_)
       ·
        rintro _ _
        refine any_fork [0, 4, 7] (by kernel_rfl) (by simp) (each_cons _ rfl ?_ (each_cons _ rfl ?_ (each_cons _ rfl ?_ (each_nil))))
        ·
         refine qo0 1 [(0, .go (owns 0 0 1))] [1, 41, 43, 44] [(38, .pointer (some ⟨gb, 0, none⟩))] ?_
         refine od_ ?_
         exact wk (hmx16 () trivial) [1, 38, 41, 43, 44] [[_], [_], [_], [_], [bx g14 cs14 46], _, _] [0, 1, 2, 3, 4, 5, 6] rfl rfl
        ·
         refine qo0 1 [(4, .go (owns 1 0 1))] [1, 3, 43, 44] [(42, .slice (some ⟨g14, 0, none⟩) m capq)] ?_
         refine od_ ?_
         exact wk (hmx22 () trivial) [1, 3, 42, 43, 44] [[_], [_], [_], [_], [bx g14 cs14 46], _, _] [0, 1, 2, 3, 4, 5, 6] rfl rfl
        ·
         refine qo0 1 [(7, .go (owns 2 0 1))] [3, 41, 43, 44] [(45, .slice p n cap)] ?_
         refine od_ ?_
         exact wk (hmx18 () trivial) [3, 41, 43, 44, 45] [[_], [_], [_], [_], [bx g14 cs14 46], _, _] [0, 1, 2, 3, 4, 5, 6] rfl rfl
       refine any_cutX (V := Unit) (fun _ => True) 10 #[true, true, true, true, false, true, false, false, false, false, false, false, false, false, false] (fun _ => [(1, .pointer (some ⟨gm, 0, none⟩)), (2, .pointer (some ⟨gi, 0, none⟩)), (38, .pointer (some ⟨gb, 0, none⟩)), (41, .pointer (some ⟨gb, 0, none⟩)), (43, .int .i64 (j : Nat))]) (fun _ => bx (γ1 0) (#[.pointer (some ⟨gb, 0, none⟩)]) 72 :: bx gb (#[.slice (some ⟨g14, 0, none⟩) m capq]) 38 :: bx gm (#[.slice p n cap]) 25 :: bx gi (#[.int .i64 (j + 1 : Nat)]) 3 :: ([bx g14 cs14 46] ++ (Yi ++ (YR ++ [])))) ?_ (fun hmx11 => ?_)
       ·
        rintro _ _
        refine any_fork [4, 6, 7] (by kernel_rfl) (by simp) (each_cons _ rfl ?_ (each_cons _ rfl ?_ (each_cons _ rfl ?_ (each_nil))))
        ·
         refine qo0 1 [(4, .go (owns 1 0 1))] [1, 2, 38, 43] [(42, .slice (some ⟨g14, 0, none⟩) m capq)] ?_
         refine od_ ?_
         exact wk (hmx21 () trivial) [1, 2, 38, 42, 43] [[_], [_], [_], [_], [bx g14 cs14 46], _, _] [0, 1, 2, 3, 4, 5, 6] rfl rfl
        ·
         refine qo0 1 [(6, .go (owns 3 0 1))] [1, 38, 41, 43] [(44, .int .i64 (j + 1 : Nat))] ?_
         refine od_ ?_
         exact wk (hmx16 () trivial) [1, 38, 41, 43, 44] [[_], [_], [_], [_], [bx g14 cs14 46], _, _] [0, 1, 2, 3, 4, 5, 6] rfl rfl
        ·
         refine qo0 1 [(7, .go (owns 2 0 1))] [2, 38, 41, 43] [(45, .slice p n cap)] ?_
         refine od_ ?_
         exact wk (hmx17 () trivial) [2, 38, 41, 43, 45] [[_], [_], [_], [_], [bx g14 cs14 46], _, _] [0, 1, 2, 3, 4, 5, 6] rfl rfl
       refine any_cutX (V := (List Ob) × (Nat) × (Option Addr)) (fun ⟨Y192, cq192, q192⟩ => SlO 3 Y192 q192 n cq192 l) 11 #[true, false, false, false, false, true, false, true, true, false, false, false, false, false, false] (fun ⟨Y192, cq192, q192⟩ => [(2, .pointer (some ⟨gi, 0, none⟩)), (3, .pointer (some ⟨γ1 0, 0, none⟩)), (38, .pointer (some ⟨gb, 0, none⟩)), (43, .int .i64 (j : Nat)), (46, .slice q192 n cq192)]) (fun ⟨Y192, cq192, q192⟩ => bx (γ1 0) (#[.pointer (some ⟨gb, 0, none⟩)]) 72 :: bx gb (#[.slice (some ⟨g14, 0, none⟩) m capq]) 38 :: bx gm (#[.slice p n cap]) 25 :: bx gi (#[.int .i64 (j + 1 : Nat)]) 3 :: (Y192 ++ ([bx g14 cs14 46] ++ (Yi ++ (YR ++ []))))) ?_ (fun hmx10 => ?_)
       ·
        rintro ⟨Y192, cq192, q192⟩ hO192
        refine any_fork [1, 6] (by kernel_rfl) (by simp) (each_cons _ rfl ?_ (each_cons _ rfl ?_ (each_nil)))
        ·
         refine qo0 1 [(1, .go (owns 0 0 1))] [2, 38, 43, 46] [(39, .pointer (some ⟨gb, 0, none⟩))] ?_
         refine od_ ?_
         refine tk (m := 8) [2, 3] [] [2, 38, 43, 46] [(41, .pointer (some ⟨gb, 0, none⟩))] ([]) #[true, true, true, true, false, true, false, true, true, false, false, false, false, false, false] al0 ?_
         exact wk (hmx26 (Y192, cq192, q192) hO192) [2, 38, 41, 43, 46] [[_], [_], [_], [_], _, [bx g14 cs14 46], _, _] [0, 1, 2, 3, 4, 5, 6, 7] rfl rfl
        ·
         refine qo0 1 [(6, .go (owns 3 0 1))] [3, 38, 43, 46] [(44, .int .i64 (j + 1 : Nat))] ?_
         refine od_ ?_
         refine tk (m := 9) [9] [] [3, 38, 43] [(47, .agg #[.int .i64 (j + 1 : Nat), .slice q192 n cq192])] ([]) #[true, false, false, false, false, true, true, true, true, true, false, false, false, false, false] al0 ?_
         exact wk (hmx20 (Y192, cq192, q192) hO192) [3, 38, 43, 47] [[_], [_], [_], [_], _, [bx g14 cs14 46], _, _] [0, 1, 2, 3, 4, 5, 6, 7] rfl rfl
       refine any_cutX (V := Unit) (fun _ => True) 11 #[true, false, false, false, false, true, true, true, false, false, false, false, false, false, false] (fun _ => [(3, .pointer (some ⟨γ1 0, 0, none⟩)), (38, .pointer (some ⟨gb, 0, none⟩)), (43, .int .i64 (j : Nat)), (44, .int .i64 (j + 1 : Nat)), (45, .slice p n cap)]) (fun _ => bx (γ1 0) (#[.pointer (some ⟨gb, 0, none⟩)]) 72 :: bx gb (#[.slice (some ⟨g14, 0, none⟩) m capq]) 38 :: bx gm (#[.slice p n cap]) 25 :: bx gi (#[.int .i64 (j + 1 : Nat)]) 3 :: ([bx g14 cs14 46] ++ (Yi ++ (YR ++ [])))) ?_ (fun hmx9 => ?_)
       ·
        rintro _ _
        refine any_fork [1, 8] (by kernel_rfl) (by simp) (each_cons _ rfl ?_ (each_cons _ rfl ?_ (each_nil)))
        ·
         refine qo0 1 [(1, .go (owns 0 0 1))] [38, 43, 44, 45] [(39, .pointer (some ⟨gb, 0, none⟩))] ?_
         refine od_ ?_
         refine tk (m := 8) [2, 3] [] [38, 43, 44, 45] [(41, .pointer (some ⟨gb, 0, none⟩))] ([]) #[true, true, true, true, false, true, true, true, false, false, false, false, false, false, false] al0 ?_
         exact wk (hmx25 () trivial) [38, 41, 43, 44, 45] [[_], [_], [_], [_], [bx g14 cs14 46], _, _] [0, 1, 2, 3, 4, 5, 6] rfl rfl
        ·
         refine cP (fun v L' => ∃ q_ c_ Y_, v = .slice q_ n c_ ∧ L' = List.take 4 (bx (γ1 0) (#[.pointer (some ⟨gb, 0, none⟩)]) 72 :: bx gb (#[.slice (some ⟨g14, 0, none⟩) m capq]) 38 :: bx gm (#[.slice p n cap]) 25 :: bx gi (#[.int .i64 (j + 1 : Nat)]) 3 :: ([bx g14 cs14 46] ++ (Yi ++ (YR ++ [])))) ++ (Y_ ++ List.drop 4 (bx (γ1 0) (#[.pointer (some ⟨gb, 0, none⟩)]) 72 :: bx gb (#[.slice (some ⟨g14, 0, none⟩) m capq]) 38 :: bx gm (#[.slice p n cap]) 25 :: bx gi (#[.int .i64 (j + 1 : Nat)]) 3 :: ([bx g14 cs14 46] ++ (Yi ++ (YR ++ []))))) ∧ SlO 3 Y_ q_ n c_ l) Try.call44 (fun w hw => (cloneints_t p n cap l w (hsl.kept hw.below) hn (by omega)).mono fun e w' ⟨q_, c_, Y_, he, hO, hb, hY⟩ => ⟨_, _, he, ⟨q_, c_, Y_, rfl, rfl, hO⟩, hw.join hb hY 4⟩) ?_
         rintro v192 L192 ⟨q192, cq192, Y192, rfl, rfl, hO192⟩
         refine od_ ?_
         refine tk (m := 9) [9] [] [3, 38, 43] [(47, .agg #[.int .i64 (j + 1 : Nat), .slice q192 n cq192])] ([]) #[true, false, false, false, false, true, true, true, true, true, false, false, false, false, false] al0 ?_
         exact wk (hmx20 (Y192, cq192, q192) hO192) [3, 38, 43, 47] [[_], [_], [_], [_], _, [bx g14 cs14 46], _, _] [0, 1, 2, 3, 4, 5, 6, 7] rfl rfl
       refine any_cutX (V := Unit) (fun _ => True) 11 #[false, true, true, true, false, true, false, false, false, false, false, false, false, false, false] (fun _ => [(1, .pointer (some ⟨gm, 0, none⟩)), (2, .pointer (some ⟨gi, 0, none⟩)), (3, .pointer (some ⟨γ1 0, 0, none⟩)), (41, .pointer (some ⟨gb, 0, none⟩)), (43, .int .i64 (j : Nat))]) (fun _ => bx (γ1 0) (#[.pointer (some ⟨gb, 0, none⟩)]) 72 :: bx gb (#[.slice (some ⟨g14, 0, none⟩) m capq]) 38 :: bx gm (#[.slice p n cap]) 25 :: bx gi (#[.int .i64 (j + 1 : Nat)]) 3 :: ([bx g14 cs14 46] ++ (Yi ++ (YR ++ [])))) ?_ (fun hmx8 => ?_)
       ·
        rintro _ _
        refine any_fork [0, 4, 6, 7] (by kernel_rfl) (by simp) (each_cons _ rfl ?_ (each_cons _ rfl ?_ (each_cons _ rfl ?_ (each_cons _ rfl ?_ (each_nil)))))
        ·
         refine qo0 1 [(0, .go (owns 0 0 1))] [1, 2, 41, 43] [(38, .pointer (some ⟨gb, 0, none⟩))] ?_
         refine od_ ?_
         exact wk (hmx11 () trivial) [1, 2, 38, 41, 43] [[_], [_], [_], [_], [bx g14 cs14 46], _, _] [0, 1, 2, 3, 4, 5, 6] rfl rfl
        ·
         refine qo0 1 [(4, .go (owns 1 0 1))] [1, 2, 3, 43] [(42, .slice (some ⟨g14, 0, none⟩) m capq)] ?_
         refine od_ ?_
         exact wk (hmx15 () trivial) [1, 2, 3, 42, 43] [[_], [_], [_], [_], [bx g14 cs14 46], _, _] [0, 1, 2, 3, 4, 5, 6] rfl rfl
        ·
         refine qo0 1 [(6, .go (owns 3 0 1))] [1, 3, 41, 43] [(44, .int .i64 (j + 1 : Nat))] ?_
         refine od_ ?_
         exact wk (hmx12 () trivial) [1, 3, 41, 43, 44] [[_], [_], [_], [_], [bx g14 cs14 46], _, _] [0, 1, 2, 3, 4, 5, 6] rfl rfl
        ·
         refine qo0 1 [(7, .go (owns 2 0 1))] [2, 3, 41, 43] [(45, .slice p n cap)] ?_
         refine od_ ?_
         exact wk (hmx13 () trivial) [2, 3, 41, 43, 45] [[_], [_], [_], [_], [bx g14 cs14 46], _, _] [0, 1, 2, 3, 4, 5, 6] rfl rfl
       refine any_cutX (V := (List Ob) × (Nat) × (Option Addr)) (fun ⟨Y192, cq192, q192⟩ => SlO 3 Y192 q192 n cq192 l) 12 #[false, false, false, false, false, true, false, true, true, false, false, false, false, false, false] (fun ⟨Y192, cq192, q192⟩ => [(2, .pointer (some ⟨gi, 0, none⟩)), (3, .pointer (some ⟨γ1 0, 0, none⟩)), (43, .int .i64 (j : Nat)), (46, .slice q192 n cq192)]) (fun ⟨Y192, cq192, q192⟩ => bx (γ1 0) (#[.pointer (some ⟨gb, 0, none⟩)]) 72 :: bx gb (#[.slice (some ⟨g14, 0, none⟩) m capq]) 38 :: bx gm (#[.slice p n cap]) 25 :: bx gi (#[.int .i64 (j + 1 : Nat)]) 3 :: (Y192 ++ ([bx g14 cs14 46] ++ (Yi ++ (YR ++ []))))) ?_ (fun hmx7 => ?_)
       ·
        rintro ⟨Y192, cq192, q192⟩ hO192
        refine any_fork [0, 1, 6] (by kernel_rfl) (by simp) (each_cons _ rfl ?_ (each_cons _ rfl ?_ (each_cons _ rfl ?_ (each_nil))))
        ·
         refine qo0 1 [(0, .go (owns 0 0 1))] [2, 3, 43, 46] [(38, .pointer (some ⟨gb, 0, none⟩))] ?_
         refine od_ ?_
         exact wk (hmx10 (Y192, cq192, q192) hO192) [2, 3, 38, 43, 46] [[_], [_], [_], [_], _, [bx g14 cs14 46], _, _] [0, 1, 2, 3, 4, 5, 6, 7] rfl rfl
        ·
         refine qo0 1 [(1, .go (owns 0 0 1))] [2, 3, 43, 46] [(39, .pointer (some ⟨gb, 0, none⟩))] ?_
         refine od_ ?_
         refine tk (m := 9) [2, 3] [] [2, 3, 43, 46] [(41, .pointer (some ⟨gb, 0, none⟩))] ([]) #[false, true, true, true, false, true, false, true, true, false, false, false, false, false, false] al0 ?_
         exact wk (hmx19 (Y192, cq192, q192) hO192) [2, 3, 41, 43, 46] [[_], [_], [_], [_], _, [bx g14 cs14 46], _, _] [0, 1, 2, 3, 4, 5, 6, 7] rfl rfl
        ·
         refine qo0 1 [(6, .go (owns 3 0 1))] [3, 43, 46] [(44, .int .i64 (j + 1 : Nat))] ?_
         refine od_ ?_
         refine tk (m := 10) [9] [] [3, 43] [(47, .agg #[.int .i64 (j + 1 : Nat), .slice q192 n cq192])] ([]) #[false, false, false, false, false, true, true, true, true, true, false, false, false, false, false] al0 ?_
         exact wk (hmx14 (Y192, cq192, q192) hO192) [3, 43, 47] [[_], [_], [_], [_], _, [bx g14 cs14 46], _, _] [0, 1, 2, 3, 4, 5, 6, 7] rfl rfl
       refine any_cutX (V := Unit) (fun _ => True) 12 #[false, false, false, false, false, true, true, true, false, false, false, false, false, false, false] (fun _ => [(3, .pointer (some ⟨γ1 0, 0, none⟩)), (43, .int .i64 (j : Nat)), (44, .int .i64 (j + 1 : Nat)), (45, .slice p n cap)]) (fun _ => bx (γ1 0) (#[.pointer (some ⟨gb, 0, none⟩)]) 72 :: bx gb (#[.slice (some ⟨g14, 0, none⟩) m capq]) 38 :: bx gm (#[.slice p n cap]) 25 :: bx gi (#[.int .i64 (j + 1 : Nat)]) 3 :: ([bx g14 cs14 46] ++ (Yi ++ (YR ++ [])))) ?_ (fun hmx6 => ?_)
       ·
        rintro _ _
        refine any_fork [0, 1, 8] (by kernel_rfl) (by simp) (each_cons _ rfl ?_ (each_cons _ rfl ?_ (each_cons _ rfl ?_ (each_nil))))
        ·
         refine qo0 1 [(0, .go (owns 0 0 1))] [3, 43, 44, 45] [(38, .pointer (some ⟨gb, 0, none⟩))] ?_
         refine od_ ?_
         exact wk (hmx9 () trivial) [3, 38, 43, 44, 45] [[_], [_], [_], [_], [bx g14 cs14 46], _, _] [0, 1, 2, 3, 4, 5, 6] rfl rfl
        ·
         refine qo0 1 [(1, .go (owns 0 0 1))] [3, 43, 44, 45] [(39, .pointer (some ⟨gb, 0, none⟩))] ?_
         refine od_ ?_
         refine tk (m := 9) [2, 3] [] [3, 43, 44, 45] [(41, .pointer (some ⟨gb, 0, none⟩))] ([]) #[false, true, true, true, false, true, true, true, false, false, false, false, false, false, false] al0 ?_
         exact wk (hmx18 () trivial) [3, 41, 43, 44, 45] [[_], [_], [_], [_], [bx g14 cs14 46], _, _] [0, 1, 2, 3, 4, 5, 6] rfl rfl
        ·
         refine cP (fun v L' => ∃ q_ c_ Y_, v = .slice q_ n c_ ∧ L' = List.take 4 (bx (γ1 0) (#[.pointer (some ⟨gb, 0, none⟩)]) 72 :: bx gb (#[.slice (some ⟨g14, 0, none⟩) m capq]) 38 :: bx gm (#[.slice p n cap]) 25 :: bx gi (#[.int .i64 (j + 1 : Nat)]) 3 :: ([bx g14 cs14 46] ++ (Yi ++ (YR ++ [])))) ++ (Y_ ++ List.drop 4 (bx (γ1 0) (#[.pointer (some ⟨gb, 0, none⟩)]) 72 :: bx gb (#[.slice (some ⟨g14, 0, none⟩) m capq]) 38 :: bx gm (#[.slice p n cap]) 25 :: bx gi (#[.int .i64 (j + 1 : Nat)]) 3 :: ([bx g14 cs14 46] ++ (Yi ++ (YR ++ []))))) ∧ SlO 3 Y_ q_ n c_ l) Try.call44 (fun w hw => (cloneints_t p n cap l w (hsl.kept hw.below) hn (by omega)).mono fun e w' ⟨q_, c_, Y_, he, hO, hb, hY⟩ => ⟨_, _, he, ⟨q_, c_, Y_, rfl, rfl, hO⟩, hw.join hb hY 4⟩) ?_
         rintro v192 L192 ⟨q192, cq192, Y192, rfl, rfl, hO192⟩
         refine od_ ?_
         refine tk (m := 10) [9] [] [3, 43] [(47, .agg #[.int .i64 (j + 1 : Nat), .slice q192 n cq192])] ([]) #[false, false, false, false, false, true, true, true, true, true, false, false, false, false, false] al0 ?_
         exact wk (hmx14 (Y192, cq192, q192) hO192) [3, 43, 47] [[_], [_], [_], [_], _, [bx g14 cs14 46], _, _] [0, 1, 2, 3, 4, 5, 6, 7] rfl rfl
       refine any_cutX (V := Unit) (fun _ => True) 12 #[true, false, false, false, false, true, false, true, false, false, false, false, false, false, false] (fun _ => [(2, .pointer (some ⟨gi, 0, none⟩)), (3, .pointer (some ⟨γ1 0, 0, none⟩)), (38, .pointer (some ⟨gb, 0, none⟩)), (43, .int .i64 (j : Nat)), (45, .slice p n cap)]) (fun _ => bx (γ1 0) (#[.pointer (some ⟨gb, 0, none⟩)]) 72 :: bx gb (#[.slice (some ⟨g14, 0, none⟩) m capq]) 38 :: bx gm (#[.slice p n cap]) 25 :: bx gi (#[.int .i64 (j + 1 : Nat)]) 3 :: ([bx g14 cs14 46] ++ (Yi ++ (YR ++ [])))) ?_ (fun hmx5 => ?_)
       ·
        rintro _ _
        refine any_fork [1, 6, 8] (by kernel_rfl) (by simp) (each_cons _ rfl ?_ (each_cons _ rfl ?_ (each_cons _ rfl ?_ (each_nil))))
        ·
         refine qo0 1 [(1, .go (owns 0 0 1))] [2, 38, 43, 45] [(39, .pointer (some ⟨gb, 0, none⟩))] ?_
         refine od_ ?_
         refine tk (m := 9) [2, 3] [] [2, 38, 43, 45] [(41, .pointer (some ⟨gb, 0, none⟩))] ([]) #[true, true, true, true, false, true, false, true, false, false, false, false, false, false, false] al0 ?_
         exact wk (hmx17 () trivial) [2, 38, 41, 43, 45] [[_], [_], [_], [_], [bx g14 cs14 46], _, _] [0, 1, 2, 3, 4, 5, 6] rfl rfl
        ·
         refine qo0 1 [(6, .go (owns 3 0 1))] [3, 38, 43, 45] [(44, .int .i64 (j + 1 : Nat))] ?_
         refine od_ ?_
         exact wk (hmx9 () trivial) [3, 38, 43, 44, 45] [[_], [_], [_], [_], [bx g14 cs14 46], _, _] [0, 1, 2, 3, 4, 5, 6] rfl rfl
        ·
         refine cP (fun v L' => ∃ q_ c_ Y_, v = .slice q_ n c_ ∧ L' = List.take 4 (bx (γ1 0) (#[.pointer (some ⟨gb, 0, none⟩)]) 72 :: bx gb (#[.slice (some ⟨g14, 0, none⟩) m capq]) 38 :: bx gm (#[.slice p n cap]) 25 :: bx gi (#[.int .i64 (j + 1 : Nat)]) 3 :: ([bx g14 cs14 46] ++ (Yi ++ (YR ++ [])))) ++ (Y_ ++ List.drop 4 (bx (γ1 0) (#[.pointer (some ⟨gb, 0, none⟩)]) 72 :: bx gb (#[.slice (some ⟨g14, 0, none⟩) m capq]) 38 :: bx gm (#[.slice p n cap]) 25 :: bx gi (#[.int .i64 (j + 1 : Nat)]) 3 :: ([bx g14 cs14 46] ++ (Yi ++ (YR ++ []))))) ∧ SlO 3 Y_ q_ n c_ l) Try.call44 (fun w hw => (cloneints_t p n cap l w (hsl.kept hw.below) hn (by omega)).mono fun e w' ⟨q_, c_, Y_, he, hO, hb, hY⟩ => ⟨_, _, he, ⟨q_, c_, Y_, rfl, rfl, hO⟩, hw.join hb hY 4⟩) ?_
         rintro v192 L192 ⟨q192, cq192, Y192, rfl, rfl, hO192⟩
         refine od_ ?_
         exact wk (hmx10 (Y192, cq192, q192) hO192) [2, 3, 38, 43, 46] [[_], [_], [_], [_], _, [bx g14 cs14 46], _, _] [0, 1, 2, 3, 4, 5, 6, 7] rfl rfl
       refine any_cutX (V := Unit) (fun _ => True) 12 #[true, false, false, false, false, true, true, false, false, false, false, false, false, false, false] (fun _ => [(1, .pointer (some ⟨gm, 0, none⟩)), (3, .pointer (some ⟨γ1 0, 0, none⟩)), (38, .pointer (some ⟨gb, 0, none⟩)), (43, .int .i64 (j : Nat)), (44, .int .i64 (j + 1 : Nat))]) (fun _ => bx (γ1 0) (#[.pointer (some ⟨gb, 0, none⟩)]) 72 :: bx gb (#[.slice (some ⟨g14, 0, none⟩) m capq]) 38 :: bx gm (#[.slice p n cap]) 25 :: bx gi (#[.int .i64 (j + 1 : Nat)]) 3 :: ([bx g14 cs14 46] ++ (Yi ++ (YR ++ [])))) ?_ (fun hmx4 => ?_)
       ·
        rintro _ _
        refine any_fork [1, 7] (by kernel_rfl) (by simp) (each_cons _ rfl ?_ (each_cons _ rfl ?_ (each_nil)))
        ·
         refine qo0 1 [(1, .go (owns 0 0 1))] [1, 38, 43, 44] [(39, .pointer (some ⟨gb, 0, none⟩))] ?_
         refine od_ ?_
         refine tk (m := 9) [2, 3] [] [1, 38, 43, 44] [(41, .pointer (some ⟨gb, 0, none⟩))] ([]) #[true, true, true, true, false, true, true, false, false, false, false, false, false, false, false] al0 ?_
         exact wk (hmx16 () trivial) [1, 38, 41, 43, 44] [[_], [_], [_], [_], [bx g14 cs14 46], _, _] [0, 1, 2, 3, 4, 5, 6] rfl rfl
        ·
         refine qo0 1 [(7, .go (owns 2 0 1))] [3, 38, 43, 44] [(45, .slice p n cap)] ?_
         refine od_ ?_
         exact wk (hmx9 () trivial) [3, 38, 43, 44, 45] [[_], [_], [_], [_], [bx g14 cs14 46], _, _] [0, 1, 2, 3, 4, 5, 6] rfl rfl
       refine any_cutX (V := Unit) (fun _ => True) 13 #[false, false, false, false, false, true, false, true, false, false, false, false, false, false, false] (fun _ => [(2, .pointer (some ⟨gi, 0, none⟩)), (3, .pointer (some ⟨γ1 0, 0, none⟩)), (43, .int .i64 (j : Nat)), (45, .slice p n cap)]) (fun _ => bx (γ1 0) (#[.pointer (some ⟨gb, 0, none⟩)]) 72 :: bx gb (#[.slice (some ⟨g14, 0, none⟩) m capq]) 38 :: bx gm (#[.slice p n cap]) 25 :: bx gi (#[.int .i64 (j + 1 : Nat)]) 3 :: ([bx g14 cs14 46] ++ (Yi ++ (YR ++ [])))) ?_ (fun hmx3 => ?_)
       ·
        rintro _ _
        refine any_fork [0, 1, 6, 8] (by kernel_rfl) (by simp) (each_cons _ rfl ?_ (each_cons _ rfl ?_ (each_cons _ rfl ?_ (each_cons _ rfl ?_ (each_nil)))))
        ·
         refine qo0 1 [(0, .go (owns 0 0 1))] [2, 3, 43, 45] [(38, .pointer (some ⟨gb, 0, none⟩))] ?_
         refine od_ ?_
         exact wk (hmx5 () trivial) [2, 3, 38, 43, 45] [[_], [_], [_], [_], [bx g14 cs14 46], _, _] [0, 1, 2, 3, 4, 5, 6] rfl rfl
        ·
         refine qo0 1 [(1, .go (owns 0 0 1))] [2, 3, 43, 45] [(39, .pointer (some ⟨gb, 0, none⟩))] ?_
         refine od_ ?_
         refine tk (m := 10) [2, 3] [] [2, 3, 43, 45] [(41, .pointer (some ⟨gb, 0, none⟩))] ([]) #[false, true, true, true, false, true, false, true, false, false, false, false, false, false, false] al0 ?_
         exact wk (hmx13 () trivial) [2, 3, 41, 43, 45] [[_], [_], [_], [_], [bx g14 cs14 46], _, _] [0, 1, 2, 3, 4, 5, 6] rfl rfl
        ·
         refine qo0 1 [(6, .go (owns 3 0 1))] [3, 43, 45] [(44, .int .i64 (j + 1 : Nat))] ?_
         refine od_ ?_
         exact wk (hmx6 () trivial) [3, 43, 44, 45] [[_], [_], [_], [_], [bx g14 cs14 46], _, _] [0, 1, 2, 3, 4, 5, 6] rfl rfl
        ·
         refine cP (fun v L' => ∃ q_ c_ Y_, v = .slice q_ n c_ ∧ L' = List.take 4 (bx (γ1 0) (#[.pointer (some ⟨gb, 0, none⟩)]) 72 :: bx gb (#[.slice (some ⟨g14, 0, none⟩) m capq]) 38 :: bx gm (#[.slice p n cap]) 25 :: bx gi (#[.int .i64 (j + 1 : Nat)]) 3 :: ([bx g14 cs14 46] ++ (Yi ++ (YR ++ [])))) ++ (Y_ ++ List.drop 4 (bx (γ1 0) (#[.pointer (some ⟨gb, 0, none⟩)]) 72 :: bx gb (#[.slice (some ⟨g14, 0, none⟩) m capq]) 38 :: bx gm (#[.slice p n cap]) 25 :: bx gi (#[.int .i64 (j + 1 : Nat)]) 3 :: ([bx g14 cs14 46] ++ (Yi ++ (YR ++ []))))) ∧ SlO 3 Y_ q_ n c_ l) Try.call44 (fun w hw => (cloneints_t p n cap l w (hsl.kept hw.below) hn (by omega)).mono fun e w' ⟨q_, c_, Y_, he, hO, hb, hY⟩ => ⟨_, _, he, ⟨q_, c_, Y_, rfl, rfl, hO⟩, hw.join hb hY 4⟩) ?_
         rintro v192 L192 ⟨q192, cq192, Y192, rfl, rfl, hO192⟩
         refine od_ ?_
         exact wk (hmx7 (Y192, cq192, q192) hO192) [2, 3, 43, 46] [[_], [_], [_], [_], _, [bx g14 cs14 46], _, _] [0, 1, 2, 3, 4, 5, 6, 7] rfl rfl
       refine any_cutX (V := Unit) (fun _ => True) 13 #[false, false, false, false, false, true, true, false, false, false, false, false, false, false, false] (fun _ => [(1, .pointer (some ⟨gm, 0, none⟩)), (3, .pointer (some ⟨γ1 0, 0, none⟩)), (43, .int .i64 (j : Nat)), (44, .int .i64 (j + 1 : Nat))]) (fun _ => bx (γ1 0) (#[.pointer (some ⟨gb, 0, none⟩)]) 72 :: bx gb (#[.slice (some ⟨g14, 0, none⟩) m capq]) 38 :: bx gm (#[.slice p n cap]) 25 :: bx gi (#[.int .i64 (j + 1 : Nat)]) 3 :: ([bx g14 cs14 46] ++ (Yi ++ (YR ++ [])))) ?_ (fun hmx2 => ?_)
       ·
        rintro _ _
        refine any_fork [0, 1, 7] (by kernel_rfl) (by simp) (each_cons _ rfl ?_ (each_cons _ rfl ?_ (each_cons _ rfl ?_ (each_nil))))
        ·
         refine qo0 1 [(0, .go (owns 0 0 1))] [1, 3, 43, 44] [(38, .pointer (some ⟨gb, 0, none⟩))] ?_
         refine od_ ?_
         exact wk (hmx4 () trivial) [1, 3, 38, 43, 44] [[_], [_], [_], [_], [bx g14 cs14 46], _, _] [0, 1, 2, 3, 4, 5, 6] rfl rfl
        ·
         refine qo0 1 [(1, .go (owns 0 0 1))] [1, 3, 43, 44] [(39, .pointer (some ⟨gb, 0, none⟩))] ?_
         refine od_ ?_
         refine tk (m := 10) [2, 3] [] [1, 3, 43, 44] [(41, .pointer (some ⟨gb, 0, none⟩))] ([]) #[false, true, true, true, false, true, true, false, false, false, false, false, false, false, false] al0 ?_
         exact wk (hmx12 () trivial) [1, 3, 41, 43, 44] [[_], [_], [_], [_], [bx g14 cs14 46], _, _] [0, 1, 2, 3, 4, 5, 6] rfl rfl
        ·
         refine qo0 1 [(7, .go (owns 2 0 1))] [3, 43, 44] [(45, .slice p n cap)] ?_
         refine od_ ?_
         exact wk (hmx6 () trivial) [3, 43, 44, 45] [[_], [_], [_], [_], [bx g14 cs14 46], _, _] [0, 1, 2, 3, 4, 5, 6] rfl rfl
       refine any_cutX (V := Unit) (fun _ => True) 13 #[true, false, false, false, false, true, false, false, false, false, false, false, false, false, false] (fun _ => [(1, .pointer (some ⟨gm, 0, none⟩)), (2, .pointer (some ⟨gi, 0, none⟩)), (3, .pointer (some ⟨γ1 0, 0, none⟩)), (38, .pointer (some ⟨gb, 0, none⟩)), (43, .int .i64 (j : Nat))]) (fun _ => bx (γ1 0) (#[.pointer (some ⟨gb, 0, none⟩)]) 72 :: bx gb (#[.slice (some ⟨g14, 0, none⟩) m capq]) 38 :: bx gm (#[.slice p n cap]) 25 :: bx gi (#[.int .i64 (j + 1 : Nat)]) 3 :: ([bx g14 cs14 46] ++ (Yi ++ (YR ++ [])))) ?_ (fun hmx1 => ?_)
       ·
        rintro _ _
        refine any_fork [1, 6, 7] (by kernel_rfl) (by simp) (each_cons _ rfl ?_ (each_cons _ rfl ?_ (each_cons _ rfl ?_ (each_nil))))
        ·
         refine qo0 1 [(1, .go (owns 0 0 1))] [1, 2, 38, 43] [(39, .pointer (some ⟨gb, 0, none⟩))] ?_
         refine od_ ?_
         refine tk (m := 10) [2, 3] [] [1, 2, 38, 43] [(41, .pointer (some ⟨gb, 0, none⟩))] ([]) #[true, true, true, true, false, true, false, false, false, false, false, false, false, false, false] al0 ?_
         exact wk (hmx11 () trivial) [1, 2, 38, 41, 43] [[_], [_], [_], [_], [bx g14 cs14 46], _, _] [0, 1, 2, 3, 4, 5, 6] rfl rfl
        ·
         refine qo0 1 [(6, .go (owns 3 0 1))] [1, 3, 38, 43] [(44, .int .i64 (j + 1 : Nat))] ?_
         refine od_ ?_
         exact wk (hmx4 () trivial) [1, 3, 38, 43, 44] [[_], [_], [_], [_], [bx g14 cs14 46], _, _] [0, 1, 2, 3, 4, 5, 6] rfl rfl
        ·
         refine qo0 1 [(7, .go (owns 2 0 1))] [2, 3, 38, 43] [(45, .slice p n cap)] ?_
         refine od_ ?_
         exact wk (hmx5 () trivial) [2, 3, 38, 43, 45] [[_], [_], [_], [_], [bx g14 cs14 46], _, _] [0, 1, 2, 3, 4, 5, 6] rfl rfl
       refine any_fork [0, 1, 6, 7] (by kernel_rfl) (by simp) (each_cons _ rfl ?_ (each_cons _ rfl ?_ (each_cons _ rfl ?_ (each_cons _ rfl ?_ (each_nil)))))
       ·
        refine qo0 1 [(0, .go (owns 0 0 1))] [1, 2, 3, 43] [(38, .pointer (some ⟨gb, 0, none⟩))] ?_
        refine od_ ?_
        exact wk (hmx1 () trivial) [1, 2, 3, 38, 43] [[_], [_], [_], [_], [bx g14 cs14 46], _, _] [0, 1, 2, 3, 4, 5, 6] rfl rfl
       ·
        refine qo0 1 [(1, .go (owns 0 0 1))] [1, 2, 3, 43] [(39, .pointer (some ⟨gb, 0, none⟩))] ?_
        refine od_ ?_
        refine tk (m := 11) [2, 3] [] [1, 2, 3, 43] [(41, .pointer (some ⟨gb, 0, none⟩))] ([]) #[false, true, true, true, false, true, false, false, false, false, false, false, false, false, false] al0 ?_
        exact wk (hmx8 () trivial) [1, 2, 3, 41, 43] [[_], [_], [_], [_], [bx g14 cs14 46], _, _] [0, 1, 2, 3, 4, 5, 6] rfl rfl
       ·
        refine qo0 1 [(6, .go (owns 3 0 1))] [1, 3, 43] [(44, .int .i64 (j + 1 : Nat))] ?_
        refine od_ ?_
        exact wk (hmx2 () trivial) [1, 3, 43, 44] [[_], [_], [_], [_], [bx g14 cs14 46], _, _] [0, 1, 2, 3, 4, 5, 6] rfl rfl
       ·
        refine qo0 1 [(7, .go (owns 2 0 1))] [2, 3, 43] [(45, .slice p n cap)] ?_
        refine od_ ?_
        exact wk (hmx3 () trivial) [2, 3, 43, 45] [[_], [_], [_], [_], [bx g14 cs14 46], _, _] [0, 1, 2, 3, 4, 5, 6] rfl rfl
      rintro ⟨Y192, Y252, cq192, cq252, q192, q252, γ232⟩ ⟨hO192, hO252⟩
      refine any_nil (by kernel_rfl) ?_
      refine ds_ (sq_ (qa0 [] [] [(4, .int .i64 0)] (ds_ (rt ([]) (.int .i64 0) ?_))))
      obtain ⟨Yq, hpq, hGq⟩ := GotG.ins (x := (⟨(j + 1 : Nat), q192, n, cq192, l⟩ : GngA)) hG hO192 (show j ≤ bl.length by omega)
      exact fun w' hw => ⟨_, _, _, _, _, Yq, (bl.take j ++ [(⟨(j + 1 : Nat), q192, n, cq192, l⟩ : GngA)] ++ bl.drop j), _, rfl, by rw [inG_val] at q8; rw [fc_ok q3 q8 hI (by omega), val_ins]; rfl, hO252, hGq, form_perm hpq (by have := Hs.pick [[bx (γ1 0) (#[.pointer (some ⟨gb, 0, none⟩)]) 72], [bx gb (#[.slice q252 (m + 1) cq252]) 38], [bx gm (#[.slice p n cap]) 25], [bx gi (#[.int .i64 (j + 1 : Nat)]) 3], Y192, Y252, Yi, YR] [1, 2, 3, 5, 6, 4, 7] [0] (by kernel_rfl) hw; simpa [chunk] using this)⟩
   ·
    refine ao_ (qo 14 [(1, .go (owns 0 0 1)), (4, .go (owns 1 0 1)), (6, .no)] [1, 2, 3, 5] [(19, .bool false), (25, undef)] ([¬ (((j : Nat) : Int) < ((m : Nat) : Int))]) (al1 q12) (qo0 6 [] [1, 2, 3, 5] [(31, .bool false)] (on_ (ds_ (f_ (at_leave _ rfl (ds_ (sq_ (sq_ ?_)))))))))
    rw [show (bl.map GngA.val).drop j = [] from List.drop_of_length_le (by rw [List.length_map]; omega)] at hI
    have hI : j = gapV 0 (bl.map GngA.val) := hI
    by_cases q422 : ((j : Nat) : Int) = (8 : Int)
    ·
     refine qa [(1, .yes)] [1, 2, 3, 5] [(35, .bool true)] ([((j : Nat) : Int) = (8 : Int)]) (al1 q422) (ds_ (t_ (sq_ (qa0 [] [] [(4, .int .i64 6)] (ds_ (rt ([]) (.int .i64 6) ?_))))))
     exact fun w' hw => ⟨_, _, _, _, _, _, bl, 0, rfl, by rw [inG_val] at q8; exact (fc_full q3 q8 hI (by omega)).symm, hO, hG, (by have := Hs.pick [[bx (γ1 0) (#[.pointer (some ⟨gb, 0, none⟩)]) 72], [bx gb (#[.slice q m capq]) 38], [bx gm (#[.slice p n cap]) 25], [bx gi (#[.int .i64 0]) 3], Y, Yi, YR] [1, 2, 3, 4, 5, 6] [0] (by kernel_rfl) hw; simpa [chunk] using this)⟩
    ·
     refine qa [(1, .no)] [1, 2, 3, 5] [(35, .bool false)] ([¬ (((j : Nat) : Int) = (8 : Int))]) (al1 q422) (ds_ (f_ (at_skip (ds_ (sq_ (ma [(1, .fit), (2, .go (owns 3 0 1))] [1, 2, 3, 5] (fun _ => []) (fun _ L => (L.set 3 (bx gi (#[.int .i64 (j + 1 : Nat)]) 3))) (fun _ => [Fit .i64 ((j + 1 : Nat))]) (fun _ => (al1 (fit64 (by omega) (by omega)))) (fun _ => ds_ (sq_ ?_))))))))
     refine at_any (by kernel_rfl) ?_
     refine tk (m := 14) [5] [] [1, 2, 3] [(43, .int .i64 (j : Nat))] ([]) #[false, false, false, false, false, true, false, false, false, false, false, false, false, false, false] al0 ?_
     refine any_cutX (V := (List Ob) × (List Ob) × (Nat) × (Nat) × (Option Addr) × (Option Addr) × (Nat → Nat)) (fun ⟨Y590, Y650, cq590, cq650, q590, q650, γ630⟩ => SlO 3 Y590 q590 n cq590 l ∧ SlO 46 Y650 q650 (m + 1) cq650 (bl.take j ++ [(⟨(j + 1 : Nat), q590, n, cq590, l⟩ : GngA)] ++ bl.drop j)) 0 #[true, true, true, true, true, true, true, true, true, true, true, true, true, true, true] (fun ⟨Y590, Y650, cq590, cq650, q590, q650, γ630⟩ => []) (fun ⟨Y590, Y650, cq590, cq650, q590, q650, γ630⟩ => bx (γ1 0) (#[.pointer (some ⟨gb, 0, none⟩)]) 72 :: bx gb (#[.slice q650 (m + 1) cq650]) 38 :: bx gm (#[.slice p n cap]) 25 :: bx gi (#[.int .i64 (j + 1 : Nat)]) 3 :: (Y590 ++ (Y650 ++ (Yi ++ (YR ++ []))))) ?_ (fun hmx44 => ?_)
     rotate_left
     ·
      refine any_cutX (V := (List Ob) × (List Ob) × (Nat) × (Nat) × (Option Addr) × (Option Addr) × (Nat → Nat)) (fun ⟨Y590, Y650, cq590, cq650, q590, q650, γ630⟩ => SlO 3 Y590 q590 n cq590 l ∧ SlO 46 Y650 q650 (m + 1) cq650 (bl.take j ++ [(⟨(j + 1 : Nat), q590, n, cq590, l⟩ : GngA)] ++ bl.drop j)) 1 #[true, true, true, true, true, true, true, true, true, true, true, true, true, true, false] (fun ⟨Y590, Y650, cq590, cq650, q590, q650, γ630⟩ => [(49, .slice q650 (m + 1) cq650), (51, .pointer (some ⟨gb, 0, none⟩))]) (fun ⟨Y590, Y650, cq590, cq650, q590, q650, γ630⟩ => bx (γ1 0) (#[.pointer (some ⟨gb, 0, none⟩)]) 72 :: bx gb (#[.slice q m capq]) 38 :: bx gm (#[.slice p n cap]) 25 :: bx gi (#[.int .i64 (j + 1 : Nat)]) 3 :: (Y590 ++ (Y650 ++ (Yi ++ (YR ++ []))))) ?_ (fun hmx43 => ?_)
      ·
       rintro ⟨Y590, Y650, cq590, cq650, q590, q650, γ630⟩ ⟨hO590, hO650⟩
       refine a1 14 rfl ?_
       refine mo0 1 [(14, .go (owns 1 0 1))] [] (fun _ => []) (fun _ L => (L.set 1 (bx gb (#[.slice q650 (m + 1) cq650]) 38))) (fun _ => ?_)
       refine od_ ?_
       exact wk (hmx44 (Y590, Y650, cq590, cq650, q590, q650, γ630) ⟨hO590, hO650⟩) [] [[_], [_], [_], [_], _, _, _, _] [0, 1, 2, 3, 4, 5, 6, 7] rfl rfl
      refine any_cutX (V := (List Ob) × (List Ob) × (Nat) × (Nat) × (Option Addr) × (Option Addr) × (Nat → Nat)) (fun ⟨Y590, Y650, cq590, cq650, q590, q650, γ630⟩ => SlO 3 Y590 q590 n cq590 l ∧ SlO 46 Y650 q650 (m + 1) cq650 (bl.take j ++ [(⟨(j + 1 : Nat), q590, n, cq590, l⟩ : GngA)] ++ bl.drop j)) 4 #[false, true, true, true, true, true, true, true, true, true, true, true, false, false, false] (fun ⟨Y590, Y650, cq590, cq650, q590, q650, γ630⟩ => [(3, .pointer (some ⟨γ1 0, 0, none⟩)), (49, .slice q650 (m + 1) cq650)]) (fun ⟨Y590, Y650, cq590, cq650, q590, q650, γ630⟩ => bx (γ1 0) (#[.pointer (some ⟨gb, 0, none⟩)]) 72 :: bx gb (#[.slice q m capq]) 38 :: bx gm (#[.slice p n cap]) 25 :: bx gi (#[.int .i64 (j + 1 : Nat)]) 3 :: (Y590 ++ (Y650 ++ (Yi ++ (YR ++ []))))) ?_ (fun hmx42 => ?_)
      ·
       rintro ⟨Y590, Y650, cq590, cq650, q590, q650, γ630⟩ ⟨hO590, hO650⟩
       refine a1 0 rfl ?_
       refine qo0 1 [(0, .go (owns 0 0 1))] [49] [(38, .pointer (some ⟨gb, 0, none⟩))] ?_
       refine od_ ?_
       refine tk (m := 1) [12, 13] [] [49] [(51, .pointer (some ⟨gb, 0, none⟩))] ([]) #[true, true, true, true, true, true, true, true, true, true, true, true, true, true, false] al0 ?_
       exact wk (hmx43 (Y590, Y650, cq590, cq650, q590, q650, γ630) ⟨hO590, hO650⟩) [49, 51] [[_], [_], [_], [_], _, _, _, _] [0, 1, 2, 3, 4, 5, 6, 7] rfl rfl
      refine any_cutX (V := (List Ob) × (Nat) × (Option Addr) × (Nat → Nat)) (fun ⟨Y590, cq590, q590, γ630⟩ => SlO 3 Y590 q590 n cq590 l) 4 #[true, true, true, true, true, true, true, true, true, true, true, false, false, false, false] (fun ⟨Y590, cq590, q590, γ630⟩ => [(38, .pointer (some ⟨gb, 0, none⟩)), (42, .slice q m capq), (43, .int .i64 (j : Nat)), (48, .slice (some ⟨γ630 0, 0, none⟩) 1 1)]) (fun ⟨Y590, cq590, q590, γ630⟩ => bx (γ630 0) (#[.int .i64 (j + 1 : Nat), .slice q590 n cq590]) 46 :: bx (γ1 0) (#[.pointer (some ⟨gb, 0, none⟩)]) 72 :: bx gb (#[.slice q m capq]) 38 :: bx gm (#[.slice p n cap]) 25 :: bx gi (#[.int .i64 (j + 1 : Nat)]) 3 :: (Y590 ++ (Y ++ (Yi ++ (YR ++ []))))) ?_ (fun hmx41 => ?_)
      ·
       rintro ⟨Y590, cq590, q590, γ630⟩ hO590
       refine a1 11 rfl ?_
       refine Ops.pick [[bx (γ630 0) (#[.int .i64 (j + 1 : Nat), .slice q590 n cq590]) 46], [bx (γ1 0) (#[.pointer (some ⟨gb, 0, none⟩)]) 72], [bx gb (#[.slice q m capq]) 38], [bx gm (#[.slice p n cap]) 25], [bx gi (#[.int .i64 (j + 1 : Nat)]) 3], Y590, Y, Yi, YR] [0, 1, 2, 3, 4, 6, 5, 7, 8] [] (bx (γ630 0) (#[.int .i64 (j + 1 : Nat), .slice q590 n cq590]) 46 :: bx (γ1 0) (#[.pointer (some ⟨gb, 0, none⟩)]) 72 :: bx gb (#[.slice q m capq]) 38 :: bx gm (#[.slice p n cap]) 25 :: bx gi (#[.int .i64 (j + 1 : Nat)]) 3 :: (Y ++ (Y590 ++ (Yi ++ (YR ++ []))))) (by kernel_rfl) rfl rfl (cP (fun v L' => ∃ q_ capq_ Y_, v = .slice q_ (m + 1) capq_ ∧ L' = [bx (γ1 0) (#[.pointer (some ⟨gb, 0, none⟩)]) 72, bx gb (#[.slice q m capq]) 38, bx gm (#[.slice p n cap]) 25, bx gi (#[.int .i64 (j + 1 : Nat)]) 3] ++ (Y_ ++ (Y590 ++ (Yi ++ (YR ++ [])))) ∧ SlO 46 Y_ q_ (m + 1) capq_ (bl.take j ++ [(⟨(j + 1 : Nat), q590, n, cq590, l⟩ : GngA)] ++ bl.drop j)) Try.call54 (fun w hw => (ginsert_t _ ([bx (γ1 0) (#[.pointer (some ⟨gb, 0, none⟩)]) 72, bx gb (#[.slice q m capq]) 38, bx gm (#[.slice p n cap]) 25, bx gi (#[.int .i64 (j + 1 : Nat)]) 3] ++ (Y590 ++ (Yi ++ (YR ++ [])))) Y q m capq bl j (γ630 0) (#[.int .i64 (j + 1 : Nat), .slice q590 n cq590]) 1 ([(⟨(j + 1 : Nat), q590, n, cq590, l⟩ : GngA)]) w (hw.pull (A := [bx (γ1 0) (#[.pointer (some ⟨gb, 0, none⟩)]) 72, bx gb (#[.slice q m capq]) 38, bx gm (#[.slice p n cap]) 25, bx gi (#[.int .i64 (j + 1 : Nat)]) 3]) (Y := Y) (R := (Y590 ++ (Yi ++ (YR ++ []))))) hO (by rfl) (by rfl) (by omega) (by omega) (by omega) (by omega)).mono fun e w' ⟨q_, capq_, Y_, he, hO, hY⟩ => ⟨_, _, he, ⟨q_, capq_, Y_, rfl, rfl, hO⟩, hY.push⟩) ?_)
       rintro v650 L650 ⟨q650, cq650, Y650, rfl, rfl, hO650⟩
       refine od_ ?_
       refine tk (m := 1) [12, 13] [] [49] [(51, .pointer (some ⟨gb, 0, none⟩))] ([]) #[true, true, true, true, true, true, true, true, true, true, true, true, true, true, false] al0 ?_
       exact wk (hmx43 (Y590, Y650, cq590, cq650, q590, q650, γ630) ⟨hO590, hO650⟩) [49, 51] [[_], [_], [_], [_], _, _, _, _] [0, 1, 2, 3, 5, 4, 6, 7] rfl rfl
      refine any_cutX (V := (List Ob) × (Nat) × (Option Addr) × (Nat → Nat)) (fun ⟨Y590, cq590, q590, γ630⟩ => SlO 3 Y590 q590 n cq590 l) 5 #[false, true, true, true, true, true, true, true, true, true, true, false, false, false, false] (fun ⟨Y590, cq590, q590, γ630⟩ => [(3, .pointer (some ⟨γ1 0, 0, none⟩)), (42, .slice q m capq), (43, .int .i64 (j : Nat)), (48, .slice (some ⟨γ630 0, 0, none⟩) 1 1)]) (fun ⟨Y590, cq590, q590, γ630⟩ => bx (γ630 0) (#[.int .i64 (j + 1 : Nat), .slice q590 n cq590]) 46 :: bx (γ1 0) (#[.pointer (some ⟨gb, 0, none⟩)]) 72 :: bx gb (#[.slice q m capq]) 38 :: bx gm (#[.slice p n cap]) 25 :: bx gi (#[.int .i64 (j + 1 : Nat)]) 3 :: (Y590 ++ (Y ++ (Yi ++ (YR ++ []))))) ?_ (fun hmx40 => ?_)
      ·
       rintro ⟨Y590, cq590, q590, γ630⟩ hO590
       refine any_fork [0, 11] (by kernel_rfl) (by simp) (each_cons _ rfl ?_ (each_cons _ rfl ?_ (each_nil)))
       ·
        refine qo0 1 [(0, .go (owns 1 0 1))] [42, 43, 48] [(38, .pointer (some ⟨gb, 0, none⟩))] ?_
        refine od_ ?_
        exact wk (hmx41 (Y590, cq590, q590, γ630) hO590) [38, 42, 43, 48] [[_], [_], [_], [_], [_], _, _, _, _] [0, 1, 2, 3, 4, 5, 6, 7, 8] rfl rfl
       ·
        refine Ops.pick [[bx (γ630 0) (#[.int .i64 (j + 1 : Nat), .slice q590 n cq590]) 46], [bx (γ1 0) (#[.pointer (some ⟨gb, 0, none⟩)]) 72], [bx gb (#[.slice q m capq]) 38], [bx gm (#[.slice p n cap]) 25], [bx gi (#[.int .i64 (j + 1 : Nat)]) 3], Y590, Y, Yi, YR] [0, 1, 2, 3, 4, 6, 5, 7, 8] [] (bx (γ630 0) (#[.int .i64 (j + 1 : Nat), .slice q590 n cq590]) 46 :: bx (γ1 0) (#[.pointer (some ⟨gb, 0, none⟩)]) 72 :: bx gb (#[.slice q m capq]) 38 :: bx gm (#[.slice p n cap]) 25 :: bx gi (#[.int .i64 (j + 1 : Nat)]) 3 :: (Y ++ (Y590 ++ (Yi ++ (YR ++ []))))) (by kernel_rfl) rfl rfl (cP (fun v L' => ∃ q_ capq_ Y_, v = .slice q_ (m + 1) capq_ ∧ L' = [bx (γ1 0) (#[.pointer (some ⟨gb, 0, none⟩)]) 72, bx gb (#[.slice q m capq]) 38, bx gm (#[.slice p n cap]) 25, bx gi (#[.int .i64 (j + 1 : Nat)]) 3] ++ (Y_ ++ (Y590 ++ (Yi ++ (YR ++ [])))) ∧ SlO 46 Y_ q_ (m + 1) capq_ (bl.take j ++ [(⟨(j + 1 : Nat), q590, n, cq590, l⟩ : GngA)] ++ bl.drop j)) Try.call54 (fun w hw => (ginsert_t _ ([bx (γ1 0) (#[.pointer (some ⟨gb, 0, none⟩)]) 72, bx gb (#[.slice q m capq]) 38, bx gm (#[.slice p n cap]) 25, bx gi (#[.int .i64 (j + 1 : Nat)]) 3] ++ (Y590 ++ (Yi ++ (YR ++ [])))) Y q m capq bl j (γ630 0) (#[.int .i64 (j + 1 : Nat), .slice q590 n cq590]) 1 ([(⟨(j + 1 : Nat), q590, n, cq590, l⟩ : GngA)]) w (hw.pull (A := [bx (γ1 0) (#[.pointer (some ⟨gb, 0, none⟩)]) 72, bx gb (#[.slice q m capq]) 38, bx gm (#[.slice p n cap]) 25, bx gi (#[.int .i64 (j + 1 : Nat)]) 3]) (Y := Y) (R := (Y590 ++ (Yi ++ (YR ++ []))))) hO (by rfl) (by rfl) (by omega) (by omega) (by omega) (by omega)).mono fun e w' ⟨q_, capq_, Y_, he, hO, hY⟩ => ⟨_, _, he, ⟨q_, capq_, Y_, rfl, rfl, hO⟩, hY.push⟩) ?_)
        rintro v650 L650 ⟨q650, cq650, Y650, rfl, rfl, hO650⟩
        refine od_ ?_
        exact wk (hmx42 (Y590, Y650, cq590, cq650, q590, q650, γ630) ⟨hO590, hO650⟩) [3, 49] [[_], [_], [_], [_], _, _, _, _] [0, 1, 2, 3, 5, 4, 6, 7] rfl rfl
      refine any_cutX (V := (List Ob) × (Nat) × (Option Addr)) (fun ⟨Y590, cq590, q590⟩ => SlO 3 Y590 q590 n cq590 l) 5 #[true, true, true, true, true, true, true, true, true, true, false, false, false, false, false] (fun ⟨Y590, cq590, q590⟩ => [(38, .pointer (some ⟨gb, 0, none⟩)), (42, .slice q m capq), (43, .int .i64 (j : Nat)), (47, .agg #[.int .i64 (j + 1 : Nat), .slice q590 n cq590])]) (fun ⟨Y590, cq590, q590⟩ => bx (γ1 0) (#[.pointer (some ⟨gb, 0, none⟩)]) 72 :: bx gb (#[.slice q m capq]) 38 :: bx gm (#[.slice p n cap]) 25 :: bx gi (#[.int .i64 (j + 1 : Nat)]) 3 :: (Y590 ++ (Y ++ (Yi ++ (YR ++ []))))) ?_ (fun hmx39 => ?_)
      ·
       rintro ⟨Y590, cq590, q590⟩ hO590
       refine a1 10 rfl ?_
       refine mo0 1 [] [38, 42, 43] (fun γ630 => [(48, .slice (some ⟨γ630 0, 0, none⟩) 1 1)]) (fun γ630 L => bx (γ630 0) (#[.int .i64 (j + 1 : Nat), .slice q590 n cq590]) 46 :: L) (fun γ630 => ?_)
       refine od_ ?_
       exact wk (hmx41 (Y590, cq590, q590, γ630) hO590) [38, 42, 43, 48] [[_], [_], [_], [_], [_], _, _, _, _] [0, 1, 2, 3, 4, 5, 6, 7, 8] rfl rfl
      refine any_cutX (V := (List Ob) × (Nat) × (Option Addr) × (Nat → Nat)) (fun ⟨Y590, cq590, q590, γ630⟩ => SlO 3 Y590 q590 n cq590 l) 5 #[true, true, true, true, false, true, true, true, true, true, true, false, false, false, false] (fun ⟨Y590, cq590, q590, γ630⟩ => [(38, .pointer (some ⟨gb, 0, none⟩)), (41, .pointer (some ⟨gb, 0, none⟩)), (43, .int .i64 (j : Nat)), (48, .slice (some ⟨γ630 0, 0, none⟩) 1 1)]) (fun ⟨Y590, cq590, q590, γ630⟩ => bx (γ630 0) (#[.int .i64 (j + 1 : Nat), .slice q590 n cq590]) 46 :: bx (γ1 0) (#[.pointer (some ⟨gb, 0, none⟩)]) 72 :: bx gb (#[.slice q m capq]) 38 :: bx gm (#[.slice p n cap]) 25 :: bx gi (#[.int .i64 (j + 1 : Nat)]) 3 :: (Y590 ++ (Y ++ (Yi ++ (YR ++ []))))) ?_ (fun hmx38 => ?_)
      ·
       rintro ⟨Y590, cq590, q590, γ630⟩ hO590
       refine a1 4 rfl ?_
       refine qo0 1 [(4, .go (owns 2 0 1))] [38, 43, 48] [(42, .slice q m capq)] ?_
       refine od_ ?_
       exact wk (hmx41 (Y590, cq590, q590, γ630) hO590) [38, 42, 43, 48] [[_], [_], [_], [_], [_], _, _, _, _] [0, 1, 2, 3, 4, 5, 6, 7, 8] rfl rfl
      refine any_cutX (V := (List Ob) × (Nat) × (Option Addr)) (fun ⟨Y590, cq590, q590⟩ => SlO 3 Y590 q590 n cq590 l) 6 #[false, true, true, true, true, true, true, true, true, true, false, false, false, false, false] (fun ⟨Y590, cq590, q590⟩ => [(3, .pointer (some ⟨γ1 0, 0, none⟩)), (42, .slice q m capq), (43, .int .i64 (j : Nat)), (47, .agg #[.int .i64 (j + 1 : Nat), .slice q590 n cq590])]) (fun ⟨Y590, cq590, q590⟩ => bx (γ1 0) (#[.pointer (some ⟨gb, 0, none⟩)]) 72 :: bx gb (#[.slice q m capq]) 38 :: bx gm (#[.slice p n cap]) 25 :: bx gi (#[.int .i64 (j + 1 : Nat)]) 3 :: (Y590 ++ (Y ++ (Yi ++ (YR ++ []))))) ?_ (fun hmx37 => ?_)
      ·
       rintro ⟨Y590, cq590, q590⟩ hO590
       refine any_fork [0, 10] (by kernel_rfl) (by simp) (each_cons _ rfl ?_ (each_cons _ rfl ?_ (each_nil)))
       ·
        refine qo0 1 [(0, .go (owns 0 0 1))] [42, 43, 47] [(38, .pointer (some ⟨gb, 0, none⟩))] ?_
        refine od_ ?_
        exact wk (hmx39 (Y590, cq590, q590) hO590) [38, 42, 43, 47] [[_], [_], [_], [_], _, _, _, _] [0, 1, 2, 3, 4, 5, 6, 7] rfl rfl
       ·
        refine mo0 1 [] [3, 42, 43] (fun γ630 => [(48, .slice (some ⟨γ630 0, 0, none⟩) 1 1)]) (fun γ630 L => bx (γ630 0) (#[.int .i64 (j + 1 : Nat), .slice q590 n cq590]) 46 :: L) (fun γ630 => ?_)
        refine od_ ?_
        exact wk (hmx40 (Y590, cq590, q590, γ630) hO590) [3, 42, 43, 48] [[_], [_], [_], [_], [_], _, _, _, _] [0, 1, 2, 3, 4, 5, 6, 7, 8] rfl rfl
      refine any_cutX (V := (List Ob) × (Nat) × (Option Addr) × (Nat → Nat)) (fun ⟨Y590, cq590, q590, γ630⟩ => SlO 3 Y590 q590 n cq590 l) 6 #[false, true, true, true, false, true, true, true, true, true, true, false, false, false, false] (fun ⟨Y590, cq590, q590, γ630⟩ => [(3, .pointer (some ⟨γ1 0, 0, none⟩)), (41, .pointer (some ⟨gb, 0, none⟩)), (43, .int .i64 (j : Nat)), (48, .slice (some ⟨γ630 0, 0, none⟩) 1 1)]) (fun ⟨Y590, cq590, q590, γ630⟩ => bx (γ630 0) (#[.int .i64 (j + 1 : Nat), .slice q590 n cq590]) 46 :: bx (γ1 0) (#[.pointer (some ⟨gb, 0, none⟩)]) 72 :: bx gb (#[.slice q m capq]) 38 :: bx gm (#[.slice p n cap]) 25 :: bx gi (#[.int .i64 (j + 1 : Nat)]) 3 :: (Y590 ++ (Y ++ (Yi ++ (YR ++ []))))) ?_ (fun hmx36 => ?_)
      ·
       rintro ⟨Y590, cq590, q590, γ630⟩ hO590
       refine any_fork [0, 4] (by kernel_rfl) (by simp) (each_cons _ rfl ?_ (each_cons _ rfl ?_ (each_nil)))
       ·
        refine qo0 1 [(0, .go (owns 1 0 1))] [41, 43, 48] [(38, .pointer (some ⟨gb, 0, none⟩))] ?_
        refine od_ ?_
        exact wk (hmx38 (Y590, cq590, q590, γ630) hO590) [38, 41, 43, 48] [[_], [_], [_], [_], [_], _, _, _, _] [0, 1, 2, 3, 4, 5, 6, 7, 8] rfl rfl
       ·
        refine qo0 1 [(4, .go (owns 2 0 1))] [3, 43, 48] [(42, .slice q m capq)] ?_
        refine od_ ?_
        exact wk (hmx40 (Y590, cq590, q590, γ630) hO590) [3, 42, 43, 48] [[_], [_], [_], [_], [_], _, _, _, _] [0, 1, 2, 3, 4, 5, 6, 7, 8] rfl rfl
      refine any_cutX (V := (List Ob) × (Nat) × (Option Addr)) (fun ⟨Y590, cq590, q590⟩ => SlO 3 Y590 q590 n cq590 l) 6 #[true, true, true, true, false, true, true, true, true, true, false, false, false, false, false] (fun ⟨Y590, cq590, q590⟩ => [(38, .pointer (some ⟨gb, 0, none⟩)), (41, .pointer (some ⟨gb, 0, none⟩)), (43, .int .i64 (j : Nat)), (47, .agg #[.int .i64 (j + 1 : Nat), .slice q590 n cq590])]) (fun ⟨Y590, cq590, q590⟩ => bx (γ1 0) (#[.pointer (some ⟨gb, 0, none⟩)]) 72 :: bx gb (#[.slice q m capq]) 38 :: bx gm (#[.slice p n cap]) 25 :: bx gi (#[.int .i64 (j + 1 : Nat)]) 3 :: (Y590 ++ (Y ++ (Yi ++ (YR ++ []))))) ?_ (fun hmx35 => ?_)
      ·
       rintro ⟨Y590, cq590, q590⟩ hO590
       refine any_fork [4, 10] (by kernel_rfl) (by simp) (each_cons _ rfl ?_ (each_cons _ rfl ?_ (each_nil)))
       ·
        refine qo0 1 [(4, .go (owns 1 0 1))] [38, 43, 47] [(42, .slice q m capq)] ?_
        refine od_ ?_
        exact wk (hmx39 (Y590, cq590, q590) hO590) [38, 42, 43, 47] [[_], [_], [_], [_], _, _, _, _] [0, 1, 2, 3, 4, 5, 6, 7] rfl rfl
       ·
        refine mo0 1 [] [38, 41, 43] (fun γ630 => [(48, .slice (some ⟨γ630 0, 0, none⟩) 1 1)]) (fun γ630 L => bx (γ630 0) (#[.int .i64 (j + 1 : Nat), .slice q590 n cq590]) 46 :: L) (fun γ630 => ?_)
        refine od_ ?_
        exact wk (hmx38 (Y590, cq590, q590, γ630) hO590) [38, 41, 43, 48] [[_], [_], [_], [_], [_], _, _, _, _] [0, 1, 2, 3, 4, 5, 6, 7, 8] rfl rfl
      refine any_cutX (V := (List Ob) × (Nat) × (Option Addr)) (fun ⟨Y590, cq590, q590⟩ => SlO 3 Y590 q590 n cq590 l) 7 #[true, true, true, true, true, true, false, true, true, false, false, false, false, false, false] (fun ⟨Y590, cq590, q590⟩ => [(2, .pointer (some ⟨gi, 0, none⟩)), (38, .pointer (some ⟨gb, 0, none⟩)), (42, .slice q m capq), (43, .int .i64 (j : Nat)), (46, .slice q590 n cq590)]) (fun ⟨Y590, cq590, q590⟩ => bx (γ1 0) (#[.pointer (some ⟨gb, 0, none⟩)]) 72 :: bx gb (#[.slice q m capq]) 38 :: bx gm (#[.slice p n cap]) 25 :: bx gi (#[.int .i64 (j + 1 : Nat)]) 3 :: (Y590 ++ (Y ++ (Yi ++ (YR ++ []))))) ?_ (fun hmx34 => ?_)
      ·
       rintro ⟨Y590, cq590, q590⟩ hO590
       refine a1 6 rfl ?_
       refine qo0 1 [(6, .go (owns 3 0 1))] [38, 42, 43, 46] [(44, .int .i64 (j + 1 : Nat))] ?_
       refine od_ ?_
       refine tk (m := 5) [9] [] [38, 42, 43] [(47, .agg #[.int .i64 (j + 1 : Nat), .slice q590 n cq590])] ([]) #[true, true, true, true, true, true, true, true, true, true, false, false, false, false, false] al0 ?_
       exact wk (hmx39 (Y590, cq590, q590) hO590) [38, 42, 43, 47] [[_], [_], [_], [_], _, _, _, _] [0, 1, 2, 3, 4, 5, 6, 7] rfl rfl
      refine any_cutX (V := Unit) (fun _ => True) 7 #[true, true, true, true, true, true, true, true, false, false, false, false, false, false, false] (fun _ => [(38, .pointer (some ⟨gb, 0, none⟩)), (42, .slice q m capq), (43, .int .i64 (j : Nat)), (44, .int .i64 (j + 1 : Nat)), (45, .slice p n cap)]) (fun _ => bx (γ1 0) (#[.pointer (some ⟨gb, 0, none⟩)]) 72 :: bx gb (#[.slice q m capq]) 38 :: bx gm (#[.slice p n cap]) 25 :: bx gi (#[.int .i64 (j + 1 : Nat)]) 3 :: (Y ++ (Yi ++ (YR ++ [])))) ?_ (fun hmx33 => ?_)
      ·
       rintro _ _
       refine a1 8 rfl ?_
       refine cP (fun v L' => ∃ q_ c_ Y_, v = .slice q_ n c_ ∧ L' = List.take 4 (bx (γ1 0) (#[.pointer (some ⟨gb, 0, none⟩)]) 72 :: bx gb (#[.slice q m capq]) 38 :: bx gm (#[.slice p n cap]) 25 :: bx gi (#[.int .i64 (j + 1 : Nat)]) 3 :: (Y ++ (Yi ++ (YR ++ [])))) ++ (Y_ ++ List.drop 4 (bx (γ1 0) (#[.pointer (some ⟨gb, 0, none⟩)]) 72 :: bx gb (#[.slice q m capq]) 38 :: bx gm (#[.slice p n cap]) 25 :: bx gi (#[.int .i64 (j + 1 : Nat)]) 3 :: (Y ++ (Yi ++ (YR ++ []))))) ∧ SlO 3 Y_ q_ n c_ l) Try.call44 (fun w hw => (cloneints_t p n cap l w (hsl.kept hw.below) hn (by omega)).mono fun e w' ⟨q_, c_, Y_, he, hO, hb, hY⟩ => ⟨_, _, he, ⟨q_, c_, Y_, rfl, rfl, hO⟩, hw.join hb hY 4⟩) ?_
       rintro v590 L590 ⟨q590, cq590, Y590, rfl, rfl, hO590⟩
       refine od_ ?_
       refine tk (m := 5) [9] [] [38, 42, 43] [(47, .agg #[.int .i64 (j + 1 : Nat), .slice q590 n cq590])] ([]) #[true, true, true, true, true, true, true, true, true, true, false, false, false, false, false] al0 ?_
       exact wk (hmx39 (Y590, cq590, q590) hO590) [38, 42, 43, 47] [[_], [_], [_], [_], _, _, _, _] [0, 1, 2, 3, 4, 5, 6, 7] rfl rfl
      refine any_cutX (V := (List Ob) × (Nat) × (Option Addr)) (fun ⟨Y590, cq590, q590⟩ => SlO 3 Y590 q590 n cq590 l) 7 #[false, true, true, true, false, true, true, true, true, true, false, false, false, false, false] (fun ⟨Y590, cq590, q590⟩ => [(3, .pointer (some ⟨γ1 0, 0, none⟩)), (41, .pointer (some ⟨gb, 0, none⟩)), (43, .int .i64 (j : Nat)), (47, .agg #[.int .i64 (j + 1 : Nat), .slice q590 n cq590])]) (fun ⟨Y590, cq590, q590⟩ => bx (γ1 0) (#[.pointer (some ⟨gb, 0, none⟩)]) 72 :: bx gb (#[.slice q m capq]) 38 :: bx gm (#[.slice p n cap]) 25 :: bx gi (#[.int .i64 (j + 1 : Nat)]) 3 :: (Y590 ++ (Y ++ (Yi ++ (YR ++ []))))) ?_ (fun hmx32 => ?_)
      ·
       rintro ⟨Y590, cq590, q590⟩ hO590
       refine any_fork [0, 4, 10] (by kernel_rfl) (by simp) (each_cons _ rfl ?_ (each_cons _ rfl ?_ (each_cons _ rfl ?_ (each_nil))))
       ·
        refine qo0 1 [(0, .go (owns 0 0 1))] [41, 43, 47] [(38, .pointer (some ⟨gb, 0, none⟩))] ?_
        refine od_ ?_
        exact wk (hmx35 (Y590, cq590, q590) hO590) [38, 41, 43, 47] [[_], [_], [_], [_], _, _, _, _] [0, 1, 2, 3, 4, 5, 6, 7] rfl rfl
       ·
        refine qo0 1 [(4, .go (owns 1 0 1))] [3, 43, 47] [(42, .slice q m capq)] ?_
        refine od_ ?_
        exact wk (hmx37 (Y590, cq590, q590) hO590) [3, 42, 43, 47] [[_], [_], [_], [_], _, _, _, _] [0, 1, 2, 3, 4, 5, 6, 7] rfl rfl
       ·
        refine mo0 1 [] [3, 41, 43] (fun γ630 => [(48, .slice (some ⟨γ630 0, 0, none⟩) 1 1)]) (fun γ630 L => bx (γ630 0) (#[.int .i64 (j + 1 : Nat), .slice q590 n cq590]) 46 :: L) (fun γ630 => ?_)
        refine od_ ?_
        exact wk (hmx36 (Y590, cq590, q590, γ630) hO590) [3, 41, 43, 48] [[_], [_], [_], [_], [_], _, _, _, _] [0, 1, 2, 3, 4, 5, 6, 7, 8] rfl rfl
      refine any_cutX (V := (List Ob) × (Nat) × (Option Addr) × (Nat → Nat)) (fun ⟨Y590, cq590, q590, γ630⟩ => SlO 3 Y590 q590 n cq590 l) 8 #[true, false, false, false, false, true, true, true, true, true, true, false, false, false, false] (fun ⟨Y590, cq590, q590, γ630⟩ => [(3, .pointer (some ⟨γ1 0, 0, none⟩)), (38, .pointer (some ⟨gb, 0, none⟩)), (43, .int .i64 (j : Nat)), (48, .slice (some ⟨γ630 0, 0, none⟩) 1 1)]) (fun ⟨Y590, cq590, q590, γ630⟩ => bx (γ630 0) (#[.int .i64 (j + 1 : Nat), .slice q590 n cq590]) 46 :: bx (γ1 0) (#[.pointer (some ⟨gb, 0, none⟩)]) 72 :: bx gb (#[.slice q m capq]) 38 :: bx gm (#[.slice p n cap]) 25 :: bx gi (#[.int .i64 (j + 1 : Nat)]) 3 :: (Y590 ++ (Y ++ (Yi ++ (YR ++ []))))) ?_ (fun hmx31 => ?_)
      ·
       rintro ⟨Y590, cq590, q590, γ630⟩ hO590
       refine a1 1 rfl ?_
       refine qo0 1 [(1, .go (owns 1 0 1))] [38, 43, 48] [(39, .pointer (some ⟨gb, 0, none⟩))] ?_
       refine od_ ?_
       refine tk (m := 5) [2, 3] [] [38, 43, 48] [(41, .pointer (some ⟨gb, 0, none⟩))] ([]) #[true, true, true, true, false, true, true, true, true, true, true, false, false, false, false] al0 ?_
       exact wk (hmx38 (Y590, cq590, q590, γ630) hO590) [38, 41, 43, 48] [[_], [_], [_], [_], [_], _, _, _, _] [0, 1, 2, 3, 4, 5, 6, 7, 8] rfl rfl
      refine any_cutX (V := (List Ob) × (Nat) × (Option Addr)) (fun ⟨Y590, cq590, q590⟩ => SlO 3 Y590 q590 n cq590 l) 8 #[false, true, true, true, true, true, false, true, true, false, false, false, false, false, false] (fun ⟨Y590, cq590, q590⟩ => [(2, .pointer (some ⟨gi, 0, none⟩)), (3, .pointer (some ⟨γ1 0, 0, none⟩)), (42, .slice q m capq), (43, .int .i64 (j : Nat)), (46, .slice q590 n cq590)]) (fun ⟨Y590, cq590, q590⟩ => bx (γ1 0) (#[.pointer (some ⟨gb, 0, none⟩)]) 72 :: bx gb (#[.slice q m capq]) 38 :: bx gm (#[.slice p n cap]) 25 :: bx gi (#[.int .i64 (j + 1 : Nat)]) 3 :: (Y590 ++ (Y ++ (Yi ++ (YR ++ []))))) ?_ (fun hmx30 => ?_)
      ·
       rintro ⟨Y590, cq590, q590⟩ hO590
       refine any_fork [0, 6] (by kernel_rfl) (by simp) (each_cons _ rfl ?_ (each_cons _ rfl ?_ (each_nil)))
       ·
        refine qo0 1 [(0, .go (owns 0 0 1))] [2, 42, 43, 46] [(38, .pointer (some ⟨gb, 0, none⟩))] ?_
        refine od_ ?_
        exact wk (hmx34 (Y590, cq590, q590) hO590) [2, 38, 42, 43, 46] [[_], [_], [_], [_], _, _, _, _] [0, 1, 2, 3, 4, 5, 6, 7] rfl rfl
       ·
        refine qo0 1 [(6, .go (owns 3 0 1))] [3, 42, 43, 46] [(44, .int .i64 (j + 1 : Nat))] ?_
        refine od_ ?_
        refine tk (m := 6) [9] [] [3, 42, 43] [(47, .agg #[.int .i64 (j + 1 : Nat), .slice q590 n cq590])] ([]) #[false, true, true, true, true, true, true, true, true, true, false, false, false, false, false] al0 ?_
        exact wk (hmx37 (Y590, cq590, q590) hO590) [3, 42, 43, 47] [[_], [_], [_], [_], _, _, _, _] [0, 1, 2, 3, 4, 5, 6, 7] rfl rfl
      refine any_cutX (V := Unit) (fun _ => True) 8 #[false, true, true, true, true, true, true, true, false, false, false, false, false, false, false] (fun _ => [(3, .pointer (some ⟨γ1 0, 0, none⟩)), (42, .slice q m capq), (43, .int .i64 (j : Nat)), (44, .int .i64 (j + 1 : Nat)), (45, .slice p n cap)]) (fun _ => bx (γ1 0) (#[.pointer (some ⟨gb, 0, none⟩)]) 72 :: bx gb (#[.slice q m capq]) 38 :: bx gm (#[.slice p n cap]) 25 :: bx gi (#[.int .i64 (j + 1 : Nat)]) 3 :: (Y ++ (Yi ++ (YR ++ [])))) ?_ (fun hmx29 => ?_)
      ·
       rintro _ _
       refine any_fork [0, 8] (by kernel_rfl) (by simp) (each_cons _ rfl ?_ (each_cons _ rfl ?_ (each_nil)))
       ·
        refine qo0 1 [(0, .go (owns 0 0 1))] [42, 43, 44, 45] [(38, .pointer (some ⟨gb, 0, none⟩))] ?_
        refine od_ ?_
        exact wk (hmx33 () trivial) [38, 42, 43, 44, 45] [[_], [_], [_], [_], _, _, _] [0, 1, 2, 3, 4, 5, 6] rfl rfl
       ·
        refine cP (fun v L' => ∃ q_ c_ Y_, v = .slice q_ n c_ ∧ L' = List.take 4 (bx (γ1 0) (#[.pointer (some ⟨gb, 0, none⟩)]) 72 :: bx gb (#[.slice q m capq]) 38 :: bx gm (#[.slice p n cap]) 25 :: bx gi (#[.int .i64 (j + 1 : Nat)]) 3 :: (Y ++ (Yi ++ (YR ++ [])))) ++ (Y_ ++ List.drop 4 (bx (γ1 0) (#[.pointer (some ⟨gb, 0, none⟩)]) 72 :: bx gb (#[.slice q m capq]) 38 :: bx gm (#[.slice p n cap]) 25 :: bx gi (#[.int .i64 (j + 1 : Nat)]) 3 :: (Y ++ (Yi ++ (YR ++ []))))) ∧ SlO 3 Y_ q_ n c_ l) Try.call44 (fun w hw => (cloneints_t p n cap l w (hsl.kept hw.below) hn (by omega)).mono fun e w' ⟨q_, c_, Y_, he, hO, hb, hY⟩ => ⟨_, _, he, ⟨q_, c_, Y_, rfl, rfl, hO⟩, hw.join hb hY 4⟩) ?_
        rintro v590 L590 ⟨q590, cq590, Y590, rfl, rfl, hO590⟩
        refine od_ ?_
        refine tk (m := 6) [9] [] [3, 42, 43] [(47, .agg #[.int .i64 (j + 1 : Nat), .slice q590 n cq590])] ([]) #[false, true, true, true, true, true, true, true, true, true, false, false, false, false, false] al0 ?_
        exact wk (hmx37 (Y590, cq590, q590) hO590) [3, 42, 43, 47] [[_], [_], [_], [_], _, _, _, _] [0, 1, 2, 3, 4, 5, 6, 7] rfl rfl
      refine any_cutX (V := Unit) (fun _ => True) 8 #[true, true, true, true, true, true, false, true, false, false, false, false, false, false, false] (fun _ => [(2, .pointer (some ⟨gi, 0, none⟩)), (38, .pointer (some ⟨gb, 0, none⟩)), (42, .slice q m capq), (43, .int .i64 (j : Nat)), (45, .slice p n cap)]) (fun _ => bx (γ1 0) (#[.pointer (some ⟨gb, 0, none⟩)]) 72 :: bx gb (#[.slice q m capq]) 38 :: bx gm (#[.slice p n cap]) 25 :: bx gi (#[.int .i64 (j + 1 : Nat)]) 3 :: (Y ++ (Yi ++ (YR ++ [])))) ?_ (fun hmx28 => ?_)
      ·
       rintro _ _
       refine any_fork [6, 8] (by kernel_rfl) (by simp) (each_cons _ rfl ?_ (each_cons _ rfl ?_ (each_nil)))
       ·
        refine qo0 1 [(6, .go (owns 3 0 1))] [38, 42, 43, 45] [(44, .int .i64 (j + 1 : Nat))] ?_
        refine od_ ?_
        exact wk (hmx33 () trivial) [38, 42, 43, 44, 45] [[_], [_], [_], [_], _, _, _] [0, 1, 2, 3, 4, 5, 6] rfl rfl
       ·
        refine cP (fun v L' => ∃ q_ c_ Y_, v = .slice q_ n c_ ∧ L' = List.take 4 (bx (γ1 0) (#[.pointer (some ⟨gb, 0, none⟩)]) 72 :: bx gb (#[.slice q m capq]) 38 :: bx gm (#[.slice p n cap]) 25 :: bx gi (#[.int .i64 (j + 1 : Nat)]) 3 :: (Y ++ (Yi ++ (YR ++ [])))) ++ (Y_ ++ List.drop 4 (bx (γ1 0) (#[.pointer (some ⟨gb, 0, none⟩)]) 72 :: bx gb (#[.slice q m capq]) 38 :: bx gm (#[.slice p n cap]) 25 :: bx gi (#[.int .i64 (j + 1 : Nat)]) 3 :: (Y ++ (Yi ++ (YR ++ []))))) ∧ SlO 3 Y_ q_ n c_ l) Try.call44 (fun w hw => (cloneints_t p n cap l w (hsl.kept hw.below) hn (by omega)).mono fun e w' ⟨q_, c_, Y_, he, hO, hb, hY⟩ => ⟨_, _, he, ⟨q_, c_, Y_, rfl, rfl, hO⟩, hw.join hb hY 4⟩) ?_
        rintro v590 L590 ⟨q590, cq590, Y590, rfl, rfl, hO590⟩
        refine od_ ?_
        exact wk (hmx34 (Y590, cq590, q590) hO590) [2, 38, 42, 43, 46] [[_], [_], [_], [_], _, _, _, _] [0, 1, 2, 3, 4, 5, 6, 7] rfl rfl
      refine any_cutX (V := Unit) (fun _ => True) 8 #[true, true, true, true, true, true, true, false, false, false, false, false, false, false, false] (fun _ => [(1, .pointer (some ⟨gm, 0, none⟩)), (38, .pointer (some ⟨gb, 0, none⟩)), (42, .slice q m capq), (43, .int .i64 (j : Nat)), (44, .int .i64 (j + 1 : Nat))]) (fun _ => bx (γ1 0) (#[.pointer (some ⟨gb, 0, none⟩)]) 72 :: bx gb (#[.slice q m capq]) 38 :: bx gm (#[.slice p n cap]) 25 :: bx gi (#[.int .i64 (j + 1 : Nat)]) 3 :: (Y ++ (Yi ++ (YR ++ [])))) ?_ (fun hmx27 => ?_)
      ·
       rintro _ _
       refine a1 7 rfl ?_
       refine qo0 1 [(7, .go (owns 2 0 1))] [38, 42, 43, 44] [(45, .slice p n cap)] ?_
       refine od_ ?_
       exact wk (hmx33 () trivial) [38, 42, 43, 44, 45] [[_], [_], [_], [_], _, _, _] [0, 1, 2, 3, 4, 5, 6] rfl rfl
      refine any_cutX (V := (List Ob) × (Nat) × (Option Addr)) (fun ⟨Y590, cq590, q590⟩ => SlO 3 Y590 q590 n cq590 l) 8 #[true, true, true, true, false, true, false, true, true, false, false, false, false, false, false] (fun ⟨Y590, cq590, q590⟩ => [(2, .pointer (some ⟨gi, 0, none⟩)), (38, .pointer (some ⟨gb, 0, none⟩)), (41, .pointer (some ⟨gb, 0, none⟩)), (43, .int .i64 (j : Nat)), (46, .slice q590 n cq590)]) (fun ⟨Y590, cq590, q590⟩ => bx (γ1 0) (#[.pointer (some ⟨gb, 0, none⟩)]) 72 :: bx gb (#[.slice q m capq]) 38 :: bx gm (#[.slice p n cap]) 25 :: bx gi (#[.int .i64 (j + 1 : Nat)]) 3 :: (Y590 ++ (Y ++ (Yi ++ (YR ++ []))))) ?_ (fun hmx26 => ?_)
      ·
       rintro ⟨Y590, cq590, q590⟩ hO590
       refine any_fork [4, 6] (by kernel_rfl) (by simp) (each_cons _ rfl ?_ (each_cons _ rfl ?_ (each_nil)))
       ·
        refine qo0 1 [(4, .go (owns 1 0 1))] [2, 38, 43, 46] [(42, .slice q m capq)] ?_
        refine od_ ?_
        exact wk (hmx34 (Y590, cq590, q590) hO590) [2, 38, 42, 43, 46] [[_], [_], [_], [_], _, _, _, _] [0, 1, 2, 3, 4, 5, 6, 7] rfl rfl
       ·
        refine qo0 1 [(6, .go (owns 3 0 1))] [38, 41, 43, 46] [(44, .int .i64 (j + 1 : Nat))] ?_
        refine od_ ?_
        refine tk (m := 6) [9] [] [38, 41, 43] [(47, .agg #[.int .i64 (j + 1 : Nat), .slice q590 n cq590])] ([]) #[true, true, true, true, false, true, true, true, true, true, false, false, false, false, false] al0 ?_
        exact wk (hmx35 (Y590, cq590, q590) hO590) [38, 41, 43, 47] [[_], [_], [_], [_], _, _, _, _] [0, 1, 2, 3, 4, 5, 6, 7] rfl rfl
      refine any_cutX (V := Unit) (fun _ => True) 8 #[true, true, true, true, false, true, true, true, false, false, false, false, false, false, false] (fun _ => [(38, .pointer (some ⟨gb, 0, none⟩)), (41, .pointer (some ⟨gb, 0, none⟩)), (43, .int .i64 (j : Nat)), (44, .int .i64 (j + 1 : Nat)), (45, .slice p n cap)]) (fun _ => bx (γ1 0) (#[.pointer (some ⟨gb, 0, none⟩)]) 72 :: bx gb (#[.slice q m capq]) 38 :: bx gm (#[.slice p n cap]) 25 :: bx gi (#[.int .i64 (j + 1 : Nat)]) 3 :: (Y ++ (Yi ++ (YR ++ [])))) ?_ (fun hmx25 => ?_)
      ·
       rintro _ _
       refine any_fork [4, 8] (by kernel_rfl) (by simp) (each_cons _ rfl ?_ (each_cons _ rfl ?_ (each_nil)))
       ·
        refine qo0 1 [(4, .go (owns 1 0 1))] [38, 43, 44, 45] [(42, .slice q m capq)] ?_
        refine od_ ?_
        exact wk (hmx33 () trivial) [38, 42, 43, 44, 45] [[_], [_], [_], [_], _, _, _] [0, 1, 2, 3, 4, 5, 6] rfl rfl
       ·
        refine cP (fun v L' => ∃ q_ c_ Y_, v = .slice q_ n c_ ∧ L' = List.take 4 (bx (γ1 0) (#[.pointer (some ⟨gb, 0, none⟩)]) 72 :: bx gb (#[.slice q m capq]) 38 :: bx gm (#[.slice p n cap]) 25 :: bx gi (#[.int .i64 (j + 1 : Nat)]) 3 :: (Y ++ (Yi ++ (YR ++ [])))) ++ (Y_ ++ List.drop 4 (bx (γ1 0) (#[.pointer (some ⟨gb, 0, none⟩)]) 72 :: bx gb (#[.slice q m capq]) 38 :: bx gm (#[.slice p n cap]) 25 :: bx gi (#[.int .i64 (j + 1 : Nat)]) 3 :: (Y ++ (Yi ++ (YR ++ []))))) ∧ SlO 3 Y_ q_ n c_ l) Try.call44 (fun w hw => (cloneints_t p n cap l w (hsl.kept hw.below) hn (by omega)).mono fun e w' ⟨q_, c_, Y_, he, hO, hb, hY⟩ => ⟨_, _, he, ⟨q_, c_, Y_, rfl, rfl, hO⟩, hw.join hb hY 4⟩) ?_
        rintro v590 L590 ⟨q590, cq590, Y590, rfl, rfl, hO590⟩
        refine od_ ?_
        refine tk (m := 6) [9] [] [38, 41, 43] [(47, .agg #[.int .i64 (j + 1 : Nat), .slice q590 n cq590])] ([]) #[true, true, true, true, false, true, true, true, true, true, false, false, false, false, false] al0 ?_
        exact wk (hmx35 (Y590, cq590, q590) hO590) [38, 41, 43, 47] [[_], [_], [_], [_], _, _, _, _] [0, 1, 2, 3, 4, 5, 6, 7] rfl rfl
      refine any_cutX (V := (List Ob) × (Nat) × (Option Addr) × (Nat → Nat)) (fun ⟨Y590, cq590, q590, γ630⟩ => SlO 3 Y590 q590 n cq590 l) 9 #[false, false, false, false, false, true, true, true, true, true, true, false, false, false, false] (fun ⟨Y590, cq590, q590, γ630⟩ => [(3, .pointer (some ⟨γ1 0, 0, none⟩)), (43, .int .i64 (j : Nat)), (48, .slice (some ⟨γ630 0, 0, none⟩) 1 1)]) (fun ⟨Y590, cq590, q590, γ630⟩ => bx (γ630 0) (#[.int .i64 (j + 1 : Nat), .slice q590 n cq590]) 46 :: bx (γ1 0) (#[.pointer (some ⟨gb, 0, none⟩)]) 72 :: bx gb (#[.slice q m capq]) 38 :: bx gm (#[.slice p n cap]) 25 :: bx gi (#[.int .i64 (j + 1 : Nat)]) 3 :: (Y590 ++ (Y ++ (Yi ++ (YR ++ []))))) ?_ (fun hmx24 => ?_)
      ·
       rintro ⟨Y590, cq590, q590, γ630⟩ hO590
       refine any_fork [0, 1] (by kernel_rfl) (by simp) (each_cons _ rfl ?_ (each_cons _ rfl ?_ (each_nil)))
       ·
        refine qo0 1 [(0, .go (owns 1 0 1))] [3, 43, 48] [(38, .pointer (some ⟨gb, 0, none⟩))] ?_
        refine od_ ?_
        exact wk (hmx31 (Y590, cq590, q590, γ630) hO590) [3, 38, 43, 48] [[_], [_], [_], [_], [_], _, _, _, _] [0, 1, 2, 3, 4, 5, 6, 7, 8] rfl rfl
       ·
        refine qo0 1 [(1, .go (owns 1 0 1))] [3, 43, 48] [(39, .pointer (some ⟨gb, 0, none⟩))] ?_
        refine od_ ?_
        refine tk (m := 6) [2, 3] [] [3, 43, 48] [(41, .pointer (some ⟨gb, 0, none⟩))] ([]) #[false, true, true, true, false, true, true, true, true, true, true, false, false, false, false] al0 ?_
        exact wk (hmx36 (Y590, cq590, q590, γ630) hO590) [3, 41, 43, 48] [[_], [_], [_], [_], [_], _, _, _, _] [0, 1, 2, 3, 4, 5, 6, 7, 8] rfl rfl
      refine any_cutX (V := Unit) (fun _ => True) 9 #[false, true, true, true, true, true, false, true, false, false, false, false, false, false, false] (fun _ => [(2, .pointer (some ⟨gi, 0, none⟩)), (3, .pointer (some ⟨γ1 0, 0, none⟩)), (42, .slice q m capq), (43, .int .i64 (j : Nat)), (45, .slice p n cap)]) (fun _ => bx (γ1 0) (#[.pointer (some ⟨gb, 0, none⟩)]) 72 :: bx gb (#[.slice q m capq]) 38 :: bx gm (#[.slice p n cap]) 25 :: bx gi (#[.int .i64 (j + 1 : Nat)]) 3 :: (Y ++ (Yi ++ (YR ++ [])))) ?_ (fun hmx23 => ?_)
      ·
       rintro _ _
       refine any_fork [0, 6, 8] (by kernel_rfl) (by simp) (each_cons _ rfl ?_ (each_cons _ rfl ?_ (each_cons _ rfl ?_ (each_nil))))
       ·
        refine qo0 1 [(0, .go (owns 0 0 1))] [2, 42, 43, 45] [(38, .pointer (some ⟨gb, 0, none⟩))] ?_
        refine od_ ?_
        exact wk (hmx28 () trivial) [2, 38, 42, 43, 45] [[_], [_], [_], [_], _, _, _] [0, 1, 2, 3, 4, 5, 6] rfl rfl
       ·
        refine qo0 1 [(6, .go (owns 3 0 1))] [3, 42, 43, 45] [(44, .int .i64 (j + 1 : Nat))] ?_
        refine od_ ?_
        exact wk (hmx29 () trivial) [3, 42, 43, 44, 45] [[_], [_], [_], [_], _, _, _] [0, 1, 2, 3, 4, 5, 6] rfl rfl
       ·
        refine cP (fun v L' => ∃ q_ c_ Y_, v = .slice q_ n c_ ∧ L' = List.take 4 (bx (γ1 0) (#[.pointer (some ⟨gb, 0, none⟩)]) 72 :: bx gb (#[.slice q m capq]) 38 :: bx gm (#[.slice p n cap]) 25 :: bx gi (#[.int .i64 (j + 1 : Nat)]) 3 :: (Y ++ (Yi ++ (YR ++ [])))) ++ (Y_ ++ List.drop 4 (bx (γ1 0) (#[.pointer (some ⟨gb, 0, none⟩)]) 72 :: bx gb (#[.slice q m capq]) 38 :: bx gm (#[.slice p n cap]) 25 :: bx gi (#[.int .i64 (j + 1 : Nat)]) 3 :: (Y ++ (Yi ++ (YR ++ []))))) ∧ SlO 3 Y_ q_ n c_ l) Try.call44 (fun w hw => (cloneints_t p n cap l w (hsl.kept hw.below) hn (by omega)).mono fun e w' ⟨q_, c_, Y_, he, hO, hb, hY⟩ => ⟨_, _, he, ⟨q_, c_, Y_, rfl, rfl, hO⟩, hw.join hb hY 4⟩) ?_
        rintro v590 L590 ⟨q590, cq590, Y590, rfl, rfl, hO590⟩
        refine od_ ?_
        exact wk (hmx30 (Y590, cq590, q590) hO590) [2, 3, 42, 43, 46] [[_], [_], [_], [_], _, _, _, _] [0, 1, 2, 3, 4, 5, 6, 7] rfl rfl
      refine any_cutX (V := Unit) (fun _ => True) 9 #[false, true, true, true, true, true, true, false, false, false, false, false, false, false, false] (fun _ => [(1, .pointer (some ⟨gm, 0, none⟩)), (3, .pointer (some ⟨γ1 0, 0, none⟩)), (42, .slice q m capq), (43, .int .i64 (j : Nat)), (44, .int .i64 (j + 1 : Nat))]) (fun _ => bx (γ1 0) (#[.pointer (some ⟨gb, 0, none⟩)]) 72 :: bx gb (#[.slice q m capq]) 38 :: bx gm (#[.slice p n cap]) 25 :: bx gi (#[.int .i64 (j + 1 : Nat)]) 3 :: (Y ++ (Yi ++ (YR ++ [])))) ?_ (fun hmx22 => ?_)
      ·
       rintro _ _
       refine any_fork [0, 7] (by kernel_rfl) (by simp) (each_cons _ rfl ?_ (each_cons _ rfl ?_ (each_nil)))
       ·
        refine qo0 1 [(0, .go (owns 0 0 1))] [1, 42, 43, 44] [(38, .pointer (some ⟨gb, 0, none⟩))] ?_
        refine od_ ?_
        exact wk (hmx27 () trivial) [1, 38, 42, 43, 44] [[_], [_], [_], [_], _, _, _] [0, 1, 2, 3, 4, 5, 6] rfl rfl
       ·
        refine qo0 1 [(7, .go (owns 2 0 1))] [3, 42, 43, 44] [(45, .slice p n cap)] ?_
        refine od_ ?_
        exact wk (hmx29 () trivial) [3, 42, 43, 44, 45] [[_], [_], [_], [_], _, _, _] [0, 1, 2, 3, 4, 5, 6] rfl rfl
      refine any_cutX (V := Unit) (fun _ => True) 9 #[true, true, true, true, true, true, false, false, false, false, false, false, false, false, false] (fun _ => [(1, .pointer (some ⟨gm, 0, none⟩)), (2, .pointer (some ⟨gi, 0, none⟩)), (38, .pointer (some ⟨gb, 0, none⟩)), (42, .slice q m capq), (43, .int .i64 (j : Nat))]) (fun _ => bx (γ1 0) (#[.pointer (some ⟨gb, 0, none⟩)]) 72 :: bx gb (#[.slice q m capq]) 38 :: bx gm (#[.slice p n cap]) 25 :: bx gi (#[.int .i64 (j + 1 : Nat)]) 3 :: (Y ++ (Yi ++ (YR ++ [])))) ?_ (fun hmx21 => ?_)
      ·
       rintro _ _
       refine any_fork [6, 7] (by kernel_rfl) (by simp) (each_cons _ rfl ?_ (each_cons _ rfl ?_ (each_nil)))
       ·
        refine qo0 1 [(6, .go (owns 3 0 1))] [1, 38, 42, 43] [(44, .int .i64 (j + 1 : Nat))] ?_
        refine od_ ?_
        exact wk (hmx27 () trivial) [1, 38, 42, 43, 44] [[_], [_], [_], [_], _, _, _] [0, 1, 2, 3, 4, 5, 6] rfl rfl
       ·
        refine qo0 1 [(7, .go (owns 2 0 1))] [2, 38, 42, 43] [(45, .slice p n cap)] ?_
        refine od_ ?_
        exact wk (hmx28 () trivial) [2, 38, 42, 43, 45] [[_], [_], [_], [_], _, _, _] [0, 1, 2, 3, 4, 5, 6] rfl rfl
      refine any_cutX (V := (List Ob) × (Nat) × (Option Addr)) (fun ⟨Y590, cq590, q590⟩ => SlO 3 Y590 q590 n cq590 l) 9 #[true, false, false, false, false, true, true, true, true, true, false, false, false, false, false] (fun ⟨Y590, cq590, q590⟩ => [(3, .pointer (some ⟨γ1 0, 0, none⟩)), (38, .pointer (some ⟨gb, 0, none⟩)), (43, .int .i64 (j : Nat)), (47, .agg #[.int .i64 (j + 1 : Nat), .slice q590 n cq590])]) (fun ⟨Y590, cq590, q590⟩ => bx (γ1 0) (#[.pointer (some ⟨gb, 0, none⟩)]) 72 :: bx gb (#[.slice q m capq]) 38 :: bx gm (#[.slice p n cap]) 25 :: bx gi (#[.int .i64 (j + 1 : Nat)]) 3 :: (Y590 ++ (Y ++ (Yi ++ (YR ++ []))))) ?_ (fun hmx20 => ?_)
      ·
       rintro ⟨Y590, cq590, q590⟩ hO590
       refine any_fork [1, 10] (by kernel_rfl) (by simp) (each_cons _ rfl ?_ (each_cons _ rfl ?_ (each_nil)))
       ·
        refine qo0 1 [(1, .go (owns 0 0 1))] [38, 43, 47] [(39, .pointer (some ⟨gb, 0, none⟩))] ?_
        refine od_ ?_
        refine tk (m := 6) [2, 3] [] [38, 43, 47] [(41, .pointer (some ⟨gb, 0, none⟩))] ([]) #[true, true, true, true, false, true, true, true, true, true, false, false, false, false, false] al0 ?_
        exact wk (hmx35 (Y590, cq590, q590) hO590) [38, 41, 43, 47] [[_], [_], [_], [_], _, _, _, _] [0, 1, 2, 3, 4, 5, 6, 7] rfl rfl
       ·
        refine mo0 1 [] [3, 38, 43] (fun γ630 => [(48, .slice (some ⟨γ630 0, 0, none⟩) 1 1)]) (fun γ630 L => bx (γ630 0) (#[.int .i64 (j + 1 : Nat), .slice q590 n cq590]) 46 :: L) (fun γ630 => ?_)
        refine od_ ?_
        exact wk (hmx31 (Y590, cq590, q590, γ630) hO590) [3, 38, 43, 48] [[_], [_], [_], [_], [_], _, _, _, _] [0, 1, 2, 3, 4, 5, 6, 7, 8] rfl rfl
      refine any_cutX (V := (List Ob) × (Nat) × (Option Addr)) (fun ⟨Y590, cq590, q590⟩ => SlO 3 Y590 q590 n cq590 l) 9 #[false, true, true, true, false, true, false, true, true, false, false, false, false, false, false] (fun ⟨Y590, cq590, q590⟩ => [(2, .pointer (some ⟨gi, 0, none⟩)), (3, .pointer (some ⟨γ1 0, 0, none⟩)), (41, .pointer (some ⟨gb, 0, none⟩)), (43, .int .i64 (j : Nat)), (46, .slice q590 n cq590)]) (fun ⟨Y590, cq590, q590⟩ => bx (γ1 0) (#[.pointer (some ⟨gb, 0, none⟩)]) 72 :: bx gb (#[.slice q m capq]) 38 :: bx gm (#[.slice p n cap]) 25 :: bx gi (#[.int .i64 (j + 1 : Nat)]) 3 :: (Y590 ++ (Y ++ (Yi ++ (YR ++ []))))) ?_ (fun hmx19 => ?_)
      ·
       rintro ⟨Y590, cq590, q590⟩ hO590
       refine any_fork [0, 4, 6] (by kernel_rfl) (by simp) (each_cons _ rfl ?_ (each_cons _ rfl ?_ (each_cons _ rfl ?_ (each_nil))))
       ·
        refine qo0 1 [(0, .go (owns 0 0 1))] [2, 41, 43, 46] [(38, .pointer (some ⟨gb, 0, none⟩))] ?_
        refine od_ ?_
        exact wk (hmx26 (Y590, cq590, q590) hO590) [2, 38, 41, 43, 46] [[_], [_], [_], [_], _, _, _, _] [0, 1, 2, 3, 4, 5, 6, 7] rfl rfl
       ·
        refine qo0 1 [(4, .go (owns 1 0 1))] [2, 3, 43, 46] [(42, .slice q m capq)] ?_
        refine od_ ?_
        exact wk (hmx30 (Y590, cq590, q590) hO590) [2, 3, 42, 43, 46] [[_], [_], [_], [_], _, _, _, _] [0, 1, 2, 3, 4, 5, 6, 7] rfl rfl
       ·
        refine qo0 1 [(6, .go (owns 3 0 1))] [3, 41, 43, 46] [(44, .int .i64 (j + 1 : Nat))] ?_
        refine od_ ?_
        refine tk (m := 7) [9] [] [3, 41, 43] [(47, .agg #[.int .i64 (j + 1 : Nat), .slice q590 n cq590])] ([]) #[false, true, true, true, false, true, true, true, true, true, false, false, false, false, false] al0 ?_
        exact wk (hmx32 (Y590, cq590, q590) hO590) [3, 41, 43, 47] [[_], [_], [_], [_], _, _, _, _] [0, 1, 2, 3, 4, 5, 6, 7] rfl rfl
      refine any_cutX (V := Unit) (fun _ => True) 9 #[false, true, true, true, false, true, true, true, false, false, false, false, false, false, false] (fun _ => [(3, .pointer (some ⟨γ1 0, 0, none⟩)), (41, .pointer (some ⟨gb, 0, none⟩)), (43, .int .i64 (j : Nat)), (44, .int .i64 (j + 1 : Nat)), (45, .slice p n cap)]) (fun _ => bx (γ1 0) (#[.pointer (some ⟨gb, 0, none⟩)]) 72 :: bx gb (#[.slice q m capq]) 38 :: bx gm (#[.slice p n cap]) 25 :: bx gi (#[.int .i64 (j + 1 : Nat)]) 3 :: (Y ++ (Yi ++ (YR ++ [])))) ?_ (fun hmx18 => ?_)
      ·
       rintro _ _
       refine any_fork [0, 4, 8] (by kernel_rfl) (by simp) (each_cons _ rfl ?_ (each_cons _ rfl ?_ (each_cons _ rfl ?_ (each_nil))))
       ·
        refine qo0 1 [(0, .go (owns 0 0 1))] [41, 43, 44, 45] [(38, .pointer (some ⟨gb, 0, none⟩))] ?_
        refine od_ ?_
        exact wk (hmx25 () trivial) [38, 41, 43, 44, 45] [[_], [_], [_], [_], _, _, _] [0, 1, 2, 3, 4, 5, 6] rfl rfl
       ·
        refine qo0 1 [(4, .go (owns 1 0 1))] [3, 43, 44, 45] [(42, .slice q m capq)] ?_
        refine od_ ?_
        exact wk (hmx29 () trivial) [3, 42, 43, 44, 45] [[_], [_], [_], [_], _, _, _] [0, 1, 2, 3, 4, 5, 6] rfl rfl
       ·
        refine cP (fun v L' => ∃ q_ c_ Y_, v = .slice q_ n c_ ∧ L' = List.take 4 (bx (γ1 0) (#[.pointer (some ⟨gb, 0, none⟩)]) 72 :: bx gb (#[.slice q m capq]) 38 :: bx gm (#[.slice p n cap]) 25 :: bx gi (#[.int .i64 (j + 1 : Nat)]) 3 :: (Y ++ (Yi ++ (YR ++ [])))) ++ (Y_ ++ List.drop 4 (bx (γ1 0) (#[.pointer (some ⟨gb, 0, none⟩)]) 72 :: bx gb (#[.slice q m capq]) 38 :: bx gm (#[.slice p n cap]) 25 :: bx gi (#[.int .i64 (j + 1 : Nat)]) 3 :: (Y ++ (Yi ++ (YR ++ []))))) ∧ SlO 3 Y_ q_ n c_ l) Try.call44 (fun w hw => (cloneints_t p n cap l w (hsl.kept hw.below) hn (by omega)).mono fun e w' ⟨q_, c_, Y_, he, hO, hb, hY⟩ => ⟨_, _, he, ⟨q_, c_, Y_, rfl, rfl, hO⟩, hw.join hb hY 4⟩) ?_
        rintro v590 L590 ⟨q590, cq590, Y590, rfl, rfl, hO590⟩
        refine od_ ?_
        refine tk (m := 7) [9] [] [3, 41, 43] [(47, .agg #[.int .i64 (j + 1 : Nat), .slice q590 n cq590])] ([]) #[false, true, true, true, false, true, true, true, true, true, false, false, false, false, false] al0 ?_
        exact wk (hmx32 (Y590, cq590, q590) hO590) [3, 41, 43, 47] [[_], [_], [_], [_], _, _, _, _] [0, 1, 2, 3, 4, 5, 6, 7] rfl rfl
      refine any_cutX (V := Unit) (fun _ => True) 9 #[true, true, true, true, false, true, false, true, false, false, false, false, false, false, false] (fun _ => [(2, .pointer (some ⟨gi, 0, none⟩)), (38, .pointer (some ⟨gb, 0, none⟩)), (41, .pointer (some ⟨gb, 0, none⟩)), (43, .int .i64 (j : Nat)), (45, .slice p n cap)]) (fun _ => bx (γ1 0) (#[.pointer (some ⟨gb, 0, none⟩)]) 72 :: bx gb (#[.slice q m capq]) 38 :: bx gm (#[.slice p n cap]) 25 :: bx gi (#[.int .i64 (j + 1 : Nat)]) 3 :: (Y ++ (Yi ++ (YR ++ [])))) ?_ (fun hmx17 => ?_)
      ·
       rintro _ _
       refine any_fork [4, 6, 8] (by kernel_rfl) (by simp) (each_cons _ rfl ?_ (each_cons _ rfl ?_ (each_cons _ rfl ?_ (each_nil))))
       ·
        refine qo0 1 [(4, .go (owns 1 0 1))] [2, 38, 43, 45] [(42, .slice q m capq)] ?_
        refine od_ ?_
        exact wk (hmx28 () trivial) [2, 38, 42, 43, 45] [[_], [_], [_], [_], _, _, _] [0, 1, 2, 3, 4, 5, 6] rfl rfl
       ·
        refine qo0 1 [(6, .go (owns 3 0 1))] [38, 41, 43, 45] [(44, .int .i64 (j + 1 : Nat))] ?_
        refine od_ ?_
        exact wk (hmx25 () trivial) [38, 41, 43, 44, 45] [[_], [_], [_], [_], _, _, _] [0, 1, 2, 3, 4, 5, 6] rfl rfl
       ·
        refine cP (fun v L' => ∃ q_ c_ Y_, v = .slice q_ n c_ ∧ L' = List.take 4 (bx (γ1 0) (#[.pointer (some ⟨gb, 0, none⟩)]) 72 :: bx gb (#[.slice q m capq]) 38 :: bx gm (#[.slice p n cap]) 25 :: bx gi (#[.int .i64 (j + 1 : Nat)]) 3 :: (Y ++ (Yi ++ (YR ++ [])))) ++ (Y_ ++ List.drop 4 (bx (γ1 0) (#[.pointer (some ⟨gb, 0, none⟩)]) 72 :: bx gb (#[.slice q m capq]) 38 :: bx gm (#[.slice p n cap]) 25 :: bx gi (#[.int .i64 (j + 1 : Nat)]) 3 :: (Y ++ (Yi ++ (YR ++ []))))) ∧ SlO 3 Y_ q_ n c_ l) Try.call44 (fun w hw => (cloneints_t p n cap l w (hsl.kept hw.below) hn (by omega)).mono fun e w' ⟨q_, c_, Y_, he, hO, hb, hY⟩ => ⟨_, _, he, ⟨q_, c_, Y_, rfl, rfl, hO⟩, hw.join hb hY 4⟩) ?_
        rintro v590 L590 ⟨q590, cq590, Y590, rfl, rfl, hO590⟩
        refine od_ ?_
        exact wk (hmx26 (Y590, cq590, q590) hO590) [2, 38, 41, 43, 46] [[_], [_], [_], [_], _, _, _, _] [0, 1, 2, 3, 4, 5, 6, 7] rfl rfl
      refine any_cutX (V := Unit) (fun _ => True) 9 #[true, true, true, true, false, true, true, false, false, false, false, false, false, false, false] (fun _ => [(1, .pointer (some ⟨gm, 0, none⟩)), (38, .pointer (some ⟨gb, 0, none⟩)), (41, .pointer (some ⟨gb, 0, none⟩)), (43, .int .i64 (j : Nat)), (44, .int .i64 (j + 1 : Nat))]) (fun _ => bx (γ1 0) (#[.pointer (some ⟨gb, 0, none⟩)]) 72 :: bx gb (#[.slice q m capq]) 38 :: bx gm (#[.slice p n cap]) 25 :: bx gi (#[.int .i64 (j + 1 : Nat)]) 3 :: (Y ++ (Yi ++ (YR ++ [])))) ?_ (fun hmx16 => ?_)
      ·
       rintro _ _
       refine any_fork [4, 7] (by kernel_rfl) (by simp) (each_cons _ rfl ?_ (each_cons _ rfl ?_ (each_nil)))
       ·
        refine qo0 1 [(4, .go (owns 1 0 1))] [1, 38, 43, 44] [(42, .slice q m capq)] ?_
        refine od_ ?_
        exact wk (hmx27 () trivial) [1, 38, 42, 43, 44] [[_], [_], [_], [_], _, _, _] [0, 1, 2, 3, 4, 5, 6] rfl rfl
       ·
        refine qo0 1 [(7, .go (owns 2 0 1))] [38, 41, 43, 44] [(45, .slice p n cap)] ?_
        refine od_ ?_
        exact wk (hmx25 () trivial) [38, 41, 43, 44, 45] [[_], [_], [_], [_], _, _, _] [0, 1, 2, 3, 4, 5, 6] rfl rfl
      refine any_cutX (V := Unit) (fun _ => True) 10 #[false, true, true, true, true, true, false, false, false, false, false, false, false, false, false] (fun _ => [(1, .pointer (some ⟨gm, 0, none⟩)), (2, .pointer (some ⟨gi, 0, none⟩)), (3, .pointer (some ⟨γ1 0, 0, none⟩)), (42, .slice q m capq), (43, .int .i64 (j : Nat))]) (fun _ => bx (γ1 0) (#[.pointer (some ⟨gb, 0, none⟩)]) 72 :: bx gb (#[.slice q m capq]) 38 :: bx gm (#[.slice p n cap]) 25 :: bx gi (#[.int .i64 (j + 1 : Nat)]) 3 :: (Y ++ (Yi ++ (YR ++ [])))) ?_ (fun hmx15 => ?_)
      ·
       rintro _ _
       refine any_fork [0, 6, 7] (by kernel_rfl) (by simp) (each_cons _ rfl ?_ (each_cons _ rfl ?_ (each_cons _ rfl ?_ (each_nil))))
       ·
        refine qo0 1 [(0, .go (owns 0 0 1))] [1, 2, 42, 43] [(38, .pointer (some ⟨gb, 0, none⟩))] ?_
        refine od_ ?_
        exact wk (hmx21 () trivial) [1, 2, 38, 42, 43] [[_], [_], [_], [_], _, _, _] [0, 1, 2, 3, 4, 5, 6] rfl rfl
       ·
        refine qo0 1 [(6, .go (owns 3 0 1))] [1, 3, 42, 43] [(44, .int .i64 (j + 1 : Nat))] ?_
        refine od_ ?_
        exact wk (hmx22 () trivial) [1, 3, 42, 43, 44] [[_], [_], [_], [_], _, _, _] [0, 1, 2, 3, 4, 5, 6] rfl rfl
       ·
        refine qo0 1 [(7, .go (owns 2 0 1))] [2, 3, 42, 43] [(45, .slice p n cap)] ?_
        refine od_ ?_
        exact wk (hmx23 () trivial) [2, 3, 42, 43, 45] [[_], [_], [_], [_], _, _, _] [0, 1, 2, 3, 4, 5, 6] rfl rfl
      refine any_cutX (V := (List Ob) × (Nat) × (Option Addr)) (fun ⟨Y590, cq590, q590⟩ => SlO 3 Y590 q590 n cq590 l) 10 #[false, false, false, false, false, true, true, true, true, true, false, false, false, false, false] (fun ⟨Y590, cq590, q590⟩ => [(3, .pointer (some ⟨γ1 0, 0, none⟩)), (43, .int .i64 (j : Nat)), (47, .agg #[.int .i64 (j + 1 : Nat), .slice q590 n cq590])]) (fun ⟨Y590, cq590, q590⟩ => bx (γ1 0) (#[.pointer (some ⟨gb, 0, none⟩)]) 72 :: bx gb (#[.slice q m capq]) 38 :: bx gm (#[.slice p n cap]) 25 :: bx gi (#[.int .i64 (j + 1 : Nat)]) 3 :: (Y590 ++ (Y ++ (Yi ++ (YR ++ []))))) ?_ (fun hmx14 => ?_)
      ·
       rintro ⟨Y590, cq590, q590⟩ hO590
       refine any_fork [0, 1, 10] (by kernel_rfl) (by simp) (each_cons _ rfl ?_ (each_cons _ rfl ?_ (each_cons _ rfl ?_ (each_nil))))
       ·
        refine qo0 1 [(0, .go (owns 0 0 1))] [3, 43, 47] [(38, .pointer (some ⟨gb, 0, none⟩))] ?_
        refine od_ ?_
        exact wk (hmx20 (Y590, cq590, q590) hO590) [3, 38, 43, 47] [[_], [_], [_], [_], _, _, _, _] [0, 1, 2, 3, 4, 5, 6, 7] rfl rfl
       ·
        refine qo0 1 [(1, .go (owns 0 0 1))] [3, 43, 47] [(39, .pointer (some ⟨gb, 0, none⟩))] ?_
        refine od_ ?_
        refine tk (m := 7) [2, 3] [] [3, 43, 47] [(41, .pointer (some ⟨gb, 0, none⟩))] ([]) #[false, true, true, true, false, true, true, true, true, true, false, false, false, false, false] al0 ?_
        exact wk (hmx32 (Y590, cq590, q590) hO590) [3, 41, 43, 47] [[_], [_], [_], [_], _, _, _, _] [0, 1, 2, 3, 4, 5, 6, 7] rfl rfl
       ·
        refine mo0 1 [] [3, 43] (fun γ630 => [(48, .slice (some ⟨γ630 0, 0, none⟩) 1 1)]) (fun γ630 L => bx (γ630 0) (#[.int .i64 (j + 1 : Nat), .slice q590 n cq590]) 46 :: L) (fun γ630 => ?_)
        refine od_ ?_
        exact wk (hmx24 (Y590, cq590, q590, γ630) hO590) [3, 43, 48] [[_], [_], [_], [_], [_], _, _, _, _] [0, 1, 2, 3, 4, 5, 6, 7, 8] rfl rfl
      refine any_cutX (V := Unit) (fun _ => True) 10 #[false, true, true, true, false, true, false, true, false, false, false, false, false, false, false] (fun _ => [(2, .pointer (some ⟨gi, 0, none⟩)), (3, .pointer (some ⟨γ1 0, 0, none⟩)), (41, .pointer (some ⟨gb, 0, none⟩)), (43, .int .i64 (j : Nat)), (45, .slice p n cap)]) (fun _ => bx (γ1 0) (#[.pointer (some ⟨gb, 0, none⟩)]) 72 :: bx gb (#[.slice q m capq]) 38 :: bx gm (#[.slice p n cap]) 25 :: bx gi (#[.int .i64 (j + 1 : Nat)]) 3 :: (Y ++ (Yi ++ (YR ++ [])))) ?_ (fun hmx13 => ?_)
      ·
       rintro _ _
       refine any_fork [0, 4, 6, 8] (by kernel_rfl) (by simp) (each_cons _ rfl ?_ (each_cons _ rfl ?_ (each_cons _ rfl ?_ (each_cons _ rfl ?_ (each_nil)))))
       ·
        refine qo0 1 [(0, .go (owns 0 0 1))] [2, 41, 43, 45] [(38, .pointer (some ⟨gb, 0, none⟩))] ?_
        refine od_ ?_
        exact wk (hmx17 () trivial) [2, 38, 41, 43, 45] [[_], [_], [_], [_], _, _, _] [0, 1, 2, 3, 4, 5, 6] rfl rfl
       ·
        refine qo0 1 [(4, .go (owns 1 0 1))] [2, 3, 43, 45] [(42, .slice q m capq)] ?_
        refine od_ ?_
        exact wk (hmx23 () trivial) [2, 3, 42, 43, 45] [[_], [_], [_], [_], _, _, _] [0, 1, 2, 3, 4, 5, 6] rfl rfl
       ·
        refine qo0 1 [(6, .go (owns 3 0 1))] [3, 41, 43, 45] [(44, .int .i64 (j + 1 : Nat))] ?_
        refine od_ ?_
        exact wk (hmx18 () trivial) [3, 41, 43, 44, 45] [[_], [_], [_], [_], _, _, _] [0, 1, 2, 3, 4, 5, 6] rfl rfl
       ·
        refine cP (fun v L' => ∃ q_ c_ Y_, v = .slice q_ n c_ ∧ L' = List.take 4 (bx (γ1 0) (#[.pointer (some ⟨gb, 0, none⟩)]) 72 :: bx gb (#[.slice q m capq]) 38 :: bx gm (#[.slice p n cap]) 25 :: bx gi (#[.int .i64 (j + 1 : Nat)]) 3 :: (Y ++ (Yi ++ (YR ++ [])))) ++ (Y_ ++ List.drop 4 (bx (γ1 0) (#[.pointer (some ⟨gb, 0, none⟩)]) 72 :: bx gb (#[.slice q m capq]) 38 :: bx gm (#[.slice p n cap]) 25 :: bx gi (#[.int .i64 (j + 1 : Nat)]) 3 :: (Y ++ (Yi ++ (YR ++ []))))) ∧ SlO 3 Y_ q_ n c_ l) Try.call44 (fun w hw => (cloneints_t p n cap l w (hsl.kept hw.below) hn (by omega)).mono fun e w' ⟨q_, c_, Y_, he, hO, hb, hY⟩ => ⟨_, _, he, ⟨q_, c_, Y_, rfl, rfl, hO⟩, hw.join hb hY 4⟩) ?_
        rintro v590 L590 ⟨q590, cq590, Y590, rfl, rfl, hO590⟩
        refine od_ ?_
        exact wk (hmx19 (Y590, cq590, q590) hO590) [2, 3, 41, 43, 46] [[_], [_], [_], [_], _, _, _, _] [0, 1, 2, 3, 4, 5, 6, 7] rfl rfl
      refine any_cutX (V := Unit) (fun _ => True) 10 #[false, true, true, true, false, true, true, false, false, false, false, false, false, false, false] (fun _ => [(1, .pointer (some ⟨gm, 0, none⟩)), (3, .pointer (some ⟨γ1 0, 0, none⟩)), (41, .pointer (some ⟨gb, 0, none⟩)), (43, .int .i64 (j : Nat)), (44, .int .i64 (j + 1 : Nat))]) (fun _ => bx (γ1 0) (#[.pointer (some ⟨gb, 0, none⟩)]) 72 :: bx gb (#[.slice q m capq]) 38 :: bx gm (#[.slice p n cap]) 25 :: bx gi (#[.int .i64 (j + 1 : Nat)]) 3 :: (Y ++ (Yi ++ (YR ++ [])))) ?_ (fun hmx12 => ?_)
      ·
       rintro _ _
       refine any_fork [0, 4, 7] (by kernel_rfl) (by simp) (each_cons _ rfl ?_ (each_cons _ rfl ?_ (each_cons _ rfl ?_ (each_nil))))
       ·
        refine qo0 1 [(0, .go (owns 0 0 1))] [1, 41, 43, 44] [(38, .pointer (some ⟨gb, 0, none⟩))] ?_
        refine od_ ?_
        exact wk (hmx16 () trivial) [1, 38, 41, 43, 44] [[_], [_], [_], [_], _, _, _] [0, 1, 2, 3, 4, 5, 6] rfl rfl
       ·
        refine qo0 1 [(4, .go (owns 1 0 1))] [1, 3, 43, 44] [(42, .slice q m capq)] ?_
        refine od_ ?_
        exact wk (hmx22 () trivial) [1, 3, 42, 43, 44] [[_], [_], [_], [_], _, _, _] [0, 1, 2, 3, 4, 5, 6] rfl rfl
       ·
        refine qo0 1 [(7, .go (owns 2 0 1))] [3, 41, 43, 44] [(45, .slice p n cap)] ?_
        refine od_ ?_
        exact wk (hmx18 () trivial) [3, 41, 43, 44, 45] [[_], [_], [_], [_], _, _, _] [0, 1, 2, 3, 4, 5, 6] rfl rfl
      refine any_cutX (V := Unit) (fun _ => True) 10 #[true, true, true, true, false, true, false, false, false, false, false, false, false, false, false] (fun _ => [(1, .pointer (some ⟨gm, 0, none⟩)), (2, .pointer (some ⟨gi, 0, none⟩)), (38, .pointer (some ⟨gb, 0, none⟩)), (41, .pointer (some ⟨gb, 0, none⟩)), (43, .int .i64 (j : Nat))]) (fun _ => bx (γ1 0) (#[.pointer (some ⟨gb, 0, none⟩)]) 72 :: bx gb (#[.slice q m capq]) 38 :: bx gm (#[.slice p n cap]) 25 :: bx gi (#[.int .i64 (j + 1 : Nat)]) 3 :: (Y ++ (Yi ++ (YR ++ [])))) ?_ (fun hmx11 => ?_)
      ·
       rintro _ _
       refine any_fork [4, 6, 7] (by kernel_rfl) (by simp) (each_cons _ rfl ?_ (each_cons _ rfl ?_ (each_cons _ rfl ?_ (each_nil))))
       ·
        refine qo0 1 [(4, .go (owns 1 0 1))] [1, 2, 38, 43] [(42, .slice q m capq)] ?_
        refine od_ ?_
        exact wk (hmx21 () trivial) [1, 2, 38, 42, 43] [[_], [_], [_], [_], _, _, _] [0, 1, 2, 3, 4, 5, 6] rfl rfl
       ·
        refine qo0 1 [(6, .go (owns 3 0 1))] [1, 38, 41, 43] [(44, .int .i64 (j + 1 : Nat))] ?_
        refine od_ ?_
        exact wk (hmx16 () trivial) [1, 38, 41, 43, 44] [[_], [_], [_], [_], _, _, _] [0, 1, 2, 3, 4, 5, 6] rfl rfl
       ·
        refine qo0 1 [(7, .go (owns 2 0 1))] [2, 38, 41, 43] [(45, .slice p n cap)] ?_
        refine od_ ?_
        exact wk (hmx17 () trivial) [2, 38, 41, 43, 45] [[_], [_], [_], [_], _, _, _] [0, 1, 2, 3, 4, 5, 6] rfl rfl
      refine any_cutX (V := (List Ob) × (Nat) × (Option Addr)) (fun ⟨Y590, cq590, q590⟩ => SlO 3 Y590 q590 n cq590 l) 11 #[true, false, false, false, false, true, false, true, true, false, false, false, false, false, false] (fun ⟨Y590, cq590, q590⟩ => [(2, .pointer (some ⟨gi, 0, none⟩)), (3, .pointer (some ⟨γ1 0, 0, none⟩)), (38, .pointer (some ⟨gb, 0, none⟩)), (43, .int .i64 (j : Nat)), (46, .slice q590 n cq590)]) (fun ⟨Y590, cq590, q590⟩ => bx (γ1 0) (#[.pointer (some ⟨gb, 0, none⟩)]) 72 :: bx gb (#[.slice q m capq]) 38 :: bx gm (#[.slice p n cap]) 25 :: bx gi (#[.int .i64 (j + 1 : Nat)]) 3 :: (Y590 ++ (Y ++ (Yi ++ (YR ++ []))))) ?_ (fun hmx10 => ?_)
      ·
       rintro ⟨Y590, cq590, q590⟩ hO590
       refine any_fork [1, 6] (by kernel_rfl) (by simp) (each_cons _ rfl ?_ (each_cons _ rfl ?_ (each_nil)))
       ·
        refine qo0 1 [(1, .go (owns 0 0 1))] [2, 38, 43, 46] [(39, .pointer (some ⟨gb, 0, none⟩))] ?_
        refine od_ ?_
        refine tk (m := 8) [2, 3] [] [2, 38, 43, 46] [(41, .pointer (some ⟨gb, 0, none⟩))] ([]) #[true, true, true, true, false, true, false, true, true, false, false, false, false, false, false] al0 ?_
        exact wk (hmx26 (Y590, cq590, q590) hO590) [2, 38, 41, 43, 46] [[_], [_], [_], [_], _, _, _, _] [0, 1, 2, 3, 4, 5, 6, 7] rfl rfl
       ·
        refine qo0 1 [(6, .go (owns 3 0 1))] [3, 38, 43, 46] [(44, .int .i64 (j + 1 : Nat))] ?_
        refine od_ ?_
        refine tk (m := 9) [9] [] [3, 38, 43] [(47, .agg #[.int .i64 (j + 1 : Nat), .slice q590 n cq590])] ([]) #[true, false, false, false, false, true, true, true, true, true, false, false, false, false, false] al0 ?_
        exact wk (hmx20 (Y590, cq590, q590) hO590) [3, 38, 43, 47] [[_], [_], [_], [_], _, _, _, _] [0, 1, 2, 3, 4, 5, 6, 7] rfl rfl
      refine any_cutX (V := Unit) (fun _ => True) 11 #[true, false, false, false, false, true, true, true, false, false, false, false, false, false, false] (fun _ => [(3, .pointer (some ⟨γ1 0, 0, none⟩)), (38, .pointer (some ⟨gb, 0, none⟩)), (43, .int .i64 (j : Nat)), (44, .int .i64 (j + 1 : Nat)), (45, .slice p n cap)]) (fun _ => bx (γ1 0) (#[.pointer (some ⟨gb, 0, none⟩)]) 72 :: bx gb (#[.slice q m capq]) 38 :: bx gm (#[.slice p n cap]) 25 :: bx gi (#[.int .i64 (j + 1 : Nat)]) 3 :: (Y ++ (Yi ++ (YR ++ [])))) ?_ (fun hmx9 => ?_)
      ·
       rintro _ _
       refine any_fork [1, 8] (by kernel_rfl) (by simp) (each_cons _ rfl ?_ (each_cons _ rfl ?_ (each_nil)))
       ·
        refine qo0 1 [(1, .go (owns 0 0 1))] [38, 43, 44, 45] [(39, .pointer (some ⟨gb, 0, none⟩))] ?_
        refine od_ ?_
        refine tk (m := 8) [2, 3] [] [38, 43, 44, 45] [(41, .pointer (some ⟨gb, 0, none⟩))] ([]) #[true, true, true, true, false, true, true, true, false, false, false, false, false, false, false] al0 ?_
        exact wk (hmx25 () trivial) [38, 41, 43, 44, 45] [[_], [_], [_], [_], _, _, _] [0, 1, 2, 3, 4, 5, 6] rfl rfl
       ·
        refine cP (fun v L' => ∃ q_ c_ Y_, v = .slice q_ n c_ ∧ L' = List.take 4 (bx (γ1 0) (#[.pointer (some ⟨gb, 0, none⟩)]) 72 :: bx gb (#[.slice q m capq]) 38 :: bx gm (#[.slice p n cap]) 25 :: bx gi (#[.int .i64 (j + 1 : Nat)]) 3 :: (Y ++ (Yi ++ (YR ++ [])))) ++ (Y_ ++ List.drop 4 (bx (γ1 0) (#[.pointer (some ⟨gb, 0, none⟩)]) 72 :: bx gb (#[.slice q m capq]) 38 :: bx gm (#[.slice p n cap]) 25 :: bx gi (#[.int .i64 (j + 1 : Nat)]) 3 :: (Y ++ (Yi ++ (YR ++ []))))) ∧ SlO 3 Y_ q_ n c_ l) Try.call44 (fun w hw => (cloneints_t p n cap l w (hsl.kept hw.below) hn (by omega)).mono fun e w' ⟨q_, c_, Y_, he, hO, hb, hY⟩ => ⟨_, _, he, ⟨q_, c_, Y_, rfl, rfl, hO⟩, hw.join hb hY 4⟩) ?_
        rintro v590 L590 ⟨q590, cq590, Y590, rfl, rfl, hO590⟩
        refine od_ ?_
        refine tk (m := 9) [9] [] [3, 38, 43] [(47, .agg #[.int .i64 (j + 1 : Nat), .slice q590 n cq590])] ([]) #[true, false, false, false, false, true, true, true, true, true, false, false, false, false, false] al0 ?_
        exact wk (hmx20 (Y590, cq590, q590) hO590) [3, 38, 43, 47] [[_], [_], [_], [_], _, _, _, _] [0, 1, 2, 3, 4, 5, 6, 7] rfl rfl
      refine any_cutX (V := Unit) (fun _ => True) 11 #[false, true, true, true, false, true, false, false, false, false, false, false, false, false, false] (fun _ => [(1, .pointer (some ⟨gm, 0, none⟩)), (2, .pointer (some ⟨gi, 0, none⟩)), (3, .pointer (some ⟨γ1 0, 0, none⟩)), (41, .pointer (some ⟨gb, 0, none⟩)), (43, .int .i64 (j : Nat))]) (fun _ => bx (γ1 0) (#[.pointer (some ⟨gb, 0, none⟩)]) 72 :: bx gb (#[.slice q m capq]) 38 :: bx gm (#[.slice p n cap]) 25 :: bx gi (#[.int .i64 (j + 1 : Nat)]) 3 :: (Y ++ (Yi ++ (YR ++ [])))) ?_ (fun hmx8 => ?_)
      ·
       rintro _ _
       refine any_fork [0, 4, 6, 7] (by kernel_rfl) (by simp) (each_cons _ rfl ?_ (each_cons _ rfl ?_ (each_cons _ rfl ?_ (each_cons _ rfl ?_ (each_nil)))))
       ·
        refine qo0 1 [(0, .go (owns 0 0 1))] [1, 2, 41, 43] [(38, .pointer (some ⟨gb, 0, none⟩))] ?_
        refine od_ ?_
        exact wk (hmx11 () trivial) [1, 2, 38, 41, 43] [[_], [_], [_], [_], _, _, _] [0, 1, 2, 3, 4, 5, 6] rfl rfl
       ·
        refine qo0 1 [(4, .go (owns 1 0 1))] [1, 2, 3, 43] [(42, .slice q m capq)] ?_
        refine od_ ?_
        exact wk (hmx15 () trivial) [1, 2, 3, 42, 43] [[_], [_], [_], [_], _, _, _] [0, 1, 2, 3, 4, 5, 6] rfl rfl
       ·
        refine qo0 1 [(6, .go (owns 3 0 1))] [1, 3, 41, 43] [(44, .int .i64 (j + 1 : Nat))] ?_
        refine od_ ?_
        exact wk (hmx12 () trivial) [1, 3, 41, 43, 44] [[_], [_], [_], [_], _, _, _] [0, 1, 2, 3, 4, 5, 6] rfl rfl
       ·
        refine qo0 1 [(7, .go (owns 2 0 1))] [2, 3, 41, 43] [(45, .slice p n cap)] ?_
        refine od_ ?_
        exact wk (hmx13 () trivial) [2, 3, 41, 43, 45] [[_], [_], [_], [_], _, _, _] [0, 1, 2, 3, 4, 5, 6] rfl rfl
      refine any_cutX (V := (List Ob) × (Nat) × (Option Addr)) (fun ⟨Y590, cq590, q590⟩ => SlO 3 Y590 q590 n cq590 l) 12 #[false, false, false, false, false, true, false, true, true, false, false, false, false, false, false] (fun ⟨Y590, cq590, q590⟩ => [(2, .pointer (some ⟨gi, 0, none⟩)), (3, .pointer (some ⟨γ1 0, 0, none⟩)), (43, .int .i64 (j : Nat)), (46, .slice q590 n cq590)]) (fun ⟨Y590, cq590, q590⟩ => bx (γ1 0) (#[.pointer (some ⟨gb, 0, none⟩)]) 72 :: bx gb (#[.slice q m capq]) 38 :: bx gm (#[.slice p n cap]) 25 :: bx gi (#[.int .i64 (j + 1 : Nat)]) 3 :: (Y590 ++ (Y ++ (Yi ++ (YR ++ []))))) ?_ (fun hmx7 => ?_)
      ·
       rintro ⟨Y590, cq590, q590⟩ hO590
       refine any_fork [0, 1, 6] (by kernel_rfl) (by simp) (each_cons _ rfl ?_ (each_cons _ rfl ?_ (each_cons _ rfl ?_ (each_nil))))
       ·
        refine qo0 1 [(0, .go (owns 0 0 1))] [2, 3, 43, 46] [(38, .pointer (some ⟨gb, 0, none⟩))] ?_
        refine od_ ?_
        exact wk (hmx10 (Y590, cq590, q590) hO590) [2, 3, 38, 43, 46] [[_], [_], [_], [_], _, _, _, _] [0, 1, 2, 3, 4, 5, 6, 7] rfl rfl
       ·
        refine qo0 1 [(1, .go (owns 0 0 1))] [2, 3, 43, 46] [(39, .pointer (some ⟨gb, 0, none⟩))] ?_
        refine od_ ?_
        refine tk (m := 9) [2, 3] [] [2, 3, 43, 46] [(41, .pointer (some ⟨gb, 0, none⟩))] ([]) #[false, true, true, true, false, true, false, true, true, false, false, false, false, false, false] al0 ?_
        exact wk (hmx19 (Y590, cq590, q590) hO590) [2, 3, 41, 43, 46] [[_], [_], [_], [_], _, _, _, _] [0, 1, 2, 3, 4, 5, 6, 7] rfl rfl
       ·
        refine qo0 1 [(6, .go (owns 3 0 1))] [3, 43, 46] [(44, .int .i64 (j + 1 : Nat))] ?_
        refine od_ ?_
        refine tk (m := 10) [9] [] [3, 43] [(47, .agg #[.int .i64 (j + 1 : Nat), .slice q590 n cq590])] ([]) #[false, false, false, false, false, true, true, true, true, true, false, false, false, false, false] al0 ?_
        exact wk (hmx14 (Y590, cq590, q590) hO590) [3, 43, 47] [[_], [_], [_], [_], _, _, _, _] [0, 1, 2, 3, 4, 5, 6, 7] rfl rfl
      refine any_cutX (V := Unit) (fun _ => True) 12 #[false, false, false, false, false, true, true, true, false, false, false, false, false, false, false] (fun _ => [(3, .pointer (some ⟨γ1 0, 0, none⟩)), (43, .int .i64 (j : Nat)), (44, .int .i64 (j + 1 : Nat)), (45, .slice p n cap)]) (fun _ => bx (γ1 0) (#[.pointer (some ⟨gb, 0, none⟩)]) 72 :: bx gb (#[.slice q m capq]) 38 :: bx gm (#[.slice p n cap]) 25 :: bx gi (#[.int .i64 (j + 1 : Nat)]) 3 :: (Y ++ (Yi ++ (YR ++ [])))) ?_ (fun hmx6 => ?_)
      ·
       rintro _ _
       refine any_fork [0, 1, 8] (by kernel_rfl) (by simp) (each_cons _ rfl ?_ (each_cons _ rfl ?_ (each_cons _ rfl ?_ (each_nil))))
       ·
        refine qo0 1 [(0, .go (owns 0 0 1))] [3, 43, 44, 45] [(38, .pointer (some ⟨gb, 0, none⟩))] ?_
        refine od_ ?_
        exact wk (hmx9 () trivial) [3, 38, 43, 44, 45] [[_], [_], [_], [_], _, _, _] [0, 1, 2, 3, 4, 5, 6] rfl rfl
       ·
        refine qo0 1 [(1, .go (owns 0 0 1))] [3, 43, 44, 45] [(39, .pointer (some ⟨gb, 0, none⟩))] ?_
        refine od_ ?_
        refine tk (m := 9) [2, 3] [] [3, 43, 44, 45] [(41, .pointer (some ⟨gb, 0, none⟩))] ([]) #[false, true, true, true, false, true, true, true, false, false, false, false, false, false, false] al0 ?_
        exact wk (hmx18 () trivial) [3, 41, 43, 44, 45] [[_], [_], [_], [_], _, _, _] [0, 1, 2, 3, 4, 5, 6] rfl rfl
       ·
        refine cP (fun v L' => ∃ q_ c_ Y_, v = .slice q_ n c_ ∧ L' = List.take 4 (bx (γ1 0) (#[.pointer (some ⟨gb, 0, none⟩)]) 72 :: bx gb (#[.slice q m capq]) 38 :: bx gm (#[.slice p n cap]) 25 :: bx gi (#[.int .i64 (j + 1 : Nat)]) 3 :: (Y ++ (Yi ++ (YR ++ [])))) ++ (Y_ ++ List.drop 4 (bx (γ1 0) (#[.pointer (some ⟨gb, 0, none⟩)]) 72 :: bx gb (#[.slice q m capq]) 38 :: bx gm (#[.slice p n cap]) 25 :: bx gi (#[.int .i64 (j + 1 : Nat)]) 3 :: (Y ++ (Yi ++ (YR ++ []))))) ∧ SlO 3 Y_ q_ n c_ l) Try.call44 (fun w hw => (cloneints_t p n cap l w (hsl.kept hw.below) hn (by omega)).mono fun e w' ⟨q_, c_, Y_, he, hO, hb, hY⟩ => ⟨_, _, he, ⟨q_, c_, Y_, rfl, rfl, hO⟩, hw.join hb hY 4⟩) ?_
        rintro v590 L590 ⟨q590, cq590, Y590, rfl, rfl, hO590⟩
        refine od_ ?_
        refine tk (m := 10) [9] [] [3, 43] [(47, .agg #[.int .i64 (j + 1 : Nat), .slice q590 n cq590])] ([]) #[false, false, false, false, false, true, true, true, true, true, false, false, false, false, false] al0 ?_
        exact wk (hmx14 (Y590, cq590, q590) hO590) [3, 43, 47] [[_], [_], [_], [_], _, _, _, _] [0, 1, 2, 3, 4, 5, 6, 7] rfl rfl
      refine any_cutX (V := Unit) (fun _ => True) 12 #[true, false, false, false, false, true, false, true, false, false, false, false, false, false, false] (fun _ => [(2, .pointer (some ⟨gi, 0, none⟩)), (3, .pointer (some ⟨γ1 0, 0, none⟩)), (38, .pointer (some ⟨gb, 0, none⟩)), (43, .int .i64 (j : Nat)), (45, .slice p n cap)]) (fun _ => bx (γ1 0) (#[.pointer (some ⟨gb, 0, none⟩)]) 72 :: bx gb (#[.slice q m capq]) 38 :: bx gm (#[.slice p n cap]) 25 :: bx gi (#[.int .i64 (j + 1 : Nat)]) 3 :: (Y ++ (Yi ++ (YR ++ [])))) ?_ (fun hmx5 => ?_)
      ·
       rintro _ _
       refine any_fork [1, 6, 8] (by kernel_rfl) (by simp) (each_cons _ rfl ?_ (each_cons _ rfl ?_ (each_cons _ rfl ?_ (each_nil))))
       ·
        refine qo0 1 [(1, .go (owns 0 0 1))] [2, 38, 43, 45] [(39, .pointer (some ⟨gb, 0, none⟩))] ?_
        refine od_ ?_
        refine tk (m := 9) [2, 3] [] [2, 38, 43, 45] [(41, .pointer (some ⟨gb, 0, none⟩))] ([]) #[true, true, true, true, false, true, false, true, false, false, false, false, false, false, false] al0 ?_
        exact wk (hmx17 () trivial) [2, 38, 41, 43, 45] [[_], [_], [_], [_], _, _, _] [0, 1, 2, 3, 4, 5, 6] rfl rfl
       ·
        refine qo0 1 [(6, .go (owns 3 0 1))] [3, 38, 43, 45] [(44, .int .i64 (j + 1 : Nat))] ?_
        refine od_ ?_
        exact wk (hmx9 () trivial) [3, 38, 43, 44, 45] [[_], [_], [_], [_], _, _, _] [0, 1, 2, 3, 4, 5, 6] rfl rfl
       ·
        refine cP (fun v L' => ∃ q_ c_ Y_, v = .slice q_ n c_ ∧ L' = List.take 4 (bx (γ1 0) (#[.pointer (some ⟨gb, 0, none⟩)]) 72 :: bx gb (#[.slice q m capq]) 38 :: bx gm (#[.slice p n cap]) 25 :: bx gi (#[.int .i64 (j + 1 : Nat)]) 3 :: (Y ++ (Yi ++ (YR ++ [])))) ++ (Y_ ++ List.drop 4 (bx (γ1 0) (#[.pointer (some ⟨gb, 0, none⟩)]) 72 :: bx gb (#[.slice q m capq]) 38 :: bx gm (#[.slice p n cap]) 25 :: bx gi (#[.int .i64 (j + 1 : Nat)]) 3 :: (Y ++ (Yi ++ (YR ++ []))))) ∧ SlO 3 Y_ q_ n c_ l) Try.call44 (fun w hw => (cloneints_t p n cap l w (hsl.kept hw.below) hn (by omega)).mono fun e w' ⟨q_, c_, Y_, he, hO, hb, hY⟩ => ⟨_, _, he, ⟨q_, c_, Y_, rfl, rfl, hO⟩, hw.join hb hY 4⟩) ?_
        rintro v590 L590 ⟨q590, cq590, Y590, rfl, rfl, hO590⟩
        refine od_ ?_
        exact wk (hmx10 (Y590, cq590, q590) hO590) [2, 3, 38, 43, 46] [[_], [_], [_], [_], _, _, _, _] [0, 1, 2, 3, 4, 5, 6, 7] rfl rfl
      refine any_cutX (V := Unit) (fun _ => True) 12 #[true, false, false, false, false, true, true, false, false, false, false, false, false, false, false] (fun _ => [(1, .pointer (some ⟨gm, 0, none⟩)), (3, .pointer (some ⟨γ1 0, 0, none⟩)), (38, .pointer (some ⟨gb, 0, none⟩)), (43, .int .i64 (j : Nat)), (44, .int .i64 (j + 1 : Nat))]) (fun _ => bx (γ1 0) (#[.pointer (some ⟨gb, 0, none⟩)]) 72 :: bx gb (#[.slice q m capq]) 38 :: bx gm (#[.slice p n cap]) 25 :: bx gi (#[.int .i64 (j + 1 : Nat)]) 3 :: (Y ++ (Yi ++ (YR ++ [])))) ?_ (fun hmx4 => ?_)
      ·
       rintro _ _
       refine any_fork [1, 7] (by kernel_rfl) (by simp) (each_cons _ rfl ?_ (each_cons _ rfl ?_ (each_nil)))
       ·
        refine qo0 1 [(1, .go (owns 0 0 1))] [1, 38, 43, 44] [(39, .pointer (some ⟨gb, 0, none⟩))] ?_
        refine od_ ?_
        refine tk (m := 9) [2, 3] [] [1, 38, 43, 44] [(41, .pointer (some ⟨gb, 0, none⟩))] ([]) #[true, true, true, true, false, true, true, false, false, false, false, false, false, false, false] al0 ?_
        exact wk (hmx16 () trivial) [1, 38, 41, 43, 44] [[_], [_], [_], [_], _, _, _] [0, 1, 2, 3, 4, 5, 6] rfl rfl
       ·
        refine qo0 1 [(7, .go (owns 2 0 1))] [3, 38, 43, 44] [(45, .slice p n cap)] ?_
        refine od_ ?_
        exact wk (hmx9 () trivial) [3, 38, 43, 44, 45] [[_], [_], [_], [_], _, _, _] [0, 1, 2, 3, 4, 5, 6] rfl rfl
      refine any_cutX (V := Unit) (fun _ => True) 13 #[false, false, false, false, false, true, false, true, false, false, false, false, false, false, false] (fun _ => [(2, .pointer (some ⟨gi, 0, none⟩)), (3, .pointer (some ⟨γ1 0, 0, none⟩)), (43, .int .i64 (j : Nat)), (45, .slice p n cap)]) (fun _ => bx (γ1 0) (#[.pointer (some ⟨gb, 0, none⟩)]) 72 :: bx gb (#[.slice q m capq]) 38 :: bx gm (#[.slice p n cap]) 25 :: bx gi (#[.int .i64 (j + 1 : Nat)]) 3 :: (Y ++ (Yi ++ (YR ++ [])))) ?_ (fun hmx3 => ?_)
      ·
       rintro _ _
       refine any_fork [0, 1, 6, 8] (by kernel_rfl) (by simp) (each_cons _ rfl ?_ (each_cons _ rfl ?_ (each_cons _ rfl ?_ (each_cons _ rfl ?_ (each_nil)))))
       ·
        refine qo0 1 [(0, .go (owns 0 0 1))] [2, 3, 43, 45] [(38, .pointer (some ⟨gb, 0, none⟩))] ?_
        refine od_ ?_
        exact wk (hmx5 () trivial) [2, 3, 38, 43, 45] [[_], [_], [_], [_], _, _, _] [0, 1, 2, 3, 4, 5, 6] rfl rfl
       ·
        refine qo0 1 [(1, .go (owns 0 0 1))] [2, 3, 43, 45] [(39, .pointer (some ⟨gb, 0, none⟩))] ?_
        refine od_ ?_
        refine tk (m := 10) [2, 3] [] [2, 3, 43, 45] [(41, .pointer (some ⟨gb, 0, none⟩))] ([]) #[false, true, true, true, false, true, false, true, false, false, false, false, false, false, false] al0 ?_
        exact wk (hmx13 () trivial) [2, 3, 41, 43, 45] [[_], [_], [_], [_], _, _, _] [0, 1, 2, 3, 4, 5, 6] rfl rfl
       ·
        refine qo0 1 [(6, .go (owns 3 0 1))] [3, 43, 45] [(44, .int .i64 (j + 1 : Nat))] ?_
        refine od_ ?_
        exact wk (hmx6 () trivial) [3, 43, 44, 45] [[_], [_], [_], [_], _, _, _] [0, 1, 2, 3, 4, 5, 6] rfl rfl
       ·
        refine cP (fun v L' => ∃ q_ c_ Y_, v = .slice q_ n c_ ∧ L' = List.take 4 (bx (γ1 0) (#[.pointer (some ⟨gb, 0, none⟩)]) 72 :: bx gb (#[.slice q m capq]) 38 :: bx gm (#[.slice p n cap]) 25 :: bx gi (#[.int .i64 (j + 1 : Nat)]) 3 :: (Y ++ (Yi ++ (YR ++ [])))) ++ (Y_ ++ List.drop 4 (bx (γ1 0) (#[.pointer (some ⟨gb, 0, none⟩)]) 72 :: bx gb (#[.slice q m capq]) 38 :: bx gm (#[.slice p n cap]) 25 :: bx gi (#[.int .i64 (j + 1 : Nat)]) 3 :: (Y ++ (Yi ++ (YR ++ []))))) ∧ SlO 3 Y_ q_ n c_ l) Try.call44 (fun w hw => (cloneints_t p n cap l w (hsl.kept hw.below) hn (by omega)).mono fun e w' ⟨q_, c_, Y_, he, hO, hb, hY⟩ => ⟨_, _, he, ⟨q_, c_, Y_, rfl, rfl, hO⟩, hw.join hb hY 4⟩) ?_
        rintro v590 L590 ⟨q590, cq590, Y590, rfl, rfl, hO590⟩
        refine od_ ?_
        exact wk (hmx7 (Y590, cq590, q590) hO590) [2, 3, 43, 46] [[_], [_], [_], [_], _, _, _, _] [0, 1, 2, 3, 4, 5, 6, 7] rfl rfl
      refine any_cutX (V := Unit) (fun _ => True) 13 #[false, false, false, false, false, true, true, false, false, false, false, false, false, false, false] (fun _ => [(1, .pointer (some ⟨gm, 0, none⟩)), (3, .pointer (some ⟨γ1 0, 0, none⟩)), (43, .int .i64 (j : Nat)), (44, .int .i64 (j + 1 : Nat))]) (fun _ => bx (γ1 0) (#[.pointer (some ⟨gb, 0, none⟩)]) 72 :: bx gb (#[.slice q m capq]) 38 :: bx gm (#[.slice p n cap]) 25 :: bx gi (#[.int .i64 (j + 1 : Nat)]) 3 :: (Y ++ (Yi ++ (YR ++ [])))) ?_ (fun hmx2 => ?_)
      ·
       rintro _ _
       refine any_fork [0, 1, 7] (by kernel_rfl) (by simp) (each_cons _ rfl ?_ (each_cons _ rfl ?_ (each_cons _ rfl ?_ (each_nil))))
       ·
        refine qo0 1 [(0, .go (owns 0 0 1))] [1, 3, 43, 44] [(38, .pointer (some ⟨gb, 0, none⟩))] ?_
        refine od_ ?_
        exact wk (hmx4 () trivial) [1, 3, 38, 43, 44] [[_], [_], [_], [_], _, _, _] [0, 1, 2, 3, 4, 5, 6] rfl rfl
       ·
        refine qo0 1 [(1, .go (owns 0 0 1))] [1, 3, 43, 44] [(39, .pointer (some ⟨gb, 0, none⟩))] ?_
        refine od_ ?_
        refine tk (m := 10) [2, 3] [] [1, 3, 43, 44] [(41, .pointer (some ⟨gb, 0, none⟩))] ([]) #[false, true, true, true, false, true, true, false, false, false, false, false, false, false, false] al0 ?_
        exact wk (hmx12 () trivial) [1, 3, 41, 43, 44] [[_], [_], [_], [_], _, _, _] [0, 1, 2, 3, 4, 5, 6] rfl rfl
       ·
        refine qo0 1 [(7, .go (owns 2 0 1))] [3, 43, 44] [(45, .slice p n cap)] ?_
        refine od_ ?_
        exact wk (hmx6 () trivial) [3, 43, 44, 45] [[_], [_], [_], [_], _, _, _] [0, 1, 2, 3, 4, 5, 6] rfl rfl
      refine any_cutX (V := Unit) (fun _ => True) 13 #[true, false, false, false, false, true, false, false, false, false, false, false, false, false, false] (fun _ => [(1, .pointer (some ⟨gm, 0, none⟩)), (2, .pointer (some ⟨gi, 0, none⟩)), (3, .pointer (some ⟨γ1 0, 0, none⟩)), (38, .pointer (some ⟨gb, 0, none⟩)), (43, .int .i64 (j : Nat))]) (fun _ => bx (γ1 0) (#[.pointer (some ⟨gb, 0, none⟩)]) 72 :: bx gb (#[.slice q m capq]) 38 :: bx gm (#[.slice p n cap]) 25 :: bx gi (#[.int .i64 (j + 1 : Nat)]) 3 :: (Y ++ (Yi ++ (YR ++ [])))) ?_ (fun hmx1 => ?_)
      ·
       rintro _ _
       refine any_fork [1, 6, 7] (by kernel_rfl) (by simp) (each_cons _ rfl ?_ (each_cons _ rfl ?_ (each_cons _ rfl ?_ (each_nil))))
       ·
        refine qo0 1 [(1, .go (owns 0 0 1))] [1, 2, 38, 43] [(39, .pointer (some ⟨gb, 0, none⟩))] ?_
        refine od_ ?_
        refine tk (m := 10) [2, 3] [] [1, 2, 38, 43] [(41, .pointer (some ⟨gb, 0, none⟩))] ([]) #[true, true, true, true, false, true, false, false, false, false, false, false, false, false, false] al0 ?_
        exact wk (hmx11 () trivial) [1, 2, 38, 41, 43] [[_], [_], [_], [_], _, _, _] [0, 1, 2, 3, 4, 5, 6] rfl rfl
       ·
        refine qo0 1 [(6, .go (owns 3 0 1))] [1, 3, 38, 43] [(44, .int .i64 (j + 1 : Nat))] ?_
        refine od_ ?_
        exact wk (hmx4 () trivial) [1, 3, 38, 43, 44] [[_], [_], [_], [_], _, _, _] [0, 1, 2, 3, 4, 5, 6] rfl rfl
       ·
        refine qo0 1 [(7, .go (owns 2 0 1))] [2, 3, 38, 43] [(45, .slice p n cap)] ?_
        refine od_ ?_
        exact wk (hmx5 () trivial) [2, 3, 38, 43, 45] [[_], [_], [_], [_], _, _, _] [0, 1, 2, 3, 4, 5, 6] rfl rfl
      refine any_fork [0, 1, 6, 7] (by kernel_rfl) (by simp) (each_cons _ rfl ?_ (each_cons _ rfl ?_ (each_cons _ rfl ?_ (each_cons _ rfl ?_ (each_nil)))))
      ·
       refine qo0 1 [(0, .go (owns 0 0 1))] [1, 2, 3, 43] [(38, .pointer (some ⟨gb, 0, none⟩))] ?_
       refine od_ ?_
       exact wk (hmx1 () trivial) [1, 2, 3, 38, 43] [[_], [_], [_], [_], _, _, _] [0, 1, 2, 3, 4, 5, 6] rfl rfl
      ·
       refine qo0 1 [(1, .go (owns 0 0 1))] [1, 2, 3, 43] [(39, .pointer (some ⟨gb, 0, none⟩))] ?_
       refine od_ ?_
       refine tk (m := 11) [2, 3] [] [1, 2, 3, 43] [(41, .pointer (some ⟨gb, 0, none⟩))] ([]) #[false, true, true, true, false, true, false, false, false, false, false, false, false, false, false] al0 ?_
       exact wk (hmx8 () trivial) [1, 2, 3, 41, 43] [[_], [_], [_], [_], _, _, _] [0, 1, 2, 3, 4, 5, 6] rfl rfl
      ·
       refine qo0 1 [(6, .go (owns 3 0 1))] [1, 3, 43] [(44, .int .i64 (j + 1 : Nat))] ?_
       refine od_ ?_
       exact wk (hmx2 () trivial) [1, 3, 43, 44] [[_], [_], [_], [_], _, _, _] [0, 1, 2, 3, 4, 5, 6] rfl rfl
      ·
       refine qo0 1 [(7, .go (owns 2 0 1))] [2, 3, 43] [(45, .slice p n cap)] ?_
       refine od_ ?_
       exact wk (hmx3 () trivial) [2, 3, 43, 45] [[_], [_], [_], [_], _, _, _] [0, 1, 2, 3, 4, 5, 6] rfl rfl
     rintro ⟨Y590, Y650, cq590, cq650, q590, q650, γ630⟩ ⟨hO590, hO650⟩
     refine any_nil (by kernel_rfl) ?_
     refine ds_ (sq_ (qa0 [] [] [(4, .int .i64 0)] (ds_ (rt ([]) (.int .i64 0) ?_))))
     obtain ⟨Yq, hpq, hGq⟩ := GotG.ins (x := (⟨(j + 1 : Nat), q590, n, cq590, l⟩ : GngA)) hG hO590 (show j ≤ bl.length by omega)
     exact fun w' hw => ⟨_, _, _, _, _, Yq, (bl.take j ++ [(⟨(j + 1 : Nat), q590, n, cq590, l⟩ : GngA)] ++ bl.drop j), _, rfl, by rw [inG_val] at q8; rw [fc_ok q3 q8 hI (by omega), val_ins]; rfl, hO650, hGq, form_perm hpq (by have := Hs.pick [[bx (γ1 0) (#[.pointer (some ⟨gb, 0, none⟩)]) 72], [bx gb (#[.slice q650 (m + 1) cq650]) 38], [bx gm (#[.slice p n cap]) 25], [bx gi (#[.int .i64 (j + 1 : Nat)]) 3], Y590, Y650, Yi, YR] [1, 2, 3, 5, 6, 4, 7] [0] (by kernel_rfl) hw; simpa [chunk] using this)⟩
  ·
   refine cD (.bool true) Try.call52 (fun w hw => by have := containsf_t _ (bx (γ1 0) (#[.pointer (some ⟨gb, 0, none⟩)]) 72 :: bx gb (#[.slice q m capq]) 38 :: bx gm (#[.slice p n cap]) 25 :: bx gi (#[.int .i64 0]) 3 :: (Y ++ (Yi ++ (YR ++ [])))) 53 #[.pointer (some ⟨γ1 0, 0, none⟩)] (inG bl) p n cap l w (fun args w => Try.call53 args w) hw (hsl.kept hw.below) hn (by omega) (fun x hx w' hX => form11_t q m capq bl (γ1 0) gb x w' (SlO.sub hO hX (List.Sublist.cons _ (List.Sublist.cons _ (List.Sublist.cons _ (List.Sublist.cons _ (List.sublist_append_left Y _)))))) hma (by omega) (GotG.reads hG hX (List.Sublist.cons _ (List.Sublist.cons _ (List.Sublist.cons _ (List.Sublist.cons _ (List.Sublist.trans (List.sublist_append_left Yi _) (List.sublist_append_right Y _))))))) hm9 (rd_one14 (hX.row 0 rfl)) (rd_one14 (hX.row 1 rfl))); rw [q8] at this; exact this) (on_ (ds_ (t_ (sq_ (qa0 [] [] [(4, .int .i64 5)] (ds_ (rt ([]) (.int .i64 5) ?_)))))))
   exact fun w' hw => ⟨_, _, _, _, _, _, bl, 0, rfl, by rw [inG_val] at q8; exact (fc_there q3 q8).symm, hO, hG, (by have := Hs.pick [[bx (γ1 0) (#[.pointer (some ⟨gb, 0, none⟩)]) 72], [bx gb (#[.slice q m capq]) 38], [bx gm (#[.slice p n cap]) 25], [bx gi (#[.int .i64 0]) 3], Y, Yi, YR] [1, 2, 3, 4, 5, 6] [0] (by kernel_rfl) hw; simpa [chunk] using this)⟩
end Go.Proofs.Ytahccegfahghfaa

/-! Gangs: Form. -/
namespace Go.Proofs.Ytahccegfahghfaa
open Go Go.RowKit
theorem perm3 {A B C : List Ob} : (A ++ (B ++ C)).Perm (B ++ (A ++ C)) := by rw [← List.append_assoc, ← List.append_assoc]; exact List.perm_append_comm.append_right _
theorem form_in {w0 w : World} {b m i : Ob} {Y Yi O R : List Ob} (h : Hs w0 (b :: (Y ++ (Yi ++ ((m :: i :: O) ++ R)))) w) : Hs w0 (b :: m :: i :: (Y ++ (Yi ++ (O ++ R)))) w := by
  refine h.perm (.cons _ ?_)
  rw [show Y ++ (Yi ++ ((m :: i :: O) ++ R)) = (Y ++ Yi) ++ ([m, i] ++ (O ++ R)) from by simp, show m :: i :: (Y ++ (Yi ++ (O ++ R))) = [m, i] ++ ((Y ++ Yi) ++ (O ++ R)) from by simp]
  exact perm3
theorem form_out {w0 w : World} {b m i : Ob} {Y Yi O R : List Ob} (h : Hs w0 (b :: m :: i :: (Y ++ (Yi ++ (O ++ R)))) w) : Hs w0 (b :: (Y ++ (Yi ++ ((m :: i :: O) ++ R)))) w := by
  refine h.perm (.cons _ ?_)
  rw [show Y ++ (Yi ++ ((m :: i :: O) ++ R)) = (Y ++ Yi) ++ ([m, i] ++ (O ++ R)) from by simp, show m :: i :: (Y ++ (Yi ++ (O ++ R))) = [m, i] ++ ((Y ++ Yi) ++ (O ++ R)) from by simp]
  exact perm3
theorem form_out2 {w0 w : World} {Y Yi X : List Ob} (h : Hs w0 (Y ++ (Yi ++ X)) w) : Hs w0 (X ++ (Y ++ (Yi ++ []))) w := by
  refine h.perm ?_
  rw [List.append_nil, ← List.append_assoc]
  exact List.perm_append_comm
theorem form_post {gs : Gs} {l : List Int} {er : Int} {bl : List GngA} {X : List Ob} {f : Int → List Ob} (h : (gangB gs = false ∧ er = 240 ∧ bl = [] ∧ X = f 0) ∨ (gangB gs = true ∧ er ≠ 0 ∧ bl = [] ∧ ∃ g2 : Gs, ∃ idn, (g2, idn, er) = formC gs l ∧ X = f idn) ∨ (gangB gs = true ∧ er = 0 ∧ ∃ idn, (bl.map GngA.val, idn, (0 : Int)) = formC gs l ∧ X = f idn)) : ∃ idn, X = f idn ∧ (bl.map GngA.val, idn, er) = formV gs l := by
  rcases h with ⟨h, rfl, rfl, rfl⟩ | ⟨h, h2, rfl, g2, idn, h3, rfl⟩ | ⟨h, rfl, idn, h3, rfl⟩
  · exact ⟨0, rfl, by rw [formV, if_pos h]; rfl⟩
  · exact ⟨idn, rfl, by rw [formV, if_neg (by rw [h]; decide), ← h3, if_neg h2]; rfl⟩
  · exact ⟨idn, rfl, by rw [formV, if_neg (by rw [h]; decide), ← h3, if_pos rfl]⟩

set_option maxRecDepth 100000 in
theorem form_t (q : Option Addr) (m capq : Nat) (al : List GngA) (p : Option Addr) (n cap : Nat) (l : List Int) (w : World)
    (hal : Sv w q al) (hma : m = al.length) (hbm : m ≤ 1000) (hnm : ∀ x ∈ al, x.Reads w) (hm9 : ∀ x ∈ al, x.n ≤ 1000)
    (hsl : Sv w p l) (hn : n = l.length) (hb : n ≤ 1000)
    : Calls Try.prog 29 #[.agg #[.slice q m capq], .slice p n cap] w fun e w' => ∃ er q' n' c' Y Yi bl idn, e = .returned (.tuple #[.agg #[.slice q' n' c'], .int .i64 idn, .int .i64 er]) ∧ (bl.map GngA.val, idn, er) = formV (al.map GngA.val) l ∧ SlO 46 Y q' n' c' bl ∧ GotG 3 Yi bl ∧ Below w.heap.size w w' ∧ Hs w (Y ++ Yi) w' := by
  refine enter (Hs.start w) Try.func29 rfl Try.ntmps29 rfl (sq_ (ma0 [] [] (fun γ1 => [(2, .pointer (some ⟨γ1 0, 0, none⟩)), (3, .pointer (some ⟨γ1 1, 0, none⟩)), (4, .pointer (some ⟨γ1 2, 0, none⟩))]) (fun γ1 L => bx (γ1 2) (#[.slice none 0 0]) 38 :: bx (γ1 1) (#[.slice p n cap]) 25 :: bx (γ1 0) (#[.slice q m capq]) 38 :: L) (fun γ1 => ds_ (sq_ (ma0 [(1, .go (owns 0 0 1))] [2, 3, 4] (fun γ2 => [(7, .pointer (some ⟨γ2 0, 0, none⟩))]) (fun γ2 L => bx (γ2 0) (#[.int .i64 0]) 3 :: L) (fun γ2 => ds_ (sq_ (ao_ (qo0 2 [(0, .go (owns 3 0 1))] [4, 7] [(11, .agg #[.slice q m capq]), (12, .func (.func 51) #[] #[.pointer (some ⟨γ1 1, 0, none⟩), .pointer (some ⟨γ2 0, 0, none⟩)])] (Ops.pick [[bx (γ2 0) (#[.int .i64 0]) 3], [bx (γ1 2) (#[.slice none 0 0]) 38], [bx (γ1 1) (#[.slice p n cap]) 25], [bx (γ1 0) (#[.slice q m capq]) 38]] [2, 0, 1, 3] [] ([bx (γ1 1) (#[.slice p n cap]) 25, bx (γ2 0) (#[.int .i64 0]) 3, bx (γ1 2) (#[.slice none 0 0]) 38, bx (γ1 0) (#[.slice q m capq]) 38]) (by kernel_rfl) rfl rfl (cP (fun v L' => ∃ er q_ n_ c_ Y_ Z_ bl_ idn, v = .tuple #[.agg #[.slice q_ n_ c_], .int .i64 er] ∧ L' = (fun idn => [bx (γ1 1) (#[.slice p n cap]) 25, bx (γ2 0) (#[.int .i64 idn]) 3, bx (γ1 2) (#[.slice none 0 0]) 38, bx (γ1 0) (#[.slice q m capq]) 38]) idn ++ (Y_ ++ (Z_ ++ [])) ∧ SlO 46 Y_ q_ n_ c_ bl_ ∧ GotG 3 Z_ bl_ ∧ (bl_.map GngA.val, idn, er) = formV (al.map GngA.val) l) Try.call50 (fun w hw => (with_t _ [bx (γ1 1) (#[.slice p n cap]) 25, bx (γ2 0) (#[.int .i64 0]) 3, bx (γ1 2) (#[.slice none 0 0]) 38, bx (γ1 0) (#[.slice q m capq]) 38] 51 #[.pointer (some ⟨γ1 1, 0, none⟩), .pointer (some ⟨γ2 0, 0, none⟩)] (fun er gs X2 => ∃ idn, (gs, idn, er) = formC (al.map GngA.val) l ∧ X2 = (fun idn => [bx (γ1 1) (#[.slice p n cap]) 25, bx (γ2 0) (#[.int .i64 idn]) 3, bx (γ1 2) (#[.slice none 0 0]) 38, bx (γ1 0) (#[.slice q m capq]) 38]) idn) q m capq al w (fun args w => Try.call51 args w) hw hal hma hbm hnm hm9 (fun hgd gb q' c' Y Yi R bl w' hO hG hV hX => (form1_t _ Y Yi ([bx (γ1 2) (#[.slice none 0 0]) 38, bx (γ1 0) (#[.slice q m capq]) 38] ++ R) gb (γ1 1) (γ2 0) q' m c' bl p n cap l w' hsl hn hb hbm hO hG (by rw [hV]; exact hgd) (form_in (O := [bx (γ1 2) (#[.slice none 0 0]) 38, bx (γ1 0) (#[.slice q m capq]) 38]) hX)).mono fun e w'' ⟨er, q2, n2, c2, Y2, Yi2, bl2, idn, he, h1, h2, h3, h4⟩ => ⟨er, q2, n2, c2, Y2, Yi2, bl2, _, he, ⟨idn, by rw [← hV]; exact h1, rfl⟩, h2, h3, form_out (O := [bx (γ1 2) (#[.slice none 0 0]) 38, bx (γ1 0) (#[.slice q m capq]) 38]) h4⟩)).mono fun e w' ⟨er, q_, n_, c_, Y_, Z_, bl_, X_, he, h1, h2, hX, h3⟩ => by obtain ⟨idn, hx, hv⟩ := form_post (f := (fun idn => [bx (γ1 1) (#[.slice p n cap]) 25, bx (γ2 0) (#[.int .i64 idn]) 3, bx (γ1 2) (#[.slice none 0 0]) 38, bx (γ1 0) (#[.slice q m capq]) 38])) h3; subst hx; exact ⟨_, _, he, ⟨er, q_, n_, c_, Y_, Z_, bl_, idn, rfl, rfl, h1, h2, hv⟩, form_out2 hX⟩) ?_)))))))))))
  rintro v4 L4 ⟨er4, q4, n4, c4, Y4, Yz4, bl4, id4, rfl, rfl, hO4, hG4, hV4⟩
  refine mo0 6 [(7, .go (owns 0 0 1))] [4, 7] (fun γ5 => [(8, .pointer (some ⟨γ5 0, 0, none⟩)), (9, .int .i64 er4)]) (fun γ5 L => bx (γ5 0) (#[.slice q4 n4 c4]) 38 :: L) (fun γ5 => on_ (ds_ (sq_ ?_)))
  refine at_any (by kernel_rfl) ?_
  refine tk (m := 5) [2] [] [4, 7, 8] [(18, .int .i64 er4)] ([]) #[false, false, true, false, false, false] al0 ?_
  refine any_cutX (V := Unit) (fun _ => True) 0 #[true, true, true, true, true, true] (fun _ => [(4, .pointer (some ⟨γ1 2, 0, none⟩)), (5, .int .i64 id4), (6, .int .i64 er4)]) (fun _ => bx (γ5 0) (#[.slice q4 n4 c4]) 38 :: bx (γ1 1) (#[.slice p n cap]) 25 :: bx (γ2 0) (#[.int .i64 id4]) 3 :: bx (γ1 2) (#[.slice q4 n4 c4]) 38 :: bx (γ1 0) (#[.slice q m capq]) 38 :: (Y4 ++ (Yz4 ++ []))) ?_ (fun hmx5 => ?_)
  rotate_left
  ·
    refine any_cutX (V := Unit) (fun _ => True) 3 #[true, false, true, true, false, false] (fun _ => [(4, .pointer (some ⟨γ1 2, 0, none⟩)), (7, .pointer (some ⟨γ2 0, 0, none⟩)), (18, .int .i64 er4)]) (fun _ => bx (γ5 0) (#[.slice q4 n4 c4]) 38 :: bx (γ1 1) (#[.slice p n cap]) 25 :: bx (γ2 0) (#[.int .i64 id4]) 3 :: bx (γ1 2) (#[.slice q4 n4 c4]) 38 :: bx (γ1 0) (#[.slice q m capq]) 38 :: (Y4 ++ (Yz4 ++ []))) ?_ (fun hmx4 => ?_)
    ·
      rintro _ _
      refine a1 1 rfl ?_
      refine qo0 1 [(1, .go (owns 2 0 1))] [4, 18] [(17, .int .i64 id4)] ?_
      refine od_ ?_
      refine tk (m := 0) [4, 5] [] [4] [(5, .int .i64 id4), (6, .int .i64 er4)] ([]) #[true, true, true, true, true, true] al0 ?_
      exact wk (hmx5 () trivial) [4, 5, 6] [[_], [_], [_], [_], [_], _, _] [0, 1, 2, 3, 4, 5, 6] rfl rfl
    refine any_cutX (V := Unit) (fun _ => True) 3 #[true, true, true, false, false, false] (fun _ => [(4, .pointer (some ⟨γ1 2, 0, none⟩)), (16, .agg #[.slice q4 n4 c4]), (17, .int .i64 id4), (18, .int .i64 er4)]) (fun _ => bx (γ5 0) (#[.slice q4 n4 c4]) 38 :: bx (γ1 1) (#[.slice p n cap]) 25 :: bx (γ2 0) (#[.int .i64 id4]) 3 :: bx (γ1 2) (#[.slice none 0 0]) 38 :: bx (γ1 0) (#[.slice q m capq]) 38 :: (Y4 ++ (Yz4 ++ []))) ?_ (fun hmx3 => ?_)
    ·
      rintro _ _
      refine a1 3 rfl ?_
      refine mo0 1 [(3, .go (owns 3 0 1))] [4, 17, 18] (fun _ => []) (fun _ L => (L.set 3 (bx (γ1 2) (#[.slice q4 n4 c4]) 38))) (fun _ => ?_)
      refine od_ ?_
      refine tk (m := 0) [4, 5] [] [4] [(5, .int .i64 id4), (6, .int .i64 er4)] ([]) #[true, true, true, true, true, true] al0 ?_
      exact wk (hmx5 () trivial) [4, 5, 6] [[_], [_], [_], [_], [_], _, _] [0, 1, 2, 3, 4, 5, 6] rfl rfl
    refine any_cutX (V := Unit) (fun _ => True) 4 #[false, true, true, false, false, false] (fun _ => [(4, .pointer (some ⟨γ1 2, 0, none⟩)), (8, .pointer (some ⟨γ5 0, 0, none⟩)), (17, .int .i64 id4), (18, .int .i64 er4)]) (fun _ => bx (γ5 0) (#[.slice q4 n4 c4]) 38 :: bx (γ1 1) (#[.slice p n cap]) 25 :: bx (γ2 0) (#[.int .i64 id4]) 3 :: bx (γ1 2) (#[.slice none 0 0]) 38 :: bx (γ1 0) (#[.slice q m capq]) 38 :: (Y4 ++ (Yz4 ++ []))) ?_ (fun hmx2 => ?_)
    ·
      rintro _ _
      refine a1 0 rfl ?_
      refine qo0 1 [(0, .go (owns 0 0 1))] [4, 17, 18] [(16, .agg #[.slice q4 n4 c4])] ?_
      refine od_ ?_
      exact wk (hmx3 () trivial) [4, 16, 17, 18] [[_], [_], [_], [_], [_], _, _] [0, 1, 2, 3, 4, 5, 6] rfl rfl
    refine any_cutX (V := Unit) (fun _ => True) 4 #[true, false, true, false, false, false] (fun _ => [(4, .pointer (some ⟨γ1 2, 0, none⟩)), (7, .pointer (some ⟨γ2 0, 0, none⟩)), (16, .agg #[.slice q4 n4 c4]), (18, .int .i64 er4)]) (fun _ => bx (γ5 0) (#[.slice q4 n4 c4]) 38 :: bx (γ1 1) (#[.slice p n cap]) 25 :: bx (γ2 0) (#[.int .i64 id4]) 3 :: bx (γ1 2) (#[.slice none 0 0]) 38 :: bx (γ1 0) (#[.slice q m capq]) 38 :: (Y4 ++ (Yz4 ++ []))) ?_ (fun hmx1 => ?_)
    ·
      rintro _ _
      refine any_fork [1, 3] (by kernel_rfl) (by simp) (each_cons _ rfl ?_ (each_cons _ rfl ?_ (each_nil)))
      ·
        refine qo0 1 [(1, .go (owns 2 0 1))] [4, 16, 18] [(17, .int .i64 id4)] ?_
        refine od_ ?_
        exact wk (hmx3 () trivial) [4, 16, 17, 18] [[_], [_], [_], [_], [_], _, _] [0, 1, 2, 3, 4, 5, 6] rfl rfl
      ·
        refine mo0 1 [(3, .go (owns 3 0 1))] [4, 7, 18] (fun _ => []) (fun _ L => (L.set 3 (bx (γ1 2) (#[.slice q4 n4 c4]) 38))) (fun _ => ?_)
        refine od_ ?_
        exact wk (hmx4 () trivial) [4, 7, 18] [[_], [_], [_], [_], [_], _, _] [0, 1, 2, 3, 4, 5, 6] rfl rfl
    refine any_fork [0, 1] (by kernel_rfl) (by simp) (each_cons _ rfl ?_ (each_cons _ rfl ?_ (each_nil)))
    ·
      refine qo0 1 [(0, .go (owns 0 0 1))] [4, 7, 18] [(16, .agg #[.slice q4 n4 c4])] ?_
      refine od_ ?_
      exact wk (hmx1 () trivial) [4, 7, 16, 18] [[_], [_], [_], [_], [_], _, _] [0, 1, 2, 3, 4, 5, 6] rfl rfl
    ·
      refine qo0 1 [(1, .go (owns 2 0 1))] [4, 8, 18] [(17, .int .i64 id4)] ?_
      refine od_ ?_
      exact wk (hmx2 () trivial) [4, 8, 17, 18] [[_], [_], [_], [_], [_], _, _] [0, 1, 2, 3, 4, 5, 6] rfl rfl
  rintro _ _
  refine any_nil (by kernel_rfl) ?_
  refine ds_ (rt (owns 3 0 1) (.tuple #[.agg #[.slice q4 n4 c4], .int .i64 id4, .int .i64 er4]) ?_)
  exact fun w' hw => ⟨_, _, _, _, _, _, _, _, rfl, hV4, hO4, hG4, hw.below, two_tails14 (Hs.pick [[bx (γ5 0) (#[.slice q4 n4 c4]) 38], [bx (γ1 1) (#[.slice p n cap]) 25], [bx (γ2 0) (#[.int .i64 id4]) 3], [bx (γ1 2) (#[.slice q4 n4 c4]) 38], [bx (γ1 0) (#[.slice q m capq]) 38], Y4, Yz4] [5, 6] [0, 1, 2, 3, 4] (by kernel_rfl) hw)⟩
end Go.Proofs.Ytahccegfahghfaa

/-! Short gangs; plain. -/
namespace Go.Proofs.Ytahccegfahghfaa
open Go Go.RowKit
/-- What short keeps. -/
def shortV (gs : Gs) : Gs := (gs.take 9).map fun g => (g.1, g.2.take 17)
section
variable {al bl : List GngA} {x y : GngA} {j n : Nat} {l : List Int} {T : TypeId} {Yi Y : List Ob}
theorem take_min17 (h : n = l.length) : l.take (min n 17) = l.take 17 := by
  by_cases e : n ≤ 17
  · rw [Nat.min_eq_left e, List.take_of_length_le (by omega), List.take_of_length_le (by omega)]
  · rw [Nat.min_eq_right (by omega)]
theorem short_add (hb : bl.map GngA.val = shortV ((al.take j).map GngA.val)) (hx : al[j]? = some x) (hj : j ≤ 8) (hy : y.val = (x.id, x.l.take 17)) : (bl ++ [y]).map GngA.val = shortV ((al.take (j + 1)).map GngA.val) := by
  have hl : ((al.take j).map GngA.val).length ≤ j := by rw [List.length_map, List.length_take]; omega
  have hl2 : ((al.take (j + 1)).map GngA.val).length ≤ j + 1 := by rw [List.length_map, List.length_take]; omega
  rw [List.map_append, hb]
  unfold shortV
  rw [List.take_of_length_le (Nat.le_trans hl (by omega)), List.take_of_length_le (Nat.le_trans hl2 (by omega)), take_one hx, List.map_append, List.map_append, List.map_cons, List.map_nil, hy]
  rfl
theorem short_out (hb : bl.map GngA.val = shortV ((al.take j).map GngA.val)) (hj : 8 < j) : bl.map GngA.val = shortV ((al.take (j + 1)).map GngA.val) := by
  rw [hb]
  unfold shortV
  rw [← List.map_take, ← List.map_take, List.take_take, List.take_take, Nat.min_eq_left (by omega), Nat.min_eq_left (by omega)]
theorem short_all (hj : al.length ≤ j) : (al.take j).map GngA.val = al.map GngA.val := by rw [List.take_of_length_le hj]
theorem GotG.snoc (h : GotG T Yi bl) (hx : SlO T Y y.p y.n y.cap y.l) : GotG T (Yi ++ Y) (bl ++ [y]) := by
  unfold GotG
  rw [List.map_append]
  exact GotR.snoc (x := y.row) h hx
end
end Go.Proofs.Ytahccegfahghfaa

/-! Rows by rising keys: plain laws. -/
namespace Go.Proofs.Ytahccegfahghfaa
open Go Go.RowKit

/-- Keys rise. -/
def Ris {α : Type} (f : α → Int) (l : List α) : Prop := l.Pairwise fun x y => f x < f y
/-- The same, asked pair by pair. -/
def risK {α : Type} (f : α → Int) : List α → Bool
  | [] => true
  | [_] => true
  | x :: y :: l => decide (f x < f y) && risK f (y :: l)
def getK {α : Type} (f : α → Int) (l : List α) (k : Int) : Option α := l.find? fun x => decide (f x = k)
section
variable {α : Type} {f : α → Int} {l l' : List α} {x y z : α} {k : Int} {i j n : Nat}
theorem Ris.at (h : Ris f l) (hij : i < j) (hx : l[i]? = some x) (hy : l[j]? = some y) : f x < f y := by
  obtain ⟨h1, e1⟩ := List.getElem?_eq_some_iff.1 hx
  obtain ⟨h2, e2⟩ := List.getElem?_eq_some_iff.1 hy
  have := List.pairwise_iff_getElem.1 h i j h1 h2 hij
  rwa [e1, e2] at this
theorem Ris.asc (h : Ris f l) : AscK f l := fun _ _ _ _ hij hx hy => h.at hij hx hy
theorem Ris.inj (h : Ris f l) (hx : x ∈ l) (hy : y ∈ l) (e : f x = f y) : x = y := by
  obtain ⟨i, hi⟩ := List.mem_iff_getElem?.1 hx
  obtain ⟨j, hj⟩ := List.mem_iff_getElem?.1 hy
  rcases Nat.lt_trichotomy i j with h1 | h1 | h1
  · have := h.at h1 hi hj; omega
  · subst h1; rw [hi] at hj; exact Option.some.inj hj
  · have := h.at h1 hj hi; omega
theorem getK_iff (h : Ris f l) : getK f l k = some x ↔ x ∈ l ∧ f x = k := by
  constructor
  · intro hg
    exact ⟨List.mem_of_find?_eq_some hg, by simpa using List.find?_some hg⟩
  · rintro ⟨hm, rfl⟩
    unfold getK
    cases hg : l.find? fun y => decide (f y = f x) with
    | none =>
      have := List.find?_eq_none.1 hg x hm
      simp at this
    | some y =>
      have h1 := List.mem_of_find?_eq_some hg
      have h2 : f y = f x := by simpa using List.find?_some hg
      rw [h.inj h1 hm h2]
theorem getK_mem (h : getK f l k = some x) : x ∈ l ∧ f x = k := ⟨List.mem_of_find?_eq_some h, by simpa using List.find?_some h⟩
theorem hasK_get : hasK f l k = (getK f l k).isSome := by
  unfold hasK getK
  rw [Bool.eq_iff_iff, List.any_eq_true, List.find?_isSome]
theorem hasK_some (h : getK f l k = some x) : hasK f l k = true := by rw [hasK_get, h]; rfl
theorem pos_getK (h : Ris f l) (hg : getK f l k = some x) : l[posK f l k]? = some x := by
  obtain ⟨y, hy, he⟩ := posk_at h.asc (hasK_some hg)
  have := getK_mem hg
  rw [h.inj this.1 (List.mem_of_getElem? hy) (by omega)]; exact hy
/-- Where it would be: all ahead are less, all behind are not. -/
theorem pos_cut (h : Ris f l) : (∀ x ∈ l.take (posK f l k), f x < k) ∧ (∀ x ∈ l.drop (posK f l k), k ≤ f x) ∧ posK f l k ≤ l.length := by
  have hs : ∀ l : List α, Ris f l → (∀ x ∈ l.take (posK f l k), f x < k) ∧ (∀ x ∈ l.drop (posK f l k), k ≤ f x) ∧ posK f l k ≤ l.length := by
    intro l
    induction l with
    | nil => intro _; simp [posK]
    | cons a l ih =>
      intro h
      have hp := List.pairwise_cons.1 h
      by_cases ha : f a < k
      · have e : posK f (a :: l) k = posK f l k + 1 := by unfold posK; rw [List.takeWhile_cons, if_pos (by simpa using ha)]; simp
        obtain ⟨h1, h2, h3⟩ := ih hp.2
        rw [e]
        refine ⟨fun x hx => ?_, fun x hx => ?_, by simp; omega⟩
        · rw [List.take_succ_cons] at hx
          rcases List.mem_cons.1 hx with rfl | hx
          · exact ha
          · exact h1 x hx
        · rw [List.drop_succ_cons] at hx; exact h2 x hx
      · have e : posK f (a :: l) k = 0 := by unfold posK; rw [List.takeWhile_cons, if_neg (by simpa using ha)]; rfl
        rw [e]
        refine ⟨fun x hx => by simp at hx, fun x hx => ?_, Nat.zero_le _⟩
        rw [List.drop_zero] at hx
        rcases List.mem_cons.1 hx with rfl | hx
        · omega
        · have := hp.1 x hx; omega
  exact hs l h
/-- One more, put where it belongs. -/
def insK (f : α → Int) (l : List α) (z : α) : List α := l.take (posK f l (f z)) ++ [z] ++ l.drop (posK f l (f z))
/-- One in the place of another. -/
def putK (f : α → Int) (l : List α) (z : α) : List α := l.set (posK f l (f z)) z
/-- One left out. -/
def delK (f : α → Int) (l : List α) (k : Int) : List α := l.take (posK f l k) ++ l.drop (posK f l k + 1)
theorem delK_filter (h : Ris f l) (hg : getK f l k = some x) : delK f l k = l.filter fun y => !decide (f y = k) := by
  have hx := pos_getK h hg
  have hfx := (getK_mem hg).2
  obtain ⟨h1, h2, h3⟩ := pos_cut (k := k) h
  have hlt := (List.getElem?_eq_some_iff.1 hx).1
  unfold delK
  conv => rhs; rw [← List.take_append_drop (posK f l k) l]
  rw [List.filter_append]
  have a1 : (l.take (posK f l k)).filter (fun y => !decide (f y = k)) = l.take (posK f l k) := by
    rw [List.filter_eq_self]; intro y hy; have := h1 y hy; simp; omega
  have e : l.drop (posK f l k) = x :: l.drop (posK f l k + 1) := by
    obtain ⟨hlt, e⟩ := List.getElem?_eq_some_iff.1 hx
    rw [← e]; exact List.drop_eq_getElem_cons hlt
  have a2 : (l.drop (posK f l k + 1)).filter (fun y => !decide (f y = k)) = l.drop (posK f l k + 1) := by
    rw [List.filter_eq_self]; intro y hy
    have hp := h
    unfold Ris at hp
    rw [← List.take_append_drop (posK f l k) l, List.pairwise_append, e] at hp
    have := (List.pairwise_cons.1 hp.2.1).1 y hy
    simp; omega
  rw [a1, e, List.filter_cons, if_neg (by simp [hfx]), a2]
theorem Ris.filter (h : Ris f l) (p : α → Bool) : Ris f (l.filter p) := List.Pairwise.filter _ h
/-- Rows whose keys are between bounds are no more than there are keys. -/
theorem risK_len : ∀ (l : List α) (lo hi : Int), Ris f l → (∀ x ∈ l, lo ≤ f x ∧ f x ≤ hi) → lo ≤ hi + 1 → (l.length : Int) ≤ hi - lo + 1
  | [], lo, hi, _, _, h => by simp; omega
  | a :: l, lo, hi, h, hb, hlh => by
    have p := List.pairwise_cons.1 h
    have ha := hb a (List.mem_cons_self ..)
    have := risK_len l (f a + 1) hi p.2 (fun x hx => ⟨by have := p.1 x hx; omega, (hb x (List.mem_cons_of_mem _ hx)).2⟩) (by omega)
    simp only [List.length_cons]; omega
end
end Go.Proofs.Ytahccegfahghfaa

/-! The walker: two cells of an element changed in place. -/
namespace Go.Proofs.Ytahccegfahghfaa
open Go Go.RowKit
section
variable {α : Type} [Enc α] {l : List α} {x x' : α} {v v' : Value} {i f n cap : Nat} {cs : Array Value}
end
end Go.Proofs.Ytahccegfahghfaa

/-! The walker: three bounds; what slices.Delete does to its row. -/
namespace Go.Proofs.Ytahccegfahghfaa
open Go Go.RowKit
section
variable {P : Program} {T e : TypeId} {n cap k by_ b o lo hi mx : Nat}
theorem slE_3 (hE : elemB P T e k by_ = true) (h1 : lo ≤ hi) (h2 : hi ≤ mx) (h3 : mx ≤ cap) (h4 : lo < mx) : SlRun P T (.slice (some ⟨b, o, none⟩) n cap) (some (.int .i64 (lo : Int))) (some (.int .i64 (hi : Int))) (some (.int .i64 (mx : Int))) (.slice (some ⟨b, o + lo * k, none⟩) (hi - lo) (mx - lo)) := by
  obtain ⟨hu, i, z, hi', _, _, hk, _⟩ := elemB_spec hE
  subst hk
  intro w
  have hne : ¬ mx = lo := by omega
  simp [Instr.sliceAt, Instr.slice, underlying, hu, Instr.sliceBounds, run_bound h1, run_bound h2, run_bound h3, sizeOf, typeInfo, hi', hne, addr_add]
theorem slE_mid (hE : elemB P T e k by_ = true) (h1 : lo ≤ hi) (h2 : hi ≤ cap) (h4 : lo < cap) : SlRun P T (.slice (some ⟨b, o, none⟩) n cap) (some (.int .i64 (lo : Int))) (some (.int .i64 (hi : Int))) none (.slice (some ⟨b, o + lo * k, none⟩) (hi - lo) (cap - lo)) := by
  obtain ⟨hu, i, z, hi', _, _, hk, _⟩ := elemB_spec hE
  subst hk
  intro w
  have hne : ¬ cap = lo := by omega
  simp [Instr.sliceAt, Instr.slice, underlying, hu, Instr.sliceBounds, run_bound h1, run_bound h2, sizeOf, typeInfo, hi', hne, addr_add]
end
section
variable {α : Type} [Enc α] {l : List α} {i i2 n cap : Nat} {cs : Array Value} {w : World}
theorem strike_room (h : OwnS (Enc.k α) (l.flatMap Enc.enc) n cap cs) (hi : i ≤ i2) (hi2 : i2 ≤ n) : 0 + i * Enc.k α + ((cs.toList.drop (0 + i2 * Enc.k α)).take ((n - i2) * Enc.k α)).length ≤ cs.size := by
  rw [row_len h hi2, h.csz, Nat.zero_add, ← Nat.add_mul]
  have := h.le
  exact Nat.mul_le_mul_right _ (by omega)
theorem strike_clear {vs : List Value} {o : Nat} (h : OwnS (Enc.k α) (l.flatMap Enc.enc) n cap cs) (hi : i ≤ n) : 0 + i * Enc.k α + (n - i) * Enc.k α ≤ (sets cs o vs).size := by
  rw [sets_size, h.csz, Nat.zero_add, ← Nat.add_mul]
  have := h.le
  exact Nat.mul_le_mul_right _ (by omega)
theorem src_strike {P : Program} {tx e : TypeId} (hu : P.underlying tx = some (.slice e)) (hz : n - i2 = 0) {c2 : Nat} {p : Option Addr} :
    Go.Src P (Enc.k α) tx (.slice p (n - i2) c2) (n - i2) ((cs.toList.drop (0 + i2 * Enc.k α)).take ((n - i2) * Enc.k α)) w := by
  rw [hz, Nat.zero_mul, List.take_zero]
  exact src_svn (α := α) (l2 := []) hu Sv.nil rfl
end
section
variable {E : Env} {k : List Fr} {l lx : Sl} {L : List Ob} {c d : Code}
end
end Go.Proofs.Ytahccegfahghfaa

/-! Gangs: Delete, at. -/
namespace Go.Proofs.Ytahccegfahghfaa
open Go Go.RowKit

set_option maxRecDepth 100000 in
theorem gdelete_t (w0 : World) (X Y : List Ob) (p : Option Addr) (n cap : Nat) (l : List GngA) (i i2 : Nat) (w : World)
 (hH : Hs w0 (Y ++ X) w) (hO : SlO 46 Y p n cap l) (hi : i < i2) (hi2 : i2 ≤ n) (hb : n ≤ 1000)
 : Calls Try.prog 56 #[.slice p n cap, .int .i64 (i : Nat), .int .i64 (i2 : Nat)] w fun e w' => ∃ q capq Y', e = .returned (.slice q (i + (n - i2)) capq) ∧ SlO 46 Y' q (i + (n - i2)) capq (l.take i ++ l.drop i2) ∧ Hs w0 (Y' ++ X) w' := by
 have hn := hO.len
 obtain ⟨g, cs, rfl, rfl, hOw⟩ := hO.rowOf (i := i) (by omega)
 have hcap := hOw.le
 refine enter hH Try.func56 rfl Try.ntmps56 rfl (sq_ (qa0 [] [0, 1, 2] [] (ds_ (sq_ (qa [(5, .sl (.slice (some ⟨g, 0 + i * 2, none⟩) (i2 - i) (n - i)))] [0, 1, 2] [] ([SlRun Try.prog 36 (.slice (some ⟨g, 0, none⟩) n cap) (some (.int .i64 (i : Nat))) (some (.int .i64 (i2 : Nat))) (some (.int .i64 (n : Nat))) (.slice (some ⟨g, 0 + i * 2, none⟩) (i2 - i) (n - i))]) (al1 (slE_3 (P := Try.prog) (T := 36) (e := 46) (k := 2) (by_ := 32) (by kernel_rfl) (lo := i) (hi := i2) (mx := n) (by omega) (by omega) (by omega) (by omega))) (ds_ (sq_ (sq_ (qa [(2, .no)] [0, 1, 2] [(16, .bool false)] ([¬ (((i : Nat) : Int) = ((i2 : Nat) : Int))]) (al1 (by omega)) (ds_ (f_ (at_skip (ds_ (sq_ (qa0 [] [0, 1, 2] [(7, .int .i64 (n : Nat))] (ds_ (sq_ ?_)))))))))))))))))
 by_cases q5 : cap = i2
 ·
  refine at_any (by kernel_rfl) ?_
  refine tk (m := 4) [0, 1, 3, 4] [] [0, 7] [(20, .slice (some ⟨g, 0, none⟩) n cap), (21, .int .i64 (i : Nat)), (23, .slice (some ⟨g, 0, none⟩) n cap), (24, .int .i64 (i2 : Nat))] ([]) #[true, true, false, true, true, false, false, false] al0 ?_
  refine any_cut 2 #[true, true, true, true, true, true, false, false] ([(0, .slice (some ⟨g, 0, none⟩) n cap), (7, .int .i64 (n : Nat)), (22, .slice (some ⟨g, 0, none⟩) i cap), (25, .slice (some ⟨g, 0, none⟩) (n - i2) (cap - i2))]) (bx g cs 46 :: X) ?_ (fun hm => ?_)
  rotate_left
  ·
   refine any_fork [2, 5] (by kernel_rfl) (by simp) (each_cons _ rfl ?_ (each_cons _ rfl ?_ (each_nil)))
   ·
    refine qo 1 [(2, .sl (.slice (some ⟨g, 0, none⟩) i cap))] [0, 7, 23, 24] [(22, .slice (some ⟨g, 0, none⟩) i cap)] ([SlRun Try.prog 36 (.slice (some ⟨g, 0, none⟩) n cap) none (some (.int .i64 (i : Nat))) none (.slice (some ⟨g, 0, none⟩) i cap)]) (al1 (slE_hi (P := Try.prog) (T := 36) (e := 46) (k := 2) (by_ := 32) (by kernel_rfl) (h := i) (by omega))) ?_
    refine od_ ?_
    refine a1 5 rfl ?_
    refine qo 1 [(5, .sl (.slice (some ⟨g, 0, none⟩) (n - i2) (cap - i2)))] [0, 7, 22] [(25, .slice (some ⟨g, 0, none⟩) (n - i2) (cap - i2))] ([SlRun Try.prog 36 (.slice (some ⟨g, 0, none⟩) n cap) (some (.int .i64 (i2 : Nat))) none none (.slice (some ⟨g, 0, none⟩) (n - i2) (cap - i2))]) (al1 (by have := slE_cut (P := Try.prog) (T := 36) (e := 46) (k := 2) (by_ := 32) (by kernel_rfl) (lo := i2) (p := some ⟨g, 0, none⟩) (n := n) (cap := cap) (by omega); rw [if_pos q5] at this; exact this)) ?_
    refine od_ ?_
    exact any_weak hm [0, 7, 22, 25] (by kernel_rfl) rfl rfl rfl
   ·
    refine qo 1 [(5, .sl (.slice (some ⟨g, 0, none⟩) (n - i2) (cap - i2)))] [0, 7, 20, 21] [(25, .slice (some ⟨g, 0, none⟩) (n - i2) (cap - i2))] ([SlRun Try.prog 36 (.slice (some ⟨g, 0, none⟩) n cap) (some (.int .i64 (i2 : Nat))) none none (.slice (some ⟨g, 0, none⟩) (n - i2) (cap - i2))]) (al1 (by have := slE_cut (P := Try.prog) (T := 36) (e := 46) (k := 2) (by_ := 32) (by kernel_rfl) (lo := i2) (p := some ⟨g, 0, none⟩) (n := n) (cap := cap) (by omega); rw [if_pos q5] at this; exact this)) ?_
    refine od_ ?_
    refine a1 2 rfl ?_
    refine qo 1 [(2, .sl (.slice (some ⟨g, 0, none⟩) i cap))] [0, 7, 25] [(22, .slice (some ⟨g, 0, none⟩) i cap)] ([SlRun Try.prog 36 (.slice (some ⟨g, 0, none⟩) n cap) none (some (.int .i64 (i : Nat))) none (.slice (some ⟨g, 0, none⟩) i cap)]) (al1 (slE_hi (P := Try.prog) (T := 36) (e := 46) (k := 2) (by_ := 32) (by kernel_rfl) (h := i) (by omega))) ?_
    refine od_ ?_
    exact any_weak hm [0, 7, 22, 25] (by kernel_rfl) rfl rfl rfl
  refine a1 6 rfl ?_
  refine ops_appendR 0 rfl (by kernel_rfl) (by kernel_rfl) (g := g) (n := i) (cap := cap) (m := n - i2) (c := cs) (yv := .slice (some ⟨g, 0, none⟩) (n - i2) (cap - i2)) ((cs.toList.drop (0 + i2 * 2)).take ((n - i2) * 2)) (by kernel_rfl) (by kernel_rfl) (T := 46) (ks := 2) (by_ := 32) (by kernel_rfl) (T' := 46) (by kernel_rfl) (by omega) (fun w hw => (src_strike (α := GngA) Try.underlying36 (by omega))) (strike_room hOw (by omega) (by omega)) ?_
  refine od_ ?_
  refine tk (m := 0) [7] [] [7] [(0, .slice (some ⟨g, 0, none⟩) (i + (n - i2)) cap)] ([]) #[true, true, true, true, true, true, true, true] al0 ?_
  refine any_nil (by kernel_rfl) ?_
  refine ds_ (sq_ (ao_ (qo 5 [(4, .sl (.slice (some ⟨g, 0 + (i + (n - i2)) * 2, none⟩) (n - (i + (n - i2))) (cap - (i + (n - i2)))))] [0] [(31, .slice (some ⟨g, 0 + (i + (n - i2)) * 2, none⟩) (n - (i + (n - i2))) (cap - (i + (n - i2))))] ([SlRun Try.prog 36 (.slice (some ⟨g, 0, none⟩) (i + (n - i2)) cap) (some (.int .i64 (i + (n - i2) : Nat))) (some (.int .i64 (n : Nat))) none (.slice (some ⟨g, 0 + (i + (n - i2)) * 2, none⟩) (n - (i + (n - i2))) (cap - (i + (n - i2))))]) (al1 (slE_mid (P := Try.prog) (T := 36) (e := 46) (k := 2) (by_ := 32) (by kernel_rfl) (lo := i + (n - i2)) (hi := n) (by omega) (by omega) (by omega))) (ops_clear 0 rfl (by kernel_rfl) (by kernel_rfl) (g := g) (of := 0 + (i + (n - i2)) * 2) (n := n - (i + (n - i2))) (dc := cap - (i + (n - i2))) (c := (sets cs (0 + i * 2) ((cs.toList.drop (0 + i2 * 2)).take ((n - i2) * 2)))) (by kernel_rfl) (T := 46) (ks := 2) (by_ := 32) (by kernel_rfl) (by kernel_rfl) rfl (strike_clear hOw (by omega)) (fun c2 hc2 hpre2 => on_ (ds_ (sq_ (qa0 [] [] [(6, .slice (some ⟨g, 0, none⟩) (i + (n - i2)) cap)] (ds_ (rt ([]) (.slice (some ⟨g, 0, none⟩) (i + (n - i2)) cap) ?_))))))))))
  exact fun w' hw => ⟨_, _, [_], rfl, .inr ⟨_, _, rfl, rfl, by rw [List.length_append, List.length_take, List.length_drop]; omega, hOw.strike hn (by omega) (by omega) (hc2.trans (sets_size ..)) hpre2⟩, hw⟩
 ·
  refine at_any (by kernel_rfl) ?_
  refine tk (m := 4) [0, 1, 3, 4] [] [0, 7] [(20, .slice (some ⟨g, 0, none⟩) n cap), (21, .int .i64 (i : Nat)), (23, .slice (some ⟨g, 0, none⟩) n cap), (24, .int .i64 (i2 : Nat))] ([]) #[true, true, false, true, true, false, false, false] al0 ?_
  refine any_cut 2 #[true, true, true, true, true, true, false, false] ([(0, .slice (some ⟨g, 0, none⟩) n cap), (7, .int .i64 (n : Nat)), (22, .slice (some ⟨g, 0, none⟩) i cap), (25, .slice (some ⟨g, 0 + i2 * 2, none⟩) (n - i2) (cap - i2))]) (bx g cs 46 :: X) ?_ (fun hm => ?_)
  rotate_left
  ·
   refine any_fork [2, 5] (by kernel_rfl) (by simp) (each_cons _ rfl ?_ (each_cons _ rfl ?_ (each_nil)))
   ·
    refine qo 1 [(2, .sl (.slice (some ⟨g, 0, none⟩) i cap))] [0, 7, 23, 24] [(22, .slice (some ⟨g, 0, none⟩) i cap)] ([SlRun Try.prog 36 (.slice (some ⟨g, 0, none⟩) n cap) none (some (.int .i64 (i : Nat))) none (.slice (some ⟨g, 0, none⟩) i cap)]) (al1 (slE_hi (P := Try.prog) (T := 36) (e := 46) (k := 2) (by_ := 32) (by kernel_rfl) (h := i) (by omega))) ?_
    refine od_ ?_
    refine a1 5 rfl ?_
    refine qo 1 [(5, .sl (.slice (some ⟨g, 0 + i2 * 2, none⟩) (n - i2) (cap - i2)))] [0, 7, 22] [(25, .slice (some ⟨g, 0 + i2 * 2, none⟩) (n - i2) (cap - i2))] ([SlRun Try.prog 36 (.slice (some ⟨g, 0, none⟩) n cap) (some (.int .i64 (i2 : Nat))) none none (.slice (some ⟨g, 0 + i2 * 2, none⟩) (n - i2) (cap - i2))]) (al1 (slE_lo (P := Try.prog) (T := 36) (e := 46) (k := 2) (by_ := 32) (by kernel_rfl) (lo := i2) (by omega) (by omega))) ?_
    refine od_ ?_
    exact any_weak hm [0, 7, 22, 25] (by kernel_rfl) rfl rfl rfl
   ·
    refine qo 1 [(5, .sl (.slice (some ⟨g, 0 + i2 * 2, none⟩) (n - i2) (cap - i2)))] [0, 7, 20, 21] [(25, .slice (some ⟨g, 0 + i2 * 2, none⟩) (n - i2) (cap - i2))] ([SlRun Try.prog 36 (.slice (some ⟨g, 0, none⟩) n cap) (some (.int .i64 (i2 : Nat))) none none (.slice (some ⟨g, 0 + i2 * 2, none⟩) (n - i2) (cap - i2))]) (al1 (slE_lo (P := Try.prog) (T := 36) (e := 46) (k := 2) (by_ := 32) (by kernel_rfl) (lo := i2) (by omega) (by omega))) ?_
    refine od_ ?_
    refine a1 2 rfl ?_
    refine qo 1 [(2, .sl (.slice (some ⟨g, 0, none⟩) i cap))] [0, 7, 25] [(22, .slice (some ⟨g, 0, none⟩) i cap)] ([SlRun Try.prog 36 (.slice (some ⟨g, 0, none⟩) n cap) none (some (.int .i64 (i : Nat))) none (.slice (some ⟨g, 0, none⟩) i cap)]) (al1 (slE_hi (P := Try.prog) (T := 36) (e := 46) (k := 2) (by_ := 32) (by kernel_rfl) (h := i) (by omega))) ?_
    refine od_ ?_
    exact any_weak hm [0, 7, 22, 25] (by kernel_rfl) rfl rfl rfl
  refine a1 6 rfl ?_
  refine ops_appendR 0 rfl (by kernel_rfl) (by kernel_rfl) (g := g) (n := i) (cap := cap) (m := n - i2) (c := cs) (yv := .slice (some ⟨g, 0 + i2 * 2, none⟩) (n - i2) (cap - i2)) ((cs.toList.drop (0 + i2 * 2)).take ((n - i2) * 2)) (by kernel_rfl) (by kernel_rfl) (T := 46) (ks := 2) (by_ := 32) (by kernel_rfl) (T' := 46) (by kernel_rfl) (by omega) (fun w hw => (src_own Try.underlying36 (hw.row 0 rfl) hOw (by omega))) (strike_room hOw (by omega) (by omega)) ?_
  refine od_ ?_
  refine tk (m := 0) [7] [] [7] [(0, .slice (some ⟨g, 0, none⟩) (i + (n - i2)) cap)] ([]) #[true, true, true, true, true, true, true, true] al0 ?_
  refine any_nil (by kernel_rfl) ?_
  refine ds_ (sq_ (ao_ (qo 5 [(4, .sl (.slice (some ⟨g, 0 + (i + (n - i2)) * 2, none⟩) (n - (i + (n - i2))) (cap - (i + (n - i2)))))] [0] [(31, .slice (some ⟨g, 0 + (i + (n - i2)) * 2, none⟩) (n - (i + (n - i2))) (cap - (i + (n - i2))))] ([SlRun Try.prog 36 (.slice (some ⟨g, 0, none⟩) (i + (n - i2)) cap) (some (.int .i64 (i + (n - i2) : Nat))) (some (.int .i64 (n : Nat))) none (.slice (some ⟨g, 0 + (i + (n - i2)) * 2, none⟩) (n - (i + (n - i2))) (cap - (i + (n - i2))))]) (al1 (slE_mid (P := Try.prog) (T := 36) (e := 46) (k := 2) (by_ := 32) (by kernel_rfl) (lo := i + (n - i2)) (hi := n) (by omega) (by omega) (by omega))) (ops_clear 0 rfl (by kernel_rfl) (by kernel_rfl) (g := g) (of := 0 + (i + (n - i2)) * 2) (n := n - (i + (n - i2))) (dc := cap - (i + (n - i2))) (c := (sets cs (0 + i * 2) ((cs.toList.drop (0 + i2 * 2)).take ((n - i2) * 2)))) (by kernel_rfl) (T := 46) (ks := 2) (by_ := 32) (by kernel_rfl) (by kernel_rfl) rfl (strike_clear hOw (by omega)) (fun c2 hc2 hpre2 => on_ (ds_ (sq_ (qa0 [] [] [(6, .slice (some ⟨g, 0, none⟩) (i + (n - i2)) cap)] (ds_ (rt ([]) (.slice (some ⟨g, 0, none⟩) (i + (n - i2)) cap) ?_))))))))))
  exact fun w' hw => ⟨_, _, [_], rfl, .inr ⟨_, _, rfl, rfl, by rw [List.length_append, List.length_take, List.length_drop]; omega, hOw.strike hn (by omega) (by omega) (hc2.trans (sets_size ..)) hpre2⟩, hw⟩

set_option maxRecDepth 100000 in
theorem gbst (g : FuncId) (cb : Array Value) (p : Option Addr) (n cap : Nat) (l : List GngA) (f c : GngA → Int) (k : Int) (w : World)
 (hg : ∀ args w, (callFunc g args).run Try.prog w = .ok (.enter g args) w)
 (hsl : Sv w p l) (hn : n = l.length) (hb : n ≤ 4611686018427387903)
 (hc : ∀ x ∈ l, ∀ w', Below w.heap.size w w' → Calls Try.prog g (#[.agg #[.int .i64 x.id, .slice x.p x.n x.cap], .int .i64 k] ++ cb) w' fun e w1 => e = .returned (.int .i64 (c x)) ∧ Below w'.heap.size w' w1)
 (hs : ∀ x ∈ l, (c x < 0 ↔ f x < k) ∧ (c x = 0 ↔ f x = k)) (ha : AscK f l)
 : Calls Try.prog 65 #[.slice p n cap, .int .i64 k, .func (.func g) #[] cb] w fun e w' => e = .returned (.tuple #[.int .i64 (posK f l k : Nat), .bool (hasK f l k)]) ∧ Below w.heap.size w w' := by
 refine enter (Hs.start w) Try.func65 rfl Try.ntmps65 rfl (sq_ (qa0 [] [0, 1, 2] [] (ds_ (sq_ (qa0 [] [0, 1, 2] [(8, .int .i64 (n : Nat))] (ds_ (sq_ (qa0 [] [0, 1, 2, 8] [(9, .int .i64 0), (10, .int .i64 (n : Nat))] (ds_ (sq_ (at_block (at_loop (α := Nat × Nat) [0, 1, 2, 8, 9, 10] (fun ⟨lo, hi⟩ => [(0, .slice p n cap), (1, .int .i64 k), (2, .func (.func g) #[] cb), (8, .int .i64 (n : Nat)), (9, .int .i64 (lo : Nat)), (10, .int .i64 (hi : Nat))]) (fun ⟨lo, hi⟩ => []) (fun ⟨lo, hi⟩ => lo ≤ hi ∧ hi ≤ n ∧ BsK f l k lo hi) (fun ⟨lo, hi⟩ => hi - lo) (0, n) (by kernel_rfl) rfl ⟨Nat.zero_le _, Nat.le_refl _, by subst hn; exact bsk_start⟩ ?_))))))))))))
 rintro ⟨lo, hi⟩
 rintro ⟨h1, h2, hI⟩
 refine sq_ (sq_ ?_)
 by_cases q5 : ((lo : Nat) : Int) < ((hi : Nat) : Int)
 ·
  refine qa [(2, .yes)] [0, 1, 2, 8, 9, 10] [(17, .bool true)] ([((lo : Nat) : Int) < ((hi : Nat) : Int)]) (al1 q5) (ds_ (t_ (at_skip (ds_ (at_block (sq_ (qa [(2, .fit), (3, .fit), (4, .is [] (.int .u64 ((lo + hi) / 2 : Nat))), (5, .fit)] [0, 1, 2, 8, 9, 10] [(11, .int .i64 ((lo + hi) / 2 : Nat))] ([Fit .i64 ((lo + hi : Nat))] ++ ([Fit .u64 ((lo + hi : Nat))] ++ ([Value.int .u64 (Int.fdiv ((lo : Nat) + (hi : Nat)) (2 ^ 1)) = .int .u64 (((lo + hi) / 2 : Nat) : Int)] ++ ([Fit .i64 (((lo + hi) / 2 : Nat))])))) (alA (al1 (fit64 (by omega) (by omega))) (alA (al1 (fitU (by omega) (by omega))) (alA (al1 (half lo hi)) (al1 (fit64 (by omega) (by omega)))))) (ds_ (sq_ ?_)))))))))
  obtain ⟨b9, o9, rfl⟩ := hsl.pos (i := (lo + hi) / 2) (by omega)
  obtain ⟨x11, hx11⟩ := get_some (l := l) (m := (lo + hi) / 2) (by omega)
  refine ao_ (qo 6 [(3, .at b9 o9 ((lo + hi) / 2)), (4, .go (outs b9 (o9 + ((lo + hi) / 2) * 2) [.int .i64 x11.id, .slice x11.p x11.n x11.cap]))] [0, 1, 2, 8, 9, 10, 11] [(24, .func (.func g) #[] cb), (28, .agg #[.int .i64 x11.id, .slice x11.p x11.n x11.cap]), (29, .int .i64 k)] ([(some ⟨b9, o9, none⟩ : Option Addr) = some ⟨b9, o9, none⟩, ((lo + hi) / 2 : Nat) = (((lo + hi) / 2 : Nat) : Int), (lo + hi) / 2 < n] ++ (cellsP w b9 (o9 + ((lo + hi) / 2) * 2) [.int .i64 x11.id, .slice x11.p x11.n x11.cap])) (alA (al2 rfl (al2 rfl (al1 (by omega)))) (rd_pre (hsl.get hx11) _ rfl)) (cD (.int .i64 (c x11)) hg (fun w hw => hc x11 (List.mem_of_getElem? hx11) w hw.below) ?_))
  by_cases q14 : (c x11 : Int) < (0 : Int)
  ·
   refine qo 1 [(7, .yes)] [0, 1, 2, 8, 9, 10, 11] [(31, .bool true)] ([(c x11 : Int) < (0 : Int)]) (al1 q14) (on_ (ds_ (t_ (qa [(1, .fit)] [0, 1, 2, 8, 10] [(9, .int .i64 ((lo + hi) / 2 + 1 : Nat))] ([Fit .i64 (((lo + hi) / 2 + 1 : Nat))]) (al1 (fit64 (by omega) (by omega))) (done_block ?_)))))
   exact dr [0, 1, 2, 8, 9, 10] ((lo + hi) / 2 + 1, hi) ⟨by omega, by omega, bsk_low hI ha hx11 ((hs x11 (List.mem_of_getElem? hx11)).1.1 q14)⟩
  ·
   refine qo 1 [(7, .no)] [0, 1, 2, 8, 9, 10, 11] [(31, .bool false)] ([¬ ((c x11 : Int) < (0 : Int))]) (al1 q14) (on_ (ds_ (f_ (qa0 [] [0, 1, 2, 8, 9] [(10, .int .i64 ((lo + hi) / 2 : Nat))] (done_block ?_)))))
   exact dr [0, 1, 2, 8, 9, 10] (lo, (lo + hi) / 2) ⟨by omega, by omega, bsk_high hI ha hx11 (fun h => q14 ((hs x11 (List.mem_of_getElem? hx11)).1.2 h))⟩
 ·
  refine qa [(2, .no)] [0, 1, 2, 8, 9, 10] [(17, .bool false)] ([¬ (((lo : Nat) : Int) < ((hi : Nat) : Int))]) (al1 q5) (ds_ (f_ (at_leave _ rfl (ds_ (sq_ ?_)))))
  by_cases q21 : ((lo : Nat) : Int) < ((n : Nat) : Int)
  ·
   obtain ⟨b23, o23, rfl⟩ := hsl.pos (i := lo) (by omega)
   obtain ⟨x25, hx25⟩ := get_some (l := l) (m := lo) (by omega)
   refine ao_ (qo 11 [(3, .yes), (8, .at b23 o23 lo), (9, .go (outs b23 (o23 + lo * 2) [.int .i64 x25.id, .slice x25.p x25.n x25.cap]))] [] [(35, .int .i64 (lo : Nat)), (39, .bool true), (40, .func (.func g) #[] cb), (44, .agg #[.int .i64 x25.id, .slice x25.p x25.n x25.cap]), (45, .int .i64 k)] ([((lo : Nat) : Int) < ((n : Nat) : Int)] ++ ([(some ⟨b23, o23, none⟩ : Option Addr) = some ⟨b23, o23, none⟩, (lo : Nat) = ((lo : Nat) : Int), lo < n] ++ (cellsP w b23 (o23 + lo * 2) [.int .i64 x25.id, .slice x25.p x25.n x25.cap]))) (alA (al1 q21) (alA (al2 rfl (al2 rfl (al1 (by omega)))) (rd_pre (hsl.get hx25) _ rfl))) (cD (.int .i64 (c x25)) hg (fun w hw => hc x25 (List.mem_of_getElem? hx25) w hw.below) ?_))
   by_cases q28 : (c x25 : Int) = (0 : Int)
   ·
    refine qo 4 [(12, .yes)] [] [(6, .int .i64 (lo : Nat)), (7, .bool true)] ([(c x25 : Int) = (0 : Int)]) (al1 q28) (on_ (ds_ (rt ([]) (.tuple #[.int .i64 (lo : Nat), .bool true]) ?_)))
    exact fun w' hw => ⟨by rw [bsk_end hI (by omega) h1 (by omega), hask_found hx25 ((hs x25 (List.mem_of_getElem? hx25)).2.1 q28)], hw.below⟩
   ·
    refine qo 4 [(12, .no)] [] [(6, .int .i64 (lo : Nat)), (7, .bool false)] ([¬ ((c x25 : Int) = (0 : Int))]) (al1 q28) (on_ (ds_ (rt ([]) (.tuple #[.int .i64 (lo : Nat), .bool false]) ?_)))
    exact fun w' hw => ⟨by rw [bsk_end hI (by omega) h1 (by omega), hask_other hI (by omega) h1 ha hx25 (fun h => q28 ((hs x25 (List.mem_of_getElem? hx25)).2.2 h))], hw.below⟩
  ·
   refine qa [(3, .no)] [] [(6, .int .i64 (lo : Nat)), (7, .bool false)] ([¬ (((lo : Nat) : Int) < ((n : Nat) : Int))]) (al1 q21) (ds_ (rt ([]) (.tuple #[.int .i64 (lo : Nat), .bool false]) ?_))
   exact fun w' hw => ⟨by rw [bsk_end hI (by omega) h1 (by omega), hask_none hI (by omega) h1 (by omega)], hw.below⟩

set_option maxRecDepth 100000 in
theorem at1_t (x : GngA) (k : Int) (w : World)
 (h1 : -1000 ≤ x.id) (h2 : x.id ≤ 1000) (h3 : -1000 ≤ k) (h4 : k ≤ 1000)
 : Calls Try.prog 66 #[.agg #[.int .i64 x.id, .slice x.p x.n x.cap], .int .i64 k] w fun e w' => e = .returned (.int .i64 (x.id - k)) ∧ Below w.heap.size w w' := by
 refine enter (Hs.start w) Try.func66 rfl Try.ntmps66 rfl (sq_ (ma0 [] [1] (fun γ1 => [(2, .pointer (some ⟨γ1 0, 0, none⟩))]) (fun γ1 L => bx (γ1 0) (#[.int .i64 x.id, .slice x.p x.n x.cap]) 46 :: L) (fun γ1 => ds_ (sq_ (qa [(1, .go (owns 0 0 1)), (3, .fit)] [] [(4, .int .i64 (x.id - k))] ([Fit .i64 (x.id - k)]) (al1 (fit64 (by omega) (by omega))) (ds_ (rt ([]) (.int .i64 (x.id - k)) ?_)))))))
 exact fun w' hw => ⟨rfl, hw.below⟩

set_option maxRecDepth 100000 in
theorem at_t (q : Option Addr) (m capq : Nat) (al : List GngA) (k : Int) (w : World)
 (hal : Sv w q al) (hma : m = al.length) (hbm : m ≤ 1000) (ha : Ris GngA.id al) (hid : ∀ x ∈ al, -1000 ≤ x.id ∧ x.id ≤ 1000) (h3 : -1000 ≤ k) (h4 : k ≤ 1000)
 : Calls Try.prog 46 #[.agg #[.slice q m capq], .int .i64 k] w fun e w' => e = .returned (.tuple #[.int .i64 (posK GngA.id al k : Nat), .bool (hasK GngA.id al k)]) ∧ Below w.heap.size w w' := by
 refine enter (Hs.start w) Try.func46 rfl Try.ntmps46 rfl (sq_ (ma0 [] [1] (fun γ1 => [(2, .pointer (some ⟨γ1 0, 0, none⟩))]) (fun γ1 L => bx (γ1 0) (#[.slice q m capq]) 38 :: L) (fun γ1 => ds_ (sq_ (ao_ (qo0 3 [(1, .go (owns 0 0 1))] [] [(7, .slice q m capq), (8, .int .i64 k)] (cD (.tuple #[.int .i64 (posK GngA.id al k : Nat), .bool (hasK GngA.id al k)]) Try.call65 (fun w hw => gbst 66 #[] q m capq al GngA.id (fun x => x.id - k) k w Try.call66 (hal.kept hw.below) hma (by omega) (fun x hx w' hb' => at1_t x k w' (hid x hx).1 (hid x hx).2 h3 h4) (fun x hx => ⟨by omega, by omega⟩) ha.asc) (qo0 4 [] [] [(4, .int .i64 (posK GngA.id al k : Nat)), (5, .bool (hasK GngA.id al k))] (on_ (ds_ (rt ([]) (.tuple #[.int .i64 (posK GngA.id al k : Nat), .bool (hasK GngA.id al k)]) ?_)))))))))))
 exact fun w' hw => ⟨rfl, hw.below⟩
end Go.Proofs.Ytahccegfahghfaa

/-! Gangs: their numbers rise; Part; plain. -/
namespace Go.Proofs.Ytahccegfahghfaa
open Go Go.RowKit
/-- What a change of gangs answers, if r is what it does to a copy. -/
def movG (gs : Gs) (r : Gs × Int) : Gs × Int := if gangB gs = false then ([], 240) else if r.2 = 0 then r else ([], r.2)
/-- What Part does to a copy. -/
def partC (gs : Gs) (k : Int) : Gs × Int :=
  if 1 ≤ k ∧ k ≤ 8 ∧ hasK (·.1) gs k = true then (gs.take (posK (·.1) gs k) ++ gs.drop (posK (·.1) gs k + 1), 0) else (gs, 4)
section
variable {al : List GngA} {gs : Gs} {k : Int}
theorem ids_spec : ∀ {l : List Int} {a : Int}, idsB a l = true → l.Pairwise (· < ·) ∧ ∀ x ∈ l, a < x ∧ x ≤ 8
  | [], _, _ => ⟨List.Pairwise.nil, fun _ h => nomatch h⟩
  | b :: l, a, h => by
    simp only [idsB, Bool.and_eq_true, decide_eq_true_eq] at h
    obtain ⟨h1, h2⟩ := ids_spec h.2
    refine ⟨List.pairwise_cons.2 ⟨fun x hx => (h2 x hx).1, h1⟩, fun x hx => ?_⟩
    rcases List.mem_cons.1 hx with rfl | e
    · exact h.1
    · exact ⟨by have := (h2 x e).1; omega, (h2 x e).2⟩
theorem gang_ris (h : gangB (al.map GngA.val) = true) : Ris GngA.id al ∧ ∀ x ∈ al, 0 < x.id ∧ x.id ≤ 8 := by
  have h1 := (gang_pre h al.length).1
  rw [List.take_of_length_le (by rw [List.length_map]; exact Nat.le_refl _), List.map_map] at h1
  obtain ⟨h2, h3⟩ := ids_spec h1
  exact ⟨List.pairwise_map.1 h2, fun x hx => h3 x.id (List.mem_map_of_mem (f := (fun g : Int × List Int => g.1) ∘ GngA.val) hx)⟩
theorem pos_val : posK (·.1) (al.map GngA.val) k = posK GngA.id al k := by
  unfold posK
  rw [List.takeWhile_map, List.length_map]
  rfl
theorem has_val : hasK (·.1) (al.map GngA.val) k = hasK GngA.id al k := by
  unfold hasK
  rw [List.any_map]
  rfl
theorem pc_arg (h : ¬ (1 ≤ k ∧ k ≤ 8)) : partC gs k = (gs, 4) := if_neg (fun e => h ⟨e.1, e.2.1⟩)
theorem pc_none (h : hasK (·.1) gs k = false) : partC gs k = (gs, 4) := if_neg (fun e => by rw [h] at e; exact absurd e.2.2 Bool.false_ne_true)
theorem pc_ok (h1 : 1 ≤ k) (h2 : k ≤ 8) (h : hasK (·.1) gs k = true) : partC gs k = (gs.take (posK (·.1) gs k) ++ gs.drop (posK (·.1) gs k + 1), 0) := if_pos ⟨h1, h2, h⟩
/-- The blocks of those that stay. -/
theorem GotG.cutAt {T : TypeId} {Yi : List Ob} {j : Nat} (h : GotG T Yi al) : ∃ Yi2, List.Sublist Yi2 Yi ∧ GotG T Yi2 (al.take j ++ al.drop (j + 1)) := by
  obtain ⟨Ys, rfl, hl, hs⟩ := h
  rw [List.length_map] at hl
  refine ⟨(Ys.take j ++ Ys.drop (j + 1)).flatten, ?_, Ys.take j ++ Ys.drop (j + 1), rfl, by simp [hl], fun i Z z h1 h2 => ?_⟩
  · conv => rhs; rw [← List.take_append_drop j Ys]
    rw [List.flatten_append, List.flatten_append]
    refine (List.Sublist.refl _).append ?_
    by_cases h : j < Ys.length
    · rw [List.drop_eq_getElem_cons h, List.flatten_cons]; exact List.sublist_append_right _ _
    · rw [List.drop_of_length_le (show Ys.length ≤ j + 1 by omega), List.drop_of_length_le (show Ys.length ≤ j by omega)]; exact List.Sublist.refl _
  · rw [List.getElem?_map] at h2
    have ht : (Ys.take j).length = min j al.length := by rw [List.length_take, hl]
    have ht2 : (al.take j).length = min j al.length := by rw [List.length_take]
    by_cases hi : i < min j al.length
    · rw [List.getElem?_append_left (by omega), List.getElem?_take, if_pos (by omega)] at h1 h2
      exact hs i Z z h1 (by rw [List.getElem?_map]; exact h2)
    · rw [List.getElem?_append_right (by omega), List.getElem?_drop] at h1 h2
      rw [ht] at h1; rw [ht2] at h2
      exact hs _ Z z h1 (by rw [List.getElem?_map]; exact h2)
end
end Go.Proofs.Ytahccegfahghfaa

/-! Gangs: what Part does to a copy. -/
namespace Go.Proofs.Ytahccegfahghfaa
open Go Go.RowKit
theorem part_sub {w0 w : World} {a b : Ob} {Y Yi Yq YR : List Ob} (hp : List.Sublist Yq Yi) (h : Hs w0 (a :: b :: (Y ++ (Yi ++ YR))) w) : Hs w0 (a :: b :: (Y ++ (Yq ++ YR))) w :=
 h.sub (.cons_cons _ (.cons_cons _ ((List.Sublist.refl _).append (hp.append (List.Sublist.refl _)))))

set_option maxRecDepth 100000 in
theorem part1_t (w0 : World) (Y Yi YR : List Ob) (gb gk : Nat) (q : Option Addr) (m capq : Nat) (bl : List GngA) (k : Int) (w : World)
 (hbm : m ≤ 1000) (hO : SlO 46 Y q m capq bl) (hG : GotG 3 Yi bl) (hgd : gangB (bl.map GngA.val) = true) (hH : Hs w0 (bx gb #[.slice q m capq] 38 :: bx gk #[.int .i64 k] 3 :: (Y ++ (Yi ++ YR))) w)
 : Calls Try.prog 55 #[.pointer (some ⟨gb, 0, none⟩), .pointer (some ⟨gk, 0, none⟩)] w fun e w' => ∃ er q2 n2 c2 Y2 Yi2 bl2, e = .returned (.int .i64 er) ∧ (bl2.map GngA.val, er) = partC (bl.map GngA.val) k ∧ SlO 46 Y2 q2 n2 c2 bl2 ∧ GotG 3 Yi2 bl2 ∧ Hs w0 (bx gb #[.slice q2 n2 c2] 38 :: bx gk #[.int .i64 k] 3 :: (Y2 ++ (Yi2 ++ YR))) w' := by
 have hma := hO.len
 have hr := gang_ris hgd
 rw [show YR = YR ++ [] from (List.append_nil _).symm] at hH
 refine enter hH Try.func55 rfl Try.ntmps55 rfl (sq_ (qa0 [] [0, 1] [] (ds_ (sq_ (sq_ ?_)))))
 by_cases q3 : (k : Int) < (1 : Int)
 ·
  refine qa [(0, .go (owns 1 0 1)), (1, .yes)] [0, 1] [(11, .bool true)] ([(k : Int) < (1 : Int)]) (al1 q3) (ds_ (t_ (sq_ (qa0 [] [] [(3, .int .i64 4)] (ds_ (rt ([]) (.int .i64 4) ?_))))))
  exact fun w' hw => ⟨_, _, _, _, _, _, bl, rfl, (pc_arg (by omega)).symm, hO, hG, (by have := Hs.pick [[bx gb (#[.slice q m capq]) 38], [bx gk (#[.int .i64 k]) 3], Y, Yi, YR] [0, 1, 2, 3, 4] [] (by kernel_rfl) hw; simpa [chunk] using this)⟩
 ·
  by_cases q7 : (k : Int) > (8 : Int)
  ·
   refine qa [(0, .go (owns 1 0 1)), (1, .no), (3, .go (owns 1 0 1)), (4, .yes)] [0, 1] [(11, .bool true)] ([¬ ((k : Int) < (1 : Int))] ++ ([(k : Int) > (8 : Int)])) (alA (al1 q3) (al1 q7)) (ds_ (t_ (sq_ (qa0 [] [] [(3, .int .i64 4)] (ds_ (rt ([]) (.int .i64 4) ?_))))))
   exact fun w' hw => ⟨_, _, _, _, _, _, bl, rfl, (pc_arg (by omega)).symm, hO, hG, (by have := Hs.pick [[bx gb (#[.slice q m capq]) 38], [bx gk (#[.int .i64 k]) 3], Y, Yi, YR] [0, 1, 2, 3, 4] [] (by kernel_rfl) hw; simpa [chunk] using this)⟩
  ·
   refine qa [(0, .go (owns 1 0 1)), (1, .no), (3, .go (owns 1 0 1)), (4, .no)] [0, 1] [(11, .bool false)] ([¬ ((k : Int) < (1 : Int))] ++ ([¬ ((k : Int) > (8 : Int))])) (alA (al1 q3) (al1 q7)) (ds_ (f_ (at_skip (ds_ (sq_ ?_)))))
   refine at_calm rfl (by kernel_rfl) (by kernel_rfl) ?_
   refine cm 4 [(2, .go (owns 0 0 1)), (3, .go (owns 1 0 1))] [0] [(15, .agg #[.slice q m capq]), (16, .int .i64 k)] ([]) (by kernel_rfl) rfl al0 ?_
   rcases q12 : hasK GngA.id bl k with _ | _
   ·
    refine cK (.tuple #[.int .i64 (posK GngA.id bl k : Nat), .bool false]) Try.call46 (fun w hw => by have := at_t q m capq bl k w (SlO.sub hO hw (List.Sublist.cons _ (List.Sublist.cons _ (List.sublist_append_left Y _)))) hma hbm hr.1 (fun x hx => by have := hr.2 x hx; omega) (by omega) (by omega); rw [q12] at this; exact this) ?_
    refine cm 5 [] [0] [(4, .int .i64 (posK GngA.id bl k : Nat)), (5, .bool false)] ([]) (by kernel_rfl) rfl al0 ?_
    refine calm_nil' ?_
    refine ds_ (sq_ (sq_ (qa0 [] [0, 4] [(21, .bool true)] (ds_ (t_ (sq_ (qa0 [] [] [(3, .int .i64 4)] (ds_ (rt ([]) (.int .i64 4) ?_)))))))))
    exact fun w' hw => ⟨_, _, _, _, _, _, bl, rfl, (pc_none (has_val.trans q12)).symm, hO, hG, (by have := Hs.pick [[bx gb (#[.slice q m capq]) 38], [bx gk (#[.int .i64 k]) 3], Y, Yi, YR] [0, 1, 2, 3, 4] [] (by kernel_rfl) hw; simpa [chunk] using this)⟩
   ·
    refine cK (.tuple #[.int .i64 (posK GngA.id bl k : Nat), .bool true]) Try.call46 (fun w hw => by have := at_t q m capq bl k w (SlO.sub hO hw (List.Sublist.cons _ (List.Sublist.cons _ (List.sublist_append_left Y _)))) hma hbm hr.1 (fun x hx => by have := hr.2 x hx; omega) (by omega) (by omega); rw [q12] at this; exact this) ?_
    refine cm 5 [] [0] [(4, .int .i64 (posK GngA.id bl k : Nat)), (5, .bool true)] ([]) (by kernel_rfl) rfl al0 ?_
    refine calm_nil' ?_
    refine ds_ (sq_ (sq_ (qa0 [] [0, 4] [(21, .bool false)] (ds_ (f_ (at_skip (ds_ (sq_ ?_))))))))
    obtain ⟨xk, hxk, hfk⟩ := posk_at hr.1.asc q12
    have hkl := (List.getElem?_eq_some_iff.1 hxk).1
    refine ao_ (qo 8 [(4, .go (owns 0 0 1)), (7, .fit)] [] [(22, .pointer (some ⟨gb, 0, none⟩)), (26, .slice q m capq), (27, .int .i64 (posK GngA.id bl k : Nat)), (29, .int .i64 (posK GngA.id bl k + 1 : Nat))] ([Fit .i64 ((posK GngA.id bl k + 1 : Nat))]) (al1 (fit64 (by omega) (by omega))) (cP (fun v L' => ∃ q_ c_ Y_, v = .slice q_ ((posK GngA.id bl k) + (m - (posK GngA.id bl k + 1))) c_ ∧ L' = [bx gb (#[.slice q m capq]) 38, bx gk (#[.int .i64 k]) 3] ++ (Y_ ++ (Yi ++ (YR ++ []))) ∧ SlO 46 Y_ q_ ((posK GngA.id bl k) + (m - (posK GngA.id bl k + 1))) c_ (bl.take (posK GngA.id bl k) ++ bl.drop (posK GngA.id bl k + 1))) Try.call56 (fun w hw => (gdelete_t _ ([bx gb (#[.slice q m capq]) 38, bx gk (#[.int .i64 k]) 3] ++ (Yi ++ (YR ++ []))) Y q m capq bl (posK GngA.id bl k) (posK GngA.id bl k + 1) w (Hs.front (A := [bx gb (#[.slice q m capq]) 38, bx gk (#[.int .i64 k]) 3]) (Y := Y) (R := (Yi ++ (YR ++ []))) hw) hO (by omega) (by omega) (by omega)).mono fun e w' ⟨q_, c_, Y_, he, hO, hY⟩ => ⟨_, _, he, ⟨q_, c_, Y_, rfl, rfl, hO⟩, hY.push⟩) ?_))
    rintro v19 L19 ⟨q19, cq19, Y19, rfl, rfl, hO19⟩
    refine mo0 3 [(11, .go (owns 0 0 1))] [] (fun _ => []) (fun _ L => (L.set 0 (bx gb (#[.slice q19 ((posK GngA.id bl k) + (m - (posK GngA.id bl k + 1))) cq19]) 38))) (fun _ => on_ (ds_ (sq_ (qa0 [] [] [(3, .int .i64 0)] (ds_ (rt ([]) (.int .i64 0) ?_))))))
    obtain ⟨Yq, hsq, hGq⟩ := GotG.cutAt (j := posK GngA.id bl k) hG
    exact fun w' hw => ⟨_, _, _, _, _, Yq, _, rfl, by rw [pc_ok (by omega) (by omega) (has_val.trans q12), pos_val, List.map_append, List.map_take, List.map_drop], hO19, hGq, part_sub hsq (by have := Hs.pick [[bx gb (#[.slice q19 ((posK GngA.id bl k) + (m - (posK GngA.id bl k + 1))) cq19]) 38], [bx gk (#[.int .i64 k]) 3], Y19, Yi, YR] [0, 1, 2, 3, 4] [] (by kernel_rfl) hw; simpa [chunk] using this)⟩
end Go.Proofs.Ytahccegfahghfaa

/-! Gangs: Part. -/
namespace Go.Proofs.Ytahccegfahghfaa
open Go Go.RowKit
theorem part_in {w0 w : World} {b m : Ob} {Y Yi O R : List Ob} (h : Hs w0 (b :: (Y ++ (Yi ++ ((m :: O) ++ R)))) w) : Hs w0 (b :: m :: (Y ++ (Yi ++ (O ++ R)))) w := by
  refine h.perm (.cons _ ?_)
  rw [show Y ++ (Yi ++ ((m :: O) ++ R)) = (Y ++ Yi) ++ ([m] ++ (O ++ R)) from by simp, show m :: (Y ++ (Yi ++ (O ++ R))) = [m] ++ ((Y ++ Yi) ++ (O ++ R)) from by simp]
  exact perm3
theorem part_out {w0 w : World} {b m : Ob} {Y Yi O R : List Ob} (h : Hs w0 (b :: m :: (Y ++ (Yi ++ (O ++ R)))) w) : Hs w0 (b :: (Y ++ (Yi ++ ((m :: O) ++ R)))) w := by
  refine h.perm (.cons _ ?_)
  rw [show Y ++ (Yi ++ ((m :: O) ++ R)) = (Y ++ Yi) ++ ([m] ++ (O ++ R)) from by simp, show m :: (Y ++ (Yi ++ (O ++ R))) = [m] ++ ((Y ++ Yi) ++ (O ++ R)) from by simp]
  exact perm3
theorem mov_post {gs : Gs} {r : Gs × Int} {er : Int} {bl : List GngA} {X L : List Ob} (h : (gangB gs = false ∧ er = 240 ∧ bl = [] ∧ X = L) ∨ (gangB gs = true ∧ er ≠ 0 ∧ bl = [] ∧ ∃ g2 : Gs, (g2, er) = r ∧ X = L) ∨ (gangB gs = true ∧ er = 0 ∧ (bl.map GngA.val, (0 : Int)) = r ∧ X = L)) : X = L ∧ (bl.map GngA.val, er) = movG gs r := by
  rcases h with ⟨h, rfl, rfl, rfl⟩ | ⟨h, h2, rfl, g2, rfl, rfl⟩ | ⟨h, rfl, rfl, rfl⟩
  · exact ⟨rfl, by rw [movG, if_pos h]; rfl⟩
  · exact ⟨rfl, by rw [movG, if_neg (by rw [h]; decide), if_neg h2]; rfl⟩
  · exact ⟨rfl, by rw [movG, if_neg (by rw [h]; decide), if_pos rfl]⟩

set_option maxRecDepth 100000 in
theorem part_t (q : Option Addr) (m capq : Nat) (al : List GngA) (k : Int) (w : World)
    (hal : Sv w q al) (hma : m = al.length) (hbm : m ≤ 1000) (hnm : ∀ x ∈ al, x.Reads w) (hm9 : ∀ x ∈ al, x.n ≤ 1000)
    : Calls Try.prog 31 #[.agg #[.slice q m capq], .int .i64 k] w fun e w' => ∃ er q' n' c' Y Yi bl, e = .returned (.tuple #[.agg #[.slice q' n' c'], .int .i64 er]) ∧ (bl.map GngA.val, er) = movG (al.map GngA.val) (partC (al.map GngA.val) k) ∧ SlO 46 Y q' n' c' bl ∧ GotG 3 Yi bl ∧ Below w.heap.size w w' ∧ Hs w (Y ++ Yi) w' := by
  refine enter (Hs.start w) Try.func31 rfl Try.ntmps31 rfl (sq_ (ma0 [] [] (fun γ1 => [(2, .pointer (some ⟨γ1 0, 0, none⟩)), (3, .pointer (some ⟨γ1 1, 0, none⟩)), (4, .pointer (some ⟨γ1 2, 0, none⟩))]) (fun γ1 L => bx (γ1 2) (#[.slice none 0 0]) 38 :: bx (γ1 1) (#[.int .i64 k]) 3 :: bx (γ1 0) (#[.slice q m capq]) 38 :: L) (fun γ1 => ds_ (sq_ (ao_ (qo0 2 [(0, .go (owns 2 0 1))] [4] [(6, .agg #[.slice q m capq]), (7, .func (.func 55) #[] #[.pointer (some ⟨γ1 1, 0, none⟩)])] (Ops.pick [[bx (γ1 2) (#[.slice none 0 0]) 38], [bx (γ1 1) (#[.int .i64 k]) 3], [bx (γ1 0) (#[.slice q m capq]) 38]] [1, 0, 2] [] ([bx (γ1 1) (#[.int .i64 k]) 3, bx (γ1 2) (#[.slice none 0 0]) 38, bx (γ1 0) (#[.slice q m capq]) 38]) (by kernel_rfl) rfl rfl (cP (fun v L' => ∃ er q_ n_ c_ Y_ Z_ bl_, v = .tuple #[.agg #[.slice q_ n_ c_], .int .i64 er] ∧ L' = [bx (γ1 1) (#[.int .i64 k]) 3, bx (γ1 2) (#[.slice none 0 0]) 38, bx (γ1 0) (#[.slice q m capq]) 38] ++ (Y_ ++ (Z_ ++ [])) ∧ SlO 46 Y_ q_ n_ c_ bl_ ∧ GotG 3 Z_ bl_ ∧ (bl_.map GngA.val, er) = movG (al.map GngA.val) (partC (al.map GngA.val) k)) Try.call50 (fun w hw => (with_t _ [bx (γ1 1) (#[.int .i64 k]) 3, bx (γ1 2) (#[.slice none 0 0]) 38, bx (γ1 0) (#[.slice q m capq]) 38] 55 #[.pointer (some ⟨γ1 1, 0, none⟩)] (fun er gs X2 => (gs, er) = partC (al.map GngA.val) k ∧ X2 = [bx (γ1 1) (#[.int .i64 k]) 3, bx (γ1 2) (#[.slice none 0 0]) 38, bx (γ1 0) (#[.slice q m capq]) 38]) q m capq al w (fun args w => Try.call55 args w) hw hal hma hbm hnm hm9 (fun hgd gb q' c' Y Yi R bl w' hO hG hV hX => (part1_t _ Y Yi ([bx (γ1 2) (#[.slice none 0 0]) 38, bx (γ1 0) (#[.slice q m capq]) 38] ++ R) gb (γ1 1) q' m c' bl k w' hbm hO hG (by rw [hV]; exact hgd) (part_in (O := [bx (γ1 2) (#[.slice none 0 0]) 38, bx (γ1 0) (#[.slice q m capq]) 38]) hX)).mono fun e w'' ⟨er, q2, n2, c2, Y2, Yi2, bl2, he, h1, h2, h3, h4⟩ => ⟨er, q2, n2, c2, Y2, Yi2, bl2, _, he, ⟨by rw [← hV]; exact h1, rfl⟩, h2, h3, part_out (O := [bx (γ1 2) (#[.slice none 0 0]) 38, bx (γ1 0) (#[.slice q m capq]) 38]) h4⟩)).mono fun e w' ⟨er, q_, n_, c_, Y_, Z_, bl_, X_, he, h1, h2, hX, h3⟩ => by obtain ⟨hx, hv⟩ := mov_post (L := [bx (γ1 1) (#[.int .i64 k]) 3, bx (γ1 2) (#[.slice none 0 0]) 38, bx (γ1 0) (#[.slice q m capq]) 38]) h3; subst hx; exact ⟨_, _, he, ⟨er, q_, n_, c_, Y_, Z_, bl_, rfl, rfl, h1, h2, hv⟩, form_out2 hX⟩) ?_))))))))
  rintro v3 L3 ⟨er3, q3, n3, c3, Y3, Yz3, bl3, rfl, rfl, hO3, hG3, hV3⟩
  refine mo0 4 [(5, .go (owns 1 0 1))] [4] (fun _ => [(5, .int .i64 er3)]) (fun _ L => (L.set 1 (bx (γ1 2) (#[.slice q3 n3 c3]) 38))) (fun _ => on_ (ds_ (rt (owns 1 0 1) (.tuple #[.agg #[.slice q3 n3 c3], .int .i64 er3]) ?_)))
  exact fun w' hw => ⟨_, _, _, _, _, _, _, rfl, hV3, hO3, hG3, hw.below, two_tails14 (Hs.pick [[bx (γ1 1) (#[.int .i64 k]) 3], [bx (γ1 2) (#[.slice q3 n3 c3]) 38], [bx (γ1 0) (#[.slice q m capq]) 38], Y3, Yz3] [3, 4] [0, 1, 2] (by kernel_rfl) hw)⟩
end Go.Proofs.Ytahccegfahghfaa

/-! Which gang one is in; plain. -/
namespace Go.Proofs.Ytahccegfahghfaa
open Go Go.RowKit
/-- The first gang that one is in. -/
def findG (gs : Gs) (k : Int) : Option (Int × List Int) := gs.find? fun g => decide (k ∈ g.2)
/-- What Of answers. -/
def ofV (gs : Gs) (k : Int) : Int × Bool := if gangB gs = false then (0, false) else match findG gs k with
  | none => (0, false)
  | some g => (g.1, true)
/-- The members of the gang of this number. -/
def memV (gs : Gs) (k : Int) : List Int := if gangB gs = true ∧ (1 ≤ k ∧ k ≤ 8) ∧ hasK (·.1) gs k = true then ((gs[posK (·.1) gs k]?).map (·.2)).getD [] else []
section
variable {al : List GngA} {gs : Gs} {k : Int} {x0 : GngA} {i0 : Nat}
theorem find_none (h : ∀ x ∈ al, hasG k x = false) : findG (al.map GngA.val) k = none := by
  unfold findG
  rw [List.find?_eq_none]
  intro g hg hk
  obtain ⟨x, hx, rfl⟩ := List.mem_map.1 hg
  exact Bool.false_ne_true ((h x hx).symm.trans hk)
theorem find_some (hx : al[i0]? = some x0) (hp : hasG k x0 = true) (hl : ∀ (t : Nat) (y : GngA), t < i0 → al[t]? = some y → hasG k y = false) : findG (al.map GngA.val) k = some x0.val := by
  obtain ⟨hi, he⟩ := List.getElem?_eq_some_iff.1 hx
  unfold findG
  rw [List.find?_eq_some_iff_getElem]
  refine ⟨hp, i0, by rw [List.length_map]; exact hi, by rw [List.getElem_map, he], fun j hj => ?_⟩
  have hj2 : j < al.length := by omega
  have := hl j al[j] hj (List.getElem?_eq_getElem hj2)
  rw [List.getElem_map]
  show (!(hasG k al[j])) = true
  rw [this]; rfl
theorem ofv_none (h : gangB gs = true) (hf : findG gs k = none) : ofV gs k = (0, false) := by rw [ofV, if_neg (by rw [h]; decide), hf]
theorem ofv_some {g : Int × List Int} (h : gangB gs = true) (hf : findG gs k = some g) : ofV gs k = (g.1, true) := by rw [ofV, if_neg (by rw [h]; decide), hf]
end
end Go.Proofs.Ytahccegfahghfaa

/-! Which gangs may be, by the document; what Get finds; plain. -/
namespace Go.Proofs.Ytahccegfahghfaa
open Go Go.RowKit
/-- What the document says of where one is. -/
def rofV (gs : Gs) (k : Int) : Int := ((findG gs k).map (·.1)).getD 0
/-- The members of a gang as they lie in memory, by the document. -/
def getA (al : List GngA) (k : Int) : Option Addr × Nat × Nat × List Int := match al.find? fun x => decide (x.id = k) with
  | none => (none, 0, 0, [])
  | some x => (x.p, x.n, x.cap, x.l)
/-- The rows of all gangs. -/
def rowsV (gs : Gs) : List (List Int) := if gangB gs = true then gs.map (·.2) else []
section
variable {al : List GngA} {gs : Gs} {k n : Int} {x x0 : GngA} {i0 i j : Nat} {l : List Int} {g : Int × List Int}
theorem rofv_some (hx : al[i]? = some x) (hp : decide (k ∈ x.l) = true) (hl : ∀ (t : Nat) (y : GngA), t < i → al[t]? = some y → hasG k y = false) : rofV (al.map GngA.val) k = x.id := by rw [rofV, find_some hx hp hl]; rfl
theorem rofv_none (hj : al.length ≤ j) (hl : ∀ (t : Nat) (y : GngA), t < j → al[t]? = some y → hasG k y = false) : rofV (al.map GngA.val) k = 0 := by
  rw [rofV, find_none (fun x hx => by obtain ⟨i, hi⟩ := List.mem_iff_getElem?.1 hx; exact hl i x (by have := (List.getElem?_eq_some_iff.1 hi).1; omega) hi)]; rfl
theorem mem_memL : k ∈ memL gs ↔ ∃ g ∈ gs, k ∈ g.2 := List.mem_flatMap
theorem rof_mem (h : rofV gs k > 0) : k ∈ memL gs := by
  unfold rofV at h
  cases hf : findG gs k with
  | none => rw [hf] at h; exact absurd h (by decide)
  | some g =>
    unfold findG at hf
    exact mem_memL.2 ⟨g, List.mem_of_find?_eq_some hf, of_decide_eq_true (List.find?_some (p := fun g : Int × List Int => decide (k ∈ g.2)) hf)⟩
theorem rof_not (hp : ∀ g ∈ gs, 0 < g.1) (h : ¬ rofV gs k > 0) : ¬ k ∈ memL gs := fun hk => by
  obtain ⟨g, hg, hkg⟩ := mem_memL.1 hk
  unfold rofV at h
  cases hf : findG gs k with
  | none =>
    unfold findG at hf
    have := List.find?_eq_none.1 hf g hg
    exact this (decide_eq_true hkg)
  | some g2 =>
    rw [hf] at h
    have := hp g2 (by unfold findG at hf; exact List.mem_of_find?_eq_some hf)
    exact h this
theorem up_spec : ∀ {l : List Int} {a : Int}, upB a l = true → l.Pairwise (· < ·) ∧ ∀ x ∈ l, a < x ∧ x ≤ 16
  | [], _, _ => ⟨List.Pairwise.nil, fun _ h => nomatch h⟩
  | b :: l, a, h => by
    simp only [upB, Bool.and_eq_true, decide_eq_true_eq] at h
    obtain ⟨h1, h2⟩ := up_spec h.2
    refine ⟨List.pairwise_cons.2 ⟨fun x hx => (h2 x hx).1, h1⟩, fun x hx => ?_⟩
    rcases List.mem_cons.1 hx with rfl | e
    · exact h.1
    · exact ⟨by have := (h2 x e).1; omega, (h2 x e).2⟩
theorem may_nodup (h : mayB l = true) : l.Nodup := by
  simp only [mayB, Bool.and_eq_true] at h
  exact (up_spec h.1).1.imp (fun e => Int.ne_of_lt e)
theorem ids_pos (h : idsB 0 (gs.map (·.1)) = true) : ∀ g ∈ gs, 0 < g.1 := fun _ hg => ((ids_spec h).2 _ (List.mem_map_of_mem (f := (·.1)) hg)).1
theorem rr_more (hids : idsB 0 ((gs.take j).map (·.1)) = true) (hmay : mayB l = true) (hn : l[i]? = some n) (h : ¬ rofV (gs.take j) n > 0) : decide (n ∈ memL (gs.take j) ++ l.take i) = false := decide_eq_false fun e => by
  rcases List.mem_append.1 e with e | e
  · exact rof_not (ids_pos hids) h e
  · obtain ⟨k, hk⟩ := List.mem_iff_getElem?.1 e
    rw [List.getElem?_take] at hk
    split at hk
    · rename_i hki
      obtain ⟨l1, e1⟩ := List.getElem?_eq_some_iff.1 hk
      obtain ⟨l2, e2⟩ := List.getElem?_eq_some_iff.1 hn
      have := (List.getElem_inj (may_nodup hmay)).1 (e1.trans e2.symm)
      omega
    · cases hk
theorem rr_twice (h : rofV (gs.take j) n > 0) : decide (n ∈ memL (gs.take j) ++ l.take i) = true := decide_eq_true (List.mem_append_left _ (rof_mem h))
theorem ids_last : ∀ {l : List Int} {a : Int}, idsB a l = true → a ≤ lastV a l
  | [], a, _ => Int.le_refl _
  | b :: l, a, h => by
    simp only [idsB, Bool.and_eq_true, decide_eq_true_eq] at h
    rw [last_cons]
    have := ids_last h.2
    omega
theorem lastid_prev (hx : gs[i]? = some g) (e : j = i + 1) : lastV 0 ((gs.take j).map (·.1)) = g.1 := by subst e; exact lastid_onT hx
theorem lastid_zero (e : j = 0) : lastV 0 ((gs.take j).map (·.1)) = 0 := by subst e; rfl
theorem get_some14 (hx : al[i]? = some x) (he : x.id = k) (hl : ∀ (t : Nat) (y : GngA), t < i → al[t]? = some y → ¬ y.id = k) : getA al k = (x.p, x.n, x.cap, x.l) := by
  obtain ⟨hi, hxe⟩ := List.getElem?_eq_some_iff.1 hx
  have : al.find? (fun x => decide (x.id = k)) = some x := by
    rw [List.find?_eq_some_iff_getElem]
    refine ⟨decide_eq_true he, i, hi, hxe, fun t ht => ?_⟩
    have ht2 : t < al.length := by omega
    have := hl t al[t] ht (List.getElem?_eq_getElem ht2)
    rw [decide_eq_false this]; rfl
  rw [getA, this]
theorem get_none14 (hj : al.length ≤ j) (hl : ∀ (t : Nat) (y : GngA), t < j → al[t]? = some y → ¬ y.id = k) : getA al k = (none, 0, 0, []) := by
  have : al.find? (fun x => decide (x.id = k)) = none := by
    rw [List.find?_eq_none]
    intro x hx e
    obtain ⟨t, ht⟩ := List.mem_iff_getElem?.1 hx
    exact hl t x (by have := (List.getElem?_eq_some_iff.1 ht).1; omega) ht (of_decide_eq_true e)
  rw [getA, this]
/-- What Get finds, by cases. -/
theorem get_cases (al : List GngA) (k : Int) : (getA al k = (none, 0, 0, []) ∧ ∀ x ∈ al, ¬ x.id = k) ∨ ∃ (i0 : Nat) (x0 : GngA), al[i0]? = some x0 ∧ x0.id = k ∧ getA al k = (x0.p, x0.n, x0.cap, x0.l) := by
  unfold getA
  cases h : al.find? (fun x => decide (x.id = k)) with
  | none => exact .inl ⟨rfl, fun x hx e => by have := List.find?_eq_none.1 h x hx; exact this (decide_eq_true e)⟩
  | some x =>
    obtain ⟨i, hi⟩ := List.mem_iff_getElem?.1 (List.mem_of_find?_eq_some h)
    exact .inr ⟨i, x, hi, of_decide_eq_true (List.find?_some (p := fun x : GngA => decide (x.id = k)) h), rfl⟩
theorem of_rof (h : gangB gs = true) : (ofV gs k).1 = rofV gs k ∧ (ofV gs k).2 = decide (rofV gs k > 0) := by
  have hp : ∀ g ∈ gs, 0 < g.1 := by
    have := (gang_pre h gs.length).1
    rw [List.take_of_length_le (Nat.le_refl _)] at this
    exact ids_pos this
  unfold rofV
  cases hf : findG gs k with
  | none => rw [ofv_none h hf]; exact ⟨rfl, rfl⟩
  | some g =>
    rw [ofv_some h hf]
    refine ⟨rfl, (decide_eq_true ?_).symm⟩
    exact hp g (by unfold findG at hf; exact List.mem_of_find?_eq_some hf)
end
end Go.Proofs.Ytahccegfahghfaa
