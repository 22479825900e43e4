/- EventTells: the walk. -/
import Derived.Test.YtfhlmijdokfdpaaPs
import Derived.Test.YtfhlmijdokfdpaaPw
namespace Go.Proofs.Ytfhlmijdokfdpaa
open Go Go.RowKit

set_option maxRecDepth 100000 in
set_option maxHeartbeats 8000000 in
theorem tells_d (q : Option Addr) (m cap2 : Nat) (al : List PortsA) (pn : Option Addr) (mn capn : Nat) (ns : List Int) (w : World)
    (hal : Sv w q al) (hma : m = al.length) (hbig2 : m ≤ 9223372036854775807)
    (hnm : ∀ x ∈ al, Sv w x.p x.l ∧ x.n = x.l.length ∧ x.n ≤ x.cap ∧ x.cap ≤ 9223372036854775807)
    (hns : Sv w pn ns) (hmn : mn = ns.length) (hbig3 : mn ≤ 9223372036854775807)
    : Calls Try.prog 4 #[.slice q m cap2, .slice pn mn capn] w fun e w' => e = .returned (.bool true) ∧ Below w.heap.size w w' := by
  refine enter (Hs.start w) Try.func4 rfl Try.ntmps4 rfl ?_
  refine at_seq ?_
  refine aq [] [0, 1] [] ([]) (fun _ => by kernel_rfl) al0 ?_
  refine done_seq ?_
  refine at_seq ?_
  refine at_seq ?_
  refine at_ops ?_
  refine ops_callD (.bool true) (by kernel_rfl) (by kernel_rfl) (by kernel_rfl) (fun args w => Try.call10 args w) (fun w hw => wakes_d w) ?_
  refine oq 1 [] [0, 1] [(19, .bool false)] ([]) (fun _ => by kernel_rfl) al0 ?_
  refine ops_nil ?_
  refine done_seq ?_
  refine at_false (by kernel_rfl) ?_
  refine at_skip ?_
  refine done_seq ?_
  refine at_seq ?_
  refine at_seq ?_
  refine aq [] [0, 1] [(20, .slice q m cap2), (21, .int .i64 ((m : Nat))), (22, .int .i64 0)] ([]) (fun _ => by kernel_rfl) al0 ?_
  refine done_seq ?_
  refine at_block ?_
  refine at_loop (α := Nat) [0, 1, 20, 21, 22] (fun j22 => [(0, .slice q m cap2), (1, .slice pn mn capn), (20, .slice q m cap2), (21, .int .i64 ((m : Nat))), (22, .int .i64 ((j22 : Nat)))]) (fun j22 => []) (fun j22 => j22 ≤ m) (fun j22 => m - j22) 0 (by kernel_rfl) rfl (Nat.zero_le _) ?_
  rintro j22
  rintro hj22
  refine at_seq ?_
  by_cases q6 : ((j22 : Nat) : Int) < ((m : Nat) : Int)
  ·
    refine aq [(0, .yes)] [0, 1, 20, 21, 22] [(23, .bool true)] ([((j22 : Nat) : Int) < ((m : Nat) : Int)]) (fun _ => by kernel_rfl) (al1 q6) ?_
    refine done_seq ?_
    refine at_seq ?_
    refine at_true (by kernel_rfl) ?_
    refine at_skip ?_
    refine done_seq ?_
    refine at_seq ?_
    refine at_block ?_
    refine at_seq ?_
    obtain ⟨b9, o9, rfl⟩ := hal.pos (i := j22) (by omega)
    obtain ⟨x11, hx11⟩ := get_some (l := al) (m := j22) (by omega)
    obtain ⟨hsx11, hlx11, hcx11, hdx11⟩ := hnm x11 (List.mem_of_getElem? hx11)
    refine am [(1, .at b9 o9 j22), (2, .go (outs b9 (o9 + j22 * 1) [.slice x11.p x11.n x11.cap])), (5, .go (owns 0 0 1))] [0, 1, 20, 21, 22] (fun γ12 => [(5, .int .i64 ((j22 : Nat))), (6, .pointer (some ⟨γ12 0, 0, none⟩))]) (fun γ12 L => bx (γ12 0) (#[.slice x11.p x11.n x11.cap]) 24 :: L) (fun γ12 => [(some ⟨b9, o9, none⟩ : Option Addr) = some ⟨b9, o9, none⟩, ((j22 : Nat)) = ((j22 : Nat) : Int), j22 < m] ++ (cellsP w b9 (o9 + j22 * 1) [.slice x11.p x11.n x11.cap])) (fun _ => by kernel_rfl) (fun γ12 => (alA (al2 rfl (al2 rfl (al1 (by omega)))) (rd_pre (hal.get hx11) _ rfl))) (fun γ12 => ?_)
    refine done_seq ?_
    refine at_seq ?_
    refine at_seq ?_
    by_cases q14 : ((j22 : Nat) : Int) = (8 : Int)
    ·
      refine aq [(1, .yes)] [0, 1, 6, 20, 21, 22] [(28, .bool true)] ([((j22 : Nat) : Int) = (8 : Int)]) (fun _ => by kernel_rfl) (al1 q14) ?_
      refine done_seq ?_
      refine at_true (by kernel_rfl) ?_
      refine at_leave _ (by rfl) ?_
      refine done_seq ?_
      refine at_seq ?_
      refine aq [] [] [(4, .bool true)] ([]) (fun _ => by kernel_rfl) al0 ?_
      refine done_seq ?_
      refine at_return ([]) (.bool true) [] (by kernel_rfl) (by kernel_rfl) al0 ?_
      exact fun w' hw => ⟨rfl, hw.below⟩
    ·
      refine aq [(1, .no)] [0, 1, 6, 20, 21, 22] [(28, .bool false)] ([¬ (((j22 : Nat) : Int) = (8 : Int))]) (fun _ => by kernel_rfl) (al1 q14) ?_
      refine done_seq ?_
      refine at_false (by kernel_rfl) ?_
      refine at_skip ?_
      refine done_seq ?_
      refine at_seq ?_
      obtain ⟨x18, hx18⟩ := get_some (l := al) (m := 0) (by omega)
      obtain ⟨hsx18, hlx18, hcx18, hdx18⟩ := hnm x18 (List.mem_of_getElem? hx18)
      refine at_any (by kernel_rfl) ?_
      refine any_tk (f := 8) [2, 3] [(3, .at b9 o9 0)] [0, 1, 6, 20, 21, 22] [(32, .pointer (some ⟨b9, o9 + 0 * 1, none⟩))] ([(some ⟨b9, o9, none⟩ : Option Addr) = some ⟨b9, o9, none⟩, 0 = ((0 : Nat) : Int), 0 < m]) #[false, false, true, true, false, false, false, false, false, false] (by kernel_rfl) (by kernel_rfl) (al2 rfl (al2 rfl (al1 (by omega)))) ?_
      refine any_cutX (V := (List Ob) × (List Ob) × (Nat) × (Nat) × (Nat) × (Nat) × (Option Addr) × (Option Addr) × (Nat → Nat) × (Nat → Nat)) (fun ⟨Y122, Y42, cq122, cq42, m122, m42, q122, q42, γ142, γ162⟩ => SlO 40 Y122 q122 m122 cq122 (x18.l.take 33) ∧ SlO 40 Y42 q42 m42 cq42 (x11.l.take 33) ∧ m122 ≤ 33 ∧ m42 ≤ 33) 0 #[true, true, true, true, true, true, true, true, true, true] (fun ⟨Y122, Y42, cq122, cq42, m122, m42, q122, q42, γ142, γ162⟩ => [(0, .slice (some ⟨b9, o9, none⟩) m cap2), (1, .slice pn mn capn), (6, .pointer (some ⟨γ12 0, 0, none⟩)), (7, .pointer (some ⟨γ142 0, 0, none⟩)), (8, .pointer (some ⟨γ162 0, 0, none⟩)), (20, .slice (some ⟨b9, o9, none⟩) m cap2), (21, .int .i64 ((m : Nat))), (22, .int .i64 ((j22 : Nat)))]) (fun ⟨Y122, Y42, cq122, cq42, m122, m42, q122, q42, γ142, γ162⟩ => bx (γ162 0) (#[.slice q122 m122 cq122]) 24 :: bx (γ142 0) (#[.slice q42 m42 cq42]) 24 :: bx (γ12 0) (#[.slice x11.p x11.n x11.cap]) 24 :: (Y122 ++ (Y42 ++ []))) ?_ (fun hmx29 => ?_)
      rotate_left
      ·
        refine any_cutX (V := (List Ob) × (List Ob) × (Nat) × (Nat) × (Nat) × (Nat) × (Option Addr) × (Option Addr) × (Nat → Nat) × (Nat → Nat)) (fun ⟨Y122, Y42, cq122, cq42, m122, m42, q122, q42, γ142, γ162⟩ => SlO 40 Y122 q122 m122 cq122 (x18.l.take 33) ∧ SlO 40 Y42 q42 m42 cq42 (x11.l.take 33) ∧ m122 ≤ 33 ∧ m42 ≤ 33) 1 #[true, true, true, true, true, true, true, true, true, false] (fun ⟨Y122, Y42, cq122, cq42, m122, m42, q122, q42, γ142, γ162⟩ => [(0, .slice (some ⟨b9, o9, none⟩) m cap2), (1, .slice pn mn capn), (6, .pointer (some ⟨γ12 0, 0, none⟩)), (7, .pointer (some ⟨γ142 0, 0, none⟩)), (8, .pointer (some ⟨γ162 0, 0, none⟩)), (20, .slice (some ⟨b9, o9, none⟩) m cap2), (21, .int .i64 ((m : Nat))), (22, .int .i64 ((j22 : Nat))), (34, .agg #[.slice q122 m122 cq122])]) (fun ⟨Y122, Y42, cq122, cq42, m122, m42, q122, q42, γ142, γ162⟩ => bx (γ162 0) (#[.slice none 0 0]) 24 :: bx (γ142 0) (#[.slice q42 m42 cq42]) 24 :: bx (γ12 0) (#[.slice x11.p x11.n x11.cap]) 24 :: (Y122 ++ (Y42 ++ []))) ?_ (fun hmx28 => ?_)
        ·
          rintro ⟨Y122, Y42, cq122, cq42, m122, m42, q122, q42, γ142, γ162⟩ ⟨hO122, hO42, hm122, hm42⟩
          refine any_one 9 _ (by kernel_rfl) rfl ?_
          refine om 1 [(9, .go (owns 0 0 1))] [0, 1, 6, 7, 8, 20, 21, 22] (fun _ => []) (fun _ L => (L.set 0 (bx (γ162 0) (#[.slice q122 m122 cq122]) 24))) (fun _ => []) (fun _ => by kernel_rfl) (fun _ => al0) (fun _ => ?_)
          refine ops_nil ?_
          refine done_any ?_
          exact any_weakP (hmx29 (Y122, Y42, cq122, cq42, m122, m42, q122, q42, γ142, γ162) ⟨hO122, hO42, hm122, hm42⟩) [0, 1, 6, 7, 8, 20, 21, 22] [[bx (γ162 0) (#[.slice q122 m122 cq122]) 24], [bx (γ142 0) (#[.slice q42 m42 cq42]) 24], [bx (γ12 0) (#[.slice x11.p x11.n x11.cap]) 24], Y122, Y42] [0, 1, 2, 3, 4] (by kernel_rfl) rfl rfl (by kernel_rfl) rfl rfl
        refine any_cutX (V := (List Ob) × (List Ob) × (Nat) × (Nat) × (Nat) × (Nat) × (Option Addr) × (Option Addr) × (Nat → Nat) × (Nat → Nat)) (fun ⟨Y122, Y42, cq122, cq42, m122, m42, q122, q42, γ142, γ162⟩ => SlO 40 Y122 q122 m122 cq122 (x18.l.take 33) ∧ SlO 40 Y42 q42 m42 cq42 (x11.l.take 33) ∧ m122 ≤ 33 ∧ m42 ≤ 33) 2 #[true, true, true, true, true, true, true, true, false, false] (fun ⟨Y122, Y42, cq122, cq42, m122, m42, q122, q42, γ142, γ162⟩ => [(0, .slice (some ⟨b9, o9, none⟩) m cap2), (1, .slice pn mn capn), (6, .pointer (some ⟨γ12 0, 0, none⟩)), (7, .pointer (some ⟨γ142 0, 0, none⟩)), (8, .pointer (some ⟨γ162 0, 0, none⟩)), (20, .slice (some ⟨b9, o9, none⟩) m cap2), (21, .int .i64 ((m : Nat))), (22, .int .i64 ((j22 : Nat))), (30, .agg #[.slice q42 m42 cq42]), (34, .agg #[.slice q122 m122 cq122])]) (fun ⟨Y122, Y42, cq122, cq42, m122, m42, q122, q42, γ142, γ162⟩ => bx (γ162 0) (#[.slice none 0 0]) 24 :: bx (γ142 0) (#[.slice none 0 0]) 24 :: bx (γ12 0) (#[.slice x11.p x11.n x11.cap]) 24 :: (Y122 ++ (Y42 ++ []))) ?_ (fun hmx27 => ?_)
        ·
          rintro ⟨Y122, Y42, cq122, cq42, m122, m42, q122, q42, γ142, γ162⟩ ⟨hO122, hO42, hm122, hm42⟩
          refine any_one 8 _ (by kernel_rfl) rfl ?_
          refine om 1 [(8, .go (owns 1 0 1))] [0, 1, 6, 7, 8, 20, 21, 22, 34] (fun _ => []) (fun _ L => (L.set 1 (bx (γ142 0) (#[.slice q42 m42 cq42]) 24))) (fun _ => []) (fun _ => by kernel_rfl) (fun _ => al0) (fun _ => ?_)
          refine ops_nil ?_
          refine done_any ?_
          exact any_weakP (hmx28 (Y122, Y42, cq122, cq42, m122, m42, q122, q42, γ142, γ162) ⟨hO122, hO42, hm122, hm42⟩) [0, 1, 6, 7, 8, 20, 21, 22, 34] [[bx (γ162 0) (#[.slice none 0 0]) 24], [bx (γ142 0) (#[.slice q42 m42 cq42]) 24], [bx (γ12 0) (#[.slice x11.p x11.n x11.cap]) 24], Y122, Y42] [0, 1, 2, 3, 4] (by kernel_rfl) rfl rfl (by kernel_rfl) rfl rfl
        refine any_cutX (V := (List Ob) × (Nat) × (Nat) × (Option Addr) × (Nat → Nat) × (Nat → Nat)) (fun ⟨Y42, cq42, m42, q42, γ142, γ162⟩ => SlO 40 Y42 q42 m42 cq42 (x11.l.take 33) ∧ m42 ≤ 33) 3 #[true, true, true, true, true, false, true, true, false, false] (fun ⟨Y42, cq42, m42, q42, γ142, γ162⟩ => [(0, .slice (some ⟨b9, o9, none⟩) m cap2), (1, .slice pn mn capn), (6, .pointer (some ⟨γ12 0, 0, none⟩)), (7, .pointer (some ⟨γ142 0, 0, none⟩)), (8, .pointer (some ⟨γ162 0, 0, none⟩)), (20, .slice (some ⟨b9, o9, none⟩) m cap2), (21, .int .i64 ((m : Nat))), (22, .int .i64 ((j22 : Nat))), (30, .agg #[.slice q42 m42 cq42]), (33, .agg #[.slice x18.p x18.n x18.cap])]) (fun ⟨Y42, cq42, m42, q42, γ142, γ162⟩ => bx (γ162 0) (#[.slice none 0 0]) 24 :: bx (γ142 0) (#[.slice none 0 0]) 24 :: bx (γ12 0) (#[.slice x11.p x11.n x11.cap]) 24 :: (Y42 ++ [])) ?_ (fun hmx26 => ?_)
        ·
          rintro ⟨Y42, cq42, m42, q42, γ142, γ162⟩ ⟨hO42, hm42⟩
          refine any_one 5 _ (by kernel_rfl) rfl ?_
          refine ops_call (fun v L' => ∃ q m capq Y, v = .agg #[.slice q m capq] ∧ L' = List.take 3 (bx (γ162 0) (#[.slice none 0 0]) 24 :: bx (γ142 0) (#[.slice none 0 0]) 24 :: bx (γ12 0) (#[.slice x11.p x11.n x11.cap]) 24 :: (Y42 ++ [])) ++ (Y ++ List.drop 3 (bx (γ162 0) (#[.slice none 0 0]) 24 :: bx (γ142 0) (#[.slice none 0 0]) 24 :: bx (γ12 0) (#[.slice x11.p x11.n x11.cap]) 24 :: (Y42 ++ []))) ∧ SlO 40 Y q m capq (x18.l.take 33) ∧ m ≤ 33) (by kernel_rfl) (by kernel_rfl) (by kernel_rfl) (fun args w => Try.call11 args w) (fun w hw => (short_d x18.p x18.n x18.cap x18.l w (hsx18.kept hw.below) hlx18 (by omega) (by omega)).mono fun e w' ⟨q, m, capq, Y, he, hO, hm, hb, hY⟩ => ⟨_, _, he, ⟨q, m, capq, Y, rfl, rfl, hO, hm⟩, hw.join hb hY 3⟩) ?_
          rintro v122 L122 ⟨q122, m122, cq122, Y122, rfl, rfl, hO122, hm122⟩
          refine ops_nil ?_
          refine done_any ?_
          exact any_weakP (hmx27 (Y122, Y42, cq122, cq42, m122, m42, q122, q42, γ142, γ162) ⟨hO122, hO42, hm122, hm42⟩) [0, 1, 6, 7, 8, 20, 21, 22, 30, 34] [[bx (γ162 0) (#[.slice none 0 0]) 24], [bx (γ142 0) (#[.slice none 0 0]) 24], [bx (γ12 0) (#[.slice x11.p x11.n x11.cap]) 24], Y122, Y42] [0, 1, 2, 3, 4] (by kernel_rfl) rfl rfl (by kernel_rfl) rfl rfl
        refine any_cutX (V := (List Ob) × (List Ob) × (Nat) × (Nat) × (Nat) × (Nat) × (Option Addr) × (Option Addr) × (Nat → Nat)) (fun ⟨Y122, Y42, cq122, cq42, m122, m42, q122, q42, γ162⟩ => SlO 40 Y122 q122 m122 cq122 (x18.l.take 33) ∧ SlO 40 Y42 q42 m42 cq42 (x11.l.take 33) ∧ m122 ≤ 33 ∧ m42 ≤ 33) 3 #[true, true, true, true, true, true, false, true, false, false] (fun ⟨Y122, Y42, cq122, cq42, m122, m42, q122, q42, γ162⟩ => [(0, .slice (some ⟨b9, o9, none⟩) m cap2), (1, .slice pn mn capn), (6, .pointer (some ⟨γ12 0, 0, none⟩)), (8, .pointer (some ⟨γ162 0, 0, none⟩)), (20, .slice (some ⟨b9, o9, none⟩) m cap2), (21, .int .i64 ((m : Nat))), (22, .int .i64 ((j22 : Nat))), (30, .agg #[.slice q42 m42 cq42]), (34, .agg #[.slice q122 m122 cq122])]) (fun ⟨Y122, Y42, cq122, cq42, m122, m42, q122, q42, γ162⟩ => bx (γ162 0) (#[.slice none 0 0]) 24 :: bx (γ12 0) (#[.slice x11.p x11.n x11.cap]) 24 :: (Y122 ++ (Y42 ++ []))) ?_ (fun hmx25 => ?_)
        ·
          rintro ⟨Y122, Y42, cq122, cq42, m122, m42, q122, q42, γ162⟩ ⟨hO122, hO42, hm122, hm42⟩
          refine any_one 6 _ (by kernel_rfl) rfl ?_
          refine om 1 [] [0, 1, 6, 8, 20, 21, 22, 30, 34] (fun γ142 => [(7, .pointer (some ⟨γ142 0, 0, none⟩))]) (fun γ142 L => bx (γ142 0) (#[.slice none 0 0]) 24 :: L) (fun γ142 => []) (fun _ => by kernel_rfl) (fun γ142 => al0) (fun γ142 => ?_)
          refine ops_nil ?_
          refine done_any ?_
          exact any_weakP (hmx27 (Y122, Y42, cq122, cq42, m122, m42, q122, q42, γ142, γ162) ⟨hO122, hO42, hm122, hm42⟩) [0, 1, 6, 7, 8, 20, 21, 22, 30, 34] [[bx (γ142 0) (#[.slice none 0 0]) 24], [bx (γ162 0) (#[.slice none 0 0]) 24], [bx (γ12 0) (#[.slice x11.p x11.n x11.cap]) 24], Y122, Y42] [1, 0, 2, 3, 4] (by kernel_rfl) rfl rfl (by kernel_rfl) rfl rfl
        refine any_cutX (V := (List Ob) × (List Ob) × (Nat) × (Nat) × (Nat) × (Nat) × (Option Addr) × (Option Addr) × (Nat → Nat)) (fun ⟨Y122, Y42, cq122, cq42, m122, m42, q122, q42, γ142⟩ => SlO 40 Y122 q122 m122 cq122 (x18.l.take 33) ∧ SlO 40 Y42 q42 m42 cq42 (x11.l.take 33) ∧ m122 ≤ 33 ∧ m42 ≤ 33) 3 #[true, true, true, true, true, true, true, false, false, false] (fun ⟨Y122, Y42, cq122, cq42, m122, m42, q122, q42, γ142⟩ => [(0, .slice (some ⟨b9, o9, none⟩) m cap2), (1, .slice pn mn capn), (6, .pointer (some ⟨γ12 0, 0, none⟩)), (7, .pointer (some ⟨γ142 0, 0, none⟩)), (20, .slice (some ⟨b9, o9, none⟩) m cap2), (21, .int .i64 ((m : Nat))), (22, .int .i64 ((j22 : Nat))), (30, .agg #[.slice q42 m42 cq42]), (34, .agg #[.slice q122 m122 cq122])]) (fun ⟨Y122, Y42, cq122, cq42, m122, m42, q122, q42, γ142⟩ => bx (γ142 0) (#[.slice none 0 0]) 24 :: bx (γ12 0) (#[.slice x11.p x11.n x11.cap]) 24 :: (Y122 ++ (Y42 ++ []))) ?_ (fun hmx24 => ?_)
        ·
          rintro ⟨Y122, Y42, cq122, cq42, m122, m42, q122, q42, γ142⟩ ⟨hO122, hO42, hm122, hm42⟩
          refine any_one 7 _ (by kernel_rfl) rfl ?_
          refine om 1 [] [0, 1, 6, 7, 20, 21, 22, 30, 34] (fun γ162 => [(8, .pointer (some ⟨γ162 0, 0, none⟩))]) (fun γ162 L => bx (γ162 0) (#[.slice none 0 0]) 24 :: L) (fun γ162 => []) (fun _ => by kernel_rfl) (fun γ162 => al0) (fun γ162 => ?_)
          refine ops_nil ?_
          refine done_any ?_
          exact any_weakP (hmx27 (Y122, Y42, cq122, cq42, m122, m42, q122, q42, γ142, γ162) ⟨hO122, hO42, hm122, hm42⟩) [0, 1, 6, 7, 8, 20, 21, 22, 30, 34] [[bx (γ162 0) (#[.slice none 0 0]) 24], [bx (γ142 0) (#[.slice none 0 0]) 24], [bx (γ12 0) (#[.slice x11.p x11.n x11.cap]) 24], Y122, Y42] [0, 1, 2, 3, 4] (by kernel_rfl) rfl rfl (by kernel_rfl) rfl rfl
        refine any_cutX (V := (Nat → Nat) × (Nat → Nat)) (fun ⟨γ142, γ162⟩ => True) 4 #[true, false, true, true, true, false, true, true, false, false] (fun ⟨γ142, γ162⟩ => [(0, .slice (some ⟨b9, o9, none⟩) m cap2), (1, .slice pn mn capn), (6, .pointer (some ⟨γ12 0, 0, none⟩)), (7, .pointer (some ⟨γ142 0, 0, none⟩)), (8, .pointer (some ⟨γ162 0, 0, none⟩)), (20, .slice (some ⟨b9, o9, none⟩) m cap2), (21, .int .i64 ((m : Nat))), (22, .int .i64 ((j22 : Nat))), (29, .agg #[.slice x11.p x11.n x11.cap]), (33, .agg #[.slice x18.p x18.n x18.cap])]) (fun ⟨γ142, γ162⟩ => [bx (γ162 0) (#[.slice none 0 0]) 24, bx (γ142 0) (#[.slice none 0 0]) 24, bx (γ12 0) (#[.slice x11.p x11.n x11.cap]) 24]) ?_ (fun hmx23 => ?_)
        ·
          rintro ⟨γ142, γ162⟩ _
          refine any_one 1 _ (by kernel_rfl) rfl ?_
          refine ops_call (fun v L' => ∃ q m capq Y, v = .agg #[.slice q m capq] ∧ L' = List.take 3 ([bx (γ162 0) (#[.slice none 0 0]) 24, bx (γ142 0) (#[.slice none 0 0]) 24, bx (γ12 0) (#[.slice x11.p x11.n x11.cap]) 24]) ++ (Y ++ List.drop 3 ([bx (γ162 0) (#[.slice none 0 0]) 24, bx (γ142 0) (#[.slice none 0 0]) 24, bx (γ12 0) (#[.slice x11.p x11.n x11.cap]) 24])) ∧ SlO 40 Y q m capq (x11.l.take 33) ∧ m ≤ 33) (by kernel_rfl) (by kernel_rfl) (by kernel_rfl) (fun args w => Try.call11 args w) (fun w hw => (short_d x11.p x11.n x11.cap x11.l w (hsx11.kept hw.below) hlx11 (by omega) (by omega)).mono fun e w' ⟨q, m, capq, Y, he, hO, hm, hb, hY⟩ => ⟨_, _, he, ⟨q, m, capq, Y, rfl, rfl, hO, hm⟩, hw.join hb hY 3⟩) ?_
          rintro v42 L42 ⟨q42, m42, cq42, Y42, rfl, rfl, hO42, hm42⟩
          refine ops_nil ?_
          refine done_any ?_
          exact any_weakP (hmx26 (Y42, cq42, m42, q42, γ142, γ162) ⟨hO42, hm42⟩) [0, 1, 6, 7, 8, 20, 21, 22, 30, 33] [[bx (γ162 0) (#[.slice none 0 0]) 24], [bx (γ142 0) (#[.slice none 0 0]) 24], [bx (γ12 0) (#[.slice x11.p x11.n x11.cap]) 24], Y42] [0, 1, 2, 3] (by kernel_rfl) rfl rfl (by kernel_rfl) rfl rfl
        refine any_cutX (V := (List Ob) × (Nat) × (Nat) × (Option Addr) × (Nat → Nat) × (Nat → Nat)) (fun ⟨Y42, cq42, m42, q42, γ142, γ162⟩ => SlO 40 Y42 q42 m42 cq42 (x11.l.take 33) ∧ m42 ≤ 33) 4 #[true, true, true, true, false, false, true, true, false, false] (fun ⟨Y42, cq42, m42, q42, γ142, γ162⟩ => [(0, .slice (some ⟨b9, o9, none⟩) m cap2), (1, .slice pn mn capn), (6, .pointer (some ⟨γ12 0, 0, none⟩)), (7, .pointer (some ⟨γ142 0, 0, none⟩)), (8, .pointer (some ⟨γ162 0, 0, none⟩)), (20, .slice (some ⟨b9, o9, none⟩) m cap2), (21, .int .i64 ((m : Nat))), (22, .int .i64 ((j22 : Nat))), (30, .agg #[.slice q42 m42 cq42]), (32, .pointer (some ⟨b9, o9 + 0 * 1, none⟩))]) (fun ⟨Y42, cq42, m42, q42, γ142, γ162⟩ => bx (γ162 0) (#[.slice none 0 0]) 24 :: bx (γ142 0) (#[.slice none 0 0]) 24 :: bx (γ12 0) (#[.slice x11.p x11.n x11.cap]) 24 :: (Y42 ++ [])) ?_ (fun hmx22 => ?_)
        ·
          rintro ⟨Y42, cq42, m42, q42, γ142, γ162⟩ ⟨hO42, hm42⟩
          refine any_one 4 _ (by kernel_rfl) rfl ?_
          refine oq 1 [(4, .go (outs b9 (o9 + 0 * 1) [.slice x18.p x18.n x18.cap]))] [0, 1, 6, 7, 8, 20, 21, 22, 30] [(33, .agg #[.slice x18.p x18.n x18.cap])] (cellsP w b9 (o9 + 0 * 1) [.slice x18.p x18.n x18.cap]) (fun _ => by kernel_rfl) (rd_pre (hal.get hx18) _ rfl) ?_
          refine ops_nil ?_
          refine done_any ?_
          exact any_weakP (hmx26 (Y42, cq42, m42, q42, γ142, γ162) ⟨hO42, hm42⟩) [0, 1, 6, 7, 8, 20, 21, 22, 30, 33] [[bx (γ162 0) (#[.slice none 0 0]) 24], [bx (γ142 0) (#[.slice none 0 0]) 24], [bx (γ12 0) (#[.slice x11.p x11.n x11.cap]) 24], Y42] [0, 1, 2, 3] (by kernel_rfl) rfl rfl (by kernel_rfl) rfl rfl
        refine any_cutX (V := (List Ob) × (Nat) × (Nat) × (Option Addr) × (Nat → Nat)) (fun ⟨Y42, cq42, m42, q42, γ162⟩ => SlO 40 Y42 q42 m42 cq42 (x11.l.take 33) ∧ m42 ≤ 33) 4 #[true, true, true, true, true, false, false, true, false, false] (fun ⟨Y42, cq42, m42, q42, γ162⟩ => [(0, .slice (some ⟨b9, o9, none⟩) m cap2), (1, .slice pn mn capn), (6, .pointer (some ⟨γ12 0, 0, none⟩)), (8, .pointer (some ⟨γ162 0, 0, none⟩)), (20, .slice (some ⟨b9, o9, none⟩) m cap2), (21, .int .i64 ((m : Nat))), (22, .int .i64 ((j22 : Nat))), (30, .agg #[.slice q42 m42 cq42]), (33, .agg #[.slice x18.p x18.n x18.cap])]) (fun ⟨Y42, cq42, m42, q42, γ162⟩ => bx (γ162 0) (#[.slice none 0 0]) 24 :: bx (γ12 0) (#[.slice x11.p x11.n x11.cap]) 24 :: (Y42 ++ [])) ?_ (fun hmx21 => ?_)
        ·
          rintro ⟨Y42, cq42, m42, q42, γ162⟩ ⟨hO42, hm42⟩
          refine any_fork [5, 6] (by kernel_rfl) (by simp) (each_cons _ rfl ?_ (each_cons _ rfl ?_ (each_nil)))
          ·
            refine ops_call (fun v L' => ∃ q m capq Y, v = .agg #[.slice q m capq] ∧ L' = List.take 2 (bx (γ162 0) (#[.slice none 0 0]) 24 :: bx (γ12 0) (#[.slice x11.p x11.n x11.cap]) 24 :: (Y42 ++ [])) ++ (Y ++ List.drop 2 (bx (γ162 0) (#[.slice none 0 0]) 24 :: bx (γ12 0) (#[.slice x11.p x11.n x11.cap]) 24 :: (Y42 ++ []))) ∧ SlO 40 Y q m capq (x18.l.take 33) ∧ m ≤ 33) (by kernel_rfl) (by kernel_rfl) (by kernel_rfl) (fun args w => Try.call11 args w) (fun w hw => (short_d x18.p x18.n x18.cap x18.l w (hsx18.kept hw.below) hlx18 (by omega) (by omega)).mono fun e w' ⟨q, m, capq, Y, he, hO, hm, hb, hY⟩ => ⟨_, _, he, ⟨q, m, capq, Y, rfl, rfl, hO, hm⟩, hw.join hb hY 2⟩) ?_
            rintro v122 L122 ⟨q122, m122, cq122, Y122, rfl, rfl, hO122, hm122⟩
            refine ops_nil ?_
            refine done_any ?_
            exact any_weakP (hmx25 (Y122, Y42, cq122, cq42, m122, m42, q122, q42, γ162) ⟨hO122, hO42, hm122, hm42⟩) [0, 1, 6, 8, 20, 21, 22, 30, 34] [[bx (γ162 0) (#[.slice none 0 0]) 24], [bx (γ12 0) (#[.slice x11.p x11.n x11.cap]) 24], Y122, Y42] [0, 1, 2, 3] (by kernel_rfl) rfl rfl (by kernel_rfl) rfl rfl
          ·
            refine om 1 [] [0, 1, 6, 8, 20, 21, 22, 30, 33] (fun γ142 => [(7, .pointer (some ⟨γ142 0, 0, none⟩))]) (fun γ142 L => bx (γ142 0) (#[.slice none 0 0]) 24 :: L) (fun γ142 => []) (fun _ => by kernel_rfl) (fun γ142 => al0) (fun γ142 => ?_)
            refine ops_nil ?_
            refine done_any ?_
            exact any_weakP (hmx26 (Y42, cq42, m42, q42, γ142, γ162) ⟨hO42, hm42⟩) [0, 1, 6, 7, 8, 20, 21, 22, 30, 33] [[bx (γ142 0) (#[.slice none 0 0]) 24], [bx (γ162 0) (#[.slice none 0 0]) 24], [bx (γ12 0) (#[.slice x11.p x11.n x11.cap]) 24], Y42] [1, 0, 2, 3] (by kernel_rfl) rfl rfl (by kernel_rfl) rfl rfl
        refine any_cutX (V := (List Ob) × (Nat) × (Nat) × (Option Addr) × (Nat → Nat)) (fun ⟨Y42, cq42, m42, q42, γ142⟩ => SlO 40 Y42 q42 m42 cq42 (x11.l.take 33) ∧ m42 ≤ 33) 4 #[true, true, true, true, true, false, true, false, false, false] (fun ⟨Y42, cq42, m42, q42, γ142⟩ => [(0, .slice (some ⟨b9, o9, none⟩) m cap2), (1, .slice pn mn capn), (6, .pointer (some ⟨γ12 0, 0, none⟩)), (7, .pointer (some ⟨γ142 0, 0, none⟩)), (20, .slice (some ⟨b9, o9, none⟩) m cap2), (21, .int .i64 ((m : Nat))), (22, .int .i64 ((j22 : Nat))), (30, .agg #[.slice q42 m42 cq42]), (33, .agg #[.slice x18.p x18.n x18.cap])]) (fun ⟨Y42, cq42, m42, q42, γ142⟩ => bx (γ142 0) (#[.slice none 0 0]) 24 :: bx (γ12 0) (#[.slice x11.p x11.n x11.cap]) 24 :: (Y42 ++ [])) ?_ (fun hmx20 => ?_)
        ·
          rintro ⟨Y42, cq42, m42, q42, γ142⟩ ⟨hO42, hm42⟩
          refine any_fork [5, 7] (by kernel_rfl) (by simp) (each_cons _ rfl ?_ (each_cons _ rfl ?_ (each_nil)))
          ·
            refine ops_call (fun v L' => ∃ q m capq Y, v = .agg #[.slice q m capq] ∧ L' = List.take 2 (bx (γ142 0) (#[.slice none 0 0]) 24 :: bx (γ12 0) (#[.slice x11.p x11.n x11.cap]) 24 :: (Y42 ++ [])) ++ (Y ++ List.drop 2 (bx (γ142 0) (#[.slice none 0 0]) 24 :: bx (γ12 0) (#[.slice x11.p x11.n x11.cap]) 24 :: (Y42 ++ []))) ∧ SlO 40 Y q m capq (x18.l.take 33) ∧ m ≤ 33) (by kernel_rfl) (by kernel_rfl) (by kernel_rfl) (fun args w => Try.call11 args w) (fun w hw => (short_d x18.p x18.n x18.cap x18.l w (hsx18.kept hw.below) hlx18 (by omega) (by omega)).mono fun e w' ⟨q, m, capq, Y, he, hO, hm, hb, hY⟩ => ⟨_, _, he, ⟨q, m, capq, Y, rfl, rfl, hO, hm⟩, hw.join hb hY 2⟩) ?_
            rintro v122 L122 ⟨q122, m122, cq122, Y122, rfl, rfl, hO122, hm122⟩
            refine ops_nil ?_
            refine done_any ?_
            exact any_weakP (hmx24 (Y122, Y42, cq122, cq42, m122, m42, q122, q42, γ142) ⟨hO122, hO42, hm122, hm42⟩) [0, 1, 6, 7, 20, 21, 22, 30, 34] [[bx (γ142 0) (#[.slice none 0 0]) 24], [bx (γ12 0) (#[.slice x11.p x11.n x11.cap]) 24], Y122, Y42] [0, 1, 2, 3] (by kernel_rfl) rfl rfl (by kernel_rfl) rfl rfl
          ·
            refine om 1 [] [0, 1, 6, 7, 20, 21, 22, 30, 33] (fun γ162 => [(8, .pointer (some ⟨γ162 0, 0, none⟩))]) (fun γ162 L => bx (γ162 0) (#[.slice none 0 0]) 24 :: L) (fun γ162 => []) (fun _ => by kernel_rfl) (fun γ162 => al0) (fun γ162 => ?_)
            refine ops_nil ?_
            refine done_any ?_
            exact any_weakP (hmx26 (Y42, cq42, m42, q42, γ142, γ162) ⟨hO42, hm42⟩) [0, 1, 6, 7, 8, 20, 21, 22, 30, 33] [[bx (γ162 0) (#[.slice none 0 0]) 24], [bx (γ142 0) (#[.slice none 0 0]) 24], [bx (γ12 0) (#[.slice x11.p x11.n x11.cap]) 24], Y42] [0, 1, 2, 3] (by kernel_rfl) rfl rfl (by kernel_rfl) rfl rfl
        refine any_cutX (V := (List Ob) × (List Ob) × (Nat) × (Nat) × (Nat) × (Nat) × (Option Addr) × (Option Addr)) (fun ⟨Y122, Y42, cq122, cq42, m122, m42, q122, q42⟩ => SlO 40 Y122 q122 m122 cq122 (x18.l.take 33) ∧ SlO 40 Y42 q42 m42 cq42 (x11.l.take 33) ∧ m122 ≤ 33 ∧ m42 ≤ 33) 4 #[true, true, true, true, true, true, false, false, false, false] (fun ⟨Y122, Y42, cq122, cq42, m122, m42, q122, q42⟩ => [(0, .slice (some ⟨b9, o9, none⟩) m cap2), (1, .slice pn mn capn), (6, .pointer (some ⟨γ12 0, 0, none⟩)), (20, .slice (some ⟨b9, o9, none⟩) m cap2), (21, .int .i64 ((m : Nat))), (22, .int .i64 ((j22 : Nat))), (30, .agg #[.slice q42 m42 cq42]), (34, .agg #[.slice q122 m122 cq122])]) (fun ⟨Y122, Y42, cq122, cq42, m122, m42, q122, q42⟩ => bx (γ12 0) (#[.slice x11.p x11.n x11.cap]) 24 :: (Y122 ++ (Y42 ++ []))) ?_ (fun hmx19 => ?_)
        ·
          rintro ⟨Y122, Y42, cq122, cq42, m122, m42, q122, q42⟩ ⟨hO122, hO42, hm122, hm42⟩
          refine any_fork [6, 7] (by kernel_rfl) (by simp) (each_cons _ rfl ?_ (each_cons _ rfl ?_ (each_nil)))
          ·
            refine om 1 [] [0, 1, 6, 20, 21, 22, 30, 34] (fun γ142 => [(7, .pointer (some ⟨γ142 0, 0, none⟩))]) (fun γ142 L => bx (γ142 0) (#[.slice none 0 0]) 24 :: L) (fun γ142 => []) (fun _ => by kernel_rfl) (fun γ142 => al0) (fun γ142 => ?_)
            refine ops_nil ?_
            refine done_any ?_
            exact any_weakP (hmx24 (Y122, Y42, cq122, cq42, m122, m42, q122, q42, γ142) ⟨hO122, hO42, hm122, hm42⟩) [0, 1, 6, 7, 20, 21, 22, 30, 34] [[bx (γ142 0) (#[.slice none 0 0]) 24], [bx (γ12 0) (#[.slice x11.p x11.n x11.cap]) 24], Y122, Y42] [0, 1, 2, 3] (by kernel_rfl) rfl rfl (by kernel_rfl) rfl rfl
          ·
            refine om 1 [] [0, 1, 6, 20, 21, 22, 30, 34] (fun γ162 => [(8, .pointer (some ⟨γ162 0, 0, none⟩))]) (fun γ162 L => bx (γ162 0) (#[.slice none 0 0]) 24 :: L) (fun γ162 => []) (fun _ => by kernel_rfl) (fun γ162 => al0) (fun γ162 => ?_)
            refine ops_nil ?_
            refine done_any ?_
            exact any_weakP (hmx25 (Y122, Y42, cq122, cq42, m122, m42, q122, q42, γ162) ⟨hO122, hO42, hm122, hm42⟩) [0, 1, 6, 8, 20, 21, 22, 30, 34] [[bx (γ162 0) (#[.slice none 0 0]) 24], [bx (γ12 0) (#[.slice x11.p x11.n x11.cap]) 24], Y122, Y42] [0, 1, 2, 3] (by kernel_rfl) rfl rfl (by kernel_rfl) rfl rfl
        refine any_cutX (V := (Nat → Nat) × (Nat → Nat)) (fun ⟨γ142, γ162⟩ => True) 5 #[false, false, true, true, true, false, true, true, false, false] (fun ⟨γ142, γ162⟩ => [(0, .slice (some ⟨b9, o9, none⟩) m cap2), (1, .slice pn mn capn), (6, .pointer (some ⟨γ12 0, 0, none⟩)), (7, .pointer (some ⟨γ142 0, 0, none⟩)), (8, .pointer (some ⟨γ162 0, 0, none⟩)), (20, .slice (some ⟨b9, o9, none⟩) m cap2), (21, .int .i64 ((m : Nat))), (22, .int .i64 ((j22 : Nat))), (33, .agg #[.slice x18.p x18.n x18.cap])]) (fun ⟨γ142, γ162⟩ => [bx (γ162 0) (#[.slice none 0 0]) 24, bx (γ142 0) (#[.slice none 0 0]) 24, bx (γ12 0) (#[.slice x11.p x11.n x11.cap]) 24]) ?_ (fun hmx18 => ?_)
        ·
          rintro ⟨γ142, γ162⟩ _
          refine any_one 0 _ (by kernel_rfl) rfl ?_
          refine oq 1 [(0, .go (owns 2 0 1))] [0, 1, 6, 7, 8, 20, 21, 22, 33] [(29, .agg #[.slice x11.p x11.n x11.cap])] ([]) (fun _ => by kernel_rfl) al0 ?_
          refine ops_nil ?_
          refine done_any ?_
          exact any_weakP (hmx23 (γ142, γ162) trivial) [0, 1, 6, 7, 8, 20, 21, 22, 29, 33] [[bx (γ162 0) (#[.slice none 0 0]) 24], [bx (γ142 0) (#[.slice none 0 0]) 24], [bx (γ12 0) (#[.slice x11.p x11.n x11.cap]) 24]] [0, 1, 2] (by kernel_rfl) rfl rfl (by kernel_rfl) rfl rfl
        refine any_cutX (V := (Nat → Nat) × (Nat → Nat)) (fun ⟨γ142, γ162⟩ => True) 5 #[true, false, true, true, false, false, true, true, false, false] (fun ⟨γ142, γ162⟩ => [(0, .slice (some ⟨b9, o9, none⟩) m cap2), (1, .slice pn mn capn), (6, .pointer (some ⟨γ12 0, 0, none⟩)), (7, .pointer (some ⟨γ142 0, 0, none⟩)), (8, .pointer (some ⟨γ162 0, 0, none⟩)), (20, .slice (some ⟨b9, o9, none⟩) m cap2), (21, .int .i64 ((m : Nat))), (22, .int .i64 ((j22 : Nat))), (29, .agg #[.slice x11.p x11.n x11.cap]), (32, .pointer (some ⟨b9, o9 + 0 * 1, none⟩))]) (fun ⟨γ142, γ162⟩ => [bx (γ162 0) (#[.slice none 0 0]) 24, bx (γ142 0) (#[.slice none 0 0]) 24, bx (γ12 0) (#[.slice x11.p x11.n x11.cap]) 24]) ?_ (fun hmx17 => ?_)
        ·
          rintro ⟨γ142, γ162⟩ _
          refine any_fork [1, 4] (by kernel_rfl) (by simp) (each_cons _ rfl ?_ (each_cons _ rfl ?_ (each_nil)))
          ·
            refine ops_call (fun v L' => ∃ q m capq Y, v = .agg #[.slice q m capq] ∧ L' = List.take 3 ([bx (γ162 0) (#[.slice none 0 0]) 24, bx (γ142 0) (#[.slice none 0 0]) 24, bx (γ12 0) (#[.slice x11.p x11.n x11.cap]) 24]) ++ (Y ++ List.drop 3 ([bx (γ162 0) (#[.slice none 0 0]) 24, bx (γ142 0) (#[.slice none 0 0]) 24, bx (γ12 0) (#[.slice x11.p x11.n x11.cap]) 24])) ∧ SlO 40 Y q m capq (x11.l.take 33) ∧ m ≤ 33) (by kernel_rfl) (by kernel_rfl) (by kernel_rfl) (fun args w => Try.call11 args w) (fun w hw => (short_d x11.p x11.n x11.cap x11.l w (hsx11.kept hw.below) hlx11 (by omega) (by omega)).mono fun e w' ⟨q, m, capq, Y, he, hO, hm, hb, hY⟩ => ⟨_, _, he, ⟨q, m, capq, Y, rfl, rfl, hO, hm⟩, hw.join hb hY 3⟩) ?_
            rintro v42 L42 ⟨q42, m42, cq42, Y42, rfl, rfl, hO42, hm42⟩
            refine ops_nil ?_
            refine done_any ?_
            exact any_weakP (hmx22 (Y42, cq42, m42, q42, γ142, γ162) ⟨hO42, hm42⟩) [0, 1, 6, 7, 8, 20, 21, 22, 30, 32] [[bx (γ162 0) (#[.slice none 0 0]) 24], [bx (γ142 0) (#[.slice none 0 0]) 24], [bx (γ12 0) (#[.slice x11.p x11.n x11.cap]) 24], Y42] [0, 1, 2, 3] (by kernel_rfl) rfl rfl (by kernel_rfl) rfl rfl
          ·
            refine oq 1 [(4, .go (outs b9 (o9 + 0 * 1) [.slice x18.p x18.n x18.cap]))] [0, 1, 6, 7, 8, 20, 21, 22, 29] [(33, .agg #[.slice x18.p x18.n x18.cap])] (cellsP w b9 (o9 + 0 * 1) [.slice x18.p x18.n x18.cap]) (fun _ => by kernel_rfl) (rd_pre (hal.get hx18) _ rfl) ?_
            refine ops_nil ?_
            refine done_any ?_
            exact any_weakP (hmx23 (γ142, γ162) trivial) [0, 1, 6, 7, 8, 20, 21, 22, 29, 33] [[bx (γ162 0) (#[.slice none 0 0]) 24], [bx (γ142 0) (#[.slice none 0 0]) 24], [bx (γ12 0) (#[.slice x11.p x11.n x11.cap]) 24]] [0, 1, 2] (by kernel_rfl) rfl rfl (by kernel_rfl) rfl rfl
        refine any_cutX (V := (Nat → Nat)) (fun γ162 => True) 5 #[true, false, true, true, true, false, false, true, false, false] (fun γ162 => [(0, .slice (some ⟨b9, o9, none⟩) m cap2), (1, .slice pn mn capn), (6, .pointer (some ⟨γ12 0, 0, none⟩)), (8, .pointer (some ⟨γ162 0, 0, none⟩)), (20, .slice (some ⟨b9, o9, none⟩) m cap2), (21, .int .i64 ((m : Nat))), (22, .int .i64 ((j22 : Nat))), (29, .agg #[.slice x11.p x11.n x11.cap]), (33, .agg #[.slice x18.p x18.n x18.cap])]) (fun γ162 => [bx (γ162 0) (#[.slice none 0 0]) 24, bx (γ12 0) (#[.slice x11.p x11.n x11.cap]) 24]) ?_ (fun hmx16 => ?_)
        ·
          rintro γ162 _
          refine any_fork [1, 6] (by kernel_rfl) (by simp) (each_cons _ rfl ?_ (each_cons _ rfl ?_ (each_nil)))
          ·
            refine ops_call (fun v L' => ∃ q m capq Y, v = .agg #[.slice q m capq] ∧ L' = List.take 2 ([bx (γ162 0) (#[.slice none 0 0]) 24, bx (γ12 0) (#[.slice x11.p x11.n x11.cap]) 24]) ++ (Y ++ List.drop 2 ([bx (γ162 0) (#[.slice none 0 0]) 24, bx (γ12 0) (#[.slice x11.p x11.n x11.cap]) 24])) ∧ SlO 40 Y q m capq (x11.l.take 33) ∧ m ≤ 33) (by kernel_rfl) (by kernel_rfl) (by kernel_rfl) (fun args w => Try.call11 args w) (fun w hw => (short_d x11.p x11.n x11.cap x11.l w (hsx11.kept hw.below) hlx11 (by omega) (by omega)).mono fun e w' ⟨q, m, capq, Y, he, hO, hm, hb, hY⟩ => ⟨_, _, he, ⟨q, m, capq, Y, rfl, rfl, hO, hm⟩, hw.join hb hY 2⟩) ?_
            rintro v42 L42 ⟨q42, m42, cq42, Y42, rfl, rfl, hO42, hm42⟩
            refine ops_nil ?_
            refine done_any ?_
            exact any_weakP (hmx21 (Y42, cq42, m42, q42, γ162) ⟨hO42, hm42⟩) [0, 1, 6, 8, 20, 21, 22, 30, 33] [[bx (γ162 0) (#[.slice none 0 0]) 24], [bx (γ12 0) (#[.slice x11.p x11.n x11.cap]) 24], Y42] [0, 1, 2] (by kernel_rfl) rfl rfl (by kernel_rfl) rfl rfl
          ·
            refine om 1 [] [0, 1, 6, 8, 20, 21, 22, 29, 33] (fun γ142 => [(7, .pointer (some ⟨γ142 0, 0, none⟩))]) (fun γ142 L => bx (γ142 0) (#[.slice none 0 0]) 24 :: L) (fun γ142 => []) (fun _ => by kernel_rfl) (fun γ142 => al0) (fun γ142 => ?_)
            refine ops_nil ?_
            refine done_any ?_
            exact any_weakP (hmx23 (γ142, γ162) trivial) [0, 1, 6, 7, 8, 20, 21, 22, 29, 33] [[bx (γ142 0) (#[.slice none 0 0]) 24], [bx (γ162 0) (#[.slice none 0 0]) 24], [bx (γ12 0) (#[.slice x11.p x11.n x11.cap]) 24]] [1, 0, 2] (by kernel_rfl) rfl rfl (by kernel_rfl) rfl rfl
        refine any_cutX (V := (Nat → Nat)) (fun γ142 => True) 5 #[true, false, true, true, true, false, true, false, false, false] (fun γ142 => [(0, .slice (some ⟨b9, o9, none⟩) m cap2), (1, .slice pn mn capn), (6, .pointer (some ⟨γ12 0, 0, none⟩)), (7, .pointer (some ⟨γ142 0, 0, none⟩)), (20, .slice (some ⟨b9, o9, none⟩) m cap2), (21, .int .i64 ((m : Nat))), (22, .int .i64 ((j22 : Nat))), (29, .agg #[.slice x11.p x11.n x11.cap]), (33, .agg #[.slice x18.p x18.n x18.cap])]) (fun γ142 => [bx (γ142 0) (#[.slice none 0 0]) 24, bx (γ12 0) (#[.slice x11.p x11.n x11.cap]) 24]) ?_ (fun hmx15 => ?_)
        ·
          rintro γ142 _
          refine any_fork [1, 7] (by kernel_rfl) (by simp) (each_cons _ rfl ?_ (each_cons _ rfl ?_ (each_nil)))
          ·
            refine ops_call (fun v L' => ∃ q m capq Y, v = .agg #[.slice q m capq] ∧ L' = List.take 2 ([bx (γ142 0) (#[.slice none 0 0]) 24, bx (γ12 0) (#[.slice x11.p x11.n x11.cap]) 24]) ++ (Y ++ List.drop 2 ([bx (γ142 0) (#[.slice none 0 0]) 24, bx (γ12 0) (#[.slice x11.p x11.n x11.cap]) 24])) ∧ SlO 40 Y q m capq (x11.l.take 33) ∧ m ≤ 33) (by kernel_rfl) (by kernel_rfl) (by kernel_rfl) (fun args w => Try.call11 args w) (fun w hw => (short_d x11.p x11.n x11.cap x11.l w (hsx11.kept hw.below) hlx11 (by omega) (by omega)).mono fun e w' ⟨q, m, capq, Y, he, hO, hm, hb, hY⟩ => ⟨_, _, he, ⟨q, m, capq, Y, rfl, rfl, hO, hm⟩, hw.join hb hY 2⟩) ?_
            rintro v42 L42 ⟨q42, m42, cq42, Y42, rfl, rfl, hO42, hm42⟩
            refine ops_nil ?_
            refine done_any ?_
            exact any_weakP (hmx20 (Y42, cq42, m42, q42, γ142) ⟨hO42, hm42⟩) [0, 1, 6, 7, 20, 21, 22, 30, 33] [[bx (γ142 0) (#[.slice none 0 0]) 24], [bx (γ12 0) (#[.slice x11.p x11.n x11.cap]) 24], Y42] [0, 1, 2] (by kernel_rfl) rfl rfl (by kernel_rfl) rfl rfl
          ·
            refine om 1 [] [0, 1, 6, 7, 20, 21, 22, 29, 33] (fun γ162 => [(8, .pointer (some ⟨γ162 0, 0, none⟩))]) (fun γ162 L => bx (γ162 0) (#[.slice none 0 0]) 24 :: L) (fun γ162 => []) (fun _ => by kernel_rfl) (fun γ162 => al0) (fun γ162 => ?_)
            refine ops_nil ?_
            refine done_any ?_
            exact any_weakP (hmx23 (γ142, γ162) trivial) [0, 1, 6, 7, 8, 20, 21, 22, 29, 33] [[bx (γ162 0) (#[.slice none 0 0]) 24], [bx (γ142 0) (#[.slice none 0 0]) 24], [bx (γ12 0) (#[.slice x11.p x11.n x11.cap]) 24]] [0, 1, 2] (by kernel_rfl) rfl rfl (by kernel_rfl) rfl rfl
        refine any_cutX (V := (List Ob) × (Nat) × (Nat) × (Option Addr) × (Nat → Nat)) (fun ⟨Y42, cq42, m42, q42, γ162⟩ => SlO 40 Y42 q42 m42 cq42 (x11.l.take 33) ∧ m42 ≤ 33) 5 #[true, true, true, true, false, false, false, true, false, false] (fun ⟨Y42, cq42, m42, q42, γ162⟩ => [(0, .slice (some ⟨b9, o9, none⟩) m cap2), (1, .slice pn mn capn), (6, .pointer (some ⟨γ12 0, 0, none⟩)), (8, .pointer (some ⟨γ162 0, 0, none⟩)), (20, .slice (some ⟨b9, o9, none⟩) m cap2), (21, .int .i64 ((m : Nat))), (22, .int .i64 ((j22 : Nat))), (30, .agg #[.slice q42 m42 cq42]), (32, .pointer (some ⟨b9, o9 + 0 * 1, none⟩))]) (fun ⟨Y42, cq42, m42, q42, γ162⟩ => bx (γ162 0) (#[.slice none 0 0]) 24 :: bx (γ12 0) (#[.slice x11.p x11.n x11.cap]) 24 :: (Y42 ++ [])) ?_ (fun hmx14 => ?_)
        ·
          rintro ⟨Y42, cq42, m42, q42, γ162⟩ ⟨hO42, hm42⟩
          refine any_fork [4, 6] (by kernel_rfl) (by simp) (each_cons _ rfl ?_ (each_cons _ rfl ?_ (each_nil)))
          ·
            refine oq 1 [(4, .go (outs b9 (o9 + 0 * 1) [.slice x18.p x18.n x18.cap]))] [0, 1, 6, 8, 20, 21, 22, 30] [(33, .agg #[.slice x18.p x18.n x18.cap])] (cellsP w b9 (o9 + 0 * 1) [.slice x18.p x18.n x18.cap]) (fun _ => by kernel_rfl) (rd_pre (hal.get hx18) _ rfl) ?_
            refine ops_nil ?_
            refine done_any ?_
            exact any_weakP (hmx21 (Y42, cq42, m42, q42, γ162) ⟨hO42, hm42⟩) [0, 1, 6, 8, 20, 21, 22, 30, 33] [[bx (γ162 0) (#[.slice none 0 0]) 24], [bx (γ12 0) (#[.slice x11.p x11.n x11.cap]) 24], Y42] [0, 1, 2] (by kernel_rfl) rfl rfl (by kernel_rfl) rfl rfl
          ·
            refine om 1 [] [0, 1, 6, 8, 20, 21, 22, 30, 32] (fun γ142 => [(7, .pointer (some ⟨γ142 0, 0, none⟩))]) (fun γ142 L => bx (γ142 0) (#[.slice none 0 0]) 24 :: L) (fun γ142 => []) (fun _ => by kernel_rfl) (fun γ142 => al0) (fun γ142 => ?_)
            refine ops_nil ?_
            refine done_any ?_
            exact any_weakP (hmx22 (Y42, cq42, m42, q42, γ142, γ162) ⟨hO42, hm42⟩) [0, 1, 6, 7, 8, 20, 21, 22, 30, 32] [[bx (γ142 0) (#[.slice none 0 0]) 24], [bx (γ162 0) (#[.slice none 0 0]) 24], [bx (γ12 0) (#[.slice x11.p x11.n x11.cap]) 24], Y42] [1, 0, 2, 3] (by kernel_rfl) rfl rfl (by kernel_rfl) rfl rfl
        refine any_cutX (V := (List Ob) × (Nat) × (Nat) × (Option Addr) × (Nat → Nat)) (fun ⟨Y42, cq42, m42, q42, γ142⟩ => SlO 40 Y42 q42 m42 cq42 (x11.l.take 33) ∧ m42 ≤ 33) 5 #[true, true, true, true, false, false, true, false, false, false] (fun ⟨Y42, cq42, m42, q42, γ142⟩ => [(0, .slice (some ⟨b9, o9, none⟩) m cap2), (1, .slice pn mn capn), (6, .pointer (some ⟨γ12 0, 0, none⟩)), (7, .pointer (some ⟨γ142 0, 0, none⟩)), (20, .slice (some ⟨b9, o9, none⟩) m cap2), (21, .int .i64 ((m : Nat))), (22, .int .i64 ((j22 : Nat))), (30, .agg #[.slice q42 m42 cq42]), (32, .pointer (some ⟨b9, o9 + 0 * 1, none⟩))]) (fun ⟨Y42, cq42, m42, q42, γ142⟩ => bx (γ142 0) (#[.slice none 0 0]) 24 :: bx (γ12 0) (#[.slice x11.p x11.n x11.cap]) 24 :: (Y42 ++ [])) ?_ (fun hmx13 => ?_)
        ·
          rintro ⟨Y42, cq42, m42, q42, γ142⟩ ⟨hO42, hm42⟩
          refine any_fork [4, 7] (by kernel_rfl) (by simp) (each_cons _ rfl ?_ (each_cons _ rfl ?_ (each_nil)))
          ·
            refine oq 1 [(4, .go (outs b9 (o9 + 0 * 1) [.slice x18.p x18.n x18.cap]))] [0, 1, 6, 7, 20, 21, 22, 30] [(33, .agg #[.slice x18.p x18.n x18.cap])] (cellsP w b9 (o9 + 0 * 1) [.slice x18.p x18.n x18.cap]) (fun _ => by kernel_rfl) (rd_pre (hal.get hx18) _ rfl) ?_
            refine ops_nil ?_
            refine done_any ?_
            exact any_weakP (hmx20 (Y42, cq42, m42, q42, γ142) ⟨hO42, hm42⟩) [0, 1, 6, 7, 20, 21, 22, 30, 33] [[bx (γ142 0) (#[.slice none 0 0]) 24], [bx (γ12 0) (#[.slice x11.p x11.n x11.cap]) 24], Y42] [0, 1, 2] (by kernel_rfl) rfl rfl (by kernel_rfl) rfl rfl
          ·
            refine om 1 [] [0, 1, 6, 7, 20, 21, 22, 30, 32] (fun γ162 => [(8, .pointer (some ⟨γ162 0, 0, none⟩))]) (fun γ162 L => bx (γ162 0) (#[.slice none 0 0]) 24 :: L) (fun γ162 => []) (fun _ => by kernel_rfl) (fun γ162 => al0) (fun γ162 => ?_)
            refine ops_nil ?_
            refine done_any ?_
            exact any_weakP (hmx22 (Y42, cq42, m42, q42, γ142, γ162) ⟨hO42, hm42⟩) [0, 1, 6, 7, 8, 20, 21, 22, 30, 32] [[bx (γ162 0) (#[.slice none 0 0]) 24], [bx (γ142 0) (#[.slice none 0 0]) 24], [bx (γ12 0) (#[.slice x11.p x11.n x11.cap]) 24], Y42] [0, 1, 2, 3] (by kernel_rfl) rfl rfl (by kernel_rfl) rfl rfl
        refine any_cutX (V := (List Ob) × (Nat) × (Nat) × (Option Addr)) (fun ⟨Y42, cq42, m42, q42⟩ => SlO 40 Y42 q42 m42 cq42 (x11.l.take 33) ∧ m42 ≤ 33) 5 #[true, true, true, true, true, false, false, false, false, false] (fun ⟨Y42, cq42, m42, q42⟩ => [(0, .slice (some ⟨b9, o9, none⟩) m cap2), (1, .slice pn mn capn), (6, .pointer (some ⟨γ12 0, 0, none⟩)), (20, .slice (some ⟨b9, o9, none⟩) m cap2), (21, .int .i64 ((m : Nat))), (22, .int .i64 ((j22 : Nat))), (30, .agg #[.slice q42 m42 cq42]), (33, .agg #[.slice x18.p x18.n x18.cap])]) (fun ⟨Y42, cq42, m42, q42⟩ => bx (γ12 0) (#[.slice x11.p x11.n x11.cap]) 24 :: (Y42 ++ [])) ?_ (fun hmx12 => ?_)
        ·
          rintro ⟨Y42, cq42, m42, q42⟩ ⟨hO42, hm42⟩
          refine any_fork [5, 6, 7] (by kernel_rfl) (by simp) (each_cons _ rfl ?_ (each_cons _ rfl ?_ (each_cons _ rfl ?_ (each_nil))))
          ·
            refine ops_call (fun v L' => ∃ q m capq Y, v = .agg #[.slice q m capq] ∧ L' = List.take 1 (bx (γ12 0) (#[.slice x11.p x11.n x11.cap]) 24 :: (Y42 ++ [])) ++ (Y ++ List.drop 1 (bx (γ12 0) (#[.slice x11.p x11.n x11.cap]) 24 :: (Y42 ++ []))) ∧ SlO 40 Y q m capq (x18.l.take 33) ∧ m ≤ 33) (by kernel_rfl) (by kernel_rfl) (by kernel_rfl) (fun args w => Try.call11 args w) (fun w hw => (short_d x18.p x18.n x18.cap x18.l w (hsx18.kept hw.below) hlx18 (by omega) (by omega)).mono fun e w' ⟨q, m, capq, Y, he, hO, hm, hb, hY⟩ => ⟨_, _, he, ⟨q, m, capq, Y, rfl, rfl, hO, hm⟩, hw.join hb hY 1⟩) ?_
            rintro v122 L122 ⟨q122, m122, cq122, Y122, rfl, rfl, hO122, hm122⟩
            refine ops_nil ?_
            refine done_any ?_
            exact any_weakP (hmx19 (Y122, Y42, cq122, cq42, m122, m42, q122, q42) ⟨hO122, hO42, hm122, hm42⟩) [0, 1, 6, 20, 21, 22, 30, 34] [[bx (γ12 0) (#[.slice x11.p x11.n x11.cap]) 24], Y122, Y42] [0, 1, 2] (by kernel_rfl) rfl rfl (by kernel_rfl) rfl rfl
          ·
            refine om 1 [] [0, 1, 6, 20, 21, 22, 30, 33] (fun γ142 => [(7, .pointer (some ⟨γ142 0, 0, none⟩))]) (fun γ142 L => bx (γ142 0) (#[.slice none 0 0]) 24 :: L) (fun γ142 => []) (fun _ => by kernel_rfl) (fun γ142 => al0) (fun γ142 => ?_)
            refine ops_nil ?_
            refine done_any ?_
            exact any_weakP (hmx20 (Y42, cq42, m42, q42, γ142) ⟨hO42, hm42⟩) [0, 1, 6, 7, 20, 21, 22, 30, 33] [[bx (γ142 0) (#[.slice none 0 0]) 24], [bx (γ12 0) (#[.slice x11.p x11.n x11.cap]) 24], Y42] [0, 1, 2] (by kernel_rfl) rfl rfl (by kernel_rfl) rfl rfl
          ·
            refine om 1 [] [0, 1, 6, 20, 21, 22, 30, 33] (fun γ162 => [(8, .pointer (some ⟨γ162 0, 0, none⟩))]) (fun γ162 L => bx (γ162 0) (#[.slice none 0 0]) 24 :: L) (fun γ162 => []) (fun _ => by kernel_rfl) (fun γ162 => al0) (fun γ162 => ?_)
            refine ops_nil ?_
            refine done_any ?_
            exact any_weakP (hmx21 (Y42, cq42, m42, q42, γ162) ⟨hO42, hm42⟩) [0, 1, 6, 8, 20, 21, 22, 30, 33] [[bx (γ162 0) (#[.slice none 0 0]) 24], [bx (γ12 0) (#[.slice x11.p x11.n x11.cap]) 24], Y42] [0, 1, 2] (by kernel_rfl) rfl rfl (by kernel_rfl) rfl rfl
        refine any_cutX (V := (Nat → Nat) × (Nat → Nat)) (fun ⟨γ142, γ162⟩ => True) 6 #[false, false, true, true, false, false, true, true, false, false] (fun ⟨γ142, γ162⟩ => [(0, .slice (some ⟨b9, o9, none⟩) m cap2), (1, .slice pn mn capn), (6, .pointer (some ⟨γ12 0, 0, none⟩)), (7, .pointer (some ⟨γ142 0, 0, none⟩)), (8, .pointer (some ⟨γ162 0, 0, none⟩)), (20, .slice (some ⟨b9, o9, none⟩) m cap2), (21, .int .i64 ((m : Nat))), (22, .int .i64 ((j22 : Nat))), (32, .pointer (some ⟨b9, o9 + 0 * 1, none⟩))]) (fun ⟨γ142, γ162⟩ => [bx (γ162 0) (#[.slice none 0 0]) 24, bx (γ142 0) (#[.slice none 0 0]) 24, bx (γ12 0) (#[.slice x11.p x11.n x11.cap]) 24]) ?_ (fun hmx11 => ?_)
        ·
          rintro ⟨γ142, γ162⟩ _
          refine any_fork [0, 4] (by kernel_rfl) (by simp) (each_cons _ rfl ?_ (each_cons _ rfl ?_ (each_nil)))
          ·
            refine oq 1 [(0, .go (owns 2 0 1))] [0, 1, 6, 7, 8, 20, 21, 22, 32] [(29, .agg #[.slice x11.p x11.n x11.cap])] ([]) (fun _ => by kernel_rfl) al0 ?_
            refine ops_nil ?_
            refine done_any ?_
            exact any_weakP (hmx17 (γ142, γ162) trivial) [0, 1, 6, 7, 8, 20, 21, 22, 29, 32] [[bx (γ162 0) (#[.slice none 0 0]) 24], [bx (γ142 0) (#[.slice none 0 0]) 24], [bx (γ12 0) (#[.slice x11.p x11.n x11.cap]) 24]] [0, 1, 2] (by kernel_rfl) rfl rfl (by kernel_rfl) rfl rfl
          ·
            refine oq 1 [(4, .go (outs b9 (o9 + 0 * 1) [.slice x18.p x18.n x18.cap]))] [0, 1, 6, 7, 8, 20, 21, 22] [(33, .agg #[.slice x18.p x18.n x18.cap])] (cellsP w b9 (o9 + 0 * 1) [.slice x18.p x18.n x18.cap]) (fun _ => by kernel_rfl) (rd_pre (hal.get hx18) _ rfl) ?_
            refine ops_nil ?_
            refine done_any ?_
            exact any_weakP (hmx18 (γ142, γ162) trivial) [0, 1, 6, 7, 8, 20, 21, 22, 33] [[bx (γ162 0) (#[.slice none 0 0]) 24], [bx (γ142 0) (#[.slice none 0 0]) 24], [bx (γ12 0) (#[.slice x11.p x11.n x11.cap]) 24]] [0, 1, 2] (by kernel_rfl) rfl rfl (by kernel_rfl) rfl rfl
        refine any_cutX (V := (Nat → Nat)) (fun γ162 => True) 6 #[false, false, true, true, true, false, false, true, false, false] (fun γ162 => [(0, .slice (some ⟨b9, o9, none⟩) m cap2), (1, .slice pn mn capn), (6, .pointer (some ⟨γ12 0, 0, none⟩)), (8, .pointer (some ⟨γ162 0, 0, none⟩)), (20, .slice (some ⟨b9, o9, none⟩) m cap2), (21, .int .i64 ((m : Nat))), (22, .int .i64 ((j22 : Nat))), (33, .agg #[.slice x18.p x18.n x18.cap])]) (fun γ162 => [bx (γ162 0) (#[.slice none 0 0]) 24, bx (γ12 0) (#[.slice x11.p x11.n x11.cap]) 24]) ?_ (fun hmx10 => ?_)
        ·
          rintro γ162 _
          refine any_fork [0, 6] (by kernel_rfl) (by simp) (each_cons _ rfl ?_ (each_cons _ rfl ?_ (each_nil)))
          ·
            refine oq 1 [(0, .go (owns 1 0 1))] [0, 1, 6, 8, 20, 21, 22, 33] [(29, .agg #[.slice x11.p x11.n x11.cap])] ([]) (fun _ => by kernel_rfl) al0 ?_
            refine ops_nil ?_
            refine done_any ?_
            exact any_weakP (hmx16 γ162 trivial) [0, 1, 6, 8, 20, 21, 22, 29, 33] [[bx (γ162 0) (#[.slice none 0 0]) 24], [bx (γ12 0) (#[.slice x11.p x11.n x11.cap]) 24]] [0, 1] (by kernel_rfl) rfl rfl (by kernel_rfl) rfl rfl
          ·
            refine om 1 [] [0, 1, 6, 8, 20, 21, 22, 33] (fun γ142 => [(7, .pointer (some ⟨γ142 0, 0, none⟩))]) (fun γ142 L => bx (γ142 0) (#[.slice none 0 0]) 24 :: L) (fun γ142 => []) (fun _ => by kernel_rfl) (fun γ142 => al0) (fun γ142 => ?_)
            refine ops_nil ?_
            refine done_any ?_
            exact any_weakP (hmx18 (γ142, γ162) trivial) [0, 1, 6, 7, 8, 20, 21, 22, 33] [[bx (γ142 0) (#[.slice none 0 0]) 24], [bx (γ162 0) (#[.slice none 0 0]) 24], [bx (γ12 0) (#[.slice x11.p x11.n x11.cap]) 24]] [1, 0, 2] (by kernel_rfl) rfl rfl (by kernel_rfl) rfl rfl
        refine any_cutX (V := (Nat → Nat)) (fun γ142 => True) 6 #[false, false, true, true, true, false, true, false, false, false] (fun γ142 => [(0, .slice (some ⟨b9, o9, none⟩) m cap2), (1, .slice pn mn capn), (6, .pointer (some ⟨γ12 0, 0, none⟩)), (7, .pointer (some ⟨γ142 0, 0, none⟩)), (20, .slice (some ⟨b9, o9, none⟩) m cap2), (21, .int .i64 ((m : Nat))), (22, .int .i64 ((j22 : Nat))), (33, .agg #[.slice x18.p x18.n x18.cap])]) (fun γ142 => [bx (γ142 0) (#[.slice none 0 0]) 24, bx (γ12 0) (#[.slice x11.p x11.n x11.cap]) 24]) ?_ (fun hmx9 => ?_)
        ·
          rintro γ142 _
          refine any_fork [0, 7] (by kernel_rfl) (by simp) (each_cons _ rfl ?_ (each_cons _ rfl ?_ (each_nil)))
          ·
            refine oq 1 [(0, .go (owns 1 0 1))] [0, 1, 6, 7, 20, 21, 22, 33] [(29, .agg #[.slice x11.p x11.n x11.cap])] ([]) (fun _ => by kernel_rfl) al0 ?_
            refine ops_nil ?_
            refine done_any ?_
            exact any_weakP (hmx15 γ142 trivial) [0, 1, 6, 7, 20, 21, 22, 29, 33] [[bx (γ142 0) (#[.slice none 0 0]) 24], [bx (γ12 0) (#[.slice x11.p x11.n x11.cap]) 24]] [0, 1] (by kernel_rfl) rfl rfl (by kernel_rfl) rfl rfl
          ·
            refine om 1 [] [0, 1, 6, 7, 20, 21, 22, 33] (fun γ162 => [(8, .pointer (some ⟨γ162 0, 0, none⟩))]) (fun γ162 L => bx (γ162 0) (#[.slice none 0 0]) 24 :: L) (fun γ162 => []) (fun _ => by kernel_rfl) (fun γ162 => al0) (fun γ162 => ?_)
            refine ops_nil ?_
            refine done_any ?_
            exact any_weakP (hmx18 (γ142, γ162) trivial) [0, 1, 6, 7, 8, 20, 21, 22, 33] [[bx (γ162 0) (#[.slice none 0 0]) 24], [bx (γ142 0) (#[.slice none 0 0]) 24], [bx (γ12 0) (#[.slice x11.p x11.n x11.cap]) 24]] [0, 1, 2] (by kernel_rfl) rfl rfl (by kernel_rfl) rfl rfl
        refine any_cutX (V := (Nat → Nat)) (fun γ162 => True) 6 #[true, false, true, true, false, false, false, true, false, false] (fun γ162 => [(0, .slice (some ⟨b9, o9, none⟩) m cap2), (1, .slice pn mn capn), (6, .pointer (some ⟨γ12 0, 0, none⟩)), (8, .pointer (some ⟨γ162 0, 0, none⟩)), (20, .slice (some ⟨b9, o9, none⟩) m cap2), (21, .int .i64 ((m : Nat))), (22, .int .i64 ((j22 : Nat))), (29, .agg #[.slice x11.p x11.n x11.cap]), (32, .pointer (some ⟨b9, o9 + 0 * 1, none⟩))]) (fun γ162 => [bx (γ162 0) (#[.slice none 0 0]) 24, bx (γ12 0) (#[.slice x11.p x11.n x11.cap]) 24]) ?_ (fun hmx8 => ?_)
        ·
          rintro γ162 _
          refine any_fork [1, 4, 6] (by kernel_rfl) (by simp) (each_cons _ rfl ?_ (each_cons _ rfl ?_ (each_cons _ rfl ?_ (each_nil))))
          ·
            refine ops_call (fun v L' => ∃ q m capq Y, v = .agg #[.slice q m capq] ∧ L' = List.take 2 ([bx (γ162 0) (#[.slice none 0 0]) 24, bx (γ12 0) (#[.slice x11.p x11.n x11.cap]) 24]) ++ (Y ++ List.drop 2 ([bx (γ162 0) (#[.slice none 0 0]) 24, bx (γ12 0) (#[.slice x11.p x11.n x11.cap]) 24])) ∧ SlO 40 Y q m capq (x11.l.take 33) ∧ m ≤ 33) (by kernel_rfl) (by kernel_rfl) (by kernel_rfl) (fun args w => Try.call11 args w) (fun w hw => (short_d x11.p x11.n x11.cap x11.l w (hsx11.kept hw.below) hlx11 (by omega) (by omega)).mono fun e w' ⟨q, m, capq, Y, he, hO, hm, hb, hY⟩ => ⟨_, _, he, ⟨q, m, capq, Y, rfl, rfl, hO, hm⟩, hw.join hb hY 2⟩) ?_
            rintro v42 L42 ⟨q42, m42, cq42, Y42, rfl, rfl, hO42, hm42⟩
            refine ops_nil ?_
            refine done_any ?_
            exact any_weakP (hmx14 (Y42, cq42, m42, q42, γ162) ⟨hO42, hm42⟩) [0, 1, 6, 8, 20, 21, 22, 30, 32] [[bx (γ162 0) (#[.slice none 0 0]) 24], [bx (γ12 0) (#[.slice x11.p x11.n x11.cap]) 24], Y42] [0, 1, 2] (by kernel_rfl) rfl rfl (by kernel_rfl) rfl rfl
          ·
            refine oq 1 [(4, .go (outs b9 (o9 + 0 * 1) [.slice x18.p x18.n x18.cap]))] [0, 1, 6, 8, 20, 21, 22, 29] [(33, .agg #[.slice x18.p x18.n x18.cap])] (cellsP w b9 (o9 + 0 * 1) [.slice x18.p x18.n x18.cap]) (fun _ => by kernel_rfl) (rd_pre (hal.get hx18) _ rfl) ?_
            refine ops_nil ?_
            refine done_any ?_
            exact any_weakP (hmx16 γ162 trivial) [0, 1, 6, 8, 20, 21, 22, 29, 33] [[bx (γ162 0) (#[.slice none 0 0]) 24], [bx (γ12 0) (#[.slice x11.p x11.n x11.cap]) 24]] [0, 1] (by kernel_rfl) rfl rfl (by kernel_rfl) rfl rfl
          ·
            refine om 1 [] [0, 1, 6, 8, 20, 21, 22, 29, 32] (fun γ142 => [(7, .pointer (some ⟨γ142 0, 0, none⟩))]) (fun γ142 L => bx (γ142 0) (#[.slice none 0 0]) 24 :: L) (fun γ142 => []) (fun _ => by kernel_rfl) (fun γ142 => al0) (fun γ142 => ?_)
            refine ops_nil ?_
            refine done_any ?_
            exact any_weakP (hmx17 (γ142, γ162) trivial) [0, 1, 6, 7, 8, 20, 21, 22, 29, 32] [[bx (γ142 0) (#[.slice none 0 0]) 24], [bx (γ162 0) (#[.slice none 0 0]) 24], [bx (γ12 0) (#[.slice x11.p x11.n x11.cap]) 24]] [1, 0, 2] (by kernel_rfl) rfl rfl (by kernel_rfl) rfl rfl
        refine any_cutX (V := (Nat → Nat)) (fun γ142 => True) 6 #[true, false, true, true, false, false, true, false, false, false] (fun γ142 => [(0, .slice (some ⟨b9, o9, none⟩) m cap2), (1, .slice pn mn capn), (6, .pointer (some ⟨γ12 0, 0, none⟩)), (7, .pointer (some ⟨γ142 0, 0, none⟩)), (20, .slice (some ⟨b9, o9, none⟩) m cap2), (21, .int .i64 ((m : Nat))), (22, .int .i64 ((j22 : Nat))), (29, .agg #[.slice x11.p x11.n x11.cap]), (32, .pointer (some ⟨b9, o9 + 0 * 1, none⟩))]) (fun γ142 => [bx (γ142 0) (#[.slice none 0 0]) 24, bx (γ12 0) (#[.slice x11.p x11.n x11.cap]) 24]) ?_ (fun hmx7 => ?_)
        ·
          rintro γ142 _
          refine any_fork [1, 4, 7] (by kernel_rfl) (by simp) (each_cons _ rfl ?_ (each_cons _ rfl ?_ (each_cons _ rfl ?_ (each_nil))))
          ·
            refine ops_call (fun v L' => ∃ q m capq Y, v = .agg #[.slice q m capq] ∧ L' = List.take 2 ([bx (γ142 0) (#[.slice none 0 0]) 24, bx (γ12 0) (#[.slice x11.p x11.n x11.cap]) 24]) ++ (Y ++ List.drop 2 ([bx (γ142 0) (#[.slice none 0 0]) 24, bx (γ12 0) (#[.slice x11.p x11.n x11.cap]) 24])) ∧ SlO 40 Y q m capq (x11.l.take 33) ∧ m ≤ 33) (by kernel_rfl) (by kernel_rfl) (by kernel_rfl) (fun args w => Try.call11 args w) (fun w hw => (short_d x11.p x11.n x11.cap x11.l w (hsx11.kept hw.below) hlx11 (by omega) (by omega)).mono fun e w' ⟨q, m, capq, Y, he, hO, hm, hb, hY⟩ => ⟨_, _, he, ⟨q, m, capq, Y, rfl, rfl, hO, hm⟩, hw.join hb hY 2⟩) ?_
            rintro v42 L42 ⟨q42, m42, cq42, Y42, rfl, rfl, hO42, hm42⟩
            refine ops_nil ?_
            refine done_any ?_
            exact any_weakP (hmx13 (Y42, cq42, m42, q42, γ142) ⟨hO42, hm42⟩) [0, 1, 6, 7, 20, 21, 22, 30, 32] [[bx (γ142 0) (#[.slice none 0 0]) 24], [bx (γ12 0) (#[.slice x11.p x11.n x11.cap]) 24], Y42] [0, 1, 2] (by kernel_rfl) rfl rfl (by kernel_rfl) rfl rfl
          ·
            refine oq 1 [(4, .go (outs b9 (o9 + 0 * 1) [.slice x18.p x18.n x18.cap]))] [0, 1, 6, 7, 20, 21, 22, 29] [(33, .agg #[.slice x18.p x18.n x18.cap])] (cellsP w b9 (o9 + 0 * 1) [.slice x18.p x18.n x18.cap]) (fun _ => by kernel_rfl) (rd_pre (hal.get hx18) _ rfl) ?_
            refine ops_nil ?_
            refine done_any ?_
            exact any_weakP (hmx15 γ142 trivial) [0, 1, 6, 7, 20, 21, 22, 29, 33] [[bx (γ142 0) (#[.slice none 0 0]) 24], [bx (γ12 0) (#[.slice x11.p x11.n x11.cap]) 24]] [0, 1] (by kernel_rfl) rfl rfl (by kernel_rfl) rfl rfl
          ·
            refine om 1 [] [0, 1, 6, 7, 20, 21, 22, 29, 32] (fun γ162 => [(8, .pointer (some ⟨γ162 0, 0, none⟩))]) (fun γ162 L => bx (γ162 0) (#[.slice none 0 0]) 24 :: L) (fun γ162 => []) (fun _ => by kernel_rfl) (fun γ162 => al0) (fun γ162 => ?_)
            refine ops_nil ?_
            refine done_any ?_
            exact any_weakP (hmx17 (γ142, γ162) trivial) [0, 1, 6, 7, 8, 20, 21, 22, 29, 32] [[bx (γ162 0) (#[.slice none 0 0]) 24], [bx (γ142 0) (#[.slice none 0 0]) 24], [bx (γ12 0) (#[.slice x11.p x11.n x11.cap]) 24]] [0, 1, 2] (by kernel_rfl) rfl rfl (by kernel_rfl) rfl rfl
        refine any_cutX (V := Unit) (fun _ => True) 6 #[true, false, true, true, true, false, false, false, false, false] (fun _ => [(0, .slice (some ⟨b9, o9, none⟩) m cap2), (1, .slice pn mn capn), (6, .pointer (some ⟨γ12 0, 0, none⟩)), (20, .slice (some ⟨b9, o9, none⟩) m cap2), (21, .int .i64 ((m : Nat))), (22, .int .i64 ((j22 : Nat))), (29, .agg #[.slice x11.p x11.n x11.cap]), (33, .agg #[.slice x18.p x18.n x18.cap])]) (fun _ => [bx (γ12 0) (#[.slice x11.p x11.n x11.cap]) 24]) ?_ (fun hmx6 => ?_)
        ·
          rintro _ _
          refine any_fork [1, 6, 7] (by kernel_rfl) (by simp) (each_cons _ rfl ?_ (each_cons _ rfl ?_ (each_cons _ rfl ?_ (each_nil))))
          ·
            refine ops_call (fun v L' => ∃ q m capq Y, v = .agg #[.slice q m capq] ∧ L' = List.take 1 ([bx (γ12 0) (#[.slice x11.p x11.n x11.cap]) 24]) ++ (Y ++ List.drop 1 ([bx (γ12 0) (#[.slice x11.p x11.n x11.cap]) 24])) ∧ SlO 40 Y q m capq (x11.l.take 33) ∧ m ≤ 33) (by kernel_rfl) (by kernel_rfl) (by kernel_rfl) (fun args w => Try.call11 args w) (fun w hw => (short_d x11.p x11.n x11.cap x11.l w (hsx11.kept hw.below) hlx11 (by omega) (by omega)).mono fun e w' ⟨q, m, capq, Y, he, hO, hm, hb, hY⟩ => ⟨_, _, he, ⟨q, m, capq, Y, rfl, rfl, hO, hm⟩, hw.join hb hY 1⟩) ?_
            rintro v42 L42 ⟨q42, m42, cq42, Y42, rfl, rfl, hO42, hm42⟩
            refine ops_nil ?_
            refine done_any ?_
            exact any_weakP (hmx12 (Y42, cq42, m42, q42) ⟨hO42, hm42⟩) [0, 1, 6, 20, 21, 22, 30, 33] [[bx (γ12 0) (#[.slice x11.p x11.n x11.cap]) 24], Y42] [0, 1] (by kernel_rfl) rfl rfl (by kernel_rfl) rfl rfl
          ·
            refine om 1 [] [0, 1, 6, 20, 21, 22, 29, 33] (fun γ142 => [(7, .pointer (some ⟨γ142 0, 0, none⟩))]) (fun γ142 L => bx (γ142 0) (#[.slice none 0 0]) 24 :: L) (fun γ142 => []) (fun _ => by kernel_rfl) (fun γ142 => al0) (fun γ142 => ?_)
            refine ops_nil ?_
            refine done_any ?_
            exact any_weakP (hmx15 γ142 trivial) [0, 1, 6, 7, 20, 21, 22, 29, 33] [[bx (γ142 0) (#[.slice none 0 0]) 24], [bx (γ12 0) (#[.slice x11.p x11.n x11.cap]) 24]] [0, 1] (by kernel_rfl) rfl rfl (by kernel_rfl) rfl rfl
          ·
            refine om 1 [] [0, 1, 6, 20, 21, 22, 29, 33] (fun γ162 => [(8, .pointer (some ⟨γ162 0, 0, none⟩))]) (fun γ162 L => bx (γ162 0) (#[.slice none 0 0]) 24 :: L) (fun γ162 => []) (fun _ => by kernel_rfl) (fun γ162 => al0) (fun γ162 => ?_)
            refine ops_nil ?_
            refine done_any ?_
            exact any_weakP (hmx16 γ162 trivial) [0, 1, 6, 8, 20, 21, 22, 29, 33] [[bx (γ162 0) (#[.slice none 0 0]) 24], [bx (γ12 0) (#[.slice x11.p x11.n x11.cap]) 24]] [0, 1] (by kernel_rfl) rfl rfl (by kernel_rfl) rfl rfl
        refine any_cutX (V := (List Ob) × (Nat) × (Nat) × (Option Addr)) (fun ⟨Y42, cq42, m42, q42⟩ => SlO 40 Y42 q42 m42 cq42 (x11.l.take 33) ∧ m42 ≤ 33) 6 #[true, true, true, true, false, false, false, false, false, false] (fun ⟨Y42, cq42, m42, q42⟩ => [(0, .slice (some ⟨b9, o9, none⟩) m cap2), (1, .slice pn mn capn), (6, .pointer (some ⟨γ12 0, 0, none⟩)), (20, .slice (some ⟨b9, o9, none⟩) m cap2), (21, .int .i64 ((m : Nat))), (22, .int .i64 ((j22 : Nat))), (30, .agg #[.slice q42 m42 cq42]), (32, .pointer (some ⟨b9, o9 + 0 * 1, none⟩))]) (fun ⟨Y42, cq42, m42, q42⟩ => bx (γ12 0) (#[.slice x11.p x11.n x11.cap]) 24 :: (Y42 ++ [])) ?_ (fun hmx5 => ?_)
        ·
          rintro ⟨Y42, cq42, m42, q42⟩ ⟨hO42, hm42⟩
          refine any_fork [4, 6, 7] (by kernel_rfl) (by simp) (each_cons _ rfl ?_ (each_cons _ rfl ?_ (each_cons _ rfl ?_ (each_nil))))
          ·
            refine oq 1 [(4, .go (outs b9 (o9 + 0 * 1) [.slice x18.p x18.n x18.cap]))] [0, 1, 6, 20, 21, 22, 30] [(33, .agg #[.slice x18.p x18.n x18.cap])] (cellsP w b9 (o9 + 0 * 1) [.slice x18.p x18.n x18.cap]) (fun _ => by kernel_rfl) (rd_pre (hal.get hx18) _ rfl) ?_
            refine ops_nil ?_
            refine done_any ?_
            exact any_weakP (hmx12 (Y42, cq42, m42, q42) ⟨hO42, hm42⟩) [0, 1, 6, 20, 21, 22, 30, 33] [[bx (γ12 0) (#[.slice x11.p x11.n x11.cap]) 24], Y42] [0, 1] (by kernel_rfl) rfl rfl (by kernel_rfl) rfl rfl
          ·
            refine om 1 [] [0, 1, 6, 20, 21, 22, 30, 32] (fun γ142 => [(7, .pointer (some ⟨γ142 0, 0, none⟩))]) (fun γ142 L => bx (γ142 0) (#[.slice none 0 0]) 24 :: L) (fun γ142 => []) (fun _ => by kernel_rfl) (fun γ142 => al0) (fun γ142 => ?_)
            refine ops_nil ?_
            refine done_any ?_
            exact any_weakP (hmx13 (Y42, cq42, m42, q42, γ142) ⟨hO42, hm42⟩) [0, 1, 6, 7, 20, 21, 22, 30, 32] [[bx (γ142 0) (#[.slice none 0 0]) 24], [bx (γ12 0) (#[.slice x11.p x11.n x11.cap]) 24], Y42] [0, 1, 2] (by kernel_rfl) rfl rfl (by kernel_rfl) rfl rfl
          ·
            refine om 1 [] [0, 1, 6, 20, 21, 22, 30, 32] (fun γ162 => [(8, .pointer (some ⟨γ162 0, 0, none⟩))]) (fun γ162 L => bx (γ162 0) (#[.slice none 0 0]) 24 :: L) (fun γ162 => []) (fun _ => by kernel_rfl) (fun γ162 => al0) (fun γ162 => ?_)
            refine ops_nil ?_
            refine done_any ?_
            exact any_weakP (hmx14 (Y42, cq42, m42, q42, γ162) ⟨hO42, hm42⟩) [0, 1, 6, 8, 20, 21, 22, 30, 32] [[bx (γ162 0) (#[.slice none 0 0]) 24], [bx (γ12 0) (#[.slice x11.p x11.n x11.cap]) 24], Y42] [0, 1, 2] (by kernel_rfl) rfl rfl (by kernel_rfl) rfl rfl
        refine any_cutX (V := (Nat → Nat)) (fun γ162 => True) 7 #[false, false, true, true, false, false, false, true, false, false] (fun γ162 => [(0, .slice (some ⟨b9, o9, none⟩) m cap2), (1, .slice pn mn capn), (6, .pointer (some ⟨γ12 0, 0, none⟩)), (8, .pointer (some ⟨γ162 0, 0, none⟩)), (20, .slice (some ⟨b9, o9, none⟩) m cap2), (21, .int .i64 ((m : Nat))), (22, .int .i64 ((j22 : Nat))), (32, .pointer (some ⟨b9, o9 + 0 * 1, none⟩))]) (fun γ162 => [bx (γ162 0) (#[.slice none 0 0]) 24, bx (γ12 0) (#[.slice x11.p x11.n x11.cap]) 24]) ?_ (fun hmx4 => ?_)
        ·
          rintro γ162 _
          refine any_fork [0, 4, 6] (by kernel_rfl) (by simp) (each_cons _ rfl ?_ (each_cons _ rfl ?_ (each_cons _ rfl ?_ (each_nil))))
          ·
            refine oq 1 [(0, .go (owns 1 0 1))] [0, 1, 6, 8, 20, 21, 22, 32] [(29, .agg #[.slice x11.p x11.n x11.cap])] ([]) (fun _ => by kernel_rfl) al0 ?_
            refine ops_nil ?_
            refine done_any ?_
            exact any_weakP (hmx8 γ162 trivial) [0, 1, 6, 8, 20, 21, 22, 29, 32] [[bx (γ162 0) (#[.slice none 0 0]) 24], [bx (γ12 0) (#[.slice x11.p x11.n x11.cap]) 24]] [0, 1] (by kernel_rfl) rfl rfl (by kernel_rfl) rfl rfl
          ·
            refine oq 1 [(4, .go (outs b9 (o9 + 0 * 1) [.slice x18.p x18.n x18.cap]))] [0, 1, 6, 8, 20, 21, 22] [(33, .agg #[.slice x18.p x18.n x18.cap])] (cellsP w b9 (o9 + 0 * 1) [.slice x18.p x18.n x18.cap]) (fun _ => by kernel_rfl) (rd_pre (hal.get hx18) _ rfl) ?_
            refine ops_nil ?_
            refine done_any ?_
            exact any_weakP (hmx10 γ162 trivial) [0, 1, 6, 8, 20, 21, 22, 33] [[bx (γ162 0) (#[.slice none 0 0]) 24], [bx (γ12 0) (#[.slice x11.p x11.n x11.cap]) 24]] [0, 1] (by kernel_rfl) rfl rfl (by kernel_rfl) rfl rfl
          ·
            refine om 1 [] [0, 1, 6, 8, 20, 21, 22, 32] (fun γ142 => [(7, .pointer (some ⟨γ142 0, 0, none⟩))]) (fun γ142 L => bx (γ142 0) (#[.slice none 0 0]) 24 :: L) (fun γ142 => []) (fun _ => by kernel_rfl) (fun γ142 => al0) (fun γ142 => ?_)
            refine ops_nil ?_
            refine done_any ?_
            exact any_weakP (hmx11 (γ142, γ162) trivial) [0, 1, 6, 7, 8, 20, 21, 22, 32] [[bx (γ142 0) (#[.slice none 0 0]) 24], [bx (γ162 0) (#[.slice none 0 0]) 24], [bx (γ12 0) (#[.slice x11.p x11.n x11.cap]) 24]] [1, 0, 2] (by kernel_rfl) rfl rfl (by kernel_rfl) rfl rfl
        refine any_cutX (V := (Nat → Nat)) (fun γ142 => True) 7 #[false, false, true, true, false, false, true, false, false, false] (fun γ142 => [(0, .slice (some ⟨b9, o9, none⟩) m cap2), (1, .slice pn mn capn), (6, .pointer (some ⟨γ12 0, 0, none⟩)), (7, .pointer (some ⟨γ142 0, 0, none⟩)), (20, .slice (some ⟨b9, o9, none⟩) m cap2), (21, .int .i64 ((m : Nat))), (22, .int .i64 ((j22 : Nat))), (32, .pointer (some ⟨b9, o9 + 0 * 1, none⟩))]) (fun γ142 => [bx (γ142 0) (#[.slice none 0 0]) 24, bx (γ12 0) (#[.slice x11.p x11.n x11.cap]) 24]) ?_ (fun hmx3 => ?_)
        ·
          rintro γ142 _
          refine any_fork [0, 4, 7] (by kernel_rfl) (by simp) (each_cons _ rfl ?_ (each_cons _ rfl ?_ (each_cons _ rfl ?_ (each_nil))))
          ·
            refine oq 1 [(0, .go (owns 1 0 1))] [0, 1, 6, 7, 20, 21, 22, 32] [(29, .agg #[.slice x11.p x11.n x11.cap])] ([]) (fun _ => by kernel_rfl) al0 ?_
            refine ops_nil ?_
            refine done_any ?_
            exact any_weakP (hmx7 γ142 trivial) [0, 1, 6, 7, 20, 21, 22, 29, 32] [[bx (γ142 0) (#[.slice none 0 0]) 24], [bx (γ12 0) (#[.slice x11.p x11.n x11.cap]) 24]] [0, 1] (by kernel_rfl) rfl rfl (by kernel_rfl) rfl rfl
          ·
            refine oq 1 [(4, .go (outs b9 (o9 + 0 * 1) [.slice x18.p x18.n x18.cap]))] [0, 1, 6, 7, 20, 21, 22] [(33, .agg #[.slice x18.p x18.n x18.cap])] (cellsP w b9 (o9 + 0 * 1) [.slice x18.p x18.n x18.cap]) (fun _ => by kernel_rfl) (rd_pre (hal.get hx18) _ rfl) ?_
            refine ops_nil ?_
            refine done_any ?_
            exact any_weakP (hmx9 γ142 trivial) [0, 1, 6, 7, 20, 21, 22, 33] [[bx (γ142 0) (#[.slice none 0 0]) 24], [bx (γ12 0) (#[.slice x11.p x11.n x11.cap]) 24]] [0, 1] (by kernel_rfl) rfl rfl (by kernel_rfl) rfl rfl
          ·
            refine om 1 [] [0, 1, 6, 7, 20, 21, 22, 32] (fun γ162 => [(8, .pointer (some ⟨γ162 0, 0, none⟩))]) (fun γ162 L => bx (γ162 0) (#[.slice none 0 0]) 24 :: L) (fun γ162 => []) (fun _ => by kernel_rfl) (fun γ162 => al0) (fun γ162 => ?_)
            refine ops_nil ?_
            refine done_any ?_
            exact any_weakP (hmx11 (γ142, γ162) trivial) [0, 1, 6, 7, 8, 20, 21, 22, 32] [[bx (γ162 0) (#[.slice none 0 0]) 24], [bx (γ142 0) (#[.slice none 0 0]) 24], [bx (γ12 0) (#[.slice x11.p x11.n x11.cap]) 24]] [0, 1, 2] (by kernel_rfl) rfl rfl (by kernel_rfl) rfl rfl
        refine any_cutX (V := Unit) (fun _ => True) 7 #[false, false, true, true, true, false, false, false, false, false] (fun _ => [(0, .slice (some ⟨b9, o9, none⟩) m cap2), (1, .slice pn mn capn), (6, .pointer (some ⟨γ12 0, 0, none⟩)), (20, .slice (some ⟨b9, o9, none⟩) m cap2), (21, .int .i64 ((m : Nat))), (22, .int .i64 ((j22 : Nat))), (33, .agg #[.slice x18.p x18.n x18.cap])]) (fun _ => [bx (γ12 0) (#[.slice x11.p x11.n x11.cap]) 24]) ?_ (fun hmx2 => ?_)
        ·
          rintro _ _
          refine any_fork [0, 6, 7] (by kernel_rfl) (by simp) (each_cons _ rfl ?_ (each_cons _ rfl ?_ (each_cons _ rfl ?_ (each_nil))))
          ·
            refine oq 1 [(0, .go (owns 0 0 1))] [0, 1, 6, 20, 21, 22, 33] [(29, .agg #[.slice x11.p x11.n x11.cap])] ([]) (fun _ => by kernel_rfl) al0 ?_
            refine ops_nil ?_
            refine done_any ?_
            exact any_weakP (hmx6 () trivial) [0, 1, 6, 20, 21, 22, 29, 33] [[bx (γ12 0) (#[.slice x11.p x11.n x11.cap]) 24]] [0] (by kernel_rfl) rfl rfl (by kernel_rfl) rfl rfl
          ·
            refine om 1 [] [0, 1, 6, 20, 21, 22, 33] (fun γ142 => [(7, .pointer (some ⟨γ142 0, 0, none⟩))]) (fun γ142 L => bx (γ142 0) (#[.slice none 0 0]) 24 :: L) (fun γ142 => []) (fun _ => by kernel_rfl) (fun γ142 => al0) (fun γ142 => ?_)
            refine ops_nil ?_
            refine done_any ?_
            exact any_weakP (hmx9 γ142 trivial) [0, 1, 6, 7, 20, 21, 22, 33] [[bx (γ142 0) (#[.slice none 0 0]) 24], [bx (γ12 0) (#[.slice x11.p x11.n x11.cap]) 24]] [0, 1] (by kernel_rfl) rfl rfl (by kernel_rfl) rfl rfl
          ·
            refine om 1 [] [0, 1, 6, 20, 21, 22, 33] (fun γ162 => [(8, .pointer (some ⟨γ162 0, 0, none⟩))]) (fun γ162 L => bx (γ162 0) (#[.slice none 0 0]) 24 :: L) (fun γ162 => []) (fun _ => by kernel_rfl) (fun γ162 => al0) (fun γ162 => ?_)
            refine ops_nil ?_
            refine done_any ?_
            exact any_weakP (hmx10 γ162 trivial) [0, 1, 6, 8, 20, 21, 22, 33] [[bx (γ162 0) (#[.slice none 0 0]) 24], [bx (γ12 0) (#[.slice x11.p x11.n x11.cap]) 24]] [0, 1] (by kernel_rfl) rfl rfl (by kernel_rfl) rfl rfl
        refine any_cutX (V := Unit) (fun _ => True) 7 #[true, false, true, true, false, false, false, false, false, false] (fun _ => [(0, .slice (some ⟨b9, o9, none⟩) m cap2), (1, .slice pn mn capn), (6, .pointer (some ⟨γ12 0, 0, none⟩)), (20, .slice (some ⟨b9, o9, none⟩) m cap2), (21, .int .i64 ((m : Nat))), (22, .int .i64 ((j22 : Nat))), (29, .agg #[.slice x11.p x11.n x11.cap]), (32, .pointer (some ⟨b9, o9 + 0 * 1, none⟩))]) (fun _ => [bx (γ12 0) (#[.slice x11.p x11.n x11.cap]) 24]) ?_ (fun hmx1 => ?_)
        ·
          rintro _ _
          refine any_fork [1, 4, 6, 7] (by kernel_rfl) (by simp) (each_cons _ rfl ?_ (each_cons _ rfl ?_ (each_cons _ rfl ?_ (each_cons _ rfl ?_ (each_nil)))))
          ·
            refine ops_call (fun v L' => ∃ q m capq Y, v = .agg #[.slice q m capq] ∧ L' = List.take 1 ([bx (γ12 0) (#[.slice x11.p x11.n x11.cap]) 24]) ++ (Y ++ List.drop 1 ([bx (γ12 0) (#[.slice x11.p x11.n x11.cap]) 24])) ∧ SlO 40 Y q m capq (x11.l.take 33) ∧ m ≤ 33) (by kernel_rfl) (by kernel_rfl) (by kernel_rfl) (fun args w => Try.call11 args w) (fun w hw => (short_d x11.p x11.n x11.cap x11.l w (hsx11.kept hw.below) hlx11 (by omega) (by omega)).mono fun e w' ⟨q, m, capq, Y, he, hO, hm, hb, hY⟩ => ⟨_, _, he, ⟨q, m, capq, Y, rfl, rfl, hO, hm⟩, hw.join hb hY 1⟩) ?_
            rintro v42 L42 ⟨q42, m42, cq42, Y42, rfl, rfl, hO42, hm42⟩
            refine ops_nil ?_
            refine done_any ?_
            exact any_weakP (hmx5 (Y42, cq42, m42, q42) ⟨hO42, hm42⟩) [0, 1, 6, 20, 21, 22, 30, 32] [[bx (γ12 0) (#[.slice x11.p x11.n x11.cap]) 24], Y42] [0, 1] (by kernel_rfl) rfl rfl (by kernel_rfl) rfl rfl
          ·
            refine oq 1 [(4, .go (outs b9 (o9 + 0 * 1) [.slice x18.p x18.n x18.cap]))] [0, 1, 6, 20, 21, 22, 29] [(33, .agg #[.slice x18.p x18.n x18.cap])] (cellsP w b9 (o9 + 0 * 1) [.slice x18.p x18.n x18.cap]) (fun _ => by kernel_rfl) (rd_pre (hal.get hx18) _ rfl) ?_
            refine ops_nil ?_
            refine done_any ?_
            exact any_weakP (hmx6 () trivial) [0, 1, 6, 20, 21, 22, 29, 33] [[bx (γ12 0) (#[.slice x11.p x11.n x11.cap]) 24]] [0] (by kernel_rfl) rfl rfl (by kernel_rfl) rfl rfl
          ·
            refine om 1 [] [0, 1, 6, 20, 21, 22, 29, 32] (fun γ142 => [(7, .pointer (some ⟨γ142 0, 0, none⟩))]) (fun γ142 L => bx (γ142 0) (#[.slice none 0 0]) 24 :: L) (fun γ142 => []) (fun _ => by kernel_rfl) (fun γ142 => al0) (fun γ142 => ?_)
            refine ops_nil ?_
            refine done_any ?_
            exact any_weakP (hmx7 γ142 trivial) [0, 1, 6, 7, 20, 21, 22, 29, 32] [[bx (γ142 0) (#[.slice none 0 0]) 24], [bx (γ12 0) (#[.slice x11.p x11.n x11.cap]) 24]] [0, 1] (by kernel_rfl) rfl rfl (by kernel_rfl) rfl rfl
          ·
            refine om 1 [] [0, 1, 6, 20, 21, 22, 29, 32] (fun γ162 => [(8, .pointer (some ⟨γ162 0, 0, none⟩))]) (fun γ162 L => bx (γ162 0) (#[.slice none 0 0]) 24 :: L) (fun γ162 => []) (fun _ => by kernel_rfl) (fun γ162 => al0) (fun γ162 => ?_)
            refine ops_nil ?_
            refine done_any ?_
            exact any_weakP (hmx8 γ162 trivial) [0, 1, 6, 8, 20, 21, 22, 29, 32] [[bx (γ162 0) (#[.slice none 0 0]) 24], [bx (γ12 0) (#[.slice x11.p x11.n x11.cap]) 24]] [0, 1] (by kernel_rfl) rfl rfl (by kernel_rfl) rfl rfl
        refine any_fork [0, 4, 6, 7] (by kernel_rfl) (by simp) (each_cons _ rfl ?_ (each_cons _ rfl ?_ (each_cons _ rfl ?_ (each_cons _ rfl ?_ (each_nil)))))
        ·
          refine oq 1 [(0, .go (owns 0 0 1))] [0, 1, 6, 20, 21, 22, 32] [(29, .agg #[.slice x11.p x11.n x11.cap])] ([]) (fun _ => by kernel_rfl) al0 ?_
          refine ops_nil ?_
          refine done_any ?_
          exact any_weakP (hmx1 () trivial) [0, 1, 6, 20, 21, 22, 29, 32] [[bx (γ12 0) (#[.slice x11.p x11.n x11.cap]) 24]] [0] (by kernel_rfl) rfl rfl (by kernel_rfl) rfl rfl
        ·
          refine oq 1 [(4, .go (outs b9 (o9 + 0 * 1) [.slice x18.p x18.n x18.cap]))] [0, 1, 6, 20, 21, 22] [(33, .agg #[.slice x18.p x18.n x18.cap])] (cellsP w b9 (o9 + 0 * 1) [.slice x18.p x18.n x18.cap]) (fun _ => by kernel_rfl) (rd_pre (hal.get hx18) _ rfl) ?_
          refine ops_nil ?_
          refine done_any ?_
          exact any_weakP (hmx2 () trivial) [0, 1, 6, 20, 21, 22, 33] [[bx (γ12 0) (#[.slice x11.p x11.n x11.cap]) 24]] [0] (by kernel_rfl) rfl rfl (by kernel_rfl) rfl rfl
        ·
          refine om 1 [] [0, 1, 6, 20, 21, 22, 32] (fun γ142 => [(7, .pointer (some ⟨γ142 0, 0, none⟩))]) (fun γ142 L => bx (γ142 0) (#[.slice none 0 0]) 24 :: L) (fun γ142 => []) (fun _ => by kernel_rfl) (fun γ142 => al0) (fun γ142 => ?_)
          refine ops_nil ?_
          refine done_any ?_
          exact any_weakP (hmx3 γ142 trivial) [0, 1, 6, 7, 20, 21, 22, 32] [[bx (γ142 0) (#[.slice none 0 0]) 24], [bx (γ12 0) (#[.slice x11.p x11.n x11.cap]) 24]] [0, 1] (by kernel_rfl) rfl rfl (by kernel_rfl) rfl rfl
        ·
          refine om 1 [] [0, 1, 6, 20, 21, 22, 32] (fun γ162 => [(8, .pointer (some ⟨γ162 0, 0, none⟩))]) (fun γ162 L => bx (γ162 0) (#[.slice none 0 0]) 24 :: L) (fun γ162 => []) (fun _ => by kernel_rfl) (fun γ162 => al0) (fun γ162 => ?_)
          refine ops_nil ?_
          refine done_any ?_
          exact any_weakP (hmx4 γ162 trivial) [0, 1, 6, 8, 20, 21, 22, 32] [[bx (γ162 0) (#[.slice none 0 0]) 24], [bx (γ12 0) (#[.slice x11.p x11.n x11.cap]) 24]] [0, 1] (by kernel_rfl) rfl rfl (by kernel_rfl) rfl rfl
      rintro ⟨Y122, Y42, cq122, cq42, m122, m42, q122, q42, γ142, γ162⟩ ⟨hO122, hO42, hm122, hm42⟩
      refine any_nil (by kernel_rfl) ?_
      refine done_seq ?_
      refine at_seq ?_
      refine at_ops ?_
      refine oq 1 [(0, .go (owns 1 0 1))] [0, 1, 6, 7, 8, 20, 21, 22] [(35, .agg #[.slice q42 m42 cq42])] ([]) (fun _ => by kernel_rfl) al0 ?_
      rcases q262 : rightB ((x11.l.take 33)) with _ | _
      ·
        refine ops_callD (.bool false) (by kernel_rfl) (by kernel_rfl) (by kernel_rfl) (fun args w => Try.call13 args w) (fun w hw => by have := rright_d q42 m42 cq42 ((x11.l.take 33)) w (hO42.atN (A := (_ :: _ :: _ :: Y122)) hw) hO42.len (by omega); rw [q262] at this; exact this) ?_
        refine oq 1 [] [0, 1, 6, 7, 8, 20, 21, 22] [(9, .bool false)] ([]) (fun _ => by kernel_rfl) al0 ?_
        refine ops_nil ?_
        refine done_seq ?_
        refine at_seq ?_
        refine at_seq ?_
        refine at_ops ?_
        refine oq 1 [(0, .go (owns 1 0 1))] [0, 1, 6, 7, 8, 9, 20, 21, 22] [(37, .agg #[.slice q42 m42 cq42])] ([]) (fun _ => by kernel_rfl) al0 ?_
        refine ops_callD (.int .i64 260) (by kernel_rfl) (by kernel_rfl) (by kernel_rfl) (fun args w => Try.call16 args w) (fun w hw => by have := check_d q42 m42 cq42 ((x11.l.take 33)) w (hO42.atN (A := (_ :: _ :: _ :: Y122)) hw) hO42.len (by omega); rw [q262] at this; exact this) ?_
        refine oq 1 [] [0, 1, 6, 7, 8, 9, 20, 21, 22] [(10, .int .i64 260)] ([]) (fun _ => by kernel_rfl) al0 ?_
        refine ops_nil ?_
        refine done_seq ?_
        refine at_seq ?_
        refine at_any (by kernel_rfl) ?_
        refine any_tk (f := 15) [0, 1, 2, 3, 4, 5, 6, 7, 8, 9, 10, 11, 12] [(3, .eqs false)] [0, 1, 6, 7, 8, 9, 20, 21, 22] [(51, .bool false)] ([EqRun Try.prog .neq 4 (.tmp 40) (.tmp 41) (.bool false) (.bool false) false]) #[true, true, true, true, true, true, true, true, true, true, true, true, true, false, false, false, false, false, false, false, false, false, false, false, false, false, false, false] (by kernel_rfl) (by kernel_rfl) (al1 (bool_ne false false)) ?_
        refine any_cutX (V := (List Ob) × (Nat) × (Nat) × (Option Addr)) (fun ⟨Y749, cq749, m749, q749⟩ => SlO 40 Y749 q749 m749 cq749 (x11.l.take 33) ∧ m749 ≤ 33) 0 #[true, true, true, true, true, true, true, true, true, true, true, true, true, true, true, true, true, true, true, true, true, true, true, true, true, true, true, true] (fun ⟨Y749, cq749, m749, q749⟩ => [(0, .slice (some ⟨b9, o9, none⟩) m cap2), (1, .slice pn mn capn), (7, .pointer (some ⟨γ142 0, 0, none⟩)), (9, .bool false), (20, .slice (some ⟨b9, o9, none⟩) m cap2), (21, .int .i64 ((m : Nat))), (22, .int .i64 ((j22 : Nat))), (66, .bool false)]) (fun ⟨Y749, cq749, m749, q749⟩ => bx (γ162 0) (#[.slice q122 m122 cq122]) 24 :: bx (γ142 0) (#[.slice q42 m42 cq42]) 24 :: bx (γ12 0) (#[.slice x11.p x11.n x11.cap]) 24 :: (Y749 ++ (Y122 ++ (Y42 ++ [])))) ?_ (fun hmx26 => ?_)
        rotate_left
        ·
          refine any_cutX (V := (List Ob) × (Nat) × (Nat) × (Option Addr)) (fun ⟨Y749, cq749, m749, q749⟩ => SlO 40 Y749 q749 m749 cq749 (x11.l.take 33) ∧ m749 ≤ 33) 3 #[true, true, true, true, true, true, true, true, true, true, true, true, true, true, true, true, true, true, true, true, true, true, true, true, true, false, false, false] (fun ⟨Y749, cq749, m749, q749⟩ => [(0, .slice (some ⟨b9, o9, none⟩) m cap2), (1, .slice pn mn capn), (7, .pointer (some ⟨γ142 0, 0, none⟩)), (9, .bool false), (20, .slice (some ⟨b9, o9, none⟩) m cap2), (21, .int .i64 ((m : Nat))), (22, .int .i64 ((j22 : Nat))), (60, .bool false), (61, .agg #[.slice q42 m42 cq42]), (63, .agg #[.slice q749 m749 cq749])]) (fun ⟨Y749, cq749, m749, q749⟩ => bx (γ162 0) (#[.slice q122 m122 cq122]) 24 :: bx (γ142 0) (#[.slice q42 m42 cq42]) 24 :: bx (γ12 0) (#[.slice x11.p x11.n x11.cap]) 24 :: (Y749 ++ (Y122 ++ (Y42 ++ [])))) ?_ (fun hmx25 => ?_)
          ·
            rintro ⟨Y749, cq749, m749, q749⟩ ⟨hO749, hm749⟩
            refine any_one 25 _ (by kernel_rfl) rfl ?_
            refine ops_callD (.bool true) (by kernel_rfl) (by kernel_rfl) (by kernel_rfl) (fun args w => Try.call17 args w) (fun w hw => by have := same_d q42 m42 cq42 ((x11.l.take 33)) q749 m749 cq749 ((x11.l.take 33)) w (hO42.at ((hw.tailN 3).sub ((List.sublist_append_right Y122 _).trans (List.sublist_append_right Y749 _)))) hO42.len (by omega) (hO749.atN (A := [_, _, _]) hw) hO749.len (by omega); simpa using this) ?_
            refine ops_nil ?_
            refine done_any ?_
            refine any_tk (f := 0) [26, 27] [] [0, 1, 7, 9, 20, 21, 22] [(66, .bool false)] ([]) #[true, true, true, true, true, true, true, true, true, true, true, true, true, true, true, true, true, true, true, true, true, true, true, true, true, true, true, true] (by kernel_rfl) (by kernel_rfl) al0 ?_
            exact any_weakP (hmx26 (Y749, cq749, m749, q749) ⟨hO749, hm749⟩) [0, 1, 7, 9, 20, 21, 22, 66] [[bx (γ162 0) (#[.slice q122 m122 cq122]) 24], [bx (γ142 0) (#[.slice q42 m42 cq42]) 24], [bx (γ12 0) (#[.slice x11.p x11.n x11.cap]) 24], Y749, Y122, Y42] [0, 1, 2, 3, 4, 5] (by kernel_rfl) rfl rfl (by kernel_rfl) rfl rfl
          refine any_cutX (V := (List Ob) × (Nat) × (Nat) × (Option Addr)) (fun ⟨Y749, cq749, m749, q749⟩ => SlO 40 Y749 q749 m749 cq749 (x11.l.take 33) ∧ m749 ≤ 33) 4 #[true, true, true, true, true, true, true, true, true, true, true, true, true, true, true, true, true, true, true, true, true, true, false, true, true, false, false, false] (fun ⟨Y749, cq749, m749, q749⟩ => [(0, .slice (some ⟨b9, o9, none⟩) m cap2), (1, .slice pn mn capn), (7, .pointer (some ⟨γ142 0, 0, none⟩)), (9, .bool false), (20, .slice (some ⟨b9, o9, none⟩) m cap2), (21, .int .i64 ((m : Nat))), (22, .int .i64 ((j22 : Nat))), (60, .bool false), (63, .agg #[.slice q749 m749 cq749])]) (fun ⟨Y749, cq749, m749, q749⟩ => bx (γ162 0) (#[.slice q122 m122 cq122]) 24 :: bx (γ142 0) (#[.slice q42 m42 cq42]) 24 :: bx (γ12 0) (#[.slice x11.p x11.n x11.cap]) 24 :: (Y749 ++ (Y122 ++ (Y42 ++ [])))) ?_ (fun hmx24 => ?_)
          ·
            rintro ⟨Y749, cq749, m749, q749⟩ ⟨hO749, hm749⟩
            refine any_one 22 _ (by kernel_rfl) rfl ?_
            refine oq 1 [(22, .go (owns 1 0 1))] [0, 1, 7, 9, 20, 21, 22, 60, 63] [(61, .agg #[.slice q42 m42 cq42])] ([]) (fun _ => by kernel_rfl) al0 ?_
            refine ops_nil ?_
            refine done_any ?_
            exact any_weakP (hmx25 (Y749, cq749, m749, q749) ⟨hO749, hm749⟩) [0, 1, 7, 9, 20, 21, 22, 60, 61, 63] [[bx (γ162 0) (#[.slice q122 m122 cq122]) 24], [bx (γ142 0) (#[.slice q42 m42 cq42]) 24], [bx (γ12 0) (#[.slice x11.p x11.n x11.cap]) 24], Y749, Y122, Y42] [0, 1, 2, 3, 4, 5] (by kernel_rfl) rfl rfl (by kernel_rfl) rfl rfl
          refine any_cutX (V := Unit) (fun _ => True) 4 #[true, true, true, true, true, true, true, true, true, true, true, true, true, true, true, true, true, true, true, true, true, true, true, true, false, false, false, false] (fun _ => [(0, .slice (some ⟨b9, o9, none⟩) m cap2), (1, .slice pn mn capn), (7, .pointer (some ⟨γ142 0, 0, none⟩)), (9, .bool false), (20, .slice (some ⟨b9, o9, none⟩) m cap2), (21, .int .i64 ((m : Nat))), (22, .int .i64 ((j22 : Nat))), (60, .bool false), (61, .agg #[.slice q42 m42 cq42]), (62, .agg #[.slice x11.p x11.n x11.cap])]) (fun _ => bx (γ162 0) (#[.slice q122 m122 cq122]) 24 :: bx (γ142 0) (#[.slice q42 m42 cq42]) 24 :: bx (γ12 0) (#[.slice x11.p x11.n x11.cap]) 24 :: (Y122 ++ (Y42 ++ []))) ?_ (fun hmx23 => ?_)
          ·
            rintro _ _
            refine any_one 24 _ (by kernel_rfl) rfl ?_
            refine ops_call (fun v L' => ∃ q m capq Y, v = .agg #[.slice q m capq] ∧ L' = List.take 3 (bx (γ162 0) (#[.slice q122 m122 cq122]) 24 :: bx (γ142 0) (#[.slice q42 m42 cq42]) 24 :: bx (γ12 0) (#[.slice x11.p x11.n x11.cap]) 24 :: (Y122 ++ (Y42 ++ []))) ++ (Y ++ List.drop 3 (bx (γ162 0) (#[.slice q122 m122 cq122]) 24 :: bx (γ142 0) (#[.slice q42 m42 cq42]) 24 :: bx (γ12 0) (#[.slice x11.p x11.n x11.cap]) 24 :: (Y122 ++ (Y42 ++ [])))) ∧ SlO 40 Y q m capq (x11.l.take 33) ∧ m ≤ 33) (by kernel_rfl) (by kernel_rfl) (by kernel_rfl) (fun args w => Try.call11 args w) (fun w hw => (short_d x11.p x11.n x11.cap x11.l w (hsx11.kept hw.below) hlx11 (by omega) (by omega)).mono fun e w' ⟨q, m, capq, Y, he, hO, hm, hb, hY⟩ => ⟨_, _, he, ⟨q, m, capq, Y, rfl, rfl, hO, hm⟩, hw.join hb hY 3⟩) ?_
            rintro v749 L749 ⟨q749, m749, cq749, Y749, rfl, rfl, hO749, hm749⟩
            refine ops_nil ?_
            refine done_any ?_
            exact any_weakP (hmx25 (Y749, cq749, m749, q749) ⟨hO749, hm749⟩) [0, 1, 7, 9, 20, 21, 22, 60, 61, 63] [[bx (γ162 0) (#[.slice q122 m122 cq122]) 24], [bx (γ142 0) (#[.slice q42 m42 cq42]) 24], [bx (γ12 0) (#[.slice x11.p x11.n x11.cap]) 24], Y749, Y122, Y42] [0, 1, 2, 3, 4, 5] (by kernel_rfl) rfl rfl (by kernel_rfl) rfl rfl
          refine any_cutX (V := Unit) (fun _ => True) 5 #[true, true, true, true, true, true, true, true, true, true, true, true, true, true, true, true, true, true, true, true, true, true, false, true, false, false, false, false] (fun _ => [(0, .slice (some ⟨b9, o9, none⟩) m cap2), (1, .slice pn mn capn), (7, .pointer (some ⟨γ142 0, 0, none⟩)), (9, .bool false), (20, .slice (some ⟨b9, o9, none⟩) m cap2), (21, .int .i64 ((m : Nat))), (22, .int .i64 ((j22 : Nat))), (60, .bool false), (62, .agg #[.slice x11.p x11.n x11.cap])]) (fun _ => bx (γ162 0) (#[.slice q122 m122 cq122]) 24 :: bx (γ142 0) (#[.slice q42 m42 cq42]) 24 :: bx (γ12 0) (#[.slice x11.p x11.n x11.cap]) 24 :: (Y122 ++ (Y42 ++ []))) ?_ (fun hmx22 => ?_)
          ·
            rintro _ _
            refine any_fork [22, 24] (by kernel_rfl) (by simp) (each_cons _ rfl ?_ (each_cons _ rfl ?_ (each_nil)))
            ·
              refine oq 1 [(22, .go (owns 1 0 1))] [0, 1, 7, 9, 20, 21, 22, 60, 62] [(61, .agg #[.slice q42 m42 cq42])] ([]) (fun _ => by kernel_rfl) al0 ?_
              refine ops_nil ?_
              refine done_any ?_
              exact any_weakP (hmx23 () trivial) [0, 1, 7, 9, 20, 21, 22, 60, 61, 62] [[bx (γ162 0) (#[.slice q122 m122 cq122]) 24], [bx (γ142 0) (#[.slice q42 m42 cq42]) 24], [bx (γ12 0) (#[.slice x11.p x11.n x11.cap]) 24], Y122, Y42] [0, 1, 2, 3, 4] (by kernel_rfl) rfl rfl (by kernel_rfl) rfl rfl
            ·
              refine ops_call (fun v L' => ∃ q m capq Y, v = .agg #[.slice q m capq] ∧ L' = List.take 3 (bx (γ162 0) (#[.slice q122 m122 cq122]) 24 :: bx (γ142 0) (#[.slice q42 m42 cq42]) 24 :: bx (γ12 0) (#[.slice x11.p x11.n x11.cap]) 24 :: (Y122 ++ (Y42 ++ []))) ++ (Y ++ List.drop 3 (bx (γ162 0) (#[.slice q122 m122 cq122]) 24 :: bx (γ142 0) (#[.slice q42 m42 cq42]) 24 :: bx (γ12 0) (#[.slice x11.p x11.n x11.cap]) 24 :: (Y122 ++ (Y42 ++ [])))) ∧ SlO 40 Y q m capq (x11.l.take 33) ∧ m ≤ 33) (by kernel_rfl) (by kernel_rfl) (by kernel_rfl) (fun args w => Try.call11 args w) (fun w hw => (short_d x11.p x11.n x11.cap x11.l w (hsx11.kept hw.below) hlx11 (by omega) (by omega)).mono fun e w' ⟨q, m, capq, Y, he, hO, hm, hb, hY⟩ => ⟨_, _, he, ⟨q, m, capq, Y, rfl, rfl, hO, hm⟩, hw.join hb hY 3⟩) ?_
              rintro v749 L749 ⟨q749, m749, cq749, Y749, rfl, rfl, hO749, hm749⟩
              refine ops_nil ?_
              refine done_any ?_
              exact any_weakP (hmx24 (Y749, cq749, m749, q749) ⟨hO749, hm749⟩) [0, 1, 7, 9, 20, 21, 22, 60, 63] [[bx (γ162 0) (#[.slice q122 m122 cq122]) 24], [bx (γ142 0) (#[.slice q42 m42 cq42]) 24], [bx (γ12 0) (#[.slice x11.p x11.n x11.cap]) 24], Y749, Y122, Y42] [0, 1, 2, 3, 4, 5] (by kernel_rfl) rfl rfl (by kernel_rfl) rfl rfl
          refine any_cutX (V := Unit) (fun _ => True) 5 #[true, true, true, true, true, true, true, true, true, true, true, true, true, true, true, true, true, true, true, true, true, true, true, false, false, false, false, false] (fun _ => [(0, .slice (some ⟨b9, o9, none⟩) m cap2), (1, .slice pn mn capn), (6, .pointer (some ⟨γ12 0, 0, none⟩)), (7, .pointer (some ⟨γ142 0, 0, none⟩)), (9, .bool false), (20, .slice (some ⟨b9, o9, none⟩) m cap2), (21, .int .i64 ((m : Nat))), (22, .int .i64 ((j22 : Nat))), (60, .bool false), (61, .agg #[.slice q42 m42 cq42])]) (fun _ => bx (γ162 0) (#[.slice q122 m122 cq122]) 24 :: bx (γ142 0) (#[.slice q42 m42 cq42]) 24 :: bx (γ12 0) (#[.slice x11.p x11.n x11.cap]) 24 :: (Y122 ++ (Y42 ++ []))) ?_ (fun hmx21 => ?_)
          ·
            rintro _ _
            refine any_one 23 _ (by kernel_rfl) rfl ?_
            refine oq 1 [(23, .go (owns 2 0 1))] [0, 1, 7, 9, 20, 21, 22, 60, 61] [(62, .agg #[.slice x11.p x11.n x11.cap])] ([]) (fun _ => by kernel_rfl) al0 ?_
            refine ops_nil ?_
            refine done_any ?_
            exact any_weakP (hmx23 () trivial) [0, 1, 7, 9, 20, 21, 22, 60, 61, 62] [[bx (γ162 0) (#[.slice q122 m122 cq122]) 24], [bx (γ142 0) (#[.slice q42 m42 cq42]) 24], [bx (γ12 0) (#[.slice x11.p x11.n x11.cap]) 24], Y122, Y42] [0, 1, 2, 3, 4] (by kernel_rfl) rfl rfl (by kernel_rfl) rfl rfl
          refine any_cutX (V := Unit) (fun _ => True) 6 #[true, true, true, true, true, true, true, true, true, true, true, true, true, true, true, true, true, true, true, true, true, true, false, false, false, false, false, false] (fun _ => [(0, .slice (some ⟨b9, o9, none⟩) m cap2), (1, .slice pn mn capn), (6, .pointer (some ⟨γ12 0, 0, none⟩)), (7, .pointer (some ⟨γ142 0, 0, none⟩)), (9, .bool false), (20, .slice (some ⟨b9, o9, none⟩) m cap2), (21, .int .i64 ((m : Nat))), (22, .int .i64 ((j22 : Nat))), (60, .bool false)]) (fun _ => bx (γ162 0) (#[.slice q122 m122 cq122]) 24 :: bx (γ142 0) (#[.slice q42 m42 cq42]) 24 :: bx (γ12 0) (#[.slice x11.p x11.n x11.cap]) 24 :: (Y122 ++ (Y42 ++ []))) ?_ (fun hmx20 => ?_)
          ·
            rintro _ _
            refine any_fork [22, 23] (by kernel_rfl) (by simp) (each_cons _ rfl ?_ (each_cons _ rfl ?_ (each_nil)))
            ·
              refine oq 1 [(22, .go (owns 1 0 1))] [0, 1, 6, 7, 9, 20, 21, 22, 60] [(61, .agg #[.slice q42 m42 cq42])] ([]) (fun _ => by kernel_rfl) al0 ?_
              refine ops_nil ?_
              refine done_any ?_
              exact any_weakP (hmx21 () trivial) [0, 1, 6, 7, 9, 20, 21, 22, 60, 61] [[bx (γ162 0) (#[.slice q122 m122 cq122]) 24], [bx (γ142 0) (#[.slice q42 m42 cq42]) 24], [bx (γ12 0) (#[.slice x11.p x11.n x11.cap]) 24], Y122, Y42] [0, 1, 2, 3, 4] (by kernel_rfl) rfl rfl (by kernel_rfl) rfl rfl
            ·
              refine oq 1 [(23, .go (owns 2 0 1))] [0, 1, 7, 9, 20, 21, 22, 60] [(62, .agg #[.slice x11.p x11.n x11.cap])] ([]) (fun _ => by kernel_rfl) al0 ?_
              refine ops_nil ?_
              refine done_any ?_
              exact any_weakP (hmx22 () trivial) [0, 1, 7, 9, 20, 21, 22, 60, 62] [[bx (γ162 0) (#[.slice q122 m122 cq122]) 24], [bx (γ142 0) (#[.slice q42 m42 cq42]) 24], [bx (γ12 0) (#[.slice x11.p x11.n x11.cap]) 24], Y122, Y42] [0, 1, 2, 3, 4] (by kernel_rfl) rfl rfl (by kernel_rfl) rfl rfl
          refine any_cutX (V := Unit) (fun _ => True) 10 #[true, true, true, true, true, true, true, true, true, true, true, true, true, true, true, true, true, true, false, false, false, false, false, false, false, false, false, false] (fun _ => [(0, .slice (some ⟨b9, o9, none⟩) m cap2), (1, .slice pn mn capn), (6, .pointer (some ⟨γ12 0, 0, none⟩)), (7, .pointer (some ⟨γ142 0, 0, none⟩)), (9, .bool false), (20, .slice (some ⟨b9, o9, none⟩) m cap2), (21, .int .i64 ((m : Nat))), (22, .int .i64 ((j22 : Nat))), (51, .bool false), (54, .bool (decide ((x11.l.take 33) = (x18.l.take 33)))), (55, .agg #[.slice q42 m42 cq42]), (56, .agg #[.slice q122 m122 cq122])]) (fun _ => bx (γ162 0) (#[.slice q122 m122 cq122]) 24 :: bx (γ142 0) (#[.slice q42 m42 cq42]) 24 :: bx (γ12 0) (#[.slice x11.p x11.n x11.cap]) 24 :: (Y122 ++ (Y42 ++ []))) ?_ (fun hmx19 => ?_)
          ·
            rintro _ _
            refine any_one 18 _ (by kernel_rfl) rfl ?_
            refine ops_callD (.bool (decide ((x11.l.take 33) = (x18.l.take 33)))) (by kernel_rfl) (by kernel_rfl) (by kernel_rfl) (fun args w => Try.call15 args w) (fun w hw => by have := rsame_d q42 m42 cq42 ((x11.l.take 33)) q122 m122 cq122 ((x18.l.take 33)) w (hO42.atN (A := (_ :: _ :: _ :: Y122)) hw) hO42.len (by omega) (hO122.atN (A := [_, _, _]) hw) hO122.len (by omega); exact this) ?_
            refine ops_nil ?_
            refine done_any ?_
            refine any_tk (f := 6) [19, 20, 21] [(19, .eqs false)] [0, 1, 6, 7, 9, 20, 21, 22] [(60, .bool false)] ([EqRun Try.prog .neq 4 (.tmp 54) (.tmp 57) (.bool (decide ((x11.l.take 33) = (x18.l.take 33)))) (.bool (decide ((x11.l.take 33) = (x18.l.take 33)))) false]) #[true, true, true, true, true, true, true, true, true, true, true, true, true, true, true, true, true, true, true, true, true, true, false, false, false, false, false, false] (by kernel_rfl) (by kernel_rfl) (al1 (bool_same _)) ?_
            exact any_weakP (hmx20 () trivial) [0, 1, 6, 7, 9, 20, 21, 22, 60] [[bx (γ162 0) (#[.slice q122 m122 cq122]) 24], [bx (γ142 0) (#[.slice q42 m42 cq42]) 24], [bx (γ12 0) (#[.slice x11.p x11.n x11.cap]) 24], Y122, Y42] [0, 1, 2, 3, 4] (by kernel_rfl) rfl rfl (by kernel_rfl) rfl rfl
          refine any_cutX (V := Unit) (fun _ => True) 11 #[true, true, true, true, true, true, true, true, true, true, true, true, true, true, true, false, true, true, false, false, false, false, false, false, false, false, false, false] (fun _ => [(0, .slice (some ⟨b9, o9, none⟩) m cap2), (1, .slice pn mn capn), (6, .pointer (some ⟨γ12 0, 0, none⟩)), (7, .pointer (some ⟨γ142 0, 0, none⟩)), (9, .bool false), (20, .slice (some ⟨b9, o9, none⟩) m cap2), (21, .int .i64 ((m : Nat))), (22, .int .i64 ((j22 : Nat))), (51, .bool false), (52, .agg #[.slice q42 m42 cq42]), (53, .agg #[.slice q122 m122 cq122]), (55, .agg #[.slice q42 m42 cq42]), (56, .agg #[.slice q122 m122 cq122])]) (fun _ => bx (γ162 0) (#[.slice q122 m122 cq122]) 24 :: bx (γ142 0) (#[.slice q42 m42 cq42]) 24 :: bx (γ12 0) (#[.slice x11.p x11.n x11.cap]) 24 :: (Y122 ++ (Y42 ++ []))) ?_ (fun hmx18 => ?_)
          ·
            rintro _ _
            refine any_one 15 _ (by kernel_rfl) rfl ?_
            refine ops_callD (.bool (decide ((x11.l.take 33) = (x18.l.take 33)))) (by kernel_rfl) (by kernel_rfl) (by kernel_rfl) (fun args w => Try.call17 args w) (fun w hw => by have := same_d q42 m42 cq42 ((x11.l.take 33)) q122 m122 cq122 ((x18.l.take 33)) w (hO42.atN (A := (_ :: _ :: _ :: Y122)) hw) hO42.len (by omega) (hO122.atN (A := [_, _, _]) hw) hO122.len (by omega); exact this) ?_
            refine ops_nil ?_
            refine done_any ?_
            exact any_weakP (hmx19 () trivial) [0, 1, 6, 7, 9, 20, 21, 22, 51, 54, 55, 56] [[bx (γ162 0) (#[.slice q122 m122 cq122]) 24], [bx (γ142 0) (#[.slice q42 m42 cq42]) 24], [bx (γ12 0) (#[.slice x11.p x11.n x11.cap]) 24], Y122, Y42] [0, 1, 2, 3, 4] (by kernel_rfl) rfl rfl (by kernel_rfl) rfl rfl
          refine any_cutX (V := Unit) (fun _ => True) 11 #[true, true, true, true, true, true, true, true, true, true, true, true, true, true, true, true, false, true, false, false, false, false, false, false, false, false, false, false] (fun _ => [(0, .slice (some ⟨b9, o9, none⟩) m cap2), (1, .slice pn mn capn), (6, .pointer (some ⟨γ12 0, 0, none⟩)), (7, .pointer (some ⟨γ142 0, 0, none⟩)), (9, .bool false), (20, .slice (some ⟨b9, o9, none⟩) m cap2), (21, .int .i64 ((m : Nat))), (22, .int .i64 ((j22 : Nat))), (51, .bool false), (54, .bool (decide ((x11.l.take 33) = (x18.l.take 33)))), (56, .agg #[.slice q122 m122 cq122])]) (fun _ => bx (γ162 0) (#[.slice q122 m122 cq122]) 24 :: bx (γ142 0) (#[.slice q42 m42 cq42]) 24 :: bx (γ12 0) (#[.slice x11.p x11.n x11.cap]) 24 :: (Y122 ++ (Y42 ++ []))) ?_ (fun hmx17 => ?_)
          ·
            rintro _ _
            refine any_one 16 _ (by kernel_rfl) rfl ?_
            refine oq 1 [(16, .go (owns 1 0 1))] [0, 1, 6, 7, 9, 20, 21, 22, 51, 54, 56] [(55, .agg #[.slice q42 m42 cq42])] ([]) (fun _ => by kernel_rfl) al0 ?_
            refine ops_nil ?_
            refine done_any ?_
            exact any_weakP (hmx19 () trivial) [0, 1, 6, 7, 9, 20, 21, 22, 51, 54, 55, 56] [[bx (γ162 0) (#[.slice q122 m122 cq122]) 24], [bx (γ142 0) (#[.slice q42 m42 cq42]) 24], [bx (γ12 0) (#[.slice x11.p x11.n x11.cap]) 24], Y122, Y42] [0, 1, 2, 3, 4] (by kernel_rfl) rfl rfl (by kernel_rfl) rfl rfl
          refine any_cutX (V := Unit) (fun _ => True) 11 #[true, true, true, true, true, true, true, true, true, true, true, true, true, true, true, true, true, false, false, false, false, false, false, false, false, false, false, false] (fun _ => [(0, .slice (some ⟨b9, o9, none⟩) m cap2), (1, .slice pn mn capn), (6, .pointer (some ⟨γ12 0, 0, none⟩)), (7, .pointer (some ⟨γ142 0, 0, none⟩)), (8, .pointer (some ⟨γ162 0, 0, none⟩)), (9, .bool false), (20, .slice (some ⟨b9, o9, none⟩) m cap2), (21, .int .i64 ((m : Nat))), (22, .int .i64 ((j22 : Nat))), (51, .bool false), (54, .bool (decide ((x11.l.take 33) = (x18.l.take 33)))), (55, .agg #[.slice q42 m42 cq42])]) (fun _ => bx (γ162 0) (#[.slice q122 m122 cq122]) 24 :: bx (γ142 0) (#[.slice q42 m42 cq42]) 24 :: bx (γ12 0) (#[.slice x11.p x11.n x11.cap]) 24 :: (Y122 ++ (Y42 ++ []))) ?_ (fun hmx16 => ?_)
          ·
            rintro _ _
            refine any_one 17 _ (by kernel_rfl) rfl ?_
            refine oq 1 [(17, .go (owns 0 0 1))] [0, 1, 6, 7, 9, 20, 21, 22, 51, 54, 55] [(56, .agg #[.slice q122 m122 cq122])] ([]) (fun _ => by kernel_rfl) al0 ?_
            refine ops_nil ?_
            refine done_any ?_
            exact any_weakP (hmx19 () trivial) [0, 1, 6, 7, 9, 20, 21, 22, 51, 54, 55, 56] [[bx (γ162 0) (#[.slice q122 m122 cq122]) 24], [bx (γ142 0) (#[.slice q42 m42 cq42]) 24], [bx (γ12 0) (#[.slice x11.p x11.n x11.cap]) 24], Y122, Y42] [0, 1, 2, 3, 4] (by kernel_rfl) rfl rfl (by kernel_rfl) rfl rfl
          refine any_cutX (V := Unit) (fun _ => True) 12 #[true, true, true, true, true, true, true, true, true, true, true, true, true, false, true, false, true, true, false, false, false, false, false, false, false, false, false, false] (fun _ => [(0, .slice (some ⟨b9, o9, none⟩) m cap2), (1, .slice pn mn capn), (6, .pointer (some ⟨γ12 0, 0, none⟩)), (7, .pointer (some ⟨γ142 0, 0, none⟩)), (9, .bool false), (20, .slice (some ⟨b9, o9, none⟩) m cap2), (21, .int .i64 ((m : Nat))), (22, .int .i64 ((j22 : Nat))), (51, .bool false), (53, .agg #[.slice q122 m122 cq122]), (55, .agg #[.slice q42 m42 cq42]), (56, .agg #[.slice q122 m122 cq122])]) (fun _ => bx (γ162 0) (#[.slice q122 m122 cq122]) 24 :: bx (γ142 0) (#[.slice q42 m42 cq42]) 24 :: bx (γ12 0) (#[.slice x11.p x11.n x11.cap]) 24 :: (Y122 ++ (Y42 ++ []))) ?_ (fun hmx15 => ?_)
          ·
            rintro _ _
            refine any_one 13 _ (by kernel_rfl) rfl ?_
            refine oq 1 [(13, .go (owns 1 0 1))] [0, 1, 6, 7, 9, 20, 21, 22, 51, 53, 55, 56] [(52, .agg #[.slice q42 m42 cq42])] ([]) (fun _ => by kernel_rfl) al0 ?_
            refine ops_nil ?_
            refine done_any ?_
            exact any_weakP (hmx18 () trivial) [0, 1, 6, 7, 9, 20, 21, 22, 51, 52, 53, 55, 56] [[bx (γ162 0) (#[.slice q122 m122 cq122]) 24], [bx (γ142 0) (#[.slice q42 m42 cq42]) 24], [bx (γ12 0) (#[.slice x11.p x11.n x11.cap]) 24], Y122, Y42] [0, 1, 2, 3, 4] (by kernel_rfl) rfl rfl (by kernel_rfl) rfl rfl
          refine any_cutX (V := Unit) (fun _ => True) 12 #[true, true, true, true, true, true, true, true, true, true, true, true, true, true, false, false, true, true, false, false, false, false, false, false, false, false, false, false] (fun _ => [(0, .slice (some ⟨b9, o9, none⟩) m cap2), (1, .slice pn mn capn), (6, .pointer (some ⟨γ12 0, 0, none⟩)), (7, .pointer (some ⟨γ142 0, 0, none⟩)), (8, .pointer (some ⟨γ162 0, 0, none⟩)), (9, .bool false), (20, .slice (some ⟨b9, o9, none⟩) m cap2), (21, .int .i64 ((m : Nat))), (22, .int .i64 ((j22 : Nat))), (51, .bool false), (52, .agg #[.slice q42 m42 cq42]), (55, .agg #[.slice q42 m42 cq42]), (56, .agg #[.slice q122 m122 cq122])]) (fun _ => bx (γ162 0) (#[.slice q122 m122 cq122]) 24 :: bx (γ142 0) (#[.slice q42 m42 cq42]) 24 :: bx (γ12 0) (#[.slice x11.p x11.n x11.cap]) 24 :: (Y122 ++ (Y42 ++ []))) ?_ (fun hmx14 => ?_)
          ·
            rintro _ _
            refine any_one 14 _ (by kernel_rfl) rfl ?_
            refine oq 1 [(14, .go (owns 0 0 1))] [0, 1, 6, 7, 9, 20, 21, 22, 51, 52, 55, 56] [(53, .agg #[.slice q122 m122 cq122])] ([]) (fun _ => by kernel_rfl) al0 ?_
            refine ops_nil ?_
            refine done_any ?_
            exact any_weakP (hmx18 () trivial) [0, 1, 6, 7, 9, 20, 21, 22, 51, 52, 53, 55, 56] [[bx (γ162 0) (#[.slice q122 m122 cq122]) 24], [bx (γ142 0) (#[.slice q42 m42 cq42]) 24], [bx (γ12 0) (#[.slice x11.p x11.n x11.cap]) 24], Y122, Y42] [0, 1, 2, 3, 4] (by kernel_rfl) rfl rfl (by kernel_rfl) rfl rfl
          refine any_cutX (V := Unit) (fun _ => True) 12 #[true, true, true, true, true, true, true, true, true, true, true, true, true, true, true, false, false, true, false, false, false, false, false, false, false, false, false, false] (fun _ => [(0, .slice (some ⟨b9, o9, none⟩) m cap2), (1, .slice pn mn capn), (6, .pointer (some ⟨γ12 0, 0, none⟩)), (7, .pointer (some ⟨γ142 0, 0, none⟩)), (9, .bool false), (20, .slice (some ⟨b9, o9, none⟩) m cap2), (21, .int .i64 ((m : Nat))), (22, .int .i64 ((j22 : Nat))), (51, .bool false), (52, .agg #[.slice q42 m42 cq42]), (53, .agg #[.slice q122 m122 cq122]), (56, .agg #[.slice q122 m122 cq122])]) (fun _ => bx (γ162 0) (#[.slice q122 m122 cq122]) 24 :: bx (γ142 0) (#[.slice q42 m42 cq42]) 24 :: bx (γ12 0) (#[.slice x11.p x11.n x11.cap]) 24 :: (Y122 ++ (Y42 ++ []))) ?_ (fun hmx13 => ?_)
          ·
            rintro _ _
            refine any_fork [15, 16] (by kernel_rfl) (by simp) (each_cons _ rfl ?_ (each_cons _ rfl ?_ (each_nil)))
            ·
              refine ops_callD (.bool (decide ((x11.l.take 33) = (x18.l.take 33)))) (by kernel_rfl) (by kernel_rfl) (by kernel_rfl) (fun args w => Try.call17 args w) (fun w hw => by have := same_d q42 m42 cq42 ((x11.l.take 33)) q122 m122 cq122 ((x18.l.take 33)) w (hO42.atN (A := (_ :: _ :: _ :: Y122)) hw) hO42.len (by omega) (hO122.atN (A := [_, _, _]) hw) hO122.len (by omega); exact this) ?_
              refine ops_nil ?_
              refine done_any ?_
              exact any_weakP (hmx17 () trivial) [0, 1, 6, 7, 9, 20, 21, 22, 51, 54, 56] [[bx (γ162 0) (#[.slice q122 m122 cq122]) 24], [bx (γ142 0) (#[.slice q42 m42 cq42]) 24], [bx (γ12 0) (#[.slice x11.p x11.n x11.cap]) 24], Y122, Y42] [0, 1, 2, 3, 4] (by kernel_rfl) rfl rfl (by kernel_rfl) rfl rfl
            ·
              refine oq 1 [(16, .go (owns 1 0 1))] [0, 1, 6, 7, 9, 20, 21, 22, 51, 52, 53, 56] [(55, .agg #[.slice q42 m42 cq42])] ([]) (fun _ => by kernel_rfl) al0 ?_
              refine ops_nil ?_
              refine done_any ?_
              exact any_weakP (hmx18 () trivial) [0, 1, 6, 7, 9, 20, 21, 22, 51, 52, 53, 55, 56] [[bx (γ162 0) (#[.slice q122 m122 cq122]) 24], [bx (γ142 0) (#[.slice q42 m42 cq42]) 24], [bx (γ12 0) (#[.slice x11.p x11.n x11.cap]) 24], Y122, Y42] [0, 1, 2, 3, 4] (by kernel_rfl) rfl rfl (by kernel_rfl) rfl rfl
          refine any_cutX (V := Unit) (fun _ => True) 12 #[true, true, true, true, true, true, true, true, true, true, true, true, true, true, true, false, true, false, false, false, false, false, false, false, false, false, false, false] (fun _ => [(0, .slice (some ⟨b9, o9, none⟩) m cap2), (1, .slice pn mn capn), (6, .pointer (some ⟨γ12 0, 0, none⟩)), (7, .pointer (some ⟨γ142 0, 0, none⟩)), (8, .pointer (some ⟨γ162 0, 0, none⟩)), (9, .bool false), (20, .slice (some ⟨b9, o9, none⟩) m cap2), (21, .int .i64 ((m : Nat))), (22, .int .i64 ((j22 : Nat))), (51, .bool false), (52, .agg #[.slice q42 m42 cq42]), (53, .agg #[.slice q122 m122 cq122]), (55, .agg #[.slice q42 m42 cq42])]) (fun _ => bx (γ162 0) (#[.slice q122 m122 cq122]) 24 :: bx (γ142 0) (#[.slice q42 m42 cq42]) 24 :: bx (γ12 0) (#[.slice x11.p x11.n x11.cap]) 24 :: (Y122 ++ (Y42 ++ []))) ?_ (fun hmx12 => ?_)
          ·
            rintro _ _
            refine any_fork [15, 17] (by kernel_rfl) (by simp) (each_cons _ rfl ?_ (each_cons _ rfl ?_ (each_nil)))
            ·
              refine ops_callD (.bool (decide ((x11.l.take 33) = (x18.l.take 33)))) (by kernel_rfl) (by kernel_rfl) (by kernel_rfl) (fun args w => Try.call17 args w) (fun w hw => by have := same_d q42 m42 cq42 ((x11.l.take 33)) q122 m122 cq122 ((x18.l.take 33)) w (hO42.atN (A := (_ :: _ :: _ :: Y122)) hw) hO42.len (by omega) (hO122.atN (A := [_, _, _]) hw) hO122.len (by omega); exact this) ?_
              refine ops_nil ?_
              refine done_any ?_
              exact any_weakP (hmx16 () trivial) [0, 1, 6, 7, 8, 9, 20, 21, 22, 51, 54, 55] [[bx (γ162 0) (#[.slice q122 m122 cq122]) 24], [bx (γ142 0) (#[.slice q42 m42 cq42]) 24], [bx (γ12 0) (#[.slice x11.p x11.n x11.cap]) 24], Y122, Y42] [0, 1, 2, 3, 4] (by kernel_rfl) rfl rfl (by kernel_rfl) rfl rfl
            ·
              refine oq 1 [(17, .go (owns 0 0 1))] [0, 1, 6, 7, 9, 20, 21, 22, 51, 52, 53, 55] [(56, .agg #[.slice q122 m122 cq122])] ([]) (fun _ => by kernel_rfl) al0 ?_
              refine ops_nil ?_
              refine done_any ?_
              exact any_weakP (hmx18 () trivial) [0, 1, 6, 7, 9, 20, 21, 22, 51, 52, 53, 55, 56] [[bx (γ162 0) (#[.slice q122 m122 cq122]) 24], [bx (γ142 0) (#[.slice q42 m42 cq42]) 24], [bx (γ12 0) (#[.slice x11.p x11.n x11.cap]) 24], Y122, Y42] [0, 1, 2, 3, 4] (by kernel_rfl) rfl rfl (by kernel_rfl) rfl rfl
          refine any_cutX (V := Unit) (fun _ => True) 12 #[true, true, true, true, true, true, true, true, true, true, true, true, true, true, true, true, false, false, false, false, false, false, false, false, false, false, false, false] (fun _ => [(0, .slice (some ⟨b9, o9, none⟩) m cap2), (1, .slice pn mn capn), (6, .pointer (some ⟨γ12 0, 0, none⟩)), (7, .pointer (some ⟨γ142 0, 0, none⟩)), (8, .pointer (some ⟨γ162 0, 0, none⟩)), (9, .bool false), (20, .slice (some ⟨b9, o9, none⟩) m cap2), (21, .int .i64 ((m : Nat))), (22, .int .i64 ((j22 : Nat))), (51, .bool false), (54, .bool (decide ((x11.l.take 33) = (x18.l.take 33))))]) (fun _ => bx (γ162 0) (#[.slice q122 m122 cq122]) 24 :: bx (γ142 0) (#[.slice q42 m42 cq42]) 24 :: bx (γ12 0) (#[.slice x11.p x11.n x11.cap]) 24 :: (Y122 ++ (Y42 ++ []))) ?_ (fun hmx11 => ?_)
          ·
            rintro _ _
            refine any_fork [16, 17] (by kernel_rfl) (by simp) (each_cons _ rfl ?_ (each_cons _ rfl ?_ (each_nil)))
            ·
              refine oq 1 [(16, .go (owns 1 0 1))] [0, 1, 6, 7, 8, 9, 20, 21, 22, 51, 54] [(55, .agg #[.slice q42 m42 cq42])] ([]) (fun _ => by kernel_rfl) al0 ?_
              refine ops_nil ?_
              refine done_any ?_
              exact any_weakP (hmx16 () trivial) [0, 1, 6, 7, 8, 9, 20, 21, 22, 51, 54, 55] [[bx (γ162 0) (#[.slice q122 m122 cq122]) 24], [bx (γ142 0) (#[.slice q42 m42 cq42]) 24], [bx (γ12 0) (#[.slice x11.p x11.n x11.cap]) 24], Y122, Y42] [0, 1, 2, 3, 4] (by kernel_rfl) rfl rfl (by kernel_rfl) rfl rfl
            ·
              refine oq 1 [(17, .go (owns 0 0 1))] [0, 1, 6, 7, 9, 20, 21, 22, 51, 54] [(56, .agg #[.slice q122 m122 cq122])] ([]) (fun _ => by kernel_rfl) al0 ?_
              refine ops_nil ?_
              refine done_any ?_
              exact any_weakP (hmx17 () trivial) [0, 1, 6, 7, 9, 20, 21, 22, 51, 54, 56] [[bx (γ162 0) (#[.slice q122 m122 cq122]) 24], [bx (γ142 0) (#[.slice q42 m42 cq42]) 24], [bx (γ12 0) (#[.slice x11.p x11.n x11.cap]) 24], Y122, Y42] [0, 1, 2, 3, 4] (by kernel_rfl) rfl rfl (by kernel_rfl) rfl rfl
          refine any_cutX (V := Unit) (fun _ => True) 13 #[true, true, true, true, true, true, true, true, true, true, true, true, true, false, false, false, true, true, false, false, false, false, false, false, false, false, false, false] (fun _ => [(0, .slice (some ⟨b9, o9, none⟩) m cap2), (1, .slice pn mn capn), (6, .pointer (some ⟨γ12 0, 0, none⟩)), (7, .pointer (some ⟨γ142 0, 0, none⟩)), (8, .pointer (some ⟨γ162 0, 0, none⟩)), (9, .bool false), (20, .slice (some ⟨b9, o9, none⟩) m cap2), (21, .int .i64 ((m : Nat))), (22, .int .i64 ((j22 : Nat))), (51, .bool false), (55, .agg #[.slice q42 m42 cq42]), (56, .agg #[.slice q122 m122 cq122])]) (fun _ => bx (γ162 0) (#[.slice q122 m122 cq122]) 24 :: bx (γ142 0) (#[.slice q42 m42 cq42]) 24 :: bx (γ12 0) (#[.slice x11.p x11.n x11.cap]) 24 :: (Y122 ++ (Y42 ++ []))) ?_ (fun hmx10 => ?_)
          ·
            rintro _ _
            refine any_fork [13, 14] (by kernel_rfl) (by simp) (each_cons _ rfl ?_ (each_cons _ rfl ?_ (each_nil)))
            ·
              refine oq 1 [(13, .go (owns 1 0 1))] [0, 1, 6, 7, 8, 9, 20, 21, 22, 51, 55, 56] [(52, .agg #[.slice q42 m42 cq42])] ([]) (fun _ => by kernel_rfl) al0 ?_
              refine ops_nil ?_
              refine done_any ?_
              exact any_weakP (hmx14 () trivial) [0, 1, 6, 7, 8, 9, 20, 21, 22, 51, 52, 55, 56] [[bx (γ162 0) (#[.slice q122 m122 cq122]) 24], [bx (γ142 0) (#[.slice q42 m42 cq42]) 24], [bx (γ12 0) (#[.slice x11.p x11.n x11.cap]) 24], Y122, Y42] [0, 1, 2, 3, 4] (by kernel_rfl) rfl rfl (by kernel_rfl) rfl rfl
            ·
              refine oq 1 [(14, .go (owns 0 0 1))] [0, 1, 6, 7, 9, 20, 21, 22, 51, 55, 56] [(53, .agg #[.slice q122 m122 cq122])] ([]) (fun _ => by kernel_rfl) al0 ?_
              refine ops_nil ?_
              refine done_any ?_
              exact any_weakP (hmx15 () trivial) [0, 1, 6, 7, 9, 20, 21, 22, 51, 53, 55, 56] [[bx (γ162 0) (#[.slice q122 m122 cq122]) 24], [bx (γ142 0) (#[.slice q42 m42 cq42]) 24], [bx (γ12 0) (#[.slice x11.p x11.n x11.cap]) 24], Y122, Y42] [0, 1, 2, 3, 4] (by kernel_rfl) rfl rfl (by kernel_rfl) rfl rfl
          refine any_cutX (V := Unit) (fun _ => True) 13 #[true, true, true, true, true, true, true, true, true, true, true, true, true, false, true, false, false, true, false, false, false, false, false, false, false, false, false, false] (fun _ => [(0, .slice (some ⟨b9, o9, none⟩) m cap2), (1, .slice pn mn capn), (6, .pointer (some ⟨γ12 0, 0, none⟩)), (7, .pointer (some ⟨γ142 0, 0, none⟩)), (9, .bool false), (20, .slice (some ⟨b9, o9, none⟩) m cap2), (21, .int .i64 ((m : Nat))), (22, .int .i64 ((j22 : Nat))), (51, .bool false), (53, .agg #[.slice q122 m122 cq122]), (56, .agg #[.slice q122 m122 cq122])]) (fun _ => bx (γ162 0) (#[.slice q122 m122 cq122]) 24 :: bx (γ142 0) (#[.slice q42 m42 cq42]) 24 :: bx (γ12 0) (#[.slice x11.p x11.n x11.cap]) 24 :: (Y122 ++ (Y42 ++ []))) ?_ (fun hmx9 => ?_)
          ·
            rintro _ _
            refine any_fork [13, 16] (by kernel_rfl) (by simp) (each_cons _ rfl ?_ (each_cons _ rfl ?_ (each_nil)))
            ·
              refine oq 1 [(13, .go (owns 1 0 1))] [0, 1, 6, 7, 9, 20, 21, 22, 51, 53, 56] [(52, .agg #[.slice q42 m42 cq42])] ([]) (fun _ => by kernel_rfl) al0 ?_
              refine ops_nil ?_
              refine done_any ?_
              exact any_weakP (hmx13 () trivial) [0, 1, 6, 7, 9, 20, 21, 22, 51, 52, 53, 56] [[bx (γ162 0) (#[.slice q122 m122 cq122]) 24], [bx (γ142 0) (#[.slice q42 m42 cq42]) 24], [bx (γ12 0) (#[.slice x11.p x11.n x11.cap]) 24], Y122, Y42] [0, 1, 2, 3, 4] (by kernel_rfl) rfl rfl (by kernel_rfl) rfl rfl
            ·
              refine oq 1 [(16, .go (owns 1 0 1))] [0, 1, 6, 7, 9, 20, 21, 22, 51, 53, 56] [(55, .agg #[.slice q42 m42 cq42])] ([]) (fun _ => by kernel_rfl) al0 ?_
              refine ops_nil ?_
              refine done_any ?_
              exact any_weakP (hmx15 () trivial) [0, 1, 6, 7, 9, 20, 21, 22, 51, 53, 55, 56] [[bx (γ162 0) (#[.slice q122 m122 cq122]) 24], [bx (γ142 0) (#[.slice q42 m42 cq42]) 24], [bx (γ12 0) (#[.slice x11.p x11.n x11.cap]) 24], Y122, Y42] [0, 1, 2, 3, 4] (by kernel_rfl) rfl rfl (by kernel_rfl) rfl rfl
          refine any_cutX (V := Unit) (fun _ => True) 13 #[true, true, true, true, true, true, true, true, true, true, true, true, true, false, true, false, true, false, false, false, false, false, false, false, false, false, false, false] (fun _ => [(0, .slice (some ⟨b9, o9, none⟩) m cap2), (1, .slice pn mn capn), (6, .pointer (some ⟨γ12 0, 0, none⟩)), (7, .pointer (some ⟨γ142 0, 0, none⟩)), (8, .pointer (some ⟨γ162 0, 0, none⟩)), (9, .bool false), (20, .slice (some ⟨b9, o9, none⟩) m cap2), (21, .int .i64 ((m : Nat))), (22, .int .i64 ((j22 : Nat))), (51, .bool false), (53, .agg #[.slice q122 m122 cq122]), (55, .agg #[.slice q42 m42 cq42])]) (fun _ => bx (γ162 0) (#[.slice q122 m122 cq122]) 24 :: bx (γ142 0) (#[.slice q42 m42 cq42]) 24 :: bx (γ12 0) (#[.slice x11.p x11.n x11.cap]) 24 :: (Y122 ++ (Y42 ++ []))) ?_ (fun hmx8 => ?_)
          ·
            rintro _ _
            refine any_fork [13, 17] (by kernel_rfl) (by simp) (each_cons _ rfl ?_ (each_cons _ rfl ?_ (each_nil)))
            ·
              refine oq 1 [(13, .go (owns 1 0 1))] [0, 1, 6, 7, 8, 9, 20, 21, 22, 51, 53, 55] [(52, .agg #[.slice q42 m42 cq42])] ([]) (fun _ => by kernel_rfl) al0 ?_
              refine ops_nil ?_
              refine done_any ?_
              exact any_weakP (hmx12 () trivial) [0, 1, 6, 7, 8, 9, 20, 21, 22, 51, 52, 53, 55] [[bx (γ162 0) (#[.slice q122 m122 cq122]) 24], [bx (γ142 0) (#[.slice q42 m42 cq42]) 24], [bx (γ12 0) (#[.slice x11.p x11.n x11.cap]) 24], Y122, Y42] [0, 1, 2, 3, 4] (by kernel_rfl) rfl rfl (by kernel_rfl) rfl rfl
            ·
              refine oq 1 [(17, .go (owns 0 0 1))] [0, 1, 6, 7, 9, 20, 21, 22, 51, 53, 55] [(56, .agg #[.slice q122 m122 cq122])] ([]) (fun _ => by kernel_rfl) al0 ?_
              refine ops_nil ?_
              refine done_any ?_
              exact any_weakP (hmx15 () trivial) [0, 1, 6, 7, 9, 20, 21, 22, 51, 53, 55, 56] [[bx (γ162 0) (#[.slice q122 m122 cq122]) 24], [bx (γ142 0) (#[.slice q42 m42 cq42]) 24], [bx (γ12 0) (#[.slice x11.p x11.n x11.cap]) 24], Y122, Y42] [0, 1, 2, 3, 4] (by kernel_rfl) rfl rfl (by kernel_rfl) rfl rfl
          refine any_cutX (V := Unit) (fun _ => True) 13 #[true, true, true, true, true, true, true, true, true, true, true, true, true, true, false, false, false, true, false, false, false, false, false, false, false, false, false, false] (fun _ => [(0, .slice (some ⟨b9, o9, none⟩) m cap2), (1, .slice pn mn capn), (6, .pointer (some ⟨γ12 0, 0, none⟩)), (7, .pointer (some ⟨γ142 0, 0, none⟩)), (8, .pointer (some ⟨γ162 0, 0, none⟩)), (9, .bool false), (20, .slice (some ⟨b9, o9, none⟩) m cap2), (21, .int .i64 ((m : Nat))), (22, .int .i64 ((j22 : Nat))), (51, .bool false), (52, .agg #[.slice q42 m42 cq42]), (56, .agg #[.slice q122 m122 cq122])]) (fun _ => bx (γ162 0) (#[.slice q122 m122 cq122]) 24 :: bx (γ142 0) (#[.slice q42 m42 cq42]) 24 :: bx (γ12 0) (#[.slice x11.p x11.n x11.cap]) 24 :: (Y122 ++ (Y42 ++ []))) ?_ (fun hmx7 => ?_)
          ·
            rintro _ _
            refine any_fork [14, 16] (by kernel_rfl) (by simp) (each_cons _ rfl ?_ (each_cons _ rfl ?_ (each_nil)))
            ·
              refine oq 1 [(14, .go (owns 0 0 1))] [0, 1, 6, 7, 9, 20, 21, 22, 51, 52, 56] [(53, .agg #[.slice q122 m122 cq122])] ([]) (fun _ => by kernel_rfl) al0 ?_
              refine ops_nil ?_
              refine done_any ?_
              exact any_weakP (hmx13 () trivial) [0, 1, 6, 7, 9, 20, 21, 22, 51, 52, 53, 56] [[bx (γ162 0) (#[.slice q122 m122 cq122]) 24], [bx (γ142 0) (#[.slice q42 m42 cq42]) 24], [bx (γ12 0) (#[.slice x11.p x11.n x11.cap]) 24], Y122, Y42] [0, 1, 2, 3, 4] (by kernel_rfl) rfl rfl (by kernel_rfl) rfl rfl
            ·
              refine oq 1 [(16, .go (owns 1 0 1))] [0, 1, 6, 7, 8, 9, 20, 21, 22, 51, 52, 56] [(55, .agg #[.slice q42 m42 cq42])] ([]) (fun _ => by kernel_rfl) al0 ?_
              refine ops_nil ?_
              refine done_any ?_
              exact any_weakP (hmx14 () trivial) [0, 1, 6, 7, 8, 9, 20, 21, 22, 51, 52, 55, 56] [[bx (γ162 0) (#[.slice q122 m122 cq122]) 24], [bx (γ142 0) (#[.slice q42 m42 cq42]) 24], [bx (γ12 0) (#[.slice x11.p x11.n x11.cap]) 24], Y122, Y42] [0, 1, 2, 3, 4] (by kernel_rfl) rfl rfl (by kernel_rfl) rfl rfl
          refine any_cutX (V := Unit) (fun _ => True) 13 #[true, true, true, true, true, true, true, true, true, true, true, true, true, true, false, false, true, false, false, false, false, false, false, false, false, false, false, false] (fun _ => [(0, .slice (some ⟨b9, o9, none⟩) m cap2), (1, .slice pn mn capn), (6, .pointer (some ⟨γ12 0, 0, none⟩)), (7, .pointer (some ⟨γ142 0, 0, none⟩)), (8, .pointer (some ⟨γ162 0, 0, none⟩)), (9, .bool false), (20, .slice (some ⟨b9, o9, none⟩) m cap2), (21, .int .i64 ((m : Nat))), (22, .int .i64 ((j22 : Nat))), (51, .bool false), (52, .agg #[.slice q42 m42 cq42]), (55, .agg #[.slice q42 m42 cq42])]) (fun _ => bx (γ162 0) (#[.slice q122 m122 cq122]) 24 :: bx (γ142 0) (#[.slice q42 m42 cq42]) 24 :: bx (γ12 0) (#[.slice x11.p x11.n x11.cap]) 24 :: (Y122 ++ (Y42 ++ []))) ?_ (fun hmx6 => ?_)
          ·
            rintro _ _
            refine any_fork [14, 17] (by kernel_rfl) (by simp) (each_cons _ rfl ?_ (each_cons _ rfl ?_ (each_nil)))
            ·
              refine oq 1 [(14, .go (owns 0 0 1))] [0, 1, 6, 7, 8, 9, 20, 21, 22, 51, 52, 55] [(53, .agg #[.slice q122 m122 cq122])] ([]) (fun _ => by kernel_rfl) al0 ?_
              refine ops_nil ?_
              refine done_any ?_
              exact any_weakP (hmx12 () trivial) [0, 1, 6, 7, 8, 9, 20, 21, 22, 51, 52, 53, 55] [[bx (γ162 0) (#[.slice q122 m122 cq122]) 24], [bx (γ142 0) (#[.slice q42 m42 cq42]) 24], [bx (γ12 0) (#[.slice x11.p x11.n x11.cap]) 24], Y122, Y42] [0, 1, 2, 3, 4] (by kernel_rfl) rfl rfl (by kernel_rfl) rfl rfl
            ·
              refine oq 1 [(17, .go (owns 0 0 1))] [0, 1, 6, 7, 8, 9, 20, 21, 22, 51, 52, 55] [(56, .agg #[.slice q122 m122 cq122])] ([]) (fun _ => by kernel_rfl) al0 ?_
              refine ops_nil ?_
              refine done_any ?_
              exact any_weakP (hmx14 () trivial) [0, 1, 6, 7, 8, 9, 20, 21, 22, 51, 52, 55, 56] [[bx (γ162 0) (#[.slice q122 m122 cq122]) 24], [bx (γ142 0) (#[.slice q42 m42 cq42]) 24], [bx (γ12 0) (#[.slice x11.p x11.n x11.cap]) 24], Y122, Y42] [0, 1, 2, 3, 4] (by kernel_rfl) rfl rfl (by kernel_rfl) rfl rfl
          refine any_cutX (V := Unit) (fun _ => True) 13 #[true, true, true, true, true, true, true, true, true, true, true, true, true, true, true, false, false, false, false, false, false, false, false, false, false, false, false, false] (fun _ => [(0, .slice (some ⟨b9, o9, none⟩) m cap2), (1, .slice pn mn capn), (6, .pointer (some ⟨γ12 0, 0, none⟩)), (7, .pointer (some ⟨γ142 0, 0, none⟩)), (8, .pointer (some ⟨γ162 0, 0, none⟩)), (9, .bool false), (20, .slice (some ⟨b9, o9, none⟩) m cap2), (21, .int .i64 ((m : Nat))), (22, .int .i64 ((j22 : Nat))), (51, .bool false), (52, .agg #[.slice q42 m42 cq42]), (53, .agg #[.slice q122 m122 cq122])]) (fun _ => bx (γ162 0) (#[.slice q122 m122 cq122]) 24 :: bx (γ142 0) (#[.slice q42 m42 cq42]) 24 :: bx (γ12 0) (#[.slice x11.p x11.n x11.cap]) 24 :: (Y122 ++ (Y42 ++ []))) ?_ (fun hmx5 => ?_)
          ·
            rintro _ _
            refine any_fork [15, 16, 17] (by kernel_rfl) (by simp) (each_cons _ rfl ?_ (each_cons _ rfl ?_ (each_cons _ rfl ?_ (each_nil))))
            ·
              refine ops_callD (.bool (decide ((x11.l.take 33) = (x18.l.take 33)))) (by kernel_rfl) (by kernel_rfl) (by kernel_rfl) (fun args w => Try.call17 args w) (fun w hw => by have := same_d q42 m42 cq42 ((x11.l.take 33)) q122 m122 cq122 ((x18.l.take 33)) w (hO42.atN (A := (_ :: _ :: _ :: Y122)) hw) hO42.len (by omega) (hO122.atN (A := [_, _, _]) hw) hO122.len (by omega); exact this) ?_
              refine ops_nil ?_
              refine done_any ?_
              exact any_weakP (hmx11 () trivial) [0, 1, 6, 7, 8, 9, 20, 21, 22, 51, 54] [[bx (γ162 0) (#[.slice q122 m122 cq122]) 24], [bx (γ142 0) (#[.slice q42 m42 cq42]) 24], [bx (γ12 0) (#[.slice x11.p x11.n x11.cap]) 24], Y122, Y42] [0, 1, 2, 3, 4] (by kernel_rfl) rfl rfl (by kernel_rfl) rfl rfl
            ·
              refine oq 1 [(16, .go (owns 1 0 1))] [0, 1, 6, 7, 8, 9, 20, 21, 22, 51, 52, 53] [(55, .agg #[.slice q42 m42 cq42])] ([]) (fun _ => by kernel_rfl) al0 ?_
              refine ops_nil ?_
              refine done_any ?_
              exact any_weakP (hmx12 () trivial) [0, 1, 6, 7, 8, 9, 20, 21, 22, 51, 52, 53, 55] [[bx (γ162 0) (#[.slice q122 m122 cq122]) 24], [bx (γ142 0) (#[.slice q42 m42 cq42]) 24], [bx (γ12 0) (#[.slice x11.p x11.n x11.cap]) 24], Y122, Y42] [0, 1, 2, 3, 4] (by kernel_rfl) rfl rfl (by kernel_rfl) rfl rfl
            ·
              refine oq 1 [(17, .go (owns 0 0 1))] [0, 1, 6, 7, 9, 20, 21, 22, 51, 52, 53] [(56, .agg #[.slice q122 m122 cq122])] ([]) (fun _ => by kernel_rfl) al0 ?_
              refine ops_nil ?_
              refine done_any ?_
              exact any_weakP (hmx13 () trivial) [0, 1, 6, 7, 9, 20, 21, 22, 51, 52, 53, 56] [[bx (γ162 0) (#[.slice q122 m122 cq122]) 24], [bx (γ142 0) (#[.slice q42 m42 cq42]) 24], [bx (γ12 0) (#[.slice x11.p x11.n x11.cap]) 24], Y122, Y42] [0, 1, 2, 3, 4] (by kernel_rfl) rfl rfl (by kernel_rfl) rfl rfl
          refine any_cutX (V := Unit) (fun _ => True) 14 #[true, true, true, true, true, true, true, true, true, true, true, true, true, false, false, false, false, true, false, false, false, false, false, false, false, false, false, false] (fun _ => [(0, .slice (some ⟨b9, o9, none⟩) m cap2), (1, .slice pn mn capn), (6, .pointer (some ⟨γ12 0, 0, none⟩)), (7, .pointer (some ⟨γ142 0, 0, none⟩)), (8, .pointer (some ⟨γ162 0, 0, none⟩)), (9, .bool false), (20, .slice (some ⟨b9, o9, none⟩) m cap2), (21, .int .i64 ((m : Nat))), (22, .int .i64 ((j22 : Nat))), (51, .bool false), (56, .agg #[.slice q122 m122 cq122])]) (fun _ => bx (γ162 0) (#[.slice q122 m122 cq122]) 24 :: bx (γ142 0) (#[.slice q42 m42 cq42]) 24 :: bx (γ12 0) (#[.slice x11.p x11.n x11.cap]) 24 :: (Y122 ++ (Y42 ++ []))) ?_ (fun hmx4 => ?_)
          ·
            rintro _ _
            refine any_fork [13, 14, 16] (by kernel_rfl) (by simp) (each_cons _ rfl ?_ (each_cons _ rfl ?_ (each_cons _ rfl ?_ (each_nil))))
            ·
              refine oq 1 [(13, .go (owns 1 0 1))] [0, 1, 6, 7, 8, 9, 20, 21, 22, 51, 56] [(52, .agg #[.slice q42 m42 cq42])] ([]) (fun _ => by kernel_rfl) al0 ?_
              refine ops_nil ?_
              refine done_any ?_
              exact any_weakP (hmx7 () trivial) [0, 1, 6, 7, 8, 9, 20, 21, 22, 51, 52, 56] [[bx (γ162 0) (#[.slice q122 m122 cq122]) 24], [bx (γ142 0) (#[.slice q42 m42 cq42]) 24], [bx (γ12 0) (#[.slice x11.p x11.n x11.cap]) 24], Y122, Y42] [0, 1, 2, 3, 4] (by kernel_rfl) rfl rfl (by kernel_rfl) rfl rfl
            ·
              refine oq 1 [(14, .go (owns 0 0 1))] [0, 1, 6, 7, 9, 20, 21, 22, 51, 56] [(53, .agg #[.slice q122 m122 cq122])] ([]) (fun _ => by kernel_rfl) al0 ?_
              refine ops_nil ?_
              refine done_any ?_
              exact any_weakP (hmx9 () trivial) [0, 1, 6, 7, 9, 20, 21, 22, 51, 53, 56] [[bx (γ162 0) (#[.slice q122 m122 cq122]) 24], [bx (γ142 0) (#[.slice q42 m42 cq42]) 24], [bx (γ12 0) (#[.slice x11.p x11.n x11.cap]) 24], Y122, Y42] [0, 1, 2, 3, 4] (by kernel_rfl) rfl rfl (by kernel_rfl) rfl rfl
            ·
              refine oq 1 [(16, .go (owns 1 0 1))] [0, 1, 6, 7, 8, 9, 20, 21, 22, 51, 56] [(55, .agg #[.slice q42 m42 cq42])] ([]) (fun _ => by kernel_rfl) al0 ?_
              refine ops_nil ?_
              refine done_any ?_
              exact any_weakP (hmx10 () trivial) [0, 1, 6, 7, 8, 9, 20, 21, 22, 51, 55, 56] [[bx (γ162 0) (#[.slice q122 m122 cq122]) 24], [bx (γ142 0) (#[.slice q42 m42 cq42]) 24], [bx (γ12 0) (#[.slice x11.p x11.n x11.cap]) 24], Y122, Y42] [0, 1, 2, 3, 4] (by kernel_rfl) rfl rfl (by kernel_rfl) rfl rfl
          refine any_cutX (V := Unit) (fun _ => True) 14 #[true, true, true, true, true, true, true, true, true, true, true, true, true, false, false, false, true, false, false, false, false, false, false, false, false, false, false, false] (fun _ => [(0, .slice (some ⟨b9, o9, none⟩) m cap2), (1, .slice pn mn capn), (6, .pointer (some ⟨γ12 0, 0, none⟩)), (7, .pointer (some ⟨γ142 0, 0, none⟩)), (8, .pointer (some ⟨γ162 0, 0, none⟩)), (9, .bool false), (20, .slice (some ⟨b9, o9, none⟩) m cap2), (21, .int .i64 ((m : Nat))), (22, .int .i64 ((j22 : Nat))), (51, .bool false), (55, .agg #[.slice q42 m42 cq42])]) (fun _ => bx (γ162 0) (#[.slice q122 m122 cq122]) 24 :: bx (γ142 0) (#[.slice q42 m42 cq42]) 24 :: bx (γ12 0) (#[.slice x11.p x11.n x11.cap]) 24 :: (Y122 ++ (Y42 ++ []))) ?_ (fun hmx3 => ?_)
          ·
            rintro _ _
            refine any_fork [13, 14, 17] (by kernel_rfl) (by simp) (each_cons _ rfl ?_ (each_cons _ rfl ?_ (each_cons _ rfl ?_ (each_nil))))
            ·
              refine oq 1 [(13, .go (owns 1 0 1))] [0, 1, 6, 7, 8, 9, 20, 21, 22, 51, 55] [(52, .agg #[.slice q42 m42 cq42])] ([]) (fun _ => by kernel_rfl) al0 ?_
              refine ops_nil ?_
              refine done_any ?_
              exact any_weakP (hmx6 () trivial) [0, 1, 6, 7, 8, 9, 20, 21, 22, 51, 52, 55] [[bx (γ162 0) (#[.slice q122 m122 cq122]) 24], [bx (γ142 0) (#[.slice q42 m42 cq42]) 24], [bx (γ12 0) (#[.slice x11.p x11.n x11.cap]) 24], Y122, Y42] [0, 1, 2, 3, 4] (by kernel_rfl) rfl rfl (by kernel_rfl) rfl rfl
            ·
              refine oq 1 [(14, .go (owns 0 0 1))] [0, 1, 6, 7, 8, 9, 20, 21, 22, 51, 55] [(53, .agg #[.slice q122 m122 cq122])] ([]) (fun _ => by kernel_rfl) al0 ?_
              refine ops_nil ?_
              refine done_any ?_
              exact any_weakP (hmx8 () trivial) [0, 1, 6, 7, 8, 9, 20, 21, 22, 51, 53, 55] [[bx (γ162 0) (#[.slice q122 m122 cq122]) 24], [bx (γ142 0) (#[.slice q42 m42 cq42]) 24], [bx (γ12 0) (#[.slice x11.p x11.n x11.cap]) 24], Y122, Y42] [0, 1, 2, 3, 4] (by kernel_rfl) rfl rfl (by kernel_rfl) rfl rfl
            ·
              refine oq 1 [(17, .go (owns 0 0 1))] [0, 1, 6, 7, 8, 9, 20, 21, 22, 51, 55] [(56, .agg #[.slice q122 m122 cq122])] ([]) (fun _ => by kernel_rfl) al0 ?_
              refine ops_nil ?_
              refine done_any ?_
              exact any_weakP (hmx10 () trivial) [0, 1, 6, 7, 8, 9, 20, 21, 22, 51, 55, 56] [[bx (γ162 0) (#[.slice q122 m122 cq122]) 24], [bx (γ142 0) (#[.slice q42 m42 cq42]) 24], [bx (γ12 0) (#[.slice x11.p x11.n x11.cap]) 24], Y122, Y42] [0, 1, 2, 3, 4] (by kernel_rfl) rfl rfl (by kernel_rfl) rfl rfl
          refine any_cutX (V := Unit) (fun _ => True) 14 #[true, true, true, true, true, true, true, true, true, true, true, true, true, false, true, false, false, false, false, false, false, false, false, false, false, false, false, false] (fun _ => [(0, .slice (some ⟨b9, o9, none⟩) m cap2), (1, .slice pn mn capn), (6, .pointer (some ⟨γ12 0, 0, none⟩)), (7, .pointer (some ⟨γ142 0, 0, none⟩)), (8, .pointer (some ⟨γ162 0, 0, none⟩)), (9, .bool false), (20, .slice (some ⟨b9, o9, none⟩) m cap2), (21, .int .i64 ((m : Nat))), (22, .int .i64 ((j22 : Nat))), (51, .bool false), (53, .agg #[.slice q122 m122 cq122])]) (fun _ => bx (γ162 0) (#[.slice q122 m122 cq122]) 24 :: bx (γ142 0) (#[.slice q42 m42 cq42]) 24 :: bx (γ12 0) (#[.slice x11.p x11.n x11.cap]) 24 :: (Y122 ++ (Y42 ++ []))) ?_ (fun hmx2 => ?_)
          ·
            rintro _ _
            refine any_fork [13, 16, 17] (by kernel_rfl) (by simp) (each_cons _ rfl ?_ (each_cons _ rfl ?_ (each_cons _ rfl ?_ (each_nil))))
            ·
              refine oq 1 [(13, .go (owns 1 0 1))] [0, 1, 6, 7, 8, 9, 20, 21, 22, 51, 53] [(52, .agg #[.slice q42 m42 cq42])] ([]) (fun _ => by kernel_rfl) al0 ?_
              refine ops_nil ?_
              refine done_any ?_
              exact any_weakP (hmx5 () trivial) [0, 1, 6, 7, 8, 9, 20, 21, 22, 51, 52, 53] [[bx (γ162 0) (#[.slice q122 m122 cq122]) 24], [bx (γ142 0) (#[.slice q42 m42 cq42]) 24], [bx (γ12 0) (#[.slice x11.p x11.n x11.cap]) 24], Y122, Y42] [0, 1, 2, 3, 4] (by kernel_rfl) rfl rfl (by kernel_rfl) rfl rfl
            ·
              refine oq 1 [(16, .go (owns 1 0 1))] [0, 1, 6, 7, 8, 9, 20, 21, 22, 51, 53] [(55, .agg #[.slice q42 m42 cq42])] ([]) (fun _ => by kernel_rfl) al0 ?_
              refine ops_nil ?_
              refine done_any ?_
              exact any_weakP (hmx8 () trivial) [0, 1, 6, 7, 8, 9, 20, 21, 22, 51, 53, 55] [[bx (γ162 0) (#[.slice q122 m122 cq122]) 24], [bx (γ142 0) (#[.slice q42 m42 cq42]) 24], [bx (γ12 0) (#[.slice x11.p x11.n x11.cap]) 24], Y122, Y42] [0, 1, 2, 3, 4] (by kernel_rfl) rfl rfl (by kernel_rfl) rfl rfl
            ·
              refine oq 1 [(17, .go (owns 0 0 1))] [0, 1, 6, 7, 9, 20, 21, 22, 51, 53] [(56, .agg #[.slice q122 m122 cq122])] ([]) (fun _ => by kernel_rfl) al0 ?_
              refine ops_nil ?_
              refine done_any ?_
              exact any_weakP (hmx9 () trivial) [0, 1, 6, 7, 9, 20, 21, 22, 51, 53, 56] [[bx (γ162 0) (#[.slice q122 m122 cq122]) 24], [bx (γ142 0) (#[.slice q42 m42 cq42]) 24], [bx (γ12 0) (#[.slice x11.p x11.n x11.cap]) 24], Y122, Y42] [0, 1, 2, 3, 4] (by kernel_rfl) rfl rfl (by kernel_rfl) rfl rfl
          refine any_cutX (V := Unit) (fun _ => True) 14 #[true, true, true, true, true, true, true, true, true, true, true, true, true, true, false, false, false, false, false, false, false, false, false, false, false, false, false, false] (fun _ => [(0, .slice (some ⟨b9, o9, none⟩) m cap2), (1, .slice pn mn capn), (6, .pointer (some ⟨γ12 0, 0, none⟩)), (7, .pointer (some ⟨γ142 0, 0, none⟩)), (8, .pointer (some ⟨γ162 0, 0, none⟩)), (9, .bool false), (20, .slice (some ⟨b9, o9, none⟩) m cap2), (21, .int .i64 ((m : Nat))), (22, .int .i64 ((j22 : Nat))), (51, .bool false), (52, .agg #[.slice q42 m42 cq42])]) (fun _ => bx (γ162 0) (#[.slice q122 m122 cq122]) 24 :: bx (γ142 0) (#[.slice q42 m42 cq42]) 24 :: bx (γ12 0) (#[.slice x11.p x11.n x11.cap]) 24 :: (Y122 ++ (Y42 ++ []))) ?_ (fun hmx1 => ?_)
          ·
            rintro _ _
            refine any_fork [14, 16, 17] (by kernel_rfl) (by simp) (each_cons _ rfl ?_ (each_cons _ rfl ?_ (each_cons _ rfl ?_ (each_nil))))
            ·
              refine oq 1 [(14, .go (owns 0 0 1))] [0, 1, 6, 7, 8, 9, 20, 21, 22, 51, 52] [(53, .agg #[.slice q122 m122 cq122])] ([]) (fun _ => by kernel_rfl) al0 ?_
              refine ops_nil ?_
              refine done_any ?_
              exact any_weakP (hmx5 () trivial) [0, 1, 6, 7, 8, 9, 20, 21, 22, 51, 52, 53] [[bx (γ162 0) (#[.slice q122 m122 cq122]) 24], [bx (γ142 0) (#[.slice q42 m42 cq42]) 24], [bx (γ12 0) (#[.slice x11.p x11.n x11.cap]) 24], Y122, Y42] [0, 1, 2, 3, 4] (by kernel_rfl) rfl rfl (by kernel_rfl) rfl rfl
            ·
              refine oq 1 [(16, .go (owns 1 0 1))] [0, 1, 6, 7, 8, 9, 20, 21, 22, 51, 52] [(55, .agg #[.slice q42 m42 cq42])] ([]) (fun _ => by kernel_rfl) al0 ?_
              refine ops_nil ?_
              refine done_any ?_
              exact any_weakP (hmx6 () trivial) [0, 1, 6, 7, 8, 9, 20, 21, 22, 51, 52, 55] [[bx (γ162 0) (#[.slice q122 m122 cq122]) 24], [bx (γ142 0) (#[.slice q42 m42 cq42]) 24], [bx (γ12 0) (#[.slice x11.p x11.n x11.cap]) 24], Y122, Y42] [0, 1, 2, 3, 4] (by kernel_rfl) rfl rfl (by kernel_rfl) rfl rfl
            ·
              refine oq 1 [(17, .go (owns 0 0 1))] [0, 1, 6, 7, 8, 9, 20, 21, 22, 51, 52] [(56, .agg #[.slice q122 m122 cq122])] ([]) (fun _ => by kernel_rfl) al0 ?_
              refine ops_nil ?_
              refine done_any ?_
              exact any_weakP (hmx7 () trivial) [0, 1, 6, 7, 8, 9, 20, 21, 22, 51, 52, 56] [[bx (γ162 0) (#[.slice q122 m122 cq122]) 24], [bx (γ142 0) (#[.slice q42 m42 cq42]) 24], [bx (γ12 0) (#[.slice x11.p x11.n x11.cap]) 24], Y122, Y42] [0, 1, 2, 3, 4] (by kernel_rfl) rfl rfl (by kernel_rfl) rfl rfl
          refine any_fork [13, 14, 16, 17] (by kernel_rfl) (by simp) (each_cons _ rfl ?_ (each_cons _ rfl ?_ (each_cons _ rfl ?_ (each_cons _ rfl ?_ (each_nil)))))
          ·
            refine oq 1 [(13, .go (owns 1 0 1))] [0, 1, 6, 7, 8, 9, 20, 21, 22, 51] [(52, .agg #[.slice q42 m42 cq42])] ([]) (fun _ => by kernel_rfl) al0 ?_
            refine ops_nil ?_
            refine done_any ?_
            exact any_weakP (hmx1 () trivial) [0, 1, 6, 7, 8, 9, 20, 21, 22, 51, 52] [[bx (γ162 0) (#[.slice q122 m122 cq122]) 24], [bx (γ142 0) (#[.slice q42 m42 cq42]) 24], [bx (γ12 0) (#[.slice x11.p x11.n x11.cap]) 24], Y122, Y42] [0, 1, 2, 3, 4] (by kernel_rfl) rfl rfl (by kernel_rfl) rfl rfl
          ·
            refine oq 1 [(14, .go (owns 0 0 1))] [0, 1, 6, 7, 8, 9, 20, 21, 22, 51] [(53, .agg #[.slice q122 m122 cq122])] ([]) (fun _ => by kernel_rfl) al0 ?_
            refine ops_nil ?_
            refine done_any ?_
            exact any_weakP (hmx2 () trivial) [0, 1, 6, 7, 8, 9, 20, 21, 22, 51, 53] [[bx (γ162 0) (#[.slice q122 m122 cq122]) 24], [bx (γ142 0) (#[.slice q42 m42 cq42]) 24], [bx (γ12 0) (#[.slice x11.p x11.n x11.cap]) 24], Y122, Y42] [0, 1, 2, 3, 4] (by kernel_rfl) rfl rfl (by kernel_rfl) rfl rfl
          ·
            refine oq 1 [(16, .go (owns 1 0 1))] [0, 1, 6, 7, 8, 9, 20, 21, 22, 51] [(55, .agg #[.slice q42 m42 cq42])] ([]) (fun _ => by kernel_rfl) al0 ?_
            refine ops_nil ?_
            refine done_any ?_
            exact any_weakP (hmx3 () trivial) [0, 1, 6, 7, 8, 9, 20, 21, 22, 51, 55] [[bx (γ162 0) (#[.slice q122 m122 cq122]) 24], [bx (γ142 0) (#[.slice q42 m42 cq42]) 24], [bx (γ12 0) (#[.slice x11.p x11.n x11.cap]) 24], Y122, Y42] [0, 1, 2, 3, 4] (by kernel_rfl) rfl rfl (by kernel_rfl) rfl rfl
          ·
            refine oq 1 [(17, .go (owns 0 0 1))] [0, 1, 6, 7, 8, 9, 20, 21, 22, 51] [(56, .agg #[.slice q122 m122 cq122])] ([]) (fun _ => by kernel_rfl) al0 ?_
            refine ops_nil ?_
            refine done_any ?_
            exact any_weakP (hmx4 () trivial) [0, 1, 6, 7, 8, 9, 20, 21, 22, 51, 56] [[bx (γ162 0) (#[.slice q122 m122 cq122]) 24], [bx (γ142 0) (#[.slice q42 m42 cq42]) 24], [bx (γ12 0) (#[.slice x11.p x11.n x11.cap]) 24], Y122, Y42] [0, 1, 2, 3, 4] (by kernel_rfl) rfl rfl (by kernel_rfl) rfl rfl
        rintro ⟨Y749, cq749, m749, q749⟩ ⟨hO749, hm749⟩
        refine any_nil (by kernel_rfl) ?_
        refine done_seq ?_
        refine at_false (by kernel_rfl) ?_
        refine at_skip ?_
        refine done_seq ?_
        refine at_seq ?_
        refine aq [] [0, 1, 7, 9, 20, 21, 22] [(67, .slice pn mn capn), (68, .int .i64 ((mn : Nat))), (69, .int .i64 0)] ([]) (fun _ => by kernel_rfl) al0 ?_
        refine done_seq ?_
        refine at_block ?_
        refine at_loop (α := Nat) [0, 1, 7, 9, 20, 21, 22, 67, 68, 69] (fun j69 => [(0, .slice (some ⟨b9, o9, none⟩) m cap2), (1, .slice pn mn capn), (7, .pointer (some ⟨γ142 0, 0, none⟩)), (9, .bool false), (20, .slice (some ⟨b9, o9, none⟩) m cap2), (21, .int .i64 ((m : Nat))), (22, .int .i64 ((j22 : Nat))), (67, .slice pn mn capn), (68, .int .i64 ((mn : Nat))), (69, .int .i64 ((j69 : Nat)))]) (fun j69 => bx (γ162 0) (#[.slice q122 m122 cq122]) 24 :: bx (γ142 0) (#[.slice q42 m42 cq42]) 24 :: bx (γ12 0) (#[.slice x11.p x11.n x11.cap]) 24 :: (Y749 ++ (Y122 ++ (Y42 ++ [])))) (fun j69 => j69 ≤ mn) (fun j69 => mn - j69) 0 (by kernel_rfl) rfl (Nat.zero_le _) ?_
        rintro j69
        rintro hj69
        refine at_seq ?_
        by_cases q874 : ((j69 : Nat) : Int) < ((mn : Nat) : Int)
        ·
          refine aq [(0, .yes)] [0, 1, 7, 9, 20, 21, 22, 67, 68, 69] [(70, .bool true)] ([((j69 : Nat) : Int) < ((mn : Nat) : Int)]) (fun _ => by kernel_rfl) (al1 q874) ?_
          refine done_seq ?_
          refine at_seq ?_
          refine at_true (by kernel_rfl) ?_
          refine at_skip ?_
          refine done_seq ?_
          refine at_seq ?_
          refine at_block ?_
          refine at_seq ?_
          obtain ⟨b877, o877, rfl⟩ := hns.pos (i := j69) (by omega)
          obtain ⟨x879, hx879⟩ := get_some (l := ns) (m := j69) (by omega)
          refine aq [(1, .at b877 o877 j69), (2, .go (outs b877 (o877 + j69 * 1) [.int .i64 x879]))] [0, 1, 7, 9, 20, 21, 22, 67, 68, 69] [(11, .int .i64 ((j69 : Nat))), (12, .int .i64 x879)] ([(some ⟨b877, o877, none⟩ : Option Addr) = some ⟨b877, o877, none⟩, ((j69 : Nat)) = ((j69 : Nat) : Int), j69 < mn] ++ (cellsP w b877 (o877 + j69 * 1) [.int .i64 x879])) (fun _ => by kernel_rfl) (alA (al2 rfl (al2 rfl (al1 (by omega)))) (rd_pre (hns.get hx879) _ rfl)) ?_
          refine done_seq ?_
          refine at_seq ?_
          refine at_seq ?_
          by_cases q882 : ((j69 : Nat) : Int) = (12 : Int)
          ·
            refine aq [(1, .yes)] [0, 1, 7, 9, 12, 20, 21, 22, 67, 68, 69] [(75, .bool true)] ([((j69 : Nat) : Int) = (12 : Int)]) (fun _ => by kernel_rfl) (al1 q882) ?_
            refine done_seq ?_
            refine at_true (by kernel_rfl) ?_
            refine at_leave _ (by rfl) ?_
            refine done_block ?_
            refine done_seq ?_
            refine aq [(0, .fit)] [0, 1, 20, 21] [(22, .int .i64 ((j22 + 1 : Nat)))] ([Fit .i64 ((j22 + 1 : Nat))]) (fun _ => by kernel_rfl) (al1 (fit64 (by omega) (by omega))) ?_
            refine Done.drop (L' := []) ?_ (List.Sublist.cons _ (List.Sublist.cons _ (List.Sublist.cons _ (((List.sublist_append_right _ _).trans (List.sublist_append_right _ _)).trans (List.sublist_append_right _ _)))))
            exact done_round [0, 1, 20, 21, 22] (j22 + 1) (by kernel_rfl) rfl (by omega) (by first | omega | (simp only; omega))
          ·
            refine aq [(1, .no)] [0, 1, 7, 9, 12, 20, 21, 22, 67, 68, 69] [(75, .bool false)] ([¬ (((j69 : Nat) : Int) = (12 : Int))]) (fun _ => by kernel_rfl) (al1 q882) ?_
            refine done_seq ?_
            refine at_false (by kernel_rfl) ?_
            refine at_skip ?_
            refine done_seq ?_
            refine at_seq ?_
            refine at_ops ?_
            refine oq 2 [(0, .go (owns 1 0 1))] [0, 1, 7, 9, 12, 20, 21, 22, 67, 68, 69] [(77, .agg #[.slice q42 m42 cq42]), (78, .int .i64 x879)] ([]) (fun _ => by kernel_rfl) al0 ?_
            refine ops_callD (.tuple #[.agg #[.int .i64 0, .int .i64 0, .int .i64 0, .bool false, .bool false], .bool false]) (by kernel_rfl) (by kernel_rfl) (by kernel_rfl) (fun args w => Try.call18 args w) (fun w hw => by have := get_d q42 m42 cq42 ((x11.l.take 33)) x879 w (hO42.at ((hw.tailN 3).sub ((List.sublist_append_right Y122 _).trans (List.sublist_append_right Y749 _)))) hO42.len (by omega); rw [eGet_bad q262] at this; exact this) ?_
            refine om 6 [(7, .go (owns 0 0 5))] [0, 1, 7, 9, 12, 20, 21, 22, 67, 68, 69] (fun γ887 => [(13, .pointer (some ⟨γ887 0, 0, none⟩)), (14, .bool false)]) (fun γ887 L => bx (γ887 0) (#[.int .i64 0, .int .i64 0, .int .i64 0, .bool false, .bool false]) 40 :: L) (fun γ887 => []) (fun _ => by kernel_rfl) (fun γ887 => al0) (fun γ887 => ?_)
            refine ops_nil ?_
            refine done_seq ?_
            refine at_seq ?_
            refine am [] [0, 1, 7, 9, 12, 13, 14, 20, 21, 22, 67, 68, 69] (fun γ888 => [(15, .pointer (some ⟨γ888 0, 0, none⟩))]) (fun γ888 L => bx (γ888 0) (#[.int .i64 0, .int .i64 0, .int .i64 0, .bool false, .bool false]) 40 :: L) (fun γ888 => []) (fun _ => by kernel_rfl) (fun γ888 => al0) (fun γ888 => ?_)
            refine done_seq ?_
            refine at_seq ?_
            refine aq [] [0, 1, 7, 9, 12, 13, 14, 15, 20, 21, 22, 67, 68, 69] [(16, .slice none 0 0)] ([]) (fun _ => by kernel_rfl) al0 ?_
            refine done_seq ?_
            refine at_seq ?_
            refine aq [] [0, 1, 7, 9, 12, 13, 14, 15, 16, 20, 21, 22, 67, 68, 69] [(17, .bool false)] ([]) (fun _ => by kernel_rfl) al0 ?_
            refine done_seq ?_
            refine at_seq ?_
            refine at_seq ?_
            refine aq [] [0, 1, 7, 9, 12, 13, 14, 15, 16, 17, 20, 21, 22, 67, 68, 69] [(82, .bool false)] ([]) (fun _ => by kernel_rfl) al0 ?_
            refine done_seq ?_
            refine at_false (by kernel_rfl) ?_
            refine at_skip ?_
            refine done_seq ?_
            refine at_seq ?_
            refine at_ops ?_
            refine oq 11 [(0, .go (owns 1 0 5)), (1, .go (owns 0 0 5)), (2, .eqs false), (6, .eqs false), (9, .go (owns 3 0 1))] [0, 1, 7, 9, 16, 20, 21, 22, 67, 68, 69] [(100, .bool false), (101, .agg #[.slice q42 m42 cq42]), (102, .int .i64 x879)] ([EqRun Try.prog .neq 40 (.tmp 92) (.tmp 93) (.agg #[.int .i64 0, .int .i64 0, .int .i64 0, .bool false, .bool false]) (.agg #[.int .i64 0, .int .i64 0, .int .i64 0, .bool false, .bool false]) false] ++ ([EqRun Try.prog .neq 4 (.tmp 96) (.tmp 97) (.bool false) (.bool false) false])) (fun _ => by kernel_rfl) (alA (al1 (port_ne_t (a := (⟨0, 0, 0, false, false⟩ : Port)) (b := (⟨0, 0, 0, false, false⟩ : Port)) rfl)) (al1 (bool_ne false false))) ?_
            refine ops_call (fun v L' => ∃ q m capq Y, v = .slice q m capq ∧ L' = List.take 5 (bx (γ888 0) (#[.int .i64 0, .int .i64 0, .int .i64 0, .bool false, .bool false]) 40 :: bx (γ887 0) (#[.int .i64 0, .int .i64 0, .int .i64 0, .bool false, .bool false]) 40 :: bx (γ162 0) (#[.slice q122 m122 cq122]) 24 :: bx (γ142 0) (#[.slice q42 m42 cq42]) 24 :: bx (γ12 0) (#[.slice x11.p x11.n x11.cap]) 24 :: (Y749 ++ (Y122 ++ (Y42 ++ [])))) ++ (Y ++ List.drop 5 (bx (γ888 0) (#[.int .i64 0, .int .i64 0, .int .i64 0, .bool false, .bool false]) 40 :: bx (γ887 0) (#[.int .i64 0, .int .i64 0, .int .i64 0, .bool false, .bool false]) 40 :: bx (γ162 0) (#[.slice q122 m122 cq122]) 24 :: bx (γ142 0) (#[.slice q42 m42 cq42]) 24 :: bx (γ12 0) (#[.slice x11.p x11.n x11.cap]) 24 :: (Y749 ++ (Y122 ++ (Y42 ++ []))))) ∧ SlO 3 Y q m capq ([] : List Int)) (by kernel_rfl) (by kernel_rfl) (by kernel_rfl) (fun args w => Try.call22 args w) (fun w hw => by have := edue_d q42 m42 cq42 ((x11.l.take 33)) x879 w (hO42.at ((hw.tailN 5).sub ((List.sublist_append_right Y122 _).trans (List.sublist_append_right Y749 _)))) hO42.len (by omega); rw [edueV_bad q262] at this; exact this.mono fun e w' ⟨q, m, capq, Y, he, hO, hb, hY⟩ => ⟨_, _, he, ⟨q, m, capq, Y, rfl, rfl, hO⟩, hw.join hb hY 5⟩) ?_
            rintro v893 L893 ⟨q893, m893, cq893, Y893, rfl, rfl, hO893⟩
            have hm893 := hO893.len
            have hb893 : m893 ≤ 1000 := by rw [hm893]; simp
            refine oq 1 [] [0, 1, 7, 9, 20, 21, 22, 67, 68, 69, 100, 103] [(104, .slice none 0 0)] ([]) (fun _ => by kernel_rfl) al0 ?_
            refine ops_callD (.bool true) (by kernel_rfl) (by kernel_rfl) (by kernel_rfl) (fun args w => Try.call21 args w) (fun w hw => by have := sameints_d q893 m893 cq893 (([] : List Int)) none 0 0 [] w (hO893.atN (A := [_, _, _, _, _]) hw) hO893.len (by omega) Sv.nil rfl (by omega); simpa using this) ?_
            refine oq 2 [] [0, 1, 7, 9, 20, 21, 22, 67, 68, 69] [(107, .bool false)] ([]) (fun _ => by kernel_rfl) al0 ?_
            refine ops_nil ?_
            refine done_seq ?_
            refine at_false (by kernel_rfl) ?_
            refine at_skip ?_
            refine done_block ?_
            refine done_seq ?_
            refine aq [(0, .fit)] [0, 1, 7, 9, 20, 21, 22, 67, 68] [(69, .int .i64 ((j69 + 1 : Nat)))] ([Fit .i64 ((j69 + 1 : Nat))]) (fun _ => by kernel_rfl) (al1 (fit64 (by omega) (by omega))) ?_
            refine Done.drop (L' := bx (γ162 0) (#[.slice q122 m122 cq122]) 24 :: bx (γ142 0) (#[.slice q42 m42 cq42]) 24 :: bx (γ12 0) (#[.slice x11.p x11.n x11.cap]) 24 :: (Y749 ++ (Y122 ++ (Y42 ++ [])))) ?_ (List.Sublist.cons _ (List.Sublist.cons _ (List.Sublist.cons_cons _ (List.Sublist.cons_cons _ (List.Sublist.cons_cons _ (List.sublist_append_right _ _))))))
            exact done_round [0, 1, 7, 9, 20, 21, 22, 67, 68, 69] (j69 + 1) (by kernel_rfl) rfl (by omega) (by first | omega | (simp only; omega))
        ·
          refine aq [(0, .no)] [0, 1, 7, 9, 20, 21, 22, 67, 68, 69] [(70, .bool false)] ([¬ (((j69 : Nat) : Int) < ((mn : Nat) : Int))]) (fun _ => by kernel_rfl) (al1 q874) ?_
          refine done_seq ?_
          refine at_seq ?_
          refine at_false (by kernel_rfl) ?_
          refine at_leave _ (by rfl) ?_
          refine done_block ?_
          refine done_seq ?_
          refine aq [(0, .fit)] [0, 1, 20, 21] [(22, .int .i64 ((j22 + 1 : Nat)))] ([Fit .i64 ((j22 + 1 : Nat))]) (fun _ => by kernel_rfl) (al1 (fit64 (by omega) (by omega))) ?_
          refine Done.drop (L' := []) ?_ (List.Sublist.cons _ (List.Sublist.cons _ (List.Sublist.cons _ (((List.sublist_append_right _ _).trans (List.sublist_append_right _ _)).trans (List.sublist_append_right _ _)))))
          exact done_round [0, 1, 20, 21, 22] (j22 + 1) (by kernel_rfl) rfl (by omega) (by first | omega | (simp only; omega))
      ·
        refine ops_callD (.bool true) (by kernel_rfl) (by kernel_rfl) (by kernel_rfl) (fun args w => Try.call13 args w) (fun w hw => by have := rright_d q42 m42 cq42 ((x11.l.take 33)) w (hO42.atN (A := (_ :: _ :: _ :: Y122)) hw) hO42.len (by omega); rw [q262] at this; exact this) ?_
        refine oq 1 [] [0, 1, 6, 7, 8, 20, 21, 22] [(9, .bool true)] ([]) (fun _ => by kernel_rfl) al0 ?_
        refine ops_nil ?_
        refine done_seq ?_
        refine at_seq ?_
        refine at_seq ?_
        refine at_ops ?_
        refine oq 1 [(0, .go (owns 1 0 1))] [0, 1, 6, 7, 8, 9, 20, 21, 22] [(37, .agg #[.slice q42 m42 cq42])] ([]) (fun _ => by kernel_rfl) al0 ?_
        refine ops_callD (.int .i64 0) (by kernel_rfl) (by kernel_rfl) (by kernel_rfl) (fun args w => Try.call16 args w) (fun w hw => by have := check_d q42 m42 cq42 ((x11.l.take 33)) w (hO42.atN (A := (_ :: _ :: _ :: Y122)) hw) hO42.len (by omega); rw [q262] at this; exact this) ?_
        refine oq 1 [] [0, 1, 6, 7, 8, 9, 20, 21, 22] [(10, .int .i64 0)] ([]) (fun _ => by kernel_rfl) al0 ?_
        refine ops_nil ?_
        refine done_seq ?_
        refine at_seq ?_
        refine at_any (by kernel_rfl) ?_
        refine any_tk (f := 15) [0, 1, 2, 3, 4, 5, 6, 7, 8, 9, 10, 11, 12] [(3, .eqs false)] [0, 1, 6, 7, 8, 9, 20, 21, 22] [(51, .bool false)] ([EqRun Try.prog .neq 4 (.tmp 40) (.tmp 41) (.bool true) (.bool true) false]) #[true, true, true, true, true, true, true, true, true, true, true, true, true, false, false, false, false, false, false, false, false, false, false, false, false, false, false, false] (by kernel_rfl) (by kernel_rfl) (al1 (bool_ne true true)) ?_
        refine any_cutX (V := (List Ob) × (Nat) × (Nat) × (Option Addr)) (fun ⟨Y1385, cq1385, m1385, q1385⟩ => SlO 40 Y1385 q1385 m1385 cq1385 (x11.l.take 33) ∧ m1385 ≤ 33) 0 #[true, true, true, true, true, true, true, true, true, true, true, true, true, true, true, true, true, true, true, true, true, true, true, true, true, true, true, true] (fun ⟨Y1385, cq1385, m1385, q1385⟩ => [(0, .slice (some ⟨b9, o9, none⟩) m cap2), (1, .slice pn mn capn), (7, .pointer (some ⟨γ142 0, 0, none⟩)), (9, .bool true), (20, .slice (some ⟨b9, o9, none⟩) m cap2), (21, .int .i64 ((m : Nat))), (22, .int .i64 ((j22 : Nat))), (66, .bool false)]) (fun ⟨Y1385, cq1385, m1385, q1385⟩ => bx (γ162 0) (#[.slice q122 m122 cq122]) 24 :: bx (γ142 0) (#[.slice q42 m42 cq42]) 24 :: bx (γ12 0) (#[.slice x11.p x11.n x11.cap]) 24 :: (Y1385 ++ (Y122 ++ (Y42 ++ [])))) ?_ (fun hmx26 => ?_)
        rotate_left
        ·
          refine any_cutX (V := (List Ob) × (Nat) × (Nat) × (Option Addr)) (fun ⟨Y1385, cq1385, m1385, q1385⟩ => SlO 40 Y1385 q1385 m1385 cq1385 (x11.l.take 33) ∧ m1385 ≤ 33) 3 #[true, true, true, true, true, true, true, true, true, true, true, true, true, true, true, true, true, true, true, true, true, true, true, true, true, false, false, false] (fun ⟨Y1385, cq1385, m1385, q1385⟩ => [(0, .slice (some ⟨b9, o9, none⟩) m cap2), (1, .slice pn mn capn), (7, .pointer (some ⟨γ142 0, 0, none⟩)), (9, .bool true), (20, .slice (some ⟨b9, o9, none⟩) m cap2), (21, .int .i64 ((m : Nat))), (22, .int .i64 ((j22 : Nat))), (60, .bool false), (61, .agg #[.slice q42 m42 cq42]), (63, .agg #[.slice q1385 m1385 cq1385])]) (fun ⟨Y1385, cq1385, m1385, q1385⟩ => bx (γ162 0) (#[.slice q122 m122 cq122]) 24 :: bx (γ142 0) (#[.slice q42 m42 cq42]) 24 :: bx (γ12 0) (#[.slice x11.p x11.n x11.cap]) 24 :: (Y1385 ++ (Y122 ++ (Y42 ++ [])))) ?_ (fun hmx25 => ?_)
          ·
            rintro ⟨Y1385, cq1385, m1385, q1385⟩ ⟨hO1385, hm1385⟩
            refine any_one 25 _ (by kernel_rfl) rfl ?_
            refine ops_callD (.bool true) (by kernel_rfl) (by kernel_rfl) (by kernel_rfl) (fun args w => Try.call17 args w) (fun w hw => by have := same_d q42 m42 cq42 ((x11.l.take 33)) q1385 m1385 cq1385 ((x11.l.take 33)) w (hO42.at ((hw.tailN 3).sub ((List.sublist_append_right Y122 _).trans (List.sublist_append_right Y1385 _)))) hO42.len (by omega) (hO1385.atN (A := [_, _, _]) hw) hO1385.len (by omega); simpa using this) ?_
            refine ops_nil ?_
            refine done_any ?_
            refine any_tk (f := 0) [26, 27] [] [0, 1, 7, 9, 20, 21, 22] [(66, .bool false)] ([]) #[true, true, true, true, true, true, true, true, true, true, true, true, true, true, true, true, true, true, true, true, true, true, true, true, true, true, true, true] (by kernel_rfl) (by kernel_rfl) al0 ?_
            exact any_weakP (hmx26 (Y1385, cq1385, m1385, q1385) ⟨hO1385, hm1385⟩) [0, 1, 7, 9, 20, 21, 22, 66] [[bx (γ162 0) (#[.slice q122 m122 cq122]) 24], [bx (γ142 0) (#[.slice q42 m42 cq42]) 24], [bx (γ12 0) (#[.slice x11.p x11.n x11.cap]) 24], Y1385, Y122, Y42] [0, 1, 2, 3, 4, 5] (by kernel_rfl) rfl rfl (by kernel_rfl) rfl rfl
          refine any_cutX (V := (List Ob) × (Nat) × (Nat) × (Option Addr)) (fun ⟨Y1385, cq1385, m1385, q1385⟩ => SlO 40 Y1385 q1385 m1385 cq1385 (x11.l.take 33) ∧ m1385 ≤ 33) 4 #[true, true, true, true, true, true, true, true, true, true, true, true, true, true, true, true, true, true, true, true, true, true, false, true, true, false, false, false] (fun ⟨Y1385, cq1385, m1385, q1385⟩ => [(0, .slice (some ⟨b9, o9, none⟩) m cap2), (1, .slice pn mn capn), (7, .pointer (some ⟨γ142 0, 0, none⟩)), (9, .bool true), (20, .slice (some ⟨b9, o9, none⟩) m cap2), (21, .int .i64 ((m : Nat))), (22, .int .i64 ((j22 : Nat))), (60, .bool false), (63, .agg #[.slice q1385 m1385 cq1385])]) (fun ⟨Y1385, cq1385, m1385, q1385⟩ => bx (γ162 0) (#[.slice q122 m122 cq122]) 24 :: bx (γ142 0) (#[.slice q42 m42 cq42]) 24 :: bx (γ12 0) (#[.slice x11.p x11.n x11.cap]) 24 :: (Y1385 ++ (Y122 ++ (Y42 ++ [])))) ?_ (fun hmx24 => ?_)
          ·
            rintro ⟨Y1385, cq1385, m1385, q1385⟩ ⟨hO1385, hm1385⟩
            refine any_one 22 _ (by kernel_rfl) rfl ?_
            refine oq 1 [(22, .go (owns 1 0 1))] [0, 1, 7, 9, 20, 21, 22, 60, 63] [(61, .agg #[.slice q42 m42 cq42])] ([]) (fun _ => by kernel_rfl) al0 ?_
            refine ops_nil ?_
            refine done_any ?_
            exact any_weakP (hmx25 (Y1385, cq1385, m1385, q1385) ⟨hO1385, hm1385⟩) [0, 1, 7, 9, 20, 21, 22, 60, 61, 63] [[bx (γ162 0) (#[.slice q122 m122 cq122]) 24], [bx (γ142 0) (#[.slice q42 m42 cq42]) 24], [bx (γ12 0) (#[.slice x11.p x11.n x11.cap]) 24], Y1385, Y122, Y42] [0, 1, 2, 3, 4, 5] (by kernel_rfl) rfl rfl (by kernel_rfl) rfl rfl
          refine any_cutX (V := Unit) (fun _ => True) 4 #[true, true, true, true, true, true, true, true, true, true, true, true, true, true, true, true, true, true, true, true, true, true, true, true, false, false, false, false] (fun _ => [(0, .slice (some ⟨b9, o9, none⟩) m cap2), (1, .slice pn mn capn), (7, .pointer (some ⟨γ142 0, 0, none⟩)), (9, .bool true), (20, .slice (some ⟨b9, o9, none⟩) m cap2), (21, .int .i64 ((m : Nat))), (22, .int .i64 ((j22 : Nat))), (60, .bool false), (61, .agg #[.slice q42 m42 cq42]), (62, .agg #[.slice x11.p x11.n x11.cap])]) (fun _ => bx (γ162 0) (#[.slice q122 m122 cq122]) 24 :: bx (γ142 0) (#[.slice q42 m42 cq42]) 24 :: bx (γ12 0) (#[.slice x11.p x11.n x11.cap]) 24 :: (Y122 ++ (Y42 ++ []))) ?_ (fun hmx23 => ?_)
          ·
            rintro _ _
            refine any_one 24 _ (by kernel_rfl) rfl ?_
            refine ops_call (fun v L' => ∃ q m capq Y, v = .agg #[.slice q m capq] ∧ L' = List.take 3 (bx (γ162 0) (#[.slice q122 m122 cq122]) 24 :: bx (γ142 0) (#[.slice q42 m42 cq42]) 24 :: bx (γ12 0) (#[.slice x11.p x11.n x11.cap]) 24 :: (Y122 ++ (Y42 ++ []))) ++ (Y ++ List.drop 3 (bx (γ162 0) (#[.slice q122 m122 cq122]) 24 :: bx (γ142 0) (#[.slice q42 m42 cq42]) 24 :: bx (γ12 0) (#[.slice x11.p x11.n x11.cap]) 24 :: (Y122 ++ (Y42 ++ [])))) ∧ SlO 40 Y q m capq (x11.l.take 33) ∧ m ≤ 33) (by kernel_rfl) (by kernel_rfl) (by kernel_rfl) (fun args w => Try.call11 args w) (fun w hw => (short_d x11.p x11.n x11.cap x11.l w (hsx11.kept hw.below) hlx11 (by omega) (by omega)).mono fun e w' ⟨q, m, capq, Y, he, hO, hm, hb, hY⟩ => ⟨_, _, he, ⟨q, m, capq, Y, rfl, rfl, hO, hm⟩, hw.join hb hY 3⟩) ?_
            rintro v1385 L1385 ⟨q1385, m1385, cq1385, Y1385, rfl, rfl, hO1385, hm1385⟩
            refine ops_nil ?_
            refine done_any ?_
            exact any_weakP (hmx25 (Y1385, cq1385, m1385, q1385) ⟨hO1385, hm1385⟩) [0, 1, 7, 9, 20, 21, 22, 60, 61, 63] [[bx (γ162 0) (#[.slice q122 m122 cq122]) 24], [bx (γ142 0) (#[.slice q42 m42 cq42]) 24], [bx (γ12 0) (#[.slice x11.p x11.n x11.cap]) 24], Y1385, Y122, Y42] [0, 1, 2, 3, 4, 5] (by kernel_rfl) rfl rfl (by kernel_rfl) rfl rfl
          refine any_cutX (V := Unit) (fun _ => True) 5 #[true, true, true, true, true, true, true, true, true, true, true, true, true, true, true, true, true, true, true, true, true, true, false, true, false, false, false, false] (fun _ => [(0, .slice (some ⟨b9, o9, none⟩) m cap2), (1, .slice pn mn capn), (7, .pointer (some ⟨γ142 0, 0, none⟩)), (9, .bool true), (20, .slice (some ⟨b9, o9, none⟩) m cap2), (21, .int .i64 ((m : Nat))), (22, .int .i64 ((j22 : Nat))), (60, .bool false), (62, .agg #[.slice x11.p x11.n x11.cap])]) (fun _ => bx (γ162 0) (#[.slice q122 m122 cq122]) 24 :: bx (γ142 0) (#[.slice q42 m42 cq42]) 24 :: bx (γ12 0) (#[.slice x11.p x11.n x11.cap]) 24 :: (Y122 ++ (Y42 ++ []))) ?_ (fun hmx22 => ?_)
          ·
            rintro _ _
            refine any_fork [22, 24] (by kernel_rfl) (by simp) (each_cons _ rfl ?_ (each_cons _ rfl ?_ (each_nil)))
            ·
              refine oq 1 [(22, .go (owns 1 0 1))] [0, 1, 7, 9, 20, 21, 22, 60, 62] [(61, .agg #[.slice q42 m42 cq42])] ([]) (fun _ => by kernel_rfl) al0 ?_
              refine ops_nil ?_
              refine done_any ?_
              exact any_weakP (hmx23 () trivial) [0, 1, 7, 9, 20, 21, 22, 60, 61, 62] [[bx (γ162 0) (#[.slice q122 m122 cq122]) 24], [bx (γ142 0) (#[.slice q42 m42 cq42]) 24], [bx (γ12 0) (#[.slice x11.p x11.n x11.cap]) 24], Y122, Y42] [0, 1, 2, 3, 4] (by kernel_rfl) rfl rfl (by kernel_rfl) rfl rfl
            ·
              refine ops_call (fun v L' => ∃ q m capq Y, v = .agg #[.slice q m capq] ∧ L' = List.take 3 (bx (γ162 0) (#[.slice q122 m122 cq122]) 24 :: bx (γ142 0) (#[.slice q42 m42 cq42]) 24 :: bx (γ12 0) (#[.slice x11.p x11.n x11.cap]) 24 :: (Y122 ++ (Y42 ++ []))) ++ (Y ++ List.drop 3 (bx (γ162 0) (#[.slice q122 m122 cq122]) 24 :: bx (γ142 0) (#[.slice q42 m42 cq42]) 24 :: bx (γ12 0) (#[.slice x11.p x11.n x11.cap]) 24 :: (Y122 ++ (Y42 ++ [])))) ∧ SlO 40 Y q m capq (x11.l.take 33) ∧ m ≤ 33) (by kernel_rfl) (by kernel_rfl) (by kernel_rfl) (fun args w => Try.call11 args w) (fun w hw => (short_d x11.p x11.n x11.cap x11.l w (hsx11.kept hw.below) hlx11 (by omega) (by omega)).mono fun e w' ⟨q, m, capq, Y, he, hO, hm, hb, hY⟩ => ⟨_, _, he, ⟨q, m, capq, Y, rfl, rfl, hO, hm⟩, hw.join hb hY 3⟩) ?_
              rintro v1385 L1385 ⟨q1385, m1385, cq1385, Y1385, rfl, rfl, hO1385, hm1385⟩
              refine ops_nil ?_
              refine done_any ?_
              exact any_weakP (hmx24 (Y1385, cq1385, m1385, q1385) ⟨hO1385, hm1385⟩) [0, 1, 7, 9, 20, 21, 22, 60, 63] [[bx (γ162 0) (#[.slice q122 m122 cq122]) 24], [bx (γ142 0) (#[.slice q42 m42 cq42]) 24], [bx (γ12 0) (#[.slice x11.p x11.n x11.cap]) 24], Y1385, Y122, Y42] [0, 1, 2, 3, 4, 5] (by kernel_rfl) rfl rfl (by kernel_rfl) rfl rfl
          refine any_cutX (V := Unit) (fun _ => True) 5 #[true, true, true, true, true, true, true, true, true, true, true, true, true, true, true, true, true, true, true, true, true, true, true, false, false, false, false, false] (fun _ => [(0, .slice (some ⟨b9, o9, none⟩) m cap2), (1, .slice pn mn capn), (6, .pointer (some ⟨γ12 0, 0, none⟩)), (7, .pointer (some ⟨γ142 0, 0, none⟩)), (9, .bool true), (20, .slice (some ⟨b9, o9, none⟩) m cap2), (21, .int .i64 ((m : Nat))), (22, .int .i64 ((j22 : Nat))), (60, .bool false), (61, .agg #[.slice q42 m42 cq42])]) (fun _ => bx (γ162 0) (#[.slice q122 m122 cq122]) 24 :: bx (γ142 0) (#[.slice q42 m42 cq42]) 24 :: bx (γ12 0) (#[.slice x11.p x11.n x11.cap]) 24 :: (Y122 ++ (Y42 ++ []))) ?_ (fun hmx21 => ?_)
          ·
            rintro _ _
            refine any_one 23 _ (by kernel_rfl) rfl ?_
            refine oq 1 [(23, .go (owns 2 0 1))] [0, 1, 7, 9, 20, 21, 22, 60, 61] [(62, .agg #[.slice x11.p x11.n x11.cap])] ([]) (fun _ => by kernel_rfl) al0 ?_
            refine ops_nil ?_
            refine done_any ?_
            exact any_weakP (hmx23 () trivial) [0, 1, 7, 9, 20, 21, 22, 60, 61, 62] [[bx (γ162 0) (#[.slice q122 m122 cq122]) 24], [bx (γ142 0) (#[.slice q42 m42 cq42]) 24], [bx (γ12 0) (#[.slice x11.p x11.n x11.cap]) 24], Y122, Y42] [0, 1, 2, 3, 4] (by kernel_rfl) rfl rfl (by kernel_rfl) rfl rfl
          refine any_cutX (V := Unit) (fun _ => True) 6 #[true, true, true, true, true, true, true, true, true, true, true, true, true, true, true, true, true, true, true, true, true, true, false, false, false, false, false, false] (fun _ => [(0, .slice (some ⟨b9, o9, none⟩) m cap2), (1, .slice pn mn capn), (6, .pointer (some ⟨γ12 0, 0, none⟩)), (7, .pointer (some ⟨γ142 0, 0, none⟩)), (9, .bool true), (20, .slice (some ⟨b9, o9, none⟩) m cap2), (21, .int .i64 ((m : Nat))), (22, .int .i64 ((j22 : Nat))), (60, .bool false)]) (fun _ => bx (γ162 0) (#[.slice q122 m122 cq122]) 24 :: bx (γ142 0) (#[.slice q42 m42 cq42]) 24 :: bx (γ12 0) (#[.slice x11.p x11.n x11.cap]) 24 :: (Y122 ++ (Y42 ++ []))) ?_ (fun hmx20 => ?_)
          ·
            rintro _ _
            refine any_fork [22, 23] (by kernel_rfl) (by simp) (each_cons _ rfl ?_ (each_cons _ rfl ?_ (each_nil)))
            ·
              refine oq 1 [(22, .go (owns 1 0 1))] [0, 1, 6, 7, 9, 20, 21, 22, 60] [(61, .agg #[.slice q42 m42 cq42])] ([]) (fun _ => by kernel_rfl) al0 ?_
              refine ops_nil ?_
              refine done_any ?_
              exact any_weakP (hmx21 () trivial) [0, 1, 6, 7, 9, 20, 21, 22, 60, 61] [[bx (γ162 0) (#[.slice q122 m122 cq122]) 24], [bx (γ142 0) (#[.slice q42 m42 cq42]) 24], [bx (γ12 0) (#[.slice x11.p x11.n x11.cap]) 24], Y122, Y42] [0, 1, 2, 3, 4] (by kernel_rfl) rfl rfl (by kernel_rfl) rfl rfl
            ·
              refine oq 1 [(23, .go (owns 2 0 1))] [0, 1, 7, 9, 20, 21, 22, 60] [(62, .agg #[.slice x11.p x11.n x11.cap])] ([]) (fun _ => by kernel_rfl) al0 ?_
              refine ops_nil ?_
              refine done_any ?_
              exact any_weakP (hmx22 () trivial) [0, 1, 7, 9, 20, 21, 22, 60, 62] [[bx (γ162 0) (#[.slice q122 m122 cq122]) 24], [bx (γ142 0) (#[.slice q42 m42 cq42]) 24], [bx (γ12 0) (#[.slice x11.p x11.n x11.cap]) 24], Y122, Y42] [0, 1, 2, 3, 4] (by kernel_rfl) rfl rfl (by kernel_rfl) rfl rfl
          refine any_cutX (V := Unit) (fun _ => True) 10 #[true, true, true, true, true, true, true, true, true, true, true, true, true, true, true, true, true, true, false, false, false, false, false, false, false, false, false, false] (fun _ => [(0, .slice (some ⟨b9, o9, none⟩) m cap2), (1, .slice pn mn capn), (6, .pointer (some ⟨γ12 0, 0, none⟩)), (7, .pointer (some ⟨γ142 0, 0, none⟩)), (9, .bool true), (20, .slice (some ⟨b9, o9, none⟩) m cap2), (21, .int .i64 ((m : Nat))), (22, .int .i64 ((j22 : Nat))), (51, .bool false), (54, .bool (decide ((x11.l.take 33) = (x18.l.take 33)))), (55, .agg #[.slice q42 m42 cq42]), (56, .agg #[.slice q122 m122 cq122])]) (fun _ => bx (γ162 0) (#[.slice q122 m122 cq122]) 24 :: bx (γ142 0) (#[.slice q42 m42 cq42]) 24 :: bx (γ12 0) (#[.slice x11.p x11.n x11.cap]) 24 :: (Y122 ++ (Y42 ++ []))) ?_ (fun hmx19 => ?_)
          ·
            rintro _ _
            refine any_one 18 _ (by kernel_rfl) rfl ?_
            refine ops_callD (.bool (decide ((x11.l.take 33) = (x18.l.take 33)))) (by kernel_rfl) (by kernel_rfl) (by kernel_rfl) (fun args w => Try.call15 args w) (fun w hw => by have := rsame_d q42 m42 cq42 ((x11.l.take 33)) q122 m122 cq122 ((x18.l.take 33)) w (hO42.atN (A := (_ :: _ :: _ :: Y122)) hw) hO42.len (by omega) (hO122.atN (A := [_, _, _]) hw) hO122.len (by omega); exact this) ?_
            refine ops_nil ?_
            refine done_any ?_
            refine any_tk (f := 6) [19, 20, 21] [(19, .eqs false)] [0, 1, 6, 7, 9, 20, 21, 22] [(60, .bool false)] ([EqRun Try.prog .neq 4 (.tmp 54) (.tmp 57) (.bool (decide ((x11.l.take 33) = (x18.l.take 33)))) (.bool (decide ((x11.l.take 33) = (x18.l.take 33)))) false]) #[true, true, true, true, true, true, true, true, true, true, true, true, true, true, true, true, true, true, true, true, true, true, false, false, false, false, false, false] (by kernel_rfl) (by kernel_rfl) (al1 (bool_same _)) ?_
            exact any_weakP (hmx20 () trivial) [0, 1, 6, 7, 9, 20, 21, 22, 60] [[bx (γ162 0) (#[.slice q122 m122 cq122]) 24], [bx (γ142 0) (#[.slice q42 m42 cq42]) 24], [bx (γ12 0) (#[.slice x11.p x11.n x11.cap]) 24], Y122, Y42] [0, 1, 2, 3, 4] (by kernel_rfl) rfl rfl (by kernel_rfl) rfl rfl
          refine any_cutX (V := Unit) (fun _ => True) 11 #[true, true, true, true, true, true, true, true, true, true, true, true, true, true, true, false, true, true, false, false, false, false, false, false, false, false, false, false] (fun _ => [(0, .slice (some ⟨b9, o9, none⟩) m cap2), (1, .slice pn mn capn), (6, .pointer (some ⟨γ12 0, 0, none⟩)), (7, .pointer (some ⟨γ142 0, 0, none⟩)), (9, .bool true), (20, .slice (some ⟨b9, o9, none⟩) m cap2), (21, .int .i64 ((m : Nat))), (22, .int .i64 ((j22 : Nat))), (51, .bool false), (52, .agg #[.slice q42 m42 cq42]), (53, .agg #[.slice q122 m122 cq122]), (55, .agg #[.slice q42 m42 cq42]), (56, .agg #[.slice q122 m122 cq122])]) (fun _ => bx (γ162 0) (#[.slice q122 m122 cq122]) 24 :: bx (γ142 0) (#[.slice q42 m42 cq42]) 24 :: bx (γ12 0) (#[.slice x11.p x11.n x11.cap]) 24 :: (Y122 ++ (Y42 ++ []))) ?_ (fun hmx18 => ?_)
          ·
            rintro _ _
            refine any_one 15 _ (by kernel_rfl) rfl ?_
            refine ops_callD (.bool (decide ((x11.l.take 33) = (x18.l.take 33)))) (by kernel_rfl) (by kernel_rfl) (by kernel_rfl) (fun args w => Try.call17 args w) (fun w hw => by have := same_d q42 m42 cq42 ((x11.l.take 33)) q122 m122 cq122 ((x18.l.take 33)) w (hO42.atN (A := (_ :: _ :: _ :: Y122)) hw) hO42.len (by omega) (hO122.atN (A := [_, _, _]) hw) hO122.len (by omega); exact this) ?_
            refine ops_nil ?_
            refine done_any ?_
            exact any_weakP (hmx19 () trivial) [0, 1, 6, 7, 9, 20, 21, 22, 51, 54, 55, 56] [[bx (γ162 0) (#[.slice q122 m122 cq122]) 24], [bx (γ142 0) (#[.slice q42 m42 cq42]) 24], [bx (γ12 0) (#[.slice x11.p x11.n x11.cap]) 24], Y122, Y42] [0, 1, 2, 3, 4] (by kernel_rfl) rfl rfl (by kernel_rfl) rfl rfl
          refine any_cutX (V := Unit) (fun _ => True) 11 #[true, true, true, true, true, true, true, true, true, true, true, true, true, true, true, true, false, true, false, false, false, false, false, false, false, false, false, false] (fun _ => [(0, .slice (some ⟨b9, o9, none⟩) m cap2), (1, .slice pn mn capn), (6, .pointer (some ⟨γ12 0, 0, none⟩)), (7, .pointer (some ⟨γ142 0, 0, none⟩)), (9, .bool true), (20, .slice (some ⟨b9, o9, none⟩) m cap2), (21, .int .i64 ((m : Nat))), (22, .int .i64 ((j22 : Nat))), (51, .bool false), (54, .bool (decide ((x11.l.take 33) = (x18.l.take 33)))), (56, .agg #[.slice q122 m122 cq122])]) (fun _ => bx (γ162 0) (#[.slice q122 m122 cq122]) 24 :: bx (γ142 0) (#[.slice q42 m42 cq42]) 24 :: bx (γ12 0) (#[.slice x11.p x11.n x11.cap]) 24 :: (Y122 ++ (Y42 ++ []))) ?_ (fun hmx17 => ?_)
          ·
            rintro _ _
            refine any_one 16 _ (by kernel_rfl) rfl ?_
            refine oq 1 [(16, .go (owns 1 0 1))] [0, 1, 6, 7, 9, 20, 21, 22, 51, 54, 56] [(55, .agg #[.slice q42 m42 cq42])] ([]) (fun _ => by kernel_rfl) al0 ?_
            refine ops_nil ?_
            refine done_any ?_
            exact any_weakP (hmx19 () trivial) [0, 1, 6, 7, 9, 20, 21, 22, 51, 54, 55, 56] [[bx (γ162 0) (#[.slice q122 m122 cq122]) 24], [bx (γ142 0) (#[.slice q42 m42 cq42]) 24], [bx (γ12 0) (#[.slice x11.p x11.n x11.cap]) 24], Y122, Y42] [0, 1, 2, 3, 4] (by kernel_rfl) rfl rfl (by kernel_rfl) rfl rfl
          refine any_cutX (V := Unit) (fun _ => True) 11 #[true, true, true, true, true, true, true, true, true, true, true, true, true, true, true, true, true, false, false, false, false, false, false, false, false, false, false, false] (fun _ => [(0, .slice (some ⟨b9, o9, none⟩) m cap2), (1, .slice pn mn capn), (6, .pointer (some ⟨γ12 0, 0, none⟩)), (7, .pointer (some ⟨γ142 0, 0, none⟩)), (8, .pointer (some ⟨γ162 0, 0, none⟩)), (9, .bool true), (20, .slice (some ⟨b9, o9, none⟩) m cap2), (21, .int .i64 ((m : Nat))), (22, .int .i64 ((j22 : Nat))), (51, .bool false), (54, .bool (decide ((x11.l.take 33) = (x18.l.take 33)))), (55, .agg #[.slice q42 m42 cq42])]) (fun _ => bx (γ162 0) (#[.slice q122 m122 cq122]) 24 :: bx (γ142 0) (#[.slice q42 m42 cq42]) 24 :: bx (γ12 0) (#[.slice x11.p x11.n x11.cap]) 24 :: (Y122 ++ (Y42 ++ []))) ?_ (fun hmx16 => ?_)
          ·
            rintro _ _
            refine any_one 17 _ (by kernel_rfl) rfl ?_
            refine oq 1 [(17, .go (owns 0 0 1))] [0, 1, 6, 7, 9, 20, 21, 22, 51, 54, 55] [(56, .agg #[.slice q122 m122 cq122])] ([]) (fun _ => by kernel_rfl) al0 ?_
            refine ops_nil ?_
            refine done_any ?_
            exact any_weakP (hmx19 () trivial) [0, 1, 6, 7, 9, 20, 21, 22, 51, 54, 55, 56] [[bx (γ162 0) (#[.slice q122 m122 cq122]) 24], [bx (γ142 0) (#[.slice q42 m42 cq42]) 24], [bx (γ12 0) (#[.slice x11.p x11.n x11.cap]) 24], Y122, Y42] [0, 1, 2, 3, 4] (by kernel_rfl) rfl rfl (by kernel_rfl) rfl rfl
          refine any_cutX (V := Unit) (fun _ => True) 12 #[true, true, true, true, true, true, true, true, true, true, true, true, true, false, true, false, true, true, false, false, false, false, false, false, false, false, false, false] (fun _ => [(0, .slice (some ⟨b9, o9, none⟩) m cap2), (1, .slice pn mn capn), (6, .pointer (some ⟨γ12 0, 0, none⟩)), (7, .pointer (some ⟨γ142 0, 0, none⟩)), (9, .bool true), (20, .slice (some ⟨b9, o9, none⟩) m cap2), (21, .int .i64 ((m : Nat))), (22, .int .i64 ((j22 : Nat))), (51, .bool false), (53, .agg #[.slice q122 m122 cq122]), (55, .agg #[.slice q42 m42 cq42]), (56, .agg #[.slice q122 m122 cq122])]) (fun _ => bx (γ162 0) (#[.slice q122 m122 cq122]) 24 :: bx (γ142 0) (#[.slice q42 m42 cq42]) 24 :: bx (γ12 0) (#[.slice x11.p x11.n x11.cap]) 24 :: (Y122 ++ (Y42 ++ []))) ?_ (fun hmx15 => ?_)
          ·
            rintro _ _
            refine any_one 13 _ (by kernel_rfl) rfl ?_
            refine oq 1 [(13, .go (owns 1 0 1))] [0, 1, 6, 7, 9, 20, 21, 22, 51, 53, 55, 56] [(52, .agg #[.slice q42 m42 cq42])] ([]) (fun _ => by kernel_rfl) al0 ?_
            refine ops_nil ?_
            refine done_any ?_
            exact any_weakP (hmx18 () trivial) [0, 1, 6, 7, 9, 20, 21, 22, 51, 52, 53, 55, 56] [[bx (γ162 0) (#[.slice q122 m122 cq122]) 24], [bx (γ142 0) (#[.slice q42 m42 cq42]) 24], [bx (γ12 0) (#[.slice x11.p x11.n x11.cap]) 24], Y122, Y42] [0, 1, 2, 3, 4] (by kernel_rfl) rfl rfl (by kernel_rfl) rfl rfl
          refine any_cutX (V := Unit) (fun _ => True) 12 #[true, true, true, true, true, true, true, true, true, true, true, true, true, true, false, false, true, true, false, false, false, false, false, false, false, false, false, false] (fun _ => [(0, .slice (some ⟨b9, o9, none⟩) m cap2), (1, .slice pn mn capn), (6, .pointer (some ⟨γ12 0, 0, none⟩)), (7, .pointer (some ⟨γ142 0, 0, none⟩)), (8, .pointer (some ⟨γ162 0, 0, none⟩)), (9, .bool true), (20, .slice (some ⟨b9, o9, none⟩) m cap2), (21, .int .i64 ((m : Nat))), (22, .int .i64 ((j22 : Nat))), (51, .bool false), (52, .agg #[.slice q42 m42 cq42]), (55, .agg #[.slice q42 m42 cq42]), (56, .agg #[.slice q122 m122 cq122])]) (fun _ => bx (γ162 0) (#[.slice q122 m122 cq122]) 24 :: bx (γ142 0) (#[.slice q42 m42 cq42]) 24 :: bx (γ12 0) (#[.slice x11.p x11.n x11.cap]) 24 :: (Y122 ++ (Y42 ++ []))) ?_ (fun hmx14 => ?_)
          ·
            rintro _ _
            refine any_one 14 _ (by kernel_rfl) rfl ?_
            refine oq 1 [(14, .go (owns 0 0 1))] [0, 1, 6, 7, 9, 20, 21, 22, 51, 52, 55, 56] [(53, .agg #[.slice q122 m122 cq122])] ([]) (fun _ => by kernel_rfl) al0 ?_
            refine ops_nil ?_
            refine done_any ?_
            exact any_weakP (hmx18 () trivial) [0, 1, 6, 7, 9, 20, 21, 22, 51, 52, 53, 55, 56] [[bx (γ162 0) (#[.slice q122 m122 cq122]) 24], [bx (γ142 0) (#[.slice q42 m42 cq42]) 24], [bx (γ12 0) (#[.slice x11.p x11.n x11.cap]) 24], Y122, Y42] [0, 1, 2, 3, 4] (by kernel_rfl) rfl rfl (by kernel_rfl) rfl rfl
          refine any_cutX (V := Unit) (fun _ => True) 12 #[true, true, true, true, true, true, true, true, true, true, true, true, true, true, true, false, false, true, false, false, false, false, false, false, false, false, false, false] (fun _ => [(0, .slice (some ⟨b9, o9, none⟩) m cap2), (1, .slice pn mn capn), (6, .pointer (some ⟨γ12 0, 0, none⟩)), (7, .pointer (some ⟨γ142 0, 0, none⟩)), (9, .bool true), (20, .slice (some ⟨b9, o9, none⟩) m cap2), (21, .int .i64 ((m : Nat))), (22, .int .i64 ((j22 : Nat))), (51, .bool false), (52, .agg #[.slice q42 m42 cq42]), (53, .agg #[.slice q122 m122 cq122]), (56, .agg #[.slice q122 m122 cq122])]) (fun _ => bx (γ162 0) (#[.slice q122 m122 cq122]) 24 :: bx (γ142 0) (#[.slice q42 m42 cq42]) 24 :: bx (γ12 0) (#[.slice x11.p x11.n x11.cap]) 24 :: (Y122 ++ (Y42 ++ []))) ?_ (fun hmx13 => ?_)
          ·
            rintro _ _
            refine any_fork [15, 16] (by kernel_rfl) (by simp) (each_cons _ rfl ?_ (each_cons _ rfl ?_ (each_nil)))
            ·
              refine ops_callD (.bool (decide ((x11.l.take 33) = (x18.l.take 33)))) (by kernel_rfl) (by kernel_rfl) (by kernel_rfl) (fun args w => Try.call17 args w) (fun w hw => by have := same_d q42 m42 cq42 ((x11.l.take 33)) q122 m122 cq122 ((x18.l.take 33)) w (hO42.atN (A := (_ :: _ :: _ :: Y122)) hw) hO42.len (by omega) (hO122.atN (A := [_, _, _]) hw) hO122.len (by omega); exact this) ?_
              refine ops_nil ?_
              refine done_any ?_
              exact any_weakP (hmx17 () trivial) [0, 1, 6, 7, 9, 20, 21, 22, 51, 54, 56] [[bx (γ162 0) (#[.slice q122 m122 cq122]) 24], [bx (γ142 0) (#[.slice q42 m42 cq42]) 24], [bx (γ12 0) (#[.slice x11.p x11.n x11.cap]) 24], Y122, Y42] [0, 1, 2, 3, 4] (by kernel_rfl) rfl rfl (by kernel_rfl) rfl rfl
            ·
              refine oq 1 [(16, .go (owns 1 0 1))] [0, 1, 6, 7, 9, 20, 21, 22, 51, 52, 53, 56] [(55, .agg #[.slice q42 m42 cq42])] ([]) (fun _ => by kernel_rfl) al0 ?_
              refine ops_nil ?_
              refine done_any ?_
              exact any_weakP (hmx18 () trivial) [0, 1, 6, 7, 9, 20, 21, 22, 51, 52, 53, 55, 56] [[bx (γ162 0) (#[.slice q122 m122 cq122]) 24], [bx (γ142 0) (#[.slice q42 m42 cq42]) 24], [bx (γ12 0) (#[.slice x11.p x11.n x11.cap]) 24], Y122, Y42] [0, 1, 2, 3, 4] (by kernel_rfl) rfl rfl (by kernel_rfl) rfl rfl
          refine any_cutX (V := Unit) (fun _ => True) 12 #[true, true, true, true, true, true, true, true, true, true, true, true, true, true, true, false, true, false, false, false, false, false, false, false, false, false, false, false] (fun _ => [(0, .slice (some ⟨b9, o9, none⟩) m cap2), (1, .slice pn mn capn), (6, .pointer (some ⟨γ12 0, 0, none⟩)), (7, .pointer (some ⟨γ142 0, 0, none⟩)), (8, .pointer (some ⟨γ162 0, 0, none⟩)), (9, .bool true), (20, .slice (some ⟨b9, o9, none⟩) m cap2), (21, .int .i64 ((m : Nat))), (22, .int .i64 ((j22 : Nat))), (51, .bool false), (52, .agg #[.slice q42 m42 cq42]), (53, .agg #[.slice q122 m122 cq122]), (55, .agg #[.slice q42 m42 cq42])]) (fun _ => bx (γ162 0) (#[.slice q122 m122 cq122]) 24 :: bx (γ142 0) (#[.slice q42 m42 cq42]) 24 :: bx (γ12 0) (#[.slice x11.p x11.n x11.cap]) 24 :: (Y122 ++ (Y42 ++ []))) ?_ (fun hmx12 => ?_)
          ·
            rintro _ _
            refine any_fork [15, 17] (by kernel_rfl) (by simp) (each_cons _ rfl ?_ (each_cons _ rfl ?_ (each_nil)))
            ·
              refine ops_callD (.bool (decide ((x11.l.take 33) = (x18.l.take 33)))) (by kernel_rfl) (by kernel_rfl) (by kernel_rfl) (fun args w => Try.call17 args w) (fun w hw => by have := same_d q42 m42 cq42 ((x11.l.take 33)) q122 m122 cq122 ((x18.l.take 33)) w (hO42.atN (A := (_ :: _ :: _ :: Y122)) hw) hO42.len (by omega) (hO122.atN (A := [_, _, _]) hw) hO122.len (by omega); exact this) ?_
              refine ops_nil ?_
              refine done_any ?_
              exact any_weakP (hmx16 () trivial) [0, 1, 6, 7, 8, 9, 20, 21, 22, 51, 54, 55] [[bx (γ162 0) (#[.slice q122 m122 cq122]) 24], [bx (γ142 0) (#[.slice q42 m42 cq42]) 24], [bx (γ12 0) (#[.slice x11.p x11.n x11.cap]) 24], Y122, Y42] [0, 1, 2, 3, 4] (by kernel_rfl) rfl rfl (by kernel_rfl) rfl rfl
            ·
              refine oq 1 [(17, .go (owns 0 0 1))] [0, 1, 6, 7, 9, 20, 21, 22, 51, 52, 53, 55] [(56, .agg #[.slice q122 m122 cq122])] ([]) (fun _ => by kernel_rfl) al0 ?_
              refine ops_nil ?_
              refine done_any ?_
              exact any_weakP (hmx18 () trivial) [0, 1, 6, 7, 9, 20, 21, 22, 51, 52, 53, 55, 56] [[bx (γ162 0) (#[.slice q122 m122 cq122]) 24], [bx (γ142 0) (#[.slice q42 m42 cq42]) 24], [bx (γ12 0) (#[.slice x11.p x11.n x11.cap]) 24], Y122, Y42] [0, 1, 2, 3, 4] (by kernel_rfl) rfl rfl (by kernel_rfl) rfl rfl
          refine any_cutX (V := Unit) (fun _ => True) 12 #[true, true, true, true, true, true, true, true, true, true, true, true, true, true, true, true, false, false, false, false, false, false, false, false, false, false, false, false] (fun _ => [(0, .slice (some ⟨b9, o9, none⟩) m cap2), (1, .slice pn mn capn), (6, .pointer (some ⟨γ12 0, 0, none⟩)), (7, .pointer (some ⟨γ142 0, 0, none⟩)), (8, .pointer (some ⟨γ162 0, 0, none⟩)), (9, .bool true), (20, .slice (some ⟨b9, o9, none⟩) m cap2), (21, .int .i64 ((m : Nat))), (22, .int .i64 ((j22 : Nat))), (51, .bool false), (54, .bool (decide ((x11.l.take 33) = (x18.l.take 33))))]) (fun _ => bx (γ162 0) (#[.slice q122 m122 cq122]) 24 :: bx (γ142 0) (#[.slice q42 m42 cq42]) 24 :: bx (γ12 0) (#[.slice x11.p x11.n x11.cap]) 24 :: (Y122 ++ (Y42 ++ []))) ?_ (fun hmx11 => ?_)
          ·
            rintro _ _
            refine any_fork [16, 17] (by kernel_rfl) (by simp) (each_cons _ rfl ?_ (each_cons _ rfl ?_ (each_nil)))
            ·
              refine oq 1 [(16, .go (owns 1 0 1))] [0, 1, 6, 7, 8, 9, 20, 21, 22, 51, 54] [(55, .agg #[.slice q42 m42 cq42])] ([]) (fun _ => by kernel_rfl) al0 ?_
              refine ops_nil ?_
              refine done_any ?_
              exact any_weakP (hmx16 () trivial) [0, 1, 6, 7, 8, 9, 20, 21, 22, 51, 54, 55] [[bx (γ162 0) (#[.slice q122 m122 cq122]) 24], [bx (γ142 0) (#[.slice q42 m42 cq42]) 24], [bx (γ12 0) (#[.slice x11.p x11.n x11.cap]) 24], Y122, Y42] [0, 1, 2, 3, 4] (by kernel_rfl) rfl rfl (by kernel_rfl) rfl rfl
            ·
              refine oq 1 [(17, .go (owns 0 0 1))] [0, 1, 6, 7, 9, 20, 21, 22, 51, 54] [(56, .agg #[.slice q122 m122 cq122])] ([]) (fun _ => by kernel_rfl) al0 ?_
              refine ops_nil ?_
              refine done_any ?_
              exact any_weakP (hmx17 () trivial) [0, 1, 6, 7, 9, 20, 21, 22, 51, 54, 56] [[bx (γ162 0) (#[.slice q122 m122 cq122]) 24], [bx (γ142 0) (#[.slice q42 m42 cq42]) 24], [bx (γ12 0) (#[.slice x11.p x11.n x11.cap]) 24], Y122, Y42] [0, 1, 2, 3, 4] (by kernel_rfl) rfl rfl (by kernel_rfl) rfl rfl
          refine any_cutX (V := Unit) (fun _ => True) 13 #[true, true, true, true, true, true, true, true, true, true, true, true, true, false, false, false, true, true, false, false, false, false, false, false, false, false, false, false] (fun _ => [(0, .slice (some ⟨b9, o9, none⟩) m cap2), (1, .slice pn mn capn), (6, .pointer (some ⟨γ12 0, 0, none⟩)), (7, .pointer (some ⟨γ142 0, 0, none⟩)), (8, .pointer (some ⟨γ162 0, 0, none⟩)), (9, .bool true), (20, .slice (some ⟨b9, o9, none⟩) m cap2), (21, .int .i64 ((m : Nat))), (22, .int .i64 ((j22 : Nat))), (51, .bool false), (55, .agg #[.slice q42 m42 cq42]), (56, .agg #[.slice q122 m122 cq122])]) (fun _ => bx (γ162 0) (#[.slice q122 m122 cq122]) 24 :: bx (γ142 0) (#[.slice q42 m42 cq42]) 24 :: bx (γ12 0) (#[.slice x11.p x11.n x11.cap]) 24 :: (Y122 ++ (Y42 ++ []))) ?_ (fun hmx10 => ?_)
          ·
            rintro _ _
            refine any_fork [13, 14] (by kernel_rfl) (by simp) (each_cons _ rfl ?_ (each_cons _ rfl ?_ (each_nil)))
            ·
              refine oq 1 [(13, .go (owns 1 0 1))] [0, 1, 6, 7, 8, 9, 20, 21, 22, 51, 55, 56] [(52, .agg #[.slice q42 m42 cq42])] ([]) (fun _ => by kernel_rfl) al0 ?_
              refine ops_nil ?_
              refine done_any ?_
              exact any_weakP (hmx14 () trivial) [0, 1, 6, 7, 8, 9, 20, 21, 22, 51, 52, 55, 56] [[bx (γ162 0) (#[.slice q122 m122 cq122]) 24], [bx (γ142 0) (#[.slice q42 m42 cq42]) 24], [bx (γ12 0) (#[.slice x11.p x11.n x11.cap]) 24], Y122, Y42] [0, 1, 2, 3, 4] (by kernel_rfl) rfl rfl (by kernel_rfl) rfl rfl
            ·
              refine oq 1 [(14, .go (owns 0 0 1))] [0, 1, 6, 7, 9, 20, 21, 22, 51, 55, 56] [(53, .agg #[.slice q122 m122 cq122])] ([]) (fun _ => by kernel_rfl) al0 ?_
              refine ops_nil ?_
              refine done_any ?_
              exact any_weakP (hmx15 () trivial) [0, 1, 6, 7, 9, 20, 21, 22, 51, 53, 55, 56] [[bx (γ162 0) (#[.slice q122 m122 cq122]) 24], [bx (γ142 0) (#[.slice q42 m42 cq42]) 24], [bx (γ12 0) (#[.slice x11.p x11.n x11.cap]) 24], Y122, Y42] [0, 1, 2, 3, 4] (by kernel_rfl) rfl rfl (by kernel_rfl) rfl rfl
          refine any_cutX (V := Unit) (fun _ => True) 13 #[true, true, true, true, true, true, true, true, true, true, true, true, true, false, true, false, false, true, false, false, false, false, false, false, false, false, false, false] (fun _ => [(0, .slice (some ⟨b9, o9, none⟩) m cap2), (1, .slice pn mn capn), (6, .pointer (some ⟨γ12 0, 0, none⟩)), (7, .pointer (some ⟨γ142 0, 0, none⟩)), (9, .bool true), (20, .slice (some ⟨b9, o9, none⟩) m cap2), (21, .int .i64 ((m : Nat))), (22, .int .i64 ((j22 : Nat))), (51, .bool false), (53, .agg #[.slice q122 m122 cq122]), (56, .agg #[.slice q122 m122 cq122])]) (fun _ => bx (γ162 0) (#[.slice q122 m122 cq122]) 24 :: bx (γ142 0) (#[.slice q42 m42 cq42]) 24 :: bx (γ12 0) (#[.slice x11.p x11.n x11.cap]) 24 :: (Y122 ++ (Y42 ++ []))) ?_ (fun hmx9 => ?_)
          ·
            rintro _ _
            refine any_fork [13, 16] (by kernel_rfl) (by simp) (each_cons _ rfl ?_ (each_cons _ rfl ?_ (each_nil)))
            ·
              refine oq 1 [(13, .go (owns 1 0 1))] [0, 1, 6, 7, 9, 20, 21, 22, 51, 53, 56] [(52, .agg #[.slice q42 m42 cq42])] ([]) (fun _ => by kernel_rfl) al0 ?_
              refine ops_nil ?_
              refine done_any ?_
              exact any_weakP (hmx13 () trivial) [0, 1, 6, 7, 9, 20, 21, 22, 51, 52, 53, 56] [[bx (γ162 0) (#[.slice q122 m122 cq122]) 24], [bx (γ142 0) (#[.slice q42 m42 cq42]) 24], [bx (γ12 0) (#[.slice x11.p x11.n x11.cap]) 24], Y122, Y42] [0, 1, 2, 3, 4] (by kernel_rfl) rfl rfl (by kernel_rfl) rfl rfl
            ·
              refine oq 1 [(16, .go (owns 1 0 1))] [0, 1, 6, 7, 9, 20, 21, 22, 51, 53, 56] [(55, .agg #[.slice q42 m42 cq42])] ([]) (fun _ => by kernel_rfl) al0 ?_
              refine ops_nil ?_
              refine done_any ?_
              exact any_weakP (hmx15 () trivial) [0, 1, 6, 7, 9, 20, 21, 22, 51, 53, 55, 56] [[bx (γ162 0) (#[.slice q122 m122 cq122]) 24], [bx (γ142 0) (#[.slice q42 m42 cq42]) 24], [bx (γ12 0) (#[.slice x11.p x11.n x11.cap]) 24], Y122, Y42] [0, 1, 2, 3, 4] (by kernel_rfl) rfl rfl (by kernel_rfl) rfl rfl
          refine any_cutX (V := Unit) (fun _ => True) 13 #[true, true, true, true, true, true, true, true, true, true, true, true, true, false, true, false, true, false, false, false, false, false, false, false, false, false, false, false] (fun _ => [(0, .slice (some ⟨b9, o9, none⟩) m cap2), (1, .slice pn mn capn), (6, .pointer (some ⟨γ12 0, 0, none⟩)), (7, .pointer (some ⟨γ142 0, 0, none⟩)), (8, .pointer (some ⟨γ162 0, 0, none⟩)), (9, .bool true), (20, .slice (some ⟨b9, o9, none⟩) m cap2), (21, .int .i64 ((m : Nat))), (22, .int .i64 ((j22 : Nat))), (51, .bool false), (53, .agg #[.slice q122 m122 cq122]), (55, .agg #[.slice q42 m42 cq42])]) (fun _ => bx (γ162 0) (#[.slice q122 m122 cq122]) 24 :: bx (γ142 0) (#[.slice q42 m42 cq42]) 24 :: bx (γ12 0) (#[.slice x11.p x11.n x11.cap]) 24 :: (Y122 ++ (Y42 ++ []))) ?_ (fun hmx8 => ?_)
          ·
            rintro _ _
            refine any_fork [13, 17] (by kernel_rfl) (by simp) (each_cons _ rfl ?_ (each_cons _ rfl ?_ (each_nil)))
            ·
              refine oq 1 [(13, .go (owns 1 0 1))] [0, 1, 6, 7, 8, 9, 20, 21, 22, 51, 53, 55] [(52, .agg #[.slice q42 m42 cq42])] ([]) (fun _ => by kernel_rfl) al0 ?_
              refine ops_nil ?_
              refine done_any ?_
              exact any_weakP (hmx12 () trivial) [0, 1, 6, 7, 8, 9, 20, 21, 22, 51, 52, 53, 55] [[bx (γ162 0) (#[.slice q122 m122 cq122]) 24], [bx (γ142 0) (#[.slice q42 m42 cq42]) 24], [bx (γ12 0) (#[.slice x11.p x11.n x11.cap]) 24], Y122, Y42] [0, 1, 2, 3, 4] (by kernel_rfl) rfl rfl (by kernel_rfl) rfl rfl
            ·
              refine oq 1 [(17, .go (owns 0 0 1))] [0, 1, 6, 7, 9, 20, 21, 22, 51, 53, 55] [(56, .agg #[.slice q122 m122 cq122])] ([]) (fun _ => by kernel_rfl) al0 ?_
              refine ops_nil ?_
              refine done_any ?_
              exact any_weakP (hmx15 () trivial) [0, 1, 6, 7, 9, 20, 21, 22, 51, 53, 55, 56] [[bx (γ162 0) (#[.slice q122 m122 cq122]) 24], [bx (γ142 0) (#[.slice q42 m42 cq42]) 24], [bx (γ12 0) (#[.slice x11.p x11.n x11.cap]) 24], Y122, Y42] [0, 1, 2, 3, 4] (by kernel_rfl) rfl rfl (by kernel_rfl) rfl rfl
          refine any_cutX (V := Unit) (fun _ => True) 13 #[true, true, true, true, true, true, true, true, true, true, true, true, true, true, false, false, false, true, false, false, false, false, false, false, false, false, false, false] (fun _ => [(0, .slice (some ⟨b9, o9, none⟩) m cap2), (1, .slice pn mn capn), (6, .pointer (some ⟨γ12 0, 0, none⟩)), (7, .pointer (some ⟨γ142 0, 0, none⟩)), (8, .pointer (some ⟨γ162 0, 0, none⟩)), (9, .bool true), (20, .slice (some ⟨b9, o9, none⟩) m cap2), (21, .int .i64 ((m : Nat))), (22, .int .i64 ((j22 : Nat))), (51, .bool false), (52, .agg #[.slice q42 m42 cq42]), (56, .agg #[.slice q122 m122 cq122])]) (fun _ => bx (γ162 0) (#[.slice q122 m122 cq122]) 24 :: bx (γ142 0) (#[.slice q42 m42 cq42]) 24 :: bx (γ12 0) (#[.slice x11.p x11.n x11.cap]) 24 :: (Y122 ++ (Y42 ++ []))) ?_ (fun hmx7 => ?_)
          ·
            rintro _ _
            refine any_fork [14, 16] (by kernel_rfl) (by simp) (each_cons _ rfl ?_ (each_cons _ rfl ?_ (each_nil)))
            ·
              refine oq 1 [(14, .go (owns 0 0 1))] [0, 1, 6, 7, 9, 20, 21, 22, 51, 52, 56] [(53, .agg #[.slice q122 m122 cq122])] ([]) (fun _ => by kernel_rfl) al0 ?_
              refine ops_nil ?_
              refine done_any ?_
              exact any_weakP (hmx13 () trivial) [0, 1, 6, 7, 9, 20, 21, 22, 51, 52, 53, 56] [[bx (γ162 0) (#[.slice q122 m122 cq122]) 24], [bx (γ142 0) (#[.slice q42 m42 cq42]) 24], [bx (γ12 0) (#[.slice x11.p x11.n x11.cap]) 24], Y122, Y42] [0, 1, 2, 3, 4] (by kernel_rfl) rfl rfl (by kernel_rfl) rfl rfl
            ·
              refine oq 1 [(16, .go (owns 1 0 1))] [0, 1, 6, 7, 8, 9, 20, 21, 22, 51, 52, 56] [(55, .agg #[.slice q42 m42 cq42])] ([]) (fun _ => by kernel_rfl) al0 ?_
              refine ops_nil ?_
              refine done_any ?_
              exact any_weakP (hmx14 () trivial) [0, 1, 6, 7, 8, 9, 20, 21, 22, 51, 52, 55, 56] [[bx (γ162 0) (#[.slice q122 m122 cq122]) 24], [bx (γ142 0) (#[.slice q42 m42 cq42]) 24], [bx (γ12 0) (#[.slice x11.p x11.n x11.cap]) 24], Y122, Y42] [0, 1, 2, 3, 4] (by kernel_rfl) rfl rfl (by kernel_rfl) rfl rfl
          refine any_cutX (V := Unit) (fun _ => True) 13 #[true, true, true, true, true, true, true, true, true, true, true, true, true, true, false, false, true, false, false, false, false, false, false, false, false, false, false, false] (fun _ => [(0, .slice (some ⟨b9, o9, none⟩) m cap2), (1, .slice pn mn capn), (6, .pointer (some ⟨γ12 0, 0, none⟩)), (7, .pointer (some ⟨γ142 0, 0, none⟩)), (8, .pointer (some ⟨γ162 0, 0, none⟩)), (9, .bool true), (20, .slice (some ⟨b9, o9, none⟩) m cap2), (21, .int .i64 ((m : Nat))), (22, .int .i64 ((j22 : Nat))), (51, .bool false), (52, .agg #[.slice q42 m42 cq42]), (55, .agg #[.slice q42 m42 cq42])]) (fun _ => bx (γ162 0) (#[.slice q122 m122 cq122]) 24 :: bx (γ142 0) (#[.slice q42 m42 cq42]) 24 :: bx (γ12 0) (#[.slice x11.p x11.n x11.cap]) 24 :: (Y122 ++ (Y42 ++ []))) ?_ (fun hmx6 => ?_)
          ·
            rintro _ _
            refine any_fork [14, 17] (by kernel_rfl) (by simp) (each_cons _ rfl ?_ (each_cons _ rfl ?_ (each_nil)))
            ·
              refine oq 1 [(14, .go (owns 0 0 1))] [0, 1, 6, 7, 8, 9, 20, 21, 22, 51, 52, 55] [(53, .agg #[.slice q122 m122 cq122])] ([]) (fun _ => by kernel_rfl) al0 ?_
              refine ops_nil ?_
              refine done_any ?_
              exact any_weakP (hmx12 () trivial) [0, 1, 6, 7, 8, 9, 20, 21, 22, 51, 52, 53, 55] [[bx (γ162 0) (#[.slice q122 m122 cq122]) 24], [bx (γ142 0) (#[.slice q42 m42 cq42]) 24], [bx (γ12 0) (#[.slice x11.p x11.n x11.cap]) 24], Y122, Y42] [0, 1, 2, 3, 4] (by kernel_rfl) rfl rfl (by kernel_rfl) rfl rfl
            ·
              refine oq 1 [(17, .go (owns 0 0 1))] [0, 1, 6, 7, 8, 9, 20, 21, 22, 51, 52, 55] [(56, .agg #[.slice q122 m122 cq122])] ([]) (fun _ => by kernel_rfl) al0 ?_
              refine ops_nil ?_
              refine done_any ?_
              exact any_weakP (hmx14 () trivial) [0, 1, 6, 7, 8, 9, 20, 21, 22, 51, 52, 55, 56] [[bx (γ162 0) (#[.slice q122 m122 cq122]) 24], [bx (γ142 0) (#[.slice q42 m42 cq42]) 24], [bx (γ12 0) (#[.slice x11.p x11.n x11.cap]) 24], Y122, Y42] [0, 1, 2, 3, 4] (by kernel_rfl) rfl rfl (by kernel_rfl) rfl rfl
          refine any_cutX (V := Unit) (fun _ => True) 13 #[true, true, true, true, true, true, true, true, true, true, true, true, true, true, true, false, false, false, false, false, false, false, false, false, false, false, false, false] (fun _ => [(0, .slice (some ⟨b9, o9, none⟩) m cap2), (1, .slice pn mn capn), (6, .pointer (some ⟨γ12 0, 0, none⟩)), (7, .pointer (some ⟨γ142 0, 0, none⟩)), (8, .pointer (some ⟨γ162 0, 0, none⟩)), (9, .bool true), (20, .slice (some ⟨b9, o9, none⟩) m cap2), (21, .int .i64 ((m : Nat))), (22, .int .i64 ((j22 : Nat))), (51, .bool false), (52, .agg #[.slice q42 m42 cq42]), (53, .agg #[.slice q122 m122 cq122])]) (fun _ => bx (γ162 0) (#[.slice q122 m122 cq122]) 24 :: bx (γ142 0) (#[.slice q42 m42 cq42]) 24 :: bx (γ12 0) (#[.slice x11.p x11.n x11.cap]) 24 :: (Y122 ++ (Y42 ++ []))) ?_ (fun hmx5 => ?_)
          ·
            rintro _ _
            refine any_fork [15, 16, 17] (by kernel_rfl) (by simp) (each_cons _ rfl ?_ (each_cons _ rfl ?_ (each_cons _ rfl ?_ (each_nil))))
            ·
              refine ops_callD (.bool (decide ((x11.l.take 33) = (x18.l.take 33)))) (by kernel_rfl) (by kernel_rfl) (by kernel_rfl) (fun args w => Try.call17 args w) (fun w hw => by have := same_d q42 m42 cq42 ((x11.l.take 33)) q122 m122 cq122 ((x18.l.take 33)) w (hO42.atN (A := (_ :: _ :: _ :: Y122)) hw) hO42.len (by omega) (hO122.atN (A := [_, _, _]) hw) hO122.len (by omega); exact this) ?_
              refine ops_nil ?_
              refine done_any ?_
              exact any_weakP (hmx11 () trivial) [0, 1, 6, 7, 8, 9, 20, 21, 22, 51, 54] [[bx (γ162 0) (#[.slice q122 m122 cq122]) 24], [bx (γ142 0) (#[.slice q42 m42 cq42]) 24], [bx (γ12 0) (#[.slice x11.p x11.n x11.cap]) 24], Y122, Y42] [0, 1, 2, 3, 4] (by kernel_rfl) rfl rfl (by kernel_rfl) rfl rfl
            ·
              refine oq 1 [(16, .go (owns 1 0 1))] [0, 1, 6, 7, 8, 9, 20, 21, 22, 51, 52, 53] [(55, .agg #[.slice q42 m42 cq42])] ([]) (fun _ => by kernel_rfl) al0 ?_
              refine ops_nil ?_
              refine done_any ?_
              exact any_weakP (hmx12 () trivial) [0, 1, 6, 7, 8, 9, 20, 21, 22, 51, 52, 53, 55] [[bx (γ162 0) (#[.slice q122 m122 cq122]) 24], [bx (γ142 0) (#[.slice q42 m42 cq42]) 24], [bx (γ12 0) (#[.slice x11.p x11.n x11.cap]) 24], Y122, Y42] [0, 1, 2, 3, 4] (by kernel_rfl) rfl rfl (by kernel_rfl) rfl rfl
            ·
              refine oq 1 [(17, .go (owns 0 0 1))] [0, 1, 6, 7, 9, 20, 21, 22, 51, 52, 53] [(56, .agg #[.slice q122 m122 cq122])] ([]) (fun _ => by kernel_rfl) al0 ?_
              refine ops_nil ?_
              refine done_any ?_
              exact any_weakP (hmx13 () trivial) [0, 1, 6, 7, 9, 20, 21, 22, 51, 52, 53, 56] [[bx (γ162 0) (#[.slice q122 m122 cq122]) 24], [bx (γ142 0) (#[.slice q42 m42 cq42]) 24], [bx (γ12 0) (#[.slice x11.p x11.n x11.cap]) 24], Y122, Y42] [0, 1, 2, 3, 4] (by kernel_rfl) rfl rfl (by kernel_rfl) rfl rfl
          refine any_cutX (V := Unit) (fun _ => True) 14 #[true, true, true, true, true, true, true, true, true, true, true, true, true, false, false, false, false, true, false, false, false, false, false, false, false, false, false, false] (fun _ => [(0, .slice (some ⟨b9, o9, none⟩) m cap2), (1, .slice pn mn capn), (6, .pointer (some ⟨γ12 0, 0, none⟩)), (7, .pointer (some ⟨γ142 0, 0, none⟩)), (8, .pointer (some ⟨γ162 0, 0, none⟩)), (9, .bool true), (20, .slice (some ⟨b9, o9, none⟩) m cap2), (21, .int .i64 ((m : Nat))), (22, .int .i64 ((j22 : Nat))), (51, .bool false), (56, .agg #[.slice q122 m122 cq122])]) (fun _ => bx (γ162 0) (#[.slice q122 m122 cq122]) 24 :: bx (γ142 0) (#[.slice q42 m42 cq42]) 24 :: bx (γ12 0) (#[.slice x11.p x11.n x11.cap]) 24 :: (Y122 ++ (Y42 ++ []))) ?_ (fun hmx4 => ?_)
          ·
            rintro _ _
            refine any_fork [13, 14, 16] (by kernel_rfl) (by simp) (each_cons _ rfl ?_ (each_cons _ rfl ?_ (each_cons _ rfl ?_ (each_nil))))
            ·
              refine oq 1 [(13, .go (owns 1 0 1))] [0, 1, 6, 7, 8, 9, 20, 21, 22, 51, 56] [(52, .agg #[.slice q42 m42 cq42])] ([]) (fun _ => by kernel_rfl) al0 ?_
              refine ops_nil ?_
              refine done_any ?_
              exact any_weakP (hmx7 () trivial) [0, 1, 6, 7, 8, 9, 20, 21, 22, 51, 52, 56] [[bx (γ162 0) (#[.slice q122 m122 cq122]) 24], [bx (γ142 0) (#[.slice q42 m42 cq42]) 24], [bx (γ12 0) (#[.slice x11.p x11.n x11.cap]) 24], Y122, Y42] [0, 1, 2, 3, 4] (by kernel_rfl) rfl rfl (by kernel_rfl) rfl rfl
            ·
              refine oq 1 [(14, .go (owns 0 0 1))] [0, 1, 6, 7, 9, 20, 21, 22, 51, 56] [(53, .agg #[.slice q122 m122 cq122])] ([]) (fun _ => by kernel_rfl) al0 ?_
              refine ops_nil ?_
              refine done_any ?_
              exact any_weakP (hmx9 () trivial) [0, 1, 6, 7, 9, 20, 21, 22, 51, 53, 56] [[bx (γ162 0) (#[.slice q122 m122 cq122]) 24], [bx (γ142 0) (#[.slice q42 m42 cq42]) 24], [bx (γ12 0) (#[.slice x11.p x11.n x11.cap]) 24], Y122, Y42] [0, 1, 2, 3, 4] (by kernel_rfl) rfl rfl (by kernel_rfl) rfl rfl
            ·
              refine oq 1 [(16, .go (owns 1 0 1))] [0, 1, 6, 7, 8, 9, 20, 21, 22, 51, 56] [(55, .agg #[.slice q42 m42 cq42])] ([]) (fun _ => by kernel_rfl) al0 ?_
              refine ops_nil ?_
              refine done_any ?_
              exact any_weakP (hmx10 () trivial) [0, 1, 6, 7, 8, 9, 20, 21, 22, 51, 55, 56] [[bx (γ162 0) (#[.slice q122 m122 cq122]) 24], [bx (γ142 0) (#[.slice q42 m42 cq42]) 24], [bx (γ12 0) (#[.slice x11.p x11.n x11.cap]) 24], Y122, Y42] [0, 1, 2, 3, 4] (by kernel_rfl) rfl rfl (by kernel_rfl) rfl rfl
          refine any_cutX (V := Unit) (fun _ => True) 14 #[true, true, true, true, true, true, true, true, true, true, true, true, true, false, false, false, true, false, false, false, false, false, false, false, false, false, false, false] (fun _ => [(0, .slice (some ⟨b9, o9, none⟩) m cap2), (1, .slice pn mn capn), (6, .pointer (some ⟨γ12 0, 0, none⟩)), (7, .pointer (some ⟨γ142 0, 0, none⟩)), (8, .pointer (some ⟨γ162 0, 0, none⟩)), (9, .bool true), (20, .slice (some ⟨b9, o9, none⟩) m cap2), (21, .int .i64 ((m : Nat))), (22, .int .i64 ((j22 : Nat))), (51, .bool false), (55, .agg #[.slice q42 m42 cq42])]) (fun _ => bx (γ162 0) (#[.slice q122 m122 cq122]) 24 :: bx (γ142 0) (#[.slice q42 m42 cq42]) 24 :: bx (γ12 0) (#[.slice x11.p x11.n x11.cap]) 24 :: (Y122 ++ (Y42 ++ []))) ?_ (fun hmx3 => ?_)
          ·
            rintro _ _
            refine any_fork [13, 14, 17] (by kernel_rfl) (by simp) (each_cons _ rfl ?_ (each_cons _ rfl ?_ (each_cons _ rfl ?_ (each_nil))))
            ·
              refine oq 1 [(13, .go (owns 1 0 1))] [0, 1, 6, 7, 8, 9, 20, 21, 22, 51, 55] [(52, .agg #[.slice q42 m42 cq42])] ([]) (fun _ => by kernel_rfl) al0 ?_
              refine ops_nil ?_
              refine done_any ?_
              exact any_weakP (hmx6 () trivial) [0, 1, 6, 7, 8, 9, 20, 21, 22, 51, 52, 55] [[bx (γ162 0) (#[.slice q122 m122 cq122]) 24], [bx (γ142 0) (#[.slice q42 m42 cq42]) 24], [bx (γ12 0) (#[.slice x11.p x11.n x11.cap]) 24], Y122, Y42] [0, 1, 2, 3, 4] (by kernel_rfl) rfl rfl (by kernel_rfl) rfl rfl
            ·
              refine oq 1 [(14, .go (owns 0 0 1))] [0, 1, 6, 7, 8, 9, 20, 21, 22, 51, 55] [(53, .agg #[.slice q122 m122 cq122])] ([]) (fun _ => by kernel_rfl) al0 ?_
              refine ops_nil ?_
              refine done_any ?_
              exact any_weakP (hmx8 () trivial) [0, 1, 6, 7, 8, 9, 20, 21, 22, 51, 53, 55] [[bx (γ162 0) (#[.slice q122 m122 cq122]) 24], [bx (γ142 0) (#[.slice q42 m42 cq42]) 24], [bx (γ12 0) (#[.slice x11.p x11.n x11.cap]) 24], Y122, Y42] [0, 1, 2, 3, 4] (by kernel_rfl) rfl rfl (by kernel_rfl) rfl rfl
            ·
              refine oq 1 [(17, .go (owns 0 0 1))] [0, 1, 6, 7, 8, 9, 20, 21, 22, 51, 55] [(56, .agg #[.slice q122 m122 cq122])] ([]) (fun _ => by kernel_rfl) al0 ?_
              refine ops_nil ?_
              refine done_any ?_
              exact any_weakP (hmx10 () trivial) [0, 1, 6, 7, 8, 9, 20, 21, 22, 51, 55, 56] [[bx (γ162 0) (#[.slice q122 m122 cq122]) 24], [bx (γ142 0) (#[.slice q42 m42 cq42]) 24], [bx (γ12 0) (#[.slice x11.p x11.n x11.cap]) 24], Y122, Y42] [0, 1, 2, 3, 4] (by kernel_rfl) rfl rfl (by kernel_rfl) rfl rfl
          refine any_cutX (V := Unit) (fun _ => True) 14 #[true, true, true, true, true, true, true, true, true, true, true, true, true, false, true, false, false, false, false, false, false, false, false, false, false, false, false, false] (fun _ => [(0, .slice (some ⟨b9, o9, none⟩) m cap2), (1, .slice pn mn capn), (6, .pointer (some ⟨γ12 0, 0, none⟩)), (7, .pointer (some ⟨γ142 0, 0, none⟩)), (8, .pointer (some ⟨γ162 0, 0, none⟩)), (9, .bool true), (20, .slice (some ⟨b9, o9, none⟩) m cap2), (21, .int .i64 ((m : Nat))), (22, .int .i64 ((j22 : Nat))), (51, .bool false), (53, .agg #[.slice q122 m122 cq122])]) (fun _ => bx (γ162 0) (#[.slice q122 m122 cq122]) 24 :: bx (γ142 0) (#[.slice q42 m42 cq42]) 24 :: bx (γ12 0) (#[.slice x11.p x11.n x11.cap]) 24 :: (Y122 ++ (Y42 ++ []))) ?_ (fun hmx2 => ?_)
          ·
            rintro _ _
            refine any_fork [13, 16, 17] (by kernel_rfl) (by simp) (each_cons _ rfl ?_ (each_cons _ rfl ?_ (each_cons _ rfl ?_ (each_nil))))
            ·
              refine oq 1 [(13, .go (owns 1 0 1))] [0, 1, 6, 7, 8, 9, 20, 21, 22, 51, 53] [(52, .agg #[.slice q42 m42 cq42])] ([]) (fun _ => by kernel_rfl) al0 ?_
              refine ops_nil ?_
              refine done_any ?_
              exact any_weakP (hmx5 () trivial) [0, 1, 6, 7, 8, 9, 20, 21, 22, 51, 52, 53] [[bx (γ162 0) (#[.slice q122 m122 cq122]) 24], [bx (γ142 0) (#[.slice q42 m42 cq42]) 24], [bx (γ12 0) (#[.slice x11.p x11.n x11.cap]) 24], Y122, Y42] [0, 1, 2, 3, 4] (by kernel_rfl) rfl rfl (by kernel_rfl) rfl rfl
            ·
              refine oq 1 [(16, .go (owns 1 0 1))] [0, 1, 6, 7, 8, 9, 20, 21, 22, 51, 53] [(55, .agg #[.slice q42 m42 cq42])] ([]) (fun _ => by kernel_rfl) al0 ?_
              refine ops_nil ?_
              refine done_any ?_
              exact any_weakP (hmx8 () trivial) [0, 1, 6, 7, 8, 9, 20, 21, 22, 51, 53, 55] [[bx (γ162 0) (#[.slice q122 m122 cq122]) 24], [bx (γ142 0) (#[.slice q42 m42 cq42]) 24], [bx (γ12 0) (#[.slice x11.p x11.n x11.cap]) 24], Y122, Y42] [0, 1, 2, 3, 4] (by kernel_rfl) rfl rfl (by kernel_rfl) rfl rfl
            ·
              refine oq 1 [(17, .go (owns 0 0 1))] [0, 1, 6, 7, 9, 20, 21, 22, 51, 53] [(56, .agg #[.slice q122 m122 cq122])] ([]) (fun _ => by kernel_rfl) al0 ?_
              refine ops_nil ?_
              refine done_any ?_
              exact any_weakP (hmx9 () trivial) [0, 1, 6, 7, 9, 20, 21, 22, 51, 53, 56] [[bx (γ162 0) (#[.slice q122 m122 cq122]) 24], [bx (γ142 0) (#[.slice q42 m42 cq42]) 24], [bx (γ12 0) (#[.slice x11.p x11.n x11.cap]) 24], Y122, Y42] [0, 1, 2, 3, 4] (by kernel_rfl) rfl rfl (by kernel_rfl) rfl rfl
          refine any_cutX (V := Unit) (fun _ => True) 14 #[true, true, true, true, true, true, true, true, true, true, true, true, true, true, false, false, false, false, false, false, false, false, false, false, false, false, false, false] (fun _ => [(0, .slice (some ⟨b9, o9, none⟩) m cap2), (1, .slice pn mn capn), (6, .pointer (some ⟨γ12 0, 0, none⟩)), (7, .pointer (some ⟨γ142 0, 0, none⟩)), (8, .pointer (some ⟨γ162 0, 0, none⟩)), (9, .bool true), (20, .slice (some ⟨b9, o9, none⟩) m cap2), (21, .int .i64 ((m : Nat))), (22, .int .i64 ((j22 : Nat))), (51, .bool false), (52, .agg #[.slice q42 m42 cq42])]) (fun _ => bx (γ162 0) (#[.slice q122 m122 cq122]) 24 :: bx (γ142 0) (#[.slice q42 m42 cq42]) 24 :: bx (γ12 0) (#[.slice x11.p x11.n x11.cap]) 24 :: (Y122 ++ (Y42 ++ []))) ?_ (fun hmx1 => ?_)
          ·
            rintro _ _
            refine any_fork [14, 16, 17] (by kernel_rfl) (by simp) (each_cons _ rfl ?_ (each_cons _ rfl ?_ (each_cons _ rfl ?_ (each_nil))))
            ·
              refine oq 1 [(14, .go (owns 0 0 1))] [0, 1, 6, 7, 8, 9, 20, 21, 22, 51, 52] [(53, .agg #[.slice q122 m122 cq122])] ([]) (fun _ => by kernel_rfl) al0 ?_
              refine ops_nil ?_
              refine done_any ?_
              exact any_weakP (hmx5 () trivial) [0, 1, 6, 7, 8, 9, 20, 21, 22, 51, 52, 53] [[bx (γ162 0) (#[.slice q122 m122 cq122]) 24], [bx (γ142 0) (#[.slice q42 m42 cq42]) 24], [bx (γ12 0) (#[.slice x11.p x11.n x11.cap]) 24], Y122, Y42] [0, 1, 2, 3, 4] (by kernel_rfl) rfl rfl (by kernel_rfl) rfl rfl
            ·
              refine oq 1 [(16, .go (owns 1 0 1))] [0, 1, 6, 7, 8, 9, 20, 21, 22, 51, 52] [(55, .agg #[.slice q42 m42 cq42])] ([]) (fun _ => by kernel_rfl) al0 ?_
              refine ops_nil ?_
              refine done_any ?_
              exact any_weakP (hmx6 () trivial) [0, 1, 6, 7, 8, 9, 20, 21, 22, 51, 52, 55] [[bx (γ162 0) (#[.slice q122 m122 cq122]) 24], [bx (γ142 0) (#[.slice q42 m42 cq42]) 24], [bx (γ12 0) (#[.slice x11.p x11.n x11.cap]) 24], Y122, Y42] [0, 1, 2, 3, 4] (by kernel_rfl) rfl rfl (by kernel_rfl) rfl rfl
            ·
              refine oq 1 [(17, .go (owns 0 0 1))] [0, 1, 6, 7, 8, 9, 20, 21, 22, 51, 52] [(56, .agg #[.slice q122 m122 cq122])] ([]) (fun _ => by kernel_rfl) al0 ?_
              refine ops_nil ?_
              refine done_any ?_
              exact any_weakP (hmx7 () trivial) [0, 1, 6, 7, 8, 9, 20, 21, 22, 51, 52, 56] [[bx (γ162 0) (#[.slice q122 m122 cq122]) 24], [bx (γ142 0) (#[.slice q42 m42 cq42]) 24], [bx (γ12 0) (#[.slice x11.p x11.n x11.cap]) 24], Y122, Y42] [0, 1, 2, 3, 4] (by kernel_rfl) rfl rfl (by kernel_rfl) rfl rfl
          refine any_fork [13, 14, 16, 17] (by kernel_rfl) (by simp) (each_cons _ rfl ?_ (each_cons _ rfl ?_ (each_cons _ rfl ?_ (each_cons _ rfl ?_ (each_nil)))))
          ·
            refine oq 1 [(13, .go (owns 1 0 1))] [0, 1, 6, 7, 8, 9, 20, 21, 22, 51] [(52, .agg #[.slice q42 m42 cq42])] ([]) (fun _ => by kernel_rfl) al0 ?_
            refine ops_nil ?_
            refine done_any ?_
            exact any_weakP (hmx1 () trivial) [0, 1, 6, 7, 8, 9, 20, 21, 22, 51, 52] [[bx (γ162 0) (#[.slice q122 m122 cq122]) 24], [bx (γ142 0) (#[.slice q42 m42 cq42]) 24], [bx (γ12 0) (#[.slice x11.p x11.n x11.cap]) 24], Y122, Y42] [0, 1, 2, 3, 4] (by kernel_rfl) rfl rfl (by kernel_rfl) rfl rfl
          ·
            refine oq 1 [(14, .go (owns 0 0 1))] [0, 1, 6, 7, 8, 9, 20, 21, 22, 51] [(53, .agg #[.slice q122 m122 cq122])] ([]) (fun _ => by kernel_rfl) al0 ?_
            refine ops_nil ?_
            refine done_any ?_
            exact any_weakP (hmx2 () trivial) [0, 1, 6, 7, 8, 9, 20, 21, 22, 51, 53] [[bx (γ162 0) (#[.slice q122 m122 cq122]) 24], [bx (γ142 0) (#[.slice q42 m42 cq42]) 24], [bx (γ12 0) (#[.slice x11.p x11.n x11.cap]) 24], Y122, Y42] [0, 1, 2, 3, 4] (by kernel_rfl) rfl rfl (by kernel_rfl) rfl rfl
          ·
            refine oq 1 [(16, .go (owns 1 0 1))] [0, 1, 6, 7, 8, 9, 20, 21, 22, 51] [(55, .agg #[.slice q42 m42 cq42])] ([]) (fun _ => by kernel_rfl) al0 ?_
            refine ops_nil ?_
            refine done_any ?_
            exact any_weakP (hmx3 () trivial) [0, 1, 6, 7, 8, 9, 20, 21, 22, 51, 55] [[bx (γ162 0) (#[.slice q122 m122 cq122]) 24], [bx (γ142 0) (#[.slice q42 m42 cq42]) 24], [bx (γ12 0) (#[.slice x11.p x11.n x11.cap]) 24], Y122, Y42] [0, 1, 2, 3, 4] (by kernel_rfl) rfl rfl (by kernel_rfl) rfl rfl
          ·
            refine oq 1 [(17, .go (owns 0 0 1))] [0, 1, 6, 7, 8, 9, 20, 21, 22, 51] [(56, .agg #[.slice q122 m122 cq122])] ([]) (fun _ => by kernel_rfl) al0 ?_
            refine ops_nil ?_
            refine done_any ?_
            exact any_weakP (hmx4 () trivial) [0, 1, 6, 7, 8, 9, 20, 21, 22, 51, 56] [[bx (γ162 0) (#[.slice q122 m122 cq122]) 24], [bx (γ142 0) (#[.slice q42 m42 cq42]) 24], [bx (γ12 0) (#[.slice x11.p x11.n x11.cap]) 24], Y122, Y42] [0, 1, 2, 3, 4] (by kernel_rfl) rfl rfl (by kernel_rfl) rfl rfl
        rintro ⟨Y1385, cq1385, m1385, q1385⟩ ⟨hO1385, hm1385⟩
        refine any_nil (by kernel_rfl) ?_
        refine done_seq ?_
        refine at_false (by kernel_rfl) ?_
        refine at_skip ?_
        refine done_seq ?_
        refine at_seq ?_
        refine aq [] [0, 1, 7, 9, 20, 21, 22] [(67, .slice pn mn capn), (68, .int .i64 ((mn : Nat))), (69, .int .i64 0)] ([]) (fun _ => by kernel_rfl) al0 ?_
        refine done_seq ?_
        refine at_block ?_
        refine at_loop (α := Nat) [0, 1, 7, 9, 20, 21, 22, 67, 68, 69] (fun j69 => [(0, .slice (some ⟨b9, o9, none⟩) m cap2), (1, .slice pn mn capn), (7, .pointer (some ⟨γ142 0, 0, none⟩)), (9, .bool true), (20, .slice (some ⟨b9, o9, none⟩) m cap2), (21, .int .i64 ((m : Nat))), (22, .int .i64 ((j22 : Nat))), (67, .slice pn mn capn), (68, .int .i64 ((mn : Nat))), (69, .int .i64 ((j69 : Nat)))]) (fun j69 => bx (γ162 0) (#[.slice q122 m122 cq122]) 24 :: bx (γ142 0) (#[.slice q42 m42 cq42]) 24 :: bx (γ12 0) (#[.slice x11.p x11.n x11.cap]) 24 :: (Y1385 ++ (Y122 ++ (Y42 ++ [])))) (fun j69 => j69 ≤ mn) (fun j69 => mn - j69) 0 (by kernel_rfl) rfl (Nat.zero_le _) ?_
        rintro j69
        rintro hj69
        refine at_seq ?_
        by_cases q1510 : ((j69 : Nat) : Int) < ((mn : Nat) : Int)
        ·
          refine aq [(0, .yes)] [0, 1, 7, 9, 20, 21, 22, 67, 68, 69] [(70, .bool true)] ([((j69 : Nat) : Int) < ((mn : Nat) : Int)]) (fun _ => by kernel_rfl) (al1 q1510) ?_
          refine done_seq ?_
          refine at_seq ?_
          refine at_true (by kernel_rfl) ?_
          refine at_skip ?_
          refine done_seq ?_
          refine at_seq ?_
          refine at_block ?_
          refine at_seq ?_
          obtain ⟨b1513, o1513, rfl⟩ := hns.pos (i := j69) (by omega)
          obtain ⟨x1515, hx1515⟩ := get_some (l := ns) (m := j69) (by omega)
          refine aq [(1, .at b1513 o1513 j69), (2, .go (outs b1513 (o1513 + j69 * 1) [.int .i64 x1515]))] [0, 1, 7, 9, 20, 21, 22, 67, 68, 69] [(11, .int .i64 ((j69 : Nat))), (12, .int .i64 x1515)] ([(some ⟨b1513, o1513, none⟩ : Option Addr) = some ⟨b1513, o1513, none⟩, ((j69 : Nat)) = ((j69 : Nat) : Int), j69 < mn] ++ (cellsP w b1513 (o1513 + j69 * 1) [.int .i64 x1515])) (fun _ => by kernel_rfl) (alA (al2 rfl (al2 rfl (al1 (by omega)))) (rd_pre (hns.get hx1515) _ rfl)) ?_
          refine done_seq ?_
          refine at_seq ?_
          refine at_seq ?_
          by_cases q1518 : ((j69 : Nat) : Int) = (12 : Int)
          ·
            refine aq [(1, .yes)] [0, 1, 7, 9, 12, 20, 21, 22, 67, 68, 69] [(75, .bool true)] ([((j69 : Nat) : Int) = (12 : Int)]) (fun _ => by kernel_rfl) (al1 q1518) ?_
            refine done_seq ?_
            refine at_true (by kernel_rfl) ?_
            refine at_leave _ (by rfl) ?_
            refine done_block ?_
            refine done_seq ?_
            refine aq [(0, .fit)] [0, 1, 20, 21] [(22, .int .i64 ((j22 + 1 : Nat)))] ([Fit .i64 ((j22 + 1 : Nat))]) (fun _ => by kernel_rfl) (al1 (fit64 (by omega) (by omega))) ?_
            refine Done.drop (L' := []) ?_ (List.Sublist.cons _ (List.Sublist.cons _ (List.Sublist.cons _ (((List.sublist_append_right _ _).trans (List.sublist_append_right _ _)).trans (List.sublist_append_right _ _)))))
            exact done_round [0, 1, 20, 21, 22] (j22 + 1) (by kernel_rfl) rfl (by omega) (by first | omega | (simp only; omega))
          ·
            refine aq [(1, .no)] [0, 1, 7, 9, 12, 20, 21, 22, 67, 68, 69] [(75, .bool false)] ([¬ (((j69 : Nat) : Int) = (12 : Int))]) (fun _ => by kernel_rfl) (al1 q1518) ?_
            refine done_seq ?_
            refine at_false (by kernel_rfl) ?_
            refine at_skip ?_
            refine done_seq ?_
            refine at_seq ?_
            refine at_ops ?_
            refine oq 2 [(0, .go (owns 1 0 1))] [0, 1, 7, 9, 12, 20, 21, 22, 67, 68, 69] [(77, .agg #[.slice q42 m42 cq42]), (78, .int .i64 x1515)] ([]) (fun _ => by kernel_rfl) al0 ?_
            rcases hg1523 : getB ((x11.l.take 33)) x1515 with _ | y1523
            ·
              refine ops_callD (.tuple #[.agg #[.int .i64 0, .int .i64 0, .int .i64 0, .bool false, .bool false], .bool false]) (by kernel_rfl) (by kernel_rfl) (by kernel_rfl) (fun args w => Try.call18 args w) (fun w hw => by have := get_d q42 m42 cq42 ((x11.l.take 33)) x1515 w (hO42.at ((hw.tailN 3).sub ((List.sublist_append_right Y122 _).trans (List.sublist_append_right Y1385 _)))) hO42.len (by omega); rw [eGet_right q262, hg1523] at this; exact this) ?_
              refine om 6 [(7, .go (owns 0 0 5))] [0, 1, 7, 9, 12, 20, 21, 22, 67, 68, 69] (fun γ1524 => [(13, .pointer (some ⟨γ1524 0, 0, none⟩)), (14, .bool false)]) (fun γ1524 L => bx (γ1524 0) (#[.int .i64 0, .int .i64 0, .int .i64 0, .bool false, .bool false]) 40 :: L) (fun γ1524 => []) (fun _ => by kernel_rfl) (fun γ1524 => al0) (fun γ1524 => ?_)
              refine ops_nil ?_
              refine done_seq ?_
              refine at_seq ?_
              refine am [] [0, 1, 7, 9, 12, 13, 14, 20, 21, 22, 67, 68, 69] (fun γ1525 => [(15, .pointer (some ⟨γ1525 0, 0, none⟩))]) (fun γ1525 L => bx (γ1525 0) (#[.int .i64 0, .int .i64 0, .int .i64 0, .bool false, .bool false]) 40 :: L) (fun γ1525 => []) (fun _ => by kernel_rfl) (fun γ1525 => al0) (fun γ1525 => ?_)
              refine done_seq ?_
              refine at_seq ?_
              refine aq [] [0, 1, 7, 9, 12, 13, 14, 15, 20, 21, 22, 67, 68, 69] [(16, .slice none 0 0)] ([]) (fun _ => by kernel_rfl) al0 ?_
              refine done_seq ?_
              refine at_seq ?_
              refine aq [] [0, 1, 7, 9, 12, 13, 14, 15, 16, 20, 21, 22, 67, 68, 69] [(17, .bool false)] ([]) (fun _ => by kernel_rfl) al0 ?_
              refine done_seq ?_
              refine at_seq ?_
              refine at_seq ?_
              refine aq [] [0, 1, 7, 9, 12, 13, 14, 15, 16, 17, 20, 21, 22, 67, 68, 69] [(82, .bool true)] ([]) (fun _ => by kernel_rfl) al0 ?_
              refine done_seq ?_
              refine at_true (by kernel_rfl) ?_
              refine at_seq ?_
              refine at_ops ?_
              refine oq 2 [(0, .go (owns 3 0 1))] [0, 1, 7, 9, 12, 13, 14, 15, 20, 21, 22, 67, 68, 69] [(84, .agg #[.slice q42 m42 cq42]), (85, .int .i64 x1515)] ([]) (fun _ => by kernel_rfl) al0 ?_
              refine ops_callD (.tuple #[.agg #[.int .i64 0, .int .i64 0, .int .i64 0, .bool false, .bool false], .bool false]) (by kernel_rfl) (by kernel_rfl) (by kernel_rfl) (fun args w => Try.call19 args w) (fun w hw => by have := rget_d q42 m42 cq42 ((x11.l.take 33)) x1515 w (hO42.at ((hw.tailN 5).sub ((List.sublist_append_right Y122 _).trans (List.sublist_append_right Y1385 _)))) hO42.len (by omega); rw [hg1523] at this; exact this) ?_
              refine oq 5 [(6, .go (owns 0 0 5))] [0, 1, 7, 9, 12, 13, 14, 15, 20, 21, 22, 67, 68, 69] [(17, .bool false)] ([]) (fun _ => by kernel_rfl) al0 ?_
              refine ops_nil ?_
              refine done_seq ?_
              refine at_ops ?_
              refine oq 2 [(0, .go (owns 3 0 1))] [0, 1, 7, 9, 12, 13, 14, 15, 17, 20, 21, 22, 67, 68, 69] [(89, .agg #[.slice q42 m42 cq42]), (90, .int .i64 x1515)] ([]) (fun _ => by kernel_rfl) al0 ?_
              refine ops_call (fun v L' => ∃ q m capq Y, v = .slice q m capq ∧ L' = List.take 5 (bx (γ1525 0) (#[.int .i64 0, .int .i64 0, .int .i64 0, .bool false, .bool false]) 40 :: bx (γ1524 0) (#[.int .i64 0, .int .i64 0, .int .i64 0, .bool false, .bool false]) 40 :: bx (γ162 0) (#[.slice q122 m122 cq122]) 24 :: bx (γ142 0) (#[.slice q42 m42 cq42]) 24 :: bx (γ12 0) (#[.slice x11.p x11.n x11.cap]) 24 :: (Y1385 ++ (Y122 ++ (Y42 ++ [])))) ++ (Y ++ List.drop 5 (bx (γ1525 0) (#[.int .i64 0, .int .i64 0, .int .i64 0, .bool false, .bool false]) 40 :: bx (γ1524 0) (#[.int .i64 0, .int .i64 0, .int .i64 0, .bool false, .bool false]) 40 :: bx (γ162 0) (#[.slice q122 m122 cq122]) 24 :: bx (γ142 0) (#[.slice q42 m42 cq42]) 24 :: bx (γ12 0) (#[.slice x11.p x11.n x11.cap]) 24 :: (Y1385 ++ (Y122 ++ (Y42 ++ []))))) ∧ SlO 3 Y q m capq (suchL (isDue x1515) ((x11.l.take 33)))) (by kernel_rfl) (by kernel_rfl) (by kernel_rfl) (fun args w => Try.call20 args w) (fun w hw => by have := rdue_d q42 m42 cq42 ((x11.l.take 33)) x1515 w (hO42.at ((hw.tailN 5).sub ((List.sublist_append_right Y122 _).trans (List.sublist_append_right Y1385 _)))) hO42.len (by omega); exact this.mono fun e w' ⟨q, m, capq, Y, he, hO, hb, hY⟩ => ⟨_, _, he, ⟨q, m, capq, Y, rfl, rfl, hO⟩, hw.join hb hY 5⟩) ?_
              rintro v1532 L1532 ⟨q1532, m1532, cq1532, Y1532, rfl, rfl, hO1532⟩
              have hm1532 := hO1532.len
              have hb1532 : m1532 ≤ 1000 := by have := such_len (isDue x1515) ((x11.l.take 33)); have := List.length_take_le 33 x11.l; omega
              refine oq 1 [] [0, 1, 7, 9, 12, 13, 14, 15, 17, 20, 21, 22, 67, 68, 69] [(16, .slice q1532 m1532 cq1532)] ([]) (fun _ => by kernel_rfl) al0 ?_
              refine ops_nil ?_
              refine done_seq ?_
              refine at_seq ?_
              refine at_ops ?_
              refine oq 11 [(0, .go (owns 1 0 5)), (1, .go (owns 0 0 5)), (2, .eqs false), (6, .eqs false), (9, .go (owns 3 0 1))] [0, 1, 7, 9, 16, 20, 21, 22, 67, 68, 69] [(100, .bool false), (101, .agg #[.slice q42 m42 cq42]), (102, .int .i64 x1515)] ([EqRun Try.prog .neq 40 (.tmp 92) (.tmp 93) (.agg #[.int .i64 0, .int .i64 0, .int .i64 0, .bool false, .bool false]) (.agg #[.int .i64 0, .int .i64 0, .int .i64 0, .bool false, .bool false]) false] ++ ([EqRun Try.prog .neq 4 (.tmp 96) (.tmp 97) (.bool false) (.bool false) false])) (fun _ => by kernel_rfl) (alA (al1 (port_ne_t (a := (⟨0, 0, 0, false, false⟩ : Port)) (b := (⟨0, 0, 0, false, false⟩ : Port)) rfl)) (al1 (bool_ne false false))) ?_
              refine ops_call (fun v L' => ∃ q m capq Y, v = .slice q m capq ∧ L' = List.take 5 (bx (γ1525 0) (#[.int .i64 0, .int .i64 0, .int .i64 0, .bool false, .bool false]) 40 :: bx (γ1524 0) (#[.int .i64 0, .int .i64 0, .int .i64 0, .bool false, .bool false]) 40 :: bx (γ162 0) (#[.slice q122 m122 cq122]) 24 :: bx (γ142 0) (#[.slice q42 m42 cq42]) 24 :: bx (γ12 0) (#[.slice x11.p x11.n x11.cap]) 24 :: (Y1532 ++ (Y1385 ++ (Y122 ++ (Y42 ++ []))))) ++ (Y ++ List.drop 5 (bx (γ1525 0) (#[.int .i64 0, .int .i64 0, .int .i64 0, .bool false, .bool false]) 40 :: bx (γ1524 0) (#[.int .i64 0, .int .i64 0, .int .i64 0, .bool false, .bool false]) 40 :: bx (γ162 0) (#[.slice q122 m122 cq122]) 24 :: bx (γ142 0) (#[.slice q42 m42 cq42]) 24 :: bx (γ12 0) (#[.slice x11.p x11.n x11.cap]) 24 :: (Y1532 ++ (Y1385 ++ (Y122 ++ (Y42 ++ [])))))) ∧ SlO 3 Y q m capq (suchL (isDue x1515) ((x11.l.take 33)))) (by kernel_rfl) (by kernel_rfl) (by kernel_rfl) (fun args w => Try.call22 args w) (fun w hw => by have := edue_d q42 m42 cq42 ((x11.l.take 33)) x1515 w (hO42.at ((hw.tailN 5).sub (((List.sublist_append_right Y122 _).trans (List.sublist_append_right Y1385 _)).trans (List.sublist_append_right Y1532 _)))) hO42.len (by omega); rw [edueV_ok q262] at this; exact this.mono fun e w' ⟨q, m, capq, Y, he, hO, hb, hY⟩ => ⟨_, _, he, ⟨q, m, capq, Y, rfl, rfl, hO⟩, hw.join hb hY 5⟩) ?_
              rintro v1535 L1535 ⟨q1535, m1535, cq1535, Y1535, rfl, rfl, hO1535⟩
              have hm1535 := hO1535.len
              have hb1535 : m1535 ≤ 1000 := by have := such_len (isDue x1515) ((x11.l.take 33)); have := List.length_take_le 33 x11.l; omega
              refine oq 1 [] [0, 1, 7, 9, 20, 21, 22, 67, 68, 69, 100, 103] [(104, .slice q1532 m1532 cq1532)] ([]) (fun _ => by kernel_rfl) al0 ?_
              refine ops_callD (.bool true) (by kernel_rfl) (by kernel_rfl) (by kernel_rfl) (fun args w => Try.call21 args w) (fun w hw => by have := sameints_d q1535 m1535 cq1535 ((suchL (isDue x1515) ((x11.l.take 33)))) q1532 m1532 cq1532 ((suchL (isDue x1515) ((x11.l.take 33)))) w (hO1535.atN (A := [_, _, _, _, _]) hw) hO1535.len (by omega) (hO1532.atN (A := (_ :: _ :: _ :: _ :: _ :: Y1535)) hw) hO1532.len (by omega); simpa using this) ?_
              refine oq 2 [] [0, 1, 7, 9, 20, 21, 22, 67, 68, 69] [(107, .bool false)] ([]) (fun _ => by kernel_rfl) al0 ?_
              refine ops_nil ?_
              refine done_seq ?_
              refine at_false (by kernel_rfl) ?_
              refine at_skip ?_
              refine done_block ?_
              refine done_seq ?_
              refine aq [(0, .fit)] [0, 1, 7, 9, 20, 21, 22, 67, 68] [(69, .int .i64 ((j69 + 1 : Nat)))] ([Fit .i64 ((j69 + 1 : Nat))]) (fun _ => by kernel_rfl) (al1 (fit64 (by omega) (by omega))) ?_
              refine Done.drop (L' := bx (γ162 0) (#[.slice q122 m122 cq122]) 24 :: bx (γ142 0) (#[.slice q42 m42 cq42]) 24 :: bx (γ12 0) (#[.slice x11.p x11.n x11.cap]) 24 :: (Y1385 ++ (Y122 ++ (Y42 ++ [])))) ?_ (List.Sublist.cons _ (List.Sublist.cons _ (List.Sublist.cons_cons _ (List.Sublist.cons_cons _ (List.Sublist.cons_cons _ ((List.sublist_append_right _ _).trans (List.sublist_append_right _ _)))))))
              exact done_round [0, 1, 7, 9, 20, 21, 22, 67, 68, 69] (j69 + 1) (by kernel_rfl) rfl (by omega) (by first | omega | (simp only; omega))
            ·
              refine ops_callD (.tuple #[.agg #[.int .i64 y1523.num, .int .i64 y1523.vcpu, .int .i64 y1523.peer, .bool y1523.pending, .bool y1523.masked], .bool true]) (by kernel_rfl) (by kernel_rfl) (by kernel_rfl) (fun args w => Try.call18 args w) (fun w hw => by have := get_d q42 m42 cq42 ((x11.l.take 33)) x1515 w (hO42.at ((hw.tailN 3).sub ((List.sublist_append_right Y122 _).trans (List.sublist_append_right Y1385 _)))) hO42.len (by omega); rw [eGet_right q262, hg1523] at this; exact this) ?_
              refine om 6 [(7, .go (owns 0 0 5))] [0, 1, 7, 9, 12, 20, 21, 22, 67, 68, 69] (fun γ1539 => [(13, .pointer (some ⟨γ1539 0, 0, none⟩)), (14, .bool true)]) (fun γ1539 L => bx (γ1539 0) (#[.int .i64 y1523.num, .int .i64 y1523.vcpu, .int .i64 y1523.peer, .bool y1523.pending, .bool y1523.masked]) 40 :: L) (fun γ1539 => []) (fun _ => by kernel_rfl) (fun γ1539 => al0) (fun γ1539 => ?_)
              refine ops_nil ?_
              refine done_seq ?_
              refine at_seq ?_
              refine am [] [0, 1, 7, 9, 12, 13, 14, 20, 21, 22, 67, 68, 69] (fun γ1540 => [(15, .pointer (some ⟨γ1540 0, 0, none⟩))]) (fun γ1540 L => bx (γ1540 0) (#[.int .i64 0, .int .i64 0, .int .i64 0, .bool false, .bool false]) 40 :: L) (fun γ1540 => []) (fun _ => by kernel_rfl) (fun γ1540 => al0) (fun γ1540 => ?_)
              refine done_seq ?_
              refine at_seq ?_
              refine aq [] [0, 1, 7, 9, 12, 13, 14, 15, 20, 21, 22, 67, 68, 69] [(16, .slice none 0 0)] ([]) (fun _ => by kernel_rfl) al0 ?_
              refine done_seq ?_
              refine at_seq ?_
              refine aq [] [0, 1, 7, 9, 12, 13, 14, 15, 16, 20, 21, 22, 67, 68, 69] [(17, .bool false)] ([]) (fun _ => by kernel_rfl) al0 ?_
              refine done_seq ?_
              refine at_seq ?_
              refine at_seq ?_
              refine aq [] [0, 1, 7, 9, 12, 13, 14, 15, 16, 17, 20, 21, 22, 67, 68, 69] [(82, .bool true)] ([]) (fun _ => by kernel_rfl) al0 ?_
              refine done_seq ?_
              refine at_true (by kernel_rfl) ?_
              refine at_seq ?_
              refine at_ops ?_
              refine oq 2 [(0, .go (owns 3 0 1))] [0, 1, 7, 9, 12, 13, 14, 15, 20, 21, 22, 67, 68, 69] [(84, .agg #[.slice q42 m42 cq42]), (85, .int .i64 x1515)] ([]) (fun _ => by kernel_rfl) al0 ?_
              refine ops_callD (.tuple #[.agg #[.int .i64 y1523.num, .int .i64 y1523.vcpu, .int .i64 y1523.peer, .bool y1523.pending, .bool y1523.masked], .bool true]) (by kernel_rfl) (by kernel_rfl) (by kernel_rfl) (fun args w => Try.call19 args w) (fun w hw => by have := rget_d q42 m42 cq42 ((x11.l.take 33)) x1515 w (hO42.at ((hw.tailN 5).sub ((List.sublist_append_right Y122 _).trans (List.sublist_append_right Y1385 _)))) hO42.len (by omega); rw [hg1523] at this; exact this) ?_
              refine om 5 [(6, .go (owns 0 0 5))] [0, 1, 7, 9, 12, 13, 14, 15, 20, 21, 22, 67, 68, 69] (fun _ => [(17, .bool true)]) (fun _ L => (L.set 0 (bx (γ1540 0) (#[.int .i64 y1523.num, .int .i64 y1523.vcpu, .int .i64 y1523.peer, .bool y1523.pending, .bool y1523.masked]) 40))) (fun _ => []) (fun _ => by kernel_rfl) (fun _ => al0) (fun _ => ?_)
              refine ops_nil ?_
              refine done_seq ?_
              refine at_ops ?_
              refine oq 2 [(0, .go (owns 3 0 1))] [0, 1, 7, 9, 12, 13, 14, 15, 17, 20, 21, 22, 67, 68, 69] [(89, .agg #[.slice q42 m42 cq42]), (90, .int .i64 x1515)] ([]) (fun _ => by kernel_rfl) al0 ?_
              refine ops_call (fun v L' => ∃ q m capq Y, v = .slice q m capq ∧ L' = List.take 5 (bx (γ1540 0) (#[.int .i64 y1523.num, .int .i64 y1523.vcpu, .int .i64 y1523.peer, .bool y1523.pending, .bool y1523.masked]) 40 :: bx (γ1539 0) (#[.int .i64 y1523.num, .int .i64 y1523.vcpu, .int .i64 y1523.peer, .bool y1523.pending, .bool y1523.masked]) 40 :: bx (γ162 0) (#[.slice q122 m122 cq122]) 24 :: bx (γ142 0) (#[.slice q42 m42 cq42]) 24 :: bx (γ12 0) (#[.slice x11.p x11.n x11.cap]) 24 :: (Y1385 ++ (Y122 ++ (Y42 ++ [])))) ++ (Y ++ List.drop 5 (bx (γ1540 0) (#[.int .i64 y1523.num, .int .i64 y1523.vcpu, .int .i64 y1523.peer, .bool y1523.pending, .bool y1523.masked]) 40 :: bx (γ1539 0) (#[.int .i64 y1523.num, .int .i64 y1523.vcpu, .int .i64 y1523.peer, .bool y1523.pending, .bool y1523.masked]) 40 :: bx (γ162 0) (#[.slice q122 m122 cq122]) 24 :: bx (γ142 0) (#[.slice q42 m42 cq42]) 24 :: bx (γ12 0) (#[.slice x11.p x11.n x11.cap]) 24 :: (Y1385 ++ (Y122 ++ (Y42 ++ []))))) ∧ SlO 3 Y q m capq (suchL (isDue x1515) ((x11.l.take 33)))) (by kernel_rfl) (by kernel_rfl) (by kernel_rfl) (fun args w => Try.call20 args w) (fun w hw => by have := rdue_d q42 m42 cq42 ((x11.l.take 33)) x1515 w (hO42.at ((hw.tailN 5).sub ((List.sublist_append_right Y122 _).trans (List.sublist_append_right Y1385 _)))) hO42.len (by omega); exact this.mono fun e w' ⟨q, m, capq, Y, he, hO, hb, hY⟩ => ⟨_, _, he, ⟨q, m, capq, Y, rfl, rfl, hO⟩, hw.join hb hY 5⟩) ?_
              rintro v1547 L1547 ⟨q1547, m1547, cq1547, Y1547, rfl, rfl, hO1547⟩
              have hm1547 := hO1547.len
              have hb1547 : m1547 ≤ 1000 := by have := such_len (isDue x1515) ((x11.l.take 33)); have := List.length_take_le 33 x11.l; omega
              refine oq 1 [] [0, 1, 7, 9, 12, 13, 14, 15, 17, 20, 21, 22, 67, 68, 69] [(16, .slice q1547 m1547 cq1547)] ([]) (fun _ => by kernel_rfl) al0 ?_
              refine ops_nil ?_
              refine done_seq ?_
              refine at_seq ?_
              refine at_ops ?_
              refine oq 11 [(0, .go (owns 1 0 5)), (1, .go (owns 0 0 5)), (2, .eqs false), (6, .eqs false), (9, .go (owns 3 0 1))] [0, 1, 7, 9, 16, 20, 21, 22, 67, 68, 69] [(100, .bool false), (101, .agg #[.slice q42 m42 cq42]), (102, .int .i64 x1515)] ([EqRun Try.prog .neq 40 (.tmp 92) (.tmp 93) (.agg #[.int .i64 y1523.num, .int .i64 y1523.vcpu, .int .i64 y1523.peer, .bool y1523.pending, .bool y1523.masked]) (.agg #[.int .i64 y1523.num, .int .i64 y1523.vcpu, .int .i64 y1523.peer, .bool y1523.pending, .bool y1523.masked]) false] ++ ([EqRun Try.prog .neq 4 (.tmp 96) (.tmp 97) (.bool true) (.bool true) false])) (fun _ => by kernel_rfl) (alA (al1 (port_ne_t (a := y1523) (b := y1523) rfl)) (al1 (bool_ne true true))) ?_
              refine ops_call (fun v L' => ∃ q m capq Y, v = .slice q m capq ∧ L' = List.take 5 (bx (γ1540 0) (#[.int .i64 y1523.num, .int .i64 y1523.vcpu, .int .i64 y1523.peer, .bool y1523.pending, .bool y1523.masked]) 40 :: bx (γ1539 0) (#[.int .i64 y1523.num, .int .i64 y1523.vcpu, .int .i64 y1523.peer, .bool y1523.pending, .bool y1523.masked]) 40 :: bx (γ162 0) (#[.slice q122 m122 cq122]) 24 :: bx (γ142 0) (#[.slice q42 m42 cq42]) 24 :: bx (γ12 0) (#[.slice x11.p x11.n x11.cap]) 24 :: (Y1547 ++ (Y1385 ++ (Y122 ++ (Y42 ++ []))))) ++ (Y ++ List.drop 5 (bx (γ1540 0) (#[.int .i64 y1523.num, .int .i64 y1523.vcpu, .int .i64 y1523.peer, .bool y1523.pending, .bool y1523.masked]) 40 :: bx (γ1539 0) (#[.int .i64 y1523.num, .int .i64 y1523.vcpu, .int .i64 y1523.peer, .bool y1523.pending, .bool y1523.masked]) 40 :: bx (γ162 0) (#[.slice q122 m122 cq122]) 24 :: bx (γ142 0) (#[.slice q42 m42 cq42]) 24 :: bx (γ12 0) (#[.slice x11.p x11.n x11.cap]) 24 :: (Y1547 ++ (Y1385 ++ (Y122 ++ (Y42 ++ [])))))) ∧ SlO 3 Y q m capq (suchL (isDue x1515) ((x11.l.take 33)))) (by kernel_rfl) (by kernel_rfl) (by kernel_rfl) (fun args w => Try.call22 args w) (fun w hw => by have := edue_d q42 m42 cq42 ((x11.l.take 33)) x1515 w (hO42.at ((hw.tailN 5).sub (((List.sublist_append_right Y122 _).trans (List.sublist_append_right Y1385 _)).trans (List.sublist_append_right Y1547 _)))) hO42.len (by omega); rw [edueV_ok q262] at this; exact this.mono fun e w' ⟨q, m, capq, Y, he, hO, hb, hY⟩ => ⟨_, _, he, ⟨q, m, capq, Y, rfl, rfl, hO⟩, hw.join hb hY 5⟩) ?_
              rintro v1550 L1550 ⟨q1550, m1550, cq1550, Y1550, rfl, rfl, hO1550⟩
              have hm1550 := hO1550.len
              have hb1550 : m1550 ≤ 1000 := by have := such_len (isDue x1515) ((x11.l.take 33)); have := List.length_take_le 33 x11.l; omega
              refine oq 1 [] [0, 1, 7, 9, 20, 21, 22, 67, 68, 69, 100, 103] [(104, .slice q1547 m1547 cq1547)] ([]) (fun _ => by kernel_rfl) al0 ?_
              refine ops_callD (.bool true) (by kernel_rfl) (by kernel_rfl) (by kernel_rfl) (fun args w => Try.call21 args w) (fun w hw => by have := sameints_d q1550 m1550 cq1550 ((suchL (isDue x1515) ((x11.l.take 33)))) q1547 m1547 cq1547 ((suchL (isDue x1515) ((x11.l.take 33)))) w (hO1550.atN (A := [_, _, _, _, _]) hw) hO1550.len (by omega) (hO1547.atN (A := (_ :: _ :: _ :: _ :: _ :: Y1550)) hw) hO1547.len (by omega); simpa using this) ?_
              refine oq 2 [] [0, 1, 7, 9, 20, 21, 22, 67, 68, 69] [(107, .bool false)] ([]) (fun _ => by kernel_rfl) al0 ?_
              refine ops_nil ?_
              refine done_seq ?_
              refine at_false (by kernel_rfl) ?_
              refine at_skip ?_
              refine done_block ?_
              refine done_seq ?_
              refine aq [(0, .fit)] [0, 1, 7, 9, 20, 21, 22, 67, 68] [(69, .int .i64 ((j69 + 1 : Nat)))] ([Fit .i64 ((j69 + 1 : Nat))]) (fun _ => by kernel_rfl) (al1 (fit64 (by omega) (by omega))) ?_
              refine Done.drop (L' := bx (γ162 0) (#[.slice q122 m122 cq122]) 24 :: bx (γ142 0) (#[.slice q42 m42 cq42]) 24 :: bx (γ12 0) (#[.slice x11.p x11.n x11.cap]) 24 :: (Y1385 ++ (Y122 ++ (Y42 ++ [])))) ?_ (List.Sublist.cons _ (List.Sublist.cons _ (List.Sublist.cons_cons _ (List.Sublist.cons_cons _ (List.Sublist.cons_cons _ ((List.sublist_append_right _ _).trans (List.sublist_append_right _ _)))))))
              exact done_round [0, 1, 7, 9, 20, 21, 22, 67, 68, 69] (j69 + 1) (by kernel_rfl) rfl (by omega) (by first | omega | (simp only; omega))
        ·
          refine aq [(0, .no)] [0, 1, 7, 9, 20, 21, 22, 67, 68, 69] [(70, .bool false)] ([¬ (((j69 : Nat) : Int) < ((mn : Nat) : Int))]) (fun _ => by kernel_rfl) (al1 q1510) ?_
          refine done_seq ?_
          refine at_seq ?_
          refine at_false (by kernel_rfl) ?_
          refine at_leave _ (by rfl) ?_
          refine done_block ?_
          refine done_seq ?_
          refine aq [(0, .fit)] [0, 1, 20, 21] [(22, .int .i64 ((j22 + 1 : Nat)))] ([Fit .i64 ((j22 + 1 : Nat))]) (fun _ => by kernel_rfl) (al1 (fit64 (by omega) (by omega))) ?_
          refine Done.drop (L' := []) ?_ (List.Sublist.cons _ (List.Sublist.cons _ (List.Sublist.cons _ (((List.sublist_append_right _ _).trans (List.sublist_append_right _ _)).trans (List.sublist_append_right _ _)))))
          exact done_round [0, 1, 20, 21, 22] (j22 + 1) (by kernel_rfl) rfl (by omega) (by first | omega | (simp only; omega))
  ·
    refine aq [(0, .no)] [0, 1, 20, 21, 22] [(23, .bool false)] ([¬ (((j22 : Nat) : Int) < ((m : Nat) : Int))]) (fun _ => by kernel_rfl) (al1 q6) ?_
    refine done_seq ?_
    refine at_seq ?_
    refine at_false (by kernel_rfl) ?_
    refine at_leave _ (by rfl) ?_
    refine done_seq ?_
    refine at_seq ?_
    refine aq [] [] [(4, .bool true)] ([]) (fun _ => by kernel_rfl) al0 ?_
    refine done_seq ?_
    refine at_return ([]) (.bool true) [] (by kernel_rfl) (by kernel_rfl) al0 ?_
    exact fun w' hw => ⟨rfl, hw.below⟩
end Go.Proofs.Ytfhlmijdokfdpaa
