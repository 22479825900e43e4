/- Texts of this proof, one behind the other. -/
import Derived.Test.YtnoefldpkfpglaaZd
import Derived.Test.YtnoefldpkfpglaaZc
import Derived.Test.YtnoefldpkfpglaaZa
import Derived.ProofKit
import Derived.Carry
import Derived.Deep.Slices
import Derived.Lib.SmallJoins
import Derived.Test.YtnoefldpkfpglaaProg
/-! Domains: each thing done, and undone; plain. -/
namespace Go.Proofs.Ytnoefldpkfpglaa
open Go Go.RowKit

/-- What was done stands: guests that may be, and what undoes it leads back; or it was refused, and nothing is left. -/
def Stay9 (ds : List Dom) (vs : List Vcp) (r : G3) (back : G3) : Prop := (r.2.2 = 0 ∧ guestsB r.1 r.2.1 = true ∧ back = (ds, vs, 0)) ∨ (r.2.2 ≠ 0 ∧ r.1 = [] ∧ r.2.1 = [])
section
variable {ds : List Dom} {vs : List Vcp} {k hh ss : Int} {d : Dom}
theorem stay_no {r back : G3} {e : Int} (h : r = ([], [], e)) (he : e ≠ 0) : Stay9 ds vs r back := .inr (by rw [h]; exact ⟨he, rfl, rfl⟩)
theorem create_stay (g : guestsB ds vs = true) : Stay9 ds vs (createV ds vs d) (destroyV (createV ds vs d).1 (createV ds vs d).2.1 d.id) := by
  have h := guests_iff.1 g
  cases m : mayB d with
  | false => exact stay_no (createV_arg g m) (by decide)
  | true =>
    cases e : getK Dom.id ds d.id with
    | some x => exact stay_no (createV_there g m e) (by decide)
    | none =>
      have r : createV ds vs d = (insK Dom.id ds d, vs, 0) := createV_ok g m e
      have gn := guests_iff.2 (create_good h m e)
      rw [r]
      refine .inl ⟨rfl, gn, ?_⟩
      have := destroyV_ok gn (get_insD h e) (by rw [h.cnt0 e]; decide)
      rw [this]
      have hb := del_insD h e
      unfold delK at hb
      rw [hb]
theorem change_stay (g : guestsB ds vs = true) : Stay9 ds vs (changeV ds vs d) (changeV (changeV ds vs d).1 (changeV ds vs d).2.1 (rowD (getK Dom.id ds d.id))) := by
  have h := guests_iff.1 g
  cases m : mayB d with
  | false => exact stay_no (changeV_arg g m) (by decide)
  | true =>
    cases e : getK Dom.id ds d.id with
    | none => exact stay_no (changeV_none g m e) (by decide)
    | some x =>
      have r : changeV ds vs d = (putK Dom.id ds d, vs, 0) := changeV_ok g m e
      have gn := guests_iff.2 (change_good h m e)
      have hx := (getK_mem e).2
      rw [r]
      refine .inl ⟨rfl, gn, ?_⟩
      show changeV (putK Dom.id ds d) vs (rowD (some x)) = _
      have := changeV_ok (d := x) gn (h.dm x (getK_mem e).1).1 (by rw [hx]; exact get_putD h e)
      have hb := put_putD h e
      unfold putK at hb this
      rw [hb] at this
      exact this
theorem destroy_stay (g : guestsB ds vs = true) : Stay9 ds vs (destroyV ds vs k) (createV (destroyV ds vs k).1 (destroyV ds vs k).2.1 (rowD (getK Dom.id ds k))) := by
  have h := guests_iff.1 g
  cases e : getK Dom.id ds k with
  | none => exact stay_no (destroyV_none g e) (by decide)
  | some x =>
    by_cases c : (cntV vs k : Int) > 0
    · exact stay_no (destroyV_busy g e c) (by decide)
    · have r : destroyV ds vs k = (delK Dom.id ds k, vs, 0) := destroyV_ok g e c
      have gn := guests_iff.2 (destroy_good h e (by omega))
      have hx := (getK_mem e).2
      rw [r]
      refine .inl ⟨rfl, gn, ?_⟩
      show createV (delK Dom.id ds k) vs (rowD (some x)) = _
      have := createV_ok (d := x) gn (h.dm x (getK_mem e).1).1 (by rw [hx]; exact get_delD h e)
      have hb := ins_delD h e
      unfold insK at hb
      rw [hb] at this
      exact this
theorem drop_stay (g : guestsB ds vs = true) : Stay9 ds vs (dropV ds vs k) (ds, vs, 0) := by
  have h := guests_iff.1 g
  cases e : getK Vcp.id vs k with
  | none => exact stay_no (dropV_none g e) (by decide)
  | some x =>
    have r : dropV ds vs k = (ds, delK Vcp.id vs k, 0) := dropV_ok g e
    rw [r]
    exact .inl ⟨rfl, guests_iff.2 (drop_good h e), rfl⟩
theorem remask_stay (g : guestsB ds vs = true) : Stay9 ds vs (remaskV ds vs k hh ss) (remaskV (remaskV ds vs k hh ss).1 (remaskV ds vs k hh ss).2.1 k (rowC (getK Vcp.id vs k)).hard (rowC (getK Vcp.id vs k)).soft) := by
  have h := guests_iff.1 g
  cases e : getK Vcp.id vs k with
  | none => exact stay_no (remaskV_none g e) (by decide)
  | some x =>
    cases m : maskB hh ss with
    | false => exact stay_no (remaskV_mask g e m) (by decide)
    | true =>
      have hx := (getK_mem e).2
      subst hx
      have e' : getK Vcp.id vs (⟨x.id, x.dom, hh, ss⟩ : Vcp).id = some x := e
      have r : remaskV ds vs x.id hh ss = (ds, putK Vcp.id vs ⟨x.id, x.dom, hh, ss⟩, 0) := remaskV_ok g e m
      have gn := guests_iff.2 (remask_good h e' rfl m)
      rw [r]
      refine .inl ⟨rfl, gn, ?_⟩
      show remaskV ds (putK Vcp.id vs ⟨x.id, x.dom, hh, ss⟩) x.id x.hard x.soft = _
      have := remaskV_ok (h := x.hard) gn (get_putV h e') (h.vm x (getK_mem e).1).2.2.1
      have hb := put_putV h e'
      unfold putK at hb this
      rw [hb] at this
      exact this
theorem add_stay (g : guestsB ds vs = true) : Stay9 ds vs (addV ds vs k hh ss) (dropV (addV ds vs k hh ss).1 (addV ds vs k hh ss).2.1 (addN ds vs k hh ss)) := by
  have h := guests_iff.1 g
  cases e : getK Dom.id ds k with
  | none => exact stay_no (addV_none g e) (by decide)
  | some x =>
    cases m : maskB hh ss with
    | false => exact stay_no (addV_mask g e m) (by decide)
    | true =>
      by_cases f : vs.length = 16 ∨ cntV vs k = 8
      · exact stay_no (addV_full g e m f) (by decide)
      · have hl := h.vl
        have hc : cntV vs k ≤ 8 := by have := (h.dm x (getK_mem e).1).2; rw [(getK_mem e).2] at this; exact this
        have hg := gap_le (vs := vs)
        have e1 : insK Vcp.id vs ⟨((gapV vs 0 + 1 : Nat) : Int), k, hh, ss⟩ = vs.take (gapV vs 0) ++ [⟨((gapV vs 0 + 1 : Nat) : Int), k, hh, ss⟩] ++ vs.drop (gapV vs 0) := by unfold insK; rw [gap_pos h]
        have r := addV_ok g e m f rfl
        have en : getK Vcp.id vs (⟨((gapV vs 0 + 1 : Nat) : Int), k, hh, ss⟩ : Vcp).id = none := gap_none h
        have gn := guests_iff.2 (add_good (v := ⟨((gapV vs 0 + 1 : Nat) : Int), k, hh, ss⟩) h e m (by simp only []; omega) (by constructor <;> simp only [] <;> omega) en)
        rw [addN_ok r rfl, r, ← e1]
        refine .inl ⟨rfl, gn, ?_⟩
        have := dropV_ok gn (get_insV h en)
        have hb := del_insV h en
        unfold delK at hb
        rw [hb] at this
        exact this
end
end Go.Proofs.Ytnoefldpkfpglaa

/-! Domains: what is done, and the two ways in which it ends; plain. -/
namespace Go.Proofs.Ytnoefldpkfpglaa
open Go Go.RowKit

/-- What is done: its kind, a domain, a vCPU. -/
structure Deed where
  kind : Int
  d : Dom
  z : Vcp
instance : Enc Deed := ⟨fun x => [.int .i64 x.kind, .int .i64 x.d.id, .int .i64 x.d.weight, .int .i64 x.d.cap, .int .i64 x.d.pool, .int .i64 x.z.id, .int .i64 x.z.dom, .int .u32 x.z.hard, .int .u32 x.z.soft], 9, fun _ => rfl, fun x v h => by simp at h; rcases h with rfl | rfl | rfl | rfl | rfl | rfl | rfl | rfl | rfl <;> rfl, by decide⟩
def kdD (k : Int) : Int := Int.tmod (Int.tmod k 6 + 6) 6
theorem tmod6 (k : Int) : -6 < Int.tmod k 6 ∧ Int.tmod k 6 < 6 := by
  have h1 := Int.tmod_lt_of_pos k (b := 6) (by decide)
  have h2 := Int.lt_tmod_of_pos k (b := 6) (by decide)
  omega
theorem kdD_lt (k : Int) : 0 ≤ kdD k ∧ kdD k < 6 := by
  have h := tmod6 k
  unfold kdD
  have h0 : 0 ≤ Int.tmod k 6 + 6 := by omega
  exact ⟨Int.tmod_nonneg 6 h0, Int.tmod_lt_of_pos _ (by decide)⟩
theorem stay_ways {ds : List Dom} {vs : List Vcp} {r : G3} (B : List Dom → List Vcp → G3) (h : Stay9 ds vs r (B r.1 r.2.1)) : (∃ d' v', r = (d', v', 0) ∧ guestsB d' v' = true ∧ B d' v' = (ds, vs, 0)) ∨ ∃ e, e ≠ 0 ∧ r = ([], [], e) := by
  obtain ⟨a, b, c⟩ := r
  rcases h with ⟨h1, h2, h3⟩ | ⟨h1, h2, h3⟩
  · simp only [] at h1 h2 h3
    subst h1
    exact .inl ⟨a, b, rfl, h2, h3⟩
  · simp only [] at h1 h2 h3
    subst h2; subst h3
    exact .inr ⟨c, h1, rfl⟩
end Go.Proofs.Ytnoefldpkfpglaa

/-! The statement DomainStays, walked. -/
namespace Go.Proofs.Ytnoefldpkfpglaa
open Go Go.RowKit

set_option maxRecDepth 100000 in
theorem stays_d (p : Option Addr) (n cap : Nat) (l : List Deed) (w : World)
 (hsl : Sv w p l) (hn : n = l.length) (hb : n ≤ 9223372036854775807)
 : Calls Try.prog 7 #[.slice p n cap] w fun e w' => e = .returned (.bool true) ∧ Below w.heap.size w w' := by
 refine enter (Hs.start w) Try.func7 rfl Try.ntmps7 rfl (sq_ (qa0 [] [0] [] (ds_ (sq_ (sq_ (ao_ (cD (.bool true) Try.call8 (fun w hw => wakes_d w) (qo0 1 [] [0] [(18, .bool false)] (on_ (ds_ (f_ (at_skip (ds_ (sq_ (ma0 [] [0] (fun γ4 => [(3, .pointer (some ⟨γ4 0, 0, none⟩))]) (fun γ4 L => bx (γ4 0) (#[.slice none 0 0, .slice none 0 0]) 25 :: L) (fun γ4 => ds_ (sq_ (sq_ (qa0 [] [3] [(19, .slice p n cap), (20, .int .i64 ((n : Nat))), (21, .int .i64 0)] (ds_ (at_block (at_loop (α := Nat × List Dom × List Vcp × List Ob × Option Addr × Nat × Nat × List Ob × Option Addr × Nat × Nat) [3, 19, 20, 21] (fun ⟨j, ds, vs, Yd, pd, nd, cd, Yv, pv, nv, cv⟩ => [(3, .pointer (some ⟨γ4 0, 0, none⟩)), (19, .slice p n cap), (20, .int .i64 ((n : Nat))), (21, .int .i64 ((j : Nat)))]) (fun ⟨j, ds, vs, Yd, pd, nd, cd, Yv, pv, nv, cv⟩ => bx (γ4 0) (#[.slice pd nd cd, .slice pv nv cv]) 25 :: (Yd ++ (Yv ++ []))) (fun ⟨j, ds, vs, Yd, pd, nd, cd, Yv, pv, nv, cv⟩ => j ≤ n ∧ guestsB ds vs = true ∧ SlO 32 Yd pd nd cd ds ∧ SlO 43 Yv pv nv cv vs) (fun ⟨j, ds, vs, Yd, pd, nd, cd, Yv, pv, nv, cv⟩ => n - j) (0, [], [], [], none, 0, 0, [], none, 0, 0) (by kernel_rfl) rfl ⟨Nat.zero_le _, rfl, SlO.nil, SlO.nil⟩ ?_))))))))))))))))))))))
 rintro ⟨j, ds, vs, Yd, pd, nd, cd, Yv, pv, nv, cv⟩
 rintro ⟨hj, hG, hO, hP⟩
 have hnd := hO.len
 have hnv := hP.len
 have hdl := (guests_iff.1 hG).dl
 have hvl := (guests_iff.1 hG).vl
 refine sq_ ?_
 by_cases q7 : ((j : Nat) : Int) < ((n : Nat) : Int)
 ·
  refine qa [(0, .yes)] [3, 19, 20, 21] [(22, .bool true)] ([((j : Nat) : Int) < ((n : Nat) : Int)]) (al1 q7) (ds_ (sq_ (t_ (at_skip (ds_ (sq_ (at_block (sq_ ?_))))))))
  obtain ⟨b10, o10, rfl⟩ := hsl.pos (i := j) (by omega)
  obtain ⟨x12, hx12⟩ := get_some (l := l) (m := j) (by omega)
  refine ma [(1, .at b10 o10 j), (2, .go (outs b10 (o10 + j * 9) [.int .i64 x12.kind, .int .i64 x12.d.id, .int .i64 x12.d.weight, .int .i64 x12.d.cap, .int .i64 x12.d.pool, .int .i64 x12.z.id, .int .i64 x12.z.dom, .int .u32 x12.z.hard, .int .u32 x12.z.soft])), (5, .go (owns 0 0 9))] [3, 19, 20, 21] (fun γ13 => [(4, .int .i64 ((j : Nat))), (5, .pointer (some ⟨γ13 0, 0, none⟩))]) (fun γ13 L => bx (γ13 0) (#[.int .i64 x12.kind, .int .i64 x12.d.id, .int .i64 x12.d.weight, .int .i64 x12.d.cap, .int .i64 x12.d.pool, .int .i64 x12.z.id, .int .i64 x12.z.dom, .int .u32 x12.z.hard, .int .u32 x12.z.soft]) 69 :: L) (fun γ13 => [(some ⟨b10, o10, none⟩ : Option Addr) = some ⟨b10, o10, none⟩, ((j : Nat)) = ((j : Nat) : Int), j < n] ++ (cellsP w b10 (o10 + j * 9) [.int .i64 x12.kind, .int .i64 x12.d.id, .int .i64 x12.d.weight, .int .i64 x12.d.cap, .int .i64 x12.d.pool, .int .i64 x12.z.id, .int .i64 x12.z.dom, .int .u32 x12.z.hard, .int .u32 x12.z.soft])) (fun γ13 => (alA (al2 rfl (al2 rfl (al1 (by omega)))) (rd_pre (hsl.get hx12) _ rfl))) (fun γ13 => ds_ (sq_ (sq_ ?_)))
  by_cases q15 : ((j : Nat) : Int) = (60 : Int)
  ·
   refine qa [(1, .yes)] [3, 5, 19, 20, 21] [(27, .bool true)] ([((j : Nat) : Int) = (60 : Int)]) (al1 q15) (ds_ (t_ (at_leave _ rfl (ds_ (sq_ (qa0 [] [] [(2, .bool true)] (ds_ (rt ([]) (.bool true) ?_))))))))
   exact fun w' hw => ⟨rfl, hw.below⟩
  ·
   refine qa [(1, .no)] [3, 5, 19, 20, 21] [(27, .bool false)] ([¬ (((j : Nat) : Int) = (60 : Int))]) (al1 q15) (ds_ (f_ (at_skip (ds_ (sq_ ?_)))))
   refine at_any (by kernel_rfl) ?_
   refine any_cutX (V := (Nat → Nat) × (Nat → Nat)) (fun ⟨γ61, γ81⟩ => True) 0 #[true, true, true, true, true, true, true, true] (fun ⟨γ61, γ81⟩ => [(3, .pointer (some ⟨γ4 0, 0, none⟩)), (5, .pointer (some ⟨γ13 0, 0, none⟩)), (6, .pointer (some ⟨γ61 0, 0, none⟩)), (7, .pointer (some ⟨γ81 0, 0, none⟩)), (8, .int .i64 0), (9, .int .i64 0), (19, .slice (some ⟨b10, o10, none⟩) n cap), (20, .int .i64 ((n : Nat))), (21, .int .i64 ((j : Nat)))]) (fun ⟨γ61, γ81⟩ => bx (γ81 0) (#[.slice pd nd cd, .slice pv nv cv]) 25 :: bx (γ61 0) (#[.slice pd nd cd, .slice pv nv cv]) 25 :: bx (γ13 0) (#[.int .i64 x12.kind, .int .i64 x12.d.id, .int .i64 x12.d.weight, .int .i64 x12.d.cap, .int .i64 x12.d.pool, .int .i64 x12.z.id, .int .i64 x12.z.dom, .int .u32 x12.z.hard, .int .u32 x12.z.soft]) 69 :: bx (γ4 0) (#[.slice pd nd cd, .slice pv nv cv]) 25 :: (Yd ++ (Yv ++ []))) ?_ (fun hmx18 => ?_)
   rotate_left
   ·
    refine any_cutX (V := (Nat → Nat) × (Nat → Nat)) (fun ⟨γ61, γ81⟩ => True) 3 #[true, true, true, true, true, false, false, false] (fun ⟨γ61, γ81⟩ => [(3, .pointer (some ⟨γ4 0, 0, none⟩)), (5, .pointer (some ⟨γ13 0, 0, none⟩)), (6, .pointer (some ⟨γ61 0, 0, none⟩)), (7, .pointer (some ⟨γ81 0, 0, none⟩)), (19, .slice (some ⟨b10, o10, none⟩) n cap), (20, .int .i64 ((n : Nat))), (21, .int .i64 ((j : Nat))), (29, .agg #[.slice pd nd cd, .slice pv nv cv])]) (fun ⟨γ61, γ81⟩ => bx (γ81 0) (#[.slice none 0 0, .slice none 0 0]) 25 :: bx (γ61 0) (#[.slice pd nd cd, .slice pv nv cv]) 25 :: bx (γ13 0) (#[.int .i64 x12.kind, .int .i64 x12.d.id, .int .i64 x12.d.weight, .int .i64 x12.d.cap, .int .i64 x12.d.pool, .int .i64 x12.z.id, .int .i64 x12.z.dom, .int .u32 x12.z.hard, .int .u32 x12.z.soft]) 69 :: bx (γ4 0) (#[.slice pd nd cd, .slice pv nv cv]) 25 :: (Yd ++ (Yv ++ []))) ?_ (fun hmx17 => ?_)
    ·
     rintro ⟨γ61, γ81⟩ _
     refine a1 5 rfl ?_
     refine mo0 1 [(5, .go (owns 0 0 2))] [3, 5, 6, 7, 19, 20, 21] (fun _ => []) (fun _ L => (L.set 0 (bx (γ81 0) (#[.slice pd nd cd, .slice pv nv cv]) 25))) (fun _ => ?_)
     refine od_ ?_
     refine tk (m := 0) [6, 7] [] [3, 5, 6, 7, 19, 20, 21] [(8, .int .i64 0), (9, .int .i64 0)] ([]) #[true, true, true, true, true, true, true, true] al0 ?_
     exact wk (hmx18 (γ61, γ81) trivial) [3, 5, 6, 7, 8, 9, 19, 20, 21] [[_], [_], [_], [_], _, _] [0, 1, 2, 3, 4, 5] rfl rfl
    refine any_cutX (V := (Nat → Nat) × (Nat → Nat)) (fun ⟨γ61, γ81⟩ => True) 4 #[true, false, true, true, true, false, false, false] (fun ⟨γ61, γ81⟩ => [(3, .pointer (some ⟨γ4 0, 0, none⟩)), (5, .pointer (some ⟨γ13 0, 0, none⟩)), (6, .pointer (some ⟨γ61 0, 0, none⟩)), (7, .pointer (some ⟨γ81 0, 0, none⟩)), (19, .slice (some ⟨b10, o10, none⟩) n cap), (20, .int .i64 ((n : Nat))), (21, .int .i64 ((j : Nat)))]) (fun ⟨γ61, γ81⟩ => bx (γ81 0) (#[.slice none 0 0, .slice none 0 0]) 25 :: bx (γ61 0) (#[.slice pd nd cd, .slice pv nv cv]) 25 :: bx (γ13 0) (#[.int .i64 x12.kind, .int .i64 x12.d.id, .int .i64 x12.d.weight, .int .i64 x12.d.cap, .int .i64 x12.d.pool, .int .i64 x12.z.id, .int .i64 x12.z.dom, .int .u32 x12.z.hard, .int .u32 x12.z.soft]) 69 :: bx (γ4 0) (#[.slice pd nd cd, .slice pv nv cv]) 25 :: (Yd ++ (Yv ++ []))) ?_ (fun hmx16 => ?_)
    ·
     rintro ⟨γ61, γ81⟩ _
     refine a1 1 rfl ?_
     refine qo0 1 [(1, .go (owns 3 0 2))] [3, 5, 6, 7, 19, 20, 21] [(29, .agg #[.slice pd nd cd, .slice pv nv cv])] ?_
     refine od_ ?_
     exact wk (hmx17 (γ61, γ81) trivial) [3, 5, 6, 7, 19, 20, 21, 29] [[_], [_], [_], [_], _, _] [0, 1, 2, 3, 4, 5] rfl rfl
    refine any_cutX (V := (Nat → Nat) × (Nat → Nat)) (fun ⟨γ61, γ81⟩ => True) 4 #[true, true, true, true, false, false, false, false] (fun ⟨γ61, γ81⟩ => [(3, .pointer (some ⟨γ4 0, 0, none⟩)), (5, .pointer (some ⟨γ13 0, 0, none⟩)), (6, .pointer (some ⟨γ61 0, 0, none⟩)), (7, .pointer (some ⟨γ81 0, 0, none⟩)), (19, .slice (some ⟨b10, o10, none⟩) n cap), (20, .int .i64 ((n : Nat))), (21, .int .i64 ((j : Nat))), (28, .agg #[.slice pd nd cd, .slice pv nv cv]), (29, .agg #[.slice pd nd cd, .slice pv nv cv])]) (fun ⟨γ61, γ81⟩ => bx (γ81 0) (#[.slice none 0 0, .slice none 0 0]) 25 :: bx (γ61 0) (#[.slice none 0 0, .slice none 0 0]) 25 :: bx (γ13 0) (#[.int .i64 x12.kind, .int .i64 x12.d.id, .int .i64 x12.d.weight, .int .i64 x12.d.cap, .int .i64 x12.d.pool, .int .i64 x12.z.id, .int .i64 x12.z.dom, .int .u32 x12.z.hard, .int .u32 x12.z.soft]) 69 :: bx (γ4 0) (#[.slice pd nd cd, .slice pv nv cv]) 25 :: (Yd ++ (Yv ++ []))) ?_ (fun hmx15 => ?_)
    ·
     rintro ⟨γ61, γ81⟩ _
     refine a1 4 rfl ?_
     refine mo0 1 [(4, .go (owns 1 0 2))] [3, 5, 6, 7, 19, 20, 21, 29] (fun _ => []) (fun _ L => (L.set 1 (bx (γ61 0) (#[.slice pd nd cd, .slice pv nv cv]) 25))) (fun _ => ?_)
     refine od_ ?_
     exact wk (hmx17 (γ61, γ81) trivial) [3, 5, 6, 7, 19, 20, 21, 29] [[_], [_], [_], [_], _, _] [0, 1, 2, 3, 4, 5] rfl rfl
    refine any_cutX (V := (Nat → Nat) × (Nat → Nat)) (fun ⟨γ61, γ81⟩ => True) 5 #[false, true, true, true, false, false, false, false] (fun ⟨γ61, γ81⟩ => [(3, .pointer (some ⟨γ4 0, 0, none⟩)), (5, .pointer (some ⟨γ13 0, 0, none⟩)), (6, .pointer (some ⟨γ61 0, 0, none⟩)), (7, .pointer (some ⟨γ81 0, 0, none⟩)), (19, .slice (some ⟨b10, o10, none⟩) n cap), (20, .int .i64 ((n : Nat))), (21, .int .i64 ((j : Nat))), (29, .agg #[.slice pd nd cd, .slice pv nv cv])]) (fun ⟨γ61, γ81⟩ => bx (γ81 0) (#[.slice none 0 0, .slice none 0 0]) 25 :: bx (γ61 0) (#[.slice none 0 0, .slice none 0 0]) 25 :: bx (γ13 0) (#[.int .i64 x12.kind, .int .i64 x12.d.id, .int .i64 x12.d.weight, .int .i64 x12.d.cap, .int .i64 x12.d.pool, .int .i64 x12.z.id, .int .i64 x12.z.dom, .int .u32 x12.z.hard, .int .u32 x12.z.soft]) 69 :: bx (γ4 0) (#[.slice pd nd cd, .slice pv nv cv]) 25 :: (Yd ++ (Yv ++ []))) ?_ (fun hmx14 => ?_)
    ·
     rintro ⟨γ61, γ81⟩ _
     refine a1 0 rfl ?_
     refine qo0 1 [(0, .go (owns 3 0 2))] [3, 5, 6, 7, 19, 20, 21, 29] [(28, .agg #[.slice pd nd cd, .slice pv nv cv])] ?_
     refine od_ ?_
     exact wk (hmx15 (γ61, γ81) trivial) [3, 5, 6, 7, 19, 20, 21, 28, 29] [[_], [_], [_], [_], _, _] [0, 1, 2, 3, 4, 5] rfl rfl
    refine any_cutX (V := (Nat → Nat) × (Nat → Nat)) (fun ⟨γ61, γ81⟩ => True) 5 #[true, false, true, true, false, false, false, false] (fun ⟨γ61, γ81⟩ => [(3, .pointer (some ⟨γ4 0, 0, none⟩)), (5, .pointer (some ⟨γ13 0, 0, none⟩)), (6, .pointer (some ⟨γ61 0, 0, none⟩)), (7, .pointer (some ⟨γ81 0, 0, none⟩)), (19, .slice (some ⟨b10, o10, none⟩) n cap), (20, .int .i64 ((n : Nat))), (21, .int .i64 ((j : Nat))), (28, .agg #[.slice pd nd cd, .slice pv nv cv])]) (fun ⟨γ61, γ81⟩ => bx (γ81 0) (#[.slice none 0 0, .slice none 0 0]) 25 :: bx (γ61 0) (#[.slice none 0 0, .slice none 0 0]) 25 :: bx (γ13 0) (#[.int .i64 x12.kind, .int .i64 x12.d.id, .int .i64 x12.d.weight, .int .i64 x12.d.cap, .int .i64 x12.d.pool, .int .i64 x12.z.id, .int .i64 x12.z.dom, .int .u32 x12.z.hard, .int .u32 x12.z.soft]) 69 :: bx (γ4 0) (#[.slice pd nd cd, .slice pv nv cv]) 25 :: (Yd ++ (Yv ++ []))) ?_ (fun hmx13 => ?_)
    ·
     rintro ⟨γ61, γ81⟩ _
     refine any_fork [1, 4] (by kernel_rfl) (by simp) (each_cons _ rfl ?_ (each_cons _ rfl ?_ (each_nil)))
     ·
      refine qo0 1 [(1, .go (owns 3 0 2))] [3, 5, 6, 7, 19, 20, 21, 28] [(29, .agg #[.slice pd nd cd, .slice pv nv cv])] ?_
      refine od_ ?_
      exact wk (hmx15 (γ61, γ81) trivial) [3, 5, 6, 7, 19, 20, 21, 28, 29] [[_], [_], [_], [_], _, _] [0, 1, 2, 3, 4, 5] rfl rfl
     ·
      refine mo0 1 [(4, .go (owns 1 0 2))] [3, 5, 6, 7, 19, 20, 21] (fun _ => []) (fun _ L => (L.set 1 (bx (γ61 0) (#[.slice pd nd cd, .slice pv nv cv]) 25))) (fun _ => ?_)
      refine od_ ?_
      exact wk (hmx16 (γ61, γ81) trivial) [3, 5, 6, 7, 19, 20, 21] [[_], [_], [_], [_], _, _] [0, 1, 2, 3, 4, 5] rfl rfl
    refine any_cutX (V := (Nat → Nat)) (fun γ81 => True) 5 #[true, true, false, true, false, false, false, false] (fun γ81 => [(3, .pointer (some ⟨γ4 0, 0, none⟩)), (5, .pointer (some ⟨γ13 0, 0, none⟩)), (7, .pointer (some ⟨γ81 0, 0, none⟩)), (19, .slice (some ⟨b10, o10, none⟩) n cap), (20, .int .i64 ((n : Nat))), (21, .int .i64 ((j : Nat))), (28, .agg #[.slice pd nd cd, .slice pv nv cv]), (29, .agg #[.slice pd nd cd, .slice pv nv cv])]) (fun γ81 => bx (γ81 0) (#[.slice none 0 0, .slice none 0 0]) 25 :: bx (γ13 0) (#[.int .i64 x12.kind, .int .i64 x12.d.id, .int .i64 x12.d.weight, .int .i64 x12.d.cap, .int .i64 x12.d.pool, .int .i64 x12.z.id, .int .i64 x12.z.dom, .int .u32 x12.z.hard, .int .u32 x12.z.soft]) 69 :: bx (γ4 0) (#[.slice pd nd cd, .slice pv nv cv]) 25 :: (Yd ++ (Yv ++ []))) ?_ (fun hmx12 => ?_)
    ·
     rintro γ81 _
     refine a1 2 rfl ?_
     refine mo0 1 [] [3, 5, 7, 19, 20, 21, 28, 29] (fun γ61 => [(6, .pointer (some ⟨γ61 0, 0, none⟩))]) (fun γ61 L => bx (γ61 0) (#[.slice none 0 0, .slice none 0 0]) 25 :: L) (fun γ61 => ?_)
     refine od_ ?_
     exact wk (hmx15 (γ61, γ81) trivial) [3, 5, 6, 7, 19, 20, 21, 28, 29] [[_], [_], [_], [_], _, _] [1, 0, 2, 3, 4, 5] rfl rfl
    refine any_cutX (V := (Nat → Nat)) (fun γ61 => True) 5 #[true, true, true, false, false, false, false, false] (fun γ61 => [(3, .pointer (some ⟨γ4 0, 0, none⟩)), (5, .pointer (some ⟨γ13 0, 0, none⟩)), (6, .pointer (some ⟨γ61 0, 0, none⟩)), (19, .slice (some ⟨b10, o10, none⟩) n cap), (20, .int .i64 ((n : Nat))), (21, .int .i64 ((j : Nat))), (28, .agg #[.slice pd nd cd, .slice pv nv cv]), (29, .agg #[.slice pd nd cd, .slice pv nv cv])]) (fun γ61 => bx (γ61 0) (#[.slice none 0 0, .slice none 0 0]) 25 :: bx (γ13 0) (#[.int .i64 x12.kind, .int .i64 x12.d.id, .int .i64 x12.d.weight, .int .i64 x12.d.cap, .int .i64 x12.d.pool, .int .i64 x12.z.id, .int .i64 x12.z.dom, .int .u32 x12.z.hard, .int .u32 x12.z.soft]) 69 :: bx (γ4 0) (#[.slice pd nd cd, .slice pv nv cv]) 25 :: (Yd ++ (Yv ++ []))) ?_ (fun hmx11 => ?_)
    ·
     rintro γ61 _
     refine a1 3 rfl ?_
     refine mo0 1 [] [3, 5, 6, 19, 20, 21, 28, 29] (fun γ81 => [(7, .pointer (some ⟨γ81 0, 0, none⟩))]) (fun γ81 L => bx (γ81 0) (#[.slice none 0 0, .slice none 0 0]) 25 :: L) (fun γ81 => ?_)
     refine od_ ?_
     exact wk (hmx15 (γ61, γ81) trivial) [3, 5, 6, 7, 19, 20, 21, 28, 29] [[_], [_], [_], [_], _, _] [0, 1, 2, 3, 4, 5] rfl rfl
    refine any_cutX (V := (Nat → Nat) × (Nat → Nat)) (fun ⟨γ61, γ81⟩ => True) 6 #[false, false, true, true, false, false, false, false] (fun ⟨γ61, γ81⟩ => [(3, .pointer (some ⟨γ4 0, 0, none⟩)), (5, .pointer (some ⟨γ13 0, 0, none⟩)), (6, .pointer (some ⟨γ61 0, 0, none⟩)), (7, .pointer (some ⟨γ81 0, 0, none⟩)), (19, .slice (some ⟨b10, o10, none⟩) n cap), (20, .int .i64 ((n : Nat))), (21, .int .i64 ((j : Nat)))]) (fun ⟨γ61, γ81⟩ => bx (γ81 0) (#[.slice none 0 0, .slice none 0 0]) 25 :: bx (γ61 0) (#[.slice none 0 0, .slice none 0 0]) 25 :: bx (γ13 0) (#[.int .i64 x12.kind, .int .i64 x12.d.id, .int .i64 x12.d.weight, .int .i64 x12.d.cap, .int .i64 x12.d.pool, .int .i64 x12.z.id, .int .i64 x12.z.dom, .int .u32 x12.z.hard, .int .u32 x12.z.soft]) 69 :: bx (γ4 0) (#[.slice pd nd cd, .slice pv nv cv]) 25 :: (Yd ++ (Yv ++ []))) ?_ (fun hmx10 => ?_)
    ·
     rintro ⟨γ61, γ81⟩ _
     refine any_fork [0, 1] (by kernel_rfl) (by simp) (each_cons _ rfl ?_ (each_cons _ rfl ?_ (each_nil)))
     ·
      refine qo0 1 [(0, .go (owns 3 0 2))] [3, 5, 6, 7, 19, 20, 21] [(28, .agg #[.slice pd nd cd, .slice pv nv cv])] ?_
      refine od_ ?_
      exact wk (hmx13 (γ61, γ81) trivial) [3, 5, 6, 7, 19, 20, 21, 28] [[_], [_], [_], [_], _, _] [0, 1, 2, 3, 4, 5] rfl rfl
     ·
      refine qo0 1 [(1, .go (owns 3 0 2))] [3, 5, 6, 7, 19, 20, 21] [(29, .agg #[.slice pd nd cd, .slice pv nv cv])] ?_
      refine od_ ?_
      exact wk (hmx14 (γ61, γ81) trivial) [3, 5, 6, 7, 19, 20, 21, 29] [[_], [_], [_], [_], _, _] [0, 1, 2, 3, 4, 5] rfl rfl
    refine any_cutX (V := (Nat → Nat)) (fun γ81 => True) 6 #[false, true, false, true, false, false, false, false] (fun γ81 => [(3, .pointer (some ⟨γ4 0, 0, none⟩)), (5, .pointer (some ⟨γ13 0, 0, none⟩)), (7, .pointer (some ⟨γ81 0, 0, none⟩)), (19, .slice (some ⟨b10, o10, none⟩) n cap), (20, .int .i64 ((n : Nat))), (21, .int .i64 ((j : Nat))), (29, .agg #[.slice pd nd cd, .slice pv nv cv])]) (fun γ81 => bx (γ81 0) (#[.slice none 0 0, .slice none 0 0]) 25 :: bx (γ13 0) (#[.int .i64 x12.kind, .int .i64 x12.d.id, .int .i64 x12.d.weight, .int .i64 x12.d.cap, .int .i64 x12.d.pool, .int .i64 x12.z.id, .int .i64 x12.z.dom, .int .u32 x12.z.hard, .int .u32 x12.z.soft]) 69 :: bx (γ4 0) (#[.slice pd nd cd, .slice pv nv cv]) 25 :: (Yd ++ (Yv ++ []))) ?_ (fun hmx9 => ?_)
    ·
     rintro γ81 _
     refine any_fork [0, 2] (by kernel_rfl) (by simp) (each_cons _ rfl ?_ (each_cons _ rfl ?_ (each_nil)))
     ·
      refine qo0 1 [(0, .go (owns 2 0 2))] [3, 5, 7, 19, 20, 21, 29] [(28, .agg #[.slice pd nd cd, .slice pv nv cv])] ?_
      refine od_ ?_
      exact wk (hmx12 γ81 trivial) [3, 5, 7, 19, 20, 21, 28, 29] [[_], [_], [_], _, _] [0, 1, 2, 3, 4] rfl rfl
     ·
      refine mo0 1 [] [3, 5, 7, 19, 20, 21, 29] (fun γ61 => [(6, .pointer (some ⟨γ61 0, 0, none⟩))]) (fun γ61 L => bx (γ61 0) (#[.slice none 0 0, .slice none 0 0]) 25 :: L) (fun γ61 => ?_)
      refine od_ ?_
      exact wk (hmx14 (γ61, γ81) trivial) [3, 5, 6, 7, 19, 20, 21, 29] [[_], [_], [_], [_], _, _] [1, 0, 2, 3, 4, 5] rfl rfl
    refine any_cutX (V := (Nat → Nat)) (fun γ61 => True) 6 #[false, true, true, false, false, false, false, false] (fun γ61 => [(3, .pointer (some ⟨γ4 0, 0, none⟩)), (5, .pointer (some ⟨γ13 0, 0, none⟩)), (6, .pointer (some ⟨γ61 0, 0, none⟩)), (19, .slice (some ⟨b10, o10, none⟩) n cap), (20, .int .i64 ((n : Nat))), (21, .int .i64 ((j : Nat))), (29, .agg #[.slice pd nd cd, .slice pv nv cv])]) (fun γ61 => bx (γ61 0) (#[.slice none 0 0, .slice none 0 0]) 25 :: bx (γ13 0) (#[.int .i64 x12.kind, .int .i64 x12.d.id, .int .i64 x12.d.weight, .int .i64 x12.d.cap, .int .i64 x12.d.pool, .int .i64 x12.z.id, .int .i64 x12.z.dom, .int .u32 x12.z.hard, .int .u32 x12.z.soft]) 69 :: bx (γ4 0) (#[.slice pd nd cd, .slice pv nv cv]) 25 :: (Yd ++ (Yv ++ []))) ?_ (fun hmx8 => ?_)
    ·
     rintro γ61 _
     refine any_fork [0, 3] (by kernel_rfl) (by simp) (each_cons _ rfl ?_ (each_cons _ rfl ?_ (each_nil)))
     ·
      refine qo0 1 [(0, .go (owns 2 0 2))] [3, 5, 6, 19, 20, 21, 29] [(28, .agg #[.slice pd nd cd, .slice pv nv cv])] ?_
      refine od_ ?_
      exact wk (hmx11 γ61 trivial) [3, 5, 6, 19, 20, 21, 28, 29] [[_], [_], [_], _, _] [0, 1, 2, 3, 4] rfl rfl
     ·
      refine mo0 1 [] [3, 5, 6, 19, 20, 21, 29] (fun γ81 => [(7, .pointer (some ⟨γ81 0, 0, none⟩))]) (fun γ81 L => bx (γ81 0) (#[.slice none 0 0, .slice none 0 0]) 25 :: L) (fun γ81 => ?_)
      refine od_ ?_
      exact wk (hmx14 (γ61, γ81) trivial) [3, 5, 6, 7, 19, 20, 21, 29] [[_], [_], [_], [_], _, _] [0, 1, 2, 3, 4, 5] rfl rfl
    refine any_cutX (V := (Nat → Nat)) (fun γ81 => True) 6 #[true, false, false, true, false, false, false, false] (fun γ81 => [(3, .pointer (some ⟨γ4 0, 0, none⟩)), (5, .pointer (some ⟨γ13 0, 0, none⟩)), (7, .pointer (some ⟨γ81 0, 0, none⟩)), (19, .slice (some ⟨b10, o10, none⟩) n cap), (20, .int .i64 ((n : Nat))), (21, .int .i64 ((j : Nat))), (28, .agg #[.slice pd nd cd, .slice pv nv cv])]) (fun γ81 => bx (γ81 0) (#[.slice none 0 0, .slice none 0 0]) 25 :: bx (γ13 0) (#[.int .i64 x12.kind, .int .i64 x12.d.id, .int .i64 x12.d.weight, .int .i64 x12.d.cap, .int .i64 x12.d.pool, .int .i64 x12.z.id, .int .i64 x12.z.dom, .int .u32 x12.z.hard, .int .u32 x12.z.soft]) 69 :: bx (γ4 0) (#[.slice pd nd cd, .slice pv nv cv]) 25 :: (Yd ++ (Yv ++ []))) ?_ (fun hmx7 => ?_)
    ·
     rintro γ81 _
     refine any_fork [1, 2] (by kernel_rfl) (by simp) (each_cons _ rfl ?_ (each_cons _ rfl ?_ (each_nil)))
     ·
      refine qo0 1 [(1, .go (owns 2 0 2))] [3, 5, 7, 19, 20, 21, 28] [(29, .agg #[.slice pd nd cd, .slice pv nv cv])] ?_
      refine od_ ?_
      exact wk (hmx12 γ81 trivial) [3, 5, 7, 19, 20, 21, 28, 29] [[_], [_], [_], _, _] [0, 1, 2, 3, 4] rfl rfl
     ·
      refine mo0 1 [] [3, 5, 7, 19, 20, 21, 28] (fun γ61 => [(6, .pointer (some ⟨γ61 0, 0, none⟩))]) (fun γ61 L => bx (γ61 0) (#[.slice none 0 0, .slice none 0 0]) 25 :: L) (fun γ61 => ?_)
      refine od_ ?_
      exact wk (hmx13 (γ61, γ81) trivial) [3, 5, 6, 7, 19, 20, 21, 28] [[_], [_], [_], [_], _, _] [1, 0, 2, 3, 4, 5] rfl rfl
    refine any_cutX (V := (Nat → Nat)) (fun γ61 => True) 6 #[true, false, true, false, false, false, false, false] (fun γ61 => [(3, .pointer (some ⟨γ4 0, 0, none⟩)), (5, .pointer (some ⟨γ13 0, 0, none⟩)), (6, .pointer (some ⟨γ61 0, 0, none⟩)), (19, .slice (some ⟨b10, o10, none⟩) n cap), (20, .int .i64 ((n : Nat))), (21, .int .i64 ((j : Nat))), (28, .agg #[.slice pd nd cd, .slice pv nv cv])]) (fun γ61 => bx (γ61 0) (#[.slice none 0 0, .slice none 0 0]) 25 :: bx (γ13 0) (#[.int .i64 x12.kind, .int .i64 x12.d.id, .int .i64 x12.d.weight, .int .i64 x12.d.cap, .int .i64 x12.d.pool, .int .i64 x12.z.id, .int .i64 x12.z.dom, .int .u32 x12.z.hard, .int .u32 x12.z.soft]) 69 :: bx (γ4 0) (#[.slice pd nd cd, .slice pv nv cv]) 25 :: (Yd ++ (Yv ++ []))) ?_ (fun hmx6 => ?_)
    ·
     rintro γ61 _
     refine any_fork [1, 3] (by kernel_rfl) (by simp) (each_cons _ rfl ?_ (each_cons _ rfl ?_ (each_nil)))
     ·
      refine qo0 1 [(1, .go (owns 2 0 2))] [3, 5, 6, 19, 20, 21, 28] [(29, .agg #[.slice pd nd cd, .slice pv nv cv])] ?_
      refine od_ ?_
      exact wk (hmx11 γ61 trivial) [3, 5, 6, 19, 20, 21, 28, 29] [[_], [_], [_], _, _] [0, 1, 2, 3, 4] rfl rfl
     ·
      refine mo0 1 [] [3, 5, 6, 19, 20, 21, 28] (fun γ81 => [(7, .pointer (some ⟨γ81 0, 0, none⟩))]) (fun γ81 L => bx (γ81 0) (#[.slice none 0 0, .slice none 0 0]) 25 :: L) (fun γ81 => ?_)
      refine od_ ?_
      exact wk (hmx13 (γ61, γ81) trivial) [3, 5, 6, 7, 19, 20, 21, 28] [[_], [_], [_], [_], _, _] [0, 1, 2, 3, 4, 5] rfl rfl
    refine any_cutX (V := Unit) (fun _ => True) 6 #[true, true, false, false, false, false, false, false] (fun _ => [(3, .pointer (some ⟨γ4 0, 0, none⟩)), (5, .pointer (some ⟨γ13 0, 0, none⟩)), (19, .slice (some ⟨b10, o10, none⟩) n cap), (20, .int .i64 ((n : Nat))), (21, .int .i64 ((j : Nat))), (28, .agg #[.slice pd nd cd, .slice pv nv cv]), (29, .agg #[.slice pd nd cd, .slice pv nv cv])]) (fun _ => bx (γ13 0) (#[.int .i64 x12.kind, .int .i64 x12.d.id, .int .i64 x12.d.weight, .int .i64 x12.d.cap, .int .i64 x12.d.pool, .int .i64 x12.z.id, .int .i64 x12.z.dom, .int .u32 x12.z.hard, .int .u32 x12.z.soft]) 69 :: bx (γ4 0) (#[.slice pd nd cd, .slice pv nv cv]) 25 :: (Yd ++ (Yv ++ []))) ?_ (fun hmx5 => ?_)
    ·
     rintro _ _
     refine any_fork [2, 3] (by kernel_rfl) (by simp) (each_cons _ rfl ?_ (each_cons _ rfl ?_ (each_nil)))
     ·
      refine mo0 1 [] [3, 5, 19, 20, 21, 28, 29] (fun γ61 => [(6, .pointer (some ⟨γ61 0, 0, none⟩))]) (fun γ61 L => bx (γ61 0) (#[.slice none 0 0, .slice none 0 0]) 25 :: L) (fun γ61 => ?_)
      refine od_ ?_
      exact wk (hmx11 γ61 trivial) [3, 5, 6, 19, 20, 21, 28, 29] [[_], [_], [_], _, _] [0, 1, 2, 3, 4] rfl rfl
     ·
      refine mo0 1 [] [3, 5, 19, 20, 21, 28, 29] (fun γ81 => [(7, .pointer (some ⟨γ81 0, 0, none⟩))]) (fun γ81 L => bx (γ81 0) (#[.slice none 0 0, .slice none 0 0]) 25 :: L) (fun γ81 => ?_)
      refine od_ ?_
      exact wk (hmx12 γ81 trivial) [3, 5, 7, 19, 20, 21, 28, 29] [[_], [_], [_], _, _] [0, 1, 2, 3, 4] rfl rfl
    refine any_cutX (V := (Nat → Nat)) (fun γ81 => True) 7 #[false, false, false, true, false, false, false, false] (fun γ81 => [(3, .pointer (some ⟨γ4 0, 0, none⟩)), (5, .pointer (some ⟨γ13 0, 0, none⟩)), (7, .pointer (some ⟨γ81 0, 0, none⟩)), (19, .slice (some ⟨b10, o10, none⟩) n cap), (20, .int .i64 ((n : Nat))), (21, .int .i64 ((j : Nat)))]) (fun γ81 => bx (γ81 0) (#[.slice none 0 0, .slice none 0 0]) 25 :: bx (γ13 0) (#[.int .i64 x12.kind, .int .i64 x12.d.id, .int .i64 x12.d.weight, .int .i64 x12.d.cap, .int .i64 x12.d.pool, .int .i64 x12.z.id, .int .i64 x12.z.dom, .int .u32 x12.z.hard, .int .u32 x12.z.soft]) 69 :: bx (γ4 0) (#[.slice pd nd cd, .slice pv nv cv]) 25 :: (Yd ++ (Yv ++ []))) ?_ (fun hmx4 => ?_)
    ·
     rintro γ81 _
     refine any_fork [0, 1, 2] (by kernel_rfl) (by simp) (each_cons _ rfl ?_ (each_cons _ rfl ?_ (each_cons _ rfl ?_ (each_nil))))
     ·
      refine qo0 1 [(0, .go (owns 2 0 2))] [3, 5, 7, 19, 20, 21] [(28, .agg #[.slice pd nd cd, .slice pv nv cv])] ?_
      refine od_ ?_
      exact wk (hmx7 γ81 trivial) [3, 5, 7, 19, 20, 21, 28] [[_], [_], [_], _, _] [0, 1, 2, 3, 4] rfl rfl
     ·
      refine qo0 1 [(1, .go (owns 2 0 2))] [3, 5, 7, 19, 20, 21] [(29, .agg #[.slice pd nd cd, .slice pv nv cv])] ?_
      refine od_ ?_
      exact wk (hmx9 γ81 trivial) [3, 5, 7, 19, 20, 21, 29] [[_], [_], [_], _, _] [0, 1, 2, 3, 4] rfl rfl
     ·
      refine mo0 1 [] [3, 5, 7, 19, 20, 21] (fun γ61 => [(6, .pointer (some ⟨γ61 0, 0, none⟩))]) (fun γ61 L => bx (γ61 0) (#[.slice none 0 0, .slice none 0 0]) 25 :: L) (fun γ61 => ?_)
      refine od_ ?_
      exact wk (hmx10 (γ61, γ81) trivial) [3, 5, 6, 7, 19, 20, 21] [[_], [_], [_], [_], _, _] [1, 0, 2, 3, 4, 5] rfl rfl
    refine any_cutX (V := (Nat → Nat)) (fun γ61 => True) 7 #[false, false, true, false, false, false, false, false] (fun γ61 => [(3, .pointer (some ⟨γ4 0, 0, none⟩)), (5, .pointer (some ⟨γ13 0, 0, none⟩)), (6, .pointer (some ⟨γ61 0, 0, none⟩)), (19, .slice (some ⟨b10, o10, none⟩) n cap), (20, .int .i64 ((n : Nat))), (21, .int .i64 ((j : Nat)))]) (fun γ61 => bx (γ61 0) (#[.slice none 0 0, .slice none 0 0]) 25 :: bx (γ13 0) (#[.int .i64 x12.kind, .int .i64 x12.d.id, .int .i64 x12.d.weight, .int .i64 x12.d.cap, .int .i64 x12.d.pool, .int .i64 x12.z.id, .int .i64 x12.z.dom, .int .u32 x12.z.hard, .int .u32 x12.z.soft]) 69 :: bx (γ4 0) (#[.slice pd nd cd, .slice pv nv cv]) 25 :: (Yd ++ (Yv ++ []))) ?_ (fun hmx3 => ?_)
    ·
     rintro γ61 _
     refine any_fork [0, 1, 3] (by kernel_rfl) (by simp) (each_cons _ rfl ?_ (each_cons _ rfl ?_ (each_cons _ rfl ?_ (each_nil))))
     ·
      refine qo0 1 [(0, .go (owns 2 0 2))] [3, 5, 6, 19, 20, 21] [(28, .agg #[.slice pd nd cd, .slice pv nv cv])] ?_
      refine od_ ?_
      exact wk (hmx6 γ61 trivial) [3, 5, 6, 19, 20, 21, 28] [[_], [_], [_], _, _] [0, 1, 2, 3, 4] rfl rfl
     ·
      refine qo0 1 [(1, .go (owns 2 0 2))] [3, 5, 6, 19, 20, 21] [(29, .agg #[.slice pd nd cd, .slice pv nv cv])] ?_
      refine od_ ?_
      exact wk (hmx8 γ61 trivial) [3, 5, 6, 19, 20, 21, 29] [[_], [_], [_], _, _] [0, 1, 2, 3, 4] rfl rfl
     ·
      refine mo0 1 [] [3, 5, 6, 19, 20, 21] (fun γ81 => [(7, .pointer (some ⟨γ81 0, 0, none⟩))]) (fun γ81 L => bx (γ81 0) (#[.slice none 0 0, .slice none 0 0]) 25 :: L) (fun γ81 => ?_)
      refine od_ ?_
      exact wk (hmx10 (γ61, γ81) trivial) [3, 5, 6, 7, 19, 20, 21] [[_], [_], [_], [_], _, _] [0, 1, 2, 3, 4, 5] rfl rfl
    refine any_cutX (V := Unit) (fun _ => True) 7 #[false, true, false, false, false, false, false, false] (fun _ => [(3, .pointer (some ⟨γ4 0, 0, none⟩)), (5, .pointer (some ⟨γ13 0, 0, none⟩)), (19, .slice (some ⟨b10, o10, none⟩) n cap), (20, .int .i64 ((n : Nat))), (21, .int .i64 ((j : Nat))), (29, .agg #[.slice pd nd cd, .slice pv nv cv])]) (fun _ => bx (γ13 0) (#[.int .i64 x12.kind, .int .i64 x12.d.id, .int .i64 x12.d.weight, .int .i64 x12.d.cap, .int .i64 x12.d.pool, .int .i64 x12.z.id, .int .i64 x12.z.dom, .int .u32 x12.z.hard, .int .u32 x12.z.soft]) 69 :: bx (γ4 0) (#[.slice pd nd cd, .slice pv nv cv]) 25 :: (Yd ++ (Yv ++ []))) ?_ (fun hmx2 => ?_)
    ·
     rintro _ _
     refine any_fork [0, 2, 3] (by kernel_rfl) (by simp) (each_cons _ rfl ?_ (each_cons _ rfl ?_ (each_cons _ rfl ?_ (each_nil))))
     ·
      refine qo0 1 [(0, .go (owns 1 0 2))] [3, 5, 19, 20, 21, 29] [(28, .agg #[.slice pd nd cd, .slice pv nv cv])] ?_
      refine od_ ?_
      exact wk (hmx5 () trivial) [3, 5, 19, 20, 21, 28, 29] [[_], [_], _, _] [0, 1, 2, 3] rfl rfl
     ·
      refine mo0 1 [] [3, 5, 19, 20, 21, 29] (fun γ61 => [(6, .pointer (some ⟨γ61 0, 0, none⟩))]) (fun γ61 L => bx (γ61 0) (#[.slice none 0 0, .slice none 0 0]) 25 :: L) (fun γ61 => ?_)
      refine od_ ?_
      exact wk (hmx8 γ61 trivial) [3, 5, 6, 19, 20, 21, 29] [[_], [_], [_], _, _] [0, 1, 2, 3, 4] rfl rfl
     ·
      refine mo0 1 [] [3, 5, 19, 20, 21, 29] (fun γ81 => [(7, .pointer (some ⟨γ81 0, 0, none⟩))]) (fun γ81 L => bx (γ81 0) (#[.slice none 0 0, .slice none 0 0]) 25 :: L) (fun γ81 => ?_)
      refine od_ ?_
      exact wk (hmx9 γ81 trivial) [3, 5, 7, 19, 20, 21, 29] [[_], [_], [_], _, _] [0, 1, 2, 3, 4] rfl rfl
    refine any_cutX (V := Unit) (fun _ => True) 7 #[true, false, false, false, false, false, false, false] (fun _ => [(3, .pointer (some ⟨γ4 0, 0, none⟩)), (5, .pointer (some ⟨γ13 0, 0, none⟩)), (19, .slice (some ⟨b10, o10, none⟩) n cap), (20, .int .i64 ((n : Nat))), (21, .int .i64 ((j : Nat))), (28, .agg #[.slice pd nd cd, .slice pv nv cv])]) (fun _ => bx (γ13 0) (#[.int .i64 x12.kind, .int .i64 x12.d.id, .int .i64 x12.d.weight, .int .i64 x12.d.cap, .int .i64 x12.d.pool, .int .i64 x12.z.id, .int .i64 x12.z.dom, .int .u32 x12.z.hard, .int .u32 x12.z.soft]) 69 :: bx (γ4 0) (#[.slice pd nd cd, .slice pv nv cv]) 25 :: (Yd ++ (Yv ++ []))) ?_ (fun hmx1 => ?_)
    ·
     rintro _ _
     refine any_fork [1, 2, 3] (by kernel_rfl) (by simp) (each_cons _ rfl ?_ (each_cons _ rfl ?_ (each_cons _ rfl ?_ (each_nil))))
     ·
      refine qo0 1 [(1, .go (owns 1 0 2))] [3, 5, 19, 20, 21, 28] [(29, .agg #[.slice pd nd cd, .slice pv nv cv])] ?_
      refine od_ ?_
      exact wk (hmx5 () trivial) [3, 5, 19, 20, 21, 28, 29] [[_], [_], _, _] [0, 1, 2, 3] rfl rfl
     ·
      refine mo0 1 [] [3, 5, 19, 20, 21, 28] (fun γ61 => [(6, .pointer (some ⟨γ61 0, 0, none⟩))]) (fun γ61 L => bx (γ61 0) (#[.slice none 0 0, .slice none 0 0]) 25 :: L) (fun γ61 => ?_)
      refine od_ ?_
      exact wk (hmx6 γ61 trivial) [3, 5, 6, 19, 20, 21, 28] [[_], [_], [_], _, _] [0, 1, 2, 3, 4] rfl rfl
     ·
      refine mo0 1 [] [3, 5, 19, 20, 21, 28] (fun γ81 => [(7, .pointer (some ⟨γ81 0, 0, none⟩))]) (fun γ81 L => bx (γ81 0) (#[.slice none 0 0, .slice none 0 0]) 25 :: L) (fun γ81 => ?_)
      refine od_ ?_
      exact wk (hmx7 γ81 trivial) [3, 5, 7, 19, 20, 21, 28] [[_], [_], [_], _, _] [0, 1, 2, 3, 4] rfl rfl
    refine any_fork [0, 1, 2, 3] (by kernel_rfl) (by simp) (each_cons _ rfl ?_ (each_cons _ rfl ?_ (each_cons _ rfl ?_ (each_cons _ rfl ?_ (each_nil)))))
    ·
     refine qo0 1 [(0, .go (owns 1 0 2))] [3, 5, 19, 20, 21] [(28, .agg #[.slice pd nd cd, .slice pv nv cv])] ?_
     refine od_ ?_
     exact wk (hmx1 () trivial) [3, 5, 19, 20, 21, 28] [[_], [_], _, _] [0, 1, 2, 3] rfl rfl
    ·
     refine qo0 1 [(1, .go (owns 1 0 2))] [3, 5, 19, 20, 21] [(29, .agg #[.slice pd nd cd, .slice pv nv cv])] ?_
     refine od_ ?_
     exact wk (hmx2 () trivial) [3, 5, 19, 20, 21, 29] [[_], [_], _, _] [0, 1, 2, 3] rfl rfl
    ·
     refine mo0 1 [] [3, 5, 19, 20, 21] (fun γ61 => [(6, .pointer (some ⟨γ61 0, 0, none⟩))]) (fun γ61 L => bx (γ61 0) (#[.slice none 0 0, .slice none 0 0]) 25 :: L) (fun γ61 => ?_)
     refine od_ ?_
     exact wk (hmx3 γ61 trivial) [3, 5, 6, 19, 20, 21] [[_], [_], [_], _, _] [0, 1, 2, 3, 4] rfl rfl
    ·
     refine mo0 1 [] [3, 5, 19, 20, 21] (fun γ81 => [(7, .pointer (some ⟨γ81 0, 0, none⟩))]) (fun γ81 L => bx (γ81 0) (#[.slice none 0 0, .slice none 0 0]) 25 :: L) (fun γ81 => ?_)
     refine od_ ?_
     exact wk (hmx4 γ81 trivial) [3, 5, 7, 19, 20, 21] [[_], [_], [_], _, _] [0, 1, 2, 3, 4] rfl rfl
   rintro ⟨γ61, γ81⟩ _
   refine any_nil (by kernel_rfl) ?_
   refine ds_ (sq_ (sq_ ?_))
   have hk6 := tmod6 x12.kind
   have hkd := kdD_lt x12.kind
   refine qa [(1, .go (owns 2 0 1)), (3, .fit)] [3, 5, 6, 7, 8, 9, 19, 20, 21] [(34, .int .i64 (kdD x12.kind))] ([Fit .i64 ((Int.tmod x12.kind 6) + 6)]) (al1 (fit64 (by omega) (by omega))) (ds_ (at_block (sq_ ?_)))
   by_cases q224 : (kdD x12.kind : Int) = (0 : Int)
   ·
    refine qa [(0, .yes)] [3, 5, 6, 7, 8, 9, 19, 20, 21, 34] [(35, .bool true)] ([(kdD x12.kind : Int) = (0 : Int)]) (al1 q224) (ds_ (t_ (sq_ (ao_ (qo0 3 [(0, .go (owns 3 0 2)), (2, .go (owns 2 1 4))] [3, 5, 6, 7, 9, 19, 20, 21] [(38, .agg #[.slice pd nd cd, .slice pv nv cv]), (40, .agg #[.int .i64 x12.d.id, .int .i64 x12.d.weight, .int .i64 x12.d.cap, .int .i64 x12.d.pool])] ?_)))))
    rcases stay_ways (fun a b => destroyV a b x12.d.id) (create_stay (d := x12.d) hG) with ⟨d1, v1, hr, hg, hb⟩ | ⟨e1, he1, hr⟩
    ·
     have hdl1 := (guests_iff.1 hg).dl
     have hvl1 := (guests_iff.1 hg).vl
     refine cP (fun v L' => ∃ q_ m_ c_ Y_ q2_ m2_ c2_ X_, v = .tuple #[.agg #[.slice q_ m_ c_, .slice q2_ m2_ c2_], .int .i64 0] ∧ L' = List.take 4 (bx (γ81 0) (#[.slice pd nd cd, .slice pv nv cv]) 25 :: bx (γ61 0) (#[.slice pd nd cd, .slice pv nv cv]) 25 :: bx (γ13 0) (#[.int .i64 x12.kind, .int .i64 x12.d.id, .int .i64 x12.d.weight, .int .i64 x12.d.cap, .int .i64 x12.d.pool, .int .i64 x12.z.id, .int .i64 x12.z.dom, .int .u32 x12.z.hard, .int .u32 x12.z.soft]) 69 :: bx (γ4 0) (#[.slice pd nd cd, .slice pv nv cv]) 25 :: (Yd ++ (Yv ++ []))) ++ (Y_ ++ (X_ ++ List.drop 4 (bx (γ81 0) (#[.slice pd nd cd, .slice pv nv cv]) 25 :: bx (γ61 0) (#[.slice pd nd cd, .slice pv nv cv]) 25 :: bx (γ13 0) (#[.int .i64 x12.kind, .int .i64 x12.d.id, .int .i64 x12.d.weight, .int .i64 x12.d.cap, .int .i64 x12.d.pool, .int .i64 x12.z.id, .int .i64 x12.z.dom, .int .u32 x12.z.hard, .int .u32 x12.z.soft]) 69 :: bx (γ4 0) (#[.slice pd nd cd, .slice pv nv cv]) 25 :: (Yd ++ (Yv ++ []))))) ∧ SlO 32 Y_ q_ m_ c_ d1 ∧ SlO 43 X_ q2_ m2_ c2_ v1) Try.call29 (fun w hw => by have := create_d pd nd cd ds pv nv cv vs x12.d w (hO.atN (A := [_, _, _, _]) hw) hO.len (by omega) (hP.atN (A := (_ :: _ :: _ :: _ :: Yd)) hw) hP.len (by omega); rw [hr] at this; exact this.mono fun e w' ⟨q_, m_, c_, Y_, q2_, m2_, c2_, X_, he, h1, h2, hb, hY⟩ => ⟨_, _, he, ⟨q_, m_, c_, Y_, q2_, m2_, c2_, X_, rfl, rfl, h1, h2⟩, hw.join2 hb hY 4⟩) ?_
     rintro v227 L227 ⟨q227, m227, c227, Y227, p227, k227, d227, Yx227, rfl, rfl, hO227, hP227⟩
     have hm227 := hO227.len
     have hn227 := hP227.len
     refine mo0 5 [(7, .go (owns 1 0 2))] [3, 5, 6, 7, 9, 19, 20, 21] (fun _ => [(8, .int .i64 0)]) (fun _ L => (L.set 1 (bx (γ61 0) (#[.slice q227 m227 c227, .slice p227 k227 d227]) 25))) (fun _ => on_ (ds_ (sq_ (qa0 [] [3, 5, 6, 7, 8, 9, 19, 20, 21] [(45, .bool true)] (ds_ (t_ (ao_ (qo0 4 [(0, .go (owns 1 0 2)), (3, .go (owns 2 1 1))] [3, 6, 7, 8, 19, 20, 21] [(47, .agg #[.slice q227 m227 c227, .slice p227 k227 d227]), (50, .int .i64 x12.d.id)] (cP (fun v L' => ∃ q_ m_ c_ Y_ q2_ m2_ c2_ X_, v = .tuple #[.agg #[.slice q_ m_ c_, .slice q2_ m2_ c2_], .int .i64 0] ∧ L' = List.take 4 (bx (γ81 0) (#[.slice pd nd cd, .slice pv nv cv]) 25 :: bx (γ61 0) (#[.slice q227 m227 c227, .slice p227 k227 d227]) 25 :: bx (γ13 0) (#[.int .i64 x12.kind, .int .i64 x12.d.id, .int .i64 x12.d.weight, .int .i64 x12.d.cap, .int .i64 x12.d.pool, .int .i64 x12.z.id, .int .i64 x12.z.dom, .int .u32 x12.z.hard, .int .u32 x12.z.soft]) 69 :: bx (γ4 0) (#[.slice pd nd cd, .slice pv nv cv]) 25 :: (Y227 ++ (Yx227 ++ (Yd ++ (Yv ++ []))))) ++ (Y_ ++ (X_ ++ List.drop 4 (bx (γ81 0) (#[.slice pd nd cd, .slice pv nv cv]) 25 :: bx (γ61 0) (#[.slice q227 m227 c227, .slice p227 k227 d227]) 25 :: bx (γ13 0) (#[.int .i64 x12.kind, .int .i64 x12.d.id, .int .i64 x12.d.weight, .int .i64 x12.d.cap, .int .i64 x12.d.pool, .int .i64 x12.z.id, .int .i64 x12.z.dom, .int .u32 x12.z.hard, .int .u32 x12.z.soft]) 69 :: bx (γ4 0) (#[.slice pd nd cd, .slice pv nv cv]) 25 :: (Y227 ++ (Yx227 ++ (Yd ++ (Yv ++ []))))))) ∧ SlO 32 Y_ q_ m_ c_ ds ∧ SlO 43 X_ q2_ m2_ c2_ vs) Try.call31 (fun w hw => by have := destroy_d q227 m227 c227 d1 p227 k227 d227 v1 x12.d.id w (hO227.atN (A := [_, _, _, _]) hw) hO227.len (by omega) (hP227.atN (A := (_ :: _ :: _ :: _ :: Y227)) hw) hP227.len (by omega); rw [hb] at this; exact this.mono fun e w' ⟨q_, m_, c_, Y_, q2_, m2_, c2_, X_, he, h1, h2, hb, hY⟩ => ⟨_, _, he, ⟨q_, m_, c_, Y_, q2_, m2_, c2_, X_, rfl, rfl, h1, h2⟩, hw.join2 hb hY 4⟩) ?_)))))))))
     rintro v231 L231 ⟨q231, m231, c231, Y231, p231, k231, d231, Yx231, rfl, rfl, hO231, hP231⟩
     have hm231 := hO231.len
     have hn231 := hP231.len
     refine mo0 5 [(8, .go (owns 0 0 2))] [3, 6, 7, 8, 19, 20, 21] (fun _ => [(9, .int .i64 0)]) (fun _ L => (L.set 0 (bx (γ81 0) (#[.slice q231 m231 c231, .slice p231 k231 d231]) 25))) (fun _ => on_ (done_block (ds_ (sq_ (sq_ (qa0 [] [3, 6, 7, 9, 19, 20, 21] [(171, .bool false)] (ds_ (f_ (at_skip (ds_ (sq_ (sq_ (ao_ (qo0 5 [(3, .go (owns 0 0 2)), (4, .go (owns 3 0 2))] [3, 6, 19, 20, 21] [(182, .bool false), (183, .agg #[.slice q231 m231 c231, .slice p231 k231 d231]), (184, .agg #[.slice pd nd cd, .slice pv nv cv])] (cD (.bool true) Try.call35 (fun w hw => by have := same_d q231 m231 c231 ds p231 k231 d231 vs pd nd cd ds pv nv cv vs w (hO231.atN (A := [_, _, _, _]) hw) hO231.len (by omega) (hP231.atN (A := (_ :: _ :: _ :: _ :: Y231)) hw) hP231.len (by omega) (hO.at ((hw.tailN 4).sub ((((List.sublist_append_right Yx227 _).trans (List.sublist_append_right Y227 _)).trans (List.sublist_append_right Yx231 _)).trans (List.sublist_append_right Y231 _)))) hO.len (by omega) (hP.at ((hw.tailN 4).sub (((((List.sublist_append_right Yd _).trans (List.sublist_append_right Yx227 _)).trans (List.sublist_append_right Y227 _)).trans (List.sublist_append_right Yx231 _)).trans (List.sublist_append_right Y231 _)))) hP.len (by omega); simpa using this) (qo0 4 [(9, .go (owns 1 0 2))] [3, 6, 19, 20, 21] [(188, .bool false), (189, .agg #[.slice q227 m227 c227, .slice p227 k227 d227])] (cD (.int .i64 0) Try.call10 (fun w hw => by have := gcheck_d q227 m227 c227 d1 p227 k227 d227 v1 w (hO227.at ((hw.tailN 4).sub ((List.sublist_append_right Yx231 _).trans (List.sublist_append_right Y231 _)))) hO227.len (by omega) (hP227.at ((hw.tailN 4).sub (((List.sublist_append_right Y227 _).trans (List.sublist_append_right Yx231 _)).trans (List.sublist_append_right Y231 _)))) hP227.len (by omega); rw [hg] at this; exact this) (qo0 2 [] [3, 6, 19, 20, 21] [(192, .bool false)] (on_ (ds_ (f_ (at_skip (ds_ (ma0 [(0, .go (owns 1 0 2)), (1, .go (owns 3 0 2))] [3, 19, 20, 21] (fun _ => []) (fun _ L => (L.set 3 (bx (γ4 0) (#[.slice q227 m227 c227, .slice p227 k227 d227]) 25))) (fun _ => done_block (ds_ (qa [(0, .fit)] [3, 19, 20] [(21, .int .i64 ((j + 1 : Nat)))] ([Fit .i64 ((j + 1 : Nat))]) (al1 (fit64 (by omega) (by omega))) (Done.pick [[bx (γ81 0) (#[.slice q231 m231 c231, .slice p231 k231 d231]) 25], [bx (γ61 0) (#[.slice q227 m227 c227, .slice p227 k227 d227]) 25], [bx (γ13 0) (#[.int .i64 x12.kind, .int .i64 x12.d.id, .int .i64 x12.d.weight, .int .i64 x12.d.cap, .int .i64 x12.d.pool, .int .i64 x12.z.id, .int .i64 x12.z.dom, .int .u32 x12.z.hard, .int .u32 x12.z.soft]) 69], [bx (γ4 0) (#[.slice q227 m227 c227, .slice p227 k227 d227]) 25], Y231, Yx231, Y227, Yx227, Yd, Yv] [3, 6, 7] [0, 1, 2, 4, 5, 8, 9] (bx (γ4 0) (#[.slice q227 m227 c227, .slice p227 k227 d227]) 25 :: (Y227 ++ (Yx227 ++ []))) (by kernel_rfl) rfl rfl ?_))))))))))))))))))))))))))))
     exact dr [3, 19, 20, 21] (j + 1, d1, v1, Y227, q227, m227, c227, Yx227, p227, k227, d227) ⟨by omega, hg, hO227, hP227⟩
    ·
     refine cP (fun v L' => ∃ q_ m_ c_ Y_ q2_ m2_ c2_ X_, v = .tuple #[.agg #[.slice q_ m_ c_, .slice q2_ m2_ c2_], .int .i64 e1] ∧ L' = List.take 4 (bx (γ81 0) (#[.slice pd nd cd, .slice pv nv cv]) 25 :: bx (γ61 0) (#[.slice pd nd cd, .slice pv nv cv]) 25 :: bx (γ13 0) (#[.int .i64 x12.kind, .int .i64 x12.d.id, .int .i64 x12.d.weight, .int .i64 x12.d.cap, .int .i64 x12.d.pool, .int .i64 x12.z.id, .int .i64 x12.z.dom, .int .u32 x12.z.hard, .int .u32 x12.z.soft]) 69 :: bx (γ4 0) (#[.slice pd nd cd, .slice pv nv cv]) 25 :: (Yd ++ (Yv ++ []))) ++ (Y_ ++ (X_ ++ List.drop 4 (bx (γ81 0) (#[.slice pd nd cd, .slice pv nv cv]) 25 :: bx (γ61 0) (#[.slice pd nd cd, .slice pv nv cv]) 25 :: bx (γ13 0) (#[.int .i64 x12.kind, .int .i64 x12.d.id, .int .i64 x12.d.weight, .int .i64 x12.d.cap, .int .i64 x12.d.pool, .int .i64 x12.z.id, .int .i64 x12.z.dom, .int .u32 x12.z.hard, .int .u32 x12.z.soft]) 69 :: bx (γ4 0) (#[.slice pd nd cd, .slice pv nv cv]) 25 :: (Yd ++ (Yv ++ []))))) ∧ SlO 32 Y_ q_ m_ c_ ([] : List Dom) ∧ SlO 43 X_ q2_ m2_ c2_ ([] : List Vcp)) Try.call29 (fun w hw => by have := create_d pd nd cd ds pv nv cv vs x12.d w (hO.atN (A := [_, _, _, _]) hw) hO.len (by omega) (hP.atN (A := (_ :: _ :: _ :: _ :: Yd)) hw) hP.len (by omega); rw [hr] at this; exact this.mono fun e w' ⟨q_, m_, c_, Y_, q2_, m2_, c2_, X_, he, h1, h2, hb, hY⟩ => ⟨_, _, he, ⟨q_, m_, c_, Y_, q2_, m2_, c2_, X_, rfl, rfl, h1, h2⟩, hw.join2 hb hY 4⟩) ?_
     rintro v239 L239 ⟨q239, m239, c239, Y239, p239, k239, d239, Yx239, rfl, rfl, hO239, hP239⟩
     have hm239 := hO239.len
     have hn239 := hP239.len
     simp only [List.length_cons, List.length_nil] at hm239 hn239
     refine mo0 5 [(7, .go (owns 1 0 2))] [3, 5, 6, 7, 9, 19, 20, 21] (fun _ => [(8, .int .i64 e1)]) (fun _ L => (L.set 1 (bx (γ61 0) (#[.slice q239 m239 c239, .slice p239 k239 d239]) 25))) (fun _ => on_ (ds_ (sq_ (qa [(1, .no)] [3, 5, 6, 7, 8, 9, 19, 20, 21] [(45, .bool false)] ([¬ ((e1 : Int) = (0 : Int))]) (al1 he1) (ds_ (f_ (at_skip (done_block (ds_ (sq_ (sq_ (qa [(1, .yes)] [3, 6, 7, 9, 19, 20, 21] [(171, .bool true)] ([(e1 : Int) ≠ (0 : Int)]) (al1 he1) (ds_ (t_ (sq_ (sq_ ?_))))))))))))))))
     by_cases q244 : ((m239 + k239 : Nat) : Int) > (0 : Int)
     ·
      refine qa [(1, .go (owns 1 0 1)), (4, .go (owns 1 1 1)), (6, .fit), (7, .yes)] [3, 19, 20, 21] [(179, .bool true)] ([Fit .i64 ((m239 + k239 : Nat))] ++ ([((m239 + k239 : Nat) : Int) > (0 : Int)])) (alA (al1 (fit64 (by omega) (by omega))) (al1 q244)) (ds_ (t_ (sq_ (qa0 [] [] [(2, .bool false)] (ds_ (rt ([]) (.bool false) ?_))))))
      exfalso; simp only [List.length_nil] at *; omega
     ·
      refine qa [(1, .go (owns 1 0 1)), (4, .go (owns 1 1 1)), (6, .fit), (7, .no)] [3, 19, 20, 21] [(179, .bool false)] ([Fit .i64 ((m239 + k239 : Nat))] ++ ([¬ (((m239 + k239 : Nat) : Int) > (0 : Int))])) (alA (al1 (fit64 (by omega) (by omega))) (al1 q244)) (ds_ (f_ (at_skip (ds_ (at_leave _ rfl (ds_ (qa [(0, .fit)] [3, 19, 20] [(21, .int .i64 ((j + 1 : Nat)))] ([Fit .i64 ((j + 1 : Nat))]) (al1 (fit64 (by omega) (by omega))) (Done.pick [[bx (γ81 0) (#[.slice pd nd cd, .slice pv nv cv]) 25], [bx (γ61 0) (#[.slice q239 m239 c239, .slice p239 k239 d239]) 25], [bx (γ13 0) (#[.int .i64 x12.kind, .int .i64 x12.d.id, .int .i64 x12.d.weight, .int .i64 x12.d.cap, .int .i64 x12.d.pool, .int .i64 x12.z.id, .int .i64 x12.z.dom, .int .u32 x12.z.hard, .int .u32 x12.z.soft]) 69], [bx (γ4 0) (#[.slice pd nd cd, .slice pv nv cv]) 25], Y239, Yx239, Yd, Yv] [3, 6, 7] [0, 1, 2, 4, 5] (bx (γ4 0) (#[.slice pd nd cd, .slice pv nv cv]) 25 :: (Yd ++ (Yv ++ []))) (by kernel_rfl) rfl rfl ?_))))))))
      exact dr [3, 19, 20, 21] (j + 1, ds, vs, Yd, pd, nd, cd, Yv, pv, nv, cv) ⟨by omega, hG, hO, hP⟩
   ·
    refine qa [(0, .no)] [3, 5, 6, 7, 8, 9, 19, 20, 21, 34] [(35, .bool false)] ([¬ ((kdD x12.kind : Int) = (0 : Int))]) (al1 q224) (ds_ (f_ (sq_ ?_)))
    by_cases q251 : (kdD x12.kind : Int) = (1 : Int)
    ·
     refine qa [(0, .yes)] [3, 5, 6, 7, 8, 9, 19, 20, 21, 34] [(54, .bool true)] ([(kdD x12.kind : Int) = (1 : Int)]) (al1 q251) (ds_ (t_ (sq_ (ao_ (qo0 4 [(0, .go (owns 3 0 2)), (3, .go (owns 2 1 1))] [3, 5, 6, 7, 9, 19, 20, 21] [(57, .agg #[.slice pd nd cd, .slice pv nv cv]), (60, .int .i64 x12.d.id)] (cD (.tuple #[.agg #[.int .i64 ((rowD (getK Dom.id ds x12.d.id)).id), .int .i64 ((rowD (getK Dom.id ds x12.d.id)).weight), .int .i64 ((rowD (getK Dom.id ds x12.d.id)).cap), .int .i64 ((rowD (getK Dom.id ds x12.d.id)).pool)], .bool ((getK Dom.id ds x12.d.id).isSome)]) Try.call36 (fun w hw => by have := gdomain_d pd nd cd ds pv nv cv vs x12.d.id w (hO.atN (A := [_, _, _, _]) hw) hO.len (by omega) (hP.atN (A := (_ :: _ :: _ :: _ :: Yd)) hw) hP.len (by omega); rw [fG_ok hG, optD_row] at this; exact this) (mo0 6 [(9, .go (owns 0 0 4))] [3, 5, 6, 7, 9, 19, 20, 21] (fun γ254 => [(10, .pointer (some ⟨γ254 0, 0, none⟩))]) (fun γ254 L => bx (γ254 0) (#[.int .i64 ((rowD (getK Dom.id ds x12.d.id)).id), .int .i64 ((rowD (getK Dom.id ds x12.d.id)).weight), .int .i64 ((rowD (getK Dom.id ds x12.d.id)).cap), .int .i64 ((rowD (getK Dom.id ds x12.d.id)).pool)]) 32 :: L) (fun γ254 => on_ (ds_ (sq_ (ao_ (qo0 3 [(0, .go (owns 4 0 2)), (2, .go (owns 3 1 4))] [3, 6, 7, 9, 10, 19, 20, 21] [(65, .agg #[.slice pd nd cd, .slice pv nv cv]), (67, .agg #[.int .i64 x12.d.id, .int .i64 x12.d.weight, .int .i64 x12.d.cap, .int .i64 x12.d.pool])] ?_))))))))))))
     rcases stay_ways (fun a b => changeV a b (rowD (getK Dom.id ds x12.d.id))) (change_stay (d := x12.d) hG) with ⟨d1, v1, hr, hg, hb⟩ | ⟨e1, he1, hr⟩
     ·
      have hdl1 := (guests_iff.1 hg).dl
      have hvl1 := (guests_iff.1 hg).vl
      refine cP (fun v L' => ∃ q_ m_ c_ Y_ q2_ m2_ c2_ X_, v = .tuple #[.agg #[.slice q_ m_ c_, .slice q2_ m2_ c2_], .int .i64 0] ∧ L' = List.take 5 (bx (γ254 0) (#[.int .i64 ((rowD (getK Dom.id ds x12.d.id)).id), .int .i64 ((rowD (getK Dom.id ds x12.d.id)).weight), .int .i64 ((rowD (getK Dom.id ds x12.d.id)).cap), .int .i64 ((rowD (getK Dom.id ds x12.d.id)).pool)]) 32 :: bx (γ81 0) (#[.slice pd nd cd, .slice pv nv cv]) 25 :: bx (γ61 0) (#[.slice pd nd cd, .slice pv nv cv]) 25 :: bx (γ13 0) (#[.int .i64 x12.kind, .int .i64 x12.d.id, .int .i64 x12.d.weight, .int .i64 x12.d.cap, .int .i64 x12.d.pool, .int .i64 x12.z.id, .int .i64 x12.z.dom, .int .u32 x12.z.hard, .int .u32 x12.z.soft]) 69 :: bx (γ4 0) (#[.slice pd nd cd, .slice pv nv cv]) 25 :: (Yd ++ (Yv ++ []))) ++ (Y_ ++ (X_ ++ List.drop 5 (bx (γ254 0) (#[.int .i64 ((rowD (getK Dom.id ds x12.d.id)).id), .int .i64 ((rowD (getK Dom.id ds x12.d.id)).weight), .int .i64 ((rowD (getK Dom.id ds x12.d.id)).cap), .int .i64 ((rowD (getK Dom.id ds x12.d.id)).pool)]) 32 :: bx (γ81 0) (#[.slice pd nd cd, .slice pv nv cv]) 25 :: bx (γ61 0) (#[.slice pd nd cd, .slice pv nv cv]) 25 :: bx (γ13 0) (#[.int .i64 x12.kind, .int .i64 x12.d.id, .int .i64 x12.d.weight, .int .i64 x12.d.cap, .int .i64 x12.d.pool, .int .i64 x12.z.id, .int .i64 x12.z.dom, .int .u32 x12.z.hard, .int .u32 x12.z.soft]) 69 :: bx (γ4 0) (#[.slice pd nd cd, .slice pv nv cv]) 25 :: (Yd ++ (Yv ++ []))))) ∧ SlO 32 Y_ q_ m_ c_ d1 ∧ SlO 43 X_ q2_ m2_ c2_ v1) Try.call30 (fun w hw => by have := change_d pd nd cd ds pv nv cv vs x12.d w (hO.atN (A := [_, _, _, _, _]) hw) hO.len (by omega) (hP.atN (A := (_ :: _ :: _ :: _ :: _ :: Yd)) hw) hP.len (by omega); rw [hr] at this; exact this.mono fun e w' ⟨q_, m_, c_, Y_, q2_, m2_, c2_, X_, he, h1, h2, hb, hY⟩ => ⟨_, _, he, ⟨q_, m_, c_, Y_, q2_, m2_, c2_, X_, rfl, rfl, h1, h2⟩, hw.join2 hb hY 5⟩) ?_
      rintro v256 L256 ⟨q256, m256, c256, Y256, p256, k256, d256, Yx256, rfl, rfl, hO256, hP256⟩
      have hm256 := hO256.len
      have hn256 := hP256.len
      refine mo0 5 [(7, .go (owns 2 0 2))] [3, 6, 7, 9, 10, 19, 20, 21] (fun _ => [(8, .int .i64 0)]) (fun _ L => (L.set 2 (bx (γ61 0) (#[.slice q256 m256 c256, .slice p256 k256 d256]) 25))) (fun _ => on_ (ds_ (sq_ (qa0 [] [3, 6, 7, 8, 9, 10, 19, 20, 21] [(72, .bool true)] (ds_ (t_ (ao_ (qo0 2 [(0, .go (owns 2 0 2)), (1, .go (owns 0 0 4))] [3, 6, 7, 8, 19, 20, 21] [(74, .agg #[.slice q256 m256 c256, .slice p256 k256 d256]), (75, .agg #[.int .i64 ((rowD (getK Dom.id ds x12.d.id)).id), .int .i64 ((rowD (getK Dom.id ds x12.d.id)).weight), .int .i64 ((rowD (getK Dom.id ds x12.d.id)).cap), .int .i64 ((rowD (getK Dom.id ds x12.d.id)).pool)])] (cP (fun v L' => ∃ q_ m_ c_ Y_ q2_ m2_ c2_ X_, v = .tuple #[.agg #[.slice q_ m_ c_, .slice q2_ m2_ c2_], .int .i64 0] ∧ L' = List.take 5 (bx (γ254 0) (#[.int .i64 ((rowD (getK Dom.id ds x12.d.id)).id), .int .i64 ((rowD (getK Dom.id ds x12.d.id)).weight), .int .i64 ((rowD (getK Dom.id ds x12.d.id)).cap), .int .i64 ((rowD (getK Dom.id ds x12.d.id)).pool)]) 32 :: bx (γ81 0) (#[.slice pd nd cd, .slice pv nv cv]) 25 :: bx (γ61 0) (#[.slice q256 m256 c256, .slice p256 k256 d256]) 25 :: bx (γ13 0) (#[.int .i64 x12.kind, .int .i64 x12.d.id, .int .i64 x12.d.weight, .int .i64 x12.d.cap, .int .i64 x12.d.pool, .int .i64 x12.z.id, .int .i64 x12.z.dom, .int .u32 x12.z.hard, .int .u32 x12.z.soft]) 69 :: bx (γ4 0) (#[.slice pd nd cd, .slice pv nv cv]) 25 :: (Y256 ++ (Yx256 ++ (Yd ++ (Yv ++ []))))) ++ (Y_ ++ (X_ ++ List.drop 5 (bx (γ254 0) (#[.int .i64 ((rowD (getK Dom.id ds x12.d.id)).id), .int .i64 ((rowD (getK Dom.id ds x12.d.id)).weight), .int .i64 ((rowD (getK Dom.id ds x12.d.id)).cap), .int .i64 ((rowD (getK Dom.id ds x12.d.id)).pool)]) 32 :: bx (γ81 0) (#[.slice pd nd cd, .slice pv nv cv]) 25 :: bx (γ61 0) (#[.slice q256 m256 c256, .slice p256 k256 d256]) 25 :: bx (γ13 0) (#[.int .i64 x12.kind, .int .i64 x12.d.id, .int .i64 x12.d.weight, .int .i64 x12.d.cap, .int .i64 x12.d.pool, .int .i64 x12.z.id, .int .i64 x12.z.dom, .int .u32 x12.z.hard, .int .u32 x12.z.soft]) 69 :: bx (γ4 0) (#[.slice pd nd cd, .slice pv nv cv]) 25 :: (Y256 ++ (Yx256 ++ (Yd ++ (Yv ++ []))))))) ∧ SlO 32 Y_ q_ m_ c_ ds ∧ SlO 43 X_ q2_ m2_ c2_ vs) Try.call30 (fun w hw => by have := change_d q256 m256 c256 d1 p256 k256 d256 v1 ((rowD (getK Dom.id ds x12.d.id))) w (hO256.atN (A := [_, _, _, _, _]) hw) hO256.len (by omega) (hP256.atN (A := (_ :: _ :: _ :: _ :: _ :: Y256)) hw) hP256.len (by omega); rw [hb] at this; exact this.mono fun e w' ⟨q_, m_, c_, Y_, q2_, m2_, c2_, X_, he, h1, h2, hb, hY⟩ => ⟨_, _, he, ⟨q_, m_, c_, Y_, q2_, m2_, c2_, X_, rfl, rfl, h1, h2⟩, hw.join2 hb hY 5⟩) ?_)))))))))
      rintro v260 L260 ⟨q260, m260, c260, Y260, p260, k260, d260, Yx260, rfl, rfl, hO260, hP260⟩
      have hm260 := hO260.len
      have hn260 := hP260.len
      refine mo0 5 [(6, .go (owns 1 0 2))] [3, 6, 7, 8, 19, 20, 21] (fun _ => [(9, .int .i64 0)]) (fun _ L => (L.set 1 (bx (γ81 0) (#[.slice q260 m260 c260, .slice p260 k260 d260]) 25))) (fun _ => on_ (done_block (ds_ (sq_ (sq_ (qa0 [] [3, 6, 7, 9, 19, 20, 21] [(171, .bool false)] (ds_ (f_ (at_skip (ds_ (sq_ (sq_ (ao_ (qo0 5 [(3, .go (owns 1 0 2)), (4, .go (owns 4 0 2))] [3, 6, 19, 20, 21] [(182, .bool false), (183, .agg #[.slice q260 m260 c260, .slice p260 k260 d260]), (184, .agg #[.slice pd nd cd, .slice pv nv cv])] (cD (.bool true) Try.call35 (fun w hw => by have := same_d q260 m260 c260 ds p260 k260 d260 vs pd nd cd ds pv nv cv vs w (hO260.atN (A := [_, _, _, _, _]) hw) hO260.len (by omega) (hP260.atN (A := (_ :: _ :: _ :: _ :: _ :: Y260)) hw) hP260.len (by omega) (hO.at ((hw.tailN 5).sub ((((List.sublist_append_right Yx256 _).trans (List.sublist_append_right Y256 _)).trans (List.sublist_append_right Yx260 _)).trans (List.sublist_append_right Y260 _)))) hO.len (by omega) (hP.at ((hw.tailN 5).sub (((((List.sublist_append_right Yd _).trans (List.sublist_append_right Yx256 _)).trans (List.sublist_append_right Y256 _)).trans (List.sublist_append_right Yx260 _)).trans (List.sublist_append_right Y260 _)))) hP.len (by omega); simpa using this) (qo0 4 [(9, .go (owns 2 0 2))] [3, 6, 19, 20, 21] [(188, .bool false), (189, .agg #[.slice q256 m256 c256, .slice p256 k256 d256])] (cD (.int .i64 0) Try.call10 (fun w hw => by have := gcheck_d q256 m256 c256 d1 p256 k256 d256 v1 w (hO256.at ((hw.tailN 5).sub ((List.sublist_append_right Yx260 _).trans (List.sublist_append_right Y260 _)))) hO256.len (by omega) (hP256.at ((hw.tailN 5).sub (((List.sublist_append_right Y256 _).trans (List.sublist_append_right Yx260 _)).trans (List.sublist_append_right Y260 _)))) hP256.len (by omega); rw [hg] at this; exact this) (qo0 2 [] [3, 6, 19, 20, 21] [(192, .bool false)] (on_ (ds_ (f_ (at_skip (ds_ (ma0 [(0, .go (owns 2 0 2)), (1, .go (owns 4 0 2))] [3, 19, 20, 21] (fun _ => []) (fun _ L => (L.set 4 (bx (γ4 0) (#[.slice q256 m256 c256, .slice p256 k256 d256]) 25))) (fun _ => done_block (ds_ (qa [(0, .fit)] [3, 19, 20] [(21, .int .i64 ((j + 1 : Nat)))] ([Fit .i64 ((j + 1 : Nat))]) (al1 (fit64 (by omega) (by omega))) (Done.pick [[bx (γ254 0) (#[.int .i64 ((rowD (getK Dom.id ds x12.d.id)).id), .int .i64 ((rowD (getK Dom.id ds x12.d.id)).weight), .int .i64 ((rowD (getK Dom.id ds x12.d.id)).cap), .int .i64 ((rowD (getK Dom.id ds x12.d.id)).pool)]) 32], [bx (γ81 0) (#[.slice q260 m260 c260, .slice p260 k260 d260]) 25], [bx (γ61 0) (#[.slice q256 m256 c256, .slice p256 k256 d256]) 25], [bx (γ13 0) (#[.int .i64 x12.kind, .int .i64 x12.d.id, .int .i64 x12.d.weight, .int .i64 x12.d.cap, .int .i64 x12.d.pool, .int .i64 x12.z.id, .int .i64 x12.z.dom, .int .u32 x12.z.hard, .int .u32 x12.z.soft]) 69], [bx (γ4 0) (#[.slice q256 m256 c256, .slice p256 k256 d256]) 25], Y260, Yx260, Y256, Yx256, Yd, Yv] [4, 7, 8] [0, 1, 2, 3, 5, 6, 9, 10] (bx (γ4 0) (#[.slice q256 m256 c256, .slice p256 k256 d256]) 25 :: (Y256 ++ (Yx256 ++ []))) (by kernel_rfl) rfl rfl ?_))))))))))))))))))))))))))))
      exact dr [3, 19, 20, 21] (j + 1, d1, v1, Y256, q256, m256, c256, Yx256, p256, k256, d256) ⟨by omega, hg, hO256, hP256⟩
     ·
      refine cP (fun v L' => ∃ q_ m_ c_ Y_ q2_ m2_ c2_ X_, v = .tuple #[.agg #[.slice q_ m_ c_, .slice q2_ m2_ c2_], .int .i64 e1] ∧ L' = List.take 5 (bx (γ254 0) (#[.int .i64 ((rowD (getK Dom.id ds x12.d.id)).id), .int .i64 ((rowD (getK Dom.id ds x12.d.id)).weight), .int .i64 ((rowD (getK Dom.id ds x12.d.id)).cap), .int .i64 ((rowD (getK Dom.id ds x12.d.id)).pool)]) 32 :: bx (γ81 0) (#[.slice pd nd cd, .slice pv nv cv]) 25 :: bx (γ61 0) (#[.slice pd nd cd, .slice pv nv cv]) 25 :: bx (γ13 0) (#[.int .i64 x12.kind, .int .i64 x12.d.id, .int .i64 x12.d.weight, .int .i64 x12.d.cap, .int .i64 x12.d.pool, .int .i64 x12.z.id, .int .i64 x12.z.dom, .int .u32 x12.z.hard, .int .u32 x12.z.soft]) 69 :: bx (γ4 0) (#[.slice pd nd cd, .slice pv nv cv]) 25 :: (Yd ++ (Yv ++ []))) ++ (Y_ ++ (X_ ++ List.drop 5 (bx (γ254 0) (#[.int .i64 ((rowD (getK Dom.id ds x12.d.id)).id), .int .i64 ((rowD (getK Dom.id ds x12.d.id)).weight), .int .i64 ((rowD (getK Dom.id ds x12.d.id)).cap), .int .i64 ((rowD (getK Dom.id ds x12.d.id)).pool)]) 32 :: bx (γ81 0) (#[.slice pd nd cd, .slice pv nv cv]) 25 :: bx (γ61 0) (#[.slice pd nd cd, .slice pv nv cv]) 25 :: bx (γ13 0) (#[.int .i64 x12.kind, .int .i64 x12.d.id, .int .i64 x12.d.weight, .int .i64 x12.d.cap, .int .i64 x12.d.pool, .int .i64 x12.z.id, .int .i64 x12.z.dom, .int .u32 x12.z.hard, .int .u32 x12.z.soft]) 69 :: bx (γ4 0) (#[.slice pd nd cd, .slice pv nv cv]) 25 :: (Yd ++ (Yv ++ []))))) ∧ SlO 32 Y_ q_ m_ c_ ([] : List Dom) ∧ SlO 43 X_ q2_ m2_ c2_ ([] : List Vcp)) Try.call30 (fun w hw => by have := change_d pd nd cd ds pv nv cv vs x12.d w (hO.atN (A := [_, _, _, _, _]) hw) hO.len (by omega) (hP.atN (A := (_ :: _ :: _ :: _ :: _ :: Yd)) hw) hP.len (by omega); rw [hr] at this; exact this.mono fun e w' ⟨q_, m_, c_, Y_, q2_, m2_, c2_, X_, he, h1, h2, hb, hY⟩ => ⟨_, _, he, ⟨q_, m_, c_, Y_, q2_, m2_, c2_, X_, rfl, rfl, h1, h2⟩, hw.join2 hb hY 5⟩) ?_
      rintro v268 L268 ⟨q268, m268, c268, Y268, p268, k268, d268, Yx268, rfl, rfl, hO268, hP268⟩
      have hm268 := hO268.len
      have hn268 := hP268.len
      simp only [List.length_cons, List.length_nil] at hm268 hn268
      refine mo0 5 [(7, .go (owns 2 0 2))] [3, 6, 7, 9, 10, 19, 20, 21] (fun _ => [(8, .int .i64 e1)]) (fun _ L => (L.set 2 (bx (γ61 0) (#[.slice q268 m268 c268, .slice p268 k268 d268]) 25))) (fun _ => on_ (ds_ (sq_ (qa [(1, .no)] [3, 6, 7, 8, 9, 10, 19, 20, 21] [(72, .bool false)] ([¬ ((e1 : Int) = (0 : Int))]) (al1 he1) (ds_ (f_ (at_skip (done_block (ds_ (sq_ (sq_ (qa [(1, .yes)] [3, 6, 7, 9, 19, 20, 21] [(171, .bool true)] ([(e1 : Int) ≠ (0 : Int)]) (al1 he1) (ds_ (t_ (sq_ (sq_ ?_))))))))))))))))
      by_cases q273 : ((m268 + k268 : Nat) : Int) > (0 : Int)
      ·
       refine qa [(1, .go (owns 2 0 1)), (4, .go (owns 2 1 1)), (6, .fit), (7, .yes)] [3, 19, 20, 21] [(179, .bool true)] ([Fit .i64 ((m268 + k268 : Nat))] ++ ([((m268 + k268 : Nat) : Int) > (0 : Int)])) (alA (al1 (fit64 (by omega) (by omega))) (al1 q273)) (ds_ (t_ (sq_ (qa0 [] [] [(2, .bool false)] (ds_ (rt ([]) (.bool false) ?_))))))
       exfalso; simp only [List.length_nil] at *; omega
      ·
       refine qa [(1, .go (owns 2 0 1)), (4, .go (owns 2 1 1)), (6, .fit), (7, .no)] [3, 19, 20, 21] [(179, .bool false)] ([Fit .i64 ((m268 + k268 : Nat))] ++ ([¬ (((m268 + k268 : Nat) : Int) > (0 : Int))])) (alA (al1 (fit64 (by omega) (by omega))) (al1 q273)) (ds_ (f_ (at_skip (ds_ (at_leave _ rfl (ds_ (qa [(0, .fit)] [3, 19, 20] [(21, .int .i64 ((j + 1 : Nat)))] ([Fit .i64 ((j + 1 : Nat))]) (al1 (fit64 (by omega) (by omega))) (Done.pick [[bx (γ254 0) (#[.int .i64 ((rowD (getK Dom.id ds x12.d.id)).id), .int .i64 ((rowD (getK Dom.id ds x12.d.id)).weight), .int .i64 ((rowD (getK Dom.id ds x12.d.id)).cap), .int .i64 ((rowD (getK Dom.id ds x12.d.id)).pool)]) 32], [bx (γ81 0) (#[.slice pd nd cd, .slice pv nv cv]) 25], [bx (γ61 0) (#[.slice q268 m268 c268, .slice p268 k268 d268]) 25], [bx (γ13 0) (#[.int .i64 x12.kind, .int .i64 x12.d.id, .int .i64 x12.d.weight, .int .i64 x12.d.cap, .int .i64 x12.d.pool, .int .i64 x12.z.id, .int .i64 x12.z.dom, .int .u32 x12.z.hard, .int .u32 x12.z.soft]) 69], [bx (γ4 0) (#[.slice pd nd cd, .slice pv nv cv]) 25], Y268, Yx268, Yd, Yv] [4, 7, 8] [0, 1, 2, 3, 5, 6] (bx (γ4 0) (#[.slice pd nd cd, .slice pv nv cv]) 25 :: (Yd ++ (Yv ++ []))) (by kernel_rfl) rfl rfl ?_))))))))
       exact dr [3, 19, 20, 21] (j + 1, ds, vs, Yd, pd, nd, cd, Yv, pv, nv, cv) ⟨by omega, hG, hO, hP⟩
    ·
     refine qa [(0, .no)] [3, 5, 6, 7, 8, 9, 19, 20, 21, 34] [(54, .bool false)] ([¬ ((kdD x12.kind : Int) = (1 : Int))]) (al1 q251) (ds_ (f_ (sq_ ?_)))
     by_cases q280 : (kdD x12.kind : Int) = (2 : Int)
     ·
      refine qa [(0, .yes)] [3, 5, 6, 7, 8, 9, 19, 20, 21, 34] [(79, .bool true)] ([(kdD x12.kind : Int) = (2 : Int)]) (al1 q280) (ds_ (t_ (sq_ (ao_ (qo0 4 [(0, .go (owns 3 0 2)), (3, .go (owns 2 1 1))] [3, 5, 6, 7, 9, 19, 20, 21] [(82, .agg #[.slice pd nd cd, .slice pv nv cv]), (85, .int .i64 x12.d.id)] (cD (.tuple #[.agg #[.int .i64 ((rowD (getK Dom.id ds x12.d.id)).id), .int .i64 ((rowD (getK Dom.id ds x12.d.id)).weight), .int .i64 ((rowD (getK Dom.id ds x12.d.id)).cap), .int .i64 ((rowD (getK Dom.id ds x12.d.id)).pool)], .bool ((getK Dom.id ds x12.d.id).isSome)]) Try.call36 (fun w hw => by have := gdomain_d pd nd cd ds pv nv cv vs x12.d.id w (hO.atN (A := [_, _, _, _]) hw) hO.len (by omega) (hP.atN (A := (_ :: _ :: _ :: _ :: Yd)) hw) hP.len (by omega); rw [fG_ok hG, optD_row] at this; exact this) (mo0 6 [(9, .go (owns 0 0 4))] [3, 5, 6, 7, 9, 19, 20, 21] (fun γ283 => [(12, .pointer (some ⟨γ283 0, 0, none⟩))]) (fun γ283 L => bx (γ283 0) (#[.int .i64 ((rowD (getK Dom.id ds x12.d.id)).id), .int .i64 ((rowD (getK Dom.id ds x12.d.id)).weight), .int .i64 ((rowD (getK Dom.id ds x12.d.id)).cap), .int .i64 ((rowD (getK Dom.id ds x12.d.id)).pool)]) 32 :: L) (fun γ283 => on_ (ds_ (sq_ (ao_ (qo0 4 [(0, .go (owns 4 0 2)), (3, .go (owns 3 1 1))] [3, 6, 7, 9, 12, 19, 20, 21] [(90, .agg #[.slice pd nd cd, .slice pv nv cv]), (93, .int .i64 x12.d.id)] ?_))))))))))))
      rcases stay_ways (fun a b => createV a b (rowD (getK Dom.id ds x12.d.id))) (destroy_stay (k := x12.d.id) hG) with ⟨d1, v1, hr, hg, hb⟩ | ⟨e1, he1, hr⟩
      ·
       have hdl1 := (guests_iff.1 hg).dl
       have hvl1 := (guests_iff.1 hg).vl
       refine cP (fun v L' => ∃ q_ m_ c_ Y_ q2_ m2_ c2_ X_, v = .tuple #[.agg #[.slice q_ m_ c_, .slice q2_ m2_ c2_], .int .i64 0] ∧ L' = List.take 5 (bx (γ283 0) (#[.int .i64 ((rowD (getK Dom.id ds x12.d.id)).id), .int .i64 ((rowD (getK Dom.id ds x12.d.id)).weight), .int .i64 ((rowD (getK Dom.id ds x12.d.id)).cap), .int .i64 ((rowD (getK Dom.id ds x12.d.id)).pool)]) 32 :: bx (γ81 0) (#[.slice pd nd cd, .slice pv nv cv]) 25 :: bx (γ61 0) (#[.slice pd nd cd, .slice pv nv cv]) 25 :: bx (γ13 0) (#[.int .i64 x12.kind, .int .i64 x12.d.id, .int .i64 x12.d.weight, .int .i64 x12.d.cap, .int .i64 x12.d.pool, .int .i64 x12.z.id, .int .i64 x12.z.dom, .int .u32 x12.z.hard, .int .u32 x12.z.soft]) 69 :: bx (γ4 0) (#[.slice pd nd cd, .slice pv nv cv]) 25 :: (Yd ++ (Yv ++ []))) ++ (Y_ ++ (X_ ++ List.drop 5 (bx (γ283 0) (#[.int .i64 ((rowD (getK Dom.id ds x12.d.id)).id), .int .i64 ((rowD (getK Dom.id ds x12.d.id)).weight), .int .i64 ((rowD (getK Dom.id ds x12.d.id)).cap), .int .i64 ((rowD (getK Dom.id ds x12.d.id)).pool)]) 32 :: bx (γ81 0) (#[.slice pd nd cd, .slice pv nv cv]) 25 :: bx (γ61 0) (#[.slice pd nd cd, .slice pv nv cv]) 25 :: bx (γ13 0) (#[.int .i64 x12.kind, .int .i64 x12.d.id, .int .i64 x12.d.weight, .int .i64 x12.d.cap, .int .i64 x12.d.pool, .int .i64 x12.z.id, .int .i64 x12.z.dom, .int .u32 x12.z.hard, .int .u32 x12.z.soft]) 69 :: bx (γ4 0) (#[.slice pd nd cd, .slice pv nv cv]) 25 :: (Yd ++ (Yv ++ []))))) ∧ SlO 32 Y_ q_ m_ c_ d1 ∧ SlO 43 X_ q2_ m2_ c2_ v1) Try.call31 (fun w hw => by have := destroy_d pd nd cd ds pv nv cv vs x12.d.id w (hO.atN (A := [_, _, _, _, _]) hw) hO.len (by omega) (hP.atN (A := (_ :: _ :: _ :: _ :: _ :: Yd)) hw) hP.len (by omega); rw [hr] at this; exact this.mono fun e w' ⟨q_, m_, c_, Y_, q2_, m2_, c2_, X_, he, h1, h2, hb, hY⟩ => ⟨_, _, he, ⟨q_, m_, c_, Y_, q2_, m2_, c2_, X_, rfl, rfl, h1, h2⟩, hw.join2 hb hY 5⟩) ?_
       rintro v285 L285 ⟨q285, m285, c285, Y285, p285, k285, d285, Yx285, rfl, rfl, hO285, hP285⟩
       have hm285 := hO285.len
       have hn285 := hP285.len
       refine mo0 5 [(8, .go (owns 2 0 2))] [3, 6, 7, 9, 12, 19, 20, 21] (fun _ => [(8, .int .i64 0)]) (fun _ L => (L.set 2 (bx (γ61 0) (#[.slice q285 m285 c285, .slice p285 k285 d285]) 25))) (fun _ => on_ (ds_ (sq_ (qa0 [] [3, 6, 7, 8, 9, 12, 19, 20, 21] [(98, .bool true)] (ds_ (t_ (ao_ (qo0 2 [(0, .go (owns 2 0 2)), (1, .go (owns 0 0 4))] [3, 6, 7, 8, 19, 20, 21] [(100, .agg #[.slice q285 m285 c285, .slice p285 k285 d285]), (101, .agg #[.int .i64 ((rowD (getK Dom.id ds x12.d.id)).id), .int .i64 ((rowD (getK Dom.id ds x12.d.id)).weight), .int .i64 ((rowD (getK Dom.id ds x12.d.id)).cap), .int .i64 ((rowD (getK Dom.id ds x12.d.id)).pool)])] (cP (fun v L' => ∃ q_ m_ c_ Y_ q2_ m2_ c2_ X_, v = .tuple #[.agg #[.slice q_ m_ c_, .slice q2_ m2_ c2_], .int .i64 0] ∧ L' = List.take 5 (bx (γ283 0) (#[.int .i64 ((rowD (getK Dom.id ds x12.d.id)).id), .int .i64 ((rowD (getK Dom.id ds x12.d.id)).weight), .int .i64 ((rowD (getK Dom.id ds x12.d.id)).cap), .int .i64 ((rowD (getK Dom.id ds x12.d.id)).pool)]) 32 :: bx (γ81 0) (#[.slice pd nd cd, .slice pv nv cv]) 25 :: bx (γ61 0) (#[.slice q285 m285 c285, .slice p285 k285 d285]) 25 :: bx (γ13 0) (#[.int .i64 x12.kind, .int .i64 x12.d.id, .int .i64 x12.d.weight, .int .i64 x12.d.cap, .int .i64 x12.d.pool, .int .i64 x12.z.id, .int .i64 x12.z.dom, .int .u32 x12.z.hard, .int .u32 x12.z.soft]) 69 :: bx (γ4 0) (#[.slice pd nd cd, .slice pv nv cv]) 25 :: (Y285 ++ (Yx285 ++ (Yd ++ (Yv ++ []))))) ++ (Y_ ++ (X_ ++ List.drop 5 (bx (γ283 0) (#[.int .i64 ((rowD (getK Dom.id ds x12.d.id)).id), .int .i64 ((rowD (getK Dom.id ds x12.d.id)).weight), .int .i64 ((rowD (getK Dom.id ds x12.d.id)).cap), .int .i64 ((rowD (getK Dom.id ds x12.d.id)).pool)]) 32 :: bx (γ81 0) (#[.slice pd nd cd, .slice pv nv cv]) 25 :: bx (γ61 0) (#[.slice q285 m285 c285, .slice p285 k285 d285]) 25 :: bx (γ13 0) (#[.int .i64 x12.kind, .int .i64 x12.d.id, .int .i64 x12.d.weight, .int .i64 x12.d.cap, .int .i64 x12.d.pool, .int .i64 x12.z.id, .int .i64 x12.z.dom, .int .u32 x12.z.hard, .int .u32 x12.z.soft]) 69 :: bx (γ4 0) (#[.slice pd nd cd, .slice pv nv cv]) 25 :: (Y285 ++ (Yx285 ++ (Yd ++ (Yv ++ []))))))) ∧ SlO 32 Y_ q_ m_ c_ ds ∧ SlO 43 X_ q2_ m2_ c2_ vs) Try.call29 (fun w hw => by have := create_d q285 m285 c285 d1 p285 k285 d285 v1 ((rowD (getK Dom.id ds x12.d.id))) w (hO285.atN (A := [_, _, _, _, _]) hw) hO285.len (by omega) (hP285.atN (A := (_ :: _ :: _ :: _ :: _ :: Y285)) hw) hP285.len (by omega); rw [hb] at this; exact this.mono fun e w' ⟨q_, m_, c_, Y_, q2_, m2_, c2_, X_, he, h1, h2, hb, hY⟩ => ⟨_, _, he, ⟨q_, m_, c_, Y_, q2_, m2_, c2_, X_, rfl, rfl, h1, h2⟩, hw.join2 hb hY 5⟩) ?_)))))))))
       rintro v289 L289 ⟨q289, m289, c289, Y289, p289, k289, d289, Yx289, rfl, rfl, hO289, hP289⟩
       have hm289 := hO289.len
       have hn289 := hP289.len
       refine mo0 5 [(6, .go (owns 1 0 2))] [3, 6, 7, 8, 19, 20, 21] (fun _ => [(9, .int .i64 0)]) (fun _ L => (L.set 1 (bx (γ81 0) (#[.slice q289 m289 c289, .slice p289 k289 d289]) 25))) (fun _ => on_ (done_block (ds_ (sq_ (sq_ (qa0 [] [3, 6, 7, 9, 19, 20, 21] [(171, .bool false)] (ds_ (f_ (at_skip (ds_ (sq_ (sq_ (ao_ (qo0 5 [(3, .go (owns 1 0 2)), (4, .go (owns 4 0 2))] [3, 6, 19, 20, 21] [(182, .bool false), (183, .agg #[.slice q289 m289 c289, .slice p289 k289 d289]), (184, .agg #[.slice pd nd cd, .slice pv nv cv])] (cD (.bool true) Try.call35 (fun w hw => by have := same_d q289 m289 c289 ds p289 k289 d289 vs pd nd cd ds pv nv cv vs w (hO289.atN (A := [_, _, _, _, _]) hw) hO289.len (by omega) (hP289.atN (A := (_ :: _ :: _ :: _ :: _ :: Y289)) hw) hP289.len (by omega) (hO.at ((hw.tailN 5).sub ((((List.sublist_append_right Yx285 _).trans (List.sublist_append_right Y285 _)).trans (List.sublist_append_right Yx289 _)).trans (List.sublist_append_right Y289 _)))) hO.len (by omega) (hP.at ((hw.tailN 5).sub (((((List.sublist_append_right Yd _).trans (List.sublist_append_right Yx285 _)).trans (List.sublist_append_right Y285 _)).trans (List.sublist_append_right Yx289 _)).trans (List.sublist_append_right Y289 _)))) hP.len (by omega); simpa using this) (qo0 4 [(9, .go (owns 2 0 2))] [3, 6, 19, 20, 21] [(188, .bool false), (189, .agg #[.slice q285 m285 c285, .slice p285 k285 d285])] (cD (.int .i64 0) Try.call10 (fun w hw => by have := gcheck_d q285 m285 c285 d1 p285 k285 d285 v1 w (hO285.at ((hw.tailN 5).sub ((List.sublist_append_right Yx289 _).trans (List.sublist_append_right Y289 _)))) hO285.len (by omega) (hP285.at ((hw.tailN 5).sub (((List.sublist_append_right Y285 _).trans (List.sublist_append_right Yx289 _)).trans (List.sublist_append_right Y289 _)))) hP285.len (by omega); rw [hg] at this; exact this) (qo0 2 [] [3, 6, 19, 20, 21] [(192, .bool false)] (on_ (ds_ (f_ (at_skip (ds_ (ma0 [(0, .go (owns 2 0 2)), (1, .go (owns 4 0 2))] [3, 19, 20, 21] (fun _ => []) (fun _ L => (L.set 4 (bx (γ4 0) (#[.slice q285 m285 c285, .slice p285 k285 d285]) 25))) (fun _ => done_block (ds_ (qa [(0, .fit)] [3, 19, 20] [(21, .int .i64 ((j + 1 : Nat)))] ([Fit .i64 ((j + 1 : Nat))]) (al1 (fit64 (by omega) (by omega))) (Done.pick [[bx (γ283 0) (#[.int .i64 ((rowD (getK Dom.id ds x12.d.id)).id), .int .i64 ((rowD (getK Dom.id ds x12.d.id)).weight), .int .i64 ((rowD (getK Dom.id ds x12.d.id)).cap), .int .i64 ((rowD (getK Dom.id ds x12.d.id)).pool)]) 32], [bx (γ81 0) (#[.slice q289 m289 c289, .slice p289 k289 d289]) 25], [bx (γ61 0) (#[.slice q285 m285 c285, .slice p285 k285 d285]) 25], [bx (γ13 0) (#[.int .i64 x12.kind, .int .i64 x12.d.id, .int .i64 x12.d.weight, .int .i64 x12.d.cap, .int .i64 x12.d.pool, .int .i64 x12.z.id, .int .i64 x12.z.dom, .int .u32 x12.z.hard, .int .u32 x12.z.soft]) 69], [bx (γ4 0) (#[.slice q285 m285 c285, .slice p285 k285 d285]) 25], Y289, Yx289, Y285, Yx285, Yd, Yv] [4, 7, 8] [0, 1, 2, 3, 5, 6, 9, 10] (bx (γ4 0) (#[.slice q285 m285 c285, .slice p285 k285 d285]) 25 :: (Y285 ++ (Yx285 ++ []))) (by kernel_rfl) rfl rfl ?_))))))))))))))))))))))))))))
       exact dr [3, 19, 20, 21] (j + 1, d1, v1, Y285, q285, m285, c285, Yx285, p285, k285, d285) ⟨by omega, hg, hO285, hP285⟩
      ·
       refine cP (fun v L' => ∃ q_ m_ c_ Y_ q2_ m2_ c2_ X_, v = .tuple #[.agg #[.slice q_ m_ c_, .slice q2_ m2_ c2_], .int .i64 e1] ∧ L' = List.take 5 (bx (γ283 0) (#[.int .i64 ((rowD (getK Dom.id ds x12.d.id)).id), .int .i64 ((rowD (getK Dom.id ds x12.d.id)).weight), .int .i64 ((rowD (getK Dom.id ds x12.d.id)).cap), .int .i64 ((rowD (getK Dom.id ds x12.d.id)).pool)]) 32 :: bx (γ81 0) (#[.slice pd nd cd, .slice pv nv cv]) 25 :: bx (γ61 0) (#[.slice pd nd cd, .slice pv nv cv]) 25 :: bx (γ13 0) (#[.int .i64 x12.kind, .int .i64 x12.d.id, .int .i64 x12.d.weight, .int .i64 x12.d.cap, .int .i64 x12.d.pool, .int .i64 x12.z.id, .int .i64 x12.z.dom, .int .u32 x12.z.hard, .int .u32 x12.z.soft]) 69 :: bx (γ4 0) (#[.slice pd nd cd, .slice pv nv cv]) 25 :: (Yd ++ (Yv ++ []))) ++ (Y_ ++ (X_ ++ List.drop 5 (bx (γ283 0) (#[.int .i64 ((rowD (getK Dom.id ds x12.d.id)).id), .int .i64 ((rowD (getK Dom.id ds x12.d.id)).weight), .int .i64 ((rowD (getK Dom.id ds x12.d.id)).cap), .int .i64 ((rowD (getK Dom.id ds x12.d.id)).pool)]) 32 :: bx (γ81 0) (#[.slice pd nd cd, .slice pv nv cv]) 25 :: bx (γ61 0) (#[.slice pd nd cd, .slice pv nv cv]) 25 :: bx (γ13 0) (#[.int .i64 x12.kind, .int .i64 x12.d.id, .int .i64 x12.d.weight, .int .i64 x12.d.cap, .int .i64 x12.d.pool, .int .i64 x12.z.id, .int .i64 x12.z.dom, .int .u32 x12.z.hard, .int .u32 x12.z.soft]) 69 :: bx (γ4 0) (#[.slice pd nd cd, .slice pv nv cv]) 25 :: (Yd ++ (Yv ++ []))))) ∧ SlO 32 Y_ q_ m_ c_ ([] : List Dom) ∧ SlO 43 X_ q2_ m2_ c2_ ([] : List Vcp)) Try.call31 (fun w hw => by have := destroy_d pd nd cd ds pv nv cv vs x12.d.id w (hO.atN (A := [_, _, _, _, _]) hw) hO.len (by omega) (hP.atN (A := (_ :: _ :: _ :: _ :: _ :: Yd)) hw) hP.len (by omega); rw [hr] at this; exact this.mono fun e w' ⟨q_, m_, c_, Y_, q2_, m2_, c2_, X_, he, h1, h2, hb, hY⟩ => ⟨_, _, he, ⟨q_, m_, c_, Y_, q2_, m2_, c2_, X_, rfl, rfl, h1, h2⟩, hw.join2 hb hY 5⟩) ?_
       rintro v297 L297 ⟨q297, m297, c297, Y297, p297, k297, d297, Yx297, rfl, rfl, hO297, hP297⟩
       have hm297 := hO297.len
       have hn297 := hP297.len
       simp only [List.length_cons, List.length_nil] at hm297 hn297
       refine mo0 5 [(8, .go (owns 2 0 2))] [3, 6, 7, 9, 12, 19, 20, 21] (fun _ => [(8, .int .i64 e1)]) (fun _ L => (L.set 2 (bx (γ61 0) (#[.slice q297 m297 c297, .slice p297 k297 d297]) 25))) (fun _ => on_ (ds_ (sq_ (qa [(1, .no)] [3, 6, 7, 8, 9, 12, 19, 20, 21] [(98, .bool false)] ([¬ ((e1 : Int) = (0 : Int))]) (al1 he1) (ds_ (f_ (at_skip (done_block (ds_ (sq_ (sq_ (qa [(1, .yes)] [3, 6, 7, 9, 19, 20, 21] [(171, .bool true)] ([(e1 : Int) ≠ (0 : Int)]) (al1 he1) (ds_ (t_ (sq_ (sq_ ?_))))))))))))))))
       by_cases q302 : ((m297 + k297 : Nat) : Int) > (0 : Int)
       ·
        refine qa [(1, .go (owns 2 0 1)), (4, .go (owns 2 1 1)), (6, .fit), (7, .yes)] [3, 19, 20, 21] [(179, .bool true)] ([Fit .i64 ((m297 + k297 : Nat))] ++ ([((m297 + k297 : Nat) : Int) > (0 : Int)])) (alA (al1 (fit64 (by omega) (by omega))) (al1 q302)) (ds_ (t_ (sq_ (qa0 [] [] [(2, .bool false)] (ds_ (rt ([]) (.bool false) ?_))))))
        exfalso; simp only [List.length_nil] at *; omega
       ·
        refine qa [(1, .go (owns 2 0 1)), (4, .go (owns 2 1 1)), (6, .fit), (7, .no)] [3, 19, 20, 21] [(179, .bool false)] ([Fit .i64 ((m297 + k297 : Nat))] ++ ([¬ (((m297 + k297 : Nat) : Int) > (0 : Int))])) (alA (al1 (fit64 (by omega) (by omega))) (al1 q302)) (ds_ (f_ (at_skip (ds_ (at_leave _ rfl (ds_ (qa [(0, .fit)] [3, 19, 20] [(21, .int .i64 ((j + 1 : Nat)))] ([Fit .i64 ((j + 1 : Nat))]) (al1 (fit64 (by omega) (by omega))) (Done.pick [[bx (γ283 0) (#[.int .i64 ((rowD (getK Dom.id ds x12.d.id)).id), .int .i64 ((rowD (getK Dom.id ds x12.d.id)).weight), .int .i64 ((rowD (getK Dom.id ds x12.d.id)).cap), .int .i64 ((rowD (getK Dom.id ds x12.d.id)).pool)]) 32], [bx (γ81 0) (#[.slice pd nd cd, .slice pv nv cv]) 25], [bx (γ61 0) (#[.slice q297 m297 c297, .slice p297 k297 d297]) 25], [bx (γ13 0) (#[.int .i64 x12.kind, .int .i64 x12.d.id, .int .i64 x12.d.weight, .int .i64 x12.d.cap, .int .i64 x12.d.pool, .int .i64 x12.z.id, .int .i64 x12.z.dom, .int .u32 x12.z.hard, .int .u32 x12.z.soft]) 69], [bx (γ4 0) (#[.slice pd nd cd, .slice pv nv cv]) 25], Y297, Yx297, Yd, Yv] [4, 7, 8] [0, 1, 2, 3, 5, 6] (bx (γ4 0) (#[.slice pd nd cd, .slice pv nv cv]) 25 :: (Yd ++ (Yv ++ []))) (by kernel_rfl) rfl rfl ?_))))))))
        exact dr [3, 19, 20, 21] (j + 1, ds, vs, Yd, pd, nd, cd, Yv, pv, nv, cv) ⟨by omega, hG, hO, hP⟩
     ·
      refine qa [(0, .no)] [3, 5, 6, 7, 8, 9, 19, 20, 21, 34] [(79, .bool false)] ([¬ ((kdD x12.kind : Int) = (2 : Int))]) (al1 q280) (ds_ (f_ (sq_ ?_)))
      by_cases q309 : (kdD x12.kind : Int) = (3 : Int)
      ·
       refine qa [(0, .yes)] [3, 5, 6, 7, 8, 9, 19, 20, 21, 34] [(105, .bool true)] ([(kdD x12.kind : Int) = (3 : Int)]) (al1 q309) (ds_ (t_ (sq_ (qa0 [] [3, 5, 6, 7, 9, 19, 20, 21] [] (ds_ (sq_ (ao_ (qo0 7 [(0, .go (owns 3 0 2)), (3, .go (owns 2 6 1)), (6, .go (owns 2 7 2))] [3, 6, 7, 9, 19, 20, 21] [(108, .agg #[.slice pd nd cd, .slice pv nv cv]), (111, .int .i64 x12.z.dom), (114, .agg #[.int .u32 x12.z.hard, .int .u32 x12.z.soft])] ?_))))))))
       rcases stay_ways (fun a b => dropV a b (addN ds vs x12.z.dom x12.z.hard x12.z.soft)) (add_stay (k := x12.z.dom) (hh := x12.z.hard) (ss := x12.z.soft) hG) with ⟨d1, v1, hr, hg, hb⟩ | ⟨e1, he1, hr⟩
       ·
        have hdl1 := (guests_iff.1 hg).dl
        have hvl1 := (guests_iff.1 hg).vl
        refine cP (fun v L' => ∃ q_ m_ c_ Y_ q2_ m2_ c2_ X_, v = .tuple #[.agg #[.slice q_ m_ c_, .slice q2_ m2_ c2_], .int .i64 (addN ds vs x12.z.dom x12.z.hard x12.z.soft), .int .i64 0] ∧ L' = List.take 4 (bx (γ81 0) (#[.slice pd nd cd, .slice pv nv cv]) 25 :: bx (γ61 0) (#[.slice pd nd cd, .slice pv nv cv]) 25 :: bx (γ13 0) (#[.int .i64 x12.kind, .int .i64 x12.d.id, .int .i64 x12.d.weight, .int .i64 x12.d.cap, .int .i64 x12.d.pool, .int .i64 x12.z.id, .int .i64 x12.z.dom, .int .u32 x12.z.hard, .int .u32 x12.z.soft]) 69 :: bx (γ4 0) (#[.slice pd nd cd, .slice pv nv cv]) 25 :: (Yd ++ (Yv ++ []))) ++ (Y_ ++ (X_ ++ List.drop 4 (bx (γ81 0) (#[.slice pd nd cd, .slice pv nv cv]) 25 :: bx (γ61 0) (#[.slice pd nd cd, .slice pv nv cv]) 25 :: bx (γ13 0) (#[.int .i64 x12.kind, .int .i64 x12.d.id, .int .i64 x12.d.weight, .int .i64 x12.d.cap, .int .i64 x12.d.pool, .int .i64 x12.z.id, .int .i64 x12.z.dom, .int .u32 x12.z.hard, .int .u32 x12.z.soft]) 69 :: bx (γ4 0) (#[.slice pd nd cd, .slice pv nv cv]) 25 :: (Yd ++ (Yv ++ []))))) ∧ SlO 32 Y_ q_ m_ c_ d1 ∧ SlO 43 X_ q2_ m2_ c2_ v1) Try.call16 (fun w hw => by have := add_d pd nd cd ds pv nv cv vs x12.z.dom x12.z.hard x12.z.soft w (hO.atN (A := [_, _, _, _]) hw) hO.len (by omega) (hP.atN (A := (_ :: _ :: _ :: _ :: Yd)) hw) hP.len (by omega); rw [hr] at this; exact this.mono fun e w' ⟨q_, m_, c_, Y_, q2_, m2_, c2_, X_, he, h1, h2, hb, hY⟩ => ⟨_, _, he, ⟨q_, m_, c_, Y_, q2_, m2_, c2_, X_, rfl, rfl, h1, h2⟩, hw.join2 hb hY 4⟩) ?_
        rintro v313 L313 ⟨q313, m313, c313, Y313, p313, k313, d313, Yx313, rfl, rfl, hO313, hP313⟩
        have hm313 := hO313.len
        have hn313 := hP313.len
        refine mo0 7 [(12, .go (owns 1 0 2))] [3, 6, 7, 9, 19, 20, 21] (fun _ => [(8, .int .i64 0), (14, .int .i64 ((addN ds vs x12.z.dom x12.z.hard x12.z.soft)))]) (fun _ L => (L.set 1 (bx (γ61 0) (#[.slice q313 m313 c313, .slice p313 k313 d313]) 25))) (fun _ => on_ (ds_ (sq_ (qa0 [] [3, 6, 7, 8, 9, 14, 19, 20, 21] [(120, .bool true)] (ds_ (t_ (ao_ (qo0 2 [(0, .go (owns 1 0 2))] [3, 6, 7, 8, 19, 20, 21] [(122, .agg #[.slice q313 m313 c313, .slice p313 k313 d313]), (123, .int .i64 ((addN ds vs x12.z.dom x12.z.hard x12.z.soft)))] (cP (fun v L' => ∃ q_ m_ c_ Y_ q2_ m2_ c2_ X_, v = .tuple #[.agg #[.slice q_ m_ c_, .slice q2_ m2_ c2_], .int .i64 0] ∧ L' = List.take 4 (bx (γ81 0) (#[.slice pd nd cd, .slice pv nv cv]) 25 :: bx (γ61 0) (#[.slice q313 m313 c313, .slice p313 k313 d313]) 25 :: bx (γ13 0) (#[.int .i64 x12.kind, .int .i64 x12.d.id, .int .i64 x12.d.weight, .int .i64 x12.d.cap, .int .i64 x12.d.pool, .int .i64 x12.z.id, .int .i64 x12.z.dom, .int .u32 x12.z.hard, .int .u32 x12.z.soft]) 69 :: bx (γ4 0) (#[.slice pd nd cd, .slice pv nv cv]) 25 :: (Y313 ++ (Yx313 ++ (Yd ++ (Yv ++ []))))) ++ (Y_ ++ (X_ ++ List.drop 4 (bx (γ81 0) (#[.slice pd nd cd, .slice pv nv cv]) 25 :: bx (γ61 0) (#[.slice q313 m313 c313, .slice p313 k313 d313]) 25 :: bx (γ13 0) (#[.int .i64 x12.kind, .int .i64 x12.d.id, .int .i64 x12.d.weight, .int .i64 x12.d.cap, .int .i64 x12.d.pool, .int .i64 x12.z.id, .int .i64 x12.z.dom, .int .u32 x12.z.hard, .int .u32 x12.z.soft]) 69 :: bx (γ4 0) (#[.slice pd nd cd, .slice pv nv cv]) 25 :: (Y313 ++ (Yx313 ++ (Yd ++ (Yv ++ []))))))) ∧ SlO 32 Y_ q_ m_ c_ ds ∧ SlO 43 X_ q2_ m2_ c2_ vs) Try.call17 (fun w hw => by have := drop_d q313 m313 c313 d1 p313 k313 d313 v1 ((addN ds vs x12.z.dom x12.z.hard x12.z.soft)) w (hO313.atN (A := [_, _, _, _]) hw) hO313.len (by omega) (hP313.atN (A := (_ :: _ :: _ :: _ :: Y313)) hw) hP313.len (by omega); rw [hb] at this; exact this.mono fun e w' ⟨q_, m_, c_, Y_, q2_, m2_, c2_, X_, he, h1, h2, hb, hY⟩ => ⟨_, _, he, ⟨q_, m_, c_, Y_, q2_, m2_, c2_, X_, rfl, rfl, h1, h2⟩, hw.join2 hb hY 4⟩) ?_)))))))))
        rintro v317 L317 ⟨q317, m317, c317, Y317, p317, k317, d317, Yx317, rfl, rfl, hO317, hP317⟩
        have hm317 := hO317.len
        have hn317 := hP317.len
        refine mo0 5 [(6, .go (owns 0 0 2))] [3, 6, 7, 8, 19, 20, 21] (fun _ => [(9, .int .i64 0)]) (fun _ L => (L.set 0 (bx (γ81 0) (#[.slice q317 m317 c317, .slice p317 k317 d317]) 25))) (fun _ => on_ (done_block (ds_ (sq_ (sq_ (qa0 [] [3, 6, 7, 9, 19, 20, 21] [(171, .bool false)] (ds_ (f_ (at_skip (ds_ (sq_ (sq_ (ao_ (qo0 5 [(3, .go (owns 0 0 2)), (4, .go (owns 3 0 2))] [3, 6, 19, 20, 21] [(182, .bool false), (183, .agg #[.slice q317 m317 c317, .slice p317 k317 d317]), (184, .agg #[.slice pd nd cd, .slice pv nv cv])] (cD (.bool true) Try.call35 (fun w hw => by have := same_d q317 m317 c317 ds p317 k317 d317 vs pd nd cd ds pv nv cv vs w (hO317.atN (A := [_, _, _, _]) hw) hO317.len (by omega) (hP317.atN (A := (_ :: _ :: _ :: _ :: Y317)) hw) hP317.len (by omega) (hO.at ((hw.tailN 4).sub ((((List.sublist_append_right Yx313 _).trans (List.sublist_append_right Y313 _)).trans (List.sublist_append_right Yx317 _)).trans (List.sublist_append_right Y317 _)))) hO.len (by omega) (hP.at ((hw.tailN 4).sub (((((List.sublist_append_right Yd _).trans (List.sublist_append_right Yx313 _)).trans (List.sublist_append_right Y313 _)).trans (List.sublist_append_right Yx317 _)).trans (List.sublist_append_right Y317 _)))) hP.len (by omega); simpa using this) (qo0 4 [(9, .go (owns 1 0 2))] [3, 6, 19, 20, 21] [(188, .bool false), (189, .agg #[.slice q313 m313 c313, .slice p313 k313 d313])] (cD (.int .i64 0) Try.call10 (fun w hw => by have := gcheck_d q313 m313 c313 d1 p313 k313 d313 v1 w (hO313.at ((hw.tailN 4).sub ((List.sublist_append_right Yx317 _).trans (List.sublist_append_right Y317 _)))) hO313.len (by omega) (hP313.at ((hw.tailN 4).sub (((List.sublist_append_right Y313 _).trans (List.sublist_append_right Yx317 _)).trans (List.sublist_append_right Y317 _)))) hP313.len (by omega); rw [hg] at this; exact this) (qo0 2 [] [3, 6, 19, 20, 21] [(192, .bool false)] (on_ (ds_ (f_ (at_skip (ds_ (ma0 [(0, .go (owns 1 0 2)), (1, .go (owns 3 0 2))] [3, 19, 20, 21] (fun _ => []) (fun _ L => (L.set 3 (bx (γ4 0) (#[.slice q313 m313 c313, .slice p313 k313 d313]) 25))) (fun _ => done_block (ds_ (qa [(0, .fit)] [3, 19, 20] [(21, .int .i64 ((j + 1 : Nat)))] ([Fit .i64 ((j + 1 : Nat))]) (al1 (fit64 (by omega) (by omega))) (Done.pick [[bx (γ81 0) (#[.slice q317 m317 c317, .slice p317 k317 d317]) 25], [bx (γ61 0) (#[.slice q313 m313 c313, .slice p313 k313 d313]) 25], [bx (γ13 0) (#[.int .i64 x12.kind, .int .i64 x12.d.id, .int .i64 x12.d.weight, .int .i64 x12.d.cap, .int .i64 x12.d.pool, .int .i64 x12.z.id, .int .i64 x12.z.dom, .int .u32 x12.z.hard, .int .u32 x12.z.soft]) 69], [bx (γ4 0) (#[.slice q313 m313 c313, .slice p313 k313 d313]) 25], Y317, Yx317, Y313, Yx313, Yd, Yv] [3, 6, 7] [0, 1, 2, 4, 5, 8, 9] (bx (γ4 0) (#[.slice q313 m313 c313, .slice p313 k313 d313]) 25 :: (Y313 ++ (Yx313 ++ []))) (by kernel_rfl) rfl rfl ?_))))))))))))))))))))))))))))
        exact dr [3, 19, 20, 21] (j + 1, d1, v1, Y313, q313, m313, c313, Yx313, p313, k313, d313) ⟨by omega, hg, hO313, hP313⟩
       ·
        refine cP (fun v L' => ∃ q_ m_ c_ Y_ q2_ m2_ c2_ X_, v = .tuple #[.agg #[.slice q_ m_ c_, .slice q2_ m2_ c2_], .int .i64 (addN ds vs x12.z.dom x12.z.hard x12.z.soft), .int .i64 e1] ∧ L' = List.take 4 (bx (γ81 0) (#[.slice pd nd cd, .slice pv nv cv]) 25 :: bx (γ61 0) (#[.slice pd nd cd, .slice pv nv cv]) 25 :: bx (γ13 0) (#[.int .i64 x12.kind, .int .i64 x12.d.id, .int .i64 x12.d.weight, .int .i64 x12.d.cap, .int .i64 x12.d.pool, .int .i64 x12.z.id, .int .i64 x12.z.dom, .int .u32 x12.z.hard, .int .u32 x12.z.soft]) 69 :: bx (γ4 0) (#[.slice pd nd cd, .slice pv nv cv]) 25 :: (Yd ++ (Yv ++ []))) ++ (Y_ ++ (X_ ++ List.drop 4 (bx (γ81 0) (#[.slice pd nd cd, .slice pv nv cv]) 25 :: bx (γ61 0) (#[.slice pd nd cd, .slice pv nv cv]) 25 :: bx (γ13 0) (#[.int .i64 x12.kind, .int .i64 x12.d.id, .int .i64 x12.d.weight, .int .i64 x12.d.cap, .int .i64 x12.d.pool, .int .i64 x12.z.id, .int .i64 x12.z.dom, .int .u32 x12.z.hard, .int .u32 x12.z.soft]) 69 :: bx (γ4 0) (#[.slice pd nd cd, .slice pv nv cv]) 25 :: (Yd ++ (Yv ++ []))))) ∧ SlO 32 Y_ q_ m_ c_ ([] : List Dom) ∧ SlO 43 X_ q2_ m2_ c2_ ([] : List Vcp)) Try.call16 (fun w hw => by have := add_d pd nd cd ds pv nv cv vs x12.z.dom x12.z.hard x12.z.soft w (hO.atN (A := [_, _, _, _]) hw) hO.len (by omega) (hP.atN (A := (_ :: _ :: _ :: _ :: Yd)) hw) hP.len (by omega); rw [hr] at this; exact this.mono fun e w' ⟨q_, m_, c_, Y_, q2_, m2_, c2_, X_, he, h1, h2, hb, hY⟩ => ⟨_, _, he, ⟨q_, m_, c_, Y_, q2_, m2_, c2_, X_, rfl, rfl, h1, h2⟩, hw.join2 hb hY 4⟩) ?_
        rintro v325 L325 ⟨q325, m325, c325, Y325, p325, k325, d325, Yx325, rfl, rfl, hO325, hP325⟩
        have hm325 := hO325.len
        have hn325 := hP325.len
        simp only [List.length_cons, List.length_nil] at hm325 hn325
        refine mo0 7 [(12, .go (owns 1 0 2))] [3, 6, 7, 9, 19, 20, 21] (fun _ => [(8, .int .i64 e1), (14, .int .i64 ((addN ds vs x12.z.dom x12.z.hard x12.z.soft)))]) (fun _ L => (L.set 1 (bx (γ61 0) (#[.slice q325 m325 c325, .slice p325 k325 d325]) 25))) (fun _ => on_ (ds_ (sq_ (qa [(1, .no)] [3, 6, 7, 8, 9, 14, 19, 20, 21] [(120, .bool false)] ([¬ ((e1 : Int) = (0 : Int))]) (al1 he1) (ds_ (f_ (at_skip (done_block (ds_ (sq_ (sq_ (qa [(1, .yes)] [3, 6, 7, 9, 19, 20, 21] [(171, .bool true)] ([(e1 : Int) ≠ (0 : Int)]) (al1 he1) (ds_ (t_ (sq_ (sq_ ?_))))))))))))))))
        by_cases q330 : ((m325 + k325 : Nat) : Int) > (0 : Int)
        ·
         refine qa [(1, .go (owns 1 0 1)), (4, .go (owns 1 1 1)), (6, .fit), (7, .yes)] [3, 19, 20, 21] [(179, .bool true)] ([Fit .i64 ((m325 + k325 : Nat))] ++ ([((m325 + k325 : Nat) : Int) > (0 : Int)])) (alA (al1 (fit64 (by omega) (by omega))) (al1 q330)) (ds_ (t_ (sq_ (qa0 [] [] [(2, .bool false)] (ds_ (rt ([]) (.bool false) ?_))))))
         exfalso; simp only [List.length_nil] at *; omega
        ·
         refine qa [(1, .go (owns 1 0 1)), (4, .go (owns 1 1 1)), (6, .fit), (7, .no)] [3, 19, 20, 21] [(179, .bool false)] ([Fit .i64 ((m325 + k325 : Nat))] ++ ([¬ (((m325 + k325 : Nat) : Int) > (0 : Int))])) (alA (al1 (fit64 (by omega) (by omega))) (al1 q330)) (ds_ (f_ (at_skip (ds_ (at_leave _ rfl (ds_ (qa [(0, .fit)] [3, 19, 20] [(21, .int .i64 ((j + 1 : Nat)))] ([Fit .i64 ((j + 1 : Nat))]) (al1 (fit64 (by omega) (by omega))) (Done.pick [[bx (γ81 0) (#[.slice pd nd cd, .slice pv nv cv]) 25], [bx (γ61 0) (#[.slice q325 m325 c325, .slice p325 k325 d325]) 25], [bx (γ13 0) (#[.int .i64 x12.kind, .int .i64 x12.d.id, .int .i64 x12.d.weight, .int .i64 x12.d.cap, .int .i64 x12.d.pool, .int .i64 x12.z.id, .int .i64 x12.z.dom, .int .u32 x12.z.hard, .int .u32 x12.z.soft]) 69], [bx (γ4 0) (#[.slice pd nd cd, .slice pv nv cv]) 25], Y325, Yx325, Yd, Yv] [3, 6, 7] [0, 1, 2, 4, 5] (bx (γ4 0) (#[.slice pd nd cd, .slice pv nv cv]) 25 :: (Yd ++ (Yv ++ []))) (by kernel_rfl) rfl rfl ?_))))))))
         exact dr [3, 19, 20, 21] (j + 1, ds, vs, Yd, pd, nd, cd, Yv, pv, nv, cv) ⟨by omega, hG, hO, hP⟩
      ·
       refine qa [(0, .no)] [3, 5, 6, 7, 8, 9, 19, 20, 21, 34] [(105, .bool false)] ([¬ ((kdD x12.kind : Int) = (3 : Int))]) (al1 q309) (ds_ (f_ (sq_ ?_)))
       by_cases q337 : (kdD x12.kind : Int) = (4 : Int)
       ·
        refine qa [(0, .yes)] [3, 5, 6, 7, 8, 9, 19, 20, 21, 34] [(127, .bool true)] ([(kdD x12.kind : Int) = (4 : Int)]) (al1 q337) (ds_ (t_ (ao_ (qo0 4 [(0, .go (owns 3 0 2)), (3, .go (owns 2 5 1))] [3, 6, 7, 9, 19, 20, 21] [(130, .agg #[.slice pd nd cd, .slice pv nv cv]), (133, .int .i64 x12.z.id)] ?_))))
        rcases stay_ways (fun a b => (ds, vs, 0)) (drop_stay (k := x12.z.id) hG) with ⟨d1, v1, hr, hg, hb⟩ | ⟨e1, he1, hr⟩
        ·
         have hdl1 := (guests_iff.1 hg).dl
         have hvl1 := (guests_iff.1 hg).vl
         refine cP (fun v L' => ∃ q_ m_ c_ Y_ q2_ m2_ c2_ X_, v = .tuple #[.agg #[.slice q_ m_ c_, .slice q2_ m2_ c2_], .int .i64 0] ∧ L' = List.take 4 (bx (γ81 0) (#[.slice pd nd cd, .slice pv nv cv]) 25 :: bx (γ61 0) (#[.slice pd nd cd, .slice pv nv cv]) 25 :: bx (γ13 0) (#[.int .i64 x12.kind, .int .i64 x12.d.id, .int .i64 x12.d.weight, .int .i64 x12.d.cap, .int .i64 x12.d.pool, .int .i64 x12.z.id, .int .i64 x12.z.dom, .int .u32 x12.z.hard, .int .u32 x12.z.soft]) 69 :: bx (γ4 0) (#[.slice pd nd cd, .slice pv nv cv]) 25 :: (Yd ++ (Yv ++ []))) ++ (Y_ ++ (X_ ++ List.drop 4 (bx (γ81 0) (#[.slice pd nd cd, .slice pv nv cv]) 25 :: bx (γ61 0) (#[.slice pd nd cd, .slice pv nv cv]) 25 :: bx (γ13 0) (#[.int .i64 x12.kind, .int .i64 x12.d.id, .int .i64 x12.d.weight, .int .i64 x12.d.cap, .int .i64 x12.d.pool, .int .i64 x12.z.id, .int .i64 x12.z.dom, .int .u32 x12.z.hard, .int .u32 x12.z.soft]) 69 :: bx (γ4 0) (#[.slice pd nd cd, .slice pv nv cv]) 25 :: (Yd ++ (Yv ++ []))))) ∧ SlO 32 Y_ q_ m_ c_ d1 ∧ SlO 43 X_ q2_ m2_ c2_ v1) Try.call17 (fun w hw => by have := drop_d pd nd cd ds pv nv cv vs x12.z.id w (hO.atN (A := [_, _, _, _]) hw) hO.len (by omega) (hP.atN (A := (_ :: _ :: _ :: _ :: Yd)) hw) hP.len (by omega); rw [hr] at this; exact this.mono fun e w' ⟨q_, m_, c_, Y_, q2_, m2_, c2_, X_, he, h1, h2, hb, hY⟩ => ⟨_, _, he, ⟨q_, m_, c_, Y_, q2_, m2_, c2_, X_, rfl, rfl, h1, h2⟩, hw.join2 hb hY 4⟩) ?_
         rintro v340 L340 ⟨q340, m340, c340, Y340, p340, k340, d340, Yx340, rfl, rfl, hO340, hP340⟩
         have hm340 := hO340.len
         have hn340 := hP340.len
         refine mo0 5 [(8, .go (owns 1 0 2))] [3, 6, 7, 9, 19, 20, 21] (fun _ => [(8, .int .i64 0)]) (fun _ L => (L.set 1 (bx (γ61 0) (#[.slice q340 m340 c340, .slice p340 k340 d340]) 25))) (fun _ => on_ (done_block (ds_ (sq_ (sq_ (qa0 [] [3, 6, 7, 9, 19, 20, 21] [(171, .bool false)] (ds_ (f_ (at_skip (ds_ (sq_ (sq_ (ao_ (qo0 5 [(3, .go (owns 0 0 2)), (4, .go (owns 3 0 2))] [3, 6, 19, 20, 21] [(182, .bool false), (183, .agg #[.slice pd nd cd, .slice pv nv cv]), (184, .agg #[.slice pd nd cd, .slice pv nv cv])] (cD (.bool true) Try.call35 (fun w hw => by have := same_d pd nd cd ds pv nv cv vs pd nd cd ds pv nv cv vs w (hO.at ((hw.tailN 4).sub ((List.sublist_append_right Yx340 _).trans (List.sublist_append_right Y340 _)))) hO.len (by omega) (hP.at ((hw.tailN 4).sub (((List.sublist_append_right Yd _).trans (List.sublist_append_right Yx340 _)).trans (List.sublist_append_right Y340 _)))) hP.len (by omega) (hO.at ((hw.tailN 4).sub ((List.sublist_append_right Yx340 _).trans (List.sublist_append_right Y340 _)))) hO.len (by omega) (hP.at ((hw.tailN 4).sub (((List.sublist_append_right Yd _).trans (List.sublist_append_right Yx340 _)).trans (List.sublist_append_right Y340 _)))) hP.len (by omega); simpa using this) (qo0 4 [(9, .go (owns 1 0 2))] [3, 6, 19, 20, 21] [(188, .bool false), (189, .agg #[.slice q340 m340 c340, .slice p340 k340 d340])] (cD (.int .i64 0) Try.call10 (fun w hw => by have := gcheck_d q340 m340 c340 d1 p340 k340 d340 v1 w (hO340.atN (A := [_, _, _, _]) hw) hO340.len (by omega) (hP340.atN (A := (_ :: _ :: _ :: _ :: Y340)) hw) hP340.len (by omega); rw [hg] at this; exact this) (qo0 2 [] [3, 6, 19, 20, 21] [(192, .bool false)] (on_ (ds_ (f_ (at_skip (ds_ (ma0 [(0, .go (owns 1 0 2)), (1, .go (owns 3 0 2))] [3, 19, 20, 21] (fun _ => []) (fun _ L => (L.set 3 (bx (γ4 0) (#[.slice q340 m340 c340, .slice p340 k340 d340]) 25))) (fun _ => done_block (ds_ (qa [(0, .fit)] [3, 19, 20] [(21, .int .i64 ((j + 1 : Nat)))] ([Fit .i64 ((j + 1 : Nat))]) (al1 (fit64 (by omega) (by omega))) (Done.pick [[bx (γ81 0) (#[.slice pd nd cd, .slice pv nv cv]) 25], [bx (γ61 0) (#[.slice q340 m340 c340, .slice p340 k340 d340]) 25], [bx (γ13 0) (#[.int .i64 x12.kind, .int .i64 x12.d.id, .int .i64 x12.d.weight, .int .i64 x12.d.cap, .int .i64 x12.d.pool, .int .i64 x12.z.id, .int .i64 x12.z.dom, .int .u32 x12.z.hard, .int .u32 x12.z.soft]) 69], [bx (γ4 0) (#[.slice q340 m340 c340, .slice p340 k340 d340]) 25], Y340, Yx340, Yd, Yv] [3, 4, 5] [0, 1, 2, 6, 7] (bx (γ4 0) (#[.slice q340 m340 c340, .slice p340 k340 d340]) 25 :: (Y340 ++ (Yx340 ++ []))) (by kernel_rfl) rfl rfl ?_))))))))))))))))))))))))))))
         exact dr [3, 19, 20, 21] (j + 1, d1, v1, Y340, q340, m340, c340, Yx340, p340, k340, d340) ⟨by omega, hg, hO340, hP340⟩
        ·
         refine cP (fun v L' => ∃ q_ m_ c_ Y_ q2_ m2_ c2_ X_, v = .tuple #[.agg #[.slice q_ m_ c_, .slice q2_ m2_ c2_], .int .i64 e1] ∧ L' = List.take 4 (bx (γ81 0) (#[.slice pd nd cd, .slice pv nv cv]) 25 :: bx (γ61 0) (#[.slice pd nd cd, .slice pv nv cv]) 25 :: bx (γ13 0) (#[.int .i64 x12.kind, .int .i64 x12.d.id, .int .i64 x12.d.weight, .int .i64 x12.d.cap, .int .i64 x12.d.pool, .int .i64 x12.z.id, .int .i64 x12.z.dom, .int .u32 x12.z.hard, .int .u32 x12.z.soft]) 69 :: bx (γ4 0) (#[.slice pd nd cd, .slice pv nv cv]) 25 :: (Yd ++ (Yv ++ []))) ++ (Y_ ++ (X_ ++ List.drop 4 (bx (γ81 0) (#[.slice pd nd cd, .slice pv nv cv]) 25 :: bx (γ61 0) (#[.slice pd nd cd, .slice pv nv cv]) 25 :: bx (γ13 0) (#[.int .i64 x12.kind, .int .i64 x12.d.id, .int .i64 x12.d.weight, .int .i64 x12.d.cap, .int .i64 x12.d.pool, .int .i64 x12.z.id, .int .i64 x12.z.dom, .int .u32 x12.z.hard, .int .u32 x12.z.soft]) 69 :: bx (γ4 0) (#[.slice pd nd cd, .slice pv nv cv]) 25 :: (Yd ++ (Yv ++ []))))) ∧ SlO 32 Y_ q_ m_ c_ ([] : List Dom) ∧ SlO 43 X_ q2_ m2_ c2_ ([] : List Vcp)) Try.call17 (fun w hw => by have := drop_d pd nd cd ds pv nv cv vs x12.z.id w (hO.atN (A := [_, _, _, _]) hw) hO.len (by omega) (hP.atN (A := (_ :: _ :: _ :: _ :: Yd)) hw) hP.len (by omega); rw [hr] at this; exact this.mono fun e w' ⟨q_, m_, c_, Y_, q2_, m2_, c2_, X_, he, h1, h2, hb, hY⟩ => ⟨_, _, he, ⟨q_, m_, c_, Y_, q2_, m2_, c2_, X_, rfl, rfl, h1, h2⟩, hw.join2 hb hY 4⟩) ?_
         rintro v348 L348 ⟨q348, m348, c348, Y348, p348, k348, d348, Yx348, rfl, rfl, hO348, hP348⟩
         have hm348 := hO348.len
         have hn348 := hP348.len
         simp only [List.length_cons, List.length_nil] at hm348 hn348
         refine mo0 5 [(8, .go (owns 1 0 2))] [3, 6, 7, 9, 19, 20, 21] (fun _ => [(8, .int .i64 e1)]) (fun _ L => (L.set 1 (bx (γ61 0) (#[.slice q348 m348 c348, .slice p348 k348 d348]) 25))) (fun _ => on_ (done_block (ds_ (sq_ (sq_ (qa [(1, .yes)] [3, 6, 7, 9, 19, 20, 21] [(171, .bool true)] ([(e1 : Int) ≠ (0 : Int)]) (al1 he1) (ds_ (t_ (sq_ (sq_ ?_))))))))))
         by_cases q352 : ((m348 + k348 : Nat) : Int) > (0 : Int)
         ·
          refine qa [(1, .go (owns 1 0 1)), (4, .go (owns 1 1 1)), (6, .fit), (7, .yes)] [3, 19, 20, 21] [(179, .bool true)] ([Fit .i64 ((m348 + k348 : Nat))] ++ ([((m348 + k348 : Nat) : Int) > (0 : Int)])) (alA (al1 (fit64 (by omega) (by omega))) (al1 q352)) (ds_ (t_ (sq_ (qa0 [] [] [(2, .bool false)] (ds_ (rt ([]) (.bool false) ?_))))))
          exfalso; simp only [List.length_nil] at *; omega
         ·
          refine qa [(1, .go (owns 1 0 1)), (4, .go (owns 1 1 1)), (6, .fit), (7, .no)] [3, 19, 20, 21] [(179, .bool false)] ([Fit .i64 ((m348 + k348 : Nat))] ++ ([¬ (((m348 + k348 : Nat) : Int) > (0 : Int))])) (alA (al1 (fit64 (by omega) (by omega))) (al1 q352)) (ds_ (f_ (at_skip (ds_ (at_leave _ rfl (ds_ (qa [(0, .fit)] [3, 19, 20] [(21, .int .i64 ((j + 1 : Nat)))] ([Fit .i64 ((j + 1 : Nat))]) (al1 (fit64 (by omega) (by omega))) (Done.pick [[bx (γ81 0) (#[.slice pd nd cd, .slice pv nv cv]) 25], [bx (γ61 0) (#[.slice q348 m348 c348, .slice p348 k348 d348]) 25], [bx (γ13 0) (#[.int .i64 x12.kind, .int .i64 x12.d.id, .int .i64 x12.d.weight, .int .i64 x12.d.cap, .int .i64 x12.d.pool, .int .i64 x12.z.id, .int .i64 x12.z.dom, .int .u32 x12.z.hard, .int .u32 x12.z.soft]) 69], [bx (γ4 0) (#[.slice pd nd cd, .slice pv nv cv]) 25], Y348, Yx348, Yd, Yv] [3, 6, 7] [0, 1, 2, 4, 5] (bx (γ4 0) (#[.slice pd nd cd, .slice pv nv cv]) 25 :: (Yd ++ (Yv ++ []))) (by kernel_rfl) rfl rfl ?_))))))))
          exact dr [3, 19, 20, 21] (j + 1, ds, vs, Yd, pd, nd, cd, Yv, pv, nv, cv) ⟨by omega, hG, hO, hP⟩
       ·
        refine qa [(0, .no)] [3, 5, 6, 7, 8, 9, 19, 20, 21, 34] [(127, .bool false)] ([¬ ((kdD x12.kind : Int) = (4 : Int))]) (al1 q337) (ds_ (f_ (sq_ (qa [(0, .yes)] [3, 5, 6, 7, 8, 9, 19, 20, 21] [(137, .bool true)] ([(kdD x12.kind : Int) = (5 : Int)]) (al1 ((by omega))) (ds_ (t_ (sq_ (ao_ (qo0 4 [(0, .go (owns 3 0 2)), (3, .go (owns 2 5 1))] [3, 5, 6, 7, 9, 19, 20, 21] [(140, .agg #[.slice pd nd cd, .slice pv nv cv]), (143, .int .i64 x12.z.id)] (cD (.tuple #[.agg #[.int .i64 ((rowC (getK Vcp.id vs x12.z.id)).id), .int .i64 ((rowC (getK Vcp.id vs x12.z.id)).dom), .int .u32 ((rowC (getK Vcp.id vs x12.z.id)).hard), .int .u32 ((rowC (getK Vcp.id vs x12.z.id)).soft)], .bool ((getK Vcp.id vs x12.z.id).isSome)]) Try.call37 (fun w hw => by have := gvcpu_d pd nd cd ds pv nv cv vs x12.z.id w (hO.atN (A := [_, _, _, _]) hw) hO.len (by omega) (hP.atN (A := (_ :: _ :: _ :: _ :: Yd)) hw) hP.len (by omega); rw [fG_ok hG, optC_row] at this; exact this) (mo0 6 [(9, .go (owns 0 0 4))] [3, 5, 6, 7, 9, 19, 20, 21] (fun γ360 => [(15, .pointer (some ⟨γ360 0, 0, none⟩))]) (fun γ360 L => bx (γ360 0) (#[.int .i64 ((rowC (getK Vcp.id vs x12.z.id)).id), .int .i64 ((rowC (getK Vcp.id vs x12.z.id)).dom), .int .u32 ((rowC (getK Vcp.id vs x12.z.id)).hard), .int .u32 ((rowC (getK Vcp.id vs x12.z.id)).soft)]) 43 :: L) (fun γ360 => on_ (ds_ (sq_ (ao_ (qo0 7 [(0, .go (owns 4 0 2)), (3, .go (owns 3 5 1)), (6, .go (owns 3 7 2))] [3, 5, 6, 7, 9, 15, 19, 20, 21] [(148, .agg #[.slice pd nd cd, .slice pv nv cv]), (151, .int .i64 x12.z.id), (154, .agg #[.int .u32 x12.z.hard, .int .u32 x12.z.soft])] ?_))))))))))))))))
        rcases stay_ways (fun a b => remaskV a b x12.z.id (rowC (getK Vcp.id vs x12.z.id)).hard (rowC (getK Vcp.id vs x12.z.id)).soft) (remask_stay (k := x12.z.id) (hh := x12.z.hard) (ss := x12.z.soft) hG) with ⟨d1, v1, hr, hg, hb⟩ | ⟨e1, he1, hr⟩
        ·
         have hdl1 := (guests_iff.1 hg).dl
         have hvl1 := (guests_iff.1 hg).vl
         refine cP (fun v L' => ∃ q_ m_ c_ Y_ q2_ m2_ c2_ X_, v = .tuple #[.agg #[.slice q_ m_ c_, .slice q2_ m2_ c2_], .int .i64 0] ∧ L' = List.take 5 (bx (γ360 0) (#[.int .i64 ((rowC (getK Vcp.id vs x12.z.id)).id), .int .i64 ((rowC (getK Vcp.id vs x12.z.id)).dom), .int .u32 ((rowC (getK Vcp.id vs x12.z.id)).hard), .int .u32 ((rowC (getK Vcp.id vs x12.z.id)).soft)]) 43 :: bx (γ81 0) (#[.slice pd nd cd, .slice pv nv cv]) 25 :: bx (γ61 0) (#[.slice pd nd cd, .slice pv nv cv]) 25 :: bx (γ13 0) (#[.int .i64 x12.kind, .int .i64 x12.d.id, .int .i64 x12.d.weight, .int .i64 x12.d.cap, .int .i64 x12.d.pool, .int .i64 x12.z.id, .int .i64 x12.z.dom, .int .u32 x12.z.hard, .int .u32 x12.z.soft]) 69 :: bx (γ4 0) (#[.slice pd nd cd, .slice pv nv cv]) 25 :: (Yd ++ (Yv ++ []))) ++ (Y_ ++ (X_ ++ List.drop 5 (bx (γ360 0) (#[.int .i64 ((rowC (getK Vcp.id vs x12.z.id)).id), .int .i64 ((rowC (getK Vcp.id vs x12.z.id)).dom), .int .u32 ((rowC (getK Vcp.id vs x12.z.id)).hard), .int .u32 ((rowC (getK Vcp.id vs x12.z.id)).soft)]) 43 :: bx (γ81 0) (#[.slice pd nd cd, .slice pv nv cv]) 25 :: bx (γ61 0) (#[.slice pd nd cd, .slice pv nv cv]) 25 :: bx (γ13 0) (#[.int .i64 x12.kind, .int .i64 x12.d.id, .int .i64 x12.d.weight, .int .i64 x12.d.cap, .int .i64 x12.d.pool, .int .i64 x12.z.id, .int .i64 x12.z.dom, .int .u32 x12.z.hard, .int .u32 x12.z.soft]) 69 :: bx (γ4 0) (#[.slice pd nd cd, .slice pv nv cv]) 25 :: (Yd ++ (Yv ++ []))))) ∧ SlO 32 Y_ q_ m_ c_ d1 ∧ SlO 43 X_ q2_ m2_ c2_ v1) Try.call18 (fun w hw => by have := remask_d pd nd cd ds pv nv cv vs x12.z.id x12.z.hard x12.z.soft w (hO.atN (A := [_, _, _, _, _]) hw) hO.len (by omega) (hP.atN (A := (_ :: _ :: _ :: _ :: _ :: Yd)) hw) hP.len (by omega); rw [hr] at this; exact this.mono fun e w' ⟨q_, m_, c_, Y_, q2_, m2_, c2_, X_, he, h1, h2, hb, hY⟩ => ⟨_, _, he, ⟨q_, m_, c_, Y_, q2_, m2_, c2_, X_, rfl, rfl, h1, h2⟩, hw.join2 hb hY 5⟩) ?_
         rintro v362 L362 ⟨q362, m362, c362, Y362, p362, k362, d362, Yx362, rfl, rfl, hO362, hP362⟩
         have hm362 := hO362.len
         have hn362 := hP362.len
         refine mo0 5 [(11, .go (owns 2 0 2))] [3, 5, 6, 7, 9, 15, 19, 20, 21] (fun _ => [(8, .int .i64 0)]) (fun _ L => (L.set 2 (bx (γ61 0) (#[.slice q362 m362 c362, .slice p362 k362 d362]) 25))) (fun _ => on_ (ds_ (sq_ (qa0 [] [3, 5, 6, 7, 8, 9, 15, 19, 20, 21] [(159, .bool true)] (ds_ (t_ (ao_ (qo0 6 [(0, .go (owns 2 0 2)), (3, .go (owns 3 5 1)), (5, .go (owns 0 2 2))] [3, 6, 7, 8, 19, 20, 21] [(161, .agg #[.slice q362 m362 c362, .slice p362 k362 d362]), (164, .int .i64 x12.z.id), (166, .agg #[.int .u32 ((rowC (getK Vcp.id vs x12.z.id)).hard), .int .u32 ((rowC (getK Vcp.id vs x12.z.id)).soft)])] (cP (fun v L' => ∃ q_ m_ c_ Y_ q2_ m2_ c2_ X_, v = .tuple #[.agg #[.slice q_ m_ c_, .slice q2_ m2_ c2_], .int .i64 0] ∧ L' = List.take 5 (bx (γ360 0) (#[.int .i64 ((rowC (getK Vcp.id vs x12.z.id)).id), .int .i64 ((rowC (getK Vcp.id vs x12.z.id)).dom), .int .u32 ((rowC (getK Vcp.id vs x12.z.id)).hard), .int .u32 ((rowC (getK Vcp.id vs x12.z.id)).soft)]) 43 :: bx (γ81 0) (#[.slice pd nd cd, .slice pv nv cv]) 25 :: bx (γ61 0) (#[.slice q362 m362 c362, .slice p362 k362 d362]) 25 :: bx (γ13 0) (#[.int .i64 x12.kind, .int .i64 x12.d.id, .int .i64 x12.d.weight, .int .i64 x12.d.cap, .int .i64 x12.d.pool, .int .i64 x12.z.id, .int .i64 x12.z.dom, .int .u32 x12.z.hard, .int .u32 x12.z.soft]) 69 :: bx (γ4 0) (#[.slice pd nd cd, .slice pv nv cv]) 25 :: (Y362 ++ (Yx362 ++ (Yd ++ (Yv ++ []))))) ++ (Y_ ++ (X_ ++ List.drop 5 (bx (γ360 0) (#[.int .i64 ((rowC (getK Vcp.id vs x12.z.id)).id), .int .i64 ((rowC (getK Vcp.id vs x12.z.id)).dom), .int .u32 ((rowC (getK Vcp.id vs x12.z.id)).hard), .int .u32 ((rowC (getK Vcp.id vs x12.z.id)).soft)]) 43 :: bx (γ81 0) (#[.slice pd nd cd, .slice pv nv cv]) 25 :: bx (γ61 0) (#[.slice q362 m362 c362, .slice p362 k362 d362]) 25 :: bx (γ13 0) (#[.int .i64 x12.kind, .int .i64 x12.d.id, .int .i64 x12.d.weight, .int .i64 x12.d.cap, .int .i64 x12.d.pool, .int .i64 x12.z.id, .int .i64 x12.z.dom, .int .u32 x12.z.hard, .int .u32 x12.z.soft]) 69 :: bx (γ4 0) (#[.slice pd nd cd, .slice pv nv cv]) 25 :: (Y362 ++ (Yx362 ++ (Yd ++ (Yv ++ []))))))) ∧ SlO 32 Y_ q_ m_ c_ ds ∧ SlO 43 X_ q2_ m2_ c2_ vs) Try.call18 (fun w hw => by have := remask_d q362 m362 c362 d1 p362 k362 d362 v1 x12.z.id ((rowC (getK Vcp.id vs x12.z.id)).hard) ((rowC (getK Vcp.id vs x12.z.id)).soft) w (hO362.atN (A := [_, _, _, _, _]) hw) hO362.len (by omega) (hP362.atN (A := (_ :: _ :: _ :: _ :: _ :: Y362)) hw) hP362.len (by omega); rw [hb] at this; exact this.mono fun e w' ⟨q_, m_, c_, Y_, q2_, m2_, c2_, X_, he, h1, h2, hb, hY⟩ => ⟨_, _, he, ⟨q_, m_, c_, Y_, q2_, m2_, c2_, X_, rfl, rfl, h1, h2⟩, hw.join2 hb hY 5⟩) ?_)))))))))
         rintro v366 L366 ⟨q366, m366, c366, Y366, p366, k366, d366, Yx366, rfl, rfl, hO366, hP366⟩
         have hm366 := hO366.len
         have hn366 := hP366.len
         refine mo0 5 [(10, .go (owns 1 0 2))] [3, 6, 7, 8, 19, 20, 21] (fun _ => [(9, .int .i64 0)]) (fun _ L => (L.set 1 (bx (γ81 0) (#[.slice q366 m366 c366, .slice p366 k366 d366]) 25))) (fun _ => on_ (done_block (ds_ (sq_ (sq_ (qa0 [] [3, 6, 7, 9, 19, 20, 21] [(171, .bool false)] (ds_ (f_ (at_skip (ds_ (sq_ (sq_ (ao_ (qo0 5 [(3, .go (owns 1 0 2)), (4, .go (owns 4 0 2))] [3, 6, 19, 20, 21] [(182, .bool false), (183, .agg #[.slice q366 m366 c366, .slice p366 k366 d366]), (184, .agg #[.slice pd nd cd, .slice pv nv cv])] (cD (.bool true) Try.call35 (fun w hw => by have := same_d q366 m366 c366 ds p366 k366 d366 vs pd nd cd ds pv nv cv vs w (hO366.atN (A := [_, _, _, _, _]) hw) hO366.len (by omega) (hP366.atN (A := (_ :: _ :: _ :: _ :: _ :: Y366)) hw) hP366.len (by omega) (hO.at ((hw.tailN 5).sub ((((List.sublist_append_right Yx362 _).trans (List.sublist_append_right Y362 _)).trans (List.sublist_append_right Yx366 _)).trans (List.sublist_append_right Y366 _)))) hO.len (by omega) (hP.at ((hw.tailN 5).sub (((((List.sublist_append_right Yd _).trans (List.sublist_append_right Yx362 _)).trans (List.sublist_append_right Y362 _)).trans (List.sublist_append_right Yx366 _)).trans (List.sublist_append_right Y366 _)))) hP.len (by omega); simpa using this) (qo0 4 [(9, .go (owns 2 0 2))] [3, 6, 19, 20, 21] [(188, .bool false), (189, .agg #[.slice q362 m362 c362, .slice p362 k362 d362])] (cD (.int .i64 0) Try.call10 (fun w hw => by have := gcheck_d q362 m362 c362 d1 p362 k362 d362 v1 w (hO362.at ((hw.tailN 5).sub ((List.sublist_append_right Yx366 _).trans (List.sublist_append_right Y366 _)))) hO362.len (by omega) (hP362.at ((hw.tailN 5).sub (((List.sublist_append_right Y362 _).trans (List.sublist_append_right Yx366 _)).trans (List.sublist_append_right Y366 _)))) hP362.len (by omega); rw [hg] at this; exact this) (qo0 2 [] [3, 6, 19, 20, 21] [(192, .bool false)] (on_ (ds_ (f_ (at_skip (ds_ (ma0 [(0, .go (owns 2 0 2)), (1, .go (owns 4 0 2))] [3, 19, 20, 21] (fun _ => []) (fun _ L => (L.set 4 (bx (γ4 0) (#[.slice q362 m362 c362, .slice p362 k362 d362]) 25))) (fun _ => done_block (ds_ (qa [(0, .fit)] [3, 19, 20] [(21, .int .i64 ((j + 1 : Nat)))] ([Fit .i64 ((j + 1 : Nat))]) (al1 (fit64 (by omega) (by omega))) (Done.pick [[bx (γ360 0) (#[.int .i64 ((rowC (getK Vcp.id vs x12.z.id)).id), .int .i64 ((rowC (getK Vcp.id vs x12.z.id)).dom), .int .u32 ((rowC (getK Vcp.id vs x12.z.id)).hard), .int .u32 ((rowC (getK Vcp.id vs x12.z.id)).soft)]) 43], [bx (γ81 0) (#[.slice q366 m366 c366, .slice p366 k366 d366]) 25], [bx (γ61 0) (#[.slice q362 m362 c362, .slice p362 k362 d362]) 25], [bx (γ13 0) (#[.int .i64 x12.kind, .int .i64 x12.d.id, .int .i64 x12.d.weight, .int .i64 x12.d.cap, .int .i64 x12.d.pool, .int .i64 x12.z.id, .int .i64 x12.z.dom, .int .u32 x12.z.hard, .int .u32 x12.z.soft]) 69], [bx (γ4 0) (#[.slice q362 m362 c362, .slice p362 k362 d362]) 25], Y366, Yx366, Y362, Yx362, Yd, Yv] [4, 7, 8] [0, 1, 2, 3, 5, 6, 9, 10] (bx (γ4 0) (#[.slice q362 m362 c362, .slice p362 k362 d362]) 25 :: (Y362 ++ (Yx362 ++ []))) (by kernel_rfl) rfl rfl ?_))))))))))))))))))))))))))))
         exact dr [3, 19, 20, 21] (j + 1, d1, v1, Y362, q362, m362, c362, Yx362, p362, k362, d362) ⟨by omega, hg, hO362, hP362⟩
        ·
         refine cP (fun v L' => ∃ q_ m_ c_ Y_ q2_ m2_ c2_ X_, v = .tuple #[.agg #[.slice q_ m_ c_, .slice q2_ m2_ c2_], .int .i64 e1] ∧ L' = List.take 5 (bx (γ360 0) (#[.int .i64 ((rowC (getK Vcp.id vs x12.z.id)).id), .int .i64 ((rowC (getK Vcp.id vs x12.z.id)).dom), .int .u32 ((rowC (getK Vcp.id vs x12.z.id)).hard), .int .u32 ((rowC (getK Vcp.id vs x12.z.id)).soft)]) 43 :: bx (γ81 0) (#[.slice pd nd cd, .slice pv nv cv]) 25 :: bx (γ61 0) (#[.slice pd nd cd, .slice pv nv cv]) 25 :: bx (γ13 0) (#[.int .i64 x12.kind, .int .i64 x12.d.id, .int .i64 x12.d.weight, .int .i64 x12.d.cap, .int .i64 x12.d.pool, .int .i64 x12.z.id, .int .i64 x12.z.dom, .int .u32 x12.z.hard, .int .u32 x12.z.soft]) 69 :: bx (γ4 0) (#[.slice pd nd cd, .slice pv nv cv]) 25 :: (Yd ++ (Yv ++ []))) ++ (Y_ ++ (X_ ++ List.drop 5 (bx (γ360 0) (#[.int .i64 ((rowC (getK Vcp.id vs x12.z.id)).id), .int .i64 ((rowC (getK Vcp.id vs x12.z.id)).dom), .int .u32 ((rowC (getK Vcp.id vs x12.z.id)).hard), .int .u32 ((rowC (getK Vcp.id vs x12.z.id)).soft)]) 43 :: bx (γ81 0) (#[.slice pd nd cd, .slice pv nv cv]) 25 :: bx (γ61 0) (#[.slice pd nd cd, .slice pv nv cv]) 25 :: bx (γ13 0) (#[.int .i64 x12.kind, .int .i64 x12.d.id, .int .i64 x12.d.weight, .int .i64 x12.d.cap, .int .i64 x12.d.pool, .int .i64 x12.z.id, .int .i64 x12.z.dom, .int .u32 x12.z.hard, .int .u32 x12.z.soft]) 69 :: bx (γ4 0) (#[.slice pd nd cd, .slice pv nv cv]) 25 :: (Yd ++ (Yv ++ []))))) ∧ SlO 32 Y_ q_ m_ c_ ([] : List Dom) ∧ SlO 43 X_ q2_ m2_ c2_ ([] : List Vcp)) Try.call18 (fun w hw => by have := remask_d pd nd cd ds pv nv cv vs x12.z.id x12.z.hard x12.z.soft w (hO.atN (A := [_, _, _, _, _]) hw) hO.len (by omega) (hP.atN (A := (_ :: _ :: _ :: _ :: _ :: Yd)) hw) hP.len (by omega); rw [hr] at this; exact this.mono fun e w' ⟨q_, m_, c_, Y_, q2_, m2_, c2_, X_, he, h1, h2, hb, hY⟩ => ⟨_, _, he, ⟨q_, m_, c_, Y_, q2_, m2_, c2_, X_, rfl, rfl, h1, h2⟩, hw.join2 hb hY 5⟩) ?_
         rintro v374 L374 ⟨q374, m374, c374, Y374, p374, k374, d374, Yx374, rfl, rfl, hO374, hP374⟩
         have hm374 := hO374.len
         have hn374 := hP374.len
         simp only [List.length_cons, List.length_nil] at hm374 hn374
         refine mo0 5 [(11, .go (owns 2 0 2))] [3, 5, 6, 7, 9, 15, 19, 20, 21] (fun _ => [(8, .int .i64 e1)]) (fun _ L => (L.set 2 (bx (γ61 0) (#[.slice q374 m374 c374, .slice p374 k374 d374]) 25))) (fun _ => on_ (ds_ (sq_ (qa [(1, .no)] [3, 5, 6, 7, 8, 9, 15, 19, 20, 21] [(159, .bool false)] ([¬ ((e1 : Int) = (0 : Int))]) (al1 he1) (ds_ (f_ (at_skip (done_block (ds_ (sq_ (sq_ (qa [(1, .yes)] [3, 6, 7, 9, 19, 20, 21] [(171, .bool true)] ([(e1 : Int) ≠ (0 : Int)]) (al1 he1) (ds_ (t_ (sq_ (sq_ ?_))))))))))))))))
         by_cases q379 : ((m374 + k374 : Nat) : Int) > (0 : Int)
         ·
          refine qa [(1, .go (owns 2 0 1)), (4, .go (owns 2 1 1)), (6, .fit), (7, .yes)] [3, 19, 20, 21] [(179, .bool true)] ([Fit .i64 ((m374 + k374 : Nat))] ++ ([((m374 + k374 : Nat) : Int) > (0 : Int)])) (alA (al1 (fit64 (by omega) (by omega))) (al1 q379)) (ds_ (t_ (sq_ (qa0 [] [] [(2, .bool false)] (ds_ (rt ([]) (.bool false) ?_))))))
          exfalso; simp only [List.length_nil] at *; omega
         ·
          refine qa [(1, .go (owns 2 0 1)), (4, .go (owns 2 1 1)), (6, .fit), (7, .no)] [3, 19, 20, 21] [(179, .bool false)] ([Fit .i64 ((m374 + k374 : Nat))] ++ ([¬ (((m374 + k374 : Nat) : Int) > (0 : Int))])) (alA (al1 (fit64 (by omega) (by omega))) (al1 q379)) (ds_ (f_ (at_skip (ds_ (at_leave _ rfl (ds_ (qa [(0, .fit)] [3, 19, 20] [(21, .int .i64 ((j + 1 : Nat)))] ([Fit .i64 ((j + 1 : Nat))]) (al1 (fit64 (by omega) (by omega))) (Done.pick [[bx (γ360 0) (#[.int .i64 ((rowC (getK Vcp.id vs x12.z.id)).id), .int .i64 ((rowC (getK Vcp.id vs x12.z.id)).dom), .int .u32 ((rowC (getK Vcp.id vs x12.z.id)).hard), .int .u32 ((rowC (getK Vcp.id vs x12.z.id)).soft)]) 43], [bx (γ81 0) (#[.slice pd nd cd, .slice pv nv cv]) 25], [bx (γ61 0) (#[.slice q374 m374 c374, .slice p374 k374 d374]) 25], [bx (γ13 0) (#[.int .i64 x12.kind, .int .i64 x12.d.id, .int .i64 x12.d.weight, .int .i64 x12.d.cap, .int .i64 x12.d.pool, .int .i64 x12.z.id, .int .i64 x12.z.dom, .int .u32 x12.z.hard, .int .u32 x12.z.soft]) 69], [bx (γ4 0) (#[.slice pd nd cd, .slice pv nv cv]) 25], Y374, Yx374, Yd, Yv] [4, 7, 8] [0, 1, 2, 3, 5, 6] (bx (γ4 0) (#[.slice pd nd cd, .slice pv nv cv]) 25 :: (Yd ++ (Yv ++ []))) (by kernel_rfl) rfl rfl ?_))))))))
          exact dr [3, 19, 20, 21] (j + 1, ds, vs, Yd, pd, nd, cd, Yv, pv, nv, cv) ⟨by omega, hG, hO, hP⟩
 ·
  refine qa [(0, .no)] [3, 19, 20, 21] [(22, .bool false)] ([¬ (((j : Nat) : Int) < ((n : Nat) : Int))]) (al1 q7) (ds_ (sq_ (f_ (at_leave _ rfl (ds_ (sq_ (qa0 [] [] [(2, .bool true)] (ds_ (rt ([]) (.bool true) ?_)))))))))
  exact fun w' hw => ⟨rfl, hw.below⟩
end Go.Proofs.Ytnoefldpkfpglaa

/-! The walker: what a row's inputs are: slices and structs, opened into lists. -/
namespace Go.Proofs.Ytnoefldpkfpglaa
open Go Go.RowKit

section
variable {H : Type} {enc : TypeId × Value → H} {P : Program} {w : World} {base : Nat} {spare : Nat → Bool} {held : Bool}
theorem spot_none {a : Addr} (h : a.spot = none) : a = ⟨a.block, a.off, none⟩ := by
  cases a
  simp at h
  simp [h]
theorem trod_sv {α : Type} [Enc α] {t e : TypeId} {fuel : Nat} {cs : List Value} {x : DataW H × List MemPlace} {Good : α → Prop} (ht : P.underlying t = some (.slice e)) (hc : P.cellsOf e = Enc.k α)
    (hopen : ∀ (fuel : Nat) (cs : List Value) (x : DataW H × List MemPlace), DataW.trod enc P w base spare held fuel e cs = some x → ∃ a : α, cs = Enc.enc a ∧ Good a) (h : DataW.trod enc P w base spare held fuel t cs = some x) :
    ∃ (p : Option Addr) (n cap : Nat) (l : List α), cs = [.slice p n cap] ∧ Sv w p l ∧ n = l.length ∧ n ≤ cap ∧ cap ≤ maxLen ∧ ∀ y ∈ l, Good y := by
  rcases Deep.open_slice ht h with ⟨hcs, _⟩ | ⟨a, len, cap, m, n', D, Pl, hcs, _, hle, hmx, hm, _, hi⟩
  · exact ⟨none, 0, 0, [], hcs, Sv.nil, rfl, Nat.le_refl _, Nat.zero_le _, fun y hy => by cases hy⟩
  · have key : ∀ i, i < len → ∃ y : α, w.cells? base (a.add (i * Enc.k α)) (Enc.k α) = some (Enc.enc y) ∧ Good y := fun i hin => by
      have him : i < m := by rw [hm]; split <;> omega
      obtain ⟨cs', h1, h2⟩ := hi i him
      obtain ⟨y, rfl, hy⟩ := hopen _ _ _ h2
      rw [hc] at h1
      exact ⟨y, h1, hy⟩
    rcases Nat.eq_zero_or_pos len with h0 | h0
    · subst h0
      exact ⟨some a, 0, cap, [], hcs, Sv.nil, rfl, hle, hmx, fun y hy => by cases hy⟩
    · obtain ⟨y0, hy0, _⟩ := key 0 h0
      haveI : Inhabited α := ⟨y0⟩
      obtain ⟨f, hf⟩ := Deep.choose_lt key
      obtain ⟨_, _, hcell⟩ := World.cells?_some hy0
      have h00 := hcell 0 Enc.pos
      have hlen0 : 0 < (Enc.enc y0).length := by rw [Enc.len]; exact Enc.pos
      rw [List.getElem?_eq_getElem hlen0, Nat.zero_mul, show (a.add 0).add 0 = a by simp [Addr.add]] at h00
      have hsp := spot_none (World.cell?_spot h00)
      refine ⟨some a, len, cap, (List.range len).map f, hcs, ⟨fun _ => ⟨a.block, a.off, by rw [← hsp]⟩, fun b o hbo i hil => ?_⟩, by simp, hle, hmx, fun y hy => ?_⟩
      · have hil' : i < len := by simpa using hil
        obtain ⟨_, _, hc2⟩ := World.cells?_some (hf i hil').1
        have ha : a = ⟨b, o, none⟩ := by simpa using hbo
        subst ha
        intro j v hj
        have hjk : j < Enc.k α := by rw [← Enc.len (f i)]; have := (List.getElem?_eq_some_iff.1 hj).1; simpa using this
        have h3 := hc2 j hjk
        rw [Deep.add_add] at h3
        have h4 : (Enc.enc (f i))[j]? = some v := by simpa using hj
        rw [h4] at h3
        have h5 : (⟨b, o, none⟩ : Addr).add (i * Enc.k α + j) = ⟨b, o + i * Enc.k α + j, none⟩ := by
          unfold Addr.add; split <;> simp_all <;> omega
        rw [h5] at h3
        exact h3
      · obtain ⟨i, hir, rfl⟩ := List.mem_map.1 hy
        exact (hf i (List.mem_range.1 hir)).2
theorem list2' {α : Type} {cs : List α} (h : cs.length = 2) : ∃ c0 c1, cs = [c0, c1] := by
  match cs, h with
  | [a, b], _ => exact ⟨a, b, rfl⟩
end
end Go.Proofs.Ytnoefldpkfpglaa

/-! Chapter 09: what the rows' inputs are. -/
namespace Go.Proofs.Ytnoefldpkfpglaa
open Go Go.RowKit Go.ChangeShapes Go.WideShapes

section
variable {H : Type} {enc : TypeId × Value → H} {w : World} {base : Nat} {spare : Nat → Bool} {held : Bool}
theorem cInt : Try.prog.cellsOf 3 = 1 := by kernel_rfl
theorem cCpus : Try.prog.cellsOf 39 = 1 := by kernel_rfl
theorem cMask : Try.prog.cellsOf 41 = 2 := by kernel_rfl
theorem cVcpu : Try.prog.cellsOf 43 = 4 := by kernel_rfl
theorem word_open {fuel : Nat} {cs : List Value} {x : DataW H × List MemPlace} (h : DataW.trod enc Try.prog w base spare held fuel 39 cs = some x) : ∃ a : Int, cs = [.int .u32 a] ∧ 0 ≤ a ∧ a < 4294967296 := by
  obtain ⟨a, ea, _, hw⟩ := DataW.trod_int Try.underlying39 h
  refine ⟨a, ea, ?_⟩
  simp only [Lit.wf, Bool.and_eq_true, decide_eq_true_eq] at hw
  exact ⟨hw.1, by have h2 : a ≤ 4294967295 := hw.2; omega⟩
theorem mask_open {fuel : Nat} {cs : List Value} {x : DataW H × List MemPlace} (h : DataW.trod enc Try.prog w base spare held fuel 41 cs = some x) : ∃ a b : Int, cs = [.int .u32 a, .int .u32 b] ∧ (0 ≤ a ∧ a < 4294967296) ∧ 0 ≤ b ∧ b < 4294967296 := by
  obtain ⟨xs, n, _, rfl, hl, hlen, hf⟩ := DataW.trod_struct Try.underlying41 h
  rw [cMask] at hl
  obtain ⟨c0, c1, rfl⟩ := list2' hl
  obtain ⟨y0, y1, rfl⟩ := list2' hlen
  have h0 : DataW.trod enc Try.prog w base spare held n 39 (([c0, c1].drop 0).take (Try.prog.cellsOf 39)) = some y0 := hf 0 _ rfl
  have h1 : DataW.trod enc Try.prog w base spare held n 39 (([c0, c1].drop 1).take (Try.prog.cellsOf 39)) = some y1 := hf 1 _ rfl
  rw [cCpus] at h0 h1
  simp only [List.drop_zero, List.take_succ_cons, List.take_zero, List.drop_succ_cons] at h0 h1
  obtain ⟨a, ea, ra⟩ := word_open h0
  obtain ⟨b, eb, rb⟩ := word_open h1
  simp only [List.cons.injEq, and_true] at ea eb
  subst ea; subst eb
  exact ⟨a, b, rfl, ra, rb⟩
theorem list4v {α : Type} {cs : List α} (h : cs.length = 4) : ∃ c0 c1 c2 c3, cs = [c0, c1, c2, c3] := by
  match cs, h with
  | [a, b, c, d], _ => exact ⟨a, b, c, d, rfl⟩
theorem list3v {α : Type} {cs : List α} (h : cs.length = 3) : ∃ c0 c1 c2, cs = [c0, c1, c2] := by
  match cs, h with
  | [a, b, c], _ => exact ⟨a, b, c, rfl⟩
theorem vcpu_open {fuel : Nat} {cs : List Value} {x : DataW H × List MemPlace} (h : DataW.trod enc Try.prog w base spare held fuel 43 cs = some x) : ∃ a : Vcp, cs = Enc.enc a ∧ ((0 ≤ a.hard ∧ a.hard < 4294967296) ∧ 0 ≤ a.soft ∧ a.soft < 4294967296) := by
  obtain ⟨xs, n, _, rfl, hl, hlen, hf⟩ := DataW.trod_struct Try.underlying43 h
  rw [cVcpu] at hl
  obtain ⟨c0, c1, c2, c3, rfl⟩ := list4v hl
  obtain ⟨y0, y1, y2, rfl⟩ := list3v hlen
  have h0 : DataW.trod enc Try.prog w base spare held n 3 (([c0, c1, c2, c3].drop 0).take (Try.prog.cellsOf 3)) = some y0 := hf 0 _ rfl
  have h1 : DataW.trod enc Try.prog w base spare held n 3 (([c0, c1, c2, c3].drop 1).take (Try.prog.cellsOf 3)) = some y1 := hf 1 _ rfl
  have h2 : DataW.trod enc Try.prog w base spare held n 41 (([c0, c1, c2, c3].drop 2).take (Try.prog.cellsOf 41)) = some y2 := hf 2 _ rfl
  clear hf hl hlen h
  rw [cInt] at h0 h1
  rw [cMask] at h2
  simp only [List.drop_zero, List.take_succ_cons, List.take_zero, List.drop_succ_cons] at h0 h1 h2
  obtain ⟨a, ea, _, _⟩ := DataW.trod_int Try.underlying3 h0
  obtain ⟨b, eb, _, _⟩ := DataW.trod_int Try.underlying3 h1
  obtain ⟨c, d, ec, rc, rd⟩ := mask_open h2
  simp only [List.cons.injEq, and_true] at ea eb ec
  obtain ⟨ec, ed⟩ := ec
  subst ea; subst eb; subst ec; subst ed
  exact ⟨⟨a, b, c, d⟩, rfl, rc, rd⟩
theorem domain_open_cells : Try.prog.cellsOf 32 = 4 := by kernel_rfl
theorem domain_open_list {α : Type} {cs : List α} (h : cs.length = 4) : ∃ c0 c1 c2 c3, cs = [c0, c1, c2, c3] := by
  match cs, h with
  | [c0, c1, c2, c3], _ => exact ⟨c0, c1, c2, c3, rfl⟩
theorem domain_open {fuel : Nat} {cs : List Value} {x : DataW H × List MemPlace} (h : DataW.trod enc Try.prog w base spare held fuel 32 cs = some x) : ∃ a : Dom, cs = Enc.enc a ∧ True := by
  obtain ⟨xs, n, _, rfl, hl, hlen, hf⟩ := DataW.trod_struct Try.underlying32 h
  rw [domain_open_cells] at hl
  obtain ⟨c0, c1, c2, c3, rfl⟩ := domain_open_list hl
  obtain ⟨y0, y1, y2, y3, rfl⟩ := domain_open_list hlen
  have h0 : DataW.trod enc Try.prog w base spare held n 3 (([c0, c1, c2, c3].drop 0).take (Try.prog.cellsOf 3)) = some y0 := hf 0 _ rfl
  have h1 : DataW.trod enc Try.prog w base spare held n 3 (([c0, c1, c2, c3].drop 1).take (Try.prog.cellsOf 3)) = some y1 := hf 1 _ rfl
  have h2 : DataW.trod enc Try.prog w base spare held n 3 (([c0, c1, c2, c3].drop 2).take (Try.prog.cellsOf 3)) = some y2 := hf 2 _ rfl
  have h3 : DataW.trod enc Try.prog w base spare held n 3 (([c0, c1, c2, c3].drop 3).take (Try.prog.cellsOf 3)) = some y3 := hf 3 _ rfl
  clear hf hl hlen h
  rw [cInt] at h0 h1 h2 h3
  simp only [List.drop_zero, List.take_succ_cons, List.take_zero, List.drop_succ_cons] at h0 h1 h2 h3
  obtain ⟨v0, e0, _, _⟩ := DataW.trod_int Try.underlying3 h0
  obtain ⟨v1, e1, _, _⟩ := DataW.trod_int Try.underlying3 h1
  obtain ⟨v2, e2, _, _⟩ := DataW.trod_int Try.underlying3 h2
  obtain ⟨v3, e3, _, _⟩ := DataW.trod_int Try.underlying3 h3
  simp only [List.cons.injEq, and_true] at e0 e1 e2 e3
  subst e0; subst e1; subst e2; subst e3
  exact ⟨⟨v0, v1, v2, v3⟩, rfl, trivial⟩
end
end Go.Proofs.Ytnoefldpkfpglaa

/-! Chapter 09: rows of deeds that come in. -/
namespace Go.Proofs.Ytnoefldpkfpglaa
open Go Go.RowKit Go.ChangeShapes Go.WideShapes

section
variable {H : Type} {enc : TypeId × Value → H} {w : World} {base : Nat} {spare : Nat → Bool} {held : Bool}
theorem cDomain : Try.prog.cellsOf 32 = 4 := by kernel_rfl
theorem cDeed : Try.prog.cellsOf 69 = 9 := by kernel_rfl
theorem list9v {α : Type} {cs : List α} (h : cs.length = 9) : ∃ c0 c1 c2 c3 c4 c5 c6 c7 c8, cs = [c0, c1, c2, c3, c4, c5, c6, c7, c8] := by
  match cs, h with
  | [a, b, c, d, e, f, g, i, j], _ => exact ⟨a, b, c, d, e, f, g, i, j, rfl⟩
theorem deed_open {fuel : Nat} {cs : List Value} {x : DataW H × List MemPlace} (h : DataW.trod enc Try.prog w base spare held fuel 69 cs = some x) : ∃ a : Deed, cs = Enc.enc a ∧ True := by
  obtain ⟨xs, n, _, rfl, hl, hlen, hf⟩ := DataW.trod_struct Try.underlying69 h
  rw [cDeed] at hl
  obtain ⟨c0, c1, c2, c3, c4, c5, c6, c7, c8, rfl⟩ := list9v hl
  obtain ⟨y0, y1, y2, rfl⟩ := list3v hlen
  have h0 : DataW.trod enc Try.prog w base spare held n 3 (([c0, c1, c2, c3, c4, c5, c6, c7, c8].drop 0).take (Try.prog.cellsOf 3)) = some y0 := hf 0 _ rfl
  have h1 : DataW.trod enc Try.prog w base spare held n 32 (([c0, c1, c2, c3, c4, c5, c6, c7, c8].drop 1).take (Try.prog.cellsOf 32)) = some y1 := hf 1 _ rfl
  have h2 : DataW.trod enc Try.prog w base spare held n 43 (([c0, c1, c2, c3, c4, c5, c6, c7, c8].drop 5).take (Try.prog.cellsOf 43)) = some y2 := hf 2 _ rfl
  clear hf hl hlen h
  rw [cInt] at h0
  rw [cDomain] at h1
  rw [cVcpu] at h2
  simp only [List.drop_zero, List.take_succ_cons, List.take_zero, List.drop_succ_cons] at h0 h1 h2
  obtain ⟨a, ea, _, _⟩ := DataW.trod_int Try.underlying3 h0
  obtain ⟨b, eb, _⟩ := domain_open h1
  obtain ⟨c, ec, _⟩ := vcpu_open h2
  simp only [Enc.enc, Dom.enc, Vcp.enc, List.cons.injEq, and_true] at ea eb ec
  obtain ⟨e1, e2, e3, e4⟩ := eb
  obtain ⟨f1, f2, f3, f4⟩ := ec
  subst ea; subst e1; subst e2; subst e3; subst e4; subst f1; subst f2; subst f3; subst f4
  exact ⟨⟨a, b, c⟩, rfl, trivial⟩
set_option maxRecDepth 100000 in
theorem deeds_open {v : Value} {d : DataW H} {pl : List MemPlace} (hv : Value.okWide Try.prog w .any base 67 v) (h : DataW.Trod enc Try.prog w 0 spare held 67 v d pl) :
    ∃ (q : Option Addr) (m cap : Nat) (l : List Deed), v = .slice q m cap ∧ Sv w q l ∧ m = l.length ∧ m ≤ cap ∧ cap ≤ 9223372036854775807 := by
  obtain ⟨a, n, c, rfl⟩ := okWide_slice Try.underlying67 hv
  obtain ⟨fuel, hf⟩ := h
  obtain ⟨p, m, cap, l, he, hs, hn, hle, hmx, _⟩ := trod_sv (Good := fun _ => True) Try.underlying67 cDeed (fun _ _ _ h => deed_open h) hf
  have : a = p ∧ n = m ∧ c = cap := by simpa [Value.cells] using he
  obtain ⟨rfl, rfl, rfl⟩ := this
  exact ⟨a, n, c, l, rfl, hs, hn, hle, hmx⟩
end
end Go.Proofs.Ytnoefldpkfpglaa
