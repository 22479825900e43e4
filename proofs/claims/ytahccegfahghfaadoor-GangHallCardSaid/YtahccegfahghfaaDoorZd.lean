/- Texts of this proof, one behind the other. -/
import Derived.Test.YtahccegfahghfaaDoorZc
import Derived.Test.YtahccegfahghfaaDoorZa
import Derived.ProofKit
import Derived.Carry
import Derived.Deep.Slices
import Derived.Lib.SmallJoins
import Derived.Test.YtahccegfahghfaaDoorRows
import Derived.LaidMore
import Derived.OpenShut
import Derived.Stop.Joined
/-! The fewest sets that are stuck. -/
namespace Go.Proofs.YtahccegfahghfaaDoor
open Go Go.RowKit
/-- What Stuck answers. -/
def StuckR (ms r : List Int) : Prop := (rightM ms = true → Best ms r) ∧ (rightM ms = false → r = [])
theorem slo_none {α : Type} [Enc α] {T : TypeId} {Y : List Ob} {n cap : Nat} {l : List α} (h : SlO T Y none n cap l) : l = [] := by
  rcases h with ⟨_, _, _, _, h⟩ | ⟨g, cs, _, h, _, _⟩
  · exact h
  · cases h
theorem lt_pow {k p m : Nat} (h : k < p) (hp : p = 2 ^ m) : ((k : Nat) : Int) < 2 ^ m := by
  subst hp
  have : ((k : Nat) : Int) < ((2 ^ m : Nat) : Int) := Int.ofNat_lt.2 h
  simpa using this
theorem shl_fin64 : ∀ m : Fin 9, IntKind.u64.wrap (1 * 2 ^ (min (m.val : Int).toNat IntKind.u64.bits)) = ((2 ^ m.val : Nat) : Int) ∧ 2 ^ m.val ≤ 256 := by decide +kernel
theorem shl_pow {m : Nat} (h : m ≤ 8) : IntKind.u64.wrap (1 * 2 ^ (min ((m : Nat) : Int).toNat IntKind.u64.bits)) = ((2 ^ m : Nat) : Int) := (shl_fin64 ⟨m, by omega⟩).1
theorem pow_le {m : Nat} (h : m ≤ 8) : 2 ^ m ≤ 256 := (shl_fin64 ⟨m, by omega⟩).2
theorem un_yes {al : List CpuA} {x : CpuA} {k i : Nat} (hx : al[i]? = some x) (hi : i < 8) (h : hasV ((k : Nat) : Int) ((i : Nat) : Int) = true) : orV (unionL (al.map CpuA.s) (upTo ((k : Nat) : Int) i)) x.s = unionL (al.map CpuA.s) (upTo ((k : Nat) : Int) (i + 1)) := by
  rw [ut_yes hi h, union_on, Int.toNat_natCast, s_getD hx]
theorem un_no {al : List CpuA} {k i : Nat} (h : hasV ((k : Nat) : Int) ((i : Nat) : Int) = false) : unionL (al.map CpuA.s) (upTo ((k : Nat) : Int) i) = unionL (al.map CpuA.s) (upTo ((k : Nat) : Int) (i + 1)) := by rw [ut_no h]
theorem stk_yes {ms : List Int} {k : Nat} {u : Int} (hk : ((k : Nat) : Int) < 256) (hu : u = unionL ms (listI (k : Int))) (h : ¬ Lib.pop8 u ≥ Lib.pop8 (k : Int)) : stk ms (listI (k : Int)) = true := by
  have := list_len (s := (k : Int)) (by omega) hk
  subst hu
  exact decide_eq_true (by omega)
theorem stk_not {ms : List Int} {k : Nat} {u : Int} (hk : ((k : Nat) : Int) < 256) (hu : u = unionL ms (listI (k : Int))) (h : Lib.pop8 u ≥ Lib.pop8 (k : Int)) : stk ms (listI (k : Int)) = false := by
  have := list_len (s := (k : Int)) (by omega) hk
  subst hu
  exact decide_eq_false (by omega)
theorem li_pop {k : Nat} (hk : ((k : Nat) : Int) < 256) : ((listI (k : Int)).length : Int) = Lib.pop8 (k : Int) := list_len (by omega) hk

set_option maxRecDepth 100000 in
theorem gstuck_t (q : Option Addr) (m capq : Nat) (al : List CpuA) (w : World)
    (hal : Sv w q al) (hma : m = al.length) (hbm : m ≤ 1000) (hgd : ∀ x ∈ al, x.Good)
    (hT : TabAt 0 Lib.deBruijn32tab w)
    : Calls Tryd.prog 9 #[.slice q m capq] w fun e w' => ∃ q' n' c' Y r, e = .returned (.slice q' n' c') ∧ StuckR (al.map CpuA.s) r ∧ SlO 3 Y q' n' c' r ∧ Below w.heap.size w w' ∧ Hs w Y w' := by
  refine enter (Hs.start w) Tryd.func9 rfl Tryd.ntmps9 rfl (sq_ (qa0 [] [0] [] (ds_ (sq_ (sq_ (ao_ (qo0 1 [] [0] [(13, .slice q m capq)] ?_)))))))
  rcases q3 : rightM (al.map CpuA.s) with _ | _
  ·
    refine cP (fun v L' => ∃ q_ n_ c_ Y_ Z_ rl_, v = .tuple #[.slice q_ n_ c_, .bool false] ∧ L' = List.take 0 ([]) ++ (Y_ ++ (Z_ ++ List.drop 0 ([]))) ∧ SlO 27 Y_ q_ n_ c_ rl_ ∧ GotR 3 Z_ rl_ ∧ (rightM (al.map CpuA.s) = true → rl_.map IntsA.l = (al.map CpuA.s).map listI)) (fun args w => Tryd.call15 args w) (fun w hw => (lists_t q m capq al w (hal.kept hw.below) hma hbm hgd (tab_kept hT hw.below)).mono fun e w' ⟨q_, n_, c_, Y_, rl_, Z_, he, hO, hG, hB, hb, hY⟩ => by rw [q3] at he; exact ⟨_, _, he, ⟨q_, n_, c_, Y_, Z_, rl_, rfl, rfl, hO, hG, hB⟩, hs_re (hw.join hb hY 0)⟩) ?_
    rintro v4 L4 ⟨q4, n4, c4, Y4, Yz4, rl4, rfl, rfl, hO4, hG4, hB4⟩
    refine qo0 5 [] [0] [(4, .bool false)] (on_ (ds_ (sq_ (qa0 [] [0] [(18, .bool true)] (ds_ (t_ (sq_ (qa0 [] [] [(2, .slice none 0 0)] (ds_ (rt ([]) (.slice none 0 0) ?_))))))))))
    exact fun w' hw => ⟨none, 0, 0, [], [], rfl, ⟨fun h => absurd (q3.symm.trans h) (by decide), fun _ => rfl⟩, SlO.nil, hw.below, hw.sub (List.nil_sublist _)⟩
  ·
    refine cP (fun v L' => ∃ q_ n_ c_ Y_ Z_ rl_, v = .tuple #[.slice q_ n_ c_, .bool true] ∧ L' = List.take 0 ([]) ++ (Y_ ++ (Z_ ++ List.drop 0 ([]))) ∧ SlO 27 Y_ q_ n_ c_ rl_ ∧ GotR 3 Z_ rl_ ∧ (rightM (al.map CpuA.s) = true → rl_.map IntsA.l = (al.map CpuA.s).map listI)) (fun args w => Tryd.call15 args w) (fun w hw => (lists_t q m capq al w (hal.kept hw.below) hma hbm hgd (tab_kept hT hw.below)).mono fun e w' ⟨q_, n_, c_, Y_, rl_, Z_, he, hO, hG, hB, hb, hY⟩ => by rw [q3] at he; exact ⟨_, _, he, ⟨q_, n_, c_, Y_, Z_, rl_, rfl, rfl, hO, hG, hB⟩, hs_re (hw.join hb hY 0)⟩) ?_
    rintro v8 L8 ⟨q8, n8, c8, Y8, Yz8, rl8, rfl, rfl, hO8, hG8, hB8⟩
    replace hB8 := hB8 q3
    have hlr8 : rl8.length = al.length := by have := congrArg List.length hB8; simpa using this
    refine qo0 5 [] [0] [(4, .bool true)] (on_ (ds_ (sq_ (qa0 [] [0] [(18, .bool false)] (ds_ (f_ (at_skip (ds_ (sq_ (qa0 [] [0] [(5, .slice none 0 0)] (ds_ (sq_ (sq_ ?_)))))))))))))
    have hmr := all_right q3 (cpu_nn hgd)
    have hm8 : m ≤ 8 := by have := hmr.2; rw [List.length_map] at this; omega
    obtain ⟨P2, hP2⟩ : ∃ p, p = 2 ^ m := ⟨_, rfl⟩
    have hP8 : P2 ≤ 256 := by rw [hP2]; exact pow_le hm8
    refine ao_ (qo0 2 [] [0, 5] [(20, .int .i64 (m : Nat))] (ops_opv (.int .u64 (P2 : Nat)) (by kernel_rfl) (by kernel_rfl) (by kernel_rfl) (fun w => run_shl (kd := .u64) (kd' := .i64) (a := 1) (n := ((m : Nat) : Int)) ((P2 : Nat) : Int) rfl (by kernel_rfl) (by kernel_rfl) (by omega) (by rw [hP2]; exact shl_pow hm8) w) (qo0 1 [] [0, 5, 21] [(22, .int .u64 0)] (on_ (ds_ (at_block (At.pick [Y8, Yz8] [] [0, 1] ([]) (by kernel_rfl) rfl rfl (at_loop (α := Nat × List Int × List Ob × Option Addr × Nat × Nat) [0, 5, 21, 22] (fun ⟨k, bb, Yb, pb, nb, cb⟩ => [(0, .slice q m capq), (5, .slice pb nb cb), (21, .int .u64 (P2 : Nat)), (22, .int .u64 (k : Nat))]) (fun ⟨k, bb, Yb, pb, nb, cb⟩ => (Yb ++ [])) (fun ⟨k, bb, Yb, pb, nb, cb⟩ => k ≤ P2 ∧ BestK (al.map CpuA.s) bb k ∧ (bb = [] → pb = none) ∧ bb.length ≤ 8 ∧ SlO 3 Yb pb nb cb bb) (fun ⟨k, bb, Yb, pb, nb, cb⟩ => P2 - k) (0, [], [], none, 0, 0) (by kernel_rfl) rfl ⟨Nat.zero_le _, bk_zero, fun _ => rfl, Nat.zero_le _, SlO.nil⟩ ?_))))))))
    rintro ⟨k, bb, Yb, pb, nb, cb⟩
    rintro ⟨hk, hBK, hpn, hbl, hb⟩
    have hlb := hb.len
    refine sq_ ?_
    by_cases q15 : ((k : Nat) : Int) < ((P2 : Nat) : Int)
    ·
      refine qa [(0, .yes)] [0, 5, 21, 22] [(23, .bool true)] ([((k : Nat) : Int) < ((P2 : Nat) : Int)]) (al1 q15) (ds_ (sq_ (t_ (at_skip (ds_ (sq_ (at_block (sq_ (qa0 [] [0, 5, 21, 22] [(6, .int .u64 (k : Nat))] (ds_ (sq_ (ao_ (qo0 1 [] [0, 5, 6, 21, 22] [(25, .int .u64 (k : Nat))] (cD (.int .i64 (Lib.pop8 ((k : Nat) : Int))) (fun args w => Tryd.call20 args w) (fun w hw => onesu_t ((k : Nat) : Int) w (by omega) (by omega)) (qo0 1 [] [0, 5, 6, 21, 22] [(7, .int .i64 (Lib.pop8 ((k : Nat) : Int)))] (on_ (ds_ (sq_ (qa0 [] [0, 5, 6, 7, 21, 22] [(8, .int .u32 0)] (ds_ (sq_ (qa0 [] [0, 5, 6, 7, 8, 21, 22] [(9, .slice none 0 0)] (ds_ (sq_ (sq_ (qa0 [] [0, 5, 6, 7, 8, 9, 21, 22] [(27, .slice q m capq), (28, .int .i64 (m : Nat)), (29, .int .i64 0)] (ds_ (at_block (at_loop (α := Nat × Int × List Ob × Option Addr × Nat × Nat) [0, 5, 6, 7, 8, 9, 21, 22, 27, 28, 29] (fun ⟨i, u, Yp, pp, np, cp⟩ => [(0, .slice q m capq), (5, .slice pb nb cb), (6, .int .u64 (k : Nat)), (7, .int .i64 (Lib.pop8 ((k : Nat) : Int))), (8, .int .u32 u), (9, .slice pp np cp), (21, .int .u64 (P2 : Nat)), (22, .int .u64 (k : Nat)), (27, .slice q m capq), (28, .int .i64 (m : Nat)), (29, .int .i64 (i : Nat))]) (fun ⟨i, u, Yp, pp, np, cp⟩ => (Yp ++ (Yb ++ []))) (fun ⟨i, u, Yp, pp, np, cp⟩ => i ≤ m ∧ u = unionL (al.map CpuA.s) (upTo ((k : Nat) : Int) i) ∧ SlO 3 Yp pp np cp (upTo ((k : Nat) : Int) i)) (fun ⟨i, u, Yp, pp, np, cp⟩ => m - i) (0, 0, [], none, 0, 0) (by kernel_rfl) rfl ⟨Nat.zero_le _, by rw [ut_zero]; rfl, SlO.as14 SlO.nil ut_zero.symm⟩ ?_)))))))))))))))))))))))))))))
      rintro ⟨i, u, Yp, pp, np, cp⟩
      rintro ⟨hi, hu, hp⟩
      have hlp := hp.len
      have hle := ut_le (s := ((k : Nat) : Int)) (k := i)
      refine sq_ ?_
      by_cases q24 : ((i : Nat) : Int) < ((m : Nat) : Int)
      ·
        refine qa [(0, .yes)] [0, 5, 6, 7, 8, 9, 21, 22, 27, 28, 29] [(30, .bool true)] ([((i : Nat) : Int) < ((m : Nat) : Int)]) (al1 q24) (ds_ (sq_ (t_ (at_skip (ds_ (sq_ (at_block (sq_ ?_))))))))
        obtain ⟨b27, o27, rfl⟩ := hal.pos (i := i) (by omega)
        obtain ⟨x29, hx29⟩ := get_some (l := al) (m := i) (by omega)
        have hgx29 := hgd x29 (List.mem_of_getElem? hx29)
        have hg0x29 : 0 ≤ x29.s := hgx29.1
        have hg1x29 : x29.s < 4294967296 := hgx29.2
        refine qa [(1, .at b27 o27 i), (2, .go (outs b27 (o27 + i * 1) [.int .u32 x29.s]))] [0, 5, 6, 7, 8, 9, 21, 22, 27, 28, 29] [(10, .int .i64 (i : Nat)), (11, .int .u32 x29.s)] ([(some ⟨b27, o27, none⟩ : Option Addr) = some ⟨b27, o27, none⟩, (i : Nat) = ((i : Nat) : Int), i < m] ++ (cellsP w b27 (o27 + i * 1) [.int .u32 x29.s])) (alA (al2 rfl (al2 rfl (al1 (by omega)))) (rd_pre (hal.get hx29) _ rfl)) (ds_ (sq_ ?_))
        rcases q31 : hasV ((k : Nat) : Int) ((i : Nat) : Int) with _ | _
        ·
          refine ao_ (qo0 2 [] [0, 5, 6, 7, 8, 9, 10, 11, 21, 22, 27, 28, 29] [(34, .int .u64 (k : Nat)), (35, .int .i64 (i : Nat))] (ops_opv (.int .u64 ((((k : Nat) : Int)).fdiv (2 ^ (min ((i : Nat) : Int).toNat IntKind.u64.bits)))) (by kernel_rfl) (by kernel_rfl) (by kernel_rfl) (fun w => run_shr (kd := .u64) (kd' := .i64) (a := ((k : Nat) : Int)) (n := ((i : Nat) : Int)) ((((k : Nat) : Int)).fdiv (2 ^ (min ((i : Nat) : Int).toNat IntKind.u64.bits))) rfl (by kernel_rfl) (by kernel_rfl) (by omega) rfl w) (ops_opv (.int .u64 0) (by kernel_rfl) (by kernel_rfl) (by kernel_rfl) (fun w => run_and64 (a := ((((k : Nat) : Int)).fdiv (2 ^ (min ((i : Nat) : Int).toNat IntKind.u64.bits)))) (b := 1) 0 rfl (by kernel_rfl) (by kernel_rfl) ((shr_bit (by omega) (by omega) (by omega) (by omega)).trans (by rw [q31]; rfl)) w) (qo0 1 [] [0, 5, 6, 7, 8, 9, 10, 11, 21, 22, 27, 28, 29] [(38, .bool false)] (on_ (ds_ (f_ (at_skip (done_block (ds_ (qa [(0, .fit)] [0, 5, 6, 7, 8, 9, 21, 22, 27, 28] [(29, .int .i64 (i + 1 : Nat))] ([Fit .i64 ((i + 1 : Nat))]) (al1 (fit64 (by omega) (by omega))) ?_)))))))))))
          exact dr [0, 5, 6, 7, 8, 9, 21, 22, 27, 28, 29] (i + 1, u, Yp, pp, np, cp) ⟨by omega, by rw [hu]; exact un_no q31, SlO.as14 hp (ut_no q31).symm⟩
        ·
          refine ao_ (qo0 2 [] [0, 5, 6, 7, 8, 9, 10, 11, 21, 22, 27, 28, 29] [(34, .int .u64 (k : Nat)), (35, .int .i64 (i : Nat))] (ops_opv (.int .u64 ((((k : Nat) : Int)).fdiv (2 ^ (min ((i : Nat) : Int).toNat IntKind.u64.bits)))) (by kernel_rfl) (by kernel_rfl) (by kernel_rfl) (fun w => run_shr (kd := .u64) (kd' := .i64) (a := ((k : Nat) : Int)) (n := ((i : Nat) : Int)) ((((k : Nat) : Int)).fdiv (2 ^ (min ((i : Nat) : Int).toNat IntKind.u64.bits))) rfl (by kernel_rfl) (by kernel_rfl) (by omega) rfl w) (ops_opv (.int .u64 1) (by kernel_rfl) (by kernel_rfl) (by kernel_rfl) (fun w => run_and64 (a := ((((k : Nat) : Int)).fdiv (2 ^ (min ((i : Nat) : Int).toNat IntKind.u64.bits)))) (b := 1) 1 rfl (by kernel_rfl) (by kernel_rfl) ((shr_bit (by omega) (by omega) (by omega) (by omega)).trans (by rw [q31]; rfl)) w) (qo0 1 [] [0, 5, 6, 7, 8, 9, 10, 11, 21, 22, 27, 28, 29] [(38, .bool true)] (on_ (ds_ (t_ (sq_ (ao_ (qo0 2 [] [0, 5, 6, 7, 9, 10, 21, 22, 27, 28, 29] [(39, .int .u32 u), (40, .int .u32 x29.s)] (ops_opv (.int .u32 (orV u x29.s)) (by kernel_rfl) (by kernel_rfl) (by kernel_rfl) (fun w => run_or (a := u) (b := x29.s) (orV u x29.s) rfl (by kernel_rfl) (by kernel_rfl) rfl w) (qo0 1 [] [0, 5, 6, 7, 9, 10, 21, 22, 27, 28, 29] [(8, .int .u32 (orV u x29.s))] (on_ (ds_ (ao_ (mo0 3 [] [0, 5, 6, 7, 8, 21, 22, 27, 28, 29] (fun γ41 => [(42, .slice pp np cp), (44, .slice (some ⟨γ41 0, 0, none⟩) 1 1)]) (fun γ41 L => bx (γ41 0) (#[.int .i64 (i : Nat)]) 3 :: L) (fun γ41 => ops_append (α := Int) [bx (γ41 0) (#[.int .i64 (i : Nat)]) 3] Yp (Yb ++ []) (.refl _) rfl (by kernel_rfl) (by kernel_rfl) (p := pp) (n := np) (cap := cp) (m := 1) (yv := .slice (some ⟨γ41 0, 0, none⟩) 1 1) (by kernel_rfl) (by kernel_rfl) (T := 3) (by_ := 8) (by kernel_rfl) (upTo ((k : Nat) : Int) i) ([((i : Nat) : Int)]) hp (fun w hw => src_svn Tryd.underlying27 (sv_row (hw.row 0 rfl) (by rfl)) (by rfl)) (by rfl) (by have hmx : maxLen = 9223372036854775807 := rfl; omega) (by have hmx : maxLen = 9223372036854775807 := rfl; omega) (fun Y42 p42 cap42 hO42 => qo0 1 [] [0, 5, 6, 7, 8, 21, 22, 27, 28, 29] [(9, .slice p42 (np + 1) cap42)] (on_ (done_block (ds_ (qa [(0, .fit)] [0, 5, 6, 7, 8, 9, 21, 22, 27, 28] [(29, .int .i64 (i + 1 : Nat))] ([Fit .i64 ((i + 1 : Nat))]) (al1 (fit64 (by omega) (by omega))) (Done.pick [[bx (γ41 0) (#[.int .i64 (i : Nat)]) 3], Y42, Yb] [1, 2] [0] ((Y42 ++ (Yb ++ []))) (by kernel_rfl) rfl rfl ?_)))))))))))))))))))))))
          exact dr [0, 5, 6, 7, 8, 9, 21, 22, 27, 28, 29] (i + 1, (orV u x29.s), Y42, p42, (np + 1), cap42) ⟨by omega, by rw [hu]; exact un_yes hx29 (by omega) q31, SlO.as14 hO42 (ut_yes (by omega) q31).symm⟩
      ·
        refine qa [(0, .no)] [0, 5, 6, 7, 8, 9, 21, 22, 27, 28, 29] [(30, .bool false)] ([¬ (((i : Nat) : Int) < ((m : Nat) : Int))]) (al1 q24) (ds_ (sq_ (f_ (at_leave _ rfl (ds_ (sq_ (sq_ ?_)))))))
        have hka : upTo ((k : Nat) : Int) i = listI ((k : Nat) : Int) := by rw [show i = m by omega]; exact ut_all (by omega) (by omega) hm8 (lt_pow (by omega) hP2)
        rw [hka] at hu hp
        have hul := hu
        have hus := union_spec hmr.1 (listI ((k : Nat) : Int))
        rw [← hu] at hus
        have hu0 := hus.1
        have hu1 := hus.2.1
        have hlp2 := hp.len
        have hpk := li_pop (k := k) (by omega)
        refine ao_ (qo0 1 [] [0, 5, 7, 9, 21, 22] [(47, .int .u32 u)] (cD (.int .i64 (Lib.pop8 u)) (fun args w => Tryd.call11 args w) (fun w hw => count_t u w hu0 hu1) ?_))
        by_cases q48 : ((Lib.pop8 u) : Int) ≥ ((Lib.pop8 ((k : Nat) : Int)) : Int)
        ·
          refine qo 12 [(3, .yes)] [0, 5, 7, 9, 21, 22] [(60, .bool true)] ([((Lib.pop8 u) : Int) ≥ ((Lib.pop8 ((k : Nat) : Int)) : Int)]) (al1 q48) (on_ (ds_ (t_ (at_leave _ rfl (ds_ (qa [(0, .fit)] [0, 5, 21] [(22, .int .u64 (k + 1 : Nat))] ([Fit .u64 ((k + 1 : Nat))]) (al1 (fitU (by omega) (by omega))) (Done.pick [Yp, Yb] [1] [0] ((Yb ++ [])) (by kernel_rfl) rfl rfl ?_)))))))
          exact dr [0, 5, 21, 22] (k + 1, bb, Yb, pb, nb, cb) ⟨by omega, bk_not hBK (stk_not (by omega) hul q48), hpn, hbl, hb⟩
        ·
          rcases pb with _ | a52
          ·
            refine qo 12 [(3, .no)] [0, 5, 7, 9, 21, 22] [(60, .bool false)] ([¬ (((Lib.pop8 u) : Int) ≥ ((Lib.pop8 ((k : Nat) : Int)) : Int))]) (al1 q48) (on_ (ds_ (f_ (at_skip (ds_ (sq_ (qa0 [] [0, 5, 9, 21, 22] [(74, .bool true)] (ds_ (t_ (qa0 [] [0, 21, 22] [(5, .slice pp np cp)] (done_block (ds_ (qa [(0, .fit)] [0, 5, 21] [(22, .int .u64 (k + 1 : Nat))] ([Fit .u64 ((k + 1 : Nat))]) (al1 (fitU (by omega) (by omega))) (Done.pick [Yp, Yb] [0] [1] ((Yp ++ [])) (by kernel_rfl) rfl rfl ?_))))))))))))))
            have hsp := stk_pos (stk_yes (by omega) hul q48) hmr.1
            exact dr [0, 5, 21, 22] (k + 1, listI ((k : Nat) : Int), Yp, pp, np, cp) ⟨by omega, bk_first (by rw [slo_none hb] at hBK; exact hBK) (stk_yes (by omega) hul q48), fun e => by rw [e] at hsp; exact absurd hsp (by decide), li_len, hp⟩
          ·
            by_cases q58 : ((Lib.pop8 ((k : Nat) : Int)) : Int) > ((nb : Nat) : Int)
            ·
              refine qo 12 [(3, .no), (11, .yes)] [0, 5, 7, 9, 21, 22] [(60, .bool true)] ([¬ (((Lib.pop8 u) : Int) ≥ ((Lib.pop8 ((k : Nat) : Int)) : Int))] ++ ([((Lib.pop8 ((k : Nat) : Int)) : Int) > ((nb : Nat) : Int)])) (alA (al1 q48) (al1 q58)) (on_ (ds_ (t_ (at_leave _ rfl (ds_ (qa [(0, .fit)] [0, 5, 21] [(22, .int .u64 (k + 1 : Nat))] ([Fit .u64 ((k + 1 : Nat))]) (al1 (fitU (by omega) (by omega))) (Done.pick [Yp, Yb] [1] [0] ((Yb ++ [])) (by kernel_rfl) rfl rfl ?_)))))))
              exact dr [0, 5, 21, 22] (k + 1, bb, Yb, (some a52), nb, cb) ⟨by omega, bk_keep hBK (List.length_pos_iff.2 fun e => nomatch hpn e) (bet_no.2 (fun e => by rcases e with e | ⟨e, e2⟩; (have := li_pop (k := k) (by omega); omega); (have := li_pop (k := k) (by omega); omega))), hpn, hbl, hb⟩
            ·
              refine qo 12 [(3, .no), (11, .no)] [0, 5, 7, 9, 21, 22] [(60, .bool false)] ([¬ (((Lib.pop8 u) : Int) ≥ ((Lib.pop8 ((k : Nat) : Int)) : Int))] ++ ([¬ (((Lib.pop8 ((k : Nat) : Int)) : Int) > ((nb : Nat) : Int))])) (alA (al1 q48) (al1 q58)) (on_ (ds_ (f_ (at_skip (ds_ (sq_ ?_))))))
              by_cases q63 : ((Lib.pop8 ((k : Nat) : Int)) : Int) < ((nb : Nat) : Int)
              ·
                refine qa [(6, .yes)] [0, 5, 9, 21, 22] [(74, .bool true)] ([((Lib.pop8 ((k : Nat) : Int)) : Int) < ((nb : Nat) : Int)]) (al1 q63) (ds_ (t_ (qa0 [] [0, 21, 22] [(5, .slice pp np cp)] (done_block (ds_ (qa [(0, .fit)] [0, 5, 21] [(22, .int .u64 (k + 1 : Nat))] ([Fit .u64 ((k + 1 : Nat))]) (al1 (fitU (by omega) (by omega))) (Done.pick [Yp, Yb] [0] [1] ((Yp ++ [])) (by kernel_rfl) rfl rfl ?_)))))))
                have hsp := stk_pos (stk_yes (by omega) hul q48) hmr.1
                exact dr [0, 5, 21, 22] (k + 1, listI ((k : Nat) : Int), Yp, pp, np, cp) ⟨by omega, bk_new hBK (stk_yes (by omega) hul q48) (bet_iff.2 (.inl (by have := li_pop (k := k) (by omega); omega))), fun e => by rw [e] at hsp; exact absurd hsp (by decide), li_len, hp⟩
              ·
                refine ao_ (qo 11 [(6, .no)] [0, 5, 9, 21, 22] [(69, .bool false), (70, .slice pp np cp), (71, .slice (some a52) nb cb)] ([¬ (((Lib.pop8 ((k : Nat) : Int)) : Int) < ((nb : Nat) : Int))]) (al1 q63) (cD (.int .i64 (cmpL (listI ((k : Nat) : Int)) bb)) (fun args w => Tryd.call21 args w) (fun w hw => by have := scompare_t pp np cp (listI ((k : Nat) : Int)) (some a52) nb cb bb w (hp.atN (A := []) hw) hp.len (by have := hp.len; have := li_len (x := ((k : Nat) : Int)); omega) (hb.atN (A := (Yp)) hw) hb.len (by have := hb.len; have := hbl; omega); exact this) ?_))
                by_cases q69 : ((cmpL (listI ((k : Nat) : Int)) bb) : Int) < (0 : Int)
                ·
                  refine qo 2 [(12, .yes)] [0, 5, 9, 21, 22] [(74, .bool true)] ([((cmpL (listI ((k : Nat) : Int)) bb) : Int) < (0 : Int)]) (al1 q69) (on_ (ds_ (t_ (qa0 [] [0, 21, 22] [(5, .slice pp np cp)] (done_block (ds_ (qa [(0, .fit)] [0, 5, 21] [(22, .int .u64 (k + 1 : Nat))] ([Fit .u64 ((k + 1 : Nat))]) (al1 (fitU (by omega) (by omega))) (Done.pick [Yp, Yb] [0] [1] ((Yp ++ [])) (by kernel_rfl) rfl rfl ?_))))))))
                  have hsp := stk_pos (stk_yes (by omega) hul q48) hmr.1
                  exact dr [0, 5, 21, 22] (k + 1, listI ((k : Nat) : Int), Yp, pp, np, cp) ⟨by omega, bk_new hBK (stk_yes (by omega) hul q48) (bet_iff.2 (.inr ⟨by have := li_pop (k := k) (by omega); omega, cmpL_lex.1 q69⟩)), fun e => by rw [e] at hsp; exact absurd hsp (by decide), li_len, hp⟩
                ·
                  refine qo 2 [(12, .no)] [0, 5, 9, 21, 22] [(74, .bool false)] ([¬ (((cmpL (listI ((k : Nat) : Int)) bb) : Int) < (0 : Int))]) (al1 q69) (on_ (ds_ (f_ (at_skip (done_block (ds_ (qa [(0, .fit)] [0, 5, 21] [(22, .int .u64 (k + 1 : Nat))] ([Fit .u64 ((k + 1 : Nat))]) (al1 (fitU (by omega) (by omega))) (Done.pick [Yp, Yb] [1] [0] ((Yb ++ [])) (by kernel_rfl) rfl rfl ?_))))))))
                  exact dr [0, 5, 21, 22] (k + 1, bb, Yb, (some a52), nb, cb) ⟨by omega, bk_keep hBK (List.length_pos_iff.2 fun e => nomatch hpn e) (bet_no.2 (fun e => by rcases e with e | ⟨e, e2⟩; (have := li_pop (k := k) (by omega); omega); exact q69 (cmpL_lex.2 e2))), hpn, hbl, hb⟩
    ·
      refine qa [(0, .no)] [0, 5, 21, 22] [(23, .bool false)] ([¬ (((k : Nat) : Int) < ((P2 : Nat) : Int))]) (al1 q15) (ds_ (sq_ (f_ (at_leave _ rfl (ds_ (sq_ (qa0 [] [] [(2, .slice pb nb cb)] (ds_ (rt ([]) (.slice pb nb cb) ?_)))))))))
      have hBF := bk_best (bb := bb) hmr.2 (by rw [List.length_map, ← hma, ← hP2, show P2 = k by omega]; exact hBK)
      exact fun w' hw => ⟨_, _, _, _, bb, rfl, ⟨fun _ => hBF, fun h => absurd (h.symm.trans q3) (by decide)⟩, hb, hw.below, one_tail14 (Hs.pick [Yb] [0] [] (by kernel_rfl) hw)⟩
end Go.Proofs.YtahccegfahghfaaDoor

/-! The document: the fewest sets that are stuck. -/
namespace Go.Proofs.YtahccegfahghfaaDoor
open Go Go.RowKit
theorem un_on {al : List CpuA} {p : List Int} {x : CpuA} {c : Int} {j : Nat} (hp : p[j]? = some c) (hx : al[c.toNat]? = some x) : orV (unionL (al.map CpuA.s) (p.take j)) x.s = unionL (al.map CpuA.s) (p.take (j + 1)) := by
 rw [take_one hp, union_on, s_getD hx]
end Go.Proofs.YtahccegfahghfaaDoor

/-! The statement GangHall, walked. -/
namespace Go.Proofs.YtahccegfahghfaaDoor
open Go Go.RowKit
theorem stuckR_len {ms r : List Int} (h : StuckR ms r) (hl : ms.length ≤ 9) : r.length ≤ 9 := by
  cases e : rightM ms with
  | true =>
    rcases h.1 e with ⟨rfl, _⟩ | ⟨h1, _, _⟩
    · exact Nat.zero_le _
    · have := pl_len h1; omega
  | false => rw [h.2 e]; exact Nat.zero_le _
theorem min_if8 {n : Nat} : (if (8 : Int) < ((n : Nat) : Int) then (8 : Int) else ((n : Nat) : Int)) = ((min n 8 : Nat) : Int) := by split <;> omega
theorem and_rng {a : Int} : 0 ≤ andV a 255 ∧ andV a 255 < 256 := by
  unfold andV
  have h : (a % 4294967296).toNat &&& (255 % 4294967296 : Int).toNat ≤ 255 := Nat.and_le_right
  rw [IntKind.wrap_u32]
  omega
theorem set_take {α : Type} {l : List α} {i : Nat} {y : α} {P : α → Prop} (h : ∀ z ∈ l.take i, P z) (hy : P y) (hi : i < l.length) : ∀ z ∈ (l.set i y).take (i + 1), P z := fun z hz => by
  rw [take_one (List.getElem?_set_self hi), List.take_set_of_le (Nat.le_refl _)] at hz
  rcases List.mem_append.1 hz with e | e
  · exact h z e
  · rw [List.mem_singleton] at e; subst e; exact hy
theorem set_all {α : Type} {l : List α} {i : Nat} {y : α} {P : α → Prop} (h : ∀ z ∈ l, P z) (hy : P y) : ∀ z ∈ l.set i y, P z := fun z hz => by
  rcases List.mem_or_eq_of_mem_set hz with e | e
  · exact h z e
  · subst e; exact hy
theorem right_all {sl : List CpuA} (h : ∀ y ∈ sl, 0 ≤ y.s ∧ y.s < 256) (h8 : sl.length ≤ 8) : rightM (sl.map CpuA.s) = true := by
  unfold rightM
  rw [Bool.and_eq_true]
  exact ⟨List.all_eq_true.2 fun s hs => by obtain ⟨y, hy, rfl⟩ := List.mem_map.1 hs; exact decide_eq_true (h y hy).2, decide_eq_true (by rw [List.length_map]; exact h8)⟩
theorem hall_is {sl : List CpuA} {r : List Int} (h : ∀ y ∈ sl, 0 ≤ y.s ∧ y.s < 256) (h8 : sl.length ≤ 8) (hS : StuckR (sl.map CpuA.s) r) : mayM (sl.map CpuA.s) = decide (r.length = 0) := by
  have hr := right_all h h8
  rw [may_ok hr]
  exact hall (fun s hs => by obtain ⟨y, hy, rfl⟩ := List.mem_map.1 hs; exact h y hy) (hS.1 hr)
set_option maxHeartbeats 1000000 in

set_option maxRecDepth 100000 in
theorem hall_law (q : Option Addr) (m capq : Nat) (al : List CpuA) (w : World)
    (hal : Sv w q al) (hma : m = al.length) (hcp : m ≤ capq) (hbg : capq ≤ 9223372036854775807) (hgd : ∀ x ∈ al, x.Good)
    (hT : TabAt 0 Lib.deBruijn32tab w)
    : Calls Tryd.prog 4 #[.slice q m capq] w fun e w' => e = .returned (.bool true) ∧ Below w.heap.size w w' := by
  refine enter (Hs.start w) Tryd.func4 rfl Tryd.ntmps4 rfl (sq_ (qa0 [] [0] [] (ds_ (sq_ (sq_ (ao_ (cD (.bool true) (fun args w => Tryd.call5 args w) (fun w hw => wakes_t w) (qo0 1 [] [0] [(10, .bool false)] (on_ (ds_ (f_ (at_skip (ds_ (sq_ (ao_ (mo 6 [(5, .sl (.slice q (min m 8) capq))] [] (fun γ4 => [(11, .slice (some ⟨γ4 0, 0, none⟩) 0 0), (16, .slice q (min m 8) capq)]) (fun γ4 L => bx (γ4 0) (#[]) 31 :: L) (fun γ4 => [SlRun Tryd.prog 24 (.slice q m capq) none (some (.int .i64 (if (8 : Int) < ((m : Nat) : Int) then 8 else (m : Nat)))) none (.slice q (min m 8) capq)]) (fun γ4 => (al1 (by rw [min_if8]; exact slE_hi (P := Tryd.prog) (h := (min m 8)) (T := 24) (e := 31) (k := 1) (by_ := 4) (by kernel_rfl) (by omega)))) (fun γ4 => ops_append (α := CpuA) [] ([bx (γ4 0) (#[]) 31]) ([]) (mvE rfl) rfl (by kernel_rfl) (by kernel_rfl) (p := (some ⟨γ4 0, 0, none⟩)) (n := 0) (cap := 0) (m := (min m 8)) (yv := .slice q (min m 8) capq) (by kernel_rfl) (by kernel_rfl) (T := 31) (by_ := 4) (by kernel_rfl) ([]) (al.take (min m 8)) (SlO.lit (by rfl) (by rfl) (by simp [maxLen])) (fun w hw => src_svn Tryd.underlying24 ((hal.kept hw.below).take (min m 8)) (by rw [List.length_take]; omega)) (by rw [List.length_take]; omega) (by have hmx : maxLen = 9223372036854775807 := rfl; omega) (by have hmx : maxLen = 9223372036854775807 := rfl; omega) (fun Y5 p5 cap5 hO5 => qo0 1 [] [] [(3, .slice p5 (0 + (min m 8)) cap5)] (on_ (ds_ (sq_ (sq_ (qa0 [] [3] [(19, .int .i64 (0 + (min m 8) : Nat)), (20, .int .i64 0)] (ds_ (at_block ?_)))))))))))))))))))))))))
  have hl0 := hO5.len
  refine at_loop (α := Nat × List CpuA × List Ob × Option Addr × Nat) [3, 19, 20] (fun ⟨i, sl, Ys, ps, cs⟩ => [(3, .slice ps (0 + (min m 8)) cs), (19, .int .i64 (0 + (min m 8) : Nat)), (20, .int .i64 (i : Nat))]) (fun ⟨i, sl, Ys, ps, cs⟩ => (Ys ++ [])) (fun ⟨i, sl, Ys, ps, cs⟩ => i ≤ 0 + (min m 8) ∧ (∀ y ∈ sl.take i, 0 ≤ y.s ∧ y.s < 256) ∧ (∀ y ∈ sl, y.Good) ∧ SlO 31 Ys ps (0 + (min m 8)) cs sl) (fun ⟨i, sl, Ys, ps, cs⟩ => (0 + (min m 8)) - i) (0, ([] ++ (al.take (min m 8))), Y5, p5, cap5) (by kernel_rfl) rfl ⟨Nat.zero_le _, all_take0T, fun y hy => hgd y (by rw [List.nil_append] at hy; exact List.mem_of_mem_take hy), hO5⟩ ?_
  rintro ⟨i, sl, Ys, ps, cs⟩
  rintro ⟨hi, hI, hgs, hsO⟩
  have hlsl := hsO.len
  have hfs := hsO.facts.2
  refine sq_ ?_
  by_cases q9 : ((i : Nat) : Int) < ((0 + (min m 8) : Nat) : Int)
  ·
    refine qa [(0, .yes)] [3, 19, 20] [(21, .bool true)] ([((i : Nat) : Int) < ((0 + (min m 8) : Nat) : Int)]) (al1 q9) (ds_ (sq_ (t_ (at_skip (ds_ (sq_ (at_block (sq_ (qa0 [] [3, 19, 20] [(4, .int .i64 (i : Nat))] (ds_ ?_))))))))))
    have hln13 := hsO.len
    obtain ⟨g13, cs13, rfl, rfl, hOw13⟩ := hsO.rowOf (i := i) (by omega)
    obtain ⟨x15, hx15⟩ := get_some (l := sl) (m := i) (by omega)
    refine ao_ (qo 4 [(2, .at g13 0 i), (3, .go (ownps 0 (0 + i * 1) [.int .u32 x15.s]))] [3, 19, 20] [(23, .slice (some ⟨g13, 0, none⟩) (0 + (min m 8)) cs), (24, .int .i64 (i : Nat)), (26, .int .u32 x15.s)] ([(some ⟨g13, 0, none⟩ : Option Addr) = some ⟨g13, 0, none⟩, (i : Nat) = ((i : Nat) : Int), i < 0 + (min m 8)] ++ (acellsP cs13 (0 + i * 1) [.int .u32 x15.s])) (alA (al2 rfl (al2 rfl (al1 (by omega)))) (rda_pre (hOw13.rdx hsO.len hx15) _ rfl)) (ops_opv (.int .u32 (andV x15.s 255)) (by kernel_rfl) (by kernel_rfl) (by kernel_rfl) (fun w => run_and (a := x15.s) (b := 255) (andV x15.s 255) rfl (by kernel_rfl) (by kernel_rfl) rfl w) (mo 2 [(5, .at g13 0 i), (6, .go (ownps 0 (0 + i * 1) [undef]))] [3, 19, 20] (fun _ => []) (fun _ L => (L.set 0 (bx g13 ((cs13).setIfInBounds (0 + i * 1) (.int .u32 (andV x15.s 255))) 31))) (fun _ => [(some ⟨g13, 0, none⟩ : Option Addr) = some ⟨g13, 0, none⟩, (i : Nat) = ((i : Nat) : Int), i < 0 + (min m 8)] ++ ([0 + i * 1 < (cs13).size])) (fun _ => (alA (al2 rfl (al2 rfl (al1 (by omega)))) (al1 (hOw13.room hsO.len hx15 (f := 0) (by decide))))) (fun _ => on_ (done_block (ds_ (qa [(0, .fit)] [3, 19] [(20, .int .i64 (i + 1 : Nat))] ([Fit .i64 ((i + 1 : Nat))]) (al1 (fit64 (by omega) (by omega))) ?_)))))))
    exact dr [3, 19, 20] (i + 1, (sl.set i (⟨(andV x15.s 255)⟩ : CpuA)), [bx g13 ((cs13).setIfInBounds (0 + i * 1) (.int .u32 (andV x15.s 255))) 31], (some ⟨g13, 0, none⟩), cs) ⟨by omega, set_take hI and_rng (by omega), set_all hgs ⟨and_rng.1, Int.lt_trans (and_rng (a := x15.s)).2 (by decide)⟩, (SlO.ofOwn (hOw13.put (x' := (⟨(andV x15.s 255)⟩ : CpuA)) hsO.len hx15 (f := 0) (by decide) rfl) (len_set hsO.len))⟩
  ·
    refine qa [(0, .no)] [3, 19, 20] [(21, .bool false)] ([¬ (((i : Nat) : Int) < ((0 + (min m 8) : Nat) : Int))]) (al1 q9) (ds_ (sq_ (f_ (at_leave _ rfl (ds_ (sq_ ?_))))))
    rw [List.take_of_length_le (by omega)] at hI
    have hsl8 : sl.length ≤ 8 := by rw [List.nil_append, List.length_take] at hl0; omega
    have hsl9 : sl.length ≤ 9 := by omega
    have hri := right_all hI hsl8
    have hmm : ∀ s ∈ sl.map CpuA.s, 0 ≤ s ∧ s < 256 := (all_right hri (cpu_nn hgs)).1
    refine ao_ (qo0 1 [] [3] [(30, .slice ps (0 + (min m 8)) cs)] (cP (fun v L' => ∃ q_ n_ c_ Y_ r_, v = .slice q_ n_ c_ ∧ L' = List.take 0 ((Ys ++ [])) ++ (Y_ ++ List.drop 0 ((Ys ++ []))) ∧ StuckR (sl.map CpuA.s) r_ ∧ SlO 3 Y_ q_ n_ c_ r_) (fun args w => Tryd.call9 args w) (fun w hw => (gstuck_t ps (0 + (min m 8)) cs sl w (SlO.sub hsO hw (List.sublist_append_left Ys _)) hsO.len (by have := hsO.len; have := hsl9; omega) hgs (tab_kept hT hw.below)).mono fun e w' ⟨q_, n_, c_, Y_, r_, he, hS, hO, hb, hY⟩ => ⟨_, _, he, ⟨q_, n_, c_, Y_, r_, rfl, rfl, hS, hO⟩, hw.join hb hY 0⟩) ?_))
    rintro v21 L21 ⟨q21, n21, c21, Y21, r21, rfl, rfl, hS21, hO21⟩
    have hl21 := hO21.len
    have hrl21 := stuckR_len hS21 (by rw [List.length_map]; omega)
    refine qo0 1 [] [3] [(5, .slice q21 n21 c21)] (on_ (ds_ (sq_ (sq_ ?_))))
    by_cases q23 : ((n21 : Nat) : Int) = (0 : Int)
    ·
      refine ao_ (qo0 1 [] [3, 5] [(32, .slice ps (0 + (min m 8)) cs)] (cD (.bool true) (fun args w => Tryd.call6 args w) (fun w hw => by have := gmay_t ps (0 + (min m 8)) cs sl w (SlO.sub hsO hw (List.Sublist.trans (List.sublist_append_left Ys _) (List.sublist_append_right Y21 _))) hsO.len (by have := hsO.len; have := hsl9; omega) hgs (tab_kept hT hw.below); rw [hall_is hI hsl8 hS21, decide_eq_true (by omega)] at this; exact this) (qo 4 [(4, .yes), (5, .eqs false)] [3, 5] [(37, .bool false)] ([((n21 : Nat) : Int) = (0 : Int)] ++ ([EqRun Tryd.prog .neq 4 (.tmp 33) (.tmp 36) (.bool true) (.bool true) false])) (alA (al1 q23) (al1 (bool_ne true true))) (on_ (ds_ (f_ (at_skip (ds_ (sq_ (qa0 [] [3, 5] [(6, .int .u32 0)] (ds_ (sq_ (sq_ (qa0 [] [3, 5, 6] [(38, .slice q21 n21 c21), (39, .int .i64 (n21 : Nat)), (40, .int .i64 0)] (ds_ (at_block ?_))))))))))))))))
      have hbe := hS21.1 hri
      refine at_loop (α := Nat × Int) [3, 5, 6, 38, 39, 40] (fun ⟨j, u⟩ => [(3, .slice ps (0 + (min m 8)) cs), (5, .slice q21 n21 c21), (6, .int .u32 u), (38, .slice q21 n21 c21), (39, .int .i64 (n21 : Nat)), (40, .int .i64 (j : Nat))]) (fun ⟨j, u⟩ => (Y21 ++ (Ys ++ []))) (fun ⟨j, u⟩ => j ≤ n21 ∧ u = unionL (sl.map CpuA.s) (r21.take j)) (fun ⟨j, u⟩ => n21 - j) (0, 0) (by kernel_rfl) rfl ⟨Nat.zero_le _, rfl⟩ ?_
      rintro ⟨j, u⟩
      rintro ⟨hj, hu⟩
      refine sq_ ?_
      by_cases q29 : ((j : Nat) : Int) < ((n21 : Nat) : Int)
      ·
        refine qa [(0, .yes)] [3, 5, 6, 38, 39, 40] [(41, .bool true)] ([((j : Nat) : Int) < ((n21 : Nat) : Int)]) (al1 q29) (ds_ (sq_ (t_ (at_skip (ds_ (sq_ (at_block (sq_ ?_))))))))
        have hln32 := hO21.len
        obtain ⟨g32, cs32, rfl, rfl, hOw32⟩ := hO21.rowOf (i := j) (by omega)
        obtain ⟨x34, hx34⟩ := get_some (l := r21) (m := j) (by omega)
        have hbx34 := (best_facts hbe (by omega)).1.bnd x34 (List.mem_of_getElem? hx34)
        rw [List.length_map] at hbx34
        refine qa [(0, .at g32 0 j), (1, .go (ownps 0 (0 + j * 1) [.int .i64 x34]))] [3, 5, 6, 38, 39, 40] [(8, .int .i64 x34)] ([(some ⟨g32, 0, none⟩ : Option Addr) = some ⟨g32, 0, none⟩, (j : Nat) = ((j : Nat) : Int), j < n21] ++ (acellsP cs32 (0 + j * 1) [.int .i64 x34])) (alA (al2 rfl (al2 rfl (al1 (by omega)))) (rda_pre (hOw32.rdx hO21.len hx34) _ rfl)) (ds_ (sq_ (sq_ ?_)))
        by_cases q37 : (x34 : Int) < (0 : Int)
        ·
          refine qa [(1, .yes)] [3, 5, 6, 8, 38, 39, 40] [(51, .bool true)] ([(x34 : Int) < (0 : Int)]) (al1 q37) (ds_ (t_ (sq_ (qa0 [] [] [(2, .bool false)] (ds_ (rt ([]) (.bool false) ?_))))))
          exfalso
          omega
        ·
          by_cases q41 : (x34 : Int) ≥ ((0 + (min m 8) : Nat) : Int)
          ·
            refine qa [(1, .no), (6, .yes)] [3, 5, 6, 8, 38, 39, 40] [(51, .bool true)] ([¬ ((x34 : Int) < (0 : Int))] ++ ([(x34 : Int) ≥ ((0 + (min m 8) : Nat) : Int)])) (alA (al1 q37) (al1 q41)) (ds_ (t_ (sq_ (qa0 [] [] [(2, .bool false)] (ds_ (rt ([]) (.bool false) ?_))))))
            exfalso
            omega
          ·
            refine qa [(1, .no), (6, .no)] [3, 5, 6, 8, 38, 39, 40] [(51, .bool false)] ([¬ ((x34 : Int) < (0 : Int))] ++ ([¬ ((x34 : Int) ≥ ((0 + (min m 8) : Nat) : Int))])) (alA (al1 q37) (al1 q41)) (ds_ (f_ (at_skip (ds_ ?_))))
            have hln46 := hsO.len
            obtain ⟨g46, cs46, rfl, rfl, hOw46⟩ := hsO.rowOf (i := (x34).toNat) (by omega)
            obtain ⟨x48, hx48⟩ := get_some (l := sl) (m := (x34).toNat) (by omega)
            refine ao_ (qo 5 [(3, .at g46 0 ((x34).toNat)), (4, .go (ownps 1 (0 + ((x34).toNat) * 1) [.int .u32 x48.s]))] [3, 5, 38, 39, 40] [(52, .int .u32 u), (56, .int .u32 x48.s)] ([(some ⟨g46, 0, none⟩ : Option Addr) = some ⟨g46, 0, none⟩, x34 = (((x34).toNat : Nat) : Int), (x34).toNat < 0 + (min m 8)] ++ (acellsP cs46 (0 + ((x34).toNat) * 1) [.int .u32 x48.s])) (alA (al2 rfl (al2 (by omega) (al1 (by omega)))) (rda_pre (hOw46.rdx hsO.len hx48) _ rfl)) (ops_opv (.int .u32 (orV u x48.s)) (by kernel_rfl) (by kernel_rfl) (by kernel_rfl) (fun w => run_or (a := u) (b := x48.s) (orV u x48.s) rfl (by kernel_rfl) (by kernel_rfl) rfl w) (qo0 1 [] [3, 5, 38, 39, 40] [(6, .int .u32 (orV u x48.s))] (on_ (done_block (ds_ (qa [(0, .fit)] [3, 5, 6, 38, 39] [(40, .int .i64 (j + 1 : Nat))] ([Fit .i64 ((j + 1 : Nat))]) (al1 (fit64 (by omega) (by omega))) ?_)))))))
            exact dr [3, 5, 6, 38, 39, 40] (j + 1, (orV u x48.s)) ⟨by omega, by rw [hu]; exact un_on hx34 hx48⟩
      ·
        refine qa [(0, .no)] [3, 5, 6, 38, 39, 40] [(41, .bool false)] ([¬ (((j : Nat) : Int) < ((n21 : Nat) : Int))]) (al1 q29) (ds_ (sq_ (f_ (at_leave _ rfl (ds_ (sq_ (qa [(2, .yes)] [] [(2, .bool true)] ([((n21 : Nat) : Int) = (0 : Int)]) (al1 q23) (ds_ (rt ([]) (.bool true) ?_)))))))))
        exact fun w' hw => ⟨rfl, hw.below⟩
    ·
      refine ao_ (qo0 1 [] [3, 5] [(32, .slice ps (0 + (min m 8)) cs)] (cD (.bool false) (fun args w => Tryd.call6 args w) (fun w hw => by have := gmay_t ps (0 + (min m 8)) cs sl w (SlO.sub hsO hw (List.Sublist.trans (List.sublist_append_left Ys _) (List.sublist_append_right Y21 _))) hsO.len (by have := hsO.len; have := hsl9; omega) hgs (tab_kept hT hw.below); rw [hall_is hI hsl8 hS21, decide_eq_false (by omega)] at this; exact this) (qo 4 [(4, .no), (5, .eqs false)] [3, 5] [(37, .bool false)] ([¬ (((n21 : Nat) : Int) = (0 : Int))] ++ ([EqRun Tryd.prog .neq 4 (.tmp 33) (.tmp 36) (.bool false) (.bool false) false])) (alA (al1 q23) (al1 (bool_ne false false))) (on_ (ds_ (f_ (at_skip (ds_ (sq_ (qa0 [] [3, 5] [(6, .int .u32 0)] (ds_ (sq_ (sq_ (qa0 [] [3, 5, 6] [(38, .slice q21 n21 c21), (39, .int .i64 (n21 : Nat)), (40, .int .i64 0)] (ds_ (at_block ?_))))))))))))))))
      have hbe := hS21.1 hri
      refine at_loop (α := Nat × Int) [3, 5, 6, 38, 39, 40] (fun ⟨j, u⟩ => [(3, .slice ps (0 + (min m 8)) cs), (5, .slice q21 n21 c21), (6, .int .u32 u), (38, .slice q21 n21 c21), (39, .int .i64 (n21 : Nat)), (40, .int .i64 (j : Nat))]) (fun ⟨j, u⟩ => (Y21 ++ (Ys ++ []))) (fun ⟨j, u⟩ => j ≤ n21 ∧ u = unionL (sl.map CpuA.s) (r21.take j)) (fun ⟨j, u⟩ => n21 - j) (0, 0) (by kernel_rfl) rfl ⟨Nat.zero_le _, rfl⟩ ?_
      rintro ⟨j, u⟩
      rintro ⟨hj, hu⟩
      refine sq_ ?_
      by_cases q59 : ((j : Nat) : Int) < ((n21 : Nat) : Int)
      ·
        refine qa [(0, .yes)] [3, 5, 6, 38, 39, 40] [(41, .bool true)] ([((j : Nat) : Int) < ((n21 : Nat) : Int)]) (al1 q59) (ds_ (sq_ (t_ (at_skip (ds_ (sq_ (at_block (sq_ ?_))))))))
        have hln62 := hO21.len
        obtain ⟨g62, cs62, rfl, rfl, hOw62⟩ := hO21.rowOf (i := j) (by omega)
        obtain ⟨x64, hx64⟩ := get_some (l := r21) (m := j) (by omega)
        have hbx64 := (best_facts hbe (by omega)).1.bnd x64 (List.mem_of_getElem? hx64)
        rw [List.length_map] at hbx64
        refine qa [(0, .at g62 0 j), (1, .go (ownps 0 (0 + j * 1) [.int .i64 x64]))] [3, 5, 6, 38, 39, 40] [(8, .int .i64 x64)] ([(some ⟨g62, 0, none⟩ : Option Addr) = some ⟨g62, 0, none⟩, (j : Nat) = ((j : Nat) : Int), j < n21] ++ (acellsP cs62 (0 + j * 1) [.int .i64 x64])) (alA (al2 rfl (al2 rfl (al1 (by omega)))) (rda_pre (hOw62.rdx hO21.len hx64) _ rfl)) (ds_ (sq_ (sq_ ?_)))
        by_cases q67 : (x64 : Int) < (0 : Int)
        ·
          refine qa [(1, .yes)] [3, 5, 6, 8, 38, 39, 40] [(51, .bool true)] ([(x64 : Int) < (0 : Int)]) (al1 q67) (ds_ (t_ (sq_ (qa0 [] [] [(2, .bool false)] (ds_ (rt ([]) (.bool false) ?_))))))
          exfalso
          omega
        ·
          by_cases q71 : (x64 : Int) ≥ ((0 + (min m 8) : Nat) : Int)
          ·
            refine qa [(1, .no), (6, .yes)] [3, 5, 6, 8, 38, 39, 40] [(51, .bool true)] ([¬ ((x64 : Int) < (0 : Int))] ++ ([(x64 : Int) ≥ ((0 + (min m 8) : Nat) : Int)])) (alA (al1 q67) (al1 q71)) (ds_ (t_ (sq_ (qa0 [] [] [(2, .bool false)] (ds_ (rt ([]) (.bool false) ?_))))))
            exfalso
            omega
          ·
            refine qa [(1, .no), (6, .no)] [3, 5, 6, 8, 38, 39, 40] [(51, .bool false)] ([¬ ((x64 : Int) < (0 : Int))] ++ ([¬ ((x64 : Int) ≥ ((0 + (min m 8) : Nat) : Int))])) (alA (al1 q67) (al1 q71)) (ds_ (f_ (at_skip (ds_ ?_))))
            have hln76 := hsO.len
            obtain ⟨g76, cs76, rfl, rfl, hOw76⟩ := hsO.rowOf (i := (x64).toNat) (by omega)
            obtain ⟨x78, hx78⟩ := get_some (l := sl) (m := (x64).toNat) (by omega)
            refine ao_ (qo 5 [(3, .at g76 0 ((x64).toNat)), (4, .go (ownps 1 (0 + ((x64).toNat) * 1) [.int .u32 x78.s]))] [3, 5, 38, 39, 40] [(52, .int .u32 u), (56, .int .u32 x78.s)] ([(some ⟨g76, 0, none⟩ : Option Addr) = some ⟨g76, 0, none⟩, x64 = (((x64).toNat : Nat) : Int), (x64).toNat < 0 + (min m 8)] ++ (acellsP cs76 (0 + ((x64).toNat) * 1) [.int .u32 x78.s])) (alA (al2 rfl (al2 (by omega) (al1 (by omega)))) (rda_pre (hOw76.rdx hsO.len hx78) _ rfl)) (ops_opv (.int .u32 (orV u x78.s)) (by kernel_rfl) (by kernel_rfl) (by kernel_rfl) (fun w => run_or (a := u) (b := x78.s) (orV u x78.s) rfl (by kernel_rfl) (by kernel_rfl) rfl w) (qo0 1 [] [3, 5, 38, 39, 40] [(6, .int .u32 (orV u x78.s))] (on_ (done_block (ds_ (qa [(0, .fit)] [3, 5, 6, 38, 39] [(40, .int .i64 (j + 1 : Nat))] ([Fit .i64 ((j + 1 : Nat))]) (al1 (fit64 (by omega) (by omega))) ?_)))))))
            exact dr [3, 5, 6, 38, 39, 40] (j + 1, (orV u x78.s)) ⟨by omega, by rw [hu]; exact un_on hx64 hx78⟩
      ·
        refine qa [(0, .no)] [3, 5, 6, 38, 39, 40] [(41, .bool false)] ([¬ (((j : Nat) : Int) < ((n21 : Nat) : Int))]) (al1 q59) (ds_ (sq_ (f_ (at_leave _ rfl (ds_ (sq_ ?_))))))
        rw [List.take_of_length_le (by omega)] at hu
        have hus := union_spec hmm r21
        rw [← hu] at hus
        have hbf := best_facts hbe (by omega)
        have hst := of_decide_eq_true hbf.2
        rw [← hu] at hst
        refine ao_ (qo 5 [(2, .no)] [5] [(62, .bool false), (63, .int .u32 u)] ([¬ (((n21 : Nat) : Int) = (0 : Int))]) (al1 q23) (cD (.int .i64 (Lib.pop8 u)) (fun args w => Tryd.call11 args w) (fun w hw => count_t u w hus.1 hus.2.1) (qo 5 [(8, .yes)] [62] [(68, .bool true), (69, .slice q21 n21 c21)] ([((Lib.pop8 u) : Int) < ((n21 : Nat) : Int)]) (al1 (by omega)) (cD (.bool true) (fun args w => Tryd.call12 args w) (fun w hw => sorted_t q21 n21 c21 r21 w (hO21.atN (A := []) hw) hO21.len (by omega) hbf.1.ris (by omega)) (qo0 3 [] [] [(2, .bool true)] (on_ (ds_ (rt ([]) (.bool true) ?_))))))))
        exact fun w' hw => ⟨rfl, hw.below⟩
end Go.Proofs.YtahccegfahghfaaDoor

/-! The walker: what a row's inputs are: slices and structs, opened into lists. -/
namespace Go.Proofs.YtahccegfahghfaaDoor
open Go Go.RowKit

section
variable {H : Type} {enc : TypeId × Value → H} {P : Program} {w : World} {base : Nat} {spare : Nat → Bool} {held : Bool}
theorem spot_none {a : Addr} (h : a.spot = none) : a = ⟨a.block, a.off, none⟩ := by
  cases a
  simp at h
  simp [h]
theorem trod_sv {α : Type} [Enc α] {t e : TypeId} {fuel : Nat} {cs : List Value} {x : DataW H × List MemPlace} {Good : α → Prop} (ht : P.underlying t = some (.slice e)) (hc : P.cellsOf e = Enc.k α)
    (hopen : ∀ (fuel : Nat) (cs : List Value) (x : DataW H × List MemPlace), DataW.trod enc P w base spare held fuel e cs = some x → ∃ a : α, cs = Enc.enc a ∧ Good a) (h : DataW.trod enc P w base spare held fuel t cs = some x) :
    ∃ (p : Option Addr) (n cap : Nat) (l : List α), cs = [.slice p n cap] ∧ Sv w p l ∧ n = l.length ∧ n ≤ cap ∧ cap ≤ maxLen ∧ ∀ y ∈ l, Good y := by
  rcases Deep.open_slice ht h with ⟨hcs, _⟩ | ⟨a, len, cap, m, n', D, Pl, hcs, _, hle, hmx, hm, _, hi⟩
  · exact ⟨none, 0, 0, [], hcs, Sv.nil, rfl, Nat.le_refl _, Nat.zero_le _, fun y hy => by cases hy⟩
  · have key : ∀ i, i < len → ∃ y : α, w.cells? base (a.add (i * Enc.k α)) (Enc.k α) = some (Enc.enc y) ∧ Good y := fun i hin => by
      have him : i < m := by rw [hm]; split <;> omega
      obtain ⟨cs', h1, h2⟩ := hi i him
      obtain ⟨y, rfl, hy⟩ := hopen _ _ _ h2
      rw [hc] at h1
      exact ⟨y, h1, hy⟩
    rcases Nat.eq_zero_or_pos len with h0 | h0
    · subst h0
      exact ⟨some a, 0, cap, [], hcs, Sv.nil, rfl, hle, hmx, fun y hy => by cases hy⟩
    · obtain ⟨y0, hy0, _⟩ := key 0 h0
      haveI : Inhabited α := ⟨y0⟩
      obtain ⟨f, hf⟩ := Deep.choose_lt key
      obtain ⟨_, _, hcell⟩ := World.cells?_some hy0
      have h00 := hcell 0 Enc.pos
      have hlen0 : 0 < (Enc.enc y0).length := by rw [Enc.len]; exact Enc.pos
      rw [List.getElem?_eq_getElem hlen0, Nat.zero_mul, show (a.add 0).add 0 = a by simp [Addr.add]] at h00
      have hsp := spot_none (World.cell?_spot h00)
      refine ⟨some a, len, cap, (List.range len).map f, hcs, ⟨fun _ => ⟨a.block, a.off, by rw [← hsp]⟩, fun b o hbo i hil => ?_⟩, by simp, hle, hmx, fun y hy => ?_⟩
      · have hil' : i < len := by simpa using hil
        obtain ⟨_, _, hc2⟩ := World.cells?_some (hf i hil').1
        have ha : a = ⟨b, o, none⟩ := by simpa using hbo
        subst ha
        intro j v hj
        have hjk : j < Enc.k α := by rw [← Enc.len (f i)]; have := (List.getElem?_eq_some_iff.1 hj).1; simpa using this
        have h3 := hc2 j hjk
        rw [Deep.add_add] at h3
        have h4 : (Enc.enc (f i))[j]? = some v := by simpa using hj
        rw [h4] at h3
        have h5 : (⟨b, o, none⟩ : Addr).add (i * Enc.k α + j) = ⟨b, o + i * Enc.k α + j, none⟩ := by
          unfold Addr.add; split <;> simp_all <;> omega
        rw [h5] at h3
        exact h3
      · obtain ⟨i, hir, rfl⟩ := List.mem_map.1 hy
        exact (hf i (List.mem_range.1 hir)).2
end
end Go.Proofs.YtahccegfahghfaaDoor

/-! Sets, opened; what the listed table holds. -/
namespace Go.Proofs.YtahccegfahghfaaDoor
open Go Go.RowKit Go.ChangeShapes Go.WideShapes Go.ChangeAt
section
variable {H : Type} {enc : TypeId × Value → H} {w : World} {base : Nat} {spare : Nat → Bool} {held : Bool}
theorem cCpuT : Tryd.prog.cellsOf 31 = 1 := by kernel_rfl
set_option maxRecDepth 100000 in
theorem cpu_open {fuel : Nat} {cs : List Value} {x : DataW H × List MemPlace} (h : DataW.trod enc Tryd.prog w base spare held fuel 31 cs = some x) : ∃ a : CpuA, cs = Enc.enc a ∧ a.Good := by
  obtain ⟨n, e, _, hf⟩ := DataW.trod_int Tryd.underlying31 h
  simp only [Lit.wf, Bool.and_eq_true, decide_eq_true_eq] at hf
  have h1 : (0 : Int) ≤ n := hf.1
  have h2 : n ≤ 4294967295 := hf.2
  exact ⟨⟨n⟩, e, ⟨h1, by show n < 4294967296; omega⟩⟩
set_option maxRecDepth 100000 in
theorem masks_open {v : Value} {d : DataW H} {pl : List MemPlace} (hv : Value.okWide Tryd.prog w .any base 24 v) (h : DataW.Trod enc Tryd.prog w 0 spare held 24 v d pl) :
    ∃ (q : Option Addr) (m cap : Nat) (l : List CpuA), v = .slice q m cap ∧ Sv w q l ∧ m = l.length ∧ m ≤ cap ∧ cap ≤ 9223372036854775807 ∧ ∀ x ∈ l, x.Good := by
  obtain ⟨a, n, c, rfl⟩ := okWide_slice Tryd.underlying24 hv
  obtain ⟨fuel, hf⟩ := h
  obtain ⟨p, m, cap, l, he, hs, hn, hle, hmx, hg⟩ := trod_sv (α := CpuA) (Good := fun x => x.Good) Tryd.underlying24 cCpuT (fun _ _ _ h => cpu_open h) hf
  have : a = p ∧ n = m ∧ c = cap := by simpa [Value.cells] using he
  obtain ⟨rfl, rfl, rfl⟩ := this
  exact ⟨a, n, c, l, rfl, hs, hn, hle, hmx, hg⟩
end
abbrev laidTab : List (String × DataW Unit) := [("math/bits.deBruijn32tab", Rows.laid_math_bits_deBruijn32tab)]
theorem gTab : Tryd.prog.globalNamed "math/bits.deBruijn32tab" = some 0 := by kernel_rfl
theorem tTab : (Tryd.prog.globals[0]?).map (·.type) = some 95 := by kernel_rfl
theorem cU8T : Tryd.prog.cellsOf 5 = 1 := by kernel_rfl
theorem door_met (os : Os) (args : Array Value) : laidMetH Tryd.prog laidTab ((World.doorLaid Tryd.prog 400 os).forCall (fun _ _ => 0) ⟨#[], args, []⟩).memory :=
  laidMetH_of_parts3 (fuel := 8) (laidMet_of_run' 8 (by kernel_rfl) (by kernel_rfl)) (by kernel_rfl) (by kernel_rfl)
/-- What the condition gives the walks. -/
theorem tab_of_laid {W : World} (h : laidMetH Tryd.prog laidTab W) : Go.Proofs.TabAt 0 Lib.deBruijn32tab W := by
  rw [MakeChecks.laidMetH_plain _ _ _ (by kernel_rfl)] at h
  obtain ⟨ps, ⟨g0, t0, cs0, f0, p0, q0, hg0, ht0, hv0, hd0, _, _⟩, _, _⟩ := h
  obtain rfl := Option.some.inj (gTab.symm.trans hg0)
  obtain rfl := Option.some.inj (tTab.symm.trans ht0)
  intro j hj
  have hj32 : j < 32 := hj
  obtain ⟨xs, m1, rfl, hx1, hlen, hn3, hel⟩ := DataW.trod_array Tryd.underlying95 hd0
  have h0 := hel j hj32
  rw [cU8T, Nat.mul_one] at h0
  have hjx : j < xs.length := by omega
  rw [List.getElem?_eq_getElem hjx] at h0
  obtain ⟨k, e1, e2, _⟩ := DataW.trod_int Tryd.underlying5 h0
  have e3 : (xs.map (·.1))[j]? = some (.lit (.int .u8 k)) := by rw [List.getElem?_map, List.getElem?_eq_getElem hjx, e2]; rfl
  have e4 : xs.map (·.1) = Lib.deBruijn32tab.map fun n : Nat => (.lit (.int .u8 n) : DataW Unit) := by
    have := congrArg Prod.fst hx1
    have h5 : DataW.agg (Lib.deBruijn32tab.map fun n : Nat => (.lit (.int .u8 n) : DataW Unit)) = .agg (xs.map (·.1)) := this
    injection h5 with h5
    exact h5.symm
  rw [e4, List.getElem?_map] at e3
  have e5 : (k : Int) = ((Lib.deBruijn32tab.getD j 0 : Nat) : Int) := by
    rw [List.getElem?_eq_getElem (show j < Lib.deBruijn32tab.length from hj)] at e3
    simp only [Option.map_some, Option.some.injEq, DataW.lit.injEq, Lit.int.injEq] at e3
    rw [List.getD_eq_getElem?_getD, List.getElem?_eq_getElem (show j < Lib.deBruijn32tab.length from hj)]
    exact e3.2.symm
  have e6 : cs0.toList[j]? = some (.int .u8 k) := by
    have := congrArg (fun l : List Value => l[0]?) e1
    simpa [List.getElem?_take, List.getElem?_drop] using this
  rw [World.var?_cell gTab hv0 j, ← Array.getElem?_toList, e6, e5]
end Go.Proofs.YtahccegfahghfaaDoor
