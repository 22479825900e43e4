/- Texts of this proof, one behind the other. -/
import Derived.Test.YtoljahfofkmdaaaZa
import Derived.MapKept
import Derived.Laws.MakeOwn
import Derived.Test.YtoljahfofkmdaaaProg
import Derived.WalkKit
import Derived.Lib.Hide
import Derived.BigRegion
import Derived.BigQuiet
import Derived.Deep.QuietTactic
import Derived.KernelRfl
import Derived.Deep.WholeRow
import Derived.Laws.CopyOwn
import Derived.WalkSmall
import Derived.ChangeKeysEq
import Derived.StillTailTactics
import Derived.Lib.OthersKept
import Derived.Laws.RangeAny
import Derived.LoopTactic
import Derived.Lib.Tables
/-! The walker: maps of one's own with whole numbers for keys. -/
namespace Go.Proofs.Ytoljahfofkmdaaa
open Go Go.RowKit

/-- What a map holds: its entries, the oldest first. -/
def mget {β : Type} : List (Int × β) → Int → Option β
  | [], _ => none
  | p :: D, k => if p.1 = k then some p.2 else mget D k
def mupd {β : Type} : List (Int × β) → Int → β → List (Int × β)
  | [], k, v => [(k, v)]
  | p :: D, k, v => if p.1 = k then (k, v) :: D else p :: mupd D k v
structure MapIs {β : Type} (ik : IntKind) (enc : β → Value) (es : Array MapEntry) (D : List (Int × β)) : Prop where
  keys : es.toList.map (fun e => (e.key, e.val)) = D.map fun p => (.int ik p.1, enc p.2)
section
variable {β : Type} {ik : IntKind} {enc : β → Value} {es : Array MapEntry} {D : List (Int × β)} {k : Int} {v : β} {ck : Nat}
theorem MapIs.nil : MapIs ik enc #[] ([] : List (Int × β)) := ⟨rfl⟩
theorem MapIs.size (h : MapIs ik enc es D) : es.size = D.length := by
  have := congrArg List.length h.keys
  simpa using this
theorem findNow_is : ∀ (l : List MapEntry) (D : List (Int × β)) (i : Nat), l.map (fun e => (e.key, e.val)) = D.map (fun p => (Value.int ik p.1, enc p.2)) →
    (Instr.findNow (.int ik) (.int ik k) l i = some none ∧ mget D k = none ∧ ∀ u, mupd D k u = D ++ [(k, u)]) ∨
    ∃ j b, Instr.findNow (.int ik) (.int ik k) l i = some (some (i + j, enc b)) ∧ mget D k = some b ∧ j < D.length ∧ (D[j]?).map (·.1) = some k ∧ ∀ u, mupd D k u = D.set j (k, u)
  | [], [], i, _ => .inl ⟨rfl, rfl, fun _ => rfl⟩
  | [], _ :: _, _, h => by simp at h
  | _ :: _, [], _, h => by simp at h
  | e :: l, p :: D, i, h => by
    simp only [List.map_cons, List.cons.injEq, Prod.mk.injEq] at h
    obtain ⟨⟨h1, h2⟩, h3⟩ := h
    by_cases hk : k = p.1
    · subst hk
      right
      refine ⟨0, p.2, ?_, by simp [mget], by simp, by simp, fun u => by simp [mupd]⟩
      simp [Instr.findNow, h1, Instr.sameNow, h2]
    · have hb : (k == p.1) = false := by simpa using hk
      have hk' : ¬ p.1 = k := fun e => hk e.symm
      rcases findNow_is l D (i + 1) h3 with ⟨a, b, c⟩ | ⟨j, b, a, c, d, e1, f⟩
      · left
        refine ⟨?_, by simp [mget, hk', b], fun u => by simp [mupd, hk', c u]⟩
        simp [Instr.findNow, h1, Instr.sameNow, hb, a]
      · right
        refine ⟨j + 1, b, ?_, by simp [mget, hk', c], by simp; omega, by simpa using e1, fun u => by simp [mupd, hk', f u]⟩
        simp only [Instr.findNow, h1, Instr.sameNow, if_true, hb, a]
        rw [show i + 1 + j = i + (j + 1) by omega]
variable {P : Program} {w : World} {t kt et : TypeId} {r : Nat}
theorem run_lookupM (ht : P.underlying t = some (.map kt et)) (hk : P.underlying kt = some (.int ik)) {i : TypeInfo} {z : Value} (hi : P.info? et = some i) (hz : i.zero = some z) (hb : w.heap[r]? = some (.map es ck)) (hM : MapIs ik enc es D) (c : Bool) :
    (Instr.lookup t (.map (some r)) (.int ik k) c).run P w = .ok (if c then .tuple #[((mget D k).map enc).getD z, .bool (mget D k).isSome] else ((mget D k).map enc).getD z) w := by
  have hck : ∀ e, (Instr.checkKey e 10000 kt (.int ik k)).run P w = .ok () w := fun e => MapKept.run_checkKey (n := 9999) hk (show MapKept.IsKey (.int ik) (.int ik k) from rfl) e
  rcases findNow_is es.toList D 0 hM.keys (k := k) with ⟨a, b, _⟩ | ⟨j, b, a, c', _, _, _⟩
  · have hf := MapKept.run_findKey (P := P) (w := w) (kt := kt) hk a
    cases c <;> simp [Instr.lookup, run_underlying ht, MapKept.run_getObj_map hb, hck, hf, zeroValue, typeInfo, hi, hz, b]
  · have hf := MapKept.run_findKey (P := P) (w := w) (kt := kt) hk a
    cases c <;> simp [Instr.lookup, run_underlying ht, MapKept.run_getObj_map hb, hck, hf, c']
theorem run_updateM (ht : P.underlying t = some (.map kt et)) (hk : P.underlying kt = some (.int ik)) (hb : w.heap[r]? = some (.map es ck)) (hM : MapIs ik enc es D) (v : β) :
    ∃ es' ck', (Instr.mapUpdate t (.map (some r)) (.int ik k) (enc v)).run P w = .ok () { w with heap := w.heap.setIfInBounds r (.map es' ck') } ∧ MapIs ik enc es' (mupd D k v) := by
  have hkk : MapKept.IsKey (.int ik) (.int ik k) := rfl
  have hck : ∀ e, (Instr.checkKey e 10000 kt (.int ik k)).run P w = .ok () w := fun e => MapKept.run_checkKey (n := 9999) hk hkk e
  rcases findNow_is es.toList D 0 hM.keys (k := k) with ⟨a, _, b⟩ | ⟨j, b, a, c', hj, hjk, d⟩
  · have hf := MapKept.run_findKey (P := P) (w := w) (kt := kt) hk a
    refine ⟨es.push ⟨.int ik k, enc v, ck⟩, ck + 1, ?_, ⟨?_⟩⟩
    · simp [Instr.mapUpdate, run_underlying ht, MapKept.run_getObj_map hb, hck, hf, MapKept.run_setObj_map _ hb]
    · rw [b v, Array.toList_push, List.map_append, List.map_append, hM.keys]; rfl
  · have hf := MapKept.run_findKey (P := P) (w := w) (kt := kt) hk a
    have hsz := hM.size
    have hjs : j < es.size := by omega
    have hkey : es[j].key = .int ik k := by
      have h1 := congrArg (fun z => z[j]?) hM.keys
      simp only [List.getElem?_map, Array.getElem?_toList, Array.getElem?_eq_getElem hjs, Option.map_some] at h1
      rcases hD : D[j]? with _ | p
      · rw [hD] at hjk; cases hjk
      · rw [hD] at hjk h1
        simp only [Option.map_some, Option.some.injEq, Prod.mk.injEq] at hjk h1
        rw [h1.1, hjk]
    refine ⟨es.modify j fun e => { e with key := .int ik k, val := enc v }, ck, ?_, ⟨?_⟩⟩
    · have hj2 : es[j]? = some es[j] := Array.getElem?_eq_getElem hjs
      simp only [Nat.zero_add] at hf
      simp [Instr.mapUpdate, run_underlying ht, MapKept.run_getObj_map hb, hck, hf, hj2, hkey, MapKept.run_keyThatStays hkk, MapKept.run_setObj_map _ hb]
    · rw [d v]
      apply List.ext_getElem?
      intro i
      rw [List.getElem?_map, List.getElem?_map, Array.getElem?_toList, Array.getElem?_modify, List.getElem?_set]
      have h1 := congrArg (fun z => z[i]?) hM.keys
      simp only [List.getElem?_map, Array.getElem?_toList] at h1
      by_cases hij : j = i
      · subst hij
        rw [if_pos rfl, if_pos rfl, if_pos hj, Array.getElem?_eq_getElem hjs]; rfl
      · rw [if_neg hij, if_neg hij, h1]
end

section
variable {E : Env} {k : List Fr} {l : Sl} {L : List Ob} {all os : List Oper} {o : Oper} {i : Nat}
/-- A map's type, asked by the kernel. -/
def mapB (P : Program) (t : TypeId) (ik : IntKind) (z : Value) : Prop := ∃ kt et, P.underlying t = some (.map kt et) ∧ P.underlying kt = some (.int ik) ∧ (P.info? et).bind (fun i => i.zero) = some z
theorem map_getD {β : Type} (f : β → Value) (o : Option β) (z : β) : (o.map f).getD (f z) = f (o.getD z) := by cases o <;> rfl
theorem ops_lookup {β : Type} {ik : IntKind} {enc : β → Value} {es : Array MapEntry} {ck : Nat} {D : List (Int × β)} (j : Nat) {t : TypeId} {x y : Operand} {c : Bool} {g : Nat} {kk : Int} (z u : Value) (ho : o.op = .lookup t x y c) (hw : wantL all l o = some true) (hd : (okD E.n o.dst && knownO l o) = true)
    (hx : look l x = .map (some g)) (hy : look l y = .int ik kk) (hT : mapB E.P t ik z) (hj : L[j]? = some (g, .map es ck)) (hM : MapIs ik enc es D) (hu : (if c then .tuple #[((mget D kk).map enc).getD z, .bool (mget D kk).isSome] else ((mget D kk).map enc).getD z) = u)
    (h : Ops E k all os (i + 1) (putL o.dst u l) L) : Ops E k all (o :: os) i l L := by
  obtain ⟨kt, et, h1, h2, h34⟩ := hT
  obtain ⟨inf, h3, h4⟩ := Option.bind_eq_some_iff.1 h34
  refine ⟨fun a w ha hs => ?_⟩
  simp only [Bool.and_eq_true] at hd
  have hg := wantL_spec ha hw
  refine wpListIn_step fun K hK => ?_
  rw [if_pos hg]
  refine ⟨fun _ _ => trivial, ?_⟩
  rw [Oper.semAt_eq _ _ _ (fun c e => by rw [ho] at e; cases e), look_exec ha hd.2]
  have hr := run_lookupM h1 h2 h3 h4 (hs.row j hj) hM (k := kk) c
  have e : (execOp (look l) o).run E.P w = .ok (.value u) w := by
    simp [execOp, ho, hx, hy, hr, hu]
  rw [e]
  exact hK _ _ (h.out _ _ (ha.put hd.1 _) hs)
theorem ops_update {β : Type} {ik : IntKind} {enc : β → Value} {es : Array MapEntry} {ck : Nat} {D : List (Int × β)} (j : Nat) {t : TypeId} {x y v : Operand} {g : Nat} {kk : Int} (b : β) (z : Value) (ho : o.op = .mapUpdate t x y v) (hw : wantL all l o = some true) (hd : (okD E.n o.dst && knownO l o) = true)
    (hx : look l x = .map (some g)) (hy : look l y = .int ik kk) (hv : look l v = enc b) (hT : mapB E.P t ik z) (hj : L[j]? = some (g, .map es ck)) (hM : MapIs ik enc es D)
    (h : ∀ es' ck', MapIs ik enc es' (mupd D kk b) → Ops E k all os (i + 1) (putL o.dst undef l) (L.set j (g, .map es' ck'))) : Ops E k all (o :: os) i l L := by
  obtain ⟨kt, et, h1, h2, h34⟩ := hT
  obtain ⟨inf, h3, h4⟩ := Option.bind_eq_some_iff.1 h34
  refine ⟨fun a w ha hs => ?_⟩
  simp only [Bool.and_eq_true] at hd
  have hg := wantL_spec ha hw
  refine wpListIn_step fun K hK => ?_
  rw [if_pos hg]
  refine ⟨fun _ _ => trivial, ?_⟩
  rw [Oper.semAt_eq _ _ _ (fun c e => by rw [ho] at e; cases e), look_exec ha hd.2]
  obtain ⟨es', ck', hr, hM'⟩ := run_updateM h1 h2 (hs.row j hj) hM (k := kk) b
  have e : (execOp (look l) o).run E.P w = .ok .skip { w with heap := w.heap.setIfInBounds g (.map es' ck') } := by
    simp [execOp, ho, hx, hy, hv, hr]
  rw [e]
  exact hK _ _ ((h es' ck' hM').out _ _ (ha.put hd.1 _) (hs.turn j hj (turn_obj (hs.row j hj) _)))
end
end Go.Proofs.Ytoljahfofkmdaaa

/-! The walker: make; append within one's own row; what a deletion of a stretch leaves; m[k]++. -/
namespace Go.Proofs.Ytoljahfofkmdaaa
open Go Go.RowKit

section
variable {E : Env} {k : List Fr} {l : Sl} {L : List Ob} {all os : List Oper} {o : Oper} {i : Nat}
end
section
variable {α : Type} [Enc α] {l : List α} {i i2 n cap : Nat} {cs c2 : Array Value}
end
/-! ### m[k]++ -/
section
variable {β : Type} {ik : IntKind} {enc : β → Value} {es : Array MapEntry} {D : List (Int × β)} {k : Int} {ck : Nat} {P : Program} {w : World} {t kt et : TypeId} {r : Nat}
/-- The entries' stamps: all apart, below the clock. -/
def Stamps (es : Array MapEntry) (ck : Nat) : Prop := (es.toList.map (·.born)).Nodup ∧ ∀ e ∈ es.toList, e.born < ck
theorem Stamps.nil : Stamps #[] 0 := ⟨by simp, fun _ h => by simp at h⟩
end
end Go.Proofs.Ytoljahfofkmdaaa

/-! The walker: two cells of an element changed in place. -/
namespace Go.Proofs.Ytoljahfofkmdaaa
open Go Go.RowKit
section
variable {α : Type} [Enc α] {l : List α} {x x' : α} {v v' : Value} {i f n cap : Nat} {cs : Array Value}
end
end Go.Proofs.Ytoljahfofkmdaaa

/-! The walker: three cells of an element changed in place. Queues that are changed; plain. -/
namespace Go.Proofs.Ytoljahfofkmdaaa
open Go Go.RowKit
section
variable {α : Type} [Enc α] {l : List α} {x x' : α} {v v' v2 : Value} {i f n cap : Nat} {cs : Array Value}
end
theorem one_tail {w0 w : World} {Y : List Ob} (h : Hs w0 (Y ++ []) w) : Hs w0 Y w := by rwa [List.append_nil] at h
/- places -/
def risI (l : List Int) : Bool := risK (fun x : Int => x) l && l.all idV
def hasQ (ts : List Rn) (k : Int) : Bool := (getK Rn.id ts k).isSome
def posI (ts : List Rn) (k : Int) : Int := (posK Rn.id ts k : Nat)
def placesE (ts : List Rn) (l : List Int) : Int := if risI l = true then (if l.all (hasQ ts) = true then 0 else 4) else 2
def foundE (ts : List Rn) (l : List Int) : Int := if l.all (hasQ ts) = true then 0 else 4
def lastN (l : List Int) (j : Nat) : Int := match j with
  | 0 => 0
  | j + 1 => (l[j]?).getD 0
/- changes -/
def altL (f : Rn → Rn × Int) (ts : List Rn) (l : List Int) : List Rn := ts.map fun r => if r.id ∈ l then (f r).1 else r
def errF (f : Rn → Rn × Int) (ts : List Rn) (k : Int) : Int := match getK Rn.id ts k with
  | some r => (f r).2
  | none => 0
def altE (f : Rn → Rn × Int) (ts : List Rn) : List Int → Int
  | [] => 0
  | k :: ks => if errF f ts k ≠ 0 then errF f ts k else altE f ts ks
def altX (f : Rn → Rn × Int) (ts : List Rn) (e0 : Int) (l : List Int) : Int := if e0 ≠ 0 then e0 else altE f ts l
def alterV (f : Rn → Rn × Int) (ts : List Rn) (ok : Bool) (l : List Int) : List Rn × Int :=
  if chkQ ts = true then (if ok = true then (if altX f ts (placesE ts l) l ≠ 0 then ([], altX f ts (placesE ts l) l) else (altL f ts l, 0)) else ([], 2)) else ([], 200)
section
variable {f : Rn → Rn × Int} {ts : List Rn} {l : List Int} {x y r : Rn} {j i : Nat} {k e e0 la : Int} {ok : Bool}
end
/- what is run, what is weighed -/
def runF (dt : Int) (r : Rn) : Rn × Int := (⟨r.id, r.each, (addV r.t (r.each * dt)).1.hi, (addV r.t (r.each * dt)).1.lo, (addV r.t (r.each * dt)).1.w⟩, (addV r.t (r.each * dt)).2)
def runB (dt : Int) : Bool := decide (0 ≤ dt ∧ dt ≤ 10000000)
def runV (ts : List Rn) (l : List Int) (dt : Int) : List Rn × Int := alterV (runF dt) ts (runB dt) l
def weighF (wt each : Int) (r : Rn) : Rn × Int := (⟨r.id, each, (overV r.t wt).1.hi, (overV r.t wt).1.lo, (overV r.t wt).1.w⟩, (overV r.t wt).2)
def weighV (ts : List Rn) (l : List Int) (wt each : Int) : List Rn × Int := alterV (weighF wt each) ts (wB wt && eachV each) l
end Go.Proofs.Ytoljahfofkmdaaa

/-! Who joins, who leaves; plain. -/
namespace Go.Proofs.Ytoljahfofkmdaaa
open Go Go.RowKit

def maxS (m y : Fq) : Fq := if 0 < cmpF y m then y else m
def maxL : List Fq → Fq
  | [] => zF
  | x :: l => l.foldl maxS x
abbrev greatV (a b : Fq) : Fq := maxS a b
def boundsV (t : Fq) (r : Rn) (boost : Int) : Fq × Fq × Int :=
  if (overV t r.tw).2 ≠ 0 then (zF, zF, (overV t r.tw).2)
  else if (lessV (overV t r.tw).1 (boost * r.each)).2 ≠ 0 then (zF, zF, (lessV (overV t r.tw).1 (boost * r.each)).2)
  else if (raiseV ⟨0, 0, r.tw⟩ t 268435456).2 ≠ 0 then (zF, zF, (raiseV ⟨0, 0, r.tw⟩ t 268435456).2)
  else (greatV (lessV (overV t r.tw).1 (boost * r.each)).1 (raiseV ⟨0, 0, r.tw⟩ t 268435456).1, (overV t r.tw).1, 0)
def timeV (s : Fq × Bool) (r : Rn) (boost : Int) : Fq × Int :=
  if s.2 = true then (if 0 < cmpF (greatV (boundsV s.1 r boost).1 r.t) (boundsV s.1 r boost).2.1 then (boundsV s.1 r boost).2.1 else greatV (boundsV s.1 r boost).1 r.t, (boundsV s.1 r boost).2.2) else (r.t, 0)
abbrev putR (ts : List Rn) (r : Rn) : List Rn := insK Rn.id ts r
def newR (ts : List Rn) (r : Rn) (boost : Int) : Rn := ⟨r.id, r.each, (timeV (topV ts) r boost).1.hi, (timeV (topV ts) r boost).1.lo, (timeV (topV ts) r boost).1.w⟩
def joinV (ts : List Rn) (r : Rn) (boost : Int) : List Rn × Int :=
  if 10000000 < boost then ([], if chkQ ts = true then 2 else 200)
  else if chkQ ts = true then (if rnB r = true then (if (getK Rn.id ts r.id).isSome = true then ([], 5) else if (timeV (topV ts) r boost).2 ≠ 0 then ([], (timeV (topV ts) r boost).2) else (putR ts (newR ts r boost), 0)) else ([], 2)) else ([], 200)
def leaveV (ts : List Rn) (k : Int) : List Rn × Option Rn × Int :=
  if chkQ ts = true then (if idV k = true then (match getK Rn.id ts k with | some r => (delK Rn.id ts k, some r, 0) | none => ([], none, 4)) else ([], none, 2)) else ([], none, 200)
section
variable {a b f t : Fq} {n w s boost k : Int} {ts : List Rn} {r x y : Rn} {l : List Fq} {z : Fq × Bool} {j : Nat}
end
end Go.Proofs.Ytoljahfofkmdaaa

/-! Who is lifted; plain. -/
namespace Go.Proofs.Ytoljahfofkmdaaa
open Go Go.RowKit

def clR (tp : Fq) (r : Rn) : Rn := ⟨r.id, r.each, (raiseV r.t tp 268435456).1.hi, (raiseV r.t tp 268435456).1.lo, (raiseV r.t tp 268435456).1.w⟩
def clE (tp : Fq) (r : Rn) : Int := (raiseV r.t tp 268435456).2
def chg (tp : Fq) (r : Rn) : Bool := decide (¬ (raiseV r.t tp 268435456).1 = r.t)
def errL (g : Rn → Int) : List Rn → Int
  | [] => 0
  | r :: l => if g r ≠ 0 then g r else errL g l
def mapTo (g : Rn → Rn) (ts : List Rn) (j : Nat) : List Rn := (ts.take j).map g ++ ts.drop j
def outTo (p : Rn → Bool) (ts : List Rn) (j : Nat) : List Int := ((ts.take j).filter p).map Rn.id
def clipV (ts : List Rn) : List Rn × List Int × Int :=
  if chkQ ts = true then (if errL (clE (topV ts).1) ts ≠ 0 then ([], [], errL (clE (topV ts).1) ts) else (ts.map (clR (topV ts).1), (ts.filter (chg (topV ts).1)).map Rn.id, 0)) else ([], [], 200)
section
variable {tp : Fq} {r x : Rn} {ts : List Rn} {g : Rn → Rn} {e : Rn → Int} {p : Rn → Bool} {j : Nat}
end
end Go.Proofs.Ytoljahfofkmdaaa

/-! The walker: a drawn region that acts, whose first operations only look and come up ahead of all others: they are walked once, in the order of the text. -/
namespace Go.Proofs.Ytoljahfofkmdaaa
open Go Go.RowKit

section
variable {P : Program} {ops : Array Oper} {C : (Nat → Bool) → World → Prop} {Q : Array Bool → Act → Prop} {m : Nat}
def lexTo (ops : Array Oper) : Nat → Nat → Array Bool → Bool
  | 0, _, _ => true
  | f + 1, k, listed => (Region.ready .any ops listed).contains k && Region.free .any ops listed k && lexTo ops f (k + 1) (listed.setIfInBounds k true)
def setTo : Nat → Nat → Array Bool → Array Bool
  | 0, _, L => L
  | n + 1, k, L => setTo n (k + 1) (L.setIfInBounds k true)
def wpPre (P : Program) (ops : Array Oper) (m : Nat) (C : (Nat → Bool) → World → Prop) (Q : Array Bool → Act → Prop) : Nat → Array Bool → Act → Prop
  | 0, listed, a => (∀ i ∈ Region.ready .any ops listed, ¬ i < m) ∧ Q listed a
  | f + 1, listed, a => (∃ i ∈ Region.ready .any ops listed, i < m) ∧ ∀ i ∈ Region.ready .any ops listed, i < m → ∃ o v, ops[i]? = some o ∧ Leaves P ops C i o v a ∧ wpPre P ops m C Q f (listed.setIfInBounds i true) (a.put o.dst v)
theorem wpPre_first {i : Nat} {oi : Oper} {v : Value} (him : i < m) (hi : ops[i]? = some oi) (hsel : ∀ (j : Nat) (o : Oper) cs b, ops[j]? = some o → o.op ≠ .select cs b) :
    ∀ (fuel : Nat) (listed : Array Bool) (a : Act),
      (∀ j oj, ops[j]? = some oj → j ≠ i → listed.getD j true = false → (∀ e ∈ oj.after, Region.binds .any e = true → e.on ≠ i) → oi.apart ops oj = true) →
      i ∈ Region.ready .any ops listed → Leaves P ops C i oi v a →
      wpPre P ops m C Q fuel (listed.setIfInBounds i true) (a.put oi.dst v) → wpPre P ops m C Q (fuel + 1) listed a := by
  intro fuel
  induction fuel with
  | zero =>
    intro listed a _ hr hy H
    refine ⟨⟨i, hr, him⟩, fun j hj hjm => ?_⟩
    by_cases hji : j = i
    · subst hji; exact ⟨oi, v, hi, hy, H⟩
    · exact absurd hjm (H.1 j (ready_mono hj hji))
  | succ fuel ih =>
    intro listed a hfree hr hy H
    refine ⟨⟨i, hr, him⟩, fun j hj hjm => ?_⟩
    by_cases hji : j = i
    · subst hji; exact ⟨oi, v, hi, hy, H⟩
    · obtain ⟨oj, u, hoj, hyj, hrest⟩ := H.2 j (ready_mono hj hji) hjm
      obtain ⟨hjun, oj', hoj', hall⟩ := mem_ready.1 hj
      obtain rfl : oj = oj' := Option.some.inj (hoj.symm.trans hoj')
      have hnot : ∀ e ∈ oj.after, Region.binds .any e = true → e.on ≠ i := fun e he hb heq => by
        have h1 := hall e he hb
        have h0 := (mem_ready.1 hr).1
        rw [heq] at h1
        rcases Nat.lt_or_ge i listed.size with h' | h'
        · simp [h'] at h0 h1; rw [h0] at h1; cases h1
        · simp [Array.getElem?_eq_none h'] at h1
      have hap := hfree j oj hoj hji hjun hnot
      obtain ⟨h1, h2, h3⟩ := Oper.apart_spec hap
      have hyj' : Leaves P ops C j oj u a := hyj.of_same (execOp_put oj (fun cs b => hsel j oj cs b hoj) a oi.dst v h1).symm (wanted_put oj a oi.dst v h1).symm
      have hyi' : Leaves P ops C i oi v (a.put oj.dst u) := hy.of_same (execOp_put oi (fun cs b => hsel i oi cs b hi) a oj.dst u h3) (wanted_put oi a oj.dst u h3)
      have hfree' : ∀ k ok, ops[k]? = some ok → k ≠ i → (listed.setIfInBounds j true).getD k true = false →
          (∀ e ∈ ok.after, Region.binds .any e = true → e.on ≠ i) → oi.apart ops ok = true := fun k ok hk hki hun hno => by
        refine hfree k ok hk hki ?_ hno
        by_cases hjk : j = k
        · subst hjk; exact hjun
        · rw [getD_set_ne true hjk] at hun; exact hun
      refine ⟨oj, u, hoj, hyj', ih _ _ hfree' (ready_mono hr (Ne.symm hji)) hyi' ?_⟩
      rw [Array.setIfInBounds_comm _ _ hji, ← Act.put_comm a v u h2]
      exact hrest
theorem wpPre_lex (hs : Region.noSelect ops = true) : ∀ (l : List Oper) (k : Nat) (listed : Array Bool) (a : Act), (∀ j, j < l.length → l[j]? = ops[k + j]?) → k + l.length = m → listed.size = ops.size → (∀ j, j < k → listed.getD j false = true) →
    lexTo ops l.length k listed = true → wpCalm P ops C (fun a' => Q (setTo l.length k listed) a') l k a → wpPre P ops m C Q l.length listed a
  | [], k, listed, _, _, hm, _, hd, _, h => by
    refine ⟨fun i hi him => ?_, h⟩
    have h1 := getD_both' (mem_ready.1 hi).1
    rw [hd i (by simp at hm; omega)] at h1
    cases h1
  | o :: l, k, listed, a, hl, hm, hsz, hd, hB, h => by
    have h0 : ops[k]? = some o := by simpa using (hl 0 (by simp)).symm
    simp only [List.length_cons, lexTo, Bool.and_eq_true] at hB
    obtain ⟨⟨hr, hf⟩, hB'⟩ := hB
    have hl' : ∀ j, j < l.length → l[j]? = ops[(k + 1) + j]? := fun j hj => by have := hl (j + 1) (by simpa using hj); simpa [Nat.add_assoc, Nat.add_comm 1 j] using this
    have hy : ∃ v, Leaves P ops C k o v a ∧ wpCalm P ops C (fun a' => Q (setTo (o :: l).length k listed) a') l (k + 1) (a.put o.dst v) := by
      unfold wpCalm at h
      split at h
      · rename_i hw; obtain ⟨v, h1, h2⟩ := h; exact ⟨v, .inl ⟨hw, h1⟩, h2⟩
      · rename_i hw; exact ⟨undef, .inr ⟨by simpa using hw, rfl, h.1⟩, h.2⟩
    obtain ⟨v, hy, hK⟩ := hy
    have hk : k < listed.size := by rw [hsz]; exact (Array.getElem?_eq_some_iff.1 h0).1
    exact wpPre_first (by simp at hm; omega) h0 (Region.noSelect_spec hs) l.length listed a (Region.free_spec h0 hf) (by simpa using hr) hy
      (wpPre_lex hs l (k + 1) _ _ hl' (by simp at hm; omega) (by simpa using hsz) (fun j hj => by
        have := congrFun (flags_set (listed := listed) (i := k) hk) j
        unfold flags upd at this
        rw [this]
        by_cases hjk : j = k
        · simp [hjk]
        · simp [hd j (by omega)]) hB' hK)
/-- What is listed has all that it waited for. -/
def Down (ops : Array Oper) (listed : Array Bool) : Prop := ∀ j, listed.getD j false = true → ∀ o, ops[j]? = some o → ∀ e ∈ o.after, Region.binds .any e = true → listed.getD e.on false = true
def reach (ops : Array Oper) : Nat → Nat → Nat → Bool
  | 0, _, _ => false
  | f + 1, i, t => match ops[i]? with
    | none => false
    | some o => o.after.any (fun e => Region.binds .any e && e.on == t) || o.after.any (fun e => Region.binds .any e && reach ops f e.on t)
def gate (ops : Array Oper) (m : Nat) : Bool := (List.range ops.size).all fun i => decide (i < m) || (List.range m).all fun t => reach ops ops.size i t
theorem reach_listed {listed : Array Bool} (hd : Down ops listed) : ∀ (f i t : Nat), reach ops f i t = true → (∀ o, ops[i]? = some o → ∀ e ∈ o.after, Region.binds .any e = true → listed.getD e.on false = true) → listed.getD t false = true
  | 0, _, _, h, _ => by cases h
  | f + 1, i, t, h, hi => by
    simp only [reach] at h
    split at h
    · cases h
    · rename_i o ho
      rw [Bool.or_eq_true, Array.any_eq_true', Array.any_eq_true'] at h
      rcases h with ⟨e, he, h⟩ | ⟨e, he, h⟩
      · simp only [Bool.and_eq_true, beq_iff_eq] at h
        rw [← h.2]; exact hi o ho e he h.1
      · simp only [Bool.and_eq_true] at h
        exact reach_listed hd f e.on t h.2 fun o' ho' => hd e.on (hi o ho e he h.1) o' ho'
def noDefer (l : List Oper) : Bool := l.all fun o => match o.op with
  | .defer _ => false
  | _ => true
theorem wpIn_of_calm {rd : Option Nat} {n : Nat} {o : Oper} {a : Act} {w : World} {C' : World → Prop} {v : Value} {K : Act → World → Prop} {Q : Exit → Act → World → Prop} (hdf : ∀ c, o.op ≠ .defer c) (h : calmAt P o a C' w v)
    (hK : ∀ w', C' w' → K (a.put o.dst v) w') : o.wpIn (fen rd) n P a w K Q := by
  refine ⟨fun _ _ => trivial, ?_⟩
  rw [Oper.semAt_eq _ _ _ hdf]
  unfold calmAt at h
  generalize (execOp a.eval o).run P w = r at *
  cases r with
  | ok x w' =>
    cases x <;> simp only [calmUpon] at h
    case value u => rw [h.1]; exact hK _ h.2
    case skip => obtain ⟨rfl, h2⟩ := h; exact hK _ h2
    case enter f args =>
      refine ⟨fun h => (by cases h), fen_calls ?_⟩
      exact h.mono fun e w'' ⟨he, hw''⟩ => by subst he; exact hK _ hw''
  | halt x w' => simp only [calmUpon] at h
theorem anyIn_of_pre {rd : Option Nat} {n f : Nat} {Q' : Exit → Act → World → Prop} (hdf : ∀ (j : Nat) (o : Oper) c, ops[j]? = some o → o.op ≠ .defer c) (hg : gate ops m = true)
    (hK : ∀ listed a w, Q listed a → C (flags listed) w → wpAnyIn (fen rd) n P .any ops Q' f listed a w) : ∀ (fuel : Nat) (listed : Array Bool) (a : Act) (w : World), C (flags listed) w → Down ops listed → wpPre P ops m C Q fuel listed a → wpAnyIn (fen rd) n P .any ops Q' (fuel + f) listed a w
  | 0, listed, a, w, hC, _, h => by rw [Nat.zero_add]; exact hK _ _ _ h.2 hC
  | fuel + 1, listed, a, w, hC, hD, h => by
    rw [show fuel + 1 + f = (fuel + f) + 1 by omega]
    obtain ⟨⟨i0, hi0, him0⟩, h⟩ := h
    unfold wpAnyIn
    refine ⟨fun h0 => (by rw [h0] at hi0; cases hi0), fun i hi => ?_⟩
    obtain ⟨hun, o', ho', hall⟩ := mem_ready.1 hi
    have him : i < m := by
      by_cases him : i < m
      · exact him
      · exfalso
        have h1 := List.all_eq_true.1 hg i (List.mem_range.2 (Array.getElem?_eq_some_iff.1 ho').1)
        simp only [him, decide_false, Bool.false_or] at h1
        have h2 := reach_listed hD _ _ _ (List.all_eq_true.1 h1 i0 (List.mem_range.2 him0)) fun o ho => by
          obtain rfl : o' = o := Option.some.inj (ho'.symm.trans ho)
          exact hall
        have h3 := getD_both' (mem_ready.1 hi0).1
        rw [h2] at h3; cases h3
    obtain ⟨o, v, ho, hy, hr⟩ := h i hi him
    obtain rfl : o = o' := Option.some.inj (ho.symm.trans ho')
    have hlt := ready_lt hi
    have hf := flags_set (listed := listed) hlt
    have hn : Now i o (flags listed) := ⟨getD_both' hun, hall⟩
    have hD' : Down ops (listed.setIfInBounds i true) := by
      intro j hj oj hoj e he hb
      by_cases hji : j = i
      · subst hji
        obtain rfl : o = oj := Option.some.inj (ho.symm.trans hoj)
        exact getD_set_true (hall e he hb)
      · rw [getD_set_ne false (fun e => hji e.symm)] at hj
        exact getD_set_true (hD j hj oj hoj e he hb)
    unfold wpOpIn
    simp only [ho]
    rcases hy with ⟨hwant, hv⟩ | ⟨hwant, rfl, hc⟩
    · rw [if_pos hwant]
      exact wpIn_of_calm (fun c => hdf i o c ho) (hv _ _ hC hn) fun w' hw' => anyIn_of_pre hdf hg hK fuel _ _ w' (by rw [hf]; exact hw') hD' hr
    · rw [if_neg (by simp [hwant])]
      exact ⟨fun _ _ => trivial, anyIn_of_pre hdf hg hK fuel _ _ w (by rw [hf]; exact hc _ _ hC hn) hD' hr⟩
end
section
variable {E : Env} {k : List Fr} {all : List Oper} {f : Nat} {l : Sl} {L : List Ob}
theorem at_calmTo {id : Nat} (m : Nat) (hrd : E.rd = none) (hm : E.P.follows .mixedOrders = true) (hsel : Region.noSelect all.toArray = true) (hdf : noDefer all = true) (hlex : lexTo all.toArray m 0 (Array.replicate all.length false) = true) (hg : gate all.toArray m = true) (hlen : all.length = m + f)
    (h : Calm E (.loop (fun a w => wpAnyIn (fen E.rd) 0 E.P .any all.toArray (postF E.rd E.P E.R k) f (setTo m 0 (Array.replicate all.length false)) a w) :: k) all (all.take m) 0 l L) : At E k (.region id all.toArray true) l L := by
  refine ⟨fun a w ha hs => wpIn_region_any hm ?_⟩
  have htl : (all.take m).length = m := by rw [List.length_take]; omega
  have hp := wpPre_lex (P := E.P) (C := fun _ w => Hs E.w0 L w) (Q := fun listed a' => ∀ w', Hs E.w0 L w' → wpAnyIn (fen E.rd) 0 E.P .any all.toArray (postF E.rd E.P E.R k) f listed a' w') (m := m) hsel (all.take m) 0 (Array.replicate all.length false) a
    (fun j hj => by rw [htl] at hj; simp [List.getElem?_take, hj]) (by omega) (by simp) (fun j hj => by omega) (by rw [htl]; exact hlex) (by rw [htl]; exact h.out a ha)
  rw [htl] at hp
  have := anyIn_of_pre (rd := E.rd) (n := 0) (f := f) (Q' := postF E.rd E.P E.R k) (fun j o c hj e => by
    have h1 := List.all_eq_true.1 hdf o (List.mem_of_getElem? (by simpa using hj))
    simp [e] at h1) hg (fun listed a' w' hq hC => hq w' hC) m (Array.replicate all.length false) a { w with drawn := w.drawn + 1 } ⟨hs.rows, hs.low, hs.apart, hs.below.drew⟩ (fun j hj => by
    simp only [Array.getD_eq_getD_getElem?, Array.getElem?_replicate] at hj
    split at hj <;> cases hj) hp
  simpa [hlen] using this
theorem done_pre {li li' : Array Bool} (e : li = li') (h : Any E k all f li' l L) : Done E (.loop (fun a w => wpAnyIn (fen E.rd) 0 E.P .any all.toArray (postF E.rd E.P E.R k) f li a w) :: k) l L := by subst e; exact done_loop fun a w ha hs => h.out a w ha hs
end
end Go.Proofs.Ytoljahfofkmdaaa

/-! The walker: rows of rows of whole numbers, read or one's own. -/
namespace Go.Proofs.Ytoljahfofkmdaaa
open Go Go.RowKit

/-- A row of whole numbers as an element. -/
structure IntsA where
  p : Option Addr
  n : Nat
  cap : Nat
  l : List Int
def IntsA.enc (x : IntsA) : List Value := [.slice x.p x.n x.cap]
instance : Enc IntsA := ⟨IntsA.enc, 1, fun _ => rfl, fun x v h => by simp [IntsA.enc] at h; subst h; rfl, by decide⟩
structure IntsA.Reads (w : World) (x : IntsA) : Prop where
  sv : Sv w x.p x.l
  hn : x.n = x.l.length
  hc : x.n ≤ x.cap
  hb : x.cap ≤ 9223372036854775807
section
variable {w w' w0 : World} {x : IntsA} {al : List IntsA} {T : TypeId} {Y Yi L : List Ob}
theorem IntsA.Reads.kept (h : x.Reads w) (hb : Below w.heap.size w w') : x.Reads w' := ⟨h.sv.kept hb, h.hn, h.hc, h.hb⟩
theorem SlO.facts {α : Type} [Enc α] {p : Option Addr} {n cap : Nat} {l : List α} (h : SlO T Y p n cap l) : n = l.length ∧ n ≤ cap ∧ cap ≤ 9223372036854775807 := by
  refine ⟨h.len, ?_⟩
  rcases h with ⟨_, _, h, h2, _⟩ | ⟨g, cs, _, _, _, h⟩
  · omega
  · exact ⟨h.le, h.max⟩
/-- Rows of one's own, each in a block of its own. -/
def GotR (T : TypeId) (Yi : List Ob) (al : List IntsA) : Prop := ∃ Ys : List (List Ob), Yi = Ys.flatten ∧ Ys.length = al.length ∧ ∀ (i : Nat) (Y : List Ob) (x : IntsA), Ys[i]? = some Y → al[i]? = some x → SlO T Y x.p x.n x.cap x.l
theorem GotR.nil : GotR T [] [] := ⟨[], rfl, rfl, fun i Y x h => by simp at h⟩
theorem GotR.snoc (h : GotR T Yi al) (hx : SlO T Y x.p x.n x.cap x.l) : GotR T (Yi ++ Y) (al ++ [x]) := by
  obtain ⟨Ys, rfl, hl, hs⟩ := h
  refine ⟨Ys ++ [Y], by simp, by simp [hl], fun i Z z h1 h2 => ?_⟩
  by_cases hi : i < Ys.length
  · rw [List.getElem?_append_left hi] at h1
    rw [List.getElem?_append_left (by omega)] at h2
    exact hs i Z z h1 h2
  · rw [List.getElem?_append_right (by omega)] at h1
    rw [List.getElem?_append_right (by omega)] at h2
    have hz : i - Ys.length = 0 := by
      have := (List.getElem?_eq_some_iff.1 h1).1
      simpa using this
    rw [hz] at h1
    rw [show i - al.length = 0 by omega] at h2
    simp at h1 h2
    subst h1; subst h2
    exact hx
theorem GotR.own (h : GotR T Yi al) (hx : x ∈ al) : ∃ Y, List.Sublist Y Yi ∧ SlO T Y x.p x.n x.cap x.l := by
  obtain ⟨Ys, rfl, hl, hs⟩ := h
  obtain ⟨i, hi⟩ := List.mem_iff_getElem?.1 hx
  have hil := (List.getElem?_eq_some_iff.1 hi).1
  have e : Ys[i]? = some Ys[i] := List.getElem?_eq_getElem (by omega)
  exact ⟨Ys[i], List.sublist_flatten_of_mem (List.getElem_mem _), hs i _ x e hi⟩
theorem SlO.sub {α : Type} [Enc α] {p : Option Addr} {n cap : Nat} {l : List α} (h : SlO T Y p n cap l) (hw : Hs w0 L w) (hs : List.Sublist Y L) : Sv w p l := h.at (R := []) (by rw [List.append_nil]; exact hw.sub hs)
theorem GotR.reads (h : GotR T Yi al) (hw : Hs w0 L w) (hs : List.Sublist Yi L) : ∀ x ∈ al, x.Reads w := fun x hx => by
  obtain ⟨Y, h1, h2⟩ := h.own hx
  have hf := h2.facts
  exact ⟨h2.sub hw (h1.trans hs), hf.1, hf.2.1, hf.2.2⟩
end
section
variable {E : Env} {k : List Fr} {l : Sl} {L L' : List Ob} {all os : List Oper} {i : Nat} {c : Code}
theorem Done.as (h : L = L') (hd : Done E k l L') : Done E k l L := h ▸ hd
theorem At.as (h : L = L') (hd : At E k c l L') : At E k c l L := h ▸ hd
theorem Ops.as (h : L = L') (hd : Ops E k all os i l L') : Ops E k all os i l L := h ▸ hd
theorem two_tails14 {w0 w : World} {Y X : List Ob} (h : Hs w0 (Y ++ (X ++ [])) w) : Hs w0 (Y ++ X) w := by rwa [List.append_nil] at h
theorem one_tail14 {w0 w : World} {Y : List Ob} (h : Hs w0 (Y ++ []) w) : Hs w0 Y w := by rwa [List.append_nil] at h
theorem min_if17 {n : Nat} : (if (17 : Int) < ((n : Nat) : Int) then (17 : Int) else ((n : Nat) : Int)) = ((min n 17 : Nat) : Int) := by split <;> omega
end
end Go.Proofs.Ytoljahfofkmdaaa

/-! What is shortened, what is named; plain. -/
namespace Go.Proofs.Ytoljahfofkmdaaa
open Go Go.RowKit

theorem SlO.asE {α : Type} [Enc α] {T : TypeId} {Y : List Ob} {p : Option Addr} {n cap : Nat} {l l' : List α} (h : SlO T Y p n cap l) (e : l = l') : SlO T Y p n cap l' := e ▸ h
theorem take_min {α : Type} {l : List α} {n : Nat} (h : n = l.length) : l.take (min n 17) = l.take 17 := by
  by_cases h2 : n ≤ 17
  · rw [Nat.min_eq_left h2, List.take_of_length_le (by omega), List.take_of_length_le (by omega)]
  · rw [Nat.min_eq_right (by omega)]
theorem take_U {ts : List Rn} {k : Nat} (hU : ∀ r ∈ ts, r.U) : ∀ r ∈ ts.take k, r.U := fun r hr => hU r (List.mem_of_mem_take hr)
def inL (l : List Int) (r : Rn) : Bool := decide (r.id ∈ l)
/-- The numbers that an op names, of those that are there. -/
def namedV (ts : List Rn) (l : List Int) : List Int := (ts.filter (inL l)).map Rn.id
section
variable {l : List Int} {x : Rn} {k : Int} {j : Nat}
end
end Go.Proofs.Ytoljahfofkmdaaa

/-! The document's top; plain. -/
namespace Go.Proofs.Ytoljahfofkmdaaa
open Go Go.RowKit

def topRS (s : Fq × Bool) (r : Rn) : Fq × Bool := if s.2 = false ∨ 0 < cmpI (r.t.num * s.1.w) (s.1.num * r.t.w) then (r.t, true) else s
def topRV (ts : List Rn) : Fq × Bool := ts.foldl topRS (zF, false)
section
variable {ts : List Rn} {x r : Rn} {j : Nat} {s : Fq × Bool} {k : Int}
end
/-- A queue, as it lies in a row. -/
structure QueA where
  p : Option Addr
  n : Nat
  cap : Nat
  l : List Rn
instance : Enc QueA := ⟨fun x => [.slice x.p x.n x.cap], 1, fun _ => rfl, fun x v h => by simp at h; subst h; rfl, by decide⟩
structure QueA.Reads (x : QueA) (w : World) : Prop where
  sv : Sv w x.p x.l
  hn : x.n = x.l.length
  hc : x.n ≤ x.cap
  hb : x.cap ≤ 9223372036854775807
  hU : ∀ r ∈ x.l, r.U
end Go.Proofs.Ytoljahfofkmdaaa

/-! Entities: what they are; plain. -/
namespace Go.Proofs.Ytoljahfofkmdaaa
open Go Go.RowKit

structure EnA where
  p : Option Addr
  n : Nat
  cap : Nat
  l : List Int
  th : Int
  tl : Int
  tw : Int
  ord : Int
  fresh : Bool
instance : Enc EnA := ⟨fun x => [.slice x.p x.n x.cap, .int .u64 x.th, .int .u64 x.tl, .int .u64 x.tw, .int .u64 x.ord, .bool x.fresh], 6, fun _ => rfl, fun x v h => by simp at h; rcases h with rfl | rfl | rfl | rfl | rfl | rfl <;> rfl, by decide⟩
/-- An entity, as it is. -/
structure En where
  mem : List Int
  t : Fq
  ord : Int
  fresh : Bool
deriving DecidableEq
abbrev EnA.t (x : EnA) : Fq := ⟨x.th, x.tl, x.tw⟩
def EnA.val (x : EnA) : En := ⟨x.l, x.t, x.ord, x.fresh⟩
structure EnA.Reads (x : EnA) (w : World) : Prop where
  sv : Sv w x.p x.l
  hn : x.n = x.l.length
  hc : x.n ≤ x.cap
  hb : x.cap ≤ 9223372036854775807
  tU : x.t.U
  o0 : 0 ≤ x.ord
  o1 : x.ord < 18446744073709551616
theorem EnA.Reads.kept {x : EnA} {w w' : World} (h : x.Reads w) (hb : Below w.heap.size w w') : x.Reads w' := ⟨h.sv.kept hb, h.hn, h.hc, h.hb, h.tU, h.o0, h.o1⟩
def rightE (a : En) : Bool := decide (0 < a.mem.length) && a.t.ok
def firstM (a : En) : Int := (a.mem[0]?).getD 0
/-- The first that is not nought. -/
def orL : List Int → Int
  | [] => 0
  | x :: r => if x ≠ 0 then x else orL r
def cmpE (a b : En) : Int := if a.fresh = b.fresh then orL [cmpF a.t b.t, cmpT a.ord b.ord, cmpT (firstM a) (firstM b)] else if a.fresh = true then -1 else 1
def aheadE (a b : En) : Bool := (rightE a && rightE b) && decide (cmpE a b < 0)
section
variable {l : List Int} {j : Nat} {x y : Int} {a b : En}
theorem or_no : ∀ {l : List Int}, (∀ y ∈ l, y = 0) → orL l = 0
  | [], _ => rfl
  | x :: r, h => by rw [orL, if_neg (by have := h x (List.mem_cons_self ..); omega)]; exact or_no fun y hy => h y (List.mem_cons_of_mem _ hy)
theorem or_yes : ∀ {l : List Int} {j : Nat}, (∀ y ∈ l.take j, y = 0) → l[j]? = some x → x ≠ 0 → orL l = x
  | [], _, _, h, _ => by cases h
  | y :: r, 0, _, h, hx => by cases h; rw [orL, if_pos hx]
  | y :: r, j + 1, hI, h, hx => by
    rw [orL, if_neg (by have := hI y (by rw [List.take_succ_cons]; exact List.mem_cons_self ..); omega)]
    exact or_yes (fun z hz => hI z (by rw [List.take_succ_cons]; exact List.mem_cons_of_mem _ hz)) (by simpa using h) hx
theorem rt_yes (h : 0 < a.mem.length) (h2 : a.t.ok = true) : rightE a = true := by unfold rightE; rw [decide_eq_true h, h2]; rfl
theorem rt_no0 (h : ¬ 0 < a.mem.length) : rightE a = false := by unfold rightE; rw [decide_eq_false h]; rfl
theorem rt_noT (h : a.t.ok = false) : rightE a = false := by unfold rightE; rw [h, Bool.and_false]
theorem rt_iff : rightE a = true ↔ 0 < a.mem.length ∧ a.t.ok = true := by unfold rightE; rw [Bool.and_eq_true, decide_eq_true_eq]
theorem first_at (h : a.mem[0]? = some x) : firstM a = x := by unfold firstM; rw [h]; rfl
theorem cmpE_l (h : a.fresh = true) (h2 : b.fresh = false) : cmpE a b = -1 := by unfold cmpE; rw [if_neg (by rw [h, h2]; decide), if_pos h]
theorem cmpE_r (h : a.fresh = false) (h2 : b.fresh = true) : cmpE a b = 1 := by unfold cmpE; rw [if_neg (by rw [h, h2]; decide), if_neg (by rw [h]; decide)]
theorem cmpE_s (h : a.fresh = b.fresh) (hx : a.mem[0]? = some x) (hy : b.mem[0]? = some y) : cmpE a b = orL [cmpF a.t b.t, cmpT a.ord b.ord, cmpT x y] := by unfold cmpE; rw [if_pos h, first_at hx, first_at hy]
theorem ah_no1 (h : rightE a = false) : aheadE a b = false := by unfold aheadE; rw [h]; rfl
theorem ah_no2 (h : rightE b = false) : aheadE a b = false := by unfold aheadE; rw [h, Bool.and_false]; rfl
theorem ah_yes (h : rightE a = true) (h2 : rightE b = true) : aheadE a b = decide (cmpE a b < 0) := by unfold aheadE; rw [h, h2]; rfl
end
end Go.Proofs.Ytoljahfofkmdaaa

/-! Entities in order; plain. -/
namespace Go.Proofs.Ytoljahfofkmdaaa
open Go Go.RowKit

theorem le_tr {an aw bn bw cn cw : Int} (hb : 0 < bw) (ha : 0 ≤ aw) (hc : 0 ≤ cw) (h1 : an * bw ≤ bn * aw) (h2 : bn * cw ≤ cn * bw) : an * cw ≤ cn * aw := by
  have e1 : an * bw * cw ≤ bn * aw * cw := Int.mul_le_mul_of_nonneg_right h1 hc
  have e2 : bn * cw * aw ≤ cn * bw * aw := Int.mul_le_mul_of_nonneg_right h2 ha
  refine Int.le_of_mul_le_mul_right (a := bw) ?_ hb
  rw [Int.mul_right_comm an cw bw, Int.mul_right_comm cn aw bw]
  rw [Int.mul_right_comm bn aw cw] at e1
  exact Int.le_trans e1 e2
def pF (a b : En) : Int := a.t.num * b.t.w
def AltP (a b : En) : Prop := (a.fresh = true ∧ b.fresh = false) ∨ (a.fresh = b.fresh ∧ (pF a b < pF b a ∨ (pF a b = pF b a ∧ (a.ord < b.ord ∨ (a.ord = b.ord ∧ firstM a < firstM b)))))
/-- The same place in the order. -/
def TieP (a b : En) : Prop := a.fresh = b.fresh ∧ pF a b = pF b a ∧ a.ord = b.ord ∧ firstM a = firstM b
def insE (x : En) : List En → List En
  | [] => [x]
  | y :: r => if aheadE x y = true then x :: y :: r else y :: insE x r
/-- Put in one by one, each ahead of the first one that it stands ahead of. -/
def srtE (l : List En) : List En := l.foldl (fun o x => insE x o) []
def SortP (l : List En) : Prop := l.Pairwise fun a b => aheadE b a = false
section
variable {a b c x y : En} {l l' r : List En}
theorem cmpF_p (ha : a.t.ok = true) (hb : b.t.ok = true) : cmpF a.t b.t = cmpI (pF a b) (pF b a) := by rw [cmpF_yes (by rw [ha, hb]; rfl)]; rfl
theorem cmpI_neg' {p q : Int} : (cmpI p q < 0 ↔ p < q) ∧ (cmpI p q = 0 ↔ p = q) := by unfold cmpI; split <;> (try split) <;> omega
theorem or3 {p q r : Int} : (orL [p, q, r] < 0 ↔ p < 0 ∨ (p = 0 ∧ (q < 0 ∨ (q = 0 ∧ r < 0)))) ∧ (orL [p, q, r] = 0 ↔ p = 0 ∧ q = 0 ∧ r = 0) := by
  unfold orL orL orL orL
  split <;> (try split) <;> (try split) <;> omega
theorem cmpE_neg (ha : a.t.ok = true) (hb : b.t.ok = true) : cmpE a b < 0 ↔ AltP a b := by
  unfold cmpE AltP
  rw [cmpF_p ha hb]
  have h1 := cmpI_neg' (p := pF a b) (q := pF b a)
  have h2 := cmpT_iff a.ord b.ord
  have h3 := cmpT_iff (firstM a) (firstM b)
  by_cases hf : a.fresh = b.fresh
  · rw [if_pos hf, or3.1, h1.1, h1.2, h2.1, h2.2, h3.1]
    constructor
    · intro h; exact .inr ⟨hf, h⟩
    · rintro (⟨h, h'⟩ | ⟨_, h⟩)
      · rw [h, h'] at hf; cases hf
      · exact h
  · rw [if_neg hf]
    cases ea : a.fresh <;> cases eb : b.fresh <;> simp_all
theorem p_tr (ha : a.t.ok = true) (hb : b.t.ok = true) (hc : c.t.ok = true) : pF b a < pF a b ∨ pF c b < pF b c ∨ pF a c ≤ pF c a := by
  have := (ok_iff.1 ha).1; have := (ok_iff.1 hb).1; have := (ok_iff.1 hc).1
  by_cases h1 : pF a b ≤ pF b a
  · by_cases h2 : pF b c ≤ pF c b
    · exact .inr (.inr (le_tr (bw := b.t.w) (by omega) (by omega) (by omega) h1 h2))
    · exact .inr (.inl (by omega))
  · exact .inl (by omega)
theorem alt_irr : ¬ AltP a a := by
  rintro (⟨h, h'⟩ | ⟨_, h⟩)
  · rw [h] at h'; cases h'
  · omega
theorem alt_all (ha : a.t.ok = true) (hb : b.t.ok = true) (hc : c.t.ok = true) : (AltP a b → AltP b c → AltP a c) ∧ (¬ AltP a b → ¬ AltP b c → ¬ AltP a c) ∧ (AltP a b → ¬ AltP b a) ∧ (¬ AltP a b → ¬ AltP b a → TieP a b) ∧ (TieP a b → ¬ AltP a b ∧ ¬ AltP b a) := by
  have t1 := p_tr ha hb hc; have t2 := p_tr hb hc ha; have t3 := p_tr hc ha hb; have t4 := p_tr hc hb ha; have t5 := p_tr hb ha hc; have t6 := p_tr ha hc hb
  unfold AltP TieP
  generalize pF a b = p1 at *; generalize pF b a = p2 at *; generalize pF a c = p3 at *; generalize pF c a = p4 at *; generalize pF b c = p5 at *; generalize pF c b = p6 at *
  generalize a.fresh = fa at *; generalize b.fresh = fb at *; generalize c.fresh = fc at *
  refine ⟨fun h1 h2 => ?_, fun h1 h2 h3 => ?_, fun h1 h2 => ?_, fun h1 h2 => ?_, fun h => ⟨fun h1 => ?_, fun h1 => ?_⟩⟩
  all_goals (cases fa <;> cases fb <;> cases fc <;> simp at * <;> omega)
theorem ahead_iff (ha : rightE a = true) (hb : rightE b = true) : aheadE a b = true ↔ AltP a b := by
  rw [ah_yes ha hb, decide_eq_true_eq, cmpE_neg (rt_iff.1 ha).2 (rt_iff.1 hb).2]
theorem ahead_not (ha : rightE a = true) (hb : rightE b = true) : aheadE a b = false ↔ ¬ AltP a b := by
  rw [← ahead_iff ha hb, Bool.not_eq_true]
theorem insE_perm : ∀ (l : List En), (insE x l).Perm (x :: l)
  | [] => .refl _
  | y :: r => by
    unfold insE
    split
    · exact .refl _
    · exact ((insE_perm r).cons y).trans (.swap x y r)
theorem srt_perm' : ∀ (l o : List En), (l.foldl (fun o x => insE x o) o).Perm (o ++ l)
  | [], o => by simp
  | x :: r, o => by
    refine (srt_perm' r (insE x o)).trans (((insE_perm o).append_right r).trans ?_)
    exact (List.perm_middle (l₁ := o) (l₂ := r) (a := x)).symm
theorem srtE_perm : (srtE l).Perm l := by have := srt_perm' l []; rwa [List.nil_append] at this
theorem insE_sort (hx : rightE x = true) : ∀ (l : List En), (∀ y ∈ l, rightE y = true) → SortP l → SortP (insE x l)
  | [], _, _ => List.pairwise_singleton ..
  | y :: r, hr, hs => by
    have hy := hr y (List.mem_cons_self ..)
    have hs' := List.pairwise_cons.1 hs
    unfold insE
    split
    · next h =>
      refine List.pairwise_cons.2 ⟨fun z hz => ?_, hs⟩
      have hz' := hr z hz
      rw [ahead_not hz' hx]
      rw [ahead_iff hx hy] at h
      rcases List.mem_cons.1 hz with rfl | hz2
      · exact (alt_all (rt_iff.1 hx).2 (rt_iff.1 hy).2 (rt_iff.1 hy).2).2.2.1 h
      · have h3 := (ahead_not hz' hy).1 (hs'.1 z hz2)
        intro h4
        exact h3 ((alt_all (rt_iff.1 hz').2 (rt_iff.1 hx).2 (rt_iff.1 hy).2).1 h4 h)
    · next h =>
      refine List.pairwise_cons.2 ⟨fun z hz => ?_, insE_sort hx r (fun z hz => hr z (List.mem_cons_of_mem _ hz)) hs'.2⟩
      rcases List.mem_cons.1 ((insE_perm r).mem_iff.1 hz) with rfl | hz2
      · exact Bool.eq_false_iff.2 h
      · exact hs'.1 z hz2
theorem srt_sort' : ∀ (l o : List En), (∀ y ∈ l, rightE y = true) → (∀ y ∈ o, rightE y = true) → SortP o → SortP (l.foldl (fun o x => insE x o) o)
  | [], _, _, _, h => h
  | x :: r, o, hr, ho, h => srt_sort' r (insE x o) (fun y hy => hr y (List.mem_cons_of_mem _ hy))
      (fun y hy => by rcases List.mem_cons.1 ((insE_perm o).mem_iff.1 hy) with rfl | h2; exact hr _ (List.mem_cons_self ..); exact ho y h2) (insE_sort (hr x (List.mem_cons_self ..)) o ho h)
theorem srtE_sort (hr : ∀ y ∈ l, rightE y = true) : SortP (srtE l) := srt_sort' l [] hr (fun y hy => by cases hy) List.Pairwise.nil
theorem nodup_inj {α β : Type} {f : α → β} : ∀ {l : List α}, (l.map f).Nodup → ∀ {a b : α}, a ∈ l → b ∈ l → f a = f b → a = b
  | [], _, _, _, h, _, _ => by cases h
  | x :: r, hn, a, b, ha, hb, he => by
    have h2 := List.nodup_cons.1 (by simpa using hn : (f x :: r.map f).Nodup)
    rcases List.mem_cons.1 ha with rfl | ha2 <;> rcases List.mem_cons.1 hb with rfl | hb2
    · rfl
    · exact absurd (List.mem_map.2 ⟨b, hb2, he.symm⟩) h2.1
    · exact absurd (List.mem_map.2 ⟨a, ha2, he⟩) h2.1
    · exact nodup_inj h2.2 ha2 hb2 he
/-- There is one order of them. -/
theorem srt_uniq (hr : ∀ x ∈ l, rightE x = true) (hn : (l.map firstM).Nodup) (hp : l'.Perm l) (hs : SortP l') : l' = srtE l := by
  refine List.Perm.eq_of_pairwise (le := fun a b => aheadE b a = false) (fun a b ha hb h1 h2 => ?_) hs (srtE_sort hr) (hp.trans srtE_perm.symm)
  have ha' := hp.mem_iff.1 ha
  have hb' := srtE_perm.mem_iff.1 hb
  have ra := hr a ha'
  have rb := hr b hb'
  rw [ahead_not rb ra] at h1
  rw [ahead_not ra rb] at h2
  exact nodup_inj hn ha' hb' ((alt_all (rt_iff.1 ra).2 (rt_iff.1 rb).2 (rt_iff.1 rb).2).2.2.2.1 h2 h1).2.2.2
end
end Go.Proofs.Ytoljahfofkmdaaa

/-! Laws on cells that hold a number of 128 bits. -/
namespace Go.Proofs.Ytoljahfofkmdaaa
open Go.RowKit

theorem wide_size : (Try.prog.info? 43).map (·.size) = some 2 := by kernel_rfl
/-- Block g of w holds a number of two halves. -/
@[reducible] def IsW (w : World) (g : Nat) (h l : Int) : Prop := IsR w g #[.int .u64 h, .int .u64 l] 43
section
variable {ops : Array Oper} {rest : List Oper} {o : Oper} {a : Act} {w : World} {Q : Exit → Act → World → Prop}
theorem wpW_store (hgd : o.guard = none) (x y : Operand) (ho : o.op = .store 43 x y) (g : Nat) (hx : a.eval x = .pointer (some ⟨g, 0, none⟩)) (h l h0 l0 : Int) (hy : a.eval y = .agg #[.int .u64 h, .int .u64 l])
    (hg : IsW w g h0 l0) (hK : ∀ w1 : World, Put g #[.int .u64 h, .int .u64 l] 43 w w1 → wpList Try.prog ops Q rest (a.put o.dst undef) w1) : wpList Try.prog ops Q (o :: rest) a w :=
  wpR_store hgd _ x y ho g hx _ _ hy _ hg wide_size rfl (by simp [Value.oneCell']) hK
theorem wpW_load (hgd : o.guard = none) (x : Operand) (ho : o.op = .load 43 x) (g : Nat) (hx : a.eval x = .pointer (some ⟨g, 0, none⟩)) (h l : Int)
    (hg : IsW w g h l) (hK : wpList Try.prog ops Q rest (a.put o.dst (.agg #[.int .u64 h, .int .u64 l])) w) : wpList Try.prog ops Q (o :: rest) a w :=
  wpList_load_row hgd _ x ho g hx _ _ _ _ hg Try.underlying43 rfl wide_size hK
variable {fn : Func} {R : Ending → World → Prop} {tmps : Array Value} {p q r : Tmp} {g : Nat} {h l : Int}
theorem retW1 (hf : fn.results = #[.cell p 43, .tmp q]) (hp : tmps.getD p undef = .pointer (some ⟨g, 0, none⟩)) (v : Value) (hq : tmps.getD q undef = v) (hg : IsW w g h l)
    (hR : R (.returned (.tuple #[.agg #[.int .u64 h, .int .u64 l], v])) w) : bodyPost Try.prog fn R .ret { tmps, defers := [] } w := ret_row_tmp hf hp v hq hg Try.underlying43 rfl wide_size hR
end
end Go.Proofs.Ytoljahfofkmdaaa

/-! Plain lemmas on rows of 256 bits, and on numbers of 128 bits: no program in sight. -/
namespace Go.Proofs.Ytoljahfofkmdaaa
open Go.RowKit

/-- The row of the 256 lowest bits of a number. -/
def bA (n : Nat) : Array Value := Array.ofFn (n := 256) fun i => .bool (n.testBit i.val)

theorem bA_size (n : Nat) : (bA n).size = 256 := by simp [bA]
theorem bA_get (n k : Nat) (h : k < 256) : (bA n)[k]? = some (.bool (n.testBit k)) := by simp [bA, h]
theorem bA_ext (m n : Nat) (h : ∀ k, k < 256 → m.testBit k = n.testBit k) : bA m = bA n := by
  unfold bA; congr 1; funext i; rw [h _ i.isLt]
theorem bA_mod (n : Nat) : bA (n % 2 ^ 256) = bA n := bA_ext _ _ fun k h => by rw [Nat.testBit_mod_two_pow]; simp [h]
theorem bA_set (m k : Nat) (v : Bool) (hm : m < 2 ^ k) : (bA m).setIfInBounds k (.bool v) = bA (m + v.toNat * 2 ^ k) := by
  apply Array.ext_getElem?
  intro j
  rw [Array.getElem?_setIfInBounds]
  by_cases hj : j < 256
  · rw [bA_get _ _ hj, bA_get _ _ hj, bA_size]
    have e : (m + v.toNat * 2 ^ k).testBit j = if k = j then v else m.testBit j := by
      rw [show m + v.toNat * 2 ^ k = 2 ^ k * v.toNat + m from by rw [Nat.mul_comm]; omega, Nat.testBit_two_pow_mul_add _ hm]
      by_cases h1 : j < k
      · simp [h1, show ¬ k = j from by omega]
      · by_cases h2 : k = j
        · subst h2; cases v <;> simp
        · have h3 : m.testBit j = false := Nat.testBit_lt_two_pow (Nat.lt_of_lt_of_le hm (Nat.pow_le_pow_right (by omega) (by omega)))
          simp [h1, h2, h3]
          have : j - k ≠ 0 := by omega
          cases v
          · simp
          · exact Nat.testBit_lt_two_pow (Nat.one_lt_two_pow this)
    rw [e]
    by_cases h2 : k = j <;> simp [h2, hj]
  · have h1 : (bA m)[j]? = none := by simp [bA_size]; omega
    have h2 : (bA (m + v.toNat * 2 ^ k))[j]? = none := by simp [bA_size]; omega
    rw [h1, h2, bA_size]
    by_cases h2 : k = j
    · simp [h2, hj]
    · simp [h2]
theorem bA_oneCell (n : Nat) : (bA n).all (·.oneCell') = true := by
  rw [Array.all_eq_true]
  intro i hi
  simp [bA, Value.oneCell']
theorem bA_zero : bA 0 = Array.replicate 256 (.bool false) := by
  apply Array.ext_getElem?
  intro j
  by_cases hj : j < 256
  · rw [bA_get _ _ hj]; simp [hj]
  · have h1 : (bA 0)[j]? = none := by simp [bA_size]; omega
    rw [h1]; simp; omega

theorem mod_succ (a k : Nat) : a % 2 ^ (k + 1) = a % 2 ^ k + (a.testBit k).toNat * 2 ^ k := by
  rw [Nat.mod_pow_succ, Nat.testBit_eq_decide_div_mod_eq]
  have : a / 2 ^ k % 2 < 2 := Nat.mod_lt _ (by omega)
  by_cases h : a / 2 ^ k % 2 = 1
  · simp [h]
  · have h0 : a / 2 ^ k % 2 = 0 := by omega
    simp [h0]

theorem sum_plain (x y u v p : Nat) (hp : 0 < p) (c n : Nat) (hx : x < p) (hy : y < p) (hu : u ≤ 1) (hv : v ≤ 1) (hc : c = (decide (p ≤ x + y)).toNat) (hn : n = u + v + c) :
    (x + u * p + (y + v * p)) % (p * 2) = (x + y) % p + (n % 2) * p ∧ (p * 2 ≤ x + u * p + (y + v * p) ↔ 2 ≤ n) := by
  have hr : x + y = (x + y) % p + c * p := by
    subst hc
    by_cases h : p ≤ x + y
    · rw [Nat.mod_eq_sub_mod h, Nat.mod_eq_of_lt (by omega)]; simp [h]
    · rw [Nat.mod_eq_of_lt (by omega)]; simp [h]
  have hr' : (x + y) % p < p := Nat.mod_lt _ hp
  generalize (x + y) % p = r at *
  have e : x + u * p + (y + v * p) = r + n * p := by subst hn; rw [Nat.add_mul, Nat.add_mul]; omega
  rw [e]
  have hc1 : c ≤ 1 := by subst hc; cases decide (p ≤ x + y) <;> simp
  clear hr hc e
  have hn3 : n = 0 ∨ n = 1 ∨ n = 2 ∨ n = 3 := by omega
  rcases hn3 with h | h | h | h <;> subst h
  · refine ⟨?_, by omega⟩; rw [Nat.mod_eq_of_lt (by omega)]
  · refine ⟨?_, by omega⟩; rw [Nat.mod_eq_of_lt (by omega)]
  · refine ⟨?_, by omega⟩; rw [Nat.mod_eq_sub_mod (by omega), Nat.mod_eq_of_lt (by omega)]; omega
  · refine ⟨?_, by omega⟩; rw [Nat.mod_eq_sub_mod (by omega), Nat.mod_eq_of_lt (by omega)]; omega

/-- One place of a sum. -/
def sAt (a b k : Nat) : Nat := a % 2 ^ k + b % 2 ^ k
theorem sum_step (a b k n : Nat) (hn : n = (a.testBit k).toNat + (b.testBit k).toNat + (decide (2 ^ k ≤ sAt a b k)).toNat) :
    sAt a b (k + 1) % 2 ^ (k + 1) = sAt a b k % 2 ^ k + (n % 2 == 1).toNat * 2 ^ k ∧ decide (2 ^ (k + 1) ≤ sAt a b (k + 1)) = decide (2 ≤ n) := by
  unfold sAt at *
  rw [mod_succ a, mod_succ b, Nat.pow_succ]
  have h := sum_plain (a % 2 ^ k) (b % 2 ^ k) (a.testBit k).toNat (b.testBit k).toNat (2 ^ k) (Nat.two_pow_pos k) _ n (Nat.mod_lt _ (Nat.two_pow_pos k)) (Nat.mod_lt _ (Nat.two_pow_pos k))
    (by cases a.testBit k <;> simp) (by cases b.testBit k <;> simp) rfl hn
  rw [h.1]
  refine ⟨?_, by simp only [h.2]⟩
  have : n % 2 = 0 ∨ n % 2 = 1 := by omega
  rcases this with e | e <;> simp [e]

/-- Two rows are one where they agree at each place. -/
def bF (f : Nat → Bool) : Array Value := Array.ofFn (n := 256) fun i => .bool (f i.val)
theorem bF_size (f : Nat → Bool) : (bF f).size = 256 := by simp [bF]
theorem bF_get (f : Nat → Bool) (k : Nat) (h : k < 256) : (bF f)[k]? = some (.bool (f k)) := by simp [bF, h]
theorem bA_bF (n : Nat) : bA n = bF n.testBit := rfl
theorem bF_ext (f g : Nat → Bool) (h : ∀ k, k < 256 → f k = g k) : bF f = bF g := by
  unfold bF; congr 1; funext i; rw [h _ i.isLt]
theorem bF_set (f g : Nat → Bool) (k : Nat) (v : Bool) (hk : g k = v) (h : ∀ j, j < 256 → j ≠ k → g j = f j) : (bF f).setIfInBounds k (.bool v) = bF g := by
  apply Array.ext_getElem?
  intro j
  rw [Array.getElem?_setIfInBounds]
  by_cases hj : j < 256
  · rw [bF_get _ _ hj, bF_get _ _ hj, bF_size]
    by_cases h2 : k = j
    · subst h2; simp [hj, hk]
    · simp [h2, h j hj (fun e => h2 e.symm)]
  · have h1 : (bF f)[j]? = none := by simp [bF_size]; omega
    have h2 : (bF g)[j]? = none := by simp [bF_size]; omega
    rw [h1, h2, bF_size]
    by_cases h2 : k = j
    · simp [h2, hj]
    · simp [h2]

theorem twice_step (a k : Nat) (hk : 1 ≤ k) : (2 * a) % 2 ^ (k + 1) = (2 * a) % 2 ^ k + (a.testBit (k - 1)).toNat * 2 ^ k := by
  rw [mod_succ]
  obtain ⟨j, rfl⟩ : ∃ j, k = j + 1 := ⟨k - 1, by omega⟩
  rw [Nat.testBit_succ, Nat.mul_div_cancel_left _ (by omega)]
  rfl

/-- One place of a difference. -/
def tAt (a b k : Nat) : Nat := (2 ^ k + a % 2 ^ k - b % 2 ^ k) % 2 ^ k
theorem div_succ (a k : Nat) : a / 2 ^ k = 2 * (a / 2 ^ (k + 1)) + (a.testBit k).toNat := by
  rw [Nat.pow_succ, ← Nat.div_div_eq_div_mul, Nat.testBit_eq_decide_div_mod_eq]
  generalize a / 2 ^ k = q
  by_cases h : q % 2 = 1
  · simp [h]; omega
  · simp [h]; omega
theorem less_stop (a b k : Nat) (h : a / 2 ^ (k + 1) = b / 2 ^ (k + 1)) (hne : a.testBit k ≠ b.testBit k) : decide (a < b) = b.testBit k := by
  have h1 := div_succ a k
  have h2 := div_succ b k
  rw [h] at h1
  generalize b / 2 ^ (k + 1) = q at h1 h2
  have h3 : ∀ x y : Nat, x / 2 ^ k < y / 2 ^ k → x < y := fun x y hxy => by
    rcases Nat.lt_or_ge x y with h | h
    · exact h
    · exact absurd (Nat.div_le_div_right (c := 2 ^ k) h) (by omega)
  cases hb : b.testBit k <;> cases ha : a.testBit k <;> simp [ha, hb] at h1 h2 hne ⊢
  · have := h3 b a (by omega); omega
  · exact h3 a b (by omega)
theorem less_go (a b k : Nat) (h : a / 2 ^ (k + 1) = b / 2 ^ (k + 1)) (he : a.testBit k = b.testBit k) : a / 2 ^ k = b / 2 ^ k := by
  rw [div_succ a, div_succ b, h, he]

theorem prod_step (a m k : Nat) : a * (m / 2 ^ k) = 2 * (a * (m / 2 ^ (k + 1))) + (if m.testBit k then a else 0) := by
  rw [div_succ m k, Nat.mul_add, ← Nat.mul_assoc, Nat.mul_comm a 2, Nat.mul_assoc]
  cases m.testBit k <;> simp
theorem bit_tmod (m j : Nat) : (((m : Int) / 2 ^ j).tmod 2 == 1) = m.testBit j := by
  rw [Nat.testBit_eq_decide_div_mod_eq]
  have e : (m : Int) / 2 ^ j = ((m / 2 ^ j : Nat) : Int) := by simp
  rw [e, Int.tmod_eq_emod_of_nonneg (Int.natCast_nonneg _), Bool.eq_iff_iff]
  generalize m / 2 ^ j = z
  simp only [beq_iff_eq, decide_eq_true_eq]
  omega
theorem quot_step (a d k : Nat) (hd : 0 < d) :
    (if 2 * (a / 2 ^ (k + 1) % d) + (a.testBit k).toNat < d then a / 2 ^ k % d = 2 * (a / 2 ^ (k + 1) % d) + (a.testBit k).toNat ∧ a / 2 ^ k / d = 2 * (a / 2 ^ (k + 1) / d)
      else a / 2 ^ k % d = 2 * (a / 2 ^ (k + 1) % d) + (a.testBit k).toNat - d ∧ a / 2 ^ k / d = 2 * (a / 2 ^ (k + 1) / d) + 1) := by
  rw [div_succ a k]
  have h1 := Nat.div_add_mod (a / 2 ^ (k + 1)) d
  have h2 := Nat.mod_lt (a / 2 ^ (k + 1)) hd
  generalize a / 2 ^ (k + 1) = A at *
  have hx : (a.testBit k).toNat ≤ 1 := by cases a.testBit k <;> simp
  generalize (a.testBit k).toNat = x at *
  generalize A % d = r at *
  generalize A / d = q at *
  subst h1
  split
  · rename_i h
    have e : 2 * (d * q + r) + x = d * (2 * q) + (2 * r + x) := by rw [Nat.mul_add, ← Nat.mul_assoc, ← Nat.mul_assoc, Nat.mul_comm 2 d]; omega
    rw [e]
    exact ⟨by rw [Nat.mul_add_mod, Nat.mod_eq_of_lt h], by rw [Nat.mul_add_div hd, Nat.div_eq_of_lt h]; rfl⟩
  · rename_i h
    have e : 2 * (d * q + r) + x = d * (2 * q + 1) + (2 * r + x - d) := by rw [Nat.mul_add, ← Nat.mul_assoc, Nat.mul_add, ← Nat.mul_assoc, Nat.mul_comm 2 d, Nat.mul_one]; generalize d * 2 * q = z; omega
    have h' : 2 * r + x - d < d := by omega
    rw [e]
    exact ⟨by rw [Nat.mul_add_mod, Nat.mod_eq_of_lt h'], by rw [Nat.mul_add_div hd, Nat.div_eq_of_lt h']⟩
end Go.Proofs.Ytoljahfofkmdaaa

/-! The small functions of package wide: their contracts, whatever the world. -/
namespace Go.Proofs.Ytoljahfofkmdaaa
open Go.RowKit

/-- One part of 32 bits of a number. -/
@[irreducible] def dg (n i : Nat) : Nat := n / 2 ^ (32 * i) % 2 ^ 32
/-- A number's seven parts. -/
def qA (n : Nat) : Array Value := Array.ofFn (n := 7) fun i => .int .u64 (dg n i.val)
theorem qA_lit (n : Nat) : qA n = #[.int .u64 (dg n 0), .int .u64 (dg n 1), .int .u64 (dg n 2), .int .u64 (dg n 3), .int .u64 (dg n 4), .int .u64 (dg n 5), .int .u64 (dg n 6)] := by
  simp [qA, Array.ofFn_succ]
theorem qA_size (n : Nat) : (qA n).size = 7 := by simp [qA]
theorem qA_get (n k : Nat) (h : k < 7) : (qA n)[k]? = some (.int .u64 (dg n k)) := by simp [qA, h]
theorem qA_set (n m k : Nat) (v : Int) (hv : (dg m k : Int) = v) (h : ∀ j, j < 7 → j ≠ k → dg m j = dg n j) : (qA n).setIfInBounds k (.int .u64 v) = qA m := by
  apply Array.ext_getElem?
  intro j
  rw [Array.getElem?_setIfInBounds]
  by_cases hj : j < 7
  · rw [qA_get _ _ hj, qA_get _ _ hj, qA_size]
    by_cases h2 : k = j
    · subst h2; simp [hj, hv]
    · simp [h2, h j hj (fun e => h2 e.symm)]
  · have h1 : (qA n)[j]? = none := by simp [qA_size]; omega
    have h2 : (qA m)[j]? = none := by simp [qA_size]; omega
    rw [h1, h2, qA_size]
    by_cases h2 : k = j
    · simp [h2, hj]
    · simp [h2]

theorem and32 (x : Nat) (h : x < 2 ^ 64) : bits BinOp.and IntKind.u64 (x : Int) 4294967295 = ((x % 2 ^ 32 : Nat) : Int) := by
  have := bits_and_u64_nat x 4294967295 (by omega) (by omega)
  rw [show ((4294967295 : Nat) : Int) = 4294967295 from rfl] at this
  rw [this, show (4294967295 : Nat) = 2 ^ 32 - 1 from rfl, Nat.and_two_pow_sub_one_eq_mod]

theorem of_dg (h l n : Nat) (hh : h < 2 ^ 64) (hl : l < 2 ^ 64) (hn : h * 2 ^ 64 + l = n) :
    (#[.int .u64 ((l % 2 ^ 32 : Nat) : Int), .int .u64 ((l / 2 ^ 32 : Nat) : Int), .int .u64 ((h % 2 ^ 32 : Nat) : Int), .int .u64 ((h / 2 ^ 32 : Nat) : Int), .int .u64 0, .int .u64 0, .int .u64 0] : Array Value) = qA n := by
  subst hn
  rw [qA_lit]
  unfold dg
  simp only [Nat.mul_zero, Nat.reduceMul, Nat.reducePow]
  congr 1
  simp only [List.cons.injEq, Value.int.injEq, true_and, and_true]
  omega

set_option maxRecDepth 100000 in
theorem wof_any (h l n : Nat) (w : World) (hh : h < 2 ^ 64) (hl : l < 2 ^ 64) (hn : h * 2 ^ 64 + l = n) :
    Calls Try.prog 95 #[.agg #[.int .u64 h, .int .u64 l]] w fun e w' => e = .returned (.agg (qA n)) ∧ Below w.heap.size w w' := by
  have e1 := and32 l hl
  have e2 := and32 h hh
  have e3 : (l : Int) / 4294967296 = ((l / 2 ^ 32 : Nat) : Int) := by omega
  have e4 : (h : Int) / 4294967296 = ((h / 2 ^ 32 : Nat) : Int) := by omega
  have HE := Lib.hid (of_dg h l n hh hl hn)
  generalize l % 2 ^ 32 = a at *
  generalize l / 2 ^ 32 = b at *
  generalize h % 2 ^ 32 = c at *
  generalize h / 2 ^ 32 = d at *
  clear hh hl hn
  go_enter Try.func95, Try.ntmps95
  go_wp2
  refine bodyPost_ret (v := .agg (qA n)) (by rw [← HE.out]; simp [results, Try.results95, go_sem]) rfl ⟨rfl, ((Below.refl _ _).alloc (Nat.le_refl _) _).alloc (by simp) _⟩

theorem or32 (a b : Nat) (ha : a < 2 ^ 32) (hb : b < 2 ^ 32) : bits BinOp.or IntKind.u64 (IntKind.u64.wrap ((a : Int) * 4294967296)) (b : Int) = ((a * 2 ^ 32 + b : Nat) : Int) := by
  have e : IntKind.u64.wrap ((a : Int) * 4294967296) = ((a * 2 ^ 32 : Nat) : Int) := by rw [IntKind.wrap_u64]; omega
  rw [e, bits_or_u64_nat _ _ (by omega) (by omega), nat_join 32 _ _ (by omega) hb]
theorem dg_lt (n i : Nat) : dg n i < 2 ^ 32 := by unfold dg; exact Nat.mod_lt _ (by decide)
theorem dg_low (n : Nat) : (dg n 3 * 2 ^ 32 + dg n 2) * 2 ^ 64 + (dg n 1 * 2 ^ 32 + dg n 0) = n % 2 ^ 128 := by
  unfold dg; simp only [Nat.mul_zero, Nat.reduceMul, Nat.reducePow]; omega
/-- Whether a number has no more than 128 bits. -/
def few (n : Nat) : Bool := decide (n < 2 ^ 128)
theorem dg_high (n : Nat) (hn : n < 2 ^ 224) : few n = (decide (dg n 4 = 0) && decide (dg n 5 = 0) && decide (dg n 6 = 0)) := by
  unfold dg few; simp only [Nat.reduceMul, Nat.reducePow] at *
  rw [Bool.eq_iff_iff]; simp only [Bool.and_eq_true, decide_eq_true_eq]; omega

/-- Three parts are 0. -/
def nought (q4 q5 q6 : Nat) : Bool := decide (q4 = 0) && decide (q5 = 0) && decide (q6 = 0)

set_option maxRecDepth 100000 in
set_option maxHeartbeats 1000000 in
theorem qwide_aux (q0 q1 q2 q3 q4 q5 q6 h l : Nat) (w : World) (e1 : bits BinOp.or IntKind.u64 (IntKind.u64.wrap ((q3 : Int) * 4294967296)) (q2 : Int) = (h : Int)) (e2 : bits BinOp.or IntKind.u64 (IntKind.u64.wrap ((q1 : Int) * 4294967296)) (q0 : Int) = (l : Int)) :
    Calls Try.prog 98 #[.agg #[.int .u64 q0, .int .u64 q1, .int .u64 q2, .int .u64 q3, .int .u64 q4, .int .u64 q5, .int .u64 q6]] w fun e w' =>
      e = .returned (.tuple #[.agg #[.int .u64 h, .int .u64 l], .bool (nought q4 q5 q6)]) ∧ Below w.heap.size w w' := by
  by_cases z4 : q4 = 0
  · have t4 : ((q4 : Int) == 0) = true := by rw [z4]; rfl
    by_cases z5 : q5 = 0
    · have t5 : ((q5 : Int) == 0) = true := by rw [z5]; rfl
      obtain ⟨b, hb⟩ : ∃ b, ((q6 : Int) == 0) = b := ⟨_, rfl⟩
      have HF := Lib.hid (show nought q4 q5 q6 = b by unfold nought; rw [decide_eq_true z4, decide_eq_true z5, Bool.true_and, Bool.true_and, ← hb, Bool.eq_iff_iff]; simp)
      clear z4 z5
      go_enter Try.func98, Try.ntmps98
      go_wp2
      go_region
      go_wp2
      exact bodyPost_ret (v := .tuple #[.agg #[.int .u64 h, .int .u64 l], .bool b]) (by simp [results, Try.results98, go_sem]) rfl ⟨by rw [HF.out], (((Below.refl _ _).alloc (Nat.le_refl _) _).alloc (by simp) _).drew⟩
    · have t5 : ((q5 : Int) == 0) = false := by simpa using z5
      have HF := Lib.hid (show nought q4 q5 q6 = false by unfold nought; rw [decide_eq_false z5, Bool.and_false, Bool.false_and])
      clear z4 z5
      go_enter Try.func98, Try.ntmps98
      go_wp2
      go_region
      go_wp2
      exact bodyPost_ret (v := .tuple #[.agg #[.int .u64 h, .int .u64 l], .bool false]) (by simp [results, Try.results98, go_sem]) rfl ⟨by rw [HF.out], (((Below.refl _ _).alloc (Nat.le_refl _) _).alloc (by simp) _).drew⟩
  · have t4 : ((q4 : Int) == 0) = false := by simpa using z4
    have HF := Lib.hid (show nought q4 q5 q6 = false by unfold nought; rw [decide_eq_false z4, Bool.false_and, Bool.false_and])
    clear z4
    go_enter Try.func98, Try.ntmps98
    go_wp2
    go_region
    go_wp2
    exact bodyPost_ret (v := .tuple #[.agg #[.int .u64 h, .int .u64 l], .bool false]) (by simp [results, Try.results98, go_sem]) rfl ⟨by rw [HF.out], (((Below.refl _ _).alloc (Nat.le_refl _) _).alloc (by simp) _).drew⟩

theorem two32 (a b : Nat) (ha : a < 2 ^ 32) (hb : b < 2 ^ 32) : a * 2 ^ 32 + b < 2 ^ 64 := by omega
theorem qwide_any (n : Nat) (w : World) (hn : n < 2 ^ 224) :
    Calls Try.prog 98 #[.agg (qA n)] w fun e w' => ∃ h l : Nat, e = .returned (.tuple #[.agg #[.int .u64 h, .int .u64 l], .bool (few n)]) ∧ h < 2 ^ 64 ∧ l < 2 ^ 64 ∧ h * 2 ^ 64 + l = n % 2 ^ 128 ∧ Below w.heap.size w w' := by
  rw [qA_lit]
  refine (qwide_aux (dg n 0) (dg n 1) (dg n 2) (dg n 3) (dg n 4) (dg n 5) (dg n 6) _ _ w (or32 _ _ (dg_lt n 3) (dg_lt n 2)) (or32 _ _ (dg_lt n 1) (dg_lt n 0))).mono ?_
  rintro e w' ⟨rfl, hb⟩
  exact ⟨_, _, by rw [dg_high n hn]; rfl, two32 _ _ (dg_lt n 3) (dg_lt n 2), two32 _ _ (dg_lt n 1) (dg_lt n 0), dg_low n, hb⟩

end Go.Proofs.Ytoljahfofkmdaaa

/-! package wide's quotient on seven parts: its contract, whatever the world. -/
namespace Go.Proofs.Ytoljahfofkmdaaa
open Go.RowKit

theorem quart_info : (Try.prog.info? 135).map (fun i => (i.zero, i.size)) = some (some (.agg #[.int .u64 0, .int .u64 0, .int .u64 0, .int .u64 0, .int .u64 0, .int .u64 0, .int .u64 0]), 7) := by kernel_rfl
theorem zero_of_info' {P : Program} {t : TypeId} {v : Value} {n : Nat} (h : (P.info? t).map (fun i => (i.zero, i.size)) = some (some v, n)) (w : World) : (zeroValue t).run P w = .ok v w := by
  cases hq : P.info? t with
  | none => simp [hq] at h
  | some i => simp [hq] at h; simp [zeroValue, typeInfo, hq, h.1]
theorem setCell_drewN (w : World) (n : Nat) (p : Addr) (v : Value) : (w.drewN n).setCell p v = (w.setCell p v).drewN n := rfl
theorem qA_at (n k : Nat) (h : k < (qA n).size) : (qA n)[k] = .int .u64 (dg n k) := by simp [qA]
theorem qA_zero : qA 0 = #[.int .u64 0, .int .u64 0, .int .u64 0, .int .u64 0, .int .u64 0, .int .u64 0, .int .u64 0] := by
  rw [qA_lit]; unfold dg; simp

theorem quart_size (n : Nat) : (Try.prog.info? 135).map (·.size) = some (qA n).size := by
  rw [qA_size]
  have := quart_info
  cases hq : Try.prog.info? 135 with
  | none => simp [hq] at this
  | some i => simp [hq] at this ⊢; exact this.2
theorem qA_oneCell (n : Nat) : (qA n).all (·.oneCell') = true := by rw [qA_lit]; simp [Value.oneCell']
/-- Block g of w holds a number's parts. -/
@[reducible] def IsQ (w : World) (g n : Nat) : Prop := IsR w g (qA n) 135
section
variable {ops : Array Oper} {rest : List Oper} {o : Oper} {a : Act} {w : World} {Q : Exit → Act → World → Prop}
theorem wpQ_store (hgd : o.guard = none) (x y : Operand) (ho : o.op = .store 135 x y) (g : Nat) (hx : a.eval x = .pointer (some ⟨g, 0, none⟩)) (n m : Nat) (hy : a.eval y = .agg (qA n))
    (hg : IsQ w g m) (hK : ∀ w1 : World, Put g (qA n) 135 w w1 → wpList Try.prog ops Q rest (a.put o.dst undef) w1) : wpList Try.prog ops Q (o :: rest) a w :=
  wpR_store hgd _ x y ho g hx _ _ hy _ hg (quart_size n) (by rw [qA_size, qA_size]) (qA_oneCell n) hK
theorem wpQ_load (hgd : o.guard = none) (x : Operand) (ho : o.op = .load 135 x) (g : Nat) (hx : a.eval x = .pointer (some ⟨g, 0, none⟩)) (n : Nat)
    (hg : IsQ w g n) (hK : wpList Try.prog ops Q rest (a.put o.dst (.agg (qA n))) w) : wpList Try.prog ops Q (o :: rest) a w :=
  wpList_load_row hgd _ x ho g hx _ _ _ _ hg Try.underlying135 rfl (quart_size n) hK
variable {fn : Func} {R : Ending → World → Prop} {tmps : Array Value} {p q r : Tmp} {g n : Nat}
theorem retQ (hf : fn.results = #[.cell p 135]) (hp : tmps.getD p undef = .pointer (some ⟨g, 0, none⟩)) (hg : IsQ w g n) (hR : R (.returned (.agg (qA n))) w) :
    bodyPost Try.prog fn R .ret { tmps, defers := [] } w := ret_row hf hp hg Try.underlying135 rfl (quart_size n) hR
theorem retQ1 (hf : fn.results = #[.cell p 135, .tmp q]) (hp : tmps.getD p undef = .pointer (some ⟨g, 0, none⟩)) (v : Value) (hq : tmps.getD q undef = v) (hg : IsQ w g n)
    (hR : R (.returned (.tuple #[.agg (qA n), v])) w) : bodyPost Try.prog fn R .ret { tmps, defers := [] } w := ret_row_tmp hf hp v hq hg Try.underlying135 rfl (quart_size n) hR
end

/-- The quotient's digits, set at one place. -/
theorem over_set (q i b : Nat) (_hi : i < 7) (hb : b < 32) :
    dg ((2 * q + 1) * 2 ^ (32 * i + b)) i = dg (q * 2 ^ (32 * i + b + 1)) i + 2 ^ b ∧ dg (q * 2 ^ (32 * i + b + 1)) i % 2 ^ (b + 1) = 0 ∧
      ∀ j, j ≠ i → dg ((2 * q + 1) * 2 ^ (32 * i + b)) j = dg (q * 2 ^ (32 * i + b + 1)) j := by
  have e1 : (2 * q + 1) * 2 ^ (32 * i + b) = ((2 * q + 1) * 2 ^ b) * 2 ^ (32 * i) := by rw [Nat.pow_add, Nat.mul_comm (2 ^ (32 * i)), Nat.mul_assoc]
  have e2 : q * 2 ^ (32 * i + b + 1) = (q * 2 ^ (b + 1)) * 2 ^ (32 * i) := by rw [Nat.add_assoc, Nat.pow_add, Nat.mul_comm (2 ^ (32 * i)), Nat.mul_assoc]
  have e3 : 2 ^ 32 = 2 ^ (b + 1) * 2 ^ (31 - b) := by rw [← Nat.pow_add]; congr 1; omega
  have d1 : dg (q * 2 ^ (32 * i + b + 1)) i = (q % 2 ^ (31 - b)) * 2 ^ (b + 1) := by
    unfold dg
    rw [e2, Nat.mul_div_cancel _ (Nat.two_pow_pos _), e3, Nat.mul_comm q, Nat.mul_mod_mul_left, Nat.mul_comm]
  have hp := Nat.two_pow_pos b
  have e4 : (2 * q + 1) * 2 ^ b = 2 ^ (b + 1) * q + 2 ^ b := by rw [Nat.pow_succ, Nat.add_mul, Nat.one_mul, Nat.mul_comm (2 ^ b) 2, Nat.mul_assoc, Nat.mul_assoc, Nat.mul_comm q]
  refine ⟨?_, ?_, fun j hj => ?_⟩
  · rw [d1]
    unfold dg
    rw [e1, Nat.mul_div_cancel _ (Nat.two_pow_pos _), e4, e3, Nat.mod_mul, Nat.mul_add_mod, Nat.mod_eq_of_lt (show 2 ^ b < 2 ^ (b + 1) by rw [Nat.pow_succ]; omega), Nat.mul_add_div (Nat.two_pow_pos _),
      Nat.div_eq_of_lt (show 2 ^ b < 2 ^ (b + 1) by rw [Nat.pow_succ]; omega), Nat.add_zero, Nat.mul_comm (2 ^ (b + 1)), Nat.add_comm]
    rfl
  · rw [d1]; exact Nat.mul_mod_left _ _
  · unfold dg
    rcases Nat.lt_or_ge j i with h | h
    · have z : ∀ x, x * 2 ^ (32 * i) / 2 ^ (32 * j) % 2 ^ 32 = 0 := fun x => by
        have : 2 ^ (32 * i) = 2 ^ (32 * (i - j - 1)) * 2 ^ 32 * 2 ^ (32 * j) := by rw [← Nat.pow_add, ← Nat.pow_add]; congr 1; omega
        rw [this, ← Nat.mul_assoc, Nat.mul_div_cancel _ (Nat.two_pow_pos _), ← Nat.mul_assoc]; exact Nat.mul_mod_left _ _
      rw [e1, e2, z, z]
    · have h' : i < j := by omega
      have z : 2 ^ (32 * j) = 2 ^ (32 * i) * (2 ^ (b + 1) * 2 ^ (32 * (j - i) - (b + 1))) := by rw [← Nat.pow_add, ← Nat.pow_add]; congr 1; omega
      rw [e1, e2, z, Nat.mul_comm _ (2 ^ (32 * i)), Nat.mul_comm _ (2 ^ (32 * i)), Nat.mul_div_mul_left _ _ (Nat.two_pow_pos _), Nat.mul_div_mul_left _ _ (Nat.two_pow_pos _), ← Nat.div_div_eq_div_mul, ← Nat.div_div_eq_div_mul, e4,
        Nat.mul_add_div (Nat.two_pow_pos _), Nat.div_eq_of_lt (show 2 ^ b < 2 ^ (b + 1) by rw [Nat.pow_succ]; omega), Nat.add_zero, Nat.mul_div_cancel _ (Nat.two_pow_pos _)]

theorem over_or (r x y b : Nat) (_hr : r < 2 ^ 64) (hy : y < 2 ^ 32) (hx : x = y / 2 ^ b % 2) :
    bits BinOp.or IntKind.u64 (IntKind.u64.wrap ((r : Int) * 2)) (bits BinOp.and IntKind.u64 ((y : Int) / 2 ^ b) 1) = (((2 * r + x) % 2 ^ 64 : Nat) : Int) := by
  have h1 : (y : Int) / 2 ^ b = ((y / 2 ^ b : Nat) : Int) := by simp
  have h2 : y / 2 ^ b < 2 ^ 64 := Nat.lt_of_le_of_lt (Nat.div_le_self _ _) (by omega)
  rw [h1, show (1 : Int) = ((1 : Nat) : Int) from rfl, bits_and_u64_nat _ _ h2 (by decide), nat_mask1, ← hx]
  have h3 : IntKind.u64.wrap ((r : Int) * 2) = ((2 * r % 2 ^ 64 : Nat) : Int) := by rw [IntKind.wrap_u64]; omega
  have h4 : x < 2 := by subst hx; exact Nat.mod_lt _ (by decide)
  rw [h3, bits_or_u64_nat _ _ (by omega) (by omega), nat_join 1 _ _ (by omega) (by omega)]
  congr 1
  omega
theorem over_bor (y b : Nat) (hb : b < 32) (hy : y < 2 ^ 32) (h0 : y % 2 ^ (b + 1) = 0) : bits BinOp.or IntKind.u64 (y : Int) (IntKind.u64.wrap (2 ^ b)) = ((y + 2 ^ b : Nat) : Int) := by
  have hp : 2 ^ b < 2 ^ 32 := Nat.pow_lt_pow_right (by decide) hb
  have e : IntKind.u64.wrap (2 ^ b) = ((2 ^ b : Nat) : Int) := by
    rw [IntKind.wrap_u64]
    have : ((2 ^ b : Nat) : Int) = (2 : Int) ^ b := by simp
    omega
  rw [e, bits_or_u64_nat _ _ (by omega) (by omega), nat_join (b + 1) _ _ h0 (Nat.pow_lt_pow_right (by decide) (by omega))]
theorem over_bit (n i b : Nat) (hb : b < 32) : dg n i / 2 ^ b % 2 = (n.testBit (32 * i + b)).toNat := by
  have h : (dg n i).testBit b = n.testBit (32 * i + b) := by
    unfold dg
    rw [Nat.testBit_mod_two_pow, Nat.testBit_div_two_pow]
    simp [hb, Nat.add_comm]
  rw [← h, Nat.testBit_eq_decide_div_mod_eq]
  have : dg n i / 2 ^ b % 2 < 2 := Nat.mod_lt _ (by decide)
  by_cases h1 : dg n i / 2 ^ b % 2 = 1
  · simp [h1]
  · simp [h1]; omega

set_option maxRecDepth 100000 in
set_option maxHeartbeats 1000000 in
theorem over_any (n d : Nat) (w : World) (hn : n < 2 ^ 224) (hd0 : 0 < d) (hd : d < 2 ^ 64) :
    Calls Try.prog 97 #[.agg (qA n), .int .u64 d] w fun e w' => e = .returned (.tuple #[.agg (qA (n / d)), .int .u64 (n % d : Nat)]) ∧ Below w.heap.size w w' := by
  have hz : ∀ w, (zeroValue 135).run Try.prog w = .ok (.agg (qA 0)) w := fun w => by
    rw [qA_zero]
    exact (zero_of_info' quart_info) w
  have H0 := Lib.hid (show n / 2 ^ 224 = 0 from Nat.div_eq_of_lt hn)
  have HD := Lib.hid hd
  have HD0 := Lib.hid hd0
  clear hn hd hd0
  go_enter Try.func97, Try.ntmps97
  go_wp2_with fail
  go_loopw [7, 8] (fun rest i wr => ∃ k c : Nat, k ≤ 7 ∧ i = .int .i64 ((k : Int) - 1) ∧ rest = .int .u64 ((n / 2 ^ (32 * k) % d : Nat) : Int) ∧
      wr = (((w.alloc (Obj.cells (qA n) 135)).alloc (Obj.cells (qA 0) 135)).alloc (Obj.cells (qA (n / 2 ^ (32 * k) / d * 2 ^ (32 * k))) 135)).drewN c)
    (fun _ i _ => (intOf i + 1).toNat)
  case atStart => exact ⟨7, 0, by omega, rfl, by rw [H0.out, Nat.zero_mod]; rfl, by rw [H0.out, Nat.zero_div, Nat.zero_mul]; rfl⟩
  case round =>
    obtain ⟨k, c, hk, rfl, rfl, rfl⟩ := hrel
    by_cases hlt : 1 ≤ k
    · obtain ⟨i, rfl⟩ : ∃ i, k = i + 1 := ⟨k - 1, by omega⟩
      have e : (((i + 1 : Nat) : Int) - 1) = (i : Int) := by omega
      rw [e]
      clear e
      have hi : (i : Int) < 7 := by omega
      obtain ⟨wo, hwo⟩ : ∃ wo : World, wo = (((w.alloc (Obj.cells (qA n) 135)).alloc (Obj.cells (qA 0) 135)).alloc (Obj.cells (qA (n / 2 ^ (32 * (i + 1)) / d * 2 ^ (32 * (i + 1)))) 135)).drewN c := ⟨_, rfl⟩
      have Hwo := Lib.hid hwo
      rw [← hwo]
      clear hwo
      go_wp2_with fail
      go_loopw [7, 9] (fun rest bi wr => ∃ k c : Nat, k ≤ 32 ∧ bi = .int .i64 ((k : Int) - 1) ∧ rest = .int .u64 ((n / 2 ^ (32 * i + k) % d : Nat) : Int) ∧
          wr = (((w.alloc (Obj.cells (qA n) 135)).alloc (Obj.cells (qA 0) 135)).alloc (Obj.cells (qA (n / 2 ^ (32 * i + k) / d * 2 ^ (32 * i + k))) 135)).drewN c)
        (fun _ bi _ => (intOf bi + 1).toNat)
      case atStart => exact ⟨32, c, by omega, rfl, rfl, Hwo.out⟩
      case round =>
        clear Hwo
        obtain ⟨k, c, hk2, rfl, rfl, rfl⟩ := hrel
        by_cases hlt2 : 1 ≤ k
        · obtain ⟨b, rfl⟩ : ∃ b, k = b + 1 := ⟨k - 1, by omega⟩
          have e : (((b + 1 : Nat) : Int) - 1) = (b : Int) := by omega
          rw [e]
          clear e
          have hb : (b : Int) < 32 := by omega
          have hi7 : i < 7 := by omega
          have hcell := qA_get n i hi7
          have hsz := qA_size (n / 2 ^ (32 * i + (b + 1)) / d * 2 ^ (32 * i + (b + 1)))
          have ho := qA_at (n / 2 ^ (32 * i + (b + 1)) / d * 2 ^ (32 * i + (b + 1))) i (by rw [hsz]; exact hi7)
          have hq := quot_step n d (32 * i + b) HD0.out
          rw [Nat.add_assoc] at hq
          have hrd := Nat.mod_lt (n / 2 ^ (32 * i + (b + 1))) HD0.out
          generalize n / 2 ^ (32 * i + (b + 1)) % d = r at hq hrd ⊢
          generalize n / 2 ^ (32 * i + (b + 1)) / d = q at hq hsz ho ⊢
          have hbit := over_bit n i b (by omega)
          have hx1 := Bool.toNat_le (n.testBit (32 * i + b))
          have hO := over_or r _ (dg n i) b (by have := HD.out; omega) (dg_lt n i) hbit.symm
          clear hbit
          generalize (n.testBit (32 * i + b)).toNat = x at hq hx1 hO
          obtain ⟨s1, s2, s3⟩ := over_set q i b hi7 (by omega)
          rw [Nat.add_assoc] at s1 s2 s3
          have HS := Lib.hid (qA_set _ _ i _ rfl (fun j _ hj => s3 j hj))
          have hW := over_bor (dg (q * 2 ^ (32 * i + (b + 1))) i) b (by omega) (dg_lt _ _) s2
          rw [← s1] at hW
          have hd64 := HD.out
          have hr64 : 2 * r + x < 2 * d := by omega
          clear s1 s2 s3
          by_cases hA : 2 * r + x < d
          · rw [if_pos hA] at hq
            have hT : ((r : Int) / 9223372036854775808 == 1) = false := by rw [beq_eq_false_iff_ne]; omega
            have e1 : (2 * r + x) % 2 ^ 64 = 2 * r + x := Nat.mod_eq_of_lt (by omega)
            rw [e1] at hO
            have HQ := Lib.hid hq
            have hA' : ((2 * r + x : Nat) : Int) < (d : Int) := by omega
            clear hq e1 hd64 hr64 hA HS hrd hW
            generalize 2 * r + x = r1 at hO HQ hA'
            go_wp2_with fail
            exact ⟨⟨b, c, by omega, rfl, by rw [HQ.out.1], by rw [HQ.out.2, show q * 2 ^ (32 * i + (b + 1)) = 2 * q * 2 ^ (32 * i + b) by rw [← Nat.add_assoc, Nat.pow_succ, Nat.mul_comm 2 q, Nat.mul_assoc, Nat.mul_comm 2]]⟩, by simp [intOf]⟩
          · rw [if_neg hA] at hq
            have hsub : IntKind.u64.wrap ((((2 * r + x) % 2 ^ 64 : Nat) : Int) - (d : Int)) = ((2 * r + x - d : Nat) : Int) := by rw [IntKind.wrap_u64]; omega
            have HQ := Lib.hid hq
            by_cases hT : 2 ^ 63 ≤ r
            · have hT' : ((r : Int) / 9223372036854775808 == 1) = true := by rw [beq_iff_eq]; omega
              clear hq hd64 hr64 hrd hT hA
              generalize (2 * r + x) % 2 ^ 64 = r1 at hO hsub
              generalize 2 * r + x - d = r2 at hsub HQ
              go_wp2_with fail
              go_region
              go_wp2_with fail
              refine ⟨⟨b, c + 1, by omega, rfl, by rw [HQ.out.1], ?_⟩, by simp [intOf]⟩
              rw [HQ.out.2, setCell_drewN, World.setCell_alloc_at _ _ _ _ _ (by simp), HS.out]
            · have hT' : ((r : Int) / 9223372036854775808 == 1) = false := by rw [beq_eq_false_iff_ne]; omega
              have hge : (d : Int) ≤ (((2 * r + x) % 2 ^ 64 : Nat) : Int) := by omega
              clear hq hd64 hr64 hrd hT hA
              generalize (2 * r + x) % 2 ^ 64 = r1 at hO hsub hge
              generalize 2 * r + x - d = r2 at hsub HQ
              go_wp2_with fail
              go_region
              go_wp2_with fail
              refine ⟨⟨b, c + 1, by omega, rfl, by rw [HQ.out.1], ?_⟩, by simp [intOf]⟩
              rw [HQ.out.2, setCell_drewN, World.setCell_alloc_at _ _ _ _ _ (by simp), HS.out]
        · obtain rfl : k = 0 := by omega
          have e : (((0 : Nat) : Int) - 1) = -1 := rfl
          rw [e, Nat.add_zero]
          clear e
          go_wp2_with fail
          go_roundw
          case rel => exact ⟨i, c, by omega, rfl, rfl, rfl⟩
          case measure => simp [intOf]
    · obtain rfl : k = 0 := by omega
      have e : (((0 : Nat) : Int) - 1) = -1 := rfl
      have e2 : n / 2 ^ (32 * 0) / d * 2 ^ (32 * 0) = n / d := by simp
      have e3 : n / 2 ^ (32 * 0) % d = n % d := by simp
      rw [e, e2, e3]
      clear e e2 e3
      have f1 : IsQ ((((w.alloc (Obj.cells (qA n) 135)).alloc (Obj.cells (qA 0) 135)).alloc (Obj.cells (qA (n / d)) 135)).drewN c) (w.heap.size + 1 + 1) (n / d) := by
        show (((w.alloc (Obj.cells (qA n) 135)).alloc (Obj.cells (qA 0) 135)).alloc (Obj.cells (qA (n / d)) 135)).heap[_]? = _
        exact (by repeat (first | (with_reducible refine heap_top _ _ _ ?_; first | (simp; done) | (simp; omega)) | rw [Below.heap_alloc _ _ _ (by first | (simp; done) | (simp; omega))]))
      have f2 : IsQ ((((w.alloc (Obj.cells (qA n) 135)).alloc (Obj.cells (qA 0) 135)).alloc (Obj.cells (qA (n / d)) 135)).drewN c) (w.heap.size + 1) 0 := by
        show (((w.alloc (Obj.cells (qA n) 135)).alloc (Obj.cells (qA 0) 135)).alloc (Obj.cells (qA (n / d)) 135)).heap[_]? = _
        exact (by repeat (first | (with_reducible refine heap_top _ _ _ ?_; first | (simp; done) | (simp; omega)) | rw [Below.heap_alloc _ _ _ (by first | (simp; done) | (simp; omega))]))
      have f3 : Below w.heap.size w ((((w.alloc (Obj.cells (qA n) 135)).alloc (Obj.cells (qA 0) 135)).alloc (Obj.cells (qA (n / d)) 135)).drewN c) :=
        below_drewN ((((Below.refl _ _).alloc (Nat.le_refl _) _).alloc (by simp) _).alloc (by simp; omega) _) c
      generalize (((w.alloc (Obj.cells (qA n) 135)).alloc (Obj.cells (qA 0) 135)).alloc (Obj.cells (qA (n / d)) 135)).drewN c = W at f1 f2 f3 ⊢
      go_wp2_with (first
        | (with_reducible refine wpQ_load rfl (.tmp 6) rfl (w.heap.size + 1 + 1) rfl (n / d) f1 ?_)
        | (with_reducible refine wpQ_store rfl (.tmp 4) (.tmp 47) rfl (w.heap.size + 1) rfl (n / d) 0 rfl f2 ?_; intro w1 hp1))
      exact retQ1 rfl rfl (.int .u64 (n % d : Nat)) rfl hp1.row ⟨rfl, hp1.below _ _ (by omega) f3⟩

end Go.Proofs.Ytoljahfofkmdaaa

/-! package wide's product on seven parts: its contract, whatever the world. -/
namespace Go.Proofs.Ytoljahfofkmdaaa
open Go.RowKit

theorem qA_ext (a b : Nat) (h : ∀ j, j < 7 → dg a j = dg b j) : qA a = qA b := by
  unfold qA; congr 1; funext i; rw [h _ i.isLt]
theorem dg_mod (a j : Nat) (h : j < 7) : dg (a % 2 ^ 224) j = dg a j := by
  unfold dg
  have e : (2 : Nat) ^ 224 = 2 ^ (32 * j) * (2 ^ 32 * 2 ^ (224 - 32 * j - 32)) := by rw [← Nat.pow_add, ← Nat.pow_add]; congr 1; omega
  rw [e, Nat.mod_mul_right_div_self, Nat.mod_mul_right_mod]
theorem qA_mod (a : Nat) : qA (a % 2 ^ 224) = qA a := qA_ext _ _ fun j h => dg_mod a j h
theorem qA_cong (a b : Nat) (h : a % 2 ^ 224 = b % 2 ^ 224) : qA a = qA b := by rw [← qA_mod a, h, qA_mod]

/-- The digit at place j of r + o 2^(32 j); and the number with another digit there. -/
theorem dg_at (r o j : Nat) (hr : r < 2 ^ (32 * j)) : dg (r + o * 2 ^ (32 * j)) j = o % 2 ^ 32 := by
  unfold dg
  rw [Nat.add_mul_div_right _ _ (Nat.two_pow_pos _), Nat.div_eq_of_lt hr, Nat.zero_add]
theorem pow32 (j : Nat) : 2 ^ (32 * (j + 1)) = 2 ^ (32 * j) * 2 ^ 32 := by rw [← Nat.pow_add]; congr 1
theorem digit_low (r x A P C : Nat) (hA : 0 < A) : (r + x * (A * (P * C))) / A % P = r / A % P := by
  have e : x * (A * (P * C)) = A * (P * (C * x)) := by rw [Nat.mul_comm x, Nat.mul_assoc, Nat.mul_assoc]
  rw [e, Nat.add_comm, Nat.mul_add_div hA, Nat.mul_add_mod]
theorem digit_high (r x B P D : Nat) (hr : r < B) : (r + x * B) / (B * (P * D)) = x / P / D := by
  rw [← Nat.div_div_eq_div_mul, ← Nat.div_div_eq_div_mul, Nat.add_mul_div_right _ _ (by omega), Nat.div_eq_of_lt hr, Nat.zero_add]
theorem dg_low' (r x i j : Nat) (h : i < j) : dg (r + x * 2 ^ (32 * j)) i = dg r i := by
  have e : 2 ^ (32 * j) = 2 ^ (32 * i) * (2 ^ 32 * 2 ^ (32 * (j - i - 1))) := by rw [← Nat.pow_add, ← Nat.pow_add]; congr 1; omega
  unfold dg
  rw [e]
  exact digit_low _ _ _ _ _ (Nat.two_pow_pos _)
theorem dg_high' (r x i j : Nat) (h : j < i) (hr : r < 2 ^ (32 * j)) : dg (r + x * 2 ^ (32 * j)) i = x / 2 ^ 32 / 2 ^ (32 * (i - j - 1)) % 2 ^ 32 := by
  have e : 2 ^ (32 * i) = 2 ^ (32 * j) * (2 ^ 32 * 2 ^ (32 * (i - j - 1))) := by rw [← Nat.pow_add, ← Nat.pow_add]; congr 1; omega
  unfold dg
  rw [e, digit_high _ _ _ _ _ hr]
theorem regroup (r v t B P : Nat) : r + v * B + t * (B * P) = r + (v + t * P) * B := by
  rw [Nat.add_mul, Nat.mul_assoc, Nat.mul_comm P, Nat.add_assoc]
theorem top_drop (v t P : Nat) (hv : v < P) : (v + t * P) / P = t ∧ (v + t * P) % P = v := by
  refine ⟨?_, ?_⟩
  · rw [Nat.add_mul_div_right _ _ (by omega), Nat.div_eq_of_lt hv, Nat.zero_add]
  · rw [Nat.add_mul_mod_self_right, Nat.mod_eq_of_lt hv]
theorem qA_digit (r o v j : Nat) (hr : r < 2 ^ (32 * j)) (hv : v < 2 ^ 32) :
    (qA (r + o * 2 ^ (32 * j))).setIfInBounds j (.int .u64 (v : Int)) = qA (r + v * 2 ^ (32 * j) + o / 2 ^ 32 * 2 ^ (32 * (j + 1))) := by
  obtain ⟨d1, d2⟩ := top_drop v (o / 2 ^ 32) (2 ^ 32) hv
  have e : r + v * 2 ^ (32 * j) + o / 2 ^ 32 * 2 ^ (32 * (j + 1)) = r + (v + o / 2 ^ 32 * 2 ^ 32) * 2 ^ (32 * j) := by
    rw [pow32]; exact regroup _ _ _ _ _
  have h1 : dg (r + (v + o / 2 ^ 32 * 2 ^ 32) * 2 ^ (32 * j)) j = v := by rw [dg_at _ _ _ hr, d2]
  have h2 : ∀ i, i < 7 → i ≠ j → dg (r + (v + o / 2 ^ 32 * 2 ^ 32) * 2 ^ (32 * j)) i = dg (r + o * 2 ^ (32 * j)) i := fun i _ hi => by
    rcases Nat.lt_or_ge i j with h | h
    · rw [dg_low' _ _ _ _ h, dg_low' _ _ _ _ h]
    · rw [dg_high' _ _ _ _ (by omega) hr, dg_high' _ _ _ _ (by omega) hr, d1]
  rw [e]
  generalize r + (v + o / 2 ^ 32 * 2 ^ 32) * 2 ^ (32 * j) = M at h1 h2 ⊢
  generalize r + o * 2 ^ (32 * j) = N at h2 ⊢
  exact qA_set N M j (v : Int) (by rw [h1]) h2

/-- One step of adding with a carry: the sum stays. -/
theorem add_step (r c o y x f S j : Nat) (hS : S = c + (o % 2 ^ 32 + y * f)) :
    r + (c + o + (y + 2 ^ 32 * x) * f) * 2 ^ (32 * j) = (r + S % 2 ^ 32 * 2 ^ (32 * j)) + (S / 2 ^ 32 + o / 2 ^ 32 + x * f) * 2 ^ (32 * (j + 1)) := by
  have ho := Nat.div_add_mod o (2 ^ 32)
  have hs := Nat.div_add_mod S (2 ^ 32)
  generalize o % 2 ^ 32 = a at *
  generalize o / 2 ^ 32 = b at *
  generalize S % 2 ^ 32 = v at *
  generalize S / 2 ^ 32 = t at *
  rw [pow32, Nat.add_mul y, Nat.mul_assoc (2 ^ 32) x f]
  generalize y * f = p at *
  generalize x * f = g at *
  have e : c + o + (p + 2 ^ 32 * g) = v + (t + b + g) * 2 ^ 32 := by omega
  rw [e, Nat.add_mul, Nat.mul_assoc, Nat.mul_comm (2 ^ 32)]
  simp only [Nat.add_assoc]
theorem add_lt (r v j : Nat) (hr : r < 2 ^ (32 * j)) (hv : v < 2 ^ 32) : r + v * 2 ^ (32 * j) < 2 ^ (32 * (j + 1)) := by
  rw [pow32, Nat.mul_comm (2 ^ (32 * j))]
  have : (v + 1) * 2 ^ (32 * j) ≤ 2 ^ 32 * 2 ^ (32 * j) := Nat.mul_le_mul_right _ hv
  rw [Nat.add_mul, Nat.one_mul] at this
  omega
theorem mul_lt32 (y f : Nat) (hy : y < 2 ^ 32) (hf : f < 2 ^ 32) : y * f ≤ 18446744065119617025 := Nat.mul_le_mul (show y ≤ 4294967295 by omega) (show f ≤ 4294967295 by omega)

theorem idx2 (x0 x1 : Value) (i : Nat) (hi : i < 2) (w : World) : (Instr.index 145 (.agg #[x0, x1]) (.int .i64 (i : Int))).run Try.prog w = .ok (if i = 0 then x0 else x1) w := by
  have h : i = 0 ∨ i = 1 := by omega
  rcases h with rfl | rfl
  · simp [Instr.index, go_sem]
  · simp [Instr.index, go_sem]
theorem mul_step (n k : Nat) : n / 2 ^ (32 * k) = dg n k + 2 ^ 32 * (n / 2 ^ (32 * (k + 1))) := by
  unfold dg
  rw [pow32, ← Nat.div_div_eq_div_mul, Nat.mod_add_div]

theorem mod_cong (r x O P z : Nat) (h : r + x * P = O + z) : r % P = (O + z) % P := by rw [← h, Nat.add_mul_mod_self_right]
theorem times_next (n m f0 f1 f i O N r z : Nat) (hi : i < 2) (hf : f = if i = 0 then f0 else f1) (hm : m = f0 + f1 * 2 ^ 32) (hO : O % 2 ^ 224 = (n * (if i = 0 then 0 else if i = 1 then f0 else m)) % 2 ^ 224)
    (h : r + z * 2 ^ (32 * 7) = O + n * f * 2 ^ (32 * i)) (o : Nat) (hN : N = r + o * 2 ^ (32 * 7)) : N % 2 ^ 224 = (n * (if i + 1 = 0 then 0 else if i + 1 = 1 then f0 else m)) % 2 ^ 224 := by
  have e0 : (2 : Nat) ^ (32 * 7) = 2 ^ 224 := by congr 1
  rw [e0] at h hN
  have e1 : N % 2 ^ 224 = (O + n * f * 2 ^ (32 * i)) % 2 ^ 224 := by rw [hN, Nat.add_mul_mod_self_right]; exact mod_cong _ _ _ _ _ h
  rw [e1, Nat.add_mod, hO, ← Nat.add_mod]
  have h2 : i = 0 ∨ i = 1 := by omega
  rcases h2 with rfl | rfl
  · simp [hf]
  · have hf' : f = f1 := by simpa using hf
    have e2 : (if 1 + 1 = 0 then 0 else if 1 + 1 = 1 then f0 else m) = m := by simp
    have e3 : (if 1 = 0 then 0 else if 1 = 1 then f0 else m) = f0 := by simp
    rw [e2, e3, hf', hm, Nat.mul_add, Nat.mul_assoc, Nat.mul_one]
theorem add_step0 (r c o S j : Nat) (hS : S = c + o % 2 ^ 32) : r + (c + o) * 2 ^ (32 * j) = (r + S % 2 ^ 32 * 2 ^ (32 * j)) + (S / 2 ^ 32 + o / 2 ^ 32) * 2 ^ (32 * (j + 1)) := by
  have := add_step r c o 0 0 0 S j (by omega)
  simpa using this
theorem more_next (M m f0 f1 f i O N r z : Nat) (hi : i < 2) (hf : f = if i = 0 then f0 else f1) (hm : m = f0 + f1 * 2 ^ 32) (hO : O % 2 ^ 224 = (M + (if i = 0 then 0 else if i = 1 then f0 else m)) % 2 ^ 224)
    (h : r + z * 2 ^ (32 * 7) = O + f * 2 ^ (32 * i)) (o : Nat) (hN : N = r + o * 2 ^ (32 * 7)) : N % 2 ^ 224 = (M + (if i + 1 = 0 then 0 else if i + 1 = 1 then f0 else m)) % 2 ^ 224 := by
  have e0 : (2 : Nat) ^ (32 * 7) = 2 ^ 224 := by congr 1
  rw [e0] at h hN
  have e1 : N % 2 ^ 224 = (O + f * 2 ^ (32 * i)) % 2 ^ 224 := by rw [hN, Nat.add_mul_mod_self_right]; exact mod_cong _ _ _ _ _ h
  rw [e1, Nat.add_mod, hO, ← Nat.add_mod]
  have h2 : i = 0 ∨ i = 1 := by omega
  rcases h2 with rfl | rfl
  · simp [hf]
  · have hf' : f = f1 := by simpa using hf
    have e2 : (if 1 + 1 = 0 then 0 else if 1 + 1 = 1 then f0 else m) = m := by simp
    have e3 : (if 1 = 0 then 0 else if 1 = 1 then f0 else m) = f0 := by simp
    rw [e2, e3, hf', hm, Nat.add_assoc, Nat.mul_one]

set_option maxRecDepth 100000 in
set_option maxHeartbeats 1000000 in
theorem times_any (n m more : Nat) (w : World) (hm : m < 2 ^ 64) (hmore : more < 2 ^ 64) :
    Calls Try.prog 96 #[.agg (qA n), .int .u64 m, .int .u64 more] w fun e w' => e = .returned (.agg (qA (n * m + more))) ∧ Below w.heap.size w w' := by
  have hz : ∀ w, (zeroValue 135).run Try.prog w = .ok (.agg (qA 0)) w := fun w => by
    rw [qA_zero]
    exact (zero_of_info' quart_info) w
  have e1 := and32 m hm
  have e2 := and32 more hmore
  have e3 : (m : Int) / 4294967296 = ((m / 2 ^ 32 : Nat) : Int) := by omega
  have e4 : (more : Int) / 4294967296 = ((more / 2 ^ 32 : Nat) : Int) := by omega
  have F0 := Lib.hid (show m % 2 ^ 32 < 2 ^ 32 from Nat.mod_lt _ (by decide))
  have F1 := Lib.hid (show m / 2 ^ 32 < 2 ^ 32 by omega)
  have F2 := Lib.hid (show m = m % 2 ^ 32 + m / 2 ^ 32 * 2 ^ 32 by omega)
  have G0 := Lib.hid (show more % 2 ^ 32 < 2 ^ 32 from Nat.mod_lt _ (by decide))
  have G1 := Lib.hid (show more / 2 ^ 32 < 2 ^ 32 by omega)
  have G2 := Lib.hid (show more = more % 2 ^ 32 + more / 2 ^ 32 * 2 ^ 32 by omega)
  generalize m % 2 ^ 32 = f0 at *
  generalize m / 2 ^ 32 = f1 at *
  generalize more % 2 ^ 32 = g0 at *
  generalize more / 2 ^ 32 = g1 at *
  have hm0 : 0 ≤ (m : Int) := by omega
  have hm1 : 0 ≤ (more : Int) := by omega
  clear hm hmore
  go_enter Try.func96, Try.ntmps96
  go_wp2_with fail
  go_loopw [21] (fun t wr => ∃ i c O : Nat, i ≤ 2 ∧ t = .int .i64 i ∧ Hid (O % 2 ^ 224 = (n * (if i = 0 then 0 else if i = 1 then f0 else m)) % 2 ^ 224) ∧
      wr = (((w.alloc (Obj.cells (qA n) 135)).alloc (Obj.cells (qA 0) 135)).alloc (Obj.cells (qA O) 135)).drewN c)
    (fun t _ => 2 - (intOf t).toNat)
  case atStart => exact ⟨0, 0, 0, by omega, rfl, rfl, rfl⟩
  case round =>
    obtain ⟨i, c0, O, hi, rfl, HO, rfl⟩ := hrel
    by_cases hlt : i < 2
    · have hi2 : (i : Int) < 2 := by omega
      have hidx := idx2 (.int .u64 (f0 : Int)) (.int .u64 (f1 : Int)) i hlt
      obtain ⟨f, hf⟩ : ∃ f, f = if i = 0 then f0 else f1 := ⟨_, rfl⟩
      have hff : (if i = 0 then Value.int .u64 (f0 : Int) else .int .u64 (f1 : Int)) = .int .u64 (f : Int) := by rw [hf]; split <;> rfl
      rw [hff] at hidx
      have FF := Lib.hid (show f < 2 ^ 32 by rw [hf]; split <;> first | exact F0.out | exact F1.out)
      have HF := Lib.hid hf
      clear hff hf
      obtain ⟨wo, hwo⟩ : ∃ wo : World, wo = (((w.alloc (Obj.cells (qA n) 135)).alloc (Obj.cells (qA 0) 135)).alloc (Obj.cells (qA O) 135)).drewN c0 := ⟨_, rfl⟩
      have Hwo := Lib.hid hwo
      rw [← hwo]
      clear hwo
      go_wp2_with fail
      go_loopw [10, 11] (fun t10 t11 wr => ∃ k r c o g : Nat, k + i ≤ 7 ∧ t11 = .int .i64 k ∧ t10 = .int .u64 c ∧ Hid (c < 2 ^ 32) ∧ Hid (r < 2 ^ (32 * (k + i))) ∧ Hid (r + (c + o + n / 2 ^ (32 * k) * f) * 2 ^ (32 * (k + i)) = O + n * f * 2 ^ (32 * i)) ∧
          wr = (((w.alloc (Obj.cells (qA n) 135)).alloc (Obj.cells (qA 0) 135)).alloc (Obj.cells (qA (r + o * 2 ^ (32 * (k + i)))) 135)).drewN g)
        (fun _ t11 _ => 7 - (intOf t11).toNat)
      case atStart =>
        refine ⟨0, O % 2 ^ (32 * i), 0, O / 2 ^ (32 * i), c0, by omega, rfl, rfl, (by decide : 0 < 2 ^ 32), ?_, ?_, ?_⟩
        · rw [Nat.zero_add]; exact (Nat.mod_lt _ (Nat.two_pow_pos _) : _ < _)
        · show _ = _
          rw [Nat.zero_add, Nat.mul_zero, Nat.pow_zero, Nat.div_one, Nat.zero_add, Nat.add_mul, ← Nat.add_assoc, Nat.mod_add_div']
        · rw [Nat.zero_add, Nat.mod_add_div']; exact Hwo.out
      case round =>
        clear Hwo hidx
        obtain ⟨k, r, c, o, g, hk, rfl, rfl, HC, HR, HT, rfl⟩ := hrel
        by_cases hlt2 : k + i < 7
        · have hk7 : k < 7 := by omega
          have hb1 : (k : Int) + (i : Int) < 7 := by omega
          have hb2 : (k : Int) < 7 := by omega
          have hq := qA_get n k hk7
          have hsz := qA_size (r + o * 2 ^ (32 * (k + i)))
          have ho := qA_at (r + o * 2 ^ (32 * (k + i))) (k + i) (by rw [hsz]; exact hlt2)
          rw [dg_at _ _ _ HR.out] at ho
          have hp := mul_lt32 (dg n k) f (dg_lt n k) FF.out
          have ha : o % 2 ^ 32 < 4294967296 := Nat.mod_lt _ (by decide)
          have hc : c < 4294967296 := HC.out
          obtain ⟨S, hS⟩ : ∃ S, S = c + (o % 2 ^ 32 + dg n k * f) := ⟨_, rfl⟩
          have hcast : (c : Int) + (((o % 2 ^ 32 : Nat) : Int) + (dg n k : Int) * (f : Int)) = (S : Int) := by rw [hS]; simp
          have hS64 : S < 2 ^ 64 := by omega
          have hv := and32 S hS64
          have hcar : (S : Int) / 4294967296 = ((S / 2 ^ 32 : Nat) : Int) := by omega
          have hp1 : (dg n k : Int) * (f : Int) ≤ 18446744065119617025 := by rw [← Int.natCast_mul]; exact Int.ofNat_le.2 hp
          have hp0 : 0 ≤ (dg n k : Int) * (f : Int) := by rw [← Int.natCast_mul]; exact Int.natCast_nonneg _
          have ha' : ((o % 2 ^ 32 : Nat) : Int) < 4294967296 := Int.ofNat_lt.2 ha
          have hS0 : 0 ≤ (S : Int) := Int.natCast_nonneg _
          have HV := Lib.hid (show S % 2 ^ 32 < 2 ^ 32 from Nat.mod_lt _ (by decide))
          have HTT := Lib.hid (show S / 2 ^ 32 < 2 ^ 32 by omega)
          have HADD := Lib.hid (add_step r c o (dg n k) (n / 2 ^ (32 * (k + 1))) f S (k + i) hS)
          rw [← mul_step] at HADD
          have HD := Lib.hid (qA_digit r o (S % 2 ^ 32) (k + i) HR.out HV.out)
          have HLT := Lib.hid (add_lt r (S % 2 ^ 32) (k + i) HR.out HV.out)
          clear hS hS64 hp ha
          generalize S % 2 ^ 32 = v at *
          generalize S / 2 ^ 32 = t at *
          generalize hoa : o % 2 ^ 32 = a at ho hcast ha'
          clear hoa
          go_wp2_with fail
          go_quiet (fail)
          go_wp2_with fail
          refine ⟨⟨k + 1, r + v * 2 ^ (32 * (k + i)), t, o / 2 ^ 32, g + nq, by omega, by go_num, rfl, HTT.out, ?_, ?_, ?_⟩, by simp [intOf]; omega⟩
          · rw [show k + 1 + i = k + i + 1 by omega]; exact HLT.out
          · show _ = _
            rw [show k + 1 + i = k + i + 1 by omega, ← HADD.out]; exact HT.out
          · rw [show k + 1 + i = k + i + 1 by omega, setCell_drewN, World.setCell_alloc_at _ _ _ _ _ (by simp), HD.out]
        · have hb1 : 7 ≤ (k : Int) + (i : Int) := by omega
          have hki : k + i = 7 := by omega
          have HO2 := Lib.hid (times_next n m f0 f1 f i O (r + o * 2 ^ (32 * (k + i))) r _ hlt HF.out F2.out HO.out (by have := HT.out; rwa [hki] at this) o (by rw [hki]))
          generalize r + o * 2 ^ (32 * (k + i)) = N at HO2 ⊢
          clear hki HT HO HR
          go_wp2_with fail
          exact ⟨⟨i + 1, g, N, by omega, by go_num, HO2.out, rfl⟩, by simp [intOf]; omega⟩
    · have hi2 : 2 ≤ (i : Int) := by omega
      have HO' : Hid (O % 2 ^ 224 = (n * m) % 2 ^ 224) := by
        obtain rfl : i = 2 := by omega
        exact HO.out
      clear HO
      go_wp2_with fail
      go_loopw [58] (fun t wr => ∃ i c O : Nat, i ≤ 2 ∧ t = .int .i64 i ∧ Hid (O % 2 ^ 224 = (n * m + (if i = 0 then 0 else if i = 1 then g0 else more)) % 2 ^ 224) ∧
          wr = (((w.alloc (Obj.cells (qA n) 135)).alloc (Obj.cells (qA 0) 135)).alloc (Obj.cells (qA O) 135)).drewN c)
        (fun t _ => 2 - (intOf t).toNat)
      case atStart => exact ⟨0, c0, O, by omega, rfl, HO'.out, rfl⟩
      case round =>
        clear HO'
        obtain ⟨i, c0, O, hi, rfl, HO, rfl⟩ := hrel
        by_cases hlt : i < 2
        · have hi2 : (i : Int) < 2 := by omega
          have hidx := idx2 (.int .u64 (g0 : Int)) (.int .u64 (g1 : Int)) i hlt
          obtain ⟨f, hf⟩ : ∃ f, f = if i = 0 then g0 else g1 := ⟨_, rfl⟩
          have hff : (if i = 0 then Value.int .u64 (g0 : Int) else .int .u64 (g1 : Int)) = .int .u64 (f : Int) := by rw [hf]; split <;> rfl
          rw [hff] at hidx
          have FF := Lib.hid (show f < 2 ^ 32 by rw [hf]; split <;> first | exact G0.out | exact G1.out)
          have HF := Lib.hid hf
          clear hff hf
          obtain ⟨wo, hwo⟩ : ∃ wo : World, wo = (((w.alloc (Obj.cells (qA n) 135)).alloc (Obj.cells (qA 0) 135)).alloc (Obj.cells (qA O) 135)).drewN c0 := ⟨_, rfl⟩
          have Hwo := Lib.hid hwo
          rw [← hwo]
          clear hwo
          go_wp2_with fail
          go_loopw [14, 15] (fun t14 t15 wr => ∃ k r c o g : Nat, k ≤ 7 ∧ t15 = .int .i64 k ∧ t14 = .int .u64 c ∧ Hid (c < 2 ^ 32) ∧ Hid (r < 2 ^ (32 * k)) ∧ Hid (r + (c + o) * 2 ^ (32 * k) = O + f * 2 ^ (32 * i)) ∧
              wr = (((w.alloc (Obj.cells (qA n) 135)).alloc (Obj.cells (qA 0) 135)).alloc (Obj.cells (qA (r + o * 2 ^ (32 * k))) 135)).drewN g)
            (fun _ t15 _ => 7 - (intOf t15).toNat)
          case atStart =>
            refine ⟨i, O % 2 ^ (32 * i), f, O / 2 ^ (32 * i), c0, by omega, rfl, rfl, FF.out, (Nat.mod_lt _ (Nat.two_pow_pos _) : _ < _), ?_, ?_⟩
            · show _ = _
              rw [Nat.add_comm f, Nat.add_mul, ← Nat.add_assoc, Nat.mod_add_div']
            · rw [Nat.mod_add_div']; exact Hwo.out
          case round =>
            clear Hwo hidx
            obtain ⟨k, r, c, o, g, hk, rfl, rfl, HC, HR, HT, rfl⟩ := hrel
            by_cases hlt2 : k < 7
            · have hb2 : (k : Int) < 7 := by omega
              have hsz := qA_size (r + o * 2 ^ (32 * k))
              have ho := qA_at (r + o * 2 ^ (32 * k)) k (by rw [hsz]; exact hlt2)
              rw [dg_at _ _ _ HR.out] at ho
              have ha : o % 2 ^ 32 < 4294967296 := Nat.mod_lt _ (by decide)
              have hc : c < 4294967296 := HC.out
              obtain ⟨S, hS⟩ : ∃ S, S = c + o % 2 ^ 32 := ⟨_, rfl⟩
              have hcast : (c : Int) + ((o % 2 ^ 32 : Nat) : Int) = (S : Int) := by rw [hS]; simp
              have hS64 : S < 2 ^ 64 := by omega
              have hv := and32 S hS64
              have hcar : (S : Int) / 4294967296 = ((S / 2 ^ 32 : Nat) : Int) := by omega
              have ha' : ((o % 2 ^ 32 : Nat) : Int) < 4294967296 := Int.ofNat_lt.2 ha
              have hS0 : 0 ≤ (S : Int) := Int.natCast_nonneg _
              have HV := Lib.hid (show S % 2 ^ 32 < 2 ^ 32 from Nat.mod_lt _ (by decide))
              have HTT := Lib.hid (show S / 2 ^ 32 < 2 ^ 32 by omega)
              have HADD := Lib.hid (add_step0 r c o S k hS)
              have HD := Lib.hid (qA_digit r o (S % 2 ^ 32) k HR.out HV.out)
              have HLT := Lib.hid (add_lt r (S % 2 ^ 32) k HR.out HV.out)
              clear hS hS64 ha
              generalize S % 2 ^ 32 = v at *
              generalize S / 2 ^ 32 = t at *
              generalize hoa : o % 2 ^ 32 = a at ho hcast ha'
              clear hoa
              go_wp2_with fail
              refine ⟨⟨k + 1, r + v * 2 ^ (32 * k), t, o / 2 ^ 32, g, by omega, by go_num, rfl, HTT.out, HLT.out, ?_, ?_⟩, by simp [intOf]; omega⟩
              · show _ = _
                rw [← HADD.out]; exact HT.out
              · rw [setCell_drewN, World.setCell_alloc_at _ _ _ _ _ (by simp), HD.out]
            · have hb1 : 7 ≤ (k : Int) := by omega
              have hki : k = 7 := by omega
              have HO2 := Lib.hid (more_next (n * m) more g0 g1 f i O (r + o * 2 ^ (32 * k)) r _ hlt HF.out G2.out HO.out (by have := HT.out; rwa [hki] at this) o (by rw [hki]))
              generalize r + o * 2 ^ (32 * k) = N at HO2 ⊢
              clear hki HT HO HR
              go_wp2_with fail
              exact ⟨⟨i + 1, g, N, by omega, by go_num, HO2.out, rfl⟩, by simp [intOf]; omega⟩
        · have hi2 : 2 ≤ (i : Int) := by omega
          have HN : Hid (qA O = qA (n * m + more)) := by
            obtain rfl : i = 2 := by omega
            exact qA_cong _ _ HO.out
          clear HO
          have f1 : IsQ ((((w.alloc (Obj.cells (qA n) 135)).alloc (Obj.cells (qA 0) 135)).alloc (Obj.cells (qA O) 135)).drewN c0) (w.heap.size + 1 + 1) O := by
            show (((w.alloc (Obj.cells (qA n) 135)).alloc (Obj.cells (qA 0) 135)).alloc (Obj.cells (qA O) 135)).heap[_]? = _
            exact (by repeat (first | (with_reducible refine heap_top _ _ _ ?_; first | (simp; done) | (simp; omega)) | rw [Below.heap_alloc _ _ _ (by first | (simp; done) | (simp; omega))]))
          have f2 : IsQ ((((w.alloc (Obj.cells (qA n) 135)).alloc (Obj.cells (qA 0) 135)).alloc (Obj.cells (qA O) 135)).drewN c0) (w.heap.size + 1) 0 := by
            show (((w.alloc (Obj.cells (qA n) 135)).alloc (Obj.cells (qA 0) 135)).alloc (Obj.cells (qA O) 135)).heap[_]? = _
            exact (by repeat (first | (with_reducible refine heap_top _ _ _ ?_; first | (simp; done) | (simp; omega)) | rw [Below.heap_alloc _ _ _ (by first | (simp; done) | (simp; omega))]))
          have f3 : Below w.heap.size w ((((w.alloc (Obj.cells (qA n) 135)).alloc (Obj.cells (qA 0) 135)).alloc (Obj.cells (qA O) 135)).drewN c0) :=
            below_drewN ((((Below.refl _ _).alloc (Nat.le_refl _) _).alloc (by simp) _).alloc (by simp; omega) _) c0
          generalize (((w.alloc (Obj.cells (qA n) 135)).alloc (Obj.cells (qA 0) 135)).alloc (Obj.cells (qA O) 135)).drewN c0 = W at f1 f2 f3 ⊢
          go_wp2_with (first
            | (with_reducible refine wpQ_load rfl (.tmp 7) rfl (w.heap.size + 1 + 1) rfl O f1 ?_)
            | (with_reducible refine wpQ_store rfl (.tmp 6) (.tmp 80) rfl (w.heap.size + 1) rfl O 0 rfl f2 ?_; intro w1 hp1))
          exact retQ rfl rfl hp1.row ⟨by rw [HN.out], hp1.below _ _ (by omega) f3⟩

end Go.Proofs.Ytoljahfofkmdaaa

/-! The functions of mainsheetref03 on rows of 256 bits: their contracts, whatever the world. -/
namespace Go.Proofs.Ytoljahfofkmdaaa
open Go.RowKit

theorem bits_info : (Try.prog.info? 110).map (fun i => (i.zero, i.size)) = some (some (.agg (Array.replicate 256 (.bool false))), 256) := by kernel_rfl
theorem bits_zero (w : World) : (zeroValue 110).run Try.prog w = .ok (.agg (bA 0)) w := by
  rw [bA_zero]; exact (zero_of_info bits_info).1 w
theorem bits_size (n : Nat) : (Try.prog.info? 110).map (·.size) = some (bA n).size := by
  rw [bA_size]; exact (zero_of_info bits_info).2

section
variable {ops : Array Oper} {rest : List Oper} {o : Oper} {a : Act} {w : World} {Q : Exit → Act → World → Prop}
/-- A row of bits is read whole. -/
theorem wpB_load (hgd : o.guard = none) (x : Operand) (ho : o.op = .load 110 x) (g : Nat) (hx : a.eval x = .pointer (some ⟨g, 0, none⟩)) (n : Nat)
    (hg : w.heap[g]? = some (.cells (bA n) 110 (0, 0))) (h : wpList Try.prog ops Q rest (a.put o.dst (.agg (bA n))) w) : wpList Try.prog ops Q (o :: rest) a w :=
  wpList_load_row hgd _ x ho g hx _ _ _ _ hg Try.underlying110 rfl (bits_size n) h
/-- A row of bits is written whole. -/
theorem wpB_store (hgd : o.guard = none) (x y : Operand) (ho : o.op = .store 110 x y) (g : Nat) (hx : a.eval x = .pointer (some ⟨g, 0, none⟩)) (n m : Nat) (hy : a.eval y = .agg (bA n))
    (hg : w.heap[g]? = some (.cells (bA m) 110 (0, 0)))
    (h : ∀ w1 : World, w1.heap[g]? = some (.cells (bA n) 110 (0, 0)) → (∀ k, k ≠ g → w1.heap[k]? = w.heap[k]?) → (∀ B w0, B ≤ g → Below B w0 w → Below B w0 w1) → w1.heap.size = w.heap.size →
      wpList Try.prog ops Q rest (a.put o.dst undef) w1) : wpList Try.prog ops Q (o :: rest) a w :=
  wpList_store_row hgd _ x y ho g _ hx hy _ _ hg (bits_size n) (by rw [bA_size, bA_size]) (bA_oneCell n)
    (h _ (setRow_heap w g _ _ _ _ hg) (fun k hk => setRow_other w g k _ hk) (fun _ _ hB hb => below_setRow hb hB _) (by simp))
/-- A result that is a row of bits in a cell of its own. -/
theorem bits_ret {fn : Func} {p : Tmp} {R : Ending → World → Prop} {tmps : Array Value} (h : fn.results = #[.cell p 110]) (g n : Nat)
    (hp : tmps.getD p undef = .pointer (some ⟨g, 0, none⟩)) (hg : w.heap[g]? = some (.cells (bA n) 110 (0, 0))) (hR : R (.returned (.agg (bA n))) w) :
    bodyPost Try.prog fn R .ret { tmps, defers := [] } w :=
  bodyPost_ret (results_cell_row h tmps w g _ _ _ _ hp hg Try.underlying110 rfl (bits_size n)) rfl hR
end

set_option maxRecDepth 100000 in
set_option maxHeartbeats 400000 in
theorem sum_any (a b : Nat) (w : World) :
    Calls Try.prog 89 #[.agg (bA a), .agg (bA b)] w fun e w' => e = .returned (.agg (bA (a + b))) ∧ Below w.heap.size w w' := by
  have hz := bits_zero
  go_enter Try.func89, Try.ntmps89
  go_wp2_with fail
  go_loopw [6, 7] (fun c i wr => ∃ k : Nat, k ≤ 256 ∧ i = .int .i64 k ∧ c = .bool (decide (2 ^ k ≤ sAt a b k)) ∧
      wr = (((w.alloc (Obj.cells (bA a) 110)).alloc (Obj.cells (bA b) 110)).alloc (Obj.cells (bA 0) 110)).alloc (Obj.cells (bA (sAt a b k % 2 ^ k)) 110))
    (fun _ i _ => 256 - (intOf i).toNat)
  case atStart => exact ⟨0, by omega, rfl, by simp [sAt, Nat.mod_one], by simp [sAt, Nat.mod_one]⟩
  case round =>
    obtain ⟨k, hk, rfl, rfl, rfl⟩ := hrel
    by_cases hlt : k < 256
    · have hlt' : (k : Int) < 256 := by omega
      have hA := bA_get a k hlt
      have hB := bA_get b k hlt
      have hS := bA_size (sAt a b k % 2 ^ k)
      obtain ⟨x, hx⟩ : ∃ x, a.testBit k = x := ⟨_, rfl⟩
      obtain ⟨y, hy⟩ : ∃ y, b.testBit k = y := ⟨_, rfl⟩
      obtain ⟨c, hc⟩ : ∃ c, decide (2 ^ k ≤ sAt a b k) = c := ⟨_, rfl⟩
      rw [hx] at hA; rw [hy] at hB; rw [hc]
      have hs := sum_step a b k (x.toNat + y.toNat + c.toNat) (by rw [hx, hy, hc])
      have hm' : sAt a b k % 2 ^ k < 2 ^ k := Nat.mod_lt _ (Nat.two_pow_pos k)
      clear hx hy hc
      generalize sAt a b k % 2 ^ k = m at hS hs hm' ⊢
      have Hs := Lib.hid hs; clear hs
      have Hm := Lib.hid hm'; clear hm'
      cases x <;> cases y <;> cases c
      all_goals
        go_wp2_with fail
        exact ⟨⟨k + 1, by omega, by go_num, by rw [Hs.out.2]; rfl, by rw [Hs.out.1, bA_set _ _ _ Hm.out]; rfl⟩, by simp [intOf]; omega⟩
    · have hlt' : 256 ≤ (k : Int) := by omega
      have e : bA (sAt a b k % 2 ^ k) = bA (a + b) := by
        obtain rfl : k = 256 := by omega
        rw [sAt, ← Nat.add_mod, bA_mod]
      rw [e]
      clear e
      generalize decide (2 ^ k ≤ sAt a b k) = c
      go_wp2_with (first
        | (with_reducible refine wpB_load rfl (.tmp 5) rfl (w.heap.size + 1 + 1 + 1) rfl (a + b) (by repeat (first | (with_reducible refine heap_top _ _ _ ?_; first | (simp; done) | (simp; omega)) | rw [Below.heap_alloc _ _ _ (by first | (simp; done) | (simp; omega))])) ?_)
        | (with_reducible refine wpB_store rfl (.tmp 4) (.tmp 33) rfl (w.heap.size + 1 + 1) rfl (a + b) 0 rfl (by repeat (first | (with_reducible refine heap_top _ _ _ ?_; first | (simp; done) | (simp; omega)) | rw [Below.heap_alloc _ _ _ (by first | (simp; done) | (simp; omega))])) ?_; intro w1 h1 h2 h3 h4))
      refine bits_ret (g := w.heap.size + 1 + 1) (n := a + b) rfl rfl h1 ⟨rfl, ?_⟩
      exact h3 _ _ (by omega) (((((Below.refl _ _).alloc (by simp) _).alloc (by simp) _).alloc (by simp; omega) _).alloc (by simp; omega) _)
end Go.Proofs.Ytoljahfofkmdaaa

/-! More of mainsheetref03's functions on rows of 256 bits: their contracts, whatever the world. -/
namespace Go.Proofs.Ytoljahfofkmdaaa
open Go.RowKit

set_option maxRecDepth 100000 in
set_option maxHeartbeats 400000 in
theorem twice_any (a : Nat) (w : World) :
    Calls Try.prog 88 #[.agg (bA a)] w fun e w' => e = .returned (.agg (bA (2 * a))) ∧ Below w.heap.size w w' := by
  have hz := bits_zero
  go_enter Try.func88, Try.ntmps88
  go_wp2_with fail
  go_loopw [4] (fun i wr => ∃ k : Nat, 1 ≤ k ∧ k ≤ 256 ∧ i = .int .i64 k ∧
      wr = ((w.alloc (Obj.cells (bA a) 110)).alloc (Obj.cells (bA 0) 110)).alloc (Obj.cells (bA ((2 * a) % 2 ^ k)) 110))
    (fun i _ => 256 - (intOf i).toNat)
  case atStart => exact ⟨1, by omega, by omega, rfl, by simp⟩
  case round =>
    obtain ⟨k, hk1, hk, rfl, rfl⟩ := hrel
    by_cases hlt : k < 256
    · have hlt' : (k : Int) < 256 := by omega
      have hk1' : 1 ≤ (k : Int) := by omega
      have hA := bA_get a (k - 1) (by omega)
      have hS := bA_size ((2 * a) % 2 ^ k)
      have Hs := Lib.hid (twice_step a k hk1)
      have hm' : (2 * a) % 2 ^ k < 2 ^ k := Nat.mod_lt _ (Nat.two_pow_pos k)
      generalize a.testBit (k - 1) = x at hA Hs
      have Hm := Lib.hid hm'; clear hm'
      go_wp2_with fail
      exact ⟨⟨k + 1, by omega, by omega, by go_num, by rw [Hs.out, bA_set _ _ _ Hm.out]⟩, by simp [intOf]; omega⟩
    · have hlt' : 256 ≤ (k : Int) := by omega
      have e : bA ((2 * a) % 2 ^ k) = bA (2 * a) := by
        obtain rfl : k = 256 := by omega
        rw [bA_mod]
      rw [e]
      clear e
      go_wp2_with (first
        | (with_reducible refine wpB_load rfl (.tmp 3) rfl (w.heap.size + 1 + 1) rfl (2 * a) (by repeat (first | with_reducible exact heap_top _ _ _ (by simp) | rw [Below.heap_alloc _ _ _ (by simp)] | rw [Below.heap_alloc _ _ _ (by simp; omega)])) ?_)
        | (with_reducible refine wpB_store rfl (.tmp 2) (.tmp 15) rfl (w.heap.size + 1) rfl (2 * a) 0 rfl (by repeat (first | with_reducible exact heap_top _ _ _ (by simp) | rw [Below.heap_alloc _ _ _ (by simp)] | rw [Below.heap_alloc _ _ _ (by simp; omega)])) ?_; intro w1 h1 h2 h3 h4))
      refine bits_ret (g := w.heap.size + 1) (n := 2 * a) rfl rfl h1 ⟨rfl, ?_⟩
      exact h3 _ _ (by omega) ((((Below.refl _ _).alloc (by simp) _).alloc (by simp) _).alloc (by simp; omega) _)

set_option maxRecDepth 100000 in
set_option maxHeartbeats 400000 in
theorem less_any (a b : Nat) (w : World) (ha : a < 2 ^ 256) (hb : b < 2 ^ 256) :
    Calls Try.prog 70 #[.agg (bA a), .agg (bA b)] w fun e w' => e = .returned (.bool (decide (a < b))) ∧ Below w.heap.size w w' := by
  have Hab := Lib.hid (show a / 2 ^ 256 = b / 2 ^ 256 by rw [Nat.div_eq_of_lt ha, Nat.div_eq_of_lt hb])
  clear ha hb
  go_enter Try.func70, Try.ntmps70
  go_wp2_with fail
  go_loopw [5] (fun i wr => ∃ k : Nat, k ≤ 256 ∧ i = .int .i64 ((k : Int) - 1) ∧ Hid (a / 2 ^ k = b / 2 ^ k) ∧
      ∃ n, wr = ((w.alloc (Obj.cells (bA a) 110)).alloc (Obj.cells (bA b) 110)).drewN n)
    (fun i _ => (intOf i + 1).toNat)
  case atStart => exact ⟨256, by omega, rfl, Hab, 0, rfl⟩
  case round =>
    obtain ⟨k, hk, rfl, Hk, n, rfl⟩ := hrel
    by_cases hlt : 1 ≤ k
    · obtain ⟨j, rfl⟩ : ∃ j, k = j + 1 := ⟨k - 1, by omega⟩
      have e : (((j + 1 : Nat) : Int) - 1) = (j : Int) := by omega
      rw [e]
      clear e
      have hj : (j : Int) < 256 := by omega
      have hA := bA_get a j (by omega)
      have hB := bA_get b j (by omega)
      have HS := Lib.hid (less_stop a b j Hk.out)
      have HG := Lib.hid (less_go a b j Hk.out)
      clear Hk
      generalize a.testBit j = x at hA HS HG
      generalize b.testBit j = y at hB HS HG
      cases x <;> cases y
      all_goals
        go_wp2_with fail
        go_quiet (fail)
        go_wp2_with fail
      · exact ⟨⟨j, by omega, rfl, HG.out trivial, _, rfl⟩, by simp [intOf]⟩
      · go_ret
        exact ⟨by rw [HS.out (by simp)]; rfl, below_drewN (((Below.refl _ _).alloc (Nat.le_refl _) _).alloc (by simp) _) _⟩
      · go_ret
        exact ⟨by rw [HS.out (by simp)]; rfl, below_drewN (((Below.refl _ _).alloc (Nat.le_refl _) _).alloc (by simp) _) _⟩
      · exact ⟨⟨j, by omega, rfl, HG.out trivial, _, rfl⟩, by simp [intOf]⟩
    · obtain rfl : k = 0 := by omega
      have hd : decide (a < b) = false := by simpa using (show ¬ a < b by have := Hk.out; simp at this; omega)
      have Hd := Lib.hid hd; clear hd
      have e : (((0 : Nat) : Int) - 1) = -1 := rfl
      rw [e]
      clear Hk e
      go_wp2_with fail
      go_ret
      exact ⟨by rw [Hd.out]; rfl, below_drewN (((Below.refl _ _).alloc (Nat.le_refl _) _).alloc (by simp) _) _⟩
end Go.Proofs.Ytoljahfofkmdaaa

/-! mainsheetref03's product and quotient on rows of 256 bits: their contracts, whatever the world. -/
namespace Go.Proofs.Ytoljahfofkmdaaa
open Go.RowKit

section
variable {ops : Array Oper} {rest : List Oper} {o : Oper} {a : Act} {w : World} {Q : Exit → Act → World → Prop}
end

/-- A block of bits in a world. -/
@[reducible] def IsB (w : World) (g n : Nat) : Prop := w.heap[g]? = some (.cells (bA n) 110 (0, 0))

set_option maxRecDepth 100000 in
set_option maxHeartbeats 400000 in
theorem prod_any (a m : Nat) (w : World) (hm : m < 2 ^ 64) :
    Calls Try.prog 68 #[.agg (bA a), .int .u64 m] w fun e w' => e = .returned (.agg (bA (a * m))) ∧ Below w.heap.size w w' := by
  have hz := bits_zero
  have H0 := Lib.hid (show m / 2 ^ 64 = 0 from Nat.div_eq_of_lt hm)
  have hm0 : 0 ≤ (m : Int) := by omega
  clear hm
  go_enter Try.func68, Try.ntmps68
  go_wp2_with fail
  go_loopw [6] (fun i wr => ∃ k : Nat, k ≤ 64 ∧ i = .int .i64 ((k : Int) - 1) ∧ IsB wr w.heap.size a ∧ IsB wr (w.heap.size + 1) 0 ∧ IsB wr (w.heap.size + 1 + 1) (a * (m / 2 ^ k)) ∧ Below w.heap.size w wr ∧ w.heap.size + 1 + 1 < wr.heap.size)
    (fun i _ => (intOf i + 1).toNat)
  case atStart =>
    refine ⟨64, by omega, rfl, ?_, ?_, ?_, ?_, by simp⟩
    · unfold IsB; exact (by repeat (first | (with_reducible refine heap_top _ _ _ ?_; first | (simp; done) | (simp; omega)) | rw [Below.heap_alloc _ _ _ (by first | (simp; done) | (simp; omega))]))
    · unfold IsB; exact (by repeat (first | (with_reducible refine heap_top _ _ _ ?_; first | (simp; done) | (simp; omega)) | rw [Below.heap_alloc _ _ _ (by first | (simp; done) | (simp; omega))]))
    · rw [H0.out, Nat.mul_zero]; unfold IsB; exact (by repeat (first | (with_reducible refine heap_top _ _ _ ?_; first | (simp; done) | (simp; omega)) | rw [Below.heap_alloc _ _ _ (by first | (simp; done) | (simp; omega))]))
    · exact (((Below.refl _ _).alloc (Nat.le_refl _) _).alloc (by simp) _).alloc (by simp; omega) _
  case round =>
    obtain ⟨k, hk, rfl, hA, hR, hX, hbel, hsz⟩ := hrel
    by_cases hlt : 1 ≤ k
    · obtain ⟨j, rfl⟩ : ∃ j, k = j + 1 := ⟨k - 1, by omega⟩
      have e : (((j + 1 : Nat) : Int) - 1) = (j : Int) := by omega
      rw [e]
      clear e
      have hj : (j : Int) < 64 := by omega
      have HP := Lib.hid (prod_step a m j)
      have ht := bit_tmod m j
      generalize a * (m / 2 ^ (j + 1)) = X at hX HP
      generalize m.testBit j = x at HP ht
      cases x
      all_goals go_wp2_with (first
        | (with_reducible refine wpB_load rfl (.tmp 5) rfl (w.heap.size + 1 + 1) rfl _ (by with_reducible assumption) ?_)
        | (with_reducible refine wpB_load rfl (.tmp 2) rfl (w.heap.size) rfl _ (by with_reducible assumption) ?_)
        | (with_reducible refine wpB_store rfl (.tmp 5) (.tmp 12) rfl (w.heap.size + 1 + 1) rfl (2 * X) X rfl (by with_reducible assumption) ?_; intro w2 g1 g2 g3 g4; have hA2 := (g2 w.heap.size (by omega)).trans hA1; have hR2 := (g2 (w.heap.size + 1) (by omega)).trans hR1; have hbel2 := g3 _ _ (by omega) hbel1; have hsz2 : w.heap.size + 1 + 1 < w2.heap.size := by omega)
        | (go_at_call 88; refine (twice_any _ _).mono ?_; rintro e w1 ⟨rfl, hb1⟩; have hA1 := (hb1.block _ (by omega)).trans hA; have hR1 := (hb1.block _ (by omega)).trans hR; have hX1 := (hb1.block _ (by omega)).trans hX; have hbel1 := hbel.trans (hb1.mono (by omega)); have hsz1 : w.heap.size + 1 + 1 < w1.heap.size := by have := hb1.size; omega)
        | (with_reducible refine wpB_store rfl (.tmp 5) (.tmp 21) rfl (w.heap.size + 1 + 1) rfl (2 * X + a) (2 * X) rfl (by with_reducible assumption) ?_; intro w4 k1 k2 k3 k4; have hA4 := (k2 w.heap.size (by omega)).trans hA3; have hR4 := (k2 (w.heap.size + 1) (by omega)).trans hR3; have hbel4 := k3 _ _ (by omega) hbel3; have hsz4 : w.heap.size + 1 + 1 < w4.heap.size := by omega)
        | (go_at_call 89; refine (sum_any _ _ _).mono ?_; rintro e w3 ⟨rfl, hb3⟩; have hA3 := (hb3.block _ (by omega)).trans hA2; have hR3 := (hb3.block _ (by omega)).trans hR2; have hX3 := (hb3.block _ (by omega)).trans g1; have hbel3 := hbel2.trans (hb3.mono (by omega)); have hsz3 : w.heap.size + 1 + 1 < w3.heap.size := by have := hb3.size; omega))
      · exact ⟨⟨j, by omega, rfl, hA2, hR2, by rw [HP.out]; exact g1, hbel2, hsz2⟩, by simp [intOf]⟩
      · exact ⟨⟨j, by omega, rfl, hA4, hR4, by rw [HP.out]; exact k1, hbel4, hsz4⟩, by simp [intOf]⟩
    · obtain rfl : k = 0 := by omega
      have e : (((0 : Nat) : Int) - 1) = -1 := rfl
      rw [e]
      have e2 : a * (m / 2 ^ 0) = a * m := by simp
      rw [e2] at hX
      clear e e2
      go_wp2_with (first
        | (with_reducible refine wpB_load rfl (.tmp 5) rfl (w.heap.size + 1 + 1) rfl (a * m) hX ?_)
        | (with_reducible refine wpB_store rfl (.tmp 4) (.tmp 22) rfl (w.heap.size + 1) rfl (a * m) 0 rfl hR ?_; intro w1 h1 h2 h3 h4))
      refine bits_ret (g := w.heap.size + 1) (n := a * m) rfl rfl h1 ⟨rfl, ?_⟩
      exact h3 _ _ (by omega) hbel
end Go.Proofs.Ytoljahfofkmdaaa

/-! mainsheetref03's quotient on rows of 256 bits: its contract, whatever the world. -/
namespace Go.Proofs.Ytoljahfofkmdaaa
open Go.RowKit

section
variable {ops : Array Oper} {C : (Nat → Bool) → World → Prop} {Q : Act → Prop} {o : Oper} {rest : List Oper} {i : Nat} {a : Act}
end

/-- The six blocks of the quotient's walk, in a world. -/
structure QW (B : Nat) (w0 : World) (a d out rest : Nat) (w : World) : Prop where
  a : IsB w B a
  d : IsB w (B + 1) d
  q0 : IsB w (B + 1 + 1) 0
  r0 : IsB w (B + 1 + 1 + 1) 0
  out : IsB w (B + 1 + 1 + 1 + 1) out
  rest : IsB w (B + 1 + 1 + 1 + 1 + 1) rest
  below : Below B w0 w
  size : B + 1 + 1 + 1 + 1 + 1 < w.heap.size

theorem QW.kept {B : Nat} {w0 w w1 : World} {a d out rest : Nat} (h : QW B w0 a d out rest w) (hb : Below w.heap.size w w1) : QW B w0 a d out rest w1 := by
  have hs := h.size
  have hb1 := hb.size
  exact ⟨(hb.block _ (by omega)).trans h.a, (hb.block _ (by omega)).trans h.d, (hb.block _ (by omega)).trans h.q0, (hb.block _ (by omega)).trans h.r0, (hb.block _ (by omega)).trans h.out,
    (hb.block _ (by omega)).trans h.rest, h.below.trans (hb.mono (by omega)), by omega⟩
end Go.Proofs.Ytoljahfofkmdaaa

/-! mainsheetref03's Of, Number and Scaled: their contracts, whatever the world. -/
namespace Go.Proofs.Ytoljahfofkmdaaa
open Go.RowKit

/-- The bits of a number's two halves, so many of each. -/
def ofAt (h l k : Nat) : Nat → Bool := fun j => if j < 64 then decide (j < k) && l.testBit j else decide (j - 64 < k) && h.testBit (j - 64)
theorem ofAt_zero (h l : Nat) : bF (ofAt h l 0) = bA 0 := by
  rw [bA_bF]; refine bF_ext _ _ fun k _ => ?_
  simp [ofAt]
theorem ofAt_step (h l k : Nat) (hk : k < 64) : ((bF (ofAt h l k)).setIfInBounds k (.bool (l.testBit k))).setIfInBounds (64 + k) (.bool (h.testBit k)) = bF (ofAt h l (k + 1)) := by
  rw [bF_set (ofAt h l k) (fun j => if j = k then l.testBit k else ofAt h l k j) k _ (by simp) (fun j _ hj => by simp [hj])]
  refine bF_set _ _ _ _ ?_ fun j _ hj => ?_
  · unfold ofAt; rw [if_neg (by omega), show 64 + k - 64 = k by omega]; simp
  · unfold ofAt
    by_cases h1 : j < 64
    · rw [if_pos h1, if_pos h1]
      by_cases h2 : j = k
      · subst h2; simp
      · simp only [h2, if_false]; congr 1; rw [decide_eq_decide]; omega
    · rw [if_neg h1, if_neg (by omega), if_neg h1]; congr 1; rw [decide_eq_decide]; omega
theorem ofAt_end (h l : Nat) (hl : l < 2 ^ 64) (hh : h < 2 ^ 64) : bF (ofAt h l 64) = bA (h * 2 ^ 64 + l) := by
  rw [bA_bF]; refine bF_ext _ _ fun k _ => ?_
  rw [Nat.mul_comm, Nat.testBit_two_pow_mul_add _ hl]
  unfold ofAt
  by_cases h1 : k < 64
  · simp [h1]
  · simp only [h1, if_false]
    by_cases h2 : k - 64 < 64
    · simp [h2]
    · have : h.testBit (k - 64) = false := Nat.testBit_lt_two_pow (Nat.lt_of_lt_of_le hh (Nat.pow_le_pow_right (by omega) (by omega)))
      simp [this]

set_option maxRecDepth 100000 in
set_option maxHeartbeats 400000 in
theorem of_any (h l n : Nat) (w : World) (hh : h < 2 ^ 64) (hl : l < 2 ^ 64) (hn : h * 2 ^ 64 + l = n) :
    Calls Try.prog 69 #[.agg #[.int .u64 h, .int .u64 l]] w fun e w' => e = .returned (.agg (bA n)) ∧ Below w.heap.size w w' := by
  have hz := bits_zero
  have HE := Lib.hid (ofAt_end h l hl hh)
  rw [hn] at HE
  clear hn
  have hh0 : 0 ≤ (h : Int) := by omega
  have hl0 : 0 ≤ (l : Int) := by omega
  clear hh hl
  go_enter Try.func69, Try.ntmps69
  go_wp2_with fail
  go_loopw [4] (fun i wr => ∃ k : Nat, k ≤ 64 ∧ i = .int .i64 k ∧
      wr = ((w.alloc (Obj.cells #[.int .u64 h, .int .u64 l] 43)).alloc (Obj.cells (bA 0) 110)).alloc (Obj.cells (bF (ofAt h l k)) 110))
    (fun i _ => 64 - (intOf i).toNat)
  case atStart => exact ⟨0, by omega, rfl, by rw [ofAt_zero]⟩
  case round =>
    obtain ⟨k, hk, rfl, rfl⟩ := hrel
    by_cases hlt : k < 64
    · have hlt' : (k : Int) < 64 := by omega
      have hS := bF_size (ofAt h l k)
      have HS := Lib.hid (ofAt_step h l k hlt)
      have e1 := bit_tmod l k
      have e2 := bit_tmod h k
      generalize l.testBit k = x at HS e1
      generalize h.testBit k = y at HS e2
      generalize ofAt h l k = f at HS hS ⊢
      have hlt2 : (64 : Int) + k < 256 := by omega
      have hlt3 : (k : Int) < 256 := by omega
      have hlt4 : k < 256 := by omega
      have hlt5 : 64 + k < 256 := by omega
      go_wp2_with fail
      exact ⟨⟨k + 1, by omega, by go_num, by rw [← HS.out]⟩, by simp [intOf]; omega⟩
    · have hlt' : 64 ≤ (k : Int) := by omega
      have e : bF (ofAt h l k) = bA n := by
        obtain rfl : k = 64 := by omega
        rw [HE.out]
      rw [e]
      clear e HE
      go_wp2_with (first
        | (with_reducible refine wpB_load rfl (.tmp 3) rfl (w.heap.size + 1 + 1) rfl _ (by repeat (first | (with_reducible refine heap_top _ _ _ ?_; first | (simp; done) | (simp; omega)) | rw [Below.heap_alloc _ _ _ (by first | (simp; done) | (simp; omega))])) ?_)
        | (with_reducible refine wpB_store rfl (.tmp 2) (.tmp 28) rfl (w.heap.size + 1) rfl _ 0 rfl (by repeat (first | (with_reducible refine heap_top _ _ _ ?_; first | (simp; done) | (simp; omega)) | rw [Below.heap_alloc _ _ _ (by first | (simp; done) | (simp; omega))])) ?_; intro w1 h1 h2 h3 h4))
      refine bits_ret (g := w.heap.size + 1) (n := n) rfl rfl h1 ⟨rfl, ?_⟩
      exact h3 _ _ (by omega) ((((Below.refl _ _).alloc (by simp) _).alloc (by simp) _).alloc (by simp; omega) _)

/-- Has the row no more than 128 bits? -/
def fits (b : Nat) : Bool := decide (b % 2 ^ 256 < 2 ^ 128)
end Go.Proofs.Ytoljahfofkmdaaa

/-! mainsheetref03's Scaled: its contract, whatever the world. -/
namespace Go.Proofs.Ytoljahfofkmdaaa
open Go.RowKit

/-- A product over a number, rounded up, if so. -/
def scl (n m d : Nat) (up : Bool) : Nat := n * m / d + (if up && n * m % d != 0 then 1 else 0)

end Go.Proofs.Ytoljahfofkmdaaa

/-! package wide's Mul, Div, scaled, Scale, MulDiv: their contracts, whatever the world. -/
namespace Go.Proofs.Ytoljahfofkmdaaa
open Go.RowKit

theorem Below.two {B : Nat} {w0 w w1 : World} (h : Below B w0 w) (hB : B ≤ w0.heap.size) (h1 : Below w.heap.size w w1) : Below B w0 w1 := h.trans (h1.mono (Nat.le_trans hB h.size))

end Go.Proofs.Ytoljahfofkmdaaa

/-! package wide's scaled, Scale, MulDiv: their contracts, whatever the world. -/
namespace Go.Proofs.Ytoljahfofkmdaaa
open Go.RowKit

/-- What is handed back: the number, if it has no more than 128 bits. -/
def sclRes (v : Nat) (h l e : Nat) : Prop := if v < 2 ^ 128 then h * 2 ^ 64 + l = v ∧ e = 0 else h = 0 ∧ l = 0 ∧ e = 131

theorem sclRes_yes {v h l : Nat} (hv : v < 2 ^ 128) (hn : h * 2 ^ 64 + l = v) : sclRes v h l 0 := by unfold sclRes; rw [if_pos hv]; exact ⟨hn, rfl⟩
theorem sclRes_no {v : Nat} (hv : ¬ v < 2 ^ 128) : sclRes v 0 0 131 := by unfold sclRes; rw [if_neg hv]; exact ⟨rfl, rfl, rfl⟩
theorem scl_lt (n m d : Nat) (up : Bool) (hn : n < 2 ^ 128) (hm : m < 2 ^ 64) : n * m / d + 1 < 2 ^ 224 ∧ scl n m d up < 2 ^ 224 := by
  have h1 : n * m < 2 ^ 192 := Nat.lt_of_lt_of_le (Nat.mul_lt_mul'' hn hm) (by decide)
  have h2 := Nat.div_le_self (n * m) d
  have h3 : n * m / d + 1 < 2 ^ 224 := Nat.lt_of_le_of_lt (Nat.succ_le_of_lt (Nat.lt_of_le_of_lt h2 h1)) (by decide)
  refine ⟨h3, ?_⟩
  unfold scl
  split
  · exact h3
  · exact Nat.lt_trans (Nat.lt_succ_self _) h3

theorem times_one (q : Nat) (w : World) : Calls Try.prog 96 #[.agg (qA q), .int .u64 1, .int .u64 1] w fun e w' => e = .returned (.agg (qA (q + 1))) ∧ Below w.heap.size w w' := by
  have := times_any q 1 1 w (by decide) (by decide)
  rw [Nat.mul_one] at this
  exact this

set_option maxRecDepth 100000 in
set_option maxHeartbeats 1000000 in
theorem wscaled_any (h l n m d : Nat) (up : Bool) (w : World) (hh : h < 2 ^ 64) (hl : l < 2 ^ 64) (hn : h * 2 ^ 64 + l = n) (hm : m < 2 ^ 64) (hd0 : 0 < d) (hd : d < 2 ^ 64) :
    Calls Try.prog 86 #[.agg #[.int .u64 h, .int .u64 l], .int .u64 m, .int .u64 d, .bool up] w fun e w' =>
      ∃ h' l' c : Nat, e = .returned (.tuple #[.agg #[.int .u64 h', .int .u64 l'], .int .i64 c]) ∧ h' < 2 ^ 64 ∧ l' < 2 ^ 64 ∧ sclRes (scl n m d up) h' l' c ∧ Below w.heap.size w w' := by
  have HH := Lib.hid hh
  have HL := Lib.hid hl
  have HN := Lib.hid hn
  have HM := Lib.hid hm
  have HD0 := Lib.hid hd0
  have HD := Lib.hid hd
  have hV := scl_lt n m d up (show n < 2 ^ 128 by omega) hm
  have HNM := Lib.hid (show n * m + 0 < 2 ^ 224 from Nat.lt_of_lt_of_le (Nat.mul_lt_mul'' (show n < 2 ^ 128 by omega) hm) (by decide))
  have hz : ((d : Int) == 0) = false := by rw [beq_eq_false_iff_ne]; omega
  have HV1 := Lib.hid hV.1
  have HV2 := Lib.hid hV.2
  clear hh hl hn hm hd0 hd hV
  go_enter Try.func86, Try.ntmps86
  go_wp2_with fail
  refine (wof_any h l n _ HH.out HL.out HN.out).mono ?_
  rintro e w1 ⟨rfl, hb1⟩
  have r1 : IsW w1 (w.heap.size + 1) 0 0 := IsR.kept (by unfold IsR; exact (by repeat (first | (with_reducible refine heap_top _ _ _ ?_; first | (simp; done) | (simp; omega)) | rw [Below.heap_alloc _ _ _ (by first | (simp; done) | (simp; omega))]))) hb1
  have k1 : Below w.heap.size w w1 := Below.two (((Below.refl _ _).alloc (Nat.le_refl _) _).alloc (by simp) _) (Nat.le_refl _) hb1
  clear hb1
  go_wp2_with fail
  refine (times_any n m 0 _ HM.out (by decide)).mono ?_
  rintro e w2 ⟨rfl, hb2⟩
  have r2 := r1.kept hb2
  have k2 := Below.two k1 (Nat.le_refl _) hb2
  clear hb2 r1 k1
  go_wp2_with fail
  refine (over_any (n * m + 0) d _ HNM.out HD0.out HD.out).mono ?_
  rintro e w3 ⟨rfl, hb3⟩
  have r3 := r2.kept hb3
  have k3 := Below.two k2 (Nat.le_refl _) hb3
  have s3 := r3.lt
  clear hb3 r2 k2
  rw [Nat.add_zero]
  obtain ⟨q, hq⟩ : ∃ q, n * m / d = q := ⟨_, rfl⟩
  obtain ⟨r, hr⟩ : ∃ r, n * m % d = r := ⟨_, rfl⟩
  rw [hq, hr]
  have hscl : scl n m d up = q + (if up && r != 0 then 1 else 0) := by rw [← hq, ← hr]; rfl
  rw [hq] at HV1
  have HS := Lib.hid hscl
  clear hscl hq hr HNM
  cases up
  · have HE : Hid (scl n m d false = q) := HS.out.trans (by simp)
    clear HS HV1
    go_wp2_with (first
      | (with_reducible refine wpQ_store rfl (.tmp 10) (.tmp 24) rfl w3.heap.size rfl q 0 rfl (by unfold IsQ; rw [qA_zero]; unfold IsR; exact (by repeat (first | (with_reducible refine heap_top _ _ _ ?_; first | (simp; done) | (simp; omega)) | rw [Below.heap_alloc _ _ _ (by first | (simp; done) | (simp; omega))]))) ?_; intro w4 hp4; have r4 : IsW w4 (w.heap.size + 1) 0 0 := IsR.put (r3.alloc _) hp4 (by omega); have k4 := hp4.below w.heap.size w (by omega) (k3.alloc (by omega) _); have q4 := hp4.row)
      | (with_reducible refine wpQ_load rfl (.tmp 10) rfl w3.heap.size rfl q q4 ?_))
    refine (qwide_any q _ (by rw [← HE.out]; exact HV2.out)).mono ?_
    rintro e w5 ⟨h', l', rfl, hh', hl', hn', hb5⟩
    have HH' := Lib.hid hh'
    have HL' := Lib.hid hl'
    have HN' := Lib.hid hn'
    have r5 : IsW w5 (w.heap.size + 1) 0 0 := r4.kept hb5
    have k5 := Below.two k4 (Nat.le_refl _) hb5
    have s5 := r5.lt
    clear hb5 hh' hl' hn'
    by_cases hf : q < 2 ^ 128
    · rw [show few (q) = true from decide_eq_true hf]
      have HF := Lib.hid hf
      clear hf
      go_wp2_with (first
        | (with_reducible refine wpW_store rfl (.tmp 12) (.tmp 36) rfl w5.heap.size rfl h' l' 0 0 rfl (by (show (_ : World).heap[_]? = some _); repeat (first | (with_reducible refine heap_top _ _ _ ?_; first | (simp; done) | (simp; omega)) | rw [Below.heap_alloc _ _ _ (by first | (simp; done) | (simp; omega))])) ?_; intro w6 hp6; have r6 : IsW w6 (w.heap.size + 1) 0 0 := IsR.put (r5.alloc _) hp6 (by omega); have k6 := hp6.below w.heap.size w (by omega) (k5.alloc (by omega) _); have q6 := hp6.row)
        | (with_reducible refine wpW_load rfl (.tmp 12) rfl w5.heap.size rfl h' l' q6 ?_)
        | (with_reducible refine wpW_store rfl (.tmp 8) (.tmp 41) rfl (w.heap.size + 1) rfl h' l' 0 0 rfl r6 ?_; intro w7 hp7))
      refine retW1 rfl rfl (.int .i64 (0 : Nat)) rfl hp7.row ⟨h', l', 0, rfl, HH'.out, HL'.out, ?_, hp7.below _ _ (by omega) k6⟩
      rw [HE.out]
      exact (sclRes_yes HF.out (HN'.out.trans (Nat.mod_eq_of_lt HF.out)) : sclRes _ _ _ _)
    · rw [show few (q) = false from decide_eq_false hf]
      have HF := Lib.hid hf
      clear hf
      go_wp2_with (first
        | (with_reducible refine wpW_store rfl (.tmp 12) (.tmp 36) rfl w5.heap.size rfl h' l' 0 0 rfl (by (show (_ : World).heap[_]? = some _); repeat (first | (with_reducible refine heap_top _ _ _ ?_; first | (simp; done) | (simp; omega)) | rw [Below.heap_alloc _ _ _ (by first | (simp; done) | (simp; omega))])) ?_; intro w6 hp6; have r6 : IsW w6 (w.heap.size + 1) 0 0 := IsR.put (r5.alloc _) hp6 (by omega); have k6 := hp6.below w.heap.size w (by omega) (k5.alloc (by omega) _))
        | (with_reducible refine wpW_store rfl (.tmp 8) (.tmp 40) rfl (w.heap.size + 1) rfl 0 0 0 0 rfl r6 ?_; intro w7 hp7))
      refine retW1 rfl rfl (.int .i64 (131 : Nat)) rfl hp7.row ⟨0, 0, 131, rfl, by decide, by decide, ?_, hp7.below _ _ (by omega) k6⟩
      rw [HE.out]
      exact (sclRes_no HF.out : sclRes _ _ _ _)
  · by_cases hr0 : r = 0
    · have HE : Hid (scl n m d true = q) := HS.out.trans (by simp [hr0])
      have hr1 : ¬ (0 : Int) < (r : Int) := by omega
      clear HS HV1 hr0
      go_wp2_with (first
        | (with_reducible refine wpQ_store rfl (.tmp 10) (.tmp 24) rfl w3.heap.size rfl q 0 rfl (by unfold IsQ; rw [qA_zero]; unfold IsR; exact (by repeat (first | (with_reducible refine heap_top _ _ _ ?_; first | (simp; done) | (simp; omega)) | rw [Below.heap_alloc _ _ _ (by first | (simp; done) | (simp; omega))]))) ?_; intro w4 hp4; have r4 : IsW w4 (w.heap.size + 1) 0 0 := IsR.put (r3.alloc _) hp4 (by omega); have k4 := hp4.below w.heap.size w (by omega) (k3.alloc (by omega) _); have q4 := hp4.row)
        | (with_reducible refine wpQ_load rfl (.tmp 10) rfl w3.heap.size rfl q q4 ?_))
      refine (qwide_any q _ (by rw [← HE.out]; exact HV2.out)).mono ?_
      rintro e w5 ⟨h', l', rfl, hh', hl', hn', hb5⟩
      have HH' := Lib.hid hh'
      have HL' := Lib.hid hl'
      have HN' := Lib.hid hn'
      have r5 : IsW w5 (w.heap.size + 1) 0 0 := r4.kept hb5
      have k5 := Below.two k4 (Nat.le_refl _) hb5
      have s5 := r5.lt
      clear hb5 hh' hl' hn'
      by_cases hf : q < 2 ^ 128
      · rw [show few (q) = true from decide_eq_true hf]
        have HF := Lib.hid hf
        clear hf
        go_wp2_with (first
          | (with_reducible refine wpW_store rfl (.tmp 12) (.tmp 36) rfl w5.heap.size rfl h' l' 0 0 rfl (by (show (_ : World).heap[_]? = some _); repeat (first | (with_reducible refine heap_top _ _ _ ?_; first | (simp; done) | (simp; omega)) | rw [Below.heap_alloc _ _ _ (by first | (simp; done) | (simp; omega))])) ?_; intro w6 hp6; have r6 : IsW w6 (w.heap.size + 1) 0 0 := IsR.put (r5.alloc _) hp6 (by omega); have k6 := hp6.below w.heap.size w (by omega) (k5.alloc (by omega) _); have q6 := hp6.row)
          | (with_reducible refine wpW_load rfl (.tmp 12) rfl w5.heap.size rfl h' l' q6 ?_)
          | (with_reducible refine wpW_store rfl (.tmp 8) (.tmp 41) rfl (w.heap.size + 1) rfl h' l' 0 0 rfl r6 ?_; intro w7 hp7))
        refine retW1 rfl rfl (.int .i64 (0 : Nat)) rfl hp7.row ⟨h', l', 0, rfl, HH'.out, HL'.out, ?_, hp7.below _ _ (by omega) k6⟩
        rw [HE.out]
        exact (sclRes_yes HF.out (HN'.out.trans (Nat.mod_eq_of_lt HF.out)) : sclRes _ _ _ _)
      · rw [show few (q) = false from decide_eq_false hf]
        have HF := Lib.hid hf
        clear hf
        go_wp2_with (first
          | (with_reducible refine wpW_store rfl (.tmp 12) (.tmp 36) rfl w5.heap.size rfl h' l' 0 0 rfl (by (show (_ : World).heap[_]? = some _); repeat (first | (with_reducible refine heap_top _ _ _ ?_; first | (simp; done) | (simp; omega)) | rw [Below.heap_alloc _ _ _ (by first | (simp; done) | (simp; omega))])) ?_; intro w6 hp6; have r6 : IsW w6 (w.heap.size + 1) 0 0 := IsR.put (r5.alloc _) hp6 (by omega); have k6 := hp6.below w.heap.size w (by omega) (k5.alloc (by omega) _))
          | (with_reducible refine wpW_store rfl (.tmp 8) (.tmp 40) rfl (w.heap.size + 1) rfl 0 0 0 0 rfl r6 ?_; intro w7 hp7))
        refine retW1 rfl rfl (.int .i64 (131 : Nat)) rfl hp7.row ⟨0, 0, 131, rfl, by decide, by decide, ?_, hp7.below _ _ (by omega) k6⟩
        rw [HE.out]
        exact (sclRes_no HF.out : sclRes _ _ _ _)
    · have HE : Hid (scl n m d true = q + 1) := HS.out.trans (by simp [hr0])
      have hr1 : (0 : Int) < (r : Int) := by omega
      clear HS HV1 hr0
      go_wp2_with (first
        | (with_reducible refine wpQ_store rfl (.tmp 10) (.tmp 24) rfl w3.heap.size rfl q 0 rfl (by unfold IsQ; rw [qA_zero]; unfold IsR; exact (by repeat (first | (with_reducible refine heap_top _ _ _ ?_; first | (simp; done) | (simp; omega)) | rw [Below.heap_alloc _ _ _ (by first | (simp; done) | (simp; omega))]))) ?_; intro w4 hp4; have r4 : IsW w4 (w.heap.size + 1) 0 0 := IsR.put (r3.alloc _) hp4 (by omega); have k4 := hp4.below w.heap.size w (by omega) (k3.alloc (by omega) _); have q4 := hp4.row)
        | (with_reducible refine wpQ_load rfl (.tmp 10) rfl w3.heap.size rfl q q4 ?_))
      refine (times_one q _).mono ?_
      rintro e w8 ⟨rfl, hb8⟩
      have r8 : IsW w8 (w.heap.size + 1) 0 0 := r4.kept hb8
      have q8 : IsQ w8 w3.heap.size q := q4.kept hb8
      have k8 := Below.two k4 (Nat.le_refl _) hb8
      clear hb8 hp4 q4 r4 k4
      go_wp2_with (first
        | (with_reducible refine wpQ_store rfl (.tmp 10) (.tmp 32) rfl w3.heap.size rfl (q + 1) q rfl q8 ?_; intro w9 hp9; have rr : IsW w9 (w.heap.size + 1) 0 0 := IsR.put r8 hp9 (by omega); have kk := hp9.below w.heap.size w (by omega) k8; have q9 := hp9.row)
        | (with_reducible refine wpQ_load rfl (.tmp 10) rfl w3.heap.size rfl (q + 1) q9 ?_))
      refine (qwide_any (q + 1) _ (by rw [← HE.out]; exact HV2.out)).mono ?_
      rintro e w5 ⟨h', l', rfl, hh', hl', hn', hb5⟩
      have HH' := Lib.hid hh'
      have HL' := Lib.hid hl'
      have HN' := Lib.hid hn'
      have r5 : IsW w5 (w.heap.size + 1) 0 0 := rr.kept hb5
      have k5 := Below.two kk (Nat.le_refl _) hb5
      have s5 := r5.lt
      clear hb5 hh' hl' hn'
      by_cases hf : (q + 1) < 2 ^ 128
      · rw [show few (q + 1) = true from decide_eq_true hf]
        have HF := Lib.hid hf
        clear hf
        go_wp2_with (first
          | (with_reducible refine wpW_store rfl (.tmp 12) (.tmp 36) rfl w5.heap.size rfl h' l' 0 0 rfl (by (show (_ : World).heap[_]? = some _); repeat (first | (with_reducible refine heap_top _ _ _ ?_; first | (simp; done) | (simp; omega)) | rw [Below.heap_alloc _ _ _ (by first | (simp; done) | (simp; omega))])) ?_; intro w6 hp6; have r6 : IsW w6 (w.heap.size + 1) 0 0 := IsR.put (r5.alloc _) hp6 (by omega); have k6 := hp6.below w.heap.size w (by omega) (k5.alloc (by omega) _); have q6 := hp6.row)
          | (with_reducible refine wpW_load rfl (.tmp 12) rfl w5.heap.size rfl h' l' q6 ?_)
          | (with_reducible refine wpW_store rfl (.tmp 8) (.tmp 41) rfl (w.heap.size + 1) rfl h' l' 0 0 rfl r6 ?_; intro w7 hp7))
        refine retW1 rfl rfl (.int .i64 (0 : Nat)) rfl hp7.row ⟨h', l', 0, rfl, HH'.out, HL'.out, ?_, hp7.below _ _ (by omega) k6⟩
        rw [HE.out]
        exact (sclRes_yes HF.out (HN'.out.trans (Nat.mod_eq_of_lt HF.out)) : sclRes _ _ _ _)
      · rw [show few (q + 1) = false from decide_eq_false hf]
        have HF := Lib.hid hf
        clear hf
        go_wp2_with (first
          | (with_reducible refine wpW_store rfl (.tmp 12) (.tmp 36) rfl w5.heap.size rfl h' l' 0 0 rfl (by (show (_ : World).heap[_]? = some _); repeat (first | (with_reducible refine heap_top _ _ _ ?_; first | (simp; done) | (simp; omega)) | rw [Below.heap_alloc _ _ _ (by first | (simp; done) | (simp; omega))])) ?_; intro w6 hp6; have r6 : IsW w6 (w.heap.size + 1) 0 0 := IsR.put (r5.alloc _) hp6 (by omega); have k6 := hp6.below w.heap.size w (by omega) (k5.alloc (by omega) _))
          | (with_reducible refine wpW_store rfl (.tmp 8) (.tmp 40) rfl (w.heap.size + 1) rfl 0 0 0 0 rfl r6 ?_; intro w7 hp7))
        refine retW1 rfl rfl (.int .i64 (131 : Nat)) rfl hp7.row ⟨0, 0, 131, rfl, by decide, by decide, ?_, hp7.below _ _ (by omega) k6⟩
        rw [HE.out]
        exact (sclRes_no HF.out : sclRes _ _ _ _)

set_option maxRecDepth 100000 in
set_option maxHeartbeats 400000 in
theorem wScale_any (h l n m d : Nat) (w : World) (hh : h < 2 ^ 64) (hl : l < 2 ^ 64) (hn : h * 2 ^ 64 + l = n) (hm : m < 2 ^ 64) (hd0 : 0 < d) (hd : d < 2 ^ 64) :
    Calls Try.prog 66 #[.agg #[.int .u64 h, .int .u64 l], .int .u64 m, .int .u64 d] w fun e w' =>
      ∃ h' l' c : Nat, e = .returned (.tuple #[.agg #[.int .u64 h', .int .u64 l'], .int .i64 c]) ∧ h' < 2 ^ 64 ∧ l' < 2 ^ 64 ∧ sclRes (scl n m d true) h' l' c ∧ Below w.heap.size w w' := by
  have HC := Lib.hid (fun w => wscaled_any h l n m d true w hh hl hn hm hd0 hd)
  clear hh hl hn hm hd0 hd
  go_enter Try.func66, Try.ntmps66
  go_wp2_with fail
  refine (HC.out _).mono ?_
  rintro e w1 ⟨h', l', c, rfl, hh', hl', hs', hb1⟩
  have HH' := Lib.hid hh'
  have HL' := Lib.hid hl'
  have r1 : IsW w1 (w.heap.size + 1) 0 0 := IsR.kept (by unfold IsR; exact (by repeat (first | (with_reducible refine heap_top _ _ _ ?_; first | (simp; done) | (simp; omega)) | rw [Below.heap_alloc _ _ _ (by first | (simp; done) | (simp; omega))]))) hb1
  have k1 : Below w.heap.size w w1 := Below.two (((Below.refl _ _).alloc (Nat.le_refl _) _).alloc (by simp) _) (Nat.le_refl _) hb1
  clear hb1 hh' hl'
  go_wp2_with (first
    | (with_reducible refine wpW_store rfl (.tmp 6) (.tmp 12) rfl (w.heap.size + 1) rfl h' l' 0 0 rfl r1 ?_; intro w2 hp2))
  exact retW1 rfl rfl (.int .i64 c) rfl hp2.row ⟨h', l', c, rfl, HH'.out, HL'.out, hs', hp2.below _ _ (by omega) k1⟩

end Go.Proofs.Ytoljahfofkmdaaa

/-! package wide's MulDiv: its contract, whatever the world. -/
namespace Go.Proofs.Ytoljahfofkmdaaa
open Go.RowKit

/-- What is handed back: the number, if it has no more than 64 bits. -/
def mdRes (v : Nat) (x e : Nat) : Prop := if v < 2 ^ 64 then x = v ∧ e = 0 else x = 0 ∧ e = 131

end Go.Proofs.Ytoljahfofkmdaaa

/-! The chapter's wakes: it answers true. -/
namespace Go.Proofs.Ytoljahfofkmdaaa
open Go.RowKit

theorem of_parts (h l H L : Nat) (hl : l < 2 ^ 64) (hL : L < 2 ^ 64) (e : h * 2 ^ 64 + l = H * 2 ^ 64 + L) : h = H ∧ l = L := by omega

section
variable {ops : Array Oper} {C : (Nat → Bool) → World → Prop} {Q : Act → Prop} {o : Oper} {rest : List Oper} {i : Nat} {a : Act}
end

end Go.Proofs.Ytoljahfofkmdaaa

/-! package wide's Compare, and the library's cmp.Compare, cmp.Or: their contracts, whatever the world. -/
namespace Go.Proofs.Ytoljahfofkmdaaa
open Go.RowKit

/-- How numbers stand to one another. -/
def c3 (a b : Int) : Int := if a < b then -1 else if b < a then 1 else 0
/-- The first that is not 0. -/
def orI : List Int → Int
  | [] => 0
  | z :: r => if z = 0 then orI r else z

set_option maxRecDepth 100000 in
theorem ccmp_any (a b : Int) (w : World) :
    Calls Try.prog 60 #[.int .u64 a, .int .u64 b] w fun e w' => e = .returned (.int .i64 (c3 a b)) ∧ w' = w := by
  by_cases h1 : a < b
  · have H : Hid (c3 a b = -1) := if_pos h1
    go_enter Try.func60, Try.ntmps60
    go_wp2
    go_ret
    exact ⟨by rw [H.out]; rfl, rfl⟩
  · by_cases h2 : b < a
    · have H : Hid (c3 a b = 1) := (if_neg h1).trans (if_pos h2)
      go_enter Try.func60, Try.ntmps60
      go_wp2
      go_ret
      exact ⟨by rw [H.out]; rfl, rfl⟩
    · have H : Hid (c3 a b = 0) := (if_neg h1).trans (if_neg h2)
      go_enter Try.func60, Try.ntmps60
      go_wp2
      go_ret
      exact ⟨by rw [H.out]; rfl, rfl⟩

theorem orI_drop (zs : List Int) (k : Nat) (hk : k < zs.length) : orI (zs.drop k) = if zs[k] = 0 then orI (zs.drop (k + 1)) else zs[k] := by
  rw [List.drop_eq_getElem_cons hk]; rfl

set_option maxRecDepth 100000 in
set_option maxHeartbeats 400000 in
theorem cor_any (zs : List Int) (g : Nat) (w : World) (hlen : zs.length < 1000) (hg : IsR w g (zs.map (Value.int .i64)).toArray 3) :
    Calls Try.prog 59 #[.slice (some ⟨g, 0, none⟩) zs.length zs.length] w fun e w' => e = .returned (.int .i64 (orI zs)) ∧ w' = w := by
  have hc : ∀ j (h : j < zs.length), w.cell? ⟨g, j, none⟩ = some (.int .i64 zs[j]) := fun j h => by rw [hg.cell j]; simp [h]
  have HC := Lib.hid hc
  clear hc hg
  obtain ⟨n, hn⟩ : ∃ n, zs.length = n := ⟨_, rfl⟩
  rw [hn] at hlen
  rw [hn]
  have HN := Lib.hid hn
  clear hn
  have hlen' : (n : Int) < 1000 := by omega
  go_enter Try.func59, Try.ntmps59
  go_wp2
  go_loop [8] (fun t => ∃ k : Nat, k ≤ n ∧ t = .int .i64 k ∧ Hid (orI (zs.drop k) = orI zs)) (fun t => n - (intOf t).toNat)
  case atStart => exact ⟨0, by omega, rfl, (rfl : _ = _)⟩
  case round =>
    obtain ⟨k, hk, rfl, HK⟩ := hrel
    by_cases hlt : k < n
    · have hlt' : (k : Int) < (n : Int) := by omega
      have hkz : k < zs.length := by rw [HN.out]; exact hlt
      have hcell := HC.out k hkz
      have HD := Lib.hid (orI_drop zs k hkz)
      generalize zs[k] = z at hcell HD
      clear hkz
      by_cases hz : z = 0
      · subst hz
        have HK2 : Hid (orI (zs.drop (k + 1)) = orI zs) := by show _ = _; rw [← HK.out, HD.out, if_pos rfl]
        go_wp2
        go_round
        case rel => exact ⟨k + 1, by omega, by go_num, HK2⟩
        case measure => simp [intOf]; omega
      · have hz' : (z == 0) = false := by simpa using hz
        have hz'' : (z != 0) = true := by simpa using hz
        have HK2 : Hid (orI zs = z) := by show _ = _; rw [← HK.out, HD.out, if_neg hz]
        clear hz
        go_wp2
        go_ret
        exact ⟨by rw [HK2.out]; rfl, rfl⟩
    · have hlt' : (n : Int) ≤ (k : Int) := by omega
      have HK2 : Hid (orI zs = 0) := by show _ = _; rw [← HK.out, List.drop_eq_nil_of_le (by rw [HN.out]; omega)]; rfl
      go_wp2
      go_ret
      exact ⟨by rw [HK2.out]; rfl, rfl⟩

/-- How two numbers of two halves stand to one another. -/
def cW (h l H L : Int) : Int := orI [c3 h H, c3 l L]

set_option maxRecDepth 100000 in
set_option maxHeartbeats 400000 in
theorem wCompare_any (h l H L : Int) (w : World) :
    Calls Try.prog 46 #[.agg #[.int .u64 h, .int .u64 l], .agg #[.int .u64 H, .int .u64 L]] w fun e w' => e = .returned (.int .i64 (cW h l H L)) ∧ Below w.heap.size w w' := by
  go_enter Try.func46, Try.ntmps46
  go_wp2_with fail
  have fA : IsW ((w.alloc (Obj.cells #[.int .u64 h, .int .u64 l] 43)).alloc (Obj.cells #[.int .u64 H, .int .u64 L] 43)) w.heap.size h l := by unfold IsW IsR; exact (by repeat (first | (with_reducible refine heap_top _ _ _ ?_; first | (simp; done) | (simp; omega)) | rw [Below.heap_alloc _ _ _ (by first | (simp; done) | (simp; omega))]))
  have fB : IsW ((w.alloc (Obj.cells #[.int .u64 h, .int .u64 l] 43)).alloc (Obj.cells #[.int .u64 H, .int .u64 L] 43)) (w.heap.size + 1) H L := by unfold IsW IsR; exact (by repeat (first | (with_reducible refine heap_top _ _ _ ?_; first | (simp; done) | (simp; omega)) | rw [Below.heap_alloc _ _ _ (by first | (simp; done) | (simp; omega))]))
  have k0 : Below w.heap.size w ((w.alloc (Obj.cells #[.int .u64 h, .int .u64 l] 43)).alloc (Obj.cells #[.int .u64 H, .int .u64 L] 43)) := ((Below.refl _ _).alloc (Nat.le_refl _) _).alloc (by simp) _
  generalize (w.alloc (Obj.cells #[.int .u64 h, .int .u64 l] 43)).alloc (Obj.cells #[.int .u64 H, .int .u64 L] 43) = W at fA fB k0 ⊢
  have cA := IsR.cell fA
  have cB := IsR.cell fB
  refine wp_region_still_tail 10 (by kernel_rfl) (by kernel_rfl) ?_
  change wpStill _ _ (World.drew W) _ _ _
  simp only [List.take_succ_cons, List.take_zero, List.drop_succ_cons, List.drop_zero]
  iterate 4 still_step
  still_call (ccmp_any h H _)
  iterate 4 still_step
  still_call (ccmp_any l L _)
  refine wpStill_nil ?_
  change wpList _ _ _ _ _ (World.drew _)
  go_wp2_with fail
  refine (cor_any [c3 h H, c3 l L] W.heap.size _ (by simp) ?_).mono ?_
  · exact heap_top W (Obj.cells #[.int .i64 (c3 h H), .int .i64 (c3 l L)] 3) _ rfl
  rintro e w' ⟨rfl, rfl⟩
  go_wp2_with fail
  go_ret
  exact ⟨rfl, (k0.alloc k0.size _).drew⟩

theorem cW_eq (h l H L n m : Nat) (hl : l < 2 ^ 64) (hL : L < 2 ^ 64) (hn : h * 2 ^ 64 + l = n) (hm : H * 2 ^ 64 + L = m) : cW h l H L = c3 n m := by
  unfold cW orI orI orI c3
  rcases Nat.lt_trichotomy n m with h1 | h1 | h1
  · rw [if_pos (show (n : Int) < m by omega)]
    by_cases h2 : (h : Int) < H
    · rw [if_pos h2]; simp
    · rw [if_neg h2, if_neg (show ¬ (H : Int) < h by omega), if_pos rfl, if_pos (show (l : Int) < L by omega)]; simp
  · rw [if_neg (show ¬ (n : Int) < m by omega), if_neg (show ¬ (m : Int) < n by omega), if_neg (show ¬ (h : Int) < H by omega), if_neg (show ¬ (H : Int) < h by omega), if_pos rfl, if_neg (show ¬ (l : Int) < L by omega), if_neg (show ¬ (L : Int) < l by omega)]
    rfl
  · rw [if_neg (show ¬ (n : Int) < m by omega), if_pos (show (m : Int) < n by omega), if_neg (show ¬ (h : Int) < H by omega)]
    by_cases h2 : (H : Int) < h
    · rw [if_pos h2]; simp
    · rw [if_neg h2, if_pos rfl, if_neg (show ¬ (l : Int) < L by omega), if_pos (show (L : Int) < l by omega)]; simp
end Go.Proofs.Ytoljahfofkmdaaa

/-! package wide's Add and Sub: their contracts, whatever the world. -/
namespace Go.Proofs.Ytoljahfofkmdaaa
open Go.RowKit

end Go.Proofs.Ytoljahfofkmdaaa

/-! The contracts of wide and of its reference, one value each. -/
namespace Go.Proofs.Ytoljahfofkmdaaa
open Go Go.RowKit

/-- A function's contract where the answer is one value and memory grows at most. -/
def Dt (f : FuncId) (args : Array Value) (v : Value) : Prop := ∀ w, Calls Try.prog f args w fun e w' => e = .returned v ∧ Below w.heap.size w w'
abbrev wv (h l : Nat) : Value := .agg #[.int .u64 h, .int .u64 l]

theorem dROf {h l n : Nat} (hh : h < 2 ^ 64) (hl : l < 2 ^ 64) (hn : h * 2 ^ 64 + l = n) : Dt 69 #[wv h l] (.agg (bA n)) := fun w => of_any h l n w hh hl hn
theorem dProduct (a : Nat) {m : Nat} (hm : m < 2 ^ 64) : Dt 68 #[.agg (bA a), .int .u64 m] (.agg (bA (a * m))) := fun w => prod_any a m w hm
theorem dLess {a b : Nat} (ha : a < 2 ^ 256) (hb : b < 2 ^ 256) : Dt 70 #[.agg (bA a), .agg (bA b)] (.bool (decide (a < b))) := fun w => less_any a b w ha hb
theorem dCompare {h l n H L m : Nat} (hl : l < 2 ^ 64) (hL : L < 2 ^ 64) (hn : h * 2 ^ 64 + l = n) (hm : H * 2 ^ 64 + L = m) : Dt 46 #[wv h l, wv H L] (.int .i64 (c3 n m)) := fun w => by
  have := wCompare_any h l H L w
  rwa [cW_eq h l H L n m hl hL hn hm] at this
theorem scl_same {v h l c h' l' c' : Nat} (hs : sclRes v h l c) (hs' : sclRes v h' l' c') (hl : l < 2 ^ 64) (hl' : l' < 2 ^ 64) : h = h' ∧ l = l' ∧ c = c' := by
  unfold sclRes at hs hs'
  split at hs
  · rename_i hv
    rw [if_pos hv] at hs'
    obtain ⟨e1, e2⟩ := of_parts h l h' l' hl hl' (by rw [hs.1, hs'.1])
    exact ⟨e1, e2, by rw [hs.2, hs'.2]⟩
  · rename_i hv
    rw [if_neg hv] at hs'
    exact ⟨by rw [hs.1, hs'.1], by rw [hs.2.1, hs'.2.1], by rw [hs.2.2, hs'.2.2]⟩
theorem dScale {h l n m d A B c : Nat} (hh : h < 2 ^ 64) (hl : l < 2 ^ 64) (hn : h * 2 ^ 64 + l = n) (hm : m < 2 ^ 64) (hd0 : 0 < d) (hd : d < 2 ^ 64) (hB : B < 2 ^ 64) (hs : sclRes (scl n m d true) A B c) :
    Dt 66 #[wv h l, .int .u64 m, .int .u64 d] (.tuple #[wv A B, .int .i64 c]) := fun w => by
  refine (wScale_any h l n m d w hh hl hn hm hd0 hd).mono ?_
  rintro e1 w1 ⟨h', l', c', rfl, _, hl', hs', hb⟩
  obtain ⟨rfl, rfl, rfl⟩ := scl_same hs' hs hl' hB
  exact ⟨rfl, hb⟩
end Go.Proofs.Ytoljahfofkmdaaa

/-! Small laws: halves, exits, a string's iterator. -/
namespace Go.Proofs.Ytoljahfofkmdaaa
open Go Go.RowKit

theorem halves (v : Nat) : v / 2 ^ 64 * 2 ^ 64 + v % 2 ^ 64 = v := by omega
theorem half_lt (v : Nat) : v % 2 ^ 64 < 2 ^ 64 := Nat.mod_lt _ (by decide)
section
variable {id : Nat} {Q : Exit → Act → World → Prop} {a : Act} {w : World}
end

section
variable {P : Program} {ops : Array Oper} {w0 w : World} {L : List Rw} {Q : Exit → Act → World → Prop} {o : Oper} {rest : List Oper} {a : Act} {gi : Nat} {s : ByteArray} {pos : Nat}
/-- An iterator over a string, in a block of its own. -/
structure Iter (w0 : World) (L : List Rw) (gi : Nat) (s : ByteArray) (pos : Nat) (w : World) : Prop where
  here : w.heap[gi]? = some (.stringIter s pos)
  low : w0.heap.size ≤ gi
  apart : ∀ r ∈ L, r.1 ≠ gi
theorem Iter.kept {w1 : World} (h : Iter w0 L gi s pos w) (hb : Below w.heap.size w w1) : Iter w0 L gi s pos w1 :=
  ⟨(hb.block gi (Array.getElem?_eq_some_iff.1 h.here).1).trans h.here, h.low, h.apart⟩
theorem Iter.put {g : Nat} {cs cs' : Array Value} {T T' : TypeId} {w1 : World} (I : Iter w0 L gi s pos w) (j : Nat) (e : L[j]? = some (g, cs, T)) (hp : Put g cs' T' w w1) (L' : List Rw) (hL : ∀ r ∈ L', r.1 ≠ gi) : Iter w0 L' gi s pos w1 :=
  ⟨(hp.rest gi (fun e1 => I.apart _ (List.mem_of_getElem? e) e1.symm)).trans I.here, I.low, hL⟩
end
end Go.Proofs.Ytoljahfofkmdaaa

/-! The contracts of wide, told by whole numbers. -/
namespace Go.Proofs.Ytoljahfofkmdaaa
open Go Go.RowKit

abbrev nv (n : Nat) : Value := wv (n / 2 ^ 64) (n % 2 ^ 64)
abbrev iv (h l : Int) : Value := .agg #[.int .u64 h, .int .u64 l]
section
variable {h l h2 l2 x y m d a b : Int}
theorem nv_iv (n : Nat) : nv n = iv (hiV (n : Int)) (loV (n : Int)) := by
  have e1 : hiV (n : Int) = ((n / 2 ^ 64 : Nat) : Int) := by unfold hiV; omega
  have e2 : loV (n : Int) = ((n % 2 ^ 64 : Nat) : Int) := by unfold loV; omega
  rw [e1, e2]
theorem hi128 {n : Nat} (h : n < 2 ^ 128) : n / 2 ^ 64 < 2 ^ 64 := by omega
theorem up_scl {n m d : Nat} (hd : 0 < d) : upD ((n : Int) * m) d = ((scl n m d true : Nat) : Int) := by
  have e : scl n m d true = n * m / d + (if n * m % d ≠ 0 then 1 else 0) := by
    unfold scl
    by_cases h : n * m % d = 0 <;> simp [h]
  rw [e]
  unfold upD
  generalize hz : n * m = z
  have hzi : (n : Int) * m = (z : Int) := by rw [← hz]; exact (Int.natCast_mul n m).symm
  rw [hzi, show (z : Int) + d - 1 = ((z + d - 1 : Nat) : Int) from by omega, ← Int.natCast_ediv]
  refine congrArg Nat.cast ?_
  have h1 := Nat.div_add_mod z d
  have h2 := Nat.mod_lt z hd
  generalize z / d = q at h1 ⊢
  generalize z % d = r at h1 h2 ⊢
  subst h1
  by_cases h : r = 0
  · subst h
    rw [if_neg (by simp), show d * q + 0 + d - 1 = d * q + (d - 1) from by rw [Nat.add_zero, Nat.add_sub_assoc hd], Nat.mul_add_div hd, Nat.div_eq_of_lt (Nat.sub_lt hd (by decide))]
  · rw [if_pos h, show d * q + r + d - 1 = d * (q + 1) + (r - 1) from by rw [Nat.mul_add, Nat.mul_one]; generalize d * q = t; omega, Nat.mul_add_div hd, Nat.div_eq_of_lt (Nat.lt_of_le_of_lt (Nat.sub_le _ _) h2)]
theorem upD_one (x : Int) : upD x 1 = x := by unfold upD; rw [Int.ediv_one]; omega
/-- wide.Scale, of a product that has room. -/
theorem wscale_v (hx0 : 0 ≤ x) (hx1 : x < 340282366920938463463374607431768211456) (hm0 : 0 ≤ m) (hm1 : m < 18446744073709551616) (hd0 : 1 ≤ d) (hd1 : d < 18446744073709551616) (hv : upD (x * m) d < 340282366920938463463374607431768211456) :
    Dt 66 #[iv (hiV x) (loV x), .int .u64 m, .int .u64 d] (.tuple #[iv (hiV (upD (x * m) d)) (loV (upD (x * m) d)), .int .i64 0]) := by
  obtain ⟨n, rfl⟩ := Int.eq_ofNat_of_zero_le hx0
  obtain ⟨m, rfl⟩ := Int.eq_ofNat_of_zero_le hm0
  obtain ⟨d, rfl⟩ := Int.eq_ofNat_of_zero_le (show 0 ≤ d by omega)
  have e := up_scl (n := n) (m := m) (d := d) (by omega)
  have hv' : scl n m d true < 2 ^ 128 := by rw [e] at hv; omega
  rw [e, ← nv_iv, ← nv_iv]
  exact dScale (hi128 (by omega)) (half_lt n) (halves n) (by omega) (by omega) (by omega) (half_lt _) (sclRes_yes hv' (halves _))
theorem wcmp_v (hx0 : 0 ≤ x) (hy0 : 0 ≤ y) : Dt 46 #[iv (hiV x) (loV x), iv (hiV y) (loV y)] (.int .i64 (cmpI x y)) := by
  obtain ⟨n, rfl⟩ := Int.eq_ofNat_of_zero_le hx0
  obtain ⟨m, rfl⟩ := Int.eq_ofNat_of_zero_le hy0
  rw [← nv_iv, ← nv_iv]
  exact dCompare (half_lt n) (half_lt m) (halves n) (halves m)
end
/- the same, of fractions -/
section
variable {f g : Fq} {n w s : Int}
theorem hl_num (hU : f.U) : iv f.hi f.lo = iv (hiV f.num) (loV f.num) := by rw [hU.hl.1, hU.hl.2]
theorem ftimes_v (hU : f.U) (hk : f.ok = true) (hw : wB w = true) : Dt 66 #[iv f.hi f.lo, .int .u64 w, .int .u64 1] (.tuple #[iv (hiV (f.num * w)) (loV (f.num * w)), .int .i64 0]) := by
  have h1 := wB_iff.1 hw
  have h2 := mul_lt hU.n0 (num_lt hU hk) (show 0 ≤ w by omega) h1.2
  have h3 := num_big hU
  have := wscale_v (x := f.num) (m := w) (d := 1) hU.n0 h3 (by omega) (by omega) (by decide) (by decide) (by rw [upD_one]; exact h2.2)
  rw [upD_one] at this
  rw [hl_num hU]; exact this
end
end Go.Proofs.Ytoljahfofkmdaaa

/-! The reference's comparison of fractions (lines of chapter 5's text, turned to this seat). -/
namespace Go.Proofs.Ytoljahfofkmdaaa
open Go Go.RowKit

abbrev fv (h l w : Nat) : Value := .agg #[.int .u64 h, .int .u64 l, .int .u64 w]
set_option maxRecDepth 100000 in
set_option maxHeartbeats 1000000 in
theorem rcmp_lt (h l x H L X n m p q : Nat) (w : World)
    (HO1 : Hid (Dt 69 #[wv h l] (.agg (bA n))))
    (HP1 : Hid (Dt 68 #[.agg (bA n), .int .u64 X] (.agg (bA p))))
    (HO2 : Hid (Dt 69 #[wv H L] (.agg (bA m))))
    (HP2 : Hid (Dt 68 #[.agg (bA m), .int .u64 x] (.agg (bA q))))
    (HL1 : Hid (Dt 70 #[.agg (bA p), .agg (bA q)] (.bool true)))
    (HL2 : Hid (Dt 70 #[.agg (bA q), .agg (bA p)] (.bool false)))
    : Calls Try.prog 50 #[fv h l x, fv H L X] w fun e w' => e = .returned (.int .i64 (-1)) ∧ Below w.heap.size w w' := by
  have M0 := Has.start w
  go_enter Try.func50, Try.ntmps50
  refine wp_seq_k (fun K1 H1 => ?_)
  refine sq_region ?_
  refine sq_alloc rfl M0 (T := 45) (z := #[.int .u64 h, .int .u64 l, .int .u64 x]) (fun w' => by go_simp) (fun K hK => ?_)
  intro g2 w1 M1
  clear M0
  go_simp; refine hK _ _ ?_; clear hK K
  refine sq_alloc rfl M1 (T := 45) (z := #[.int .u64 H, .int .u64 L, .int .u64 X]) (fun w' => by go_simp) (fun K hK => ?_)
  intro g3 w2 M2
  clear M1
  go_simp; refine hK _ _ ?_; clear hK K
  refine sq_ex rfl (fun K hK => ?_); apply Exists.intro; refine ⟨?_, ?_⟩; (focus (go_simp; try exact rfl)); go_simp; refine hK _ _ ?_; clear hK K
  refine sq_nil ?_
  refine H1 _ _ ?_
  clear H1 K1
  refine wp_seq_k (fun K2 H2 => ?_)
  refine wp_region_rows (L := [(g2, #[.int .u64 h, .int .u64 l, .int .u64 x], 45), (g3, #[.int .u64 H, .int .u64 L, .int .u64 X], 45)]) [(6, .box 110 (bA 0) 7)] [(2, fun v => v = .agg (bA n)), (5, fun v => v = .agg (bA p)), (6, fun v => ∃ g, v = .pointer (some ⟨g, 0, none⟩))] M2 (by kernel_rfl) (by kernel_rfl) (by kernel_rfl) (by kernel_rfl) ?_
  refine rs_ex rfl rfl rfl rfl rfl ⟨_, M2⟩ (fun K hK => ?_); apply Exists.intro; refine ⟨fun w' hw => ?_, ?_⟩; (focus (go_simp; try exact rfl)); go_simp; refine hK _ ?_; clear hK K
  refine rs_ex rfl rfl rfl rfl rfl ⟨_, M2⟩ (fun K hK => ?_); refine ⟨_, fun w' hw => run_ldm [.int .u64 h, .int .u64 l] rfl rfl (hw.row 0 rfl) (fun j v h => by match j with | 0 => simpa using h | 1 => simpa using h | (k + 2) => simp at h) rfl Try.underlying43 wide_size, ?_⟩; go_simp; refine hK _ ?_; clear hK K
  refine rs_call rfl rfl (fun v => v = .agg (bA n)) rfl rfl ⟨_, rfl⟩ (fun w' => by go_simp) (fun w' hw => (HO1.out w').mono fun e w'' hh => ⟨_, hh.1, rfl, hh.2⟩) (fun K hK => ?_); rintro _ rfl; go_simp; refine hK _ ?_; clear hK K
  refine rs_ex rfl rfl rfl rfl rfl ⟨_, M2⟩ (fun K hK => ?_); apply Exists.intro; refine ⟨fun w' hw => ?_, ?_⟩; (focus (go_simp; try exact rfl)); go_simp; refine hK _ ?_; clear hK K
  refine rs_ex rfl rfl rfl rfl rfl ⟨_, M2⟩ (fun K hK => ?_); apply Exists.intro; refine ⟨fun w' hw => ?_, ?_⟩; (focus (have c := IsR.cell (hw.row 1 rfl); have f := IsR.froz (hw.row 1 rfl); go_simp; try exact rfl)); go_simp; refine hK _ ?_; clear hK K
  refine rs_call rfl rfl (fun v => v = .agg (bA p)) rfl rfl ⟨_, rfl⟩ (fun w' => by go_simp) (fun w' hw => (HP1.out w').mono fun e w'' hh => ⟨_, hh.1, rfl, hh.2⟩) (fun K hK => ?_); rintro _ rfl; go_simp; refine hK _ ?_; clear hK K
  refine rs_alloc rfl rfl rfl 0 rfl rfl rfl (by decide) (by kernel_rfl) (fun w' => by have hz := bits_zero w'; go_simp) (fun K hK => ?_); intro g5; go_simp; refine hK _ ?_; clear hK K
  refine rs_store rfl rfl rfl rfl ⟨_, M2⟩ rfl 0 rfl rfl (by decide) rfl rfl (by kernel_rfl) rfl rfl (run_st (cs := (bA p)) rfl rfl rfl (bits_size _) (by rw [bA_size, bA_size]) (bA_oneCell _)) (fun K hK => ?_); go_simp; refine hK _ ?_; clear hK K
  refine rs_nil ?_
  intro w3 M
  have M3 : Has w [(g2, #[.int .u64 h, .int .u64 l, .int .u64 x], 45), (g3, #[.int .u64 H, .int .u64 L, .int .u64 X], 45), (g5, (bA p), 110)] w3 := M
  clear M2 M
  refine H2 _ _ ?_
  clear H2 K2
  refine wp_seq_k (fun K3 H3 => ?_)
  refine wp_region_rows (L := [(g2, #[.int .u64 h, .int .u64 l, .int .u64 x], 45), (g3, #[.int .u64 H, .int .u64 L, .int .u64 X], 45), (g5, (bA p), 110)]) [(6, .box 110 (bA 0) 7)] [(2, fun v => v = .agg (bA m)), (5, fun v => v = .agg (bA q)), (6, fun v => ∃ g, v = .pointer (some ⟨g, 0, none⟩))] M3 (by kernel_rfl) (by kernel_rfl) (by kernel_rfl) (by kernel_rfl) ?_
  refine rs_ex rfl rfl rfl rfl rfl ⟨_, M3⟩ (fun K hK => ?_); apply Exists.intro; refine ⟨fun w' hw => ?_, ?_⟩; (focus (go_simp; try exact rfl)); go_simp; refine hK _ ?_; clear hK K
  refine rs_ex rfl rfl rfl rfl rfl ⟨_, M3⟩ (fun K hK => ?_); refine ⟨_, fun w' hw => run_ldm [.int .u64 H, .int .u64 L] rfl rfl (hw.row 1 rfl) (fun j v h => by match j with | 0 => simpa using h | 1 => simpa using h | (k + 2) => simp at h) rfl Try.underlying43 wide_size, ?_⟩; go_simp; refine hK _ ?_; clear hK K
  refine rs_call rfl rfl (fun v => v = .agg (bA m)) rfl rfl ⟨_, rfl⟩ (fun w' => by go_simp) (fun w' hw => (HO2.out w').mono fun e w'' hh => ⟨_, hh.1, rfl, hh.2⟩) (fun K hK => ?_); rintro _ rfl; go_simp; refine hK _ ?_; clear hK K
  refine rs_ex rfl rfl rfl rfl rfl ⟨_, M3⟩ (fun K hK => ?_); apply Exists.intro; refine ⟨fun w' hw => ?_, ?_⟩; (focus (go_simp; try exact rfl)); go_simp; refine hK _ ?_; clear hK K
  refine rs_ex rfl rfl rfl rfl rfl ⟨_, M3⟩ (fun K hK => ?_); apply Exists.intro; refine ⟨fun w' hw => ?_, ?_⟩; (focus (have c := IsR.cell (hw.row 0 rfl); have f := IsR.froz (hw.row 0 rfl); go_simp; try exact rfl)); go_simp; refine hK _ ?_; clear hK K
  refine rs_call rfl rfl (fun v => v = .agg (bA q)) rfl rfl ⟨_, rfl⟩ (fun w' => by go_simp) (fun w' hw => (HP2.out w').mono fun e w'' hh => ⟨_, hh.1, rfl, hh.2⟩) (fun K hK => ?_); rintro _ rfl; go_simp; refine hK _ ?_; clear hK K
  refine rs_alloc rfl rfl rfl 0 rfl rfl rfl (by decide) (by kernel_rfl) (fun w' => by have hz := bits_zero w'; go_simp) (fun K hK => ?_); intro g6; go_simp; refine hK _ ?_; clear hK K
  refine rs_store rfl rfl rfl rfl ⟨_, M3⟩ rfl 0 rfl rfl (by decide) rfl rfl (by kernel_rfl) rfl rfl (run_st (cs := (bA q)) rfl rfl rfl (bits_size _) (by rw [bA_size, bA_size]) (bA_oneCell _)) (fun K hK => ?_); go_simp; refine hK _ ?_; clear hK K
  refine rs_nil ?_
  intro w4 M
  have M4 : Has w [(g2, #[.int .u64 h, .int .u64 l, .int .u64 x], 45), (g3, #[.int .u64 H, .int .u64 L, .int .u64 X], 45), (g5, (bA p), 110), (g6, (bA q), 110)] w4 := M
  clear M3 M
  refine H3 _ _ ?_
  clear H3 K3
  refine wp_seq_k (fun K4 H4 => ?_)
  refine wp_seq_k (fun K5 H5 => ?_)
  refine sq_region ?_
  refine sq_ex rfl (fun K hK => ?_); refine ⟨_, run_ld rfl rfl (M4.row 2 rfl) rfl Try.underlying110 (bits_size _), ?_⟩; go_simp; refine hK _ _ ?_; clear hK K
  refine sq_ex rfl (fun K hK => ?_); refine ⟨_, run_ld rfl rfl (M4.row 3 rfl) rfl Try.underlying110 (bits_size _), ?_⟩; go_simp; refine hK _ _ ?_; clear hK K
  refine sq_call rfl (fun w' => by go_simp) (HL1.out _) (fun K hK => ?_)
  rintro e w5 ⟨rfl, hb⟩
  refine ⟨_, rfl, ?_⟩
  have M5 := M4.kept hb
  clear M4 hb
  go_simp; refine hK _ _ ?_; clear hK K
  refine sq_nil ?_
  refine H5 _ _ ?_
  clear H5 K5
  refine wp_cond_true rfl ?_
  refine wp_seq_k (fun K6 H6 => ?_)
  refine sq_region ?_
  refine sq_ex rfl (fun K hK => ?_); apply Exists.intro; refine ⟨?_, ?_⟩; (focus (go_simp; try exact rfl)); go_simp; refine hK _ _ ?_; clear hK K
  refine sq_nil ?_
  refine H6 _ _ ?_
  clear H6 K6
  refine wp_ret ?_
  go_ret
  exact ⟨rfl, M5.below⟩

set_option maxRecDepth 100000 in
set_option maxHeartbeats 1000000 in
theorem rcmp_gt (h l x H L X n m p q : Nat) (w : World)
    (HO1 : Hid (Dt 69 #[wv h l] (.agg (bA n))))
    (HP1 : Hid (Dt 68 #[.agg (bA n), .int .u64 X] (.agg (bA p))))
    (HO2 : Hid (Dt 69 #[wv H L] (.agg (bA m))))
    (HP2 : Hid (Dt 68 #[.agg (bA m), .int .u64 x] (.agg (bA q))))
    (HL1 : Hid (Dt 70 #[.agg (bA p), .agg (bA q)] (.bool false)))
    (HL2 : Hid (Dt 70 #[.agg (bA q), .agg (bA p)] (.bool true)))
    : Calls Try.prog 50 #[fv h l x, fv H L X] w fun e w' => e = .returned (.int .i64 1) ∧ Below w.heap.size w w' := by
  have M0 := Has.start w
  go_enter Try.func50, Try.ntmps50
  refine wp_seq_k (fun K1 H1 => ?_)
  refine sq_region ?_
  refine sq_alloc rfl M0 (T := 45) (z := #[.int .u64 h, .int .u64 l, .int .u64 x]) (fun w' => by go_simp) (fun K hK => ?_)
  intro g2 w1 M1
  clear M0
  go_simp; refine hK _ _ ?_; clear hK K
  refine sq_alloc rfl M1 (T := 45) (z := #[.int .u64 H, .int .u64 L, .int .u64 X]) (fun w' => by go_simp) (fun K hK => ?_)
  intro g3 w2 M2
  clear M1
  go_simp; refine hK _ _ ?_; clear hK K
  refine sq_ex rfl (fun K hK => ?_); apply Exists.intro; refine ⟨?_, ?_⟩; (focus (go_simp; try exact rfl)); go_simp; refine hK _ _ ?_; clear hK K
  refine sq_nil ?_
  refine H1 _ _ ?_
  clear H1 K1
  refine wp_seq_k (fun K2 H2 => ?_)
  refine wp_region_rows (L := [(g2, #[.int .u64 h, .int .u64 l, .int .u64 x], 45), (g3, #[.int .u64 H, .int .u64 L, .int .u64 X], 45)]) [(6, .box 110 (bA 0) 7)] [(2, fun v => v = .agg (bA n)), (5, fun v => v = .agg (bA p)), (6, fun v => ∃ g, v = .pointer (some ⟨g, 0, none⟩))] M2 (by kernel_rfl) (by kernel_rfl) (by kernel_rfl) (by kernel_rfl) ?_
  refine rs_ex rfl rfl rfl rfl rfl ⟨_, M2⟩ (fun K hK => ?_); apply Exists.intro; refine ⟨fun w' hw => ?_, ?_⟩; (focus (go_simp; try exact rfl)); go_simp; refine hK _ ?_; clear hK K
  refine rs_ex rfl rfl rfl rfl rfl ⟨_, M2⟩ (fun K hK => ?_); refine ⟨_, fun w' hw => run_ldm [.int .u64 h, .int .u64 l] rfl rfl (hw.row 0 rfl) (fun j v h => by match j with | 0 => simpa using h | 1 => simpa using h | (k + 2) => simp at h) rfl Try.underlying43 wide_size, ?_⟩; go_simp; refine hK _ ?_; clear hK K
  refine rs_call rfl rfl (fun v => v = .agg (bA n)) rfl rfl ⟨_, rfl⟩ (fun w' => by go_simp) (fun w' hw => (HO1.out w').mono fun e w'' hh => ⟨_, hh.1, rfl, hh.2⟩) (fun K hK => ?_); rintro _ rfl; go_simp; refine hK _ ?_; clear hK K
  refine rs_ex rfl rfl rfl rfl rfl ⟨_, M2⟩ (fun K hK => ?_); apply Exists.intro; refine ⟨fun w' hw => ?_, ?_⟩; (focus (go_simp; try exact rfl)); go_simp; refine hK _ ?_; clear hK K
  refine rs_ex rfl rfl rfl rfl rfl ⟨_, M2⟩ (fun K hK => ?_); apply Exists.intro; refine ⟨fun w' hw => ?_, ?_⟩; (focus (have c := IsR.cell (hw.row 1 rfl); have f := IsR.froz (hw.row 1 rfl); go_simp; try exact rfl)); go_simp; refine hK _ ?_; clear hK K
  refine rs_call rfl rfl (fun v => v = .agg (bA p)) rfl rfl ⟨_, rfl⟩ (fun w' => by go_simp) (fun w' hw => (HP1.out w').mono fun e w'' hh => ⟨_, hh.1, rfl, hh.2⟩) (fun K hK => ?_); rintro _ rfl; go_simp; refine hK _ ?_; clear hK K
  refine rs_alloc rfl rfl rfl 0 rfl rfl rfl (by decide) (by kernel_rfl) (fun w' => by have hz := bits_zero w'; go_simp) (fun K hK => ?_); intro g5; go_simp; refine hK _ ?_; clear hK K
  refine rs_store rfl rfl rfl rfl ⟨_, M2⟩ rfl 0 rfl rfl (by decide) rfl rfl (by kernel_rfl) rfl rfl (run_st (cs := (bA p)) rfl rfl rfl (bits_size _) (by rw [bA_size, bA_size]) (bA_oneCell _)) (fun K hK => ?_); go_simp; refine hK _ ?_; clear hK K
  refine rs_nil ?_
  intro w3 M
  have M3 : Has w [(g2, #[.int .u64 h, .int .u64 l, .int .u64 x], 45), (g3, #[.int .u64 H, .int .u64 L, .int .u64 X], 45), (g5, (bA p), 110)] w3 := M
  clear M2 M
  refine H2 _ _ ?_
  clear H2 K2
  refine wp_seq_k (fun K3 H3 => ?_)
  refine wp_region_rows (L := [(g2, #[.int .u64 h, .int .u64 l, .int .u64 x], 45), (g3, #[.int .u64 H, .int .u64 L, .int .u64 X], 45), (g5, (bA p), 110)]) [(6, .box 110 (bA 0) 7)] [(2, fun v => v = .agg (bA m)), (5, fun v => v = .agg (bA q)), (6, fun v => ∃ g, v = .pointer (some ⟨g, 0, none⟩))] M3 (by kernel_rfl) (by kernel_rfl) (by kernel_rfl) (by kernel_rfl) ?_
  refine rs_ex rfl rfl rfl rfl rfl ⟨_, M3⟩ (fun K hK => ?_); apply Exists.intro; refine ⟨fun w' hw => ?_, ?_⟩; (focus (go_simp; try exact rfl)); go_simp; refine hK _ ?_; clear hK K
  refine rs_ex rfl rfl rfl rfl rfl ⟨_, M3⟩ (fun K hK => ?_); refine ⟨_, fun w' hw => run_ldm [.int .u64 H, .int .u64 L] rfl rfl (hw.row 1 rfl) (fun j v h => by match j with | 0 => simpa using h | 1 => simpa using h | (k + 2) => simp at h) rfl Try.underlying43 wide_size, ?_⟩; go_simp; refine hK _ ?_; clear hK K
  refine rs_call rfl rfl (fun v => v = .agg (bA m)) rfl rfl ⟨_, rfl⟩ (fun w' => by go_simp) (fun w' hw => (HO2.out w').mono fun e w'' hh => ⟨_, hh.1, rfl, hh.2⟩) (fun K hK => ?_); rintro _ rfl; go_simp; refine hK _ ?_; clear hK K
  refine rs_ex rfl rfl rfl rfl rfl ⟨_, M3⟩ (fun K hK => ?_); apply Exists.intro; refine ⟨fun w' hw => ?_, ?_⟩; (focus (go_simp; try exact rfl)); go_simp; refine hK _ ?_; clear hK K
  refine rs_ex rfl rfl rfl rfl rfl ⟨_, M3⟩ (fun K hK => ?_); apply Exists.intro; refine ⟨fun w' hw => ?_, ?_⟩; (focus (have c := IsR.cell (hw.row 0 rfl); have f := IsR.froz (hw.row 0 rfl); go_simp; try exact rfl)); go_simp; refine hK _ ?_; clear hK K
  refine rs_call rfl rfl (fun v => v = .agg (bA q)) rfl rfl ⟨_, rfl⟩ (fun w' => by go_simp) (fun w' hw => (HP2.out w').mono fun e w'' hh => ⟨_, hh.1, rfl, hh.2⟩) (fun K hK => ?_); rintro _ rfl; go_simp; refine hK _ ?_; clear hK K
  refine rs_alloc rfl rfl rfl 0 rfl rfl rfl (by decide) (by kernel_rfl) (fun w' => by have hz := bits_zero w'; go_simp) (fun K hK => ?_); intro g6; go_simp; refine hK _ ?_; clear hK K
  refine rs_store rfl rfl rfl rfl ⟨_, M3⟩ rfl 0 rfl rfl (by decide) rfl rfl (by kernel_rfl) rfl rfl (run_st (cs := (bA q)) rfl rfl rfl (bits_size _) (by rw [bA_size, bA_size]) (bA_oneCell _)) (fun K hK => ?_); go_simp; refine hK _ ?_; clear hK K
  refine rs_nil ?_
  intro w4 M
  have M4 : Has w [(g2, #[.int .u64 h, .int .u64 l, .int .u64 x], 45), (g3, #[.int .u64 H, .int .u64 L, .int .u64 X], 45), (g5, (bA p), 110), (g6, (bA q), 110)] w4 := M
  clear M3 M
  refine H3 _ _ ?_
  clear H3 K3
  refine wp_seq_k (fun K4 H4 => ?_)
  refine wp_seq_k (fun K5 H5 => ?_)
  refine sq_region ?_
  refine sq_ex rfl (fun K hK => ?_); refine ⟨_, run_ld rfl rfl (M4.row 2 rfl) rfl Try.underlying110 (bits_size _), ?_⟩; go_simp; refine hK _ _ ?_; clear hK K
  refine sq_ex rfl (fun K hK => ?_); refine ⟨_, run_ld rfl rfl (M4.row 3 rfl) rfl Try.underlying110 (bits_size _), ?_⟩; go_simp; refine hK _ _ ?_; clear hK K
  refine sq_call rfl (fun w' => by go_simp) (HL1.out _) (fun K hK => ?_)
  rintro e w5 ⟨rfl, hb⟩
  refine ⟨_, rfl, ?_⟩
  have M5 := M4.kept hb
  clear M4 hb
  go_simp; refine hK _ _ ?_; clear hK K
  refine sq_nil ?_
  refine H5 _ _ ?_
  clear H5 K5
  refine wp_cond_false rfl ?_
  refine wp_skip ?_
  refine H4 _ _ ?_
  clear H4 K4
  refine wp_seq_k (fun K6 H6 => ?_)
  refine wp_seq_k (fun K7 H7 => ?_)
  refine sq_region ?_
  refine sq_ex rfl (fun K hK => ?_); refine ⟨_, run_ld rfl rfl (M5.row 3 rfl) rfl Try.underlying110 (bits_size _), ?_⟩; go_simp; refine hK _ _ ?_; clear hK K
  refine sq_ex rfl (fun K hK => ?_); refine ⟨_, run_ld rfl rfl (M5.row 2 rfl) rfl Try.underlying110 (bits_size _), ?_⟩; go_simp; refine hK _ _ ?_; clear hK K
  refine sq_call rfl (fun w' => by go_simp) (HL2.out _) (fun K hK => ?_)
  rintro e w6 ⟨rfl, hb⟩
  refine ⟨_, rfl, ?_⟩
  have M6 := M5.kept hb
  clear M5 hb
  go_simp; refine hK _ _ ?_; clear hK K
  refine sq_nil ?_
  refine H7 _ _ ?_
  clear H7 K7
  refine wp_cond_true rfl ?_
  refine wp_seq_k (fun K8 H8 => ?_)
  refine sq_region ?_
  refine sq_ex rfl (fun K hK => ?_); apply Exists.intro; refine ⟨?_, ?_⟩; (focus (go_simp; try exact rfl)); go_simp; refine hK _ _ ?_; clear hK K
  refine sq_nil ?_
  refine H8 _ _ ?_
  clear H8 K8
  refine wp_ret ?_
  go_ret
  exact ⟨rfl, M6.below⟩

set_option maxRecDepth 100000 in
set_option maxHeartbeats 1000000 in
theorem rcmp_eq (h l x H L X n m p q : Nat) (w : World)
    (HO1 : Hid (Dt 69 #[wv h l] (.agg (bA n))))
    (HP1 : Hid (Dt 68 #[.agg (bA n), .int .u64 X] (.agg (bA p))))
    (HO2 : Hid (Dt 69 #[wv H L] (.agg (bA m))))
    (HP2 : Hid (Dt 68 #[.agg (bA m), .int .u64 x] (.agg (bA q))))
    (HL1 : Hid (Dt 70 #[.agg (bA p), .agg (bA q)] (.bool false)))
    (HL2 : Hid (Dt 70 #[.agg (bA q), .agg (bA p)] (.bool false)))
    : Calls Try.prog 50 #[fv h l x, fv H L X] w fun e w' => e = .returned (.int .i64 0) ∧ Below w.heap.size w w' := by
  have M0 := Has.start w
  go_enter Try.func50, Try.ntmps50
  refine wp_seq_k (fun K1 H1 => ?_)
  refine sq_region ?_
  refine sq_alloc rfl M0 (T := 45) (z := #[.int .u64 h, .int .u64 l, .int .u64 x]) (fun w' => by go_simp) (fun K hK => ?_)
  intro g2 w1 M1
  clear M0
  go_simp; refine hK _ _ ?_; clear hK K
  refine sq_alloc rfl M1 (T := 45) (z := #[.int .u64 H, .int .u64 L, .int .u64 X]) (fun w' => by go_simp) (fun K hK => ?_)
  intro g3 w2 M2
  clear M1
  go_simp; refine hK _ _ ?_; clear hK K
  refine sq_ex rfl (fun K hK => ?_); apply Exists.intro; refine ⟨?_, ?_⟩; (focus (go_simp; try exact rfl)); go_simp; refine hK _ _ ?_; clear hK K
  refine sq_nil ?_
  refine H1 _ _ ?_
  clear H1 K1
  refine wp_seq_k (fun K2 H2 => ?_)
  refine wp_region_rows (L := [(g2, #[.int .u64 h, .int .u64 l, .int .u64 x], 45), (g3, #[.int .u64 H, .int .u64 L, .int .u64 X], 45)]) [(6, .box 110 (bA 0) 7)] [(2, fun v => v = .agg (bA n)), (5, fun v => v = .agg (bA p)), (6, fun v => ∃ g, v = .pointer (some ⟨g, 0, none⟩))] M2 (by kernel_rfl) (by kernel_rfl) (by kernel_rfl) (by kernel_rfl) ?_
  refine rs_ex rfl rfl rfl rfl rfl ⟨_, M2⟩ (fun K hK => ?_); apply Exists.intro; refine ⟨fun w' hw => ?_, ?_⟩; (focus (go_simp; try exact rfl)); go_simp; refine hK _ ?_; clear hK K
  refine rs_ex rfl rfl rfl rfl rfl ⟨_, M2⟩ (fun K hK => ?_); refine ⟨_, fun w' hw => run_ldm [.int .u64 h, .int .u64 l] rfl rfl (hw.row 0 rfl) (fun j v h => by match j with | 0 => simpa using h | 1 => simpa using h | (k + 2) => simp at h) rfl Try.underlying43 wide_size, ?_⟩; go_simp; refine hK _ ?_; clear hK K
  refine rs_call rfl rfl (fun v => v = .agg (bA n)) rfl rfl ⟨_, rfl⟩ (fun w' => by go_simp) (fun w' hw => (HO1.out w').mono fun e w'' hh => ⟨_, hh.1, rfl, hh.2⟩) (fun K hK => ?_); rintro _ rfl; go_simp; refine hK _ ?_; clear hK K
  refine rs_ex rfl rfl rfl rfl rfl ⟨_, M2⟩ (fun K hK => ?_); apply Exists.intro; refine ⟨fun w' hw => ?_, ?_⟩; (focus (go_simp; try exact rfl)); go_simp; refine hK _ ?_; clear hK K
  refine rs_ex rfl rfl rfl rfl rfl ⟨_, M2⟩ (fun K hK => ?_); apply Exists.intro; refine ⟨fun w' hw => ?_, ?_⟩; (focus (have c := IsR.cell (hw.row 1 rfl); have f := IsR.froz (hw.row 1 rfl); go_simp; try exact rfl)); go_simp; refine hK _ ?_; clear hK K
  refine rs_call rfl rfl (fun v => v = .agg (bA p)) rfl rfl ⟨_, rfl⟩ (fun w' => by go_simp) (fun w' hw => (HP1.out w').mono fun e w'' hh => ⟨_, hh.1, rfl, hh.2⟩) (fun K hK => ?_); rintro _ rfl; go_simp; refine hK _ ?_; clear hK K
  refine rs_alloc rfl rfl rfl 0 rfl rfl rfl (by decide) (by kernel_rfl) (fun w' => by have hz := bits_zero w'; go_simp) (fun K hK => ?_); intro g5; go_simp; refine hK _ ?_; clear hK K
  refine rs_store rfl rfl rfl rfl ⟨_, M2⟩ rfl 0 rfl rfl (by decide) rfl rfl (by kernel_rfl) rfl rfl (run_st (cs := (bA p)) rfl rfl rfl (bits_size _) (by rw [bA_size, bA_size]) (bA_oneCell _)) (fun K hK => ?_); go_simp; refine hK _ ?_; clear hK K
  refine rs_nil ?_
  intro w3 M
  have M3 : Has w [(g2, #[.int .u64 h, .int .u64 l, .int .u64 x], 45), (g3, #[.int .u64 H, .int .u64 L, .int .u64 X], 45), (g5, (bA p), 110)] w3 := M
  clear M2 M
  refine H2 _ _ ?_
  clear H2 K2
  refine wp_seq_k (fun K3 H3 => ?_)
  refine wp_region_rows (L := [(g2, #[.int .u64 h, .int .u64 l, .int .u64 x], 45), (g3, #[.int .u64 H, .int .u64 L, .int .u64 X], 45), (g5, (bA p), 110)]) [(6, .box 110 (bA 0) 7)] [(2, fun v => v = .agg (bA m)), (5, fun v => v = .agg (bA q)), (6, fun v => ∃ g, v = .pointer (some ⟨g, 0, none⟩))] M3 (by kernel_rfl) (by kernel_rfl) (by kernel_rfl) (by kernel_rfl) ?_
  refine rs_ex rfl rfl rfl rfl rfl ⟨_, M3⟩ (fun K hK => ?_); apply Exists.intro; refine ⟨fun w' hw => ?_, ?_⟩; (focus (go_simp; try exact rfl)); go_simp; refine hK _ ?_; clear hK K
  refine rs_ex rfl rfl rfl rfl rfl ⟨_, M3⟩ (fun K hK => ?_); refine ⟨_, fun w' hw => run_ldm [.int .u64 H, .int .u64 L] rfl rfl (hw.row 1 rfl) (fun j v h => by match j with | 0 => simpa using h | 1 => simpa using h | (k + 2) => simp at h) rfl Try.underlying43 wide_size, ?_⟩; go_simp; refine hK _ ?_; clear hK K
  refine rs_call rfl rfl (fun v => v = .agg (bA m)) rfl rfl ⟨_, rfl⟩ (fun w' => by go_simp) (fun w' hw => (HO2.out w').mono fun e w'' hh => ⟨_, hh.1, rfl, hh.2⟩) (fun K hK => ?_); rintro _ rfl; go_simp; refine hK _ ?_; clear hK K
  refine rs_ex rfl rfl rfl rfl rfl ⟨_, M3⟩ (fun K hK => ?_); apply Exists.intro; refine ⟨fun w' hw => ?_, ?_⟩; (focus (go_simp; try exact rfl)); go_simp; refine hK _ ?_; clear hK K
  refine rs_ex rfl rfl rfl rfl rfl ⟨_, M3⟩ (fun K hK => ?_); apply Exists.intro; refine ⟨fun w' hw => ?_, ?_⟩; (focus (have c := IsR.cell (hw.row 0 rfl); have f := IsR.froz (hw.row 0 rfl); go_simp; try exact rfl)); go_simp; refine hK _ ?_; clear hK K
  refine rs_call rfl rfl (fun v => v = .agg (bA q)) rfl rfl ⟨_, rfl⟩ (fun w' => by go_simp) (fun w' hw => (HP2.out w').mono fun e w'' hh => ⟨_, hh.1, rfl, hh.2⟩) (fun K hK => ?_); rintro _ rfl; go_simp; refine hK _ ?_; clear hK K
  refine rs_alloc rfl rfl rfl 0 rfl rfl rfl (by decide) (by kernel_rfl) (fun w' => by have hz := bits_zero w'; go_simp) (fun K hK => ?_); intro g6; go_simp; refine hK _ ?_; clear hK K
  refine rs_store rfl rfl rfl rfl ⟨_, M3⟩ rfl 0 rfl rfl (by decide) rfl rfl (by kernel_rfl) rfl rfl (run_st (cs := (bA q)) rfl rfl rfl (bits_size _) (by rw [bA_size, bA_size]) (bA_oneCell _)) (fun K hK => ?_); go_simp; refine hK _ ?_; clear hK K
  refine rs_nil ?_
  intro w4 M
  have M4 : Has w [(g2, #[.int .u64 h, .int .u64 l, .int .u64 x], 45), (g3, #[.int .u64 H, .int .u64 L, .int .u64 X], 45), (g5, (bA p), 110), (g6, (bA q), 110)] w4 := M
  clear M3 M
  refine H3 _ _ ?_
  clear H3 K3
  refine wp_seq_k (fun K4 H4 => ?_)
  refine wp_seq_k (fun K5 H5 => ?_)
  refine sq_region ?_
  refine sq_ex rfl (fun K hK => ?_); refine ⟨_, run_ld rfl rfl (M4.row 2 rfl) rfl Try.underlying110 (bits_size _), ?_⟩; go_simp; refine hK _ _ ?_; clear hK K
  refine sq_ex rfl (fun K hK => ?_); refine ⟨_, run_ld rfl rfl (M4.row 3 rfl) rfl Try.underlying110 (bits_size _), ?_⟩; go_simp; refine hK _ _ ?_; clear hK K
  refine sq_call rfl (fun w' => by go_simp) (HL1.out _) (fun K hK => ?_)
  rintro e w5 ⟨rfl, hb⟩
  refine ⟨_, rfl, ?_⟩
  have M5 := M4.kept hb
  clear M4 hb
  go_simp; refine hK _ _ ?_; clear hK K
  refine sq_nil ?_
  refine H5 _ _ ?_
  clear H5 K5
  refine wp_cond_false rfl ?_
  refine wp_skip ?_
  refine H4 _ _ ?_
  clear H4 K4
  refine wp_seq_k (fun K6 H6 => ?_)
  refine wp_seq_k (fun K7 H7 => ?_)
  refine sq_region ?_
  refine sq_ex rfl (fun K hK => ?_); refine ⟨_, run_ld rfl rfl (M5.row 3 rfl) rfl Try.underlying110 (bits_size _), ?_⟩; go_simp; refine hK _ _ ?_; clear hK K
  refine sq_ex rfl (fun K hK => ?_); refine ⟨_, run_ld rfl rfl (M5.row 2 rfl) rfl Try.underlying110 (bits_size _), ?_⟩; go_simp; refine hK _ _ ?_; clear hK K
  refine sq_call rfl (fun w' => by go_simp) (HL2.out _) (fun K hK => ?_)
  rintro e w6 ⟨rfl, hb⟩
  refine ⟨_, rfl, ?_⟩
  have M6 := M5.kept hb
  clear M5 hb
  go_simp; refine hK _ _ ?_; clear hK K
  refine sq_nil ?_
  refine H7 _ _ ?_
  clear H7 K7
  refine wp_cond_false rfl ?_
  refine wp_skip ?_
  refine H6 _ _ ?_
  clear H6 K6
  refine wp_seq_k (fun K8 H8 => ?_)
  refine sq_region ?_
  refine sq_ex rfl (fun K hK => ?_); apply Exists.intro; refine ⟨?_, ?_⟩; (focus (go_simp; try exact rfl)); go_simp; refine hK _ _ ?_; clear hK K
  refine sq_nil ?_
  refine H8 _ _ ?_
  clear H8 K8
  refine wp_ret ?_
  go_ret
  exact ⟨rfl, M6.below⟩

section
variable {a b : Fq}
theorem nat64 {h : Nat} (h1 : (h : Int) < 18446744073709551616) : h < 2 ^ 64 := by omega
theorem lt128 {h l : Nat} (h1 : h < 2 ^ 64) (l1 : l < 2 ^ 64) : h * 2 ^ 64 + l < 2 ^ 128 := by omega
theorem rcmp_n {h l x H L X n m : Nat} (w : World) (a1 : h < 2 ^ 64) (a2 : l < 2 ^ 64) (a3 : H < 2 ^ 64) (a4 : L < 2 ^ 64) (hx : x < 2 ^ 64) (hX : X < 2 ^ 64) (en : h * 2 ^ 64 + l = n) (em : H * 2 ^ 64 + L = m) (hn : n < 2 ^ 128) (hm : m < 2 ^ 128) :
    Calls Try.prog 50 #[fv h l x, fv H L X] w fun e w' => e = .returned (.int .i64 (cmpI ((n * X : Nat) : Int) ((m * x : Nat) : Int))) ∧ Below w.heap.size w w' := by
  have O1 := Lib.hid (dROf a1 a2 en)
  have O2 := Lib.hid (dROf a3 a4 em)
  have p1 : n * X < 2 ^ 256 := Nat.lt_trans (Nat.mul_lt_mul'' hn hX) (by decide)
  have p2 : m * x < 2 ^ 256 := Nat.lt_trans (Nat.mul_lt_mul'' hm hx) (by decide)
  have D1 := dLess p1 p2
  have D2 := dLess p2 p1
  have P1 := Lib.hid (dProduct n hX)
  have P2 := Lib.hid (dProduct m hx)
  clear a1 a2 a3 a4 hx hX en em hn hm p1 p2
  unfold cmpI
  rcases Nat.lt_trichotomy (n * X) (m * x) with g | g | g
  · rw [decide_eq_true g] at D1; rw [decide_eq_false (by omega)] at D2; rw [if_pos (by omega)]
    exact rcmp_lt h l x H L X n m _ _ w O1 P1 O2 P2 (Lib.hid D1) (Lib.hid D2)
  · rw [decide_eq_false (by omega)] at D1; rw [decide_eq_false (by omega)] at D2; rw [if_neg (by omega), if_neg (by omega)]
    rw [g] at P1 D1 D2
    exact rcmp_eq h l x H L X n m _ _ w O1 P1 O2 P2 (Lib.hid D1) (Lib.hid D2)
  · rw [decide_eq_false (by omega)] at D1; rw [decide_eq_true g] at D2; rw [if_neg (by omega), if_pos (by omega)]
    exact rcmp_gt h l x H L X n m _ _ w O1 P1 O2 P2 (Lib.hid D1) (Lib.hid D2)
theorem num_nat {h l x : Nat} : (⟨(h : Int), (l : Int), (x : Int)⟩ : Fq).num = ((h * 2 ^ 64 + l : Nat) : Int) := by unfold Fq.num numV; simp only; omega
theorem rcmp_t (a b : Fq) (w : World) (hU : a.U) (hV : b.U) : Calls Try.prog 50 #[.agg #[.int .u64 a.hi, .int .u64 a.lo, .int .u64 a.w], .agg #[.int .u64 b.hi, .int .u64 b.lo, .int .u64 b.w]] w fun e w' => e = .returned (.int .i64 (cmpI (a.num * b.w) (b.num * a.w))) ∧ Below w.heap.size w w' := by
  obtain ⟨h, l, x⟩ := a
  obtain ⟨H, L, X⟩ := b
  obtain ⟨h0, h1, l0, l1, x0, x1⟩ := hU
  obtain ⟨H0, H1, L0, L1, X0, X1⟩ := hV
  simp only at h0 h1 l0 l1 x0 x1 H0 H1 L0 L1 X0 X1
  obtain ⟨h, rfl⟩ := Int.eq_ofNat_of_zero_le h0
  obtain ⟨l, rfl⟩ := Int.eq_ofNat_of_zero_le l0
  obtain ⟨x, rfl⟩ := Int.eq_ofNat_of_zero_le x0
  obtain ⟨H, rfl⟩ := Int.eq_ofNat_of_zero_le H0
  obtain ⟨L, rfl⟩ := Int.eq_ofNat_of_zero_le L0
  obtain ⟨X, rfl⟩ := Int.eq_ofNat_of_zero_le X0
  have c := rcmp_n (h := h) (l := l) (x := x) (H := H) (L := L) (X := X) w (nat64 h1) (nat64 l1) (nat64 H1) (nat64 L1) (nat64 x1) (nat64 X1) rfl rfl (lt128 (nat64 h1) (nat64 l1)) (lt128 (nat64 H1) (nat64 L1))
  rw [Int.natCast_mul, Int.natCast_mul, ← num_nat (x := x), ← num_nat (x := X)] at c
  exact c
end
end Go.Proofs.Ytoljahfofkmdaaa

/-! The walker: an operation whose answer is told (a shift); a range over a function whose body may return; a function that holds one. -/
namespace Go.Proofs.Ytoljahfofkmdaaa
open Go Go.RowKit

section
variable {E : Env} {k : List Fr} {l : Sl} {L : List Ob} {all os : List Oper} {o : Oper} {i : Nat}
end
end Go.Proofs.Ytoljahfofkmdaaa

/-! The walker: operations whose answer is told, in regions that draw their order as well: bits, bytes of a table. -/
namespace Go.Proofs.Ytoljahfofkmdaaa
open Go Go.RowKit

section
variable {E : Env} {k : List Fr} {l : Sl} {L : List Ob} {all os : List Oper} {o : Oper} {i : Nat}
variable {P : Program} {ρ : Operand → Value} {T U : TypeId} {x y : Operand} {kd kd' : IntKind} {a b n : Int}
def orV (a b : Int) : Int := IntKind.u32.wrap (((a % 4294967296).toNat ||| (b % 4294967296).toNat : Nat) : Int)
def andV (a b : Int) : Int := IntKind.u32.wrap (((a % 4294967296).toNat &&& (b % 4294967296).toNat : Nat) : Int)
end
end Go.Proofs.Ytoljahfofkmdaaa

/-! The walker: more told operations on bits: and, and-not, sums that wrap. -/
namespace Go.Proofs.Ytoljahfofkmdaaa
open Go Go.RowKit
section
variable {P : Program} {ρ : Operand → Value} {T U : TypeId} {x y : Operand} {a b n : Int} {o : Oper}
def and64 (a b : Int) : Int := IntKind.u64.wrap (((a % 18446744073709551616).toNat &&& (b % 18446744073709551616).toNat : Nat) : Int)
def andI64 (a b : Int) : Int := IntKind.i64.wrap (((a % 18446744073709551616).toNat &&& (b % 18446744073709551616).toNat : Nat) : Int)
def andNotV (a b : Int) : Int := IntKind.u32.wrap (((a % 4294967296).toNat &&& (4294967295 - (b % 4294967296).toNat) : Nat) : Int)
end
end Go.Proofs.Ytoljahfofkmdaaa

/-! Fractions: which may be, how they stand. -/
namespace Go.Proofs.Ytoljahfofkmdaaa
open Go Go.RowKit

set_option maxRecDepth 100000 in
theorem weight_t (x : Int) (w : World)
 : Calls Try.prog 65 #[.int .u64 x] w fun e w' => e = .returned (.bool (wB x)) ∧ Below w.heap.size w w' := by
 refine enter (Hs.start w) Try.func65 rfl Try.ntmps65 rfl (sq_ (qa0 [] [0] [] (ds_ (sq_ ?_))))
 by_cases q3 : (x : Int) ≥ (1 : Int)
 ·
  by_cases q5 : (x : Int) ≤ (65535 : Int)
  ·
   refine qa [(1, .yes), (4, .yes)] [] [(2, .bool true)] ([(x : Int) ≥ (1 : Int)] ++ ([(x : Int) ≤ (65535 : Int)])) (alA (al1 q3) (al1 q5)) (ds_ (rt ([]) (.bool true) ?_))
   exact fun w' hw => ⟨by rw [show wB x = true from by simp only [wB, decide_eq_true_eq]; omega], hw.below⟩
  ·
   refine qa [(1, .yes), (4, .no)] [] [(2, .bool false)] ([(x : Int) ≥ (1 : Int)] ++ ([¬ ((x : Int) ≤ (65535 : Int))])) (alA (al1 q3) (al1 q5)) (ds_ (rt ([]) (.bool false) ?_))
   exact fun w' hw => ⟨by rw [show wB x = false from by simp only [wB, decide_eq_false_iff_not]; omega], hw.below⟩
 ·
  refine qa [(1, .no)] [] [(2, .bool false)] ([¬ ((x : Int) ≥ (1 : Int))]) (al1 q3) (ds_ (rt ([]) (.bool false) ?_))
  exact fun w' hw => ⟨by rw [show wB x = false from by simp only [wB, decide_eq_false_iff_not]; omega], hw.below⟩

set_option maxRecDepth 100000 in
theorem right_t (p : Option Addr) (n cap : Nat) (l : List Fq) (w : World)
 (hsl : Sv w p l) (hn : n = l.length) (hb : n ≤ 1000)
 : Calls Try.prog 45 #[.slice p n cap] w fun e w' => e = .returned (.bool (l.all Fq.ok)) ∧ Below w.heap.size w w' := by
 refine enter (Hs.start w) Try.func45 rfl Try.ntmps45 rfl (sq_ (qa0 [] [0] [] (ds_ (sq_ (sq_ (qa0 [] [] [(5, .slice p n cap), (6, .int .i64 (n : Nat)), (7, .int .i64 0)] (ds_ (at_block (at_loop (α := Nat) [5, 6, 7] (fun j => [(5, .slice p n cap), (6, .int .i64 (n : Nat)), (7, .int .i64 (j : Nat))]) (fun j => []) (fun j => j ≤ n ∧ ∀ y ∈ l.take j, y.ok = true) (fun j => n - j) 0 (by kernel_rfl) rfl ⟨Nat.zero_le _, all_take0T⟩ ?_)))))))))
 rintro j
 rintro ⟨hj, hI⟩
 refine sq_ ?_
 by_cases q4 : ((j : Nat) : Int) < ((n : Nat) : Int)
 ·
  refine qa [(0, .yes)] [5, 6, 7] [(8, .bool true)] ([((j : Nat) : Int) < ((n : Nat) : Int)]) (al1 q4) (ds_ (sq_ (t_ (at_skip (ds_ (sq_ (at_block (sq_ ?_))))))))
  obtain ⟨b7, o7, rfl⟩ := hsl.pos (i := j) (by omega)
  obtain ⟨x9, hx9⟩ := get_some (l := l) (m := j) (by omega)
  refine ma [(0, .at b7 o7 j), (1, .go (outs b7 (o7 + j * 3) [.int .u64 x9.hi, .int .u64 x9.lo, .int .u64 x9.w])), (3, .go (owns 0 0 3))] [5, 6, 7] (fun γ10 => [(4, .pointer (some ⟨γ10 0, 0, none⟩))]) (fun γ10 L => bx (γ10 0) (#[.int .u64 x9.hi, .int .u64 x9.lo, .int .u64 x9.w]) 45 :: L) (fun γ10 => [(some ⟨b7, o7, none⟩ : Option Addr) = some ⟨b7, o7, none⟩, (j : Nat) = ((j : Nat) : Int), j < n] ++ (cellsP w b7 (o7 + j * 3) [.int .u64 x9.hi, .int .u64 x9.lo, .int .u64 x9.w])) (fun γ10 => (alA (al2 rfl (al2 rfl (al1 (by omega)))) (rd_pre (hsl.get hx9) _ rfl))) (fun γ10 => ds_ (sq_ (ao_ (qo0 2 [(1, .go (owns 0 2 1))] [4, 5, 6, 7] [(12, .int .u64 x9.w)] ?_))))
  rcases q12 : wB x9.w with _ | _
  ·
   refine cD (.bool false) Try.call65 (fun w hw => by have := weight_t x9.w w; rw [q12] at this; exact this) (qo0 7 [] [5, 6, 7] [(20, .bool true)] (on_ (ds_ (t_ (sq_ (qa0 [] [] [(2, .bool false)] (ds_ (rt ([]) (.bool false) ?_))))))))
   exact fun w' hw => ⟨by rw [allF_no hx9 (ok_noW q12)], hw.below⟩
  ·
   refine cD (.bool true) Try.call65 (fun w hw => by have := weight_t x9.w w; rw [q12] at this; exact this) ?_
   by_cases q16 : (x9.hi : Int) ≥ (68719476736 : Int)
   ·
    refine qo 7 [(7, .go (owns 0 0 1)), (8, .yes)] [5, 6, 7] [(20, .bool true)] ([(x9.hi : Int) ≥ (68719476736 : Int)]) (al1 q16) (on_ (ds_ (t_ (sq_ (qa0 [] [] [(2, .bool false)] (ds_ (rt ([]) (.bool false) ?_)))))))
    exact fun w' hw => ⟨by rw [allF_no hx9 (ok_noH (by omega))], hw.below⟩
   ·
    refine qo 7 [(7, .go (owns 0 0 1)), (8, .no)] [5, 6, 7] [(20, .bool false)] ([¬ ((x9.hi : Int) ≥ (68719476736 : Int))]) (al1 q16) (on_ (ds_ (f_ (at_skip (done_block (ds_ (qa [(0, .fit)] [5, 6] [(7, .int .i64 (j + 1 : Nat))] ([Fit .i64 ((j + 1 : Nat))]) (al1 (fit64 (by omega) (by omega))) (Done.drop (L' := []) ?_ (List.Sublist.cons _ (List.Sublist.refl _))))))))))
    exact dr [5, 6, 7] (j + 1) ⟨by omega, all_onT hI hx9 (ok_yesW q12 (by omega))⟩
 ·
  refine qa [(0, .no)] [5, 6, 7] [(8, .bool false)] ([¬ (((j : Nat) : Int) < ((n : Nat) : Int))]) (al1 q4) (ds_ (sq_ (f_ (at_leave _ rfl (ds_ (sq_ (qa0 [] [] [(2, .bool true)] (ds_ (rt ([]) (.bool true) ?_)))))))))
  exact fun w' hw => ⟨by rw [allF_yes hI (by omega)], hw.below⟩

set_option maxRecDepth 100000 in
theorem fcheck_t (a : Fq) (w : World)
 : Calls Try.prog 19 #[.agg #[.int .u64 a.hi, .int .u64 a.lo, .int .u64 a.w]] w fun e w' => e = .returned (.int .i64 (if a.ok = true then 0 else 150)) ∧ Below w.heap.size w w' := by
 refine enter (Hs.start w) Try.func19 rfl Try.ntmps19 rfl (sq_ (ma0 [] [] (fun γ1 => [(1, .pointer (some ⟨γ1 0, 0, none⟩))]) (fun γ1 L => bx (γ1 0) (#[.int .u64 a.hi, .int .u64 a.lo, .int .u64 a.w]) 45 :: L) (fun γ1 => ds_ (sq_ (sq_ (ao_ (mo0 2 [(0, .go (owns 0 0 3))] [] (fun γ2 => [(4, .slice (some ⟨γ2 0, 0, none⟩) 1 1)]) (fun γ2 L => bx (γ2 0) (#[.int .u64 a.hi, .int .u64 a.lo, .int .u64 a.w]) 45 :: L) (fun γ2 => ?_))))))))
 rcases q3 : a.ok with _ | _
 ·
  refine cD (.bool false) Try.call45 (fun w hw => by have := right_t (some ⟨γ2 0, 0, none⟩) 1 1 [a] w (sv_row (hw.row 0 rfl) rfl) rfl (by decide); rw [all1, q3] at this; exact this) (qo0 1 [] [] [(6, .bool true)] (on_ (ds_ (t_ (sq_ (qa0 [] [] [(2, .int .i64 150)] (ds_ (rt ([]) (.int .i64 150) ?_))))))))
  exact fun w' hw => ⟨rfl, hw.below⟩
 ·
  refine cD (.bool true) Try.call45 (fun w hw => by have := right_t (some ⟨γ2 0, 0, none⟩) 1 1 [a] w (sv_row (hw.row 0 rfl) rfl) rfl (by decide); rw [all1, q3] at this; exact this) (qo0 1 [] [] [(6, .bool false)] (on_ (ds_ (f_ (at_skip (ds_ (sq_ (qa0 [] [] [(2, .int .i64 0)] (ds_ (rt ([]) (.int .i64 0) ?_))))))))))
  exact fun w' hw => ⟨rfl, hw.below⟩

set_option maxRecDepth 100000 in
theorem times_t (a : Fq) (m : Int) (w : World)
 (hU : a.U) (hk : a.ok = true) (hm : wB m = true)
 : Calls Try.prog 47 #[.agg #[.int .u64 a.hi, .int .u64 a.lo], .int .u64 m] w fun e w' => e = .returned (iv (hiV (a.num * m)) (loV (a.num * m))) ∧ Below w.heap.size w w' := by
 refine enter (Hs.start w) Try.func47 rfl Try.ntmps47 rfl (sq_ (ma0 [] [1] (fun γ1 => [(2, .pointer (some ⟨γ1 0, 0, none⟩)), (4, .pointer (some ⟨γ1 1, 0, none⟩))]) (fun γ1 L => bx (γ1 1) (#[.int .u64 0, .int .u64 0]) 43 :: bx (γ1 0) (#[.int .u64 a.hi, .int .u64 a.lo]) 43 :: L) (fun γ1 => ds_ (sq_ (ao_ (qo0 2 [(0, .go (owns 1 0 2))] [4] [(8, .agg #[.int .u64 a.hi, .int .u64 a.lo]), (9, .int .u64 m)] (cD (.tuple #[.agg #[.int .u64 (hiV (a.num * m)), .int .u64 (loV (a.num * m))], .int .i64 0]) Try.call66 (fun w hw => ftimes_v hU hk hm w) (mo0 6 [(7, .go (owns 0 0 2))] [4] (fun γ3 => [(5, .pointer (some ⟨γ3 0, 0, none⟩))]) (fun γ3 L => bx (γ3 0) (#[.int .u64 (hiV (a.num * m)), .int .u64 (loV (a.num * m))]) 43 :: L) (fun γ3 => on_ (ds_ (sq_ (ma0 [(0, .go (owns 0 0 2)), (1, .go (owns 1 0 2))] [4] (fun _ => []) (fun _ L => (L.set 1 (bx (γ1 1) (#[.int .u64 (hiV (a.num * m)), .int .u64 (loV (a.num * m))]) 43))) (fun _ => ds_ (rt (owns 1 0 2) (.agg #[.int .u64 (hiV (a.num * m)), .int .u64 (loV (a.num * m))]) ?_))))))))))))))
 exact fun w' hw => ⟨rfl, hw.below⟩

set_option maxRecDepth 100000 in
theorem fcmp_t (a b : Fq) (w : World)
 (hU : a.U) (hV : b.U)
 : Calls Try.prog 17 #[.agg #[.int .u64 a.hi, .int .u64 a.lo, .int .u64 a.w], .agg #[.int .u64 b.hi, .int .u64 b.lo, .int .u64 b.w]] w fun e w' => e = .returned (.int .i64 (cmpF a b)) ∧ Below w.heap.size w w' := by
 refine enter (Hs.start w) Try.func17 rfl Try.ntmps17 rfl (sq_ (ma0 [] [] (fun γ1 => [(2, .pointer (some ⟨γ1 0, 0, none⟩)), (3, .pointer (some ⟨γ1 1, 0, none⟩))]) (fun γ1 L => bx (γ1 1) (#[.int .u64 b.hi, .int .u64 b.lo, .int .u64 b.w]) 45 :: bx (γ1 0) (#[.int .u64 a.hi, .int .u64 a.lo, .int .u64 a.w]) 45 :: L) (fun γ1 => ds_ (sq_ (sq_ (ao_ (mo0 3 [(0, .go (owns 1 0 3)), (1, .go (owns 0 0 3))] [2, 3] (fun γ2 => [(7, .slice (some ⟨γ2 0, 0, none⟩) 2 2)]) (fun γ2 L => bx (γ2 0) (#[.int .u64 a.hi, .int .u64 a.lo, .int .u64 a.w, .int .u64 b.hi, .int .u64 b.lo, .int .u64 b.w]) 45 :: L) (fun γ2 => ?_))))))))
 rcases q3 : (a.ok && b.ok) with _ | _
 ·
  refine cD (.bool false) Try.call45 (fun w hw => by have := right_t (some ⟨γ2 0, 0, none⟩) 2 2 [a, b] w (sv_row (hw.row 0 rfl) rfl) rfl (by decide); rw [all2, q3] at this; exact this) (qo0 1 [] [2, 3] [(9, .bool true)] (on_ (ds_ (t_ (sq_ (qa0 [] [] [(4, .int .i64 0)] (ds_ (rt ([]) (.int .i64 0) ?_))))))))
  exact fun w' hw => ⟨by rw [cmpF_no q3], hw.below⟩
 ·
  refine cD (.bool true) Try.call45 (fun w hw => by have := right_t (some ⟨γ2 0, 0, none⟩) 2 2 [a, b] w (sv_row (hw.row 0 rfl) rfl) rfl (by decide); rw [all2, q3] at this; exact this) (qo0 1 [] [2, 3] [(9, .bool false)] (on_ (ds_ (f_ (at_skip (ds_ (sq_ ?_)))))))
  refine at_calm rfl (by kernel_rfl) (by kernel_rfl) ?_
  refine cm 4 [(1, .go (owns 2 0 2)), (3, .go (owns 1 2 1))] [2, 3] [(11, .agg #[.int .u64 a.hi, .int .u64 a.lo]), (13, .int .u64 b.w)] ([]) (by kernel_rfl) rfl al0 ?_
  refine cK (.agg #[.int .u64 (hiV (a.num * b.w)), .int .u64 (loV (a.num * b.w))]) Try.call47 (fun w hw => times_t a b.w w hU (and_l q3) (wB_of (and_r q3))) ?_
  refine cm 4 [(6, .go (owns 1 0 2)), (8, .go (owns 2 2 1))] [14] [(16, .agg #[.int .u64 b.hi, .int .u64 b.lo]), (18, .int .u64 a.w)] ([]) (by kernel_rfl) rfl al0 ?_
  refine cK (.agg #[.int .u64 (hiV (b.num * a.w)), .int .u64 (loV (b.num * a.w))]) Try.call47 (fun w hw => times_t b a.w w hV (and_r q3) (wB_of (and_l q3))) ?_
  refine cK (.int .i64 (cmpI (a.num * b.w) (b.num * a.w))) Try.call46 (fun w hw => wcmp_v (Int.mul_nonneg hU.n0 hV.w0) (Int.mul_nonneg hV.n0 hU.w0) w) ?_
  refine cm 1 [] [] [(4, .int .i64 (cmpI (a.num * b.w) (b.num * a.w)))] ([]) (by kernel_rfl) rfl al0 ?_
  refine calm_nil' ?_
  refine ds_ (rt ([]) (.int .i64 (cmpI (a.num * b.w) (b.num * a.w))) ?_)
  exact fun w' hw => ⟨by rw [cmpF_yes q3], hw.below⟩
end Go.Proofs.Ytoljahfofkmdaaa

/-! Fractions: what is reckoned with them. -/
namespace Go.Proofs.Ytoljahfofkmdaaa
open Go Go.RowKit
end Go.Proofs.Ytoljahfofkmdaaa

/-! Queues: which may be; which are one. -/
namespace Go.Proofs.Ytoljahfofkmdaaa
open Go Go.RowKit
section
variable {P : Program} {ρ : Operand → Value} {T U : TypeId} {x y : Operand} {a b : Int} {o : Oper}
end
theorem rn_eqRun (op : BinOp) (hop : op = .eql ∨ op = .neq) (x y : Operand) (a b : Rn) (r : Bool) (hr : r = (if op = .eql then decide (a = b) else !decide (a = b))) : EqRun Try.prog op 67 x y (.agg #[.int .i64 a.id, .int .i64 a.each, .int .u64 a.th, .int .u64 a.tl, .int .u64 a.tw]) (.agg #[.int .i64 b.id, .int .i64 b.each, .int .u64 b.th, .int .u64 b.tl, .int .u64 b.tw]) r := by
 intro w
 subst hr
 have hS : Try.prog.underlying 67 = some (.struct (Try.prog.fieldsOf 67)) := by kernel_rfl
 have hp : Try.prog.stoodInHeld 67 = false := by kernel_rfl
 have hg : Try.prog.eqGuardType Try.prog.depth 67 = false := by kernel_rfl
 have key : (Op.equal 67 (.agg #[.int .i64 a.id, .int .i64 a.each, .int .u64 a.th, .int .u64 a.tl, .int .u64 a.tw]) (.agg #[.int .i64 b.id, .int .i64 b.each, .int .u64 b.th, .int .u64 b.tl, .int .u64 b.tw])).run Try.prog w = .ok (decide (a = b)) w := by
  unfold Op.equal
  rw [show Op.maxDepth = 9999 + 1 from rfl, run_equalIn_struct w 9999 67 _ _ hS hp]
  simp only [Program.fieldsOf, Try.underlying67]
  go_simp
  obtain ⟨a0, a1, a2, a3, a4⟩ := a
  obtain ⟨b0, b1, b2, b3, b4⟩ := b
  simp only [Rn.mk.injEq]
  by_cases h0 : a0 = b0 <;> by_cases h1 : a1 = b1 <;> by_cases h2 : a2 = b2 <;> by_cases h3 : a3 = b3 <;> by_cases h4 : a4 = b4 <;> simp [h0, h1, h2, h3, h4]
 have guard : (eqGuard op 67 x y (.agg #[.int .i64 a.id, .int .i64 a.each, .int .u64 a.th, .int .u64 a.tl, .int .u64 a.tw]) (.agg #[.int .i64 b.id, .int .i64 b.each, .int .u64 b.th, .int .u64 b.tl, .int .u64 b.tw])).run Try.prog w = .ok () w := by
  unfold eqGuard
  rcases hop with rfl | rfl <;> simp [hg]
 rw [Sem.run_bind, guard]
 simp only [Result.andThen_ok]
 rcases hop with rfl | rfl <;> simp [binOp, Sem.run_bind, key]
theorem rn_ne_t {x y : Operand} {a b : Rn} (h : a = b) : EqRun Try.prog .neq 67 x y (.agg #[.int .i64 a.id, .int .i64 a.each, .int .u64 a.th, .int .u64 a.tl, .int .u64 a.tw]) (.agg #[.int .i64 b.id, .int .i64 b.each, .int .u64 b.th, .int .u64 b.tl, .int .u64 b.tw]) false := rn_eqRun _ (.inr rfl) x y a b _ (by simp [h])
theorem rn_ne_f {x y : Operand} {a b : Rn} (h : ¬ a = b) : EqRun Try.prog .neq 67 x y (.agg #[.int .i64 a.id, .int .i64 a.each, .int .u64 a.th, .int .u64 a.tl, .int .u64 a.tw]) (.agg #[.int .i64 b.id, .int .i64 b.each, .int .u64 b.th, .int .u64 b.tl, .int .u64 b.tw]) true := rn_eqRun _ (.inr rfl) x y a b _ (by simp [h])
theorem fq_eqRun (op : BinOp) (hop : op = .eql ∨ op = .neq) (x y : Operand) (a b : Fq) (r : Bool) (hr : r = (if op = .eql then decide (a = b) else !decide (a = b))) : EqRun Try.prog op 45 x y (.agg #[.int .u64 a.hi, .int .u64 a.lo, .int .u64 a.w]) (.agg #[.int .u64 b.hi, .int .u64 b.lo, .int .u64 b.w]) r := by
 intro w
 subst hr
 have hS : Try.prog.underlying 45 = some (.struct (Try.prog.fieldsOf 45)) := by kernel_rfl
 have hp : Try.prog.stoodInHeld 45 = false := by kernel_rfl
 have hg : Try.prog.eqGuardType Try.prog.depth 45 = false := by kernel_rfl
 have key : (Op.equal 45 (.agg #[.int .u64 a.hi, .int .u64 a.lo, .int .u64 a.w]) (.agg #[.int .u64 b.hi, .int .u64 b.lo, .int .u64 b.w])).run Try.prog w = .ok (decide (a = b)) w := by
  unfold Op.equal
  rw [show Op.maxDepth = 9999 + 1 from rfl, run_equalIn_struct w 9999 45 _ _ hS hp]
  simp only [Program.fieldsOf, Try.underlying45]
  go_simp
  obtain ⟨a0, a1, a2⟩ := a
  obtain ⟨b0, b1, b2⟩ := b
  simp only [Fq.mk.injEq]
  by_cases h0 : a0 = b0 <;> by_cases h1 : a1 = b1 <;> by_cases h2 : a2 = b2 <;> simp [h0, h1, h2]
 have guard : (eqGuard op 45 x y (.agg #[.int .u64 a.hi, .int .u64 a.lo, .int .u64 a.w]) (.agg #[.int .u64 b.hi, .int .u64 b.lo, .int .u64 b.w])).run Try.prog w = .ok () w := by
  unfold eqGuard
  rcases hop with rfl | rfl <;> simp [hg]
 rw [Sem.run_bind, guard]
 simp only [Result.andThen_ok]
 rcases hop with rfl | rfl <;> simp [binOp, Sem.run_bind, key]
theorem fq_ne_t {x y : Operand} {a b : Fq} (h : a = b) : EqRun Try.prog .neq 45 x y (.agg #[.int .u64 a.hi, .int .u64 a.lo, .int .u64 a.w]) (.agg #[.int .u64 b.hi, .int .u64 b.lo, .int .u64 b.w]) false := fq_eqRun _ (.inr rfl) x y a b _ (by simp [h])
theorem fq_ne_f {x y : Operand} {a b : Fq} (h : ¬ a = b) : EqRun Try.prog .neq 45 x y (.agg #[.int .u64 a.hi, .int .u64 a.lo, .int .u64 a.w]) (.agg #[.int .u64 b.hi, .int .u64 b.lo, .int .u64 b.w]) true := fq_eqRun _ (.inr rfl) x y a b _ (by simp [h])

set_option maxRecDepth 100000 in
theorem id_t (k : Int) (w : World)
 : Calls Try.prog 84 #[.int .i64 k] w fun e w' => e = .returned (.bool (idV k)) ∧ Below w.heap.size w w' := by
 refine enter (Hs.start w) Try.func84 rfl Try.ntmps84 rfl (sq_ (qa0 [] [0] [] (ds_ (sq_ ?_))))
 by_cases q3 : (k : Int) ≥ (1 : Int)
 ·
  by_cases q5 : (k : Int) ≤ (16 : Int)
  ·
   refine qa [(1, .yes), (4, .yes)] [] [(2, .bool true)] ([(k : Int) ≥ (1 : Int)] ++ ([(k : Int) ≤ (16 : Int)])) (alA (al1 q3) (al1 q5)) (ds_ (rt ([]) (.bool true) ?_))
   exact fun w' hw => ⟨by rw [show idV k = true from by simp only [idV, decide_eq_true_eq]; omega], hw.below⟩
  ·
   refine qa [(1, .yes), (4, .no)] [] [(2, .bool false)] ([(k : Int) ≥ (1 : Int)] ++ ([¬ ((k : Int) ≤ (16 : Int))])) (alA (al1 q3) (al1 q5)) (ds_ (rt ([]) (.bool false) ?_))
   exact fun w' hw => ⟨by rw [show idV k = false from by simp only [idV, decide_eq_false_iff_not]; omega], hw.below⟩
 ·
  refine qa [(1, .no)] [] [(2, .bool false)] ([¬ ((k : Int) ≥ (1 : Int))]) (al1 q3) (ds_ (rt ([]) (.bool false) ?_))
  exact fun w' hw => ⟨by rw [show idV k = false from by simp only [idV, decide_eq_false_iff_not]; omega], hw.below⟩

set_option maxRecDepth 100000 in
theorem each_t (k : Int) (w : World)
 : Calls Try.prog 85 #[.int .i64 k] w fun e w' => e = .returned (.bool (eachV k)) ∧ Below w.heap.size w w' := by
 refine enter (Hs.start w) Try.func85 rfl Try.ntmps85 rfl (sq_ (qa0 [] [0] [] (ds_ (sq_ ?_))))
 by_cases q3 : (k : Int) ≥ (1 : Int)
 ·
  by_cases q5 : (k : Int) ≤ (8 : Int)
  ·
   refine qa [(1, .yes), (4, .yes)] [] [(2, .bool true)] ([(k : Int) ≥ (1 : Int)] ++ ([(k : Int) ≤ (8 : Int)])) (alA (al1 q3) (al1 q5)) (ds_ (rt ([]) (.bool true) ?_))
   exact fun w' hw => ⟨by rw [show eachV k = true from by simp only [eachV, decide_eq_true_eq]; omega], hw.below⟩
  ·
   refine qa [(1, .yes), (4, .no)] [] [(2, .bool false)] ([(k : Int) ≥ (1 : Int)] ++ ([¬ ((k : Int) ≤ (8 : Int))])) (alA (al1 q3) (al1 q5)) (ds_ (rt ([]) (.bool false) ?_))
   exact fun w' hw => ⟨by rw [show eachV k = false from by simp only [eachV, decide_eq_false_iff_not]; omega], hw.below⟩
 ·
  refine qa [(1, .no)] [] [(2, .bool false)] ([¬ ((k : Int) ≥ (1 : Int))]) (al1 q3) (ds_ (rt ([]) (.bool false) ?_))
  exact fun w' hw => ⟨by rw [show eachV k = false from by simp only [eachV, decide_eq_false_iff_not]; omega], hw.below⟩

set_option maxRecDepth 100000 in
theorem crun_t (r : Rn) (w : World)
 : Calls Try.prog 62 #[.agg #[.int .i64 r.id, .int .i64 r.each, .int .u64 r.th, .int .u64 r.tl, .int .u64 r.tw]] w fun e w' => e = .returned (.int .i64 (if rnB r = true then 0 else 2)) ∧ Below w.heap.size w w' := by
 refine enter (Hs.start w) Try.func62 rfl Try.ntmps62 rfl (sq_ (ma0 [] [] (fun γ1 => [(1, .pointer (some ⟨γ1 0, 0, none⟩))]) (fun γ1 L => bx (γ1 0) (#[.int .i64 r.id, .int .i64 r.each, .int .u64 r.th, .int .u64 r.tl, .int .u64 r.tw]) 67 :: L) (fun γ1 => ds_ (sq_ (sq_ (ao_ (qo0 2 [(1, .go (owns 0 0 1))] [1] [(4, .int .i64 r.id)] ?_)))))))
 rcases q3 : idV r.id with _ | _
 ·
  refine cD (.bool false) Try.call84 (fun w hw => by have := id_t r.id w; rw [q3] at this; exact this) (qo0 13 [] [] [(18, .bool true)] (on_ (ds_ (t_ (sq_ (qa0 [] [] [(2, .int .i64 2)] (ds_ (rt ([]) (.int .i64 2) ?_))))))))
  exact fun w' hw => ⟨by rw [rn_noI q3]; rfl, hw.below⟩
 ·
  refine cD (.bool true) Try.call84 (fun w hw => by have := id_t r.id w; rw [q3] at this; exact this) (qo0 4 [(6, .go (owns 0 1 1))] [1] [(7, .bool false), (9, .int .i64 r.each)] ?_)
  rcases q7 : eachV r.each with _ | _
  ·
   refine cD (.bool false) Try.call85 (fun w hw => by have := each_t r.each w; rw [q7] at this; exact this) (qo0 8 [] [] [(18, .bool true)] (on_ (ds_ (t_ (sq_ (qa0 [] [] [(2, .int .i64 2)] (ds_ (rt ([]) (.int .i64 2) ?_))))))))
   exact fun w' hw => ⟨by rw [rn_noE q7]; rfl, hw.below⟩
  ·
   refine cD (.bool true) Try.call85 (fun w hw => by have := each_t r.each w; rw [q7] at this; exact this) (qo0 5 [(12, .go (owns 0 2 3))] [] [(13, .bool false), (15, .agg #[.int .u64 r.th, .int .u64 r.tl, .int .u64 r.tw])] ?_)
   rcases q11 : r.t.ok with _ | _
   ·
    refine cD (.int .i64 150) Try.call19 (fun w hw => by have := fcheck_t r.t w; rw [q11] at this; exact this) (qo0 2 [] [] [(18, .bool true)] (on_ (ds_ (t_ (sq_ (qa0 [] [] [(2, .int .i64 2)] (ds_ (rt ([]) (.int .i64 2) ?_))))))))
    exact fun w' hw => ⟨by rw [rn_noT q11]; rfl, hw.below⟩
   ·
    refine cD (.int .i64 0) Try.call19 (fun w hw => by have := fcheck_t r.t w; rw [q11] at this; exact this) (qo0 2 [] [] [(18, .bool false)] (on_ (ds_ (f_ (at_skip (ds_ (sq_ (qa0 [] [] [(2, .int .i64 0)] (ds_ (rt ([]) (.int .i64 0) ?_))))))))))
    exact fun w' hw => ⟨by rw [rn_yes q3 q7 q11]; rfl, hw.below⟩

set_option maxRecDepth 100000 in
theorem qcheck_t (p : Option Addr) (n cap : Nat) (ts : List Rn) (w : World)
 (hts : Sv w p ts) (hn : n = ts.length) (hb : n ≤ 1000)
 : Calls Try.prog 39 #[.agg #[.slice p n cap]] w fun e w' => e = .returned (.int .i64 (if chkQ ts = true then 0 else 200)) ∧ Below w.heap.size w w' := by
 refine enter (Hs.start w) Try.func39 rfl Try.ntmps39 rfl (sq_ (ma0 [] [] (fun γ1 => [(1, .pointer (some ⟨γ1 0, 0, none⟩))]) (fun γ1 L => bx (γ1 0) (#[.slice p n cap]) 26 :: L) (fun γ1 => ds_ (sq_ (qa0 [] [1] [(3, .int .i64 0)] (ds_ (sq_ (sq_ (qa0 [(1, .go (owns 0 0 1))] [3] [(7, .slice p n cap), (8, .int .i64 (n : Nat)), (9, .int .i64 0)] (ds_ (at_block (at_loop (α := Nat × Int) [3, 7, 8, 9] (fun ⟨j, la⟩ => [(3, .int .i64 la), (7, .slice p n cap), (8, .int .i64 (n : Nat)), (9, .int .i64 (j : Nat))]) (fun ⟨j, la⟩ => [bx (γ1 0) (#[.slice p n cap]) 26]) (fun ⟨j, la⟩ => j ≤ n ∧ lastI ts j = la ∧ Ris Rn.id (ts.take j) ∧ ∀ y ∈ ts.take j, rnB y = true) (fun ⟨j, la⟩ => n - j) (0, 0) (by kernel_rfl) rfl ⟨Nat.zero_le _, rfl, ris_take0T, all_take0T⟩ ?_))))))))))))
 rintro ⟨j, la⟩
 rintro ⟨hj, hl, hR, hA⟩
 refine sq_ ?_
 by_cases q5 : ((j : Nat) : Int) < ((n : Nat) : Int)
 ·
  refine qa [(0, .yes)] [3, 7, 8, 9] [(10, .bool true)] ([((j : Nat) : Int) < ((n : Nat) : Int)]) (al1 q5) (ds_ (sq_ (t_ (at_skip (ds_ (sq_ (at_block (sq_ ?_))))))))
  obtain ⟨b8, o8, rfl⟩ := hts.pos (i := j) (by omega)
  obtain ⟨x10, hx10⟩ := get_some (l := ts) (m := j) (by omega)
  refine ma [(0, .at b8 o8 j), (1, .go (outs b8 (o8 + j * 5) [.int .i64 x10.id, .int .i64 x10.each, .int .u64 x10.th, .int .u64 x10.tl, .int .u64 x10.tw])), (3, .go (owns 0 0 5))] [3, 7, 8, 9] (fun γ11 => [(5, .pointer (some ⟨γ11 0, 0, none⟩))]) (fun γ11 L => bx (γ11 0) (#[.int .i64 x10.id, .int .i64 x10.each, .int .u64 x10.th, .int .u64 x10.tl, .int .u64 x10.tw]) 67 :: L) (fun γ11 => [(some ⟨b8, o8, none⟩ : Option Addr) = some ⟨b8, o8, none⟩, (j : Nat) = ((j : Nat) : Int), j < n] ++ (cellsP w b8 (o8 + j * 5) [.int .i64 x10.id, .int .i64 x10.each, .int .u64 x10.th, .int .u64 x10.tl, .int .u64 x10.tw])) (fun γ11 => (alA (al2 rfl (al2 rfl (al1 (by omega)))) (rd_pre (hts.get hx10) _ rfl))) (fun γ11 => ds_ (sq_ (sq_ (ao_ (qo0 1 [(0, .go (owns 0 0 5))] [3, 5, 7, 8, 9] [(13, .agg #[.int .i64 x10.id, .int .i64 x10.each, .int .u64 x10.th, .int .u64 x10.tl, .int .u64 x10.tw])] ?_)))))
  rcases q13 : rnB x10 with _ | _
  ·
   refine cD (.int .i64 2) Try.call62 (fun w hw => by have := crun_t x10 w; rw [q13] at this; exact this) (qo0 7 [] [5, 7, 8, 9] [(21, .bool true)] (on_ (ds_ (t_ (sq_ (qa0 [] [] [(2, .int .i64 200)] (ds_ (rt ([]) (.int .i64 200) ?_))))))))
   exact fun w' hw => ⟨by rw [chk_badR hx10 q13]; rfl, hw.below⟩
  ·
   refine cD (.int .i64 0) Try.call62 (fun w hw => by have := crun_t x10 w; rw [q13] at this; exact this) ?_
   by_cases q17 : (x10.id : Int) ≤ (la : Int)
   ·
    refine qo 7 [(5, .go (owns 0 0 1)), (7, .yes)] [5, 7, 8, 9] [(21, .bool true)] ([(x10.id : Int) ≤ (la : Int)]) (al1 q17) (on_ (ds_ (t_ (sq_ (qa0 [] [] [(2, .int .i64 200)] (ds_ (rt ([]) (.int .i64 200) ?_)))))))
    exact fun w' hw => ⟨by rw [chk_badL hx10 hl q13 (by omega)]; rfl, hw.below⟩
   ·
    refine qo 7 [(5, .go (owns 0 0 1)), (7, .no)] [5, 7, 8, 9] [(21, .bool false)] ([¬ ((x10.id : Int) ≤ (la : Int))]) (al1 q17) (on_ (ds_ (f_ (at_skip (ds_ (qa0 [(1, .go (owns 0 0 1))] [7, 8, 9] [(3, .int .i64 x10.id)] (done_block (ds_ (qa [(0, .fit)] [3, 7, 8] [(9, .int .i64 (j + 1 : Nat))] ([Fit .i64 ((j + 1 : Nat))]) (al1 (fit64 (by omega) (by omega))) (Done.drop (L' := [bx (γ1 0) (#[.slice (some ⟨b8, o8, none⟩) n cap]) 26]) ?_ (List.Sublist.cons _ (List.Sublist.cons_cons _ (List.Sublist.refl _)))))))))))))
    exact dr [3, 7, 8, 9] (j + 1, x10.id) ⟨by omega, last_on hx10, ris_onL hR hx10 hl (by omega), all_onT hA hx10 q13⟩
 ·
  refine qa [(0, .no)] [3, 7, 8, 9] [(10, .bool false)] ([¬ (((j : Nat) : Int) < ((n : Nat) : Int))]) (al1 q5) (ds_ (sq_ (f_ (at_leave _ rfl (ds_ (sq_ (qa0 [] [] [(2, .int .i64 0)] (ds_ (rt ([]) (.int .i64 0) ?_)))))))))
  exact fun w' hw => ⟨by rw [chk_good hR hA (by omega)]; rfl, hw.below⟩
end Go.Proofs.Ytoljahfofkmdaaa

/-! The document's answers. -/
namespace Go.Proofs.Ytoljahfofkmdaaa
open Go Go.RowKit

set_option maxRecDepth 100000 in
theorem rid_t (k : Int) (w : World)
 : Calls Try.prog 56 #[.int .i64 k] w fun e w' => e = .returned (.bool (idV k)) ∧ Below w.heap.size w w' := by
 refine enter (Hs.start w) Try.func56 rfl Try.ntmps56 rfl (sq_ (qa0 [] [0] [] (ds_ (sq_ ?_))))
 by_cases q3 : (k : Int) ≥ (1 : Int)
 ·
  by_cases q5 : (k : Int) ≤ (16 : Int)
  ·
   refine qa [(1, .yes), (4, .yes)] [] [(2, .bool true)] ([(k : Int) ≥ (1 : Int)] ++ ([(k : Int) ≤ (16 : Int)])) (alA (al1 q3) (al1 q5)) (ds_ (rt ([]) (.bool true) ?_))
   exact fun w' hw => ⟨by rw [show idV k = true from by simp only [idV, decide_eq_true_eq]; omega], hw.below⟩
  ·
   refine qa [(1, .yes), (4, .no)] [] [(2, .bool false)] ([(k : Int) ≥ (1 : Int)] ++ ([¬ ((k : Int) ≤ (16 : Int))])) (alA (al1 q3) (al1 q5)) (ds_ (rt ([]) (.bool false) ?_))
   exact fun w' hw => ⟨by rw [show idV k = false from by simp only [idV, decide_eq_false_iff_not]; omega], hw.below⟩
 ·
  refine qa [(1, .no)] [] [(2, .bool false)] ([¬ ((k : Int) ≥ (1 : Int))]) (al1 q3) (ds_ (rt ([]) (.bool false) ?_))
  exact fun w' hw => ⟨by rw [show idV k = false from by simp only [idV, decide_eq_false_iff_not]; omega], hw.below⟩

set_option maxRecDepth 100000 in
theorem rweight_t (k : Int) (w : World)
 : Calls Try.prog 87 #[.int .u64 k] w fun e w' => e = .returned (.bool (wB k)) ∧ Below w.heap.size w w' := by
 refine enter (Hs.start w) Try.func87 rfl Try.ntmps87 rfl (sq_ (qa0 [] [0] [] (ds_ (sq_ ?_))))
 by_cases q3 : (k : Int) ≥ (1 : Int)
 ·
  by_cases q5 : (k : Int) ≤ (65535 : Int)
  ·
   refine qa [(1, .yes), (4, .yes)] [] [(2, .bool true)] ([(k : Int) ≥ (1 : Int)] ++ ([(k : Int) ≤ (65535 : Int)])) (alA (al1 q3) (al1 q5)) (ds_ (rt ([]) (.bool true) ?_))
   exact fun w' hw => ⟨by rw [show wB k = true from by simp only [wB, decide_eq_true_eq]; omega], hw.below⟩
  ·
   refine qa [(1, .yes), (4, .no)] [] [(2, .bool false)] ([(k : Int) ≥ (1 : Int)] ++ ([¬ ((k : Int) ≤ (65535 : Int))])) (alA (al1 q3) (al1 q5)) (ds_ (rt ([]) (.bool false) ?_))
   exact fun w' hw => ⟨by rw [show wB k = false from by simp only [wB, decide_eq_false_iff_not]; omega], hw.below⟩
 ·
  refine qa [(1, .no)] [] [(2, .bool false)] ([¬ ((k : Int) ≥ (1 : Int))]) (al1 q3) (ds_ (rt ([]) (.bool false) ?_))
  exact fun w' hw => ⟨by rw [show wB k = false from by simp only [wB, decide_eq_false_iff_not]; omega], hw.below⟩

set_option maxRecDepth 100000 in
theorem r05right_t (a : Fq) (w : World)
 : Calls Try.prog 67 #[.agg #[.int .u64 a.hi, .int .u64 a.lo, .int .u64 a.w]] w fun e w' => e = .returned (.bool a.ok) ∧ Below w.heap.size w w' := by
 refine enter (Hs.start w) Try.func67 rfl Try.ntmps67 rfl (sq_ (ma0 [] [] (fun γ1 => [(1, .pointer (some ⟨γ1 0, 0, none⟩))]) (fun γ1 L => bx (γ1 0) (#[.int .u64 a.hi, .int .u64 a.lo, .int .u64 a.w]) 45 :: L) (fun γ1 => ds_ (sq_ (ao_ (qo0 2 [(1, .go (owns 0 2 1))] [1] [(4, .int .u64 a.w)] ?_))))))
 rcases q3 : wB a.w with _ | _
 ·
  refine cD (.bool false) Try.call87 (fun w hw => by have := rweight_t a.w w; rw [q3] at this; exact this) (qo0 7 [] [] [(2, .bool false)] (on_ (ds_ (rt ([]) (.bool false) ?_))))
  exact fun w' hw => ⟨by rw [ok_noW q3], hw.below⟩
 ·
  refine cD (.bool true) Try.call87 (fun w hw => by have := rweight_t a.w w; rw [q3] at this; exact this) ?_
  by_cases q6 : (a.hi : Int) < (68719476736 : Int)
  ·
   refine qo 7 [(6, .go (owns 0 0 1)), (7, .yes)] [] [(2, .bool true)] ([(a.hi : Int) < (68719476736 : Int)]) (al1 q6) (on_ (ds_ (rt ([]) (.bool true) ?_)))
   exact fun w' hw => ⟨by rw [ok_yesW q3 (by omega)], hw.below⟩
  ·
   refine qo 7 [(6, .go (owns 0 0 1)), (7, .no)] [] [(2, .bool false)] ([¬ ((a.hi : Int) < (68719476736 : Int))]) (al1 q6) (on_ (ds_ (rt ([]) (.bool false) ?_)))
   exact fun w' hw => ⟨by rw [ok_noH (by omega)], hw.below⟩

set_option maxRecDepth 100000 in
theorem rrun_t (r : Rn) (w : World)
 : Calls Try.prog 55 #[.agg #[.int .i64 r.id, .int .i64 r.each, .int .u64 r.th, .int .u64 r.tl, .int .u64 r.tw]] w fun e w' => e = .returned (.bool (rnB r)) ∧ Below w.heap.size w w' := by
 refine enter (Hs.start w) Try.func55 rfl Try.ntmps55 rfl (sq_ (ma0 [] [] (fun γ1 => [(1, .pointer (some ⟨γ1 0, 0, none⟩))]) (fun γ1 L => bx (γ1 0) (#[.int .i64 r.id, .int .i64 r.each, .int .u64 r.th, .int .u64 r.tl, .int .u64 r.tw]) 67 :: L) (fun γ1 => ds_ (sq_ (ao_ (qo0 2 [(1, .go (owns 0 0 1))] [1] [(4, .int .i64 r.id)] ?_))))))
 rcases q3 : idV r.id with _ | _
 ·
  refine cD (.bool false) Try.call56 (fun w hw => by have := rid_t r.id w; rw [q3] at this; exact this) (qo0 16 [] [] [(2, .bool false)] (on_ (ds_ (rt ([]) (.bool false) ?_))))
  exact fun w' hw => ⟨by rw [rn_noI q3], hw.below⟩
 ·
  refine cD (.bool true) Try.call56 (fun w hw => by have := rid_t r.id w; rw [q3] at this; exact this) ?_
  by_cases q6 : (r.each : Int) ≥ (1 : Int)
  ·
   by_cases q8 : (r.each : Int) ≤ (8 : Int)
   ·
    refine qo 13 [(5, .go (owns 0 1 1)), (6, .yes), (10, .go (owns 0 1 1)), (11, .yes), (15, .go (owns 0 2 3))] [] [(16, .bool true), (18, .agg #[.int .u64 r.th, .int .u64 r.tl, .int .u64 r.tw])] ([(r.each : Int) ≥ (1 : Int)] ++ ([(r.each : Int) ≤ (8 : Int)])) (alA (al1 q6) (al1 q8)) ?_
    rcases q10 : r.t.ok with _ | _
    ·
     refine cD (.bool false) Try.call67 (fun w hw => by have := r05right_t r.t w; rw [q10] at this; exact this) (qo0 2 [] [] [(2, .bool false)] (on_ (ds_ (rt ([]) (.bool false) ?_))))
     exact fun w' hw => ⟨by rw [rn_noT q10], hw.below⟩
    ·
     refine cD (.bool true) Try.call67 (fun w hw => by have := r05right_t r.t w; rw [q10] at this; exact this) (qo0 2 [] [] [(2, .bool true)] (on_ (ds_ (rt ([]) (.bool true) ?_))))
     exact fun w' hw => ⟨by rw [rn_yes q3 (show eachV r.each = true from by simp only [eachV, decide_eq_true_eq]; omega) q10], hw.below⟩
   ·
    refine qo 16 [(5, .go (owns 0 1 1)), (6, .yes), (10, .go (owns 0 1 1)), (11, .no)] [] [(2, .bool false)] ([(r.each : Int) ≥ (1 : Int)] ++ ([¬ ((r.each : Int) ≤ (8 : Int))])) (alA (al1 q6) (al1 q8)) (on_ (ds_ (rt ([]) (.bool false) ?_)))
    exact fun w' hw => ⟨by rw [rn_noE (show eachV r.each = false from by simp only [eachV, decide_eq_false_iff_not]; omega)], hw.below⟩
  ·
   refine qo 16 [(5, .go (owns 0 1 1)), (6, .no)] [] [(2, .bool false)] ([¬ ((r.each : Int) ≥ (1 : Int))]) (al1 q6) (on_ (ds_ (rt ([]) (.bool false) ?_)))
   exact fun w' hw => ⟨by rw [rn_noE (show eachV r.each = false from by simp only [eachV, decide_eq_false_iff_not]; omega)], hw.below⟩

set_option maxRecDepth 100000 in
theorem rrightq_t (p : Option Addr) (n cap : Nat) (ts : List Rn) (w : World)
 (hts : Sv w p ts) (hn : n = ts.length) (hb : n ≤ 1000)
 : Calls Try.prog 33 #[.agg #[.slice p n cap]] w fun e w' => e = .returned (.bool (chkQ ts)) ∧ Below w.heap.size w w' := by
 refine enter (Hs.start w) Try.func33 rfl Try.ntmps33 rfl (sq_ (ma0 [] [] (fun γ1 => [(1, .pointer (some ⟨γ1 0, 0, none⟩))]) (fun γ1 L => bx (γ1 0) (#[.slice p n cap]) 26 :: L) (fun γ1 => ds_ (sq_ (sq_ (qa0 [(1, .go (owns 0 0 1))] [1] [(6, .slice p n cap), (7, .int .i64 (n : Nat)), (8, .int .i64 0)] (ds_ (at_block (at_loop (α := Nat) [1, 6, 7, 8] (fun j => [(1, .pointer (some ⟨γ1 0, 0, none⟩)), (6, .slice p n cap), (7, .int .i64 (n : Nat)), (8, .int .i64 (j : Nat))]) (fun j => [bx (γ1 0) (#[.slice p n cap]) 26]) (fun j => j ≤ n ∧ Ris Rn.id (ts.take j) ∧ ∀ y ∈ ts.take j, rnB y = true) (fun j => n - j) 0 (by kernel_rfl) rfl ⟨Nat.zero_le _, ris_take0T, all_take0T⟩ ?_)))))))))
 rintro j
 rintro ⟨hj, hR, hA⟩
 refine sq_ ?_
 by_cases q4 : ((j : Nat) : Int) < ((n : Nat) : Int)
 ·
  refine qa [(0, .yes)] [1, 6, 7, 8] [(9, .bool true)] ([((j : Nat) : Int) < ((n : Nat) : Int)]) (al1 q4) (ds_ (sq_ (t_ (at_skip (ds_ (sq_ (at_block (sq_ ?_))))))))
  obtain ⟨b7, o7, rfl⟩ := hts.pos (i := j) (by omega)
  obtain ⟨x9, hx9⟩ := get_some (l := ts) (m := j) (by omega)
  refine ma [(1, .at b7 o7 j), (2, .go (outs b7 (o7 + j * 5) [.int .i64 x9.id, .int .i64 x9.each, .int .u64 x9.th, .int .u64 x9.tl, .int .u64 x9.tw])), (5, .go (owns 0 0 5))] [1, 6, 7, 8] (fun γ10 => [(3, .int .i64 (j : Nat)), (4, .pointer (some ⟨γ10 0, 0, none⟩))]) (fun γ10 L => bx (γ10 0) (#[.int .i64 x9.id, .int .i64 x9.each, .int .u64 x9.th, .int .u64 x9.tl, .int .u64 x9.tw]) 67 :: L) (fun γ10 => [(some ⟨b7, o7, none⟩ : Option Addr) = some ⟨b7, o7, none⟩, (j : Nat) = ((j : Nat) : Int), j < n] ++ (cellsP w b7 (o7 + j * 5) [.int .i64 x9.id, .int .i64 x9.each, .int .u64 x9.th, .int .u64 x9.tl, .int .u64 x9.tw])) (fun γ10 => (alA (al2 rfl (al2 rfl (al1 (by omega)))) (rd_pre (hts.get hx9) _ rfl))) (fun γ10 => ds_ (sq_ ?_))
  rcases q11 : rnB x9 with _ | _
  ·
   refine at_calm rfl (by kernel_rfl) (by kernel_rfl) ?_
   refine cm 1 [(0, .go (owns 0 0 5))] [1, 3, 4, 6, 7, 8] [(13, .agg #[.int .i64 x9.id, .int .i64 x9.each, .int .u64 x9.th, .int .u64 x9.tl, .int .u64 x9.tw])] ([]) (by kernel_rfl) rfl al0 ?_
   refine cK (.bool false) Try.call55 (fun w hw => by have := rrun_t x9 w; rw [q11] at this; exact this) ?_
   refine cm 17 [] [1, 6, 7, 8] [(31, .bool true)] ([]) (by kernel_rfl) rfl al0 ?_
   refine calm_nil' ?_
   refine ds_ (t_ (sq_ (qa0 [] [] [(2, .bool false)] (ds_ (rt ([]) (.bool false) ?_)))))
   exact fun w' hw => ⟨by rw [chk_badR hx9 q11], hw.below⟩
  ·
   by_cases q15 : ((j : Nat) : Int) > (0 : Int)
   ·
    obtain ⟨x16, hx16⟩ := get_some (l := ts) (m := j - 1) (by omega)
    by_cases q17 : (x16.id : Int) ≥ (x9.id : Int)
    ·
     refine at_calm rfl (by kernel_rfl) (by kernel_rfl) ?_
     refine cm 1 [(0, .go (owns 0 0 5))] [1, 3, 4, 6, 7, 8] [(13, .agg #[.int .i64 x9.id, .int .i64 x9.each, .int .u64 x9.th, .int .u64 x9.tl, .int .u64 x9.tw])] ([]) (by kernel_rfl) rfl al0 ?_
     refine cK (.bool true) Try.call55 (fun w hw => by have := rrun_t x9 w; rw [q11] at this; exact this) ?_
     refine cm 17 [(5, .yes), (8, .go (owns 1 0 1)), (10, .fit), (11, .at b7 o7 (j - 1)), (13, .go (outs b7 (o7 + (j - 1) * 5) [.int .i64 x16.id])), (15, .go (owns 0 0 1)), (16, .yes)] [1, 6, 7, 8] [(31, .bool true)] ([((j : Nat) : Int) > (0 : Int)] ++ ([Fit .i64 ((j : Nat) - 1)] ++ ([(some ⟨b7, o7, none⟩ : Option Addr) = some ⟨b7, o7, none⟩, ((j : Nat) - 1) = ((j - 1 : Nat) : Int), j - 1 < n] ++ (cellsP w b7 (o7 + (j - 1) * 5) [.int .i64 x16.id] ++ ([(x16.id : Int) ≥ (x9.id : Int)]))))) (by kernel_rfl) rfl (alA (al1 q15) (alA (al1 (fit64 (by omega) (by omega))) (alA (al2 rfl (al2 (by omega) (al1 (by omega)))) (alA (rd_pre (hts.get hx16) _ rfl) (al1 q17))))) ?_
     refine calm_nil' ?_
     refine ds_ (t_ (sq_ (qa0 [] [] [(2, .bool false)] (ds_ (rt ([]) (.bool false) ?_)))))
     exact fun w' hw => ⟨by rw [chk_badI hx9 hx16 (by omega) (by omega)], hw.below⟩
    ·
     refine at_calm rfl (by kernel_rfl) (by kernel_rfl) ?_
     refine cm 1 [(0, .go (owns 0 0 5))] [1, 3, 4, 6, 7, 8] [(13, .agg #[.int .i64 x9.id, .int .i64 x9.each, .int .u64 x9.th, .int .u64 x9.tl, .int .u64 x9.tw])] ([]) (by kernel_rfl) rfl al0 ?_
     refine cK (.bool true) Try.call55 (fun w hw => by have := rrun_t x9 w; rw [q11] at this; exact this) ?_
     refine cm 17 [(5, .yes), (8, .go (owns 1 0 1)), (10, .fit), (11, .at b7 o7 (j - 1)), (13, .go (outs b7 (o7 + (j - 1) * 5) [.int .i64 x16.id])), (15, .go (owns 0 0 1)), (16, .no)] [1, 6, 7, 8] [(31, .bool false)] ([((j : Nat) : Int) > (0 : Int)] ++ ([Fit .i64 ((j : Nat) - 1)] ++ ([(some ⟨b7, o7, none⟩ : Option Addr) = some ⟨b7, o7, none⟩, ((j : Nat) - 1) = ((j - 1 : Nat) : Int), j - 1 < n] ++ (cellsP w b7 (o7 + (j - 1) * 5) [.int .i64 x16.id] ++ ([¬ ((x16.id : Int) ≥ (x9.id : Int))]))))) (by kernel_rfl) rfl (alA (al1 q15) (alA (al1 (fit64 (by omega) (by omega))) (alA (al2 rfl (al2 (by omega) (al1 (by omega)))) (alA (rd_pre (hts.get hx16) _ rfl) (al1 q17))))) ?_
     refine calm_nil' ?_
     refine ds_ (f_ (at_skip (done_block (ds_ (qa [(0, .fit)] [1, 6, 7] [(8, .int .i64 (j + 1 : Nat))] ([Fit .i64 ((j + 1 : Nat))]) (al1 (fit64 (by omega) (by omega))) (Done.drop (L' := [bx (γ1 0) (#[.slice (some ⟨b7, o7, none⟩) n cap]) 26]) ?_ (List.Sublist.cons _ (List.Sublist.cons_cons _ (List.Sublist.refl _)))))))))
     exact dr [1, 6, 7, 8] (j + 1) ⟨by omega, ris_take_onT hR hx9 (.inr ⟨x16, hx16, by omega⟩), all_onT hA hx9 q11⟩
   ·
    refine at_calm rfl (by kernel_rfl) (by kernel_rfl) ?_
    refine cm 1 [(0, .go (owns 0 0 5))] [1, 3, 4, 6, 7, 8] [(13, .agg #[.int .i64 x9.id, .int .i64 x9.each, .int .u64 x9.th, .int .u64 x9.tl, .int .u64 x9.tw])] ([]) (by kernel_rfl) rfl al0 ?_
    refine cK (.bool true) Try.call55 (fun w hw => by have := rrun_t x9 w; rw [q11] at this; exact this) ?_
    refine cm 17 [(5, .no)] [1, 6, 7, 8] [(31, .bool false)] ([¬ (((j : Nat) : Int) > (0 : Int))]) (by kernel_rfl) rfl (al1 q15) ?_
    refine calm_nil' ?_
    refine ds_ (f_ (at_skip (done_block (ds_ (qa [(0, .fit)] [1, 6, 7] [(8, .int .i64 (j + 1 : Nat))] ([Fit .i64 ((j + 1 : Nat))]) (al1 (fit64 (by omega) (by omega))) (Done.drop (L' := [bx (γ1 0) (#[.slice (some ⟨b7, o7, none⟩) n cap]) 26]) ?_ (List.Sublist.cons _ (List.Sublist.cons_cons _ (List.Sublist.refl _)))))))))
    exact dr [1, 6, 7, 8] (j + 1) ⟨by omega, ris_take_onT hR hx9 (.inl (by omega)), all_onT hA hx9 q11⟩
 ·
  refine qa [(0, .no)] [1, 6, 7, 8] [(9, .bool false)] ([¬ (((j : Nat) : Int) < ((n : Nat) : Int))]) (al1 q4) (ds_ (sq_ (f_ (at_leave _ rfl (ds_ (sq_ (qa0 [] [] [(2, .bool true)] (ds_ (rt ([]) (.bool true) ?_)))))))))
  exact fun w' hw => ⟨by rw [chk_good hR hA (by omega)], hw.below⟩

set_option maxRecDepth 100000 in
theorem rsame_t (p : Option Addr) (n cap : Nat) (ts : List Rn) (p2 : Option Addr) (n2 cap2 : Nat) (ts2 : List Rn) (w : World)
 (hts : Sv w p ts) (hn : n = ts.length) (hb : n ≤ 1000)
 (hts2 : Sv w p2 ts2) (hn2 : n2 = ts2.length) (hb2 : n2 ≤ 1000)
 : Calls Try.prog 42 #[.agg #[.slice p n cap], .agg #[.slice p2 n2 cap2]] w fun e w' => e = .returned (.bool (decide (ts = ts2))) ∧ Below w.heap.size w w' := by
 refine enter (Hs.start w) Try.func42 rfl Try.ntmps42 rfl (sq_ (ma0 [] [] (fun γ1 => [(2, .pointer (some ⟨γ1 0, 0, none⟩)), (3, .pointer (some ⟨γ1 1, 0, none⟩))]) (fun γ1 L => bx (γ1 1) (#[.slice p2 n2 cap2]) 26 :: bx (γ1 0) (#[.slice p n cap]) 26 :: L) (fun γ1 => ds_ (sq_ (sq_ ?_)))))
 by_cases q3 : ((n : Nat) : Int) ≠ ((n2 : Nat) : Int)
 ·
  refine qa [(1, .go (owns 1 0 1)), (4, .go (owns 0 0 1)), (6, .yes)] [2, 3] [(12, .bool true)] ([((n : Nat) : Int) ≠ ((n2 : Nat) : Int)]) (al1 q3) (ds_ (t_ (sq_ (qa0 [] [] [(4, .bool false)] (ds_ (rt ([]) (.bool false) ?_))))))
  exact fun w' hw => ⟨by rw [dsame_len (l := ts) (l2 := ts2) (by omega)], hw.below⟩
 ·
  refine qa [(1, .go (owns 1 0 1)), (4, .go (owns 0 0 1)), (6, .no)] [2, 3] [(12, .bool false)] ([¬ (((n : Nat) : Int) ≠ ((n2 : Nat) : Int))]) (al1 q3) (ds_ (f_ (at_skip (ds_ (sq_ (sq_ (qa0 [(1, .go (owns 1 0 1))] [2, 3] [(15, .int .i64 (n : Nat)), (16, .int .i64 0)] (ds_ (at_block (at_loop (α := Nat) [2, 3, 15, 16] (fun j => [(2, .pointer (some ⟨γ1 0, 0, none⟩)), (3, .pointer (some ⟨γ1 1, 0, none⟩)), (15, .int .i64 (n : Nat)), (16, .int .i64 (j : Nat))]) (fun j => [bx (γ1 1) (#[.slice p2 n2 cap2]) 26, bx (γ1 0) (#[.slice p n cap]) 26]) (fun j => j ≤ n ∧ ts.take j = ts2.take j) (fun j => n - j) 0 (by kernel_rfl) rfl ⟨Nat.zero_le _, rfl⟩ ?_))))))))))
  rintro j
  rintro ⟨hj, hI⟩
  refine sq_ ?_
  by_cases q9 : ((j : Nat) : Int) < ((n : Nat) : Int)
  ·
   refine qa [(0, .yes)] [2, 3, 15, 16] [(17, .bool true)] ([((j : Nat) : Int) < ((n : Nat) : Int)]) (al1 q9) (ds_ (sq_ (t_ (at_skip (ds_ (sq_ (at_block (sq_ (qa0 [] [2, 3, 15, 16] [(5, .int .i64 (j : Nat))] (ds_ (sq_ ?_)))))))))))
   obtain ⟨b13, o13, rfl⟩ := hts.pos (i := j) (by omega)
   obtain ⟨x15, hx15⟩ := get_some (l := ts) (m := j) (by omega)
   obtain ⟨b17, o17, rfl⟩ := hts2.pos (i := j) (by omega)
   obtain ⟨x19, hx19⟩ := get_some (l := ts2) (m := j) (by omega)
   by_cases q21 : x15 = x19
   ·
    refine cq [(1, .go (owns 1 0 1)), (3, .at b13 o13 j), (4, .go (outs b13 (o13 + j * 5) [.int .i64 x15.id, .int .i64 x15.each, .int .u64 x15.th, .int .u64 x15.tl, .int .u64 x15.tw])), (6, .go (owns 0 0 1)), (8, .at b17 o17 j), (9, .go (outs b17 (o17 + j * 5) [.int .i64 x19.id, .int .i64 x19.each, .int .u64 x19.th, .int .u64 x19.tl, .int .u64 x19.tw])), (10, .eqs false)] [2, 3, 15, 16] [(29, .bool false)] ([(some ⟨b13, o13, none⟩ : Option Addr) = some ⟨b13, o13, none⟩, (j : Nat) = ((j : Nat) : Int), j < n] ++ (cellsP w b13 (o13 + j * 5) [.int .i64 x15.id, .int .i64 x15.each, .int .u64 x15.th, .int .u64 x15.tl, .int .u64 x15.tw] ++ ([(some ⟨b17, o17, none⟩ : Option Addr) = some ⟨b17, o17, none⟩, (j : Nat) = ((j : Nat) : Int), j < n2] ++ (cellsP w b17 (o17 + j * 5) [.int .i64 x19.id, .int .i64 x19.each, .int .u64 x19.th, .int .u64 x19.tl, .int .u64 x19.tw] ++ ([EqRun Try.prog .neq 67 (.tmp 23) (.tmp 28) (.agg #[.int .i64 x15.id, .int .i64 x15.each, .int .u64 x15.th, .int .u64 x15.tl, .int .u64 x15.tw]) (.agg #[.int .i64 x19.id, .int .i64 x19.each, .int .u64 x19.th, .int .u64 x19.tl, .int .u64 x19.tw]) false]))))) rfl (by kernel_rfl) (by kernel_rfl) (by kernel_rfl) (alA (al2 rfl (al2 rfl (al1 (by omega)))) (alA (rd_pre (hts.get hx15) _ rfl) (alA (al2 rfl (al2 rfl (al1 (by omega)))) (alA (rd_pre (hts2.get hx19) _ rfl) (al1 (rn_ne_t (a := x15) (b := x19) q21)))))) (ds_ (f_ (at_skip (done_block (ds_ (qa [(0, .fit)] [2, 3, 15] [(16, .int .i64 (j + 1 : Nat))] ([Fit .i64 ((j + 1 : Nat))]) (al1 (fit64 (by omega) (by omega))) ?_))))))
    exact dr [2, 3, 15, 16] (j + 1) ⟨by omega, dsame_on hI hx15 hx19 q21⟩
   ·
    refine cq [(1, .go (owns 1 0 1)), (3, .at b13 o13 j), (4, .go (outs b13 (o13 + j * 5) [.int .i64 x15.id, .int .i64 x15.each, .int .u64 x15.th, .int .u64 x15.tl, .int .u64 x15.tw])), (6, .go (owns 0 0 1)), (8, .at b17 o17 j), (9, .go (outs b17 (o17 + j * 5) [.int .i64 x19.id, .int .i64 x19.each, .int .u64 x19.th, .int .u64 x19.tl, .int .u64 x19.tw])), (10, .eqs true)] [2, 3, 15, 16] [(29, .bool true)] ([(some ⟨b13, o13, none⟩ : Option Addr) = some ⟨b13, o13, none⟩, (j : Nat) = ((j : Nat) : Int), j < n] ++ (cellsP w b13 (o13 + j * 5) [.int .i64 x15.id, .int .i64 x15.each, .int .u64 x15.th, .int .u64 x15.tl, .int .u64 x15.tw] ++ ([(some ⟨b17, o17, none⟩ : Option Addr) = some ⟨b17, o17, none⟩, (j : Nat) = ((j : Nat) : Int), j < n2] ++ (cellsP w b17 (o17 + j * 5) [.int .i64 x19.id, .int .i64 x19.each, .int .u64 x19.th, .int .u64 x19.tl, .int .u64 x19.tw] ++ ([EqRun Try.prog .neq 67 (.tmp 23) (.tmp 28) (.agg #[.int .i64 x15.id, .int .i64 x15.each, .int .u64 x15.th, .int .u64 x15.tl, .int .u64 x15.tw]) (.agg #[.int .i64 x19.id, .int .i64 x19.each, .int .u64 x19.th, .int .u64 x19.tl, .int .u64 x19.tw]) true]))))) rfl (by kernel_rfl) (by kernel_rfl) (by kernel_rfl) (alA (al2 rfl (al2 rfl (al1 (by omega)))) (alA (rd_pre (hts.get hx15) _ rfl) (alA (al2 rfl (al2 rfl (al1 (by omega)))) (alA (rd_pre (hts2.get hx19) _ rfl) (al1 (rn_ne_f (a := x15) (b := x19) q21)))))) (ds_ (t_ (sq_ (qa0 [] [] [(4, .bool false)] (ds_ (rt ([]) (.bool false) ?_))))))
    exact fun w' hw => ⟨by rw [dsame_no hx15 hx19 q21], hw.below⟩
  ·
   refine qa [(0, .no)] [2, 3, 15, 16] [(17, .bool false)] ([¬ (((j : Nat) : Int) < ((n : Nat) : Int))]) (al1 q9) (ds_ (sq_ (f_ (at_leave _ rfl (ds_ (sq_ (qa0 [] [] [(4, .bool true)] (ds_ (rt ([]) (.bool true) ?_)))))))))
   exact fun w' hw => ⟨by rw [dsame_yes hI (by omega) (by omega)], hw.below⟩
end Go.Proofs.Ytoljahfofkmdaaa

/-! Order: comparing. -/
namespace Go.Proofs.Ytoljahfofkmdaaa
open Go Go.RowKit
theorem bool_eqRun (op : BinOp) (hop : op = .eql ∨ op = .neq) (x y : Operand) (a b r : Bool) (hr : r = (if op = .eql then a == b else !(a == b))) : EqRun Try.prog op 4 x y (.bool a) (.bool b) r := by
 intro w
 subst hr
 have hg : Try.prog.eqGuardType Try.prog.depth 4 = false := by kernel_rfl
 have key : (Op.equal 4 (.bool a) (.bool b)).run Try.prog w = .ok (a == b) w := by
  unfold Op.equal
  rw [show Op.maxDepth = 9999 + 1 from rfl]
  exact run_equalIn_bool' w 9999 4 a b Try.underlying4
 have guard : (eqGuard op 4 x y (.bool a) (.bool b)).run Try.prog w = .ok () w := by
  unfold eqGuard
  rcases hop with rfl | rfl <;> simp [hg]
 rw [Sem.run_bind, guard]
 simp only [Result.andThen_ok]
 rcases hop with rfl | rfl <;> simp [binOp, Sem.run_bind, key]
theorem bool_ne {x y : Operand} (a b : Bool) : EqRun Try.prog .neq 4 x y (.bool a) (.bool b) (!(a == b)) := bool_eqRun _ (.inr rfl) x y a b _ (by simp)
set_option maxRecDepth 100000 in
theorem isnan_int (a : Int) (w : World)
 : Calls Try.prog 83 #[.int .i64 a] w fun e w' => e = .returned (.bool false) ∧ Below w.heap.size w w' := by
 refine enter (Hs.start w) Try.func83 rfl Try.ntmps83 rfl (sq_ (qa0 [] [0] [] (ds_ (sq_ (qa [(2, .no)] [] [(2, .bool false)] ([¬ ((a : Int) ≠ (a : Int))]) (al1 (fun h => h rfl)) (ds_ (rt ([]) (.bool false) ?_)))))))
 exact fun w' hw => ⟨rfl, hw.below⟩

set_option maxRecDepth 100000 in
theorem cmp_int (a b : Int) (w : World)
 : Calls Try.prog 61 #[.int .i64 a, .int .i64 b] w fun e w' => e = .returned (.int .i64 (cmpT a b)) ∧ Below w.heap.size w w' := by
 refine enter (Hs.start w) Try.func61 rfl Try.ntmps61 rfl (sq_ (qa0 [] [0, 1] [] (ds_ (sq_ (ao_ (qo0 1 [] [0, 1] [(7, .int .i64 a)] (cD (.bool false) Try.call83 (fun w hw => isnan_int a w) (qo0 1 [] [0, 1] [(5, .bool false)] (on_ (ds_ (sq_ (ao_ (qo0 1 [] [0, 1, 5] [(9, .int .i64 b)] (cD (.bool false) Try.call83 (fun w hw => isnan_int b w) (qo0 1 [] [0, 1, 5] [(6, .bool false)] (on_ (ds_ (sq_ (sq_ (qa0 [] [0, 1, 6] [(11, .bool false)] (ds_ (f_ (at_skip (ds_ (sq_ (sq_ (qa0 [] [0, 1] [(13, .bool false)] (ds_ (f_ (at_skip (ds_ (sq_ (sq_ ?_)))))))))))))))))))))))))))))))))
 by_cases q9 : (a : Int) < (b : Int)
 ·
  refine qa [(2, .yes)] [0, 1] [(16, .bool true)] ([(a : Int) < (b : Int)]) (al1 q9) (ds_ (t_ (sq_ (qa0 [] [] [(4, .int .i64 (-1))] (ds_ (rt ([]) (.int .i64 (-1)) ?_))))))
  exact fun w' hw => ⟨by rw [show cmpT a b = -1 from by simp only [cmpT, if_pos q9]], hw.below⟩
 ·
  refine qa [(2, .no)] [0, 1] [(16, .bool false)] ([¬ ((a : Int) < (b : Int))]) (al1 q9) (ds_ (f_ (at_skip (ds_ (sq_ (sq_ ?_))))))
  by_cases q14 : (a : Int) > (b : Int)
  ·
   refine qa [(2, .yes)] [] [(19, .bool true)] ([(a : Int) > (b : Int)]) (al1 q14) (ds_ (t_ (sq_ (qa0 [] [] [(4, .int .i64 1)] (ds_ (rt ([]) (.int .i64 1) ?_))))))
   exact fun w' hw => ⟨by rw [show cmpT a b = 1 from by simp only [cmpT, if_neg q9, if_pos q14]], hw.below⟩
  ·
   refine qa [(2, .no)] [] [(19, .bool false)] ([¬ ((a : Int) > (b : Int))]) (al1 q14) (ds_ (f_ (at_skip (ds_ (sq_ (qa0 [] [] [(4, .int .i64 0)] (ds_ (rt ([]) (.int .i64 0) ?_))))))))
   exact fun w' hw => ⟨by rw [show cmpT a b = 0 from by simp only [cmpT, if_neg q9, if_neg q14]], hw.below⟩

set_option maxRecDepth 100000 in
theorem isnan_uint64 (a : Int) (w : World)
 : Calls Try.prog 82 #[.int .u64 a] w fun e w' => e = .returned (.bool false) ∧ Below w.heap.size w w' := by
 refine enter (Hs.start w) Try.func82 rfl Try.ntmps82 rfl (sq_ (qa0 [] [0] [] (ds_ (sq_ (qa [(2, .no)] [] [(2, .bool false)] ([¬ ((a : Int) ≠ (a : Int))]) (al1 (fun h => h rfl)) (ds_ (rt ([]) (.bool false) ?_)))))))
 exact fun w' hw => ⟨rfl, hw.below⟩

set_option maxRecDepth 100000 in
theorem cmp_uint64 (a b : Int) (w : World)
 : Calls Try.prog 60 #[.int .u64 a, .int .u64 b] w fun e w' => e = .returned (.int .i64 (cmpT a b)) ∧ Below w.heap.size w w' := by
 refine enter (Hs.start w) Try.func60 rfl Try.ntmps60 rfl (sq_ (qa0 [] [0, 1] [] (ds_ (sq_ (ao_ (qo0 1 [] [0, 1] [(7, .int .u64 a)] (cD (.bool false) Try.call82 (fun w hw => isnan_uint64 a w) (qo0 1 [] [0, 1] [(5, .bool false)] (on_ (ds_ (sq_ (ao_ (qo0 1 [] [0, 1, 5] [(9, .int .u64 b)] (cD (.bool false) Try.call82 (fun w hw => isnan_uint64 b w) (qo0 1 [] [0, 1, 5] [(6, .bool false)] (on_ (ds_ (sq_ (sq_ (qa0 [] [0, 1, 6] [(11, .bool false)] (ds_ (f_ (at_skip (ds_ (sq_ (sq_ (qa0 [] [0, 1] [(13, .bool false)] (ds_ (f_ (at_skip (ds_ (sq_ (sq_ ?_)))))))))))))))))))))))))))))))))
 by_cases q9 : (a : Int) < (b : Int)
 ·
  refine qa [(2, .yes)] [0, 1] [(16, .bool true)] ([(a : Int) < (b : Int)]) (al1 q9) (ds_ (t_ (sq_ (qa0 [] [] [(4, .int .i64 (-1))] (ds_ (rt ([]) (.int .i64 (-1)) ?_))))))
  exact fun w' hw => ⟨by rw [show cmpT a b = -1 from by simp only [cmpT, if_pos q9]], hw.below⟩
 ·
  refine qa [(2, .no)] [0, 1] [(16, .bool false)] ([¬ ((a : Int) < (b : Int))]) (al1 q9) (ds_ (f_ (at_skip (ds_ (sq_ (sq_ ?_))))))
  by_cases q14 : (a : Int) > (b : Int)
  ·
   refine qa [(2, .yes)] [] [(19, .bool true)] ([(a : Int) > (b : Int)]) (al1 q14) (ds_ (t_ (sq_ (qa0 [] [] [(4, .int .i64 1)] (ds_ (rt ([]) (.int .i64 1) ?_))))))
   exact fun w' hw => ⟨by rw [show cmpT a b = 1 from by simp only [cmpT, if_neg q9, if_pos q14]], hw.below⟩
  ·
   refine qa [(2, .no)] [] [(19, .bool false)] ([¬ ((a : Int) > (b : Int))]) (al1 q14) (ds_ (f_ (at_skip (ds_ (sq_ (qa0 [] [] [(4, .int .i64 0)] (ds_ (rt ([]) (.int .i64 0) ?_))))))))
   exact fun w' hw => ⟨by rw [show cmpT a b = 0 from by simp only [cmpT, if_neg q9, if_neg q14]], hw.below⟩
end Go.Proofs.Ytoljahfofkmdaaa
