/-
What the last text of this claim uses: RpP6, RpP7, RpEq13, RpEq12, RpEq11, RpEq10, RpEq9, RpEq8, RpEq, RpA, RpEq2, RpB, RpEq3, RpC, RpEq4, RpE, RpH0, RpEq7, RpG, RpH, RpEq5, RpF.
-/
import Derived.Test.YtcgjnkdcfpegiaaDoorV3

section
set_option linter.unusedVariables false
set_option maxRecDepth 100000
namespace Go.Rp
open Go Go.VT

/-- The words of a piece. -/
def rwords (l : List Node) (node from_ many add : Int) : List Int := (((nat_ l node).words.take (from_ + many).toNat).drop from_.toNat).map fun n => word (w64 (n + add))
/-- The words of a part of a rope, with a number added. -/
def walkW (l : List Node) (a from_ many add : Int) : List Int := (List.range many.toNat).map fun i : Nat => word (w64 ((wayAt l a (from_ + i)).2 + add))

noncomputable def EVy (yl : List (Nat × Nat)) (Y : Option (Con RU)) (l : List (FuncId × Con RU)) : Env RU := ⟨prog, codesOf codeL, consOf l, RG, fun _ _ => [], fun _ _ => [], yl, Y, fun _ => []⟩
theorem fitsY (yl Y) (l : List (FuncId × Con RU)) : (EVy yl Y l).Fits := fits_of (by kernel_rfl)

/-- What is known of a store and of a part of a rope in it. -/
def walkPre (l : List Node) (L : List (Int × Int)) (a from_ many add : Int) : Prop :=
  (l.length ≤ 4000 ∧ validOf l = true ∧ L = longOf l) ∧ (0 ≤ a ∧ a < l.length) ∧ isWord add = true ∧ 0 ≤ many ∧ (0 < many → 0 ≤ from_ ∧ from_ + many ≤ at_ (lensOf l) a)
/-- What is known of a piece. -/
def piecePre (l : List Node) (L : List (Int × Int)) (node from_ many add : Int) : Prop :=
  (l.length ≤ 4000 ∧ validOf l = true ∧ L = longOf l) ∧ (0 ≤ node ∧ node < l.length) ∧ isWord add = true ∧ 0 < many ∧ 0 ≤ from_ ∧ from_ + many ≤ (nat_ l node).words.length

noncomputable def cPieces : Con RU := ⟨[one, one, one, one, one], [nodes, mapI, i64, i64, i64, i64], [.ptr 0 0, .d 2, .d 3, .d 4, .d 5], stD 0 1, none, none, [one], [nodes, mapI, i64, i64, i64, i64], [.clo 78 [2, 3, 4, 5, 6]],
  [.box 69 [.d 0, .map 1], .map 1, .box 70 [.ptr 0 0], .box 3 [.d 2], .box 3 [.d 3], .box 3 [.d 4], .box 3 [.d 5]], fun p => p, [0, 1], [], []⟩

noncomputable def cFlatY : Con RU := ⟨[(true, 4), one], [i64, i64, i64, i64, ints, nodes, mapI, i64], [.d 0, .d 1, .d 2, .d 3, .yld 0],
  [.loop 7, .box 25 [.row 2], .row 4, .box 70 [.ptr 4 0], .box 69 [.d 5, .map 5], .map 6],
  some fun p => piecePre p.2.2.2.2.2.1 p.2.2.2.2.2.2.1 p.1 p.2.1 p.2.2.1 p.2.2.2.1 ∧ p.2.2.2.2.1.length + p.2.2.1 ≤ 1048576 ∧ p.2.2.2.2.2.2.2.1 = 0, none, [one], [.bool, ints, nodes, mapI, i64], [.d 0],
  [.loop 4, .box 25 [.row 2], .row 1, .box 70 [.ptr 4 0], .box 69 [.d 2, .map 5], .map 3],
  fun p => (true, p.2.2.2.2.1 ++ rwords p.2.2.2.2.2.1 p.1 p.2.1 p.2.2.1 p.2.2.2.1, p.2.2.2.2.2.1, p.2.2.2.2.2.2.1, p.2.2.2.2.2.2.2.1, ()), [3, 4, 5], [(0, 0), (4, 1), (6, 3), (2, 4), (3, 5)], [(1, 1000005), (3, 1000007)]⟩
abbrev flatMp : List (Nat × Nat) := [(0, 0), (1, 4), (2, 5), (3, 6), (4, 2), (5, 3)]
abbrev walkYl : List (Nat × Nat) := [(0, 0), (2, 2), (3, 3), (4, 4), (6, 6)]
abbrev walkTys : List Ty := [i64, i64, i64, i64, nodes, mapI, ints, i64]
abbrev recYl : List (Nat × Nat) := [(0, 4), (2, 2), (3, 3), (4, 5), (6, 7)]
noncomputable def cFlatW (gh : List (Nat × Nat)) : Con RU := ⟨[one, one, one, one, one, one, one], walkTys, [.d 0, .d 1, .d 2, .d 3, .ptr 0 0, .ptr 1 0, .ptr 8 0],
  [.box 70 [.ptr 2 0], .box 115 [.yld 4], .box 69 [.d 4, .map 3], .map 5, .loop 7, .box 25 [.row 6], .row 6, .box 70 [.ptr 2 0], .box 116 [.clo 79 [0, 1, 8]]],
  some fun p => walkPre p.2.2.2.2.1 p.2.2.2.2.2.1 p.1 p.2.1 p.2.2.1 p.2.2.2.1 ∧ p.2.2.2.2.2.2.1.length + p.2.2.1 ≤ 1048576 ∧ p.2.2.2.2.2.2.2.1 = 0, none, [one], [.bool, nodes, mapI, ints, i64], [.d 0],
  [.box 70 [.ptr 2 0], .box 115 [.yld 4], .box 69 [.d 1, .map 3], .map 2, .loop 4, .box 25 [.row 6], .row 3, .box 70 [.ptr 2 0], .box 116 [.clo 79 [0, 1, 8]]],
  fun p => (true, p.2.2.2.2.1, p.2.2.2.2.2.1, p.2.2.2.2.2.2.1 ++ walkW p.2.2.2.2.1 p.1 p.2.1 p.2.2.1 p.2.2.2.1, p.2.2.2.2.2.2.2.1, ()), [0, 1, 2, 3, 7, 8], recYl, gh⟩
noncomputable def cFlatK : Con RU := ⟨[one, one, one, one, one, one], walkTys, [.yld 0, .ptr 1 0, .ptr 7 0, .ptr 8 0, .ptr 9 0, .ptr 10 0],
  [.loop 7, .box 70 [.ptr 2 0], .box 69 [.d 4, .map 3], .map 5, .box 25 [.row 5], .row 6, .box 70 [.ptr 2 0], .box 3 [.d 0], .box 3 [.d 1], .box 3 [.d 2], .box 3 [.d 3]],
  some fun p => walkPre p.2.2.2.2.1 p.2.2.2.2.2.1 p.1 p.2.1 p.2.2.1 p.2.2.2.1 ∧ p.2.2.2.2.2.2.1.length + p.2.2.1 ≤ 1048576 ∧ p.2.2.2.2.2.2.2.1 = 0, none, [], [nodes, mapI, ints, i64], [],
  [.loop 3, .box 70 [.ptr 2 0], .box 69 [.d 0, .map 3], .map 1, .box 25 [.row 5], .row 2, .box 70 [.ptr 2 0], .box 3 [.un], .box 3 [.un], .box 3 [.un], .box 3 [.un]],
  fun p => (p.2.2.2.2.1, p.2.2.2.2.2.1, p.2.2.2.2.2.2.1 ++ walkW p.2.2.2.2.1 p.1 p.2.1 p.2.2.1 p.2.2.2.1, p.2.2.2.2.2.2.2.1, ()), [1, 2, 3, 6], walkYl, [(4, 448), (6, 384)]⟩
noncomputable def itFlat : FuncId → List (Con RU × Con RU × List (Nat × Nat)) := fun f => bif Nat.beq f 78 then [(cFlatK, cFlatY, flatMp)] else []
noncomputable def mFlatW : Dens RU.T walkTys → Nat := fun p => Int.toNat p.1
abbrev ghW : List (Nat × Nat) := [(5, 1000005), (7, 1000007)]
abbrev ghK : List (Nat × Nat) := [(5, 1000004), (7, 1000006)]

noncomputable def lFlat : Nat → St RU → Ann RU := fun n s => match n with
  | 0 => ⟨[], [.slot 44, .row 1000002], [i64, ints], fun p => 0 ≤ p.1 ∧ p.1 ≤ (s.intsAt 42).length ∧ p.2.1 = s.rowInts 1000002 ++ ((s.intsAt 42).take p.1.toNat).map fun n => word (w64 (n + s.boxInt 512 3)), fun p => (s.intsAt 42).length - p.1.toNat, []⟩
  | _ => ⟨[], [], [], fun _ => False, fun _ => 0, [(.box 448 0, 7, 3, i64)]⟩
end Go.Rp
end

section
set_option linter.unusedVariables false
set_option maxRecDepth 100000
namespace Go.Rp
open Go Go.VT

/-- The pieces of a part of a rope, with a number added. -/
def pcsOf (l : List Node) : Nat → Int → Int → Int → Int → List Piece
  | 0, _, _, _, _ => []
  | k + 1, a, f, m, d =>
    if m ≤ 0 then [] else if (nat_ l a).kind = 0 then [⟨a, f, m, d⟩]
    else if (nat_ l a).kind = 1 then
      pcsOf l k (nat_ l a).a f (max 0 (min m (at_ (lensOf l) (nat_ l a).a - f))) d ++ pcsOf l k (nat_ l a).b (f + max 0 (min m (at_ (lensOf l) (nat_ l a).a - f)) - at_ (lensOf l) (nat_ l a).a) (m - max 0 (min m (at_ (lensOf l) (nat_ l a).a - f))) d
    else if (nat_ l a).kind = 2 then pcsOf l k (nat_ l a).a ((nat_ l a).from_ + f) m d
    else pcsOf l k (nat_ l a).a f m (word (w64 (d + (nat_ l a).n)))
def pcsAt (l : List Node) (a f m d : Int) : List Piece := pcsOf l (a.toNat + 1) a f m d

/-- A node more, if it is asked for, and its number. -/
def putIf (c : Bool) (l : List Node) (L : List (Int × Int)) (rope : Int) (x : Node) (long : Int) : List Node × List (Int × Int) × Int := if c then (l ++ [x], putL l L long, (l.length : Int)) else (l, L, rope)
/-- A store, and ropes that are to be joined. -/
structure Evn where
  l : List Node
  L : List (Int × Int)
  r : List Int
def Evn.part (S : Evn) (p : Piece) : List Node × List (Int × Int) × Int := putIf (decide (p.len < lg S.L p.node)) S.l S.L p.node ⟨2, p.node, 0, p.from_, p.len, 0, []⟩ p.len
def Evn.off (S : Evn) (p : Piece) : List Node × List (Int × Int) × Int := putIf (p.n != 0) (S.part p).1 (S.part p).2.1 (S.part p).2.2 ⟨3, (S.part p).2.2, 0, 0, 0, p.n, []⟩ p.len
def Evn.step (S : Evn) (p : Piece) : Evn := ⟨(S.off p).1, (S.off p).2.1, S.r ++ [(S.off p).2.2]⟩
def Evn.full (S : Evn) : Bool := decide (4000 < S.l.length)
def Evn.many (S : Evn) : Bool := decide (4001 < S.r.length)
def Evn.run : List Piece → Evn → Evn
  | [], S => S
  | p :: r, S => if (S.step p).full || (S.step p).many then S.step p else Evn.run r (S.step p)

def openOk (l : List Node) (L : List (Int × Int)) : Prop := l.length ≤ 4000 ∧ validOf l = true ∧ L = longOf l
/-- What is known of a piece that becomes a rope. -/
def evnPre (l : List Node) (L : List (Int × Int)) (node from_ many add : Int) : Prop :=
  openOk l L ∧ (0 ≤ node ∧ node < l.length) ∧ (nat_ l node).kind = 0 ∧ isWord add = true ∧ 0 < many ∧ many ≤ 1048576 ∧ 0 ≤ from_ ∧ from_ + many ≤ at_ (lensOf l) node

noncomputable def cPiecesE : Con RU := ⟨[one, one, one, one, one], [nodes, mapI, i64, i64, i64, i64], [.ptr 0 0, .d 2, .d 3, .d 4, .d 5], stR 0 1, none, none, [one], [nodes, mapI, i64, i64, i64, i64], [.clo 78 [3, 4, 5, 6, 7]],
  [.box 69 [.row 2, .map 1], .map 1, .row 0, .box 70 [.ptr 0 0], .box 3 [.d 2], .box 3 [.d 3], .box 3 [.d 4], .box 3 [.d 5]], fun p => p, [1], [], []⟩

abbrev evnY (p : Dens RU.T [i64, i64, i64, i64, ints, nodes, mapI, i64]) : Evn := Evn.step ⟨p.2.2.2.2.2.1, p.2.2.2.2.2.2.1, p.2.2.2.2.1⟩ ⟨p.1, p.2.1, p.2.2.1, p.2.2.2.1⟩
noncomputable def cEvenY : Con RU := ⟨[(true, 4), one], [i64, i64, i64, i64, ints, nodes, mapI, i64], [.d 0, .d 1, .d 2, .d 3, .yld 0],
  [.loop 7, .box 25 [.row 2], .row 4, .box 70 [.ptr 4 0], .box 69 [.row 6, .map 5], .map 6, .row 5],
  some fun p => evnPre p.2.2.2.2.2.1 p.2.2.2.2.2.2.1 p.1 p.2.1 p.2.2.1 p.2.2.2.1 ∧ p.2.2.2.2.1.length ≤ 4001 ∧ p.2.2.2.2.2.2.2.1 = 0, some fun p => ((evnY p).full, wrong 9), [one], [.bool, ints, nodes, mapI, i64], [.d 0],
  [.loop 4, .box 25 [.row 2], .row 1, .box 70 [.ptr 4 0], .box 69 [.row 6, .map 5], .map 3, .row 2],
  fun p => (!(evnY p).many, (evnY p).r, (evnY p).l, (evnY p).L, (if (evnY p).many then 1 else 0), ()), [3], [(0, 0), (4, 1), (6, 3), (2, 4), (3, 5)], [(1, 1000005), (3, 1000007)]⟩

abbrev evnW (p : Dens RU.T walkTys) : Evn := Evn.run (pcsAt p.2.2.2.2.1 p.1 p.2.1 p.2.2.1 p.2.2.2.1) ⟨p.2.2.2.2.1, p.2.2.2.2.2.1, p.2.2.2.2.2.2.1⟩
noncomputable abbrev evnPreW (p : Dens RU.T walkTys) : Prop := walkPre p.2.2.2.2.1 p.2.2.2.2.2.1 p.1 p.2.1 p.2.2.1 p.2.2.2.1 ∧ p.2.2.2.2.2.2.1.length ≤ 4001 ∧ p.2.2.2.2.2.2.2.1 = 0
noncomputable def cEvenW (gh : List (Nat × Nat)) : Con RU := ⟨[one, one, one, one, one, one, one], walkTys, [.d 0, .d 1, .d 2, .d 3, .ptr 0 0, .ptr 1 0, .ptr 8 0],
  [.box 70 [.ptr 2 0], .box 115 [.yld 4], .box 69 [.row 9, .map 3], .map 5, .loop 7, .box 25 [.row 6], .row 6, .box 70 [.ptr 2 0], .box 116 [.clo 79 [0, 1, 8]], .row 4],
  some fun p => evnPreW p, some fun p => ((evnW p).full, wrong 9), [one], [.bool, nodes, mapI, ints, i64], [.d 0],
  [.box 70 [.ptr 2 0], .box 115 [.yld 4], .box 69 [.row 9, .map 3], .map 2, .loop 4, .box 25 [.row 6], .row 3, .box 70 [.ptr 2 0], .box 116 [.clo 79 [0, 1, 8]], .row 1],
  fun p => (!(evnW p).many, (evnW p).l, (evnW p).L, (evnW p).r, (if (evnW p).many then 1 else 0), ()), [0, 1, 7, 8], recYl, gh⟩
noncomputable def cEvenK : Con RU := ⟨[one, one, one, one, one, one], walkTys, [.yld 0, .ptr 1 0, .ptr 7 0, .ptr 8 0, .ptr 9 0, .ptr 10 0],
  [.loop 7, .box 70 [.ptr 2 0], .box 69 [.row 11, .map 3], .map 5, .box 25 [.row 5], .row 6, .box 70 [.ptr 2 0], .box 3 [.d 0], .box 3 [.d 1], .box 3 [.d 2], .box 3 [.d 3], .row 4],
  some fun p => evnPreW p, some fun p => ((evnW p).full, wrong 9), [], [nodes, mapI, ints, i64], [],
  [.loop 3, .box 70 [.ptr 2 0], .box 69 [.row 11, .map 3], .map 1, .box 25 [.row 5], .row 2, .box 70 [.ptr 2 0], .box 3 [.un], .box 3 [.un], .box 3 [.un], .box 3 [.un], .row 0],
  fun p => ((evnW p).l, (evnW p).L, (evnW p).r, (if (evnW p).many then 1 else 0), ()), [1, 6], walkYl, [(4, 512), (6, 448)]⟩
abbrev evenMp : List (Nat × Nat) := [(0, 0), (1, 4), (2, 5), (3, 6), (4, 2), (5, 3), (6, 11)]
noncomputable def itEven : FuncId → List (Con RU × Con RU × List (Nat × Nat)) := fun f => bif Nat.beq f 78 then [(cEvenK, cEvenY, evenMp)] else []

def joinOf : Nat → List Node → List (Int × Int) → List Int → List Node × List (Int × Int) × Int
  | 0, l, L, _ => (l, L, 0)
  | k + 1, l, L, r =>
    if r.length = 1 then (l, L, at_ r 0) else
    match joinOf k l L (r.take (r.length / 2)) with
    | (l1, L1, a) => match joinOf k l1 L1 (r.drop (r.length / 2)) with
      | (l2, L2, b) => (l2 ++ [⟨1, a, b, 0, 0, 0, []⟩], putL l2 L2 (w64 (lg L2 a + lg L2 b)), (l2.length : Int))
def joinAt (l : List Node) (L : List (Int × Int)) (r : List Int) : List Node × List (Int × Int) × Int := joinOf r.length l L r
/-- The words of some ropes together. -/
def sumL (L : List (Int × Int)) (r : List Int) : Int := (r.map fun a => lg L a).sum
def joinPre (l : List Node) (L : List (Int × Int)) (r : List Int) : Prop := openOk l L ∧ 1 ≤ r.length ∧ r.length ≤ 4001 ∧ (∀ a ∈ r, 0 ≤ a ∧ a < l.length) ∧ sumL L r ≤ 1048576
def joinBad (l : List Node) (r : List Int) : Bool := decide (4001 < l.length + r.length)
noncomputable def cJoin : Con RU := ⟨[one, one, one], [ints, nodes, mapI], [.d 0, .ptr 0 0, .ptr 1 0], [.box 90 [.clo 61 [0, 1]], .box 70 [.ptr 2 0], .box 69 [.row 4, .map 3], .map 2, .row 1],
  some fun p => joinPre p.2.1 p.2.2.1 p.1, some fun p => (joinBad p.2.1 p.1, wrong 9), [one], [i64, nodes, mapI], [.d 0], [.box 90 [.clo 61 [0, 1]], .box 70 [.ptr 2 0], .box 69 [.row 4, .map 3], .map 2, .row 1],
  fun p => ((joinAt p.2.1 p.2.2.1 p.1).2.2, (joinAt p.2.1 p.2.2.1 p.1).1, (joinAt p.2.1 p.2.2.1 p.1).2.1, ()), [0, 1], [], []⟩
noncomputable def mJoin : Dens RU.T cJoin.params → Nat := fun p => p.1.length

/-- A store with a rope that is balanced. -/
def evenEnd (l : List Node) (L : List (Int × Int)) (r : List Int) : List Node × Int × Int :=
  if r.length = 0 then (if putBad l 0 then ([], 0, 9) else (l ++ [node0], (l.length : Int), 0)) else if joinBad l r then ([], 0, 9) else ((joinAt l L r).1, (joinAt l L r).2.2, 0)
def evenRun (l : List Node) (a : Int) : Evn := Evn.run (pcsAt l a 0 (at_ (lensOf l) a) 0) ⟨l, longOf l, []⟩
def evenAt (l : List Node) (a : Int) : List Node × Int × Int :=
  if askedOf l [a] ≠ 0 then ([], 0, askedOf l [a]) else if (evenRun l a).full || (evenRun l a).many then ([], 0, 9) else evenEnd (evenRun l a).l (evenRun l a).L (evenRun l a).r
noncomputable def cEvenP : Con RU := conS [(true, 1), one] [nodes, i64] (fun _ => True) fun p => evenAt p.1 p.2.1
noncomputable def lEven : Nat → St RU → Ann RU := fun _ _ => ⟨[], [], [], fun _ => False, fun _ => 0, [(.box 512 0, 7, 3, i64)]⟩
end Go.Rp
end

section
set_option linter.unusedVariables false
set_option maxRecDepth 100000
open Go Go.VT
namespace Go.Rp

theorem piecesE_eq (l : List Node) (L : List (Int × Int)) (a from_ many add : Int) : vc (EV []) noL Go.Proofs.Tryd.f52 cPiecesE (l, L, a, from_, many, add, ()) = (let e0 : List Node × List (Int × Int) × Int × Int × Int × Int × Unit := (l, L, a, from_, many, add, ());
  Small RU (Sigma.mk (Ty.slice (56 : Nat) (Ty.user (0 : Nat))) l) → e0 = e0) := by kernel_rfl

theorem evenW_eq (a from_ many add : Int) (l : List Node) (L : List (Int × Int)) (out : List Int) (st : Int) : vc ((EVy recYl (some cEvenY) []).set 79 ((cEvenW ghW).below mFlatW (mFlatW (a, from_, many, add, l, L, out, st, ())))) noL Go.Proofs.Tryd.f79 (cEvenW ghW) (a, from_, many, add, l, L, out, st, ()) = (let e5 : Evn := evnY (a, from_, many, add, out, l, L, st, ());
  let e4 : List Node × List (Int × Int) × Int := Evn.off (Evn.mk l L out) (Piece.mk a from_ many add);
  let e3 : List Node × List (Int × Int) × List Int × Int × Unit := (l, L, out, st, ());
  let e2 : Int × List Node × List (Int × Int) × List Int × Int × Unit := (add, e3);
  let e1 : Node := List.getD l (Int.toNat a) (Node.mk (0 : Int) (0 : Int) (0 : Int) (0 : Int) (0 : Int) (0 : Int) []);
  let e0 : Int :=
  if
      (if IntKind.wrap IntKind.i64 (Option.getD (mget (fun (x y : Int) => x == y) L e1.a) (0 : Int) - from_) < many then
          IntKind.wrap IntKind.i64 (Option.getD (mget (fun (x y : Int) => x == y) L e1.a) (0 : Int) - from_)
        else many) >
        (0 : Int) then
    if IntKind.wrap IntKind.i64 (Option.getD (mget (fun (x y : Int) => x == y) L e1.a) (0 : Int) - from_) < many then
      IntKind.wrap IntKind.i64 (Option.getD (mget (fun (x y : Int) => x == y) L e1.a) (0 : Int) - from_)
    else many
  else (0 : Int);
  Small RU (Sigma.mk (Ty.slice (3 : Nat) (Ty.int IntKind.i64)) out) →
  Small RU (Sigma.mk (Ty.slice (56 : Nat) (Ty.user (0 : Nat))) l) →
    ((0 : Int) ≤ a ∧ a < (↑(List.length l) : Int)) ∧
      ((many == (0 : Int)) = true →
          Evn.full (evnW (a, from_, many, e2)) = false ∧
            (true, e3) =
              (!Evn.many (evnW (a, from_, many, e2)), (evnW (a, from_, many, e2)).l, (evnW (a, from_, many, e2)).L, (evnW (a, from_, many, e2)).r,
                if Evn.many (evnW (a, from_, many, e2)) = true then (1 : Int) else (0 : Int), ())) ∧
        ((many == (0 : Int)) = false →
          ((e1.kind == (0 : Int)) = true →
              ((((List.length l ≤ (4000 : Nat) ∧ validOf l = true ∧ L = longOf l) ∧
                      ((0 : Int) ≤ a ∧ a < (↑(List.length l) : Int)) ∧
                        (nat_ l a).kind = (0 : Int) ∧ isWord add = true ∧ (0 : Int) < many ∧ many ≤ (1048576 : Int) ∧ (0 : Int) ≤ from_ ∧ from_ + many ≤ at_ (lensOf l) a) ∧
                    List.length out ≤ (4001 : Nat) ∧ st = (0 : Int)) ∧
                  True) ∧
                (Evn.full e5 = true → Evn.full (evnW (a, from_, many, e2)) = true ∧ (9 : Int) = (9 : Int) ∧ True) ∧
                  (Evn.full e5 = false →
                    Evn.full (evnW (a, from_, many, e2)) = false ∧
                      (!Evn.many e5, e4.fst, e4.snd.fst, out ++ [e4.snd.snd], if Evn.many e5 = true then (1 : Int) else (0 : Int), ()) =
                        (!Evn.many (evnW (a, from_, many, e2)), (evnW (a, from_, many, e2)).l, (evnW (a, from_, many, e2)).L, (evnW (a, from_, many, e2)).r,
                          if Evn.many (evnW (a, from_, many, e2)) = true then (1 : Int) else (0 : Int), ()))) ∧
            ((e1.kind == (0 : Int)) = false →
              ((e1.kind == (2 : Int)) = true →
                  ((((((((List.length l ≤ (4000 : Nat) ∧ validOf l = true ∧ L = longOf l) ∧
                                  ((0 : Int) ≤ e1.a ∧ e1.a < (↑(List.length l) : Int)) ∧
                                    isWord add = true ∧
                                      (0 : Int) ≤ many ∧
                                        ((0 : Int) < many → (0 : Int) ≤ IntKind.wrap IntKind.i64 (from_ + e1.from_) ∧ IntKind.wrap IntKind.i64 (from_ + e1.from_) + many ≤ at_ (lensOf l) e1.a)) ∧
                                List.length out ≤ (4001 : Nat) ∧ st = (0 : Int)) ∧
                              mFlatW (e1.a, IntKind.wrap IntKind.i64 (from_ + e1.from_), many, e2) < mFlatW (a, from_, many, e2)) ∧
                            True) ∧
                          True) ∧
                        True) ∧
                      True) ∧
                    (Evn.full (evnW (e1.a, IntKind.wrap IntKind.i64 (from_ + e1.from_), many, e2)) = true → Evn.full (evnW (a, from_, many, e2)) = true ∧ (9 : Int) = (9 : Int) ∧ True) ∧
                      (Evn.full (evnW (e1.a, IntKind.wrap IntKind.i64 (from_ + e1.from_), many, e2)) = false →
                        Evn.full (evnW (a, from_, many, e2)) = false ∧
                          (!Evn.many (evnW (e1.a, IntKind.wrap IntKind.i64 (from_ + e1.from_), many, e2)), (evnW (e1.a, IntKind.wrap IntKind.i64 (from_ + e1.from_), many, e2)).l,
                              (evnW (e1.a, IntKind.wrap IntKind.i64 (from_ + e1.from_), many, e2)).L, (evnW (e1.a, IntKind.wrap IntKind.i64 (from_ + e1.from_), many, e2)).r,
                              if Evn.many (evnW (e1.a, IntKind.wrap IntKind.i64 (from_ + e1.from_), many, e2)) = true then (1 : Int) else (0 : Int), ()) =
                            (!Evn.many (evnW (a, from_, many, e2)), (evnW (a, from_, many, e2)).l, (evnW (a, from_, many, e2)).L, (evnW (a, from_, many, e2)).r,
                              if Evn.many (evnW (a, from_, many, e2)) = true then (1 : Int) else (0 : Int), ()))) ∧
                ((e1.kind == (2 : Int)) = false →
                  ((e1.kind == (3 : Int)) = true →
                      ((((((((List.length l ≤ (4000 : Nat) ∧ validOf l = true ∧ L = longOf l) ∧
                                      ((0 : Int) ≤ e1.a ∧ e1.a < (↑(List.length l) : Int)) ∧
                                        isWord (IntKind.wrap IntKind.i64 (IntKind.wrap IntKind.i32 (IntKind.wrap IntKind.i64 (add + e1.n)))) = true ∧
                                          (0 : Int) ≤ many ∧ ((0 : Int) < many → (0 : Int) ≤ from_ ∧ from_ + many ≤ at_ (lensOf l) e1.a)) ∧
                                    List.length out ≤ (4001 : Nat) ∧ st = (0 : Int)) ∧
                                  mFlatW (e1.a, from_, many, IntKind.wrap IntKind.i64 (IntKind.wrap IntKind.i32 (IntKind.wrap IntKind.i64 (add + e1.n))), e3) < mFlatW (a, from_, many, e2)) ∧
                                True) ∧
                              True) ∧
                            True) ∧
                          True) ∧
                        (Evn.full (evnW (e1.a, from_, many, IntKind.wrap IntKind.i64 (IntKind.wrap IntKind.i32 (IntKind.wrap IntKind.i64 (add + e1.n))), e3)) = true →
                            Evn.full (evnW (a, from_, many, e2)) = true ∧ (9 : Int) = (9 : Int) ∧ True) ∧
                          (Evn.full (evnW (e1.a, from_, many, IntKind.wrap IntKind.i64 (IntKind.wrap IntKind.i32 (IntKind.wrap IntKind.i64 (add + e1.n))), e3)) = false →
                            Evn.full (evnW (a, from_, many, e2)) = false ∧
                              (!Evn.many (evnW (e1.a, from_, many, IntKind.wrap IntKind.i64 (IntKind.wrap IntKind.i32 (IntKind.wrap IntKind.i64 (add + e1.n))), e3)),
                                  (evnW (e1.a, from_, many, IntKind.wrap IntKind.i64 (IntKind.wrap IntKind.i32 (IntKind.wrap IntKind.i64 (add + e1.n))), e3)).l,
                                  (evnW (e1.a, from_, many, IntKind.wrap IntKind.i64 (IntKind.wrap IntKind.i32 (IntKind.wrap IntKind.i64 (add + e1.n))), e3)).L,
                                  (evnW (e1.a, from_, many, IntKind.wrap IntKind.i64 (IntKind.wrap IntKind.i32 (IntKind.wrap IntKind.i64 (add + e1.n))), e3)).r,
                                  if Evn.many (evnW (e1.a, from_, many, IntKind.wrap IntKind.i64 (IntKind.wrap IntKind.i32 (IntKind.wrap IntKind.i64 (add + e1.n))), e3)) = true then (1 : Int)
                                  else (0 : Int),
                                  ()) =
                                (!Evn.many (evnW (a, from_, many, e2)), (evnW (a, from_, many, e2)).l, (evnW (a, from_, many, e2)).L, (evnW (a, from_, many, e2)).r,
                                  if Evn.many (evnW (a, from_, many, e2)) = true then (1 : Int) else (0 : Int), ()))) ∧
                    ((e1.kind == (3 : Int)) = false →
                      ((!Evn.many (evnW (e1.a, from_, e0, e2))) = true →
                          ((((((((List.length l ≤ (4000 : Nat) ∧ validOf l = true ∧ L = longOf l) ∧
                                          ((0 : Int) ≤ e1.a ∧ e1.a < (↑(List.length l) : Int)) ∧
                                            isWord add = true ∧ (0 : Int) ≤ e0 ∧ ((0 : Int) < e0 → (0 : Int) ≤ from_ ∧ from_ + e0 ≤ at_ (lensOf l) e1.a)) ∧
                                        List.length out ≤ (4001 : Nat) ∧ st = (0 : Int)) ∧
                                      mFlatW (e1.a, from_, e0, e2) < mFlatW (a, from_, many, e2)) ∧
                                    True) ∧
                                  True) ∧
                                True) ∧
                              True) ∧
                            (Evn.full (evnW (e1.a, from_, e0, e2)) = true → Evn.full (evnW (a, from_, many, e2)) = true ∧ (9 : Int) = (9 : Int) ∧ True) ∧
                              (Evn.full (evnW (e1.a, from_, e0, e2)) = false →
                                  (((((((List.length (evnW (e1.a, from_, e0, e2)).l ≤ (4000 : Nat) ∧
                                                  validOf (evnW (e1.a, from_, e0, e2)).l = true ∧ (evnW (e1.a, from_, e0, e2)).L = longOf (evnW (e1.a, from_, e0, e2)).l) ∧
                                                ((0 : Int) ≤ e1.b ∧ e1.b < (↑(List.length (evnW (e1.a, from_, e0, e2)).l) : Int)) ∧
                                                  isWord add = true ∧
                                                    (0 : Int) ≤ IntKind.wrap IntKind.i64 (many - e0) ∧
                                                      ((0 : Int) < IntKind.wrap IntKind.i64 (many - e0) →
                                                        (0 : Int) ≤
                                                            IntKind.wrap IntKind.i64
                                                              (IntKind.wrap IntKind.i64 (from_ + e0) - Option.getD (mget (fun (x y : Int) => x == y) (evnW (e1.a, from_, e0, e2)).L e1.a) (0 : Int)) ∧
                                                          IntKind.wrap IntKind.i64
                                                                (IntKind.wrap IntKind.i64 (from_ + e0) - Option.getD (mget (fun (x y : Int) => x == y) (evnW (e1.a, from_, e0, e2)).L e1.a) (0 : Int)) +
                                                              IntKind.wrap IntKind.i64 (many - e0) ≤
                                                            at_ (lensOf (evnW (e1.a, from_, e0, e2)).l) e1.b)) ∧
                                              List.length (evnW (e1.a, from_, e0, e2)).r ≤ (4001 : Nat) ∧ (if Evn.many (evnW (e1.a, from_, e0, e2)) = true then (1 : Int) else (0 : Int)) = (0 : Int)) ∧
                                            mFlatW
                                                (e1.b,
                                                  IntKind.wrap IntKind.i64
                                                    (IntKind.wrap IntKind.i64 (from_ + e0) - Option.getD (mget (fun (x y : Int) => x == y) (evnW (e1.a, from_, e0, e2)).L e1.a) (0 : Int)),
                                                  IntKind.wrap IntKind.i64 (many - e0), add, (evnW (e1.a, from_, e0, e2)).l, (evnW (e1.a, from_, e0, e2)).L, (evnW (e1.a, from_, e0, e2)).r,
                                                  if Evn.many (evnW (e1.a, from_, e0, e2)) = true then (1 : Int) else (0 : Int), ()) <
                                              mFlatW (a, from_, many, e2)) ∧
                                          True) ∧
                                        True) ∧
                                      True) ∧
                                    True) ∧
                                (Evn.full (evnW (e1.a, from_, e0, e2)) = false →
                                    Evn.full
                                          (evnW
                                            (e1.b,
                                              IntKind.wrap IntKind.i64
                                                (IntKind.wrap IntKind.i64 (from_ + e0) - Option.getD (mget (fun (x y : Int) => x == y) (evnW (e1.a, from_, e0, e2)).L e1.a) (0 : Int)),
                                              IntKind.wrap IntKind.i64 (many - e0), add, (evnW (e1.a, from_, e0, e2)).l, (evnW (e1.a, from_, e0, e2)).L, (evnW (e1.a, from_, e0, e2)).r,
                                              if Evn.many (evnW (e1.a, from_, e0, e2)) = true then (1 : Int) else (0 : Int), ())) =
                                        true →
                                      Evn.full (evnW (a, from_, many, e2)) = true ∧ (9 : Int) = (9 : Int) ∧ True) ∧
                                  (Evn.full (evnW (e1.a, from_, e0, e2)) = false →
                                    Evn.full
                                          (evnW
                                            (e1.b,
                                              IntKind.wrap IntKind.i64
                                                (IntKind.wrap IntKind.i64 (from_ + e0) - Option.getD (mget (fun (x y : Int) => x == y) (evnW (e1.a, from_, e0, e2)).L e1.a) (0 : Int)),
                                              IntKind.wrap IntKind.i64 (many - e0), add, (evnW (e1.a, from_, e0, e2)).l, (evnW (e1.a, from_, e0, e2)).L, (evnW (e1.a, from_, e0, e2)).r,
                                              if Evn.many (evnW (e1.a, from_, e0, e2)) = true then (1 : Int) else (0 : Int), ())) =
                                        false →
                                      Evn.full (evnW (a, from_, many, e2)) = false ∧
                                        (!Evn.many (evnW (e1.a, from_, e0, e2)) &&
                                              !Evn.many
                                                  (evnW
                                                    (e1.b,
                                                      IntKind.wrap IntKind.i64
                                                        (IntKind.wrap IntKind.i64 (from_ + e0) - Option.getD (mget (fun (x y : Int) => x == y) (evnW (e1.a, from_, e0, e2)).L e1.a) (0 : Int)),
                                                      IntKind.wrap IntKind.i64 (many - e0), add, (evnW (e1.a, from_, e0, e2)).l, (evnW (e1.a, from_, e0, e2)).L, (evnW (e1.a, from_, e0, e2)).r,
                                                      if Evn.many (evnW (e1.a, from_, e0, e2)) = true then (1 : Int) else (0 : Int), ())),
                                            (evnW
                                                (e1.b,
                                                  IntKind.wrap IntKind.i64
                                                    (IntKind.wrap IntKind.i64 (from_ + e0) - Option.getD (mget (fun (x y : Int) => x == y) (evnW (e1.a, from_, e0, e2)).L e1.a) (0 : Int)),
                                                  IntKind.wrap IntKind.i64 (many - e0), add, (evnW (e1.a, from_, e0, e2)).l, (evnW (e1.a, from_, e0, e2)).L, (evnW (e1.a, from_, e0, e2)).r,
                                                  if Evn.many (evnW (e1.a, from_, e0, e2)) = true then (1 : Int) else (0 : Int), ())).l,
                                            (evnW
                                                (e1.b,
                                                  IntKind.wrap IntKind.i64
                                                    (IntKind.wrap IntKind.i64 (from_ + e0) - Option.getD (mget (fun (x y : Int) => x == y) (evnW (e1.a, from_, e0, e2)).L e1.a) (0 : Int)),
                                                  IntKind.wrap IntKind.i64 (many - e0), add, (evnW (e1.a, from_, e0, e2)).l, (evnW (e1.a, from_, e0, e2)).L, (evnW (e1.a, from_, e0, e2)).r,
                                                  if Evn.many (evnW (e1.a, from_, e0, e2)) = true then (1 : Int) else (0 : Int), ())).L,
                                            (evnW
                                                (e1.b,
                                                  IntKind.wrap IntKind.i64
                                                    (IntKind.wrap IntKind.i64 (from_ + e0) - Option.getD (mget (fun (x y : Int) => x == y) (evnW (e1.a, from_, e0, e2)).L e1.a) (0 : Int)),
                                                  IntKind.wrap IntKind.i64 (many - e0), add, (evnW (e1.a, from_, e0, e2)).l, (evnW (e1.a, from_, e0, e2)).L, (evnW (e1.a, from_, e0, e2)).r,
                                                  if Evn.many (evnW (e1.a, from_, e0, e2)) = true then (1 : Int) else (0 : Int), ())).r,
                                            if
                                                Evn.many
                                                    (evnW
                                                      (e1.b,
                                                        IntKind.wrap IntKind.i64
                                                          (IntKind.wrap IntKind.i64 (from_ + e0) - Option.getD (mget (fun (x y : Int) => x == y) (evnW (e1.a, from_, e0, e2)).L e1.a) (0 : Int)),
                                                        IntKind.wrap IntKind.i64 (many - e0), add, (evnW (e1.a, from_, e0, e2)).l, (evnW (e1.a, from_, e0, e2)).L, (evnW (e1.a, from_, e0, e2)).r,
                                                        if Evn.many (evnW (e1.a, from_, e0, e2)) = true then (1 : Int) else (0 : Int), ())) =
                                                  true then
                                              (1 : Int)
                                            else (0 : Int),
                                            ()) =
                                          (!Evn.many (evnW (a, from_, many, e2)), (evnW (a, from_, many, e2)).l, (evnW (a, from_, many, e2)).L, (evnW (a, from_, many, e2)).r,
                                            if Evn.many (evnW (a, from_, many, e2)) = true then (1 : Int) else (0 : Int), ()))) ∧
                        ((!Evn.many (evnW (e1.a, from_, e0, e2))) = !true →
                          ((((((((List.length l ≤ (4000 : Nat) ∧ validOf l = true ∧ L = longOf l) ∧
                                          ((0 : Int) ≤ e1.a ∧ e1.a < (↑(List.length l) : Int)) ∧
                                            isWord add = true ∧ (0 : Int) ≤ e0 ∧ ((0 : Int) < e0 → (0 : Int) ≤ from_ ∧ from_ + e0 ≤ at_ (lensOf l) e1.a)) ∧
                                        List.length out ≤ (4001 : Nat) ∧ st = (0 : Int)) ∧
                                      mFlatW (e1.a, from_, e0, e2) < mFlatW (a, from_, many, e2)) ∧
                                    True) ∧
                                  True) ∧
                                True) ∧
                              True) ∧
                            (Evn.full (evnW (e1.a, from_, e0, e2)) = true → Evn.full (evnW (a, from_, many, e2)) = true ∧ (9 : Int) = (9 : Int) ∧ True) ∧
                              (Evn.full (evnW (e1.a, from_, e0, e2)) = false →
                                Evn.full (evnW (a, from_, many, e2)) = false ∧
                                  (!Evn.many (evnW (e1.a, from_, e0, e2)) &&
                                        !Evn.many
                                            (evnW
                                              (e1.b,
                                                IntKind.wrap IntKind.i64
                                                  (IntKind.wrap IntKind.i64 (from_ + e0) - Option.getD (mget (fun (x y : Int) => x == y) (evnW (e1.a, from_, e0, e2)).L e1.a) (0 : Int)),
                                                IntKind.wrap IntKind.i64 (many - e0), add, (evnW (e1.a, from_, e0, e2)).l, (evnW (e1.a, from_, e0, e2)).L, (evnW (e1.a, from_, e0, e2)).r,
                                                if Evn.many (evnW (e1.a, from_, e0, e2)) = true then (1 : Int) else (0 : Int), ())),
                                      (evnW (e1.a, from_, e0, e2)).l, (evnW (e1.a, from_, e0, e2)).L, (evnW (e1.a, from_, e0, e2)).r,
                                      if Evn.many (evnW (e1.a, from_, e0, e2)) = true then (1 : Int) else (0 : Int), ()) =
                                    (!Evn.many (evnW (a, from_, many, e2)), (evnW (a, from_, many, e2)).l, (evnW (a, from_, many, e2)).L, (evnW (a, from_, many, e2)).r,
                                      if Evn.many (evnW (a, from_, many, e2)) = true then (1 : Int) else (0 : Int), ())))))))) := by kernel_rfl

theorem evenK_eq (a from_ many add : Int) (l : List Node) (L : List (Int × Int)) (out : List Int) (st : Int) : vc (EVy walkYl (some cEvenY) [(79, cEvenW ghK)]) noL Go.Proofs.Tryd.f78 cEvenK (a, from_, many, add, l, L, out, st, ()) = (let e0 : Evn := evnW (a, from_, many, add, l, L, out, st, ());
  Small RU (Sigma.mk (Ty.slice (3 : Nat) (Ty.int IntKind.i64)) out) →
  Small RU (Sigma.mk (Ty.slice (56 : Nat) (Ty.user (0 : Nat))) l) →
    (((((((List.length l ≤ (4000 : Nat) ∧ validOf l = true ∧ L = longOf l) ∧
                  ((0 : Int) ≤ a ∧ a < (↑(List.length l) : Int)) ∧ isWord add = true ∧ (0 : Int) ≤ many ∧ ((0 : Int) < many → (0 : Int) ≤ from_ ∧ from_ + many ≤ at_ (lensOf l) a)) ∧
                List.length out ≤ (4001 : Nat) ∧ st = (0 : Int)) ∧
              True) ∧
            True) ∧
          True) ∧
        True) ∧
      (Evn.full e0 = true → Evn.full e0 = true ∧ (9 : Int) = (9 : Int) ∧ True) ∧
        (Evn.full e0 = false →
          Evn.full e0 = false ∧ (e0.l, e0.L, e0.r, if Evn.many e0 = true then (1 : Int) else (0 : Int), ()) = (e0.l, e0.L, e0.r, if Evn.many e0 = true then (1 : Int) else (0 : Int), ()))) := by kernel_rfl

theorem join_eq (r : List Int) (l : List Node) (L : List (Int × Int)) : vc ((EV [(60, cPut)]).set 61 (cJoin.below mJoin (mJoin (r, l, L, ())))) noL Go.Proofs.Tryd.f61 cJoin (r, l, L, ()) = (let e4 : List (Int × Int) × Int := (joinAt l L r).snd;
  let e3 : Nat := mJoin (r, l, L, ());
  let e2 : Int × List Node × List (Int × Int) × Unit := (e4.snd, (joinAt l L r).fst, e4.fst, ());
  let e1 : Int := IntKind.wrap IntKind.i64 (Int.tdiv (↑(List.length r) : Int) (2 : Int));
  let e0 : Nat := Int.toNat e1;
  Small RU (Sigma.mk (Ty.slice (3 : Nat) (Ty.int IntKind.i64)) r) →
  Small RU (Sigma.mk (Ty.slice (56 : Nat) (Ty.user (0 : Nat))) l) →
    (((↑(List.length r) : Int) == (1 : Int)) = true → ((0 : Int) ≤ (0 : Int) ∧ (0 : Int) < (↑(List.length r) : Int)) ∧ joinBad l r = false ∧ (List.getD r (0 : Nat) (0 : Int), l, L, ()) = e2) ∧
      (((↑(List.length r) : Int) == (1 : Int)) = false →
        (2 : Int) ≠ (0 : Int) ∧
          ((0 : Int) ≤ e1 ∧ e1 ≤ (↑(List.length r) : Int)) ∧
            (((((List.length l ≤ (4000 : Nat) ∧ validOf l = true ∧ L = longOf l) ∧
                      (1 : Nat) ≤ List.length (List.take e0 r) ∧
                        List.length (List.take e0 r) ≤ (4001 : Nat) ∧
                          (∀ (a : Int), List.Mem a (List.take e0 r) → (0 : Int) ≤ a ∧ a < (↑(List.length l) : Int)) ∧ sumL L (List.take e0 r) ≤ (1048576 : Int)) ∧
                    mJoin (List.take e0 r, l, L, ()) < e3) ∧
                  True) ∧
                True) ∧
              (joinBad l (List.take e0 r) = true → joinBad l r = true ∧ (9 : Int) = (9 : Int) ∧ True) ∧
                (2 : Int) ≠ (0 : Int) ∧
                  ((0 : Int) ≤ e1 ∧ e1 ≤ (↑(List.length r) : Int)) ∧
                    (joinBad l (List.take e0 r) = false →
                        ((((List.length (joinAt l L (List.take e0 r)).fst ≤ (4000 : Nat) ∧
                                  validOf (joinAt l L (List.take e0 r)).fst = true ∧ (joinAt l L (List.take e0 r)).snd.fst = longOf (joinAt l L (List.take e0 r)).fst) ∧
                                (1 : Nat) ≤ List.length (List.drop e0 r) ∧
                                  List.length (List.drop e0 r) ≤ (4001 : Nat) ∧
                                    (∀ (a : Int),
                                        let e0 : Nat := e0;
                                        List.Mem a (List.drop e0 r) → (0 : Int) ≤ a ∧ a < (↑(List.length (joinAt l L (List.take e0 r)).fst) : Int)) ∧
                                      sumL (joinAt l L (List.take e0 r)).snd.fst (List.drop e0 r) ≤ (1048576 : Int)) ∧
                              mJoin (List.drop e0 r, (joinAt l L (List.take e0 r)).fst, (joinAt l L (List.take e0 r)).snd.fst, ()) < e3) ∧
                            True) ∧
                          True) ∧
                      (joinBad l (List.take e0 r) = false → joinBad (joinAt l L (List.take e0 r)).fst (List.drop e0 r) = true → joinBad l r = true ∧ (9 : Int) = (9 : Int) ∧ True) ∧
                        (joinBad l (List.take e0 r) = false →
                          joinBad (joinAt l L (List.take e0 r)).fst (List.drop e0 r) = false →
                            (putBad (joinAt (joinAt l L (List.take e0 r)).fst (joinAt l L (List.take e0 r)).snd.fst (List.drop e0 r)).fst
                                    (IntKind.wrap IntKind.i64
                                      (Option.getD
                                          (mget (fun (x y : Int) => x == y) (joinAt (joinAt l L (List.take e0 r)).fst (joinAt l L (List.take e0 r)).snd.fst (List.drop e0 r)).snd.fst
                                            (joinAt l L (List.take e0 r)).snd.snd)
                                          (0 : Int) +
                                        Option.getD
                                          (mget (fun (x y : Int) => x == y) (joinAt (joinAt l L (List.take e0 r)).fst (joinAt l L (List.take e0 r)).snd.fst (List.drop e0 r)).snd.fst
                                            (joinAt (joinAt l L (List.take e0 r)).fst (joinAt l L (List.take e0 r)).snd.fst (List.drop e0 r)).snd.snd)
                                          (0 : Int))) =
                                  true →
                                joinBad l r = true ∧ (9 : Int) = (9 : Int) ∧ True) ∧
                              (putBad (joinAt (joinAt l L (List.take e0 r)).fst (joinAt l L (List.take e0 r)).snd.fst (List.drop e0 r)).fst
                                    (IntKind.wrap IntKind.i64
                                      (Option.getD
                                          (mget (fun (x y : Int) => x == y) (joinAt (joinAt l L (List.take e0 r)).fst (joinAt l L (List.take e0 r)).snd.fst (List.drop e0 r)).snd.fst
                                            (joinAt l L (List.take e0 r)).snd.snd)
                                          (0 : Int) +
                                        Option.getD
                                          (mget (fun (x y : Int) => x == y) (joinAt (joinAt l L (List.take e0 r)).fst (joinAt l L (List.take e0 r)).snd.fst (List.drop e0 r)).snd.fst
                                            (joinAt (joinAt l L (List.take e0 r)).fst (joinAt l L (List.take e0 r)).snd.fst (List.drop e0 r)).snd.snd)
                                          (0 : Int))) =
                                  false →
                                joinBad l r = false ∧
                                  ((↑(List.length (joinAt (joinAt l L (List.take e0 r)).fst (joinAt l L (List.take e0 r)).snd.fst (List.drop e0 r)).fst) : Int),
                                      (joinAt (joinAt l L (List.take e0 r)).fst (joinAt l L (List.take e0 r)).snd.fst (List.drop e0 r)).fst ++
                                        [Node.mk (1 : Int) (joinAt l L (List.take e0 r)).snd.snd
                                            (joinAt (joinAt l L (List.take e0 r)).fst (joinAt l L (List.take e0 r)).snd.fst (List.drop e0 r)).snd.snd (0 : Int) (0 : Int) (0 : Int) []],
                                      putL (joinAt (joinAt l L (List.take e0 r)).fst (joinAt l L (List.take e0 r)).snd.fst (List.drop e0 r)).fst
                                        (joinAt (joinAt l L (List.take e0 r)).fst (joinAt l L (List.take e0 r)).snd.fst (List.drop e0 r)).snd.fst
                                        (IntKind.wrap IntKind.i64
                                          (Option.getD
                                              (mget (fun (x y : Int) => x == y) (joinAt (joinAt l L (List.take e0 r)).fst (joinAt l L (List.take e0 r)).snd.fst (List.drop e0 r)).snd.fst
                                                (joinAt l L (List.take e0 r)).snd.snd)
                                              (0 : Int) +
                                            Option.getD
                                              (mget (fun (x y : Int) => x == y) (joinAt (joinAt l L (List.take e0 r)).fst (joinAt l L (List.take e0 r)).snd.fst (List.drop e0 r)).snd.fst
                                                (joinAt (joinAt l L (List.take e0 r)).fst (joinAt l L (List.take e0 r)).snd.fst (List.drop e0 r)).snd.snd)
                                              (0 : Int))),
                                      ()) =
                                    e2)))) := by kernel_rfl

theorem evenP_eq (l : List Node) (a : Int) : vcD (EVx (fun _ _ => []) itEven [(49, cOpen), (52, cPiecesE), (53, cMust), (59, cOwnS), (60, cPut), (61, cJoin)]) cC lEven Go.Proofs.Tryd.f24 cEvenP (l, a, ()) = (let e4 : Bool := askedOf l [a] != (0 : Int);
  let e3 : List Node := [Node.mk (0 : Int) (0 : Int) (0 : Int) (0 : Int) (0 : Int) (0 : Int) []];
  let e2 : Int := Option.getD (mget (fun (x y : Int) => x == y) (longOf l) a) (0 : Int);
  let e1 : List Node × Int × Int × Unit := ((evenAt l a).fst, (evenAt l a).snd.fst, (evenAt l a).snd.snd, ());
  let e0 : Evn := evnW (a, (0 : Int), e2, (0 : Int), l, longOf l, [], (0 : Int), ());
  Small RU (Sigma.mk (Ty.slice (56 : Nat) (Ty.user (0 : Nat))) l) →
  (e4 = true → ([], (0 : Int), askedOf l [a], ()) = e1) ∧
    (e4 = false →
      (List.length l ≤ (4000000 : Nat) ∧ ∀ (x : Node), List.Mem x l → List.length x.words ≤ (4000000 : Nat)) ∧
        (longOf l = longOf l ∧ True) ∧
          (∀ (xs : Int × Int × Int × Int × List Int × List Node × List (Int × Int) × Int × Unit),
              let e3 : Int := xs.snd.snd.snd.fst;
              let e2 : List Node := [Node.mk (2 : Int) xs.fst (0 : Int) xs.snd.fst xs.snd.snd.fst (0 : Int) []];
              let e1 : List Int × List Node × List (Int × Int) × Int × Unit := xs.snd.snd.snd.snd;
              let e0 : Bool × List Int × List Node × List (Int × Int) × Int × Unit :=
                (!Evn.many (evnY xs), e1.fst ++ [(Evn.off (Evn.mk e1.snd.fst e1.snd.snd.fst e1.fst) (Piece.mk xs.fst xs.snd.fst xs.snd.snd.fst e3)).snd.snd],
                  (Evn.off (Evn.mk e1.snd.fst e1.snd.snd.fst e1.fst) (Piece.mk xs.fst xs.snd.fst xs.snd.snd.fst e3)).fst,
                  (Evn.off (Evn.mk e1.snd.fst e1.snd.snd.fst e1.fst) (Piece.mk xs.fst xs.snd.fst xs.snd.snd.fst e3)).snd.fst, if Evn.many (evnY xs) = true then (1 : Int) else (0 : Int), ());
              ((List.length e1.snd.fst ≤ (4000 : Nat) ∧ validOf e1.snd.fst = true ∧ e1.snd.snd.fst = longOf e1.snd.fst) ∧
                    ((0 : Int) ≤ xs.fst ∧ xs.fst < (↑(List.length e1.snd.fst) : Int)) ∧
                      (nat_ e1.snd.fst xs.fst).kind = (0 : Int) ∧
                        isWord e3 = true ∧ (0 : Int) < xs.snd.snd.fst ∧ xs.snd.snd.fst ≤ (1048576 : Int) ∧ (0 : Int) ≤ xs.snd.fst ∧ xs.snd.fst + xs.snd.snd.fst ≤ at_ (lensOf e1.snd.fst) xs.fst) ∧
                  List.length e1.fst ≤ (4001 : Nat) ∧ e1.snd.snd.snd.fst = (0 : Int) →
                Small RU (Sigma.mk (Ty.slice (3 : Nat) (Ty.int IntKind.i64)) e1.fst) →
                  Small RU (Sigma.mk (Ty.slice (56 : Nat) (Ty.user (0 : Nat))) e1.snd.fst) →
                    e1.snd.snd.snd.fst = (0 : Int) ∧
                      (decide (xs.snd.snd.fst < Option.getD (mget (fun (x y : Int) => x == y) e1.snd.snd.fst xs.fst) (0 : Int)) = true →
                          (putBad e1.snd.fst xs.snd.snd.fst = true → Evn.full (evnY xs) = true ∧ (9 : Int) = (9 : Int) ∧ True) ∧
                            (putBad e1.snd.fst xs.snd.snd.fst = false →
                              ((e3 != (0 : Int)) = true →
                                  (putBad (e1.snd.fst ++ e2) xs.snd.snd.fst = true → Evn.full (evnY xs) = true ∧ (9 : Int) = (9 : Int) ∧ True) ∧
                                    (putBad (e1.snd.fst ++ e2) xs.snd.snd.fst = false →
                                      (List.length e1.fst + List.length [(↑(List.length (e1.snd.fst ++ e2)) : Int)]) * (8 : Nat) ≤ (140737488355328 : Nat) ∧
                                        (decide ((↑(List.length (e1.fst ++ [(↑(List.length (e1.snd.fst ++ e2)) : Int)])) : Int) > (4001 : Int)) = true →
                                            Evn.full (evnY xs) = false ∧
                                              (false, e1.fst ++ [(↑(List.length (e1.snd.fst ++ e2)) : Int)],
                                                  e1.snd.fst ++ e2 ++ [Node.mk (3 : Int) (↑(List.length e1.snd.fst) : Int) (0 : Int) (0 : Int) (0 : Int) e3 []],
                                                  putL (e1.snd.fst ++ e2) (putL e1.snd.fst e1.snd.snd.fst xs.snd.snd.fst) xs.snd.snd.fst, (1 : Int), ()) =
                                                e0) ∧
                                          (decide ((↑(List.length (e1.fst ++ [(↑(List.length (e1.snd.fst ++ e2)) : Int)])) : Int) > (4001 : Int)) = false →
                                            Evn.full (evnY xs) = false ∧
                                              (true, e1.fst ++ [(↑(List.length (e1.snd.fst ++ e2)) : Int)],
                                                  e1.snd.fst ++ e2 ++ [Node.mk (3 : Int) (↑(List.length e1.snd.fst) : Int) (0 : Int) (0 : Int) (0 : Int) e3 []],
                                                  putL (e1.snd.fst ++ e2) (putL e1.snd.fst e1.snd.snd.fst xs.snd.snd.fst) xs.snd.snd.fst, (0 : Int), ()) =
                                                e0))) ∧
                                ((e3 != (0 : Int)) = false →
                                  (List.length e1.fst + List.length [(↑(List.length e1.snd.fst) : Int)]) * (8 : Nat) ≤ (140737488355328 : Nat) ∧
                                    (decide ((↑(List.length (e1.fst ++ [(↑(List.length e1.snd.fst) : Int)])) : Int) > (4001 : Int)) = true →
                                        Evn.full (evnY xs) = false ∧
                                          (false, e1.fst ++ [(↑(List.length e1.snd.fst) : Int)], e1.snd.fst ++ e2, putL e1.snd.fst e1.snd.snd.fst xs.snd.snd.fst, (1 : Int), ()) = e0) ∧
                                      (decide ((↑(List.length (e1.fst ++ [(↑(List.length e1.snd.fst) : Int)])) : Int) > (4001 : Int)) = false →
                                        Evn.full (evnY xs) = false ∧
                                          (true, e1.fst ++ [(↑(List.length e1.snd.fst) : Int)], e1.snd.fst ++ e2, putL e1.snd.fst e1.snd.snd.fst xs.snd.snd.fst, (0 : Int), ()) = e0)))) ∧
                        (decide (xs.snd.snd.fst < Option.getD (mget (fun (x y : Int) => x == y) e1.snd.snd.fst xs.fst) (0 : Int)) = false →
                          ((e3 != (0 : Int)) = true →
                              (putBad e1.snd.fst xs.snd.snd.fst = true → Evn.full (evnY xs) = true ∧ (9 : Int) = (9 : Int) ∧ True) ∧
                                (putBad e1.snd.fst xs.snd.snd.fst = false →
                                  (List.length e1.fst + List.length [(↑(List.length e1.snd.fst) : Int)]) * (8 : Nat) ≤ (140737488355328 : Nat) ∧
                                    (decide ((↑(List.length (e1.fst ++ [(↑(List.length e1.snd.fst) : Int)])) : Int) > (4001 : Int)) = true →
                                        Evn.full (evnY xs) = false ∧
                                          (false, e1.fst ++ [(↑(List.length e1.snd.fst) : Int)], e1.snd.fst ++ [Node.mk (3 : Int) xs.fst (0 : Int) (0 : Int) (0 : Int) e3 []],
                                              putL e1.snd.fst e1.snd.snd.fst xs.snd.snd.fst, (1 : Int), ()) =
                                            e0) ∧
                                      (decide ((↑(List.length (e1.fst ++ [(↑(List.length e1.snd.fst) : Int)])) : Int) > (4001 : Int)) = false →
                                        Evn.full (evnY xs) = false ∧
                                          (true, e1.fst ++ [(↑(List.length e1.snd.fst) : Int)], e1.snd.fst ++ [Node.mk (3 : Int) xs.fst (0 : Int) (0 : Int) (0 : Int) e3 []],
                                              putL e1.snd.fst e1.snd.snd.fst xs.snd.snd.fst, (0 : Int), ()) =
                                            e0))) ∧
                            ((e3 != (0 : Int)) = false →
                              (List.length e1.fst + List.length [xs.fst]) * (8 : Nat) ≤ (140737488355328 : Nat) ∧
                                (decide ((↑(List.length (e1.fst ++ [xs.fst])) : Int) > (4001 : Int)) = true →
                                    Evn.full (evnY xs) = false ∧ (false, e1.fst ++ [xs.fst], e1.snd.fst, e1.snd.snd.fst, (1 : Int), ()) = e0) ∧
                                  (decide ((↑(List.length (e1.fst ++ [xs.fst])) : Int) > (4001 : Int)) = false →
                                    Evn.full (evnY xs) = false ∧ (true, e1.fst ++ [xs.fst], e1.snd.fst, e1.snd.snd.fst, (0 : Int), ()) = e0)))) ∧
            (((((List.length l ≤ (4000 : Nat) ∧ validOf l = true ∧ longOf l = longOf l) ∧
                      ((0 : Int) ≤ a ∧ a < (↑(List.length l) : Int)) ∧ isWord (0 : Int) = true ∧ (0 : Int) ≤ e2 ∧ ((0 : Int) < e2 → (0 : Int) ≤ (0 : Int) ∧ (0 : Int) + e2 ≤ at_ (lensOf l) a)) ∧
                    List.length ([] : List Int) ≤ (4001 : Nat) ∧ (0 : Int) = (0 : Int)) ∧
                  True) ∧
                True) ∧
              (Evn.full e0 = true → ([], (0 : Int), (9 : Int), ()) = e1) ∧
                (Evn.full e0 = false →
                  ((if Evn.many e0 = true then (1 : Int) else (0 : Int)) = (0 : Int) →
                      ((!decide ((↑(List.length e0.r) : Int) ≤ (4001 : Int))) = true → ([], (0 : Int), (9 : Int), ()) = e1) ∧
                        ((!decide ((↑(List.length e0.r) : Int) ≤ (4001 : Int))) = false →
                          (((↑(List.length e0.r) : Int) == (0 : Int)) = true →
                              (putBad e0.l (0 : Int) = true → ([], (0 : Int), (9 : Int), ()) = e1) ∧ (putBad e0.l (0 : Int) = false → (e0.l ++ e3, (↑(List.length e0.l) : Int), (0 : Int), ()) = e1)) ∧
                            (((↑(List.length e0.r) : Int) == (0 : Int)) = false →
                              ((((List.length e0.l ≤ (4000 : Nat) ∧ validOf e0.l = true ∧ e0.L = longOf e0.l) ∧
                                      (1 : Nat) ≤ List.length e0.r ∧
                                        List.length e0.r ≤ (4001 : Nat) ∧
                                          (∀ (a : Int),
                                              let e0 : Evn := e0;
                                              List.Mem a e0.r → (0 : Int) ≤ a ∧ a < (↑(List.length e0.l) : Int)) ∧
                                            sumL e0.L e0.r ≤ (1048576 : Int)) ∧
                                    True) ∧
                                  True) ∧
                                (joinBad e0.l e0.r = true → ([], (0 : Int), (9 : Int), ()) = e1) ∧
                                  (joinBad e0.l e0.r = false → ((joinAt e0.l e0.L e0.r).fst, (joinAt e0.l e0.L e0.r).snd.snd, (0 : Int), ()) = e1)))) ∧
                    ((if Evn.many e0 = true then (1 : Int) else (0 : Int)) ≠ (0 : Int) →
                      (if Evn.many e0 = true then (1 : Int) else (0 : Int)) = (1 : Int) ∧
                        ((!decide ((↑(List.length e0.r) : Int) ≤ (4001 : Int))) = true → ([], (0 : Int), (9 : Int), ()) = e1) ∧
                          ((!decide ((↑(List.length e0.r) : Int) ≤ (4001 : Int))) = false →
                            (((↑(List.length e0.r) : Int) == (0 : Int)) = true →
                                (putBad e0.l (0 : Int) = true → ([], (0 : Int), (9 : Int), ()) = e1) ∧
                                  (putBad e0.l (0 : Int) = false → (e0.l ++ e3, (↑(List.length e0.l) : Int), (0 : Int), ()) = e1)) ∧
                              (((↑(List.length e0.r) : Int) == (0 : Int)) = false →
                                ((((List.length e0.l ≤ (4000 : Nat) ∧ validOf e0.l = true ∧ e0.L = longOf e0.l) ∧
                                        (1 : Nat) ≤ List.length e0.r ∧
                                          List.length e0.r ≤ (4001 : Nat) ∧
                                            (∀ (a : Int),
                                                let e0 : Evn := e0;
                                                List.Mem a e0.r → (0 : Int) ≤ a ∧ a < (↑(List.length e0.l) : Int)) ∧
                                              sumL e0.L e0.r ≤ (1048576 : Int)) ∧
                                      True) ∧
                                    True) ∧
                                  (joinBad e0.l e0.r = true → ([], (0 : Int), (9 : Int), ()) = e1) ∧
                                    (joinBad e0.l e0.r = false → ((joinAt e0.l e0.L e0.r).fst, (joinAt e0.l e0.L e0.r).snd.snd, (0 : Int), ()) = e1))))))) := by kernel_rfl

end Go.Rp
end

section
set_option linter.unusedVariables false
set_option maxRecDepth 100000
open Go Go.VT
namespace Go.Rp

theorem pieces_eq (l : List Node) (L : List (Int × Int)) (a from_ many add : Int) : vc (EV []) noL Go.Proofs.Tryd.f52 cPieces (l, L, a, from_, many, add, ()) = (let e0 : List Node × List (Int × Int) × Int × Int × Int × Int × Unit := (l, L, a, from_, many, add, ());
  Small RU (Sigma.mk (Ty.slice (56 : Nat) (Ty.user (0 : Nat))) l) → e0 = e0) := by kernel_rfl

theorem flatW_eq (a from_ many add : Int) (l : List Node) (L : List (Int × Int)) (out : List Int) (st : Int) : vc ((EVy recYl (some cFlatY) []).set 79 ((cFlatW ghW).below mFlatW (mFlatW (a, from_, many, add, l, L, out, st, ())))) noL Go.Proofs.Tryd.f79 (cFlatW ghW) (a, from_, many, add, l, L, out, st, ()) = (let e5 : Int := (↑(List.length out) : Int) + many;
  let e4 : List Node × List (Int × Int) × List Int × Int × Unit := (l, L, out, st, ());
  let e3 : Nat := mFlatW (a, from_, many, add, e4);
  let e2 : Bool × List Node × List (Int × Int) × List Int × Int × Unit := (true, l, L, out ++ walkW l a from_ many add, st, ());
  let e1 : Node := List.getD l (Int.toNat a) (Node.mk (0 : Int) (0 : Int) (0 : Int) (0 : Int) (0 : Int) (0 : Int) []);
  let e0 : Int :=
  if
      (if IntKind.wrap IntKind.i64 (Option.getD (mget (fun (x y : Int) => x == y) L e1.a) (0 : Int) - from_) < many then
          IntKind.wrap IntKind.i64 (Option.getD (mget (fun (x y : Int) => x == y) L e1.a) (0 : Int) - from_)
        else many) >
        (0 : Int) then
    if IntKind.wrap IntKind.i64 (Option.getD (mget (fun (x y : Int) => x == y) L e1.a) (0 : Int) - from_) < many then
      IntKind.wrap IntKind.i64 (Option.getD (mget (fun (x y : Int) => x == y) L e1.a) (0 : Int) - from_)
    else many
  else (0 : Int);
  Small RU (Sigma.mk (Ty.slice (56 : Nat) (Ty.user (0 : Nat))) l) →
  Small RU (Sigma.mk (Ty.slice (3 : Nat) (Ty.int IntKind.i64)) out) →
    ((0 : Int) ≤ a ∧ a < (↑(List.length l) : Int)) ∧
      ((many == (0 : Int)) = true → (true, e4) = e2) ∧
        ((many == (0 : Int)) = false →
          ((e1.kind == (0 : Int)) = true →
              ((((((List.length l ≤ (4000 : Nat) ∧ validOf l = true ∧ L = longOf l) ∧
                          ((0 : Int) ≤ a ∧ a < (↑(List.length l) : Int)) ∧ isWord add = true ∧ (0 : Int) < many ∧ (0 : Int) ≤ from_ ∧ from_ + many ≤ (↑(List.length (nat_ l a).words) : Int)) ∧
                        e5 ≤ (1048576 : Int) ∧ st = (0 : Int)) ∧
                      True) ∧
                    l = l ∧ True) ∧
                  L = L ∧ True) ∧
                (true, l, L, out ++ rwords l a from_ many add, st, ()) = e2) ∧
            ((e1.kind == (0 : Int)) = false →
              ((e1.kind == (2 : Int)) = true →
                  ((((((((((List.length l ≤ (4000 : Nat) ∧ validOf l = true ∧ L = longOf l) ∧
                                      ((0 : Int) ≤ e1.a ∧ e1.a < (↑(List.length l) : Int)) ∧
                                        isWord add = true ∧
                                          (0 : Int) ≤ many ∧
                                            ((0 : Int) < many → (0 : Int) ≤ IntKind.wrap IntKind.i64 (from_ + e1.from_) ∧ IntKind.wrap IntKind.i64 (from_ + e1.from_) + many ≤ at_ (lensOf l) e1.a)) ∧
                                    e5 ≤ (1048576 : Int) ∧ st = (0 : Int)) ∧
                                  mFlatW (e1.a, IntKind.wrap IntKind.i64 (from_ + e1.from_), many, add, e4) < e3) ∧
                                True) ∧
                              True) ∧
                            l = l ∧ True) ∧
                          L = L ∧ True) ∧
                        True) ∧
                      True) ∧
                    (true, l, L, out ++ walkW l e1.a (IntKind.wrap IntKind.i64 (from_ + e1.from_)) many add, st, ()) = e2) ∧
                ((e1.kind == (2 : Int)) = false →
                  ((e1.kind == (3 : Int)) = true →
                      ((((((((((List.length l ≤ (4000 : Nat) ∧ validOf l = true ∧ L = longOf l) ∧
                                          ((0 : Int) ≤ e1.a ∧ e1.a < (↑(List.length l) : Int)) ∧
                                            isWord (IntKind.wrap IntKind.i64 (IntKind.wrap IntKind.i32 (IntKind.wrap IntKind.i64 (add + e1.n)))) = true ∧
                                              (0 : Int) ≤ many ∧ ((0 : Int) < many → (0 : Int) ≤ from_ ∧ from_ + many ≤ at_ (lensOf l) e1.a)) ∧
                                        e5 ≤ (1048576 : Int) ∧ st = (0 : Int)) ∧
                                      mFlatW (e1.a, from_, many, IntKind.wrap IntKind.i64 (IntKind.wrap IntKind.i32 (IntKind.wrap IntKind.i64 (add + e1.n))), e4) < e3) ∧
                                    True) ∧
                                  True) ∧
                                l = l ∧ True) ∧
                              L = L ∧ True) ∧
                            True) ∧
                          True) ∧
                        (true, l, L, out ++ walkW l e1.a from_ many (IntKind.wrap IntKind.i64 (IntKind.wrap IntKind.i32 (IntKind.wrap IntKind.i64 (add + e1.n)))), st, ()) = e2) ∧
                    ((e1.kind == (3 : Int)) = false →
                      (true = true →
                          ((((((((((List.length l ≤ (4000 : Nat) ∧ validOf l = true ∧ L = longOf l) ∧
                                              ((0 : Int) ≤ e1.a ∧ e1.a < (↑(List.length l) : Int)) ∧
                                                isWord add = true ∧ (0 : Int) ≤ e0 ∧ ((0 : Int) < e0 → (0 : Int) ≤ from_ ∧ from_ + e0 ≤ at_ (lensOf l) e1.a)) ∧
                                            (↑(List.length out) : Int) + e0 ≤ (1048576 : Int) ∧ st = (0 : Int)) ∧
                                          mFlatW (e1.a, from_, e0, add, e4) < e3) ∧
                                        True) ∧
                                      True) ∧
                                    l = l ∧ True) ∧
                                  L = L ∧ True) ∧
                                True) ∧
                              True) ∧
                            ((((((((((List.length l ≤ (4000 : Nat) ∧ validOf l = true ∧ L = longOf l) ∧
                                                ((0 : Int) ≤ e1.b ∧ e1.b < (↑(List.length l) : Int)) ∧
                                                  isWord add = true ∧
                                                    (0 : Int) ≤ IntKind.wrap IntKind.i64 (many - e0) ∧
                                                      ((0 : Int) < IntKind.wrap IntKind.i64 (many - e0) →
                                                        (0 : Int) ≤ IntKind.wrap IntKind.i64 (IntKind.wrap IntKind.i64 (from_ + e0) - Option.getD (mget (fun (x y : Int) => x == y) L e1.a) (0 : Int)) ∧
                                                          IntKind.wrap IntKind.i64 (IntKind.wrap IntKind.i64 (from_ + e0) - Option.getD (mget (fun (x y : Int) => x == y) L e1.a) (0 : Int)) +
                                                              IntKind.wrap IntKind.i64 (many - e0) ≤
                                                            at_ (lensOf l) e1.b)) ∧
                                              (↑(List.length (out ++ walkW l e1.a from_ e0 add)) : Int) + IntKind.wrap IntKind.i64 (many - e0) ≤ (1048576 : Int) ∧ st = (0 : Int)) ∧
                                            mFlatW
                                                (e1.b, IntKind.wrap IntKind.i64 (IntKind.wrap IntKind.i64 (from_ + e0) - Option.getD (mget (fun (x y : Int) => x == y) L e1.a) (0 : Int)),
                                                  IntKind.wrap IntKind.i64 (many - e0), add, l, L, out ++ walkW l e1.a from_ e0 add, st, ()) <
                                              e3) ∧
                                          True) ∧
                                        True) ∧
                                      l = l ∧ True) ∧
                                    L = L ∧ True) ∧
                                  True) ∧
                                True) ∧
                              (true && true, l, L,
                                  out ++ walkW l e1.a from_ e0 add ++
                                    walkW l e1.b (IntKind.wrap IntKind.i64 (IntKind.wrap IntKind.i64 (from_ + e0) - Option.getD (mget (fun (x y : Int) => x == y) L e1.a) (0 : Int)))
                                      (IntKind.wrap IntKind.i64 (many - e0)) add,
                                  st, ()) =
                                e2) ∧
                        (true = !true →
                          ((((((((((List.length l ≤ (4000 : Nat) ∧ validOf l = true ∧ L = longOf l) ∧
                                              ((0 : Int) ≤ e1.a ∧ e1.a < (↑(List.length l) : Int)) ∧
                                                isWord add = true ∧ (0 : Int) ≤ e0 ∧ ((0 : Int) < e0 → (0 : Int) ≤ from_ ∧ from_ + e0 ≤ at_ (lensOf l) e1.a)) ∧
                                            (↑(List.length out) : Int) + e0 ≤ (1048576 : Int) ∧ st = (0 : Int)) ∧
                                          mFlatW (e1.a, from_, e0, add, e4) < e3) ∧
                                        True) ∧
                                      True) ∧
                                    l = l ∧ True) ∧
                                  L = L ∧ True) ∧
                                True) ∧
                              True) ∧
                            (true && true, l, L, out ++ walkW l e1.a from_ e0 add, st, ()) = e2)))))) := by kernel_rfl

theorem flatK_eq (a from_ many add : Int) (l : List Node) (L : List (Int × Int)) (out : List Int) (st : Int) : vc (EVy walkYl (some cFlatY) [(79, cFlatW ghK)]) noL Go.Proofs.Tryd.f78 cFlatK (a, from_, many, add, l, L, out, st, ()) = (let e0 : List Node × List (Int × Int) × List Int × Int × Unit := (l, L, out ++ walkW l a from_ many add, st, ());
  Small RU (Sigma.mk (Ty.slice (56 : Nat) (Ty.user (0 : Nat))) l) →
  Small RU (Sigma.mk (Ty.slice (3 : Nat) (Ty.int IntKind.i64)) out) →
    (((((((((List.length l ≤ (4000 : Nat) ∧ validOf l = true ∧ L = longOf l) ∧
                      ((0 : Int) ≤ a ∧ a < (↑(List.length l) : Int)) ∧ isWord add = true ∧ (0 : Int) ≤ many ∧ ((0 : Int) < many → (0 : Int) ≤ from_ ∧ from_ + many ≤ at_ (lensOf l) a)) ∧
                    (↑(List.length out) : Int) + many ≤ (1048576 : Int) ∧ st = (0 : Int)) ∧
                  True) ∧
                True) ∧
              l = l ∧ True) ∧
            L = L ∧ True) ∧
          True) ∧
        True) ∧
      e0 = e0) := by kernel_rfl

theorem flatP_eq (l : List Node) (a : Int) : vcD (EVx (fun _ _ => []) itFlat [(49, cOpen), (52, cPieces)]) cC lFlat Go.Proofs.Tryd.f17 cFlatR (l, a, ()) = (let e2 : Bool := askedOf l [a] != (0 : Int);
  let e1 : List Int × Int × Unit := ((flatAt l a).fst, (flatAt l a).snd, ());
  let e0 : Int := Option.getD (mget (fun (x y : Int) => x == y) (longOf l) a) (0 : Int);
  Small RU (Sigma.mk (Ty.slice (56 : Nat) (Ty.user (0 : Nat))) l) →
  (e2 = true → ([], askedOf l [a], ()) = e1) ∧
    (e2 = false →
      ((l = l ∧ True) ∧ longOf l = longOf l ∧ True) ∧
        (∀ (xs : Int × Int × Int × Int × List Int × List Node × List (Int × Int) × Int × Unit),
            let e5 : Int := xs.snd.fst + xs.snd.snd.fst;
            let e4 : Int := xs.snd.snd.snd.fst;
            let e3 : Int := IntKind.wrap IntKind.i64 e5;
            let e2 : Node := Node.mk (0 : Int) (0 : Int) (0 : Int) (0 : Int) (0 : Int) (0 : Int) [];
            let e1 : List Int × List Node × List (Int × Int) × Int × Unit := xs.snd.snd.snd.snd;
            let e0 : List Int := List.drop (Int.toNat xs.snd.fst) (List.take (Int.toNat e3) (List.getD e1.snd.fst (Int.toNat xs.fst) e2).words);
            ((List.length e1.snd.fst ≤ (4000 : Nat) ∧ validOf e1.snd.fst = true ∧ e1.snd.snd.fst = longOf e1.snd.fst) ∧
                  ((0 : Int) ≤ xs.fst ∧ xs.fst < (↑(List.length e1.snd.fst) : Int)) ∧
                    isWord e4 = true ∧ (0 : Int) < xs.snd.snd.fst ∧ (0 : Int) ≤ xs.snd.fst ∧ e5 ≤ (↑(List.length (nat_ e1.snd.fst xs.fst).words) : Int)) ∧
                (↑(List.length e1.fst) : Int) + xs.snd.snd.fst ≤ (1048576 : Int) ∧ e1.snd.snd.snd.fst = (0 : Int) →
              Small RU (Sigma.mk (Ty.slice (3 : Nat) (Ty.int IntKind.i64)) e1.fst) →
                Small RU (Sigma.mk (Ty.slice (56 : Nat) (Ty.user (0 : Nat))) e1.snd.fst) →
                  e1.snd.snd.snd.fst = (0 : Int) ∧
                    ((0 : Int) ≤ xs.fst ∧ xs.fst < (↑(List.length e1.snd.fst) : Int)) ∧
                      ((0 : Int) ≤ xs.snd.fst ∧ xs.snd.fst ≤ e3 ∧ e3 ≤ (↑(List.length (List.getD e1.snd.fst (Int.toNat xs.fst) e2).words) : Int)) ∧
                        (∃ (p : Int × List Int × Unit),
                            l = l ∧
                              a = a ∧
                                xs.fst = xs.fst ∧
                                  xs.snd.fst = xs.snd.fst ∧
                                    xs.snd.snd.fst = xs.snd.snd.fst ∧
                                      e4 = e4 ∧
                                        e0 = e0 ∧
                                          (↑(List.length e0) : Int) = (↑(List.length e0) : Int) ∧
                                            (0 : Int) = p.fst ∧
                                              e1.fst = p.snd.fst ∧
                                                e1.snd.fst = e1.snd.fst ∧
                                                  e1.snd.snd.fst = e1.snd.snd.fst ∧
                                                    xs.fst = xs.fst ∧
                                                      xs.snd.fst = xs.snd.fst ∧
                                                        xs.snd.snd.fst = xs.snd.snd.fst ∧
                                                          e4 = e4 ∧
                                                            (0 : Int) ≤ p.fst ∧
                                                              p.fst ≤ (↑(List.length e0) : Int) ∧
                                                                p.snd.fst = e1.fst ++ List.map (fun (n : Int) => word (w64 (n + e4))) (List.take (Int.toNat p.fst) e0)) ∧
                          ∀ (p : Int × List Int × Unit),
                            let e2_1 : Int := e4;
                            let e1 : List Int × List Node × List (Int × Int) × Int × Unit := e1;
                            let e0 : List Int := List.drop (Int.toNat xs.snd.fst) (List.take (Int.toNat e3) (List.getD e1.snd.fst (Int.toNat xs.fst) e2).words);
                            (0 : Int) ≤ p.fst ∧ p.fst ≤ (↑(List.length e0) : Int) ∧ p.snd.fst = e1.fst ++ List.map (fun (n : Int) => word (w64 (n + e2_1))) (List.take (Int.toNat p.fst) e0) →
                              (decide (p.fst < (↑(List.length e0) : Int)) = true →
                                  ((0 : Int) ≤ p.fst ∧ p.fst < (↑(List.length e0) : Int)) ∧
                                    (List.length p.snd.fst +
                                            List.length [IntKind.wrap IntKind.i64 (IntKind.wrap IntKind.i32 (IntKind.wrap IntKind.i64 (List.getD e0 (Int.toNat p.fst) (0 : Int) + e2_1)))]) *
                                          (8 : Nat) ≤
                                        (140737488355328 : Nat) ∧
                                      ∃ (p' : Int × List Int × Unit),
                                        l = l ∧
                                          a = a ∧
                                            xs.fst = xs.fst ∧
                                              xs.snd.fst = xs.snd.fst ∧
                                                xs.snd.snd.fst = xs.snd.snd.fst ∧
                                                  e2_1 = e2_1 ∧
                                                    e0 = e0 ∧
                                                      (↑(List.length e0) : Int) = (↑(List.length e0) : Int) ∧
                                                        IntKind.wrap IntKind.i64 (p.fst + (1 : Int)) = p'.fst ∧
                                                          p.snd.fst ++
                                                                [IntKind.wrap IntKind.i64 (IntKind.wrap IntKind.i32 (IntKind.wrap IntKind.i64 (List.getD e0 (Int.toNat p.fst) (0 : Int) + e2_1)))] =
                                                              p'.snd.fst ∧
                                                            e1.snd.fst = e1.snd.fst ∧
                                                              e1.snd.snd.fst = e1.snd.snd.fst ∧
                                                                xs.fst = xs.fst ∧
                                                                  xs.snd.fst = xs.snd.fst ∧
                                                                    xs.snd.snd.fst = xs.snd.snd.fst ∧
                                                                      e2_1 = e2_1 ∧
                                                                        ((0 : Int) ≤ p'.fst ∧
                                                                            p'.fst ≤ (↑(List.length e0) : Int) ∧
                                                                              p'.snd.fst = e1.fst ++ List.map (fun (n : Int) => word (w64 (n + e2_1))) (List.take (Int.toNat p'.fst) e0)) ∧
                                                                          List.length e0 - Int.toNat p'.fst < List.length e0 - Int.toNat p.fst) ∧
                                (decide (p.fst < (↑(List.length e0) : Int)) = false →
                                  (true, p.snd.fst, e1.snd.fst, e1.snd.snd.fst, (0 : Int), ()) =
                                    (true, e1.fst ++ rwords e1.snd.fst xs.fst xs.snd.fst xs.snd.snd.fst e2_1, e1.snd.fst, e1.snd.snd.fst, e1.snd.snd.snd.fst, ()))) ∧
          (((((((List.length l ≤ (4000 : Nat) ∧ validOf l = true ∧ longOf l = longOf l) ∧
                        ((0 : Int) ≤ a ∧ a < (↑(List.length l) : Int)) ∧ isWord (0 : Int) = true ∧ (0 : Int) ≤ e0 ∧ ((0 : Int) < e0 → (0 : Int) ≤ (0 : Int) ∧ (0 : Int) + e0 ≤ at_ (lensOf l) a)) ∧
                      (↑(List.length ([] : List Int)) : Int) + e0 ≤ (1048576 : Int) ∧ (0 : Int) = (0 : Int)) ∧
                    True) ∧
                  l = l ∧ True) ∧
                longOf l = longOf l ∧ True) ∧
              True) ∧
            (0 : Int) = (0 : Int) ∧ ([] ++ walkW l a (0 : Int) e0 (0 : Int), (0 : Int), ()) = e1)) := by kernel_rfl

end Go.Rp
end

section
set_option linter.unusedVariables false
set_option maxRecDepth 100000
open Go Go.VT
namespace Go.Rp

theorem out_eq (n : Int) (l : List Node) (L : List (Int × Int)) (a : Int) : vc (EV [(56, cHas)]) noL Go.Proofs.Tryd.f55 cOut (n, l, L, a, ()) = (Small RU (Sigma.mk (Ty.slice (56 : Nat) (Ty.user (0 : Nat))) l) →
  (!(decide ((0 : Int) ≤ n) && decide (n < Option.getD (mget (fun (x y : Int) => x == y) L a) (0 : Int))), l, L, a, ()) = (outB L a n, l, L, a, ())) := by kernel_rfl

theorem idxO_eq (r : List Int) (l : List Node) (L : List (Int × Int)) (a : Int) : vc (EV [(55, cOut)]) (lIdxO (outB L a) r) Go.Proofs.Tryd.f80 cIdxO (r, l, L, a, ()) = (Small RU (Sigma.mk (Ty.slice (3 : Nat) (Ty.int IntKind.i64)) r) →
  Small RU (Sigma.mk (Ty.slice (56 : Nat) (Ty.user (0 : Nat))) l) →
    (∃ (p : Int × Unit),
        r = r ∧
          (↑(List.length r) : Int) = (↑(List.length r) : Int) ∧
            (0 : Int) = p.fst ∧ a = a ∧ l = l ∧ L = L ∧ (0 : Int) ≤ p.fst ∧ p.fst ≤ (↑(List.length r) : Int) ∧ (List.all (List.take (Int.toNat p.fst) r) fun (n : Int) => !outB L a n) = true) ∧
      ∀ (p : Int × Unit),
        let e2 : Bool := decide (p.fst < (↑(List.length r) : Int));
        let e1 : Bool := outB L a (List.getD r (Int.toNat p.fst) (0 : Int));
        let e0 : Int × List Node × List (Int × Int) × Int × Unit := (firstAt (outB L a) r (0 : Int), l, L, a, ());
        (0 : Int) ≤ p.fst ∧ p.fst ≤ (↑(List.length r) : Int) ∧ (List.all (List.take (Int.toNat p.fst) r) fun (n : Int) => !outB L a n) = true →
          (e2 = true →
              ((0 : Int) ≤ p.fst ∧ p.fst < (↑(List.length r) : Int)) ∧
                (((True ∧ a = a ∧ True) ∧ l = l ∧ True) ∧ L = L ∧ True) ∧
                  (e1 = true → (p.fst, l, L, a, ()) = e0) ∧
                    (e1 = false →
                      ∃ (p' : Int × Unit),
                        r = r ∧
                          (↑(List.length r) : Int) = (↑(List.length r) : Int) ∧
                            IntKind.wrap IntKind.i64 (p.fst + (1 : Int)) = p'.fst ∧
                              a = a ∧
                                l = l ∧
                                  L = L ∧
                                    ((0 : Int) ≤ p'.fst ∧ p'.fst ≤ (↑(List.length r) : Int) ∧ (List.all (List.take (Int.toNat p'.fst) r) fun (n : Int) => !outB L a n) = true) ∧
                                      List.length r - Int.toNat p'.fst < List.length r - Int.toNat p.fst)) ∧
            (e2 = false → ((-1 : Int), l, L, a, ()) = e0)) := by kernel_rfl

theorem anyO_eq (r : List Int) (l : List Node) (L : List (Int × Int)) (a : Int) : vc (EV [(80, cIdxO)]) noL Go.Proofs.Tryd.f54 cAnyO (r, l, L, a, ()) = (Small RU (Sigma.mk (Ty.slice (3 : Nat) (Ty.int IntKind.i64)) r) →
  Small RU (Sigma.mk (Ty.slice (56 : Nat) (Ty.user (0 : Nat))) l) →
    (((True ∧ a = a ∧ True) ∧ l = l ∧ True) ∧ L = L ∧ True) ∧ (decide (firstAt (outB L a) r (0 : Int) ≥ (0 : Int)), l, L, a, ()) = (List.any r (outB L a), l, L, a, ())) := by kernel_rfl

theorem gatherP_eq (l : List Node) (a : Int) (r : List Int) : vcD (EV [(49, cOpen), (53, cMust), (54, cAnyO), (57, cAt)]) cC (lGatherP l a r) Go.Proofs.Tryd.f19 cGatherR (l, a, r, ()) = (let e3 : Bool := askedOf l [a] != (0 : Int);
  let e2 : Bool := !!List.any r (outB (longOf l) a);
  let e1 : Bool := !decide ((↑(List.length r) : Int) ≤ (1048576 : Int));
  let e0 : List Int × Int × Unit := ((gatherAt l a r).fst, (gatherAt l a r).snd, ());
  Small RU (Sigma.mk (Ty.slice (56 : Nat) (Ty.user (0 : Nat))) l) →
  Small RU (Sigma.mk (Ty.slice (3 : Nat) (Ty.int IntKind.i64)) r) →
    (e3 = true → ([], askedOf l [a], ()) = e0) ∧
      (e3 = false →
        (e1 = true → ([], (3 : Int), ()) = e0) ∧
          (e1 = false →
            (((True ∧ a = a ∧ True) ∧ l = l ∧ True) ∧ longOf l = longOf l ∧ True) ∧
              (e2 = true → ([], (2 : Int), ()) = e0) ∧
                (e2 = false →
                  (∃ (p : Int × List Int × Unit),
                      l = l ∧
                        a = a ∧
                          r = r ∧
                            r = r ∧
                              (↑(List.length r) : Int) = (↑(List.length r) : Int) ∧
                                (0 : Int) = p.fst ∧
                                  l = l ∧
                                    a = a ∧
                                      (0 : Int) = (0 : Int) ∧
                                        [a] = [a] ∧
                                          l = l ∧
                                            longOf l = longOf l ∧
                                              [] = p.snd.fst ∧
                                                (0 : Int) ≤ p.fst ∧ p.fst ≤ (↑(List.length r) : Int) ∧ p.snd.fst = List.map (fun (q : Int) => (wayAt l a q).snd) (List.take (Int.toNat p.fst) r)) ∧
                    ∀ (p : Int × List Int × Unit),
                      let e1 : Bool := decide (p.fst < (↑(List.length r) : Int));
                      let e0_1 : Int := List.getD r (Int.toNat p.fst) (0 : Int);
                      (0 : Int) ≤ p.fst ∧ p.fst ≤ (↑(List.length r) : Int) ∧ p.snd.fst = List.map (fun (q : Int) => (wayAt l a q).snd) (List.take (Int.toNat p.fst) r) →
                        (e1 = true →
                            ((0 : Int) ≤ p.fst ∧ p.fst < (↑(List.length r) : Int)) ∧
                              ((((List.length l ≤ (4000 : Nat) ∧ validOf l = true ∧ longOf l = longOf l) ∧
                                      ((0 : Int) ≤ a ∧ a < (↑(List.length l) : Int)) ∧ (0 : Int) ≤ e0_1 ∧ e0_1 < at_ (lensOf l) a) ∧
                                    l = l ∧ True) ∧
                                  longOf l = longOf l ∧ True) ∧
                                (List.length p.snd.fst + List.length [(wayAt l a e0_1).snd]) * (8 : Nat) ≤ (140737488355328 : Nat) ∧
                                  ∃ (p' : Int × List Int × Unit),
                                    l = l ∧
                                      a = a ∧
                                        r = r ∧
                                          r = r ∧
                                            (↑(List.length r) : Int) = (↑(List.length r) : Int) ∧
                                              IntKind.wrap IntKind.i64 (p.fst + (1 : Int)) = p'.fst ∧
                                                l = l ∧
                                                  a = a ∧
                                                    (0 : Int) = (0 : Int) ∧
                                                      [a] = [a] ∧
                                                        l = l ∧
                                                          longOf l = longOf l ∧
                                                            p.snd.fst ++ [(wayAt l a e0_1).snd] = p'.snd.fst ∧
                                                              ((0 : Int) ≤ p'.fst ∧
                                                                  p'.fst ≤ (↑(List.length r) : Int) ∧ p'.snd.fst = List.map (fun (q : Int) => (wayAt l a q).snd) (List.take (Int.toNat p'.fst) r)) ∧
                                                                List.length r - Int.toNat p'.fst < List.length r - Int.toNat p.fst) ∧
                          (e1 = false → (p.snd.fst, (0 : Int), ()) = e0))))) := by kernel_rfl

theorem needed_eq (x1 x2 x3 x4 x5 x6 : Int) (w : List Int) : vc (EV []) noL Go.Proofs.Tryd.f51 cNeeded (x1, x2, x3, x4, x5, x6, w, ()) = (let e0 : Node := Node.mk x1 x2 x3 x4 x5 x6 w;
  Small RU (Sigma.mk (Ty.slice (3 : Nat) (Ty.int IntKind.i64)) w) → ((x1 == (0 : Int)) = true → (none, ()) = (needOf e0, ())) ∧ ((x1 == (0 : Int)) = false → (some e0, ()) = (needOf e0, ()))) := by kernel_rfl

theorem inner_eq (x1 x2 x3 x4 x5 x6 : Int) (w : List Int) : vc (EV []) noL Go.Proofs.Tryd.f100 cInner (x1, x2, x3, x4, x5, x6, w, ()) = (let e0 : List Int × Unit := (partsOf (Node.mk x1 x2 x3 x4 x5 x6 w), ());
  Small RU (Sigma.mk (Ty.slice (3 : Nat) (Ty.int IntKind.i64)) w) → ((x1 == (1 : Int)) = true → ([x2, x3], ()) = e0) ∧ ((x1 == (1 : Int)) = false → ([x2], ()) = e0)) := by kernel_rfl

theorem depthP_eq (l : List Node) (a : Int) : vcD (EVx invR noIt [(49, cOpen), (51, cNeeded)]) cC (lDepthP l a) Go.Proofs.Tryd.f15 cDepthR (l, a, ()) = (let e3 : Bool := askedOf l [a] != (0 : Int);
  let e2 : Int × Int × Unit := ((depthAt l a).fst, (depthAt l a).snd, ());
  let e1 : Int := IntKind.wrap IntKind.i64 (a + (1 : Int));
  let e0 : List Int := List.replicate (Int.toNat e1) (0 : Int);
  Small RU (Sigma.mk (Ty.slice (56 : Nat) (Ty.user (0 : Nat))) l) →
  (e3 = true → ((0 : Int), askedOf l [a], ()) = e2) ∧
    (e3 = false →
      ((0 : Int) ≤ e1 ∧ e1 * (↑(8 : Nat) : Int) ≤ (↑(140737488355328 : Nat) : Int)) ∧
        (∃ (p : Int × List Int × Unit),
            l = l ∧
              a = a ∧
                (0 : Int) = (0 : Int) ∧
                  (↑(List.length e0) : Int) = (↑(List.length e0) : Int) ∧
                    (0 : Int) = p.fst ∧
                      l = l ∧
                        (0 : Int) = (0 : Int) ∧
                          [a] = [a] ∧
                            l = l ∧
                              longOf l = longOf l ∧
                                e0 = p.snd.fst ∧
                                  (0 : Int) ≤ p.fst ∧ p.fst ≤ a + (1 : Int) ∧ p.snd.fst = depthsOf (List.take (Int.toNat p.fst) l) ++ List.replicate (Int.toNat (a + (1 : Int) - p.fst)) (0 : Int)) ∧
          ∀ (p : Int × List Int × Unit),
            let e4 : List Int := List.replicate (Int.toNat (a - p.1)) (0 : Int);
            let e3 : List Int := partsN (needOf (nat_ l p.1));
            let e2_1 : List Int := depthsOf (List.take (Int.toNat p.1) l);
            let e1 : Int := (↑(List.length e0) : Int);
            let e0 : Node := List.getD l (Int.toNat p.fst) (Node.mk (0 : Int) (0 : Int) (0 : Int) (0 : Int) (0 : Int) (0 : Int) []);
            (0 : Int) ≤ p.fst ∧ p.fst ≤ a + (1 : Int) ∧ p.snd.fst = depthsOf (List.take (Int.toNat p.fst) l) ++ List.replicate (Int.toNat (a + (1 : Int) - p.fst)) (0 : Int) →
              (decide (p.fst < e1) = true →
                  ((0 : Int) ≤ p.fst ∧ p.fst < (↑(List.length l) : Int)) ∧
                    True ∧
                      (∃ (p_1 : Int × List Int × Unit),
                          l = l ∧
                            a = a ∧
                              (0 : Int) = (0 : Int) ∧
                                e1 = e1 ∧
                                  p.fst = p.fst ∧
                                    decide (p.fst < e1) = decide (p.fst < e1) ∧
                                      p.fst = p.fst ∧
                                        p.fst = p.fst ∧
                                          partsN (needOf (Node.mk e0.kind e0.a e0.b e0.from_ e0.len e0.n e0.words)) = partsN (needOf (Node.mk e0.kind e0.a e0.b e0.from_ e0.len e0.n e0.words)) ∧
                                            (↑(List.length (partsN (needOf (Node.mk e0.kind e0.a e0.b e0.from_ e0.len e0.n e0.words)))) : Int) =
                                                (↑(List.length (partsN (needOf (Node.mk e0.kind e0.a e0.b e0.from_ e0.len e0.n e0.words)))) : Int) ∧
                                              (0 : Int) = p_1.fst ∧
                                                l = l ∧
                                                  (0 : Int) = (0 : Int) ∧
                                                    [a] = [a] ∧
                                                      l = l ∧
                                                        longOf l = longOf l ∧
                                                          p.snd.fst = p_1.snd.fst ∧
                                                            (0 : Int) ≤ p_1.fst ∧ p_1.fst ≤ (↑(List.length e3) : Int) ∧ p_1.snd.fst = e2_1 ++ maxAt e2_1 (List.take (Int.toNat p_1.fst) e3) :: e4) ∧
                        ∀ (p_1 : Int × List Int × Unit),
                          let e6 : List Int := e4;
                          let e5 : Int := List.getD p_1.snd.fst (Int.toNat p.fst) (0 : Int);
                          let e4 : List Int := e2_1;
                          let e3 : List Int := e3;
                          let e2 : Int := e1;
                          let e1 : Node := e0;
                          let e0 : List Int := partsN (needOf (Node.mk e1.kind e1.a e1.b e1.from_ e1.len e1.n e1.words));
                          (0 : Int) ≤ p_1.fst ∧ p_1.fst ≤ (↑(List.length e3) : Int) ∧ p_1.snd.fst = e4 ++ maxAt e4 (List.take (Int.toNat p_1.fst) e3) :: e6 →
                            (decide (p_1.fst < (↑(List.length e0) : Int)) = true →
                                ((0 : Int) ≤ p_1.fst ∧ p_1.fst < (↑(List.length e0) : Int)) ∧
                                  ((0 : Int) ≤ p.fst ∧ p.fst < (↑(List.length p_1.snd.fst) : Int)) ∧
                                    ((0 : Int) ≤ List.getD e0 (Int.toNat p_1.fst) (0 : Int) ∧ List.getD e0 (Int.toNat p_1.fst) (0 : Int) < (↑(List.length p_1.snd.fst) : Int)) ∧
                                      ((0 : Int) ≤ p.fst ∧ p.fst < (↑(List.length p_1.snd.fst) : Int)) ∧
                                        ∃ (p' : Int × List Int × Unit),
                                          l = l ∧
                                            a = a ∧
                                              (0 : Int) = (0 : Int) ∧
                                                e2 = e2 ∧
                                                  p.fst = p.fst ∧
                                                    decide (p.fst < e2) = decide (p.fst < e2) ∧
                                                      p.fst = p.fst ∧
                                                        p.fst = p.fst ∧
                                                          e0 = e0 ∧
                                                            (↑(List.length e0) : Int) = (↑(List.length e0) : Int) ∧
                                                              IntKind.wrap IntKind.i64 (p_1.fst + (1 : Int)) = p'.fst ∧
                                                                l = l ∧
                                                                  (0 : Int) = (0 : Int) ∧
                                                                    [a] = [a] ∧
                                                                      l = l ∧
                                                                        longOf l = longOf l ∧
                                                                          List.set p_1.snd.fst (Int.toNat p.fst)
                                                                                (if List.getD p_1.snd.fst (Int.toNat (List.getD e0 (Int.toNat p_1.fst) (0 : Int))) (0 : Int) > e5 then
                                                                                  List.getD p_1.snd.fst (Int.toNat (List.getD e0 (Int.toNat p_1.fst) (0 : Int))) (0 : Int)
                                                                                else e5) =
                                                                              p'.snd.fst ∧
                                                                            ((0 : Int) ≤ p'.fst ∧
                                                                                p'.fst ≤ (↑(List.length e3) : Int) ∧ p'.snd.fst = e4 ++ maxAt e4 (List.take (Int.toNat p'.fst) e3) :: e6) ∧
                                                                              List.length e3 - Int.toNat p'.fst < List.length e3 - Int.toNat p_1.fst) ∧
                              (decide (p_1.fst < (↑(List.length e0) : Int)) = false →
                                ((0 : Int) ≤ p.fst ∧ p.fst < (↑(List.length p_1.snd.fst) : Int)) ∧
                                  ((0 : Int) ≤ p.fst ∧ p.fst < (↑(List.length p_1.snd.fst) : Int)) ∧
                                    ∃ (p' : Int × List Int × Unit),
                                      l = l ∧
                                        a = a ∧
                                          (0 : Int) = (0 : Int) ∧
                                            e2 = e2 ∧
                                              IntKind.wrap IntKind.i64 (p.fst + (1 : Int)) = p'.fst ∧
                                                l = l ∧
                                                  (0 : Int) = (0 : Int) ∧
                                                    [a] = [a] ∧
                                                      l = l ∧
                                                        longOf l = longOf l ∧
                                                          List.set p_1.snd.fst (Int.toNat p.fst) (IntKind.wrap IntKind.i64 (e5 + (1 : Int))) = p'.snd.fst ∧
                                                            ((0 : Int) ≤ p'.fst ∧
                                                                p'.fst ≤ a + (1 : Int) ∧
                                                                  p'.snd.fst = depthsOf (List.take (Int.toNat p'.fst) l) ++ List.replicate (Int.toNat (a + (1 : Int) - p'.fst)) (0 : Int)) ∧
                                                              Int.toNat (a + (1 : Int)) - Int.toNat p'.fst < Int.toNat (a + (1 : Int)) - Int.toNat p.fst)) ∧
                (decide (p.fst < e1) = false → ((0 : Int) ≤ a ∧ a < (↑(List.length p.snd.fst) : Int)) ∧ (List.getD p.snd.fst (Int.toNat a) (0 : Int), (0 : Int), ()) = e2))) := by kernel_rfl

end Go.Rp
end

section
set_option linter.unusedVariables false
set_option maxRecDepth 100000
open Go Go.VT
namespace Go.Rp

theorem checkP_eq (l : List Node) : vcD (EV [(49, cOpen)]) cC noL Go.Proofs.Tryd.f33 cCheck (l, ()) = (Small RU (Sigma.mk (Ty.slice (56 : Nat) (Ty.user (0 : Nat))) l) →
  ((askedOf l [] != (0 : Int)) = true → (askedOf l [], ()) = (checkOf l, ())) ∧ ((askedOf l [] != (0 : Int)) = false → ((0 : Int), ()) = (checkOf l, ()))) := by kernel_rfl

theorem lenP_eq (l : List Node) (a : Int) : vcD (EV [(49, cOpen)]) cC noL Go.Proofs.Tryd.f13 cLenR (l, a, ()) = (let e1 : Bool := askedOf l [a] != (0 : Int);
  let e0 : Int × Int × Unit := ((lenAt l a).fst, (lenAt l a).snd, ());
  Small RU (Sigma.mk (Ty.slice (56 : Nat) (Ty.user (0 : Nat))) l) →
  (e1 = true → ((0 : Int), askedOf l [a], ()) = e0) ∧ (e1 = false → (Option.getD (mget (fun (x y : Int) => x == y) (longOf l) a) (0 : Int), (0 : Int), ()) = e0)) := by kernel_rfl

theorem costP_eq (l : List Node) (a p : Int) : vcD (EV [(49, cOpen), (53, cMust), (56, cHas), (57, cAt)]) cC noL Go.Proofs.Tryd.f21 cCostR (l, a, p, ()) = (let e2 : Bool := askedOf l [a] != (0 : Int);
  let e1 : Bool := !(decide ((0 : Int) ≤ p) && decide (p < Option.getD (mget (fun (x y : Int) => x == y) (longOf l) a) (0 : Int)));
  let e0 : Int × Int × Unit := ((costAt l a p).fst, (costAt l a p).snd, ());
  Small RU (Sigma.mk (Ty.slice (56 : Nat) (Ty.user (0 : Nat))) l) →
  (e2 = true → ((0 : Int), askedOf l [a], ()) = e0) ∧
    (e2 = false →
      (e1 = true → ((0 : Int), (2 : Int), ()) = e0) ∧
        (e1 = false →
          ((((List.length l ≤ (4000 : Nat) ∧ validOf l = true ∧ longOf l = longOf l) ∧ ((0 : Int) ≤ a ∧ a < (↑(List.length l) : Int)) ∧ (0 : Int) ≤ p ∧ p < at_ (lensOf l) a) ∧ l = l ∧ True) ∧
              longOf l = longOf l ∧ True) ∧
            ((wayAt l a p).fst, (0 : Int), ()) = e0))) := by kernel_rfl

theorem wordsP_eq (l : List Node) (w : List Int) : vcD (EV [(49, cOpen), (53, cMust), (54, cAnyW 67), (69, cMade), (70, cClone)]) cC noL Go.Proofs.Tryd.f29 cWordsR (l, w, ()) = (let e2 : Bool := putBad l (↑(List.length w) : Int);
  let e1 : Bool := !!List.any w fun (n : den RU.T i64) => !isWord n;
  let e0 : List Node × Int × Int × Unit := ((wordsOf l w).fst, (wordsOf l w).snd.fst, (wordsOf l w).snd.snd, ());
  Small RU (Sigma.mk (Ty.slice (56 : Nat) (Ty.user (0 : Nat))) l) →
  Small RU (Sigma.mk (Ty.slice (3 : Nat) (Ty.int IntKind.i64)) w) →
    ((askedOf l [] != (0 : Int)) = true → ([], (0 : Int), askedOf l [], ()) = e0) ∧
      ((askedOf l [] != (0 : Int)) = false →
        (e1 = true → ([], (0 : Int), (2 : Int), ()) = e0) ∧
          (e1 = false →
            List.length w ≤ (17592186044416 : Nat) ∧
              (List.length l ≤ (4000000 : Nat) ∧ ∀ (x : Node), List.Mem x l → List.length x.words ≤ (4000000 : Nat)) ∧
                (e2 = true → ([], (0 : Int), (9 : Int), ()) = e0) ∧
                  (e2 = false → (l ++ [Node.mk (0 : Int) (0 : Int) (0 : Int) (0 : Int) (0 : Int) (0 : Int) w], (↑(List.length l) : Int), (0 : Int), ()) = e0)))) := by kernel_rfl

theorem catP_eq (l : List Node) (a b : Int) : vcD (EV [(49, cOpen), (69, cMade)]) cC noL Go.Proofs.Tryd.f31 cCatR (l, a, b, ()) = (let e2 : Bool := askedOf l [a, b] != (0 : Int);
  let e1 : Bool := putBad l (IntKind.wrap IntKind.i64 (Option.getD (mget (fun (x y : Int) => x == y) (longOf l) a) (0 : Int) + Option.getD (mget (fun (x y : Int) => x == y) (longOf l) b) (0 : Int)));
  let e0 : List Node × Int × Int × Unit := ((catOf l a b).fst, (catOf l a b).snd.fst, (catOf l a b).snd.snd, ());
  Small RU (Sigma.mk (Ty.slice (56 : Nat) (Ty.user (0 : Nat))) l) →
  (e2 = true → ([], (0 : Int), askedOf l [a, b], ()) = e0) ∧
    (e2 = false →
      (List.length l ≤ (4000000 : Nat) ∧ ∀ (x : Node), List.Mem x l → List.length x.words ≤ (4000000 : Nat)) ∧
        (e1 = true → ([], (0 : Int), (9 : Int), ()) = e0) ∧ (e1 = false → (l ++ [Node.mk (1 : Int) a b (0 : Int) (0 : Int) (0 : Int) []], (↑(List.length l) : Int), (0 : Int), ()) = e0))) := by kernel_rfl

theorem partP_eq (l : List Node) (a b c : Int) : vcD (EV [(49, cOpen), (53, cMust), (69, cMade)]) cC noL Go.Proofs.Tryd.f35 cPartR (l, a, b, c, ()) = (let e4 : Bool := askedOf l [a] != (0 : Int);
  let e3 : Int × Int := (partOf l a b c).snd;
  let e2 : Int := Option.getD (mget (fun (x y : Int) => x == y) (longOf l) a) (0 : Int);
  let e1 : Bool := !(decide (c ≥ (0 : Int)) && decide (c ≤ e2) && decide (b ≥ (0 : Int)) && decide (b ≤ IntKind.wrap IntKind.i64 (e2 - c)));
  let e0 : List Node × Int × Int × Unit := ((partOf l a b c).fst, e3.fst, e3.snd, ());
  Small RU (Sigma.mk (Ty.slice (56 : Nat) (Ty.user (0 : Nat))) l) →
  (e4 = true → ([], (0 : Int), askedOf l [a], ()) = e0) ∧
    (e4 = false →
      (e1 = true → ([], (0 : Int), (2 : Int), ()) = e0) ∧
        (e1 = false →
          (List.length l ≤ (4000000 : Nat) ∧ ∀ (x : Node), List.Mem x l → List.length x.words ≤ (4000000 : Nat)) ∧
            (putBad l c = true → ([], (0 : Int), (9 : Int), ()) = e0) ∧ (putBad l c = false → (l ++ [Node.mk (2 : Int) a (0 : Int) b c (0 : Int) []], (↑(List.length l) : Int), (0 : Int), ()) = e0)))) := by kernel_rfl

theorem offP_eq (l : List Node) (a b : Int) : vcD (EV [(49, cOpen), (53, cMust), (68, cIsW), (69, cMade)]) cC noL Go.Proofs.Tryd.f37 cOffR (l, a, b, ()) = (let e2 : Bool := askedOf l [a] != (0 : Int);
  let e1 : Bool := putBad l (Option.getD (mget (fun (x y : Int) => x == y) (longOf l) a) (0 : Int));
  let e0 : List Node × Int × Int × Unit := ((offOf l a b).fst, (offOf l a b).snd.fst, (offOf l a b).snd.snd, ());
  Small RU (Sigma.mk (Ty.slice (56 : Nat) (Ty.user (0 : Nat))) l) →
  (e2 = true → ([], (0 : Int), askedOf l [a], ()) = e0) ∧
    (e2 = false →
      ((!isWord b) = true → ([], (0 : Int), (2 : Int), ()) = e0) ∧
        ((!isWord b) = false →
          (List.length l ≤ (4000000 : Nat) ∧ ∀ (x : Node), List.Mem x l → List.length x.words ≤ (4000000 : Nat)) ∧
            (e1 = true → ([], (0 : Int), (9 : Int), ()) = e0) ∧ (e1 = false → (l ++ [Node.mk (3 : Int) a (0 : Int) (0 : Int) (0 : Int) b []], (↑(List.length l) : Int), (0 : Int), ()) = e0)))) := by kernel_rfl

end Go.Rp
end

section
set_option linter.unusedVariables false
set_option maxRecDepth 100000
open Go Go.VT
namespace Go.Rp

theorem clone_eq (l : List Int) : vc (EV []) noL Go.Proofs.Tryd.f70 cClone (l, ()) = (Small RU (Sigma.mk (Ty.slice (3 : Nat) (Ty.int IntKind.i64)) l) →
  ∀ (b : Bool),
    let e0 : Bool := bif true then b else !b;
    (b = true → l = []) → (e0 = true → ([], ()) = (l, ())) ∧ (e0 = false → ((0 : Nat) + List.length l) * (8 : Nat) ≤ (140737488355328 : Nat) ∧ ([] ++ l, ()) = (l, ()))) := by kernel_rfl

theorem ownS_eq (l : List Node) (L : List (Int × Int)) : vc (EV [(70, cClone)]) (lOwnS l) Go.Proofs.Tryd.f59 cOwnS (l, L, ()) = (let e1 : Node := Node.mk (0 : Int) (0 : Int) (0 : Int) (0 : Int) (0 : Int) (0 : Int) [];
  let e0 : List Node := List.take (List.length (List.replicate (Int.toNat (↑(List.length l) : Int)) e1)) l ++ List.drop (List.length l) (List.replicate (Int.toNat (↑(List.length l) : Int)) e1);
  Small RU (Sigma.mk (Ty.slice (56 : Nat) (Ty.user (0 : Nat))) l) →
  ((0 : Int) ≤ (↑(List.length l) : Int) ∧ (↑(List.length l) : Int) * (↑(72 : Nat) : Int) ≤ (↑(140737488355328 : Nat) : Int)) ∧
    (∃ (p : Int × List Node × Unit),
        (↑(List.length e0) : Int) = (↑(List.length e0) : Int) ∧ (0 : Int) = p.fst ∧ l = l ∧ L = L ∧ e0 = p.snd.fst ∧ (0 : Int) ≤ p.fst ∧ p.fst ≤ (↑(List.length l) : Int) ∧ p.snd.fst = l) ∧
      ∀ (p : Int × List Node × Unit),
        let e0 : Node := e1;
        (0 : Int) ≤ p.fst ∧ p.fst ≤ (↑(List.length l) : Int) ∧ p.snd.fst = l →
          (decide
                  (p.fst <
                    (↑(List.length
                          (List.take (List.length (List.replicate (Int.toNat (↑(List.length l) : Int)) e0)) l ++ List.drop (List.length l) (List.replicate (Int.toNat (↑(List.length l) : Int)) e0))) :
                      Int)) =
                true →
              ((0 : Int) ≤ p.fst ∧ p.fst < (↑(List.length p.snd.fst) : Int)) ∧
                List.length (List.getD p.snd.fst (Int.toNat p.fst) e0).words ≤ (17592186044416 : Nat) ∧
                  ((0 : Int) ≤ p.fst ∧ p.fst < (↑(List.length p.snd.fst) : Int)) ∧
                    ∃ (p' : Int × List Node × Unit),
                      (↑(List.length
                                (List.take (List.length (List.replicate (Int.toNat (↑(List.length l) : Int)) e0)) l ++
                                  List.drop (List.length l) (List.replicate (Int.toNat (↑(List.length l) : Int)) e0))) :
                            Int) =
                          (↑(List.length
                                (List.take (List.length (List.replicate (Int.toNat (↑(List.length l) : Int)) e0)) l ++
                                  List.drop (List.length l) (List.replicate (Int.toNat (↑(List.length l) : Int)) e0))) :
                            Int) ∧
                        IntKind.wrap IntKind.i64 (p.fst + (1 : Int)) = p'.fst ∧
                          l = l ∧
                            L = L ∧
                              List.set p.snd.fst (Int.toNat p.fst)
                                    (Node.mk (List.getD p.snd.fst (Int.toNat p.fst) e0).kind (List.getD p.snd.fst (Int.toNat p.fst) e0).a (List.getD p.snd.fst (Int.toNat p.fst) e0).b
                                      (List.getD p.snd.fst (Int.toNat p.fst) e0).from_ (List.getD p.snd.fst (Int.toNat p.fst) e0).len (List.getD p.snd.fst (Int.toNat p.fst) e0).n
                                      (List.getD p.snd.fst (Int.toNat p.fst) e0).words) =
                                  p'.snd.fst ∧
                                ((0 : Int) ≤ p'.fst ∧ p'.fst ≤ (↑(List.length l) : Int) ∧ p'.snd.fst = l) ∧ List.length l - Int.toNat p'.fst < List.length l - Int.toNat p.fst) ∧
            (decide
                  (p.fst <
                    (↑(List.length
                          (List.take (List.length (List.replicate (Int.toNat (↑(List.length l) : Int)) e0)) l ++ List.drop (List.length l) (List.replicate (Int.toNat (↑(List.length l) : Int)) e0))) :
                      Int)) =
                false →
              (p.snd.fst, L, ()) = (l, L, ()))) := by kernel_rfl

theorem put_eq (l : List Node) (L : List (Int × Int)) (x1 x2 x3 x4 x5 x6 : Int) (w : List Int) (long : Int) : vc (EV [(53, cMust)]) noL Go.Proofs.Tryd.f60 cPut (l, L, x1, x2, x3, x4, x5, x6, w, long, ()) = (let e1 : Bool := !(decide ((↑(List.length l) : Int) < (4000 : Int)) && decide (long ≤ (1048576 : Int)));
  let e0 : List Node := [Node.mk x1 x2 x3 x4 x5 x6 w];
  Small RU (Sigma.mk (Ty.slice (3 : Nat) (Ty.int IntKind.i64)) w) →
  Small RU (Sigma.mk (Ty.slice (56 : Nat) (Ty.user (0 : Nat))) l) →
    (e1 = true → putBad l long = true ∧ (9 : Int) = (9 : Int) ∧ True) ∧
      (e1 = false →
        (List.length l + List.length e0) * (72 : Nat) ≤ (140737488355328 : Nat) ∧
          putBad l long = false ∧ ((↑(List.length l) : Int), l ++ e0, mput (fun (x y : Int) => x == y) L (↑(List.length l) : Int) long, ()) = ((↑(List.length l) : Int), l ++ e0, putL l L long, ()))) := by kernel_rfl

theorem made_eq (l : List Node) (L : List (Int × Int)) (x1 x2 x3 x4 x5 x6 : Int) (w : List Int) (long : Int) : vc (EV [(59, cOwnS), (60, cPut)]) noL Go.Proofs.Tryd.f69 cMade (l, L, x1, x2, x3, x4, x5, x6, w, long, ()) = (let e0 : List Node × Int × Int × List (Int × Int) × Unit := (l ++ [Node.mk x1 x2 x3 x4 x5 x6 w], (↑(List.length l) : Int), (0 : Int), putL l L long, ());
  Small RU (Sigma.mk (Ty.slice (3 : Nat) (Ty.int IntKind.i64)) w) →
  Small RU (Sigma.mk (Ty.slice (56 : Nat) (Ty.user (0 : Nat))) l) →
    (List.length l ≤ (4000000 : Nat) ∧ ∀ (x : Node), List.Mem x l → List.length x.words ≤ (4000000 : Nat)) ∧
      (putBad l long = true → putBad l long = true ∧ (9 : Int) = (9 : Int) ∧ True) ∧ (putBad l long = false → putBad l long = false ∧ e0 = e0)) := by kernel_rfl

theorem at_eq (l : List Node) (L : List (Int × Int)) (a p : Int) : vc (EV []) (lAt l a p) Go.Proofs.Tryd.f57 cAt (l, L, a, p, ()) = (Small RU (Sigma.mk (Ty.slice (56 : Nat) (Ty.user (0 : Nat))) l) →
  (∃ (p_1 : Int × Int × Int × Int × Unit),
      a = p_1.fst ∧
        p = p_1.snd.fst ∧
          (0 : Int) = p_1.snd.snd.fst ∧
            (1 : Int) = p_1.snd.snd.snd.fst ∧
              l = l ∧
                L = L ∧
                  ((0 : Int) ≤ p_1.fst ∧ p_1.fst ≤ a) ∧
                    ((0 : Int) ≤ p_1.snd.fst ∧ p_1.snd.fst < at_ (lensOf l) p_1.fst) ∧
                      ((1 : Int) ≤ p_1.snd.snd.snd.fst ∧ p_1.snd.snd.snd.fst ≤ (1 : Int) + a - p_1.fst) ∧
                        (isWord p_1.snd.snd.fst = true ∧ (wayAt l a p).snd = word (w64 ((wayAt l p_1.fst p_1.snd.fst).snd + p_1.snd.snd.fst))) ∧
                          (wayAt l a p).fst = p_1.snd.snd.snd.fst - (1 : Int) + (wayAt l p_1.fst p_1.snd.fst).fst) ∧
    ∀ (p_1 : Int × Int × Int × Int × Unit),
      let e4 : Int × Int := wayAt l p_1.fst p_1.snd.fst;
      let e3 : Int := (wayAt l a p).snd;
      let e2 : Int := (wayAt l a p).fst;
      let e1 : Int := IntKind.wrap IntKind.i64 (p_1.snd.snd.snd.fst + (1 : Int));
      let e0 : Node := List.getD l (Int.toNat p_1.fst) (Node.mk (0 : Int) (0 : Int) (0 : Int) (0 : Int) (0 : Int) (0 : Int) []);
      ((0 : Int) ≤ p_1.fst ∧ p_1.fst ≤ a) ∧
          ((0 : Int) ≤ p_1.snd.fst ∧ p_1.snd.fst < at_ (lensOf l) p_1.fst) ∧
            ((1 : Int) ≤ p_1.snd.snd.snd.fst ∧ p_1.snd.snd.snd.fst ≤ (1 : Int) + a - p_1.fst) ∧
              (isWord p_1.snd.snd.fst = true ∧ e3 = word (w64 (e4.snd + p_1.snd.snd.fst))) ∧ e2 = p_1.snd.snd.snd.fst - (1 : Int) + e4.fst →
        ((0 : Int) ≤ p_1.fst ∧ p_1.fst < (↑(List.length l) : Int)) ∧
          ((e0.kind == (0 : Int)) = true →
              ((0 : Int) ≤ p_1.snd.fst ∧ p_1.snd.fst < (↑(List.length e0.words) : Int)) ∧
                (IntKind.wrap IntKind.i64 (IntKind.wrap IntKind.i32 (IntKind.wrap IntKind.i64 (List.getD e0.words (Int.toNat p_1.snd.fst) (0 : Int) + p_1.snd.snd.fst))), p_1.snd.snd.snd.fst, l, L,
                    ()) =
                  (e3, e2, l, L, ())) ∧
            ((e0.kind == (0 : Int)) = false →
              ((e0.kind == (2 : Int)) = true →
                  ∃ (p' : Int × Int × Int × Int × Unit),
                    e0.a = p'.fst ∧
                      IntKind.wrap IntKind.i64 (p_1.snd.fst + e0.from_) = p'.snd.fst ∧
                        p_1.snd.snd.fst = p'.snd.snd.fst ∧
                          e1 = p'.snd.snd.snd.fst ∧
                            l = l ∧
                              L = L ∧
                                (((0 : Int) ≤ p'.fst ∧ p'.fst ≤ a) ∧
                                    ((0 : Int) ≤ p'.snd.fst ∧ p'.snd.fst < at_ (lensOf l) p'.fst) ∧
                                      ((1 : Int) ≤ p'.snd.snd.snd.fst ∧ p'.snd.snd.snd.fst ≤ (1 : Int) + a - p'.fst) ∧
                                        (isWord p'.snd.snd.fst = true ∧ e3 = word (w64 ((wayAt l p'.fst p'.snd.fst).snd + p'.snd.snd.fst))) ∧
                                          e2 = p'.snd.snd.snd.fst - (1 : Int) + (wayAt l p'.fst p'.snd.fst).fst) ∧
                                  Int.toNat p'.fst < Int.toNat p_1.fst) ∧
                ((e0.kind == (2 : Int)) = false →
                  ((e0.kind == (3 : Int)) = true →
                      ∃ (p' : Int × Int × Int × Int × Unit),
                        e0.a = p'.fst ∧
                          p_1.snd.fst = p'.snd.fst ∧
                            IntKind.wrap IntKind.i64 (IntKind.wrap IntKind.i32 (IntKind.wrap IntKind.i64 (p_1.snd.snd.fst + e0.n))) = p'.snd.snd.fst ∧
                              e1 = p'.snd.snd.snd.fst ∧
                                l = l ∧
                                  L = L ∧
                                    (((0 : Int) ≤ p'.fst ∧ p'.fst ≤ a) ∧
                                        ((0 : Int) ≤ p'.snd.fst ∧ p'.snd.fst < at_ (lensOf l) p'.fst) ∧
                                          ((1 : Int) ≤ p'.snd.snd.snd.fst ∧ p'.snd.snd.snd.fst ≤ (1 : Int) + a - p'.fst) ∧
                                            (isWord p'.snd.snd.fst = true ∧ e3 = word (w64 ((wayAt l p'.fst p'.snd.fst).snd + p'.snd.snd.fst))) ∧
                                              e2 = p'.snd.snd.snd.fst - (1 : Int) + (wayAt l p'.fst p'.snd.fst).fst) ∧
                                      Int.toNat p'.fst < Int.toNat p_1.fst) ∧
                    ((e0.kind == (3 : Int)) = false →
                      (decide (p_1.snd.fst < Option.getD (mget (fun (x y : Int) => x == y) L e0.a) (0 : Int)) = true →
                          ∃ (p' : Int × Int × Int × Int × Unit),
                            e0.a = p'.fst ∧
                              p_1.snd.fst = p'.snd.fst ∧
                                p_1.snd.snd.fst = p'.snd.snd.fst ∧
                                  e1 = p'.snd.snd.snd.fst ∧
                                    l = l ∧
                                      L = L ∧
                                        (((0 : Int) ≤ p'.fst ∧ p'.fst ≤ a) ∧
                                            ((0 : Int) ≤ p'.snd.fst ∧ p'.snd.fst < at_ (lensOf l) p'.fst) ∧
                                              ((1 : Int) ≤ p'.snd.snd.snd.fst ∧ p'.snd.snd.snd.fst ≤ (1 : Int) + a - p'.fst) ∧
                                                (isWord p'.snd.snd.fst = true ∧ e3 = word (w64 ((wayAt l p'.fst p'.snd.fst).snd + p'.snd.snd.fst))) ∧
                                                  e2 = p'.snd.snd.snd.fst - (1 : Int) + (wayAt l p'.fst p'.snd.fst).fst) ∧
                                          Int.toNat p'.fst < Int.toNat p_1.fst) ∧
                        (decide (p_1.snd.fst < Option.getD (mget (fun (x y : Int) => x == y) L e0.a) (0 : Int)) = false →
                          ∃ (p' : Int × Int × Int × Int × Unit),
                            e0.b = p'.fst ∧
                              IntKind.wrap IntKind.i64 (p_1.snd.fst - Option.getD (mget (fun (x y : Int) => x == y) L e0.a) (0 : Int)) = p'.snd.fst ∧
                                p_1.snd.snd.fst = p'.snd.snd.fst ∧
                                  e1 = p'.snd.snd.snd.fst ∧
                                    l = l ∧
                                      L = L ∧
                                        (((0 : Int) ≤ p'.fst ∧ p'.fst ≤ a) ∧
                                            ((0 : Int) ≤ p'.snd.fst ∧ p'.snd.fst < at_ (lensOf l) p'.fst) ∧
                                              ((1 : Int) ≤ p'.snd.snd.snd.fst ∧ p'.snd.snd.snd.fst ≤ (1 : Int) + a - p'.fst) ∧
                                                (isWord p'.snd.snd.fst = true ∧ e3 = word (w64 ((wayAt l p'.fst p'.snd.fst).snd + p'.snd.snd.fst))) ∧
                                                  e2 = p'.snd.snd.snd.fst - (1 : Int) + (wayAt l p'.fst p'.snd.fst).fst) ∧
                                          Int.toNat p'.fst < Int.toNat p_1.fst))))) := by kernel_rfl

end Go.Rp
end

section
set_option linter.unusedVariables false
set_option maxRecDepth 100000
open Go Go.VT
namespace Go.Rp

theorem open_eq (l : List Node) (r : List Int) : vc (EVt tabR [(53, cMust), (56, cHas)]) (lOpen l r) Go.Proofs.Tryd.f49 cOpen (l, r, ()) = (let e1 : Bool := !decide ((↑(List.length l) : Int) ≤ (4000 : Int));
  let e0 : Value := Value.pointer none;
  Small RU (Sigma.mk (Ty.slice (56 : Nat) (Ty.user (0 : Nat))) l) →
  Small RU (Sigma.mk (Ty.slice (3 : Nat) (Ty.int IntKind.i64)) r) →
    (e1 = true → (askedOf l r != (0 : Int)) = true ∧ askedOf l r = (3 : Int) ∧ True) ∧
      (e1 = false →
        (∃ (p : Int × List (Int × Int) × Unit),
            l = l ∧
              r = r ∧
                e0 = e0 ∧
                  l = l ∧
                    (↑(List.length l) : Int) = (↑(List.length l) : Int) ∧
                      (0 : Int) = p.fst ∧
                        l = l ∧
                          [] = p.snd.fst ∧
                            l = l ∧
                              (0 : Int) ≤ p.fst ∧ p.fst ≤ (↑(List.length l) : Int) ∧ (∀ (i : Nat), i < Int.toNat p.fst → stepOk l i = true) ∧ p.snd.fst = longOf (List.take (Int.toNat p.fst) l)) ∧
          ∀ (p : Int × List (Int × Int) × Unit),
            let e3 : Value := e0;
            let e2 : Bool := decide (p.fst < (↑(List.length l) : Int));
            let e1 : Node := List.getD l (Int.toNat p.fst) node0;
            let e0 : Int := (List.getD l (Int.toNat p.fst) (Node.mk (0 : Int) (0 : Int) (0 : Int) (0 : Int) (0 : Int) (0 : Int) [])).kind;
            (0 : Int) ≤ p.fst ∧ p.fst ≤ (↑(List.length l) : Int) ∧ (∀ (i : Nat), i < Int.toNat p.fst → stepOk l i = true) ∧ p.snd.fst = longOf (List.take (Int.toNat p.fst) l) →
              (e2 = true →
                  ((0 : Int) ≤ p.fst ∧ p.fst < (↑(List.length l) : Int)) ∧
                    ((!(decide (e0 ≥ (0 : Int)) && decide (e0 < (4 : Int)))) = true → (askedOf l r != (0 : Int)) = true ∧ askedOf l r = (1 : Int) ∧ True) ∧
                      ((!(decide (e0 ≥ (0 : Int)) && decide (e0 < (4 : Int)))) = false →
                        ((0 : Int) ≤ e0 ∧ e0 < (↑(4 : Nat) : Int)) ∧
                          ((0 : Int) ≤ e0 ∧ e0 < (↑(4 : Nat) : Int)) ∧
                            ((((0 : Int) ≤ p.fst ∧ p.fst < (↑(List.length l) : Int)) ∧ l = l ∧ True) ∧ p.snd.fst = p.snd.fst ∧ True) ∧
                              ((if e0 ≤ (0 : Int) then !okWords e1 else if e0 = (1 : Int) then !okCat e1 p.fst else if e0 = (2 : Int) then !okPart e1 p.snd.fst p.fst else !okOff e1 p.fst) = true →
                                  (askedOf l r != (0 : Int)) = true ∧ askedOf l r = (1 : Int) ∧ True) ∧
                                ((if e0 ≤ (0 : Int) then !okWords e1 else if e0 = (1 : Int) then !okCat e1 p.fst else if e0 = (2 : Int) then !okPart e1 p.snd.fst p.fst else !okOff e1 p.fst) = false →
                                  ((!decide
                                            (Option.getD
                                                (mget (fun (x y : Int) => x == y)
                                                  (mput (fun (x y : Int) => x == y) p.snd.fst p.fst
                                                    (if e0 ≤ (0 : Int) then (↑(List.length e1.words) : Int)
                                                    else
                                                      if e0 = (1 : Int) then IntKind.wrap IntKind.i64 (lg p.snd.fst e1.a + lg p.snd.fst e1.b)
                                                      else if e0 = (2 : Int) then e1.len else lg p.snd.fst e1.a))
                                                  p.fst)
                                                (0 : Int) ≤
                                              (1048576 : Int))) =
                                        true →
                                      (askedOf l r != (0 : Int)) = true ∧ askedOf l r = (1 : Int) ∧ True) ∧
                                    ((!decide
                                            (Option.getD
                                                (mget (fun (x y : Int) => x == y)
                                                  (mput (fun (x y : Int) => x == y) p.snd.fst p.fst
                                                    (if e0 ≤ (0 : Int) then (↑(List.length e1.words) : Int)
                                                    else
                                                      if e0 = (1 : Int) then IntKind.wrap IntKind.i64 (lg p.snd.fst e1.a + lg p.snd.fst e1.b)
                                                      else if e0 = (2 : Int) then e1.len else lg p.snd.fst e1.a))
                                                  p.fst)
                                                (0 : Int) ≤
                                              (1048576 : Int))) =
                                        false →
                                      ∃ (p' : Int × List (Int × Int) × Unit),
                                        l = l ∧
                                          r = r ∧
                                            e3 = e3 ∧
                                              l = l ∧
                                                (↑(List.length l) : Int) = (↑(List.length l) : Int) ∧
                                                  IntKind.wrap IntKind.i64 (p.fst + (1 : Int)) = p'.fst ∧
                                                    l = l ∧
                                                      mput (fun (x y : Int) => x == y) p.snd.fst p.fst
                                                            (if e0 ≤ (0 : Int) then (↑(List.length e1.words) : Int)
                                                            else
                                                              if e0 = (1 : Int) then IntKind.wrap IntKind.i64 (lg p.snd.fst e1.a + lg p.snd.fst e1.b)
                                                              else if e0 = (2 : Int) then e1.len else lg p.snd.fst e1.a) =
                                                          p'.snd.fst ∧
                                                        l = l ∧
                                                          ((0 : Int) ≤ p'.fst ∧
                                                              p'.fst ≤ (↑(List.length l) : Int) ∧
                                                                (∀ (i : Nat), i < Int.toNat p'.fst → stepOk l i = true) ∧ p'.snd.fst = longOf (List.take (Int.toNat p'.fst) l)) ∧
                                                            List.length l - Int.toNat p'.fst < List.length l - Int.toNat p.fst)))) ∧
                (e2 = false →
                  (∃ (p_1 : Int × Unit),
                      l = l ∧
                        r = r ∧
                          e3 = e3 ∧
                            l = l ∧
                              (↑(List.length l) : Int) = (↑(List.length l) : Int) ∧
                                p.fst = p.fst ∧
                                  e2 = e2 ∧
                                    r = r ∧
                                      (↑(List.length r) : Int) = (↑(List.length r) : Int) ∧
                                        (0 : Int) = p_1.fst ∧
                                          l = l ∧
                                            p.snd.fst = p.snd.fst ∧
                                              l = l ∧
                                                (0 : Int) ≤ p_1.fst ∧
                                                  p_1.fst ≤ (↑(List.length r) : Int) ∧
                                                    ∀ (i : Nat), i < Int.toNat p_1.fst → lies (List.getD r i (0 : Int)) (0 : Int) ((↑(List.length l) : Int) - (1 : Int)) = true) ∧
                    ∀ (p_1 : Int × Unit),
                      let e4 : Value := e3;
                      let e3 : Int := List.getD r (Int.toNat p_1.fst) (0 : Int);
                      let e2_1 : Bool := decide (p_1.fst < (↑(List.length r) : Int));
                      let e1 : Bool := e2;
                      let e0 : Bool := !(decide ((0 : Int) ≤ e3) && decide (e3 < (↑(List.length l) : Int)));
                      ((0 : Int) ≤ p_1.fst ∧
                          p_1.fst ≤ (↑(List.length r) : Int) ∧ ∀ (i : Nat), i < Int.toNat p_1.fst → lies (List.getD r i (0 : Int)) (0 : Int) ((↑(List.length l) : Int) - (1 : Int)) = true) →
                        (e2_1 = true →
                            ((0 : Int) ≤ p_1.fst ∧ p_1.fst < (↑(List.length r) : Int)) ∧
                              (e0 = true → (askedOf l r != (0 : Int)) = true ∧ askedOf l r = (2 : Int) ∧ True) ∧
                                (e0 = false →
                                  ∃ (p' : Int × Unit),
                                    l = l ∧
                                      r = r ∧
                                        e4 = e4 ∧
                                          l = l ∧
                                            (↑(List.length l) : Int) = (↑(List.length l) : Int) ∧
                                              p.fst = p.fst ∧
                                                e1 = e1 ∧
                                                  r = r ∧
                                                    (↑(List.length r) : Int) = (↑(List.length r) : Int) ∧
                                                      IntKind.wrap IntKind.i64 (p_1.fst + (1 : Int)) = p'.fst ∧
                                                        l = l ∧
                                                          p.snd.fst = p.snd.fst ∧
                                                            l = l ∧
                                                              ((0 : Int) ≤ p'.fst ∧
                                                                  p'.fst ≤ (↑(List.length r) : Int) ∧
                                                                    ∀ (i : Nat), i < Int.toNat p'.fst → lies (List.getD r i (0 : Int)) (0 : Int) ((↑(List.length l) : Int) - (1 : Int)) = true) ∧
                                                                List.length r - Int.toNat p'.fst < List.length r - Int.toNat p_1.fst)) ∧
                          (e2_1 = false → (askedOf l r != (0 : Int)) = false ∧ (l, p.snd.fst, ()) = (l, longOf l, ()))))) := by kernel_rfl

end Go.Rp
end

section
set_option linter.unusedVariables false
set_option maxRecDepth 100000
open Go Go.VT
namespace Go.Rp

theorem lies_eq (n lo hi : Int) : vc (EV []) noL Go.Proofs.Tryd.f41 cLies (n, lo, hi, ()) = ((decide (lo ≤ n) && decide (n ≤ hi), ()) = (lies n lo hi, ())) := by kernel_rfl

theorem isWord_eq (n : Int) : vc (EV [(41, cLies)]) noL Go.Proofs.Tryd.f75 cIsWord (n, ()) = ((lies n (-2147483648 : Int) (2147483647 : Int), ()) = (isWord n, ())) := by kernel_rfl

theorem word_eq (n : Int) : vc (EV []) noL Go.Proofs.Tryd.f76 cWord (n, ()) = ((IntKind.wrap IntKind.i64 (IntKind.wrap IntKind.i32 (IntKind.wrap IntKind.u32 (IntKind.wrap IntKind.u64 n))), ()) = (word n, ())) := by kernel_rfl

theorem copy_eq (l : List Int) : vc (EV []) noL Go.Proofs.Tryd.f77 cCopy (l, ()) = (Small RU (Sigma.mk (Ty.slice (3 : Nat) (Ty.int IntKind.i64)) l) → ((0 : Nat) + List.length l) * (8 : Nat) ≤ (140737488355328 : Nat) ∧ ([] ++ l, ()) = (l, ())) := by kernel_rfl

theorem words_eq (l : List Int) : vc (EV [(75, cIsWord)]) (lWords l) Go.Proofs.Tryd.f71 cWords (l, ()) = (Small RU (Sigma.mk (Ty.slice (3 : Nat) (Ty.int IntKind.i64)) l) →
  (∃ (p : Int × Unit), l = l ∧ (0 : Int) = p.fst ∧ (0 : Int) ≤ p.fst ∧ p.fst ≤ (↑(List.length l) : Int) ∧ List.all (List.take (Int.toNat p.fst) l) isWord = true) ∧
    ∀ (p : Int × Unit),
      let e2 : Bool × Unit := (List.all l isWord, ());
      let e1 : Bool := decide (p.fst < (↑(List.length l) : Int));
      let e0 : Bool := !isWord (List.getD l (Int.toNat p.fst) (0 : Int));
      (0 : Int) ≤ p.fst ∧ p.fst ≤ (↑(List.length l) : Int) ∧ List.all (List.take (Int.toNat p.fst) l) isWord = true →
        (e1 = true →
            ((0 : Int) ≤ p.fst ∧ p.fst < (↑(List.length l) : Int)) ∧
              (e0 = true → (false, ()) = e2) ∧
                (e0 = false →
                  ∃ (p' : Int × Unit),
                    l = l ∧
                      IntKind.wrap IntKind.i64 (p.fst + (1 : Int)) = p'.fst ∧
                        ((0 : Int) ≤ p'.fst ∧ p'.fst ≤ (↑(List.length l) : Int) ∧ List.all (List.take (Int.toNat p'.fst) l) isWord = true) ∧
                          List.length l - Int.toNat p'.fst < List.length l - Int.toNat p.fst)) ∧
          (e1 = false → (true, ()) = e2)) := by kernel_rfl

theorem equal_eq (l m : List Int) : vc (EV []) (lEqual l m) Go.Proofs.Tryd.f23 cEqual (l, m, ()) = (let e0 : Bool := decide (List.length l = List.length m);
  Small RU (Sigma.mk (Ty.slice (3 : Nat) (Ty.int IntKind.i64)) l) →
  Small RU (Sigma.mk (Ty.slice (3 : Nat) (Ty.int IntKind.i64)) m) →
    (∃ (p : Int × Bool × Unit),
        l = l ∧
          m = m ∧
            false = false ∧
              (0 : Int) = p.fst ∧
                ((↑(List.length l) : Int) == (↑(List.length m) : Int)) = p.snd.fst ∧
                  (0 : Int) ≤ p.fst ∧ p.fst ≤ (↑(List.length l) : Int) ∧ p.snd.fst = (e0 && decide (List.take (Int.toNat p.fst) l = List.take (Int.toNat p.fst) m))) ∧
      ∀ (p : Int × Bool × Unit),
        let e1 : Bool := e0;
        let e0 : Bool := p.snd.fst && decide (p.fst < (↑(List.length l) : Int));
        (0 : Int) ≤ p.fst ∧ p.fst ≤ (↑(List.length l) : Int) ∧ p.snd.fst = (e1 && decide (List.take (Int.toNat p.fst) l = List.take (Int.toNat p.fst) m)) →
          (e0 = true →
              ((0 : Int) ≤ p.fst ∧ p.fst < (↑(List.length l) : Int)) ∧
                ((0 : Int) ≤ p.fst ∧ p.fst < (↑(List.length m) : Int)) ∧
                  ∃ (p' : Int × Bool × Unit),
                    l = l ∧
                      m = m ∧
                        false = false ∧
                          IntKind.wrap IntKind.i64 (p.fst + (1 : Int)) = p'.fst ∧
                            (List.getD l (Int.toNat p.fst) (0 : Int) == List.getD m (Int.toNat p.fst) (0 : Int)) = p'.snd.fst ∧
                              ((0 : Int) ≤ p'.fst ∧ p'.fst ≤ (↑(List.length l) : Int) ∧ p'.snd.fst = (e1 && decide (List.take (Int.toNat p'.fst) l = List.take (Int.toNat p'.fst) m))) ∧
                                List.length l - Int.toNat p'.fst < List.length l - Int.toNat p.fst) ∧
            (e0 = false → (p.snd.fst, ()) = (decide (l = m), ()))) := by kernel_rfl

theorem upto_eq (n : Int) : vc (EV []) (lUpto n) Go.Proofs.Tryd.f45 cUpto (n, ()) = ((∃ (p : Int × List Int × Unit),
    n = n ∧ (0 : Int) = p.fst ∧ [] = p.snd.fst ∧ (0 : Int) ≤ p.fst ∧ (p.fst ≤ n ∨ p.fst = (0 : Int)) ∧ p.snd.fst = List.map (fun (n : Nat) => (↑n : Int)) (List.range (Int.toNat p.fst))) ∧
  ∀ (p : Int × List Int × Unit),
    let e0 : Bool := decide (p.fst < n);
    (0 : Int) ≤ p.fst ∧ (p.fst ≤ n ∨ p.fst = (0 : Int)) ∧ p.snd.fst = List.map (fun (n : Nat) => (↑n : Int)) (List.range (Int.toNat p.fst)) →
      (e0 = true →
          (List.length p.snd.fst + List.length [p.fst]) * (8 : Nat) ≤ (140737488355328 : Nat) ∧
            ∃ (p' : Int × List Int × Unit),
              n = n ∧
                IntKind.wrap IntKind.i64 (p.fst + (1 : Int)) = p'.fst ∧
                  p.snd.fst ++ [p.fst] = p'.snd.fst ∧
                    ((0 : Int) ≤ p'.fst ∧ (p'.fst ≤ n ∨ p'.fst = (0 : Int)) ∧ p'.snd.fst = List.map (fun (n : Nat) => (↑n : Int)) (List.range (Int.toNat p'.fst))) ∧
                      Int.toNat n - Int.toNat p'.fst < Int.toNat n - Int.toNat p.fst) ∧
        (e0 = false → (p.snd.fst, ()) = (List.map (fun (n : Nat) => (↑n : Int)) (List.range (Int.toNat n)), ()))) := by kernel_rfl

theorem lens_eq (l : List Node) : vc (EV []) (lLens l) Go.Proofs.Tryd.f47 cLens (l, ()) = (Small RU (Sigma.mk (Ty.slice (56 : Nat) (Ty.user (0 : Nat))) l) →
  (∃ (p : Int × List Int × Unit), l = l ∧ (0 : Int) = p.fst ∧ l = l ∧ [] = p.snd.fst ∧ (0 : Int) ≤ p.fst ∧ p.fst ≤ (↑(List.length l) : Int) ∧ p.snd.fst = lensOf (List.take (Int.toNat p.fst) l)) ∧
    ∀ (p : Int × List Int × Unit),
      let e3 : Bool := decide (p.fst < (↑(List.length l) : Int));
      let e2 : Nat := List.length l - Int.toNat p.fst;
      let e1 : Int := IntKind.wrap IntKind.i64 (p.fst + (1 : Int));
      let e0 : Node := List.getD l (Int.toNat p.fst) (Node.mk (0 : Int) (0 : Int) (0 : Int) (0 : Int) (0 : Int) (0 : Int) []);
      (0 : Int) ≤ p.fst ∧ p.fst ≤ (↑(List.length l) : Int) ∧ p.snd.fst = lensOf (List.take (Int.toNat p.fst) l) →
        (e3 = true →
            ((0 : Int) ≤ p.fst ∧ p.fst < (↑(List.length l) : Int)) ∧
              ((e0.kind == (0 : Int)) = true →
                  (List.length p.snd.fst + List.length [if (2097152 : Int) < (↑(List.length e0.words) : Int) then (2097152 : Int) else (↑(List.length e0.words) : Int)]) * (8 : Nat) ≤
                      (140737488355328 : Nat) ∧
                    ∃ (p' : Int × List Int × Unit),
                      l = l ∧
                        e1 = p'.fst ∧
                          l = l ∧
                            p.snd.fst ++ [if (2097152 : Int) < (↑(List.length e0.words) : Int) then (2097152 : Int) else (↑(List.length e0.words) : Int)] = p'.snd.fst ∧
                              ((0 : Int) ≤ p'.fst ∧ p'.fst ≤ (↑(List.length l) : Int) ∧ p'.snd.fst = lensOf (List.take (Int.toNat p'.fst) l)) ∧ List.length l - Int.toNat p'.fst < e2) ∧
                ((e0.kind == (0 : Int)) = false →
                  ((e0.kind == (1 : Int)) = true →
                      ((0 : Int) ≤ e0.a ∧ e0.a < (↑(List.length p.snd.fst) : Int)) ∧
                        ((0 : Int) ≤ e0.b ∧ e0.b < (↑(List.length p.snd.fst) : Int)) ∧
                          (List.length p.snd.fst +
                                  List.length
                                    [if (2097152 : Int) < IntKind.wrap IntKind.i64 (List.getD p.snd.fst (Int.toNat e0.a) (0 : Int) + List.getD p.snd.fst (Int.toNat e0.b) (0 : Int)) then
                                        (2097152 : Int)
                                      else IntKind.wrap IntKind.i64 (List.getD p.snd.fst (Int.toNat e0.a) (0 : Int) + List.getD p.snd.fst (Int.toNat e0.b) (0 : Int))]) *
                                (8 : Nat) ≤
                              (140737488355328 : Nat) ∧
                            ∃ (p' : Int × List Int × Unit),
                              l = l ∧
                                e1 = p'.fst ∧
                                  l = l ∧
                                    p.snd.fst ++
                                          [if (2097152 : Int) < IntKind.wrap IntKind.i64 (List.getD p.snd.fst (Int.toNat e0.a) (0 : Int) + List.getD p.snd.fst (Int.toNat e0.b) (0 : Int)) then
                                              (2097152 : Int)
                                            else IntKind.wrap IntKind.i64 (List.getD p.snd.fst (Int.toNat e0.a) (0 : Int) + List.getD p.snd.fst (Int.toNat e0.b) (0 : Int))] =
                                        p'.snd.fst ∧
                                      ((0 : Int) ≤ p'.fst ∧ p'.fst ≤ (↑(List.length l) : Int) ∧ p'.snd.fst = lensOf (List.take (Int.toNat p'.fst) l)) ∧ List.length l - Int.toNat p'.fst < e2) ∧
                    ((e0.kind == (1 : Int)) = false →
                      ((e0.kind == (2 : Int)) = true →
                          (List.length p.snd.fst + List.length [if (2097152 : Int) < e0.len then (2097152 : Int) else e0.len]) * (8 : Nat) ≤ (140737488355328 : Nat) ∧
                            ∃ (p' : Int × List Int × Unit),
                              l = l ∧
                                e1 = p'.fst ∧
                                  l = l ∧
                                    p.snd.fst ++ [if (2097152 : Int) < e0.len then (2097152 : Int) else e0.len] = p'.snd.fst ∧
                                      ((0 : Int) ≤ p'.fst ∧ p'.fst ≤ (↑(List.length l) : Int) ∧ p'.snd.fst = lensOf (List.take (Int.toNat p'.fst) l)) ∧ List.length l - Int.toNat p'.fst < e2) ∧
                        ((e0.kind == (2 : Int)) = false →
                          ((0 : Int) ≤ e0.a ∧ e0.a < (↑(List.length p.snd.fst) : Int)) ∧
                            (List.length p.snd.fst +
                                    List.length [if (2097152 : Int) < List.getD p.snd.fst (Int.toNat e0.a) (0 : Int) then (2097152 : Int) else List.getD p.snd.fst (Int.toNat e0.a) (0 : Int)]) *
                                  (8 : Nat) ≤
                                (140737488355328 : Nat) ∧
                              ∃ (p' : Int × List Int × Unit),
                                l = l ∧
                                  e1 = p'.fst ∧
                                    l = l ∧
                                      p.snd.fst ++ [if (2097152 : Int) < List.getD p.snd.fst (Int.toNat e0.a) (0 : Int) then (2097152 : Int) else List.getD p.snd.fst (Int.toNat e0.a) (0 : Int)] =
                                          p'.snd.fst ∧
                                        ((0 : Int) ≤ p'.fst ∧ p'.fst ≤ (↑(List.length l) : Int) ∧ p'.snd.fst = lensOf (List.take (Int.toNat p'.fst) l)) ∧ List.length l - Int.toNat p'.fst < e2)))) ∧
          (e3 = false → (p.snd.fst, ()) = (lensOf l, ()))) := by kernel_rfl

end Go.Rp
end

section
set_option linter.unusedVariables false
set_option linter.unusedSimpArgs false
set_option maxRecDepth 100000
namespace Go.Rp
open Go Go.VT

theorem w64_id {n : Int} (h1 : -9223372036854775808 ≤ n) (h2 : n < 9223372036854775808) : IntKind.i64.wrap n = n := by rw [IntKind.wrap_i64]; omega

theorem lies_gives : Gives prog RG 41 cLies := gives allNil (fun _ => noL) (by kernel_rfl) (by kernel_rfl) (by kernel_rfl) fun (n, lo, hi, ()) _ => (lies_eq n lo hi).mpr rfl
theorem isWord_gives : Gives prog RG 75 cIsWord := gives (allCons lies_gives allNil) (fun _ => noL) (by kernel_rfl) (by kernel_rfl) (by kernel_rfl) fun (n, ()) _ => (isWord_eq n).mpr rfl

theorem word_wraps (n : Int) : IntKind.i64.wrap (IntKind.i32.wrap (IntKind.u32.wrap (IntKind.u64.wrap n))) = word n := by
  unfold word
  rw [IntKind.wrap_i64, IntKind.wrap_i32, IntKind.wrap_i32, IntKind.wrap_u32, IntKind.wrap_u64]
  omega

theorem word_gives : Gives prog RG 76 cWord := gives allNil (fun _ => noL) (by kernel_rfl) (by kernel_rfl) (by kernel_rfl) fun (n, ()) _ => (word_eq n).mpr (by rw [word_wraps])

theorem take_succ_getD {α : Type} {l : List α} {i : Nat} (h : i < l.length) (d : α) : l.take (i + 1) = l.take i ++ [l.getD i d] := by
  rw [List.take_succ_eq_append_getElem h]
  simp [List.getD, List.getElem?_eq_getElem h]

theorem words_vc (l : List Int) : vc (EV [(75, cIsWord)]) (lWords l) Go.Proofs.Tryd.f71 cWords (l, ()) := (words_eq l).mpr (by
  intro hs
  have hlen := hs.len
  simp only [most] at hlen
  refine ⟨⟨(0, ()), rfl, rfl, Int.le_refl _, by omega, by simp⟩, ?_⟩
  rintro ⟨i, ⟨⟩⟩ e2 e1 e0 ⟨h0, h1, h2⟩
  dsimp only at h0 h1 h2 e1 e0 ⊢
  obtain ⟨m, rfl⟩ := Int.eq_ofNat_of_zero_le h0
  simp only [Int.toNat_natCast, e1, e0, e2, decide_eq_true_eq, decide_eq_false_iff_not] at h2 ⊢
  have hts : ∀ h : m < l.length, (l.take (m + 1)).all isWord = isWord (l.getD m 0) := fun h => by rw [take_succ_getD h 0, List.all_append, h2]; simp
  refine ⟨fun hlt => ⟨⟨h0, hlt⟩, fun hb => ?_, fun hb => ?_⟩, fun hge => ?_⟩
  · have : l.all isWord = false := by
      have h3 := hts (by omega)
      simp only [Bool.not_eq_true'] at hb
      rw [hb] at h3
      rw [← List.take_append_drop (m + 1) l, List.all_append, h3]
      rfl
    rw [this]
  · refine ⟨((m + 1 : Nat), ()), by trivial, ?_, ⟨by omega, by dsimp only; omega, ?_⟩, by dsimp only; omega⟩
    · rw [w64_id (by omega) (by omega)]; rfl
    · dsimp only
      rw [Int.toNat_natCast, hts (by omega)]
      simpa using hb
  · have : m = l.length := by omega
    subst this
    rw [List.take_length] at h2
    rw [h2])
theorem words_gives : Gives prog RG 71 cWords := gives (allCons isWord_gives allNil) (fun p => lWords p.1) (by kernel_rfl) (by kernel_rfl) (by kernel_rfl) fun (l, ()) _ => words_vc l

theorem copy_vc (l : List Int) (hp : l.length ≤ 17592186044416) : vc (EV []) noL Go.Proofs.Tryd.f77 cCopy (l, ()) := (copy_eq l).mpr (by
  intro hs
  exact ⟨by omega, rfl⟩)
theorem copy_gives : Gives prog RG 77 cCopy := gives allNil (fun _ => noL) (by kernel_rfl) (by kernel_rfl) (by kernel_rfl) fun (l, ()) hp => copy_vc l hp

theorem equal_vc (l m : List Int) : vc (EV []) (lEqual l m) Go.Proofs.Tryd.f23 cEqual (l, m, ()) := (equal_eq l m).mpr (by
  intro e hs1 hs2
  have hl1 := hs1.len
  have hl2 := hs2.len
  simp only [most] at hl1 hl2
  refine ⟨⟨(0, decide (l.length = m.length), ()), rfl, rfl, rfl, rfl, ?_, Int.le_refl _, by dsimp only; omega, by simp [e]⟩, ?_⟩
  · rw [Bool.eq_iff_iff]; simp; omega
  rintro ⟨i, b, ⟨⟩⟩ e1 e0 ⟨h0, h1, h2⟩
  dsimp only [e1, e, e0] at h0 h1 h2 ⊢
  obtain ⟨k, rfl⟩ := Int.eq_ofNat_of_zero_le h0
  clear e0 e1
  simp only [Int.toNat_natCast] at h2 ⊢
  have h2' : b = true ↔ (l.length = m.length ∧ l.take k = m.take k) := by rw [h2]; simp
  refine ⟨fun hb => ?_, fun hb => ?_⟩
  · simp only [Bool.and_eq_true, decide_eq_true_eq] at hb
    obtain ⟨hb, hlt⟩ := hb
    obtain ⟨hlen, htk⟩ := h2'.1 hb
    refine ⟨⟨h0, hlt⟩, ⟨h0, by omega⟩, ((k + 1 : Nat), decide (l.getD k 0 = m.getD k 0), ()), by trivial, by trivial, by trivial, ?_, ?_, ⟨by omega, by dsimp only; omega, ?_⟩, by dsimp only; omega⟩
    · rw [w64_id (by omega) (by omega)]; rfl
    · rw [Bool.eq_iff_iff]; simp
    · dsimp only
      rw [Int.toNat_natCast, take_succ_getD (by omega : k < l.length) 0, take_succ_getD (by omega : k < m.length) 0, htk]
      simp [hlen]
  · have : b = decide (l = m) := by
      rw [Bool.eq_iff_iff, h2', decide_eq_true_eq]
      simp only [Bool.and_eq_false_iff, decide_eq_false_iff_not] at hb
      constructor
      · rintro ⟨h3, h4⟩
        have hk : k = l.length := by
          rcases hb with hb | hb
          · exact absurd (h2'.2 ⟨h3, h4⟩) (by simp [hb])
          · omega
        subst hk
        rw [List.take_length] at h4
        rw [h3, List.take_length] at h4
        exact h4
      · rintro rfl
        exact ⟨rfl, rfl⟩
    rw [this])
theorem equal_gives : Gives prog RG 23 cEqual := gives allNil (fun p => lEqual p.1 p.2.1) (by kernel_rfl) (by kernel_rfl) (by kernel_rfl) fun (l, m, ()) _ => equal_vc l m

theorem upto_vc (n : Int) (hp : n ≤ 17592186044416) : vc (EV []) (lUpto n) Go.Proofs.Tryd.f45 cUpto (n, ()) := (upto_eq n).mpr (by
  refine ⟨⟨(0, [], ()), rfl, rfl, rfl, Int.le_refl _, .inr rfl, rfl⟩, ?_⟩
  rintro ⟨i, out, ⟨⟩⟩ e0 ⟨h0, h1, h2⟩
  dsimp only at h0 h1 h2 e0 ⊢
  obtain ⟨k, rfl⟩ := Int.eq_ofNat_of_zero_le h0
  simp only [Int.toNat_natCast, e0, decide_eq_true_eq, decide_eq_false_iff_not] at h2 ⊢
  subst h2
  refine ⟨fun hlt => ⟨?_, ((k + 1 : Nat), (List.range (k + 1)).map (fun n : Nat => (n : Int)), ()), by trivial, ?_, ?_, ⟨by omega, .inl (by dsimp only; omega), by simp⟩, by dsimp only; omega⟩, fun hge => ?_⟩
  · simp; omega
  · rw [w64_id (by omega) (by omega)]; rfl
  · simp [List.range_succ]
  · have : n.toNat = k := by omega
    rw [this])
theorem upto_gives : Gives prog RG 45 cUpto := gives allNil (fun p => lUpto p.1) (by kernel_rfl) (by kernel_rfl) (by kernel_rfl) fun (n, ()) hp => upto_vc n hp
end Go.Rp
end

section
set_option linter.unusedVariables false
set_option maxRecDepth 100000
open Go Go.VT
namespace Go.Rp

theorem isPart_eq (length from_ many : Int) : vc (EV [(41, cLies)]) noL Go.Proofs.Tryd.f74 cIsPart (length, from_, many, ()) = ((lies from_ (0 : Int) length && lies many (0 : Int) (IntKind.wrap IntKind.i64 (length - from_)), ()) = (isPartOf length from_ many, ())) := by kernel_rfl

theorem fields_eq (x1 x2 x3 x4 x5 x6 : Int) (w : List Int) (i : Int) : vc (EV [(41, cLies), (71, cWords), (75, cIsWord)]) noL Go.Proofs.Tryd.f82 cFields (x1, x2, x3, x4, x5, x6, w, i, ()) = (let e2 : Int := IntKind.wrap IntKind.i64 (i - (1 : Int));
  let e1 : Bool := lies x2 (0 : Int) e2;
  let e0 : Bool × Unit := (fieldsOf (Node.mk x1 x2 x3 x4 x5 x6 w) i, ());
  Small RU (Sigma.mk (Ty.slice (3 : Nat) (Ty.int IntKind.i64)) w) →
  ((x1 == (0 : Int)) = true → (x2 == (0 : Int) && x3 == (0 : Int) && x4 == (0 : Int) && x5 == (0 : Int) && x6 == (0 : Int) && List.all w isWord, ()) = e0) ∧
    ((x1 == (0 : Int)) = false →
      ((x1 == (1 : Int)) = true → (e1 && lies x3 (0 : Int) e2 && x4 == (0 : Int) && x5 == (0 : Int) && x6 == (0 : Int) && (↑(List.length w) : Int) == (0 : Int), ()) = e0) ∧
        ((x1 == (1 : Int)) = false →
          ((x1 == (2 : Int)) = true → (e1 && x3 == (0 : Int) && x6 == (0 : Int) && (↑(List.length w) : Int) == (0 : Int), ()) = e0) ∧
            ((x1 == (2 : Int)) = false →
              ((x1 == (3 : Int)) = true → (e1 && x3 == (0 : Int) && x4 == (0 : Int) && x5 == (0 : Int) && isWord x6 && (↑(List.length w) : Int) == (0 : Int), ()) = e0) ∧
                ((x1 == (3 : Int)) = false → (false, ()) = e0))))) := by kernel_rfl

theorem valid_eq (l : List Node) : vc (EV [(82, cFields), (47, cLens), (74, cIsPart)]) (lValid l) Go.Proofs.Tryd.f73 cValid (l, ()) = (Small RU (Sigma.mk (Ty.slice (56 : Nat) (Ty.user (0 : Nat))) l) →
  (∃ (p : Int × Unit),
      l = l ∧ (0 : Int) = p.fst ∧ l = l ∧ (0 : Int) ≤ p.fst ∧ p.fst ≤ (↑(List.length l) : Int) ∧ ∀ (i : Nat), i < Int.toNat p.fst → fieldsOf (List.getD l i node0) (↑i : Int) = true) ∧
    ∀ (p : Int × Unit),
      let e2 : Node := Node.mk (0 : Int) (0 : Int) (0 : Int) (0 : Int) (0 : Int) (0 : Int) [];
      let e1 : Bool := decide (p.fst < (↑(List.length l) : Int));
      let e0 : Node := List.getD l (Int.toNat p.fst) e2;
      ((0 : Int) ≤ p.fst ∧ p.fst ≤ (↑(List.length l) : Int) ∧ ∀ (i : Nat), i < Int.toNat p.fst → fieldsOf (List.getD l i node0) (↑i : Int) = true) →
        (e1 = true →
            ((0 : Int) ≤ p.fst ∧ p.fst < (↑(List.length l) : Int)) ∧
              ((0 : Int) ≤ p.fst ∧ p.fst ≤ (4000000 : Int)) ∧
                ((!fieldsOf (Node.mk e0.kind e0.a e0.b e0.from_ e0.len e0.n e0.words) p.fst) = true → (false, ()) = (validOf l, ())) ∧
                  ((!fieldsOf (Node.mk e0.kind e0.a e0.b e0.from_ e0.len e0.n e0.words) p.fst) = false →
                    ∃ (p' : Int × Unit),
                      l = l ∧
                        IntKind.wrap IntKind.i64 (p.fst + (1 : Int)) = p'.fst ∧
                          l = l ∧
                            ((0 : Int) ≤ p'.fst ∧ p'.fst ≤ (↑(List.length l) : Int) ∧ ∀ (i : Nat), i < Int.toNat p'.fst → fieldsOf (List.getD l i node0) (↑i : Int) = true) ∧
                              List.length l - Int.toNat p'.fst < List.length l - Int.toNat p.fst)) ∧
          (e1 = false →
            (List.length l ≤ (17592186044416 : Nat) ∧
                ∀ (i : Nat) (x : Node),
                  l[i]? = some x →
                    (x.kind = (1 : Int) → ((0 : Int) ≤ x.a ∧ x.a < (↑i : Int)) ∧ (0 : Int) ≤ x.b ∧ x.b < (↑i : Int)) ∧
                      (x.kind ≠ (0 : Int) → x.kind ≠ (1 : Int) → x.kind ≠ (2 : Int) → (0 : Int) ≤ x.a ∧ x.a < (↑i : Int))) ∧
              (∃ (p_1 : Int × Unit),
                  l = l ∧
                    p.fst = p.fst ∧
                      e1 = e1 ∧
                        (0 : Int) = p_1.fst ∧
                          l = l ∧
                            lensOf l = lensOf l ∧
                              (0 : Int) ≤ p_1.fst ∧
                                p_1.fst ≤ (↑(List.length l) : Int) ∧ ∀ (i : Nat), i < Int.toNat p_1.fst → nodeOk (lensOf l) (List.getD l i node0) (List.getD (lensOf l) i (0 : Int)) = true) ∧
                ∀ (p_1 : Int × Unit),
                  let e4 : Int := (↑(List.length (lensOf l)) : Int);
                  let e3 : Bool := decide (p_1.fst < (↑(List.length l) : Int));
                  let e2_1 : Bool := e1;
                  let e1 : Bool := decide (List.getD (lensOf l) (Int.toNat p_1.fst) (0 : Int) > (1048576 : Int));
                  let e0 : Node := List.getD l (Int.toNat p_1.fst) e2;
                  ((0 : Int) ≤ p_1.fst ∧ p_1.fst ≤ (↑(List.length l) : Int) ∧ ∀ (i : Nat), i < Int.toNat p_1.fst → nodeOk (lensOf l) (List.getD l i node0) (List.getD (lensOf l) i (0 : Int)) = true) →
                    (e3 = true →
                        ((0 : Int) ≤ p_1.fst ∧ p_1.fst < (↑(List.length l) : Int)) ∧
                          ((0 : Int) ≤ p_1.fst ∧ p_1.fst < e4) ∧
                            (e1 = false → (e0.kind == (2 : Int)) = true → (0 : Int) ≤ e0.a ∧ e0.a < e4) ∧
                              ((e1 || e0.kind == (2 : Int) && !isPartOf (List.getD (lensOf l) (Int.toNat e0.a) (0 : Int)) e0.from_ e0.len) = true → (false, ()) = (validOf l, ())) ∧
                                ((e1 || e0.kind == (2 : Int) && !isPartOf (List.getD (lensOf l) (Int.toNat e0.a) (0 : Int)) e0.from_ e0.len) = false →
                                  ∃ (p' : Int × Unit),
                                    l = l ∧
                                      p.fst = p.fst ∧
                                        e2_1 = e2_1 ∧
                                          IntKind.wrap IntKind.i64 (p_1.fst + (1 : Int)) = p'.fst ∧
                                            l = l ∧
                                              lensOf l = lensOf l ∧
                                                ((0 : Int) ≤ p'.fst ∧
                                                    p'.fst ≤ (↑(List.length l) : Int) ∧
                                                      ∀ (i : Nat), i < Int.toNat p'.fst → nodeOk (lensOf l) (List.getD l i node0) (List.getD (lensOf l) i (0 : Int)) = true) ∧
                                                  List.length l - Int.toNat p'.fst < List.length l - Int.toNat p_1.fst)) ∧
                      (e3 = false → (true, ()) = (validOf l, ())))) := by kernel_rfl

theorem check_eq (l : List Node) : vc (EV [(73, cValid)]) noL Go.Proofs.Tryd.f34 cCheck (l, ()) = (let e0 : Bool := decide ((↑(List.length l) : Int) > (4000 : Int));
  Small RU (Sigma.mk (Ty.slice (56 : Nat) (Ty.user (0 : Nat))) l) →
  (e0 = true → ((3 : Int), ()) = (checkOf l, ())) ∧
    (e0 = false → List.length l ≤ (4000 : Nat) ∧ ((!validOf l) = true → ((1 : Int), ()) = (checkOf l, ())) ∧ ((!validOf l) = false → ((0 : Int), ()) = (checkOf l, ())))) := by kernel_rfl

theorem asked_eq (l : List Node) (r : List Int) : vc (EV [(34, cCheck), (41, cLies)]) (lAsked l r) Go.Proofs.Tryd.f50 cAsked (l, r, ()) = (Small RU (Sigma.mk (Ty.slice (56 : Nat) (Ty.user (0 : Nat))) l) →
  Small RU (Sigma.mk (Ty.slice (3 : Nat) (Ty.int IntKind.i64)) r) →
    ((checkOf l != (0 : Int)) = true → (checkOf l, ()) = (askedOf l r, ())) ∧
      ((checkOf l != (0 : Int)) = false →
        (∃ (p : Int × Unit),
            l = l ∧
              r = r ∧
                checkOf l = checkOf l ∧
                  (checkOf l != (0 : Int)) = (checkOf l != (0 : Int)) ∧
                    (0 : Int) = p.fst ∧
                      l = l ∧
                        (0 : Int) ≤ p.fst ∧
                          p.fst ≤ (↑(List.length r) : Int) ∧
                            checkOf l = (0 : Int) ∧ ∀ (i : Nat), i < Int.toNat p.fst → lies (List.getD r i (0 : Int)) (0 : Int) ((↑(List.length l) : Int) - (1 : Int)) = true) ∧
          ∀ (p : Int × Unit),
            let e1 : Bool := decide (p.fst < (↑(List.length r) : Int));
            let e0 : Bool := !lies (List.getD r (Int.toNat p.fst) (0 : Int)) (0 : Int) (IntKind.wrap IntKind.i64 ((↑(List.length l) : Int) - (1 : Int)));
            ((0 : Int) ≤ p.fst ∧
                p.fst ≤ (↑(List.length r) : Int) ∧ checkOf l = (0 : Int) ∧ ∀ (i : Nat), i < Int.toNat p.fst → lies (List.getD r i (0 : Int)) (0 : Int) ((↑(List.length l) : Int) - (1 : Int)) = true) →
              (e1 = true →
                  ((0 : Int) ≤ p.fst ∧ p.fst < (↑(List.length r) : Int)) ∧
                    (e0 = true → ((2 : Int), ()) = (askedOf l r, ())) ∧
                      (e0 = false →
                        ∃ (p' : Int × Unit),
                          l = l ∧
                            r = r ∧
                              checkOf l = checkOf l ∧
                                (checkOf l != (0 : Int)) = (checkOf l != (0 : Int)) ∧
                                  IntKind.wrap IntKind.i64 (p.fst + (1 : Int)) = p'.fst ∧
                                    l = l ∧
                                      ((0 : Int) ≤ p'.fst ∧
                                          p'.fst ≤ (↑(List.length r) : Int) ∧
                                            checkOf l = (0 : Int) ∧ ∀ (i : Nat), i < Int.toNat p'.fst → lies (List.getD r i (0 : Int)) (0 : Int) ((↑(List.length l) : Int) - (1 : Int)) = true) ∧
                                        List.length r - Int.toNat p'.fst < List.length r - Int.toNat p.fst)) ∧
                (e1 = false → ((0 : Int), ()) = (askedOf l r, ())))) := by kernel_rfl

end Go.Rp
end

section
set_option linter.unusedVariables false
set_option linter.unusedSimpArgs false
set_option maxRecDepth 100000
namespace Go.Rp
open Go Go.VT

theorem lensOf_snoc (l : List Node) (x : Node) : lensOf (l ++ [x]) = lensOf l ++ [lenOf (lensOf l) x] := by simp [lensOf]
theorem lensOf_length (l : List Node) : (lensOf l).length = l.length := by
  have : ∀ (l : List Node) (out : List Int), (l.foldl (fun out x => out ++ [lenOf out x]) out).length = out.length + l.length := by
    intro l
    induction l with
    | nil => intro out; rfl
    | cons x l ih => intro out; rw [List.foldl_cons, ih]; simp; omega
  unfold lensOf
  simpa using this l []

theorem imin (x : Int) : (if (2097152 : Int) < x then 2097152 else x) = min x 2097152 := by
  rw [Int.min_def]; split <;> split <;> omega

theorem lens_vc (l : List Node) (hlen : l.length ≤ 17592186044416) (hah : ∀ (i : Nat) (x : Node), l[i]? = some x → ahead x i) : vc (EV []) (lLens l) Go.Proofs.Tryd.f47 cLens (l, ()) := (lens_eq l).mpr (by
  intro _
  refine ⟨⟨(0, [], ()), rfl, rfl, rfl, rfl, Int.le_refl _, by dsimp only; omega, rfl⟩, ?_⟩
  rintro ⟨i, out, ⟨⟩⟩ e3 e2 e1 e0 ⟨h0, h1, h2⟩
  dsimp only at h0 h1 h2
  obtain ⟨m, rfl⟩ := Int.eq_ofNat_of_zero_le h0
  rw [Int.toNat_natCast] at h2
  refine ⟨fun h3 => ?_, fun h3 => ?_⟩
  · have hlt : m < l.length := by simpa [e3] using h3
    have he0 : e0 = l.getD m node0 := rfl
    have hx : l[m]? = some e0 := by rw [he0]; simp [List.getD, List.getElem?_eq_getElem hlt]
    have hout : out.length = m := by rw [h2, lensOf_length]; simp; omega
    have ha := hah m e0 hx
    have fin : ∀ v, v = lenOf out e0 → ((out.length + [v].length) * 8 ≤ 140737488355328 ∧ ∃ p' : Int × List Int × Unit, l = l ∧ e1 = p'.1 ∧ l = l ∧ out ++ [v] = p'.2.1 ∧ (0 ≤ p'.1 ∧ p'.1 ≤ l.length ∧ p'.2.1 = lensOf (l.take p'.1.toNat)) ∧ l.length - p'.1.toNat < e2) := by
      intro v hv
      refine ⟨by simp [hout]; omega, ((m + 1 : Nat), out ++ [v], ()), rfl, ?_, rfl, rfl, ⟨by dsimp only; omega, by dsimp only; omega, ?_⟩, ?_⟩
      · simp only [e1]; rw [w64_id (by omega) (by omega)]; rfl
      · dsimp only; rw [Int.toNat_natCast, take_succ_getD hlt node0, lensOf_snoc, ← h2, hv, he0]
      · simp only [e2, Int.toNat_natCast]; omega
    clear_value e0
    clear e3 h3
    obtain ⟨ha1, ha2⟩ := ha
    dsimp only
    refine ⟨⟨h0, by omega⟩, fun hk => fin _ ?_, fun hk => ⟨fun hk1 => ⟨?_, ?_, fin _ ?_⟩, fun hk1 => ⟨fun hk2 => fin _ ?_, fun hk2 => ⟨?_, fin _ ?_⟩⟩⟩⟩
    · rw [imin, lenOf, if_pos (by simpa using hk)]
    · have := (ha1 (by simpa using hk1)).1
      omega
    · have := (ha1 (by simpa using hk1)).2
      omega
    · rw [imin, lenOf, if_neg (by simpa using hk), if_pos (by simpa using hk1)]
      rfl
    · rw [imin, lenOf, if_neg (by simpa using hk), if_neg (by simpa using hk1), if_pos (by simpa using hk2)]
    · have := ha2 (by simpa using hk) (by simpa using hk1) (by simpa using hk2)
      omega
    · rw [imin, lenOf, if_neg (by simpa using hk), if_neg (by simpa using hk1), if_neg (by simpa using hk2)]
      rfl
  · have : m = l.length := by
      have : ¬ ((m : Int) < l.length) := by simpa [e3] using h3
      omega
    subst this
    rw [List.take_length] at h2
    rw [h2])
theorem lens_gives : Gives prog RG 47 cLens := gives allNil (fun p => lLens p.1) (by kernel_rfl) (by kernel_rfl) (by kernel_rfl) fun (l, ()) hp => lens_vc l hp.1 hp.2

theorem isPart_gives : Gives prog RG 74 cIsPart := gives (allCons lies_gives allNil) (fun _ => noL) (by kernel_rfl) (by kernel_rfl) (by kernel_rfl) fun (n, f, m, ()) _ => (isPart_eq n f m).mpr rfl

theorem nil_len (w : List Int) : (((w.length : Int) == 0) : Bool) = decide (w = []) := by
  cases w with
  | nil => rfl
  | cons a w =>
    rw [Bool.eq_iff_iff]
    simp
    omega

theorem fields_vc (x1 x2 x3 x4 x5 x6 : Int) (w : List Int) (i : Int) (hi : 0 ≤ i ∧ i ≤ 4000000) : vc (EV [(41, cLies), (71, cWords), (75, cIsWord)]) noL Go.Proofs.Tryd.f82 cFields (x1, x2, x3, x4, x5, x6, w, i, ()) := (fields_eq x1 x2 x3 x4 x5 x6 w i).mpr (by
  intro e2 e1 e0 hs
  have he2 : e2 = i - 1 := w64_id (by omega) (by omega)
  have key : ∀ b : Bool, b = fieldsOf ⟨x1, x2, x3, x4, x5, x6, w⟩ i → (b, ()) = e0 := by rintro b rfl; rfl
  have he1 : e1 = lies x2 0 e2 := rfl
  clear_value e2 e1 e0
  subst he2; subst he1
  refine ⟨fun h1 => key _ ?_, fun h1 => ⟨fun h2 => key _ ?_, fun h2 => ⟨fun h3 => key _ ?_, fun h3 => ⟨fun h4 => key _ ?_, fun h4 => key _ ?_⟩⟩⟩⟩
  · rw [fieldsOf, if_pos (by simpa using h1), Bool.eq_iff_iff]; simp [and_assoc]
  · rw [fieldsOf, if_neg (by simpa using h1), if_pos (by simpa using h2), nil_len, Bool.eq_iff_iff]; simp [and_assoc]
  · rw [fieldsOf, if_neg (by simpa using h1), if_neg (by simpa using h2), if_pos (by simpa using h3), nil_len, Bool.eq_iff_iff]; simp [and_assoc]
  · rw [fieldsOf, if_neg (by simpa using h1), if_neg (by simpa using h2), if_neg (by simpa using h3), if_pos (by simpa using h4), nil_len, Bool.eq_iff_iff]; simp [and_assoc]
    intro _ _ _ _
    exact and_comm
  · rw [fieldsOf, if_neg (by simpa using h1), if_neg (by simpa using h2), if_neg (by simpa using h3), if_neg (by simpa using h4)])
theorem fields_gives : Gives prog RG 82 cFields := gives (allCons lies_gives (allCons words_gives (allCons isWord_gives allNil))) (fun _ => noL) (by kernel_rfl) (by kernel_rfl) (by kernel_rfl) fun (x1, x2, x3, x4, x5, x6, w, i, ()) hp => fields_vc x1 x2 x3 x4 x5 x6 w i hp

theorem fieldsAll_iff (l : List Node) : fieldsAll l = true ↔ ∀ i : Nat, i < l.length → fieldsOf (l.getD i node0) i = true := by simp [fieldsAll]

theorem lies_iff {n lo hi : Int} : lies n lo hi = true ↔ lo ≤ n ∧ n ≤ hi := by simp [lies]

theorem fields_ahead {x : Node} {i : Nat} (h : fieldsOf x i = true) : ahead x i := by
  unfold fieldsOf at h
  refine ⟨fun hk => ?_, fun h0 h1 h2 => ?_⟩
  · rw [if_neg (by omega), if_pos hk] at h
    simp only [Bool.and_eq_true, lies_iff] at h
    omega
  · rw [if_neg h0, if_neg h1, if_neg h2] at h
    split at h
    · simp only [Bool.and_eq_true, lies_iff] at h
      omega
    · cases h

theorem fields_a {x : Node} {i : Nat} (h : fieldsOf x i = true) (hk : x.kind ≠ 0) : 0 ≤ x.a ∧ x.a < i := by
  unfold fieldsOf at h
  rw [if_neg hk] at h
  split at h
  · simp only [Bool.and_eq_true, lies_iff] at h; omega
  · split at h
    · simp only [Bool.and_eq_true, lies_iff] at h; omega
    · split at h
      · simp only [Bool.and_eq_true, lies_iff] at h; omega
      · cases h

theorem valid_vc (l : List Node) (hl : l.length ≤ 4000) : vc (EV [(82, cFields), (47, cLens), (74, cIsPart)]) (lValid l) Go.Proofs.Tryd.f73 cValid (l, ()) := (valid_eq l).mpr (by
  intro hs
  refine ⟨⟨(0, ()), rfl, rfl, rfl, Int.le_refl _, by dsimp only; omega, fun i hi => by simp at hi⟩, ?_⟩
  rintro ⟨i, ⟨⟩⟩
  dsimp only
  rintro ⟨h0, h1, h2⟩
  obtain ⟨m, rfl⟩ := Int.eq_ofNat_of_zero_le h0
  simp only [Int.toNat_natCast, decide_eq_true_eq, decide_eq_false_iff_not] at h2 ⊢
  refine ⟨fun hlt => ⟨⟨h0, hlt⟩, by omega, fun hb => ?_, fun hb => ?_⟩, fun hge => ?_⟩
  · have : validOf l = false := by
      unfold validOf
      have : fieldsAll l = false := by
        rw [← Bool.not_eq_true, fieldsAll_iff]
        intro hall
        have := hall m (by omega)
        have hb : fieldsOf (l.getD m node0) m = false := by simpa only [Bool.not_eq_true'] using hb
        rw [hb] at this
        cases this
      rw [this, Bool.false_and]
    rw [this]
  · refine ⟨((m + 1 : Nat), ()), by trivial, ?_, by trivial, ⟨by omega, by dsimp only; omega, fun i hi => ?_⟩, by dsimp only; omega⟩
    · rw [w64_id (by omega) (by omega)]; rfl
    · dsimp only at hi
      rw [Int.toNat_natCast] at hi
      rcases Nat.lt_succ_iff_lt_or_eq.1 hi with h3 | h3
      · exact h2 i h3
      · subst h3; simpa using hb
  · have hm : m = l.length := by omega
    subst hm
    have hall := h2
    have hfa : fieldsAll l = true := (fieldsAll_iff l).2 h2
    have hget : ∀ (i : Nat) (x : Node), l[i]? = some x → i < l.length ∧ l.getD i node0 = x := by
      intro i x hx
      obtain ⟨h3, h4⟩ := List.getElem?_eq_some_iff.1 hx
      exact ⟨h3, by simp [List.getD, hx]⟩
    refine ⟨⟨by omega, fun i x hx => ?_⟩, ⟨(0, ()), by trivial, by trivial, by trivial, by trivial, by trivial, by trivial, Int.le_refl _, by dsimp only; omega, fun i hi => by simp at hi⟩, ?_⟩
    · obtain ⟨h3, h4⟩ := hget i x hx
      have := fields_ahead (h2 i h3)
      rw [h4] at this
      exact this
    · rintro ⟨i, ⟨⟩⟩
      dsimp only
      rintro ⟨q0, q1, q2⟩
      obtain ⟨m, rfl⟩ := Int.eq_ofNat_of_zero_le q0
      simp only [Int.toNat_natCast, decide_eq_true_eq, decide_eq_false_iff_not] at q2 ⊢
      have hnode : ∀ hlt : m < l.length, (decide ((lensOf l).getD m 0 > 1048576) || (l.getD m node0).kind == 2 && !isPartOf ((lensOf l).getD (l.getD m node0).a.toNat 0) (l.getD m node0).from_ (l.getD m node0).len) = !nodeOk (lensOf l) (l.getD m node0) ((lensOf l).getD m 0) := by
        intro hlt
        unfold nodeOk at_
        rw [Bool.eq_iff_iff]
        by_cases hk : (l.getD m node0).kind = 2
        · simp [hk]
        · simp [hk]
      refine ⟨fun hlt => ⟨⟨q0, hlt⟩, ⟨q0, by rw [lensOf_length]; exact hlt⟩, fun _ hk => ?_, fun hb => ?_, fun hb => ?_⟩, fun hge => ?_⟩
      · have hk' : (l.getD m node0).kind = 2 := by simpa only [beq_iff_eq] using hk
        have := fields_a (hall m (by omega)) (by omega)
        rw [lensOf_length]
        show 0 ≤ (l.getD m node0).a ∧ (l.getD m node0).a < _
        omega
      · have hb' := hnode (by omega)
        have hno : nodeOk (lensOf l) (l.getD m node0) ((lensOf l).getD m 0) = false := by
          have h5 : (!nodeOk (lensOf l) (l.getD m node0) ((lensOf l).getD m 0)) = true := hb'.symm.trans hb
          simpa using h5
        have : validOf l = false := by
          unfold validOf
          rw [hfa, Bool.true_and, ← Bool.not_eq_true, List.all_eq_true]
          intro h6
          have := h6 m (by simp; omega)
          rw [hno] at this
          cases this
        rw [this]
      · have hb' := hnode (by omega)
        have hyes : nodeOk (lensOf l) (l.getD m node0) ((lensOf l).getD m 0) = true := by
          have h5 : (!nodeOk (lensOf l) (l.getD m node0) ((lensOf l).getD m 0)) = false := hb'.symm.trans hb
          simpa using h5
        refine ⟨((m + 1 : Nat), ()), by trivial, by trivial, by trivial, ?_, by trivial, by trivial, ⟨by omega, by dsimp only; omega, fun i hi => ?_⟩, by dsimp only; omega⟩
        · rw [w64_id (by omega) (by omega)]; rfl
        · dsimp only at hi
          rw [Int.toNat_natCast] at hi
          rcases Nat.lt_succ_iff_lt_or_eq.1 hi with h3 | h3
          · exact q2 i h3
          · subst h3; exact hyes
      · have hm : m = l.length := by omega
        subst hm
        have : validOf l = true := by
          unfold validOf
          rw [hfa, Bool.true_and, List.all_eq_true]
          intro i hi
          exact q2 i (by simpa using hi)
        rw [this])
theorem valid_gives : Gives prog RG 73 cValid := gives (allCons fields_gives (allCons lens_gives (allCons isPart_gives allNil))) (fun p => lValid p.1) (by kernel_rfl) (by kernel_rfl) (by kernel_rfl) fun (l, ()) hp => valid_vc l hp

theorem check_vc (l : List Node) : vc (EV [(73, cValid)]) noL Go.Proofs.Tryd.f34 cCheck (l, ()) := (check_eq l).mpr (by
  intro e0 hs
  simp only [e0, decide_eq_true_eq, decide_eq_false_iff_not]
  refine ⟨fun h => ?_, fun h => ⟨by omega, fun hv => ?_, fun hv => ?_⟩⟩
  · rw [checkOf, if_pos (by omega)]
  · rw [checkOf, if_neg (by omega), if_neg (by simpa using hv)]
  · rw [checkOf, if_neg (by omega), if_pos (by simpa using hv)])
theorem check_gives : Gives prog RG 34 cCheck := gives (allCons valid_gives allNil) (fun _ => noL) (by kernel_rfl) (by kernel_rfl) (by kernel_rfl) fun (l, ()) _ => check_vc l
theorem asked_vc (l : List Node) (r : List Int) : vc (EV [(34, cCheck), (41, cLies)]) (lAsked l r) Go.Proofs.Tryd.f50 cAsked (l, r, ()) := (asked_eq l r).mpr (by
  intro hs1 hs2
  have hl1 : l.length ≤ 140737488355328 := hs1.len
  have hl2 : r.length ≤ 140737488355328 := hs2.len
  have hw : IntKind.i64.wrap ((l.length : Int) - 1) = l.length - 1 := w64_id (by omega) (by omega)
  refine ⟨fun h => ?_, fun h => ⟨⟨(0, ()), rfl, rfl, rfl, rfl, rfl, rfl, Int.le_refl _, by dsimp only; omega, by simpa using h, fun i hi => by simp at hi⟩, ?_⟩⟩
  · rw [askedOf, if_pos (by simpa using h)]
  · have h0 : checkOf l = 0 := by simpa using h
    rintro ⟨i, ⟨⟩⟩
    dsimp only
    rintro ⟨q0, q1, _, q2⟩
    obtain ⟨m, rfl⟩ := Int.eq_ofNat_of_zero_le q0
    simp only [Int.toNat_natCast, decide_eq_true_eq, decide_eq_false_iff_not, hw] at q2 ⊢
    have hask : askedOf l r = if r.all fun r => lies r 0 (l.length - 1) then 0 else 2 := by rw [askedOf, if_neg (by simp [h0])]
    refine ⟨fun hlt => ⟨⟨q0, hlt⟩, fun hb => ?_, fun hb => ?_⟩, fun hge => ?_⟩
    · rw [hask, if_neg]
      intro hall
      have := List.all_eq_true.1 hall (r.getD m 0) (by simp only [List.getD, List.getElem?_eq_getElem (show m < r.length by omega)]; exact List.getElem_mem _)
      rw [this] at hb
      cases hb
    · refine ⟨((m + 1 : Nat), ()), by trivial, by trivial, by trivial, by trivial, ?_, by trivial, ⟨by omega, by dsimp only; omega, h0, fun i hi => ?_⟩, by dsimp only; omega⟩
      · rw [w64_id (by omega) (by omega)]; rfl
      · dsimp only at hi
        rw [Int.toNat_natCast] at hi
        rcases Nat.lt_succ_iff_lt_or_eq.1 hi with h3 | h3
        · exact q2 i h3
        · subst h3; simpa only [Bool.not_eq_false'] using hb
    · rw [hask, if_pos]
      rw [List.all_eq_true]
      intro x hx
      obtain ⟨i, hi, rfl⟩ := List.mem_iff_getElem.1 hx
      have := q2 i (by omega)
      simpa only [List.getD, List.getElem?_eq_getElem hi, Option.getD_some] using this)
theorem asked_gives : Gives prog RG 50 cAsked := gives (allCons check_gives (allCons lies_gives allNil)) (fun p => lAsked p.1 p.2.1) (by kernel_rfl) (by kernel_rfl) (by kernel_rfl) fun (l, r, ()) _ => asked_vc l r

end Go.Rp
end

section
set_option linter.unusedVariables false
set_option maxRecDepth 100000
open Go Go.VT
namespace Go.Rp

theorem own_eq (x1 x2 x3 x4 x5 x6 : Int) (w : List Int) : vc (EV []) noL Go.Proofs.Tryd.f66 cOwn (x1, x2, x3, x4, x5, x6, w, ()) = (Small RU (Sigma.mk (Ty.slice (3 : Nat) (Ty.int IntKind.i64)) w) →
  ((0 : Nat) + List.length w) * (8 : Nat) ≤ (140737488355328 : Nat) ∧ (x1, x2, x3, x4, x5, x6, [] ++ w, ()) = (x1, x2, x3, x4, x5, x6, w, ())) := by kernel_rfl

theorem copied_eq (l : List Node) : vc (EV [(66, cOwn)]) (lCopied l) Go.Proofs.Tryd.f63 cCopied (l, ()) = (Small RU (Sigma.mk (Ty.slice (56 : Nat) (Ty.user (0 : Nat))) l) →
  (∃ (p : Int × List Node × Unit), l = l ∧ (0 : Int) = p.fst ∧ l = l ∧ [] = p.snd.fst ∧ (0 : Int) ≤ p.fst ∧ p.fst ≤ (↑(List.length l) : Int) ∧ p.snd.fst = List.take (Int.toNat p.fst) l) ∧
    ∀ (p : Int × List Node × Unit),
      let e1 : Bool := decide (p.fst < (↑(List.length l) : Int));
      let e0 : Node := List.getD l (Int.toNat p.fst) (Node.mk (0 : Int) (0 : Int) (0 : Int) (0 : Int) (0 : Int) (0 : Int) []);
      (0 : Int) ≤ p.fst ∧ p.fst ≤ (↑(List.length l) : Int) ∧ p.snd.fst = List.take (Int.toNat p.fst) l →
        (e1 = true →
            ((0 : Int) ≤ p.fst ∧ p.fst < (↑(List.length l) : Int)) ∧
              List.length e0.words ≤ (17592186044416 : Nat) ∧
                (List.length p.snd.fst + List.length [Node.mk e0.kind e0.a e0.b e0.from_ e0.len e0.n e0.words]) * (72 : Nat) ≤ (140737488355328 : Nat) ∧
                  ∃ (p' : Int × List Node × Unit),
                    l = l ∧
                      IntKind.wrap IntKind.i64 (p.fst + (1 : Int)) = p'.fst ∧
                        l = l ∧
                          p.snd.fst ++ [Node.mk e0.kind e0.a e0.b e0.from_ e0.len e0.n e0.words] = p'.snd.fst ∧
                            ((0 : Int) ≤ p'.fst ∧ p'.fst ≤ (↑(List.length l) : Int) ∧ p'.snd.fst = List.take (Int.toNat p'.fst) l) ∧
                              List.length l - Int.toNat p'.fst < List.length l - Int.toNat p.fst) ∧
          (e1 = false → (p.snd.fst, ()) = (l, ()))) := by kernel_rfl

theorem more_eq (l : List Node) (x1 x2 x3 x4 x5 x6 : Int) (w : List Int) : vc (EV [(66, cOwn), (63, cCopied), (47, cLens.frozen)]) noL Go.Proofs.Tryd.f72 cMore (l, x1, x2, x3, x4, x5, x6, w, ()) = (let e0 : Node := Node.mk x1 x2 x3 x4 x5 x6 w;
  Small RU (Sigma.mk (Ty.slice (56 : Nat) (Ty.user (0 : Nat))) l) →
  Small RU (Sigma.mk (Ty.slice (3 : Nat) (Ty.int IntKind.i64)) w) →
    (List.length l ≤ (4000000 : Nat) ∧ ∀ (x : Node), List.Mem x l → List.length x.words ≤ (4000000 : Nat)) ∧
      List.length w ≤ (17592186044416 : Nat) ∧
        (List.length l + List.length [e0]) * (72 : Nat) ≤ (140737488355328 : Nat) ∧
          (decide ((↑(List.length (l ++ [e0])) : Int) > (4000 : Int)) = false →
              List.length (l ++ [e0]) ≤ (17592186044416 : Nat) ∧
                ∀ (i : Nat) (x : Node),
                  (l ++ [e0])[i]? = some x →
                    (x.kind = (1 : Int) → ((0 : Int) ≤ x.a ∧ x.a < (↑i : Int)) ∧ (0 : Int) ≤ x.b ∧ x.b < (↑i : Int)) ∧
                      (x.kind ≠ (0 : Int) → x.kind ≠ (1 : Int) → x.kind ≠ (2 : Int) → (0 : Int) ≤ x.a ∧ x.a < (↑i : Int))) ∧
            (decide ((↑(List.length (l ++ [e0])) : Int) > (4000 : Int)) = false → (0 : Int) ≤ (↑(List.length l) : Int) ∧ (↑(List.length l) : Int) < (↑(List.length (lensOf (l ++ [e0]))) : Int)) ∧
              ((decide ((↑(List.length (l ++ [e0])) : Int) > (4000 : Int)) || decide (List.getD (lensOf (l ++ [e0])) (Int.toNat (↑(List.length l) : Int)) (0 : Int) > (1048576 : Int))) = true →
                  ([], (0 : Int), (9 : Int), ()) = ((moreOf l e0).fst, (moreOf l e0).snd.fst, (moreOf l e0).snd.snd, ())) ∧
                ((decide ((↑(List.length (l ++ [e0])) : Int) > (4000 : Int)) || decide (List.getD (lensOf (l ++ [e0])) (Int.toNat (↑(List.length l) : Int)) (0 : Int) > (1048576 : Int))) = false →
                  (l ++ [e0], (↑(List.length l) : Int), (0 : Int), ()) = ((moreOf l e0).fst, (moreOf l e0).snd.fst, (moreOf l e0).snd.snd, ()))) := by kernel_rfl

theorem wordsR_eq (l : List Node) (w : List Int) : vc (EV [(50, cAsked), (71, cWords), (72, cMore)]) noL Go.Proofs.Tryd.f30 cWordsR (l, w, ()) = (let e1 : List Node × Int × Int × Unit := ((wordsOf l w).fst, (wordsOf l w).snd.fst, (wordsOf l w).snd.snd, ());
  let e0 : List Node × Int × Int := moreOf l (Node.mk (0 : Int) (0 : Int) (0 : Int) (0 : Int) (0 : Int) (0 : Int) w);
  Small RU (Sigma.mk (Ty.slice (56 : Nat) (Ty.user (0 : Nat))) l) →
  Small RU (Sigma.mk (Ty.slice (3 : Nat) (Ty.int IntKind.i64)) w) →
    ((askedOf l [] != (0 : Int)) = true → ([], (0 : Int), askedOf l [], ()) = e1) ∧
      ((askedOf l [] != (0 : Int)) = false →
        ((!List.all w isWord) = true → ([], (0 : Int), (2 : Int), ()) = e1) ∧
          ((!List.all w isWord) = false →
            ((List.length l ≤ (4000 : Nat) ∧ ∀ (x : Node), List.Mem x l → List.length x.words ≤ (4000000 : Nat)) ∧
                (∀ (i : Nat) (x : Node),
                    l[i]? = some x →
                      (x.kind = (1 : Int) → ((0 : Int) ≤ x.a ∧ x.a < (↑i : Int)) ∧ (0 : Int) ≤ x.b ∧ x.b < (↑i : Int)) ∧
                        (x.kind ≠ (0 : Int) → x.kind ≠ (1 : Int) → x.kind ≠ (2 : Int) → (0 : Int) ≤ x.a ∧ x.a < (↑i : Int))) ∧
                  (((0 : Int) = (1 : Int) → ((0 : Int) ≤ (0 : Int) ∧ (0 : Int) < (↑(List.length l) : Int)) ∧ (0 : Int) ≤ (0 : Int) ∧ (0 : Int) < (↑(List.length l) : Int)) ∧
                      ((0 : Int) ≠ (0 : Int) → (0 : Int) ≠ (1 : Int) → (0 : Int) ≠ (2 : Int) → (0 : Int) ≤ (0 : Int) ∧ (0 : Int) < (↑(List.length l) : Int))) ∧
                    List.length w ≤ (4000000 : Nat)) ∧
              (e0.fst, e0.snd.fst, e0.snd.snd, ()) = e1))) := by kernel_rfl

theorem catR_eq (l : List Node) (a b : Int) : vc (EV [(50, cAsked), (72, cMore)]) noL Go.Proofs.Tryd.f32 cCatR (l, a, b, ()) = (let e2 : Bool := askedOf l [a, b] != (0 : Int);
  let e1 : List Node × Int × Int × Unit := ((catOf l a b).fst, (catOf l a b).snd.fst, (catOf l a b).snd.snd, ());
  let e0 : List Node × Int × Int := moreOf l (Node.mk (1 : Int) a b (0 : Int) (0 : Int) (0 : Int) []);
  Small RU (Sigma.mk (Ty.slice (56 : Nat) (Ty.user (0 : Nat))) l) →
  (e2 = true → ([], (0 : Int), askedOf l [a, b], ()) = e1) ∧
    (e2 = false →
      ((List.length l ≤ (4000 : Nat) ∧ ∀ (x : Node), List.Mem x l → List.length x.words ≤ (4000000 : Nat)) ∧
          (∀ (i : Nat) (x : Node),
              l[i]? = some x →
                (x.kind = (1 : Int) → ((0 : Int) ≤ x.a ∧ x.a < (↑i : Int)) ∧ (0 : Int) ≤ x.b ∧ x.b < (↑i : Int)) ∧
                  (x.kind ≠ (0 : Int) → x.kind ≠ (1 : Int) → x.kind ≠ (2 : Int) → (0 : Int) ≤ x.a ∧ x.a < (↑i : Int))) ∧
            (((1 : Int) = (1 : Int) → ((0 : Int) ≤ a ∧ a < (↑(List.length l) : Int)) ∧ (0 : Int) ≤ b ∧ b < (↑(List.length l) : Int)) ∧
                ((1 : Int) ≠ (0 : Int) → (1 : Int) ≠ (1 : Int) → (1 : Int) ≠ (2 : Int) → (0 : Int) ≤ a ∧ a < (↑(List.length l) : Int))) ∧
              List.length ([] : List Int) ≤ (4000000 : Nat)) ∧
        (e0.fst, e0.snd.fst, e0.snd.snd, ()) = e1)) := by kernel_rfl

theorem partR_eq (l : List Node) (a f m : Int) : vc (EV [(50, cAsked), (47, cLens), (74, cIsPart), (72, cMore)]) noL Go.Proofs.Tryd.f36 cPartR (l, a, f, m, ()) = (let e4 : Bool := askedOf l [a] != (0 : Int);
  let e3 : Int × Int := (partOf l a f m).snd;
  let e2 : Bool := !isPartOf (List.getD (lensOf l) (Int.toNat a) (0 : Int)) f m;
  let e1 : List Node × Int × Int × Unit := ((partOf l a f m).fst, e3.fst, e3.snd, ());
  let e0 : List Node × Int × Int := moreOf l (Node.mk (2 : Int) a (0 : Int) f m (0 : Int) []);
  Small RU (Sigma.mk (Ty.slice (56 : Nat) (Ty.user (0 : Nat))) l) →
  (e4 = true → ([], (0 : Int), askedOf l [a], ()) = e1) ∧
    (e4 = false →
      (List.length l ≤ (17592186044416 : Nat) ∧
          ∀ (i : Nat) (x : Node),
            l[i]? = some x →
              (x.kind = (1 : Int) → ((0 : Int) ≤ x.a ∧ x.a < (↑i : Int)) ∧ (0 : Int) ≤ x.b ∧ x.b < (↑i : Int)) ∧
                (x.kind ≠ (0 : Int) → x.kind ≠ (1 : Int) → x.kind ≠ (2 : Int) → (0 : Int) ≤ x.a ∧ x.a < (↑i : Int))) ∧
        ((0 : Int) ≤ a ∧ a < (↑(List.length (lensOf l)) : Int)) ∧
          (e2 = true → ([], (0 : Int), (2 : Int), ()) = e1) ∧
            (e2 = false →
              ((List.length l ≤ (4000 : Nat) ∧ ∀ (x : Node), List.Mem x l → List.length x.words ≤ (4000000 : Nat)) ∧
                  (∀ (i : Nat) (x : Node),
                      l[i]? = some x →
                        (x.kind = (1 : Int) → ((0 : Int) ≤ x.a ∧ x.a < (↑i : Int)) ∧ (0 : Int) ≤ x.b ∧ x.b < (↑i : Int)) ∧
                          (x.kind ≠ (0 : Int) → x.kind ≠ (1 : Int) → x.kind ≠ (2 : Int) → (0 : Int) ≤ x.a ∧ x.a < (↑i : Int))) ∧
                    (((2 : Int) = (1 : Int) → ((0 : Int) ≤ a ∧ a < (↑(List.length l) : Int)) ∧ (0 : Int) ≤ (0 : Int) ∧ (0 : Int) < (↑(List.length l) : Int)) ∧
                        ((2 : Int) ≠ (0 : Int) → (2 : Int) ≠ (1 : Int) → (2 : Int) ≠ (2 : Int) → (0 : Int) ≤ a ∧ a < (↑(List.length l) : Int))) ∧
                      List.length ([] : List Int) ≤ (4000000 : Nat)) ∧
                (e0.fst, e0.snd.fst, e0.snd.snd, ()) = e1))) := by kernel_rfl

theorem offR_eq (l : List Node) (a n : Int) : vc (EV [(50, cAsked), (75, cIsWord), (72, cMore)]) noL Go.Proofs.Tryd.f38 cOffR (l, a, n, ()) = (let e2 : Bool := askedOf l [a] != (0 : Int);
  let e1 : List Node × Int × Int × Unit := ((offOf l a n).fst, (offOf l a n).snd.fst, (offOf l a n).snd.snd, ());
  let e0 : List Node × Int × Int := moreOf l (Node.mk (3 : Int) a (0 : Int) (0 : Int) (0 : Int) n []);
  Small RU (Sigma.mk (Ty.slice (56 : Nat) (Ty.user (0 : Nat))) l) →
  (e2 = true → ([], (0 : Int), askedOf l [a], ()) = e1) ∧
    (e2 = false →
      ((!isWord n) = true → ([], (0 : Int), (2 : Int), ()) = e1) ∧
        ((!isWord n) = false →
          ((List.length l ≤ (4000 : Nat) ∧ ∀ (x : Node), List.Mem x l → List.length x.words ≤ (4000000 : Nat)) ∧
              (∀ (i : Nat) (x : Node),
                  l[i]? = some x →
                    (x.kind = (1 : Int) → ((0 : Int) ≤ x.a ∧ x.a < (↑i : Int)) ∧ (0 : Int) ≤ x.b ∧ x.b < (↑i : Int)) ∧
                      (x.kind ≠ (0 : Int) → x.kind ≠ (1 : Int) → x.kind ≠ (2 : Int) → (0 : Int) ≤ x.a ∧ x.a < (↑i : Int))) ∧
                (((3 : Int) = (1 : Int) → ((0 : Int) ≤ a ∧ a < (↑(List.length l) : Int)) ∧ (0 : Int) ≤ (0 : Int) ∧ (0 : Int) < (↑(List.length l) : Int)) ∧
                    ((3 : Int) ≠ (0 : Int) → (3 : Int) ≠ (1 : Int) → (3 : Int) ≠ (2 : Int) → (0 : Int) ≤ a ∧ a < (↑(List.length l) : Int))) ∧
                  List.length ([] : List Int) ≤ (4000000 : Nat)) ∧
            (e0.fst, e0.snd.fst, e0.snd.snd, ()) = e1))) := by kernel_rfl

theorem lenR_eq (l : List Node) (a : Int) : vc (EV [(50, cAsked), (47, cLens)]) noL Go.Proofs.Tryd.f14 cLenR (l, a, ()) = (let e1 : Bool := askedOf l [a] != (0 : Int);
  let e0 : Int × Int × Unit := ((lenAt l a).fst, (lenAt l a).snd, ());
  Small RU (Sigma.mk (Ty.slice (56 : Nat) (Ty.user (0 : Nat))) l) →
  (e1 = true → ((0 : Int), askedOf l [a], ()) = e0) ∧
    (e1 = false →
      (List.length l ≤ (17592186044416 : Nat) ∧
          ∀ (i : Nat) (x : Node),
            l[i]? = some x →
              (x.kind = (1 : Int) → ((0 : Int) ≤ x.a ∧ x.a < (↑i : Int)) ∧ (0 : Int) ≤ x.b ∧ x.b < (↑i : Int)) ∧
                (x.kind ≠ (0 : Int) → x.kind ≠ (1 : Int) → x.kind ≠ (2 : Int) → (0 : Int) ≤ x.a ∧ x.a < (↑i : Int))) ∧
        ((0 : Int) ≤ a ∧ a < (↑(List.length (lensOf l)) : Int)) ∧ (List.getD (lensOf l) (Int.toNat a) (0 : Int), (0 : Int), ()) = e0)) := by kernel_rfl

end Go.Rp
end

section
set_option linter.unusedVariables false
set_option linter.unusedSimpArgs false
set_option maxRecDepth 100000
namespace Go.Rp
open Go Go.VT

theorem own_vc (x1 x2 x3 x4 x5 x6 : Int) (w : List Int) (hp : w.length ≤ 17592186044416) : vc (EV []) noL Go.Proofs.Tryd.f66 cOwn (x1, x2, x3, x4, x5, x6, w, ()) := (own_eq x1 x2 x3 x4 x5 x6 w).mpr (by
  intro hs
  exact ⟨by omega, rfl⟩)
theorem own_gives : Gives prog RG 66 cOwn := gives allNil (fun _ => noL) (by kernel_rfl) (by kernel_rfl) (by kernel_rfl) fun (x1, x2, x3, x4, x5, x6, w, ()) hp => own_vc x1 x2 x3 x4 x5 x6 w hp

theorem copied_vc (l : List Node) (hp : few' l) : vc (EV [(66, cOwn)]) (lCopied l) Go.Proofs.Tryd.f63 cCopied (l, ()) := (copied_eq l).mpr (by
  intro hs
  obtain ⟨hl, hf⟩ := hp
  refine ⟨⟨(0, [], ()), rfl, rfl, rfl, rfl, Int.le_refl _, by dsimp only; omega, rfl⟩, ?_⟩
  rintro ⟨i, out, ⟨⟩⟩ e1 e0 ⟨h0, h1, h2⟩
  dsimp only at h0 h1 h2
  obtain ⟨m, rfl⟩ := Int.eq_ofNat_of_zero_le h0
  rw [Int.toNat_natCast] at h2
  refine ⟨fun h3 => ?_, fun h3 => ?_⟩
  · have hlt : m < l.length := by simpa [e1] using h3
    have he0 : e0 = l.getD m node0 := rfl
    have hmem : e0 ∈ l := by rw [he0]; simp only [List.getD, List.getElem?_eq_getElem hlt]; exact List.getElem_mem _
    have hout : out.length = m := by rw [h2]; simp; omega
    clear_value e0
    have hfe := hf e0 hmem
    dsimp only
    refine ⟨⟨h0, by omega⟩, by omega, by rw [hout]; simp; omega, ((m + 1 : Nat), out ++ [e0], ()), by trivial, ?_, by trivial, rfl, ⟨by dsimp only; omega, by dsimp only; omega, ?_⟩, by dsimp only; omega⟩
    · rw [w64_id (by omega) (by omega)]; rfl
    · dsimp only
      rw [Int.toNat_natCast, take_succ_getD hlt node0, ← h2, he0]
  · have : m = l.length := by
      have : ¬ ((m : Int) < l.length) := by simpa [e1] using h3
      omega
    subst this
    rw [List.take_length] at h2
    rw [h2])
theorem copied_gives : Gives prog RG 63 cCopied := gives (allCons own_gives allNil) (fun p => lCopied p.1) (by kernel_rfl) (by kernel_rfl) (by kernel_rfl) fun (l, ()) hp => copied_vc l hp

/-- What is known where nothing is wrong. -/
theorem asked_ok {l : List Node} {r : List Int} (h : askedOf l r = 0) : l.length ≤ 4000 ∧ validOf l = true ∧ ∀ x ∈ r, 0 ≤ x ∧ x < l.length := by
  unfold askedOf at h
  split at h
  · rename_i hc; exact absurd h hc
  · rename_i hc
    have hc : checkOf l = 0 := by simpa using hc
    unfold checkOf at hc
    split at hc
    · cases hc
    · split at hc
      · rename_i hlen hv
        split at h
        · rename_i hr
          refine ⟨by omega, hv, fun x hx => ?_⟩
          have := List.all_eq_true.1 hr x hx
          rw [lies_iff] at this
          omega
        · cases h
      · cases hc

theorem valid_fields {l : List Node} (h : validOf l = true) (i : Nat) (hi : i < l.length) : fieldsOf (l.getD i node0) i = true := by
  unfold validOf at h
  rw [Bool.and_eq_true] at h
  exact (fieldsAll_iff l).1 h.1 i hi

theorem valid_ahead {l : List Node} (h : validOf l = true) (i : Nat) (x : Node) (hx : l[i]? = some x) : ahead x i := by
  obtain ⟨h3, h4⟩ := List.getElem?_eq_some_iff.1 hx
  have := fields_ahead (valid_fields h i h3)
  rwa [show l.getD i node0 = x by simp [List.getD, hx]] at this

theorem valid_node {l : List Node} (h : validOf l = true) (i : Nat) (hi : i < l.length) : nodeOk (lensOf l) (l.getD i node0) ((lensOf l).getD i 0) = true := by
  unfold validOf at h
  rw [Bool.and_eq_true, List.all_eq_true] at h
  exact h.2 i (by simpa using hi)

theorem lensOf_take (l : List Node) : ∀ m, m ≤ l.length → lensOf (l.take m) = (lensOf l).take m := by
  have : ∀ (l : List Node) (m : Nat), m ≤ l.length → lensOf (l.take m) = (lensOf l).take m := by
    intro l
    generalize hn : l.length = n
    induction n generalizing l with
    | zero =>
      intro m hm
      have : l = [] := List.length_eq_zero_iff.1 hn
      subst this
      simp [lensOf]
    | succ n ih =>
      intro m hm
      have hne : l ≠ [] := by intro h; rw [h] at hn; cases hn
      obtain ⟨l', x, rfl⟩ : ∃ l' x, l = l' ++ [x] := ⟨l.dropLast, l.getLast hne, (List.dropLast_concat_getLast hne).symm⟩
      have hl' : l'.length = n := by simpa using hn
      rcases Nat.lt_or_ge m (n + 1) with h | h
      · rw [List.take_append_of_le_length (by omega), ih l' hl' m (by omega), lensOf_snoc, List.take_append_of_le_length (by rw [lensOf_length]; omega)]
      · rw [List.take_of_length_le (by simp; omega), List.take_of_length_le (by rw [lensOf_length]; simp; omega)]
  exact this l

/-- The length of a node that is there. -/
theorem lens_get (l : List Node) (i : Nat) (hi : i < l.length) : (lensOf l).getD i 0 = lenOf ((lensOf l).take i) (l.getD i node0) := by
  have h1 : lensOf (l.take (i + 1)) = (lensOf l).take (i + 1) := lensOf_take l (i + 1) hi
  rw [take_succ_getD hi node0, lensOf_snoc, lensOf_take l i (by omega), take_succ_getD (by rw [lensOf_length]; exact hi) 0] at h1
  have := List.append_cancel_left h1
  simpa using this.symm

/-- Where all is valid the words of nodes are few. -/
theorem valid_few {l : List Node} (h : validOf l = true) : few l := by
  intro x hx
  obtain ⟨i, hi, rfl⟩ := List.mem_iff_getElem.1 hx
  have h1 := valid_node h i hi
  have h2 := valid_fields h i hi
  have hg : l.getD i node0 = l[i] := by simp [List.getD, List.getElem?_eq_getElem hi]
  rw [lens_get l i hi, hg] at h1
  rw [hg] at h2
  unfold nodeOk at h1
  simp only [Bool.and_eq_true, decide_eq_true_eq] at h1
  by_cases hk : l[i].kind = 0
  · have := h1.1
    rw [lenOf, if_pos hk] at this
    omega
  · unfold fieldsOf at h2
    rw [if_neg hk] at h2
    have : l[i].words = [] := by
      split at h2
      · simp only [Bool.and_eq_true, decide_eq_true_eq] at h2; exact h2.2.2.2.2
      · split at h2
        · simp only [Bool.and_eq_true, decide_eq_true_eq] at h2; exact h2.2.2.2
        · split at h2
          · simp only [Bool.and_eq_true, decide_eq_true_eq] at h2; exact h2.1.2.2.2.2
          · cases h2
    rw [this]
    simp

theorem lenR_vc (l : List Node) (a : Int) : vc (EV [(50, cAsked), (47, cLens)]) noL Go.Proofs.Tryd.f14 cLenR (l, a, ()) := (lenR_eq l a).mpr (by
  intro e1 e0 hs
  refine ⟨fun h => ?_, fun h => ?_⟩
  · have h : askedOf l [a] ≠ 0 := by simpa [e1] using h
    simp only [e0, lenAt, if_pos h]
  · have h : askedOf l [a] = 0 := by simpa [e1] using h
    obtain ⟨h1, h2, h3⟩ := asked_ok h
    have ha := h3 a (by simp)
    refine ⟨⟨by omega, valid_ahead h2⟩, by rw [lensOf_length]; exact ha, ?_⟩
    simp only [e0, lenAt, if_neg (show ¬ (askedOf l [a] ≠ 0) by simpa using h)]
    rfl)
theorem lenR_gives : Gives prog RG 14 cLenR := gives (allCons asked_gives (allCons lens_gives allNil)) (fun _ => noL) (by kernel_rfl) (by kernel_rfl) (by kernel_rfl) fun (l, a, ()) _ => lenR_vc l a

theorem more_vc (l : List Node) (x : Node) (hl : l.length ≤ 4000) (hf : few l) (ha : ∀ (i : Nat) (y : Node), l[i]? = some y → ahead y i) (hx : ahead x l.length) (hw : x.words.length ≤ 4000000) :
    vc (EV [(66, cOwn), (63, cCopied), (47, cLens.frozen)]) noL Go.Proofs.Tryd.f72 cMore (l, x.kind, x.a, x.b, x.from_, x.len, x.n, x.words, ()) := (more_eq l x.kind x.a x.b x.from_ x.len x.n x.words).mpr (by
  intro e0 hs1 hs2
  have he0 : e0 = x := rfl
  clear_value e0
  subst he0
  have hah : ∀ (i : Nat) (y : Node), (l ++ [e0])[i]? = some y → ahead y i := by
    intro i y hy
    by_cases hi : i < l.length
    · rw [List.getElem?_append_left hi] at hy
      exact ha i y hy
    · rw [List.getElem?_append_right (by omega)] at hy
      have : i - l.length = 0 := by
        by_cases h0 : i - l.length = 0
        · exact h0
        · rw [List.getElem?_eq_none (by simp; omega)] at hy; cases hy
      rw [this] at hy
      simp only [List.getElem?_cons_zero, Option.some.injEq] at hy
      subst hy
      rw [show i = l.length by omega]
      exact hx
  refine ⟨⟨by omega, hf⟩, by omega, by simp; omega, fun h => ⟨by simp; omega, hah⟩, fun h => ⟨by omega, by rw [lensOf_length]; simp; omega⟩, fun h => ?_, fun h => ?_⟩
  · have : moreOf l e0 = ([], 0, 9) := by
      rw [moreOf, if_pos]
      simp only [List.length_append, List.length_singleton, Bool.or_eq_true, decide_eq_true_eq, Int.toNat_natCast] at h
      omega
    rw [this]
  · have : moreOf l e0 = (l ++ [e0], (l.length : Int), 0) := by
      rw [moreOf, if_neg]
      simp only [List.length_append, List.length_singleton, Bool.or_eq_false_iff, decide_eq_false_iff_not, Int.toNat_natCast] at h
      omega
    rw [this])
theorem more_gives : Gives prog RG 72 cMore := gives (allCons own_gives (allCons copied_gives (allCons (lens_gives.frozen rfl) allNil))) (fun _ => noL) (by kernel_rfl) (by kernel_rfl) (by kernel_rfl) fun (l, x1, x2, x3, x4, x5, x6, w, ()) hp =>
  more_vc l ⟨x1, x2, x3, x4, x5, x6, w⟩ hp.1.1 hp.1.2 hp.2.1 hp.2.2.1 hp.2.2.2

theorem wordsR_vc (l : List Node) (w : List Int) (hw : w.length ≤ 4000000) : vc (EV [(50, cAsked), (71, cWords), (72, cMore)]) noL Go.Proofs.Tryd.f30 cWordsR (l, w, ()) := (wordsR_eq l w).mpr (by
  intro e1 e0 hs1 hs2
  refine ⟨fun h => ?_, fun h => ⟨fun h2 => ?_, fun h2 => ⟨?_, ?_⟩⟩⟩
  · have h : askedOf l [] ≠ 0 := by simpa using h
    simp only [e1, wordsOf, if_pos h]
  · have h : askedOf l [] = 0 := by simpa using h
    simp only [e1, wordsOf, if_neg (show ¬ (askedOf l [] ≠ 0) by simpa using h), if_pos h2]
  · have h : askedOf l [] = 0 := by simpa using h
    obtain ⟨h3, h4, _⟩ := asked_ok h
    exact ⟨⟨h3, valid_few h4⟩, valid_ahead h4, ⟨fun h => by omega, fun h => by omega⟩, hw⟩
  · have h : askedOf l [] = 0 := by simpa using h
    simp only [e1, e0, wordsOf, if_neg (show ¬ (askedOf l [] ≠ 0) by simpa using h), h2, Bool.false_eq_true, if_false])
theorem wordsR_gives : Gives prog RG 30 cWordsR := gives (allCons asked_gives (allCons words_gives (allCons more_gives allNil))) (fun _ => noL) (by kernel_rfl) (by kernel_rfl) (by kernel_rfl) fun (l, w, ()) hp => wordsR_vc l w hp

theorem catR_vc (l : List Node) (a b : Int) : vc (EV [(50, cAsked), (72, cMore)]) noL Go.Proofs.Tryd.f32 cCatR (l, a, b, ()) := (catR_eq l a b).mpr (by
  intro e2 e1 e0 hs1
  refine ⟨fun h => ?_, fun h => ⟨?_, ?_⟩⟩
  · have h : askedOf l [a, b] ≠ 0 := by simpa [e2] using h
    simp only [e1, catOf, if_pos h]
  · have h : askedOf l [a, b] = 0 := by simpa [e2] using h
    obtain ⟨h3, h4, h5⟩ := asked_ok h
    exact ⟨⟨h3, valid_few h4⟩, valid_ahead h4, ⟨fun _ => ⟨h5 a (by simp), h5 b (by simp)⟩, fun _ h => by omega⟩, by simp⟩
  · have h : askedOf l [a, b] = 0 := by simpa [e2] using h
    simp only [e1, e0, catOf, if_neg (show ¬ (askedOf l [a, b] ≠ 0) by simpa using h)])
theorem catR_gives : Gives prog RG 32 cCatR := gives (allCons asked_gives (allCons more_gives allNil)) (fun _ => noL) (by kernel_rfl) (by kernel_rfl) (by kernel_rfl) fun (l, a, b, ()) _ => catR_vc l a b

theorem partR_vc (l : List Node) (a f m : Int) : vc (EV [(50, cAsked), (47, cLens), (74, cIsPart), (72, cMore)]) noL Go.Proofs.Tryd.f36 cPartR (l, a, f, m, ()) := (partR_eq l a f m).mpr (by
  intro e4 e3 e2 e1 e0 hs1
  refine ⟨fun h => ?_, fun h => ?_⟩
  · have h : askedOf l [a] ≠ 0 := by simpa [e4] using h
    simp only [e1, e3, partOf, if_pos h]
  · have h : askedOf l [a] = 0 := by simpa [e4] using h
    have hn : ¬ (askedOf l [a] ≠ 0) := by simpa using h
    obtain ⟨h3, h4, h5⟩ := asked_ok h
    have ha := h5 a (by simp)
    refine ⟨⟨by omega, valid_ahead h4⟩, by rw [lensOf_length]; exact ha, fun h2 => ?_, fun h2 => ⟨⟨⟨h3, valid_few h4⟩, valid_ahead h4, ⟨fun h => by omega, fun _ _ h => by omega⟩, by simp⟩, ?_⟩⟩
    · have h2 : (!isPartOf (at_ (lensOf l) a) f m) = true := h2
      simp only [e1, e3, partOf, if_neg hn, h2, if_true]
    · have h2 : (!isPartOf (at_ (lensOf l) a) f m) = false := h2
      simp only [e1, e3, e0, partOf, if_neg hn, h2, Bool.false_eq_true, if_false])
theorem partR_gives : Gives prog RG 36 cPartR := gives (allCons asked_gives (allCons lens_gives (allCons isPart_gives (allCons more_gives allNil)))) (fun _ => noL) (by kernel_rfl) (by kernel_rfl) (by kernel_rfl) fun (l, a, f, m, ()) _ => partR_vc l a f m

theorem offR_vc (l : List Node) (a n : Int) : vc (EV [(50, cAsked), (75, cIsWord), (72, cMore)]) noL Go.Proofs.Tryd.f38 cOffR (l, a, n, ()) := (offR_eq l a n).mpr (by
  intro e2 e1 e0 hs1
  refine ⟨fun h => ?_, fun h => ?_⟩
  · have h : askedOf l [a] ≠ 0 := by simpa [e2] using h
    simp only [e1, offOf, if_pos h]
  · have h : askedOf l [a] = 0 := by simpa [e2] using h
    have hn : ¬ (askedOf l [a] ≠ 0) := by simpa using h
    obtain ⟨h3, h4, h5⟩ := asked_ok h
    refine ⟨fun h2 => ?_, fun h2 => ⟨⟨⟨h3, valid_few h4⟩, valid_ahead h4, ⟨fun h => by omega, fun _ _ _ => h5 a (by simp)⟩, by simp⟩, ?_⟩⟩
    · simp only [e1, offOf, if_neg hn, h2, if_true]
    · simp only [e1, e0, offOf, if_neg hn, h2, Bool.false_eq_true, if_false])
theorem offR_gives : Gives prog RG 38 cOffR := gives (allCons asked_gives (allCons isWord_gives (allCons more_gives allNil))) (fun _ => noL) (by kernel_rfl) (by kernel_rfl) (by kernel_rfl) fun (l, a, n, ()) _ => offR_vc l a n
end Go.Rp
end

section
set_option linter.unusedVariables false
set_option maxRecDepth 100000
open Go Go.VT
namespace Go.Rp

theorem way_eq (l : List Node) (lens : List Int) (a place : Int) (N : Nat) : vc ((EV [(76, cWord)]).set 58 (cWay.below mWay N)) noL Go.Proofs.Tryd.f58 cWay (l, lens, a, place, ()) = (let e1 : Int × Int × Unit := ((wayAt l a place).fst, (wayAt l a place).snd, ());
  let e0 : Node := List.getD l (Int.toNat a) (Node.mk (0 : Int) (0 : Int) (0 : Int) (0 : Int) (0 : Int) (0 : Int) []);
  Small RU (Sigma.mk (Ty.slice (56 : Nat) (Ty.user (0 : Nat))) l) →
  Small RU (Sigma.mk (Ty.slice (3 : Nat) (Ty.int IntKind.i64)) lens) →
    ((0 : Int) ≤ a ∧ a < (↑(List.length l) : Int)) ∧
      ((e0.kind == (0 : Int)) = true → ((0 : Int) ≤ place ∧ place < (↑(List.length e0.words) : Int)) ∧ ((1 : Int), List.getD e0.words (Int.toNat place) (0 : Int), ()) = e1) ∧
        ((e0.kind == (0 : Int)) = false →
          ((e0.kind == (1 : Int)) = true →
              ((0 : Int) ≤ e0.a ∧ e0.a < (↑(List.length lens) : Int)) ∧
                (decide (place < List.getD lens (Int.toNat e0.a) (0 : Int)) = true →
                    (((List.length l ≤ (4000 : Nat) ∧ validOf l = true ∧ lens = lensOf l) ∧ ((0 : Int) ≤ e0.a ∧ e0.a < (↑(List.length l) : Int)) ∧ (0 : Int) ≤ place ∧ place < at_ (lensOf l) e0.a) ∧
                        mWay (l, lens, e0.a, place, ()) < N) ∧
                      (IntKind.wrap IntKind.i64 ((wayAt l e0.a place).fst + (1 : Int)), (wayAt l e0.a place).snd, ()) = e1) ∧
                  (decide (place < List.getD lens (Int.toNat e0.a) (0 : Int)) = false →
                    ((0 : Int) ≤ e0.a ∧ e0.a < (↑(List.length lens) : Int)) ∧
                      (((List.length l ≤ (4000 : Nat) ∧ validOf l = true ∧ lens = lensOf l) ∧
                            ((0 : Int) ≤ e0.b ∧ e0.b < (↑(List.length l) : Int)) ∧
                              (0 : Int) ≤ IntKind.wrap IntKind.i64 (place - List.getD lens (Int.toNat e0.a) (0 : Int)) ∧
                                IntKind.wrap IntKind.i64 (place - List.getD lens (Int.toNat e0.a) (0 : Int)) < at_ (lensOf l) e0.b) ∧
                          mWay (l, lens, e0.b, IntKind.wrap IntKind.i64 (place - List.getD lens (Int.toNat e0.a) (0 : Int)), ()) < N) ∧
                        (IntKind.wrap IntKind.i64 ((wayAt l e0.b (IntKind.wrap IntKind.i64 (place - List.getD lens (Int.toNat e0.a) (0 : Int)))).fst + (1 : Int)),
                            (wayAt l e0.b (IntKind.wrap IntKind.i64 (place - List.getD lens (Int.toNat e0.a) (0 : Int)))).snd, ()) =
                          e1)) ∧
            ((e0.kind == (1 : Int)) = false →
              ((e0.kind == (2 : Int)) = true →
                  (((List.length l ≤ (4000 : Nat) ∧ validOf l = true ∧ lens = lensOf l) ∧
                        ((0 : Int) ≤ e0.a ∧ e0.a < (↑(List.length l) : Int)) ∧
                          (0 : Int) ≤ IntKind.wrap IntKind.i64 (e0.from_ + place) ∧ IntKind.wrap IntKind.i64 (e0.from_ + place) < at_ (lensOf l) e0.a) ∧
                      mWay (l, lens, e0.a, IntKind.wrap IntKind.i64 (e0.from_ + place), ()) < N) ∧
                    (IntKind.wrap IntKind.i64 ((wayAt l e0.a (IntKind.wrap IntKind.i64 (e0.from_ + place))).fst + (1 : Int)), (wayAt l e0.a (IntKind.wrap IntKind.i64 (e0.from_ + place))).snd, ()) =
                      e1) ∧
                ((e0.kind == (2 : Int)) = false →
                  (((List.length l ≤ (4000 : Nat) ∧ validOf l = true ∧ lens = lensOf l) ∧ ((0 : Int) ≤ e0.a ∧ e0.a < (↑(List.length l) : Int)) ∧ (0 : Int) ≤ place ∧ place < at_ (lensOf l) e0.a) ∧
                      mWay (l, lens, e0.a, place, ()) < N) ∧
                    (IntKind.wrap IntKind.i64 ((wayAt l e0.a place).fst + (1 : Int)), word (IntKind.wrap IntKind.i64 ((wayAt l e0.a place).snd + e0.n)), ()) = e1)))) := by kernel_rfl

end Go.Rp
end

section
set_option linter.unusedVariables false
set_option linter.unusedSimpArgs false
set_option maxRecDepth 100000
namespace Go.Rp
open Go Go.VT

theorem at_take {l : List Int} {m : Nat} {a : Int} (h0 : 0 ≤ a) (h : a < m) : at_ (l.take m) a = at_ l a := by
  unfold at_
  simp only [List.getD]
  rw [List.getElem?_take, if_pos (by omega)]

theorem at_nat (l : List Int) (i : Nat) : at_ l (i : Int) = l.getD i 0 := by simp [at_]

/-- The lengths of a valid store. -/
theorem valid_lens {l : List Node} (h : validOf l = true) : ∀ i : Nat, i < l.length → (0 ≤ at_ (lensOf l) i ∧ at_ (lensOf l) i ≤ 1048576) ∧
    ((l.getD i node0).kind = 0 → at_ (lensOf l) i = (l.getD i node0).words.length) ∧
    ((l.getD i node0).kind = 1 → at_ (lensOf l) i = at_ (lensOf l) (l.getD i node0).a + at_ (lensOf l) (l.getD i node0).b) ∧
    ((l.getD i node0).kind = 2 → at_ (lensOf l) i = (l.getD i node0).len ∧ 0 ≤ (l.getD i node0).from_ ∧ 0 ≤ (l.getD i node0).len ∧ (l.getD i node0).from_ + (l.getD i node0).len ≤ at_ (lensOf l) (l.getD i node0).a) ∧
    ((l.getD i node0).kind = 3 → at_ (lensOf l) i = at_ (lensOf l) (l.getD i node0).a) ∧
    ((l.getD i node0).kind = 0 ∨ (l.getD i node0).kind = 1 ∨ (l.getD i node0).kind = 2 ∨ (l.getD i node0).kind = 3) := by
  intro i
  induction i using Nat.strongRecOn with
  | ind i ih =>
    intro hi
    have hn := valid_node h i hi
    have hf := valid_fields h i hi
    have hg := lens_get l i hi
    rw [at_nat]
    rw [hg] at hn ⊢
    generalize hx : l.getD i node0 = x at hn hf hg ⊢
    unfold nodeOk at hn
    simp only [Bool.and_eq_true, decide_eq_true_eq] at hn
    have hb : ∀ a : Int, 0 ≤ a → a < i → (0 ≤ at_ (lensOf l) a ∧ at_ (lensOf l) a ≤ 1048576) ∧ at_ ((lensOf l).take i) a = at_ (lensOf l) a := by
      intro a h0 h1
      obtain ⟨k, rfl⟩ := Int.eq_ofNat_of_zero_le h0
      exact ⟨(ih k (by omega) (by omega)).1, at_take h0 h1⟩
    have hk : x.kind = 0 ∨ x.kind = 1 ∨ x.kind = 2 ∨ x.kind = 3 := by
      unfold fieldsOf at hf
      by_cases h0 : x.kind = 0
      · exact .inl h0
      · by_cases h1 : x.kind = 1
        · exact .inr (.inl h1)
        · by_cases h2 : x.kind = 2
          · exact .inr (.inr (.inl h2))
          · by_cases h3 : x.kind = 3
            · exact .inr (.inr (.inr h3))
            · rw [if_neg h0, if_neg h1, if_neg h2, if_neg h3] at hf; cases hf
    have hlen : ∀ v, (x.kind = 0 → v = (x.words.length : Int)) → True := fun _ _ => trivial
    rcases hk with hk | hk | hk | hk
    · have e : lenOf ((lensOf l).take i) x = min (x.words.length : Int) 2097152 := by rw [lenOf, if_pos hk]
      rw [e] at hn ⊢
      have : min (x.words.length : Int) 2097152 = x.words.length := by omega
      rw [this] at hn ⊢
      exact ⟨⟨by omega, hn.1⟩, fun _ => rfl, fun h => by omega, fun h => by omega, fun h => by omega, .inl hk⟩
    · have ha := (fields_ahead hf).1 hk
      obtain ⟨ha1, ha2⟩ := hb x.a ha.1.1 ha.1.2
      obtain ⟨hb1, hb2⟩ := hb x.b ha.2.1 ha.2.2
      have e : lenOf ((lensOf l).take i) x = at_ (lensOf l) x.a + at_ (lensOf l) x.b := by
        rw [lenOf, if_neg (by omega), if_pos hk, ha2, hb2, w64, w64_id (by omega) (by omega)]
        omega
      rw [e] at hn ⊢
      exact ⟨⟨by omega, hn.1⟩, fun h => by omega, fun _ => rfl, fun h => by omega, fun h => by omega, .inr (.inl hk)⟩
    · have ha := fields_a hf (by omega)
      obtain ⟨ha1, ha2⟩ := hb x.a ha.1 ha.2
      have hp : isPartOf (at_ (lensOf l) x.a) x.from_ x.len = true := by
        have := hn.2
        simpa [hk] using this
      unfold isPartOf at hp
      rw [Bool.and_eq_true, lies_iff] at hp
      obtain ⟨hp1, hp2⟩ := hp
      rw [w64, w64_id (by omega) (by omega), lies_iff] at hp2
      have e : lenOf ((lensOf l).take i) x = x.len := by
        rw [lenOf, if_neg (by omega), if_neg (by omega), if_pos hk]
        omega
      rw [e] at hn ⊢
      exact ⟨⟨by omega, hn.1⟩, fun h => by omega, fun h => by omega, fun _ => ⟨rfl, hp1.1, hp2.1, by omega⟩, fun h => by omega, .inr (.inr (.inl hk))⟩
    · have ha := fields_a hf (by omega)
      obtain ⟨ha1, ha2⟩ := hb x.a ha.1 ha.2
      have e : lenOf ((lensOf l).take i) x = at_ (lensOf l) x.a := by
        rw [lenOf, if_neg (by omega), if_neg (by omega), if_neg (by omega), ha2]
        omega
      rw [e] at hn ⊢
      exact ⟨⟨by omega, hn.1⟩, fun h => by omega, fun h => by omega, fun h => by omega, fun _ => rfl, .inr (.inr (.inr hk))⟩

theorem nat_getD (l : List Node) (a : Int) : nat_ l a = l.getD a.toNat node0 := rfl

/-- More fuel changes nothing. -/
theorem wayOf_fuel {l : List Node} (h : validOf l = true) (lens : List Int) : ∀ f g : Nat, ∀ a place : Int, 0 ≤ a → a < l.length → a.toNat < f → a.toNat < g → wayOf l lens f a place = wayOf l lens g a place := by
  intro f
  induction f with
  | zero => intro g a place _ _ hf; omega
  | succ f ih =>
    intro g a place h0 h1 hf hg
    match g, hg with
    | g + 1, hg =>
      have hfd := valid_fields h a.toNat (by omega)
      rw [← nat_getD] at hfd
      have hcast : ((a.toNat : Nat) : Int) = a := by omega
      rw [hcast] at hfd
      unfold wayOf
      by_cases hk0 : (nat_ l a).kind = 0
      · rw [if_pos hk0, if_pos hk0]
      · have ha : 0 ≤ (nat_ l a).a ∧ (nat_ l a).a < a := by
          have := fields_a (i := a.toNat) (by rw [hcast]; exact hfd) hk0
          omega
        rw [if_neg hk0, if_neg hk0]
        have e1 : ∀ p, wayOf l lens f (nat_ l a).a p = wayOf l lens g (nat_ l a).a p := fun p => ih g _ p ha.1 (by omega) (by omega) (by omega)
        by_cases hk1 : (nat_ l a).kind = 1
        · have hb := ((fields_ahead (i := a.toNat) (by rw [hcast]; exact hfd)).1 hk1).2
          have e2 : ∀ p, wayOf l lens f (nat_ l a).b p = wayOf l lens g (nat_ l a).b p := fun p => ih g _ p hb.1 (by omega) (by omega) (by omega)
          rw [if_pos hk1, if_pos hk1, e1, e2]
        · rw [if_neg hk1, if_neg hk1, e1, e1]

theorem wayAt_eq {l : List Node} (h : validOf l = true) {a : Int} (h0 : 0 ≤ a) (h1 : a < l.length) (b place : Int) (hb0 : 0 ≤ b) (hb : b < a) : wayOf l (lensOf l) a.toNat b place = wayAt l b place :=
  wayOf_fuel h _ _ _ b place hb0 (by omega) (by omega) (by omega)

theorem way_vc (l : List Node) (a place : Int) (hl : l.length ≤ 4000) (hv : validOf l = true) (h0 : 0 ≤ a) (h1 : a < l.length) (p0 : 0 ≤ place) (p1 : place < at_ (lensOf l) a) :
    vc ((EV [(76, cWord)]).set 58 (cWay.below mWay a.toNat)) noL Go.Proofs.Tryd.f58 cWay (l, lensOf l, a, place, ()) := (way_eq l (lensOf l) a place a.toNat).mpr (by
  intro e1 e0 hs1 hs2
  have hll := lensOf_length l
  have hi : a.toNat < l.length := by omega
  have hcast : ((a.toNat : Nat) : Int) = a := by omega
  obtain ⟨hb, hk0, hk1, hk2, hk3, hkk⟩ := valid_lens hv a.toNat hi
  rw [hcast] at hb hk0 hk1 hk2 hk3
  have hfd := valid_fields hv a.toNat hi
  have he0 : e0 = nat_ l a := rfl
  rw [← nat_getD, ← he0] at hk0 hk1 hk2 hk3 hkk hfd
  have hway : wayAt l a place = wayOf l (lensOf l) (a.toNat + 1) a place := rfl
  have hrec : ∀ b p : Int, 0 ≤ b → b < a → wayOf l (lensOf l) a.toNat b p = wayAt l b p := fun b p q0 q1 => wayAt_eq hv h0 h1 b p q0 q1
  unfold wayOf at hway
  rw [← he0] at hway
  have he1 : e1 = ((wayAt l a place).1, (wayAt l a place).2, ()) := rfl
  have bnd : ∀ b : Int, 0 ≤ b → b < a → 0 ≤ at_ (lensOf l) b ∧ at_ (lensOf l) b ≤ 1048576 := by
    intro b q0 q1
    obtain ⟨k, rfl⟩ := Int.eq_ofNat_of_zero_le q0
    exact (valid_lens hv k (by omega)).1
  have hgd : ∀ b : Int, List.getD (lensOf l) b.toNat 0 = at_ (lensOf l) b := fun _ => rfl
  have hm : ∀ b p : Int, mWay (l, lensOf l, b, p, ()) = b.toNat := fun _ _ => rfl
  clear_value e0 e1
  simp only [hgd, hm]
  refine ⟨⟨h0, h1⟩, fun k0 => ?_, fun k0 => ⟨fun k1 => ?_, fun k1 => ⟨fun k2 => ?_, fun k2 => ?_⟩⟩⟩
  · have k0 : e0.kind = 0 := by simpa using k0
    rw [if_pos k0] at hway
    rw [he1, hway]
    exact ⟨⟨p0, by rw [← hk0 k0]; exact p1⟩, rfl⟩
  · have k0 : ¬ e0.kind = 0 := by simpa using k0
    have k1 : e0.kind = 1 := by simpa using k1
    have hab := (fields_ahead hfd).1 k1
    rw [hcast] at hab
    have ha' := bnd e0.a hab.1.1 hab.1.2
    have hb' := bnd e0.b hab.2.1 hab.2.2
    have hs := hk1 k1
    rw [if_neg k0, if_pos k1] at hway
    refine ⟨by omega, fun hlt => ?_, fun hge => ?_⟩
    · have hlt : place < at_ (lensOf l) e0.a := by simpa using hlt
      rw [if_pos hlt, hrec _ _ hab.1.1 hab.1.2] at hway
      exact ⟨⟨⟨⟨hl, hv, by trivial⟩, by omega, p0, hlt⟩, by omega⟩, by rw [he1, hway]⟩
    · have hge : ¬ place < at_ (lensOf l) e0.a := by simpa using hge
      have hw : IntKind.i64.wrap (place - at_ (lensOf l) e0.a) = place - at_ (lensOf l) e0.a := w64_id (by omega) (by omega)
      rw [if_neg hge, hrec _ _ hab.2.1 hab.2.2] at hway
      refine ⟨by omega, ⟨⟨⟨hl, hv, by trivial⟩, by omega, ?_, ?_⟩, by omega⟩, by rw [he1, hway]⟩
      · rw [hw]; omega
      · rw [hw]; omega
  · have k0 : ¬ e0.kind = 0 := by simpa using k0
    have k1 : ¬ e0.kind = 1 := by simpa using k1
    have k2 : e0.kind = 2 := by simpa using k2
    have ha := fields_a hfd k0
    rw [hcast] at ha
    have ha' := bnd e0.a ha.1 ha.2
    obtain ⟨q1, q2, q3, q4⟩ := hk2 k2
    have hw : IntKind.i64.wrap (e0.from_ + place) = e0.from_ + place := w64_id (by omega) (by omega)
    rw [if_neg k0, if_neg k1, if_pos k2, hrec _ _ ha.1 ha.2] at hway
    refine ⟨⟨⟨⟨hl, hv, by trivial⟩, by omega, ?_, ?_⟩, by omega⟩, by rw [he1, hway]⟩
    · rw [hw]; omega
    · rw [hw]; omega
  · have k0 : ¬ e0.kind = 0 := by simpa using k0
    have k1 : ¬ e0.kind = 1 := by simpa using k1
    have k2 : ¬ e0.kind = 2 := by simpa using k2
    have ha := fields_a hfd k0
    rw [hcast] at ha
    have hs := hk3 (by omega)
    rw [if_neg k0, if_neg k1, if_neg k2, hrec _ _ ha.1 ha.2] at hway
    exact ⟨⟨⟨⟨hl, hv, by trivial⟩, by omega, p0, by omega⟩, by omega⟩, by rw [he1, hway]⟩)
theorem way_gives : Gives prog RG 58 cWay := givesRec (allCons word_gives allNil) mWay (fun _ => noL) (by kernel_rfl) (by kernel_rfl) (by kernel_rfl) fun (l, lens, a, place, ()) hp => by
  obtain ⟨⟨h1, h2, h3⟩, ⟨h4, h5⟩, h6, h7⟩ := hp
  have h3 : lens = lensOf l := h3
  subst h3
  exact way_vc l a place h1 h2 h4 h5 h6 h7
end Go.Rp
end

section
set_option linter.unusedVariables false
set_option linter.unusedSimpArgs false
open Go Go.VT
namespace Go.Rp

theorem longFrom_snoc (x : Int) : ∀ (l : List Int) (i : Nat), longFrom i (l ++ [x]) = longFrom i l ++ [(((i + l.length : Nat) : Int), x)]
  | [], i => by simp [longFrom]
  | y :: r, i => by
    simp only [List.cons_append, longFrom, longFrom_snoc x r (i + 1), List.length_cons]
    rw [show i + 1 + r.length = i + (r.length + 1) by omega]

theorem mget_long : ∀ (l : List Int) (i k : Nat), i ≤ k → k < i + l.length → mget (fun (x y : Int) => x == y) (longFrom i l) (k : Int) = some (l.getD (k - i) 0)
  | [], i, k, h1, h2 => by simp at h2; omega
  | x :: r, i, k, h1, h2 => by
    simp only [longFrom, mget]
    by_cases h : i = k
    · subst h; simp
    · have hb : ((i : Int) == (k : Int)) = false := by
        rw [beq_eq_false_iff_ne]; omega
      rw [hb]
      simp only [cond_false]
      have := mget_long r (i + 1) k (by omega) (by simp only [List.length_cons] at h2; omega)
      rw [this]
      have e : k - i = (k - (i + 1)) + 1 := by omega
      rw [e]
      simp

theorem mput_long (v : Int) : ∀ (l : List Int) (i : Nat), mput (fun (x y : Int) => x == y) (longFrom i l) ((i + l.length : Nat) : Int) v = longFrom i l ++ [(((i + l.length : Nat) : Int), v)]
  | [], i => by simp [longFrom, mput]
  | x :: r, i => by
    simp only [longFrom, mput, List.length_cons]
    have hb : ((i : Int) == ((i + (r.length + 1) : Nat) : Int)) = false := by
      simp only [beq_eq_false_iff_ne, ne_eq]; omega
    rw [hb]
    simp only [cond_false, List.cons_append]
    rw [show i + (r.length + 1) = i + 1 + r.length by omega, mput_long v r (i + 1)]

theorem mget_put (l : List (Int × Int)) (k v : Int) : mget (fun (x y : Int) => x == y) (mput (fun (x y : Int) => x == y) l k v) k = some v := by
  induction l with
  | nil => simp [mput, mget]
  | cons x r ih =>
    obtain ⟨a, b⟩ := x
    simp only [mput]
    cases h : a == k with
    | true => simp [mget]
    | false => simp [mget, h, ih]

theorem longOf_snoc (l : List Node) (x : Node) : longOf (l ++ [x]) = longOf l ++ [((l.length : Int), lenOf (lensOf l) x)] := by
  unfold longOf
  rw [lensOf_snoc, longFrom_snoc, lensOf_length, Nat.zero_add]

theorem lg_long {l : List Node} {a : Int} (h0 : 0 ≤ a) (h1 : a < l.length) : lg (longOf l) a = at_ (lensOf l) a := by
  obtain ⟨k, rfl⟩ := Int.eq_ofNat_of_zero_le h0
  unfold lg longOf
  rw [mget_long _ _ _ (Nat.zero_le _) (by rw [lensOf_length]; omega)]
  simp [at_]

theorem nodeOk_take {l : List Node} {i j : Nat} (hi : i ≤ l.length) (hj : j ≤ i) {x : Node} (hf : fieldsOf x j = true) (n : Int) : nodeOk ((lensOf l).take i) x n = nodeOk (lensOf l) x n := by
  unfold nodeOk
  by_cases hk : x.kind = 2
  · obtain ⟨h0, h1⟩ := fields_a hf (by omega)
    rw [at_take h0 (by omega)]
  · simp [hk]

theorem valid_steps {l : List Node} : validOf l = true ↔ ∀ i : Nat, i < l.length → stepOk l i = true := by
  unfold validOf
  rw [Bool.and_eq_true, fieldsAll_iff]
  simp only [List.all_eq_true, List.mem_range, stepOk, Bool.and_eq_true]
  exact ⟨fun h i hi => ⟨h.1 i hi, h.2 i hi⟩, fun h => ⟨fun i hi => (h i hi).1, fun i hi => (h i hi).2⟩⟩

theorem take_getD {α : Type} {l : List α} {i j : Nat} (h : j < i) (d : α) : (l.take i).getD j d = l.getD j d := by
  simp only [List.getD, List.getElem?_take, h, if_true]

theorem step_take {l : List Node} {i j : Nat} (hi : i ≤ l.length) (hj : j < i) : stepOk (l.take i) j = stepOk l j := by
  unfold stepOk
  rw [lensOf_take l i hi, take_getD hj, take_getD hj]
  cases hf : fieldsOf (l.getD j node0) j with
  | false => rfl
  | true => rw [nodeOk_take hi (Nat.le_of_lt hj) hf]

theorem steps_take {l : List Node} {i : Nat} (hi : i ≤ l.length) (h : ∀ j : Nat, j < i → stepOk l j = true) : validOf (l.take i) = true := by
  rw [valid_steps]
  intro j hj
  have hj : j < i := by simp at hj; omega
  rw [step_take hi hj]
  exact h j hj

theorem hasB_iff {a : Int} {i : Nat} : hasB a i = lies a 0 ((i : Int) - 1) := by
  unfold hasB lies
  congr 1
  simp only [decide_eq_decide]
  omega

theorem words_empty (w : List Int) : w.isEmpty = decide (w = []) := by cases w <;> simp

noncomputable def badK (x : Node) (L : List (Int × Int)) (i : Int) : Bool := if x.kind ≤ 0 then !okWords x else if x.kind = 1 then !okCat x i else if x.kind = 2 then !okPart x L i else !okOff x i
noncomputable def valK (x : Node) (L : List (Int × Int)) : Int := if x.kind ≤ 0 then (x.words.length : Int) else if x.kind = 1 then IntKind.i64.wrap (lg L x.a + lg L x.b) else if x.kind = 2 then x.len else lg L x.a

/-- What a node is asked for, by the program, is what the chapter says. -/
theorem prog_step {l : List Node} {i : Nat} (hi : i < l.length) (hs : ∀ j : Nat, j < i → stepOk l j = true) :
    ((l.getD i node0).kind < 0 ∨ 4 ≤ (l.getD i node0).kind → stepOk l i = false) ∧
    (0 ≤ (l.getD i node0).kind → (l.getD i node0).kind < 4 → (badK (l.getD i node0) (longOf (l.take i)) i = true → stepOk l i = false) ∧
      (badK (l.getD i node0) (longOf (l.take i)) i = false → (¬ valK (l.getD i node0) (longOf (l.take i)) ≤ 1048576 → stepOk l i = false) ∧
        (valK (l.getD i node0) (longOf (l.take i)) ≤ 1048576 → stepOk l i = true ∧ valK (l.getD i node0) (longOf (l.take i)) = lenOf (lensOf (l.take i)) (l.getD i node0)))) := by
  have hv := steps_take (Nat.le_of_lt hi) hs
  have hl : (l.take i).length = i := by simp; omega
  have hlg : ∀ {a : Int}, 0 ≤ a → a < i → lg (longOf (l.take i)) a = at_ (lensOf (l.take i)) a ∧ at_ (lensOf (l.take i)) a = at_ (lensOf l) a ∧ 0 ≤ at_ (lensOf (l.take i)) a ∧ at_ (lensOf (l.take i)) a ≤ 1048576 := by
    intro a h0 h1
    refine ⟨lg_long h0 (by rw [hl]; exact h1), ?_, ?_⟩
    · rw [lensOf_take l i (Nat.le_of_lt hi), at_take h0 h1]
    · obtain ⟨k, rfl⟩ := Int.eq_ofNat_of_zero_le h0
      exact (valid_lens hv k (by rw [hl]; omega)).1
  have hst : stepOk l i = (fieldsOf (l.getD i node0) i && nodeOk (lensOf l) (l.getD i node0) (lenOf (lensOf (l.take i)) (l.getD i node0))) := by
    unfold stepOk
    rw [lens_get l i hi, lensOf_take l i (Nat.le_of_lt hi)]
  generalize l.getD i node0 = x at hst ⊢
  generalize hlens : lensOf (l.take i) = lens at hst hlg ⊢
  generalize hL : longOf (l.take i) = L at hlg ⊢
  rw [hst]
  refine ⟨fun hk => ?_, fun h0 h4 => ?_⟩
  · have : fieldsOf x i = false := by
      unfold fieldsOf
      rw [if_neg (by omega), if_neg (by omega), if_neg (by omega), if_neg (by omega)]
    rw [this]; rfl
  · have hk : x.kind = 0 ∨ x.kind = 1 ∨ x.kind = 2 ∨ x.kind = 3 := by omega
    rcases hk with hk | hk | hk | hk
    · have hb : badK x L i = !fieldsOf x i := by
        simp only [badK, fieldsOf, hk, if_true, okWords, Int.le_refl]
        congr 1
        rw [Bool.eq_iff_iff]
        simp only [Bool.and_eq_true, beq_iff_eq, decide_eq_true_eq]
        constructor
        · rintro ⟨⟨⟨⟨⟨h1, h2⟩, h3⟩, h4⟩, h5⟩, h6⟩; exact ⟨⟨h1, h2, h3, h4, h5⟩, h6⟩
        · rintro ⟨⟨h1, h2, h3, h4, h5⟩, h6⟩; exact ⟨⟨⟨⟨⟨h1, h2⟩, h3⟩, h4⟩, h5⟩, h6⟩
      have hvl : valK x L = x.words.length := by simp [valK, hk]
      have hle : lenOf lens x = min (x.words.length : Int) 2097152 := by simp [lenOf, hk]
      rw [hb, hvl, hle]
      cases hf : fieldsOf x i with
      | false => simp
      | true => simp only [Bool.not_true, Bool.false_eq_true, false_implies, true_and, Bool.true_and, forall_const, nodeOk, hk]; simp only [Bool.and_eq_true, Bool.and_eq_false_iff, decide_eq_true_eq, decide_eq_false_iff_not]; refine ⟨fun h => .inl (by omega), fun h => ⟨⟨by omega, by simp⟩, by omega⟩⟩
    · have hb : badK x L i = !fieldsOf x i := by
        simp only [badK, fieldsOf, hk, if_true, okCat, hasB_iff, words_empty]
        rw [if_neg (by decide), if_neg (by decide)]
        congr 1
        rw [Bool.eq_iff_iff]
        simp only [Bool.and_eq_true, beq_iff_eq, decide_eq_true_eq]
        constructor
        · rintro ⟨⟨⟨⟨⟨h1, h2⟩, h3⟩, h4⟩, h5⟩, h6⟩; exact ⟨⟨h1, h2⟩, h3, h4, h5, h6⟩
        · rintro ⟨⟨h1, h2⟩, h3, h4, h5, h6⟩; exact ⟨⟨⟨⟨⟨h1, h2⟩, h3⟩, h4⟩, h5⟩, h6⟩
      have hvl : valK x L = IntKind.i64.wrap (lg L x.a + lg L x.b) := by simp [valK, hk]
      rw [hb, hvl]
      cases hf : fieldsOf x i with
      | false => simp
      | true =>
        obtain ⟨⟨ha0, ha1⟩, hb0, hb1⟩ := (fields_ahead hf).1 hk
        obtain ⟨a1, a2, a3, a4⟩ := hlg ha0 ha1
        obtain ⟨b1, b2, b3, b4⟩ := hlg hb0 hb1
        have hle : lenOf lens x = min (at_ lens x.a + at_ lens x.b) 2097152 := by
          rw [lenOf, if_neg (by omega), if_pos hk]
          have : w64 (at_ lens x.a + at_ lens x.b) = at_ lens x.a + at_ lens x.b := w64_id (by omega) (by omega)
          rw [this]
        rw [hle, a1, b1, w64_id (by omega) (by omega)]
        simp only [Bool.not_true, Bool.false_eq_true, false_implies, true_and, Bool.true_and, forall_const, nodeOk, hk]; simp only [Bool.and_eq_true, Bool.and_eq_false_iff, decide_eq_true_eq, decide_eq_false_iff_not]; refine ⟨fun h => .inl (by omega), fun h => ⟨⟨by omega, by simp⟩, by omega⟩⟩
    · have hvl : valK x L = x.len := by simp [valK, hk]
      have hle : lenOf lens x = min x.len 2097152 := by simp [lenOf, hk]
      have hb : badK x L i = !okPart x L i := by simp [badK, hk]
      rw [hb, hvl, hle]
      have hfe : fieldsOf x i = (lies x.a 0 ((i : Int) - 1) && decide (x.b = 0 ∧ x.n = 0 ∧ x.words = [])) := by
        simp only [fieldsOf, hk, if_true]
        rw [if_neg (by decide), if_neg (by decide)]
      have hne : nodeOk (lensOf l) x (min x.len 2097152) = (decide (min x.len 2097152 ≤ 1048576) && isPartOf (at_ (lensOf l) x.a) x.from_ x.len) := by simp [nodeOk, hk]
      rw [hfe, hne]
      by_cases hA : lies x.a 0 ((i : Int) - 1) = true
      · have hA2 := hA
        rw [lies_iff] at hA2
        obtain ⟨a1, a2, a3, a4⟩ := hlg hA2.1 (by omega)
        have hok : okPart x L i = (decide (x.b = 0 ∧ x.n = 0 ∧ x.words = []) && decide (0 ≤ x.len ∧ x.len ≤ at_ lens x.a ∧ 0 ≤ x.from_ ∧ x.from_ ≤ IntKind.i64.wrap (at_ lens x.a - x.len))) := by
          simp only [okPart, hasB_iff, hA, words_empty, a1, Bool.true_and]
          rw [Bool.eq_iff_iff]
          simp only [Bool.and_eq_true, beq_iff_eq, decide_eq_true_eq]
          constructor
          · rintro ⟨⟨⟨⟨⟨⟨h1, h2⟩, h3⟩, h4⟩, h5⟩, h6⟩, h7⟩; exact ⟨⟨h1, h2, h3⟩, h4, h5, h6, h7⟩
          · rintro ⟨⟨h1, h2, h3⟩, h4, h5, h6, h7⟩; exact ⟨⟨⟨⟨⟨⟨h1, h2⟩, h3⟩, h4⟩, h5⟩, h6⟩, h7⟩
        rw [hok, hA, ← a2]
        simp only [Bool.true_and]
        generalize hD : decide (x.b = 0 ∧ x.n = 0 ∧ x.words = []) = D
        have hisp : isPartOf (at_ lens x.a) x.from_ x.len = decide (0 ≤ x.len ∧ x.len ≤ at_ lens x.a ∧ 0 ≤ x.from_ ∧ x.from_ ≤ IntKind.i64.wrap (at_ lens x.a - x.len)) := by
          rw [Bool.eq_iff_iff]
          simp only [isPartOf, Bool.and_eq_true, lies_iff, decide_eq_true_eq]
          constructor
          · rintro ⟨⟨h1, h2⟩, h3, h4⟩
            have e : w64 (at_ lens x.a - x.from_) = at_ lens x.a - x.from_ := w64_id (by omega) (by omega)
            rw [e] at h4
            rw [w64_id (by omega) (by omega)]
            omega
          · rintro ⟨h1, h2, h3, h4⟩
            rw [w64_id (by omega) (by omega)] at h4
            have e : w64 (at_ lens x.a - x.from_) = at_ lens x.a - x.from_ := w64_id (by omega) (by omega)
            rw [e]
            omega
        rw [hisp]
        cases D with
        | false => simp
        | true =>
          by_cases hq : 0 ≤ x.len ∧ x.len ≤ at_ lens x.a ∧ 0 ≤ x.from_ ∧ x.from_ ≤ IntKind.i64.wrap (at_ lens x.a - x.len)
          · rw [decide_eq_true hq]
            simp only [Bool.true_and, Bool.and_true, Bool.not_true, Bool.false_eq_true, false_implies, true_and, forall_const, decide_eq_true_eq, decide_eq_false_iff_not]
            exact ⟨fun h => by omega, fun h => ⟨by omega, by omega⟩⟩
          · rw [decide_eq_false hq]; simp
      · have hA' : lies x.a 0 ((i : Int) - 1) = false := by simpa using hA
        have hok : okPart x L i = false := by simp [okPart, hasB_iff, hA']
        rw [hok, hA']
        simp
    · have hb : badK x L i = !fieldsOf x i := by
        simp only [badK, fieldsOf, hk, if_true, okOff, hasB_iff, words_empty]
        rw [if_neg (by decide), if_neg (by decide), if_neg (by decide), if_neg (by decide), if_neg (by decide), if_neg (by decide)]
        congr 1
        rw [Bool.eq_iff_iff]
        simp only [Bool.and_eq_true, beq_iff_eq, decide_eq_true_eq]
        constructor
        · rintro ⟨⟨⟨⟨⟨h1, h2⟩, h3⟩, h4⟩, h5⟩, h6⟩; exact ⟨⟨h1, h2, h3, h4, h5⟩, h6⟩
        · rintro ⟨⟨h1, h2, h3, h4, h5⟩, h6⟩; exact ⟨⟨⟨⟨⟨h1, h2⟩, h3⟩, h4⟩, h5⟩, h6⟩
      have hvl : valK x L = lg L x.a := by simp [valK, hk]
      rw [hb, hvl]
      cases hf : fieldsOf x i with
      | false => simp
      | true =>
        obtain ⟨ha0, ha1⟩ := fields_a hf (by omega)
        obtain ⟨a1, a2, a3, a4⟩ := hlg ha0 ha1
        have hle : lenOf lens x = min (at_ lens x.a) 2097152 := by
          rw [lenOf, if_neg (by omega), if_neg (by omega), if_neg (by omega)]
        rw [hle, a1]
        simp only [Bool.not_true, Bool.false_eq_true, false_implies, true_and, Bool.true_and, forall_const, nodeOk, hk]; simp only [Bool.and_eq_true, Bool.and_eq_false_iff, decide_eq_true_eq, decide_eq_false_iff_not]; refine ⟨fun h => .inl (by omega), fun h => ⟨⟨by omega, by simp⟩, by omega⟩⟩

theorem asked_step {l : List Node} {r : List Int} {i : Nat} (hl : l.length ≤ 4000) (hi : i < l.length) (h : stepOk l i = false) : askedOf l r = 1 := by
  have hv : ¬ validOf l = true := by
    rw [valid_steps]
    intro hh
    rw [hh i hi] at h
    cases h
  simp [askedOf, checkOf, hv, show ¬ 4000 < l.length by omega]
end Go.Rp
end

section
set_option linter.unusedVariables false
set_option maxRecDepth 100000
open Go Go.VT
namespace Go.Rp

theorem must_eq (b : Bool) (e : Int) : vc (EV []) noL Go.Proofs.Tryd.f53 cMust (b, e, ()) = (((!b) = true → (true = true → (!b) = true ∧ e = e ∧ True) ∧ (true = false → (!b) = false ∧ () = ())) ∧ ((!b) = false → (!b) = false ∧ () = ())) := by kernel_rfl

theorem isW_eq (n : Int) : vc (EV []) noL Go.Proofs.Tryd.f68 cIsW (n, ()) = ((decide (n ≥ (-2147483648 : Int)) && decide (n ≤ (2147483647 : Int)), ()) = (isWord n, ())) := by kernel_rfl

theorem notW67_eq (n : Int) : vc (EV [(68, cIsW)]) noL Go.Proofs.Tryd.f67 cNotW (n, ()) = ((!isWord n, ()) = (!isWord n, ())) := by kernel_rfl

theorem notW106_eq (n : Int) : vc (EV [(68, cIsW)]) noL Go.Proofs.Tryd.f106 cNotW (n, ()) = ((!isWord n, ()) = (!isWord n, ())) := by kernel_rfl

theorem has_eq (n m : Int) : vc (EV []) noL Go.Proofs.Tryd.f56 cHas (n, m, ()) = ((decide (n ≥ (0 : Int)) && decide (n < m), ()) = (decide ((0 : Int) ≤ n) && decide (n < m), ())) := by kernel_rfl

theorem idx67_eq (l : List Int) : vc (EV [(67, cNotW)]) (lIdx l) Go.Proofs.Tryd.f80 (cIdxW 67) (l, ()) = (let e0 : Value := Value.func (Fn.func (67 : Nat)) #[] #[];
  Small RU (Sigma.mk (Ty.slice (3 : Nat) (Ty.int IntKind.i64)) l) →
  (∃ (p : Int × Unit),
      l = l ∧
        e0 = e0 ∧
          (↑(List.length l) : Int) = (↑(List.length l) : Int) ∧ (0 : Int) = p.fst ∧ (0 : Int) ≤ p.fst ∧ p.fst ≤ (↑(List.length l) : Int) ∧ List.all (List.take (Int.toNat p.fst) l) isWord = true) ∧
    ∀ (p : Int × Unit),
      let e3 : Bool := decide (p.fst < (↑(List.length l) : Int));
      let e2 : Bool := !isWord (List.getD l (Int.toNat p.fst) (0 : Int));
      let e1 : Value := e0;
      let e0 : Int × Unit := (firstAt (fun (n : Int) => !isWord n) l (0 : Int), ());
      (0 : Int) ≤ p.fst ∧ p.fst ≤ (↑(List.length l) : Int) ∧ List.all (List.take (Int.toNat p.fst) l) isWord = true →
        (e3 = true →
            ((0 : Int) ≤ p.fst ∧ p.fst < (↑(List.length l) : Int)) ∧
              (e2 = true → (p.fst, ()) = e0) ∧
                (e2 = false →
                  ∃ (p' : Int × Unit),
                    l = l ∧
                      e1 = e1 ∧
                        (↑(List.length l) : Int) = (↑(List.length l) : Int) ∧
                          IntKind.wrap IntKind.i64 (p.fst + (1 : Int)) = p'.fst ∧
                            ((0 : Int) ≤ p'.fst ∧ p'.fst ≤ (↑(List.length l) : Int) ∧ List.all (List.take (Int.toNat p'.fst) l) isWord = true) ∧
                              List.length l - Int.toNat p'.fst < List.length l - Int.toNat p.fst)) ∧
          (e3 = false → ((-1 : Int), ()) = e0)) := by kernel_rfl

theorem idx106_eq (l : List Int) : vc (EV [(106, cNotW)]) (lIdx l) Go.Proofs.Tryd.f80 (cIdxW 106) (l, ()) = (let e0 : Value := Value.func (Fn.func (106 : Nat)) #[] #[];
  Small RU (Sigma.mk (Ty.slice (3 : Nat) (Ty.int IntKind.i64)) l) →
  (∃ (p : Int × Unit),
      l = l ∧
        e0 = e0 ∧
          (↑(List.length l) : Int) = (↑(List.length l) : Int) ∧ (0 : Int) = p.fst ∧ (0 : Int) ≤ p.fst ∧ p.fst ≤ (↑(List.length l) : Int) ∧ List.all (List.take (Int.toNat p.fst) l) isWord = true) ∧
    ∀ (p : Int × Unit),
      let e3 : Bool := decide (p.fst < (↑(List.length l) : Int));
      let e2 : Bool := !isWord (List.getD l (Int.toNat p.fst) (0 : Int));
      let e1 : Value := e0;
      let e0 : Int × Unit := (firstAt (fun (n : Int) => !isWord n) l (0 : Int), ());
      (0 : Int) ≤ p.fst ∧ p.fst ≤ (↑(List.length l) : Int) ∧ List.all (List.take (Int.toNat p.fst) l) isWord = true →
        (e3 = true →
            ((0 : Int) ≤ p.fst ∧ p.fst < (↑(List.length l) : Int)) ∧
              (e2 = true → (p.fst, ()) = e0) ∧
                (e2 = false →
                  ∃ (p' : Int × Unit),
                    l = l ∧
                      e1 = e1 ∧
                        (↑(List.length l) : Int) = (↑(List.length l) : Int) ∧
                          IntKind.wrap IntKind.i64 (p.fst + (1 : Int)) = p'.fst ∧
                            ((0 : Int) ≤ p'.fst ∧ p'.fst ≤ (↑(List.length l) : Int) ∧ List.all (List.take (Int.toNat p'.fst) l) isWord = true) ∧
                              List.length l - Int.toNat p'.fst < List.length l - Int.toNat p.fst)) ∧
          (e3 = false → ((-1 : Int), ()) = e0)) := by kernel_rfl

theorem any67_eq (l : List Int) : vc (EV [(80, cIdxW 67)]) noL Go.Proofs.Tryd.f54 (cAnyW 67) (l, ()) = (Small RU (Sigma.mk (Ty.slice (3 : Nat) (Ty.int IntKind.i64)) l) → (decide (firstAt (fun (n : Int) => !isWord n) l (0 : Int) ≥ (0 : Int)), ()) = (List.any l fun (n : den RU.T i64) => !isWord n, ())) := by kernel_rfl

theorem any106_eq (l : List Int) : vc (EV [(80, cIdxW 106)]) noL Go.Proofs.Tryd.f54 (cAnyW 106) (l, ()) = (Small RU (Sigma.mk (Ty.slice (3 : Nat) (Ty.int IntKind.i64)) l) → (decide (firstAt (fun (n : Int) => !isWord n) l (0 : Int) ≥ (0 : Int)), ()) = (List.any l fun (n : den RU.T i64) => !isWord n, ())) := by kernel_rfl

theorem kWords_eq (l : List Node) (L : List (Int × Int)) (i : Int) : vc (EV [(53, cMust), (54, cAnyW 106)]) noL Go.Proofs.Tryd.f102 cKWords (l, L, i, ()) = (let e2 : Node := List.getD l (Int.toNat i) node0;
  let e1 : Bool := !okWords e2;
  let e0 : Node := List.getD l (Int.toNat i) (Node.mk (0 : Int) (0 : Int) (0 : Int) (0 : Int) (0 : Int) (0 : Int) []);
  Small RU (Sigma.mk (Ty.slice (56 : Nat) (Ty.user (0 : Nat))) l) →
  ((0 : Int) ≤ i ∧ i < (↑(List.length l) : Int)) ∧
    ((!(e0.a == (0 : Int) && e0.b == (0 : Int) && e0.from_ == (0 : Int) && e0.len == (0 : Int) && e0.n == (0 : Int))) = true → e1 = true ∧ (1 : Int) = (1 : Int) ∧ True) ∧
      ((!(e0.a == (0 : Int) && e0.b == (0 : Int) && e0.from_ == (0 : Int) && e0.len == (0 : Int) && e0.n == (0 : Int))) = false →
        ((!!List.any e0.words fun (n : den RU.T i64) => !isWord n) = true → e1 = true ∧ (1 : Int) = (1 : Int) ∧ True) ∧
          ((!!List.any e0.words fun (n : den RU.T i64) => !isWord n) = false → e1 = false ∧ ((↑(List.length e0.words) : Int), l, L, ()) = ((↑(List.length e2.words) : Int), l, L, ())))) := by kernel_rfl

theorem kCat_eq (l : List Node) (L : List (Int × Int)) (i : Int) : vc (EV [(53, cMust), (56, cHas)]) noL Go.Proofs.Tryd.f103 cKCat (l, L, i, ()) = (let e1 : Node := List.getD l (Int.toNat i) node0;
  let e0 : Node := List.getD l (Int.toNat i) (Node.mk (0 : Int) (0 : Int) (0 : Int) (0 : Int) (0 : Int) (0 : Int) []);
  Small RU (Sigma.mk (Ty.slice (56 : Nat) (Ty.user (0 : Nat))) l) →
  ((0 : Int) ≤ i ∧ i < (↑(List.length l) : Int)) ∧
    ((!(decide ((0 : Int) ≤ e0.a) && decide (e0.a < i) && (decide ((0 : Int) ≤ e0.b) && decide (e0.b < i)) && e0.from_ == (0 : Int) && e0.len == (0 : Int) && e0.n == (0 : Int) &&
              (↑(List.length e0.words) : Int) == (0 : Int))) =
          true →
        (!okCat e1 i) = true ∧ (1 : Int) = (1 : Int) ∧ True) ∧
      ((!(decide ((0 : Int) ≤ e0.a) && decide (e0.a < i) && (decide ((0 : Int) ≤ e0.b) && decide (e0.b < i)) && e0.from_ == (0 : Int) && e0.len == (0 : Int) && e0.n == (0 : Int) &&
              (↑(List.length e0.words) : Int) == (0 : Int))) =
          false →
        (!okCat e1 i) = false ∧
          (IntKind.wrap IntKind.i64 (Option.getD (mget (fun (x y : Int) => x == y) L e0.a) (0 : Int) + Option.getD (mget (fun (x y : Int) => x == y) L e0.b) (0 : Int)), l, L, ()) =
            (IntKind.wrap IntKind.i64 (lg L e1.a + lg L e1.b), l, L, ()))) := by kernel_rfl

theorem kPart_eq (l : List Node) (L : List (Int × Int)) (i : Int) : vc (EV [(53, cMust), (56, cHas)]) noL Go.Proofs.Tryd.f104 cKPart (l, L, i, ()) = (let e2 : Node := List.getD l (Int.toNat i) node0;
  let e1 : Bool := !okPart e2 L i;
  let e0 : Node := List.getD l (Int.toNat i) (Node.mk (0 : Int) (0 : Int) (0 : Int) (0 : Int) (0 : Int) (0 : Int) []);
  Small RU (Sigma.mk (Ty.slice (56 : Nat) (Ty.user (0 : Nat))) l) →
  ((0 : Int) ≤ i ∧ i < (↑(List.length l) : Int)) ∧
    ((!(decide ((0 : Int) ≤ e0.a) && decide (e0.a < i) && e0.b == (0 : Int) && e0.n == (0 : Int) && (↑(List.length e0.words) : Int) == (0 : Int))) = true → e1 = true ∧ (1 : Int) = (1 : Int) ∧ True) ∧
      ((!(decide ((0 : Int) ≤ e0.a) && decide (e0.a < i) && e0.b == (0 : Int) && e0.n == (0 : Int) && (↑(List.length e0.words) : Int) == (0 : Int))) = false →
        ((!(decide (e0.len ≥ (0 : Int)) && decide (e0.len ≤ Option.getD (mget (fun (x y : Int) => x == y) L e0.a) (0 : Int)) && decide (e0.from_ ≥ (0 : Int)) &&
                  decide (e0.from_ ≤ IntKind.wrap IntKind.i64 (Option.getD (mget (fun (x y : Int) => x == y) L e0.a) (0 : Int) - e0.len)))) =
              true →
            e1 = true ∧ (1 : Int) = (1 : Int) ∧ True) ∧
          ((!(decide (e0.len ≥ (0 : Int)) && decide (e0.len ≤ Option.getD (mget (fun (x y : Int) => x == y) L e0.a) (0 : Int)) && decide (e0.from_ ≥ (0 : Int)) &&
                  decide (e0.from_ ≤ IntKind.wrap IntKind.i64 (Option.getD (mget (fun (x y : Int) => x == y) L e0.a) (0 : Int) - e0.len)))) =
              false →
            e1 = false ∧ (e0.len, l, L, ()) = (e2.len, l, L, ())))) := by kernel_rfl

theorem kOff_eq (l : List Node) (L : List (Int × Int)) (i : Int) : vc (EV [(53, cMust), (56, cHas), (68, cIsW)]) noL Go.Proofs.Tryd.f105 cKOff (l, L, i, ()) = (let e1 : Node := List.getD l (Int.toNat i) node0;
  let e0 : Node := List.getD l (Int.toNat i) (Node.mk (0 : Int) (0 : Int) (0 : Int) (0 : Int) (0 : Int) (0 : Int) []);
  Small RU (Sigma.mk (Ty.slice (56 : Nat) (Ty.user (0 : Nat))) l) →
  ((0 : Int) ≤ i ∧ i < (↑(List.length l) : Int)) ∧
    ((!(decide ((0 : Int) ≤ e0.a) && decide (e0.a < i) && e0.b == (0 : Int) && e0.from_ == (0 : Int) && e0.len == (0 : Int) && (↑(List.length e0.words) : Int) == (0 : Int) && isWord e0.n)) = true →
        (!okOff e1 i) = true ∧ (1 : Int) = (1 : Int) ∧ True) ∧
      ((!(decide ((0 : Int) ≤ e0.a) && decide (e0.a < i) && e0.b == (0 : Int) && e0.from_ == (0 : Int) && e0.len == (0 : Int) && (↑(List.length e0.words) : Int) == (0 : Int) && isWord e0.n)) = false →
        (!okOff e1 i) = false ∧ (Option.getD (mget (fun (x y : Int) => x == y) L e0.a) (0 : Int), l, L, ()) = (lg L e1.a, l, L, ()))) := by kernel_rfl

end Go.Rp
end

section
set_option linter.unusedVariables false
set_option linter.unusedSimpArgs false
open Go Go.VT
namespace Go.Rp

theorem must_gives : Gives prog RG 53 cMust := gives allNil (fun _ => noL) (by kernel_rfl) (by kernel_rfl) (by kernel_rfl) fun (b, e, ()) _ => (must_eq b e).mpr (by cases b <;> simp)
theorem isW_gives : Gives prog RG 68 cIsW := gives allNil (fun _ => noL) (by kernel_rfl) (by kernel_rfl) (by kernel_rfl) fun (n, ()) _ => (isW_eq n).mpr (by simp [isWord, lies])
theorem notW67_gives : Gives prog RG 67 cNotW := gives (allCons isW_gives allNil) (fun _ => noL) (by kernel_rfl) (by kernel_rfl) (by kernel_rfl) fun (n, ()) _ => (notW67_eq n).mpr rfl
theorem notW106_gives : Gives prog RG 106 cNotW := gives (allCons isW_gives allNil) (fun _ => noL) (by kernel_rfl) (by kernel_rfl) (by kernel_rfl) fun (n, ()) _ => (notW106_eq n).mpr rfl
theorem has_gives : Gives prog RG 56 cHas := gives allNil (fun _ => noL) (by kernel_rfl) (by kernel_rfl) (by kernel_rfl) fun (n, m, ()) _ => (has_eq n m).mpr rfl

theorem firstAt_all {l : List Int} : ∀ {i : Int}, l.all isWord = true → firstAt (fun n => !isWord n) l i = -1 := by
  induction l with
  | nil => intros; rfl
  | cons x r ih =>
    intro i h
    simp only [List.all_cons, Bool.and_eq_true] at h
    simp [firstAt, h.1, ih h.2]

theorem firstAt_at {l : List Int} : ∀ {k : Nat} {i : Int}, (l.take k).all isWord = true → k < l.length → isWord (l.getD k 0) = false → firstAt (fun n => !isWord n) l i = i + k := by
  induction l with
  | nil => intro k i _ hk; simp at hk
  | cons x r ih =>
    intro k i h hk hn
    match k with
    | 0 =>
      have hn : isWord x = false := by simpa using hn
      simp [firstAt, hn]
    | k + 1 =>
      simp only [List.take_succ_cons, List.all_cons, Bool.and_eq_true] at h
      have := ih (k := k) (i := i + 1) h.2 (by simpa using hk) (by simpa using hn)
      simp only [firstAt, h.1, Bool.not_true, cond_false, this]
      omega

theorem firstAt_any {l : List Int} : ∀ {i : Int}, 0 ≤ i → decide (firstAt (fun n => !isWord n) l i ≥ 0) = l.any fun n => !isWord n := by
  induction l with
  | nil => intros; simp [firstAt]
  | cons x r ih =>
    intro i h
    cases hx : isWord x with
    | true => simp [firstAt, hx, ← ih (i := i + 1) (by omega)]
    | false => simp [firstAt, hx, h]

theorem idx_vc (l : List Int) (hs : l.length ≤ 140737488355328) {q : Prop}
    (h : ((∃ (p : Int × Unit), (0 : Int) = p.fst ∧ (0 : Int) ≤ p.fst ∧ p.fst ≤ (l.length : Int) ∧ List.all (List.take (Int.toNat p.fst) l) isWord = true) ∧
      ∀ (p : Int × Unit), (0 : Int) ≤ p.fst ∧ p.fst ≤ (l.length : Int) ∧ List.all (List.take (Int.toNat p.fst) l) isWord = true →
        (decide (p.fst < (l.length : Int)) = true → ((0 : Int) ≤ p.fst ∧ p.fst < (l.length : Int)) ∧ ((!isWord (List.getD l (Int.toNat p.fst) (0 : Int))) = true → p.fst = firstAt (fun n => !isWord n) l 0) ∧
          ((!isWord (List.getD l (Int.toNat p.fst) (0 : Int))) = false → ∃ (p' : Int × Unit), IntKind.wrap IntKind.i64 (p.fst + (1 : Int)) = p'.fst ∧ ((0 : Int) ≤ p'.fst ∧ p'.fst ≤ (l.length : Int) ∧ List.all (List.take (Int.toNat p'.fst) l) isWord = true) ∧ List.length l - Int.toNat p'.fst < List.length l - Int.toNat p.fst)) ∧
        (decide (p.fst < (l.length : Int)) = false → (-1 : Int) = firstAt (fun n => !isWord n) l 0)) → q) : q := by
  refine h ⟨⟨(0, ()), rfl, by simp, by simp, by simp⟩, fun (i, ()) ⟨h0, h1, h2⟩ => ?_⟩
  dsimp only at h0 h1 h2 ⊢
  obtain ⟨k, rfl⟩ := Int.eq_ofNat_of_zero_le h0
  simp only [Int.toNat_natCast] at h2 ⊢
  refine ⟨fun hk => ?_, fun hk => ?_⟩
  · have hk : k < l.length := by simpa using hk
    refine ⟨⟨h0, by omega⟩, fun hn => ?_, fun hn => ?_⟩
    · rw [firstAt_at h2 hk (by simpa using hn)]; simp
    · have hw : IntKind.wrap IntKind.i64 ((k : Int) + 1) = ((k + 1 : Nat) : Int) := by
        have := w64_id (n := (k : Int) + 1) (by omega) (by omega)
        rw [this]; simp
      refine ⟨((k + 1 : Nat), ()), hw, ⟨by omega, by omega, ?_⟩, by simp; omega⟩
      simp only [Int.toNat_natCast]
      rw [List.take_add_one, List.all_append, h2]
      have hg : l[k]? = some l[k] := List.getElem?_eq_getElem hk
      have hn' : isWord (l.getD k 0) = true := by simpa using hn
      simp only [List.getD, hg, Option.getD_some] at hn'
      simp [hg, hn']
  · have hk : l.length ≤ k := by simpa using hk
    rw [List.take_of_length_le hk] at h2
    rw [firstAt_all h2]

theorem idx67_gives : Gives prog RG 80 (cIdxW 67) := gives (allCons notW67_gives allNil) (fun p => lIdx p.1) (by kernel_rfl) (by kernel_rfl) (by kernel_rfl) fun (l, ()) _ => (idx67_eq l).mpr (by
  intro e0 hs
  refine idx_vc l hs.len (fun h => ?_)
  obtain ⟨⟨p, h1, h2, h3, h4⟩, hr⟩ := h
  refine ⟨⟨p, rfl, rfl, rfl, h1, h2, h3, h4⟩, ?_⟩
  intro p e3 e2 e1 e0 hp
  obtain ⟨a, b⟩ := hr p hp
  refine ⟨fun h => ⟨(a h).1, fun h2 => by rw [(a h).2.1 h2], fun h2 => ?_⟩, fun h => by rw [b h]⟩
  obtain ⟨p', q1, q2, q3⟩ := (a h).2.2 h2
  exact ⟨p', rfl, rfl, rfl, q1, q2, q3⟩)
theorem idx106_gives : Gives prog RG 80 (cIdxW 106) := gives (allCons notW106_gives allNil) (fun p => lIdx p.1) (by kernel_rfl) (by kernel_rfl) (by kernel_rfl) fun (l, ()) _ => (idx106_eq l).mpr (by
  intro e0 hs
  refine idx_vc l hs.len (fun h => ?_)
  obtain ⟨⟨p, h1, h2, h3, h4⟩, hr⟩ := h
  refine ⟨⟨p, rfl, rfl, rfl, h1, h2, h3, h4⟩, ?_⟩
  intro p e3 e2 e1 e0 hp
  obtain ⟨a, b⟩ := hr p hp
  refine ⟨fun h => ⟨(a h).1, fun h2 => by rw [(a h).2.1 h2], fun h2 => ?_⟩, fun h => by rw [b h]⟩
  obtain ⟨p', q1, q2, q3⟩ := (a h).2.2 h2
  exact ⟨p', rfl, rfl, rfl, q1, q2, q3⟩)
theorem any67_gives : Gives prog RG 54 (cAnyW 67) := gives (allCons idx67_gives allNil) (fun _ => noL) (by kernel_rfl) (by kernel_rfl) (by kernel_rfl) fun (l, ()) _ => (any67_eq l).mpr (fun _ => by rw [firstAt_any (by decide)])
theorem any106_gives : Gives prog RG 54 (cAnyW 106) := gives (allCons idx106_gives allNil) (fun _ => noL) (by kernel_rfl) (by kernel_rfl) (by kernel_rfl) fun (l, ()) _ => (any106_eq l).mpr (fun _ => by rw [firstAt_any (by decide)])

theorem any_all (l : List Int) : (!!l.any fun n => !isWord n) = !l.all isWord := by
  induction l with
  | nil => rfl
  | cons x r ih =>
    simp only [Bool.not_not] at ih
    simp [ih, Bool.not_and]

theorem len0 (l : List Int) : ((l.length : Int) == 0) = l.isEmpty := by cases l <;> simp; omega

theorem kWords_gives : Gives prog RG 102 cKWords := gives (allCons must_gives (allCons any106_gives allNil)) (fun _ => noL) (by kernel_rfl) (by kernel_rfl) (by kernel_rfl) fun (l, L, i, ()) hp => (kWords_eq l L i).mpr (by
  intro e2 e1 e0 hs
  have he : e2 = e0 := rfl
  refine ⟨hp, fun h => ⟨?_, rfl, trivial⟩, fun h => ⟨fun h2 => ⟨?_, rfl, trivial⟩, fun h2 => ⟨?_, rfl⟩⟩⟩
  · simp only [e1, okWords, he]
    clear_value e0
    simp only [Bool.not_eq_true'] at h ⊢
    rw [h, Bool.false_and]
  · simp only [e1, okWords, he]
    rw [any_all] at h2
    clear_value e0
    simp only [Bool.not_eq_true', Bool.not_eq_false'] at h h2 ⊢
    rw [h2, Bool.and_false]
  · simp only [e1, okWords, he]
    rw [any_all] at h2
    clear_value e0
    simp only [Bool.not_eq_false'] at h h2 ⊢
    rw [h, h2]; rfl)
theorem kCat_gives : Gives prog RG 103 cKCat := gives (allCons must_gives (allCons has_gives allNil)) (fun _ => noL) (by kernel_rfl) (by kernel_rfl) (by kernel_rfl) fun (l, L, i, ()) hp => (kCat_eq l L i).mpr (by
  intro e1 e0 hs
  have he : e1 = e0 := rfl
  rw [len0, he]
  clear_value e0
  exact ⟨hp, fun h => ⟨h, rfl, trivial⟩, fun h => ⟨h, rfl⟩⟩)
theorem kPart_gives : Gives prog RG 104 cKPart := gives (allCons must_gives (allCons has_gives allNil)) (fun _ => noL) (by kernel_rfl) (by kernel_rfl) (by kernel_rfl) fun (l, L, i, ()) hp => (kPart_eq l L i).mpr (by
  intro e2 e1 e0 hs
  have he : e2 = e0 := rfl
  have hk : okPart e0 L i = ((decide ((0 : Int) ≤ e0.a) && decide (e0.a < i) && e0.b == (0 : Int) && e0.n == (0 : Int) && e0.words.isEmpty) && (decide (e0.len ≥ (0 : Int)) && decide (e0.len ≤ Option.getD (mget (fun (x y : Int) => x == y) L e0.a) (0 : Int)) && decide (e0.from_ ≥ (0 : Int)) &&
      decide (e0.from_ ≤ IntKind.wrap IntKind.i64 (Option.getD (mget (fun (x y : Int) => x == y) L e0.a) (0 : Int) - e0.len)))) := by
    simp only [okPart, hasB, lg, Bool.and_assoc, ge_iff_le]
    rfl
  simp only [e1]
  rw [len0, he, hk]
  clear_value e0
  generalize (decide ((0 : Int) ≤ e0.a) && decide (e0.a < i) && e0.b == (0 : Int) && e0.n == (0 : Int) && e0.words.isEmpty) = A
  generalize (decide (e0.len ≥ (0 : Int)) && decide (e0.len ≤ Option.getD (mget (fun (x y : Int) => x == y) L e0.a) (0 : Int)) && decide (e0.from_ ≥ (0 : Int)) &&
      decide (e0.from_ ≤ IntKind.wrap IntKind.i64 (Option.getD (mget (fun (x y : Int) => x == y) L e0.a) (0 : Int) - e0.len))) = B
  refine ⟨hp, ?_⟩
  cases A <;> cases B <;> simp)
theorem kOff_gives : Gives prog RG 105 cKOff := gives (allCons must_gives (allCons has_gives (allCons isW_gives allNil))) (fun _ => noL) (by kernel_rfl) (by kernel_rfl) (by kernel_rfl) fun (l, L, i, ()) hp => (kOff_eq l L i).mpr (by
  intro e1 e0 hs
  have he : e1 = e0 := rfl
  rw [len0, he]
  clear_value e0
  refine ⟨hp, fun h => ⟨h, ?_⟩, fun h => ⟨h, rfl⟩⟩
  first | exact ⟨rfl, trivial⟩ | exact trivial | simp)

end Go.Rp
end

section
set_option linter.unusedVariables false
set_option linter.unusedSimpArgs false
set_option maxRecDepth 100000
open Go Go.VT
namespace Go.Rp

theorem kind_gives (i : Int) (f : FuncId) (h : ([102, 103, 104, 105] : List FuncId)[i.toNat]? = some f) : Gives prog RG f (cKind i) := by
  have hi : i ≤ 0 ∨ i = 1 ∨ i = 2 ∨ i = 3 ∨ 4 ≤ i := by omega
  rcases hi with hi | rfl | rfl | rfl | hi
  · rw [show i.toNat = 0 by omega] at h
    cases h
    have : cKind i = cKWords := by
      simp only [cKind, if_pos hi]
      rfl
    rw [this]
    exact kWords_gives
  · cases h; exact kCat_gives
  · cases h; exact kPart_gives
  · cases h; exact kOff_gives
  · obtain ⟨n, rfl⟩ : ∃ n : Nat, i = (n + 4 : Nat) := ⟨i.toNat - 4, by omega⟩
    rw [Int.toNat_natCast] at h
    simp at h

theorem opened {l : List Node} {r : List Int} {i : Nat} (hi : i < l.length) (hl : l.length ≤ 4000) (hs : ∀ j : Nat, j < i → stepOk l j = true) {k : Int} (hk : k = (l.getD i node0).kind) {v : Int} (hv : v = valK (l.getD i node0) (longOf (l.take i)))
    {b : Bool} (hb : b = badK (l.getD i node0) (longOf (l.take i)) i) :
    ((!(decide (k ≥ 0) && decide (k < 4))) = true → askedOf l r = 1) ∧ ((!(decide (k ≥ 0) && decide (k < 4))) = false → (0 ≤ k ∧ k < 4) ∧ (b = true → askedOf l r = 1) ∧
      (b = false → ((!decide ((mget (fun (x y : Int) => x == y) (mput (fun (x y : Int) => x == y) (longOf (l.take i)) i v) i).getD 0 ≤ 1048576)) = true → askedOf l r = 1) ∧
        ((!decide ((mget (fun (x y : Int) => x == y) (mput (fun (x y : Int) => x == y) (longOf (l.take i)) i v) i).getD 0 ≤ 1048576)) = false → stepOk l i = true ∧ mput (fun (x y : Int) => x == y) (longOf (l.take i)) i v = longOf (l.take (i + 1))))) := by
  obtain ⟨p1, p2⟩ := prog_step hi hs
  rw [← hk, ← hv, ← hb] at p2
  rw [← hk] at p1
  refine ⟨fun h => asked_step hl hi (p1 ?_), fun h => ?_⟩
  · simp only [Bool.not_eq_true', Bool.and_eq_false_iff, decide_eq_false_iff_not] at h; omega
  · simp only [Bool.not_eq_false', Bool.and_eq_true, decide_eq_true_eq] at h
    obtain ⟨q1, q2⟩ := p2 (by omega) (by omega)
    refine ⟨by omega, fun h => asked_step hl hi (q1 h), fun h => ?_⟩
    obtain ⟨q3, q4⟩ := q2 h
    rw [mget_put]
    refine ⟨fun h => asked_step hl hi (q3 (by simpa using h)), fun h => ?_⟩
    obtain ⟨q5, q6⟩ := q4 (by simpa using h)
    refine ⟨q5, ?_⟩
    rw [take_succ_getD hi node0, longOf_snoc, ← q6]
    have hl : (l.take i).length = i := by simp; omega
    have h1 : (lensOf (l.take i)).length = i := by rw [lensOf_length, hl]
    rw [hl]
    have := mput_long v (lensOf (l.take i)) 0
    rw [h1, Nat.zero_add] at this
    exact this

theorem open_vc (l : List Node) (r : List Int) : vc (EVt tabR [(53, cMust), (56, cHas)]) (lOpen l r) Go.Proofs.Tryd.f49 cOpen (l, r, ()) := (open_eq l r).mpr (by
  intro e1 e0 hs1 hs2
  have hl1 : l.length ≤ 140737488355328 := hs1.len
  have hl2 : r.length ≤ 140737488355328 := hs2.len
  have hne : ∀ {e : Int}, askedOf l r = e → (e != 0) = true → (askedOf l r != 0) = true ∧ askedOf l r = e ∧ True := fun h h2 => ⟨by rw [h]; exact h2, h, trivial⟩
  refine ⟨fun h => ?_, fun h => ?_⟩
  · have h : ¬ (l.length : Int) ≤ 4000 := by simpa [e1] using h
    exact hne (e := 3) (by rw [askedOf, checkOf, if_pos (show 4000 < l.length by omega)]; rfl) rfl
  · have hl : l.length ≤ 4000 := by
      have h : (l.length : Int) ≤ 4000 := by simpa [e1] using h
      omega
    clear_value e1 e0
    refine ⟨⟨(0, [], ()), by trivial, by trivial, by trivial, by trivial, by trivial, by trivial, by trivial, by trivial, by trivial, by decide, by dsimp only; omega, fun i hi => by simp at hi, by simp [longOf, lensOf, longFrom]⟩, ?_⟩
    rintro ⟨i, L, ⟨⟩⟩
    dsimp only
    rintro ⟨q0, q1, q2, rfl⟩
    obtain ⟨m, rfl⟩ := Int.eq_ofNat_of_zero_le q0
    simp only [Int.toNat_natCast] at q2 ⊢
    refine ⟨fun hm => ?_, fun hm => ?_⟩
    · have hm : m < l.length := by simpa using hm
      obtain ⟨z1, z2⟩ := opened (r := r) hm hl q2 rfl rfl rfl
      refine ⟨⟨q0, by omega⟩, fun h => hne (z1 h) rfl, fun h => ?_⟩
      obtain ⟨z3, z4, z5⟩ := z2 h
      refine ⟨z3, z3, ⟨⟨⟨q0, by omega⟩, by trivial, by trivial⟩, by trivial, by trivial⟩, fun h => hne (z4 h) rfl, fun h => ?_⟩
      obtain ⟨z6, z7⟩ := z5 h
      refine ⟨fun h => hne (z6 h) rfl, fun h => ?_⟩
      obtain ⟨z8, z9⟩ := z7 h
      refine ⟨((m + 1 : Nat), _, ()), by trivial, by trivial, by trivial, by trivial, by trivial, ?_, by trivial, by trivial, by trivial, ⟨by omega, by dsimp only; omega, fun j hj => ?_, ?_⟩, by dsimp only; omega⟩
      · rw [w64_id (by omega) (by omega)]; rfl
      · dsimp only at hj
        rw [Int.toNat_natCast] at hj
        rcases Nat.lt_succ_iff_lt_or_eq.1 hj with h3 | h3
        · exact q2 j h3
        · subst h3; exact z8
      · dsimp only
        rw [Int.toNat_natCast]
        exact z9
    · have hm : l.length ≤ m := by simpa using hm
      have hmm : m = l.length := by omega
      subst hmm
      have hv : validOf l = true := valid_steps.2 q2
      have hc : checkOf l = 0 := by simp [checkOf, hv, show ¬ 4000 < l.length by omega]
      have hask : askedOf l r = if r.all fun r => lies r 0 (l.length - 1) then 0 else 2 := by rw [askedOf, if_neg (by simp [hc])]
      refine ⟨⟨(0, ()), by trivial, by trivial, by trivial, by trivial, by trivial, by trivial, by trivial, by trivial, by trivial, by trivial, by trivial, by trivial, by trivial, by decide, by dsimp only; omega, fun i hi => by simp at hi⟩, ?_⟩
      rintro ⟨i, ⟨⟩⟩
      dsimp only
      rintro ⟨w0, w1, w2⟩
      obtain ⟨k, rfl⟩ := Int.eq_ofNat_of_zero_le w0
      simp only [Int.toNat_natCast] at w2 ⊢
      refine ⟨fun hk => ?_, fun hk => ?_⟩
      · have hk : k < r.length := by simpa using hk
        refine ⟨⟨w0, by omega⟩, fun hb => hne (e := 2) ?_ rfl, fun hb => ?_⟩
        · rw [hask, if_neg]
          intro hall
          have := List.all_eq_true.1 hall (r.getD k 0) (by simp only [List.getD, List.getElem?_eq_getElem hk]; exact List.getElem_mem _)
          rw [lies_iff] at this
          simp only [Bool.not_eq_true', Bool.and_eq_false_iff, decide_eq_false_iff_not] at hb
          omega
        · refine ⟨((k + 1 : Nat), ()), by trivial, by trivial, by trivial, by trivial, by trivial, by trivial, by trivial, by trivial, by trivial, ?_, by trivial, by trivial, by trivial, ⟨by omega, by dsimp only; omega, fun j hj => ?_⟩, by dsimp only; omega⟩
          · rw [w64_id (by omega) (by omega)]; rfl
          · dsimp only at hj
            rw [Int.toNat_natCast] at hj
            rcases Nat.lt_succ_iff_lt_or_eq.1 hj with h3 | h3
            · exact w2 j h3
            · subst h3
              rw [lies_iff]
              simp only [Bool.not_eq_false', Bool.and_eq_true, decide_eq_true_eq] at hb
              omega
      · have hk : r.length ≤ k := by simpa using hk
        rw [hask, if_pos, List.take_of_length_le (Nat.le_refl _)]
        · exact ⟨rfl, rfl⟩
        · rw [List.all_eq_true]
          intro x hx
          obtain ⟨i, hi, rfl⟩ := List.mem_iff_getElem.1 hx
          have := w2 i (by omega)
          simpa only [List.getD, List.getElem?_eq_getElem hi, Option.getD_some] using this)

theorem tab_gives : ∀ (fs : List FuncId) (i : Int) (f : FuncId) (k : Con RU), fs[i.toNat]? = some f → k ∈ tabR fs i → Gives prog RG f k := by
  intro fs i f k h hk
  unfold tabR at hk
  cases hb : (fs == [102, 103, 104, 105]) with
  | false => rw [hb] at hk; simp at hk
  | true =>
    rw [hb] at hk
    simp only [cond_true, List.mem_singleton] at hk
    subst hk
    rw [eq_of_beq hb] at h
    exact kind_gives i f h
theorem open_gives : Gives prog RG 49 cOpen := givesT tab_gives (allCons must_gives (allCons has_gives allNil)) (fun p => lOpen p.1 p.2.1) (by kernel_rfl) (by kernel_rfl) (by kernel_rfl) fun (l, r, ()) _ => open_vc l r
end Go.Rp
end

section
set_option linter.unusedVariables false
set_option maxRecDepth 100000
open Go Go.VT
namespace Go.Rp

theorem costR_eq (l : List Node) (a p : Int) : vc (EV [(50, cAsked), (47, cLens), (41, cLies), (58, cWay)]) noL Go.Proofs.Tryd.f22 cCostR (l, a, p, ()) = (let e2 : Bool := askedOf l [a] != (0 : Int);
  let e1 : Bool := !lies p (0 : Int) (IntKind.wrap IntKind.i64 (List.getD (lensOf l) (Int.toNat a) (0 : Int) - (1 : Int)));
  let e0 : Int × Int × Unit := ((costAt l a p).fst, (costAt l a p).snd, ());
  Small RU (Sigma.mk (Ty.slice (56 : Nat) (Ty.user (0 : Nat))) l) →
  (e2 = true → ((0 : Int), askedOf l [a], ()) = e0) ∧
    (e2 = false →
      (List.length l ≤ (17592186044416 : Nat) ∧
          ∀ (i : Nat) (x : Node),
            l[i]? = some x →
              (x.kind = (1 : Int) → ((0 : Int) ≤ x.a ∧ x.a < (↑i : Int)) ∧ (0 : Int) ≤ x.b ∧ x.b < (↑i : Int)) ∧
                (x.kind ≠ (0 : Int) → x.kind ≠ (1 : Int) → x.kind ≠ (2 : Int) → (0 : Int) ≤ x.a ∧ x.a < (↑i : Int))) ∧
        ((0 : Int) ≤ a ∧ a < (↑(List.length (lensOf l)) : Int)) ∧
          (e1 = true → ((0 : Int), (2 : Int), ()) = e0) ∧
            (e1 = false →
              ((List.length l ≤ (4000 : Nat) ∧ validOf l = true ∧ lensOf l = lensOf l) ∧ ((0 : Int) ≤ a ∧ a < (↑(List.length l) : Int)) ∧ (0 : Int) ≤ p ∧ p < at_ (lensOf l) a) ∧
                ((wayAt l a p).fst, (0 : Int), ()) = e0))) := by kernel_rfl

theorem flatR_eq (l : List Node) (a : Int) : vc (EV [(50, cAsked), (47, cLens), (45, cUpto), (20, cGatherR)]) noL Go.Proofs.Tryd.f18 cFlatR (l, a, ()) = (let e3 : Bool := askedOf l [a] != (0 : Int);
  let e2 : Int := List.getD (lensOf l) (Int.toNat a) (0 : Int);
  let e1 : List Int × Int × Unit := ((flatAt l a).fst, (flatAt l a).snd, ());
  let e0 : List Int × Int := gatherAt l a (List.map (fun (n : Nat) => (↑n : Int)) (List.range (Int.toNat e2)));
  Small RU (Sigma.mk (Ty.slice (56 : Nat) (Ty.user (0 : Nat))) l) →
  (e3 = true → ([], askedOf l [a], ()) = e1) ∧
    (e3 = false →
      (List.length l ≤ (17592186044416 : Nat) ∧
          ∀ (i : Nat) (x : Node),
            l[i]? = some x →
              (x.kind = (1 : Int) → ((0 : Int) ≤ x.a ∧ x.a < (↑i : Int)) ∧ (0 : Int) ≤ x.b ∧ x.b < (↑i : Int)) ∧
                (x.kind ≠ (0 : Int) → x.kind ≠ (1 : Int) → x.kind ≠ (2 : Int) → (0 : Int) ≤ x.a ∧ x.a < (↑i : Int))) ∧
        ((0 : Int) ≤ a ∧ a < (↑(List.length (lensOf l)) : Int)) ∧ e2 ≤ (17592186044416 : Int) ∧ (e0.fst, e0.snd, ()) = e1)) := by kernel_rfl

theorem gatherR_eq (l : List Node) (a : Int) (r : List Int) : vc (EV [(50, cAsked), (47, cLens.frozen), (41, cLies), (58, cWay)]) (lGather l a r) Go.Proofs.Tryd.f20 cGatherR (l, a, r, ()) = (let e3 : Int := at_ (lensOf l) a - (1 : Int);
  let e2 : Bool := askedOf l [a] != (0 : Int);
  let e1 : List Int × Int × Unit := ((gatherAt l a r).fst, (gatherAt l a r).snd, ());
  let e0 : Bool := decide ((↑(List.length r) : Int) > (1048576 : Int));
  Small RU (Sigma.mk (Ty.slice (56 : Nat) (Ty.user (0 : Nat))) l) →
  Small RU (Sigma.mk (Ty.slice (3 : Nat) (Ty.int IntKind.i64)) r) →
    (e2 = true → ([], askedOf l [a], ()) = e1) ∧
      (e2 = false →
        (e0 = true → ([], (3 : Int), ()) = e1) ∧
          (e0 = false →
            (List.length l ≤ (17592186044416 : Nat) ∧
                ∀ (i : Nat) (x : Node),
                  l[i]? = some x →
                    (x.kind = (1 : Int) → ((0 : Int) ≤ x.a ∧ x.a < (↑i : Int)) ∧ (0 : Int) ≤ x.b ∧ x.b < (↑i : Int)) ∧
                      (x.kind ≠ (0 : Int) → x.kind ≠ (1 : Int) → x.kind ≠ (2 : Int) → (0 : Int) ≤ x.a ∧ x.a < (↑i : Int))) ∧
              (∃ (p : Int × List Int × Unit),
                  l = l ∧
                    a = a ∧
                      r = r ∧
                        askedOf l [a] = askedOf l [a] ∧
                          e2 = e2 ∧
                            e0 = e0 ∧
                              lensOf l = lensOf l ∧
                                (0 : Int) = p.fst ∧
                                  l = l ∧
                                    [a] = [a] ∧
                                      [] = p.snd.fst ∧
                                        (0 : Int) ≤ p.fst ∧
                                          p.fst ≤ (↑(List.length r) : Int) ∧
                                            (askedOf l [a] = (0 : Int) ∧ List.length r ≤ (1048576 : Nat)) ∧
                                              (∀ (i : Nat), i < Int.toNat p.fst → lies (List.getD r i (0 : Int)) (0 : Int) e3 = true) ∧
                                                p.snd.fst = List.map (fun (q : Int) => (wayAt l a q).snd) (List.take (Int.toNat p.fst) r)) ∧
                ∀ (p : Int × List Int × Unit),
                  let e6 : Bool := e2;
                  let e5 : Int := e3;
                  let e4 : Bool := decide (p.fst < (↑(List.length r) : Int));
                  let e3 : Bool := e0;
                  let e2 : Int := IntKind.wrap IntKind.i64 (List.getD (lensOf l) (Int.toNat a) (0 : Int) - (1 : Int));
                  let e1 : List Int × Int × Unit := e1;
                  let e0 : Int := List.getD r (Int.toNat p.fst) (0 : Int);
                  (0 : Int) ≤ p.fst ∧
                      p.fst ≤ (↑(List.length r) : Int) ∧
                        (askedOf l [a] = (0 : Int) ∧ List.length r ≤ (1048576 : Nat)) ∧
                          (∀ (i : Nat), i < Int.toNat p.fst → lies (List.getD r i (0 : Int)) (0 : Int) e5 = true) ∧
                            p.snd.fst = List.map (fun (q : Int) => (wayAt l a q).snd) (List.take (Int.toNat p.fst) r) →
                    (e4 = true →
                        ((0 : Int) ≤ p.fst ∧ p.fst < (↑(List.length r) : Int)) ∧
                          ((0 : Int) ≤ a ∧ a < (↑(List.length (lensOf l)) : Int)) ∧
                            ((!lies e0 (0 : Int) e2) = true → ([], (2 : Int), ()) = e1) ∧
                              ((!lies e0 (0 : Int) e2) = false →
                                ((0 : Int) ≤ p.fst ∧ p.fst < (↑(List.length r) : Int)) ∧
                                  ((List.length l ≤ (4000 : Nat) ∧ validOf l = true ∧ lensOf l = lensOf l) ∧ ((0 : Int) ≤ a ∧ a < (↑(List.length l) : Int)) ∧ (0 : Int) ≤ e0 ∧ e0 < at_ (lensOf l) a) ∧
                                    (List.length p.snd.fst + List.length [(wayAt l a e0).snd]) * (8 : Nat) ≤ (140737488355328 : Nat) ∧
                                      ∃ (p' : Int × List Int × Unit),
                                        l = l ∧
                                          a = a ∧
                                            r = r ∧
                                              askedOf l [a] = askedOf l [a] ∧
                                                e6 = e6 ∧
                                                  e3 = e3 ∧
                                                    lensOf l = lensOf l ∧
                                                      IntKind.wrap IntKind.i64 (p.fst + (1 : Int)) = p'.fst ∧
                                                        l = l ∧
                                                          [a] = [a] ∧
                                                            p.snd.fst ++ [(wayAt l a e0).snd] = p'.snd.fst ∧
                                                              ((0 : Int) ≤ p'.fst ∧
                                                                  p'.fst ≤ (↑(List.length r) : Int) ∧
                                                                    (askedOf l [a] = (0 : Int) ∧ List.length r ≤ (1048576 : Nat)) ∧
                                                                      (∀ (i : Nat), i < Int.toNat p'.fst → lies (List.getD r i (0 : Int)) (0 : Int) e5 = true) ∧
                                                                        p'.snd.fst = List.map (fun (q : Int) => (wayAt l a q).snd) (List.take (Int.toNat p'.fst) r)) ∧
                                                                List.length r - Int.toNat p'.fst < List.length r - Int.toNat p.fst)) ∧
                      (e4 = false → (p.snd.fst, (0 : Int), ()) = e1)))) := by kernel_rfl

theorem depthR_eq (l : List Node) (a : Int) : vc (EV [(50, cAsked)]) (lDepth l a) Go.Proofs.Tryd.f16 cDepthR (l, a, ()) = (let e1 : Int × Int × Unit := ((depthAt l a).fst, (depthAt l a).snd, ());
  let e0 : Bool := askedOf l [a] != (0 : Int);
  Small RU (Sigma.mk (Ty.slice (56 : Nat) (Ty.user (0 : Nat))) l) →
  (e0 = true → ((0 : Int), askedOf l [a], ()) = e1) ∧
    (e0 = false →
      (∃ (p : Int × List Int × Unit),
          l = l ∧
            a = a ∧
              (0 : Int) = (0 : Int) ∧
                (0 : Int) = (0 : Int) ∧
                  askedOf l [a] = askedOf l [a] ∧
                    e0 = e0 ∧
                      (0 : Int) = p.fst ∧
                        l = l ∧ [a] = [a] ∧ [] = p.snd.fst ∧ (0 : Int) ≤ p.fst ∧ p.fst ≤ a + (1 : Int) ∧ askedOf l [a] = (0 : Int) ∧ p.snd.fst = depthsOf (List.take (Int.toNat p.fst) l)) ∧
        ∀ (p : Int × List Int × Unit),
          let e4 : Bool := decide (p.fst ≤ a);
          let e3 : Nat := Int.toNat (a + (1 : Int)) - Int.toNat p.fst;
          let e2 : Int := IntKind.wrap IntKind.i64 (p.fst + (1 : Int));
          let e1_1 : Bool := e0;
          let e0 : Node := List.getD l (Int.toNat p.fst) (Node.mk (0 : Int) (0 : Int) (0 : Int) (0 : Int) (0 : Int) (0 : Int) []);
          (0 : Int) ≤ p.fst ∧ p.fst ≤ a + (1 : Int) ∧ askedOf l [a] = (0 : Int) ∧ p.snd.fst = depthsOf (List.take (Int.toNat p.fst) l) →
            (e4 = true →
                ((0 : Int) ≤ p.fst ∧ p.fst < (↑(List.length l) : Int)) ∧
                  ((e0.kind != (0 : Int)) = true →
                      ((0 : Int) ≤ e0.a ∧ e0.a < (↑(List.length p.snd.fst) : Int)) ∧
                        ((e0.kind == (1 : Int)) = true →
                            ((0 : Int) ≤ e0.b ∧ e0.b < (↑(List.length p.snd.fst) : Int)) ∧
                              (List.length p.snd.fst +
                                      List.length
                                        [if
                                              IntKind.wrap IntKind.i64 (List.getD p.snd.fst (Int.toNat e0.b) (0 : Int) + (1 : Int)) >
                                                IntKind.wrap IntKind.i64 (List.getD p.snd.fst (Int.toNat e0.a) (0 : Int) + (1 : Int)) then
                                            IntKind.wrap IntKind.i64 (List.getD p.snd.fst (Int.toNat e0.b) (0 : Int) + (1 : Int))
                                          else IntKind.wrap IntKind.i64 (List.getD p.snd.fst (Int.toNat e0.a) (0 : Int) + (1 : Int))]) *
                                    (8 : Nat) ≤
                                  (140737488355328 : Nat) ∧
                                ∃ (p' : Int × List Int × Unit),
                                  l = l ∧
                                    a = a ∧
                                      (0 : Int) = (0 : Int) ∧
                                        (0 : Int) = (0 : Int) ∧
                                          askedOf l [a] = askedOf l [a] ∧
                                            e1_1 = e1_1 ∧
                                              e2 = p'.fst ∧
                                                l = l ∧
                                                  [a] = [a] ∧
                                                    p.snd.fst ++
                                                          [if
                                                                IntKind.wrap IntKind.i64 (List.getD p.snd.fst (Int.toNat e0.b) (0 : Int) + (1 : Int)) >
                                                                  IntKind.wrap IntKind.i64 (List.getD p.snd.fst (Int.toNat e0.a) (0 : Int) + (1 : Int)) then
                                                              IntKind.wrap IntKind.i64 (List.getD p.snd.fst (Int.toNat e0.b) (0 : Int) + (1 : Int))
                                                            else IntKind.wrap IntKind.i64 (List.getD p.snd.fst (Int.toNat e0.a) (0 : Int) + (1 : Int))] =
                                                        p'.snd.fst ∧
                                                      ((0 : Int) ≤ p'.fst ∧ p'.fst ≤ a + (1 : Int) ∧ askedOf l [a] = (0 : Int) ∧ p'.snd.fst = depthsOf (List.take (Int.toNat p'.fst) l)) ∧
                                                        Int.toNat (a + (1 : Int)) - Int.toNat p'.fst < e3) ∧
                          ((e0.kind == (1 : Int)) = false →
                            (List.length p.snd.fst + List.length [IntKind.wrap IntKind.i64 (List.getD p.snd.fst (Int.toNat e0.a) (0 : Int) + (1 : Int))]) * (8 : Nat) ≤ (140737488355328 : Nat) ∧
                              ∃ (p' : Int × List Int × Unit),
                                l = l ∧
                                  a = a ∧
                                    (0 : Int) = (0 : Int) ∧
                                      (0 : Int) = (0 : Int) ∧
                                        askedOf l [a] = askedOf l [a] ∧
                                          e1_1 = e1_1 ∧
                                            e2 = p'.fst ∧
                                              l = l ∧
                                                [a] = [a] ∧
                                                  p.snd.fst ++ [IntKind.wrap IntKind.i64 (List.getD p.snd.fst (Int.toNat e0.a) (0 : Int) + (1 : Int))] = p'.snd.fst ∧
                                                    ((0 : Int) ≤ p'.fst ∧ p'.fst ≤ a + (1 : Int) ∧ askedOf l [a] = (0 : Int) ∧ p'.snd.fst = depthsOf (List.take (Int.toNat p'.fst) l)) ∧
                                                      Int.toNat (a + (1 : Int)) - Int.toNat p'.fst < e3)) ∧
                    ((e0.kind != (0 : Int)) = false →
                      ((e0.kind == (1 : Int)) = true →
                          ((0 : Int) ≤ e0.b ∧ e0.b < (↑(List.length p.snd.fst) : Int)) ∧
                            (List.length p.snd.fst +
                                    List.length
                                      [if IntKind.wrap IntKind.i64 (List.getD p.snd.fst (Int.toNat e0.b) (0 : Int) + (1 : Int)) > (1 : Int) then
                                          IntKind.wrap IntKind.i64 (List.getD p.snd.fst (Int.toNat e0.b) (0 : Int) + (1 : Int))
                                        else (1 : Int)]) *
                                  (8 : Nat) ≤
                                (140737488355328 : Nat) ∧
                              ∃ (p' : Int × List Int × Unit),
                                l = l ∧
                                  a = a ∧
                                    (0 : Int) = (0 : Int) ∧
                                      (0 : Int) = (0 : Int) ∧
                                        askedOf l [a] = askedOf l [a] ∧
                                          e1_1 = e1_1 ∧
                                            e2 = p'.fst ∧
                                              l = l ∧
                                                [a] = [a] ∧
                                                  p.snd.fst ++
                                                        [if IntKind.wrap IntKind.i64 (List.getD p.snd.fst (Int.toNat e0.b) (0 : Int) + (1 : Int)) > (1 : Int) then
                                                            IntKind.wrap IntKind.i64 (List.getD p.snd.fst (Int.toNat e0.b) (0 : Int) + (1 : Int))
                                                          else (1 : Int)] =
                                                      p'.snd.fst ∧
                                                    ((0 : Int) ≤ p'.fst ∧ p'.fst ≤ a + (1 : Int) ∧ askedOf l [a] = (0 : Int) ∧ p'.snd.fst = depthsOf (List.take (Int.toNat p'.fst) l)) ∧
                                                      Int.toNat (a + (1 : Int)) - Int.toNat p'.fst < e3) ∧
                        ((e0.kind == (1 : Int)) = false →
                          (List.length p.snd.fst + (1 : Nat)) * (8 : Nat) ≤ (140737488355328 : Nat) ∧
                            ∃ (p' : Int × List Int × Unit),
                              l = l ∧
                                a = a ∧
                                  (0 : Int) = (0 : Int) ∧
                                    (0 : Int) = (0 : Int) ∧
                                      askedOf l [a] = askedOf l [a] ∧
                                        e1_1 = e1_1 ∧
                                          e2 = p'.fst ∧
                                            l = l ∧
                                              [a] = [a] ∧
                                                p.snd.fst ++ [(1 : Int)] = p'.snd.fst ∧
                                                  ((0 : Int) ≤ p'.fst ∧ p'.fst ≤ a + (1 : Int) ∧ askedOf l [a] = (0 : Int) ∧ p'.snd.fst = depthsOf (List.take (Int.toNat p'.fst) l)) ∧
                                                    Int.toNat (a + (1 : Int)) - Int.toNat p'.fst < e3))) ∧
              (e4 = false → ((0 : Int) ≤ a ∧ a < (↑(List.length p.snd.fst) : Int)) ∧ (List.getD p.snd.fst (Int.toNat a) (0 : Int), (0 : Int), ()) = e1))) := by kernel_rfl

end Go.Rp
end

section
set_option linter.unusedVariables false
set_option linter.unusedSimpArgs false
set_option maxRecDepth 100000
namespace Go.Rp
open Go Go.VT

theorem lens_bound {l : List Node} (h : validOf l = true) {a : Int} (h0 : 0 ≤ a) (h1 : a < l.length) : 0 ≤ at_ (lensOf l) a ∧ at_ (lensOf l) a ≤ 1048576 := by
  obtain ⟨k, rfl⟩ := Int.eq_ofNat_of_zero_le h0
  exact (valid_lens h k (by omega)).1

theorem costR_vc (l : List Node) (a p : Int) : vc (EV [(50, cAsked), (47, cLens), (41, cLies), (58, cWay)]) noL Go.Proofs.Tryd.f22 cCostR (l, a, p, ()) := (costR_eq l a p).mpr (by
  intro e2 e1 e0 hs
  have he1 : e1 = !lies p 0 (IntKind.i64.wrap (at_ (lensOf l) a - 1)) := rfl
  clear_value e1
  refine ⟨fun h => ?_, fun h => ?_⟩
  · have h : askedOf l [a] ≠ 0 := by simpa [e2] using h
    simp only [e0, costAt, if_pos h]
  · have h : askedOf l [a] = 0 := by simpa [e2] using h
    have hn : ¬ (askedOf l [a] ≠ 0) := by simpa using h
    obtain ⟨h3, h4, h5⟩ := asked_ok h
    have ha := h5 a (by simp)
    have hb := lens_bound h4 ha.1 ha.2
    rw [w64_id (by omega) (by omega)] at he1
    refine ⟨⟨by omega, valid_ahead h4⟩, by rw [lensOf_length]; exact ha, fun h2 => ?_, fun h2 => ?_⟩
    · rw [he1] at h2
      simp only [e0, costAt, if_neg hn, h2, if_true]
    · rw [he1] at h2
      have hlies : lies p 0 (at_ (lensOf l) a - 1) = true := by simpa using h2
      rw [lies_iff] at hlies
      refine ⟨⟨⟨h3, h4, by trivial⟩, ha, by omega, by omega⟩, ?_⟩
      simp only [e0, costAt, if_neg hn, h2, Bool.false_eq_true, if_false])
theorem costR_gives : Gives prog RG 22 cCostR := gives (allCons asked_gives (allCons lens_gives (allCons lies_gives (allCons way_gives allNil)))) (fun _ => noL) (by kernel_rfl) (by kernel_rfl) (by kernel_rfl) fun (l, a, p, ()) _ => costR_vc l a p

theorem flat_gather {l : List Node} {a : Int} (h : askedOf l [a] = 0) : gatherAt l a ((List.range (at_ (lensOf l) a).toNat).map fun n : Nat => (n : Int)) = flatAt l a := by
  obtain ⟨h3, h4, h5⟩ := asked_ok h
  have ha := h5 a (by simp)
  have hb := lens_bound h4 ha.1 ha.2
  have hn : ¬ (askedOf l [a] ≠ 0) := by simpa using h
  have hall : (((List.range (at_ (lensOf l) a).toNat).map fun n : Nat => (n : Int)).all fun p => lies p 0 (at_ (lensOf l) a - 1)) = true := by
    rw [List.all_eq_true]
    intro x hx
    simp only [List.mem_map, List.mem_range] at hx
    obtain ⟨n, hn, rfl⟩ := hx
    rw [lies_iff]
    omega
  rw [gatherAt, if_neg hn, if_neg (by simp; omega), hall, flatAt, if_neg hn]
  simp [List.map_map, Function.comp_def]

theorem flatR_vc (l : List Node) (a : Int) : vc (EV [(50, cAsked), (47, cLens), (45, cUpto), (20, cGatherR)]) noL Go.Proofs.Tryd.f18 cFlatR (l, a, ()) := (flatR_eq l a).mpr (by
  intro e3 e2 e1 e0 hs
  refine ⟨fun h => ?_, fun h => ?_⟩
  · have h : askedOf l [a] ≠ 0 := by simpa [e3] using h
    simp only [e1, flatAt, if_pos h]
  · have h : askedOf l [a] = 0 := by simpa [e3] using h
    obtain ⟨h3, h4, h5⟩ := asked_ok h
    have ha := h5 a (by simp)
    have hb := lens_bound h4 ha.1 ha.2
    have he2 : e2 = at_ (lensOf l) a := rfl
    have he0 : e0 = flatAt l a := flat_gather h
    clear_value e2 e0
    exact ⟨⟨by omega, valid_ahead h4⟩, by rw [lensOf_length]; exact ha, by omega, by rw [he0]⟩)

theorem gatherR_vc (l : List Node) (a : Int) (r : List Int) : vc (EV [(50, cAsked), (47, cLens.frozen), (41, cLies), (58, cWay)]) (lGather l a r) Go.Proofs.Tryd.f20 cGatherR (l, a, r, ()) := (gatherR_eq l a r).mpr (by
  intro e3 e2 e1 e0 hs hs2
  have hr : r.length ≤ 140737488355328 := hs2.len
  refine ⟨fun h => ?_, fun h => ?_⟩
  · have h : askedOf l [a] ≠ 0 := by simpa [e2] using h
    simp only [e1, gatherAt, if_pos h]
  · have h : askedOf l [a] = 0 := by simpa [e2] using h
    have hn : ¬ (askedOf l [a] ≠ 0) := by simpa using h
    obtain ⟨h3, h4, h5⟩ := asked_ok h
    have ha := h5 a (by simp)
    have hb := lens_bound h4 ha.1 ha.2
    refine ⟨fun h2 => ?_, fun h2 => ?_⟩
    · have h2 : 1048576 < r.length := by simp [e0] at h2; omega
      simp only [e1, gatherAt, if_neg hn, if_pos h2]
    · have h2 : ¬ 1048576 < r.length := by simp [e0] at h2; omega
      have hg : gatherAt l a r = if !(r.all fun p => lies p 0 (at_ (lensOf l) a - 1)) then ([], 2) else (r.map fun p => (wayAt l a p).2, 0) := by rw [gatherAt, if_neg hn, if_neg h2]
      refine ⟨⟨by omega, valid_ahead h4⟩, ⟨(0, [], ()), rfl, rfl, rfl, rfl, rfl, rfl, rfl, rfl, rfl, rfl, rfl, Int.le_refl _, by dsimp only; omega, ⟨h, by omega⟩, fun i hi => by simp at hi, by simp⟩, ?_⟩
      rintro ⟨i, out, ⟨⟩⟩ f6 f5 f4 f3 f2 f1 f0 ⟨q0, q1, _, q2, q3⟩
      dsimp only at q0 q1 q2 q3
      obtain ⟨m, rfl⟩ := Int.eq_ofNat_of_zero_le q0
      have hf2 : f2 = at_ (lensOf l) a - 1 := by
        show IntKind.i64.wrap (at_ (lensOf l) a - 1) = _
        exact w64_id (by omega) (by omega)
      have hf5 : f5 = at_ (lensOf l) a - 1 := rfl
      have hf0 : f0 = r.getD m 0 := rfl
      have hf4 : f4 = decide ((m : Int) < r.length) := rfl
      have hf1 : f1 = ((gatherAt l a r).1, (gatherAt l a r).2, ()) := rfl
      clear_value f0 f1 f2 f3 f4 f5 f6
      simp only [Int.toNat_natCast] at q2 q3 ⊢
      subst hf2; subst hf5; subst hf4; subst hf0
      simp only [decide_eq_true_eq, decide_eq_false_iff_not]
      refine ⟨fun hlt => ⟨⟨q0, hlt⟩, by rw [lensOf_length]; exact ha, fun hl => ?_, fun hl => ?_⟩, fun hge => ?_⟩
      · have : (r.all fun p => lies p 0 (at_ (lensOf l) a - 1)) = false := by
          rw [← Bool.not_eq_true, List.all_eq_true]
          intro hall
          have := hall (r.getD m 0) (by simp only [List.getD, List.getElem?_eq_getElem (show m < r.length by omega)]; exact List.getElem_mem _)
          rw [this] at hl
          cases hl
        rw [hf1, hg, this]
        rfl
      · have hl' : lies (r.getD m 0) 0 (at_ (lensOf l) a - 1) = true := by simpa using hl
        have hl2 := lies_iff.1 hl'
        have hout : out.length = m := by rw [q3]; simp; omega
        refine ⟨⟨q0, hlt⟩, ⟨⟨h3, h4, by trivial⟩, ha, by omega, by omega⟩, by rw [hout]; simp; omega, ((m + 1 : Nat), out ++ [(wayAt l a (r.getD m 0)).2], ()), by trivial, by trivial, by trivial, by trivial, by trivial, by trivial, by trivial, ?_, by trivial, by trivial, rfl, ⟨by dsimp only; omega, by dsimp only; omega, ⟨h, by omega⟩, fun i hi => ?_, ?_⟩, by dsimp only; omega⟩
        · rw [w64_id (by omega) (by omega)]; rfl
        · dsimp only at hi
          rw [Int.toNat_natCast] at hi
          rcases Nat.lt_succ_iff_lt_or_eq.1 hi with h6 | h6
          · exact q2 i h6
          · subst h6; exact hl'
        · dsimp only
          rw [Int.toNat_natCast, take_succ_getD (by omega : m < r.length) 0, List.map_append, ← q3]
          rfl
      · have hm : m = r.length := by omega
        subst hm
        have : (r.all fun p => lies p 0 (at_ (lensOf l) a - 1)) = true := by
          rw [List.all_eq_true]
          intro x hx
          obtain ⟨i, hi, rfl⟩ := List.mem_iff_getElem.1 hx
          have := q2 i hi
          simpa only [List.getD, List.getElem?_eq_getElem hi, Option.getD_some] using this
        rw [hf1, hg, this, q3, List.take_length]
        rfl)
theorem gatherR_gives : Gives prog RG 20 cGatherR := gives (allCons asked_gives (allCons (lens_gives.frozen rfl) (allCons lies_gives (allCons way_gives allNil)))) (fun p => lGather p.1 p.2.1 p.2.2.1) (by kernel_rfl) (by kernel_rfl) (by kernel_rfl) fun (l, a, r, ()) _ => gatherR_vc l a r
theorem flatR_gives : Gives prog RG 18 cFlatR := gives (allCons asked_gives (allCons lens_gives (allCons upto_gives (allCons gatherR_gives allNil)))) (fun _ => noL) (by kernel_rfl) (by kernel_rfl) (by kernel_rfl) fun (l, a, ()) _ => flatR_vc l a

def grow {α : Type} (g : List Int → α → Int) (l : List α) : List Int := l.foldl (fun out x => out ++ [g out x]) []
theorem grow_snoc {α : Type} (g : List Int → α → Int) (l : List α) (x : α) : grow g (l ++ [x]) = grow g l ++ [g (grow g l) x] := by simp [grow]
theorem grow_length {α : Type} (g : List Int → α → Int) (l : List α) : (grow g l).length = l.length := by
  have : ∀ (l : List α) (out : List Int), (l.foldl (fun out x => out ++ [g out x]) out).length = out.length + l.length := by
    intro l
    induction l with
    | nil => intro out; rfl
    | cons x l ih => intro out; rw [List.foldl_cons, ih]; simp; omega
  unfold grow
  simpa using this l []
theorem grow_take {α : Type} (g : List Int → α → Int) : ∀ (l : List α) (m : Nat), m ≤ l.length → grow g (l.take m) = (grow g l).take m := by
  intro l
  generalize hn : l.length = n
  induction n generalizing l with
  | zero =>
    intro m hm
    have : l = [] := List.length_eq_zero_iff.1 hn
    subst this
    simp [grow]
  | succ n ih =>
    intro m hm
    have hne : l ≠ [] := by intro h; rw [h] at hn; cases hn
    obtain ⟨l', x, rfl⟩ : ∃ l' x, l = l' ++ [x] := ⟨l.dropLast, l.getLast hne, (List.dropLast_concat_getLast hne).symm⟩
    have hl' : l'.length = n := by simpa using hn
    rcases Nat.lt_or_ge m (n + 1) with h | h
    · rw [List.take_append_of_le_length (by omega), ih l' hl' m (by omega), grow_snoc, List.take_append_of_le_length (by rw [grow_length]; omega)]
    · rw [List.take_of_length_le (by simp; omega), List.take_of_length_le (by rw [grow_length]; simp; omega)]

theorem depths_grow (l : List Node) : depthsOf l = grow depthOf l := rfl

theorem imax (x y : Int) : (if y > x then y else x) = max x y := by
  rw [Int.max_def]; split <;> split <;> omega

theorem depthR_vc (l : List Node) (a : Int) : vc (EV [(50, cAsked)]) (lDepth l a) Go.Proofs.Tryd.f16 cDepthR (l, a, ()) := (depthR_eq l a).mpr (by
  intro e1 e0 hs
  refine ⟨fun h => ?_, fun h => ?_⟩
  · have h : askedOf l [a] ≠ 0 := by simpa [e0] using h
    simp only [e1, depthAt, if_pos h]
  · have h : askedOf l [a] = 0 := by simpa [e0] using h
    have hn : ¬ (askedOf l [a] ≠ 0) := by simpa using h
    obtain ⟨h3, h4, h5⟩ := asked_ok h
    have ha := h5 a (by simp)
    refine ⟨⟨(0, [], ()), rfl, rfl, rfl, rfl, rfl, rfl, rfl, rfl, rfl, rfl, Int.le_refl _, by dsimp only; omega, h, rfl⟩, ?_⟩
    rintro ⟨i, out, ⟨⟩⟩ f4 f3 f2 f1 f0 ⟨q0, q1, _, q2⟩
    dsimp only at q0 q1 q2
    obtain ⟨m, rfl⟩ := Int.eq_ofNat_of_zero_le q0
    rw [Int.toNat_natCast] at q2
    have hf4 : f4 = decide ((m : Int) ≤ a) := rfl
    have hf3 : f3 = (a + 1).toNat - m := rfl
    have hf2 : f2 = (m : Int) + 1 := w64_id (by omega) (by omega)
    have hf0 : f0 = l.getD m node0 := rfl
    clear_value f0 f1 f2 f3 f4
    subst hf4 hf3 hf2
    have hout : out.length = m := by rw [q2, depths_grow, grow_length]; simp; omega
    dsimp only
    refine ⟨fun hlt => ?_, fun hge => ?_⟩
    · have hlt : (m : Int) ≤ a := by simpa using hlt
      have hml : m < l.length := by omega
      have hx := valid_fields h4 m hml
      rw [← hf0] at hx
      have fin : ∀ v, v = depthOf out f0 → ((out.length + [v].length) * 8 ≤ 140737488355328 ∧ ∃ p' : Int × List Int × Unit, l = l ∧ a = a ∧ (0 : Int) = 0 ∧ (0 : Int) = 0 ∧ askedOf l [a] = askedOf l [a] ∧ f1 = f1 ∧ (m : Int) + 1 = p'.1 ∧ l = l ∧ [a] = [a] ∧ out ++ [v] = p'.2.1 ∧
          (0 ≤ p'.1 ∧ p'.1 ≤ a + 1 ∧ askedOf l [a] = 0 ∧ p'.2.1 = depthsOf (l.take p'.1.toNat)) ∧ (a + 1).toNat - p'.1.toNat < (a + 1).toNat - m) := by
        intro v hv
        refine ⟨by simp [hout]; omega, ((m + 1 : Nat), out ++ [v], ()), rfl, rfl, rfl, rfl, rfl, rfl, rfl, rfl, rfl, rfl, ⟨by dsimp only; omega, by dsimp only; omega, h, ?_⟩, by dsimp only; omega⟩
        dsimp only
        rw [Int.toNat_natCast, take_succ_getD hml node0, depths_grow, grow_snoc, ← depths_grow, ← q2, hv, hf0]
      refine ⟨⟨q0, by omega⟩, fun k0 => ?_, fun k0 => ⟨fun k1 => ?_, fun k1 => ?_⟩⟩
      · have k0 : ¬ f0.kind = 0 := by simpa using k0
        have hA := fields_a hx k0
        refine ⟨by omega, fun k1 => ⟨?_, fin _ ?_⟩, fun k1 => fin _ ?_⟩
        · have k1 : f0.kind = 1 := by simpa using k1
          have := ((fields_ahead hx).1 k1).2
          omega
        · have k1 : f0.kind = 1 := by simpa using k1
          rw [imax, depthOf, if_neg k0, if_pos k1]
          rfl
        · have k1 : ¬ f0.kind = 1 := by simpa using k1
          rw [depthOf, if_neg k0, if_neg k1]
          rfl
      · exfalso
        have k0 : f0.kind = 0 := by simpa using k0
        have k1 : f0.kind = 1 := by simpa using k1
        omega
      · have k0 : f0.kind = 0 := by simpa using k0
        exact fin _ (by rw [depthOf, if_pos k0])
    · have hge : ¬ (m : Int) ≤ a := by simpa using hge
      have hm : (m : Int) = a + 1 := by omega
      refine ⟨by omega, ?_⟩
      have : at_ out a = at_ (depthsOf l) a := by
        rw [q2, depths_grow, grow_take _ _ _ (by omega), ← depths_grow, at_take ha.1 (by omega)]
      simp only [e1, depthAt, if_neg hn, ← this]
      rfl)
theorem depthR_gives : Gives prog RG 16 cDepthR := gives (allCons asked_gives allNil) (fun p => lDepth p.1 p.2.1) (by kernel_rfl) (by kernel_rfl) (by kernel_rfl) fun (l, a, ()) _ => depthR_vc l a
end Go.Rp
end
