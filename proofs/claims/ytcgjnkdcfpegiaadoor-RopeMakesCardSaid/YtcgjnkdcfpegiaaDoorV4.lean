/-
What the last text of this claim uses: RpBase, RpRow, VtDf, RpP, RpP2, RpP3, RpCt, RpP4, RpP5, RpP6, RpP7, RpGr, RpUn0, RpKp, RpLw, RpEq16, RpEq11, RpEq10, RpEq9, RpEq8, RpEq, RpA, RpEq2, RpB, RpEq3, RpC, RpEq4, RpE.
-/
import Derived.Test.YtcgjnkdcfpegiaaDoorV3
import Derived.Test.YtcgjnkdcfpegiaaDoorProg
import Derived.KernelRfl
import Derived.Laws.Bits
import Derived.Test.YtcgjnkdcfpegiaaDoorRows
import Derived.ProofKit
import Derived.LaidMore
import Derived.Stop.Joined
import Derived.RecoverIn
import Derived.Tactics2
import Derived.TacticsInMore
import Derived.WideLaws
import Derived.Laws.Append
import Derived.Laws.AppendOwn

section
set_option linter.unusedVariables false
set_option maxRecDepth 100000
namespace Go.Rp
open Go Go.VT

abbrev i64 : Ty := .int .i64

/-- The cells of a node, as data. -/
def nodeDs {T : Nat → Type} (x : Node) : List ((t : Ty) × den T t) := [⟨.int .i64, x.kind⟩, ⟨.int .i64, x.a⟩, ⟨.int .i64, x.b⟩, ⟨.int .i64, x.from_⟩, ⟨.int .i64, x.len⟩, ⟨.int .i64, x.n⟩, ⟨.slice 3 (.int .i64), x.words⟩]
def dsNode {T : Nat → Type} : List ((t : Ty) × den T t) → Option Node
  | [⟨.int .i64, x1⟩, ⟨.int .i64, x2⟩, ⟨.int .i64, x3⟩, ⟨.int .i64, x4⟩, ⟨.int .i64, x5⟩, ⟨.int .i64, x6⟩, ⟨.slice 3 (.int .i64), w⟩] => some ⟨x1, x2, x3, x4, x5, x6, w⟩
  | _ => none

theorem dsNode_eq {T : Nat → Type} {ds : List ((t : Ty) × den T t)} {x : Node} (h : dsNode ds = some x) : ds = nodeDs x := by
  unfold dsNode at h
  split at h
  · simp only [Option.some.injEq] at h
    subst h
    rfl
  · cases h

/-- What is needed of a rope: nothing, or the parts of a node. -/
def needIfc {T : Nat → Type} : Option Node → Option (TypeId × Bool × List ((t : Ty) × den T t))
  | none => some (112, true, [])
  | some x => some (114, true, nodeDs x)
def needMk {T : Nat → Type} (t : TypeId) (b : Bool) (ds : List ((t : Ty) × den T t)) : Option (Option Node) :=
  bif b && Nat.beq t 112 then (match ds with
    | [] => some none
    | _ => none) else bif b && Nat.beq t 114 then (dsNode ds).map some else none

theorem need_mk {T : Nat → Type} {t : TypeId} {b : Bool} {ds : List ((t : Ty) × den T t)} {x : Option Node} (h : needMk t b ds = some x) : needIfc x = some (t, b, ds) := by
  unfold needMk at h
  simp only [Bool.cond_eq_ite] at h
  split at h
  · rename_i hc
    simp only [Bool.and_eq_true] at hc
    obtain ⟨rfl, hc⟩ := hc
    have := Nat.eq_of_beq_eq_true hc
    subst this
    split at h
    · cases h; rfl
    · cases h
  · split at h
    · rename_i hc
      simp only [Bool.and_eq_true] at hc
      obtain ⟨rfl, hc⟩ := hc
      have := Nat.eq_of_beq_eq_true hc
      subst this
      simp only [Option.map_eq_some_iff] at h
      obtain ⟨y, hy, rfl⟩ := h
      rw [dsNode_eq hy]; rfl
    · cases h

noncomputable def RU : Univ where
  T := fun i => match i with | 0 => Node | 1 => Piece | 2 => Option Node | _ => Unit
  dflt := fun i => match i with | 0 => node0 | 1 => ⟨0, 0, 0, 0⟩ | 2 => none | _ + 3 => ()
  fields := fun i => match i with | 0 => [i64, i64, i64, i64, i64, i64, .slice 3 i64] | 1 => [i64, i64, i64, i64] | _ + 2 => []
  get := fun i => match i with | 0 => fun (x : Node) => (x.kind, x.a, x.b, x.from_, x.len, x.n, x.words, ()) | 1 => fun (x : Piece) => (x.node, x.from_, x.len, x.n, ()) | _ + 2 => fun _ => ()
  put := fun i => match i with | 0 => fun c => (⟨c.1, c.2.1, c.2.2.1, c.2.2.2.1, c.2.2.2.2.1, c.2.2.2.2.2.1, c.2.2.2.2.2.2.1⟩ : Node) | 1 => fun c => (⟨c.1, c.2.1, c.2.2.1, c.2.2.2.1⟩ : Piece) | 2 => fun _ => none | _ + 3 => fun _ => ()
  get_put := fun i => match i with | 0 => fun _ => rfl | 1 => fun _ => rfl | _ + 2 => fun _ => rfl
  ifc := fun i => match i with | 2 => fun x => needIfc x | _ => fun _ => none
  mkIfc := fun i => match i with | 2 => fun t b ds => needMk t b ds | _ => fun _ _ _ => none
  ifc_mk := fun i => match i with
    | 0 => fun _ _ _ _ h => by cases h
    | 1 => fun _ _ _ _ h => by cases h
    | 2 => fun _ _ _ _ h => need_mk h
    | _ + 3 => fun _ _ _ _ h => by cases h

noncomputable abbrev prog : Program := Go.Proofs.Tryd.prog
abbrev ints : Ty := .slice 3 i64
abbrev nodes : Ty := .slice 56 (.user 0)

noncomputable def codeL : List (TypeId × Ty) := [(3, i64), (4, .bool), (56, .user 0), (25, ints), (95, .user 1)]
/-- What stands in the global cells: the functions of the kinds of nodes. -/
def RG : List (Nat × List FuncId) := [(0, [102, 103, 104, 105])]
noncomputable def EV (l : List (FuncId × Con RU)) : Env RU := ⟨prog, codesOf codeL, consOf l, RG, fun _ _ => [], fun _ _ => [], [], none, fun _ => []⟩
/-- The same, with contracts of the functions that a table names. -/
noncomputable def EVt (tab : List FuncId → Int → List (Con RU)) (l : List (FuncId × Con RU)) : Env RU := ⟨prog, codesOf codeL, consOf l, RG, tab, fun _ _ => [], [], none, fun _ => []⟩

theorem fits (l : List (FuncId × Con RU)) : (EV l).Fits := fits_of (by kernel_rfl)
theorem fitsT (tab : List FuncId → Int → List (Con RU)) (l : List (FuncId × Con RU)) : (EVt tab l).Fits := fits_of (by kernel_rfl)
theorem mixed : prog.follows .mixedOrders = true := by kernel_rfl

noncomputable def noL : Nat → St RU → Ann RU := fun _ _ => ⟨[], [], [], fun _ => False, fun _ => 0, []⟩

/-- A contract of a function that takes data and returns data. -/
noncomputable abbrev con (args : List (Bool × Nat)) (params : List Ty) (res : List (Bool × Nat)) (tys : List Ty) (own : List Bool) (pre : Option (Dens RU.T params → Prop)) (fn : Dens RU.T params → Dens RU.T tys) : Con RU :=
  Con.flat args params res tys own pre fn

abbrev one : Bool × Nat := (false, 1)

theorem gives {l : List (FuncId × Con RU)} (hl : ∀ x ∈ l, Gives prog RG x.1 x.2) {f : FuncId} {fn : Func} {k : Con RU} (L : Dens RU.T k.params → Nat → St RU → Ann RU) (hf : prog.funcs[f]? = some fn) (hn : (fn.name == "runtime.NumGoroutine") = false) (hb : fn.body.isNone = false)
    (h : ∀ xs, holds (k.pre.map fun p => p xs) → vc (EV l) (L xs) fn k xs) (hyl : k.yl = [] := by rfl) : Gives prog RG f k :=
  fun Y => vc_gives (E := EV l) (fits l) ⟨gives_of (fun x hx => hl x hx Y), fun _ _ _ _ _ h => (by cases h), fun _ _ _ h => (by cases h), fun _ h => (by cases h), fun _ _ _ _ h => (by cases h)⟩ mixed hf hn L h hb hyl

theorem givesT {tab : List FuncId → Int → List (Con RU)} (ht : ∀ fs (i : Int) f k, fs[i.toNat]? = some f → k ∈ tab fs i → Gives prog RG f k) {l : List (FuncId × Con RU)} (hl : ∀ x ∈ l, Gives prog RG x.1 x.2) {f : FuncId} {fn : Func} {k : Con RU} (L : Dens RU.T k.params → Nat → St RU → Ann RU) (hf : prog.funcs[f]? = some fn) (hn : (fn.name == "runtime.NumGoroutine") = false) (hb : fn.body.isNone = false)
    (h : ∀ xs, holds (k.pre.map fun p => p xs) → vc (EVt tab l) (L xs) fn k xs) (hyl : k.yl = [] := by rfl) : Gives prog RG f k :=
  fun Y => vc_gives (E := EVt tab l) (fitsT tab l) ⟨gives_of (fun x hx => hl x hx Y), fun fs i f k h1 h2 => ht fs i f k h1 h2 Y, fun _ _ _ h => (by cases h), fun _ h => (by cases h), fun _ _ _ _ h => (by cases h)⟩ mixed hf hn L h hb hyl

noncomputable def cLies : Con RU := con [one, one, one] [i64, i64, i64] [one] [.bool] [false] none fun p => (lies p.1 p.2.1 p.2.2.1, ())
noncomputable def cIsWord : Con RU := con [one] [i64] [one] [.bool] [false] none fun p => (isWord p.1, ())
noncomputable def cWord : Con RU := con [one] [i64] [one] [i64] [false] none fun p => (word p.1, ())
noncomputable def cWords : Con RU := con [one] [ints] [one] [.bool] [false] none fun p => (p.1.all isWord, ())
noncomputable def cCopy : Con RU := con [one] [ints] [one] [ints] [true] (some fun p => p.1.length ≤ 17592186044416) fun p => (p.1, ())
noncomputable def cEqual : Con RU := con [one, one] [ints, ints] [one] [.bool] [false] none fun p => (decide (p.1 = p.2.1), ())
noncomputable def cUpto : Con RU := con [one] [i64] [one] [ints] [true] (some fun p => p.1 ≤ 17592186044416) fun p => ((List.range p.1.toNat).map (fun n : Nat => (n : Int)), ())
noncomputable def cLens : Con RU := con [(true, 1)] [nodes] [one] [ints] [true] (some fun p => p.1.length ≤ 17592186044416 ∧ ∀ (i : Nat) (x : Node), p.1[i]? = some x → ahead x i) fun p => (lensOf p.1, ())

theorem allNil : ∀ x ∈ ([] : List (FuncId × Con RU)), Gives prog RG x.1 x.2 := by simp
theorem allCons {f : FuncId} {k : Con RU} {r : List (FuncId × Con RU)} (h : Gives prog RG f k) (hr : ∀ x ∈ r, Gives prog RG x.1 x.2) : ∀ x ∈ (f, k) :: r, Gives prog RG x.1 x.2 := by
  intro x hx
  rcases List.mem_cons.1 hx with h1 | h1
  · subst h1; exact h
  · exact hr x h1

abbrev nodeTys : List Ty := [i64, i64, i64, i64, i64, i64, ints]
noncomputable def cIsPart : Con RU := con [one, one, one] [i64, i64, i64] [one] [.bool] [false] none fun p => (isPartOf p.1 p.2.1 p.2.2.1, ())
noncomputable def cFields : Con RU := con [(true, 7), one] [i64, i64, i64, i64, i64, i64, ints, i64] [one] [.bool] [false] (some fun p => 0 ≤ p.2.2.2.2.2.2.2.1 ∧ p.2.2.2.2.2.2.2.1 ≤ 4000000) fun p => (fieldsOf ⟨p.1, p.2.1, p.2.2.1, p.2.2.2.1, p.2.2.2.2.1, p.2.2.2.2.2.1, p.2.2.2.2.2.2.1⟩ p.2.2.2.2.2.2.2.1, ())
noncomputable def cValid : Con RU := con [(true, 1)] [nodes] [one] [.bool] [false] (some fun p => p.1.length ≤ 4000) fun p => (validOf p.1, ())
noncomputable def cCheck : Con RU := con [(true, 1)] [nodes] [one] [i64] [false] none fun p => (checkOf p.1, ())
noncomputable def cAsked : Con RU := con [(true, 1), one] [nodes, ints] [one] [i64] [false] none fun p => (askedOf p.1 p.2.1, ())

abbrev nodeRes : List Bool := [false, false, false, false, false, false, false]
/-- Words of nodes are few. -/
def few (l : List Node) : Prop := ∀ x ∈ l, x.words.length ≤ 4000000
def few' (l : List Node) : Prop := l.length ≤ 4000000 ∧ few l
noncomputable def cOwn : Con RU := con [(true, 7)] nodeTys [(true, 7)] nodeTys nodeRes (some fun p => p.2.2.2.2.2.2.1.length ≤ 17592186044416) fun p => p
noncomputable def cCopied : Con RU := con [(true, 1)] [nodes] [(true, 1)] [nodes] [true] (some fun p => few' p.1) fun p => p
noncomputable def cMore : Con RU := con [(true, 1), (true, 7)] (nodes :: nodeTys) [(true, 1), one, one] [nodes, i64, i64] [false, false, false]
  (some fun p => (p.1.length ≤ 4000 ∧ few p.1) ∧ (∀ (i : Nat) (x : Node), p.1[i]? = some x → ahead x i) ∧ ahead ⟨p.2.1, p.2.2.1, p.2.2.2.1, p.2.2.2.2.1, p.2.2.2.2.2.1, p.2.2.2.2.2.2.1, p.2.2.2.2.2.2.2.1⟩ p.1.length ∧ p.2.2.2.2.2.2.2.1.length ≤ 4000000)
  fun p => ((moreOf p.1 ⟨p.2.1, p.2.2.1, p.2.2.2.1, p.2.2.2.2.1, p.2.2.2.2.2.1, p.2.2.2.2.2.2.1, p.2.2.2.2.2.2.2.1⟩).1, (moreOf p.1 ⟨p.2.1, p.2.2.1, p.2.2.2.1, p.2.2.2.2.1, p.2.2.2.2.2.1, p.2.2.2.2.2.2.1, p.2.2.2.2.2.2.2.1⟩).2.1, (moreOf p.1 ⟨p.2.1, p.2.2.1, p.2.2.2.1, p.2.2.2.2.1, p.2.2.2.2.2.1, p.2.2.2.2.2.2.1, p.2.2.2.2.2.2.2.1⟩).2.2, ())
noncomputable abbrev conS (args : List (Bool × Nat)) (params : List Ty) (pre : Dens RU.T params → Prop) (fn : Dens RU.T params → List Node × Int × Int) : Con RU :=
  con args params [(true, 1), one, one] [nodes, i64, i64] [false, false, false] (some pre) fun p => ((fn p).1, (fn p).2.1, (fn p).2.2, ())
noncomputable def cWordsR : Con RU := conS [(true, 1), one] [nodes, ints] (fun p => p.2.1.length ≤ 4000000) fun p => wordsOf p.1 p.2.1
noncomputable def cCatR : Con RU := conS [(true, 1), one, one] [nodes, i64, i64] (fun _ => True) fun p => catOf p.1 p.2.1 p.2.2.1
noncomputable def cPartR : Con RU := conS [(true, 1), one, one, one] [nodes, i64, i64, i64] (fun _ => True) fun p => partOf p.1 p.2.1 p.2.2.1 p.2.2.2.1
noncomputable def cOffR : Con RU := conS [(true, 1), one, one] [nodes, i64, i64] (fun _ => True) fun p => offOf p.1 p.2.1 p.2.2.1
noncomputable def cLenR : Con RU := con [(true, 1), one] [nodes, i64] [one, one] [i64, i64] [false, false] none fun p => ((lenAt p.1 p.2.1).1, (lenAt p.1 p.2.1).2, ())

noncomputable def cWay : Con RU := con [(true, 1), one, one, one] [nodes, ints, i64, i64] [(true, 2)] [i64, i64] [false, false]
  (some fun p => (p.1.length ≤ 4000 ∧ validOf p.1 = true ∧ p.2.1 = lensOf p.1) ∧ (0 ≤ p.2.2.1 ∧ p.2.2.1 < p.1.length) ∧ 0 ≤ p.2.2.2.1 ∧ p.2.2.2.1 < at_ (lensOf p.1) p.2.2.1)
  fun p => ((wayAt p.1 p.2.2.1 p.2.2.2.1).1, (wayAt p.1 p.2.2.1 p.2.2.2.1).2, ())
noncomputable def mWay : Dens RU.T cWay.params → Nat := fun p => Int.toNat p.2.2.1

theorem givesRec {l : List (FuncId × Con RU)} (hl : ∀ x ∈ l, Gives prog RG x.1 x.2) {f : FuncId} {fn : Func} {k : Con RU} (m : Dens RU.T k.params → Nat) (L : Dens RU.T k.params → Nat → St RU → Ann RU) (hf : prog.funcs[f]? = some fn) (hn : (fn.name == "runtime.NumGoroutine") = false) (hb : fn.body.isNone = false)
    (h : ∀ xs, holds (k.pre.map fun p => p xs) → vc ((EV l).set f (k.below m (m xs))) (L xs) fn k xs) (hyl : k.yl = [] := by rfl) : Gives prog RG f k :=
  fun Y => vc_gives_rec (E := EV l) (fits l) ⟨gives_of (fun x hx => hl x hx Y), fun _ _ _ _ _ h => (by cases h), fun _ _ _ h => (by cases h), fun _ h => (by cases h), fun _ _ _ _ h => (by cases h)⟩ mixed hf hn m L h hb hyl

noncomputable def cDepthR : Con RU := con [(true, 1), one] [nodes, i64] [one, one] [i64, i64] [false, false] none fun p => ((depthAt p.1 p.2.1).1, (depthAt p.1 p.2.1).2, ())
noncomputable def cCostR : Con RU := con [(true, 1), one, one] [nodes, i64, i64] [one, one] [i64, i64] [false, false] none fun p => ((costAt p.1 p.2.1 p.2.2.1).1, (costAt p.1 p.2.1 p.2.2.1).2, ())
noncomputable def cGatherR : Con RU := con [(true, 1), one, one] [nodes, i64, ints] [one, one] [ints, i64] [false, false] none fun p => ((gatherAt p.1 p.2.1 p.2.2.1).1, (gatherAt p.1 p.2.1 p.2.2.1).2, ())
noncomputable def cFlatR : Con RU := con [(true, 1), one] [nodes, i64] [one, one] [ints, i64] [false, false] none fun p => ((flatAt p.1 p.2.1).1, (flatAt p.1 p.2.1).2, ())

noncomputable def cGreat : Con RU := con [(true, 1)] [nodes] [one] [.bool] [false] none fun p => (greatOf p.1, ())
noncomputable def cSame : Con RU := con [(true, 1), (true, 1)] [nodes, nodes] [one] [.bool] [false] none fun p => (sameOf p.1 p.2.1, ())

noncomputable def lWords (l : List Int) : Nat → St RU → Ann RU := fun _ _ => ⟨[], [.slot 3], [i64], fun p => 0 ≤ p.1 ∧ p.1 ≤ l.length ∧ (l.take p.1.toNat).all isWord = true, fun p => l.length - p.1.toNat, []⟩
noncomputable def lEqual (l m : List Int) : Nat → St RU → Ann RU := fun _ _ => ⟨[], [.slot 6, .slot 5], [i64, .bool], fun p => 0 ≤ p.1 ∧ p.1 ≤ l.length ∧ p.2.1 = (decide (l.length = m.length) && decide (l.take p.1.toNat = m.take p.1.toNat)), fun p => l.length - p.1.toNat, []⟩
noncomputable def lUpto (n : Int) : Nat → St RU → Ann RU := fun _ _ => ⟨[3], [.slot 4, .row 320], [i64, ints], fun p => 0 ≤ p.1 ∧ (p.1 ≤ n ∨ p.1 = 0) ∧ p.2.1 = (List.range p.1.toNat).map (fun n : Nat => (n : Int)), fun p => n.toNat - p.1.toNat, []⟩
noncomputable def lLens (l : List Node) : Nat → St RU → Ann RU := fun _ _ => ⟨[3], [.slot 4, .row 448], [i64, ints], fun p => 0 ≤ p.1 ∧ p.1 ≤ l.length ∧ p.2.1 = lensOf (l.take p.1.toNat), fun p => l.length - p.1.toNat, []⟩
noncomputable def lValid (l : List Node) : Nat → St RU → Ann RU := fun n _ => match n with
  | 0 => ⟨[], [.slot 3], [i64], fun p => 0 ≤ p.1 ∧ p.1 ≤ l.length ∧ ∀ i : Nat, i < p.1.toNat → fieldsOf (l.getD i node0) i = true, fun p => l.length - p.1.toNat, []⟩
  | _ => ⟨[], [.slot 5], [i64], fun p => 0 ≤ p.1 ∧ p.1 ≤ l.length ∧ ∀ i : Nat, i < p.1.toNat → nodeOk (lensOf l) (l.getD i node0) ((lensOf l).getD i 0) = true, fun p => l.length - p.1.toNat, []⟩
noncomputable def lAsked (l : List Node) (r : List Int) : Nat → St RU → Ann RU := fun _ _ => ⟨[], [.slot 6], [i64], fun p => 0 ≤ p.1 ∧ p.1 ≤ r.length ∧ checkOf l = 0 ∧ ∀ i : Nat, i < p.1.toNat → lies (r.getD i 0) 0 (l.length - 1) = true, fun p => r.length - p.1.toNat, []⟩
noncomputable def lCopied (l : List Node) : Nat → St RU → Ann RU := fun _ _ => ⟨[], [.slot 4, .row 7], [i64, nodes], fun p => 0 ≤ p.1 ∧ p.1 ≤ l.length ∧ p.2.1 = l.take p.1.toNat, fun p => l.length - p.1.toNat, [(.box 192 0, 7, 56, .user 0)]⟩
noncomputable def lGather (l : List Node) (a : Int) (r : List Int) : Nat → St RU → Ann RU := fun _ _ => ⟨[10], [.slot 11, .row 1536], [i64, ints], fun p => 0 ≤ p.1 ∧ p.1 ≤ r.length ∧ (askedOf l [a] = 0 ∧ r.length ≤ 1048576) ∧ (∀ i : Nat, i < p.1.toNat → lies (r.getD i 0) 0 (at_ (lensOf l) a - 1) = true) ∧ p.2.1 = (r.take p.1.toNat).map fun q => (wayAt l a q).2, fun p => r.length - p.1.toNat, []⟩
noncomputable def lDepth (l : List Node) (a : Int) : Nat → St RU → Ann RU := fun _ _ => ⟨[7], [.slot 8, .row 1152], [i64, ints], fun p => 0 ≤ p.1 ∧ p.1 ≤ a + 1 ∧ askedOf l [a] = 0 ∧ p.2.1 = depthsOf (l.take p.1.toNat), fun p => (a + 1).toNat - p.1.toNat, []⟩
noncomputable def lGreat (l : List Node) : Nat → St RU → Ann RU := fun _ _ => ⟨[], [.slot 4], [i64], fun p => 0 ≤ p.1 ∧ p.1 ≤ l.length ∧ (¬ 60 < l.length ∧ checkOf l = 0) ∧ ∀ i : Nat, i < p.1.toNat → ¬ 3000 < (lensOf l).getD i 0, fun p => l.length - p.1.toNat, []⟩
noncomputable def lSame (l m : List Node) : Nat → St RU → Ann RU := fun _ _ => ⟨[], [.slot 6, .slot 5], [i64, .bool], fun p => 0 ≤ p.1 ∧ p.1 ≤ l.length ∧ p.2.1 = (decide (l.length = m.length) && decide (l.take p.1.toNat = m.take p.1.toNat)), fun p => l.length - p.1.toNat, []⟩
end Go.Rp
end

section
set_option linter.unusedVariables false
namespace Go.Proofs.YtcgjnkdcfpegiaaDoor
open Go.ChangeShapes Go.WideShapes Go.ChangeAt Go.RowKit Go.VT

theorem own : ownKnob Tryd.prog.godebug = none := by kernel_rfl
theorem laidOut : laidOutB Tryd.prog = true := by kernel_rfl
theorem gKinds : Tryd.prog.globalNamed "sheafworks/rope.kinds" = some 0 := by kernel_rfl
theorem names0 : Tryd.prog.globals.size = 1 := by kernel_rfl

abbrev laid1 : List (String × DataW Unit) := [("sheafworks/rope.kinds", Rows.laid_sheafworks_rope_kinds)]

/-- The door's own heap meets the condition. -/
theorem door_met (os : Os) (args : Array Value) : laidMetH Tryd.prog laid1 ((World.doorLaid Tryd.prog 600 os).forCall (fun _ _ => 0) ⟨#[], args, []⟩).memory :=
  laidMetH_of_parts3 (fuel := 8) (laidMet_of_run' 8 (by kernel_rfl) (by kernel_rfl)) (by kernel_rfl) (by kernel_rfl)


theorem cells110 : Tryd.prog.cellsOf 110 = 4 := by kernel_rfl
theorem cells109 : Tryd.prog.cellsOf 109 = 1 := by kernel_rfl
theorem tKinds : (Tryd.prog.globals[0]?).map (·.type) = some 110 := by kernel_rfl

/-- What the condition says: the table's cells. -/
theorem of_laid {W : World} (h : laidMetH Tryd.prog laid1 W) : ∀ g fs, (g, fs) ∈ Go.Rp.RG → g < W.heap.size ∧ ∀ i f, fs[i]? = some f → W.cell? ⟨g, i, none⟩ = some (.func (.func f) #[] #[]) := by
  obtain ⟨g, t, cs, fuel, p, hg, ht, hv, hd⟩ := h.funcs (List.mem_singleton.2 rfl)
  obtain rfl := Option.some.inj (gKinds.symm.trans hg)
  obtain rfl := Option.some.inj (tKinds.symm.trans ht)
  have hd' : DataW.trod (funcToken Tryd.prog) Tryd.prog W 0 (fun _ => true) true fuel 110 cs.toList = some (.agg [.held [40, 42, 115, 104, 101, 97, 102, 119, 111, 114, 107, 115, 47, 114, 111, 112, 101, 46, 115, 116, 111, 114, 101, 41, 46, 119, 111, 114, 100, 115],
    .held [40, 42, 115, 104, 101, 97, 102, 119, 111, 114, 107, 115, 47, 114, 111, 112, 101, 46, 115, 116, 111, 114, 101, 41, 46, 99, 97, 116], .held [40, 42, 115, 104, 101, 97, 102, 119, 111, 114, 107, 115, 47, 114, 111, 112, 101, 46, 115, 116, 111, 114, 101, 41, 46, 112, 97, 114, 116],
    .held [40, 42, 115, 104, 101, 97, 102, 119, 111, 114, 107, 115, 47, 114, 111, 112, 101, 46, 115, 116, 111, 114, 101, 41, 46, 111, 102, 102]], p) := hd
  obtain ⟨xs, m, _, hx, hlen, hxl, hel⟩ := DataW.trod_array Tryd.underlying110 hd'
  rw [cells109] at hel
  rw [cells110] at hlen
  simp only [Prod.mk.injEq, DataW.agg.injEq] at hx
  have hgo : ∀ (i : Nat) (f : FuncId) (b : UInt8) (r : List UInt8), i < 4 → (xs.map (·.1))[i]? = some (.held (b :: r)) → ((List.range Tryd.prog.funcs.size).filter fun f => (Tryd.prog.funcs[f]?).any (·.name.toUTF8.data.toList == b :: r)) = [f] → W.cell? ⟨0, i, none⟩ = some (.func (.func f) #[] #[]) := by
    intro i f b r hi hb hone
    have h1 := hel i hi
    obtain ⟨v, hv1, hv2⟩ := one_at (cs := cs.toList) (j := i) (by omega)
    rw [Nat.mul_one, hv2] at h1
    rw [List.getElem?_map, Option.map_eq_some_iff] at hb
    obtain ⟨y, hy, hy2⟩ := hb
    rw [hy] at h1
    obtain ⟨y1, y2⟩ := y
    simp only at hy2
    subst hy2
    have := func_of_trod Tryd.underlying109 hone h1
    subst this
    have hc := World.var?_cell hg hv i
    rw [hc]
    simpa using hv1
  have h0 := hgo 0 102 _ _ (by omega) (by rw [← hx.1]; rfl) (by kernel_rfl)
  have h1 := hgo 1 103 _ _ (by omega) (by rw [← hx.1]; rfl) (by kernel_rfl)
  have h2 := hgo 2 104 _ _ (by omega) (by rw [← hx.1]; rfl) (by kernel_rfl)
  have h3 := hgo 3 105 _ _ (by omega) (by rw [← hx.1]; rfl) (by kernel_rfl)
  intro g fs hm
  simp only [Go.Rp.RG, List.mem_singleton, Prod.mk.injEq] at hm
  obtain ⟨rfl, rfl⟩ := hm
  refine ⟨?_, fun i f hf => ?_⟩
  · unfold World.cell? at h0
    cases hh : W.heap[0]? with
    | none => simp [hh] at h0
    | some ob => exact (Array.getElem?_eq_some_iff.1 hh).1
  · match i, hf with
    | 0, hf => cases hf; exact h0
    | 1, hf => cases hf; exact h1
    | 2, hf => cases hf; exact h2
    | 3, hf => cases hf; exact h3
    | _ + 4, hf => simp at hf

/-- The types of arguments, by their codes. -/
def readL : List (TypeId × Ty) := [(3, Go.Rp.i64), (4, .bool), (56, .user 0), (25, Go.Rp.ints), (22, Go.Rp.nodes)]
theorem bytes3 : Tryd.prog.bytesOf 3 = 8 := by kernel_rfl
theorem bytes56 : Tryd.prog.bytesOf 56 = 72 := by kernel_rfl
theorem cells3 : Tryd.prog.cellsOf 3 = 1 := by kernel_rfl
theorem cells25 : Tryd.prog.cellsOf 25 = 1 := by kernel_rfl
theorem cells22 : Tryd.prog.cellsOf 22 = 1 := by kernel_rfl
theorem cells24 : Tryd.prog.cellsOf 24 = 1 := by kernel_rfl
theorem cells56 : Tryd.prog.cellsOf 56 = 7 := by kernel_rfl

theorem read_ok : ReadOk Tryd.prog Go.Rp.RU readL := by
  intro t ty hm
  simp only [readL, List.mem_cons, Prod.mk.injEq, List.not_mem_nil, or_false] at hm
  rcases hm with ⟨rfl, rfl⟩ | ⟨rfl, rfl⟩ | ⟨rfl, rfl⟩ | ⟨rfl, rfl⟩ | ⟨rfl, rfl⟩
  · exact Tryd.underlying3
  · exact Tryd.underlying4
  · refine ⟨_, Tryd.underlying56, cells56, rfl, fun j f ty' hf hty => ?_⟩
    match j, hf, hty with
    | 0, hf, hty => cases hf; cases hty; exact ⟨rfl, cells3, rfl, by simp [readL]⟩
    | 1, hf, hty => cases hf; cases hty; exact ⟨rfl, cells3, rfl, by simp [readL]⟩
    | 2, hf, hty => cases hf; cases hty; exact ⟨rfl, cells3, rfl, by simp [readL]⟩
    | 3, hf, hty => cases hf; cases hty; exact ⟨rfl, cells3, rfl, by simp [readL]⟩
    | 4, hf, hty => cases hf; cases hty; exact ⟨rfl, cells3, rfl, by simp [readL]⟩
    | 5, hf, hty => cases hf; cases hty; exact ⟨rfl, cells3, rfl, by simp [readL]⟩
    | 6, hf, hty => cases hf; cases hty; exact ⟨rfl, cells25, rfl, by simp [readL]⟩
    | j + 7, hf, hty => simp [Go.Rp.RU] at hty
  · exact ⟨Tryd.underlying25, cells3, by rw [cells3]; decide, by rw [bytes3]; decide, by simp [readL]⟩
  · exact ⟨Tryd.underlying22, cells56, by rw [cells56]; decide, by rw [bytes56]; decide, by simp [readL]⟩

theorem arg_int : ArgOk Tryd.prog Go.Rp.RU readL 3 false [Go.Rp.i64] := .inl ⟨rfl, _, rfl, rfl, by simp [readL]⟩
theorem arg_ints : ArgOk Tryd.prog Go.Rp.RU readL 25 false [Go.Rp.ints] := .inl ⟨rfl, _, rfl, rfl, by simp [readL]⟩
theorem arg_store : ArgOk Tryd.prog Go.Rp.RU readL 24 true [Go.Rp.nodes] := by
  refine .inr (.inl ⟨rfl, _, Tryd.underlying24, cells24, rfl, fun j f ty' hf hty => ?_⟩)
  match j, hf, hty with
  | 0, hf, hty => cases hf; cases hty; exact ⟨rfl, cells22, rfl, by simp [readL]⟩
  | j + 1, hf, hty => simp at hty

theorem trodAll_below {H : Type} {enc : TypeId × Value → H} {W W' : World} (hb : Below W.heap.size W W') : ∀ {ts : List TypeId} {vs : List Value} {ds : List (DataW H)} {ps : List MemPlace}, (∀ t ∈ ts, Tryd.prog.readableRec t = true ∧ t < Tryd.prog.types.size) →
    DataW.TrodAll enc Tryd.prog W 0 (fun _ => true) true ts vs ds ps → (∀ x ∈ ps, x.block < W.heap.size) → DataW.TrodAll enc Tryd.prog W' 0 (fun b => decide (b < W.heap.size)) true ts vs ds ps
  | [], [], [], ps, _, h, _ => h
  | [], _ :: _, _, _, _, h, _ => h.elim
  | [], [], _ :: _, _, _, h, _ => h.elim
  | _ :: _, [], _, _, _, h, _ => h.elim
  | _ :: _, _ :: _, [], _, _, h, _ => h.elim
  | t :: ts, v :: vs, d :: ds, ps, ht, h, hlt => by
    obtain ⟨p, q, h1, h2, rfl⟩ := h
    exact ⟨p, q, Below.trod laidOut (ht t (by simp)).1 (ht t (by simp)).2 h1 hb (fun x hx => hlt x (by simp [hx])), trodAll_below hb (fun t' h' => ht t' (by simp [h'])) h2 (fun x hx => hlt x (by simp [hx])), rfl⟩

/-- A law: its call returns true, and leaves what was there. -/
theorem law_post {H : Type} {enc : TypeId × Value → H} {fn : Func} {s : ChangeSpec} (hs : s.vars = []) {W W' : World} {args : Array Value} {ds gs : List (DataW H)} {before : List MemPlace}
    (hW : DataW.Whole enc Tryd.prog fn.params.toList s.vars false W args.toList ds gs before) (hb : Below W.heap.size W W') (hres : fn.resultTypes = #[4])
    (hfn : s.fn H ds = { results := [.lit (.bool true)], args := ds }) (ht : ∀ t ∈ fn.params.toList, Tryd.prog.readableRec t = true ∧ t < Tryd.prog.types.size) :
    s.post enc Tryd.prog fn false true false false W args (.bool true) W' := by
  have hW' := hW
  obtain ⟨p, q, hA, hV, rfl, hfz, hnd⟩ := hW
  rw [hs] at hV
  obtain ⟨rfl, rfl⟩ : gs = [] ∧ q = [] := by
    cases gs with
    | nil => exact ⟨rfl, hV⟩
    | cons g r => exact absurd hV (by intro h; cases h)
  refine ⟨ds, [], p ++ [], [], p, [], hW', ?_, ?_, ?_, hb.frame _, fun h => by cases h⟩
  · rw [List.append_nil, hfn, hres]
    exact trodAll_mk1 (shut_bool Tryd.underlying4 true)
  · rw [List.append_nil, hfn]
    exact trodAll_below hb ht hA (fun x hx => hW'.lt x (by simp [hx]))
  · rw [List.append_nil, hfn, hs]
    rfl

theorem trodAll_len {H : Type} {enc : TypeId × Value → H} {P : Program} {w : World} {base : Nat} {sp : Nat → Bool} {held : Bool} : ∀ {ts : List TypeId} {vs : List Value} {ds : List (DataW H)} {ps : List MemPlace}, DataW.TrodAll enc P w base sp held ts vs ds ps → ds.length = ts.length
  | [], [], [], _, _ => rfl
  | [], _ :: _, _, _, h => h.elim
  | [], [], _ :: _, _, h => h.elim
  | _ :: _, [], _, _, h => h.elim
  | _ :: _, _ :: _, [], _, h => h.elim
  | t :: ts, v :: vs, d :: ds, ps, h => by
    obtain ⟨p, q, _, h2, _⟩ := h
    simp [trodAll_len h2]

theorem cells43 : Tryd.prog.cellsOf 43 = 4 := by kernel_rfl
theorem arg_arr4 : ArgOk Tryd.prog Go.Rp.RU readL 43 true [Go.Rp.i64, Go.Rp.i64, Go.Rp.i64, Go.Rp.i64] := by
  refine .inr (.inr ⟨rfl, 3, Tryd.underlying43, cells43, cells3, fun j ty' hty => ?_⟩)
  have : ty' = Go.Rp.i64 := by
    match j, hty with
    | 0, hty => cases hty; rfl
    | 1, hty => cases hty; rfl
    | 2, hty => cases hty; rfl
    | 3, hty => cases hty; rfl
    | _ + 4, hty => simp at hty
  subst this
  exact ⟨rfl, by simp [readL]⟩

end Go.Proofs.YtcgjnkdcfpegiaaDoor
end

section
set_option linter.unusedVariables false
set_option linter.unusedSimpArgs false
namespace Go.VT
noncomputable section
open Go.RowKit
variable {U : Univ} {E : Env U} {F : Fr} {n : Nat} {β : Nm} {s : St U} {tmps : Array Value} {w : World} {h : Obs U}

def swN (a b i : Nat) : Nat := bif Nat.beq i a then b else bif Nat.beq i b then a else i

theorem swN_a (a b : Nat) : swN a b a = b := by simp [swN]
theorem swN_b (a b : Nat) : swN a b b = a := by
  unfold swN
  by_cases h : b = a
  · subst h; simp
  · rw [beq_no h]; simp
theorem swN_o {a b i : Nat} (h1 : i ≠ a) (h2 : i ≠ b) : swN a b i = i := by simp [swN, beq_no h1, beq_no h2]
theorem swN_sw (a b i : Nat) : swN a b (swN a b i) = i := by
  by_cases h1 : i = a
  · subst h1; rw [swN_a, swN_b]
  · by_cases h2 : i = b
    · subst h2; rw [swN_b, swN_a]
    · rw [swN_o h1 h2, swN_o h1 h2]
theorem swN_inj {a b i j : Nat} (h : swN a b i = swN a b j) : i = j := by rw [← swN_sw a b i, h, swN_sw]

def swC (a b : Nat) : Cell U → Cell U
  | .row id ver => .row (swN a b id) ver
  | .ptr id off => .ptr (swN a b id) off
  | .elt id ver i off => .elt (swN a b id) ver i off
  | .map id => .map (swN a b id)
  | .clo f ids => .clo f (ids.map (swN a b))
  | .yld id => .yld (swN a b id)
  | c => c

def swP (a b : Nat) : PV U → PV U
  | .one c => .one (swC a b c)
  | .agg cs => .agg (cs.map (swC a b))
  | .tup vs => .tup (vs.map fun v => (v.1, v.2.map (swC a b)))
  | _ => .un

def swO (a b : Nat) : Ob U → Ob U
  | .box e cs => .box e (cs.map (swC a b))
  | o => o

def St.swap (s : St U) (a b : Nat) : St U := ⟨s.σ.map fun x => (x.1, swP a b x.2), s.h.map fun x => (swN a b x.1, swO a b x.2)⟩

theorem look_sw {a b : Nat} (k : Nat) : ∀ l : Obs U, look k (l.map fun x => (swN a b x.1, swO a b x.2)) = (look (swN a b k) l).map (swO a b)
  | [] => rfl
  | (j, o) :: r => by
    simp only [List.map_cons, look]
    by_cases h : j = swN a b k
    · rw [if_pos (by rw [h, swN_sw]; exact Nat.beq_refl _), if_pos (by rw [h]; exact Nat.beq_refl _)]
      rfl
    · rw [if_neg (by rw [beq_no (fun e => h (by rw [← e, swN_sw]))]; simp), if_neg (by rw [beq_no h]; simp)]
      exact look_sw k r

def Nm.swap (β : Nm) (a b : Nat) : Nm := ⟨fun i => β (swN a b i), β.M, fun i => β.lp (swN a b i)⟩

theorem swO_live (a b : Nat) (o : Ob U) : (swO a b o).live = o.live := by cases o <;> rfl
theorem swO_isRow (a b : Nat) (o : Ob U) : (swO a b o).isRow = o.isRow := by cases o <;> rfl

def Fr.name (F : Fr) (j : Nat) (v : Value × Loop × (Int → Option Code)) : Fr := ⟨F.B, F.w0, F.K, F.M, fun i => if i = j then some v else F.nm i, F.G⟩

/-- An object gets a name that stays. -/
theorem swap_rel (R : Rel F n β s tmps w) {a b : Nat} (ha : a < 1000000) (hb : 1000000 ≤ b) (hnb : F.nm b = none) (hfree : look b s.h = none) :
    Rel (F.name b (β a, β.lp a)) n (β.swap a b) (s.swap a b) tmps w ∧ OptIn (fun _ => False) (s.swap a b).σ := by
  have hlk : ∀ id, look id (s.swap a b).h = (look (swN a b id) s.h).map (swO a b) := fun id => look_sw id s.h
  have hto : ∀ id o, look id s.h = some o → look (swN a b id) (s.swap a b).h = some (swO a b o) := by
    intro id o hl
    rw [hlk, swN_sw, hl]; rfl
  have hof : ∀ id o, look id (s.swap a b).h = some o → ∃ o', look (swN a b id) s.h = some o' ∧ o = swO a b o' := by
    intro id o hl
    rw [hlk] at hl
    simp only [Option.map_eq_some_iff] at hl
    obtain ⟨o', h1, h2⟩ := hl
    exact ⟨o', h1, h2.symm⟩
  have hv : ∀ id, (β.swap a b) (swN a b id) = β id := fun id => by show β (swN a b (swN a b id)) = _; rw [swN_sw]
  have hlp : ∀ id, (β.swap a b).lp (swN a b id) = β.lp id := fun id => by show β.lp (swN a b (swN a b id)) = _; rw [swN_sw]
  have hlive : ∀ b', Live (β.swap a b) (s.swap a b).h b' → Live β s.h b' := by
    rintro b' (hm | ⟨id, o, h1, h2, h3⟩)
    · exact .inl hm
    · obtain ⟨o', h4, rfl⟩ := hof id o h1
      rw [swO_live] at h2
      exact .inr ⟨swN a b id, o', h4, h2, h3⟩
  have hrep : ∀ d v, Rep U w (Live β s.h) d v → Rep U w (Live (β.swap a b) (s.swap a b).h) d v := fun d v r => r.mono (Nat.le_refl _) (fun _ _ _ => rfl) (fun b' _ hb' => hlive b' hb')
  have hvis : ∀ (t : Ty) (x : den U.T t) (v : Value), VIs w (Live β s.h) t x v → VIs w (Live (β.swap a b) (s.swap a b).h) t x v := fun t x v r => r.mono (Nat.le_refl _) (fun _ _ _ => rfl) (fun b' _ hb' => hlive b' hb')
  have hcell : ∀ c v, CRel w β s.h c v → CRel w (β.swap a b) (s.swap a b).h (swC a b c) v := by
    intro c v r
    cases c with
    | un => trivial
    | d x => exact hrep _ _ r
    | row id ver =>
      obtain ⟨e, t, l, ver', lv, q1, q2, q3⟩ := r
      exact ⟨e, t, l, ver', lv, hto id _ q1, q2, fun hh => (q3 hh).trans (hv id).symm⟩
    | ptr id off =>
      obtain ⟨e, cs, b', q1, q2, q3⟩ := r
      exact ⟨e, _, b', hto id _ q1, (hv id).trans q2, q3⟩
    | elt id ver i off =>
      obtain ⟨e, t, l, ver', lv, q1, q2, q3⟩ := r
      refine ⟨e, t, l, ver', lv, hto id _ q1, q2, fun hh => ?_⟩
      obtain ⟨z1, z2, g, c, z3, z4⟩ := q3 hh
      exact ⟨z1, z2, g, c, (hv id).trans z3, z4⟩
    | rd cs off =>
      obtain ⟨g, o, hv', hM, hg, hc⟩ := r
      refine ⟨g, o, hv', fun hh => hM (hlive g hh), hg, fun j d hd => ?_⟩
      obtain ⟨u, hu, hr⟩ := hc j d hd
      exact ⟨u, hu, hrep _ _ hr⟩
    | gl g => exact r
    | lit u => exact r
    | map id =>
      obtain ⟨kt, vt, l, q1, q2⟩ := r
      exact ⟨kt, vt, l, hto id _ q1, q2.trans (hv id).symm⟩
    | clo f ids =>
      obtain ⟨bs, q1, q2, q3⟩ := r
      refine ⟨bs, q1, by simpa using q2, fun j id b' hj hb' => ?_⟩
      simp only [List.getElem?_map, Option.map_eq_some_iff] at hj
      obtain ⟨id0, hj0, rfl⟩ := hj
      obtain ⟨e, cs, q4, q5⟩ := q3 j id0 b' hj0 hb'
      exact ⟨e, _, hto id0 _ q4, (hv id0).trans q5⟩
    | yld id =>
      obtain ⟨st, q1, q2⟩ := r
      exact ⟨st, hto id _ q1, q2.trans (hv id).symm⟩
    | ifc t b' ds =>
      obtain ⟨vs, q1, q2, q3, q4, q5⟩ := r
      exact ⟨vs, q1, q2, q3, q4, fun j d u hd hu => hrep _ _ (q5 j d u hd hu)⟩
    | tab g i => exact r
    | tabf fs i => exact r
  have hcs : ∀ cs vs, CsRel w β s.h cs vs → CsRel w (β.swap a b) (s.swap a b).h (cs.map (swC a b)) vs := by
    intro cs vs r
    refine ⟨by simpa using r.1, r.2.1, fun j c v hc hv => ?_⟩
    simp only [List.getElem?_map, Option.map_eq_some_iff] at hc
    obtain ⟨c', h3, rfl⟩ := hc
    exact hcell c' v (r.2.2 j c' v h3 hv)
  have hpv : ∀ p v σ σ', PRel w β s.h σ p v → PRel w (β.swap a b) (s.swap a b).h σ' (swP a b p) v := by
    intro p v σ σ' r
    cases p with
    | un => trivial
    | one c => exact hcs [c] [v] r
    | agg cs =>
      obtain ⟨vs, hv, hc⟩ := r
      exact ⟨vs, hv, hcs cs vs hc⟩
    | tup xs =>
      obtain ⟨vs, hv, hl, hx⟩ := r
      refine ⟨vs, hv, by simpa using hl, fun j x u hj hu => ?_⟩
      simp only [List.getElem?_map, Option.map_eq_some_iff] at hj
      obtain ⟨x', h3, rfl⟩ := hj
      have := hx j x' u h3 hu
      obtain ⟨b', cs⟩ := x'
      cases b' with
      | true =>
        obtain ⟨vs', h4, h5⟩ := this
        exact ⟨vs', h4, hcs cs vs' h5⟩
      | false => exact hcs cs [u] this
    | opt gs p => trivial
  refine ⟨⟨⟨R.bel, R.hB, fun id o hl => ?_, fun id o id' o' b' q1 q2 q3 q4 => ?_, R.frm, fun id o b' q1 q2 => ?_, fun id o b' q1 q2 => ?_, R.Mlt, R.Meq, fun id o v q1 q2 => ?_, fun id v q => ?_, R.glo⟩, R.sz, fun t p hl => ?_⟩, fun t gs p hl => ?_⟩
  · obtain ⟨o', h3, rfl⟩ := hof id o hl
    have ro := R.obj _ o' h3
    have hvi : (β.swap a b) id = β (swN a b id) := rfl
    cases o' with
    | box e cs =>
      obtain ⟨b', vs, q1, q2, q3, q4⟩ := ro
      exact ⟨b', vs, hvi.trans q1, q2, q3, hcs cs _ q4⟩
    | row e t l ver lv =>
      obtain ⟨xs, q1, q2, q3, q4⟩ := ro
      refine ⟨xs, by rw [hvi]; exact q1, q2, q3, fun i x hx j d hd => ?_⟩
      obtain ⟨u, hu, hr⟩ := q4 i x hx j d hd
      exact ⟨u, hu, hrep _ _ hr⟩
    | map kt vt l =>
      obtain ⟨b', es, clock, q1, q2, q3, q4, q5⟩ := ro
      exact ⟨b', es, clock, hvi.trans q1, q2, q3, q4, fun i x y hx hy => ⟨hvis _ _ _ (q5 i x y hx hy).1, hvis _ _ _ (q5 i x y hx hy).2⟩⟩
    | loop st =>
      obtain ⟨b', r, q1, q2, q3, q4⟩ := ro
      exact ⟨b', r, hvi.trans q1, q2, q3, q4⟩
  · obtain ⟨o1, h3, _⟩ := hof id o q1
    obtain ⟨o2, h4, _⟩ := hof id' o' q2
    exact swN_inj (R.dis _ o1 _ o2 b' h3 h4 q3 q4)
  · obtain ⟨o1, h3, _⟩ := hof id o q1
    exact R.own _ o1 b' h3 q2
  · obtain ⟨o1, h3, _⟩ := hof id o q1
    exact R.Mo _ o1 b' h3 q2
  · obtain ⟨o1, h3, rfl⟩ := hof id o q1
    by_cases hib : id = b
    · subst hib
      simp only [Fr.name, if_true, Option.some.injEq] at q2
      right
      rw [← q2]
      show (β (swN a id id), β.lp (swN a id id)) = _
      rw [swN_b]
    · simp only [Fr.name, if_neg hib] at q2
      have hia : id ≠ a := by
        intro e
        have := R.nmg _ _ q2
        omega
      rw [swN_o hia hib] at h3
      rw [swO_isRow]
      refine (R.fix id o1 v h3 q2).imp (fun h => h) (fun h => ?_)
      show (β (swN a b id), β.lp (swN a b id)) = v
      rw [swN_o hia hib]
      exact h
  · by_cases hib : id = b
    · omega
    · simp only [Fr.name, if_neg hib] at q
      exact R.nmg id v q
  · unfold St.swap at hl
    rw [look_map] at hl
    simp only [Option.map_eq_some_iff] at hl
    obtain ⟨q, hq, rfl⟩ := hl
    exact hpv q _ _ _ (R.tmp t q hq)
  · unfold St.swap at hl
    rw [look_map] at hl
    simp only [Option.map_eq_some_iff] at hl
    obtain ⟨q, hq, hq2⟩ := hl
    cases q <;> simp [swP] at hq2

/-- A name that stays is forgotten. -/
theorem Ok.unname {b : Nat} {v : Value × Loop × (Int → Option Code)} (hnb : F.nm b = none) (k : Ok (F.name b v) w β h) : Ok F w β h := by
  refine ⟨k.bel, k.hB, k.obj, k.dis, k.frm, k.own, k.Mo, k.Mlt, k.Meq, fun id o u q1 q2 => ?_, fun id u q => ?_, k.glo⟩
  · refine k.fix id o u q1 ?_
    by_cases hib : id = b
    · subst hib; rw [hnb] at q2; cases q2
    · simp only [Fr.name, if_neg hib]; exact q2
  · refine k.nmg id u ?_
    by_cases hib : id = b
    · subst hib; rw [hnb] at q; cases q
    · simp only [Fr.name, if_neg hib]; exact q

/-- One that catches panics of a kind: what it is given is a box; what it writes there. -/
structure Catcher (U : Univ) where
  t : TypeId
  agg : Bool
  e : TypeId
  out : List (Datum U) → Option (List (Datum U))

/-- One block of a world is written. -/
structure Wrote (b : Nat) (w w' : World) : Prop where
  os : w'.os = w.os
  tape : w'.tape = w.tape
  output : w'.output = w.output
  size : w.heap.size ≤ w'.heap.size
  heap : ∀ b', b' < w.heap.size → b' ≠ b → w'.heap[b']? = w.heap[b']?

/-- It does what is said, where nothing is to be caught, and where something is. -/
structure Catcher.Holds (P : Program) (g : FuncId) (c : Catcher U) : Prop where
  enters : Enters P g
  calm : ∀ (b : Nat) (w : World), CallsDIn (fen P none) 0 P g #[.pointer (some ⟨b, 0, none⟩)] .returning w fun e u' w' => (∃ v, e = .returned v) ∧ u' = .returning ∧ w' = w
  hot : ∀ (b : Nat) (w : World) (cur : Array Value) (v : Value) (ds outs : List (Datum U)), b < w.heap.size → w.heap[b]? = some (.cells cur c.e (0, 0)) → PanIs ⟨c.t, c.agg, ds⟩ v → c.out ds = some outs → cur.size = outs.length →
    CallsDIn (fen P none) 0 P g #[.pointer (some ⟨b, 0, none⟩)] (.panicking [{ v, recovered := false }]) w fun e u' w' => (∃ v, e = .returned v) ∧ u' = .panicking [{ v, recovered := true }] ∧ Wrote b w w' ∧
      ∃ us : List Value, us.length = outs.length ∧ (∀ (j : Nat) (d : Datum U) (u : Value), outs[j]? = some d → us[j]? = some u → Says d u) ∧ w'.heap[b]? = some (.cells us.toArray c.e (0, 0))

/-- Which function is deferred, and the box that it is given. -/
def deferOf (σ : List (Nat × PV U)) : List Oper → Option (FuncId × Nat)
  | [o] => match o.op, o.guard, o.dst with
    | .defer c, none, none => match c.callee with
      | .value f => match calleeOf (ev σ f) with
        | some (g, ids) => match c.args.toList.map (ev σ), ids with
          | [.one (.ptr id off)], [] => bif Nat.beq off 0 then some (g, id) else none
          | [], [id] => some (g, id)
          | _, _ => none
        | none => none
      | _ => none
    | _, _, _ => none
  | _ => none

theorem defer_wp {id : Nat} {ops : Array Oper} {g : FuncId} {j : Nat} {a : Act} (hd : deferOf s.σ ops.toList = some (g, j)) (hE : Enters E.P g) (R : Rel F n β s a.tmps w) :
    ∃ b e cs, look j s.h = some (.box e cs) ∧ β j = .pointer (some ⟨b, 0, none⟩) ∧ ∃ cap args, (args ++ cap = #[Value.pointer (some ⟨b, 0, none⟩)]) ∧
      ∀ Q : Exit → Act → World → Prop, Q .normal { a with defers := { target := .fn (.func g) cap, args := args } :: a.defers } w → (Code.region id ops false).wpIn (fen E.P none) 0 E.P Q a w := by
  unfold deferOf at hd
  split at hd
  case h_2 => cases hd
  rename_i o hops
  split at hd
  case h_2 => cases hd
  rename_i c h1 h2 h3
  split at hd
  case h_2 => cases hd
  rename_i f hf
  split at hd
  case h_2 => cases hd
  rename_i g' ids hc
  have hopsA : ops = #[o] := by
    apply Array.toList_inj.1
    rw [hops]
  subst hopsA
  obtain ⟨bs, hv, hbl, hbr⟩ := callee_rel hc (ev_rel R f)
  have hrun : ∀ (args : Array Value) (Q : Exit → Act → World → Prop), c.args.map a.eval = args → Q .normal { a with defers := { target := .fn (.func g') (bs.map fun b => Value.pointer (some ⟨b, 0, none⟩)).toArray, args := args } :: a.defers } w →
      (Code.region id #[o] false).wpIn (fen E.P none) 0 E.P Q a w := by
    intro args Q hargs hQ
    refine wpIn_region ?_
    have hr : List.range (#[o] : Array Oper).size = [0] := rfl
    rw [hr]
    simp only [wpOpsIn, List.getElem?_toArray, List.getElem?_cons_zero]
    rw [if_pos (by simp [Region.wanted, h2])]
    refine ⟨fun f' hf' => by simp [Oper.about, h1] at hf', ?_⟩
    have hx : (o.semAt none a.eval).run E.P w = .ok (.defer { target := .fn (.func g') (bs.map fun b => Value.pointer (some ⟨b, 0, none⟩)).toArray, args := args }) w := by
      rw [Oper.semAt_none]
      simp [execOp, h1, resolve, hf, hv, Deferred.ofValue, hargs]
    show o.uponIn (fen E.P none) 0 E.P a _ Q ((o.semAt none a.eval).run E.P w)
    rw [hx, Oper.uponIn_defer, h3]
    exact hQ
  split at hd
  · rename_i id' off hxs
    simp only [Bool.cond_eq_ite] at hd
    split at hd
    case isFalse => cases hd
    rename_i hoff
    have hoff := Nat.eq_of_beq_eq_true hoff
    subst hoff
    simp only [Option.some.injEq, Prod.mk.injEq] at hd
    obtain ⟨rfl, rfl⟩ := hd
    obtain ⟨x, hx⟩ : ∃ x, c.args.toList = [x] := by
      match hcl : c.args.toList, hxs with
      | [x], _ => exact ⟨x, rfl⟩
      | [], h => simp at h
      | _ :: _ :: _, h => simp at h
    have hxe : ev s.σ x = .one (.ptr id' 0) := by simpa [hx] using hxs
    have hr := ev_rel R x
    rw [hxe] at hr
    obtain ⟨e, cs, b, q1, q2, q3⟩ := hr.inv.2
    have hbs : bs = [] := by simpa using hbl
    subst hbs
    refine ⟨b, e, cs, q1, q2, #[], #[Value.pointer (some ⟨b, 0, none⟩)], rfl, fun Q hQ => hrun _ Q ?_ hQ⟩
    apply Array.toList_inj.1
    simp [hx, q3]
  · rename_i id' hxs
    simp only [Option.some.injEq, Prod.mk.injEq] at hd
    obtain ⟨rfl, rfl⟩ := hd
    have hx : c.args.toList = [] := by simpa using hxs
    match bs, hbl with
    | [b], _ =>
      obtain ⟨e, cs, q1, q2⟩ := hbr 0 id' b rfl rfl
      refine ⟨b, e, cs, q1, q2, #[Value.pointer (some ⟨b, 0, none⟩)], #[], rfl, fun Q hQ => hrun _ Q ?_ hQ⟩
      apply Array.toList_inj.1
      simp [hx]
    | [], h => simp at h
    | _ :: _ :: _, h => simp at h
  · cases hd

/-- A state behind a panic that is caught. -/
def caught (c : Catcher U) (b : Nat) (s : St U) (v : PanV U) : Option (St U) :=
  bif Nat.beq v.t c.t && (v.agg == c.agg) then (match c.out v.ds with
    | some ds => match look b s.h with
      | some (.box e cs) => bif Nat.beq e c.e && Nat.beq cs.length ds.length then some ⟨s.σ, write b (.box e (ds.map .d)) s.h⟩ else none
      | _ => none
    | none => none) else none

/-- The code in a scope. -/
def inScope : Code → Code
  | .scope c => c
  | c => c

theorem inScope_wp {G : Fence} {m : Nat} {P : Program} {fn : Func} {R : Ending → World → Prop} {c : Code} {a : Act} (h : (inScope c).wpIn G m P (bodyPostM G m P fn R) a w) : c.wpIn G m P (bodyPostM G m P fn R) a w := by
  cases c with
  | scope c =>
    refine wpIn_scope (wpIn_mono h (fun e a w hq => ?_))
    cases e <;> exact hq
  | _ => exact h

/-- What is asked of a function that defers a call. -/
def vcD (E : Env U) (C : FuncId → Option (Catcher U)) (L : Nat → St U → Ann U) (f : Func) (k : Con U) (xs : Dens U.T k.params) : Prop :=
  match f.body with
  | some (.seq a y) => match inScope y with
   | .seq (.region rid ops false) c => bif okCode f.ntmps a && okCode f.ntmps c && noRF a && Nat.ble k.args.length f.ntmps && E.yl.isEmpty then
      smalls (pickD (toList U k.params xs) (datC k.ain ++ datO k.oin)) (wpc E (expoF f (.seq a (.seq (.region rid ops false) c)) ||| bits (tmpsOf (ops.toList.flatMap fun o => match o.op with
        | .defer d => d.operands.toList
        | _ => []))) L a 0 (St.init k (toList U k.params xs)) (fun e s => match e with
        | .normal => match deferOf s.σ ops.toList with
          | some (g, id) => match C g with
            | some ct => bif (look (oid (k.oin.length + 500)) s.h).isNone && Nat.blt id 1000000 then
                wpc E (expoF f (.seq a (.seq (.region rid ops false) c))) L c (loops a) (s.swap id (oid (k.oin.length + 500))) (fun e s' => match e with
                  | .exit _ => Bad 3002 1
                  | .panic v => match caught ct (oid (k.oin.length + 500)) s' v with
                    | some s'' => post E.P f k xs s''
                    | none => Bad 3003 0
                  | _ => post E.P f k xs s')
              else Bad 3004 0
            | none => Bad 3005 0
          | none => Bad 3006 0
        | _ => Bad 3007 0)) else Bad 3001 1
   | _ => Bad 3000 2
  | _ => Bad 3000 1

theorem Says.rep {d : Datum U} {u : Value} (h : Says d u) (w : World) (M : Nat → Prop) : Rep U w M d u := by
  unfold Says at h
  split at h
  · subst h; exact .int _ _
  · subst h; exact .bool _
  · exact h.elim

/-- A box that is written by a call that catches. -/
theorem caught_after {b0 : Nat} (k : Ok F w β h) {id : Nat} {e : TypeId} {cs : List (Cell U)} (hl : look id h = some (.box e cs)) {b : Nat} (hβ : β id = .pointer (some ⟨b, 0, none⟩)) (hB : F.B ≤ b) {w' : World} (hw : Wrote b w w') {ds : List (Datum U)} {us : List Value}
    (hlen : us.length = ds.length) (hs : ∀ (j : Nat) (d : Datum U) (u : Value), ds[j]? = some d → us[j]? = some u → Says d u) (hh : w'.heap[b]? = some (.cells us.toArray e (0, 0))) : After F w β h w' β (write id (.box e (ds.map .d)) h) := by
  refine turn_after k hl rfl hw.os hw.tape hw.output hw.size (fun b' hb' hn => hw.heap b' hb' (fun e => hn (by rw [hβ, e]; rfl))) rfl (fun _ _ => rfl) rfl (fun ho => by cases ho) (fun b' hb' => .inl hb')
    (fun e' cs' he => ⟨rfl, _, by simp only [Ob.box.injEq] at he; obtain ⟨rfl, _⟩ := he; rfl⟩) (fun e' t l ver lv he => by cases he) (fun x => ?_)
  refine ⟨b, us.toArray, hβ, hB, hh, by simpa using hlen, fun v hv => ?_, fun j c v hc hv => ?_⟩
  · obtain ⟨j, hj⟩ := List.mem_iff_getElem?.1 (by simpa using hv)
    have hjl : j < ds.length := by rw [← hlen]; exact (List.getElem?_eq_some_iff.1 hj).1
    have hr := (hs j _ v (List.getElem?_eq_getElem hjl) hj).rep w (fun _ => True)
    exact hr.one
  · simp only [List.getElem?_map, Option.map_eq_some_iff] at hc
    obtain ⟨d, hd, rfl⟩ := hc
    exact (hs j d v hd (by simpa using hv)).rep _ _

theorem vcD_gives_at {Y : Fr} {C : FuncId → Option (Catcher U)} (hE : E.Fits) (hG : E.Sound Y) (hC : ∀ g c, C g = some c → c.Holds E.P g) (hm : E.P.follows .mixedOrders = true) {f : FuncId} {fn : Func} (hf : E.P.funcs[f]? = some fn) {k : Con U} {xs : Dens U.T k.params} (L : Nat → St U → Ann U) (h : vcD E C L fn k xs) :
    GivesAt Y (runF E.P f) E.G k xs := by
  intro F hY β w us vs hw0 hFG K hnm hnm2 hcr hpack
  unfold vcD at h
  split at h
  case h_2 => exact h.elim
  rename_i ca cy hb
  split at h
  case h_2 => exact h.elim
  rename_i rid ops cc hbi
  simp only [Bool.cond_eq_ite] at h
  split at h
  case isFalse => exact h.elim
  rename_i hok
  simp only [Bool.and_eq_true] at hok
  obtain ⟨⟨⟨⟨hoka, hokc⟩, hnra⟩, hargs⟩, hyl0⟩ := hok
  have hyl0 : E.yl = [] := by simpa using hyl0
  have hargs := Nat.le_of_ble_eq_true hargs
  have h := smalls_spec h (given_small K hcr)
  have hvl := pack_length hpack
  have hfe : (fen E.P none).fn f := by show (E.P.funcs[f]?).isSome = true; rw [hf]; rfl
  refine callsIn_of_wp_marks hf hb hfe ?_
  have hsz : (vs.toArray ++ Array.replicate (fn.ntmps - vs.toArray.size) undef).size = fn.ntmps := by simp; omega
  have hstart : ∀ t p, look t (St.init k (toList U k.params xs)).σ = some p → PRel w β (canon (toList U k.params xs) k.oin) (St.init k (toList U k.params xs)).σ p ((vs.toArray ++ Array.replicate (fn.ntmps - vs.toArray.size) undef).getD t undef) ∧ p.plain = true := by
    intro t p hl
    obtain ⟨v, h2, h3, h4⟩ := start_rel (σ := (St.init k (toList U k.params xs)).σ) hpack hcr hl
    refine ⟨?_, h4⟩
    have htl : t < vs.length := (List.getElem?_eq_some_iff.1 h2).1
    have : (vs.toArray ++ Array.replicate (fn.ntmps - vs.toArray.size) undef).getD t undef = v := by
      rw [Array.getD_eq_getD_getElem?, Array.getElem?_append_left (by simpa using htl)]
      simp [h2]
    rw [this]
    exact h3
  have R : Rel F fn.ntmps β (St.init k (toList U k.params xs)) (vs.toArray ++ Array.replicate (fn.ntmps - vs.toArray.size) undef) w := ⟨K, hsz, fun t p hl => (hstart t p hl).1⟩
  have hO : OptIn (fun _ => False) (St.init k (toList U k.params xs)).σ := by
    intro t gs p hl
    have := (hstart t _ hl).2
    simp [PV.plain] at this
  refine wpIn_seq (wpc_sound0 (ro := none) (F := F) hE hG (fun h => absurd hyl0 h) hFG hm _ L ca 0 _ _ hoka hnra h _ { tmps := vs.toArray ++ Array.replicate (fn.ntmps - vs.toArray.size) undef, defers := [] } w R hO _ (fun way e s1 β1 a1 w1 he hq R1 hO1 hd1 => ?_))
  cases way with
  | exit id => exact hq.elim
  | ret => exact hq.elim
  | panic v => exact hq.elim
  | normal =>
  have he : e = .normal := he
  subst he
  dsimp only at hq
  split at hq
  case h_2 => exact hq.elim
  rename_i g id hdo
  split at hq
  case h_2 => exact hq.elim
  rename_i ct hct
  split at hq
  case isFalse => exact hq.elim
  rename_i hfr
  simp only [Bool.and_eq_true] at hfr
  have hfree : look (oid (k.oin.length + 500)) s1.h = none := by simpa using hfr.1
  have hlt : id < 1000000 := Nat.le_of_ble_eq_true hfr.2
  have hcat := hC g ct hct
  obtain ⟨b, e0, cs0, hlb, hβb, cap, dargs, hcap, hdw⟩ := defer_wp (E := E) hdo hcat.enters R1
  have hnb : F.nm (oid (k.oin.length + 500)) = none := by
    cases hh : F.nm (oid (k.oin.length + 500)) with
    | none => rfl
    | some v =>
      obtain ⟨j, hj, hjj⟩ := hnm2 _ v hh
      have := oid_inj hjj
      omega
  obtain ⟨R2, hO2⟩ := swap_rel R1 hlt (by show 1000000 ≤ 1000000 + _; omega) hnb hfree
  refine inScope_wp ?_
  rw [hbi]
  refine wpIn_seq (hdw _ ?_)
  refine wpc_sound hE hG hyl0 hm _ L cc _ _ _ hokc hq (F.name _ _) _ { a1 with defers := { target := .fn (.func g) cap, args := dargs } :: a1.defers } w1 hFG R2 hO2 _ ?_
  intro F3 way e s3 β3 a3 w3 he hq3 R3 hO3 hlat
  have hdef : a1.defers = [] := hd1
  have hinv : ∀ w : World, (invoke (.fn (.func g) cap) dargs).run E.P w = .ok (.enter g #[Value.pointer (some ⟨b, 0, none⟩)]) w := by
    intro w
    have := hcat.enters.run (dargs ++ cap) w
    rw [hcap] at this
    simp only [invoke, hcap]
    exact this
  have hfg : (fen E.P none).fn g := by
    obtain ⟨fn', h1, _⟩ := hcat.enters
    show (E.P.funcs[g]?).isSome = true
    rw [h1]; rfl
  have hret : ∀ (s4 : St U) (β4 : Nm) (w4 : World), post E.P fn k xs s4 → Ok (F.name (oid (k.oin.length + 500)) (β1 id, β1.lp id)) w4 β4 s4.h → (∀ t p, look t s4.σ = some p → PRel w4 β4 s4.h s4.σ p (a3.tmps.getD t undef)) → LeavesInM (fen E.P none) 0 E.P fn a3.tmps (fun e w' => match e with
      | .returned v => (∀ b, k.bad = some b → (b xs).1 = false) ∧ ∃ β' rs, Ok F w' β' (canon (toList U k.tys (k.fn xs)) k.oout) ∧ PackRes k.res rs v ∧
          CsRel w' β' (canon (toList U k.tys (k.fn xs)) k.oout) (k.rout.map (iC (toList U k.tys (k.fn xs)) oid (fun _ => 0))) rs
      | .panicked ch => ∃ b u, k.bad = some b ∧ (b xs).1 = true ∧ ch = [{ v := u, recovered := false }] ∧ PanIs (b xs).2 u ∧ Below F.B w w' ∧ ∀ b, b < w.heap.size → ¬ F.K b → w'.heap[b]? = w.heap[b]?
      | .outgrown => False) [] .returning w4 := by
    intro s4 β4 w4 hp4 k4 ht4
    have R4 : Rel F fn.ntmps β4 s4 a3.tmps w4 := ⟨k4.unname hnb, R3.sz, ht4⟩
    obtain ⟨v, hrun, hgave⟩ := post_gives (E := E) hp4 R4 hnm2
    exact ⟨v, hrun, hgave⟩
  have hcalm : post E.P fn k xs s3 → LeavesInM (fen E.P none) 0 E.P fn a3.tmps (fun e w' => match e with
      | .returned v => (∀ b, k.bad = some b → (b xs).1 = false) ∧ ∃ β' rs, Ok F w' β' (canon (toList U k.tys (k.fn xs)) k.oout) ∧ PackRes k.res rs v ∧
          CsRel w' β' (canon (toList U k.tys (k.fn xs)) k.oout) (k.rout.map (iC (toList U k.tys (k.fn xs)) oid (fun _ => 0))) rs
      | .panicked ch => ∃ b u, k.bad = some b ∧ (b xs).1 = true ∧ ch = [{ v := u, recovered := false }] ∧ PanIs (b xs).2 u ∧ Below F.B w w' ∧ ∀ b, b < w.heap.size → ¬ F.K b → w'.heap[b]? = w.heap[b]?
      | .outgrown => False) a3.defers .returning w3 := by
    intro hp
    refine hlat.leave (by simp) R3.ok (fun w4 β4 k4 sh4 => ?_)
    rw [hdef]
    refine ⟨by simp, .inr ⟨fun hh => by simp [fen] at hh, .func g, cap, g, _, rfl, hinv w4, fun g' hg' => ?_, (hcat.calm b w4).mono ?_⟩⟩
    · simp only [Target.leads, Option.some.injEq] at hg'
      subst hg'; exact hfg
    · rintro e u' w' ⟨⟨v, rfl⟩, rfl, rfl⟩
      exact hret s3 β4 w' hp k4 (fun t p hl => sh4.p (R3.tmp t p hl))
  cases way with
  | exit id => exact hq3.elim
  | normal =>
    have he : e = .normal := he
    subst he
    exact hcalm hq3
  | ret =>
    have he : e = .ret := he
    subst he
    exact hcalm hq3
  | panic pv =>
    obtain ⟨u, hpi, rfl⟩ := he
    dsimp only at hq3
    split at hq3
    case h_2 => exact hq3.elim
    rename_i s5 hcg
    unfold caught at hcg
    simp only [Bool.cond_eq_ite] at hcg
    split at hcg
    case isFalse => cases hcg
    rename_i hta
    simp only [Bool.and_eq_true, beq_iff_eq] at hta
    have hpt := Nat.eq_of_beq_eq_true hta.1
    split at hcg
    case h_2 => cases hcg
    rename_i ds hds
    split at hcg
    case h_2 => cases hcg
    rename_i e5 cs5 hl5
    split at hcg
    case isFalse => cases hcg
    rename_i hec
    simp only [Bool.and_eq_true] at hec
    have he5 := Nat.eq_of_beq_eq_true hec.1
    have hln := Nat.eq_of_beq_eq_true hec.2
    simp only [Option.some.injEq] at hcg
    refine hlat.leave (by simp) R3.ok (fun w4 β4 k4 sh4 => ?_)
    rw [hdef]
    obtain ⟨b4, vs4, hb4, hB4, hh4, hcs4⟩ := k4.obj _ _ hl5
    have hbb : b4 = b := by
      have hfix := k4.fix _ _ (β1 id, β1.lp id) hl5 (by simp [Fr.name])
      rcases hfix with h1 | h1
      · cases h1
      · simp only [Prod.mk.injEq] at h1
        rw [hb4, hβb] at h1
        have := h1.1
        simpa using this
    subst hbb
    have hpi2 : PanIs ⟨ct.t, ct.agg, pv.ds⟩ u := by
      rw [← hpt, ← hta.2]; exact hpi
    have hbl4 : b4 < w4.heap.size := (Array.getElem?_eq_some_iff.1 hh4).1
    refine ⟨by simp, .inr ⟨fun hh => by simp [fen] at hh, .func g, cap, g, _, rfl, hinv w4, fun g' hg' => ?_, (hcat.hot b4 w4 vs4 u pv.ds ds hbl4 (by rw [← he5]; exact hh4) hpi2 hds ?_).mono ?_⟩⟩
    · simp only [Target.leads, Option.some.injEq] at hg'
      subst hg'; exact hfg
    · have := hcs4.1
      simp only [Array.length_toList] at this
      omega
    · rintro e u' w' ⟨⟨v, rfl⟩, rfl, hwr, us5, hul, hus, hh5⟩
      have A := caught_after (b0 := b4) k4 hl5 hb4 hB4 hwr hul hus (by rw [he5]; exact hh5)
      subst hcg
      exact hret _ β4 w' hq3 A.ok (fun t p hl => A.ext.p (sh4.p (R3.tmp t p hl)))

/-- A function with a deferred call whose conditions hold does what is said. -/
theorem vcD_gives {Y : Fr} {C : FuncId → Option (Catcher U)} (hE : E.Fits) (hG : E.Sound Y) (hC : ∀ g c, C g = some c → c.Holds E.P g) (hm : E.P.follows .mixedOrders = true) {f : FuncId} {fn : Func} (hf : E.P.funcs[f]? = some fn) (hn : (fn.name == "runtime.NumGoroutine") = false) {k : Con U}
    (L : Dens U.T k.params → Nat → St U → Ann U) (h : ∀ xs, holds (k.pre.map fun p => p xs) → vcD E C (L xs) fn k xs) (hb : fn.body.isNone = false) : GivesY Y E.P E.G f k :=
  ⟨⟨fn, hf, hn, hb⟩, fun xs hp => vcD_gives_at hE hG hC hm hf (L xs) (h xs hp)⟩

end
end Go.VT
end

section
set_option linter.unusedVariables false
set_option maxRecDepth 100000
namespace Go.Rp
open Go Go.VT

abbrev mapI : Ty := .map i64 i64
/-- What a map of numbers says. -/
def lg (l : List (Int × Int)) (k : Int) : Int := (mget (fun x y => x == y) l k).getD 0
/-- The panic of the package, with an error. -/
noncomputable def wrong (e : Int) : PanV RU := ⟨108, true, [⟨i64, e⟩]⟩

noncomputable def cMust : Con RU := ⟨[one, one], [.bool, i64], [.d 0, .d 1], [], none, some fun p => (!p.1, wrong p.2.1), [], [], [], [], fun _ => (), [], [], []⟩
noncomputable def cIsW : Con RU := con [one] [i64] [one] [.bool] [false] none fun p => (isWord p.1, ())
noncomputable def cNotW : Con RU := con [one] [i64] [one] [.bool] [false] none fun p => (!isWord p.1, ())
noncomputable def cHas : Con RU := con [one, one] [i64, i64] [one] [.bool] [false] none fun p => (decide (0 ≤ p.1) && decide (p.1 < p.2.1), ())
/-- The first place at which something holds. -/
def firstAt (f : Int → Bool) : List Int → Int → Int
  | [], _ => -1
  | x :: r, i => bif f x then i else firstAt f r (i + 1)
noncomputable def cIdxW (g : FuncId) : Con RU := ⟨[one, one], [ints], [.d 0, .fn g], [], none, none, [one], [i64], [.d 0], [], fun p => (firstAt (fun n => !isWord n) p.1 0, ()), [], [], []⟩
noncomputable def cAnyW (g : FuncId) : Con RU := ⟨[one, one], [ints], [.d 0, .fn g], [], none, none, [one], [.bool], [.d 0], [], fun p => (p.1.any (fun n => !isWord n), ()), [], [], []⟩

/-- A store that grows, whose nodes are data. -/
abbrev stD (k q : Nat) : List OPat := [.box 69 [.d k, .map 1], .map q]
noncomputable abbrev conK (bad : List Node → List (Int × Int) → Int → Bool) (val : List Node → List (Int × Int) → Int → Int) : Con RU :=
  ⟨[one, one], [nodes, mapI, i64], [.ptr 0 0, .d 2], stD 0 1, some fun p => 0 ≤ p.2.2.1 ∧ p.2.2.1 < p.1.length, some fun p => (bad p.1 p.2.1 p.2.2.1, wrong 1), [one], [i64, nodes, mapI], [.d 0], stD 1 2, fun p => (val p.1 p.2.1 p.2.2.1, p.1, p.2.1, ()), [0, 1], [], []⟩

def hasB (n below : Int) : Bool := decide (0 ≤ n) && decide (n < below)
def okWords (x : Node) : Bool := x.a == 0 && x.b == 0 && x.from_ == 0 && x.len == 0 && x.n == 0 && x.words.all isWord
def okCat (x : Node) (at_ : Int) : Bool := hasB x.a at_ && hasB x.b at_ && x.from_ == 0 && x.len == 0 && x.n == 0 && x.words.isEmpty
def okPart (x : Node) (L : List (Int × Int)) (at_ : Int) : Bool := hasB x.a at_ && x.b == 0 && x.n == 0 && x.words.isEmpty && decide (0 ≤ x.len) && decide (x.len ≤ lg L x.a) && decide (0 ≤ x.from_) && decide (x.from_ ≤ IntKind.i64.wrap (lg L x.a - x.len))
def okOff (x : Node) (at_ : Int) : Bool := hasB x.a at_ && x.b == 0 && x.from_ == 0 && x.len == 0 && x.words.isEmpty && isWord x.n
noncomputable def cKWords : Con RU := conK (fun l L i => !okWords (l.getD i.toNat node0)) (fun l L i => (l.getD i.toNat node0).words.length)
noncomputable def cKCat : Con RU := conK (fun l L i => !okCat (l.getD i.toNat node0) i) (fun l L i => IntKind.i64.wrap (lg L (l.getD i.toNat node0).a + lg L (l.getD i.toNat node0).b))
noncomputable def cKPart : Con RU := conK (fun l L i => !okPart (l.getD i.toNat node0) L i) (fun l L i => (l.getD i.toNat node0).len)
noncomputable def cKOff : Con RU := conK (fun l L i => !okOff (l.getD i.toNat node0) i) (fun l L i => lg L (l.getD i.toNat node0).a)

noncomputable def lIdx (l : List Int) : Nat → St RU → Ann RU := fun _ _ => ⟨[], [.slot 8], [i64], fun p => 0 ≤ p.1 ∧ p.1 ≤ l.length ∧ (l.take p.1.toNat).all isWord = true, fun p => l.length - p.1.toNat, []⟩

end Go.Rp
end

section
set_option linter.unusedVariables false
set_option maxRecDepth 100000
namespace Go.Rp
open Go Go.VT

/-- The functions of the kinds of nodes, by their numbers. -/
noncomputable def cKind (i : Int) : Con RU := conK
  (fun l L at_ => if i ≤ 0 then !okWords (l.getD at_.toNat node0) else if i = 1 then !okCat (l.getD at_.toNat node0) at_ else if i = 2 then !okPart (l.getD at_.toNat node0) L at_ else !okOff (l.getD at_.toNat node0) at_)
  (fun l L at_ => if i ≤ 0 then ((l.getD at_.toNat node0).words.length : Int) else if i = 1 then IntKind.i64.wrap (lg L (l.getD at_.toNat node0).a + lg L (l.getD at_.toNat node0).b) else if i = 2 then (l.getD at_.toNat node0).len else lg L (l.getD at_.toNat node0).a)
noncomputable def tabR (fs : List FuncId) (i : Int) : List (Con RU) := bif fs == [102, 103, 104, 105] then [cKind i] else []

/-- How long the ropes of a store are, by their numbers. -/
def longFrom : Nat → List Int → List (Int × Int)
  | _, [] => []
  | i, x :: r => ((i : Int), x) :: longFrom (i + 1) r
def longOf (l : List Node) : List (Int × Int) := longFrom 0 (lensOf l)

def stepOk (l : List Node) (i : Nat) : Bool := fieldsOf (l.getD i node0) i && nodeOk (lensOf l) (l.getD i node0) ((lensOf l).getD i 0)

noncomputable def cOpen : Con RU := ⟨[(true, 1), one], [nodes, ints], [.d 0, .d 1], [], none, some fun p => (askedOf p.1 p.2.1 != 0, wrong (askedOf p.1 p.2.1)), [one], [nodes, mapI], [.ptr 0 0], stD 0 1, fun p => (p.1, longOf p.1, ()), [], [], []⟩
noncomputable def lOpen (l : List Node) (r : List Int) : Nat → St RU → Ann RU := fun n _ => match n with
  | 0 => ⟨[], [.slot 22, .row 1024], [i64, mapI], fun p => 0 ≤ p.1 ∧ p.1 ≤ l.length ∧ (∀ i : Nat, i < p.1.toNat → stepOk l i = true) ∧ p.2.1 = longOf (l.take p.1.toNat), fun p => l.length - p.1.toNat, []⟩
  | _ => ⟨[], [.slot 59], [i64], fun p => 0 ≤ p.1 ∧ p.1 ≤ r.length ∧ ∀ i : Nat, i < p.1.toNat → lies (r.getD i 0) 0 (l.length - 1) = true, fun p => r.length - p.1.toNat, []⟩
end Go.Rp
end

section
set_option linter.unusedVariables false
set_option maxRecDepth 100000
namespace Go.Rp
open Go Go.VT

noncomputable def cClone : Con RU := con [one] [ints] [one] [ints] [true] (some fun p => p.1.length ≤ 17592186044416) fun p => (p.1, ())
/-- A store that grows, whose nodes are its own. -/
abbrev stR (k q : Nat) : List OPat := [.box 69 [.row 2, .map 1], .map q, .row k]
noncomputable def cOwnS : Con RU := ⟨[one], [nodes, mapI], [.ptr 0 0], stD 0 1, some fun p => few' p.1, none, [], [nodes, mapI], [], stR 0 1, fun p => p, [], [], []⟩
noncomputable def lOwnS (l : List Node) : Nat → St RU → Ann RU := fun _ _ => ⟨[], [.slot 20, .row 640], [i64, nodes], fun p => 0 ≤ p.1 ∧ p.1 ≤ l.length ∧ p.2.1 = l, fun p => l.length - p.1.toNat, []⟩

abbrev putBad (l : List Node) (long : Int) : Bool := !(decide ((l.length : Int) < 4000) && decide (long ≤ 1048576))
abbrev putL (l : List Node) (L : List (Int × Int)) (long : Int) : List (Int × Int) := mput (fun x y => x == y) L l.length long
noncomputable def cPut : Con RU := ⟨[one, (true, 7), one], [nodes, mapI, i64, i64, i64, i64, i64, i64, ints, i64], [.ptr 0 0, .d 2, .d 3, .d 4, .d 5, .d 6, .d 7, .d 8, .d 9], stR 0 1, none,
  some fun p => (putBad p.1 p.2.2.2.2.2.2.2.2.2.1, wrong 9), [one], [i64, nodes, mapI], [.d 0], stR 1 2,
  fun p => (p.1.length, p.1 ++ [⟨p.2.2.1, p.2.2.2.1, p.2.2.2.2.1, p.2.2.2.2.2.1, p.2.2.2.2.2.2.1, p.2.2.2.2.2.2.2.1, p.2.2.2.2.2.2.2.2.1⟩], putL p.1 p.2.1 p.2.2.2.2.2.2.2.2.2.1, ()), [], [], []⟩
noncomputable def cMade : Con RU := ⟨[one, (true, 7), one], [nodes, mapI, i64, i64, i64, i64, i64, i64, ints, i64], [.ptr 0 0, .d 2, .d 3, .d 4, .d 5, .d 6, .d 7, .d 8, .d 9], stD 0 1, some fun p => few' p.1,
  some fun p => (putBad p.1 p.2.2.2.2.2.2.2.2.2.1, wrong 9), [(true, 1), one, one], [nodes, i64, i64, mapI], [.d 0, .d 1, .d 2], [.box 69 [.un, .map 1], .map 3],
  fun p => (p.1 ++ [⟨p.2.2.1, p.2.2.2.1, p.2.2.2.2.1, p.2.2.2.2.2.1, p.2.2.2.2.2.2.1, p.2.2.2.2.2.2.2.1, p.2.2.2.2.2.2.2.2.1⟩], p.1.length, 0, putL p.1 p.2.1 p.2.2.2.2.2.2.2.2.2.1, ()), [], [], []⟩

noncomputable def cAt : Con RU := ⟨[one, one, one], [nodes, mapI, i64, i64], [.ptr 0 0, .d 2, .d 3], stD 0 1,
  some fun p => (p.1.length ≤ 4000 ∧ validOf p.1 = true ∧ p.2.1 = longOf p.1) ∧ (0 ≤ p.2.2.1 ∧ p.2.2.1 < p.1.length) ∧ 0 ≤ p.2.2.2.1 ∧ p.2.2.2.1 < at_ (lensOf p.1) p.2.2.1, none,
  [one, one], [i64, i64, nodes, mapI], [.d 0, .d 1], stD 2 3, fun p => ((wayAt p.1 p.2.2.1 p.2.2.2.1).2, (wayAt p.1 p.2.2.1 p.2.2.2.1).1, p.1, p.2.1, ()), [0, 1], [], []⟩
noncomputable def lAt (l : List Node) (a p : Int) : Nat → St RU → Ann RU := fun _ _ => ⟨[], [.slot 1, .slot 2, .slot 8, .slot 7], [i64, i64, i64, i64],
  fun q => (0 ≤ q.1 ∧ q.1 ≤ a) ∧ (0 ≤ q.2.1 ∧ q.2.1 < at_ (lensOf l) q.1) ∧ (1 ≤ q.2.2.2.1 ∧ q.2.2.2.1 ≤ 1 + a - q.1) ∧ (isWord q.2.2.1 = true ∧ (wayAt l a p).2 = word (w64 ((wayAt l q.1 q.2.1).2 + q.2.2.1))) ∧ (wayAt l a p).1 = q.2.2.2.1 - 1 + (wayAt l q.1 q.2.1).1,
  fun q => q.1.toNat, []⟩
end Go.Rp
end

section
set_option linter.unusedVariables false
set_option linter.unusedSimpArgs false
set_option maxRecDepth 100000
open Go Go.VT
namespace Go.Rp

noncomputable def caughtC : Catcher RU := ⟨108, true, 28, fun ds => match ds with
  | [⟨.int .i64, e⟩] => some [⟨.int .i64, e⟩]
  | _ => none⟩

theorem fen_round (P : Program) (ro : Option Nat) : (fen P ro).round = ro := rfl
theorem fen_depth (P : Program) (ro : Option Nat) : (fen P ro).depth = none := rfl

theorem caught_calm (b : Nat) (w : World) : CallsDIn (fen prog none) 0 prog 48 #[.pointer (some ⟨b, 0, none⟩)] .returning w fun e u' w' => (∃ v, e = .returned v) ∧ u' = .returning ∧ w' = w := by
  have hu20 : prog.underlying 20 = some (.interface (prog.methodsAt 20)) := by kernel_rfl
  have hq : (Op.equal 20 .nilIface .nilIface).run prog w = .ok true w := run_equal_nil_nil w 20 hu20
  refine callsDIn_of_wpSIn Go.Proofs.Tryd.func48 rfl (by show (prog.funcs[48]?).isSome = true; kernel_rfl) fun c₀ cs hu => ?_
  apply wpSIn_seq
  apply wpSIn_region
  simp [wpOpsSIn, go_sem, recoverD, hu, Go.Proofs.Tryd.ntmps48, Exit.thenS]
  refine wpSIn_of_wpIn rfl ?_
  apply wpIn_block
  apply wpIn_seq
  apply wpIn_region
  simp [wpOpsIn, go_sem, hq, Exit.then, fen_round]
  apply wpIn_cond_true (by simp [Act.eval, Array.replicate])
  apply wpIn_region
  simp [wpOpsIn, go_sem, Exit.inBlock, fen_round]
  cases c₀
  simp_all [bodyPostS, results, Go.Proofs.Tryd.results48]

theorem pan_form {e : Int} {t : TypeId} {v : Value} (h : PanIs (U := RU) ⟨t, true, [⟨i64, e⟩]⟩ v) : v = .iface t (.agg #[.int .i64 e]) := by
  obtain ⟨vs, rfl, hl, _, hs⟩ := h
  match vs, hl with
  | [u], _ =>
    have := hs 0 _ u rfl rfl
    have : u = .int .i64 e := this
    rw [this]; rfl

theorem caught_hot (b : Nat) (w : World) (cur : Array Value) (e : Int) (hb : b < w.heap.size) (hc : w.heap[b]? = some (.cells cur 28 (0, 0))) (hsz : cur.size = 1) :
    CallsDIn (fen prog none) 0 prog 48 #[.pointer (some ⟨b, 0, none⟩)] (.panicking [{ v := .iface 108 (.agg #[.int .i64 e]), recovered := false }]) w fun e' u' w' => (∃ v, e' = .returned v) ∧ u' = .panicking [{ v := .iface 108 (.agg #[.int .i64 e]), recovered := true }] ∧ Wrote b w w' ∧ w'.heap[b]? = some (.cells #[.int .i64 e] 28 (0, 0)) := by
  have hu20 : prog.underlying 20 = some (.interface (prog.methodsAt 20)) := by kernel_rfl
  have hq : ∀ (u : TypeId) (x : Value) (w : World), (Op.equal 20 (.iface u x) .nilIface).run prog w = .ok false w := fun u x w => run_equal_held_nil w 20 u x hu20
  obtain ⟨fs, hfs⟩ : ∃ fs, prog.underlying 108 = some (.struct fs) := by
    have h : (match prog.underlying 108 with | some (.struct _) => true | _ => false) = true := by kernel_rfl
    split at h
    · exact ⟨_, by assumption⟩
    · cases h
  refine callsDIn_of_wpSIn Go.Proofs.Tryd.func48 rfl (by show (prog.funcs[48]?).isSome = true; kernel_rfl) fun c₀ cs hu => ?_
  apply wpSIn_seq
  apply wpSIn_region
  simp [wpOpsSIn, go_sem, recoverD, hu, Go.Proofs.Tryd.ntmps48, Exit.thenS]
  refine wpSIn_of_wpIn rfl ?_
  apply wpIn_block
  apply wpIn_seq
  apply wpIn_region
  simp [wpOpsIn, go_sem, hq, Exit.then, fen_round]
  apply wpIn_cond_false (by simp [Act.eval, Array.replicate])
  apply wpIn_seq
  apply wpIn_region
  simp [wpOpsIn, go_sem, Exit.then, Instr.typeAssert, run_underlying hfs, fen_round]
  apply wpIn_cond_true (by simp [Act.eval, Array.replicate])
  apply wpIn_seq
  apply wpIn_region
  simp [wpOpsIn, go_sem, Exit.then, fen_round]
  apply wpIn_region
  obtain ⟨c0, rfl⟩ : ∃ c0, cur = #[c0] := by
    match cur, hsz with
    | ⟨[c0]⟩, _ => exact ⟨c0, rfl⟩
  have hh : (w.alloc (.cells #[.int .i64 e] 108 (0, 0))).heap[b]? = some (.cells #[c0] 28 (0, 0)) := by rw [← hc]; exact Go.RowKit.Below.heap_alloc _ _ _ hb
  have hc2 : (w.alloc (.cells #[.int .i64 e] 108 (0, 0))).cell? ⟨b, 0, none⟩ = some c0 := by simp [World.cell?, hh]
  have hz : (w.alloc (.cells #[.int .i64 e] 108 (0, 0))).frozen? ⟨b, 0, none⟩ = false := by simp [World.frozen?, hh]
  simp [wpOpsIn, go_sem, Exit.inBlock, fen_round, hc2, hz]
  have hsize : (w.alloc (.cells #[.int .i64 e] 108 (0, 0))).heap.size = w.heap.size + 1 := by simp
  have hold : ∀ b', b' < w.heap.size → b' ≠ b → ((w.alloc (.cells #[.int .i64 e] 108 (0, 0))).setCell ⟨b, 0, none⟩ (.int .i64 e)).heap[b']? = w.heap[b']? := fun b' h1 h2 => by
    rw [Go.RowKit.Below.heap_setCell _ _ _ _ h2]; exact Go.RowKit.Below.heap_alloc _ _ _ h1
  have hnew : ((w.alloc (.cells #[.int .i64 e] 108 (0, 0))).setCell ⟨b, 0, none⟩ (.int .i64 e)).heap[b]? = some (.cells #[.int .i64 e] 28 (0, 0)) := by
    simp only [World.setCell, Array.getElem?_modify, if_true, hh]
    rfl
  refine ⟨rfl, .panicking [{ v := .iface 108 (.agg #[.int .i64 e]), recovered := true }], rfl, .tuple #[], ?_, ⟨_, rfl⟩, rfl, ⟨rfl, rfl, rfl, ?_, hold⟩, hnew⟩
  · simp [results, Go.Proofs.Tryd.results48]
  · show w.heap.size ≤ _
    simp [World.setCell]

theorem caught_holds : caughtC.Holds prog 48 where
  enters := ⟨_, Go.Proofs.Tryd.func48, by kernel_rfl, by kernel_rfl⟩
  calm := caught_calm
  hot := by
    intro b w cur v ds outs hb hc hp ho hsz
    simp only [caughtC] at ho
    split at ho
    · rename_i e
      simp only [Option.some.injEq] at ho
      subst ho
      have hv := pan_form hp
      subst hv
      refine (caught_hot b w cur e hb hc hsz).mono ?_
      rintro e' u' w' ⟨h1, h2, h3, h4⟩
      exact ⟨h1, h2, h3, [.int .i64 e], rfl, fun j d u hd hu => by
        match j with
        | 0 => simp at hd hu; subst hd; subst hu; rfl
        | j + 1 => simp at hd, h4⟩
    · cases ho
end Go.Rp
end

section
set_option linter.unusedVariables false
set_option maxRecDepth 100000
namespace Go.Rp
open Go Go.VT

noncomputable def cC : FuncId → Option (Catcher RU) := fun g => bif Nat.beq g 48 then some caughtC else none

theorem cC_holds : ∀ g c, cC g = some c → c.Holds prog g := by
  intro g c h
  unfold cC at h
  cases hb : Nat.beq g 48 with
  | false => rw [hb] at h; cases h
  | true =>
    rw [hb] at h
    cases h
    rw [Nat.eq_of_beq_eq_true hb]
    exact caught_holds

theorem givesD {l : List (FuncId × Con RU)} (hl : ∀ x ∈ l, Gives prog RG x.1 x.2) {f : FuncId} {fn : Func} {k : Con RU} (L : Dens RU.T k.params → Nat → St RU → Ann RU) (hf : prog.funcs[f]? = some fn) (hn : (fn.name == "runtime.NumGoroutine") = false) (hb : fn.body.isNone = false)
    (h : ∀ xs, holds (k.pre.map fun p => p xs) → vcD (EV l) cC (L xs) fn k xs) : Gives prog RG f k :=
  fun Y => vcD_gives (E := EV l) (fits l) ⟨gives_of (fun x hx => hl x hx Y), fun _ _ _ _ _ h => (by cases h), fun _ _ _ h => (by cases h), fun _ h => (by cases h), fun _ _ _ _ h => (by cases h)⟩ cC_holds mixed hf hn L h hb

noncomputable def cWordsP : Con RU := conS [(true, 1), one] [nodes, ints] (fun p => p.2.1.length ≤ 4000000) fun p => wordsOf p.1 p.2.1
/-- What is asked of a place: that it lies in a rope. -/
noncomputable def cNotIn : Con RU := ⟨[one, one, one], [i64, nodes, mapI, i64], [.d 0, .ptr 0 0, .ptr 1 0], [.box 70 [.ptr 2 0], .box 3 [.d 3], .box 69 [.d 1, .map 3], .map 2], none, none, [one], [.bool, nodes, mapI, i64], [.d 0], [.box 70 [.ptr 2 0], .box 3 [.d 3], .box 69 [.d 1, .map 3], .map 2],
  fun p => (!(decide (0 ≤ p.1) && decide (p.1 < lg p.2.2.1 p.2.2.2.1)), p.2.1, p.2.2.1, p.2.2.2.1, ()), [], [], []⟩
end Go.Rp
end

section
set_option linter.unusedVariables false
set_option maxRecDepth 100000
namespace Go.Rp
open Go Go.VT

/-- The same, with contracts of methods of interfaces, and of loops over functions. -/
noncomputable def EVx (inv : Nat → String → List (Con RU)) (it : FuncId → List (Con RU × Con RU × List (Nat × Nat))) (l : List (FuncId × Con RU)) : Env RU := ⟨prog, codesOf codeL, consOf l, RG, fun _ _ => [], inv, [], none, it⟩
theorem fitsX (inv it) (l : List (FuncId × Con RU)) : (EVx inv it l).Fits := fits_of (by kernel_rfl)

def InvOk (inv : Nat → String → List (Con RU)) : Prop := ∀ i name k, k ∈ inv i name → ∀ Y, GivesC Y (runI prog name) RG k
def ItOk (it : FuncId → List (Con RU × Con RU × List (Nat × Nat))) : Prop := ∀ f k kY mp, (k, kY, mp) ∈ it f → ∀ Y', GivesC Y' (runY prog) RG kY → GivesY Y' prog RG f k

theorem givesDX {inv it} (hi : InvOk inv) (ht : ItOk it) {l : List (FuncId × Con RU)} (hl : ∀ x ∈ l, Gives prog RG x.1 x.2) {f : FuncId} {fn : Func} {k : Con RU} (L : Dens RU.T k.params → Nat → St RU → Ann RU) (hf : prog.funcs[f]? = some fn) (hn : (fn.name == "runtime.NumGoroutine") = false) (hb : fn.body.isNone = false)
    (h : ∀ xs, holds (k.pre.map fun p => p xs) → vcD (EVx inv it l) cC (L xs) fn k xs) : Gives prog RG f k :=
  fun Y => vcD_gives (E := EVx inv it l) (fitsX inv it l) ⟨gives_of (fun x hx => hl x hx Y), fun _ _ _ _ _ h => (by cases h), fun i name k h => hi i name k h Y, fun _ h => (by cases h), ht⟩ cC_holds mixed hf hn L h hb

/-- Objects behind the question whether a place lies in a rope. -/
abbrev stG (k q a : Nat) : List OPat := [.box 70 [.ptr 2 0], .box 3 [.d a], .box 69 [.d k, .map 3], .map q]
/-- Does a place lie outside of a rope? -/
def outB (L : List (Int × Int)) (a n : Int) : Bool := !(decide (0 ≤ n) && decide (n < lg L a))
noncomputable def cOut : Con RU := ⟨[one, one, one], [i64, nodes, mapI, i64], [.d 0, .ptr 0 0, .ptr 1 0], stG 1 2 3, none, none, [one], [.bool, nodes, mapI, i64], [.d 0], stG 1 2 3,
  fun p => (outB p.2.2.1 p.2.2.2.1 p.1, p.2.1, p.2.2.1, p.2.2.2.1, ()), [0, 1, 2, 3], [], []⟩
noncomputable def cIdxO : Con RU := ⟨[one, one], [ints, nodes, mapI, i64], [.d 0, .clo 55 [0, 1]], stG 1 2 3, none, none, [one], [i64, nodes, mapI, i64], [.d 0], stG 1 2 3,
  fun p => (firstAt (outB p.2.2.1 p.2.2.2.1) p.1 0, p.2.1, p.2.2.1, p.2.2.2.1, ()), [0, 1, 2, 3], [], []⟩
noncomputable def cAnyO : Con RU := ⟨[one, one], [ints, nodes, mapI, i64], [.d 0, .clo 55 [0, 1]], stG 1 2 3, none, none, [one], [.bool, nodes, mapI, i64], [.d 0], stG 1 2 3,
  fun p => (p.1.any (outB p.2.2.1 p.2.2.2.1), p.2.1, p.2.2.1, p.2.2.2.1, ()), [0, 1, 2, 3], [], []⟩
noncomputable def lIdxO (f : Int → Bool) (l : List Int) : Nat → St RU → Ann RU := fun _ _ => ⟨[], [.slot 8], [i64], fun p => 0 ≤ p.1 ∧ p.1 ≤ l.length ∧ (l.take p.1.toNat).all (fun n => !f n) = true, fun p => l.length - p.1.toNat, []⟩
noncomputable def lGatherP (l : List Node) (a : Int) (r : List Int) : Nat → St RU → Ann RU := fun _ _ => ⟨[9], [.slot 29, .row 7], [i64, ints], fun p => 0 ≤ p.1 ∧ p.1 ≤ r.length ∧ p.2.1 = (r.take p.1.toNat).map fun q => (wayAt l a q).2, fun p => r.length - p.1.toNat, [(.slot 9, 7, 3, i64)]⟩

def needOf (x : Node) : Option Node := if x.kind = 0 then none else some x
def partsOf (x : Node) : List Int := if x.kind = 1 then [x.a, x.b] else [x.a]
def partsN : Option Node → List Int
  | none => []
  | some x => partsOf x
noncomputable def cNeeded : Con RU := con [(true, 7)] nodeTys [one] [.ifc 2] [false] none fun p => (needOf ⟨p.1, p.2.1, p.2.2.1, p.2.2.2.1, p.2.2.2.2.1, p.2.2.2.2.2.1, p.2.2.2.2.2.2.1⟩, ())
noncomputable def cLeaf : Con RU := con [(true, 0)] [] [one] [ints] [false] none fun _ => ([], ())
noncomputable def cInner : Con RU := con [(true, 7)] nodeTys [one] [ints] [false] none fun p => (partsOf ⟨p.1, p.2.1, p.2.2.1, p.2.2.2.1, p.2.2.2.2.1, p.2.2.2.2.2.1, p.2.2.2.2.2.2.1⟩, ())
noncomputable def cParts : Con RU := ⟨[(false, 1)], [.ifc 2], [.d 0], [], some fun _ => True, none, [one], [ints], [.d 0], [], fun p => (partsN p.1, ()), [], [], []⟩
noncomputable def invR : Nat → String → List (Con RU) := fun i name => bif Nat.beq i 2 && (name == "sheafworks/rope.parts") then [cParts] else []
def noIt : FuncId → List (Con RU × Con RU × List (Nat × Nat)) := fun _ => []

/-- The greatest depth of some nodes. -/
def maxAt (d : List Int) (ks : List Int) : Int := ks.foldl (fun m k => max m (at_ d k)) 0
noncomputable def lDepthP (l : List Node) (a : Int) : Nat → St RU → Ann RU := fun n s => match n with
  | 0 => ⟨[], [.slot 20, .row 1088], [i64, ints], fun p => 0 ≤ p.1 ∧ p.1 ≤ a + 1 ∧ p.2.1 = depthsOf (l.take p.1.toNat) ++ List.replicate (a + 1 - p.1).toNat 0, fun p => (a + 1).toNat - p.1.toNat, []⟩
  | _ => ⟨[], [.slot 34, .row 1088], [i64, ints], fun p => 0 ≤ p.1 ∧ p.1 ≤ (partsN (needOf (nat_ l (s.intAt 8)))).length ∧ p.2.1 = depthsOf (l.take (s.intAt 8).toNat) ++ maxAt (depthsOf (l.take (s.intAt 8).toNat)) ((partsN (needOf (nat_ l (s.intAt 8)))).take p.1.toNat) :: List.replicate (a - s.intAt 8).toNat 0,
    fun p => (partsN (needOf (nat_ l (s.intAt 8)))).length - p.1.toNat, []⟩
end Go.Rp
end

section
set_option linter.unusedVariables false
set_option maxRecDepth 100000
namespace Go.Rp
open Go Go.VT

/-- The words of a piece. -/
def rwords (l : List Node) (node from_ many add : Int) : List Int := (((nat_ l node).words.take (from_ + many).toNat).drop from_.toNat).map fun n => word (w64 (n + add))
/-- The words of a part of a rope, with a number added. -/
def walkW (l : List Node) (a from_ many add : Int) : List Int := (List.range many.toNat).map fun i : Nat => word (w64 ((wayAt l a (from_ + i)).2 + add))

noncomputable def EVy (yl : List (Nat × Nat)) (Y : Option (Con RU)) (l : List (FuncId × Con RU)) : Env RU := ⟨prog, codesOf codeL, consOf l, RG, fun _ _ => [], fun _ _ => [], yl, Y, fun _ => []⟩
theorem fitsY (yl Y) (l : List (FuncId × Con RU)) : (EVy yl Y l).Fits := fits_of (by kernel_rfl)

/-- What is known of a store and of a part of a rope in it. -/
def walkPre (l : List Node) (L : List (Int × Int)) (a from_ many add : Int) : Prop :=
  (l.length ≤ 4000 ∧ validOf l = true ∧ L = longOf l) ∧ (0 ≤ a ∧ a < l.length) ∧ isWord add = true ∧ 0 ≤ many ∧ (0 < many → 0 ≤ from_ ∧ from_ + many ≤ at_ (lensOf l) a)
/-- What is known of a piece. -/
def piecePre (l : List Node) (L : List (Int × Int)) (node from_ many add : Int) : Prop :=
  (l.length ≤ 4000 ∧ validOf l = true ∧ L = longOf l) ∧ (0 ≤ node ∧ node < l.length) ∧ isWord add = true ∧ 0 < many ∧ 0 ≤ from_ ∧ from_ + many ≤ (nat_ l node).words.length

noncomputable def cPieces : Con RU := ⟨[one, one, one, one, one], [nodes, mapI, i64, i64, i64, i64], [.ptr 0 0, .d 2, .d 3, .d 4, .d 5], stD 0 1, none, none, [one], [nodes, mapI, i64, i64, i64, i64], [.clo 78 [2, 3, 4, 5, 6]],
  [.box 69 [.d 0, .map 1], .map 1, .box 70 [.ptr 0 0], .box 3 [.d 2], .box 3 [.d 3], .box 3 [.d 4], .box 3 [.d 5]], fun p => p, [0, 1], [], []⟩

noncomputable def cFlatY : Con RU := ⟨[(true, 4), one], [i64, i64, i64, i64, ints, nodes, mapI, i64], [.d 0, .d 1, .d 2, .d 3, .yld 0],
  [.loop 7, .box 25 [.row 2], .row 4, .box 70 [.ptr 4 0], .box 69 [.d 5, .map 5], .map 6],
  some fun p => piecePre p.2.2.2.2.2.1 p.2.2.2.2.2.2.1 p.1 p.2.1 p.2.2.1 p.2.2.2.1 ∧ p.2.2.2.2.1.length + p.2.2.1 ≤ 1048576 ∧ p.2.2.2.2.2.2.2.1 = 0, none, [one], [.bool, ints, nodes, mapI, i64], [.d 0],
  [.loop 4, .box 25 [.row 2], .row 1, .box 70 [.ptr 4 0], .box 69 [.d 2, .map 5], .map 3],
  fun p => (true, p.2.2.2.2.1 ++ rwords p.2.2.2.2.2.1 p.1 p.2.1 p.2.2.1 p.2.2.2.1, p.2.2.2.2.2.1, p.2.2.2.2.2.2.1, p.2.2.2.2.2.2.2.1, ()), [3, 4, 5], [(0, 0), (4, 1), (6, 3), (2, 4), (3, 5)], [(1, 1000005), (3, 1000007)]⟩
abbrev flatMp : List (Nat × Nat) := [(0, 0), (1, 4), (2, 5), (3, 6), (4, 2), (5, 3)]
abbrev walkYl : List (Nat × Nat) := [(0, 0), (2, 2), (3, 3), (4, 4), (6, 6)]
abbrev walkTys : List Ty := [i64, i64, i64, i64, nodes, mapI, ints, i64]
abbrev recYl : List (Nat × Nat) := [(0, 4), (2, 2), (3, 3), (4, 5), (6, 7)]
noncomputable def cFlatW (gh : List (Nat × Nat)) : Con RU := ⟨[one, one, one, one, one, one, one], walkTys, [.d 0, .d 1, .d 2, .d 3, .ptr 0 0, .ptr 1 0, .ptr 8 0],
  [.box 70 [.ptr 2 0], .box 115 [.yld 4], .box 69 [.d 4, .map 3], .map 5, .loop 7, .box 25 [.row 6], .row 6, .box 70 [.ptr 2 0], .box 116 [.clo 79 [0, 1, 8]]],
  some fun p => walkPre p.2.2.2.2.1 p.2.2.2.2.2.1 p.1 p.2.1 p.2.2.1 p.2.2.2.1 ∧ p.2.2.2.2.2.2.1.length + p.2.2.1 ≤ 1048576 ∧ p.2.2.2.2.2.2.2.1 = 0, none, [one], [.bool, nodes, mapI, ints, i64], [.d 0],
  [.box 70 [.ptr 2 0], .box 115 [.yld 4], .box 69 [.d 1, .map 3], .map 2, .loop 4, .box 25 [.row 6], .row 3, .box 70 [.ptr 2 0], .box 116 [.clo 79 [0, 1, 8]]],
  fun p => (true, p.2.2.2.2.1, p.2.2.2.2.2.1, p.2.2.2.2.2.2.1 ++ walkW p.2.2.2.2.1 p.1 p.2.1 p.2.2.1 p.2.2.2.1, p.2.2.2.2.2.2.2.1, ()), [0, 1, 2, 3, 7, 8], recYl, gh⟩
noncomputable def cFlatK : Con RU := ⟨[one, one, one, one, one, one], walkTys, [.yld 0, .ptr 1 0, .ptr 7 0, .ptr 8 0, .ptr 9 0, .ptr 10 0],
  [.loop 7, .box 70 [.ptr 2 0], .box 69 [.d 4, .map 3], .map 5, .box 25 [.row 5], .row 6, .box 70 [.ptr 2 0], .box 3 [.d 0], .box 3 [.d 1], .box 3 [.d 2], .box 3 [.d 3]],
  some fun p => walkPre p.2.2.2.2.1 p.2.2.2.2.2.1 p.1 p.2.1 p.2.2.1 p.2.2.2.1 ∧ p.2.2.2.2.2.2.1.length + p.2.2.1 ≤ 1048576 ∧ p.2.2.2.2.2.2.2.1 = 0, none, [], [nodes, mapI, ints, i64], [],
  [.loop 3, .box 70 [.ptr 2 0], .box 69 [.d 0, .map 3], .map 1, .box 25 [.row 5], .row 2, .box 70 [.ptr 2 0], .box 3 [.un], .box 3 [.un], .box 3 [.un], .box 3 [.un]],
  fun p => (p.2.2.2.2.1, p.2.2.2.2.2.1, p.2.2.2.2.2.2.1 ++ walkW p.2.2.2.2.1 p.1 p.2.1 p.2.2.1 p.2.2.2.1, p.2.2.2.2.2.2.2.1, ()), [1, 2, 3, 6], walkYl, [(4, 448), (6, 384)]⟩
noncomputable def itFlat : FuncId → List (Con RU × Con RU × List (Nat × Nat)) := fun f => bif Nat.beq f 78 then [(cFlatK, cFlatY, flatMp)] else []
noncomputable def mFlatW : Dens RU.T walkTys → Nat := fun p => Int.toNat p.1
abbrev ghW : List (Nat × Nat) := [(5, 1000005), (7, 1000007)]
abbrev ghK : List (Nat × Nat) := [(5, 1000004), (7, 1000006)]

noncomputable def lFlat : Nat → St RU → Ann RU := fun n s => match n with
  | 0 => ⟨[], [.slot 44, .row 1000002], [i64, ints], fun p => 0 ≤ p.1 ∧ p.1 ≤ (s.intsAt 42).length ∧ p.2.1 = s.rowInts 1000002 ++ ((s.intsAt 42).take p.1.toNat).map fun n => word (w64 (n + s.boxInt 512 3)), fun p => (s.intsAt 42).length - p.1.toNat, []⟩
  | _ => ⟨[], [], [], fun _ => False, fun _ => 0, [(.box 448 0, 7, 3, i64)]⟩
end Go.Rp
end

section
set_option linter.unusedVariables false
set_option maxRecDepth 100000
namespace Go.Rp
open Go Go.VT

/-- The pieces of a part of a rope, with a number added. -/
def pcsOf (l : List Node) : Nat → Int → Int → Int → Int → List Piece
  | 0, _, _, _, _ => []
  | k + 1, a, f, m, d =>
    if m ≤ 0 then [] else if (nat_ l a).kind = 0 then [⟨a, f, m, d⟩]
    else if (nat_ l a).kind = 1 then
      pcsOf l k (nat_ l a).a f (max 0 (min m (at_ (lensOf l) (nat_ l a).a - f))) d ++ pcsOf l k (nat_ l a).b (f + max 0 (min m (at_ (lensOf l) (nat_ l a).a - f)) - at_ (lensOf l) (nat_ l a).a) (m - max 0 (min m (at_ (lensOf l) (nat_ l a).a - f))) d
    else if (nat_ l a).kind = 2 then pcsOf l k (nat_ l a).a ((nat_ l a).from_ + f) m d
    else pcsOf l k (nat_ l a).a f m (word (w64 (d + (nat_ l a).n)))
def pcsAt (l : List Node) (a f m d : Int) : List Piece := pcsOf l (a.toNat + 1) a f m d

/-- A node more, if it is asked for, and its number. -/
def putIf (c : Bool) (l : List Node) (L : List (Int × Int)) (rope : Int) (x : Node) (long : Int) : List Node × List (Int × Int) × Int := if c then (l ++ [x], putL l L long, (l.length : Int)) else (l, L, rope)
/-- A store, and ropes that are to be joined. -/
structure Evn where
  l : List Node
  L : List (Int × Int)
  r : List Int
def Evn.part (S : Evn) (p : Piece) : List Node × List (Int × Int) × Int := putIf (decide (p.len < lg S.L p.node)) S.l S.L p.node ⟨2, p.node, 0, p.from_, p.len, 0, []⟩ p.len
def Evn.off (S : Evn) (p : Piece) : List Node × List (Int × Int) × Int := putIf (p.n != 0) (S.part p).1 (S.part p).2.1 (S.part p).2.2 ⟨3, (S.part p).2.2, 0, 0, 0, p.n, []⟩ p.len
def Evn.step (S : Evn) (p : Piece) : Evn := ⟨(S.off p).1, (S.off p).2.1, S.r ++ [(S.off p).2.2]⟩
def Evn.full (S : Evn) : Bool := decide (4000 < S.l.length)
def Evn.many (S : Evn) : Bool := decide (4001 < S.r.length)
def Evn.run : List Piece → Evn → Evn
  | [], S => S
  | p :: r, S => if (S.step p).full || (S.step p).many then S.step p else Evn.run r (S.step p)

def openOk (l : List Node) (L : List (Int × Int)) : Prop := l.length ≤ 4000 ∧ validOf l = true ∧ L = longOf l
/-- What is known of a piece that becomes a rope. -/
def evnPre (l : List Node) (L : List (Int × Int)) (node from_ many add : Int) : Prop :=
  openOk l L ∧ (0 ≤ node ∧ node < l.length) ∧ (nat_ l node).kind = 0 ∧ isWord add = true ∧ 0 < many ∧ many ≤ 1048576 ∧ 0 ≤ from_ ∧ from_ + many ≤ at_ (lensOf l) node

noncomputable def cPiecesE : Con RU := ⟨[one, one, one, one, one], [nodes, mapI, i64, i64, i64, i64], [.ptr 0 0, .d 2, .d 3, .d 4, .d 5], stR 0 1, none, none, [one], [nodes, mapI, i64, i64, i64, i64], [.clo 78 [3, 4, 5, 6, 7]],
  [.box 69 [.row 2, .map 1], .map 1, .row 0, .box 70 [.ptr 0 0], .box 3 [.d 2], .box 3 [.d 3], .box 3 [.d 4], .box 3 [.d 5]], fun p => p, [1], [], []⟩

abbrev evnY (p : Dens RU.T [i64, i64, i64, i64, ints, nodes, mapI, i64]) : Evn := Evn.step ⟨p.2.2.2.2.2.1, p.2.2.2.2.2.2.1, p.2.2.2.2.1⟩ ⟨p.1, p.2.1, p.2.2.1, p.2.2.2.1⟩
noncomputable def cEvenY : Con RU := ⟨[(true, 4), one], [i64, i64, i64, i64, ints, nodes, mapI, i64], [.d 0, .d 1, .d 2, .d 3, .yld 0],
  [.loop 7, .box 25 [.row 2], .row 4, .box 70 [.ptr 4 0], .box 69 [.row 6, .map 5], .map 6, .row 5],
  some fun p => evnPre p.2.2.2.2.2.1 p.2.2.2.2.2.2.1 p.1 p.2.1 p.2.2.1 p.2.2.2.1 ∧ p.2.2.2.2.1.length ≤ 4001 ∧ p.2.2.2.2.2.2.2.1 = 0, some fun p => ((evnY p).full, wrong 9), [one], [.bool, ints, nodes, mapI, i64], [.d 0],
  [.loop 4, .box 25 [.row 2], .row 1, .box 70 [.ptr 4 0], .box 69 [.row 6, .map 5], .map 3, .row 2],
  fun p => (!(evnY p).many, (evnY p).r, (evnY p).l, (evnY p).L, (if (evnY p).many then 1 else 0), ()), [3], [(0, 0), (4, 1), (6, 3), (2, 4), (3, 5)], [(1, 1000005), (3, 1000007)]⟩

abbrev evnW (p : Dens RU.T walkTys) : Evn := Evn.run (pcsAt p.2.2.2.2.1 p.1 p.2.1 p.2.2.1 p.2.2.2.1) ⟨p.2.2.2.2.1, p.2.2.2.2.2.1, p.2.2.2.2.2.2.1⟩
noncomputable abbrev evnPreW (p : Dens RU.T walkTys) : Prop := walkPre p.2.2.2.2.1 p.2.2.2.2.2.1 p.1 p.2.1 p.2.2.1 p.2.2.2.1 ∧ p.2.2.2.2.2.2.1.length ≤ 4001 ∧ p.2.2.2.2.2.2.2.1 = 0
noncomputable def cEvenW (gh : List (Nat × Nat)) : Con RU := ⟨[one, one, one, one, one, one, one], walkTys, [.d 0, .d 1, .d 2, .d 3, .ptr 0 0, .ptr 1 0, .ptr 8 0],
  [.box 70 [.ptr 2 0], .box 115 [.yld 4], .box 69 [.row 9, .map 3], .map 5, .loop 7, .box 25 [.row 6], .row 6, .box 70 [.ptr 2 0], .box 116 [.clo 79 [0, 1, 8]], .row 4],
  some fun p => evnPreW p, some fun p => ((evnW p).full, wrong 9), [one], [.bool, nodes, mapI, ints, i64], [.d 0],
  [.box 70 [.ptr 2 0], .box 115 [.yld 4], .box 69 [.row 9, .map 3], .map 2, .loop 4, .box 25 [.row 6], .row 3, .box 70 [.ptr 2 0], .box 116 [.clo 79 [0, 1, 8]], .row 1],
  fun p => (!(evnW p).many, (evnW p).l, (evnW p).L, (evnW p).r, (if (evnW p).many then 1 else 0), ()), [0, 1, 7, 8], recYl, gh⟩
noncomputable def cEvenK : Con RU := ⟨[one, one, one, one, one, one], walkTys, [.yld 0, .ptr 1 0, .ptr 7 0, .ptr 8 0, .ptr 9 0, .ptr 10 0],
  [.loop 7, .box 70 [.ptr 2 0], .box 69 [.row 11, .map 3], .map 5, .box 25 [.row 5], .row 6, .box 70 [.ptr 2 0], .box 3 [.d 0], .box 3 [.d 1], .box 3 [.d 2], .box 3 [.d 3], .row 4],
  some fun p => evnPreW p, some fun p => ((evnW p).full, wrong 9), [], [nodes, mapI, ints, i64], [],
  [.loop 3, .box 70 [.ptr 2 0], .box 69 [.row 11, .map 3], .map 1, .box 25 [.row 5], .row 2, .box 70 [.ptr 2 0], .box 3 [.un], .box 3 [.un], .box 3 [.un], .box 3 [.un], .row 0],
  fun p => ((evnW p).l, (evnW p).L, (evnW p).r, (if (evnW p).many then 1 else 0), ()), [1, 6], walkYl, [(4, 512), (6, 448)]⟩
abbrev evenMp : List (Nat × Nat) := [(0, 0), (1, 4), (2, 5), (3, 6), (4, 2), (5, 3), (6, 11)]
noncomputable def itEven : FuncId → List (Con RU × Con RU × List (Nat × Nat)) := fun f => bif Nat.beq f 78 then [(cEvenK, cEvenY, evenMp)] else []

def joinOf : Nat → List Node → List (Int × Int) → List Int → List Node × List (Int × Int) × Int
  | 0, l, L, _ => (l, L, 0)
  | k + 1, l, L, r =>
    if r.length = 1 then (l, L, at_ r 0) else
    match joinOf k l L (r.take (r.length / 2)) with
    | (l1, L1, a) => match joinOf k l1 L1 (r.drop (r.length / 2)) with
      | (l2, L2, b) => (l2 ++ [⟨1, a, b, 0, 0, 0, []⟩], putL l2 L2 (w64 (lg L2 a + lg L2 b)), (l2.length : Int))
def joinAt (l : List Node) (L : List (Int × Int)) (r : List Int) : List Node × List (Int × Int) × Int := joinOf r.length l L r
/-- The words of some ropes together. -/
def sumL (L : List (Int × Int)) (r : List Int) : Int := (r.map fun a => lg L a).sum
def joinPre (l : List Node) (L : List (Int × Int)) (r : List Int) : Prop := openOk l L ∧ 1 ≤ r.length ∧ r.length ≤ 4001 ∧ (∀ a ∈ r, 0 ≤ a ∧ a < l.length) ∧ sumL L r ≤ 1048576
def joinBad (l : List Node) (r : List Int) : Bool := decide (4001 < l.length + r.length)
noncomputable def cJoin : Con RU := ⟨[one, one, one], [ints, nodes, mapI], [.d 0, .ptr 0 0, .ptr 1 0], [.box 90 [.clo 61 [0, 1]], .box 70 [.ptr 2 0], .box 69 [.row 4, .map 3], .map 2, .row 1],
  some fun p => joinPre p.2.1 p.2.2.1 p.1, some fun p => (joinBad p.2.1 p.1, wrong 9), [one], [i64, nodes, mapI], [.d 0], [.box 90 [.clo 61 [0, 1]], .box 70 [.ptr 2 0], .box 69 [.row 4, .map 3], .map 2, .row 1],
  fun p => ((joinAt p.2.1 p.2.2.1 p.1).2.2, (joinAt p.2.1 p.2.2.1 p.1).1, (joinAt p.2.1 p.2.2.1 p.1).2.1, ()), [0, 1], [], []⟩
noncomputable def mJoin : Dens RU.T cJoin.params → Nat := fun p => p.1.length

/-- A store with a rope that is balanced. -/
def evenEnd (l : List Node) (L : List (Int × Int)) (r : List Int) : List Node × Int × Int :=
  if r.length = 0 then (if putBad l 0 then ([], 0, 9) else (l ++ [node0], (l.length : Int), 0)) else if joinBad l r then ([], 0, 9) else ((joinAt l L r).1, (joinAt l L r).2.2, 0)
def evenRun (l : List Node) (a : Int) : Evn := Evn.run (pcsAt l a 0 (at_ (lensOf l) a) 0) ⟨l, longOf l, []⟩
def evenAt (l : List Node) (a : Int) : List Node × Int × Int :=
  if askedOf l [a] ≠ 0 then ([], 0, askedOf l [a]) else if (evenRun l a).full || (evenRun l a).many then ([], 0, 9) else evenEnd (evenRun l a).l (evenRun l a).L (evenRun l a).r
noncomputable def cEvenP : Con RU := conS [(true, 1), one] [nodes, i64] (fun _ => True) fun p => evenAt p.1 p.2.1
noncomputable def lEven : Nat → St RU → Ann RU := fun _ _ => ⟨[], [], [], fun _ => False, fun _ => 0, [(.box 512 0, 7, 3, i64)]⟩
end Go.Rp
end

section
set_option linter.unusedVariables false
set_option linter.unusedSimpArgs false
set_option maxRecDepth 100000
open Go Go.VT
namespace Go.Rp

theorem grow_calls (n : Int) (h0 : 0 ≤ n) (hb : n ≤ 17592186044416) (w : World) : CallsIn (fen prog none) 0 prog 83 #[.slice none 0 0, .int .i64 n] w fun e w' =>
    (n = 0 ∧ e = .returned (.slice none 0 0) ∧ w' = w) ∨ (0 < n ∧ e = .returned (.slice (some ⟨w.heap.size, 0, none⟩) 0 (grownCap w n.toNat 0 3)) ∧ w' = w.drew.alloc (.cells (Builtin.zeroCells (#[.int .i64 0]) n.toNat ++ Builtin.zeroCells (#[.int .i64 0]) (grownCap w n.toNat 0 3 - n.toNat)) 3)) := by
  refine callsIn_of_wp_marks (P := prog) Go.Proofs.Tryd.func83 rfl (by show (prog.funcs[83]?).isSome = true; kernel_rfl) ?_
  have hneg : ¬ n < 0 := by omega
  apply wpIn_seq
  apply wpIn_region
  simp [wpOpsIn, go_sem, Exit.then, fen_round, Go.Proofs.Tryd.ntmps83]
  apply wpIn_seq
  apply wpIn_seq
  apply wpIn_region
  simp [wpOpsIn, go_sem, Exit.then, fen_round, hneg]
  apply wpIn_cond_false (by simp [Act.eval, Array.replicate])
  apply wpIn_skip
  simp only [Exit.then]
  have hu25 : prog.underlying 25 = some (.slice 3) := by kernel_rfl
  have hu3 : prog.underlying 3 = some (.int .i64) := by kernel_rfl
  have hwr : IntKind.i64.wrap n = n := by rw [IntKind.wrap_i64]; omega
  apply wpIn_seq
  apply wpIn_seq
  apply wpIn_region
  simp [wpOpsIn, go_sem, Exit.then, fen_round, hwr]
  apply wpIn_seq
  apply wpIn_region
  simp [wpOpsIn, go_sem, Exit.then, fen_round]
  have hw0 : IntKind.i64.wrap 0 = 0 := by decide
  by_cases hn : 0 < n
  · apply wpIn_cond_true (by simp [Act.eval, Array.replicate, hn, hw0, hwr])
    obtain ⟨m, rfl⟩ : ∃ m : Nat, n = (m : Int) := ⟨n.toNat, by omega⟩
    have hb8 : Go.Proofs.Tryd.t3.bytes = 8 := by kernel_rfl
    have hm0 : ¬ m = 0 := by omega
    have hm0' : (m : Int) ≠ 0 := by omega
    have h63 : ¬ (9223372036854775807 < (m : Int)) := by omega
    have h48 : ¬ (281474976710656 < Builtin.nextslicecap m 0 * Go.Proofs.Tryd.t3.bytes) := by rw [nextslicecap_zero (by omega), hb8]; omega
    have hmb : ¬ (281474976710656 < (m : Int) * (Go.Proofs.Tryd.t3.bytes : Int)) := by rw [hb8]; omega
    have hnn : ¬ ((m : Int) < 0) := by omega
    have h48' : ¬ (281474976710656 < Builtin.nextslicecap m 0 * 8) := by rw [hb8] at h48; exact h48
    have hmb2 : ¬ (281474976710656 < (m : Int) * 8) := by omega
    apply wpIn_region
    simp [wpOpsIn, go_sem, Exit.then, fen_round, hw0, hwr, hm0, hm0', h63, h48, hmb, hb8, hmb2, hnn, h48']
    apply wpIn_seq
    apply wpIn_region
    simp [wpOpsIn, go_sem, Exit.then, fen_round]
    apply wpIn_ret
    simp [bodyPostM, results, Go.Proofs.Tryd.results83, go_sem, Array.replicate, LeavesInM, LeavesIn]
    exact ⟨by omega, rfl, rfl⟩
  · have hn0 : n = 0 := by omega
    subst hn0
    apply wpIn_cond_false (by simp [Act.eval, Array.replicate, hw0])
    apply wpIn_skip
    simp only [Exit.then]
    apply wpIn_seq
    apply wpIn_region
    simp [wpOpsIn, go_sem, Exit.then, fen_round]
    apply wpIn_ret
    simp [bodyPostM, results, Go.Proofs.Tryd.results83, go_sem, Array.replicate, LeavesInM, LeavesIn]

/-- slices.Grow(nil, n). -/
noncomputable def cGrow : Con RU := ⟨[one, one], [i64], [.nil, .d 0], [], some fun p => 0 ≤ p.1 ∧ p.1 ≤ 17592186044416, none, [one], [ints], [.row 0], [.row 0], fun p => ([], ()), [], [], []⟩

theorem grow_gives : Gives prog RG 83 cGrow := by
  intro Y
  refine ⟨⟨_, Go.Proofs.Tryd.func83, by kernel_rfl, by kernel_rfl⟩, fun xs hp F hY β w us vs hw hG K hnm hnm2 hc hpack => ?_⟩
  obtain ⟨(n : Int), xs0⟩ := xs
  have hn : (0 : Int) ≤ n ∧ n ≤ (17592186044416 : Int) := hp
  obtain ⟨c0, r0, vs0, e1, _, e2, c1, r1, vs1, e3, _, e4, e5, e6⟩ := hpack
  subst e1; subst e2; subst e3; subst e4; subst e5; subst e6
  have h0 : c0 = .slice none 0 0 := hc.2.2 0 _ _ rfl rfl
  have h1 : Rep RU w (Live β (canon (toList RU cGrow.params (n, xs0)) cGrow.oin)) (⟨i64, n⟩ : Datum RU) c1 := hc.2.2 1 _ _ rfl rfl
  have h1 : c1 = .int .i64 n := by cases h1; rfl
  subst h0; subst h1
  refine runF_mono _ _ _ _ (grow_calls n hn.1 hn.2 w) (fun e w' he => ?_)
  have hBw : F.B ≤ w.heap.size := K.hB
  rcases he with ⟨_, rfl, rfl⟩ | ⟨hpos, rfl, rfl⟩
  · have A := new_nil K (id := oid 0) rfl 3 i64
    refine ⟨fun b hb => (by cases hb), _, [.slice none 0 0], A.toOk, ⟨_, _, _, rfl, rfl, rfl, rfl, rfl⟩, ?_⟩
    exact CsRel.one rfl ⟨3, i64, [], 0, true, rfl, Nat.le_refl _, fun _ => (upd1_same _ _ _).symm⟩
  · have hm : grownCap w n.toNat 0 3 ≤ maxLen := grownCap_le_maxLen w _ 0 3 (by simp only [maxLen]; omega)
    have hge := grownCap_ge w n.toNat 0 3
    have A := new_after K (w' := w.drew.alloc (.cells (Builtin.zeroCells (#[.int .i64 0]) n.toNat ++ Builtin.zeroCells (#[.int .i64 0]) (grownCap w n.toNat 0 3 - n.toNat)) 3)) (id := oid 0) (ob := .row 3 i64 [] 0 true)
      (v := .slice (some ⟨w.heap.size, 0, none⟩) 0 (grownCap w n.toNat 0 3)) ((Go.RowKit.Below.refl _ _).drew.alloc (Nat.le_refl _) _) rfl (.inl rfl) (fun g hg => by simp [blkOf] at hg; omega)
      (fun x => ⟨[], by
        rw [upd1_same]
        exact World.ownsRow_made (w.drew) _ _ hBw hm (by simp [size_zeroCells]; show _ = grownCap w n.toNat 0 3 * 1; omega), by simp [most], by simp, fun i y hy => by simp at hy⟩)
    refine ⟨fun b hb => (by cases hb), _, [.slice (some ⟨w.heap.size, 0, none⟩) 0 (grownCap w n.toNat 0 3)], A.toOk, ⟨_, _, _, rfl, rfl, rfl, rfl, rfl⟩, ?_⟩
    exact CsRel.one rfl ⟨3, i64, [], 0, true, rfl, Nat.le_refl _, fun _ => (upd1_same _ _ _).symm⟩
end Go.Rp
end

section
set_option linter.unusedVariables false
set_option maxRecDepth 100000
open Go Go.VT
namespace Go.Rp

abbrev intss : Ty := .slice 25 ints
noncomputable def cConcat : Con RU := con [one] [intss] [one] [ints] [true] (some fun p => p.1.flatten.length ≤ 17592186044416) fun p => (p.1.flatten, ())
noncomputable def cUnited : Con RU := con [one] [intss] [one] [ints] [false] (some fun p => p.1.flatten.length ≤ 17592186044416) fun p => (p.1.flatten, ())
noncomputable def lConcat (l : List (List Int)) : Nat → St RU → Ann RU := fun n _ => match n with
  | 0 => ⟨[], [.slot 11, .slot 3], [i64, i64], fun p => 0 ≤ p.1 ∧ p.1 ≤ l.length ∧ p.2.1 = ((l.take p.1.toNat).flatten.length : Nat), fun p => l.length - p.1.toNat, []⟩
  | _ => ⟨[6], [.slot 27, .row 1536], [i64, ints], fun p => 0 ≤ p.1 ∧ p.1 ≤ l.length ∧ p.2.1 = (l.take p.1.toNat).flatten, fun p => l.length - p.1.toNat, []⟩
end Go.Rp
end

section
set_option linter.unusedVariables false
set_option maxRecDepth 100000
namespace Go.Rp
open Go Go.VT

def partsL (x : Node) : List Int := partsN (needOf x)
def markAll (m : List Bool) (ks : List Int) : List Bool := ks.foldl (fun m k => m.set k.toNat true) m
def markDown (l : List Node) : Nat → List Bool → List Bool
  | 0, m => m
  | i + 1, m => markDown l i (if m.getD i false then markAll m (partsL (l.getD i node0)) else m)
/-- Which nodes ropes need. -/
def needs (l : List Node) (r : List Int) : List Bool := markDown l l.length (markAll (List.replicate l.length false) r)
def renum (num : List Int) (x : Node) : Node := ⟨x.kind, if x.kind = 0 then x.a else at_ num x.a, if x.kind = 1 then at_ num x.b else x.b, x.from_, x.len, x.n, x.words⟩
/-- The nodes that are kept, of the first ones, and the numbers that they get. -/
def keepGo (m : List Bool) (l : List Node) : Nat → List Node × List Int
  | 0 => ([], [])
  | i + 1 => if m.getD i false then ((keepGo m l i).1 ++ [renum (keepGo m l i).2 (l.getD i node0)], (keepGo m l i).2 ++ [((keepGo m l i).1.length : Int)]) else ((keepGo m l i).1, (keepGo m l i).2 ++ [0])
def keptOf (l : List Node) (r : List Int) : List Node × List Int := keepGo (needs l r) l l.length
def keepAt (l : List Node) (r : List Int) : List Node × List Int × Int :=
  if askedOf l r ≠ 0 then ([], [], askedOf l r) else ((keptOf l r).1, r.map (at_ (keptOf l r).2), 0)

/-- The nodes that some ropes need. -/
inductive Reach (l : List Node) (r : List Int) : Int → Prop
  | root (a : Int) (h : a ∈ r) : Reach l r a
  | step (a k : Int) (h : Reach l r a) (hk : k ∈ partsL (nat_ l a)) : Reach l r k

def hasK (K : List (Int × Int)) (k : Int) : Prop := (mget (fun x y => x == y) K k).isSome = true
structure wkInv (l : List Node) (r todo : List Int) (K : List (Int × Int)) : Prop where
  todos : ∀ k ∈ todo, Reach l r k
  keys : (K.map (·.1)).Nodup
  reach : ∀ k, hasK K k → Reach l r k
  root : ∀ a ∈ r, a ∈ todo ∨ hasK K a
  parts : ∀ k, hasK K k → ∀ j ∈ partsL (nat_ l k), j ∈ todo ∨ hasK K j
  many : todo.length ≤ r.length + K.length
structure cpInv (l : List Node) (r : List Int) (i : Nat) (K : List (Int × Int)) : Prop where
  keys : ∀ k : Int, hasK K k ↔ Reach l r k
  num : ∀ k : Int, k < i → Reach l r k → lg K k = at_ (keepGo (needs l r) l i).2 k

noncomputable def cKeepP : Con RU := con [(true, 1), one] [nodes, ints] [(true, 1), one, one] [nodes, ints, i64] [false, false, false] (some fun p => p.2.1.length + p.1.length ≤ 17592186044416)
  fun p => ((keepAt p.1 p.2.1).1, (keepAt p.1 p.2.1).2.1, (keepAt p.1 p.2.1).2.2, ())
noncomputable def lKeep (l : List Node) (r : List Int) : Nat → St RU → Ann RU := fun n s => match n with
  | 0 => ⟨[], [.slot 9, .row 1600], [ints, mapI], fun p => wkInv l r p.1 p.2.1, fun p => 3 * (l.length - p.2.1.length) + p.1.length, []⟩
  | 1 => ⟨[], [.slot 65, .row 1600, .row 7], [i64, mapI, nodes], fun p => 0 ≤ p.1 ∧ p.1 ≤ l.length ∧ cpInv l r p.1.toNat p.2.1 ∧ p.2.2.1 = (keepGo (needs l r) l p.1.toNat).1, fun p => l.length - p.1.toNat, [(.box 832 0, 7, 56, .user 0)]⟩
  | _ => ⟨[5], [.slot 108, .row 8], [i64, ints], fun p => 0 ≤ p.1 ∧ p.1 ≤ r.length ∧ p.2.1 = (r.take p.1.toNat).map (at_ (keptOf l r).2), fun p => r.length - p.1.toNat, [(.slot 5, 8, 3, i64)]⟩
end Go.Rp
end

section
set_option linter.unusedVariables false
set_option maxRecDepth 100000
namespace Go.Rp
open Go Go.VT

def storeL : List Node := [⟨0, 0, 0, 0, 0, 0, [5, 6, 7]⟩, ⟨0, 0, 0, 0, 0, 0, [8]⟩, ⟨1, 0, 1, 0, 0, 0, []⟩, ⟨2, 2, 0, 1, 3, 0, []⟩, ⟨3, 3, 0, 0, 0, 10, []⟩, ⟨1, 4, 2, 0, 0, 0, []⟩]
noncomputable def cStore : Con RU := con [] [] [(true, 1)] [nodes] [false] none fun _ => (storeL, ())
noncomputable def cRoped : Con RU := con [] [] [one] [.bool] [false] none fun _ => (true, ())
noncomputable def cTells : Con RU := con [(true, 1), one, one, one] [nodes, i64, ints, i64] [one] [.bool] [false] none fun _ => (true, ())
noncomputable def cMakes : Con RU := con [(true, 1), one, (true, 4)] [nodes, ints, i64, i64, i64, i64] [one] [.bool] [false] none fun _ => (true, ())
abbrev bools : Ty := .slice 4 .bool
noncomputable def cKeepR : Con RU := con [(true, 1), one] [nodes, ints] [(true, 1), one, one] [nodes, ints, i64] [false, false, false] (some fun p => p.2.1.length + p.1.length ≤ 17592186044416)
  fun p => ((keepAt p.1 p.2.1).1, (keepAt p.1 p.2.1).2.1, (keepAt p.1 p.2.1).2.2, ())
noncomputable def lKeepR (l : List Node) (r : List Int) : Nat → St RU → Ann RU := fun n s => match n with
  | 0 => ⟨[], [.slot 9, .row 1792], [i64, bools], fun p => 0 ≤ p.1 ∧ p.1 ≤ r.length ∧ p.2.1 = markAll (List.replicate l.length false) (r.take p.1.toNat), fun p => r.length - p.1.toNat, []⟩
  | 1 => ⟨[], [.slot 10, .row 1792], [i64, bools], fun p => -1 ≤ p.1 ∧ p.1 < l.length ∧ p.2.1.length = l.length ∧ markDown l (p.1 + 1).toNat p.2.1 = needs l r, fun p => (p.1 + 1).toNat, []⟩
  | 2 => ⟨[], [.slot 14, .row 5376, .row 7], [i64, ints, nodes], fun p => 0 ≤ p.1 ∧ p.1 ≤ l.length ∧ p.2.1 = (keepGo (needs l r) l p.1.toNat).2 ++ List.replicate (l.length - p.1.toNat) 0 ∧ p.2.2.1 = (keepGo (needs l r) l p.1.toNat).1, fun p => l.length - p.1.toNat, [(.box 768 0, 7, 56, .user 0)]⟩
  | _ => ⟨[16], [.slot 17, .row 8512], [i64, ints], fun p => 0 ≤ p.1 ∧ p.1 ≤ r.length ∧ p.2.1 = (r.take p.1.toNat).map (at_ (keptOf l r).2), fun p => r.length - p.1.toNat, []⟩
noncomputable def cKeeps : Con RU := con [(true, 1), one, one] [nodes, i64, ints] [one] [.bool] [false] (some fun p => p.2.2.1.length ≤ 17592186044000) fun _ => (true, ())
end Go.Rp
end

section
set_option linter.unusedVariables false
set_option maxRecDepth 100000
open Go Go.VT
namespace Go.Rp

theorem store_eq : vc (EV []) noL Go.Proofs.Tryd.f46 cStore () = (([Node.mk (0 : Int) (0 : Int) (0 : Int) (0 : Int) (0 : Int) (0 : Int) [(5 : Int), (6 : Int), (7 : Int)], Node.mk (0 : Int) (0 : Int) (0 : Int) (0 : Int) (0 : Int) (0 : Int) [(8 : Int)],
      Node.mk (1 : Int) (0 : Int) (1 : Int) (0 : Int) (0 : Int) (0 : Int) [], Node.mk (2 : Int) (2 : Int) (0 : Int) (1 : Int) (3 : Int) (0 : Int) [],
      Node.mk (3 : Int) (3 : Int) (0 : Int) (0 : Int) (0 : Int) (10 : Int) [], Node.mk (1 : Int) (4 : Int) (2 : Int) (0 : Int) (0 : Int) (0 : Int) []],
    ()) =
  (storeL, ())) := by kernel_rfl

theorem roped_eq : vc (EV [(46, cStore), (17, cFlatR), (19, cGatherR), (21, cCostR), (15, cDepthR), (13, cLenR), (24, cEvenP), (26, cKeepP), (37, cOffR), (23, cEqual), (33, cCheck)]) noL Go.Proofs.Tryd.f12 cRoped () = (let e4 : List Int := [] ++ [(↑(7 : Nat) : Int)] ++ [(↑(8 : Nat) : Int)];
  let e3 : Bool := (0 : Int) != (0 : Int) || (0 : Int) != (0 : Int) || (0 : Int) != (0 : Int);
  let e2 : Bool :=
  (3 : Int) == (3 : Int) && (↑(6 : Nat) : Int) == (6 : Int) && word (w64 ((0 : Int) + (10 : Int))) == (10 : Int) && (1 : Int) == (1 : Int) && at_ (List.take (1 : Nat) e4) (0 : Int) == (7 : Int) &&
    at_ (List.drop (1 : Nat) e4) (0 : Int) == (8 : Int);
  let e1 : Bool :=
  e3 || (↑(9 : Nat) : Int) != (9 : Int) || (↑(6 : Nat) : Int) != (6 : Int) || (↑(10 : Nat) : Int) != (10 : Int) || (↑(4 : Nat) : Int) != (4 : Int) || (↑(7 : Nat) : Int) != (7 : Int) ||
    !decide
        (List.map (at_ ([] ++ [(↑(0 : Nat) : Int)] ++ [(↑(1 : Nat) : Int)] ++ [(↑(2 : Nat) : Int)] ++ [(↑(3 : Nat) : Int)] ++ [(0 : Int)] ++ [(0 : Int)])) [(3 : Int), (1 : Int)] =
          [(3 : Int), (1 : Int)]);
  let e0 : Bool :=
  e3 || (0 : Int) != (0 : Int) || (0 : Int) != (0 : Int) ||
            !decide (List.map (fun (p : Nat) => (wayAt storeL (5 : Int) (↑p : Int)).snd) (List.range (7 : Nat)) = [(16 : Int), (17 : Int), (18 : Int), (5 : Int), (6 : Int), (7 : Int), (8 : Int)]) ||
          !decide (List.map (fun (p : Int) => (wayAt storeL (5 : Int) p).snd) [(0 : Int), (6 : Int), (2 : Int)] = [(16 : Int), (8 : Int), (18 : Int)]) ||
        w64 (w64 (w64 (w64 ((1 : Int) + (1 : Int)) + (1 : Int)) + (1 : Int)) + (1 : Int)) != (5 : Int) ||
      at_ (depthsOf storeL) (5 : Int) != (5 : Int) ||
    at_ (lensOf storeL) (5 : Int) != (7 : Int);
  (e0 = true → (false, ()) = (true, ())) ∧
  (e0 = false →
    True ∧
      (8 : Nat) ≤ (17592186044416 : Nat) ∧
        True ∧
          (e1 = true → (false, ()) = (true, ())) ∧
            (e1 = false →
              ((0 : Int) ≤ (7 : Int) ∧ (7 : Int) < (↑(10 : Nat) : Int)) ∧
                ((0 : Int) ≤ (9 : Int) ∧ (9 : Int) < (↑(10 : Nat) : Int)) ∧
                  (e2 = true → (0 : Int) ≤ (6 : Int) ∧ (6 : Int) < (↑(7 : Nat) : Int)) ∧ (e2 && (-5 : Int) == (-5 : Int) && checkOf storeL == (0 : Int), ()) = (true, ())))) := by kernel_rfl

theorem tells_eq (l : List Node) (a : Int) (ps : List Int) (p : Int) : vc (EV [(11, cGreat), (12, cRoped), (13, cLenR), (14, cLenR), (15, cDepthR), (16, cDepthR), (17, cFlatR), (18, cFlatR), (19, cGatherR), (20, cGatherR), (21, cCostR), (22, cCostR), (23, cEqual)]) noL Go.Proofs.Tryd.f3 cTells (l, a, ps, p, ()) = (let e5 : Int := (costAt l a p).fst;
  let e4 : Int := (costAt l a p).snd;
  let e3 : List Int := (gatherAt l a ps).fst;
  let e2 : Int := (gatherAt l a ps).snd;
  let e1 : Bool := greatOf l || decide ((↑(List.length ps) : Int) > (400 : Int));
  let e0 : Bool := (lenAt l a).fst != (lenAt l a).fst || (lenAt l a).snd != (lenAt l a).snd || (depthAt l a).fst != (depthAt l a).fst || (depthAt l a).snd != (depthAt l a).snd;
  Small RU (Sigma.mk (Ty.slice (56 : Nat) (Ty.user (0 : Nat))) l) →
  Small RU (Sigma.mk (Ty.slice (3 : Nat) (Ty.int IntKind.i64)) ps) →
    (e1 = true → (true, ()) = (true, ())) ∧
      (e1 = false →
        (e0 = true → (false, ()) = (true, ())) ∧
          (e0 = false → (decide ((flatAt l a).fst = (flatAt l a).fst) && (flatAt l a).snd == (flatAt l a).snd && decide (e3 = e3) && e2 == e2 && e5 == e5 && e4 == e4 && true, ()) = (true, ())))) := by kernel_rfl

end Go.Rp
end

section
set_option linter.unusedVariables false
set_option maxRecDepth 100000
open Go Go.VT
namespace Go.Rp

theorem out_eq (n : Int) (l : List Node) (L : List (Int × Int)) (a : Int) : vc (EV [(56, cHas)]) noL Go.Proofs.Tryd.f55 cOut (n, l, L, a, ()) = (Small RU (Sigma.mk (Ty.slice (56 : Nat) (Ty.user (0 : Nat))) l) →
  (!(decide ((0 : Int) ≤ n) && decide (n < Option.getD (mget (fun (x y : Int) => x == y) L a) (0 : Int))), l, L, a, ()) = (outB L a n, l, L, a, ())) := by kernel_rfl

theorem idxO_eq (r : List Int) (l : List Node) (L : List (Int × Int)) (a : Int) : vc (EV [(55, cOut)]) (lIdxO (outB L a) r) Go.Proofs.Tryd.f80 cIdxO (r, l, L, a, ()) = (Small RU (Sigma.mk (Ty.slice (3 : Nat) (Ty.int IntKind.i64)) r) →
  Small RU (Sigma.mk (Ty.slice (56 : Nat) (Ty.user (0 : Nat))) l) →
    (∃ (p : Int × Unit),
        r = r ∧
          (↑(List.length r) : Int) = (↑(List.length r) : Int) ∧
            (0 : Int) = p.fst ∧ a = a ∧ l = l ∧ L = L ∧ (0 : Int) ≤ p.fst ∧ p.fst ≤ (↑(List.length r) : Int) ∧ (List.all (List.take (Int.toNat p.fst) r) fun (n : Int) => !outB L a n) = true) ∧
      ∀ (p : Int × Unit),
        let e2 : Bool := decide (p.fst < (↑(List.length r) : Int));
        let e1 : Bool := outB L a (List.getD r (Int.toNat p.fst) (0 : Int));
        let e0 : Int × List Node × List (Int × Int) × Int × Unit := (firstAt (outB L a) r (0 : Int), l, L, a, ());
        (0 : Int) ≤ p.fst ∧ p.fst ≤ (↑(List.length r) : Int) ∧ (List.all (List.take (Int.toNat p.fst) r) fun (n : Int) => !outB L a n) = true →
          (e2 = true →
              ((0 : Int) ≤ p.fst ∧ p.fst < (↑(List.length r) : Int)) ∧
                (((True ∧ a = a ∧ True) ∧ l = l ∧ True) ∧ L = L ∧ True) ∧
                  (e1 = true → (p.fst, l, L, a, ()) = e0) ∧
                    (e1 = false →
                      ∃ (p' : Int × Unit),
                        r = r ∧
                          (↑(List.length r) : Int) = (↑(List.length r) : Int) ∧
                            IntKind.wrap IntKind.i64 (p.fst + (1 : Int)) = p'.fst ∧
                              a = a ∧
                                l = l ∧
                                  L = L ∧
                                    ((0 : Int) ≤ p'.fst ∧ p'.fst ≤ (↑(List.length r) : Int) ∧ (List.all (List.take (Int.toNat p'.fst) r) fun (n : Int) => !outB L a n) = true) ∧
                                      List.length r - Int.toNat p'.fst < List.length r - Int.toNat p.fst)) ∧
            (e2 = false → ((-1 : Int), l, L, a, ()) = e0)) := by kernel_rfl

theorem anyO_eq (r : List Int) (l : List Node) (L : List (Int × Int)) (a : Int) : vc (EV [(80, cIdxO)]) noL Go.Proofs.Tryd.f54 cAnyO (r, l, L, a, ()) = (Small RU (Sigma.mk (Ty.slice (3 : Nat) (Ty.int IntKind.i64)) r) →
  Small RU (Sigma.mk (Ty.slice (56 : Nat) (Ty.user (0 : Nat))) l) →
    (((True ∧ a = a ∧ True) ∧ l = l ∧ True) ∧ L = L ∧ True) ∧ (decide (firstAt (outB L a) r (0 : Int) ≥ (0 : Int)), l, L, a, ()) = (List.any r (outB L a), l, L, a, ())) := by kernel_rfl

theorem gatherP_eq (l : List Node) (a : Int) (r : List Int) : vcD (EV [(49, cOpen), (53, cMust), (54, cAnyO), (57, cAt)]) cC (lGatherP l a r) Go.Proofs.Tryd.f19 cGatherR (l, a, r, ()) = (let e3 : Bool := askedOf l [a] != (0 : Int);
  let e2 : Bool := !!List.any r (outB (longOf l) a);
  let e1 : Bool := !decide ((↑(List.length r) : Int) ≤ (1048576 : Int));
  let e0 : List Int × Int × Unit := ((gatherAt l a r).fst, (gatherAt l a r).snd, ());
  Small RU (Sigma.mk (Ty.slice (56 : Nat) (Ty.user (0 : Nat))) l) →
  Small RU (Sigma.mk (Ty.slice (3 : Nat) (Ty.int IntKind.i64)) r) →
    (e3 = true → ([], askedOf l [a], ()) = e0) ∧
      (e3 = false →
        (e1 = true → ([], (3 : Int), ()) = e0) ∧
          (e1 = false →
            (((True ∧ a = a ∧ True) ∧ l = l ∧ True) ∧ longOf l = longOf l ∧ True) ∧
              (e2 = true → ([], (2 : Int), ()) = e0) ∧
                (e2 = false →
                  (∃ (p : Int × List Int × Unit),
                      l = l ∧
                        a = a ∧
                          r = r ∧
                            r = r ∧
                              (↑(List.length r) : Int) = (↑(List.length r) : Int) ∧
                                (0 : Int) = p.fst ∧
                                  l = l ∧
                                    a = a ∧
                                      (0 : Int) = (0 : Int) ∧
                                        [a] = [a] ∧
                                          l = l ∧
                                            longOf l = longOf l ∧
                                              [] = p.snd.fst ∧
                                                (0 : Int) ≤ p.fst ∧ p.fst ≤ (↑(List.length r) : Int) ∧ p.snd.fst = List.map (fun (q : Int) => (wayAt l a q).snd) (List.take (Int.toNat p.fst) r)) ∧
                    ∀ (p : Int × List Int × Unit),
                      let e1 : Bool := decide (p.fst < (↑(List.length r) : Int));
                      let e0_1 : Int := List.getD r (Int.toNat p.fst) (0 : Int);
                      (0 : Int) ≤ p.fst ∧ p.fst ≤ (↑(List.length r) : Int) ∧ p.snd.fst = List.map (fun (q : Int) => (wayAt l a q).snd) (List.take (Int.toNat p.fst) r) →
                        (e1 = true →
                            ((0 : Int) ≤ p.fst ∧ p.fst < (↑(List.length r) : Int)) ∧
                              ((((List.length l ≤ (4000 : Nat) ∧ validOf l = true ∧ longOf l = longOf l) ∧
                                      ((0 : Int) ≤ a ∧ a < (↑(List.length l) : Int)) ∧ (0 : Int) ≤ e0_1 ∧ e0_1 < at_ (lensOf l) a) ∧
                                    l = l ∧ True) ∧
                                  longOf l = longOf l ∧ True) ∧
                                (List.length p.snd.fst + List.length [(wayAt l a e0_1).snd]) * (8 : Nat) ≤ (140737488355328 : Nat) ∧
                                  ∃ (p' : Int × List Int × Unit),
                                    l = l ∧
                                      a = a ∧
                                        r = r ∧
                                          r = r ∧
                                            (↑(List.length r) : Int) = (↑(List.length r) : Int) ∧
                                              IntKind.wrap IntKind.i64 (p.fst + (1 : Int)) = p'.fst ∧
                                                l = l ∧
                                                  a = a ∧
                                                    (0 : Int) = (0 : Int) ∧
                                                      [a] = [a] ∧
                                                        l = l ∧
                                                          longOf l = longOf l ∧
                                                            p.snd.fst ++ [(wayAt l a e0_1).snd] = p'.snd.fst ∧
                                                              ((0 : Int) ≤ p'.fst ∧
                                                                  p'.fst ≤ (↑(List.length r) : Int) ∧ p'.snd.fst = List.map (fun (q : Int) => (wayAt l a q).snd) (List.take (Int.toNat p'.fst) r)) ∧
                                                                List.length r - Int.toNat p'.fst < List.length r - Int.toNat p.fst) ∧
                          (e1 = false → (p.snd.fst, (0 : Int), ()) = e0))))) := by kernel_rfl

theorem needed_eq (x1 x2 x3 x4 x5 x6 : Int) (w : List Int) : vc (EV []) noL Go.Proofs.Tryd.f51 cNeeded (x1, x2, x3, x4, x5, x6, w, ()) = (let e0 : Node := Node.mk x1 x2 x3 x4 x5 x6 w;
  Small RU (Sigma.mk (Ty.slice (3 : Nat) (Ty.int IntKind.i64)) w) → ((x1 == (0 : Int)) = true → (none, ()) = (needOf e0, ())) ∧ ((x1 == (0 : Int)) = false → (some e0, ()) = (needOf e0, ()))) := by kernel_rfl

theorem inner_eq (x1 x2 x3 x4 x5 x6 : Int) (w : List Int) : vc (EV []) noL Go.Proofs.Tryd.f100 cInner (x1, x2, x3, x4, x5, x6, w, ()) = (let e0 : List Int × Unit := (partsOf (Node.mk x1 x2 x3 x4 x5 x6 w), ());
  Small RU (Sigma.mk (Ty.slice (3 : Nat) (Ty.int IntKind.i64)) w) → ((x1 == (1 : Int)) = true → ([x2, x3], ()) = e0) ∧ ((x1 == (1 : Int)) = false → ([x2], ()) = e0)) := by kernel_rfl

theorem depthP_eq (l : List Node) (a : Int) : vcD (EVx invR noIt [(49, cOpen), (51, cNeeded)]) cC (lDepthP l a) Go.Proofs.Tryd.f15 cDepthR (l, a, ()) = (let e3 : Bool := askedOf l [a] != (0 : Int);
  let e2 : Int × Int × Unit := ((depthAt l a).fst, (depthAt l a).snd, ());
  let e1 : Int := IntKind.wrap IntKind.i64 (a + (1 : Int));
  let e0 : List Int := List.replicate (Int.toNat e1) (0 : Int);
  Small RU (Sigma.mk (Ty.slice (56 : Nat) (Ty.user (0 : Nat))) l) →
  (e3 = true → ((0 : Int), askedOf l [a], ()) = e2) ∧
    (e3 = false →
      ((0 : Int) ≤ e1 ∧ e1 * (↑(8 : Nat) : Int) ≤ (↑(140737488355328 : Nat) : Int)) ∧
        (∃ (p : Int × List Int × Unit),
            l = l ∧
              a = a ∧
                (0 : Int) = (0 : Int) ∧
                  (↑(List.length e0) : Int) = (↑(List.length e0) : Int) ∧
                    (0 : Int) = p.fst ∧
                      l = l ∧
                        (0 : Int) = (0 : Int) ∧
                          [a] = [a] ∧
                            l = l ∧
                              longOf l = longOf l ∧
                                e0 = p.snd.fst ∧
                                  (0 : Int) ≤ p.fst ∧ p.fst ≤ a + (1 : Int) ∧ p.snd.fst = depthsOf (List.take (Int.toNat p.fst) l) ++ List.replicate (Int.toNat (a + (1 : Int) - p.fst)) (0 : Int)) ∧
          ∀ (p : Int × List Int × Unit),
            let e4 : List Int := List.replicate (Int.toNat (a - p.1)) (0 : Int);
            let e3 : List Int := partsN (needOf (nat_ l p.1));
            let e2_1 : List Int := depthsOf (List.take (Int.toNat p.1) l);
            let e1 : Int := (↑(List.length e0) : Int);
            let e0 : Node := List.getD l (Int.toNat p.fst) (Node.mk (0 : Int) (0 : Int) (0 : Int) (0 : Int) (0 : Int) (0 : Int) []);
            (0 : Int) ≤ p.fst ∧ p.fst ≤ a + (1 : Int) ∧ p.snd.fst = depthsOf (List.take (Int.toNat p.fst) l) ++ List.replicate (Int.toNat (a + (1 : Int) - p.fst)) (0 : Int) →
              (decide (p.fst < e1) = true →
                  ((0 : Int) ≤ p.fst ∧ p.fst < (↑(List.length l) : Int)) ∧
                    True ∧
                      (∃ (p_1 : Int × List Int × Unit),
                          l = l ∧
                            a = a ∧
                              (0 : Int) = (0 : Int) ∧
                                e1 = e1 ∧
                                  p.fst = p.fst ∧
                                    decide (p.fst < e1) = decide (p.fst < e1) ∧
                                      p.fst = p.fst ∧
                                        p.fst = p.fst ∧
                                          partsN (needOf (Node.mk e0.kind e0.a e0.b e0.from_ e0.len e0.n e0.words)) = partsN (needOf (Node.mk e0.kind e0.a e0.b e0.from_ e0.len e0.n e0.words)) ∧
                                            (↑(List.length (partsN (needOf (Node.mk e0.kind e0.a e0.b e0.from_ e0.len e0.n e0.words)))) : Int) =
                                                (↑(List.length (partsN (needOf (Node.mk e0.kind e0.a e0.b e0.from_ e0.len e0.n e0.words)))) : Int) ∧
                                              (0 : Int) = p_1.fst ∧
                                                l = l ∧
                                                  (0 : Int) = (0 : Int) ∧
                                                    [a] = [a] ∧
                                                      l = l ∧
                                                        longOf l = longOf l ∧
                                                          p.snd.fst = p_1.snd.fst ∧
                                                            (0 : Int) ≤ p_1.fst ∧ p_1.fst ≤ (↑(List.length e3) : Int) ∧ p_1.snd.fst = e2_1 ++ maxAt e2_1 (List.take (Int.toNat p_1.fst) e3) :: e4) ∧
                        ∀ (p_1 : Int × List Int × Unit),
                          let e6 : List Int := e4;
                          let e5 : Int := List.getD p_1.snd.fst (Int.toNat p.fst) (0 : Int);
                          let e4 : List Int := e2_1;
                          let e3 : List Int := e3;
                          let e2 : Int := e1;
                          let e1 : Node := e0;
                          let e0 : List Int := partsN (needOf (Node.mk e1.kind e1.a e1.b e1.from_ e1.len e1.n e1.words));
                          (0 : Int) ≤ p_1.fst ∧ p_1.fst ≤ (↑(List.length e3) : Int) ∧ p_1.snd.fst = e4 ++ maxAt e4 (List.take (Int.toNat p_1.fst) e3) :: e6 →
                            (decide (p_1.fst < (↑(List.length e0) : Int)) = true →
                                ((0 : Int) ≤ p_1.fst ∧ p_1.fst < (↑(List.length e0) : Int)) ∧
                                  ((0 : Int) ≤ p.fst ∧ p.fst < (↑(List.length p_1.snd.fst) : Int)) ∧
                                    ((0 : Int) ≤ List.getD e0 (Int.toNat p_1.fst) (0 : Int) ∧ List.getD e0 (Int.toNat p_1.fst) (0 : Int) < (↑(List.length p_1.snd.fst) : Int)) ∧
                                      ((0 : Int) ≤ p.fst ∧ p.fst < (↑(List.length p_1.snd.fst) : Int)) ∧
                                        ∃ (p' : Int × List Int × Unit),
                                          l = l ∧
                                            a = a ∧
                                              (0 : Int) = (0 : Int) ∧
                                                e2 = e2 ∧
                                                  p.fst = p.fst ∧
                                                    decide (p.fst < e2) = decide (p.fst < e2) ∧
                                                      p.fst = p.fst ∧
                                                        p.fst = p.fst ∧
                                                          e0 = e0 ∧
                                                            (↑(List.length e0) : Int) = (↑(List.length e0) : Int) ∧
                                                              IntKind.wrap IntKind.i64 (p_1.fst + (1 : Int)) = p'.fst ∧
                                                                l = l ∧
                                                                  (0 : Int) = (0 : Int) ∧
                                                                    [a] = [a] ∧
                                                                      l = l ∧
                                                                        longOf l = longOf l ∧
                                                                          List.set p_1.snd.fst (Int.toNat p.fst)
                                                                                (if List.getD p_1.snd.fst (Int.toNat (List.getD e0 (Int.toNat p_1.fst) (0 : Int))) (0 : Int) > e5 then
                                                                                  List.getD p_1.snd.fst (Int.toNat (List.getD e0 (Int.toNat p_1.fst) (0 : Int))) (0 : Int)
                                                                                else e5) =
                                                                              p'.snd.fst ∧
                                                                            ((0 : Int) ≤ p'.fst ∧
                                                                                p'.fst ≤ (↑(List.length e3) : Int) ∧ p'.snd.fst = e4 ++ maxAt e4 (List.take (Int.toNat p'.fst) e3) :: e6) ∧
                                                                              List.length e3 - Int.toNat p'.fst < List.length e3 - Int.toNat p_1.fst) ∧
                              (decide (p_1.fst < (↑(List.length e0) : Int)) = false →
                                ((0 : Int) ≤ p.fst ∧ p.fst < (↑(List.length p_1.snd.fst) : Int)) ∧
                                  ((0 : Int) ≤ p.fst ∧ p.fst < (↑(List.length p_1.snd.fst) : Int)) ∧
                                    ∃ (p' : Int × List Int × Unit),
                                      l = l ∧
                                        a = a ∧
                                          (0 : Int) = (0 : Int) ∧
                                            e2 = e2 ∧
                                              IntKind.wrap IntKind.i64 (p.fst + (1 : Int)) = p'.fst ∧
                                                l = l ∧
                                                  (0 : Int) = (0 : Int) ∧
                                                    [a] = [a] ∧
                                                      l = l ∧
                                                        longOf l = longOf l ∧
                                                          List.set p_1.snd.fst (Int.toNat p.fst) (IntKind.wrap IntKind.i64 (e5 + (1 : Int))) = p'.snd.fst ∧
                                                            ((0 : Int) ≤ p'.fst ∧
                                                                p'.fst ≤ a + (1 : Int) ∧
                                                                  p'.snd.fst = depthsOf (List.take (Int.toNat p'.fst) l) ++ List.replicate (Int.toNat (a + (1 : Int) - p'.fst)) (0 : Int)) ∧
                                                              Int.toNat (a + (1 : Int)) - Int.toNat p'.fst < Int.toNat (a + (1 : Int)) - Int.toNat p.fst)) ∧
                (decide (p.fst < e1) = false → ((0 : Int) ≤ a ∧ a < (↑(List.length p.snd.fst) : Int)) ∧ (List.getD p.snd.fst (Int.toNat a) (0 : Int), (0 : Int), ()) = e2))) := by kernel_rfl

end Go.Rp
end

section
set_option linter.unusedVariables false
set_option maxRecDepth 100000
open Go Go.VT
namespace Go.Rp

theorem checkP_eq (l : List Node) : vcD (EV [(49, cOpen)]) cC noL Go.Proofs.Tryd.f33 cCheck (l, ()) = (Small RU (Sigma.mk (Ty.slice (56 : Nat) (Ty.user (0 : Nat))) l) →
  ((askedOf l [] != (0 : Int)) = true → (askedOf l [], ()) = (checkOf l, ())) ∧ ((askedOf l [] != (0 : Int)) = false → ((0 : Int), ()) = (checkOf l, ()))) := by kernel_rfl

theorem lenP_eq (l : List Node) (a : Int) : vcD (EV [(49, cOpen)]) cC noL Go.Proofs.Tryd.f13 cLenR (l, a, ()) = (let e1 : Bool := askedOf l [a] != (0 : Int);
  let e0 : Int × Int × Unit := ((lenAt l a).fst, (lenAt l a).snd, ());
  Small RU (Sigma.mk (Ty.slice (56 : Nat) (Ty.user (0 : Nat))) l) →
  (e1 = true → ((0 : Int), askedOf l [a], ()) = e0) ∧ (e1 = false → (Option.getD (mget (fun (x y : Int) => x == y) (longOf l) a) (0 : Int), (0 : Int), ()) = e0)) := by kernel_rfl

theorem costP_eq (l : List Node) (a p : Int) : vcD (EV [(49, cOpen), (53, cMust), (56, cHas), (57, cAt)]) cC noL Go.Proofs.Tryd.f21 cCostR (l, a, p, ()) = (let e2 : Bool := askedOf l [a] != (0 : Int);
  let e1 : Bool := !(decide ((0 : Int) ≤ p) && decide (p < Option.getD (mget (fun (x y : Int) => x == y) (longOf l) a) (0 : Int)));
  let e0 : Int × Int × Unit := ((costAt l a p).fst, (costAt l a p).snd, ());
  Small RU (Sigma.mk (Ty.slice (56 : Nat) (Ty.user (0 : Nat))) l) →
  (e2 = true → ((0 : Int), askedOf l [a], ()) = e0) ∧
    (e2 = false →
      (e1 = true → ((0 : Int), (2 : Int), ()) = e0) ∧
        (e1 = false →
          ((((List.length l ≤ (4000 : Nat) ∧ validOf l = true ∧ longOf l = longOf l) ∧ ((0 : Int) ≤ a ∧ a < (↑(List.length l) : Int)) ∧ (0 : Int) ≤ p ∧ p < at_ (lensOf l) a) ∧ l = l ∧ True) ∧
              longOf l = longOf l ∧ True) ∧
            ((wayAt l a p).fst, (0 : Int), ()) = e0))) := by kernel_rfl

theorem wordsP_eq (l : List Node) (w : List Int) : vcD (EV [(49, cOpen), (53, cMust), (54, cAnyW 67), (69, cMade), (70, cClone)]) cC noL Go.Proofs.Tryd.f29 cWordsR (l, w, ()) = (let e2 : Bool := putBad l (↑(List.length w) : Int);
  let e1 : Bool := !!List.any w fun (n : den RU.T i64) => !isWord n;
  let e0 : List Node × Int × Int × Unit := ((wordsOf l w).fst, (wordsOf l w).snd.fst, (wordsOf l w).snd.snd, ());
  Small RU (Sigma.mk (Ty.slice (56 : Nat) (Ty.user (0 : Nat))) l) →
  Small RU (Sigma.mk (Ty.slice (3 : Nat) (Ty.int IntKind.i64)) w) →
    ((askedOf l [] != (0 : Int)) = true → ([], (0 : Int), askedOf l [], ()) = e0) ∧
      ((askedOf l [] != (0 : Int)) = false →
        (e1 = true → ([], (0 : Int), (2 : Int), ()) = e0) ∧
          (e1 = false →
            List.length w ≤ (17592186044416 : Nat) ∧
              (List.length l ≤ (4000000 : Nat) ∧ ∀ (x : Node), List.Mem x l → List.length x.words ≤ (4000000 : Nat)) ∧
                (e2 = true → ([], (0 : Int), (9 : Int), ()) = e0) ∧
                  (e2 = false → (l ++ [Node.mk (0 : Int) (0 : Int) (0 : Int) (0 : Int) (0 : Int) (0 : Int) w], (↑(List.length l) : Int), (0 : Int), ()) = e0)))) := by kernel_rfl

theorem catP_eq (l : List Node) (a b : Int) : vcD (EV [(49, cOpen), (69, cMade)]) cC noL Go.Proofs.Tryd.f31 cCatR (l, a, b, ()) = (let e2 : Bool := askedOf l [a, b] != (0 : Int);
  let e1 : Bool := putBad l (IntKind.wrap IntKind.i64 (Option.getD (mget (fun (x y : Int) => x == y) (longOf l) a) (0 : Int) + Option.getD (mget (fun (x y : Int) => x == y) (longOf l) b) (0 : Int)));
  let e0 : List Node × Int × Int × Unit := ((catOf l a b).fst, (catOf l a b).snd.fst, (catOf l a b).snd.snd, ());
  Small RU (Sigma.mk (Ty.slice (56 : Nat) (Ty.user (0 : Nat))) l) →
  (e2 = true → ([], (0 : Int), askedOf l [a, b], ()) = e0) ∧
    (e2 = false →
      (List.length l ≤ (4000000 : Nat) ∧ ∀ (x : Node), List.Mem x l → List.length x.words ≤ (4000000 : Nat)) ∧
        (e1 = true → ([], (0 : Int), (9 : Int), ()) = e0) ∧ (e1 = false → (l ++ [Node.mk (1 : Int) a b (0 : Int) (0 : Int) (0 : Int) []], (↑(List.length l) : Int), (0 : Int), ()) = e0))) := by kernel_rfl

theorem partP_eq (l : List Node) (a b c : Int) : vcD (EV [(49, cOpen), (53, cMust), (69, cMade)]) cC noL Go.Proofs.Tryd.f35 cPartR (l, a, b, c, ()) = (let e4 : Bool := askedOf l [a] != (0 : Int);
  let e3 : Int × Int := (partOf l a b c).snd;
  let e2 : Int := Option.getD (mget (fun (x y : Int) => x == y) (longOf l) a) (0 : Int);
  let e1 : Bool := !(decide (c ≥ (0 : Int)) && decide (c ≤ e2) && decide (b ≥ (0 : Int)) && decide (b ≤ IntKind.wrap IntKind.i64 (e2 - c)));
  let e0 : List Node × Int × Int × Unit := ((partOf l a b c).fst, e3.fst, e3.snd, ());
  Small RU (Sigma.mk (Ty.slice (56 : Nat) (Ty.user (0 : Nat))) l) →
  (e4 = true → ([], (0 : Int), askedOf l [a], ()) = e0) ∧
    (e4 = false →
      (e1 = true → ([], (0 : Int), (2 : Int), ()) = e0) ∧
        (e1 = false →
          (List.length l ≤ (4000000 : Nat) ∧ ∀ (x : Node), List.Mem x l → List.length x.words ≤ (4000000 : Nat)) ∧
            (putBad l c = true → ([], (0 : Int), (9 : Int), ()) = e0) ∧ (putBad l c = false → (l ++ [Node.mk (2 : Int) a (0 : Int) b c (0 : Int) []], (↑(List.length l) : Int), (0 : Int), ()) = e0)))) := by kernel_rfl

theorem offP_eq (l : List Node) (a b : Int) : vcD (EV [(49, cOpen), (53, cMust), (68, cIsW), (69, cMade)]) cC noL Go.Proofs.Tryd.f37 cOffR (l, a, b, ()) = (let e2 : Bool := askedOf l [a] != (0 : Int);
  let e1 : Bool := putBad l (Option.getD (mget (fun (x y : Int) => x == y) (longOf l) a) (0 : Int));
  let e0 : List Node × Int × Int × Unit := ((offOf l a b).fst, (offOf l a b).snd.fst, (offOf l a b).snd.snd, ());
  Small RU (Sigma.mk (Ty.slice (56 : Nat) (Ty.user (0 : Nat))) l) →
  (e2 = true → ([], (0 : Int), askedOf l [a], ()) = e0) ∧
    (e2 = false →
      ((!isWord b) = true → ([], (0 : Int), (2 : Int), ()) = e0) ∧
        ((!isWord b) = false →
          (List.length l ≤ (4000000 : Nat) ∧ ∀ (x : Node), List.Mem x l → List.length x.words ≤ (4000000 : Nat)) ∧
            (e1 = true → ([], (0 : Int), (9 : Int), ()) = e0) ∧ (e1 = false → (l ++ [Node.mk (3 : Int) a (0 : Int) (0 : Int) (0 : Int) b []], (↑(List.length l) : Int), (0 : Int), ()) = e0)))) := by kernel_rfl

end Go.Rp
end

section
set_option linter.unusedVariables false
set_option maxRecDepth 100000
open Go Go.VT
namespace Go.Rp

theorem clone_eq (l : List Int) : vc (EV []) noL Go.Proofs.Tryd.f70 cClone (l, ()) = (Small RU (Sigma.mk (Ty.slice (3 : Nat) (Ty.int IntKind.i64)) l) →
  ∀ (b : Bool),
    let e0 : Bool := bif true then b else !b;
    (b = true → l = []) → (e0 = true → ([], ()) = (l, ())) ∧ (e0 = false → ((0 : Nat) + List.length l) * (8 : Nat) ≤ (140737488355328 : Nat) ∧ ([] ++ l, ()) = (l, ()))) := by kernel_rfl

theorem ownS_eq (l : List Node) (L : List (Int × Int)) : vc (EV [(70, cClone)]) (lOwnS l) Go.Proofs.Tryd.f59 cOwnS (l, L, ()) = (let e1 : Node := Node.mk (0 : Int) (0 : Int) (0 : Int) (0 : Int) (0 : Int) (0 : Int) [];
  let e0 : List Node := List.take (List.length (List.replicate (Int.toNat (↑(List.length l) : Int)) e1)) l ++ List.drop (List.length l) (List.replicate (Int.toNat (↑(List.length l) : Int)) e1);
  Small RU (Sigma.mk (Ty.slice (56 : Nat) (Ty.user (0 : Nat))) l) →
  ((0 : Int) ≤ (↑(List.length l) : Int) ∧ (↑(List.length l) : Int) * (↑(72 : Nat) : Int) ≤ (↑(140737488355328 : Nat) : Int)) ∧
    (∃ (p : Int × List Node × Unit),
        (↑(List.length e0) : Int) = (↑(List.length e0) : Int) ∧ (0 : Int) = p.fst ∧ l = l ∧ L = L ∧ e0 = p.snd.fst ∧ (0 : Int) ≤ p.fst ∧ p.fst ≤ (↑(List.length l) : Int) ∧ p.snd.fst = l) ∧
      ∀ (p : Int × List Node × Unit),
        let e0 : Node := e1;
        (0 : Int) ≤ p.fst ∧ p.fst ≤ (↑(List.length l) : Int) ∧ p.snd.fst = l →
          (decide
                  (p.fst <
                    (↑(List.length
                          (List.take (List.length (List.replicate (Int.toNat (↑(List.length l) : Int)) e0)) l ++ List.drop (List.length l) (List.replicate (Int.toNat (↑(List.length l) : Int)) e0))) :
                      Int)) =
                true →
              ((0 : Int) ≤ p.fst ∧ p.fst < (↑(List.length p.snd.fst) : Int)) ∧
                List.length (List.getD p.snd.fst (Int.toNat p.fst) e0).words ≤ (17592186044416 : Nat) ∧
                  ((0 : Int) ≤ p.fst ∧ p.fst < (↑(List.length p.snd.fst) : Int)) ∧
                    ∃ (p' : Int × List Node × Unit),
                      (↑(List.length
                                (List.take (List.length (List.replicate (Int.toNat (↑(List.length l) : Int)) e0)) l ++
                                  List.drop (List.length l) (List.replicate (Int.toNat (↑(List.length l) : Int)) e0))) :
                            Int) =
                          (↑(List.length
                                (List.take (List.length (List.replicate (Int.toNat (↑(List.length l) : Int)) e0)) l ++
                                  List.drop (List.length l) (List.replicate (Int.toNat (↑(List.length l) : Int)) e0))) :
                            Int) ∧
                        IntKind.wrap IntKind.i64 (p.fst + (1 : Int)) = p'.fst ∧
                          l = l ∧
                            L = L ∧
                              List.set p.snd.fst (Int.toNat p.fst)
                                    (Node.mk (List.getD p.snd.fst (Int.toNat p.fst) e0).kind (List.getD p.snd.fst (Int.toNat p.fst) e0).a (List.getD p.snd.fst (Int.toNat p.fst) e0).b
                                      (List.getD p.snd.fst (Int.toNat p.fst) e0).from_ (List.getD p.snd.fst (Int.toNat p.fst) e0).len (List.getD p.snd.fst (Int.toNat p.fst) e0).n
                                      (List.getD p.snd.fst (Int.toNat p.fst) e0).words) =
                                  p'.snd.fst ∧
                                ((0 : Int) ≤ p'.fst ∧ p'.fst ≤ (↑(List.length l) : Int) ∧ p'.snd.fst = l) ∧ List.length l - Int.toNat p'.fst < List.length l - Int.toNat p.fst) ∧
            (decide
                  (p.fst <
                    (↑(List.length
                          (List.take (List.length (List.replicate (Int.toNat (↑(List.length l) : Int)) e0)) l ++ List.drop (List.length l) (List.replicate (Int.toNat (↑(List.length l) : Int)) e0))) :
                      Int)) =
                false →
              (p.snd.fst, L, ()) = (l, L, ()))) := by kernel_rfl

theorem put_eq (l : List Node) (L : List (Int × Int)) (x1 x2 x3 x4 x5 x6 : Int) (w : List Int) (long : Int) : vc (EV [(53, cMust)]) noL Go.Proofs.Tryd.f60 cPut (l, L, x1, x2, x3, x4, x5, x6, w, long, ()) = (let e1 : Bool := !(decide ((↑(List.length l) : Int) < (4000 : Int)) && decide (long ≤ (1048576 : Int)));
  let e0 : List Node := [Node.mk x1 x2 x3 x4 x5 x6 w];
  Small RU (Sigma.mk (Ty.slice (3 : Nat) (Ty.int IntKind.i64)) w) →
  Small RU (Sigma.mk (Ty.slice (56 : Nat) (Ty.user (0 : Nat))) l) →
    (e1 = true → putBad l long = true ∧ (9 : Int) = (9 : Int) ∧ True) ∧
      (e1 = false →
        (List.length l + List.length e0) * (72 : Nat) ≤ (140737488355328 : Nat) ∧
          putBad l long = false ∧ ((↑(List.length l) : Int), l ++ e0, mput (fun (x y : Int) => x == y) L (↑(List.length l) : Int) long, ()) = ((↑(List.length l) : Int), l ++ e0, putL l L long, ()))) := by kernel_rfl

theorem made_eq (l : List Node) (L : List (Int × Int)) (x1 x2 x3 x4 x5 x6 : Int) (w : List Int) (long : Int) : vc (EV [(59, cOwnS), (60, cPut)]) noL Go.Proofs.Tryd.f69 cMade (l, L, x1, x2, x3, x4, x5, x6, w, long, ()) = (let e0 : List Node × Int × Int × List (Int × Int) × Unit := (l ++ [Node.mk x1 x2 x3 x4 x5 x6 w], (↑(List.length l) : Int), (0 : Int), putL l L long, ());
  Small RU (Sigma.mk (Ty.slice (3 : Nat) (Ty.int IntKind.i64)) w) →
  Small RU (Sigma.mk (Ty.slice (56 : Nat) (Ty.user (0 : Nat))) l) →
    (List.length l ≤ (4000000 : Nat) ∧ ∀ (x : Node), List.Mem x l → List.length x.words ≤ (4000000 : Nat)) ∧
      (putBad l long = true → putBad l long = true ∧ (9 : Int) = (9 : Int) ∧ True) ∧ (putBad l long = false → putBad l long = false ∧ e0 = e0)) := by kernel_rfl

theorem at_eq (l : List Node) (L : List (Int × Int)) (a p : Int) : vc (EV []) (lAt l a p) Go.Proofs.Tryd.f57 cAt (l, L, a, p, ()) = (Small RU (Sigma.mk (Ty.slice (56 : Nat) (Ty.user (0 : Nat))) l) →
  (∃ (p_1 : Int × Int × Int × Int × Unit),
      a = p_1.fst ∧
        p = p_1.snd.fst ∧
          (0 : Int) = p_1.snd.snd.fst ∧
            (1 : Int) = p_1.snd.snd.snd.fst ∧
              l = l ∧
                L = L ∧
                  ((0 : Int) ≤ p_1.fst ∧ p_1.fst ≤ a) ∧
                    ((0 : Int) ≤ p_1.snd.fst ∧ p_1.snd.fst < at_ (lensOf l) p_1.fst) ∧
                      ((1 : Int) ≤ p_1.snd.snd.snd.fst ∧ p_1.snd.snd.snd.fst ≤ (1 : Int) + a - p_1.fst) ∧
                        (isWord p_1.snd.snd.fst = true ∧ (wayAt l a p).snd = word (w64 ((wayAt l p_1.fst p_1.snd.fst).snd + p_1.snd.snd.fst))) ∧
                          (wayAt l a p).fst = p_1.snd.snd.snd.fst - (1 : Int) + (wayAt l p_1.fst p_1.snd.fst).fst) ∧
    ∀ (p_1 : Int × Int × Int × Int × Unit),
      let e4 : Int × Int := wayAt l p_1.fst p_1.snd.fst;
      let e3 : Int := (wayAt l a p).snd;
      let e2 : Int := (wayAt l a p).fst;
      let e1 : Int := IntKind.wrap IntKind.i64 (p_1.snd.snd.snd.fst + (1 : Int));
      let e0 : Node := List.getD l (Int.toNat p_1.fst) (Node.mk (0 : Int) (0 : Int) (0 : Int) (0 : Int) (0 : Int) (0 : Int) []);
      ((0 : Int) ≤ p_1.fst ∧ p_1.fst ≤ a) ∧
          ((0 : Int) ≤ p_1.snd.fst ∧ p_1.snd.fst < at_ (lensOf l) p_1.fst) ∧
            ((1 : Int) ≤ p_1.snd.snd.snd.fst ∧ p_1.snd.snd.snd.fst ≤ (1 : Int) + a - p_1.fst) ∧
              (isWord p_1.snd.snd.fst = true ∧ e3 = word (w64 (e4.snd + p_1.snd.snd.fst))) ∧ e2 = p_1.snd.snd.snd.fst - (1 : Int) + e4.fst →
        ((0 : Int) ≤ p_1.fst ∧ p_1.fst < (↑(List.length l) : Int)) ∧
          ((e0.kind == (0 : Int)) = true →
              ((0 : Int) ≤ p_1.snd.fst ∧ p_1.snd.fst < (↑(List.length e0.words) : Int)) ∧
                (IntKind.wrap IntKind.i64 (IntKind.wrap IntKind.i32 (IntKind.wrap IntKind.i64 (List.getD e0.words (Int.toNat p_1.snd.fst) (0 : Int) + p_1.snd.snd.fst))), p_1.snd.snd.snd.fst, l, L,
                    ()) =
                  (e3, e2, l, L, ())) ∧
            ((e0.kind == (0 : Int)) = false →
              ((e0.kind == (2 : Int)) = true →
                  ∃ (p' : Int × Int × Int × Int × Unit),
                    e0.a = p'.fst ∧
                      IntKind.wrap IntKind.i64 (p_1.snd.fst + e0.from_) = p'.snd.fst ∧
                        p_1.snd.snd.fst = p'.snd.snd.fst ∧
                          e1 = p'.snd.snd.snd.fst ∧
                            l = l ∧
                              L = L ∧
                                (((0 : Int) ≤ p'.fst ∧ p'.fst ≤ a) ∧
                                    ((0 : Int) ≤ p'.snd.fst ∧ p'.snd.fst < at_ (lensOf l) p'.fst) ∧
                                      ((1 : Int) ≤ p'.snd.snd.snd.fst ∧ p'.snd.snd.snd.fst ≤ (1 : Int) + a - p'.fst) ∧
                                        (isWord p'.snd.snd.fst = true ∧ e3 = word (w64 ((wayAt l p'.fst p'.snd.fst).snd + p'.snd.snd.fst))) ∧
                                          e2 = p'.snd.snd.snd.fst - (1 : Int) + (wayAt l p'.fst p'.snd.fst).fst) ∧
                                  Int.toNat p'.fst < Int.toNat p_1.fst) ∧
                ((e0.kind == (2 : Int)) = false →
                  ((e0.kind == (3 : Int)) = true →
                      ∃ (p' : Int × Int × Int × Int × Unit),
                        e0.a = p'.fst ∧
                          p_1.snd.fst = p'.snd.fst ∧
                            IntKind.wrap IntKind.i64 (IntKind.wrap IntKind.i32 (IntKind.wrap IntKind.i64 (p_1.snd.snd.fst + e0.n))) = p'.snd.snd.fst ∧
                              e1 = p'.snd.snd.snd.fst ∧
                                l = l ∧
                                  L = L ∧
                                    (((0 : Int) ≤ p'.fst ∧ p'.fst ≤ a) ∧
                                        ((0 : Int) ≤ p'.snd.fst ∧ p'.snd.fst < at_ (lensOf l) p'.fst) ∧
                                          ((1 : Int) ≤ p'.snd.snd.snd.fst ∧ p'.snd.snd.snd.fst ≤ (1 : Int) + a - p'.fst) ∧
                                            (isWord p'.snd.snd.fst = true ∧ e3 = word (w64 ((wayAt l p'.fst p'.snd.fst).snd + p'.snd.snd.fst))) ∧
                                              e2 = p'.snd.snd.snd.fst - (1 : Int) + (wayAt l p'.fst p'.snd.fst).fst) ∧
                                      Int.toNat p'.fst < Int.toNat p_1.fst) ∧
                    ((e0.kind == (3 : Int)) = false →
                      (decide (p_1.snd.fst < Option.getD (mget (fun (x y : Int) => x == y) L e0.a) (0 : Int)) = true →
                          ∃ (p' : Int × Int × Int × Int × Unit),
                            e0.a = p'.fst ∧
                              p_1.snd.fst = p'.snd.fst ∧
                                p_1.snd.snd.fst = p'.snd.snd.fst ∧
                                  e1 = p'.snd.snd.snd.fst ∧
                                    l = l ∧
                                      L = L ∧
                                        (((0 : Int) ≤ p'.fst ∧ p'.fst ≤ a) ∧
                                            ((0 : Int) ≤ p'.snd.fst ∧ p'.snd.fst < at_ (lensOf l) p'.fst) ∧
                                              ((1 : Int) ≤ p'.snd.snd.snd.fst ∧ p'.snd.snd.snd.fst ≤ (1 : Int) + a - p'.fst) ∧
                                                (isWord p'.snd.snd.fst = true ∧ e3 = word (w64 ((wayAt l p'.fst p'.snd.fst).snd + p'.snd.snd.fst))) ∧
                                                  e2 = p'.snd.snd.snd.fst - (1 : Int) + (wayAt l p'.fst p'.snd.fst).fst) ∧
                                          Int.toNat p'.fst < Int.toNat p_1.fst) ∧
                        (decide (p_1.snd.fst < Option.getD (mget (fun (x y : Int) => x == y) L e0.a) (0 : Int)) = false →
                          ∃ (p' : Int × Int × Int × Int × Unit),
                            e0.b = p'.fst ∧
                              IntKind.wrap IntKind.i64 (p_1.snd.fst - Option.getD (mget (fun (x y : Int) => x == y) L e0.a) (0 : Int)) = p'.snd.fst ∧
                                p_1.snd.snd.fst = p'.snd.snd.fst ∧
                                  e1 = p'.snd.snd.snd.fst ∧
                                    l = l ∧
                                      L = L ∧
                                        (((0 : Int) ≤ p'.fst ∧ p'.fst ≤ a) ∧
                                            ((0 : Int) ≤ p'.snd.fst ∧ p'.snd.fst < at_ (lensOf l) p'.fst) ∧
                                              ((1 : Int) ≤ p'.snd.snd.snd.fst ∧ p'.snd.snd.snd.fst ≤ (1 : Int) + a - p'.fst) ∧
                                                (isWord p'.snd.snd.fst = true ∧ e3 = word (w64 ((wayAt l p'.fst p'.snd.fst).snd + p'.snd.snd.fst))) ∧
                                                  e2 = p'.snd.snd.snd.fst - (1 : Int) + (wayAt l p'.fst p'.snd.fst).fst) ∧
                                          Int.toNat p'.fst < Int.toNat p_1.fst))))) := by kernel_rfl

end Go.Rp
end

section
set_option linter.unusedVariables false
set_option maxRecDepth 100000
open Go Go.VT
namespace Go.Rp

theorem open_eq (l : List Node) (r : List Int) : vc (EVt tabR [(53, cMust), (56, cHas)]) (lOpen l r) Go.Proofs.Tryd.f49 cOpen (l, r, ()) = (let e1 : Bool := !decide ((↑(List.length l) : Int) ≤ (4000 : Int));
  let e0 : Value := Value.pointer none;
  Small RU (Sigma.mk (Ty.slice (56 : Nat) (Ty.user (0 : Nat))) l) →
  Small RU (Sigma.mk (Ty.slice (3 : Nat) (Ty.int IntKind.i64)) r) →
    (e1 = true → (askedOf l r != (0 : Int)) = true ∧ askedOf l r = (3 : Int) ∧ True) ∧
      (e1 = false →
        (∃ (p : Int × List (Int × Int) × Unit),
            l = l ∧
              r = r ∧
                e0 = e0 ∧
                  l = l ∧
                    (↑(List.length l) : Int) = (↑(List.length l) : Int) ∧
                      (0 : Int) = p.fst ∧
                        l = l ∧
                          [] = p.snd.fst ∧
                            l = l ∧
                              (0 : Int) ≤ p.fst ∧ p.fst ≤ (↑(List.length l) : Int) ∧ (∀ (i : Nat), i < Int.toNat p.fst → stepOk l i = true) ∧ p.snd.fst = longOf (List.take (Int.toNat p.fst) l)) ∧
          ∀ (p : Int × List (Int × Int) × Unit),
            let e3 : Value := e0;
            let e2 : Bool := decide (p.fst < (↑(List.length l) : Int));
            let e1 : Node := List.getD l (Int.toNat p.fst) node0;
            let e0 : Int := (List.getD l (Int.toNat p.fst) (Node.mk (0 : Int) (0 : Int) (0 : Int) (0 : Int) (0 : Int) (0 : Int) [])).kind;
            (0 : Int) ≤ p.fst ∧ p.fst ≤ (↑(List.length l) : Int) ∧ (∀ (i : Nat), i < Int.toNat p.fst → stepOk l i = true) ∧ p.snd.fst = longOf (List.take (Int.toNat p.fst) l) →
              (e2 = true →
                  ((0 : Int) ≤ p.fst ∧ p.fst < (↑(List.length l) : Int)) ∧
                    ((!(decide (e0 ≥ (0 : Int)) && decide (e0 < (4 : Int)))) = true → (askedOf l r != (0 : Int)) = true ∧ askedOf l r = (1 : Int) ∧ True) ∧
                      ((!(decide (e0 ≥ (0 : Int)) && decide (e0 < (4 : Int)))) = false →
                        ((0 : Int) ≤ e0 ∧ e0 < (↑(4 : Nat) : Int)) ∧
                          ((0 : Int) ≤ e0 ∧ e0 < (↑(4 : Nat) : Int)) ∧
                            ((((0 : Int) ≤ p.fst ∧ p.fst < (↑(List.length l) : Int)) ∧ l = l ∧ True) ∧ p.snd.fst = p.snd.fst ∧ True) ∧
                              ((if e0 ≤ (0 : Int) then !okWords e1 else if e0 = (1 : Int) then !okCat e1 p.fst else if e0 = (2 : Int) then !okPart e1 p.snd.fst p.fst else !okOff e1 p.fst) = true →
                                  (askedOf l r != (0 : Int)) = true ∧ askedOf l r = (1 : Int) ∧ True) ∧
                                ((if e0 ≤ (0 : Int) then !okWords e1 else if e0 = (1 : Int) then !okCat e1 p.fst else if e0 = (2 : Int) then !okPart e1 p.snd.fst p.fst else !okOff e1 p.fst) = false →
                                  ((!decide
                                            (Option.getD
                                                (mget (fun (x y : Int) => x == y)
                                                  (mput (fun (x y : Int) => x == y) p.snd.fst p.fst
                                                    (if e0 ≤ (0 : Int) then (↑(List.length e1.words) : Int)
                                                    else
                                                      if e0 = (1 : Int) then IntKind.wrap IntKind.i64 (lg p.snd.fst e1.a + lg p.snd.fst e1.b)
                                                      else if e0 = (2 : Int) then e1.len else lg p.snd.fst e1.a))
                                                  p.fst)
                                                (0 : Int) ≤
                                              (1048576 : Int))) =
                                        true →
                                      (askedOf l r != (0 : Int)) = true ∧ askedOf l r = (1 : Int) ∧ True) ∧
                                    ((!decide
                                            (Option.getD
                                                (mget (fun (x y : Int) => x == y)
                                                  (mput (fun (x y : Int) => x == y) p.snd.fst p.fst
                                                    (if e0 ≤ (0 : Int) then (↑(List.length e1.words) : Int)
                                                    else
                                                      if e0 = (1 : Int) then IntKind.wrap IntKind.i64 (lg p.snd.fst e1.a + lg p.snd.fst e1.b)
                                                      else if e0 = (2 : Int) then e1.len else lg p.snd.fst e1.a))
                                                  p.fst)
                                                (0 : Int) ≤
                                              (1048576 : Int))) =
                                        false →
                                      ∃ (p' : Int × List (Int × Int) × Unit),
                                        l = l ∧
                                          r = r ∧
                                            e3 = e3 ∧
                                              l = l ∧
                                                (↑(List.length l) : Int) = (↑(List.length l) : Int) ∧
                                                  IntKind.wrap IntKind.i64 (p.fst + (1 : Int)) = p'.fst ∧
                                                    l = l ∧
                                                      mput (fun (x y : Int) => x == y) p.snd.fst p.fst
                                                            (if e0 ≤ (0 : Int) then (↑(List.length e1.words) : Int)
                                                            else
                                                              if e0 = (1 : Int) then IntKind.wrap IntKind.i64 (lg p.snd.fst e1.a + lg p.snd.fst e1.b)
                                                              else if e0 = (2 : Int) then e1.len else lg p.snd.fst e1.a) =
                                                          p'.snd.fst ∧
                                                        l = l ∧
                                                          ((0 : Int) ≤ p'.fst ∧
                                                              p'.fst ≤ (↑(List.length l) : Int) ∧
                                                                (∀ (i : Nat), i < Int.toNat p'.fst → stepOk l i = true) ∧ p'.snd.fst = longOf (List.take (Int.toNat p'.fst) l)) ∧
                                                            List.length l - Int.toNat p'.fst < List.length l - Int.toNat p.fst)))) ∧
                (e2 = false →
                  (∃ (p_1 : Int × Unit),
                      l = l ∧
                        r = r ∧
                          e3 = e3 ∧
                            l = l ∧
                              (↑(List.length l) : Int) = (↑(List.length l) : Int) ∧
                                p.fst = p.fst ∧
                                  e2 = e2 ∧
                                    r = r ∧
                                      (↑(List.length r) : Int) = (↑(List.length r) : Int) ∧
                                        (0 : Int) = p_1.fst ∧
                                          l = l ∧
                                            p.snd.fst = p.snd.fst ∧
                                              l = l ∧
                                                (0 : Int) ≤ p_1.fst ∧
                                                  p_1.fst ≤ (↑(List.length r) : Int) ∧
                                                    ∀ (i : Nat), i < Int.toNat p_1.fst → lies (List.getD r i (0 : Int)) (0 : Int) ((↑(List.length l) : Int) - (1 : Int)) = true) ∧
                    ∀ (p_1 : Int × Unit),
                      let e4 : Value := e3;
                      let e3 : Int := List.getD r (Int.toNat p_1.fst) (0 : Int);
                      let e2_1 : Bool := decide (p_1.fst < (↑(List.length r) : Int));
                      let e1 : Bool := e2;
                      let e0 : Bool := !(decide ((0 : Int) ≤ e3) && decide (e3 < (↑(List.length l) : Int)));
                      ((0 : Int) ≤ p_1.fst ∧
                          p_1.fst ≤ (↑(List.length r) : Int) ∧ ∀ (i : Nat), i < Int.toNat p_1.fst → lies (List.getD r i (0 : Int)) (0 : Int) ((↑(List.length l) : Int) - (1 : Int)) = true) →
                        (e2_1 = true →
                            ((0 : Int) ≤ p_1.fst ∧ p_1.fst < (↑(List.length r) : Int)) ∧
                              (e0 = true → (askedOf l r != (0 : Int)) = true ∧ askedOf l r = (2 : Int) ∧ True) ∧
                                (e0 = false →
                                  ∃ (p' : Int × Unit),
                                    l = l ∧
                                      r = r ∧
                                        e4 = e4 ∧
                                          l = l ∧
                                            (↑(List.length l) : Int) = (↑(List.length l) : Int) ∧
                                              p.fst = p.fst ∧
                                                e1 = e1 ∧
                                                  r = r ∧
                                                    (↑(List.length r) : Int) = (↑(List.length r) : Int) ∧
                                                      IntKind.wrap IntKind.i64 (p_1.fst + (1 : Int)) = p'.fst ∧
                                                        l = l ∧
                                                          p.snd.fst = p.snd.fst ∧
                                                            l = l ∧
                                                              ((0 : Int) ≤ p'.fst ∧
                                                                  p'.fst ≤ (↑(List.length r) : Int) ∧
                                                                    ∀ (i : Nat), i < Int.toNat p'.fst → lies (List.getD r i (0 : Int)) (0 : Int) ((↑(List.length l) : Int) - (1 : Int)) = true) ∧
                                                                List.length r - Int.toNat p'.fst < List.length r - Int.toNat p_1.fst)) ∧
                          (e2_1 = false → (askedOf l r != (0 : Int)) = false ∧ (l, p.snd.fst, ()) = (l, longOf l, ()))))) := by kernel_rfl

end Go.Rp
end

section
set_option linter.unusedVariables false
set_option maxRecDepth 100000
open Go Go.VT
namespace Go.Rp

theorem lies_eq (n lo hi : Int) : vc (EV []) noL Go.Proofs.Tryd.f41 cLies (n, lo, hi, ()) = ((decide (lo ≤ n) && decide (n ≤ hi), ()) = (lies n lo hi, ())) := by kernel_rfl

theorem isWord_eq (n : Int) : vc (EV [(41, cLies)]) noL Go.Proofs.Tryd.f75 cIsWord (n, ()) = ((lies n (-2147483648 : Int) (2147483647 : Int), ()) = (isWord n, ())) := by kernel_rfl

theorem word_eq (n : Int) : vc (EV []) noL Go.Proofs.Tryd.f76 cWord (n, ()) = ((IntKind.wrap IntKind.i64 (IntKind.wrap IntKind.i32 (IntKind.wrap IntKind.u32 (IntKind.wrap IntKind.u64 n))), ()) = (word n, ())) := by kernel_rfl

theorem copy_eq (l : List Int) : vc (EV []) noL Go.Proofs.Tryd.f77 cCopy (l, ()) = (Small RU (Sigma.mk (Ty.slice (3 : Nat) (Ty.int IntKind.i64)) l) → ((0 : Nat) + List.length l) * (8 : Nat) ≤ (140737488355328 : Nat) ∧ ([] ++ l, ()) = (l, ())) := by kernel_rfl

theorem words_eq (l : List Int) : vc (EV [(75, cIsWord)]) (lWords l) Go.Proofs.Tryd.f71 cWords (l, ()) = (Small RU (Sigma.mk (Ty.slice (3 : Nat) (Ty.int IntKind.i64)) l) →
  (∃ (p : Int × Unit), l = l ∧ (0 : Int) = p.fst ∧ (0 : Int) ≤ p.fst ∧ p.fst ≤ (↑(List.length l) : Int) ∧ List.all (List.take (Int.toNat p.fst) l) isWord = true) ∧
    ∀ (p : Int × Unit),
      let e2 : Bool × Unit := (List.all l isWord, ());
      let e1 : Bool := decide (p.fst < (↑(List.length l) : Int));
      let e0 : Bool := !isWord (List.getD l (Int.toNat p.fst) (0 : Int));
      (0 : Int) ≤ p.fst ∧ p.fst ≤ (↑(List.length l) : Int) ∧ List.all (List.take (Int.toNat p.fst) l) isWord = true →
        (e1 = true →
            ((0 : Int) ≤ p.fst ∧ p.fst < (↑(List.length l) : Int)) ∧
              (e0 = true → (false, ()) = e2) ∧
                (e0 = false →
                  ∃ (p' : Int × Unit),
                    l = l ∧
                      IntKind.wrap IntKind.i64 (p.fst + (1 : Int)) = p'.fst ∧
                        ((0 : Int) ≤ p'.fst ∧ p'.fst ≤ (↑(List.length l) : Int) ∧ List.all (List.take (Int.toNat p'.fst) l) isWord = true) ∧
                          List.length l - Int.toNat p'.fst < List.length l - Int.toNat p.fst)) ∧
          (e1 = false → (true, ()) = e2)) := by kernel_rfl

theorem equal_eq (l m : List Int) : vc (EV []) (lEqual l m) Go.Proofs.Tryd.f23 cEqual (l, m, ()) = (let e0 : Bool := decide (List.length l = List.length m);
  Small RU (Sigma.mk (Ty.slice (3 : Nat) (Ty.int IntKind.i64)) l) →
  Small RU (Sigma.mk (Ty.slice (3 : Nat) (Ty.int IntKind.i64)) m) →
    (∃ (p : Int × Bool × Unit),
        l = l ∧
          m = m ∧
            false = false ∧
              (0 : Int) = p.fst ∧
                ((↑(List.length l) : Int) == (↑(List.length m) : Int)) = p.snd.fst ∧
                  (0 : Int) ≤ p.fst ∧ p.fst ≤ (↑(List.length l) : Int) ∧ p.snd.fst = (e0 && decide (List.take (Int.toNat p.fst) l = List.take (Int.toNat p.fst) m))) ∧
      ∀ (p : Int × Bool × Unit),
        let e1 : Bool := e0;
        let e0 : Bool := p.snd.fst && decide (p.fst < (↑(List.length l) : Int));
        (0 : Int) ≤ p.fst ∧ p.fst ≤ (↑(List.length l) : Int) ∧ p.snd.fst = (e1 && decide (List.take (Int.toNat p.fst) l = List.take (Int.toNat p.fst) m)) →
          (e0 = true →
              ((0 : Int) ≤ p.fst ∧ p.fst < (↑(List.length l) : Int)) ∧
                ((0 : Int) ≤ p.fst ∧ p.fst < (↑(List.length m) : Int)) ∧
                  ∃ (p' : Int × Bool × Unit),
                    l = l ∧
                      m = m ∧
                        false = false ∧
                          IntKind.wrap IntKind.i64 (p.fst + (1 : Int)) = p'.fst ∧
                            (List.getD l (Int.toNat p.fst) (0 : Int) == List.getD m (Int.toNat p.fst) (0 : Int)) = p'.snd.fst ∧
                              ((0 : Int) ≤ p'.fst ∧ p'.fst ≤ (↑(List.length l) : Int) ∧ p'.snd.fst = (e1 && decide (List.take (Int.toNat p'.fst) l = List.take (Int.toNat p'.fst) m))) ∧
                                List.length l - Int.toNat p'.fst < List.length l - Int.toNat p.fst) ∧
            (e0 = false → (p.snd.fst, ()) = (decide (l = m), ()))) := by kernel_rfl

theorem upto_eq (n : Int) : vc (EV []) (lUpto n) Go.Proofs.Tryd.f45 cUpto (n, ()) = ((∃ (p : Int × List Int × Unit),
    n = n ∧ (0 : Int) = p.fst ∧ [] = p.snd.fst ∧ (0 : Int) ≤ p.fst ∧ (p.fst ≤ n ∨ p.fst = (0 : Int)) ∧ p.snd.fst = List.map (fun (n : Nat) => (↑n : Int)) (List.range (Int.toNat p.fst))) ∧
  ∀ (p : Int × List Int × Unit),
    let e0 : Bool := decide (p.fst < n);
    (0 : Int) ≤ p.fst ∧ (p.fst ≤ n ∨ p.fst = (0 : Int)) ∧ p.snd.fst = List.map (fun (n : Nat) => (↑n : Int)) (List.range (Int.toNat p.fst)) →
      (e0 = true →
          (List.length p.snd.fst + List.length [p.fst]) * (8 : Nat) ≤ (140737488355328 : Nat) ∧
            ∃ (p' : Int × List Int × Unit),
              n = n ∧
                IntKind.wrap IntKind.i64 (p.fst + (1 : Int)) = p'.fst ∧
                  p.snd.fst ++ [p.fst] = p'.snd.fst ∧
                    ((0 : Int) ≤ p'.fst ∧ (p'.fst ≤ n ∨ p'.fst = (0 : Int)) ∧ p'.snd.fst = List.map (fun (n : Nat) => (↑n : Int)) (List.range (Int.toNat p'.fst))) ∧
                      Int.toNat n - Int.toNat p'.fst < Int.toNat n - Int.toNat p.fst) ∧
        (e0 = false → (p.snd.fst, ()) = (List.map (fun (n : Nat) => (↑n : Int)) (List.range (Int.toNat n)), ()))) := by kernel_rfl

theorem lens_eq (l : List Node) : vc (EV []) (lLens l) Go.Proofs.Tryd.f47 cLens (l, ()) = (Small RU (Sigma.mk (Ty.slice (56 : Nat) (Ty.user (0 : Nat))) l) →
  (∃ (p : Int × List Int × Unit), l = l ∧ (0 : Int) = p.fst ∧ l = l ∧ [] = p.snd.fst ∧ (0 : Int) ≤ p.fst ∧ p.fst ≤ (↑(List.length l) : Int) ∧ p.snd.fst = lensOf (List.take (Int.toNat p.fst) l)) ∧
    ∀ (p : Int × List Int × Unit),
      let e3 : Bool := decide (p.fst < (↑(List.length l) : Int));
      let e2 : Nat := List.length l - Int.toNat p.fst;
      let e1 : Int := IntKind.wrap IntKind.i64 (p.fst + (1 : Int));
      let e0 : Node := List.getD l (Int.toNat p.fst) (Node.mk (0 : Int) (0 : Int) (0 : Int) (0 : Int) (0 : Int) (0 : Int) []);
      (0 : Int) ≤ p.fst ∧ p.fst ≤ (↑(List.length l) : Int) ∧ p.snd.fst = lensOf (List.take (Int.toNat p.fst) l) →
        (e3 = true →
            ((0 : Int) ≤ p.fst ∧ p.fst < (↑(List.length l) : Int)) ∧
              ((e0.kind == (0 : Int)) = true →
                  (List.length p.snd.fst + List.length [if (2097152 : Int) < (↑(List.length e0.words) : Int) then (2097152 : Int) else (↑(List.length e0.words) : Int)]) * (8 : Nat) ≤
                      (140737488355328 : Nat) ∧
                    ∃ (p' : Int × List Int × Unit),
                      l = l ∧
                        e1 = p'.fst ∧
                          l = l ∧
                            p.snd.fst ++ [if (2097152 : Int) < (↑(List.length e0.words) : Int) then (2097152 : Int) else (↑(List.length e0.words) : Int)] = p'.snd.fst ∧
                              ((0 : Int) ≤ p'.fst ∧ p'.fst ≤ (↑(List.length l) : Int) ∧ p'.snd.fst = lensOf (List.take (Int.toNat p'.fst) l)) ∧ List.length l - Int.toNat p'.fst < e2) ∧
                ((e0.kind == (0 : Int)) = false →
                  ((e0.kind == (1 : Int)) = true →
                      ((0 : Int) ≤ e0.a ∧ e0.a < (↑(List.length p.snd.fst) : Int)) ∧
                        ((0 : Int) ≤ e0.b ∧ e0.b < (↑(List.length p.snd.fst) : Int)) ∧
                          (List.length p.snd.fst +
                                  List.length
                                    [if (2097152 : Int) < IntKind.wrap IntKind.i64 (List.getD p.snd.fst (Int.toNat e0.a) (0 : Int) + List.getD p.snd.fst (Int.toNat e0.b) (0 : Int)) then
                                        (2097152 : Int)
                                      else IntKind.wrap IntKind.i64 (List.getD p.snd.fst (Int.toNat e0.a) (0 : Int) + List.getD p.snd.fst (Int.toNat e0.b) (0 : Int))]) *
                                (8 : Nat) ≤
                              (140737488355328 : Nat) ∧
                            ∃ (p' : Int × List Int × Unit),
                              l = l ∧
                                e1 = p'.fst ∧
                                  l = l ∧
                                    p.snd.fst ++
                                          [if (2097152 : Int) < IntKind.wrap IntKind.i64 (List.getD p.snd.fst (Int.toNat e0.a) (0 : Int) + List.getD p.snd.fst (Int.toNat e0.b) (0 : Int)) then
                                              (2097152 : Int)
                                            else IntKind.wrap IntKind.i64 (List.getD p.snd.fst (Int.toNat e0.a) (0 : Int) + List.getD p.snd.fst (Int.toNat e0.b) (0 : Int))] =
                                        p'.snd.fst ∧
                                      ((0 : Int) ≤ p'.fst ∧ p'.fst ≤ (↑(List.length l) : Int) ∧ p'.snd.fst = lensOf (List.take (Int.toNat p'.fst) l)) ∧ List.length l - Int.toNat p'.fst < e2) ∧
                    ((e0.kind == (1 : Int)) = false →
                      ((e0.kind == (2 : Int)) = true →
                          (List.length p.snd.fst + List.length [if (2097152 : Int) < e0.len then (2097152 : Int) else e0.len]) * (8 : Nat) ≤ (140737488355328 : Nat) ∧
                            ∃ (p' : Int × List Int × Unit),
                              l = l ∧
                                e1 = p'.fst ∧
                                  l = l ∧
                                    p.snd.fst ++ [if (2097152 : Int) < e0.len then (2097152 : Int) else e0.len] = p'.snd.fst ∧
                                      ((0 : Int) ≤ p'.fst ∧ p'.fst ≤ (↑(List.length l) : Int) ∧ p'.snd.fst = lensOf (List.take (Int.toNat p'.fst) l)) ∧ List.length l - Int.toNat p'.fst < e2) ∧
                        ((e0.kind == (2 : Int)) = false →
                          ((0 : Int) ≤ e0.a ∧ e0.a < (↑(List.length p.snd.fst) : Int)) ∧
                            (List.length p.snd.fst +
                                    List.length [if (2097152 : Int) < List.getD p.snd.fst (Int.toNat e0.a) (0 : Int) then (2097152 : Int) else List.getD p.snd.fst (Int.toNat e0.a) (0 : Int)]) *
                                  (8 : Nat) ≤
                                (140737488355328 : Nat) ∧
                              ∃ (p' : Int × List Int × Unit),
                                l = l ∧
                                  e1 = p'.fst ∧
                                    l = l ∧
                                      p.snd.fst ++ [if (2097152 : Int) < List.getD p.snd.fst (Int.toNat e0.a) (0 : Int) then (2097152 : Int) else List.getD p.snd.fst (Int.toNat e0.a) (0 : Int)] =
                                          p'.snd.fst ∧
                                        ((0 : Int) ≤ p'.fst ∧ p'.fst ≤ (↑(List.length l) : Int) ∧ p'.snd.fst = lensOf (List.take (Int.toNat p'.fst) l)) ∧ List.length l - Int.toNat p'.fst < e2)))) ∧
          (e3 = false → (p.snd.fst, ()) = (lensOf l, ()))) := by kernel_rfl

end Go.Rp
end

section
set_option linter.unusedVariables false
set_option linter.unusedSimpArgs false
set_option maxRecDepth 100000
namespace Go.Rp
open Go Go.VT

theorem w64_id {n : Int} (h1 : -9223372036854775808 ≤ n) (h2 : n < 9223372036854775808) : IntKind.i64.wrap n = n := by rw [IntKind.wrap_i64]; omega

theorem lies_gives : Gives prog RG 41 cLies := gives allNil (fun _ => noL) (by kernel_rfl) (by kernel_rfl) (by kernel_rfl) fun (n, lo, hi, ()) _ => (lies_eq n lo hi).mpr rfl
theorem isWord_gives : Gives prog RG 75 cIsWord := gives (allCons lies_gives allNil) (fun _ => noL) (by kernel_rfl) (by kernel_rfl) (by kernel_rfl) fun (n, ()) _ => (isWord_eq n).mpr rfl

theorem word_wraps (n : Int) : IntKind.i64.wrap (IntKind.i32.wrap (IntKind.u32.wrap (IntKind.u64.wrap n))) = word n := by
  unfold word
  rw [IntKind.wrap_i64, IntKind.wrap_i32, IntKind.wrap_i32, IntKind.wrap_u32, IntKind.wrap_u64]
  omega

theorem word_gives : Gives prog RG 76 cWord := gives allNil (fun _ => noL) (by kernel_rfl) (by kernel_rfl) (by kernel_rfl) fun (n, ()) _ => (word_eq n).mpr (by rw [word_wraps])

theorem take_succ_getD {α : Type} {l : List α} {i : Nat} (h : i < l.length) (d : α) : l.take (i + 1) = l.take i ++ [l.getD i d] := by
  rw [List.take_succ_eq_append_getElem h]
  simp [List.getD, List.getElem?_eq_getElem h]

theorem words_vc (l : List Int) : vc (EV [(75, cIsWord)]) (lWords l) Go.Proofs.Tryd.f71 cWords (l, ()) := (words_eq l).mpr (by
  intro hs
  have hlen := hs.len
  simp only [most] at hlen
  refine ⟨⟨(0, ()), rfl, rfl, Int.le_refl _, by omega, by simp⟩, ?_⟩
  rintro ⟨i, ⟨⟩⟩ e2 e1 e0 ⟨h0, h1, h2⟩
  dsimp only at h0 h1 h2 e1 e0 ⊢
  obtain ⟨m, rfl⟩ := Int.eq_ofNat_of_zero_le h0
  simp only [Int.toNat_natCast, e1, e0, e2, decide_eq_true_eq, decide_eq_false_iff_not] at h2 ⊢
  have hts : ∀ h : m < l.length, (l.take (m + 1)).all isWord = isWord (l.getD m 0) := fun h => by rw [take_succ_getD h 0, List.all_append, h2]; simp
  refine ⟨fun hlt => ⟨⟨h0, hlt⟩, fun hb => ?_, fun hb => ?_⟩, fun hge => ?_⟩
  · have : l.all isWord = false := by
      have h3 := hts (by omega)
      simp only [Bool.not_eq_true'] at hb
      rw [hb] at h3
      rw [← List.take_append_drop (m + 1) l, List.all_append, h3]
      rfl
    rw [this]
  · refine ⟨((m + 1 : Nat), ()), by trivial, ?_, ⟨by omega, by dsimp only; omega, ?_⟩, by dsimp only; omega⟩
    · rw [w64_id (by omega) (by omega)]; rfl
    · dsimp only
      rw [Int.toNat_natCast, hts (by omega)]
      simpa using hb
  · have : m = l.length := by omega
    subst this
    rw [List.take_length] at h2
    rw [h2])
theorem words_gives : Gives prog RG 71 cWords := gives (allCons isWord_gives allNil) (fun p => lWords p.1) (by kernel_rfl) (by kernel_rfl) (by kernel_rfl) fun (l, ()) _ => words_vc l

theorem copy_vc (l : List Int) (hp : l.length ≤ 17592186044416) : vc (EV []) noL Go.Proofs.Tryd.f77 cCopy (l, ()) := (copy_eq l).mpr (by
  intro hs
  exact ⟨by omega, rfl⟩)
theorem copy_gives : Gives prog RG 77 cCopy := gives allNil (fun _ => noL) (by kernel_rfl) (by kernel_rfl) (by kernel_rfl) fun (l, ()) hp => copy_vc l hp

theorem equal_vc (l m : List Int) : vc (EV []) (lEqual l m) Go.Proofs.Tryd.f23 cEqual (l, m, ()) := (equal_eq l m).mpr (by
  intro e hs1 hs2
  have hl1 := hs1.len
  have hl2 := hs2.len
  simp only [most] at hl1 hl2
  refine ⟨⟨(0, decide (l.length = m.length), ()), rfl, rfl, rfl, rfl, ?_, Int.le_refl _, by dsimp only; omega, by simp [e]⟩, ?_⟩
  · rw [Bool.eq_iff_iff]; simp; omega
  rintro ⟨i, b, ⟨⟩⟩ e1 e0 ⟨h0, h1, h2⟩
  dsimp only [e1, e, e0] at h0 h1 h2 ⊢
  obtain ⟨k, rfl⟩ := Int.eq_ofNat_of_zero_le h0
  clear e0 e1
  simp only [Int.toNat_natCast] at h2 ⊢
  have h2' : b = true ↔ (l.length = m.length ∧ l.take k = m.take k) := by rw [h2]; simp
  refine ⟨fun hb => ?_, fun hb => ?_⟩
  · simp only [Bool.and_eq_true, decide_eq_true_eq] at hb
    obtain ⟨hb, hlt⟩ := hb
    obtain ⟨hlen, htk⟩ := h2'.1 hb
    refine ⟨⟨h0, hlt⟩, ⟨h0, by omega⟩, ((k + 1 : Nat), decide (l.getD k 0 = m.getD k 0), ()), by trivial, by trivial, by trivial, ?_, ?_, ⟨by omega, by dsimp only; omega, ?_⟩, by dsimp only; omega⟩
    · rw [w64_id (by omega) (by omega)]; rfl
    · rw [Bool.eq_iff_iff]; simp
    · dsimp only
      rw [Int.toNat_natCast, take_succ_getD (by omega : k < l.length) 0, take_succ_getD (by omega : k < m.length) 0, htk]
      simp [hlen]
  · have : b = decide (l = m) := by
      rw [Bool.eq_iff_iff, h2', decide_eq_true_eq]
      simp only [Bool.and_eq_false_iff, decide_eq_false_iff_not] at hb
      constructor
      · rintro ⟨h3, h4⟩
        have hk : k = l.length := by
          rcases hb with hb | hb
          · exact absurd (h2'.2 ⟨h3, h4⟩) (by simp [hb])
          · omega
        subst hk
        rw [List.take_length] at h4
        rw [h3, List.take_length] at h4
        exact h4
      · rintro rfl
        exact ⟨rfl, rfl⟩
    rw [this])
theorem equal_gives : Gives prog RG 23 cEqual := gives allNil (fun p => lEqual p.1 p.2.1) (by kernel_rfl) (by kernel_rfl) (by kernel_rfl) fun (l, m, ()) _ => equal_vc l m

theorem upto_vc (n : Int) (hp : n ≤ 17592186044416) : vc (EV []) (lUpto n) Go.Proofs.Tryd.f45 cUpto (n, ()) := (upto_eq n).mpr (by
  refine ⟨⟨(0, [], ()), rfl, rfl, rfl, Int.le_refl _, .inr rfl, rfl⟩, ?_⟩
  rintro ⟨i, out, ⟨⟩⟩ e0 ⟨h0, h1, h2⟩
  dsimp only at h0 h1 h2 e0 ⊢
  obtain ⟨k, rfl⟩ := Int.eq_ofNat_of_zero_le h0
  simp only [Int.toNat_natCast, e0, decide_eq_true_eq, decide_eq_false_iff_not] at h2 ⊢
  subst h2
  refine ⟨fun hlt => ⟨?_, ((k + 1 : Nat), (List.range (k + 1)).map (fun n : Nat => (n : Int)), ()), by trivial, ?_, ?_, ⟨by omega, .inl (by dsimp only; omega), by simp⟩, by dsimp only; omega⟩, fun hge => ?_⟩
  · simp; omega
  · rw [w64_id (by omega) (by omega)]; rfl
  · simp [List.range_succ]
  · have : n.toNat = k := by omega
    rw [this])
theorem upto_gives : Gives prog RG 45 cUpto := gives allNil (fun p => lUpto p.1) (by kernel_rfl) (by kernel_rfl) (by kernel_rfl) fun (n, ()) hp => upto_vc n hp
end Go.Rp
end

section
set_option linter.unusedVariables false
set_option maxRecDepth 100000
open Go Go.VT
namespace Go.Rp

theorem isPart_eq (length from_ many : Int) : vc (EV [(41, cLies)]) noL Go.Proofs.Tryd.f74 cIsPart (length, from_, many, ()) = ((lies from_ (0 : Int) length && lies many (0 : Int) (IntKind.wrap IntKind.i64 (length - from_)), ()) = (isPartOf length from_ many, ())) := by kernel_rfl

theorem fields_eq (x1 x2 x3 x4 x5 x6 : Int) (w : List Int) (i : Int) : vc (EV [(41, cLies), (71, cWords), (75, cIsWord)]) noL Go.Proofs.Tryd.f82 cFields (x1, x2, x3, x4, x5, x6, w, i, ()) = (let e2 : Int := IntKind.wrap IntKind.i64 (i - (1 : Int));
  let e1 : Bool := lies x2 (0 : Int) e2;
  let e0 : Bool × Unit := (fieldsOf (Node.mk x1 x2 x3 x4 x5 x6 w) i, ());
  Small RU (Sigma.mk (Ty.slice (3 : Nat) (Ty.int IntKind.i64)) w) →
  ((x1 == (0 : Int)) = true → (x2 == (0 : Int) && x3 == (0 : Int) && x4 == (0 : Int) && x5 == (0 : Int) && x6 == (0 : Int) && List.all w isWord, ()) = e0) ∧
    ((x1 == (0 : Int)) = false →
      ((x1 == (1 : Int)) = true → (e1 && lies x3 (0 : Int) e2 && x4 == (0 : Int) && x5 == (0 : Int) && x6 == (0 : Int) && (↑(List.length w) : Int) == (0 : Int), ()) = e0) ∧
        ((x1 == (1 : Int)) = false →
          ((x1 == (2 : Int)) = true → (e1 && x3 == (0 : Int) && x6 == (0 : Int) && (↑(List.length w) : Int) == (0 : Int), ()) = e0) ∧
            ((x1 == (2 : Int)) = false →
              ((x1 == (3 : Int)) = true → (e1 && x3 == (0 : Int) && x4 == (0 : Int) && x5 == (0 : Int) && isWord x6 && (↑(List.length w) : Int) == (0 : Int), ()) = e0) ∧
                ((x1 == (3 : Int)) = false → (false, ()) = e0))))) := by kernel_rfl

theorem valid_eq (l : List Node) : vc (EV [(82, cFields), (47, cLens), (74, cIsPart)]) (lValid l) Go.Proofs.Tryd.f73 cValid (l, ()) = (Small RU (Sigma.mk (Ty.slice (56 : Nat) (Ty.user (0 : Nat))) l) →
  (∃ (p : Int × Unit),
      l = l ∧ (0 : Int) = p.fst ∧ l = l ∧ (0 : Int) ≤ p.fst ∧ p.fst ≤ (↑(List.length l) : Int) ∧ ∀ (i : Nat), i < Int.toNat p.fst → fieldsOf (List.getD l i node0) (↑i : Int) = true) ∧
    ∀ (p : Int × Unit),
      let e2 : Node := Node.mk (0 : Int) (0 : Int) (0 : Int) (0 : Int) (0 : Int) (0 : Int) [];
      let e1 : Bool := decide (p.fst < (↑(List.length l) : Int));
      let e0 : Node := List.getD l (Int.toNat p.fst) e2;
      ((0 : Int) ≤ p.fst ∧ p.fst ≤ (↑(List.length l) : Int) ∧ ∀ (i : Nat), i < Int.toNat p.fst → fieldsOf (List.getD l i node0) (↑i : Int) = true) →
        (e1 = true →
            ((0 : Int) ≤ p.fst ∧ p.fst < (↑(List.length l) : Int)) ∧
              ((0 : Int) ≤ p.fst ∧ p.fst ≤ (4000000 : Int)) ∧
                ((!fieldsOf (Node.mk e0.kind e0.a e0.b e0.from_ e0.len e0.n e0.words) p.fst) = true → (false, ()) = (validOf l, ())) ∧
                  ((!fieldsOf (Node.mk e0.kind e0.a e0.b e0.from_ e0.len e0.n e0.words) p.fst) = false →
                    ∃ (p' : Int × Unit),
                      l = l ∧
                        IntKind.wrap IntKind.i64 (p.fst + (1 : Int)) = p'.fst ∧
                          l = l ∧
                            ((0 : Int) ≤ p'.fst ∧ p'.fst ≤ (↑(List.length l) : Int) ∧ ∀ (i : Nat), i < Int.toNat p'.fst → fieldsOf (List.getD l i node0) (↑i : Int) = true) ∧
                              List.length l - Int.toNat p'.fst < List.length l - Int.toNat p.fst)) ∧
          (e1 = false →
            (List.length l ≤ (17592186044416 : Nat) ∧
                ∀ (i : Nat) (x : Node),
                  l[i]? = some x →
                    (x.kind = (1 : Int) → ((0 : Int) ≤ x.a ∧ x.a < (↑i : Int)) ∧ (0 : Int) ≤ x.b ∧ x.b < (↑i : Int)) ∧
                      (x.kind ≠ (0 : Int) → x.kind ≠ (1 : Int) → x.kind ≠ (2 : Int) → (0 : Int) ≤ x.a ∧ x.a < (↑i : Int))) ∧
              (∃ (p_1 : Int × Unit),
                  l = l ∧
                    p.fst = p.fst ∧
                      e1 = e1 ∧
                        (0 : Int) = p_1.fst ∧
                          l = l ∧
                            lensOf l = lensOf l ∧
                              (0 : Int) ≤ p_1.fst ∧
                                p_1.fst ≤ (↑(List.length l) : Int) ∧ ∀ (i : Nat), i < Int.toNat p_1.fst → nodeOk (lensOf l) (List.getD l i node0) (List.getD (lensOf l) i (0 : Int)) = true) ∧
                ∀ (p_1 : Int × Unit),
                  let e4 : Int := (↑(List.length (lensOf l)) : Int);
                  let e3 : Bool := decide (p_1.fst < (↑(List.length l) : Int));
                  let e2_1 : Bool := e1;
                  let e1 : Bool := decide (List.getD (lensOf l) (Int.toNat p_1.fst) (0 : Int) > (1048576 : Int));
                  let e0 : Node := List.getD l (Int.toNat p_1.fst) e2;
                  ((0 : Int) ≤ p_1.fst ∧ p_1.fst ≤ (↑(List.length l) : Int) ∧ ∀ (i : Nat), i < Int.toNat p_1.fst → nodeOk (lensOf l) (List.getD l i node0) (List.getD (lensOf l) i (0 : Int)) = true) →
                    (e3 = true →
                        ((0 : Int) ≤ p_1.fst ∧ p_1.fst < (↑(List.length l) : Int)) ∧
                          ((0 : Int) ≤ p_1.fst ∧ p_1.fst < e4) ∧
                            (e1 = false → (e0.kind == (2 : Int)) = true → (0 : Int) ≤ e0.a ∧ e0.a < e4) ∧
                              ((e1 || e0.kind == (2 : Int) && !isPartOf (List.getD (lensOf l) (Int.toNat e0.a) (0 : Int)) e0.from_ e0.len) = true → (false, ()) = (validOf l, ())) ∧
                                ((e1 || e0.kind == (2 : Int) && !isPartOf (List.getD (lensOf l) (Int.toNat e0.a) (0 : Int)) e0.from_ e0.len) = false →
                                  ∃ (p' : Int × Unit),
                                    l = l ∧
                                      p.fst = p.fst ∧
                                        e2_1 = e2_1 ∧
                                          IntKind.wrap IntKind.i64 (p_1.fst + (1 : Int)) = p'.fst ∧
                                            l = l ∧
                                              lensOf l = lensOf l ∧
                                                ((0 : Int) ≤ p'.fst ∧
                                                    p'.fst ≤ (↑(List.length l) : Int) ∧
                                                      ∀ (i : Nat), i < Int.toNat p'.fst → nodeOk (lensOf l) (List.getD l i node0) (List.getD (lensOf l) i (0 : Int)) = true) ∧
                                                  List.length l - Int.toNat p'.fst < List.length l - Int.toNat p_1.fst)) ∧
                      (e3 = false → (true, ()) = (validOf l, ())))) := by kernel_rfl

theorem check_eq (l : List Node) : vc (EV [(73, cValid)]) noL Go.Proofs.Tryd.f34 cCheck (l, ()) = (let e0 : Bool := decide ((↑(List.length l) : Int) > (4000 : Int));
  Small RU (Sigma.mk (Ty.slice (56 : Nat) (Ty.user (0 : Nat))) l) →
  (e0 = true → ((3 : Int), ()) = (checkOf l, ())) ∧
    (e0 = false → List.length l ≤ (4000 : Nat) ∧ ((!validOf l) = true → ((1 : Int), ()) = (checkOf l, ())) ∧ ((!validOf l) = false → ((0 : Int), ()) = (checkOf l, ())))) := by kernel_rfl

theorem asked_eq (l : List Node) (r : List Int) : vc (EV [(34, cCheck), (41, cLies)]) (lAsked l r) Go.Proofs.Tryd.f50 cAsked (l, r, ()) = (Small RU (Sigma.mk (Ty.slice (56 : Nat) (Ty.user (0 : Nat))) l) →
  Small RU (Sigma.mk (Ty.slice (3 : Nat) (Ty.int IntKind.i64)) r) →
    ((checkOf l != (0 : Int)) = true → (checkOf l, ()) = (askedOf l r, ())) ∧
      ((checkOf l != (0 : Int)) = false →
        (∃ (p : Int × Unit),
            l = l ∧
              r = r ∧
                checkOf l = checkOf l ∧
                  (checkOf l != (0 : Int)) = (checkOf l != (0 : Int)) ∧
                    (0 : Int) = p.fst ∧
                      l = l ∧
                        (0 : Int) ≤ p.fst ∧
                          p.fst ≤ (↑(List.length r) : Int) ∧
                            checkOf l = (0 : Int) ∧ ∀ (i : Nat), i < Int.toNat p.fst → lies (List.getD r i (0 : Int)) (0 : Int) ((↑(List.length l) : Int) - (1 : Int)) = true) ∧
          ∀ (p : Int × Unit),
            let e1 : Bool := decide (p.fst < (↑(List.length r) : Int));
            let e0 : Bool := !lies (List.getD r (Int.toNat p.fst) (0 : Int)) (0 : Int) (IntKind.wrap IntKind.i64 ((↑(List.length l) : Int) - (1 : Int)));
            ((0 : Int) ≤ p.fst ∧
                p.fst ≤ (↑(List.length r) : Int) ∧ checkOf l = (0 : Int) ∧ ∀ (i : Nat), i < Int.toNat p.fst → lies (List.getD r i (0 : Int)) (0 : Int) ((↑(List.length l) : Int) - (1 : Int)) = true) →
              (e1 = true →
                  ((0 : Int) ≤ p.fst ∧ p.fst < (↑(List.length r) : Int)) ∧
                    (e0 = true → ((2 : Int), ()) = (askedOf l r, ())) ∧
                      (e0 = false →
                        ∃ (p' : Int × Unit),
                          l = l ∧
                            r = r ∧
                              checkOf l = checkOf l ∧
                                (checkOf l != (0 : Int)) = (checkOf l != (0 : Int)) ∧
                                  IntKind.wrap IntKind.i64 (p.fst + (1 : Int)) = p'.fst ∧
                                    l = l ∧
                                      ((0 : Int) ≤ p'.fst ∧
                                          p'.fst ≤ (↑(List.length r) : Int) ∧
                                            checkOf l = (0 : Int) ∧ ∀ (i : Nat), i < Int.toNat p'.fst → lies (List.getD r i (0 : Int)) (0 : Int) ((↑(List.length l) : Int) - (1 : Int)) = true) ∧
                                        List.length r - Int.toNat p'.fst < List.length r - Int.toNat p.fst)) ∧
                (e1 = false → ((0 : Int), ()) = (askedOf l r, ())))) := by kernel_rfl

end Go.Rp
end

section
set_option linter.unusedVariables false
set_option linter.unusedSimpArgs false
set_option maxRecDepth 100000
namespace Go.Rp
open Go Go.VT

theorem lensOf_snoc (l : List Node) (x : Node) : lensOf (l ++ [x]) = lensOf l ++ [lenOf (lensOf l) x] := by simp [lensOf]
theorem lensOf_length (l : List Node) : (lensOf l).length = l.length := by
  have : ∀ (l : List Node) (out : List Int), (l.foldl (fun out x => out ++ [lenOf out x]) out).length = out.length + l.length := by
    intro l
    induction l with
    | nil => intro out; rfl
    | cons x l ih => intro out; rw [List.foldl_cons, ih]; simp; omega
  unfold lensOf
  simpa using this l []

theorem imin (x : Int) : (if (2097152 : Int) < x then 2097152 else x) = min x 2097152 := by
  rw [Int.min_def]; split <;> split <;> omega

theorem lens_vc (l : List Node) (hlen : l.length ≤ 17592186044416) (hah : ∀ (i : Nat) (x : Node), l[i]? = some x → ahead x i) : vc (EV []) (lLens l) Go.Proofs.Tryd.f47 cLens (l, ()) := (lens_eq l).mpr (by
  intro _
  refine ⟨⟨(0, [], ()), rfl, rfl, rfl, rfl, Int.le_refl _, by dsimp only; omega, rfl⟩, ?_⟩
  rintro ⟨i, out, ⟨⟩⟩ e3 e2 e1 e0 ⟨h0, h1, h2⟩
  dsimp only at h0 h1 h2
  obtain ⟨m, rfl⟩ := Int.eq_ofNat_of_zero_le h0
  rw [Int.toNat_natCast] at h2
  refine ⟨fun h3 => ?_, fun h3 => ?_⟩
  · have hlt : m < l.length := by simpa [e3] using h3
    have he0 : e0 = l.getD m node0 := rfl
    have hx : l[m]? = some e0 := by rw [he0]; simp [List.getD, List.getElem?_eq_getElem hlt]
    have hout : out.length = m := by rw [h2, lensOf_length]; simp; omega
    have ha := hah m e0 hx
    have fin : ∀ v, v = lenOf out e0 → ((out.length + [v].length) * 8 ≤ 140737488355328 ∧ ∃ p' : Int × List Int × Unit, l = l ∧ e1 = p'.1 ∧ l = l ∧ out ++ [v] = p'.2.1 ∧ (0 ≤ p'.1 ∧ p'.1 ≤ l.length ∧ p'.2.1 = lensOf (l.take p'.1.toNat)) ∧ l.length - p'.1.toNat < e2) := by
      intro v hv
      refine ⟨by simp [hout]; omega, ((m + 1 : Nat), out ++ [v], ()), rfl, ?_, rfl, rfl, ⟨by dsimp only; omega, by dsimp only; omega, ?_⟩, ?_⟩
      · simp only [e1]; rw [w64_id (by omega) (by omega)]; rfl
      · dsimp only; rw [Int.toNat_natCast, take_succ_getD hlt node0, lensOf_snoc, ← h2, hv, he0]
      · simp only [e2, Int.toNat_natCast]; omega
    clear_value e0
    clear e3 h3
    obtain ⟨ha1, ha2⟩ := ha
    dsimp only
    refine ⟨⟨h0, by omega⟩, fun hk => fin _ ?_, fun hk => ⟨fun hk1 => ⟨?_, ?_, fin _ ?_⟩, fun hk1 => ⟨fun hk2 => fin _ ?_, fun hk2 => ⟨?_, fin _ ?_⟩⟩⟩⟩
    · rw [imin, lenOf, if_pos (by simpa using hk)]
    · have := (ha1 (by simpa using hk1)).1
      omega
    · have := (ha1 (by simpa using hk1)).2
      omega
    · rw [imin, lenOf, if_neg (by simpa using hk), if_pos (by simpa using hk1)]
      rfl
    · rw [imin, lenOf, if_neg (by simpa using hk), if_neg (by simpa using hk1), if_pos (by simpa using hk2)]
    · have := ha2 (by simpa using hk) (by simpa using hk1) (by simpa using hk2)
      omega
    · rw [imin, lenOf, if_neg (by simpa using hk), if_neg (by simpa using hk1), if_neg (by simpa using hk2)]
      rfl
  · have : m = l.length := by
      have : ¬ ((m : Int) < l.length) := by simpa [e3] using h3
      omega
    subst this
    rw [List.take_length] at h2
    rw [h2])
theorem lens_gives : Gives prog RG 47 cLens := gives allNil (fun p => lLens p.1) (by kernel_rfl) (by kernel_rfl) (by kernel_rfl) fun (l, ()) hp => lens_vc l hp.1 hp.2

theorem isPart_gives : Gives prog RG 74 cIsPart := gives (allCons lies_gives allNil) (fun _ => noL) (by kernel_rfl) (by kernel_rfl) (by kernel_rfl) fun (n, f, m, ()) _ => (isPart_eq n f m).mpr rfl

theorem nil_len (w : List Int) : (((w.length : Int) == 0) : Bool) = decide (w = []) := by
  cases w with
  | nil => rfl
  | cons a w =>
    rw [Bool.eq_iff_iff]
    simp
    omega

theorem fields_vc (x1 x2 x3 x4 x5 x6 : Int) (w : List Int) (i : Int) (hi : 0 ≤ i ∧ i ≤ 4000000) : vc (EV [(41, cLies), (71, cWords), (75, cIsWord)]) noL Go.Proofs.Tryd.f82 cFields (x1, x2, x3, x4, x5, x6, w, i, ()) := (fields_eq x1 x2 x3 x4 x5 x6 w i).mpr (by
  intro e2 e1 e0 hs
  have he2 : e2 = i - 1 := w64_id (by omega) (by omega)
  have key : ∀ b : Bool, b = fieldsOf ⟨x1, x2, x3, x4, x5, x6, w⟩ i → (b, ()) = e0 := by rintro b rfl; rfl
  have he1 : e1 = lies x2 0 e2 := rfl
  clear_value e2 e1 e0
  subst he2; subst he1
  refine ⟨fun h1 => key _ ?_, fun h1 => ⟨fun h2 => key _ ?_, fun h2 => ⟨fun h3 => key _ ?_, fun h3 => ⟨fun h4 => key _ ?_, fun h4 => key _ ?_⟩⟩⟩⟩
  · rw [fieldsOf, if_pos (by simpa using h1), Bool.eq_iff_iff]; simp [and_assoc]
  · rw [fieldsOf, if_neg (by simpa using h1), if_pos (by simpa using h2), nil_len, Bool.eq_iff_iff]; simp [and_assoc]
  · rw [fieldsOf, if_neg (by simpa using h1), if_neg (by simpa using h2), if_pos (by simpa using h3), nil_len, Bool.eq_iff_iff]; simp [and_assoc]
  · rw [fieldsOf, if_neg (by simpa using h1), if_neg (by simpa using h2), if_neg (by simpa using h3), if_pos (by simpa using h4), nil_len, Bool.eq_iff_iff]; simp [and_assoc]
    intro _ _ _ _
    exact and_comm
  · rw [fieldsOf, if_neg (by simpa using h1), if_neg (by simpa using h2), if_neg (by simpa using h3), if_neg (by simpa using h4)])
theorem fields_gives : Gives prog RG 82 cFields := gives (allCons lies_gives (allCons words_gives (allCons isWord_gives allNil))) (fun _ => noL) (by kernel_rfl) (by kernel_rfl) (by kernel_rfl) fun (x1, x2, x3, x4, x5, x6, w, i, ()) hp => fields_vc x1 x2 x3 x4 x5 x6 w i hp

theorem fieldsAll_iff (l : List Node) : fieldsAll l = true ↔ ∀ i : Nat, i < l.length → fieldsOf (l.getD i node0) i = true := by simp [fieldsAll]

theorem lies_iff {n lo hi : Int} : lies n lo hi = true ↔ lo ≤ n ∧ n ≤ hi := by simp [lies]

theorem fields_ahead {x : Node} {i : Nat} (h : fieldsOf x i = true) : ahead x i := by
  unfold fieldsOf at h
  refine ⟨fun hk => ?_, fun h0 h1 h2 => ?_⟩
  · rw [if_neg (by omega), if_pos hk] at h
    simp only [Bool.and_eq_true, lies_iff] at h
    omega
  · rw [if_neg h0, if_neg h1, if_neg h2] at h
    split at h
    · simp only [Bool.and_eq_true, lies_iff] at h
      omega
    · cases h

theorem fields_a {x : Node} {i : Nat} (h : fieldsOf x i = true) (hk : x.kind ≠ 0) : 0 ≤ x.a ∧ x.a < i := by
  unfold fieldsOf at h
  rw [if_neg hk] at h
  split at h
  · simp only [Bool.and_eq_true, lies_iff] at h; omega
  · split at h
    · simp only [Bool.and_eq_true, lies_iff] at h; omega
    · split at h
      · simp only [Bool.and_eq_true, lies_iff] at h; omega
      · cases h

theorem valid_vc (l : List Node) (hl : l.length ≤ 4000) : vc (EV [(82, cFields), (47, cLens), (74, cIsPart)]) (lValid l) Go.Proofs.Tryd.f73 cValid (l, ()) := (valid_eq l).mpr (by
  intro hs
  refine ⟨⟨(0, ()), rfl, rfl, rfl, Int.le_refl _, by dsimp only; omega, fun i hi => by simp at hi⟩, ?_⟩
  rintro ⟨i, ⟨⟩⟩
  dsimp only
  rintro ⟨h0, h1, h2⟩
  obtain ⟨m, rfl⟩ := Int.eq_ofNat_of_zero_le h0
  simp only [Int.toNat_natCast, decide_eq_true_eq, decide_eq_false_iff_not] at h2 ⊢
  refine ⟨fun hlt => ⟨⟨h0, hlt⟩, by omega, fun hb => ?_, fun hb => ?_⟩, fun hge => ?_⟩
  · have : validOf l = false := by
      unfold validOf
      have : fieldsAll l = false := by
        rw [← Bool.not_eq_true, fieldsAll_iff]
        intro hall
        have := hall m (by omega)
        have hb : fieldsOf (l.getD m node0) m = false := by simpa only [Bool.not_eq_true'] using hb
        rw [hb] at this
        cases this
      rw [this, Bool.false_and]
    rw [this]
  · refine ⟨((m + 1 : Nat), ()), by trivial, ?_, by trivial, ⟨by omega, by dsimp only; omega, fun i hi => ?_⟩, by dsimp only; omega⟩
    · rw [w64_id (by omega) (by omega)]; rfl
    · dsimp only at hi
      rw [Int.toNat_natCast] at hi
      rcases Nat.lt_succ_iff_lt_or_eq.1 hi with h3 | h3
      · exact h2 i h3
      · subst h3; simpa using hb
  · have hm : m = l.length := by omega
    subst hm
    have hall := h2
    have hfa : fieldsAll l = true := (fieldsAll_iff l).2 h2
    have hget : ∀ (i : Nat) (x : Node), l[i]? = some x → i < l.length ∧ l.getD i node0 = x := by
      intro i x hx
      obtain ⟨h3, h4⟩ := List.getElem?_eq_some_iff.1 hx
      exact ⟨h3, by simp [List.getD, hx]⟩
    refine ⟨⟨by omega, fun i x hx => ?_⟩, ⟨(0, ()), by trivial, by trivial, by trivial, by trivial, by trivial, by trivial, Int.le_refl _, by dsimp only; omega, fun i hi => by simp at hi⟩, ?_⟩
    · obtain ⟨h3, h4⟩ := hget i x hx
      have := fields_ahead (h2 i h3)
      rw [h4] at this
      exact this
    · rintro ⟨i, ⟨⟩⟩
      dsimp only
      rintro ⟨q0, q1, q2⟩
      obtain ⟨m, rfl⟩ := Int.eq_ofNat_of_zero_le q0
      simp only [Int.toNat_natCast, decide_eq_true_eq, decide_eq_false_iff_not] at q2 ⊢
      have hnode : ∀ hlt : m < l.length, (decide ((lensOf l).getD m 0 > 1048576) || (l.getD m node0).kind == 2 && !isPartOf ((lensOf l).getD (l.getD m node0).a.toNat 0) (l.getD m node0).from_ (l.getD m node0).len) = !nodeOk (lensOf l) (l.getD m node0) ((lensOf l).getD m 0) := by
        intro hlt
        unfold nodeOk at_
        rw [Bool.eq_iff_iff]
        by_cases hk : (l.getD m node0).kind = 2
        · simp [hk]
        · simp [hk]
      refine ⟨fun hlt => ⟨⟨q0, hlt⟩, ⟨q0, by rw [lensOf_length]; exact hlt⟩, fun _ hk => ?_, fun hb => ?_, fun hb => ?_⟩, fun hge => ?_⟩
      · have hk' : (l.getD m node0).kind = 2 := by simpa only [beq_iff_eq] using hk
        have := fields_a (hall m (by omega)) (by omega)
        rw [lensOf_length]
        show 0 ≤ (l.getD m node0).a ∧ (l.getD m node0).a < _
        omega
      · have hb' := hnode (by omega)
        have hno : nodeOk (lensOf l) (l.getD m node0) ((lensOf l).getD m 0) = false := by
          have h5 : (!nodeOk (lensOf l) (l.getD m node0) ((lensOf l).getD m 0)) = true := hb'.symm.trans hb
          simpa using h5
        have : validOf l = false := by
          unfold validOf
          rw [hfa, Bool.true_and, ← Bool.not_eq_true, List.all_eq_true]
          intro h6
          have := h6 m (by simp; omega)
          rw [hno] at this
          cases this
        rw [this]
      · have hb' := hnode (by omega)
        have hyes : nodeOk (lensOf l) (l.getD m node0) ((lensOf l).getD m 0) = true := by
          have h5 : (!nodeOk (lensOf l) (l.getD m node0) ((lensOf l).getD m 0)) = false := hb'.symm.trans hb
          simpa using h5
        refine ⟨((m + 1 : Nat), ()), by trivial, by trivial, by trivial, ?_, by trivial, by trivial, ⟨by omega, by dsimp only; omega, fun i hi => ?_⟩, by dsimp only; omega⟩
        · rw [w64_id (by omega) (by omega)]; rfl
        · dsimp only at hi
          rw [Int.toNat_natCast] at hi
          rcases Nat.lt_succ_iff_lt_or_eq.1 hi with h3 | h3
          · exact q2 i h3
          · subst h3; exact hyes
      · have hm : m = l.length := by omega
        subst hm
        have : validOf l = true := by
          unfold validOf
          rw [hfa, Bool.true_and, List.all_eq_true]
          intro i hi
          exact q2 i (by simpa using hi)
        rw [this])
theorem valid_gives : Gives prog RG 73 cValid := gives (allCons fields_gives (allCons lens_gives (allCons isPart_gives allNil))) (fun p => lValid p.1) (by kernel_rfl) (by kernel_rfl) (by kernel_rfl) fun (l, ()) hp => valid_vc l hp

theorem check_vc (l : List Node) : vc (EV [(73, cValid)]) noL Go.Proofs.Tryd.f34 cCheck (l, ()) := (check_eq l).mpr (by
  intro e0 hs
  simp only [e0, decide_eq_true_eq, decide_eq_false_iff_not]
  refine ⟨fun h => ?_, fun h => ⟨by omega, fun hv => ?_, fun hv => ?_⟩⟩
  · rw [checkOf, if_pos (by omega)]
  · rw [checkOf, if_neg (by omega), if_neg (by simpa using hv)]
  · rw [checkOf, if_neg (by omega), if_pos (by simpa using hv)])
theorem check_gives : Gives prog RG 34 cCheck := gives (allCons valid_gives allNil) (fun _ => noL) (by kernel_rfl) (by kernel_rfl) (by kernel_rfl) fun (l, ()) _ => check_vc l
theorem asked_vc (l : List Node) (r : List Int) : vc (EV [(34, cCheck), (41, cLies)]) (lAsked l r) Go.Proofs.Tryd.f50 cAsked (l, r, ()) := (asked_eq l r).mpr (by
  intro hs1 hs2
  have hl1 : l.length ≤ 140737488355328 := hs1.len
  have hl2 : r.length ≤ 140737488355328 := hs2.len
  have hw : IntKind.i64.wrap ((l.length : Int) - 1) = l.length - 1 := w64_id (by omega) (by omega)
  refine ⟨fun h => ?_, fun h => ⟨⟨(0, ()), rfl, rfl, rfl, rfl, rfl, rfl, Int.le_refl _, by dsimp only; omega, by simpa using h, fun i hi => by simp at hi⟩, ?_⟩⟩
  · rw [askedOf, if_pos (by simpa using h)]
  · have h0 : checkOf l = 0 := by simpa using h
    rintro ⟨i, ⟨⟩⟩
    dsimp only
    rintro ⟨q0, q1, _, q2⟩
    obtain ⟨m, rfl⟩ := Int.eq_ofNat_of_zero_le q0
    simp only [Int.toNat_natCast, decide_eq_true_eq, decide_eq_false_iff_not, hw] at q2 ⊢
    have hask : askedOf l r = if r.all fun r => lies r 0 (l.length - 1) then 0 else 2 := by rw [askedOf, if_neg (by simp [h0])]
    refine ⟨fun hlt => ⟨⟨q0, hlt⟩, fun hb => ?_, fun hb => ?_⟩, fun hge => ?_⟩
    · rw [hask, if_neg]
      intro hall
      have := List.all_eq_true.1 hall (r.getD m 0) (by simp only [List.getD, List.getElem?_eq_getElem (show m < r.length by omega)]; exact List.getElem_mem _)
      rw [this] at hb
      cases hb
    · refine ⟨((m + 1 : Nat), ()), by trivial, by trivial, by trivial, by trivial, ?_, by trivial, ⟨by omega, by dsimp only; omega, h0, fun i hi => ?_⟩, by dsimp only; omega⟩
      · rw [w64_id (by omega) (by omega)]; rfl
      · dsimp only at hi
        rw [Int.toNat_natCast] at hi
        rcases Nat.lt_succ_iff_lt_or_eq.1 hi with h3 | h3
        · exact q2 i h3
        · subst h3; simpa only [Bool.not_eq_false'] using hb
    · rw [hask, if_pos]
      rw [List.all_eq_true]
      intro x hx
      obtain ⟨i, hi, rfl⟩ := List.mem_iff_getElem.1 hx
      have := q2 i (by omega)
      simpa only [List.getD, List.getElem?_eq_getElem hi, Option.getD_some] using this)
theorem asked_gives : Gives prog RG 50 cAsked := gives (allCons check_gives (allCons lies_gives allNil)) (fun p => lAsked p.1 p.2.1) (by kernel_rfl) (by kernel_rfl) (by kernel_rfl) fun (l, r, ()) _ => asked_vc l r

end Go.Rp
end

section
set_option linter.unusedVariables false
set_option maxRecDepth 100000
open Go Go.VT
namespace Go.Rp

theorem own_eq (x1 x2 x3 x4 x5 x6 : Int) (w : List Int) : vc (EV []) noL Go.Proofs.Tryd.f66 cOwn (x1, x2, x3, x4, x5, x6, w, ()) = (Small RU (Sigma.mk (Ty.slice (3 : Nat) (Ty.int IntKind.i64)) w) →
  ((0 : Nat) + List.length w) * (8 : Nat) ≤ (140737488355328 : Nat) ∧ (x1, x2, x3, x4, x5, x6, [] ++ w, ()) = (x1, x2, x3, x4, x5, x6, w, ())) := by kernel_rfl

theorem copied_eq (l : List Node) : vc (EV [(66, cOwn)]) (lCopied l) Go.Proofs.Tryd.f63 cCopied (l, ()) = (Small RU (Sigma.mk (Ty.slice (56 : Nat) (Ty.user (0 : Nat))) l) →
  (∃ (p : Int × List Node × Unit), l = l ∧ (0 : Int) = p.fst ∧ l = l ∧ [] = p.snd.fst ∧ (0 : Int) ≤ p.fst ∧ p.fst ≤ (↑(List.length l) : Int) ∧ p.snd.fst = List.take (Int.toNat p.fst) l) ∧
    ∀ (p : Int × List Node × Unit),
      let e1 : Bool := decide (p.fst < (↑(List.length l) : Int));
      let e0 : Node := List.getD l (Int.toNat p.fst) (Node.mk (0 : Int) (0 : Int) (0 : Int) (0 : Int) (0 : Int) (0 : Int) []);
      (0 : Int) ≤ p.fst ∧ p.fst ≤ (↑(List.length l) : Int) ∧ p.snd.fst = List.take (Int.toNat p.fst) l →
        (e1 = true →
            ((0 : Int) ≤ p.fst ∧ p.fst < (↑(List.length l) : Int)) ∧
              List.length e0.words ≤ (17592186044416 : Nat) ∧
                (List.length p.snd.fst + List.length [Node.mk e0.kind e0.a e0.b e0.from_ e0.len e0.n e0.words]) * (72 : Nat) ≤ (140737488355328 : Nat) ∧
                  ∃ (p' : Int × List Node × Unit),
                    l = l ∧
                      IntKind.wrap IntKind.i64 (p.fst + (1 : Int)) = p'.fst ∧
                        l = l ∧
                          p.snd.fst ++ [Node.mk e0.kind e0.a e0.b e0.from_ e0.len e0.n e0.words] = p'.snd.fst ∧
                            ((0 : Int) ≤ p'.fst ∧ p'.fst ≤ (↑(List.length l) : Int) ∧ p'.snd.fst = List.take (Int.toNat p'.fst) l) ∧
                              List.length l - Int.toNat p'.fst < List.length l - Int.toNat p.fst) ∧
          (e1 = false → (p.snd.fst, ()) = (l, ()))) := by kernel_rfl

theorem more_eq (l : List Node) (x1 x2 x3 x4 x5 x6 : Int) (w : List Int) : vc (EV [(66, cOwn), (63, cCopied), (47, cLens.frozen)]) noL Go.Proofs.Tryd.f72 cMore (l, x1, x2, x3, x4, x5, x6, w, ()) = (let e0 : Node := Node.mk x1 x2 x3 x4 x5 x6 w;
  Small RU (Sigma.mk (Ty.slice (56 : Nat) (Ty.user (0 : Nat))) l) →
  Small RU (Sigma.mk (Ty.slice (3 : Nat) (Ty.int IntKind.i64)) w) →
    (List.length l ≤ (4000000 : Nat) ∧ ∀ (x : Node), List.Mem x l → List.length x.words ≤ (4000000 : Nat)) ∧
      List.length w ≤ (17592186044416 : Nat) ∧
        (List.length l + List.length [e0]) * (72 : Nat) ≤ (140737488355328 : Nat) ∧
          (decide ((↑(List.length (l ++ [e0])) : Int) > (4000 : Int)) = false →
              List.length (l ++ [e0]) ≤ (17592186044416 : Nat) ∧
                ∀ (i : Nat) (x : Node),
                  (l ++ [e0])[i]? = some x →
                    (x.kind = (1 : Int) → ((0 : Int) ≤ x.a ∧ x.a < (↑i : Int)) ∧ (0 : Int) ≤ x.b ∧ x.b < (↑i : Int)) ∧
                      (x.kind ≠ (0 : Int) → x.kind ≠ (1 : Int) → x.kind ≠ (2 : Int) → (0 : Int) ≤ x.a ∧ x.a < (↑i : Int))) ∧
            (decide ((↑(List.length (l ++ [e0])) : Int) > (4000 : Int)) = false → (0 : Int) ≤ (↑(List.length l) : Int) ∧ (↑(List.length l) : Int) < (↑(List.length (lensOf (l ++ [e0]))) : Int)) ∧
              ((decide ((↑(List.length (l ++ [e0])) : Int) > (4000 : Int)) || decide (List.getD (lensOf (l ++ [e0])) (Int.toNat (↑(List.length l) : Int)) (0 : Int) > (1048576 : Int))) = true →
                  ([], (0 : Int), (9 : Int), ()) = ((moreOf l e0).fst, (moreOf l e0).snd.fst, (moreOf l e0).snd.snd, ())) ∧
                ((decide ((↑(List.length (l ++ [e0])) : Int) > (4000 : Int)) || decide (List.getD (lensOf (l ++ [e0])) (Int.toNat (↑(List.length l) : Int)) (0 : Int) > (1048576 : Int))) = false →
                  (l ++ [e0], (↑(List.length l) : Int), (0 : Int), ()) = ((moreOf l e0).fst, (moreOf l e0).snd.fst, (moreOf l e0).snd.snd, ()))) := by kernel_rfl

theorem wordsR_eq (l : List Node) (w : List Int) : vc (EV [(50, cAsked), (71, cWords), (72, cMore)]) noL Go.Proofs.Tryd.f30 cWordsR (l, w, ()) = (let e1 : List Node × Int × Int × Unit := ((wordsOf l w).fst, (wordsOf l w).snd.fst, (wordsOf l w).snd.snd, ());
  let e0 : List Node × Int × Int := moreOf l (Node.mk (0 : Int) (0 : Int) (0 : Int) (0 : Int) (0 : Int) (0 : Int) w);
  Small RU (Sigma.mk (Ty.slice (56 : Nat) (Ty.user (0 : Nat))) l) →
  Small RU (Sigma.mk (Ty.slice (3 : Nat) (Ty.int IntKind.i64)) w) →
    ((askedOf l [] != (0 : Int)) = true → ([], (0 : Int), askedOf l [], ()) = e1) ∧
      ((askedOf l [] != (0 : Int)) = false →
        ((!List.all w isWord) = true → ([], (0 : Int), (2 : Int), ()) = e1) ∧
          ((!List.all w isWord) = false →
            ((List.length l ≤ (4000 : Nat) ∧ ∀ (x : Node), List.Mem x l → List.length x.words ≤ (4000000 : Nat)) ∧
                (∀ (i : Nat) (x : Node),
                    l[i]? = some x →
                      (x.kind = (1 : Int) → ((0 : Int) ≤ x.a ∧ x.a < (↑i : Int)) ∧ (0 : Int) ≤ x.b ∧ x.b < (↑i : Int)) ∧
                        (x.kind ≠ (0 : Int) → x.kind ≠ (1 : Int) → x.kind ≠ (2 : Int) → (0 : Int) ≤ x.a ∧ x.a < (↑i : Int))) ∧
                  (((0 : Int) = (1 : Int) → ((0 : Int) ≤ (0 : Int) ∧ (0 : Int) < (↑(List.length l) : Int)) ∧ (0 : Int) ≤ (0 : Int) ∧ (0 : Int) < (↑(List.length l) : Int)) ∧
                      ((0 : Int) ≠ (0 : Int) → (0 : Int) ≠ (1 : Int) → (0 : Int) ≠ (2 : Int) → (0 : Int) ≤ (0 : Int) ∧ (0 : Int) < (↑(List.length l) : Int))) ∧
                    List.length w ≤ (4000000 : Nat)) ∧
              (e0.fst, e0.snd.fst, e0.snd.snd, ()) = e1))) := by kernel_rfl

theorem catR_eq (l : List Node) (a b : Int) : vc (EV [(50, cAsked), (72, cMore)]) noL Go.Proofs.Tryd.f32 cCatR (l, a, b, ()) = (let e2 : Bool := askedOf l [a, b] != (0 : Int);
  let e1 : List Node × Int × Int × Unit := ((catOf l a b).fst, (catOf l a b).snd.fst, (catOf l a b).snd.snd, ());
  let e0 : List Node × Int × Int := moreOf l (Node.mk (1 : Int) a b (0 : Int) (0 : Int) (0 : Int) []);
  Small RU (Sigma.mk (Ty.slice (56 : Nat) (Ty.user (0 : Nat))) l) →
  (e2 = true → ([], (0 : Int), askedOf l [a, b], ()) = e1) ∧
    (e2 = false →
      ((List.length l ≤ (4000 : Nat) ∧ ∀ (x : Node), List.Mem x l → List.length x.words ≤ (4000000 : Nat)) ∧
          (∀ (i : Nat) (x : Node),
              l[i]? = some x →
                (x.kind = (1 : Int) → ((0 : Int) ≤ x.a ∧ x.a < (↑i : Int)) ∧ (0 : Int) ≤ x.b ∧ x.b < (↑i : Int)) ∧
                  (x.kind ≠ (0 : Int) → x.kind ≠ (1 : Int) → x.kind ≠ (2 : Int) → (0 : Int) ≤ x.a ∧ x.a < (↑i : Int))) ∧
            (((1 : Int) = (1 : Int) → ((0 : Int) ≤ a ∧ a < (↑(List.length l) : Int)) ∧ (0 : Int) ≤ b ∧ b < (↑(List.length l) : Int)) ∧
                ((1 : Int) ≠ (0 : Int) → (1 : Int) ≠ (1 : Int) → (1 : Int) ≠ (2 : Int) → (0 : Int) ≤ a ∧ a < (↑(List.length l) : Int))) ∧
              List.length ([] : List Int) ≤ (4000000 : Nat)) ∧
        (e0.fst, e0.snd.fst, e0.snd.snd, ()) = e1)) := by kernel_rfl

theorem partR_eq (l : List Node) (a f m : Int) : vc (EV [(50, cAsked), (47, cLens), (74, cIsPart), (72, cMore)]) noL Go.Proofs.Tryd.f36 cPartR (l, a, f, m, ()) = (let e4 : Bool := askedOf l [a] != (0 : Int);
  let e3 : Int × Int := (partOf l a f m).snd;
  let e2 : Bool := !isPartOf (List.getD (lensOf l) (Int.toNat a) (0 : Int)) f m;
  let e1 : List Node × Int × Int × Unit := ((partOf l a f m).fst, e3.fst, e3.snd, ());
  let e0 : List Node × Int × Int := moreOf l (Node.mk (2 : Int) a (0 : Int) f m (0 : Int) []);
  Small RU (Sigma.mk (Ty.slice (56 : Nat) (Ty.user (0 : Nat))) l) →
  (e4 = true → ([], (0 : Int), askedOf l [a], ()) = e1) ∧
    (e4 = false →
      (List.length l ≤ (17592186044416 : Nat) ∧
          ∀ (i : Nat) (x : Node),
            l[i]? = some x →
              (x.kind = (1 : Int) → ((0 : Int) ≤ x.a ∧ x.a < (↑i : Int)) ∧ (0 : Int) ≤ x.b ∧ x.b < (↑i : Int)) ∧
                (x.kind ≠ (0 : Int) → x.kind ≠ (1 : Int) → x.kind ≠ (2 : Int) → (0 : Int) ≤ x.a ∧ x.a < (↑i : Int))) ∧
        ((0 : Int) ≤ a ∧ a < (↑(List.length (lensOf l)) : Int)) ∧
          (e2 = true → ([], (0 : Int), (2 : Int), ()) = e1) ∧
            (e2 = false →
              ((List.length l ≤ (4000 : Nat) ∧ ∀ (x : Node), List.Mem x l → List.length x.words ≤ (4000000 : Nat)) ∧
                  (∀ (i : Nat) (x : Node),
                      l[i]? = some x →
                        (x.kind = (1 : Int) → ((0 : Int) ≤ x.a ∧ x.a < (↑i : Int)) ∧ (0 : Int) ≤ x.b ∧ x.b < (↑i : Int)) ∧
                          (x.kind ≠ (0 : Int) → x.kind ≠ (1 : Int) → x.kind ≠ (2 : Int) → (0 : Int) ≤ x.a ∧ x.a < (↑i : Int))) ∧
                    (((2 : Int) = (1 : Int) → ((0 : Int) ≤ a ∧ a < (↑(List.length l) : Int)) ∧ (0 : Int) ≤ (0 : Int) ∧ (0 : Int) < (↑(List.length l) : Int)) ∧
                        ((2 : Int) ≠ (0 : Int) → (2 : Int) ≠ (1 : Int) → (2 : Int) ≠ (2 : Int) → (0 : Int) ≤ a ∧ a < (↑(List.length l) : Int))) ∧
                      List.length ([] : List Int) ≤ (4000000 : Nat)) ∧
                (e0.fst, e0.snd.fst, e0.snd.snd, ()) = e1))) := by kernel_rfl

theorem offR_eq (l : List Node) (a n : Int) : vc (EV [(50, cAsked), (75, cIsWord), (72, cMore)]) noL Go.Proofs.Tryd.f38 cOffR (l, a, n, ()) = (let e2 : Bool := askedOf l [a] != (0 : Int);
  let e1 : List Node × Int × Int × Unit := ((offOf l a n).fst, (offOf l a n).snd.fst, (offOf l a n).snd.snd, ());
  let e0 : List Node × Int × Int := moreOf l (Node.mk (3 : Int) a (0 : Int) (0 : Int) (0 : Int) n []);
  Small RU (Sigma.mk (Ty.slice (56 : Nat) (Ty.user (0 : Nat))) l) →
  (e2 = true → ([], (0 : Int), askedOf l [a], ()) = e1) ∧
    (e2 = false →
      ((!isWord n) = true → ([], (0 : Int), (2 : Int), ()) = e1) ∧
        ((!isWord n) = false →
          ((List.length l ≤ (4000 : Nat) ∧ ∀ (x : Node), List.Mem x l → List.length x.words ≤ (4000000 : Nat)) ∧
              (∀ (i : Nat) (x : Node),
                  l[i]? = some x →
                    (x.kind = (1 : Int) → ((0 : Int) ≤ x.a ∧ x.a < (↑i : Int)) ∧ (0 : Int) ≤ x.b ∧ x.b < (↑i : Int)) ∧
                      (x.kind ≠ (0 : Int) → x.kind ≠ (1 : Int) → x.kind ≠ (2 : Int) → (0 : Int) ≤ x.a ∧ x.a < (↑i : Int))) ∧
                (((3 : Int) = (1 : Int) → ((0 : Int) ≤ a ∧ a < (↑(List.length l) : Int)) ∧ (0 : Int) ≤ (0 : Int) ∧ (0 : Int) < (↑(List.length l) : Int)) ∧
                    ((3 : Int) ≠ (0 : Int) → (3 : Int) ≠ (1 : Int) → (3 : Int) ≠ (2 : Int) → (0 : Int) ≤ a ∧ a < (↑(List.length l) : Int))) ∧
                  List.length ([] : List Int) ≤ (4000000 : Nat)) ∧
            (e0.fst, e0.snd.fst, e0.snd.snd, ()) = e1))) := by kernel_rfl

theorem lenR_eq (l : List Node) (a : Int) : vc (EV [(50, cAsked), (47, cLens)]) noL Go.Proofs.Tryd.f14 cLenR (l, a, ()) = (let e1 : Bool := askedOf l [a] != (0 : Int);
  let e0 : Int × Int × Unit := ((lenAt l a).fst, (lenAt l a).snd, ());
  Small RU (Sigma.mk (Ty.slice (56 : Nat) (Ty.user (0 : Nat))) l) →
  (e1 = true → ((0 : Int), askedOf l [a], ()) = e0) ∧
    (e1 = false →
      (List.length l ≤ (17592186044416 : Nat) ∧
          ∀ (i : Nat) (x : Node),
            l[i]? = some x →
              (x.kind = (1 : Int) → ((0 : Int) ≤ x.a ∧ x.a < (↑i : Int)) ∧ (0 : Int) ≤ x.b ∧ x.b < (↑i : Int)) ∧
                (x.kind ≠ (0 : Int) → x.kind ≠ (1 : Int) → x.kind ≠ (2 : Int) → (0 : Int) ≤ x.a ∧ x.a < (↑i : Int))) ∧
        ((0 : Int) ≤ a ∧ a < (↑(List.length (lensOf l)) : Int)) ∧ (List.getD (lensOf l) (Int.toNat a) (0 : Int), (0 : Int), ()) = e0)) := by kernel_rfl

end Go.Rp
end

section
set_option linter.unusedVariables false
set_option linter.unusedSimpArgs false
set_option maxRecDepth 100000
namespace Go.Rp
open Go Go.VT

theorem own_vc (x1 x2 x3 x4 x5 x6 : Int) (w : List Int) (hp : w.length ≤ 17592186044416) : vc (EV []) noL Go.Proofs.Tryd.f66 cOwn (x1, x2, x3, x4, x5, x6, w, ()) := (own_eq x1 x2 x3 x4 x5 x6 w).mpr (by
  intro hs
  exact ⟨by omega, rfl⟩)
theorem own_gives : Gives prog RG 66 cOwn := gives allNil (fun _ => noL) (by kernel_rfl) (by kernel_rfl) (by kernel_rfl) fun (x1, x2, x3, x4, x5, x6, w, ()) hp => own_vc x1 x2 x3 x4 x5 x6 w hp

theorem copied_vc (l : List Node) (hp : few' l) : vc (EV [(66, cOwn)]) (lCopied l) Go.Proofs.Tryd.f63 cCopied (l, ()) := (copied_eq l).mpr (by
  intro hs
  obtain ⟨hl, hf⟩ := hp
  refine ⟨⟨(0, [], ()), rfl, rfl, rfl, rfl, Int.le_refl _, by dsimp only; omega, rfl⟩, ?_⟩
  rintro ⟨i, out, ⟨⟩⟩ e1 e0 ⟨h0, h1, h2⟩
  dsimp only at h0 h1 h2
  obtain ⟨m, rfl⟩ := Int.eq_ofNat_of_zero_le h0
  rw [Int.toNat_natCast] at h2
  refine ⟨fun h3 => ?_, fun h3 => ?_⟩
  · have hlt : m < l.length := by simpa [e1] using h3
    have he0 : e0 = l.getD m node0 := rfl
    have hmem : e0 ∈ l := by rw [he0]; simp only [List.getD, List.getElem?_eq_getElem hlt]; exact List.getElem_mem _
    have hout : out.length = m := by rw [h2]; simp; omega
    clear_value e0
    have hfe := hf e0 hmem
    dsimp only
    refine ⟨⟨h0, by omega⟩, by omega, by rw [hout]; simp; omega, ((m + 1 : Nat), out ++ [e0], ()), by trivial, ?_, by trivial, rfl, ⟨by dsimp only; omega, by dsimp only; omega, ?_⟩, by dsimp only; omega⟩
    · rw [w64_id (by omega) (by omega)]; rfl
    · dsimp only
      rw [Int.toNat_natCast, take_succ_getD hlt node0, ← h2, he0]
  · have : m = l.length := by
      have : ¬ ((m : Int) < l.length) := by simpa [e1] using h3
      omega
    subst this
    rw [List.take_length] at h2
    rw [h2])
theorem copied_gives : Gives prog RG 63 cCopied := gives (allCons own_gives allNil) (fun p => lCopied p.1) (by kernel_rfl) (by kernel_rfl) (by kernel_rfl) fun (l, ()) hp => copied_vc l hp

/-- What is known where nothing is wrong. -/
theorem asked_ok {l : List Node} {r : List Int} (h : askedOf l r = 0) : l.length ≤ 4000 ∧ validOf l = true ∧ ∀ x ∈ r, 0 ≤ x ∧ x < l.length := by
  unfold askedOf at h
  split at h
  · rename_i hc; exact absurd h hc
  · rename_i hc
    have hc : checkOf l = 0 := by simpa using hc
    unfold checkOf at hc
    split at hc
    · cases hc
    · split at hc
      · rename_i hlen hv
        split at h
        · rename_i hr
          refine ⟨by omega, hv, fun x hx => ?_⟩
          have := List.all_eq_true.1 hr x hx
          rw [lies_iff] at this
          omega
        · cases h
      · cases hc

theorem valid_fields {l : List Node} (h : validOf l = true) (i : Nat) (hi : i < l.length) : fieldsOf (l.getD i node0) i = true := by
  unfold validOf at h
  rw [Bool.and_eq_true] at h
  exact (fieldsAll_iff l).1 h.1 i hi

theorem valid_ahead {l : List Node} (h : validOf l = true) (i : Nat) (x : Node) (hx : l[i]? = some x) : ahead x i := by
  obtain ⟨h3, h4⟩ := List.getElem?_eq_some_iff.1 hx
  have := fields_ahead (valid_fields h i h3)
  rwa [show l.getD i node0 = x by simp [List.getD, hx]] at this

theorem valid_node {l : List Node} (h : validOf l = true) (i : Nat) (hi : i < l.length) : nodeOk (lensOf l) (l.getD i node0) ((lensOf l).getD i 0) = true := by
  unfold validOf at h
  rw [Bool.and_eq_true, List.all_eq_true] at h
  exact h.2 i (by simpa using hi)

theorem lensOf_take (l : List Node) : ∀ m, m ≤ l.length → lensOf (l.take m) = (lensOf l).take m := by
  have : ∀ (l : List Node) (m : Nat), m ≤ l.length → lensOf (l.take m) = (lensOf l).take m := by
    intro l
    generalize hn : l.length = n
    induction n generalizing l with
    | zero =>
      intro m hm
      have : l = [] := List.length_eq_zero_iff.1 hn
      subst this
      simp [lensOf]
    | succ n ih =>
      intro m hm
      have hne : l ≠ [] := by intro h; rw [h] at hn; cases hn
      obtain ⟨l', x, rfl⟩ : ∃ l' x, l = l' ++ [x] := ⟨l.dropLast, l.getLast hne, (List.dropLast_concat_getLast hne).symm⟩
      have hl' : l'.length = n := by simpa using hn
      rcases Nat.lt_or_ge m (n + 1) with h | h
      · rw [List.take_append_of_le_length (by omega), ih l' hl' m (by omega), lensOf_snoc, List.take_append_of_le_length (by rw [lensOf_length]; omega)]
      · rw [List.take_of_length_le (by simp; omega), List.take_of_length_le (by rw [lensOf_length]; simp; omega)]
  exact this l

/-- The length of a node that is there. -/
theorem lens_get (l : List Node) (i : Nat) (hi : i < l.length) : (lensOf l).getD i 0 = lenOf ((lensOf l).take i) (l.getD i node0) := by
  have h1 : lensOf (l.take (i + 1)) = (lensOf l).take (i + 1) := lensOf_take l (i + 1) hi
  rw [take_succ_getD hi node0, lensOf_snoc, lensOf_take l i (by omega), take_succ_getD (by rw [lensOf_length]; exact hi) 0] at h1
  have := List.append_cancel_left h1
  simpa using this.symm

/-- Where all is valid the words of nodes are few. -/
theorem valid_few {l : List Node} (h : validOf l = true) : few l := by
  intro x hx
  obtain ⟨i, hi, rfl⟩ := List.mem_iff_getElem.1 hx
  have h1 := valid_node h i hi
  have h2 := valid_fields h i hi
  have hg : l.getD i node0 = l[i] := by simp [List.getD, List.getElem?_eq_getElem hi]
  rw [lens_get l i hi, hg] at h1
  rw [hg] at h2
  unfold nodeOk at h1
  simp only [Bool.and_eq_true, decide_eq_true_eq] at h1
  by_cases hk : l[i].kind = 0
  · have := h1.1
    rw [lenOf, if_pos hk] at this
    omega
  · unfold fieldsOf at h2
    rw [if_neg hk] at h2
    have : l[i].words = [] := by
      split at h2
      · simp only [Bool.and_eq_true, decide_eq_true_eq] at h2; exact h2.2.2.2.2
      · split at h2
        · simp only [Bool.and_eq_true, decide_eq_true_eq] at h2; exact h2.2.2.2
        · split at h2
          · simp only [Bool.and_eq_true, decide_eq_true_eq] at h2; exact h2.1.2.2.2.2
          · cases h2
    rw [this]
    simp

theorem lenR_vc (l : List Node) (a : Int) : vc (EV [(50, cAsked), (47, cLens)]) noL Go.Proofs.Tryd.f14 cLenR (l, a, ()) := (lenR_eq l a).mpr (by
  intro e1 e0 hs
  refine ⟨fun h => ?_, fun h => ?_⟩
  · have h : askedOf l [a] ≠ 0 := by simpa [e1] using h
    simp only [e0, lenAt, if_pos h]
  · have h : askedOf l [a] = 0 := by simpa [e1] using h
    obtain ⟨h1, h2, h3⟩ := asked_ok h
    have ha := h3 a (by simp)
    refine ⟨⟨by omega, valid_ahead h2⟩, by rw [lensOf_length]; exact ha, ?_⟩
    simp only [e0, lenAt, if_neg (show ¬ (askedOf l [a] ≠ 0) by simpa using h)]
    rfl)
theorem lenR_gives : Gives prog RG 14 cLenR := gives (allCons asked_gives (allCons lens_gives allNil)) (fun _ => noL) (by kernel_rfl) (by kernel_rfl) (by kernel_rfl) fun (l, a, ()) _ => lenR_vc l a

theorem more_vc (l : List Node) (x : Node) (hl : l.length ≤ 4000) (hf : few l) (ha : ∀ (i : Nat) (y : Node), l[i]? = some y → ahead y i) (hx : ahead x l.length) (hw : x.words.length ≤ 4000000) :
    vc (EV [(66, cOwn), (63, cCopied), (47, cLens.frozen)]) noL Go.Proofs.Tryd.f72 cMore (l, x.kind, x.a, x.b, x.from_, x.len, x.n, x.words, ()) := (more_eq l x.kind x.a x.b x.from_ x.len x.n x.words).mpr (by
  intro e0 hs1 hs2
  have he0 : e0 = x := rfl
  clear_value e0
  subst he0
  have hah : ∀ (i : Nat) (y : Node), (l ++ [e0])[i]? = some y → ahead y i := by
    intro i y hy
    by_cases hi : i < l.length
    · rw [List.getElem?_append_left hi] at hy
      exact ha i y hy
    · rw [List.getElem?_append_right (by omega)] at hy
      have : i - l.length = 0 := by
        by_cases h0 : i - l.length = 0
        · exact h0
        · rw [List.getElem?_eq_none (by simp; omega)] at hy; cases hy
      rw [this] at hy
      simp only [List.getElem?_cons_zero, Option.some.injEq] at hy
      subst hy
      rw [show i = l.length by omega]
      exact hx
  refine ⟨⟨by omega, hf⟩, by omega, by simp; omega, fun h => ⟨by simp; omega, hah⟩, fun h => ⟨by omega, by rw [lensOf_length]; simp; omega⟩, fun h => ?_, fun h => ?_⟩
  · have : moreOf l e0 = ([], 0, 9) := by
      rw [moreOf, if_pos]
      simp only [List.length_append, List.length_singleton, Bool.or_eq_true, decide_eq_true_eq, Int.toNat_natCast] at h
      omega
    rw [this]
  · have : moreOf l e0 = (l ++ [e0], (l.length : Int), 0) := by
      rw [moreOf, if_neg]
      simp only [List.length_append, List.length_singleton, Bool.or_eq_false_iff, decide_eq_false_iff_not, Int.toNat_natCast] at h
      omega
    rw [this])
theorem more_gives : Gives prog RG 72 cMore := gives (allCons own_gives (allCons copied_gives (allCons (lens_gives.frozen rfl) allNil))) (fun _ => noL) (by kernel_rfl) (by kernel_rfl) (by kernel_rfl) fun (l, x1, x2, x3, x4, x5, x6, w, ()) hp =>
  more_vc l ⟨x1, x2, x3, x4, x5, x6, w⟩ hp.1.1 hp.1.2 hp.2.1 hp.2.2.1 hp.2.2.2

theorem wordsR_vc (l : List Node) (w : List Int) (hw : w.length ≤ 4000000) : vc (EV [(50, cAsked), (71, cWords), (72, cMore)]) noL Go.Proofs.Tryd.f30 cWordsR (l, w, ()) := (wordsR_eq l w).mpr (by
  intro e1 e0 hs1 hs2
  refine ⟨fun h => ?_, fun h => ⟨fun h2 => ?_, fun h2 => ⟨?_, ?_⟩⟩⟩
  · have h : askedOf l [] ≠ 0 := by simpa using h
    simp only [e1, wordsOf, if_pos h]
  · have h : askedOf l [] = 0 := by simpa using h
    simp only [e1, wordsOf, if_neg (show ¬ (askedOf l [] ≠ 0) by simpa using h), if_pos h2]
  · have h : askedOf l [] = 0 := by simpa using h
    obtain ⟨h3, h4, _⟩ := asked_ok h
    exact ⟨⟨h3, valid_few h4⟩, valid_ahead h4, ⟨fun h => by omega, fun h => by omega⟩, hw⟩
  · have h : askedOf l [] = 0 := by simpa using h
    simp only [e1, e0, wordsOf, if_neg (show ¬ (askedOf l [] ≠ 0) by simpa using h), h2, Bool.false_eq_true, if_false])
theorem wordsR_gives : Gives prog RG 30 cWordsR := gives (allCons asked_gives (allCons words_gives (allCons more_gives allNil))) (fun _ => noL) (by kernel_rfl) (by kernel_rfl) (by kernel_rfl) fun (l, w, ()) hp => wordsR_vc l w hp

theorem catR_vc (l : List Node) (a b : Int) : vc (EV [(50, cAsked), (72, cMore)]) noL Go.Proofs.Tryd.f32 cCatR (l, a, b, ()) := (catR_eq l a b).mpr (by
  intro e2 e1 e0 hs1
  refine ⟨fun h => ?_, fun h => ⟨?_, ?_⟩⟩
  · have h : askedOf l [a, b] ≠ 0 := by simpa [e2] using h
    simp only [e1, catOf, if_pos h]
  · have h : askedOf l [a, b] = 0 := by simpa [e2] using h
    obtain ⟨h3, h4, h5⟩ := asked_ok h
    exact ⟨⟨h3, valid_few h4⟩, valid_ahead h4, ⟨fun _ => ⟨h5 a (by simp), h5 b (by simp)⟩, fun _ h => by omega⟩, by simp⟩
  · have h : askedOf l [a, b] = 0 := by simpa [e2] using h
    simp only [e1, e0, catOf, if_neg (show ¬ (askedOf l [a, b] ≠ 0) by simpa using h)])
theorem catR_gives : Gives prog RG 32 cCatR := gives (allCons asked_gives (allCons more_gives allNil)) (fun _ => noL) (by kernel_rfl) (by kernel_rfl) (by kernel_rfl) fun (l, a, b, ()) _ => catR_vc l a b

theorem partR_vc (l : List Node) (a f m : Int) : vc (EV [(50, cAsked), (47, cLens), (74, cIsPart), (72, cMore)]) noL Go.Proofs.Tryd.f36 cPartR (l, a, f, m, ()) := (partR_eq l a f m).mpr (by
  intro e4 e3 e2 e1 e0 hs1
  refine ⟨fun h => ?_, fun h => ?_⟩
  · have h : askedOf l [a] ≠ 0 := by simpa [e4] using h
    simp only [e1, e3, partOf, if_pos h]
  · have h : askedOf l [a] = 0 := by simpa [e4] using h
    have hn : ¬ (askedOf l [a] ≠ 0) := by simpa using h
    obtain ⟨h3, h4, h5⟩ := asked_ok h
    have ha := h5 a (by simp)
    refine ⟨⟨by omega, valid_ahead h4⟩, by rw [lensOf_length]; exact ha, fun h2 => ?_, fun h2 => ⟨⟨⟨h3, valid_few h4⟩, valid_ahead h4, ⟨fun h => by omega, fun _ _ h => by omega⟩, by simp⟩, ?_⟩⟩
    · have h2 : (!isPartOf (at_ (lensOf l) a) f m) = true := h2
      simp only [e1, e3, partOf, if_neg hn, h2, if_true]
    · have h2 : (!isPartOf (at_ (lensOf l) a) f m) = false := h2
      simp only [e1, e3, e0, partOf, if_neg hn, h2, Bool.false_eq_true, if_false])
theorem partR_gives : Gives prog RG 36 cPartR := gives (allCons asked_gives (allCons lens_gives (allCons isPart_gives (allCons more_gives allNil)))) (fun _ => noL) (by kernel_rfl) (by kernel_rfl) (by kernel_rfl) fun (l, a, f, m, ()) _ => partR_vc l a f m

theorem offR_vc (l : List Node) (a n : Int) : vc (EV [(50, cAsked), (75, cIsWord), (72, cMore)]) noL Go.Proofs.Tryd.f38 cOffR (l, a, n, ()) := (offR_eq l a n).mpr (by
  intro e2 e1 e0 hs1
  refine ⟨fun h => ?_, fun h => ?_⟩
  · have h : askedOf l [a] ≠ 0 := by simpa [e2] using h
    simp only [e1, offOf, if_pos h]
  · have h : askedOf l [a] = 0 := by simpa [e2] using h
    have hn : ¬ (askedOf l [a] ≠ 0) := by simpa using h
    obtain ⟨h3, h4, h5⟩ := asked_ok h
    refine ⟨fun h2 => ?_, fun h2 => ⟨⟨⟨h3, valid_few h4⟩, valid_ahead h4, ⟨fun h => by omega, fun _ _ _ => h5 a (by simp)⟩, by simp⟩, ?_⟩⟩
    · simp only [e1, offOf, if_neg hn, h2, if_true]
    · simp only [e1, e0, offOf, if_neg hn, h2, Bool.false_eq_true, if_false])
theorem offR_gives : Gives prog RG 38 cOffR := gives (allCons asked_gives (allCons isWord_gives (allCons more_gives allNil))) (fun _ => noL) (by kernel_rfl) (by kernel_rfl) (by kernel_rfl) fun (l, a, n, ()) _ => offR_vc l a n
end Go.Rp
end

section
set_option linter.unusedVariables false
set_option maxRecDepth 100000
open Go Go.VT
namespace Go.Rp

theorem way_eq (l : List Node) (lens : List Int) (a place : Int) (N : Nat) : vc ((EV [(76, cWord)]).set 58 (cWay.below mWay N)) noL Go.Proofs.Tryd.f58 cWay (l, lens, a, place, ()) = (let e1 : Int × Int × Unit := ((wayAt l a place).fst, (wayAt l a place).snd, ());
  let e0 : Node := List.getD l (Int.toNat a) (Node.mk (0 : Int) (0 : Int) (0 : Int) (0 : Int) (0 : Int) (0 : Int) []);
  Small RU (Sigma.mk (Ty.slice (56 : Nat) (Ty.user (0 : Nat))) l) →
  Small RU (Sigma.mk (Ty.slice (3 : Nat) (Ty.int IntKind.i64)) lens) →
    ((0 : Int) ≤ a ∧ a < (↑(List.length l) : Int)) ∧
      ((e0.kind == (0 : Int)) = true → ((0 : Int) ≤ place ∧ place < (↑(List.length e0.words) : Int)) ∧ ((1 : Int), List.getD e0.words (Int.toNat place) (0 : Int), ()) = e1) ∧
        ((e0.kind == (0 : Int)) = false →
          ((e0.kind == (1 : Int)) = true →
              ((0 : Int) ≤ e0.a ∧ e0.a < (↑(List.length lens) : Int)) ∧
                (decide (place < List.getD lens (Int.toNat e0.a) (0 : Int)) = true →
                    (((List.length l ≤ (4000 : Nat) ∧ validOf l = true ∧ lens = lensOf l) ∧ ((0 : Int) ≤ e0.a ∧ e0.a < (↑(List.length l) : Int)) ∧ (0 : Int) ≤ place ∧ place < at_ (lensOf l) e0.a) ∧
                        mWay (l, lens, e0.a, place, ()) < N) ∧
                      (IntKind.wrap IntKind.i64 ((wayAt l e0.a place).fst + (1 : Int)), (wayAt l e0.a place).snd, ()) = e1) ∧
                  (decide (place < List.getD lens (Int.toNat e0.a) (0 : Int)) = false →
                    ((0 : Int) ≤ e0.a ∧ e0.a < (↑(List.length lens) : Int)) ∧
                      (((List.length l ≤ (4000 : Nat) ∧ validOf l = true ∧ lens = lensOf l) ∧
                            ((0 : Int) ≤ e0.b ∧ e0.b < (↑(List.length l) : Int)) ∧
                              (0 : Int) ≤ IntKind.wrap IntKind.i64 (place - List.getD lens (Int.toNat e0.a) (0 : Int)) ∧
                                IntKind.wrap IntKind.i64 (place - List.getD lens (Int.toNat e0.a) (0 : Int)) < at_ (lensOf l) e0.b) ∧
                          mWay (l, lens, e0.b, IntKind.wrap IntKind.i64 (place - List.getD lens (Int.toNat e0.a) (0 : Int)), ()) < N) ∧
                        (IntKind.wrap IntKind.i64 ((wayAt l e0.b (IntKind.wrap IntKind.i64 (place - List.getD lens (Int.toNat e0.a) (0 : Int)))).fst + (1 : Int)),
                            (wayAt l e0.b (IntKind.wrap IntKind.i64 (place - List.getD lens (Int.toNat e0.a) (0 : Int)))).snd, ()) =
                          e1)) ∧
            ((e0.kind == (1 : Int)) = false →
              ((e0.kind == (2 : Int)) = true →
                  (((List.length l ≤ (4000 : Nat) ∧ validOf l = true ∧ lens = lensOf l) ∧
                        ((0 : Int) ≤ e0.a ∧ e0.a < (↑(List.length l) : Int)) ∧
                          (0 : Int) ≤ IntKind.wrap IntKind.i64 (e0.from_ + place) ∧ IntKind.wrap IntKind.i64 (e0.from_ + place) < at_ (lensOf l) e0.a) ∧
                      mWay (l, lens, e0.a, IntKind.wrap IntKind.i64 (e0.from_ + place), ()) < N) ∧
                    (IntKind.wrap IntKind.i64 ((wayAt l e0.a (IntKind.wrap IntKind.i64 (e0.from_ + place))).fst + (1 : Int)), (wayAt l e0.a (IntKind.wrap IntKind.i64 (e0.from_ + place))).snd, ()) =
                      e1) ∧
                ((e0.kind == (2 : Int)) = false →
                  (((List.length l ≤ (4000 : Nat) ∧ validOf l = true ∧ lens = lensOf l) ∧ ((0 : Int) ≤ e0.a ∧ e0.a < (↑(List.length l) : Int)) ∧ (0 : Int) ≤ place ∧ place < at_ (lensOf l) e0.a) ∧
                      mWay (l, lens, e0.a, place, ()) < N) ∧
                    (IntKind.wrap IntKind.i64 ((wayAt l e0.a place).fst + (1 : Int)), word (IntKind.wrap IntKind.i64 ((wayAt l e0.a place).snd + e0.n)), ()) = e1)))) := by kernel_rfl

end Go.Rp
end

section
set_option linter.unusedVariables false
set_option linter.unusedSimpArgs false
set_option maxRecDepth 100000
namespace Go.Rp
open Go Go.VT

theorem at_take {l : List Int} {m : Nat} {a : Int} (h0 : 0 ≤ a) (h : a < m) : at_ (l.take m) a = at_ l a := by
  unfold at_
  simp only [List.getD]
  rw [List.getElem?_take, if_pos (by omega)]

theorem at_nat (l : List Int) (i : Nat) : at_ l (i : Int) = l.getD i 0 := by simp [at_]

/-- The lengths of a valid store. -/
theorem valid_lens {l : List Node} (h : validOf l = true) : ∀ i : Nat, i < l.length → (0 ≤ at_ (lensOf l) i ∧ at_ (lensOf l) i ≤ 1048576) ∧
    ((l.getD i node0).kind = 0 → at_ (lensOf l) i = (l.getD i node0).words.length) ∧
    ((l.getD i node0).kind = 1 → at_ (lensOf l) i = at_ (lensOf l) (l.getD i node0).a + at_ (lensOf l) (l.getD i node0).b) ∧
    ((l.getD i node0).kind = 2 → at_ (lensOf l) i = (l.getD i node0).len ∧ 0 ≤ (l.getD i node0).from_ ∧ 0 ≤ (l.getD i node0).len ∧ (l.getD i node0).from_ + (l.getD i node0).len ≤ at_ (lensOf l) (l.getD i node0).a) ∧
    ((l.getD i node0).kind = 3 → at_ (lensOf l) i = at_ (lensOf l) (l.getD i node0).a) ∧
    ((l.getD i node0).kind = 0 ∨ (l.getD i node0).kind = 1 ∨ (l.getD i node0).kind = 2 ∨ (l.getD i node0).kind = 3) := by
  intro i
  induction i using Nat.strongRecOn with
  | ind i ih =>
    intro hi
    have hn := valid_node h i hi
    have hf := valid_fields h i hi
    have hg := lens_get l i hi
    rw [at_nat]
    rw [hg] at hn ⊢
    generalize hx : l.getD i node0 = x at hn hf hg ⊢
    unfold nodeOk at hn
    simp only [Bool.and_eq_true, decide_eq_true_eq] at hn
    have hb : ∀ a : Int, 0 ≤ a → a < i → (0 ≤ at_ (lensOf l) a ∧ at_ (lensOf l) a ≤ 1048576) ∧ at_ ((lensOf l).take i) a = at_ (lensOf l) a := by
      intro a h0 h1
      obtain ⟨k, rfl⟩ := Int.eq_ofNat_of_zero_le h0
      exact ⟨(ih k (by omega) (by omega)).1, at_take h0 h1⟩
    have hk : x.kind = 0 ∨ x.kind = 1 ∨ x.kind = 2 ∨ x.kind = 3 := by
      unfold fieldsOf at hf
      by_cases h0 : x.kind = 0
      · exact .inl h0
      · by_cases h1 : x.kind = 1
        · exact .inr (.inl h1)
        · by_cases h2 : x.kind = 2
          · exact .inr (.inr (.inl h2))
          · by_cases h3 : x.kind = 3
            · exact .inr (.inr (.inr h3))
            · rw [if_neg h0, if_neg h1, if_neg h2, if_neg h3] at hf; cases hf
    have hlen : ∀ v, (x.kind = 0 → v = (x.words.length : Int)) → True := fun _ _ => trivial
    rcases hk with hk | hk | hk | hk
    · have e : lenOf ((lensOf l).take i) x = min (x.words.length : Int) 2097152 := by rw [lenOf, if_pos hk]
      rw [e] at hn ⊢
      have : min (x.words.length : Int) 2097152 = x.words.length := by omega
      rw [this] at hn ⊢
      exact ⟨⟨by omega, hn.1⟩, fun _ => rfl, fun h => by omega, fun h => by omega, fun h => by omega, .inl hk⟩
    · have ha := (fields_ahead hf).1 hk
      obtain ⟨ha1, ha2⟩ := hb x.a ha.1.1 ha.1.2
      obtain ⟨hb1, hb2⟩ := hb x.b ha.2.1 ha.2.2
      have e : lenOf ((lensOf l).take i) x = at_ (lensOf l) x.a + at_ (lensOf l) x.b := by
        rw [lenOf, if_neg (by omega), if_pos hk, ha2, hb2, w64, w64_id (by omega) (by omega)]
        omega
      rw [e] at hn ⊢
      exact ⟨⟨by omega, hn.1⟩, fun h => by omega, fun _ => rfl, fun h => by omega, fun h => by omega, .inr (.inl hk)⟩
    · have ha := fields_a hf (by omega)
      obtain ⟨ha1, ha2⟩ := hb x.a ha.1 ha.2
      have hp : isPartOf (at_ (lensOf l) x.a) x.from_ x.len = true := by
        have := hn.2
        simpa [hk] using this
      unfold isPartOf at hp
      rw [Bool.and_eq_true, lies_iff] at hp
      obtain ⟨hp1, hp2⟩ := hp
      rw [w64, w64_id (by omega) (by omega), lies_iff] at hp2
      have e : lenOf ((lensOf l).take i) x = x.len := by
        rw [lenOf, if_neg (by omega), if_neg (by omega), if_pos hk]
        omega
      rw [e] at hn ⊢
      exact ⟨⟨by omega, hn.1⟩, fun h => by omega, fun h => by omega, fun _ => ⟨rfl, hp1.1, hp2.1, by omega⟩, fun h => by omega, .inr (.inr (.inl hk))⟩
    · have ha := fields_a hf (by omega)
      obtain ⟨ha1, ha2⟩ := hb x.a ha.1 ha.2
      have e : lenOf ((lensOf l).take i) x = at_ (lensOf l) x.a := by
        rw [lenOf, if_neg (by omega), if_neg (by omega), if_neg (by omega), ha2]
        omega
      rw [e] at hn ⊢
      exact ⟨⟨by omega, hn.1⟩, fun h => by omega, fun h => by omega, fun h => by omega, fun _ => rfl, .inr (.inr (.inr hk))⟩

theorem nat_getD (l : List Node) (a : Int) : nat_ l a = l.getD a.toNat node0 := rfl

/-- More fuel changes nothing. -/
theorem wayOf_fuel {l : List Node} (h : validOf l = true) (lens : List Int) : ∀ f g : Nat, ∀ a place : Int, 0 ≤ a → a < l.length → a.toNat < f → a.toNat < g → wayOf l lens f a place = wayOf l lens g a place := by
  intro f
  induction f with
  | zero => intro g a place _ _ hf; omega
  | succ f ih =>
    intro g a place h0 h1 hf hg
    match g, hg with
    | g + 1, hg =>
      have hfd := valid_fields h a.toNat (by omega)
      rw [← nat_getD] at hfd
      have hcast : ((a.toNat : Nat) : Int) = a := by omega
      rw [hcast] at hfd
      unfold wayOf
      by_cases hk0 : (nat_ l a).kind = 0
      · rw [if_pos hk0, if_pos hk0]
      · have ha : 0 ≤ (nat_ l a).a ∧ (nat_ l a).a < a := by
          have := fields_a (i := a.toNat) (by rw [hcast]; exact hfd) hk0
          omega
        rw [if_neg hk0, if_neg hk0]
        have e1 : ∀ p, wayOf l lens f (nat_ l a).a p = wayOf l lens g (nat_ l a).a p := fun p => ih g _ p ha.1 (by omega) (by omega) (by omega)
        by_cases hk1 : (nat_ l a).kind = 1
        · have hb := ((fields_ahead (i := a.toNat) (by rw [hcast]; exact hfd)).1 hk1).2
          have e2 : ∀ p, wayOf l lens f (nat_ l a).b p = wayOf l lens g (nat_ l a).b p := fun p => ih g _ p hb.1 (by omega) (by omega) (by omega)
          rw [if_pos hk1, if_pos hk1, e1, e2]
        · rw [if_neg hk1, if_neg hk1, e1, e1]

theorem wayAt_eq {l : List Node} (h : validOf l = true) {a : Int} (h0 : 0 ≤ a) (h1 : a < l.length) (b place : Int) (hb0 : 0 ≤ b) (hb : b < a) : wayOf l (lensOf l) a.toNat b place = wayAt l b place :=
  wayOf_fuel h _ _ _ b place hb0 (by omega) (by omega) (by omega)

theorem way_vc (l : List Node) (a place : Int) (hl : l.length ≤ 4000) (hv : validOf l = true) (h0 : 0 ≤ a) (h1 : a < l.length) (p0 : 0 ≤ place) (p1 : place < at_ (lensOf l) a) :
    vc ((EV [(76, cWord)]).set 58 (cWay.below mWay a.toNat)) noL Go.Proofs.Tryd.f58 cWay (l, lensOf l, a, place, ()) := (way_eq l (lensOf l) a place a.toNat).mpr (by
  intro e1 e0 hs1 hs2
  have hll := lensOf_length l
  have hi : a.toNat < l.length := by omega
  have hcast : ((a.toNat : Nat) : Int) = a := by omega
  obtain ⟨hb, hk0, hk1, hk2, hk3, hkk⟩ := valid_lens hv a.toNat hi
  rw [hcast] at hb hk0 hk1 hk2 hk3
  have hfd := valid_fields hv a.toNat hi
  have he0 : e0 = nat_ l a := rfl
  rw [← nat_getD, ← he0] at hk0 hk1 hk2 hk3 hkk hfd
  have hway : wayAt l a place = wayOf l (lensOf l) (a.toNat + 1) a place := rfl
  have hrec : ∀ b p : Int, 0 ≤ b → b < a → wayOf l (lensOf l) a.toNat b p = wayAt l b p := fun b p q0 q1 => wayAt_eq hv h0 h1 b p q0 q1
  unfold wayOf at hway
  rw [← he0] at hway
  have he1 : e1 = ((wayAt l a place).1, (wayAt l a place).2, ()) := rfl
  have bnd : ∀ b : Int, 0 ≤ b → b < a → 0 ≤ at_ (lensOf l) b ∧ at_ (lensOf l) b ≤ 1048576 := by
    intro b q0 q1
    obtain ⟨k, rfl⟩ := Int.eq_ofNat_of_zero_le q0
    exact (valid_lens hv k (by omega)).1
  have hgd : ∀ b : Int, List.getD (lensOf l) b.toNat 0 = at_ (lensOf l) b := fun _ => rfl
  have hm : ∀ b p : Int, mWay (l, lensOf l, b, p, ()) = b.toNat := fun _ _ => rfl
  clear_value e0 e1
  simp only [hgd, hm]
  refine ⟨⟨h0, h1⟩, fun k0 => ?_, fun k0 => ⟨fun k1 => ?_, fun k1 => ⟨fun k2 => ?_, fun k2 => ?_⟩⟩⟩
  · have k0 : e0.kind = 0 := by simpa using k0
    rw [if_pos k0] at hway
    rw [he1, hway]
    exact ⟨⟨p0, by rw [← hk0 k0]; exact p1⟩, rfl⟩
  · have k0 : ¬ e0.kind = 0 := by simpa using k0
    have k1 : e0.kind = 1 := by simpa using k1
    have hab := (fields_ahead hfd).1 k1
    rw [hcast] at hab
    have ha' := bnd e0.a hab.1.1 hab.1.2
    have hb' := bnd e0.b hab.2.1 hab.2.2
    have hs := hk1 k1
    rw [if_neg k0, if_pos k1] at hway
    refine ⟨by omega, fun hlt => ?_, fun hge => ?_⟩
    · have hlt : place < at_ (lensOf l) e0.a := by simpa using hlt
      rw [if_pos hlt, hrec _ _ hab.1.1 hab.1.2] at hway
      exact ⟨⟨⟨⟨hl, hv, by trivial⟩, by omega, p0, hlt⟩, by omega⟩, by rw [he1, hway]⟩
    · have hge : ¬ place < at_ (lensOf l) e0.a := by simpa using hge
      have hw : IntKind.i64.wrap (place - at_ (lensOf l) e0.a) = place - at_ (lensOf l) e0.a := w64_id (by omega) (by omega)
      rw [if_neg hge, hrec _ _ hab.2.1 hab.2.2] at hway
      refine ⟨by omega, ⟨⟨⟨hl, hv, by trivial⟩, by omega, ?_, ?_⟩, by omega⟩, by rw [he1, hway]⟩
      · rw [hw]; omega
      · rw [hw]; omega
  · have k0 : ¬ e0.kind = 0 := by simpa using k0
    have k1 : ¬ e0.kind = 1 := by simpa using k1
    have k2 : e0.kind = 2 := by simpa using k2
    have ha := fields_a hfd k0
    rw [hcast] at ha
    have ha' := bnd e0.a ha.1 ha.2
    obtain ⟨q1, q2, q3, q4⟩ := hk2 k2
    have hw : IntKind.i64.wrap (e0.from_ + place) = e0.from_ + place := w64_id (by omega) (by omega)
    rw [if_neg k0, if_neg k1, if_pos k2, hrec _ _ ha.1 ha.2] at hway
    refine ⟨⟨⟨⟨hl, hv, by trivial⟩, by omega, ?_, ?_⟩, by omega⟩, by rw [he1, hway]⟩
    · rw [hw]; omega
    · rw [hw]; omega
  · have k0 : ¬ e0.kind = 0 := by simpa using k0
    have k1 : ¬ e0.kind = 1 := by simpa using k1
    have k2 : ¬ e0.kind = 2 := by simpa using k2
    have ha := fields_a hfd k0
    rw [hcast] at ha
    have hs := hk3 (by omega)
    rw [if_neg k0, if_neg k1, if_neg k2, hrec _ _ ha.1 ha.2] at hway
    exact ⟨⟨⟨⟨hl, hv, by trivial⟩, by omega, p0, by omega⟩, by omega⟩, by rw [he1, hway]⟩)
theorem way_gives : Gives prog RG 58 cWay := givesRec (allCons word_gives allNil) mWay (fun _ => noL) (by kernel_rfl) (by kernel_rfl) (by kernel_rfl) fun (l, lens, a, place, ()) hp => by
  obtain ⟨⟨h1, h2, h3⟩, ⟨h4, h5⟩, h6, h7⟩ := hp
  have h3 : lens = lensOf l := h3
  subst h3
  exact way_vc l a place h1 h2 h4 h5 h6 h7
end Go.Rp
end
