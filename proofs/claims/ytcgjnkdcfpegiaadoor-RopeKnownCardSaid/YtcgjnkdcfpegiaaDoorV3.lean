/-
What the last text of this claim uses: VtV, VtW, VtX, VtY, VtZ0, VtRa, VtRb, VtRc, VtRd, VtRf, VtRg, VtZ, VtFits, VtInv.
-/
import Derived.Test.YtcgjnkdcfpegiaaDoorV2
import Derived.Tactics
import Derived.Laws.Cover3
import Derived.Scope
import Derived.RangeFuncIn
import Derived.RangeFuncLeaves

section
set_option linter.unusedVariables false
set_option linter.unusedSimpArgs false
namespace Go.VT
noncomputable section
open Go.RowKit
variable {U : Univ} {E : Env U} {F : Fr} {n : Nat} {β : Nm} {s s' : St U} {a : Act} {w : World} {o : Oper} {e : Eff U} {h : Obs U} {xs : List (Wr U)} {ops : Array Oper} {dr : Bool}

theorem okOps_spec {N : Nat} : ∀ {r : List Oper} {ds : List (Option Tmp)}, okOps N r ds = true → ∀ k o, r[k]? = some o → okDst N (ds ++ (r.take k).map (·.dst)) o.dst = true
  | [], _, _, k, o, hk => by simp at hk
  | p :: r, ds, h, k, o, hk => by
    simp only [okOps, Bool.and_eq_true] at h
    match k, hk with
    | 0, hk =>
      simp only [List.getElem?_cons_zero, Option.some.injEq] at hk
      subst hk
      simpa using h.1
    | k + 1, hk =>
      have := okOps_spec h.2 k o (by simpa using hk)
      simpa [List.append_assoc] using this

def Ahead (pos : Nat → Nat) (dr : Bool) (k : Nat) (o : Oper) : Prop :=
  (∀ g want, o.guard = some (g, want) → pos g < pos k) ∧ (dr = true → ∀ e ∈ o.after.toList, Region.binds .any e = true → pos e.on < pos k)

theorem ahead_spec {pos : Nat → Nat} {dr : Bool} : ∀ {r : List Oper} {k0 : Nat}, ahead pos dr r k0 = true → ∀ k o, r[k]? = some o → Ahead pos dr (k0 + k) o
  | [], _, _, k, o, hk => by simp at hk
  | p :: r, k0, h, k, o, hk => by
    simp only [ahead, Bool.and_eq_true] at h
    match k, hk with
    | 0, hk =>
      simp only [List.getElem?_cons_zero, Option.some.injEq] at hk
      subst hk
      refine ⟨fun g want hg => ?_, fun hdr e he hb => ?_⟩
      · have h1 := h.1.1
        rw [hg] at h1
        exact Nat.le_of_ble_eq_true h1
      · have h2 := h.1.2
        rw [hdr] at h2
        simp only [Bool.not_true, Bool.false_or] at h2
        have := List.all_eq_true.1 h2 e he
        rw [hb] at this
        simp only [Bool.not_true, Bool.false_or] at this
        exact Nat.le_of_ble_eq_true this
    | k + 1, hk =>
      have := ahead_spec h.2 k o (by simpa using hk)
      rwa [Nat.add_assoc, Nat.add_comm 1 k] at this

theorem posOf_get {k : Nat} : ∀ {l : List Nat}, posOf k l < l.length → l[posOf k l]? = some k
  | [], h => by simp [posOf] at h
  | x :: r, h => by
    unfold posOf at h ⊢
    cases hx : Nat.beq x k with
    | true =>
      have := Nat.eq_of_beq_eq_true hx
      simp [this]
    | false =>
      rw [hx] at h
      simp only [cond_false, List.length_cons] at h ⊢
      simpa using posOf_get (l := r) (by omega)

theorem okAt_spec {n : Nat} {idx : List Nat} : ∀ {r : List Nat} {p0 : Nat}, okAt n idx r p0 = true → ∀ (p k : Nat), r[p]? = some k → k < n ∧ posOf k idx = p0 + p
  | [], _, _, p, k, h => by simp at h
  | x :: r, p0, hk, p, k, h => by
    simp only [okAt, Bool.and_eq_true] at hk
    match p, h with
    | 0, h =>
      simp only [List.getElem?_cons_zero, Option.some.injEq] at h
      subst h
      exact ⟨Nat.le_of_ble_eq_true hk.1.1, Nat.eq_of_beq_eq_true hk.1.2⟩
    | p + 1, h =>
      have := okAt_spec hk.2 p k (by simpa using h)
      exact ⟨this.1, by omega⟩

structure Ord (ops : List Oper) (pos : Nat → Nat) (idx : List Nat) (os : List Oper) : Prop where
  len : idx.length = ops.length
  at_ : ∀ k, k < ops.length → idx[pos k]? = some k
  num : ∀ (p k : Nat), idx[p]? = some k → pos k = p ∧ k < ops.length
  os : ∀ (p : Nat), os[p]? = (idx[p]?).bind (ops[·]?)
  back : ∀ j, pos j < ops.length → j < ops.length

theorem pickOps_spec {ops : List Oper} : ∀ {idx : List Nat}, (∀ k ∈ idx, k < ops.length) → ∀ p : Nat, (pickOps ops idx)[p]? = (idx[p]?).bind (ops[·]?)
  | [], _, p => by simp [pickOps]
  | k :: r, h, p => by
    have hk : k < ops.length := h k (by simp)
    simp only [pickOps, List.getElem?_eq_getElem hk]
    match p with
    | 0 => simp [List.getElem?_eq_getElem hk]
    | p + 1 => simpa using pickOps_spec (idx := r) (fun j hj => h j (by simp [hj])) p

theorem okReg_ord {d : Bool} {ops : List Oper} (h : okReg d ops = true) : Ord ops (posIn d ops) (ordOf d ops) (osOf d ops) ∧ ahead (posIn d ops) d ops 0 = true := by
  unfold okReg at h
  cases hn : natural d ops with
  | true =>
    have h1 : posIn d ops = fun k => k := by funext k; simp [posIn, hn]
    have h2 : ordOf d ops = List.range ops.length := by simp [ordOf, hn]
    have h3 : osOf d ops = ops := by simp [osOf, hn]
    rw [h1, h2, h3]
    refine ⟨⟨by simp, fun k hk => by simp [hk], fun p k hp => ?_, fun p => ?_, ?_⟩, hn⟩
    · by_cases hpl : p < ops.length
      · rw [List.getElem?_range hpl] at hp
        simp only [Option.some.injEq] at hp
        subst hp
        exact ⟨rfl, hpl⟩
      · rw [List.getElem?_eq_none (by simpa using hpl)] at hp
        cases hp
    · by_cases hp : p < ops.length
      · simp [hp]
      · simp [hp]
    · exact fun j hj => hj
  | false =>
    rw [hn] at h
    simp only [Bool.false_or, Bool.and_eq_true, okIdx] at h
    obtain ⟨⟨_, ⟨h4, h5⟩, h6⟩, h7⟩ := h
    have h1 : posIn d ops = fun k => posOf k (topoGo ops ops.length 0) := by funext k; simp [posIn, hn]
    have h2 : ordOf d ops = topoGo ops ops.length 0 := by simp [ordOf, hn]
    have h3 : osOf d ops = pickOps ops (topoGo ops ops.length 0) := by simp [osOf, hn]
    rw [h1, h2, h3]
    generalize topoGo ops ops.length 0 = idx at *
    have h4 := Nat.eq_of_beq_eq_true h4
    have hnum : ∀ (p k : Nat), idx[p]? = some k → posOf k idx = p ∧ k < ops.length := by
      intro p k hp
      have := okAt_spec h5 p k hp
      exact ⟨by omega, this.1⟩
    refine ⟨⟨h4, fun k hk => ?_, hnum, pickOps_spec fun k hk => ?_, fun j hj => (hnum _ _ (posOf_get (by omega))).2⟩, h7⟩
    · have := List.all_eq_true.1 h6 k (by simpa using hk)
      have := Nat.le_of_ble_eq_true this
      exact posOf_get (by omega)
    · obtain ⟨p, hp⟩ := List.mem_iff_getElem?.1 hk
      exact (hnum p k hp).2

def bitIn (ms : Option (List Nat)) (p j : Nat) : Prop := ∀ l, ms = some l → Nat.testBit (l.getD p 0) j = true

def NoPan (xs : List (Wr U)) (S : Nat → Prop) : Prop := ∀ (j : Nat) (y : Wr U) (b : Bool × PanV U), S j → xs[j]? = some y → y.pan = some b → b.1 = false

theorem under_spec : ∀ {ps : List (Nat × Bool)} {m : Option Nat} {q : Prop}, under ps m q → (∀ i b, (i, b) ∈ ps → (∀ m', m = some m' → Nat.testBit m' i = true) → b = false) → q
  | [], _, _, h, _ => h
  | (i, b) :: r, m, q, h, hp => by
    unfold under at h
    cases m with
    | none => exact under_spec (h (hp i b (by simp) (fun m' hm => by cases hm))) (fun j c hj hh => hp j c (by simp [hj]) hh)
    | some m' =>
      simp only at h
      cases hb : Nat.testBit m' i with
      | true =>
        rw [hb] at h
        simp only [cond_true] at h
        exact under_spec (h (hp i b (by simp) (fun m2 hm => by simp only [Option.some.injEq] at hm; rw [← hm]; exact hb))) (fun j c hj hh => hp j c (by simp [hj]) hh)
      | false =>
        rw [hb] at h
        simp only [cond_false] at h
        exact under_spec h (fun j c hj hh => hp j c (by simp [hj]) hh)

theorem obls_spec {Qp : PanV U → Prop} {ms : Option (List Nat)} {q : Prop} : ∀ {xs : List (Wr U)} {i0 : Nat} {ps : List (Nat × Bool)}, obls Qp ms xs i0 ps q → ∀ {pre : List (Wr U)}, pre.length = i0 → (∀ i b, (i, b) ∈ ps → ∃ y v, pre[i]? = some y ∧ y.pan = some (b, v)) →
    (∀ (k : Nat) (x : Wr U), xs[k]? = some x → NoPan (pre ++ xs) (fun j => j < i0 + k ∧ bitIn ms (i0 + k) j) → holds x.obl ∧ ∀ b, x.pan = some b → b.1 = true → Qp b.2) ∧ (NoPan (pre ++ xs) (fun _ => True) → q)
  | [], i0, ps, h, pre, hpre, hps => by
    refine ⟨fun k x hx => by simp at hx, fun hn => under_spec h (fun i b hm _ => ?_)⟩
    obtain ⟨y, v, h1, h2⟩ := hps i b hm
    exact hn i y (b, v) trivial (by rw [List.append_nil]; exact h1) h2
  | x :: r, i0, ps, h, pre, hpre, hps => by
    have hund : ∀ {p : Prop}, under ps (ms.map (·.getD i0 0)) p → NoPan (pre ++ x :: r) (fun j => j < i0 + 0 ∧ bitIn ms (i0 + 0) j) → p := by
      intro p hu hn
      refine under_spec hu (fun i b hm hbit => ?_)
      obtain ⟨y, v, h1, h2⟩ := hps i b hm
      have hil : i < pre.length := (List.getElem?_eq_some_iff.1 h1).1
      refine hn i y (b, v) ⟨by omega, fun l hl => ?_⟩ (by rw [List.getElem?_append_left hil]; exact h1) h2
      rw [hl] at hbit
      exact hbit _ rfl
    have hmono : ∀ i b, (i, b) ∈ ps → ∃ y v, (pre ++ [x])[i]? = some y ∧ y.pan = some (b, v) := by
      intro i b hm
      obtain ⟨y, v, h1, h2⟩ := hps i b hm
      have hil : i < pre.length := (List.getElem?_eq_some_iff.1 h1).1
      exact ⟨y, v, by rw [List.getElem?_append_left hil]; exact h1, h2⟩
    have hlast : (pre ++ [x])[i0]? = some x := by rw [List.getElem?_append_right (by omega), hpre]; simp
    have fin : ∀ {ps' : List (Nat × Bool)}, (∀ i b, (i, b) ∈ ps' → ∃ y v, (pre ++ [x])[i]? = some y ∧ y.pan = some (b, v)) → obls Qp ms r (i0 + 1) ps' q →
        (NoPan (pre ++ x :: r) (fun j => j < i0 + 0 ∧ bitIn ms (i0 + 0) j) → holds x.obl ∧ ∀ b, x.pan = some b → b.1 = true → Qp b.2) →
        (∀ (k : Nat) (y : Wr U), (x :: r)[k]? = some y → NoPan (pre ++ x :: r) (fun j => j < i0 + k ∧ bitIn ms (i0 + k) j) → holds y.obl ∧ ∀ b, y.pan = some b → b.1 = true → Qp b.2) ∧ (NoPan (pre ++ x :: r) (fun _ => True) → q) := by
      intro ps' hps' hr h0
      obtain ⟨h1, h2⟩ := obls_spec hr (pre := pre ++ [x]) (by simp [hpre]) hps'
      have hap : (pre ++ [x]) ++ r = pre ++ x :: r := by simp
      rw [hap] at h1 h2
      refine ⟨fun k y hy hn => ?_, h2⟩
      match k, hy with
      | 0, hy =>
        simp only [List.getElem?_cons_zero, Option.some.injEq] at hy
        subst hy
        exact h0 hn
      | k + 1, hy =>
        refine h1 k y (by simpa using hy) ?_
        rw [show i0 + 1 + k = i0 + (k + 1) by omega]
        exact hn
    unfold obls at h
    cases hpan : x.pan with
    | none =>
      rw [hpan] at h
      simp only at h
      cases hob : x.obl with
      | none =>
        rw [hob] at h
        exact fin hmono h (fun _ => ⟨by rw [hob]; trivial, fun b hb => by rw [hpan] at hb; cases hb⟩)
      | some p =>
        rw [hob] at h
        exact fin hmono h.2 (fun hn => ⟨by rw [hob]; exact hund h.1 hn, fun b hb => by rw [hpan] at hb; cases hb⟩)
    | some bv =>
      obtain ⟨b, v⟩ := bv
      rw [hpan] at h
      simp only at h
      have hps2 : ∀ i c, (i, c) ∈ ps ++ [(i0, b)] → ∃ y v, (pre ++ [x])[i]? = some y ∧ y.pan = some (c, v) := by
        intro i c hm
        rcases List.mem_append.1 hm with h1 | h1
        · exact hmono i c h1
        · simp only [List.mem_singleton, Prod.mk.injEq] at h1
          obtain ⟨rfl, rfl⟩ := h1
          exact ⟨x, v, hlast, hpan⟩
      cases hob : x.obl with
      | none =>
        rw [hob] at h
        exact fin hps2 h.2 (fun hn => ⟨by rw [hob]; trivial, fun b' hb' h1 => by rw [hpan] at hb'; simp only [Option.some.injEq] at hb'; subst hb'; exact hund h.1 hn h1⟩)
      | some p =>
        rw [hob] at h
        exact fin hps2 h.2.2 (fun hn => ⟨by rw [hob]; exact hund h.1 hn, fun b' hb' h1 => by rw [hpan] at hb'; simp only [Option.some.injEq] at hb'; subst hb'; exact hund h.2.1 hn h1⟩)

structure Reg (E : Env U) (dr : Bool) (n : Nat) (ops : Array Oper) (pos : Nat → Nat) (os : List Oper) (ms : Option (List Nat)) (Qp : PanV U → Prop) (s : St U) (xs : List (Wr U)) (s' : St U) : Prop where
  run : Path E ops.toList os s xs s'
  ord : ∃ idx, Ord ops.toList pos idx os
  ok : okOps n ops.toList [] = true
  ahead : VT.ahead pos dr ops.toList 0 = true
  obl : ∀ (k : Nat) (x : Wr U), xs[k]? = some x → NoPan xs (fun j => j < k ∧ bitIn ms k j) → holds x.obl ∧ ∀ b, x.pan = some b → b.1 = true → Qp b.2

variable {pos : Nat → Nat} {os : List Oper} {ms : Option (List Nat)} {Qp : PanV U → Prop}

theorem Reg.op (G : Reg E dr n ops pos os ms Qp s xs s') {k : Nat} {o : Oper} (ho : ops[k]? = some o) : ∃ x, xs[pos k]? = some x ∧ StepIs E ops.toList o ((xs.take (pos k)).foldl St.app s) x ∧ x.dst = o.dst := by
  have h3 := G.run.step
  obtain ⟨idx, O⟩ := G.ord
  have hk : k < ops.toList.length := by simpa using (Array.getElem?_eq_some_iff.1 ho).1
  obtain ⟨x, hx, hs⟩ := h3 (pos k) o (by rw [O.os, O.at_ k hk]; simpa using ho)
  exact ⟨x, hx, hs, hs.dst⟩

theorem Reg.os_len (G : Reg E dr n ops pos os ms Qp s xs s') : os.length = ops.size := by
  obtain ⟨idx, O⟩ := G.ord
  have hl : idx.length = ops.size := by simpa using O.len
  have h1 : ∀ p, p < ops.size ↔ p < os.length := by
    intro p
    constructor
    · intro hp
      obtain ⟨k, hk⟩ : ∃ k, idx[p]? = some k := ⟨_, List.getElem?_eq_getElem (by omega)⟩
      have hkl := (O.num p k hk).2
      have := O.os p
      rw [hk, Option.bind_some, List.getElem?_eq_getElem hkl] at this
      exact (List.getElem?_eq_some_iff.1 this).1
    · intro hp
      have := O.os p
      rw [List.getElem?_eq_getElem hp] at this
      cases hi : idx[p]? with
      | none => rw [hi] at this; cases this
      | some k => have := (List.getElem?_eq_some_iff.1 hi).1; omega
  have h2 := h1 os.length
  have h3 := h1 ops.size
  omega

theorem Reg.len (G : Reg E dr n ops pos os ms Qp s xs s') : xs.length = ops.size := by
  rw [G.run.len, G.os_len]

theorem Reg.get (G : Reg E dr n ops pos os ms Qp s xs s') {p : Nat} {x : Wr U} (hx : xs[p]? = some x) : ∃ k o, pos k = p ∧ ops[k]? = some o ∧ x.dst = o.dst := by
  have hp : p < xs.length := (List.getElem?_eq_some_iff.1 hx).1
  rw [G.len] at hp
  obtain ⟨idx, O⟩ := G.ord
  have hl : idx.length = ops.size := by simpa using O.len
  obtain ⟨k, hk⟩ : ∃ k, idx[p]? = some k := ⟨_, List.getElem?_eq_getElem (by omega)⟩
  obtain ⟨h1, h2⟩ := O.num p k hk
  have hkl : k < ops.size := by simpa using h2
  obtain ⟨y, hy, _, hd⟩ := G.op (Array.getElem?_eq_getElem hkl)
  rw [h1, hx] at hy
  simp only [Option.some.injEq] at hy
  subst hy
  exact ⟨k, _, h1, Array.getElem?_eq_getElem hkl, hd⟩

theorem Reg.inj (G : Reg E dr n ops pos os ms Qp s xs s') {j k : Nat} (hj : j < ops.size) (hk : k < ops.size) (h : pos j = pos k) : j = k := by
  obtain ⟨idx, O⟩ := G.ord
  have h1 := O.at_ j (by simpa using hj)
  have h2 := O.at_ k (by simpa using hk)
  rw [h, h2] at h1
  simpa using h1.symm

theorem Reg.lt (G : Reg E dr n ops pos os ms Qp s xs s') {k : Nat} (hk : k < ops.size) : pos k < ops.size := by
  obtain ⟨idx, O⟩ := G.ord
  have h1 := O.at_ k (by simpa using hk)
  have := (List.getElem?_eq_some_iff.1 h1).1
  have hl : idx.length = ops.size := by simpa using O.len
  omega

theorem Reg.back (G : Reg E dr n ops pos os ms Qp s xs s') {j : Nat} (hj : pos j < ops.size) : j < ops.size := by
  obtain ⟨idx, O⟩ := G.ord
  simpa using O.back j (by simpa using hj)

theorem Reg.okOp (G : Reg E dr n ops pos os ms Qp s xs s') {k : Nat} {o : Oper} (ho : ops[k]? = some o) :
    (∀ d, o.dst = some d → d < n ∧ ∀ (j : Nat) (o' : Oper), j < k → ops[j]? = some o' → o'.dst ≠ some d) ∧ (∀ g want, o.guard = some (g, want) → pos g < pos k) ∧ (dr = true → ∀ e ∈ o.after.toList, Region.binds .any e = true → pos e.on < pos k) := by
  have h1 := okOps_spec G.ok k o (by rw [Array.getElem?_toList]; exact ho)
  have hk : k < ops.size := (Array.getElem?_eq_some_iff.1 ho).1
  have h2 := ahead_spec G.ahead k o (by rw [Array.getElem?_toList]; exact ho)
  rw [Nat.zero_add] at h2
  refine ⟨fun d hd => ?_, h2⟩
  rw [hd] at h1
  simp only [okDst, Bool.and_eq_true] at h1
  refine ⟨Nat.le_of_ble_eq_true h1.1, fun j o' hj ho' hd' => ?_⟩
  have hm : some d ∈ [] ++ (ops.toList.take k).map (fun x : Oper => x.dst) := by
    simp only [List.nil_append, List.mem_map]
    refine ⟨o', ?_, hd'⟩
    rw [List.mem_iff_getElem?]
    exact ⟨j, by rw [List.getElem?_take, if_pos hj, Array.getElem?_toList]; exact ho'⟩
  have := List.all_eq_true.1 h1.2 _ hm
  simp at this

theorem Reg.one (G : Reg E dr n ops pos os ms Qp s xs s') {j k : Nat} {x y : Wr U} (hx : xs[j]? = some x) (hy : xs[k]? = some y) {d : Nat} (hxd : x.dst = some d) (hyd : y.dst = some d) : j = k := by
  obtain ⟨kj, o, hj, ho, h1⟩ := G.get hx
  obtain ⟨kk, o', hk, ho', h2⟩ := G.get hy
  rcases Nat.lt_trichotomy kj kk with h | h | h
  · exact absurd (h1 ▸ hxd) (((G.okOp ho').1 d (h2 ▸ hyd)).2 kj o h ho)
  · rw [← hj, ← hk, h]
  · exact absurd (h2 ▸ hyd) (((G.okOp ho).1 d (h1 ▸ hxd)).2 kk o' h ho')

def Dset (S : Nat → Bool) (xs : List (Wr U)) (d : Nat) : Prop := ∃ j x, xs[j]? = some x ∧ S j = true ∧ x.dst = some d

theorem dstIn_iff {d : Option Tmp} {l : List Nat} : dstIn d l = true ↔ ∃ t, d = some t ∧ t ∈ l := by
  cases d with
  | none => simp [dstIn]
  | some t =>
    simp only [dstIn, List.any_eq_true, Option.some.injEq]
    constructor
    · rintro ⟨x, hx, he⟩
      have := Nat.eq_of_beq_eq_true he
      subst this
      exact ⟨t, rfl, hx⟩
    · rintro ⟨t', rfl, ht⟩
      exact ⟨t, ht, Nat.beq_refl t⟩

theorem meets_iff {a b : List Nat} : meets a b = true ↔ ∃ t, t ∈ a ∧ t ∈ b := by
  simp only [meets, List.any_eq_true]
  constructor
  · rintro ⟨x, hx, y, hy, he⟩
    have := Nat.eq_of_beq_eq_true he
    subst this
    exact ⟨x, hx, hy⟩
  · rintro ⟨t, h1, h2⟩
    exact ⟨t, h1, t, h2, Nat.beq_refl t⟩

theorem core {Y : Fr} {ro : Option Nat} (hE : E.Fits) (hG : E.Sound Y) (hY : Inside Y F E.yl) (hFG : F.G = E.G) (G : Reg E dr n ops pos os ms Qp s xs s') {S : Nat → Bool} {k : Nat} {o : Oper} (ho : ops[k]? = some o) {x : Wr U} (hx : xs[pos k]? = some x) (hSk : S (pos k) = false)
    (h1 : ∀ (j : Nat) (y : Wr U), xs[j]? = some y → j < pos k → clash y x = true → S j = true) (h2 : ∀ (j : Nat) (y : Wr U), xs[j]? = some y → pos k < j → S j = true → clash x y = false)
    (hN : NoPan xs (fun j => S j = true)) (hmask : ∀ j, j < pos k → bitIn ms (pos k) j → S j = true)
    (R : Rel F n β (stS S xs 0 s) a.tmps w) (hO : OptIn (Dset S xs) (stS S xs 0 s).σ) {K : Act → World → Prop} {Q : Exit → Act → World → Prop}
    (hK : ∀ β' a' w', NoPan xs (fun j => with1 S (pos k) j = true) → Rel F n β' (stS (with1 S (pos k)) xs 0 s) a'.tmps w' → OptIn (Dset (with1 S (pos k)) xs) (stS (with1 S (pos k)) xs 0 s).σ → a'.defers = a.defers → K a' w')
    (hP : ∀ v u w', (∃ b, x.pan = some b) → Qp v → PanIs v u → Below F.B w w' → (∀ blk, blk < w.heap.size → (∀ id ∈ keys x.upd ++ x.lost, ∀ o, look id (stS S xs 0 s).h = some o → o.live = true → blkOf (β id) ≠ some blk) → w'.heap[blk]? = w.heap[blk]?) → Q (.panic [{ v := u, recovered := false }]) a w') : wpOpIn (fen E.P ro) 0 E.P ops Q k K a w := by
  obtain ⟨y, hy, hstep, hdst⟩ := G.op ho
  rw [hx] at hy
  simp only [Option.some.injEq] at hy
  subst hy
  rw [stS_fold (i := 0)] at hstep
  have hkeys := hstep.keys
  have clash1 : ∀ (j : Nat) (y : Wr U), xs[j]? = some y → (dstIn y.dst x.rds = true ∨ meets (keys y.upd) x.ids = true) → S j = decide (j < 0 + pos k) := by
    intro j y hyj hc
    rcases Nat.lt_trichotomy j (pos k) with h | h | h
    · rw [h1 j y hyj h (by rcases hc with hc | hc <;> simp [clash, hc])]
      simp [h]
    · subst h; rw [hSk]; simp
    · cases hS : S j with
      | false => simp; omega
      | true =>
        have := h2 j y hyj h hS
        simp only [clash, Bool.or_eq_false_iff] at this
        rcases hc with hc | hc
        · rw [hc] at this; simp at this
        · rw [hc] at this; simp at this
  have hstep2 : StepIs E ops.toList o (stS S xs 0 s) x := by
    refine hstep.congr (fun t ht => ?_) (fun id hid => ?_)
    · refine (c1s rfl (fun j y hyj hd => ?_)).symm
      rw [Nat.zero_add]
      exact clash1 j y hyj (.inl (dstIn_iff.2 ⟨t, hd, ht⟩))
    · refine (c1h rfl (fun j y hyj hd => ?_)).symm
      rw [Nat.zero_add]
      exact clash1 j y hyj (.inr (meets_iff.2 ⟨id, hd, hid⟩))
  have hok := G.okOp ho
  have hfact : x.holds := G.run.fact x (List.mem_iff_getElem?.2 ⟨_, hx⟩)
  have hobl := G.obl _ x hx (fun j y b hj hy hb => hN j y b (hmask j hj.1 hj.2) hy hb)
  have hstep3 := hstep2
  obtain ⟨alt, halt, hhas⟩ := hstep2
  have hmain := step_wp (K := K) (Q := Q) (ro := ro) hE hG hY hFG (ops := ops) R hO halt hhas hfact hobl.1 (fun d hd => ⟨(hok.1 d hd).1, ?_⟩) (fun i want j hg hj => ?_) (fun β' a' w' hpan R' hO' hdef => ?_) (fun b hb h1 u w' h2 h3 h4 => hP b.2 u w' ⟨b, hb⟩ (hobl.2 b hb h1) h2 h3 h4)
  · unfold wpOpIn
    rw [ho]
    dsimp only
    by_cases hw : Region.wanted o (yielded ops a.tmps) = true
    · rw [if_pos hw] at hmain ⊢
      exact hmain
    · rw [if_neg hw] at hmain ⊢
      exact hmain
  · rintro ⟨j, y, hyj, hSj, hyd⟩
    have := G.one hyj hx hyd (hdst.trans hd)
    subst this
    rw [hSk] at hSj
    cases hSj
  · have hik := hok.2.1 i want hg
    have hoi : ∃ oi, ops[i]? = some oi := by
      unfold guardSlot at hj
      rw [Array.getElem?_toList] at hj
      cases hoi : ops[i]? with
      | none => rw [hoi] at hj; cases hj
      | some oi => exact ⟨oi, rfl⟩
    obtain ⟨oi, hoi⟩ := hoi
    obtain ⟨y, hyi, _, hyd⟩ := G.op hoi
    have hj' : oi.dst = some j := by
      unfold guardSlot at hj
      rw [Array.getElem?_toList, hoi] at hj
      exact hj
    exact ⟨pos i, y, hyi, h1 (pos i) y hyi hik (by
      have : dstIn y.dst x.rds = true := dstIn_iff.2 ⟨j, hyd.trans hj', hstep.guard hg hj⟩
      simp [clash, this]), hyd.trans hj'⟩
  · have hk0 : S (0 + pos k) = false := by rw [Nat.zero_add]; exact hSk
    have hsame : Same ((stS S xs 0 s).app x) (stS (with1 S (pos k)) xs 0 s) := by
      refine ⟨fun t => ?_, fun id => ?_⟩
      · have := c2s (t := t) (S := S) (xs := xs) (i := 0) (k := pos k) (s := s) hx hk0 (fun j y hyj hkj _ hxd hyd => by
          have := G.one hx hyj hxd hyd
          omega)
        rw [Nat.zero_add] at this
        exact this.symm
      · have := c2h (t := id) (S := S) (xs := xs) (i := 0) (k := pos k) (s := s) hx hk0 (fun j y hyj hkj hSj hxk hyk => by
          rw [Nat.zero_add] at hSj
          have hc := h2 j y hyj hkj hSj
          obtain ⟨kj, oj, hkj2, hoj, _⟩ := G.get hyj
          obtain ⟨y', hy', hst, _⟩ := G.op hoj
          rw [hkj2, hyj] at hy'
          simp only [Option.some.injEq] at hy'
          subst hy'
          have : meets (keys x.upd) y.ids = true := meets_iff.2 ⟨id, hxk, hst.keys id hyk⟩
          simp [clash, this] at hc)
        rw [Nat.zero_add] at this
        exact this.symm
    refine hK β' a' w' (fun j y b hj hy hb => ?_) (R'.same hsame) ((hO'.mono (fun d hd => ?_)).same hsame) hdef
    · simp only [with1, Bool.or_eq_true, beq_iff_eq] at hj
      rcases hj with hj | hj
      · exact hN j y b hj hy hb
      · subst hj
        rw [hx] at hy
        simp only [Option.some.injEq] at hy
        subst hy
        exact hpan b hb
    · rcases hd with ⟨j, y, hyj, hSj, hyd⟩ | hd
      · exact ⟨j, y, hyj, by simp [with1, hSj], hyd⟩
      · exact ⟨pos k, x, hx, by simp [with1], hdst.trans hd⟩

theorem Reg.all (G : Reg E dr n ops pos os ms Qp s xs s') {S : Nat → Bool} (hS : ∀ j, j < ops.size → S j = true) : Same (stS S xs 0 s) s' := by
  have h2 := G.run.fin
  have : s' = stS (fun j => decide (j < 0 + xs.length)) xs 0 s := by rw [h2, ← stS_fold, List.take_length]
  have hj : ∀ (j : Nat) (x : Wr U), xs[j]? = some x → S (0 + j) = decide (0 + j < 0 + xs.length) := by
    intro j x hx
    have hlt : j < xs.length := by
      by_cases hlt : j < xs.length
      · exact hlt
      · rw [List.getElem?_eq_none (by omega)] at hx; cases hx
    rw [Nat.zero_add, hS j (by rw [← G.len]; exact hlt)]
    simp [hlt]
  rw [this]
  exact ⟨fun t => c1s rfl (fun j x hx _ => hj j x hx), fun id => c1h rfl (fun j x hx _ => hj j x hx)⟩

def Falls (F : Fr) (n : Nat) (ms : Option (List Nat)) (xs : List (Wr U)) (s : St U) (ds : List Deferred) (Qp : PanV U → Prop) (Q : Exit → Act → World → Prop) : Prop :=
  ∀ (S : Nat → Bool) (k : Nat) (x : Wr U) (β : Nm) (a : Act) (w w' : World) (v : PanV U) (u : Value), xs[k]? = some x → Rel F n β (stS S xs 0 s) a.tmps w → OptIn (Dset S xs) (stS S xs 0 s).σ → a.defers = ds → (∃ b, x.pan = some b) → (∀ j, S j = true → j ≠ k ∧ follows ms j k = false) → S k = false → Qp v → PanIs v u → Below F.B w w' →
    (∀ blk, blk < w.heap.size → (∀ id ∈ keys x.upd ++ x.lost, ∀ o, look id (stS S xs 0 s).h = some o → o.live = true → blkOf (β id) ≠ some blk) → w'.heap[blk]? = w.heap[blk]?) → Q (.panic [{ v := u, recovered := false }]) a w'

theorem list_wp {Y : Fr} {ro : Option Nat} (hE : E.Fits) (hG : E.Sound Y) (hY : Inside Y F E.yl) (hFG : F.G = E.G) (G : Reg E dr n ops pos os none Qp s xs s') (hpos : ∀ k, pos k = k) {Q : Exit → Act → World → Prop} {ds : List Deferred} (hQ : NoPan xs (fun _ => True) → ∀ β' a' w', Rel F n β' s' a'.tmps w' → OptIn (Dset (fun _ => true) xs) s'.σ → a'.defers = ds → Q .normal a' w') (hFl : Falls F n none xs s ds Qp Q) :
    ∀ (m k : Nat), k + m = ops.size → ∀ β a w, NoPan xs (fun j => j < k) → Rel F n β (stS (fun j => decide (j < k)) xs 0 s) a.tmps w → OptIn (Dset (fun j => decide (j < k)) xs) (stS (fun j => decide (j < k)) xs 0 s).σ → a.defers = ds → wpOpsIn (fen E.P ro) 0 E.P ops Q (List.range' k m) a w
  | 0, k, hk, β, a, w, hN, R, hO, hd => by
    have hs := G.all (S := fun j => decide (j < k)) (fun j hj => by simp; omega)
    refine hQ (fun j y b _ hy hb => hN j y b ?_ hy hb) β a w (R.same hs) ((hO.mono (fun d ⟨j, x, h1, _, h3⟩ => ⟨j, x, h1, rfl, h3⟩)).same hs) hd
    have := (List.getElem?_eq_some_iff.1 hy).1
    rw [G.len] at this
    omega
  | m + 1, k, hk, β, a, w, hN, R, hO, hd => by
    rw [List.range'_succ, wpOpsIn_cons]
    have hkl : k < ops.size := by omega
    obtain ⟨x, hx, _⟩ := G.op (Array.getElem?_eq_getElem hkl)
    have hw1 : with1 (fun j => decide (j < k)) k = fun j => decide (j < k + 1) := by
      funext j
      unfold with1
      by_cases h1 : j < k
      · simp [h1]; omega
      · by_cases h2 : j = k
        · simp [h2]
        · have : (j == k) = false := by simpa using h2
          simp [h1, this]; omega
    refine core hE hG hY hFG G (Array.getElem?_eq_getElem hkl) hx (by rw [hpos]; simp) (fun j y _ hj _ => by rw [hpos] at hj; simp [hj]) (fun j y _ hj hS => by rw [hpos] at hj; simp at hS; omega) (fun j y b hj hy hb => hN j y b (by simpa using hj) hy hb) (fun j hj _ => by rw [hpos] at hj; simp [hj]) R hO (fun β' a' w' hN' R' hO' hdef => ?_)
      (fun v u w' h0 h1 h2 h3 h4 => hFl _ _ x β a w w' v u hx R hO hd h0 (fun j hj => by
        rw [hpos]
        have hj : j < k := by simpa using hj
        exact ⟨by omega, by show Nat.blt k j = false; cases hb : Nat.blt k j with
          | false => rfl
          | true => have := Nat.le_of_ble_eq_true hb; omega⟩) (by rw [hpos]; simp) h1 h2 h3 h4)
    rw [hpos, hw1] at R' hO' hN'
    exact list_wp hE hG hY hFG G hpos hQ hFl m (k + 1) (by omega) β' a' w' (fun j y b hj hy hb => hN' j y b (by simpa using hj) hy hb) R' hO' (hdef.trans hd)

theorem stS_start {xs : List (Wr U)} {s : St U} : stS (fun j => decide (j < 0)) xs 0 s = s := by
  have : (fun j : Nat => decide (j < 0)) = fun _ => false := by funext j; simp
  rw [this, stS_none]

end
end Go.VT
end

section
set_option linter.unusedVariables false
set_option linter.unusedSimpArgs false
namespace Go.VT
noncomputable section
open Go.RowKit
variable {U : Univ} {E : Env U} {F : Fr} {n : Nat} {β : Nm} {s s' : St U} {a : Act} {w : World} {o : Oper} {e : Eff U} {h : Obs U} {xs : List (Wr U)} {ops : Array Oper} {pos : Nat → Nat} {os : List Oper} {ms : Option (List Nat)} {Qp : PanV U → Prop}

theorem mask_bit {acc : List Nat} {i : Nat} : ∀ {l : List Edge} {m : Nat}, Nat.testBit (l.foldl (fun m e => bif Region.binds .any e then Nat.lor m (Nat.lor (2 ^ (pos e.on)) (acc.getD (pos e.on) 0)) else m) m) i = true →
    Nat.testBit m i = true ∨ ∃ e ∈ l, Region.binds .any e = true ∧ (pos e.on = i ∨ Nat.testBit (acc.getD (pos e.on) 0) i = true)
  | [], m, h => .inl h
  | e :: l, m, h => by
    rcases mask_bit (l := l) h with h1 | ⟨e', he, hb, h2⟩
    · cases hb : Region.binds .any e with
      | false => simp only [hb, cond_false] at h1; exact .inl h1
      | true =>
        simp only [hb, cond_true] at h1
        have h1 : Nat.testBit (m ||| (2 ^ (pos e.on) ||| acc.getD (pos e.on) 0)) i = true := h1
        rw [Nat.testBit_or, Nat.testBit_or, Nat.testBit_two_pow] at h1
        simp only [Bool.or_eq_true, decide_eq_true_eq] at h1
        rcases h1 with h1 | h1 | h1
        · exact .inl h1
        · exact .inr ⟨e, by simp, hb, .inl h1⟩
        · exact .inr ⟨e, by simp, hb, .inr h1⟩
    · exact .inr ⟨e', by simp [he], hb, h2⟩

theorem masks_spec : ∀ {r : List Oper} {acc : List Nat}, (∃ l, masks pos r acc = acc ++ l ∧ l.length = r.length) ∧ ∀ k o, r[k]? = some o → (masks pos r acc)[acc.length + k]? = some (mask pos ((masks pos r acc).take (acc.length + k)) o)
  | [], acc => ⟨⟨[], by simp [masks], rfl⟩, by simp⟩
  | o :: r, acc => by
    obtain ⟨⟨l, h1, h2⟩, h3⟩ := masks_spec (r := r) (acc := acc ++ [mask pos acc o])
    refine ⟨⟨mask pos acc o :: l, by simp [masks, h1], by simp [h2]⟩, fun k o' hk => ?_⟩
    match k, hk with
    | 0, hk =>
      simp only [List.getElem?_cons_zero, Option.some.injEq] at hk
      subst hk
      simp [masks, h1]
    | k + 1, hk =>
      have := h3 k o' (by simpa using hk)
      simp only [List.length_append, List.length_singleton] at this
      rw [show acc.length + (k + 1) = acc.length + 1 + k by omega]
      exact this

theorem indepAt_spec {y : Wr U} {m : Nat} : ∀ {l : List (Wr U)} {i0 : Nat}, indepAt y m l i0 = true → ∀ i x, l[i]? = some x → clash x y = true → Nat.testBit m (i0 + i) = true
  | [], _, _, i, x, hx, _ => by simp at hx
  | z :: l, i0, h, i, x, hx, hc => by
    simp only [indepAt, Bool.and_eq_true, Bool.or_eq_true, Bool.not_eq_true'] at h
    match i, hx with
    | 0, hx =>
      simp only [List.getElem?_cons_zero, Option.some.injEq] at hx
      subst hx
      rcases h.1 with h1 | h1
      · rw [hc] at h1; cases h1
      · exact h1
    | i + 1, hx =>
      have := indepAt_spec h.2 i x (by simpa using hx) hc
      rwa [Nat.add_assoc, Nat.add_comm 1 i] at this

theorem indep_spec : ∀ {ys : List (Wr U)} {ms : List Nat} {done : List (Wr U)}, indep done ys ms = true → ∀ k y, ys[k]? = some y → ∃ m, ms[k]? = some m ∧ indepAt y m (done ++ ys.take k) 0 = true
  | [], _, _, _, k, y, hy => by simp at hy
  | z :: ys, [], _, h, _, _, _ => by simp [indep] at h
  | z :: ys, m :: ms, done, h, k, y, hy => by
    simp only [indep, Bool.and_eq_true] at h
    match k, hy with
    | 0, hy =>
      simp only [List.getElem?_cons_zero, Option.some.injEq] at hy
      subst hy
      exact ⟨m, rfl, by simpa using h.1⟩
    | k + 1, hy =>
      obtain ⟨m', h1, h2⟩ := indep_spec h.2 k y (by simpa using hy)
      exact ⟨m', by simpa using h1, by simpa [List.append_assoc] using h2⟩

def left (S : Nat → Bool) : Nat → Nat
  | 0 => 0
  | n + 1 => left S n + (if S n = true then 0 else 1)

theorem left_zero {S : Nat → Bool} : ∀ {n : Nat}, left S n = 0 → ∀ j, j < n → S j = true
  | 0, _, j, hj => by omega
  | n + 1, h, j, hj => by
    simp only [left] at h
    by_cases hn : S n = true
    · rcases Nat.lt_succ_iff_lt_or_eq.1 hj with h1 | h1
      · exact left_zero (by omega) j h1
      · rw [h1]; exact hn
    · rw [if_neg hn] at h; omega

theorem left_with {S : Nat → Bool} {i : Nat} : ∀ {n : Nat}, (n ≤ i → left (with1 S i) n = left S n) ∧ (i < n → S i = false → left (with1 S i) n + 1 = left S n)
  | 0 => ⟨fun _ => rfl, fun h => by omega⟩
  | n + 1 => by
    obtain ⟨h1, h2⟩ := left_with (S := S) (i := i) (n := n)
    have hw : ∀ j, j ≠ i → with1 S i j = S j := by
      intro j hj
      have : (j == i) = false := by simpa using hj
      simp [with1, this]
    refine ⟨fun h => ?_, fun h hS => ?_⟩
    · simp only [left]
      rw [h1 (by omega), hw n (by omega)]
    · simp only [left]
      by_cases hn : n = i
      · subst hn
        rw [h1 (Nat.le_refl _), hS, if_pos (by simp [with1])]
        simp
      · rw [hw n hn]
        have := h2 (by omega) hS
        omega

theorem left_none : ∀ {n : Nat}, left (fun _ => false) n = n
  | 0 => rfl
  | n + 1 => by simp [left, left_none]

def doneAt (listed : Array Bool) : Option Nat → Bool
  | some k => listed.getD k false
  | none => false

def doneBy (idx : List Nat) (listed : Array Bool) : Nat → Bool := fun p => doneAt listed idx[p]?

theorem done_at {idx : List Nat} {ops : List Oper} (O : Ord ops pos idx os) (listed : Array Bool) {k : Nat} (hk : k < ops.length) : doneBy idx listed (pos k) = listed.getD k false := by
  unfold doneBy
  rw [O.at_ k hk]
  rfl

theorem done_set {idx : List Nat} {ops : List Oper} (O : Ord ops pos idx os) {listed : Array Bool} {i : Nat} (hi : i < listed.size) (hio : i < ops.length) : doneBy idx (listed.setIfInBounds i true) = with1 (doneBy idx listed) (pos i) := by
  funext p
  unfold with1
  show doneAt (listed.setIfInBounds i true) idx[p]? = (doneAt listed idx[p]? || p == pos i)
  cases hp : idx[p]? with
  | none =>
    have : (p == pos i) = false := by
      rw [beq_eq_false_iff_ne]
      intro h
      rw [h, O.at_ i hio] at hp
      cases hp
    rw [this]
    rfl
  | some k =>
    show (listed.setIfInBounds i true).getD k false = (listed.getD k false || p == pos i)
    by_cases h : k = i
    · subst h
      have : (p == pos k) = true := by simpa using (O.num p k hp).1.symm
      rw [this, Array.getD_eq_getD_getElem?]
      simp [hi]
    · have : (p == pos i) = false := by
        rw [beq_eq_false_iff_ne]
        intro h2
        rw [h2, O.at_ i hio] at hp
        simp only [Option.some.injEq] at hp
        exact h hp.symm
      rw [this, Bool.or_false]
      rw [Array.getD_eq_getD_getElem?, Array.getD_eq_getD_getElem?, Array.getElem?_setIfInBounds_ne (Ne.symm h)]

def Closed (ops : Array Oper) (pos : Nat → Nat) (S : Nat → Bool) : Prop := ∀ j o, S (pos j) = true → ops[j]? = some o → ∀ e ∈ o.after.toList, Region.binds .any e = true → S (pos e.on) = true

theorem Reg.osat (G : Reg E true n ops pos os ms Qp s xs s') {k : Nat} {o : Oper} (ho : ops[k]? = some o) : os[pos k]? = some o := by
  obtain ⟨idx, O⟩ := G.ord
  have hk : k < ops.toList.length := by simpa using (Array.getElem?_eq_some_iff.1 ho).1
  rw [O.os, O.at_ k hk]
  simpa using ho

theorem anc_done (G : Reg E true n ops pos os ms Qp s xs s') {S : Nat → Bool} (hC : Closed ops pos S) : ∀ (p k : Nat) (o : Oper), pos k = p → ops[k]? = some o → (∀ e ∈ o.after.toList, Region.binds .any e = true → S (pos e.on) = true) →
    ∀ m i, (masks pos os [])[p]? = some m → Nat.testBit m i = true → S i = true := by
  intro p
  induction p using Nat.strongRecOn with
  | ind p ih =>
    intro k o hpk ho he m i hm hbit
    subst hpk
    have hspec := (masks_spec (pos := pos) (r := os) (acc := [])).2 (pos k) o (G.osat ho)
    simp only [List.length_nil, Nat.zero_add] at hspec
    rw [hm] at hspec
    simp only [Option.some.injEq] at hspec
    rw [hspec] at hbit
    rcases mask_bit hbit with h1 | ⟨e, hel, hb, h1⟩
    · simp at h1
    · have hon := (G.okOp ho).2.2 rfl e hel hb
      have hSe := he e hel hb
      rcases h1 with h1 | h1
      · rw [← h1]; exact hSe
      · have hoe : ∃ o', ops[e.on]? = some o' := ⟨_, Array.getElem?_eq_getElem (G.back (Nat.lt_trans hon (G.lt (Array.getElem?_eq_some_iff.1 ho).1)))⟩
        obtain ⟨o', ho'⟩ := hoe
        cases hme : (masks pos os [])[pos e.on]? with
        | none =>
          rw [List.getD_eq_getElem?_getD, List.getElem?_take, if_pos hon, hme] at h1
          simp at h1
        | some m' =>
          rw [List.getD_eq_getElem?_getD, List.getElem?_take, if_pos hon, hme] at h1
          exact ih (pos e.on) hon e.on o' rfl ho' (fun e' he' hb' => hC e.on o' hSe ho' e' he' hb') m' i hme h1

theorem any_wp {Y : Fr} {ro : Option Nat} (hE : E.Fits) (hG : E.Sound Y) (hY : Inside Y F E.yl) (hFG : F.G = E.G) (G : Reg E true n ops pos os (some (masks pos os [])) Qp s xs s') {idx : List Nat} (O : Ord ops.toList pos idx os) (hI : indep [] xs (masks pos os []) = true) {Q : Exit → Act → World → Prop} {ds : List Deferred}
    (hQ : NoPan xs (fun _ => True) → ∀ β' a' w', Rel F n β' s' a'.tmps w' → OptIn (Dset (fun _ => true) xs) s'.σ → a'.defers = ds → Q .normal a' w') (hFl : Falls F n (some (masks pos os [])) xs s ds Qp Q) :
    ∀ (fuel : Nat) (listed : Array Bool), listed.size = ops.size → Closed ops pos (doneBy idx listed) → left (doneBy idx listed) ops.size = fuel → NoPan xs (fun j => doneBy idx listed j = true) → ∀ β a w, Rel F n β (stS (doneBy idx listed) xs 0 s) a.tmps w → OptIn (Dset (doneBy idx listed) xs) (stS (doneBy idx listed) xs 0 s).σ →
      a.defers = ds → wpAnyIn (fen E.P ro) 0 E.P .any ops Q fuel listed a w := by
  have hclash : ∀ (j k : Nat) (x y : Wr U), xs[j]? = some x → xs[k]? = some y → j < k → clash x y = true → ∃ m, (masks pos os [])[k]? = some m ∧ Nat.testBit m j = true := by
    intro j k x y hx hy hjk hc
    obtain ⟨m, hm, hat⟩ := indep_spec hI k y hy
    refine ⟨m, hm, ?_⟩
    have := indepAt_spec hat j x (by rw [List.nil_append, List.getElem?_take, if_pos hjk]; exact hx) hc
    rwa [Nat.zero_add] at this
  have hfin : ∀ (S : Nat → Bool), (∀ j, j < ops.size → S j = true) → NoPan xs (fun j => S j = true) → ∀ β a w, Rel F n β (stS S xs 0 s) a.tmps w → OptIn (Dset S xs) (stS S xs 0 s).σ → a.defers = ds → Q .normal a w := by
    intro S hS hN β a w R hO hd
    have hs := G.all hS
    refine hQ (fun j y b _ hy hb => hN j y b (hS j ?_) hy hb) β a w (R.same hs) ((hO.mono (fun d ⟨j, x, h1, _, h3⟩ => ⟨j, x, h1, rfl, h3⟩)).same hs) hd
    have := (List.getElem?_eq_some_iff.1 hy).1
    rw [G.len] at this
    exact this
  have hat : ∀ (listed : Array Bool) {k : Nat}, k < ops.size → doneBy idx listed (pos k) = listed.getD k false := fun listed {k} hk => done_at O listed (by simpa using hk)
  have hidx : ∀ p, p < ops.size → ∃ k, idx[p]? = some k ∧ pos k = p ∧ k < ops.size := by
    intro p hp
    have hl : idx.length = ops.size := by simpa using O.len
    obtain ⟨k, hk⟩ : ∃ k, idx[p]? = some k := ⟨_, List.getElem?_eq_getElem (by omega)⟩
    have := O.num p k hk
    exact ⟨k, hk, this.1, by simpa using this.2⟩
  intro fuel
  induction fuel with
  | zero =>
    intro listed hsz hC hl hN β a w R hO hd
    have hall := left_zero hl
    refine ⟨?_, hfin _ hall hN β a w R hO hd⟩
    unfold Region.ready
    rw [List.filter_eq_nil_iff]
    intro i hi
    have hi := List.mem_range.1 hi
    have := hall (pos i) (G.lt hi)
    rw [hat listed hi] at this
    have hlt : i < listed.size := by omega
    have h1 : listed.getD i true = true := by
      rw [Array.getD_eq_getD_getElem?, Array.getElem?_eq_getElem hlt] at this ⊢
      exact this
    simp [h1]
  | succ fuel ih =>
    intro listed hsz hC hl hN β a w R hO hd
    have hready : ∀ i, i ∈ Region.ready .any ops listed ↔ i < ops.size ∧ listed.getD i false = false ∧ ∃ o, ops[i]? = some o ∧ ∀ e ∈ o.after.toList, Region.binds .any e = true → listed.getD e.on false = true := by
      intro i
      unfold Region.ready
      simp only [List.mem_filter, List.mem_range, Bool.and_eq_true, Bool.not_eq_true']
      constructor
      · rintro ⟨h1, h2, h3⟩
        have hlt : i < listed.size := by omega
        refine ⟨h1, ?_, ops[i], Array.getElem?_eq_getElem h1, fun e he hb => ?_⟩
        · rw [Array.getD_eq_getD_getElem?, Array.getElem?_eq_getElem hlt] at h2 ⊢
          exact h2
        · rw [Array.getElem?_eq_getElem h1] at h3
          simp only [Option.map_some, Option.getD_some] at h3
          have := Array.all_eq_true.1 h3
          obtain ⟨q, hq, hqe⟩ := List.mem_iff_getElem.1 he
          have h4 := this q (by simpa using hq)
          rw [show ops[i].after[q] = e from by rw [← hqe]; simp] at h4
          rw [hb] at h4
          simpa using h4
      · rintro ⟨h1, h2, o, ho, he⟩
        have hlt : i < listed.size := by omega
        refine ⟨h1, ?_, ?_⟩
        · rw [Array.getD_eq_getD_getElem?, Array.getElem?_eq_getElem hlt] at h2 ⊢
          exact h2
        · rw [ho]
          simp only [Option.map_some, Option.getD_some]
          rw [Array.all_eq_true]
          intro q hq
          cases hb : Region.binds .any o.after[q] with
          | false => simp
          | true =>
            have := he o.after[q] (Array.getElem_mem_toList hq) hb
            simpa using this
    have hon : ∀ {k : Nat} {o : Oper}, ops[k]? = some o → ∀ e ∈ o.after.toList, Region.binds .any e = true → e.on < ops.size := fun {k o} ho e he hb => G.back (Nat.lt_trans ((G.okOp ho).2.2 rfl e he hb) (G.lt (Array.getElem?_eq_some_iff.1 ho).1))
    refine ⟨fun hnil => ?_, fun i hi => ?_⟩
    · refine hfin _ (fun j hj => ?_) hN β a w R hO hd
      have hmin : ∀ k, ∀ j, j < k → j < ops.size → doneBy idx listed j = true := by
        intro k
        induction k with
        | zero => intro j hj; omega
        | succ k ihk =>
          intro j hj hjo
          rcases Nat.lt_succ_iff_lt_or_eq.1 hj with h1 | h1
          · exact ihk j h1 hjo
          · subst h1
            cases hd : doneBy idx listed j with
            | true => rfl
            | false =>
              exfalso
              obtain ⟨q, hq, hqj, hql⟩ := hidx j hjo
              rw [← hqj, hat listed hql] at hd
              have : q ∈ Region.ready .any ops listed := (hready q).2 ⟨hql, hd, ops[q], Array.getElem?_eq_getElem hql, fun e he hb => by
                have h1 := (G.okOp (Array.getElem?_eq_getElem hql)).2.2 rfl e he hb
                have h2 := hon (Array.getElem?_eq_getElem hql) e he hb
                rw [← hat listed h2]
                exact ihk (pos e.on) (by omega) (G.lt h2)⟩
              rw [hnil] at this
              simp at this
      exact hmin (j + 1) j (by omega) hj
    · obtain ⟨hio, hSi, o, ho, he⟩ := (hready i).1 hi
      rw [← hat listed hio] at hSi
      have he : ∀ e ∈ o.after.toList, Region.binds .any e = true → doneBy idx listed (pos e.on) = true := fun e h1 h2 => by rw [hat listed (hon ho e h1 h2)]; exact he e h1 h2
      obtain ⟨x, hx, _⟩ := G.op ho
      have hset := done_set O (listed := listed) (i := i) (by omega) (by simpa using hio)
      refine core hE hG hY hFG G ho hx hSi (fun j y hy hji hc => ?_) (fun j y hy hij hSj => ?_) hN (fun j hj hbit => ?_) R hO (fun β' a' w' hN' R' hO' hdef => ?_) (fun v u w' h0 h1 h2 h3 h4 => hFl _ _ x β a w w' v u hx R hO hd h0 (fun j hj => ?_) hSi h1 h2 h3 h4)
      · obtain ⟨m, hm, hbit⟩ := hclash j (pos i) y x hy hx hji hc
        exact anc_done G hC (pos i) i o rfl ho he m j hm hbit
      · cases hc : clash x y with
        | false => rfl
        | true =>
          obtain ⟨m, hm, hbit⟩ := hclash (pos i) j x y hx hy hij hc
          obtain ⟨kj, oj, hkj, hoj, _⟩ := G.get hy
          have := anc_done G hC j kj oj hkj hoj (fun e he hb => hC kj oj (by rw [hkj]; exact hSj) hoj e he hb) m (pos i) hm hbit
          rw [hSi] at this
          cases this
      · have hb := hbit _ rfl
        cases hme : (masks pos os [])[pos i]? with
        | none =>
          rw [List.getD_eq_getElem?_getD, hme] at hb
          simp at hb
        | some m =>
          rw [List.getD_eq_getElem?_getD, hme] at hb
          exact anc_done G hC (pos i) i o rfl ho he m j hme hb
      · refine ih (listed.setIfInBounds i true) (by simpa using hsz) ?_ ?_ (by rw [hset]; exact hN') β' a' w' (by rw [hset]; exact R') (by rw [hset]; exact hO') (hdef.trans hd)
        · rw [hset]
          intro j oj hSj hoj e hel hb
          simp only [with1, Bool.or_eq_true, beq_iff_eq] at hSj ⊢
          left
          rcases hSj with h1 | h1
          · exact hC j oj h1 hoj e hel hb
          · have := G.inj (Array.getElem?_eq_some_iff.1 hoj).1 hio h1
            subst this
            rw [ho] at hoj
            simp only [Option.some.injEq] at hoj
            subst hoj
            exact he e hel hb
        · rw [hset]
          have := (left_with (S := doneBy idx listed) (i := pos i) (n := ops.size)).2 (G.lt hio) hSi
          omega
      · refine ⟨(fun e => by rw [e, hSi] at hj; cases hj), ?_⟩
        cases hf : follows (some (masks pos os [])) j (pos i) with
        | false => rfl
        | true =>
          exfalso
          have hf : Nat.testBit ((masks pos os []).getD j 0) (pos i) = true := hf
          rw [List.getD_eq_getElem?_getD] at hf
          cases hme : (masks pos os [])[j]? with
          | none => rw [hme] at hf; simp at hf
          | some m =>
            rw [hme] at hf
            have hjx : ∃ kj, idx[j]? = some kj := by
              cases hk : idx[j]? with
              | some kj => exact ⟨kj, rfl⟩
              | none => simp [doneBy, doneAt, hk] at hj
            obtain ⟨kj, hkj⟩ := hjx
            have hnum := O.num j kj hkj
            have hlt : kj < ops.size := by simpa using hnum.2
            have := anc_done G hC j kj ops[kj] hnum.1 (Array.getElem?_eq_getElem hlt) (fun e he hb => hC kj ops[kj] (by rw [hnum.1]; exact hj) (Array.getElem?_eq_getElem hlt) e he hb) m (pos i) hme hf
            rw [hSi] at this
            cases this

end
end Go.VT
end

section
set_option linter.unusedVariables false
set_option linter.unusedSimpArgs false
namespace Go.VT
noncomputable section
open Go.RowKit
variable {U : Univ} {E : Env U} {F : Fr} {n : Nat} {β : Nm} {s s' : St U} {a : Act} {w : World} {o : Oper} {e : Eff U} {h : Obs U} {xs : List (Wr U)} {ops : Array Oper}

theorem look_map {α γ : Type} (f : α → γ) (k : Nat) : ∀ l : List (Nat × α), look k (l.map fun x => (x.1, f x.2)) = (look k l).map f
  | [] => rfl
  | (j, a) :: r => by
    simp only [List.map_cons, look]
    split
    · rfl
    · exact look_map f k r

theorem look_filter {α : Type} (f : Nat → Bool) (k : Nat) : ∀ {l : List (Nat × α)} {v : α}, look k (l.filter fun x => f x.1) = some v → look k l = some v
  | [], v, h => h
  | (j, a) :: r, v, h => by
    simp only [List.filter_cons] at h
    split at h
    · simp only [look] at h ⊢
      split at h
      · rename_i hb; rw [if_pos hb]; exact h
      · rename_i hb; rw [if_neg hb]; exact look_filter f k h
    · rename_i hf
      have := look_filter f k h
      simp only [look]
      rw [if_neg]
      · exact this
      · intro hb
        have hb := Nat.eq_of_beq_eq_true hb
        subst hb
        have hno : ∀ l : List (Nat × α), look j (l.filter fun x => f x.1) = none := by
          intro l
          induction l with
          | nil => rfl
          | cons y l ih =>
            obtain ⟨i, b⟩ := y
            simp only [List.filter_cons]
            split
            · rename_i hfi
              simp only [look]
              rw [if_neg]
              · exact ih
              · intro hb
                have hb := Nat.eq_of_beq_eq_true hb
                subst hb
                exact hf hfi
            · exact ih
        rw [hno] at h
        cases h

theorem cut_rel {tmps : Array Value} {D : Nat → Prop} (R : Rel F n β s tmps w) (X : Nat) : Rel F n β (s.cut X) tmps w ∧ OptIn D (s.cut X).σ := by
  have hget : ∀ t p, look t (s.cut X).σ = some p → ∃ q, look t s.σ = some q ∧ p = dropP q := by
    intro t p hl
    unfold St.cut at hl
    rw [look_map] at hl
    simp only [Option.map_eq_some_iff] at hl
    obtain ⟨q, hq, hq2⟩ := hl
    exact ⟨q, look_filter (fun k => bit X k) t hq, hq2.symm⟩
  refine ⟨⟨R.toOk, R.sz, fun t p hl => ?_⟩, fun t gs p hl => ?_⟩
  · obtain ⟨q, hq, rfl⟩ := hget t p hl
    have hr := R.tmp t q hq
    cases q with
    | opt gs p => trivial
    | un => trivial
    | one c => exact hr
    | agg cs => exact hr
    | tup vs => exact hr
  · obtain ⟨q, _, hq⟩ := hget t _ hl
    cases q <;> simp [dropP] at hq

theorem keepS_look {α : Type} {l : List (Nat × α)} {k : Nat} {v : α} : ∀ {ks : List Nat}, look k (keepS l ks) = some v → look k l = some v
  | [], h => by simp [keepS, look] at h
  | j :: r, h => by
    simp only [keepS] at h
    split at h
    · rename_i u hu
      simp only [look] at h
      split at h
      · rename_i hb
        have hb := Nat.eq_of_beq_eq_true hb
        subst hb
        simp only [Option.some.injEq] at h
        subst h
        exact hu
      · exact keepS_look h
    · exact keepS_look h

theorem renewO_live (h : Obs U) (o : Ob U) : (renewO h o).live = o.live := by cases o <;> rfl

theorem keep_rel' {tmps : Array Value} (R : Rel F n β s tmps w) (ks hs : List Nat) {w' : World} (hbel : Below F.B w w')
    (hheap : ∀ b, b < w.heap.size → (¬ Own β s.h b ∨ ∃ id o, look id (keepS s.h hs) = some o ∧ blkOf (β id) = some b) → w'.heap[b]? = w.heap[b]?) : Rel F n β (s.keep ks hs) tmps w' ∧ OptIn (fun _ => False) (s.keep ks hs).σ := by
  have hsub : ∀ id o, look id (keepS s.h hs) = some o → look id s.h = some o := fun id o hl => keepS_look hl
  generalize hh1 : keepS s.h hs = h1 at hsub
  have hk : s.keep ks hs = ⟨(keepS s.σ ks).map fun x => (x.1, renewP h1 x.2), h1.map fun x => (x.1, renewO h1 x.2)⟩ := by unfold St.keep; rw [hh1]
  rw [hk]
  have hlook : ∀ id o, look id (h1.map fun x => (x.1, renewO h1 x.2)) = some o → ∃ o', look id h1 = some o' ∧ o = renewO h1 o' := by
    intro id o hl
    rw [look_map] at hl
    simp only [Option.map_eq_some_iff] at hl
    obtain ⟨o', h2, h3⟩ := hl
    exact ⟨o', h2, h3.symm⟩
  have hto : ∀ id o', look id h1 = some o' → look id (h1.map fun x => (x.1, renewO h1 x.2)) = some (renewO h1 o') := by
    intro id o' hl
    rw [look_map, hl]
    rfl
  generalize hh2 : (h1.map fun x => (x.1, renewO h1 x.2)) = h2 at hlook hto
  have hlive : ∀ b, Live β h2 b → Live β s.h b := by
    rintro b (hm | ⟨id, o, h3, h4, h5⟩)
    · exact .inl hm
    · obtain ⟨o', h6, rfl⟩ := hlook id o h3
      rw [renewO_live] at h4
      exact .inr ⟨id, o', hsub id o' h6, h4, h5⟩
  rw [hh1] at hheap
  have hstay : ∀ b, b < w.heap.size → ¬ Live β s.h b → w'.heap[b]? = w.heap[b]? := fun b hb hn => hheap b hb (.inl (fun ho => hn (.inr ho)))
  have hrep : ∀ d v, Rep U w (Live β s.h) d v → Rep U w' (Live β h2) d v := fun d v r => r.mono hbel.size hstay (fun b _ hb => hlive b hb)
  have hvis : ∀ (t : Ty) (x : den U.T t) (v : Value), VIs w (Live β s.h) t x v → VIs w' (Live β h2) t x v := fun t x v r => r.mono hbel.size hstay (fun b _ hb => hlive b hb)
  have hobj : ∀ id o b, look id h1 = some o → blkOf (β id) = some b → w'.heap[b]? = w.heap[b]? := fun id o b hl hb => hheap b ((R.obj id o (hsub id o hl)).blk hb).2 (.inr ⟨id, o, hl, hb⟩)
  have hcell : ∀ c v, CRel w β s.h c v → CRel w' β h2 (renewC h1 c) v := by
    intro c v r
    cases c with
    | un => trivial
    | d x => exact hrep _ _ r
    | row id ver =>
      simp only [renewC]
      split
      · rename_i e t l ver' lv hl
        split
        · rename_i hb
          have hb := Nat.eq_of_beq_eq_true hb
          obtain ⟨e2, t2, l2, ver2, lv2, q1, q2, q3⟩ := r
          rw [hsub id _ hl] at q1
          simp only [Option.some.injEq, Ob.row.injEq] at q1
          obtain ⟨_, _, _, rfl, _⟩ := q1
          exact ⟨e, t, l, 0, lv, hto id _ hl, Nat.le_refl _, fun _ => q3 hb⟩
        · trivial
      · trivial
    | ptr id off =>
      simp only [renewC]
      split
      · rename_i e cs hl
        obtain ⟨e2, cs2, b, q1, q2, q3⟩ := r
        exact ⟨e, _, b, hto id _ hl, q2, q3⟩
      · trivial
    | elt id ver i off => trivial
    | rd cs off =>
      obtain ⟨g, o, hv, hM, hg, hc⟩ := r
      refine ⟨g, o, hv, fun hh => hM (hlive g hh), Nat.lt_of_lt_of_le hg hbel.size, fun j d hd => ?_⟩
      obtain ⟨u, hu, hr⟩ := hc j d hd
      exact ⟨u, by rw [← hu]; exact World.cell?_of_block (hstay g hg hM), hrep _ _ hr⟩
    | gl g => exact r
    | lit u => exact r
    | map id =>
      simp only [renewC]
      split
      · rename_i hl
        obtain ⟨kt, vt, l, q1, q2⟩ := r
        rw [hsub id _ hl] at q1
        simp only [Option.some.injEq, Ob.map.injEq] at q1
        exact ⟨_, _, _, hto id _ hl, q2⟩
      · trivial
    | clo f ids =>
      simp only [renewC, Bool.cond_eq_ite]
      split
      · rename_i hall
        obtain ⟨bs, q1, q2, q3⟩ := r
        refine ⟨bs, q1, q2, fun j id b hj hb => ?_⟩
        obtain ⟨e, cs, q4, q5⟩ := q3 j id b hj hb
        have hx := List.all_eq_true.1 hall id (List.mem_iff_getElem?.2 ⟨j, hj⟩)
        split at hx
        · rename_i e' cs' hl
          exact ⟨e', _, hto id _ hl, q5⟩
        · cases hx
      · trivial
    | yld id =>
      simp only [renewC]
      split
      · rename_i hl
        obtain ⟨st, q1, q2⟩ := r
        exact ⟨_, hto id _ hl, q2⟩
      · trivial
    | ifc t b ds =>
      obtain ⟨vs, q1, q2, q3, q4, q5⟩ := r
      exact ⟨vs, q1, q2, q3, q4, fun j d u hd hu => hrep _ _ (q5 j d u hd hu)⟩
    | tab g i => exact r
    | tabf fs i => exact r
  have hcs : ∀ cs vs, CsRel w β s.h cs vs → CsRel w' β h2 (cs.map (renewC h1)) vs := by
    intro cs vs r
    refine ⟨by simpa using r.1, r.2.1, fun j c v hc hv => ?_⟩
    simp only [List.getElem?_map, Option.map_eq_some_iff] at hc
    obtain ⟨c', h3, rfl⟩ := hc
    exact hcell c' v (r.2.2 j c' v h3 hv)
  have hpv : ∀ p v σ σ', PRel w β s.h σ p v → PRel w' β h2 σ' (renewP h1 p) v := by
    intro p v σ σ' r
    cases p with
    | un => trivial
    | one c => exact hcs [c] [v] r
    | agg cs =>
      obtain ⟨vs, hv, hc⟩ := r
      exact ⟨vs, hv, hcs cs vs hc⟩
    | tup xs =>
      obtain ⟨vs, hv, hl, hx⟩ := r
      refine ⟨vs, hv, by simpa using hl, fun j x u hj hu => ?_⟩
      simp only [List.getElem?_map, Option.map_eq_some_iff] at hj
      obtain ⟨x', h3, rfl⟩ := hj
      have := hx j x' u h3 hu
      obtain ⟨b, cs⟩ := x'
      cases b with
      | true =>
        obtain ⟨vs', h4, h5⟩ := this
        exact ⟨vs', h4, hcs cs vs' h5⟩
      | false => exact hcs cs [u] this
    | opt gs p => trivial
  refine ⟨⟨⟨R.bel.trans hbel, Nat.le_trans R.hB hbel.size, fun id o hl => ?_, fun id o id' o' b q1 q2 => ?_, fun b hb hK => ?_, fun id o b q1 => ?_, fun id o b q1 => ?_, R.Mlt, R.Meq, fun id o v q1 q2 => ?_, R.nmg, R.glo⟩, R.sz, fun t p hl => ?_⟩, fun t gs p hl => ?_⟩
  · obtain ⟨o', h3, rfl⟩ := hlook id o hl
    have ro := R.obj id o' (hsub id o' h3)
    cases o' with
    | box e cs =>
      obtain ⟨b, vs, q1, q2, q3, q4⟩ := ro
      exact ⟨b, vs, q1, q2, (hobj id _ b h3 (by rw [q1]; rfl)).trans q3, hcs cs _ q4⟩
    | row e t l ver lv =>
      obtain ⟨xs, q1, q2, q3, q4⟩ := ro
      refine ⟨xs, ?_, q2, q3, fun i x hx j d hd => ?_⟩
      · obtain ⟨r1, r2⟩ := q1
        refine ⟨r1, ?_⟩
        rcases r2 with r2 | ⟨g, cap, cur, hv, hg, hh, rr⟩
        · exact .inl r2
        · exact .inr ⟨g, cap, cur, hv, hg, (hobj id _ g h3 (by rw [hv]; rfl)).trans hh, rr⟩
      · obtain ⟨u, hu, hr⟩ := q4 i x hx j d hd
        exact ⟨u, hu, hrep _ _ hr⟩
    | map kt vt l =>
      obtain ⟨b, es, clock, q1, q2, q3, q4, q5⟩ := ro
      exact ⟨b, es, clock, q1, q2, (hobj id _ b h3 (by rw [q1]; rfl)).trans q3, q4, fun i x y hx hy => ⟨hvis _ _ _ (q5 i x y hx hy).1, hvis _ _ _ (q5 i x y hx hy).2⟩⟩
    | loop st =>
      obtain ⟨b, r, q1, q2, q3, q4⟩ := ro
      exact ⟨b, r, q1, q2, (hobj id _ b h3 (by rw [q1]; rfl)).trans q3, q4⟩
  · obtain ⟨o1, h3, _⟩ := hlook id o q1
    obtain ⟨o2, h4, _⟩ := hlook id' o' q2
    exact R.dis id o1 id' o2 b (hsub _ _ h3) (hsub _ _ h4)
  · rw [← R.frm b hb hK]
    have hbw : b < w.heap.size := Nat.lt_of_lt_of_le hb R.bel.size
    refine hheap b hbw (.inl ?_)
    rintro ⟨id, o, q1, q2, q3⟩
    rcases R.own id o b q1 q3 with h5 | h5
    · exact hK h5
    · omega
  · obtain ⟨o1, h3, _⟩ := hlook id o q1
    exact R.own id o1 b (hsub _ _ h3)
  · obtain ⟨o1, h3, _⟩ := hlook id o q1
    exact R.Mo id o1 b (hsub _ _ h3)
  · obtain ⟨o1, h3, rfl⟩ := hlook id o q1
    refine (R.fix id o1 v (hsub _ _ h3) q2).imp (fun hr => ?_) (fun hr => hr)
    cases o1 <;> simp_all [Ob.isRow, renewO]
  · rw [look_map] at hl
    simp only [Option.map_eq_some_iff] at hl
    obtain ⟨q, hq, rfl⟩ := hl
    exact hpv q _ _ _ (R.tmp t q (keepS_look hq))
  · rw [look_map] at hl
    simp only [Option.map_eq_some_iff] at hl
    obtain ⟨q, hq, hq2⟩ := hl
    cases q <;> simp [renewP] at hq2

def Fr.shut (F : Fr) (w : World) (D : Nat → Prop) : Fr := ⟨F.B, w, fun b => (F.K b ∨ F.w0.heap.size ≤ b) ∧ ¬ D b, fun b => F.M b ∨ D b, F.nm, F.G⟩
def Nm.shut (β : Nm) (D : Nat → Prop) : Nm := ⟨β.v, fun b => β.M b ∨ D b, β.lp⟩

theorem keep_shut {tmps : Array Value} (R : Rel F n β s tmps w) (ks hs : List Nat) {w' : World} {D : Nat → Prop} (hD : ∀ b, D b → Live β s.h b) (hD2 : ∀ id o b, look id (keepS s.h hs) = some o → blkOf (β id) = some b → ¬ D b) (hbel : Below F.B w w')
    (hheap : ∀ b, b < w.heap.size → (¬ Own β s.h b ∨ ∃ id o, look id (keepS s.h hs) = some o ∧ blkOf (β id) = some b) → w'.heap[b]? = w.heap[b]?) : Rel (F.shut w' D) n (β.shut D) (s.keep ks hs) tmps w' ∧ OptIn (fun _ => False) (s.keep ks hs).σ := by
  have hsub : ∀ id o, look id (keepS s.h hs) = some o → look id s.h = some o := fun id o hl => keepS_look hl
  generalize hh1 : keepS s.h hs = h1 at hsub
  have hk : s.keep ks hs = ⟨(keepS s.σ ks).map fun x => (x.1, renewP h1 x.2), h1.map fun x => (x.1, renewO h1 x.2)⟩ := by unfold St.keep; rw [hh1]
  rw [hk]
  have hlook : ∀ id o, look id (h1.map fun x => (x.1, renewO h1 x.2)) = some o → ∃ o', look id h1 = some o' ∧ o = renewO h1 o' := by
    intro id o hl
    rw [look_map] at hl
    simp only [Option.map_eq_some_iff] at hl
    obtain ⟨o', h2, h3⟩ := hl
    exact ⟨o', h2, h3.symm⟩
  have hto : ∀ id o', look id h1 = some o' → look id (h1.map fun x => (x.1, renewO h1 x.2)) = some (renewO h1 o') := by
    intro id o' hl
    rw [look_map, hl]
    rfl
  generalize hh2 : (h1.map fun x => (x.1, renewO h1 x.2)) = h2 at hlook hto
  have hlive : ∀ b, Live (β.shut D) h2 b → Live β s.h b := by
    rintro b ((hm | hm) | ⟨id, o, h3, h4, h5⟩)
    · exact .inl hm
    · exact hD b hm
    · obtain ⟨o', h6, rfl⟩ := hlook id o h3
      rw [renewO_live] at h4
      exact .inr ⟨id, o', hsub id o' h6, h4, h5⟩
  rw [hh1] at hheap hD2
  have hstay : ∀ b, b < w.heap.size → ¬ Live β s.h b → w'.heap[b]? = w.heap[b]? := fun b hb hn => hheap b hb (.inl (fun ho => hn (.inr ho)))
  have hrep : ∀ d v, Rep U w (Live β s.h) d v → Rep U w' (Live (β.shut D) h2) d v := fun d v r => r.mono hbel.size hstay (fun b _ hb => hlive b hb)
  have hvis : ∀ (t : Ty) (x : den U.T t) (v : Value), VIs w (Live β s.h) t x v → VIs w' (Live (β.shut D) h2) t x v := fun t x v r => r.mono hbel.size hstay (fun b _ hb => hlive b hb)
  have hobj : ∀ id o b, look id h1 = some o → blkOf (β id) = some b → w'.heap[b]? = w.heap[b]? := fun id o b hl hb => hheap b ((R.obj id o (hsub id o hl)).blk hb).2 (.inr ⟨id, o, hl, hb⟩)
  have hcell : ∀ c v, CRel w β s.h c v → CRel w' (β.shut D) h2 (renewC h1 c) v := by
    intro c v r
    cases c with
    | un => trivial
    | d x => exact hrep _ _ r
    | row id ver =>
      simp only [renewC]
      split
      · rename_i e t l ver' lv hl
        split
        · rename_i hb
          have hb := Nat.eq_of_beq_eq_true hb
          obtain ⟨e2, t2, l2, ver2, lv2, q1, q2, q3⟩ := r
          rw [hsub id _ hl] at q1
          simp only [Option.some.injEq, Ob.row.injEq] at q1
          obtain ⟨_, _, _, rfl, _⟩ := q1
          exact ⟨e, t, l, 0, lv, hto id _ hl, Nat.le_refl _, fun _ => q3 hb⟩
        · trivial
      · trivial
    | ptr id off =>
      simp only [renewC]
      split
      · rename_i e cs hl
        obtain ⟨e2, cs2, b, q1, q2, q3⟩ := r
        exact ⟨e, _, b, hto id _ hl, q2, q3⟩
      · trivial
    | elt id ver i off => trivial
    | rd cs off =>
      obtain ⟨g, o, hv, hM, hg, hc⟩ := r
      refine ⟨g, o, hv, fun hh => hM (hlive g hh), Nat.lt_of_lt_of_le hg hbel.size, fun j d hd => ?_⟩
      obtain ⟨u, hu, hr⟩ := hc j d hd
      exact ⟨u, by rw [← hu]; exact World.cell?_of_block (hstay g hg hM), hrep _ _ hr⟩
    | gl g => exact r
    | lit u => exact r
    | map id =>
      simp only [renewC]
      split
      · rename_i hl
        obtain ⟨kt, vt, l, q1, q2⟩ := r
        rw [hsub id _ hl] at q1
        simp only [Option.some.injEq, Ob.map.injEq] at q1
        exact ⟨_, _, _, hto id _ hl, q2⟩
      · trivial
    | clo f ids =>
      simp only [renewC, Bool.cond_eq_ite]
      split
      · rename_i hall
        obtain ⟨bs, q1, q2, q3⟩ := r
        refine ⟨bs, q1, q2, fun j id b hj hb => ?_⟩
        obtain ⟨e, cs, q4, q5⟩ := q3 j id b hj hb
        have hx := List.all_eq_true.1 hall id (List.mem_iff_getElem?.2 ⟨j, hj⟩)
        split at hx
        · rename_i e' cs' hl
          exact ⟨e', _, hto id _ hl, q5⟩
        · cases hx
      · trivial
    | yld id =>
      simp only [renewC]
      split
      · rename_i hl
        obtain ⟨st, q1, q2⟩ := r
        exact ⟨_, hto id _ hl, q2⟩
      · trivial
    | ifc t b ds =>
      obtain ⟨vs, q1, q2, q3, q4, q5⟩ := r
      exact ⟨vs, q1, q2, q3, q4, fun j d u hd hu => hrep _ _ (q5 j d u hd hu)⟩
    | tab g i => exact r
    | tabf fs i => exact r
  have hcs : ∀ cs vs, CsRel w β s.h cs vs → CsRel w' (β.shut D) h2 (cs.map (renewC h1)) vs := by
    intro cs vs r
    refine ⟨by simpa using r.1, r.2.1, fun j c v hc hv => ?_⟩
    simp only [List.getElem?_map, Option.map_eq_some_iff] at hc
    obtain ⟨c', h3, rfl⟩ := hc
    exact hcell c' v (r.2.2 j c' v h3 hv)
  have hpv : ∀ p v σ σ', PRel w β s.h σ p v → PRel w' (β.shut D) h2 σ' (renewP h1 p) v := by
    intro p v σ σ' r
    cases p with
    | un => trivial
    | one c => exact hcs [c] [v] r
    | agg cs =>
      obtain ⟨vs, hv, hc⟩ := r
      exact ⟨vs, hv, hcs cs vs hc⟩
    | tup xs =>
      obtain ⟨vs, hv, hl, hx⟩ := r
      refine ⟨vs, hv, by simpa using hl, fun j x u hj hu => ?_⟩
      simp only [List.getElem?_map, Option.map_eq_some_iff] at hj
      obtain ⟨x', h3, rfl⟩ := hj
      have := hx j x' u h3 hu
      obtain ⟨b, cs⟩ := x'
      cases b with
      | true =>
        obtain ⟨vs', h4, h5⟩ := this
        exact ⟨vs', h4, hcs cs vs' h5⟩
      | false => exact hcs cs [u] this
    | opt gs p => trivial
  have hsz0 : F.w0.heap.size ≤ w.heap.size := R.bel.size
  refine ⟨⟨⟨Below.refl _ _, Nat.le_trans R.hB hbel.size, fun id o hl => ?_, fun id o id' o' b q1 q2 => ?_, fun b hb hK => rfl, fun id o b q1 q2 => ?_, fun id o b q1 q2 => ?_, fun b hb => ?_, by show (β.shut D).M = _; unfold Nm.shut Fr.shut; simp only [R.Meq], fun id o v q1 q2 => ?_, R.nmg, fun g fs hgf => ?_⟩, R.sz, fun t p hl => ?_⟩, fun t gs p hl => ?_⟩
  · obtain ⟨o', h3, rfl⟩ := hlook id o hl
    have ro := R.obj id o' (hsub id o' h3)
    cases o' with
    | box e cs =>
      obtain ⟨b, vs, q1, q2, q3, q4⟩ := ro
      exact ⟨b, vs, q1, q2, (hobj id _ b h3 (by rw [q1]; rfl)).trans q3, hcs cs _ q4⟩
    | row e t l ver lv =>
      obtain ⟨xs, q1, q2, q3, q4⟩ := ro
      refine ⟨xs, ?_, q2, q3, fun i x hx j d hd => ?_⟩
      · obtain ⟨r1, r2⟩ := q1
        refine ⟨r1, ?_⟩
        rcases r2 with r2 | ⟨g, cap, cur, hv, hg, hh, rr⟩
        · exact .inl r2
        · exact .inr ⟨g, cap, cur, hv, hg, (hobj id _ g h3 (by rw [hv]; rfl)).trans hh, rr⟩
      · obtain ⟨u, hu, hr⟩ := q4 i x hx j d hd
        exact ⟨u, hu, hrep _ _ hr⟩
    | map kt vt l =>
      obtain ⟨b, es, clock, q1, q2, q3, q4, q5⟩ := ro
      exact ⟨b, es, clock, q1, q2, (hobj id _ b h3 (by rw [q1]; rfl)).trans q3, q4, fun i x y hx hy => ⟨hvis _ _ _ (q5 i x y hx hy).1, hvis _ _ _ (q5 i x y hx hy).2⟩⟩
    | loop st =>
      obtain ⟨b, r, q1, q2, q3, q4⟩ := ro
      exact ⟨b, r, q1, q2, (hobj id _ b h3 (by rw [q1]; rfl)).trans q3, q4⟩
  · obtain ⟨o1, h3, _⟩ := hlook id o q1
    obtain ⟨o2, h4, _⟩ := hlook id' o' q2
    exact R.dis id o1 id' o2 b (hsub _ _ h3) (hsub _ _ h4)
  · obtain ⟨o1, h3, _⟩ := hlook id o q1
    exact .inl ⟨R.own id o1 b (hsub _ _ h3) q2, hD2 id o1 b h3 q2⟩
  · obtain ⟨o1, h3, _⟩ := hlook id o q1
    rintro (hm | hm)
    · exact R.Mo id o1 b (hsub _ _ h3) q2 hm
    · exact hD2 id o1 b h3 q2 hm
  · have hlt : b < w.heap.size := by
      have hL : Live β s.h b := by
        rcases hb with hb | hb
        · exact .inl hb
        · exact hD b hb
      rcases hL with hm | ⟨id, o, q1, _, q3⟩
      · exact Nat.lt_of_lt_of_le (R.Mlt b hm) hsz0
      · exact ((R.obj id o q1).blk q3).2
    exact Nat.lt_of_lt_of_le hlt hbel.size
  · obtain ⟨o1, h3, rfl⟩ := hlook id o q1
    refine (R.fix id o1 v (hsub _ _ h3) q2).imp (fun hr => ?_) (fun hr => hr)
    cases o1 <;> simp_all [Ob.isRow, renewO]
  · obtain ⟨q1, q2, q3⟩ := R.glo g fs hgf
    have hgw : g < w.heap.size := Nat.lt_of_lt_of_le q1 hsz0
    have hno : ¬ Own β s.h g := by
      rintro ⟨id, o, r1, r2, r3⟩
      rcases R.own id o g r1 r3 with h5 | h5
      · exact q2 h5
      · omega
    have hheq : w'.heap[g]? = F.w0.heap[g]? := (hheap g hgw (.inl hno)).trans (R.frm g q1 q2)
    refine ⟨Nat.lt_of_lt_of_le hgw hbel.size, fun hk => ?_, fun i f hf => ?_⟩
    · rcases hk.1 with h5 | h5
      · exact q2 h5
      · omega
    · rw [← q3 i f hf]
      exact World.cell?_of_block hheq
  · rw [look_map] at hl
    simp only [Option.map_eq_some_iff] at hl
    obtain ⟨q, hq, rfl⟩ := hl
    exact hpv q _ _ _ (R.tmp t q (keepS_look hq))
  · rw [look_map] at hl
    simp only [Option.map_eq_some_iff] at hl
    obtain ⟨q, hq, hq2⟩ := hl
    cases q <;> simp [renewP] at hq2

theorem keep_rel {tmps : Array Value} (R : Rel F n β s tmps w) (ks hs : List Nat) : Rel F n β (s.keep ks hs) tmps w ∧ OptIn (fun _ => False) (s.keep ks hs).σ :=
  keep_rel' R ks hs (Below.refl _ _) (fun _ _ _ => rfl)

theorem keepS_congr {α : Type} {l l' : List (Nat × α)} : ∀ {ks : List Nat}, (∀ k ∈ ks, look k l = look k l') → keepS l ks = keepS l' ks
  | [], _ => rfl
  | k :: r, h => by
    simp only [keepS]
    rw [h k (by simp), keepS_congr (ks := r) (fun j hj => h j (by simp [hj]))]

theorem keep_congr {s s' : St U} {ks hs : List Nat} (h1 : ∀ k ∈ ks, look k s.σ = look k s'.σ) (h2 : ∀ id ∈ hs, look id s.h = look id s'.h) : s.keep ks hs = s'.keep ks hs := by
  unfold St.keep
  rw [keepS_congr h1, keepS_congr h2]

theorem keepS_in {α : Type} {l : List (Nat × α)} {k : Nat} {v : α} : ∀ {ks : List Nat}, look k (keepS l ks) = some v → k ∈ ks
  | [], h => by simp [keepS, look] at h
  | j :: r, h => by
    simp only [keepS] at h
    split at h
    · simp only [look] at h
      split at h
      · rename_i hb
        rw [Nat.eq_of_beq_eq_true hb]
        simp
      · simp [keepS_in h]
    · simp [keepS_in h]

theorem facts_spec {q : Prop} : ∀ {xs : List (Wr U)}, facts xs q → (∀ x ∈ xs, x.holds) → q
  | [], h, _ => h
  | x :: r, h, hx => by
    unfold facts at h
    split at h
    · exact facts_spec h (fun y hy => hx y (by simp [hy]))
    · rename_i p hp
      exact facts_spec (h (hx x (by simp) p hp)) (fun y hy => hx y (by simp [hy]))

theorem panAt_mem {k : Nat} {x : Wr U} : ∀ {xs : List (Wr U)} {i : Nat}, xs[k]? = some x → (∃ b, x.pan = some b) → (i + k) ∈ panAt xs i
  | [], i, h, _ => by simp at h
  | y :: r, i, h, hp => by
    match k, h with
    | 0, h =>
      simp only [List.getElem?_cons_zero, Option.some.injEq] at h
      subst h
      obtain ⟨b, hb⟩ := hp
      simp [panAt, hb]
    | k + 1, h =>
      have := panAt_mem (xs := r) (i := i + 1) (k := k) (x := x) (by simpa using h) hp
      rw [show i + (k + 1) = i + 1 + k by omega]
      unfold panAt
      split
      · exact this
      · exact List.mem_cons_of_mem _ this

theorem lostS_no {ms : Option (List Nat)} {ps : List Nat} {t k : Nat} {y : Wr U} : ∀ {xs : List (Wr U)} {i : Nat}, lostS ms ps xs i t = false → xs[k]? = some y → y.dst = some t → (ps.all fun q => Nat.beq (i + k) q || follows ms (i + k) q) = true
  | [], i, _, h, _ => by simp at h
  | x :: r, i, hl, h, hd => by
    simp only [lostS, Bool.or_eq_false_iff] at hl
    match k, h with
    | 0, h =>
      simp only [List.getElem?_cons_zero, Option.some.injEq] at h
      subst h
      have h1 : dstIn x.dst [t] = true := dstIn_iff.2 ⟨t, hd, by simp⟩
      rw [h1, Bool.true_and, Bool.not_eq_false'] at hl
      exact hl.1
    | k + 1, h =>
      have := lostS_no (xs := r) (i := i + 1) (k := k) hl.2 (by simpa using h) hd
      rwa [show i + 1 + k = i + (k + 1) by omega] at this

theorem lostH_no {ms : Option (List Nat)} {ps : List Nat} {t k : Nat} {y : Wr U} : ∀ {xs : List (Wr U)} {i : Nat}, lostH ms ps xs i t = false → xs[k]? = some y → t ∈ keys y.upd ++ y.lost → (ps.all fun q => !(Nat.beq (i + k) q) && follows ms (i + k) q) = true
  | [], i, _, h, _ => by simp at h
  | x :: r, i, hl, h, hd => by
    simp only [lostH, Bool.or_eq_false_iff] at hl
    match k, h with
    | 0, h =>
      simp only [List.getElem?_cons_zero, Option.some.injEq] at h
      subst h
      have h1 : meets (keys x.upd ++ x.lost) [t] = true := meets_iff.2 ⟨t, hd, by simp⟩
      rw [h1, Bool.true_and, Bool.not_eq_false'] at hl
      exact hl.1
    | k + 1, h =>
      have := lostH_no (xs := r) (i := i + 1) (k := k) hl.2 (by simpa using h) hd
      rwa [show i + 1 + k = i + (k + 1) by omega] at this

theorem falls {ds : List Deferred} {Qp : PanV U → St U → Prop} {Q : Exit → Act → World → Prop} {ms : Option (List Nat)}
    (hQ : ∀ v u s' β' a' w', Qp v s' → PanIs v u → Rel F n β' s' a'.tmps w' → OptIn (fun _ => False) s'.σ → a'.defers = ds → Q (.panic [{ v := u, recovered := false }]) a' w') : Falls F n ms xs s ds (fun v => Qp v (s.gone ms xs)) Q := by
  intro S k x β a w w' v u hx R hO hd hpk hdone hSk hq hpan hbel hheap
  have hkin : k ∈ panAt xs 0 := by
    have := panAt_mem (i := 0) hx hpk
    rwa [Nat.zero_add] at this
  have hks : ∀ t ∈ ((s.σ.map (·.1)).filter fun j => !(lostS ms (panAt xs 0) xs 0 j)), look t (stS S xs 0 s).σ = look t s.σ := by
    intro t ht
    have h1 : lostS ms (panAt xs 0) xs 0 t = false := by simpa using (List.mem_filter.1 ht).2
    have h2 : look t (stS S xs 0 s).σ = look t (stS (fun _ => false) xs 0 s).σ := c1s rfl (fun j y hy hyd => by
      have h3 := lostS_no h1 hy hyd
      rw [Nat.zero_add] at h3 ⊢
      cases hS : S j with
      | false => rfl
      | true =>
        exfalso
        obtain ⟨q1, q2⟩ := hdone j hS
        have h4 := List.all_eq_true.1 h3 k hkin
        rw [q2, Bool.or_false] at h4
        exact q1 (Nat.eq_of_beq_eq_true h4))
    rw [h2, stS_none]
  have hhs : ∀ id ∈ ((keys s.h).filter fun id => !(lostH ms (panAt xs 0) xs 0 id)), look id (stS S xs 0 s).h = look id s.h := by
    intro id hid
    have h1 : lostH ms (panAt xs 0) xs 0 id = false := by simpa using (List.mem_filter.1 hid).2
    have h2 : look id (stS S xs 0 s).h = look id (stS (fun _ => false) xs 0 s).h := c1h rfl (fun j y hy hyd => by
      have h3 := lostH_no h1 hy (List.mem_append.2 (.inl hyd))
      rw [Nat.zero_add] at h3 ⊢
      cases hS : S j with
      | false => rfl
      | true =>
        exfalso
        obtain ⟨q1, q2⟩ := hdone j hS
        have h4 := List.all_eq_true.1 h3 k hkin
        rw [q2, Bool.and_false] at h4
        cases h4)
    rw [h2, stS_none]
  have heq : (stS S xs 0 s).keep ((s.σ.map (·.1)).filter fun j => !(lostS ms (panAt xs 0) xs 0 j)) ((keys s.h).filter fun id => !(lostH ms (panAt xs 0) xs 0 id)) = s.gone ms xs := keep_congr hks hhs
  have := keep_rel' R ((s.σ.map (·.1)).filter fun j => !(lostS ms (panAt xs 0) xs 0 j)) ((keys s.h).filter fun id => !(lostH ms (panAt xs 0) xs 0 id)) hbel (fun b hb hh => hheap b hb (fun id hid o hl hlive hblk => by
    rcases hh with hh | ⟨id', o', h1, h2⟩
    · exact hh ⟨id, o, hl, hlive, hblk⟩
    · have h3 := keepS_look h1
      have := R.dis id o id' o' b hl h3 hblk h2
      subst this
      have h4 : lostH ms (panAt xs 0) xs 0 id = false := by simpa using (List.mem_filter.1 (keepS_in h1)).2
      have h5 := List.all_eq_true.1 (lostH_no h4 hx hid) k hkin
      rw [Nat.zero_add, Nat.beq_refl] at h5
      cases h5))
  rw [heq] at this
  exact hQ v u _ β a w' hq hpan this.1 this.2 hd

theorem okOps_all {N : Nat} : ∀ {r : List Oper} {ds ds' : List (Option Tmp)}, (∀ p : Option Tmp → Bool, ds.all p = ds'.all p) → okOps N r ds = okOps N r ds'
  | [], _, _, _ => rfl
  | o :: r, ds, ds', h => by
    simp only [okOps]
    have h1 : okDst N ds o.dst = okDst N ds' o.dst := by
      unfold okDst
      split
      · rw [h]
      · rfl
    rw [h1, okOps_all (ds := ds ++ [o.dst]) (ds' := ds' ++ [o.dst]) (fun p => by simp only [List.all_append]; rw [h])]

theorem okDst_snoc {N : Nat} {ds : List (Option Tmp)} {x y : Option Tmp} : okDst N (ds ++ [x]) y = (okDst N ds y && okDst N ((ds ++ [x]).drop ds.length) y) := by
  cases y with
  | none => rfl
  | some d =>
    simp only [okDst, List.drop_left, List.all_append, List.all_cons, List.all_nil, Bool.and_true]
    cases Nat.blt d N <;> simp

theorem okOps_swap {N : Nat} {x y : Oper} {r : List Oper} {ds : List (Option Tmp)} (h : okOps N (x :: y :: r) ds = true) : okOps N (y :: x :: r) ds = true := by
  simp only [okOps, Bool.and_eq_true] at h ⊢
  obtain ⟨h1, h2, h3⟩ := h
  rw [okDst_snoc, Bool.and_eq_true] at h2
  refine ⟨h2.1, ?_, ?_⟩
  · rw [okDst_snoc, Bool.and_eq_true]
    refine ⟨h1, ?_⟩
    have h4 := h2.2
    rw [List.drop_left] at h4 ⊢
    cases hx : x.dst with
    | none => rfl
    | some d =>
      rw [hx] at h1 h4
      simp only [okDst, Bool.and_eq_true] at h1
      cases hy : y.dst with
      | none => simp [okDst, h1.1]
      | some d' =>
        rw [hy] at h4
        simp only [okDst, List.all_cons, List.all_nil, Bool.and_true, Bool.and_eq_true] at h4 ⊢
        refine ⟨h1.1, ?_⟩
        have := h4.2
        simp only [Bool.not_eq_true'] at this ⊢
        cases hb : Nat.beq d d' with
        | false => rfl
        | true =>
          have := Nat.eq_of_beq_eq_true hb
          subst this
          simp_all
  · rw [← h3]
    refine okOps_all (fun p => ?_)
    simp only [List.all_append, List.all_cons, List.all_nil, Bool.and_true, Bool.and_assoc]
    rw [Bool.and_comm (p y.dst)]

theorem okOps_cons {N : Nat} {x : Oper} {l l' : List Oper} {ds : List (Option Tmp)} (h : ∀ ds, okOps N l ds = true → okOps N l' ds = true) (hx : okOps N (x :: l) ds = true) : okOps N (x :: l') ds = true := by
  simp only [okOps, Bool.and_eq_true] at hx ⊢
  exact ⟨hx.1, h _ hx.2⟩

theorem okOps_sink {N : Nat} {P : Program} {x : Oper} : ∀ {l : List Oper} {ds : List (Option Tmp)}, okOps N (x :: l) ds = true → okOps N (sink P x l) ds = true
  | [], _, h => h
  | y :: r, ds, h => by
    simp only [sink]
    cases swaps P x y with
    | false => exact h
    | true => exact okOps_cons (fun ds h => okOps_sink h) (okOps_swap h)

theorem okOps_hoist {N : Nat} {P : Program} : ∀ {l : List Oper} {ds : List (Option Tmp)}, okOps N l ds = true → okOps N (hoist P l) ds = true
  | [], _, h => h
  | x :: r, ds, h => by
    have h1 := okOps_cons (l' := hoist P r) (fun ds h => okOps_hoist h) h
    simp only [hoist]
    cases isAppend x with
    | false => exact h1
    | true => exact okOps_sink h1

theorem ahead_none {pos : Nat → Nat} : ∀ {l : List Oper} {k : Nat}, noGuards l = true → ahead pos false l k = true
  | [], _, _ => rfl
  | o :: r, k, h => by
    simp only [noGuards, List.all_cons, Bool.and_eq_true] at h
    have hg : o.guard = none := by simpa using h.1
    simp only [ahead, hg, Bool.not_false, Bool.true_or, Bool.true_and]
    exact ahead_none h.2

theorem region_ops {Y : Fr} {ro : Option Nat} (hE : E.Fits) (hG : E.Sound Y) (hY : Inside Y F E.yl) (hFG : F.G = E.G) (hm : E.P.follows .mixedOrders = true) {X id : Nat} (ok : (okOps n ops.toList [] && okReg false ops.toList) = true) (R : Rel F n β s a.tmps w) (hO : OptIn (fun _ => False) s.σ) {Q' : St U → Prop} {Qp : PanV U → St U → Prop}
    (hr : region E X id false ops.toList s Qp Q') {Q : Exit → Act → World → Prop} (hQ : ∀ s' β' a' w', Q' s' → Rel F n β' s' a'.tmps w' → OptIn (fun _ => False) s'.σ → a'.defers = a.defers → Q .normal a' w')
    (hP : ∀ v u s' β' a' w', Qp v s' → PanIs v u → Rel F n β' s' a'.tmps w' → OptIn (fun _ => False) s'.σ → a'.defers = a.defers → Q (.panic [{ v := u, recovered := false }]) a' w') : wpOpsIn (fen E.P ro) 0 E.P ops Q (List.range ops.size) a w := by
  unfold region at hr
  split at hr
  case h_2 => exact hr.elim
  rename_i ls hls
  obtain ⟨xs, s', hmem, hpath⟩ := runAll_spec hls
  have hr := leafs_mem hr hmem
  cases hcond : (!false || indep [] xs (masks (posIn false ops.toList) (osOf false ops.toList) [])) with
  | false => rw [hcond] at hr; exact hr.elim
  | true =>
    rw [hcond] at hr
    simp only [cond_true] at hr
    have hr := facts_spec hr hpath.fact
    obtain ⟨hob, hq⟩ := obls_spec hr (pre := []) rfl (fun i b hh => by simp at hh)
    simp only [List.nil_append, Nat.zero_add] at hob hq
    simp only [Bool.and_eq_true] at ok
    obtain ⟨hO1, hO2⟩ := okReg_ord ok.2
    have G : Reg E false n ops (posIn false ops.toList) (osOf false ops.toList) (bif false then some (masks (posIn false ops.toList) (osOf false ops.toList) []) else none) (fun v => Qp v (s.gone (bif false then some (masks (posIn false ops.toList) (osOf false ops.toList) []) else none) xs)) s xs s' := ⟨hpath, ⟨_, hO1⟩, ok.1, hO2, hob⟩
    have hend : NoPan xs (fun _ => True) → ∀ β' a' w', Rel F n β' s' a'.tmps w' → OptIn (Dset (fun _ => true) xs) s'.σ → a'.defers = a.defers → Q .normal a' w' := by
      intro hN β' a' w' R' hO' hd
      obtain ⟨h1, h2⟩ := cut_rel (D := fun _ => False) R' X
      exact hQ _ β' a' w' (hq hN) h1 h2 hd
    have hFl := falls (F := F) (n := n) (s := s) (xs := xs) (ms := bif false then some (masks (posIn false ops.toList) (osOf false ops.toList) []) else none) (ds := a.defers) (Qp := Qp) (Q := Q) hP
    rw [List.range_eq_range']
    have hnat : natural false ops.toList = true := by
      have := ok.2
      unfold okReg at this
      simpa using this
    exact list_wp hE hG hY hFG G (fun k => by simp [posIn, hnat]) hend hFl ops.size 0 (by simp) β a w (fun j y b hj => absurd hj (Nat.not_lt_zero j)) (by rw [stS_start]; exact R) (by rw [stS_start]; exact hO.mono (fun _ hf => hf.elim)) rfl

theorem region_wp {Y : Fr} {ro : Option Nat} (hE : E.Fits) (hG : E.Sound Y) (hY : Inside Y F E.yl) (hFG : F.G = E.G) (hm : E.P.follows .mixedOrders = true) {X id : Nat} {drawn : Bool} (ok : (okOps n ops.toList [] && okReg drawn ops.toList) = true) (R : Rel F n β s a.tmps w) (hO : OptIn (fun _ => False) s.σ) {Q' : St U → Prop} {Qp : PanV U → St U → Prop}
    (hr : region E X id drawn ops.toList s Qp Q') {Q : Exit → Act → World → Prop} (hQ : ∀ s' β' a' w', Q' s' → Rel F n β' s' a'.tmps w' → OptIn (fun _ => False) s'.σ → a'.defers = a.defers → Q .normal a' w')
    (hP : ∀ v u s' β' a' w', Qp v s' → PanIs v u → Rel F n β' s' a'.tmps w' → OptIn (fun _ => False) s'.σ → a'.defers = a.defers → Q (.panic [{ v := u, recovered := false }]) a' w') : (Code.region id ops drawn).wpIn (fen E.P ro) 0 E.P Q a w := by
  unfold region at hr
  split at hr
  case h_2 => exact hr.elim
  rename_i ls hls
  obtain ⟨xs, s', hmem, hpath⟩ := runAll_spec hls
  have hr := leafs_mem hr hmem
  cases hcond : (!drawn || indep [] xs (masks (posIn drawn ops.toList) (osOf drawn ops.toList) [])) with
  | false => rw [hcond] at hr; exact hr.elim
  | true =>
    rw [hcond] at hr
    simp only [cond_true] at hr
    have hr := facts_spec hr hpath.fact
    obtain ⟨hob, hq⟩ := obls_spec hr (pre := []) rfl (fun i b hh => by simp at hh)
    simp only [List.nil_append, Nat.zero_add] at hob hq
    simp only [Bool.and_eq_true] at ok
    obtain ⟨hO1, hO2⟩ := okReg_ord ok.2
    have G : Reg E drawn n ops (posIn drawn ops.toList) (osOf drawn ops.toList) (bif drawn then some (masks (posIn drawn ops.toList) (osOf drawn ops.toList) []) else none) (fun v => Qp v (s.gone (bif drawn then some (masks (posIn drawn ops.toList) (osOf drawn ops.toList) []) else none) xs)) s xs s' := ⟨hpath, ⟨_, hO1⟩, ok.1, hO2, hob⟩
    have hend : NoPan xs (fun _ => True) → ∀ β' a' w', Rel F n β' s' a'.tmps w' → OptIn (Dset (fun _ => true) xs) s'.σ → a'.defers = a.defers → Q .normal a' w' := by
      intro hN β' a' w' R' hO' hd
      obtain ⟨h1, h2⟩ := cut_rel (D := fun _ => False) R' X
      exact hQ _ β' a' w' (hq hN) h1 h2 hd
    have hFl := falls (F := F) (n := n) (s := s) (xs := xs) (ms := bif drawn then some (masks (posIn drawn ops.toList) (osOf drawn ops.toList) []) else none) (ds := a.defers) (Qp := Qp) (Q := Q) hP
    cases drawn with
    | false =>
      refine wpIn_region ?_
      rw [List.range_eq_range']
      have hnat : natural false ops.toList = true := by
        have := ok.2
        unfold okReg at this
        simpa using this
      exact list_wp hE hG hY hFG G (fun k => by simp [posIn, hnat]) hend hFl ops.size 0 (by simp) β a w (fun j y b hj => absurd hj (Nat.not_lt_zero j)) (by rw [stS_start]; exact R) (by rw [stS_start]; exact hO.mono (fun _ hf => hf.elim)) rfl
    | true =>
      have hI : indep [] xs (masks (posIn true ops.toList) (osOf true ops.toList) []) = true := by simpa using hcond
      have hS : doneBy (ordOf true ops.toList) (Array.replicate ops.size false) = fun _ => false := by
        funext j
        show doneAt (Array.replicate ops.size false) (ordOf true ops.toList)[j]? = false
        cases (ordOf true ops.toList)[j]? with
        | none => rfl
        | some k =>
          show (Array.replicate ops.size false).getD k false = false
          rw [Array.getD_eq_getD_getElem?]
          by_cases hj : k < ops.size
          · simp [hj]
          · simp [hj]
      have R0 : Rel F n β s a.tmps { w with drawn := w.drawn + 1 } := by
        have x : Ext w β s.h { w with drawn := w.drawn + 1 } β s.h := ⟨Nat.le_refl _, fun _ _ _ => rfl, fun _ _ h => h, rfl, fun id e cs hl => ⟨rfl, cs, hl⟩, fun id e t l ver lv hl => ⟨l, ver, lv, hl, Nat.le_refl _, fun _ => ⟨rfl, rfl⟩⟩, fun id o hl ho => ⟨rfl, rfl, o, hl, Ob.like_refl ho⟩⟩
        exact ⟨⟨⟨R.bel.os, R.bel.tape, R.bel.output, R.bel.size, R.bel.block⟩, R.hB, fun id o hl => x.o rfl rfl (fun _ _ => rfl) (R.obj id o hl), R.dis, R.frm, R.own, R.Mo, R.Mlt, R.Meq, R.fix, R.nmg, R.glo⟩, R.sz, fun t p hl => x.p (R.tmp t p hl)⟩
      refine wpIn_region_any hm ?_
      refine any_wp hE hG hY hFG G hO1 hI hend hFl ops.size _ (by simp) ?_ (by rw [hS, left_none]) (by rw [hS]; exact fun j y b hj => by cases hj) β a _ (by rw [hS, stS_none]; exact R0) (by rw [hS, stS_none]; exact hO.mono (fun _ hf => hf.elim)) rfl
      rw [hS]
      intro j o hj
      cases hj

theorem eqTs_spec {q : Prop} : ∀ {x y : List (Bool × List (Cell U))}, eqTs x y q → x = y ∧ q
  | [], [], h => ⟨rfl, h⟩
  | [], _ :: _, h => h.elim
  | _ :: _, [], h => h.elim
  | (b, x) :: r, (b', y) :: r', h => by
    simp only [eqTs] at h
    revert h
    cases hb : (b == b') with
    | false => intro h; exact False.elim h
    | true =>
      intro h
      simp only [beq_iff_eq] at hb
      subst hb
      obtain ⟨rfl, h2⟩ := eqCs_spec (show eqCs x y (eqTs r r' q) from h)
      obtain ⟨rfl, h3⟩ := eqTs_spec h2
      exact ⟨rfl, h3⟩

theorem eqP_spec {x y : PV U} {q : Prop} (h : eqP x y q) : x = y ∧ q := by
  unfold eqP at h
  split at h
  · exact ⟨rfl, h⟩
  · obtain ⟨rfl, hq⟩ := eqC_spec h; exact ⟨rfl, hq⟩
  · obtain ⟨rfl, hq⟩ := eqCs_spec h; exact ⟨rfl, hq⟩
  · obtain ⟨rfl, hq⟩ := eqTs_spec h; exact ⟨rfl, hq⟩
  · exact h.elim

theorem eqL_spec {α : Type} {f : α → α → Prop → Prop} (hf : ∀ {x y q}, f x y q → x = y ∧ q) {q : Prop} : ∀ {x y : List (Nat × α)}, eqL f x y q → x = y ∧ q
  | [], [], h => ⟨rfl, h⟩
  | [], _ :: _, h => h.elim
  | _ :: _, [], h => h.elim
  | (k, x) :: r, (k', y) :: r', h => by
    simp only [eqL] at h
    revert h
    cases hc : Nat.beq k k' with
    | false => intro h; exact False.elim h
    | true =>
      intro h
      have h1 := Nat.eq_of_beq_eq_true hc
      subst h1
      obtain ⟨rfl, h2⟩ := hf (show f x y (eqL f r r' q) from h)
      obtain ⟨rfl, h3⟩ := eqL_spec hf h2
      exact ⟨rfl, h3⟩

theorem eqSt_spec {x y : St U} {q : Prop} (h : eqSt x y q) : x = y ∧ q := by
  obtain ⟨x1, x2⟩ := x
  obtain ⟨y1, y2⟩ := y
  obtain ⟨h1, h2⟩ := eqL_spec eqP_spec h
  obtain ⟨h3, h4⟩ := eqL_spec eqO_spec h2
  dsimp only at h1 h3
  subst h1; subst h3
  exact ⟨rfl, h4⟩

theorem least {S : Nat → Prop} : ∀ {m : Nat}, S m → ∃ k, S k ∧ ∀ j, S j → k ≤ j := by
  intro m
  induction m using Nat.strongRecOn with
  | ind m ih =>
    intro hm
    by_cases h : ∃ j, j < m ∧ S j
    · obtain ⟨j, hj, hS⟩ := h
      exact ih j hj hS
    · exact ⟨m, hm, fun j hj => by
        rcases Nat.lt_or_ge j m with h1 | h1
        · exact absurd ⟨j, h1, hj⟩ h
        · exact h1⟩

theorem wp_loop_by {ro : Option Nat} {P : Program} {α : Type} {c : Code} {Q : Exit → Act → World → Prop} (I : α → Act → World → Prop) (μ : α → Nat) {p0 : α} (h0 : I p0 a w)
    (round : ∀ p a w, I p a w → c.wpIn (fen E.P ro) 0 P (Exit.then (fun a' w' => ∃ p', I p' a' w' ∧ μ p' < μ p) Q) a w) : (Code.loop c).wpIn (fen E.P ro) 0 P Q a w := by
  classical
  let m : Act → World → Nat := fun a w => if h : ∃ k, (∃ p, I p a w ∧ μ p = k) ∧ ∀ j, (∃ p, I p a w ∧ μ p = j) → k ≤ j then Classical.choose h else 0
  have hm : ∀ a w p, I p a w → (∃ q, I q a w ∧ μ q = m a w) ∧ m a w ≤ μ p := by
    intro a w p hp
    have h : ∃ k, (∃ p, I p a w ∧ μ p = k) ∧ ∀ j, (∃ p, I p a w ∧ μ p = j) → k ≤ j := least (S := fun k => ∃ p, I p a w ∧ μ p = k) ⟨p, hp, rfl⟩
    have hm : m a w = Classical.choose h := by simp only [m]; rw [dif_pos h]
    have hspec := Classical.choose_spec h
    rw [hm]
    exact ⟨hspec.1, hspec.2 _ ⟨p, hp, rfl⟩⟩
  refine wpIn_loop (fun a w => ∃ p, I p a w) m ⟨p0, h0⟩ (fun a w ⟨p, hp⟩ => ?_)
  obtain ⟨⟨q, hq, hmq⟩, _⟩ := hm a w p hp
  refine wpIn_mono (round q a w hq) (fun e a' w' hh => ?_)
  cases e with
  | normal =>
    obtain ⟨p', h1, h2⟩ := hh
    exact ⟨⟨p', h1⟩, by have := (hm a' w' p' h1).2; omega⟩
  | _ => exact hh

theorem new_nil (k : Ok F w β h) {id : Nat} (hf : look id h = none) (e : TypeId) (t : Ty) : After F w β h w (upd1 β id (.slice none 0 0)) (write id (.row e t [] 0 true) h) :=
  new_after k (Below.refl _ _) hf (.inl rfl) (fun g hg => by simp [blkOf] at hg) (fun x => ⟨[], by rw [upd1_same]; exact World.ownsRow_nil _ _ _ _, by simp [most], by simp, fun i y hy => by simp at hy⟩)

theorem promote1_rel {tmps : Array Value} (R : Rel F n β s tmps w) (hO : OptIn (fun _ => False) s.σ) (x : Place × Nat × TypeId × Ty) : ∃ β', Rel F n β' (promote1 s x) tmps w ∧ OptIn (fun _ => False) (promote1 s x).σ := by
  obtain ⟨pl, id, e, t⟩ := x
  cases pl with
  | slot j =>
    simp only [promote1]
    split
    · exact ⟨β, R, hO⟩
    · rename_i hf
      split
      · rename_i hl
        have A := new_nil R.ok hf e t
        have hv : tmps.getD j undef = .slice none 0 0 := (R.tmp j _ hl).inv.2
        refine ⟨upd1 β id (.slice none 0 0), ⟨A.toOk, R.sz, fun t' p hp => ?_⟩, fun t' gs p hp => ?_⟩
        · simp only at hp
          rw [look_write] at hp
          split at hp
          · rename_i htj
            simp only [Option.some.injEq] at hp
            subst hp; subst htj
            rw [hv]
            exact row_rel (look_write_same _ _ _) (upd1_same _ _ _) rfl _
          · refine PRel.write ?_ (A.ext.p (R.tmp t' p hp))
            rcases hO.cases hp with h1 | ⟨gs, q, h1, h2, h3⟩
            · exact .inl h1
            · exact .inr ⟨gs, q, h1, h2, fun g hg => (h3 g hg).elim⟩
        · simp only at hp
          rw [look_write] at hp
          split at hp
          · simp at hp
          · exact hO t' gs p hp
      · exact ⟨β, R, hO⟩
  | box b c =>
    simp only [promote1]
    split
    · exact ⟨β, R, hO⟩
    · rename_i hf
      split
      · rename_i be cs hb
        split
        · rename_i hc
          have hne : b ≠ id := by
            intro h
            subst h
            rw [hb] at hf
            cases hf
          have A := new_nil R.ok hf e t
          have hb1 : look b (write id (.row e t [] 0 true) s.h) = some (.box be cs) := by rw [look_write, if_neg hne]; exact hb
          obtain ⟨g, vs, q1, q2, q3, q4⟩ := A.obj b _ hb1
          have hclt : c < cs.length := (List.getElem?_eq_some_iff.1 hc).1
          have hvc : ∀ v, vs.toList[c]? = some v → v = .slice none 0 0 := fun v hv => q4.2.2 c _ v hc hv
          have A2 : After F w (upd1 β id (.slice none 0 0)) (write id (.row e t [] 0 true) s.h) w (upd1 β id (.slice none 0 0)) (write b (.box be (cs.set c (.row id 0))) (write id (.row e t [] 0 true) s.h)) := by
            refine turn_after A.ok hb1 rfl rfl rfl rfl (Nat.le_refl _) (fun _ _ _ => rfl) rfl (fun _ _ => rfl) rfl (fun h => by simp [Ob.oth] at h) (fun _ h => .inl h) (fun e2 cs2 h5 => ?_) (fun _ _ _ _ _ h5 => by cases h5) (fun x => ?_)
            · cases h5; exact ⟨rfl, _, rfl⟩
            · refine ⟨g, vs, q1, q2, q3, by rw [List.length_set]; exact q4.1, q4.2.1, fun j cc v hj hv => ?_⟩
              rw [List.getElem?_set] at hj
              split at hj
              · rename_i hcj
                subst hcj
                simp only [Option.some.injEq] at hj
                subst hj
                rw [hvc v hv]
                exact ⟨e, t, [], 0, true, by rw [look_write, if_neg (Ne.symm hne)]; exact look_write_same _ _ _, Nat.le_refl _, fun _ => (upd1_same _ _ _).symm⟩
              · exact x.cell (q4.2.2 j cc v hj hv)
          exact ⟨_, ⟨A2.toOk, R.sz, fun t' p hp => A2.ext.p (A.ext.p (R.tmp t' p hp))⟩, hO⟩
        · exact ⟨β, R, hO⟩
      · exact ⟨β, R, hO⟩
  | cell b c =>
    simp only [promote1]
    split
    · rename_i be cs hb
      split
      · rename_i hc
        obtain ⟨g, vs, q1, q2, q3, q4⟩ := R.ok.obj b _ hb
        have hvc : ∀ v, vs.toList[c]? = some v → v = .slice none 0 0 := fun v hv => q4.2.2 c _ v hc hv
        have A2 : After F w β s.h w β (write b (.box be (cs.set c (.d ⟨.slice e t, []⟩))) s.h) := by
          refine turn_after R.ok hb rfl rfl rfl rfl (Nat.le_refl _) (fun _ _ _ => rfl) rfl (fun _ _ => rfl) rfl (fun h => by simp [Ob.oth] at h) (fun _ h => .inl h) (fun e2 cs2 h5 => ?_) (fun _ _ _ _ _ h5 => by cases h5) (fun x => ?_)
          · cases h5; exact ⟨rfl, _, rfl⟩
          · refine ⟨g, vs, q1, q2, q3, by rw [List.length_set]; exact q4.1, q4.2.1, fun j cc v hj hv => ?_⟩
            rw [List.getElem?_set] at hj
            split at hj
            · rename_i hcj
              subst hcj
              simp only [Option.ite_none_right_eq_some, Option.some.injEq] at hj
              obtain ⟨_, hj⟩ := hj
              subst hj
              rw [hvc v hv]
              exact Rep.nil e t none 0
            · exact x.cell (q4.2.2 j cc v hj hv)
        exact ⟨_, ⟨A2.toOk, R.sz, fun t' p hp => A2.ext.p (R.tmp t' p hp)⟩, hO⟩
      · exact ⟨β, R, hO⟩
    · exact ⟨β, R, hO⟩
  | row j =>
    simp only [promote1]
    split
    · rename_i c hl
      split
      · rename_i x u ha
        have hf := (asD_freezes' (fun _ _ h => h) ha).1
        have A := freezes R.ok hf
        have hc := (R.tmp j _ hl).inv
        have hr := asD_rep' R.ok (fun _ _ h => h) ha hc.2 hf (fun _ h => h)
        refine ⟨β, ⟨A.toOk, R.sz, fun t' p hp => ?_⟩, fun t' gs p hp => ?_⟩
        · simp only at hp
          rw [look_write] at hp
          split at hp
          · rename_i htj
            simp only [Option.some.injEq] at hp
            subst hp; subst htj
            exact CsRel.one hc.1 hr
          · refine PRel.write ?_ (A.ext.p (R.tmp t' p hp))
            rcases hO.cases hp with h1 | ⟨gs, q, h1, h2, h3⟩
            · exact .inl h1
            · exact .inr ⟨gs, q, h1, h2, fun g hg => (h3 g hg).elim⟩
        · simp only at hp
          rw [look_write] at hp
          split at hp
          · simp at hp
          · exact hO t' gs p hp
      · exact ⟨β, R, hO⟩
    · exact ⟨β, R, hO⟩

theorem promotes_rel {tmps : Array Value} : ∀ {l : List (Place × Nat × TypeId × Ty)} {β : Nm} {s : St U}, Rel F n β s tmps w → OptIn (fun _ => False) s.σ → ∃ β', Rel F n β' (promotes s l) tmps w ∧ OptIn (fun _ => False) (promotes s l).σ
  | [], β, s, R, hO => ⟨β, R, hO⟩
  | x :: r, β, s, R, hO => by
    obtain ⟨β1, R1, hO1⟩ := promote1_rel R hO x
    exact promotes_rel (l := r) R1 hO1

def ExitIs : Way U → Exit → Prop
  | .normal, e => e = .normal
  | .exit id, e => e = .exit id
  | .ret, e => e = .ret
  | .panic v, e => ∃ u, PanIs v u ∧ e = .panic [{ v := u, recovered := false }]

theorem wpIn_scope {G : Fence} {m : Nat} {P : Program} {Q : Exit → Act → World → Prop} {c : Code} (h : c.wpIn G m P (Exit.noGoto Q) a w) : (Code.scope c).wpIn G m P Q a w := by
  intro b k cs hro hb hr
  have h0 : (lone (b.atR a (.code (.scope c) :: k)) cs w).fenced P G := fenced_calm hb hr rfl
  have s0 : step P (lone (b.atR a (.code (.scope c) :: k)) cs w) = .next (lone (b.atR a (.code c :: .inScope c :: k)) cs w) := step_lone_go (by simp [stepG, stepG.exec, Frame.atR])
  have s1 : ∀ a w, step P (lone (b.atR a (.inScope c :: k)) cs w) = .next (lone (b.atR a k) cs w) := fun a w => step_lone_go (by simp [stepG, stepG.exec, Frame.atR])
  obtain ⟨e, a₁, w₁, hq, harr⟩ := h b (.inScope c :: k) cs hro hb hr
  cases e with
  | normal => exact ⟨.normal, a₁, w₁, hq, .head h0 s0 (StepsIn.trans harr (.one (fenced_calm hb hr rfl) (s1 _ _)))⟩
  | exit id =>
    have hx : exitTo id (.inScope c :: k) = exitTo id k := by simp [exitTo]
    exact ⟨.exit id, a₁, w₁, hq, fun k' hk => .head h0 s0 (harr.1 k' (by rw [hx]; exact hk)),
      fun hr' hk => let ⟨k₁, h1, h2⟩ := harr.2 hr' (by rw [hx]; exact hk); ⟨k₁, h1, .head h0 s0 h2⟩⟩
  | goto l => exact hq.elim
  | ret => exact ⟨_, a₁, w₁, hq, .of_steps (.one h0 s0) harr⟩
  | panic ch => exact ⟨_, a₁, w₁, hq, .of_steps (.one h0 s0) harr⟩
  | outgrown => exact ⟨_, a₁, w₁, hq, .of_steps (.one h0 s0) harr⟩

theorem slice_form {w : World} {β : Nm} {h : Obs U} {σ : List (Nat × PV U)} {e : TypeId} {t : Ty} {l : List (den U.T t)} {v : Value} (r : PRel w β h σ (.one (.d ⟨.slice e t, l⟩)) v) : ∃ oa k c, v = .slice oa k c ∧ (oa.isNone = true → l = []) := by
  have hx := r.d
  cases hx with
  | nil => exact ⟨_, _, _, rfl, fun _ => rfl⟩
  | slice _ _ _ g q' cap f hpos hc hm hM hg hcell hr => exact ⟨_, _, _, rfl, fun h => by cases h⟩

theorem nilCmp_wp {ro : Option Nat} {id : Nat} {j p : Nat} {v : PV U} {q : Bool} {e : Prop} (hc : nilCmp E s ops.toList = some (j, p, v, q, e)) (ok : (okOps n ops.toList []) = true) (R : Rel F n β s a.tmps w) (hO : OptIn (fun _ => False) s.σ) {Q : Exit → Act → World → Prop}
    (hQ : ∀ b : Bool, (b = true → e) → ∀ β' a' w', Rel F n β' ⟨write p (.one (.d ⟨.bool, bif q then b else !b⟩)) (write j v s.σ), s.h⟩ a'.tmps w' → OptIn (fun _ => False) (write p (.one (.d ⟨.bool, bif q then b else !b⟩)) (write j v s.σ)) → a'.defers = a.defers → Q .normal a' w') : (Code.region id ops false).wpIn (fen E.P ro) 0 E.P Q a w := by
  unfold nilCmp at hc
  split at hc
  case h_2 => cases hc
  rename_i o1 o2 hops
  split at hc
  case h_2 => cases hc
  rename_i x j0 op t j1 k p1 h1 h2 h3 h4 h5 h6
  split at hc
  case h_2 => cases hc
  rename_i q1 hq1
  simp only [Bool.cond_eq_ite] at hc
  split at hc
  case isFalse => cases hc
  rename_i hcond
  simp only [Bool.and_eq_true, Bool.not_eq_true'] at hcond
  have hj := Nat.eq_of_beq_eq_true hcond.1
  subst hj
  split at hc
  case h_2 => cases hc
  rename_i el hu
  split at hc
  case h_2 => cases hc
  rename_i e1 t1 l hx
  simp only [Option.some.injEq, Prod.mk.injEq] at hc
  obtain ⟨rfl, rfl, rfl, rfl, rfl⟩ := hc
  have hopsA : ops = #[o1, o2] := by
    apply Array.toList_inj.1
    rw [hops]
  subst hopsA
  have hlt1 : j1 < n ∧ p1 < n := by
    simp only [okOps, okDst, h2, h5, Bool.and_eq_true] at ok
    exact ⟨Nat.le_of_ble_eq_true ok.1.1, Nat.le_of_ble_eq_true ok.2.1.1⟩
  refine wpIn_region ?_
  have hr : List.range (#[o1, o2] : Array Oper).size = [0, 1] := rfl
  rw [hr]
  simp only [wpOpsIn, List.getElem?_toArray, List.getElem?_cons_zero, List.getElem?_cons_succ]
  rw [if_pos (by simp [Region.wanted, h3])]
  have hev := ev_rel R x
  rw [hx] at hev
  refine Does.wp' (F := F) (e := pureE (.one (.d ⟨.slice e1 t1, l⟩))) (Does.pure (n := n) (v := a.eval x) R rfl (by simp [execOp, h1]) hev) (abouts_none fun c hc => by rw [h1] at hc; cases hc) (fun c hc => by rw [h1] at hc; cases hc) ?_
  intro v w' β' A pv
  obtain ⟨R1, hO1⟩ := put_rel R hO (dst := o1.dst) (fun d hd => ⟨by rw [h2] at hd; cases hd; exact hlt1.1, fun h => h⟩) A (.inl rfl) pv
  rw [if_pos (by simp [Region.wanted, h6])]
  have hev2 := ev_rel R1 (.tmp j1)
  have hlk : ev (putS s.σ o1.dst (.one (.d ⟨.slice e1 t1, l⟩))) (.tmp j1) = .one (.d ⟨.slice e1 t1, l⟩) := by
    simp only [ev, h2, putS, look_write, Nat.beq_refl]
    rfl
  dsimp only [pureE] at hev2 R1 hO1
  rw [hlk] at hev2
  obtain ⟨oa, kk, cc, hv, hnil⟩ := slice_form hev2
  have hq : ∃ b : Bool, b = oa.isNone ∧ (execOp (a.put o1.dst v).eval o2).run E.P w' = .ok (.value (.bool (bif q1 then b else !b))) w' := by
    refine ⟨oa.isNone, rfl, ?_⟩
    have hE := run_equal_slice_nil (P := E.P) w' t el oa kk cc hu
    have hcst : (a.put o1.dst v).eval (.const (.slice none 0 0)) = .slice none 0 0 := rfl
    cases op <;> simp only [Option.some.injEq, reduceCtorEq] at hq1
    · subst hq1
      simp [execOp, h4, hv, hcst, eqGuard, binOp, hE]
    · subst hq1
      simp [execOp, h4, hv, hcst, eqGuard, binOp, hE]
  obtain ⟨b, hb, hrun⟩ := hq
  refine Does.wp' (F := F) (β := β') (s := ⟨putS s.σ o1.dst (.one (.d ⟨.slice e1 t1, l⟩)), s.h⟩) (e := pureE (.one (.d ⟨.bool, bif q1 then b else !b⟩))) (Does.pure (n := n) R1 rfl hrun (PRel.mkBool _)) (abouts_none fun c hc => by rw [h4] at hc; cases hc) (fun c hc => by rw [h4] at hc; cases hc) ?_
  intro v2 w2 β2 A2 pv2
  obtain ⟨R2, hO2⟩ := put_rel R1 (hO1.mono (fun _ h => h)) (dst := o2.dst) (D := fun j => False ∨ o1.dst = some j) (fun d hd => ⟨by rw [h5] at hd; cases hd; exact hlt1.2, fun h => by
    rcases h with h | h
    · exact h
    · rw [h2] at h
      rw [h5] at hd
      simp only [Option.some.injEq] at h hd
      rw [← h] at hd
      rw [hd, Nat.beq_refl] at hcond
      cases hcond.2⟩) A2 (.inl rfl) pv2
  refine hQ b (fun hb2 => hnil (hb ▸ hb2)) β2 _ w2 ?_ ?_ ?_
  · dsimp only [pureE] at R2
    rw [h2, h5] at R2
    rw [h2, h5]
    exact R2
  · intro t gs p hl
    rw [look_write] at hl
    split at hl
    · cases hl
    · rw [look_write] at hl
      split at hl
      · cases hl
      · exact hO t gs p hl
  · cases o2.dst <;> cases o1.dst <;> rfl

theorem wpcR_sound {Y : Fr} {ro : Option Nat} (hE : E.Fits) (hG : E.Sound Y) (hY : Inside Y F E.yl) (hFG : F.G = E.G) (hm : E.P.follows .mixedOrders = true) (X : Nat) (L : Nat → St U → Ann U) {id : Nat} {ops : Array Oper} {drawn : Bool} (k : Nat) (s : St U) (Q' : Way U → St U → Prop) (ok : okCode n (.region id ops drawn) = true) (h : wpc E X L (.region id ops drawn) k s Q') :
    ∀ (β : Nm) (a : Act) (w : World), Rel F n β s a.tmps w → OptIn (fun _ => False) s.σ → ∀ Q : Exit → Act → World → Prop,
      (∀ way e s' β' a' w', ExitIs way e → Q' way s' → Rel F n β' s' a'.tmps w' → OptIn (fun _ => False) s'.σ → a'.defers = a.defers → Q e a' w') → (Code.region id ops drawn).wpIn (fen E.P ro) 0 E.P Q a w := by
    intro β a w R hO Q hQ
    simp only [wpc] at h
    split at h
    · rename_i j p v q e heq
      cases drawn with
      | true => cases heq
      | false =>
        have ok : (okOps n ops.toList [] && okReg false ops.toList) = true := ok
        simp only [Bool.and_eq_true] at ok
        exact nilCmp_wp (F := F) heq ok.1 R hO (fun b hb β' a' w' h2 h3 h4 => hQ .normal _ _ β' a' w' rfl (h b hb) h2 h3 h4)
    · cases hho : (!drawn && (noGuards ops.toList && hoists ops.toList)) with
      | false =>
        rw [hho] at h
        exact region_wp hE hG hY hFG hm ok R hO h (fun s' β' a' w' h1 h2 h3 h4 => hQ .normal _ s' β' a' w' rfl h1 h2 h3 h4) (fun v u s' β' a' w' h1 h2 h3 h4 h5 => hQ (.panic v) _ s' β' a' w' ⟨u, h2, rfl⟩ h1 h3 h4 h5)
      | true =>
        rw [hho] at h
        simp only [Bool.and_eq_true, Bool.not_eq_true'] at hho
        obtain ⟨rfl, hg, _⟩ := hho
        have ok : (okOps n ops.toList [] && okReg false ops.toList) = true := ok
        simp only [Bool.and_eq_true] at ok
        have h : region E X id false (hoist E.P ops.toList) s (fun _ _ => False) (Q' .normal) := h
        have hg2 := noGuards_hoist (P := E.P) hg
        have hops : wpOpsIn (fen E.P ro) 0 E.P (hoist E.P ops.toList).toArray (fun e a w => match e with | .normal => Q .normal a w | _ => False) (List.range (hoist E.P ops.toList).toArray.size) a w :=
          region_ops (F := F) (ops := (hoist E.P ops.toList).toArray) (X := X) (id := id) (s := s) (Qp := fun _ _ => False) (Q' := Q' .normal) hE hG hY hFG hm
            (by simp only [Bool.and_eq_true]; exact ⟨okOps_hoist ok.1, by unfold okReg natural; rw [ahead_none hg2]; rfl⟩) R hO h
            (fun s' β' a' w' h1 h2 h3 h4 => hQ .normal _ s' β' a' w' rfl h1 h2 h3 h4) (fun v u s' β' a' w' h1 => h1.elim)
        rw [List.range_eq_range'] at hops
        have h1 := (wpL_of (K := fun a w => Q .normal a w) (ops := (hoist E.P ops.toList).toArray) hg2 _ 0 (by simp)).1 hops
        have h2 := hoist_wp h1
        have h3 := (wpL_of (K := fun a w => Q .normal a w) (ops := ops) hg ops.size 0 (by simp)).2 h2
        rw [← List.range_eq_range'] at h3
        exact wpIn_mono (wpIn_region h3) (fun e a w hq => by cases e <;> first | exact hq | exact hq.elim)

theorem simple_noRF : ∀ {c : Code}, simpleC c = true → noRF c = true
  | .skip, _ => rfl
  | .region .., _ => rfl
  | .seq a b, h => by
    simp only [simpleC, Bool.and_eq_true] at h
    simp only [noRF, Bool.and_eq_true]
    exact ⟨simple_noRF h.1, simple_noRF h.2⟩
  | .cond c a b, h => by
    simp only [simpleC, Bool.and_eq_true] at h
    simp only [noRF, Bool.and_eq_true]
    exact ⟨simple_noRF h.1, simple_noRF h.2⟩
  | .scope a, h => simple_noRF (c := a) h
  | .block _ a, h => simple_noRF (c := a) h

def WkC (c c' : Cell U) : Prop := c' = .un ∨ c' = c ∨ (c = .lit (.slice none 0 0) ∧ ∃ e y, c' = .d ⟨.slice e y, []⟩)
def WkCs (xs ys : List (Cell U)) : Prop := ys.length = xs.length ∧ ∀ (j : Nat) (c' : Cell U), ys[j]? = some c' → ∃ c, xs[j]? = some c ∧ WkC c c'
def WkP (p p' : PV U) : Prop := p' = .un ∨ (∃ c c', p = .one c ∧ p' = .one c' ∧ WkC c c') ∨ ∃ xs ys, p = .agg xs ∧ p' = .agg ys ∧ WkCs xs ys
def WkO (o o' : Ob U) : Prop := o' = o ∨ ∃ e xs ys, o = .box e xs ∧ o' = .box e ys ∧ WkCs xs ys

structure Wk (a m : St U) : Prop where
  sl : ∀ k p', look k m.σ = some p' → ∃ p, look k a.σ = some p ∧ WkP p p'
  ob : ∀ id o', look id m.h = some o' → ∃ o, look id a.h = some o ∧ WkO o o'
  bo : ∀ id o, look id a.h = some o → ∃ o', look id m.h = some o' ∧ WkO o o'

theorem WkO.live {o o' : Ob U} (h : WkO o o') : o'.live = o.live := by
  rcases h with rfl | ⟨e, xs, ys, rfl, rfl, _⟩ <;> rfl
theorem WkO.isRow {o o' : Ob U} (h : WkO o o') : o'.isRow = o.isRow := by
  rcases h with rfl | ⟨e, xs, ys, rfl, rfl, _⟩ <;> rfl

theorem Wk.ext {a m : St U} (k : Wk a m) (w : World) (β : Nm) : Ext w β a.h w β m.h where
  size := Nat.le_refl _
  heap := fun _ _ _ => rfl
  own := fun b _ ⟨id, o', h1, h2, h3⟩ => by
    obtain ⟨o, h4, h5⟩ := k.ob id o' h1
    exact ⟨id, o, h4, by rw [← h5.live]; exact h2, h3⟩
  M := rfl
  box := fun id e cs hl => by
    obtain ⟨o', h1, h2⟩ := k.bo id _ hl
    rcases h2 with rfl | ⟨e2, xs, ys, h3, rfl, _⟩
    · exact ⟨rfl, cs, h1⟩
    · cases h3; exact ⟨rfl, ys, h1⟩
  row := fun id e t l ver lv hl => by
    obtain ⟨o', h1, h2⟩ := k.bo id _ hl
    rcases h2 with rfl | ⟨e2, xs, ys, h3, _⟩
    · exact ⟨l, ver, lv, h1, Nat.le_refl _, fun _ => ⟨rfl, rfl⟩⟩
    · cases h3
  oth := fun id o hl ho => by
    obtain ⟨o', h1, h2⟩ := k.bo id _ hl
    rcases h2 with rfl | ⟨e2, xs, ys, rfl, _⟩
    · exact ⟨rfl, rfl, o', h1, Ob.like_refl ho⟩
    · simp [Ob.oth] at ho

theorem WkC.rel {a m : St U} (k : Wk a m) {w : World} {β : Nm} {c c' : Cell U} {v : Value} (h : WkC c c') (r : CRel w β a.h c v) : CRel w β m.h c' v := by
  rcases h with rfl | rfl | ⟨rfl, e, y, rfl⟩
  · trivial
  · exact (k.ext w β).cell r
  · have r : v = .slice none 0 0 := r
    subst r
    exact Rep.nil e y none 0

theorem WkCs.rel {a m : St U} (k : Wk a m) {w : World} {β : Nm} {xs ys : List (Cell U)} {vs : List Value} (h : WkCs xs ys) (r : CsRel w β a.h xs vs) : CsRel w β m.h ys vs := by
  refine ⟨by rw [h.1]; exact r.1, r.2.1, fun j c' v hc hv => ?_⟩
  obtain ⟨c, h1, h2⟩ := h.2 j c' hc
  exact h2.rel k (r.2.2 j c v h1 hv)

theorem Wk.rel {tmps : Array Value} {a m : St U} (k : Wk a m) (R : Rel F n β a tmps w) : Rel F n β m tmps w := by
  have x := k.ext w β
  refine ⟨⟨R.bel, R.hB, fun id o' hl => ?_, fun id o1 id' o2 b h1 h2 => ?_, R.frm, fun id o' b hl => ?_, fun id o' b hl => ?_, R.Mlt, R.Meq, fun id o' v hl hn => ?_, R.nmg, R.glo⟩, R.sz, fun t p' hp => ?_⟩
  · obtain ⟨o, h1, h2⟩ := k.ob id o' hl
    have ho := R.obj id o h1
    rcases h2 with rfl | ⟨e, xs, ys, rfl, rfl, h3⟩
    · exact x.o rfl rfl (fun _ _ => rfl) ho
    · obtain ⟨b, vs, q1, q2, q3, q4⟩ := ho
      exact ⟨b, vs, q1, q2, q3, h3.rel k q4⟩
  · obtain ⟨o1', h1', _⟩ := k.ob id o1 h1
    obtain ⟨o2', h2', _⟩ := k.ob id' o2 h2
    exact R.dis id o1' id' o2' b h1' h2'
  · obtain ⟨o, h1, _⟩ := k.ob id o' hl
    exact R.own id o b h1
  · obtain ⟨o, h1, _⟩ := k.ob id o' hl
    exact R.Mo id o b h1
  · obtain ⟨o, h1, h2⟩ := k.ob id o' hl
    rw [h2.isRow]
    exact R.fix id o v h1 hn
  · obtain ⟨p, h1, h2⟩ := k.sl t p' hp
    have hr := R.tmp t p h1
    rcases h2 with rfl | ⟨c, c', rfl, rfl, h3⟩ | ⟨xs, ys, rfl, rfl, h3⟩
    · trivial
    · exact CsRel.one hr.inv.1 (h3.rel k hr.inv.2)
    · obtain ⟨vs, hv, hc⟩ := hr
      exact ⟨vs, hv, h3.rel k hc⟩

theorem mergeD_true {x y z : Datum U} (h : mergeD true x y = some z) : z = x := by
  unfold mergeD at h
  split at h
  · rename_i v hv
    simp only [cond_true, Option.some.injEq] at h
    rw [← h, Datum.as_eq hv]
  · cases h
theorem mergeD_false {x y z : Datum U} (h : mergeD false x y = some z) : z = y := by
  unfold mergeD at h
  split at h
  · simp only [cond_false, Option.some.injEq] at h
    exact h.symm
  · cases h

theorem beq2 {a a' b b' : Nat} (h : (Nat.beq a a' && Nat.beq b b') = true) : a = a' ∧ b = b' := by
  simp only [Bool.and_eq_true] at h
  exact ⟨Nat.eq_of_beq_eq_true h.1, Nat.eq_of_beq_eq_true h.2⟩

theorem mergeC_true (x y : Cell U) : WkC x (mergeC true x y) := by
  unfold mergeC
  split
  · split
    · rename_i h; rw [mergeD_true h]; exact .inr (.inl rfl)
    · exact .inl rfl
  · exact .inr (.inl rfl)
  · exact .inr (.inl rfl)
  · exact .inr (.inr ⟨rfl, _, _, rfl⟩)
  all_goals first
    | exact .inl rfl
    | (simp only [Bool.cond_eq_ite]; split <;> first | exact .inr (.inl rfl) | exact .inl rfl)

theorem mergeC_false (x y : Cell U) : WkC y (mergeC false x y) := by
  unfold mergeC
  split
  · split
    · rename_i h; rw [mergeD_false h]; exact .inr (.inl rfl)
    · exact .inl rfl
  · exact .inr (.inl rfl)
  · exact .inr (.inr ⟨rfl, _, _, rfl⟩)
  · exact .inr (.inl rfl)
  all_goals first
    | exact .inl rfl
    | (simp only [Bool.cond_eq_ite]
       split
       · rename_i h
         first
           | (obtain ⟨rfl, rfl⟩ := beq2 h; exact .inr (.inl rfl))
           | (have := Nat.eq_of_beq_eq_true h; subst this; exact .inr (.inl rfl))
           | (simp only [Bool.and_eq_true, beq_iff_eq] at h; obtain ⟨h1, rfl⟩ := h; have := Nat.eq_of_beq_eq_true h1; subst this; exact .inr (.inl rfl))
       · exact .inl rfl)

theorem zipC_true : ∀ {xs ys : List (Cell U)}, xs.length = ys.length → WkCs xs (zipC true xs ys)
  | [], [], _ => ⟨rfl, fun j c h => by simp [zipC] at h⟩
  | x :: xs, y :: ys, h => by
    obtain ⟨h1, h2⟩ := zipC_true (xs := xs) (ys := ys) (by simpa using h)
    refine ⟨by simp [zipC, h1], fun j c hc => ?_⟩
    cases j with
    | zero =>
      simp only [zipC, List.getElem?_cons_zero, Option.some.injEq] at hc
      exact ⟨x, rfl, hc ▸ mergeC_true x y⟩
    | succ j => exact h2 j c (by simpa [zipC] using hc)
  | [], _ :: _, h => by simp at h
  | _ :: _, [], h => by simp at h
theorem zipC_false : ∀ {xs ys : List (Cell U)}, xs.length = ys.length → WkCs ys (zipC false xs ys)
  | [], [], _ => ⟨rfl, fun j c h => by simp [zipC] at h⟩
  | x :: xs, y :: ys, h => by
    obtain ⟨h1, h2⟩ := zipC_false (xs := xs) (ys := ys) (by simpa using h)
    refine ⟨by simp [zipC, h1], fun j c hc => ?_⟩
    cases j with
    | zero =>
      simp only [zipC, List.getElem?_cons_zero, Option.some.injEq] at hc
      exact ⟨y, rfl, hc ▸ mergeC_false x y⟩
    | succ j => exact h2 j c (by simpa [zipC] using hc)
  | [], _ :: _, h => by simp at h
  | _ :: _, [], h => by simp at h

theorem mergeP_true (x y : PV U) : WkP x (mergeP true x y) ∧ (mergeP true x y).plain = true := by
  unfold mergeP
  split
  · exact ⟨.inr (.inl ⟨_, _, rfl, rfl, mergeC_true _ _⟩), rfl⟩
  · simp only [Bool.cond_eq_ite]
    split
    · rename_i h
      exact ⟨.inr (.inr ⟨_, _, rfl, rfl, zipC_true (Nat.eq_of_beq_eq_true h)⟩), rfl⟩
    · exact ⟨.inl rfl, rfl⟩
  · exact ⟨.inl rfl, rfl⟩
theorem mergeP_false (x y : PV U) : WkP y (mergeP false x y) ∧ (mergeP false x y).plain = true := by
  unfold mergeP
  split
  · exact ⟨.inr (.inl ⟨_, _, rfl, rfl, mergeC_false _ _⟩), rfl⟩
  · simp only [Bool.cond_eq_ite]
    split
    · rename_i h
      exact ⟨.inr (.inr ⟨_, _, rfl, rfl, zipC_false (Nat.eq_of_beq_eq_true h)⟩), rfl⟩
    · exact ⟨.inl rfl, rfl⟩
  · exact ⟨.inl rfl, rfl⟩

theorem mergeO_true {x y z : Ob U} (h : mergeO true x y = some z) : WkO x z := by
  unfold mergeO at h
  split at h
  · simp only [Bool.cond_eq_ite] at h
    split at h
    · rename_i hc
      cases h
      exact .inr ⟨_, _, _, rfl, rfl, zipC_true (beq2 hc).2⟩
    · cases h
  · simp only [Bool.cond_eq_ite] at h
    split at h
    · split at h
      · rename_i hd
        have := mergeD_true hd
        simp only [Sigma.mk.injEq, Ty.slice.injEq] at this
        obtain ⟨⟨rfl, rfl⟩, h2⟩ := this
        have h2 := eq_of_heq h2
        subst h2
        cases h
        exact .inl rfl
      · cases h
    · cases h
  · split at h
    · rename_i hd
      have := mergeD_true hd
      simp only [Sigma.mk.injEq, Ty.map.injEq] at this
      obtain ⟨⟨rfl, rfl⟩, h2⟩ := this
      have h2 := eq_of_heq h2
      subst h2
      cases h
      exact .inl rfl
    · cases h
  · cases h
    exact .inl rfl
  · cases h
theorem mergeO_false {x y z : Ob U} (h : mergeO false x y = some z) : WkO y z := by
  unfold mergeO at h
  split at h
  · simp only [Bool.cond_eq_ite] at h
    split at h
    · rename_i hc
      cases h
      have := (beq2 hc).1
      subst this
      exact .inr ⟨_, _, _, rfl, rfl, zipC_false (beq2 hc).2⟩
    · cases h
  · simp only [Bool.cond_eq_ite] at h
    split at h
    · rename_i hc
      simp only [Bool.and_eq_true, beq_iff_eq] at hc
      obtain ⟨h1, rfl⟩ := hc
      have h1 := Nat.eq_of_beq_eq_true h1
      subst h1
      split at h
      · rename_i hd
        have := mergeD_false hd
        simp only [Sigma.mk.injEq, Ty.slice.injEq] at this
        obtain ⟨⟨rfl, rfl⟩, h2⟩ := this
        have h2 := eq_of_heq h2
        subst h2
        cases h
        exact .inl rfl
      · cases h
    · cases h
  · split at h
    · rename_i hd
      have := mergeD_false hd
      simp only [Sigma.mk.injEq, Ty.map.injEq] at this
      obtain ⟨⟨rfl, rfl⟩, h2⟩ := this
      have h2 := eq_of_heq h2
      subst h2
      cases h
      exact .inl rfl
    · cases h
  · cases h
    exact .inl rfl
  · cases h

theorem mergeH_true : ∀ {x y z : Obs U}, mergeH true x y = some z → (∀ id o', look id z = some o' → ∃ o, look id x = some o ∧ WkO o o') ∧ ∀ id o, look id x = some o → ∃ o', look id z = some o' ∧ WkO o o'
  | [], [], z, h => by cases h; exact ⟨fun _ _ h => (by cases h), fun _ _ h => (by cases h)⟩
  | (k, x) :: r, (k', y) :: r', z, h => by
    simp only [mergeH, Bool.cond_eq_ite] at h
    split at h
    · split at h
      · rename_i o ho
        split at h
        · rename_i q hq
          cases h
          obtain ⟨h1, h2⟩ := mergeH_true hq
          have hw := mergeO_true ho
          refine ⟨fun id o' hl => ?_, fun id o' hl => ?_⟩
          · simp only [look] at hl ⊢
            split at hl
            · rename_i hk; cases hl; rw [if_pos hk]; exact ⟨x, rfl, hw⟩
            · rename_i hk; rw [if_neg hk]; exact h1 id o' hl
          · simp only [look] at hl ⊢
            split at hl
            · rename_i hk; cases hl; rw [if_pos hk]; exact ⟨o, rfl, hw⟩
            · rename_i hk; rw [if_neg hk]; exact h2 id o' hl
        · cases h
      · cases h
    · cases h
  | [], _ :: _, z, h => by cases h
  | _ :: _, [], z, h => by cases h
theorem mergeH_false : ∀ {x y z : Obs U}, mergeH false x y = some z → (∀ id o', look id z = some o' → ∃ o, look id y = some o ∧ WkO o o') ∧ ∀ id o, look id y = some o → ∃ o', look id z = some o' ∧ WkO o o'
  | [], [], z, h => by cases h; exact ⟨fun _ _ h => (by cases h), fun _ _ h => (by cases h)⟩
  | (k, x) :: r, (k', y) :: r', z, h => by
    simp only [mergeH, Bool.cond_eq_ite] at h
    split at h
    · rename_i hkk
      have hkk := Nat.eq_of_beq_eq_true hkk
      subst hkk
      split at h
      · rename_i o ho
        split at h
        · rename_i q hq
          cases h
          obtain ⟨h1, h2⟩ := mergeH_false hq
          have hw := mergeO_false ho
          refine ⟨fun id o' hl => ?_, fun id o' hl => ?_⟩
          · simp only [look] at hl ⊢
            split at hl
            · rename_i hk; cases hl; rw [if_pos hk]; exact ⟨y, rfl, hw⟩
            · rename_i hk; rw [if_neg hk]; exact h1 id o' hl
          · simp only [look] at hl ⊢
            split at hl
            · rename_i hk; cases hl; rw [if_pos hk]; exact ⟨o, rfl, hw⟩
            · rename_i hk; rw [if_neg hk]; exact h2 id o' hl
        · cases h
      · cases h
    · cases h
  | [], _ :: _, z, h => by cases h
  | _ :: _, [], z, h => by cases h

theorem mergeS_look {t : Bool} {k : Nat} {p : PV U} : ∀ {x σ : List (Nat × PV U)}, look k (mergeS t x σ) = some p → ∃ a b, look k x = some a ∧ look k σ = some b ∧ p = mergeP t a b
  | [], σ, h => by cases h
  | (j, a) :: r, σ, h => by
    simp only [mergeS] at h
    by_cases hjk : Nat.beq j k = true
    · have e := Nat.eq_of_beq_eq_true hjk
      subst e
      split at h
      · rename_i b hb
        simp only [look] at h ⊢
        rw [if_pos hjk] at h ⊢
        cases h
        exact ⟨a, b, rfl, hb, rfl⟩
      · rename_i hb
        obtain ⟨a', b', _, h2, _⟩ := mergeS_look h
        rw [hb] at h2; cases h2
    · simp only [look, hjk, Bool.false_eq_true, if_false]
      split at h
      · simp only [look] at h
        rw [if_neg hjk] at h
        exact mergeS_look h
      · exact mergeS_look h

theorem merge_rel {tmps : Array Value} {t : Bool} {ids : List Nat} {a b m : St U} (h : St.merge t ids a b = some m) (R : if t = true then Rel F n β a tmps w else Rel F n β b tmps w) : Rel F n β m tmps w ∧ OptIn (fun _ => False) m.σ := by
  unfold St.merge at h
  dsimp only at h
  split at h
  · rename_i q hq
    cases h
    refine ⟨?_, fun k gs p hl => ?_⟩
    · cases t with
      | true =>
        obtain ⟨Ra, _⟩ := keep_rel (show Rel F n β a tmps w from R) (keys0 a.σ) ids
        obtain ⟨h1, h2⟩ := mergeH_true hq
        exact Wk.rel ⟨fun k p hl => by
          obtain ⟨x, y, q1, q2, rfl⟩ := mergeS_look hl
          exact ⟨x, q1, (mergeP_true x y).1⟩, h1, h2⟩ Ra
      | false =>
        obtain ⟨Rb, _⟩ := keep_rel (show Rel F n β b tmps w from R) (keys0 b.σ) ids
        obtain ⟨h1, h2⟩ := mergeH_false hq
        exact Wk.rel ⟨fun k p hl => by
          obtain ⟨x, y, q1, q2, rfl⟩ := mergeS_look hl
          exact ⟨y, q2, (mergeP_false x y).1⟩, h1, h2⟩ Rb
    · obtain ⟨x, y, _, _, hp⟩ := mergeS_look hl
      have : (mergeP t x y).plain = true := by
        cases t with
        | true => exact (mergeP_true x y).2
        | false => exact (mergeP_false x y).2
      rw [← hp] at this
      cases this
  · cases h

theorem conjO_spec {p q : Option Prop} (h : holds (conjO p q)) : holds p ∧ holds q := by
  cases p <;> cases q <;> simp_all [conjO, holds]
theorem impO_spec {b : Prop} {p : Option Prop} (h : holds (impO b p)) (hb : b) : holds p := by
  cases p <;> simp_all [impO, holds]
theorem thenO_spec {p : Option Prop} {q : Prop} (h : thenO p q) : holds p ∧ q := by
  cases p <;> simp_all [thenO, holds]

theorem pureObl_spec {Qp : PanV U → Prop} {ms : Option (List Nat)} {q : Prop} : ∀ {xs : List (Wr U)} {p : Option Prop} (i : Nat), pureObl xs = some p → holds p → q → facts xs (obls Qp ms xs i [] q) ∧ obls Qp ms xs i [] q
  | [], p, i, h, hp, hq => ⟨hq, hq⟩
  | x :: r, p, i, h, hp, hq => by
    simp only [pureObl] at h
    split at h
    · rename_i p' h1 h2 h3
      cases h
      obtain ⟨hx, hr⟩ := conjO_spec hp
      obtain ⟨_, ho⟩ := pureObl_spec (Qp := Qp) (ms := ms) (i + 1) h3 hr hq
      have hob : obls Qp ms (x :: r) i [] q := by
        simp only [obls, h1]
        cases hxo : x.obl with
        | none => exact ho
        | some y => rw [hxo] at hx; exact ⟨hx, ho⟩
      refine ⟨?_, hob⟩
      have hf : ∀ {ys : List (Wr U)} {p : Option Prop} {z : Prop}, pureObl ys = some p → z → facts ys z := by
        intro ys
        induction ys with
        | nil => exact fun _ hz => hz
        | cons y ys ih =>
          intro p z hp hz
          simp only [pureObl] at hp
          split at hp
          · rename_i p2 g1 g2 g3
            simp only [facts, g2]
            exact ih g3 hz
          · cases hp
      simp only [facts, h2]
      exact hf h3 hob
    · cases h

theorem regS_ok {X id : Nat} {d : Bool} {ops : List Oper} {s s1 : St U} {p : Option Prop} (h : regS E X d ops s = some (p, s1)) (hp : holds p) (Qp : PanV U → St U → Prop) : region E X id d ops s Qp (fun s' => s' = s1) := by
  unfold regS at h
  split at h
  · rename_i xs s' hr
    simp only [Bool.cond_eq_ite] at h
    split at h
    · rename_i hc
      split at h
      · rename_i p' hpo
        cases h
        unfold region
        rw [hr]
        dsimp only [leafs]
        rw [hc]
        exact (pureObl_spec 0 hpo hp rfl).1
      · cases h
    · cases h
  · cases h

theorem runS_sound {Y : Fr} {ro : Option Nat} (hE : E.Fits) (hG : E.Sound Y) (hY : Inside Y F E.yl) (hFG : F.G = E.G) (hm : E.P.follows .mixedOrders = true) (X : Nat) : ∀ (c : Code) (s : St U) (p : Option Prop) (s1 : St U), runS E X c s = some (p, s1) → holds p → okCode n c = true →
    ∀ (β : Nm) (a : Act) (w : World), Rel F n β s a.tmps w → OptIn (fun _ => False) s.σ → ∀ Q : Exit → Act → World → Prop,
      (∀ β' a' w', Rel F n β' s1 a'.tmps w' → OptIn (fun _ => False) s1.σ → a'.defers = a.defers → Q .normal a' w') → c.wpIn (fen E.P ro) 0 E.P Q a w
  | .skip, s, p, s1, h, hp, ok, β, a, w, R, hO, Q, hQ => by
    cases h
    exact wpIn_skip (hQ β a w R hO rfl)
  | .region id ops d, s, p, s1, h, hp, ok, β, a, w, R, hO, Q, hQ => by
    have hw : wpc E X (fun _ _ => ⟨[], [], [], fun _ => False, fun _ => 0, []⟩) (.region id ops d) 0 s (fun way s' => way = .normal ∧ s' = s1) := by
      simp only [runS] at h
      split at h
      · cases h
      · rename_i hn
        simp only [wpc]
        rw [hn]
        cases hc : (!d && (noGuards ops.toList && hoists ops.toList)) with
        | true =>
          rw [hc] at h
          have := regS_ok (id := id) h hp (fun _ _ => False)
          simp only [cond_true, true_and]
          exact this
        | false =>
          rw [hc] at h
          have := regS_ok (id := id) h hp (fun v s' => (Way.panic v : Way U) = .normal ∧ s' = s1)
          simp only [cond_false, true_and]
          exact this
    refine wpcR_sound hE hG hY hFG hm X _ 0 s _ ok hw β a w R hO Q (fun way e s' β' a' w' he h1 R' hO' hd => ?_)
    obtain ⟨rfl, rfl⟩ := h1
    have he : e = .normal := he
    subst he
    exact hQ β' a' w' R' hO' hd
  | .seq c d, s, p, s1, h, hp, ok, β, a, w, R, hO, Q, hQ => by
    simp only [okCode, Bool.and_eq_true] at ok
    simp only [runS] at h
    split at h
    · rename_i p1 s2 h1
      split at h
      · rename_i p2 s3 h2
        cases h
        obtain ⟨g1, g2⟩ := conjO_spec hp
        exact wpIn_seq (runS_sound hE hG hY hFG hm X c s p1 s2 h1 g1 ok.1 β a w R hO _ (fun β' a' w' R' hO' hd => runS_sound hE hG hY hFG hm X d s2 p2 s1 h2 g2 ok.2 β' a' w' R' hO' Q (fun β2 a2 w2 R2 hO2 hd2 => hQ β2 a2 w2 R2 hO2 (hd2.trans hd))))
      · cases h
    · cases h
  | .cond x c d, s, p, s1, h, hp, ok, β, a, w, R, hO, Q, hQ => by
    simp only [okCode, Bool.and_eq_true] at ok
    simp only [runS] at h
    split at h
    · rename_i t ht
      split at h
      · rename_i p1 s2 h1
        split at h
        · rename_i p2 s3 h2
          split at h
          · rename_i m hmg
            cases h
            obtain ⟨g1, g2⟩ := conjO_spec hp
            have hev := ev_rel R x
            rw [ht] at hev
            refine wpIn_cond_split hev.bool (fun hb => ?_) (fun hb => ?_)
            · refine runS_sound hE hG hY hFG hm X c s p1 s2 h1 (impO_spec g1 hb) ok.1 β a w R hO Q (fun β' a' w' R' hO' hd => ?_)
              obtain ⟨R2, hO2⟩ := merge_rel hmg (by rw [if_pos hb]; exact R')
              exact hQ β' a' w' R2 hO2 hd
            · refine runS_sound hE hG hY hFG hm X d s p2 s3 h2 (impO_spec g2 hb) ok.2 β a w R hO Q (fun β' a' w' R' hO' hd => ?_)
              obtain ⟨R2, hO2⟩ := merge_rel hmg (by rw [if_neg (by rw [hb]; simp)]; exact R')
              exact hQ β' a' w' R2 hO2 hd
          · cases h
        · cases h
      · cases h
    · cases h
  | .scope c, s, p, s1, h, hp, ok, β, a, w, R, hO, Q, hQ => wpIn_scope (runS_sound hE hG hY hFG hm X c s p s1 h hp ok β a w R hO _ (fun β' a' w' R' hO' hd => hQ β' a' w' R' hO' hd))
  | .block id c, s, p, s1, h, hp, ok, β, a, w, R, hO, Q, hQ => wpIn_block (runS_sound hE hG hY hFG hm X c s p s1 h hp ok β a w R hO _ (fun β' a' w' R' hO' hd => hQ β' a' w' R' hO' hd))
  | .loop _, _, _, _, h, _, _, _, _, _, _, _, _, _ => by cases h
  | .exit _, _, _, _, h, _, _, _, _, _, _, _, _, _ => by cases h
  | .ret, _, _, _, h, _, _, _, _, _, _, _, _, _ => by cases h
  | .label _, _, _, _, h, _, _, _, _, _, _, _, _, _ => by cases h
  | .goto _, _, _, _, h, _, _, _, _, _, _, _, _, _ => by cases h
  | .rangeFunc .., _, _, _, h, _, _, _, _, _, _, _, _, _ => by cases h
  | .refuse _, _, _, _, h, _, _, _, _, _, _, _, _, _ => by cases h

theorem wpc_sound0 {Y : Fr} {ro : Option Nat} (hE : E.Fits) (hG : E.Sound Y) (hY : Inside Y F E.yl) (hFG : F.G = E.G) (hm : E.P.follows .mixedOrders = true) (X : Nat) (L : Nat → St U → Ann U) : ∀ (c : Code) (k : Nat) (s : St U) (Q' : Way U → St U → Prop), okCode n c = true → noRF c = true → wpc E X L c k s Q' →
    ∀ (β : Nm) (a : Act) (w : World), Rel F n β s a.tmps w → OptIn (fun _ => False) s.σ → ∀ Q : Exit → Act → World → Prop,
      (∀ way e s' β' a' w', ExitIs way e → Q' way s' → Rel F n β' s' a'.tmps w' → OptIn (fun _ => False) s'.σ → a'.defers = a.defers → Q e a' w') → c.wpIn (fen E.P ro) 0 E.P Q a w
  | .skip, k, s, Q', ok, nr, h, β, a, w, R, hO, Q, hQ => wpIn_skip (hQ .normal _ s β a w rfl h R hO rfl)
  | .region id ops drawn, k, s, Q', ok, nr, h, β, a, w, R, hO, Q, hQ => wpcR_sound hE hG hY hFG hm X L k s Q' ok h β a w R hO Q hQ
  | .seq c d, k, s, Q', ok, nr, h, β, a, w, R, hO, Q, hQ => by
    simp only [okCode, Bool.and_eq_true] at ok
    simp only [noRF, Bool.and_eq_true] at nr
    refine wpIn_seq (wpc_sound0 hE hG hY hFG hm X L c k s _ ok.1 nr.1 h β a w R hO _ (fun way e s' β' a' w' he h1 R' hO' hd => ?_))
    cases way with
    | normal =>
      have he : e = .normal := he
      subst he
      exact wpc_sound0 hE hG hY hFG hm X L d _ s' Q' ok.2 nr.2 h1 β' a' w' R' hO' Q (fun way2 e2 s2 β2 a2 w2 q0 q1 q2 q3 q4 => hQ way2 e2 s2 β2 a2 w2 q0 q1 q2 q3 (q4.trans hd))
    | exit id =>
      have he' : e = .exit id := he
      subst he'
      exact hQ (.exit id) _ s' β' a' w' rfl h1 R' hO' hd
    | ret =>
      have he' : e = .ret := he
      subst he'
      exact hQ .ret _ s' β' a' w' rfl h1 R' hO' hd
    | panic v =>
      obtain ⟨u, h2, rfl⟩ := he
      exact hQ (.panic v) _ s' β' a' w' ⟨u, h2, rfl⟩ h1 R' hO' hd
  | .cond x c d, k, s, Q', ok, nr, h, β, a, w, R, hO, Q, hQ => by
    simp only [wpc] at h
    split at h
    · rename_i p s' hrun
      cases hmg : (E.mg && simpleC (.cond x c d)) with
      | false => rw [hmg] at hrun; cases hrun
      | true =>
        rw [hmg] at hrun
        obtain ⟨hp, hq⟩ := thenO_spec h
        exact runS_sound hE hG hY hFG hm X (.cond x c d) s p s' hrun hp ok β a w R hO Q (fun β' a' w' h1 h2 h3 => hQ .normal _ _ β' a' w' rfl hq h1 h2 h3)
    simp only [okCode, Bool.and_eq_true] at ok
    simp only [noRF, Bool.and_eq_true] at nr
    split at h
    · rename_i t ht
      have hev := ev_rel R x
      rw [ht] at hev
      exact wpIn_cond_split hev.bool (fun hb => wpc_sound0 hE hG hY hFG hm X L c k s Q' ok.1 nr.1 (h.1 hb) β a w R hO Q hQ) (fun hb => wpc_sound0 hE hG hY hFG hm X L d _ s Q' ok.2 nr.2 (h.2 hb) β a w R hO Q hQ)
    · exact h.elim
  | .block id c, k, s, Q', ok, nr, h, β, a, w, R, hO, Q, hQ => by
    refine wpIn_block (wpc_sound0 hE hG hY hFG hm X L c k s _ ok nr h β a w R hO _ (fun way e s' β' a' w' he h1 R' hO' hd => ?_))
    cases way with
    | normal =>
      have he' : e = .normal := he
      subst he'
      exact hQ .normal _ s' β' a' w' rfl h1 R' hO' hd
    | ret =>
      have he' : e = .ret := he
      subst he'
      exact hQ .ret _ s' β' a' w' rfl h1 R' hO' hd
    | panic v =>
      obtain ⟨u, h2, rfl⟩ := he
      exact hQ (.panic v) _ s' β' a' w' ⟨u, h2, rfl⟩ h1 R' hO' hd
    | exit id' =>
      have he' : e = .exit id' := he
      subst he'
      simp only at h1
      show if id' = id then Q .normal a' w' else Q (.exit id') a' w'
      by_cases hid : id' = id
      · rw [if_pos hid]
        rw [if_pos (by rw [hid]; exact Nat.beq_refl id)] at h1
        exact hQ .normal _ s' β' a' w' rfl h1 R' hO' hd
      · rw [if_neg hid]
        rw [if_neg (by rw [beq_no hid]; simp)] at h1
        exact hQ (.exit id') _ s' β' a' w' rfl h1 R' hO' hd
  | .loop c, k, s, Q', ok, nr, h, β, a, w, R, hO, Q, hQ => by
    have nr : noRF c = true := nr
    simp only [wpc, nr, Bool.not_true, cond_false] at h
    generalize L k s = A at h
    obtain ⟨β, R, hO⟩ := promotes_rel (l := A.nils) R hO
    generalize promotes s A.nils = s at h R hO
    obtain ⟨⟨p0, he0⟩, hround⟩ := h
    obtain ⟨hk0, hi0⟩ := eqSt_spec he0
    obtain ⟨R0, hO0⟩ := keep_rel R (keptSlots s c A) (keys s.h)
    generalize hs0 : s.keep (keptSlots s c A) (keys s.h) = s0 at hk0 hround R0 hO0
    refine wp_loop_by (α := Dens U.T A.tys) (fun p a' w' => ∃ β', Rel F n β' (setAll s0 A.at_ (toList U A.tys p)) a'.tmps w' ∧ OptIn (fun _ => False) (setAll s0 A.at_ (toList U A.tys p)).σ ∧ A.inv p ∧ a'.defers = a.defers) A.μ (p0 := p0) ⟨β, by rw [← hk0]; exact R0, by rw [← hk0]; exact hO0, hi0, rfl⟩ ?_
    rintro p a1 w1 ⟨β1, R1, hO1, hi1, hd1⟩
    refine wpc_sound0 hE hG hY hFG hm X L c (k + 1) _ _ ok nr (hround p hi1) β1 a1 w1 R1 hO1 _ (fun way e s' β' a' w' he h1 R' hO' hd => ?_)
    cases way with
    | normal =>
      have he' : e = .normal := he
      subst he'
      obtain ⟨p', he'⟩ := h1
      obtain ⟨hk', hi', hμ⟩ := eqSt_spec he'
      obtain ⟨R2, hO2⟩ := keep_rel R' (keptSlots s c A) (keys s.h)
      exact ⟨p', ⟨β', by rw [← hk']; exact R2, by rw [← hk']; exact hO2, hi', hd.trans hd1⟩, hμ⟩
    | exit id =>
      have he' : e = .exit id := he
      subst he'
      exact hQ (.exit id) _ s' β' a' w' rfl h1 R' hO' (hd.trans hd1)
    | ret =>
      have he' : e = .ret := he
      subst he'
      exact hQ .ret _ s' β' a' w' rfl h1 R' hO' (hd.trans hd1)
    | panic v =>
      obtain ⟨u, h2, rfl⟩ := he
      exact hQ (.panic v) _ s' β' a' w' ⟨u, h2, rfl⟩ h1 R' hO' (hd.trans hd1)
  | .exit id, k, s, Q', ok, nr, h, β, a, w, R, hO, Q, hQ => wpIn_exit (hQ (.exit id) _ s β a w rfl h R hO rfl)
  | .ret, k, s, Q', ok, nr, h, β, a, w, R, hO, Q, hQ => wpIn_ret (hQ .ret _ s β a w rfl h R hO rfl)
  | .label _, k, s, Q', ok, nr, h, β, a, w, R, hO, Q, hQ => wpIn_label (hQ .normal _ s β a w rfl h R hO rfl)
  | .goto _, k, s, Q', ok, nr, h, _, _, _, _, _, _, _ => h.elim
  | .scope c, k, s, Q', ok, nr, h, β, a, w, R, hO, Q, hQ => by
    refine wpIn_scope (wpc_sound0 hE hG hY hFG hm X L c k s Q' ok nr h β a w R hO _ (fun way e s' β' a' w' he h1 R' hO' hd => ?_))
    have hq := hQ way e s' β' a' w' he h1 R' hO' hd
    cases way with
    | normal => have he' : e = .normal := he; subst he'; exact hq
    | ret => have he' : e = .ret := he; subst he'; exact hq
    | exit id => have he' : e = .exit id := he; subst he'; exact hq
    | panic v => obtain ⟨u, h2, rfl⟩ := he; exact hq
  | .rangeFunc .., k, s, Q', ok, nr, h, _, _, _, _, _, _, _ => by simp [noRF] at nr

end
end Go.VT
end

section
set_option linter.unusedVariables false
set_option linter.unusedSimpArgs false
namespace Go.VT
noncomputable section
open Go.RowKit
variable {U : Univ} {E : Env U} {F : Fr} {n : Nat} {β : Nm} {s s' : St U} {a : Act} {w : World} {h : Obs U}

theorem pack_length : ∀ {gs : List (Bool × Nat)} {cs vs : List Value}, PackVals gs cs vs → vs.length = gs.length
  | [], cs, vs, hp => by obtain ⟨_, rfl⟩ := hp; rfl
  | (true, k) :: gs, cs, vs, hp => by
    obtain ⟨a, r, v', vs', _, _, _, rfl, hr⟩ := hp
    simp [pack_length hr]
  | (false, k) :: gs, cs, vs, hp => by
    obtain ⟨c, r, vs', _, _, rfl, hr⟩ := hp
    simp [pack_length hr]

def pvOf : Bool × List (Cell U) → PV U
  | (true, cs) => .agg cs
  | (false, [c]) => .one c
  | _ => .un

theorem start_look {t : Nat} {p : PV U} : ∀ {gs : List (Bool × List (Cell U))} {i : Nat}, look t (start gs i) = some p → i ≤ t ∧ ∃ x, gs[t - i]? = some x ∧ p = pvOf x
  | [], i, h => by simp [start, look] at h
  | (b, cs) :: r, i, h => by
    simp only [start, look] at h
    split at h
    · rename_i hb
      have hb := Nat.eq_of_beq_eq_true hb
      subst hb
      simp only [Option.some.injEq] at h
      refine ⟨Nat.le_refl _, (b, cs), by simp, ?_⟩
      rw [← h]
      cases b with
      | true => rfl
      | false =>
        match cs with
        | [] => rfl
        | [c] => rfl
        | _ :: _ :: _ => rfl
    · obtain ⟨h1, x, h2, h3⟩ := start_look h
      exact ⟨by omega, x, by rw [show t - i = (t - (i + 1)) + 1 by omega]; simpa using h2, h3⟩

theorem start_rel {σ : List (Nat × PV U)} {gs : List (Bool × Nat)} {cs : List (Cell U)} {us vs : List Value} {t : Nat} {p : PV U} (hp : PackVals gs us vs) (hc : CsRel w β h cs us) (hl : look t (start (takeGroups gs cs) 0) = some p) :
    ∃ v, vs[t]? = some v ∧ PRel w β h σ p v ∧ p.plain = true := by
  obtain ⟨h1, x, h2, h3⟩ := start_look hl
  rw [Nat.sub_zero] at h2
  obtain ⟨g1, g2⟩ := groups_rel (σ := σ) hp hc
  have htl : t < vs.length := by
    rw [g1, ← takeGroups_length gs cs]
    exact (List.getElem?_eq_some_iff.1 h2).1
  have hv := List.getElem?_eq_getElem htl
  refine ⟨vs[t], hv, ?_, ?_⟩
  · have := g2 t x _ h2 hv
    rw [h3]
    obtain ⟨b, cs'⟩ := x
    cases b with
    | true => exact this
    | false =>
      match cs', this with
      | [], this => trivial
      | [c], this => exact this
      | _ :: _ :: _, _ => trivial
  · rw [h3]
    obtain ⟨b, cs'⟩ := x
    cases b with
    | true => rfl
    | false =>
      match cs' with
      | [] => rfl
      | [c] => rfl
      | _ :: _ :: _ => rfl

theorem run_results {fn : Func} {tmps : Array Value} {vs : List (PV U)} (hv : resVals E.P s fn.results.toList = some vs) (R : Rel F n β s tmps w) :
    ∃ us : List Value, (results fn tmps).run E.P w = .ok (match us with | [v] => v | _ => .tuple us.toArray) w ∧ us.length = vs.length ∧ ∀ (j : Nat) (p : PV U) (u : Value), vs[j]? = some p → us[j]? = some u → PRel w β s.h s.σ p u := by
  have key : ∀ (l : List ResultVar) (vs : List (PV U)), resVals E.P s l = some vs → ∃ us : List Value, (l.mapM fun (x : ResultVar) => (match x with
      | .tmp t => pure (tmps.getD t undef)
      | .cell a t => do loadVar t (← asAddr (tmps.getD a undef)) : Sem Value)).run E.P w = .ok us w ∧ us.length = vs.length ∧ ∀ (j : Nat) (p : PV U) (u : Value), vs[j]? = some p → us[j]? = some u → PRel w β s.h s.σ p u := by
    intro l
    induction l with
    | nil =>
      intro vs h
      simp only [resVals, Option.some.injEq] at h
      subst h
      exact ⟨[], by simp, rfl, by simp⟩
    | cons x r ih =>
      intro vs h
      cases x with
      | tmp t =>
        simp only [resVals, Option.map_eq_some_iff] at h
        obtain ⟨vs', h1, rfl⟩ := h
        obtain ⟨us, h2, h3, h4⟩ := ih vs' h1
        refine ⟨tmps.getD t undef :: us, ?_, by simp [h3], fun j p u hp hu => ?_⟩
        · simp only [List.mapM_cons, Sem.run_bind, Sem.run_pure, Result.andThen_ok, h2]
        · match j, hp, hu with
          | 0, hp, hu =>
            simp only [List.getElem?_cons_zero, Option.some.injEq] at hp hu
            subst hp; subst hu
            simp only [ev]
            cases hl : look t s.σ with
            | none => trivial
            | some q => exact R.tmp t q hl
          | j + 1, hp, hu => exact h4 j p u (by simpa using hp) (by simpa using hu)
      | cell a t =>
        simp only [resVals] at h
        split at h
        case h_2 => cases h
        rename_i id off hp
        split at h
        case h_2 => cases h
        rename_i e cs hb
        split at h
        case h_2 => cases h
        rename_i v hpk
        simp only [Option.map_eq_some_iff] at h
        obtain ⟨vs', h1, rfl⟩ := h
        obtain ⟨us, h2, h3, h4⟩ := ih vs' h1
        have hptr : PRel w β s.h s.σ (.one (.ptr id off)) (tmps.getD a undef) := by
          rw [← hp]
          simp only [ev]
          cases hl : look a s.σ with
          | none => trivial
          | some q => exact R.tmp a q hl
        obtain ⟨_, _, g, hb2, hβ, hv2⟩ := hptr.inv.2
        obtain ⟨g', cur, q1, q2, q3, q4⟩ := R.obj id _ hb
        rw [hβ] at q1
        simp only [Value.pointer.injEq, Option.some.injEq, Addr.mk.injEq, and_true] at q1
        subst q1
        obtain ⟨u, hu, hru⟩ := load_at (E := E) hpk (q4.drop off) (g := g) (q := off) (fun j v hj => by
          rw [List.getElem?_drop] at hj
          simp [World.cell?, q3, ← Array.getElem?_toList, hj])
        refine ⟨u :: us, ?_, by simp [h3], fun j p u' hp hu' => ?_⟩
        · have has : (asAddr (tmps.getD a undef)).run E.P w = .ok ⟨g, off, none⟩ w := by rw [hv2]; rfl
          simp only [List.mapM_cons, Sem.run_bind, Sem.run_pure, has, Result.andThen_ok, hu, h2]
        · match j, hp, hu' with
          | 0, hp, hu' =>
            simp only [List.getElem?_cons_zero, Option.some.injEq] at hp hu'
            subst hp; subst hu'
            exact hru
          | j + 1, hp, hu' => exact h4 j p u' (by simpa using hp) (by simpa using hu')
  obtain ⟨us, h1, h2, h3⟩ := key _ _ hv
  refine ⟨us, ?_, h2, h3⟩
  unfold results
  simp only [Array.mapM_eq_mapM_toList, bind_map_left, Sem.run_bind]
  refine (congrArg (fun r : Result (List Value) => r.andThen (fun a w' => Sem.run E.P (pure (if h : a.toArray.size = 1 then a.toArray[0] else Value.tuple a.toArray)) w')) h1).trans ?_
  simp only [Result.andThen_ok, Sem.run_pure]
  match us with
  | [] => rfl
  | [v] => rfl
  | _ :: _ :: _ => simp

theorem nilFix_spec (K : Con U) : ∀ {ps : List CPat} {cs : List (Cell U)} {i : Nat} {h : Obs U} {β : Nm} {us : List Value}, Ok F w β h → CsRel w β h cs us → ∃ β', Ok F w β' (nilFix K ps cs i h).2 ∧ Ext w β h w β' (nilFix K ps cs i h).2 ∧ CsRel w β' (nilFix K ps cs i h).2 (nilFix K ps cs i h).1 us
  | [], cs, i, h, β, us, k, hc => ⟨β, k, Ext.refl _ _ _, hc⟩
  | _ :: _, [], i, h, β, us, k, hc => ⟨β, k, Ext.refl _ _ _, hc⟩
  | p :: ps, c :: cs, i, h, β, us, k, hc => by
    match us, hc.1 with
    | u :: us, _ =>
    have hu1 : u.oneCell' = true := hc.2.1 u (by simp)
    have hcu : CRel w β h c u := hc.2.2 0 c u rfl rfl
    have hc' : CsRel w β h cs us := hc.drop 1
    have cons : ∀ {β' : Nm} {h' : Obs U} {c' : Cell U} {cs' : List (Cell U)}, CRel w β' h' c' u → CsRel w β' h' cs' us → CsRel w β' h' (c' :: cs') (u :: us) := by
      intro β' h' c' cs' h1 h2
      refine ⟨by simp [h2.1], fun v hv => hc.2.1 v hv, fun j d v hd hv => ?_⟩
      match j, hd, hv with
      | 0, hd, hv =>
        simp only [List.getElem?_cons_zero, Option.some.injEq] at hd hv
        subst hd; subst hv
        exact h1
      | j + 1, hd, hv => exact h2.2.2 j d v (by simpa using hd) (by simpa using hv)
    cases hn : nil1 K p c i h with
    | none =>
      simp only [nilFix, hn]
      obtain ⟨β', k', x', c'⟩ := nilFix_spec K (ps := ps) (i := i + 1) k hc'
      exact ⟨β', k', x', cons (x'.cell hcu) c'⟩
    | some h1 =>
      simp only [nilFix, hn]
      unfold nil1 at hn
      split at hn
      case h_2 => cases hn
      rename_i j
      split at hn
      case h_2 => cases hn
      rename_i q hq
      split at hn
      case h_2 => cases hn
      rename_i e t ht
      split at hn
      case h_2 => cases hn
      rename_i hf
      simp only [Option.some.injEq] at hn
      subst hn
      have A := new_nil k hf e t
      have huv : u = .slice none 0 0 := hcu
      have hrow : CRel w (upd1 β i (.slice none 0 0)) (write i (.row e t [] 0 true) h) (.row i 0) u :=
        ⟨e, t, [], 0, true, look_write_same _ _ _, Nat.le_refl _, fun _ => by rw [huv]; exact (upd1_same _ _ _).symm⟩
      obtain ⟨β', k', x', c'⟩ := nilFix_spec K (ps := ps) (i := i + 1) A.ok (A.ext.cs hc')
      exact ⟨β', k', A.ext.trans x', cons (x'.cell hrow) c'⟩

end
end Go.VT
end

section
set_option linter.unusedVariables false
set_option linter.unusedSimpArgs false
namespace Go.VT
noncomputable section
open Go.RowKit
variable {U : Univ} {E : Env U} {F : Fr} {n : Nat} {β : Nm} {s s' : St U} {a : Act} {w : World} {h : Obs U}

theorem idsIn_look {n : Nat} : ∀ {c j0 : Nat} {j id : Nat}, look j (idsIn j0 c) = some id → id = oid j ∧ j0 ≤ j ∧ j < j0 + c
  | 0, j0, j, id, h => by simp [idsIn, look] at h
  | c + 1, j0, j, id, h => by
    simp only [idsIn, look] at h
    split at h
    · rename_i hb
      have hb := Nat.eq_of_beq_eq_true hb
      subst hb
      simp only [Option.some.injEq] at h
      exact ⟨h.symm, Nat.le_refl _, by omega⟩
    · obtain ⟨h1, h2, h3⟩ := idsIn_look (n := n) h
      exact ⟨h1, by omega, by omega⟩

theorem idsIn_in : ∀ {c j0 j : Nat}, j0 ≤ j → j < j0 + c → look j (idsIn j0 c) = some (oid j)
  | 0, j0, j, h1, h2 => by omega
  | c + 1, j0, j, h1, h2 => by
    simp only [idsIn, look]
    by_cases h : j0 = j
    · subst h; simp
    · rw [if_neg (by rw [beq_no h]; simp)]
      exact idsIn_in (by omega) (by omega)

theorem matchOut_spec (k : Ok F w β h) {K : Con U} {cs : List (Cell U)} {r : Dens U.T K.tys} {m : Mt U} (hm : matchOut h K cs = some (r, m)) {us : List Value} (hc : CsRel w β h cs us) (hnm : ∀ id v, F.nm id = some v → ∃ j, j < K.oin.length ∧ id = oid j) :
    Ok F w (inner β m β.M) (canon (toList U K.tys r) K.oout) ∧ CsRel w (inner β m β.M) (canon (toList U K.tys r) K.oout) (K.rout.map (iC (toList U K.tys r) oid (fun _ => 0))) us := by
  unfold matchOut at hm
  split at hm
  case h_2 => cases hm
  rename_i m1 h1
  split at hm
  case h_2 => cases hm
  rename_i m2 h2
  simp only [Bool.cond_eq_ite] at hm
  split at hm
  case isFalse => cases hm
  rename_i hcond
  simp only [Bool.and_eq_true, Bool.not_eq_true'] at hcond
  obtain ⟨c1, c3⟩ := hcond
  split at hm
  case h_2 => cases hm
  rename_i ds hds
  split at hm
  case h_2 => cases hm
  rename_i ys hys
  simp only [Option.some.injEq, Prod.mk.injEq] at hm
  obtain ⟨rfl, rfl⟩ := hm
  have hg : ∀ id o, look id h = some o → look id h = some o := fun _ _ hh => hh
  obtain ⟨a1, a2, a3, a4, a5⟩ := mCs_spec hg h1 (fun id o hh => by simp at hh)
  obtain ⟨b1, b2, b3, b4⟩ := mOs_spec hg h2 a2
  have hds2 := ofList_eq hys
  obtain ⟨d1, d2⟩ := gather_spec hds
  have hlt : ∀ j id, look j m2.ι = some id → j < K.oout.length := fun j id hj => Nat.le_of_ble_eq_true (List.all_eq_true.1 c1 _ (look_mem hj))
  have G : Matched F w β h h K.tys K.oout (toList U K.tys ys) m2 := by
    refine ⟨k, hg, b2, b3 (a3 (fun j j' id q1 q2 => ?_)), hlt, fun i p hp => ?_, fun j id hj o ho => ?_, fun i x t ht hx => ?_⟩
    · have e1 := (idsIn_look (n := 0) q1).1
      have e2 := (idsIn_look (n := 0) q2).1
      exact oid_inj (e1.symm.trans e2)
    · obtain ⟨id, o, q1, q2, q3, q4⟩ := b4 i p hp
      exact ⟨id, o, by simpa using q1, q3, q4⟩
    · have : meets (m2.ι.map (·.2)) (keys m2.u) = true := by
        simp only [meets, List.any_eq_true]
        exact ⟨id, List.mem_map.2 ⟨_, look_mem hj, rfl⟩, id, by simp only [keys, List.mem_map]; exact ⟨_, ho, rfl⟩, Nat.beq_refl id⟩
      rw [c3] at this
      cases this
    · rw [← hds2]
      have hil : i < K.tys.length := (List.getElem?_eq_some_iff.1 ht).1
      rw [d2 i hil, Nat.zero_add]
      exact hx
  have hM : ∀ b, β.M b → Live β (upds h m2.u) b := fun b hb => .inl hb
  refine ⟨⟨k.bel, k.hB, fun id o hl => ?_, G.dis, k.frm, fun id o b hl hb => ?_, fun id o b hl hb => ?_, k.Mlt, k.Meq, fun id o v hl hv => ?_, k.nmg, k.glo⟩, G.cells hM a4 (fun i p c hp hcc => (a5 i p c hp hcc).le b1) hc⟩
  · obtain ⟨j, p, q1, q2, q3⟩ := canon_inv hl
    rw [q2, q3]
    exact G.obj hM q1
  · obtain ⟨j, p, q1, q2, q3⟩ := canon_inv hl
    obtain ⟨i, o1, r1, r2, r3⟩ := G.obs j p q1
    rw [q2, inner_v r1] at hb
    exact k.own i o1 b r2 hb
  · obtain ⟨j, p, q1, q2, q3⟩ := canon_inv hl
    obtain ⟨i, o1, r1, r2, r3⟩ := G.obs j p q1
    rw [q2, inner_v r1] at hb
    exact k.Mo i o1 b r2 hb
  · obtain ⟨j, p, q1, q2, q3⟩ := canon_inv hl
    subst q2
    obtain ⟨i, o1, r1, r2, r3⟩ := G.obs j p q1
    obtain ⟨j', hj', hjj⟩ := hnm _ v hv
    have := oid_inj hjj
    subst this
    have hbound : look j m2.ι = some (oid j) := b1.ι _ _ (a1.ι _ _ (idsIn_in (Nat.zero_le _) (by omega)))
    rw [hbound] at r1
    simp only [Option.some.injEq] at r1
    subst r1
    rw [inner_v hbound, inner_lp hbound]
    refine (k.fix (oid j) o1 v r2 hv).imp (fun hr => ?_) (fun hr => hr)
    rw [q3]
    cases p with
    | row q =>
      obtain ⟨e, t, l, ver, rfl, s2, s3⟩ := r3
      have hd := G.dat q _ _ s2 s3
      simp [iO, hd, Ob.isRow]
    | box e ps => obtain ⟨_, rfl, _⟩ := r3; simp [Ob.isRow] at hr
    | map q => obtain ⟨_, _, _, rfl, _⟩ := r3; simp [Ob.isRow] at hr
    | loop q => obtain ⟨_, rfl, _⟩ := r3; simp [Ob.isRow] at hr

theorem pack_res {gs : List (Bool × Nat)} {rs us : List Value} : PackVals gs rs us → PackRes gs rs (match us with | [v] => v | _ => .tuple us.toArray) := by
  intro hpack
  have hlen := pack_length hpack
  unfold PackRes
  split
  · rename_i g
    match us, hlen, hpack with
    | [v], _, hpack => exact hpack
  · rename_i hne
    have : us.length ≠ 1 := by
      rw [hlen]
      intro h1
      match gs, h1, hne with
      | [g], _, hne => exact hne g rfl
    match us, this, hpack with
    | [], _, hpack => exact ⟨[], rfl, hpack⟩
    | [_], h1, _ => exact absurd rfl h1
    | x :: y :: z, _, hpack => exact ⟨_, rfl, hpack⟩

theorem postC_gives {k : Con U} {xs : Dens U.T k.params} {h : Obs U} {cs : List (Cell U)} (hp : postC k xs h cs) (K : Ok F w β h) {rs : List Value} (hcr : CsRel w β h cs rs) (hnm : ∀ id v, F.nm id = some v → ∃ j, j < k.oin.length ∧ id = oid j) :
    (∀ b, k.bad = some b → (b xs).1 = false) ∧ ∃ β', Ok F w β' (canon (toList U k.tys (k.fn xs)) k.oout) ∧
      CsRel w β' (canon (toList U k.tys (k.fn xs)) k.oout) (k.rout.map (iC (toList U k.tys (k.fn xs)) oid (fun _ => 0))) rs := by
  unfold postC at hp
  dsimp only at hp
  split at hp
  case h_2 => exact hp.elim
  rename_i r m hres
  obtain ⟨β', k', x', c'⟩ := nilFix_spec k (ps := k.rout) (i := 999000) K hcr
  obtain ⟨h1, h2⟩ := matchOut_spec k' hres c' hnm
  have hboth : (∀ b, k.bad = some b → (b xs).1 = false) ∧ r = k.fn xs := by
    split at hp
    · rename_i hb
      refine ⟨fun b hb' => ?_, hp⟩
      rw [hb] at hb'
      cases hb'
    · rename_i b hb
      refine ⟨fun b' hb' => ?_, hp.2⟩
      rw [hb] at hb'
      simp only [Option.some.injEq] at hb'
      subst hb'
      exact hp.1
  rw [hboth.2] at h1 h2
  exact ⟨hboth.1, _, h1, h2⟩

theorem post_gives {fn : Func} {k : Con U} {xs : Dens U.T k.params} (hp : post E.P fn k xs s) {tmps : Array Value} (R : Rel F n β s tmps w) (hnm : ∀ id v, F.nm id = some v → ∃ j, j < k.oin.length ∧ id = oid j) :
    ∃ v, (results fn tmps).run E.P w = .ok v w ∧ (∀ b, k.bad = some b → (b xs).1 = false) ∧ ∃ β' rs, Ok F w β' (canon (toList U k.tys (k.fn xs)) k.oout) ∧ PackRes k.res rs v ∧
      CsRel w β' (canon (toList U k.tys (k.fn xs)) k.oout) (k.rout.map (iC (toList U k.tys (k.fn xs)) oid (fun _ => 0))) rs := by
  unfold post at hp
  split at hp
  case h_2 => exact hp.elim
  rename_i vs hvs
  split at hp
  case h_2 => exact hp.elim
  rename_i cs hcs
  obtain ⟨us, hrun, hul, hur⟩ := run_results (E := E) hvs R
  obtain ⟨rs, hpack, hcr⟩ := flatArgs_pack (w := w) (β := β) (h := s.h) (σ := s.σ) (vs := us) hcs hul hur
  obtain ⟨h1, β', h2, h3⟩ := postC_gives hp R.ok hcr hnm
  exact ⟨_, hrun, h1, β', rs, h2, pack_res hpack, h3⟩

theorem eqDs_spec {q : Prop} : ∀ {x y : List (Datum U)}, eqDs x y q → x = y ∧ q
  | [], [], h => ⟨rfl, h⟩
  | [], _ :: _, h => h.elim
  | _ :: _, [], h => h.elim
  | x :: r, y :: r', h => by
    obtain ⟨rfl, h2⟩ := eqD_spec (show eqD x y (eqDs r r' q) from h)
    obtain ⟨rfl, h3⟩ := eqDs_spec h2
    exact ⟨rfl, h3⟩

theorem panEq_spec {a b : PanV U} (h : panEq a b) : a = b := by
  unfold panEq at h
  simp only [Bool.cond_eq_ite] at h
  split at h
  · rename_i hc
    simp only [Bool.and_eq_true, beq_iff_eq] at hc
    obtain ⟨a1, a2, a3⟩ := a
    obtain ⟨b1, b2, b3⟩ := b
    have h1 := Nat.eq_of_beq_eq_true hc.1
    have h2 := hc.2
    have h3 := (eqDs_spec h).1
    simp only at h1 h2 h3
    rw [h1, h2, h3]
  · exact h.elim

theorem smalls_spec {q : Prop} : ∀ {ds : List (Datum U)}, smalls ds q → (∀ d ∈ ds, (∃ e t l, d = ⟨.slice e t, l⟩) → Small U d) → q
  | [], h, _ => h
  | d :: r, h, hs => by
    unfold smalls at h
    split at h
    · rename_i heq; cases heq
    · rename_i heq
      simp only [List.cons.injEq] at heq
      obtain ⟨rfl, rfl⟩ := heq
      exact smalls_spec (h (hs _ (by simp) ⟨_, _, _, rfl⟩)) (fun d hd => hs d (by simp [hd]))
    · rename_i heq
      simp only [List.cons.injEq] at heq
      obtain ⟨rfl, rfl⟩ := heq
      exact smalls_spec h (fun d hd => hs d (by simp [hd]))

theorem datC_mem {k : Nat} : ∀ {ps : List CPat}, k ∈ datC ps → ∃ i : Nat, ps[i]? = some (CPat.d k)
  | [], h => by simp [datC] at h
  | p :: r, h => by
    have more : k ∈ datC r → ∃ i : Nat, (p :: r)[i]? = some (CPat.d k) := fun h => by
      obtain ⟨i, hi⟩ := datC_mem h
      exact ⟨i + 1, by simpa using hi⟩
    cases p with
    | d k' =>
      simp only [datC, List.mem_cons] at h
      rcases h with h | h
      · subst h; exact ⟨0, rfl⟩
      · exact more h
    | _ => exact more h

theorem datO_mem {k : Nat} : ∀ {os : List OPat}, k ∈ datO os → ∃ (i : Nat) (p : OPat), os[i]? = some p ∧ (p = .row k ∨ ∃ e cs, p = .box e cs ∧ k ∈ datC cs)
  | [], h => by simp [datO] at h
  | p :: r, h => by
    have more : k ∈ datO r → ∃ (i : Nat) (q : OPat), (p :: r)[i]? = some q ∧ (q = .row k ∨ ∃ e cs, q = .box e cs ∧ k ∈ datC cs) := fun h => by
      obtain ⟨i, q, hi, hq⟩ := datO_mem h
      exact ⟨i + 1, q, by simpa using hi, hq⟩
    cases p with
    | box e cs =>
      simp only [datO, List.mem_append] at h
      rcases h with h | h
      · exact ⟨0, _, rfl, .inr ⟨e, cs, rfl, h⟩⟩
      · exact more h
    | row k' =>
      simp only [datO, List.mem_cons] at h
      rcases h with h | h
      · subst h; exact ⟨0, _, rfl, .inl rfl⟩
      · exact more h
    | _ => exact more h

theorem pickD_mem {ds : List (Datum U)} {d : Datum U} : ∀ {ks : List Nat}, d ∈ pickD ds ks → ∃ k ∈ ks, ds[k]? = some d
  | [], h => by simp [pickD] at h
  | k :: r, h => by
    simp only [pickD] at h
    split at h
    · rename_i d' hd
      rcases List.mem_cons.1 h with h1 | h1
      · subst h1; exact ⟨k, by simp, hd⟩
      · obtain ⟨k', h2, h3⟩ := pickD_mem h1
        exact ⟨k', by simp [h2], h3⟩
    · obtain ⟨k', h2, h3⟩ := pickD_mem h
      exact ⟨k', by simp [h2], h3⟩

theorem small_cells {ds : List (Datum U)} {ι vr : Nat → Nat} {ps : List CPat} {us : List Value} (hc : CsRel w β h (ps.map (iC ds ι vr)) us) {k : Nat} (hk : k ∈ datC ps) {d : Datum U} (hd : ds[k]? = some d) : Small U d := by
  obtain ⟨i, hi⟩ := datC_mem hk
  have hil : i < us.length := by rw [hc.1, List.length_map]; exact (List.getElem?_eq_some_iff.1 hi).1
  have := hc.2.2 i (iC ds ι vr (.d k)) us[i] (by simp [hi]) (List.getElem?_eq_getElem hil)
  simp only [iC, hd] at this
  exact ⟨_, _, _, this⟩

theorem given_small {k : Con U} {ds : List (Datum U)} (K : Ok F w β (canon ds k.oin)) {us : List Value} (hc : CsRel w β (canon ds k.oin) (k.ain.map (iC ds oid (fun _ => 0))) us) : ∀ d ∈ pickD ds (datC k.ain ++ datO k.oin), (∃ e t l, d = ⟨.slice e t, l⟩) → Small U d := by
  intro d hd hsl
  obtain ⟨q, hq, hdq⟩ := pickD_mem hd
  rcases List.mem_append.1 hq with h1 | h1
  · exact small_cells hc h1 hdq
  · obtain ⟨i, p, hp, hh⟩ := datO_mem h1
    have ho := K.obj _ _ (canon_look (ds := ds) hp)
    rcases hh with rfl | ⟨e, cs, rfl, hcs⟩
    · simp only [iO, hdq] at ho
      obtain ⟨e, t, x, rfl⟩ := hsl
      · have hl : look (oid i) (canon ds k.oin) = some (.row e t x 0 true) := by
          have := canon_look (ds := ds) hp
          simp only [iO, hdq] at this
          exact this
        have ha : asD (canon ds k.oin) (.slice e t) (.row (oid i) 0) = some (⟨.slice e t, x⟩, [(oid i, .row e t x 0 false)]) := by simp [asD, hl]
        have hr := asD_rep' K (fun _ _ hh => hh) ha (v := β (oid i)) ⟨e, t, x, 0, true, hl, Nat.le_refl _, fun _ => rfl⟩ (u' := [(oid i, .row e t x 0 false)]) (fun id o hm => by
          simp only [List.mem_singleton, Prod.mk.injEq] at hm
          obtain ⟨rfl, rfl⟩ := hm
          exact ⟨e, t, x, 0, true, hl, rfl⟩) (fun _ hh => hh)
        exact ⟨_, _, _, hr⟩
    · obtain ⟨b, vs, _, _, _, r4⟩ := ho
      exact small_cells r4 hcs hdq


end
end Go.VT
end

section
set_option linter.unusedVariables false
set_option linter.unusedSimpArgs false
namespace Go.VT
noncomputable section
open Go.RowKit
variable {U : Univ} {E : Env U} {F : Fr} {n : Nat} {β : Nm} {s : St U} {a : Act} {tmps : Array Value} {w : World} {h : Obs U}

structure Sh (w : World) (β : Nm) (h : Obs U) (w' : World) (β' : Nm) (h' : Obs U) : Prop where
  obj : ∀ id o, look id h = some o → look id h' = some o ∧ β' id = β id ∧ β'.lp id = β.lp id
  size : w.heap.size ≤ w'.heap.size
  heap : ∀ b, b < w.heap.size → ¬ Live β h b → w'.heap[b]? = w.heap[b]?
  live : ∀ b, b < w.heap.size → Live β' h' b → Live β h b

section
variable {w' : World} {β' : Nm} {h' : Obs U}
theorem Sh.rep (x : Sh w β h w' β' h') {d : Datum U} {v : Value} (r : Rep U w (Live β h) d v) : Rep U w' (Live β' h') d v := r.mono x.size x.heap x.live

theorem Sh.cell (x : Sh w β h w' β' h') {c : Cell U} {v : Value} (r : CRel w β h c v) : CRel w' β' h' c v := by
  cases c with
  | un => trivial
  | d y => exact x.rep r
  | row id ver =>
    obtain ⟨e, t, l, ver', lv, hl, hle, hv⟩ := r
    obtain ⟨q1, q2, q3⟩ := x.obj id _ hl
    exact ⟨e, t, l, ver', lv, q1, hle, fun hh => (hv hh).trans q2.symm⟩
  | ptr id off =>
    obtain ⟨e, cs, b, hl, hb, hv⟩ := r
    obtain ⟨q1, q2, q3⟩ := x.obj id _ hl
    exact ⟨e, cs, b, q1, q2.trans hb, hv⟩
  | elt id ver i off =>
    obtain ⟨e, t, l, ver', lv, hl, hle, hv⟩ := r
    obtain ⟨q1, q2, q3⟩ := x.obj id _ hl
    refine ⟨e, t, l, ver', lv, q1, hle, fun hh => ?_⟩
    obtain ⟨h0, h1, g, c, r1, r2⟩ := hv hh
    exact ⟨h0, h1, g, c, q2.trans r1, r2⟩
  | rd cs off =>
    obtain ⟨g, o, hv, hM, hg, hc⟩ := r
    refine ⟨g, o, hv, fun hh => hM (x.live g hg hh), by have := x.size; omega, fun j d hd => ?_⟩
    obtain ⟨u, hu, hr⟩ := hc j d hd
    exact ⟨u, by rw [← hu]; exact World.cell?_of_block (x.heap g hg hM), x.rep hr⟩
  | gl g => exact r
  | lit u => exact r
  | map id =>
    obtain ⟨kt, vt, l, hl, hv⟩ := r
    obtain ⟨q1, q2, q3⟩ := x.obj id _ hl
    exact ⟨kt, vt, l, q1, hv.trans q2.symm⟩
  | clo f ids =>
    obtain ⟨bs, hv, hl, hb⟩ := r
    refine ⟨bs, hv, hl, fun j id b hj hbj => ?_⟩
    obtain ⟨e, cs, q1, q2⟩ := hb j id b hj hbj
    obtain ⟨r1, r2, r3⟩ := x.obj id _ q1
    exact ⟨e, cs, r1, r2.trans q2⟩
  | yld id =>
    obtain ⟨st, hl, hv⟩ := r
    obtain ⟨q1, q2, q3⟩ := x.obj id _ hl
    exact ⟨st, q1, hv.trans q2.symm⟩
  | ifc t b ds =>
    obtain ⟨vs, q1, q2, q3, q4, q5⟩ := r
    exact ⟨vs, q1, q2, q3, q4, fun j d u hd hu => x.rep (q5 j d u hd hu)⟩
  | tab g i => exact r
  | tabf fs i => exact r

theorem Sh.cs (x : Sh w β h w' β' h') {cs : List (Cell U)} {vs : List Value} (r : CsRel w β h cs vs) : CsRel w' β' h' cs vs :=
  ⟨r.1, r.2.1, fun j c v hc hv => x.cell (r.2.2 j c v hc hv)⟩

theorem Sh.vr (x : Sh w β h w' β' h') {y : Bool × List (Cell U)} {v : Value} (r : VRel w β h y v) : VRel w' β' h' y v := by
  obtain ⟨b, cs⟩ := y
  cases b with
  | true => obtain ⟨vs, hv, hc⟩ := r; exact ⟨vs, hv, x.cs hc⟩
  | false => exact x.cs r

theorem Sh.p (x : Sh w β h w' β' h') {σ : List (Nat × PV U)} {p : PV U} {v : Value} (r : PRel w β h σ p v) : PRel w' β' h' σ p v := by
  induction p with
  | un => trivial
  | one c => exact x.cs r
  | agg cs => exact x.vr r
  | tup xs =>
    obtain ⟨vs, hv, hl, hh⟩ := r
    exact ⟨vs, hv, hl, fun j y u hy hu => x.vr (hh j y u hy hu)⟩
  | opt gs p ih => exact ⟨fun hc => ih (r.1 hc), r.2⟩

theorem Sh.o {B : Nat} (x : Sh w β h w' β' h') {id : Nat} {o : Ob U} (hl : look id h = some o) (hb : ∀ b, blkOf (β id) = some b → w'.heap[b]? = w.heap[b]?) (r : ORel B w β h id o) : ORel B w' β' h' id o := by
  obtain ⟨_, hβ, hlp⟩ := x.obj id o hl
  cases o with
  | box e cs =>
    obtain ⟨b, vs, h1, h2, h3, h4⟩ := r
    exact ⟨b, vs, hβ.trans h1, h2, by rw [hb b (by rw [h1]; rfl)]; exact h3, x.cs h4⟩
  | row e t l ver lv =>
    obtain ⟨xs, h1, h2, h2', h3⟩ := r
    refine ⟨xs, ?_, h2, h2', fun i y hy j d hd => ?_⟩
    · rw [hβ]
      obtain ⟨h4, h5⟩ := h1
      refine ⟨h4, ?_⟩
      rcases h5 with h5 | ⟨g, cap, cur, hv, hg, hh, r⟩
      · exact .inl h5
      · exact .inr ⟨g, cap, cur, hv, hg, by rw [hb g (by rw [hv]; rfl)]; exact hh, r⟩
    · obtain ⟨u, hu, hr⟩ := h3 i y hy j d hd
      exact ⟨u, hu, x.rep hr⟩
  | map kt vt l =>
    obtain ⟨b, es, clock, h1, h2, h3, h4, h5⟩ := r
    refine ⟨b, es, clock, hβ.trans h1, h2, by rw [hb b (by rw [h1]; rfl)]; exact h3, h4, fun i y e hy he => ?_⟩
    obtain ⟨q1, q2⟩ := h5 i y e hy he
    exact ⟨q1.mono x.size x.heap x.live, q2.mono x.size x.heap x.live⟩
  | loop st =>
    obtain ⟨b, r, h1, h2, h3, h4⟩ := r
    exact ⟨b, r, hβ.trans h1, h2, by rw [hb b (by rw [h1]; rfl)]; exact h3, by rw [hlp]; exact h4⟩
end

theorem shut_ok (k : Ok F w β h) {w' : World} {D : Nat → Prop} (hbel : Below F.B w w') (hDs : ∀ b, D b → b < w'.heap.size) (hheap : ∀ b, b < w.heap.size → ¬ D b → w'.heap[b]? = w.heap[b]?)
    (hno : ∀ id o b, look id h = some o → blkOf (β id) = some b → ¬ D b) (hM : ∀ b, D b → b < w.heap.size → β.M b) (hgl : ∀ g fs, (g, fs) ∈ F.G → ¬ D g) : Ok (F.shut w' D) w' (β.shut D) h ∧ Sh w β h w' (β.shut D) h := by
  have hsz0 : F.w0.heap.size ≤ w.heap.size := k.bel.size
  have hsh : Sh w β h w' (β.shut D) h := by
    refine ⟨fun id o hl => ⟨hl, rfl, rfl⟩, hbel.size, fun b hb hn => hheap b hb (fun hd => hn (.inl (hM b hd hb))), fun b hb hl => ?_⟩
    rcases hl with (hl | hl) | hl
    · exact .inl hl
    · exact .inl (hM b hl hb)
    · exact .inr hl
  refine ⟨⟨Below.refl _ _, Nat.le_trans k.hB hbel.size, fun id o hl => hsh.o hl (fun b hb => hheap b ((k.obj id o hl).blk hb).2 (hno id o b hl hb)) (k.obj id o hl), k.dis, fun b hb hK => rfl, fun id o b q1 q2 => ?_, fun id o b q1 q2 => ?_, fun b hb => ?_, by show (β.shut D).M = _; unfold Nm.shut Fr.shut; simp only [k.Meq], fun id o v q1 q2 => k.fix id o v q1 q2, k.nmg, fun g fs hgf => ?_⟩, hsh⟩
  · exact .inl ⟨k.own id o b q1 q2, hno id o b q1 q2⟩
  · rintro (hm | hm)
    · exact k.Mo id o b q1 q2 hm
    · exact hno id o b q1 q2 hm
  · rcases hb with hb | hb
    · exact Nat.lt_of_lt_of_le (k.Mlt b hb) (Nat.le_trans hsz0 hbel.size)
    · exact hDs b hb
  · obtain ⟨q1, q2, q3⟩ := k.glo g fs hgf
    have hgw : g < w.heap.size := Nat.lt_of_lt_of_le q1 hsz0
    refine ⟨Nat.lt_of_lt_of_le hgw hbel.size, fun hk => ?_, fun i f hf => ?_⟩
    · rcases hk.1 with h5 | h5
      · exact q2 h5
      · omega
    · rw [← q3 i f hf]
      exact World.cell?_of_block ((hheap g hgw (hgl g fs hgf)).trans (k.frm g q1 q2))

theorem reshut_ok {wa : World} {D : Nat → Prop} (k : Ok (F.shut wa D) w β h) {w' : World} (hbel : Below F.B w w') (hs : w'.heap.size = w.heap.size) (hheap : ∀ b, ¬ D b → w'.heap[b]? = w.heap[b]?) (hDs : ∀ b, D b → b < wa.heap.size)
    (hgl : ∀ g fs, (g, fs) ∈ F.G → ¬ D g) (hwa : F.w0.heap.size ≤ wa.heap.size) : Ok (F.shut w' D) w' β h ∧ Sh w β h w' β h := by
  have hDM : ∀ b, D b → β.M b := fun b hb => by rw [k.Meq]; exact .inr hb
  have hsz0 : wa.heap.size ≤ w.heap.size := k.bel.size
  have hno : ∀ id o b, look id h = some o → blkOf (β id) = some b → ¬ D b := fun id o b q1 q2 hd => k.Mo id o b q1 q2 (hDM b hd)
  have hsh : Sh w β h w' β h := ⟨fun id o hl => ⟨hl, rfl, rfl⟩, by omega, fun b hb hn => hheap b (fun hd => hn (.inl (hDM b hd))), fun b _ hl => hl⟩
  refine ⟨⟨Below.refl _ _, by have := k.hB; rw [hs]; exact this, fun id o hl => hsh.o hl (fun b hb => hheap b (hno id o b hl hb)) (k.obj id o hl), k.dis, fun b hb hK => rfl, fun id o b q1 q2 => ?_, k.Mo, fun b hb => ?_, k.Meq, k.fix, k.nmg, fun g fs hgf => ?_⟩, hsh⟩
  · refine .inl ⟨?_, hno id o b q1 q2⟩
    rcases k.own id o b q1 q2 with h5 | h5
    · exact h5.1
    · right
      have h5 : wa.heap.size ≤ b := h5
      omega
  · have := k.Mlt b hb
    have this : b < wa.heap.size := this
    show b < w'.heap.size
    omega
  · obtain ⟨q1, q2, q3⟩ := k.glo g fs hgf
    have q1 : g < wa.heap.size := q1
    refine ⟨by show g < w'.heap.size; omega, fun hk => ?_, fun i f hf => ?_⟩
    · rcases hk.1 with h5 | h5
      · exact q2 ⟨.inl h5, hk.2⟩
      · exact q2 ⟨.inr h5, hk.2⟩
    · rw [← q3 i f hf]
      exact World.cell?_of_block ((hheap g (hgl g fs hgf)).trans (k.frm g q1 q2))

theorem unshut_ok {wa wb w' : World} {βa : Nm} {ha : Obs U} {D : Nat → Prop} (k0 : Ok F wa βa ha) (hab : Below F.B F.w0 wb) (hfrm : ∀ b, b < F.w0.heap.size → ¬ F.K b → wb.heap[b]? = F.w0.heap[b]?) (k : Ok (F.shut wb D) w' β h) :
    Ok F w' ⟨β.v, F.M, β.lp⟩ h ∧ Sh w' β h w' ⟨β.v, F.M, β.lp⟩ h ∧ ∀ b, D b → b < wb.heap.size → w'.heap[b]? = wb.heap[b]? ∧ ∀ id o, look id h = some o → blkOf (β id) ≠ some b := by
  have hDM : ∀ b, F.M b → β.M b := fun b hb => by rw [k.Meq]; exact .inl hb
  have hsh : Sh w' β h w' ⟨β.v, F.M, β.lp⟩ h := ⟨fun id o hl => ⟨hl, rfl, rfl⟩, Nat.le_refl _, fun _ _ _ => rfl, fun b _ hl => hl.imp (hDM b) (fun h => h)⟩
  refine ⟨⟨hab.trans k.bel, k.hB, fun id o hl => hsh.o hl (fun _ _ => rfl) (k.obj id o hl), k.dis, fun b hb hK => ?_, fun id o b q1 q2 => ?_, fun id o b q1 q2 hm => k.Mo id o b q1 q2 (hDM b hm), fun b hb => k0.Mlt b (by rw [k0.Meq]; exact hb), rfl, k.fix, k.nmg, k0.glo⟩, hsh, fun b hd hb => ⟨k.frm b hb (fun hk => hk.2 hd), fun id o q1 q2 => k.Mo id o b q1 q2 (by rw [k.Meq]; exact .inr hd)⟩⟩
  · rw [← hfrm b hb hK]
    refine k.frm b (Nat.lt_of_lt_of_le hb hab.size) ?_
    rintro ⟨h5 | h5, _⟩
    · exact hK h5
    · omega
  · rcases k.own id o b q1 q2 with h5 | h5
    · exact h5.1
    · right
      have h5 : wb.heap.size ≤ b := h5
      have := hab.size
      omega

theorem look_append {id : Nat} : ∀ {h : Obs U} {u : Obs U}, look id (h ++ u) = match look id h with
    | some o => some o
    | none => look id u
  | [], u => rfl
  | (j, o) :: r, u => by
    simp only [List.cons_append, look]
    split
    · rfl
    · exact look_append

theorem close_ok {wa wb w' : World} {βa : Nm} {ha : Obs U} {l id : Nat} {st : Int} (k0 : Ok F wa βa ha) (hab : Below F.B F.w0 wb) (hfrm : ∀ b, b < F.w0.heap.size → ¬ F.K b → wb.heap[b]? = F.w0.heap[b]?) (k : Ok (F.shut wb (· = l)) w β h)
    (hid : look id h = none) (hK : F.K l) (hM : ¬ F.M l) (hBl : F.B ≤ l) (hll : l < wb.heap.size) {lp : Loop × (Int → Option Code)} (hfix : ∀ v, F.nm id = some v → (Value.func (.yield l) #[] #[], lp) = v)
    (hbel : Below F.B w w') (hs : w'.heap.size = w.heap.size) (hheap : ∀ b, b ≠ l → w'.heap[b]? = w.heap[b]?) (hl : w'.heap[l]? = some (.loop { lp.1 with state := if st = 0 then .ready else .done, pending := lp.2 st })) :
    ∃ β', Ok F w' β' (h ++ [(id, .loop st)]) ∧ Sh w β h w' β' (h ++ [(id, .loop st)]) := by
  have hne : ∀ j o, look j h = some o → j ≠ id := fun j o hj e => by rw [e, hid] at hj; cases hj
  have hlM : β.M l := by rw [k.Meq]; exact .inr rfl
  have hDM : ∀ b, F.M b → β.M b := fun b hb => by rw [k.Meq]; exact .inl hb
  let β' : Nm := ⟨fun j => if j = id then .func (.yield l) #[] #[] else β j, F.M, fun j => if j = id then lp else β.lp j⟩
  have hv : ∀ j, j ≠ id → β' j = β j := fun j hj => if_neg hj
  have hv0 : β' id = .func (.yield l) #[] #[] := if_pos rfl
  have hl0 : β'.lp id = lp := if_pos rfl
  have hobj : ∀ j o, look j h = some o → look j (h ++ [(id, .loop st)]) = some o ∧ β' j = β j ∧ β'.lp j = β.lp j := by
    intro j o hj
    refine ⟨by rw [look_append, hj], hv j (hne j o hj), if_neg (hne j o hj)⟩
  have hinv : ∀ j o, look j (h ++ [(id, .loop st)]) = some o → (look j h = some o) ∨ (j = id ∧ o = .loop st) := by
    intro j o hj
    rw [look_append] at hj
    cases hc : look j h with
    | some o' => rw [hc] at hj; exact .inl hj
    | none =>
      rw [hc] at hj
      simp only [look] at hj
      split at hj
      · rename_i hb
        simp only [Option.some.injEq] at hj
        exact .inr ⟨(Nat.eq_of_beq_eq_true hb).symm, hj.symm⟩
      · cases hj
  have hsh : Sh w β h w' β' (h ++ [(id, .loop st)]) := by
    refine ⟨hobj, by omega, fun b hb hn => hheap b (fun e => hn (.inl (by rw [e]; exact hlM))), fun b hb hL => ?_⟩
    rcases hL with hL | ⟨j, o, q1, q2, q3⟩
    · exact .inl (hDM b hL)
    · rcases hinv j o q1 with q4 | ⟨rfl, rfl⟩
      · rw [hv j (hne j o q4)] at q3
        exact .inr ⟨j, o, q4, q2, q3⟩
      · rw [hv0] at q3
        simp only [blkOf, Option.some.injEq] at q3
        rw [← q3]
        exact .inl hlM
  have hno : ∀ j o b, look j h = some o → blkOf (β j) = some b → b ≠ l := fun j o b q1 q2 e => k.Mo j o b q1 q2 (by rw [e]; exact hlM)
  refine ⟨β', ⟨(hab.trans k.bel).trans hbel, by have := k.hB; rw [hs]; exact this, fun j o hj => ?_, fun j o j' o' b q1 q2 q3 q4 => ?_, fun b hb hKb => ?_, fun j o b q1 q2 => ?_, fun j o b q1 q2 hm => ?_, fun b hb => k0.Mlt b (by rw [k0.Meq]; exact hb), rfl, fun j o v q1 q2 => ?_, k.nmg, k0.glo⟩, hsh⟩
  · rcases hinv j o hj with q4 | ⟨rfl, rfl⟩
    · exact hsh.o q4 (fun b hb => hheap b (hno j o b q4 hb)) (k.obj j o q4)
    · exact ⟨l, _, hv0, hBl, hl, by rw [hl0]⟩
  · rcases hinv j o q1 with r1 | ⟨rfl, rfl⟩ <;> rcases hinv j' o' q2 with r2 | ⟨rfl, rfl⟩
    · rw [hv j (hne j o r1)] at q3
      rw [hv j' (hne j' o' r2)] at q4
      exact k.dis j o j' o' b r1 r2 q3 q4
    · rw [hv j (hne j o r1)] at q3
      rw [hv0] at q4
      simp only [blkOf, Option.some.injEq] at q4
      exact absurd q4.symm (hno j o b r1 q3)
    · rw [hv j' (hne j' o' r2)] at q4
      rw [hv0] at q3
      simp only [blkOf, Option.some.injEq] at q3
      exact absurd q3.symm (hno j' o' b r2 q4)
    · rfl
  · have hbl : b ≠ l := fun e => hKb (by rw [e]; exact hK)
    rw [hheap b hbl, ← hfrm b hb hKb]
    refine k.frm b (Nat.lt_of_lt_of_le hb hab.size) ?_
    rintro ⟨h5 | h5, _⟩
    · exact hKb h5
    · omega
  · rcases hinv j o q1 with r1 | ⟨rfl, rfl⟩
    · rw [hv j (hne j o r1)] at q2
      rcases k.own j o b r1 q2 with h5 | h5
      · exact h5.1
      · right
        have h5 : wb.heap.size ≤ b := h5
        have := hab.size
        omega
    · rw [hv0] at q2
      simp only [blkOf, Option.some.injEq] at q2
      rw [← q2]
      exact .inl hK
  · rcases hinv j o q1 with r1 | ⟨rfl, rfl⟩
    · rw [hv j (hne j o r1)] at q2
      exact k.Mo j o b r1 q2 (hDM b hm)
    · rw [hv0] at q2
      simp only [blkOf, Option.some.injEq] at q2
      exact hM (by rw [q2]; exact hm)
  · rcases hinv j o q1 with r1 | ⟨rfl, rfl⟩
    · rw [hv j (hne j o r1), show β'.lp j = β.lp j from if_neg (hne j o r1)]
      exact k.fix j o v r1 q2
    · right
      rw [hv0, hl0]
      exact hfix v q2
end
end Go.VT
end

section
set_option linter.unusedVariables false
set_option linter.unusedSimpArgs false
namespace Go.VT
noncomputable section
open Go.RowKit
variable {U : Univ} {E : Env U} {F : Fr} {n : Nat} {β : Nm} {s : St U} {a : Act} {tmps : Array Value} {w : World} {h : Obs U}

def roundPostP (P : Program) (l : Nat) (R : Ending → World → Prop) : Exit → Act → World → Prop
  | .panic ch, a, w => a.defers = [] ∧ R (.panicked ch) w
  | e, a, w => roundPost P l R e a w

theorem round_in {G : Fence} {P : Program} {l : Nat} {f : FuncId} {tmps : Array Value} {assign body : Code} {w : World} {R : Ending → World → Prop} (hF : G.fn f) (hf : ∃ fn, P.funcs[f]? = some fn)
    (h : assign.wpIn (G.inRound l) 0 P (fun e a₁ w₁ => match e with
      | .normal => ∃ w₂, (Instr.beginRound l).run P w₁ = .ok () w₂ ∧ body.wpIn (G.inRound l) 0 P (roundPostP P l R) a₁ w₂
      | _ => False) { tmps := tmps, defers := [] } w) :
    RoundIn G 0 P l f tmps assign body w R := by
  refine ⟨hF, fun c cs hr => ?_⟩
  let b : Frame := { (default : Frame) with fn := f, kind := .normal, roundOf := some l }
  have hb0 : Frame.round l f tmps assign body .normal = b.atR { tmps := tmps, defers := [] } [.code assign, .beginRound, .code body] := by
    simp [Frame.round, Frame.atR, b]
  have hr' : (G.inRound l).room ((c :: cs).length + 1 + 0) := hr
  have hF' : (G.inRound l).fn b.fn := hF
  obtain ⟨e, a₁, w₁, hq, harr⟩ := h b [.beginRound, .code body] (c :: cs) rfl hF' hr'
  rw [← hb0] at harr
  cases e with
  | normal =>
    obtain ⟨w₂, hbr, hbody⟩ := hq
    have s1 : StepsIn (Machine.fenced P (G.inRound l)) P (lone (b.atR a₁ [.beginRound, .code body]) (c :: cs) w₁) (lone (b.atR a₁ [.code body]) (c :: cs) w₂) :=
      .one (fenced_calm (fr := b.atR a₁ [.beginRound, .code body]) hF' hr' rfl) (stepR_beginRound rfl hbr)
    obtain ⟨e₂, a₂, w₃, hq₂, harr₂⟩ := hbody b [] (c :: cs) rfl hF' hr'
    cases e₂ with
    | normal =>
      obtain ⟨v, w₄, hend, hR⟩ := hq₂
      exact ⟨.returned v, w₄, hR, (StepsIn.trans harr s1).trans (StepsIn.trans harr₂ (.one (fenced_calm (fr := b.atR a₂ []) hF' hr' rfl) (stepR_round_end rfl rfl hend)))⟩
    | ret =>
      obtain ⟨v, w₄, hend, hR⟩ := hq₂
      obtain ⟨k₁, hs⟩ := harr₂.2 rfl
      exact ⟨.returned v, w₄, hR, (StepsIn.trans harr s1).trans (StepsIn.trans hs (.one (fenced_calm (fr := b.atR a₂ (.code .ret :: k₁)) hF' hr' rfl) (stepR_round_ret rfl rfl hend)))⟩
    | exit id =>
      obtain ⟨v, w₄, hend, hR⟩ := hq₂
      obtain ⟨k₁, hk, hs⟩ := harr₂.2 rfl rfl
      exact ⟨.returned v, w₄, hR, (StepsIn.trans harr s1).trans (StepsIn.trans hs (.one (fenced_calm (fr := b.atR a₂ (.code (.exit id) :: k₁)) hF' hr' rfl) (stepR_round_exit rfl rfl hk hend)))⟩
    | goto t =>
      obtain ⟨v, w₄, hend, hR⟩ := hq₂
      obtain ⟨k₁, hk, hs⟩ := harr₂.2 rfl rfl
      exact ⟨.returned v, w₄, hR, (StepsIn.trans harr s1).trans (StepsIn.trans hs (.one (fenced_calm (fr := b.atR a₂ (.code (.goto t) :: k₁)) hF' hr' rfl) (stepR_round_goto rfl rfl hk hend)))⟩
    | panic chain =>
      obtain ⟨hd, hR⟩ := hq₂
      obtain ⟨todo, hs⟩ := harr₂
      have hleave : Frame.leaving P ({ b.atR a₂ todo with mode := .panicking chain }) w₃ (.panicked chain) := ⟨rfl, hd, hf⟩
      refine ⟨.panicked chain, w₃, hR, (StepsIn.trans harr s1).trans (StepsIn.trans hs (.one (fenced_leaving (n := 0) hF' hr' hleave) ?_))⟩
      exact step_leave_panicked hleave
    | outgrown => exact hq₂.elim
  | exit id => exact hq.elim
  | goto t => exact hq.elim
  | ret => exact hq.elim
  | panic chain => exact hq.elim
  | outgrown => exact hq.elim

def pendOf (jump : Option Code) (st : Int) : Option Code := if st = 0 then none else jump

theorem ren_cell {w2 : World} {β2 : Nm} {h2 : Obs U} {rn : List (Nat × Nat)} {B2 : Nat} (hd : ∀ (x : Datum U) (v : Value), Rep U w (Live β h) x v → Rep U w2 (Live β2 h2) x v)
    (hn : ∀ id i o, look id rn = some i → look id h = some o → o.isRow = false → ∃ o2, look (oid i) h2 = some o2 ∧ β2 (oid i) = β id ∧ ORel B2 w2 β2 h2 (oid i) o2)
    (hob : ∀ id o, look id h = some o → ORel F.B w β h id o) {c : Cell U} {v : Value} (r : CRel w β h c v) : CRel w2 β2 h2 (renC rn c) v := by
  cases c with
  | un => trivial
  | d x => exact hd _ _ r
  | row id ver => trivial
  | ptr id off =>
    simp only [renC]
    split
    · rename_i i hi
      obtain ⟨e, cs, b, q1, q2, q3⟩ := r
      obtain ⟨o2, r1, r2, r3⟩ := hn id i _ hi q1 rfl
      cases o2 with
      | box e' cs' =>
        exact ⟨e', cs', b, r1, r2.trans q2, q3⟩
      | row e' t l ver lv =>
        obtain ⟨xs, h1, _⟩ := r3
        rw [r2, q2] at h1
        rcases h1.2 with ⟨h3, _⟩ | ⟨g, cap, cur, h3, _⟩ <;> (rcases h3 with h3 | h3 <;> cases h3)
      | map kt vt l =>
        obtain ⟨b', es, cl, h1, _⟩ := r3
        rw [r2, q2] at h1
        cases h1
      | loop st =>
        obtain ⟨b', r', h1, _⟩ := r3
        rw [r2, q2] at h1
        cases h1
    · trivial
  | elt id ver i off => trivial
  | rd cs off => trivial
  | gl g => exact r
  | lit u => exact r
  | map id =>
    simp only [renC]
    split
    · rename_i i hi
      obtain ⟨kt, vt, l, q1, q3⟩ := r
      obtain ⟨b, es, clk, q2, _⟩ := hob id _ q1
      obtain ⟨o2, r1, r2, r3⟩ := hn id i _ hi q1 rfl
      cases o2 with
      | map kt' vt' l' => exact ⟨kt', vt', l', r1, q3.trans r2.symm⟩
      | box e' cs' =>
        obtain ⟨b', vs, h1, _⟩ := r3
        rw [r2, q2] at h1
        cases h1
      | row e' t l ver lv =>
        obtain ⟨xs, h1, _⟩ := r3
        rw [r2, q2] at h1
        rcases h1.2 with ⟨h3, _⟩ | ⟨g, cap, cur, h3, _⟩ <;> (rcases h3 with h3 | h3 <;> cases h3)
      | loop st =>
        obtain ⟨b', r', h1, _⟩ := r3
        rw [r2, q2] at h1
        cases h1
    · trivial
  | clo f ids => trivial
  | yld id => trivial
  | ifc t b ds => trivial
  | tab g i => exact r
  | tabf fs i => exact r
end
end Go.VT
end

section
set_option linter.unusedVariables false
set_option linter.unusedSimpArgs false
namespace Go.VT
noncomputable section
open Go.RowKit
variable {U : Univ} {E : Env U} {F : Fr} {n : Nat} {β : Nm} {s : St U} {a : Act} {tmps : Array Value} {w : World} {h : Obs U}

theorem renP_plain (rn : List (Nat × Nat)) (p : PV U) : (renP rn p).plain = true := by cases p <;> rfl

theorem ren_pv {w2 : World} {β2 : Nm} {h2 : Obs U} {rn : List (Nat × Nat)} (hc : ∀ (c : Cell U) (v : Value), CRel w β h c v → CRel w2 β2 h2 (renC rn c) v) {σ σ' : List (Nat × PV U)} {p : PV U} {v : Value} (r : PRel w β h σ p v) : PRel w2 β2 h2 σ' (renP rn p) v := by
  have hcs : ∀ cs vs, CsRel w β h cs vs → CsRel w2 β2 h2 (cs.map (renC rn)) vs := by
    intro cs vs r
    refine ⟨by simpa using r.1, r.2.1, fun j c v hj hv => ?_⟩
    simp only [List.getElem?_map, Option.map_eq_some_iff] at hj
    obtain ⟨c', h3, rfl⟩ := hj
    exact hc c' v (r.2.2 j c' v h3 hv)
  cases p with
  | un => trivial
  | one c => exact hcs [c] [v] r
  | agg cs =>
    obtain ⟨vs, hv, hcr⟩ := r
    exact ⟨vs, hv, hcs cs vs hcr⟩
  | tup xs => trivial
  | opt gs p => trivial

abbrev pv (x : Bool × List (Cell U)) : PV U := match x.1 with
  | true => .agg x.2
  | false => match x.2 with
    | [c] => .one c
    | _ => .un

theorem pv_rel {x : Bool × List (Cell U)} {v : Value} (r : VRel w β h x v) (σ : List (Nat × PV U)) : PRel w β h σ (pv x) v ∧ (pv x).plain = true := by
  obtain ⟨b, cs⟩ := x
  cases b with
  | true => exact ⟨r, rfl⟩
  | false =>
    have hl : [v].length = cs.length := r.1
    match cs, hl with
    | [c], _ => exact ⟨r, rfl⟩

theorem putPs_rel {h : Obs U} : ∀ {ts : List Nat} {gs : List (Bool × List (Cell U))} {vs : List Value} {σ : List (Nat × PV U)} {tm : Array Value},
    (∀ (i : Nat) (x : Bool × List (Cell U)), i < ts.length → gs[i]? = some x → ∃ v, vs[i]? = some v ∧ VRel w β h x v) → ts.length ≤ gs.length → (∀ t ∈ ts, t < tm.size) →
    (∀ t p, look t σ = some p → (∀ σ', PRel w β h σ' p (tm.getD t undef)) ∧ p.plain = true) →
    ((ts.zip vs).foldl (fun (tm : Array Value) (x : Nat × Value) => tm.setIfInBounds x.1 x.2) tm).size = tm.size ∧
    ∀ t p, look t (putPs ts gs σ) = some p → (∀ σ', PRel w β h σ' p (((ts.zip vs).foldl (fun (tm : Array Value) (x : Nat × Value) => tm.setIfInBounds x.1 x.2) tm).getD t undef)) ∧ p.plain = true
  | [], gs, vs, σ, tm, _, _, _, h4 => ⟨rfl, h4⟩
  | t0 :: ts, [], vs, σ, tm, _, h2, _, _ => by simp at h2
  | t0 :: ts, x :: gs, vs, σ, tm, h1, h2, h3, h4 => by
    obtain ⟨v, hv, hr⟩ := h1 0 x (by simp) rfl
    match vs, hv with
    | v' :: vs, hv =>
      simp only [List.getElem?_cons_zero, Option.some.injEq] at hv
      subst hv
      have hlt : t0 < tm.size := h3 t0 (by simp)
      have hstep : ∀ t p, look t (write t0 (pv x) σ) = some p → (∀ σ', PRel w β h σ' p ((tm.setIfInBounds t0 v').getD t undef)) ∧ p.plain = true := by
        intro t p hl
        rw [look_write] at hl
        split at hl
        · rename_i ht
          subst ht
          simp only [Option.some.injEq] at hl
          subst hl
          refine ⟨fun σ' => ?_, (pv_rel hr σ).2⟩
          rw [Array.getD_eq_getD_getElem?, Array.getElem?_setIfInBounds_self]
          rw [if_pos hlt]
          exact (pv_rel hr σ').1
        · rename_i ht
          rw [Array.getD_eq_getD_getElem?, Array.getElem?_setIfInBounds_ne (Ne.symm ht), ← Array.getD_eq_getD_getElem?]
          exact h4 t p hl
      have := putPs_rel (ts := ts) (gs := gs) (vs := vs) (σ := write t0 (pv x) σ) (tm := tm.setIfInBounds t0 v') (fun i y hi hy => by
        have := h1 (i + 1) y (by simp; omega) (by simpa using hy)
        simpa using this) (by simpa using h2) (fun t ht => by rw [Array.size_setIfInBounds]; exact h3 t (by simp [ht])) hstep
      obtain ⟨q1, q2⟩ := this
      refine ⟨by simpa using q1, fun t p hl => ?_⟩
      exact q2 t p hl

theorem rn_mem {kY : Con U} {m : Mt U} : ∀ {mp : List (Nat × Nat)} {id i : Nat}, look id (rnOf kY m mp) = some i → ∃ j p, (i, j) ∈ mp ∧ kY.oin[i]? = some p ∧ p.isRow = false ∧ look j m.ι = some id
  | [], id, i, hl => by simp [rnOf, look] at hl
  | (i0, j0) :: r, id, i, hl => by
    have more : look id (rnOf kY m r) = some i → ∃ j p, (i, j) ∈ (i0, j0) :: r ∧ kY.oin[i]? = some p ∧ p.isRow = false ∧ look j m.ι = some id := by
      intro hl
      obtain ⟨j, p, h1, h2⟩ := rn_mem hl
      exact ⟨j, p, List.mem_cons_of_mem _ h1, h2⟩
    unfold rnOf at hl
    split at hl
    · exact more hl
    · rename_i p id0 hnr hp hid
      simp only [look] at hl
      split at hl
      · rename_i hb
        have hb := Nat.eq_of_beq_eq_true hb
        simp only [Option.some.injEq] at hl
        subst hl; subst hb
        refine ⟨j0, p, by simp, hp, ?_, hid⟩
        cases p with
        | row q => exact (hnr q rfl).elim
        | _ => rfl
      · exact more hl
    · exact more hl

structure Begins (F0 : Fr) (w1 : World) (β1 : Nm) (h1 : Obs U) (kY : Con U) (m : Mt U) (mp : List (Nat × Nat)) (Y F2 : Fr) (β2 : Nm) (ds : List (Datum U)) : Prop where
  ok1 : Ok F0 w1 β1 h1
  W : Within Y F2 kY.yl
  Yw : Y.w0 = w1
  YK : ∀ b, Y.K b → Own β1 h1 b
  YM : ∀ b, b < w1.heap.size → Y.M b → Live β1 h1 b
  Ynm : ∀ j id o, look j m.ι = some id → look id h1 = some o → o.isRow = false → Y.nm (oid j) = some (β1 id, β1.lp id)
  mp : ∀ i j p, (i, j) ∈ mp → kY.oin[i]? = some p → p.isRow = false → (j, i) ∈ kY.yl
  ok2 : Ok F2 F2.w0 β2 (canon ds kY.oin)
  nm : ∀ j p, kY.oin[j]? = some p → p.isRow = false → F2.nm (oid j) = some (β2 (oid j), β2.lp (oid j))

theorem Begins.rep {F0 : Fr} {w1 : World} {β1 : Nm} {h1 : Obs U} {kY : Con U} {m : Mt U} {mp : List (Nat × Nat)} {Y F2 : Fr} {β2 : Nm} {ds : List (Datum U)} (B : Begins F0 w1 β1 h1 kY m mp Y F2 β2 ds) {x : Datum U} {v : Value} (r : Rep U w1 (Live β1 h1) x v) : Rep U F2.w0 (Live β2 (canon ds kY.oin)) x v := by
  have hsz : w1.heap.size ≤ F2.w0.heap.size := by have := B.W.bel.size; rw [B.Yw] at this; exact this
  refine r.mono hsz (fun b hb hn => ?_) (fun b hb hl => ?_)
  · have := B.W.frm b (by rw [B.Yw]; exact hb) (fun hk => hn (.inr (B.YK b hk)))
    rw [B.Yw] at this
    exact this
  · rcases hl with hl | ⟨id, o, q1, q2, q3⟩
    · rw [B.ok2.Meq] at hl
      rcases B.W.Mup b (by rw [B.Yw]; exact hb) hl with h5 | h5
      · exact B.YM b hb h5
      · exact .inr (B.YK b h5)
    · rcases B.ok2.own id o b q1 q3 with h5 | h5
      · exact .inr (B.YK b (B.W.K b (by rw [B.Yw]; exact hb) h5))
      · omega

theorem Begins.name {F0 : Fr} {w1 : World} {β1 : Nm} {h1 : Obs U} {kY : Con U} {m : Mt U} {mp : List (Nat × Nat)} {Y F2 : Fr} {β2 : Nm} {ds : List (Datum U)} (B : Begins F0 w1 β1 h1 kY m mp Y F2 β2 ds) {i j id : Nat} {p : OPat} {o : Ob U}
    (hm : (i, j) ∈ mp) (hp : kY.oin[i]? = some p) (hr : p.isRow = false) (hj : look j m.ι = some id) (ho : look id h1 = some o) (hor : o.isRow = false) : β2 (oid i) = β1 id ∧ β2.lp (oid i) = β1.lp id ∧ F2.nm (oid i) = some (β1 id, β1.lp id) := by
  have h1 := B.W.nm j i _ (B.mp i j p hm hp hr) (B.Ynm j id o hj ho hor)
  have h2 := B.nm i p hp hr
  rw [h1] at h2
  simp only [Option.some.injEq, Prod.mk.injEq] at h2
  exact ⟨h2.1.symm, h2.2.symm, h1⟩

theorem Begins.rel {F0 : Fr} {w1 : World} {β1 : Nm} {h1 : Obs U} {kY : Con U} {m : Mt U} {mp : List (Nat × Nat)} {Y F2 : Fr} {β2 : Nm} {ds : List (Datum U)} (B : Begins F0 w1 β1 h1 kY m mp Y F2 β2 ds) {σ : List (Nat × PV U)} (R : Rel F0 n β1 ⟨σ, h1⟩ tmps w1)
    {us vs : List Value} (hcr : CsRel F2.w0 β2 (canon ds kY.oin) (kY.ain.map (iC ds oid (fun _ => 0))) us) (hpack : PackVals kY.args us vs) {ps : List Nat} (hps : ∀ t ∈ ps, t < n) (hle : ps.length ≤ kY.args.length) :
    Rel F2 n β2 ⟨putPs ps (takeGroups kY.args (kY.ain.map (iC ds oid (fun _ => 0)))) (σ.map fun x => (x.1, renP (rnOf kY m mp) x.2)), canon ds kY.oin⟩ ((ps.zip vs).foldl (fun (tm : Array Value) (x : Nat × Value) => tm.setIfInBounds x.1 x.2) tmps) F2.w0 := by
  have hcell : ∀ (c : Cell U) (v : Value), CRel w1 β1 h1 c v → CRel F2.w0 β2 (canon ds kY.oin) (renC (rnOf kY m mp) c) v := fun c v r =>
    ren_cell (F := F0) (B2 := F2.B) (fun x v r => B.rep r) (fun id i o hl ho hor => by
      obtain ⟨j, p, q1, q2, q3, q4⟩ := rn_mem hl
      have hlk := canon_look (ds := ds) q2
      exact ⟨_, hlk, (B.name q1 q2 q3 q4 ho hor).1, B.ok2.obj _ _ hlk⟩) B.ok1.obj r
  obtain ⟨g1, g2⟩ := groups_rel (σ := σ) hpack hcr
  have hlen : vs.length = kY.args.length := pack_length hpack
  obtain ⟨q1, q2⟩ := putPs_rel (w := F2.w0) (β := β2) (h := canon ds kY.oin) (ts := ps) (gs := takeGroups kY.args (kY.ain.map (iC ds oid (fun _ => 0)))) (vs := vs) (σ := σ.map fun x => (x.1, renP (rnOf kY m mp) x.2)) (tm := tmps) (fun i x hi hx => by
      have hlt : i < vs.length := by rw [hlen]; omega
      exact ⟨vs[i], List.getElem?_eq_getElem hlt, g2 i x vs[i] hx (List.getElem?_eq_getElem hlt)⟩) (by rw [takeGroups_length]; exact hle) (fun t ht => by rw [R.sz]; exact hps t ht) (fun t p hl => by
      rw [look_map] at hl
      simp only [Option.map_eq_some_iff] at hl
      obtain ⟨q, hq, rfl⟩ := hl
      exact ⟨fun σ' => ren_pv hcell (R.tmp t q hq), renP_plain _ _⟩)
  exact ⟨B.ok2, q1.trans R.sz, fun t p hl => (q2 t p hl).1 _⟩
end
end Go.VT
end

section
set_option linter.unusedVariables false
set_option linter.unusedSimpArgs false
namespace Go.VT
noncomputable section
open Go.RowKit
variable {U : Univ} {E : Env U} {F : Fr} {n : Nat} {β : Nm} {s : St U} {a : Act} {tmps : Array Value} {w : World} {h : Obs U}

def RoundOk (E : Env U) (X : Nat) (L : Nat → St U → Ann U) (k0 : Nat) (kY : Con U) (rn : List (Nat × Nat)) (jl : Nat) (jump : Option Code) (ps : List Nat) (asg body : Code) (σ : List (Nat × PV U)) : Prop :=
  ∀ xs : Dens U.T kY.params, holds (kY.pre.map fun p => p xs) → smalls (pickD (toList U kY.params xs) (datC kY.ain ++ datO kY.oin)) (match loopSt (toList U kY.params xs) kY.oin jl with
    | some st => st = 0 ∧ wpc E X L asg k0 (roundSt kY rn ps jl σ (toList U kY.params xs)) (fun e s' => match e with
      | .normal => wpc E X L body (k0 + loops asg) s' (roundEnd kY xs jl jump)
      | _ => Bad 4014 k0)
    | none => Bad 4015 k0)

theorem putObj_below {B l : Nat} {o : Obj} (w : World) (h : B ≤ l) : Below B w (w.putObj l o) := ⟨rfl, rfl, rfl, by simp, fun k hk => World.putObj_heap_other (by omega)⟩

theorem look_filter_keys {h : Obs U} {id : Nat} {o : Ob U} {p : Nat → Bool} (hl : look id (keepS h ((keys h).filter p)) = some o) : p id = true := (List.mem_filter.1 (keepS_in hl)).2

theorem takeGroups_map {α γ : Type} (f : α → γ) : ∀ (gs : List (Bool × Nat)) (cs : List α), takeGroups gs (cs.map f) = (takeGroups gs cs).map fun x => (x.1, x.2.map f)
  | [], _ => rfl
  | (b, n) :: gs, cs => by
    simp only [takeGroups, List.map_cons, ← List.map_take, ← List.map_drop]
    rw [takeGroups_map f gs]

theorem round_gives {Y0 : Fr} (hE : E.Fits) (hG : E.Sound Y0) (hyl : E.yl = []) (hm : E.P.follows .mixedOrders = true) {F0 : Fr} {β1 : Nm} {σ : List (Nat × PV U)} {h1 : Obs U} {w1 : World} (R : Rel F0 n β1 ⟨σ, h1⟩ tmps w1) (hFG : F0.G = E.G)
    {g : Obs U} {tys : List Ty} {os : List OPat} {ds0 : List (Datum U)} {m : Mt U} (G : Matched F0 w1 β1 h1 g tys os ds0 m) {kY : Con U} {mp : List (Nat × Nat)} {jl lid l : Nat} {jump : Option Code} {ps : Array Tmp} {asg body : Code} {fn : FuncId} {dd : Nat}
    (hfn : ∃ f', E.P.funcs[fn]? = some f') (hlid : look lid h1 = some (.loop 0)) (hβl : β1 lid = .func (.yield l) #[] #[])
    (hlp : β1.lp lid = ({ state := .ready, pending := none, fn := fn, tmps := tmps, params := ps, assign := asg, body := body, defers := dd }, pendOf jump))
    (hps : ∀ t ∈ ps.toList, t < n) (hargs : kY.args.length = ps.toList.length + 1) (hmp : ∀ i j p, (i, j) ∈ mp → kY.oin[i]? = some p → p.isRow = false → (j, i) ∈ kY.yl) (hjl : ∃ j, (jl, j) ∈ mp ∧ look j m.ι = some lid) (hjr : ∃ p, kY.oin[jl]? = some p)
    (hlast : (takeGroups kY.args kY.ain)[ps.toList.length]? = some (false, [.yld jl])) (hres : kY.res = [(false, 1)])
    (okA : okCode n asg = true) (okB : okCode n body = true) (nrA : noRF asg = true) (nrB : noRF body = true)
    {X k0 : Nat} {L : Nat → St U → Ann U} (hr : RoundOk E X L k0 kY (rnOf kY m mp) jl jump ps.toList asg body σ) : GivesC (frOf F0 w1 β1 h1 m) (runY E.P) E.G kY := by
  intro xs hp F2 hin β2 w2 us vs hw0 hFG2 K hnm hnm2 hcr hpack
  subst hw0
  have hrx := smalls_spec (hr xs hp) (given_small K hcr)
  split at hrx
  case h_2 => exact hrx.elim
  rename_i st hst
  obtain ⟨rfl, hrx⟩ := hrx
  -- the loop's object
  obtain ⟨q, hjq, hiO⟩ : ∃ q, kY.oin[jl]? = some (.loop q) ∧ iO (toList U kY.params xs) oid (fun _ => 0) jl (.loop q) = .loop 0 := by
    unfold loopSt at hst
    split at hst
    · rename_i q hq
      refine ⟨q, hq, ?_⟩
      split at hst
      · rename_i kk st hd
        simp only [Option.some.injEq] at hst
        simp only [iO, hd, hst]
      · cases hst
    · cases hst
  have hlkc : look (oid jl) (canon (toList U kY.params xs) kY.oin) = some (.loop 0) := by
    have := canon_look (ds := toList U kY.params xs) hjq
    rw [hiO] at this
    exact this
  obtain ⟨jj, hjm, hji⟩ := hjl
  have hne : kY.yl ≠ [] := by
    intro h0
    have := hmp jl jj _ hjm hjq rfl
    rw [h0] at this
    simp at this
  have B : Begins F0 w1 β1 h1 kY m mp (frOf F0 w1 β1 h1 m) F2 β2 (toList U kY.params xs) := by
    refine ⟨R.ok, hin hne, rfl, fun b hb => ?_, fun b hb hM => ?_, fun j id o q1 q2 q3 => ?_, hmp, K, hnm⟩
    · obtain ⟨j, id, q1, q2⟩ := hb
      obtain ⟨p0, o0, t1, t2, t3⟩ := G.at_ q1
      exact ⟨id, o0, t2, t3.live, q2⟩
    · exact (freezes G.k G.hf).ext.live b hb hM.1
    · show nmOf β1 h1 m (oid j) = _
      unfold nmOf
      have e1 : 1000000 ≤ oid j := by unfold oid; omega
      have e2 : oid j - 1000000 = j := by unfold oid; omega
      simp only [e1, if_true, e2, q1, q2, q3, Bool.false_eq_true, if_false]
  obtain ⟨n1, n2, n3⟩ := B.name hjm hjq rfl hji hlid rfl
  obtain ⟨b, r, o1, o2, o3, o4⟩ := K.obj _ _ hlkc
  rw [n1, hβl] at o1
  simp only [Value.func.injEq, Fn.yield.injEq, and_true] at o1
  subst o1
  rw [n2, hlp] at o4
  simp only [if_true, pendOf] at o4
  have hlsz : l < F2.w0.heap.size := by
    have := Array.getElem?_eq_some_iff.1 o3
    exact this.1
  have hblk : blkOf (β2 (oid jl)) = some l := by rw [n1, hβl]; rfl
  have hKl : F2.K l := (K.own _ _ l hlkc hblk).resolve_right (by omega)
  have hMl : ¬ F2.M l := fun h => K.Mo _ _ l hlkc hblk (by rw [K.Meq]; exact h)
  have hgl : ∀ gg fs, (gg, fs) ∈ F2.G → ¬ gg = l := fun gg fs hgf e => (K.glo gg fs hgf).2.1 (by rw [e]; exact hKl)
  -- the arguments
  have hvl : vs.length = ps.toList.length + 1 := by rw [pack_length hpack, hargs]

  obtain ⟨gr1, gr2⟩ := groups_rel (σ := []) hpack hcr
  have hlt : ps.toList.length < vs.length := by omega
  have hyv : vs[ps.toList.length] = .func (.yield l) #[] #[] := by
    have hx : (takeGroups kY.args (kY.ain.map (iC (toList U kY.params xs) oid (fun _ => 0))))[ps.toList.length]? = some (false, [.yld (oid jl)]) := by
      rw [takeGroups_map, List.getElem?_map, hlast]
      rfl
    have := gr2 _ _ _ hx (List.getElem?_eq_getElem hlt)
    have hc : CsRel F2.w0 β2 (canon (toList U kY.params xs) kY.oin) [.yld (oid jl)] [vs[ps.toList.length]] := this
    obtain ⟨st', q1, q2⟩ := hc.inv.2
    rw [q2, n1, hβl]
  have hvs : vs = vs.take ps.toList.length ++ [.func (.yield l) #[] #[]] := by
    rw [← hyv]
    have h1 := List.take_append_drop ps.toList.length vs
    have h2 : vs.drop ps.toList.length = [vs[ps.toList.length]] := by
      rw [List.drop_eq_getElem_cons hlt, List.drop_of_length_le (by omega)]
    rw [h2] at h1
    exact h1.symm
  have hzip : ps.toList.zip vs = ps.toList.zip (vs.take ps.toList.length) := by
    have hl2 : ps.toList.length = (vs.take ps.toList.length).length := by rw [List.length_take]; omega
    conv => lhs; rw [hvs]
    have := List.zip_append (l₁ := ps.toList) (l₂ := vs.take ps.toList.length) (r₁ := []) (r₂ := [Value.func (.yield l) #[] #[]]) hl2
    simpa using this
  have R2 := B.rel R hcr hpack hps (by omega)
  have hfold : (r.params.zip (vs.take ps.toList.length).toArray).foldl (fun tmps (t, a) => tmps.setIfInBounds t a) r.tmps = (ps.toList.zip vs).foldl (fun (tm : Array Value) (x : Nat × Value) => tm.setIfInBounds x.1 x.2) tmps := by
    rw [hzip, o4, ← Array.foldl_toList]
    simp
  refine ⟨vs.take ps.toList.length, l, r, hvs, o3, ?_, fun ro => ?_⟩
  · have hs : ps.toList.length = ps.size := by simp
    rw [o4, List.length_take]
    show min ps.toList.length vs.length = ps.size
    omega
  rw [hfold]
  rw [show r.fn = fn by rw [o4], show r.assign = asg by rw [o4], show r.body = body by rw [o4]]
  obtain ⟨f', hf'⟩ := hfn
  refine round_in (by show (E.P.funcs[fn]?).isSome = true; rw [hf']; rfl) ⟨f', hf'⟩ ?_
  -- the assignment
  have hK0 := keep_shut R2 (keys0 (putPs ps.toList (takeGroups kY.args (kY.ain.map (iC (toList U kY.params xs) oid (fun _ => 0)))) (σ.map fun x => (x.1, renP (rnOf kY m mp) x.2)))) ((keys (canon (toList U kY.params xs) kY.oin)).filter fun id => !(Nat.beq id (oid jl)))
    (w' := F2.w0) (D := (· = l)) (fun b hb => .inr ⟨oid jl, _, hlkc, rfl, by rw [hb]; exact hblk⟩) (fun id o b hl hb hbl => by
      have h1 := look_filter_keys hl
      have := K.dis id o (oid jl) _ l (keepS_look hl) hlkc (by rw [← hbl]; exact hb) hblk
      rw [this, Nat.beq_refl] at h1
      cases h1) (Below.refl _ _) (fun _ _ _ => rfl)
  obtain ⟨R3, hO3⟩ := hK0
  refine wpc_sound0 (ro := some l) (Y := Y0) hE hG (fun h => absurd hyl h) (by show F2.G = E.G; exact hFG2) hm X L asg k0 _ _ okA nrA hrx _ { tmps := (ps.toList.zip vs).foldl (fun (tm : Array Value) (x : Nat × Value) => tm.setIfInBounds x.1 x.2) tmps, defers := [] } F2.w0 R3 hO3 _ (fun way e s' β' a' w2a he h1 R' hO' hd => ?_)
  cases way with
  | exit id => exact h1.elim
  | ret => exact h1.elim
  | panic v => exact h1.elim
  | normal =>
  have he : e = .normal := he
  subst he
  have hlk2 : w2a.heap[l]? = some (.loop r) := by
    have := R'.frm l hlsz (fun hk => hk.2 rfl)
    rw [this]
    exact o3
  have hl2 : l < w2a.heap.size := (Array.getElem?_eq_some_iff.1 hlk2).1
  have hbr := run_beginRound (P := E.P) hlk2 (by rw [o4])
  refine ⟨_, hbr, ?_⟩
  have hb2 : Below F2.B w2a (w2a.putObj l (.loop { r with state := .busy })) := putObj_below w2a o2
  obtain ⟨k4, sh4⟩ := reshut_ok (F := F2) (wa := F2.w0) (D := (· = l)) R'.ok hb2 (by simp) (fun b hb => World.putObj_heap_other hb) (fun b hb => by rw [hb]; exact hlsz) hgl (Nat.le_refl _)
  have R4 : Rel (F2.shut (w2a.putObj l (.loop { r with state := .busy })) (· = l)) n β' s' a'.tmps (w2a.putObj l (.loop { r with state := .busy })) := ⟨k4, R'.sz, fun t p hl => sh4.p (R'.tmp t p hl)⟩
  have hwl : (w2a.putObj l (.loop { r with state := .busy })).heap[l]? = some (.loop { r with state := .busy }) := World.putObj_heap_same hl2
  have hab : Below F2.B F2.w0 (w2a.putObj l (.loop { r with state := .busy })) := Below.trans R'.bel hb2
  have hfrm : ∀ b, b < F2.w0.heap.size → ¬ F2.K b → (w2a.putObj l (.loop { r with state := .busy })).heap[b]? = F2.w0.heap[b]? := by
    intro b hb hk
    rw [World.putObj_heap_other (fun e => hk (by rw [e]; exact hKl))]
    refine R'.frm b hb ?_
    rintro ⟨h5 | h5, _⟩
    · exact hk h5
    · omega
  generalize hw2b : w2a.putObj l (.loop { r with state := .busy }) = w2b at R4 hwl hab hfrm
  have hl3 : l < w2b.heap.size := (Array.getElem?_eq_some_iff.1 hwl).1
  -- what comes at the end
  have fin : ∀ (st : Int) (bv : Bool) (jmp : Option Code) (β'' : Nm) (s'' : St U) (a'' : Act) (w3 : World), Rel (F2.shut w2b (· = l)) n β'' s'' a''.tmps w3 → (look (oid jl) s''.h).isNone = true →
      (if jmp.isNone = true then LoopState.ready else .done) = (if st = 0 then .ready else .done) → jmp = pendOf jump st → bv = jmp.isNone → postC kY xs (s''.h ++ [(oid jl, .loop st)]) [.d ⟨.bool, bv⟩] →
      ∃ v w', (Instr.endRound l jmp).run E.P w3 = .ok v w' ∧ ((∀ b, kY.bad = some b → (b xs).1 = false) ∧ ∃ β' rs, Ok F2 w' β' (canon (toList U kY.tys (kY.fn xs)) kY.oout) ∧ PackRes kY.res rs v ∧
          CsRel w' β' (canon (toList U kY.tys (kY.fn xs)) kY.oout) (kY.rout.map (iC (toList U kY.tys (kY.fn xs)) oid (fun _ => 0))) rs) := by
    intro st bv jmp β'' s'' a'' w3 R5 hno hstate hj hbv hpost
    have h3 : w3.heap[l]? = some (.loop { r with state := .busy }) := by
      have := R5.frm l hl3 (fun hk => hk.2 rfl)
      rw [this]
      exact hwl
    have hl4 : l < w3.heap.size := (Array.getElem?_eq_some_iff.1 h3).1
    have hend := run_endRound (P := E.P) jmp h3
    refine ⟨_, _, hend, ?_⟩
    have hrec : ({ ({ r with state := .busy } : Loop) with state := if jmp.isNone = true then .ready else .done, pending := jmp } : Loop) = { state := if st = 0 then .ready else .done, pending := pendOf jump st, fn := fn, tmps := tmps, params := ps, assign := asg, body := body, defers := dd } := by
      rw [o4, hstate, ← hj]
    obtain ⟨β3, K3, _⟩ := close_ok (F := F2) (wa := F2.w0) (wb := w2b) (w' := w3.putObj l (.loop { ({ r with state := .busy } : Loop) with state := if jmp.isNone = true then .ready else .done, pending := jmp })) (l := l) (id := oid jl) (st := st) K hab hfrm R5.ok (by simpa using hno) hKl hMl o2 hl3
      (lp := ({ state := .ready, pending := none, fn := fn, tmps := tmps, params := ps, assign := asg, body := body, defers := dd }, pendOf jump)) (fun v hv => by
        rw [n3, hβl, hlp] at hv
        exact Option.some.inj hv) (putObj_below w3 o2) (by simp) (fun b hb => World.putObj_heap_other hb) (by
        rw [World.putObj_heap_same hl4, hrec])
    obtain ⟨p1, β4, p2, p3⟩ := postC_gives hpost K3 (rs := [.bool bv]) ⟨rfl, fun v hv => by simp only [List.mem_singleton] at hv; subst hv; rfl, fun j c v hc hv => by
      match j, hc, hv with
      | 0, hc, hv =>
        simp only [List.getElem?_cons_zero, Option.some.injEq] at hc hv
        subst hc; subst hv
        exact Rep.bool _
      | j + 1, hc, hv => simp at hc⟩ hnm2
    refine ⟨p1, β4, [.bool bv], p2, ?_, p3⟩
    rw [hres]
    exact ⟨_, [], [], rfl, rfl, by rw [hbv], rfl, rfl⟩
  refine wpc_sound0 (ro := some l) (Y := Y0) hE hG (fun h => absurd hyl h) (by show F2.G = E.G; exact hFG2) hm X L body _ _ _ okB nrB h1 β' a' w2b R4 hO' _ (fun way e s'' β'' a'' w3 he h2 R5 hO5 hd5 => ?_)
  unfold roundEnd at h2
  cases hno : (look (oid jl) s''.h).isNone with
  | false => rw [hno] at h2; exact h2.elim
  | true =>
  rw [hno] at h2
  simp only [cond_true] at h2
  cases way with
  | normal =>
    have he : e = .normal := he
    subst he
    exact fin 0 true none β'' s'' a'' w3 R5 hno rfl (by simp [pendOf]) rfl h2
  | ret =>
    have he : e = .ret := he
    subst he
    simp only at h2
    split at h2
    · exact fin 1 false (some .ret) β'' s'' a'' w3 R5 hno rfl (by simp [pendOf]) rfl h2
    · exact h2.elim
  | exit id =>
    have he : e = .exit id := he
    subst he
    simp only at h2
    split at h2
    · rename_i id' heq
      simp only [Bool.cond_eq_ite] at h2
      split at h2
      · rename_i hb
        have := Nat.eq_of_beq_eq_true hb
        subst this
        exact fin 1 false (some (.exit id)) β'' s'' a'' w3 R5 hno rfl (by simp [pendOf]) rfl h2
      · exact h2.elim
    · exact h2.elim
  | panic v =>
    obtain ⟨u, hpi, rfl⟩ := he
    refine ⟨hd5.trans hd, ?_⟩
    simp only [postP] at h2
    split at h2
    · exact h2.elim
    · rename_i bb hbb
      have := panEq_spec h2.2
      refine ⟨bb, u, hbb, h2.1, rfl, by rw [this]; exact hpi, hab.trans R5.bel, ?_⟩
      intro blk hblk hK
      rw [← hfrm blk hblk hK]
      refine R5.frm blk (Nat.lt_of_lt_of_le hblk hab.size) ?_
      rintro ⟨h5 | h5, _⟩
      · exact hK h5
      · omega
end
end Go.VT
end

section
set_option linter.unusedVariables false
set_option linter.unusedSimpArgs false
namespace Go.VT
noncomputable section
open Go.RowKit
variable {U : Univ} {E : Env U} {F : Fr} {n : Nat} {β : Nm} {s : St U} {a : Act} {tmps : Array Value} {w : World} {h : Obs U}

abbrev markAt (r : Nat) : Deferred := { target := .collected r, args := #[] }

inductive Later (F : Fr) (ds : List Deferred) : Fr → List Deferred → Prop where
  | refl : Later F ds F ds
  | step (F1 : Fr) (ds1 : List Deferred) (w0 wa : World) (β0 : Nm) (h0 : Obs U) (r : Nat) : Later F ds F1 ds1 → Ok F1 w0 β0 h0 → Below F1.B F1.w0 wa → (∀ b, b < F1.w0.heap.size → ¬ F1.K b → wa.heap[b]? = F1.w0.heap[b]?) → F1.B ≤ r → F1.w0.heap.size ≤ r → r < wa.heap.size → wa.heap[r]? = some (.deferred (some [])) → Later F ds (F1.shut wa (· = r)) (markAt r :: ds1)

theorem Later.trans {F F1 F2 : Fr} {ds ds1 ds2 : List Deferred} (x : Later (U := U) F ds F1 ds1) (y : Later (U := U) F1 ds1 F2 ds2) : Later (U := U) F ds F2 ds2 := by
  induction y with
  | refl => exact x
  | step F1' ds1' w0 wa β0 h0 r _ k0 hb hf hbr hn hr hw ih => exact .step F1' ds1' w0 wa β0 h0 r ih k0 hb hf hbr hn hr hw

theorem Later.G {F F1 : Fr} {ds ds1 : List Deferred} (x : Later (U := U) F ds F1 ds1) : F1.G = F.G := by
  induction x with
  | refl => rfl
  | step _ _ _ _ _ _ _ _ _ _ _ _ _ _ _ ih => exact ih

theorem Later.nm {F F1 : Fr} {ds ds1 : List Deferred} (x : Later (U := U) F ds F1 ds1) : F1.nm = F.nm := by
  induction x with
  | refl => rfl
  | step _ _ _ _ _ _ _ _ _ _ _ _ _ _ _ ih => exact ih

theorem Later.size {F F1 : Fr} {ds ds1 : List Deferred} (x : Later (U := U) F ds F1 ds1) : F.w0.heap.size ≤ F1.w0.heap.size := by
  induction x with
  | refl => exact Nat.le_refl _
  | step F1' ds1' w0 wa β0 h0 r _ k0 hb hf hbr hn hr hw ih => exact Nat.le_trans ih hb.size

theorem Later.back {F F1 : Fr} {ds ds1 : List Deferred} (x : Later (U := U) F ds F1 ds1) : ∀ {w' : World} {β' : Nm} {h' : Obs U}, Ok F1 w' β' h' → ∃ rs : List Nat, ds1 = rs.map markAt ++ ds ∧ rs.Nodup ∧
    (∀ r ∈ rs, w'.heap[r]? = some (.deferred (some [])) ∧ (∀ id o, look id h' = some o → blkOf (β' id) ≠ some r) ∧ F.w0.heap.size ≤ r ∧ r < F1.w0.heap.size) ∧ ∃ β'', Ok F w' β'' h' ∧ Sh w' β' h' w' β'' h' := by
  induction x with
  | refl => intro w' β' h' k; exact ⟨[], rfl, List.nodup_nil, fun r hr => by simp at hr, β', k, ⟨fun id o hl => ⟨hl, rfl, rfl⟩, Nat.le_refl _, fun _ _ _ => rfl, fun _ _ h => h⟩⟩
  | step F1 ds1 w0 wa β0 h0 r y k0 hb hf hbr hn hr hw ih =>
    intro w' β' h' k
    obtain ⟨k1, sh1, hD⟩ := unshut_ok k0 hb hf k
    obtain ⟨rs, q1, q2, q3, β'', q4, q5⟩ := ih k1
    obtain ⟨d1, d2⟩ := hD r rfl hr
    have hsz := y.size
    refine ⟨r :: rs, by rw [q1]; rfl, List.nodup_cons.2 ⟨fun hm => ?_, q2⟩, fun r' hr' => ?_, β'', q4, ⟨fun id o hl => ⟨hl, (q5.obj id o hl).2.1, (q5.obj id o hl).2.2⟩, Nat.le_refl _, fun _ _ _ => rfl, fun b hb' hl => sh1.live b hb' (q5.live b hb' hl)⟩⟩
    · have := (q3 r hm).2.2.2
      omega
    · rcases List.mem_cons.1 hr' with h1 | h1
      · subst h1
        exact ⟨d1.trans hw, d2, by omega, hr⟩
      · obtain ⟨e1, e2, e3, e4⟩ := q3 r' h1
        exact ⟨e1, e2, e3, Nat.lt_of_lt_of_le e4 hb.size⟩

def Behind (F : Fr) (n : Nat) (ds : List Deferred) (Q' : Way U → St U → Prop) (Q : Exit → Act → World → Prop) : Prop :=
  ∀ F1 way e s' β' a' w', ExitIs way e → Q' way s' → Rel F1 n β' s' a'.tmps w' → OptIn (fun _ => False) s'.σ → Later (U := U) F ds F1 a'.defers → Q e a' w'

theorem rfOf_spec {g : Operand} {ps : List Nat} {asg body : Code} {lid : Nat} {r : RF U} (h : rfOf E s g ps asg body lid = some r) :
    ∃ f ids k mp cs m xs R, calleeOf (ev s.σ g) = some (f, ids) ∧ E.it f = [(k, r.kY, mp)] ∧ r.k = k ∧ actCall (sub (write lid (.loop 0) s.h) R) [] none { k with yl := [] } (.one (.yld lid) :: ids.map fun id => .one (.ptr id 0)) = some r.c ∧
      flatArgs k.args (.one (.yld lid) :: ids.map fun id => .one (.ptr id 0)) = some cs ∧ matchK (sub (write lid (.loop 0) s.h) R) k cs = some (xs, m) ∧ r.rn = rnOf r.kY m mp ∧
      look lid s.h = none ∧ lid < 1000000 ∧ E.yl = [] ∧ noRF asg = true ∧ noRF body = true ∧ r.c.news = [] ∧ (∀ x ∈ k.yl, x.1 = x.2) ∧ r.kY.args.length = ps.length + 1 ∧
      (∀ i j p, (i, j) ∈ mp → r.kY.oin[i]? = some p → p.isRow = false → (j, i) ∈ r.kY.yl) ∧ (∃ j, (r.jl, j) ∈ mp ∧ look j m.ι = some lid) ∧ (∃ p, r.kY.oin[r.jl]? = some p) ∧
      (takeGroups r.kY.args r.kY.ain)[ps.length]? = some (false, [.yld r.jl]) ∧ r.kY.res = [(false, 1)] ∧ (r.jump = none ∨ r.jump = some .ret ∨ (∃ id, r.jump = some (.exit id)) ∨ True) := by
  unfold rfOf at h
  split at h
  case h_2 => cases h
  rename_i f ids hcal
  split at h
  case h_2 => cases h
  rename_i k kY mp hit
  dsimp only at h
  split at h
  case h_2 => cases h
  rename_i ce hce
  split at h
  case h_2 => cases h
  rename_i cs hcs
  split at h
  case h_2 => cases h
  rename_i xs m hm
  split at h
  case h_2 => cases h
  rename_i jl hjl
  generalize hcond : (_ && (kY.res == [(false, 1)])) = bb at h
  cases bb with
  | false => cases h
  | true =>
  simp only [cond_true] at h
  simp only [Bool.and_eq_true] at hcond
  obtain ⟨⟨⟨⟨⟨⟨⟨⟨⟨⟨⟨⟨⟨⟨c1, c2⟩, c3⟩, c4⟩, c5⟩, c6⟩, c7⟩, c8⟩, c9⟩, c10⟩, c11⟩, c12⟩, c13⟩, c14⟩, c15⟩ := hcond
  have hkY : r.kY = kY ∧ r.k = k ∧ r.c = ce ∧ r.rn = rnOf kY m mp ∧ r.jl = jl := by
    split at h
    · simp only [Option.some.injEq] at h; subst h; exact ⟨rfl, rfl, rfl, rfl, rfl⟩
    · simp only [Option.some.injEq] at h; subst h; exact ⟨rfl, rfl, rfl, rfl, rfl⟩
    · cases h
  obtain ⟨e1, e2, e3, e4, e5⟩ := hkY
  rw [e1, e2, e3, e4, e5]
  refine ⟨f, ids, k, mp, cs, m, xs, _, hcal, hit, rfl, hce, hcs, hm, rfl, by simpa using c1, Nat.le_of_ble_eq_true c2, by simpa using c3, c4, c5, by simpa using c7, fun x hx => Nat.eq_of_beq_eq_true (List.all_eq_true.1 c8 x hx), Nat.eq_of_beq_eq_true c10, ?_, ?_, ?_, ?_, by simpa using c15, .inr (.inr (.inr trivial))⟩
  · intro i j p hx hp hr
    have h1 := List.all_eq_true.1 c12 _ hx
    simp only [hp] at h1
    cases p with
    | row q => cases hr
    | box e cs =>
      simp only [Bool.and_eq_true, List.any_eq_true] at h1
      obtain ⟨⟨y, hy, hb⟩, _⟩ := h1
      rw [← Nat.eq_of_beq_eq_true hb.1, ← Nat.eq_of_beq_eq_true hb.2]
      exact hy
    | map q =>
      simp only [Bool.and_eq_true, List.any_eq_true] at h1
      obtain ⟨⟨y, hy, hb⟩, _⟩ := h1
      rw [← Nat.eq_of_beq_eq_true hb.1, ← Nat.eq_of_beq_eq_true hb.2]
      exact hy
    | loop q =>
      simp only [Bool.and_eq_true, List.any_eq_true] at h1
      obtain ⟨⟨y, hy, hb⟩, _⟩ := h1
      rw [← Nat.eq_of_beq_eq_true hb.1, ← Nat.eq_of_beq_eq_true hb.2]
      exact hy
  · rw [List.any_eq_true] at c13
    obtain ⟨x, hx, hb⟩ := c13
    simp only [Bool.and_eq_true, beq_iff_eq] at hb
    refine ⟨x.2, ?_, hb.2⟩
    rw [← Nat.eq_of_beq_eq_true hb.1]
    exact hx
  · have := Nat.le_of_ble_eq_true c11
    exact ⟨_, List.getElem?_eq_getElem this⟩
  · split at c14
    · rename_i j' heq
      rw [heq, Nat.eq_of_beq_eq_true c14]
    · cases c14

theorem less_rel {tmps : Array Value} (R : Rel F n β s tmps w) {ids : List Nat} {w' : World} (hbel : Below F.B w w')
    (hheap : ∀ b, b < w.heap.size → (∀ id ∈ ids, ∀ o, look id s.h = some o → o.live = true → blkOf (β id) ≠ some b) → w'.heap[b]? = w.heap[b]?) : Rel F n β (s.less ids) tmps w' ∧ OptIn (fun _ => False) (s.less ids).σ := by
  refine keep_rel' R _ _ hbel (fun b hb hh => hheap b hb (fun id hid o hl hlive hblk => ?_))
  rcases hh with hh | ⟨id', o', h1, h2⟩
  · exact hh ⟨id, o, hl, hlive, hblk⟩
  · have h3 := keepS_look h1
    have := R.dis id o id' o' b hl h3 hblk h2
    subst this
    have h4 := look_filter_keys h1
    have : (ids.any (Nat.beq id)) = true := List.any_eq_true.2 ⟨id, hid, Nat.beq_refl id⟩
    rw [this] at h4
    cases h4

theorem matchK_yl {g : Obs U} {k : Con U} {cs : List (Cell U)} {xs : Dens U.T k.params} {m : Mt U} (h2 : matchK g { k with yl := [] } cs = some (xs, m)) : matchK g k cs = some (xs, m) := by
  exact h2

theorem rangeFunc_wp {Y0 : Fr} (hE : E.Fits) (hG : E.Sound Y0) (hFG : F.G = E.G) (hm : E.P.follows .mixedOrders = true) {X k0 : Nat} {L : Nat → St U → Ann U} {g : Operand} {ps : Array Tmp} {asg body : Code} {r : RF U} (hr : rfOf E s g ps.toList asg body (990000 + k0) = some r)
    (okp : ∀ t ∈ ps.toList, t < n) (okA : okCode n asg = true) (okB : okCode n body = true) (R : Rel F n β s a.tmps w) (hO : OptIn (fun _ => False) s.σ)
    (hround : RoundOk E X L k0 r.kY r.rn r.jl r.jump ps.toList asg body s.σ) (hob : holds r.c.e.obl) {Q' : Way U → St U → Prop}
    (hP : ∀ b v, r.c.pan = some (b, v) → b = true → Q' (.panic v) ((⟨s.σ, write (990000 + k0) (.loop 0) s.h⟩ : St U).less (keys r.c.e.upd ++ r.c.lost)))
    (hN : (∀ b v, r.c.pan = some (b, v) → b = false) → ∃ st, look (990000 + k0) (upds (write (990000 + k0) (.loop 0) s.h) r.c.e.upd) = some (.loop st) ∧ behind r.jump st ((⟨s.σ, upds (write (990000 + k0) (.loop 0) s.h) r.c.e.upd⟩ : St U).less [990000 + k0]) Q')
    {Q : Exit → Act → World → Prop} (hQ : Behind F n a.defers Q' Q) : (Code.rangeFunc g ps asg body).wpIn (fen E.P none) 0 E.P Q a w := by
  obtain ⟨f, ids, k, mp, cs, m, xs0, Rids, hcal, hit, hk, hact, hcs, hmk, hrn, hfresh, hlt, hyl, nrA, nrB, hnews, hkyl, hargs, hmp, hjl, hjr, hlast, hres, _⟩ := rfOf_spec hr
  generalize hlid : 990000 + k0 = lid at *
  refine wpIn_rangeFunc (fun fn hfn => ?_)
  obtain ⟨f', hf'⟩ : ∃ f', E.P.funcs[fn]? = some f' := Option.isSome_iff_exists.1 hfn
  -- the mark's block
  have hbel1 : Below w.heap.size w (w.alloc (.deferred (some []))) := below_new _ _
  have hmk1 : (w.alloc (.deferred (some []))).heap[w.heap.size]? = some (.deferred (some [])) := World.alloc_heap_new _ _
  obtain ⟨k1, sh1⟩ := shut_ok (D := (· = w.heap.size)) R.ok (hbel1.mono R.hB) (fun b hb => by rw [hb]; simp) (fun b hb _ => hbel1.block b hb) (fun id o b hl hb e => by
      have := ((R.obj id o hl).blk hb).2
      omega) (fun b hb hb2 => absurd hb2 (by omega)) (fun gg fs hgf e => by
      have := (R.glo gg fs hgf).1
      have := R.bel.size
      omega)
  have R1 : Rel (F.shut (w.alloc (.deferred (some []))) (· = w.heap.size)) n (β.shut (· = w.heap.size)) s a.tmps (w.alloc (.deferred (some []))) := ⟨k1, R.sz, fun t p hl => sh1.p (R.tmp t p hl)⟩
  have hlater : Later (U := U) F a.defers (F.shut (w.alloc (.deferred (some []))) (· = w.heap.size)) (markAt w.heap.size :: a.defers) :=
    .step F a.defers w _ β s.h w.heap.size .refl R.ok (R.bel.trans (hbel1.mono R.hB)) (fun b hb hK => by
      have := R.bel.size
      rw [hbel1.block b (by omega)]
      exact R.frm b hb hK) R.hB R.bel.size (by simp) hmk1
  generalize hF' : F.shut (w.alloc (.deferred (some []))) (· = w.heap.size) = F' at k1 R1 hlater
  generalize hβ' : β.shut (· = w.heap.size) = βa at k1 R1 sh1
  have hw1 : (w.alloc (.deferred (some []))).heap.size = w.heap.size + 1 := by simp
  generalize hwa : w.alloc (.deferred (some [])) = wa at *
  -- the record
  let rec_ : Loop := { state := .ready, pending := none, fn := fn, tmps := a.tmps, params := ps, assign := asg, body := body, defers := w.heap.size }
  let β1 : Nm := ⟨fun j => if j = lid then .func (.yield wa.heap.size) #[] #[] else βa j, βa.M, fun j => if j = lid then (rec_, pendOf r.jump) else βa.lp j⟩
  have hne : ∀ j o, look j s.h = some o → j ≠ lid := fun j o hj e => by rw [e, hfresh] at hj; cases hj
  have hβ0 : β1 lid = .func (.yield wa.heap.size) #[] #[] := if_pos rfl
  have hlp0 : β1.lp lid = (rec_, pendOf r.jump) := if_pos rfl
  have hmem1 : ∀ {id : Nat} {o : Ob U}, (id, o) ∈ ([(lid, .loop 0)] : Obs U) → id = lid ∧ o = .loop 0 := by
    intro id o hm
    simpa using hm
  have A : After F' wa βa s.h (wa.alloc (.loop rec_)) β1 (upds s.h [(lid, .loop 0)]) := by
    refine news_after R1.ok (below_new _ _) rfl (fun id o hl => if_neg (hne id o hl)) (fun id o hl => if_neg (hne id o hl)) (fun id o hmm => ?_) (fun id o hmm => ?_) (fun id o gg hmm hb => ?_) (fun id o hmm hl => ?_) (fun id o id' o' gg h1 h2 _ _ => ?_)
    · rw [(hmem1 hmm).1]; exact hfresh
    · rw [(hmem1 hmm).1]; exact .inr hlt
    · rw [(hmem1 hmm).1, hβ0] at hb
      simp only [blkOf, Option.some.injEq] at hb
      omega
    · obtain ⟨rfl, rfl⟩ := hmem1 hmm
      refine ⟨wa.heap.size, rec_, hβ0, R1.hB, World.alloc_heap_new _ _, ?_⟩
      rw [hlp0]
      rfl
    · rw [(hmem1 h1).1, (hmem1 h2).1]
  have hh1 : upds s.h [(lid, .loop 0)] = write lid (.loop 0) s.h := rfl
  rw [hh1] at A
  have R2 : Rel F' n β1 ⟨s.σ, write lid (.loop 0) s.h⟩ a.tmps (wa.alloc (.loop rec_)) := ⟨A.ok, R1.sz, fun t p hl => A.ext.p (R1.tmp t p hl)⟩
  have hlk1 : look lid (write lid (.loop 0) s.h) = some (.loop 0) := look_write_same _ _ _
  generalize hw2 : wa.alloc (.loop rec_) = w2 at R2 A
  -- the function's value
  have hgv : PRel w2 β1 (write lid (.loop 0) s.h) s.σ (ev s.σ g) (a.eval g) := ev_rel (s := ⟨s.σ, write lid (.loop 0) s.h⟩) R2 g
  obtain ⟨bs, hfv, hbl, hbr⟩ := callee_rel hcal hgv
  have hF'G : F'.G = E.G := by rw [hlater.G]; exact hFG
  -- the call
  have hin : InCalls F' w2 β1 (write lid (.loop 0) s.h) (sub (write lid (.loop 0) s.h) Rids) (runF E.P f) [] { k with yl := [] } (.one (.yld lid) :: ids.map fun id => .one (.ptr id 0)) := by
    intro xs m' cs' h1 h2 G _ hpre
    have h1 : flatArgs k.args (.one (.yld lid) :: ids.map fun id => .one (.ptr id 0)) = some cs' := h1
    rw [hcs] at h1
    simp only [Option.some.injEq] at h1
    subst h1
    have h2 : matchK (sub (write lid (.loop 0) s.h) Rids) k cs = some (xs, m') := matchK_yl h2
    rw [hmk] at h2
    simp only [Option.some.injEq, Prod.mk.injEq] at h2
    obtain ⟨rfl, rfl⟩ := h2
    have hY := round_gives (dd := w.heap.size) hE hG hyl hm R2 hF'G G (kY := r.kY) (mp := mp) (jl := r.jl) (lid := lid) (l := wa.heap.size) (jump := r.jump) (ps := ps) (asg := asg) (body := body) ⟨f', hf'⟩ hlk1 hβ0 hlp0 okp hargs hmp hjl hjr hlast hres okA okB nrA nrB (hrn ▸ hround)
    have hgive := hG.it f k r.kY mp (by rw [hit]; simp) _ hY
    have := hgive.2 xs0 hpre (frOf F' w2 β1 (write lid (.loop 0) s.h) m) (fun _ => ⟨rfl, rfl, Below.refl _ _, fun _ _ _ => rfl, fun _ _ h => h, fun _ h => h, fun _ _ h => .inl h, fun j i v hji hv => by
      have := hkyl _ hji
      simp only at this
      rw [← this]
      exact hv⟩)
    rw [hF'G]
    exact this
  have hent : Enters E.P f := by
    have hY := round_gives (dd := w.heap.size) hE hG hyl hm R2 hF'G (matchK_spec R2.ok (fun _ _ => sub_look) hmk).1 (kY := r.kY) (mp := mp) (jl := r.jl) (lid := lid) (l := wa.heap.size) (jump := r.jump) (ps := ps) (asg := asg) (body := body) ⟨f', hf'⟩ hlk1 hβ0 hlp0 okp hargs hmp hjl hjr hlast hres okA okB nrA nrB (hrn ▸ hround)
    exact (hG.it f k r.kY mp (by rw [hit]; simp) _ hY).1
  have hcall := run_actCall (σ := s.σ) (us := .func (.yield wa.heap.size) #[] #[] :: bs.map fun b => Value.pointer (some ⟨b, 0, none⟩)) runF_mono hin R2.ok (fun _ _ => sub_look) hact hob (fun id hid => by rw [hnews] at hid; simp at hid) (by simp [hbl]) (fun j p v hp hv => by
    match j, hp, hv with
    | 0, hp, hv =>
      simp only [List.getElem?_cons_zero, Option.some.injEq] at hp hv
      subst hp; subst hv
      exact CsRel.one rfl ⟨0, hlk1, hβ0.symm⟩
    | j + 1, hp, hv =>
      simp only [List.getElem?_cons_succ, List.getElem?_map, Option.map_eq_some_iff] at hp hv
      obtain ⟨id, hid, rfl⟩ := hp
      obtain ⟨b, hb, rfl⟩ := hv
      obtain ⟨e', cs', q1, q2⟩ := hbr _ id b hid hb
      exact CsRel.one rfl ⟨e', cs', b, q1, q2, rfl⟩)
  refine ⟨wa.heap.size, [markAt w.heap.size], w2, { target := .fn (.func f) (bs.map fun b => Value.pointer (some ⟨b, 0, none⟩)).toArray, args := #[.func (.yield wa.heap.size) #[] #[]] }, w2, f, (.func (.yield wa.heap.size) #[] #[] :: bs.map fun b => Value.pointer (some ⟨b, 0, none⟩)).toArray, w2, ?_, ?_, ?_, ?_, fen_depth, ?_⟩
  · have := run_enterLoop_outer (P := E.P) (w := w) fn a.tmps ps asg body
    rw [hwa] at this
    rw [show (fen E.P none).round = none from rfl, this, ← hw2, hw1]
  · simp [rangeCall, resolve, hfv, Deferred.ofValue]
    rfl
  · intro f'' hf''
    simp only [Target.leads, Option.some.injEq] at hf''
    obtain ⟨fx, h1, _⟩ := hent
    rw [← hf'']
    show (E.P.funcs[f]?).isSome = true
    rw [h1]; rfl
  · have h1 := hent.run (.func (.yield wa.heap.size) #[] #[] :: bs.map fun b => Value.pointer (some ⟨b, 0, none⟩)).toArray w2
    rw [← h1]
    simp [invoke]
  · refine CallsIn.mono hcall (fun en w3 hen => ?_)
    have hunsh : ∀ {β3 : Nm} {s3 : St U} {w4 : World} {way : Way U} {e : Exit}, ExitIs way e → Q' way s3 → Rel F' n β3 s3 a.tmps w4 → OptIn (fun _ => False) s3.σ → Q e { a with defers := [markAt w.heap.size] ++ a.defers } w4 := fun he hq R3 hO3 => hQ F' _ _ _ _ { a with defers := [markAt w.heap.size] ++ a.defers } _ he hq R3 hO3 hlater
    cases en with
    | outgrown => exact hen.elim
    | panicked ch =>
      obtain ⟨b, u, q1, q2, rfl, q4, q5, q6⟩ := hen
      obtain ⟨R3, hO3⟩ := less_rel R2 (ids := keys r.c.e.upd ++ r.c.lost) q5 q6
      obtain ⟨b0, v0⟩ := b
      exact hunsh (way := .panic v0) ⟨u, q4, rfl⟩ (hP b0 v0 q1 q2) R3 hO3
    | returned v =>
      obtain ⟨q1, β3, A3, _⟩ := hen
      obtain ⟨st, hst, hbeh⟩ := hN (fun b v hb => q1 (b, v) hb)
      have R3 : Rel F' n β3 ⟨s.σ, upds (write lid (.loop 0) s.h) r.c.e.upd⟩ a.tmps w3 := ⟨A3.ok, R2.sz, fun t p hl => A3.ext.p (R2.tmp t p hl)⟩
      obtain ⟨o1, o2, o⟩ := A3.ext.oth lid _ hlk1 rfl
      obtain ⟨b, rr, p1, p2, p3, p4⟩ := R3.obj lid _ hst
      rw [o1, hβ0] at p1
      simp only [Value.func.injEq, Fn.yield.injEq, and_true] at p1
      subst p1
      rw [o2, hlp0] at p4
      have hend := run_endLoop (P := E.P) p3 (by rw [p4]; dsimp only; split <;> simp)
      have hpend : rr.pending = pendOf r.jump st := by rw [p4]
      obtain ⟨R4, hO4⟩ := less_rel R3 (ids := [lid]) (putObj_below w3 p2) (w' := w3.putObj wa.heap.size (.loop { rr with state := .exhausted })) (fun b hb hno => World.putObj_heap_other (fun e => by
        subst e
        refine hno lid (by simp) _ hst rfl ?_
        rw [o1, hβ0]
        rfl))
      generalize w3.putObj wa.heap.size (.loop { rr with state := .exhausted }) = w4 at hend R4
      rw [hpend] at hend
      refine ⟨_, w4, hend, ?_⟩
      unfold behind at hbeh
      unfold pendOf
      split at hbeh
      · rename_i hj
        obtain ⟨h0, hq⟩ := hbeh
        rw [if_pos h0]
        exact hunsh (way := .normal) rfl hq R4 hO4
      · rename_i hj
        by_cases h0 : st = 0
        · rw [if_pos h0]
          exact hunsh (way := .normal) rfl (hbeh.1 h0) R4 hO4
        · rw [if_neg h0]
          rw [hj]
          exact wpIn_ret (hunsh (way := .ret) rfl (hbeh.2 h0).2 R4 hO4)
      · rename_i id hj
        by_cases h0 : st = 0
        · rw [if_pos h0]
          exact hunsh (way := .normal) rfl (hbeh.1 h0) R4 hO4
        · rw [if_neg h0]
          rw [hj]
          exact wpIn_exit (hunsh (way := .exit id) rfl (hbeh.2 h0).2 R4 hO4)
      · exact hbeh.elim
end
end Go.VT
end

section
set_option linter.unusedVariables false
set_option linter.unusedSimpArgs false
namespace Go.VT
noncomputable section
open Go.RowKit
variable {U : Univ} {E : Env U} {n : Nat} {s : St U} {tmps : Array Value} {h : Obs U}

theorem wpc_sound {Y : Fr} (hE : E.Fits) (hG : E.Sound Y) (hyl : E.yl = []) (hm : E.P.follows .mixedOrders = true) (X : Nat) (L : Nat → St U → Ann U) : ∀ (c : Code) (k : Nat) (s : St U) (Q' : Way U → St U → Prop), okCode n c = true → wpc E X L c k s Q' →
    ∀ (F : Fr) (β : Nm) (a : Act) (w : World), F.G = E.G → Rel F n β s a.tmps w → OptIn (fun _ => False) s.σ → ∀ Q : Exit → Act → World → Prop, Behind F n a.defers Q' Q → c.wpIn (fen E.P none) 0 E.P Q a w := by
  have base : ∀ (c : Code) (k : Nat) (s : St U) (Q' : Way U → St U → Prop), okCode n c = true → noRF c = true → wpc E X L c k s Q' →
      ∀ (F : Fr) (β : Nm) (a : Act) (w : World), F.G = E.G → Rel F n β s a.tmps w → OptIn (fun _ => False) s.σ → ∀ Q : Exit → Act → World → Prop, Behind F n a.defers Q' Q → c.wpIn (fen E.P none) 0 E.P Q a w := by
    intro c k s Q' ok nr h F β a w hFG R hO Q hQ
    exact wpc_sound0 (ro := none) hE hG (fun h => absurd hyl h) hFG hm X L c k s Q' ok nr h β a w R hO Q (fun way e s' β' a' w' h1 h2 h3 h4 h5 => hQ F way e s' β' a' w' h1 h2 h3 h4 (h5 ▸ .refl))
  intro c
  induction c with
  | skip => intro k s Q' ok h; exact base _ k s Q' ok rfl h
  | region id ops d => intro k s Q' ok h; exact base _ k s Q' ok rfl h
  | exit id => intro k s Q' ok h; exact base _ k s Q' ok rfl h
  | ret => intro k s Q' ok h; exact base _ k s Q' ok rfl h
  | label l => intro k s Q' ok h; exact base _ k s Q' ok rfl h
  | goto l => intro k s Q' ok h; exact base _ k s Q' ok rfl h
  | scope c ih =>
    intro k s Q' ok h F β a w hFG R hO Q hQ
    refine wpIn_scope (ih k s Q' ok h F β a w hFG R hO _ (fun F1 way e s' β' a' w' he h1 R' hO' hd => ?_))
    have hq := hQ F1 way e s' β' a' w' he h1 R' hO' hd
    cases way with
    | normal => have he' : e = .normal := he; subst he'; exact hq
    | ret => have he' : e = .ret := he; subst he'; exact hq
    | exit id => have he' : e = .exit id := he; subst he'; exact hq
    | panic v => obtain ⟨u, h2, rfl⟩ := he; exact hq
  | refuse w => intro k s Q' ok h; exact base _ k s Q' ok rfl h
  | loop c ih =>
    intro k s Q' ok h
    cases nr : noRF c with
    | true => exact base _ k s Q' ok nr h
    | false =>
      simp only [wpc, nr, Bool.not_false, cond_true] at h
      exact h.elim
  | seq c d ihc ihd =>
    intro k s Q' ok h F β a w hFG R hO Q hQ
    simp only [okCode, Bool.and_eq_true] at ok
    refine wpIn_seq (ihc k s _ ok.1 h F β a w hFG R hO _ (fun F1 way e s' β' a' w' he h1 R' hO' hd => ?_))
    cases way with
    | normal =>
      have he : e = .normal := he
      subst he
      exact ihd _ s' Q' ok.2 h1 F1 β' a' w' (hd.G.trans hFG) R' hO' Q (fun F2 way2 e2 s2 β2 a2 w2 q0 q1 q2 q3 q4 => hQ F2 way2 e2 s2 β2 a2 w2 q0 q1 q2 q3 (hd.trans q4))
    | exit id =>
      have he' : e = .exit id := he
      subst he'
      exact hQ F1 (.exit id) _ s' β' a' w' rfl h1 R' hO' hd
    | ret =>
      have he' : e = .ret := he
      subst he'
      exact hQ F1 .ret _ s' β' a' w' rfl h1 R' hO' hd
    | panic v =>
      obtain ⟨u, h2, rfl⟩ := he
      exact hQ F1 (.panic v) _ s' β' a' w' ⟨u, h2, rfl⟩ h1 R' hO' hd
  | cond x c d ihc ihd =>
    intro k s Q' ok h
    cases nr : noRF (.cond x c d) with
    | true => exact base _ k s Q' ok nr h
    | false =>
    intro F β a w hFG R hO Q hQ
    simp only [okCode, Bool.and_eq_true] at ok
    have hs : simpleC (.cond x c d) = false := by
      cases hs : simpleC (.cond x c d) with
      | false => rfl
      | true => rw [simple_noRF hs] at nr; cases nr
    simp only [wpc, hs, Bool.and_false, cond_false] at h
    split at h
    · rename_i t ht
      have hev := ev_rel R x
      rw [ht] at hev
      exact wpIn_cond_split hev.bool (fun hb => ihc k s Q' ok.1 (h.1 hb) F β a w hFG R hO Q hQ) (fun hb => ihd _ s Q' ok.2 (h.2 hb) F β a w hFG R hO Q hQ)
    · exact h.elim
  | block id c ihc =>
    intro k s Q' ok h F β a w hFG R hO Q hQ
    refine wpIn_block (ihc k s _ ok h F β a w hFG R hO _ (fun F1 way e s' β' a' w' he h1 R' hO' hd => ?_))
    cases way with
    | normal =>
      have he' : e = .normal := he
      subst he'
      exact hQ F1 .normal _ s' β' a' w' rfl h1 R' hO' hd
    | ret =>
      have he' : e = .ret := he
      subst he'
      exact hQ F1 .ret _ s' β' a' w' rfl h1 R' hO' hd
    | panic v =>
      obtain ⟨u, h2, rfl⟩ := he
      exact hQ F1 (.panic v) _ s' β' a' w' ⟨u, h2, rfl⟩ h1 R' hO' hd
    | exit id' =>
      have he' : e = .exit id' := he
      subst he'
      simp only at h1
      show if id' = id then Q .normal a' w' else Q (.exit id') a' w'
      by_cases hid : id' = id
      · rw [if_pos hid]
        rw [if_pos (by rw [hid]; exact Nat.beq_refl id)] at h1
        exact hQ F1 .normal _ s' β' a' w' rfl h1 R' hO' hd
      · rw [if_neg hid]
        rw [if_neg (by rw [beq_no hid]; simp)] at h1
        exact hQ F1 (.exit id') _ s' β' a' w' rfl h1 R' hO' hd
  | rangeFunc g ps asg body iha ihb =>
    intro k s Q' ok h F β a w hFG R hO Q hQ
    simp only [okCode, Bool.and_eq_true, List.all_eq_true] at ok
    simp only [wpc] at h
    obtain ⟨β, R, hO⟩ := promotes_rel (l := (L (k + (loops asg + loops body)) s).nils) R hO
    generalize promotes s (L (k + (loops asg + loops body)) s).nils = s at h R hO
    split at h
    case h_2 => exact h.elim
    rename_i r hr
    obtain ⟨h1, h2, h3⟩ := h
    refine rangeFunc_wp hE hG hFG hm hr (fun t ht => Nat.le_of_ble_eq_true (ok.1.1 t ht)) ok.1.2 ok.2 R hO h1 h2 (Q' := Q') (fun b v hp hb => ?_) (fun hno => ?_) hQ
    · rw [hp] at h3
      exact h3.1 hb
    · split at h3
      · rename_i b v hp
        have h4 := h3.2 (hno b v hp)
        split at h4
        · rename_i st hst
          exact ⟨st, hst, h4⟩
        · exact h4.elim
      · split at h3
        · rename_i st hst
          exact ⟨st, hst, h3⟩
        · exact h3.elim

theorem Sh.trans {w w1 w2 : World} {β β1 β2 : Nm} {h h1 h2 : Obs U} (x : Sh w β h w1 β1 h1) (y : Sh w1 β1 h1 w2 β2 h2) : Sh w β h w2 β2 h2 :=
  ⟨fun id o hl => by
      obtain ⟨q1, q2, q3⟩ := x.obj id o hl
      obtain ⟨r1, r2, r3⟩ := y.obj id o q1
      exact ⟨r1, r2.trans q2, r3.trans q3⟩, Nat.le_trans x.size y.size, fun b hb hn => by
      have := x.size
      rw [y.heap b (by omega) (fun hl => hn (x.live b hb hl)), x.heap b hb hn], fun b hb hl => x.live b hb (y.live b (Nat.lt_of_lt_of_le hb x.size) hl)⟩

theorem unshut_one {F : Fr} {wa wb w' : World} {β βa : Nm} {ha h : Obs U} {r : Nat} (k0 : Ok F wa βa ha) (hab : Below F.B F.w0 wb) (hfrm : ∀ b, b < F.w0.heap.size → ¬ F.K b → wb.heap[b]? = F.w0.heap[b]?) (hbr : F.B ≤ r) (hn : F.w0.heap.size ≤ r) (hr : r < wb.heap.size) (k : Ok (F.shut wb (· = r)) w' β h) (o : Obj) :
    Ok F (w'.putObj r o) ⟨β.v, F.M, β.lp⟩ h ∧ Sh w' β h (w'.putObj r o) ⟨β.v, F.M, β.lp⟩ h := by
  have hrM : β.M r := by rw [k.Meq]; exact .inr rfl
  have hDM : ∀ b, F.M b → β.M b := fun b hb => by rw [k.Meq]; exact .inl hb
  have hno : ∀ id o b, look id h = some o → blkOf (β id) = some b → b ≠ r := fun id o b q1 q2 e => k.Mo id o b q1 q2 (by rw [e]; exact hrM)
  have hsh : Sh w' β h (w'.putObj r o) ⟨β.v, F.M, β.lp⟩ h := ⟨fun id o hl => ⟨hl, rfl, rfl⟩, by simp, fun b _ hn => World.putObj_heap_other (fun e => hn (.inl (by rw [e]; exact hrM))), fun b _ hl => hl.imp (hDM b) (fun h => h)⟩
  refine ⟨⟨(hab.trans k.bel).trans (putObj_below w' hbr), by have := k.hB; have h1 : F.B ≤ w'.heap.size := this; simpa using h1, fun id o' hl => hsh.o hl (fun b hb => World.putObj_heap_other (hno id o' b hl hb)) (k.obj id o' hl), k.dis, fun b hb hK => ?_, fun id o' b q1 q2 => ?_, fun id o' b q1 q2 hm => k.Mo id o' b q1 q2 (hDM b hm), fun b hb => k0.Mlt b (by rw [k0.Meq]; exact hb), rfl, k.fix, k.nmg, k0.glo⟩, hsh⟩
  · rw [World.putObj_heap_other (by omega), ← hfrm b hb hK]
    refine k.frm b (Nat.lt_of_lt_of_le hb hab.size) ?_
    rintro ⟨h5 | h5, _⟩
    · exact hK h5
    · omega
  · rcases k.own id o' b q1 q2 with h5 | h5
    · exact h5.1
    · right
      have h5 : wb.heap.size ≤ b := h5
      have := hab.size
      omega

theorem Later.leave {F F1 : Fr} {ds ds1 : List Deferred} (x : Later (U := U) F ds F1 ds1) {G : Fence} {P : Program} {fn : Func} {tmps : Array Value} {R : Ending → World → Prop} {u : FrameMode} (hu : u ≠ .run) : ∀ {w' : World} {β' : Nm} {h' : Obs U}, Ok F1 w' β' h' →
    (∀ w'' β'', Ok F w'' β'' h' → Sh w' β' h' w'' β'' h' → LeavesInM G 0 P fn tmps R ds u w'') → LeavesInM G 0 P fn tmps R ds1 u w' := by
  induction x with
  | refl => intro w' β' h' k hq; exact hq w' β' k ⟨fun id o hl => ⟨hl, rfl, rfl⟩, Nat.le_refl _, fun _ _ _ => rfl, fun _ _ h => h⟩
  | step F1 ds1 w0 wa β0 h0 r y k0 hb hf hbr hn hr hw ih =>
    intro w' β' h' k hq
    obtain ⟨_, _, hD⟩ := unshut_ok k0 hb hf k
    obtain ⟨d1, d2⟩ := hD r rfl hr
    obtain ⟨k1, sh1⟩ := unshut_one k0 hb hf hbr hn hr k (.deferred none)
    refine ⟨hu, .inl ⟨r, _, rfl, run_takeDeferred (d1.trans hw), ?_⟩⟩
    exact ih k1 (fun w'' β'' k2 sh2 => hq w'' β'' k2 (sh1.trans sh2))
end
end Go.VT
end

section
set_option linter.unusedVariables false
set_option linter.unusedSimpArgs false
namespace Go.VT
noncomputable section
open Go.RowKit
variable {U : Univ} {E : Env U} {F : Fr} {n : Nat} {β : Nm} {s : St U} {a : Act} {tmps : Array Value} {w : World} {h : Obs U}

theorem vc_gives_at {Y : Fr} (hE : E.Fits) (hG : E.Sound Y) (hm : E.P.follows .mixedOrders = true) {f : FuncId} {fn : Func} (hf : E.P.funcs[f]? = some fn) {k : Con U} {xs : Dens U.T k.params} (L : Nat → St U → Ann U) (h : vc E L fn k xs) (hyl : k.yl = E.yl) :
    GivesAt Y (runF E.P f) E.G k xs := by
  intro F hY β w us vs hw0 hFG K hnm hnm2 hcr hpack
  unfold vc at h
  split at h
  case h_2 => exact h.elim
  rename_i b hb
  simp only [Bool.cond_eq_ite] at h
  split at h
  case isFalse => exact h.elim
  rename_i hok
  simp only [Bool.and_eq_true] at hok
  have hargs := Nat.le_of_ble_eq_true hok.1.2
  have h := smalls_spec h (given_small K hcr)
  have hvl := pack_length hpack
  have hfe : (fen E.P none).fn f := by show (E.P.funcs[f]?).isSome = true; rw [hf]; rfl
  refine callsIn_of_wp_marks hf hb hfe ?_
  have hsz : (vs.toArray ++ Array.replicate (fn.ntmps - vs.toArray.size) undef).size = fn.ntmps := by simp; omega
  have hstart : ∀ t p, look t (St.init k (toList U k.params xs)).σ = some p → PRel w β (canon (toList U k.params xs) k.oin) (St.init k (toList U k.params xs)).σ p ((vs.toArray ++ Array.replicate (fn.ntmps - vs.toArray.size) undef).getD t undef) ∧ p.plain = true := by
    intro t p hl
    obtain ⟨v, h2, h3, h4⟩ := start_rel (σ := (St.init k (toList U k.params xs)).σ) hpack hcr hl
    refine ⟨?_, h4⟩
    have htl : t < vs.length := (List.getElem?_eq_some_iff.1 h2).1
    have : (vs.toArray ++ Array.replicate (fn.ntmps - vs.toArray.size) undef).getD t undef = v := by
      rw [Array.getD_eq_getD_getElem?, Array.getElem?_append_left (by simpa using htl)]
      simp [h2]
    rw [this]
    exact h3
  have R : Rel F fn.ntmps β (St.init k (toList U k.params xs)) (vs.toArray ++ Array.replicate (fn.ntmps - vs.toArray.size) undef) w := ⟨K, hsz, fun t p hl => (hstart t p hl).1⟩
  have hO : OptIn (fun _ => False) (St.init k (toList U k.params xs)).σ := by
    intro t gs p hl
    have := (hstart t _ hl).2
    simp [PV.plain] at this
  -- what comes at the end
  have hend : Behind F fn.ntmps [] (fun e s => match e with
      | .exit _ => Bad 3002 0
      | .panic v => postP k xs v
      | _ => post E.P fn k xs s) (bodyPostM (fen E.P none) 0 E.P fn (fun e w' => match e with
      | .returned v => (∀ b, k.bad = some b → (b xs).1 = false) ∧ ∃ β' rs, Ok F w' β' (canon (toList U k.tys (k.fn xs)) k.oout) ∧ PackRes k.res rs v ∧
          CsRel w' β' (canon (toList U k.tys (k.fn xs)) k.oout) (k.rout.map (iC (toList U k.tys (k.fn xs)) oid (fun _ => 0))) rs
      | .panicked ch => ∃ b u, k.bad = some b ∧ (b xs).1 = true ∧ ch = [{ v := u, recovered := false }] ∧ PanIs (b xs).2 u ∧ Below F.B w w' ∧ ∀ b, b < w.heap.size → ¬ F.K b → w'.heap[b]? = w.heap[b]?
      | .outgrown => False)) := by
    intro F1 way e s' β' a' w' he hq R' hO' hlat
    have hret : post E.P fn k xs s' → LeavesInM (fen E.P none) 0 E.P fn a'.tmps (fun e w' => match e with
      | .returned v => (∀ b, k.bad = some b → (b xs).1 = false) ∧ ∃ β' rs, Ok F w' β' (canon (toList U k.tys (k.fn xs)) k.oout) ∧ PackRes k.res rs v ∧
          CsRel w' β' (canon (toList U k.tys (k.fn xs)) k.oout) (k.rout.map (iC (toList U k.tys (k.fn xs)) oid (fun _ => 0))) rs
      | .panicked ch => ∃ b u, k.bad = some b ∧ (b xs).1 = true ∧ ch = [{ v := u, recovered := false }] ∧ PanIs (b xs).2 u ∧ Below F.B w w' ∧ ∀ b, b < w.heap.size → ¬ F.K b → w'.heap[b]? = w.heap[b]?
      | .outgrown => False) a'.defers .returning w' := by
      intro hq
      refine hlat.leave (by simp) R'.ok (fun w'' β'' k2 sh2 => ?_)
      have R2 : Rel F fn.ntmps β'' s' a'.tmps w'' := ⟨k2, R'.sz, fun t p hl => sh2.p (R'.tmp t p hl)⟩
      obtain ⟨v, hrun, hgave⟩ := post_gives (E := E) hq R2 hnm2
      exact ⟨v, hrun, hgave⟩
    cases way with
    | exit id => exact hq.elim
    | normal =>
      have he' : e = .normal := he
      subst he'
      exact hret hq
    | ret =>
      have he' : e = .ret := he
      subst he'
      exact hret hq
    | panic pv =>
      obtain ⟨u, hpi, rfl⟩ := he
      refine hlat.leave (by simp) R'.ok (fun w'' β'' k2 sh2 => ?_)
      simp only [postP] at hq
      split at hq
      · exact hq.elim
      · rename_i bb hbb
        have := panEq_spec hq.2
        refine ⟨bb, u, hbb, hq.1, rfl, by rw [this]; exact hpi, ?_, ?_⟩
        · have := k2.bel; rw [hw0] at this; exact this
        · intro blk hblk hK
          have := k2.frm blk (by rw [hw0]; exact hblk) hK
          rw [hw0] at this
          exact this
  rw [hyl] at hY
  cases hnr : noRF b with
  | false =>
    rw [hnr] at hok
    have hyl0 : E.yl = [] := by simpa using hok.2
    exact wpc_sound hE hG hyl0 hm _ L b 0 _ _ hok.1.1 h F _ { tmps := vs.toArray ++ Array.replicate (fn.ntmps - vs.toArray.size) undef, defers := [] } w hFG R hO _ hend
  | true =>
    exact wpc_sound0 (ro := none) hE hG hY hFG hm _ L b 0 _ _ hok.1.1 hnr h _ { tmps := vs.toArray ++ Array.replicate (fn.ntmps - vs.toArray.size) undef, defers := [] } w R hO _ (fun way e s' β' a' w' h1 h2 h3 h4 h5 => hend F way e s' β' a' w' h1 h2 h3 h4 (by rw [h5]; exact .refl))

theorem vc_gives {Y : Fr} (hE : E.Fits) (hG : E.Sound Y) (hm : E.P.follows .mixedOrders = true) {f : FuncId} {fn : Func} (hf : E.P.funcs[f]? = some fn) (hn : (fn.name == "runtime.NumGoroutine") = false) {k : Con U}
    (L : Dens U.T k.params → Nat → St U → Ann U) (h : ∀ xs, holds (k.pre.map fun p => p xs) → vc E (L xs) fn k xs) (hb : fn.body.isNone = false) (hyl : k.yl = E.yl) : GivesY Y E.P E.G f k :=
  ⟨⟨fn, hf, hn, hb⟩, fun xs hp => vc_gives_at hE hG hm hf (L xs) (h xs hp) hyl⟩

def Con.below (k : Con U) (m : Dens U.T k.params → Nat) (N : Nat) : Con U := { k with pre := some fun ys => holds (k.pre.map fun p => p ys) ∧ m ys < N }

def Env.set (E : Env U) (f : FuncId) (k : Con U) : Env U := { E with con := fun g => bif Nat.beq g f then [k] else E.con g }

theorem vc_gives_rec {Y : Fr} (hE : E.Fits) (hG : E.Sound Y) (hm : E.P.follows .mixedOrders = true) {f : FuncId} {fn : Func} (hf : E.P.funcs[f]? = some fn) (hn : (fn.name == "runtime.NumGoroutine") = false) {k : Con U}
    (m : Dens U.T k.params → Nat) (L : Dens U.T k.params → Nat → St U → Ann U) (h : ∀ xs, holds (k.pre.map fun p => p xs) → vc (E.set f (k.below m (m xs))) (L xs) fn k xs) (hb : fn.body.isNone = false) (hyl : k.yl = E.yl) : GivesY Y E.P E.G f k := by
  have hEn : Enters E.P f := ⟨fn, hf, hn, hb⟩
  refine ⟨hEn, ?_⟩
  have key : ∀ N xs, m xs < N → holds (k.pre.map fun p => p xs) → GivesAt Y (runF E.P f) E.G k xs := by
    intro N
    induction N with
    | zero => intro xs hx; omega
    | succ N ih =>
      intro xs hx hp
      refine vc_gives_at (E := E.set f (k.below m (m xs))) ⟨hE.code⟩ ⟨fun g k' hk => ?_, hG.tab, hG.inv, hG.y, hG.it⟩ hm hf (L xs) (h xs hp) hyl
      simp only [Env.set] at hk
      revert hk
      cases hgf : Nat.beq g f with
      | false => intro hk; exact hG.con g k' hk
      | true =>
        intro hk
        have hgf := Nat.eq_of_beq_eq_true hgf
        subst hgf
        simp only [cond_true, List.mem_singleton] at hk
        subst hk
        exact ⟨hEn, fun ys hy => ih ys (Nat.lt_of_lt_of_le hy.2 (Nat.le_of_lt_succ hx)) hy.1⟩
  exact fun xs hp => key (m xs + 1) xs (Nat.lt_succ_self _) hp

end
end Go.VT
end

section
set_option linter.unusedVariables false
namespace Go.VT
noncomputable section
variable {U : Univ}

def zOk : Datum U → Value → Bool
  | ⟨.int k, n⟩, .int k' m => decide (k = k') && decide ((n : Int) = m)
  | ⟨.bool, b⟩, .bool c => (b : Bool) == c
  | ⟨.slice _ _, l⟩, .slice none 0 0 => List.isEmpty l
  | _, _ => false

theorem zOk_rep {d : Datum U} {v : Value} (h : zOk d v = true) (w : World) (M : Nat → Prop) : Rep U w M d v := by
  unfold zOk at h
  split at h
  · rename_i k n k' m
    simp only [Bool.and_eq_true, decide_eq_true_eq] at h
    obtain ⟨rfl, rfl⟩ := h
    exact .int _ _
  · simp only [beq_iff_eq] at h
    subst h
    exact .bool _
  · rename_i e t l
    have : l = [] := by simpa using h
    subst this
    exact .nil _ _ _ _
  · cases h

def zsOk : List (Datum U) → List Value → Bool
  | [], _ => true
  | d :: ds, v :: vs => zOk d v && zsOk ds vs
  | _, _ => false

theorem zsOk_get : ∀ {ds : List (Datum U)} {vs : List Value}, zsOk ds vs = true → ∀ (j : Nat) (d : Datum U), ds[j]? = some d → ∃ u, vs[j]? = some u ∧ zOk d u = true
  | [], _, _, j, d, hd => by simp at hd
  | _ :: _, [], h, _, _, _ => by simp [zsOk] at h
  | x :: ds, v :: vs, h, j, d, hd => by
    simp only [zsOk, Bool.and_eq_true] at h
    match j, hd with
    | 0, hd =>
      simp only [List.getElem?_cons_zero, Option.some.injEq] at hd
      subst hd
      exact ⟨v, rfl, h.1⟩
    | j + 1, hd => exact zsOk_get h.2 j d (by simpa using hd)

def fitsB (P : Program) (e : TypeId) (t : Ty) : Bool :=
  match P.info? e with
  | some i => match i.zero with
    | some z => Nat.beq i.size (szOf U t) && Nat.beq z.cells.size i.size && Nat.blt 0 (szOf U t) && Nat.blt 0 i.bytes && z.cells.toList.all (·.oneCell') && zsOk (cellsOf U t (dfl U t)) z.cells.toList
    | none => false
  | none => false

theorem fitsB_spec {P : Program} {e : TypeId} {t : Ty} (h : fitsB (U := U) P e t = true) : ∃ i z, P.info? e = some i ∧ i.size = szOf U t ∧ i.zero = some z ∧ z.cells.size = i.size ∧ 0 < szOf U t ∧ 0 < i.bytes ∧ (∀ u ∈ z.cells.toList, u.oneCell' = true) ∧
    ∀ (j : Nat) (d : Datum U), (cellsOf U t (dfl U t))[j]? = some d → ∃ u, z.cells[j]? = some u ∧ ∀ (w : World) (M : Nat → Prop), Rep U w M d u := by
  unfold fitsB at h
  split at h
  · rename_i i hi
    split at h
    · rename_i z hz
      simp only [Bool.and_eq_true] at h
      obtain ⟨⟨⟨⟨⟨h1, h2⟩, h3⟩, h4⟩, h5⟩, h6⟩ := h
      refine ⟨i, z, hi, Nat.eq_of_beq_eq_true h1, hz, Nat.eq_of_beq_eq_true h2, Nat.le_of_ble_eq_true h3, Nat.le_of_ble_eq_true h4, List.all_eq_true.1 h5, fun j d hd => ?_⟩
      obtain ⟨u, hu, hz⟩ := zsOk_get h6 j d hd
      exact ⟨u, by rw [← Array.getElem?_toList]; exact hu, fun w M => zOk_rep hz w M⟩
    · cases h
  · cases h

def codesOf (l : List (TypeId × Ty)) (e : TypeId) : Option Ty := look e l

theorem fits_of {P : Program} {l : List (TypeId × Ty)} {con : FuncId → List (Con U)} {G : List (Nat × List FuncId)} {tab : List FuncId → Int → List (Con U)} {inv : Nat → String → List (Con U)} {yl : List (Nat × Nat)} {Y : Option (Con U)} {it : FuncId → List (Con U × Con U × List (Nat × Nat))} {mg : Bool} (h : l.all (fun x => fitsB (U := U) P x.1 x.2) = true) : (⟨P, codesOf l, con, G, tab, inv, yl, Y, it, mg⟩ : Env U).Fits := by
  refine ⟨fun e t he => fitsB_spec ?_⟩
  have : ∀ {l : List (TypeId × Ty)}, l.all (fun x => fitsB (U := U) P x.1 x.2) = true → look e l = some t → fitsB (U := U) P e t = true := by
    intro l
    induction l with
    | nil => intro _ h; simp [look] at h
    | cons x r ih =>
      intro ha hl
      obtain ⟨j, y⟩ := x
      simp only [List.all_cons, Bool.and_eq_true] at ha
      simp only [look] at hl
      split at hl
      · rename_i hb
        have hb := Nat.eq_of_beq_eq_true hb
        subst hb
        simp only [Option.some.injEq] at hl
        subst hl
        exact ha.1
      · exact ih ha.2 hl
  exact this h he

def consOf : List (FuncId × Con U) → FuncId → List (Con U)
  | [], _ => []
  | (g, k) :: r, f => bif Nat.beq g f then k :: consOf r f else consOf r f

theorem gives_of {Y : Fr} {P : Program} {G : List (Nat × List FuncId)} : ∀ {l : List (FuncId × Con U)}, (∀ x ∈ l, GivesY Y P G x.1 x.2) → ∀ f k, k ∈ consOf l f → GivesY Y P G f k
  | [], _, f, k, hk => by simp [consOf] at hk
  | (g, y) :: r, h, f, k, hk => by
    have more : k ∈ consOf r f → GivesY Y P G f k := gives_of (l := r) (fun x hx => h x (by simp [hx])) f k
    simp only [consOf] at hk
    revert hk
    cases hb : Nat.beq g f with
    | false => intro hk; exact more hk
    | true =>
      intro hk
      have hb := Nat.eq_of_beq_eq_true hb
      subst hb
      simp only [cond_true, List.mem_cons] at hk
      rcases hk with hk | hk
      · subst hk; exact h (g, k) (by simp)
      · exact more hk

def datsFrom : Nat → Nat → List CPat
  | _, 0 => []
  | i, n + 1 => .d i :: datsFrom (i + 1) n

def routOf : List Bool → Nat → Nat → List CPat
  | [], _, _ => []
  | true :: r, i, j => .row j :: routOf r (i + 1) (j + 1)
  | false :: r, i, j => .d i :: routOf r (i + 1) j

def ooutOf : List Bool → Nat → List OPat
  | [], _ => []
  | true :: r, i => .row i :: ooutOf r (i + 1)
  | false :: r, i => ooutOf r (i + 1)

def Con.flat (args : List (Bool × Nat)) (params : List Ty) (res : List (Bool × Nat)) (tys : List Ty) (own : List Bool) (pre : Option (Dens U.T params → Prop)) (fn : Dens U.T params → Dens U.T tys) : Con U :=
  ⟨args, params, datsFrom 0 params.length, [], pre, none, res, tys, routOf own 0 0, ooutOf own 0, fn, [], [], []⟩

end
end Go.VT
end

section
set_option linter.unusedVariables false
set_option linter.unusedSimpArgs false
namespace Go.VT
noncomputable section
variable {U : Univ}

def St.intAt (s : St U) (j : Nat) : Int := match look j s.σ with
  | some (.one (.d ⟨.int _, x⟩)) => x
  | _ => 0

def St.boxInt (s : St U) (id c : Nat) : Int := match look id s.h with
  | some (.box _ cs) => (match cs[c]? with
    | some (.d ⟨.int _, x⟩) => x
    | _ => 0)
  | _ => 0
def St.rowInts (s : St U) (id : Nat) : List Int := match look id s.h with
  | some (.row _ (.int _) l _ _) => l
  | _ => []
def St.intsAt (s : St U) (j : Nat) : List Int := match look j s.σ with
  | some (.one (.d ⟨.slice _ (.int _), l⟩)) => l
  | _ => []

theorem datsFrom_get : ∀ {n i j : Nat}, j < n → (datsFrom i n)[j]? = some (CPat.d (i + j))
  | 0, _, _, h => absurd h (Nat.not_lt_zero _)
  | n + 1, i, 0, _ => rfl
  | n + 1, i, j + 1, h => by
    rw [datsFrom, List.getElem?_cons_succ, datsFrom_get (by omega)]
    congr 2
    omega

theorem datsFrom_length : ∀ {n i : Nat}, (datsFrom i n).length = n
  | 0, _ => rfl
  | n + 1, i => by rw [datsFrom, List.length_cons, datsFrom_length]

theorem inv_one {P : Program} {G : List (Nat × List FuncId)} {i : Nat} {name : String} {res : List (Bool × Nat)} {tys : List Ty} {rout : List CPat} {oout : List OPat} (fn : U.T i → Dens U.T tys) (pre : U.T i → Prop)
    (H : ∀ x : U.T i, pre x → ∃ (t : TypeId) (b : Bool) (ps : List Ty) (c : Dens U.T ps) (f : FuncId) (g : Dens U.T ps → Dens U.T tys) (pf : Option (Dens U.T ps → Prop)), U.ifc i x = some (t, b, toList U ps c) ∧ holds (pf.map fun p => p c) ∧ g c = fn x ∧
      (∀ v w, (invoke (.fn (.method name) #[]) #[.iface t v]).run P w = .ok (.enter f #[v]) w) ∧ Gives P G f ⟨[(b, ps.length)], ps, datsFrom 0 ps.length, [], pf, none, res, tys, rout, oout, g, [], [], []⟩) :
    ∀ Y, GivesC Y (runI P name) G (⟨[(false, 1)], [.ifc i], [.d 0], [], some fun p => pre p.1, none, res, tys, rout, oout, fun p => fn p.1, [], [], []⟩ : Con U) := by
  rintro Y ⟨x, ⟨⟩⟩ hp F hY β w us vs hw hG K hnm hnm2 hc hpack
  obtain ⟨t, b, ps, c, f, g, pf, hx, hpf, hg, hinv, hgive⟩ := H x hp
  obtain ⟨u, hu⟩ : ∃ u, us = [u] := by
    have := hc.1
    match us, this with
    | [u], _ => exact ⟨u, rfl⟩
  subst hu
  have hr : Rep U w (Live β (canon (toList U [.ifc i] (x, ())) [])) ⟨.ifc i, x⟩ u := hc.2.2 0 _ u rfl rfl
  obtain ⟨c0, r0, vs0, h1, h2, h3, h4⟩ := hpack
  simp only [List.cons.injEq] at h1
  obtain ⟨rfl, rfl⟩ := h1
  obtain ⟨_, rfl⟩ := h4
  subst h3
  cases hr with
  | ifcNil _ _ hn => rw [hx] at hn; cases hn
  | ifc _ _ t' b' ds vs' h hl hs h1 hrr =>
    rw [hx] at h
    simp only [Option.some.injEq, Prod.mk.injEq] at h
    obtain ⟨rfl, rfl, rfl⟩ := h
    rw [toList_length] at hl
    have hpk : PackVals [(b, ps.length)] vs' [packV b vs'] := by
      cases b with
      | true => exact ⟨vs', [], .agg vs'.toArray, [], by simp, hl, rfl, rfl, rfl, rfl⟩
      | false =>
        have := hs rfl
        match vs', this with
        | [v], _ => exact ⟨v, [], [], rfl, by simpa using hl.symm, rfl, rfl, rfl⟩
    have hcr : CsRel w β (canon (toList U ps c) []) ((datsFrom 0 ps.length).map (iC (toList U ps c) oid (fun _ => 0))) vs' := by
      refine ⟨by rw [List.length_map, datsFrom_length]; exact hl, h1, fun j cc v hj hv => ?_⟩
      simp only [List.getElem?_map, Option.map_eq_some_iff] at hj
      obtain ⟨p, hp, rfl⟩ := hj
      have hjl : j < ps.length := by
        have := (List.getElem?_eq_some_iff.1 hp).1
        rwa [datsFrom_length] at this
      rw [datsFrom_get hjl, Nat.zero_add] at hp
      simp only [Option.some.injEq] at hp
      subst hp
      have hd : (toList U ps c)[j]? = some ((toList U ps c)[j]'(by rw [toList_length]; exact hjl)) := List.getElem?_eq_getElem _
      simp only [iC, hd]
      exact hrr j _ v hd hv
    have := (hgive Y).2 c hpf F (fun h => absurd rfl h) β w vs' [packV b vs'] hw hG K hnm hnm2 hcr hpk
    refine ⟨f, #[packV b vs'], hinv _ _, ?_⟩
    refine CallsIn.mono this (fun e w' he => ?_)
    cases e with
    | outgrown => exact he
    | panicked ch =>
      obtain ⟨b', u', hb', _⟩ := he
      cases hb'
    | returned v =>
      obtain ⟨_, β', rs, k1, k2, k3⟩ := he
      dsimp only at k1 k2 k3 ⊢
      rw [hg] at k1 k3
      exact ⟨(fun b' hb' => by cases hb'), β', rs, k1, k2, k3⟩

end
end Go.VT
end
