/-
RopeMakes returns true for every input, and each argument reads afterwards as it read before. Conditions: the package variable rope.kinds is laid as the program's text says (the tied card).
-/
import Derived.Test.YtcgjnkdcfpegiaaDoorV5
import Derived.Test.YtcgjnkdcfpegiaaDoorCards
import Derived.Test.YtcgjnkdcfpegiaaDoorTie
import Derived.SevenTiedAt

section
set_option linter.unusedVariables false
set_option linter.unusedSimpArgs false
set_option maxRecDepth 100000
open Go Go.VT
namespace Go.Rp

theorem nat_app {l e : List Node} {a : Int} (h0 : 0 ≤ a) (h1 : a < l.length) : nat_ (l ++ e) a = nat_ l a := by
  unfold nat_
  rw [List.getD_eq_getElem?_getD, List.getElem?_append_left (by omega), ← List.getD_eq_getElem?_getD]

theorem lens_app {l e : List Node} {a : Int} (h0 : 0 ≤ a) (h1 : a < l.length) : at_ (lensOf (l ++ e)) a = at_ (lensOf l) a := by
  have := lensOf_take (l ++ e) l.length (by simp)
  rw [List.take_left'  rfl] at this
  rw [this, at_take h0 h1]

theorem putL_long (l : List Node) (long : Int) : putL l (longOf l) long = longOf l ++ [((l.length : Int), long)] := by
  have := mput_long long (lensOf l) 0
  rw [lensOf_length, Nat.zero_add] at this
  exact this

/-- A store with a node more. -/
theorem open_snoc {l : List Node} {L : List (Int × Int)} (h : openOk l L) {x : Node} {long : Int} (hl : l.length < 4000) (hf : fieldsOf x l.length = true) (hx : lenOf (lensOf l) x = long) (hm : long ≤ 1048576) (hp : x.kind = 2 → isPartOf (at_ (lensOf l) x.a) x.from_ x.len = true) : openOk (l ++ [x]) (putL l L long) := by
  obtain ⟨h1, h2, rfl⟩ := h
  refine ⟨by simp; omega, ?_, ?_⟩
  · rw [valid_steps]
    intro i hi
    have hi : i < l.length + 1 := by simpa using hi
    rcases Nat.lt_succ_iff_lt_or_eq.1 hi with h3 | rfl
    · have := step_take (l := l ++ [x]) (i := l.length) (j := i) (by simp) h3
      rw [List.take_left' rfl] at this
      rw [← this]
      exact valid_steps.1 h2 i h3
    · have hg : (l ++ [x]).getD l.length node0 = x := by simp [List.getD_eq_getElem?_getD]
      have hn : (lensOf (l ++ [x])).getD l.length 0 = long := by
        rw [lensOf_snoc, List.getD_eq_getElem?_getD, List.getElem?_append_right (by rw [lensOf_length]; exact Nat.le_refl _), lensOf_length]
        simp [hx]
      unfold stepOk
      rw [hg, hn, hf]
      unfold nodeOk
      simp only [hm, decide_true, Bool.true_and, Bool.or_eq_true, decide_eq_true_eq, ne_eq]
      by_cases hk : x.kind = 2
      · right
        have ha := fields_a hf (by omega)
        rw [lens_app ha.1 ha.2]
        exact hp hk
      · left; exact hk
  · rw [putL_long, longOf_snoc, hx]

theorem lens_new {l : List Node} {x : Node} {long : Int} (hx : lenOf (lensOf l) x = long) : at_ (lensOf (l ++ [x])) l.length = long := by
  unfold at_
  rw [lensOf_snoc, Int.toNat_natCast, List.getD_eq_getElem?_getD, List.getElem?_append_right (by rw [lensOf_length]; exact Nat.le_refl _), lensOf_length]
  simp [hx]

theorem lg_open {l : List Node} {L : List (Int × Int)} (h : openOk l L) {a : Int} (h0 : 0 ≤ a) (h1 : a < l.length) : lg L a = at_ (lensOf l) a := by
  rw [h.2.2, lg_long h0 h1]

theorem pcs_fuel {l : List Node} (hv : validOf l = true) : ∀ (k k' : Nat) (a f m d : Int), 0 ≤ a → a < l.length → a.toNat < k → a.toNat < k' → pcsOf l k a f m d = pcsOf l k' a f m d
  | 0, _, _, _, _, _, _, _, h, _ => by omega
  | _, 0, _, _, _, _, _, _, _, h => by omega
  | k + 1, k' + 1, a, f, m, d, h0, h1, hk, hk' => by
    have hf := valid_fields hv a.toNat (by omega)
    have hfa : nat_ l a = l.getD a.toNat node0 := rfl
    rw [← hfa, show ((a.toNat : Nat) : Int) = a by omega] at hf
    unfold pcsOf
    split
    · rfl
    · split
      · rfl
      · rename_i hk0
        have hA := fields_a (i := a.toNat) (by rw [show ((a.toNat : Nat) : Int) = a by omega]; exact hf) hk0
        split
        · rename_i hk1
          have hB := ((fields_ahead (i := a.toNat) (by rw [show ((a.toNat : Nat) : Int) = a by omega]; exact hf)).1 hk1).2
          rw [pcs_fuel hv k k' _ _ _ _ hA.1 (by omega) (by omega) (by omega), pcs_fuel hv k k' _ _ _ _ hB.1 (by omega) (by omega) (by omega)]
        · split
          · rw [pcs_fuel hv k k' _ _ _ _ hA.1 (by omega) (by omega) (by omega)]
          · rw [pcs_fuel hv k k' _ _ _ _ hA.1 (by omega) (by omega) (by omega)]

theorem pcs_app {l e : List Node} (hv : validOf l = true) : ∀ (k : Nat) (a f m d : Int), 0 ≤ a → a < l.length → pcsOf (l ++ e) k a f m d = pcsOf l k a f m d
  | 0, _, _, _, _, _, _ => rfl
  | k + 1, a, f, m, d, h0, h1 => by
    have hf := valid_fields hv a.toNat (by omega)
    have hfa : nat_ l a = l.getD a.toNat node0 := rfl
    rw [← hfa] at hf
    unfold pcsOf
    rw [nat_app h0 h1]
    split
    · rfl
    · split
      · rfl
      · rename_i hk0
        have hA := fields_a hf hk0
        rw [lens_app hA.1 (by omega)]
        split
        · rename_i hk1
          have hB := ((fields_ahead hf).1 hk1).2
          rw [pcs_app hv k _ _ _ _ hA.1 (by omega), pcs_app hv k _ _ _ _ hB.1 (by omega)]
        · split
          · rw [pcs_app hv k _ _ _ _ hA.1 (by omega)]
          · rw [pcs_app hv k _ _ _ _ hA.1 (by omega)]

theorem pcsAt_app {l e : List Node} (hv : validOf l = true) {a : Int} (f m d : Int) (h0 : 0 ≤ a) (h1 : a < l.length) : pcsAt (l ++ e) a f m d = pcsAt l a f m d := pcs_app hv _ a f m d h0 h1

/-- How the pieces of a part go. -/
theorem pcs_cases {l : List Node} (hv : validOf l = true) {a : Int} (f m d : Int) (h0 : 0 ≤ a) (h1 : a < l.length) (hm : 0 < m) {x : Node} (hx : x = l.getD a.toNat node0) :
    (x.kind = 0 ∧ pcsAt l a f m d = [⟨a, f, m, d⟩]) ∨
    (x.kind = 1 ∧ pcsAt l a f m d = pcsAt l x.a f (max 0 (min m (at_ (lensOf l) x.a - f))) d ++ pcsAt l x.b (f + max 0 (min m (at_ (lensOf l) x.a - f)) - at_ (lensOf l) x.a) (m - max 0 (min m (at_ (lensOf l) x.a - f))) d) ∨
    (x.kind = 2 ∧ pcsAt l a f m d = pcsAt l x.a (x.from_ + f) m d) ∨
    (x.kind = 3 ∧ pcsAt l a f m d = pcsAt l x.a f m (word (w64 (d + x.n)))) := by
  have hf := valid_fields hv a.toNat (by omega)
  rw [← hx] at hf
  have hnx : nat_ l a = x := hx.symm
  have e : pcsAt l a f m d = pcsOf l (a.toNat + 1) a f m d := rfl
  unfold pcsOf at e
  rw [if_neg (by omega), hnx] at e
  obtain ⟨_, _, _, _, _, hkk⟩ := valid_lens hv a.toNat (by omega)
  rw [← hx] at hkk
  rcases hkk with k | k | k | k
  · left
    rw [if_pos k] at e
    exact ⟨k, e⟩
  · right; left
    have hA := fields_a hf (by omega)
    have hB := ((fields_ahead hf).1 k).2
    rw [if_neg (by omega), if_pos k, pcs_fuel hv a.toNat (x.a.toNat + 1) _ _ _ _ hA.1 (by omega) (by omega) (by omega), pcs_fuel hv a.toNat (x.b.toNat + 1) _ _ _ _ hB.1 (by omega) (by omega) (by omega)] at e
    exact ⟨k, e⟩
  · right; right; left
    have hA := fields_a hf (by omega)
    rw [if_neg (by omega), if_neg (by omega), if_pos k, pcs_fuel hv a.toNat (x.a.toNat + 1) _ _ _ _ hA.1 (by omega) (by omega) (by omega)] at e
    exact ⟨k, e⟩
  · right; right; right
    have hA := fields_a hf (by omega)
    rw [if_neg (by omega), if_neg (by omega), if_neg (by omega), pcs_fuel hv a.toNat (x.a.toNat + 1) _ _ _ _ hA.1 (by omega) (by omega) (by omega)] at e
    exact ⟨k, e⟩

theorem pcs_zero {l : List Node} {a f m d : Int} (h : m ≤ 0) : pcsAt l a f m d = [] := by
  unfold pcsAt pcsOf
  rw [if_pos h]

/-- What the pieces of a part are like. -/
theorem pcs_ok {l : List Node} {L : List (Int × Int)} (ho : openOk l L) : ∀ (k : Nat) (a f m d : Int), a.toNat = k → walkPre l L a f m d → (∀ p ∈ pcsAt l a f m d, evnPre l L p.node p.from_ p.len p.n) ∧ ((pcsAt l a f m d).map Piece.len).sum = m ∧ (pcsAt l a f m d).length ≤ m.toNat := by
  intro k
  induction k using Nat.strongRecOn with
  | ind k ih =>
    intro a f m d hk ⟨⟨hl, hv, hL⟩, ⟨a0, a1⟩, hd, m0, hfm⟩
    by_cases hm : m ≤ 0
    · rw [pcs_zero hm]
      exact ⟨fun p hp => by simp at hp, by simp; omega, by simp⟩
    · obtain ⟨f0, f1⟩ := hfm (by omega)
      have hcs := walk_cases hl hv a0 a1 (by omega) f0 f1 hd (x := l.getD a.toNat node0) rfl
      have hpc := pcs_cases hv f m d a0 a1 (by omega) (x := l.getD a.toNat node0) rfl
      have hlb := (lens_bound hv a0 a1).2
      generalize hx : l.getD a.toNat node0 = x at hcs hpc
      rcases hcs with ⟨k0, hlen, _⟩ | ⟨k0, ha, hb, hA, hsum, hle, _⟩ | ⟨k0, ha, hf, hle, hin, _⟩ | ⟨k0, ha, hin, _⟩
      · rcases hpc with ⟨_, hp⟩ | ⟨k', _⟩ | ⟨k', _⟩ | ⟨k', _⟩
        · rw [hp]
          refine ⟨fun p hp => ?_, by simp, by simp; omega⟩
          simp only [List.mem_singleton] at hp
          subst hp
          exact ⟨ho, ⟨a0, a1⟩, by rw [show nat_ l a = x from hx]; exact k0, hd, by dsimp only; omega, by dsimp only; omega, f0, f1⟩
        · omega
        · omega
        · omega
      · rcases hpc with ⟨k', _⟩ | ⟨_, hp⟩ | ⟨k', _⟩ | ⟨k', _⟩
        · omega
        · rw [hp]
          generalize hq : max 0 (min m (at_ (lensOf l) x.a - f)) = q
          obtain ⟨g1, g2, g3⟩ := ih x.a.toNat (by omega) x.a f q d rfl ⟨⟨hl, hv, hL⟩, ⟨ha.1, by omega⟩, hd, by omega, fun h => by omega⟩
          obtain ⟨h1, h2, h3⟩ := ih x.b.toNat (by omega) x.b (f + q - at_ (lensOf l) x.a) (m - q) d rfl ⟨⟨hl, hv, hL⟩, ⟨hb.1, by omega⟩, hd, by omega, fun h => by omega⟩
          refine ⟨fun p hp => ?_, by rw [List.map_append, List.sum_append, g2, h2]; omega, by rw [List.length_append]; omega⟩
          rcases List.mem_append.1 hp with hp | hp
          · exact g1 p hp
          · exact h1 p hp
        · omega
        · omega
      · rcases hpc with ⟨k', _⟩ | ⟨k', _⟩ | ⟨_, hp⟩ | ⟨k', _⟩
        · omega
        · omega
        · rw [hp]
          exact ih x.a.toNat (by omega) x.a (x.from_ + f) m d rfl ⟨⟨hl, hv, hL⟩, ⟨ha.1, by omega⟩, hd, by omega, fun h => by omega⟩
        · omega
      · rcases hpc with ⟨k', _⟩ | ⟨k', _⟩ | ⟨k', _⟩ | ⟨_, hp⟩
        · omega
        · omega
        · omega
        · rw [hp]
          exact ih x.a.toNat (by omega) x.a f m _ rfl ⟨⟨hl, hv, hL⟩, ⟨ha.1, by omega⟩, isWord_word _, by omega, fun h => by omega⟩

theorem sumL_snoc (L : List (Int × Int)) (r : List Int) (a : Int) : sumL L (r ++ [a]) = sumL L r + lg L a := by simp [sumL]
theorem sumL_app (L : List (Int × Int)) (r q : List Int) : sumL L (r ++ q) = sumL L r + sumL L q := by simp [sumL]
theorem sumL_congr {L L' : List (Int × Int)} {r : List Int} (h : ∀ a ∈ r, lg L' a = lg L a) : sumL L' r = sumL L r := by
  unfold sumL
  rw [List.map_congr_left h]

/-- A store with ropes, grown out of another one. -/
structure Evn.Ok (S : Evn) (l : List Node) (t : Int) : Prop where
  op : openOk S.l S.L
  pre : ∃ e, S.l = l ++ e
  ins : ∀ a ∈ S.r, 0 ≤ a ∧ a < S.l.length
  sum : sumL S.L S.r = t

theorem put_ok {l : List Node} {L : List (Int × Int)} (ho : openOk l L) {c : Bool} {rope : Int} (hr : 0 ≤ rope ∧ rope < l.length) {x : Node} {long : Int} (hlong : c = false → lg L rope = long) (hx : c = true → fieldsOf x l.length = true ∧ lenOf (lensOf l) x = long ∧ long ≤ 1048576 ∧ (x.kind = 2 → isPartOf (at_ (lensOf l) x.a) x.from_ x.len = true))
    (hfull : (putIf c l L rope x long).1.length ≤ 4000) : openOk (putIf c l L rope x long).1 (putIf c l L rope x long).2.1 ∧ (∃ e, (putIf c l L rope x long).1 = l ++ e) ∧ (0 ≤ (putIf c l L rope x long).2.2 ∧ (putIf c l L rope x long).2.2 < (putIf c l L rope x long).1.length) ∧ lg (putIf c l L rope x long).2.1 (putIf c l L rope x long).2.2 = long := by
  cases c with
  | false =>
    exact ⟨ho, ⟨[], by simp [putIf]⟩, hr, hlong rfl⟩
  | true =>
    obtain ⟨x1, x2, x3, x4⟩ := hx rfl
    have hl : l.length < 4000 := by
      simp only [putIf, if_true, List.length_append, List.length_singleton] at hfull
      omega
    have hn := open_snoc ho hl x1 x2 x3 x4
    simp only [putIf, if_true]
    refine ⟨hn, ⟨[x], rfl⟩, ⟨by omega, by simp; omega⟩, ?_⟩
    rw [lg_open hn (by omega) (by simp; omega), lens_new x2]

theorem put_len (c : Bool) (l : List Node) (L : List (Int × Int)) (rope : Int) (x : Node) (long : Int) : l.length ≤ (putIf c l L rope x long).1.length := by
  cases c <;> simp [putIf]

theorem put_lg {l : List Node} {L : List (Int × Int)} (ho : openOk l L) {c : Bool} {rope : Int} {x : Node} {long : Int} {l' : List Node} {L' : List (Int × Int)} (ho' : openOk l' L') (hp : ∃ e, l' = l ++ e) {a : Int} (h0 : 0 ≤ a) (h1 : a < l.length) : lg L' a = lg L a := by
  obtain ⟨e, rfl⟩ := hp
  rw [lg_open ho' h0 (by simp; omega), lg_open ho h0 h1, lens_app h0 h1]

theorem lens_words {l : List Node} (hv : validOf l = true) {a : Int} (h0 : 0 ≤ a) (h1 : a < l.length) : 0 ≤ at_ (lensOf l) a ∧ at_ (lensOf l) a ≤ 1048576 := lens_bound hv h0 h1

/-- A piece more. -/
theorem step_ok {S : Evn} {l : List Node} {t : Int} (h : S.Ok l t) {p : Piece} (hp : evnPre S.l S.L p.node p.from_ p.len p.n) (hf : (S.step p).full = false) : (S.step p).Ok l (t + p.len) := by
  obtain ⟨ho, ⟨n0, n1⟩, hk, hw, m0, m1, f0, f1⟩ := hp
  have hbd := lens_bound ho.2.1 n0 n1
  have hlg := lg_open ho n0 n1
  have hfl : (S.off p).1.length ≤ 4000 := by
    have hf : decide (4000 < (S.off p).1.length) = false := hf
    simp only [decide_eq_false_iff_not] at hf
    omega
  have hpl : (S.part p).1.length ≤ 4000 := Nat.le_trans (put_len _ _ _ _ _ _) hfl
  have hA := put_ok (c := decide (p.len < lg S.L p.node)) (x := ⟨2, p.node, 0, p.from_, p.len, 0, []⟩) (long := p.len) ho ⟨n0, n1⟩ (fun hc => by
    have : ¬ p.len < lg S.L p.node := by simpa using hc
    omega) (fun hc => ⟨by
      unfold fieldsOf
      simp [lies]
      omega, by simp [lenOf]; omega, m1, fun _ => by
      unfold isPartOf
      rw [Bool.and_eq_true, lies_iff, lies_iff]
      dsimp only
      rw [show w64 (at_ (lensOf S.l) p.node - p.from_) = at_ (lensOf S.l) p.node - p.from_ from w64_id (by omega) (by omega)]
      omega⟩) hpl
  have hA : openOk (S.part p).1 (S.part p).2.1 ∧ (∃ e, (S.part p).1 = S.l ++ e) ∧ (0 ≤ (S.part p).2.2 ∧ (S.part p).2.2 < (S.part p).1.length) ∧ lg (S.part p).2.1 (S.part p).2.2 = p.len := hA
  obtain ⟨a1, a2, a3, a4⟩ := hA
  have hB := put_ok (c := p.n != 0) (x := ⟨3, (S.part p).2.2, 0, 0, 0, p.n, []⟩) (long := p.len) a1 a3 (fun _ => a4) (fun hc => ⟨by
      unfold fieldsOf
      simp [lies, hw]
      omega, by
      have := lg_open a1 a3.1 a3.2
      simp only [lenOf]
      rw [if_neg (by decide), if_neg (by decide), if_neg (by decide), ← this, a4]
      omega, m1, fun h => by cases h⟩) hfl
  have hB : openOk (S.off p).1 (S.off p).2.1 ∧ (∃ e, (S.off p).1 = (S.part p).1 ++ e) ∧ (0 ≤ (S.off p).2.2 ∧ (S.off p).2.2 < (S.off p).1.length) ∧ lg (S.off p).2.1 (S.off p).2.2 = p.len := hB
  obtain ⟨b1, b2, b3, b4⟩ := hB
  obtain ⟨e1, he1⟩ := h.pre
  have hpre : ∃ e, (S.off p).1 = S.l ++ e := by
    obtain ⟨e2, he2⟩ := a2
    obtain ⟨e3, he3⟩ := b2
    exact ⟨e2 ++ e3, by rw [he3, he2, List.append_assoc]⟩
  have hlen : S.l.length ≤ (S.off p).1.length := by obtain ⟨e, he⟩ := hpre; rw [he]; simp
  refine ⟨b1, ?_, fun a ha => ?_, ?_⟩
  · obtain ⟨e, he⟩ := hpre
    exact ⟨e1 ++ e, by show (S.off p).1 = _; rw [he, he1, List.append_assoc]⟩
  · simp only [Evn.step, List.mem_append, List.mem_singleton] at ha
    rcases ha with ha | rfl
    · have := h.ins a ha
      show 0 ≤ a ∧ a < (S.off p).1.length
      omega
    · exact b3
  · show sumL (S.off p).2.1 (S.r ++ [(S.off p).2.2]) = _
    rw [sumL_snoc, sumL_congr (L := S.L) (fun a ha => put_lg (c := true) (rope := 0) (x := node0) (long := 0) ho b1 hpre (h.ins a ha).1 (h.ins a ha).2), h.sum]
    congr 1

theorem step_len (S : Evn) (p : Piece) : S.l.length ≤ (S.step p).l.length ∧ (S.step p).r.length = S.r.length + 1 :=
  ⟨Nat.le_trans (put_len _ _ _ _ _ _) (put_len _ _ _ _ _ _), by simp [Evn.step]⟩

theorem run_ok : ∀ {ps : List Piece} {S : Evn} {l : List Node} {L : List (Int × Int)} {t : Int}, S.Ok l t → openOk l L → (∀ p ∈ ps, evnPre l L p.node p.from_ p.len p.n) → (Evn.run ps S).full = false → ∃ t', (Evn.run ps S).Ok l t' ∧ ((Evn.run ps S).many = false → t' = t + (ps.map Piece.len).sum)
  | [], S, l, L, t, h, _, _, _ => ⟨t, h, fun _ => by simp⟩
  | p :: ps, S, l, L, t, h, ho, hps, hf => by
    unfold Evn.run at hf ⊢
    have hpp := hps p (by simp)
    have hpS : evnPre S.l S.L p.node p.from_ p.len p.n := by
      obtain ⟨e, he⟩ := h.pre
      obtain ⟨_, ⟨n0, n1⟩, hk, hw, m0, m1, f0, f1⟩ := hpp
      refine ⟨h.op, ⟨n0, by rw [he]; simp; omega⟩, by rw [he, nat_app n0 n1]; exact hk, hw, m0, m1, f0, by rw [he, lens_app n0 n1]; exact f1⟩
    cases hc : (S.step p).full || (S.step p).many with
    | true =>
      rw [hc] at hf
      simp only [if_true] at hf ⊢
      refine ⟨_, step_ok h hpS hf, fun hm => ?_⟩
      rw [hf, hm] at hc
      cases hc
    | false =>
      rw [hc] at hf
      simp only [Bool.false_eq_true, if_false] at hf ⊢
      have hs : (S.step p).full = false := by
        cases hh : (S.step p).full with
        | false => rfl
        | true => rw [hh] at hc; simp at hc
      obtain ⟨t', h1, h2⟩ := run_ok (step_ok h hpS hs) ho (fun q hq => hps q (by simp [hq])) hf
      exact ⟨t', h1, fun hm => by rw [h2 hm]; simp; omega⟩

theorem run_app : ∀ {ps qs : List Piece} {S : Evn}, S.full = false → S.many = false → Evn.run (ps ++ qs) S = if (Evn.run ps S).full || (Evn.run ps S).many then Evn.run ps S else Evn.run qs (Evn.run ps S)
  | [], qs, S, h1, h2 => by simp [Evn.run, h1, h2]
  | p :: ps, qs, S, h1, h2 => by
    simp only [List.cons_append, Evn.run]
    by_cases hc : ((S.step p).full || (S.step p).many) = true
    · simp only [if_pos hc]
    · simp only [if_neg hc]
      have hc : ((S.step p).full || (S.step p).many) = false := by simpa using hc
      simp only [Bool.or_eq_false_iff] at hc
      exact run_app hc.1 hc.2

theorem run_many : ∀ {ps : List Piece} {S : Evn}, S.r.length ≤ 4001 → (Evn.run ps S).r.length ≤ 4002
  | [], S, h => by simp [Evn.run]; omega
  | p :: ps, S, h => by
    unfold Evn.run
    have := (step_len S p).2
    split
    · omega
    · rename_i hc
      have : (S.step p).r.length ≤ 4001 := by
        simp only [Bool.or_eq_true, not_or, Evn.many, decide_eq_true_eq] at hc
        omega
      exact run_many this
end Go.Rp
end

section
set_option linter.unusedVariables false
set_option linter.unusedSimpArgs false
set_option maxRecDepth 100000
open Go Go.VT
namespace Go.Rp

/-- How many words of a part lie in the first of two ropes. -/
theorem first_of (f m A : Int) (h : -9223372036854775808 ≤ A - f) (h2 : A - f < 9223372036854775808) (hm : 0 ≤ m) {q : Int} (hq : q = if (if IntKind.i64.wrap (A - f) < m then IntKind.i64.wrap (A - f) else m) > 0 then (if IntKind.i64.wrap (A - f) < m then IntKind.i64.wrap (A - f) else m) else 0) :
    0 ≤ q ∧ q ≤ m ∧ (0 < q → f + q ≤ A) ∧ (q < m → A ≤ f + q) := by
  have hw : IntKind.i64.wrap (A - f) = A - f := w64_id h h2
  rw [hw] at hq
  by_cases h1 : A - f < m
  · rw [if_pos h1] at hq
    split at hq <;> omega
  · rw [if_neg h1] at hq
    split at hq <;> omega

theorem ite_zero {b : Bool} {p : Prop} (h : b = !b) : p := by cases b <;> cases h

theorem flatW_vc (a f m d : Int) (l : List Node) (L : List (Int × Int)) (out : List Int) (st : Int) (hp : walkPre l L a f m d ∧ (out.length : Int) + m ≤ 1048576 ∧ st = 0) :
    vc ((EVy recYl (some cFlatY) []).set 79 ((cFlatW ghW).below mFlatW (mFlatW (a, f, m, d, l, L, out, st, ())))) noL Go.Proofs.Tryd.f79 (cFlatW ghW) (a, f, m, d, l, L, out, st, ()) := (flatW_eq a f m d l L out st).mpr (by
  intro e5 e4 e3 e2 e1 e0 _ _
  obtain ⟨⟨⟨hl, hv, rfl⟩, ⟨a0, a1⟩, hd, m0, hfm⟩, ho, rfl⟩ := hp
  have he5 : e5 = (out.length : Int) + m := rfl
  have he3 : e3 = a.toNat := rfl
  have he2 : e2 = (true, l, longOf l, out ++ walkW l a f m d, 0, ()) := rfl
  have he1 : e1 = l.getD a.toNat node0 := rfl
  have hlg : 0 ≤ e1.a → e1.a < l.length → Option.getD (mget (fun (x y : Int) => x == y) (longOf l) e1.a) (0 : Int) = at_ (lensOf l) e1.a := fun h h' => lg_long h h'
  refine ⟨⟨a0, a1⟩, fun h => ?_, fun h => ?_⟩
  · have h : m = 0 := by simpa using h
    rw [he2, walk_zero (by omega), List.append_nil]
  · have h : ¬ m = 0 := by simpa using h
    obtain ⟨f0, f1⟩ := hfm (by omega)
    have hcs := walk_cases hl hv a0 a1 (by omega) f0 f1 hd he1
    have hmf : ∀ (b g k c : Int) (o : List Int), mFlatW (b, g, k, c, l, longOf l, o, 0, ()) = b.toNat := fun _ _ _ _ _ => rfl
    have hlb := (lens_bound hv a0 a1).2
    clear_value e1 e3 e5
    subst he5 he3
    rcases hcs with ⟨k, hlen, hw⟩ | ⟨k, ha, hb, hA, hsum, hle, hspl⟩ | ⟨k, ha, hf, hle, hin, hw⟩ | ⟨k, ha, hin, hw⟩
    · refine ⟨fun _ => ⟨⟨⟨⟨⟨⟨⟨hl, hv, rfl⟩, ⟨a0, a1⟩, hd, by omega, f0, ?_⟩, ho, rfl⟩, trivial⟩, rfl, trivial⟩, rfl, trivial⟩, ?_⟩, fun hk => by simp [k] at hk⟩
      · rw [show nat_ l a = e1 from he1.symm]; exact hlen
      · rw [he2, hw]
    · refine ⟨fun hk => by simp [k] at hk, fun _ => ⟨fun hk => by simp [k] at hk, fun _ => ⟨fun hk => by simp [k] at hk, fun _ => ⟨fun _ => ?_, fun hc => ite_zero hc⟩⟩⟩⟩
      have hgA := hlg ha.1 (by omega)
      obtain ⟨q0, q1, q2, q3⟩ := first_of f m (at_ (lensOf l) e1.a) (by omega) (by omega) m0 (q := e0) (by simp only [e0, hgA])
      rw [hgA]
      clear_value e0
      have w1 : IntKind.i64.wrap (m - e0) = m - e0 := w64_id (by omega) (by omega)
      have w2 : IntKind.i64.wrap (f + e0) = f + e0 := w64_id (by omega) (by omega)
      have w3 : IntKind.i64.wrap (f + e0 - at_ (lensOf l) e1.a) = f + e0 - at_ (lensOf l) e1.a := w64_id (by omega) (by omega)
      rw [w1, w2, w3]
      have hwl := walk_length (l := l) (a := e1.a) (f := f) (m := e0) (add := d) q0
      refine ⟨⟨⟨⟨⟨⟨⟨⟨⟨⟨⟨hl, hv, rfl⟩, ⟨ha.1, by omega⟩, hd, q0, fun h => ⟨f0, q2 h⟩⟩, by omega, rfl⟩, ?_⟩, trivial⟩, trivial⟩, rfl, trivial⟩, rfl, trivial⟩, trivial⟩, trivial⟩, ⟨⟨⟨⟨⟨⟨⟨⟨⟨⟨hl, hv, rfl⟩, ⟨hb.1, by omega⟩, hd, by omega, fun h => ?_⟩, ?_, rfl⟩, ?_⟩, trivial⟩, trivial⟩, rfl, trivial⟩, rfl, trivial⟩, trivial⟩, trivial⟩, ?_⟩
      · show e1.a.toNat < a.toNat; omega
      · have := q3 (by omega); omega
      · rw [List.length_append]; omega
      · show e1.b.toNat < a.toNat; omega
      · rw [he2, hspl e0 q0 q1 q2 q3, List.append_assoc]
        rfl
    · refine ⟨fun hk => by simp [k] at hk, fun _ => ⟨fun _ => ?_, fun hk => by simp [k] at hk⟩⟩
      have w1 : IntKind.i64.wrap (f + e1.from_) = e1.from_ + f := by rw [Int.add_comm]; exact w64_id (by omega) (by omega)
      rw [w1]
      refine ⟨⟨⟨⟨⟨⟨⟨⟨⟨⟨⟨hl, hv, rfl⟩, ⟨ha.1, by omega⟩, hd, m0, fun h => by omega⟩, ho, rfl⟩, ?_⟩, trivial⟩, trivial⟩, rfl, trivial⟩, rfl, trivial⟩, trivial⟩, trivial⟩, ?_⟩
      · show e1.a.toNat < a.toNat; omega
      · rw [he2, hw]
    · refine ⟨fun hk => by simp [k] at hk, fun _ => ⟨fun hk => by simp [k] at hk, fun _ => ⟨fun _ => ?_, fun hk => by simp [k] at hk⟩⟩⟩
      have w1 : IntKind.i64.wrap (IntKind.i32.wrap (IntKind.i64.wrap (d + e1.n))) = word (w64 (d + e1.n)) := conv_word _
      rw [w1]
      refine ⟨⟨⟨⟨⟨⟨⟨⟨⟨⟨⟨hl, hv, rfl⟩, ⟨ha.1, by omega⟩, isWord_word _, m0, fun h => ⟨f0, hin⟩⟩, ho, rfl⟩, ?_⟩, trivial⟩, trivial⟩, rfl, trivial⟩, rfl, trivial⟩, trivial⟩, trivial⟩, ?_⟩
      · show e1.a.toNat < a.toNat; omega
      · rw [he2, hw])

theorem flatK_vc (a f m d : Int) (l : List Node) (L : List (Int × Int)) (out : List Int) (st : Int) (hp : walkPre l L a f m d ∧ (out.length : Int) + m ≤ 1048576 ∧ st = 0) :
    vc (EVy walkYl (some cFlatY) [(79, cFlatW ghK)]) noL Go.Proofs.Tryd.f78 cFlatK (a, f, m, d, l, L, out, st, ()) := (flatK_eq a f m d l L out st).mpr (by
  intro e0 _ _
  exact ⟨⟨⟨⟨⟨⟨⟨⟨hp.1, hp.2⟩, trivial⟩, trivial⟩, rfl, trivial⟩, rfl, trivial⟩, trivial⟩, trivial⟩, rfl⟩)

theorem itFlat_ok : ItOk itFlat := by
  intro f k kY mp h Y hY
  unfold itFlat at h
  cases hb : Nat.beq f 78 with
  | false => rw [hb] at h; cases h
  | true =>
    rw [hb] at h
    have hf := Nat.eq_of_beq_eq_true hb
    subst hf
    simp only [cond_true, List.mem_singleton, Prod.mk.injEq] at h
    obtain ⟨rfl, rfl, rfl⟩ := h
    have h79 : GivesY Y prog RG 79 (cFlatW ghW) := vc_gives_rec (E := EVy recYl (some cFlatY) []) (fitsY _ _ _) ⟨gives_of (fun x hx => by cases hx), fun _ _ _ _ _ h => (by cases h), fun _ _ _ h => (by cases h), fun k hk => by cases hk; exact hY, fun _ _ _ _ h => (by cases h)⟩ mixed Go.Proofs.Tryd.func79 (by kernel_rfl) mFlatW (fun _ => noL)
      (fun (a, f, m, d, l, L, out, st, ()) hp => flatW_vc a f m d l L out st hp) (by kernel_rfl) rfl
    have h79' : GivesY Y prog RG 79 (cFlatW ghK) := h79
    exact vc_gives (E := EVy walkYl (some cFlatY) [(79, cFlatW ghK)]) (fitsY _ _ _) ⟨gives_of (fun x hx => by rcases List.mem_cons.1 hx with h1 | h1
                                                                                                              · subst h1; exact h79'
                                                                                                              · cases h1), fun _ _ _ _ _ h => (by cases h), fun _ _ _ h => (by cases h), fun k hk => by cases hk; exact hY, fun _ _ _ _ h => (by cases h)⟩ mixed Go.Proofs.Tryd.func78 (by kernel_rfl) (fun _ => noL)
      (fun (a, f, m, d, l, L, out, st, ()) hp => flatK_vc a f m d l L out st hp) (by kernel_rfl) rfl

theorem walk_flat {l : List Node} {a : Int} (hl : l.length ≤ 4000) (hv : validOf l = true) (h0 : 0 ≤ a) (h1 : a < l.length) : walkW l a 0 (at_ (lensOf l) a) 0 = (List.range (at_ (lensOf l) a).toNat).map fun p : Nat => (wayAt l a p).2 := by
  unfold walkW
  refine List.map_congr_left (fun i hi => ?_)
  have hi := List.mem_range.1 hi
  rw [Int.zero_add]
  have hw := (way_bounds hl hv _ a i rfl h0 h1 (by omega) (by omega)).2
  have := isWord_iff.1 hw
  rw [Int.add_zero, show w64 (wayAt l a i).2 = (wayAt l a i).2 from w64_id (by omega) (by omega), word_id hw]

theorem flatP_vc (l : List Node) (a : Int) : vcD (EVx (fun _ _ => []) itFlat [(49, cOpen), (52, cPieces)]) cC lFlat Go.Proofs.Tryd.f17 cFlatR (l, a, ()) := (flatP_eq l a).mpr (by
  intro e2 e1 e0 _
  refine ⟨fun h => ?_, fun h => ?_⟩
  · have h := ne_true.1 h
    simp only [e1, flatAt, if_pos h]
  · have h := ne_false.1 h
    obtain ⟨h1, h2, h3⟩ := asked_ok h
    have ha := h3 a (by simp)
    have hbd := lens_bound h2 ha.1 ha.2
    have he0 : e0 = at_ (lensOf l) a := lg_long ha.1 ha.2
    refine ⟨⟨⟨rfl, trivial⟩, rfl, trivial⟩, ?_, ⟨⟨⟨⟨⟨⟨⟨⟨h1, h2, rfl⟩, ha, rfl, by omega, fun _ => ⟨by omega, by omega⟩⟩, by simp; omega, rfl⟩, trivial⟩, rfl, trivial⟩, rfl, trivial⟩, trivial⟩, rfl, ?_⟩⟩
    · rintro ⟨node, f, m, d, out, l', L', st, ⟨⟩⟩
      dsimp only
      rintro ⟨⟨⟨hl, hv, rfl⟩, ⟨n0, n1⟩, hd, m0, f0, f1⟩, ho, rfl⟩ _ _
      have hw : IntKind.i64.wrap (f + m) = f + m := by
        have := valid_few hv (l'.getD node.toNat node0) (by simp only [List.getD, List.getElem?_eq_getElem (show node.toNat < l'.length by omega)]; exact List.getElem_mem _)
        have f1 : f + m ≤ ((l'.getD node.toNat node0).words.length : Int) := f1
        exact w64_id (by omega) (by omega)
      have f1 : f + m ≤ ((l'.getD node.toNat node0).words.length : Int) := f1
      have hlen := valid_few hv (l'.getD node.toNat node0) (by simp only [List.getD, List.getElem?_eq_getElem (show node.toNat < l'.length by omega)]; exact List.getElem_mem _)
      rw [hw]
      have hws : ∀ ws : List Int, ws = List.drop f.toNat (List.take (f + m).toNat (l'.getD node.toNat node0).words) → ws.length ≤ 4000000 ∧ rwords l' node f m d = ws.map fun n => word (w64 (n + d)) := by
        rintro ws rfl
        refine ⟨by simp; omega, rfl⟩
      obtain ⟨g1, g2⟩ := hws _ rfl
      generalize List.drop f.toNat (List.take (f + m).toNat (l'.getD node.toNat node0).words) = ws at g1 g2
      simp only [true_and, and_true]
      refine ⟨⟨n0, n1⟩, ⟨f0, by omega, f1⟩, ⟨(0, out, ()), rfl, rfl, by simp, by simp, by simp⟩, fun (k, o, ()) => ?_⟩
      dsimp only
      rintro ⟨k0, k1, rfl⟩
      obtain ⟨k, rfl⟩ := Int.eq_ofNat_of_zero_le k0
      simp only [Int.toNat_natCast]
      refine ⟨fun hk => ?_, fun hk => ?_⟩
      · have hk : k < ws.length := by simpa using hk
        refine ⟨⟨k0, by omega⟩, ?_, ((k + 1 : Nat), _, ()), ?_, rfl, ⟨by omega, by dsimp only; omega, ?_⟩, by dsimp only; omega⟩
        · simp
          omega
        · rw [w64_id (by omega) (by omega)]; rfl
        · dsimp only
          rw [Int.toNat_natCast, take_succ_getD hk 0, List.map_append, List.append_assoc]
          congr 2
          simp only [List.map_cons, List.map_nil]
          rw [conv_word]
      · have hk : ws.length ≤ k := by simpa using hk
        rw [List.take_of_length_le hk, g2]
    · simp only [e1, flatAt, h, ne_eq, not_true, if_false, List.nil_append]
      rw [he0, walk_flat h1 h2 ha.1 ha.2])
theorem flatP_gives : Gives prog RG 17 cFlatR := givesDX (fun _ _ _ h => by cases h) itFlat_ok (allCons open_gives (allCons pieces_gives allNil)) (fun _ => lFlat) (by kernel_rfl) (by kernel_rfl) (by kernel_rfl) fun (l, a, ()) _ => flatP_vc l a
end Go.Rp
end

section
set_option linter.unusedVariables false
set_option linter.unusedSimpArgs false
set_option maxRecDepth 100000
open Go Go.VT
namespace Go.Rp

theorem step_open {S : Evn} (ho : openOk S.l S.L) {p : Piece} (hp : evnPre S.l S.L p.node p.from_ p.len p.n) (hf : (S.step p).full = false) : openOk (S.step p).l (S.step p).L ∧ ∃ e, (S.step p).l = S.l ++ e := by
  have h0 : (⟨S.l, S.L, []⟩ : Evn).Ok S.l 0 := ⟨ho, ⟨[], by simp⟩, fun a ha => by simp at ha, rfl⟩
  have := step_ok h0 (p := p) hp hf
  exact ⟨this.op, this.pre⟩

theorem run_open : ∀ {ps : List Piece} {S : Evn} {l : List Node} {L : List (Int × Int)}, openOk S.l S.L → (∃ e, S.l = l ++ e) → openOk l L → (∀ p ∈ ps, evnPre l L p.node p.from_ p.len p.n) → (Evn.run ps S).full = false → openOk (Evn.run ps S).l (Evn.run ps S).L ∧ ∃ e, (Evn.run ps S).l = l ++ e
  | [], S, l, L, h1, h2, _, _, _ => ⟨h1, h2⟩
  | p :: ps, S, l, L, h1, h2, ho, hps, hf => by
    unfold Evn.run at hf ⊢
    have hpS : evnPre S.l S.L p.node p.from_ p.len p.n := by
      obtain ⟨e, he⟩ := h2
      obtain ⟨_, ⟨n0, n1⟩, hk, hw, m0, m1, f0, f1⟩ := hps p (by simp)
      exact ⟨h1, ⟨n0, by rw [he]; simp; omega⟩, by rw [he, nat_app n0 n1]; exact hk, hw, m0, m1, f0, by rw [he, lens_app n0 n1]; exact f1⟩
    have nxt : (S.step p).full = false → openOk (S.step p).l (S.step p).L ∧ ∃ e, (S.step p).l = l ++ e := fun hs => by
      obtain ⟨q1, e2, q2⟩ := step_open h1 hpS hs
      obtain ⟨e1, he1⟩ := h2
      exact ⟨q1, e1 ++ e2, by rw [q2, he1, List.append_assoc]⟩
    by_cases hc : ((S.step p).full || (S.step p).many) = true
    · rw [if_pos hc] at hf ⊢
      exact nxt hf
    · rw [if_neg hc] at hf ⊢
      have hc : ((S.step p).full || (S.step p).many) = false := by simpa using hc
      simp only [Bool.or_eq_false_iff] at hc
      obtain ⟨q1, q2⟩ := nxt hc.1
      exact run_open q1 q2 ho (fun q hq => hps q (by simp [hq])) hf

theorem run_one (S : Evn) (p : Piece) : Evn.run [p] S = S.step p := by
  simp [Evn.run]

theorem piecesE_gives : Gives prog RG 52 cPiecesE := gives allNil (fun _ => noL) (by kernel_rfl) (by kernel_rfl) (by kernel_rfl) fun (l, L, a, f, m, d, ()) _ => (piecesE_eq l L a f m d).mpr (by
  intros
  first | rfl | trivial | exact ⟨⟨rfl, trivial⟩, rfl⟩ | simp)

theorem max_first (f m A : Int) (hm : 0 ≤ m) {q : Int} (h1 : 0 ≤ q) (h2 : q ≤ m) (h3 : 0 < q → f + q ≤ A) (h4 : q < m → A ≤ f + q) : max 0 (min m (A - f)) = q := by omega

theorem dist3 {p a b c : Prop} (h : p → a ∧ b ∧ c) : (p → a) ∧ (p → b) ∧ (p → c) := ⟨fun x => (h x).1, fun x => (h x).2.1, fun x => (h x).2.2⟩

theorem evenW_vc (a f m d : Int) (l : List Node) (L : List (Int × Int)) (out : List Int) (st : Int) (hp : walkPre l L a f m d ∧ out.length ≤ 4001 ∧ st = 0) :
    vc ((EVy recYl (some cEvenY) []).set 79 ((cEvenW ghW).below mFlatW (mFlatW (a, f, m, d, l, L, out, st, ())))) noL Go.Proofs.Tryd.f79 (cEvenW ghW) (a, f, m, d, l, L, out, st, ()) := (evenW_eq a f m d l L out st).mpr (by
  intro e5 e4 e3 e2 e1 e0 _ _
  obtain ⟨⟨⟨hl, hv, rfl⟩, ⟨a0, a1⟩, hd, m0, hfm⟩, ho, rfl⟩ := hp
  have hop : openOk l (longOf l) := ⟨hl, hv, rfl⟩
  have he1 : e1 = l.getD a.toNat node0 := rfl
  have hE : evnW (a, f, m, e2) = Evn.run (pcsAt l a f m d) ⟨l, longOf l, out⟩ := rfl
  have hEx : ∀ b g k c : Int, evnW (b, g, k, c, e3) = Evn.run (pcsAt l b g k c) ⟨l, longOf l, out⟩ := fun _ _ _ _ => rfl
  have hEy : ∀ b g k : Int, evnW (b, g, k, e2) = Evn.run (pcsAt l b g k d) ⟨l, longOf l, out⟩ := fun _ _ _ => rfl
  have hE2 : ∀ (b g k c : Int) (S : Evn) (z : Int), evnW (b, g, k, c, S.l, S.L, S.r, z, ()) = Evn.run (pcsAt S.l b g k c) S := fun _ _ _ _ _ _ => rfl
  have hmf : ∀ (b g k c : Int) (z : Dens RU.T [nodes, mapI, ints, i64]), mFlatW (b, g, k, c, z) = b.toNat := fun _ _ _ _ _ => rfl
  have hmf3 : ∀ (b g k c : Int), mFlatW (b, g, k, c, e3) = b.toNat := fun _ _ _ _ => rfl
  have hmf2 : ∀ (b g k : Int), mFlatW (b, g, k, e2) = b.toNat := fun _ _ _ => rfl
  have he5 : e5 = Evn.step ⟨l, longOf l, out⟩ ⟨a, f, m, d⟩ := rfl
  have he4 : e4 = Evn.off ⟨l, longOf l, out⟩ ⟨a, f, m, d⟩ := rfl
  have he3 : e3 = (l, longOf l, out, 0, ()) := rfl
  have hS0 : (⟨l, longOf l, out⟩ : Evn).full = false := by simp [Evn.full]; omega
  have hS1 : (⟨l, longOf l, out⟩ : Evn).many = false := by simp [Evn.many]; omega
  have hlg : 0 ≤ e1.a → e1.a < l.length → Option.getD (mget (fun (x y : Int) => x == y) (longOf l) e1.a) (0 : Int) = at_ (lensOf l) e1.a := fun h h' => lg_long h h'
  refine ⟨⟨a0, a1⟩, fun h => ?_, fun h => ?_⟩
  · have h : m = 0 := by simpa using h
    have hz : evnW (a, f, m, e2) = ⟨l, longOf l, out⟩ := by rw [hE, pcs_zero (by omega)]; rfl
    rw [hz, hS0, hS1]
    exact ⟨rfl, rfl⟩
  · have h : ¬ m = 0 := by simpa using h
    obtain ⟨f0, f1⟩ := hfm (by omega)
    have hcs := walk_cases hl hv a0 a1 (by omega) f0 f1 hd he1
    have hpc := pcs_cases hv f m d a0 a1 (by omega) he1
    have hlb := (lens_bound hv a0 a1).2
    clear_value e1
    rcases hcs with ⟨k, hlen, hw⟩ | ⟨k, ha, hb, hA, hsum, hle, hspl⟩ | ⟨k, ha, hf, hle, hin, hw⟩ | ⟨k, ha, hin, hw⟩
    · have hpcs : pcsAt l a f m d = [⟨a, f, m, d⟩] := by
        rcases hpc with ⟨_, hp⟩ | ⟨k', _⟩ | ⟨k', _⟩ | ⟨k', _⟩
        · exact hp
        · omega
        · omega
        · omega
      have hEE : evnW (a, f, m, e2) = e5 := by rw [hE, hpcs, run_one, he5]
      have hna : nat_ l a = e1 := he1.symm
      refine ⟨fun _ => ⟨⟨⟨⟨⟨hl, hv, rfl⟩, ⟨a0, a1⟩, by rw [hna]; exact k, hd, by omega, by omega, f0, f1⟩, ho, rfl⟩, trivial⟩, ?_⟩, fun hk => by simp [k] at hk⟩
      rw [hEE]
      exact ⟨fun h => ⟨h, rfl, trivial⟩, fun h => ⟨h, rfl⟩⟩
    · have hpcs := hpc.resolve_left (fun h => by have := h.1; omega) |>.resolve_right (fun h => by rcases h with h | h <;> (have := h.1; omega))
      refine ⟨fun hk => by simp [k] at hk, fun _ => ⟨fun hk => by simp [k] at hk, fun _ => ⟨fun hk => by simp [k] at hk, fun _ => ?_⟩⟩⟩
      have hgA := hlg ha.1 (by omega)
      obtain ⟨q0, q1, q2, q3⟩ := first_of f m (at_ (lensOf l) e1.a) (by omega) (by omega) m0 (q := e0) (by simp only [e0, hgA])
      clear_value e0
      rw [max_first f m _ m0 q0 q1 q2 q3] at hpcs
      have hS1p := (pcs_ok hop _ e1.a f e0 d rfl ⟨⟨hl, hv, rfl⟩, ⟨ha.1, by omega⟩, hd, q0, fun h => ⟨f0, q2 h⟩⟩).1
      have hrun : evnW (a, f, m, e2) = if (evnW (e1.a, f, e0, e2)).full || (evnW (e1.a, f, e0, e2)).many then evnW (e1.a, f, e0, e2) else Evn.run (pcsAt l e1.b (f + e0 - at_ (lensOf l) e1.a) (m - e0) d) (evnW (e1.a, f, e0, e2)) := by
        rw [hE, hpcs.2, run_app hS0 hS1, hEy]
      have hop1 : (evnW (e1.a, f, e0, e2)).full = false → openOk (evnW (e1.a, f, e0, e2)).l (evnW (e1.a, f, e0, e2)).L ∧ ∃ e, (evnW (e1.a, f, e0, e2)).l = l ++ e := fun hf => by
        rw [hEy] at hf ⊢
        exact run_open hop ⟨[], by simp⟩ hop hS1p hf
      rw [hmf2, hmf2]
      generalize evnW (e1.a, f, e0, e2) = S1 at hrun hop1
      have hch1 : ((((((((l.length ≤ 4000 ∧ validOf l = true ∧ longOf l = longOf l) ∧ (0 ≤ e1.a ∧ e1.a < (l.length : Int)) ∧ isWord d = true ∧ 0 ≤ e0 ∧ (0 < e0 → 0 ≤ f ∧ f + e0 ≤ at_ (lensOf l) e1.a)) ∧ out.length ≤ 4001 ∧ (0 : Int) = 0) ∧ e1.a.toNat < a.toNat) ∧ True) ∧ True) ∧ True) ∧ True) :=
        ⟨⟨⟨⟨⟨⟨⟨⟨hl, hv, rfl⟩, ⟨ha.1, by omega⟩, hd, q0, fun h => ⟨f0, q2 h⟩⟩, ho, rfl⟩, by omega⟩, trivial⟩, trivial⟩, trivial⟩, trivial⟩
      refine ⟨fun hmn => ⟨hch1, fun hfu => ?_, dist3 (fun hfu => ?_)⟩, fun hmn => ⟨hch1, fun hfu => ?_, fun hfu => ?_⟩⟩
      · rw [hrun, if_pos (by simp [hfu])]
        exact ⟨hfu, rfl, trivial⟩
      · have hmn : S1.many = false := by simpa using hmn
        rw [if_neg (by simp [hfu, hmn])] at hrun
        obtain ⟨o1, e, he⟩ := hop1 hfu
        have hl1 : (l.length : Int) ≤ (S1.l.length : Int) := by rw [he, List.length_append]; omega
        have hgA1 : Option.getD (mget (fun (x y : Int) => x == y) S1.L e1.a) (0 : Int) = at_ (lensOf l) e1.a := by
          have := lg_open o1 ha.1 (show e1.a < S1.l.length by omega)
          rw [he, lens_app ha.1 (by omega)] at this
          exact this
        have w1 : IntKind.i64.wrap (m - e0) = m - e0 := w64_id (by omega) (by omega)
        have w2 : IntKind.i64.wrap (f + e0) = f + e0 := w64_id (by omega) (by omega)
        have w3 : IntKind.i64.wrap (f + e0 - at_ (lensOf l) e1.a) = f + e0 - at_ (lensOf l) e1.a := w64_id (by omega) (by omega)
        rw [hgA1, w1, w2, w3, hE2, hmf]
        have hpb : pcsAt S1.l e1.b (f + e0 - at_ (lensOf l) e1.a) (m - e0) d = pcsAt l e1.b (f + e0 - at_ (lensOf l) e1.a) (m - e0) d := by
          rw [he]
          exact pcsAt_app hv _ _ _ hb.1 (by omega)
        rw [hpb, ← hrun]
        refine ⟨⟨⟨⟨⟨⟨⟨⟨o1, ⟨hb.1, by omega⟩, hd, by omega, fun h => ?_⟩, ?_, ?_⟩, by omega⟩, trivial⟩, trivial⟩, trivial⟩, trivial⟩, fun h => ⟨h, rfl, trivial⟩, fun h => ⟨h, ?_⟩⟩
        · have := q3 (by omega)
          rw [he, lens_app hb.1 (by omega)]
          omega
        · have : ¬ 4001 < S1.r.length := by simpa [Evn.many] using hmn
          omega
        · rw [hmn]; rfl
        · rw [hmn]; simp
      · rw [hrun, if_pos (by simp [hfu])]
        exact ⟨hfu, rfl, trivial⟩
      · have hmn : S1.many = true := by simpa using hmn
        rw [if_pos (by simp [hmn])] at hrun
        rw [hrun, hmn]
        exact ⟨hfu, rfl⟩
    · have hpcs : pcsAt l a f m d = pcsAt l e1.a (e1.from_ + f) m d := by
        rcases hpc with ⟨k', _⟩ | ⟨k', _⟩ | ⟨_, hp⟩ | ⟨k', _⟩
        · omega
        · omega
        · exact hp
        · omega
      refine ⟨fun hk => by simp [k] at hk, fun _ => ⟨fun _ => ?_, fun hk => by simp [k] at hk⟩⟩
      have w1 : IntKind.i64.wrap (f + e1.from_) = e1.from_ + f := by rw [Int.add_comm]; exact w64_id (by omega) (by omega)
      rw [w1, hmf2, hmf2, hE, hpcs, ← hEy]
      exact ⟨⟨⟨⟨⟨⟨⟨⟨⟨hl, hv, rfl⟩, ⟨ha.1, by omega⟩, hd, m0, fun h => by omega⟩, ho, rfl⟩, by omega⟩, trivial⟩, trivial⟩, trivial⟩, trivial⟩, fun h => ⟨h, rfl, trivial⟩, fun h => ⟨h, rfl⟩⟩
    · have hpcs : pcsAt l a f m d = pcsAt l e1.a f m (word (w64 (d + e1.n))) := by
        rcases hpc with ⟨k', _⟩ | ⟨k', _⟩ | ⟨k', _⟩ | ⟨_, hp⟩
        · omega
        · omega
        · omega
        · exact hp
      refine ⟨fun hk => by simp [k] at hk, fun _ => ⟨fun hk => by simp [k] at hk, fun _ => ⟨fun _ => ?_, fun hk => by simp [k] at hk⟩⟩⟩
      have w1 : IntKind.i64.wrap (IntKind.i32.wrap (IntKind.i64.wrap (d + e1.n))) = word (w64 (d + e1.n)) := conv_word _
      rw [w1, hmf2, hmf3, hE, hpcs, ← hEx]
      exact ⟨⟨⟨⟨⟨⟨⟨⟨⟨hl, hv, rfl⟩, ⟨ha.1, by omega⟩, isWord_word _, m0, fun h => ⟨f0, hin⟩⟩, ho, rfl⟩, by omega⟩, trivial⟩, trivial⟩, trivial⟩, trivial⟩, fun h => ⟨h, rfl, trivial⟩, fun h => ⟨h, rfl⟩⟩)

theorem evenK_vc (a f m d : Int) (l : List Node) (L : List (Int × Int)) (out : List Int) (st : Int) (hp : walkPre l L a f m d ∧ out.length ≤ 4001 ∧ st = 0) :
    vc (EVy walkYl (some cEvenY) [(79, cEvenW ghK)]) noL Go.Proofs.Tryd.f78 cEvenK (a, f, m, d, l, L, out, st, ()) := (evenK_eq a f m d l L out st).mpr (by
  intro e0 _ _
  exact ⟨⟨⟨⟨⟨⟨hp.1, hp.2⟩, trivial⟩, trivial⟩, trivial⟩, trivial⟩, fun h => ⟨h, rfl, trivial⟩, fun h => ⟨h, rfl⟩⟩)

theorem itEven_ok : ItOk itEven := by
  intro f k kY mp h Y hY
  unfold itEven at h
  cases hb : Nat.beq f 78 with
  | false => rw [hb] at h; cases h
  | true =>
    rw [hb] at h
    have hf := Nat.eq_of_beq_eq_true hb
    subst hf
    simp only [cond_true, List.mem_singleton, Prod.mk.injEq] at h
    obtain ⟨rfl, rfl, rfl⟩ := h
    have h79 : GivesY Y prog RG 79 (cEvenW ghW) := vc_gives_rec (E := EVy recYl (some cEvenY) []) (fitsY _ _ _) ⟨gives_of (fun x hx => by cases hx), fun _ _ _ _ _ h => (by cases h), fun _ _ _ h => (by cases h), fun k hk => by cases hk; exact hY, fun _ _ _ _ h => (by cases h)⟩ mixed Go.Proofs.Tryd.func79 (by kernel_rfl) mFlatW (fun _ => noL)
      (fun (a, f, m, d, l, L, out, st, ()) hp => evenW_vc a f m d l L out st hp) (by kernel_rfl) rfl
    have h79' : GivesY Y prog RG 79 (cEvenW ghK) := h79
    exact vc_gives (E := EVy walkYl (some cEvenY) [(79, cEvenW ghK)]) (fitsY _ _ _) ⟨gives_of (fun x hx => by
      rcases List.mem_cons.1 hx with h1 | h1
      · subst h1; exact h79'
      · cases h1), fun _ _ _ _ _ h => (by cases h), fun _ _ _ h => (by cases h), fun k hk => by cases hk; exact hY, fun _ _ _ _ h => (by cases h)⟩ mixed Go.Proofs.Tryd.func78 (by kernel_rfl) (fun _ => noL)
      (fun (a, f, m, d, l, L, out, st, ()) hp => evenK_vc a f m d l L out st hp) (by kernel_rfl) rfl
end Go.Rp
end

section
set_option linter.unusedVariables false
set_option linter.unusedSimpArgs false
set_option maxRecDepth 100000
open Go Go.VT
namespace Go.Rp

theorem join_fuel : ∀ (k k' : Nat) (l : List Node) (L : List (Int × Int)) (r : List Int), 1 ≤ r.length → r.length ≤ k → r.length ≤ k' → joinOf k l L r = joinOf k' l L r
  | 0, _, _, _, _, h, h1, _ => by omega
  | _, 0, _, _, _, h, _, h2 => by omega
  | k + 1, k' + 1, l, L, r, h, h1, h2 => by
    unfold joinOf
    split
    · rfl
    · rename_i hne
      have e1 : joinOf k l L (r.take (r.length / 2)) = joinOf k' l L (r.take (r.length / 2)) := join_fuel k k' _ _ _ (by simp; omega) (by simp; omega) (by simp; omega)
      rw [e1]
      generalize joinOf k' l L (r.take (r.length / 2)) = J
      obtain ⟨l1, L1, a⟩ := J
      dsimp only
      rw [join_fuel k k' l1 L1 (r.drop (r.length / 2)) (by simp; omega) (by simp; omega) (by simp; omega)]

theorem join_one {l : List Node} {L : List (Int × Int)} {r : List Int} (h : r.length = 1) : joinAt l L r = (l, L, at_ r 0) := by
  unfold joinAt
  rw [h]
  unfold joinOf
  rw [if_pos h]

theorem join_two {l : List Node} {L : List (Int × Int)} {r : List Int} (h : 2 ≤ r.length) {k : Nat} (hk : k = r.length / 2) : joinAt l L r =
    ((joinAt (joinAt l L (r.take k)).1 (joinAt l L (r.take k)).2.1 (r.drop k)).1 ++ [⟨1, (joinAt l L (r.take k)).2.2, (joinAt (joinAt l L (r.take k)).1 (joinAt l L (r.take k)).2.1 (r.drop k)).2.2, 0, 0, 0, []⟩],
      putL (joinAt (joinAt l L (r.take k)).1 (joinAt l L (r.take k)).2.1 (r.drop k)).1 (joinAt (joinAt l L (r.take k)).1 (joinAt l L (r.take k)).2.1 (r.drop k)).2.1
        (w64 (lg (joinAt (joinAt l L (r.take k)).1 (joinAt l L (r.take k)).2.1 (r.drop k)).2.1 (joinAt l L (r.take k)).2.2 + lg (joinAt (joinAt l L (r.take k)).1 (joinAt l L (r.take k)).2.1 (r.drop k)).2.1 (joinAt (joinAt l L (r.take k)).1 (joinAt l L (r.take k)).2.1 (r.drop k)).2.2)),
      ((joinAt (joinAt l L (r.take k)).1 (joinAt l L (r.take k)).2.1 (r.drop k)).1.length : Int)) := by
  obtain ⟨n, hn⟩ : ∃ n, r.length = n + 1 := ⟨r.length - 1, by omega⟩
  have e0 : joinAt l L r = joinOf (n + 1) l L r := by unfold joinAt; rw [hn]
  have e1 : joinOf n l L (r.take k) = joinAt l L (r.take k) := join_fuel _ _ _ _ _ (by simp only [List.length_take, List.length_drop]; omega) (by simp only [List.length_take, List.length_drop]; omega) (by simp only [List.length_take, List.length_drop]; omega)
  rw [e0]
  unfold joinOf
  rw [if_neg (by omega), ← hk, e1]
  generalize joinAt l L (r.take k) = J
  obtain ⟨l1, L1, a⟩ := J
  dsimp only
  have e2 : joinOf n l1 L1 (r.drop k) = joinAt l1 L1 (r.drop k) := join_fuel _ _ _ _ _ (by simp only [List.length_take, List.length_drop]; omega) (by simp only [List.length_take, List.length_drop]; omega) (by simp only [List.length_take, List.length_drop]; omega)
  rw [e2]

theorem sumL_nonneg {l : List Node} {L : List (Int × Int)} (ho : openOk l L) {r : List Int} (h : ∀ a ∈ r, 0 ≤ a ∧ a < l.length) : 0 ≤ sumL L r := by
  induction r with
  | nil => simp [sumL]
  | cons a r ih =>
    have h1 := h a (by simp)
    have h2 := ih (fun b hb => h b (by simp [hb]))
    have h3 := lg_open ho h1.1 h1.2
    have h4 := lens_bound ho.2.1 h1.1 h1.2
    simp only [sumL, List.map_cons, List.sum_cons] at h2 ⊢
    omega

/-- Two ropes are joined. -/
theorem cat_ok {l : List Node} {L : List (Int × Int)} (ho : openOk l L) {a b : Int} (ha : 0 ≤ a ∧ a < l.length) (hb : 0 ≤ b ∧ b < l.length) (hs : lg L a + lg L b ≤ 1048576) (hl : l.length < 4000) :
    openOk (l ++ [⟨1, a, b, 0, 0, 0, []⟩]) (putL l L (w64 (lg L a + lg L b))) ∧ lg (putL l L (w64 (lg L a + lg L b))) l.length = lg L a + lg L b := by
  have h1 := lg_open ho ha.1 ha.2
  have h2 := lg_open ho hb.1 hb.2
  have h3 := lens_bound ho.2.1 ha.1 ha.2
  have h4 := lens_bound ho.2.1 hb.1 hb.2
  have hw : w64 (lg L a + lg L b) = lg L a + lg L b := w64_id (by omega) (by omega)
  rw [hw]
  have hlen : lenOf (lensOf l) ⟨1, a, b, 0, 0, 0, []⟩ = lg L a + lg L b := by
    simp only [lenOf]
    rw [if_neg (by decide), if_pos trivial, ← h1, ← h2, hw]
    omega
  have hn := open_snoc ho (x := ⟨1, a, b, 0, 0, 0, []⟩) hl (by simp [fieldsOf, lies]; omega) hlen hs (fun h => by cases h)
  refine ⟨hn, ?_⟩
  rw [lg_open hn (by omega) (by simp; omega), lens_new hlen]

theorem lg_pre {l l' : List Node} {L L' : List (Int × Int)} (ho : openOk l L) (ho' : openOk l' L') (hp : ∃ e, l' = l ++ e) {a : Int} (h0 : 0 ≤ a) (h1 : a < l.length) : lg L' a = lg L a := put_lg (c := true) (rope := 0) (x := node0) (long := 0) ho ho' hp h0 h1

theorem join_ok : ∀ (n : Nat) (l : List Node) (L : List (Int × Int)) (r : List Int), r.length = n → joinPre l L r → joinBad l r = false →
    openOk (joinAt l L r).1 (joinAt l L r).2.1 ∧ (∃ e, (joinAt l L r).1 = l ++ e) ∧ (joinAt l L r).1.length + 1 = l.length + r.length ∧ (0 ≤ (joinAt l L r).2.2 ∧ (joinAt l L r).2.2 < (joinAt l L r).1.length) ∧ lg (joinAt l L r).2.1 (joinAt l L r).2.2 = sumL L r := by
  intro n
  induction n using Nat.strongRecOn with
  | ind n ih =>
    intro l L r hn ⟨ho, h1, h2, hin, hs⟩ hb
    have hb : l.length + r.length ≤ 4001 := by
      simp only [joinBad, decide_eq_false_iff_not] at hb
      omega
    by_cases hr : r.length = 1
    · rw [join_one hr]
      match r, hr with
      | [a], _ =>
        have := hin a (by simp)
        exact ⟨ho, ⟨[], by simp⟩, by simp, this, by simp [sumL, at_]⟩
    · have hk : ∃ k, k = r.length / 2 := ⟨_, rfl⟩
      obtain ⟨k, hk⟩ := hk
      rw [join_two (by omega) hk]
      have hsum : sumL L (r.take k) + sumL L (r.drop k) = sumL L r := by rw [← sumL_app, List.take_append_drop]
      have hint : ∀ a ∈ r.take k, 0 ≤ a ∧ a < (l.length : Int) := fun a ha => hin a (List.mem_of_mem_take ha)
      have hind : ∀ a ∈ r.drop k, 0 ≤ a ∧ a < (l.length : Int) := fun a ha => hin a (List.mem_of_mem_drop ha)
      have hs1 := sumL_nonneg ho hint
      have hs2 := sumL_nonneg ho hind
      obtain ⟨a1, a2, a3, a4, a5⟩ := ih (r.take k).length (by simp; omega) l L (r.take k) rfl ⟨ho, by simp; omega, by simp; omega, hint, by omega⟩ (by simp [joinBad]; omega)
      generalize joinAt l L (r.take k) = A at a1 a2 a3 a4 a5 ⊢
      have hla : (r.take k).length = k := by simp; omega
      have hlb : (r.drop k).length = r.length - k := by simp
      have hcong : sumL A.2.1 (r.drop k) = sumL L (r.drop k) := sumL_congr (fun a ha => lg_pre ho a1 a2 (hind a ha).1 (hind a ha).2)
      have hlen : l.length ≤ A.1.length := by omega
      obtain ⟨b1, b2, b3, b4, b5⟩ := ih (r.drop k).length (by simp; omega) A.1 A.2.1 (r.drop k) rfl ⟨a1, by omega, by omega, fun a ha => by have := hind a ha; omega, by omega⟩ (by simp [joinBad]; omega)
      generalize joinAt A.1 A.2.1 (r.drop k) = B at b1 b2 b3 b4 b5 ⊢
      have hga : lg B.2.1 A.2.2 = sumL L (r.take k) := by rw [lg_pre a1 b1 b2 a4.1 a4.2, a5]
      have hgb : lg B.2.1 B.2.2 = sumL L (r.drop k) := by rw [b5, hcong]
      have hAB : A.1.length ≤ B.1.length := by omega
      obtain ⟨c1, c2⟩ := cat_ok b1 (a := A.2.2) (b := B.2.2) ⟨a4.1, by omega⟩ b4 (by rw [hga, hgb]; omega) (by omega)
      refine ⟨c1, ?_, by simp; omega, ⟨by dsimp only; omega, by simp; omega⟩, by rw [c2, hga, hgb, hsum]⟩
      obtain ⟨e1, he1⟩ := a2
      obtain ⟨e2, he2⟩ := b2
      exact ⟨e1 ++ e2 ++ [⟨1, A.2.2, B.2.2, 0, 0, 0, []⟩], by rw [he2, he1]; simp⟩

theorem join_vc (r : List Int) (l : List Node) (L : List (Int × Int)) (hp : joinPre l L r) : vc ((EV [(60, cPut)]).set 61 (cJoin.below mJoin (mJoin (r, l, L, ())))) noL Go.Proofs.Tryd.f61 cJoin (r, l, L, ()) := (join_eq r l L).mpr (by
  intro e4 e3 e2 e1 e0 _ _
  have ⟨ho, h1, h2, hin, hs⟩ := hp
  have he4 : e4 = (joinAt l L r).2 := rfl
  have he3 : e3 = r.length := rfl
  have he2 : e2 = ((joinAt l L r).2.2, (joinAt l L r).1, (joinAt l L r).2.1, ()) := rfl
  have he1 : e1 = ((r.length / 2 : Nat) : Int) := by
    show IntKind.i64.wrap (Int.tdiv (r.length : Int) 2) = _
    rw [Int.tdiv_eq_ediv_of_nonneg (by omega), w64_id (by omega) (by omega)]
    omega
  have he0 : e0 = r.length / 2 := by show e1.toNat = _; rw [he1]; omega
  have hmj : ∀ (q : List Int) (z : Dens RU.T [nodes, mapI]), mJoin (q, z) = q.length := fun _ _ => rfl
  refine ⟨fun h => ?_, fun h => ?_⟩
  · have h : r.length = 1 := by have : (r.length : Int) = 1 := by simpa using h
                                omega
    refine ⟨⟨Int.le_refl _, by omega⟩, by have := ho.1; simp [joinBad]; omega, ?_⟩
    rw [he2, join_one h]
    rfl
  · have h : ¬ r.length = 1 := by
      have : ¬ (r.length : Int) = 1 := by simpa using h
      omega
    clear_value e0 e1 e3
    subst he1
    dsimp only
    have hla : (r.take e0).length = e0 := by rw [List.length_take]; omega
    have hlb : (r.drop e0).length = r.length - e0 := List.length_drop
    have hsum : sumL L (r.take e0) + sumL L (r.drop e0) = sumL L r := by rw [← sumL_app, List.take_append_drop]
    have hint : ∀ a ∈ r.take e0, 0 ≤ a ∧ a < (l.length : Int) := fun a ha => hin a (List.mem_of_mem_take ha)
    have hind : ∀ a ∈ r.drop e0, 0 ≤ a ∧ a < (l.length : Int) := fun a ha => hin a (List.mem_of_mem_drop ha)
    have hs1 := sumL_nonneg ho hint
    have hs2 := sumL_nonneg ho hind
    have hpA : joinPre l L (r.take e0) := ⟨ho, by omega, by omega, hint, by omega⟩
    have hjb : ∀ (l : List Node) (r : List Int), joinBad l r = true ↔ 4001 < l.length + r.length := fun l r => by simp [joinBad]
    have hjf : ∀ (l : List Node) (r : List Int), joinBad l r = false ↔ l.length + r.length ≤ 4001 := fun l r => by simp [joinBad]
    have hA := join_ok _ l L (r.take e0) rfl hpA
    have h2j := join_two (l := l) (L := L) (r := r) (by omega) he0
    have he2' : e2 = _ := he2.trans (by rw [h2j])
    generalize joinAt l L (r.take e0) = A at hA he2' ⊢
    have nxt : joinBad l (r.take e0) = false → joinPre A.1 A.2.1 (r.drop e0) ∧ l.length ≤ A.1.length ∧ A.1.length + 1 = l.length + e0 := fun hb => by
      obtain ⟨a1, a2, a3, a4, a5⟩ := hA hb
      have hcong : sumL A.2.1 (r.drop e0) = sumL L (r.drop e0) := sumL_congr (fun a ha => lg_pre ho a1 a2 (hind a ha).1 (hind a ha).2)
      refine ⟨⟨a1, by omega, by omega, fun a ha => by have := hind a ha; omega, by omega⟩, by omega, by omega⟩
    have hB := fun hb => join_ok _ A.1 A.2.1 (r.drop e0) rfl (nxt hb).1
    have hJ := join_ok _ l L r rfl hp
    rw [h2j] at hJ
    generalize joinAt A.1 A.2.1 (r.drop e0) = B at hB he2' ⊢
    refine ⟨by decide, ⟨by omega, by omega⟩, ⟨⟨⟨⟨hpA.1, hpA.2.1, hpA.2.2.1, hint, hpA.2.2.2.2⟩, ?_⟩, trivial⟩, trivial⟩, fun hb => ⟨?_, rfl, trivial⟩, by decide, ⟨by omega, by omega⟩, dist3 (fun hb => ?_)⟩
    · show (r.take e0).length < e3; omega
    · rw [hjb] at hb ⊢; omega
    · obtain ⟨n1, n2, n3⟩ := nxt hb
      obtain ⟨a1, a2, a3, a4, a5⟩ := hA hb
      refine ⟨⟨⟨⟨⟨n1.1, n1.2.1, n1.2.2.1, n1.2.2.2.1, n1.2.2.2.2⟩, ?_⟩, trivial⟩, trivial⟩, fun hb2 => ⟨?_, rfl, trivial⟩, fun hb2 => ?_⟩
      · show (r.drop e0).length < e3; omega
      · rw [hjb] at hb2 ⊢; omega
      · obtain ⟨b1, b2, b3, b4, b5⟩ := hB hb hb2
        have hAB : A.1.length ≤ B.1.length := by omega
        have hga : lg B.2.1 A.2.2 = sumL L (r.take e0) := by rw [lg_pre a1 b1 b2 a4.1 a4.2, a5]
        have hgb : lg B.2.1 B.2.2 = sumL L (r.drop e0) := by
          rw [b5]
          exact sumL_congr (fun a ha => lg_pre ho a1 a2 (hind a ha).1 (hind a ha).2)
        have hw : IntKind.i64.wrap (Option.getD (mget (fun (x y : Int) => x == y) B.2.1 A.2.2) 0 + Option.getD (mget (fun (x y : Int) => x == y) B.2.1 B.2.2) 0) = w64 (lg B.2.1 A.2.2 + lg B.2.1 B.2.2) := rfl
        have hww : w64 (lg B.2.1 A.2.2 + lg B.2.1 B.2.2) ≤ 1048576 := by
          rw [hga, hgb, show w64 (sumL L (r.take e0) + sumL L (r.drop e0)) = sumL L (r.take e0) + sumL L (r.drop e0) from w64_id (by omega) (by omega)]
          omega
        have hpb : putBad B.1 (w64 (lg B.2.1 A.2.2 + lg B.2.1 B.2.2)) = decide (4000 ≤ B.1.length) := by
          rw [Bool.eq_iff_iff]
          simp only [putBad, Bool.not_eq_true', Bool.and_eq_false_iff, decide_eq_false_iff_not, decide_eq_true_eq]
          omega
        rw [hw, hpb]
        refine ⟨fun h => ⟨?_, rfl, trivial⟩, fun h => ⟨?_, ?_⟩⟩
        · have h : 4000 ≤ B.1.length := by simpa using h
          rw [hjb]; omega
        · have h : ¬ 4000 ≤ B.1.length := by simpa using h
          rw [hjf]; omega
        · rw [he2'])
theorem join_gives : Gives prog RG 61 cJoin := givesRec (allCons put_gives allNil) mJoin (fun _ => noL) (by kernel_rfl) (by kernel_rfl) (by kernel_rfl) fun (r, l, L, ()) hp => join_vc r l L hp
end Go.Rp
end

section
set_option linter.unusedVariables false
set_option linter.unusedSimpArgs false
set_option maxRecDepth 100000
open Go Go.VT
namespace Go.Rp

theorem ev_round {l L out} {p : Piece} {v : Int} {l2 : List Node} {L2 : List (Int × Int)} (hoff : (Evn.mk l L out).off p = (l2, L2, v)) (hl2 : l2.length ≤ 4000) (ho : out.length ≤ 4001) :
    (out.length + [v].length) * 8 ≤ 140737488355328 ∧
      (decide (((out ++ [v]).length : Int) > 4001) = true → (Evn.step ⟨l, L, out⟩ p).full = false ∧ (false, out ++ [v], l2, L2, (1 : Int), ()) = (!(Evn.step ⟨l, L, out⟩ p).many, out ++ [((Evn.mk l L out).off p).2.2], ((Evn.mk l L out).off p).1, ((Evn.mk l L out).off p).2.1, (if (Evn.step ⟨l, L, out⟩ p).many = true then (1 : Int) else 0), ())) ∧
      (decide (((out ++ [v]).length : Int) > 4001) = false → (Evn.step ⟨l, L, out⟩ p).full = false ∧ (true, out ++ [v], l2, L2, (0 : Int), ()) = (!(Evn.step ⟨l, L, out⟩ p).many, out ++ [((Evn.mk l L out).off p).2.2], ((Evn.mk l L out).off p).1, ((Evn.mk l L out).off p).2.1, (if (Evn.step ⟨l, L, out⟩ p).many = true then (1 : Int) else 0), ())) := by
  have hm : (Evn.step ⟨l, L, out⟩ p).many = decide (((out ++ [v]).length : Int) > 4001) := by
    show decide (4001 < (out ++ [((Evn.mk l L out).off p).2.2]).length) = _
    rw [hoff]
    simp only [decide_eq_decide]
    omega
  have hf : (Evn.step ⟨l, L, out⟩ p).full = false := by
    show decide (4000 < ((Evn.mk l L out).off p).1.length) = false
    rw [hoff]
    simp only [decide_eq_false_iff_not]
    omega
  refine ⟨by simp; omega, fun h => ⟨hf, ?_⟩, fun h => ⟨hf, ?_⟩⟩
  · rw [hm, h, hoff]; rfl
  · rw [hm, h, hoff]; rfl

theorem ev_full {l L out} {p : Piece} (h : 4000 < ((Evn.mk l L out).part p).1.length) : (Evn.step ⟨l, L, out⟩ p).full = true := by
  show decide (4000 < ((Evn.mk l L out).off p).1.length) = true
  have := put_len (p.n != 0) ((Evn.mk l L out).part p).1 ((Evn.mk l L out).part p).2.1 ((Evn.mk l L out).part p).2.2 ⟨3, ((Evn.mk l L out).part p).2.2, 0, 0, 0, p.n, []⟩ p.len
  simp only [decide_eq_true_eq]
  exact Nat.lt_of_lt_of_le h this

theorem putBad_iff {l : List Node} {m : Int} (h : m ≤ 1048576) : (putBad l m = true ↔ 4000 ≤ l.length) ∧ (putBad l m = false ↔ l.length < 4000) := by
  unfold putBad
  constructor
  · simp only [Bool.not_eq_true', Bool.and_eq_false_iff, decide_eq_false_iff_not]; omega
  · simp only [Bool.not_eq_false', Bool.and_eq_true, decide_eq_true_eq]; omega

theorem evenP_vc (l : List Node) (a : Int) : vcD (EVx (fun _ _ => []) itEven [(49, cOpen), (52, cPiecesE), (53, cMust), (59, cOwnS), (60, cPut), (61, cJoin)]) cC lEven Go.Proofs.Tryd.f24 cEvenP (l, a, ()) := (evenP_eq l a).mpr (by
  intro e4 e3 e2 e1 e0 _
  refine ⟨fun h => ?_, fun h => ?_⟩
  · have h := ne_true.1 h
    simp only [e1, evenAt, if_pos h]
  · have h := ne_false.1 h
    obtain ⟨h1, h2, h3⟩ := asked_ok h
    have ha := h3 a (by simp)
    have hbd := lens_bound h2 ha.1 ha.2
    have he2 : e2 = at_ (lensOf l) a := lg_long ha.1 ha.2
    have hop : openOk l (longOf l) := ⟨h1, h2, rfl⟩
    have hwp : walkPre l (longOf l) a 0 (at_ (lensOf l) a) 0 := ⟨⟨h1, h2, rfl⟩, ha, rfl, by omega, fun _ => ⟨by omega, by omega⟩⟩
    have he0 : e0 = evenRun l a := by show Evn.run (pcsAt l a 0 e2 0) _ = _; rw [he2]; rfl
    have he1 : e1 = ((evenAt l a).1, (evenAt l a).2.1, (evenAt l a).2.2, ()) := rfl
    have hev : evenAt l a = if (evenRun l a).full || (evenRun l a).many then ([], 0, 9) else evenEnd (evenRun l a).l (evenRun l a).L (evenRun l a).r := by
      unfold evenAt
      rw [if_neg (by simp [h])]
    obtain ⟨p1, p2, p3⟩ := pcs_ok hop _ a 0 (at_ (lensOf l) a) 0 rfl hwp
    have hrun := fun hf => run_ok (S := ⟨l, longOf l, []⟩) (l := l) (t := 0) (ps := pcsAt l a 0 (at_ (lensOf l) a) 0) ⟨hop, ⟨[], by simp⟩, fun b hb => by simp at hb, rfl⟩ hop p1 hf
    have hr0 : Evn.run (pcsAt l a 0 (at_ (lensOf l) a) 0) ⟨l, longOf l, []⟩ = e0 := he0.symm
    rw [hr0] at hrun
    rw [← he0] at hev
    refine ⟨few_valid h, ⟨rfl, trivial⟩, ?_, ⟨⟨⟨⟨⟨h1, h2, rfl⟩, ha, rfl, by omega, fun _ => ⟨by omega, by omega⟩⟩, by simp, rfl⟩, trivial⟩, trivial⟩, fun hf => ?_, fun hf => ?_⟩
    · rintro ⟨node, f, m, d, out, l', L', st, ⟨⟩⟩
      dsimp only
      rintro ⟨⟨ho, ⟨n0, n1⟩, hk, hd, m0, m1, f0, f1⟩, hout, rfl⟩ _ _
      have hlg : Option.getD (mget (fun (x y : Int) => x == y) L' node) 0 = lg L' node := rfl
      rw [hlg]
      have pb := fun l => putBad_iff (l := l) m1
      have hl4 := ho.1
      refine ⟨rfl, fun c1 => ⟨fun hb => ⟨?_, rfl, trivial⟩, fun hb => ⟨fun c2 => ⟨fun hb2 => ⟨?_, rfl, trivial⟩, fun hb2 => ?_⟩, fun c2 => ?_⟩⟩, fun c1 => ⟨fun c2 => ⟨fun hb => ⟨?_, rfl, trivial⟩, fun hb => ?_⟩, fun c2 => ?_⟩⟩
      · rw [(pb _).1] at hb
        exact ev_full (by simp [Evn.part, putIf, c1]; omega)
      · rw [(pb _).1] at hb2
        have : (Evn.step ⟨l', L', out⟩ ⟨node, f, m, d⟩).l.length = l'.length + 1 + 1 := by simp [Evn.step, Evn.off, Evn.part, putIf, c1, c2]
        show decide (4000 < (Evn.step ⟨l', L', out⟩ ⟨node, f, m, d⟩).l.length) = true
        rw [this]
        simp at hb2 ⊢
        omega
      · rw [(pb _).2] at hb2
        exact ev_round (p := ⟨node, f, m, d⟩) (by simp [Evn.off, Evn.part, putIf, c1, c2]) (by simp at hb2 ⊢; omega) hout
      · rw [(pb _).2] at hb
        exact ev_round (p := ⟨node, f, m, d⟩) (by simp [Evn.off, Evn.part, putIf, c1, c2]) (by simp; omega) hout
      · rw [(pb _).1] at hb
        have : (Evn.step ⟨l', L', out⟩ ⟨node, f, m, d⟩).l.length = l'.length + 1 := by simp [Evn.step, Evn.off, Evn.part, putIf, c1, c2]
        show decide (4000 < (Evn.step ⟨l', L', out⟩ ⟨node, f, m, d⟩).l.length) = true
        rw [this]
        simp
        omega
      · rw [(pb _).2] at hb
        exact ev_round (p := ⟨node, f, m, d⟩) (by simp [Evn.off, Evn.part, putIf, c1, c2]) (by simp; omega) hout
      · exact ev_round (p := ⟨node, f, m, d⟩) (by simp [Evn.off, Evn.part, putIf, c1, c2]) hl4 hout
    · rw [he1, hev, hf]
      rfl
    · obtain ⟨t, ok, hsum⟩ := hrun hf
      have hfl : e0.l.length ≤ 4000 := ok.op.1
      have key : e0.many = false → ((((e0.r.length : Int) == 0) = true → (putBad e0.l 0 = true → (([] : List Node), (0 : Int), (9 : Int), ()) = e1) ∧ (putBad e0.l 0 = false → (e0.l ++ e3, (e0.l.length : Int), (0 : Int), ()) = e1)) ∧
          (((e0.r.length : Int) == 0) = false → ((joinPre e0.l e0.L e0.r ∧ True) ∧ True) ∧ (joinBad e0.l e0.r = true → (([] : List Node), (0 : Int), (9 : Int), ()) = e1) ∧ (joinBad e0.l e0.r = false → ((joinAt e0.l e0.L e0.r).1, (joinAt e0.l e0.L e0.r).2.2, (0 : Int), ()) = e1))) := by
        intro hm
        rw [if_neg (by simp [hf, hm])] at hev
        have hr1 : e0.r.length ≤ 4001 := by simpa [Evn.many] using hm
        refine ⟨fun hz => ?_, fun hz => ?_⟩
        · have hz : e0.r.length = 0 := by
            have : (e0.r.length : Int) = 0 := by simpa using hz
            omega
          unfold evenEnd at hev
          rw [if_pos hz] at hev
          refine ⟨fun hb => ?_, fun hb => ?_⟩
          · rw [he1, hev, hb]; rfl
          · rw [he1, hev, hb]; rfl
        · have hz : ¬ e0.r.length = 0 := by
            have : ¬ (e0.r.length : Int) = 0 := by simpa using hz
            omega
          unfold evenEnd at hev
          rw [if_neg hz] at hev
          refine ⟨⟨⟨⟨ok.op, by omega, hr1, ok.ins, ?_⟩, trivial⟩, trivial⟩, fun hb => ?_, fun hb => ?_⟩
          · rw [ok.sum, hsum hm, p2]; omega
          · rw [he1, hev, hb]; rfl
          · rw [he1, hev, hb]; rfl
      have hmany : ∀ b : Bool, e0.many = b → (!decide ((e0.r.length : Int) ≤ 4001)) = b := fun b hb => by
        rw [← hb]
        unfold Evn.many
        rw [Bool.eq_iff_iff]
        simp
        omega
      refine ⟨fun hst => ?_, fun hst => ?_⟩
      · have hm : e0.many = false := by
          cases hm : e0.many with
          | false => rfl
          | true => rw [hm] at hst; cases hst
        rw [hmany false hm]
        exact ⟨fun h => (by cases h), fun _ => key hm⟩
      · have hm : e0.many = true := by
          cases hm : e0.many with
          | true => rfl
          | false => rw [hm] at hst; exact absurd rfl hst
        rw [hmany true hm]
        refine ⟨by rw [hm]; rfl, fun _ => ?_, fun h => (by cases h)⟩
        rw [he1, hev, hm]
        simp)
theorem evenP_gives : Gives prog RG 24 cEvenP := givesDX (fun _ _ _ h => by cases h) itEven_ok (allCons open_gives (allCons piecesE_gives (allCons must_gives (allCons ownS_gives (allCons put_gives (allCons join_gives allNil)))))) (fun _ => lEven) (by kernel_rfl) (by kernel_rfl) (by kernel_rfl) fun (l, a, ()) _ => evenP_vc l a
end Go.Rp
end

section
set_option linter.unusedVariables false
set_option maxRecDepth 100000
open Go Go.VT
namespace Go.Rp

theorem great_eq (l : List Node) : vc (EV [(34, cCheck), (47, cLens)]) (lGreat l) Go.Proofs.Tryd.f11 cGreat (l, ()) = (let e0 : Bool := decide ((↑(List.length l) : Int) > (60 : Int));
  Small RU (Sigma.mk (Ty.slice (56 : Nat) (Ty.user (0 : Nat))) l) →
  (e0 = true → (true, ()) = (greatOf l, ())) ∧
    (e0 = false →
      ((checkOf l != (0 : Int)) = true → (false, ()) = (greatOf l, ())) ∧
        ((checkOf l != (0 : Int)) = false →
          (List.length l ≤ (17592186044416 : Nat) ∧
              ∀ (i : Nat) (x : Node),
                l[i]? = some x →
                  (x.kind = (1 : Int) → ((0 : Int) ≤ x.a ∧ x.a < (↑i : Int)) ∧ (0 : Int) ≤ x.b ∧ x.b < (↑i : Int)) ∧
                    (x.kind ≠ (0 : Int) → x.kind ≠ (1 : Int) → x.kind ≠ (2 : Int) → (0 : Int) ≤ x.a ∧ x.a < (↑i : Int))) ∧
            (∃ (p : Int × Unit),
                l = l ∧
                  e0 = e0 ∧
                    (checkOf l != (0 : Int)) = (checkOf l != (0 : Int)) ∧
                      (0 : Int) = p.fst ∧
                        l = l ∧
                          lensOf l = lensOf l ∧
                            (0 : Int) ≤ p.fst ∧
                              p.fst ≤ (↑(List.length l) : Int) ∧
                                (¬(60 : Nat) < List.length l ∧ checkOf l = (0 : Int)) ∧ ∀ (i : Nat), i < Int.toNat p.fst → ¬(3000 : Int) < List.getD (lensOf l) i (0 : Int)) ∧
              ∀ (p : Int × Unit),
                let e2 : Bool := e0;
                let e1 : Int := (↑(List.length (lensOf l)) : Int);
                let e0 : Bool := decide (List.getD (lensOf l) (Int.toNat p.fst) (0 : Int) > (3000 : Int));
                ((0 : Int) ≤ p.fst ∧
                    p.fst ≤ (↑(List.length l) : Int) ∧ (¬(60 : Nat) < List.length l ∧ checkOf l = (0 : Int)) ∧ ∀ (i : Nat), i < Int.toNat p.fst → ¬(3000 : Int) < List.getD (lensOf l) i (0 : Int)) →
                  (decide (p.fst < e1) = true →
                      ((0 : Int) ≤ p.fst ∧ p.fst < e1) ∧
                        (e0 = true → (true, ()) = (greatOf l, ())) ∧
                          (e0 = false →
                            ∃ (p' : Int × Unit),
                              l = l ∧
                                e2 = e2 ∧
                                  (checkOf l != (0 : Int)) = (checkOf l != (0 : Int)) ∧
                                    IntKind.wrap IntKind.i64 (p.fst + (1 : Int)) = p'.fst ∧
                                      l = l ∧
                                        lensOf l = lensOf l ∧
                                          ((0 : Int) ≤ p'.fst ∧
                                              p'.fst ≤ (↑(List.length l) : Int) ∧
                                                (¬(60 : Nat) < List.length l ∧ checkOf l = (0 : Int)) ∧ ∀ (i : Nat), i < Int.toNat p'.fst → ¬(3000 : Int) < List.getD (lensOf l) i (0 : Int)) ∧
                                            List.length l - Int.toNat p'.fst < List.length l - Int.toNat p.fst)) ∧
                    (decide (p.fst < e1) = false → (false, ()) = (greatOf l, ()))))) := by kernel_rfl

theorem same_eq (l m : List Node) : vc (EV [(23, cEqual)]) (lSame l m) Go.Proofs.Tryd.f28 cSame (l, m, ()) = (let e0 : Bool := decide (List.length l = List.length m);
  Small RU (Sigma.mk (Ty.slice (56 : Nat) (Ty.user (0 : Nat))) l) →
  Small RU (Sigma.mk (Ty.slice (56 : Nat) (Ty.user (0 : Nat))) m) →
    (∃ (p : Int × Bool × Unit),
        l = l ∧
          m = m ∧
            false = false ∧
              (0 : Int) = p.fst ∧
                ((↑(List.length l) : Int) == (↑(List.length m) : Int)) = p.snd.fst ∧
                  l = l ∧ m = m ∧ (0 : Int) ≤ p.fst ∧ p.fst ≤ (↑(List.length l) : Int) ∧ p.snd.fst = (e0 && decide (List.take (Int.toNat p.fst) l = List.take (Int.toNat p.fst) m))) ∧
      ∀ (p : Int × Bool × Unit),
        let e2 : Bool := e0;
        let e1 : Bool := p.snd.fst && decide (p.fst < (↑(List.length l) : Int));
        let e0 : Node := Node.mk (0 : Int) (0 : Int) (0 : Int) (0 : Int) (0 : Int) (0 : Int) [];
        (0 : Int) ≤ p.fst ∧ p.fst ≤ (↑(List.length l) : Int) ∧ p.snd.fst = (e2 && decide (List.take (Int.toNat p.fst) l = List.take (Int.toNat p.fst) m)) →
          (e1 = true →
              ((0 : Int) ≤ p.fst ∧ p.fst < (↑(List.length l) : Int)) ∧
                ((0 : Int) ≤ p.fst ∧ p.fst < (↑(List.length m) : Int)) ∧
                  ∃ (p' : Int × Bool × Unit),
                    l = l ∧
                      m = m ∧
                        false = false ∧
                          IntKind.wrap IntKind.i64 (p.fst + (1 : Int)) = p'.fst ∧
                            ((List.getD l (Int.toNat p.fst) e0).kind == (List.getD m (Int.toNat p.fst) e0).kind && (List.getD l (Int.toNat p.fst) e0).a == (List.getD m (Int.toNat p.fst) e0).a &&
                                          (List.getD l (Int.toNat p.fst) e0).b == (List.getD m (Int.toNat p.fst) e0).b &&
                                        (List.getD l (Int.toNat p.fst) e0).from_ == (List.getD m (Int.toNat p.fst) e0).from_ &&
                                      (List.getD l (Int.toNat p.fst) e0).len == (List.getD m (Int.toNat p.fst) e0).len &&
                                    (List.getD l (Int.toNat p.fst) e0).n == (List.getD m (Int.toNat p.fst) e0).n &&
                                  decide ((List.getD l (Int.toNat p.fst) e0).words = (List.getD m (Int.toNat p.fst) e0).words)) =
                                p'.snd.fst ∧
                              l = l ∧
                                m = m ∧
                                  ((0 : Int) ≤ p'.fst ∧ p'.fst ≤ (↑(List.length l) : Int) ∧ p'.snd.fst = (e2 && decide (List.take (Int.toNat p'.fst) l = List.take (Int.toNat p'.fst) m))) ∧
                                    List.length l - Int.toNat p'.fst < List.length l - Int.toNat p.fst) ∧
            (e1 = false → (p.snd.fst, ()) = (sameOf l m, ()))) := by kernel_rfl

end Go.Rp
end

section
set_option linter.unusedVariables false
set_option linter.unusedSimpArgs false
set_option maxRecDepth 100000
open Go Go.VT
namespace Go.Rp

theorem store_gives : Gives prog RG 46 cStore := gives allNil (fun _ => noL) (by kernel_rfl) (by kernel_rfl) (by kernel_rfl) fun () _ => store_eq.mpr rfl

theorem roped_vc : vc (EV [(46, cStore), (17, cFlatR), (19, cGatherR), (21, cCostR), (15, cDepthR), (13, cLenR), (24, cEvenP), (26, cKeepP), (37, cOffR), (23, cEqual), (33, cCheck)]) noL Go.Proofs.Tryd.f12 cRoped () := roped_eq.mpr (by decide +kernel)
theorem roped_gives : Gives prog RG 12 cRoped :=
  gives (allCons store_gives (allCons flatP_gives (allCons gatherP_gives (allCons costP_gives (allCons depthP_gives (allCons lenP_gives (allCons evenP_gives (allCons keepP_gives (allCons offP_gives (allCons equal_gives (allCons checkP_gives allNil)))))))))))
    (fun _ => noL) (by kernel_rfl) (by kernel_rfl) (by kernel_rfl) fun () _ => roped_vc

theorem great_any {l : List Node} (h : ∀ i : Nat, i < l.length → ¬ 3000 < (lensOf l).getD i 0) : (lensOf l).any (fun n => decide (3000 < n)) = false := by
  rw [List.any_eq_false]
  intro x hx
  obtain ⟨i, hi, rfl⟩ := List.mem_iff_getElem.1 hx
  have := h i (by rw [lensOf_length] at hi; exact hi)
  rw [List.getD_eq_getElem?_getD, List.getElem?_eq_getElem hi] at this
  simpa using this

theorem great_vc (l : List Node) : vc (EV [(34, cCheck), (47, cLens)]) (lGreat l) Go.Proofs.Tryd.f11 cGreat (l, ()) := (great_eq l).mpr (by
  intro e0 hs
  refine ⟨fun h => ?_, fun h => ?_⟩
  · have h := of_decide_eq_true h
    have : 60 < l.length := by omega
    simp [greatOf, this]
  · have h60 : ¬ 60 < l.length := by have := of_decide_eq_false h; omega
    refine ⟨fun hc => ?_, fun hc => ?_⟩
    · have hc := ne_true.1 hc
      simp [greatOf, h60, hc]
    · have hc := ne_false.1 hc
      have hv : validOf l = true := by
        unfold checkOf at hc
        split at hc
        · omega
        · split at hc
          · assumption
          · omega
      have hg : greatOf l = (lensOf l).any (fun n => decide (3000 < n)) := by simp [greatOf, h60, hc]
      refine ⟨⟨by omega, fun i x hx => valid_ahead hv i x hx⟩, ⟨(0, ()), by trivial, by trivial, by trivial, rfl, by trivial, by trivial, Int.le_refl _, by dsimp only; omega, ⟨h60, hc⟩, fun i hi => by simp at hi⟩, ?_⟩
      rintro ⟨i, ⟨⟩⟩ e2 e1 e0' ⟨k0, k1, _, k3⟩
      dsimp only at k0 k1 k3
      obtain ⟨m, rfl⟩ := Int.eq_ofNat_of_zero_le k0
      simp only [Int.toNat_natCast] at k3
      have he1 : e1 = (l.length : Int) := by show ((lensOf l).length : Int) = _; rw [lensOf_length]
      refine ⟨fun hlt => ?_, fun hge => ?_⟩
      · have hlt := of_decide_eq_true hlt
        rw [he1] at hlt
        have hm : m < l.length := by dsimp only at hlt; omega
        refine ⟨⟨k0, by rw [he1]; exact hlt⟩, fun hb => ?_, fun hb => ⟨((m + 1 : Nat), ()), by trivial, by trivial, by trivial, ?_, by trivial, by trivial, ⟨by omega, by dsimp only; omega, ⟨h60, hc⟩, fun i hi => ?_⟩, by show l.length - (m + 1) < l.length - m; omega⟩⟩
        · have hb := of_decide_eq_true hb
          rw [hg]
          have : (lensOf l).any (fun n => decide (3000 < n)) = true := by
            rw [List.any_eq_true]
            refine ⟨(lensOf l).getD m 0, ?_, by simpa using hb⟩
            rw [List.getD_eq_getElem?_getD, List.getElem?_eq_getElem (by rw [lensOf_length]; exact hm)]
            exact List.getElem_mem _
          rw [this]
        · rw [w64_id (by dsimp only; omega) (by dsimp only; omega)]; rfl
        · have hb := of_decide_eq_false hb
          simp only [Int.toNat_natCast] at hi
          by_cases him : i = m
          · subst him; exact hb
          · exact k3 i (by omega)
      · have hge := of_decide_eq_false hge
        rw [he1] at hge
        have hm : m = l.length := by dsimp only at hge; omega
        subst hm
        rw [hg, great_any k3])
theorem great_gives : Gives prog RG 11 cGreat := gives (allCons check_gives (allCons lens_gives allNil)) (fun p => lGreat p.1) (by kernel_rfl) (by kernel_rfl) (by kernel_rfl) fun (l, ()) _ => great_vc l

theorem same_vc (l m : List Node) : vc (EV [(23, cEqual)]) (lSame l m) Go.Proofs.Tryd.f28 cSame (l, m, ()) := (same_eq l m).mpr (by
  intro e hs1 hs2
  have hl1 : l.length ≤ most := hs1.len
  have hl2 : m.length ≤ most := hs2.len
  simp only [most] at hl1 hl2
  refine ⟨⟨(0, decide (l.length = m.length), ()), by trivial, by trivial, by trivial, rfl, ?_, by trivial, by trivial, Int.le_refl _, by dsimp only; omega, by simp [e]⟩, ?_⟩
  · dsimp only
    rw [Bool.eq_iff_iff]; simp; omega
  rintro ⟨i, b, ⟨⟩⟩ e2 e1 e0 ⟨h0, h1, h2⟩
  dsimp only at h0 h1 h2
  obtain ⟨k, rfl⟩ := Int.eq_ofNat_of_zero_le h0
  simp only [Int.toNat_natCast] at h2
  have h2' : b = true ↔ (l.length = m.length ∧ l.take k = m.take k) := by rw [h2]; simp [e2, e]
  refine ⟨fun hb => ?_, fun hb => ?_⟩
  · have hb : (b && decide ((k : Int) < l.length)) = true := hb
    simp only [Bool.and_eq_true, decide_eq_true_eq] at hb
    obtain ⟨hb, hlt⟩ := hb
    obtain ⟨hlen, htk⟩ := h2'.1 hb
    have hX : (l.getD k e0 = l.getD k node0) := rfl
    refine ⟨⟨h0, hlt⟩, ⟨h0, by show (k : Int) < _; omega⟩, ((k + 1 : Nat), decide (l.getD k node0 = m.getD k node0), ()), by trivial, by trivial, by trivial, ?_, ?_, by trivial, by trivial, ⟨by omega, by dsimp only; omega, ?_⟩, by show l.length - (k + 1) < l.length - k; omega⟩
    · rw [w64_id (by dsimp only; omega) (by dsimp only; omega)]; rfl
    · have key : ∀ x y : Node, (x.kind == y.kind && x.a == y.a && x.b == y.b && x.from_ == y.from_ && x.len == y.len && x.n == y.n && decide (x.words = y.words)) = decide (x = y) := by
        intro x y
        obtain ⟨x1, x2, x3, x4, x5, x6, xw⟩ := x
        obtain ⟨y1, y2, y3, y4, y5, y6, yw⟩ := y
        rw [Bool.eq_iff_iff]
        simp [and_assoc]
      exact key _ _
    · show decide (l.getD k node0 = m.getD k node0) = (decide (l.length = m.length) && decide (l.take (k + 1) = m.take (k + 1)))
      rw [Bool.eq_iff_iff, take_succ_getD (by omega : k < l.length) node0, take_succ_getD (by omega : k < m.length) node0, htk]
      simp [hlen]
  · have hb : (b && decide ((k : Int) < l.length)) = false := hb
    have : b = decide (l = m) := by
      rw [Bool.eq_iff_iff, h2', decide_eq_true_eq]
      simp only [Bool.and_eq_false_iff, decide_eq_false_iff_not] at hb
      constructor
      · rintro ⟨h3, h4⟩
        have hk : k = l.length := by
          rcases hb with hb | hb
          · exact absurd (h2'.2 ⟨h3, h4⟩) (by simp [hb])
          · omega
        subst hk
        rw [List.take_length] at h4
        rw [h3, List.take_length] at h4
        exact h4
      · rintro rfl
        exact ⟨rfl, rfl⟩
    show (b, ()) = (decide (l = m), ())
    rw [this])
theorem same_gives : Gives prog RG 28 cSame := gives (allCons equal_gives allNil) (fun p => lSame p.1 p.2.1) (by kernel_rfl) (by kernel_rfl) (by kernel_rfl) fun (l, m, ()) _ => same_vc l m

theorem tells_vc (l : List Node) (a : Int) (ps : List Int) (p : Int) : vc (EV [(11, cGreat), (12, cRoped), (13, cLenR), (14, cLenR), (15, cDepthR), (16, cDepthR), (17, cFlatR), (18, cFlatR), (19, cGatherR), (20, cGatherR), (21, cCostR), (22, cCostR), (23, cEqual)]) noL Go.Proofs.Tryd.f3 cTells (l, a, ps, p, ()) := (tells_eq l a ps p).mpr (by
  intro e5 e4 e3 e2 e1 e0 _ _
  refine ⟨fun _ => rfl, fun _ => ⟨fun h => ?_, fun _ => by simp⟩⟩
  have : e0 = false := by simp [e0]
  rw [this] at h; cases h)
theorem tells_gives : Gives prog RG 3 cTells :=
  gives (allCons great_gives (allCons roped_gives (allCons lenP_gives (allCons lenR_gives (allCons depthP_gives (allCons depthR_gives (allCons flatP_gives (allCons flatR_gives (allCons gatherP_gives (allCons gatherR_gives (allCons costP_gives (allCons costR_gives (allCons equal_gives allNil)))))))))))))
    (fun _ => noL) (by kernel_rfl) (by kernel_rfl) (by kernel_rfl) fun (l, a, ps, p, ()) _ => tells_vc l a ps p
end Go.Rp
end

section
set_option linter.unusedVariables false
set_option maxRecDepth 100000
open Go Go.VT
namespace Go.Rp

theorem keepR_eq (l : List Node) (r : List Int) : vc (EV [(50, cAsked), (66, cOwn)]) (lKeepR l r) Go.Proofs.Tryd.f27 cKeepR (l, r, ()) = (let e1 : List Bool := List.replicate (List.length l) false;
  let e0 : List Node × List Int × Int × Unit := ((keepAt l r).fst, (keepAt l r).snd.fst, (keepAt l r).snd.snd, ());
  Small RU (Sigma.mk (Ty.slice (56 : Nat) (Ty.user (0 : Nat))) l) →
  Small RU (Sigma.mk (Ty.slice (3 : Nat) (Ty.int IntKind.i64)) r) →
    ((askedOf l r != (0 : Int)) = true → ([], [], askedOf l r, ()) = e0) ∧
      ((askedOf l r != (0 : Int)) = false →
        ((0 : Int) ≤ (↑(List.length l) : Int) ∧ (↑(List.length l) : Int) * (↑(1 : Nat) : Int) ≤ (↑(140737488355328 : Nat) : Int)) ∧
          (∃ (p : Int × List Bool × Unit),
              l = l ∧
                r = r ∧
                  (0 : Int) = (0 : Int) ∧
                    askedOf l r = askedOf l r ∧
                      (askedOf l r != (0 : Int)) = (askedOf l r != (0 : Int)) ∧
                        (0 : Int) = p.fst ∧
                          l = l ∧
                            List.replicate (Int.toNat (↑(List.length l) : Int)) false = p.snd.fst ∧
                              (0 : Int) ≤ p.fst ∧ p.fst ≤ (↑(List.length r) : Int) ∧ p.snd.fst = markAll e1 (List.take (Int.toNat p.fst) r)) ∧
            ∀ (p : Int × List Bool × Unit),
              let e2 : List Bool := e1;
              let e1 : Int := List.getD r (Int.toNat p.fst) (0 : Int);
              let e0_1 : Bool := decide (p.fst < (↑(List.length r) : Int));
              (0 : Int) ≤ p.fst ∧ p.fst ≤ (↑(List.length r) : Int) ∧ p.snd.fst = markAll e2 (List.take (Int.toNat p.fst) r) →
                (e0_1 = true →
                    ((0 : Int) ≤ p.fst ∧ p.fst < (↑(List.length r) : Int)) ∧
                      ((0 : Int) ≤ e1 ∧ e1 < (↑(List.length p.snd.fst) : Int)) ∧
                        ∃ (p' : Int × List Bool × Unit),
                          l = l ∧
                            r = r ∧
                              (0 : Int) = (0 : Int) ∧
                                askedOf l r = askedOf l r ∧
                                  (askedOf l r != (0 : Int)) = (askedOf l r != (0 : Int)) ∧
                                    IntKind.wrap IntKind.i64 (p.fst + (1 : Int)) = p'.fst ∧
                                      l = l ∧
                                        List.set p.snd.fst (Int.toNat e1) true = p'.snd.fst ∧
                                          ((0 : Int) ≤ p'.fst ∧ p'.fst ≤ (↑(List.length r) : Int) ∧ p'.snd.fst = markAll e2 (List.take (Int.toNat p'.fst) r)) ∧
                                            List.length r - Int.toNat p'.fst < List.length r - Int.toNat p.fst) ∧
                  (e0_1 = false →
                    (∃ (p_1 : Int × List Bool × Unit),
                        l = l ∧
                          r = r ∧
                            (0 : Int) = (0 : Int) ∧
                              askedOf l r = askedOf l r ∧
                                (askedOf l r != (0 : Int)) = (askedOf l r != (0 : Int)) ∧
                                  p.fst = p.fst ∧
                                    e0_1 = e0_1 ∧
                                      IntKind.wrap IntKind.i64 ((↑(List.length l) : Int) - (1 : Int)) = p_1.fst ∧
                                        l = l ∧
                                          p.snd.fst = p_1.snd.fst ∧
                                            (-1 : Int) ≤ p_1.fst ∧
                                              p_1.fst < (↑(List.length l) : Int) ∧ List.length p_1.snd.fst = List.length l ∧ markDown l (Int.toNat (p_1.fst + (1 : Int))) p_1.snd.fst = needs l r) ∧
                      ∀ (p_1 : Int × List Bool × Unit),
                        let e5 : Bool := decide (p_1.fst ≥ (0 : Int));
                        let e4 : Node := Node.mk (0 : Int) (0 : Int) (0 : Int) (0 : Int) (0 : Int) (0 : Int) [];
                        let e3 : Int := IntKind.wrap IntKind.i64 (p_1.fst - (1 : Int));
                        let e2 : Bool := List.getD p_1.snd.fst (Int.toNat p_1.fst) false;
                        let e1 : Bool := e0_1;
                        let e0_2 : Node := List.getD l (Int.toNat p_1.fst) e4;
                        (-1 : Int) ≤ p_1.fst ∧ p_1.fst < (↑(List.length l) : Int) ∧ List.length p_1.snd.fst = List.length l ∧ markDown l (Int.toNat (p_1.fst + (1 : Int))) p_1.snd.fst = needs l r →
                          (e5 = true →
                              ((0 : Int) ≤ p_1.fst ∧ p_1.fst < (↑(List.length l) : Int)) ∧
                                ((0 : Int) ≤ p_1.fst ∧ p_1.fst < (↑(List.length p_1.snd.fst) : Int)) ∧
                                  ((e2 && e0_2.kind != (0 : Int)) = true →
                                      ((0 : Int) ≤ e0_2.a ∧ e0_2.a < (↑(List.length p_1.snd.fst) : Int)) ∧
                                        ((0 : Int) ≤ p_1.fst ∧ p_1.fst < (↑(List.length (List.set p_1.snd.fst (Int.toNat e0_2.a) true)) : Int)) ∧
                                          ((List.getD (List.set p_1.snd.fst (Int.toNat e0_2.a) true) (Int.toNat p_1.fst) false && e0_2.kind == (1 : Int)) = true →
                                              ((0 : Int) ≤ e0_2.b ∧ e0_2.b < (↑(List.length (List.set p_1.snd.fst (Int.toNat e0_2.a) true)) : Int)) ∧
                                                ∃ (p' : Int × List Bool × Unit),
                                                  l = l ∧
                                                    r = r ∧
                                                      (0 : Int) = (0 : Int) ∧
                                                        askedOf l r = askedOf l r ∧
                                                          (askedOf l r != (0 : Int)) = (askedOf l r != (0 : Int)) ∧
                                                            p.fst = p.fst ∧
                                                              e1 = e1 ∧
                                                                e3 = p'.fst ∧
                                                                  l = l ∧
                                                                    List.set (List.set p_1.snd.fst (Int.toNat e0_2.a) true) (Int.toNat e0_2.b) true = p'.snd.fst ∧
                                                                      ((-1 : Int) ≤ p'.fst ∧
                                                                          p'.fst < (↑(List.length l) : Int) ∧
                                                                            List.length p'.snd.fst = List.length l ∧ markDown l (Int.toNat (p'.fst + (1 : Int))) p'.snd.fst = needs l r) ∧
                                                                        Int.toNat (p'.fst + (1 : Int)) < Int.toNat (p_1.fst + (1 : Int))) ∧
                                            ((List.getD (List.set p_1.snd.fst (Int.toNat e0_2.a) true) (Int.toNat p_1.fst) false && e0_2.kind == (1 : Int)) = false →
                                              ∃ (p' : Int × List Bool × Unit),
                                                l = l ∧
                                                  r = r ∧
                                                    (0 : Int) = (0 : Int) ∧
                                                      askedOf l r = askedOf l r ∧
                                                        (askedOf l r != (0 : Int)) = (askedOf l r != (0 : Int)) ∧
                                                          p.fst = p.fst ∧
                                                            e1 = e1 ∧
                                                              e3 = p'.fst ∧
                                                                l = l ∧
                                                                  List.set p_1.snd.fst (Int.toNat e0_2.a) true = p'.snd.fst ∧
                                                                    ((-1 : Int) ≤ p'.fst ∧
                                                                        p'.fst < (↑(List.length l) : Int) ∧
                                                                          List.length p'.snd.fst = List.length l ∧ markDown l (Int.toNat (p'.fst + (1 : Int))) p'.snd.fst = needs l r) ∧
                                                                      Int.toNat (p'.fst + (1 : Int)) < Int.toNat (p_1.fst + (1 : Int)))) ∧
                                    ((e2 && e0_2.kind != (0 : Int)) = false →
                                      ((0 : Int) ≤ p_1.fst ∧ p_1.fst < (↑(List.length p_1.snd.fst) : Int)) ∧
                                        ((e2 && e0_2.kind == (1 : Int)) = true →
                                            ((0 : Int) ≤ e0_2.b ∧ e0_2.b < (↑(List.length p_1.snd.fst) : Int)) ∧
                                              ∃ (p' : Int × List Bool × Unit),
                                                l = l ∧
                                                  r = r ∧
                                                    (0 : Int) = (0 : Int) ∧
                                                      askedOf l r = askedOf l r ∧
                                                        (askedOf l r != (0 : Int)) = (askedOf l r != (0 : Int)) ∧
                                                          p.fst = p.fst ∧
                                                            e1 = e1 ∧
                                                              e3 = p'.fst ∧
                                                                l = l ∧
                                                                  List.set p_1.snd.fst (Int.toNat e0_2.b) true = p'.snd.fst ∧
                                                                    ((-1 : Int) ≤ p'.fst ∧
                                                                        p'.fst < (↑(List.length l) : Int) ∧
                                                                          List.length p'.snd.fst = List.length l ∧ markDown l (Int.toNat (p'.fst + (1 : Int))) p'.snd.fst = needs l r) ∧
                                                                      Int.toNat (p'.fst + (1 : Int)) < Int.toNat (p_1.fst + (1 : Int))) ∧
                                          ((e2 && e0_2.kind == (1 : Int)) = false →
                                            ∃ (p' : Int × List Bool × Unit),
                                              l = l ∧
                                                r = r ∧
                                                  (0 : Int) = (0 : Int) ∧
                                                    askedOf l r = askedOf l r ∧
                                                      (askedOf l r != (0 : Int)) = (askedOf l r != (0 : Int)) ∧
                                                        p.fst = p.fst ∧
                                                          e1 = e1 ∧
                                                            e3 = p'.fst ∧
                                                              l = l ∧
                                                                p_1.snd.fst = p'.snd.fst ∧
                                                                  ((-1 : Int) ≤ p'.fst ∧
                                                                      p'.fst < (↑(List.length l) : Int) ∧
                                                                        List.length p'.snd.fst = List.length l ∧ markDown l (Int.toNat (p'.fst + (1 : Int))) p'.snd.fst = needs l r) ∧
                                                                    Int.toNat (p'.fst + (1 : Int)) < Int.toNat (p_1.fst + (1 : Int))))) ∧
                            (e5 = false →
                              ((0 : Int) ≤ (↑(List.length l) : Int) ∧ (↑(List.length l) : Int) * (↑(8 : Nat) : Int) ≤ (↑(140737488355328 : Nat) : Int)) ∧
                                (∃ (p_2 : Int × List Int × List Node × Unit),
                                    l = l ∧
                                      r = r ∧
                                        (0 : Int) = (0 : Int) ∧
                                          askedOf l r = askedOf l r ∧
                                            (askedOf l r != (0 : Int)) = (askedOf l r != (0 : Int)) ∧
                                              p.fst = p.fst ∧
                                                e1 = e1 ∧
                                                  p_1.fst = p_1.fst ∧
                                                    e5 = e5 ∧
                                                      (0 : Int) = p_2.fst ∧
                                                        l = l ∧
                                                          p_1.snd.fst = p_1.snd.fst ∧
                                                            List.replicate (Int.toNat (↑(List.length l) : Int)) (0 : Int) = p_2.snd.fst ∧
                                                              [] = p_2.snd.snd.fst ∧
                                                                (0 : Int) ≤ p_2.fst ∧
                                                                  p_2.fst ≤ (↑(List.length l) : Int) ∧
                                                                    p_2.snd.fst = (keepGo (needs l r) l (Int.toNat p_2.fst)).snd ++ List.replicate (List.length l - Int.toNat p_2.fst) (0 : Int) ∧
                                                                      p_2.snd.snd.fst = (keepGo (needs l r) l (Int.toNat p_2.fst)).fst) ∧
                                  ∀ (p_2 : Int × List Int × List Node × Unit),
                                    let e9 : List Node × List Int := keepGo (needs l r) l (Int.toNat p_2.fst);
                                    let e8 : Bool := !List.getD p_1.snd.fst (Int.toNat p_2.fst) false;
                                    let e7 : Nat := List.length p_2.snd.snd.fst;
                                    let e6 : Bool := decide (p_2.fst < (↑(List.length l) : Int));
                                    let e5_1 : Nat := List.length l - Int.toNat p_2.fst;
                                    let e4_1 : Int := IntKind.wrap IntKind.i64 (p_2.fst + (1 : Int));
                                    let e3 : List Int := List.set p_2.snd.fst (Int.toNat p_2.fst) (↑e7 : Int);
                                    let e2 : Bool := e5;
                                    let e1 : Bool := e1;
                                    let e0_3 : Node := List.getD l (Int.toNat p_2.fst) e4;
                                    (0 : Int) ≤ p_2.fst ∧ p_2.fst ≤ (↑(List.length l) : Int) ∧ p_2.snd.fst = e9.snd ++ List.replicate e5_1 (0 : Int) ∧ p_2.snd.snd.fst = e9.fst →
                                      (e6 = true →
                                          ((0 : Int) ≤ p_2.fst ∧ p_2.fst < (↑(List.length p_1.snd.fst) : Int)) ∧
                                            (e8 = true →
                                                ∃ (p' : Int × List Int × List Node × Unit),
                                                  l = l ∧
                                                    r = r ∧
                                                      (0 : Int) = (0 : Int) ∧
                                                        askedOf l r = askedOf l r ∧
                                                          (askedOf l r != (0 : Int)) = (askedOf l r != (0 : Int)) ∧
                                                            p.fst = p.fst ∧
                                                              e1 = e1 ∧
                                                                p_1.fst = p_1.fst ∧
                                                                  e2 = e2 ∧
                                                                    e4_1 = p'.fst ∧
                                                                      l = l ∧
                                                                        p_1.snd.fst = p_1.snd.fst ∧
                                                                          p_2.snd.fst = p'.snd.fst ∧
                                                                            p_2.snd.snd.fst = p'.snd.snd.fst ∧
                                                                              ((0 : Int) ≤ p'.fst ∧
                                                                                  p'.fst ≤ (↑(List.length l) : Int) ∧
                                                                                    p'.snd.fst =
                                                                                        (keepGo (needs l r) l (Int.toNat p'.fst)).snd ++ List.replicate (List.length l - Int.toNat p'.fst) (0 : Int) ∧
                                                                                      p'.snd.snd.fst = (keepGo (needs l r) l (Int.toNat p'.fst)).fst) ∧
                                                                                List.length l - Int.toNat p'.fst < e5_1) ∧
                                              (e8 = false →
                                                ((0 : Int) ≤ p_2.fst ∧ p_2.fst < (↑(List.length l) : Int)) ∧
                                                  List.length e0_3.words ≤ (17592186044416 : Nat) ∧
                                                    ((e0_3.kind != (0 : Int)) = true →
                                                        ((0 : Int) ≤ e0_3.a ∧ e0_3.a < (↑(List.length p_2.snd.fst) : Int)) ∧
                                                          ((e0_3.kind == (1 : Int)) = true →
                                                              ((0 : Int) ≤ e0_3.b ∧ e0_3.b < (↑(List.length p_2.snd.fst) : Int)) ∧
                                                                ((0 : Int) ≤ p_2.fst ∧ p_2.fst < (↑(List.length p_2.snd.fst) : Int)) ∧
                                                                  (e7 +
                                                                          List.length
                                                                            [Node.mk e0_3.kind (List.getD p_2.snd.fst (Int.toNat e0_3.a) (0 : Int)) (List.getD p_2.snd.fst (Int.toNat e0_3.b) (0 : Int))
                                                                                e0_3.from_ e0_3.len e0_3.n e0_3.words]) *
                                                                        (72 : Nat) ≤
                                                                      (140737488355328 : Nat) ∧
                                                                    ∃ (p' : Int × List Int × List Node × Unit),
                                                                      l = l ∧
                                                                        r = r ∧
                                                                          (0 : Int) = (0 : Int) ∧
                                                                            askedOf l r = askedOf l r ∧
                                                                              (askedOf l r != (0 : Int)) = (askedOf l r != (0 : Int)) ∧
                                                                                p.fst = p.fst ∧
                                                                                  e1 = e1 ∧
                                                                                    p_1.fst = p_1.fst ∧
                                                                                      e2 = e2 ∧
                                                                                        e4_1 = p'.fst ∧
                                                                                          l = l ∧
                                                                                            p_1.snd.fst = p_1.snd.fst ∧
                                                                                              e3 = p'.snd.fst ∧
                                                                                                p_2.snd.snd.fst ++
                                                                                                      [Node.mk e0_3.kind (List.getD p_2.snd.fst (Int.toNat e0_3.a) (0 : Int))
                                                                                                          (List.getD p_2.snd.fst (Int.toNat e0_3.b) (0 : Int)) e0_3.from_ e0_3.len e0_3.n e0_3.words] =
                                                                                                    p'.snd.snd.fst ∧
                                                                                                  ((0 : Int) ≤ p'.fst ∧
                                                                                                      p'.fst ≤ (↑(List.length l) : Int) ∧
                                                                                                        p'.snd.fst =
                                                                                                            (keepGo (needs l r) l (Int.toNat p'.fst)).snd ++
                                                                                                              List.replicate (List.length l - Int.toNat p'.fst) (0 : Int) ∧
                                                                                                          p'.snd.snd.fst = (keepGo (needs l r) l (Int.toNat p'.fst)).fst) ∧
                                                                                                    List.length l - Int.toNat p'.fst < e5_1) ∧
                                                            ((e0_3.kind == (1 : Int)) = false →
                                                              ((0 : Int) ≤ p_2.fst ∧ p_2.fst < (↑(List.length p_2.snd.fst) : Int)) ∧
                                                                (e7 +
                                                                        List.length
                                                                          [Node.mk e0_3.kind (List.getD p_2.snd.fst (Int.toNat e0_3.a) (0 : Int)) e0_3.b e0_3.from_ e0_3.len e0_3.n e0_3.words]) *
                                                                      (72 : Nat) ≤
                                                                    (140737488355328 : Nat) ∧
                                                                  ∃ (p' : Int × List Int × List Node × Unit),
                                                                    l = l ∧
                                                                      r = r ∧
                                                                        (0 : Int) = (0 : Int) ∧
                                                                          askedOf l r = askedOf l r ∧
                                                                            (askedOf l r != (0 : Int)) = (askedOf l r != (0 : Int)) ∧
                                                                              p.fst = p.fst ∧
                                                                                e1 = e1 ∧
                                                                                  p_1.fst = p_1.fst ∧
                                                                                    e2 = e2 ∧
                                                                                      e4_1 = p'.fst ∧
                                                                                        l = l ∧
                                                                                          p_1.snd.fst = p_1.snd.fst ∧
                                                                                            e3 = p'.snd.fst ∧
                                                                                              p_2.snd.snd.fst ++
                                                                                                    [Node.mk e0_3.kind (List.getD p_2.snd.fst (Int.toNat e0_3.a) (0 : Int)) e0_3.b e0_3.from_ e0_3.len
                                                                                                        e0_3.n e0_3.words] =
                                                                                                  p'.snd.snd.fst ∧
                                                                                                ((0 : Int) ≤ p'.fst ∧
                                                                                                    p'.fst ≤ (↑(List.length l) : Int) ∧
                                                                                                      p'.snd.fst =
                                                                                                          (keepGo (needs l r) l (Int.toNat p'.fst)).snd ++
                                                                                                            List.replicate (List.length l - Int.toNat p'.fst) (0 : Int) ∧
                                                                                                        p'.snd.snd.fst = (keepGo (needs l r) l (Int.toNat p'.fst)).fst) ∧
                                                                                                  List.length l - Int.toNat p'.fst < e5_1)) ∧
                                                      ((e0_3.kind != (0 : Int)) = false →
                                                        ((e0_3.kind == (1 : Int)) = true →
                                                            ((0 : Int) ≤ e0_3.b ∧ e0_3.b < (↑(List.length p_2.snd.fst) : Int)) ∧
                                                              ((0 : Int) ≤ p_2.fst ∧ p_2.fst < (↑(List.length p_2.snd.fst) : Int)) ∧
                                                                (e7 +
                                                                        List.length
                                                                          [Node.mk e0_3.kind e0_3.a (List.getD p_2.snd.fst (Int.toNat e0_3.b) (0 : Int)) e0_3.from_ e0_3.len e0_3.n e0_3.words]) *
                                                                      (72 : Nat) ≤
                                                                    (140737488355328 : Nat) ∧
                                                                  ∃ (p' : Int × List Int × List Node × Unit),
                                                                    l = l ∧
                                                                      r = r ∧
                                                                        (0 : Int) = (0 : Int) ∧
                                                                          askedOf l r = askedOf l r ∧
                                                                            (askedOf l r != (0 : Int)) = (askedOf l r != (0 : Int)) ∧
                                                                              p.fst = p.fst ∧
                                                                                e1 = e1 ∧
                                                                                  p_1.fst = p_1.fst ∧
                                                                                    e2 = e2 ∧
                                                                                      e4_1 = p'.fst ∧
                                                                                        l = l ∧
                                                                                          p_1.snd.fst = p_1.snd.fst ∧
                                                                                            e3 = p'.snd.fst ∧
                                                                                              p_2.snd.snd.fst ++
                                                                                                    [Node.mk e0_3.kind e0_3.a (List.getD p_2.snd.fst (Int.toNat e0_3.b) (0 : Int)) e0_3.from_ e0_3.len
                                                                                                        e0_3.n e0_3.words] =
                                                                                                  p'.snd.snd.fst ∧
                                                                                                ((0 : Int) ≤ p'.fst ∧
                                                                                                    p'.fst ≤ (↑(List.length l) : Int) ∧
                                                                                                      p'.snd.fst =
                                                                                                          (keepGo (needs l r) l (Int.toNat p'.fst)).snd ++
                                                                                                            List.replicate (List.length l - Int.toNat p'.fst) (0 : Int) ∧
                                                                                                        p'.snd.snd.fst = (keepGo (needs l r) l (Int.toNat p'.fst)).fst) ∧
                                                                                                  List.length l - Int.toNat p'.fst < e5_1) ∧
                                                          ((e0_3.kind == (1 : Int)) = false →
                                                            ((0 : Int) ≤ p_2.fst ∧ p_2.fst < (↑(List.length p_2.snd.fst) : Int)) ∧
                                                              (e7 + List.length [Node.mk e0_3.kind e0_3.a e0_3.b e0_3.from_ e0_3.len e0_3.n e0_3.words]) * (72 : Nat) ≤ (140737488355328 : Nat) ∧
                                                                ∃ (p' : Int × List Int × List Node × Unit),
                                                                  l = l ∧
                                                                    r = r ∧
                                                                      (0 : Int) = (0 : Int) ∧
                                                                        askedOf l r = askedOf l r ∧
                                                                          (askedOf l r != (0 : Int)) = (askedOf l r != (0 : Int)) ∧
                                                                            p.fst = p.fst ∧
                                                                              e1 = e1 ∧
                                                                                p_1.fst = p_1.fst ∧
                                                                                  e2 = e2 ∧
                                                                                    e4_1 = p'.fst ∧
                                                                                      l = l ∧
                                                                                        p_1.snd.fst = p_1.snd.fst ∧
                                                                                          e3 = p'.snd.fst ∧
                                                                                            p_2.snd.snd.fst ++ [Node.mk e0_3.kind e0_3.a e0_3.b e0_3.from_ e0_3.len e0_3.n e0_3.words] =
                                                                                                p'.snd.snd.fst ∧
                                                                                              ((0 : Int) ≤ p'.fst ∧
                                                                                                  p'.fst ≤ (↑(List.length l) : Int) ∧
                                                                                                    p'.snd.fst =
                                                                                                        (keepGo (needs l r) l (Int.toNat p'.fst)).snd ++
                                                                                                          List.replicate (List.length l - Int.toNat p'.fst) (0 : Int) ∧
                                                                                                      p'.snd.snd.fst = (keepGo (needs l r) l (Int.toNat p'.fst)).fst) ∧
                                                                                                List.length l - Int.toNat p'.fst < e5_1)))) ∧
                                        (e6 = false →
                                          (∃ (p_3 : Int × List Int × Unit),
                                              l = l ∧
                                                r = r ∧
                                                  (0 : Int) = (0 : Int) ∧
                                                    askedOf l r = askedOf l r ∧
                                                      (askedOf l r != (0 : Int)) = (askedOf l r != (0 : Int)) ∧
                                                        p.fst = p.fst ∧
                                                          e1 = e1 ∧
                                                            p_1.fst = p_1.fst ∧
                                                              e2 = e2 ∧
                                                                p_2.fst = p_2.fst ∧
                                                                  e6 = e6 ∧
                                                                    (0 : Int) = p_3.fst ∧
                                                                      l = l ∧
                                                                        p_1.snd.fst = p_1.snd.fst ∧
                                                                          p_2.snd.fst = p_2.snd.fst ∧
                                                                            p_2.snd.snd.fst = p_2.snd.snd.fst ∧
                                                                              [] = p_3.snd.fst ∧
                                                                                (0 : Int) ≤ p_3.fst ∧
                                                                                  p_3.fst ≤ (↑(List.length r) : Int) ∧
                                                                                    p_3.snd.fst = List.map (at_ (keptOf l r).snd) (List.take (Int.toNat p_3.fst) r)) ∧
                                            ∀ (p_3 : Int × List Int × Unit),
                                              let e4 : Bool := e2;
                                              let e3 : Bool := decide (p_3.fst < (↑(List.length r) : Int));
                                              let e2 : Bool := e6;
                                              let e1 : Bool := e1;
                                              let e0_4 : Int := List.getD r (Int.toNat p_3.fst) (0 : Int);
                                              (0 : Int) ≤ p_3.fst ∧ p_3.fst ≤ (↑(List.length r) : Int) ∧ p_3.snd.fst = List.map (at_ (keptOf l r).snd) (List.take (Int.toNat p_3.fst) r) →
                                                (e3 = true →
                                                    ((0 : Int) ≤ p_3.fst ∧ p_3.fst < (↑(List.length r) : Int)) ∧
                                                      ((0 : Int) ≤ e0_4 ∧ e0_4 < (↑(List.length p_2.snd.fst) : Int)) ∧
                                                        (List.length p_3.snd.fst + List.length [List.getD p_2.snd.fst (Int.toNat e0_4) (0 : Int)]) * (8 : Nat) ≤ (140737488355328 : Nat) ∧
                                                          ∃ (p' : Int × List Int × Unit),
                                                            l = l ∧
                                                              r = r ∧
                                                                (0 : Int) = (0 : Int) ∧
                                                                  askedOf l r = askedOf l r ∧
                                                                    (askedOf l r != (0 : Int)) = (askedOf l r != (0 : Int)) ∧
                                                                      p.fst = p.fst ∧
                                                                        e1 = e1 ∧
                                                                          p_1.fst = p_1.fst ∧
                                                                            e4 = e4 ∧
                                                                              p_2.fst = p_2.fst ∧
                                                                                e2 = e2 ∧
                                                                                  IntKind.wrap IntKind.i64 (p_3.fst + (1 : Int)) = p'.fst ∧
                                                                                    l = l ∧
                                                                                      p_1.snd.fst = p_1.snd.fst ∧
                                                                                        p_2.snd.fst = p_2.snd.fst ∧
                                                                                          p_2.snd.snd.fst = p_2.snd.snd.fst ∧
                                                                                            p_3.snd.fst ++ [List.getD p_2.snd.fst (Int.toNat e0_4) (0 : Int)] = p'.snd.fst ∧
                                                                                              ((0 : Int) ≤ p'.fst ∧
                                                                                                  p'.fst ≤ (↑(List.length r) : Int) ∧
                                                                                                    p'.snd.fst = List.map (at_ (keptOf l r).snd) (List.take (Int.toNat p'.fst) r)) ∧
                                                                                                List.length r - Int.toNat p'.fst < List.length r - Int.toNat p_3.fst) ∧
                                                  (e3 = false → (p_2.snd.snd.fst, p_3.snd.fst, (0 : Int), ()) = e0)))))) := by kernel_rfl

theorem makes_eq (l : List Node) (w : List Int) (n0 n1 n2 n3 : Int) : vc (EV [(11, cGreat), (12, cRoped), (29, cWordsP), (30, cWordsR), (31, cCatR), (32, cCatR), (33, cCheck), (34, cCheck), (35, cPartR), (36, cPartR), (37, cOffR), (38, cOffR), (28, cSame)]) noL Go.Proofs.Tryd.f5 cMakes (l, w, n0, n1, n2, n3, ()) = (let e9 : List Node := (offOf l n0 n1).fst;
  let e8 : List Node := (catOf l n0 n1).fst;
  let e7 : Int := (wordsOf l w).snd.fst;
  let e6 : Int := (wordsOf l w).snd.snd;
  let e5 : List Node := (partOf l n0 n2 n3).fst;
  let e4 : Bool := greatOf l || decide ((↑(List.length w) : Int) > (3000 : Int));
  let e3 : Int × Int := (offOf l n0 n1).snd;
  let e2 : Int × Int := (catOf l n0 n1).snd;
  let e1 : Int × Int := (partOf l n0 n2 n3).snd;
  let e0 : Bool := checkOf l != checkOf l || !sameOf (wordsOf l w).fst (wordsOf l w).fst || e7 != e7 || e6 != e6 || !sameOf e8 e8 || e2.fst != e2.fst || e2.snd != e2.snd;
  Small RU (Sigma.mk (Ty.slice (56 : Nat) (Ty.user (0 : Nat))) l) →
  Small RU (Sigma.mk (Ty.slice (3 : Nat) (Ty.int IntKind.i64)) w) →
    (e4 = true → (true, ()) = (true, ())) ∧
      (e4 = false →
        List.length w ≤ (4000000 : Nat) ∧
          List.length w ≤ (4000000 : Nat) ∧
            ((0 : Int) ≤ (0 : Int) ∧ (0 : Int) < (↑(4 : Nat) : Int)) ∧
              ((0 : Int) ≤ (1 : Int) ∧ (1 : Int) < (↑(4 : Nat) : Int)) ∧
                True ∧
                  ((0 : Int) ≤ (0 : Int) ∧ (0 : Int) < (↑(4 : Nat) : Int)) ∧
                    ((0 : Int) ≤ (1 : Int) ∧ (1 : Int) < (↑(4 : Nat) : Int)) ∧
                      True ∧
                        (e0 = true → (false, ()) = (true, ())) ∧
                          (e0 = false →
                            ((0 : Int) ≤ (0 : Int) ∧ (0 : Int) < (↑(4 : Nat) : Int)) ∧
                              ((0 : Int) ≤ (2 : Int) ∧ (2 : Int) < (↑(4 : Nat) : Int)) ∧
                                ((0 : Int) ≤ (3 : Int) ∧ (3 : Int) < (↑(4 : Nat) : Int)) ∧
                                  True ∧
                                    ((0 : Int) ≤ (0 : Int) ∧ (0 : Int) < (↑(4 : Nat) : Int)) ∧
                                      ((0 : Int) ≤ (2 : Int) ∧ (2 : Int) < (↑(4 : Nat) : Int)) ∧
                                        ((0 : Int) ≤ (3 : Int) ∧ (3 : Int) < (↑(4 : Nat) : Int)) ∧
                                          True ∧
                                            ((0 : Int) ≤ (0 : Int) ∧ (0 : Int) < (↑(4 : Nat) : Int)) ∧
                                              ((0 : Int) ≤ (1 : Int) ∧ (1 : Int) < (↑(4 : Nat) : Int)) ∧
                                                True ∧
                                                  ((0 : Int) ≤ (0 : Int) ∧ (0 : Int) < (↑(4 : Nat) : Int)) ∧
                                                    ((0 : Int) ≤ (1 : Int) ∧ (1 : Int) < (↑(4 : Nat) : Int)) ∧
                                                      True ∧ (sameOf e5 e5 && e1.fst == e1.fst && e1.snd == e1.snd && sameOf e9 e9 && e3.fst == e3.fst && e3.snd == e3.snd && true, ()) = (true, ())))) := by kernel_rfl

theorem keeps_eq (l : List Node) (a : Int) (r : List Int) : vc (EV [(11, cGreat), (12, cRoped), (24, cEvenP), (25, cEvenP), (26, cKeepP), (27, cKeepR), (28, cSame), (23, cEqual)]) noL Go.Proofs.Tryd.f4 cKeeps (l, a, r, ()) = (let e4 : Nat := List.length r + List.length l;
  let e3 : Int := (evenAt l a).snd.snd;
  let e2 : Int := (evenAt l a).snd.fst;
  let e1 : List Int := (keepAt l r).snd.fst;
  let e0 : Int := (keepAt l r).snd.snd;
  Small RU (Sigma.mk (Ty.slice (56 : Nat) (Ty.user (0 : Nat))) l) →
  Small RU (Sigma.mk (Ty.slice (3 : Nat) (Ty.int IntKind.i64)) r) →
    (greatOf l = true → (true, ()) = (true, ())) ∧
      (greatOf l = false →
        True ∧
          True ∧
            e4 ≤ (17592186044416 : Nat) ∧
              e4 ≤ (17592186044416 : Nat) ∧
                (sameOf (evenAt l a).fst (evenAt l a).fst && e2 == e2 && e3 == e3 && sameOf (keepAt l r).fst (keepAt l r).fst && decide (e1 = e1) && e0 == e0 && true, ()) = (true, ()))) := by kernel_rfl

end Go.Rp
end

section
set_option linter.unusedVariables false
set_option linter.unusedSimpArgs false
set_option maxRecDepth 100000
open Go Go.VT
namespace Go.Rp

theorem same_self (l : List Node) : sameOf l l = true := by simp [sameOf]

theorem makes_vc (l : List Node) (w : List Int) (n0 n1 n2 n3 : Int) : vc (EV [(11, cGreat), (12, cRoped), (29, cWordsP), (30, cWordsR), (31, cCatR), (32, cCatR), (33, cCheck), (34, cCheck), (35, cPartR), (36, cPartR), (37, cOffR), (38, cOffR), (28, cSame)]) noL Go.Proofs.Tryd.f5 cMakes (l, w, n0, n1, n2, n3, ()) := (makes_eq l w n0 n1 n2 n3).mpr (by
  intro e9 e8 e7 e6 e5 e4 e3 e2 e1 e0 _ _
  refine ⟨fun _ => rfl, fun h => ?_⟩
  have hw : w.length ≤ 4000000 := by
    have h1 : (greatOf l || decide ((w.length : Int) > 3000)) = false := h
    simp only [Bool.or_eq_false_iff, decide_eq_false_iff_not] at h1
    omega
  have he0 : e0 = false := by simp [e0, same_self]
  refine ⟨hw, hw, by decide, by decide, trivial, by decide, by decide, trivial, fun h => ?_, fun _ => ⟨by decide, by decide, by decide, trivial, by decide, by decide, by decide, trivial, by decide, by decide, trivial, by decide, by decide, trivial, by simp [same_self]⟩⟩
  rw [he0] at h; cases h)
theorem makes_gives : Gives prog RG 5 cMakes :=
  gives (allCons great_gives (allCons roped_gives (allCons wordsP_gives (allCons wordsR_gives (allCons catP_gives (allCons catR_gives (allCons checkP_gives (allCons check_gives (allCons partP_gives (allCons partR_gives (allCons offP_gives (allCons offR_gives (allCons same_gives allNil)))))))))))))
    (fun _ => noL) (by kernel_rfl) (by kernel_rfl) (by kernel_rfl) fun (l, w, n0, n1, n2, n3, ()) _ => makes_vc l w n0 n1 n2 n3

theorem keeps_vc (l : List Node) (a : Int) (r : List Int) (hp : r.length ≤ 17592186044000) : vc (EV [(11, cGreat), (12, cRoped), (24, cEvenP), (25, cEvenP), (26, cKeepP), (27, cKeepR), (28, cSame), (23, cEqual)]) noL Go.Proofs.Tryd.f4 cKeeps (l, a, r, ()) := (keeps_eq l a r).mpr (by
  intro e4 e3 e2 e1 e0 _ _
  refine ⟨fun _ => rfl, fun h => ?_⟩
  have hl : l.length ≤ 60 := by
    unfold greatOf at h
    split at h
    · cases h
    · omega
  have he : e4 ≤ 17592186044416 := by show r.length + l.length ≤ _; omega
  exact ⟨trivial, trivial, he, he, by simp [same_self]⟩)
end Go.Rp
end

section
set_option linter.unusedVariables false
set_option linter.unusedSimpArgs false
namespace Go.Proofs.YtcgjnkdcfpegiaaDoor
open Go.ChangeShapes Go.WideShapes Go.ChangeAt Go.RowKit Go.VT

abbrev argsMakes : List ArgT := [(24, true, [Go.Rp.nodes]), (25, false, [Go.Rp.ints]), (43, true, [Go.Rp.i64, Go.Rp.i64, Go.Rp.i64, Go.Rp.i64])]

set_option maxRecDepth 100000 in
theorem makes_lifted (os : Os) (started : os.Started) (H : Type) (enc : TypeId × Value → H) :
    ReturnsInHanded {} Tryd.checked os 5 .any (fun w args => (Rows.ropeMakesSpec.pre enc Tryd.prog Tryd.f5 [] false w args ∧ laidMetH Tryd.prog laid1 w) ∧ sizedMet enc Tryd.prog Tryd.f5 (OpenSpec.ofChange Rows.ropeMakesSpec) false w args)
      (Rows.ropeMakesSpec.post enc Tryd.prog Tryd.f5 false true false false) := by
  refine returnsInHanded_of_change_and (C := Tryd.checked) (X := fun w _ => laidMetH Tryd.prog laid1 w) (fun _ _ _ hh h => h.of_heap hh) own started (by kernel_rfl) Tryd.func5
    (ChangeSpec.witness_shaped (enc := enc) (C := Tryd.checked) (os := os) (X := fun w _ => laidMetH Tryd.prog laid1 w) false (World.doorLaid Tryd.prog 600 os) #[.agg #[.slice none 0 0], .slice none 0 0, .agg #[.int .i64 0, .int .i64 0, .int .i64 0, .int .i64 0]] 8 rfl (World.shaped_of_RefB (by kernel_rfl) (by kernel_rfl)) (by kernel_rfl) (by kernel_rfl) (by kernel_rfl) (door_met os _)) ?_
  intro W base args ds gs before hval0 hW _ hsz hL _
  have hval : ∀ (j : Nat) t v, Tryd.f5.params[j]? = some t → args[j]? = some v → Value.okWide Tryd.prog W .any base t v := hval0
  have hW' := hW
  obtain ⟨p, q, hA0, hV, rfl, hfz, hnd⟩ := hW
  have hA : DataW.TrodAll enc Tryd.prog W 0 (fun _ => true) true Tryd.f5.params.toList args.toList ds p := hA0
  have hps : Tryd.f5.params.toList = argsMakes.map (·.1) := by rw [Tryd.params5]; rfl
  obtain ⟨rfl, rfl⟩ : gs = [] ∧ q = [] := by
    cases gs with
    | nil => exact ⟨rfl, hV⟩
    | cons g r => exact absurd hV (by intro h; cases h)
  have hsz' : ∀ n ∈ DataW.weightsEach Tryd.prog Tryd.f5.params.toList ds, n ≤ reachBytes := by
    intro n hn
    have h1 : (DataW.weightsEach Tryd.prog (Tryd.f5.params.toList ++ []) (ds ++ [])).all (· ≤ reachBytes) = true := hsz
    rw [List.append_nil, List.append_nil] at h1
    simpa using List.all_eq_true.1 h1 n hn
  rw [hps] at hA hsz'
  obtain ⟨xs, us, hr, hp⟩ := args_rep read_ok (A := argsMakes) (fun a ha => by
    simp only [List.mem_cons, List.not_mem_nil, or_false] at ha
    rcases ha with rfl | rfl | rfl
    · exact arg_store
    · exact arg_ints
    · exact arg_arr4) (fun j t v hj hv => hval j t v (by rw [← hps] at hj; simpa using hj) (by simpa using hv)) hA hsz'
  obtain ⟨d1, d2, d3, rfl⟩ : ∃ d1 d2 d3, ds = [d1, d2, d3] := by
    have hlen := trodAll_len hA
    match ds, hlen with
    | [d1, d2, d3], _ => exact ⟨_, _, _, rfl⟩
  have hcall := law_calls (pre := none) (A := argsMakes) (w := W) Go.Rp.makes_gives (of_laid hL) hr hp trivial
  rw [Array.toArray_toList] at hcall
  refine hcall.mono fun e W' ⟨he, hb⟩ => ⟨_, he, law_post rfl hW' hb (by kernel_rfl) rfl (fun t ht => ?_)⟩
  rw [hps] at ht
  simp only [List.map_cons, List.map_nil, List.mem_cons, List.not_mem_nil, or_false] at ht
  rcases ht with rfl | rfl | rfl <;> exact ⟨by kernel_rfl, of_decide_eq_true (by kernel_rfl)⟩

theorem makes_holds : Rows.RopeMakesSaid :=
  OpenClaim.holds_of_wide 5 Tryd.f5 rfl rfl rfl rfl rfl rfl rfl ⟨rfl, rfl, rfl, rfl, rfl⟩ rfl rfl rfl rfl rfl (by kernel_rfl) Tryd.func5 (by kernel_rfl)
    (of_decide_eq_true (by kernel_rfl)) (by unfold Func.isWrapper; first | (rw [if_pos (by decide +kernel)]; kernel_rfl) | (rw [if_neg (by decide +kernel)]; exact ⟨rfl, rfl⟩))
    (fun os started H enc _ => makes_lifted os started H enc)

theorem makes_card : Rows.RopeMakesCardSaid :=
  Claim7.holds_tied_plain_at .later [] [.funcs] true (true, "ed8b6c3168ac870bf0e8db294ef9ff29b1bb19f13067c1a4f5f266a3cad420dc") true
    makes_holds (fun _ h => by cases h) (by kernel_rfl) (fun _ h => by cases h) ropeMakes_row_tie rfl ⟨rfl, rfl⟩ (by kernel_rfl) rfl
    (fun f fn hf hfn => by
      obtain rfl : f = 5 := Option.some.inj ((show Tryd.prog.funcNamed "sheafworks/sheafworkslaw06.RopeMakes" = some 5 by kernel_rfl).symm.trans hf) |>.symm
      obtain rfl : fn = Tryd.f5 := (Option.some.inj (Tryd.func5.symm.trans hfn)).symm
      exact ⟨by kernel_rfl, fun j t ht => by
        rw [Tryd.params5] at ht
        have hm : t ∈ [24, 25, 43] := by simpa using Array.mem_of_getElem? ht
        have hall : ([24, 25, 43].all fun u => !Tryd.prog.wantsStandIn u) = true := by kernel_rfl
        exact (show Tryd.prog.wantsStandIn t = false by simpa using List.all_eq_true.1 hall t hm)⟩)
    (by kernel_rfl)
end Go.Proofs.YtcgjnkdcfpegiaaDoor
end
