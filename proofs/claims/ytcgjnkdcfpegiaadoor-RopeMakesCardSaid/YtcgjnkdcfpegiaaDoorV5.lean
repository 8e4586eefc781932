/-
What the last text of this claim uses: RpH0, RpEq7, RpG, RpH, RpEq5, RpF, RpI, RpJ, RpK, RpL, RpKq, RpEq14, RpUn, RpEq15, RpKr, RpEq13, RpEq12, RpM.
-/
import Derived.Test.YtcgjnkdcfpegiaaDoorV4

section
set_option linter.unusedVariables false
set_option linter.unusedSimpArgs false
open Go Go.VT
namespace Go.Rp

theorem longFrom_snoc (x : Int) : ∀ (l : List Int) (i : Nat), longFrom i (l ++ [x]) = longFrom i l ++ [(((i + l.length : Nat) : Int), x)]
  | [], i => by simp [longFrom]
  | y :: r, i => by
    simp only [List.cons_append, longFrom, longFrom_snoc x r (i + 1), List.length_cons]
    rw [show i + 1 + r.length = i + (r.length + 1) by omega]

theorem mget_long : ∀ (l : List Int) (i k : Nat), i ≤ k → k < i + l.length → mget (fun (x y : Int) => x == y) (longFrom i l) (k : Int) = some (l.getD (k - i) 0)
  | [], i, k, h1, h2 => by simp at h2; omega
  | x :: r, i, k, h1, h2 => by
    simp only [longFrom, mget]
    by_cases h : i = k
    · subst h; simp
    · have hb : ((i : Int) == (k : Int)) = false := by
        rw [beq_eq_false_iff_ne]; omega
      rw [hb]
      simp only [cond_false]
      have := mget_long r (i + 1) k (by omega) (by simp only [List.length_cons] at h2; omega)
      rw [this]
      have e : k - i = (k - (i + 1)) + 1 := by omega
      rw [e]
      simp

theorem mput_long (v : Int) : ∀ (l : List Int) (i : Nat), mput (fun (x y : Int) => x == y) (longFrom i l) ((i + l.length : Nat) : Int) v = longFrom i l ++ [(((i + l.length : Nat) : Int), v)]
  | [], i => by simp [longFrom, mput]
  | x :: r, i => by
    simp only [longFrom, mput, List.length_cons]
    have hb : ((i : Int) == ((i + (r.length + 1) : Nat) : Int)) = false := by
      simp only [beq_eq_false_iff_ne, ne_eq]; omega
    rw [hb]
    simp only [cond_false, List.cons_append]
    rw [show i + (r.length + 1) = i + 1 + r.length by omega, mput_long v r (i + 1)]

theorem mget_put (l : List (Int × Int)) (k v : Int) : mget (fun (x y : Int) => x == y) (mput (fun (x y : Int) => x == y) l k v) k = some v := by
  induction l with
  | nil => simp [mput, mget]
  | cons x r ih =>
    obtain ⟨a, b⟩ := x
    simp only [mput]
    cases h : a == k with
    | true => simp [mget]
    | false => simp [mget, h, ih]

theorem longOf_snoc (l : List Node) (x : Node) : longOf (l ++ [x]) = longOf l ++ [((l.length : Int), lenOf (lensOf l) x)] := by
  unfold longOf
  rw [lensOf_snoc, longFrom_snoc, lensOf_length, Nat.zero_add]

theorem lg_long {l : List Node} {a : Int} (h0 : 0 ≤ a) (h1 : a < l.length) : lg (longOf l) a = at_ (lensOf l) a := by
  obtain ⟨k, rfl⟩ := Int.eq_ofNat_of_zero_le h0
  unfold lg longOf
  rw [mget_long _ _ _ (Nat.zero_le _) (by rw [lensOf_length]; omega)]
  simp [at_]

theorem nodeOk_take {l : List Node} {i j : Nat} (hi : i ≤ l.length) (hj : j ≤ i) {x : Node} (hf : fieldsOf x j = true) (n : Int) : nodeOk ((lensOf l).take i) x n = nodeOk (lensOf l) x n := by
  unfold nodeOk
  by_cases hk : x.kind = 2
  · obtain ⟨h0, h1⟩ := fields_a hf (by omega)
    rw [at_take h0 (by omega)]
  · simp [hk]

theorem valid_steps {l : List Node} : validOf l = true ↔ ∀ i : Nat, i < l.length → stepOk l i = true := by
  unfold validOf
  rw [Bool.and_eq_true, fieldsAll_iff]
  simp only [List.all_eq_true, List.mem_range, stepOk, Bool.and_eq_true]
  exact ⟨fun h i hi => ⟨h.1 i hi, h.2 i hi⟩, fun h => ⟨fun i hi => (h i hi).1, fun i hi => (h i hi).2⟩⟩

theorem take_getD {α : Type} {l : List α} {i j : Nat} (h : j < i) (d : α) : (l.take i).getD j d = l.getD j d := by
  simp only [List.getD, List.getElem?_take, h, if_true]

theorem step_take {l : List Node} {i j : Nat} (hi : i ≤ l.length) (hj : j < i) : stepOk (l.take i) j = stepOk l j := by
  unfold stepOk
  rw [lensOf_take l i hi, take_getD hj, take_getD hj]
  cases hf : fieldsOf (l.getD j node0) j with
  | false => rfl
  | true => rw [nodeOk_take hi (Nat.le_of_lt hj) hf]

theorem steps_take {l : List Node} {i : Nat} (hi : i ≤ l.length) (h : ∀ j : Nat, j < i → stepOk l j = true) : validOf (l.take i) = true := by
  rw [valid_steps]
  intro j hj
  have hj : j < i := by simp at hj; omega
  rw [step_take hi hj]
  exact h j hj

theorem hasB_iff {a : Int} {i : Nat} : hasB a i = lies a 0 ((i : Int) - 1) := by
  unfold hasB lies
  congr 1
  simp only [decide_eq_decide]
  omega

theorem words_empty (w : List Int) : w.isEmpty = decide (w = []) := by cases w <;> simp

noncomputable def badK (x : Node) (L : List (Int × Int)) (i : Int) : Bool := if x.kind ≤ 0 then !okWords x else if x.kind = 1 then !okCat x i else if x.kind = 2 then !okPart x L i else !okOff x i
noncomputable def valK (x : Node) (L : List (Int × Int)) : Int := if x.kind ≤ 0 then (x.words.length : Int) else if x.kind = 1 then IntKind.i64.wrap (lg L x.a + lg L x.b) else if x.kind = 2 then x.len else lg L x.a

/-- What a node is asked for, by the program, is what the chapter says. -/
theorem prog_step {l : List Node} {i : Nat} (hi : i < l.length) (hs : ∀ j : Nat, j < i → stepOk l j = true) :
    ((l.getD i node0).kind < 0 ∨ 4 ≤ (l.getD i node0).kind → stepOk l i = false) ∧
    (0 ≤ (l.getD i node0).kind → (l.getD i node0).kind < 4 → (badK (l.getD i node0) (longOf (l.take i)) i = true → stepOk l i = false) ∧
      (badK (l.getD i node0) (longOf (l.take i)) i = false → (¬ valK (l.getD i node0) (longOf (l.take i)) ≤ 1048576 → stepOk l i = false) ∧
        (valK (l.getD i node0) (longOf (l.take i)) ≤ 1048576 → stepOk l i = true ∧ valK (l.getD i node0) (longOf (l.take i)) = lenOf (lensOf (l.take i)) (l.getD i node0)))) := by
  have hv := steps_take (Nat.le_of_lt hi) hs
  have hl : (l.take i).length = i := by simp; omega
  have hlg : ∀ {a : Int}, 0 ≤ a → a < i → lg (longOf (l.take i)) a = at_ (lensOf (l.take i)) a ∧ at_ (lensOf (l.take i)) a = at_ (lensOf l) a ∧ 0 ≤ at_ (lensOf (l.take i)) a ∧ at_ (lensOf (l.take i)) a ≤ 1048576 := by
    intro a h0 h1
    refine ⟨lg_long h0 (by rw [hl]; exact h1), ?_, ?_⟩
    · rw [lensOf_take l i (Nat.le_of_lt hi), at_take h0 h1]
    · obtain ⟨k, rfl⟩ := Int.eq_ofNat_of_zero_le h0
      exact (valid_lens hv k (by rw [hl]; omega)).1
  have hst : stepOk l i = (fieldsOf (l.getD i node0) i && nodeOk (lensOf l) (l.getD i node0) (lenOf (lensOf (l.take i)) (l.getD i node0))) := by
    unfold stepOk
    rw [lens_get l i hi, lensOf_take l i (Nat.le_of_lt hi)]
  generalize l.getD i node0 = x at hst ⊢
  generalize hlens : lensOf (l.take i) = lens at hst hlg ⊢
  generalize hL : longOf (l.take i) = L at hlg ⊢
  rw [hst]
  refine ⟨fun hk => ?_, fun h0 h4 => ?_⟩
  · have : fieldsOf x i = false := by
      unfold fieldsOf
      rw [if_neg (by omega), if_neg (by omega), if_neg (by omega), if_neg (by omega)]
    rw [this]; rfl
  · have hk : x.kind = 0 ∨ x.kind = 1 ∨ x.kind = 2 ∨ x.kind = 3 := by omega
    rcases hk with hk | hk | hk | hk
    · have hb : badK x L i = !fieldsOf x i := by
        simp only [badK, fieldsOf, hk, if_true, okWords, Int.le_refl]
        congr 1
        rw [Bool.eq_iff_iff]
        simp only [Bool.and_eq_true, beq_iff_eq, decide_eq_true_eq]
        constructor
        · rintro ⟨⟨⟨⟨⟨h1, h2⟩, h3⟩, h4⟩, h5⟩, h6⟩; exact ⟨⟨h1, h2, h3, h4, h5⟩, h6⟩
        · rintro ⟨⟨h1, h2, h3, h4, h5⟩, h6⟩; exact ⟨⟨⟨⟨⟨h1, h2⟩, h3⟩, h4⟩, h5⟩, h6⟩
      have hvl : valK x L = x.words.length := by simp [valK, hk]
      have hle : lenOf lens x = min (x.words.length : Int) 2097152 := by simp [lenOf, hk]
      rw [hb, hvl, hle]
      cases hf : fieldsOf x i with
      | false => simp
      | true => simp only [Bool.not_true, Bool.false_eq_true, false_implies, true_and, Bool.true_and, forall_const, nodeOk, hk]; simp only [Bool.and_eq_true, Bool.and_eq_false_iff, decide_eq_true_eq, decide_eq_false_iff_not]; refine ⟨fun h => .inl (by omega), fun h => ⟨⟨by omega, by simp⟩, by omega⟩⟩
    · have hb : badK x L i = !fieldsOf x i := by
        simp only [badK, fieldsOf, hk, if_true, okCat, hasB_iff, words_empty]
        rw [if_neg (by decide), if_neg (by decide)]
        congr 1
        rw [Bool.eq_iff_iff]
        simp only [Bool.and_eq_true, beq_iff_eq, decide_eq_true_eq]
        constructor
        · rintro ⟨⟨⟨⟨⟨h1, h2⟩, h3⟩, h4⟩, h5⟩, h6⟩; exact ⟨⟨h1, h2⟩, h3, h4, h5, h6⟩
        · rintro ⟨⟨h1, h2⟩, h3, h4, h5, h6⟩; exact ⟨⟨⟨⟨⟨h1, h2⟩, h3⟩, h4⟩, h5⟩, h6⟩
      have hvl : valK x L = IntKind.i64.wrap (lg L x.a + lg L x.b) := by simp [valK, hk]
      rw [hb, hvl]
      cases hf : fieldsOf x i with
      | false => simp
      | true =>
        obtain ⟨⟨ha0, ha1⟩, hb0, hb1⟩ := (fields_ahead hf).1 hk
        obtain ⟨a1, a2, a3, a4⟩ := hlg ha0 ha1
        obtain ⟨b1, b2, b3, b4⟩ := hlg hb0 hb1
        have hle : lenOf lens x = min (at_ lens x.a + at_ lens x.b) 2097152 := by
          rw [lenOf, if_neg (by omega), if_pos hk]
          have : w64 (at_ lens x.a + at_ lens x.b) = at_ lens x.a + at_ lens x.b := w64_id (by omega) (by omega)
          rw [this]
        rw [hle, a1, b1, w64_id (by omega) (by omega)]
        simp only [Bool.not_true, Bool.false_eq_true, false_implies, true_and, Bool.true_and, forall_const, nodeOk, hk]; simp only [Bool.and_eq_true, Bool.and_eq_false_iff, decide_eq_true_eq, decide_eq_false_iff_not]; refine ⟨fun h => .inl (by omega), fun h => ⟨⟨by omega, by simp⟩, by omega⟩⟩
    · have hvl : valK x L = x.len := by simp [valK, hk]
      have hle : lenOf lens x = min x.len 2097152 := by simp [lenOf, hk]
      have hb : badK x L i = !okPart x L i := by simp [badK, hk]
      rw [hb, hvl, hle]
      have hfe : fieldsOf x i = (lies x.a 0 ((i : Int) - 1) && decide (x.b = 0 ∧ x.n = 0 ∧ x.words = [])) := by
        simp only [fieldsOf, hk, if_true]
        rw [if_neg (by decide), if_neg (by decide)]
      have hne : nodeOk (lensOf l) x (min x.len 2097152) = (decide (min x.len 2097152 ≤ 1048576) && isPartOf (at_ (lensOf l) x.a) x.from_ x.len) := by simp [nodeOk, hk]
      rw [hfe, hne]
      by_cases hA : lies x.a 0 ((i : Int) - 1) = true
      · have hA2 := hA
        rw [lies_iff] at hA2
        obtain ⟨a1, a2, a3, a4⟩ := hlg hA2.1 (by omega)
        have hok : okPart x L i = (decide (x.b = 0 ∧ x.n = 0 ∧ x.words = []) && decide (0 ≤ x.len ∧ x.len ≤ at_ lens x.a ∧ 0 ≤ x.from_ ∧ x.from_ ≤ IntKind.i64.wrap (at_ lens x.a - x.len))) := by
          simp only [okPart, hasB_iff, hA, words_empty, a1, Bool.true_and]
          rw [Bool.eq_iff_iff]
          simp only [Bool.and_eq_true, beq_iff_eq, decide_eq_true_eq]
          constructor
          · rintro ⟨⟨⟨⟨⟨⟨h1, h2⟩, h3⟩, h4⟩, h5⟩, h6⟩, h7⟩; exact ⟨⟨h1, h2, h3⟩, h4, h5, h6, h7⟩
          · rintro ⟨⟨h1, h2, h3⟩, h4, h5, h6, h7⟩; exact ⟨⟨⟨⟨⟨⟨h1, h2⟩, h3⟩, h4⟩, h5⟩, h6⟩, h7⟩
        rw [hok, hA, ← a2]
        simp only [Bool.true_and]
        generalize hD : decide (x.b = 0 ∧ x.n = 0 ∧ x.words = []) = D
        have hisp : isPartOf (at_ lens x.a) x.from_ x.len = decide (0 ≤ x.len ∧ x.len ≤ at_ lens x.a ∧ 0 ≤ x.from_ ∧ x.from_ ≤ IntKind.i64.wrap (at_ lens x.a - x.len)) := by
          rw [Bool.eq_iff_iff]
          simp only [isPartOf, Bool.and_eq_true, lies_iff, decide_eq_true_eq]
          constructor
          · rintro ⟨⟨h1, h2⟩, h3, h4⟩
            have e : w64 (at_ lens x.a - x.from_) = at_ lens x.a - x.from_ := w64_id (by omega) (by omega)
            rw [e] at h4
            rw [w64_id (by omega) (by omega)]
            omega
          · rintro ⟨h1, h2, h3, h4⟩
            rw [w64_id (by omega) (by omega)] at h4
            have e : w64 (at_ lens x.a - x.from_) = at_ lens x.a - x.from_ := w64_id (by omega) (by omega)
            rw [e]
            omega
        rw [hisp]
        cases D with
        | false => simp
        | true =>
          by_cases hq : 0 ≤ x.len ∧ x.len ≤ at_ lens x.a ∧ 0 ≤ x.from_ ∧ x.from_ ≤ IntKind.i64.wrap (at_ lens x.a - x.len)
          · rw [decide_eq_true hq]
            simp only [Bool.true_and, Bool.and_true, Bool.not_true, Bool.false_eq_true, false_implies, true_and, forall_const, decide_eq_true_eq, decide_eq_false_iff_not]
            exact ⟨fun h => by omega, fun h => ⟨by omega, by omega⟩⟩
          · rw [decide_eq_false hq]; simp
      · have hA' : lies x.a 0 ((i : Int) - 1) = false := by simpa using hA
        have hok : okPart x L i = false := by simp [okPart, hasB_iff, hA']
        rw [hok, hA']
        simp
    · have hb : badK x L i = !fieldsOf x i := by
        simp only [badK, fieldsOf, hk, if_true, okOff, hasB_iff, words_empty]
        rw [if_neg (by decide), if_neg (by decide), if_neg (by decide), if_neg (by decide), if_neg (by decide), if_neg (by decide)]
        congr 1
        rw [Bool.eq_iff_iff]
        simp only [Bool.and_eq_true, beq_iff_eq, decide_eq_true_eq]
        constructor
        · rintro ⟨⟨⟨⟨⟨h1, h2⟩, h3⟩, h4⟩, h5⟩, h6⟩; exact ⟨⟨h1, h2, h3, h4, h5⟩, h6⟩
        · rintro ⟨⟨h1, h2, h3, h4, h5⟩, h6⟩; exact ⟨⟨⟨⟨⟨h1, h2⟩, h3⟩, h4⟩, h5⟩, h6⟩
      have hvl : valK x L = lg L x.a := by simp [valK, hk]
      rw [hb, hvl]
      cases hf : fieldsOf x i with
      | false => simp
      | true =>
        obtain ⟨ha0, ha1⟩ := fields_a hf (by omega)
        obtain ⟨a1, a2, a3, a4⟩ := hlg ha0 ha1
        have hle : lenOf lens x = min (at_ lens x.a) 2097152 := by
          rw [lenOf, if_neg (by omega), if_neg (by omega), if_neg (by omega)]
        rw [hle, a1]
        simp only [Bool.not_true, Bool.false_eq_true, false_implies, true_and, Bool.true_and, forall_const, nodeOk, hk]; simp only [Bool.and_eq_true, Bool.and_eq_false_iff, decide_eq_true_eq, decide_eq_false_iff_not]; refine ⟨fun h => .inl (by omega), fun h => ⟨⟨by omega, by simp⟩, by omega⟩⟩

theorem asked_step {l : List Node} {r : List Int} {i : Nat} (hl : l.length ≤ 4000) (hi : i < l.length) (h : stepOk l i = false) : askedOf l r = 1 := by
  have hv : ¬ validOf l = true := by
    rw [valid_steps]
    intro hh
    rw [hh i hi] at h
    cases h
  simp [askedOf, checkOf, hv, show ¬ 4000 < l.length by omega]
end Go.Rp
end

section
set_option linter.unusedVariables false
set_option maxRecDepth 100000
open Go Go.VT
namespace Go.Rp

theorem must_eq (b : Bool) (e : Int) : vc (EV []) noL Go.Proofs.Tryd.f53 cMust (b, e, ()) = (((!b) = true → (true = true → (!b) = true ∧ e = e ∧ True) ∧ (true = false → (!b) = false ∧ () = ())) ∧ ((!b) = false → (!b) = false ∧ () = ())) := by kernel_rfl

theorem isW_eq (n : Int) : vc (EV []) noL Go.Proofs.Tryd.f68 cIsW (n, ()) = ((decide (n ≥ (-2147483648 : Int)) && decide (n ≤ (2147483647 : Int)), ()) = (isWord n, ())) := by kernel_rfl

theorem notW67_eq (n : Int) : vc (EV [(68, cIsW)]) noL Go.Proofs.Tryd.f67 cNotW (n, ()) = ((!isWord n, ()) = (!isWord n, ())) := by kernel_rfl

theorem notW106_eq (n : Int) : vc (EV [(68, cIsW)]) noL Go.Proofs.Tryd.f106 cNotW (n, ()) = ((!isWord n, ()) = (!isWord n, ())) := by kernel_rfl

theorem has_eq (n m : Int) : vc (EV []) noL Go.Proofs.Tryd.f56 cHas (n, m, ()) = ((decide (n ≥ (0 : Int)) && decide (n < m), ()) = (decide ((0 : Int) ≤ n) && decide (n < m), ())) := by kernel_rfl

theorem idx67_eq (l : List Int) : vc (EV [(67, cNotW)]) (lIdx l) Go.Proofs.Tryd.f80 (cIdxW 67) (l, ()) = (let e0 : Value := Value.func (Fn.func (67 : Nat)) #[] #[];
  Small RU (Sigma.mk (Ty.slice (3 : Nat) (Ty.int IntKind.i64)) l) →
  (∃ (p : Int × Unit),
      l = l ∧
        e0 = e0 ∧
          (↑(List.length l) : Int) = (↑(List.length l) : Int) ∧ (0 : Int) = p.fst ∧ (0 : Int) ≤ p.fst ∧ p.fst ≤ (↑(List.length l) : Int) ∧ List.all (List.take (Int.toNat p.fst) l) isWord = true) ∧
    ∀ (p : Int × Unit),
      let e3 : Bool := decide (p.fst < (↑(List.length l) : Int));
      let e2 : Bool := !isWord (List.getD l (Int.toNat p.fst) (0 : Int));
      let e1 : Value := e0;
      let e0 : Int × Unit := (firstAt (fun (n : Int) => !isWord n) l (0 : Int), ());
      (0 : Int) ≤ p.fst ∧ p.fst ≤ (↑(List.length l) : Int) ∧ List.all (List.take (Int.toNat p.fst) l) isWord = true →
        (e3 = true →
            ((0 : Int) ≤ p.fst ∧ p.fst < (↑(List.length l) : Int)) ∧
              (e2 = true → (p.fst, ()) = e0) ∧
                (e2 = false →
                  ∃ (p' : Int × Unit),
                    l = l ∧
                      e1 = e1 ∧
                        (↑(List.length l) : Int) = (↑(List.length l) : Int) ∧
                          IntKind.wrap IntKind.i64 (p.fst + (1 : Int)) = p'.fst ∧
                            ((0 : Int) ≤ p'.fst ∧ p'.fst ≤ (↑(List.length l) : Int) ∧ List.all (List.take (Int.toNat p'.fst) l) isWord = true) ∧
                              List.length l - Int.toNat p'.fst < List.length l - Int.toNat p.fst)) ∧
          (e3 = false → ((-1 : Int), ()) = e0)) := by kernel_rfl

theorem idx106_eq (l : List Int) : vc (EV [(106, cNotW)]) (lIdx l) Go.Proofs.Tryd.f80 (cIdxW 106) (l, ()) = (let e0 : Value := Value.func (Fn.func (106 : Nat)) #[] #[];
  Small RU (Sigma.mk (Ty.slice (3 : Nat) (Ty.int IntKind.i64)) l) →
  (∃ (p : Int × Unit),
      l = l ∧
        e0 = e0 ∧
          (↑(List.length l) : Int) = (↑(List.length l) : Int) ∧ (0 : Int) = p.fst ∧ (0 : Int) ≤ p.fst ∧ p.fst ≤ (↑(List.length l) : Int) ∧ List.all (List.take (Int.toNat p.fst) l) isWord = true) ∧
    ∀ (p : Int × Unit),
      let e3 : Bool := decide (p.fst < (↑(List.length l) : Int));
      let e2 : Bool := !isWord (List.getD l (Int.toNat p.fst) (0 : Int));
      let e1 : Value := e0;
      let e0 : Int × Unit := (firstAt (fun (n : Int) => !isWord n) l (0 : Int), ());
      (0 : Int) ≤ p.fst ∧ p.fst ≤ (↑(List.length l) : Int) ∧ List.all (List.take (Int.toNat p.fst) l) isWord = true →
        (e3 = true →
            ((0 : Int) ≤ p.fst ∧ p.fst < (↑(List.length l) : Int)) ∧
              (e2 = true → (p.fst, ()) = e0) ∧
                (e2 = false →
                  ∃ (p' : Int × Unit),
                    l = l ∧
                      e1 = e1 ∧
                        (↑(List.length l) : Int) = (↑(List.length l) : Int) ∧
                          IntKind.wrap IntKind.i64 (p.fst + (1 : Int)) = p'.fst ∧
                            ((0 : Int) ≤ p'.fst ∧ p'.fst ≤ (↑(List.length l) : Int) ∧ List.all (List.take (Int.toNat p'.fst) l) isWord = true) ∧
                              List.length l - Int.toNat p'.fst < List.length l - Int.toNat p.fst)) ∧
          (e3 = false → ((-1 : Int), ()) = e0)) := by kernel_rfl

theorem any67_eq (l : List Int) : vc (EV [(80, cIdxW 67)]) noL Go.Proofs.Tryd.f54 (cAnyW 67) (l, ()) = (Small RU (Sigma.mk (Ty.slice (3 : Nat) (Ty.int IntKind.i64)) l) → (decide (firstAt (fun (n : Int) => !isWord n) l (0 : Int) ≥ (0 : Int)), ()) = (List.any l fun (n : den RU.T i64) => !isWord n, ())) := by kernel_rfl

theorem any106_eq (l : List Int) : vc (EV [(80, cIdxW 106)]) noL Go.Proofs.Tryd.f54 (cAnyW 106) (l, ()) = (Small RU (Sigma.mk (Ty.slice (3 : Nat) (Ty.int IntKind.i64)) l) → (decide (firstAt (fun (n : Int) => !isWord n) l (0 : Int) ≥ (0 : Int)), ()) = (List.any l fun (n : den RU.T i64) => !isWord n, ())) := by kernel_rfl

theorem kWords_eq (l : List Node) (L : List (Int × Int)) (i : Int) : vc (EV [(53, cMust), (54, cAnyW 106)]) noL Go.Proofs.Tryd.f102 cKWords (l, L, i, ()) = (let e2 : Node := List.getD l (Int.toNat i) node0;
  let e1 : Bool := !okWords e2;
  let e0 : Node := List.getD l (Int.toNat i) (Node.mk (0 : Int) (0 : Int) (0 : Int) (0 : Int) (0 : Int) (0 : Int) []);
  Small RU (Sigma.mk (Ty.slice (56 : Nat) (Ty.user (0 : Nat))) l) →
  ((0 : Int) ≤ i ∧ i < (↑(List.length l) : Int)) ∧
    ((!(e0.a == (0 : Int) && e0.b == (0 : Int) && e0.from_ == (0 : Int) && e0.len == (0 : Int) && e0.n == (0 : Int))) = true → e1 = true ∧ (1 : Int) = (1 : Int) ∧ True) ∧
      ((!(e0.a == (0 : Int) && e0.b == (0 : Int) && e0.from_ == (0 : Int) && e0.len == (0 : Int) && e0.n == (0 : Int))) = false →
        ((!!List.any e0.words fun (n : den RU.T i64) => !isWord n) = true → e1 = true ∧ (1 : Int) = (1 : Int) ∧ True) ∧
          ((!!List.any e0.words fun (n : den RU.T i64) => !isWord n) = false → e1 = false ∧ ((↑(List.length e0.words) : Int), l, L, ()) = ((↑(List.length e2.words) : Int), l, L, ())))) := by kernel_rfl

theorem kCat_eq (l : List Node) (L : List (Int × Int)) (i : Int) : vc (EV [(53, cMust), (56, cHas)]) noL Go.Proofs.Tryd.f103 cKCat (l, L, i, ()) = (let e1 : Node := List.getD l (Int.toNat i) node0;
  let e0 : Node := List.getD l (Int.toNat i) (Node.mk (0 : Int) (0 : Int) (0 : Int) (0 : Int) (0 : Int) (0 : Int) []);
  Small RU (Sigma.mk (Ty.slice (56 : Nat) (Ty.user (0 : Nat))) l) →
  ((0 : Int) ≤ i ∧ i < (↑(List.length l) : Int)) ∧
    ((!(decide ((0 : Int) ≤ e0.a) && decide (e0.a < i) && (decide ((0 : Int) ≤ e0.b) && decide (e0.b < i)) && e0.from_ == (0 : Int) && e0.len == (0 : Int) && e0.n == (0 : Int) &&
              (↑(List.length e0.words) : Int) == (0 : Int))) =
          true →
        (!okCat e1 i) = true ∧ (1 : Int) = (1 : Int) ∧ True) ∧
      ((!(decide ((0 : Int) ≤ e0.a) && decide (e0.a < i) && (decide ((0 : Int) ≤ e0.b) && decide (e0.b < i)) && e0.from_ == (0 : Int) && e0.len == (0 : Int) && e0.n == (0 : Int) &&
              (↑(List.length e0.words) : Int) == (0 : Int))) =
          false →
        (!okCat e1 i) = false ∧
          (IntKind.wrap IntKind.i64 (Option.getD (mget (fun (x y : Int) => x == y) L e0.a) (0 : Int) + Option.getD (mget (fun (x y : Int) => x == y) L e0.b) (0 : Int)), l, L, ()) =
            (IntKind.wrap IntKind.i64 (lg L e1.a + lg L e1.b), l, L, ()))) := by kernel_rfl

theorem kPart_eq (l : List Node) (L : List (Int × Int)) (i : Int) : vc (EV [(53, cMust), (56, cHas)]) noL Go.Proofs.Tryd.f104 cKPart (l, L, i, ()) = (let e2 : Node := List.getD l (Int.toNat i) node0;
  let e1 : Bool := !okPart e2 L i;
  let e0 : Node := List.getD l (Int.toNat i) (Node.mk (0 : Int) (0 : Int) (0 : Int) (0 : Int) (0 : Int) (0 : Int) []);
  Small RU (Sigma.mk (Ty.slice (56 : Nat) (Ty.user (0 : Nat))) l) →
  ((0 : Int) ≤ i ∧ i < (↑(List.length l) : Int)) ∧
    ((!(decide ((0 : Int) ≤ e0.a) && decide (e0.a < i) && e0.b == (0 : Int) && e0.n == (0 : Int) && (↑(List.length e0.words) : Int) == (0 : Int))) = true → e1 = true ∧ (1 : Int) = (1 : Int) ∧ True) ∧
      ((!(decide ((0 : Int) ≤ e0.a) && decide (e0.a < i) && e0.b == (0 : Int) && e0.n == (0 : Int) && (↑(List.length e0.words) : Int) == (0 : Int))) = false →
        ((!(decide (e0.len ≥ (0 : Int)) && decide (e0.len ≤ Option.getD (mget (fun (x y : Int) => x == y) L e0.a) (0 : Int)) && decide (e0.from_ ≥ (0 : Int)) &&
                  decide (e0.from_ ≤ IntKind.wrap IntKind.i64 (Option.getD (mget (fun (x y : Int) => x == y) L e0.a) (0 : Int) - e0.len)))) =
              true →
            e1 = true ∧ (1 : Int) = (1 : Int) ∧ True) ∧
          ((!(decide (e0.len ≥ (0 : Int)) && decide (e0.len ≤ Option.getD (mget (fun (x y : Int) => x == y) L e0.a) (0 : Int)) && decide (e0.from_ ≥ (0 : Int)) &&
                  decide (e0.from_ ≤ IntKind.wrap IntKind.i64 (Option.getD (mget (fun (x y : Int) => x == y) L e0.a) (0 : Int) - e0.len)))) =
              false →
            e1 = false ∧ (e0.len, l, L, ()) = (e2.len, l, L, ())))) := by kernel_rfl

theorem kOff_eq (l : List Node) (L : List (Int × Int)) (i : Int) : vc (EV [(53, cMust), (56, cHas), (68, cIsW)]) noL Go.Proofs.Tryd.f105 cKOff (l, L, i, ()) = (let e1 : Node := List.getD l (Int.toNat i) node0;
  let e0 : Node := List.getD l (Int.toNat i) (Node.mk (0 : Int) (0 : Int) (0 : Int) (0 : Int) (0 : Int) (0 : Int) []);
  Small RU (Sigma.mk (Ty.slice (56 : Nat) (Ty.user (0 : Nat))) l) →
  ((0 : Int) ≤ i ∧ i < (↑(List.length l) : Int)) ∧
    ((!(decide ((0 : Int) ≤ e0.a) && decide (e0.a < i) && e0.b == (0 : Int) && e0.from_ == (0 : Int) && e0.len == (0 : Int) && (↑(List.length e0.words) : Int) == (0 : Int) && isWord e0.n)) = true →
        (!okOff e1 i) = true ∧ (1 : Int) = (1 : Int) ∧ True) ∧
      ((!(decide ((0 : Int) ≤ e0.a) && decide (e0.a < i) && e0.b == (0 : Int) && e0.from_ == (0 : Int) && e0.len == (0 : Int) && (↑(List.length e0.words) : Int) == (0 : Int) && isWord e0.n)) = false →
        (!okOff e1 i) = false ∧ (Option.getD (mget (fun (x y : Int) => x == y) L e0.a) (0 : Int), l, L, ()) = (lg L e1.a, l, L, ()))) := by kernel_rfl

end Go.Rp
end

section
set_option linter.unusedVariables false
set_option linter.unusedSimpArgs false
open Go Go.VT
namespace Go.Rp

theorem must_gives : Gives prog RG 53 cMust := gives allNil (fun _ => noL) (by kernel_rfl) (by kernel_rfl) (by kernel_rfl) fun (b, e, ()) _ => (must_eq b e).mpr (by cases b <;> simp)
theorem isW_gives : Gives prog RG 68 cIsW := gives allNil (fun _ => noL) (by kernel_rfl) (by kernel_rfl) (by kernel_rfl) fun (n, ()) _ => (isW_eq n).mpr (by simp [isWord, lies])
theorem notW67_gives : Gives prog RG 67 cNotW := gives (allCons isW_gives allNil) (fun _ => noL) (by kernel_rfl) (by kernel_rfl) (by kernel_rfl) fun (n, ()) _ => (notW67_eq n).mpr rfl
theorem notW106_gives : Gives prog RG 106 cNotW := gives (allCons isW_gives allNil) (fun _ => noL) (by kernel_rfl) (by kernel_rfl) (by kernel_rfl) fun (n, ()) _ => (notW106_eq n).mpr rfl
theorem has_gives : Gives prog RG 56 cHas := gives allNil (fun _ => noL) (by kernel_rfl) (by kernel_rfl) (by kernel_rfl) fun (n, m, ()) _ => (has_eq n m).mpr rfl

theorem firstAt_all {l : List Int} : ∀ {i : Int}, l.all isWord = true → firstAt (fun n => !isWord n) l i = -1 := by
  induction l with
  | nil => intros; rfl
  | cons x r ih =>
    intro i h
    simp only [List.all_cons, Bool.and_eq_true] at h
    simp [firstAt, h.1, ih h.2]

theorem firstAt_at {l : List Int} : ∀ {k : Nat} {i : Int}, (l.take k).all isWord = true → k < l.length → isWord (l.getD k 0) = false → firstAt (fun n => !isWord n) l i = i + k := by
  induction l with
  | nil => intro k i _ hk; simp at hk
  | cons x r ih =>
    intro k i h hk hn
    match k with
    | 0 =>
      have hn : isWord x = false := by simpa using hn
      simp [firstAt, hn]
    | k + 1 =>
      simp only [List.take_succ_cons, List.all_cons, Bool.and_eq_true] at h
      have := ih (k := k) (i := i + 1) h.2 (by simpa using hk) (by simpa using hn)
      simp only [firstAt, h.1, Bool.not_true, cond_false, this]
      omega

theorem firstAt_any {l : List Int} : ∀ {i : Int}, 0 ≤ i → decide (firstAt (fun n => !isWord n) l i ≥ 0) = l.any fun n => !isWord n := by
  induction l with
  | nil => intros; simp [firstAt]
  | cons x r ih =>
    intro i h
    cases hx : isWord x with
    | true => simp [firstAt, hx, ← ih (i := i + 1) (by omega)]
    | false => simp [firstAt, hx, h]

theorem idx_vc (l : List Int) (hs : l.length ≤ 140737488355328) {q : Prop}
    (h : ((∃ (p : Int × Unit), (0 : Int) = p.fst ∧ (0 : Int) ≤ p.fst ∧ p.fst ≤ (l.length : Int) ∧ List.all (List.take (Int.toNat p.fst) l) isWord = true) ∧
      ∀ (p : Int × Unit), (0 : Int) ≤ p.fst ∧ p.fst ≤ (l.length : Int) ∧ List.all (List.take (Int.toNat p.fst) l) isWord = true →
        (decide (p.fst < (l.length : Int)) = true → ((0 : Int) ≤ p.fst ∧ p.fst < (l.length : Int)) ∧ ((!isWord (List.getD l (Int.toNat p.fst) (0 : Int))) = true → p.fst = firstAt (fun n => !isWord n) l 0) ∧
          ((!isWord (List.getD l (Int.toNat p.fst) (0 : Int))) = false → ∃ (p' : Int × Unit), IntKind.wrap IntKind.i64 (p.fst + (1 : Int)) = p'.fst ∧ ((0 : Int) ≤ p'.fst ∧ p'.fst ≤ (l.length : Int) ∧ List.all (List.take (Int.toNat p'.fst) l) isWord = true) ∧ List.length l - Int.toNat p'.fst < List.length l - Int.toNat p.fst)) ∧
        (decide (p.fst < (l.length : Int)) = false → (-1 : Int) = firstAt (fun n => !isWord n) l 0)) → q) : q := by
  refine h ⟨⟨(0, ()), rfl, by simp, by simp, by simp⟩, fun (i, ()) ⟨h0, h1, h2⟩ => ?_⟩
  dsimp only at h0 h1 h2 ⊢
  obtain ⟨k, rfl⟩ := Int.eq_ofNat_of_zero_le h0
  simp only [Int.toNat_natCast] at h2 ⊢
  refine ⟨fun hk => ?_, fun hk => ?_⟩
  · have hk : k < l.length := by simpa using hk
    refine ⟨⟨h0, by omega⟩, fun hn => ?_, fun hn => ?_⟩
    · rw [firstAt_at h2 hk (by simpa using hn)]; simp
    · have hw : IntKind.wrap IntKind.i64 ((k : Int) + 1) = ((k + 1 : Nat) : Int) := by
        have := w64_id (n := (k : Int) + 1) (by omega) (by omega)
        rw [this]; simp
      refine ⟨((k + 1 : Nat), ()), hw, ⟨by omega, by omega, ?_⟩, by simp; omega⟩
      simp only [Int.toNat_natCast]
      rw [List.take_add_one, List.all_append, h2]
      have hg : l[k]? = some l[k] := List.getElem?_eq_getElem hk
      have hn' : isWord (l.getD k 0) = true := by simpa using hn
      simp only [List.getD, hg, Option.getD_some] at hn'
      simp [hg, hn']
  · have hk : l.length ≤ k := by simpa using hk
    rw [List.take_of_length_le hk] at h2
    rw [firstAt_all h2]

theorem idx67_gives : Gives prog RG 80 (cIdxW 67) := gives (allCons notW67_gives allNil) (fun p => lIdx p.1) (by kernel_rfl) (by kernel_rfl) (by kernel_rfl) fun (l, ()) _ => (idx67_eq l).mpr (by
  intro e0 hs
  refine idx_vc l hs.len (fun h => ?_)
  obtain ⟨⟨p, h1, h2, h3, h4⟩, hr⟩ := h
  refine ⟨⟨p, rfl, rfl, rfl, h1, h2, h3, h4⟩, ?_⟩
  intro p e3 e2 e1 e0 hp
  obtain ⟨a, b⟩ := hr p hp
  refine ⟨fun h => ⟨(a h).1, fun h2 => by rw [(a h).2.1 h2], fun h2 => ?_⟩, fun h => by rw [b h]⟩
  obtain ⟨p', q1, q2, q3⟩ := (a h).2.2 h2
  exact ⟨p', rfl, rfl, rfl, q1, q2, q3⟩)
theorem idx106_gives : Gives prog RG 80 (cIdxW 106) := gives (allCons notW106_gives allNil) (fun p => lIdx p.1) (by kernel_rfl) (by kernel_rfl) (by kernel_rfl) fun (l, ()) _ => (idx106_eq l).mpr (by
  intro e0 hs
  refine idx_vc l hs.len (fun h => ?_)
  obtain ⟨⟨p, h1, h2, h3, h4⟩, hr⟩ := h
  refine ⟨⟨p, rfl, rfl, rfl, h1, h2, h3, h4⟩, ?_⟩
  intro p e3 e2 e1 e0 hp
  obtain ⟨a, b⟩ := hr p hp
  refine ⟨fun h => ⟨(a h).1, fun h2 => by rw [(a h).2.1 h2], fun h2 => ?_⟩, fun h => by rw [b h]⟩
  obtain ⟨p', q1, q2, q3⟩ := (a h).2.2 h2
  exact ⟨p', rfl, rfl, rfl, q1, q2, q3⟩)
theorem any67_gives : Gives prog RG 54 (cAnyW 67) := gives (allCons idx67_gives allNil) (fun _ => noL) (by kernel_rfl) (by kernel_rfl) (by kernel_rfl) fun (l, ()) _ => (any67_eq l).mpr (fun _ => by rw [firstAt_any (by decide)])
theorem any106_gives : Gives prog RG 54 (cAnyW 106) := gives (allCons idx106_gives allNil) (fun _ => noL) (by kernel_rfl) (by kernel_rfl) (by kernel_rfl) fun (l, ()) _ => (any106_eq l).mpr (fun _ => by rw [firstAt_any (by decide)])

theorem any_all (l : List Int) : (!!l.any fun n => !isWord n) = !l.all isWord := by
  induction l with
  | nil => rfl
  | cons x r ih =>
    simp only [Bool.not_not] at ih
    simp [ih, Bool.not_and]

theorem len0 (l : List Int) : ((l.length : Int) == 0) = l.isEmpty := by cases l <;> simp; omega

theorem kWords_gives : Gives prog RG 102 cKWords := gives (allCons must_gives (allCons any106_gives allNil)) (fun _ => noL) (by kernel_rfl) (by kernel_rfl) (by kernel_rfl) fun (l, L, i, ()) hp => (kWords_eq l L i).mpr (by
  intro e2 e1 e0 hs
  have he : e2 = e0 := rfl
  refine ⟨hp, fun h => ⟨?_, rfl, trivial⟩, fun h => ⟨fun h2 => ⟨?_, rfl, trivial⟩, fun h2 => ⟨?_, rfl⟩⟩⟩
  · simp only [e1, okWords, he]
    clear_value e0
    simp only [Bool.not_eq_true'] at h ⊢
    rw [h, Bool.false_and]
  · simp only [e1, okWords, he]
    rw [any_all] at h2
    clear_value e0
    simp only [Bool.not_eq_true', Bool.not_eq_false'] at h h2 ⊢
    rw [h2, Bool.and_false]
  · simp only [e1, okWords, he]
    rw [any_all] at h2
    clear_value e0
    simp only [Bool.not_eq_false'] at h h2 ⊢
    rw [h, h2]; rfl)
theorem kCat_gives : Gives prog RG 103 cKCat := gives (allCons must_gives (allCons has_gives allNil)) (fun _ => noL) (by kernel_rfl) (by kernel_rfl) (by kernel_rfl) fun (l, L, i, ()) hp => (kCat_eq l L i).mpr (by
  intro e1 e0 hs
  have he : e1 = e0 := rfl
  rw [len0, he]
  clear_value e0
  exact ⟨hp, fun h => ⟨h, rfl, trivial⟩, fun h => ⟨h, rfl⟩⟩)
theorem kPart_gives : Gives prog RG 104 cKPart := gives (allCons must_gives (allCons has_gives allNil)) (fun _ => noL) (by kernel_rfl) (by kernel_rfl) (by kernel_rfl) fun (l, L, i, ()) hp => (kPart_eq l L i).mpr (by
  intro e2 e1 e0 hs
  have he : e2 = e0 := rfl
  have hk : okPart e0 L i = ((decide ((0 : Int) ≤ e0.a) && decide (e0.a < i) && e0.b == (0 : Int) && e0.n == (0 : Int) && e0.words.isEmpty) && (decide (e0.len ≥ (0 : Int)) && decide (e0.len ≤ Option.getD (mget (fun (x y : Int) => x == y) L e0.a) (0 : Int)) && decide (e0.from_ ≥ (0 : Int)) &&
      decide (e0.from_ ≤ IntKind.wrap IntKind.i64 (Option.getD (mget (fun (x y : Int) => x == y) L e0.a) (0 : Int) - e0.len)))) := by
    simp only [okPart, hasB, lg, Bool.and_assoc, ge_iff_le]
    rfl
  simp only [e1]
  rw [len0, he, hk]
  clear_value e0
  generalize (decide ((0 : Int) ≤ e0.a) && decide (e0.a < i) && e0.b == (0 : Int) && e0.n == (0 : Int) && e0.words.isEmpty) = A
  generalize (decide (e0.len ≥ (0 : Int)) && decide (e0.len ≤ Option.getD (mget (fun (x y : Int) => x == y) L e0.a) (0 : Int)) && decide (e0.from_ ≥ (0 : Int)) &&
      decide (e0.from_ ≤ IntKind.wrap IntKind.i64 (Option.getD (mget (fun (x y : Int) => x == y) L e0.a) (0 : Int) - e0.len))) = B
  refine ⟨hp, ?_⟩
  cases A <;> cases B <;> simp)
theorem kOff_gives : Gives prog RG 105 cKOff := gives (allCons must_gives (allCons has_gives (allCons isW_gives allNil))) (fun _ => noL) (by kernel_rfl) (by kernel_rfl) (by kernel_rfl) fun (l, L, i, ()) hp => (kOff_eq l L i).mpr (by
  intro e1 e0 hs
  have he : e1 = e0 := rfl
  rw [len0, he]
  clear_value e0
  refine ⟨hp, fun h => ⟨h, ?_⟩, fun h => ⟨h, rfl⟩⟩
  first | exact ⟨rfl, trivial⟩ | exact trivial | simp)

end Go.Rp
end

section
set_option linter.unusedVariables false
set_option linter.unusedSimpArgs false
set_option maxRecDepth 100000
open Go Go.VT
namespace Go.Rp

theorem kind_gives (i : Int) (f : FuncId) (h : ([102, 103, 104, 105] : List FuncId)[i.toNat]? = some f) : Gives prog RG f (cKind i) := by
  have hi : i ≤ 0 ∨ i = 1 ∨ i = 2 ∨ i = 3 ∨ 4 ≤ i := by omega
  rcases hi with hi | rfl | rfl | rfl | hi
  · rw [show i.toNat = 0 by omega] at h
    cases h
    have : cKind i = cKWords := by
      simp only [cKind, if_pos hi]
      rfl
    rw [this]
    exact kWords_gives
  · cases h; exact kCat_gives
  · cases h; exact kPart_gives
  · cases h; exact kOff_gives
  · obtain ⟨n, rfl⟩ : ∃ n : Nat, i = (n + 4 : Nat) := ⟨i.toNat - 4, by omega⟩
    rw [Int.toNat_natCast] at h
    simp at h

theorem opened {l : List Node} {r : List Int} {i : Nat} (hi : i < l.length) (hl : l.length ≤ 4000) (hs : ∀ j : Nat, j < i → stepOk l j = true) {k : Int} (hk : k = (l.getD i node0).kind) {v : Int} (hv : v = valK (l.getD i node0) (longOf (l.take i)))
    {b : Bool} (hb : b = badK (l.getD i node0) (longOf (l.take i)) i) :
    ((!(decide (k ≥ 0) && decide (k < 4))) = true → askedOf l r = 1) ∧ ((!(decide (k ≥ 0) && decide (k < 4))) = false → (0 ≤ k ∧ k < 4) ∧ (b = true → askedOf l r = 1) ∧
      (b = false → ((!decide ((mget (fun (x y : Int) => x == y) (mput (fun (x y : Int) => x == y) (longOf (l.take i)) i v) i).getD 0 ≤ 1048576)) = true → askedOf l r = 1) ∧
        ((!decide ((mget (fun (x y : Int) => x == y) (mput (fun (x y : Int) => x == y) (longOf (l.take i)) i v) i).getD 0 ≤ 1048576)) = false → stepOk l i = true ∧ mput (fun (x y : Int) => x == y) (longOf (l.take i)) i v = longOf (l.take (i + 1))))) := by
  obtain ⟨p1, p2⟩ := prog_step hi hs
  rw [← hk, ← hv, ← hb] at p2
  rw [← hk] at p1
  refine ⟨fun h => asked_step hl hi (p1 ?_), fun h => ?_⟩
  · simp only [Bool.not_eq_true', Bool.and_eq_false_iff, decide_eq_false_iff_not] at h; omega
  · simp only [Bool.not_eq_false', Bool.and_eq_true, decide_eq_true_eq] at h
    obtain ⟨q1, q2⟩ := p2 (by omega) (by omega)
    refine ⟨by omega, fun h => asked_step hl hi (q1 h), fun h => ?_⟩
    obtain ⟨q3, q4⟩ := q2 h
    rw [mget_put]
    refine ⟨fun h => asked_step hl hi (q3 (by simpa using h)), fun h => ?_⟩
    obtain ⟨q5, q6⟩ := q4 (by simpa using h)
    refine ⟨q5, ?_⟩
    rw [take_succ_getD hi node0, longOf_snoc, ← q6]
    have hl : (l.take i).length = i := by simp; omega
    have h1 : (lensOf (l.take i)).length = i := by rw [lensOf_length, hl]
    rw [hl]
    have := mput_long v (lensOf (l.take i)) 0
    rw [h1, Nat.zero_add] at this
    exact this

theorem open_vc (l : List Node) (r : List Int) : vc (EVt tabR [(53, cMust), (56, cHas)]) (lOpen l r) Go.Proofs.Tryd.f49 cOpen (l, r, ()) := (open_eq l r).mpr (by
  intro e1 e0 hs1 hs2
  have hl1 : l.length ≤ 140737488355328 := hs1.len
  have hl2 : r.length ≤ 140737488355328 := hs2.len
  have hne : ∀ {e : Int}, askedOf l r = e → (e != 0) = true → (askedOf l r != 0) = true ∧ askedOf l r = e ∧ True := fun h h2 => ⟨by rw [h]; exact h2, h, trivial⟩
  refine ⟨fun h => ?_, fun h => ?_⟩
  · have h : ¬ (l.length : Int) ≤ 4000 := by simpa [e1] using h
    exact hne (e := 3) (by rw [askedOf, checkOf, if_pos (show 4000 < l.length by omega)]; rfl) rfl
  · have hl : l.length ≤ 4000 := by
      have h : (l.length : Int) ≤ 4000 := by simpa [e1] using h
      omega
    clear_value e1 e0
    refine ⟨⟨(0, [], ()), by trivial, by trivial, by trivial, by trivial, by trivial, by trivial, by trivial, by trivial, by trivial, by decide, by dsimp only; omega, fun i hi => by simp at hi, by simp [longOf, lensOf, longFrom]⟩, ?_⟩
    rintro ⟨i, L, ⟨⟩⟩
    dsimp only
    rintro ⟨q0, q1, q2, rfl⟩
    obtain ⟨m, rfl⟩ := Int.eq_ofNat_of_zero_le q0
    simp only [Int.toNat_natCast] at q2 ⊢
    refine ⟨fun hm => ?_, fun hm => ?_⟩
    · have hm : m < l.length := by simpa using hm
      obtain ⟨z1, z2⟩ := opened (r := r) hm hl q2 rfl rfl rfl
      refine ⟨⟨q0, by omega⟩, fun h => hne (z1 h) rfl, fun h => ?_⟩
      obtain ⟨z3, z4, z5⟩ := z2 h
      refine ⟨z3, z3, ⟨⟨⟨q0, by omega⟩, by trivial, by trivial⟩, by trivial, by trivial⟩, fun h => hne (z4 h) rfl, fun h => ?_⟩
      obtain ⟨z6, z7⟩ := z5 h
      refine ⟨fun h => hne (z6 h) rfl, fun h => ?_⟩
      obtain ⟨z8, z9⟩ := z7 h
      refine ⟨((m + 1 : Nat), _, ()), by trivial, by trivial, by trivial, by trivial, by trivial, ?_, by trivial, by trivial, by trivial, ⟨by omega, by dsimp only; omega, fun j hj => ?_, ?_⟩, by dsimp only; omega⟩
      · rw [w64_id (by omega) (by omega)]; rfl
      · dsimp only at hj
        rw [Int.toNat_natCast] at hj
        rcases Nat.lt_succ_iff_lt_or_eq.1 hj with h3 | h3
        · exact q2 j h3
        · subst h3; exact z8
      · dsimp only
        rw [Int.toNat_natCast]
        exact z9
    · have hm : l.length ≤ m := by simpa using hm
      have hmm : m = l.length := by omega
      subst hmm
      have hv : validOf l = true := valid_steps.2 q2
      have hc : checkOf l = 0 := by simp [checkOf, hv, show ¬ 4000 < l.length by omega]
      have hask : askedOf l r = if r.all fun r => lies r 0 (l.length - 1) then 0 else 2 := by rw [askedOf, if_neg (by simp [hc])]
      refine ⟨⟨(0, ()), by trivial, by trivial, by trivial, by trivial, by trivial, by trivial, by trivial, by trivial, by trivial, by trivial, by trivial, by trivial, by trivial, by decide, by dsimp only; omega, fun i hi => by simp at hi⟩, ?_⟩
      rintro ⟨i, ⟨⟩⟩
      dsimp only
      rintro ⟨w0, w1, w2⟩
      obtain ⟨k, rfl⟩ := Int.eq_ofNat_of_zero_le w0
      simp only [Int.toNat_natCast] at w2 ⊢
      refine ⟨fun hk => ?_, fun hk => ?_⟩
      · have hk : k < r.length := by simpa using hk
        refine ⟨⟨w0, by omega⟩, fun hb => hne (e := 2) ?_ rfl, fun hb => ?_⟩
        · rw [hask, if_neg]
          intro hall
          have := List.all_eq_true.1 hall (r.getD k 0) (by simp only [List.getD, List.getElem?_eq_getElem hk]; exact List.getElem_mem _)
          rw [lies_iff] at this
          simp only [Bool.not_eq_true', Bool.and_eq_false_iff, decide_eq_false_iff_not] at hb
          omega
        · refine ⟨((k + 1 : Nat), ()), by trivial, by trivial, by trivial, by trivial, by trivial, by trivial, by trivial, by trivial, by trivial, ?_, by trivial, by trivial, by trivial, ⟨by omega, by dsimp only; omega, fun j hj => ?_⟩, by dsimp only; omega⟩
          · rw [w64_id (by omega) (by omega)]; rfl
          · dsimp only at hj
            rw [Int.toNat_natCast] at hj
            rcases Nat.lt_succ_iff_lt_or_eq.1 hj with h3 | h3
            · exact w2 j h3
            · subst h3
              rw [lies_iff]
              simp only [Bool.not_eq_false', Bool.and_eq_true, decide_eq_true_eq] at hb
              omega
      · have hk : r.length ≤ k := by simpa using hk
        rw [hask, if_pos, List.take_of_length_le (Nat.le_refl _)]
        · exact ⟨rfl, rfl⟩
        · rw [List.all_eq_true]
          intro x hx
          obtain ⟨i, hi, rfl⟩ := List.mem_iff_getElem.1 hx
          have := w2 i (by omega)
          simpa only [List.getD, List.getElem?_eq_getElem hi, Option.getD_some] using this)

theorem tab_gives : ∀ (fs : List FuncId) (i : Int) (f : FuncId) (k : Con RU), fs[i.toNat]? = some f → k ∈ tabR fs i → Gives prog RG f k := by
  intro fs i f k h hk
  unfold tabR at hk
  cases hb : (fs == [102, 103, 104, 105]) with
  | false => rw [hb] at hk; simp at hk
  | true =>
    rw [hb] at hk
    simp only [cond_true, List.mem_singleton] at hk
    subst hk
    rw [eq_of_beq hb] at h
    exact kind_gives i f h
theorem open_gives : Gives prog RG 49 cOpen := givesT tab_gives (allCons must_gives (allCons has_gives allNil)) (fun p => lOpen p.1 p.2.1) (by kernel_rfl) (by kernel_rfl) (by kernel_rfl) fun (l, r, ()) _ => open_vc l r
end Go.Rp
end

section
set_option linter.unusedVariables false
set_option maxRecDepth 100000
open Go Go.VT
namespace Go.Rp

theorem costR_eq (l : List Node) (a p : Int) : vc (EV [(50, cAsked), (47, cLens), (41, cLies), (58, cWay)]) noL Go.Proofs.Tryd.f22 cCostR (l, a, p, ()) = (let e2 : Bool := askedOf l [a] != (0 : Int);
  let e1 : Bool := !lies p (0 : Int) (IntKind.wrap IntKind.i64 (List.getD (lensOf l) (Int.toNat a) (0 : Int) - (1 : Int)));
  let e0 : Int × Int × Unit := ((costAt l a p).fst, (costAt l a p).snd, ());
  Small RU (Sigma.mk (Ty.slice (56 : Nat) (Ty.user (0 : Nat))) l) →
  (e2 = true → ((0 : Int), askedOf l [a], ()) = e0) ∧
    (e2 = false →
      (List.length l ≤ (17592186044416 : Nat) ∧
          ∀ (i : Nat) (x : Node),
            l[i]? = some x →
              (x.kind = (1 : Int) → ((0 : Int) ≤ x.a ∧ x.a < (↑i : Int)) ∧ (0 : Int) ≤ x.b ∧ x.b < (↑i : Int)) ∧
                (x.kind ≠ (0 : Int) → x.kind ≠ (1 : Int) → x.kind ≠ (2 : Int) → (0 : Int) ≤ x.a ∧ x.a < (↑i : Int))) ∧
        ((0 : Int) ≤ a ∧ a < (↑(List.length (lensOf l)) : Int)) ∧
          (e1 = true → ((0 : Int), (2 : Int), ()) = e0) ∧
            (e1 = false →
              ((List.length l ≤ (4000 : Nat) ∧ validOf l = true ∧ lensOf l = lensOf l) ∧ ((0 : Int) ≤ a ∧ a < (↑(List.length l) : Int)) ∧ (0 : Int) ≤ p ∧ p < at_ (lensOf l) a) ∧
                ((wayAt l a p).fst, (0 : Int), ()) = e0))) := by kernel_rfl

theorem flatR_eq (l : List Node) (a : Int) : vc (EV [(50, cAsked), (47, cLens), (45, cUpto), (20, cGatherR)]) noL Go.Proofs.Tryd.f18 cFlatR (l, a, ()) = (let e3 : Bool := askedOf l [a] != (0 : Int);
  let e2 : Int := List.getD (lensOf l) (Int.toNat a) (0 : Int);
  let e1 : List Int × Int × Unit := ((flatAt l a).fst, (flatAt l a).snd, ());
  let e0 : List Int × Int := gatherAt l a (List.map (fun (n : Nat) => (↑n : Int)) (List.range (Int.toNat e2)));
  Small RU (Sigma.mk (Ty.slice (56 : Nat) (Ty.user (0 : Nat))) l) →
  (e3 = true → ([], askedOf l [a], ()) = e1) ∧
    (e3 = false →
      (List.length l ≤ (17592186044416 : Nat) ∧
          ∀ (i : Nat) (x : Node),
            l[i]? = some x →
              (x.kind = (1 : Int) → ((0 : Int) ≤ x.a ∧ x.a < (↑i : Int)) ∧ (0 : Int) ≤ x.b ∧ x.b < (↑i : Int)) ∧
                (x.kind ≠ (0 : Int) → x.kind ≠ (1 : Int) → x.kind ≠ (2 : Int) → (0 : Int) ≤ x.a ∧ x.a < (↑i : Int))) ∧
        ((0 : Int) ≤ a ∧ a < (↑(List.length (lensOf l)) : Int)) ∧ e2 ≤ (17592186044416 : Int) ∧ (e0.fst, e0.snd, ()) = e1)) := by kernel_rfl

theorem gatherR_eq (l : List Node) (a : Int) (r : List Int) : vc (EV [(50, cAsked), (47, cLens.frozen), (41, cLies), (58, cWay)]) (lGather l a r) Go.Proofs.Tryd.f20 cGatherR (l, a, r, ()) = (let e3 : Int := at_ (lensOf l) a - (1 : Int);
  let e2 : Bool := askedOf l [a] != (0 : Int);
  let e1 : List Int × Int × Unit := ((gatherAt l a r).fst, (gatherAt l a r).snd, ());
  let e0 : Bool := decide ((↑(List.length r) : Int) > (1048576 : Int));
  Small RU (Sigma.mk (Ty.slice (56 : Nat) (Ty.user (0 : Nat))) l) →
  Small RU (Sigma.mk (Ty.slice (3 : Nat) (Ty.int IntKind.i64)) r) →
    (e2 = true → ([], askedOf l [a], ()) = e1) ∧
      (e2 = false →
        (e0 = true → ([], (3 : Int), ()) = e1) ∧
          (e0 = false →
            (List.length l ≤ (17592186044416 : Nat) ∧
                ∀ (i : Nat) (x : Node),
                  l[i]? = some x →
                    (x.kind = (1 : Int) → ((0 : Int) ≤ x.a ∧ x.a < (↑i : Int)) ∧ (0 : Int) ≤ x.b ∧ x.b < (↑i : Int)) ∧
                      (x.kind ≠ (0 : Int) → x.kind ≠ (1 : Int) → x.kind ≠ (2 : Int) → (0 : Int) ≤ x.a ∧ x.a < (↑i : Int))) ∧
              (∃ (p : Int × List Int × Unit),
                  l = l ∧
                    a = a ∧
                      r = r ∧
                        askedOf l [a] = askedOf l [a] ∧
                          e2 = e2 ∧
                            e0 = e0 ∧
                              lensOf l = lensOf l ∧
                                (0 : Int) = p.fst ∧
                                  l = l ∧
                                    [a] = [a] ∧
                                      [] = p.snd.fst ∧
                                        (0 : Int) ≤ p.fst ∧
                                          p.fst ≤ (↑(List.length r) : Int) ∧
                                            (askedOf l [a] = (0 : Int) ∧ List.length r ≤ (1048576 : Nat)) ∧
                                              (∀ (i : Nat), i < Int.toNat p.fst → lies (List.getD r i (0 : Int)) (0 : Int) e3 = true) ∧
                                                p.snd.fst = List.map (fun (q : Int) => (wayAt l a q).snd) (List.take (Int.toNat p.fst) r)) ∧
                ∀ (p : Int × List Int × Unit),
                  let e6 : Bool := e2;
                  let e5 : Int := e3;
                  let e4 : Bool := decide (p.fst < (↑(List.length r) : Int));
                  let e3 : Bool := e0;
                  let e2 : Int := IntKind.wrap IntKind.i64 (List.getD (lensOf l) (Int.toNat a) (0 : Int) - (1 : Int));
                  let e1 : List Int × Int × Unit := e1;
                  let e0 : Int := List.getD r (Int.toNat p.fst) (0 : Int);
                  (0 : Int) ≤ p.fst ∧
                      p.fst ≤ (↑(List.length r) : Int) ∧
                        (askedOf l [a] = (0 : Int) ∧ List.length r ≤ (1048576 : Nat)) ∧
                          (∀ (i : Nat), i < Int.toNat p.fst → lies (List.getD r i (0 : Int)) (0 : Int) e5 = true) ∧
                            p.snd.fst = List.map (fun (q : Int) => (wayAt l a q).snd) (List.take (Int.toNat p.fst) r) →
                    (e4 = true →
                        ((0 : Int) ≤ p.fst ∧ p.fst < (↑(List.length r) : Int)) ∧
                          ((0 : Int) ≤ a ∧ a < (↑(List.length (lensOf l)) : Int)) ∧
                            ((!lies e0 (0 : Int) e2) = true → ([], (2 : Int), ()) = e1) ∧
                              ((!lies e0 (0 : Int) e2) = false →
                                ((0 : Int) ≤ p.fst ∧ p.fst < (↑(List.length r) : Int)) ∧
                                  ((List.length l ≤ (4000 : Nat) ∧ validOf l = true ∧ lensOf l = lensOf l) ∧ ((0 : Int) ≤ a ∧ a < (↑(List.length l) : Int)) ∧ (0 : Int) ≤ e0 ∧ e0 < at_ (lensOf l) a) ∧
                                    (List.length p.snd.fst + List.length [(wayAt l a e0).snd]) * (8 : Nat) ≤ (140737488355328 : Nat) ∧
                                      ∃ (p' : Int × List Int × Unit),
                                        l = l ∧
                                          a = a ∧
                                            r = r ∧
                                              askedOf l [a] = askedOf l [a] ∧
                                                e6 = e6 ∧
                                                  e3 = e3 ∧
                                                    lensOf l = lensOf l ∧
                                                      IntKind.wrap IntKind.i64 (p.fst + (1 : Int)) = p'.fst ∧
                                                        l = l ∧
                                                          [a] = [a] ∧
                                                            p.snd.fst ++ [(wayAt l a e0).snd] = p'.snd.fst ∧
                                                              ((0 : Int) ≤ p'.fst ∧
                                                                  p'.fst ≤ (↑(List.length r) : Int) ∧
                                                                    (askedOf l [a] = (0 : Int) ∧ List.length r ≤ (1048576 : Nat)) ∧
                                                                      (∀ (i : Nat), i < Int.toNat p'.fst → lies (List.getD r i (0 : Int)) (0 : Int) e5 = true) ∧
                                                                        p'.snd.fst = List.map (fun (q : Int) => (wayAt l a q).snd) (List.take (Int.toNat p'.fst) r)) ∧
                                                                List.length r - Int.toNat p'.fst < List.length r - Int.toNat p.fst)) ∧
                      (e4 = false → (p.snd.fst, (0 : Int), ()) = e1)))) := by kernel_rfl

theorem depthR_eq (l : List Node) (a : Int) : vc (EV [(50, cAsked)]) (lDepth l a) Go.Proofs.Tryd.f16 cDepthR (l, a, ()) = (let e1 : Int × Int × Unit := ((depthAt l a).fst, (depthAt l a).snd, ());
  let e0 : Bool := askedOf l [a] != (0 : Int);
  Small RU (Sigma.mk (Ty.slice (56 : Nat) (Ty.user (0 : Nat))) l) →
  (e0 = true → ((0 : Int), askedOf l [a], ()) = e1) ∧
    (e0 = false →
      (∃ (p : Int × List Int × Unit),
          l = l ∧
            a = a ∧
              (0 : Int) = (0 : Int) ∧
                (0 : Int) = (0 : Int) ∧
                  askedOf l [a] = askedOf l [a] ∧
                    e0 = e0 ∧
                      (0 : Int) = p.fst ∧
                        l = l ∧ [a] = [a] ∧ [] = p.snd.fst ∧ (0 : Int) ≤ p.fst ∧ p.fst ≤ a + (1 : Int) ∧ askedOf l [a] = (0 : Int) ∧ p.snd.fst = depthsOf (List.take (Int.toNat p.fst) l)) ∧
        ∀ (p : Int × List Int × Unit),
          let e4 : Bool := decide (p.fst ≤ a);
          let e3 : Nat := Int.toNat (a + (1 : Int)) - Int.toNat p.fst;
          let e2 : Int := IntKind.wrap IntKind.i64 (p.fst + (1 : Int));
          let e1_1 : Bool := e0;
          let e0 : Node := List.getD l (Int.toNat p.fst) (Node.mk (0 : Int) (0 : Int) (0 : Int) (0 : Int) (0 : Int) (0 : Int) []);
          (0 : Int) ≤ p.fst ∧ p.fst ≤ a + (1 : Int) ∧ askedOf l [a] = (0 : Int) ∧ p.snd.fst = depthsOf (List.take (Int.toNat p.fst) l) →
            (e4 = true →
                ((0 : Int) ≤ p.fst ∧ p.fst < (↑(List.length l) : Int)) ∧
                  ((e0.kind != (0 : Int)) = true →
                      ((0 : Int) ≤ e0.a ∧ e0.a < (↑(List.length p.snd.fst) : Int)) ∧
                        ((e0.kind == (1 : Int)) = true →
                            ((0 : Int) ≤ e0.b ∧ e0.b < (↑(List.length p.snd.fst) : Int)) ∧
                              (List.length p.snd.fst +
                                      List.length
                                        [if
                                              IntKind.wrap IntKind.i64 (List.getD p.snd.fst (Int.toNat e0.b) (0 : Int) + (1 : Int)) >
                                                IntKind.wrap IntKind.i64 (List.getD p.snd.fst (Int.toNat e0.a) (0 : Int) + (1 : Int)) then
                                            IntKind.wrap IntKind.i64 (List.getD p.snd.fst (Int.toNat e0.b) (0 : Int) + (1 : Int))
                                          else IntKind.wrap IntKind.i64 (List.getD p.snd.fst (Int.toNat e0.a) (0 : Int) + (1 : Int))]) *
                                    (8 : Nat) ≤
                                  (140737488355328 : Nat) ∧
                                ∃ (p' : Int × List Int × Unit),
                                  l = l ∧
                                    a = a ∧
                                      (0 : Int) = (0 : Int) ∧
                                        (0 : Int) = (0 : Int) ∧
                                          askedOf l [a] = askedOf l [a] ∧
                                            e1_1 = e1_1 ∧
                                              e2 = p'.fst ∧
                                                l = l ∧
                                                  [a] = [a] ∧
                                                    p.snd.fst ++
                                                          [if
                                                                IntKind.wrap IntKind.i64 (List.getD p.snd.fst (Int.toNat e0.b) (0 : Int) + (1 : Int)) >
                                                                  IntKind.wrap IntKind.i64 (List.getD p.snd.fst (Int.toNat e0.a) (0 : Int) + (1 : Int)) then
                                                              IntKind.wrap IntKind.i64 (List.getD p.snd.fst (Int.toNat e0.b) (0 : Int) + (1 : Int))
                                                            else IntKind.wrap IntKind.i64 (List.getD p.snd.fst (Int.toNat e0.a) (0 : Int) + (1 : Int))] =
                                                        p'.snd.fst ∧
                                                      ((0 : Int) ≤ p'.fst ∧ p'.fst ≤ a + (1 : Int) ∧ askedOf l [a] = (0 : Int) ∧ p'.snd.fst = depthsOf (List.take (Int.toNat p'.fst) l)) ∧
                                                        Int.toNat (a + (1 : Int)) - Int.toNat p'.fst < e3) ∧
                          ((e0.kind == (1 : Int)) = false →
                            (List.length p.snd.fst + List.length [IntKind.wrap IntKind.i64 (List.getD p.snd.fst (Int.toNat e0.a) (0 : Int) + (1 : Int))]) * (8 : Nat) ≤ (140737488355328 : Nat) ∧
                              ∃ (p' : Int × List Int × Unit),
                                l = l ∧
                                  a = a ∧
                                    (0 : Int) = (0 : Int) ∧
                                      (0 : Int) = (0 : Int) ∧
                                        askedOf l [a] = askedOf l [a] ∧
                                          e1_1 = e1_1 ∧
                                            e2 = p'.fst ∧
                                              l = l ∧
                                                [a] = [a] ∧
                                                  p.snd.fst ++ [IntKind.wrap IntKind.i64 (List.getD p.snd.fst (Int.toNat e0.a) (0 : Int) + (1 : Int))] = p'.snd.fst ∧
                                                    ((0 : Int) ≤ p'.fst ∧ p'.fst ≤ a + (1 : Int) ∧ askedOf l [a] = (0 : Int) ∧ p'.snd.fst = depthsOf (List.take (Int.toNat p'.fst) l)) ∧
                                                      Int.toNat (a + (1 : Int)) - Int.toNat p'.fst < e3)) ∧
                    ((e0.kind != (0 : Int)) = false →
                      ((e0.kind == (1 : Int)) = true →
                          ((0 : Int) ≤ e0.b ∧ e0.b < (↑(List.length p.snd.fst) : Int)) ∧
                            (List.length p.snd.fst +
                                    List.length
                                      [if IntKind.wrap IntKind.i64 (List.getD p.snd.fst (Int.toNat e0.b) (0 : Int) + (1 : Int)) > (1 : Int) then
                                          IntKind.wrap IntKind.i64 (List.getD p.snd.fst (Int.toNat e0.b) (0 : Int) + (1 : Int))
                                        else (1 : Int)]) *
                                  (8 : Nat) ≤
                                (140737488355328 : Nat) ∧
                              ∃ (p' : Int × List Int × Unit),
                                l = l ∧
                                  a = a ∧
                                    (0 : Int) = (0 : Int) ∧
                                      (0 : Int) = (0 : Int) ∧
                                        askedOf l [a] = askedOf l [a] ∧
                                          e1_1 = e1_1 ∧
                                            e2 = p'.fst ∧
                                              l = l ∧
                                                [a] = [a] ∧
                                                  p.snd.fst ++
                                                        [if IntKind.wrap IntKind.i64 (List.getD p.snd.fst (Int.toNat e0.b) (0 : Int) + (1 : Int)) > (1 : Int) then
                                                            IntKind.wrap IntKind.i64 (List.getD p.snd.fst (Int.toNat e0.b) (0 : Int) + (1 : Int))
                                                          else (1 : Int)] =
                                                      p'.snd.fst ∧
                                                    ((0 : Int) ≤ p'.fst ∧ p'.fst ≤ a + (1 : Int) ∧ askedOf l [a] = (0 : Int) ∧ p'.snd.fst = depthsOf (List.take (Int.toNat p'.fst) l)) ∧
                                                      Int.toNat (a + (1 : Int)) - Int.toNat p'.fst < e3) ∧
                        ((e0.kind == (1 : Int)) = false →
                          (List.length p.snd.fst + (1 : Nat)) * (8 : Nat) ≤ (140737488355328 : Nat) ∧
                            ∃ (p' : Int × List Int × Unit),
                              l = l ∧
                                a = a ∧
                                  (0 : Int) = (0 : Int) ∧
                                    (0 : Int) = (0 : Int) ∧
                                      askedOf l [a] = askedOf l [a] ∧
                                        e1_1 = e1_1 ∧
                                          e2 = p'.fst ∧
                                            l = l ∧
                                              [a] = [a] ∧
                                                p.snd.fst ++ [(1 : Int)] = p'.snd.fst ∧
                                                  ((0 : Int) ≤ p'.fst ∧ p'.fst ≤ a + (1 : Int) ∧ askedOf l [a] = (0 : Int) ∧ p'.snd.fst = depthsOf (List.take (Int.toNat p'.fst) l)) ∧
                                                    Int.toNat (a + (1 : Int)) - Int.toNat p'.fst < e3))) ∧
              (e4 = false → ((0 : Int) ≤ a ∧ a < (↑(List.length p.snd.fst) : Int)) ∧ (List.getD p.snd.fst (Int.toNat a) (0 : Int), (0 : Int), ()) = e1))) := by kernel_rfl

end Go.Rp
end

section
set_option linter.unusedVariables false
set_option linter.unusedSimpArgs false
set_option maxRecDepth 100000
namespace Go.Rp
open Go Go.VT

theorem lens_bound {l : List Node} (h : validOf l = true) {a : Int} (h0 : 0 ≤ a) (h1 : a < l.length) : 0 ≤ at_ (lensOf l) a ∧ at_ (lensOf l) a ≤ 1048576 := by
  obtain ⟨k, rfl⟩ := Int.eq_ofNat_of_zero_le h0
  exact (valid_lens h k (by omega)).1

theorem costR_vc (l : List Node) (a p : Int) : vc (EV [(50, cAsked), (47, cLens), (41, cLies), (58, cWay)]) noL Go.Proofs.Tryd.f22 cCostR (l, a, p, ()) := (costR_eq l a p).mpr (by
  intro e2 e1 e0 hs
  have he1 : e1 = !lies p 0 (IntKind.i64.wrap (at_ (lensOf l) a - 1)) := rfl
  clear_value e1
  refine ⟨fun h => ?_, fun h => ?_⟩
  · have h : askedOf l [a] ≠ 0 := by simpa [e2] using h
    simp only [e0, costAt, if_pos h]
  · have h : askedOf l [a] = 0 := by simpa [e2] using h
    have hn : ¬ (askedOf l [a] ≠ 0) := by simpa using h
    obtain ⟨h3, h4, h5⟩ := asked_ok h
    have ha := h5 a (by simp)
    have hb := lens_bound h4 ha.1 ha.2
    rw [w64_id (by omega) (by omega)] at he1
    refine ⟨⟨by omega, valid_ahead h4⟩, by rw [lensOf_length]; exact ha, fun h2 => ?_, fun h2 => ?_⟩
    · rw [he1] at h2
      simp only [e0, costAt, if_neg hn, h2, if_true]
    · rw [he1] at h2
      have hlies : lies p 0 (at_ (lensOf l) a - 1) = true := by simpa using h2
      rw [lies_iff] at hlies
      refine ⟨⟨⟨h3, h4, by trivial⟩, ha, by omega, by omega⟩, ?_⟩
      simp only [e0, costAt, if_neg hn, h2, Bool.false_eq_true, if_false])
theorem costR_gives : Gives prog RG 22 cCostR := gives (allCons asked_gives (allCons lens_gives (allCons lies_gives (allCons way_gives allNil)))) (fun _ => noL) (by kernel_rfl) (by kernel_rfl) (by kernel_rfl) fun (l, a, p, ()) _ => costR_vc l a p

theorem flat_gather {l : List Node} {a : Int} (h : askedOf l [a] = 0) : gatherAt l a ((List.range (at_ (lensOf l) a).toNat).map fun n : Nat => (n : Int)) = flatAt l a := by
  obtain ⟨h3, h4, h5⟩ := asked_ok h
  have ha := h5 a (by simp)
  have hb := lens_bound h4 ha.1 ha.2
  have hn : ¬ (askedOf l [a] ≠ 0) := by simpa using h
  have hall : (((List.range (at_ (lensOf l) a).toNat).map fun n : Nat => (n : Int)).all fun p => lies p 0 (at_ (lensOf l) a - 1)) = true := by
    rw [List.all_eq_true]
    intro x hx
    simp only [List.mem_map, List.mem_range] at hx
    obtain ⟨n, hn, rfl⟩ := hx
    rw [lies_iff]
    omega
  rw [gatherAt, if_neg hn, if_neg (by simp; omega), hall, flatAt, if_neg hn]
  simp [List.map_map, Function.comp_def]

theorem flatR_vc (l : List Node) (a : Int) : vc (EV [(50, cAsked), (47, cLens), (45, cUpto), (20, cGatherR)]) noL Go.Proofs.Tryd.f18 cFlatR (l, a, ()) := (flatR_eq l a).mpr (by
  intro e3 e2 e1 e0 hs
  refine ⟨fun h => ?_, fun h => ?_⟩
  · have h : askedOf l [a] ≠ 0 := by simpa [e3] using h
    simp only [e1, flatAt, if_pos h]
  · have h : askedOf l [a] = 0 := by simpa [e3] using h
    obtain ⟨h3, h4, h5⟩ := asked_ok h
    have ha := h5 a (by simp)
    have hb := lens_bound h4 ha.1 ha.2
    have he2 : e2 = at_ (lensOf l) a := rfl
    have he0 : e0 = flatAt l a := flat_gather h
    clear_value e2 e0
    exact ⟨⟨by omega, valid_ahead h4⟩, by rw [lensOf_length]; exact ha, by omega, by rw [he0]⟩)

theorem gatherR_vc (l : List Node) (a : Int) (r : List Int) : vc (EV [(50, cAsked), (47, cLens.frozen), (41, cLies), (58, cWay)]) (lGather l a r) Go.Proofs.Tryd.f20 cGatherR (l, a, r, ()) := (gatherR_eq l a r).mpr (by
  intro e3 e2 e1 e0 hs hs2
  have hr : r.length ≤ 140737488355328 := hs2.len
  refine ⟨fun h => ?_, fun h => ?_⟩
  · have h : askedOf l [a] ≠ 0 := by simpa [e2] using h
    simp only [e1, gatherAt, if_pos h]
  · have h : askedOf l [a] = 0 := by simpa [e2] using h
    have hn : ¬ (askedOf l [a] ≠ 0) := by simpa using h
    obtain ⟨h3, h4, h5⟩ := asked_ok h
    have ha := h5 a (by simp)
    have hb := lens_bound h4 ha.1 ha.2
    refine ⟨fun h2 => ?_, fun h2 => ?_⟩
    · have h2 : 1048576 < r.length := by simp [e0] at h2; omega
      simp only [e1, gatherAt, if_neg hn, if_pos h2]
    · have h2 : ¬ 1048576 < r.length := by simp [e0] at h2; omega
      have hg : gatherAt l a r = if !(r.all fun p => lies p 0 (at_ (lensOf l) a - 1)) then ([], 2) else (r.map fun p => (wayAt l a p).2, 0) := by rw [gatherAt, if_neg hn, if_neg h2]
      refine ⟨⟨by omega, valid_ahead h4⟩, ⟨(0, [], ()), rfl, rfl, rfl, rfl, rfl, rfl, rfl, rfl, rfl, rfl, rfl, Int.le_refl _, by dsimp only; omega, ⟨h, by omega⟩, fun i hi => by simp at hi, by simp⟩, ?_⟩
      rintro ⟨i, out, ⟨⟩⟩ f6 f5 f4 f3 f2 f1 f0 ⟨q0, q1, _, q2, q3⟩
      dsimp only at q0 q1 q2 q3
      obtain ⟨m, rfl⟩ := Int.eq_ofNat_of_zero_le q0
      have hf2 : f2 = at_ (lensOf l) a - 1 := by
        show IntKind.i64.wrap (at_ (lensOf l) a - 1) = _
        exact w64_id (by omega) (by omega)
      have hf5 : f5 = at_ (lensOf l) a - 1 := rfl
      have hf0 : f0 = r.getD m 0 := rfl
      have hf4 : f4 = decide ((m : Int) < r.length) := rfl
      have hf1 : f1 = ((gatherAt l a r).1, (gatherAt l a r).2, ()) := rfl
      clear_value f0 f1 f2 f3 f4 f5 f6
      simp only [Int.toNat_natCast] at q2 q3 ⊢
      subst hf2; subst hf5; subst hf4; subst hf0
      simp only [decide_eq_true_eq, decide_eq_false_iff_not]
      refine ⟨fun hlt => ⟨⟨q0, hlt⟩, by rw [lensOf_length]; exact ha, fun hl => ?_, fun hl => ?_⟩, fun hge => ?_⟩
      · have : (r.all fun p => lies p 0 (at_ (lensOf l) a - 1)) = false := by
          rw [← Bool.not_eq_true, List.all_eq_true]
          intro hall
          have := hall (r.getD m 0) (by simp only [List.getD, List.getElem?_eq_getElem (show m < r.length by omega)]; exact List.getElem_mem _)
          rw [this] at hl
          cases hl
        rw [hf1, hg, this]
        rfl
      · have hl' : lies (r.getD m 0) 0 (at_ (lensOf l) a - 1) = true := by simpa using hl
        have hl2 := lies_iff.1 hl'
        have hout : out.length = m := by rw [q3]; simp; omega
        refine ⟨⟨q0, hlt⟩, ⟨⟨h3, h4, by trivial⟩, ha, by omega, by omega⟩, by rw [hout]; simp; omega, ((m + 1 : Nat), out ++ [(wayAt l a (r.getD m 0)).2], ()), by trivial, by trivial, by trivial, by trivial, by trivial, by trivial, by trivial, ?_, by trivial, by trivial, rfl, ⟨by dsimp only; omega, by dsimp only; omega, ⟨h, by omega⟩, fun i hi => ?_, ?_⟩, by dsimp only; omega⟩
        · rw [w64_id (by omega) (by omega)]; rfl
        · dsimp only at hi
          rw [Int.toNat_natCast] at hi
          rcases Nat.lt_succ_iff_lt_or_eq.1 hi with h6 | h6
          · exact q2 i h6
          · subst h6; exact hl'
        · dsimp only
          rw [Int.toNat_natCast, take_succ_getD (by omega : m < r.length) 0, List.map_append, ← q3]
          rfl
      · have hm : m = r.length := by omega
        subst hm
        have : (r.all fun p => lies p 0 (at_ (lensOf l) a - 1)) = true := by
          rw [List.all_eq_true]
          intro x hx
          obtain ⟨i, hi, rfl⟩ := List.mem_iff_getElem.1 hx
          have := q2 i hi
          simpa only [List.getD, List.getElem?_eq_getElem hi, Option.getD_some] using this
        rw [hf1, hg, this, q3, List.take_length]
        rfl)
theorem gatherR_gives : Gives prog RG 20 cGatherR := gives (allCons asked_gives (allCons (lens_gives.frozen rfl) (allCons lies_gives (allCons way_gives allNil)))) (fun p => lGather p.1 p.2.1 p.2.2.1) (by kernel_rfl) (by kernel_rfl) (by kernel_rfl) fun (l, a, r, ()) _ => gatherR_vc l a r
theorem flatR_gives : Gives prog RG 18 cFlatR := gives (allCons asked_gives (allCons lens_gives (allCons upto_gives (allCons gatherR_gives allNil)))) (fun _ => noL) (by kernel_rfl) (by kernel_rfl) (by kernel_rfl) fun (l, a, ()) _ => flatR_vc l a

def grow {α : Type} (g : List Int → α → Int) (l : List α) : List Int := l.foldl (fun out x => out ++ [g out x]) []
theorem grow_snoc {α : Type} (g : List Int → α → Int) (l : List α) (x : α) : grow g (l ++ [x]) = grow g l ++ [g (grow g l) x] := by simp [grow]
theorem grow_length {α : Type} (g : List Int → α → Int) (l : List α) : (grow g l).length = l.length := by
  have : ∀ (l : List α) (out : List Int), (l.foldl (fun out x => out ++ [g out x]) out).length = out.length + l.length := by
    intro l
    induction l with
    | nil => intro out; rfl
    | cons x l ih => intro out; rw [List.foldl_cons, ih]; simp; omega
  unfold grow
  simpa using this l []
theorem grow_take {α : Type} (g : List Int → α → Int) : ∀ (l : List α) (m : Nat), m ≤ l.length → grow g (l.take m) = (grow g l).take m := by
  intro l
  generalize hn : l.length = n
  induction n generalizing l with
  | zero =>
    intro m hm
    have : l = [] := List.length_eq_zero_iff.1 hn
    subst this
    simp [grow]
  | succ n ih =>
    intro m hm
    have hne : l ≠ [] := by intro h; rw [h] at hn; cases hn
    obtain ⟨l', x, rfl⟩ : ∃ l' x, l = l' ++ [x] := ⟨l.dropLast, l.getLast hne, (List.dropLast_concat_getLast hne).symm⟩
    have hl' : l'.length = n := by simpa using hn
    rcases Nat.lt_or_ge m (n + 1) with h | h
    · rw [List.take_append_of_le_length (by omega), ih l' hl' m (by omega), grow_snoc, List.take_append_of_le_length (by rw [grow_length]; omega)]
    · rw [List.take_of_length_le (by simp; omega), List.take_of_length_le (by rw [grow_length]; simp; omega)]

theorem depths_grow (l : List Node) : depthsOf l = grow depthOf l := rfl

theorem imax (x y : Int) : (if y > x then y else x) = max x y := by
  rw [Int.max_def]; split <;> split <;> omega

theorem depthR_vc (l : List Node) (a : Int) : vc (EV [(50, cAsked)]) (lDepth l a) Go.Proofs.Tryd.f16 cDepthR (l, a, ()) := (depthR_eq l a).mpr (by
  intro e1 e0 hs
  refine ⟨fun h => ?_, fun h => ?_⟩
  · have h : askedOf l [a] ≠ 0 := by simpa [e0] using h
    simp only [e1, depthAt, if_pos h]
  · have h : askedOf l [a] = 0 := by simpa [e0] using h
    have hn : ¬ (askedOf l [a] ≠ 0) := by simpa using h
    obtain ⟨h3, h4, h5⟩ := asked_ok h
    have ha := h5 a (by simp)
    refine ⟨⟨(0, [], ()), rfl, rfl, rfl, rfl, rfl, rfl, rfl, rfl, rfl, rfl, Int.le_refl _, by dsimp only; omega, h, rfl⟩, ?_⟩
    rintro ⟨i, out, ⟨⟩⟩ f4 f3 f2 f1 f0 ⟨q0, q1, _, q2⟩
    dsimp only at q0 q1 q2
    obtain ⟨m, rfl⟩ := Int.eq_ofNat_of_zero_le q0
    rw [Int.toNat_natCast] at q2
    have hf4 : f4 = decide ((m : Int) ≤ a) := rfl
    have hf3 : f3 = (a + 1).toNat - m := rfl
    have hf2 : f2 = (m : Int) + 1 := w64_id (by omega) (by omega)
    have hf0 : f0 = l.getD m node0 := rfl
    clear_value f0 f1 f2 f3 f4
    subst hf4 hf3 hf2
    have hout : out.length = m := by rw [q2, depths_grow, grow_length]; simp; omega
    dsimp only
    refine ⟨fun hlt => ?_, fun hge => ?_⟩
    · have hlt : (m : Int) ≤ a := by simpa using hlt
      have hml : m < l.length := by omega
      have hx := valid_fields h4 m hml
      rw [← hf0] at hx
      have fin : ∀ v, v = depthOf out f0 → ((out.length + [v].length) * 8 ≤ 140737488355328 ∧ ∃ p' : Int × List Int × Unit, l = l ∧ a = a ∧ (0 : Int) = 0 ∧ (0 : Int) = 0 ∧ askedOf l [a] = askedOf l [a] ∧ f1 = f1 ∧ (m : Int) + 1 = p'.1 ∧ l = l ∧ [a] = [a] ∧ out ++ [v] = p'.2.1 ∧
          (0 ≤ p'.1 ∧ p'.1 ≤ a + 1 ∧ askedOf l [a] = 0 ∧ p'.2.1 = depthsOf (l.take p'.1.toNat)) ∧ (a + 1).toNat - p'.1.toNat < (a + 1).toNat - m) := by
        intro v hv
        refine ⟨by simp [hout]; omega, ((m + 1 : Nat), out ++ [v], ()), rfl, rfl, rfl, rfl, rfl, rfl, rfl, rfl, rfl, rfl, ⟨by dsimp only; omega, by dsimp only; omega, h, ?_⟩, by dsimp only; omega⟩
        dsimp only
        rw [Int.toNat_natCast, take_succ_getD hml node0, depths_grow, grow_snoc, ← depths_grow, ← q2, hv, hf0]
      refine ⟨⟨q0, by omega⟩, fun k0 => ?_, fun k0 => ⟨fun k1 => ?_, fun k1 => ?_⟩⟩
      · have k0 : ¬ f0.kind = 0 := by simpa using k0
        have hA := fields_a hx k0
        refine ⟨by omega, fun k1 => ⟨?_, fin _ ?_⟩, fun k1 => fin _ ?_⟩
        · have k1 : f0.kind = 1 := by simpa using k1
          have := ((fields_ahead hx).1 k1).2
          omega
        · have k1 : f0.kind = 1 := by simpa using k1
          rw [imax, depthOf, if_neg k0, if_pos k1]
          rfl
        · have k1 : ¬ f0.kind = 1 := by simpa using k1
          rw [depthOf, if_neg k0, if_neg k1]
          rfl
      · exfalso
        have k0 : f0.kind = 0 := by simpa using k0
        have k1 : f0.kind = 1 := by simpa using k1
        omega
      · have k0 : f0.kind = 0 := by simpa using k0
        exact fin _ (by rw [depthOf, if_pos k0])
    · have hge : ¬ (m : Int) ≤ a := by simpa using hge
      have hm : (m : Int) = a + 1 := by omega
      refine ⟨by omega, ?_⟩
      have : at_ out a = at_ (depthsOf l) a := by
        rw [q2, depths_grow, grow_take _ _ _ (by omega), ← depths_grow, at_take ha.1 (by omega)]
      simp only [e1, depthAt, if_neg hn, ← this]
      rfl)
theorem depthR_gives : Gives prog RG 16 cDepthR := gives (allCons asked_gives allNil) (fun p => lDepth p.1 p.2.1) (by kernel_rfl) (by kernel_rfl) (by kernel_rfl) fun (l, a, ()) _ => depthR_vc l a
end Go.Rp
end

section
set_option linter.unusedVariables false
set_option linter.unusedSimpArgs false
set_option maxRecDepth 100000
open Go Go.VT
namespace Go.Rp

theorem clone_gives : Gives prog RG 70 cClone := gives allNil (fun _ => noL) (by kernel_rfl) (by kernel_rfl) (by kernel_rfl) fun (l, ()) hp => (clone_eq l).mpr (by
  have hp : l.length ≤ 17592186044416 := hp
  intro hs b e0 hb
  have he : e0 = b := rfl
  refine ⟨fun h => ?_, fun h => ⟨by omega, rfl⟩⟩
  rw [hb (he ▸ h)])

theorem ownS_vc (l : List Node) (L : List (Int × Int)) (hp : few' l) : vc (EV [(70, cClone)]) (lOwnS l) Go.Proofs.Tryd.f59 cOwnS (l, L, ()) := (ownS_eq l L).mpr (by
  obtain ⟨hp1, hp2⟩ := hp
  intro e1 e0 hs
  have hl : l.length ≤ 140737488355328 := hs.len
  have he0 : e0 = l := by
    show List.take (List.length (List.replicate (Int.toNat (l.length : Int)) e1)) l ++ List.drop l.length (List.replicate (Int.toNat (l.length : Int)) e1) = l
    rw [Int.toNat_natCast, List.length_replicate, List.take_length, List.drop_of_length_le (by simp), List.append_nil]
  have hb : List.take (List.length (List.replicate (Int.toNat (l.length : Int)) e1)) l ++ List.drop l.length (List.replicate (Int.toNat (l.length : Int)) e1) = l := he0
  refine ⟨⟨by omega, by omega⟩, ⟨(0, l, ()), rfl, rfl, rfl, rfl, he0, Int.le_refl _, by dsimp only; omega, rfl⟩, ?_⟩
  rintro ⟨i, m, ⟨⟩⟩
  dsimp only
  rintro ⟨q0, q1, rfl⟩
  obtain ⟨k, rfl⟩ := Int.eq_ofNat_of_zero_le q0
  rw [hb]
  simp only [Int.toNat_natCast]
  refine ⟨fun hk => ?_, fun hk => by trivial⟩
  have hk : k < m.length := by simpa using hk
  have hg : m.getD k e1 = m[k] := by simp [List.getD, List.getElem?_eq_getElem hk]
  refine ⟨⟨q0, by omega⟩, ?_, ⟨q0, by omega⟩, ((k + 1 : Nat), m, ()), by trivial, ?_, by trivial, by trivial, ?_, ⟨by omega, by dsimp only; omega, rfl⟩, by dsimp only; omega⟩
  · rw [hg]
    have := hp2 m[k] (List.getElem_mem _)
    omega
  · rw [w64_id (by omega) (by omega)]; rfl
  · dsimp only
    rw [hg]
    exact List.set_getElem_self hk)
theorem ownS_gives : Gives prog RG 59 cOwnS := gives (allCons clone_gives allNil) (fun p => lOwnS p.1) (by kernel_rfl) (by kernel_rfl) (by kernel_rfl) fun (l, L, ()) hp => ownS_vc l L hp

theorem put_gives : Gives prog RG 60 cPut := gives (allCons must_gives allNil) (fun _ => noL) (by kernel_rfl) (by kernel_rfl) (by kernel_rfl) fun (l, L, x1, x2, x3, x4, x5, x6, w, long, ()) hp => (put_eq l L x1 x2 x3 x4 x5 x6 w long).mpr (by
  intro e1 e0 hs1 hs2
  have he : e1 = putBad l long := rfl
  refine ⟨fun h => ⟨he ▸ h, rfl, trivial⟩, fun h => ⟨?_, he ▸ h, rfl⟩⟩
  have h : (l.length : Int) < 4000 := by
    have := he ▸ h
    simp only [putBad, Bool.not_eq_false', Bool.and_eq_true, decide_eq_true_eq] at this
    exact this.1
  show (l.length + 1) * 72 ≤ _
  omega)

theorem made_gives : Gives prog RG 69 cMade := gives (allCons ownS_gives (allCons put_gives allNil)) (fun _ => noL) (by kernel_rfl) (by kernel_rfl) (by kernel_rfl) fun (l, L, x1, x2, x3, x4, x5, x6, w, long, ()) hp => (made_eq l L x1 x2 x3 x4 x5 x6 w long).mpr (by
  intro e0 hs1 hs2
  exact ⟨hp, fun h => ⟨h, rfl, trivial⟩, fun h => ⟨h, rfl⟩⟩)

/-- How the way to a place goes. -/
theorem way_cases {l : List Node} (hv : validOf l = true) {a p : Int} (h0 : 0 ≤ a) (h1 : a < l.length) (p0 : 0 ≤ p) (p1 : p < at_ (lensOf l) a) {x : Node} (hx : x = l.getD a.toNat node0) :
    (x.kind = 0 ∧ p < x.words.length ∧ wayAt l a p = (1, at_ x.words p) ∧ isWord (at_ x.words p) = true) ∨
    (x.kind = 1 ∧ (0 ≤ x.a ∧ x.a < a) ∧ (0 ≤ x.b ∧ x.b < a) ∧ (0 ≤ at_ (lensOf l) x.a ∧ at_ (lensOf l) x.a ≤ 1048576) ∧
      (p < at_ (lensOf l) x.a → wayAt l a p = (w64 ((wayAt l x.a p).1 + 1), (wayAt l x.a p).2)) ∧
      (¬ p < at_ (lensOf l) x.a → p - at_ (lensOf l) x.a < at_ (lensOf l) x.b ∧ wayAt l a p = (w64 ((wayAt l x.b (p - at_ (lensOf l) x.a)).1 + 1), (wayAt l x.b (p - at_ (lensOf l) x.a)).2))) ∨
    (x.kind = 2 ∧ (0 ≤ x.a ∧ x.a < a) ∧ (0 ≤ x.from_ ∧ x.from_ ≤ 1048576) ∧ x.from_ + p < at_ (lensOf l) x.a ∧ wayAt l a p = (w64 ((wayAt l x.a (x.from_ + p)).1 + 1), (wayAt l x.a (x.from_ + p)).2)) ∨
    (x.kind = 3 ∧ (0 ≤ x.a ∧ x.a < a) ∧ isWord x.n = true ∧ p < at_ (lensOf l) x.a ∧ wayAt l a p = (w64 ((wayAt l x.a p).1 + 1), word (w64 ((wayAt l x.a p).2 + x.n)))) := by
  have hll := lensOf_length l
  have hi : a.toNat < l.length := by omega
  have hcast : ((a.toNat : Nat) : Int) = a := by omega
  obtain ⟨hb, hk0, hk1, hk2, hk3, hkk⟩ := valid_lens hv a.toNat hi
  rw [hcast] at hb hk0 hk1 hk2 hk3
  have hfd := valid_fields hv a.toNat hi
  rw [← hx] at hk0 hk1 hk2 hk3 hkk hfd
  have hway : wayAt l a p = wayOf l (lensOf l) (a.toNat + 1) a p := rfl
  have hrec : ∀ b p : Int, 0 ≤ b → b < a → wayOf l (lensOf l) a.toNat b p = wayAt l b p := fun b p q0 q1 => wayAt_eq hv h0 h1 b p q0 q1
  unfold wayOf at hway
  rw [nat_getD, ← hx] at hway
  have bnd : ∀ b : Int, 0 ≤ b → b < a → 0 ≤ at_ (lensOf l) b ∧ at_ (lensOf l) b ≤ 1048576 := by
    intro b q0 q1
    exact lens_bound hv q0 (by omega)
  rcases hkk with k | k | k | k
  · left
    rw [if_pos k] at hway
    have hw : x.words.all isWord = true := by
      unfold fieldsOf at hfd
      rw [if_pos k] at hfd
      simp only [Bool.and_eq_true] at hfd
      exact hfd.2
    have hlt : p < x.words.length := by rw [← hk0 k]; exact p1
    refine ⟨k, hlt, hway, ?_⟩
    have := List.all_eq_true.1 hw (x.words.getD p.toNat 0) (by
      simp only [List.getD, List.getElem?_eq_getElem (show p.toNat < x.words.length by omega), Option.getD_some]
      exact List.getElem_mem _)
    exact this
  · right; left
    have hab := (fields_ahead hfd).1 k
    rw [hcast] at hab
    have ha' := bnd x.a hab.1.1 hab.1.2
    have hb' := bnd x.b hab.2.1 hab.2.2
    have hs := hk1 k
    rw [if_neg (by omega), if_pos k] at hway
    refine ⟨k, hab.1, hab.2, ha', fun hlt => ?_, fun hge => ?_⟩
    · rw [if_pos hlt, hrec _ _ hab.1.1 hab.1.2] at hway
      exact hway
    · have hw : w64 (p - at_ (lensOf l) x.a) = p - at_ (lensOf l) x.a := w64_id (by omega) (by omega)
      rw [if_neg hge, hw, hrec _ _ hab.2.1 hab.2.2] at hway
      exact ⟨by omega, hway⟩
  · right; right; left
    have ha := fields_a hfd (by omega)
    rw [hcast] at ha
    have ha' := bnd x.a ha.1 ha.2
    obtain ⟨q1, q2, q3, q4⟩ := hk2 k
    have hw : w64 (x.from_ + p) = x.from_ + p := w64_id (by omega) (by omega)
    rw [if_neg (by omega), if_neg (by omega), if_pos k, hw, hrec _ _ ha.1 ha.2] at hway
    exact ⟨k, ha, ⟨by omega, by omega⟩, by omega, hway⟩
  · right; right; right
    have ha := fields_a hfd (by omega)
    rw [hcast] at ha
    have hs := hk3 k
    rw [if_neg (by omega), if_neg (by omega), if_neg (by omega), hrec _ _ ha.1 ha.2] at hway
    refine ⟨k, ha, ?_, by omega, hway⟩
    unfold fieldsOf at hfd
    rw [if_neg (by omega), if_neg (by omega), if_neg (by omega), if_pos k] at hfd
    simp only [Bool.and_eq_true] at hfd
    exact hfd.2

theorem isWord_word (n : Int) : isWord (word n) = true := by
  unfold isWord word
  rw [lies_iff, IntKind.wrap_i32]
  omega

theorem isWord_iff {n : Int} : isWord n = true ↔ -2147483648 ≤ n ∧ n ≤ 2147483647 := by rw [isWord, lies_iff]

theorem way_bounds {l : List Node} (hl : l.length ≤ 4000) (hv : validOf l = true) : ∀ (k : Nat) (a p : Int), a.toNat = k → 0 ≤ a → a < l.length → 0 ≤ p → p < at_ (lensOf l) a → (1 ≤ (wayAt l a p).1 ∧ (wayAt l a p).1 ≤ a + 1) ∧ isWord (wayAt l a p).2 = true := by
  intro k
  induction k using Nat.strongRecOn with
  | ind k ih =>
    intro a p hk h0 h1 p0 p1
    rcases way_cases hv h0 h1 p0 p1 rfl with ⟨_, _, h, hw⟩ | ⟨_, ha, hb, hla, hlt, hge⟩ | ⟨_, ha, hf, hp, h⟩ | ⟨_, ha, hn, hp, h⟩
    · rw [h]; exact ⟨⟨by dsimp only; omega, by dsimp only; omega⟩, hw⟩
    · by_cases hc : p < at_ (lensOf l) (l.getD a.toNat node0).a
      · have := ih _ (by omega) (l.getD a.toNat node0).a p rfl ha.1 (by omega) p0 hc
        rw [hlt hc]
        dsimp only
        have e : w64 ((wayAt l (l.getD a.toNat node0).a p).1 + 1) = (wayAt l (l.getD a.toNat node0).a p).1 + 1 := w64_id (by omega) (by omega)
        rw [e]
        exact ⟨⟨by omega, by omega⟩, this.2⟩
      · obtain ⟨q1, q2⟩ := hge hc
        have := ih _ (by omega) (l.getD a.toNat node0).b _ rfl hb.1 (by omega) (by omega) q1
        rw [q2]
        dsimp only
        generalize wayAt l (l.getD a.toNat node0).b (p - at_ (lensOf l) (l.getD a.toNat node0).a) = z at this ⊢
        have e : w64 (z.1 + 1) = z.1 + 1 := w64_id (by omega) (by omega)
        rw [e]
        exact ⟨⟨by omega, by omega⟩, this.2⟩
    · have := ih _ (by omega) (l.getD a.toNat node0).a _ rfl ha.1 (by omega) (by omega) hp
      rw [h]
      dsimp only
      generalize wayAt l (l.getD a.toNat node0).a ((l.getD a.toNat node0).from_ + p) = z at this ⊢
      have e : w64 (z.1 + 1) = z.1 + 1 := w64_id (by omega) (by omega)
      rw [e]
      exact ⟨⟨by omega, by omega⟩, this.2⟩
    · have := ih _ (by omega) (l.getD a.toNat node0).a _ rfl ha.1 (by omega) p0 hp
      rw [h]
      dsimp only
      generalize wayAt l (l.getD a.toNat node0).a p = z at this ⊢
      have e : w64 (z.1 + 1) = z.1 + 1 := w64_id (by omega) (by omega)
      rw [e]
      exact ⟨⟨by omega, by omega⟩, isWord_word _⟩

theorem word_id {n : Int} (h : isWord n = true) : word n = n := by
  rw [isWord_iff] at h
  unfold word
  rw [IntKind.wrap_i32]
  omega

/-- Numbers added one after the other. -/
theorem word_add {w n add : Int} (hw : isWord w = true) (hn : isWord n = true) (ha : isWord add = true) : word (w64 (word (w64 (w + n)) + add)) = word (w64 (w + word (w64 (add + n)))) := by
  rw [isWord_iff] at hw hn ha
  have e1 : w64 (w + n) = w + n := w64_id (by omega) (by omega)
  have e2 : w64 (add + n) = add + n := w64_id (by omega) (by omega)
  rw [e1, e2]
  have b1 := isWord_iff.1 (isWord_word (w + n))
  have b2 := isWord_iff.1 (isWord_word (add + n))
  have e3 : w64 (word (w + n) + add) = word (w + n) + add := w64_id (by omega) (by omega)
  have e4 : w64 (w + word (add + n)) = w + word (add + n) := w64_id (by omega) (by omega)
  rw [e3, e4]
  unfold word
  simp only [IntKind.wrap_i32]
  omega

theorem conv_word (n : Int) : IntKind.i64.wrap (IntKind.i32.wrap n) = word n := by
  have := isWord_iff.1 (isWord_word n)
  unfold word at this ⊢
  exact w64_id (by omega) (by omega)

theorem at_vc (l : List Node) (a p : Int) (hl : l.length ≤ 4000) (hv : validOf l = true) (h0 : 0 ≤ a) (h1 : a < l.length) (p0 : 0 ≤ p) (p1 : p < at_ (lensOf l) a) :
    vc (EV []) (lAt l a p) Go.Proofs.Tryd.f57 cAt (l, longOf l, a, p, ()) := (at_eq l (longOf l) a p).mpr (by
  intro hs
  obtain ⟨hb0, hw0⟩ := way_bounds hl hv _ a p rfl h0 h1 p0 p1
  refine ⟨⟨(a, p, 0, 1, ()), rfl, rfl, rfl, rfl, rfl, rfl, ⟨h0, Int.le_refl _⟩, ⟨p0, p1⟩, ⟨Int.le_refl _, by dsimp only; omega⟩, ⟨show isWord 0 = true by decide, ?_⟩, ?_⟩, ?_⟩
  · dsimp only
    rw [Int.add_zero]
    have := isWord_iff.1 hw0
    have e : w64 (wayAt l a p).2 = (wayAt l a p).2 := w64_id (by omega) (by omega)
    rw [e, word_id hw0]
  · dsimp only; omega
  rintro ⟨b, q, add, way, ⟨⟩⟩
  dsimp only
  rintro ⟨⟨i0, i1⟩, ⟨j0, j1⟩, ⟨c0, c1⟩, ⟨ia, iw⟩, ic⟩
  have hbl : b < l.length := by omega
  obtain ⟨hbb, hwb⟩ := way_bounds hl hv _ b q rfl i0 hbl j0 j1
  have hway : IntKind.wrap IntKind.i64 (way + 1) = way + 1 := w64_id (by omega) (by omega)
  rw [iw, ic, hway]
  have hcs := way_cases hv i0 hbl j0 j1 (x := l.getD b.toNat node0) rfl
  have hcst : List.getD l b.toNat (Node.mk 0 0 0 0 0 0 []) = l.getD b.toNat node0 := rfl
  rw [hcst]
  generalize l.getD b.toNat node0 = x at hcs ⊢
  have hgl : 0 ≤ x.a → x.a < l.length → Option.getD (mget (fun x y => x == y) (longOf l) x.a) 0 = at_ (lensOf l) x.a := fun a b => lg_long a b
  refine ⟨⟨i0, hbl⟩, ?_⟩
  have hwy : ∀ c r : Int, 0 ≤ c → c < b → 0 ≤ r → r < at_ (lensOf l) c → w64 ((wayAt l c r).1 + 1) = (wayAt l c r).1 + 1 := by
    intro c r z0 z1 z2 z3
    have := (way_bounds hl hv _ c r rfl z0 (by omega) z2 z3).1
    exact w64_id (by omega) (by omega)
  rcases hcs with ⟨k, hlt, h, hw⟩ | ⟨k, ha, hb, hla, hlt, hge⟩ | ⟨k, ha, hf, hp, h⟩ | ⟨k, ha, hn, hp, h⟩
  · refine ⟨fun _ => ⟨⟨j0, hlt⟩, ?_⟩, fun hk => ?_⟩
    · rw [conv_word, h]
      simp only [at_]
      rw [show way - 1 + 1 = way by omega]
    · simp [k] at hk
  · refine ⟨fun hk => by simp [k] at hk, fun _ => ⟨fun hk => by simp [k] at hk, fun _ => ⟨fun hk => by simp [k] at hk, fun _ => ?_⟩⟩⟩
    rw [hgl ha.1 (by omega)]
    refine ⟨fun hc => ?_, fun hc => ?_⟩
    · have hc : q < at_ (lensOf l) x.a := by simpa using hc
      rw [hlt hc]
      exact ⟨(x.a, q, add, way + 1, ()), by trivial, by trivial, by trivial, by trivial, by trivial, by trivial, ⟨⟨ha.1, by dsimp only; omega⟩, ⟨j0, hc⟩, ⟨by dsimp only; omega, by dsimp only; omega⟩, ⟨ia, rfl⟩, by dsimp only; rw [hwy _ _ ha.1 ha.2 j0 hc]; omega⟩, by dsimp only; omega⟩
    · have hc : ¬ q < at_ (lensOf l) x.a := by simpa using hc
      obtain ⟨g1, g2⟩ := hge hc
      have hle : at_ (lensOf l) b ≤ 1048576 := (lens_bound hv i0 hbl).2
      have e : IntKind.wrap IntKind.i64 (q - at_ (lensOf l) x.a) = q - at_ (lensOf l) x.a := w64_id (by omega) (by omega)
      rw [g2, e]
      exact ⟨(x.b, q - at_ (lensOf l) x.a, add, way + 1, ()), by trivial, by trivial, by trivial, by trivial, by trivial, by trivial, ⟨⟨hb.1, by dsimp only; omega⟩, ⟨by dsimp only; omega, g1⟩, ⟨by dsimp only; omega, by dsimp only; omega⟩, ⟨ia, rfl⟩, by dsimp only; rw [hwy _ _ hb.1 hb.2 (by omega) g1]; omega⟩, by dsimp only; omega⟩
  · refine ⟨fun hk => by simp [k] at hk, fun _ => ⟨fun _ => ?_, fun hk => by simp [k] at hk⟩⟩
    have hle : at_ (lensOf l) b ≤ 1048576 := (lens_bound hv i0 hbl).2
    have e : IntKind.wrap IntKind.i64 (q + x.from_) = x.from_ + q := by
      rw [Int.add_comm]
      exact w64_id (by omega) (by omega)
    rw [h, e]
    exact ⟨(x.a, x.from_ + q, add, way + 1, ()), by trivial, by trivial, by trivial, by trivial, by trivial, by trivial, ⟨⟨ha.1, by dsimp only; omega⟩, ⟨by dsimp only; omega, hp⟩, ⟨by dsimp only; omega, by dsimp only; omega⟩, ⟨ia, rfl⟩, by dsimp only; rw [hwy _ _ ha.1 ha.2 (by omega) hp]; omega⟩, by dsimp only; omega⟩
  · refine ⟨fun hk => by simp [k] at hk, fun _ => ⟨fun hk => by simp [k] at hk, fun _ => ⟨fun _ => ?_, fun hk => by simp [k] at hk⟩⟩⟩
    rw [h, conv_word]
    have hw2 := (way_bounds hl hv _ x.a q rfl ha.1 (by omega) j0 hp).2
    refine ⟨(x.a, q, word (w64 (add + x.n)), way + 1, ()), by trivial, by trivial, by trivial, by trivial, by trivial, by trivial, ⟨⟨ha.1, by dsimp only; omega⟩, ⟨j0, hp⟩, ⟨by dsimp only; omega, by dsimp only; omega⟩, ⟨isWord_word _, ?_⟩, by dsimp only; rw [hwy _ _ ha.1 ha.2 j0 hp]; omega⟩, by dsimp only; omega⟩
    dsimp only
    exact word_add hw2 hn ia)
theorem at_gives : Gives prog RG 57 cAt := gives allNil (fun p => lAt p.1 p.2.2.1 p.2.2.2.1) (by kernel_rfl) (by kernel_rfl) (by kernel_rfl) fun (l, L, a, p, ()) hp => by
  obtain ⟨⟨hl, hv, hL⟩, ⟨h0, h1⟩, p0, p1⟩ := hp
  have hL : L = longOf l := hL
  subst hL
  exact at_vc l a p hl hv h0 h1 p0 p1
end Go.Rp
end

section
set_option linter.unusedVariables false
set_option linter.unusedSimpArgs false
set_option maxRecDepth 100000
open Go Go.VT
namespace Go.Rp

theorem more_put {l : List Node} {x : Node} {long : Int} (h : lenOf (lensOf l) x = min long 2097152) :
    (putBad l long = true → moreOf l x = ([], 0, 9)) ∧ (putBad l long = false → moreOf l x = (l ++ [x], (l.length : Int), 0)) := by
  have hg : (lensOf (l ++ [x])).getD l.length 0 = min long 2097152 := by
    rw [lensOf_snoc, List.getD_eq_getElem?_getD, List.getElem?_append_right (by rw [lensOf_length]; exact Nat.le_refl _), lensOf_length]
    simp [h]
  unfold moreOf putBad
  rw [hg]
  refine ⟨fun hb => if_pos ?_, fun hb => if_neg ?_⟩
  · simp only [Bool.not_eq_true', Bool.and_eq_false_iff, decide_eq_false_iff_not] at hb
    omega
  · simp only [Bool.not_eq_false', Bool.and_eq_true, decide_eq_true_eq] at hb
    omega

theorem few_valid {l : List Node} {r : List Int} (h : askedOf l r = 0) : l.length ≤ 4000000 ∧ ∀ x : Node, List.Mem x l → x.words.length ≤ 4000000 := by
  obtain ⟨h1, h2, h3⟩ := asked_ok h
  exact ⟨by omega, fun x hx => valid_few h2 x hx⟩

theorem ne_true {a : Int} : (a != 0) = true ↔ a ≠ 0 := by simp
theorem ne_false {a : Int} : (a != 0) = false ↔ a = 0 := by simp

theorem checkP_gives : Gives prog RG 33 cCheck := givesD (allCons open_gives allNil) (fun _ => noL) (by kernel_rfl) (by kernel_rfl) (by kernel_rfl) fun (l, ()) _ => (checkP_eq l).mpr (by
  intro _
  have hc : askedOf l [] = checkOf l := by unfold askedOf; split <;> simp_all
  rw [hc]
  exact ⟨fun _ => rfl, fun h => by rw [ne_false.1 h]⟩)

theorem lenP_gives : Gives prog RG 13 cLenR := givesD (allCons open_gives allNil) (fun _ => noL) (by kernel_rfl) (by kernel_rfl) (by kernel_rfl) fun (l, a, ()) _ => (lenP_eq l a).mpr (by
  intro e1 e0 _
  refine ⟨fun h => ?_, fun h => ?_⟩
  · have h := ne_true.1 h
    simp only [e0, lenAt, if_pos h]
  · have h := ne_false.1 h
    obtain ⟨h1, h2, h3⟩ := asked_ok h
    have := h3 a (by simp)
    simp only [e0, lenAt, h, ne_eq, not_true, if_false]
    rw [← lg_long this.1 this.2]
    rfl)

theorem costP_gives : Gives prog RG 21 cCostR := givesD (allCons open_gives (allCons must_gives (allCons has_gives (allCons at_gives allNil)))) (fun _ => noL) (by kernel_rfl) (by kernel_rfl) (by kernel_rfl) fun (l, a, p, ()) _ => (costP_eq l a p).mpr (by
  intro e2 e1 e0 _
  refine ⟨fun h => ?_, fun h => ?_⟩
  · have h := ne_true.1 h
    simp only [e0, costAt, if_pos h]
  · have h := ne_false.1 h
    obtain ⟨h1, h2, h3⟩ := asked_ok h
    have ha := h3 a (by simp)
    have hl : Option.getD (mget (fun (x y : Int) => x == y) (longOf l) a) (0 : Int) = at_ (lensOf l) a := lg_long ha.1 ha.2
    have he : e1 = !lies p 0 (at_ (lensOf l) a - 1) := by
      simp only [e1, hl, lies]
      congr 2
      simp only [decide_eq_decide]
      omega
    refine ⟨fun hb => ?_, fun hb => ?_⟩
    · simp only [e0, costAt, h, ne_eq, not_true, if_false]
      rw [if_pos (he ▸ hb)]
    · have hlie : lies p 0 (at_ (lensOf l) a - 1) = true := by rw [he] at hb; simpa using hb
      have hp := lies_iff.1 hlie
      refine ⟨⟨⟨⟨⟨h1, h2, rfl⟩, ha, hp.1, by omega⟩, rfl, trivial⟩, rfl, trivial⟩, ?_⟩
      simp only [e0, costAt, h, ne_eq, not_true, if_false, hlie, Bool.not_true, Bool.false_eq_true])

theorem part_bool (L f m : Int) (hL : 0 ≤ L ∧ L ≤ 1048576) : (!(decide (m ≥ 0) && decide (m ≤ L) && decide (f ≥ 0) && decide (f ≤ IntKind.i64.wrap (L - m)))) = !isPartOf L f m := by
  simp only [isPartOf, lies]
  congr 1
  rw [Bool.eq_iff_iff]
  simp only [Bool.and_eq_true, decide_eq_true_eq]
  constructor
  · rintro ⟨⟨⟨q1, q2⟩, q3⟩, q4⟩
    rw [w64_id (by omega) (by omega)] at q4
    rw [show w64 (L - f) = L - f from w64_id (by omega) (by omega)]
    omega
  · rintro ⟨⟨q1, q2⟩, q3, q4⟩
    rw [show w64 (L - f) = L - f from w64_id (by omega) (by omega)] at q4
    rw [w64_id (by omega) (by omega)]
    omega

theorem wordsP_gives : Gives prog RG 29 cWordsR := givesD (allCons open_gives (allCons must_gives (allCons any67_gives (allCons made_gives (allCons clone_gives allNil))))) (fun _ => noL) (by kernel_rfl) (by kernel_rfl) (by kernel_rfl) fun (l, w, ()) hw => (wordsP_eq l w).mpr (by
  have hw : w.length ≤ 4000000 := hw
  intro e2 e1 e0 _ _
  refine ⟨fun h => ?_, fun h => ?_⟩
  · have h := ne_true.1 h
    simp only [e0, wordsOf, if_pos h]
  · have h := ne_false.1 h
    have he1 : e1 = !w.all isWord := any_all w
    have hw0 : wordsOf l w = if (!w.all isWord) = true then ([], 0, 2) else moreOf l ⟨0, 0, 0, 0, 0, 0, w⟩ := by
      unfold wordsOf
      rw [if_neg (by simp [h])]
    refine ⟨fun hb => ?_, fun hb => ⟨by omega, few_valid h, ?_⟩⟩
    · simp only [e0, hw0, if_pos (he1 ▸ hb)]
    · rw [if_neg (by rw [← he1, hb]; simp)] at hw0
      obtain ⟨m1, m2⟩ := more_put (l := l) (x := ⟨0, 0, 0, 0, 0, 0, w⟩) (long := w.length) (by simp [lenOf])
      exact ⟨fun hp => by simp only [e0, hw0, m1 hp], fun hp => by simp only [e0, hw0, m2 hp]⟩)

theorem catP_gives : Gives prog RG 31 cCatR := givesD (allCons open_gives (allCons made_gives allNil)) (fun _ => noL) (by kernel_rfl) (by kernel_rfl) (by kernel_rfl) fun (l, a, b, ()) _ => (catP_eq l a b).mpr (by
  intro e2 e1 e0 _
  refine ⟨fun h => ?_, fun h => ?_⟩
  · have h := ne_true.1 h
    simp only [e0, catOf, if_pos h]
  · have h := ne_false.1 h
    obtain ⟨h1, h2, h3⟩ := asked_ok h
    have ha := h3 a (by simp)
    have hb := h3 b (by simp)
    have hla : Option.getD (mget (fun (x y : Int) => x == y) (longOf l) a) (0 : Int) = at_ (lensOf l) a := lg_long ha.1 ha.2
    have hlb : Option.getD (mget (fun (x y : Int) => x == y) (longOf l) b) (0 : Int) = at_ (lensOf l) b := lg_long hb.1 hb.2
    have hw0 : catOf l a b = moreOf l ⟨1, a, b, 0, 0, 0, []⟩ := by
      unfold catOf
      rw [if_neg (by simp [h])]
    obtain ⟨m1, m2⟩ := more_put (l := l) (x := ⟨1, a, b, 0, 0, 0, []⟩) (long := w64 (at_ (lensOf l) a + at_ (lensOf l) b)) (by simp [lenOf])
    have he1 : e1 = putBad l (w64 (at_ (lensOf l) a + at_ (lensOf l) b)) := by simp only [e1, hla, hlb]
    rw [he1]
    exact ⟨few_valid h, fun hp => by simp only [e0, hw0, m1 hp], fun hp => by simp only [e0, hw0, m2 hp]⟩)

theorem partP_gives : Gives prog RG 35 cPartR := givesD (allCons open_gives (allCons must_gives (allCons made_gives allNil))) (fun _ => noL) (by kernel_rfl) (by kernel_rfl) (by kernel_rfl) fun (l, a, f, m, ()) _ => (partP_eq l a f m).mpr (by
  intro e4 e3 e2 e1 e0 _
  refine ⟨fun h => ?_, fun h => ?_⟩
  · have h := ne_true.1 h
    simp only [e0, e3, partOf, if_pos h]
  · have h := ne_false.1 h
    obtain ⟨h1, h2, h3⟩ := asked_ok h
    have ha := h3 a (by simp)
    have hla : e2 = at_ (lensOf l) a := lg_long ha.1 ha.2
    have hbd := lens_bound h2 ha.1 ha.2
    have he1 : e1 = !isPartOf (at_ (lensOf l) a) f m := by
      simp only [e1, hla]
      exact part_bool _ f m hbd
    have hw0 : partOf l a f m = if (!isPartOf (at_ (lensOf l) a) f m) = true then ([], 0, 2) else moreOf l ⟨2, a, 0, f, m, 0, []⟩ := by
      unfold partOf
      rw [if_neg (by simp [h])]
    refine ⟨fun hb => ?_, fun hb => ⟨few_valid h, ?_⟩⟩
    · simp only [e0, e3, hw0, if_pos (he1 ▸ hb)]
    · rw [if_neg (by rw [← he1, hb]; simp)] at hw0
      obtain ⟨m1, m2⟩ := more_put (l := l) (x := ⟨2, a, 0, f, m, 0, []⟩) (long := m) (by simp [lenOf])
      exact ⟨fun hp => by simp only [e0, e3, hw0, m1 hp], fun hp => by simp only [e0, e3, hw0, m2 hp]⟩)

theorem offP_gives : Gives prog RG 37 cOffR := givesD (allCons open_gives (allCons must_gives (allCons isW_gives (allCons made_gives allNil)))) (fun _ => noL) (by kernel_rfl) (by kernel_rfl) (by kernel_rfl) fun (l, a, n, ()) _ => (offP_eq l a n).mpr (by
  intro e2 e1 e0 _
  refine ⟨fun h => ?_, fun h => ?_⟩
  · have h := ne_true.1 h
    simp only [e0, offOf, if_pos h]
  · have h := ne_false.1 h
    obtain ⟨h1, h2, h3⟩ := asked_ok h
    have ha := h3 a (by simp)
    have hla : Option.getD (mget (fun (x y : Int) => x == y) (longOf l) a) (0 : Int) = at_ (lensOf l) a := lg_long ha.1 ha.2
    have he1 : e1 = putBad l (at_ (lensOf l) a) := by simp only [e1, hla]
    have hw0 : offOf l a n = if (!isWord n) = true then ([], 0, 2) else moreOf l ⟨3, a, 0, 0, 0, n, []⟩ := by
      unfold offOf
      rw [if_neg (by simp [h])]
    refine ⟨fun hb => ?_, fun hb => ⟨few_valid h, ?_⟩⟩
    · simp only [e0, hw0, if_pos hb]
    · rw [if_neg (by rw [hb]; simp)] at hw0
      obtain ⟨m1, m2⟩ := more_put (l := l) (x := ⟨3, a, 0, 0, 0, n, []⟩) (long := at_ (lensOf l) a) (by simp [lenOf])
      rw [he1]
      exact ⟨fun hp => by simp only [e0, hw0, m1 hp], fun hp => by simp only [e0, hw0, m2 hp]⟩)
end Go.Rp
end

section
set_option linter.unusedVariables false
set_option linter.unusedSimpArgs false
set_option maxRecDepth 100000
open Go Go.VT
namespace Go.Rp

theorem out_gives : Gives prog RG 55 cOut := gives (allCons has_gives allNil) (fun _ => noL) (by kernel_rfl) (by kernel_rfl) (by kernel_rfl) fun (n, l, L, a, ()) _ => (out_eq n l L a).mpr (by intros; rfl)

theorem first_all {f : Int → Bool} {l : List Int} : ∀ {i : Int}, l.all (fun n => !f n) = true → firstAt f l i = -1 := by
  induction l with
  | nil => intros; rfl
  | cons x r ih =>
    intro i h
    simp only [List.all_cons, Bool.and_eq_true, Bool.not_eq_true'] at h
    simp only [firstAt, h.1, cond_false]
    exact ih h.2

theorem first_at {f : Int → Bool} {l : List Int} : ∀ {k : Nat} {i : Int}, (l.take k).all (fun n => !f n) = true → k < l.length → f (l.getD k 0) = true → firstAt f l i = i + k := by
  induction l with
  | nil => intro k i _ hk; simp at hk
  | cons x r ih =>
    intro k i h hk hn
    match k with
    | 0 =>
      have hn : f x = true := by simpa using hn
      simp [firstAt, hn]
    | k + 1 =>
      simp only [List.take_succ_cons, List.all_cons, Bool.and_eq_true, Bool.not_eq_true'] at h
      have := ih (k := k) (i := i + 1) h.2 (by simpa using hk) (by simpa using hn)
      simp only [firstAt, h.1, cond_false, this]
      omega

theorem first_any {f : Int → Bool} {l : List Int} : ∀ {i : Int}, 0 ≤ i → decide (firstAt f l i ≥ 0) = l.any f := by
  induction l with
  | nil => intros; simp [firstAt]
  | cons x r ih =>
    intro i h
    cases hx : f x with
    | false => simp [firstAt, hx, ← ih (i := i + 1) (by omega)]
    | true => simp [firstAt, hx, h]

theorem all_next {f : Int → Bool} {l : List Int} {k : Nat} (h : (l.take k).all (fun n => !f n) = true) (hk : k < l.length) (hn : f (l.getD k 0) = false) : (l.take (k + 1)).all (fun n => !f n) = true := by
  rw [take_succ_getD hk 0, List.all_append, h]
  simp only [List.all_cons, List.all_nil, Bool.and_true, hn, Bool.not_false, Bool.and_self]

theorem idxO_vc (r : List Int) (l : List Node) (L : List (Int × Int)) (a : Int) : vc (EV [(55, cOut)]) (lIdxO (outB L a) r) Go.Proofs.Tryd.f80 cIdxO (r, l, L, a, ()) := (idxO_eq r l L a).mpr (by
  intro hs hs2
  have hr : r.length ≤ 140737488355328 := hs.len
  simp only [true_and, and_true]
  refine ⟨⟨(0, ()), rfl, by simp, by simp, by simp⟩, fun (i, ()) => ?_⟩
  dsimp only
  rintro ⟨h0, h1, h2⟩
  obtain ⟨k, rfl⟩ := Int.eq_ofNat_of_zero_le h0
  simp only [Int.toNat_natCast] at h2 ⊢
  refine ⟨fun hk => ?_, fun hk => ?_⟩
  · have hk : k < r.length := by simpa using hk
    refine ⟨⟨h0, by omega⟩, fun hn => ?_, fun hn => ?_⟩
    · rw [first_at h2 hk hn]; simp
    · refine ⟨((k + 1 : Nat), ()), ?_, ⟨by omega, by dsimp only; omega, ?_⟩, by dsimp only; omega⟩
      · rw [w64_id (by omega) (by omega)]; rfl
      · dsimp only
        rw [Int.toNat_natCast]
        exact all_next h2 hk hn
  · have hk : r.length ≤ k := by simpa using hk
    rw [List.take_of_length_le hk] at h2
    rw [first_all h2])
theorem idxO_gives : Gives prog RG 80 cIdxO := gives (allCons out_gives allNil) (fun p => lIdxO (outB p.2.2.1 p.2.2.2.1) p.1) (by kernel_rfl) (by kernel_rfl) (by kernel_rfl) fun (r, l, L, a, ()) _ => idxO_vc r l L a

theorem anyO_vc (r : List Int) (l : List Node) (L : List (Int × Int)) (a : Int) : vc (EV [(80, cIdxO)]) noL Go.Proofs.Tryd.f54 cAnyO (r, l, L, a, ()) := (anyO_eq r l L a).mpr (by
  intro hs hs2
  simp only [true_and, and_true]
  rw [first_any (by decide)])
theorem anyO_gives : Gives prog RG 54 cAnyO := gives (allCons idxO_gives allNil) (fun _ => noL) (by kernel_rfl) (by kernel_rfl) (by kernel_rfl) fun (r, l, L, a, ()) _ => anyO_vc r l L a

theorem outs_lies {l : List Node} {a : Int} (h0 : 0 ≤ a) (h1 : a < l.length) (r : List Int) : (!!r.any (outB (longOf l) a)) = !(r.all fun p => lies p 0 (at_ (lensOf l) a - 1)) := by
  rw [Bool.not_not, List.any_eq_not_all_not]
  congr 2
  funext p
  simp only [outB, Bool.not_not, lies, lg_long h0 h1]
  congr 1
  simp only [decide_eq_decide]
  omega

theorem gatherP_vc (l : List Node) (a : Int) (r : List Int) : vcD (EV [(49, cOpen), (53, cMust), (54, cAnyO), (57, cAt)]) cC (lGatherP l a r) Go.Proofs.Tryd.f19 cGatherR (l, a, r, ()) := (gatherP_eq l a r).mpr (by
  intro e3 e2 e1 e0 _ hs
  have hrl : r.length ≤ 140737488355328 := hs.len
  refine ⟨fun h => ?_, fun h => ?_⟩
  · have h := ne_true.1 h
    simp only [e0, gatherAt, if_pos h]
  · have h := ne_false.1 h
    obtain ⟨h1, h2, h3⟩ := asked_ok h
    have ha := h3 a (by simp)
    have hw0 : gatherAt l a r = if 1048576 < r.length then ([], 3) else if !(r.all fun p => lies p 0 (at_ (lensOf l) a - 1)) then ([], 2) else (r.map fun p => (wayAt l a p).2, 0) := by
      unfold gatherAt
      rw [if_neg (by simp [h])]
    refine ⟨fun hb => ?_, fun hb => ?_⟩
    · have hb : ¬ (r.length : Int) ≤ 1048576 := by simpa [e1] using hb
      simp only [e0, hw0, if_pos (show 1048576 < r.length by omega)]
    · have hb : (r.length : Int) ≤ 1048576 := by simpa [e1] using hb
      rw [if_neg (by omega)] at hw0
      simp only [true_and, and_true]
      have he2 : e2 = !(r.all fun p => lies p 0 (at_ (lensOf l) a - 1)) := outs_lies ha.1 ha.2 r
      refine ⟨fun hc => ?_, fun hc => ?_⟩
      · simp only [e0, hw0, if_pos (he2 ▸ hc)]
      · have hall : (r.all fun p => lies p 0 (at_ (lensOf l) a - 1)) = true := by rw [he2] at hc; simpa using hc
        rw [if_neg (by rw [hall]; simp)] at hw0
        refine ⟨⟨(0, [], ()), rfl, rfl, by simp, by simp, by simp⟩, fun (i, out, ()) => ?_⟩
        dsimp only
        rintro ⟨q0, q1, rfl⟩
        obtain ⟨k, rfl⟩ := Int.eq_ofNat_of_zero_le q0
        simp only [Int.toNat_natCast]
        refine ⟨fun hk => ?_, fun hk => ?_⟩
        · have hk : k < r.length := by simpa using hk
          have hlie := lies_iff.1 (List.all_eq_true.1 hall (r.getD k 0) (by simp only [List.getD, List.getElem?_eq_getElem hk]; exact List.getElem_mem _))
          refine ⟨⟨q0, by omega⟩, ⟨⟨h1, h2⟩, ha, hlie.1, by omega⟩, ?_, ((k + 1 : Nat), _, ()), ?_, rfl, ⟨by omega, by dsimp only; omega, ?_⟩, by dsimp only; omega⟩
          · simp; omega
          · rw [w64_id (by omega) (by omega)]; rfl
          · dsimp only
            rw [Int.toNat_natCast, take_succ_getD hk 0, List.map_append]
            rfl
        · have hk : r.length ≤ k := by simpa using hk
          rw [List.take_of_length_le hk]
          simp only [e0, hw0])
theorem gatherP_gives : Gives prog RG 19 cGatherR := givesD (allCons open_gives (allCons must_gives (allCons anyO_gives (allCons at_gives allNil)))) (fun p => lGatherP p.1 p.2.1 p.2.2.1) (by kernel_rfl) (by kernel_rfl) (by kernel_rfl) fun (l, a, r, ()) _ => gatherP_vc l a r
end Go.Rp
end

section
set_option linter.unusedVariables false
set_option linter.unusedSimpArgs false
set_option maxRecDepth 100000
open Go Go.VT
namespace Go.Rp

theorem needed_gives : Gives prog RG 51 cNeeded := gives allNil (fun _ => noL) (by kernel_rfl) (by kernel_rfl) (by kernel_rfl) fun (x1, x2, x3, x4, x5, x6, w, ()) _ => (needed_eq x1 x2 x3 x4 x5 x6 w).mpr (by
  intro e0 _
  exact ⟨fun h => by simp [needOf, e0, eq_of_beq h], fun h => by
    have : ¬ x1 = 0 := by simpa using h
    simp [needOf, e0, this]⟩)
theorem leaf_gives : Gives prog RG 99 cLeaf := gives allNil (fun _ => noL) (by kernel_rfl) (by kernel_rfl) (by kernel_rfl) fun () _ => Eq.mpr (by kernel_rfl : vc (EV []) noL Go.Proofs.Tryd.f99 cLeaf () = ((([] : List Int), ()) = (([] : List Int), ()))) rfl
theorem inner_gives : Gives prog RG 100 cInner := gives allNil (fun _ => noL) (by kernel_rfl) (by kernel_rfl) (by kernel_rfl) fun (x1, x2, x3, x4, x5, x6, w, ()) _ => (inner_eq x1 x2 x3 x4 x5 x6 w).mpr (by
  intro e0 _
  exact ⟨fun h => by simp [partsOf, e0, eq_of_beq h], fun h => by
    have : ¬ x1 = 1 := by simpa using h
    simp [partsOf, e0, this]⟩)

theorem invR_ok : InvOk invR := by
  intro i name k hk
  unfold invR at hk
  simp only [Bool.cond_eq_ite] at hk
  split at hk
  · rename_i hc
    simp only [Bool.and_eq_true, beq_iff_eq] at hc
    obtain ⟨hi, rfl⟩ := hc
    have hi := Nat.eq_of_beq_eq_true hi
    subst hi
    simp only [List.mem_singleton] at hk
    subst hk
    refine inv_one (U := RU) (i := 2) (tys := [ints]) (fun x => (partsN x, ())) (fun _ => True) (fun x _ => ?_)
    cases x with
    | none =>
      refine ⟨112, true, [], (), 99, fun _ => ([], ()), none, rfl, trivial, rfl, fun v w => ?_, leaf_gives⟩
      kernel_rfl
    | some x =>
      refine ⟨114, true, nodeTys, (x.kind, x.a, x.b, x.from_, x.len, x.n, x.words, ()), 100, fun p => (partsOf ⟨p.1, p.2.1, p.2.2.1, p.2.2.2.1, p.2.2.2.2.1, p.2.2.2.2.2.1, p.2.2.2.2.2.2.1⟩, ()), none, rfl, trivial, rfl, fun v w => ?_, inner_gives⟩
      kernel_rfl
  · simp at hk
theorem noIt_ok : ItOk noIt := by intro f k kY mp h; cases h

theorem grow_get {α : Type} (g : List Int → α → Int) (l : List α) (i : Nat) (hi : i < l.length) (d : α) : (grow g l).getD i 0 = g ((grow g l).take i) (l.getD i d) := by
  have h1 : grow g (l.take (i + 1)) = (grow g l).take (i + 1) := grow_take g l (i + 1) (by omega)
  rw [take_succ_getD hi d, grow_snoc, grow_take g l i (by omega)] at h1
  have h2 : ((grow g l).take (i + 1)).getD i 0 = (grow g l).getD i 0 := by
    simp [List.getD_eq_getElem?_getD, List.getElem?_take]
  rw [← h2, ← h1, List.getD_eq_getElem?_getD, List.getElem?_append_right (by simp [grow_length]; omega)]
  simp [grow_length]
  rw [Nat.min_eq_left (by omega)]
  simp

theorem parts_ok {x : Node} {i : Nat} (h : fieldsOf x i = true) : ∀ k ∈ partsN (needOf x), 0 ≤ k ∧ k < i := by
  intro k hk
  unfold needOf at hk
  split at hk
  · simp [partsN] at hk
  · rename_i h0
    simp only [partsN, partsOf] at hk
    split at hk
    · rename_i h1
      have := (fields_ahead h).1 h1
      simp only [List.mem_cons, List.not_mem_nil, or_false] at hk
      rcases hk with rfl | rfl
      · exact this.1
      · exact this.2
    · simp only [List.mem_singleton] at hk
      subst hk
      exact fields_a h h0

theorem maxAt_snoc (d ks : List Int) (k : Int) : maxAt d (ks ++ [k]) = max (maxAt d ks) (at_ d k) := by simp [maxAt]

theorem maxAt_bound {d : List Int} {m : Int} (hm : 0 ≤ m) : ∀ {ks : List Int}, (∀ k ∈ ks, at_ d k ≤ m) → 0 ≤ maxAt d ks ∧ maxAt d ks ≤ m := by
  intro ks h
  have key : ∀ (ks : List Int) (z : Int), 0 ≤ z → z ≤ m → (∀ k ∈ ks, at_ d k ≤ m) → 0 ≤ ks.foldl (fun m k => max m (at_ d k)) z ∧ ks.foldl (fun m k => max m (at_ d k)) z ≤ m := by
    intro ks
    induction ks with
    | nil => intro z h1 h2 _; exact ⟨h1, h2⟩
    | cons x r ih =>
      intro z h1 h2 h3
      have := h3 x (by simp)
      exact ih (max z (at_ d x)) (by omega) (by omega) (fun k hk => h3 k (by simp [hk]))
  exact key ks 0 (by omega) hm h

/-- The depth of a node, by its parts. -/
theorem depth_parts {x : Node} {i : Nat} {d : List Int} (h : fieldsOf x i = true) (hd : ∀ k : Int, 0 ≤ k → k < i → 1 ≤ at_ d k ∧ at_ d k ≤ 4000) : w64 (maxAt d (partsN (needOf x)) + 1) = depthOf d x ∧ depthOf d x = maxAt d (partsN (needOf x)) + 1 := by
  unfold depthOf needOf
  by_cases h0 : x.kind = 0
  · rw [if_pos h0, if_pos h0]
    exact ⟨rfl, rfl⟩
  · rw [if_neg h0, if_neg h0]
    have ha := fields_a h h0
    have hda := hd x.a ha.1 ha.2
    simp only [partsN, partsOf]
    by_cases h1 : x.kind = 1
    · rw [if_pos h1, if_pos h1]
      have hb := ((fields_ahead h).1 h1).2
      have hdb := hd x.b hb.1 hb.2
      have hm : maxAt d [x.a, x.b] = max (at_ d x.a) (at_ d x.b) := by simp only [maxAt, List.foldl]; omega
      rw [hm]
      have e1 : w64 (at_ d x.a + 1) = at_ d x.a + 1 := w64_id (by omega) (by omega)
      have e2 : w64 (at_ d x.b + 1) = at_ d x.b + 1 := w64_id (by omega) (by omega)
      have e3 : w64 (max (at_ d x.a) (at_ d x.b) + 1) = max (at_ d x.a) (at_ d x.b) + 1 := w64_id (by omega) (by omega)
      rw [e1, e2, e3]
      omega
    · rw [if_neg h1, if_neg h1]
      have hm : maxAt d [x.a] = at_ d x.a := by simp only [maxAt, List.foldl]; omega
      rw [hm]
      exact ⟨rfl, w64_id (by omega) (by omega)⟩

theorem depths_take (l : List Node) (m : Nat) (h : m ≤ l.length) : depthsOf (l.take m) = (depthsOf l).take m := grow_take depthOf l m h
theorem depths_length (l : List Node) : (depthsOf l).length = l.length := grow_length depthOf l

theorem depth_bound {l : List Node} (hl : l.length ≤ 4000) (hv : validOf l = true) : ∀ i : Nat, i < l.length → 1 ≤ (depthsOf l).getD i 0 ∧ (depthsOf l).getD i 0 ≤ i + 1 := by
  intro i
  induction i using Nat.strongRecOn with
  | ind i ih =>
    intro hi
    rw [depths_grow, grow_get depthOf l i hi node0, ← depths_grow]
    have hf := valid_fields hv i hi
    have hb : ∀ k : Int, 0 ≤ k → k < i → 1 ≤ at_ ((depthsOf l).take i) k ∧ at_ ((depthsOf l).take i) k ≤ i := by
      intro k h0 h1
      rw [at_take h0 h1]
      have := ih k.toNat (by omega) (by omega)
      unfold at_
      omega
    rw [(depth_parts hf (fun k h0 h1 => by have := hb k h0 h1; omega)).2]
    have := maxAt_bound (d := (depthsOf l).take i) (m := i) (by omega) (ks := partsN (needOf (l.getD i node0))) (fun k hk => by
      obtain ⟨h0, h1⟩ := parts_ok hf k hk
      exact (hb k h0 h1).2)
    omega

theorem depths_bound {l : List Node} (hl : l.length ≤ 4000) (hv : validOf l = true) {i : Nat} (hi : i ≤ l.length) : ∀ k : Int, 0 ≤ k → k < i → 1 ≤ at_ (depthsOf (l.take i)) k ∧ at_ (depthsOf (l.take i)) k ≤ 4000 := by
  intro k h0 h1
  rw [depths_take l i hi, at_take h0 h1]
  have := depth_bound hl hv k.toNat (by omega)
  unfold at_
  omega

/-- A row of depths, one of them under way. -/
theorem row_get {D : List Int} {m : Int} {z : List Int} {i : Nat} (hi : D.length = i) : (D ++ m :: z).getD i 0 = m ∧ (∀ k : Int, 0 ≤ k → k < i → (D ++ m :: z).getD k.toNat 0 = at_ D k) ∧ ∀ v : Int, (D ++ m :: z).set i v = D ++ v :: z := by
  subst hi
  refine ⟨by simp [List.getD_eq_getElem?_getD], fun k h0 h1 => ?_, fun v => by simp⟩
  rw [List.getD_eq_getElem?_getD, List.getElem?_append_left (by omega)]
  unfold at_
  rw [List.getD_eq_getElem?_getD]

theorem depthP_vc (l : List Node) (a : Int) : vcD (EVx invR noIt [(49, cOpen), (51, cNeeded)]) cC (lDepthP l a) Go.Proofs.Tryd.f15 cDepthR (l, a, ()) := (depthP_eq l a).mpr (by
  intro e3 e2 e1 e0 _
  refine ⟨fun h => ?_, fun h => ?_⟩
  · have h := ne_true.1 h
    simp only [e2, depthAt, if_pos h]
  · have h := ne_false.1 h
    obtain ⟨h1, h2, h3⟩ := asked_ok h
    have ha := h3 a (by simp)
    have he1 : e1 = a + 1 := w64_id (by omega) (by omega)
    have he0 : e0 = List.replicate (a + 1).toNat 0 := by simp only [e0, he1]
    have he0l : e0.length = (a + 1).toNat := by rw [he0, List.length_replicate]
    have hz : ∀ i : Int, i ≤ a → List.replicate (a + 1 - i).toNat (0 : Int) = 0 :: List.replicate (a - i).toNat 0 := by
      intro i hi
      rw [show (a + 1 - i).toNat = (a - i).toNat + 1 by omega, List.replicate_succ]
    clear_value e0 e1
    subst he1
    simp -zeta only [true_and, and_true]
    refine ⟨by omega, ⟨(0, e0, ()), rfl, rfl, by simp, by dsimp only; omega, by rw [he0]; simp [depthsOf]⟩, fun (i, R, ()) => ?_⟩
    intro f4 f3 f2 f1 f0
    dsimp only
    rintro ⟨q0, q1, q2⟩
    obtain ⟨m, rfl⟩ := Int.eq_ofNat_of_zero_le q0
    have hf0 : f0 = l.getD m node0 := rfl
    have hf1 : f1 = a + 1 := by simp only [f1, he0l]; omega
    have hf2 : f2 = depthsOf (l.take m) := rfl
    have hf3 : f3 = partsN (needOf (l.getD m node0)) := rfl
    have hf4 : f4 = List.replicate (a - m).toNat 0 := rfl
    clear_value f0 f1 f2 f3 f4
    subst hf0 hf1 hf3 hf4
    rw [Int.toNat_natCast, ← hf2] at q2
    have hml : m ≤ l.length := by omega
    have hDl : f2.length = m := by rw [hf2, depths_length, List.length_take]; omega
    refine ⟨fun hlt => ?_, fun hge => ?_⟩
    · have hlt : (m : Int) < a + 1 := by simpa using hlt
      have hmn : m < l.length := by omega
      have hfd := valid_fields h2 m hmn
      have hbd := depths_bound h1 h2 hml
      rw [← hf2] at hbd
      refine ⟨⟨q0, by omega⟩, ⟨(0, R, ()), rfl, rfl, by simp, by simp, ?_⟩, fun (k, R', ()) => ?_⟩
      · rw [q2, hz m (by omega)]
        rfl
      · have heta : ∀ x : Node, Node.mk x.kind x.a x.b x.from_ x.len x.n x.words = x := fun _ => rfl
        simp only [heta]
        generalize hps : partsN (needOf (l.getD m node0)) = ps
        have hpo : ∀ k ∈ ps, 0 ≤ k ∧ k < m := by rw [← hps]; exact parts_ok hfd
        have hpl : ps.length ≤ 2 := by
          rw [← hps]
          unfold needOf
          split
          · simp [partsN]
          · simp only [partsN, partsOf]
            split <;> simp
        generalize hg6 : List.replicate (a - (m : Int)).toNat (0 : Int) = g6
        have hg6l : g6.length = (a - m).toNat := by rw [← hg6, List.length_replicate]
        rintro ⟨r0, r1, r2⟩
        obtain ⟨k, rfl⟩ := Int.eq_ofNat_of_zero_le r0
        simp only [Int.toNat_natCast] at r2 ⊢
        obtain ⟨w1, w2, w3⟩ := row_get (D := f2) (m := maxAt f2 (ps.take k)) (z := g6) hDl
        have hR'l : R'.length = a.toNat + 1 := by rw [r2]; simp [hDl, hg6l]; omega
        refine ⟨fun hk => ?_, fun hk => ?_⟩
        · have hk : k < ps.length := by simpa using hk
          have hpk := hpo (ps.getD k 0) (by simp only [List.getD, List.getElem?_eq_getElem hk]; exact List.getElem_mem _)
          refine ⟨⟨r0, by omega⟩, ⟨q0, by omega⟩, ⟨hpk.1, by omega⟩, ⟨q0, by omega⟩, ((k + 1 : Nat), _, ()), ?_, rfl, ⟨by omega, by dsimp only; omega, ?_⟩, by dsimp only; omega⟩
          · rw [w64_id (by omega) (by omega)]; rfl
          · dsimp only
            rw [Int.toNat_natCast, r2, w1, w2 _ hpk.1 hpk.2, w3, take_succ_getD hk 0, maxAt_snoc, imax]
        · have hk : ps.length ≤ k := by simpa using hk
          rw [List.take_of_length_le hk] at r2 w1 w3
          refine ⟨⟨q0, by omega⟩, ⟨q0, by omega⟩, ((m + 1 : Nat), _, ()), ?_, rfl, ⟨by omega, by dsimp only; omega, ?_⟩, by dsimp only; omega⟩
          · rw [w64_id (by omega) (by omega)]; rfl
          · dsimp only
            rw [Int.toNat_natCast, r2, w1, w3, take_succ_getD hmn node0, depths_grow, grow_snoc, ← depths_grow, ← hf2]
            have := (depth_parts (d := f2) hfd (fun k h0 h1 => hbd k h0 h1)).1
            rw [hps] at this
            rw [show IntKind.i64.wrap (maxAt f2 ps + 1) = depthOf f2 (l.getD m node0) from this, ← hg6, List.append_assoc]
            congr 2
            congr 1
            omega
    · have hge : ¬ (m : Int) < a + 1 := by simpa using hge
      have hm : (m : Int) = a + 1 := by omega
      have hR : R = depthsOf (l.take m) := by rw [q2, hf2, show (a + 1 - (m : Int)).toNat = 0 by omega]; simp
      refine ⟨⟨ha.1, by rw [hR, depths_length, List.length_take]; omega⟩, ?_⟩
      have : R.getD a.toNat 0 = at_ (depthsOf l) a := by
        rw [hR, depths_take l m hml]
        exact at_take ha.1 (by omega)
      simp only [e2, depthAt, h, ne_eq, not_true, if_false, this])
theorem depthP_gives : Gives prog RG 15 cDepthR := givesDX invR_ok noIt_ok (allCons open_gives (allCons needed_gives allNil)) (fun p => lDepthP p.1 p.2.1) (by kernel_rfl) (by kernel_rfl) (by kernel_rfl) fun (l, a, ()) _ => depthP_vc l a
end Go.Rp
end

section
set_option linter.unusedVariables false
set_option linter.unusedSimpArgs false
open Go Go.VT
namespace Go.Rp

theorem mget_mput (K : List (Int × Int)) (k v j : Int) : mget (fun x y => x == y) (mput (fun x y => x == y) K k v) j = if k = j then some v else mget (fun x y => x == y) K j := by
  induction K with
  | nil => 
    simp only [mput, mget, Bool.cond_eq_ite]
    by_cases h : k = j <;> simp [h]
  | cons p r ih =>
    obtain ⟨a, b⟩ := p
    simp only [mput, mget, Bool.cond_eq_ite]
    by_cases hk : a = k
    · subst hk
      by_cases h : a = j <;> simp [h, mget, Bool.cond_eq_ite]
    · by_cases h : a = j
      · subst h
        have : ¬ k = a := fun h => hk h.symm
        simp [hk, this, mget]
      · simp [hk, h, mget, ih]

theorem hasK_mput {K : List (Int × Int)} {k v j : Int} : hasK (mput (fun x y => x == y) K k v) j ↔ j = k ∨ hasK K j := by
  unfold hasK
  rw [mget_mput]
  by_cases h : k = j
  · simp [h]
  · have : ¬ j = k := fun hh => h hh.symm
    simp [h, this]

theorem lg_mput {K : List (Int × Int)} {k v j : Int} : lg (mput (fun x y => x == y) K k v) j = if j = k then v else lg K j := by
  unfold lg
  rw [mget_mput]
  by_cases h : k = j
  · simp [h]
  · have : ¬ j = k := fun hh => h hh.symm
    simp [h, this]

theorem hasK_iff {K : List (Int × Int)} {k : Int} : hasK K k ↔ k ∈ K.map (·.1) := by
  induction K with
  | nil => simp [hasK, mget]
  | cons p r ih =>
    obtain ⟨a, b⟩ := p
    unfold hasK at ih ⊢
    simp only [mget, Bool.cond_eq_ite, List.map_cons, List.mem_cons]
    by_cases h : a = k
    · simp [h]
    · have : ¬ k = a := fun hh => h hh.symm
      simp [h, this, ih]

theorem mput_new {K : List (Int × Int)} {k v : Int} (h : ¬ hasK K k) : mput (fun x y => x == y) K k v = K ++ [(k, v)] := by
  induction K with
  | nil => rfl
  | cons p r ih =>
    obtain ⟨a, b⟩ := p
    rw [hasK_iff] at h ih
    simp only [List.map_cons, List.mem_cons, not_or] at h
    have : ¬ a = k := fun hh => h.1 hh.symm
    simp only [mput, Bool.cond_eq_ite, beq_iff_eq, this, if_false, List.cons_append]
    rw [ih h.2]

/-- Numbers below n, each once, are at most n. -/
theorem nodup_below : ∀ (n : Nat) (l : List Int), l.Nodup → (∀ k ∈ l, 0 ≤ k ∧ k < n) → l.length ≤ n
  | 0, l, _, h => by
    cases l with
    | nil => simp
    | cons a r => have := h a (by simp); omega
  | n + 1, l, hn, h => by
    have h1 := nodup_below n (l.erase (n : Int)) (hn.erase _) (fun k hk => by
      have h2 := h k (List.mem_of_mem_erase hk)
      have h3 : k ≠ (n : Int) := (hn.mem_erase_iff.1 hk).1
      omega)
    rw [List.length_erase] at h1
    split at h1 <;> omega

def okStore (l : List Node) (r : List Int) : Prop := (l.length ≤ 4000 ∧ validOf l = true) ∧ ∀ x ∈ r, 0 ≤ x ∧ x < l.length

theorem partsL_ok {l : List Node} (hv : validOf l = true) {a : Int} (h0 : 0 ≤ a) (h1 : a < l.length) : ∀ k ∈ partsL (nat_ l a), 0 ≤ k ∧ k < a := by
  intro k hk
  have hf := valid_fields hv a.toNat (by omega)
  have := parts_ok hf k hk
  omega

theorem reach_in {l : List Node} {r : List Int} (h : okStore l r) {k : Int} (hk : Reach l r k) : 0 ≤ k ∧ k < l.length := by
  induction hk with
  | root a ha => exact h.2 a ha
  | step a k ha hk ih =>
    have := partsL_ok h.1.2 ih.1 ih.2 k hk
    omega

theorem partsL_len (x : Node) : (partsL x).length ≤ 2 := by
  unfold partsL needOf
  split
  · simp [partsN]
  · simp only [partsN, partsOf]
    split <;> simp

theorem wk_start (l : List Node) (r : List Int) : wkInv l r r [] :=
  ⟨fun k hk => .root k hk, by simp, fun k hk => by simp [hasK_iff] at hk, fun a ha => .inl ha, fun k hk => by simp [hasK_iff] at hk, by simp⟩

theorem wk_had {l : List Node} {r t : List Int} {K : List (Int × Int)} {k : Int} (h : wkInv l r (k :: t) K) (hk : hasK K k) : wkInv l r t K :=
  ⟨fun j hj => h.todos j (by simp [hj]), h.keys, h.reach, fun a ha => by
    rcases h.root a ha with h1 | h1
    · rcases List.mem_cons.1 h1 with rfl | h1
      · exact .inr hk
      · exact .inl h1
    · exact .inr h1, fun q hq j hj => by
    rcases h.parts q hq j hj with h1 | h1
    · rcases List.mem_cons.1 h1 with rfl | h1
      · exact .inr hk
      · exact .inl h1
    · exact .inr h1, by have := h.many; simp at this; omega⟩

theorem wk_new {l : List Node} {r t : List Int} {K : List (Int × Int)} {k : Int} (h : wkInv l r (k :: t) K) (hk : ¬ hasK K k) : wkInv l r (t ++ partsL (nat_ l k)) (mput (fun x y => x == y) K k 0) := by
  have hr := h.todos k (by simp)
  refine ⟨fun j hj => ?_, ?_, fun j hj => ?_, fun a ha => ?_, fun q hq j hj => ?_, ?_⟩
  · rcases List.mem_append.1 hj with h1 | h1
    · exact h.todos j (by simp [h1])
    · exact .step k j hr h1
  · rw [mput_new hk, List.map_append, List.nodup_append]
    refine ⟨h.keys, by simp, fun a ha b hb => ?_⟩
    simp at hb
    subst hb
    intro hab
    subst hab
    exact hk (hasK_iff.2 ha)
  · rcases hasK_mput.1 hj with rfl | h1
    · exact hr
    · exact h.reach j h1
  · rcases h.root a ha with h1 | h1
    · rcases List.mem_cons.1 h1 with rfl | h1
      · exact .inr (hasK_mput.2 (.inl rfl))
      · exact .inl (by simp [h1])
    · exact .inr (hasK_mput.2 (.inr h1))
  · rcases hasK_mput.1 hq with rfl | h1
    · exact .inl (by simp [hj])
    · rcases h.parts q h1 j hj with h2 | h2
      · rcases List.mem_cons.1 h2 with rfl | h2
        · exact .inr (hasK_mput.2 (.inl rfl))
        · exact .inl (by simp [h2])
      · exact .inr (hasK_mput.2 (.inr h2))
  · have := h.many
    have h2 := partsL_len (nat_ l k)
    rw [mput_new hk]
    simp at this ⊢
    omega

theorem wk_end {l : List Node} {r : List Int} {K : List (Int × Int)} (h : wkInv l r [] K) (k : Int) : hasK K k ↔ Reach l r k := by
  refine ⟨h.reach k, fun hr => ?_⟩
  induction hr with
  | root a ha => exact (h.root a ha).resolve_left (by simp)
  | step a k ha hk ih => exact (h.parts a ih k hk).resolve_left (by simp)

theorem wk_len {l : List Node} {r t : List Int} {K : List (Int × Int)} (ho : okStore l r) (h : wkInv l r t K) : K.length ≤ l.length := by
  have := nodup_below l.length (K.map (·.1)) h.keys (fun k hk => reach_in ho (h.reach k (hasK_iff.2 hk)))
  simpa using this

theorem wk_room {l : List Node} {r t : List Int} {K : List (Int × Int)} {k : Int} (ho : okStore l r) (h : wkInv l r (k :: t) K) (hk : ¬ hasK K k) : K.length < l.length := by
  have := wk_len ho (wk_new h hk)
  rw [mput_new hk] at this
  simp at this
  omega

theorem markAll_len (m : List Bool) (ks : List Int) : (markAll m ks).length = m.length := by
  unfold markAll
  induction ks generalizing m with
  | nil => rfl
  | cons k r ih => simp [ih]

theorem set_get (m : List Bool) (q j : Nat) : (m.set q true).getD j false = true ↔ m.getD j false = true ∨ (q = j ∧ j < m.length) := by
  simp only [List.getD_eq_getElem?_getD, List.getElem?_set]
  by_cases h : q = j
  · subst h
    by_cases h2 : q < m.length
    · simp [h2]
    · simp [h2]
  · simp [h]

theorem markAll_get (m : List Bool) (ks : List Int) (j : Nat) : (markAll m ks).getD j false = true ↔ m.getD j false = true ∨ ((∃ k ∈ ks, k.toNat = j) ∧ j < m.length) := by
  unfold markAll
  induction ks generalizing m with
  | nil => simp
  | cons k r ih =>
    simp only [List.foldl_cons]
    rw [ih, set_get, List.length_set]
    simp only [List.mem_cons, exists_eq_or_imp]
    constructor
    · rintro ((h | h) | h)
      · exact .inl h
      · exact .inr ⟨.inl h.1, h.2⟩
      · exact .inr ⟨.inr h.1, h.2⟩
    · rintro (h | ⟨h | h, h2⟩)
      · exact .inl (.inl h)
      · exact .inl (.inr ⟨h, h2⟩)
      · exact .inr ⟨h, h2⟩

theorem markDown_iff {l : List Node} {r : List Int} (ho : okStore l r) : ∀ (i : Nat) (m : List Bool), i ≤ l.length → m.length = l.length →
    (∀ j : Nat, m.getD j false = true → Reach l r j) → (∀ a ∈ r, m.getD a.toNat false = true) → (∀ j : Nat, i ≤ j → m.getD j false = true → ∀ k ∈ partsL (l.getD j node0), m.getD k.toNat false = true) →
    ∀ j : Nat, j < l.length → ((markDown l i m).getD j false = true ↔ Reach l r j)
  | 0, m, _, hm, h1, h2, h3 => fun j hj => by
    refine ⟨h1 j, fun hr => ?_⟩
    have key : ∀ k : Int, Reach l r k → m.getD k.toNat false = true := by
      intro k hk
      induction hk with
      | root a ha => exact h2 a ha
      | step a k ha hk ih => exact h3 a.toNat (by omega) ih k hk
    have := key j hr
    show m.getD j false = true
    simpa using this
  | i + 1, m, hi, hm, h1, h2, h3 => by
    simp only [markDown]
    refine markDown_iff ho i _ (by omega) ?_ ?_ ?_ ?_
    · split
      · rw [markAll_len, hm]
      · exact hm
    · intro j hj
      split at hj
      · rename_i hb
        rcases (markAll_get _ _ _).1 hj with h | ⟨⟨k, hk, hkj⟩, hjl⟩
        · exact h1 j h
        · have hp := partsL_ok ho.1.2 (a := (i : Int)) (by omega) (by omega) k (by simpa [nat_] using hk)
          have : k = (j : Int) := by omega
          subst this
          exact .step i j (h1 i hb) (by simpa [nat_] using hk)
      · exact h1 j hj
    · intro a ha
      split
      · exact (markAll_get _ _ _).2 (.inl (h2 a ha))
      · exact h2 a ha
    · intro j hj
      split
      · rename_i hb
        intro hj2 k hk
        rcases (markAll_get _ _ _).1 hj2 with h | ⟨⟨q, hq, hqj⟩, hjl⟩
        · by_cases hji : j = i
          · subst hji
            have hp := partsL_ok ho.1.2 (a := (j : Int)) (by omega) (by omega) k (by simpa [nat_] using hk)
            exact (markAll_get _ _ _).2 (.inr ⟨⟨k, hk, rfl⟩, by omega⟩)
          · exact (markAll_get _ _ _).2 (.inl (h3 j (by omega) h k hk))
        · have hp := partsL_ok ho.1.2 (a := (i : Int)) (by omega) (by omega) q (by simpa [nat_] using hq)
          omega
      · rename_i hb
        intro hj2 k hk
        by_cases hji : j = i
        · subst hji; exact absurd hj2 hb
        · exact h3 j (by omega) hj2 k hk

theorem needs_iff {l : List Node} {r : List Int} (ho : okStore l r) {j : Nat} (hj : j < l.length) : (needs l r).getD j false = true ↔ Reach l r j := by
  unfold needs
  refine markDown_iff ho l.length _ (Nat.le_refl _) (by rw [markAll_len]; simp) (fun j hj => ?_) (fun a ha => ?_) (fun j hj h => ?_) j hj
  · rcases (markAll_get _ _ _).1 hj with h | ⟨⟨k, hk, hkj⟩, _⟩
    · rw [List.getD_eq_getElem?_getD, List.getElem?_replicate] at h
      split at h <;> simp at h
    · have := ho.2 k hk
      have : k = (j : Int) := by omega
      subst this
      exact .root _ hk
  · have := ho.2 a ha
    exact (markAll_get _ _ _).2 (.inr ⟨⟨a, ha, rfl⟩, by simp; omega⟩)
  · exfalso
    rcases (markAll_get _ _ _).1 h with h | ⟨_, h⟩
    · rw [List.getD_eq_getElem?_getD, List.getElem?_replicate] at h
      split at h <;> simp at h
    · simp at h; omega

theorem keepGo_len (m : List Bool) (l : List Node) : ∀ i, (keepGo m l i).2.length = i
  | 0 => rfl
  | i + 1 => by
    simp only [keepGo]
    split <;> simp [keepGo_len m l i]

theorem keepGo_outLen (m : List Bool) (l : List Node) : ∀ i, (keepGo m l i).1.length ≤ i
  | 0 => by simp [keepGo]
  | i + 1 => by
    have := keepGo_outLen m l i
    simp only [keepGo]
    split <;> simp <;> omega

theorem at_app {a b : List Int} {k : Int} (h : k.toNat < a.length) : at_ (a ++ b) k = at_ a k := by
  unfold at_
  rw [List.getD_eq_getElem?_getD, List.getD_eq_getElem?_getD, List.getElem?_append_left h]

theorem keepGo_at (m : List Bool) (l : List Node) (i : Nat) {k : Int} (h0 : 0 ≤ k) (h : k < i) : at_ (keepGo m l (i + 1)).2 k = at_ (keepGo m l i).2 k := by
  simp only [keepGo]
  split <;> exact at_app (by rw [keepGo_len]; omega)

theorem cp_start {l : List Node} {r : List Int} {K : List (Int × Int)} (ho : okStore l r) (h : wkInv l r [] K) : cpInv l r 0 K :=
  ⟨wk_end h, fun k hk hr => by have := reach_in ho hr; omega⟩

theorem cp_skip {l : List Node} {r : List Int} {K : List (Int × Int)} {i : Nat} (ho : okStore l r) (hi : i < l.length) (h : cpInv l r i K) (hn : ¬ hasK K i) :
    cpInv l r (i + 1) K ∧ (keepGo (needs l r) l (i + 1)).1 = (keepGo (needs l r) l i).1 := by
  have hr : ¬ Reach l r i := fun hh => hn ((h.keys i).2 hh)
  have hb : ¬ (needs l r).getD i false = true := fun hh => hr ((needs_iff ho hi).1 hh)
  refine ⟨⟨h.keys, fun k hk hkr => ?_⟩, by simp only [keepGo, if_neg hb]⟩
  have h0 := reach_in ho hkr
  by_cases hki : k = i
  · subst hki; exact absurd hkr hr
  · rw [keepGo_at _ _ _ h0.1 (by omega)]
    exact h.num k (by omega) hkr

theorem cp_step {l : List Node} {r : List Int} {K : List (Int × Int)} {i : Nat} (ho : okStore l r) (hi : i < l.length) (h : cpInv l r i K) (hn : hasK K i) :
    cpInv l r (i + 1) (mput (fun x y => x == y) K i ((keepGo (needs l r) l i).1.length : Nat)) ∧
    (keepGo (needs l r) l (i + 1)).1 = (keepGo (needs l r) l i).1 ++ [renum (keepGo (needs l r) l i).2 (l.getD i node0)] ∧
    (∀ k ∈ partsL (l.getD i node0), lg (mput (fun x y => x == y) K i ((keepGo (needs l r) l i).1.length : Nat)) k = at_ (keepGo (needs l r) l i).2 k) := by
  have hr : Reach l r i := (h.keys i).1 hn
  have hb : (needs l r).getD i false = true := (needs_iff ho hi).2 hr
  refine ⟨⟨fun k => ?_, fun k hk hkr => ?_⟩, by simp only [keepGo, if_pos hb], fun k hk => ?_⟩
  · rw [hasK_mput, h.keys]
    constructor
    · rintro (rfl | hh)
      · exact hr
      · exact hh
    · exact .inr
  · have h0 := reach_in ho hkr
    rw [lg_mput]
    by_cases hki : k = i
    · subst hki
      rw [if_pos rfl]
      simp only [keepGo, if_pos hb, at_]
      rw [List.getD_eq_getElem?_getD, List.getElem?_append_right (by rw [keepGo_len]; simp)]
      simp [keepGo_len]
    · rw [if_neg hki, keepGo_at _ _ _ h0.1 (by omega)]
      exact h.num k (by omega) hkr
  · have hp := partsL_ok ho.1.2 (a := (i : Int)) (by omega) (by omega) k (by simpa [nat_] using hk)
    rw [lg_mput, if_neg (by omega)]
    exact h.num k (by omega) (.step i k hr (by simpa [nat_] using hk))

theorem cp_end {l : List Node} {r : List Int} {K : List (Int × Int)} (ho : okStore l r) (h : cpInv l r l.length K) : ∀ a ∈ r, lg K a = at_ (keptOf l r).2 a :=
  fun a ha => h.num a (ho.2 a ha).2 (.root a ha)
end Go.Rp
end

section
set_option linter.unusedVariables false
set_option maxRecDepth 100000
open Go Go.VT
namespace Go.Rp

theorem concat_eq (l : List (List Int)) : vc (EV [(83, cGrow)]) (lConcat l) Go.Proofs.Tryd.f81 cConcat (l, ()) = (Small RU (Sigma.mk (Ty.slice (25 : Nat) (Ty.slice (3 : Nat) (Ty.int IntKind.i64))) l) →
  (∃ (p : Int × Int × Unit),
      l = l ∧
        l = l ∧
          (↑(List.length l) : Int) = (↑(List.length l) : Int) ∧
            (0 : Int) = p.fst ∧ (0 : Int) = p.snd.fst ∧ (0 : Int) ≤ p.fst ∧ p.fst ≤ (↑(List.length l) : Int) ∧ p.snd.fst = (↑(List.length (List.flatten (List.take (Int.toNat p.fst) l))) : Int)) ∧
    ∀ (p : Int × Int × Unit),
      let e1 : Bool := decide (p.fst < (↑(List.length l) : Int));
      let e0 : Int := IntKind.wrap IntKind.i64 (p.snd.fst + (↑(List.length (List.getD l (Int.toNat p.fst) [])) : Int));
      (0 : Int) ≤ p.fst ∧ p.fst ≤ (↑(List.length l) : Int) ∧ p.snd.fst = (↑(List.length (List.flatten (List.take (Int.toNat p.fst) l))) : Int) →
        (e1 = true →
            ((0 : Int) ≤ p.fst ∧ p.fst < (↑(List.length l) : Int)) ∧
              (decide (e0 < (0 : Int)) = true → Bad (7 : Nat) (1 : Nat)) ∧
                (decide (e0 < (0 : Int)) = false →
                  ∃ (p' : Int × Int × Unit),
                    l = l ∧
                      l = l ∧
                        (↑(List.length l) : Int) = (↑(List.length l) : Int) ∧
                          IntKind.wrap IntKind.i64 (p.fst + (1 : Int)) = p'.fst ∧
                            e0 = p'.snd.fst ∧
                              ((0 : Int) ≤ p'.fst ∧ p'.fst ≤ (↑(List.length l) : Int) ∧ p'.snd.fst = (↑(List.length (List.flatten (List.take (Int.toNat p'.fst) l))) : Int)) ∧
                                List.length l - Int.toNat p'.fst < List.length l - Int.toNat p.fst)) ∧
          (e1 = false →
            ((0 : Int) ≤ p.snd.fst ∧ p.snd.fst ≤ (17592186044416 : Int)) ∧
              (∃ (p_1 : Int × List Int × Unit),
                  l = l ∧
                    l = l ∧
                      (↑(List.length l) : Int) = (↑(List.length l) : Int) ∧
                        p.fst = p.fst ∧
                          p.snd.fst = p.snd.fst ∧
                            e1 = e1 ∧
                              l = l ∧
                                (↑(List.length l) : Int) = (↑(List.length l) : Int) ∧
                                  (0 : Int) = p_1.fst ∧ [] = p_1.snd.fst ∧ (0 : Int) ≤ p_1.fst ∧ p_1.fst ≤ (↑(List.length l) : Int) ∧ p_1.snd.fst = List.flatten (List.take (Int.toNat p_1.fst) l)) ∧
                ∀ (p_1 : Int × List Int × Unit),
                  let e2 : List Int := List.getD l (Int.toNat p_1.fst) [];
                  let e1_1 : Bool := decide (p_1.fst < (↑(List.length l) : Int));
                  let e0 : Bool := e1;
                  (0 : Int) ≤ p_1.fst ∧ p_1.fst ≤ (↑(List.length l) : Int) ∧ p_1.snd.fst = List.flatten (List.take (Int.toNat p_1.fst) l) →
                    (e1_1 = true →
                        ((0 : Int) ≤ p_1.fst ∧ p_1.fst < (↑(List.length l) : Int)) ∧
                          (List.length p_1.snd.fst + List.length e2) * (8 : Nat) ≤ (140737488355328 : Nat) ∧
                            ∃ (p' : Int × List Int × Unit),
                              l = l ∧
                                l = l ∧
                                  (↑(List.length l) : Int) = (↑(List.length l) : Int) ∧
                                    p.fst = p.fst ∧
                                      p.snd.fst = p.snd.fst ∧
                                        e0 = e0 ∧
                                          l = l ∧
                                            (↑(List.length l) : Int) = (↑(List.length l) : Int) ∧
                                              IntKind.wrap IntKind.i64 (p_1.fst + (1 : Int)) = p'.fst ∧
                                                p_1.snd.fst ++ e2 = p'.snd.fst ∧
                                                  ((0 : Int) ≤ p'.fst ∧ p'.fst ≤ (↑(List.length l) : Int) ∧ p'.snd.fst = List.flatten (List.take (Int.toNat p'.fst) l)) ∧
                                                    List.length l - Int.toNat p'.fst < List.length l - Int.toNat p_1.fst) ∧
                      (e1_1 = false → (p_1.snd.fst, ()) = (List.flatten l, ())))) := by kernel_rfl

theorem united_eq (l : List (List Int)) : vc (EV [(81, cConcat)]) noL Go.Proofs.Tryd.f65 cUnited (l, ()) = (Small RU (Sigma.mk (Ty.slice (25 : Nat) (Ty.slice (3 : Nat) (Ty.int IntKind.i64))) l) → List.length (List.flatten l) ≤ (17592186044416 : Nat) ∧ (List.flatten l, ()) = (List.flatten l, ())) := by kernel_rfl

end Go.Rp
end

section
set_option linter.unusedVariables false
set_option linter.unusedSimpArgs false
set_option maxRecDepth 100000
open Go Go.VT
namespace Go.Rp

theorem flat_le {l : List (List Int)} (m : Nat) : (l.take m).flatten.length ≤ l.flatten.length := by
  conv => rhs; rw [← List.take_append_drop m l, List.flatten_append]
  simp

theorem flat_take {l : List (List Int)} {m : Nat} (h : m < l.length) : (l.take (m + 1)).flatten = (l.take m).flatten ++ l.getD m [] := by
  rw [take_succ_getD h []]
  simp

theorem concat_vc (l : List (List Int)) (hp : l.flatten.length ≤ 17592186044416) : vc (EV [(83, cGrow)]) (lConcat l) Go.Proofs.Tryd.f81 cConcat (l, ()) := (concat_eq l).mpr (by
  intro hs
  have hlen := hs.len
  simp only [most] at hlen
  refine ⟨⟨(0, 0, ()), by trivial, by trivial, by trivial, rfl, rfl, Int.le_refl _, by dsimp only; omega, by simp⟩, ?_⟩
  rintro ⟨i, z, ⟨⟩⟩ e1 e0 ⟨h0, h1, h2⟩
  dsimp only at h0 h1 h2 e1 e0 ⊢
  obtain ⟨m, rfl⟩ := Int.eq_ofNat_of_zero_le h0
  simp -zeta only [Int.toNat_natCast] at h2 e0 ⊢
  have hm1 := flat_le (l := l) m
  refine ⟨fun hlt => ?_, fun hge => ?_⟩
  · have hlt := of_decide_eq_true hlt
    have hm : m < l.length := by omega
    have hf := flat_take hm
    have hm2 := flat_le (l := l) (m + 1)
    rw [hf, List.length_append] at hm2
    have he0 : e0 = ((l.take (m + 1)).flatten.length : Nat) := by
      show IntKind.i64.wrap (z + ((l.getD m []).length : Nat)) = _
      rw [h2, hf, List.length_append, w64_id (by omega) (by omega)]
      omega
    refine ⟨⟨h0, hlt⟩, fun hb => ?_, fun _ => ⟨((m + 1 : Nat), e0, ()), by trivial, by trivial, by trivial, ?_, rfl, ⟨by omega, by dsimp only; omega, ?_⟩, by dsimp only; omega⟩⟩
    · have := of_decide_eq_true hb
      omega
    · rw [w64_id (by omega) (by omega)]; rfl
    · dsimp only
      rw [Int.toNat_natCast]; exact he0
  · have hge := of_decide_eq_false hge
    have hm : m = l.length := by omega
    subst hm
    rw [List.take_length] at h2
    refine ⟨⟨by omega, by omega⟩, ⟨(0, [], ()), by trivial, by trivial, by trivial, by trivial, by trivial, by trivial, by trivial, by trivial, rfl, rfl, Int.le_refl _, by dsimp only; omega, by simp⟩, ?_⟩
    rintro ⟨j, out, ⟨⟩⟩ ⟨k0, k1, k2⟩
    dsimp only at k0 k1 k2 ⊢
    obtain ⟨q, rfl⟩ := Int.eq_ofNat_of_zero_le k0
    simp -zeta only [Int.toNat_natCast] at k2 ⊢
    refine ⟨fun hlt => ?_, fun hge => ?_⟩
    · have hlt := of_decide_eq_true hlt
      have hq : q < l.length := by omega
      have hf := flat_take hq
      have hm2 := flat_le (l := l) (q + 1)
      rw [hf, List.length_append] at hm2
      refine ⟨⟨k0, hlt⟩, ?_, ((q + 1 : Nat), out ++ l.getD q [], ()), by trivial, by trivial, by trivial, by trivial, by trivial, by trivial, by trivial, by trivial, ?_, rfl, ⟨by omega, by dsimp only; omega, ?_⟩, by dsimp only; omega⟩
      · rw [k2]
        show (_ + (l.getD q []).length) * 8 ≤ _
        omega
      · rw [w64_id (by omega) (by omega)]; rfl
      · dsimp only
        rw [Int.toNat_natCast, hf, k2]
    · have hge := of_decide_eq_false hge
      have hq : q = l.length := by omega
      subst hq
      rw [k2, List.take_length])
theorem concat_gives : Gives prog RG 81 cConcat := gives (allCons grow_gives allNil) (fun p => lConcat p.1) (by kernel_rfl) (by kernel_rfl) (by kernel_rfl) fun (l, ()) hp => concat_vc l hp
theorem united_gives : Gives prog RG 65 cUnited := gives (allCons concat_gives allNil) (fun _ => noL) (by kernel_rfl) (by kernel_rfl) (by kernel_rfl) fun (l, ()) hp => (united_eq l).mpr fun _ => ⟨hp, rfl⟩
end Go.Rp
end

section
set_option linter.unusedVariables false
set_option maxRecDepth 100000
open Go Go.VT
namespace Go.Rp

theorem keepP_eq (l : List Node) (r : List Int) : vcD (EVx invR noIt [(49, cOpen), (51, cNeeded), (59, cOwnS), (65, cUnited)]) cC (lKeep l r) Go.Proofs.Tryd.f26 cKeepP (l, r, ()) = (let e0 : List Node × List Int × Int × Unit := ((keepAt l r).fst, (keepAt l r).snd.fst, (keepAt l r).snd.snd, ());
  Small RU (Sigma.mk (Ty.slice (56 : Nat) (Ty.user (0 : Nat))) l) →
  Small RU (Sigma.mk (Ty.slice (3 : Nat) (Ty.int IntKind.i64)) r) →
    ((askedOf l r != (0 : Int)) = true → ([], [], askedOf l r, ()) = e0) ∧
      ((askedOf l r != (0 : Int)) = false →
        (List.length l ≤ (4000000 : Nat) ∧ ∀ (x : Node), List.Mem x l → List.length x.words ≤ (4000000 : Nat)) ∧
          List.length (List.flatten [r]) ≤ (17592186044416 : Nat) ∧
            (∃ (p : List Int × List (Int × Int) × Unit),
                l = l ∧
                  r = r ∧
                    List.flatten [r] = List.flatten [r] ∧
                      List.flatten [r] = p.fst ∧ l = l ∧ (0 : Int) = (0 : Int) ∧ longOf l = longOf l ∧ l = l ∧ [] = p.snd.fst ∧ [r] = [r] ∧ wkInv l r p.fst p.snd.fst) ∧
              ∀ (p : List Int × List (Int × Int) × Unit),
                let e4 : Nat := (3 : Nat) * (List.length l - List.length p.snd.fst) + List.length p.fst;
                let e3 : Bool := Option.isSome (mget (fun (x y : Int) => x == y) p.snd.fst (List.getD p.fst (0 : Nat) (0 : Int)));
                let e2 : Node := Node.mk (0 : Int) (0 : Int) (0 : Int) (0 : Int) (0 : Int) (0 : Int) [];
                let e1 : Bool := decide ((↑(List.length p.fst) : Int) > (0 : Int));
                let e0_1 : Node := List.getD l (Int.toNat (List.getD p.fst (0 : Nat) (0 : Int))) e2;
                wkInv l r p.fst p.snd.fst →
                  (e1 = true →
                      ((0 : Int) ≤ (0 : Int) ∧ (0 : Int) < (↑(List.length p.fst) : Int)) ∧
                        ((0 : Int) ≤ (1 : Int) ∧ (1 : Int) ≤ (↑(List.length p.fst) : Int)) ∧
                          (e3 = true →
                              ∃ (p' : List Int × List (Int × Int) × Unit),
                                l = l ∧
                                  r = r ∧
                                    List.flatten [r] = List.flatten [r] ∧
                                      List.drop (1 : Nat) p.fst = p'.fst ∧
                                        l = l ∧
                                          (0 : Int) = (0 : Int) ∧
                                            longOf l = longOf l ∧
                                              l = l ∧
                                                p.snd.fst = p'.snd.fst ∧ [r] = [r] ∧ wkInv l r p'.fst p'.snd.fst ∧ (3 : Nat) * (List.length l - List.length p'.snd.fst) + List.length p'.fst < e4) ∧
                            (e3 = false →
                              ((0 : Int) ≤ List.getD p.fst (0 : Nat) (0 : Int) ∧ List.getD p.fst (0 : Nat) (0 : Int) < (↑(List.length l) : Int)) ∧
                                True ∧
                                  List.length (List.flatten [List.drop (1 : Nat) p.fst, partsN (needOf (Node.mk e0_1.kind e0_1.a e0_1.b e0_1.from_ e0_1.len e0_1.n e0_1.words))]) ≤
                                      (17592186044416 : Nat) ∧
                                    ∃ (p' : List Int × List (Int × Int) × Unit),
                                      l = l ∧
                                        r = r ∧
                                          List.flatten [r] = List.flatten [r] ∧
                                            List.flatten [List.drop (1 : Nat) p.fst, partsN (needOf (Node.mk e0_1.kind e0_1.a e0_1.b e0_1.from_ e0_1.len e0_1.n e0_1.words))] = p'.fst ∧
                                              l = l ∧
                                                (0 : Int) = (0 : Int) ∧
                                                  longOf l = longOf l ∧
                                                    l = l ∧
                                                      mput (fun (x y : Int) => x == y) p.snd.fst (List.getD p.fst (0 : Nat) (0 : Int)) (0 : Int) = p'.snd.fst ∧
                                                        [r] = [r] ∧ wkInv l r p'.fst p'.snd.fst ∧ (3 : Nat) * (List.length l - List.length p'.snd.fst) + List.length p'.fst < e4)) ∧
                    (e1 = false →
                      (∃ (p_1 : Int × List (Int × Int) × List Node × Unit),
                          l = l ∧
                            r = r ∧
                              List.flatten [r] = List.flatten [r] ∧
                                p.fst = p.fst ∧
                                  e1 = e1 ∧
                                    (↑(List.length l) : Int) = (↑(List.length l) : Int) ∧
                                      (0 : Int) = p_1.fst ∧
                                        l = l ∧
                                          (0 : Int) = (0 : Int) ∧
                                            longOf l = longOf l ∧
                                              l = l ∧
                                                p.snd.fst = p_1.snd.fst ∧
                                                  [r] = [r] ∧
                                                    [] = p_1.snd.snd.fst ∧
                                                      (0 : Int) ≤ p_1.fst ∧
                                                        p_1.fst ≤ (↑(List.length l) : Int) ∧
                                                          cpInv l r (Int.toNat p_1.fst) p_1.snd.fst ∧ p_1.snd.snd.fst = (keepGo (needs l r) l (Int.toNat p_1.fst)).fst) ∧
                        ∀ (p_1 : Int × List (Int × Int) × List Node × Unit),
                          let e7 : Bool := !Option.isSome (mget (fun (x y : Int) => x == y) p_1.snd.fst p_1.fst);
                          let e6 : Nat := List.length p_1.snd.snd.fst;
                          let e5 : Nat := List.length l - Int.toNat p_1.fst;
                          let e4 : Bool := decide (p_1.fst < (↑(List.length l) : Int));
                          let e3 : Int := IntKind.wrap IntKind.i64 (p_1.fst + (1 : Int));
                          let e2_1 : Bool := e1;
                          let e1 : List (Int × Int) := mput (fun (x y : Int) => x == y) p_1.snd.fst p_1.fst (↑e6 : Int);
                          let e0_2 : Node := List.getD l (Int.toNat p_1.fst) e2;
                          (0 : Int) ≤ p_1.fst ∧ p_1.fst ≤ (↑(List.length l) : Int) ∧ cpInv l r (Int.toNat p_1.fst) p_1.snd.fst ∧ p_1.snd.snd.fst = (keepGo (needs l r) l (Int.toNat p_1.fst)).fst →
                            (e4 = true →
                                ((0 : Int) ≤ p_1.fst ∧ p_1.fst < (↑(List.length l) : Int)) ∧
                                  (e7 = true →
                                      ∃ (p' : Int × List (Int × Int) × List Node × Unit),
                                        l = l ∧
                                          r = r ∧
                                            List.flatten [r] = List.flatten [r] ∧
                                              p.fst = p.fst ∧
                                                e2_1 = e2_1 ∧
                                                  (↑(List.length l) : Int) = (↑(List.length l) : Int) ∧
                                                    e3 = p'.fst ∧
                                                      l = l ∧
                                                        (0 : Int) = (0 : Int) ∧
                                                          longOf l = longOf l ∧
                                                            l = l ∧
                                                              p_1.snd.fst = p'.snd.fst ∧
                                                                [r] = [r] ∧
                                                                  p_1.snd.snd.fst = p'.snd.snd.fst ∧
                                                                    ((0 : Int) ≤ p'.fst ∧
                                                                        p'.fst ≤ (↑(List.length l) : Int) ∧
                                                                          cpInv l r (Int.toNat p'.fst) p'.snd.fst ∧ p'.snd.snd.fst = (keepGo (needs l r) l (Int.toNat p'.fst)).fst) ∧
                                                                      List.length l - Int.toNat p'.fst < e5) ∧
                                    (e7 = false →
                                      ((e0_2.kind != (0 : Int)) = true →
                                          ((e0_2.kind == (1 : Int)) = true →
                                              (e6 +
                                                      List.length
                                                        [Node.mk e0_2.kind (Option.getD (mget (fun (x y : Int) => x == y) e1 e0_2.a) (0 : Int))
                                                            (Option.getD (mget (fun (x y : Int) => x == y) e1 e0_2.b) (0 : Int)) e0_2.from_ e0_2.len e0_2.n e0_2.words]) *
                                                    (72 : Nat) ≤
                                                  (140737488355328 : Nat) ∧
                                                ∃ (p' : Int × List (Int × Int) × List Node × Unit),
                                                  l = l ∧
                                                    r = r ∧
                                                      List.flatten [r] = List.flatten [r] ∧
                                                        p.fst = p.fst ∧
                                                          e2_1 = e2_1 ∧
                                                            (↑(List.length l) : Int) = (↑(List.length l) : Int) ∧
                                                              e3 = p'.fst ∧
                                                                l = l ∧
                                                                  (0 : Int) = (0 : Int) ∧
                                                                    longOf l = longOf l ∧
                                                                      l = l ∧
                                                                        e1 = p'.snd.fst ∧
                                                                          [r] = [r] ∧
                                                                            p_1.snd.snd.fst ++
                                                                                  [Node.mk e0_2.kind (Option.getD (mget (fun (x y : Int) => x == y) e1 e0_2.a) (0 : Int))
                                                                                      (Option.getD (mget (fun (x y : Int) => x == y) e1 e0_2.b) (0 : Int)) e0_2.from_ e0_2.len e0_2.n e0_2.words] =
                                                                                p'.snd.snd.fst ∧
                                                                              ((0 : Int) ≤ p'.fst ∧
                                                                                  p'.fst ≤ (↑(List.length l) : Int) ∧
                                                                                    cpInv l r (Int.toNat p'.fst) p'.snd.fst ∧ p'.snd.snd.fst = (keepGo (needs l r) l (Int.toNat p'.fst)).fst) ∧
                                                                                List.length l - Int.toNat p'.fst < e5) ∧
                                            ((e0_2.kind == (1 : Int)) = false →
                                              (e6 + List.length [Node.mk e0_2.kind (Option.getD (mget (fun (x y : Int) => x == y) e1 e0_2.a) (0 : Int)) e0_2.b e0_2.from_ e0_2.len e0_2.n e0_2.words]) *
                                                    (72 : Nat) ≤
                                                  (140737488355328 : Nat) ∧
                                                ∃ (p' : Int × List (Int × Int) × List Node × Unit),
                                                  l = l ∧
                                                    r = r ∧
                                                      List.flatten [r] = List.flatten [r] ∧
                                                        p.fst = p.fst ∧
                                                          e2_1 = e2_1 ∧
                                                            (↑(List.length l) : Int) = (↑(List.length l) : Int) ∧
                                                              e3 = p'.fst ∧
                                                                l = l ∧
                                                                  (0 : Int) = (0 : Int) ∧
                                                                    longOf l = longOf l ∧
                                                                      l = l ∧
                                                                        e1 = p'.snd.fst ∧
                                                                          [r] = [r] ∧
                                                                            p_1.snd.snd.fst ++
                                                                                  [Node.mk e0_2.kind (Option.getD (mget (fun (x y : Int) => x == y) e1 e0_2.a) (0 : Int)) e0_2.b e0_2.from_ e0_2.len
                                                                                      e0_2.n e0_2.words] =
                                                                                p'.snd.snd.fst ∧
                                                                              ((0 : Int) ≤ p'.fst ∧
                                                                                  p'.fst ≤ (↑(List.length l) : Int) ∧
                                                                                    cpInv l r (Int.toNat p'.fst) p'.snd.fst ∧ p'.snd.snd.fst = (keepGo (needs l r) l (Int.toNat p'.fst)).fst) ∧
                                                                                List.length l - Int.toNat p'.fst < e5)) ∧
                                        ((e0_2.kind != (0 : Int)) = false →
                                          ((e0_2.kind == (1 : Int)) = true →
                                              (e6 + List.length [Node.mk e0_2.kind e0_2.a (Option.getD (mget (fun (x y : Int) => x == y) e1 e0_2.b) (0 : Int)) e0_2.from_ e0_2.len e0_2.n e0_2.words]) *
                                                    (72 : Nat) ≤
                                                  (140737488355328 : Nat) ∧
                                                ∃ (p' : Int × List (Int × Int) × List Node × Unit),
                                                  l = l ∧
                                                    r = r ∧
                                                      List.flatten [r] = List.flatten [r] ∧
                                                        p.fst = p.fst ∧
                                                          e2_1 = e2_1 ∧
                                                            (↑(List.length l) : Int) = (↑(List.length l) : Int) ∧
                                                              e3 = p'.fst ∧
                                                                l = l ∧
                                                                  (0 : Int) = (0 : Int) ∧
                                                                    longOf l = longOf l ∧
                                                                      l = l ∧
                                                                        e1 = p'.snd.fst ∧
                                                                          [r] = [r] ∧
                                                                            p_1.snd.snd.fst ++
                                                                                  [Node.mk e0_2.kind e0_2.a (Option.getD (mget (fun (x y : Int) => x == y) e1 e0_2.b) (0 : Int)) e0_2.from_ e0_2.len
                                                                                      e0_2.n e0_2.words] =
                                                                                p'.snd.snd.fst ∧
                                                                              ((0 : Int) ≤ p'.fst ∧
                                                                                  p'.fst ≤ (↑(List.length l) : Int) ∧
                                                                                    cpInv l r (Int.toNat p'.fst) p'.snd.fst ∧ p'.snd.snd.fst = (keepGo (needs l r) l (Int.toNat p'.fst)).fst) ∧
                                                                                List.length l - Int.toNat p'.fst < e5) ∧
                                            ((e0_2.kind == (1 : Int)) = false →
                                              (e6 + List.length [Node.mk e0_2.kind e0_2.a e0_2.b e0_2.from_ e0_2.len e0_2.n e0_2.words]) * (72 : Nat) ≤ (140737488355328 : Nat) ∧
                                                ∃ (p' : Int × List (Int × Int) × List Node × Unit),
                                                  l = l ∧
                                                    r = r ∧
                                                      List.flatten [r] = List.flatten [r] ∧
                                                        p.fst = p.fst ∧
                                                          e2_1 = e2_1 ∧
                                                            (↑(List.length l) : Int) = (↑(List.length l) : Int) ∧
                                                              e3 = p'.fst ∧
                                                                l = l ∧
                                                                  (0 : Int) = (0 : Int) ∧
                                                                    longOf l = longOf l ∧
                                                                      l = l ∧
                                                                        e1 = p'.snd.fst ∧
                                                                          [r] = [r] ∧
                                                                            p_1.snd.snd.fst ++ [Node.mk e0_2.kind e0_2.a e0_2.b e0_2.from_ e0_2.len e0_2.n e0_2.words] = p'.snd.snd.fst ∧
                                                                              ((0 : Int) ≤ p'.fst ∧
                                                                                  p'.fst ≤ (↑(List.length l) : Int) ∧
                                                                                    cpInv l r (Int.toNat p'.fst) p'.snd.fst ∧ p'.snd.snd.fst = (keepGo (needs l r) l (Int.toNat p'.fst)).fst) ∧
                                                                                List.length l - Int.toNat p'.fst < e5)))) ∧
                              (e4 = false →
                                (∃ (p_2 : Int × List Int × Unit),
                                    l = l ∧
                                      r = r ∧
                                        List.flatten [r] = List.flatten [r] ∧
                                          p.fst = p.fst ∧
                                            e2_1 = e2_1 ∧
                                              (↑(List.length l) : Int) = (↑(List.length l) : Int) ∧
                                                p_1.fst = p_1.fst ∧
                                                  e4 = e4 ∧
                                                    r = r ∧
                                                      (↑(List.length r) : Int) = (↑(List.length r) : Int) ∧
                                                        (0 : Int) = p_2.fst ∧
                                                          l = l ∧
                                                            (0 : Int) = (0 : Int) ∧
                                                              longOf l = longOf l ∧
                                                                l = l ∧
                                                                  p_1.snd.fst = p_1.snd.fst ∧
                                                                    [r] = [r] ∧
                                                                      p_1.snd.snd.fst = p_1.snd.snd.fst ∧
                                                                        [] = p_2.snd.fst ∧
                                                                          (0 : Int) ≤ p_2.fst ∧
                                                                            p_2.fst ≤ (↑(List.length r) : Int) ∧ p_2.snd.fst = List.map (at_ (keptOf l r).snd) (List.take (Int.toNat p_2.fst) r)) ∧
                                  ∀ (p_2 : Int × List Int × Unit),
                                    let e3 : Bool := decide (p_2.fst < (↑(List.length r) : Int));
                                    let e2 : Bool := e4;
                                    let e1 : Bool := e2_1;
                                    let e0_3 : List Int := [Option.getD (mget (fun (x y : Int) => x == y) p_1.snd.fst (List.getD r (Int.toNat p_2.fst) (0 : Int))) (0 : Int)];
                                    (0 : Int) ≤ p_2.fst ∧ p_2.fst ≤ (↑(List.length r) : Int) ∧ p_2.snd.fst = List.map (at_ (keptOf l r).snd) (List.take (Int.toNat p_2.fst) r) →
                                      (e3 = true →
                                          ((0 : Int) ≤ p_2.fst ∧ p_2.fst < (↑(List.length r) : Int)) ∧
                                            (List.length p_2.snd.fst + List.length e0_3) * (8 : Nat) ≤ (140737488355328 : Nat) ∧
                                              ∃ (p' : Int × List Int × Unit),
                                                l = l ∧
                                                  r = r ∧
                                                    List.flatten [r] = List.flatten [r] ∧
                                                      p.fst = p.fst ∧
                                                        e1 = e1 ∧
                                                          (↑(List.length l) : Int) = (↑(List.length l) : Int) ∧
                                                            p_1.fst = p_1.fst ∧
                                                              e2 = e2 ∧
                                                                r = r ∧
                                                                  (↑(List.length r) : Int) = (↑(List.length r) : Int) ∧
                                                                    IntKind.wrap IntKind.i64 (p_2.fst + (1 : Int)) = p'.fst ∧
                                                                      l = l ∧
                                                                        (0 : Int) = (0 : Int) ∧
                                                                          longOf l = longOf l ∧
                                                                            l = l ∧
                                                                              p_1.snd.fst = p_1.snd.fst ∧
                                                                                [r] = [r] ∧
                                                                                  p_1.snd.snd.fst = p_1.snd.snd.fst ∧
                                                                                    p_2.snd.fst ++ e0_3 = p'.snd.fst ∧
                                                                                      ((0 : Int) ≤ p'.fst ∧
                                                                                          p'.fst ≤ (↑(List.length r) : Int) ∧
                                                                                            p'.snd.fst = List.map (at_ (keptOf l r).snd) (List.take (Int.toNat p'.fst) r)) ∧
                                                                                        List.length r - Int.toNat p'.fst < List.length r - Int.toNat p_2.fst) ∧
                                        (e3 = false → (p_1.snd.snd.fst, p_2.snd.fst, (0 : Int), ()) = e0))))) := by kernel_rfl

end Go.Rp
end

section
set_option linter.unusedVariables false
set_option linter.unusedSimpArgs false
set_option maxRecDepth 100000
open Go Go.VT
namespace Go.Rp

theorem renum_eq (num : List Int) (x : Node) : ∀ (K : List (Int × Int)), (∀ k ∈ partsL x, lg K k = at_ num k) →
    renum num x = ⟨x.kind, if x.kind = 0 then x.a else lg K x.a, if x.kind = 1 then lg K x.b else x.b, x.from_, x.len, x.n, x.words⟩ := by
  intro K h
  unfold renum
  by_cases h0 : x.kind = 0
  · have : ¬ x.kind = 1 := by omega
    simp [h0, this]
  · have ha : lg K x.a = at_ num x.a := h x.a (by
      unfold partsL needOf
      rw [if_neg h0]
      simp only [partsN, partsOf]
      split <;> simp)
    by_cases h1 : x.kind = 1
    · have hb : lg K x.b = at_ num x.b := h x.b (by
        unfold partsL needOf
        rw [if_neg h0]
        simp [partsN, partsOf, h1])
      simp [h1, ha, hb]
    · simp [h0, h1, ha]

theorem keepP_vc (l : List Node) (r : List Int) (hp : r.length + l.length ≤ 17592186044416) : vcD (EVx invR noIt [(49, cOpen), (51, cNeeded), (59, cOwnS), (65, cUnited)]) cC (lKeep l r) Go.Proofs.Tryd.f26 cKeepP (l, r, ()) := (keepP_eq l r).mpr (by
  intro e0 hs1 hs2
  refine ⟨fun h => ?_, fun h => ?_⟩
  · have h := ne_true.1 h
    simp only [e0, keepAt, if_pos h]
  · have h := ne_false.1 h
    obtain ⟨h1, h2, h3⟩ := asked_ok h
    have ho : okStore l r := ⟨⟨h1, h2⟩, h3⟩
    have he0 : e0 = ((keptOf l r).1, r.map (at_ (keptOf l r).2), 0, ()) := by
      show ((keepAt l r).1, (keepAt l r).2.1, (keepAt l r).2.2, ()) = _
      unfold keepAt
      rw [if_neg (by simp [h])]
    refine ⟨few_valid h, by simp; omega, ⟨(r, [], ()), by trivial, by trivial, by trivial, by simp, by trivial, by trivial, by trivial, by trivial, rfl, by trivial, wk_start l r⟩, ?_⟩
    rintro ⟨todo, K, ⟨⟩⟩ e4 e3 e2 e1 e0' hw
    dsimp -zeta only at hw ⊢
    have hK := wk_len ho hw
    rcases todo with _ | ⟨k, t⟩
    · refine ⟨fun hgt => absurd (of_decide_eq_true hgt) (by simp), fun _ => ?_⟩
      refine ⟨⟨(0, K, [], ()), by trivial, by trivial, by trivial, by trivial, by trivial, rfl, by trivial, by trivial, by trivial, by trivial, rfl, by trivial, by trivial, rfl, Int.le_refl _, by dsimp only; omega, cp_start ho hw, rfl⟩, ?_⟩
      rintro ⟨i, K1, out, ⟨⟩⟩ e7 e6 e5 e4' e3' e2' e1' e0'' ⟨k0, k1, k2, k3⟩
      dsimp -zeta only at k0 k1 k2 k3 ⊢
      obtain ⟨m, rfl⟩ := Int.eq_ofNat_of_zero_le k0
      simp only [Int.toNat_natCast] at k2 k3
      have hol : out.length ≤ m := by rw [k3]; exact keepGo_outLen _ _ _
      have he3' : ∀ h : m < l.length, e3' = ((m + 1 : Nat) : Int) := fun h => by
        show IntKind.i64.wrap ((m : Int) + 1) = _
        rw [w64_id (by omega) (by omega)]; rfl
      refine ⟨fun hlt => ?_, fun hge => ?_⟩
      · have hlt := of_decide_eq_true hlt
        have hm : m < l.length := by dsimp only at hlt; omega
        have hsz : (out.length + 1) * 72 ≤ 140737488355328 := by omega
        refine ⟨⟨k0, by omega⟩, fun hb => ?_, fun hb => ?_⟩
        · have hb : ¬ hasK K1 m := fun hh => by
            have : e7 = !true := by show (!(mget (fun x y => x == y) K1 (m : Int)).isSome) = !true; rw [show (mget (fun x y => x == y) K1 (m : Int)).isSome = true from hh]
            rw [this] at hb; cases hb
          obtain ⟨c1, c2⟩ := cp_skip ho hm k2 hb
          exact ⟨((m + 1 : Nat), K1, out, ()), by trivial, by trivial, by trivial, by trivial, by trivial, by trivial, he3' hm, by trivial, by trivial, by trivial, by trivial, rfl, by trivial, rfl,
            ⟨by omega, by dsimp only; omega, c1, by rw [k3]; exact c2.symm⟩, by show l.length - (m + 1) < l.length - m; omega⟩
        · have hb : hasK K1 m := by
            show (mget (fun x y => x == y) K1 (m : Int)).isSome = true
            have : (!(mget (fun x y => x == y) K1 (m : Int)).isSome) = false := hb
            simpa using this
          obtain ⟨c1, c2, c3⟩ := cp_step ho hm k2 hb
          rw [← k3] at c1 c2 c3
          have hren := renum_eq (keepGo (needs l r) l m).2 (l.getD m node0) _ c3
          have c2n : ∀ N : Node, N = renum (keepGo (needs l r) l m).2 (l.getD m node0) → out ++ [N] = (keepGo (needs l r) l (m + 1)).1 := fun N hN => by rw [c2, hN]
          have hX : e0'' = l.getD m node0 := rfl
          have hL : ∀ k : Int, (mget (fun x y => x == y) (mput (fun x y => x == y) K1 (m : Int) ((out.length : Nat) : Int)) k).getD 0 = lg (mput (fun x y => x == y) K1 (m : Int) ((out.length : Nat) : Int)) k := fun _ => rfl
          rw [← hX] at hren c2n
          have hlt2 : l.length - (m + 1) < l.length - m := by omega
          refine ⟨fun q0 => ⟨fun q1 => ?_, fun q1 => ?_⟩, fun q0 => ⟨fun q1 => ?_, fun q1 => ?_⟩⟩
          · have q0 := ne_true.1 q0
            have q1 := eq_of_beq q1
            exact ⟨hsz, ((m + 1 : Nat), _, _, ()), by trivial, by trivial, by trivial, by trivial, by trivial, by trivial, he3' hm, by trivial, by trivial, by trivial, by trivial, rfl, by trivial, rfl,
              ⟨by omega, by dsimp only; omega, c1, c2n _ (by rw [hren, if_neg q0, if_pos q1]; rfl)⟩, hlt2⟩
          · have q0 := ne_true.1 q0
            have q1 : ¬ e0''.kind = 1 := by simpa using q1
            exact ⟨hsz, ((m + 1 : Nat), _, _, ()), by trivial, by trivial, by trivial, by trivial, by trivial, by trivial, he3' hm, by trivial, by trivial, by trivial, by trivial, rfl, by trivial, rfl,
              ⟨by omega, by dsimp only; omega, c1, c2n _ (by rw [hren, if_neg q0, if_neg q1]; rfl)⟩, hlt2⟩
          · have q0 := ne_false.1 q0
            have q1 := eq_of_beq q1
            omega
          · have q0 := ne_false.1 q0
            have q1 : ¬ e0''.kind = 1 := by simpa using q1
            exact ⟨hsz, ((m + 1 : Nat), _, _, ()), by trivial, by trivial, by trivial, by trivial, by trivial, by trivial, he3' hm, by trivial, by trivial, by trivial, by trivial, rfl, by trivial, rfl,
              ⟨by omega, by dsimp only; omega, c1, c2n _ (by rw [hren, if_pos q0, if_neg q1])⟩, hlt2⟩
      · have hge := of_decide_eq_false hge
        have hm : m = l.length := by dsimp only at hge; omega
        subst hm
        refine ⟨⟨(0, [], ()), by trivial, by trivial, by trivial, by trivial, by trivial, by trivial, by trivial, by trivial, by trivial, by trivial, rfl, by trivial, by trivial, by trivial, by trivial, by trivial, by trivial, by trivial, rfl, Int.le_refl _, by dsimp only; omega, rfl⟩, ?_⟩
        rintro ⟨j, ns, ⟨⟩⟩ f3 f2 f1 f0 ⟨j0, j1, j2⟩
        dsimp only at j0 j1 j2 ⊢
        obtain ⟨q, rfl⟩ := Int.eq_ofNat_of_zero_le j0
        simp only [Int.toNat_natCast] at j2
        have hnl : ns.length ≤ q := by rw [j2]; simp; omega
        refine ⟨fun hlt => ?_, fun hge => ?_⟩
        · have hlt := of_decide_eq_true hlt
          have hq : q < r.length := by omega
          have hv : (mget (fun x y => x == y) K1 (r.getD q 0)).getD 0 = at_ (keptOf l r).2 (r.getD q 0) := cp_end ho k2 _ (by
            rw [List.getD_eq_getElem?_getD, List.getElem?_eq_getElem hq]
            exact List.getElem_mem hq)
          refine ⟨⟨j0, hlt⟩, ?_, ((q + 1 : Nat), _, ()), by trivial, by trivial, by trivial, by trivial, by trivial, by trivial, by trivial, by trivial, by trivial, by trivial, ?_, by trivial, by trivial, by trivial, by trivial, by trivial, by trivial, by trivial, rfl, ⟨by omega, by dsimp only; omega, ?_⟩, by show r.length - (q + 1) < r.length - q; omega⟩
          · show (ns.length + 1) * 8 ≤ _
            have hs := hs2.len
            omega
          · rw [w64_id (by omega) (by omega)]; rfl
          · show ns ++ [(mget (fun x y => x == y) K1 (r.getD q 0)).getD 0] = (r.take (q + 1)).map (at_ (keptOf l r).2)
            rw [j2, hv, take_succ_getD hq 0, List.map_append]
            rfl
        · have hge := of_decide_eq_false hge
          have hq : q = r.length := by omega
          subst hq
          rw [he0, j2, k3, List.take_length]
          rfl
    · refine ⟨fun _ => ⟨⟨Int.le_refl _, by simp⟩, ⟨by omega, by simp; omega⟩, fun hb => ?_, fun hb => ?_⟩, fun hge => absurd (of_decide_eq_false hge) (by simp)⟩
      · exact ⟨(t, K, ()), by trivial, by trivial, by trivial, rfl, by trivial, by trivial, by trivial, by trivial, rfl, by trivial, wk_had hw hb, by show 3 * (l.length - K.length) + t.length < 3 * (l.length - K.length) + (t.length + 1); omega⟩
      · have hb : ¬ hasK K k := fun hh => by rw [show e3 = true from hh] at hb; cases hb
        have hin := reach_in ho (hw.todos k (by simp))
        have hroom := wk_room ho hw hb
        have hm := hw.many
        have hnew := wk_new hw hb
        have hpl := partsL_len (nat_ l k)
        have heq : List.flatten [t, partsN (needOf ⟨e0'.kind, e0'.a, e0'.b, e0'.from_, e0'.len, e0'.n, e0'.words⟩)] = t ++ partsL (nat_ l k) := by simp; rfl
        simp only [List.length_cons] at hm
        refine ⟨hin, by trivial, ?_, (t ++ partsL (nat_ l k), mput (fun x y => x == y) K k 0, ()), by trivial, by trivial, by trivial, heq, by trivial, by trivial, by trivial, by trivial, ?_⟩
        · show (List.flatten [t, partsN (needOf ⟨e0'.kind, e0'.a, e0'.b, e0'.from_, e0'.len, e0'.n, e0'.words⟩)]).length ≤ _
          rw [heq, List.length_append]
          omega
        · refine ⟨rfl, by trivial, hnew, ?_⟩
          show 3 * (l.length - (mput (fun x y => x == y) K k 0).length) + (t ++ partsL (nat_ l k)).length < 3 * (l.length - K.length) + (t.length + 1)
          rw [mput_new hb]
          simp
          omega)
theorem keepP_gives : Gives prog RG 26 cKeepP := givesDX invR_ok noIt_ok (allCons open_gives (allCons needed_gives (allCons ownS_gives (allCons united_gives allNil)))) (fun p => lKeep p.1 p.2.1) (by kernel_rfl) (by kernel_rfl) (by kernel_rfl) fun (l, r, ()) hp => keepP_vc l r hp
end Go.Rp
end

section
set_option linter.unusedVariables false
set_option maxRecDepth 100000
open Go Go.VT
namespace Go.Rp

theorem piecesE_eq (l : List Node) (L : List (Int × Int)) (a from_ many add : Int) : vc (EV []) noL Go.Proofs.Tryd.f52 cPiecesE (l, L, a, from_, many, add, ()) = (let e0 : List Node × List (Int × Int) × Int × Int × Int × Int × Unit := (l, L, a, from_, many, add, ());
  Small RU (Sigma.mk (Ty.slice (56 : Nat) (Ty.user (0 : Nat))) l) → e0 = e0) := by kernel_rfl

theorem evenW_eq (a from_ many add : Int) (l : List Node) (L : List (Int × Int)) (out : List Int) (st : Int) : vc ((EVy recYl (some cEvenY) []).set 79 ((cEvenW ghW).below mFlatW (mFlatW (a, from_, many, add, l, L, out, st, ())))) noL Go.Proofs.Tryd.f79 (cEvenW ghW) (a, from_, many, add, l, L, out, st, ()) = (let e5 : Evn := evnY (a, from_, many, add, out, l, L, st, ());
  let e4 : List Node × List (Int × Int) × Int := Evn.off (Evn.mk l L out) (Piece.mk a from_ many add);
  let e3 : List Node × List (Int × Int) × List Int × Int × Unit := (l, L, out, st, ());
  let e2 : Int × List Node × List (Int × Int) × List Int × Int × Unit := (add, e3);
  let e1 : Node := List.getD l (Int.toNat a) (Node.mk (0 : Int) (0 : Int) (0 : Int) (0 : Int) (0 : Int) (0 : Int) []);
  let e0 : Int :=
  if
      (if IntKind.wrap IntKind.i64 (Option.getD (mget (fun (x y : Int) => x == y) L e1.a) (0 : Int) - from_) < many then
          IntKind.wrap IntKind.i64 (Option.getD (mget (fun (x y : Int) => x == y) L e1.a) (0 : Int) - from_)
        else many) >
        (0 : Int) then
    if IntKind.wrap IntKind.i64 (Option.getD (mget (fun (x y : Int) => x == y) L e1.a) (0 : Int) - from_) < many then
      IntKind.wrap IntKind.i64 (Option.getD (mget (fun (x y : Int) => x == y) L e1.a) (0 : Int) - from_)
    else many
  else (0 : Int);
  Small RU (Sigma.mk (Ty.slice (3 : Nat) (Ty.int IntKind.i64)) out) →
  Small RU (Sigma.mk (Ty.slice (56 : Nat) (Ty.user (0 : Nat))) l) →
    ((0 : Int) ≤ a ∧ a < (↑(List.length l) : Int)) ∧
      ((many == (0 : Int)) = true →
          Evn.full (evnW (a, from_, many, e2)) = false ∧
            (true, e3) =
              (!Evn.many (evnW (a, from_, many, e2)), (evnW (a, from_, many, e2)).l, (evnW (a, from_, many, e2)).L, (evnW (a, from_, many, e2)).r,
                if Evn.many (evnW (a, from_, many, e2)) = true then (1 : Int) else (0 : Int), ())) ∧
        ((many == (0 : Int)) = false →
          ((e1.kind == (0 : Int)) = true →
              ((((List.length l ≤ (4000 : Nat) ∧ validOf l = true ∧ L = longOf l) ∧
                      ((0 : Int) ≤ a ∧ a < (↑(List.length l) : Int)) ∧
                        (nat_ l a).kind = (0 : Int) ∧ isWord add = true ∧ (0 : Int) < many ∧ many ≤ (1048576 : Int) ∧ (0 : Int) ≤ from_ ∧ from_ + many ≤ at_ (lensOf l) a) ∧
                    List.length out ≤ (4001 : Nat) ∧ st = (0 : Int)) ∧
                  True) ∧
                (Evn.full e5 = true → Evn.full (evnW (a, from_, many, e2)) = true ∧ (9 : Int) = (9 : Int) ∧ True) ∧
                  (Evn.full e5 = false →
                    Evn.full (evnW (a, from_, many, e2)) = false ∧
                      (!Evn.many e5, e4.fst, e4.snd.fst, out ++ [e4.snd.snd], if Evn.many e5 = true then (1 : Int) else (0 : Int), ()) =
                        (!Evn.many (evnW (a, from_, many, e2)), (evnW (a, from_, many, e2)).l, (evnW (a, from_, many, e2)).L, (evnW (a, from_, many, e2)).r,
                          if Evn.many (evnW (a, from_, many, e2)) = true then (1 : Int) else (0 : Int), ()))) ∧
            ((e1.kind == (0 : Int)) = false →
              ((e1.kind == (2 : Int)) = true →
                  ((((((((List.length l ≤ (4000 : Nat) ∧ validOf l = true ∧ L = longOf l) ∧
                                  ((0 : Int) ≤ e1.a ∧ e1.a < (↑(List.length l) : Int)) ∧
                                    isWord add = true ∧
                                      (0 : Int) ≤ many ∧
                                        ((0 : Int) < many → (0 : Int) ≤ IntKind.wrap IntKind.i64 (from_ + e1.from_) ∧ IntKind.wrap IntKind.i64 (from_ + e1.from_) + many ≤ at_ (lensOf l) e1.a)) ∧
                                List.length out ≤ (4001 : Nat) ∧ st = (0 : Int)) ∧
                              mFlatW (e1.a, IntKind.wrap IntKind.i64 (from_ + e1.from_), many, e2) < mFlatW (a, from_, many, e2)) ∧
                            True) ∧
                          True) ∧
                        True) ∧
                      True) ∧
                    (Evn.full (evnW (e1.a, IntKind.wrap IntKind.i64 (from_ + e1.from_), many, e2)) = true → Evn.full (evnW (a, from_, many, e2)) = true ∧ (9 : Int) = (9 : Int) ∧ True) ∧
                      (Evn.full (evnW (e1.a, IntKind.wrap IntKind.i64 (from_ + e1.from_), many, e2)) = false →
                        Evn.full (evnW (a, from_, many, e2)) = false ∧
                          (!Evn.many (evnW (e1.a, IntKind.wrap IntKind.i64 (from_ + e1.from_), many, e2)), (evnW (e1.a, IntKind.wrap IntKind.i64 (from_ + e1.from_), many, e2)).l,
                              (evnW (e1.a, IntKind.wrap IntKind.i64 (from_ + e1.from_), many, e2)).L, (evnW (e1.a, IntKind.wrap IntKind.i64 (from_ + e1.from_), many, e2)).r,
                              if Evn.many (evnW (e1.a, IntKind.wrap IntKind.i64 (from_ + e1.from_), many, e2)) = true then (1 : Int) else (0 : Int), ()) =
                            (!Evn.many (evnW (a, from_, many, e2)), (evnW (a, from_, many, e2)).l, (evnW (a, from_, many, e2)).L, (evnW (a, from_, many, e2)).r,
                              if Evn.many (evnW (a, from_, many, e2)) = true then (1 : Int) else (0 : Int), ()))) ∧
                ((e1.kind == (2 : Int)) = false →
                  ((e1.kind == (3 : Int)) = true →
                      ((((((((List.length l ≤ (4000 : Nat) ∧ validOf l = true ∧ L = longOf l) ∧
                                      ((0 : Int) ≤ e1.a ∧ e1.a < (↑(List.length l) : Int)) ∧
                                        isWord (IntKind.wrap IntKind.i64 (IntKind.wrap IntKind.i32 (IntKind.wrap IntKind.i64 (add + e1.n)))) = true ∧
                                          (0 : Int) ≤ many ∧ ((0 : Int) < many → (0 : Int) ≤ from_ ∧ from_ + many ≤ at_ (lensOf l) e1.a)) ∧
                                    List.length out ≤ (4001 : Nat) ∧ st = (0 : Int)) ∧
                                  mFlatW (e1.a, from_, many, IntKind.wrap IntKind.i64 (IntKind.wrap IntKind.i32 (IntKind.wrap IntKind.i64 (add + e1.n))), e3) < mFlatW (a, from_, many, e2)) ∧
                                True) ∧
                              True) ∧
                            True) ∧
                          True) ∧
                        (Evn.full (evnW (e1.a, from_, many, IntKind.wrap IntKind.i64 (IntKind.wrap IntKind.i32 (IntKind.wrap IntKind.i64 (add + e1.n))), e3)) = true →
                            Evn.full (evnW (a, from_, many, e2)) = true ∧ (9 : Int) = (9 : Int) ∧ True) ∧
                          (Evn.full (evnW (e1.a, from_, many, IntKind.wrap IntKind.i64 (IntKind.wrap IntKind.i32 (IntKind.wrap IntKind.i64 (add + e1.n))), e3)) = false →
                            Evn.full (evnW (a, from_, many, e2)) = false ∧
                              (!Evn.many (evnW (e1.a, from_, many, IntKind.wrap IntKind.i64 (IntKind.wrap IntKind.i32 (IntKind.wrap IntKind.i64 (add + e1.n))), e3)),
                                  (evnW (e1.a, from_, many, IntKind.wrap IntKind.i64 (IntKind.wrap IntKind.i32 (IntKind.wrap IntKind.i64 (add + e1.n))), e3)).l,
                                  (evnW (e1.a, from_, many, IntKind.wrap IntKind.i64 (IntKind.wrap IntKind.i32 (IntKind.wrap IntKind.i64 (add + e1.n))), e3)).L,
                                  (evnW (e1.a, from_, many, IntKind.wrap IntKind.i64 (IntKind.wrap IntKind.i32 (IntKind.wrap IntKind.i64 (add + e1.n))), e3)).r,
                                  if Evn.many (evnW (e1.a, from_, many, IntKind.wrap IntKind.i64 (IntKind.wrap IntKind.i32 (IntKind.wrap IntKind.i64 (add + e1.n))), e3)) = true then (1 : Int)
                                  else (0 : Int),
                                  ()) =
                                (!Evn.many (evnW (a, from_, many, e2)), (evnW (a, from_, many, e2)).l, (evnW (a, from_, many, e2)).L, (evnW (a, from_, many, e2)).r,
                                  if Evn.many (evnW (a, from_, many, e2)) = true then (1 : Int) else (0 : Int), ()))) ∧
                    ((e1.kind == (3 : Int)) = false →
                      ((!Evn.many (evnW (e1.a, from_, e0, e2))) = true →
                          ((((((((List.length l ≤ (4000 : Nat) ∧ validOf l = true ∧ L = longOf l) ∧
                                          ((0 : Int) ≤ e1.a ∧ e1.a < (↑(List.length l) : Int)) ∧
                                            isWord add = true ∧ (0 : Int) ≤ e0 ∧ ((0 : Int) < e0 → (0 : Int) ≤ from_ ∧ from_ + e0 ≤ at_ (lensOf l) e1.a)) ∧
                                        List.length out ≤ (4001 : Nat) ∧ st = (0 : Int)) ∧
                                      mFlatW (e1.a, from_, e0, e2) < mFlatW (a, from_, many, e2)) ∧
                                    True) ∧
                                  True) ∧
                                True) ∧
                              True) ∧
                            (Evn.full (evnW (e1.a, from_, e0, e2)) = true → Evn.full (evnW (a, from_, many, e2)) = true ∧ (9 : Int) = (9 : Int) ∧ True) ∧
                              (Evn.full (evnW (e1.a, from_, e0, e2)) = false →
                                  (((((((List.length (evnW (e1.a, from_, e0, e2)).l ≤ (4000 : Nat) ∧
                                                  validOf (evnW (e1.a, from_, e0, e2)).l = true ∧ (evnW (e1.a, from_, e0, e2)).L = longOf (evnW (e1.a, from_, e0, e2)).l) ∧
                                                ((0 : Int) ≤ e1.b ∧ e1.b < (↑(List.length (evnW (e1.a, from_, e0, e2)).l) : Int)) ∧
                                                  isWord add = true ∧
                                                    (0 : Int) ≤ IntKind.wrap IntKind.i64 (many - e0) ∧
                                                      ((0 : Int) < IntKind.wrap IntKind.i64 (many - e0) →
                                                        (0 : Int) ≤
                                                            IntKind.wrap IntKind.i64
                                                              (IntKind.wrap IntKind.i64 (from_ + e0) - Option.getD (mget (fun (x y : Int) => x == y) (evnW (e1.a, from_, e0, e2)).L e1.a) (0 : Int)) ∧
                                                          IntKind.wrap IntKind.i64
                                                                (IntKind.wrap IntKind.i64 (from_ + e0) - Option.getD (mget (fun (x y : Int) => x == y) (evnW (e1.a, from_, e0, e2)).L e1.a) (0 : Int)) +
                                                              IntKind.wrap IntKind.i64 (many - e0) ≤
                                                            at_ (lensOf (evnW (e1.a, from_, e0, e2)).l) e1.b)) ∧
                                              List.length (evnW (e1.a, from_, e0, e2)).r ≤ (4001 : Nat) ∧ (if Evn.many (evnW (e1.a, from_, e0, e2)) = true then (1 : Int) else (0 : Int)) = (0 : Int)) ∧
                                            mFlatW
                                                (e1.b,
                                                  IntKind.wrap IntKind.i64
                                                    (IntKind.wrap IntKind.i64 (from_ + e0) - Option.getD (mget (fun (x y : Int) => x == y) (evnW (e1.a, from_, e0, e2)).L e1.a) (0 : Int)),
                                                  IntKind.wrap IntKind.i64 (many - e0), add, (evnW (e1.a, from_, e0, e2)).l, (evnW (e1.a, from_, e0, e2)).L, (evnW (e1.a, from_, e0, e2)).r,
                                                  if Evn.many (evnW (e1.a, from_, e0, e2)) = true then (1 : Int) else (0 : Int), ()) <
                                              mFlatW (a, from_, many, e2)) ∧
                                          True) ∧
                                        True) ∧
                                      True) ∧
                                    True) ∧
                                (Evn.full (evnW (e1.a, from_, e0, e2)) = false →
                                    Evn.full
                                          (evnW
                                            (e1.b,
                                              IntKind.wrap IntKind.i64
                                                (IntKind.wrap IntKind.i64 (from_ + e0) - Option.getD (mget (fun (x y : Int) => x == y) (evnW (e1.a, from_, e0, e2)).L e1.a) (0 : Int)),
                                              IntKind.wrap IntKind.i64 (many - e0), add, (evnW (e1.a, from_, e0, e2)).l, (evnW (e1.a, from_, e0, e2)).L, (evnW (e1.a, from_, e0, e2)).r,
                                              if Evn.many (evnW (e1.a, from_, e0, e2)) = true then (1 : Int) else (0 : Int), ())) =
                                        true →
                                      Evn.full (evnW (a, from_, many, e2)) = true ∧ (9 : Int) = (9 : Int) ∧ True) ∧
                                  (Evn.full (evnW (e1.a, from_, e0, e2)) = false →
                                    Evn.full
                                          (evnW
                                            (e1.b,
                                              IntKind.wrap IntKind.i64
                                                (IntKind.wrap IntKind.i64 (from_ + e0) - Option.getD (mget (fun (x y : Int) => x == y) (evnW (e1.a, from_, e0, e2)).L e1.a) (0 : Int)),
                                              IntKind.wrap IntKind.i64 (many - e0), add, (evnW (e1.a, from_, e0, e2)).l, (evnW (e1.a, from_, e0, e2)).L, (evnW (e1.a, from_, e0, e2)).r,
                                              if Evn.many (evnW (e1.a, from_, e0, e2)) = true then (1 : Int) else (0 : Int), ())) =
                                        false →
                                      Evn.full (evnW (a, from_, many, e2)) = false ∧
                                        (!Evn.many (evnW (e1.a, from_, e0, e2)) &&
                                              !Evn.many
                                                  (evnW
                                                    (e1.b,
                                                      IntKind.wrap IntKind.i64
                                                        (IntKind.wrap IntKind.i64 (from_ + e0) - Option.getD (mget (fun (x y : Int) => x == y) (evnW (e1.a, from_, e0, e2)).L e1.a) (0 : Int)),
                                                      IntKind.wrap IntKind.i64 (many - e0), add, (evnW (e1.a, from_, e0, e2)).l, (evnW (e1.a, from_, e0, e2)).L, (evnW (e1.a, from_, e0, e2)).r,
                                                      if Evn.many (evnW (e1.a, from_, e0, e2)) = true then (1 : Int) else (0 : Int), ())),
                                            (evnW
                                                (e1.b,
                                                  IntKind.wrap IntKind.i64
                                                    (IntKind.wrap IntKind.i64 (from_ + e0) - Option.getD (mget (fun (x y : Int) => x == y) (evnW (e1.a, from_, e0, e2)).L e1.a) (0 : Int)),
                                                  IntKind.wrap IntKind.i64 (many - e0), add, (evnW (e1.a, from_, e0, e2)).l, (evnW (e1.a, from_, e0, e2)).L, (evnW (e1.a, from_, e0, e2)).r,
                                                  if Evn.many (evnW (e1.a, from_, e0, e2)) = true then (1 : Int) else (0 : Int), ())).l,
                                            (evnW
                                                (e1.b,
                                                  IntKind.wrap IntKind.i64
                                                    (IntKind.wrap IntKind.i64 (from_ + e0) - Option.getD (mget (fun (x y : Int) => x == y) (evnW (e1.a, from_, e0, e2)).L e1.a) (0 : Int)),
                                                  IntKind.wrap IntKind.i64 (many - e0), add, (evnW (e1.a, from_, e0, e2)).l, (evnW (e1.a, from_, e0, e2)).L, (evnW (e1.a, from_, e0, e2)).r,
                                                  if Evn.many (evnW (e1.a, from_, e0, e2)) = true then (1 : Int) else (0 : Int), ())).L,
                                            (evnW
                                                (e1.b,
                                                  IntKind.wrap IntKind.i64
                                                    (IntKind.wrap IntKind.i64 (from_ + e0) - Option.getD (mget (fun (x y : Int) => x == y) (evnW (e1.a, from_, e0, e2)).L e1.a) (0 : Int)),
                                                  IntKind.wrap IntKind.i64 (many - e0), add, (evnW (e1.a, from_, e0, e2)).l, (evnW (e1.a, from_, e0, e2)).L, (evnW (e1.a, from_, e0, e2)).r,
                                                  if Evn.many (evnW (e1.a, from_, e0, e2)) = true then (1 : Int) else (0 : Int), ())).r,
                                            if
                                                Evn.many
                                                    (evnW
                                                      (e1.b,
                                                        IntKind.wrap IntKind.i64
                                                          (IntKind.wrap IntKind.i64 (from_ + e0) - Option.getD (mget (fun (x y : Int) => x == y) (evnW (e1.a, from_, e0, e2)).L e1.a) (0 : Int)),
                                                        IntKind.wrap IntKind.i64 (many - e0), add, (evnW (e1.a, from_, e0, e2)).l, (evnW (e1.a, from_, e0, e2)).L, (evnW (e1.a, from_, e0, e2)).r,
                                                        if Evn.many (evnW (e1.a, from_, e0, e2)) = true then (1 : Int) else (0 : Int), ())) =
                                                  true then
                                              (1 : Int)
                                            else (0 : Int),
                                            ()) =
                                          (!Evn.many (evnW (a, from_, many, e2)), (evnW (a, from_, many, e2)).l, (evnW (a, from_, many, e2)).L, (evnW (a, from_, many, e2)).r,
                                            if Evn.many (evnW (a, from_, many, e2)) = true then (1 : Int) else (0 : Int), ()))) ∧
                        ((!Evn.many (evnW (e1.a, from_, e0, e2))) = !true →
                          ((((((((List.length l ≤ (4000 : Nat) ∧ validOf l = true ∧ L = longOf l) ∧
                                          ((0 : Int) ≤ e1.a ∧ e1.a < (↑(List.length l) : Int)) ∧
                                            isWord add = true ∧ (0 : Int) ≤ e0 ∧ ((0 : Int) < e0 → (0 : Int) ≤ from_ ∧ from_ + e0 ≤ at_ (lensOf l) e1.a)) ∧
                                        List.length out ≤ (4001 : Nat) ∧ st = (0 : Int)) ∧
                                      mFlatW (e1.a, from_, e0, e2) < mFlatW (a, from_, many, e2)) ∧
                                    True) ∧
                                  True) ∧
                                True) ∧
                              True) ∧
                            (Evn.full (evnW (e1.a, from_, e0, e2)) = true → Evn.full (evnW (a, from_, many, e2)) = true ∧ (9 : Int) = (9 : Int) ∧ True) ∧
                              (Evn.full (evnW (e1.a, from_, e0, e2)) = false →
                                Evn.full (evnW (a, from_, many, e2)) = false ∧
                                  (!Evn.many (evnW (e1.a, from_, e0, e2)) &&
                                        !Evn.many
                                            (evnW
                                              (e1.b,
                                                IntKind.wrap IntKind.i64
                                                  (IntKind.wrap IntKind.i64 (from_ + e0) - Option.getD (mget (fun (x y : Int) => x == y) (evnW (e1.a, from_, e0, e2)).L e1.a) (0 : Int)),
                                                IntKind.wrap IntKind.i64 (many - e0), add, (evnW (e1.a, from_, e0, e2)).l, (evnW (e1.a, from_, e0, e2)).L, (evnW (e1.a, from_, e0, e2)).r,
                                                if Evn.many (evnW (e1.a, from_, e0, e2)) = true then (1 : Int) else (0 : Int), ())),
                                      (evnW (e1.a, from_, e0, e2)).l, (evnW (e1.a, from_, e0, e2)).L, (evnW (e1.a, from_, e0, e2)).r,
                                      if Evn.many (evnW (e1.a, from_, e0, e2)) = true then (1 : Int) else (0 : Int), ()) =
                                    (!Evn.many (evnW (a, from_, many, e2)), (evnW (a, from_, many, e2)).l, (evnW (a, from_, many, e2)).L, (evnW (a, from_, many, e2)).r,
                                      if Evn.many (evnW (a, from_, many, e2)) = true then (1 : Int) else (0 : Int), ())))))))) := by kernel_rfl

theorem evenK_eq (a from_ many add : Int) (l : List Node) (L : List (Int × Int)) (out : List Int) (st : Int) : vc (EVy walkYl (some cEvenY) [(79, cEvenW ghK)]) noL Go.Proofs.Tryd.f78 cEvenK (a, from_, many, add, l, L, out, st, ()) = (let e0 : Evn := evnW (a, from_, many, add, l, L, out, st, ());
  Small RU (Sigma.mk (Ty.slice (3 : Nat) (Ty.int IntKind.i64)) out) →
  Small RU (Sigma.mk (Ty.slice (56 : Nat) (Ty.user (0 : Nat))) l) →
    (((((((List.length l ≤ (4000 : Nat) ∧ validOf l = true ∧ L = longOf l) ∧
                  ((0 : Int) ≤ a ∧ a < (↑(List.length l) : Int)) ∧ isWord add = true ∧ (0 : Int) ≤ many ∧ ((0 : Int) < many → (0 : Int) ≤ from_ ∧ from_ + many ≤ at_ (lensOf l) a)) ∧
                List.length out ≤ (4001 : Nat) ∧ st = (0 : Int)) ∧
              True) ∧
            True) ∧
          True) ∧
        True) ∧
      (Evn.full e0 = true → Evn.full e0 = true ∧ (9 : Int) = (9 : Int) ∧ True) ∧
        (Evn.full e0 = false →
          Evn.full e0 = false ∧ (e0.l, e0.L, e0.r, if Evn.many e0 = true then (1 : Int) else (0 : Int), ()) = (e0.l, e0.L, e0.r, if Evn.many e0 = true then (1 : Int) else (0 : Int), ()))) := by kernel_rfl

theorem join_eq (r : List Int) (l : List Node) (L : List (Int × Int)) : vc ((EV [(60, cPut)]).set 61 (cJoin.below mJoin (mJoin (r, l, L, ())))) noL Go.Proofs.Tryd.f61 cJoin (r, l, L, ()) = (let e4 : List (Int × Int) × Int := (joinAt l L r).snd;
  let e3 : Nat := mJoin (r, l, L, ());
  let e2 : Int × List Node × List (Int × Int) × Unit := (e4.snd, (joinAt l L r).fst, e4.fst, ());
  let e1 : Int := IntKind.wrap IntKind.i64 (Int.tdiv (↑(List.length r) : Int) (2 : Int));
  let e0 : Nat := Int.toNat e1;
  Small RU (Sigma.mk (Ty.slice (3 : Nat) (Ty.int IntKind.i64)) r) →
  Small RU (Sigma.mk (Ty.slice (56 : Nat) (Ty.user (0 : Nat))) l) →
    (((↑(List.length r) : Int) == (1 : Int)) = true → ((0 : Int) ≤ (0 : Int) ∧ (0 : Int) < (↑(List.length r) : Int)) ∧ joinBad l r = false ∧ (List.getD r (0 : Nat) (0 : Int), l, L, ()) = e2) ∧
      (((↑(List.length r) : Int) == (1 : Int)) = false →
        (2 : Int) ≠ (0 : Int) ∧
          ((0 : Int) ≤ e1 ∧ e1 ≤ (↑(List.length r) : Int)) ∧
            (((((List.length l ≤ (4000 : Nat) ∧ validOf l = true ∧ L = longOf l) ∧
                      (1 : Nat) ≤ List.length (List.take e0 r) ∧
                        List.length (List.take e0 r) ≤ (4001 : Nat) ∧
                          (∀ (a : Int), List.Mem a (List.take e0 r) → (0 : Int) ≤ a ∧ a < (↑(List.length l) : Int)) ∧ sumL L (List.take e0 r) ≤ (1048576 : Int)) ∧
                    mJoin (List.take e0 r, l, L, ()) < e3) ∧
                  True) ∧
                True) ∧
              (joinBad l (List.take e0 r) = true → joinBad l r = true ∧ (9 : Int) = (9 : Int) ∧ True) ∧
                (2 : Int) ≠ (0 : Int) ∧
                  ((0 : Int) ≤ e1 ∧ e1 ≤ (↑(List.length r) : Int)) ∧
                    (joinBad l (List.take e0 r) = false →
                        ((((List.length (joinAt l L (List.take e0 r)).fst ≤ (4000 : Nat) ∧
                                  validOf (joinAt l L (List.take e0 r)).fst = true ∧ (joinAt l L (List.take e0 r)).snd.fst = longOf (joinAt l L (List.take e0 r)).fst) ∧
                                (1 : Nat) ≤ List.length (List.drop e0 r) ∧
                                  List.length (List.drop e0 r) ≤ (4001 : Nat) ∧
                                    (∀ (a : Int),
                                        let e0 : Nat := e0;
                                        List.Mem a (List.drop e0 r) → (0 : Int) ≤ a ∧ a < (↑(List.length (joinAt l L (List.take e0 r)).fst) : Int)) ∧
                                      sumL (joinAt l L (List.take e0 r)).snd.fst (List.drop e0 r) ≤ (1048576 : Int)) ∧
                              mJoin (List.drop e0 r, (joinAt l L (List.take e0 r)).fst, (joinAt l L (List.take e0 r)).snd.fst, ()) < e3) ∧
                            True) ∧
                          True) ∧
                      (joinBad l (List.take e0 r) = false → joinBad (joinAt l L (List.take e0 r)).fst (List.drop e0 r) = true → joinBad l r = true ∧ (9 : Int) = (9 : Int) ∧ True) ∧
                        (joinBad l (List.take e0 r) = false →
                          joinBad (joinAt l L (List.take e0 r)).fst (List.drop e0 r) = false →
                            (putBad (joinAt (joinAt l L (List.take e0 r)).fst (joinAt l L (List.take e0 r)).snd.fst (List.drop e0 r)).fst
                                    (IntKind.wrap IntKind.i64
                                      (Option.getD
                                          (mget (fun (x y : Int) => x == y) (joinAt (joinAt l L (List.take e0 r)).fst (joinAt l L (List.take e0 r)).snd.fst (List.drop e0 r)).snd.fst
                                            (joinAt l L (List.take e0 r)).snd.snd)
                                          (0 : Int) +
                                        Option.getD
                                          (mget (fun (x y : Int) => x == y) (joinAt (joinAt l L (List.take e0 r)).fst (joinAt l L (List.take e0 r)).snd.fst (List.drop e0 r)).snd.fst
                                            (joinAt (joinAt l L (List.take e0 r)).fst (joinAt l L (List.take e0 r)).snd.fst (List.drop e0 r)).snd.snd)
                                          (0 : Int))) =
                                  true →
                                joinBad l r = true ∧ (9 : Int) = (9 : Int) ∧ True) ∧
                              (putBad (joinAt (joinAt l L (List.take e0 r)).fst (joinAt l L (List.take e0 r)).snd.fst (List.drop e0 r)).fst
                                    (IntKind.wrap IntKind.i64
                                      (Option.getD
                                          (mget (fun (x y : Int) => x == y) (joinAt (joinAt l L (List.take e0 r)).fst (joinAt l L (List.take e0 r)).snd.fst (List.drop e0 r)).snd.fst
                                            (joinAt l L (List.take e0 r)).snd.snd)
                                          (0 : Int) +
                                        Option.getD
                                          (mget (fun (x y : Int) => x == y) (joinAt (joinAt l L (List.take e0 r)).fst (joinAt l L (List.take e0 r)).snd.fst (List.drop e0 r)).snd.fst
                                            (joinAt (joinAt l L (List.take e0 r)).fst (joinAt l L (List.take e0 r)).snd.fst (List.drop e0 r)).snd.snd)
                                          (0 : Int))) =
                                  false →
                                joinBad l r = false ∧
                                  ((↑(List.length (joinAt (joinAt l L (List.take e0 r)).fst (joinAt l L (List.take e0 r)).snd.fst (List.drop e0 r)).fst) : Int),
                                      (joinAt (joinAt l L (List.take e0 r)).fst (joinAt l L (List.take e0 r)).snd.fst (List.drop e0 r)).fst ++
                                        [Node.mk (1 : Int) (joinAt l L (List.take e0 r)).snd.snd
                                            (joinAt (joinAt l L (List.take e0 r)).fst (joinAt l L (List.take e0 r)).snd.fst (List.drop e0 r)).snd.snd (0 : Int) (0 : Int) (0 : Int) []],
                                      putL (joinAt (joinAt l L (List.take e0 r)).fst (joinAt l L (List.take e0 r)).snd.fst (List.drop e0 r)).fst
                                        (joinAt (joinAt l L (List.take e0 r)).fst (joinAt l L (List.take e0 r)).snd.fst (List.drop e0 r)).snd.fst
                                        (IntKind.wrap IntKind.i64
                                          (Option.getD
                                              (mget (fun (x y : Int) => x == y) (joinAt (joinAt l L (List.take e0 r)).fst (joinAt l L (List.take e0 r)).snd.fst (List.drop e0 r)).snd.fst
                                                (joinAt l L (List.take e0 r)).snd.snd)
                                              (0 : Int) +
                                            Option.getD
                                              (mget (fun (x y : Int) => x == y) (joinAt (joinAt l L (List.take e0 r)).fst (joinAt l L (List.take e0 r)).snd.fst (List.drop e0 r)).snd.fst
                                                (joinAt (joinAt l L (List.take e0 r)).fst (joinAt l L (List.take e0 r)).snd.fst (List.drop e0 r)).snd.snd)
                                              (0 : Int))),
                                      ()) =
                                    e2)))) := by kernel_rfl

theorem evenP_eq (l : List Node) (a : Int) : vcD (EVx (fun _ _ => []) itEven [(49, cOpen), (52, cPiecesE), (53, cMust), (59, cOwnS), (60, cPut), (61, cJoin)]) cC lEven Go.Proofs.Tryd.f24 cEvenP (l, a, ()) = (let e4 : Bool := askedOf l [a] != (0 : Int);
  let e3 : List Node := [Node.mk (0 : Int) (0 : Int) (0 : Int) (0 : Int) (0 : Int) (0 : Int) []];
  let e2 : Int := Option.getD (mget (fun (x y : Int) => x == y) (longOf l) a) (0 : Int);
  let e1 : List Node × Int × Int × Unit := ((evenAt l a).fst, (evenAt l a).snd.fst, (evenAt l a).snd.snd, ());
  let e0 : Evn := evnW (a, (0 : Int), e2, (0 : Int), l, longOf l, [], (0 : Int), ());
  Small RU (Sigma.mk (Ty.slice (56 : Nat) (Ty.user (0 : Nat))) l) →
  (e4 = true → ([], (0 : Int), askedOf l [a], ()) = e1) ∧
    (e4 = false →
      (List.length l ≤ (4000000 : Nat) ∧ ∀ (x : Node), List.Mem x l → List.length x.words ≤ (4000000 : Nat)) ∧
        (longOf l = longOf l ∧ True) ∧
          (∀ (xs : Int × Int × Int × Int × List Int × List Node × List (Int × Int) × Int × Unit),
              let e3 : Int := xs.snd.snd.snd.fst;
              let e2 : List Node := [Node.mk (2 : Int) xs.fst (0 : Int) xs.snd.fst xs.snd.snd.fst (0 : Int) []];
              let e1 : List Int × List Node × List (Int × Int) × Int × Unit := xs.snd.snd.snd.snd;
              let e0 : Bool × List Int × List Node × List (Int × Int) × Int × Unit :=
                (!Evn.many (evnY xs), e1.fst ++ [(Evn.off (Evn.mk e1.snd.fst e1.snd.snd.fst e1.fst) (Piece.mk xs.fst xs.snd.fst xs.snd.snd.fst e3)).snd.snd],
                  (Evn.off (Evn.mk e1.snd.fst e1.snd.snd.fst e1.fst) (Piece.mk xs.fst xs.snd.fst xs.snd.snd.fst e3)).fst,
                  (Evn.off (Evn.mk e1.snd.fst e1.snd.snd.fst e1.fst) (Piece.mk xs.fst xs.snd.fst xs.snd.snd.fst e3)).snd.fst, if Evn.many (evnY xs) = true then (1 : Int) else (0 : Int), ());
              ((List.length e1.snd.fst ≤ (4000 : Nat) ∧ validOf e1.snd.fst = true ∧ e1.snd.snd.fst = longOf e1.snd.fst) ∧
                    ((0 : Int) ≤ xs.fst ∧ xs.fst < (↑(List.length e1.snd.fst) : Int)) ∧
                      (nat_ e1.snd.fst xs.fst).kind = (0 : Int) ∧
                        isWord e3 = true ∧ (0 : Int) < xs.snd.snd.fst ∧ xs.snd.snd.fst ≤ (1048576 : Int) ∧ (0 : Int) ≤ xs.snd.fst ∧ xs.snd.fst + xs.snd.snd.fst ≤ at_ (lensOf e1.snd.fst) xs.fst) ∧
                  List.length e1.fst ≤ (4001 : Nat) ∧ e1.snd.snd.snd.fst = (0 : Int) →
                Small RU (Sigma.mk (Ty.slice (3 : Nat) (Ty.int IntKind.i64)) e1.fst) →
                  Small RU (Sigma.mk (Ty.slice (56 : Nat) (Ty.user (0 : Nat))) e1.snd.fst) →
                    e1.snd.snd.snd.fst = (0 : Int) ∧
                      (decide (xs.snd.snd.fst < Option.getD (mget (fun (x y : Int) => x == y) e1.snd.snd.fst xs.fst) (0 : Int)) = true →
                          (putBad e1.snd.fst xs.snd.snd.fst = true → Evn.full (evnY xs) = true ∧ (9 : Int) = (9 : Int) ∧ True) ∧
                            (putBad e1.snd.fst xs.snd.snd.fst = false →
                              ((e3 != (0 : Int)) = true →
                                  (putBad (e1.snd.fst ++ e2) xs.snd.snd.fst = true → Evn.full (evnY xs) = true ∧ (9 : Int) = (9 : Int) ∧ True) ∧
                                    (putBad (e1.snd.fst ++ e2) xs.snd.snd.fst = false →
                                      (List.length e1.fst + List.length [(↑(List.length (e1.snd.fst ++ e2)) : Int)]) * (8 : Nat) ≤ (140737488355328 : Nat) ∧
                                        (decide ((↑(List.length (e1.fst ++ [(↑(List.length (e1.snd.fst ++ e2)) : Int)])) : Int) > (4001 : Int)) = true →
                                            Evn.full (evnY xs) = false ∧
                                              (false, e1.fst ++ [(↑(List.length (e1.snd.fst ++ e2)) : Int)],
                                                  e1.snd.fst ++ e2 ++ [Node.mk (3 : Int) (↑(List.length e1.snd.fst) : Int) (0 : Int) (0 : Int) (0 : Int) e3 []],
                                                  putL (e1.snd.fst ++ e2) (putL e1.snd.fst e1.snd.snd.fst xs.snd.snd.fst) xs.snd.snd.fst, (1 : Int), ()) =
                                                e0) ∧
                                          (decide ((↑(List.length (e1.fst ++ [(↑(List.length (e1.snd.fst ++ e2)) : Int)])) : Int) > (4001 : Int)) = false →
                                            Evn.full (evnY xs) = false ∧
                                              (true, e1.fst ++ [(↑(List.length (e1.snd.fst ++ e2)) : Int)],
                                                  e1.snd.fst ++ e2 ++ [Node.mk (3 : Int) (↑(List.length e1.snd.fst) : Int) (0 : Int) (0 : Int) (0 : Int) e3 []],
                                                  putL (e1.snd.fst ++ e2) (putL e1.snd.fst e1.snd.snd.fst xs.snd.snd.fst) xs.snd.snd.fst, (0 : Int), ()) =
                                                e0))) ∧
                                ((e3 != (0 : Int)) = false →
                                  (List.length e1.fst + List.length [(↑(List.length e1.snd.fst) : Int)]) * (8 : Nat) ≤ (140737488355328 : Nat) ∧
                                    (decide ((↑(List.length (e1.fst ++ [(↑(List.length e1.snd.fst) : Int)])) : Int) > (4001 : Int)) = true →
                                        Evn.full (evnY xs) = false ∧
                                          (false, e1.fst ++ [(↑(List.length e1.snd.fst) : Int)], e1.snd.fst ++ e2, putL e1.snd.fst e1.snd.snd.fst xs.snd.snd.fst, (1 : Int), ()) = e0) ∧
                                      (decide ((↑(List.length (e1.fst ++ [(↑(List.length e1.snd.fst) : Int)])) : Int) > (4001 : Int)) = false →
                                        Evn.full (evnY xs) = false ∧
                                          (true, e1.fst ++ [(↑(List.length e1.snd.fst) : Int)], e1.snd.fst ++ e2, putL e1.snd.fst e1.snd.snd.fst xs.snd.snd.fst, (0 : Int), ()) = e0)))) ∧
                        (decide (xs.snd.snd.fst < Option.getD (mget (fun (x y : Int) => x == y) e1.snd.snd.fst xs.fst) (0 : Int)) = false →
                          ((e3 != (0 : Int)) = true →
                              (putBad e1.snd.fst xs.snd.snd.fst = true → Evn.full (evnY xs) = true ∧ (9 : Int) = (9 : Int) ∧ True) ∧
                                (putBad e1.snd.fst xs.snd.snd.fst = false →
                                  (List.length e1.fst + List.length [(↑(List.length e1.snd.fst) : Int)]) * (8 : Nat) ≤ (140737488355328 : Nat) ∧
                                    (decide ((↑(List.length (e1.fst ++ [(↑(List.length e1.snd.fst) : Int)])) : Int) > (4001 : Int)) = true →
                                        Evn.full (evnY xs) = false ∧
                                          (false, e1.fst ++ [(↑(List.length e1.snd.fst) : Int)], e1.snd.fst ++ [Node.mk (3 : Int) xs.fst (0 : Int) (0 : Int) (0 : Int) e3 []],
                                              putL e1.snd.fst e1.snd.snd.fst xs.snd.snd.fst, (1 : Int), ()) =
                                            e0) ∧
                                      (decide ((↑(List.length (e1.fst ++ [(↑(List.length e1.snd.fst) : Int)])) : Int) > (4001 : Int)) = false →
                                        Evn.full (evnY xs) = false ∧
                                          (true, e1.fst ++ [(↑(List.length e1.snd.fst) : Int)], e1.snd.fst ++ [Node.mk (3 : Int) xs.fst (0 : Int) (0 : Int) (0 : Int) e3 []],
                                              putL e1.snd.fst e1.snd.snd.fst xs.snd.snd.fst, (0 : Int), ()) =
                                            e0))) ∧
                            ((e3 != (0 : Int)) = false →
                              (List.length e1.fst + List.length [xs.fst]) * (8 : Nat) ≤ (140737488355328 : Nat) ∧
                                (decide ((↑(List.length (e1.fst ++ [xs.fst])) : Int) > (4001 : Int)) = true →
                                    Evn.full (evnY xs) = false ∧ (false, e1.fst ++ [xs.fst], e1.snd.fst, e1.snd.snd.fst, (1 : Int), ()) = e0) ∧
                                  (decide ((↑(List.length (e1.fst ++ [xs.fst])) : Int) > (4001 : Int)) = false →
                                    Evn.full (evnY xs) = false ∧ (true, e1.fst ++ [xs.fst], e1.snd.fst, e1.snd.snd.fst, (0 : Int), ()) = e0)))) ∧
            (((((List.length l ≤ (4000 : Nat) ∧ validOf l = true ∧ longOf l = longOf l) ∧
                      ((0 : Int) ≤ a ∧ a < (↑(List.length l) : Int)) ∧ isWord (0 : Int) = true ∧ (0 : Int) ≤ e2 ∧ ((0 : Int) < e2 → (0 : Int) ≤ (0 : Int) ∧ (0 : Int) + e2 ≤ at_ (lensOf l) a)) ∧
                    List.length ([] : List Int) ≤ (4001 : Nat) ∧ (0 : Int) = (0 : Int)) ∧
                  True) ∧
                True) ∧
              (Evn.full e0 = true → ([], (0 : Int), (9 : Int), ()) = e1) ∧
                (Evn.full e0 = false →
                  ((if Evn.many e0 = true then (1 : Int) else (0 : Int)) = (0 : Int) →
                      ((!decide ((↑(List.length e0.r) : Int) ≤ (4001 : Int))) = true → ([], (0 : Int), (9 : Int), ()) = e1) ∧
                        ((!decide ((↑(List.length e0.r) : Int) ≤ (4001 : Int))) = false →
                          (((↑(List.length e0.r) : Int) == (0 : Int)) = true →
                              (putBad e0.l (0 : Int) = true → ([], (0 : Int), (9 : Int), ()) = e1) ∧ (putBad e0.l (0 : Int) = false → (e0.l ++ e3, (↑(List.length e0.l) : Int), (0 : Int), ()) = e1)) ∧
                            (((↑(List.length e0.r) : Int) == (0 : Int)) = false →
                              ((((List.length e0.l ≤ (4000 : Nat) ∧ validOf e0.l = true ∧ e0.L = longOf e0.l) ∧
                                      (1 : Nat) ≤ List.length e0.r ∧
                                        List.length e0.r ≤ (4001 : Nat) ∧
                                          (∀ (a : Int),
                                              let e0 : Evn := e0;
                                              List.Mem a e0.r → (0 : Int) ≤ a ∧ a < (↑(List.length e0.l) : Int)) ∧
                                            sumL e0.L e0.r ≤ (1048576 : Int)) ∧
                                    True) ∧
                                  True) ∧
                                (joinBad e0.l e0.r = true → ([], (0 : Int), (9 : Int), ()) = e1) ∧
                                  (joinBad e0.l e0.r = false → ((joinAt e0.l e0.L e0.r).fst, (joinAt e0.l e0.L e0.r).snd.snd, (0 : Int), ()) = e1)))) ∧
                    ((if Evn.many e0 = true then (1 : Int) else (0 : Int)) ≠ (0 : Int) →
                      (if Evn.many e0 = true then (1 : Int) else (0 : Int)) = (1 : Int) ∧
                        ((!decide ((↑(List.length e0.r) : Int) ≤ (4001 : Int))) = true → ([], (0 : Int), (9 : Int), ()) = e1) ∧
                          ((!decide ((↑(List.length e0.r) : Int) ≤ (4001 : Int))) = false →
                            (((↑(List.length e0.r) : Int) == (0 : Int)) = true →
                                (putBad e0.l (0 : Int) = true → ([], (0 : Int), (9 : Int), ()) = e1) ∧
                                  (putBad e0.l (0 : Int) = false → (e0.l ++ e3, (↑(List.length e0.l) : Int), (0 : Int), ()) = e1)) ∧
                              (((↑(List.length e0.r) : Int) == (0 : Int)) = false →
                                ((((List.length e0.l ≤ (4000 : Nat) ∧ validOf e0.l = true ∧ e0.L = longOf e0.l) ∧
                                        (1 : Nat) ≤ List.length e0.r ∧
                                          List.length e0.r ≤ (4001 : Nat) ∧
                                            (∀ (a : Int),
                                                let e0 : Evn := e0;
                                                List.Mem a e0.r → (0 : Int) ≤ a ∧ a < (↑(List.length e0.l) : Int)) ∧
                                              sumL e0.L e0.r ≤ (1048576 : Int)) ∧
                                      True) ∧
                                    True) ∧
                                  (joinBad e0.l e0.r = true → ([], (0 : Int), (9 : Int), ()) = e1) ∧
                                    (joinBad e0.l e0.r = false → ((joinAt e0.l e0.L e0.r).fst, (joinAt e0.l e0.L e0.r).snd.snd, (0 : Int), ()) = e1))))))) := by kernel_rfl

end Go.Rp
end

section
set_option linter.unusedVariables false
set_option maxRecDepth 100000
open Go Go.VT
namespace Go.Rp

theorem pieces_eq (l : List Node) (L : List (Int × Int)) (a from_ many add : Int) : vc (EV []) noL Go.Proofs.Tryd.f52 cPieces (l, L, a, from_, many, add, ()) = (let e0 : List Node × List (Int × Int) × Int × Int × Int × Int × Unit := (l, L, a, from_, many, add, ());
  Small RU (Sigma.mk (Ty.slice (56 : Nat) (Ty.user (0 : Nat))) l) → e0 = e0) := by kernel_rfl

theorem flatW_eq (a from_ many add : Int) (l : List Node) (L : List (Int × Int)) (out : List Int) (st : Int) : vc ((EVy recYl (some cFlatY) []).set 79 ((cFlatW ghW).below mFlatW (mFlatW (a, from_, many, add, l, L, out, st, ())))) noL Go.Proofs.Tryd.f79 (cFlatW ghW) (a, from_, many, add, l, L, out, st, ()) = (let e5 : Int := (↑(List.length out) : Int) + many;
  let e4 : List Node × List (Int × Int) × List Int × Int × Unit := (l, L, out, st, ());
  let e3 : Nat := mFlatW (a, from_, many, add, e4);
  let e2 : Bool × List Node × List (Int × Int) × List Int × Int × Unit := (true, l, L, out ++ walkW l a from_ many add, st, ());
  let e1 : Node := List.getD l (Int.toNat a) (Node.mk (0 : Int) (0 : Int) (0 : Int) (0 : Int) (0 : Int) (0 : Int) []);
  let e0 : Int :=
  if
      (if IntKind.wrap IntKind.i64 (Option.getD (mget (fun (x y : Int) => x == y) L e1.a) (0 : Int) - from_) < many then
          IntKind.wrap IntKind.i64 (Option.getD (mget (fun (x y : Int) => x == y) L e1.a) (0 : Int) - from_)
        else many) >
        (0 : Int) then
    if IntKind.wrap IntKind.i64 (Option.getD (mget (fun (x y : Int) => x == y) L e1.a) (0 : Int) - from_) < many then
      IntKind.wrap IntKind.i64 (Option.getD (mget (fun (x y : Int) => x == y) L e1.a) (0 : Int) - from_)
    else many
  else (0 : Int);
  Small RU (Sigma.mk (Ty.slice (56 : Nat) (Ty.user (0 : Nat))) l) →
  Small RU (Sigma.mk (Ty.slice (3 : Nat) (Ty.int IntKind.i64)) out) →
    ((0 : Int) ≤ a ∧ a < (↑(List.length l) : Int)) ∧
      ((many == (0 : Int)) = true → (true, e4) = e2) ∧
        ((many == (0 : Int)) = false →
          ((e1.kind == (0 : Int)) = true →
              ((((((List.length l ≤ (4000 : Nat) ∧ validOf l = true ∧ L = longOf l) ∧
                          ((0 : Int) ≤ a ∧ a < (↑(List.length l) : Int)) ∧ isWord add = true ∧ (0 : Int) < many ∧ (0 : Int) ≤ from_ ∧ from_ + many ≤ (↑(List.length (nat_ l a).words) : Int)) ∧
                        e5 ≤ (1048576 : Int) ∧ st = (0 : Int)) ∧
                      True) ∧
                    l = l ∧ True) ∧
                  L = L ∧ True) ∧
                (true, l, L, out ++ rwords l a from_ many add, st, ()) = e2) ∧
            ((e1.kind == (0 : Int)) = false →
              ((e1.kind == (2 : Int)) = true →
                  ((((((((((List.length l ≤ (4000 : Nat) ∧ validOf l = true ∧ L = longOf l) ∧
                                      ((0 : Int) ≤ e1.a ∧ e1.a < (↑(List.length l) : Int)) ∧
                                        isWord add = true ∧
                                          (0 : Int) ≤ many ∧
                                            ((0 : Int) < many → (0 : Int) ≤ IntKind.wrap IntKind.i64 (from_ + e1.from_) ∧ IntKind.wrap IntKind.i64 (from_ + e1.from_) + many ≤ at_ (lensOf l) e1.a)) ∧
                                    e5 ≤ (1048576 : Int) ∧ st = (0 : Int)) ∧
                                  mFlatW (e1.a, IntKind.wrap IntKind.i64 (from_ + e1.from_), many, add, e4) < e3) ∧
                                True) ∧
                              True) ∧
                            l = l ∧ True) ∧
                          L = L ∧ True) ∧
                        True) ∧
                      True) ∧
                    (true, l, L, out ++ walkW l e1.a (IntKind.wrap IntKind.i64 (from_ + e1.from_)) many add, st, ()) = e2) ∧
                ((e1.kind == (2 : Int)) = false →
                  ((e1.kind == (3 : Int)) = true →
                      ((((((((((List.length l ≤ (4000 : Nat) ∧ validOf l = true ∧ L = longOf l) ∧
                                          ((0 : Int) ≤ e1.a ∧ e1.a < (↑(List.length l) : Int)) ∧
                                            isWord (IntKind.wrap IntKind.i64 (IntKind.wrap IntKind.i32 (IntKind.wrap IntKind.i64 (add + e1.n)))) = true ∧
                                              (0 : Int) ≤ many ∧ ((0 : Int) < many → (0 : Int) ≤ from_ ∧ from_ + many ≤ at_ (lensOf l) e1.a)) ∧
                                        e5 ≤ (1048576 : Int) ∧ st = (0 : Int)) ∧
                                      mFlatW (e1.a, from_, many, IntKind.wrap IntKind.i64 (IntKind.wrap IntKind.i32 (IntKind.wrap IntKind.i64 (add + e1.n))), e4) < e3) ∧
                                    True) ∧
                                  True) ∧
                                l = l ∧ True) ∧
                              L = L ∧ True) ∧
                            True) ∧
                          True) ∧
                        (true, l, L, out ++ walkW l e1.a from_ many (IntKind.wrap IntKind.i64 (IntKind.wrap IntKind.i32 (IntKind.wrap IntKind.i64 (add + e1.n)))), st, ()) = e2) ∧
                    ((e1.kind == (3 : Int)) = false →
                      (true = true →
                          ((((((((((List.length l ≤ (4000 : Nat) ∧ validOf l = true ∧ L = longOf l) ∧
                                              ((0 : Int) ≤ e1.a ∧ e1.a < (↑(List.length l) : Int)) ∧
                                                isWord add = true ∧ (0 : Int) ≤ e0 ∧ ((0 : Int) < e0 → (0 : Int) ≤ from_ ∧ from_ + e0 ≤ at_ (lensOf l) e1.a)) ∧
                                            (↑(List.length out) : Int) + e0 ≤ (1048576 : Int) ∧ st = (0 : Int)) ∧
                                          mFlatW (e1.a, from_, e0, add, e4) < e3) ∧
                                        True) ∧
                                      True) ∧
                                    l = l ∧ True) ∧
                                  L = L ∧ True) ∧
                                True) ∧
                              True) ∧
                            ((((((((((List.length l ≤ (4000 : Nat) ∧ validOf l = true ∧ L = longOf l) ∧
                                                ((0 : Int) ≤ e1.b ∧ e1.b < (↑(List.length l) : Int)) ∧
                                                  isWord add = true ∧
                                                    (0 : Int) ≤ IntKind.wrap IntKind.i64 (many - e0) ∧
                                                      ((0 : Int) < IntKind.wrap IntKind.i64 (many - e0) →
                                                        (0 : Int) ≤ IntKind.wrap IntKind.i64 (IntKind.wrap IntKind.i64 (from_ + e0) - Option.getD (mget (fun (x y : Int) => x == y) L e1.a) (0 : Int)) ∧
                                                          IntKind.wrap IntKind.i64 (IntKind.wrap IntKind.i64 (from_ + e0) - Option.getD (mget (fun (x y : Int) => x == y) L e1.a) (0 : Int)) +
                                                              IntKind.wrap IntKind.i64 (many - e0) ≤
                                                            at_ (lensOf l) e1.b)) ∧
                                              (↑(List.length (out ++ walkW l e1.a from_ e0 add)) : Int) + IntKind.wrap IntKind.i64 (many - e0) ≤ (1048576 : Int) ∧ st = (0 : Int)) ∧
                                            mFlatW
                                                (e1.b, IntKind.wrap IntKind.i64 (IntKind.wrap IntKind.i64 (from_ + e0) - Option.getD (mget (fun (x y : Int) => x == y) L e1.a) (0 : Int)),
                                                  IntKind.wrap IntKind.i64 (many - e0), add, l, L, out ++ walkW l e1.a from_ e0 add, st, ()) <
                                              e3) ∧
                                          True) ∧
                                        True) ∧
                                      l = l ∧ True) ∧
                                    L = L ∧ True) ∧
                                  True) ∧
                                True) ∧
                              (true && true, l, L,
                                  out ++ walkW l e1.a from_ e0 add ++
                                    walkW l e1.b (IntKind.wrap IntKind.i64 (IntKind.wrap IntKind.i64 (from_ + e0) - Option.getD (mget (fun (x y : Int) => x == y) L e1.a) (0 : Int)))
                                      (IntKind.wrap IntKind.i64 (many - e0)) add,
                                  st, ()) =
                                e2) ∧
                        (true = !true →
                          ((((((((((List.length l ≤ (4000 : Nat) ∧ validOf l = true ∧ L = longOf l) ∧
                                              ((0 : Int) ≤ e1.a ∧ e1.a < (↑(List.length l) : Int)) ∧
                                                isWord add = true ∧ (0 : Int) ≤ e0 ∧ ((0 : Int) < e0 → (0 : Int) ≤ from_ ∧ from_ + e0 ≤ at_ (lensOf l) e1.a)) ∧
                                            (↑(List.length out) : Int) + e0 ≤ (1048576 : Int) ∧ st = (0 : Int)) ∧
                                          mFlatW (e1.a, from_, e0, add, e4) < e3) ∧
                                        True) ∧
                                      True) ∧
                                    l = l ∧ True) ∧
                                  L = L ∧ True) ∧
                                True) ∧
                              True) ∧
                            (true && true, l, L, out ++ walkW l e1.a from_ e0 add, st, ()) = e2)))))) := by kernel_rfl

theorem flatK_eq (a from_ many add : Int) (l : List Node) (L : List (Int × Int)) (out : List Int) (st : Int) : vc (EVy walkYl (some cFlatY) [(79, cFlatW ghK)]) noL Go.Proofs.Tryd.f78 cFlatK (a, from_, many, add, l, L, out, st, ()) = (let e0 : List Node × List (Int × Int) × List Int × Int × Unit := (l, L, out ++ walkW l a from_ many add, st, ());
  Small RU (Sigma.mk (Ty.slice (56 : Nat) (Ty.user (0 : Nat))) l) →
  Small RU (Sigma.mk (Ty.slice (3 : Nat) (Ty.int IntKind.i64)) out) →
    (((((((((List.length l ≤ (4000 : Nat) ∧ validOf l = true ∧ L = longOf l) ∧
                      ((0 : Int) ≤ a ∧ a < (↑(List.length l) : Int)) ∧ isWord add = true ∧ (0 : Int) ≤ many ∧ ((0 : Int) < many → (0 : Int) ≤ from_ ∧ from_ + many ≤ at_ (lensOf l) a)) ∧
                    (↑(List.length out) : Int) + many ≤ (1048576 : Int) ∧ st = (0 : Int)) ∧
                  True) ∧
                True) ∧
              l = l ∧ True) ∧
            L = L ∧ True) ∧
          True) ∧
        True) ∧
      e0 = e0) := by kernel_rfl

theorem flatP_eq (l : List Node) (a : Int) : vcD (EVx (fun _ _ => []) itFlat [(49, cOpen), (52, cPieces)]) cC lFlat Go.Proofs.Tryd.f17 cFlatR (l, a, ()) = (let e2 : Bool := askedOf l [a] != (0 : Int);
  let e1 : List Int × Int × Unit := ((flatAt l a).fst, (flatAt l a).snd, ());
  let e0 : Int := Option.getD (mget (fun (x y : Int) => x == y) (longOf l) a) (0 : Int);
  Small RU (Sigma.mk (Ty.slice (56 : Nat) (Ty.user (0 : Nat))) l) →
  (e2 = true → ([], askedOf l [a], ()) = e1) ∧
    (e2 = false →
      ((l = l ∧ True) ∧ longOf l = longOf l ∧ True) ∧
        (∀ (xs : Int × Int × Int × Int × List Int × List Node × List (Int × Int) × Int × Unit),
            let e5 : Int := xs.snd.fst + xs.snd.snd.fst;
            let e4 : Int := xs.snd.snd.snd.fst;
            let e3 : Int := IntKind.wrap IntKind.i64 e5;
            let e2 : Node := Node.mk (0 : Int) (0 : Int) (0 : Int) (0 : Int) (0 : Int) (0 : Int) [];
            let e1 : List Int × List Node × List (Int × Int) × Int × Unit := xs.snd.snd.snd.snd;
            let e0 : List Int := List.drop (Int.toNat xs.snd.fst) (List.take (Int.toNat e3) (List.getD e1.snd.fst (Int.toNat xs.fst) e2).words);
            ((List.length e1.snd.fst ≤ (4000 : Nat) ∧ validOf e1.snd.fst = true ∧ e1.snd.snd.fst = longOf e1.snd.fst) ∧
                  ((0 : Int) ≤ xs.fst ∧ xs.fst < (↑(List.length e1.snd.fst) : Int)) ∧
                    isWord e4 = true ∧ (0 : Int) < xs.snd.snd.fst ∧ (0 : Int) ≤ xs.snd.fst ∧ e5 ≤ (↑(List.length (nat_ e1.snd.fst xs.fst).words) : Int)) ∧
                (↑(List.length e1.fst) : Int) + xs.snd.snd.fst ≤ (1048576 : Int) ∧ e1.snd.snd.snd.fst = (0 : Int) →
              Small RU (Sigma.mk (Ty.slice (3 : Nat) (Ty.int IntKind.i64)) e1.fst) →
                Small RU (Sigma.mk (Ty.slice (56 : Nat) (Ty.user (0 : Nat))) e1.snd.fst) →
                  e1.snd.snd.snd.fst = (0 : Int) ∧
                    ((0 : Int) ≤ xs.fst ∧ xs.fst < (↑(List.length e1.snd.fst) : Int)) ∧
                      ((0 : Int) ≤ xs.snd.fst ∧ xs.snd.fst ≤ e3 ∧ e3 ≤ (↑(List.length (List.getD e1.snd.fst (Int.toNat xs.fst) e2).words) : Int)) ∧
                        (∃ (p : Int × List Int × Unit),
                            l = l ∧
                              a = a ∧
                                xs.fst = xs.fst ∧
                                  xs.snd.fst = xs.snd.fst ∧
                                    xs.snd.snd.fst = xs.snd.snd.fst ∧
                                      e4 = e4 ∧
                                        e0 = e0 ∧
                                          (↑(List.length e0) : Int) = (↑(List.length e0) : Int) ∧
                                            (0 : Int) = p.fst ∧
                                              e1.fst = p.snd.fst ∧
                                                e1.snd.fst = e1.snd.fst ∧
                                                  e1.snd.snd.fst = e1.snd.snd.fst ∧
                                                    xs.fst = xs.fst ∧
                                                      xs.snd.fst = xs.snd.fst ∧
                                                        xs.snd.snd.fst = xs.snd.snd.fst ∧
                                                          e4 = e4 ∧
                                                            (0 : Int) ≤ p.fst ∧
                                                              p.fst ≤ (↑(List.length e0) : Int) ∧
                                                                p.snd.fst = e1.fst ++ List.map (fun (n : Int) => word (w64 (n + e4))) (List.take (Int.toNat p.fst) e0)) ∧
                          ∀ (p : Int × List Int × Unit),
                            let e2_1 : Int := e4;
                            let e1 : List Int × List Node × List (Int × Int) × Int × Unit := e1;
                            let e0 : List Int := List.drop (Int.toNat xs.snd.fst) (List.take (Int.toNat e3) (List.getD e1.snd.fst (Int.toNat xs.fst) e2).words);
                            (0 : Int) ≤ p.fst ∧ p.fst ≤ (↑(List.length e0) : Int) ∧ p.snd.fst = e1.fst ++ List.map (fun (n : Int) => word (w64 (n + e2_1))) (List.take (Int.toNat p.fst) e0) →
                              (decide (p.fst < (↑(List.length e0) : Int)) = true →
                                  ((0 : Int) ≤ p.fst ∧ p.fst < (↑(List.length e0) : Int)) ∧
                                    (List.length p.snd.fst +
                                            List.length [IntKind.wrap IntKind.i64 (IntKind.wrap IntKind.i32 (IntKind.wrap IntKind.i64 (List.getD e0 (Int.toNat p.fst) (0 : Int) + e2_1)))]) *
                                          (8 : Nat) ≤
                                        (140737488355328 : Nat) ∧
                                      ∃ (p' : Int × List Int × Unit),
                                        l = l ∧
                                          a = a ∧
                                            xs.fst = xs.fst ∧
                                              xs.snd.fst = xs.snd.fst ∧
                                                xs.snd.snd.fst = xs.snd.snd.fst ∧
                                                  e2_1 = e2_1 ∧
                                                    e0 = e0 ∧
                                                      (↑(List.length e0) : Int) = (↑(List.length e0) : Int) ∧
                                                        IntKind.wrap IntKind.i64 (p.fst + (1 : Int)) = p'.fst ∧
                                                          p.snd.fst ++
                                                                [IntKind.wrap IntKind.i64 (IntKind.wrap IntKind.i32 (IntKind.wrap IntKind.i64 (List.getD e0 (Int.toNat p.fst) (0 : Int) + e2_1)))] =
                                                              p'.snd.fst ∧
                                                            e1.snd.fst = e1.snd.fst ∧
                                                              e1.snd.snd.fst = e1.snd.snd.fst ∧
                                                                xs.fst = xs.fst ∧
                                                                  xs.snd.fst = xs.snd.fst ∧
                                                                    xs.snd.snd.fst = xs.snd.snd.fst ∧
                                                                      e2_1 = e2_1 ∧
                                                                        ((0 : Int) ≤ p'.fst ∧
                                                                            p'.fst ≤ (↑(List.length e0) : Int) ∧
                                                                              p'.snd.fst = e1.fst ++ List.map (fun (n : Int) => word (w64 (n + e2_1))) (List.take (Int.toNat p'.fst) e0)) ∧
                                                                          List.length e0 - Int.toNat p'.fst < List.length e0 - Int.toNat p.fst) ∧
                                (decide (p.fst < (↑(List.length e0) : Int)) = false →
                                  (true, p.snd.fst, e1.snd.fst, e1.snd.snd.fst, (0 : Int), ()) =
                                    (true, e1.fst ++ rwords e1.snd.fst xs.fst xs.snd.fst xs.snd.snd.fst e2_1, e1.snd.fst, e1.snd.snd.fst, e1.snd.snd.snd.fst, ()))) ∧
          (((((((List.length l ≤ (4000 : Nat) ∧ validOf l = true ∧ longOf l = longOf l) ∧
                        ((0 : Int) ≤ a ∧ a < (↑(List.length l) : Int)) ∧ isWord (0 : Int) = true ∧ (0 : Int) ≤ e0 ∧ ((0 : Int) < e0 → (0 : Int) ≤ (0 : Int) ∧ (0 : Int) + e0 ≤ at_ (lensOf l) a)) ∧
                      (↑(List.length ([] : List Int)) : Int) + e0 ≤ (1048576 : Int) ∧ (0 : Int) = (0 : Int)) ∧
                    True) ∧
                  l = l ∧ True) ∧
                longOf l = longOf l ∧ True) ∧
              True) ∧
            (0 : Int) = (0 : Int) ∧ ([] ++ walkW l a (0 : Int) e0 (0 : Int), (0 : Int), ()) = e1)) := by kernel_rfl

end Go.Rp
end

section
set_option linter.unusedVariables false
set_option linter.unusedSimpArgs false
set_option maxRecDepth 100000
open Go Go.VT
namespace Go.Rp

theorem walk_zero {l : List Node} {a f m add : Int} (h : m ≤ 0) : walkW l a f m add = [] := by
  unfold walkW
  rw [show m.toNat = 0 by omega]
  rfl

theorem walk_congr {l : List Node} {a f m add b g add' : Int} (h : ∀ i : Nat, (i : Int) < m → word (w64 ((wayAt l a (f + i)).2 + add)) = word (w64 ((wayAt l b (g + i)).2 + add'))) : walkW l a f m add = walkW l b g m add' := by
  unfold walkW
  refine List.map_congr_left (fun i hi => h i ?_)
  have := List.mem_range.1 hi
  omega

theorem walk_split {l : List Node} {a f m k add : Int} (h0 : 0 ≤ k) (h1 : k ≤ m) : walkW l a f m add = walkW l a f k add ++ walkW l a (f + k) (m - k) add := by
  unfold walkW
  obtain ⟨k, rfl⟩ := Int.eq_ofNat_of_zero_le h0
  obtain ⟨m, rfl⟩ := Int.eq_ofNat_of_zero_le (show 0 ≤ m by omega)
  rw [show ((m : Int) - (k : Int)).toNat = m - k by omega, Int.toNat_natCast, Int.toNat_natCast]
  have : List.range m = List.range k ++ (List.range (m - k)).map (k + ·) := by
    rw [← List.range_add]
    congr 1
    omega
  rw [this, List.map_append, List.map_map]
  congr 1
  refine List.map_congr_left (fun i _ => ?_)
  simp only [Function.comp_def, Int.natCast_add, Int.add_assoc]

theorem walk_length {l : List Node} {a f m add : Int} (h : 0 ≤ m) : ((walkW l a f m add).length : Int) = m := by
  unfold walkW
  simp
  omega

theorem range_words (w : List Int) (f m add : Int) (h0 : 0 ≤ f) (h1 : 0 ≤ m) (h2 : f + m ≤ w.length) : ((w.take (f + m).toNat).drop f.toNat).map (fun n => word (w64 (n + add))) = (List.range m.toNat).map fun i : Nat => word (w64 (at_ w (f + i) + add)) := by
  apply List.ext_getElem?
  intro i
  simp only [List.getElem?_map, List.getElem?_drop, List.getElem?_take]
  by_cases hi : i < m.toNat
  · rw [if_pos (by omega), List.getElem?_range hi]
    have hl : f.toNat + i < w.length := by omega
    rw [List.getElem?_eq_getElem hl]
    simp only [Option.map_some, at_]
    rw [show (f + (i : Int)).toNat = f.toNat + i by omega, List.getD_eq_getElem?_getD, List.getElem?_eq_getElem hl]
    rfl
  · rw [if_neg (by omega)]
    simp only [Option.map_none]
    rw [List.getElem?_eq_none (by simpa using Nat.le_of_not_lt hi)]
    rfl

theorem pieces_gives : Gives prog RG 52 cPieces := gives allNil (fun _ => noL) (by kernel_rfl) (by kernel_rfl) (by kernel_rfl) fun (l, L, a, f, m, d, ()) _ => (pieces_eq l L a f m d).mpr (by intro _ _; rfl)

/-- How a part of a rope goes. -/
theorem walk_cases {l : List Node} (hl : l.length ≤ 4000) (hv : validOf l = true) {a f m add : Int} (h0 : 0 ≤ a) (h1 : a < l.length) (hm : 0 < m) (f0 : 0 ≤ f) (f1 : f + m ≤ at_ (lensOf l) a) (hw : isWord add = true) {x : Node} (hx : x = l.getD a.toNat node0) :
    (x.kind = 0 ∧ f + m ≤ x.words.length ∧ rwords l a f m add = walkW l a f m add) ∨
    (x.kind = 1 ∧ (0 ≤ x.a ∧ x.a < a) ∧ (0 ≤ x.b ∧ x.b < a) ∧ (0 ≤ at_ (lensOf l) x.a ∧ at_ (lensOf l) x.a ≤ 1048576) ∧ f + m ≤ at_ (lensOf l) x.a + at_ (lensOf l) x.b ∧ at_ (lensOf l) a ≤ 1048576 ∧
      ∀ k : Int, 0 ≤ k → k ≤ m → (0 < k → f + k ≤ at_ (lensOf l) x.a) → (k < m → at_ (lensOf l) x.a ≤ f + k) → walkW l a f m add = walkW l x.a f k add ++ walkW l x.b (f + k - at_ (lensOf l) x.a) (m - k) add) ∨
    (x.kind = 2 ∧ (0 ≤ x.a ∧ x.a < a) ∧ (0 ≤ x.from_ ∧ x.from_ ≤ 1048576) ∧ at_ (lensOf l) a ≤ 1048576 ∧ x.from_ + f + m ≤ at_ (lensOf l) x.a ∧ walkW l a f m add = walkW l x.a (x.from_ + f) m add) ∨
    (x.kind = 3 ∧ (0 ≤ x.a ∧ x.a < a) ∧ f + m ≤ at_ (lensOf l) x.a ∧ walkW l a f m add = walkW l x.a f m (word (w64 (add + x.n)))) := by
  have cs : ∀ i : Nat, (i : Int) < m → _ := fun i hi => way_cases hv h0 h1 (p := f + i) (by omega) (by omega) hx
  have hle : at_ (lensOf l) a ≤ 1048576 := (lens_bound hv h0 h1).2
  have hla : nat_ l a = x := hx.symm
  have hlast : ((m.toNat - 1 : Nat) : Int) = m - 1 := by omega
  rcases cs 0 (by omega) with ⟨k, _⟩ | ⟨k, ha, hb, hA, _⟩ | ⟨k, ha, hf, _⟩ | ⟨k, ha, hn, _⟩
  · left
    have hlen : f + m ≤ x.words.length := by
      rcases cs (m.toNat - 1) (by omega) with ⟨_, h, _⟩ | ⟨k', _⟩ | ⟨k', _⟩ | ⟨k', _⟩
      · rw [hlast] at h; omega
      · omega
      · omega
      · omega
    refine ⟨k, hlen, ?_⟩
    unfold rwords walkW
    rw [hla, range_words _ _ _ _ f0 (by omega) hlen]
    refine List.map_congr_left (fun i hi => ?_)
    have hi := List.mem_range.1 hi
    rcases cs i (by omega) with ⟨_, _, h, _⟩ | ⟨k', _⟩ | ⟨k', _⟩ | ⟨k', _⟩
    · rw [h]
    · omega
    · omega
    · omega
  · right; left
    have hsum : f + m ≤ at_ (lensOf l) x.a + at_ (lensOf l) x.b := by
      rcases cs (m.toNat - 1) (by omega) with ⟨k', _⟩ | ⟨_, _, _, _, hlt, hge⟩ | ⟨k', _⟩ | ⟨k', _⟩
      · omega
      · rw [hlast] at hlt hge
        by_cases hc : f + (m - 1) < at_ (lensOf l) x.a
        · have := (lens_bound hv hb.1 (by omega : x.b < l.length)).1
          omega
        · have := (hge hc).1
          omega
      · omega
      · omega
    refine ⟨k, ha, hb, hA, hsum, hle, fun q q0 q1 q2 q3 => ?_⟩
    rw [walk_split (k := q) q0 q1]
    congr 1
    · refine walk_congr (fun i hi => ?_)
      rcases cs i (by omega) with ⟨k', _⟩ | ⟨_, _, _, _, hlt, hge⟩ | ⟨k', _⟩ | ⟨k', _⟩
      · omega
      · have := q2 (by omega)
        rw [hlt (by omega)]
      · omega
      · omega
    · refine walk_congr (fun i hi => ?_)
      have hqm : q < m := by omega
      have hlen := q3 hqm
      rcases cs (q.toNat + i) (by omega) with ⟨k', _⟩ | ⟨_, _, _, _, hlt, hge⟩ | ⟨k', _⟩ | ⟨k', _⟩
      · omega
      · have e1 : f + ((q.toNat + i : Nat) : Int) = f + q + i := by omega
        rw [e1] at hge
        rw [(hge (by omega)).2]
        rw [show f + q + (i : Int) - at_ (lensOf l) x.a = f + q - at_ (lensOf l) x.a + i by omega]
      · omega
      · omega
  · right; right; left
    refine ⟨k, ha, hf, hle, ?_, walk_congr (fun i hi => ?_)⟩
    · rcases cs (m.toNat - 1) (by omega) with ⟨k', _⟩ | ⟨k', _⟩ | ⟨_, _, _, h, _⟩ | ⟨k', _⟩
      · omega
      · omega
      · rw [hlast] at h; omega
      · omega
    · rcases cs i (by omega) with ⟨k', _⟩ | ⟨k', _⟩ | ⟨_, _, _, _, h⟩ | ⟨k', _⟩
      · omega
      · omega
      · rw [h, Int.add_assoc]
      · omega
  · right; right; right
    refine ⟨k, ha, ?_, walk_congr (fun i hi => ?_)⟩
    · rcases cs (m.toNat - 1) (by omega) with ⟨k', _⟩ | ⟨k', _⟩ | ⟨k', _⟩ | ⟨_, _, _, h, _⟩
      · omega
      · omega
      · omega
      · rw [hlast] at h; omega
    · rcases cs i (by omega) with ⟨k', _⟩ | ⟨k', _⟩ | ⟨k', _⟩ | ⟨_, _, hn, hp, h⟩
      · omega
      · omega
      · omega
      · rw [h]
        exact word_add (way_bounds hl hv _ x.a (f + i) rfl ha.1 (by omega) (by omega) hp).2 hn hw
end Go.Rp
end
