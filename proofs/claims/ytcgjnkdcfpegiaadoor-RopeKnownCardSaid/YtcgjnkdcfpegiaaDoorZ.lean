/-
RopeKnown answers true.
-/
import Derived.Test.YtcgjnkdcfpegiaaDoorV4
import Derived.Test.YtcgjnkdcfpegiaaDoorCards
import Derived.Test.YtcgjnkdcfpegiaaDoorTie
import Derived.SevenTiedAt

section
set_option linter.unusedVariables false
set_option linter.unusedSimpArgs false
set_option maxRecDepth 100000
open Go Go.VT
namespace Go.Rp

theorem clone_gives : Gives prog RG 70 cClone := gives allNil (fun _ => noL) (by kernel_rfl) (by kernel_rfl) (by kernel_rfl) fun (l, ()) hp => (clone_eq l).mpr (by
  have hp : l.length ≤ 17592186044416 := hp
  intro hs b e0 hb
  have he : e0 = b := rfl
  refine ⟨fun h => ?_, fun h => ⟨by omega, rfl⟩⟩
  rw [hb (he ▸ h)])

theorem ownS_vc (l : List Node) (L : List (Int × Int)) (hp : few' l) : vc (EV [(70, cClone)]) (lOwnS l) Go.Proofs.Tryd.f59 cOwnS (l, L, ()) := (ownS_eq l L).mpr (by
  obtain ⟨hp1, hp2⟩ := hp
  intro e1 e0 hs
  have hl : l.length ≤ 140737488355328 := hs.len
  have he0 : e0 = l := by
    show List.take (List.length (List.replicate (Int.toNat (l.length : Int)) e1)) l ++ List.drop l.length (List.replicate (Int.toNat (l.length : Int)) e1) = l
    rw [Int.toNat_natCast, List.length_replicate, List.take_length, List.drop_of_length_le (by simp), List.append_nil]
  have hb : List.take (List.length (List.replicate (Int.toNat (l.length : Int)) e1)) l ++ List.drop l.length (List.replicate (Int.toNat (l.length : Int)) e1) = l := he0
  refine ⟨⟨by omega, by omega⟩, ⟨(0, l, ()), rfl, rfl, rfl, rfl, he0, Int.le_refl _, by dsimp only; omega, rfl⟩, ?_⟩
  rintro ⟨i, m, ⟨⟩⟩
  dsimp only
  rintro ⟨q0, q1, rfl⟩
  obtain ⟨k, rfl⟩ := Int.eq_ofNat_of_zero_le q0
  rw [hb]
  simp only [Int.toNat_natCast]
  refine ⟨fun hk => ?_, fun hk => by trivial⟩
  have hk : k < m.length := by simpa using hk
  have hg : m.getD k e1 = m[k] := by simp [List.getD, List.getElem?_eq_getElem hk]
  refine ⟨⟨q0, by omega⟩, ?_, ⟨q0, by omega⟩, ((k + 1 : Nat), m, ()), by trivial, ?_, by trivial, by trivial, ?_, ⟨by omega, by dsimp only; omega, rfl⟩, by dsimp only; omega⟩
  · rw [hg]
    have := hp2 m[k] (List.getElem_mem _)
    omega
  · rw [w64_id (by omega) (by omega)]; rfl
  · dsimp only
    rw [hg]
    exact List.set_getElem_self hk)
theorem ownS_gives : Gives prog RG 59 cOwnS := gives (allCons clone_gives allNil) (fun p => lOwnS p.1) (by kernel_rfl) (by kernel_rfl) (by kernel_rfl) fun (l, L, ()) hp => ownS_vc l L hp

theorem put_gives : Gives prog RG 60 cPut := gives (allCons must_gives allNil) (fun _ => noL) (by kernel_rfl) (by kernel_rfl) (by kernel_rfl) fun (l, L, x1, x2, x3, x4, x5, x6, w, long, ()) hp => (put_eq l L x1 x2 x3 x4 x5 x6 w long).mpr (by
  intro e1 e0 hs1 hs2
  have he : e1 = putBad l long := rfl
  refine ⟨fun h => ⟨he ▸ h, rfl, trivial⟩, fun h => ⟨?_, he ▸ h, rfl⟩⟩
  have h : (l.length : Int) < 4000 := by
    have := he ▸ h
    simp only [putBad, Bool.not_eq_false', Bool.and_eq_true, decide_eq_true_eq] at this
    exact this.1
  show (l.length + 1) * 72 ≤ _
  omega)

theorem made_gives : Gives prog RG 69 cMade := gives (allCons ownS_gives (allCons put_gives allNil)) (fun _ => noL) (by kernel_rfl) (by kernel_rfl) (by kernel_rfl) fun (l, L, x1, x2, x3, x4, x5, x6, w, long, ()) hp => (made_eq l L x1 x2 x3 x4 x5 x6 w long).mpr (by
  intro e0 hs1 hs2
  exact ⟨hp, fun h => ⟨h, rfl, trivial⟩, fun h => ⟨h, rfl⟩⟩)

theorem way_cases {l : List Node} (hv : validOf l = true) {a p : Int} (h0 : 0 ≤ a) (h1 : a < l.length) (p0 : 0 ≤ p) (p1 : p < at_ (lensOf l) a) {x : Node} (hx : x = l.getD a.toNat node0) :
    (x.kind = 0 ∧ p < x.words.length ∧ wayAt l a p = (1, at_ x.words p) ∧ isWord (at_ x.words p) = true) ∨
    (x.kind = 1 ∧ (0 ≤ x.a ∧ x.a < a) ∧ (0 ≤ x.b ∧ x.b < a) ∧ (0 ≤ at_ (lensOf l) x.a ∧ at_ (lensOf l) x.a ≤ 1048576) ∧
      (p < at_ (lensOf l) x.a → wayAt l a p = (w64 ((wayAt l x.a p).1 + 1), (wayAt l x.a p).2)) ∧
      (¬ p < at_ (lensOf l) x.a → p - at_ (lensOf l) x.a < at_ (lensOf l) x.b ∧ wayAt l a p = (w64 ((wayAt l x.b (p - at_ (lensOf l) x.a)).1 + 1), (wayAt l x.b (p - at_ (lensOf l) x.a)).2))) ∨
    (x.kind = 2 ∧ (0 ≤ x.a ∧ x.a < a) ∧ (0 ≤ x.from_ ∧ x.from_ ≤ 1048576) ∧ x.from_ + p < at_ (lensOf l) x.a ∧ wayAt l a p = (w64 ((wayAt l x.a (x.from_ + p)).1 + 1), (wayAt l x.a (x.from_ + p)).2)) ∨
    (x.kind = 3 ∧ (0 ≤ x.a ∧ x.a < a) ∧ isWord x.n = true ∧ p < at_ (lensOf l) x.a ∧ wayAt l a p = (w64 ((wayAt l x.a p).1 + 1), word (w64 ((wayAt l x.a p).2 + x.n)))) := by
  have hll := lensOf_length l
  have hi : a.toNat < l.length := by omega
  have hcast : ((a.toNat : Nat) : Int) = a := by omega
  obtain ⟨hb, hk0, hk1, hk2, hk3, hkk⟩ := valid_lens hv a.toNat hi
  rw [hcast] at hb hk0 hk1 hk2 hk3
  have hfd := valid_fields hv a.toNat hi
  rw [← hx] at hk0 hk1 hk2 hk3 hkk hfd
  have hway : wayAt l a p = wayOf l (lensOf l) (a.toNat + 1) a p := rfl
  have hrec : ∀ b p : Int, 0 ≤ b → b < a → wayOf l (lensOf l) a.toNat b p = wayAt l b p := fun b p q0 q1 => wayAt_eq hv h0 h1 b p q0 q1
  unfold wayOf at hway
  rw [nat_getD, ← hx] at hway
  have bnd : ∀ b : Int, 0 ≤ b → b < a → 0 ≤ at_ (lensOf l) b ∧ at_ (lensOf l) b ≤ 1048576 := by
    intro b q0 q1
    exact lens_bound hv q0 (by omega)
  rcases hkk with k | k | k | k
  · left
    rw [if_pos k] at hway
    have hw : x.words.all isWord = true := by
      unfold fieldsOf at hfd
      rw [if_pos k] at hfd
      simp only [Bool.and_eq_true] at hfd
      exact hfd.2
    have hlt : p < x.words.length := by rw [← hk0 k]; exact p1
    refine ⟨k, hlt, hway, ?_⟩
    have := List.all_eq_true.1 hw (x.words.getD p.toNat 0) (by
      simp only [List.getD, List.getElem?_eq_getElem (show p.toNat < x.words.length by omega), Option.getD_some]
      exact List.getElem_mem _)
    exact this
  · right; left
    have hab := (fields_ahead hfd).1 k
    rw [hcast] at hab
    have ha' := bnd x.a hab.1.1 hab.1.2
    have hb' := bnd x.b hab.2.1 hab.2.2
    have hs := hk1 k
    rw [if_neg (by omega), if_pos k] at hway
    refine ⟨k, hab.1, hab.2, ha', fun hlt => ?_, fun hge => ?_⟩
    · rw [if_pos hlt, hrec _ _ hab.1.1 hab.1.2] at hway
      exact hway
    · have hw : w64 (p - at_ (lensOf l) x.a) = p - at_ (lensOf l) x.a := w64_id (by omega) (by omega)
      rw [if_neg hge, hw, hrec _ _ hab.2.1 hab.2.2] at hway
      exact ⟨by omega, hway⟩
  · right; right; left
    have ha := fields_a hfd (by omega)
    rw [hcast] at ha
    have ha' := bnd x.a ha.1 ha.2
    obtain ⟨q1, q2, q3, q4⟩ := hk2 k
    have hw : w64 (x.from_ + p) = x.from_ + p := w64_id (by omega) (by omega)
    rw [if_neg (by omega), if_neg (by omega), if_pos k, hw, hrec _ _ ha.1 ha.2] at hway
    exact ⟨k, ha, ⟨by omega, by omega⟩, by omega, hway⟩
  · right; right; right
    have ha := fields_a hfd (by omega)
    rw [hcast] at ha
    have hs := hk3 k
    rw [if_neg (by omega), if_neg (by omega), if_neg (by omega), hrec _ _ ha.1 ha.2] at hway
    refine ⟨k, ha, ?_, by omega, hway⟩
    unfold fieldsOf at hfd
    rw [if_neg (by omega), if_neg (by omega), if_neg (by omega), if_pos k] at hfd
    simp only [Bool.and_eq_true] at hfd
    exact hfd.2

theorem isWord_word (n : Int) : isWord (word n) = true := by
  unfold isWord word
  rw [lies_iff, IntKind.wrap_i32]
  omega

theorem isWord_iff {n : Int} : isWord n = true ↔ -2147483648 ≤ n ∧ n ≤ 2147483647 := by rw [isWord, lies_iff]

theorem way_bounds {l : List Node} (hl : l.length ≤ 4000) (hv : validOf l = true) : ∀ (k : Nat) (a p : Int), a.toNat = k → 0 ≤ a → a < l.length → 0 ≤ p → p < at_ (lensOf l) a → (1 ≤ (wayAt l a p).1 ∧ (wayAt l a p).1 ≤ a + 1) ∧ isWord (wayAt l a p).2 = true := by
  intro k
  induction k using Nat.strongRecOn with
  | ind k ih =>
    intro a p hk h0 h1 p0 p1
    rcases way_cases hv h0 h1 p0 p1 rfl with ⟨_, _, h, hw⟩ | ⟨_, ha, hb, hla, hlt, hge⟩ | ⟨_, ha, hf, hp, h⟩ | ⟨_, ha, hn, hp, h⟩
    · rw [h]; exact ⟨⟨by dsimp only; omega, by dsimp only; omega⟩, hw⟩
    · by_cases hc : p < at_ (lensOf l) (l.getD a.toNat node0).a
      · have := ih _ (by omega) (l.getD a.toNat node0).a p rfl ha.1 (by omega) p0 hc
        rw [hlt hc]
        dsimp only
        have e : w64 ((wayAt l (l.getD a.toNat node0).a p).1 + 1) = (wayAt l (l.getD a.toNat node0).a p).1 + 1 := w64_id (by omega) (by omega)
        rw [e]
        exact ⟨⟨by omega, by omega⟩, this.2⟩
      · obtain ⟨q1, q2⟩ := hge hc
        have := ih _ (by omega) (l.getD a.toNat node0).b _ rfl hb.1 (by omega) (by omega) q1
        rw [q2]
        dsimp only
        generalize wayAt l (l.getD a.toNat node0).b (p - at_ (lensOf l) (l.getD a.toNat node0).a) = z at this ⊢
        have e : w64 (z.1 + 1) = z.1 + 1 := w64_id (by omega) (by omega)
        rw [e]
        exact ⟨⟨by omega, by omega⟩, this.2⟩
    · have := ih _ (by omega) (l.getD a.toNat node0).a _ rfl ha.1 (by omega) (by omega) hp
      rw [h]
      dsimp only
      generalize wayAt l (l.getD a.toNat node0).a ((l.getD a.toNat node0).from_ + p) = z at this ⊢
      have e : w64 (z.1 + 1) = z.1 + 1 := w64_id (by omega) (by omega)
      rw [e]
      exact ⟨⟨by omega, by omega⟩, this.2⟩
    · have := ih _ (by omega) (l.getD a.toNat node0).a _ rfl ha.1 (by omega) p0 hp
      rw [h]
      dsimp only
      generalize wayAt l (l.getD a.toNat node0).a p = z at this ⊢
      have e : w64 (z.1 + 1) = z.1 + 1 := w64_id (by omega) (by omega)
      rw [e]
      exact ⟨⟨by omega, by omega⟩, isWord_word _⟩

theorem word_id {n : Int} (h : isWord n = true) : word n = n := by
  rw [isWord_iff] at h
  unfold word
  rw [IntKind.wrap_i32]
  omega

theorem word_add {w n add : Int} (hw : isWord w = true) (hn : isWord n = true) (ha : isWord add = true) : word (w64 (word (w64 (w + n)) + add)) = word (w64 (w + word (w64 (add + n)))) := by
  rw [isWord_iff] at hw hn ha
  have e1 : w64 (w + n) = w + n := w64_id (by omega) (by omega)
  have e2 : w64 (add + n) = add + n := w64_id (by omega) (by omega)
  rw [e1, e2]
  have b1 := isWord_iff.1 (isWord_word (w + n))
  have b2 := isWord_iff.1 (isWord_word (add + n))
  have e3 : w64 (word (w + n) + add) = word (w + n) + add := w64_id (by omega) (by omega)
  have e4 : w64 (w + word (add + n)) = w + word (add + n) := w64_id (by omega) (by omega)
  rw [e3, e4]
  unfold word
  simp only [IntKind.wrap_i32]
  omega

theorem conv_word (n : Int) : IntKind.i64.wrap (IntKind.i32.wrap n) = word n := by
  have := isWord_iff.1 (isWord_word n)
  unfold word at this ⊢
  exact w64_id (by omega) (by omega)

theorem at_vc (l : List Node) (a p : Int) (hl : l.length ≤ 4000) (hv : validOf l = true) (h0 : 0 ≤ a) (h1 : a < l.length) (p0 : 0 ≤ p) (p1 : p < at_ (lensOf l) a) :
    vc (EV []) (lAt l a p) Go.Proofs.Tryd.f57 cAt (l, longOf l, a, p, ()) := (at_eq l (longOf l) a p).mpr (by
  intro hs
  obtain ⟨hb0, hw0⟩ := way_bounds hl hv _ a p rfl h0 h1 p0 p1
  refine ⟨⟨(a, p, 0, 1, ()), rfl, rfl, rfl, rfl, rfl, rfl, ⟨h0, Int.le_refl _⟩, ⟨p0, p1⟩, ⟨Int.le_refl _, by dsimp only; omega⟩, ⟨show isWord 0 = true by decide, ?_⟩, ?_⟩, ?_⟩
  · dsimp only
    rw [Int.add_zero]
    have := isWord_iff.1 hw0
    have e : w64 (wayAt l a p).2 = (wayAt l a p).2 := w64_id (by omega) (by omega)
    rw [e, word_id hw0]
  · dsimp only; omega
  rintro ⟨b, q, add, way, ⟨⟩⟩
  dsimp only
  rintro ⟨⟨i0, i1⟩, ⟨j0, j1⟩, ⟨c0, c1⟩, ⟨ia, iw⟩, ic⟩
  have hbl : b < l.length := by omega
  obtain ⟨hbb, hwb⟩ := way_bounds hl hv _ b q rfl i0 hbl j0 j1
  have hway : IntKind.wrap IntKind.i64 (way + 1) = way + 1 := w64_id (by omega) (by omega)
  rw [iw, ic, hway]
  have hcs := way_cases hv i0 hbl j0 j1 (x := l.getD b.toNat node0) rfl
  have hcst : List.getD l b.toNat (Node.mk 0 0 0 0 0 0 []) = l.getD b.toNat node0 := rfl
  rw [hcst]
  generalize l.getD b.toNat node0 = x at hcs ⊢
  have hgl : 0 ≤ x.a → x.a < l.length → Option.getD (mget (fun x y => x == y) (longOf l) x.a) 0 = at_ (lensOf l) x.a := fun a b => lg_long a b
  refine ⟨⟨i0, hbl⟩, ?_⟩
  have hwy : ∀ c r : Int, 0 ≤ c → c < b → 0 ≤ r → r < at_ (lensOf l) c → w64 ((wayAt l c r).1 + 1) = (wayAt l c r).1 + 1 := by
    intro c r z0 z1 z2 z3
    have := (way_bounds hl hv _ c r rfl z0 (by omega) z2 z3).1
    exact w64_id (by omega) (by omega)
  rcases hcs with ⟨k, hlt, h, hw⟩ | ⟨k, ha, hb, hla, hlt, hge⟩ | ⟨k, ha, hf, hp, h⟩ | ⟨k, ha, hn, hp, h⟩
  · refine ⟨fun _ => ⟨⟨j0, hlt⟩, ?_⟩, fun hk => ?_⟩
    · rw [conv_word, h]
      simp only [at_]
      rw [show way - 1 + 1 = way by omega]
    · simp [k] at hk
  · refine ⟨fun hk => by simp [k] at hk, fun _ => ⟨fun hk => by simp [k] at hk, fun _ => ⟨fun hk => by simp [k] at hk, fun _ => ?_⟩⟩⟩
    rw [hgl ha.1 (by omega)]
    refine ⟨fun hc => ?_, fun hc => ?_⟩
    · have hc : q < at_ (lensOf l) x.a := by simpa using hc
      rw [hlt hc]
      exact ⟨(x.a, q, add, way + 1, ()), by trivial, by trivial, by trivial, by trivial, by trivial, by trivial, ⟨⟨ha.1, by dsimp only; omega⟩, ⟨j0, hc⟩, ⟨by dsimp only; omega, by dsimp only; omega⟩, ⟨ia, rfl⟩, by dsimp only; rw [hwy _ _ ha.1 ha.2 j0 hc]; omega⟩, by dsimp only; omega⟩
    · have hc : ¬ q < at_ (lensOf l) x.a := by simpa using hc
      obtain ⟨g1, g2⟩ := hge hc
      have hle : at_ (lensOf l) b ≤ 1048576 := (lens_bound hv i0 hbl).2
      have e : IntKind.wrap IntKind.i64 (q - at_ (lensOf l) x.a) = q - at_ (lensOf l) x.a := w64_id (by omega) (by omega)
      rw [g2, e]
      exact ⟨(x.b, q - at_ (lensOf l) x.a, add, way + 1, ()), by trivial, by trivial, by trivial, by trivial, by trivial, by trivial, ⟨⟨hb.1, by dsimp only; omega⟩, ⟨by dsimp only; omega, g1⟩, ⟨by dsimp only; omega, by dsimp only; omega⟩, ⟨ia, rfl⟩, by dsimp only; rw [hwy _ _ hb.1 hb.2 (by omega) g1]; omega⟩, by dsimp only; omega⟩
  · refine ⟨fun hk => by simp [k] at hk, fun _ => ⟨fun _ => ?_, fun hk => by simp [k] at hk⟩⟩
    have hle : at_ (lensOf l) b ≤ 1048576 := (lens_bound hv i0 hbl).2
    have e : IntKind.wrap IntKind.i64 (q + x.from_) = x.from_ + q := by
      rw [Int.add_comm]
      exact w64_id (by omega) (by omega)
    rw [h, e]
    exact ⟨(x.a, x.from_ + q, add, way + 1, ()), by trivial, by trivial, by trivial, by trivial, by trivial, by trivial, ⟨⟨ha.1, by dsimp only; omega⟩, ⟨by dsimp only; omega, hp⟩, ⟨by dsimp only; omega, by dsimp only; omega⟩, ⟨ia, rfl⟩, by dsimp only; rw [hwy _ _ ha.1 ha.2 (by omega) hp]; omega⟩, by dsimp only; omega⟩
  · refine ⟨fun hk => by simp [k] at hk, fun _ => ⟨fun hk => by simp [k] at hk, fun _ => ⟨fun _ => ?_, fun hk => by simp [k] at hk⟩⟩⟩
    rw [h, conv_word]
    have hw2 := (way_bounds hl hv _ x.a q rfl ha.1 (by omega) j0 hp).2
    refine ⟨(x.a, q, word (w64 (add + x.n)), way + 1, ()), by trivial, by trivial, by trivial, by trivial, by trivial, by trivial, ⟨⟨ha.1, by dsimp only; omega⟩, ⟨j0, hp⟩, ⟨by dsimp only; omega, by dsimp only; omega⟩, ⟨isWord_word _, ?_⟩, by dsimp only; rw [hwy _ _ ha.1 ha.2 j0 hp]; omega⟩, by dsimp only; omega⟩
    dsimp only
    exact word_add hw2 hn ia)
theorem at_gives : Gives prog RG 57 cAt := gives allNil (fun p => lAt p.1 p.2.2.1 p.2.2.2.1) (by kernel_rfl) (by kernel_rfl) (by kernel_rfl) fun (l, L, a, p, ()) hp => by
  obtain ⟨⟨hl, hv, hL⟩, ⟨h0, h1⟩, p0, p1⟩ := hp
  have hL : L = longOf l := hL
  subst hL
  exact at_vc l a p hl hv h0 h1 p0 p1
end Go.Rp
end

section
set_option linter.unusedVariables false
set_option linter.unusedSimpArgs false
set_option maxRecDepth 100000
open Go Go.VT
namespace Go.Rp

theorem more_put {l : List Node} {x : Node} {long : Int} (h : lenOf (lensOf l) x = min long 2097152) :
    (putBad l long = true → moreOf l x = ([], 0, 9)) ∧ (putBad l long = false → moreOf l x = (l ++ [x], (l.length : Int), 0)) := by
  have hg : (lensOf (l ++ [x])).getD l.length 0 = min long 2097152 := by
    rw [lensOf_snoc, List.getD_eq_getElem?_getD, List.getElem?_append_right (by rw [lensOf_length]; exact Nat.le_refl _), lensOf_length]
    simp [h]
  unfold moreOf putBad
  rw [hg]
  refine ⟨fun hb => if_pos ?_, fun hb => if_neg ?_⟩
  · simp only [Bool.not_eq_true', Bool.and_eq_false_iff, decide_eq_false_iff_not] at hb
    omega
  · simp only [Bool.not_eq_false', Bool.and_eq_true, decide_eq_true_eq] at hb
    omega

theorem few_valid {l : List Node} {r : List Int} (h : askedOf l r = 0) : l.length ≤ 4000000 ∧ ∀ x : Node, List.Mem x l → x.words.length ≤ 4000000 := by
  obtain ⟨h1, h2, h3⟩ := asked_ok h
  exact ⟨by omega, fun x hx => valid_few h2 x hx⟩

theorem ne_true {a : Int} : (a != 0) = true ↔ a ≠ 0 := by simp
theorem ne_false {a : Int} : (a != 0) = false ↔ a = 0 := by simp

theorem checkP_gives : Gives prog RG 33 cCheck := givesD (allCons open_gives allNil) (fun _ => noL) (by kernel_rfl) (by kernel_rfl) (by kernel_rfl) fun (l, ()) _ => (checkP_eq l).mpr (by
  intro _
  have hc : askedOf l [] = checkOf l := by unfold askedOf; split <;> simp_all
  rw [hc]
  exact ⟨fun _ => rfl, fun h => by rw [ne_false.1 h]⟩)

theorem lenP_gives : Gives prog RG 13 cLenR := givesD (allCons open_gives allNil) (fun _ => noL) (by kernel_rfl) (by kernel_rfl) (by kernel_rfl) fun (l, a, ()) _ => (lenP_eq l a).mpr (by
  intro e1 e0 _
  refine ⟨fun h => ?_, fun h => ?_⟩
  · have h := ne_true.1 h
    simp only [e0, lenAt, if_pos h]
  · have h := ne_false.1 h
    obtain ⟨h1, h2, h3⟩ := asked_ok h
    have := h3 a (by simp)
    simp only [e0, lenAt, h, ne_eq, not_true, if_false]
    rw [← lg_long this.1 this.2]
    rfl)

theorem costP_gives : Gives prog RG 21 cCostR := givesD (allCons open_gives (allCons must_gives (allCons has_gives (allCons at_gives allNil)))) (fun _ => noL) (by kernel_rfl) (by kernel_rfl) (by kernel_rfl) fun (l, a, p, ()) _ => (costP_eq l a p).mpr (by
  intro e2 e1 e0 _
  refine ⟨fun h => ?_, fun h => ?_⟩
  · have h := ne_true.1 h
    simp only [e0, costAt, if_pos h]
  · have h := ne_false.1 h
    obtain ⟨h1, h2, h3⟩ := asked_ok h
    have ha := h3 a (by simp)
    have hl : Option.getD (mget (fun (x y : Int) => x == y) (longOf l) a) (0 : Int) = at_ (lensOf l) a := lg_long ha.1 ha.2
    have he : e1 = !lies p 0 (at_ (lensOf l) a - 1) := by
      simp only [e1, hl, lies]
      congr 2
      simp only [decide_eq_decide]
      omega
    refine ⟨fun hb => ?_, fun hb => ?_⟩
    · simp only [e0, costAt, h, ne_eq, not_true, if_false]
      rw [if_pos (he ▸ hb)]
    · have hlie : lies p 0 (at_ (lensOf l) a - 1) = true := by rw [he] at hb; simpa using hb
      have hp := lies_iff.1 hlie
      refine ⟨⟨⟨⟨⟨h1, h2, rfl⟩, ha, hp.1, by omega⟩, rfl, trivial⟩, rfl, trivial⟩, ?_⟩
      simp only [e0, costAt, h, ne_eq, not_true, if_false, hlie, Bool.not_true, Bool.false_eq_true])

theorem part_bool (L f m : Int) (hL : 0 ≤ L ∧ L ≤ 1048576) : (!(decide (m ≥ 0) && decide (m ≤ L) && decide (f ≥ 0) && decide (f ≤ IntKind.i64.wrap (L - m)))) = !isPartOf L f m := by
  simp only [isPartOf, lies]
  congr 1
  rw [Bool.eq_iff_iff]
  simp only [Bool.and_eq_true, decide_eq_true_eq]
  constructor
  · rintro ⟨⟨⟨q1, q2⟩, q3⟩, q4⟩
    rw [w64_id (by omega) (by omega)] at q4
    rw [show w64 (L - f) = L - f from w64_id (by omega) (by omega)]
    omega
  · rintro ⟨⟨q1, q2⟩, q3, q4⟩
    rw [show w64 (L - f) = L - f from w64_id (by omega) (by omega)] at q4
    rw [w64_id (by omega) (by omega)]
    omega

theorem wordsP_gives : Gives prog RG 29 cWordsR := givesD (allCons open_gives (allCons must_gives (allCons any67_gives (allCons made_gives (allCons clone_gives allNil))))) (fun _ => noL) (by kernel_rfl) (by kernel_rfl) (by kernel_rfl) fun (l, w, ()) hw => (wordsP_eq l w).mpr (by
  have hw : w.length ≤ 4000000 := hw
  intro e2 e1 e0 _ _
  refine ⟨fun h => ?_, fun h => ?_⟩
  · have h := ne_true.1 h
    simp only [e0, wordsOf, if_pos h]
  · have h := ne_false.1 h
    have he1 : e1 = !w.all isWord := any_all w
    have hw0 : wordsOf l w = if (!w.all isWord) = true then ([], 0, 2) else moreOf l ⟨0, 0, 0, 0, 0, 0, w⟩ := by
      unfold wordsOf
      rw [if_neg (by simp [h])]
    refine ⟨fun hb => ?_, fun hb => ⟨by omega, few_valid h, ?_⟩⟩
    · simp only [e0, hw0, if_pos (he1 ▸ hb)]
    · rw [if_neg (by rw [← he1, hb]; simp)] at hw0
      obtain ⟨m1, m2⟩ := more_put (l := l) (x := ⟨0, 0, 0, 0, 0, 0, w⟩) (long := w.length) (by simp [lenOf])
      exact ⟨fun hp => by simp only [e0, hw0, m1 hp], fun hp => by simp only [e0, hw0, m2 hp]⟩)

theorem catP_gives : Gives prog RG 31 cCatR := givesD (allCons open_gives (allCons made_gives allNil)) (fun _ => noL) (by kernel_rfl) (by kernel_rfl) (by kernel_rfl) fun (l, a, b, ()) _ => (catP_eq l a b).mpr (by
  intro e2 e1 e0 _
  refine ⟨fun h => ?_, fun h => ?_⟩
  · have h := ne_true.1 h
    simp only [e0, catOf, if_pos h]
  · have h := ne_false.1 h
    obtain ⟨h1, h2, h3⟩ := asked_ok h
    have ha := h3 a (by simp)
    have hb := h3 b (by simp)
    have hla : Option.getD (mget (fun (x y : Int) => x == y) (longOf l) a) (0 : Int) = at_ (lensOf l) a := lg_long ha.1 ha.2
    have hlb : Option.getD (mget (fun (x y : Int) => x == y) (longOf l) b) (0 : Int) = at_ (lensOf l) b := lg_long hb.1 hb.2
    have hw0 : catOf l a b = moreOf l ⟨1, a, b, 0, 0, 0, []⟩ := by
      unfold catOf
      rw [if_neg (by simp [h])]
    obtain ⟨m1, m2⟩ := more_put (l := l) (x := ⟨1, a, b, 0, 0, 0, []⟩) (long := w64 (at_ (lensOf l) a + at_ (lensOf l) b)) (by simp [lenOf])
    have he1 : e1 = putBad l (w64 (at_ (lensOf l) a + at_ (lensOf l) b)) := by simp only [e1, hla, hlb]
    rw [he1]
    exact ⟨few_valid h, fun hp => by simp only [e0, hw0, m1 hp], fun hp => by simp only [e0, hw0, m2 hp]⟩)

theorem partP_gives : Gives prog RG 35 cPartR := givesD (allCons open_gives (allCons must_gives (allCons made_gives allNil))) (fun _ => noL) (by kernel_rfl) (by kernel_rfl) (by kernel_rfl) fun (l, a, f, m, ()) _ => (partP_eq l a f m).mpr (by
  intro e4 e3 e2 e1 e0 _
  refine ⟨fun h => ?_, fun h => ?_⟩
  · have h := ne_true.1 h
    simp only [e0, e3, partOf, if_pos h]
  · have h := ne_false.1 h
    obtain ⟨h1, h2, h3⟩ := asked_ok h
    have ha := h3 a (by simp)
    have hla : e2 = at_ (lensOf l) a := lg_long ha.1 ha.2
    have hbd := lens_bound h2 ha.1 ha.2
    have he1 : e1 = !isPartOf (at_ (lensOf l) a) f m := by
      simp only [e1, hla]
      exact part_bool _ f m hbd
    have hw0 : partOf l a f m = if (!isPartOf (at_ (lensOf l) a) f m) = true then ([], 0, 2) else moreOf l ⟨2, a, 0, f, m, 0, []⟩ := by
      unfold partOf
      rw [if_neg (by simp [h])]
    refine ⟨fun hb => ?_, fun hb => ⟨few_valid h, ?_⟩⟩
    · simp only [e0, e3, hw0, if_pos (he1 ▸ hb)]
    · rw [if_neg (by rw [← he1, hb]; simp)] at hw0
      obtain ⟨m1, m2⟩ := more_put (l := l) (x := ⟨2, a, 0, f, m, 0, []⟩) (long := m) (by simp [lenOf])
      exact ⟨fun hp => by simp only [e0, e3, hw0, m1 hp], fun hp => by simp only [e0, e3, hw0, m2 hp]⟩)

theorem offP_gives : Gives prog RG 37 cOffR := givesD (allCons open_gives (allCons must_gives (allCons isW_gives (allCons made_gives allNil)))) (fun _ => noL) (by kernel_rfl) (by kernel_rfl) (by kernel_rfl) fun (l, a, n, ()) _ => (offP_eq l a n).mpr (by
  intro e2 e1 e0 _
  refine ⟨fun h => ?_, fun h => ?_⟩
  · have h := ne_true.1 h
    simp only [e0, offOf, if_pos h]
  · have h := ne_false.1 h
    obtain ⟨h1, h2, h3⟩ := asked_ok h
    have ha := h3 a (by simp)
    have hla : Option.getD (mget (fun (x y : Int) => x == y) (longOf l) a) (0 : Int) = at_ (lensOf l) a := lg_long ha.1 ha.2
    have he1 : e1 = putBad l (at_ (lensOf l) a) := by simp only [e1, hla]
    have hw0 : offOf l a n = if (!isWord n) = true then ([], 0, 2) else moreOf l ⟨3, a, 0, 0, 0, n, []⟩ := by
      unfold offOf
      rw [if_neg (by simp [h])]
    refine ⟨fun hb => ?_, fun hb => ⟨few_valid h, ?_⟩⟩
    · simp only [e0, hw0, if_pos hb]
    · rw [if_neg (by rw [hb]; simp)] at hw0
      obtain ⟨m1, m2⟩ := more_put (l := l) (x := ⟨3, a, 0, 0, 0, n, []⟩) (long := at_ (lensOf l) a) (by simp [lenOf])
      rw [he1]
      exact ⟨fun hp => by simp only [e0, hw0, m1 hp], fun hp => by simp only [e0, hw0, m2 hp]⟩)
end Go.Rp
end

section
set_option linter.unusedVariables false
set_option linter.unusedSimpArgs false
set_option maxRecDepth 100000
open Go Go.VT
namespace Go.Rp

theorem out_gives : Gives prog RG 55 cOut := gives (allCons has_gives allNil) (fun _ => noL) (by kernel_rfl) (by kernel_rfl) (by kernel_rfl) fun (n, l, L, a, ()) _ => (out_eq n l L a).mpr (by intros; rfl)

theorem first_all {f : Int → Bool} {l : List Int} : ∀ {i : Int}, l.all (fun n => !f n) = true → firstAt f l i = -1 := by
  induction l with
  | nil => intros; rfl
  | cons x r ih =>
    intro i h
    simp only [List.all_cons, Bool.and_eq_true, Bool.not_eq_true'] at h
    simp only [firstAt, h.1, cond_false]
    exact ih h.2

theorem first_at {f : Int → Bool} {l : List Int} : ∀ {k : Nat} {i : Int}, (l.take k).all (fun n => !f n) = true → k < l.length → f (l.getD k 0) = true → firstAt f l i = i + k := by
  induction l with
  | nil => intro k i _ hk; simp at hk
  | cons x r ih =>
    intro k i h hk hn
    match k with
    | 0 =>
      have hn : f x = true := by simpa using hn
      simp [firstAt, hn]
    | k + 1 =>
      simp only [List.take_succ_cons, List.all_cons, Bool.and_eq_true, Bool.not_eq_true'] at h
      have := ih (k := k) (i := i + 1) h.2 (by simpa using hk) (by simpa using hn)
      simp only [firstAt, h.1, cond_false, this]
      omega

theorem first_any {f : Int → Bool} {l : List Int} : ∀ {i : Int}, 0 ≤ i → decide (firstAt f l i ≥ 0) = l.any f := by
  induction l with
  | nil => intros; simp [firstAt]
  | cons x r ih =>
    intro i h
    cases hx : f x with
    | false => simp [firstAt, hx, ← ih (i := i + 1) (by omega)]
    | true => simp [firstAt, hx, h]

theorem all_next {f : Int → Bool} {l : List Int} {k : Nat} (h : (l.take k).all (fun n => !f n) = true) (hk : k < l.length) (hn : f (l.getD k 0) = false) : (l.take (k + 1)).all (fun n => !f n) = true := by
  rw [take_succ_getD hk 0, List.all_append, h]
  simp only [List.all_cons, List.all_nil, Bool.and_true, hn, Bool.not_false, Bool.and_self]

theorem idxO_vc (r : List Int) (l : List Node) (L : List (Int × Int)) (a : Int) : vc (EV [(55, cOut)]) (lIdxO (outB L a) r) Go.Proofs.Tryd.f80 cIdxO (r, l, L, a, ()) := (idxO_eq r l L a).mpr (by
  intro hs hs2
  have hr : r.length ≤ 140737488355328 := hs.len
  simp only [true_and, and_true]
  refine ⟨⟨(0, ()), rfl, by simp, by simp, by simp⟩, fun (i, ()) => ?_⟩
  dsimp only
  rintro ⟨h0, h1, h2⟩
  obtain ⟨k, rfl⟩ := Int.eq_ofNat_of_zero_le h0
  simp only [Int.toNat_natCast] at h2 ⊢
  refine ⟨fun hk => ?_, fun hk => ?_⟩
  · have hk : k < r.length := by simpa using hk
    refine ⟨⟨h0, by omega⟩, fun hn => ?_, fun hn => ?_⟩
    · rw [first_at h2 hk hn]; simp
    · refine ⟨((k + 1 : Nat), ()), ?_, ⟨by omega, by dsimp only; omega, ?_⟩, by dsimp only; omega⟩
      · rw [w64_id (by omega) (by omega)]; rfl
      · dsimp only
        rw [Int.toNat_natCast]
        exact all_next h2 hk hn
  · have hk : r.length ≤ k := by simpa using hk
    rw [List.take_of_length_le hk] at h2
    rw [first_all h2])
theorem idxO_gives : Gives prog RG 80 cIdxO := gives (allCons out_gives allNil) (fun p => lIdxO (outB p.2.2.1 p.2.2.2.1) p.1) (by kernel_rfl) (by kernel_rfl) (by kernel_rfl) fun (r, l, L, a, ()) _ => idxO_vc r l L a

theorem anyO_vc (r : List Int) (l : List Node) (L : List (Int × Int)) (a : Int) : vc (EV [(80, cIdxO)]) noL Go.Proofs.Tryd.f54 cAnyO (r, l, L, a, ()) := (anyO_eq r l L a).mpr (by
  intro hs hs2
  simp only [true_and, and_true]
  rw [first_any (by decide)])
theorem anyO_gives : Gives prog RG 54 cAnyO := gives (allCons idxO_gives allNil) (fun _ => noL) (by kernel_rfl) (by kernel_rfl) (by kernel_rfl) fun (r, l, L, a, ()) _ => anyO_vc r l L a

theorem outs_lies {l : List Node} {a : Int} (h0 : 0 ≤ a) (h1 : a < l.length) (r : List Int) : (!!r.any (outB (longOf l) a)) = !(r.all fun p => lies p 0 (at_ (lensOf l) a - 1)) := by
  rw [Bool.not_not, List.any_eq_not_all_not]
  congr 2
  funext p
  simp only [outB, Bool.not_not, lies, lg_long h0 h1]
  congr 1
  simp only [decide_eq_decide]
  omega

theorem gatherP_vc (l : List Node) (a : Int) (r : List Int) : vcD (EV [(49, cOpen), (53, cMust), (54, cAnyO), (57, cAt)]) cC (lGatherP l a r) Go.Proofs.Tryd.f19 cGatherR (l, a, r, ()) := (gatherP_eq l a r).mpr (by
  intro e3 e2 e1 e0 _ hs
  have hrl : r.length ≤ 140737488355328 := hs.len
  refine ⟨fun h => ?_, fun h => ?_⟩
  · have h := ne_true.1 h
    simp only [e0, gatherAt, if_pos h]
  · have h := ne_false.1 h
    obtain ⟨h1, h2, h3⟩ := asked_ok h
    have ha := h3 a (by simp)
    have hw0 : gatherAt l a r = if 1048576 < r.length then ([], 3) else if !(r.all fun p => lies p 0 (at_ (lensOf l) a - 1)) then ([], 2) else (r.map fun p => (wayAt l a p).2, 0) := by
      unfold gatherAt
      rw [if_neg (by simp [h])]
    refine ⟨fun hb => ?_, fun hb => ?_⟩
    · have hb : ¬ (r.length : Int) ≤ 1048576 := by simpa [e1] using hb
      simp only [e0, hw0, if_pos (show 1048576 < r.length by omega)]
    · have hb : (r.length : Int) ≤ 1048576 := by simpa [e1] using hb
      rw [if_neg (by omega)] at hw0
      simp only [true_and, and_true]
      have he2 : e2 = !(r.all fun p => lies p 0 (at_ (lensOf l) a - 1)) := outs_lies ha.1 ha.2 r
      refine ⟨fun hc => ?_, fun hc => ?_⟩
      · simp only [e0, hw0, if_pos (he2 ▸ hc)]
      · have hall : (r.all fun p => lies p 0 (at_ (lensOf l) a - 1)) = true := by rw [he2] at hc; simpa using hc
        rw [if_neg (by rw [hall]; simp)] at hw0
        refine ⟨⟨(0, [], ()), rfl, rfl, by simp, by simp, by simp⟩, fun (i, out, ()) => ?_⟩
        dsimp only
        rintro ⟨q0, q1, rfl⟩
        obtain ⟨k, rfl⟩ := Int.eq_ofNat_of_zero_le q0
        simp only [Int.toNat_natCast]
        refine ⟨fun hk => ?_, fun hk => ?_⟩
        · have hk : k < r.length := by simpa using hk
          have hlie := lies_iff.1 (List.all_eq_true.1 hall (r.getD k 0) (by simp only [List.getD, List.getElem?_eq_getElem hk]; exact List.getElem_mem _))
          refine ⟨⟨q0, by omega⟩, ⟨⟨h1, h2⟩, ha, hlie.1, by omega⟩, ?_, ((k + 1 : Nat), _, ()), ?_, rfl, ⟨by omega, by dsimp only; omega, ?_⟩, by dsimp only; omega⟩
          · simp; omega
          · rw [w64_id (by omega) (by omega)]; rfl
          · dsimp only
            rw [Int.toNat_natCast, take_succ_getD hk 0, List.map_append]
            rfl
        · have hk : r.length ≤ k := by simpa using hk
          rw [List.take_of_length_le hk]
          simp only [e0, hw0])
theorem gatherP_gives : Gives prog RG 19 cGatherR := givesD (allCons open_gives (allCons must_gives (allCons anyO_gives (allCons at_gives allNil)))) (fun p => lGatherP p.1 p.2.1 p.2.2.1) (by kernel_rfl) (by kernel_rfl) (by kernel_rfl) fun (l, a, r, ()) _ => gatherP_vc l a r
end Go.Rp
end

section
set_option linter.unusedVariables false
set_option linter.unusedSimpArgs false
set_option maxRecDepth 100000
open Go Go.VT
namespace Go.Rp

theorem needed_gives : Gives prog RG 51 cNeeded := gives allNil (fun _ => noL) (by kernel_rfl) (by kernel_rfl) (by kernel_rfl) fun (x1, x2, x3, x4, x5, x6, w, ()) _ => (needed_eq x1 x2 x3 x4 x5 x6 w).mpr (by
  intro e0 _
  exact ⟨fun h => by simp [needOf, e0, eq_of_beq h], fun h => by
    have : ¬ x1 = 0 := by simpa using h
    simp [needOf, e0, this]⟩)
theorem leaf_gives : Gives prog RG 99 cLeaf := gives allNil (fun _ => noL) (by kernel_rfl) (by kernel_rfl) (by kernel_rfl) fun () _ => Eq.mpr (by kernel_rfl : vc (EV []) noL Go.Proofs.Tryd.f99 cLeaf () = ((([] : List Int), ()) = (([] : List Int), ()))) rfl
theorem inner_gives : Gives prog RG 100 cInner := gives allNil (fun _ => noL) (by kernel_rfl) (by kernel_rfl) (by kernel_rfl) fun (x1, x2, x3, x4, x5, x6, w, ()) _ => (inner_eq x1 x2 x3 x4 x5 x6 w).mpr (by
  intro e0 _
  exact ⟨fun h => by simp [partsOf, e0, eq_of_beq h], fun h => by
    have : ¬ x1 = 1 := by simpa using h
    simp [partsOf, e0, this]⟩)

theorem invR_ok : InvOk invR := by
  intro i name k hk
  unfold invR at hk
  simp only [Bool.cond_eq_ite] at hk
  split at hk
  · rename_i hc
    simp only [Bool.and_eq_true, beq_iff_eq] at hc
    obtain ⟨hi, rfl⟩ := hc
    have hi := Nat.eq_of_beq_eq_true hi
    subst hi
    simp only [List.mem_singleton] at hk
    subst hk
    refine inv_one (U := RU) (i := 2) (tys := [ints]) (fun x => (partsN x, ())) (fun _ => True) (fun x _ => ?_)
    cases x with
    | none =>
      refine ⟨112, true, [], (), 99, fun _ => ([], ()), none, rfl, trivial, rfl, fun v w => ?_, leaf_gives⟩
      kernel_rfl
    | some x =>
      refine ⟨114, true, nodeTys, (x.kind, x.a, x.b, x.from_, x.len, x.n, x.words, ()), 100, fun p => (partsOf ⟨p.1, p.2.1, p.2.2.1, p.2.2.2.1, p.2.2.2.2.1, p.2.2.2.2.2.1, p.2.2.2.2.2.2.1⟩, ()), none, rfl, trivial, rfl, fun v w => ?_, inner_gives⟩
      kernel_rfl
  · simp at hk
theorem noIt_ok : ItOk noIt := by intro f k kY mp h; cases h

theorem grow_get {α : Type} (g : List Int → α → Int) (l : List α) (i : Nat) (hi : i < l.length) (d : α) : (grow g l).getD i 0 = g ((grow g l).take i) (l.getD i d) := by
  have h1 : grow g (l.take (i + 1)) = (grow g l).take (i + 1) := grow_take g l (i + 1) (by omega)
  rw [take_succ_getD hi d, grow_snoc, grow_take g l i (by omega)] at h1
  have h2 : ((grow g l).take (i + 1)).getD i 0 = (grow g l).getD i 0 := by
    simp [List.getD_eq_getElem?_getD, List.getElem?_take]
  rw [← h2, ← h1, List.getD_eq_getElem?_getD, List.getElem?_append_right (by simp [grow_length]; omega)]
  simp [grow_length]
  rw [Nat.min_eq_left (by omega)]
  simp

theorem parts_ok {x : Node} {i : Nat} (h : fieldsOf x i = true) : ∀ k ∈ partsN (needOf x), 0 ≤ k ∧ k < i := by
  intro k hk
  unfold needOf at hk
  split at hk
  · simp [partsN] at hk
  · rename_i h0
    simp only [partsN, partsOf] at hk
    split at hk
    · rename_i h1
      have := (fields_ahead h).1 h1
      simp only [List.mem_cons, List.not_mem_nil, or_false] at hk
      rcases hk with rfl | rfl
      · exact this.1
      · exact this.2
    · simp only [List.mem_singleton] at hk
      subst hk
      exact fields_a h h0

theorem maxAt_snoc (d ks : List Int) (k : Int) : maxAt d (ks ++ [k]) = max (maxAt d ks) (at_ d k) := by simp [maxAt]

theorem maxAt_bound {d : List Int} {m : Int} (hm : 0 ≤ m) : ∀ {ks : List Int}, (∀ k ∈ ks, at_ d k ≤ m) → 0 ≤ maxAt d ks ∧ maxAt d ks ≤ m := by
  intro ks h
  have key : ∀ (ks : List Int) (z : Int), 0 ≤ z → z ≤ m → (∀ k ∈ ks, at_ d k ≤ m) → 0 ≤ ks.foldl (fun m k => max m (at_ d k)) z ∧ ks.foldl (fun m k => max m (at_ d k)) z ≤ m := by
    intro ks
    induction ks with
    | nil => intro z h1 h2 _; exact ⟨h1, h2⟩
    | cons x r ih =>
      intro z h1 h2 h3
      have := h3 x (by simp)
      exact ih (max z (at_ d x)) (by omega) (by omega) (fun k hk => h3 k (by simp [hk]))
  exact key ks 0 (by omega) hm h

theorem depth_parts {x : Node} {i : Nat} {d : List Int} (h : fieldsOf x i = true) (hd : ∀ k : Int, 0 ≤ k → k < i → 1 ≤ at_ d k ∧ at_ d k ≤ 4000) : w64 (maxAt d (partsN (needOf x)) + 1) = depthOf d x ∧ depthOf d x = maxAt d (partsN (needOf x)) + 1 := by
  unfold depthOf needOf
  by_cases h0 : x.kind = 0
  · rw [if_pos h0, if_pos h0]
    exact ⟨rfl, rfl⟩
  · rw [if_neg h0, if_neg h0]
    have ha := fields_a h h0
    have hda := hd x.a ha.1 ha.2
    simp only [partsN, partsOf]
    by_cases h1 : x.kind = 1
    · rw [if_pos h1, if_pos h1]
      have hb := ((fields_ahead h).1 h1).2
      have hdb := hd x.b hb.1 hb.2
      have hm : maxAt d [x.a, x.b] = max (at_ d x.a) (at_ d x.b) := by simp only [maxAt, List.foldl]; omega
      rw [hm]
      have e1 : w64 (at_ d x.a + 1) = at_ d x.a + 1 := w64_id (by omega) (by omega)
      have e2 : w64 (at_ d x.b + 1) = at_ d x.b + 1 := w64_id (by omega) (by omega)
      have e3 : w64 (max (at_ d x.a) (at_ d x.b) + 1) = max (at_ d x.a) (at_ d x.b) + 1 := w64_id (by omega) (by omega)
      rw [e1, e2, e3]
      omega
    · rw [if_neg h1, if_neg h1]
      have hm : maxAt d [x.a] = at_ d x.a := by simp only [maxAt, List.foldl]; omega
      rw [hm]
      exact ⟨rfl, w64_id (by omega) (by omega)⟩

theorem depths_take (l : List Node) (m : Nat) (h : m ≤ l.length) : depthsOf (l.take m) = (depthsOf l).take m := grow_take depthOf l m h
theorem depths_length (l : List Node) : (depthsOf l).length = l.length := grow_length depthOf l

theorem depth_bound {l : List Node} (hl : l.length ≤ 4000) (hv : validOf l = true) : ∀ i : Nat, i < l.length → 1 ≤ (depthsOf l).getD i 0 ∧ (depthsOf l).getD i 0 ≤ i + 1 := by
  intro i
  induction i using Nat.strongRecOn with
  | ind i ih =>
    intro hi
    rw [depths_grow, grow_get depthOf l i hi node0, ← depths_grow]
    have hf := valid_fields hv i hi
    have hb : ∀ k : Int, 0 ≤ k → k < i → 1 ≤ at_ ((depthsOf l).take i) k ∧ at_ ((depthsOf l).take i) k ≤ i := by
      intro k h0 h1
      rw [at_take h0 h1]
      have := ih k.toNat (by omega) (by omega)
      unfold at_
      omega
    rw [(depth_parts hf (fun k h0 h1 => by have := hb k h0 h1; omega)).2]
    have := maxAt_bound (d := (depthsOf l).take i) (m := i) (by omega) (ks := partsN (needOf (l.getD i node0))) (fun k hk => by
      obtain ⟨h0, h1⟩ := parts_ok hf k hk
      exact (hb k h0 h1).2)
    omega

theorem depths_bound {l : List Node} (hl : l.length ≤ 4000) (hv : validOf l = true) {i : Nat} (hi : i ≤ l.length) : ∀ k : Int, 0 ≤ k → k < i → 1 ≤ at_ (depthsOf (l.take i)) k ∧ at_ (depthsOf (l.take i)) k ≤ 4000 := by
  intro k h0 h1
  rw [depths_take l i hi, at_take h0 h1]
  have := depth_bound hl hv k.toNat (by omega)
  unfold at_
  omega

theorem row_get {D : List Int} {m : Int} {z : List Int} {i : Nat} (hi : D.length = i) : (D ++ m :: z).getD i 0 = m ∧ (∀ k : Int, 0 ≤ k → k < i → (D ++ m :: z).getD k.toNat 0 = at_ D k) ∧ ∀ v : Int, (D ++ m :: z).set i v = D ++ v :: z := by
  subst hi
  refine ⟨by simp [List.getD_eq_getElem?_getD], fun k h0 h1 => ?_, fun v => by simp⟩
  rw [List.getD_eq_getElem?_getD, List.getElem?_append_left (by omega)]
  unfold at_
  rw [List.getD_eq_getElem?_getD]

theorem depthP_vc (l : List Node) (a : Int) : vcD (EVx invR noIt [(49, cOpen), (51, cNeeded)]) cC (lDepthP l a) Go.Proofs.Tryd.f15 cDepthR (l, a, ()) := (depthP_eq l a).mpr (by
  intro e3 e2 e1 e0 _
  refine ⟨fun h => ?_, fun h => ?_⟩
  · have h := ne_true.1 h
    simp only [e2, depthAt, if_pos h]
  · have h := ne_false.1 h
    obtain ⟨h1, h2, h3⟩ := asked_ok h
    have ha := h3 a (by simp)
    have he1 : e1 = a + 1 := w64_id (by omega) (by omega)
    have he0 : e0 = List.replicate (a + 1).toNat 0 := by simp only [e0, he1]
    have he0l : e0.length = (a + 1).toNat := by rw [he0, List.length_replicate]
    have hz : ∀ i : Int, i ≤ a → List.replicate (a + 1 - i).toNat (0 : Int) = 0 :: List.replicate (a - i).toNat 0 := by
      intro i hi
      rw [show (a + 1 - i).toNat = (a - i).toNat + 1 by omega, List.replicate_succ]
    clear_value e0 e1
    subst he1
    simp -zeta only [true_and, and_true]
    refine ⟨by omega, ⟨(0, e0, ()), rfl, rfl, by simp, by dsimp only; omega, by rw [he0]; simp [depthsOf]⟩, fun (i, R, ()) => ?_⟩
    intro f4 f3 f2 f1 f0
    dsimp only
    rintro ⟨q0, q1, q2⟩
    obtain ⟨m, rfl⟩ := Int.eq_ofNat_of_zero_le q0
    have hf0 : f0 = l.getD m node0 := rfl
    have hf1 : f1 = a + 1 := by simp only [f1, he0l]; omega
    have hf2 : f2 = depthsOf (l.take m) := rfl
    have hf3 : f3 = partsN (needOf (l.getD m node0)) := rfl
    have hf4 : f4 = List.replicate (a - m).toNat 0 := rfl
    clear_value f0 f1 f2 f3 f4
    subst hf0 hf1 hf3 hf4
    rw [Int.toNat_natCast, ← hf2] at q2
    have hml : m ≤ l.length := by omega
    have hDl : f2.length = m := by rw [hf2, depths_length, List.length_take]; omega
    refine ⟨fun hlt => ?_, fun hge => ?_⟩
    · have hlt : (m : Int) < a + 1 := by simpa using hlt
      have hmn : m < l.length := by omega
      have hfd := valid_fields h2 m hmn
      have hbd := depths_bound h1 h2 hml
      rw [← hf2] at hbd
      refine ⟨⟨q0, by omega⟩, ⟨(0, R, ()), rfl, rfl, by simp, by simp, ?_⟩, fun (k, R', ()) => ?_⟩
      · rw [q2, hz m (by omega)]
        rfl
      · have heta : ∀ x : Node, Node.mk x.kind x.a x.b x.from_ x.len x.n x.words = x := fun _ => rfl
        simp only [heta]
        generalize hps : partsN (needOf (l.getD m node0)) = ps
        have hpo : ∀ k ∈ ps, 0 ≤ k ∧ k < m := by rw [← hps]; exact parts_ok hfd
        have hpl : ps.length ≤ 2 := by
          rw [← hps]
          unfold needOf
          split
          · simp [partsN]
          · simp only [partsN, partsOf]
            split <;> simp
        generalize hg6 : List.replicate (a - (m : Int)).toNat (0 : Int) = g6
        have hg6l : g6.length = (a - m).toNat := by rw [← hg6, List.length_replicate]
        rintro ⟨r0, r1, r2⟩
        obtain ⟨k, rfl⟩ := Int.eq_ofNat_of_zero_le r0
        simp only [Int.toNat_natCast] at r2 ⊢
        obtain ⟨w1, w2, w3⟩ := row_get (D := f2) (m := maxAt f2 (ps.take k)) (z := g6) hDl
        have hR'l : R'.length = a.toNat + 1 := by rw [r2]; simp [hDl, hg6l]; omega
        refine ⟨fun hk => ?_, fun hk => ?_⟩
        · have hk : k < ps.length := by simpa using hk
          have hpk := hpo (ps.getD k 0) (by simp only [List.getD, List.getElem?_eq_getElem hk]; exact List.getElem_mem _)
          refine ⟨⟨r0, by omega⟩, ⟨q0, by omega⟩, ⟨hpk.1, by omega⟩, ⟨q0, by omega⟩, ((k + 1 : Nat), _, ()), ?_, rfl, ⟨by omega, by dsimp only; omega, ?_⟩, by dsimp only; omega⟩
          · rw [w64_id (by omega) (by omega)]; rfl
          · dsimp only
            rw [Int.toNat_natCast, r2, w1, w2 _ hpk.1 hpk.2, w3, take_succ_getD hk 0, maxAt_snoc, imax]
        · have hk : ps.length ≤ k := by simpa using hk
          rw [List.take_of_length_le hk] at r2 w1 w3
          refine ⟨⟨q0, by omega⟩, ⟨q0, by omega⟩, ((m + 1 : Nat), _, ()), ?_, rfl, ⟨by omega, by dsimp only; omega, ?_⟩, by dsimp only; omega⟩
          · rw [w64_id (by omega) (by omega)]; rfl
          · dsimp only
            rw [Int.toNat_natCast, r2, w1, w3, take_succ_getD hmn node0, depths_grow, grow_snoc, ← depths_grow, ← hf2]
            have := (depth_parts (d := f2) hfd (fun k h0 h1 => hbd k h0 h1)).1
            rw [hps] at this
            rw [show IntKind.i64.wrap (maxAt f2 ps + 1) = depthOf f2 (l.getD m node0) from this, ← hg6, List.append_assoc]
            congr 2
            congr 1
            omega
    · have hge : ¬ (m : Int) < a + 1 := by simpa using hge
      have hm : (m : Int) = a + 1 := by omega
      have hR : R = depthsOf (l.take m) := by rw [q2, hf2, show (a + 1 - (m : Int)).toNat = 0 by omega]; simp
      refine ⟨⟨ha.1, by rw [hR, depths_length, List.length_take]; omega⟩, ?_⟩
      have : R.getD a.toNat 0 = at_ (depthsOf l) a := by
        rw [hR, depths_take l m hml]
        exact at_take ha.1 (by omega)
      simp only [e2, depthAt, h, ne_eq, not_true, if_false, this])
theorem depthP_gives : Gives prog RG 15 cDepthR := givesDX invR_ok noIt_ok (allCons open_gives (allCons needed_gives allNil)) (fun p => lDepthP p.1 p.2.1) (by kernel_rfl) (by kernel_rfl) (by kernel_rfl) fun (l, a, ()) _ => depthP_vc l a
end Go.Rp
end

section
set_option linter.unusedVariables false
set_option linter.unusedSimpArgs false
set_option maxRecDepth 100000
open Go Go.VT
namespace Go.Rp

theorem walk_zero {l : List Node} {a f m add : Int} (h : m ≤ 0) : walkW l a f m add = [] := by
  unfold walkW
  rw [show m.toNat = 0 by omega]
  rfl

theorem walk_congr {l : List Node} {a f m add b g add' : Int} (h : ∀ i : Nat, (i : Int) < m → word (w64 ((wayAt l a (f + i)).2 + add)) = word (w64 ((wayAt l b (g + i)).2 + add'))) : walkW l a f m add = walkW l b g m add' := by
  unfold walkW
  refine List.map_congr_left (fun i hi => h i ?_)
  have := List.mem_range.1 hi
  omega

theorem walk_split {l : List Node} {a f m k add : Int} (h0 : 0 ≤ k) (h1 : k ≤ m) : walkW l a f m add = walkW l a f k add ++ walkW l a (f + k) (m - k) add := by
  unfold walkW
  obtain ⟨k, rfl⟩ := Int.eq_ofNat_of_zero_le h0
  obtain ⟨m, rfl⟩ := Int.eq_ofNat_of_zero_le (show 0 ≤ m by omega)
  rw [show ((m : Int) - (k : Int)).toNat = m - k by omega, Int.toNat_natCast, Int.toNat_natCast]
  have : List.range m = List.range k ++ (List.range (m - k)).map (k + ·) := by
    rw [← List.range_add]
    congr 1
    omega
  rw [this, List.map_append, List.map_map]
  congr 1
  refine List.map_congr_left (fun i _ => ?_)
  simp only [Function.comp_def, Int.natCast_add, Int.add_assoc]

theorem walk_length {l : List Node} {a f m add : Int} (h : 0 ≤ m) : ((walkW l a f m add).length : Int) = m := by
  unfold walkW
  simp
  omega

theorem range_words (w : List Int) (f m add : Int) (h0 : 0 ≤ f) (h1 : 0 ≤ m) (h2 : f + m ≤ w.length) : ((w.take (f + m).toNat).drop f.toNat).map (fun n => word (w64 (n + add))) = (List.range m.toNat).map fun i : Nat => word (w64 (at_ w (f + i) + add)) := by
  apply List.ext_getElem?
  intro i
  simp only [List.getElem?_map, List.getElem?_drop, List.getElem?_take]
  by_cases hi : i < m.toNat
  · rw [if_pos (by omega), List.getElem?_range hi]
    have hl : f.toNat + i < w.length := by omega
    rw [List.getElem?_eq_getElem hl]
    simp only [Option.map_some, at_]
    rw [show (f + (i : Int)).toNat = f.toNat + i by omega, List.getD_eq_getElem?_getD, List.getElem?_eq_getElem hl]
    rfl
  · rw [if_neg (by omega)]
    simp only [Option.map_none]
    rw [List.getElem?_eq_none (by simpa using Nat.le_of_not_lt hi)]
    rfl

theorem pieces_gives : Gives prog RG 52 cPieces := gives allNil (fun _ => noL) (by kernel_rfl) (by kernel_rfl) (by kernel_rfl) fun (l, L, a, f, m, d, ()) _ => (pieces_eq l L a f m d).mpr (by intro _ _; rfl)

theorem walk_cases {l : List Node} (hl : l.length ≤ 4000) (hv : validOf l = true) {a f m add : Int} (h0 : 0 ≤ a) (h1 : a < l.length) (hm : 0 < m) (f0 : 0 ≤ f) (f1 : f + m ≤ at_ (lensOf l) a) (hw : isWord add = true) {x : Node} (hx : x = l.getD a.toNat node0) :
    (x.kind = 0 ∧ f + m ≤ x.words.length ∧ rwords l a f m add = walkW l a f m add) ∨
    (x.kind = 1 ∧ (0 ≤ x.a ∧ x.a < a) ∧ (0 ≤ x.b ∧ x.b < a) ∧ (0 ≤ at_ (lensOf l) x.a ∧ at_ (lensOf l) x.a ≤ 1048576) ∧ f + m ≤ at_ (lensOf l) x.a + at_ (lensOf l) x.b ∧ at_ (lensOf l) a ≤ 1048576 ∧
      ∀ k : Int, 0 ≤ k → k ≤ m → (0 < k → f + k ≤ at_ (lensOf l) x.a) → (k < m → at_ (lensOf l) x.a ≤ f + k) → walkW l a f m add = walkW l x.a f k add ++ walkW l x.b (f + k - at_ (lensOf l) x.a) (m - k) add) ∨
    (x.kind = 2 ∧ (0 ≤ x.a ∧ x.a < a) ∧ (0 ≤ x.from_ ∧ x.from_ ≤ 1048576) ∧ at_ (lensOf l) a ≤ 1048576 ∧ x.from_ + f + m ≤ at_ (lensOf l) x.a ∧ walkW l a f m add = walkW l x.a (x.from_ + f) m add) ∨
    (x.kind = 3 ∧ (0 ≤ x.a ∧ x.a < a) ∧ f + m ≤ at_ (lensOf l) x.a ∧ walkW l a f m add = walkW l x.a f m (word (w64 (add + x.n)))) := by
  have cs : ∀ i : Nat, (i : Int) < m → _ := fun i hi => way_cases hv h0 h1 (p := f + i) (by omega) (by omega) hx
  have hle : at_ (lensOf l) a ≤ 1048576 := (lens_bound hv h0 h1).2
  have hla : nat_ l a = x := hx.symm
  have hlast : ((m.toNat - 1 : Nat) : Int) = m - 1 := by omega
  rcases cs 0 (by omega) with ⟨k, _⟩ | ⟨k, ha, hb, hA, _⟩ | ⟨k, ha, hf, _⟩ | ⟨k, ha, hn, _⟩
  · left
    have hlen : f + m ≤ x.words.length := by
      rcases cs (m.toNat - 1) (by omega) with ⟨_, h, _⟩ | ⟨k', _⟩ | ⟨k', _⟩ | ⟨k', _⟩
      · rw [hlast] at h; omega
      · omega
      · omega
      · omega
    refine ⟨k, hlen, ?_⟩
    unfold rwords walkW
    rw [hla, range_words _ _ _ _ f0 (by omega) hlen]
    refine List.map_congr_left (fun i hi => ?_)
    have hi := List.mem_range.1 hi
    rcases cs i (by omega) with ⟨_, _, h, _⟩ | ⟨k', _⟩ | ⟨k', _⟩ | ⟨k', _⟩
    · rw [h]
    · omega
    · omega
    · omega
  · right; left
    have hsum : f + m ≤ at_ (lensOf l) x.a + at_ (lensOf l) x.b := by
      rcases cs (m.toNat - 1) (by omega) with ⟨k', _⟩ | ⟨_, _, _, _, hlt, hge⟩ | ⟨k', _⟩ | ⟨k', _⟩
      · omega
      · rw [hlast] at hlt hge
        by_cases hc : f + (m - 1) < at_ (lensOf l) x.a
        · have := (lens_bound hv hb.1 (by omega : x.b < l.length)).1
          omega
        · have := (hge hc).1
          omega
      · omega
      · omega
    refine ⟨k, ha, hb, hA, hsum, hle, fun q q0 q1 q2 q3 => ?_⟩
    rw [walk_split (k := q) q0 q1]
    congr 1
    · refine walk_congr (fun i hi => ?_)
      rcases cs i (by omega) with ⟨k', _⟩ | ⟨_, _, _, _, hlt, hge⟩ | ⟨k', _⟩ | ⟨k', _⟩
      · omega
      · have := q2 (by omega)
        rw [hlt (by omega)]
      · omega
      · omega
    · refine walk_congr (fun i hi => ?_)
      have hqm : q < m := by omega
      have hlen := q3 hqm
      rcases cs (q.toNat + i) (by omega) with ⟨k', _⟩ | ⟨_, _, _, _, hlt, hge⟩ | ⟨k', _⟩ | ⟨k', _⟩
      · omega
      · have e1 : f + ((q.toNat + i : Nat) : Int) = f + q + i := by omega
        rw [e1] at hge
        rw [(hge (by omega)).2]
        rw [show f + q + (i : Int) - at_ (lensOf l) x.a = f + q - at_ (lensOf l) x.a + i by omega]
      · omega
      · omega
  · right; right; left
    refine ⟨k, ha, hf, hle, ?_, walk_congr (fun i hi => ?_)⟩
    · rcases cs (m.toNat - 1) (by omega) with ⟨k', _⟩ | ⟨k', _⟩ | ⟨_, _, _, h, _⟩ | ⟨k', _⟩
      · omega
      · omega
      · rw [hlast] at h; omega
      · omega
    · rcases cs i (by omega) with ⟨k', _⟩ | ⟨k', _⟩ | ⟨_, _, _, _, h⟩ | ⟨k', _⟩
      · omega
      · omega
      · rw [h, Int.add_assoc]
      · omega
  · right; right; right
    refine ⟨k, ha, ?_, walk_congr (fun i hi => ?_)⟩
    · rcases cs (m.toNat - 1) (by omega) with ⟨k', _⟩ | ⟨k', _⟩ | ⟨k', _⟩ | ⟨_, _, _, h, _⟩
      · omega
      · omega
      · omega
      · rw [hlast] at h; omega
    · rcases cs i (by omega) with ⟨k', _⟩ | ⟨k', _⟩ | ⟨k', _⟩ | ⟨_, _, hn, hp, h⟩
      · omega
      · omega
      · omega
      · rw [h]
        exact word_add (way_bounds hl hv _ x.a (f + i) rfl ha.1 (by omega) (by omega) hp).2 hn hw
end Go.Rp
end

section
set_option linter.unusedVariables false
set_option linter.unusedSimpArgs false
set_option maxRecDepth 100000
open Go Go.VT
namespace Go.Rp

theorem nat_app {l e : List Node} {a : Int} (h0 : 0 ≤ a) (h1 : a < l.length) : nat_ (l ++ e) a = nat_ l a := by
  unfold nat_
  rw [List.getD_eq_getElem?_getD, List.getElem?_append_left (by omega), ← List.getD_eq_getElem?_getD]

theorem lens_app {l e : List Node} {a : Int} (h0 : 0 ≤ a) (h1 : a < l.length) : at_ (lensOf (l ++ e)) a = at_ (lensOf l) a := by
  have := lensOf_take (l ++ e) l.length (by simp)
  rw [List.take_left'  rfl] at this
  rw [this, at_take h0 h1]

theorem putL_long (l : List Node) (long : Int) : putL l (longOf l) long = longOf l ++ [((l.length : Int), long)] := by
  have := mput_long long (lensOf l) 0
  rw [lensOf_length, Nat.zero_add] at this
  exact this

theorem open_snoc {l : List Node} {L : List (Int × Int)} (h : openOk l L) {x : Node} {long : Int} (hl : l.length < 4000) (hf : fieldsOf x l.length = true) (hx : lenOf (lensOf l) x = long) (hm : long ≤ 1048576) (hp : x.kind = 2 → isPartOf (at_ (lensOf l) x.a) x.from_ x.len = true) : openOk (l ++ [x]) (putL l L long) := by
  obtain ⟨h1, h2, rfl⟩ := h
  refine ⟨by simp; omega, ?_, ?_⟩
  · rw [valid_steps]
    intro i hi
    have hi : i < l.length + 1 := by simpa using hi
    rcases Nat.lt_succ_iff_lt_or_eq.1 hi with h3 | rfl
    · have := step_take (l := l ++ [x]) (i := l.length) (j := i) (by simp) h3
      rw [List.take_left' rfl] at this
      rw [← this]
      exact valid_steps.1 h2 i h3
    · have hg : (l ++ [x]).getD l.length node0 = x := by simp [List.getD_eq_getElem?_getD]
      have hn : (lensOf (l ++ [x])).getD l.length 0 = long := by
        rw [lensOf_snoc, List.getD_eq_getElem?_getD, List.getElem?_append_right (by rw [lensOf_length]; exact Nat.le_refl _), lensOf_length]
        simp [hx]
      unfold stepOk
      rw [hg, hn, hf]
      unfold nodeOk
      simp only [hm, decide_true, Bool.true_and, Bool.or_eq_true, decide_eq_true_eq, ne_eq]
      by_cases hk : x.kind = 2
      · right
        have ha := fields_a hf (by omega)
        rw [lens_app ha.1 ha.2]
        exact hp hk
      · left; exact hk
  · rw [putL_long, longOf_snoc, hx]

theorem lens_new {l : List Node} {x : Node} {long : Int} (hx : lenOf (lensOf l) x = long) : at_ (lensOf (l ++ [x])) l.length = long := by
  unfold at_
  rw [lensOf_snoc, Int.toNat_natCast, List.getD_eq_getElem?_getD, List.getElem?_append_right (by rw [lensOf_length]; exact Nat.le_refl _), lensOf_length]
  simp [hx]

theorem lg_open {l : List Node} {L : List (Int × Int)} (h : openOk l L) {a : Int} (h0 : 0 ≤ a) (h1 : a < l.length) : lg L a = at_ (lensOf l) a := by
  rw [h.2.2, lg_long h0 h1]

theorem pcs_fuel {l : List Node} (hv : validOf l = true) : ∀ (k k' : Nat) (a f m d : Int), 0 ≤ a → a < l.length → a.toNat < k → a.toNat < k' → pcsOf l k a f m d = pcsOf l k' a f m d
  | 0, _, _, _, _, _, _, _, h, _ => by omega
  | _, 0, _, _, _, _, _, _, _, h => by omega
  | k + 1, k' + 1, a, f, m, d, h0, h1, hk, hk' => by
    have hf := valid_fields hv a.toNat (by omega)
    have hfa : nat_ l a = l.getD a.toNat node0 := rfl
    rw [← hfa, show ((a.toNat : Nat) : Int) = a by omega] at hf
    unfold pcsOf
    split
    · rfl
    · split
      · rfl
      · rename_i hk0
        have hA := fields_a (i := a.toNat) (by rw [show ((a.toNat : Nat) : Int) = a by omega]; exact hf) hk0
        split
        · rename_i hk1
          have hB := ((fields_ahead (i := a.toNat) (by rw [show ((a.toNat : Nat) : Int) = a by omega]; exact hf)).1 hk1).2
          rw [pcs_fuel hv k k' _ _ _ _ hA.1 (by omega) (by omega) (by omega), pcs_fuel hv k k' _ _ _ _ hB.1 (by omega) (by omega) (by omega)]
        · split
          · rw [pcs_fuel hv k k' _ _ _ _ hA.1 (by omega) (by omega) (by omega)]
          · rw [pcs_fuel hv k k' _ _ _ _ hA.1 (by omega) (by omega) (by omega)]

theorem pcs_app {l e : List Node} (hv : validOf l = true) : ∀ (k : Nat) (a f m d : Int), 0 ≤ a → a < l.length → pcsOf (l ++ e) k a f m d = pcsOf l k a f m d
  | 0, _, _, _, _, _, _ => rfl
  | k + 1, a, f, m, d, h0, h1 => by
    have hf := valid_fields hv a.toNat (by omega)
    have hfa : nat_ l a = l.getD a.toNat node0 := rfl
    rw [← hfa] at hf
    unfold pcsOf
    rw [nat_app h0 h1]
    split
    · rfl
    · split
      · rfl
      · rename_i hk0
        have hA := fields_a hf hk0
        rw [lens_app hA.1 (by omega)]
        split
        · rename_i hk1
          have hB := ((fields_ahead hf).1 hk1).2
          rw [pcs_app hv k _ _ _ _ hA.1 (by omega), pcs_app hv k _ _ _ _ hB.1 (by omega)]
        · split
          · rw [pcs_app hv k _ _ _ _ hA.1 (by omega)]
          · rw [pcs_app hv k _ _ _ _ hA.1 (by omega)]

theorem pcsAt_app {l e : List Node} (hv : validOf l = true) {a : Int} (f m d : Int) (h0 : 0 ≤ a) (h1 : a < l.length) : pcsAt (l ++ e) a f m d = pcsAt l a f m d := pcs_app hv _ a f m d h0 h1

theorem pcs_cases {l : List Node} (hv : validOf l = true) {a : Int} (f m d : Int) (h0 : 0 ≤ a) (h1 : a < l.length) (hm : 0 < m) {x : Node} (hx : x = l.getD a.toNat node0) :
    (x.kind = 0 ∧ pcsAt l a f m d = [⟨a, f, m, d⟩]) ∨
    (x.kind = 1 ∧ pcsAt l a f m d = pcsAt l x.a f (max 0 (min m (at_ (lensOf l) x.a - f))) d ++ pcsAt l x.b (f + max 0 (min m (at_ (lensOf l) x.a - f)) - at_ (lensOf l) x.a) (m - max 0 (min m (at_ (lensOf l) x.a - f))) d) ∨
    (x.kind = 2 ∧ pcsAt l a f m d = pcsAt l x.a (x.from_ + f) m d) ∨
    (x.kind = 3 ∧ pcsAt l a f m d = pcsAt l x.a f m (word (w64 (d + x.n)))) := by
  have hf := valid_fields hv a.toNat (by omega)
  rw [← hx] at hf
  have hnx : nat_ l a = x := hx.symm
  have e : pcsAt l a f m d = pcsOf l (a.toNat + 1) a f m d := rfl
  unfold pcsOf at e
  rw [if_neg (by omega), hnx] at e
  obtain ⟨_, _, _, _, _, hkk⟩ := valid_lens hv a.toNat (by omega)
  rw [← hx] at hkk
  rcases hkk with k | k | k | k
  · left
    rw [if_pos k] at e
    exact ⟨k, e⟩
  · right; left
    have hA := fields_a hf (by omega)
    have hB := ((fields_ahead hf).1 k).2
    rw [if_neg (by omega), if_pos k, pcs_fuel hv a.toNat (x.a.toNat + 1) _ _ _ _ hA.1 (by omega) (by omega) (by omega), pcs_fuel hv a.toNat (x.b.toNat + 1) _ _ _ _ hB.1 (by omega) (by omega) (by omega)] at e
    exact ⟨k, e⟩
  · right; right; left
    have hA := fields_a hf (by omega)
    rw [if_neg (by omega), if_neg (by omega), if_pos k, pcs_fuel hv a.toNat (x.a.toNat + 1) _ _ _ _ hA.1 (by omega) (by omega) (by omega)] at e
    exact ⟨k, e⟩
  · right; right; right
    have hA := fields_a hf (by omega)
    rw [if_neg (by omega), if_neg (by omega), if_neg (by omega), pcs_fuel hv a.toNat (x.a.toNat + 1) _ _ _ _ hA.1 (by omega) (by omega) (by omega)] at e
    exact ⟨k, e⟩

theorem pcs_zero {l : List Node} {a f m d : Int} (h : m ≤ 0) : pcsAt l a f m d = [] := by
  unfold pcsAt pcsOf
  rw [if_pos h]

theorem pcs_ok {l : List Node} {L : List (Int × Int)} (ho : openOk l L) : ∀ (k : Nat) (a f m d : Int), a.toNat = k → walkPre l L a f m d → (∀ p ∈ pcsAt l a f m d, evnPre l L p.node p.from_ p.len p.n) ∧ ((pcsAt l a f m d).map Piece.len).sum = m ∧ (pcsAt l a f m d).length ≤ m.toNat := by
  intro k
  induction k using Nat.strongRecOn with
  | ind k ih =>
    intro a f m d hk ⟨⟨hl, hv, hL⟩, ⟨a0, a1⟩, hd, m0, hfm⟩
    by_cases hm : m ≤ 0
    · rw [pcs_zero hm]
      exact ⟨fun p hp => by simp at hp, by simp; omega, by simp⟩
    · obtain ⟨f0, f1⟩ := hfm (by omega)
      have hcs := walk_cases hl hv a0 a1 (by omega) f0 f1 hd (x := l.getD a.toNat node0) rfl
      have hpc := pcs_cases hv f m d a0 a1 (by omega) (x := l.getD a.toNat node0) rfl
      have hlb := (lens_bound hv a0 a1).2
      generalize hx : l.getD a.toNat node0 = x at hcs hpc
      rcases hcs with ⟨k0, hlen, _⟩ | ⟨k0, ha, hb, hA, hsum, hle, _⟩ | ⟨k0, ha, hf, hle, hin, _⟩ | ⟨k0, ha, hin, _⟩
      · rcases hpc with ⟨_, hp⟩ | ⟨k', _⟩ | ⟨k', _⟩ | ⟨k', _⟩
        · rw [hp]
          refine ⟨fun p hp => ?_, by simp, by simp; omega⟩
          simp only [List.mem_singleton] at hp
          subst hp
          exact ⟨ho, ⟨a0, a1⟩, by rw [show nat_ l a = x from hx]; exact k0, hd, by dsimp only; omega, by dsimp only; omega, f0, f1⟩
        · omega
        · omega
        · omega
      · rcases hpc with ⟨k', _⟩ | ⟨_, hp⟩ | ⟨k', _⟩ | ⟨k', _⟩
        · omega
        · rw [hp]
          generalize hq : max 0 (min m (at_ (lensOf l) x.a - f)) = q
          obtain ⟨g1, g2, g3⟩ := ih x.a.toNat (by omega) x.a f q d rfl ⟨⟨hl, hv, hL⟩, ⟨ha.1, by omega⟩, hd, by omega, fun h => by omega⟩
          obtain ⟨h1, h2, h3⟩ := ih x.b.toNat (by omega) x.b (f + q - at_ (lensOf l) x.a) (m - q) d rfl ⟨⟨hl, hv, hL⟩, ⟨hb.1, by omega⟩, hd, by omega, fun h => by omega⟩
          refine ⟨fun p hp => ?_, by rw [List.map_append, List.sum_append, g2, h2]; omega, by rw [List.length_append]; omega⟩
          rcases List.mem_append.1 hp with hp | hp
          · exact g1 p hp
          · exact h1 p hp
        · omega
        · omega
      · rcases hpc with ⟨k', _⟩ | ⟨k', _⟩ | ⟨_, hp⟩ | ⟨k', _⟩
        · omega
        · omega
        · rw [hp]
          exact ih x.a.toNat (by omega) x.a (x.from_ + f) m d rfl ⟨⟨hl, hv, hL⟩, ⟨ha.1, by omega⟩, hd, by omega, fun h => by omega⟩
        · omega
      · rcases hpc with ⟨k', _⟩ | ⟨k', _⟩ | ⟨k', _⟩ | ⟨_, hp⟩
        · omega
        · omega
        · omega
        · rw [hp]
          exact ih x.a.toNat (by omega) x.a f m _ rfl ⟨⟨hl, hv, hL⟩, ⟨ha.1, by omega⟩, isWord_word _, by omega, fun h => by omega⟩

theorem sumL_snoc (L : List (Int × Int)) (r : List Int) (a : Int) : sumL L (r ++ [a]) = sumL L r + lg L a := by simp [sumL]
theorem sumL_app (L : List (Int × Int)) (r q : List Int) : sumL L (r ++ q) = sumL L r + sumL L q := by simp [sumL]
theorem sumL_congr {L L' : List (Int × Int)} {r : List Int} (h : ∀ a ∈ r, lg L' a = lg L a) : sumL L' r = sumL L r := by
  unfold sumL
  rw [List.map_congr_left h]

structure Evn.Ok (S : Evn) (l : List Node) (t : Int) : Prop where
  op : openOk S.l S.L
  pre : ∃ e, S.l = l ++ e
  ins : ∀ a ∈ S.r, 0 ≤ a ∧ a < S.l.length
  sum : sumL S.L S.r = t

theorem put_ok {l : List Node} {L : List (Int × Int)} (ho : openOk l L) {c : Bool} {rope : Int} (hr : 0 ≤ rope ∧ rope < l.length) {x : Node} {long : Int} (hlong : c = false → lg L rope = long) (hx : c = true → fieldsOf x l.length = true ∧ lenOf (lensOf l) x = long ∧ long ≤ 1048576 ∧ (x.kind = 2 → isPartOf (at_ (lensOf l) x.a) x.from_ x.len = true))
    (hfull : (putIf c l L rope x long).1.length ≤ 4000) : openOk (putIf c l L rope x long).1 (putIf c l L rope x long).2.1 ∧ (∃ e, (putIf c l L rope x long).1 = l ++ e) ∧ (0 ≤ (putIf c l L rope x long).2.2 ∧ (putIf c l L rope x long).2.2 < (putIf c l L rope x long).1.length) ∧ lg (putIf c l L rope x long).2.1 (putIf c l L rope x long).2.2 = long := by
  cases c with
  | false =>
    exact ⟨ho, ⟨[], by simp [putIf]⟩, hr, hlong rfl⟩
  | true =>
    obtain ⟨x1, x2, x3, x4⟩ := hx rfl
    have hl : l.length < 4000 := by
      simp only [putIf, if_true, List.length_append, List.length_singleton] at hfull
      omega
    have hn := open_snoc ho hl x1 x2 x3 x4
    simp only [putIf, if_true]
    refine ⟨hn, ⟨[x], rfl⟩, ⟨by omega, by simp; omega⟩, ?_⟩
    rw [lg_open hn (by omega) (by simp; omega), lens_new x2]

theorem put_len (c : Bool) (l : List Node) (L : List (Int × Int)) (rope : Int) (x : Node) (long : Int) : l.length ≤ (putIf c l L rope x long).1.length := by
  cases c <;> simp [putIf]

theorem put_lg {l : List Node} {L : List (Int × Int)} (ho : openOk l L) {c : Bool} {rope : Int} {x : Node} {long : Int} {l' : List Node} {L' : List (Int × Int)} (ho' : openOk l' L') (hp : ∃ e, l' = l ++ e) {a : Int} (h0 : 0 ≤ a) (h1 : a < l.length) : lg L' a = lg L a := by
  obtain ⟨e, rfl⟩ := hp
  rw [lg_open ho' h0 (by simp; omega), lg_open ho h0 h1, lens_app h0 h1]

theorem step_ok {S : Evn} {l : List Node} {t : Int} (h : S.Ok l t) {p : Piece} (hp : evnPre S.l S.L p.node p.from_ p.len p.n) (hf : (S.step p).full = false) : (S.step p).Ok l (t + p.len) := by
  obtain ⟨ho, ⟨n0, n1⟩, hk, hw, m0, m1, f0, f1⟩ := hp
  have hbd := lens_bound ho.2.1 n0 n1
  have hlg := lg_open ho n0 n1
  have hfl : (S.off p).1.length ≤ 4000 := by
    have hf : decide (4000 < (S.off p).1.length) = false := hf
    simp only [decide_eq_false_iff_not] at hf
    omega
  have hpl : (S.part p).1.length ≤ 4000 := Nat.le_trans (put_len _ _ _ _ _ _) hfl
  have hA := put_ok (c := decide (p.len < lg S.L p.node)) (x := ⟨2, p.node, 0, p.from_, p.len, 0, []⟩) (long := p.len) ho ⟨n0, n1⟩ (fun hc => by
    have : ¬ p.len < lg S.L p.node := by simpa using hc
    omega) (fun hc => ⟨by
      unfold fieldsOf
      simp [lies]
      omega, by simp [lenOf]; omega, m1, fun _ => by
      unfold isPartOf
      rw [Bool.and_eq_true, lies_iff, lies_iff]
      dsimp only
      rw [show w64 (at_ (lensOf S.l) p.node - p.from_) = at_ (lensOf S.l) p.node - p.from_ from w64_id (by omega) (by omega)]
      omega⟩) hpl
  have hA : openOk (S.part p).1 (S.part p).2.1 ∧ (∃ e, (S.part p).1 = S.l ++ e) ∧ (0 ≤ (S.part p).2.2 ∧ (S.part p).2.2 < (S.part p).1.length) ∧ lg (S.part p).2.1 (S.part p).2.2 = p.len := hA
  obtain ⟨a1, a2, a3, a4⟩ := hA
  have hB := put_ok (c := p.n != 0) (x := ⟨3, (S.part p).2.2, 0, 0, 0, p.n, []⟩) (long := p.len) a1 a3 (fun _ => a4) (fun hc => ⟨by
      unfold fieldsOf
      simp [lies, hw]
      omega, by
      have := lg_open a1 a3.1 a3.2
      simp only [lenOf]
      rw [if_neg (by decide), if_neg (by decide), if_neg (by decide), ← this, a4]
      omega, m1, fun h => by cases h⟩) hfl
  have hB : openOk (S.off p).1 (S.off p).2.1 ∧ (∃ e, (S.off p).1 = (S.part p).1 ++ e) ∧ (0 ≤ (S.off p).2.2 ∧ (S.off p).2.2 < (S.off p).1.length) ∧ lg (S.off p).2.1 (S.off p).2.2 = p.len := hB
  obtain ⟨b1, b2, b3, b4⟩ := hB
  obtain ⟨e1, he1⟩ := h.pre
  have hpre : ∃ e, (S.off p).1 = S.l ++ e := by
    obtain ⟨e2, he2⟩ := a2
    obtain ⟨e3, he3⟩ := b2
    exact ⟨e2 ++ e3, by rw [he3, he2, List.append_assoc]⟩
  have hlen : S.l.length ≤ (S.off p).1.length := by obtain ⟨e, he⟩ := hpre; rw [he]; simp
  refine ⟨b1, ?_, fun a ha => ?_, ?_⟩
  · obtain ⟨e, he⟩ := hpre
    exact ⟨e1 ++ e, by show (S.off p).1 = _; rw [he, he1, List.append_assoc]⟩
  · simp only [Evn.step, List.mem_append, List.mem_singleton] at ha
    rcases ha with ha | rfl
    · have := h.ins a ha
      show 0 ≤ a ∧ a < (S.off p).1.length
      omega
    · exact b3
  · show sumL (S.off p).2.1 (S.r ++ [(S.off p).2.2]) = _
    rw [sumL_snoc, sumL_congr (L := S.L) (fun a ha => put_lg (c := true) (rope := 0) (x := node0) (long := 0) ho b1 hpre (h.ins a ha).1 (h.ins a ha).2), h.sum]
    congr 1

theorem run_ok : ∀ {ps : List Piece} {S : Evn} {l : List Node} {L : List (Int × Int)} {t : Int}, S.Ok l t → openOk l L → (∀ p ∈ ps, evnPre l L p.node p.from_ p.len p.n) → (Evn.run ps S).full = false → ∃ t', (Evn.run ps S).Ok l t' ∧ ((Evn.run ps S).many = false → t' = t + (ps.map Piece.len).sum)
  | [], S, l, L, t, h, _, _, _ => ⟨t, h, fun _ => by simp⟩
  | p :: ps, S, l, L, t, h, ho, hps, hf => by
    unfold Evn.run at hf ⊢
    have hpp := hps p (by simp)
    have hpS : evnPre S.l S.L p.node p.from_ p.len p.n := by
      obtain ⟨e, he⟩ := h.pre
      obtain ⟨_, ⟨n0, n1⟩, hk, hw, m0, m1, f0, f1⟩ := hpp
      refine ⟨h.op, ⟨n0, by rw [he]; simp; omega⟩, by rw [he, nat_app n0 n1]; exact hk, hw, m0, m1, f0, by rw [he, lens_app n0 n1]; exact f1⟩
    cases hc : (S.step p).full || (S.step p).many with
    | true =>
      rw [hc] at hf
      simp only [if_true] at hf ⊢
      refine ⟨_, step_ok h hpS hf, fun hm => ?_⟩
      rw [hf, hm] at hc
      cases hc
    | false =>
      rw [hc] at hf
      simp only [Bool.false_eq_true, if_false] at hf ⊢
      have hs : (S.step p).full = false := by
        cases hh : (S.step p).full with
        | false => rfl
        | true => rw [hh] at hc; simp at hc
      obtain ⟨t', h1, h2⟩ := run_ok (step_ok h hpS hs) ho (fun q hq => hps q (by simp [hq])) hf
      exact ⟨t', h1, fun hm => by rw [h2 hm]; simp; omega⟩

theorem run_app : ∀ {ps qs : List Piece} {S : Evn}, S.full = false → S.many = false → Evn.run (ps ++ qs) S = if (Evn.run ps S).full || (Evn.run ps S).many then Evn.run ps S else Evn.run qs (Evn.run ps S)
  | [], qs, S, h1, h2 => by simp [Evn.run, h1, h2]
  | p :: ps, qs, S, h1, h2 => by
    simp only [List.cons_append, Evn.run]
    by_cases hc : ((S.step p).full || (S.step p).many) = true
    · simp only [if_pos hc]
    · simp only [if_neg hc]
      have hc : ((S.step p).full || (S.step p).many) = false := by simpa using hc
      simp only [Bool.or_eq_false_iff] at hc
      exact run_app hc.1 hc.2

end Go.Rp
end

section
set_option linter.unusedVariables false
set_option maxRecDepth 100000
namespace Go.Rp
open Go Go.VT

def turnOf (n b : Int) : Int := if b < 1 then 0 else n % b
end Go.Rp
end

section
set_option linter.unusedVariables false
set_option maxRecDepth 100000
namespace Go.Rp
open Go Go.VT

structure Blt where
  l : List Node
  W : List (List Int)

def bltM (m : Nat) : Int := if (1 : Int) > (m : Int) then 1 else (m : Int)
def bltA (m : Nat) (n : Int) : Int := turnOf (w64 (Int.tdiv n 7)) (bltM m)
def bltB (m : Nat) (n : Int) : Int := turnOf (w64 (Int.tdiv n 3)) (bltM m)
def isNew (W : List (List Int)) (n : Int) : Prop := W.length = 0 ∨ turnOf n 5 = 0 ∨ (turnOf n 5 = 1 ∧ 300 < (W.getD (bltA W.length n).toNat []).length + (W.getD (bltB W.length n).toNat []).length)
instance (W n) : Decidable (isNew W n) := by unfold isNew; infer_instance
end Go.Rp
end

section
set_option linter.unusedVariables false
set_option linter.unusedSimpArgs false
set_option maxRecDepth 100000
open Go Go.VT
namespace Go.Rp

def txt (l : List Node) (a : Int) : List Int := (List.range (at_ (lensOf l) a).toNat).map fun p : Nat => (wayAt l a p).2

theorem txt_len {l : List Node} (hv : validOf l = true) {a : Int} (h0 : 0 ≤ a) (h1 : a < l.length) : ((txt l a).length : Int) = at_ (lensOf l) a := by
  have := (lens_bound hv h0 h1).1
  simp [txt]
  omega

theorem txt_get (l : List Node) (a : Int) {p : Nat} (h : p < (txt l a).length) : (txt l a)[p] = (wayAt l a p).2 := by simp [txt]

theorem txt_ext {l : List Node} {a : Int} {w : List Int} (hl : (w.length : Int) = at_ (lensOf l) a) (h : ∀ (p : Nat) (hp : p < w.length), (wayAt l a p).2 = w[p]) : txt l a = w := by
  apply List.ext_getElem
  · simp [txt]; omega
  · intro p h1 h2
    rw [txt_get, h p h2]

theorem txt_cases {l : List Node} (hv : validOf l = true) {a : Int} (h0 : 0 ≤ a) (h1 : a < l.length) {x : Node} (hx : x = l.getD a.toNat node0) :
    (x.kind = 0 ∧ txt l a = x.words) ∨
    (x.kind = 1 ∧ (0 ≤ x.a ∧ x.a < a) ∧ (0 ≤ x.b ∧ x.b < a) ∧ txt l a = txt l x.a ++ txt l x.b) ∨
    (x.kind = 2 ∧ (0 ≤ x.a ∧ x.a < a) ∧ 0 ≤ x.from_ ∧ 0 ≤ x.len ∧ x.from_ + x.len ≤ at_ (lensOf l) x.a ∧ txt l a = ((txt l x.a).drop x.from_.toNat).take x.len.toNat) ∨
    (x.kind = 3 ∧ (0 ≤ x.a ∧ x.a < a) ∧ isWord x.n = true ∧ txt l a = (txt l x.a).map fun n => word (w64 (n + x.n))) := by
  have hi : a.toNat < l.length := by omega
  have hcast : ((a.toNat : Nat) : Int) = a := by omega
  obtain ⟨hb, hk0, hk1, hk2, hk3, hkk⟩ := valid_lens hv a.toNat hi
  rw [hcast] at hb hk0 hk1 hk2 hk3
  have hfd := valid_fields hv a.toNat hi
  have hway := fun (p : Nat) (hp : (p : Int) < at_ (lensOf l) a) => way_cases hv h0 h1 (show (0 : Int) ≤ p by omega) hp hx
  rw [← hx] at hk0 hk1 hk2 hk3 hkk hfd
  rw [hcast] at hfd
  rcases hkk with k | k | k | k
  · left
    refine ⟨k, txt_ext (hk0 k).symm fun p hp => ?_⟩
    rcases hway p (by rw [hk0 k]; omega) with ⟨_, _, h, _⟩ | ⟨k', _⟩ | ⟨k', _⟩ | ⟨k', _⟩
    · rw [h]; simp [at_, List.getD, hp]
    · omega
    · omega
    · omega
  · right; left
    have hab := (fields_ahead (i := a.toNat) (by rw [hcast]; exact hfd)).1 k
    rw [hcast] at hab
    have la := txt_len hv hab.1.1 (show x.a < l.length by omega)
    have lb := txt_len hv hab.2.1 (show x.b < l.length by omega)
    refine ⟨k, hab.1, hab.2, txt_ext (by rw [List.length_append, hk1 k]; omega) fun p hp => ?_⟩
    rw [List.length_append] at hp
    rcases hway p (by rw [hk1 k]; omega) with ⟨k', _⟩ | ⟨_, _, _, _, hlt, hge⟩ | ⟨k', _⟩ | ⟨k', _⟩
    · omega
    · by_cases hc : (p : Int) < at_ (lensOf l) x.a
      · rw [hlt hc, List.getElem_append_left (by omega), txt_get]
      · obtain ⟨q1, q2⟩ := hge hc
        rw [q2, List.getElem_append_right (by omega), txt_get]
        dsimp only
        rw [show (p : Int) - at_ (lensOf l) x.a = ((p - (txt l x.a).length : Nat) : Int) by omega]
    · omega
    · omega
  · right; right; left
    have ha := fields_a (i := a.toNat) (by rw [hcast]; exact hfd) (by omega)
    rw [hcast] at ha
    obtain ⟨q1, q2, q3, q4⟩ := hk2 k
    have la := txt_len hv ha.1 (show x.a < l.length by omega)
    refine ⟨k, ha, q2, q3, q4, txt_ext (by rw [List.length_take, List.length_drop, q1]; omega) fun p hp => ?_⟩
    rw [List.length_take, List.length_drop] at hp
    rcases hway p (by rw [q1]; omega) with ⟨k', _⟩ | ⟨k', _⟩ | ⟨_, _, _, _, h⟩ | ⟨k', _⟩
    · omega
    · omega
    · rw [h, List.getElem_take, List.getElem_drop, txt_get]
      dsimp only
      rw [show x.from_ + (p : Int) = ((x.from_.toNat + p : Nat) : Int) by omega]
    · omega
  · right; right; right
    have ha := fields_a (i := a.toNat) (by rw [hcast]; exact hfd) (by omega)
    rw [hcast] at ha
    have la := txt_len hv ha.1 (show x.a < l.length by omega)
    have hn : isWord x.n = true := by
      unfold fieldsOf at hfd
      rw [if_neg (by omega), if_neg (by omega), if_neg (by omega), if_pos k] at hfd
      simp only [Bool.and_eq_true] at hfd
      exact hfd.2
    refine ⟨k, ha, hn, txt_ext (by rw [List.length_map, hk3 k]; omega) fun p hp => ?_⟩
    rw [List.length_map] at hp
    rcases hway p (by rw [hk3 k]; omega) with ⟨k', _⟩ | ⟨k', _⟩ | ⟨k', _⟩ | ⟨_, _, _, _, h⟩
    · omega
    · omega
    · omega
    · rw [h, List.getElem_map, txt_get]

theorem txt_app {l e : List Node} (hv : validOf l = true) (hv' : validOf (l ++ e) = true) : ∀ (k : Nat) (a : Int), a.toNat = k → 0 ≤ a → a < l.length → txt (l ++ e) a = txt l a := by
  intro k
  induction k using Nat.strongRecOn with
  | ind k ih =>
    intro a hk h0 h1
    have hx : l.getD a.toNat node0 = (l ++ e).getD a.toNat node0 := (nat_app h0 h1 : nat_ (l ++ e) a = nat_ l a).symm
    have h1' : a < (l ++ e).length := by rw [List.length_append]; omega
    rcases txt_cases hv h0 h1 rfl with ⟨k1, t1⟩ | ⟨k1, ha, hb, t1⟩ | ⟨k1, ha, f0, m0, fm, t1⟩ | ⟨k1, ha, hn, t1⟩ <;> rcases txt_cases hv' h0 h1' hx with ⟨k2, t2⟩ | ⟨k2, ha', hb', t2⟩ | ⟨k2, ha', f0', m0', fm', t2⟩ | ⟨k2, ha', hn', t2⟩ <;> try omega
    · rw [t1, t2]
    · rw [t1, t2, ih _ (by omega) _ rfl ha.1 (by omega), ih _ (by omega) _ rfl hb.1 (by omega)]
    · rw [t1, t2, ih _ (by omega) _ rfl ha.1 (by omega)]
    · rw [t1, t2, ih _ (by omega) _ rfl ha.1 (by omega)]

theorem txt_word {l : List Node} (hl : l.length ≤ 4000) (hv : validOf l = true) {a : Int} (h0 : 0 ≤ a) (h1 : a < l.length) : (txt l a).all isWord = true := by
  rw [List.all_eq_true]
  intro n hn
  obtain ⟨p, hp, rfl⟩ := List.mem_iff_getElem.1 hn
  have := txt_len hv h0 h1
  rw [txt_get]
  exact (way_bounds hl hv _ a p rfl h0 h1 (by omega) (by omega)).2
end Go.Rp
end

section
set_option linter.unusedVariables false
set_option linter.unusedSimpArgs false
set_option maxRecDepth 100000
open Go Go.VT
namespace Go.Rp

structure Good (S : Blt) : Prop where
  lw : S.W.length = S.l.length
  v : validOf S.l = true
  t : ∀ i : Nat, i < S.l.length → txt S.l i = S.W.getD i []
  s : ∀ i : Nat, i < S.l.length → (S.W.getD i []).length ≤ 300

theorem get_new {α : Type} {l : List α} {x d : α} : (l ++ [x]).getD l.length d = x := by simp [List.getD]

theorem Good.txt {S : Blt} (g : Good S) {a : Int} (h0 : 0 ≤ a) (h1 : a < S.l.length) : txt S.l a = S.W.getD a.toNat [] := by
  have := g.t a.toNat (by omega)
  rw [show ((a.toNat : Nat) : Int) = a by omega] at this
  exact this
theorem Good.len {S : Blt} (g : Good S) {a : Int} (h0 : 0 ≤ a) (h1 : a < S.l.length) : at_ (lensOf S.l) a = ((S.W.getD a.toNat []).length : Int) := by
  rw [← txt_len g.v h0 h1, g.txt h0 h1]
theorem txt_new {l : List Node} {x : Node} (hv : validOf l = true) (hv' : validOf (l ++ [x]) = true) :
    (x.kind = 0 ∧ txt (l ++ [x]) l.length = x.words) ∨
    (x.kind = 1 ∧ txt (l ++ [x]) l.length = txt l x.a ++ txt l x.b) ∨
    (x.kind = 2 ∧ txt (l ++ [x]) l.length = ((txt l x.a).drop x.from_.toNat).take x.len.toNat) ∨
    (x.kind = 3 ∧ txt (l ++ [x]) l.length = (txt l x.a).map fun n => word (w64 (n + x.n))) := by
  have h1 : ((l.length : Nat) : Int) < ((l ++ [x]).length : Nat) := by rw [List.length_append, List.length_singleton]; omega
  rcases txt_cases hv' (by omega) h1 (x := x) (by rw [Int.toNat_natCast, get_new]) with ⟨k2, t2⟩ | ⟨k2, ha', hb', t2⟩ | ⟨k2, ha', f0', m0', fm', t2⟩ | ⟨k2, ha', hn', t2⟩
  · exact .inl ⟨k2, t2⟩
  · rw [txt_app hv hv' _ _ rfl ha'.1 (by omega), txt_app hv hv' _ _ rfl hb'.1 (by omega)] at t2
    exact .inr (.inl ⟨k2, t2⟩)
  · rw [txt_app hv hv' _ _ rfl ha'.1 (by omega)] at t2
    exact .inr (.inr (.inl ⟨k2, t2⟩))
  · rw [txt_app hv hv' _ _ rfl ha'.1 (by omega)] at t2
    exact .inr (.inr (.inr ⟨k2, t2⟩))

theorem asked_one {l : List Node} (hl : l.length ≤ 4000) (hv : validOf l = true) {a : Int} (h0 : 0 ≤ a) (h1 : a < l.length) : askedOf l [a] = 0 := by
  have hc : checkOf l = 0 := by rw [checkOf, if_neg (by omega), if_pos hv]
  rw [askedOf, if_neg (by rw [hc]; simp), if_pos]
  simp [lies]
  omega
end Go.Rp
end

section
set_option linter.unusedVariables false
set_option maxRecDepth 100000
open Go Go.VT
namespace Go.Rp

theorem piecesE_eq (l : List Node) (L : List (Int × Int)) (a from_ many add : Int) : vc (EV []) noL Go.Proofs.Tryd.f52 cPiecesE (l, L, a, from_, many, add, ()) = (let e0 : List Node × List (Int × Int) × Int × Int × Int × Int × Unit := (l, L, a, from_, many, add, ());
  Small RU (Sigma.mk (Ty.slice (56 : Nat) (Ty.user (0 : Nat))) l) → e0 = e0) := by kernel_rfl

theorem evenW_eq (a from_ many add : Int) (l : List Node) (L : List (Int × Int)) (out : List Int) (st : Int) : vc ((EVy recYl (some cEvenY) []).set 79 ((cEvenW ghW).below mFlatW (mFlatW (a, from_, many, add, l, L, out, st, ())))) noL Go.Proofs.Tryd.f79 (cEvenW ghW) (a, from_, many, add, l, L, out, st, ()) = (let e5 : Evn := evnY (a, from_, many, add, out, l, L, st, ());
 let e4 : List Node × List (Int × Int) × Int := Evn.off (Evn.mk l L out) (Piece.mk a from_ many add);
 let e3 : List Node × List (Int × Int) × List Int × Int × Unit := (l, L, out, st, ());
 let e2 : Int × List Node × List (Int × Int) × List Int × Int × Unit := (add, e3);
 let e1 : Node := List.getD l (Int.toNat a) (Node.mk (0 : Int) (0 : Int) (0 : Int) (0 : Int) (0 : Int) (0 : Int) []);
 let e0 : Int :=
  if
  (if IntKind.wrap IntKind.i64 (Option.getD (mget (fun (x y : Int) => x == y) L e1.a) (0 : Int) - from_) < many then
  IntKind.wrap IntKind.i64 (Option.getD (mget (fun (x y : Int) => x == y) L e1.a) (0 : Int) - from_)
  else many) >
  (0 : Int) then
  if IntKind.wrap IntKind.i64 (Option.getD (mget (fun (x y : Int) => x == y) L e1.a) (0 : Int) - from_) < many then
  IntKind.wrap IntKind.i64 (Option.getD (mget (fun (x y : Int) => x == y) L e1.a) (0 : Int) - from_)
  else many
  else (0 : Int);
  Small RU (Sigma.mk (Ty.slice (3 : Nat) (Ty.int IntKind.i64)) out) →
  Small RU (Sigma.mk (Ty.slice (56 : Nat) (Ty.user (0 : Nat))) l) →
  ((0 : Int) ≤ a ∧ a < (↑(List.length l) : Int)) ∧
  ((many == (0 : Int)) = true →
  Evn.full (evnW (a, from_, many, e2)) = false ∧
  (true, e3) =
  (!Evn.many (evnW (a, from_, many, e2)), (evnW (a, from_, many, e2)).l, (evnW (a, from_, many, e2)).L, (evnW (a, from_, many, e2)).r,
  if Evn.many (evnW (a, from_, many, e2)) = true then (1 : Int) else (0 : Int), ())) ∧
  ((many == (0 : Int)) = false →
  ((e1.kind == (0 : Int)) = true →
  ((((List.length l ≤ (4000 : Nat) ∧ validOf l = true ∧ L = longOf l) ∧
  ((0 : Int) ≤ a ∧ a < (↑(List.length l) : Int)) ∧
  (nat_ l a).kind = (0 : Int) ∧ isWord add = true ∧ (0 : Int) < many ∧ many ≤ (1048576 : Int) ∧ (0 : Int) ≤ from_ ∧ from_ + many ≤ at_ (lensOf l) a) ∧
  List.length out ≤ (4001 : Nat) ∧ st = (0 : Int)) ∧
  True) ∧
  (Evn.full e5 = true → Evn.full (evnW (a, from_, many, e2)) = true ∧ (9 : Int) = (9 : Int) ∧ True) ∧
  (Evn.full e5 = false →
  Evn.full (evnW (a, from_, many, e2)) = false ∧
  (!Evn.many e5, e4.fst, e4.snd.fst, out ++ [e4.snd.snd], if Evn.many e5 = true then (1 : Int) else (0 : Int), ()) =
  (!Evn.many (evnW (a, from_, many, e2)), (evnW (a, from_, many, e2)).l, (evnW (a, from_, many, e2)).L, (evnW (a, from_, many, e2)).r,
  if Evn.many (evnW (a, from_, many, e2)) = true then (1 : Int) else (0 : Int), ()))) ∧
  ((e1.kind == (0 : Int)) = false →
  ((e1.kind == (2 : Int)) = true →
  ((((((((List.length l ≤ (4000 : Nat) ∧ validOf l = true ∧ L = longOf l) ∧
  ((0 : Int) ≤ e1.a ∧ e1.a < (↑(List.length l) : Int)) ∧
  isWord add = true ∧
  (0 : Int) ≤ many ∧
  ((0 : Int) < many → (0 : Int) ≤ IntKind.wrap IntKind.i64 (from_ + e1.from_) ∧ IntKind.wrap IntKind.i64 (from_ + e1.from_) + many ≤ at_ (lensOf l) e1.a)) ∧
  List.length out ≤ (4001 : Nat) ∧ st = (0 : Int)) ∧
  mFlatW (e1.a, IntKind.wrap IntKind.i64 (from_ + e1.from_), many, e2) < mFlatW (a, from_, many, e2)) ∧
  True) ∧
  True) ∧
  True) ∧
  True) ∧
  (Evn.full (evnW (e1.a, IntKind.wrap IntKind.i64 (from_ + e1.from_), many, e2)) = true → Evn.full (evnW (a, from_, many, e2)) = true ∧ (9 : Int) = (9 : Int) ∧ True) ∧
  (Evn.full (evnW (e1.a, IntKind.wrap IntKind.i64 (from_ + e1.from_), many, e2)) = false →
  Evn.full (evnW (a, from_, many, e2)) = false ∧
  (!Evn.many (evnW (e1.a, IntKind.wrap IntKind.i64 (from_ + e1.from_), many, e2)), (evnW (e1.a, IntKind.wrap IntKind.i64 (from_ + e1.from_), many, e2)).l,
  (evnW (e1.a, IntKind.wrap IntKind.i64 (from_ + e1.from_), many, e2)).L, (evnW (e1.a, IntKind.wrap IntKind.i64 (from_ + e1.from_), many, e2)).r,
  if Evn.many (evnW (e1.a, IntKind.wrap IntKind.i64 (from_ + e1.from_), many, e2)) = true then (1 : Int) else (0 : Int), ()) =
  (!Evn.many (evnW (a, from_, many, e2)), (evnW (a, from_, many, e2)).l, (evnW (a, from_, many, e2)).L, (evnW (a, from_, many, e2)).r,
  if Evn.many (evnW (a, from_, many, e2)) = true then (1 : Int) else (0 : Int), ()))) ∧
  ((e1.kind == (2 : Int)) = false →
  ((e1.kind == (3 : Int)) = true →
  ((((((((List.length l ≤ (4000 : Nat) ∧ validOf l = true ∧ L = longOf l) ∧
  ((0 : Int) ≤ e1.a ∧ e1.a < (↑(List.length l) : Int)) ∧
  isWord (IntKind.wrap IntKind.i64 (IntKind.wrap IntKind.i32 (IntKind.wrap IntKind.i64 (add + e1.n)))) = true ∧
  (0 : Int) ≤ many ∧ ((0 : Int) < many → (0 : Int) ≤ from_ ∧ from_ + many ≤ at_ (lensOf l) e1.a)) ∧
  List.length out ≤ (4001 : Nat) ∧ st = (0 : Int)) ∧
  mFlatW (e1.a, from_, many, IntKind.wrap IntKind.i64 (IntKind.wrap IntKind.i32 (IntKind.wrap IntKind.i64 (add + e1.n))), e3) < mFlatW (a, from_, many, e2)) ∧
  True) ∧
  True) ∧
  True) ∧
  True) ∧
  (Evn.full (evnW (e1.a, from_, many, IntKind.wrap IntKind.i64 (IntKind.wrap IntKind.i32 (IntKind.wrap IntKind.i64 (add + e1.n))), e3)) = true →
  Evn.full (evnW (a, from_, many, e2)) = true ∧ (9 : Int) = (9 : Int) ∧ True) ∧
  (Evn.full (evnW (e1.a, from_, many, IntKind.wrap IntKind.i64 (IntKind.wrap IntKind.i32 (IntKind.wrap IntKind.i64 (add + e1.n))), e3)) = false →
  Evn.full (evnW (a, from_, many, e2)) = false ∧
  (!Evn.many (evnW (e1.a, from_, many, IntKind.wrap IntKind.i64 (IntKind.wrap IntKind.i32 (IntKind.wrap IntKind.i64 (add + e1.n))), e3)),
  (evnW (e1.a, from_, many, IntKind.wrap IntKind.i64 (IntKind.wrap IntKind.i32 (IntKind.wrap IntKind.i64 (add + e1.n))), e3)).l,
  (evnW (e1.a, from_, many, IntKind.wrap IntKind.i64 (IntKind.wrap IntKind.i32 (IntKind.wrap IntKind.i64 (add + e1.n))), e3)).L,
  (evnW (e1.a, from_, many, IntKind.wrap IntKind.i64 (IntKind.wrap IntKind.i32 (IntKind.wrap IntKind.i64 (add + e1.n))), e3)).r,
  if Evn.many (evnW (e1.a, from_, many, IntKind.wrap IntKind.i64 (IntKind.wrap IntKind.i32 (IntKind.wrap IntKind.i64 (add + e1.n))), e3)) = true then (1 : Int)
  else (0 : Int),
  ()) =
  (!Evn.many (evnW (a, from_, many, e2)), (evnW (a, from_, many, e2)).l, (evnW (a, from_, many, e2)).L, (evnW (a, from_, many, e2)).r,
  if Evn.many (evnW (a, from_, many, e2)) = true then (1 : Int) else (0 : Int), ()))) ∧
  ((e1.kind == (3 : Int)) = false →
  ((!Evn.many (evnW (e1.a, from_, e0, e2))) = true →
  ((((((((List.length l ≤ (4000 : Nat) ∧ validOf l = true ∧ L = longOf l) ∧
  ((0 : Int) ≤ e1.a ∧ e1.a < (↑(List.length l) : Int)) ∧
  isWord add = true ∧ (0 : Int) ≤ e0 ∧ ((0 : Int) < e0 → (0 : Int) ≤ from_ ∧ from_ + e0 ≤ at_ (lensOf l) e1.a)) ∧
  List.length out ≤ (4001 : Nat) ∧ st = (0 : Int)) ∧
  mFlatW (e1.a, from_, e0, e2) < mFlatW (a, from_, many, e2)) ∧
  True) ∧
  True) ∧
  True) ∧
  True) ∧
  (Evn.full (evnW (e1.a, from_, e0, e2)) = true → Evn.full (evnW (a, from_, many, e2)) = true ∧ (9 : Int) = (9 : Int) ∧ True) ∧
  (Evn.full (evnW (e1.a, from_, e0, e2)) = false →
  (((((((List.length (evnW (e1.a, from_, e0, e2)).l ≤ (4000 : Nat) ∧
  validOf (evnW (e1.a, from_, e0, e2)).l = true ∧ (evnW (e1.a, from_, e0, e2)).L = longOf (evnW (e1.a, from_, e0, e2)).l) ∧
  ((0 : Int) ≤ e1.b ∧ e1.b < (↑(List.length (evnW (e1.a, from_, e0, e2)).l) : Int)) ∧
  isWord add = true ∧
  (0 : Int) ≤ IntKind.wrap IntKind.i64 (many - e0) ∧
  ((0 : Int) < IntKind.wrap IntKind.i64 (many - e0) →
  (0 : Int) ≤
  IntKind.wrap IntKind.i64
  (IntKind.wrap IntKind.i64 (from_ + e0) - Option.getD (mget (fun (x y : Int) => x == y) (evnW (e1.a, from_, e0, e2)).L e1.a) (0 : Int)) ∧
  IntKind.wrap IntKind.i64
  (IntKind.wrap IntKind.i64 (from_ + e0) - Option.getD (mget (fun (x y : Int) => x == y) (evnW (e1.a, from_, e0, e2)).L e1.a) (0 : Int)) +
  IntKind.wrap IntKind.i64 (many - e0) ≤
  at_ (lensOf (evnW (e1.a, from_, e0, e2)).l) e1.b)) ∧
  List.length (evnW (e1.a, from_, e0, e2)).r ≤ (4001 : Nat) ∧ (if Evn.many (evnW (e1.a, from_, e0, e2)) = true then (1 : Int) else (0 : Int)) = (0 : Int)) ∧
  mFlatW
  (e1.b,
  IntKind.wrap IntKind.i64
  (IntKind.wrap IntKind.i64 (from_ + e0) - Option.getD (mget (fun (x y : Int) => x == y) (evnW (e1.a, from_, e0, e2)).L e1.a) (0 : Int)),
  IntKind.wrap IntKind.i64 (many - e0), add, (evnW (e1.a, from_, e0, e2)).l, (evnW (e1.a, from_, e0, e2)).L, (evnW (e1.a, from_, e0, e2)).r,
  if Evn.many (evnW (e1.a, from_, e0, e2)) = true then (1 : Int) else (0 : Int), ()) <
  mFlatW (a, from_, many, e2)) ∧
  True) ∧
  True) ∧
  True) ∧
  True) ∧
  (Evn.full (evnW (e1.a, from_, e0, e2)) = false →
  Evn.full
  (evnW
  (e1.b,
  IntKind.wrap IntKind.i64
  (IntKind.wrap IntKind.i64 (from_ + e0) - Option.getD (mget (fun (x y : Int) => x == y) (evnW (e1.a, from_, e0, e2)).L e1.a) (0 : Int)),
  IntKind.wrap IntKind.i64 (many - e0), add, (evnW (e1.a, from_, e0, e2)).l, (evnW (e1.a, from_, e0, e2)).L, (evnW (e1.a, from_, e0, e2)).r,
  if Evn.many (evnW (e1.a, from_, e0, e2)) = true then (1 : Int) else (0 : Int), ())) =
  true →
  Evn.full (evnW (a, from_, many, e2)) = true ∧ (9 : Int) = (9 : Int) ∧ True) ∧
  (Evn.full (evnW (e1.a, from_, e0, e2)) = false →
  Evn.full
  (evnW
  (e1.b,
  IntKind.wrap IntKind.i64
  (IntKind.wrap IntKind.i64 (from_ + e0) - Option.getD (mget (fun (x y : Int) => x == y) (evnW (e1.a, from_, e0, e2)).L e1.a) (0 : Int)),
  IntKind.wrap IntKind.i64 (many - e0), add, (evnW (e1.a, from_, e0, e2)).l, (evnW (e1.a, from_, e0, e2)).L, (evnW (e1.a, from_, e0, e2)).r,
  if Evn.many (evnW (e1.a, from_, e0, e2)) = true then (1 : Int) else (0 : Int), ())) =
  false →
  Evn.full (evnW (a, from_, many, e2)) = false ∧
  (!Evn.many (evnW (e1.a, from_, e0, e2)) &&
  !Evn.many
  (evnW
  (e1.b,
  IntKind.wrap IntKind.i64
  (IntKind.wrap IntKind.i64 (from_ + e0) - Option.getD (mget (fun (x y : Int) => x == y) (evnW (e1.a, from_, e0, e2)).L e1.a) (0 : Int)),
  IntKind.wrap IntKind.i64 (many - e0), add, (evnW (e1.a, from_, e0, e2)).l, (evnW (e1.a, from_, e0, e2)).L, (evnW (e1.a, from_, e0, e2)).r,
  if Evn.many (evnW (e1.a, from_, e0, e2)) = true then (1 : Int) else (0 : Int), ())),
  (evnW
  (e1.b,
  IntKind.wrap IntKind.i64
  (IntKind.wrap IntKind.i64 (from_ + e0) - Option.getD (mget (fun (x y : Int) => x == y) (evnW (e1.a, from_, e0, e2)).L e1.a) (0 : Int)),
  IntKind.wrap IntKind.i64 (many - e0), add, (evnW (e1.a, from_, e0, e2)).l, (evnW (e1.a, from_, e0, e2)).L, (evnW (e1.a, from_, e0, e2)).r,
  if Evn.many (evnW (e1.a, from_, e0, e2)) = true then (1 : Int) else (0 : Int), ())).l,
  (evnW
  (e1.b,
  IntKind.wrap IntKind.i64
  (IntKind.wrap IntKind.i64 (from_ + e0) - Option.getD (mget (fun (x y : Int) => x == y) (evnW (e1.a, from_, e0, e2)).L e1.a) (0 : Int)),
  IntKind.wrap IntKind.i64 (many - e0), add, (evnW (e1.a, from_, e0, e2)).l, (evnW (e1.a, from_, e0, e2)).L, (evnW (e1.a, from_, e0, e2)).r,
  if Evn.many (evnW (e1.a, from_, e0, e2)) = true then (1 : Int) else (0 : Int), ())).L,
  (evnW
  (e1.b,
  IntKind.wrap IntKind.i64
  (IntKind.wrap IntKind.i64 (from_ + e0) - Option.getD (mget (fun (x y : Int) => x == y) (evnW (e1.a, from_, e0, e2)).L e1.a) (0 : Int)),
  IntKind.wrap IntKind.i64 (many - e0), add, (evnW (e1.a, from_, e0, e2)).l, (evnW (e1.a, from_, e0, e2)).L, (evnW (e1.a, from_, e0, e2)).r,
  if Evn.many (evnW (e1.a, from_, e0, e2)) = true then (1 : Int) else (0 : Int), ())).r,
  if
  Evn.many
  (evnW
  (e1.b,
  IntKind.wrap IntKind.i64
  (IntKind.wrap IntKind.i64 (from_ + e0) - Option.getD (mget (fun (x y : Int) => x == y) (evnW (e1.a, from_, e0, e2)).L e1.a) (0 : Int)),
  IntKind.wrap IntKind.i64 (many - e0), add, (evnW (e1.a, from_, e0, e2)).l, (evnW (e1.a, from_, e0, e2)).L, (evnW (e1.a, from_, e0, e2)).r,
  if Evn.many (evnW (e1.a, from_, e0, e2)) = true then (1 : Int) else (0 : Int), ())) =
  true then
  (1 : Int)
  else (0 : Int),
  ()) =
  (!Evn.many (evnW (a, from_, many, e2)), (evnW (a, from_, many, e2)).l, (evnW (a, from_, many, e2)).L, (evnW (a, from_, many, e2)).r,
  if Evn.many (evnW (a, from_, many, e2)) = true then (1 : Int) else (0 : Int), ()))) ∧
  ((!Evn.many (evnW (e1.a, from_, e0, e2))) = !true →
  ((((((((List.length l ≤ (4000 : Nat) ∧ validOf l = true ∧ L = longOf l) ∧
  ((0 : Int) ≤ e1.a ∧ e1.a < (↑(List.length l) : Int)) ∧
  isWord add = true ∧ (0 : Int) ≤ e0 ∧ ((0 : Int) < e0 → (0 : Int) ≤ from_ ∧ from_ + e0 ≤ at_ (lensOf l) e1.a)) ∧
  List.length out ≤ (4001 : Nat) ∧ st = (0 : Int)) ∧
  mFlatW (e1.a, from_, e0, e2) < mFlatW (a, from_, many, e2)) ∧
  True) ∧
  True) ∧
  True) ∧
  True) ∧
  (Evn.full (evnW (e1.a, from_, e0, e2)) = true → Evn.full (evnW (a, from_, many, e2)) = true ∧ (9 : Int) = (9 : Int) ∧ True) ∧
  (Evn.full (evnW (e1.a, from_, e0, e2)) = false →
  Evn.full (evnW (a, from_, many, e2)) = false ∧
  (!Evn.many (evnW (e1.a, from_, e0, e2)) &&
  !Evn.many
  (evnW
  (e1.b,
  IntKind.wrap IntKind.i64
  (IntKind.wrap IntKind.i64 (from_ + e0) - Option.getD (mget (fun (x y : Int) => x == y) (evnW (e1.a, from_, e0, e2)).L e1.a) (0 : Int)),
  IntKind.wrap IntKind.i64 (many - e0), add, (evnW (e1.a, from_, e0, e2)).l, (evnW (e1.a, from_, e0, e2)).L, (evnW (e1.a, from_, e0, e2)).r,
  if Evn.many (evnW (e1.a, from_, e0, e2)) = true then (1 : Int) else (0 : Int), ())),
  (evnW (e1.a, from_, e0, e2)).l, (evnW (e1.a, from_, e0, e2)).L, (evnW (e1.a, from_, e0, e2)).r,
  if Evn.many (evnW (e1.a, from_, e0, e2)) = true then (1 : Int) else (0 : Int), ()) =
  (!Evn.many (evnW (a, from_, many, e2)), (evnW (a, from_, many, e2)).l, (evnW (a, from_, many, e2)).L, (evnW (a, from_, many, e2)).r,
  if Evn.many (evnW (a, from_, many, e2)) = true then (1 : Int) else (0 : Int), ())))))))) := by kernel_rfl

theorem evenK_eq (a from_ many add : Int) (l : List Node) (L : List (Int × Int)) (out : List Int) (st : Int) : vc (EVy walkYl (some cEvenY) [(79, cEvenW ghK)]) noL Go.Proofs.Tryd.f78 cEvenK (a, from_, many, add, l, L, out, st, ()) = (let e0 : Evn := evnW (a, from_, many, add, l, L, out, st, ());
  Small RU (Sigma.mk (Ty.slice (3 : Nat) (Ty.int IntKind.i64)) out) →
  Small RU (Sigma.mk (Ty.slice (56 : Nat) (Ty.user (0 : Nat))) l) →
  (((((((List.length l ≤ (4000 : Nat) ∧ validOf l = true ∧ L = longOf l) ∧
  ((0 : Int) ≤ a ∧ a < (↑(List.length l) : Int)) ∧ isWord add = true ∧ (0 : Int) ≤ many ∧ ((0 : Int) < many → (0 : Int) ≤ from_ ∧ from_ + many ≤ at_ (lensOf l) a)) ∧
  List.length out ≤ (4001 : Nat) ∧ st = (0 : Int)) ∧
  True) ∧
  True) ∧
  True) ∧
  True) ∧
  (Evn.full e0 = true → Evn.full e0 = true ∧ (9 : Int) = (9 : Int) ∧ True) ∧
  (Evn.full e0 = false →
  Evn.full e0 = false ∧ (e0.l, e0.L, e0.r, if Evn.many e0 = true then (1 : Int) else (0 : Int), ()) = (e0.l, e0.L, e0.r, if Evn.many e0 = true then (1 : Int) else (0 : Int), ()))) := by kernel_rfl

theorem join_eq (r : List Int) (l : List Node) (L : List (Int × Int)) : vc ((EV [(60, cPut)]).set 61 (cJoin.below mJoin (mJoin (r, l, L, ())))) noL Go.Proofs.Tryd.f61 cJoin (r, l, L, ()) = (let e4 : List (Int × Int) × Int := (joinAt l L r).snd;
 let e3 : Nat := mJoin (r, l, L, ());
 let e2 : Int × List Node × List (Int × Int) × Unit := (e4.snd, (joinAt l L r).fst, e4.fst, ());
 let e1 : Int := IntKind.wrap IntKind.i64 (Int.tdiv (↑(List.length r) : Int) (2 : Int));
 let e0 : Nat := Int.toNat e1;
  Small RU (Sigma.mk (Ty.slice (3 : Nat) (Ty.int IntKind.i64)) r) →
  Small RU (Sigma.mk (Ty.slice (56 : Nat) (Ty.user (0 : Nat))) l) →
  (((↑(List.length r) : Int) == (1 : Int)) = true → ((0 : Int) ≤ (0 : Int) ∧ (0 : Int) < (↑(List.length r) : Int)) ∧ joinBad l r = false ∧ (List.getD r (0 : Nat) (0 : Int), l, L, ()) = e2) ∧
  (((↑(List.length r) : Int) == (1 : Int)) = false →
  (2 : Int) ≠ (0 : Int) ∧
  ((0 : Int) ≤ e1 ∧ e1 ≤ (↑(List.length r) : Int)) ∧
  (((((List.length l ≤ (4000 : Nat) ∧ validOf l = true ∧ L = longOf l) ∧
  (1 : Nat) ≤ List.length (List.take e0 r) ∧
  List.length (List.take e0 r) ≤ (4001 : Nat) ∧
  (∀ (a : Int), List.Mem a (List.take e0 r) → (0 : Int) ≤ a ∧ a < (↑(List.length l) : Int)) ∧ sumL L (List.take e0 r) ≤ (1048576 : Int)) ∧
  mJoin (List.take e0 r, l, L, ()) < e3) ∧
  True) ∧
  True) ∧
  (joinBad l (List.take e0 r) = true → joinBad l r = true ∧ (9 : Int) = (9 : Int) ∧ True) ∧
  (2 : Int) ≠ (0 : Int) ∧
  ((0 : Int) ≤ e1 ∧ e1 ≤ (↑(List.length r) : Int)) ∧
  (joinBad l (List.take e0 r) = false →
  ((((List.length (joinAt l L (List.take e0 r)).fst ≤ (4000 : Nat) ∧
  validOf (joinAt l L (List.take e0 r)).fst = true ∧ (joinAt l L (List.take e0 r)).snd.fst = longOf (joinAt l L (List.take e0 r)).fst) ∧
  (1 : Nat) ≤ List.length (List.drop e0 r) ∧
  List.length (List.drop e0 r) ≤ (4001 : Nat) ∧
  (∀ (a : Int),
 let e0 : Nat := e0;
  List.Mem a (List.drop e0 r) → (0 : Int) ≤ a ∧ a < (↑(List.length (joinAt l L (List.take e0 r)).fst) : Int)) ∧
  sumL (joinAt l L (List.take e0 r)).snd.fst (List.drop e0 r) ≤ (1048576 : Int)) ∧
  mJoin (List.drop e0 r, (joinAt l L (List.take e0 r)).fst, (joinAt l L (List.take e0 r)).snd.fst, ()) < e3) ∧
  True) ∧
  True) ∧
  (joinBad l (List.take e0 r) = false → joinBad (joinAt l L (List.take e0 r)).fst (List.drop e0 r) = true → joinBad l r = true ∧ (9 : Int) = (9 : Int) ∧ True) ∧
  (joinBad l (List.take e0 r) = false →
  joinBad (joinAt l L (List.take e0 r)).fst (List.drop e0 r) = false →
  (putBad (joinAt (joinAt l L (List.take e0 r)).fst (joinAt l L (List.take e0 r)).snd.fst (List.drop e0 r)).fst
  (IntKind.wrap IntKind.i64
  (Option.getD
  (mget (fun (x y : Int) => x == y) (joinAt (joinAt l L (List.take e0 r)).fst (joinAt l L (List.take e0 r)).snd.fst (List.drop e0 r)).snd.fst
  (joinAt l L (List.take e0 r)).snd.snd)
  (0 : Int) +
  Option.getD
  (mget (fun (x y : Int) => x == y) (joinAt (joinAt l L (List.take e0 r)).fst (joinAt l L (List.take e0 r)).snd.fst (List.drop e0 r)).snd.fst
  (joinAt (joinAt l L (List.take e0 r)).fst (joinAt l L (List.take e0 r)).snd.fst (List.drop e0 r)).snd.snd)
  (0 : Int))) =
  true →
  joinBad l r = true ∧ (9 : Int) = (9 : Int) ∧ True) ∧
  (putBad (joinAt (joinAt l L (List.take e0 r)).fst (joinAt l L (List.take e0 r)).snd.fst (List.drop e0 r)).fst
  (IntKind.wrap IntKind.i64
  (Option.getD
  (mget (fun (x y : Int) => x == y) (joinAt (joinAt l L (List.take e0 r)).fst (joinAt l L (List.take e0 r)).snd.fst (List.drop e0 r)).snd.fst
  (joinAt l L (List.take e0 r)).snd.snd)
  (0 : Int) +
  Option.getD
  (mget (fun (x y : Int) => x == y) (joinAt (joinAt l L (List.take e0 r)).fst (joinAt l L (List.take e0 r)).snd.fst (List.drop e0 r)).snd.fst
  (joinAt (joinAt l L (List.take e0 r)).fst (joinAt l L (List.take e0 r)).snd.fst (List.drop e0 r)).snd.snd)
  (0 : Int))) =
  false →
  joinBad l r = false ∧
  ((↑(List.length (joinAt (joinAt l L (List.take e0 r)).fst (joinAt l L (List.take e0 r)).snd.fst (List.drop e0 r)).fst) : Int),
  (joinAt (joinAt l L (List.take e0 r)).fst (joinAt l L (List.take e0 r)).snd.fst (List.drop e0 r)).fst ++
  [Node.mk (1 : Int) (joinAt l L (List.take e0 r)).snd.snd
  (joinAt (joinAt l L (List.take e0 r)).fst (joinAt l L (List.take e0 r)).snd.fst (List.drop e0 r)).snd.snd (0 : Int) (0 : Int) (0 : Int) []],
  putL (joinAt (joinAt l L (List.take e0 r)).fst (joinAt l L (List.take e0 r)).snd.fst (List.drop e0 r)).fst
  (joinAt (joinAt l L (List.take e0 r)).fst (joinAt l L (List.take e0 r)).snd.fst (List.drop e0 r)).snd.fst
  (IntKind.wrap IntKind.i64
  (Option.getD
  (mget (fun (x y : Int) => x == y) (joinAt (joinAt l L (List.take e0 r)).fst (joinAt l L (List.take e0 r)).snd.fst (List.drop e0 r)).snd.fst
  (joinAt l L (List.take e0 r)).snd.snd)
  (0 : Int) +
  Option.getD
  (mget (fun (x y : Int) => x == y) (joinAt (joinAt l L (List.take e0 r)).fst (joinAt l L (List.take e0 r)).snd.fst (List.drop e0 r)).snd.fst
  (joinAt (joinAt l L (List.take e0 r)).fst (joinAt l L (List.take e0 r)).snd.fst (List.drop e0 r)).snd.snd)
  (0 : Int))),
  ()) =
  e2)))) := by kernel_rfl

theorem evenP_eq (l : List Node) (a : Int) : vcD (EVx (fun _ _ => []) itEven [(49, cOpen), (52, cPiecesE), (53, cMust), (59, cOwnS), (60, cPut), (61, cJoin)]) cC lEven Go.Proofs.Tryd.f24 cEvenP (l, a, ()) = (let e4 : Bool := askedOf l [a] != (0 : Int);
 let e3 : List Node := [Node.mk (0 : Int) (0 : Int) (0 : Int) (0 : Int) (0 : Int) (0 : Int) []];
 let e2 : Int := Option.getD (mget (fun (x y : Int) => x == y) (longOf l) a) (0 : Int);
 let e1 : List Node × Int × Int × Unit := ((evenAt l a).fst, (evenAt l a).snd.fst, (evenAt l a).snd.snd, ());
 let e0 : Evn := evnW (a, (0 : Int), e2, (0 : Int), l, longOf l, [], (0 : Int), ());
  Small RU (Sigma.mk (Ty.slice (56 : Nat) (Ty.user (0 : Nat))) l) →
  (e4 = true → ([], (0 : Int), askedOf l [a], ()) = e1) ∧
  (e4 = false →
  (List.length l ≤ (4000000 : Nat) ∧ ∀ (x : Node), List.Mem x l → List.length x.words ≤ (4000000 : Nat)) ∧
  (longOf l = longOf l ∧ True) ∧
  (∀ (xs : Int × Int × Int × Int × List Int × List Node × List (Int × Int) × Int × Unit),
 let e3 : Int := xs.snd.snd.snd.fst;
 let e2 : List Node := [Node.mk (2 : Int) xs.fst (0 : Int) xs.snd.fst xs.snd.snd.fst (0 : Int) []];
 let e1 : List Int × List Node × List (Int × Int) × Int × Unit := xs.snd.snd.snd.snd;
 let e0 : Bool × List Int × List Node × List (Int × Int) × Int × Unit :=
  (!Evn.many (evnY xs), e1.fst ++ [(Evn.off (Evn.mk e1.snd.fst e1.snd.snd.fst e1.fst) (Piece.mk xs.fst xs.snd.fst xs.snd.snd.fst e3)).snd.snd],
  (Evn.off (Evn.mk e1.snd.fst e1.snd.snd.fst e1.fst) (Piece.mk xs.fst xs.snd.fst xs.snd.snd.fst e3)).fst,
  (Evn.off (Evn.mk e1.snd.fst e1.snd.snd.fst e1.fst) (Piece.mk xs.fst xs.snd.fst xs.snd.snd.fst e3)).snd.fst, if Evn.many (evnY xs) = true then (1 : Int) else (0 : Int), ());
  ((List.length e1.snd.fst ≤ (4000 : Nat) ∧ validOf e1.snd.fst = true ∧ e1.snd.snd.fst = longOf e1.snd.fst) ∧
  ((0 : Int) ≤ xs.fst ∧ xs.fst < (↑(List.length e1.snd.fst) : Int)) ∧
  (nat_ e1.snd.fst xs.fst).kind = (0 : Int) ∧
  isWord e3 = true ∧ (0 : Int) < xs.snd.snd.fst ∧ xs.snd.snd.fst ≤ (1048576 : Int) ∧ (0 : Int) ≤ xs.snd.fst ∧ xs.snd.fst + xs.snd.snd.fst ≤ at_ (lensOf e1.snd.fst) xs.fst) ∧
  List.length e1.fst ≤ (4001 : Nat) ∧ e1.snd.snd.snd.fst = (0 : Int) →
  Small RU (Sigma.mk (Ty.slice (3 : Nat) (Ty.int IntKind.i64)) e1.fst) →
  Small RU (Sigma.mk (Ty.slice (56 : Nat) (Ty.user (0 : Nat))) e1.snd.fst) →
  e1.snd.snd.snd.fst = (0 : Int) ∧
  (decide (xs.snd.snd.fst < Option.getD (mget (fun (x y : Int) => x == y) e1.snd.snd.fst xs.fst) (0 : Int)) = true →
  (putBad e1.snd.fst xs.snd.snd.fst = true → Evn.full (evnY xs) = true ∧ (9 : Int) = (9 : Int) ∧ True) ∧
  (putBad e1.snd.fst xs.snd.snd.fst = false →
  ((e3 != (0 : Int)) = true →
  (putBad (e1.snd.fst ++ e2) xs.snd.snd.fst = true → Evn.full (evnY xs) = true ∧ (9 : Int) = (9 : Int) ∧ True) ∧
  (putBad (e1.snd.fst ++ e2) xs.snd.snd.fst = false →
  (List.length e1.fst + List.length [(↑(List.length (e1.snd.fst ++ e2)) : Int)]) * (8 : Nat) ≤ (140737488355328 : Nat) ∧
  (decide ((↑(List.length (e1.fst ++ [(↑(List.length (e1.snd.fst ++ e2)) : Int)])) : Int) > (4001 : Int)) = true →
  Evn.full (evnY xs) = false ∧
  (false, e1.fst ++ [(↑(List.length (e1.snd.fst ++ e2)) : Int)],
  e1.snd.fst ++ e2 ++ [Node.mk (3 : Int) (↑(List.length e1.snd.fst) : Int) (0 : Int) (0 : Int) (0 : Int) e3 []],
  putL (e1.snd.fst ++ e2) (putL e1.snd.fst e1.snd.snd.fst xs.snd.snd.fst) xs.snd.snd.fst, (1 : Int), ()) =
  e0) ∧
  (decide ((↑(List.length (e1.fst ++ [(↑(List.length (e1.snd.fst ++ e2)) : Int)])) : Int) > (4001 : Int)) = false →
  Evn.full (evnY xs) = false ∧
  (true, e1.fst ++ [(↑(List.length (e1.snd.fst ++ e2)) : Int)],
  e1.snd.fst ++ e2 ++ [Node.mk (3 : Int) (↑(List.length e1.snd.fst) : Int) (0 : Int) (0 : Int) (0 : Int) e3 []],
  putL (e1.snd.fst ++ e2) (putL e1.snd.fst e1.snd.snd.fst xs.snd.snd.fst) xs.snd.snd.fst, (0 : Int), ()) =
  e0))) ∧
  ((e3 != (0 : Int)) = false →
  (List.length e1.fst + List.length [(↑(List.length e1.snd.fst) : Int)]) * (8 : Nat) ≤ (140737488355328 : Nat) ∧
  (decide ((↑(List.length (e1.fst ++ [(↑(List.length e1.snd.fst) : Int)])) : Int) > (4001 : Int)) = true →
  Evn.full (evnY xs) = false ∧
  (false, e1.fst ++ [(↑(List.length e1.snd.fst) : Int)], e1.snd.fst ++ e2, putL e1.snd.fst e1.snd.snd.fst xs.snd.snd.fst, (1 : Int), ()) = e0) ∧
  (decide ((↑(List.length (e1.fst ++ [(↑(List.length e1.snd.fst) : Int)])) : Int) > (4001 : Int)) = false →
  Evn.full (evnY xs) = false ∧
  (true, e1.fst ++ [(↑(List.length e1.snd.fst) : Int)], e1.snd.fst ++ e2, putL e1.snd.fst e1.snd.snd.fst xs.snd.snd.fst, (0 : Int), ()) = e0)))) ∧
  (decide (xs.snd.snd.fst < Option.getD (mget (fun (x y : Int) => x == y) e1.snd.snd.fst xs.fst) (0 : Int)) = false →
  ((e3 != (0 : Int)) = true →
  (putBad e1.snd.fst xs.snd.snd.fst = true → Evn.full (evnY xs) = true ∧ (9 : Int) = (9 : Int) ∧ True) ∧
  (putBad e1.snd.fst xs.snd.snd.fst = false →
  (List.length e1.fst + List.length [(↑(List.length e1.snd.fst) : Int)]) * (8 : Nat) ≤ (140737488355328 : Nat) ∧
  (decide ((↑(List.length (e1.fst ++ [(↑(List.length e1.snd.fst) : Int)])) : Int) > (4001 : Int)) = true →
  Evn.full (evnY xs) = false ∧
  (false, e1.fst ++ [(↑(List.length e1.snd.fst) : Int)], e1.snd.fst ++ [Node.mk (3 : Int) xs.fst (0 : Int) (0 : Int) (0 : Int) e3 []],
  putL e1.snd.fst e1.snd.snd.fst xs.snd.snd.fst, (1 : Int), ()) =
  e0) ∧
  (decide ((↑(List.length (e1.fst ++ [(↑(List.length e1.snd.fst) : Int)])) : Int) > (4001 : Int)) = false →
  Evn.full (evnY xs) = false ∧
  (true, e1.fst ++ [(↑(List.length e1.snd.fst) : Int)], e1.snd.fst ++ [Node.mk (3 : Int) xs.fst (0 : Int) (0 : Int) (0 : Int) e3 []],
  putL e1.snd.fst e1.snd.snd.fst xs.snd.snd.fst, (0 : Int), ()) =
  e0))) ∧
  ((e3 != (0 : Int)) = false →
  (List.length e1.fst + List.length [xs.fst]) * (8 : Nat) ≤ (140737488355328 : Nat) ∧
  (decide ((↑(List.length (e1.fst ++ [xs.fst])) : Int) > (4001 : Int)) = true →
  Evn.full (evnY xs) = false ∧ (false, e1.fst ++ [xs.fst], e1.snd.fst, e1.snd.snd.fst, (1 : Int), ()) = e0) ∧
  (decide ((↑(List.length (e1.fst ++ [xs.fst])) : Int) > (4001 : Int)) = false →
  Evn.full (evnY xs) = false ∧ (true, e1.fst ++ [xs.fst], e1.snd.fst, e1.snd.snd.fst, (0 : Int), ()) = e0)))) ∧
  (((((List.length l ≤ (4000 : Nat) ∧ validOf l = true ∧ longOf l = longOf l) ∧
  ((0 : Int) ≤ a ∧ a < (↑(List.length l) : Int)) ∧ isWord (0 : Int) = true ∧ (0 : Int) ≤ e2 ∧ ((0 : Int) < e2 → (0 : Int) ≤ (0 : Int) ∧ (0 : Int) + e2 ≤ at_ (lensOf l) a)) ∧
  List.length ([] : List Int) ≤ (4001 : Nat) ∧ (0 : Int) = (0 : Int)) ∧
  True) ∧
  True) ∧
  (Evn.full e0 = true → ([], (0 : Int), (9 : Int), ()) = e1) ∧
  (Evn.full e0 = false →
  ((if Evn.many e0 = true then (1 : Int) else (0 : Int)) = (0 : Int) →
  ((!decide ((↑(List.length e0.r) : Int) ≤ (4001 : Int))) = true → ([], (0 : Int), (9 : Int), ()) = e1) ∧
  ((!decide ((↑(List.length e0.r) : Int) ≤ (4001 : Int))) = false →
  (((↑(List.length e0.r) : Int) == (0 : Int)) = true →
  (putBad e0.l (0 : Int) = true → ([], (0 : Int), (9 : Int), ()) = e1) ∧ (putBad e0.l (0 : Int) = false → (e0.l ++ e3, (↑(List.length e0.l) : Int), (0 : Int), ()) = e1)) ∧
  (((↑(List.length e0.r) : Int) == (0 : Int)) = false →
  ((((List.length e0.l ≤ (4000 : Nat) ∧ validOf e0.l = true ∧ e0.L = longOf e0.l) ∧
  (1 : Nat) ≤ List.length e0.r ∧
  List.length e0.r ≤ (4001 : Nat) ∧
  (∀ (a : Int),
 let e0 : Evn := e0;
  List.Mem a e0.r → (0 : Int) ≤ a ∧ a < (↑(List.length e0.l) : Int)) ∧
  sumL e0.L e0.r ≤ (1048576 : Int)) ∧
  True) ∧
  True) ∧
  (joinBad e0.l e0.r = true → ([], (0 : Int), (9 : Int), ()) = e1) ∧
  (joinBad e0.l e0.r = false → ((joinAt e0.l e0.L e0.r).fst, (joinAt e0.l e0.L e0.r).snd.snd, (0 : Int), ()) = e1)))) ∧
  ((if Evn.many e0 = true then (1 : Int) else (0 : Int)) ≠ (0 : Int) →
  (if Evn.many e0 = true then (1 : Int) else (0 : Int)) = (1 : Int) ∧
  ((!decide ((↑(List.length e0.r) : Int) ≤ (4001 : Int))) = true → ([], (0 : Int), (9 : Int), ()) = e1) ∧
  ((!decide ((↑(List.length e0.r) : Int) ≤ (4001 : Int))) = false →
  (((↑(List.length e0.r) : Int) == (0 : Int)) = true →
  (putBad e0.l (0 : Int) = true → ([], (0 : Int), (9 : Int), ()) = e1) ∧
  (putBad e0.l (0 : Int) = false → (e0.l ++ e3, (↑(List.length e0.l) : Int), (0 : Int), ()) = e1)) ∧
  (((↑(List.length e0.r) : Int) == (0 : Int)) = false →
  ((((List.length e0.l ≤ (4000 : Nat) ∧ validOf e0.l = true ∧ e0.L = longOf e0.l) ∧
  (1 : Nat) ≤ List.length e0.r ∧
  List.length e0.r ≤ (4001 : Nat) ∧
  (∀ (a : Int),
 let e0 : Evn := e0;
  List.Mem a e0.r → (0 : Int) ≤ a ∧ a < (↑(List.length e0.l) : Int)) ∧
  sumL e0.L e0.r ≤ (1048576 : Int)) ∧
  True) ∧
  True) ∧
  (joinBad e0.l e0.r = true → ([], (0 : Int), (9 : Int), ()) = e1) ∧
  (joinBad e0.l e0.r = false → ((joinAt e0.l e0.L e0.r).fst, (joinAt e0.l e0.L e0.r).snd.snd, (0 : Int), ()) = e1))))))) := by kernel_rfl

end Go.Rp
end

section
set_option linter.unusedVariables false
set_option linter.unusedSimpArgs false
set_option maxRecDepth 100000
open Go Go.VT
namespace Go.Rp

theorem first_of (f m A : Int) (h : -9223372036854775808 ≤ A - f) (h2 : A - f < 9223372036854775808) (hm : 0 ≤ m) {q : Int} (hq : q = if (if IntKind.i64.wrap (A - f) < m then IntKind.i64.wrap (A - f) else m) > 0 then (if IntKind.i64.wrap (A - f) < m then IntKind.i64.wrap (A - f) else m) else 0) :
    0 ≤ q ∧ q ≤ m ∧ (0 < q → f + q ≤ A) ∧ (q < m → A ≤ f + q) := by
  have hw : IntKind.i64.wrap (A - f) = A - f := w64_id h h2
  rw [hw] at hq
  by_cases h1 : A - f < m
  · rw [if_pos h1] at hq
    split at hq <;> omega
  · rw [if_neg h1] at hq
    split at hq <;> omega

theorem ite_zero {b : Bool} {p : Prop} (h : b = !b) : p := by cases b <;> cases h

theorem flatW_vc (a f m d : Int) (l : List Node) (L : List (Int × Int)) (out : List Int) (st : Int) (hp : walkPre l L a f m d ∧ (out.length : Int) + m ≤ 1048576 ∧ st = 0) :
    vc ((EVy recYl (some cFlatY) []).set 79 ((cFlatW ghW).below mFlatW (mFlatW (a, f, m, d, l, L, out, st, ())))) noL Go.Proofs.Tryd.f79 (cFlatW ghW) (a, f, m, d, l, L, out, st, ()) := (flatW_eq a f m d l L out st).mpr (by
  intro e5 e4 e3 e2 e1 e0 _ _
  obtain ⟨⟨⟨hl, hv, rfl⟩, ⟨a0, a1⟩, hd, m0, hfm⟩, ho, rfl⟩ := hp
  have he5 : e5 = (out.length : Int) + m := rfl
  have he3 : e3 = a.toNat := rfl
  have he2 : e2 = (true, l, longOf l, out ++ walkW l a f m d, 0, ()) := rfl
  have he1 : e1 = l.getD a.toNat node0 := rfl
  have hlg : 0 ≤ e1.a → e1.a < l.length → Option.getD (mget (fun (x y : Int) => x == y) (longOf l) e1.a) (0 : Int) = at_ (lensOf l) e1.a := fun h h' => lg_long h h'
  refine ⟨⟨a0, a1⟩, fun h => ?_, fun h => ?_⟩
  · have h : m = 0 := by simpa using h
    rw [he2, walk_zero (by omega), List.append_nil]
  · have h : ¬ m = 0 := by simpa using h
    obtain ⟨f0, f1⟩ := hfm (by omega)
    have hcs := walk_cases hl hv a0 a1 (by omega) f0 f1 hd he1
    have hmf : ∀ (b g k c : Int) (o : List Int), mFlatW (b, g, k, c, l, longOf l, o, 0, ()) = b.toNat := fun _ _ _ _ _ => rfl
    have hlb := (lens_bound hv a0 a1).2
    clear_value e1 e3 e5
    subst he5 he3
    rcases hcs with ⟨k, hlen, hw⟩ | ⟨k, ha, hb, hA, hsum, hle, hspl⟩ | ⟨k, ha, hf, hle, hin, hw⟩ | ⟨k, ha, hin, hw⟩
    · refine ⟨fun _ => ⟨⟨⟨⟨⟨⟨⟨hl, hv, rfl⟩, ⟨a0, a1⟩, hd, by omega, f0, ?_⟩, ho, rfl⟩, trivial⟩, rfl, trivial⟩, rfl, trivial⟩, ?_⟩, fun hk => by simp [k] at hk⟩
      · rw [show nat_ l a = e1 from he1.symm]; exact hlen
      · rw [he2, hw]
    · refine ⟨fun hk => by simp [k] at hk, fun _ => ⟨fun hk => by simp [k] at hk, fun _ => ⟨fun hk => by simp [k] at hk, fun _ => ⟨fun _ => ?_, fun hc => ite_zero hc⟩⟩⟩⟩
      have hgA := hlg ha.1 (by omega)
      obtain ⟨q0, q1, q2, q3⟩ := first_of f m (at_ (lensOf l) e1.a) (by omega) (by omega) m0 (q := e0) (by simp only [e0, hgA])
      rw [hgA]
      clear_value e0
      have w1 : IntKind.i64.wrap (m - e0) = m - e0 := w64_id (by omega) (by omega)
      have w2 : IntKind.i64.wrap (f + e0) = f + e0 := w64_id (by omega) (by omega)
      have w3 : IntKind.i64.wrap (f + e0 - at_ (lensOf l) e1.a) = f + e0 - at_ (lensOf l) e1.a := w64_id (by omega) (by omega)
      rw [w1, w2, w3]
      have hwl := walk_length (l := l) (a := e1.a) (f := f) (m := e0) (add := d) q0
      refine ⟨⟨⟨⟨⟨⟨⟨⟨⟨⟨⟨hl, hv, rfl⟩, ⟨ha.1, by omega⟩, hd, q0, fun h => ⟨f0, q2 h⟩⟩, by omega, rfl⟩, ?_⟩, trivial⟩, trivial⟩, rfl, trivial⟩, rfl, trivial⟩, trivial⟩, trivial⟩, ⟨⟨⟨⟨⟨⟨⟨⟨⟨⟨hl, hv, rfl⟩, ⟨hb.1, by omega⟩, hd, by omega, fun h => ?_⟩, ?_, rfl⟩, ?_⟩, trivial⟩, trivial⟩, rfl, trivial⟩, rfl, trivial⟩, trivial⟩, trivial⟩, ?_⟩
      · show e1.a.toNat < a.toNat; omega
      · have := q3 (by omega); omega
      · rw [List.length_append]; omega
      · show e1.b.toNat < a.toNat; omega
      · rw [he2, hspl e0 q0 q1 q2 q3, List.append_assoc]
        rfl
    · refine ⟨fun hk => by simp [k] at hk, fun _ => ⟨fun _ => ?_, fun hk => by simp [k] at hk⟩⟩
      have w1 : IntKind.i64.wrap (f + e1.from_) = e1.from_ + f := by rw [Int.add_comm]; exact w64_id (by omega) (by omega)
      rw [w1]
      refine ⟨⟨⟨⟨⟨⟨⟨⟨⟨⟨⟨hl, hv, rfl⟩, ⟨ha.1, by omega⟩, hd, m0, fun h => by omega⟩, ho, rfl⟩, ?_⟩, trivial⟩, trivial⟩, rfl, trivial⟩, rfl, trivial⟩, trivial⟩, trivial⟩, ?_⟩
      · show e1.a.toNat < a.toNat; omega
      · rw [he2, hw]
    · refine ⟨fun hk => by simp [k] at hk, fun _ => ⟨fun hk => by simp [k] at hk, fun _ => ⟨fun _ => ?_, fun hk => by simp [k] at hk⟩⟩⟩
      have w1 : IntKind.i64.wrap (IntKind.i32.wrap (IntKind.i64.wrap (d + e1.n))) = word (w64 (d + e1.n)) := conv_word _
      rw [w1]
      refine ⟨⟨⟨⟨⟨⟨⟨⟨⟨⟨⟨hl, hv, rfl⟩, ⟨ha.1, by omega⟩, isWord_word _, m0, fun h => ⟨f0, hin⟩⟩, ho, rfl⟩, ?_⟩, trivial⟩, trivial⟩, rfl, trivial⟩, rfl, trivial⟩, trivial⟩, trivial⟩, ?_⟩
      · show e1.a.toNat < a.toNat; omega
      · rw [he2, hw])

theorem flatK_vc (a f m d : Int) (l : List Node) (L : List (Int × Int)) (out : List Int) (st : Int) (hp : walkPre l L a f m d ∧ (out.length : Int) + m ≤ 1048576 ∧ st = 0) :
    vc (EVy walkYl (some cFlatY) [(79, cFlatW ghK)]) noL Go.Proofs.Tryd.f78 cFlatK (a, f, m, d, l, L, out, st, ()) := (flatK_eq a f m d l L out st).mpr (by
  intro e0 _ _
  exact ⟨⟨⟨⟨⟨⟨⟨⟨hp.1, hp.2⟩, trivial⟩, trivial⟩, rfl, trivial⟩, rfl, trivial⟩, trivial⟩, trivial⟩, rfl⟩)

theorem itFlat_ok : ItOk itFlat := by
  intro f k kY mp h Y hY
  unfold itFlat at h
  cases hb : Nat.beq f 78 with
  | false => rw [hb] at h; cases h
  | true =>
    rw [hb] at h
    have hf := Nat.eq_of_beq_eq_true hb
    subst hf
    simp only [cond_true, List.mem_singleton, Prod.mk.injEq] at h
    obtain ⟨rfl, rfl, rfl⟩ := h
    have h79 : GivesY Y prog RG 79 (cFlatW ghW) := vc_gives_rec (E := EVy recYl (some cFlatY) []) (fitsY _ _ _) ⟨gives_of (fun x hx => by cases hx), fun _ _ _ _ _ h => (by cases h), fun _ _ _ h => (by cases h), fun k hk => by cases hk; exact hY, fun _ _ _ _ h => (by cases h)⟩ mixed Go.Proofs.Tryd.func79 (by kernel_rfl) mFlatW (fun _ => noL)
      (fun (a, f, m, d, l, L, out, st, ()) hp => flatW_vc a f m d l L out st hp) (by kernel_rfl) rfl
    have h79' : GivesY Y prog RG 79 (cFlatW ghK) := h79
    exact vc_gives (E := EVy walkYl (some cFlatY) [(79, cFlatW ghK)]) (fitsY _ _ _) ⟨gives_of (fun x hx => by rcases List.mem_cons.1 hx with h1 | h1
                                                                                                              · subst h1; exact h79'
                                                                                                              · cases h1), fun _ _ _ _ _ h => (by cases h), fun _ _ _ h => (by cases h), fun k hk => by cases hk; exact hY, fun _ _ _ _ h => (by cases h)⟩ mixed Go.Proofs.Tryd.func78 (by kernel_rfl) (fun _ => noL)
      (fun (a, f, m, d, l, L, out, st, ()) hp => flatK_vc a f m d l L out st hp) (by kernel_rfl) rfl

theorem walk_flat {l : List Node} {a : Int} (hl : l.length ≤ 4000) (hv : validOf l = true) (h0 : 0 ≤ a) (h1 : a < l.length) : walkW l a 0 (at_ (lensOf l) a) 0 = (List.range (at_ (lensOf l) a).toNat).map fun p : Nat => (wayAt l a p).2 := by
  unfold walkW
  refine List.map_congr_left (fun i hi => ?_)
  have hi := List.mem_range.1 hi
  rw [Int.zero_add]
  have hw := (way_bounds hl hv _ a i rfl h0 h1 (by omega) (by omega)).2
  have := isWord_iff.1 hw
  rw [Int.add_zero, show w64 (wayAt l a i).2 = (wayAt l a i).2 from w64_id (by omega) (by omega), word_id hw]

theorem flatP_vc (l : List Node) (a : Int) : vcD (EVx (fun _ _ => []) itFlat [(49, cOpen), (52, cPieces)]) cC lFlat Go.Proofs.Tryd.f17 cFlatR (l, a, ()) := (flatP_eq l a).mpr (by
  intro e2 e1 e0 _
  refine ⟨fun h => ?_, fun h => ?_⟩
  · have h := ne_true.1 h
    simp only [e1, flatAt, if_pos h]
  · have h := ne_false.1 h
    obtain ⟨h1, h2, h3⟩ := asked_ok h
    have ha := h3 a (by simp)
    have hbd := lens_bound h2 ha.1 ha.2
    have he0 : e0 = at_ (lensOf l) a := lg_long ha.1 ha.2
    refine ⟨⟨⟨rfl, trivial⟩, rfl, trivial⟩, ?_, ⟨⟨⟨⟨⟨⟨⟨⟨h1, h2, rfl⟩, ha, rfl, by omega, fun _ => ⟨by omega, by omega⟩⟩, by simp; omega, rfl⟩, trivial⟩, rfl, trivial⟩, rfl, trivial⟩, trivial⟩, rfl, ?_⟩⟩
    · rintro ⟨node, f, m, d, out, l', L', st, ⟨⟩⟩
      dsimp only
      rintro ⟨⟨⟨hl, hv, rfl⟩, ⟨n0, n1⟩, hd, m0, f0, f1⟩, ho, rfl⟩ _ _
      have hw : IntKind.i64.wrap (f + m) = f + m := by
        have := valid_few hv (l'.getD node.toNat node0) (by simp only [List.getD, List.getElem?_eq_getElem (show node.toNat < l'.length by omega)]; exact List.getElem_mem _)
        have f1 : f + m ≤ ((l'.getD node.toNat node0).words.length : Int) := f1
        exact w64_id (by omega) (by omega)
      have f1 : f + m ≤ ((l'.getD node.toNat node0).words.length : Int) := f1
      have hlen := valid_few hv (l'.getD node.toNat node0) (by simp only [List.getD, List.getElem?_eq_getElem (show node.toNat < l'.length by omega)]; exact List.getElem_mem _)
      rw [hw]
      have hws : ∀ ws : List Int, ws = List.drop f.toNat (List.take (f + m).toNat (l'.getD node.toNat node0).words) → ws.length ≤ 4000000 ∧ rwords l' node f m d = ws.map fun n => word (w64 (n + d)) := by
        rintro ws rfl
        refine ⟨by simp; omega, rfl⟩
      obtain ⟨g1, g2⟩ := hws _ rfl
      generalize List.drop f.toNat (List.take (f + m).toNat (l'.getD node.toNat node0).words) = ws at g1 g2
      simp only [true_and, and_true]
      refine ⟨⟨n0, n1⟩, ⟨f0, by omega, f1⟩, ⟨(0, out, ()), rfl, rfl, by simp, by simp, by simp⟩, fun (k, o, ()) => ?_⟩
      dsimp only
      rintro ⟨k0, k1, rfl⟩
      obtain ⟨k, rfl⟩ := Int.eq_ofNat_of_zero_le k0
      simp only [Int.toNat_natCast]
      refine ⟨fun hk => ?_, fun hk => ?_⟩
      · have hk : k < ws.length := by simpa using hk
        refine ⟨⟨k0, by omega⟩, ?_, ((k + 1 : Nat), _, ()), ?_, rfl, ⟨by omega, by dsimp only; omega, ?_⟩, by dsimp only; omega⟩
        · simp
          omega
        · rw [w64_id (by omega) (by omega)]; rfl
        · dsimp only
          rw [Int.toNat_natCast, take_succ_getD hk 0, List.map_append, List.append_assoc]
          congr 2
          simp only [List.map_cons, List.map_nil]
          rw [conv_word]
      · have hk : ws.length ≤ k := by simpa using hk
        rw [List.take_of_length_le hk, g2]
    · simp only [e1, flatAt, h, ne_eq, not_true, if_false, List.nil_append]
      rw [he0, walk_flat h1 h2 ha.1 ha.2])
theorem flatP_gives : Gives prog RG 17 cFlatR := givesDX (fun _ _ _ h => by cases h) itFlat_ok (allCons open_gives (allCons pieces_gives allNil)) (fun _ => lFlat) (by kernel_rfl) (by kernel_rfl) (by kernel_rfl) fun (l, a, ()) _ => flatP_vc l a
end Go.Rp
end

section
set_option linter.unusedVariables false
set_option linter.unusedSimpArgs false
set_option maxRecDepth 100000
open Go Go.VT
namespace Go.Rp

theorem step_open {S : Evn} (ho : openOk S.l S.L) {p : Piece} (hp : evnPre S.l S.L p.node p.from_ p.len p.n) (hf : (S.step p).full = false) : openOk (S.step p).l (S.step p).L ∧ ∃ e, (S.step p).l = S.l ++ e := by
  have h0 : (⟨S.l, S.L, []⟩ : Evn).Ok S.l 0 := ⟨ho, ⟨[], by simp⟩, fun a ha => by simp at ha, rfl⟩
  have := step_ok h0 (p := p) hp hf
  exact ⟨this.op, this.pre⟩

theorem run_open : ∀ {ps : List Piece} {S : Evn} {l : List Node} {L : List (Int × Int)}, openOk S.l S.L → (∃ e, S.l = l ++ e) → openOk l L → (∀ p ∈ ps, evnPre l L p.node p.from_ p.len p.n) → (Evn.run ps S).full = false → openOk (Evn.run ps S).l (Evn.run ps S).L ∧ ∃ e, (Evn.run ps S).l = l ++ e
  | [], S, l, L, h1, h2, _, _, _ => ⟨h1, h2⟩
  | p :: ps, S, l, L, h1, h2, ho, hps, hf => by
    unfold Evn.run at hf ⊢
    have hpS : evnPre S.l S.L p.node p.from_ p.len p.n := by
      obtain ⟨e, he⟩ := h2
      obtain ⟨_, ⟨n0, n1⟩, hk, hw, m0, m1, f0, f1⟩ := hps p (by simp)
      exact ⟨h1, ⟨n0, by rw [he]; simp; omega⟩, by rw [he, nat_app n0 n1]; exact hk, hw, m0, m1, f0, by rw [he, lens_app n0 n1]; exact f1⟩
    have nxt : (S.step p).full = false → openOk (S.step p).l (S.step p).L ∧ ∃ e, (S.step p).l = l ++ e := fun hs => by
      obtain ⟨q1, e2, q2⟩ := step_open h1 hpS hs
      obtain ⟨e1, he1⟩ := h2
      exact ⟨q1, e1 ++ e2, by rw [q2, he1, List.append_assoc]⟩
    by_cases hc : ((S.step p).full || (S.step p).many) = true
    · rw [if_pos hc] at hf ⊢
      exact nxt hf
    · rw [if_neg hc] at hf ⊢
      have hc : ((S.step p).full || (S.step p).many) = false := by simpa using hc
      simp only [Bool.or_eq_false_iff] at hc
      obtain ⟨q1, q2⟩ := nxt hc.1
      exact run_open q1 q2 ho (fun q hq => hps q (by simp [hq])) hf

theorem run_one (S : Evn) (p : Piece) : Evn.run [p] S = S.step p := by
  simp [Evn.run]

theorem piecesE_gives : Gives prog RG 52 cPiecesE := gives allNil (fun _ => noL) (by kernel_rfl) (by kernel_rfl) (by kernel_rfl) fun (l, L, a, f, m, d, ()) _ => (piecesE_eq l L a f m d).mpr (by
  intros
  first | rfl | trivial | exact ⟨⟨rfl, trivial⟩, rfl⟩ | simp)

theorem max_first (f m A : Int) (hm : 0 ≤ m) {q : Int} (h1 : 0 ≤ q) (h2 : q ≤ m) (h3 : 0 < q → f + q ≤ A) (h4 : q < m → A ≤ f + q) : max 0 (min m (A - f)) = q := by omega

theorem dist3 {p a b c : Prop} (h : p → a ∧ b ∧ c) : (p → a) ∧ (p → b) ∧ (p → c) := ⟨fun x => (h x).1, fun x => (h x).2.1, fun x => (h x).2.2⟩

theorem evenW_vc (a f m d : Int) (l : List Node) (L : List (Int × Int)) (out : List Int) (st : Int) (hp : walkPre l L a f m d ∧ out.length ≤ 4001 ∧ st = 0) :
    vc ((EVy recYl (some cEvenY) []).set 79 ((cEvenW ghW).below mFlatW (mFlatW (a, f, m, d, l, L, out, st, ())))) noL Go.Proofs.Tryd.f79 (cEvenW ghW) (a, f, m, d, l, L, out, st, ()) := (evenW_eq a f m d l L out st).mpr (by
  intro e5 e4 e3 e2 e1 e0 _ _
  obtain ⟨⟨⟨hl, hv, rfl⟩, ⟨a0, a1⟩, hd, m0, hfm⟩, ho, rfl⟩ := hp
  have hop : openOk l (longOf l) := ⟨hl, hv, rfl⟩
  have he1 : e1 = l.getD a.toNat node0 := rfl
  have hE : evnW (a, f, m, e2) = Evn.run (pcsAt l a f m d) ⟨l, longOf l, out⟩ := rfl
  have hEx : ∀ b g k c : Int, evnW (b, g, k, c, e3) = Evn.run (pcsAt l b g k c) ⟨l, longOf l, out⟩ := fun _ _ _ _ => rfl
  have hEy : ∀ b g k : Int, evnW (b, g, k, e2) = Evn.run (pcsAt l b g k d) ⟨l, longOf l, out⟩ := fun _ _ _ => rfl
  have hE2 : ∀ (b g k c : Int) (S : Evn) (z : Int), evnW (b, g, k, c, S.l, S.L, S.r, z, ()) = Evn.run (pcsAt S.l b g k c) S := fun _ _ _ _ _ _ => rfl
  have hmf : ∀ (b g k c : Int) (z : Dens RU.T [nodes, mapI, ints, i64]), mFlatW (b, g, k, c, z) = b.toNat := fun _ _ _ _ _ => rfl
  have hmf3 : ∀ (b g k c : Int), mFlatW (b, g, k, c, e3) = b.toNat := fun _ _ _ _ => rfl
  have hmf2 : ∀ (b g k : Int), mFlatW (b, g, k, e2) = b.toNat := fun _ _ _ => rfl
  have he5 : e5 = Evn.step ⟨l, longOf l, out⟩ ⟨a, f, m, d⟩ := rfl
  have he4 : e4 = Evn.off ⟨l, longOf l, out⟩ ⟨a, f, m, d⟩ := rfl
  have he3 : e3 = (l, longOf l, out, 0, ()) := rfl
  have hS0 : (⟨l, longOf l, out⟩ : Evn).full = false := by simp [Evn.full]; omega
  have hS1 : (⟨l, longOf l, out⟩ : Evn).many = false := by simp [Evn.many]; omega
  have hlg : 0 ≤ e1.a → e1.a < l.length → Option.getD (mget (fun (x y : Int) => x == y) (longOf l) e1.a) (0 : Int) = at_ (lensOf l) e1.a := fun h h' => lg_long h h'
  refine ⟨⟨a0, a1⟩, fun h => ?_, fun h => ?_⟩
  · have h : m = 0 := by simpa using h
    have hz : evnW (a, f, m, e2) = ⟨l, longOf l, out⟩ := by rw [hE, pcs_zero (by omega)]; rfl
    rw [hz, hS0, hS1]
    exact ⟨rfl, rfl⟩
  · have h : ¬ m = 0 := by simpa using h
    obtain ⟨f0, f1⟩ := hfm (by omega)
    have hcs := walk_cases hl hv a0 a1 (by omega) f0 f1 hd he1
    have hpc := pcs_cases hv f m d a0 a1 (by omega) he1
    have hlb := (lens_bound hv a0 a1).2
    clear_value e1
    rcases hcs with ⟨k, hlen, hw⟩ | ⟨k, ha, hb, hA, hsum, hle, hspl⟩ | ⟨k, ha, hf, hle, hin, hw⟩ | ⟨k, ha, hin, hw⟩
    · have hpcs : pcsAt l a f m d = [⟨a, f, m, d⟩] := by
        rcases hpc with ⟨_, hp⟩ | ⟨k', _⟩ | ⟨k', _⟩ | ⟨k', _⟩
        · exact hp
        · omega
        · omega
        · omega
      have hEE : evnW (a, f, m, e2) = e5 := by rw [hE, hpcs, run_one, he5]
      have hna : nat_ l a = e1 := he1.symm
      refine ⟨fun _ => ⟨⟨⟨⟨⟨hl, hv, rfl⟩, ⟨a0, a1⟩, by rw [hna]; exact k, hd, by omega, by omega, f0, f1⟩, ho, rfl⟩, trivial⟩, ?_⟩, fun hk => by simp [k] at hk⟩
      rw [hEE]
      exact ⟨fun h => ⟨h, rfl, trivial⟩, fun h => ⟨h, rfl⟩⟩
    · have hpcs := hpc.resolve_left (fun h => by have := h.1; omega) |>.resolve_right (fun h => by rcases h with h | h <;> (have := h.1; omega))
      refine ⟨fun hk => by simp [k] at hk, fun _ => ⟨fun hk => by simp [k] at hk, fun _ => ⟨fun hk => by simp [k] at hk, fun _ => ?_⟩⟩⟩
      have hgA := hlg ha.1 (by omega)
      obtain ⟨q0, q1, q2, q3⟩ := first_of f m (at_ (lensOf l) e1.a) (by omega) (by omega) m0 (q := e0) (by simp only [e0, hgA])
      clear_value e0
      rw [max_first f m _ m0 q0 q1 q2 q3] at hpcs
      have hS1p := (pcs_ok hop _ e1.a f e0 d rfl ⟨⟨hl, hv, rfl⟩, ⟨ha.1, by omega⟩, hd, q0, fun h => ⟨f0, q2 h⟩⟩).1
      have hrun : evnW (a, f, m, e2) = if (evnW (e1.a, f, e0, e2)).full || (evnW (e1.a, f, e0, e2)).many then evnW (e1.a, f, e0, e2) else Evn.run (pcsAt l e1.b (f + e0 - at_ (lensOf l) e1.a) (m - e0) d) (evnW (e1.a, f, e0, e2)) := by
        rw [hE, hpcs.2, run_app hS0 hS1, hEy]
      have hop1 : (evnW (e1.a, f, e0, e2)).full = false → openOk (evnW (e1.a, f, e0, e2)).l (evnW (e1.a, f, e0, e2)).L ∧ ∃ e, (evnW (e1.a, f, e0, e2)).l = l ++ e := fun hf => by
        rw [hEy] at hf ⊢
        exact run_open hop ⟨[], by simp⟩ hop hS1p hf
      rw [hmf2, hmf2]
      generalize evnW (e1.a, f, e0, e2) = S1 at hrun hop1
      have hch1 : ((((((((l.length ≤ 4000 ∧ validOf l = true ∧ longOf l = longOf l) ∧ (0 ≤ e1.a ∧ e1.a < (l.length : Int)) ∧ isWord d = true ∧ 0 ≤ e0 ∧ (0 < e0 → 0 ≤ f ∧ f + e0 ≤ at_ (lensOf l) e1.a)) ∧ out.length ≤ 4001 ∧ (0 : Int) = 0) ∧ e1.a.toNat < a.toNat) ∧ True) ∧ True) ∧ True) ∧ True) :=
        ⟨⟨⟨⟨⟨⟨⟨⟨hl, hv, rfl⟩, ⟨ha.1, by omega⟩, hd, q0, fun h => ⟨f0, q2 h⟩⟩, ho, rfl⟩, by omega⟩, trivial⟩, trivial⟩, trivial⟩, trivial⟩
      refine ⟨fun hmn => ⟨hch1, fun hfu => ?_, dist3 (fun hfu => ?_)⟩, fun hmn => ⟨hch1, fun hfu => ?_, fun hfu => ?_⟩⟩
      · rw [hrun, if_pos (by simp [hfu])]
        exact ⟨hfu, rfl, trivial⟩
      · have hmn : S1.many = false := by simpa using hmn
        rw [if_neg (by simp [hfu, hmn])] at hrun
        obtain ⟨o1, e, he⟩ := hop1 hfu
        have hl1 : (l.length : Int) ≤ (S1.l.length : Int) := by rw [he, List.length_append]; omega
        have hgA1 : Option.getD (mget (fun (x y : Int) => x == y) S1.L e1.a) (0 : Int) = at_ (lensOf l) e1.a := by
          have := lg_open o1 ha.1 (show e1.a < S1.l.length by omega)
          rw [he, lens_app ha.1 (by omega)] at this
          exact this
        have w1 : IntKind.i64.wrap (m - e0) = m - e0 := w64_id (by omega) (by omega)
        have w2 : IntKind.i64.wrap (f + e0) = f + e0 := w64_id (by omega) (by omega)
        have w3 : IntKind.i64.wrap (f + e0 - at_ (lensOf l) e1.a) = f + e0 - at_ (lensOf l) e1.a := w64_id (by omega) (by omega)
        rw [hgA1, w1, w2, w3, hE2, hmf]
        have hpb : pcsAt S1.l e1.b (f + e0 - at_ (lensOf l) e1.a) (m - e0) d = pcsAt l e1.b (f + e0 - at_ (lensOf l) e1.a) (m - e0) d := by
          rw [he]
          exact pcsAt_app hv _ _ _ hb.1 (by omega)
        rw [hpb, ← hrun]
        refine ⟨⟨⟨⟨⟨⟨⟨⟨o1, ⟨hb.1, by omega⟩, hd, by omega, fun h => ?_⟩, ?_, ?_⟩, by omega⟩, trivial⟩, trivial⟩, trivial⟩, trivial⟩, fun h => ⟨h, rfl, trivial⟩, fun h => ⟨h, ?_⟩⟩
        · have := q3 (by omega)
          rw [he, lens_app hb.1 (by omega)]
          omega
        · have : ¬ 4001 < S1.r.length := by simpa [Evn.many] using hmn
          omega
        · rw [hmn]; rfl
        · rw [hmn]; simp
      · rw [hrun, if_pos (by simp [hfu])]
        exact ⟨hfu, rfl, trivial⟩
      · have hmn : S1.many = true := by simpa using hmn
        rw [if_pos (by simp [hmn])] at hrun
        rw [hrun, hmn]
        exact ⟨hfu, rfl⟩
    · have hpcs : pcsAt l a f m d = pcsAt l e1.a (e1.from_ + f) m d := by
        rcases hpc with ⟨k', _⟩ | ⟨k', _⟩ | ⟨_, hp⟩ | ⟨k', _⟩
        · omega
        · omega
        · exact hp
        · omega
      refine ⟨fun hk => by simp [k] at hk, fun _ => ⟨fun _ => ?_, fun hk => by simp [k] at hk⟩⟩
      have w1 : IntKind.i64.wrap (f + e1.from_) = e1.from_ + f := by rw [Int.add_comm]; exact w64_id (by omega) (by omega)
      rw [w1, hmf2, hmf2, hE, hpcs, ← hEy]
      exact ⟨⟨⟨⟨⟨⟨⟨⟨⟨hl, hv, rfl⟩, ⟨ha.1, by omega⟩, hd, m0, fun h => by omega⟩, ho, rfl⟩, by omega⟩, trivial⟩, trivial⟩, trivial⟩, trivial⟩, fun h => ⟨h, rfl, trivial⟩, fun h => ⟨h, rfl⟩⟩
    · have hpcs : pcsAt l a f m d = pcsAt l e1.a f m (word (w64 (d + e1.n))) := by
        rcases hpc with ⟨k', _⟩ | ⟨k', _⟩ | ⟨k', _⟩ | ⟨_, hp⟩
        · omega
        · omega
        · omega
        · exact hp
      refine ⟨fun hk => by simp [k] at hk, fun _ => ⟨fun hk => by simp [k] at hk, fun _ => ⟨fun _ => ?_, fun hk => by simp [k] at hk⟩⟩⟩
      have w1 : IntKind.i64.wrap (IntKind.i32.wrap (IntKind.i64.wrap (d + e1.n))) = word (w64 (d + e1.n)) := conv_word _
      rw [w1, hmf2, hmf3, hE, hpcs, ← hEx]
      exact ⟨⟨⟨⟨⟨⟨⟨⟨⟨hl, hv, rfl⟩, ⟨ha.1, by omega⟩, isWord_word _, m0, fun h => ⟨f0, hin⟩⟩, ho, rfl⟩, by omega⟩, trivial⟩, trivial⟩, trivial⟩, trivial⟩, fun h => ⟨h, rfl, trivial⟩, fun h => ⟨h, rfl⟩⟩)

theorem evenK_vc (a f m d : Int) (l : List Node) (L : List (Int × Int)) (out : List Int) (st : Int) (hp : walkPre l L a f m d ∧ out.length ≤ 4001 ∧ st = 0) :
    vc (EVy walkYl (some cEvenY) [(79, cEvenW ghK)]) noL Go.Proofs.Tryd.f78 cEvenK (a, f, m, d, l, L, out, st, ()) := (evenK_eq a f m d l L out st).mpr (by
  intro e0 _ _
  exact ⟨⟨⟨⟨⟨⟨hp.1, hp.2⟩, trivial⟩, trivial⟩, trivial⟩, trivial⟩, fun h => ⟨h, rfl, trivial⟩, fun h => ⟨h, rfl⟩⟩)

theorem itEven_ok : ItOk itEven := by
  intro f k kY mp h Y hY
  unfold itEven at h
  cases hb : Nat.beq f 78 with
  | false => rw [hb] at h; cases h
  | true =>
    rw [hb] at h
    have hf := Nat.eq_of_beq_eq_true hb
    subst hf
    simp only [cond_true, List.mem_singleton, Prod.mk.injEq] at h
    obtain ⟨rfl, rfl, rfl⟩ := h
    have h79 : GivesY Y prog RG 79 (cEvenW ghW) := vc_gives_rec (E := EVy recYl (some cEvenY) []) (fitsY _ _ _) ⟨gives_of (fun x hx => by cases hx), fun _ _ _ _ _ h => (by cases h), fun _ _ _ h => (by cases h), fun k hk => by cases hk; exact hY, fun _ _ _ _ h => (by cases h)⟩ mixed Go.Proofs.Tryd.func79 (by kernel_rfl) mFlatW (fun _ => noL)
      (fun (a, f, m, d, l, L, out, st, ()) hp => evenW_vc a f m d l L out st hp) (by kernel_rfl) rfl
    have h79' : GivesY Y prog RG 79 (cEvenW ghK) := h79
    exact vc_gives (E := EVy walkYl (some cEvenY) [(79, cEvenW ghK)]) (fitsY _ _ _) ⟨gives_of (fun x hx => by
      rcases List.mem_cons.1 hx with h1 | h1
      · subst h1; exact h79'
      · cases h1), fun _ _ _ _ _ h => (by cases h), fun _ _ _ h => (by cases h), fun k hk => by cases hk; exact hY, fun _ _ _ _ h => (by cases h)⟩ mixed Go.Proofs.Tryd.func78 (by kernel_rfl) (fun _ => noL)
      (fun (a, f, m, d, l, L, out, st, ()) hp => evenK_vc a f m d l L out st hp) (by kernel_rfl) rfl
end Go.Rp
end

section
set_option linter.unusedVariables false
set_option linter.unusedSimpArgs false
set_option maxRecDepth 100000
open Go Go.VT
namespace Go.Rp

theorem join_fuel : ∀ (k k' : Nat) (l : List Node) (L : List (Int × Int)) (r : List Int), 1 ≤ r.length → r.length ≤ k → r.length ≤ k' → joinOf k l L r = joinOf k' l L r
  | 0, _, _, _, _, h, h1, _ => by omega
  | _, 0, _, _, _, h, _, h2 => by omega
  | k + 1, k' + 1, l, L, r, h, h1, h2 => by
    unfold joinOf
    split
    · rfl
    · rename_i hne
      have e1 : joinOf k l L (r.take (r.length / 2)) = joinOf k' l L (r.take (r.length / 2)) := join_fuel k k' _ _ _ (by simp; omega) (by simp; omega) (by simp; omega)
      rw [e1]
      generalize joinOf k' l L (r.take (r.length / 2)) = J
      obtain ⟨l1, L1, a⟩ := J
      dsimp only
      rw [join_fuel k k' l1 L1 (r.drop (r.length / 2)) (by simp; omega) (by simp; omega) (by simp; omega)]

theorem join_one {l : List Node} {L : List (Int × Int)} {r : List Int} (h : r.length = 1) : joinAt l L r = (l, L, at_ r 0) := by
  unfold joinAt
  rw [h]
  unfold joinOf
  rw [if_pos h]

theorem join_two {l : List Node} {L : List (Int × Int)} {r : List Int} (h : 2 ≤ r.length) {k : Nat} (hk : k = r.length / 2) : joinAt l L r =
    ((joinAt (joinAt l L (r.take k)).1 (joinAt l L (r.take k)).2.1 (r.drop k)).1 ++ [⟨1, (joinAt l L (r.take k)).2.2, (joinAt (joinAt l L (r.take k)).1 (joinAt l L (r.take k)).2.1 (r.drop k)).2.2, 0, 0, 0, []⟩],
      putL (joinAt (joinAt l L (r.take k)).1 (joinAt l L (r.take k)).2.1 (r.drop k)).1 (joinAt (joinAt l L (r.take k)).1 (joinAt l L (r.take k)).2.1 (r.drop k)).2.1
        (w64 (lg (joinAt (joinAt l L (r.take k)).1 (joinAt l L (r.take k)).2.1 (r.drop k)).2.1 (joinAt l L (r.take k)).2.2 + lg (joinAt (joinAt l L (r.take k)).1 (joinAt l L (r.take k)).2.1 (r.drop k)).2.1 (joinAt (joinAt l L (r.take k)).1 (joinAt l L (r.take k)).2.1 (r.drop k)).2.2)),
      ((joinAt (joinAt l L (r.take k)).1 (joinAt l L (r.take k)).2.1 (r.drop k)).1.length : Int)) := by
  obtain ⟨n, hn⟩ : ∃ n, r.length = n + 1 := ⟨r.length - 1, by omega⟩
  have e0 : joinAt l L r = joinOf (n + 1) l L r := by unfold joinAt; rw [hn]
  have e1 : joinOf n l L (r.take k) = joinAt l L (r.take k) := join_fuel _ _ _ _ _ (by simp only [List.length_take, List.length_drop]; omega) (by simp only [List.length_take, List.length_drop]; omega) (by simp only [List.length_take, List.length_drop]; omega)
  rw [e0]
  unfold joinOf
  rw [if_neg (by omega), ← hk, e1]
  generalize joinAt l L (r.take k) = J
  obtain ⟨l1, L1, a⟩ := J
  dsimp only
  have e2 : joinOf n l1 L1 (r.drop k) = joinAt l1 L1 (r.drop k) := join_fuel _ _ _ _ _ (by simp only [List.length_take, List.length_drop]; omega) (by simp only [List.length_take, List.length_drop]; omega) (by simp only [List.length_take, List.length_drop]; omega)
  rw [e2]

theorem sumL_nonneg {l : List Node} {L : List (Int × Int)} (ho : openOk l L) {r : List Int} (h : ∀ a ∈ r, 0 ≤ a ∧ a < l.length) : 0 ≤ sumL L r := by
  induction r with
  | nil => simp [sumL]
  | cons a r ih =>
    have h1 := h a (by simp)
    have h2 := ih (fun b hb => h b (by simp [hb]))
    have h3 := lg_open ho h1.1 h1.2
    have h4 := lens_bound ho.2.1 h1.1 h1.2
    simp only [sumL, List.map_cons, List.sum_cons] at h2 ⊢
    omega

theorem cat_ok {l : List Node} {L : List (Int × Int)} (ho : openOk l L) {a b : Int} (ha : 0 ≤ a ∧ a < l.length) (hb : 0 ≤ b ∧ b < l.length) (hs : lg L a + lg L b ≤ 1048576) (hl : l.length < 4000) :
    openOk (l ++ [⟨1, a, b, 0, 0, 0, []⟩]) (putL l L (w64 (lg L a + lg L b))) ∧ lg (putL l L (w64 (lg L a + lg L b))) l.length = lg L a + lg L b := by
  have h1 := lg_open ho ha.1 ha.2
  have h2 := lg_open ho hb.1 hb.2
  have h3 := lens_bound ho.2.1 ha.1 ha.2
  have h4 := lens_bound ho.2.1 hb.1 hb.2
  have hw : w64 (lg L a + lg L b) = lg L a + lg L b := w64_id (by omega) (by omega)
  rw [hw]
  have hlen : lenOf (lensOf l) ⟨1, a, b, 0, 0, 0, []⟩ = lg L a + lg L b := by
    simp only [lenOf]
    rw [if_neg (by decide), if_pos trivial, ← h1, ← h2, hw]
    omega
  have hn := open_snoc ho (x := ⟨1, a, b, 0, 0, 0, []⟩) hl (by simp [fieldsOf, lies]; omega) hlen hs (fun h => by cases h)
  refine ⟨hn, ?_⟩
  rw [lg_open hn (by omega) (by simp; omega), lens_new hlen]

theorem lg_pre {l l' : List Node} {L L' : List (Int × Int)} (ho : openOk l L) (ho' : openOk l' L') (hp : ∃ e, l' = l ++ e) {a : Int} (h0 : 0 ≤ a) (h1 : a < l.length) : lg L' a = lg L a := put_lg (c := true) (rope := 0) (x := node0) (long := 0) ho ho' hp h0 h1

theorem join_ok : ∀ (n : Nat) (l : List Node) (L : List (Int × Int)) (r : List Int), r.length = n → joinPre l L r → joinBad l r = false →
    openOk (joinAt l L r).1 (joinAt l L r).2.1 ∧ (∃ e, (joinAt l L r).1 = l ++ e) ∧ (joinAt l L r).1.length + 1 = l.length + r.length ∧ (0 ≤ (joinAt l L r).2.2 ∧ (joinAt l L r).2.2 < (joinAt l L r).1.length) ∧ lg (joinAt l L r).2.1 (joinAt l L r).2.2 = sumL L r := by
  intro n
  induction n using Nat.strongRecOn with
  | ind n ih =>
    intro l L r hn ⟨ho, h1, h2, hin, hs⟩ hb
    have hb : l.length + r.length ≤ 4001 := by
      simp only [joinBad, decide_eq_false_iff_not] at hb
      omega
    by_cases hr : r.length = 1
    · rw [join_one hr]
      match r, hr with
      | [a], _ =>
        have := hin a (by simp)
        exact ⟨ho, ⟨[], by simp⟩, by simp, this, by simp [sumL, at_]⟩
    · have hk : ∃ k, k = r.length / 2 := ⟨_, rfl⟩
      obtain ⟨k, hk⟩ := hk
      rw [join_two (by omega) hk]
      have hsum : sumL L (r.take k) + sumL L (r.drop k) = sumL L r := by rw [← sumL_app, List.take_append_drop]
      have hint : ∀ a ∈ r.take k, 0 ≤ a ∧ a < (l.length : Int) := fun a ha => hin a (List.mem_of_mem_take ha)
      have hind : ∀ a ∈ r.drop k, 0 ≤ a ∧ a < (l.length : Int) := fun a ha => hin a (List.mem_of_mem_drop ha)
      have hs1 := sumL_nonneg ho hint
      have hs2 := sumL_nonneg ho hind
      obtain ⟨a1, a2, a3, a4, a5⟩ := ih (r.take k).length (by simp; omega) l L (r.take k) rfl ⟨ho, by simp; omega, by simp; omega, hint, by omega⟩ (by simp [joinBad]; omega)
      generalize joinAt l L (r.take k) = A at a1 a2 a3 a4 a5 ⊢
      have hla : (r.take k).length = k := by simp; omega
      have hlb : (r.drop k).length = r.length - k := by simp
      have hcong : sumL A.2.1 (r.drop k) = sumL L (r.drop k) := sumL_congr (fun a ha => lg_pre ho a1 a2 (hind a ha).1 (hind a ha).2)
      have hlen : l.length ≤ A.1.length := by omega
      obtain ⟨b1, b2, b3, b4, b5⟩ := ih (r.drop k).length (by simp; omega) A.1 A.2.1 (r.drop k) rfl ⟨a1, by omega, by omega, fun a ha => by have := hind a ha; omega, by omega⟩ (by simp [joinBad]; omega)
      generalize joinAt A.1 A.2.1 (r.drop k) = B at b1 b2 b3 b4 b5 ⊢
      have hga : lg B.2.1 A.2.2 = sumL L (r.take k) := by rw [lg_pre a1 b1 b2 a4.1 a4.2, a5]
      have hgb : lg B.2.1 B.2.2 = sumL L (r.drop k) := by rw [b5, hcong]
      have hAB : A.1.length ≤ B.1.length := by omega
      obtain ⟨c1, c2⟩ := cat_ok b1 (a := A.2.2) (b := B.2.2) ⟨a4.1, by omega⟩ b4 (by rw [hga, hgb]; omega) (by omega)
      refine ⟨c1, ?_, by simp; omega, ⟨by dsimp only; omega, by simp; omega⟩, by rw [c2, hga, hgb, hsum]⟩
      obtain ⟨e1, he1⟩ := a2
      obtain ⟨e2, he2⟩ := b2
      exact ⟨e1 ++ e2 ++ [⟨1, A.2.2, B.2.2, 0, 0, 0, []⟩], by rw [he2, he1]; simp⟩

theorem join_vc (r : List Int) (l : List Node) (L : List (Int × Int)) (hp : joinPre l L r) : vc ((EV [(60, cPut)]).set 61 (cJoin.below mJoin (mJoin (r, l, L, ())))) noL Go.Proofs.Tryd.f61 cJoin (r, l, L, ()) := (join_eq r l L).mpr (by
  intro e4 e3 e2 e1 e0 _ _
  have ⟨ho, h1, h2, hin, hs⟩ := hp
  have he4 : e4 = (joinAt l L r).2 := rfl
  have he3 : e3 = r.length := rfl
  have he2 : e2 = ((joinAt l L r).2.2, (joinAt l L r).1, (joinAt l L r).2.1, ()) := rfl
  have he1 : e1 = ((r.length / 2 : Nat) : Int) := by
    show IntKind.i64.wrap (Int.tdiv (r.length : Int) 2) = _
    rw [Int.tdiv_eq_ediv_of_nonneg (by omega), w64_id (by omega) (by omega)]
    omega
  have he0 : e0 = r.length / 2 := by show e1.toNat = _; rw [he1]; omega
  have hmj : ∀ (q : List Int) (z : Dens RU.T [nodes, mapI]), mJoin (q, z) = q.length := fun _ _ => rfl
  refine ⟨fun h => ?_, fun h => ?_⟩
  · have h : r.length = 1 := by have : (r.length : Int) = 1 := by simpa using h
                                omega
    refine ⟨⟨Int.le_refl _, by omega⟩, by have := ho.1; simp [joinBad]; omega, ?_⟩
    rw [he2, join_one h]
    rfl
  · have h : ¬ r.length = 1 := by
      have : ¬ (r.length : Int) = 1 := by simpa using h
      omega
    clear_value e0 e1 e3
    subst he1
    dsimp only
    have hla : (r.take e0).length = e0 := by rw [List.length_take]; omega
    have hlb : (r.drop e0).length = r.length - e0 := List.length_drop
    have hsum : sumL L (r.take e0) + sumL L (r.drop e0) = sumL L r := by rw [← sumL_app, List.take_append_drop]
    have hint : ∀ a ∈ r.take e0, 0 ≤ a ∧ a < (l.length : Int) := fun a ha => hin a (List.mem_of_mem_take ha)
    have hind : ∀ a ∈ r.drop e0, 0 ≤ a ∧ a < (l.length : Int) := fun a ha => hin a (List.mem_of_mem_drop ha)
    have hs1 := sumL_nonneg ho hint
    have hs2 := sumL_nonneg ho hind
    have hpA : joinPre l L (r.take e0) := ⟨ho, by omega, by omega, hint, by omega⟩
    have hjb : ∀ (l : List Node) (r : List Int), joinBad l r = true ↔ 4001 < l.length + r.length := fun l r => by simp [joinBad]
    have hjf : ∀ (l : List Node) (r : List Int), joinBad l r = false ↔ l.length + r.length ≤ 4001 := fun l r => by simp [joinBad]
    have hA := join_ok _ l L (r.take e0) rfl hpA
    have h2j := join_two (l := l) (L := L) (r := r) (by omega) he0
    have he2' : e2 = _ := he2.trans (by rw [h2j])
    generalize joinAt l L (r.take e0) = A at hA he2' ⊢
    have nxt : joinBad l (r.take e0) = false → joinPre A.1 A.2.1 (r.drop e0) ∧ l.length ≤ A.1.length ∧ A.1.length + 1 = l.length + e0 := fun hb => by
      obtain ⟨a1, a2, a3, a4, a5⟩ := hA hb
      have hcong : sumL A.2.1 (r.drop e0) = sumL L (r.drop e0) := sumL_congr (fun a ha => lg_pre ho a1 a2 (hind a ha).1 (hind a ha).2)
      refine ⟨⟨a1, by omega, by omega, fun a ha => by have := hind a ha; omega, by omega⟩, by omega, by omega⟩
    have hB := fun hb => join_ok _ A.1 A.2.1 (r.drop e0) rfl (nxt hb).1
    have hJ := join_ok _ l L r rfl hp
    rw [h2j] at hJ
    generalize joinAt A.1 A.2.1 (r.drop e0) = B at hB he2' ⊢
    refine ⟨by decide, ⟨by omega, by omega⟩, ⟨⟨⟨⟨hpA.1, hpA.2.1, hpA.2.2.1, hint, hpA.2.2.2.2⟩, ?_⟩, trivial⟩, trivial⟩, fun hb => ⟨?_, rfl, trivial⟩, by decide, ⟨by omega, by omega⟩, dist3 (fun hb => ?_)⟩
    · show (r.take e0).length < e3; omega
    · rw [hjb] at hb ⊢; omega
    · obtain ⟨n1, n2, n3⟩ := nxt hb
      obtain ⟨a1, a2, a3, a4, a5⟩ := hA hb
      refine ⟨⟨⟨⟨⟨n1.1, n1.2.1, n1.2.2.1, n1.2.2.2.1, n1.2.2.2.2⟩, ?_⟩, trivial⟩, trivial⟩, fun hb2 => ⟨?_, rfl, trivial⟩, fun hb2 => ?_⟩
      · show (r.drop e0).length < e3; omega
      · rw [hjb] at hb2 ⊢; omega
      · obtain ⟨b1, b2, b3, b4, b5⟩ := hB hb hb2
        have hAB : A.1.length ≤ B.1.length := by omega
        have hga : lg B.2.1 A.2.2 = sumL L (r.take e0) := by rw [lg_pre a1 b1 b2 a4.1 a4.2, a5]
        have hgb : lg B.2.1 B.2.2 = sumL L (r.drop e0) := by
          rw [b5]
          exact sumL_congr (fun a ha => lg_pre ho a1 a2 (hind a ha).1 (hind a ha).2)
        have hw : IntKind.i64.wrap (Option.getD (mget (fun (x y : Int) => x == y) B.2.1 A.2.2) 0 + Option.getD (mget (fun (x y : Int) => x == y) B.2.1 B.2.2) 0) = w64 (lg B.2.1 A.2.2 + lg B.2.1 B.2.2) := rfl
        have hww : w64 (lg B.2.1 A.2.2 + lg B.2.1 B.2.2) ≤ 1048576 := by
          rw [hga, hgb, show w64 (sumL L (r.take e0) + sumL L (r.drop e0)) = sumL L (r.take e0) + sumL L (r.drop e0) from w64_id (by omega) (by omega)]
          omega
        have hpb : putBad B.1 (w64 (lg B.2.1 A.2.2 + lg B.2.1 B.2.2)) = decide (4000 ≤ B.1.length) := by
          rw [Bool.eq_iff_iff]
          simp only [putBad, Bool.not_eq_true', Bool.and_eq_false_iff, decide_eq_false_iff_not, decide_eq_true_eq]
          omega
        rw [hw, hpb]
        refine ⟨fun h => ⟨?_, rfl, trivial⟩, fun h => ⟨?_, ?_⟩⟩
        · have h : 4000 ≤ B.1.length := by simpa using h
          rw [hjb]; omega
        · have h : ¬ 4000 ≤ B.1.length := by simpa using h
          rw [hjf]; omega
        · rw [he2'])
theorem join_gives : Gives prog RG 61 cJoin := givesRec (allCons put_gives allNil) mJoin (fun _ => noL) (by kernel_rfl) (by kernel_rfl) (by kernel_rfl) fun (r, l, L, ()) hp => join_vc r l L hp
end Go.Rp
end

section
set_option linter.unusedVariables false
set_option linter.unusedSimpArgs false
set_option maxRecDepth 100000
open Go Go.VT
namespace Go.Rp

def dep (l : List Node) (a : Int) : Int := at_ (depthsOf l) a

theorem dep_app {l e : List Node} {a : Int} (h0 : 0 ≤ a) (h1 : a < l.length) : dep (l ++ e) a = dep l a := by
  have h := depths_take (l ++ e) l.length (by simp)
  rw [List.take_left] at h
  unfold dep
  rw [h, at_take h0 h1]
theorem dep_new (l : List Node) (x : Node) : dep (l ++ [x]) l.length = depthOf (depthsOf l) x := by
  unfold dep
  rw [depths_grow, grow_snoc, at_nat]
  have := grow_length depthOf l
  rw [← this, get_new, depths_grow]
theorem dep_bound {l : List Node} (hl : l.length ≤ 4000) (hv : validOf l = true) {a : Int} (h0 : 0 ≤ a) (h1 : a < l.length) : 1 ≤ dep l a ∧ dep l a ≤ 4000 := by
  have := depth_bound hl hv a.toNat (by omega)
  unfold dep at_
  omega

structure Leaf (l : List Node) (v : Int) (m : Int) (w : List Int) (d : Int) (ps : Int → List Piece) : Prop where
  i0 : 0 ≤ v
  i1 : v < l.length
  n : at_ (lensOf l) v = m
  t : txt l v = w
  dp : dep l v = d
  p : ∀ c, pcsAt l v 0 m c = ps c

theorem Leaf.cast {l : List Node} {v m : Int} {w w' : List Int} {d d' : Int} {ps : Int → List Piece} (h : Leaf l v m w d ps) (hw : w = w') (hd : d = d') : Leaf l v m w' d' ps := by
  subst hw; subst hd; exact h

theorem new_in (l : List Node) (x : Node) : (0 : Int) ≤ l.length ∧ ((l.length : Nat) : Int) < ((l ++ [x]).length : Nat) ∧ x = (l ++ [x]).getD (l.length : Int).toNat node0 := by
  refine ⟨by omega, by rw [List.length_append, List.length_singleton]; omega, by rw [Int.toNat_natCast, get_new]⟩

theorem leaf_words {l : List Node} (hv : validOf l = true) {v m : Int} (h0 : 0 ≤ v) (h1 : v < l.length) (hk : (nat_ l v).kind = 0) (hm : at_ (lensOf l) v = m) (hp : 0 < m) :
    Leaf l v m (nat_ l v).words 1 (fun c => [⟨v, 0, m, c⟩]) := by
  have hd : dep l v = 1 := by
    unfold dep
    have hi : v.toNat < l.length := by omega
    have h2 := depths_take l (v.toNat + 1) (by omega)
    rw [take_succ_getD hi node0] at h2
    have h3 := dep_new (l.take v.toNat) (l.getD v.toNat node0)
    unfold dep at h3
    rw [h2, List.length_take, Nat.min_eq_left (by omega), show ((v.toNat : Nat) : Int) = v by omega, at_take h0 (by omega)] at h3
    rw [h3]
    unfold depthOf
    exact if_pos hk
  refine ⟨h0, h1, hm, ?_, hd, fun c => ?_⟩
  · rcases txt_cases hv h0 h1 rfl with ⟨_, t⟩ | ⟨k, _⟩ | ⟨k, _⟩ | ⟨k, _⟩
    · exact t
    all_goals (have : (nat_ l v).kind = _ := k; omega)
  · rcases pcs_cases hv 0 m c h0 h1 hp rfl with ⟨_, t⟩ | ⟨k, _⟩ | ⟨k, _⟩ | ⟨k, _⟩
    · exact t
    all_goals (have : (nat_ l v).kind = _ := k; omega)

theorem leaf_part {l : List Node} (hl : l.length < 4000) (hv : validOf l = true) {v f m : Int} (hv' : validOf (l ++ [⟨2, v, 0, f, m, 0, []⟩]) = true) (h0 : 0 ≤ v) (h1 : v < l.length) (hk : (nat_ l v).kind = 0) (hp : 0 < m) :
    Leaf (l ++ [⟨2, v, 0, f, m, 0, []⟩]) l.length m (((nat_ l v).words.drop f.toNat).take m.toNat) 2 (fun c => [⟨v, f, m, c⟩]) := by
  obtain ⟨n0, n1, nx⟩ := new_in l ⟨2, v, 0, f, m, 0, []⟩
  have hA : 0 < at_ (lensOf l) v := by
    have := (valid_lens hv' l.length (by simp)).2.2.2.1
    rw [get_new] at this
    have := this rfl
    dsimp only at this
    rw [lens_app h0 h1] at this
    omega
  have hw := leaf_words hv h0 h1 hk rfl hA
  have hm : at_ (lensOf (l ++ [⟨2, v, 0, f, m, 0, []⟩])) l.length = m := by
    have := (valid_lens hv' l.length (by simp)).2.2.2.1
    rw [get_new] at this
    exact (this rfl).1
  refine ⟨n0, n1, hm, ?_, ?_, fun c => ?_⟩
  · rcases txt_new hv hv' with ⟨k, t⟩ | ⟨k, _⟩ | ⟨_, t⟩ | ⟨k, _⟩
    · cases k
    · cases k
    · rw [t, hw.t]
    · cases k
  · have := hw.dp
    unfold dep at this
    rw [dep_new]
    simp only [depthOf]
    rw [if_neg (by decide), if_neg (by decide), this]
    rfl
  · rcases pcs_cases hv' 0 m c n0 n1 hp nx with ⟨k, _⟩ | ⟨k, _⟩ | ⟨_, t⟩ | ⟨k, _⟩
    · cases k
    · cases k
    · rw [t, pcsAt_app hv _ _ _ h0 h1]
      dsimp only
      rcases pcs_cases hv (f + 0) m c h0 h1 hp rfl with ⟨_, t⟩ | ⟨k, _⟩ | ⟨k, _⟩ | ⟨k, _⟩
      · rw [t, Int.add_zero]
      all_goals (have : (nat_ l v).kind = _ := k; omega)
    · cases k

theorem leaf_off {l : List Node} (hl : l.length < 4000) (hv : validOf l = true) {v n : Int} (hv' : validOf (l ++ [⟨3, v, 0, 0, 0, n, []⟩]) = true) {m : Int} {w : List Int} {d : Int} {ps : Int → List Piece} (h : Leaf l v m w d ps) (hp : 0 < m) :
    Leaf (l ++ [⟨3, v, 0, 0, 0, n, []⟩]) l.length m (w.map fun x => word (w64 (x + n))) (d + 1) (fun c => ps (word (w64 (c + n)))) := by
  obtain ⟨n0, n1, nx⟩ := new_in l ⟨3, v, 0, 0, 0, n, []⟩
  have hm : at_ (lensOf (l ++ [⟨3, v, 0, 0, 0, n, []⟩])) l.length = m := by
    have := (valid_lens hv' l.length (by simp)).2.2.2.2.1
    rw [get_new] at this
    rw [this rfl]
    dsimp only
    rw [lens_app h.i0 h.i1, h.n]
  refine ⟨n0, n1, hm, ?_, ?_, fun c => ?_⟩
  · rcases txt_new hv hv' with ⟨k, t⟩ | ⟨k, _⟩ | ⟨k, _⟩ | ⟨_, t⟩
    · cases k
    · cases k
    · cases k
    · rw [t, h.t]
  · have h1 := h.dp
    have h2 := dep_bound (by omega) hv h.i0 h.i1
    rw [dep_new]
    simp only [depthOf]
    unfold dep at h1 h2
    rw [if_neg (by decide), if_neg (by decide), show w64 _ = _ from w64_id (by omega) (by omega), h1]
  · rcases pcs_cases hv' 0 m c n0 n1 hp nx with ⟨k, _⟩ | ⟨k, _⟩ | ⟨k, _⟩ | ⟨_, t⟩
    · cases k
    · cases k
    · cases k
    · rw [t, pcsAt_app hv _ _ _ h.i0 h.i1]
      exact h.p _

def dP (l : List Node) (p : Piece) : Int := (if p.len < at_ (lensOf l) p.node then 2 else 1) + (if p.n ≠ 0 then 1 else 0)

theorem drop_take_words (w : List Int) (f m : Int) (h0 : 0 ≤ f) (h1 : 0 ≤ m) : (w.take (f + m).toNat).drop f.toNat = (w.drop f.toNat).take m.toNat := by
  rw [List.drop_take]
  congr 1
  omega

theorem id_words {w : List Int} (h : w.all isWord = true) : (w.map fun x => word (w64 (x + 0))) = w := by
  have hh := List.all_eq_true.1 h
  have : (w.map fun x => word (w64 (x + 0))) = w.map id := List.map_congr_left fun x hx => by
    have := hh x hx
    have h2 := isWord_iff.1 this
    rw [Int.add_zero, show w64 x = x from w64_id (by omega) (by omega), word_id this]; rfl
  rw [this, List.map_id]

theorem leaf_step {S : Evn} {p : Piece} (hp : evnPre S.l S.L p.node p.from_ p.len p.n) (hf : (S.step p).full = false) :
    ∃ ps, Leaf (S.step p).l (S.off p).2.2 p.len (rwords S.l p.node p.from_ p.len p.n) (dP S.l p) ps ∧ ps 0 = [p] := by
  obtain ⟨ho2, ⟨e0, he0⟩⟩ := step_open (hp.1) hp hf
  obtain ⟨ho, ⟨n0, n1⟩, hk, hw, m0, m1, f0, f1⟩ := hp
  have hf : ¬ 4000 < (S.step p).l.length := by
    have : decide (4000 < (S.step p).l.length) = false := hf
    simpa using this
  have hv2 : validOf (S.step p).l = true := ho2.2.1
  have hlg := lg_open ho n0 n1
  have hbd := lens_bound ho.2.1 n0 n1
  have hwd : (nat_ S.l p.node).words.all isWord = true := by
    have h1 := txt_word ho.1 ho.2.1 n0 n1
    have h2 := leaf_words ho.2.1 n0 n1 hk rfl (by omega)
    rw [h2.t] at h1
    exact h1
  have hwl : (nat_ S.l p.node).words.length = at_ (lensOf S.l) p.node := by
    have h2 := (leaf_words ho.2.1 n0 n1 hk rfl (by omega)).t
    rw [← h2, txt_len ho.2.1 n0 n1]
  have hww : word (w64 (0 + p.n)) = p.n := by
    have := isWord_iff.1 hw
    rw [Int.zero_add, show w64 p.n = p.n from w64_id (by omega) (by omega), word_id hw]
  have hstep : (S.step p).l = (S.off p).1 := rfl
  rw [hstep] at hv2 hf ⊢
  unfold rwords
  rw [drop_take_words _ _ _ f0 (by omega)]
  have wd : ((((nat_ S.l p.node).words.drop p.from_.toNat).take p.len.toNat)).all isWord = true := by
    rw [List.all_eq_true] at hwd ⊢
    exact fun x hx => hwd x (List.mem_of_mem_drop (List.mem_of_mem_take hx))
  by_cases hc : p.len < lg S.L p.node
  · have hpt : S.part p = (S.l ++ [⟨2, p.node, 0, p.from_, p.len, 0, []⟩], putL S.l S.L p.len, (S.l.length : Int)) := by simp [Evn.part, putIf, hc]
    have hd : (if p.len < at_ (lensOf S.l) p.node then (2 : Int) else 1) = 2 := if_pos (by omega)
    have hv1 : openOk (S.l ++ [⟨2, p.node, 0, p.from_, p.len, 0, []⟩]) (putL S.l S.L p.len) := by
      have hlen : S.l.length < 4000 := by
        have := put_len (p.n != 0) (S.part p).1 (S.part p).2.1 (S.part p).2.2 ⟨3, (S.part p).2.2, 0, 0, 0, p.n, []⟩ p.len
        have h2 : (S.part p).1.length ≤ (S.off p).1.length := this
        rw [hpt] at h2
        simp only [List.length_append, List.length_singleton] at h2
        omega
      refine open_snoc ho hlen ?_ ?_ m1 (fun _ => ?_)
      · simp [fieldsOf, lies]; omega
      · simp [lenOf]; omega
      · unfold isPartOf
        rw [Bool.and_eq_true, lies_iff, lies_iff]
        dsimp only
        rw [show w64 (at_ (lensOf S.l) p.node - p.from_) = at_ (lensOf S.l) p.node - p.from_ from w64_id (by omega) (by omega)]
        omega
    have hl1 : S.l.length < 4000 := by have := hv1.1; simp at this; omega
    have hlf := leaf_part hl1 ho.2.1 hv1.2.1 n0 n1 hk m0
    by_cases hn : p.n = 0
    · have hof : S.off p = S.part p := by simp [Evn.off, putIf, hn]
      rw [hof, hpt]
      exact ⟨fun c => [⟨p.node, p.from_, p.len, c⟩], hlf.cast (by rw [hn, id_words wd]) (by unfold dP; rw [hd, hn]; rfl), by show [(⟨p.node, p.from_, p.len, 0⟩ : Piece)] = [p]; rw [← hn]⟩
    · have hof : S.off p = (S.l ++ [⟨2, p.node, 0, p.from_, p.len, 0, []⟩] ++ [⟨3, (S.l.length : Int), 0, 0, 0, p.n, []⟩], putL (S.l ++ [⟨2, p.node, 0, p.from_, p.len, 0, []⟩]) (putL S.l S.L p.len) p.len, ((S.l ++ [(⟨2, p.node, 0, p.from_, p.len, 0, []⟩ : Node)]).length : Int)) := by
        simp only [Evn.off, hpt]
        simp [putIf, hn]
      rw [hof] at hv2 hf ⊢
      have hl2 : (S.l ++ [(⟨2, p.node, 0, p.from_, p.len, 0, []⟩ : Node)]).length < 4000 := by
        dsimp only at hf
        simp only [List.length_append, List.length_singleton] at hf ⊢
        omega
      exact ⟨fun c => [⟨p.node, p.from_, p.len, word (w64 (c + p.n))⟩], (leaf_off hl2 hv1.2.1 hv2 hlf m0).cast (d' := dP S.l p) rfl (by unfold dP; rw [hd, if_pos hn]), by show [(⟨p.node, p.from_, p.len, word (w64 (0 + p.n))⟩ : Piece)] = [p]; rw [hww]⟩
  · have hpt : S.part p = (S.l, S.L, p.node) := by simp [Evn.part, putIf, hc]
    have hd : (if p.len < at_ (lensOf S.l) p.node then (2 : Int) else 1) = 1 := if_neg (by omega)
    have hff : p.from_ = 0 := by omega
    have hlf := leaf_words (m := p.len) ho.2.1 n0 n1 hk (by omega) m0
    have hall : ((nat_ S.l p.node).words.drop p.from_.toNat).take p.len.toNat = (nat_ S.l p.node).words := by
      rw [hff, show (0 : Int).toNat = 0 from rfl, List.drop_zero, List.take_of_length_le (by omega)]
    rw [hall]
    by_cases hn : p.n = 0
    · have hof : S.off p = S.part p := by simp [Evn.off, putIf, hn]
      rw [hof, hpt]
      exact ⟨fun c => [⟨p.node, 0, p.len, c⟩], hlf.cast (by rw [hn, id_words hwd]) (by unfold dP; rw [hd, hn]; rfl), by show [(⟨p.node, 0, p.len, 0⟩ : Piece)] = [p]; obtain ⟨a, b, c, d⟩ := p; simp only at hn hff; rw [hn, hff]⟩
    · have hof : S.off p = (S.l ++ [⟨3, p.node, 0, 0, 0, p.n, []⟩], putL S.l S.L p.len, (S.l.length : Int)) := by
        simp only [Evn.off, hpt]
        simp [putIf, hn]
      rw [hof] at hv2 hf ⊢
      have hl2 : S.l.length < 4000 := by
        dsimp only at hf
        simp only [List.length_append, List.length_singleton] at hf
        omega
      exact ⟨fun c => [⟨p.node, 0, p.len, word (w64 (c + p.n))⟩], (leaf_off hl2 ho.2.1 hv2 hlf m0).cast rfl (by unfold dP; rw [hd, if_pos hn]), by show [(⟨p.node, 0, p.len, word (w64 (0 + p.n))⟩ : Piece)] = [p]; rw [hww]; obtain ⟨a, b, c, d⟩ := p; simp only at hff; rw [hff]⟩
end Go.Rp
end

section
set_option linter.unusedVariables false
set_option linter.unusedSimpArgs false
set_option maxRecDepth 100000
open Go Go.VT
namespace Go.Rp

def pcF (l : List Node) (a : Int) : List Piece := pcsAt l a 0 (at_ (lensOf l) a) 0
abbrev pieceW (l : List Node) (p : Piece) : List Int := rwords l p.node p.from_ p.len p.n

structure RunAs (l : List Node) (S : Evn) (ps : List Piece) : Prop where
  t : S.r.map (txt S.l) = ps.map (pieceW l)
  d : S.r.map (dep S.l) = ps.map (dP l)
  p : S.r.map (pcF S.l) = ps.map fun p => [p]
  n : S.r.map (at_ (lensOf S.l)) = ps.map Piece.len

theorem run_as : ∀ {ps qs : List Piece} {S : Evn} {l : List Node} {L : List (Int × Int)} {t : Int}, S.Ok l t → openOk l L → RunAs l S qs → (∀ p ∈ ps, evnPre l L p.node p.from_ p.len p.n) → (Evn.run ps S).full = false → (Evn.run ps S).many = false → RunAs l (Evn.run ps S) (qs ++ ps)
  | [], qs, S, l, L, t, h, _, hr, _, _, _ => by rw [List.append_nil]; exact hr
  | p :: ps, qs, S, l, L, t, h, ho, hr, hps, hf, hm => by
    have hpp := hps p (by simp)
    obtain ⟨e, he⟩ := h.pre
    have hpS : evnPre S.l S.L p.node p.from_ p.len p.n := by
      obtain ⟨_, ⟨n0, n1⟩, hk, hw, m0, m1, f0, f1⟩ := hpp
      refine ⟨h.op, ⟨n0, by rw [he]; simp; omega⟩, by rw [he, nat_app n0 n1]; exact hk, hw, m0, m1, f0, by rw [he, lens_app n0 n1]; exact f1⟩
    have nxt : (S.step p).full = false → RunAs l (S.step p) (qs ++ [p]) := fun hs => by
      obtain ⟨ho1, e1, he1⟩ := step_open h.op hpS hs
      obtain ⟨pp, lf, hpp0⟩ := leaf_step hpS hs
      have hv := h.op.2.1
      have hv1 : validOf (S.l ++ e1) = true := by rw [← he1]; exact ho1.2.1
      have hr1 : (S.step p).r = S.r ++ [(S.off p).2.2] := rfl
      have hpw : rwords S.l p.node p.from_ p.len p.n = pieceW l p := by
        unfold pieceW rwords; rw [he, nat_app hpp.2.1.1 hpp.2.1.2]
      have hpd : dP S.l p = dP l p := by unfold dP; rw [he, lens_app hpp.2.1.1 hpp.2.1.2]
      have hin := h.ins
      refine ⟨?_, ?_, ?_, ?_⟩
      · rw [hr1, List.map_append, List.map_append, ← hr.t, List.map_cons, List.map_nil, List.map_cons, List.map_nil, lf.t, hpw, he1]
        congr 1
        exact List.map_congr_left fun a ha => txt_app hv hv1 _ a rfl (hin a ha).1 (hin a ha).2
      · rw [hr1, List.map_append, List.map_append, ← hr.d, List.map_cons, List.map_nil, List.map_cons, List.map_nil, lf.dp, hpd, he1]
        congr 1
        exact List.map_congr_left fun a ha => dep_app (hin a ha).1 (hin a ha).2
      · rw [hr1, List.map_append, List.map_append, ← hr.p, List.map_cons, List.map_nil, List.map_cons, List.map_nil]
        rw [show pcF (S.step p).l (S.off p).2.2 = [p] by unfold pcF; rw [lf.n, lf.p, hpp0], he1]
        congr 1
        exact List.map_congr_left fun a ha => by unfold pcF; rw [lens_app (hin a ha).1 (hin a ha).2, pcsAt_app hv _ _ _ (hin a ha).1 (hin a ha).2]
      · rw [hr1, List.map_append, List.map_append, ← hr.n, List.map_cons, List.map_nil, List.map_cons, List.map_nil, lf.n, he1]
        congr 1
        exact List.map_congr_left fun a ha => lens_app (hin a ha).1 (hin a ha).2
    unfold Evn.run at hf hm ⊢
    cases hc : (S.step p).full || (S.step p).many with
    | true =>
      rw [hc] at hf hm
      simp only [if_true] at hf hm
      rw [hf, hm] at hc
      cases hc
    | false =>
      rw [hc] at hf hm
      simp only [Bool.false_eq_true, if_false] at hf hm ⊢
      have hs : (S.step p).full = false := by
        cases hh : (S.step p).full with
        | false => rfl
        | true => rw [hh] at hc; simp at hc
      have := run_as (step_ok h hpS hs) ho (nxt hs) (fun q hq => hps q (by simp [hq])) hf hm
      rwa [List.append_assoc] at this

def jd : Nat → List Int → Int
  | 0, _ => 0
  | k + 1, ds => if ds.length = 1 then at_ ds 0 else max (jd k (ds.take (ds.length / 2))) (jd k (ds.drop (ds.length / 2))) + 1

def jdA (ds : List Int) : Int := jd ds.length ds
end Go.Rp
end

section
set_option linter.unusedVariables false
set_option linter.unusedSimpArgs false
set_option maxRecDepth 100000
open Go Go.VT
namespace Go.Rp

theorem ev_round {l L out} {p : Piece} {v : Int} {l2 : List Node} {L2 : List (Int × Int)} (hoff : (Evn.mk l L out).off p = (l2, L2, v)) (hl2 : l2.length ≤ 4000) (ho : out.length ≤ 4001) :
    (out.length + [v].length) * 8 ≤ 140737488355328 ∧
      (decide (((out ++ [v]).length : Int) > 4001) = true → (Evn.step ⟨l, L, out⟩ p).full = false ∧ (false, out ++ [v], l2, L2, (1 : Int), ()) = (!(Evn.step ⟨l, L, out⟩ p).many, out ++ [((Evn.mk l L out).off p).2.2], ((Evn.mk l L out).off p).1, ((Evn.mk l L out).off p).2.1, (if (Evn.step ⟨l, L, out⟩ p).many = true then (1 : Int) else 0), ())) ∧
      (decide (((out ++ [v]).length : Int) > 4001) = false → (Evn.step ⟨l, L, out⟩ p).full = false ∧ (true, out ++ [v], l2, L2, (0 : Int), ()) = (!(Evn.step ⟨l, L, out⟩ p).many, out ++ [((Evn.mk l L out).off p).2.2], ((Evn.mk l L out).off p).1, ((Evn.mk l L out).off p).2.1, (if (Evn.step ⟨l, L, out⟩ p).many = true then (1 : Int) else 0), ())) := by
  have hm : (Evn.step ⟨l, L, out⟩ p).many = decide (((out ++ [v]).length : Int) > 4001) := by
    show decide (4001 < (out ++ [((Evn.mk l L out).off p).2.2]).length) = _
    rw [hoff]
    simp only [decide_eq_decide]
    omega
  have hf : (Evn.step ⟨l, L, out⟩ p).full = false := by
    show decide (4000 < ((Evn.mk l L out).off p).1.length) = false
    rw [hoff]
    simp only [decide_eq_false_iff_not]
    omega
  refine ⟨by simp; omega, fun h => ⟨hf, ?_⟩, fun h => ⟨hf, ?_⟩⟩
  · rw [hm, h, hoff]; rfl
  · rw [hm, h, hoff]; rfl

theorem ev_full {l L out} {p : Piece} (h : 4000 < ((Evn.mk l L out).part p).1.length) : (Evn.step ⟨l, L, out⟩ p).full = true := by
  show decide (4000 < ((Evn.mk l L out).off p).1.length) = true
  have := put_len (p.n != 0) ((Evn.mk l L out).part p).1 ((Evn.mk l L out).part p).2.1 ((Evn.mk l L out).part p).2.2 ⟨3, ((Evn.mk l L out).part p).2.2, 0, 0, 0, p.n, []⟩ p.len
  simp only [decide_eq_true_eq]
  exact Nat.lt_of_lt_of_le h this

theorem putBad_iff {l : List Node} {m : Int} (h : m ≤ 1048576) : (putBad l m = true ↔ 4000 ≤ l.length) ∧ (putBad l m = false ↔ l.length < 4000) := by
  unfold putBad
  constructor
  · simp only [Bool.not_eq_true', Bool.and_eq_false_iff, decide_eq_false_iff_not]; omega
  · simp only [Bool.not_eq_false', Bool.and_eq_true, decide_eq_true_eq]; omega

theorem evenP_vc (l : List Node) (a : Int) : vcD (EVx (fun _ _ => []) itEven [(49, cOpen), (52, cPiecesE), (53, cMust), (59, cOwnS), (60, cPut), (61, cJoin)]) cC lEven Go.Proofs.Tryd.f24 cEvenP (l, a, ()) := (evenP_eq l a).mpr (by
  intro e4 e3 e2 e1 e0 _
  refine ⟨fun h => ?_, fun h => ?_⟩
  · have h := ne_true.1 h
    simp only [e1, evenAt, if_pos h]
  · have h := ne_false.1 h
    obtain ⟨h1, h2, h3⟩ := asked_ok h
    have ha := h3 a (by simp)
    have hbd := lens_bound h2 ha.1 ha.2
    have he2 : e2 = at_ (lensOf l) a := lg_long ha.1 ha.2
    have hop : openOk l (longOf l) := ⟨h1, h2, rfl⟩
    have hwp : walkPre l (longOf l) a 0 (at_ (lensOf l) a) 0 := ⟨⟨h1, h2, rfl⟩, ha, rfl, by omega, fun _ => ⟨by omega, by omega⟩⟩
    have he0 : e0 = evenRun l a := by show Evn.run (pcsAt l a 0 e2 0) _ = _; rw [he2]; rfl
    have he1 : e1 = ((evenAt l a).1, (evenAt l a).2.1, (evenAt l a).2.2, ()) := rfl
    have hev : evenAt l a = if (evenRun l a).full || (evenRun l a).many then ([], 0, 9) else evenEnd (evenRun l a).l (evenRun l a).L (evenRun l a).r := by
      unfold evenAt
      rw [if_neg (by simp [h])]
    obtain ⟨p1, p2, p3⟩ := pcs_ok hop _ a 0 (at_ (lensOf l) a) 0 rfl hwp
    have hrun := fun hf => run_ok (S := ⟨l, longOf l, []⟩) (l := l) (t := 0) (ps := pcsAt l a 0 (at_ (lensOf l) a) 0) ⟨hop, ⟨[], by simp⟩, fun b hb => by simp at hb, rfl⟩ hop p1 hf
    have hr0 : Evn.run (pcsAt l a 0 (at_ (lensOf l) a) 0) ⟨l, longOf l, []⟩ = e0 := he0.symm
    rw [hr0] at hrun
    rw [← he0] at hev
    refine ⟨few_valid h, ⟨rfl, trivial⟩, ?_, ⟨⟨⟨⟨⟨h1, h2, rfl⟩, ha, rfl, by omega, fun _ => ⟨by omega, by omega⟩⟩, by simp, rfl⟩, trivial⟩, trivial⟩, fun hf => ?_, fun hf => ?_⟩
    · rintro ⟨node, f, m, d, out, l', L', st, ⟨⟩⟩
      dsimp only
      rintro ⟨⟨ho, ⟨n0, n1⟩, hk, hd, m0, m1, f0, f1⟩, hout, rfl⟩ _ _
      have hlg : Option.getD (mget (fun (x y : Int) => x == y) L' node) 0 = lg L' node := rfl
      rw [hlg]
      have pb := fun l => putBad_iff (l := l) m1
      have hl4 := ho.1
      refine ⟨rfl, fun c1 => ⟨fun hb => ⟨?_, rfl, trivial⟩, fun hb => ⟨fun c2 => ⟨fun hb2 => ⟨?_, rfl, trivial⟩, fun hb2 => ?_⟩, fun c2 => ?_⟩⟩, fun c1 => ⟨fun c2 => ⟨fun hb => ⟨?_, rfl, trivial⟩, fun hb => ?_⟩, fun c2 => ?_⟩⟩
      · rw [(pb _).1] at hb
        exact ev_full (by simp [Evn.part, putIf, c1]; omega)
      · rw [(pb _).1] at hb2
        have : (Evn.step ⟨l', L', out⟩ ⟨node, f, m, d⟩).l.length = l'.length + 1 + 1 := by simp [Evn.step, Evn.off, Evn.part, putIf, c1, c2]
        show decide (4000 < (Evn.step ⟨l', L', out⟩ ⟨node, f, m, d⟩).l.length) = true
        rw [this]
        simp at hb2 ⊢
        omega
      · rw [(pb _).2] at hb2
        exact ev_round (p := ⟨node, f, m, d⟩) (by simp [Evn.off, Evn.part, putIf, c1, c2]) (by simp at hb2 ⊢; omega) hout
      · rw [(pb _).2] at hb
        exact ev_round (p := ⟨node, f, m, d⟩) (by simp [Evn.off, Evn.part, putIf, c1, c2]) (by simp; omega) hout
      · rw [(pb _).1] at hb
        have : (Evn.step ⟨l', L', out⟩ ⟨node, f, m, d⟩).l.length = l'.length + 1 := by simp [Evn.step, Evn.off, Evn.part, putIf, c1, c2]
        show decide (4000 < (Evn.step ⟨l', L', out⟩ ⟨node, f, m, d⟩).l.length) = true
        rw [this]
        simp
        omega
      · rw [(pb _).2] at hb
        exact ev_round (p := ⟨node, f, m, d⟩) (by simp [Evn.off, Evn.part, putIf, c1, c2]) (by simp; omega) hout
      · exact ev_round (p := ⟨node, f, m, d⟩) (by simp [Evn.off, Evn.part, putIf, c1, c2]) hl4 hout
    · rw [he1, hev, hf]
      rfl
    · obtain ⟨t, ok, hsum⟩ := hrun hf
      have hfl : e0.l.length ≤ 4000 := ok.op.1
      have key : e0.many = false → ((((e0.r.length : Int) == 0) = true → (putBad e0.l 0 = true → (([] : List Node), (0 : Int), (9 : Int), ()) = e1) ∧ (putBad e0.l 0 = false → (e0.l ++ e3, (e0.l.length : Int), (0 : Int), ()) = e1)) ∧
          (((e0.r.length : Int) == 0) = false → ((joinPre e0.l e0.L e0.r ∧ True) ∧ True) ∧ (joinBad e0.l e0.r = true → (([] : List Node), (0 : Int), (9 : Int), ()) = e1) ∧ (joinBad e0.l e0.r = false → ((joinAt e0.l e0.L e0.r).1, (joinAt e0.l e0.L e0.r).2.2, (0 : Int), ()) = e1))) := by
        intro hm
        rw [if_neg (by simp [hf, hm])] at hev
        have hr1 : e0.r.length ≤ 4001 := by simpa [Evn.many] using hm
        refine ⟨fun hz => ?_, fun hz => ?_⟩
        · have hz : e0.r.length = 0 := by
            have : (e0.r.length : Int) = 0 := by simpa using hz
            omega
          unfold evenEnd at hev
          rw [if_pos hz] at hev
          refine ⟨fun hb => ?_, fun hb => ?_⟩
          · rw [he1, hev, hb]; rfl
          · rw [he1, hev, hb]; rfl
        · have hz : ¬ e0.r.length = 0 := by
            have : ¬ (e0.r.length : Int) = 0 := by simpa using hz
            omega
          unfold evenEnd at hev
          rw [if_neg hz] at hev
          refine ⟨⟨⟨⟨ok.op, by omega, hr1, ok.ins, ?_⟩, trivial⟩, trivial⟩, fun hb => ?_, fun hb => ?_⟩
          · rw [ok.sum, hsum hm, p2]; omega
          · rw [he1, hev, hb]; rfl
          · rw [he1, hev, hb]; rfl
      have hmany : ∀ b : Bool, e0.many = b → (!decide ((e0.r.length : Int) ≤ 4001)) = b := fun b hb => by
        rw [← hb]
        unfold Evn.many
        rw [Bool.eq_iff_iff]
        simp
        omega
      refine ⟨fun hst => ?_, fun hst => ?_⟩
      · have hm : e0.many = false := by
          cases hm : e0.many with
          | false => rfl
          | true => rw [hm] at hst; cases hst
        rw [hmany false hm]
        exact ⟨fun h => (by cases h), fun _ => key hm⟩
      · have hm : e0.many = true := by
          cases hm : e0.many with
          | true => rfl
          | false => rw [hm] at hst; exact absurd rfl hst
        rw [hmany true hm]
        refine ⟨by rw [hm]; rfl, fun _ => ?_, fun h => (by cases h)⟩
        rw [he1, hev, hm]
        simp)
theorem evenP_gives : Gives prog RG 24 cEvenP := givesDX (fun _ _ _ h => by cases h) itEven_ok (allCons open_gives (allCons piecesE_gives (allCons must_gives (allCons ownS_gives (allCons put_gives (allCons join_gives allNil)))))) (fun _ => lEven) (by kernel_rfl) (by kernel_rfl) (by kernel_rfl) fun (l, a, ()) _ => evenP_vc l a
end Go.Rp
end

section
set_option linter.unusedVariables false
set_option linter.unusedSimpArgs false
set_option maxRecDepth 100000
open Go Go.VT
namespace Go.Rp

def evDep (l : List Node) (ps : List Piece) : Int := if ps = [] then 1 else jdA (ps.map (dP l))

structure EvenIs (l : List Node) (a : Int) (s : List Node) (b : Int) : Prop where
  e : evenAt l a = (s, b, 0)
  v : validOf s = true
  n : s.length ≤ l.length + 3 * (at_ (lensOf l) a).toNat + 1
  pre : ∃ x, s = l ++ x
  b0 : 0 ≤ b
  b1 : b < s.length
  t : txt s b = txt l a
  d : dep s b = evDep l (pcF l a)
  p : pcF s b = pcF l a

end Go.Rp
end

section
set_option linter.unusedVariables false
set_option linter.unusedSimpArgs false
set_option maxRecDepth 100000
open Go Go.VT
namespace Go.Rp

theorem rep_getD (k i : Nat) : (List.replicate k node0).getD i node0 = node0 := by
  rw [List.getD_eq_getElem?_getD, List.getElem?_replicate]
  split <;> rfl
theorem rep_valid (k : Nat) : validOf (List.replicate k node0) = true := by
  rw [valid_steps]
  intro i hi
  unfold stepOk
  rw [rep_getD, lens_get _ _ hi, rep_getD]
  have h1 : fieldsOf node0 i = true := by simp [fieldsOf]
  have h2 : ∀ L : List Int, lenOf L node0 = 0 := fun _ => rfl
  rw [h1, h2]
  simp [nodeOk]
theorem rep_asked {k : Nat} (hk : k ≤ 4000) {r : List Int} (hr : ∀ a ∈ r, 0 ≤ a ∧ a < k) : askedOf (List.replicate k node0) r = 0 := by
  have hc : checkOf (List.replicate k node0) = 0 := by rw [checkOf, if_neg (by rw [List.length_replicate]; omega), if_pos (rep_valid k)]
  rw [askedOf, if_neg (by rw [hc]; simp), if_pos]
  rw [List.all_eq_true]
  intro a ha
  rw [lies_iff, List.length_replicate]
  have := hr a ha
  omega
theorem rep_words : wordsOf (List.replicate 4000 node0) [] = ([], 0, 9) := by
  rw [wordsOf, if_neg (by rw [rep_asked (by omega) (by simp)]; simp), if_neg (by simp), moreOf, if_pos (.inl (by rw [List.length_replicate]; omega))]
theorem rep_cat : catOf (List.replicate 4000 node0) 0 1 = ([], 0, 9) := by
  rw [catOf, if_neg (by rw [rep_asked (by omega) (by simp)]; simp), moreOf, if_pos (.inl (by rw [List.length_replicate]; omega))]
theorem rep_even : evenAt (List.replicate 4000 node0) 0 = ([], 0, 9) := by
  have hl : at_ (lensOf (List.replicate 4000 node0)) 0 = 0 := by
    have h : at_ (lensOf (List.replicate 4000 node0)) ((0 : Nat) : Int) = 0 := by
      rw [at_nat, lens_get _ _ (by rw [List.length_replicate]; omega), rep_getD]; rfl
    exact h
  have hr : evenRun (List.replicate 4000 node0) 0 = ⟨List.replicate 4000 node0, longOf (List.replicate 4000 node0), []⟩ := by
    unfold evenRun
    rw [hl, pcs_zero (by decide)]; rfl
  have hpb : putBad (List.replicate 4000 node0) 0 = true := (putBad_iff (by decide)).1.2 (by rw [List.length_replicate]; omega)
  rw [evenAt, if_neg (by rw [rep_asked (by omega) (by simp)]; simp), hr, if_neg, evenEnd]
  · dsimp only
    rw [if_pos List.length_nil, if_pos hpb]
  · simp [Evn.full, Evn.many]
theorem rep_long (r : List Int) : askedOf (List.replicate 4001 node0) r = 3 := by
  have hc : checkOf (List.replicate 4001 node0) = 3 := by rw [checkOf, if_pos (by rw [List.length_replicate]; omega)]
  rw [askedOf, if_pos (by rw [hc]; simp), hc]
theorem rep_check : checkOf (List.replicate 4001 node0) = 3 := by rw [checkOf, if_pos (by rw [List.length_replicate]; omega)]
theorem rep_len : lenAt (List.replicate 4001 node0) 0 = (0, 3) := by rw [lenAt, if_pos (by rw [rep_long]; simp), rep_long]

theorem dbl_succ (k : Nat) : dbl (k + 1) = dbl k ++ [⟨1, k, k, 0, 0, 0, []⟩] := by simp [dbl, List.range_succ]
theorem dbl_length (k : Nat) : (dbl k).length = k + 1 := by simp [dbl]
theorem dbl_valid : validOf (dbl 18) = true := by decide +kernel
theorem dbl_lens : ∀ i : Nat, i < 19 → at_ (lensOf (dbl 18)) i = 4 * 2 ^ i := by decide +kernel
theorem dbl_node : ∀ i : Nat, i < 18 → (dbl 18).getD (i + 1) node0 = ⟨1, i, i, 0, 0, 0, []⟩ := by decide +kernel
theorem dbl_pcs : ∀ i : Nat, i < 19 → (pcF (dbl 18) i).length = 2 ^ i
  | 0, _ => by decide +kernel
  | i + 1, h => by
    have ih := dbl_pcs i (by omega)
    have hp : (0 : Int) < 4 * 2 ^ i := by have : (0 : Int) < 2 ^ i := Int.pow_pos (by decide); omega
    have e1 := dbl_lens (i + 1) h
    have e0 := dbl_lens i (by omega)
    unfold pcF at ih ⊢
    rw [e0] at ih
    rw [e1]
    have hx : (⟨1, i, i, 0, 0, 0, []⟩ : Node) = (dbl 18).getD (((i + 1 : Nat) : Int)).toNat node0 := by rw [Int.toNat_natCast, dbl_node i (by omega)]
    rcases pcs_cases dbl_valid 0 (4 * 2 ^ (i + 1)) 0 (a := ((i + 1 : Nat) : Int)) (by omega) (by rw [dbl_length]; omega) (by rw [Int.pow_succ]; omega) hx with ⟨k, _⟩ | ⟨_, t⟩ | ⟨k, _⟩ | ⟨k, _⟩
    · cases k
    · rw [t]
      dsimp only
      rw [e0]
      have hq : max 0 (min (4 * 2 ^ (i + 1)) (4 * 2 ^ i - 0)) = (4 * 2 ^ i : Int) := by rw [Int.pow_succ]; omega
      rw [hq, List.length_append]
      have h2 : (0 : Int) + 4 * 2 ^ i - 4 * 2 ^ i = 0 := by omega
      have h3 : (4 * 2 ^ (i + 1) - 4 * 2 ^ i : Int) = 4 * 2 ^ i := by rw [Int.pow_succ]; omega
      rw [h2, h3, ih, Nat.pow_succ]
      omega
    · cases k
    · cases k
theorem dbl_even : evenAt (dbl 18) 18 = ([], 0, 9) := by
  have hl : (dbl 18).length = 19 := dbl_length 18
  have hv := dbl_valid
  have hask := asked_one (l := dbl 18) (a := 18) (by omega) hv (by decide) (by rw [hl]; decide)
  rw [evenAt, if_neg (by rw [hask]; simp), if_pos]
  cases hf : (evenRun (dbl 18) 18).full with
  | true => rfl
  | false =>
    cases hm : (evenRun (dbl 18) 18).many with
    | true => rfl
    | false =>
      have hb := lens_bound hv (a := 18) (by decide) (by rw [hl]; decide)
      have ho : openOk (dbl 18) (longOf (dbl 18)) := ⟨by omega, hv, rfl⟩
      have hw : walkPre (dbl 18) (longOf (dbl 18)) 18 0 (at_ (lensOf (dbl 18)) 18) 0 := ⟨⟨by omega, hv, rfl⟩, ⟨by decide, by rw [hl]; decide⟩, by decide, hb.1, fun _ => ⟨by omega, by omega⟩⟩
      obtain ⟨p1, _, _⟩ := pcs_ok ho _ 18 0 (at_ (lensOf (dbl 18)) 18) 0 rfl hw
      have h0k : (⟨dbl 18, longOf (dbl 18), []⟩ : Evn).Ok (dbl 18) 0 := ⟨ho, ⟨[], by simp⟩, fun a ha => by simp at ha, rfl⟩
      have ra := run_as (qs := []) h0k ho ⟨rfl, rfl, rfl, rfl⟩ p1 hf hm
      have := congrArg List.length ra.t
      rw [List.nil_append, List.length_map, List.length_map] at this
      have h2 : (pcsAt (dbl 18) 18 0 (at_ (lensOf (dbl 18)) 18) 0).length = 2 ^ 18 := dbl_pcs 18 (by omega)
      have hm2 : decide (4001 < (evenRun (dbl 18) 18).r.length) = false := hm
      have h3 : (evenRun (dbl 18) 18).r.length = 2 ^ 18 := this.trans h2
      rw [h3] at hm2
      simp at hm2

def badL : List Node := [⟨4, 0, 0, 0, 0, 0, []⟩, ⟨-1, 0, 0, 0, 0, 0, []⟩, ⟨0, 1, 0, 0, 0, 0, []⟩, ⟨0, 0, 0, 0, 0, 1, []⟩, ⟨0, 0, 0, 0, 0, 0, [2147483648]⟩, ⟨1, 6, 0, 0, 0, 0, []⟩, ⟨1, 0, -1, 0, 0, 0, []⟩, ⟨1, 0, 0, 0, 1, 0, []⟩, ⟨1, 0, 0, 0, 0, 0, [1]⟩,
  ⟨2, 0, 0, 1, 3, 0, []⟩, ⟨2, 0, 0, -1, 0, 0, []⟩, ⟨2, 0, 0, 4, 0, 0, []⟩, ⟨2, 0, 0, 4611686018427387904, 4611686018427387904, 0, []⟩, ⟨2, 9, 0, 0, 0, 0, []⟩, ⟨2, 0, 0, 0, 0, 1, []⟩, ⟨3, 0, 0, 0, 0, 2147483648, []⟩, ⟨3, 0, 1, 0, 0, 0, []⟩, ⟨3, 6, 0, 0, 0, 0, []⟩]
theorem bad_all : ∀ i : Nat, i < 18 → askedOf (storeL ++ [badL.getD i node0]) [] = 1 ∧ checkOf (storeL ++ [badL.getD i node0]) = 1 := by decide +kernel
theorem bad_asked {i : Nat} (h : i < 18) (r : List Int) : askedOf (storeL ++ [badL.getD i node0]) r = 1 := by
  have h2 := (bad_all i h).2
  rw [askedOf, if_pos (by rw [h2]; simp), h2]
end Go.Rp
end

section
set_option linter.unusedVariables false
set_option linter.unusedSimpArgs false
set_option maxRecDepth 100000
open Go Go.VT
namespace Go.Rp

theorem bad_cond {l : List Node} (c : checkOf l = 1) (a : ∀ r, askedOf l r = 1) : (checkOf l != (1 : Int) || (wordsOf l [(2147483648 : Int)]).snd.snd != (1 : Int) || (catOf l (-1 : Int) (9 : Int)).snd.snd != (1 : Int) ||
    (partOf l (9 : Int) (0 : Int) (0 : Int)).snd.snd != (1 : Int) || (offOf l (9 : Int) (0 : Int)).snd.snd != (1 : Int) || (lenAt l (0 : Int)).snd != (1 : Int) || (flatAt l (9 : Int)).snd != (1 : Int) ||
    (gatherAt l (0 : Int) [(9 : Int)]).snd != (1 : Int) || (costAt l (0 : Int) (9 : Int)).snd != (1 : Int) || (depthAt l (0 : Int)).snd != (1 : Int) || (evenAt l (9 : Int)).snd.snd != (1 : Int) || (keepAt l [(9 : Int)]).snd.snd != (1 : Int)) = false := by
  simp [wordsOf, catOf, partOf, offOf, lenAt, flatAt, gatherAt, costAt, depthAt, evenAt, keepAt, a, c]
theorem dbl_len18 : lenAt (dbl 18) 18 = (1048576, 0) := by decide +kernel
theorem dbl_cat18 : (catOf (dbl 18) 18 0).2.2 = 9 := by decide +kernel
theorem dbl_gather : gatherAt (dbl 18) 18 [1048575, 0] = ([4, 1], 0) := by decide +kernel
theorem one_even : evenAt [node0] 0 = ([node0, node0], 1, 0) := by decide +kernel
theorem store_even3 : (evenAt storeL 3).2 = (7, 0) ∧ (evenAt storeL 3).1.length = 8 := by decide +kernel
theorem store_even0 : evenAt storeL 0 = (storeL, 0, 0) := by decide +kernel
theorem store_keep0 : keepAt storeL [] = ([], [], 0) := by decide +kernel
theorem store_same : sameOf storeL storeL = true := by decide +kernel
end Go.Rp
end

section
set_option linter.unusedVariables false
set_option maxRecDepth 100000
open Go Go.VT
namespace Go.Rp

theorem store_eq : vc (EV []) noL Go.Proofs.Tryd.f46 cStore () = (([Node.mk (0 : Int) (0 : Int) (0 : Int) (0 : Int) (0 : Int) (0 : Int) [(5 : Int), (6 : Int), (7 : Int)], Node.mk (0 : Int) (0 : Int) (0 : Int) (0 : Int) (0 : Int) (0 : Int) [(8 : Int)],
  Node.mk (1 : Int) (0 : Int) (1 : Int) (0 : Int) (0 : Int) (0 : Int) [], Node.mk (2 : Int) (2 : Int) (0 : Int) (1 : Int) (3 : Int) (0 : Int) [],
  Node.mk (3 : Int) (3 : Int) (0 : Int) (0 : Int) (0 : Int) (10 : Int) [], Node.mk (1 : Int) (4 : Int) (2 : Int) (0 : Int) (0 : Int) (0 : Int) []],
  ()) =
  (storeL, ())) := by kernel_rfl

theorem roped_eq : vc (EV [(46, cStore), (17, cFlatR), (19, cGatherR), (21, cCostR), (15, cDepthR), (13, cLenR), (24, cEvenP), (26, cKeepP), (37, cOffR), (23, cEqual), (33, cCheck)]) noL Go.Proofs.Tryd.f12 cRoped () = (let e4 : List Int := [] ++ [(↑(7 : Nat) : Int)] ++ [(↑(8 : Nat) : Int)];
 let e3 : Bool := (0 : Int) != (0 : Int) || (0 : Int) != (0 : Int) || (0 : Int) != (0 : Int);
 let e2 : Bool :=
  (3 : Int) == (3 : Int) && (↑(6 : Nat) : Int) == (6 : Int) && word (w64 ((0 : Int) + (10 : Int))) == (10 : Int) && (1 : Int) == (1 : Int) && at_ (List.take (1 : Nat) e4) (0 : Int) == (7 : Int) &&
  at_ (List.drop (1 : Nat) e4) (0 : Int) == (8 : Int);
 let e1 : Bool :=
  e3 || (↑(9 : Nat) : Int) != (9 : Int) || (↑(6 : Nat) : Int) != (6 : Int) || (↑(10 : Nat) : Int) != (10 : Int) || (↑(4 : Nat) : Int) != (4 : Int) || (↑(7 : Nat) : Int) != (7 : Int) ||
  !decide
  (List.map (at_ ([] ++ [(↑(0 : Nat) : Int)] ++ [(↑(1 : Nat) : Int)] ++ [(↑(2 : Nat) : Int)] ++ [(↑(3 : Nat) : Int)] ++ [(0 : Int)] ++ [(0 : Int)])) [(3 : Int), (1 : Int)] =
  [(3 : Int), (1 : Int)]);
 let e0 : Bool :=
  e3 || (0 : Int) != (0 : Int) || (0 : Int) != (0 : Int) ||
  !decide (List.map (fun (p : Nat) => (wayAt storeL (5 : Int) (↑p : Int)).snd) (List.range (7 : Nat)) = [(16 : Int), (17 : Int), (18 : Int), (5 : Int), (6 : Int), (7 : Int), (8 : Int)]) ||
  !decide (List.map (fun (p : Int) => (wayAt storeL (5 : Int) p).snd) [(0 : Int), (6 : Int), (2 : Int)] = [(16 : Int), (8 : Int), (18 : Int)]) ||
  w64 (w64 (w64 (w64 ((1 : Int) + (1 : Int)) + (1 : Int)) + (1 : Int)) + (1 : Int)) != (5 : Int) ||
  at_ (depthsOf storeL) (5 : Int) != (5 : Int) ||
  at_ (lensOf storeL) (5 : Int) != (7 : Int);
  (e0 = true → (false, ()) = (true, ())) ∧
  (e0 = false →
  True ∧
  (8 : Nat) ≤ (17592186044416 : Nat) ∧
  True ∧
  (e1 = true → (false, ()) = (true, ())) ∧
  (e1 = false →
  ((0 : Int) ≤ (7 : Int) ∧ (7 : Int) < (↑(10 : Nat) : Int)) ∧
  ((0 : Int) ≤ (9 : Int) ∧ (9 : Int) < (↑(10 : Nat) : Int)) ∧
  (e2 = true → (0 : Int) ≤ (6 : Int) ∧ (6 : Int) < (↑(7 : Nat) : Int)) ∧ (e2 && (-5 : Int) == (-5 : Int) && checkOf storeL == (0 : Int), ()) = (true, ())))) := by kernel_rfl

end Go.Rp
end

section
set_option linter.unusedVariables false
set_option linter.unusedSimpArgs false
open Go Go.VT
namespace Go.Rp

theorem mget_mput (K : List (Int × Int)) (k v j : Int) : mget (fun x y => x == y) (mput (fun x y => x == y) K k v) j = if k = j then some v else mget (fun x y => x == y) K j := by
  induction K with
  | nil => 
    simp only [mput, mget, Bool.cond_eq_ite]
    by_cases h : k = j <;> simp [h]
  | cons p r ih =>
    obtain ⟨a, b⟩ := p
    simp only [mput, mget, Bool.cond_eq_ite]
    by_cases hk : a = k
    · subst hk
      by_cases h : a = j <;> simp [h, mget, Bool.cond_eq_ite]
    · by_cases h : a = j
      · subst h
        have : ¬ k = a := fun h => hk h.symm
        simp [hk, this, mget]
      · simp [hk, h, mget, ih]

theorem hasK_mput {K : List (Int × Int)} {k v j : Int} : hasK (mput (fun x y => x == y) K k v) j ↔ j = k ∨ hasK K j := by
  unfold hasK
  rw [mget_mput]
  by_cases h : k = j
  · simp [h]
  · have : ¬ j = k := fun hh => h hh.symm
    simp [h, this]

theorem lg_mput {K : List (Int × Int)} {k v j : Int} : lg (mput (fun x y => x == y) K k v) j = if j = k then v else lg K j := by
  unfold lg
  rw [mget_mput]
  by_cases h : k = j
  · simp [h]
  · have : ¬ j = k := fun hh => h hh.symm
    simp [h, this]

theorem hasK_iff {K : List (Int × Int)} {k : Int} : hasK K k ↔ k ∈ K.map (·.1) := by
  induction K with
  | nil => simp [hasK, mget]
  | cons p r ih =>
    obtain ⟨a, b⟩ := p
    unfold hasK at ih ⊢
    simp only [mget, Bool.cond_eq_ite, List.map_cons, List.mem_cons]
    by_cases h : a = k
    · simp [h]
    · have : ¬ k = a := fun hh => h hh.symm
      simp [h, this, ih]

theorem mput_new {K : List (Int × Int)} {k v : Int} (h : ¬ hasK K k) : mput (fun x y => x == y) K k v = K ++ [(k, v)] := by
  induction K with
  | nil => rfl
  | cons p r ih =>
    obtain ⟨a, b⟩ := p
    rw [hasK_iff] at h ih
    simp only [List.map_cons, List.mem_cons, not_or] at h
    have : ¬ a = k := fun hh => h.1 hh.symm
    simp only [mput, Bool.cond_eq_ite, beq_iff_eq, this, if_false, List.cons_append]
    rw [ih h.2]

theorem nodup_below : ∀ (n : Nat) (l : List Int), l.Nodup → (∀ k ∈ l, 0 ≤ k ∧ k < n) → l.length ≤ n
  | 0, l, _, h => by
    cases l with
    | nil => simp
    | cons a r => have := h a (by simp); omega
  | n + 1, l, hn, h => by
    have h1 := nodup_below n (l.erase (n : Int)) (hn.erase _) (fun k hk => by
      have h2 := h k (List.mem_of_mem_erase hk)
      have h3 : k ≠ (n : Int) := (hn.mem_erase_iff.1 hk).1
      omega)
    rw [List.length_erase] at h1
    split at h1 <;> omega

def okStore (l : List Node) (r : List Int) : Prop := (l.length ≤ 4000 ∧ validOf l = true) ∧ ∀ x ∈ r, 0 ≤ x ∧ x < l.length

theorem partsL_ok {l : List Node} (hv : validOf l = true) {a : Int} (h0 : 0 ≤ a) (h1 : a < l.length) : ∀ k ∈ partsL (nat_ l a), 0 ≤ k ∧ k < a := by
  intro k hk
  have hf := valid_fields hv a.toNat (by omega)
  have := parts_ok hf k hk
  omega

theorem reach_in {l : List Node} {r : List Int} (h : okStore l r) {k : Int} (hk : Reach l r k) : 0 ≤ k ∧ k < l.length := by
  induction hk with
  | root a ha => exact h.2 a ha
  | step a k ha hk ih =>
    have := partsL_ok h.1.2 ih.1 ih.2 k hk
    omega

theorem partsL_len (x : Node) : (partsL x).length ≤ 2 := by
  unfold partsL needOf
  split
  · simp [partsN]
  · simp only [partsN, partsOf]
    split <;> simp

theorem wk_start (l : List Node) (r : List Int) : wkInv l r r [] :=
  ⟨fun k hk => .root k hk, by simp, fun k hk => by simp [hasK_iff] at hk, fun a ha => .inl ha, fun k hk => by simp [hasK_iff] at hk, by simp⟩

theorem wk_had {l : List Node} {r t : List Int} {K : List (Int × Int)} {k : Int} (h : wkInv l r (k :: t) K) (hk : hasK K k) : wkInv l r t K :=
  ⟨fun j hj => h.todos j (by simp [hj]), h.keys, h.reach, fun a ha => by
    rcases h.root a ha with h1 | h1
    · rcases List.mem_cons.1 h1 with rfl | h1
      · exact .inr hk
      · exact .inl h1
    · exact .inr h1, fun q hq j hj => by
    rcases h.parts q hq j hj with h1 | h1
    · rcases List.mem_cons.1 h1 with rfl | h1
      · exact .inr hk
      · exact .inl h1
    · exact .inr h1, by have := h.many; simp at this; omega⟩

theorem wk_new {l : List Node} {r t : List Int} {K : List (Int × Int)} {k : Int} (h : wkInv l r (k :: t) K) (hk : ¬ hasK K k) : wkInv l r (t ++ partsL (nat_ l k)) (mput (fun x y => x == y) K k 0) := by
  have hr := h.todos k (by simp)
  refine ⟨fun j hj => ?_, ?_, fun j hj => ?_, fun a ha => ?_, fun q hq j hj => ?_, ?_⟩
  · rcases List.mem_append.1 hj with h1 | h1
    · exact h.todos j (by simp [h1])
    · exact .step k j hr h1
  · rw [mput_new hk, List.map_append, List.nodup_append]
    refine ⟨h.keys, by simp, fun a ha b hb => ?_⟩
    simp at hb
    subst hb
    intro hab
    subst hab
    exact hk (hasK_iff.2 ha)
  · rcases hasK_mput.1 hj with rfl | h1
    · exact hr
    · exact h.reach j h1
  · rcases h.root a ha with h1 | h1
    · rcases List.mem_cons.1 h1 with rfl | h1
      · exact .inr (hasK_mput.2 (.inl rfl))
      · exact .inl (by simp [h1])
    · exact .inr (hasK_mput.2 (.inr h1))
  · rcases hasK_mput.1 hq with rfl | h1
    · exact .inl (by simp [hj])
    · rcases h.parts q h1 j hj with h2 | h2
      · rcases List.mem_cons.1 h2 with rfl | h2
        · exact .inr (hasK_mput.2 (.inl rfl))
        · exact .inl (by simp [h2])
      · exact .inr (hasK_mput.2 (.inr h2))
  · have := h.many
    have h2 := partsL_len (nat_ l k)
    rw [mput_new hk]
    simp at this ⊢
    omega

theorem wk_end {l : List Node} {r : List Int} {K : List (Int × Int)} (h : wkInv l r [] K) (k : Int) : hasK K k ↔ Reach l r k := by
  refine ⟨h.reach k, fun hr => ?_⟩
  induction hr with
  | root a ha => exact (h.root a ha).resolve_left (by simp)
  | step a k ha hk ih => exact (h.parts a ih k hk).resolve_left (by simp)

theorem wk_len {l : List Node} {r t : List Int} {K : List (Int × Int)} (ho : okStore l r) (h : wkInv l r t K) : K.length ≤ l.length := by
  have := nodup_below l.length (K.map (·.1)) h.keys (fun k hk => reach_in ho (h.reach k (hasK_iff.2 hk)))
  simpa using this

theorem wk_room {l : List Node} {r t : List Int} {K : List (Int × Int)} {k : Int} (ho : okStore l r) (h : wkInv l r (k :: t) K) (hk : ¬ hasK K k) : K.length < l.length := by
  have := wk_len ho (wk_new h hk)
  rw [mput_new hk] at this
  simp at this
  omega

theorem markAll_len (m : List Bool) (ks : List Int) : (markAll m ks).length = m.length := by
  unfold markAll
  induction ks generalizing m with
  | nil => rfl
  | cons k r ih => simp [ih]

theorem set_get (m : List Bool) (q j : Nat) : (m.set q true).getD j false = true ↔ m.getD j false = true ∨ (q = j ∧ j < m.length) := by
  simp only [List.getD_eq_getElem?_getD, List.getElem?_set]
  by_cases h : q = j
  · subst h
    by_cases h2 : q < m.length
    · simp [h2]
    · simp [h2]
  · simp [h]

theorem markAll_get (m : List Bool) (ks : List Int) (j : Nat) : (markAll m ks).getD j false = true ↔ m.getD j false = true ∨ ((∃ k ∈ ks, k.toNat = j) ∧ j < m.length) := by
  unfold markAll
  induction ks generalizing m with
  | nil => simp
  | cons k r ih =>
    simp only [List.foldl_cons]
    rw [ih, set_get, List.length_set]
    simp only [List.mem_cons, exists_eq_or_imp]
    constructor
    · rintro ((h | h) | h)
      · exact .inl h
      · exact .inr ⟨.inl h.1, h.2⟩
      · exact .inr ⟨.inr h.1, h.2⟩
    · rintro (h | ⟨h | h, h2⟩)
      · exact .inl (.inl h)
      · exact .inl (.inr ⟨h, h2⟩)
      · exact .inr ⟨h, h2⟩

theorem markDown_iff {l : List Node} {r : List Int} (ho : okStore l r) : ∀ (i : Nat) (m : List Bool), i ≤ l.length → m.length = l.length →
    (∀ j : Nat, m.getD j false = true → Reach l r j) → (∀ a ∈ r, m.getD a.toNat false = true) → (∀ j : Nat, i ≤ j → m.getD j false = true → ∀ k ∈ partsL (l.getD j node0), m.getD k.toNat false = true) →
    ∀ j : Nat, j < l.length → ((markDown l i m).getD j false = true ↔ Reach l r j)
  | 0, m, _, hm, h1, h2, h3 => fun j hj => by
    refine ⟨h1 j, fun hr => ?_⟩
    have key : ∀ k : Int, Reach l r k → m.getD k.toNat false = true := by
      intro k hk
      induction hk with
      | root a ha => exact h2 a ha
      | step a k ha hk ih => exact h3 a.toNat (by omega) ih k hk
    have := key j hr
    show m.getD j false = true
    simpa using this
  | i + 1, m, hi, hm, h1, h2, h3 => by
    simp only [markDown]
    refine markDown_iff ho i _ (by omega) ?_ ?_ ?_ ?_
    · split
      · rw [markAll_len, hm]
      · exact hm
    · intro j hj
      split at hj
      · rename_i hb
        rcases (markAll_get _ _ _).1 hj with h | ⟨⟨k, hk, hkj⟩, hjl⟩
        · exact h1 j h
        · have hp := partsL_ok ho.1.2 (a := (i : Int)) (by omega) (by omega) k (by simpa [nat_] using hk)
          have : k = (j : Int) := by omega
          subst this
          exact .step i j (h1 i hb) (by simpa [nat_] using hk)
      · exact h1 j hj
    · intro a ha
      split
      · exact (markAll_get _ _ _).2 (.inl (h2 a ha))
      · exact h2 a ha
    · intro j hj
      split
      · rename_i hb
        intro hj2 k hk
        rcases (markAll_get _ _ _).1 hj2 with h | ⟨⟨q, hq, hqj⟩, hjl⟩
        · by_cases hji : j = i
          · subst hji
            have hp := partsL_ok ho.1.2 (a := (j : Int)) (by omega) (by omega) k (by simpa [nat_] using hk)
            exact (markAll_get _ _ _).2 (.inr ⟨⟨k, hk, rfl⟩, by omega⟩)
          · exact (markAll_get _ _ _).2 (.inl (h3 j (by omega) h k hk))
        · have hp := partsL_ok ho.1.2 (a := (i : Int)) (by omega) (by omega) q (by simpa [nat_] using hq)
          omega
      · rename_i hb
        intro hj2 k hk
        by_cases hji : j = i
        · subst hji; exact absurd hj2 hb
        · exact h3 j (by omega) hj2 k hk

theorem needs_iff {l : List Node} {r : List Int} (ho : okStore l r) {j : Nat} (hj : j < l.length) : (needs l r).getD j false = true ↔ Reach l r j := by
  unfold needs
  refine markDown_iff ho l.length _ (Nat.le_refl _) (by rw [markAll_len]; simp) (fun j hj => ?_) (fun a ha => ?_) (fun j hj h => ?_) j hj
  · rcases (markAll_get _ _ _).1 hj with h | ⟨⟨k, hk, hkj⟩, _⟩
    · rw [List.getD_eq_getElem?_getD, List.getElem?_replicate] at h
      split at h <;> simp at h
    · have := ho.2 k hk
      have : k = (j : Int) := by omega
      subst this
      exact .root _ hk
  · have := ho.2 a ha
    exact (markAll_get _ _ _).2 (.inr ⟨⟨a, ha, rfl⟩, by simp; omega⟩)
  · exfalso
    rcases (markAll_get _ _ _).1 h with h | ⟨_, h⟩
    · rw [List.getD_eq_getElem?_getD, List.getElem?_replicate] at h
      split at h <;> simp at h
    · simp at h; omega

theorem keepGo_len (m : List Bool) (l : List Node) : ∀ i, (keepGo m l i).2.length = i
  | 0 => rfl
  | i + 1 => by
    simp only [keepGo]
    split <;> simp [keepGo_len m l i]

theorem keepGo_outLen (m : List Bool) (l : List Node) : ∀ i, (keepGo m l i).1.length ≤ i
  | 0 => by simp [keepGo]
  | i + 1 => by
    have := keepGo_outLen m l i
    simp only [keepGo]
    split <;> simp <;> omega

theorem at_app {a b : List Int} {k : Int} (h : k.toNat < a.length) : at_ (a ++ b) k = at_ a k := by
  unfold at_
  rw [List.getD_eq_getElem?_getD, List.getD_eq_getElem?_getD, List.getElem?_append_left h]

theorem keepGo_at (m : List Bool) (l : List Node) (i : Nat) {k : Int} (h0 : 0 ≤ k) (h : k < i) : at_ (keepGo m l (i + 1)).2 k = at_ (keepGo m l i).2 k := by
  simp only [keepGo]
  split <;> exact at_app (by rw [keepGo_len]; omega)

theorem cp_start {l : List Node} {r : List Int} {K : List (Int × Int)} (ho : okStore l r) (h : wkInv l r [] K) : cpInv l r 0 K :=
  ⟨wk_end h, fun k hk hr => by have := reach_in ho hr; omega⟩

theorem cp_skip {l : List Node} {r : List Int} {K : List (Int × Int)} {i : Nat} (ho : okStore l r) (hi : i < l.length) (h : cpInv l r i K) (hn : ¬ hasK K i) :
    cpInv l r (i + 1) K ∧ (keepGo (needs l r) l (i + 1)).1 = (keepGo (needs l r) l i).1 := by
  have hr : ¬ Reach l r i := fun hh => hn ((h.keys i).2 hh)
  have hb : ¬ (needs l r).getD i false = true := fun hh => hr ((needs_iff ho hi).1 hh)
  refine ⟨⟨h.keys, fun k hk hkr => ?_⟩, by simp only [keepGo, if_neg hb]⟩
  have h0 := reach_in ho hkr
  by_cases hki : k = i
  · subst hki; exact absurd hkr hr
  · rw [keepGo_at _ _ _ h0.1 (by omega)]
    exact h.num k (by omega) hkr

theorem cp_step {l : List Node} {r : List Int} {K : List (Int × Int)} {i : Nat} (ho : okStore l r) (hi : i < l.length) (h : cpInv l r i K) (hn : hasK K i) :
    cpInv l r (i + 1) (mput (fun x y => x == y) K i ((keepGo (needs l r) l i).1.length : Nat)) ∧
    (keepGo (needs l r) l (i + 1)).1 = (keepGo (needs l r) l i).1 ++ [renum (keepGo (needs l r) l i).2 (l.getD i node0)] ∧
    (∀ k ∈ partsL (l.getD i node0), lg (mput (fun x y => x == y) K i ((keepGo (needs l r) l i).1.length : Nat)) k = at_ (keepGo (needs l r) l i).2 k) := by
  have hr : Reach l r i := (h.keys i).1 hn
  have hb : (needs l r).getD i false = true := (needs_iff ho hi).2 hr
  refine ⟨⟨fun k => ?_, fun k hk hkr => ?_⟩, by simp only [keepGo, if_pos hb], fun k hk => ?_⟩
  · rw [hasK_mput, h.keys]
    constructor
    · rintro (rfl | hh)
      · exact hr
      · exact hh
    · exact .inr
  · have h0 := reach_in ho hkr
    rw [lg_mput]
    by_cases hki : k = i
    · subst hki
      rw [if_pos rfl]
      simp only [keepGo, if_pos hb, at_]
      rw [List.getD_eq_getElem?_getD, List.getElem?_append_right (by rw [keepGo_len]; simp)]
      simp [keepGo_len]
    · rw [if_neg hki, keepGo_at _ _ _ h0.1 (by omega)]
      exact h.num k (by omega) hkr
  · have hp := partsL_ok ho.1.2 (a := (i : Int)) (by omega) (by omega) k (by simpa [nat_] using hk)
    rw [lg_mput, if_neg (by omega)]
    exact h.num k (by omega) (.step i k hr (by simpa [nat_] using hk))

theorem cp_end {l : List Node} {r : List Int} {K : List (Int × Int)} (ho : okStore l r) (h : cpInv l r l.length K) : ∀ a ∈ r, lg K a = at_ (keptOf l r).2 a :=
  fun a ha => h.num a (ho.2 a ha).2 (.root a ha)
end Go.Rp
end

section
set_option linter.unusedVariables false
set_option maxRecDepth 100000
open Go Go.VT
namespace Go.Rp

theorem concat_eq (l : List (List Int)) : vc (EV [(83, cGrow)]) (lConcat l) Go.Proofs.Tryd.f81 cConcat (l, ()) = (Small RU (Sigma.mk (Ty.slice (25 : Nat) (Ty.slice (3 : Nat) (Ty.int IntKind.i64))) l) →
  (∃ (p : Int × Int × Unit),
  l = l ∧
  l = l ∧
  (↑(List.length l) : Int) = (↑(List.length l) : Int) ∧
  (0 : Int) = p.fst ∧ (0 : Int) = p.snd.fst ∧ (0 : Int) ≤ p.fst ∧ p.fst ≤ (↑(List.length l) : Int) ∧ p.snd.fst = (↑(List.length (List.flatten (List.take (Int.toNat p.fst) l))) : Int)) ∧
  ∀ (p : Int × Int × Unit),
 let e1 : Bool := decide (p.fst < (↑(List.length l) : Int));
 let e0 : Int := IntKind.wrap IntKind.i64 (p.snd.fst + (↑(List.length (List.getD l (Int.toNat p.fst) [])) : Int));
  (0 : Int) ≤ p.fst ∧ p.fst ≤ (↑(List.length l) : Int) ∧ p.snd.fst = (↑(List.length (List.flatten (List.take (Int.toNat p.fst) l))) : Int) →
  (e1 = true →
  ((0 : Int) ≤ p.fst ∧ p.fst < (↑(List.length l) : Int)) ∧
  (decide (e0 < (0 : Int)) = true → Bad (7 : Nat) (1 : Nat)) ∧
  (decide (e0 < (0 : Int)) = false →
  ∃ (p' : Int × Int × Unit),
  l = l ∧
  l = l ∧
  (↑(List.length l) : Int) = (↑(List.length l) : Int) ∧
  IntKind.wrap IntKind.i64 (p.fst + (1 : Int)) = p'.fst ∧
  e0 = p'.snd.fst ∧
  ((0 : Int) ≤ p'.fst ∧ p'.fst ≤ (↑(List.length l) : Int) ∧ p'.snd.fst = (↑(List.length (List.flatten (List.take (Int.toNat p'.fst) l))) : Int)) ∧
  List.length l - Int.toNat p'.fst < List.length l - Int.toNat p.fst)) ∧
  (e1 = false →
  ((0 : Int) ≤ p.snd.fst ∧ p.snd.fst ≤ (17592186044416 : Int)) ∧
  (∃ (p_1 : Int × List Int × Unit),
  l = l ∧
  l = l ∧
  (↑(List.length l) : Int) = (↑(List.length l) : Int) ∧
  p.fst = p.fst ∧
  p.snd.fst = p.snd.fst ∧
  e1 = e1 ∧
  l = l ∧
  (↑(List.length l) : Int) = (↑(List.length l) : Int) ∧
  (0 : Int) = p_1.fst ∧ [] = p_1.snd.fst ∧ (0 : Int) ≤ p_1.fst ∧ p_1.fst ≤ (↑(List.length l) : Int) ∧ p_1.snd.fst = List.flatten (List.take (Int.toNat p_1.fst) l)) ∧
  ∀ (p_1 : Int × List Int × Unit),
 let e2 : List Int := List.getD l (Int.toNat p_1.fst) [];
 let e1_1 : Bool := decide (p_1.fst < (↑(List.length l) : Int));
 let e0 : Bool := e1;
  (0 : Int) ≤ p_1.fst ∧ p_1.fst ≤ (↑(List.length l) : Int) ∧ p_1.snd.fst = List.flatten (List.take (Int.toNat p_1.fst) l) →
  (e1_1 = true →
  ((0 : Int) ≤ p_1.fst ∧ p_1.fst < (↑(List.length l) : Int)) ∧
  (List.length p_1.snd.fst + List.length e2) * (8 : Nat) ≤ (140737488355328 : Nat) ∧
  ∃ (p' : Int × List Int × Unit),
  l = l ∧
  l = l ∧
  (↑(List.length l) : Int) = (↑(List.length l) : Int) ∧
  p.fst = p.fst ∧
  p.snd.fst = p.snd.fst ∧
  e0 = e0 ∧
  l = l ∧
  (↑(List.length l) : Int) = (↑(List.length l) : Int) ∧
  IntKind.wrap IntKind.i64 (p_1.fst + (1 : Int)) = p'.fst ∧
  p_1.snd.fst ++ e2 = p'.snd.fst ∧
  ((0 : Int) ≤ p'.fst ∧ p'.fst ≤ (↑(List.length l) : Int) ∧ p'.snd.fst = List.flatten (List.take (Int.toNat p'.fst) l)) ∧
  List.length l - Int.toNat p'.fst < List.length l - Int.toNat p_1.fst) ∧
  (e1_1 = false → (p_1.snd.fst, ()) = (List.flatten l, ())))) := by kernel_rfl

theorem united_eq (l : List (List Int)) : vc (EV [(81, cConcat)]) noL Go.Proofs.Tryd.f65 cUnited (l, ()) = (Small RU (Sigma.mk (Ty.slice (25 : Nat) (Ty.slice (3 : Nat) (Ty.int IntKind.i64))) l) → List.length (List.flatten l) ≤ (17592186044416 : Nat) ∧ (List.flatten l, ()) = (List.flatten l, ())) := by kernel_rfl

end Go.Rp
end

section
set_option linter.unusedVariables false
set_option linter.unusedSimpArgs false
set_option maxRecDepth 100000
open Go Go.VT
namespace Go.Rp

theorem flat_le {l : List (List Int)} (m : Nat) : (l.take m).flatten.length ≤ l.flatten.length := by
  conv => rhs; rw [← List.take_append_drop m l, List.flatten_append]
  simp

theorem flat_take {l : List (List Int)} {m : Nat} (h : m < l.length) : (l.take (m + 1)).flatten = (l.take m).flatten ++ l.getD m [] := by
  rw [take_succ_getD h []]
  simp

theorem concat_vc (l : List (List Int)) (hp : l.flatten.length ≤ 17592186044416) : vc (EV [(83, cGrow)]) (lConcat l) Go.Proofs.Tryd.f81 cConcat (l, ()) := (concat_eq l).mpr (by
  intro hs
  have hlen := hs.len
  simp only [most] at hlen
  refine ⟨⟨(0, 0, ()), by trivial, by trivial, by trivial, rfl, rfl, Int.le_refl _, by dsimp only; omega, by simp⟩, ?_⟩
  rintro ⟨i, z, ⟨⟩⟩ e1 e0 ⟨h0, h1, h2⟩
  dsimp only at h0 h1 h2 e1 e0 ⊢
  obtain ⟨m, rfl⟩ := Int.eq_ofNat_of_zero_le h0
  simp -zeta only [Int.toNat_natCast] at h2 e0 ⊢
  have hm1 := flat_le (l := l) m
  refine ⟨fun hlt => ?_, fun hge => ?_⟩
  · have hlt := of_decide_eq_true hlt
    have hm : m < l.length := by omega
    have hf := flat_take hm
    have hm2 := flat_le (l := l) (m + 1)
    rw [hf, List.length_append] at hm2
    have he0 : e0 = ((l.take (m + 1)).flatten.length : Nat) := by
      show IntKind.i64.wrap (z + ((l.getD m []).length : Nat)) = _
      rw [h2, hf, List.length_append, w64_id (by omega) (by omega)]
      omega
    refine ⟨⟨h0, hlt⟩, fun hb => ?_, fun _ => ⟨((m + 1 : Nat), e0, ()), by trivial, by trivial, by trivial, ?_, rfl, ⟨by omega, by dsimp only; omega, ?_⟩, by dsimp only; omega⟩⟩
    · have := of_decide_eq_true hb
      omega
    · rw [w64_id (by omega) (by omega)]; rfl
    · dsimp only
      rw [Int.toNat_natCast]; exact he0
  · have hge := of_decide_eq_false hge
    have hm : m = l.length := by omega
    subst hm
    rw [List.take_length] at h2
    refine ⟨⟨by omega, by omega⟩, ⟨(0, [], ()), by trivial, by trivial, by trivial, by trivial, by trivial, by trivial, by trivial, by trivial, rfl, rfl, Int.le_refl _, by dsimp only; omega, by simp⟩, ?_⟩
    rintro ⟨j, out, ⟨⟩⟩ ⟨k0, k1, k2⟩
    dsimp only at k0 k1 k2 ⊢
    obtain ⟨q, rfl⟩ := Int.eq_ofNat_of_zero_le k0
    simp -zeta only [Int.toNat_natCast] at k2 ⊢
    refine ⟨fun hlt => ?_, fun hge => ?_⟩
    · have hlt := of_decide_eq_true hlt
      have hq : q < l.length := by omega
      have hf := flat_take hq
      have hm2 := flat_le (l := l) (q + 1)
      rw [hf, List.length_append] at hm2
      refine ⟨⟨k0, hlt⟩, ?_, ((q + 1 : Nat), out ++ l.getD q [], ()), by trivial, by trivial, by trivial, by trivial, by trivial, by trivial, by trivial, by trivial, ?_, rfl, ⟨by omega, by dsimp only; omega, ?_⟩, by dsimp only; omega⟩
      · rw [k2]
        show (_ + (l.getD q []).length) * 8 ≤ _
        omega
      · rw [w64_id (by omega) (by omega)]; rfl
      · dsimp only
        rw [Int.toNat_natCast, hf, k2]
    · have hge := of_decide_eq_false hge
      have hq : q = l.length := by omega
      subst hq
      rw [k2, List.take_length])
theorem concat_gives : Gives prog RG 81 cConcat := gives (allCons grow_gives allNil) (fun p => lConcat p.1) (by kernel_rfl) (by kernel_rfl) (by kernel_rfl) fun (l, ()) hp => concat_vc l hp
theorem united_gives : Gives prog RG 65 cUnited := gives (allCons concat_gives allNil) (fun _ => noL) (by kernel_rfl) (by kernel_rfl) (by kernel_rfl) fun (l, ()) hp => (united_eq l).mpr fun _ => ⟨hp, rfl⟩
end Go.Rp
end

section
set_option linter.unusedVariables false
set_option maxRecDepth 100000
open Go Go.VT
namespace Go.Rp

theorem keepP_eq (l : List Node) (r : List Int) : vcD (EVx invR noIt [(49, cOpen), (51, cNeeded), (59, cOwnS), (65, cUnited)]) cC (lKeep l r) Go.Proofs.Tryd.f26 cKeepP (l, r, ()) = (let e0 : List Node × List Int × Int × Unit := ((keepAt l r).fst, (keepAt l r).snd.fst, (keepAt l r).snd.snd, ());
  Small RU (Sigma.mk (Ty.slice (56 : Nat) (Ty.user (0 : Nat))) l) →
  Small RU (Sigma.mk (Ty.slice (3 : Nat) (Ty.int IntKind.i64)) r) →
  ((askedOf l r != (0 : Int)) = true → ([], [], askedOf l r, ()) = e0) ∧
  ((askedOf l r != (0 : Int)) = false →
  (List.length l ≤ (4000000 : Nat) ∧ ∀ (x : Node), List.Mem x l → List.length x.words ≤ (4000000 : Nat)) ∧
  List.length (List.flatten [r]) ≤ (17592186044416 : Nat) ∧
  (∃ (p : List Int × List (Int × Int) × Unit),
  l = l ∧
  r = r ∧
  List.flatten [r] = List.flatten [r] ∧
  List.flatten [r] = p.fst ∧ l = l ∧ (0 : Int) = (0 : Int) ∧ longOf l = longOf l ∧ l = l ∧ [] = p.snd.fst ∧ [r] = [r] ∧ wkInv l r p.fst p.snd.fst) ∧
  ∀ (p : List Int × List (Int × Int) × Unit),
 let e4 : Nat := (3 : Nat) * (List.length l - List.length p.snd.fst) + List.length p.fst;
 let e3 : Bool := Option.isSome (mget (fun (x y : Int) => x == y) p.snd.fst (List.getD p.fst (0 : Nat) (0 : Int)));
 let e2 : Node := Node.mk (0 : Int) (0 : Int) (0 : Int) (0 : Int) (0 : Int) (0 : Int) [];
 let e1 : Bool := decide ((↑(List.length p.fst) : Int) > (0 : Int));
 let e0_1 : Node := List.getD l (Int.toNat (List.getD p.fst (0 : Nat) (0 : Int))) e2;
  wkInv l r p.fst p.snd.fst →
  (e1 = true →
  ((0 : Int) ≤ (0 : Int) ∧ (0 : Int) < (↑(List.length p.fst) : Int)) ∧
  ((0 : Int) ≤ (1 : Int) ∧ (1 : Int) ≤ (↑(List.length p.fst) : Int)) ∧
  (e3 = true →
  ∃ (p' : List Int × List (Int × Int) × Unit),
  l = l ∧
  r = r ∧
  List.flatten [r] = List.flatten [r] ∧
  List.drop (1 : Nat) p.fst = p'.fst ∧
  l = l ∧
  (0 : Int) = (0 : Int) ∧
  longOf l = longOf l ∧
  l = l ∧
  p.snd.fst = p'.snd.fst ∧ [r] = [r] ∧ wkInv l r p'.fst p'.snd.fst ∧ (3 : Nat) * (List.length l - List.length p'.snd.fst) + List.length p'.fst < e4) ∧
  (e3 = false →
  ((0 : Int) ≤ List.getD p.fst (0 : Nat) (0 : Int) ∧ List.getD p.fst (0 : Nat) (0 : Int) < (↑(List.length l) : Int)) ∧
  True ∧
  List.length (List.flatten [List.drop (1 : Nat) p.fst, partsN (needOf (Node.mk e0_1.kind e0_1.a e0_1.b e0_1.from_ e0_1.len e0_1.n e0_1.words))]) ≤
  (17592186044416 : Nat) ∧
  ∃ (p' : List Int × List (Int × Int) × Unit),
  l = l ∧
  r = r ∧
  List.flatten [r] = List.flatten [r] ∧
  List.flatten [List.drop (1 : Nat) p.fst, partsN (needOf (Node.mk e0_1.kind e0_1.a e0_1.b e0_1.from_ e0_1.len e0_1.n e0_1.words))] = p'.fst ∧
  l = l ∧
  (0 : Int) = (0 : Int) ∧
  longOf l = longOf l ∧
  l = l ∧
  mput (fun (x y : Int) => x == y) p.snd.fst (List.getD p.fst (0 : Nat) (0 : Int)) (0 : Int) = p'.snd.fst ∧
  [r] = [r] ∧ wkInv l r p'.fst p'.snd.fst ∧ (3 : Nat) * (List.length l - List.length p'.snd.fst) + List.length p'.fst < e4)) ∧
  (e1 = false →
  (∃ (p_1 : Int × List (Int × Int) × List Node × Unit),
  l = l ∧
  r = r ∧
  List.flatten [r] = List.flatten [r] ∧
  p.fst = p.fst ∧
  e1 = e1 ∧
  (↑(List.length l) : Int) = (↑(List.length l) : Int) ∧
  (0 : Int) = p_1.fst ∧
  l = l ∧
  (0 : Int) = (0 : Int) ∧
  longOf l = longOf l ∧
  l = l ∧
  p.snd.fst = p_1.snd.fst ∧
  [r] = [r] ∧
  [] = p_1.snd.snd.fst ∧
  (0 : Int) ≤ p_1.fst ∧
  p_1.fst ≤ (↑(List.length l) : Int) ∧
  cpInv l r (Int.toNat p_1.fst) p_1.snd.fst ∧ p_1.snd.snd.fst = (keepGo (needs l r) l (Int.toNat p_1.fst)).fst) ∧
  ∀ (p_1 : Int × List (Int × Int) × List Node × Unit),
 let e7 : Bool := !Option.isSome (mget (fun (x y : Int) => x == y) p_1.snd.fst p_1.fst);
 let e6 : Nat := List.length p_1.snd.snd.fst;
 let e5 : Nat := List.length l - Int.toNat p_1.fst;
 let e4 : Bool := decide (p_1.fst < (↑(List.length l) : Int));
 let e3 : Int := IntKind.wrap IntKind.i64 (p_1.fst + (1 : Int));
 let e2_1 : Bool := e1;
 let e1 : List (Int × Int) := mput (fun (x y : Int) => x == y) p_1.snd.fst p_1.fst (↑e6 : Int);
 let e0_2 : Node := List.getD l (Int.toNat p_1.fst) e2;
  (0 : Int) ≤ p_1.fst ∧ p_1.fst ≤ (↑(List.length l) : Int) ∧ cpInv l r (Int.toNat p_1.fst) p_1.snd.fst ∧ p_1.snd.snd.fst = (keepGo (needs l r) l (Int.toNat p_1.fst)).fst →
  (e4 = true →
  ((0 : Int) ≤ p_1.fst ∧ p_1.fst < (↑(List.length l) : Int)) ∧
  (e7 = true →
  ∃ (p' : Int × List (Int × Int) × List Node × Unit),
  l = l ∧
  r = r ∧
  List.flatten [r] = List.flatten [r] ∧
  p.fst = p.fst ∧
  e2_1 = e2_1 ∧
  (↑(List.length l) : Int) = (↑(List.length l) : Int) ∧
  e3 = p'.fst ∧
  l = l ∧
  (0 : Int) = (0 : Int) ∧
  longOf l = longOf l ∧
  l = l ∧
  p_1.snd.fst = p'.snd.fst ∧
  [r] = [r] ∧
  p_1.snd.snd.fst = p'.snd.snd.fst ∧
  ((0 : Int) ≤ p'.fst ∧
  p'.fst ≤ (↑(List.length l) : Int) ∧
  cpInv l r (Int.toNat p'.fst) p'.snd.fst ∧ p'.snd.snd.fst = (keepGo (needs l r) l (Int.toNat p'.fst)).fst) ∧
  List.length l - Int.toNat p'.fst < e5) ∧
  (e7 = false →
  ((e0_2.kind != (0 : Int)) = true →
  ((e0_2.kind == (1 : Int)) = true →
  (e6 +
  List.length
  [Node.mk e0_2.kind (Option.getD (mget (fun (x y : Int) => x == y) e1 e0_2.a) (0 : Int))
  (Option.getD (mget (fun (x y : Int) => x == y) e1 e0_2.b) (0 : Int)) e0_2.from_ e0_2.len e0_2.n e0_2.words]) *
  (72 : Nat) ≤
  (140737488355328 : Nat) ∧
  ∃ (p' : Int × List (Int × Int) × List Node × Unit),
  l = l ∧
  r = r ∧
  List.flatten [r] = List.flatten [r] ∧
  p.fst = p.fst ∧
  e2_1 = e2_1 ∧
  (↑(List.length l) : Int) = (↑(List.length l) : Int) ∧
  e3 = p'.fst ∧
  l = l ∧
  (0 : Int) = (0 : Int) ∧
  longOf l = longOf l ∧
  l = l ∧
  e1 = p'.snd.fst ∧
  [r] = [r] ∧
  p_1.snd.snd.fst ++
  [Node.mk e0_2.kind (Option.getD (mget (fun (x y : Int) => x == y) e1 e0_2.a) (0 : Int))
  (Option.getD (mget (fun (x y : Int) => x == y) e1 e0_2.b) (0 : Int)) e0_2.from_ e0_2.len e0_2.n e0_2.words] =
  p'.snd.snd.fst ∧
  ((0 : Int) ≤ p'.fst ∧
  p'.fst ≤ (↑(List.length l) : Int) ∧
  cpInv l r (Int.toNat p'.fst) p'.snd.fst ∧ p'.snd.snd.fst = (keepGo (needs l r) l (Int.toNat p'.fst)).fst) ∧
  List.length l - Int.toNat p'.fst < e5) ∧
  ((e0_2.kind == (1 : Int)) = false →
  (e6 + List.length [Node.mk e0_2.kind (Option.getD (mget (fun (x y : Int) => x == y) e1 e0_2.a) (0 : Int)) e0_2.b e0_2.from_ e0_2.len e0_2.n e0_2.words]) *
  (72 : Nat) ≤
  (140737488355328 : Nat) ∧
  ∃ (p' : Int × List (Int × Int) × List Node × Unit),
  l = l ∧
  r = r ∧
  List.flatten [r] = List.flatten [r] ∧
  p.fst = p.fst ∧
  e2_1 = e2_1 ∧
  (↑(List.length l) : Int) = (↑(List.length l) : Int) ∧
  e3 = p'.fst ∧
  l = l ∧
  (0 : Int) = (0 : Int) ∧
  longOf l = longOf l ∧
  l = l ∧
  e1 = p'.snd.fst ∧
  [r] = [r] ∧
  p_1.snd.snd.fst ++
  [Node.mk e0_2.kind (Option.getD (mget (fun (x y : Int) => x == y) e1 e0_2.a) (0 : Int)) e0_2.b e0_2.from_ e0_2.len
  e0_2.n e0_2.words] =
  p'.snd.snd.fst ∧
  ((0 : Int) ≤ p'.fst ∧
  p'.fst ≤ (↑(List.length l) : Int) ∧
  cpInv l r (Int.toNat p'.fst) p'.snd.fst ∧ p'.snd.snd.fst = (keepGo (needs l r) l (Int.toNat p'.fst)).fst) ∧
  List.length l - Int.toNat p'.fst < e5)) ∧
  ((e0_2.kind != (0 : Int)) = false →
  ((e0_2.kind == (1 : Int)) = true →
  (e6 + List.length [Node.mk e0_2.kind e0_2.a (Option.getD (mget (fun (x y : Int) => x == y) e1 e0_2.b) (0 : Int)) e0_2.from_ e0_2.len e0_2.n e0_2.words]) *
  (72 : Nat) ≤
  (140737488355328 : Nat) ∧
  ∃ (p' : Int × List (Int × Int) × List Node × Unit),
  l = l ∧
  r = r ∧
  List.flatten [r] = List.flatten [r] ∧
  p.fst = p.fst ∧
  e2_1 = e2_1 ∧
  (↑(List.length l) : Int) = (↑(List.length l) : Int) ∧
  e3 = p'.fst ∧
  l = l ∧
  (0 : Int) = (0 : Int) ∧
  longOf l = longOf l ∧
  l = l ∧
  e1 = p'.snd.fst ∧
  [r] = [r] ∧
  p_1.snd.snd.fst ++
  [Node.mk e0_2.kind e0_2.a (Option.getD (mget (fun (x y : Int) => x == y) e1 e0_2.b) (0 : Int)) e0_2.from_ e0_2.len
  e0_2.n e0_2.words] =
  p'.snd.snd.fst ∧
  ((0 : Int) ≤ p'.fst ∧
  p'.fst ≤ (↑(List.length l) : Int) ∧
  cpInv l r (Int.toNat p'.fst) p'.snd.fst ∧ p'.snd.snd.fst = (keepGo (needs l r) l (Int.toNat p'.fst)).fst) ∧
  List.length l - Int.toNat p'.fst < e5) ∧
  ((e0_2.kind == (1 : Int)) = false →
  (e6 + List.length [Node.mk e0_2.kind e0_2.a e0_2.b e0_2.from_ e0_2.len e0_2.n e0_2.words]) * (72 : Nat) ≤ (140737488355328 : Nat) ∧
  ∃ (p' : Int × List (Int × Int) × List Node × Unit),
  l = l ∧
  r = r ∧
  List.flatten [r] = List.flatten [r] ∧
  p.fst = p.fst ∧
  e2_1 = e2_1 ∧
  (↑(List.length l) : Int) = (↑(List.length l) : Int) ∧
  e3 = p'.fst ∧
  l = l ∧
  (0 : Int) = (0 : Int) ∧
  longOf l = longOf l ∧
  l = l ∧
  e1 = p'.snd.fst ∧
  [r] = [r] ∧
  p_1.snd.snd.fst ++ [Node.mk e0_2.kind e0_2.a e0_2.b e0_2.from_ e0_2.len e0_2.n e0_2.words] = p'.snd.snd.fst ∧
  ((0 : Int) ≤ p'.fst ∧
  p'.fst ≤ (↑(List.length l) : Int) ∧
  cpInv l r (Int.toNat p'.fst) p'.snd.fst ∧ p'.snd.snd.fst = (keepGo (needs l r) l (Int.toNat p'.fst)).fst) ∧
  List.length l - Int.toNat p'.fst < e5)))) ∧
  (e4 = false →
  (∃ (p_2 : Int × List Int × Unit),
  l = l ∧
  r = r ∧
  List.flatten [r] = List.flatten [r] ∧
  p.fst = p.fst ∧
  e2_1 = e2_1 ∧
  (↑(List.length l) : Int) = (↑(List.length l) : Int) ∧
  p_1.fst = p_1.fst ∧
  e4 = e4 ∧
  r = r ∧
  (↑(List.length r) : Int) = (↑(List.length r) : Int) ∧
  (0 : Int) = p_2.fst ∧
  l = l ∧
  (0 : Int) = (0 : Int) ∧
  longOf l = longOf l ∧
  l = l ∧
  p_1.snd.fst = p_1.snd.fst ∧
  [r] = [r] ∧
  p_1.snd.snd.fst = p_1.snd.snd.fst ∧
  [] = p_2.snd.fst ∧
  (0 : Int) ≤ p_2.fst ∧
  p_2.fst ≤ (↑(List.length r) : Int) ∧ p_2.snd.fst = List.map (at_ (keptOf l r).snd) (List.take (Int.toNat p_2.fst) r)) ∧
  ∀ (p_2 : Int × List Int × Unit),
 let e3 : Bool := decide (p_2.fst < (↑(List.length r) : Int));
 let e2 : Bool := e4;
 let e1 : Bool := e2_1;
 let e0_3 : List Int := [Option.getD (mget (fun (x y : Int) => x == y) p_1.snd.fst (List.getD r (Int.toNat p_2.fst) (0 : Int))) (0 : Int)];
  (0 : Int) ≤ p_2.fst ∧ p_2.fst ≤ (↑(List.length r) : Int) ∧ p_2.snd.fst = List.map (at_ (keptOf l r).snd) (List.take (Int.toNat p_2.fst) r) →
  (e3 = true →
  ((0 : Int) ≤ p_2.fst ∧ p_2.fst < (↑(List.length r) : Int)) ∧
  (List.length p_2.snd.fst + List.length e0_3) * (8 : Nat) ≤ (140737488355328 : Nat) ∧
  ∃ (p' : Int × List Int × Unit),
  l = l ∧
  r = r ∧
  List.flatten [r] = List.flatten [r] ∧
  p.fst = p.fst ∧
  e1 = e1 ∧
  (↑(List.length l) : Int) = (↑(List.length l) : Int) ∧
  p_1.fst = p_1.fst ∧
  e2 = e2 ∧
  r = r ∧
  (↑(List.length r) : Int) = (↑(List.length r) : Int) ∧
  IntKind.wrap IntKind.i64 (p_2.fst + (1 : Int)) = p'.fst ∧
  l = l ∧
  (0 : Int) = (0 : Int) ∧
  longOf l = longOf l ∧
  l = l ∧
  p_1.snd.fst = p_1.snd.fst ∧
  [r] = [r] ∧
  p_1.snd.snd.fst = p_1.snd.snd.fst ∧
  p_2.snd.fst ++ e0_3 = p'.snd.fst ∧
  ((0 : Int) ≤ p'.fst ∧
  p'.fst ≤ (↑(List.length r) : Int) ∧
  p'.snd.fst = List.map (at_ (keptOf l r).snd) (List.take (Int.toNat p'.fst) r)) ∧
  List.length r - Int.toNat p'.fst < List.length r - Int.toNat p_2.fst) ∧
  (e3 = false → (p_1.snd.snd.fst, p_2.snd.fst, (0 : Int), ()) = e0))))) := by kernel_rfl

end Go.Rp
end

section
set_option linter.unusedVariables false
set_option linter.unusedSimpArgs false
set_option maxRecDepth 100000
open Go Go.VT
namespace Go.Rp

theorem renum_eq (num : List Int) (x : Node) : ∀ (K : List (Int × Int)), (∀ k ∈ partsL x, lg K k = at_ num k) →
    renum num x = ⟨x.kind, if x.kind = 0 then x.a else lg K x.a, if x.kind = 1 then lg K x.b else x.b, x.from_, x.len, x.n, x.words⟩ := by
  intro K h
  unfold renum
  by_cases h0 : x.kind = 0
  · have : ¬ x.kind = 1 := by omega
    simp [h0, this]
  · have ha : lg K x.a = at_ num x.a := h x.a (by
      unfold partsL needOf
      rw [if_neg h0]
      simp only [partsN, partsOf]
      split <;> simp)
    by_cases h1 : x.kind = 1
    · have hb : lg K x.b = at_ num x.b := h x.b (by
        unfold partsL needOf
        rw [if_neg h0]
        simp [partsN, partsOf, h1])
      simp [h1, ha, hb]
    · simp [h0, h1, ha]

theorem keepP_vc (l : List Node) (r : List Int) (hp : r.length + l.length ≤ 17592186044416) : vcD (EVx invR noIt [(49, cOpen), (51, cNeeded), (59, cOwnS), (65, cUnited)]) cC (lKeep l r) Go.Proofs.Tryd.f26 cKeepP (l, r, ()) := (keepP_eq l r).mpr (by
  intro e0 hs1 hs2
  refine ⟨fun h => ?_, fun h => ?_⟩
  · have h := ne_true.1 h
    simp only [e0, keepAt, if_pos h]
  · have h := ne_false.1 h
    obtain ⟨h1, h2, h3⟩ := asked_ok h
    have ho : okStore l r := ⟨⟨h1, h2⟩, h3⟩
    have he0 : e0 = ((keptOf l r).1, r.map (at_ (keptOf l r).2), 0, ()) := by
      show ((keepAt l r).1, (keepAt l r).2.1, (keepAt l r).2.2, ()) = _
      unfold keepAt
      rw [if_neg (by simp [h])]
    refine ⟨few_valid h, by simp; omega, ⟨(r, [], ()), by trivial, by trivial, by trivial, by simp, by trivial, by trivial, by trivial, by trivial, rfl, by trivial, wk_start l r⟩, ?_⟩
    rintro ⟨todo, K, ⟨⟩⟩ e4 e3 e2 e1 e0' hw
    dsimp -zeta only at hw ⊢
    have hK := wk_len ho hw
    rcases todo with _ | ⟨k, t⟩
    · refine ⟨fun hgt => absurd (of_decide_eq_true hgt) (by simp), fun _ => ?_⟩
      refine ⟨⟨(0, K, [], ()), by trivial, by trivial, by trivial, by trivial, by trivial, rfl, by trivial, by trivial, by trivial, by trivial, rfl, by trivial, by trivial, rfl, Int.le_refl _, by dsimp only; omega, cp_start ho hw, rfl⟩, ?_⟩
      rintro ⟨i, K1, out, ⟨⟩⟩ e7 e6 e5 e4' e3' e2' e1' e0'' ⟨k0, k1, k2, k3⟩
      dsimp -zeta only at k0 k1 k2 k3 ⊢
      obtain ⟨m, rfl⟩ := Int.eq_ofNat_of_zero_le k0
      simp only [Int.toNat_natCast] at k2 k3
      have hol : out.length ≤ m := by rw [k3]; exact keepGo_outLen _ _ _
      have he3' : ∀ h : m < l.length, e3' = ((m + 1 : Nat) : Int) := fun h => by
        show IntKind.i64.wrap ((m : Int) + 1) = _
        rw [w64_id (by omega) (by omega)]; rfl
      refine ⟨fun hlt => ?_, fun hge => ?_⟩
      · have hlt := of_decide_eq_true hlt
        have hm : m < l.length := by dsimp only at hlt; omega
        have hsz : (out.length + 1) * 72 ≤ 140737488355328 := by omega
        refine ⟨⟨k0, by omega⟩, fun hb => ?_, fun hb => ?_⟩
        · have hb : ¬ hasK K1 m := fun hh => by
            have : e7 = !true := by show (!(mget (fun x y => x == y) K1 (m : Int)).isSome) = !true; rw [show (mget (fun x y => x == y) K1 (m : Int)).isSome = true from hh]
            rw [this] at hb; cases hb
          obtain ⟨c1, c2⟩ := cp_skip ho hm k2 hb
          exact ⟨((m + 1 : Nat), K1, out, ()), by trivial, by trivial, by trivial, by trivial, by trivial, by trivial, he3' hm, by trivial, by trivial, by trivial, by trivial, rfl, by trivial, rfl,
            ⟨by omega, by dsimp only; omega, c1, by rw [k3]; exact c2.symm⟩, by show l.length - (m + 1) < l.length - m; omega⟩
        · have hb : hasK K1 m := by
            show (mget (fun x y => x == y) K1 (m : Int)).isSome = true
            have : (!(mget (fun x y => x == y) K1 (m : Int)).isSome) = false := hb
            simpa using this
          obtain ⟨c1, c2, c3⟩ := cp_step ho hm k2 hb
          rw [← k3] at c1 c2 c3
          have hren := renum_eq (keepGo (needs l r) l m).2 (l.getD m node0) _ c3
          have c2n : ∀ N : Node, N = renum (keepGo (needs l r) l m).2 (l.getD m node0) → out ++ [N] = (keepGo (needs l r) l (m + 1)).1 := fun N hN => by rw [c2, hN]
          have hX : e0'' = l.getD m node0 := rfl
          have hL : ∀ k : Int, (mget (fun x y => x == y) (mput (fun x y => x == y) K1 (m : Int) ((out.length : Nat) : Int)) k).getD 0 = lg (mput (fun x y => x == y) K1 (m : Int) ((out.length : Nat) : Int)) k := fun _ => rfl
          rw [← hX] at hren c2n
          have hlt2 : l.length - (m + 1) < l.length - m := by omega
          refine ⟨fun q0 => ⟨fun q1 => ?_, fun q1 => ?_⟩, fun q0 => ⟨fun q1 => ?_, fun q1 => ?_⟩⟩
          · have q0 := ne_true.1 q0
            have q1 := eq_of_beq q1
            exact ⟨hsz, ((m + 1 : Nat), _, _, ()), by trivial, by trivial, by trivial, by trivial, by trivial, by trivial, he3' hm, by trivial, by trivial, by trivial, by trivial, rfl, by trivial, rfl,
              ⟨by omega, by dsimp only; omega, c1, c2n _ (by rw [hren, if_neg q0, if_pos q1]; rfl)⟩, hlt2⟩
          · have q0 := ne_true.1 q0
            have q1 : ¬ e0''.kind = 1 := by simpa using q1
            exact ⟨hsz, ((m + 1 : Nat), _, _, ()), by trivial, by trivial, by trivial, by trivial, by trivial, by trivial, he3' hm, by trivial, by trivial, by trivial, by trivial, rfl, by trivial, rfl,
              ⟨by omega, by dsimp only; omega, c1, c2n _ (by rw [hren, if_neg q0, if_neg q1]; rfl)⟩, hlt2⟩
          · have q0 := ne_false.1 q0
            have q1 := eq_of_beq q1
            omega
          · have q0 := ne_false.1 q0
            have q1 : ¬ e0''.kind = 1 := by simpa using q1
            exact ⟨hsz, ((m + 1 : Nat), _, _, ()), by trivial, by trivial, by trivial, by trivial, by trivial, by trivial, he3' hm, by trivial, by trivial, by trivial, by trivial, rfl, by trivial, rfl,
              ⟨by omega, by dsimp only; omega, c1, c2n _ (by rw [hren, if_pos q0, if_neg q1])⟩, hlt2⟩
      · have hge := of_decide_eq_false hge
        have hm : m = l.length := by dsimp only at hge; omega
        subst hm
        refine ⟨⟨(0, [], ()), by trivial, by trivial, by trivial, by trivial, by trivial, by trivial, by trivial, by trivial, by trivial, by trivial, rfl, by trivial, by trivial, by trivial, by trivial, by trivial, by trivial, by trivial, rfl, Int.le_refl _, by dsimp only; omega, rfl⟩, ?_⟩
        rintro ⟨j, ns, ⟨⟩⟩ f3 f2 f1 f0 ⟨j0, j1, j2⟩
        dsimp only at j0 j1 j2 ⊢
        obtain ⟨q, rfl⟩ := Int.eq_ofNat_of_zero_le j0
        simp only [Int.toNat_natCast] at j2
        have hnl : ns.length ≤ q := by rw [j2]; simp; omega
        refine ⟨fun hlt => ?_, fun hge => ?_⟩
        · have hlt := of_decide_eq_true hlt
          have hq : q < r.length := by omega
          have hv : (mget (fun x y => x == y) K1 (r.getD q 0)).getD 0 = at_ (keptOf l r).2 (r.getD q 0) := cp_end ho k2 _ (by
            rw [List.getD_eq_getElem?_getD, List.getElem?_eq_getElem hq]
            exact List.getElem_mem hq)
          refine ⟨⟨j0, hlt⟩, ?_, ((q + 1 : Nat), _, ()), by trivial, by trivial, by trivial, by trivial, by trivial, by trivial, by trivial, by trivial, by trivial, by trivial, ?_, by trivial, by trivial, by trivial, by trivial, by trivial, by trivial, by trivial, rfl, ⟨by omega, by dsimp only; omega, ?_⟩, by show r.length - (q + 1) < r.length - q; omega⟩
          · show (ns.length + 1) * 8 ≤ _
            have hs := hs2.len
            omega
          · rw [w64_id (by omega) (by omega)]; rfl
          · show ns ++ [(mget (fun x y => x == y) K1 (r.getD q 0)).getD 0] = (r.take (q + 1)).map (at_ (keptOf l r).2)
            rw [j2, hv, take_succ_getD hq 0, List.map_append]
            rfl
        · have hge := of_decide_eq_false hge
          have hq : q = r.length := by omega
          subst hq
          rw [he0, j2, k3, List.take_length]
          rfl
    · refine ⟨fun _ => ⟨⟨Int.le_refl _, by simp⟩, ⟨by omega, by simp; omega⟩, fun hb => ?_, fun hb => ?_⟩, fun hge => absurd (of_decide_eq_false hge) (by simp)⟩
      · exact ⟨(t, K, ()), by trivial, by trivial, by trivial, rfl, by trivial, by trivial, by trivial, by trivial, rfl, by trivial, wk_had hw hb, by show 3 * (l.length - K.length) + t.length < 3 * (l.length - K.length) + (t.length + 1); omega⟩
      · have hb : ¬ hasK K k := fun hh => by rw [show e3 = true from hh] at hb; cases hb
        have hin := reach_in ho (hw.todos k (by simp))
        have hroom := wk_room ho hw hb
        have hm := hw.many
        have hnew := wk_new hw hb
        have hpl := partsL_len (nat_ l k)
        have heq : List.flatten [t, partsN (needOf ⟨e0'.kind, e0'.a, e0'.b, e0'.from_, e0'.len, e0'.n, e0'.words⟩)] = t ++ partsL (nat_ l k) := by simp; rfl
        simp only [List.length_cons] at hm
        refine ⟨hin, by trivial, ?_, (t ++ partsL (nat_ l k), mput (fun x y => x == y) K k 0, ()), by trivial, by trivial, by trivial, heq, by trivial, by trivial, by trivial, by trivial, ?_⟩
        · show (List.flatten [t, partsN (needOf ⟨e0'.kind, e0'.a, e0'.b, e0'.from_, e0'.len, e0'.n, e0'.words⟩)]).length ≤ _
          rw [heq, List.length_append]
          omega
        · refine ⟨rfl, by trivial, hnew, ?_⟩
          show 3 * (l.length - (mput (fun x y => x == y) K k 0).length) + (t ++ partsL (nat_ l k)).length < 3 * (l.length - K.length) + (t.length + 1)
          rw [mput_new hb]
          simp
          omega)
theorem keepP_gives : Gives prog RG 26 cKeepP := givesDX invR_ok noIt_ok (allCons open_gives (allCons needed_gives (allCons ownS_gives (allCons united_gives allNil)))) (fun p => lKeep p.1 p.2.1) (by kernel_rfl) (by kernel_rfl) (by kernel_rfl) fun (l, r, ()) hp => keepP_vc l r hp
end Go.Rp
end

section
set_option linter.unusedVariables false
set_option maxRecDepth 100000
open Go Go.VT
namespace Go.Rp

theorem same_eq (l m : List Node) : vc (EV [(23, cEqual)]) (lSame l m) Go.Proofs.Tryd.f28 cSame (l, m, ()) = (let e0 : Bool := decide (List.length l = List.length m);
  Small RU (Sigma.mk (Ty.slice (56 : Nat) (Ty.user (0 : Nat))) l) →
  Small RU (Sigma.mk (Ty.slice (56 : Nat) (Ty.user (0 : Nat))) m) →
  (∃ (p : Int × Bool × Unit),
  l = l ∧
  m = m ∧
  false = false ∧
  (0 : Int) = p.fst ∧
  ((↑(List.length l) : Int) == (↑(List.length m) : Int)) = p.snd.fst ∧
  l = l ∧ m = m ∧ (0 : Int) ≤ p.fst ∧ p.fst ≤ (↑(List.length l) : Int) ∧ p.snd.fst = (e0 && decide (List.take (Int.toNat p.fst) l = List.take (Int.toNat p.fst) m))) ∧
  ∀ (p : Int × Bool × Unit),
 let e2 : Bool := e0;
 let e1 : Bool := p.snd.fst && decide (p.fst < (↑(List.length l) : Int));
 let e0 : Node := Node.mk (0 : Int) (0 : Int) (0 : Int) (0 : Int) (0 : Int) (0 : Int) [];
  (0 : Int) ≤ p.fst ∧ p.fst ≤ (↑(List.length l) : Int) ∧ p.snd.fst = (e2 && decide (List.take (Int.toNat p.fst) l = List.take (Int.toNat p.fst) m)) →
  (e1 = true →
  ((0 : Int) ≤ p.fst ∧ p.fst < (↑(List.length l) : Int)) ∧
  ((0 : Int) ≤ p.fst ∧ p.fst < (↑(List.length m) : Int)) ∧
  ∃ (p' : Int × Bool × Unit),
  l = l ∧
  m = m ∧
  false = false ∧
  IntKind.wrap IntKind.i64 (p.fst + (1 : Int)) = p'.fst ∧
  ((List.getD l (Int.toNat p.fst) e0).kind == (List.getD m (Int.toNat p.fst) e0).kind && (List.getD l (Int.toNat p.fst) e0).a == (List.getD m (Int.toNat p.fst) e0).a &&
  (List.getD l (Int.toNat p.fst) e0).b == (List.getD m (Int.toNat p.fst) e0).b &&
  (List.getD l (Int.toNat p.fst) e0).from_ == (List.getD m (Int.toNat p.fst) e0).from_ &&
  (List.getD l (Int.toNat p.fst) e0).len == (List.getD m (Int.toNat p.fst) e0).len &&
  (List.getD l (Int.toNat p.fst) e0).n == (List.getD m (Int.toNat p.fst) e0).n &&
  decide ((List.getD l (Int.toNat p.fst) e0).words = (List.getD m (Int.toNat p.fst) e0).words)) =
  p'.snd.fst ∧
  l = l ∧
  m = m ∧
  ((0 : Int) ≤ p'.fst ∧ p'.fst ≤ (↑(List.length l) : Int) ∧ p'.snd.fst = (e2 && decide (List.take (Int.toNat p'.fst) l = List.take (Int.toNat p'.fst) m))) ∧
  List.length l - Int.toNat p'.fst < List.length l - Int.toNat p.fst) ∧
  (e1 = false → (p.snd.fst, ()) = (sameOf l m, ()))) := by kernel_rfl

end Go.Rp
end

section
set_option linter.unusedVariables false
set_option linter.unusedSimpArgs false
set_option maxRecDepth 100000
open Go Go.VT
namespace Go.Rp

theorem store_gives : Gives prog RG 46 cStore := gives allNil (fun _ => noL) (by kernel_rfl) (by kernel_rfl) (by kernel_rfl) fun () _ => store_eq.mpr rfl

theorem roped_vc : vc (EV [(46, cStore), (17, cFlatR), (19, cGatherR), (21, cCostR), (15, cDepthR), (13, cLenR), (24, cEvenP), (26, cKeepP), (37, cOffR), (23, cEqual), (33, cCheck)]) noL Go.Proofs.Tryd.f12 cRoped () := roped_eq.mpr (by decide +kernel)
theorem roped_gives : Gives prog RG 12 cRoped :=
  gives (allCons store_gives (allCons flatP_gives (allCons gatherP_gives (allCons costP_gives (allCons depthP_gives (allCons lenP_gives (allCons evenP_gives (allCons keepP_gives (allCons offP_gives (allCons equal_gives (allCons checkP_gives allNil)))))))))))
    (fun _ => noL) (by kernel_rfl) (by kernel_rfl) (by kernel_rfl) fun () _ => roped_vc

theorem same_vc (l m : List Node) : vc (EV [(23, cEqual)]) (lSame l m) Go.Proofs.Tryd.f28 cSame (l, m, ()) := (same_eq l m).mpr (by
  intro e hs1 hs2
  have hl1 : l.length ≤ most := hs1.len
  have hl2 : m.length ≤ most := hs2.len
  simp only [most] at hl1 hl2
  refine ⟨⟨(0, decide (l.length = m.length), ()), by trivial, by trivial, by trivial, rfl, ?_, by trivial, by trivial, Int.le_refl _, by dsimp only; omega, by simp [e]⟩, ?_⟩
  · dsimp only
    rw [Bool.eq_iff_iff]; simp; omega
  rintro ⟨i, b, ⟨⟩⟩ e2 e1 e0 ⟨h0, h1, h2⟩
  dsimp only at h0 h1 h2
  obtain ⟨k, rfl⟩ := Int.eq_ofNat_of_zero_le h0
  simp only [Int.toNat_natCast] at h2
  have h2' : b = true ↔ (l.length = m.length ∧ l.take k = m.take k) := by rw [h2]; simp [e2, e]
  refine ⟨fun hb => ?_, fun hb => ?_⟩
  · have hb : (b && decide ((k : Int) < l.length)) = true := hb
    simp only [Bool.and_eq_true, decide_eq_true_eq] at hb
    obtain ⟨hb, hlt⟩ := hb
    obtain ⟨hlen, htk⟩ := h2'.1 hb
    have hX : (l.getD k e0 = l.getD k node0) := rfl
    refine ⟨⟨h0, hlt⟩, ⟨h0, by show (k : Int) < _; omega⟩, ((k + 1 : Nat), decide (l.getD k node0 = m.getD k node0), ()), by trivial, by trivial, by trivial, ?_, ?_, by trivial, by trivial, ⟨by omega, by dsimp only; omega, ?_⟩, by show l.length - (k + 1) < l.length - k; omega⟩
    · rw [w64_id (by dsimp only; omega) (by dsimp only; omega)]; rfl
    · have key : ∀ x y : Node, (x.kind == y.kind && x.a == y.a && x.b == y.b && x.from_ == y.from_ && x.len == y.len && x.n == y.n && decide (x.words = y.words)) = decide (x = y) := by
        intro x y
        obtain ⟨x1, x2, x3, x4, x5, x6, xw⟩ := x
        obtain ⟨y1, y2, y3, y4, y5, y6, yw⟩ := y
        rw [Bool.eq_iff_iff]
        simp [and_assoc]
      exact key _ _
    · show decide (l.getD k node0 = m.getD k node0) = (decide (l.length = m.length) && decide (l.take (k + 1) = m.take (k + 1)))
      rw [Bool.eq_iff_iff, take_succ_getD (by omega : k < l.length) node0, take_succ_getD (by omega : k < m.length) node0, htk]
      simp [hlen]
  · have hb : (b && decide ((k : Int) < l.length)) = false := hb
    have : b = decide (l = m) := by
      rw [Bool.eq_iff_iff, h2', decide_eq_true_eq]
      simp only [Bool.and_eq_false_iff, decide_eq_false_iff_not] at hb
      constructor
      · rintro ⟨h3, h4⟩
        have hk : k = l.length := by
          rcases hb with hb | hb
          · exact absurd (h2'.2 ⟨h3, h4⟩) (by simp [hb])
          · omega
        subst hk
        rw [List.take_length] at h4
        rw [h3, List.take_length] at h4
        exact h4
      · rintro rfl
        exact ⟨rfl, rfl⟩
    show (b, ()) = (decide (l = m), ())
    rw [this])
theorem same_gives : Gives prog RG 28 cSame := gives (allCons equal_gives allNil) (fun p => lSame p.1 p.2.1) (by kernel_rfl) (by kernel_rfl) (by kernel_rfl) fun (l, m, ()) _ => same_vc l m

end Go.Rp
end

section
set_option linter.unusedVariables false
set_option linter.unusedSimpArgs false
set_option exponentiation.threshold 100000
set_option maxRecDepth 100000
open Go Go.VT
namespace Go.Rp
theorem storeO_gives : Gives prog RG 46 cStoreO := gives allNil (fun _ => noL) (by kernel_rfl) (by kernel_rfl) (by kernel_rfl) fun () _ => storeO_eq.mpr rfl
theorem known_vcF : vcF (EVk storeL wordsOf catOf partOf offOf lenAt flatAt gatherAt costAt depthAt evenAt keepAt checkOf sameOf) (lKnownV dbl) Go.Proofs.Tryd.f10 cKnown () := (known_eq storeL wordsOf catOf partOf offOf lenAt flatAt gatherAt costAt depthAt evenAt keepAt checkOf sameOf dbl).mpr (by
  refine ⟨⟨((0 : Int), ()), rfl, rfl, rfl, rfl, by decide, by decide⟩, ?_⟩
  intro p
  intros
  rename_i hp
  have hN : Node.mk (0 : Int) (0 : Int) (0 : Int) (0 : Int) (0 : Int) (0 : Int) [] = node0 := rfl
  have hs : List.length storeL = 6 := rfl
  refine ⟨fun hc => ?_, fun hc => ?_⟩
  · have hc' : p.fst < (18 : Int) := of_decide_eq_true hc
    obtain ⟨i, hi⟩ : ∃ i : Nat, p.fst = i := ⟨p.fst.toNat, by omega⟩
    have hi2 : i < 18 := by omega
    have hb : ∀ r, askedOf (storeL ++ [badL.getD (Int.toNat p.fst) node0]) r = 1 := by
      rw [hi]; exact bad_asked hi2
    have hb2 : checkOf (storeL ++ [badL.getD (Int.toNat p.fst) node0]) = 1 := by
      rw [hi]; exact (bad_all i hi2).2
    have hbad := bad_cond hb2 hb
    refine ⟨⟨hp.1, hc'⟩, ?_, ?_, trivial, trivial, trivial, trivial, ?_, fun h => ?_, fun _ => ⟨((p.fst + 1 : Int), ()), ?_, rfl, rfl, rfl, ⟨?_, ?_⟩, ?_⟩⟩
    · exact (by decide : (6 + 1) * 72 ≤ 140737488355328)
    · decide
    · exact (by decide : 1 + (6 + 1) ≤ 17592186044416)
    · exact absurd (h.symm.trans hbad) (by decide)
    · exact wrap_small _ (by omega) (by omega)
    · show (0 : Int) ≤ p.fst + 1; omega
    · show p.fst + 1 ≤ (18 : Int); omega
    · show 18 - Int.toNat (p.fst + 1) < 18 - Int.toNat p.fst; omega
  · have hc' : ¬ p.fst < (18 : Int) := of_decide_eq_false hc
    refine ⟨by decide, trivial, trivial, trivial, trivial, trivial, (by decide : 2 + 6 ≤ 17592186044416), trivial, fun h => ?_, fun _ => ⟨⟨by decide, by decide⟩, ⟨((0 : Int), dbl 0, ()), ?_⟩, ?_⟩⟩
    · exact absurd h (by decide +kernel)
    · and_intros <;> first | rfl | decide
    · intro q
      intros
      rename_i hq
      have hq2 : q.snd.fst = dbl q.fst.toNat := hq.2
      refine ⟨fun hd => ?_, fun hd => ?_⟩
      · have hd' : q.fst < (18 : Int) := of_decide_eq_true hd
        have hl : List.length q.snd.fst = q.fst.toNat + 1 := by rw [hq2, dbl_length]
        refine ⟨?_, ⟨((q.fst + 1 : Int), dbl (q.fst + 1).toNat, ()), ?_⟩⟩
        · show (List.length q.snd.fst + 1) * 72 ≤ 140737488355328
          rw [hl]; omega
        · and_intros
          all_goals first
            | rfl
            | exact wrap_small _ (by omega) (by omega)
            | (show (0 : Int) ≤ q.fst + 1; omega)
            | (show q.fst + 1 ≤ (18 : Int); omega)
            | (show 18 - Int.toNat (q.fst + 1) < 18 - Int.toNat q.fst; omega)
            | skip
          show q.snd.fst ++ [Node.mk 1 q.fst q.fst 0 0 0 []] = dbl (q.fst + 1).toNat
          have h1 : (q.fst + 1).toNat = q.fst.toNat + 1 := by omega
          have h2 : ((q.fst.toNat : Nat) : Int) = q.fst := by omega
          rw [h1, dbl_succ, hq2, h2]
      · have hd' : ¬ q.fst < (18 : Int) := of_decide_eq_false hd
        have h18 : q.fst.toNat = 18 := by omega
        have hD : q.snd.fst = dbl 18 := by rw [hq2, h18]
        refine ⟨trivial, trivial, by decide, trivial, trivial, trivial, ⟨by decide, by decide⟩, trivial, trivial, (by decide : 0 + 6 ≤ 17592186044416), ?_⟩
        simp +zetaDelta only [hD, hN, dbl_len18, dbl_cat18, dbl_gather, dbl_even, rep_words, rep_cat, rep_even, rep_len, rep_check, one_even, store_even3.1, store_even3.2, store_even0, store_keep0, store_same]
        decide)
theorem known_vc : vc (EVk storeL wordsOf catOf partOf offOf lenAt flatAt gatherAt costAt depthAt evenAt keepAt checkOf sameOf) (lKnownV dbl) Go.Proofs.Tryd.f10 cKnown () := Eq.mp (vcF_eq (EVk storeL wordsOf catOf partOf offOf lenAt flatAt gatherAt costAt depthAt evenAt keepAt checkOf sameOf) (lKnownV dbl) Go.Proofs.Tryd.f10 cKnown ()) known_vcF
theorem known_gives : Gives prog RG 10 cKnown :=
  gives (allCons storeO_gives (allCons store_gives (allCons wordsP_gives (allCons catP_gives (allCons partP_gives (allCons offP_gives (allCons lenP_gives (allCons flatP_gives (allCons gatherP_gives (allCons costP_gives (allCons depthP_gives (allCons evenP_gives (allCons keepP_gives (allCons checkP_gives (allCons equal_gives (allCons same_gives (allCons roped_gives allNil))))))))))))))))) (fun _ => lKnownV dbl) (by kernel_rfl) (by kernel_rfl) (by kernel_rfl) fun () _ => known_vc
end Go.Rp
end

section
set_option linter.unusedVariables false
set_option linter.unusedSimpArgs false
namespace Go.Proofs.YtcgjnkdcfpegiaaDoor
open Go.ChangeShapes Go.WideShapes Go.ChangeAt Go.RowKit Go.VT

abbrev argsKnown : List ArgT := []

set_option maxRecDepth 100000 in
theorem known_lifted (os : Os) (started : os.Started) (H : Type) (enc : TypeId × Value → H) :
    ReturnsInHanded {} Tryd.checked os 10 .any (fun w args => (Rows.ropeKnownSpec.pre enc Tryd.prog Tryd.f10 [] false w args ∧ laidMetH Tryd.prog laid1 w) ∧ sizedMet enc Tryd.prog Tryd.f10 (OpenSpec.ofChange Rows.ropeKnownSpec) false w args)
      (Rows.ropeKnownSpec.post enc Tryd.prog Tryd.f10 false true false false) := by
  refine returnsInHanded_of_change_and (C := Tryd.checked) (X := fun w _ => laidMetH Tryd.prog laid1 w) (fun _ _ _ hh h => h.of_heap hh) own started (by kernel_rfl) Tryd.func10
    (ChangeSpec.witness_shaped (enc := enc) (C := Tryd.checked) (os := os) (X := fun w _ => laidMetH Tryd.prog laid1 w) false (World.doorLaid Tryd.prog 600 os) #[] 8 rfl (World.shaped_of_RefB (by kernel_rfl) (by kernel_rfl)) (by kernel_rfl) (by kernel_rfl) (by kernel_rfl) (door_met os _)) ?_
  intro W base args ds gs before hval0 hW _ hsz hL _
  have hval : ∀ (j : Nat) t v, Tryd.f10.params[j]? = some t → args[j]? = some v → Value.okWide Tryd.prog W .any base t v := hval0
  have hW' := hW
  obtain ⟨p, q, hA0, hV, rfl, hfz, hnd⟩ := hW
  have hA : DataW.TrodAll enc Tryd.prog W 0 (fun _ => true) true Tryd.f10.params.toList args.toList ds p := hA0
  have hps : Tryd.f10.params.toList = argsKnown.map (·.1) := by rw [Tryd.params10]; rfl
  obtain ⟨rfl, rfl⟩ : gs = [] ∧ q = [] := by
    cases gs with
    | nil => exact ⟨rfl, hV⟩
    | cons g r => exact absurd hV (by intro h; cases h)
  have hsz' : ∀ n ∈ DataW.weightsEach Tryd.prog Tryd.f10.params.toList ds, n ≤ reachBytes := by
    intro n hn
    have h1 : (DataW.weightsEach Tryd.prog (Tryd.f10.params.toList ++ []) (ds ++ [])).all (· ≤ reachBytes) = true := hsz
    rw [List.append_nil, List.append_nil] at h1
    simpa using List.all_eq_true.1 h1 n hn
  rw [hps] at hA hsz'
  obtain ⟨xs, us, hr, hp⟩ := args_rep read_ok (A := argsKnown) (fun a ha => by
    simp at ha) (fun j t v hj hv => hval j t v (by rw [← hps] at hj; simp at hj) (by simpa using hv)) hA hsz'
  obtain rfl : ds = [] := by
    have hlen := trodAll_len hA
    match ds, hlen with
    | [], _ => rfl
  have hcall := law_calls (pre := none) (A := argsKnown) (w := W) Go.Rp.known_gives (of_laid hL) hr hp trivial
  rw [Array.toArray_toList] at hcall
  refine hcall.mono fun e W' ⟨he, hb⟩ => ⟨_, he, law_post rfl hW' hb (by kernel_rfl) rfl (fun t ht => ?_)⟩
  rw [hps] at ht
  simp at ht

theorem known_holds : Rows.RopeKnownSaid :=
  OpenClaim.holds_of_wide 10 Tryd.f10 rfl rfl rfl rfl rfl rfl rfl ⟨rfl, rfl, rfl, rfl, rfl⟩ rfl rfl rfl rfl rfl (by kernel_rfl) Tryd.func10 (by kernel_rfl)
    (of_decide_eq_true (by kernel_rfl)) (by unfold Func.isWrapper; first | (rw [if_pos (by decide +kernel)]; kernel_rfl) | (rw [if_neg (by decide +kernel)]; exact ⟨rfl, rfl⟩))
    (fun os started H enc _ => known_lifted os started H enc)

theorem known_card : Rows.RopeKnownCardSaid :=
  Claim7.holds_tied_plain_at .later [] [.funcs] true (true, "ed8b6c3168ac870bf0e8db294ef9ff29b1bb19f13067c1a4f5f266a3cad420dc") true
    known_holds (fun _ h => by cases h) (by kernel_rfl) (fun _ h => by cases h) ropeKnown_row_tie rfl ⟨rfl, rfl⟩ (by kernel_rfl) rfl
    (fun f fn hf hfn => by
      obtain rfl : f = 10 := Option.some.inj ((show Tryd.prog.funcNamed "sheafworks/sheafworkslaw06.RopeKnown" = some 10 by kernel_rfl).symm.trans hf) |>.symm
      obtain rfl : fn = Tryd.f10 := (Option.some.inj (Tryd.func10.symm.trans hfn)).symm
      exact ⟨by kernel_rfl, fun j t ht => by
        rw [Tryd.params10] at ht
        simp at ht⟩)
    (by kernel_rfl)
end Go.Proofs.YtcgjnkdcfpegiaaDoor
end
