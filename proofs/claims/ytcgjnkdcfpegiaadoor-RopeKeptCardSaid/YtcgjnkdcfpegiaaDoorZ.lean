/-
RopeKept (the row, tied by its card) holds: ropes that are kept have the same words, and nothing else is kept, for ropes that numbers make; no conditions.
-/
import Derived.Test.YtcgjnkdcfpegiaaDoorV5
import Derived.Test.YtcgjnkdcfpegiaaDoorCards
import Derived.Test.YtcgjnkdcfpegiaaDoorTie
import Derived.SevenTiedAt

section
set_option linter.unusedVariables false
set_option linter.unusedSimpArgs false
set_option maxRecDepth 100000
open Go Go.VT
namespace Go.Rp

structure KeepAs (l : List Node) (m : List Bool) (i : Nat) (out : List Node) (num : List Int) : Prop where
  v : validOf out = true
  n : out.length ≤ i
  len : num.length = i
  txt : ∀ k : Nat, k < i → m.getD k false = true → (0 ≤ at_ num k ∧ at_ num k < out.length) ∧ txt out (at_ num k) = txt l k ∧ out.getD (at_ num k).toNat node0 = renum num (l.getD k node0)
  mono : ∀ j k : Nat, j < k → k < i → m.getD j false = true → m.getD k false = true → at_ num j < at_ num k
  sur : ∀ q : Nat, q < out.length → ∃ k : Nat, k < i ∧ m.getD k false = true ∧ at_ num k = q

theorem parts_mem {x : Node} : (x.kind = 1 → x.a ∈ partsL x ∧ x.b ∈ partsL x) ∧ (x.kind ≠ 0 → x.a ∈ partsL x) := by
  refine ⟨fun h => by rw [parts_cat h]; simp, fun h => ?_⟩
  by_cases h1 : x.kind = 1
  · rw [parts_cat h1]; simp
  · rw [parts_one h h1]; simp
theorem renum_congr {num num' : List Int} {x : Node} (h : ∀ k ∈ partsL x, at_ num k = at_ num' k) : renum num x = renum num' x := by
  unfold renum
  by_cases h0 : x.kind = 0
  · rw [if_pos h0, if_pos h0, if_neg (by omega), if_neg (by omega)]
  · rw [if_neg h0, if_neg h0, h _ (parts_mem.2 h0)]
    by_cases h1 : x.kind = 1
    · rw [if_pos h1, if_pos h1, h _ (parts_mem.1 h1).2]
    · rw [if_neg h1, if_neg h1]
theorem renum_parts (num : List Int) (x : Node) : partsL (renum num x) = (partsL x).map (at_ num) := by
  by_cases h0 : x.kind = 0
  · rw [parts_zero h0, parts_zero (x := renum num x) h0]; rfl
  · by_cases h1 : x.kind = 1
    · rw [parts_cat h1, parts_cat (x := renum num x) h1]
      simp [renum, h1]
    · rw [parts_one h0 h1, parts_one (x := renum num x) h0 h1]
      simp [renum, h0]

theorem keep_as {l : List Node} {m : List Bool} (hl : l.length ≤ 4000) (hv : validOf l = true) (hm : ∀ i : Nat, i < l.length → m.getD i false = true → ∀ k ∈ partsL (l.getD i node0), m.getD k.toNat false = true) :
    ∀ i : Nat, i ≤ l.length → KeepAs l m i (keepGo m l i).1 (keepGo m l i).2
  | 0, _ => ⟨(by decide : validOf [] = true), by simp [keepGo], by simp [keepGo], fun k h => by omega, fun j k h h1 => by omega, fun q h => by simp [keepGo] at h⟩
  | i + 1, hi => by
    have ih := keep_as hl hv hm i (by omega)
    have hat : ∀ k : Nat, k < i → ∀ v : Int, at_ ((keepGo m l i).2 ++ [v]) k = at_ (keepGo m l i).2 k := fun k hk v => at_app (by rw [Int.toNat_natCast, ih.len]; exact hk)
    have hnew : ∀ v : Int, at_ ((keepGo m l i).2 ++ [v]) i = v := fun v => by
      rw [at_nat]
      have h := get_new (l := (keepGo m l i).2) (x := v) (d := (0 : Int))
      rw [ih.len] at h
      exact h
    unfold keepGo
    split
    · rename_i hmi
      obtain ⟨out, hout⟩ : ∃ out, out = (keepGo m l i).1 := ⟨_, rfl⟩
      obtain ⟨num, hnum⟩ : ∃ num, num = (keepGo m l i).2 := ⟨_, rfl⟩
      rw [← hout, ← hnum] at ih
      rw [← hnum] at hat hnew
      rw [← hout, ← hnum]
      dsimp only
      obtain ⟨x, hx⟩ : ∃ x, x = l.getD i node0 := ⟨_, rfl⟩
      rw [← hx]
      have hpm := hm i (by omega) hmi
      rw [← hx] at hpm
      have hpo := partsL_ok hv (a := (i : Int)) (by omega) (by omega)
      have hxi : nat_ l (i : Int) = x := by rw [hx]; rfl
      rw [hxi] at hpo
      -- the parts, by their new numbers
      have hpt : ∀ k ∈ partsL x, (0 ≤ at_ num k ∧ at_ num k < out.length) ∧ txt out (at_ num k) = txt l k := fun k hk => by
        have h1 := hpo k hk
        obtain ⟨k', rfl⟩ := Int.eq_ofNat_of_zero_le h1.1
        have h2 := hpm _ hk
        rw [Int.toNat_natCast] at h2
        have := ih.txt k' (by omega) h2
        exact ⟨this.1, this.2.1⟩
      have hlen : ∀ k ∈ partsL x, at_ (lensOf out) (at_ num k) = at_ (lensOf l) k := fun k hk => by
        have h1 := hpo k hk
        obtain ⟨h2, h3⟩ := hpt k hk
        rw [← txt_len ih.v h2.1 h2.2, h3, txt_len hv h1.1 (by omega)]
      have hxv := valid_lens hv i (by omega)
      have hxf := valid_fields hv i (by omega)
      rw [← hx] at hxv hxf
      obtain ⟨hb, c0, c1, c2, c3, ck⟩ := hxv
      have ho : openOk out (longOf out) := ⟨by have := ih.n; omega, ih.v, rfl⟩
      have hbd : ∀ k ∈ partsL x, 0 ≤ at_ (lensOf out) (at_ num k) ∧ at_ (lensOf out) (at_ num k) ≤ 1048576 := fun k hk => lens_bound ih.v (hpt k hk).1.1 (hpt k hk).1.2
      have hA : x.kind ≠ 0 → x.a ∈ partsL x := parts_mem.2
      have hB : x.kind = 1 → x.b ∈ partsL x := fun h => (parts_mem.1 h).2
      have hlx : lenOf (lensOf out) (renum num x) = at_ (lensOf l) i := by
        have hk : (renum num x).kind = x.kind := rfl
        simp only [lenOf, hk]
        have ra : x.kind ≠ 0 → (renum num x).a = at_ num x.a := fun h => if_neg h
        have rb : x.kind = 1 → (renum num x).b = at_ num x.b := fun h => if_pos h
        have rw' : (renum num x).words = x.words := rfl
        have rl : (renum num x).len = x.len := rfl
        rcases ck with k | k | k | k
        · rw [if_pos k, rw', c0 k]; have := hb.2; rw [c0 k] at this; omega
        · have ha := hA (by omega)
          have hb' := hB k
          have b1 := hbd _ ha
          have b2 := hbd _ hb'
          rw [if_neg (by omega), if_pos k, ra (by omega), rb k, show w64 _ = _ from w64_id (by omega) (by omega), hlen _ ha, hlen _ hb', c1 k]
          have := hb.2; rw [c1 k] at this; omega
        · rw [if_neg (by omega), if_neg (by omega), if_pos k, rl, (c2 k).1]
          have := hb.2; rw [(c2 k).1] at this; omega
        · have ha := hA (by omega)
          rw [if_neg (by omega), if_neg (by omega), if_neg (by omega), ra (by omega), hlen _ ha, c3 k]
          have := hb.2; rw [c3 k] at this; omega
      have hfx : fieldsOf (renum num x) out.length = true := by
        have ra0 : x.kind = 0 → (renum num x).a = x.a := fun h => if_pos h
        have ra : x.kind ≠ 0 → 0 ≤ (renum num x).a ∧ (renum num x).a < out.length := fun h => by
          have : (renum num x).a = at_ num x.a := if_neg h
          rw [this]; exact (hpt _ (hA h)).1
        have rb0 : x.kind ≠ 1 → (renum num x).b = x.b := fun h => if_neg h
        have rb : x.kind = 1 → 0 ≤ (renum num x).b ∧ (renum num x).b < out.length := fun h => by
          have : (renum num x).b = at_ num x.b := if_pos h
          rw [this]; exact (hpt _ (hB h)).1
        have hre : renum num x = ⟨x.kind, (renum num x).a, (renum num x).b, x.from_, x.len, x.n, x.words⟩ := rfl
        rw [hre]
        generalize (renum num x).a = A at ra0 ra
        generalize (renum num x).b = B at rb0 rb
        unfold fieldsOf at hxf ⊢
        dsimp only
        rcases ck with k | k | k | k
        · rw [if_pos k] at hxf ⊢
          rw [ra0 k, rb0 (by omega)]
          exact hxf
        · have ha := ra (by omega)
          have hb' := rb k
          rw [if_neg (by omega), if_pos k] at hxf ⊢
          simp only [Bool.and_eq_true, lies_iff] at hxf ⊢
          exact ⟨⟨by omega, by omega⟩, hxf.2⟩
        · have ha := ra (by omega)
          rw [if_neg (by omega), if_neg (by omega), if_pos k] at hxf ⊢
          simp only [Bool.and_eq_true, lies_iff] at hxf ⊢
          rw [rb0 (by omega)]
          exact ⟨by omega, hxf.2⟩
        · have ha := ra (by omega)
          rw [if_neg (by omega), if_neg (by omega), if_neg (by omega), if_pos k] at hxf ⊢
          simp only [Bool.and_eq_true, lies_iff] at hxf ⊢
          rw [rb0 (by omega)]
          exact ⟨⟨by omega, hxf.1.2⟩, hxf.2⟩
      have hpx : (renum num x).kind = 2 → isPartOf (at_ (lensOf out) (renum num x).a) (renum num x).from_ (renum num x).len = true := fun k => by
        have k : x.kind = 2 := k
        have ha := hA (by omega)
        obtain ⟨d1, d2, d3, d4⟩ := c2 k
        have hb1 := hbd _ ha
        simp only [renum]
        rw [if_neg (by omega), hlen _ ha]
        rw [hlen _ ha] at hb1
        unfold isPartOf
        rw [Bool.and_eq_true, lies_iff, lies_iff, show w64 _ = _ from w64_id (by omega) (by omega)]
        omega
      have hon := ih.n
      have hv' := (open_snoc ho (by omega) hfx hlx (by omega) hpx).2.1
      have hown : txt (out ++ [renum num x]) out.length = txt l i := by
        have hcs := txt_cases hv (a := (i : Int)) (by omega) (by omega) (x := x) hx
        have hka : (renum num x).kind = x.kind := rfl
        rcases txt_new ih.v hv' with ⟨k, t⟩ | ⟨k, t⟩ | ⟨k, t⟩ | ⟨k, t⟩ <;> rw [hka] at k <;> rcases hcs with ⟨k', t'⟩ | ⟨k', _, _, t'⟩ | ⟨k', _, _, _, _, t'⟩ | ⟨k', _, _, t'⟩ <;> try omega
        · rw [t, t']; rfl
        · rw [t, t']
          simp only [renum]
          rw [if_neg (by omega), if_pos k, (hpt _ (hA (by omega))).2, (hpt _ (hB k)).2]
        · rw [t, t']
          simp only [renum]
          rw [if_neg (by omega), (hpt _ (hA (by omega))).2]
        · rw [t, t']
          simp only [renum]
          rw [if_neg (by omega), (hpt _ (hA (by omega))).2]
      have hrn : ∀ (k : Nat) (v : Int), k ≤ i → renum (num ++ [v]) (l.getD k node0) = renum num (l.getD k node0) := fun k v hk => renum_congr fun q hq => by
        have := partsL_ok hv (a := (k : Int)) (by omega) (by omega) q hq
        obtain ⟨q', rfl⟩ := Int.eq_ofNat_of_zero_le this.1
        exact hat q' (by omega) v
      refine ⟨hv', by rw [List.length_append, List.length_singleton]; omega, by rw [List.length_append, List.length_singleton, ih.len], fun k hk hmk => ?_, fun j k hjk hk hmj hmk => ?_, fun q hq => ?_⟩
      · rw [hrn k _ (by omega)]
        by_cases hki : k < i
        · obtain ⟨h1, h2, h3⟩ := ih.txt k hki hmk
          rw [hat k hki]
          refine ⟨⟨h1.1, by rw [List.length_append, List.length_singleton]; omega⟩, by rw [txt_app ih.v hv' _ _ rfl h1.1 h1.2, h2], ?_⟩
          rw [get_left (by omega), h3]
        · have : k = i := by omega
          subst this
          rw [hnew]
          exact ⟨⟨by omega, by rw [List.length_append, List.length_singleton]; omega⟩, hown, by rw [Int.toNat_natCast, get_new, hx]⟩
      · by_cases hki : k < i
        · rw [hat k hki, hat j (by omega)]; exact ih.mono j k hjk hki hmj hmk
        · have : k = i := by omega
          subst this
          rw [hnew, hat j (by omega)]
          exact (ih.txt j (by omega) hmj).1.2
      · rw [List.length_append, List.length_singleton] at hq
        by_cases hqo : q < out.length
        · obtain ⟨k, h1, h2, h3⟩ := ih.sur q hqo
          exact ⟨k, by omega, h2, by rw [hat k h1]; exact h3⟩
        · have : q = out.length := by omega
          subst this
          exact ⟨i, by omega, hmi, hnew _⟩
    · rename_i hmi
      have hne : ∀ k : Nat, k < i + 1 → m.getD k false = true → k < i := fun k hk hmk => by
        by_cases h : k = i
        · subst h; exact absurd hmk hmi
        · omega
      have hrn : ∀ (k : Nat) (v : Int), k < i → renum ((keepGo m l i).2 ++ [v]) (l.getD k node0) = renum (keepGo m l i).2 (l.getD k node0) := fun k v hk => renum_congr fun q hq => by
        have := partsL_ok hv (a := (k : Int)) (by omega) (by omega) q hq
        obtain ⟨q', rfl⟩ := Int.eq_ofNat_of_zero_le this.1
        exact hat q' (by omega) v
      refine ⟨ih.v, by have := ih.n; dsimp only; omega, by dsimp only; rw [List.length_append, List.length_singleton, ih.len], fun k hk hmk => ?_, fun j k hjk hk hmj hmk => ?_, fun q hq => ?_⟩
      · dsimp only
        rw [hat k (hne k hk hmk), hrn k _ (hne k hk hmk)]
        exact ih.txt k (hne k hk hmk) hmk
      · dsimp only
        rw [hat k (hne k hk hmk), hat j (by have := hne k hk hmk; omega)]
        exact ih.mono j k hjk (hne k hk hmk) hmj hmk
      · obtain ⟨k, h1, h2, h3⟩ := ih.sur q hq
        exact ⟨k, by omega, h2, by dsimp only; rw [hat k h1]; exact h3⟩

theorem keep_all {s : List Node} (hl : s.length ≤ 4000) (hv : validOf s = true) : keepAt s ((List.range s.length).map fun n : Nat => (n : Int)) = (s, (List.range s.length).map fun n : Nat => (n : Int), 0) := by
  obtain ⟨r, hr⟩ : ∃ r, r = (List.range s.length).map fun n : Nat => (n : Int) := ⟨_, rfl⟩
  rw [← hr]
  have hin : ∀ x ∈ r, 0 ≤ x ∧ x < (s.length : Int) := fun x hx => by
    rw [hr] at hx
    obtain ⟨n, hn, rfl⟩ := List.mem_map.1 hx
    have := List.mem_range.1 hn
    omega
  have ho : okStore s r := ⟨⟨hl, hv⟩, hin⟩
  have hask : askedOf s r = 0 := by
    have hc : checkOf s = 0 := by rw [checkOf, if_neg (by omega), if_pos hv]
    rw [askedOf, if_neg (by rw [hc]; simp), if_pos]
    rw [List.all_eq_true]
    intro a ha
    rw [lies_iff]
    have := hin a ha
    omega
  have hall : ∀ i : Nat, i < s.length → (needs s r).getD i false = true := fun i hi => (needs_iff ho hi).2 (.root _ (by rw [hr]; exact List.mem_map.2 ⟨i, List.mem_range.2 hi, rfl⟩))
  have hgo : ∀ i : Nat, i ≤ s.length → keepGo (needs s r) s i = (s.take i, (List.range i).map fun n : Nat => (n : Int)) := by
    intro i
    induction i with
    | zero => intro _; simp [keepGo]
    | succ i ih =>
      intro hi
      have ih := ih (by omega)
      have hat : ∀ k : Int, 0 ≤ k → k < i → at_ ((List.range i).map fun n : Nat => (n : Int)) k = k := fun k k0 k1 => by
        unfold at_
        rw [List.getD_eq_getElem?_getD, List.getElem?_map, List.getElem?_range (by omega)]
        simp
        omega
      unfold keepGo
      rw [if_pos (hall i (by omega)), ih]
      dsimp only
      have hpo := partsL_ok hv (a := (i : Int)) (by omega) (by omega)
      have hnx : nat_ s (i : Int) = s.getD i node0 := rfl
      rw [hnx] at hpo
      have hre : renum ((List.range i).map fun n : Nat => (n : Int)) (s.getD i node0) = s.getD i node0 := by
        generalize s.getD i node0 = x at hpo
        unfold renum
        obtain ⟨kind, a, b, f, le, n, w⟩ := x
        dsimp only
        by_cases h0 : kind = 0
        · rw [if_pos h0, if_neg (by omega)]
        · have h2 := hpo _ (parts_mem.2 h0)
          rw [if_neg h0, hat _ h2.1 h2.2]
          by_cases h1 : kind = 1
          · have h3 := hpo _ (parts_mem.1 h1).2
            rw [if_pos h1, hat _ h3.1 h3.2]
          · rw [if_neg h1]
      rw [hre, take_succ_getD (by omega) node0, List.range_succ, List.map_append, List.length_take, Nat.min_eq_left (by omega)]
      rfl
  have hk : keptOf s r = (s, r) := by
    unfold keptOf
    rw [hgo _ (Nat.le_refl _), List.take_length, hr]
  rw [keepAt, if_neg (by rw [hask]; simp), hk]
  dsimp only
  have : r.map (at_ r) = r := by
    have h : r.map (at_ r) = r.map id := List.map_congr_left fun x hx => by
      have h1 := hin x hx
      rw [hr]
      unfold at_
      rw [List.getD_eq_getElem?_getD, List.getElem?_map, List.getElem?_range (by omega)]
      simp
      omega
    rw [h, List.map_id]
  rw [this]

structure KeptIs (l : List Node) (r : List Int) (s : List Node) (now : List Int) : Prop where
  e : keepAt l r = (s, now, 0)
  v : validOf s = true
  n : s.length ≤ l.length
  len : now.length = r.length
  t : ∀ i : Nat, i < r.length → (0 ≤ now.getD i 0 ∧ now.getD i 0 < s.length) ∧ txt s (now.getD i 0) = txt l (r.getD i 0)
  need : ∀ q : Nat, q < s.length → (q : Int) ∈ now ∨ ∃ j : Nat, q < j ∧ j < s.length ∧ (q : Int) ∈ partsL (s.getD j node0)

theorem kept_law {l : List Node} {r : List Int} (hl : l.length ≤ 4000) (hv : validOf l = true) (hr : ∀ a ∈ r, 0 ≤ a ∧ a < l.length) : ∃ s now, KeptIs l r s now := by
  have ho : okStore l r := ⟨⟨hl, hv⟩, hr⟩
  have hask : askedOf l r = 0 := by
    have hc : checkOf l = 0 := by rw [checkOf, if_neg (by omega), if_pos hv]
    rw [askedOf, if_neg (by rw [hc]; simp), if_pos]
    rw [List.all_eq_true]
    intro a ha
    rw [lies_iff]
    have := hr a ha
    omega
  have hcl : ∀ i : Nat, i < l.length → (needs l r).getD i false = true → ∀ k ∈ partsL (l.getD i node0), (needs l r).getD k.toNat false = true := fun i hi hn k hk => by
    have h1 := (needs_iff ho hi).1 hn
    have h2 : Reach l r k := .step _ _ h1 hk
    have h3 := reach_in ho h2
    refine (needs_iff ho (by omega)).2 ?_
    rw [show ((k.toNat : Nat) : Int) = k by omega]
    exact h2
  have ka := keep_as hl hv hcl l.length (Nat.le_refl _)
  have hroot : ∀ a ∈ r, (needs l r).getD a.toNat false = true := fun a ha => by
    have := hr a ha
    refine (needs_iff ho (by omega)).2 ?_
    rw [show ((a.toNat : Nat) : Int) = a by omega]
    exact .root _ ha
  have hget : ∀ i : Nat, i < r.length → r.getD i 0 ∈ r := fun i hi => by
    rw [List.getD_eq_getElem?_getD, List.getElem?_eq_getElem hi]
    exact List.getElem_mem _
  refine ⟨(keepGo (needs l r) l l.length).1, r.map (at_ (keepGo (needs l r) l l.length).2), ?_, ka.v, ka.n, by rw [List.length_map], fun i hi => ?_, fun q hq => ?_⟩
  · rw [keepAt, if_neg (by rw [hask]; simp)]; rfl
  · have h1 : (r.map (at_ (keepGo (needs l r) l l.length).2)).getD i 0 = at_ (keepGo (needs l r) l l.length).2 (r.getD i 0) := by
      rw [List.getD_eq_getElem?_getD, List.getElem?_map, List.getElem?_eq_getElem hi]
      simp [List.getD, List.getElem?_eq_getElem hi]
    have h2 := hr _ (hget i hi)
    have h3 := hroot _ (hget i hi)
    rw [h1]
    generalize r.getD i 0 = a at h2 h3
    obtain ⟨a, rfl⟩ := Int.eq_ofNat_of_zero_le h2.1
    rw [Int.toNat_natCast] at h3
    obtain ⟨k1, k2, _⟩ := ka.txt a (by omega) h3
    exact ⟨k1, k2⟩
  · obtain ⟨k, k1, k2, k3⟩ := ka.sur q hq
    have hre := (needs_iff ho k1).1 k2
    rw [← k3]
    obtain ⟨kk, hkk⟩ : ∃ kk, kk = (k : Int) := ⟨_, rfl⟩
    rw [← hkk] at hre
    cases hre with
    | root _ ha =>
      left
      exact List.mem_map.2 ⟨(k : Int), by rw [← hkk]; exact ha, rfl⟩
    | step a _ ha hk =>
      right
      rw [hkk] at hk
      have h1 := reach_in ho ha
      obtain ⟨a, rfl⟩ := Int.eq_ofNat_of_zero_le h1.1
      have h2 := partsL_ok hv h1.1 h1.2 _ hk
      have h3 := (needs_iff ho (j := a) (by omega)).2 ha
      obtain ⟨t1, t2, t3⟩ := ka.txt a (by omega) h3
      have h4 := ka.mono k a (by omega) (by omega) k2 h3
      refine ⟨(at_ (keepGo (needs l r) l l.length).2 a).toNat, by omega, by omega, ?_⟩
      rw [t3, renum_parts]
      exact List.mem_map.2 ⟨(k : Int), hk, rfl⟩

theorem put_mem : ∀ (l : List Int) (n x : Int), x ∈ putOf l n ↔ x ∈ l ∨ x = n
  | [], n, x => by simp [putOf]
  | y :: r, n, x => by
    unfold putOf
    split
    · split
      · simp only [List.mem_cons]
        constructor
        · rintro (h | h | h)
          · exact .inr h
          · exact .inl (.inl h)
          · exact .inl (.inr h)
        · rintro ((h | h) | h)
          · exact .inr (.inl h)
          · exact .inr (.inr h)
          · exact .inl h
      · have : n = y := by omega
        simp only [List.mem_cons]
        constructor
        · exact fun h => .inl h
        · rintro (h | h)
          · exact h
          · exact .inl (h.trans this)
    · simp only [List.mem_cons, put_mem r n x, or_assoc]
theorem put_length (l : List Int) (n : Int) : (putOf l n).length ≤ l.length + 1 := by
  induction l with
  | nil => simp [putOf]
  | cons y r ih =>
    unfold putOf
    split
    · split <;> simp
    · simp; omega
theorem where_mem {l : List Int} {n : Int} (h : n ∈ l) : 0 ≤ whereOf l n := by
  unfold whereOf
  split
  · omega
  · rename_i hn
    rw [List.findIdx?_eq_none_iff] at hn
    have := hn n h
    simp at this
theorem chosen_succ (n : Int) (k : Nat) : chosen n (k + 1) = chosen n k ++ (if hasBit (turnOf n 1048576) k then [(k : Int)] else []) := by
  unfold chosen
  rw [List.range_succ, List.filter_append, List.map_append]
  congr 1
  by_cases h : hasBit (turnOf n 1048576) k = true <;> simp [h]
theorem chosen_in {n : Int} {k : Nat} {x : Int} (h : x ∈ chosen n k) : 0 ≤ x ∧ x < k := by
  obtain ⟨a, ha, rfl⟩ := List.mem_map.1 h
  have := List.mem_range.1 (List.mem_filter.1 ha).1
  omega
theorem chosen_len (n : Int) (k : Nat) : (chosen n k).length ≤ k := by
  unfold chosen
  rw [List.length_map]
  have := List.length_filter_le (fun a : Nat => hasBit (turnOf n 1048576) a) (List.range k)
  simpa using this
end Go.Rp
end

section
set_option linter.unusedVariables false
set_option maxRecDepth 100000
open Go Go.VT
namespace Go.Rp

theorem hasB_eq (s n : Int) : vc (EV [(41, cLies)]) noL Go.Proofs.Tryd.f42 cHasB (s, n, ()) = ((lies n (0 : Int) (61 : Int) = true → Int.NonNeg (n - (0 : Int))) ∧
  (lies n (0 : Int) (61 : Int) &&
  IntKind.wrap IntKind.i64 (↑(BitVec.toNat (BitVec.ofInt (64 : Nat) (Int.fdiv s ((2 : Int) ^ min (Int.toNat n) (64 : Nat))) &&& BitVec.ofInt (64 : Nat) (1 : Int))) : Int) == (1 : Int),
  ()) =
  (hasBit s n, ())) := by kernel_rfl

theorem putN_eq (l : List Int) (n : Int) : vc (EV []) (lPutN l n) Go.Proofs.Tryd.f43 cPutN (l, n, ()) = (let e0 : Int := (↑(List.length l) : Int);
  Small RU (Sigma.mk (Ty.slice (3 : Nat) (Ty.int IntKind.i64)) l) →
  (∃ (p : Int × Bool × List Int × Unit),
  l = l ∧
  n = n ∧
  (0 : Int) = p.fst ∧
  false = p.snd.fst ∧
  [] = p.snd.snd.fst ∧
  ((0 : Int) ≤ p.fst ∧ p.fst ≤ e0) ∧
  (p.snd.fst = true → p.snd.snd.fst ++ List.drop (Int.toNat p.fst) l = putOf l n) ∧
  (p.snd.fst = false → p.snd.snd.fst = List.take (Int.toNat p.fst) l ∧ putOf l n = List.take (Int.toNat p.fst) l ++ putOf (List.drop (Int.toNat p.fst) l) n) ∧
  (↑(List.length p.snd.snd.fst) : Int) ≤ p.fst + (1 : Int)) ∧
  ∀ (p : Int × Bool × List Int × Unit),
 let e0_1 : Int := p.fst;
 let e1 : List Int := p.snd.snd.fst;
 let e2 : Bool := !p.snd.fst && decide (List.getD l (Int.toNat e0_1) (0 : Int) ≥ n);
 let e3 : Bool := p.snd.fst;
 let e4 : Bool := decide (e0_1 < e0);
 let e5 : List Int := [List.getD l (Int.toNat e0_1) (0 : Int)];
 let e6 : List Int := e1 ++ [n];
 let e7 : Int := IntKind.wrap IntKind.i64 (e0_1 + (1 : Int));
 let e8 : Bool := decide (List.getD l (Int.toNat e0_1) (0 : Int) > n);
 let e9 : Nat := (List.length e1 + List.length [n]) * (8 : Nat);
 let e10 : List Int := e1 ++ e5;
 let e11 : Nat := (List.length e1 + List.length e5) * (8 : Nat);
 let e12 : Nat := List.length l - Int.toNat e0_1;
  ((0 : Int) ≤ e0_1 ∧ e0_1 ≤ e0) ∧
  (e3 = true → e1 ++ List.drop (Int.toNat e0_1) l = putOf l n) ∧
  (e3 = false → e1 = List.take (Int.toNat e0_1) l ∧ putOf l n = List.take (Int.toNat e0_1) l ++ putOf (List.drop (Int.toNat e0_1) l) n) ∧ (↑(List.length e1) : Int) ≤ e0_1 + (1 : Int) →
  (e4 = true →
  ((!e3) = true → (0 : Int) ≤ e0_1 ∧ e0_1 < e0) ∧
  (e2 = true →
  ((0 : Int) ≤ e0_1 ∧ e0_1 < e0) ∧
  (e8 = true →
  e9 ≤ (140737488355328 : Nat) ∧
  ((0 : Int) ≤ e0_1 ∧ e0_1 < e0) ∧
  (List.length e6 + List.length e5) * (8 : Nat) ≤ (140737488355328 : Nat) ∧
  ∃ (p' : Int × Bool × List Int × Unit),
  l = l ∧
  n = n ∧
  e7 = p'.fst ∧
  true = p'.snd.fst ∧
  e6 ++ e5 = p'.snd.snd.fst ∧
  (((0 : Int) ≤ p'.fst ∧ p'.fst ≤ e0) ∧
  (p'.snd.fst = true → p'.snd.snd.fst ++ List.drop (Int.toNat p'.fst) l = putOf l n) ∧
  (p'.snd.fst = false →
  p'.snd.snd.fst = List.take (Int.toNat p'.fst) l ∧ putOf l n = List.take (Int.toNat p'.fst) l ++ putOf (List.drop (Int.toNat p'.fst) l) n) ∧
  (↑(List.length p'.snd.snd.fst) : Int) ≤ p'.fst + (1 : Int)) ∧
  List.length l - Int.toNat p'.fst < e12) ∧
  (e8 = false →
  ((0 : Int) ≤ e0_1 ∧ e0_1 < e0) ∧
  e11 ≤ (140737488355328 : Nat) ∧
  ∃ (p' : Int × Bool × List Int × Unit),
  l = l ∧
  n = n ∧
  e7 = p'.fst ∧
  true = p'.snd.fst ∧
  e10 = p'.snd.snd.fst ∧
  (((0 : Int) ≤ p'.fst ∧ p'.fst ≤ e0) ∧
  (p'.snd.fst = true → p'.snd.snd.fst ++ List.drop (Int.toNat p'.fst) l = putOf l n) ∧
  (p'.snd.fst = false →
  p'.snd.snd.fst = List.take (Int.toNat p'.fst) l ∧ putOf l n = List.take (Int.toNat p'.fst) l ++ putOf (List.drop (Int.toNat p'.fst) l) n) ∧
  (↑(List.length p'.snd.snd.fst) : Int) ≤ p'.fst + (1 : Int)) ∧
  List.length l - Int.toNat p'.fst < e12)) ∧
  (e2 = false →
  ((0 : Int) ≤ e0_1 ∧ e0_1 < e0) ∧
  e11 ≤ (140737488355328 : Nat) ∧
  ∃ (p' : Int × Bool × List Int × Unit),
  l = l ∧
  n = n ∧
  e7 = p'.fst ∧
  e3 = p'.snd.fst ∧
  e10 = p'.snd.snd.fst ∧
  (((0 : Int) ≤ p'.fst ∧ p'.fst ≤ e0) ∧
  (p'.snd.fst = true → p'.snd.snd.fst ++ List.drop (Int.toNat p'.fst) l = putOf l n) ∧
  (p'.snd.fst = false →
  p'.snd.snd.fst = List.take (Int.toNat p'.fst) l ∧ putOf l n = List.take (Int.toNat p'.fst) l ++ putOf (List.drop (Int.toNat p'.fst) l) n) ∧
  (↑(List.length p'.snd.snd.fst) : Int) ≤ p'.fst + (1 : Int)) ∧
  List.length l - Int.toNat p'.fst < e12)) ∧
  (e4 = false → ((!e3) = true → e9 ≤ (140737488355328 : Nat) ∧ (e6, ()) = (putOf l n, ())) ∧ ((!e3) = false → (e1, ()) = (putOf l n, ())))) := by kernel_rfl

theorem kept_eq (l : List Int) (n : Int) : vc (EV [(39, cBuilt), (40, cTurn), (42, cHasB), (26, cKeepP), (33, cCheck), (43, cPutN), (17, cFlatR), (23, cEqual), (44, cWhere), (45, cUptoF), (28, cSame), (12, cRoped)]) (lKept l n) Go.Proofs.Tryd.f9 cKept (l, n, ()) = (let e0 : Node := Node.mk (0 : Int) (0 : Int) (0 : Int) (0 : Int) (0 : Int) (0 : Int) [];
 let e1 : List Node := (keepAt (bltOf l).l (chosen n (List.length (bltOf l).W))).fst;
 let e2 : Int := (↑(List.length (bltOf l).W) : Int);
 let e3 : List Int := (keepAt (bltOf l).l (chosen n (List.length (bltOf l).W))).snd.fst;
 let e4 : Int := (-1 : Int);
 let e5 : Int := (↑(List.length e1) : Int);
 let e6 : Nat := List.length (bltOf l).W;
  Small RU (Sigma.mk (Ty.slice (3 : Nat) (Ty.int IntKind.i64)) l) →
  ((!true) = true → (false, ()) = (true, ())) ∧
  ((!true) = false →
  (∃ (p : Int × List Int × Unit),
  l = l ∧
  n = n ∧
  false = false ∧
  true = true ∧
  (!true) = !true ∧
  (0 : Int) = p.fst ∧ (bltOf l).l = (bltOf l).l ∧ (bltOf l).W = (bltOf l).W ∧ [] = p.snd.fst ∧ ((0 : Int) ≤ p.fst ∧ p.fst ≤ e2) ∧ p.snd.fst = chosen n (Int.toNat p.fst)) ∧
  ∀ (p : Int × List Int × Unit),
 let e0_1 : Bool := decide (p.fst < e2);
 let e1_1 : List Node × List Int × Int := keepAt (bltOf l).l p.snd.fst;
 let e2_1 : Bool := e1_1.snd.snd != (0 : Int) || (↑(List.length e1_1.snd.fst) : Int) != (↑(List.length p.snd.fst) : Int) || checkOf e1_1.fst != (0 : Int);
 let e3_1 : List Int := e1_1.snd.fst;
 let e4_1 : List Node := e1_1.fst;
 let e5_1 : List Int := p.snd.fst;
 let e6_1 : Int := p.fst;
 let e7 : Int := e1_1.snd.snd;
 let e8 : Int := (↑(List.length e3_1) : Int);
 let e9 : List Int := List.map (fun (n : Nat) => (↑n : Int)) (List.range (Int.toNat (↑(List.length e4_1) : Int)));
 let e10 : Int := (↑(List.length e4_1) : Int);
 let e11 : Bool := (keepAt e4_1 e9).snd.snd == (0 : Int) && sameOf (keepAt e4_1 e9).fst e4_1;
 let e12 : Int := IntKind.wrap IntKind.i64 (e6_1 + (1 : Int));
  ((0 : Int) ≤ e6_1 ∧ e6_1 ≤ e2) ∧ e5_1 = chosen n (Int.toNat e6_1) →
  (e0_1 = true →
  (1048576 : Int) ≤ (4611686018427387904 : Int) ∧
  (hasBit (turnOf n (1048576 : Int)) e6_1 = true →
  (List.length e5_1 + List.length [e6_1]) * (8 : Nat) ≤ (140737488355328 : Nat) ∧
  ∃ (p' : Int × List Int × Unit),
  l = l ∧
  n = n ∧
  false = false ∧
  true = true ∧
  (!true) = !true ∧
  e12 = p'.fst ∧
  (bltOf l).l = (bltOf l).l ∧
  (bltOf l).W = (bltOf l).W ∧
  e5_1 ++ [e6_1] = p'.snd.fst ∧ (((0 : Int) ≤ p'.fst ∧ p'.fst ≤ e2) ∧ p'.snd.fst = chosen n (Int.toNat p'.fst)) ∧ e6 - Int.toNat p'.fst < e6 - Int.toNat e6_1) ∧
  (hasBit (turnOf n (1048576 : Int)) e6_1 = false →
  ∃ (p' : Int × List Int × Unit),
  l = l ∧
  n = n ∧
  false = false ∧
  true = true ∧
  (!true) = !true ∧
  e12 = p'.fst ∧
  (bltOf l).l = (bltOf l).l ∧
  (bltOf l).W = (bltOf l).W ∧
  e5_1 = p'.snd.fst ∧ (((0 : Int) ≤ p'.fst ∧ p'.fst ≤ e2) ∧ p'.snd.fst = chosen n (Int.toNat p'.fst)) ∧ e6 - Int.toNat p'.fst < e6 - Int.toNat e6_1)) ∧
  (e0_1 = false →
  List.length e5_1 + List.length (bltOf l).l ≤ (17592186044416 : Nat) ∧
  (e2_1 = true → (false, ()) = (true, ())) ∧
  (e2_1 = false →
  (∃ (p : Int × List Int × Unit),
  l = l ∧
  n = n ∧
  true = true ∧
  (!true) = !true ∧
  e6_1 = e6_1 ∧
  e0_1 = e0_1 ∧
  e3_1 = e3_1 ∧
  e7 = e7 ∧
  e2_1 = e2_1 ∧
  (0 : Int) = p.fst ∧
  [] = p.snd.fst ∧
  (bltOf l).l = (bltOf l).l ∧
  (bltOf l).W = (bltOf l).W ∧
  e5_1 = e5_1 ∧
  e4_1 = e4_1 ∧
  ([] : List Int) = [] ∧
  ((0 : Int) ≤ p.fst ∧ p.fst ≤ e8) ∧
  (∀ (x : Int), x ∈ p.snd.fst ↔ x ∈ List.take (Int.toNat p.fst) e3_1) ∧ (↑(List.length p.snd.fst) : Int) ≤ p.fst) ∧
  ∀ (p : Int × List Int × Unit),
 let e0_2 : Bool := decide (p.fst < e8);
 let e1_2 : Bool :=
  !decide ((flatAt e4_1 (List.getD e3_1 (Int.toNat p.fst) (0 : Int))).fst = List.getD (bltOf l).W (Int.toNat (List.getD e5_1 (Int.toNat p.fst) (0 : Int))) []);
 let e2_2 : Int := p.fst;
 let e3_2 : Bool := (flatAt e4_1 (List.getD e3_1 (Int.toNat e2_2) (0 : Int))).snd != (0 : Int);
 let e4_2 : List Int := p.snd.fst;
  ((0 : Int) ≤ e2_2 ∧ e2_2 ≤ e8) ∧ (∀ (x : Int), x ∈ e4_2 ↔ x ∈ List.take (Int.toNat e2_2) e3_1) ∧ (↑(List.length e4_2) : Int) ≤ e2_2 →
  (e0_2 = true →
  ((0 : Int) ≤ e2_2 ∧ e2_2 < e8) ∧
  List.length e4_2 ≤ (4000000 : Nat) ∧
  ((0 : Int) ≤ e2_2 ∧ e2_2 < e8) ∧
  (e3_2 = false → (0 : Int) ≤ e2_2 ∧ e2_2 < (↑(List.length e5_1) : Int)) ∧
  (e3_2 = false → (0 : Int) ≤ List.getD e5_1 (Int.toNat e2_2) (0 : Int) ∧ List.getD e5_1 (Int.toNat e2_2) (0 : Int) < e2) ∧
  ((e3_2 || e1_2) = true → (false, ()) = (true, ())) ∧
  ((e3_2 || e1_2) = false →
  ∃ (p' : Int × List Int × Unit),
  l = l ∧
  n = n ∧
  true = true ∧
  (!true) = !true ∧
  e6_1 = e6_1 ∧
  e0_1 = e0_1 ∧
  e3_1 = e3_1 ∧
  e7 = e7 ∧
  e2_1 = e2_1 ∧
  IntKind.wrap IntKind.i64 (e2_2 + (1 : Int)) = p'.fst ∧
  putOf e4_2 (List.getD e3_1 (Int.toNat e2_2) (0 : Int)) = p'.snd.fst ∧
  (bltOf l).l = (bltOf l).l ∧
  (bltOf l).W = (bltOf l).W ∧
  e5_1 = e5_1 ∧
  e4_1 = e4_1 ∧
  ([] : List Int) = [] ∧
  (((0 : Int) ≤ p'.fst ∧ p'.fst ≤ e8) ∧
  (∀ (x : Int), x ∈ p'.snd.fst ↔ x ∈ List.take (Int.toNat p'.fst) e3_1) ∧
  (↑(List.length p'.snd.fst) : Int) ≤ p'.fst) ∧
  List.length e3_1 - Int.toNat p'.fst < List.length e3_1 - Int.toNat e2_2)) ∧
  (e0_2 = false →
  (∃ (p : Int × List Int × Unit),
  l = l ∧
  n = n ∧
  true = true ∧
  (!true) = !true ∧
  e6_1 = e6_1 ∧
  e0_1 = e0_1 ∧
  e3_1 = e3_1 ∧
  e7 = e7 ∧
  e2_1 = e2_1 ∧
  e2_2 = e2_2 ∧
  e0_2 = e0_2 ∧
  IntKind.wrap IntKind.i64 (e10 - (1 : Int)) = p.fst ∧
  e4_2 = p.snd.fst ∧
  (bltOf l).l = (bltOf l).l ∧
  (bltOf l).W = (bltOf l).W ∧
  e5_1 = e5_1 ∧
  e4_1 = e4_1 ∧
  ([] : List Int) = [] ∧
  (e4 ≤ p.fst ∧ p.fst < e5) ∧
  (∀ (x : Int),
  x ∈ p.snd.fst ↔ x ∈ e3 ∨ ∃ (j : Nat), p.fst < (↑j : Int) ∧ j < List.length e1 ∧ x ∈ partsL (List.getD e1 j node0)) ∧
  (↑(List.length p.snd.fst) : Int) + (2 : Int) * (p.fst + (1 : Int)) ≤ (1000 : Int)) ∧
  ∀ (p : Int × List Int × Unit),
 let e0_3 : Int := p.fst;
 let e1_3 : Bool := decide (whereOf p.snd.fst e0_3 < (0 : Int));
 let e2 : List Int := p.snd.fst;
 let e3_3 : Int := e0_3 + (1 : Int);
 let e4_3 : Node := List.getD e4_1 (Int.toNat e0_3) e0;
 let e5_2 : Int := IntKind.wrap IntKind.i64 (e0_3 - (1 : Int));
 let e6 : Bool := e4_3.kind == (1 : Int);
 let e7_1 : Bool := decide (e0_3 ≥ (0 : Int));
  (e4 ≤ e0_3 ∧ e0_3 < e5) ∧
  (∀ (x : Int), x ∈ e2 ↔ x ∈ e3 ∨ ∃ (j : Nat), e0_3 < (↑j : Int) ∧ j < List.length e1 ∧ x ∈ partsL (List.getD e1 j node0)) ∧
  (↑(List.length e2) : Int) + (2 : Int) * e3_3 ≤ (1000 : Int) →
  (e7_1 = true →
  (e1_3 = true → (false, ()) = (true, ())) ∧
  (e1_3 = false →
  ((0 : Int) ≤ e0_3 ∧ e0_3 < e10) ∧
  ((e4_3.kind != (0 : Int)) = true →
  ((0 : Int) ≤ e0_3 ∧ e0_3 < e10) ∧
  List.length e2 ≤ (4000000 : Nat) ∧
  ((0 : Int) ≤ e0_3 ∧ e0_3 < e10) ∧
  (e6 = true →
  ((0 : Int) ≤ e0_3 ∧ e0_3 < e10) ∧
  List.length (putOf e2 e4_3.a) ≤ (4000000 : Nat) ∧
  ∃ (p' : Int × List Int × Unit),
  l = l ∧
  n = n ∧
  true = true ∧
  (!true) = !true ∧
  e6_1 = e6_1 ∧
  e0_1 = e0_1 ∧
  e3_1 = e3_1 ∧
  e7 = e7 ∧
  e2_1 = e2_1 ∧
  e2_2 = e2_2 ∧
  e0_2 = e0_2 ∧
  e5_2 = p'.fst ∧
  putOf (putOf e2 e4_3.a) e4_3.b = p'.snd.fst ∧
  (bltOf l).l = (bltOf l).l ∧
  (bltOf l).W = (bltOf l).W ∧
  e5_1 = e5_1 ∧
  e4_1 = e4_1 ∧
  ([] : List Int) = [] ∧
  ((e4 ≤ p'.fst ∧ p'.fst < e5) ∧
  (∀ (x : Int),
  x ∈ p'.snd.fst ↔
  x ∈ e3 ∨
  ∃ (j : Nat),
  p'.fst < (↑j : Int) ∧ j < List.length e1 ∧ x ∈ partsL (List.getD e1 j node0)) ∧
  (↑(List.length p'.snd.fst) : Int) + (2 : Int) * (p'.fst + (1 : Int)) ≤ (1000 : Int)) ∧
  Int.toNat (p'.fst + (1 : Int)) < Int.toNat e3_3) ∧
  (e6 = false →
  ∃ (p' : Int × List Int × Unit),
  l = l ∧
  n = n ∧
  true = true ∧
  (!true) = !true ∧
  e6_1 = e6_1 ∧
  e0_1 = e0_1 ∧
  e3_1 = e3_1 ∧
  e7 = e7 ∧
  e2_1 = e2_1 ∧
  e2_2 = e2_2 ∧
  e0_2 = e0_2 ∧
  e5_2 = p'.fst ∧
  putOf e2 e4_3.a = p'.snd.fst ∧
  (bltOf l).l = (bltOf l).l ∧
  (bltOf l).W = (bltOf l).W ∧
  e5_1 = e5_1 ∧
  e4_1 = e4_1 ∧
  ([] : List Int) = [] ∧
  ((e4 ≤ p'.fst ∧ p'.fst < e5) ∧
  (∀ (x : Int),
  x ∈ p'.snd.fst ↔
  x ∈ e3 ∨
  ∃ (j : Nat),
  p'.fst < (↑j : Int) ∧ j < List.length e1 ∧ x ∈ partsL (List.getD e1 j node0)) ∧
  (↑(List.length p'.snd.fst) : Int) + (2 : Int) * (p'.fst + (1 : Int)) ≤ (1000 : Int)) ∧
  Int.toNat (p'.fst + (1 : Int)) < Int.toNat e3_3)) ∧
  ((e4_3.kind != (0 : Int)) = false →
  ((0 : Int) ≤ e0_3 ∧ e0_3 < e10) ∧
  (e6 = true →
  ((0 : Int) ≤ e0_3 ∧ e0_3 < e10) ∧
  List.length e2 ≤ (4000000 : Nat) ∧
  ∃ (p' : Int × List Int × Unit),
  l = l ∧
  n = n ∧
  true = true ∧
  (!true) = !true ∧
  e6_1 = e6_1 ∧
  e0_1 = e0_1 ∧
  e3_1 = e3_1 ∧
  e7 = e7 ∧
  e2_1 = e2_1 ∧
  e2_2 = e2_2 ∧
  e0_2 = e0_2 ∧
  e5_2 = p'.fst ∧
  putOf e2 e4_3.b = p'.snd.fst ∧
  (bltOf l).l = (bltOf l).l ∧
  (bltOf l).W = (bltOf l).W ∧
  e5_1 = e5_1 ∧
  e4_1 = e4_1 ∧
  ([] : List Int) = [] ∧
  ((e4 ≤ p'.fst ∧ p'.fst < e5) ∧
  (∀ (x : Int),
  x ∈ p'.snd.fst ↔
  x ∈ e3 ∨
  ∃ (j : Nat),
  p'.fst < (↑j : Int) ∧ j < List.length e1 ∧ x ∈ partsL (List.getD e1 j node0)) ∧
  (↑(List.length p'.snd.fst) : Int) + (2 : Int) * (p'.fst + (1 : Int)) ≤ (1000 : Int)) ∧
  Int.toNat (p'.fst + (1 : Int)) < Int.toNat e3_3) ∧
  (e6 = false →
  ∃ (p' : Int × List Int × Unit),
  l = l ∧
  n = n ∧
  true = true ∧
  (!true) = !true ∧
  e6_1 = e6_1 ∧
  e0_1 = e0_1 ∧
  e3_1 = e3_1 ∧
  e7 = e7 ∧
  e2_1 = e2_1 ∧
  e2_2 = e2_2 ∧
  e0_2 = e0_2 ∧
  e5_2 = p'.fst ∧
  e2 = p'.snd.fst ∧
  (bltOf l).l = (bltOf l).l ∧
  (bltOf l).W = (bltOf l).W ∧
  e5_1 = e5_1 ∧
  e4_1 = e4_1 ∧
  ([] : List Int) = [] ∧
  ((e4 ≤ p'.fst ∧ p'.fst < e5) ∧
  (∀ (x : Int),
  x ∈ p'.snd.fst ↔
  x ∈ e3 ∨
  ∃ (j : Nat), p'.fst < (↑j : Int) ∧ j < List.length e1 ∧ x ∈ partsL (List.getD e1 j node0)) ∧
  (↑(List.length p'.snd.fst) : Int) + (2 : Int) * (p'.fst + (1 : Int)) ≤ (1000 : Int)) ∧
  Int.toNat (p'.fst + (1 : Int)) < Int.toNat e3_3)))) ∧
  (e7_1 = false →
  e10 ≤ (17592186044416 : Int) ∧
  List.length e9 + List.length e4_1 ≤ (17592186044416 : Nat) ∧
  (e11 = true → Int.NonNeg ((17592186044416 : Int) - e10)) ∧ (e11 && decide ((keepAt e4_1 e9).snd.fst = e9) && true, ()) = (true, ()))))))) := by kernel_rfl

end Go.Rp
end

section
set_option linter.unusedVariables false
set_option linter.unusedSimpArgs false
set_option maxRecDepth 100000
open Go Go.VT
namespace Go.Rp

theorem hasB_gives : Gives prog RG 42 cHasB := gives (allCons lies_gives allNil) (fun _ => noL) (by kernel_rfl) (by kernel_rfl) (by kernel_rfl) fun (s, n, ()) _ => (hasB_eq s n).mpr ⟨fun h => by
  have : 0 ≤ n := by rw [lies_iff] at h; exact h.1
  exact this, rfl⟩

theorem drop_getD {l : List Int} {m : Nat} (h : m < l.length) : l.drop m = l.getD m 0 :: l.drop (m + 1) := by
  rw [List.drop_eq_getElem_cons h]
  simp [List.getD, h]

theorem putN_vc (l : List Int) (n : Int) (hp : l.length ≤ 4000000) : vc (EV []) (lPutN l n) Go.Proofs.Tryd.f43 cPutN (l, n, ()) := (putN_eq l n).mpr (by
  intro e0 _
  refine ⟨⟨(0, false, [], ()), ?_⟩, ?_⟩
  · and_intros <;> first | exact rfl | (intro h; cases h; done) | (intro _; exact ⟨rfl, rfl⟩) | (dsimp only; omega) | (dsimp only; simp)
  rintro ⟨i, d, out, ⟨⟩⟩
  dsimp only
  rintro ⟨⟨i0, i1⟩, h1, h2, h3⟩
  obtain ⟨m, rfl⟩ := Int.eq_ofNat_of_zero_le i0
  rw [Int.toNat_natCast] at h1 h2 ⊢
  have he0 : e0 = (l.length : Int) := rfl
  clear_value e0
  subst he0
  have hw : IntKind.i64.wrap ((m : Int) + 1) = ((m + 1 : Nat) : Int) := by rw [w64_id (by omega) (by omega)]; rfl
  rw [hw]
  refine ⟨fun hlt => ?_, fun hge => ?_⟩
  · have hm : m < l.length := by have := of_decide_eq_true hlt; omega
    have hd := drop_getD hm
    have ht := take_succ_getD hm 0
    obtain ⟨x, hx⟩ : ∃ x, x = l.getD m 0 := ⟨_, rfl⟩
    rw [← hx] at hd ht ⊢
    have hR : (0 : Int) ≤ (m : Int) ∧ (m : Int) < (l.length : Int) := ⟨by omega, by omega⟩
    have nxt : ∀ (d' : Bool) (out' : List Int), (d' = true → out' ++ l.drop (m + 1) = putOf l n) → (d' = false → out' = l.take (m + 1) ∧ putOf l n = l.take (m + 1) ++ putOf (l.drop (m + 1)) n) → (out'.length : Int) ≤ m + 2 →
        ∃ p' : Int × Bool × List Int × Unit, l = l ∧ n = n ∧ ((m + 1 : Nat) : Int) = p'.fst ∧ d' = p'.snd.fst ∧ out' = p'.snd.snd.fst ∧
          (((0 : Int) ≤ p'.fst ∧ p'.fst ≤ (l.length : Int)) ∧ (p'.snd.fst = true → p'.snd.snd.fst ++ l.drop p'.fst.toNat = putOf l n) ∧
            (p'.snd.fst = false → p'.snd.snd.fst = l.take p'.fst.toNat ∧ putOf l n = l.take p'.fst.toNat ++ putOf (l.drop p'.fst.toNat) n) ∧ (p'.snd.snd.fst.length : Int) ≤ p'.fst + 1) ∧ l.length - p'.fst.toNat < l.length - m := by
      intro d' out' q1 q2 q3
      refine ⟨(((m + 1 : Nat) : Int), d', out', ()), ?_⟩
      and_intros <;> first | exact rfl | exact q1 | exact q2 | (dsimp only; omega)
    refine ⟨fun _ => hR, fun hb => ?_, fun hb => ?_⟩
    · simp only [Bool.and_eq_true, Bool.not_eq_true', decide_eq_true_eq] at hb
      obtain ⟨hdf, hxn⟩ := hb
      obtain ⟨q1, q2⟩ := h2 hdf
      have hol : out.length = m := by rw [q1, List.length_take]; omega
      refine ⟨hR, fun hc => ?_, fun hc => ?_⟩
      · have hc := of_decide_eq_true hc
        refine ⟨by simp; omega, hR, by simp; omega, nxt true _ (fun _ => ?_) (fun h => (by cases h)) (by simp; omega)⟩
        rw [q2, hd, putOf, if_pos hxn, if_pos (by omega), q1]
        simp
      · have hc := of_decide_eq_false hc
        refine ⟨hR, by simp; omega, nxt true _ (fun _ => ?_) (fun h => (by cases h)) (by simp; omega)⟩
        rw [q2, hd, putOf, if_pos hxn, if_neg (by omega), q1]
        simp
    · refine ⟨hR, by simp; omega, nxt d _ (fun h => ?_) (fun h => ?_) (by simp; omega)⟩
      · rw [← h1 h, hd]; simp
      · obtain ⟨q1, q2⟩ := h2 h
        have hxn : ¬ x ≥ n := by
          rw [h] at hb
          simpa using hb
        refine ⟨by rw [ht, q1], ?_⟩
        rw [q2, hd, putOf, if_neg hxn, ht]
        simp
  · have hm : m = l.length := by have := of_decide_eq_false hge; omega
    refine ⟨fun h => ?_, fun h => ?_⟩
    · obtain ⟨q1, q2⟩ := h2 (by simpa using h)
      refine ⟨by simp; omega, ?_⟩
      rw [q2, hm, List.drop_length, q1, hm]; rfl
    · have := h1 (by simpa using h)
      rw [hm, List.drop_length, List.append_nil] at this
      rw [this])
theorem putN_gives : Gives prog RG 43 cPutN := gives allNil (fun p => lPutN p.1 p.2.1) (by kernel_rfl) (by kernel_rfl) (by kernel_rfl) fun (l, n, ()) hp => putN_vc l n hp
end Go.Rp
end

section
set_option linter.unusedVariables false
set_option linter.unusedSimpArgs false
set_option maxRecDepth 100000
open Go Go.VT
namespace Go.Rp

theorem kept_vc (l : List Int) (n : Int) : vc (EV [(39, cBuilt), (40, cTurn), (42, cHasB), (26, cKeepP), (33, cCheck), (43, cPutN), (17, cFlatR), (23, cEqual), (44, cWhere), (45, cUptoF), (28, cSame), (12, cRoped)]) (lKept l n) Go.Proofs.Tryd.f9 cKept (l, n, ()) := (kept_eq l n).mpr (by
  obtain ⟨g, hn⟩ := bltOf_good l
  have hlw := g.lw
  have hv := g.v
  obtain ⟨r, hr⟩ : ∃ r, r = chosen n (bltOf l).W.length := ⟨_, rfl⟩
  have hrin : ∀ a ∈ r, 0 ≤ a ∧ a < ((bltOf l).l.length : Int) := fun a ha => by
    rw [hr] at ha
    have := chosen_in ha
    omega
  have hrl : r.length ≤ 20 := by have := chosen_len n (bltOf l).W.length; rw [← hr] at this; omega
  obtain ⟨s, now, h⟩ := kept_law (show (bltOf l).l.length ≤ 4000 by omega) hv hrin
  have hsn := h.n
  have hsv := h.v
  have hnl := h.len
  intro e0 e1 e2 e3 e4 e5 e6 _
  have he1 : e1 = s := by show (keepAt _ (chosen n (bltOf l).W.length)).fst = s; rw [← hr, h.e]
  have he3 : e3 = now := by show (keepAt _ (chosen n (bltOf l).W.length)).snd.fst = now; rw [← hr, h.e]
  have he5 : e5 = (s.length : Int) := by show ((e1.length : Nat) : Int) = _; rw [he1]
  have he2 : e2 = ((bltOf l).l.length : Int) := by show ((bltOf l).W.length : Int) = _; rw [hlw]
  have he6 : e6 = (bltOf l).l.length := hlw
  have he0 : e0 = node0 := rfl
  have he4 : e4 = -1 := rfl
  clear_value e0 e1 e2 e3 e4 e5 e6
  subst he0 he4
  refine ⟨fun h => (by cases h), fun _ => ⟨⟨(0, [], ()), ?_⟩, ?_⟩⟩
  · and_intros <;> first | exact rfl | (dsimp only; omega)
  rintro ⟨a, ropes, ⟨⟩⟩
  dsimp only
  rintro ⟨⟨a0, a1⟩, rfl⟩
  obtain ⟨m, rfl⟩ := Int.eq_ofNat_of_zero_le a0
  rw [Int.toNat_natCast]
  have hcl := chosen_len n m
  have hw : IntKind.i64.wrap ((m : Int) + 1) = ((m + 1 : Nat) : Int) := by rw [w64_id (by omega) (by omega)]; rfl
  refine ⟨fun hlt => ?_, fun hge => ?_⟩
  · have hlt := of_decide_eq_true hlt
    have hcs := chosen_succ n m
    refine ⟨by decide, fun hb => ?_, fun hb => ?_⟩
    · rw [if_pos hb] at hcs
      refine ⟨by simp; omega, ((m + 1 : Nat), chosen n (m + 1), ()), ?_⟩
      and_intros <;> first | exact rfl | exact hw | exact hcs.symm | (dsimp only; omega)
    · rw [if_neg (by rw [hb]; simp), List.append_nil] at hcs
      refine ⟨((m + 1 : Nat), chosen n (m + 1), ()), ?_⟩
      and_intros <;> first | exact rfl | exact hw | exact hcs.symm | (dsimp only; omega)
  have hge := of_decide_eq_false hge
  have hm : m = (bltOf l).W.length := by omega
  have hmr : chosen n m = r := by rw [hm, hr]
  rw [hmr]
  have hK := h.e
  generalize keepAt (bltOf l).l r = K at hK ⊢
  subst hK
  dsimp only
  have hck : checkOf s = 0 := by rw [checkOf, if_neg (by omega), if_pos hsv]
  have hb2 : ((0 : Int) != 0 || ((now.length : Nat) : Int) != ((r.length : Nat) : Int) || checkOf s != 0) = false := by rw [hck, hnl]; simp
  refine ⟨by omega, fun h => (by rw [hb2] at h; cases h), fun _ => ⟨⟨(0, [], ()), ?_⟩, ?_⟩⟩
  · and_intros <;> first | exact rfl | (dsimp only; omega) | exact Int.le_refl _ | (intro x; simp)
  rintro ⟨i, need, ⟨⟩⟩
  dsimp only
  rintro ⟨⟨i0, i1⟩, hne, hnn⟩
  obtain ⟨i, rfl⟩ := Int.eq_ofNat_of_zero_le i0
  rw [Int.toNat_natCast] at hne ⊢
  refine ⟨fun hlt => ?_, fun hge => ?_⟩
  · have hlt := of_decide_eq_true hlt
    have hi : i < r.length := by omega
    obtain ⟨⟨k0, k1⟩, kt⟩ := h.t i hi
    have hri := hrin (r.getD i 0) (by rw [List.getD_eq_getElem?_getD, List.getElem?_eq_getElem hi]; exact List.getElem_mem _)
    have hfl : flatAt s (now.getD i 0) = ((bltOf l).W.getD (r.getD i 0).toNat [], 0) := by
      rw [flat_txt (by omega) hsv k0 k1, kt, g.txt hri.1 hri.2]
    have hR : (0 : Int) ≤ (i : Int) ∧ (i : Int) < ((now.length : Nat) : Int) := ⟨by omega, by omega⟩
    have hb3 : ((flatAt s (now.getD i 0)).snd != 0 || !decide ((flatAt s (now.getD i 0)).fst = (bltOf l).W.getD (r.getD i 0).toNat [])) = false := by
      rw [hfl]; simp
    refine ⟨hR, by omega, hR, fun _ => ⟨by omega, by omega⟩, fun _ => ⟨hri.1, by omega⟩, fun h => (by rw [hb3] at h; cases h), fun _ => ⟨((i + 1 : Nat), putOf need (now.getD i 0), ()), ?_⟩⟩
    have hwi : IntKind.i64.wrap ((i : Int) + 1) = ((i + 1 : Nat) : Int) := by rw [w64_id (by omega) (by omega)]; rfl
    have hpl := put_length need (now.getD i 0)
    have hmem : ∀ x : Int, x ∈ putOf need (now.getD i 0) ↔ x ∈ now.take (i + 1) := fun x => by
      rw [put_mem, hne, take_succ_getD (by omega) 0, List.mem_append, List.mem_singleton]
    and_intros <;> first | exact rfl | exact hwi | exact hmem | (dsimp only; omega)
  have hge := of_decide_eq_false hge
  have hin : i = now.length := by omega
  rw [hin, List.take_length] at hne
  have hws : IntKind.i64.wrap (((s.length : Nat) : Int) - 1) = (s.length : Int) - 1 := w64_id (by omega) (by omega)
  rw [hws]
  refine ⟨⟨((s.length : Int) - 1, need, ()), ?_⟩, ?_⟩
  · and_intros <;> first | exact rfl | (dsimp only; omega) | skip
    intro x
    dsimp only
    rw [hne, he3]
    constructor
    · exact fun h => .inl h
    · rintro (h | ⟨j, h1, h2, _⟩)
      · exact h
      · rw [he1] at h2; omega
  rintro ⟨q, nd, ⟨⟩⟩
  dsimp only
  rw [he1, he3, he5]
  rintro ⟨⟨q0, q1⟩, hq, hql⟩
  refine ⟨fun hlt => ?_, fun hge => ?_⟩
  · have hlt := of_decide_eq_true hlt
    obtain ⟨q, rfl⟩ := Int.eq_ofNat_of_zero_le hlt
    rw [Int.toNat_natCast]
    have hR : (0 : Int) ≤ (q : Int) ∧ (q : Int) < ((s.length : Nat) : Int) := ⟨by omega, q1⟩
    have hin : (q : Int) ∈ nd := (hq _).2 (by
      rcases h.need q (by omega) with h1 | ⟨j, h1, h2, h3⟩
      · exact .inl h1
      · exact .inr ⟨j, by omega, h2, h3⟩)
    have hwh := where_mem hin
    have hwq : IntKind.i64.wrap ((q : Int) - 1) = (q : Int) - 1 := w64_id (by omega) (by omega)
    rw [hwq]
    obtain ⟨x, hx⟩ : ∃ x, x = s.getD q node0 := ⟨_, rfl⟩
    rw [← hx]
    have nxt : ∀ nd' : List Int, (∀ y, y ∈ nd' ↔ y ∈ nd ∨ y ∈ partsL x) → nd'.length ≤ nd.length + 2 → ∃ p' : Int × List Int × Unit, l = l ∧ n = n ∧ true = true ∧ (!true) = !true ∧ (m : Int) = (m : Int) ∧ decide ((m : Int) < e2) = decide ((m : Int) < e2) ∧ now = now ∧ (0 : Int) = 0 ∧
        ((0 : Int) != 0 || ((now.length : Nat) : Int) != ((r.length : Nat) : Int) || checkOf s != 0) = ((0 : Int) != 0 || ((now.length : Nat) : Int) != ((r.length : Nat) : Int) || checkOf s != 0) ∧ (i : Int) = (i : Int) ∧ decide ((i : Int) < ((now.length : Nat) : Int)) = decide ((i : Int) < ((now.length : Nat) : Int)) ∧ (q : Int) - 1 = p'.fst ∧ nd' = p'.snd.fst ∧ (bltOf l).l = (bltOf l).l ∧ (bltOf l).W = (bltOf l).W ∧ r = r ∧ s = s ∧ ([] : List Int) = [] ∧
        (((-1 : Int) ≤ p'.fst ∧ p'.fst < ((s.length : Nat) : Int)) ∧ (∀ y : Int, y ∈ p'.snd.fst ↔ y ∈ now ∨ ∃ j : Nat, p'.fst < (j : Int) ∧ j < s.length ∧ y ∈ partsL (s.getD j node0)) ∧ ((p'.snd.fst.length : Nat) : Int) + 2 * (p'.fst + 1) ≤ 1000) ∧ (p'.fst + 1).toNat < ((q : Int) + 1).toNat := by
      intro nd' h1 h2
      refine ⟨((q : Int) - 1, nd', ()), ?_⟩
      and_intros <;> first | exact rfl | (dsimp only; omega) | skip
      intro y
      dsimp only
      rw [h1, hq]
      constructor
      · rintro ((h3 | ⟨j, h3, h4, h5⟩) | h3)
        · exact .inl h3
        · exact .inr ⟨j, by omega, h4, h5⟩
        · exact .inr ⟨q, by omega, by omega, by rw [← hx]; exact h3⟩
      · rintro (h3 | ⟨j, h3, h4, h5⟩)
        · exact .inl (.inl h3)
        · by_cases hj : j = q
          · subst hj; exact .inr (by rw [hx]; exact h5)
          · exact .inl (.inr ⟨j, by omega, h4, h5⟩)
    have l1 := put_length nd x.a
    have l2 := put_length (putOf nd x.a) x.b
    have l3 := put_length nd x.b
    refine ⟨fun h => absurd (of_decide_eq_true h) (by omega), fun _ => ⟨hR, fun hk => ?_, fun hk => ?_⟩⟩
    · have hk : x.kind ≠ 0 := by simpa using hk
      refine ⟨hR, by omega, hR, fun h1 => ?_, fun h1 => ?_⟩
      · have h1 : x.kind = 1 := eq_of_beq h1
        exact ⟨hR, by omega, nxt _ (fun y => by rw [put_mem, put_mem, parts_cat h1]; simp [or_assoc]) (by omega)⟩
      · have h1 : x.kind ≠ 1 := by simpa using h1
        exact nxt _ (fun y => by rw [put_mem, parts_one hk h1]; simp) (by omega)
    · have hk : x.kind = 0 := by simpa using hk
      refine ⟨hR, fun h1 => ?_, fun h1 => ?_⟩
      · have h1 : x.kind = 1 := eq_of_beq h1
        omega
      · exact nxt _ (fun y => by rw [parts_zero hk]; simp) (by omega)
  · have hka := keep_all (show s.length ≤ 4000 by omega) hsv
    rw [Int.toNat_natCast, hka]
    refine ⟨by omega, by simp; omega, fun _ => ?_, ?_⟩
    · show ((s.length : Nat) : Int) ≤ 17592186044416
      omega
    · simp [sameOf])
theorem uptoF_gives : Gives prog RG 45 cUptoF := by
  have h : cUptoF = cUpto.frozen := by kernel_rfl
  rw [h]
  exact upto_gives.frozen rfl
theorem kept_gives : Gives prog RG 9 cKept :=
  gives (allCons built_gives (allCons turn_gives (allCons hasB_gives (allCons keepP_gives (allCons checkP_gives (allCons putN_gives (allCons flatP_gives (allCons equal_gives (allCons where_gives (allCons uptoF_gives (allCons same_gives (allCons roped_gives allNil)))))))))))) (fun p => lKept p.1 p.2.1) (by kernel_rfl) (by kernel_rfl) (by kernel_rfl) fun (l, n, ()) _ => kept_vc l n
end Go.Rp
end

section
set_option linter.unusedVariables false
set_option linter.unusedSimpArgs false
namespace Go.Proofs.YtcgjnkdcfpegiaaDoor
open Go.ChangeShapes Go.WideShapes Go.ChangeAt Go.RowKit Go.VT

abbrev argsKept : List ArgT := [(25, false, [Go.Rp.ints]), (3, false, [Go.Rp.i64])]

set_option maxRecDepth 100000 in
theorem kept_lifted (os : Os) (started : os.Started) (H : Type) (enc : TypeId × Value → H) :
    ReturnsInHanded {} Tryd.checked os 9 .any (fun w args => (Rows.ropeKeptSpec.pre enc Tryd.prog Tryd.f9 [] false w args ∧ laidMetH Tryd.prog laid1 w) ∧ sizedMet enc Tryd.prog Tryd.f9 (OpenSpec.ofChange Rows.ropeKeptSpec) false w args)
      (Rows.ropeKeptSpec.post enc Tryd.prog Tryd.f9 false true false false) := by
  refine returnsInHanded_of_change_and (C := Tryd.checked) (X := fun w _ => laidMetH Tryd.prog laid1 w) (fun _ _ _ hh h => h.of_heap hh) own started (by kernel_rfl) Tryd.func9
    (ChangeSpec.witness_shaped (enc := enc) (C := Tryd.checked) (os := os) (X := fun w _ => laidMetH Tryd.prog laid1 w) false (World.doorLaid Tryd.prog 600 os) #[.slice none 0 0, .int .i64 0] 8 rfl (World.shaped_of_RefB (by kernel_rfl) (by kernel_rfl)) (by kernel_rfl) (by kernel_rfl) (by kernel_rfl) (door_met os _)) ?_
  intro W base args ds gs before hval0 hW _ hsz hL _
  have hval : ∀ (j : Nat) t v, Tryd.f9.params[j]? = some t → args[j]? = some v → Value.okWide Tryd.prog W .any base t v := hval0
  have hW' := hW
  obtain ⟨p, q, hA0, hV, rfl, hfz, hnd⟩ := hW
  have hA : DataW.TrodAll enc Tryd.prog W 0 (fun _ => true) true Tryd.f9.params.toList args.toList ds p := hA0
  have hps : Tryd.f9.params.toList = argsKept.map (·.1) := by rw [Tryd.params9]; rfl
  obtain ⟨rfl, rfl⟩ : gs = [] ∧ q = [] := by
    cases gs with
    | nil => exact ⟨rfl, hV⟩
    | cons g r => exact absurd hV (by intro h; cases h)
  have hsz' : ∀ n ∈ DataW.weightsEach Tryd.prog Tryd.f9.params.toList ds, n ≤ reachBytes := by
    intro n hn
    have h1 : (DataW.weightsEach Tryd.prog (Tryd.f9.params.toList ++ []) (ds ++ [])).all (· ≤ reachBytes) = true := hsz
    rw [List.append_nil, List.append_nil] at h1
    simpa using List.all_eq_true.1 h1 n hn
  rw [hps] at hA hsz'
  obtain ⟨xs, us, hr, hp⟩ := args_rep read_ok (A := argsKept) (fun a ha => by
    simp only [List.mem_cons, List.not_mem_nil, or_false] at ha
    rcases ha with rfl | rfl
    · exact arg_ints
    · exact arg_int) (fun j t v hj hv => hval j t v (by rw [← hps] at hj; simpa using hj) (by simpa using hv)) hA hsz'
  obtain ⟨d1, d2, rfl⟩ : ∃ d1 d2, ds = [d1, d2] := by
    have hlen := trodAll_len hA
    match ds, hlen with
    | [d1, d2], _ => exact ⟨_, _, rfl⟩
  have hcall := law_calls (pre := none) (A := argsKept) (w := W) Go.Rp.kept_gives (of_laid hL) hr hp trivial
  rw [Array.toArray_toList] at hcall
  refine hcall.mono fun e W' ⟨he, hb⟩ => ⟨_, he, law_post rfl hW' hb (by kernel_rfl) rfl (fun t ht => ?_)⟩
  rw [hps] at ht
  simp only [List.map_cons, List.map_nil, List.mem_cons, List.not_mem_nil, or_false] at ht
  rcases ht with rfl | rfl <;> exact ⟨by kernel_rfl, of_decide_eq_true (by kernel_rfl)⟩

theorem kept_holds : Rows.RopeKeptSaid :=
  OpenClaim.holds_of_wide 9 Tryd.f9 rfl rfl rfl rfl rfl rfl rfl ⟨rfl, rfl, rfl, rfl, rfl⟩ rfl rfl rfl rfl rfl (by kernel_rfl) Tryd.func9 (by kernel_rfl)
    (of_decide_eq_true (by kernel_rfl)) (by unfold Func.isWrapper; first | (rw [if_pos (by decide +kernel)]; kernel_rfl) | (rw [if_neg (by decide +kernel)]; exact ⟨rfl, rfl⟩))
    (fun os started H enc _ => kept_lifted os started H enc)

theorem kept_card : Rows.RopeKeptCardSaid :=
  Claim7.holds_tied_plain_at .later [] [.funcs] true (true, "ed8b6c3168ac870bf0e8db294ef9ff29b1bb19f13067c1a4f5f266a3cad420dc") true
    kept_holds (fun _ h => by cases h) (by kernel_rfl) (fun _ h => by cases h) ropeKept_row_tie rfl ⟨rfl, rfl⟩ (by kernel_rfl) rfl
    (fun f fn hf hfn => by
      obtain rfl : f = 9 := Option.some.inj ((show Tryd.prog.funcNamed "sheafworks/sheafworkslaw06.RopeKept" = some 9 by kernel_rfl).symm.trans hf) |>.symm
      obtain rfl : fn = Tryd.f9 := (Option.some.inj (Tryd.func9.symm.trans hfn)).symm
      exact ⟨by kernel_rfl, fun j t ht => by
        rw [Tryd.params9] at ht
        have hm : t ∈ [25, 3] := by simpa using Array.mem_of_getElem? ht
        have hall : ([25, 3].all fun u => !Tryd.prog.wantsStandIn u) = true := by kernel_rfl
        exact (show Tryd.prog.wantsStandIn t = false by simpa using List.all_eq_true.1 hall t hm)⟩)
    (by kernel_rfl)
end Go.Proofs.YtcgjnkdcfpegiaaDoor
end
