/-
RopeKeeps returns true for every input, and each argument reads afterwards as it read before. Conditions: the package variable rope.kinds is laid as the program's text says (the tied card).
-/
import Derived.Test.YtcgjnkdcfpegiaaDoorV5
import Derived.Test.YtcgjnkdcfpegiaaDoorCards
import Derived.Test.YtcgjnkdcfpegiaaDoorTie
import Derived.SevenTiedAt

section
set_option linter.unusedVariables false
set_option linter.unusedSimpArgs false
set_option maxRecDepth 100000
open Go Go.VT
namespace Go.Rp

theorem markAll_snoc (m : List Bool) (ks : List Int) (k : Int) : markAll m (ks ++ [k]) = (markAll m ks).set k.toNat true := by simp [markAll]

theorem parts_zero {x : Node} (h : x.kind = 0) : partsL x = [] := by simp [partsL, needOf, h, partsN]
theorem parts_cat {x : Node} (h : x.kind = 1) : partsL x = [x.a, x.b] := by simp [partsL, needOf, h, partsN, partsOf]
theorem parts_one {x : Node} (h : x.kind ≠ 0) (h1 : x.kind ≠ 1) : partsL x = [x.a] := by simp [partsL, needOf, h, h1, partsN, partsOf]

theorem num_get {num : List Int} {m q : Nat} (hl : num.length = m) {a : Int} (h0 : 0 ≤ a) (h1 : a < m) : (num ++ List.replicate q 0).getD a.toNat 0 = at_ num a := by
  unfold at_
  rw [List.getD_eq_getElem?_getD, List.getD_eq_getElem?_getD, List.getElem?_append_left (by omega)]

theorem num_set {num : List Int} {n m : Nat} (hl : num.length = m) (h : m < n) (v : Int) : (num ++ List.replicate (n - m) 0).set m v = (num ++ [v]) ++ List.replicate (n - (m + 1)) 0 := by
  have : n - m = (n - (m + 1)) + 1 := by omega
  rw [this, List.replicate_succ, List.set_append_right _ _ (by omega), hl]
  simp

theorem num_skip {num : List Int} {n m : Nat} (h : m < n) : num ++ List.replicate (n - m) 0 = (num ++ [0]) ++ List.replicate (n - (m + 1)) 0 := by
  have : n - m = (n - (m + 1)) + 1 := by omega
  rw [this, List.replicate_succ]
  simp

theorem mark_step {l : List Node} {m : Nat} {need : List Bool} : markDown l (m + 1) need = markDown l m (if need.getD m false then markAll need (partsL (l.getD m node0)) else need) := rfl

theorem set_other {m : List Bool} {i j : Nat} (h : i ≠ j) : (m.set i true).getD j false = m.getD j false := by
  simp [List.getD_eq_getElem?_getD, List.getElem?_set, h]

theorem keepR_vc (l : List Node) (r : List Int) (hp : r.length + l.length ≤ 17592186044416) : vc (EV [(50, cAsked), (66, cOwn)]) (lKeepR l r) Go.Proofs.Tryd.f27 cKeepR (l, r, ()) := (keepR_eq l r).mpr (by
  intro e1 e0 hs1 hs2
  refine ⟨fun h => ?_, fun h => ?_⟩
  · have h := ne_true.1 h
    simp only [e0, keepAt, if_pos h]
  · have h := ne_false.1 h
    obtain ⟨h1, h2, h3⟩ := asked_ok h
    have ho : okStore l r := ⟨⟨h1, h2⟩, h3⟩
    have he0 : e0 = ((keptOf l r).1, r.map (at_ (keptOf l r).2), 0, ()) := by
      show ((keepAt l r).1, (keepAt l r).2.1, (keepAt l r).2.2, ()) = _
      unfold keepAt
      rw [if_neg (by simp [h])]
    have hn1 : (l.length : Int) * ((1 : Nat) : Int) ≤ ((140737488355328 : Nat) : Int) := by omega
    have hn8 : (l.length : Int) * ((8 : Nat) : Int) ≤ ((140737488355328 : Nat) : Int) := by omega
    have hl0 : (0 : Int) ≤ l.length := by omega
    refine ⟨⟨hl0, hn1⟩, ⟨(0, List.replicate l.length false, ()), by and_intros <;> first | exact rfl | exact Int.le_refl _ | (dsimp only; omega)⟩, ?_⟩
    rintro ⟨i, need, ⟨⟩⟩ f2 f1 f0 ⟨k0, k1, k2⟩
    dsimp -zeta only at k0 k1 k2 ⊢
    obtain ⟨m, rfl⟩ := Int.eq_ofNat_of_zero_le k0
    simp only [Int.toNat_natCast] at k2
    have hnl : need.length = l.length := by rw [k2, markAll_len]; exact List.length_replicate
    refine ⟨fun hlt => ?_, fun hge => ?_⟩
    · have hlt := of_decide_eq_true hlt
      have hm : m < r.length := by dsimp only at hlt; omega
      have hr := h3 (r.getD m 0) (by
        rw [List.getD_eq_getElem?_getD, List.getElem?_eq_getElem hm]
        exact List.getElem_mem hm)
      have hw : IntKind.i64.wrap ((m : Int) + 1) = ((m + 1 : Nat) : Int) := by rw [w64_id (by omega) (by omega)]; rfl
      have hset : need.set (r.getD m 0).toNat true = markAll e1 (r.take (m + 1)) := by
        rw [take_succ_getD hm 0, markAll_snoc, k2]
      have hnl' : ((need.length : Nat) : Int) = l.length := by rw [hnl]
      refine ⟨⟨k0, hlt⟩, ⟨hr.1, by rw [hnl']; exact hr.2⟩, ((m + 1 : Nat), need.set (r.getD m 0).toNat true, ()), ?_⟩
      and_intros <;> first | exact hw | exact rfl | exact hset | (dsimp only; omega)
    · have hge := of_decide_eq_false hge
      have hm : m = r.length := by dsimp only at hge; omega
      subst hm
      rw [List.take_length] at k2
      have hw : IntKind.i64.wrap ((l.length : Int) - 1) = (l.length : Int) - 1 := by rw [w64_id (by omega) (by omega)]
      have hneed : markDown l ((l.length : Int) - 1 + 1).toNat need = needs l r := by
        rw [show ((l.length : Int) - 1 + 1).toNat = l.length by omega, k2]
        rfl
      refine ⟨⟨((l.length : Int) - 1, need, ()), by and_intros <;> first | exact hw | exact hnl | exact hneed | exact rfl | (dsimp only; omega)⟩, ?_⟩
      rintro ⟨i, nd, ⟨⟩⟩ g5 g4 g3 g2 g1 g0 ⟨k3, k4, k5, k6⟩
      dsimp -zeta only at k3 k4 k5 k6 ⊢
      refine ⟨fun hge => ?_, fun hlt => ?_⟩
      · have hge := of_decide_eq_true hge
        obtain ⟨m, rfl⟩ := Int.eq_ofNat_of_zero_le (a := i) hge
        have hm : m < l.length := by omega
        have hw : g3 = (m : Int) - 1 := by show IntKind.i64.wrap ((m : Int) - 1) = _; rw [w64_id (by omega) (by omega)]
        have hX : g0 = l.getD m node0 := rfl
        have hB : g2 = nd.getD m false := rfl
        have hf := valid_fields h2 m hm
        have hpl := partsL_ok h2 (a := (m : Int)) (by omega) (by omega)
        have hpl : ∀ k ∈ partsL g0, 0 ≤ k ∧ k < (m : Int) := fun k hk => hpl k (by simpa [nat_, hX] using hk)
        rw [show ((m : Int) + 1).toNat = m + 1 by omega, mark_step, ← hX, ← hB] at k6
        have hin : (m : Int) < (nd.length : Int) := by omega
        have hmm : ((m : Int) - 1 + 1).toNat = m := by omega
        have hlt2 : ((m : Int) - 1 + 1).toNat < ((m : Int) + 1).toNat := by omega
        refine ⟨⟨by omega, by omega⟩, ⟨by omega, hin⟩, fun hc => ?_, fun hc => ?_⟩
        · simp only [Bool.and_eq_true] at hc
          have hk0 := ne_true.1 hc.2
          rw [if_pos hc.1] at k6
          have ha := hpl g0.a (by
            by_cases hk1 : g0.kind = 1
            · rw [parts_cat hk1]; simp
            · rw [parts_one hk0 hk1]; simp)
          have hother : (nd.set g0.a.toNat true).getD m false = true := by rw [set_other (by omega), ← hB]; exact hc.1
          have hsl : (nd.set g0.a.toNat true).length = l.length := by rw [List.length_set]; exact k5
          refine ⟨⟨ha.1, by omega⟩, ⟨by omega, by rw [hsl]; omega⟩, fun hd => ?_, fun hd => ?_⟩
          · simp only [Bool.and_eq_true] at hd
            have hk1 := eq_of_beq hd.2
            have hb := hpl g0.b (by rw [parts_cat hk1]; simp)
            rw [parts_cat hk1] at k6
            refine ⟨⟨hb.1, by rw [hsl]; omega⟩, ((m : Int) - 1, (nd.set g0.a.toNat true).set g0.b.toNat true, ()), ?_⟩
            and_intros <;> first | exact hw | exact rfl | exact hlt2 | (show markDown l ((m : Int) - 1 + 1).toNat _ = _; rw [hmm]; exact k6) | (show ((nd.set g0.a.toNat true).set g0.b.toNat true).length = _; rw [List.length_set]; exact hsl) | (dsimp only; omega)
          · have hk1 : g0.kind ≠ 1 := by
              intro hk1
              rw [hk1] at hd
              have : ((nd.set g0.a.toNat true).getD m false && ((1 : Int) == 1)) = false := hd
              rw [hother] at this
              simp at this
            rw [parts_one hk0 hk1] at k6
            refine ⟨((m : Int) - 1, nd.set g0.a.toNat true, ()), ?_⟩
            and_intros <;> first | exact hw | exact rfl | exact hlt2 | (show markDown l ((m : Int) - 1 + 1).toNat _ = _; rw [hmm]; exact k6) | exact hsl | (dsimp only; omega)
        · refine ⟨⟨by omega, hin⟩, fun hd => ?_, fun hd => ?_⟩
          · simp only [Bool.and_eq_true] at hd
            have hk1 := eq_of_beq hd.2
            exfalso
            rw [hd.1, hk1] at hc
            simp at hc
          · have k7 : markDown l m nd = needs l r := by
              rw [← k6]
              split
              · rename_i hb
                rw [hb, Bool.true_and] at hc
                rw [parts_zero (ne_false.1 hc)]
                rfl
              · rfl
            refine ⟨((m : Int) - 1, nd, ()), ?_⟩
            and_intros <;> first | exact hw | exact rfl | exact hlt2 | (show markDown l ((m : Int) - 1 + 1).toNat _ = _; rw [hmm]; exact k7) | exact k5 | (dsimp only; omega)
      · have hlt := of_decide_eq_false hlt
        have hi : i = -1 := by dsimp only at hlt; omega
        subst hi
        have hM : nd = needs l r := k6
        refine ⟨⟨hl0, hn8⟩, ⟨(0, List.replicate l.length 0, [], ()), by and_intros <;> first | exact rfl | exact Int.le_refl _ | (dsimp only; omega)⟩, ?_⟩
        rintro ⟨i, num, out, ⟨⟩⟩ d9 d8 d7 d6 d5 d4 d3 d2 d1 d0 ⟨q0, q1, q2, q3⟩
        dsimp -zeta only at q0 q1 q2 q3 ⊢
        obtain ⟨m, rfl⟩ := Int.eq_ofNat_of_zero_le q0
        have q2 : num = (keepGo (needs l r) l m).2 ++ List.replicate (l.length - m) 0 := q2
        have q3 : out = (keepGo (needs l r) l m).1 := q3
        have hkl := keepGo_len (needs l r) l m
        have hol : out.length ≤ m := by rw [q3]; exact keepGo_outLen _ _ _
        have hnl : num.length = l.length := by rw [q2, List.length_append, hkl, List.length_replicate]; omega
        refine ⟨fun hlt => ?_, fun hge => ?_⟩
        · have hlt := of_decide_eq_true hlt
          have hm : m < l.length := by dsimp only at hlt; omega
          have hw : d4 = ((m + 1 : Nat) : Int) := by show IntKind.i64.wrap ((m : Int) + 1) = _; rw [w64_id (by omega) (by omega)]; rfl
          have hX : d0 = l.getD m node0 := rfl
          have hpl := partsL_ok h2 (a := (m : Int)) (by omega) (by omega)
          have hpl : ∀ k ∈ partsL d0, 0 ≤ k ∧ k < (m : Int) := fun k hk => hpl k (by simpa [nat_, hX] using hk)
          have hlt2 : l.length - (m + 1) < l.length - m := by omega
          refine ⟨⟨q0, by rw [k5]; exact hlt⟩, fun hb => ?_, fun hb => ?_⟩
          · have hb : (!nd.getD m false) = true := hb
            have hb : ¬ (needs l r).getD m false = true := by rw [← hM]; simpa using hb
            have hnum : num = (keepGo (needs l r) l (m + 1)).2 ++ List.replicate (l.length - (m + 1)) 0 := by
              simp only [keepGo, if_neg hb]
              rw [q2, num_skip hm]
            have hout : out = (keepGo (needs l r) l (m + 1)).1 := by simp only [keepGo, if_neg hb]; exact q3
            refine ⟨((m + 1 : Nat), num, out, ()), ?_⟩
            and_intros <;> first | exact hw | exact rfl | exact hnum | exact hout | exact hlt2 | (dsimp only; omega)
          · have hb : (!nd.getD m false) = false := hb
            have hb : (needs l r).getD m false = true := by rw [← hM]; simpa using hb
            have hwd : d0.words.length ≤ 17592186044416 := by
              have := (few_valid h).2 (l.getD m node0) (by
                rw [List.getD_eq_getElem?_getD, List.getElem?_eq_getElem hm]
                exact List.getElem_mem hm)
              rw [hX]; omega
            have hnum : num.set m ((out.length : Nat) : Int) = (keepGo (needs l r) l (m + 1)).2 ++ List.replicate (l.length - (m + 1)) 0 := by
              simp only [keepGo, if_pos hb]
              rw [q2, num_set hkl hm, ← q3]
            have hsz : (out.length + 1) * 72 ≤ 140737488355328 := by omega
            have hmn : (0 : Int) ≤ (m : Int) ∧ (m : Int) < (num.length : Int) := ⟨q0, by rw [hnl]; exact hlt⟩
            have hget : ∀ k ∈ partsL d0, num.getD k.toNat 0 = at_ (keepGo (needs l r) l m).2 k := fun k hk => by
              rw [q2]
              exact num_get hkl (hpl k hk).1 (hpl k hk).2
            have hin : ∀ k ∈ partsL d0, 0 ≤ k ∧ k < (num.length : Int) := fun k hk => by
              have := hpl k hk
              omega
            have hout' : ∀ N : Node, N = renum (keepGo (needs l r) l m).2 d0 → out ++ [N] = (keepGo (needs l r) l (m + 1)).1 := fun N hN => by
              simp only [keepGo, if_pos hb]
              rw [hN, q3]
              rfl
            refine ⟨⟨q0, hlt⟩, hwd, fun c0 => ?_, fun c0 => ?_⟩
            · have c0 := ne_true.1 c0
              have ha : d0.a ∈ partsL d0 := by
                by_cases hk1 : d0.kind = 1
                · rw [parts_cat hk1]; simp
                · rw [parts_one c0 hk1]; simp
              refine ⟨hin _ ha, fun c1 => ?_, fun c1 => ?_⟩
              · have c1 := eq_of_beq c1
                have hbm : d0.b ∈ partsL d0 := by rw [parts_cat c1]; simp
                have hout := hout' ⟨d0.kind, num.getD d0.a.toNat 0, num.getD d0.b.toNat 0, d0.from_, d0.len, d0.n, d0.words⟩ (by
                  rw [hget _ ha, hget _ hbm, renum, if_neg c0, if_pos c1])
                refine ⟨hin _ hbm, hmn, hsz, ((m + 1 : Nat), num.set m ((out.length : Nat) : Int), out ++ [⟨d0.kind, num.getD d0.a.toNat 0, num.getD d0.b.toNat 0, d0.from_, d0.len, d0.n, d0.words⟩], ()), ?_⟩
                and_intros <;> first | exact hw | exact rfl | exact hnum | exact hout | exact hlt2 | (dsimp only; omega)
              · have c1 : ¬ d0.kind = 1 := by simpa using c1
                have hout := hout' ⟨d0.kind, num.getD d0.a.toNat 0, d0.b, d0.from_, d0.len, d0.n, d0.words⟩ (by
                  rw [hget _ ha, renum, if_neg c0, if_neg c1])
                refine ⟨hmn, hsz, ((m + 1 : Nat), num.set m ((out.length : Nat) : Int), out ++ [⟨d0.kind, num.getD d0.a.toNat 0, d0.b, d0.from_, d0.len, d0.n, d0.words⟩], ()), ?_⟩
                and_intros <;> first | exact hw | exact rfl | exact hnum | exact hout | exact hlt2 | (dsimp only; omega)
            · have c0 := ne_false.1 c0
              refine ⟨fun c1 => ?_, fun c1 => ?_⟩
              · have c1 := eq_of_beq c1
                omega
              · have c1 : ¬ d0.kind = 1 := by simpa using c1
                have hout := hout' ⟨d0.kind, d0.a, d0.b, d0.from_, d0.len, d0.n, d0.words⟩ (by
                  rw [renum, if_pos c0, if_neg c1])
                refine ⟨hmn, hsz, ((m + 1 : Nat), num.set m ((out.length : Nat) : Int), out ++ [⟨d0.kind, d0.a, d0.b, d0.from_, d0.len, d0.n, d0.words⟩], ()), ?_⟩
                and_intros <;> first | exact hw | exact rfl | exact hnum | exact hout | exact hlt2 | (dsimp only; omega)
        · have hge := of_decide_eq_false hge
          have hm : m = l.length := by dsimp only at hge; omega
          subst hm
          have q2' : num = (keptOf l r).2 := by rw [q2, Nat.sub_self]; simp [keptOf]
          refine ⟨⟨(0, [], ()), by and_intros <;> first | exact rfl | exact Int.le_refl _ | (dsimp only; omega)⟩, ?_⟩
          rintro ⟨j, ns, ⟨⟩⟩ b4 b3 b2 b1 b0 ⟨j0, j1, j2⟩
          dsimp -zeta only at j0 j1 j2 ⊢
          obtain ⟨q, rfl⟩ := Int.eq_ofNat_of_zero_le j0
          simp only [Int.toNat_natCast] at j2
          have hnsl : ns.length ≤ q := by rw [j2]; simp; omega
          refine ⟨fun hlt => ?_, fun hge => ?_⟩
          · have hlt := of_decide_eq_true hlt
            have hq : q < r.length := by dsimp only at hlt; omega
            have hb0 : b0 = r.getD q 0 := rfl
            have hr := h3 (r.getD q 0) (by
              rw [List.getD_eq_getElem?_getD, List.getElem?_eq_getElem hq]
              exact List.getElem_mem hq)
            have hw : IntKind.i64.wrap ((q : Int) + 1) = ((q + 1 : Nat) : Int) := by rw [w64_id (by omega) (by omega)]; rfl
            have hsz : (ns.length + 1) * 8 ≤ 140737488355328 := by omega
            have hlt2 : r.length - (q + 1) < r.length - q := by omega
            have hns : ns ++ [num.getD (r.getD q 0).toNat 0] = (r.take (q + 1)).map (at_ (keptOf l r).2) := by
              rw [j2, take_succ_getD hq 0, List.map_append, q2']
              rfl
            refine ⟨⟨j0, hlt⟩, ⟨hr.1, by rw [hnl]; exact hr.2⟩, hsz, ((q + 1 : Nat), ns ++ [num.getD (r.getD q 0).toNat 0], ()), ?_⟩
            and_intros <;> first | exact hw | exact rfl | exact hns | exact hlt2 | (dsimp only; omega)
          · have hge := of_decide_eq_false hge
            have hq : q = r.length := by dsimp only at hge; omega
            subst hq
            rw [he0, j2, q3, List.take_length]
            rfl)
theorem keepR_gives : Gives prog RG 27 cKeepR := gives (allCons asked_gives (allCons own_gives allNil)) (fun p => lKeepR p.1 p.2.1) (by kernel_rfl) (by kernel_rfl) (by kernel_rfl) fun (l, r, ()) hp => keepR_vc l r hp
end Go.Rp
end

section
set_option linter.unusedVariables false
set_option maxRecDepth 100000
open Go Go.VT
namespace Go.Rp

theorem store_eq : vc (EV []) noL Go.Proofs.Tryd.f46 cStore () = (([Node.mk (0 : Int) (0 : Int) (0 : Int) (0 : Int) (0 : Int) (0 : Int) [(5 : Int), (6 : Int), (7 : Int)], Node.mk (0 : Int) (0 : Int) (0 : Int) (0 : Int) (0 : Int) (0 : Int) [(8 : Int)],
      Node.mk (1 : Int) (0 : Int) (1 : Int) (0 : Int) (0 : Int) (0 : Int) [], Node.mk (2 : Int) (2 : Int) (0 : Int) (1 : Int) (3 : Int) (0 : Int) [],
      Node.mk (3 : Int) (3 : Int) (0 : Int) (0 : Int) (0 : Int) (10 : Int) [], Node.mk (1 : Int) (4 : Int) (2 : Int) (0 : Int) (0 : Int) (0 : Int) []],
    ()) =
  (storeL, ())) := by kernel_rfl

theorem roped_eq : vc (EV [(46, cStore), (17, cFlatR), (19, cGatherR), (21, cCostR), (15, cDepthR), (13, cLenR), (24, cEvenP), (26, cKeepP), (37, cOffR), (23, cEqual), (33, cCheck)]) noL Go.Proofs.Tryd.f12 cRoped () = (let e4 : List Int := [] ++ [(↑(7 : Nat) : Int)] ++ [(↑(8 : Nat) : Int)];
  let e3 : Bool := (0 : Int) != (0 : Int) || (0 : Int) != (0 : Int) || (0 : Int) != (0 : Int);
  let e2 : Bool :=
  (3 : Int) == (3 : Int) && (↑(6 : Nat) : Int) == (6 : Int) && word (w64 ((0 : Int) + (10 : Int))) == (10 : Int) && (1 : Int) == (1 : Int) && at_ (List.take (1 : Nat) e4) (0 : Int) == (7 : Int) &&
    at_ (List.drop (1 : Nat) e4) (0 : Int) == (8 : Int);
  let e1 : Bool :=
  e3 || (↑(9 : Nat) : Int) != (9 : Int) || (↑(6 : Nat) : Int) != (6 : Int) || (↑(10 : Nat) : Int) != (10 : Int) || (↑(4 : Nat) : Int) != (4 : Int) || (↑(7 : Nat) : Int) != (7 : Int) ||
    !decide
        (List.map (at_ ([] ++ [(↑(0 : Nat) : Int)] ++ [(↑(1 : Nat) : Int)] ++ [(↑(2 : Nat) : Int)] ++ [(↑(3 : Nat) : Int)] ++ [(0 : Int)] ++ [(0 : Int)])) [(3 : Int), (1 : Int)] =
          [(3 : Int), (1 : Int)]);
  let e0 : Bool :=
  e3 || (0 : Int) != (0 : Int) || (0 : Int) != (0 : Int) ||
            !decide (List.map (fun (p : Nat) => (wayAt storeL (5 : Int) (↑p : Int)).snd) (List.range (7 : Nat)) = [(16 : Int), (17 : Int), (18 : Int), (5 : Int), (6 : Int), (7 : Int), (8 : Int)]) ||
          !decide (List.map (fun (p : Int) => (wayAt storeL (5 : Int) p).snd) [(0 : Int), (6 : Int), (2 : Int)] = [(16 : Int), (8 : Int), (18 : Int)]) ||
        w64 (w64 (w64 (w64 ((1 : Int) + (1 : Int)) + (1 : Int)) + (1 : Int)) + (1 : Int)) != (5 : Int) ||
      at_ (depthsOf storeL) (5 : Int) != (5 : Int) ||
    at_ (lensOf storeL) (5 : Int) != (7 : Int);
  (e0 = true → (false, ()) = (true, ())) ∧
  (e0 = false →
    True ∧
      (8 : Nat) ≤ (17592186044416 : Nat) ∧
        True ∧
          (e1 = true → (false, ()) = (true, ())) ∧
            (e1 = false →
              ((0 : Int) ≤ (7 : Int) ∧ (7 : Int) < (↑(10 : Nat) : Int)) ∧
                ((0 : Int) ≤ (9 : Int) ∧ (9 : Int) < (↑(10 : Nat) : Int)) ∧
                  (e2 = true → (0 : Int) ≤ (6 : Int) ∧ (6 : Int) < (↑(7 : Nat) : Int)) ∧ (e2 && (-5 : Int) == (-5 : Int) && checkOf storeL == (0 : Int), ()) = (true, ())))) := by kernel_rfl

theorem tells_eq (l : List Node) (a : Int) (ps : List Int) (p : Int) : vc (EV [(11, cGreat), (12, cRoped), (13, cLenR), (14, cLenR), (15, cDepthR), (16, cDepthR), (17, cFlatR), (18, cFlatR), (19, cGatherR), (20, cGatherR), (21, cCostR), (22, cCostR), (23, cEqual)]) noL Go.Proofs.Tryd.f3 cTells (l, a, ps, p, ()) = (let e5 : Int := (costAt l a p).fst;
  let e4 : Int := (costAt l a p).snd;
  let e3 : List Int := (gatherAt l a ps).fst;
  let e2 : Int := (gatherAt l a ps).snd;
  let e1 : Bool := greatOf l || decide ((↑(List.length ps) : Int) > (400 : Int));
  let e0 : Bool := (lenAt l a).fst != (lenAt l a).fst || (lenAt l a).snd != (lenAt l a).snd || (depthAt l a).fst != (depthAt l a).fst || (depthAt l a).snd != (depthAt l a).snd;
  Small RU (Sigma.mk (Ty.slice (56 : Nat) (Ty.user (0 : Nat))) l) →
  Small RU (Sigma.mk (Ty.slice (3 : Nat) (Ty.int IntKind.i64)) ps) →
    (e1 = true → (true, ()) = (true, ())) ∧
      (e1 = false →
        (e0 = true → (false, ()) = (true, ())) ∧
          (e0 = false → (decide ((flatAt l a).fst = (flatAt l a).fst) && (flatAt l a).snd == (flatAt l a).snd && decide (e3 = e3) && e2 == e2 && e5 == e5 && e4 == e4 && true, ()) = (true, ())))) := by kernel_rfl

end Go.Rp
end

section
set_option linter.unusedVariables false
set_option maxRecDepth 100000
open Go Go.VT
namespace Go.Rp

theorem great_eq (l : List Node) : vc (EV [(34, cCheck), (47, cLens)]) (lGreat l) Go.Proofs.Tryd.f11 cGreat (l, ()) = (let e0 : Bool := decide ((↑(List.length l) : Int) > (60 : Int));
  Small RU (Sigma.mk (Ty.slice (56 : Nat) (Ty.user (0 : Nat))) l) →
  (e0 = true → (true, ()) = (greatOf l, ())) ∧
    (e0 = false →
      ((checkOf l != (0 : Int)) = true → (false, ()) = (greatOf l, ())) ∧
        ((checkOf l != (0 : Int)) = false →
          (List.length l ≤ (17592186044416 : Nat) ∧
              ∀ (i : Nat) (x : Node),
                l[i]? = some x →
                  (x.kind = (1 : Int) → ((0 : Int) ≤ x.a ∧ x.a < (↑i : Int)) ∧ (0 : Int) ≤ x.b ∧ x.b < (↑i : Int)) ∧
                    (x.kind ≠ (0 : Int) → x.kind ≠ (1 : Int) → x.kind ≠ (2 : Int) → (0 : Int) ≤ x.a ∧ x.a < (↑i : Int))) ∧
            (∃ (p : Int × Unit),
                l = l ∧
                  e0 = e0 ∧
                    (checkOf l != (0 : Int)) = (checkOf l != (0 : Int)) ∧
                      (0 : Int) = p.fst ∧
                        l = l ∧
                          lensOf l = lensOf l ∧
                            (0 : Int) ≤ p.fst ∧
                              p.fst ≤ (↑(List.length l) : Int) ∧
                                (¬(60 : Nat) < List.length l ∧ checkOf l = (0 : Int)) ∧ ∀ (i : Nat), i < Int.toNat p.fst → ¬(3000 : Int) < List.getD (lensOf l) i (0 : Int)) ∧
              ∀ (p : Int × Unit),
                let e2 : Bool := e0;
                let e1 : Int := (↑(List.length (lensOf l)) : Int);
                let e0 : Bool := decide (List.getD (lensOf l) (Int.toNat p.fst) (0 : Int) > (3000 : Int));
                ((0 : Int) ≤ p.fst ∧
                    p.fst ≤ (↑(List.length l) : Int) ∧ (¬(60 : Nat) < List.length l ∧ checkOf l = (0 : Int)) ∧ ∀ (i : Nat), i < Int.toNat p.fst → ¬(3000 : Int) < List.getD (lensOf l) i (0 : Int)) →
                  (decide (p.fst < e1) = true →
                      ((0 : Int) ≤ p.fst ∧ p.fst < e1) ∧
                        (e0 = true → (true, ()) = (greatOf l, ())) ∧
                          (e0 = false →
                            ∃ (p' : Int × Unit),
                              l = l ∧
                                e2 = e2 ∧
                                  (checkOf l != (0 : Int)) = (checkOf l != (0 : Int)) ∧
                                    IntKind.wrap IntKind.i64 (p.fst + (1 : Int)) = p'.fst ∧
                                      l = l ∧
                                        lensOf l = lensOf l ∧
                                          ((0 : Int) ≤ p'.fst ∧
                                              p'.fst ≤ (↑(List.length l) : Int) ∧
                                                (¬(60 : Nat) < List.length l ∧ checkOf l = (0 : Int)) ∧ ∀ (i : Nat), i < Int.toNat p'.fst → ¬(3000 : Int) < List.getD (lensOf l) i (0 : Int)) ∧
                                            List.length l - Int.toNat p'.fst < List.length l - Int.toNat p.fst)) ∧
                    (decide (p.fst < e1) = false → (false, ()) = (greatOf l, ()))))) := by kernel_rfl

theorem same_eq (l m : List Node) : vc (EV [(23, cEqual)]) (lSame l m) Go.Proofs.Tryd.f28 cSame (l, m, ()) = (let e0 : Bool := decide (List.length l = List.length m);
  Small RU (Sigma.mk (Ty.slice (56 : Nat) (Ty.user (0 : Nat))) l) →
  Small RU (Sigma.mk (Ty.slice (56 : Nat) (Ty.user (0 : Nat))) m) →
    (∃ (p : Int × Bool × Unit),
        l = l ∧
          m = m ∧
            false = false ∧
              (0 : Int) = p.fst ∧
                ((↑(List.length l) : Int) == (↑(List.length m) : Int)) = p.snd.fst ∧
                  l = l ∧ m = m ∧ (0 : Int) ≤ p.fst ∧ p.fst ≤ (↑(List.length l) : Int) ∧ p.snd.fst = (e0 && decide (List.take (Int.toNat p.fst) l = List.take (Int.toNat p.fst) m))) ∧
      ∀ (p : Int × Bool × Unit),
        let e2 : Bool := e0;
        let e1 : Bool := p.snd.fst && decide (p.fst < (↑(List.length l) : Int));
        let e0 : Node := Node.mk (0 : Int) (0 : Int) (0 : Int) (0 : Int) (0 : Int) (0 : Int) [];
        (0 : Int) ≤ p.fst ∧ p.fst ≤ (↑(List.length l) : Int) ∧ p.snd.fst = (e2 && decide (List.take (Int.toNat p.fst) l = List.take (Int.toNat p.fst) m)) →
          (e1 = true →
              ((0 : Int) ≤ p.fst ∧ p.fst < (↑(List.length l) : Int)) ∧
                ((0 : Int) ≤ p.fst ∧ p.fst < (↑(List.length m) : Int)) ∧
                  ∃ (p' : Int × Bool × Unit),
                    l = l ∧
                      m = m ∧
                        false = false ∧
                          IntKind.wrap IntKind.i64 (p.fst + (1 : Int)) = p'.fst ∧
                            ((List.getD l (Int.toNat p.fst) e0).kind == (List.getD m (Int.toNat p.fst) e0).kind && (List.getD l (Int.toNat p.fst) e0).a == (List.getD m (Int.toNat p.fst) e0).a &&
                                          (List.getD l (Int.toNat p.fst) e0).b == (List.getD m (Int.toNat p.fst) e0).b &&
                                        (List.getD l (Int.toNat p.fst) e0).from_ == (List.getD m (Int.toNat p.fst) e0).from_ &&
                                      (List.getD l (Int.toNat p.fst) e0).len == (List.getD m (Int.toNat p.fst) e0).len &&
                                    (List.getD l (Int.toNat p.fst) e0).n == (List.getD m (Int.toNat p.fst) e0).n &&
                                  decide ((List.getD l (Int.toNat p.fst) e0).words = (List.getD m (Int.toNat p.fst) e0).words)) =
                                p'.snd.fst ∧
                              l = l ∧
                                m = m ∧
                                  ((0 : Int) ≤ p'.fst ∧ p'.fst ≤ (↑(List.length l) : Int) ∧ p'.snd.fst = (e2 && decide (List.take (Int.toNat p'.fst) l = List.take (Int.toNat p'.fst) m))) ∧
                                    List.length l - Int.toNat p'.fst < List.length l - Int.toNat p.fst) ∧
            (e1 = false → (p.snd.fst, ()) = (sameOf l m, ()))) := by kernel_rfl

end Go.Rp
end

section
set_option linter.unusedVariables false
set_option linter.unusedSimpArgs false
set_option maxRecDepth 100000
open Go Go.VT
namespace Go.Rp

theorem store_gives : Gives prog RG 46 cStore := gives allNil (fun _ => noL) (by kernel_rfl) (by kernel_rfl) (by kernel_rfl) fun () _ => store_eq.mpr rfl

theorem roped_vc : vc (EV [(46, cStore), (17, cFlatR), (19, cGatherR), (21, cCostR), (15, cDepthR), (13, cLenR), (24, cEvenP), (26, cKeepP), (37, cOffR), (23, cEqual), (33, cCheck)]) noL Go.Proofs.Tryd.f12 cRoped () := roped_eq.mpr (by decide +kernel)
theorem roped_gives : Gives prog RG 12 cRoped :=
  gives (allCons store_gives (allCons flatP_gives (allCons gatherP_gives (allCons costP_gives (allCons depthP_gives (allCons lenP_gives (allCons evenP_gives (allCons keepP_gives (allCons offP_gives (allCons equal_gives (allCons checkP_gives allNil)))))))))))
    (fun _ => noL) (by kernel_rfl) (by kernel_rfl) (by kernel_rfl) fun () _ => roped_vc

theorem great_any {l : List Node} (h : ∀ i : Nat, i < l.length → ¬ 3000 < (lensOf l).getD i 0) : (lensOf l).any (fun n => decide (3000 < n)) = false := by
  rw [List.any_eq_false]
  intro x hx
  obtain ⟨i, hi, rfl⟩ := List.mem_iff_getElem.1 hx
  have := h i (by rw [lensOf_length] at hi; exact hi)
  rw [List.getD_eq_getElem?_getD, List.getElem?_eq_getElem hi] at this
  simpa using this

theorem great_vc (l : List Node) : vc (EV [(34, cCheck), (47, cLens)]) (lGreat l) Go.Proofs.Tryd.f11 cGreat (l, ()) := (great_eq l).mpr (by
  intro e0 hs
  refine ⟨fun h => ?_, fun h => ?_⟩
  · have h := of_decide_eq_true h
    have : 60 < l.length := by omega
    simp [greatOf, this]
  · have h60 : ¬ 60 < l.length := by have := of_decide_eq_false h; omega
    refine ⟨fun hc => ?_, fun hc => ?_⟩
    · have hc := ne_true.1 hc
      simp [greatOf, h60, hc]
    · have hc := ne_false.1 hc
      have hv : validOf l = true := by
        unfold checkOf at hc
        split at hc
        · omega
        · split at hc
          · assumption
          · omega
      have hg : greatOf l = (lensOf l).any (fun n => decide (3000 < n)) := by simp [greatOf, h60, hc]
      refine ⟨⟨by omega, fun i x hx => valid_ahead hv i x hx⟩, ⟨(0, ()), by trivial, by trivial, by trivial, rfl, by trivial, by trivial, Int.le_refl _, by dsimp only; omega, ⟨h60, hc⟩, fun i hi => by simp at hi⟩, ?_⟩
      rintro ⟨i, ⟨⟩⟩ e2 e1 e0' ⟨k0, k1, _, k3⟩
      dsimp only at k0 k1 k3
      obtain ⟨m, rfl⟩ := Int.eq_ofNat_of_zero_le k0
      simp only [Int.toNat_natCast] at k3
      have he1 : e1 = (l.length : Int) := by show ((lensOf l).length : Int) = _; rw [lensOf_length]
      refine ⟨fun hlt => ?_, fun hge => ?_⟩
      · have hlt := of_decide_eq_true hlt
        rw [he1] at hlt
        have hm : m < l.length := by dsimp only at hlt; omega
        refine ⟨⟨k0, by rw [he1]; exact hlt⟩, fun hb => ?_, fun hb => ⟨((m + 1 : Nat), ()), by trivial, by trivial, by trivial, ?_, by trivial, by trivial, ⟨by omega, by dsimp only; omega, ⟨h60, hc⟩, fun i hi => ?_⟩, by show l.length - (m + 1) < l.length - m; omega⟩⟩
        · have hb := of_decide_eq_true hb
          rw [hg]
          have : (lensOf l).any (fun n => decide (3000 < n)) = true := by
            rw [List.any_eq_true]
            refine ⟨(lensOf l).getD m 0, ?_, by simpa using hb⟩
            rw [List.getD_eq_getElem?_getD, List.getElem?_eq_getElem (by rw [lensOf_length]; exact hm)]
            exact List.getElem_mem _
          rw [this]
        · rw [w64_id (by dsimp only; omega) (by dsimp only; omega)]; rfl
        · have hb := of_decide_eq_false hb
          simp only [Int.toNat_natCast] at hi
          by_cases him : i = m
          · subst him; exact hb
          · exact k3 i (by omega)
      · have hge := of_decide_eq_false hge
        rw [he1] at hge
        have hm : m = l.length := by dsimp only at hge; omega
        subst hm
        rw [hg, great_any k3])
theorem great_gives : Gives prog RG 11 cGreat := gives (allCons check_gives (allCons lens_gives allNil)) (fun p => lGreat p.1) (by kernel_rfl) (by kernel_rfl) (by kernel_rfl) fun (l, ()) _ => great_vc l

theorem same_vc (l m : List Node) : vc (EV [(23, cEqual)]) (lSame l m) Go.Proofs.Tryd.f28 cSame (l, m, ()) := (same_eq l m).mpr (by
  intro e hs1 hs2
  have hl1 : l.length ≤ most := hs1.len
  have hl2 : m.length ≤ most := hs2.len
  simp only [most] at hl1 hl2
  refine ⟨⟨(0, decide (l.length = m.length), ()), by trivial, by trivial, by trivial, rfl, ?_, by trivial, by trivial, Int.le_refl _, by dsimp only; omega, by simp [e]⟩, ?_⟩
  · dsimp only
    rw [Bool.eq_iff_iff]; simp; omega
  rintro ⟨i, b, ⟨⟩⟩ e2 e1 e0 ⟨h0, h1, h2⟩
  dsimp only at h0 h1 h2
  obtain ⟨k, rfl⟩ := Int.eq_ofNat_of_zero_le h0
  simp only [Int.toNat_natCast] at h2
  have h2' : b = true ↔ (l.length = m.length ∧ l.take k = m.take k) := by rw [h2]; simp [e2, e]
  refine ⟨fun hb => ?_, fun hb => ?_⟩
  · have hb : (b && decide ((k : Int) < l.length)) = true := hb
    simp only [Bool.and_eq_true, decide_eq_true_eq] at hb
    obtain ⟨hb, hlt⟩ := hb
    obtain ⟨hlen, htk⟩ := h2'.1 hb
    have hX : (l.getD k e0 = l.getD k node0) := rfl
    refine ⟨⟨h0, hlt⟩, ⟨h0, by show (k : Int) < _; omega⟩, ((k + 1 : Nat), decide (l.getD k node0 = m.getD k node0), ()), by trivial, by trivial, by trivial, ?_, ?_, by trivial, by trivial, ⟨by omega, by dsimp only; omega, ?_⟩, by show l.length - (k + 1) < l.length - k; omega⟩
    · rw [w64_id (by dsimp only; omega) (by dsimp only; omega)]; rfl
    · have key : ∀ x y : Node, (x.kind == y.kind && x.a == y.a && x.b == y.b && x.from_ == y.from_ && x.len == y.len && x.n == y.n && decide (x.words = y.words)) = decide (x = y) := by
        intro x y
        obtain ⟨x1, x2, x3, x4, x5, x6, xw⟩ := x
        obtain ⟨y1, y2, y3, y4, y5, y6, yw⟩ := y
        rw [Bool.eq_iff_iff]
        simp [and_assoc]
      exact key _ _
    · show decide (l.getD k node0 = m.getD k node0) = (decide (l.length = m.length) && decide (l.take (k + 1) = m.take (k + 1)))
      rw [Bool.eq_iff_iff, take_succ_getD (by omega : k < l.length) node0, take_succ_getD (by omega : k < m.length) node0, htk]
      simp [hlen]
  · have hb : (b && decide ((k : Int) < l.length)) = false := hb
    have : b = decide (l = m) := by
      rw [Bool.eq_iff_iff, h2', decide_eq_true_eq]
      simp only [Bool.and_eq_false_iff, decide_eq_false_iff_not] at hb
      constructor
      · rintro ⟨h3, h4⟩
        have hk : k = l.length := by
          rcases hb with hb | hb
          · exact absurd (h2'.2 ⟨h3, h4⟩) (by simp [hb])
          · omega
        subst hk
        rw [List.take_length] at h4
        rw [h3, List.take_length] at h4
        exact h4
      · rintro rfl
        exact ⟨rfl, rfl⟩
    show (b, ()) = (decide (l = m), ())
    rw [this])
theorem same_gives : Gives prog RG 28 cSame := gives (allCons equal_gives allNil) (fun p => lSame p.1 p.2.1) (by kernel_rfl) (by kernel_rfl) (by kernel_rfl) fun (l, m, ()) _ => same_vc l m

theorem tells_vc (l : List Node) (a : Int) (ps : List Int) (p : Int) : vc (EV [(11, cGreat), (12, cRoped), (13, cLenR), (14, cLenR), (15, cDepthR), (16, cDepthR), (17, cFlatR), (18, cFlatR), (19, cGatherR), (20, cGatherR), (21, cCostR), (22, cCostR), (23, cEqual)]) noL Go.Proofs.Tryd.f3 cTells (l, a, ps, p, ()) := (tells_eq l a ps p).mpr (by
  intro e5 e4 e3 e2 e1 e0 _ _
  refine ⟨fun _ => rfl, fun _ => ⟨fun h => ?_, fun _ => by simp⟩⟩
  have : e0 = false := by simp [e0]
  rw [this] at h; cases h)
theorem tells_gives : Gives prog RG 3 cTells :=
  gives (allCons great_gives (allCons roped_gives (allCons lenP_gives (allCons lenR_gives (allCons depthP_gives (allCons depthR_gives (allCons flatP_gives (allCons flatR_gives (allCons gatherP_gives (allCons gatherR_gives (allCons costP_gives (allCons costR_gives (allCons equal_gives allNil)))))))))))))
    (fun _ => noL) (by kernel_rfl) (by kernel_rfl) (by kernel_rfl) fun (l, a, ps, p, ()) _ => tells_vc l a ps p
end Go.Rp
end

section
set_option linter.unusedVariables false
set_option linter.unusedSimpArgs false
set_option maxRecDepth 100000
open Go Go.VT
namespace Go.Rp

theorem same_self (l : List Node) : sameOf l l = true := by simp [sameOf]

theorem makes_vc (l : List Node) (w : List Int) (n0 n1 n2 n3 : Int) : vc (EV [(11, cGreat), (12, cRoped), (29, cWordsP), (30, cWordsR), (31, cCatR), (32, cCatR), (33, cCheck), (34, cCheck), (35, cPartR), (36, cPartR), (37, cOffR), (38, cOffR), (28, cSame)]) noL Go.Proofs.Tryd.f5 cMakes (l, w, n0, n1, n2, n3, ()) := (makes_eq l w n0 n1 n2 n3).mpr (by
  intro e9 e8 e7 e6 e5 e4 e3 e2 e1 e0 _ _
  refine ⟨fun _ => rfl, fun h => ?_⟩
  have hw : w.length ≤ 4000000 := by
    have h1 : (greatOf l || decide ((w.length : Int) > 3000)) = false := h
    simp only [Bool.or_eq_false_iff, decide_eq_false_iff_not] at h1
    omega
  have he0 : e0 = false := by simp [e0, same_self]
  refine ⟨hw, hw, by decide, by decide, trivial, by decide, by decide, trivial, fun h => ?_, fun _ => ⟨by decide, by decide, by decide, trivial, by decide, by decide, by decide, trivial, by decide, by decide, trivial, by decide, by decide, trivial, by simp [same_self]⟩⟩
  rw [he0] at h; cases h)
theorem makes_gives : Gives prog RG 5 cMakes :=
  gives (allCons great_gives (allCons roped_gives (allCons wordsP_gives (allCons wordsR_gives (allCons catP_gives (allCons catR_gives (allCons checkP_gives (allCons check_gives (allCons partP_gives (allCons partR_gives (allCons offP_gives (allCons offR_gives (allCons same_gives allNil)))))))))))))
    (fun _ => noL) (by kernel_rfl) (by kernel_rfl) (by kernel_rfl) fun (l, w, n0, n1, n2, n3, ()) _ => makes_vc l w n0 n1 n2 n3

theorem keeps_vc (l : List Node) (a : Int) (r : List Int) (hp : r.length ≤ 17592186044000) : vc (EV [(11, cGreat), (12, cRoped), (24, cEvenP), (25, cEvenP), (26, cKeepP), (27, cKeepR), (28, cSame), (23, cEqual)]) noL Go.Proofs.Tryd.f4 cKeeps (l, a, r, ()) := (keeps_eq l a r).mpr (by
  intro e4 e3 e2 e1 e0 _ _
  refine ⟨fun _ => rfl, fun h => ?_⟩
  have hl : l.length ≤ 60 := by
    unfold greatOf at h
    split at h
    · cases h
    · omega
  have he : e4 ≤ 17592186044416 := by show r.length + l.length ≤ _; omega
  exact ⟨trivial, trivial, he, he, by simp [same_self]⟩)
end Go.Rp
end

section
set_option linter.unusedVariables false
set_option linter.unusedSimpArgs false
set_option maxRecDepth 100000
open Go Go.VT
namespace Go.Rp

theorem joinOf_N : ∀ (k : Nat) (l : List Node) (L : List (Int × Int)) (r : List Int), (joinOf k l L r).1 = (joinN k l r).1 ∧ (joinOf k l L r).2.2 = (joinN k l r).2
  | 0, l, L, r => ⟨rfl, rfl⟩
  | k + 1, l, L, r => by
    simp only [joinOf, joinN]
    split
    · exact ⟨rfl, rfl⟩
    · obtain ⟨a1, a2⟩ := joinOf_N k l L (r.take (r.length / 2))
      generalize joinOf k l L (r.take (r.length / 2)) = A at a1 a2
      obtain ⟨l1, L1, v1⟩ := A
      simp only at a1 a2
      subst a1; subst a2
      obtain ⟨b1, b2⟩ := joinOf_N k (joinN k l (r.take (r.length / 2))).1 L1 (r.drop (r.length / 2))
      generalize hB : joinOf k (joinN k l (r.take (r.length / 2))).1 L1 (r.drop (r.length / 2)) = B at b1 b2
      obtain ⟨l2, L2, v2⟩ := B
      simp only at b1 b2
      subst b1; subst b2
      simp only [hB]
      constructor <;> first | trivial | rfl

/-- The lengths of the nodes that were there are known. -/
def lgOk (l : List Node) (S : Evn) : Prop := l.length ≤ S.l.length ∧ ∀ j : Int, 0 ≤ j → j < l.length → lg S.L j = at_ (lensOf l) j

theorem lg_putL {l : List Node} {L : List (Int × Int)} {v j : Int} (h : j < l.length) : lg (putL l L v) j = lg L j := by
  unfold putL
  rw [lg_mput, if_neg (by omega)]

theorem step_evr {l : List Node} {S : Evn} {p : Piece} (h : lgOk l S) (h0 : 0 ≤ p.node) (h1 : p.node < l.length) :
    evr (lensOf l) (S.l, S.r) p = ((S.step p).l, (S.step p).r) ∧ lgOk l (S.step p) := by
  obtain ⟨hl, hlg⟩ := h
  have hpn := hlg p.node h0 h1
  unfold Evn.step Evn.off Evn.part putIf evr ofs prt lgOk
  rw [hpn]
  by_cases c1 : p.len < at_ (lensOf l) p.node
  · by_cases c2 : p.n = 0
    · simp only [c1, c2, decide_true, if_true, if_pos, bne_self_eq_false, ne_eq, not_true_eq_false, if_false, Bool.false_eq_true]
      refine ⟨trivial, by simp; omega, fun j j0 j1 => ?_⟩
      rw [lg_putL (by omega)]; exact hlg j j0 j1
    · have c3 : (p.n != 0) = true := by simp [c2]
      simp only [c1, c2, c3, decide_true, if_true, ne_eq, not_false_eq_true]
      refine ⟨trivial, by simp; omega, fun j j0 j1 => ?_⟩
      rw [lg_putL (by simp; omega), lg_putL (by omega)]; exact hlg j j0 j1
  · by_cases c2 : p.n = 0
    · simp only [c1, c2, decide_false, bne_self_eq_false, ne_eq, not_true_eq_false, if_false, Bool.false_eq_true]
      exact ⟨trivial, by simpa using hl, hlg⟩
    · have c3 : (p.n != 0) = true := by simp [c2]
      simp only [c1, c2, c3, decide_false, if_true, ne_eq, not_false_eq_true, if_false, Bool.false_eq_true]
      refine ⟨trivial, by simp; omega, fun j j0 j1 => ?_⟩
      rw [lg_putL (by omega)]; exact hlg j j0 j1

def Evn.all (ps : List Piece) (S : Evn) : Evn := ps.foldl Evn.step S
theorem all_evr {l : List Node} : ∀ {ps : List Piece} {S : Evn}, lgOk l S → (∀ p ∈ ps, 0 ≤ p.node ∧ p.node < l.length) → evrAll (lensOf l) ps (S.l, S.r) = ((S.all ps).l, (S.all ps).r)
  | [], S, _, _ => rfl
  | p :: r, S, h, hp => by
    obtain ⟨h1, h2⟩ := step_evr h (hp p (by simp)).1 (hp p (by simp)).2
    have := all_evr (ps := r) h2 (fun q hq => hp q (by simp [hq]))
    simp only [evrAll, List.foldl_cons, Evn.all] at this ⊢
    rw [h1]
    exact this

theorem evn_step_len (S : Evn) (p : Piece) : S.l.length ≤ (S.step p).l.length ∧ (S.step p).r.length = S.r.length + 1 := by
  unfold Evn.step Evn.off Evn.part putIf
  refine ⟨?_, by simp⟩
  split <;> split <;> simp <;> omega

theorem all_len : ∀ (ps : List Piece) (S : Evn), S.l.length ≤ (S.all ps).l.length ∧ (S.all ps).r.length = S.r.length + ps.length
  | [], S => ⟨Nat.le_refl _, rfl⟩
  | p :: r, S => by
    have h1 := evn_step_len S p
    have h2 := all_len r (S.step p)
    simp only [Evn.all, List.foldl_cons, List.length_cons] at h2 ⊢
    omega

theorem run_all : ∀ (ps : List Piece) (S : Evn), (((Evn.run ps S).full || (Evn.run ps S).many) = false → Evn.run ps S = S.all ps) ∧
    (Evn.run ps S).l.length ≤ (S.all ps).l.length ∧ (Evn.run ps S).r.length ≤ (S.all ps).r.length
  | [], S => ⟨fun _ => rfl, Nat.le_refl _, Nat.le_refl _⟩
  | p :: r, S => by
    simp only [Evn.run]
    split
    · rename_i hb
      have h2 := all_len r (S.step p)
      refine ⟨fun h => (by rw [hb] at h; cases h), ?_, ?_⟩
      · show _ ≤ ((S.step p).all r).l.length; exact h2.1
      · show _ ≤ ((S.step p).all r).r.length; omega
    · exact run_all r (S.step p)

theorem even_same (l : List Node) (a : Int) : evenRefAt l a = evenAt l a := by
  unfold evenRefAt evenAt
  by_cases h : askedOf l [a] = 0
  · have hn : ¬ askedOf l [a] ≠ 0 := by simp [h]
    rw [if_neg hn, if_neg hn]
    obtain ⟨h1, h2, h3⟩ := asked_ok h
    have ha := h3 a (by simp)
    have hlb := lens_bound h2 ha.1 ha.2
    have hpw : walkPre l (longOf l) a 0 (at_ (lensOf l) a) 0 := ⟨⟨h1, h2, rfl⟩, ha, by decide, hlb.1, fun _ => ⟨Int.le_refl _, by omega⟩⟩
    obtain ⟨p1, _, _⟩ := pcs_ok (l := l) (L := longOf l) ⟨h1, h2, rfl⟩ _ a 0 (at_ (lensOf l) a) 0 rfl hpw
    have hnode : ∀ p ∈ pcsAt l a 0 (at_ (lensOf l) a) 0, 0 ≤ p.node ∧ p.node < l.length := fun p hp => (p1 p hp).2.1
    unfold evenRun
    generalize pcsAt l a 0 (at_ (lensOf l) a) 0 = ps at hnode
    have hlg : lgOk l ⟨l, longOf l, []⟩ := ⟨Nat.le_refl _, fun j j0 j1 => lg_long j0 j1⟩
    have hall := all_evr (ps := ps) hlg hnode
    have hall : evrAll (lensOf l) ps (l, []) = ((Evn.all ps ⟨l, longOf l, []⟩).l, (Evn.all ps ⟨l, longOf l, []⟩).r) := hall
    obtain ⟨r1, r2, r3⟩ := run_all ps ⟨l, longOf l, []⟩
    have hal := all_len ps ⟨l, longOf l, []⟩
    rw [hall]
    generalize Evn.run ps ⟨l, longOf l, []⟩ = R at r1 r2 r3
    generalize Evn.all ps ⟨l, longOf l, []⟩ = A at r1 r2 r3 hal
    have hrl : A.r.length = ps.length := by have := hal.2; simpa using this
    by_cases hb : (R.full || R.many) = true
    · rw [if_pos hb]
      split
      · rfl
      · have hbig : 4000 < A.l.length ∨ 4001 < A.r.length := by
          simp only [Bool.or_eq_true, Evn.full, Evn.many, decide_eq_true_eq] at hb
          omega
        unfold evrNot
        split
        · rename_i hr0
          have hr0 : A.r.length = 0 := hr0
          unfold evrEnd
          have hj := joinN_len 1 (A.l ++ [node0]) [(A.l.length : Int)] (by simp) (by simp)
          rw [if_pos (by
            show 4000 < (joinN 1 (A.l ++ [node0]) [(A.l.length : Int)]).1.length
            simp only [List.length_append, List.length_cons, List.length_nil] at hj
            omega)]
        · rename_i hr0
          have hr0 : ¬ A.r.length = 0 := hr0
          unfold evrEnd
          have hj := joinN_len A.r.length A.l A.r (by omega) (Nat.le_refl _)
          rw [if_pos (by show 4000 < (joinN A.r.length A.l A.r).1.length; omega)]
    · have hb : (R.full || R.many) = false := by simpa using hb
      have hRA := r1 hb
      subst hRA
      rw [if_neg (show ¬ (R.full || R.many) = true by rw [hb]; simp)]
      simp only [Bool.or_eq_false_iff, Evn.full, Evn.many, decide_eq_false_iff_not] at hb
      rw [if_neg (show ¬ 8001 < ps.length by omega)]
      unfold evrNot evenEnd
      by_cases hr0 : R.r.length = 0
      · rw [if_pos hr0, if_pos hr0]
        have hj : joinN 1 (R.l ++ [node0]) [(R.l.length : Int)] = (R.l ++ [node0], (R.l.length : Int)) := by simp [joinN, at_]
        unfold evrEnd
        show (if 4000 < (joinN 1 (R.l ++ [node0]) [(R.l.length : Int)]).1.length then _ else ((joinN 1 (R.l ++ [node0]) [(R.l.length : Int)]).1, (joinN 1 (R.l ++ [node0]) [(R.l.length : Int)]).2, 0)) = _
        rw [hj]
        have hpb := putBad_iff (l := R.l) (m := 0) (by decide)
        by_cases hfull : 4000 ≤ R.l.length
        · rw [if_pos (by simp; omega), if_pos (hpb.1.2 hfull)]
        · rw [if_neg (by simp; omega), if_neg (by rw [hpb.2.2 (by omega)]; simp)]
      · rw [if_neg hr0, if_neg hr0]
        obtain ⟨j1, j2⟩ := joinOf_N R.r.length R.l R.L R.r
        have hj := joinN_len R.r.length R.l R.r (by omega) (Nat.le_refl _)
        unfold evrEnd joinBad joinAt
        by_cases hbig : 4001 < R.l.length + R.r.length
        · rw [if_pos (by show 4000 < (joinN R.r.length R.l R.r).1.length; omega), if_pos (by simpa using hbig)]
        · rw [if_neg (by show ¬ 4000 < (joinN R.r.length R.l R.r).1.length; omega), if_neg (by simpa using hbig), j1, j2]
  · rw [if_pos h, if_pos h]

theorem evenR_gives' : Gives prog RG 25 cEvenP := by
  have h := evenR_gives
  have : cEvenR = cEvenP := by
    unfold cEvenR cEvenP
    have e : (fun p : Dens RU.T [nodes, i64] => evenRefAt p.1 p.2.1) = (fun p : Dens RU.T [nodes, i64] => evenAt p.1 p.2.1) := by
      funext p
      exact even_same p.1 p.2.1
    rw [e]
  rwa [this] at h

theorem keeps_gives : Gives prog RG 4 cKeeps :=
  gives (allCons great_gives (allCons roped_gives (allCons evenP_gives (allCons evenR_gives' (allCons keepP_gives (allCons keepR_gives (allCons same_gives (allCons equal_gives allNil))))))))
    (fun _ => noL) (by kernel_rfl) (by kernel_rfl) (by kernel_rfl) fun (l, a, r, ()) hp => keeps_vc l a r hp
end Go.Rp
end

section
set_option linter.unusedVariables false
set_option linter.unusedSimpArgs false
namespace Go.Proofs.YtcgjnkdcfpegiaaDoor
open Go.ChangeShapes Go.WideShapes Go.ChangeAt Go.RowKit Go.VT

abbrev argsKeeps : List ArgT := [(24, true, [Go.Rp.nodes]), (3, false, [Go.Rp.i64]), (25, false, [Go.Rp.ints])]

set_option maxRecDepth 100000 in
theorem keeps_lifted (os : Os) (started : os.Started) (H : Type) (enc : TypeId × Value → H) :
    ReturnsInHanded {} Tryd.checked os 4 .any (fun w args => (Rows.ropeKeepsSpec.pre enc Tryd.prog Tryd.f4 [] false w args ∧ laidMetH Tryd.prog laid1 w) ∧ sizedMet enc Tryd.prog Tryd.f4 (OpenSpec.ofChange Rows.ropeKeepsSpec) false w args)
      (Rows.ropeKeepsSpec.post enc Tryd.prog Tryd.f4 false true false false) := by
  refine returnsInHanded_of_change_and (C := Tryd.checked) (X := fun w _ => laidMetH Tryd.prog laid1 w) (fun _ _ _ hh h => h.of_heap hh) own started (by kernel_rfl) Tryd.func4
    (ChangeSpec.witness_shaped (enc := enc) (C := Tryd.checked) (os := os) (X := fun w _ => laidMetH Tryd.prog laid1 w) false (World.doorLaid Tryd.prog 600 os) #[.agg #[.slice none 0 0], .int .i64 0, .slice none 0 0] 8 rfl (World.shaped_of_RefB (by kernel_rfl) (by kernel_rfl)) (by kernel_rfl) (by kernel_rfl) (by kernel_rfl) (door_met os _)) ?_
  intro W base args ds gs before hval0 hW _ hsz hL _
  have hval : ∀ (j : Nat) t v, Tryd.f4.params[j]? = some t → args[j]? = some v → Value.okWide Tryd.prog W .any base t v := hval0
  have hW' := hW
  obtain ⟨p, q, hA0, hV, rfl, hfz, hnd⟩ := hW
  have hA : DataW.TrodAll enc Tryd.prog W 0 (fun _ => true) true Tryd.f4.params.toList args.toList ds p := hA0
  have hps : Tryd.f4.params.toList = argsKeeps.map (·.1) := by rw [Tryd.params4]; rfl
  obtain ⟨rfl, rfl⟩ : gs = [] ∧ q = [] := by
    cases gs with
    | nil => exact ⟨rfl, hV⟩
    | cons g r => exact absurd hV (by intro h; cases h)
  have hsz' : ∀ n ∈ DataW.weightsEach Tryd.prog Tryd.f4.params.toList ds, n ≤ reachBytes := by
    intro n hn
    have h1 : (DataW.weightsEach Tryd.prog (Tryd.f4.params.toList ++ []) (ds ++ [])).all (· ≤ reachBytes) = true := hsz
    rw [List.append_nil, List.append_nil] at h1
    simpa using List.all_eq_true.1 h1 n hn
  rw [hps] at hA hsz'
  obtain ⟨xs, us, hr, hp⟩ := args_rep read_ok (A := argsKeeps) (fun a ha => by
    simp only [List.mem_cons, List.not_mem_nil, or_false] at ha
    rcases ha with rfl | rfl | rfl
    · exact arg_store
    · exact arg_int
    · exact arg_ints) (fun j t v hj hv => hval j t v (by rw [← hps] at hj; simpa using hj) (by simpa using hv)) hA hsz'
  obtain ⟨d1, d2, d3, rfl⟩ : ∃ d1 d2 d3, ds = [d1, d2, d3] := by
    have hlen := trodAll_len hA
    match ds, hlen with
    | [d1, d2, d3], _ => exact ⟨_, _, _, rfl⟩
  have hpre : (xs.2.2.1 : List Int).length ≤ 17592186044000 := by
    obtain ⟨v1, v2, v3, d1', d2', d3', p1, p2, p3, hargs, hds, _, _, _, t3⟩ := trodAll_three hA
    simp only [List.cons.injEq, and_true] at hds
    obtain ⟨rfl, rfl, rfl⟩ := hds
    subst hargs
    obtain ⟨a1, r1, v', vs', e1, e2, e3, e4, e5⟩ := hp
    obtain ⟨c1, r2, vs2, e6, _, e7, e8⟩ := e5
    obtain ⟨c2, r3, vs3, e9, _, e10, e11, e12⟩ := e8
    subst e1; subst e6; subst e9; subst e11
    simp only [List.cons.injEq] at e4
    obtain ⟨_, e4⟩ := e4
    rw [← e4] at e7
    simp only [List.cons.injEq] at e7
    obtain ⟨_, e7⟩ := e7
    rw [← e7] at e10
    simp only [List.cons.injEq] at e10
    obtain ⟨e10, _⟩ := e10
    obtain ⟨x1, ha1⟩ : ∃ x1, a1 = [x1] := List.length_eq_one_iff.1 e2
    subst ha1
    have hrep := hr.2.2 2 _ c2 rfl rfl
    rw [← e10] at hrep
    have := ints_small t3 (fun n hn => hsz' n (by simp only [List.map_cons, List.map_nil, DataW.weightsEach, List.mem_append]; exact .inr (.inr (.inl hn)))) (hval 2 25 v3 (by rw [Tryd.params4]; rfl) rfl) hrep
    omega
  have hcall := law_calls (pre := _) (A := argsKeeps) (w := W) Go.Rp.keeps_gives (of_laid hL) hr hp hpre
  rw [Array.toArray_toList] at hcall
  refine hcall.mono fun e W' ⟨he, hb⟩ => ⟨_, he, law_post rfl hW' hb (by kernel_rfl) rfl (fun t ht => ?_)⟩
  rw [hps] at ht
  simp only [List.map_cons, List.map_nil, List.mem_cons, List.not_mem_nil, or_false] at ht
  rcases ht with rfl | rfl | rfl <;> exact ⟨by kernel_rfl, of_decide_eq_true (by kernel_rfl)⟩

theorem keeps_holds : Rows.RopeKeepsSaid :=
  OpenClaim.holds_of_wide 4 Tryd.f4 rfl rfl rfl rfl rfl rfl rfl ⟨rfl, rfl, rfl, rfl, rfl⟩ rfl rfl rfl rfl rfl (by kernel_rfl) Tryd.func4 (by kernel_rfl)
    (of_decide_eq_true (by kernel_rfl)) (by unfold Func.isWrapper; first | (rw [if_pos (by decide +kernel)]; kernel_rfl) | (rw [if_neg (by decide +kernel)]; exact ⟨rfl, rfl⟩))
    (fun os started H enc _ => keeps_lifted os started H enc)

theorem keeps_card : Rows.RopeKeepsCardSaid :=
  Claim7.holds_tied_plain_at .later [] [.funcs] true (true, "ed8b6c3168ac870bf0e8db294ef9ff29b1bb19f13067c1a4f5f266a3cad420dc") true
    keeps_holds (fun _ h => by cases h) (by kernel_rfl) (fun _ h => by cases h) ropeKeeps_row_tie rfl ⟨rfl, rfl⟩ (by kernel_rfl) rfl
    (fun f fn hf hfn => by
      obtain rfl : f = 4 := Option.some.inj ((show Tryd.prog.funcNamed "sheafworks/sheafworkslaw06.RopeKeeps" = some 4 by kernel_rfl).symm.trans hf) |>.symm
      obtain rfl : fn = Tryd.f4 := (Option.some.inj (Tryd.func4.symm.trans hfn)).symm
      exact ⟨by kernel_rfl, fun j t ht => by
        rw [Tryd.params4] at ht
        have hm : t ∈ [24, 3, 25] := by simpa using Array.mem_of_getElem? ht
        have hall : ([24, 3, 25].all fun u => !Tryd.prog.wantsStandIn u) = true := by kernel_rfl
        exact (show Tryd.prog.wantsStandIn t = false by simpa using List.all_eq_true.1 hall t hm)⟩)
    (by kernel_rfl)
end Go.Proofs.YtcgjnkdcfpegiaaDoor
end
