/-
RopeEvened (the row, tied by its card) holds: what is balanced has the same words and is not deep, and to balance it again makes it no deeper, for ropes that numbers make; no conditions.
-/
import Derived.Test.YtcgjnkdcfpegiaaDoorV5
import Derived.Test.YtcgjnkdcfpegiaaDoorCards
import Derived.Test.YtcgjnkdcfpegiaaDoorTie
import Derived.SevenTiedAt

section
set_option linter.unusedVariables false
set_option linter.unusedSimpArgs false
set_option maxRecDepth 100000
open Go Go.VT
namespace Go.Rp

theorem evened_vc (l : List Int) (n : Int) : vc (EV [(39, cBuilt), (12, cRoped), (40, cTurn), (24, cEvenP), (28, cSame), (33, cCheck), (17, cFlatR), (15, cDepthR), (23, cEqual)]) lEvened Go.Proofs.Tryd.f8 cEvened (l, n, ()) := (evened_eq l n).mpr (by
  obtain ⟨g, hn⟩ := bltOf_good l
  have hlw := g.lw
  have hv := g.v
  intro e0 e1 e2 e3 e4 e5 e6 e7 e8 e9 e10 e11 e12 e13 e14 e15 _
  refine ⟨fun _ => rfl, fun h9 => ?_⟩
  have h9' : (!true || ((bltOf l).W.length : Int) == 0) = false := h9
  have hW : (bltOf l).W.length ≠ 0 := fun hz => by rw [hz] at h9'; simp at h9'
  obtain ⟨a, ha⟩ : ∃ a, a = turnOf n ((bltOf l).W.length : Int) := ⟨_, rfl⟩
  have hat := turn_in (n := n) (b := ((bltOf l).W.length : Int)) (by omega)
  rw [← ha] at hat
  have ha1 : a < ((bltOf l).l.length : Int) := by omega
  have hln := g.len hat.1 ha1
  have hs := g.small a.toNat
  obtain ⟨w, hw⟩ : ∃ w, w = (bltOf l).W.getD a.toNat [] := ⟨_, rfl⟩
  rw [← hw] at hln hs
  obtain ⟨s, b, h⟩ := even_law hv hat.1 ha1 (by omega)
  obtain ⟨s2, c, h2, t2, d2⟩ := even_again hv hat.1 ha1 (by omega) h
  have hsn := h.n
  have hgt := g.txt hat.1 ha1
  rw [← hw] at hgt
  have htw : txt s b = w := h.t.trans hgt
  have hs4 : s.length ≤ 4000 := by omega
  have hls : at_ (lensOf s) b = (w.length : Int) := by rw [← txt_len h.v h.b0 h.b1, htw]
  have h2n := h2.n
  have hs24 : s2.length ≤ 4000 := by omega
  have hfl : flatAt s b = (w, 0) := by rw [flat_txt hs4 h.v h.b0 h.b1, htw]
  have hdp : depthAt s b = (dep s b, 0) := depth_txt hs4 h.v h.b0 h.b1
  have hfl2 : flatAt s2 c = (w, 0) := by rw [flat_txt hs24 h2.v h2.b0 h2.b1, t2, hgt]
  have hdp2 : depthAt s2 c = (dep s b, 0) := by rw [depth_txt hs24 h2.v h2.b0 h2.b1, d2]
  have hde : dep s b ≤ 3 + clog w.length := by
    rw [h.d, ← hgt]
    exact evDep_le hv hat.1 ha1 (by omega)
  obtain ⟨x, hx⟩ := h.pre
  have he0 : e0 = (s, b, 0) := by show evenAt (bltOf l).l (turnOf n ((bltOf l).W.length : Int)) = _; rw [← ha]; exact h.e
  have he2 : e2 = b := by show e0.snd.fst = b; rw [he0]
  have he4 : e4 = s := by show e0.fst = s; rw [he0]
  have he6 : e6 = ((bltOf l).l.length : Int) := by show ((bltOf l).W.length : Int) = _; rw [hlw]
  have he1 : e1 = true := by
    show decide ((flatAt e0.fst e0.snd.fst).fst = (bltOf l).W.getD (turnOf n ((bltOf l).W.length : Int)).toNat []) = true
    rw [← ha, he0]; dsimp only; rw [hfl, ← hw]; exact decide_eq_true rfl
  have he3 : e3 = false := by
    show (e0.snd.snd != 0 || decide ((e0.fst.length : Int) < ((bltOf l).W.length : Int)) || !sameOf (e0.fst.take ((bltOf l).W.length : Int).toNat) (bltOf l).l || checkOf e0.fst != 0) = false
    rw [he0]
    dsimp only
    rw [hlw, Int.toNat_natCast, hx, List.take_left, ← hx, checkOf, if_neg (by omega), if_pos h.v]
    have : ¬ ((s.length : Int) < ((bltOf l).l.length : Int)) := by rw [hx, List.length_append]; omega
    simp [sameOf, this]
  have hev : evenAt e4 e2 = (s2, c, 0) := by rw [he4, he2]; exact h2.e
  have he5 : e5 = false := by
    show ((flatAt e4 e2).snd != 0 || (depthAt e4 e2).snd != 0 || (evenAt e4 e2).snd.snd != 0) = false
    rw [hev, he4, he2, hfl, hdp]; rfl
  have he7 : e7 = (c, 0) := by show (evenAt e4 e2).snd = _; rw [hev]
  have he8 : e8 = w := by show (flatAt e4 e2).fst = _; rw [he4, he2, hfl]
  have he10 : e10 = s2 := by show (evenAt e4 e2).fst = _; rw [hev]
  have he11 : e11 = dep s b := by show (depthAt e4 e2).fst = _; rw [he4, he2, hdp]
  have he14 : e14 = (w.length : Int) := by show ((e8.length : Nat) : Int) = _; rw [he8]
  have he15 : e15 = (clog w.length : Int) := by show ((clog e8.length : Nat) : Int) = _; rw [he8]
  have hsl : (bltOf l).l.length ≤ s.length := by rw [hx, List.length_append]; omega
  have hcl := clog_lt w.length
  rw [show turnOf n e6 = a by rw [ha, he6, hlw]]
  have he00 : e0.snd.snd = 0 := by rw [he0]
  rw [he00]
  clear_value e0 e1 e2 e3 e4 e5 e6 e7 e8 e9 e10 e11 e12 e13 e14 e15
  subst he1 he3 he5 he7 he8 he10 he11 he14 he15 he6
  rw [he4]
  refine ⟨by omega, trivial, fun _ => ⟨by omega, by omega⟩, fun h => (by cases h), fun _ => ⟨trivial, fun _ => ⟨hat.1, ha1⟩, fun h => (by cases h), fun _ => ⟨⟨((e8.length : Int), 0, ()), ?_⟩, ?_⟩⟩⟩
  · and_intros <;> first | exact rfl | (dsimp only; omega) | (dsimp only; rw [Int.toNat_natCast]; omega)
  rintro ⟨m, k, ⟨⟩⟩
  dsimp only
  rintro ⟨⟨m0, m1⟩, k0, hk⟩
  obtain ⟨m, rfl⟩ := Int.eq_ofNat_of_zero_le m0
  rw [Int.toNat_natCast] at hk ⊢
  refine ⟨fun hm => ?_, fun hm => ?_⟩
  · have hm : (m : Int) > 1 := of_decide_eq_true hm
    have hst := clog_step (n := m) (by omega)
    have hw1 : IntKind.i64.wrap (Int.tdiv (IntKind.i64.wrap ((m : Int) + 1)) 2) = (((m + 1) / 2 : Nat) : Int) := by
      rw [w64_id (n := (m : Int) + 1) (by omega) (by omega), Int.tdiv_eq_ediv_of_nonneg (by omega), w64_id (by omega) (by omega)]
      omega
    have hw2 : IntKind.i64.wrap (k + 1) = k + 1 := w64_id (by omega) (by omega)
    refine ⟨by decide, ((((m + 1) / 2 : Nat) : Int), k + 1, ()), ?_⟩
    and_intros <;> first | exact rfl | exact hw1 | exact hw2 | (dsimp only; omega) | (dsimp only; rw [Int.toNat_natCast]; omega)
  · have hm : ¬ (m : Int) > 1 := of_decide_eq_false hm
    have := clog_one (n := m) (by omega)
    have hw : IntKind.i64.wrap (k + 3) = k + 3 := w64_id (by omega) (by omega)
    rw [hfl2, hdp2, hw]
    have : dep s b ≤ k + 3 := by omega
    simp [this])
theorem evened_gives : Gives prog RG 8 cEvened :=
  gives (allCons built_gives (allCons roped_gives (allCons turn_gives (allCons evenP_gives (allCons same_gives (allCons checkP_gives (allCons flatP_gives (allCons depthP_gives (allCons equal_gives allNil))))))))) (fun _ => lEvened) (by kernel_rfl) (by kernel_rfl) (by kernel_rfl) fun (l, n, ()) _ => evened_vc l n
end Go.Rp
end

section
set_option linter.unusedVariables false
set_option linter.unusedSimpArgs false
namespace Go.Proofs.YtcgjnkdcfpegiaaDoor
open Go.ChangeShapes Go.WideShapes Go.ChangeAt Go.RowKit Go.VT

abbrev argsEvened : List ArgT := [(25, false, [Go.Rp.ints]), (3, false, [Go.Rp.i64])]

set_option maxRecDepth 100000 in
theorem evened_lifted (os : Os) (started : os.Started) (H : Type) (enc : TypeId × Value → H) :
    ReturnsInHanded {} Tryd.checked os 8 .any (fun w args => (Rows.ropeEvenedSpec.pre enc Tryd.prog Tryd.f8 [] false w args ∧ laidMetH Tryd.prog laid1 w) ∧ sizedMet enc Tryd.prog Tryd.f8 (OpenSpec.ofChange Rows.ropeEvenedSpec) false w args)
      (Rows.ropeEvenedSpec.post enc Tryd.prog Tryd.f8 false true false false) := by
  refine returnsInHanded_of_change_and (C := Tryd.checked) (X := fun w _ => laidMetH Tryd.prog laid1 w) (fun _ _ _ hh h => h.of_heap hh) own started (by kernel_rfl) Tryd.func8
    (ChangeSpec.witness_shaped (enc := enc) (C := Tryd.checked) (os := os) (X := fun w _ => laidMetH Tryd.prog laid1 w) false (World.doorLaid Tryd.prog 600 os) #[.slice none 0 0, .int .i64 0] 8 rfl (World.shaped_of_RefB (by kernel_rfl) (by kernel_rfl)) (by kernel_rfl) (by kernel_rfl) (by kernel_rfl) (door_met os _)) ?_
  intro W base args ds gs before hval0 hW _ hsz hL _
  have hval : ∀ (j : Nat) t v, Tryd.f8.params[j]? = some t → args[j]? = some v → Value.okWide Tryd.prog W .any base t v := hval0
  have hW' := hW
  obtain ⟨p, q, hA0, hV, rfl, hfz, hnd⟩ := hW
  have hA : DataW.TrodAll enc Tryd.prog W 0 (fun _ => true) true Tryd.f8.params.toList args.toList ds p := hA0
  have hps : Tryd.f8.params.toList = argsEvened.map (·.1) := by rw [Tryd.params8]; rfl
  obtain ⟨rfl, rfl⟩ : gs = [] ∧ q = [] := by
    cases gs with
    | nil => exact ⟨rfl, hV⟩
    | cons g r => exact absurd hV (by intro h; cases h)
  have hsz' : ∀ n ∈ DataW.weightsEach Tryd.prog Tryd.f8.params.toList ds, n ≤ reachBytes := by
    intro n hn
    have h1 : (DataW.weightsEach Tryd.prog (Tryd.f8.params.toList ++ []) (ds ++ [])).all (· ≤ reachBytes) = true := hsz
    rw [List.append_nil, List.append_nil] at h1
    simpa using List.all_eq_true.1 h1 n hn
  rw [hps] at hA hsz'
  obtain ⟨xs, us, hr, hp⟩ := args_rep read_ok (A := argsEvened) (fun a ha => by
    simp only [List.mem_cons, List.not_mem_nil, or_false] at ha
    rcases ha with rfl | rfl
    · exact arg_ints
    · exact arg_int) (fun j t v hj hv => hval j t v (by rw [← hps] at hj; simpa using hj) (by simpa using hv)) hA hsz'
  obtain ⟨d1, d2, rfl⟩ : ∃ d1 d2, ds = [d1, d2] := by
    have hlen := trodAll_len hA
    match ds, hlen with
    | [d1, d2], _ => exact ⟨_, _, rfl⟩
  have hcall := law_calls (pre := none) (A := argsEvened) (w := W) Go.Rp.evened_gives (of_laid hL) hr hp trivial
  rw [Array.toArray_toList] at hcall
  refine hcall.mono fun e W' ⟨he, hb⟩ => ⟨_, he, law_post rfl hW' hb (by kernel_rfl) rfl (fun t ht => ?_)⟩
  rw [hps] at ht
  simp only [List.map_cons, List.map_nil, List.mem_cons, List.not_mem_nil, or_false] at ht
  rcases ht with rfl | rfl <;> exact ⟨by kernel_rfl, of_decide_eq_true (by kernel_rfl)⟩

theorem evened_holds : Rows.RopeEvenedSaid :=
  OpenClaim.holds_of_wide 8 Tryd.f8 rfl rfl rfl rfl rfl rfl rfl ⟨rfl, rfl, rfl, rfl, rfl⟩ rfl rfl rfl rfl rfl (by kernel_rfl) Tryd.func8 (by kernel_rfl)
    (of_decide_eq_true (by kernel_rfl)) (by unfold Func.isWrapper; first | (rw [if_pos (by decide +kernel)]; kernel_rfl) | (rw [if_neg (by decide +kernel)]; exact ⟨rfl, rfl⟩))
    (fun os started H enc _ => evened_lifted os started H enc)

theorem evened_card : Rows.RopeEvenedCardSaid :=
  Claim7.holds_tied_plain_at .later [] [.funcs] true (true, "ed8b6c3168ac870bf0e8db294ef9ff29b1bb19f13067c1a4f5f266a3cad420dc") true
    evened_holds (fun _ h => by cases h) (by kernel_rfl) (fun _ h => by cases h) ropeEvened_row_tie rfl ⟨rfl, rfl⟩ (by kernel_rfl) rfl
    (fun f fn hf hfn => by
      obtain rfl : f = 8 := Option.some.inj ((show Tryd.prog.funcNamed "sheafworks/sheafworkslaw06.RopeEvened" = some 8 by kernel_rfl).symm.trans hf) |>.symm
      obtain rfl : fn = Tryd.f8 := (Option.some.inj (Tryd.func8.symm.trans hfn)).symm
      exact ⟨by kernel_rfl, fun j t ht => by
        rw [Tryd.params8] at ht
        have hm : t ∈ [25, 3] := by simpa using Array.mem_of_getElem? ht
        have hall : ([25, 3].all fun u => !Tryd.prog.wantsStandIn u) = true := by kernel_rfl
        exact (show Tryd.prog.wantsStandIn t = false by simpa using List.all_eq_true.1 hall t hm)⟩)
    (by kernel_rfl)
end Go.Proofs.YtcgjnkdcfpegiaaDoor
end
