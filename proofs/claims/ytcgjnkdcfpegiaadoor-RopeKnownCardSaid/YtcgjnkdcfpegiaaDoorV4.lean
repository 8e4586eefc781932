/-
What the last text of this claim uses: VtBr, RpSpec, RpBase, RpRow, VtDf, RpP, RpP2, RpP3, RpCt, RpP4, RpP5, RpP6, RpP7, RpGr, RpUn0, RpKp, RpLw, RpKn0, VtFr, RpKn1, RpEq23, RpEq12, RpEq11, RpEq10, RpEq9, RpEq8, RpEq, RpA, RpB, RpC, RpE, RpH0, RpEq7, RpG, RpH, RpF.
-/
import Derived.Test.YtcgjnkdcfpegiaaDoorV3
import Derived.LaidMore
import Derived.OpenShut
import Derived.ProofKit
import Derived.Laws.Bits
import Derived.Test.YtcgjnkdcfpegiaaDoorProg
import Derived.KernelRfl
import Derived.Test.YtcgjnkdcfpegiaaDoorRows
import Derived.Stop.Joined
import Derived.RecoverIn
import Derived.Tactics2
import Derived.TacticsInMore
import Derived.WideLaws
import Derived.Laws.Append
import Derived.Laws.AppendOwn

section
set_option linter.unusedVariables false
open Go.WideShapes Go.ChangeShapes
namespace Go.VT
noncomputable section
variable {U : Univ} {H : Type} {enc : TypeId × Value → H} {P : Program} {w : World} {base : Nat} {sp : Nat → Bool} {held : Bool}

def ReadOk (P : Program) (U : Univ) (L : List (TypeId × Ty)) : Prop := ∀ t ty, (t, ty) ∈ L → match ty with
  | .int k => P.underlying t = some (.int k)
  | .bool => P.underlying t = some .bool
  | .slice e t' => P.underlying t = some (.slice e) ∧ P.cellsOf e = szOf U t' ∧ 0 < P.cellsOf e ∧ 0 < P.bytesOf e ∧ (e, t') ∈ L
  | .user i => ∃ fs, P.underlying t = some (.struct fs) ∧ P.cellsOf t = (U.fields i).length ∧ fs.size = (U.fields i).length ∧
      ∀ (j : Nat) (f : Field) (ty' : Ty), fs[j]? = some f → (U.fields i)[j]? = some ty' → f.offset = j ∧ P.cellsOf f.type = 1 ∧ isUser ty' = false ∧ (f.type, ty') ∈ L
  | _ => False

theorem list_of {α : Type} {Q : Nat → α → Prop} : ∀ (n : Nat), (∀ i, i < n → ∃ x, Q i x) → ∃ l : List α, l.length = n ∧ ∀ i x, l[i]? = some x → Q i x
  | 0, _ => ⟨[], rfl, fun i x h => by simp at h⟩
  | n + 1, h => by
    obtain ⟨l, h1, h2⟩ := list_of n (fun i hi => h i (by omega))
    obtain ⟨x, hx⟩ := h n (by omega)
    refine ⟨l ++ [x], by simp [h1], fun i y hy => ?_⟩
    rw [List.getElem?_append] at hy
    split at hy
    · exact h2 i y hy
    · rename_i hi
      have hin : i = n := by
        have := (List.getElem?_eq_some_iff.1 hy).1
        simp at this; omega
      subst hin
      simp [h1] at hy
      subst hy
      exact hx

theorem dens_of : ∀ (ts : List Ty) (Q : Nat → Datum U → Prop), (∀ (j : Nat) (ty : Ty), ts[j]? = some ty → ∃ x : den U.T ty, Q j ⟨ty, x⟩) → ∃ c : Dens U.T ts, ∀ (j : Nat) (d : Datum U), (toList U ts c)[j]? = some d → Q j d
  | [], Q, _ => ⟨(), fun j d h => by simp [toList] at h⟩
  | t :: ts, Q, h => by
    obtain ⟨x, hx⟩ := h 0 t rfl
    obtain ⟨c, hc⟩ := dens_of ts (fun j d => Q (j + 1) d) (fun j ty hj => h (j + 1) ty hj)
    refine ⟨(x, c), fun j d hd => ?_⟩
    cases j with
    | zero =>
      simp only [toList, List.getElem?_cons_zero, Option.some.injEq] at hd
      subst hd
      exact hx
    | succ j => exact hc j d (by simpa [toList] using hd)

theorem cells_one {ty : Ty} (h : isUser ty = false) (x : den U.T ty) : cellsOf U ty x = [⟨ty, x⟩] := by
  cases ty <;> first | rfl | simp [isUser] at h

theorem weights_all {e : TypeId} : ∀ {ds : List (DataW H)} {d : DataW H} {n : Nat}, d ∈ ds → n ∈ d.weights P e → n ∈ DataW.weightsAll P e ds
  | [], _, _, h, _ => by simp at h
  | x :: r, d, n, h, hn => by
    simp only [DataW.weightsAll, List.mem_append]
    rcases List.mem_cons.1 h with rfl | h
    · exact .inl hn
    · exact .inr (weights_all h hn)

theorem weights_each : ∀ {ts : List TypeId} {ds : List (DataW H)} {j : Nat} {t : TypeId} {d : DataW H} {n : Nat}, ts[j]? = some t → ds[j]? = some d → n ∈ d.weights P t → n ∈ DataW.weightsEach P ts ds
  | [], _, _, _, _, _, h, _, _ => by simp at h
  | _ :: _, [], _, _, _, _, _, h, _ => by simp at h
  | t0 :: ts, d0 :: ds, j, t, d, n, h1, h2, hn => by
    simp only [DataW.weightsEach, List.mem_append]
    cases j with
    | zero =>
      simp only [List.getElem?_cons_zero, Option.some.injEq] at h1 h2
      subst h1; subst h2
      exact .inl hn
    | succ j => exact .inr (weights_each (by simpa using h1) (by simpa using h2) hn)

theorem add_add (g o i j : Nat) : ((⟨g, o, none⟩ : Addr).add i).add j = ⟨g, o + i + j, none⟩ := by
  unfold Addr.add
  by_cases hi : i = 0 <;> by_cases hj : j = 0 <;> simp [hi, hj]

theorem read_rep {L : List (TypeId × Ty)} (hL : ReadOk P U L) : ∀ (fuel : Nat) {t : TypeId} {ty : Ty} {cs : List Value} {d : DataW H} {p : List MemPlace}, (t, ty) ∈ L → DataW.trod enc P w base sp held fuel t cs = some (d, p) →
    (∀ n ∈ d.weights P t, n ≤ reachBytes) → ∃ x : den U.T ty, cs.length = szOf U ty ∧ (∀ v ∈ cs, v.oneCell' = true) ∧ ∀ (j : Nat) (dd : Datum U) (u : Value), (cellsOf U ty x)[j]? = some dd → cs[j]? = some u → Rep U w (fun _ => False) dd u
  | 0, t, ty, cs, d, p, _, h, _ => by simp [DataW.trod] at h
  | fuel + 1, t, ty, cs, d, p, hm, h, hw => by
    have hok := hL t ty hm
    have one : ∀ {ty : Ty} {x : den U.T ty} {v : Value}, isUser ty = false → Rep U w (fun _ => False) ⟨ty, x⟩ v → ∀ (j : Nat) (dd : Datum U) (u : Value), (cellsOf U ty x)[j]? = some dd → [v][j]? = some u → Rep U w (fun _ => False) dd u := by
      intro ty x v hu hr j dd u h1 h2
      rw [cells_one hu] at h1
      cases j with
      | zero =>
        simp only [List.getElem?_cons_zero, Option.some.injEq] at h1 h2
        subst h1; subst h2
        exact hr
      | succ j => simp at h1
    cases ty with
    | int k =>
      obtain ⟨n, rfl, _, _⟩ := DataW.trod_int hok h
      exact ⟨n, rfl, by simp [Value.oneCell'], one rfl (.int k n)⟩
    | bool =>
      obtain ⟨b, rfl, _⟩ := DataW.trod_bool hok h
      exact ⟨b, rfl, by simp [Value.oneCell'], one rfl (.bool b)⟩
    | str => exact hok.elim
    | map _ _ => exact hok.elim
    | ifc _ => exact hok.elim
    | slice e t' =>
      obtain ⟨hu, hc, hc0, hb0, hm'⟩ := hok
      rcases DataW.trod_slice hu h with ⟨rfl, _⟩ | ⟨a, len, cap, elems, rest, n, hf, rfl, hx, _, hl, _, hlen, hel, _, _⟩
      · exact ⟨[], rfl, by simp [Value.oneCell'], one rfl (.nil e t' none 0)⟩
      · have hfn : fuel = n := by omega
        subst hfn
        simp only [Prod.mk.injEq] at hx
        obtain ⟨rfl, _⟩ := hx
        have hwl : elems.length ≤ most := by
          have := hw ((elems.length + rest.length) * P.bytesOf e) (by simp [DataW.weights, hu])
          have h1 : (elems.length + rest.length) * 1 ≤ (elems.length + rest.length) * P.bytesOf e := Nat.mul_le_mul_left _ hb0
          simp only [reachBytes, most] at *
          omega
        have hall : ∀ i, i < len → ∃ x : den U.T t', ∃ cs', w.cells? base (a.add (i * szOf U t')) (szOf U t') = some cs' ∧ ∀ (j : Nat) (dd : Datum U) (u : Value), (cellsOf U t' x)[j]? = some dd → cs'[j]? = some u → Rep U w (fun _ => False) dd u := by
          intro i hi
          have h1 := hel i hi
          rw [List.getElem?_eq_getElem (by omega)] at h1
          obtain ⟨cs', h2, h3⟩ := Option.bind_eq_some_iff.1 h1
          rw [hc] at h2
          obtain ⟨x, hx1, hx2, hx3⟩ := read_rep hL fuel (d := elems[i].1) (p := elems[i].2) hm' h3 (fun q hq => hw q (by
            simp only [DataW.weights, hu, List.mem_cons, List.mem_append]
            exact .inr (.inl (weights_all (List.mem_map.2 ⟨elems[i], List.getElem_mem _, rfl⟩) hq))))
          exact ⟨x, cs', h2, hx3⟩
        obtain ⟨l, hll, hlq⟩ := list_of len hall
        refine ⟨l, rfl, by simp [Value.oneCell'], one rfl ?_⟩
        cases l with
        | nil =>
          simp only [List.length_nil] at hll
          subst hll
          exact .nil e t' (some a) cap
        | cons x0 l0 =>
          have hcell : ∀ i, i < len → ∀ j, j < szOf U t' → ∃ v, w.cell? ((a.add (i * szOf U t')).add j) = some v := by
            intro i hi j hj
            obtain ⟨x, hx⟩ : ∃ x, (x0 :: l0)[i]? = some x := ⟨_, List.getElem?_eq_getElem (by omega)⟩
            obtain ⟨cs', h1, _⟩ := hlq i x hx
            obtain ⟨_, h2, h3⟩ := World.cells?_some h1
            exact ⟨_, by rw [h3 j hj]; exact List.getElem?_eq_getElem (by omega)⟩
          have hpos : 0 < len := by rw [← hll]; simp
          obtain ⟨v0, hv0⟩ := hcell 0 hpos 0 (by omega)
          obtain ⟨g, o, spot⟩ := a
          have hspot : spot = none := by simpa [Addr.add] using World.cell?_spot hv0
          subst hspot
          have hg : g < w.heap.size := by
            have : w.cell? ⟨g, o + 0 * szOf U t' + 0, none⟩ = some v0 := by simpa [Addr.add] using hv0
            unfold World.cell? at this
            cases hh : w.heap[g]? with
            | none => simp [hh] at this
            | some ob => exact (Array.getElem?_eq_some_iff.1 hh).1
          rw [← hll]
          refine .slice e t' (x0 :: l0) g o cap (fun i j => (w.cell? ⟨g, o + i * szOf U t' + j, none⟩).getD undef) (by simp) (by omega) (by omega) (fun h => h) hg (fun i hi j hj => ?_) (fun i x hx j dd hd => ?_)
          · obtain ⟨v, hv⟩ := hcell i (by omega) j hj
            have hv : w.cell? ⟨g, o + i * szOf U t' + j, none⟩ = some v := by rw [add_add] at hv; exact hv
            simp [hv]
          · obtain ⟨cs', h1, h2⟩ := hlq i x hx
            obtain ⟨_, h3, h4⟩ := World.cells?_some h1
            have hj : j < szOf U t' := by rw [← cellsOf_length U t' x]; exact (List.getElem?_eq_some_iff.1 hd).1
            have h5 := h4 j hj
            have h6 : w.cell? ⟨g, o + i * szOf U t' + j, none⟩ = cs'[j]? := by rw [add_add] at h5; exact h5
            refine h2 j dd _ hd ?_
            rw [h6, List.getElem?_eq_getElem (by omega)]
            rfl
    | user i =>
      obtain ⟨fs, hu, hc, hfs, hfield⟩ := hok
      obtain ⟨xs, n, hf, hx, hlen, hxl, hel⟩ := DataW.trod_struct hu h
      have hfn : fuel = n := by omega
      subst hfn
      simp only [Prod.mk.injEq] at hx
      obtain ⟨rfl, _⟩ := hx
      have hj : ∀ (j : Nat) (ty' : Ty), (U.fields i)[j]? = some ty' → ∃ x : den U.T ty', ∃ v, cs[j]? = some v ∧ v.oneCell' = true ∧ Rep U w (fun _ => False) ⟨ty', x⟩ v := by
        intro j ty' hty
        have hjl : j < (U.fields i).length := (List.getElem?_eq_some_iff.1 hty).1
        obtain ⟨f, hfj⟩ : ∃ f, fs[j]? = some f := ⟨_, Array.getElem?_eq_getElem (by omega)⟩
        obtain ⟨ho, hc1, hnu, hmem⟩ := hfield j f ty' hfj hty
        have h1 := hel j f hfj
        rw [ho, hc1, List.getElem?_eq_getElem (by omega)] at h1
        obtain ⟨v, hv⟩ : ∃ v, cs[j]? = some v := ⟨_, List.getElem?_eq_getElem (by omega)⟩
        have h2 : (cs.drop j).take 1 = [v] := by
          have hjl' : j < cs.length := by omega
          rw [List.drop_eq_getElem_cons hjl']
          rw [List.getElem?_eq_getElem hjl'] at hv
          simp at hv
          simp [hv]
        rw [h2] at h1
        obtain ⟨x, hx1, hx2, hx3⟩ := read_rep hL fuel (d := xs[j].1) (p := xs[j].2) hmem h1 (fun q hq => hw q (by
          simp only [DataW.weights, hu]
          exact weights_each (j := j) (by simp; exact ⟨f, by simpa using hfj, rfl⟩) (by simp; exact ⟨xs[j].2, List.getElem?_eq_getElem (by omega)⟩) hq))
        exact ⟨x, v, hv, hx2 v (by simp), hx3 0 ⟨ty', x⟩ v (by rw [cells_one hnu]; rfl) rfl⟩
      obtain ⟨c, hcq⟩ := dens_of (U := U) (U.fields i) (fun j d => ∃ v, cs[j]? = some v ∧ v.oneCell' = true ∧ Rep U w (fun _ => False) d v) hj
      refine ⟨U.put i c, by rw [hlen, hc]; rfl, fun v hv => ?_, fun j dd u hd hu' => ?_⟩
      · obtain ⟨j, hjv⟩ := List.mem_iff_getElem?.1 hv
        have hjl : j < (U.fields i).length := by have := (List.getElem?_eq_some_iff.1 hjv).1; omega
        obtain ⟨x, v', h1, h2, _⟩ := hj j _ (List.getElem?_eq_getElem hjl)
        rw [hjv] at h1
        simp only [Option.some.injEq] at h1
        rw [h1]; exact h2
      · simp only [cellsOf, U.get_put] at hd
        obtain ⟨v, h1, _, h3⟩ := hcq j dd hd
        rw [hu'] at h1
        simp only [Option.some.injEq] at h1
        rw [h1]; exact h3

def ArgOk (P : Program) (U : Univ) (L : List (TypeId × Ty)) (t : TypeId) (agg : Bool) (tys : List Ty) : Prop :=
  (agg = false ∧ ∃ ty, tys = [ty] ∧ isUser ty = false ∧ (t, ty) ∈ L) ∨
  (agg = true ∧ ∃ fs, P.underlying t = some (.struct fs) ∧ P.cellsOf t = tys.length ∧ fs.size = tys.length ∧
      ∀ (j : Nat) (f : Field) (ty' : Ty), fs[j]? = some f → tys[j]? = some ty' → f.offset = j ∧ P.cellsOf f.type = 1 ∧ isUser ty' = false ∧ (f.type, ty') ∈ L) ∨
  (agg = true ∧ ∃ e, P.underlying t = some (.array tys.length e) ∧ P.cellsOf t = tys.length ∧ P.cellsOf e = 1 ∧ ∀ (j : Nat) (ty' : Ty), tys[j]? = some ty' → isUser ty' = false ∧ (e, ty') ∈ L)

def Reps (U : Univ) (w : World) (ds : List (Datum U)) (us : List Value) : Prop := us.length = ds.length ∧ (∀ u ∈ us, u.oneCell' = true) ∧ ∀ (j : Nat) (d : Datum U) (u : Value), ds[j]? = some d → us[j]? = some u → Rep U w (fun _ => False) d u

theorem one_at {cs : List Value} {j : Nat} (h : j < cs.length) : ∃ v, cs[j]? = some v ∧ (cs.drop j).take 1 = [v] := by
  refine ⟨cs[j], List.getElem?_eq_getElem h, ?_⟩
  rw [List.drop_eq_getElem_cons h]
  rfl

theorem cells_reps {cs : List Value} {tys : List Ty} (hl : cs.length = tys.length) (h : ∀ (j : Nat) (ty' : Ty), tys[j]? = some ty' → ∃ x : den U.T ty', ∃ v, cs[j]? = some v ∧ v.oneCell' = true ∧ Rep U w (fun _ => False) ⟨ty', x⟩ v) :
    ∃ xs : Dens U.T tys, Reps U w (toList U tys xs) cs := by
  obtain ⟨c, hc⟩ := dens_of (U := U) tys (fun j d => ∃ v, cs[j]? = some v ∧ v.oneCell' = true ∧ Rep U w (fun _ => False) d v) h
  refine ⟨c, by rw [toList_length, hl], fun v hv => ?_, fun j dd u hd hu' => ?_⟩
  · obtain ⟨j, hjv⟩ := List.mem_iff_getElem?.1 hv
    have hjl : j < tys.length := by have := (List.getElem?_eq_some_iff.1 hjv).1; omega
    obtain ⟨x, v', h1, h2, _⟩ := h j _ (List.getElem?_eq_getElem hjl)
    rw [hjv] at h1
    simp only [Option.some.injEq] at h1
    rw [h1]; exact h2
  · obtain ⟨v, h1, _, h3⟩ := hc j dd hd
    rw [hu'] at h1
    simp only [Option.some.injEq] at h1
    rw [h1]; exact h3

theorem arg_rep {L : List (TypeId × Ty)} (hL : ReadOk P U L) {t : TypeId} {agg : Bool} {tys : List Ty} (ha : ArgOk P U L t agg tys) {v : Value} {d : DataW H} {p : List MemPlace} {r : Reach} {b0 : Nat} (hv : Value.okWide P w r b0 t v)
    (h : DataW.Trod enc P w base sp held t v d p) (hw : ∀ n ∈ d.weights P t, n ≤ reachBytes) : ∃ (xs : Dens U.T tys) (us : List Value), Reps U w (toList U tys xs) us ∧ (agg = false → us = [v]) ∧ (agg = true → v = .agg us.toArray) := by
  obtain ⟨fuel, h⟩ := h
  rcases ha with ⟨rfl, ty, rfl, hu, hm⟩ | ⟨rfl, fs, hu, hc, hfs, hfield⟩ | ⟨rfl, e, hu, hc, hce, hel⟩
  · have hcell : v.cells.toList = [v] := by
      have hok := hL t ty hm
      cases ty with
      | int k => obtain ⟨n, rfl⟩ := okWide_int hok hv; rfl
      | bool => obtain ⟨n, rfl⟩ := okWide_bool hok hv; rfl
      | slice e t' => obtain ⟨a, l, c, rfl⟩ := okWide_slice hok.1 hv; rfl
      | user i => simp [isUser] at hu
      | str => exact hok.elim
      | map _ _ => exact hok.elim
      | ifc _ => exact hok.elim
    rw [hcell] at h
    obtain ⟨x, h1, h2, h3⟩ := read_rep hL fuel hm h hw
    refine ⟨(x, ()), [v], ⟨rfl, h2, fun j dd u hd hu' => h3 j dd u ?_ hu'⟩, fun _ => rfl, fun h => by cases h⟩
    rw [cells_one hu]
    exact hd
  · obtain ⟨cs, rfl, hsz⟩ := okWide_struct hu hv
    have h : DataW.trod enc P w base sp held fuel t cs.toList = some (d, p) := h
    obtain ⟨xs, n, rfl, hx, hlen, hxl, hels⟩ := DataW.trod_struct hu h
    simp only [Prod.mk.injEq] at hx
    obtain ⟨rfl, _⟩ := hx
    obtain ⟨c, hcr⟩ := cells_reps (U := U) (w := w) (cs := cs.toList) (tys := tys) (by rw [hlen, hc]) (fun j ty' hty => by
      have hjl : j < tys.length := (List.getElem?_eq_some_iff.1 hty).1
      obtain ⟨f, hfj⟩ : ∃ f, fs[j]? = some f := ⟨_, Array.getElem?_eq_getElem (by omega)⟩
      obtain ⟨ho, hc1, hnu, hmem⟩ := hfield j f ty' hfj hty
      have h1 := hels j f hfj
      rw [ho, hc1, List.getElem?_eq_getElem (by omega)] at h1
      obtain ⟨v, hv1, hv2⟩ := one_at (cs := cs.toList) (j := j) (by rw [hlen, hc]; exact hjl)
      rw [hv2] at h1
      obtain ⟨x, hx1, hx2, hx3⟩ := read_rep hL n (d := xs[j].1) (p := xs[j].2) hmem h1 (fun q hq => hw q (by
        simp only [DataW.weights, hu]
        exact weights_each (j := j) (by simp; exact ⟨f, by simpa using hfj, rfl⟩) (by simp; exact ⟨xs[j].2, List.getElem?_eq_getElem (by omega)⟩) hq))
      exact ⟨x, v, hv1, hx2 v (by simp), hx3 0 ⟨ty', x⟩ v (by rw [cells_one hnu]; rfl) rfl⟩)
    exact ⟨c, cs.toList, hcr, fun h => (by cases h), fun _ => by simp⟩
  · obtain ⟨cs, rfl, hsz⟩ : ∃ cs, v = .agg cs ∧ cs.size = P.cellsOf t := by
      unfold Value.okWide at hv
      rw [hu] at hv
      obtain ⟨cs, h1, h2, _⟩ := hv
      exact ⟨cs, h1, h2⟩
    have h : DataW.trod enc P w base sp held fuel t cs.toList = some (d, p) := h
    obtain ⟨xs, n, rfl, hx, hlen, hxl, hels⟩ := DataW.trod_array hu h
    simp only [Prod.mk.injEq] at hx
    obtain ⟨rfl, _⟩ := hx
    obtain ⟨c, hcr⟩ := cells_reps (U := U) (w := w) (cs := cs.toList) (tys := tys) (by rw [hlen, hc]) (fun j ty' hty => by
      have hjl : j < tys.length := (List.getElem?_eq_some_iff.1 hty).1
      obtain ⟨hnu, hmem⟩ := hel j ty' hty
      have h1 := hels j hjl
      rw [hce, Nat.mul_one, List.getElem?_eq_getElem (by omega)] at h1
      obtain ⟨v, hv1, hv2⟩ := one_at (cs := cs.toList) (j := j) (by rw [hlen, hc]; exact hjl)
      rw [hv2] at h1
      obtain ⟨x, hx1, hx2, hx3⟩ := read_rep hL n (d := xs[j].1) (p := xs[j].2) hmem h1 (fun q hq => hw q (by
        simp only [DataW.weights, hu]
        exact weights_all (List.mem_map.2 ⟨xs[j], List.getElem_mem _, rfl⟩) hq))
      exact ⟨x, v, hv1, hx2 v (by simp), hx3 0 ⟨ty', x⟩ v (by rw [cells_one hnu]; rfl) rfl⟩)
    exact ⟨c, cs.toList, hcr, fun h => (by cases h), fun _ => by simp⟩

abbrev ArgT := TypeId × Bool × List Ty
def groupsOf (A : List ArgT) : List (Bool × Nat) := A.map fun a => (a.2.1, a.2.2.length)
def tysOf : List ArgT → List Ty
  | [] => []
  | a :: r => a.2.2 ++ tysOf r

def densApp : (a : List Ty) → {b : List Ty} → Dens U.T a → Dens U.T b → Dens U.T (a ++ b)
  | [], _, _, y => y
  | _ :: a, _, x, y => (x.1, densApp a x.2 y)

theorem toList_app : ∀ (a : List Ty) {b : List Ty} (x : Dens U.T a) (y : Dens U.T b), toList U (a ++ b) (densApp a x y) = toList U a x ++ toList U b y
  | [], _, _, _ => rfl
  | t :: a, b, x, y => by
    show _ :: toList U (a ++ b) (densApp a x.2 y) = _
    rw [toList_app a x.2 y]
    rfl

theorem Reps.app {d1 d2 : List (Datum U)} {u1 u2 : List Value} (h1 : Reps U w d1 u1) (h2 : Reps U w d2 u2) : Reps U w (d1 ++ d2) (u1 ++ u2) := by
  obtain ⟨a1, a2, a3⟩ := h1
  obtain ⟨b1, b2, b3⟩ := h2
  refine ⟨by simp [a1, b1], fun u hu => (List.mem_append.1 hu).elim (a2 u) (b2 u), fun j d u hd hu => ?_⟩
  by_cases hj : j < d1.length
  · rw [List.getElem?_append_left hj] at hd
    rw [List.getElem?_append_left (by omega)] at hu
    exact a3 j d u hd hu
  · rw [List.getElem?_append_right (by omega)] at hd
    rw [List.getElem?_append_right (by omega)] at hu
    exact b3 _ d u hd (by rw [← a1]; exact hu)

theorem args_rep {L : List (TypeId × Ty)} (hL : ReadOk P U L) {r : Reach} {b0 : Nat} : ∀ {A : List ArgT} {vs : List Value} {ds : List (DataW H)} {ps : List MemPlace}, (∀ a ∈ A, ArgOk P U L a.1 a.2.1 a.2.2) →
    (∀ (j : Nat) (t : TypeId) (v : Value), (A.map (·.1))[j]? = some t → vs[j]? = some v → Value.okWide P w r b0 t v) → DataW.TrodAll enc P w base sp held (A.map (·.1)) vs ds ps →
    (∀ n ∈ DataW.weightsEach P (A.map (·.1)) ds, n ≤ reachBytes) → ∃ (xs : Dens U.T (tysOf A)) (us : List Value), Reps U w (toList U (tysOf A) xs) us ∧ PackVals (groupsOf A) us vs
  | [], vs, ds, ps, _, _, h, _ => by
    cases vs <;> cases ds <;> simp [DataW.TrodAll] at h
    exact ⟨(), [], ⟨rfl, by simp, fun j d u hd => by simp [toList, tysOf] at hd⟩, rfl, rfl⟩
  | a :: A, vs, ds, ps, ha, hv, h, hw => by
    cases vs with
    | nil => cases ds <;> simp [DataW.TrodAll] at h
    | cons v vs =>
      cases ds with
      | nil => simp [DataW.TrodAll] at h
      | cons d ds =>
        obtain ⟨p, q, h1, h2, _⟩ := h
        obtain ⟨x1, u1, r1, e1, e2⟩ := arg_rep hL (ha a (by simp)) (hv 0 _ v rfl rfl) h1 (fun n hn => hw n (by simp only [List.map_cons, DataW.weightsEach, List.mem_append]; exact .inl hn))
        obtain ⟨x2, u2, r2, hp⟩ := args_rep hL (A := A) (fun b hb => ha b (by simp [hb])) (fun j t v' hj hj' => hv (j + 1) t v' (by simpa using hj) (by simpa using hj')) h2 (fun n hn => hw n (by simp only [List.map_cons, DataW.weightsEach, List.mem_append]; exact .inr hn))
        refine ⟨densApp a.2.2 x1 x2, u1 ++ u2, ?_, ?_⟩
        · show Reps U w (toList U (a.2.2 ++ tysOf A) _) _
          rw [toList_app]
          exact r1.app r2
        · obtain ⟨t, ag, tys⟩ := a
          have hl1 : u1.length = tys.length := by rw [r1.1, toList_length]
          cases ag with
          | true => exact ⟨u1, u2, v, vs, rfl, hl1, e2 rfl, rfl, hp⟩
          | false =>
            have he := e1 rfl
            subst he
            exact ⟨v, u2, vs, rfl, by simpa using hl1.symm, rfl, hp⟩

theorem law_calls {G : List (Nat × List FuncId)} {f : FuncId} {A : List ArgT} {pre : Option (Dens U.T (tysOf A) → Prop)}
    (hg : Gives P G f (Con.flat (U := U) (groupsOf A) (tysOf A) [(false, 1)] [.bool] [false] pre fun _ => (true, ())))
    (hglo : ∀ g fs, (g, fs) ∈ G → g < w.heap.size ∧ ∀ i f, fs[i]? = some f → w.cell? ⟨g, i, none⟩ = some (.func (.func f) #[] #[]))
    {xs : Dens U.T (tysOf A)} {us vs : List Value} (hr : Reps U w (toList U (tysOf A) xs) us) (hp : PackVals (groupsOf A) us vs) (hpre : holds (pre.map fun p => p xs)) :
    Calls P f vs.toArray w fun e w' => e = .returned (.bool true) ∧ Go.RowKit.Below w.heap.size w w' := by
  let F : Fr := ⟨w.heap.size, w, fun _ => False, fun _ => False, fun _ => none, G⟩
  let β : Nm := ⟨fun _ => undef, fun _ => False, fun _ => default⟩
  have hok : Ok F w β (canon (toList U (tysOf A) xs) ([] : List OPat)) :=
    ⟨Go.RowKit.Below.refl _ _, Nat.le_refl _, fun id o hl => by simp [canon, iOs, look] at hl, fun id o _ _ _ hl => by simp [canon, iOs, look] at hl, fun _ _ _ => rfl, fun id o _ hl => by simp [canon, iOs, look] at hl, fun id o _ hl => by simp [canon, iOs, look] at hl,
      fun _ h => h.elim, rfl, fun id o _ hl => by simp [canon, iOs, look] at hl, fun id v h => (by cases h), fun g fs hm => ⟨(hglo g fs hm).1, fun h => h, (hglo g fs hm).2⟩⟩
  have hlive : ∀ b, Live β (canon (toList U (tysOf A) xs) ([] : List OPat)) b → False := by
    rintro b (h | ⟨id, o, h, _⟩)
    · exact h
    · simp [canon, iOs, look] at h
  obtain ⟨hr1, hr2, hr3⟩ := hr
  have hcs : CsRel w β (canon (toList U (tysOf A) xs) ([] : List OPat)) ((datsFrom 0 (tysOf A).length).map (iC (toList U (tysOf A) xs) oid (fun _ => 0))) us := by
    refine ⟨by simp [datsFrom_length, hr1, toList_length], hr2, fun j c u hj hu => ?_⟩
    have hjl : j < (tysOf A).length := by have := (List.getElem?_eq_some_iff.1 hu).1; rw [hr1, toList_length] at this; exact this
    simp only [List.getElem?_map, datsFrom_get hjl, Option.map_some, Option.some.injEq, Nat.zero_add] at hj
    obtain ⟨dd, hd⟩ : ∃ dd, (toList U (tysOf A) xs)[j]? = some dd := ⟨_, List.getElem?_eq_getElem (by rw [toList_length]; exact hjl)⟩
    simp only [iC, hd] at hj
    subst hj
    exact (hr3 j dd u hd hu).mono (Nat.le_refl _) (fun _ _ _ => rfl) (fun b _ hb => hlive b hb)
  have hcall := (hg F).2 xs hpre F (fun h => absurd rfl h) β w us vs rfl rfl hok (fun j p hj => by simp [Con.flat] at hj) (fun id v h => by cases h) hcs hp
  refine (CallsIn.calls (F := fen P none) hcall (fun k => by simp [Fence.room, fen])).mono fun e w' he => ?_
  cases e with
  | panicked ch => obtain ⟨b, u, hb, _⟩ := he; cases hb
  | outgrown => exact he.elim
  | returned v =>
    obtain ⟨_, β', rs, K, hres, hrs⟩ := he
    refine ⟨?_, K.bel⟩
    obtain ⟨c, r, vs', e1, _, e2, e3, e4⟩ := hres
    subst e1; subst e3; subst e4
    simp only [List.cons.injEq] at e2
    obtain ⟨rfl, _⟩ := e2
    have h0 : Rep U w' (Live β' (canon (toList U [.bool] (true, ())) (ooutOf [false] 0))) (⟨.bool, true⟩ : Datum U) v := hrs.2.2 0 _ _ rfl rfl
    have : v = .bool true := by cases h0; rfl
    rw [this]

end
end Go.VT
end

section
namespace Go.Rp
open Go

structure Node where
  kind : Int
  a : Int
  b : Int
  from_ : Int
  len : Int
  n : Int
  words : List Int
  deriving DecidableEq

structure Piece where
  node : Int
  from_ : Int
  len : Int
  n : Int
  deriving DecidableEq

abbrev w64 (n : Int) : Int := IntKind.i64.wrap n
abbrev node0 : Node := ⟨0, 0, 0, 0, 0, 0, []⟩

def lies (n lo hi : Int) : Bool := decide (lo ≤ n) && decide (n ≤ hi)
def isWord (n : Int) : Bool := lies n (-2147483648) 2147483647
def word (n : Int) : Int := IntKind.i32.wrap n
def at_ (l : List Int) (i : Int) : Int := l.getD i.toNat 0
def nat_ (l : List Node) (i : Int) : Node := l.getD i.toNat node0

def lenOf (out : List Int) (x : Node) : Int :=
  min (if x.kind = 0 then (x.words.length : Int) else if x.kind = 1 then w64 (at_ out x.a + at_ out x.b) else if x.kind = 2 then x.len else at_ out x.a) 2097152

def lensOf (l : List Node) : List Int := l.foldl (fun out x => out ++ [lenOf out x]) []

def ahead (x : Node) (i : Nat) : Prop :=
  (x.kind = 1 → (0 ≤ x.a ∧ x.a < i) ∧ 0 ≤ x.b ∧ x.b < i) ∧ (x.kind ≠ 0 → x.kind ≠ 1 → x.kind ≠ 2 → 0 ≤ x.a ∧ x.a < i)


def fieldsOf (x : Node) (i : Int) : Bool :=
  if x.kind = 0 then decide (x.a = 0 ∧ x.b = 0 ∧ x.from_ = 0 ∧ x.len = 0 ∧ x.n = 0) && x.words.all isWord
  else if x.kind = 1 then lies x.a 0 (i - 1) && lies x.b 0 (i - 1) && decide (x.from_ = 0 ∧ x.len = 0 ∧ x.n = 0 ∧ x.words = [])
  else if x.kind = 2 then lies x.a 0 (i - 1) && decide (x.b = 0 ∧ x.n = 0 ∧ x.words = [])
  else if x.kind = 3 then lies x.a 0 (i - 1) && decide (x.b = 0 ∧ x.from_ = 0 ∧ x.len = 0 ∧ x.words = []) && isWord x.n
  else false

def isPartOf (length from_ many : Int) : Bool := lies from_ 0 length && lies many 0 (w64 (length - from_))

def nodeOk (lens : List Int) (x : Node) (n : Int) : Bool := decide (n ≤ 1048576) && (decide (x.kind ≠ 2) || isPartOf (at_ lens x.a) x.from_ x.len)

def fieldsAll (l : List Node) : Bool := (List.range l.length).all fun i => fieldsOf (l.getD i node0) i
def validOf (l : List Node) : Bool := fieldsAll l && (List.range l.length).all fun i => nodeOk (lensOf l) (l.getD i node0) ((lensOf l).getD i 0)

def checkOf (l : List Node) : Int := if 4000 < l.length then 3 else if validOf l then 0 else 1
def askedOf (l : List Node) (ropes : List Int) : Int := if checkOf l ≠ 0 then checkOf l else if ropes.all fun r => lies r 0 (l.length - 1) then 0 else 2


def moreOf (l : List Node) (x : Node) : List Node × Int × Int :=
  if 4000 < l.length + 1 ∨ 1048576 < (lensOf (l ++ [x])).getD l.length 0 then ([], 0, 9) else (l ++ [x], l.length, 0)

def wordsOf (l : List Node) (w : List Int) : List Node × Int × Int :=
  if askedOf l [] ≠ 0 then ([], 0, askedOf l []) else if !w.all isWord then ([], 0, 2) else moreOf l ⟨0, 0, 0, 0, 0, 0, w⟩

def catOf (l : List Node) (a b : Int) : List Node × Int × Int :=
  if askedOf l [a, b] ≠ 0 then ([], 0, askedOf l [a, b]) else moreOf l ⟨1, a, b, 0, 0, 0, []⟩

def partOf (l : List Node) (a from_ many : Int) : List Node × Int × Int :=
  if askedOf l [a] ≠ 0 then ([], 0, askedOf l [a]) else if !isPartOf (at_ (lensOf l) a) from_ many then ([], 0, 2) else moreOf l ⟨2, a, 0, from_, many, 0, []⟩

def offOf (l : List Node) (a n : Int) : List Node × Int × Int :=
  if askedOf l [a] ≠ 0 then ([], 0, askedOf l [a]) else if !isWord n then ([], 0, 2) else moreOf l ⟨3, a, 0, 0, 0, n, []⟩

def lenAt (l : List Node) (a : Int) : Int × Int := if askedOf l [a] ≠ 0 then (0, askedOf l [a]) else (at_ (lensOf l) a, 0)

def wayOf (l : List Node) (lens : List Int) : Nat → Int → Int → Int × Int
  | 0, _, _ => (0, 0)
  | f + 1, a, place =>
    if (nat_ l a).kind = 0 then (1, at_ (nat_ l a).words place)
    else if (nat_ l a).kind = 1 then
      if place < at_ lens (nat_ l a).a then (w64 ((wayOf l lens f (nat_ l a).a place).1 + 1), (wayOf l lens f (nat_ l a).a place).2)
      else (w64 ((wayOf l lens f (nat_ l a).b (w64 (place - at_ lens (nat_ l a).a))).1 + 1), (wayOf l lens f (nat_ l a).b (w64 (place - at_ lens (nat_ l a).a))).2)
    else if (nat_ l a).kind = 2 then (w64 ((wayOf l lens f (nat_ l a).a (w64 ((nat_ l a).from_ + place))).1 + 1), (wayOf l lens f (nat_ l a).a (w64 ((nat_ l a).from_ + place))).2)
    else (w64 ((wayOf l lens f (nat_ l a).a place).1 + 1), word (w64 ((wayOf l lens f (nat_ l a).a place).2 + (nat_ l a).n)))

def wayAt (l : List Node) (a place : Int) : Int × Int := wayOf l (lensOf l) (a.toNat + 1) a place

def depthOf (out : List Int) (x : Node) : Int :=
  if x.kind = 0 then 1 else if x.kind = 1 then max (w64 (at_ out x.a + 1)) (w64 (at_ out x.b + 1)) else w64 (at_ out x.a + 1)

def depthsOf (l : List Node) : List Int := l.foldl (fun out x => out ++ [depthOf out x]) []

def depthAt (l : List Node) (a : Int) : Int × Int := if askedOf l [a] ≠ 0 then (0, askedOf l [a]) else (at_ (depthsOf l) a, 0)

def costAt (l : List Node) (a place : Int) : Int × Int :=
  if askedOf l [a] ≠ 0 then (0, askedOf l [a]) else if !lies place 0 (at_ (lensOf l) a - 1) then (0, 2) else ((wayAt l a place).1, 0)

def gatherAt (l : List Node) (a : Int) (ps : List Int) : List Int × Int :=
  if askedOf l [a] ≠ 0 then ([], askedOf l [a]) else if 1048576 < ps.length then ([], 3)
  else if !(ps.all fun p => lies p 0 (at_ (lensOf l) a - 1)) then ([], 2) else (ps.map fun p => (wayAt l a p).2, 0)

def flatAt (l : List Node) (a : Int) : List Int × Int :=
  if askedOf l [a] ≠ 0 then ([], askedOf l [a]) else ((List.range (at_ (lensOf l) a).toNat).map fun p : Nat => (wayAt l a p).2, 0)

def sameOf (l m : List Node) : Bool := decide (l = m)

end Go.Rp
end

section
set_option linter.unusedVariables false
set_option maxRecDepth 100000
namespace Go.Rp
open Go Go.VT

abbrev i64 : Ty := .int .i64

def nodeDs {T : Nat → Type} (x : Node) : List ((t : Ty) × den T t) := [⟨.int .i64, x.kind⟩, ⟨.int .i64, x.a⟩, ⟨.int .i64, x.b⟩, ⟨.int .i64, x.from_⟩, ⟨.int .i64, x.len⟩, ⟨.int .i64, x.n⟩, ⟨.slice 3 (.int .i64), x.words⟩]
def dsNode {T : Nat → Type} : List ((t : Ty) × den T t) → Option Node
  | [⟨.int .i64, x1⟩, ⟨.int .i64, x2⟩, ⟨.int .i64, x3⟩, ⟨.int .i64, x4⟩, ⟨.int .i64, x5⟩, ⟨.int .i64, x6⟩, ⟨.slice 3 (.int .i64), w⟩] => some ⟨x1, x2, x3, x4, x5, x6, w⟩
  | _ => none

theorem dsNode_eq {T : Nat → Type} {ds : List ((t : Ty) × den T t)} {x : Node} (h : dsNode ds = some x) : ds = nodeDs x := by
  unfold dsNode at h
  split at h
  · simp only [Option.some.injEq] at h
    subst h
    rfl
  · cases h

def needIfc {T : Nat → Type} : Option Node → Option (TypeId × Bool × List ((t : Ty) × den T t))
  | none => some (112, true, [])
  | some x => some (114, true, nodeDs x)
def needMk {T : Nat → Type} (t : TypeId) (b : Bool) (ds : List ((t : Ty) × den T t)) : Option (Option Node) :=
  bif b && Nat.beq t 112 then (match ds with
    | [] => some none
    | _ => none) else bif b && Nat.beq t 114 then (dsNode ds).map some else none

theorem need_mk {T : Nat → Type} {t : TypeId} {b : Bool} {ds : List ((t : Ty) × den T t)} {x : Option Node} (h : needMk t b ds = some x) : needIfc x = some (t, b, ds) := by
  unfold needMk at h
  simp only [Bool.cond_eq_ite] at h
  split at h
  · rename_i hc
    simp only [Bool.and_eq_true] at hc
    obtain ⟨rfl, hc⟩ := hc
    have := Nat.eq_of_beq_eq_true hc
    subst this
    split at h
    · cases h; rfl
    · cases h
  · split at h
    · rename_i hc
      simp only [Bool.and_eq_true] at hc
      obtain ⟨rfl, hc⟩ := hc
      have := Nat.eq_of_beq_eq_true hc
      subst this
      simp only [Option.map_eq_some_iff] at h
      obtain ⟨y, hy, rfl⟩ := h
      rw [dsNode_eq hy]; rfl
    · cases h

noncomputable def RU : Univ where
  T := fun i => match i with | 0 => Node | 1 => Piece | 2 => Option Node | _ => Unit
  dflt := fun i => match i with | 0 => node0 | 1 => ⟨0, 0, 0, 0⟩ | 2 => none | _ + 3 => ()
  fields := fun i => match i with | 0 => [i64, i64, i64, i64, i64, i64, .slice 3 i64] | 1 => [i64, i64, i64, i64] | _ + 2 => []
  get := fun i => match i with | 0 => fun (x : Node) => (x.kind, x.a, x.b, x.from_, x.len, x.n, x.words, ()) | 1 => fun (x : Piece) => (x.node, x.from_, x.len, x.n, ()) | _ + 2 => fun _ => ()
  put := fun i => match i with | 0 => fun c => (⟨c.1, c.2.1, c.2.2.1, c.2.2.2.1, c.2.2.2.2.1, c.2.2.2.2.2.1, c.2.2.2.2.2.2.1⟩ : Node) | 1 => fun c => (⟨c.1, c.2.1, c.2.2.1, c.2.2.2.1⟩ : Piece) | 2 => fun _ => none | _ + 3 => fun _ => ()
  get_put := fun i => match i with | 0 => fun _ => rfl | 1 => fun _ => rfl | _ + 2 => fun _ => rfl
  ifc := fun i => match i with | 2 => fun x => needIfc x | _ => fun _ => none
  mkIfc := fun i => match i with | 2 => fun t b ds => needMk t b ds | _ => fun _ _ _ => none
  ifc_mk := fun i => match i with
    | 0 => fun _ _ _ _ h => by cases h
    | 1 => fun _ _ _ _ h => by cases h
    | 2 => fun _ _ _ _ h => need_mk h
    | _ + 3 => fun _ _ _ _ h => by cases h

noncomputable abbrev prog : Program := Go.Proofs.Tryd.prog
abbrev ints : Ty := .slice 3 i64
abbrev nodes : Ty := .slice 56 (.user 0)

noncomputable def codeL : List (TypeId × Ty) := [(3, i64), (4, .bool), (56, .user 0), (25, ints), (95, .user 1)]
def RG : List (Nat × List FuncId) := [(0, [102, 103, 104, 105])]
noncomputable def EV (l : List (FuncId × Con RU)) : Env RU := ⟨prog, codesOf codeL, consOf l, RG, fun _ _ => [], fun _ _ => [], [], none, fun _ => [], false⟩
noncomputable def EVt (tab : List FuncId → Int → List (Con RU)) (l : List (FuncId × Con RU)) : Env RU := ⟨prog, codesOf codeL, consOf l, RG, tab, fun _ _ => [], [], none, fun _ => [], false⟩

theorem fits (l : List (FuncId × Con RU)) : (EV l).Fits := fits_of (by kernel_rfl)
theorem fitsT (tab : List FuncId → Int → List (Con RU)) (l : List (FuncId × Con RU)) : (EVt tab l).Fits := fits_of (by kernel_rfl)
theorem mixed : prog.follows .mixedOrders = true := by kernel_rfl

noncomputable def noL : Nat → St RU → Ann RU := fun _ _ => ⟨[], [], [], fun _ => False, fun _ => 0, []⟩

noncomputable abbrev con (args : List (Bool × Nat)) (params : List Ty) (res : List (Bool × Nat)) (tys : List Ty) (own : List Bool) (pre : Option (Dens RU.T params → Prop)) (fn : Dens RU.T params → Dens RU.T tys) : Con RU :=
  Con.flat args params res tys own pre fn

abbrev one : Bool × Nat := (false, 1)

theorem gives {l : List (FuncId × Con RU)} (hl : ∀ x ∈ l, Gives prog RG x.1 x.2) {f : FuncId} {fn : Func} {k : Con RU} (L : Dens RU.T k.params → Nat → St RU → Ann RU) (hf : prog.funcs[f]? = some fn) (hn : (fn.name == "runtime.NumGoroutine") = false) (hb : fn.body.isNone = false)
    (h : ∀ xs, holds (k.pre.map fun p => p xs) → vc (EV l) (L xs) fn k xs) (hyl : k.yl = [] := by rfl) : Gives prog RG f k :=
  fun Y => vc_gives (E := EV l) (fits l) ⟨gives_of (fun x hx => hl x hx Y), fun _ _ _ _ _ h => (by cases h), fun _ _ _ h => (by cases h), fun _ h => (by cases h), fun _ _ _ _ h => (by cases h)⟩ mixed hf hn L h hb hyl

theorem givesT {tab : List FuncId → Int → List (Con RU)} (ht : ∀ fs (i : Int) f k, fs[i.toNat]? = some f → k ∈ tab fs i → Gives prog RG f k) {l : List (FuncId × Con RU)} (hl : ∀ x ∈ l, Gives prog RG x.1 x.2) {f : FuncId} {fn : Func} {k : Con RU} (L : Dens RU.T k.params → Nat → St RU → Ann RU) (hf : prog.funcs[f]? = some fn) (hn : (fn.name == "runtime.NumGoroutine") = false) (hb : fn.body.isNone = false)
    (h : ∀ xs, holds (k.pre.map fun p => p xs) → vc (EVt tab l) (L xs) fn k xs) (hyl : k.yl = [] := by rfl) : Gives prog RG f k :=
  fun Y => vc_gives (E := EVt tab l) (fitsT tab l) ⟨gives_of (fun x hx => hl x hx Y), fun fs i f k h1 h2 => ht fs i f k h1 h2 Y, fun _ _ _ h => (by cases h), fun _ h => (by cases h), fun _ _ _ _ h => (by cases h)⟩ mixed hf hn L h hb hyl

noncomputable def cEqual : Con RU := con [one, one] [ints, ints] [one] [.bool] [false] none fun p => (decide (p.1 = p.2.1), ())
theorem allNil : ∀ x ∈ ([] : List (FuncId × Con RU)), Gives prog RG x.1 x.2 := by simp
theorem allCons {f : FuncId} {k : Con RU} {r : List (FuncId × Con RU)} (h : Gives prog RG f k) (hr : ∀ x ∈ r, Gives prog RG x.1 x.2) : ∀ x ∈ (f, k) :: r, Gives prog RG x.1 x.2 := by
  intro x hx
  rcases List.mem_cons.1 hx with h1 | h1
  · subst h1; exact h
  · exact hr x h1

abbrev nodeTys : List Ty := [i64, i64, i64, i64, i64, i64, ints]
noncomputable def cCheck : Con RU := con [(true, 1)] [nodes] [one] [i64] [false] none fun p => (checkOf p.1, ())
def few (l : List Node) : Prop := ∀ x ∈ l, x.words.length ≤ 4000000
def few' (l : List Node) : Prop := l.length ≤ 4000000 ∧ few l
noncomputable abbrev conS (args : List (Bool × Nat)) (params : List Ty) (pre : Dens RU.T params → Prop) (fn : Dens RU.T params → List Node × Int × Int) : Con RU :=
  con args params [(true, 1), one, one] [nodes, i64, i64] [false, false, false] (some pre) fun p => ((fn p).1, (fn p).2.1, (fn p).2.2, ())
noncomputable def cWordsR : Con RU := conS [(true, 1), one] [nodes, ints] (fun p => p.2.1.length ≤ 4000000) fun p => wordsOf p.1 p.2.1
noncomputable def cCatR : Con RU := conS [(true, 1), one, one] [nodes, i64, i64] (fun _ => True) fun p => catOf p.1 p.2.1 p.2.2.1
noncomputable def cPartR : Con RU := conS [(true, 1), one, one, one] [nodes, i64, i64, i64] (fun _ => True) fun p => partOf p.1 p.2.1 p.2.2.1 p.2.2.2.1
noncomputable def cOffR : Con RU := conS [(true, 1), one, one] [nodes, i64, i64] (fun _ => True) fun p => offOf p.1 p.2.1 p.2.2.1
noncomputable def cLenR : Con RU := con [(true, 1), one] [nodes, i64] [one, one] [i64, i64] [false, false] none fun p => ((lenAt p.1 p.2.1).1, (lenAt p.1 p.2.1).2, ())

theorem givesRec {l : List (FuncId × Con RU)} (hl : ∀ x ∈ l, Gives prog RG x.1 x.2) {f : FuncId} {fn : Func} {k : Con RU} (m : Dens RU.T k.params → Nat) (L : Dens RU.T k.params → Nat → St RU → Ann RU) (hf : prog.funcs[f]? = some fn) (hn : (fn.name == "runtime.NumGoroutine") = false) (hb : fn.body.isNone = false)
    (h : ∀ xs, holds (k.pre.map fun p => p xs) → vc ((EV l).set f (k.below m (m xs))) (L xs) fn k xs) (hyl : k.yl = [] := by rfl) : Gives prog RG f k :=
  fun Y => vc_gives_rec (E := EV l) (fits l) ⟨gives_of (fun x hx => hl x hx Y), fun _ _ _ _ _ h => (by cases h), fun _ _ _ h => (by cases h), fun _ h => (by cases h), fun _ _ _ _ h => (by cases h)⟩ mixed hf hn m L h hb hyl

noncomputable def cDepthR : Con RU := con [(true, 1), one] [nodes, i64] [one, one] [i64, i64] [false, false] none fun p => ((depthAt p.1 p.2.1).1, (depthAt p.1 p.2.1).2, ())
noncomputable def cCostR : Con RU := con [(true, 1), one, one] [nodes, i64, i64] [one, one] [i64, i64] [false, false] none fun p => ((costAt p.1 p.2.1 p.2.2.1).1, (costAt p.1 p.2.1 p.2.2.1).2, ())
noncomputable def cGatherR : Con RU := con [(true, 1), one, one] [nodes, i64, ints] [one, one] [ints, i64] [false, false] none fun p => ((gatherAt p.1 p.2.1 p.2.2.1).1, (gatherAt p.1 p.2.1 p.2.2.1).2, ())
noncomputable def cFlatR : Con RU := con [(true, 1), one] [nodes, i64] [one, one] [ints, i64] [false, false] none fun p => ((flatAt p.1 p.2.1).1, (flatAt p.1 p.2.1).2, ())

noncomputable def cSame : Con RU := con [(true, 1), (true, 1)] [nodes, nodes] [one] [.bool] [false] none fun p => (sameOf p.1 p.2.1, ())

noncomputable def lEqual (l m : List Int) : Nat → St RU → Ann RU := fun _ _ => ⟨[], [.slot 6, .slot 5], [i64, .bool], fun p => 0 ≤ p.1 ∧ p.1 ≤ l.length ∧ p.2.1 = (decide (l.length = m.length) && decide (l.take p.1.toNat = m.take p.1.toNat)), fun p => l.length - p.1.toNat, []⟩
noncomputable def lSame (l m : List Node) : Nat → St RU → Ann RU := fun _ _ => ⟨[], [.slot 6, .slot 5], [i64, .bool], fun p => 0 ≤ p.1 ∧ p.1 ≤ l.length ∧ p.2.1 = (decide (l.length = m.length) && decide (l.take p.1.toNat = m.take p.1.toNat)), fun p => l.length - p.1.toNat, []⟩
end Go.Rp
end

section
set_option linter.unusedVariables false
namespace Go.Proofs.YtcgjnkdcfpegiaaDoor
open Go.ChangeShapes Go.WideShapes Go.ChangeAt Go.RowKit Go.VT

theorem own : ownKnob Tryd.prog.godebug = none := by kernel_rfl
theorem laidOut : laidOutB Tryd.prog = true := by kernel_rfl
theorem gKinds : Tryd.prog.globalNamed "sheafworks/rope.kinds" = some 0 := by kernel_rfl
abbrev laid1 : List (String × DataW Unit) := [("sheafworks/rope.kinds", Rows.laid_sheafworks_rope_kinds)]

theorem door_met (os : Os) (args : Array Value) : laidMetH Tryd.prog laid1 ((World.doorLaid Tryd.prog 600 os).forCall (fun _ _ => 0) ⟨#[], args, []⟩).memory :=
  laidMetH_of_parts3 (fuel := 8) (laidMet_of_run' 8 (by kernel_rfl) (by kernel_rfl)) (by kernel_rfl) (by kernel_rfl)


theorem cells110 : Tryd.prog.cellsOf 110 = 4 := by kernel_rfl
theorem cells109 : Tryd.prog.cellsOf 109 = 1 := by kernel_rfl
theorem tKinds : (Tryd.prog.globals[0]?).map (·.type) = some 110 := by kernel_rfl

theorem of_laid {W : World} (h : laidMetH Tryd.prog laid1 W) : ∀ g fs, (g, fs) ∈ Go.Rp.RG → g < W.heap.size ∧ ∀ i f, fs[i]? = some f → W.cell? ⟨g, i, none⟩ = some (.func (.func f) #[] #[]) := by
  obtain ⟨g, t, cs, fuel, p, hg, ht, hv, hd⟩ := h.funcs (List.mem_singleton.2 rfl)
  obtain rfl := Option.some.inj (gKinds.symm.trans hg)
  obtain rfl := Option.some.inj (tKinds.symm.trans ht)
  have hd' : DataW.trod (funcToken Tryd.prog) Tryd.prog W 0 (fun _ => true) true fuel 110 cs.toList = some (.agg [.held [40, 42, 115, 104, 101, 97, 102, 119, 111, 114, 107, 115, 47, 114, 111, 112, 101, 46, 115, 116, 111, 114, 101, 41, 46, 119, 111, 114, 100, 115],
    .held [40, 42, 115, 104, 101, 97, 102, 119, 111, 114, 107, 115, 47, 114, 111, 112, 101, 46, 115, 116, 111, 114, 101, 41, 46, 99, 97, 116], .held [40, 42, 115, 104, 101, 97, 102, 119, 111, 114, 107, 115, 47, 114, 111, 112, 101, 46, 115, 116, 111, 114, 101, 41, 46, 112, 97, 114, 116],
    .held [40, 42, 115, 104, 101, 97, 102, 119, 111, 114, 107, 115, 47, 114, 111, 112, 101, 46, 115, 116, 111, 114, 101, 41, 46, 111, 102, 102]], p) := hd
  obtain ⟨xs, m, _, hx, hlen, hxl, hel⟩ := DataW.trod_array Tryd.underlying110 hd'
  rw [cells109] at hel
  rw [cells110] at hlen
  simp only [Prod.mk.injEq, DataW.agg.injEq] at hx
  have hgo : ∀ (i : Nat) (f : FuncId) (b : UInt8) (r : List UInt8), i < 4 → (xs.map (·.1))[i]? = some (.held (b :: r)) → ((List.range Tryd.prog.funcs.size).filter fun f => (Tryd.prog.funcs[f]?).any (·.name.toUTF8.data.toList == b :: r)) = [f] → W.cell? ⟨0, i, none⟩ = some (.func (.func f) #[] #[]) := by
    intro i f b r hi hb hone
    have h1 := hel i hi
    obtain ⟨v, hv1, hv2⟩ := one_at (cs := cs.toList) (j := i) (by omega)
    rw [Nat.mul_one, hv2] at h1
    rw [List.getElem?_map, Option.map_eq_some_iff] at hb
    obtain ⟨y, hy, hy2⟩ := hb
    rw [hy] at h1
    obtain ⟨y1, y2⟩ := y
    simp only at hy2
    subst hy2
    have := func_of_trod Tryd.underlying109 hone h1
    subst this
    have hc := World.var?_cell hg hv i
    rw [hc]
    simpa using hv1
  have h0 := hgo 0 102 _ _ (by omega) (by rw [← hx.1]; rfl) (by kernel_rfl)
  have h1 := hgo 1 103 _ _ (by omega) (by rw [← hx.1]; rfl) (by kernel_rfl)
  have h2 := hgo 2 104 _ _ (by omega) (by rw [← hx.1]; rfl) (by kernel_rfl)
  have h3 := hgo 3 105 _ _ (by omega) (by rw [← hx.1]; rfl) (by kernel_rfl)
  intro g fs hm
  simp only [Go.Rp.RG, List.mem_singleton, Prod.mk.injEq] at hm
  obtain ⟨rfl, rfl⟩ := hm
  refine ⟨?_, fun i f hf => ?_⟩
  · unfold World.cell? at h0
    cases hh : W.heap[0]? with
    | none => simp [hh] at h0
    | some ob => exact (Array.getElem?_eq_some_iff.1 hh).1
  · match i, hf with
    | 0, hf => cases hf; exact h0
    | 1, hf => cases hf; exact h1
    | 2, hf => cases hf; exact h2
    | 3, hf => cases hf; exact h3
    | _ + 4, hf => simp at hf

def readL : List (TypeId × Ty) := [(3, Go.Rp.i64), (4, .bool), (56, .user 0), (25, Go.Rp.ints), (22, Go.Rp.nodes)]
theorem bytes3 : Tryd.prog.bytesOf 3 = 8 := by kernel_rfl
theorem bytes56 : Tryd.prog.bytesOf 56 = 72 := by kernel_rfl
theorem cells3 : Tryd.prog.cellsOf 3 = 1 := by kernel_rfl
theorem cells25 : Tryd.prog.cellsOf 25 = 1 := by kernel_rfl
theorem cells56 : Tryd.prog.cellsOf 56 = 7 := by kernel_rfl

theorem read_ok : ReadOk Tryd.prog Go.Rp.RU readL := by
  intro t ty hm
  simp only [readL, List.mem_cons, Prod.mk.injEq, List.not_mem_nil, or_false] at hm
  rcases hm with ⟨rfl, rfl⟩ | ⟨rfl, rfl⟩ | ⟨rfl, rfl⟩ | ⟨rfl, rfl⟩ | ⟨rfl, rfl⟩
  · exact Tryd.underlying3
  · exact Tryd.underlying4
  · refine ⟨_, Tryd.underlying56, cells56, rfl, fun j f ty' hf hty => ?_⟩
    match j, hf, hty with
    | 0, hf, hty => cases hf; cases hty; exact ⟨rfl, cells3, rfl, by simp [readL]⟩
    | 1, hf, hty => cases hf; cases hty; exact ⟨rfl, cells3, rfl, by simp [readL]⟩
    | 2, hf, hty => cases hf; cases hty; exact ⟨rfl, cells3, rfl, by simp [readL]⟩
    | 3, hf, hty => cases hf; cases hty; exact ⟨rfl, cells3, rfl, by simp [readL]⟩
    | 4, hf, hty => cases hf; cases hty; exact ⟨rfl, cells3, rfl, by simp [readL]⟩
    | 5, hf, hty => cases hf; cases hty; exact ⟨rfl, cells3, rfl, by simp [readL]⟩
    | 6, hf, hty => cases hf; cases hty; exact ⟨rfl, cells25, rfl, by simp [readL]⟩
    | j + 7, hf, hty => simp [Go.Rp.RU] at hty
  · exact ⟨Tryd.underlying25, cells3, by rw [cells3]; decide, by rw [bytes3]; decide, by simp [readL]⟩
  · exact ⟨Tryd.underlying22, cells56, by rw [cells56]; decide, by rw [bytes56]; decide, by simp [readL]⟩

theorem trodAll_below {H : Type} {enc : TypeId × Value → H} {W W' : World} (hb : Below W.heap.size W W') : ∀ {ts : List TypeId} {vs : List Value} {ds : List (DataW H)} {ps : List MemPlace}, (∀ t ∈ ts, Tryd.prog.readableRec t = true ∧ t < Tryd.prog.types.size) →
    DataW.TrodAll enc Tryd.prog W 0 (fun _ => true) true ts vs ds ps → (∀ x ∈ ps, x.block < W.heap.size) → DataW.TrodAll enc Tryd.prog W' 0 (fun b => decide (b < W.heap.size)) true ts vs ds ps
  | [], [], [], ps, _, h, _ => h
  | [], _ :: _, _, _, _, h, _ => h.elim
  | [], [], _ :: _, _, _, h, _ => h.elim
  | _ :: _, [], _, _, _, h, _ => h.elim
  | _ :: _, _ :: _, [], _, _, h, _ => h.elim
  | t :: ts, v :: vs, d :: ds, ps, ht, h, hlt => by
    obtain ⟨p, q, h1, h2, rfl⟩ := h
    exact ⟨p, q, Below.trod laidOut (ht t (by simp)).1 (ht t (by simp)).2 h1 hb (fun x hx => hlt x (by simp [hx])), trodAll_below hb (fun t' h' => ht t' (by simp [h'])) h2 (fun x hx => hlt x (by simp [hx])), rfl⟩

theorem law_post {H : Type} {enc : TypeId × Value → H} {fn : Func} {s : ChangeSpec} (hs : s.vars = []) {W W' : World} {args : Array Value} {ds gs : List (DataW H)} {before : List MemPlace}
    (hW : DataW.Whole enc Tryd.prog fn.params.toList s.vars false W args.toList ds gs before) (hb : Below W.heap.size W W') (hres : fn.resultTypes = #[4])
    (hfn : s.fn H ds = { results := [.lit (.bool true)], args := ds }) (ht : ∀ t ∈ fn.params.toList, Tryd.prog.readableRec t = true ∧ t < Tryd.prog.types.size) :
    s.post enc Tryd.prog fn false true false false W args (.bool true) W' := by
  have hW' := hW
  obtain ⟨p, q, hA, hV, rfl, hfz, hnd⟩ := hW
  rw [hs] at hV
  obtain ⟨rfl, rfl⟩ : gs = [] ∧ q = [] := by
    cases gs with
    | nil => exact ⟨rfl, hV⟩
    | cons g r => exact absurd hV (by intro h; cases h)
  refine ⟨ds, [], p ++ [], [], p, [], hW', ?_, ?_, ?_, hb.frame _, fun h => by cases h⟩
  · rw [List.append_nil, hfn, hres]
    exact trodAll_mk1 (shut_bool Tryd.underlying4 true)
  · rw [List.append_nil, hfn]
    exact trodAll_below hb ht hA (fun x hx => hW'.lt x (by simp [hx]))
  · rw [List.append_nil, hfn, hs]
    rfl

theorem trodAll_len {H : Type} {enc : TypeId × Value → H} {P : Program} {w : World} {base : Nat} {sp : Nat → Bool} {held : Bool} : ∀ {ts : List TypeId} {vs : List Value} {ds : List (DataW H)} {ps : List MemPlace}, DataW.TrodAll enc P w base sp held ts vs ds ps → ds.length = ts.length
  | [], [], [], _, _ => rfl
  | [], _ :: _, _, _, h => h.elim
  | [], [], _ :: _, _, h => h.elim
  | _ :: _, [], _, _, h => h.elim
  | _ :: _, _ :: _, [], _, h => h.elim
  | t :: ts, v :: vs, d :: ds, ps, h => by
    obtain ⟨p, q, _, h2, _⟩ := h
    simp [trodAll_len h2]

end Go.Proofs.YtcgjnkdcfpegiaaDoor
end

section
set_option linter.unusedVariables false
set_option linter.unusedSimpArgs false
namespace Go.VT
noncomputable section
open Go.RowKit
variable {U : Univ} {E : Env U} {F : Fr} {n : Nat} {β : Nm} {s : St U} {tmps : Array Value} {w : World} {h : Obs U}

def swN (a b i : Nat) : Nat := bif Nat.beq i a then b else bif Nat.beq i b then a else i

theorem swN_a (a b : Nat) : swN a b a = b := by simp [swN]
theorem swN_b (a b : Nat) : swN a b b = a := by
  unfold swN
  by_cases h : b = a
  · subst h; simp
  · rw [beq_no h]; simp
theorem swN_o {a b i : Nat} (h1 : i ≠ a) (h2 : i ≠ b) : swN a b i = i := by simp [swN, beq_no h1, beq_no h2]
theorem swN_sw (a b i : Nat) : swN a b (swN a b i) = i := by
  by_cases h1 : i = a
  · subst h1; rw [swN_a, swN_b]
  · by_cases h2 : i = b
    · subst h2; rw [swN_b, swN_a]
    · rw [swN_o h1 h2, swN_o h1 h2]
theorem swN_inj {a b i j : Nat} (h : swN a b i = swN a b j) : i = j := by rw [← swN_sw a b i, h, swN_sw]

def swC (a b : Nat) : Cell U → Cell U
  | .row id ver => .row (swN a b id) ver
  | .ptr id off => .ptr (swN a b id) off
  | .elt id ver i off => .elt (swN a b id) ver i off
  | .map id => .map (swN a b id)
  | .clo f ids => .clo f (ids.map (swN a b))
  | .yld id => .yld (swN a b id)
  | c => c

def swP (a b : Nat) : PV U → PV U
  | .one c => .one (swC a b c)
  | .agg cs => .agg (cs.map (swC a b))
  | .tup vs => .tup (vs.map fun v => (v.1, v.2.map (swC a b)))
  | _ => .un

def swO (a b : Nat) : Ob U → Ob U
  | .box e cs => .box e (cs.map (swC a b))
  | o => o

def St.swap (s : St U) (a b : Nat) : St U := ⟨s.σ.map fun x => (x.1, swP a b x.2), s.h.map fun x => (swN a b x.1, swO a b x.2)⟩

theorem look_sw {a b : Nat} (k : Nat) : ∀ l : Obs U, look k (l.map fun x => (swN a b x.1, swO a b x.2)) = (look (swN a b k) l).map (swO a b)
  | [] => rfl
  | (j, o) :: r => by
    simp only [List.map_cons, look]
    by_cases h : j = swN a b k
    · rw [if_pos (by rw [h, swN_sw]; exact Nat.beq_refl _), if_pos (by rw [h]; exact Nat.beq_refl _)]
      rfl
    · rw [if_neg (by rw [beq_no (fun e => h (by rw [← e, swN_sw]))]; simp), if_neg (by rw [beq_no h]; simp)]
      exact look_sw k r

def Nm.swap (β : Nm) (a b : Nat) : Nm := ⟨fun i => β (swN a b i), β.M, fun i => β.lp (swN a b i)⟩

theorem swO_live (a b : Nat) (o : Ob U) : (swO a b o).live = o.live := by cases o <;> rfl
theorem swO_isRow (a b : Nat) (o : Ob U) : (swO a b o).isRow = o.isRow := by cases o <;> rfl

def Fr.name (F : Fr) (j : Nat) (v : Value × Loop × (Int → Option Code)) : Fr := ⟨F.B, F.w0, F.K, F.M, fun i => if i = j then some v else F.nm i, F.G⟩

theorem swap_rel (R : Rel F n β s tmps w) {a b : Nat} (ha : a < 1000000) (hb : 1000000 ≤ b) (hnb : F.nm b = none) (hfree : look b s.h = none) :
    Rel (F.name b (β a, β.lp a)) n (β.swap a b) (s.swap a b) tmps w ∧ OptIn (fun _ => False) (s.swap a b).σ := by
  have hlk : ∀ id, look id (s.swap a b).h = (look (swN a b id) s.h).map (swO a b) := fun id => look_sw id s.h
  have hto : ∀ id o, look id s.h = some o → look (swN a b id) (s.swap a b).h = some (swO a b o) := by
    intro id o hl
    rw [hlk, swN_sw, hl]; rfl
  have hof : ∀ id o, look id (s.swap a b).h = some o → ∃ o', look (swN a b id) s.h = some o' ∧ o = swO a b o' := by
    intro id o hl
    rw [hlk] at hl
    simp only [Option.map_eq_some_iff] at hl
    obtain ⟨o', h1, h2⟩ := hl
    exact ⟨o', h1, h2.symm⟩
  have hv : ∀ id, (β.swap a b) (swN a b id) = β id := fun id => by show β (swN a b (swN a b id)) = _; rw [swN_sw]
  have hlp : ∀ id, (β.swap a b).lp (swN a b id) = β.lp id := fun id => by show β.lp (swN a b (swN a b id)) = _; rw [swN_sw]
  have hlive : ∀ b', Live (β.swap a b) (s.swap a b).h b' → Live β s.h b' := by
    rintro b' (hm | ⟨id, o, h1, h2, h3⟩)
    · exact .inl hm
    · obtain ⟨o', h4, rfl⟩ := hof id o h1
      rw [swO_live] at h2
      exact .inr ⟨swN a b id, o', h4, h2, h3⟩
  have hrep : ∀ d v, Rep U w (Live β s.h) d v → Rep U w (Live (β.swap a b) (s.swap a b).h) d v := fun d v r => r.mono (Nat.le_refl _) (fun _ _ _ => rfl) (fun b' _ hb' => hlive b' hb')
  have hvis : ∀ (t : Ty) (x : den U.T t) (v : Value), VIs w (Live β s.h) t x v → VIs w (Live (β.swap a b) (s.swap a b).h) t x v := fun t x v r => r.mono (Nat.le_refl _) (fun _ _ _ => rfl) (fun b' _ hb' => hlive b' hb')
  have hcell : ∀ c v, CRel w β s.h c v → CRel w (β.swap a b) (s.swap a b).h (swC a b c) v := by
    intro c v r
    cases c with
    | un => trivial
    | d x => exact hrep _ _ r
    | row id ver =>
      obtain ⟨e, t, l, ver', lv, q1, q2, q3⟩ := r
      exact ⟨e, t, l, ver', lv, hto id _ q1, q2, fun hh => (q3 hh).trans (hv id).symm⟩
    | ptr id off =>
      obtain ⟨e, cs, b', q1, q2, q3⟩ := r
      exact ⟨e, _, b', hto id _ q1, (hv id).trans q2, q3⟩
    | elt id ver i off =>
      obtain ⟨e, t, l, ver', lv, q1, q2, q3⟩ := r
      refine ⟨e, t, l, ver', lv, hto id _ q1, q2, fun hh => ?_⟩
      obtain ⟨z1, z2, g, c, z3, z4⟩ := q3 hh
      exact ⟨z1, z2, g, c, (hv id).trans z3, z4⟩
    | rd cs off =>
      obtain ⟨g, o, hv', hM, hg, hc⟩ := r
      refine ⟨g, o, hv', fun hh => hM (hlive g hh), hg, fun j d hd => ?_⟩
      obtain ⟨u, hu, hr⟩ := hc j d hd
      exact ⟨u, hu, hrep _ _ hr⟩
    | gl g => exact r
    | lit u => exact r
    | map id =>
      obtain ⟨kt, vt, l, q1, q2⟩ := r
      exact ⟨kt, vt, l, hto id _ q1, q2.trans (hv id).symm⟩
    | clo f ids =>
      obtain ⟨bs, q1, q2, q3⟩ := r
      refine ⟨bs, q1, by simpa using q2, fun j id b' hj hb' => ?_⟩
      simp only [List.getElem?_map, Option.map_eq_some_iff] at hj
      obtain ⟨id0, hj0, rfl⟩ := hj
      obtain ⟨e, cs, q4, q5⟩ := q3 j id0 b' hj0 hb'
      exact ⟨e, _, hto id0 _ q4, (hv id0).trans q5⟩
    | yld id =>
      obtain ⟨st, q1, q2⟩ := r
      exact ⟨st, hto id _ q1, q2.trans (hv id).symm⟩
    | ifc t b' ds =>
      obtain ⟨vs, q1, q2, q3, q4, q5⟩ := r
      exact ⟨vs, q1, q2, q3, q4, fun j d u hd hu => hrep _ _ (q5 j d u hd hu)⟩
    | tab g i => exact r
    | tabf fs i => exact r
  have hcs : ∀ cs vs, CsRel w β s.h cs vs → CsRel w (β.swap a b) (s.swap a b).h (cs.map (swC a b)) vs := by
    intro cs vs r
    refine ⟨by simpa using r.1, r.2.1, fun j c v hc hv => ?_⟩
    simp only [List.getElem?_map, Option.map_eq_some_iff] at hc
    obtain ⟨c', h3, rfl⟩ := hc
    exact hcell c' v (r.2.2 j c' v h3 hv)
  have hpv : ∀ p v σ σ', PRel w β s.h σ p v → PRel w (β.swap a b) (s.swap a b).h σ' (swP a b p) v := by
    intro p v σ σ' r
    cases p with
    | un => trivial
    | one c => exact hcs [c] [v] r
    | agg cs =>
      obtain ⟨vs, hv, hc⟩ := r
      exact ⟨vs, hv, hcs cs vs hc⟩
    | tup xs =>
      obtain ⟨vs, hv, hl, hx⟩ := r
      refine ⟨vs, hv, by simpa using hl, fun j x u hj hu => ?_⟩
      simp only [List.getElem?_map, Option.map_eq_some_iff] at hj
      obtain ⟨x', h3, rfl⟩ := hj
      have := hx j x' u h3 hu
      obtain ⟨b', cs⟩ := x'
      cases b' with
      | true =>
        obtain ⟨vs', h4, h5⟩ := this
        exact ⟨vs', h4, hcs cs vs' h5⟩
      | false => exact hcs cs [u] this
    | opt gs p => trivial
  refine ⟨⟨⟨R.bel, R.hB, fun id o hl => ?_, fun id o id' o' b' q1 q2 q3 q4 => ?_, R.frm, fun id o b' q1 q2 => ?_, fun id o b' q1 q2 => ?_, R.Mlt, R.Meq, fun id o v q1 q2 => ?_, fun id v q => ?_, R.glo⟩, R.sz, fun t p hl => ?_⟩, fun t gs p hl => ?_⟩
  · obtain ⟨o', h3, rfl⟩ := hof id o hl
    have ro := R.obj _ o' h3
    have hvi : (β.swap a b) id = β (swN a b id) := rfl
    cases o' with
    | box e cs =>
      obtain ⟨b', vs, q1, q2, q3, q4⟩ := ro
      exact ⟨b', vs, hvi.trans q1, q2, q3, hcs cs _ q4⟩
    | row e t l ver lv =>
      obtain ⟨xs, q1, q2, q3, q4⟩ := ro
      refine ⟨xs, by rw [hvi]; exact q1, q2, q3, fun i x hx j d hd => ?_⟩
      obtain ⟨u, hu, hr⟩ := q4 i x hx j d hd
      exact ⟨u, hu, hrep _ _ hr⟩
    | map kt vt l =>
      obtain ⟨b', es, clock, q1, q2, q3, q4, q5⟩ := ro
      exact ⟨b', es, clock, hvi.trans q1, q2, q3, q4, fun i x y hx hy => ⟨hvis _ _ _ (q5 i x y hx hy).1, hvis _ _ _ (q5 i x y hx hy).2⟩⟩
    | loop st =>
      obtain ⟨b', r, q1, q2, q3, q4⟩ := ro
      exact ⟨b', r, hvi.trans q1, q2, q3, q4⟩
  · obtain ⟨o1, h3, _⟩ := hof id o q1
    obtain ⟨o2, h4, _⟩ := hof id' o' q2
    exact swN_inj (R.dis _ o1 _ o2 b' h3 h4 q3 q4)
  · obtain ⟨o1, h3, _⟩ := hof id o q1
    exact R.own _ o1 b' h3 q2
  · obtain ⟨o1, h3, _⟩ := hof id o q1
    exact R.Mo _ o1 b' h3 q2
  · obtain ⟨o1, h3, rfl⟩ := hof id o q1
    by_cases hib : id = b
    · subst hib
      simp only [Fr.name, if_true, Option.some.injEq] at q2
      right
      rw [← q2]
      show (β (swN a id id), β.lp (swN a id id)) = _
      rw [swN_b]
    · simp only [Fr.name, if_neg hib] at q2
      have hia : id ≠ a := by
        intro e
        have := R.nmg _ _ q2
        omega
      rw [swN_o hia hib] at h3
      rw [swO_isRow]
      refine (R.fix id o1 v h3 q2).imp (fun h => h) (fun h => ?_)
      show (β (swN a b id), β.lp (swN a b id)) = v
      rw [swN_o hia hib]
      exact h
  · by_cases hib : id = b
    · omega
    · simp only [Fr.name, if_neg hib] at q
      exact R.nmg id v q
  · unfold St.swap at hl
    rw [look_map] at hl
    simp only [Option.map_eq_some_iff] at hl
    obtain ⟨q, hq, rfl⟩ := hl
    exact hpv q _ _ _ (R.tmp t q hq)
  · unfold St.swap at hl
    rw [look_map] at hl
    simp only [Option.map_eq_some_iff] at hl
    obtain ⟨q, hq, hq2⟩ := hl
    cases q <;> simp [swP] at hq2

theorem Ok.unname {b : Nat} {v : Value × Loop × (Int → Option Code)} (hnb : F.nm b = none) (k : Ok (F.name b v) w β h) : Ok F w β h := by
  refine ⟨k.bel, k.hB, k.obj, k.dis, k.frm, k.own, k.Mo, k.Mlt, k.Meq, fun id o u q1 q2 => ?_, fun id u q => ?_, k.glo⟩
  · refine k.fix id o u q1 ?_
    by_cases hib : id = b
    · subst hib; rw [hnb] at q2; cases q2
    · simp only [Fr.name, if_neg hib]; exact q2
  · refine k.nmg id u ?_
    by_cases hib : id = b
    · subst hib; rw [hnb] at q; cases q
    · simp only [Fr.name, if_neg hib]; exact q

structure Catcher (U : Univ) where
  t : TypeId
  agg : Bool
  e : TypeId
  out : List (Datum U) → Option (List (Datum U))

structure Wrote (b : Nat) (w w' : World) : Prop where
  os : w'.os = w.os
  tape : w'.tape = w.tape
  output : w'.output = w.output
  size : w.heap.size ≤ w'.heap.size
  heap : ∀ b', b' < w.heap.size → b' ≠ b → w'.heap[b']? = w.heap[b']?

structure Catcher.Holds (P : Program) (g : FuncId) (c : Catcher U) : Prop where
  enters : Enters P g
  calm : ∀ (b : Nat) (w : World), CallsDIn (fen P none) 0 P g #[.pointer (some ⟨b, 0, none⟩)] .returning w fun e u' w' => (∃ v, e = .returned v) ∧ u' = .returning ∧ w' = w
  hot : ∀ (b : Nat) (w : World) (cur : Array Value) (v : Value) (ds outs : List (Datum U)), b < w.heap.size → w.heap[b]? = some (.cells cur c.e (0, 0)) → PanIs ⟨c.t, c.agg, ds⟩ v → c.out ds = some outs → cur.size = outs.length →
    CallsDIn (fen P none) 0 P g #[.pointer (some ⟨b, 0, none⟩)] (.panicking [{ v, recovered := false }]) w fun e u' w' => (∃ v, e = .returned v) ∧ u' = .panicking [{ v, recovered := true }] ∧ Wrote b w w' ∧
      ∃ us : List Value, us.length = outs.length ∧ (∀ (j : Nat) (d : Datum U) (u : Value), outs[j]? = some d → us[j]? = some u → Says d u) ∧ w'.heap[b]? = some (.cells us.toArray c.e (0, 0))

def deferOf (σ : List (Nat × PV U)) : List Oper → Option (FuncId × Nat)
  | [o] => match o.op, o.guard, o.dst with
    | .defer c, none, none => match c.callee with
      | .value f => match calleeOf (ev σ f) with
        | some (g, ids) => match c.args.toList.map (ev σ), ids with
          | [.one (.ptr id off)], [] => bif Nat.beq off 0 then some (g, id) else none
          | [], [id] => some (g, id)
          | _, _ => none
        | none => none
      | _ => none
    | _, _, _ => none
  | _ => none

theorem defer_wp {id : Nat} {ops : Array Oper} {g : FuncId} {j : Nat} {a : Act} (hd : deferOf s.σ ops.toList = some (g, j)) (hE : Enters E.P g) (R : Rel F n β s a.tmps w) :
    ∃ b e cs, look j s.h = some (.box e cs) ∧ β j = .pointer (some ⟨b, 0, none⟩) ∧ ∃ cap args, (args ++ cap = #[Value.pointer (some ⟨b, 0, none⟩)]) ∧
      ∀ Q : Exit → Act → World → Prop, Q .normal { a with defers := { target := .fn (.func g) cap, args := args } :: a.defers } w → (Code.region id ops false).wpIn (fen E.P none) 0 E.P Q a w := by
  unfold deferOf at hd
  split at hd
  case h_2 => cases hd
  rename_i o hops
  split at hd
  case h_2 => cases hd
  rename_i c h1 h2 h3
  split at hd
  case h_2 => cases hd
  rename_i f hf
  split at hd
  case h_2 => cases hd
  rename_i g' ids hc
  have hopsA : ops = #[o] := by
    apply Array.toList_inj.1
    rw [hops]
  subst hopsA
  obtain ⟨bs, hv, hbl, hbr⟩ := callee_rel hc (ev_rel R f)
  have hrun : ∀ (args : Array Value) (Q : Exit → Act → World → Prop), c.args.map a.eval = args → Q .normal { a with defers := { target := .fn (.func g') (bs.map fun b => Value.pointer (some ⟨b, 0, none⟩)).toArray, args := args } :: a.defers } w →
      (Code.region id #[o] false).wpIn (fen E.P none) 0 E.P Q a w := by
    intro args Q hargs hQ
    refine wpIn_region ?_
    have hr : List.range (#[o] : Array Oper).size = [0] := rfl
    rw [hr]
    simp only [wpOpsIn, List.getElem?_toArray, List.getElem?_cons_zero]
    rw [if_pos (by simp [Region.wanted, h2])]
    refine ⟨fun f' hf' => by simp [Oper.about, h1] at hf', ?_⟩
    have hx : (o.semAt none a.eval).run E.P w = .ok (.defer { target := .fn (.func g') (bs.map fun b => Value.pointer (some ⟨b, 0, none⟩)).toArray, args := args }) w := by
      rw [Oper.semAt_none]
      simp [execOp, h1, resolve, hf, hv, Deferred.ofValue, hargs]
    show o.uponIn (fen E.P none) 0 E.P a _ Q ((o.semAt none a.eval).run E.P w)
    rw [hx, Oper.uponIn_defer, h3]
    exact hQ
  split at hd
  · rename_i id' off hxs
    simp only [Bool.cond_eq_ite] at hd
    split at hd
    case isFalse => cases hd
    rename_i hoff
    have hoff := Nat.eq_of_beq_eq_true hoff
    subst hoff
    simp only [Option.some.injEq, Prod.mk.injEq] at hd
    obtain ⟨rfl, rfl⟩ := hd
    obtain ⟨x, hx⟩ : ∃ x, c.args.toList = [x] := by
      match hcl : c.args.toList, hxs with
      | [x], _ => exact ⟨x, rfl⟩
      | [], h => simp at h
      | _ :: _ :: _, h => simp at h
    have hxe : ev s.σ x = .one (.ptr id' 0) := by simpa [hx] using hxs
    have hr := ev_rel R x
    rw [hxe] at hr
    obtain ⟨e, cs, b, q1, q2, q3⟩ := hr.inv.2
    have hbs : bs = [] := by simpa using hbl
    subst hbs
    refine ⟨b, e, cs, q1, q2, #[], #[Value.pointer (some ⟨b, 0, none⟩)], rfl, fun Q hQ => hrun _ Q ?_ hQ⟩
    apply Array.toList_inj.1
    simp [hx, q3]
  · rename_i id' hxs
    simp only [Option.some.injEq, Prod.mk.injEq] at hd
    obtain ⟨rfl, rfl⟩ := hd
    have hx : c.args.toList = [] := by simpa using hxs
    match bs, hbl with
    | [b], _ =>
      obtain ⟨e, cs, q1, q2⟩ := hbr 0 id' b rfl rfl
      refine ⟨b, e, cs, q1, q2, #[Value.pointer (some ⟨b, 0, none⟩)], #[], rfl, fun Q hQ => hrun _ Q ?_ hQ⟩
      apply Array.toList_inj.1
      simp [hx]
    | [], h => simp at h
    | _ :: _ :: _, h => simp at h
  · cases hd

def caught (c : Catcher U) (b : Nat) (s : St U) (v : PanV U) : Option (St U) :=
  bif Nat.beq v.t c.t && (v.agg == c.agg) then (match c.out v.ds with
    | some ds => match look b s.h with
      | some (.box e cs) => bif Nat.beq e c.e && Nat.beq cs.length ds.length then some ⟨s.σ, write b (.box e (ds.map .d)) s.h⟩ else none
      | _ => none
    | none => none) else none

def inScope : Code → Code
  | .scope c => c
  | c => c

theorem inScope_wp {G : Fence} {m : Nat} {P : Program} {fn : Func} {R : Ending → World → Prop} {c : Code} {a : Act} (h : (inScope c).wpIn G m P (bodyPostM G m P fn R) a w) : c.wpIn G m P (bodyPostM G m P fn R) a w := by
  cases c with
  | scope c =>
    refine wpIn_scope (wpIn_mono h (fun e a w hq => ?_))
    cases e <;> exact hq
  | _ => exact h

def vcD (E : Env U) (C : FuncId → Option (Catcher U)) (L : Nat → St U → Ann U) (f : Func) (k : Con U) (xs : Dens U.T k.params) : Prop :=
  match f.body with
  | some (.seq a y) => match inScope y with
   | .seq (.region rid ops false) c => bif okCode f.ntmps a && okCode f.ntmps c && noRF a && Nat.ble k.args.length f.ntmps && E.yl.isEmpty then
      smalls (pickD (toList U k.params xs) (datC k.ain ++ datO k.oin)) (wpc E (expoF f (.seq a (.seq (.region rid ops false) c)) ||| bits (tmpsOf (ops.toList.flatMap fun o => match o.op with
        | .defer d => d.operands.toList
        | _ => []))) L a 0 (St.init k (toList U k.params xs)) (fun e s => match e with
        | .normal => match deferOf s.σ ops.toList with
          | some (g, id) => match C g with
            | some ct => bif (look (oid (k.oin.length + 500)) s.h).isNone && Nat.blt id 1000000 then
                wpc E (expoF f (.seq a (.seq (.region rid ops false) c))) L c (loops a) (s.swap id (oid (k.oin.length + 500))) (fun e s' => match e with
                  | .exit _ => Bad 3002 1
                  | .panic v => match caught ct (oid (k.oin.length + 500)) s' v with
                    | some s'' => post E.P f k xs s''
                    | none => Bad 3003 0
                  | _ => post E.P f k xs s')
              else Bad 3004 0
            | none => Bad 3005 0
          | none => Bad 3006 0
        | _ => Bad 3007 0)) else Bad 3001 1
   | _ => Bad 3000 2
  | _ => Bad 3000 1

theorem Says.rep {d : Datum U} {u : Value} (h : Says d u) (w : World) (M : Nat → Prop) : Rep U w M d u := by
  unfold Says at h
  split at h
  · subst h; exact .int _ _
  · subst h; exact .bool _
  · exact h.elim

theorem caught_after {b0 : Nat} (k : Ok F w β h) {id : Nat} {e : TypeId} {cs : List (Cell U)} (hl : look id h = some (.box e cs)) {b : Nat} (hβ : β id = .pointer (some ⟨b, 0, none⟩)) (hB : F.B ≤ b) {w' : World} (hw : Wrote b w w') {ds : List (Datum U)} {us : List Value}
    (hlen : us.length = ds.length) (hs : ∀ (j : Nat) (d : Datum U) (u : Value), ds[j]? = some d → us[j]? = some u → Says d u) (hh : w'.heap[b]? = some (.cells us.toArray e (0, 0))) : After F w β h w' β (write id (.box e (ds.map .d)) h) := by
  refine turn_after k hl rfl hw.os hw.tape hw.output hw.size (fun b' hb' hn => hw.heap b' hb' (fun e => hn (by rw [hβ, e]; rfl))) rfl (fun _ _ => rfl) rfl (fun ho => by cases ho) (fun b' hb' => .inl hb')
    (fun e' cs' he => ⟨rfl, _, by simp only [Ob.box.injEq] at he; obtain ⟨rfl, _⟩ := he; rfl⟩) (fun e' t l ver lv he => by cases he) (fun x => ?_)
  refine ⟨b, us.toArray, hβ, hB, hh, by simpa using hlen, fun v hv => ?_, fun j c v hc hv => ?_⟩
  · obtain ⟨j, hj⟩ := List.mem_iff_getElem?.1 (by simpa using hv)
    have hjl : j < ds.length := by rw [← hlen]; exact (List.getElem?_eq_some_iff.1 hj).1
    have hr := (hs j _ v (List.getElem?_eq_getElem hjl) hj).rep w (fun _ => True)
    exact hr.one
  · simp only [List.getElem?_map, Option.map_eq_some_iff] at hc
    obtain ⟨d, hd, rfl⟩ := hc
    exact (hs j d v hd (by simpa using hv)).rep _ _

theorem vcD_gives_at {Y : Fr} {C : FuncId → Option (Catcher U)} (hE : E.Fits) (hG : E.Sound Y) (hC : ∀ g c, C g = some c → c.Holds E.P g) (hm : E.P.follows .mixedOrders = true) {f : FuncId} {fn : Func} (hf : E.P.funcs[f]? = some fn) {k : Con U} {xs : Dens U.T k.params} (L : Nat → St U → Ann U) (h : vcD E C L fn k xs) :
    GivesAt Y (runF E.P f) E.G k xs := by
  intro F hY β w us vs hw0 hFG K hnm hnm2 hcr hpack
  unfold vcD at h
  split at h
  case h_2 => exact h.elim
  rename_i ca cy hb
  split at h
  case h_2 => exact h.elim
  rename_i rid ops cc hbi
  simp only [Bool.cond_eq_ite] at h
  split at h
  case isFalse => exact h.elim
  rename_i hok
  simp only [Bool.and_eq_true] at hok
  obtain ⟨⟨⟨⟨hoka, hokc⟩, hnra⟩, hargs⟩, hyl0⟩ := hok
  have hyl0 : E.yl = [] := by simpa using hyl0
  have hargs := Nat.le_of_ble_eq_true hargs
  have h := smalls_spec h (given_small K hcr)
  have hvl := pack_length hpack
  have hfe : (fen E.P none).fn f := by show (E.P.funcs[f]?).isSome = true; rw [hf]; rfl
  refine callsIn_of_wp_marks hf hb hfe ?_
  have hsz : (vs.toArray ++ Array.replicate (fn.ntmps - vs.toArray.size) undef).size = fn.ntmps := by simp; omega
  have hstart : ∀ t p, look t (St.init k (toList U k.params xs)).σ = some p → PRel w β (canon (toList U k.params xs) k.oin) (St.init k (toList U k.params xs)).σ p ((vs.toArray ++ Array.replicate (fn.ntmps - vs.toArray.size) undef).getD t undef) ∧ p.plain = true := by
    intro t p hl
    obtain ⟨v, h2, h3, h4⟩ := start_rel (σ := (St.init k (toList U k.params xs)).σ) hpack hcr hl
    refine ⟨?_, h4⟩
    have htl : t < vs.length := (List.getElem?_eq_some_iff.1 h2).1
    have : (vs.toArray ++ Array.replicate (fn.ntmps - vs.toArray.size) undef).getD t undef = v := by
      rw [Array.getD_eq_getD_getElem?, Array.getElem?_append_left (by simpa using htl)]
      simp [h2]
    rw [this]
    exact h3
  have R : Rel F fn.ntmps β (St.init k (toList U k.params xs)) (vs.toArray ++ Array.replicate (fn.ntmps - vs.toArray.size) undef) w := ⟨K, hsz, fun t p hl => (hstart t p hl).1⟩
  have hO : OptIn (fun _ => False) (St.init k (toList U k.params xs)).σ := by
    intro t gs p hl
    have := (hstart t _ hl).2
    simp [PV.plain] at this
  refine wpIn_seq (wpc_sound0 (ro := none) (F := F) hE hG (fun h => absurd hyl0 h) hFG hm _ L ca 0 _ _ hoka hnra h _ { tmps := vs.toArray ++ Array.replicate (fn.ntmps - vs.toArray.size) undef, defers := [] } w R hO _ (fun way e s1 β1 a1 w1 he hq R1 hO1 hd1 => ?_))
  cases way with
  | exit id => exact hq.elim
  | ret => exact hq.elim
  | panic v => exact hq.elim
  | normal =>
  have he : e = .normal := he
  subst he
  dsimp only at hq
  split at hq
  case h_2 => exact hq.elim
  rename_i g id hdo
  split at hq
  case h_2 => exact hq.elim
  rename_i ct hct
  split at hq
  case isFalse => exact hq.elim
  rename_i hfr
  simp only [Bool.and_eq_true] at hfr
  have hfree : look (oid (k.oin.length + 500)) s1.h = none := by simpa using hfr.1
  have hlt : id < 1000000 := Nat.le_of_ble_eq_true hfr.2
  have hcat := hC g ct hct
  obtain ⟨b, e0, cs0, hlb, hβb, cap, dargs, hcap, hdw⟩ := defer_wp (E := E) hdo hcat.enters R1
  have hnb : F.nm (oid (k.oin.length + 500)) = none := by
    cases hh : F.nm (oid (k.oin.length + 500)) with
    | none => rfl
    | some v =>
      obtain ⟨j, hj, hjj⟩ := hnm2 _ v hh
      have := oid_inj hjj
      omega
  obtain ⟨R2, hO2⟩ := swap_rel R1 hlt (by show 1000000 ≤ 1000000 + _; omega) hnb hfree
  refine inScope_wp ?_
  rw [hbi]
  refine wpIn_seq (hdw _ ?_)
  refine wpc_sound hE hG hyl0 hm _ L cc _ _ _ hokc hq (F.name _ _) _ { a1 with defers := { target := .fn (.func g) cap, args := dargs } :: a1.defers } w1 hFG R2 hO2 _ ?_
  intro F3 way e s3 β3 a3 w3 he hq3 R3 hO3 hlat
  have hdef : a1.defers = [] := hd1
  have hinv : ∀ w : World, (invoke (.fn (.func g) cap) dargs).run E.P w = .ok (.enter g #[Value.pointer (some ⟨b, 0, none⟩)]) w := by
    intro w
    have := hcat.enters.run (dargs ++ cap) w
    rw [hcap] at this
    simp only [invoke, hcap]
    exact this
  have hfg : (fen E.P none).fn g := by
    obtain ⟨fn', h1, _⟩ := hcat.enters
    show (E.P.funcs[g]?).isSome = true
    rw [h1]; rfl
  have hret : ∀ (s4 : St U) (β4 : Nm) (w4 : World), post E.P fn k xs s4 → Ok (F.name (oid (k.oin.length + 500)) (β1 id, β1.lp id)) w4 β4 s4.h → (∀ t p, look t s4.σ = some p → PRel w4 β4 s4.h s4.σ p (a3.tmps.getD t undef)) → LeavesInM (fen E.P none) 0 E.P fn a3.tmps (fun e w' => match e with
      | .returned v => (∀ b, k.bad = some b → (b xs).1 = false) ∧ ∃ β' rs, Ok F w' β' (canon (toList U k.tys (k.fn xs)) k.oout) ∧ PackRes k.res rs v ∧
          CsRel w' β' (canon (toList U k.tys (k.fn xs)) k.oout) (k.rout.map (iC (toList U k.tys (k.fn xs)) oid (fun _ => 0))) rs
      | .panicked ch => ∃ b u, k.bad = some b ∧ (b xs).1 = true ∧ ch = [{ v := u, recovered := false }] ∧ PanIs (b xs).2 u ∧ Below F.B w w' ∧ ∀ b, b < w.heap.size → ¬ F.K b → w'.heap[b]? = w.heap[b]?
      | .outgrown => False) [] .returning w4 := by
    intro s4 β4 w4 hp4 k4 ht4
    have R4 : Rel F fn.ntmps β4 s4 a3.tmps w4 := ⟨k4.unname hnb, R3.sz, ht4⟩
    obtain ⟨v, hrun, hgave⟩ := post_gives (E := E) hp4 R4 hnm2
    exact ⟨v, hrun, hgave⟩
  have hcalm : post E.P fn k xs s3 → LeavesInM (fen E.P none) 0 E.P fn a3.tmps (fun e w' => match e with
      | .returned v => (∀ b, k.bad = some b → (b xs).1 = false) ∧ ∃ β' rs, Ok F w' β' (canon (toList U k.tys (k.fn xs)) k.oout) ∧ PackRes k.res rs v ∧
          CsRel w' β' (canon (toList U k.tys (k.fn xs)) k.oout) (k.rout.map (iC (toList U k.tys (k.fn xs)) oid (fun _ => 0))) rs
      | .panicked ch => ∃ b u, k.bad = some b ∧ (b xs).1 = true ∧ ch = [{ v := u, recovered := false }] ∧ PanIs (b xs).2 u ∧ Below F.B w w' ∧ ∀ b, b < w.heap.size → ¬ F.K b → w'.heap[b]? = w.heap[b]?
      | .outgrown => False) a3.defers .returning w3 := by
    intro hp
    refine hlat.leave (by simp) R3.ok (fun w4 β4 k4 sh4 => ?_)
    rw [hdef]
    refine ⟨by simp, .inr ⟨fun hh => by simp [fen] at hh, .func g, cap, g, _, rfl, hinv w4, fun g' hg' => ?_, (hcat.calm b w4).mono ?_⟩⟩
    · simp only [Target.leads, Option.some.injEq] at hg'
      subst hg'; exact hfg
    · rintro e u' w' ⟨⟨v, rfl⟩, rfl, rfl⟩
      exact hret s3 β4 w' hp k4 (fun t p hl => sh4.p (R3.tmp t p hl))
  cases way with
  | exit id => exact hq3.elim
  | normal =>
    have he : e = .normal := he
    subst he
    exact hcalm hq3
  | ret =>
    have he : e = .ret := he
    subst he
    exact hcalm hq3
  | panic pv =>
    obtain ⟨u, hpi, rfl⟩ := he
    dsimp only at hq3
    split at hq3
    case h_2 => exact hq3.elim
    rename_i s5 hcg
    unfold caught at hcg
    simp only [Bool.cond_eq_ite] at hcg
    split at hcg
    case isFalse => cases hcg
    rename_i hta
    simp only [Bool.and_eq_true, beq_iff_eq] at hta
    have hpt := Nat.eq_of_beq_eq_true hta.1
    split at hcg
    case h_2 => cases hcg
    rename_i ds hds
    split at hcg
    case h_2 => cases hcg
    rename_i e5 cs5 hl5
    split at hcg
    case isFalse => cases hcg
    rename_i hec
    simp only [Bool.and_eq_true] at hec
    have he5 := Nat.eq_of_beq_eq_true hec.1
    have hln := Nat.eq_of_beq_eq_true hec.2
    simp only [Option.some.injEq] at hcg
    refine hlat.leave (by simp) R3.ok (fun w4 β4 k4 sh4 => ?_)
    rw [hdef]
    obtain ⟨b4, vs4, hb4, hB4, hh4, hcs4⟩ := k4.obj _ _ hl5
    have hbb : b4 = b := by
      have hfix := k4.fix _ _ (β1 id, β1.lp id) hl5 (by simp [Fr.name])
      rcases hfix with h1 | h1
      · cases h1
      · simp only [Prod.mk.injEq] at h1
        rw [hb4, hβb] at h1
        have := h1.1
        simpa using this
    subst hbb
    have hpi2 : PanIs ⟨ct.t, ct.agg, pv.ds⟩ u := by
      rw [← hpt, ← hta.2]; exact hpi
    have hbl4 : b4 < w4.heap.size := (Array.getElem?_eq_some_iff.1 hh4).1
    refine ⟨by simp, .inr ⟨fun hh => by simp [fen] at hh, .func g, cap, g, _, rfl, hinv w4, fun g' hg' => ?_, (hcat.hot b4 w4 vs4 u pv.ds ds hbl4 (by rw [← he5]; exact hh4) hpi2 hds ?_).mono ?_⟩⟩
    · simp only [Target.leads, Option.some.injEq] at hg'
      subst hg'; exact hfg
    · have := hcs4.1
      simp only [Array.length_toList] at this
      omega
    · rintro e u' w' ⟨⟨v, rfl⟩, rfl, hwr, us5, hul, hus, hh5⟩
      have A := caught_after (b0 := b4) k4 hl5 hb4 hB4 hwr hul hus (by rw [he5]; exact hh5)
      subst hcg
      exact hret _ β4 w' hq3 A.ok (fun t p hl => A.ext.p (sh4.p (R3.tmp t p hl)))

theorem vcD_gives {Y : Fr} {C : FuncId → Option (Catcher U)} (hE : E.Fits) (hG : E.Sound Y) (hC : ∀ g c, C g = some c → c.Holds E.P g) (hm : E.P.follows .mixedOrders = true) {f : FuncId} {fn : Func} (hf : E.P.funcs[f]? = some fn) (hn : (fn.name == "runtime.NumGoroutine") = false) {k : Con U}
    (L : Dens U.T k.params → Nat → St U → Ann U) (h : ∀ xs, holds (k.pre.map fun p => p xs) → vcD E C (L xs) fn k xs) (hb : fn.body.isNone = false) : GivesY Y E.P E.G f k :=
  ⟨⟨fn, hf, hn, hb⟩, fun xs hp => vcD_gives_at hE hG hC hm hf (L xs) (h xs hp)⟩

end
end Go.VT
end

section
set_option linter.unusedVariables false
set_option maxRecDepth 100000
namespace Go.Rp
open Go Go.VT

abbrev mapI : Ty := .map i64 i64
def lg (l : List (Int × Int)) (k : Int) : Int := (mget (fun x y => x == y) l k).getD 0
noncomputable def wrong (e : Int) : PanV RU := ⟨108, true, [⟨i64, e⟩]⟩

noncomputable def cMust : Con RU := ⟨[one, one], [.bool, i64], [.d 0, .d 1], [], none, some fun p => (!p.1, wrong p.2.1), [], [], [], [], fun _ => (), [], [], []⟩
noncomputable def cIsW : Con RU := con [one] [i64] [one] [.bool] [false] none fun p => (isWord p.1, ())
noncomputable def cNotW : Con RU := con [one] [i64] [one] [.bool] [false] none fun p => (!isWord p.1, ())
noncomputable def cHas : Con RU := con [one, one] [i64, i64] [one] [.bool] [false] none fun p => (decide (0 ≤ p.1) && decide (p.1 < p.2.1), ())
def firstAt (f : Int → Bool) : List Int → Int → Int
  | [], _ => -1
  | x :: r, i => bif f x then i else firstAt f r (i + 1)
noncomputable def cIdxW (g : FuncId) : Con RU := ⟨[one, one], [ints], [.d 0, .fn g], [], none, none, [one], [i64], [.d 0], [], fun p => (firstAt (fun n => !isWord n) p.1 0, ()), [], [], []⟩
noncomputable def cAnyW (g : FuncId) : Con RU := ⟨[one, one], [ints], [.d 0, .fn g], [], none, none, [one], [.bool], [.d 0], [], fun p => (p.1.any (fun n => !isWord n), ()), [], [], []⟩

abbrev stD (k q : Nat) : List OPat := [.box 69 [.d k, .map 1], .map q]
noncomputable abbrev conK (bad : List Node → List (Int × Int) → Int → Bool) (val : List Node → List (Int × Int) → Int → Int) : Con RU :=
  ⟨[one, one], [nodes, mapI, i64], [.ptr 0 0, .d 2], stD 0 1, some fun p => 0 ≤ p.2.2.1 ∧ p.2.2.1 < p.1.length, some fun p => (bad p.1 p.2.1 p.2.2.1, wrong 1), [one], [i64, nodes, mapI], [.d 0], stD 1 2, fun p => (val p.1 p.2.1 p.2.2.1, p.1, p.2.1, ()), [0, 1], [], []⟩

def hasB (n below : Int) : Bool := decide (0 ≤ n) && decide (n < below)
def okWords (x : Node) : Bool := x.a == 0 && x.b == 0 && x.from_ == 0 && x.len == 0 && x.n == 0 && x.words.all isWord
def okCat (x : Node) (at_ : Int) : Bool := hasB x.a at_ && hasB x.b at_ && x.from_ == 0 && x.len == 0 && x.n == 0 && x.words.isEmpty
def okPart (x : Node) (L : List (Int × Int)) (at_ : Int) : Bool := hasB x.a at_ && x.b == 0 && x.n == 0 && x.words.isEmpty && decide (0 ≤ x.len) && decide (x.len ≤ lg L x.a) && decide (0 ≤ x.from_) && decide (x.from_ ≤ IntKind.i64.wrap (lg L x.a - x.len))
def okOff (x : Node) (at_ : Int) : Bool := hasB x.a at_ && x.b == 0 && x.from_ == 0 && x.len == 0 && x.words.isEmpty && isWord x.n
noncomputable def cKWords : Con RU := conK (fun l L i => !okWords (l.getD i.toNat node0)) (fun l L i => (l.getD i.toNat node0).words.length)
noncomputable def cKCat : Con RU := conK (fun l L i => !okCat (l.getD i.toNat node0) i) (fun l L i => IntKind.i64.wrap (lg L (l.getD i.toNat node0).a + lg L (l.getD i.toNat node0).b))
noncomputable def cKPart : Con RU := conK (fun l L i => !okPart (l.getD i.toNat node0) L i) (fun l L i => (l.getD i.toNat node0).len)
noncomputable def cKOff : Con RU := conK (fun l L i => !okOff (l.getD i.toNat node0) i) (fun l L i => lg L (l.getD i.toNat node0).a)

noncomputable def lIdx (l : List Int) : Nat → St RU → Ann RU := fun _ _ => ⟨[], [.slot 8], [i64], fun p => 0 ≤ p.1 ∧ p.1 ≤ l.length ∧ (l.take p.1.toNat).all isWord = true, fun p => l.length - p.1.toNat, []⟩

end Go.Rp
end

section
set_option linter.unusedVariables false
set_option maxRecDepth 100000
namespace Go.Rp
open Go Go.VT

noncomputable def cKind (i : Int) : Con RU := conK
  (fun l L at_ => if i ≤ 0 then !okWords (l.getD at_.toNat node0) else if i = 1 then !okCat (l.getD at_.toNat node0) at_ else if i = 2 then !okPart (l.getD at_.toNat node0) L at_ else !okOff (l.getD at_.toNat node0) at_)
  (fun l L at_ => if i ≤ 0 then ((l.getD at_.toNat node0).words.length : Int) else if i = 1 then IntKind.i64.wrap (lg L (l.getD at_.toNat node0).a + lg L (l.getD at_.toNat node0).b) else if i = 2 then (l.getD at_.toNat node0).len else lg L (l.getD at_.toNat node0).a)
noncomputable def tabR (fs : List FuncId) (i : Int) : List (Con RU) := bif fs == [102, 103, 104, 105] then [cKind i] else []

def longFrom : Nat → List Int → List (Int × Int)
  | _, [] => []
  | i, x :: r => ((i : Int), x) :: longFrom (i + 1) r
def longOf (l : List Node) : List (Int × Int) := longFrom 0 (lensOf l)

def stepOk (l : List Node) (i : Nat) : Bool := fieldsOf (l.getD i node0) i && nodeOk (lensOf l) (l.getD i node0) ((lensOf l).getD i 0)

noncomputable def cOpen : Con RU := ⟨[(true, 1), one], [nodes, ints], [.d 0, .d 1], [], none, some fun p => (askedOf p.1 p.2.1 != 0, wrong (askedOf p.1 p.2.1)), [one], [nodes, mapI], [.ptr 0 0], stD 0 1, fun p => (p.1, longOf p.1, ()), [], [], []⟩
noncomputable def lOpen (l : List Node) (r : List Int) : Nat → St RU → Ann RU := fun n _ => match n with
  | 0 => ⟨[], [.slot 22, .row 1024], [i64, mapI], fun p => 0 ≤ p.1 ∧ p.1 ≤ l.length ∧ (∀ i : Nat, i < p.1.toNat → stepOk l i = true) ∧ p.2.1 = longOf (l.take p.1.toNat), fun p => l.length - p.1.toNat, []⟩
  | _ => ⟨[], [.slot 59], [i64], fun p => 0 ≤ p.1 ∧ p.1 ≤ r.length ∧ ∀ i : Nat, i < p.1.toNat → lies (r.getD i 0) 0 (l.length - 1) = true, fun p => r.length - p.1.toNat, []⟩
end Go.Rp
end

section
set_option linter.unusedVariables false
set_option maxRecDepth 100000
namespace Go.Rp
open Go Go.VT

noncomputable def cClone : Con RU := con [one] [ints] [one] [ints] [true] (some fun p => p.1.length ≤ 17592186044416) fun p => (p.1, ())
abbrev stR (k q : Nat) : List OPat := [.box 69 [.row 2, .map 1], .map q, .row k]
noncomputable def cOwnS : Con RU := ⟨[one], [nodes, mapI], [.ptr 0 0], stD 0 1, some fun p => few' p.1, none, [], [nodes, mapI], [], stR 0 1, fun p => p, [], [], []⟩
noncomputable def lOwnS (l : List Node) : Nat → St RU → Ann RU := fun _ _ => ⟨[], [.slot 20, .row 640], [i64, nodes], fun p => 0 ≤ p.1 ∧ p.1 ≤ l.length ∧ p.2.1 = l, fun p => l.length - p.1.toNat, []⟩

abbrev putBad (l : List Node) (long : Int) : Bool := !(decide ((l.length : Int) < 4000) && decide (long ≤ 1048576))
abbrev putL (l : List Node) (L : List (Int × Int)) (long : Int) : List (Int × Int) := mput (fun x y => x == y) L l.length long
noncomputable def cPut : Con RU := ⟨[one, (true, 7), one], [nodes, mapI, i64, i64, i64, i64, i64, i64, ints, i64], [.ptr 0 0, .d 2, .d 3, .d 4, .d 5, .d 6, .d 7, .d 8, .d 9], stR 0 1, none,
  some fun p => (putBad p.1 p.2.2.2.2.2.2.2.2.2.1, wrong 9), [one], [i64, nodes, mapI], [.d 0], stR 1 2,
  fun p => (p.1.length, p.1 ++ [⟨p.2.2.1, p.2.2.2.1, p.2.2.2.2.1, p.2.2.2.2.2.1, p.2.2.2.2.2.2.1, p.2.2.2.2.2.2.2.1, p.2.2.2.2.2.2.2.2.1⟩], putL p.1 p.2.1 p.2.2.2.2.2.2.2.2.2.1, ()), [], [], []⟩
noncomputable def cMade : Con RU := ⟨[one, (true, 7), one], [nodes, mapI, i64, i64, i64, i64, i64, i64, ints, i64], [.ptr 0 0, .d 2, .d 3, .d 4, .d 5, .d 6, .d 7, .d 8, .d 9], stD 0 1, some fun p => few' p.1,
  some fun p => (putBad p.1 p.2.2.2.2.2.2.2.2.2.1, wrong 9), [(true, 1), one, one], [nodes, i64, i64, mapI], [.d 0, .d 1, .d 2], [.box 69 [.un, .map 1], .map 3],
  fun p => (p.1 ++ [⟨p.2.2.1, p.2.2.2.1, p.2.2.2.2.1, p.2.2.2.2.2.1, p.2.2.2.2.2.2.1, p.2.2.2.2.2.2.2.1, p.2.2.2.2.2.2.2.2.1⟩], p.1.length, 0, putL p.1 p.2.1 p.2.2.2.2.2.2.2.2.2.1, ()), [], [], []⟩

noncomputable def cAt : Con RU := ⟨[one, one, one], [nodes, mapI, i64, i64], [.ptr 0 0, .d 2, .d 3], stD 0 1,
  some fun p => (p.1.length ≤ 4000 ∧ validOf p.1 = true ∧ p.2.1 = longOf p.1) ∧ (0 ≤ p.2.2.1 ∧ p.2.2.1 < p.1.length) ∧ 0 ≤ p.2.2.2.1 ∧ p.2.2.2.1 < at_ (lensOf p.1) p.2.2.1, none,
  [one, one], [i64, i64, nodes, mapI], [.d 0, .d 1], stD 2 3, fun p => ((wayAt p.1 p.2.2.1 p.2.2.2.1).2, (wayAt p.1 p.2.2.1 p.2.2.2.1).1, p.1, p.2.1, ()), [0, 1], [], []⟩
noncomputable def lAt (l : List Node) (a p : Int) : Nat → St RU → Ann RU := fun _ _ => ⟨[], [.slot 1, .slot 2, .slot 8, .slot 7], [i64, i64, i64, i64],
  fun q => (0 ≤ q.1 ∧ q.1 ≤ a) ∧ (0 ≤ q.2.1 ∧ q.2.1 < at_ (lensOf l) q.1) ∧ (1 ≤ q.2.2.2.1 ∧ q.2.2.2.1 ≤ 1 + a - q.1) ∧ (isWord q.2.2.1 = true ∧ (wayAt l a p).2 = word (w64 ((wayAt l q.1 q.2.1).2 + q.2.2.1))) ∧ (wayAt l a p).1 = q.2.2.2.1 - 1 + (wayAt l q.1 q.2.1).1,
  fun q => q.1.toNat, []⟩
end Go.Rp
end

section
set_option linter.unusedVariables false
set_option linter.unusedSimpArgs false
set_option maxRecDepth 100000
open Go Go.VT
namespace Go.Rp

noncomputable def caughtC : Catcher RU := ⟨108, true, 28, fun ds => match ds with
  | [⟨.int .i64, e⟩] => some [⟨.int .i64, e⟩]
  | _ => none⟩

theorem fen_round (P : Program) (ro : Option Nat) : (fen P ro).round = ro := rfl
theorem caught_calm (b : Nat) (w : World) : CallsDIn (fen prog none) 0 prog 48 #[.pointer (some ⟨b, 0, none⟩)] .returning w fun e u' w' => (∃ v, e = .returned v) ∧ u' = .returning ∧ w' = w := by
  have hu20 : prog.underlying 20 = some (.interface (prog.methodsAt 20)) := by kernel_rfl
  have hq : (Op.equal 20 .nilIface .nilIface).run prog w = .ok true w := run_equal_nil_nil w 20 hu20
  refine callsDIn_of_wpSIn Go.Proofs.Tryd.func48 rfl (by show (prog.funcs[48]?).isSome = true; kernel_rfl) fun c₀ cs hu => ?_
  apply wpSIn_seq
  apply wpSIn_region
  simp [wpOpsSIn, go_sem, recoverD, hu, Go.Proofs.Tryd.ntmps48, Exit.thenS]
  refine wpSIn_of_wpIn rfl ?_
  apply wpIn_block
  apply wpIn_seq
  apply wpIn_region
  simp [wpOpsIn, go_sem, hq, Exit.then, fen_round]
  apply wpIn_cond_true (by simp [Act.eval, Array.replicate])
  apply wpIn_region
  simp [wpOpsIn, go_sem, Exit.inBlock, fen_round]
  cases c₀
  simp_all [bodyPostS, results, Go.Proofs.Tryd.results48]

theorem pan_form {e : Int} {t : TypeId} {v : Value} (h : PanIs (U := RU) ⟨t, true, [⟨i64, e⟩]⟩ v) : v = .iface t (.agg #[.int .i64 e]) := by
  obtain ⟨vs, rfl, hl, _, hs⟩ := h
  match vs, hl with
  | [u], _ =>
    have := hs 0 _ u rfl rfl
    have : u = .int .i64 e := this
    rw [this]; rfl

theorem caught_hot (b : Nat) (w : World) (cur : Array Value) (e : Int) (hb : b < w.heap.size) (hc : w.heap[b]? = some (.cells cur 28 (0, 0))) (hsz : cur.size = 1) :
    CallsDIn (fen prog none) 0 prog 48 #[.pointer (some ⟨b, 0, none⟩)] (.panicking [{ v := .iface 108 (.agg #[.int .i64 e]), recovered := false }]) w fun e' u' w' => (∃ v, e' = .returned v) ∧ u' = .panicking [{ v := .iface 108 (.agg #[.int .i64 e]), recovered := true }] ∧ Wrote b w w' ∧ w'.heap[b]? = some (.cells #[.int .i64 e] 28 (0, 0)) := by
  have hu20 : prog.underlying 20 = some (.interface (prog.methodsAt 20)) := by kernel_rfl
  have hq : ∀ (u : TypeId) (x : Value) (w : World), (Op.equal 20 (.iface u x) .nilIface).run prog w = .ok false w := fun u x w => run_equal_held_nil w 20 u x hu20
  obtain ⟨fs, hfs⟩ : ∃ fs, prog.underlying 108 = some (.struct fs) := by
    have h : (match prog.underlying 108 with | some (.struct _) => true | _ => false) = true := by kernel_rfl
    split at h
    · exact ⟨_, by assumption⟩
    · cases h
  refine callsDIn_of_wpSIn Go.Proofs.Tryd.func48 rfl (by show (prog.funcs[48]?).isSome = true; kernel_rfl) fun c₀ cs hu => ?_
  apply wpSIn_seq
  apply wpSIn_region
  simp [wpOpsSIn, go_sem, recoverD, hu, Go.Proofs.Tryd.ntmps48, Exit.thenS]
  refine wpSIn_of_wpIn rfl ?_
  apply wpIn_block
  apply wpIn_seq
  apply wpIn_region
  simp [wpOpsIn, go_sem, hq, Exit.then, fen_round]
  apply wpIn_cond_false (by simp [Act.eval, Array.replicate])
  apply wpIn_seq
  apply wpIn_region
  simp [wpOpsIn, go_sem, Exit.then, Instr.typeAssert, run_underlying hfs, fen_round]
  apply wpIn_cond_true (by simp [Act.eval, Array.replicate])
  apply wpIn_seq
  apply wpIn_region
  simp [wpOpsIn, go_sem, Exit.then, fen_round]
  apply wpIn_region
  obtain ⟨c0, rfl⟩ : ∃ c0, cur = #[c0] := by
    match cur, hsz with
    | ⟨[c0]⟩, _ => exact ⟨c0, rfl⟩
  have hh : (w.alloc (.cells #[.int .i64 e] 108 (0, 0))).heap[b]? = some (.cells #[c0] 28 (0, 0)) := by rw [← hc]; exact Go.RowKit.Below.heap_alloc _ _ _ hb
  have hc2 : (w.alloc (.cells #[.int .i64 e] 108 (0, 0))).cell? ⟨b, 0, none⟩ = some c0 := by simp [World.cell?, hh]
  have hz : (w.alloc (.cells #[.int .i64 e] 108 (0, 0))).frozen? ⟨b, 0, none⟩ = false := by simp [World.frozen?, hh]
  simp [wpOpsIn, go_sem, Exit.inBlock, fen_round, hc2, hz]
  have hsize : (w.alloc (.cells #[.int .i64 e] 108 (0, 0))).heap.size = w.heap.size + 1 := by simp
  have hold : ∀ b', b' < w.heap.size → b' ≠ b → ((w.alloc (.cells #[.int .i64 e] 108 (0, 0))).setCell ⟨b, 0, none⟩ (.int .i64 e)).heap[b']? = w.heap[b']? := fun b' h1 h2 => by
    rw [Go.RowKit.Below.heap_setCell _ _ _ _ h2]; exact Go.RowKit.Below.heap_alloc _ _ _ h1
  have hnew : ((w.alloc (.cells #[.int .i64 e] 108 (0, 0))).setCell ⟨b, 0, none⟩ (.int .i64 e)).heap[b]? = some (.cells #[.int .i64 e] 28 (0, 0)) := by
    simp only [World.setCell, Array.getElem?_modify, if_true, hh]
    rfl
  refine ⟨rfl, .panicking [{ v := .iface 108 (.agg #[.int .i64 e]), recovered := true }], rfl, .tuple #[], ?_, ⟨_, rfl⟩, rfl, ⟨rfl, rfl, rfl, ?_, hold⟩, hnew⟩
  · simp [results, Go.Proofs.Tryd.results48]
  · show w.heap.size ≤ _
    simp [World.setCell]

theorem caught_holds : caughtC.Holds prog 48 where
  enters := ⟨_, Go.Proofs.Tryd.func48, by kernel_rfl, by kernel_rfl⟩
  calm := caught_calm
  hot := by
    intro b w cur v ds outs hb hc hp ho hsz
    simp only [caughtC] at ho
    split at ho
    · rename_i e
      simp only [Option.some.injEq] at ho
      subst ho
      have hv := pan_form hp
      subst hv
      refine (caught_hot b w cur e hb hc hsz).mono ?_
      rintro e' u' w' ⟨h1, h2, h3, h4⟩
      exact ⟨h1, h2, h3, [.int .i64 e], rfl, fun j d u hd hu => by
        match j with
        | 0 => simp at hd hu; subst hd; subst hu; rfl
        | j + 1 => simp at hd, h4⟩
    · cases ho
end Go.Rp
end

section
set_option linter.unusedVariables false
set_option maxRecDepth 100000
namespace Go.Rp
open Go Go.VT

noncomputable def cC : FuncId → Option (Catcher RU) := fun g => bif Nat.beq g 48 then some caughtC else none

theorem cC_holds : ∀ g c, cC g = some c → c.Holds prog g := by
  intro g c h
  unfold cC at h
  cases hb : Nat.beq g 48 with
  | false => rw [hb] at h; cases h
  | true =>
    rw [hb] at h
    cases h
    rw [Nat.eq_of_beq_eq_true hb]
    exact caught_holds

theorem givesD {l : List (FuncId × Con RU)} (hl : ∀ x ∈ l, Gives prog RG x.1 x.2) {f : FuncId} {fn : Func} {k : Con RU} (L : Dens RU.T k.params → Nat → St RU → Ann RU) (hf : prog.funcs[f]? = some fn) (hn : (fn.name == "runtime.NumGoroutine") = false) (hb : fn.body.isNone = false)
    (h : ∀ xs, holds (k.pre.map fun p => p xs) → vcD (EV l) cC (L xs) fn k xs) : Gives prog RG f k :=
  fun Y => vcD_gives (E := EV l) (fits l) ⟨gives_of (fun x hx => hl x hx Y), fun _ _ _ _ _ h => (by cases h), fun _ _ _ h => (by cases h), fun _ h => (by cases h), fun _ _ _ _ h => (by cases h)⟩ cC_holds mixed hf hn L h hb

end Go.Rp
end

section
set_option linter.unusedVariables false
set_option maxRecDepth 100000
namespace Go.Rp
open Go Go.VT

noncomputable def EVx (inv : Nat → String → List (Con RU)) (it : FuncId → List (Con RU × Con RU × List (Nat × Nat))) (l : List (FuncId × Con RU)) : Env RU := ⟨prog, codesOf codeL, consOf l, RG, fun _ _ => [], inv, [], none, it, false⟩
theorem fitsX (inv it) (l : List (FuncId × Con RU)) : (EVx inv it l).Fits := fits_of (by kernel_rfl)

def InvOk (inv : Nat → String → List (Con RU)) : Prop := ∀ i name k, k ∈ inv i name → ∀ Y, GivesC Y (runI prog name) RG k
def ItOk (it : FuncId → List (Con RU × Con RU × List (Nat × Nat))) : Prop := ∀ f k kY mp, (k, kY, mp) ∈ it f → ∀ Y', GivesC Y' (runY prog) RG kY → GivesY Y' prog RG f k

theorem givesDX {inv it} (hi : InvOk inv) (ht : ItOk it) {l : List (FuncId × Con RU)} (hl : ∀ x ∈ l, Gives prog RG x.1 x.2) {f : FuncId} {fn : Func} {k : Con RU} (L : Dens RU.T k.params → Nat → St RU → Ann RU) (hf : prog.funcs[f]? = some fn) (hn : (fn.name == "runtime.NumGoroutine") = false) (hb : fn.body.isNone = false)
    (h : ∀ xs, holds (k.pre.map fun p => p xs) → vcD (EVx inv it l) cC (L xs) fn k xs) : Gives prog RG f k :=
  fun Y => vcD_gives (E := EVx inv it l) (fitsX inv it l) ⟨gives_of (fun x hx => hl x hx Y), fun _ _ _ _ _ h => (by cases h), fun i name k h => hi i name k h Y, fun _ h => (by cases h), ht⟩ cC_holds mixed hf hn L h hb

abbrev stG (k q a : Nat) : List OPat := [.box 70 [.ptr 2 0], .box 3 [.d a], .box 69 [.d k, .map 3], .map q]
def outB (L : List (Int × Int)) (a n : Int) : Bool := !(decide (0 ≤ n) && decide (n < lg L a))
noncomputable def cOut : Con RU := ⟨[one, one, one], [i64, nodes, mapI, i64], [.d 0, .ptr 0 0, .ptr 1 0], stG 1 2 3, none, none, [one], [.bool, nodes, mapI, i64], [.d 0], stG 1 2 3,
  fun p => (outB p.2.2.1 p.2.2.2.1 p.1, p.2.1, p.2.2.1, p.2.2.2.1, ()), [0, 1, 2, 3], [], []⟩
noncomputable def cIdxO : Con RU := ⟨[one, one], [ints, nodes, mapI, i64], [.d 0, .clo 55 [0, 1]], stG 1 2 3, none, none, [one], [i64, nodes, mapI, i64], [.d 0], stG 1 2 3,
  fun p => (firstAt (outB p.2.2.1 p.2.2.2.1) p.1 0, p.2.1, p.2.2.1, p.2.2.2.1, ()), [0, 1, 2, 3], [], []⟩
noncomputable def cAnyO : Con RU := ⟨[one, one], [ints, nodes, mapI, i64], [.d 0, .clo 55 [0, 1]], stG 1 2 3, none, none, [one], [.bool, nodes, mapI, i64], [.d 0], stG 1 2 3,
  fun p => (p.1.any (outB p.2.2.1 p.2.2.2.1), p.2.1, p.2.2.1, p.2.2.2.1, ()), [0, 1, 2, 3], [], []⟩
noncomputable def lIdxO (f : Int → Bool) (l : List Int) : Nat → St RU → Ann RU := fun _ _ => ⟨[], [.slot 8], [i64], fun p => 0 ≤ p.1 ∧ p.1 ≤ l.length ∧ (l.take p.1.toNat).all (fun n => !f n) = true, fun p => l.length - p.1.toNat, []⟩
noncomputable def lGatherP (l : List Node) (a : Int) (r : List Int) : Nat → St RU → Ann RU := fun _ _ => ⟨[9], [.slot 29, .row 7], [i64, ints], fun p => 0 ≤ p.1 ∧ p.1 ≤ r.length ∧ p.2.1 = (r.take p.1.toNat).map fun q => (wayAt l a q).2, fun p => r.length - p.1.toNat, [(.slot 9, 7, 3, i64)]⟩

def needOf (x : Node) : Option Node := if x.kind = 0 then none else some x
def partsOf (x : Node) : List Int := if x.kind = 1 then [x.a, x.b] else [x.a]
def partsN : Option Node → List Int
  | none => []
  | some x => partsOf x
noncomputable def cNeeded : Con RU := con [(true, 7)] nodeTys [one] [.ifc 2] [false] none fun p => (needOf ⟨p.1, p.2.1, p.2.2.1, p.2.2.2.1, p.2.2.2.2.1, p.2.2.2.2.2.1, p.2.2.2.2.2.2.1⟩, ())
noncomputable def cLeaf : Con RU := con [(true, 0)] [] [one] [ints] [false] none fun _ => ([], ())
noncomputable def cInner : Con RU := con [(true, 7)] nodeTys [one] [ints] [false] none fun p => (partsOf ⟨p.1, p.2.1, p.2.2.1, p.2.2.2.1, p.2.2.2.2.1, p.2.2.2.2.2.1, p.2.2.2.2.2.2.1⟩, ())
noncomputable def cParts : Con RU := ⟨[(false, 1)], [.ifc 2], [.d 0], [], some fun _ => True, none, [one], [ints], [.d 0], [], fun p => (partsN p.1, ()), [], [], []⟩
noncomputable def invR : Nat → String → List (Con RU) := fun i name => bif Nat.beq i 2 && (name == "sheafworks/rope.parts") then [cParts] else []
def noIt : FuncId → List (Con RU × Con RU × List (Nat × Nat)) := fun _ => []

def maxAt (d : List Int) (ks : List Int) : Int := ks.foldl (fun m k => max m (at_ d k)) 0
noncomputable def lDepthP (l : List Node) (a : Int) : Nat → St RU → Ann RU := fun n s => match n with
  | 0 => ⟨[], [.slot 20, .row 1088], [i64, ints], fun p => 0 ≤ p.1 ∧ p.1 ≤ a + 1 ∧ p.2.1 = depthsOf (l.take p.1.toNat) ++ List.replicate (a + 1 - p.1).toNat 0, fun p => (a + 1).toNat - p.1.toNat, []⟩
  | _ => ⟨[], [.slot 34, .row 1088], [i64, ints], fun p => 0 ≤ p.1 ∧ p.1 ≤ (partsN (needOf (nat_ l (s.intAt 8)))).length ∧ p.2.1 = depthsOf (l.take (s.intAt 8).toNat) ++ maxAt (depthsOf (l.take (s.intAt 8).toNat)) ((partsN (needOf (nat_ l (s.intAt 8)))).take p.1.toNat) :: List.replicate (a - s.intAt 8).toNat 0,
    fun p => (partsN (needOf (nat_ l (s.intAt 8)))).length - p.1.toNat, []⟩
end Go.Rp
end

section
set_option linter.unusedVariables false
set_option maxRecDepth 100000
namespace Go.Rp
open Go Go.VT

def rwords (l : List Node) (node from_ many add : Int) : List Int := (((nat_ l node).words.take (from_ + many).toNat).drop from_.toNat).map fun n => word (w64 (n + add))
def walkW (l : List Node) (a from_ many add : Int) : List Int := (List.range many.toNat).map fun i : Nat => word (w64 ((wayAt l a (from_ + i)).2 + add))

noncomputable def EVy (yl : List (Nat × Nat)) (Y : Option (Con RU)) (l : List (FuncId × Con RU)) : Env RU := ⟨prog, codesOf codeL, consOf l, RG, fun _ _ => [], fun _ _ => [], yl, Y, fun _ => [], false⟩
theorem fitsY (yl Y) (l : List (FuncId × Con RU)) : (EVy yl Y l).Fits := fits_of (by kernel_rfl)

def walkPre (l : List Node) (L : List (Int × Int)) (a from_ many add : Int) : Prop :=
  (l.length ≤ 4000 ∧ validOf l = true ∧ L = longOf l) ∧ (0 ≤ a ∧ a < l.length) ∧ isWord add = true ∧ 0 ≤ many ∧ (0 < many → 0 ≤ from_ ∧ from_ + many ≤ at_ (lensOf l) a)
def piecePre (l : List Node) (L : List (Int × Int)) (node from_ many add : Int) : Prop :=
  (l.length ≤ 4000 ∧ validOf l = true ∧ L = longOf l) ∧ (0 ≤ node ∧ node < l.length) ∧ isWord add = true ∧ 0 < many ∧ 0 ≤ from_ ∧ from_ + many ≤ (nat_ l node).words.length

noncomputable def cPieces : Con RU := ⟨[one, one, one, one, one], [nodes, mapI, i64, i64, i64, i64], [.ptr 0 0, .d 2, .d 3, .d 4, .d 5], stD 0 1, none, none, [one], [nodes, mapI, i64, i64, i64, i64], [.clo 78 [2, 3, 4, 5, 6]],
  [.box 69 [.d 0, .map 1], .map 1, .box 70 [.ptr 0 0], .box 3 [.d 2], .box 3 [.d 3], .box 3 [.d 4], .box 3 [.d 5]], fun p => p, [0, 1], [], []⟩

noncomputable def cFlatY : Con RU := ⟨[(true, 4), one], [i64, i64, i64, i64, ints, nodes, mapI, i64], [.d 0, .d 1, .d 2, .d 3, .yld 0],
  [.loop 7, .box 25 [.row 2], .row 4, .box 70 [.ptr 4 0], .box 69 [.d 5, .map 5], .map 6],
  some fun p => piecePre p.2.2.2.2.2.1 p.2.2.2.2.2.2.1 p.1 p.2.1 p.2.2.1 p.2.2.2.1 ∧ p.2.2.2.2.1.length + p.2.2.1 ≤ 1048576 ∧ p.2.2.2.2.2.2.2.1 = 0, none, [one], [.bool, ints, nodes, mapI, i64], [.d 0],
  [.loop 4, .box 25 [.row 2], .row 1, .box 70 [.ptr 4 0], .box 69 [.d 2, .map 5], .map 3],
  fun p => (true, p.2.2.2.2.1 ++ rwords p.2.2.2.2.2.1 p.1 p.2.1 p.2.2.1 p.2.2.2.1, p.2.2.2.2.2.1, p.2.2.2.2.2.2.1, p.2.2.2.2.2.2.2.1, ()), [3, 4, 5], [(0, 0), (4, 1), (6, 3), (2, 4), (3, 5)], [(1, 1000005), (3, 1000007)]⟩
abbrev flatMp : List (Nat × Nat) := [(0, 0), (1, 4), (2, 5), (3, 6), (4, 2), (5, 3)]
abbrev walkYl : List (Nat × Nat) := [(0, 0), (2, 2), (3, 3), (4, 4), (6, 6)]
abbrev walkTys : List Ty := [i64, i64, i64, i64, nodes, mapI, ints, i64]
abbrev recYl : List (Nat × Nat) := [(0, 4), (2, 2), (3, 3), (4, 5), (6, 7)]
noncomputable def cFlatW (gh : List (Nat × Nat)) : Con RU := ⟨[one, one, one, one, one, one, one], walkTys, [.d 0, .d 1, .d 2, .d 3, .ptr 0 0, .ptr 1 0, .ptr 8 0],
  [.box 70 [.ptr 2 0], .box 115 [.yld 4], .box 69 [.d 4, .map 3], .map 5, .loop 7, .box 25 [.row 6], .row 6, .box 70 [.ptr 2 0], .box 116 [.clo 79 [0, 1, 8]]],
  some fun p => walkPre p.2.2.2.2.1 p.2.2.2.2.2.1 p.1 p.2.1 p.2.2.1 p.2.2.2.1 ∧ p.2.2.2.2.2.2.1.length + p.2.2.1 ≤ 1048576 ∧ p.2.2.2.2.2.2.2.1 = 0, none, [one], [.bool, nodes, mapI, ints, i64], [.d 0],
  [.box 70 [.ptr 2 0], .box 115 [.yld 4], .box 69 [.d 1, .map 3], .map 2, .loop 4, .box 25 [.row 6], .row 3, .box 70 [.ptr 2 0], .box 116 [.clo 79 [0, 1, 8]]],
  fun p => (true, p.2.2.2.2.1, p.2.2.2.2.2.1, p.2.2.2.2.2.2.1 ++ walkW p.2.2.2.2.1 p.1 p.2.1 p.2.2.1 p.2.2.2.1, p.2.2.2.2.2.2.2.1, ()), [0, 1, 2, 3, 7, 8], recYl, gh⟩
noncomputable def cFlatK : Con RU := ⟨[one, one, one, one, one, one], walkTys, [.yld 0, .ptr 1 0, .ptr 7 0, .ptr 8 0, .ptr 9 0, .ptr 10 0],
  [.loop 7, .box 70 [.ptr 2 0], .box 69 [.d 4, .map 3], .map 5, .box 25 [.row 5], .row 6, .box 70 [.ptr 2 0], .box 3 [.d 0], .box 3 [.d 1], .box 3 [.d 2], .box 3 [.d 3]],
  some fun p => walkPre p.2.2.2.2.1 p.2.2.2.2.2.1 p.1 p.2.1 p.2.2.1 p.2.2.2.1 ∧ p.2.2.2.2.2.2.1.length + p.2.2.1 ≤ 1048576 ∧ p.2.2.2.2.2.2.2.1 = 0, none, [], [nodes, mapI, ints, i64], [],
  [.loop 3, .box 70 [.ptr 2 0], .box 69 [.d 0, .map 3], .map 1, .box 25 [.row 5], .row 2, .box 70 [.ptr 2 0], .box 3 [.un], .box 3 [.un], .box 3 [.un], .box 3 [.un]],
  fun p => (p.2.2.2.2.1, p.2.2.2.2.2.1, p.2.2.2.2.2.2.1 ++ walkW p.2.2.2.2.1 p.1 p.2.1 p.2.2.1 p.2.2.2.1, p.2.2.2.2.2.2.2.1, ()), [1, 2, 3, 6], walkYl, [(4, 448), (6, 384)]⟩
noncomputable def itFlat : FuncId → List (Con RU × Con RU × List (Nat × Nat)) := fun f => bif Nat.beq f 78 then [(cFlatK, cFlatY, flatMp)] else []
noncomputable def mFlatW : Dens RU.T walkTys → Nat := fun p => Int.toNat p.1
abbrev ghW : List (Nat × Nat) := [(5, 1000005), (7, 1000007)]
abbrev ghK : List (Nat × Nat) := [(5, 1000004), (7, 1000006)]

noncomputable def lFlat : Nat → St RU → Ann RU := fun n s => match n with
  | 0 => ⟨[], [.slot 44, .row 1000002], [i64, ints], fun p => 0 ≤ p.1 ∧ p.1 ≤ (s.intsAt 42).length ∧ p.2.1 = s.rowInts 1000002 ++ ((s.intsAt 42).take p.1.toNat).map fun n => word (w64 (n + s.boxInt 512 3)), fun p => (s.intsAt 42).length - p.1.toNat, []⟩
  | _ => ⟨[], [], [], fun _ => False, fun _ => 0, [(.box 448 0, 7, 3, i64)]⟩
end Go.Rp
end

section
set_option linter.unusedVariables false
set_option maxRecDepth 100000
namespace Go.Rp
open Go Go.VT

def pcsOf (l : List Node) : Nat → Int → Int → Int → Int → List Piece
  | 0, _, _, _, _ => []
  | k + 1, a, f, m, d =>
    if m ≤ 0 then [] else if (nat_ l a).kind = 0 then [⟨a, f, m, d⟩]
    else if (nat_ l a).kind = 1 then
      pcsOf l k (nat_ l a).a f (max 0 (min m (at_ (lensOf l) (nat_ l a).a - f))) d ++ pcsOf l k (nat_ l a).b (f + max 0 (min m (at_ (lensOf l) (nat_ l a).a - f)) - at_ (lensOf l) (nat_ l a).a) (m - max 0 (min m (at_ (lensOf l) (nat_ l a).a - f))) d
    else if (nat_ l a).kind = 2 then pcsOf l k (nat_ l a).a ((nat_ l a).from_ + f) m d
    else pcsOf l k (nat_ l a).a f m (word (w64 (d + (nat_ l a).n)))
def pcsAt (l : List Node) (a f m d : Int) : List Piece := pcsOf l (a.toNat + 1) a f m d

def putIf (c : Bool) (l : List Node) (L : List (Int × Int)) (rope : Int) (x : Node) (long : Int) : List Node × List (Int × Int) × Int := if c then (l ++ [x], putL l L long, (l.length : Int)) else (l, L, rope)
structure Evn where
  l : List Node
  L : List (Int × Int)
  r : List Int
def Evn.part (S : Evn) (p : Piece) : List Node × List (Int × Int) × Int := putIf (decide (p.len < lg S.L p.node)) S.l S.L p.node ⟨2, p.node, 0, p.from_, p.len, 0, []⟩ p.len
def Evn.off (S : Evn) (p : Piece) : List Node × List (Int × Int) × Int := putIf (p.n != 0) (S.part p).1 (S.part p).2.1 (S.part p).2.2 ⟨3, (S.part p).2.2, 0, 0, 0, p.n, []⟩ p.len
def Evn.step (S : Evn) (p : Piece) : Evn := ⟨(S.off p).1, (S.off p).2.1, S.r ++ [(S.off p).2.2]⟩
def Evn.full (S : Evn) : Bool := decide (4000 < S.l.length)
def Evn.many (S : Evn) : Bool := decide (4001 < S.r.length)
def Evn.run : List Piece → Evn → Evn
  | [], S => S
  | p :: r, S => if (S.step p).full || (S.step p).many then S.step p else Evn.run r (S.step p)

def openOk (l : List Node) (L : List (Int × Int)) : Prop := l.length ≤ 4000 ∧ validOf l = true ∧ L = longOf l
def evnPre (l : List Node) (L : List (Int × Int)) (node from_ many add : Int) : Prop :=
  openOk l L ∧ (0 ≤ node ∧ node < l.length) ∧ (nat_ l node).kind = 0 ∧ isWord add = true ∧ 0 < many ∧ many ≤ 1048576 ∧ 0 ≤ from_ ∧ from_ + many ≤ at_ (lensOf l) node

noncomputable def cPiecesE : Con RU := ⟨[one, one, one, one, one], [nodes, mapI, i64, i64, i64, i64], [.ptr 0 0, .d 2, .d 3, .d 4, .d 5], stR 0 1, none, none, [one], [nodes, mapI, i64, i64, i64, i64], [.clo 78 [3, 4, 5, 6, 7]],
  [.box 69 [.row 2, .map 1], .map 1, .row 0, .box 70 [.ptr 0 0], .box 3 [.d 2], .box 3 [.d 3], .box 3 [.d 4], .box 3 [.d 5]], fun p => p, [1], [], []⟩

abbrev evnY (p : Dens RU.T [i64, i64, i64, i64, ints, nodes, mapI, i64]) : Evn := Evn.step ⟨p.2.2.2.2.2.1, p.2.2.2.2.2.2.1, p.2.2.2.2.1⟩ ⟨p.1, p.2.1, p.2.2.1, p.2.2.2.1⟩
noncomputable def cEvenY : Con RU := ⟨[(true, 4), one], [i64, i64, i64, i64, ints, nodes, mapI, i64], [.d 0, .d 1, .d 2, .d 3, .yld 0],
  [.loop 7, .box 25 [.row 2], .row 4, .box 70 [.ptr 4 0], .box 69 [.row 6, .map 5], .map 6, .row 5],
  some fun p => evnPre p.2.2.2.2.2.1 p.2.2.2.2.2.2.1 p.1 p.2.1 p.2.2.1 p.2.2.2.1 ∧ p.2.2.2.2.1.length ≤ 4001 ∧ p.2.2.2.2.2.2.2.1 = 0, some fun p => ((evnY p).full, wrong 9), [one], [.bool, ints, nodes, mapI, i64], [.d 0],
  [.loop 4, .box 25 [.row 2], .row 1, .box 70 [.ptr 4 0], .box 69 [.row 6, .map 5], .map 3, .row 2],
  fun p => (!(evnY p).many, (evnY p).r, (evnY p).l, (evnY p).L, (if (evnY p).many then 1 else 0), ()), [3], [(0, 0), (4, 1), (6, 3), (2, 4), (3, 5)], [(1, 1000005), (3, 1000007)]⟩

abbrev evnW (p : Dens RU.T walkTys) : Evn := Evn.run (pcsAt p.2.2.2.2.1 p.1 p.2.1 p.2.2.1 p.2.2.2.1) ⟨p.2.2.2.2.1, p.2.2.2.2.2.1, p.2.2.2.2.2.2.1⟩
noncomputable abbrev evnPreW (p : Dens RU.T walkTys) : Prop := walkPre p.2.2.2.2.1 p.2.2.2.2.2.1 p.1 p.2.1 p.2.2.1 p.2.2.2.1 ∧ p.2.2.2.2.2.2.1.length ≤ 4001 ∧ p.2.2.2.2.2.2.2.1 = 0
noncomputable def cEvenW (gh : List (Nat × Nat)) : Con RU := ⟨[one, one, one, one, one, one, one], walkTys, [.d 0, .d 1, .d 2, .d 3, .ptr 0 0, .ptr 1 0, .ptr 8 0],
  [.box 70 [.ptr 2 0], .box 115 [.yld 4], .box 69 [.row 9, .map 3], .map 5, .loop 7, .box 25 [.row 6], .row 6, .box 70 [.ptr 2 0], .box 116 [.clo 79 [0, 1, 8]], .row 4],
  some fun p => evnPreW p, some fun p => ((evnW p).full, wrong 9), [one], [.bool, nodes, mapI, ints, i64], [.d 0],
  [.box 70 [.ptr 2 0], .box 115 [.yld 4], .box 69 [.row 9, .map 3], .map 2, .loop 4, .box 25 [.row 6], .row 3, .box 70 [.ptr 2 0], .box 116 [.clo 79 [0, 1, 8]], .row 1],
  fun p => (!(evnW p).many, (evnW p).l, (evnW p).L, (evnW p).r, (if (evnW p).many then 1 else 0), ()), [0, 1, 7, 8], recYl, gh⟩
noncomputable def cEvenK : Con RU := ⟨[one, one, one, one, one, one], walkTys, [.yld 0, .ptr 1 0, .ptr 7 0, .ptr 8 0, .ptr 9 0, .ptr 10 0],
  [.loop 7, .box 70 [.ptr 2 0], .box 69 [.row 11, .map 3], .map 5, .box 25 [.row 5], .row 6, .box 70 [.ptr 2 0], .box 3 [.d 0], .box 3 [.d 1], .box 3 [.d 2], .box 3 [.d 3], .row 4],
  some fun p => evnPreW p, some fun p => ((evnW p).full, wrong 9), [], [nodes, mapI, ints, i64], [],
  [.loop 3, .box 70 [.ptr 2 0], .box 69 [.row 11, .map 3], .map 1, .box 25 [.row 5], .row 2, .box 70 [.ptr 2 0], .box 3 [.un], .box 3 [.un], .box 3 [.un], .box 3 [.un], .row 0],
  fun p => ((evnW p).l, (evnW p).L, (evnW p).r, (if (evnW p).many then 1 else 0), ()), [1, 6], walkYl, [(4, 512), (6, 448)]⟩
abbrev evenMp : List (Nat × Nat) := [(0, 0), (1, 4), (2, 5), (3, 6), (4, 2), (5, 3), (6, 11)]
noncomputable def itEven : FuncId → List (Con RU × Con RU × List (Nat × Nat)) := fun f => bif Nat.beq f 78 then [(cEvenK, cEvenY, evenMp)] else []

def joinOf : Nat → List Node → List (Int × Int) → List Int → List Node × List (Int × Int) × Int
  | 0, l, L, _ => (l, L, 0)
  | k + 1, l, L, r =>
    if r.length = 1 then (l, L, at_ r 0) else
    match joinOf k l L (r.take (r.length / 2)) with
    | (l1, L1, a) => match joinOf k l1 L1 (r.drop (r.length / 2)) with
      | (l2, L2, b) => (l2 ++ [⟨1, a, b, 0, 0, 0, []⟩], putL l2 L2 (w64 (lg L2 a + lg L2 b)), (l2.length : Int))
def joinAt (l : List Node) (L : List (Int × Int)) (r : List Int) : List Node × List (Int × Int) × Int := joinOf r.length l L r
def sumL (L : List (Int × Int)) (r : List Int) : Int := (r.map fun a => lg L a).sum
def joinPre (l : List Node) (L : List (Int × Int)) (r : List Int) : Prop := openOk l L ∧ 1 ≤ r.length ∧ r.length ≤ 4001 ∧ (∀ a ∈ r, 0 ≤ a ∧ a < l.length) ∧ sumL L r ≤ 1048576
def joinBad (l : List Node) (r : List Int) : Bool := decide (4001 < l.length + r.length)
noncomputable def cJoin : Con RU := ⟨[one, one, one], [ints, nodes, mapI], [.d 0, .ptr 0 0, .ptr 1 0], [.box 90 [.clo 61 [0, 1]], .box 70 [.ptr 2 0], .box 69 [.row 4, .map 3], .map 2, .row 1],
  some fun p => joinPre p.2.1 p.2.2.1 p.1, some fun p => (joinBad p.2.1 p.1, wrong 9), [one], [i64, nodes, mapI], [.d 0], [.box 90 [.clo 61 [0, 1]], .box 70 [.ptr 2 0], .box 69 [.row 4, .map 3], .map 2, .row 1],
  fun p => ((joinAt p.2.1 p.2.2.1 p.1).2.2, (joinAt p.2.1 p.2.2.1 p.1).1, (joinAt p.2.1 p.2.2.1 p.1).2.1, ()), [0, 1], [], []⟩
noncomputable def mJoin : Dens RU.T cJoin.params → Nat := fun p => p.1.length

def evenEnd (l : List Node) (L : List (Int × Int)) (r : List Int) : List Node × Int × Int :=
  if r.length = 0 then (if putBad l 0 then ([], 0, 9) else (l ++ [node0], (l.length : Int), 0)) else if joinBad l r then ([], 0, 9) else ((joinAt l L r).1, (joinAt l L r).2.2, 0)
def evenRun (l : List Node) (a : Int) : Evn := Evn.run (pcsAt l a 0 (at_ (lensOf l) a) 0) ⟨l, longOf l, []⟩
def evenAt (l : List Node) (a : Int) : List Node × Int × Int :=
  if askedOf l [a] ≠ 0 then ([], 0, askedOf l [a]) else if (evenRun l a).full || (evenRun l a).many then ([], 0, 9) else evenEnd (evenRun l a).l (evenRun l a).L (evenRun l a).r
noncomputable def cEvenP : Con RU := conS [(true, 1), one] [nodes, i64] (fun _ => True) fun p => evenAt p.1 p.2.1
noncomputable def lEven : Nat → St RU → Ann RU := fun _ _ => ⟨[], [], [], fun _ => False, fun _ => 0, [(.box 512 0, 7, 3, i64)]⟩
end Go.Rp
end

section
set_option linter.unusedVariables false
set_option linter.unusedSimpArgs false
set_option maxRecDepth 100000
open Go Go.VT
namespace Go.Rp

theorem grow_calls (n : Int) (h0 : 0 ≤ n) (hb : n ≤ 17592186044416) (w : World) : CallsIn (fen prog none) 0 prog 83 #[.slice none 0 0, .int .i64 n] w fun e w' =>
    (n = 0 ∧ e = .returned (.slice none 0 0) ∧ w' = w) ∨ (0 < n ∧ e = .returned (.slice (some ⟨w.heap.size, 0, none⟩) 0 (grownCap w n.toNat 0 3)) ∧ w' = w.drew.alloc (.cells (Builtin.zeroCells (#[.int .i64 0]) n.toNat ++ Builtin.zeroCells (#[.int .i64 0]) (grownCap w n.toNat 0 3 - n.toNat)) 3)) := by
  refine callsIn_of_wp_marks (P := prog) Go.Proofs.Tryd.func83 rfl (by show (prog.funcs[83]?).isSome = true; kernel_rfl) ?_
  have hneg : ¬ n < 0 := by omega
  apply wpIn_seq
  apply wpIn_region
  simp [wpOpsIn, go_sem, Exit.then, fen_round, Go.Proofs.Tryd.ntmps83]
  apply wpIn_seq
  apply wpIn_seq
  apply wpIn_region
  simp [wpOpsIn, go_sem, Exit.then, fen_round, hneg]
  apply wpIn_cond_false (by simp [Act.eval, Array.replicate])
  apply wpIn_skip
  simp only [Exit.then]
  have hu25 : prog.underlying 25 = some (.slice 3) := by kernel_rfl
  have hu3 : prog.underlying 3 = some (.int .i64) := by kernel_rfl
  have hwr : IntKind.i64.wrap n = n := by rw [IntKind.wrap_i64]; omega
  apply wpIn_seq
  apply wpIn_seq
  apply wpIn_region
  simp [wpOpsIn, go_sem, Exit.then, fen_round, hwr]
  apply wpIn_seq
  apply wpIn_region
  simp [wpOpsIn, go_sem, Exit.then, fen_round]
  have hw0 : IntKind.i64.wrap 0 = 0 := by decide
  by_cases hn : 0 < n
  · apply wpIn_cond_true (by simp [Act.eval, Array.replicate, hn, hw0, hwr])
    obtain ⟨m, rfl⟩ : ∃ m : Nat, n = (m : Int) := ⟨n.toNat, by omega⟩
    have hb8 : Go.Proofs.Tryd.t3.bytes = 8 := by kernel_rfl
    have hm0 : ¬ m = 0 := by omega
    have hm0' : (m : Int) ≠ 0 := by omega
    have h63 : ¬ (9223372036854775807 < (m : Int)) := by omega
    have h48 : ¬ (281474976710656 < Builtin.nextslicecap m 0 * Go.Proofs.Tryd.t3.bytes) := by rw [nextslicecap_zero (by omega), hb8]; omega
    have hmb : ¬ (281474976710656 < (m : Int) * (Go.Proofs.Tryd.t3.bytes : Int)) := by rw [hb8]; omega
    have hnn : ¬ ((m : Int) < 0) := by omega
    have h48' : ¬ (281474976710656 < Builtin.nextslicecap m 0 * 8) := by rw [hb8] at h48; exact h48
    have hmb2 : ¬ (281474976710656 < (m : Int) * 8) := by omega
    apply wpIn_region
    simp [wpOpsIn, go_sem, Exit.then, fen_round, hw0, hwr, hm0, hm0', h63, h48, hmb, hb8, hmb2, hnn, h48']
    apply wpIn_seq
    apply wpIn_region
    simp [wpOpsIn, go_sem, Exit.then, fen_round]
    apply wpIn_ret
    simp [bodyPostM, results, Go.Proofs.Tryd.results83, go_sem, Array.replicate, LeavesInM, LeavesIn]
    exact ⟨by omega, rfl, rfl⟩
  · have hn0 : n = 0 := by omega
    subst hn0
    apply wpIn_cond_false (by simp [Act.eval, Array.replicate, hw0])
    apply wpIn_skip
    simp only [Exit.then]
    apply wpIn_seq
    apply wpIn_region
    simp [wpOpsIn, go_sem, Exit.then, fen_round]
    apply wpIn_ret
    simp [bodyPostM, results, Go.Proofs.Tryd.results83, go_sem, Array.replicate, LeavesInM, LeavesIn]

noncomputable def cGrow : Con RU := ⟨[one, one], [i64], [.nil, .d 0], [], some fun p => 0 ≤ p.1 ∧ p.1 ≤ 17592186044416, none, [one], [ints], [.row 0], [.row 0], fun p => ([], ()), [], [], []⟩

theorem grow_gives : Gives prog RG 83 cGrow := by
  intro Y
  refine ⟨⟨_, Go.Proofs.Tryd.func83, by kernel_rfl, by kernel_rfl⟩, fun xs hp F hY β w us vs hw hG K hnm hnm2 hc hpack => ?_⟩
  obtain ⟨(n : Int), xs0⟩ := xs
  have hn : (0 : Int) ≤ n ∧ n ≤ (17592186044416 : Int) := hp
  obtain ⟨c0, r0, vs0, e1, _, e2, c1, r1, vs1, e3, _, e4, e5, e6⟩ := hpack
  subst e1; subst e2; subst e3; subst e4; subst e5; subst e6
  have h0 : c0 = .slice none 0 0 := hc.2.2 0 _ _ rfl rfl
  have h1 : Rep RU w (Live β (canon (toList RU cGrow.params (n, xs0)) cGrow.oin)) (⟨i64, n⟩ : Datum RU) c1 := hc.2.2 1 _ _ rfl rfl
  have h1 : c1 = .int .i64 n := by cases h1; rfl
  subst h0; subst h1
  refine runF_mono _ _ _ _ (grow_calls n hn.1 hn.2 w) (fun e w' he => ?_)
  have hBw : F.B ≤ w.heap.size := K.hB
  rcases he with ⟨_, rfl, rfl⟩ | ⟨hpos, rfl, rfl⟩
  · have A := new_nil K (id := oid 0) rfl 3 i64
    refine ⟨fun b hb => (by cases hb), _, [.slice none 0 0], A.toOk, ⟨_, _, _, rfl, rfl, rfl, rfl, rfl⟩, ?_⟩
    exact CsRel.one rfl ⟨3, i64, [], 0, true, rfl, Nat.le_refl _, fun _ => (upd1_same _ _ _).symm⟩
  · have hm : grownCap w n.toNat 0 3 ≤ maxLen := grownCap_le_maxLen w _ 0 3 (by simp only [maxLen]; omega)
    have hge := grownCap_ge w n.toNat 0 3
    have A := new_after K (w' := w.drew.alloc (.cells (Builtin.zeroCells (#[.int .i64 0]) n.toNat ++ Builtin.zeroCells (#[.int .i64 0]) (grownCap w n.toNat 0 3 - n.toNat)) 3)) (id := oid 0) (ob := .row 3 i64 [] 0 true)
      (v := .slice (some ⟨w.heap.size, 0, none⟩) 0 (grownCap w n.toNat 0 3)) ((Go.RowKit.Below.refl _ _).drew.alloc (Nat.le_refl _) _) rfl (.inl rfl) (fun g hg => by simp [blkOf] at hg; omega)
      (fun x => ⟨[], by
        rw [upd1_same]
        exact World.ownsRow_made (w.drew) _ _ hBw hm (by simp [size_zeroCells]; show _ = grownCap w n.toNat 0 3 * 1; omega), by simp [most], by simp, fun i y hy => by simp at hy⟩)
    refine ⟨fun b hb => (by cases hb), _, [.slice (some ⟨w.heap.size, 0, none⟩) 0 (grownCap w n.toNat 0 3)], A.toOk, ⟨_, _, _, rfl, rfl, rfl, rfl, rfl⟩, ?_⟩
    exact CsRel.one rfl ⟨3, i64, [], 0, true, rfl, Nat.le_refl _, fun _ => (upd1_same _ _ _).symm⟩
end Go.Rp
end

section
set_option linter.unusedVariables false
set_option maxRecDepth 100000
open Go Go.VT
namespace Go.Rp

abbrev intss : Ty := .slice 25 ints
noncomputable def cConcat : Con RU := con [one] [intss] [one] [ints] [true] (some fun p => p.1.flatten.length ≤ 17592186044416) fun p => (p.1.flatten, ())
noncomputable def cUnited : Con RU := con [one] [intss] [one] [ints] [false] (some fun p => p.1.flatten.length ≤ 17592186044416) fun p => (p.1.flatten, ())
noncomputable def lConcat (l : List (List Int)) : Nat → St RU → Ann RU := fun n _ => match n with
  | 0 => ⟨[], [.slot 11, .slot 3], [i64, i64], fun p => 0 ≤ p.1 ∧ p.1 ≤ l.length ∧ p.2.1 = ((l.take p.1.toNat).flatten.length : Nat), fun p => l.length - p.1.toNat, []⟩
  | _ => ⟨[6], [.slot 27, .row 1536], [i64, ints], fun p => 0 ≤ p.1 ∧ p.1 ≤ l.length ∧ p.2.1 = (l.take p.1.toNat).flatten, fun p => l.length - p.1.toNat, []⟩
end Go.Rp
end

section
set_option linter.unusedVariables false
set_option maxRecDepth 100000
namespace Go.Rp
open Go Go.VT

def partsL (x : Node) : List Int := partsN (needOf x)
def markAll (m : List Bool) (ks : List Int) : List Bool := ks.foldl (fun m k => m.set k.toNat true) m
def markDown (l : List Node) : Nat → List Bool → List Bool
  | 0, m => m
  | i + 1, m => markDown l i (if m.getD i false then markAll m (partsL (l.getD i node0)) else m)
def needs (l : List Node) (r : List Int) : List Bool := markDown l l.length (markAll (List.replicate l.length false) r)
def renum (num : List Int) (x : Node) : Node := ⟨x.kind, if x.kind = 0 then x.a else at_ num x.a, if x.kind = 1 then at_ num x.b else x.b, x.from_, x.len, x.n, x.words⟩
def keepGo (m : List Bool) (l : List Node) : Nat → List Node × List Int
  | 0 => ([], [])
  | i + 1 => if m.getD i false then ((keepGo m l i).1 ++ [renum (keepGo m l i).2 (l.getD i node0)], (keepGo m l i).2 ++ [((keepGo m l i).1.length : Int)]) else ((keepGo m l i).1, (keepGo m l i).2 ++ [0])
def keptOf (l : List Node) (r : List Int) : List Node × List Int := keepGo (needs l r) l l.length
def keepAt (l : List Node) (r : List Int) : List Node × List Int × Int :=
  if askedOf l r ≠ 0 then ([], [], askedOf l r) else ((keptOf l r).1, r.map (at_ (keptOf l r).2), 0)

inductive Reach (l : List Node) (r : List Int) : Int → Prop
  | root (a : Int) (h : a ∈ r) : Reach l r a
  | step (a k : Int) (h : Reach l r a) (hk : k ∈ partsL (nat_ l a)) : Reach l r k

def hasK (K : List (Int × Int)) (k : Int) : Prop := (mget (fun x y => x == y) K k).isSome = true
structure wkInv (l : List Node) (r todo : List Int) (K : List (Int × Int)) : Prop where
  todos : ∀ k ∈ todo, Reach l r k
  keys : (K.map (·.1)).Nodup
  reach : ∀ k, hasK K k → Reach l r k
  root : ∀ a ∈ r, a ∈ todo ∨ hasK K a
  parts : ∀ k, hasK K k → ∀ j ∈ partsL (nat_ l k), j ∈ todo ∨ hasK K j
  many : todo.length ≤ r.length + K.length
structure cpInv (l : List Node) (r : List Int) (i : Nat) (K : List (Int × Int)) : Prop where
  keys : ∀ k : Int, hasK K k ↔ Reach l r k
  num : ∀ k : Int, k < i → Reach l r k → lg K k = at_ (keepGo (needs l r) l i).2 k

noncomputable def cKeepP : Con RU := con [(true, 1), one] [nodes, ints] [(true, 1), one, one] [nodes, ints, i64] [false, false, false] (some fun p => p.2.1.length + p.1.length ≤ 17592186044416)
  fun p => ((keepAt p.1 p.2.1).1, (keepAt p.1 p.2.1).2.1, (keepAt p.1 p.2.1).2.2, ())
noncomputable def lKeep (l : List Node) (r : List Int) : Nat → St RU → Ann RU := fun n s => match n with
  | 0 => ⟨[], [.slot 9, .row 1600], [ints, mapI], fun p => wkInv l r p.1 p.2.1, fun p => 3 * (l.length - p.2.1.length) + p.1.length, []⟩
  | 1 => ⟨[], [.slot 65, .row 1600, .row 7], [i64, mapI, nodes], fun p => 0 ≤ p.1 ∧ p.1 ≤ l.length ∧ cpInv l r p.1.toNat p.2.1 ∧ p.2.2.1 = (keepGo (needs l r) l p.1.toNat).1, fun p => l.length - p.1.toNat, [(.box 832 0, 7, 56, .user 0)]⟩
  | _ => ⟨[5], [.slot 108, .row 8], [i64, ints], fun p => 0 ≤ p.1 ∧ p.1 ≤ r.length ∧ p.2.1 = (r.take p.1.toNat).map (at_ (keptOf l r).2), fun p => r.length - p.1.toNat, [(.slot 5, 8, 3, i64)]⟩
end Go.Rp
end

section
set_option linter.unusedVariables false
set_option maxRecDepth 100000
namespace Go.Rp
open Go Go.VT

def storeL : List Node := [⟨0, 0, 0, 0, 0, 0, [5, 6, 7]⟩, ⟨0, 0, 0, 0, 0, 0, [8]⟩, ⟨1, 0, 1, 0, 0, 0, []⟩, ⟨2, 2, 0, 1, 3, 0, []⟩, ⟨3, 3, 0, 0, 0, 10, []⟩, ⟨1, 4, 2, 0, 0, 0, []⟩]
noncomputable def cStore : Con RU := con [] [] [(true, 1)] [nodes] [false] none fun _ => (storeL, ())
noncomputable def cRoped : Con RU := con [] [] [one] [.bool] [false] none fun _ => (true, ())
end Go.Rp
end

section
set_option linter.unusedVariables false
set_option maxRecDepth 100000
namespace Go.Rp
open Go Go.VT

noncomputable def cStoreO : Con RU := con [] [] [(true, 1)] [nodes] [true] none fun _ => (storeL, ())
def dbl (k : Nat) : List Node := ⟨0, 0, 0, 0, 0, 0, [1, 2, 3, 4]⟩ :: (List.range k).map fun i : Nat => ⟨1, i, i, 0, 0, 0, []⟩
noncomputable def cKnown : Con RU := con [] [] [one] [.bool] [false] none fun _ => (true, ())
end Go.Rp
end

section
namespace Go.VT
noncomputable section
set_option linter.unusedVariables false
set_option linter.unusedSimpArgs false
  universe u v
variable {U : Univ}

def frL {α : Type u} {β : Sort v} (f : α → (α → β) → β) : List α → (List α → β) → β
  | [], k => k []
  | x :: r, k => f x (fun x' => frL f r (fun r' => k (x' :: r')))
def frC {β : Sort v} : Cell U → (Cell U → β) → β
  | .un, k => k .un
  | .d ⟨t, x⟩, k => k (.d ⟨t, x⟩)
  | .row a b, k => k (.row a b)
  | .ptr a b, k => k (.ptr a b)
  | .elt a b c d, k => k (.elt a b c d)
  | .rd cs o, k => frL (fun (x : Datum U) k => match x with | ⟨t, y⟩ => k ⟨t, y⟩) cs (fun cs' => k (.rd cs' o))
  | .gl g, k => k (.gl g)
  | .lit v, k => k (.lit v)
  | .map i, k => k (.map i)
  | .clo f l, k => frL (fun x k => k x) l (fun l' => k (.clo f l'))
  | .yld i, k => k (.yld i)
  | .ifc t b ds, k => frL (fun (x : Datum U) k => match x with | ⟨t, y⟩ => k ⟨t, y⟩) ds (fun ds' => k (.ifc t b ds'))
  | .tab g i, k => k (.tab g i)
  | .tabf fs i, k => frL (fun x k => k x) fs (fun l' => k (.tabf l' i))
def frP {β : Sort v} : PV U → (PV U → β) → β
  | .un, k => k .un
  | .one c, k => frC c (fun c' => k (.one c'))
  | .agg cs, k => frL frC cs (fun l => k (.agg l))
  | .tup vs, k => frL (fun (x : Bool × List (Cell U)) k => match x with | (b, l) => frL frC l (fun l' => k (b, l'))) vs (fun l => k (.tup l))
  | .opt gs p, k => frP p (fun p' => k (.opt gs p'))
def frO {β : Sort v} : Ob U → (Ob U → β) → β
  | .box e cs, k => frL frC cs (fun l => k (.box e l))
  | .row e t l v b, k => k (.row e t l v b)
  | .map a b l, k => k (.map a b l)
  | .loop x, k => k (.loop x)
def frStK {β : Sort v} (s : St U) (k : St U → β) : β := match s with
  | ⟨σ, h⟩ => frL (fun (x : Nat × PV U) k => match x with | (j, v) => frP v (fun v' => k (j, v'))) σ (fun σ' => frL (fun (x : Nat × Ob U) k => match x with | (j, v) => frO v (fun v' => k (j, v'))) h (fun h' => k ⟨σ', h'⟩))
theorem frL_eq {α : Type u} {β : Sort v} {f : α → (α → β) → β} (hf : ∀ x k, f x k = k x) : ∀ (l : List α) (k : List α → β), frL f l k = k l
  | [], k => rfl
  | x :: r, k => by rw [frL, hf, frL_eq hf r]
theorem frC_eq {β : Sort v} (c : Cell U) (k : Cell U → β) : frC c k = k c := by
  cases c with
  | rd cs o => exact frL_eq (fun x k => rfl) cs _
  | clo f l => exact frL_eq (fun x k => rfl) l _
  | ifc t b ds => exact frL_eq (fun x k => rfl) ds _
  | tabf fs i => exact frL_eq (fun x k => rfl) fs _
  | _ => rfl
theorem frP_eq {β : Sort v} : ∀ (p : PV U) (k : PV U → β), frP p k = k p
  | .un, k => rfl
  | .one c, k => frC_eq c _
  | .agg cs, k => frL_eq frC_eq cs _
  | .tup vs, k => frL_eq (fun x k => frL_eq frC_eq x.2 _) vs _
  | .opt gs p, k => frP_eq p _
theorem frO_eq {β : Sort v} (o : Ob U) (k : Ob U → β) : frO o k = k o := by
  cases o with
  | box e cs => exact frL_eq frC_eq cs _
  | _ => rfl
theorem frStK_eq {β : Sort v} (s : St U) (k : St U → β) : frStK s k = k s := by
  obtain ⟨σ, h⟩ := s
  show frL _ σ _ = _
  rw [frL_eq (fun x k => frP_eq x.2 _)]
  exact frL_eq (fun x k => frO_eq x.2 _) h _

def wpcF (E : Env U) (X : Nat) (L : Nat → St U → Ann U) : Code → Nat → St U → (Way U → St U → Prop) → Prop
  | .seq a b, n, s, Q => wpcF E X L a n s (fun e s' => match e with
      | .normal => frStK s' fun s1 => wpcF E X L b (n + loops a) s1 Q
      | e => Q e s')
  | .block id a, n, s, Q => wpcF E X L a n s (fun e s' => match e with
      | .exit id' => if Nat.beq id' id then Q .normal s' else Q (.exit id') s'
      | e => Q e s')
  | .cond c a b, n, s, Q => match bif E.mg && simpleC (.cond c a b) then runS E X (.cond c a b) s else none with
    | some (p, s') => thenO p (Q .normal s')
    | none => match ev s.σ c with
      | .one (.d ⟨.bool, t⟩) => (t = true → wpcF E X L a n s Q) ∧ (t = false → wpcF E X L b (n + loops a) s Q)
      | _ => Bad 4000 n
  | .loop a, n, s, Q => bif !(noRF a) then Bad 4018 n else match L n s with
    | A => frStK (promotes s A.nils) fun s => frStK (s.keep (keptSlots s a A) (keys s.h)) fun s0 =>
      (∃ p, eqSt s0 (setAll s0 A.at_ (toList U A.tys p)) (A.inv p)) ∧
      ∀ p, A.inv p → frStK (setAll s0 A.at_ (toList U A.tys p)) fun s1 => wpcF E X L a (n + 1) s1 (fun e s' => match e with
        | .normal => ∃ p', eqSt (s'.keep (keptSlots s a A) (keys s.h)) (setAll s0 A.at_ (toList U A.tys p')) (A.inv p' ∧ A.μ p' < A.μ p)
        | e => Q e s')
  | .scope a, n, s, Q => wpcF E X L a n s Q
  | c, n, s, Q => wpc E X L c n s Q

theorem wpcF_eq (E : Env U) (X : Nat) (L : Nat → St U → Ann U) : ∀ (c : Code) (n : Nat) (s : St U) (Q : Way U → St U → Prop), wpcF E X L c n s Q = wpc E X L c n s Q := by
  intro c
  induction c with
  | seq a b iha ihb => intro n s Q; simp only [wpcF, wpc, frStK_eq, iha, ihb]; rfl
  | block id a ih => intro n s Q; simp only [wpcF, wpc, ih]; rfl
  | cond c a b iha ihb => intro n s Q; simp only [wpcF, wpc, iha, ihb]; rfl
  | loop a ih => intro n s Q; simp only [wpcF, wpc, frStK_eq, ih]; rfl
  | scope a ih => intro n s Q; simp only [wpcF, wpc, ih]
  | _ => intros; rfl

def vcF (E : Env U) (L : Nat → St U → Ann U) (f : Func) (k : Con U) (xs : Dens U.T k.params) : Prop :=
  match f.body with
  | some b => bif okCode f.ntmps b && Nat.ble k.args.length f.ntmps && (noRF b || E.yl.isEmpty) then smalls (pickD (toList U k.params xs) (datC k.ain ++ datO k.oin)) (wpcF E (expoF f b) L b 0 (St.init k (toList U k.params xs)) (fun e s => match e with
      | .exit _ => Bad 3002 0
      | .panic v => postP k xs v
      | _ => post E.P f k xs s)) else Bad 3001 0
  | none => Bad 3000 0
theorem vcF_eq (E : Env U) (L : Nat → St U → Ann U) (f : Func) (k : Con U) (xs : Dens U.T k.params) : vcF E L f k xs = vc E L f k xs := by
  unfold vcF vc
  simp only [wpcF_eq]
  rfl
end
end Go.VT
end

section
set_option linter.unusedVariables false
set_option maxRecDepth 100000
namespace Go.Rp
open Go Go.VT

noncomputable def cStoreOV (st : List Node) : Con RU := con [] [] [(true, 1)] [nodes] [true] none fun _ => (st, ())
noncomputable def cStoreV (st : List Node) : Con RU := con [] [] [(true, 1)] [nodes] [false] none fun _ => (st, ())
noncomputable def cWordsV (f : List Node → List Int → List Node × Int × Int) : Con RU := conS [(true, 1), one] [nodes, ints] (fun p => p.2.1.length ≤ 4000000) fun p => f p.1 p.2.1
noncomputable def cCatV (f : List Node → Int → Int → List Node × Int × Int) : Con RU := conS [(true, 1), one, one] [nodes, i64, i64] (fun _ => True) fun p => f p.1 p.2.1 p.2.2.1
noncomputable def cPartV (f : List Node → Int → Int → Int → List Node × Int × Int) : Con RU := conS [(true, 1), one, one, one] [nodes, i64, i64, i64] (fun _ => True) fun p => f p.1 p.2.1 p.2.2.1 p.2.2.2.1
noncomputable def cLenV (f : List Node → Int → Int × Int) : Con RU := con [(true, 1), one] [nodes, i64] [one, one] [i64, i64] [false, false] none fun p => ((f p.1 p.2.1).1, (f p.1 p.2.1).2, ())
noncomputable def cCostV (f : List Node → Int → Int → Int × Int) : Con RU := con [(true, 1), one, one] [nodes, i64, i64] [one, one] [i64, i64] [false, false] none fun p => ((f p.1 p.2.1 p.2.2.1).1, (f p.1 p.2.1 p.2.2.1).2, ())
noncomputable def cGatherV (f : List Node → Int → List Int → List Int × Int) : Con RU := con [(true, 1), one, one] [nodes, i64, ints] [one, one] [ints, i64] [false, false] none fun p => ((f p.1 p.2.1 p.2.2.1).1, (f p.1 p.2.1 p.2.2.1).2, ())
noncomputable def cFlatV (f : List Node → Int → List Int × Int) : Con RU := con [(true, 1), one] [nodes, i64] [one, one] [ints, i64] [false, false] none fun p => ((f p.1 p.2.1).1, (f p.1 p.2.1).2, ())
noncomputable def cEvenV (f : List Node → Int → List Node × Int × Int) : Con RU := conS [(true, 1), one] [nodes, i64] (fun _ => True) fun p => f p.1 p.2.1
noncomputable def cKeepV (f : List Node → List Int → List Node × List Int × Int) : Con RU := con [(true, 1), one] [nodes, ints] [(true, 1), one, one] [nodes, ints, i64] [false, false, false] (some fun p => p.2.1.length + p.1.length ≤ 17592186044416)
  fun p => ((f p.1 p.2.1).1, (f p.1 p.2.1).2.1, (f p.1 p.2.1).2.2, ())
noncomputable def cCheckV (f : List Node → Int) : Con RU := con [(true, 1)] [nodes] [one] [i64] [false] none fun p => (f p.1, ())
noncomputable def cSameV (f : List Node → List Node → Bool) : Con RU := con [(true, 1), (true, 1)] [nodes, nodes] [one] [.bool] [false] none fun p => (f p.1 p.2.1, ())
noncomputable def lKnownV (db : Nat → List Node) : Nat → St RU → Ann RU := fun n s => match n with
  | 0 => ⟨[], [.slot 2], [i64], fun p => 0 ≤ p.1 ∧ p.1 ≤ 18, fun p => 18 - p.1.toNat, []⟩
  | _ => ⟨[], [.slot 64, .row 21440], [i64, nodes], fun p => (0 ≤ p.1 ∧ p.1 ≤ 18) ∧ p.2.1 = db p.1.toNat, fun p => 18 - p.1.toNat, []⟩
noncomputable abbrev EVk (st : List Node) (fW : List Node → List Int → List Node × Int × Int) (fC : List Node → Int → Int → List Node × Int × Int) (fP : List Node → Int → Int → Int → List Node × Int × Int) (fO : List Node → Int → Int → List Node × Int × Int) (fL : List Node → Int → Int × Int) (fF : List Node → Int → List Int × Int) (fG : List Node → Int → List Int → List Int × Int) (fT : List Node → Int → Int → Int × Int) (fD : List Node → Int → Int × Int) (fE : List Node → Int → List Node × Int × Int) (fK : List Node → List Int → List Node × List Int × Int) (fX : List Node → Int) (fS : List Node → List Node → Bool) : Env RU :=
  EV [(46, cStoreOV st), (46, cStoreV st), (29, cWordsV fW), (31, cCatV fC), (35, cPartV fP), (37, cCatV fO), (13, cLenV fL), (17, cFlatV fF), (19, cGatherV fG), (21, cCostV fT), (15, cLenV fD), (24, cEvenV fE), (26, cKeepV fK), (33, cCheckV fX), (23, cEqual), (28, cSameV fS), (12, cRoped)]
end Go.Rp
end

section
set_option linter.unusedVariables false
set_option maxRecDepth 100000
open Go Go.VT
namespace Go.Rp

theorem storeO_eq : vc (EV []) noL Go.Proofs.Tryd.f46 cStoreO () = (([Node.mk (0 : Int) (0 : Int) (0 : Int) (0 : Int) (0 : Int) (0 : Int) [(5 : Int), (6 : Int), (7 : Int)], Node.mk (0 : Int) (0 : Int) (0 : Int) (0 : Int) (0 : Int) (0 : Int) [(8 : Int)],
  Node.mk (1 : Int) (0 : Int) (1 : Int) (0 : Int) (0 : Int) (0 : Int) [], Node.mk (2 : Int) (2 : Int) (0 : Int) (1 : Int) (3 : Int) (0 : Int) [],
  Node.mk (3 : Int) (3 : Int) (0 : Int) (0 : Int) (0 : Int) (10 : Int) [], Node.mk (1 : Int) (4 : Int) (2 : Int) (0 : Int) (0 : Int) (0 : Int) []],
  ()) =
  (storeL, ())) := by kernel_rfl

theorem known_eq (st : List Node) (fW : List Node → List Int → List Node × Int × Int) (fC : List Node → Int → Int → List Node × Int × Int) (fP : List Node → Int → Int → Int → List Node × Int × Int) (fO : List Node → Int → Int → List Node × Int × Int) (fL : List Node → Int → Int × Int) (fF : List Node → Int → List Int × Int) (fG : List Node → Int → List Int → List Int × Int) (fT : List Node → Int → Int → Int × Int) (fD : List Node → Int → Int × Int) (fE : List Node → Int → List Node × Int × Int) (fK : List Node → List Int → List Node × List Int × Int) (fX : List Node → Int) (fS : List Node → List Node → Bool) (db : Nat → List Node) : vcF (EVk st fW fC fP fO fL fF fG fT fD fE fK fX fS) (lKnownV db) Go.Proofs.Tryd.f10 cKnown () = (let e0 : List Node :=
  [Node.mk (4 : Int) (0 : Int) (0 : Int) (0 : Int) (0 : Int) (0 : Int) [], Node.mk (-1 : Int) (0 : Int) (0 : Int) (0 : Int) (0 : Int) (0 : Int) [],
  Node.mk (0 : Int) (1 : Int) (0 : Int) (0 : Int) (0 : Int) (0 : Int) [], Node.mk (0 : Int) (0 : Int) (0 : Int) (0 : Int) (0 : Int) (1 : Int) [],
  Node.mk (0 : Int) (0 : Int) (0 : Int) (0 : Int) (0 : Int) (0 : Int) [(2147483648 : Int)], Node.mk (1 : Int) (6 : Int) (0 : Int) (0 : Int) (0 : Int) (0 : Int) [],
  Node.mk (1 : Int) (0 : Int) (-1 : Int) (0 : Int) (0 : Int) (0 : Int) [], Node.mk (1 : Int) (0 : Int) (0 : Int) (0 : Int) (1 : Int) (0 : Int) [],
  Node.mk (1 : Int) (0 : Int) (0 : Int) (0 : Int) (0 : Int) (0 : Int) [(1 : Int)], Node.mk (2 : Int) (0 : Int) (0 : Int) (1 : Int) (3 : Int) (0 : Int) [],
  Node.mk (2 : Int) (0 : Int) (0 : Int) (-1 : Int) (0 : Int) (0 : Int) [], Node.mk (2 : Int) (0 : Int) (0 : Int) (4 : Int) (0 : Int) (0 : Int) [],
  Node.mk (2 : Int) (0 : Int) (0 : Int) (4611686018427387904 : Int) (4611686018427387904 : Int) (0 : Int) [], Node.mk (2 : Int) (9 : Int) (0 : Int) (0 : Int) (0 : Int) (0 : Int) [],
  Node.mk (2 : Int) (0 : Int) (0 : Int) (0 : Int) (0 : Int) (1 : Int) [], Node.mk (3 : Int) (0 : Int) (0 : Int) (0 : Int) (0 : Int) (2147483648 : Int) [],
  Node.mk (3 : Int) (0 : Int) (1 : Int) (0 : Int) (0 : Int) (0 : Int) [], Node.mk (3 : Int) (6 : Int) (0 : Int) (0 : Int) (0 : Int) (0 : Int) []];
 let e1 : Bool :=
  (fW st [(2147483648 : Int)]).snd.snd != (2 : Int) || (fC st (0 : Int) (9 : Int)).snd.snd != (2 : Int) || (fP st (0 : Int) (2 : Int) (2 : Int)).snd.snd != (2 : Int) ||
  (fP st (0 : Int) (-1 : Int) (1 : Int)).snd.snd != (2 : Int) ||
  (fP st (6 : Int) (0 : Int) (0 : Int)).snd.snd != (2 : Int) ||
  (fO st (0 : Int) (2147483648 : Int)).snd.snd != (2 : Int) ||
  (fG st (5 : Int) [(7 : Int)]).snd != (2 : Int) ||
  (fT st (5 : Int) (7 : Int)).snd != (2 : Int) ||
  (fF st (-1 : Int)).snd != (2 : Int) ||
  (fK st [(0 : Int), (6 : Int)]).snd.snd != (2 : Int) ||
  (fE st (6 : Int)).snd.snd != (2 : Int);
 let e2 : List Node := List.replicate (4000 : Nat) (Node.mk (0 : Int) (0 : Int) (0 : Int) (0 : Int) (0 : Int) (0 : Int) []);
 let e3 : Node := Node.mk (0 : Int) (0 : Int) (0 : Int) (0 : Int) (0 : Int) (0 : Int) [];
 let e4 : List Int := [(1 : Int), (2 : Int), (3 : Int), (4 : Int)];
 let e5 : List Int := [(0 : Int), (6 : Int)];
 let e6 : List Int := [(2147483648 : Int)];
 let e7 : Int := (fP st (0 : Int) (-1 : Int) (1 : Int)).snd.snd;
 let e8 : List Node := (fP st (0 : Int) (-1 : Int) (1 : Int)).fst;
 let e9 : Int := (fP st (0 : Int) (2 : Int) (2 : Int)).snd.snd;
 let e10 : Int := (fP st (6 : Int) (0 : Int) (0 : Int)).snd.snd;
 let e11 : List Node := (fP st (6 : Int) (0 : Int) (0 : Int)).fst;
 let e12 : List Node := (fP st (0 : Int) (2 : Int) (2 : Int)).fst;
 let e13 : Int := (fC st (0 : Int) (9 : Int)).snd.snd;
 let e14 : Int := (fO st (0 : Int) (2147483648 : Int)).snd.snd;
 let e15 : Int := (fG st (5 : Int) [(7 : Int)]).snd;
 let e16 : List Int := [(9 : Int)];
 let e17 : List Node := (fO st (0 : Int) (2147483648 : Int)).fst;
 let e18 : Int := (↑(List.length e0) : Int);
 let e19 : List Int := [(1 : Int)];
 let e20 : List Node := (fC st (0 : Int) (9 : Int)).fst;
 let e21 : Int × Int := (fE [e3] (0 : Int)).snd;
 let e22 : Int := (fE st (6 : Int)).snd.snd;
 let e23 : Int := (fT st (5 : Int) (7 : Int)).snd;
 let e24 : Int := (fF st (-1 : Int)).snd;
 let e25 : Int := (fK st e5).snd.snd;
  (∃ (p : Int × Unit), (0 : Int) = p.fst ∧ e6 = e6 ∧ e19 = e19 ∧ e0 = e0 ∧ (0 : Int) ≤ p.fst ∧ p.fst ≤ (18 : Int)) ∧
  ∀ (p : Int × Unit),
 let e0_1 : List Node :=
  st ++
  [Node.mk (List.getD e0 (Int.toNat p.fst) e3).kind (List.getD e0 (Int.toNat p.fst) e3).a (List.getD e0 (Int.toNat p.fst) e3).b (List.getD e0 (Int.toNat p.fst) e3).from_
  (List.getD e0 (Int.toNat p.fst) e3).len (List.getD e0 (Int.toNat p.fst) e3).n (List.getD e0 (Int.toNat p.fst) e3).words];
 let e1_1 : Bool := decide (p.fst < e18);
 let e2_1 : Bool :=
  fX e0_1 != (1 : Int) || (fW e0_1 e6).snd.snd != (1 : Int) || (fC e0_1 (-1 : Int) (9 : Int)).snd.snd != (1 : Int) || (fP e0_1 (9 : Int) (0 : Int) (0 : Int)).snd.snd != (1 : Int) ||
  (fO e0_1 (9 : Int) (0 : Int)).snd.snd != (1 : Int) ||
  (fL e0_1 (0 : Int)).snd != (1 : Int) ||
  (fF e0_1 (9 : Int)).snd != (1 : Int) ||
  (fG e0_1 (0 : Int) e16).snd != (1 : Int) ||
  (fT e0_1 (0 : Int) (9 : Int)).snd != (1 : Int) ||
  (fD e0_1 (0 : Int)).snd != (1 : Int) ||
  (fE e0_1 (9 : Int)).snd.snd != (1 : Int) ||
  (fK e0_1 e16).snd.snd != (1 : Int);
 let e3_1 : Node := List.getD e0 (Int.toNat p.fst) e3;
  (0 : Int) ≤ p.fst ∧ p.fst ≤ (18 : Int) →
  (e1_1 = true →
  ((0 : Int) ≤ p.fst ∧ p.fst < e18) ∧
  (List.length st + List.length [Node.mk e3_1.kind e3_1.a e3_1.b e3_1.from_ e3_1.len e3_1.n e3_1.words]) * (72 : Nat) ≤ (140737488355328 : Nat) ∧
  List.length e6 ≤ (4000000 : Nat) ∧
  True ∧
  True ∧
  True ∧
  True ∧
  List.length e16 + List.length e0_1 ≤ (17592186044416 : Nat) ∧
  (e2_1 = true → (false, ()) = (true, ())) ∧
  (e2_1 = false →
  ∃ (p' : Int × Unit),
  IntKind.wrap IntKind.i64 (p.fst + (1 : Int)) = p'.fst ∧
  e6 = e6 ∧ e19 = e19 ∧ e0 = e0 ∧ ((0 : Int) ≤ p'.fst ∧ p'.fst ≤ (18 : Int)) ∧ (18 : Nat) - Int.toNat p'.fst < (18 : Nat) - Int.toNat p.fst)) ∧
  (e1_1 = false →
  List.length e6 ≤ (4000000 : Nat) ∧
  True ∧
  True ∧
  True ∧
  True ∧
  True ∧
  List.length e5 + List.length st ≤ (17592186044416 : Nat) ∧
  True ∧
  (e1 = true → (false, ()) = (true, ())) ∧
  (e1 = false →
  ((0 : Int) ≤ (4000 : Int) ∧ (4000 : Int) * (↑(72 : Nat) : Int) ≤ (↑(140737488355328 : Nat) : Int)) ∧
  (∃ (p_1 : Int × List Node × Unit),
  p.fst = p.fst ∧
  e1_1 = e1_1 ∧
  (fW st e6).snd.snd = (fW st e6).snd.snd ∧
  e13 = e13 ∧
  e9 = e9 ∧
  e7 = e7 ∧
  e10 = e10 ∧
  e14 = e14 ∧
  e15 = e15 ∧
  e23 = e23 ∧
  e24 = e24 ∧
  e25 = e25 ∧
  e22 = e22 ∧
  e1 = e1 ∧
  (0 : Int) = p_1.fst ∧
  e6 = e6 ∧
  e19 = e19 ∧
  e0 = e0 ∧
  st = st ∧
  e6 = e6 ∧
  (fW st e6).fst = (fW st e6).fst ∧
  st = st ∧
  e20 = e20 ∧
  st = st ∧
  e12 = e12 ∧
  st = st ∧
  e8 = e8 ∧
  st = st ∧
  e11 = e11 ∧
  st = st ∧
  e17 = e17 ∧
  st = st ∧
  [(7 : Int)] = [(7 : Int)] ∧
  st = st ∧
  st = st ∧
  st = st ∧
  e5 = e5 ∧
  (fK st e5).fst = (fK st e5).fst ∧
  st = st ∧
  (fE st (6 : Int)).fst = (fE st (6 : Int)).fst ∧
  e4 = e4 ∧
  [Node.mk (0 : Int) (0 : Int) (0 : Int) (0 : Int) (0 : Int) (0 : Int) e4] =
  p_1.snd.fst ∧
  e2 = e2 ∧
  ((0 : Int) ≤ p_1.fst ∧ p_1.fst ≤ (18 : Int)) ∧
  p_1.snd.fst = db (Int.toNat p_1.fst)) ∧
  ∀ (p_1 : Int × List Node × Unit),
 let e0_2 : List Node := p_1.snd.fst;
 let e1_2 : Int := p_1.fst;
 let e2_2 : Bool := decide (e1_2 < (18 : Int));
 let e3_2 : List Node := [Node.mk (1 : Int) e1_2 e1_2 (0 : Int) (0 : Int) (0 : Int) []];
 let e4_1 : List Int × Int := fG e0_2 (18 : Int) [(1048575 : Int), (0 : Int)];
  ((0 : Int) ≤ e1_2 ∧ e1_2 ≤ (18 : Int)) ∧ e0_2 = db (Int.toNat e1_2) →
  (e2_2 = true →
  (List.length e0_2 + List.length e3_2) * (72 : Nat) ≤ (140737488355328 : Nat) ∧
  ∃ (p' : Int × List Node × Unit),
  p.fst = p.fst ∧
  e1_1 = e1_1 ∧
  (fW st e6).snd.snd = (fW st e6).snd.snd ∧
  e13 = e13 ∧
  e9 = e9 ∧
  e7 = e7 ∧
  e10 = e10 ∧
  e14 = e14 ∧
  e15 = e15 ∧
  e23 = e23 ∧
  e24 = e24 ∧
  e25 = e25 ∧
  e22 = e22 ∧
  e1 = e1 ∧
  IntKind.wrap IntKind.i64 (e1_2 + (1 : Int)) = p'.fst ∧
  e6 = e6 ∧
  e19 = e19 ∧
  e0 = e0 ∧
  st = st ∧
  e6 = e6 ∧
  (fW st e6).fst = (fW st e6).fst ∧
  st = st ∧
  e20 = e20 ∧
  st = st ∧
  e12 = e12 ∧
  st = st ∧
  e8 = e8 ∧
  st = st ∧
  e11 = e11 ∧
  st = st ∧
  e17 = e17 ∧
  st = st ∧
  [(7 : Int)] = [(7 : Int)] ∧
  st = st ∧
  st = st ∧
  st = st ∧
  e5 = e5 ∧
  (fK st e5).fst = (fK st e5).fst ∧
  st = st ∧
  (fE st (6 : Int)).fst = (fE st (6 : Int)).fst ∧
  e4 = e4 ∧
  e0_2 ++ e3_2 = p'.snd.fst ∧
  e2 = e2 ∧
  (((0 : Int) ≤ p'.fst ∧ p'.fst ≤ (18 : Int)) ∧
  p'.snd.fst = db (Int.toNat p'.fst)) ∧
  (18 : Nat) - Int.toNat p'.fst < (18 : Nat) - Int.toNat e1_2) ∧
  (e2_2 = false →
  True ∧
  True ∧
  List.length ([] : List Int) ≤ (4000000 : Nat) ∧
  True ∧
  True ∧
  True ∧
  ((0 : Int) ≤ (4001 : Int) ∧ (4001 : Int) * (↑(72 : Nat) : Int) ≤ (↑(140737488355328 : Nat) : Int)) ∧
  True ∧
  True ∧
  List.length ([] : List Int) + List.length st ≤ (17592186044416 : Nat) ∧
  (((fL e0_2 (18 : Int)).snd == (0 : Int) && (fL e0_2 (18 : Int)).fst == (1048576 : Int) && e4_1.snd == (0 : Int) &&
  decide (e4_1.fst = (4 : Int) :: e19) &&
  (fC e0_2 (18 : Int) (0 : Int)).snd.snd == (9 : Int) &&
  (fE e0_2 (18 : Int)).snd.snd == (9 : Int) &&
  (fW e2 []).snd.snd == (9 : Int) &&
  (fC e2 (0 : Int) (1 : Int)).snd.snd == (9 : Int) &&
  e21.snd == (0 : Int) &&
  e21.fst == (1 : Int) &&
  (↑(List.length (fE [e3] (0 : Int)).fst) : Int) == (2 : Int) &&
  (fE e2 (0 : Int)).snd.snd == (9 : Int) &&
  (fL (List.replicate (4001 : Nat) e3) (0 : Int)).snd == (3 : Int) &&
  fX (List.replicate (4001 : Nat) e3) == (3 : Int) &&
  (fE st (3 : Int)).snd.snd == (0 : Int) &&
  (fE st (3 : Int)).snd.fst == (7 : Int) &&
  (↑(List.length (fE st (3 : Int)).fst) : Int) == (8 : Int) &&
  (fE st (0 : Int)).snd.snd == (0 : Int) &&
  (fE st (0 : Int)).snd.fst == (0 : Int) &&
  fS (fE st (0 : Int)).fst st &&
  (fK st []).snd.snd == (0 : Int) &&
  IntKind.wrap IntKind.i64 ((↑(List.length (fK st []).fst) : Int) + (↑(List.length (fK st []).snd.fst) : Int)) == (0 : Int) ||
  false) &&
  true,
  ()) =
  (true, ()))))) := by kernel_rfl

end Go.Rp
end

section
set_option linter.unusedVariables false
set_option maxRecDepth 100000
open Go Go.VT
namespace Go.Rp

theorem pieces_eq (l : List Node) (L : List (Int × Int)) (a from_ many add : Int) : vc (EV []) noL Go.Proofs.Tryd.f52 cPieces (l, L, a, from_, many, add, ()) = (let e0 : List Node × List (Int × Int) × Int × Int × Int × Int × Unit := (l, L, a, from_, many, add, ());
  Small RU (Sigma.mk (Ty.slice (56 : Nat) (Ty.user (0 : Nat))) l) → e0 = e0) := by kernel_rfl

theorem flatW_eq (a from_ many add : Int) (l : List Node) (L : List (Int × Int)) (out : List Int) (st : Int) : vc ((EVy recYl (some cFlatY) []).set 79 ((cFlatW ghW).below mFlatW (mFlatW (a, from_, many, add, l, L, out, st, ())))) noL Go.Proofs.Tryd.f79 (cFlatW ghW) (a, from_, many, add, l, L, out, st, ()) = (let e5 : Int := (↑(List.length out) : Int) + many;
 let e4 : List Node × List (Int × Int) × List Int × Int × Unit := (l, L, out, st, ());
 let e3 : Nat := mFlatW (a, from_, many, add, e4);
 let e2 : Bool × List Node × List (Int × Int) × List Int × Int × Unit := (true, l, L, out ++ walkW l a from_ many add, st, ());
 let e1 : Node := List.getD l (Int.toNat a) (Node.mk (0 : Int) (0 : Int) (0 : Int) (0 : Int) (0 : Int) (0 : Int) []);
 let e0 : Int :=
  if
  (if IntKind.wrap IntKind.i64 (Option.getD (mget (fun (x y : Int) => x == y) L e1.a) (0 : Int) - from_) < many then
  IntKind.wrap IntKind.i64 (Option.getD (mget (fun (x y : Int) => x == y) L e1.a) (0 : Int) - from_)
  else many) >
  (0 : Int) then
  if IntKind.wrap IntKind.i64 (Option.getD (mget (fun (x y : Int) => x == y) L e1.a) (0 : Int) - from_) < many then
  IntKind.wrap IntKind.i64 (Option.getD (mget (fun (x y : Int) => x == y) L e1.a) (0 : Int) - from_)
  else many
  else (0 : Int);
  Small RU (Sigma.mk (Ty.slice (56 : Nat) (Ty.user (0 : Nat))) l) →
  Small RU (Sigma.mk (Ty.slice (3 : Nat) (Ty.int IntKind.i64)) out) →
  ((0 : Int) ≤ a ∧ a < (↑(List.length l) : Int)) ∧
  ((many == (0 : Int)) = true → (true, e4) = e2) ∧
  ((many == (0 : Int)) = false →
  ((e1.kind == (0 : Int)) = true →
  ((((((List.length l ≤ (4000 : Nat) ∧ validOf l = true ∧ L = longOf l) ∧
  ((0 : Int) ≤ a ∧ a < (↑(List.length l) : Int)) ∧ isWord add = true ∧ (0 : Int) < many ∧ (0 : Int) ≤ from_ ∧ from_ + many ≤ (↑(List.length (nat_ l a).words) : Int)) ∧
  e5 ≤ (1048576 : Int) ∧ st = (0 : Int)) ∧
  True) ∧
  l = l ∧ True) ∧
  L = L ∧ True) ∧
  (true, l, L, out ++ rwords l a from_ many add, st, ()) = e2) ∧
  ((e1.kind == (0 : Int)) = false →
  ((e1.kind == (2 : Int)) = true →
  ((((((((((List.length l ≤ (4000 : Nat) ∧ validOf l = true ∧ L = longOf l) ∧
  ((0 : Int) ≤ e1.a ∧ e1.a < (↑(List.length l) : Int)) ∧
  isWord add = true ∧
  (0 : Int) ≤ many ∧
  ((0 : Int) < many → (0 : Int) ≤ IntKind.wrap IntKind.i64 (from_ + e1.from_) ∧ IntKind.wrap IntKind.i64 (from_ + e1.from_) + many ≤ at_ (lensOf l) e1.a)) ∧
  e5 ≤ (1048576 : Int) ∧ st = (0 : Int)) ∧
  mFlatW (e1.a, IntKind.wrap IntKind.i64 (from_ + e1.from_), many, add, e4) < e3) ∧
  True) ∧
  True) ∧
  l = l ∧ True) ∧
  L = L ∧ True) ∧
  True) ∧
  True) ∧
  (true, l, L, out ++ walkW l e1.a (IntKind.wrap IntKind.i64 (from_ + e1.from_)) many add, st, ()) = e2) ∧
  ((e1.kind == (2 : Int)) = false →
  ((e1.kind == (3 : Int)) = true →
  ((((((((((List.length l ≤ (4000 : Nat) ∧ validOf l = true ∧ L = longOf l) ∧
  ((0 : Int) ≤ e1.a ∧ e1.a < (↑(List.length l) : Int)) ∧
  isWord (IntKind.wrap IntKind.i64 (IntKind.wrap IntKind.i32 (IntKind.wrap IntKind.i64 (add + e1.n)))) = true ∧
  (0 : Int) ≤ many ∧ ((0 : Int) < many → (0 : Int) ≤ from_ ∧ from_ + many ≤ at_ (lensOf l) e1.a)) ∧
  e5 ≤ (1048576 : Int) ∧ st = (0 : Int)) ∧
  mFlatW (e1.a, from_, many, IntKind.wrap IntKind.i64 (IntKind.wrap IntKind.i32 (IntKind.wrap IntKind.i64 (add + e1.n))), e4) < e3) ∧
  True) ∧
  True) ∧
  l = l ∧ True) ∧
  L = L ∧ True) ∧
  True) ∧
  True) ∧
  (true, l, L, out ++ walkW l e1.a from_ many (IntKind.wrap IntKind.i64 (IntKind.wrap IntKind.i32 (IntKind.wrap IntKind.i64 (add + e1.n)))), st, ()) = e2) ∧
  ((e1.kind == (3 : Int)) = false →
  (true = true →
  ((((((((((List.length l ≤ (4000 : Nat) ∧ validOf l = true ∧ L = longOf l) ∧
  ((0 : Int) ≤ e1.a ∧ e1.a < (↑(List.length l) : Int)) ∧
  isWord add = true ∧ (0 : Int) ≤ e0 ∧ ((0 : Int) < e0 → (0 : Int) ≤ from_ ∧ from_ + e0 ≤ at_ (lensOf l) e1.a)) ∧
  (↑(List.length out) : Int) + e0 ≤ (1048576 : Int) ∧ st = (0 : Int)) ∧
  mFlatW (e1.a, from_, e0, add, e4) < e3) ∧
  True) ∧
  True) ∧
  l = l ∧ True) ∧
  L = L ∧ True) ∧
  True) ∧
  True) ∧
  ((((((((((List.length l ≤ (4000 : Nat) ∧ validOf l = true ∧ L = longOf l) ∧
  ((0 : Int) ≤ e1.b ∧ e1.b < (↑(List.length l) : Int)) ∧
  isWord add = true ∧
  (0 : Int) ≤ IntKind.wrap IntKind.i64 (many - e0) ∧
  ((0 : Int) < IntKind.wrap IntKind.i64 (many - e0) →
  (0 : Int) ≤ IntKind.wrap IntKind.i64 (IntKind.wrap IntKind.i64 (from_ + e0) - Option.getD (mget (fun (x y : Int) => x == y) L e1.a) (0 : Int)) ∧
  IntKind.wrap IntKind.i64 (IntKind.wrap IntKind.i64 (from_ + e0) - Option.getD (mget (fun (x y : Int) => x == y) L e1.a) (0 : Int)) +
  IntKind.wrap IntKind.i64 (many - e0) ≤
  at_ (lensOf l) e1.b)) ∧
  (↑(List.length (out ++ walkW l e1.a from_ e0 add)) : Int) + IntKind.wrap IntKind.i64 (many - e0) ≤ (1048576 : Int) ∧ st = (0 : Int)) ∧
  mFlatW
  (e1.b, IntKind.wrap IntKind.i64 (IntKind.wrap IntKind.i64 (from_ + e0) - Option.getD (mget (fun (x y : Int) => x == y) L e1.a) (0 : Int)),
  IntKind.wrap IntKind.i64 (many - e0), add, l, L, out ++ walkW l e1.a from_ e0 add, st, ()) <
  e3) ∧
  True) ∧
  True) ∧
  l = l ∧ True) ∧
  L = L ∧ True) ∧
  True) ∧
  True) ∧
  (true && true, l, L,
  out ++ walkW l e1.a from_ e0 add ++
  walkW l e1.b (IntKind.wrap IntKind.i64 (IntKind.wrap IntKind.i64 (from_ + e0) - Option.getD (mget (fun (x y : Int) => x == y) L e1.a) (0 : Int)))
  (IntKind.wrap IntKind.i64 (many - e0)) add,
  st, ()) =
  e2) ∧
  (true = !true →
  ((((((((((List.length l ≤ (4000 : Nat) ∧ validOf l = true ∧ L = longOf l) ∧
  ((0 : Int) ≤ e1.a ∧ e1.a < (↑(List.length l) : Int)) ∧
  isWord add = true ∧ (0 : Int) ≤ e0 ∧ ((0 : Int) < e0 → (0 : Int) ≤ from_ ∧ from_ + e0 ≤ at_ (lensOf l) e1.a)) ∧
  (↑(List.length out) : Int) + e0 ≤ (1048576 : Int) ∧ st = (0 : Int)) ∧
  mFlatW (e1.a, from_, e0, add, e4) < e3) ∧
  True) ∧
  True) ∧
  l = l ∧ True) ∧
  L = L ∧ True) ∧
  True) ∧
  True) ∧
  (true && true, l, L, out ++ walkW l e1.a from_ e0 add, st, ()) = e2)))))) := by kernel_rfl

theorem flatK_eq (a from_ many add : Int) (l : List Node) (L : List (Int × Int)) (out : List Int) (st : Int) : vc (EVy walkYl (some cFlatY) [(79, cFlatW ghK)]) noL Go.Proofs.Tryd.f78 cFlatK (a, from_, many, add, l, L, out, st, ()) = (let e0 : List Node × List (Int × Int) × List Int × Int × Unit := (l, L, out ++ walkW l a from_ many add, st, ());
  Small RU (Sigma.mk (Ty.slice (56 : Nat) (Ty.user (0 : Nat))) l) →
  Small RU (Sigma.mk (Ty.slice (3 : Nat) (Ty.int IntKind.i64)) out) →
  (((((((((List.length l ≤ (4000 : Nat) ∧ validOf l = true ∧ L = longOf l) ∧
  ((0 : Int) ≤ a ∧ a < (↑(List.length l) : Int)) ∧ isWord add = true ∧ (0 : Int) ≤ many ∧ ((0 : Int) < many → (0 : Int) ≤ from_ ∧ from_ + many ≤ at_ (lensOf l) a)) ∧
  (↑(List.length out) : Int) + many ≤ (1048576 : Int) ∧ st = (0 : Int)) ∧
  True) ∧
  True) ∧
  l = l ∧ True) ∧
  L = L ∧ True) ∧
  True) ∧
  True) ∧
  e0 = e0) := by kernel_rfl

theorem flatP_eq (l : List Node) (a : Int) : vcD (EVx (fun _ _ => []) itFlat [(49, cOpen), (52, cPieces)]) cC lFlat Go.Proofs.Tryd.f17 cFlatR (l, a, ()) = (let e2 : Bool := askedOf l [a] != (0 : Int);
 let e1 : List Int × Int × Unit := ((flatAt l a).fst, (flatAt l a).snd, ());
 let e0 : Int := Option.getD (mget (fun (x y : Int) => x == y) (longOf l) a) (0 : Int);
  Small RU (Sigma.mk (Ty.slice (56 : Nat) (Ty.user (0 : Nat))) l) →
  (e2 = true → ([], askedOf l [a], ()) = e1) ∧
  (e2 = false →
  ((l = l ∧ True) ∧ longOf l = longOf l ∧ True) ∧
  (∀ (xs : Int × Int × Int × Int × List Int × List Node × List (Int × Int) × Int × Unit),
 let e5 : Int := xs.snd.fst + xs.snd.snd.fst;
 let e4 : Int := xs.snd.snd.snd.fst;
 let e3 : Int := IntKind.wrap IntKind.i64 e5;
 let e2 : Node := Node.mk (0 : Int) (0 : Int) (0 : Int) (0 : Int) (0 : Int) (0 : Int) [];
 let e1 : List Int × List Node × List (Int × Int) × Int × Unit := xs.snd.snd.snd.snd;
 let e0 : List Int := List.drop (Int.toNat xs.snd.fst) (List.take (Int.toNat e3) (List.getD e1.snd.fst (Int.toNat xs.fst) e2).words);
  ((List.length e1.snd.fst ≤ (4000 : Nat) ∧ validOf e1.snd.fst = true ∧ e1.snd.snd.fst = longOf e1.snd.fst) ∧
  ((0 : Int) ≤ xs.fst ∧ xs.fst < (↑(List.length e1.snd.fst) : Int)) ∧
  isWord e4 = true ∧ (0 : Int) < xs.snd.snd.fst ∧ (0 : Int) ≤ xs.snd.fst ∧ e5 ≤ (↑(List.length (nat_ e1.snd.fst xs.fst).words) : Int)) ∧
  (↑(List.length e1.fst) : Int) + xs.snd.snd.fst ≤ (1048576 : Int) ∧ e1.snd.snd.snd.fst = (0 : Int) →
  Small RU (Sigma.mk (Ty.slice (3 : Nat) (Ty.int IntKind.i64)) e1.fst) →
  Small RU (Sigma.mk (Ty.slice (56 : Nat) (Ty.user (0 : Nat))) e1.snd.fst) →
  e1.snd.snd.snd.fst = (0 : Int) ∧
  ((0 : Int) ≤ xs.fst ∧ xs.fst < (↑(List.length e1.snd.fst) : Int)) ∧
  ((0 : Int) ≤ xs.snd.fst ∧ xs.snd.fst ≤ e3 ∧ e3 ≤ (↑(List.length (List.getD e1.snd.fst (Int.toNat xs.fst) e2).words) : Int)) ∧
  (∃ (p : Int × List Int × Unit),
  l = l ∧
  a = a ∧
  xs.fst = xs.fst ∧
  xs.snd.fst = xs.snd.fst ∧
  xs.snd.snd.fst = xs.snd.snd.fst ∧
  e4 = e4 ∧
  e0 = e0 ∧
  (↑(List.length e0) : Int) = (↑(List.length e0) : Int) ∧
  (0 : Int) = p.fst ∧
  e1.fst = p.snd.fst ∧
  e1.snd.fst = e1.snd.fst ∧
  e1.snd.snd.fst = e1.snd.snd.fst ∧
  xs.fst = xs.fst ∧
  xs.snd.fst = xs.snd.fst ∧
  xs.snd.snd.fst = xs.snd.snd.fst ∧
  e4 = e4 ∧
  (0 : Int) ≤ p.fst ∧
  p.fst ≤ (↑(List.length e0) : Int) ∧
  p.snd.fst = e1.fst ++ List.map (fun (n : Int) => word (w64 (n + e4))) (List.take (Int.toNat p.fst) e0)) ∧
  ∀ (p : Int × List Int × Unit),
 let e2_1 : Int := e4;
 let e1 : List Int × List Node × List (Int × Int) × Int × Unit := e1;
 let e0 : List Int := List.drop (Int.toNat xs.snd.fst) (List.take (Int.toNat e3) (List.getD e1.snd.fst (Int.toNat xs.fst) e2).words);
  (0 : Int) ≤ p.fst ∧ p.fst ≤ (↑(List.length e0) : Int) ∧ p.snd.fst = e1.fst ++ List.map (fun (n : Int) => word (w64 (n + e2_1))) (List.take (Int.toNat p.fst) e0) →
  (decide (p.fst < (↑(List.length e0) : Int)) = true →
  ((0 : Int) ≤ p.fst ∧ p.fst < (↑(List.length e0) : Int)) ∧
  (List.length p.snd.fst +
  List.length [IntKind.wrap IntKind.i64 (IntKind.wrap IntKind.i32 (IntKind.wrap IntKind.i64 (List.getD e0 (Int.toNat p.fst) (0 : Int) + e2_1)))]) *
  (8 : Nat) ≤
  (140737488355328 : Nat) ∧
  ∃ (p' : Int × List Int × Unit),
  l = l ∧
  a = a ∧
  xs.fst = xs.fst ∧
  xs.snd.fst = xs.snd.fst ∧
  xs.snd.snd.fst = xs.snd.snd.fst ∧
  e2_1 = e2_1 ∧
  e0 = e0 ∧
  (↑(List.length e0) : Int) = (↑(List.length e0) : Int) ∧
  IntKind.wrap IntKind.i64 (p.fst + (1 : Int)) = p'.fst ∧
  p.snd.fst ++
  [IntKind.wrap IntKind.i64 (IntKind.wrap IntKind.i32 (IntKind.wrap IntKind.i64 (List.getD e0 (Int.toNat p.fst) (0 : Int) + e2_1)))] =
  p'.snd.fst ∧
  e1.snd.fst = e1.snd.fst ∧
  e1.snd.snd.fst = e1.snd.snd.fst ∧
  xs.fst = xs.fst ∧
  xs.snd.fst = xs.snd.fst ∧
  xs.snd.snd.fst = xs.snd.snd.fst ∧
  e2_1 = e2_1 ∧
  ((0 : Int) ≤ p'.fst ∧
  p'.fst ≤ (↑(List.length e0) : Int) ∧
  p'.snd.fst = e1.fst ++ List.map (fun (n : Int) => word (w64 (n + e2_1))) (List.take (Int.toNat p'.fst) e0)) ∧
  List.length e0 - Int.toNat p'.fst < List.length e0 - Int.toNat p.fst) ∧
  (decide (p.fst < (↑(List.length e0) : Int)) = false →
  (true, p.snd.fst, e1.snd.fst, e1.snd.snd.fst, (0 : Int), ()) =
  (true, e1.fst ++ rwords e1.snd.fst xs.fst xs.snd.fst xs.snd.snd.fst e2_1, e1.snd.fst, e1.snd.snd.fst, e1.snd.snd.snd.fst, ()))) ∧
  (((((((List.length l ≤ (4000 : Nat) ∧ validOf l = true ∧ longOf l = longOf l) ∧
  ((0 : Int) ≤ a ∧ a < (↑(List.length l) : Int)) ∧ isWord (0 : Int) = true ∧ (0 : Int) ≤ e0 ∧ ((0 : Int) < e0 → (0 : Int) ≤ (0 : Int) ∧ (0 : Int) + e0 ≤ at_ (lensOf l) a)) ∧
  (↑(List.length ([] : List Int)) : Int) + e0 ≤ (1048576 : Int) ∧ (0 : Int) = (0 : Int)) ∧
  True) ∧
  l = l ∧ True) ∧
  longOf l = longOf l ∧ True) ∧
  True) ∧
  (0 : Int) = (0 : Int) ∧ ([] ++ walkW l a (0 : Int) e0 (0 : Int), (0 : Int), ()) = e1)) := by kernel_rfl

end Go.Rp
end

section
set_option linter.unusedVariables false
set_option maxRecDepth 100000
open Go Go.VT
namespace Go.Rp

theorem out_eq (n : Int) (l : List Node) (L : List (Int × Int)) (a : Int) : vc (EV [(56, cHas)]) noL Go.Proofs.Tryd.f55 cOut (n, l, L, a, ()) = (Small RU (Sigma.mk (Ty.slice (56 : Nat) (Ty.user (0 : Nat))) l) →
  (!(decide ((0 : Int) ≤ n) && decide (n < Option.getD (mget (fun (x y : Int) => x == y) L a) (0 : Int))), l, L, a, ()) = (outB L a n, l, L, a, ())) := by kernel_rfl

theorem idxO_eq (r : List Int) (l : List Node) (L : List (Int × Int)) (a : Int) : vc (EV [(55, cOut)]) (lIdxO (outB L a) r) Go.Proofs.Tryd.f80 cIdxO (r, l, L, a, ()) = (Small RU (Sigma.mk (Ty.slice (3 : Nat) (Ty.int IntKind.i64)) r) →
  Small RU (Sigma.mk (Ty.slice (56 : Nat) (Ty.user (0 : Nat))) l) →
  (∃ (p : Int × Unit),
  r = r ∧
  (↑(List.length r) : Int) = (↑(List.length r) : Int) ∧
  (0 : Int) = p.fst ∧ a = a ∧ l = l ∧ L = L ∧ (0 : Int) ≤ p.fst ∧ p.fst ≤ (↑(List.length r) : Int) ∧ (List.all (List.take (Int.toNat p.fst) r) fun (n : Int) => !outB L a n) = true) ∧
  ∀ (p : Int × Unit),
 let e2 : Bool := decide (p.fst < (↑(List.length r) : Int));
 let e1 : Bool := outB L a (List.getD r (Int.toNat p.fst) (0 : Int));
 let e0 : Int × List Node × List (Int × Int) × Int × Unit := (firstAt (outB L a) r (0 : Int), l, L, a, ());
  (0 : Int) ≤ p.fst ∧ p.fst ≤ (↑(List.length r) : Int) ∧ (List.all (List.take (Int.toNat p.fst) r) fun (n : Int) => !outB L a n) = true →
  (e2 = true →
  ((0 : Int) ≤ p.fst ∧ p.fst < (↑(List.length r) : Int)) ∧
  (((True ∧ a = a ∧ True) ∧ l = l ∧ True) ∧ L = L ∧ True) ∧
  (e1 = true → (p.fst, l, L, a, ()) = e0) ∧
  (e1 = false →
  ∃ (p' : Int × Unit),
  r = r ∧
  (↑(List.length r) : Int) = (↑(List.length r) : Int) ∧
  IntKind.wrap IntKind.i64 (p.fst + (1 : Int)) = p'.fst ∧
  a = a ∧
  l = l ∧
  L = L ∧
  ((0 : Int) ≤ p'.fst ∧ p'.fst ≤ (↑(List.length r) : Int) ∧ (List.all (List.take (Int.toNat p'.fst) r) fun (n : Int) => !outB L a n) = true) ∧
  List.length r - Int.toNat p'.fst < List.length r - Int.toNat p.fst)) ∧
  (e2 = false → ((-1 : Int), l, L, a, ()) = e0)) := by kernel_rfl

theorem anyO_eq (r : List Int) (l : List Node) (L : List (Int × Int)) (a : Int) : vc (EV [(80, cIdxO)]) noL Go.Proofs.Tryd.f54 cAnyO (r, l, L, a, ()) = (Small RU (Sigma.mk (Ty.slice (3 : Nat) (Ty.int IntKind.i64)) r) →
  Small RU (Sigma.mk (Ty.slice (56 : Nat) (Ty.user (0 : Nat))) l) →
  (((True ∧ a = a ∧ True) ∧ l = l ∧ True) ∧ L = L ∧ True) ∧ (decide (firstAt (outB L a) r (0 : Int) ≥ (0 : Int)), l, L, a, ()) = (List.any r (outB L a), l, L, a, ())) := by kernel_rfl

theorem gatherP_eq (l : List Node) (a : Int) (r : List Int) : vcD (EV [(49, cOpen), (53, cMust), (54, cAnyO), (57, cAt)]) cC (lGatherP l a r) Go.Proofs.Tryd.f19 cGatherR (l, a, r, ()) = (let e3 : Bool := askedOf l [a] != (0 : Int);
 let e2 : Bool := !!List.any r (outB (longOf l) a);
 let e1 : Bool := !decide ((↑(List.length r) : Int) ≤ (1048576 : Int));
 let e0 : List Int × Int × Unit := ((gatherAt l a r).fst, (gatherAt l a r).snd, ());
  Small RU (Sigma.mk (Ty.slice (56 : Nat) (Ty.user (0 : Nat))) l) →
  Small RU (Sigma.mk (Ty.slice (3 : Nat) (Ty.int IntKind.i64)) r) →
  (e3 = true → ([], askedOf l [a], ()) = e0) ∧
  (e3 = false →
  (e1 = true → ([], (3 : Int), ()) = e0) ∧
  (e1 = false →
  (((True ∧ a = a ∧ True) ∧ l = l ∧ True) ∧ longOf l = longOf l ∧ True) ∧
  (e2 = true → ([], (2 : Int), ()) = e0) ∧
  (e2 = false →
  (∃ (p : Int × List Int × Unit),
  l = l ∧
  a = a ∧
  r = r ∧
  r = r ∧
  (↑(List.length r) : Int) = (↑(List.length r) : Int) ∧
  (0 : Int) = p.fst ∧
  l = l ∧
  a = a ∧
  (0 : Int) = (0 : Int) ∧
  [a] = [a] ∧
  l = l ∧
  longOf l = longOf l ∧
  [] = p.snd.fst ∧
  (0 : Int) ≤ p.fst ∧ p.fst ≤ (↑(List.length r) : Int) ∧ p.snd.fst = List.map (fun (q : Int) => (wayAt l a q).snd) (List.take (Int.toNat p.fst) r)) ∧
  ∀ (p : Int × List Int × Unit),
 let e1 : Bool := decide (p.fst < (↑(List.length r) : Int));
 let e0_1 : Int := List.getD r (Int.toNat p.fst) (0 : Int);
  (0 : Int) ≤ p.fst ∧ p.fst ≤ (↑(List.length r) : Int) ∧ p.snd.fst = List.map (fun (q : Int) => (wayAt l a q).snd) (List.take (Int.toNat p.fst) r) →
  (e1 = true →
  ((0 : Int) ≤ p.fst ∧ p.fst < (↑(List.length r) : Int)) ∧
  ((((List.length l ≤ (4000 : Nat) ∧ validOf l = true ∧ longOf l = longOf l) ∧
  ((0 : Int) ≤ a ∧ a < (↑(List.length l) : Int)) ∧ (0 : Int) ≤ e0_1 ∧ e0_1 < at_ (lensOf l) a) ∧
  l = l ∧ True) ∧
  longOf l = longOf l ∧ True) ∧
  (List.length p.snd.fst + List.length [(wayAt l a e0_1).snd]) * (8 : Nat) ≤ (140737488355328 : Nat) ∧
  ∃ (p' : Int × List Int × Unit),
  l = l ∧
  a = a ∧
  r = r ∧
  r = r ∧
  (↑(List.length r) : Int) = (↑(List.length r) : Int) ∧
  IntKind.wrap IntKind.i64 (p.fst + (1 : Int)) = p'.fst ∧
  l = l ∧
  a = a ∧
  (0 : Int) = (0 : Int) ∧
  [a] = [a] ∧
  l = l ∧
  longOf l = longOf l ∧
  p.snd.fst ++ [(wayAt l a e0_1).snd] = p'.snd.fst ∧
  ((0 : Int) ≤ p'.fst ∧
  p'.fst ≤ (↑(List.length r) : Int) ∧ p'.snd.fst = List.map (fun (q : Int) => (wayAt l a q).snd) (List.take (Int.toNat p'.fst) r)) ∧
  List.length r - Int.toNat p'.fst < List.length r - Int.toNat p.fst) ∧
  (e1 = false → (p.snd.fst, (0 : Int), ()) = e0))))) := by kernel_rfl

theorem needed_eq (x1 x2 x3 x4 x5 x6 : Int) (w : List Int) : vc (EV []) noL Go.Proofs.Tryd.f51 cNeeded (x1, x2, x3, x4, x5, x6, w, ()) = (let e0 : Node := Node.mk x1 x2 x3 x4 x5 x6 w;
  Small RU (Sigma.mk (Ty.slice (3 : Nat) (Ty.int IntKind.i64)) w) → ((x1 == (0 : Int)) = true → (none, ()) = (needOf e0, ())) ∧ ((x1 == (0 : Int)) = false → (some e0, ()) = (needOf e0, ()))) := by kernel_rfl

theorem inner_eq (x1 x2 x3 x4 x5 x6 : Int) (w : List Int) : vc (EV []) noL Go.Proofs.Tryd.f100 cInner (x1, x2, x3, x4, x5, x6, w, ()) = (let e0 : List Int × Unit := (partsOf (Node.mk x1 x2 x3 x4 x5 x6 w), ());
  Small RU (Sigma.mk (Ty.slice (3 : Nat) (Ty.int IntKind.i64)) w) → ((x1 == (1 : Int)) = true → ([x2, x3], ()) = e0) ∧ ((x1 == (1 : Int)) = false → ([x2], ()) = e0)) := by kernel_rfl

theorem depthP_eq (l : List Node) (a : Int) : vcD (EVx invR noIt [(49, cOpen), (51, cNeeded)]) cC (lDepthP l a) Go.Proofs.Tryd.f15 cDepthR (l, a, ()) = (let e3 : Bool := askedOf l [a] != (0 : Int);
 let e2 : Int × Int × Unit := ((depthAt l a).fst, (depthAt l a).snd, ());
 let e1 : Int := IntKind.wrap IntKind.i64 (a + (1 : Int));
 let e0 : List Int := List.replicate (Int.toNat e1) (0 : Int);
  Small RU (Sigma.mk (Ty.slice (56 : Nat) (Ty.user (0 : Nat))) l) →
  (e3 = true → ((0 : Int), askedOf l [a], ()) = e2) ∧
  (e3 = false →
  ((0 : Int) ≤ e1 ∧ e1 * (↑(8 : Nat) : Int) ≤ (↑(140737488355328 : Nat) : Int)) ∧
  (∃ (p : Int × List Int × Unit),
  l = l ∧
  a = a ∧
  (0 : Int) = (0 : Int) ∧
  (↑(List.length e0) : Int) = (↑(List.length e0) : Int) ∧
  (0 : Int) = p.fst ∧
  l = l ∧
  (0 : Int) = (0 : Int) ∧
  [a] = [a] ∧
  l = l ∧
  longOf l = longOf l ∧
  e0 = p.snd.fst ∧
  (0 : Int) ≤ p.fst ∧ p.fst ≤ a + (1 : Int) ∧ p.snd.fst = depthsOf (List.take (Int.toNat p.fst) l) ++ List.replicate (Int.toNat (a + (1 : Int) - p.fst)) (0 : Int)) ∧
  ∀ (p : Int × List Int × Unit),
 let e4 : List Int := List.replicate (Int.toNat (a - p.1)) (0 : Int);
 let e3 : List Int := partsN (needOf (nat_ l p.1));
 let e2_1 : List Int := depthsOf (List.take (Int.toNat p.1) l);
 let e1 : Int := (↑(List.length e0) : Int);
 let e0 : Node := List.getD l (Int.toNat p.fst) (Node.mk (0 : Int) (0 : Int) (0 : Int) (0 : Int) (0 : Int) (0 : Int) []);
  (0 : Int) ≤ p.fst ∧ p.fst ≤ a + (1 : Int) ∧ p.snd.fst = depthsOf (List.take (Int.toNat p.fst) l) ++ List.replicate (Int.toNat (a + (1 : Int) - p.fst)) (0 : Int) →
  (decide (p.fst < e1) = true →
  ((0 : Int) ≤ p.fst ∧ p.fst < (↑(List.length l) : Int)) ∧
  True ∧
  (∃ (p_1 : Int × List Int × Unit),
  l = l ∧
  a = a ∧
  (0 : Int) = (0 : Int) ∧
  e1 = e1 ∧
  p.fst = p.fst ∧
  decide (p.fst < e1) = decide (p.fst < e1) ∧
  p.fst = p.fst ∧
  p.fst = p.fst ∧
  partsN (needOf (Node.mk e0.kind e0.a e0.b e0.from_ e0.len e0.n e0.words)) = partsN (needOf (Node.mk e0.kind e0.a e0.b e0.from_ e0.len e0.n e0.words)) ∧
  (↑(List.length (partsN (needOf (Node.mk e0.kind e0.a e0.b e0.from_ e0.len e0.n e0.words)))) : Int) =
  (↑(List.length (partsN (needOf (Node.mk e0.kind e0.a e0.b e0.from_ e0.len e0.n e0.words)))) : Int) ∧
  (0 : Int) = p_1.fst ∧
  l = l ∧
  (0 : Int) = (0 : Int) ∧
  [a] = [a] ∧
  l = l ∧
  longOf l = longOf l ∧
  p.snd.fst = p_1.snd.fst ∧
  (0 : Int) ≤ p_1.fst ∧ p_1.fst ≤ (↑(List.length e3) : Int) ∧ p_1.snd.fst = e2_1 ++ maxAt e2_1 (List.take (Int.toNat p_1.fst) e3) :: e4) ∧
  ∀ (p_1 : Int × List Int × Unit),
 let e6 : List Int := e4;
 let e5 : Int := List.getD p_1.snd.fst (Int.toNat p.fst) (0 : Int);
 let e4 : List Int := e2_1;
 let e3 : List Int := e3;
 let e2 : Int := e1;
 let e1 : Node := e0;
 let e0 : List Int := partsN (needOf (Node.mk e1.kind e1.a e1.b e1.from_ e1.len e1.n e1.words));
  (0 : Int) ≤ p_1.fst ∧ p_1.fst ≤ (↑(List.length e3) : Int) ∧ p_1.snd.fst = e4 ++ maxAt e4 (List.take (Int.toNat p_1.fst) e3) :: e6 →
  (decide (p_1.fst < (↑(List.length e0) : Int)) = true →
  ((0 : Int) ≤ p_1.fst ∧ p_1.fst < (↑(List.length e0) : Int)) ∧
  ((0 : Int) ≤ p.fst ∧ p.fst < (↑(List.length p_1.snd.fst) : Int)) ∧
  ((0 : Int) ≤ List.getD e0 (Int.toNat p_1.fst) (0 : Int) ∧ List.getD e0 (Int.toNat p_1.fst) (0 : Int) < (↑(List.length p_1.snd.fst) : Int)) ∧
  ((0 : Int) ≤ p.fst ∧ p.fst < (↑(List.length p_1.snd.fst) : Int)) ∧
  ∃ (p' : Int × List Int × Unit),
  l = l ∧
  a = a ∧
  (0 : Int) = (0 : Int) ∧
  e2 = e2 ∧
  p.fst = p.fst ∧
  decide (p.fst < e2) = decide (p.fst < e2) ∧
  p.fst = p.fst ∧
  p.fst = p.fst ∧
  e0 = e0 ∧
  (↑(List.length e0) : Int) = (↑(List.length e0) : Int) ∧
  IntKind.wrap IntKind.i64 (p_1.fst + (1 : Int)) = p'.fst ∧
  l = l ∧
  (0 : Int) = (0 : Int) ∧
  [a] = [a] ∧
  l = l ∧
  longOf l = longOf l ∧
  List.set p_1.snd.fst (Int.toNat p.fst)
  (if List.getD p_1.snd.fst (Int.toNat (List.getD e0 (Int.toNat p_1.fst) (0 : Int))) (0 : Int) > e5 then
  List.getD p_1.snd.fst (Int.toNat (List.getD e0 (Int.toNat p_1.fst) (0 : Int))) (0 : Int)
  else e5) =
  p'.snd.fst ∧
  ((0 : Int) ≤ p'.fst ∧
  p'.fst ≤ (↑(List.length e3) : Int) ∧ p'.snd.fst = e4 ++ maxAt e4 (List.take (Int.toNat p'.fst) e3) :: e6) ∧
  List.length e3 - Int.toNat p'.fst < List.length e3 - Int.toNat p_1.fst) ∧
  (decide (p_1.fst < (↑(List.length e0) : Int)) = false →
  ((0 : Int) ≤ p.fst ∧ p.fst < (↑(List.length p_1.snd.fst) : Int)) ∧
  ((0 : Int) ≤ p.fst ∧ p.fst < (↑(List.length p_1.snd.fst) : Int)) ∧
  ∃ (p' : Int × List Int × Unit),
  l = l ∧
  a = a ∧
  (0 : Int) = (0 : Int) ∧
  e2 = e2 ∧
  IntKind.wrap IntKind.i64 (p.fst + (1 : Int)) = p'.fst ∧
  l = l ∧
  (0 : Int) = (0 : Int) ∧
  [a] = [a] ∧
  l = l ∧
  longOf l = longOf l ∧
  List.set p_1.snd.fst (Int.toNat p.fst) (IntKind.wrap IntKind.i64 (e5 + (1 : Int))) = p'.snd.fst ∧
  ((0 : Int) ≤ p'.fst ∧
  p'.fst ≤ a + (1 : Int) ∧
  p'.snd.fst = depthsOf (List.take (Int.toNat p'.fst) l) ++ List.replicate (Int.toNat (a + (1 : Int) - p'.fst)) (0 : Int)) ∧
  Int.toNat (a + (1 : Int)) - Int.toNat p'.fst < Int.toNat (a + (1 : Int)) - Int.toNat p.fst)) ∧
  (decide (p.fst < e1) = false → ((0 : Int) ≤ a ∧ a < (↑(List.length p.snd.fst) : Int)) ∧ (List.getD p.snd.fst (Int.toNat a) (0 : Int), (0 : Int), ()) = e2))) := by kernel_rfl

end Go.Rp
end

section
set_option linter.unusedVariables false
set_option maxRecDepth 100000
open Go Go.VT
namespace Go.Rp

theorem checkP_eq (l : List Node) : vcD (EV [(49, cOpen)]) cC noL Go.Proofs.Tryd.f33 cCheck (l, ()) = (Small RU (Sigma.mk (Ty.slice (56 : Nat) (Ty.user (0 : Nat))) l) →
  ((askedOf l [] != (0 : Int)) = true → (askedOf l [], ()) = (checkOf l, ())) ∧ ((askedOf l [] != (0 : Int)) = false → ((0 : Int), ()) = (checkOf l, ()))) := by kernel_rfl

theorem lenP_eq (l : List Node) (a : Int) : vcD (EV [(49, cOpen)]) cC noL Go.Proofs.Tryd.f13 cLenR (l, a, ()) = (let e1 : Bool := askedOf l [a] != (0 : Int);
 let e0 : Int × Int × Unit := ((lenAt l a).fst, (lenAt l a).snd, ());
  Small RU (Sigma.mk (Ty.slice (56 : Nat) (Ty.user (0 : Nat))) l) →
  (e1 = true → ((0 : Int), askedOf l [a], ()) = e0) ∧ (e1 = false → (Option.getD (mget (fun (x y : Int) => x == y) (longOf l) a) (0 : Int), (0 : Int), ()) = e0)) := by kernel_rfl

theorem costP_eq (l : List Node) (a p : Int) : vcD (EV [(49, cOpen), (53, cMust), (56, cHas), (57, cAt)]) cC noL Go.Proofs.Tryd.f21 cCostR (l, a, p, ()) = (let e2 : Bool := askedOf l [a] != (0 : Int);
 let e1 : Bool := !(decide ((0 : Int) ≤ p) && decide (p < Option.getD (mget (fun (x y : Int) => x == y) (longOf l) a) (0 : Int)));
 let e0 : Int × Int × Unit := ((costAt l a p).fst, (costAt l a p).snd, ());
  Small RU (Sigma.mk (Ty.slice (56 : Nat) (Ty.user (0 : Nat))) l) →
  (e2 = true → ((0 : Int), askedOf l [a], ()) = e0) ∧
  (e2 = false →
  (e1 = true → ((0 : Int), (2 : Int), ()) = e0) ∧
  (e1 = false →
  ((((List.length l ≤ (4000 : Nat) ∧ validOf l = true ∧ longOf l = longOf l) ∧ ((0 : Int) ≤ a ∧ a < (↑(List.length l) : Int)) ∧ (0 : Int) ≤ p ∧ p < at_ (lensOf l) a) ∧ l = l ∧ True) ∧
  longOf l = longOf l ∧ True) ∧
  ((wayAt l a p).fst, (0 : Int), ()) = e0))) := by kernel_rfl

theorem wordsP_eq (l : List Node) (w : List Int) : vcD (EV [(49, cOpen), (53, cMust), (54, cAnyW 67), (69, cMade), (70, cClone)]) cC noL Go.Proofs.Tryd.f29 cWordsR (l, w, ()) = (let e2 : Bool := putBad l (↑(List.length w) : Int);
 let e1 : Bool := !!List.any w fun (n : den RU.T i64) => !isWord n;
 let e0 : List Node × Int × Int × Unit := ((wordsOf l w).fst, (wordsOf l w).snd.fst, (wordsOf l w).snd.snd, ());
  Small RU (Sigma.mk (Ty.slice (56 : Nat) (Ty.user (0 : Nat))) l) →
  Small RU (Sigma.mk (Ty.slice (3 : Nat) (Ty.int IntKind.i64)) w) →
  ((askedOf l [] != (0 : Int)) = true → ([], (0 : Int), askedOf l [], ()) = e0) ∧
  ((askedOf l [] != (0 : Int)) = false →
  (e1 = true → ([], (0 : Int), (2 : Int), ()) = e0) ∧
  (e1 = false →
  List.length w ≤ (17592186044416 : Nat) ∧
  (List.length l ≤ (4000000 : Nat) ∧ ∀ (x : Node), List.Mem x l → List.length x.words ≤ (4000000 : Nat)) ∧
  (e2 = true → ([], (0 : Int), (9 : Int), ()) = e0) ∧
  (e2 = false → (l ++ [Node.mk (0 : Int) (0 : Int) (0 : Int) (0 : Int) (0 : Int) (0 : Int) w], (↑(List.length l) : Int), (0 : Int), ()) = e0)))) := by kernel_rfl

theorem catP_eq (l : List Node) (a b : Int) : vcD (EV [(49, cOpen), (69, cMade)]) cC noL Go.Proofs.Tryd.f31 cCatR (l, a, b, ()) = (let e2 : Bool := askedOf l [a, b] != (0 : Int);
 let e1 : Bool := putBad l (IntKind.wrap IntKind.i64 (Option.getD (mget (fun (x y : Int) => x == y) (longOf l) a) (0 : Int) + Option.getD (mget (fun (x y : Int) => x == y) (longOf l) b) (0 : Int)));
 let e0 : List Node × Int × Int × Unit := ((catOf l a b).fst, (catOf l a b).snd.fst, (catOf l a b).snd.snd, ());
  Small RU (Sigma.mk (Ty.slice (56 : Nat) (Ty.user (0 : Nat))) l) →
  (e2 = true → ([], (0 : Int), askedOf l [a, b], ()) = e0) ∧
  (e2 = false →
  (List.length l ≤ (4000000 : Nat) ∧ ∀ (x : Node), List.Mem x l → List.length x.words ≤ (4000000 : Nat)) ∧
  (e1 = true → ([], (0 : Int), (9 : Int), ()) = e0) ∧ (e1 = false → (l ++ [Node.mk (1 : Int) a b (0 : Int) (0 : Int) (0 : Int) []], (↑(List.length l) : Int), (0 : Int), ()) = e0))) := by kernel_rfl

theorem partP_eq (l : List Node) (a b c : Int) : vcD (EV [(49, cOpen), (53, cMust), (69, cMade)]) cC noL Go.Proofs.Tryd.f35 cPartR (l, a, b, c, ()) = (let e4 : Bool := askedOf l [a] != (0 : Int);
 let e3 : Int × Int := (partOf l a b c).snd;
 let e2 : Int := Option.getD (mget (fun (x y : Int) => x == y) (longOf l) a) (0 : Int);
 let e1 : Bool := !(decide (c ≥ (0 : Int)) && decide (c ≤ e2) && decide (b ≥ (0 : Int)) && decide (b ≤ IntKind.wrap IntKind.i64 (e2 - c)));
 let e0 : List Node × Int × Int × Unit := ((partOf l a b c).fst, e3.fst, e3.snd, ());
  Small RU (Sigma.mk (Ty.slice (56 : Nat) (Ty.user (0 : Nat))) l) →
  (e4 = true → ([], (0 : Int), askedOf l [a], ()) = e0) ∧
  (e4 = false →
  (e1 = true → ([], (0 : Int), (2 : Int), ()) = e0) ∧
  (e1 = false →
  (List.length l ≤ (4000000 : Nat) ∧ ∀ (x : Node), List.Mem x l → List.length x.words ≤ (4000000 : Nat)) ∧
  (putBad l c = true → ([], (0 : Int), (9 : Int), ()) = e0) ∧ (putBad l c = false → (l ++ [Node.mk (2 : Int) a (0 : Int) b c (0 : Int) []], (↑(List.length l) : Int), (0 : Int), ()) = e0)))) := by kernel_rfl

theorem offP_eq (l : List Node) (a b : Int) : vcD (EV [(49, cOpen), (53, cMust), (68, cIsW), (69, cMade)]) cC noL Go.Proofs.Tryd.f37 cOffR (l, a, b, ()) = (let e2 : Bool := askedOf l [a] != (0 : Int);
 let e1 : Bool := putBad l (Option.getD (mget (fun (x y : Int) => x == y) (longOf l) a) (0 : Int));
 let e0 : List Node × Int × Int × Unit := ((offOf l a b).fst, (offOf l a b).snd.fst, (offOf l a b).snd.snd, ());
  Small RU (Sigma.mk (Ty.slice (56 : Nat) (Ty.user (0 : Nat))) l) →
  (e2 = true → ([], (0 : Int), askedOf l [a], ()) = e0) ∧
  (e2 = false →
  ((!isWord b) = true → ([], (0 : Int), (2 : Int), ()) = e0) ∧
  ((!isWord b) = false →
  (List.length l ≤ (4000000 : Nat) ∧ ∀ (x : Node), List.Mem x l → List.length x.words ≤ (4000000 : Nat)) ∧
  (e1 = true → ([], (0 : Int), (9 : Int), ()) = e0) ∧ (e1 = false → (l ++ [Node.mk (3 : Int) a (0 : Int) (0 : Int) (0 : Int) b []], (↑(List.length l) : Int), (0 : Int), ()) = e0)))) := by kernel_rfl

end Go.Rp
end

section
set_option linter.unusedVariables false
set_option maxRecDepth 100000
open Go Go.VT
namespace Go.Rp

theorem clone_eq (l : List Int) : vc (EV []) noL Go.Proofs.Tryd.f70 cClone (l, ()) = (Small RU (Sigma.mk (Ty.slice (3 : Nat) (Ty.int IntKind.i64)) l) →
  ∀ (b : Bool),
 let e0 : Bool := bif true then b else !b;
  (b = true → l = []) → (e0 = true → ([], ()) = (l, ())) ∧ (e0 = false → ((0 : Nat) + List.length l) * (8 : Nat) ≤ (140737488355328 : Nat) ∧ ([] ++ l, ()) = (l, ()))) := by kernel_rfl

theorem ownS_eq (l : List Node) (L : List (Int × Int)) : vc (EV [(70, cClone)]) (lOwnS l) Go.Proofs.Tryd.f59 cOwnS (l, L, ()) = (let e1 : Node := Node.mk (0 : Int) (0 : Int) (0 : Int) (0 : Int) (0 : Int) (0 : Int) [];
 let e0 : List Node := List.take (List.length (List.replicate (Int.toNat (↑(List.length l) : Int)) e1)) l ++ List.drop (List.length l) (List.replicate (Int.toNat (↑(List.length l) : Int)) e1);
  Small RU (Sigma.mk (Ty.slice (56 : Nat) (Ty.user (0 : Nat))) l) →
  ((0 : Int) ≤ (↑(List.length l) : Int) ∧ (↑(List.length l) : Int) * (↑(72 : Nat) : Int) ≤ (↑(140737488355328 : Nat) : Int)) ∧
  (∃ (p : Int × List Node × Unit),
  (↑(List.length e0) : Int) = (↑(List.length e0) : Int) ∧ (0 : Int) = p.fst ∧ l = l ∧ L = L ∧ e0 = p.snd.fst ∧ (0 : Int) ≤ p.fst ∧ p.fst ≤ (↑(List.length l) : Int) ∧ p.snd.fst = l) ∧
  ∀ (p : Int × List Node × Unit),
 let e0 : Node := e1;
  (0 : Int) ≤ p.fst ∧ p.fst ≤ (↑(List.length l) : Int) ∧ p.snd.fst = l →
  (decide
  (p.fst <
  (↑(List.length
  (List.take (List.length (List.replicate (Int.toNat (↑(List.length l) : Int)) e0)) l ++ List.drop (List.length l) (List.replicate (Int.toNat (↑(List.length l) : Int)) e0))) :
  Int)) =
  true →
  ((0 : Int) ≤ p.fst ∧ p.fst < (↑(List.length p.snd.fst) : Int)) ∧
  List.length (List.getD p.snd.fst (Int.toNat p.fst) e0).words ≤ (17592186044416 : Nat) ∧
  ((0 : Int) ≤ p.fst ∧ p.fst < (↑(List.length p.snd.fst) : Int)) ∧
  ∃ (p' : Int × List Node × Unit),
  (↑(List.length
  (List.take (List.length (List.replicate (Int.toNat (↑(List.length l) : Int)) e0)) l ++
  List.drop (List.length l) (List.replicate (Int.toNat (↑(List.length l) : Int)) e0))) :
  Int) =
  (↑(List.length
  (List.take (List.length (List.replicate (Int.toNat (↑(List.length l) : Int)) e0)) l ++
  List.drop (List.length l) (List.replicate (Int.toNat (↑(List.length l) : Int)) e0))) :
  Int) ∧
  IntKind.wrap IntKind.i64 (p.fst + (1 : Int)) = p'.fst ∧
  l = l ∧
  L = L ∧
  List.set p.snd.fst (Int.toNat p.fst)
  (Node.mk (List.getD p.snd.fst (Int.toNat p.fst) e0).kind (List.getD p.snd.fst (Int.toNat p.fst) e0).a (List.getD p.snd.fst (Int.toNat p.fst) e0).b
  (List.getD p.snd.fst (Int.toNat p.fst) e0).from_ (List.getD p.snd.fst (Int.toNat p.fst) e0).len (List.getD p.snd.fst (Int.toNat p.fst) e0).n
  (List.getD p.snd.fst (Int.toNat p.fst) e0).words) =
  p'.snd.fst ∧
  ((0 : Int) ≤ p'.fst ∧ p'.fst ≤ (↑(List.length l) : Int) ∧ p'.snd.fst = l) ∧ List.length l - Int.toNat p'.fst < List.length l - Int.toNat p.fst) ∧
  (decide
  (p.fst <
  (↑(List.length
  (List.take (List.length (List.replicate (Int.toNat (↑(List.length l) : Int)) e0)) l ++ List.drop (List.length l) (List.replicate (Int.toNat (↑(List.length l) : Int)) e0))) :
  Int)) =
  false →
  (p.snd.fst, L, ()) = (l, L, ()))) := by kernel_rfl

theorem put_eq (l : List Node) (L : List (Int × Int)) (x1 x2 x3 x4 x5 x6 : Int) (w : List Int) (long : Int) : vc (EV [(53, cMust)]) noL Go.Proofs.Tryd.f60 cPut (l, L, x1, x2, x3, x4, x5, x6, w, long, ()) = (let e1 : Bool := !(decide ((↑(List.length l) : Int) < (4000 : Int)) && decide (long ≤ (1048576 : Int)));
 let e0 : List Node := [Node.mk x1 x2 x3 x4 x5 x6 w];
  Small RU (Sigma.mk (Ty.slice (3 : Nat) (Ty.int IntKind.i64)) w) →
  Small RU (Sigma.mk (Ty.slice (56 : Nat) (Ty.user (0 : Nat))) l) →
  (e1 = true → putBad l long = true ∧ (9 : Int) = (9 : Int) ∧ True) ∧
  (e1 = false →
  (List.length l + List.length e0) * (72 : Nat) ≤ (140737488355328 : Nat) ∧
  putBad l long = false ∧ ((↑(List.length l) : Int), l ++ e0, mput (fun (x y : Int) => x == y) L (↑(List.length l) : Int) long, ()) = ((↑(List.length l) : Int), l ++ e0, putL l L long, ()))) := by kernel_rfl

theorem made_eq (l : List Node) (L : List (Int × Int)) (x1 x2 x3 x4 x5 x6 : Int) (w : List Int) (long : Int) : vc (EV [(59, cOwnS), (60, cPut)]) noL Go.Proofs.Tryd.f69 cMade (l, L, x1, x2, x3, x4, x5, x6, w, long, ()) = (let e0 : List Node × Int × Int × List (Int × Int) × Unit := (l ++ [Node.mk x1 x2 x3 x4 x5 x6 w], (↑(List.length l) : Int), (0 : Int), putL l L long, ());
  Small RU (Sigma.mk (Ty.slice (3 : Nat) (Ty.int IntKind.i64)) w) →
  Small RU (Sigma.mk (Ty.slice (56 : Nat) (Ty.user (0 : Nat))) l) →
  (List.length l ≤ (4000000 : Nat) ∧ ∀ (x : Node), List.Mem x l → List.length x.words ≤ (4000000 : Nat)) ∧
  (putBad l long = true → putBad l long = true ∧ (9 : Int) = (9 : Int) ∧ True) ∧ (putBad l long = false → putBad l long = false ∧ e0 = e0)) := by kernel_rfl

theorem at_eq (l : List Node) (L : List (Int × Int)) (a p : Int) : vc (EV []) (lAt l a p) Go.Proofs.Tryd.f57 cAt (l, L, a, p, ()) = (Small RU (Sigma.mk (Ty.slice (56 : Nat) (Ty.user (0 : Nat))) l) →
  (∃ (p_1 : Int × Int × Int × Int × Unit),
  a = p_1.fst ∧
  p = p_1.snd.fst ∧
  (0 : Int) = p_1.snd.snd.fst ∧
  (1 : Int) = p_1.snd.snd.snd.fst ∧
  l = l ∧
  L = L ∧
  ((0 : Int) ≤ p_1.fst ∧ p_1.fst ≤ a) ∧
  ((0 : Int) ≤ p_1.snd.fst ∧ p_1.snd.fst < at_ (lensOf l) p_1.fst) ∧
  ((1 : Int) ≤ p_1.snd.snd.snd.fst ∧ p_1.snd.snd.snd.fst ≤ (1 : Int) + a - p_1.fst) ∧
  (isWord p_1.snd.snd.fst = true ∧ (wayAt l a p).snd = word (w64 ((wayAt l p_1.fst p_1.snd.fst).snd + p_1.snd.snd.fst))) ∧
  (wayAt l a p).fst = p_1.snd.snd.snd.fst - (1 : Int) + (wayAt l p_1.fst p_1.snd.fst).fst) ∧
  ∀ (p_1 : Int × Int × Int × Int × Unit),
 let e4 : Int × Int := wayAt l p_1.fst p_1.snd.fst;
 let e3 : Int := (wayAt l a p).snd;
 let e2 : Int := (wayAt l a p).fst;
 let e1 : Int := IntKind.wrap IntKind.i64 (p_1.snd.snd.snd.fst + (1 : Int));
 let e0 : Node := List.getD l (Int.toNat p_1.fst) (Node.mk (0 : Int) (0 : Int) (0 : Int) (0 : Int) (0 : Int) (0 : Int) []);
  ((0 : Int) ≤ p_1.fst ∧ p_1.fst ≤ a) ∧
  ((0 : Int) ≤ p_1.snd.fst ∧ p_1.snd.fst < at_ (lensOf l) p_1.fst) ∧
  ((1 : Int) ≤ p_1.snd.snd.snd.fst ∧ p_1.snd.snd.snd.fst ≤ (1 : Int) + a - p_1.fst) ∧
  (isWord p_1.snd.snd.fst = true ∧ e3 = word (w64 (e4.snd + p_1.snd.snd.fst))) ∧ e2 = p_1.snd.snd.snd.fst - (1 : Int) + e4.fst →
  ((0 : Int) ≤ p_1.fst ∧ p_1.fst < (↑(List.length l) : Int)) ∧
  ((e0.kind == (0 : Int)) = true →
  ((0 : Int) ≤ p_1.snd.fst ∧ p_1.snd.fst < (↑(List.length e0.words) : Int)) ∧
  (IntKind.wrap IntKind.i64 (IntKind.wrap IntKind.i32 (IntKind.wrap IntKind.i64 (List.getD e0.words (Int.toNat p_1.snd.fst) (0 : Int) + p_1.snd.snd.fst))), p_1.snd.snd.snd.fst, l, L,
  ()) =
  (e3, e2, l, L, ())) ∧
  ((e0.kind == (0 : Int)) = false →
  ((e0.kind == (2 : Int)) = true →
  ∃ (p' : Int × Int × Int × Int × Unit),
  e0.a = p'.fst ∧
  IntKind.wrap IntKind.i64 (p_1.snd.fst + e0.from_) = p'.snd.fst ∧
  p_1.snd.snd.fst = p'.snd.snd.fst ∧
  e1 = p'.snd.snd.snd.fst ∧
  l = l ∧
  L = L ∧
  (((0 : Int) ≤ p'.fst ∧ p'.fst ≤ a) ∧
  ((0 : Int) ≤ p'.snd.fst ∧ p'.snd.fst < at_ (lensOf l) p'.fst) ∧
  ((1 : Int) ≤ p'.snd.snd.snd.fst ∧ p'.snd.snd.snd.fst ≤ (1 : Int) + a - p'.fst) ∧
  (isWord p'.snd.snd.fst = true ∧ e3 = word (w64 ((wayAt l p'.fst p'.snd.fst).snd + p'.snd.snd.fst))) ∧
  e2 = p'.snd.snd.snd.fst - (1 : Int) + (wayAt l p'.fst p'.snd.fst).fst) ∧
  Int.toNat p'.fst < Int.toNat p_1.fst) ∧
  ((e0.kind == (2 : Int)) = false →
  ((e0.kind == (3 : Int)) = true →
  ∃ (p' : Int × Int × Int × Int × Unit),
  e0.a = p'.fst ∧
  p_1.snd.fst = p'.snd.fst ∧
  IntKind.wrap IntKind.i64 (IntKind.wrap IntKind.i32 (IntKind.wrap IntKind.i64 (p_1.snd.snd.fst + e0.n))) = p'.snd.snd.fst ∧
  e1 = p'.snd.snd.snd.fst ∧
  l = l ∧
  L = L ∧
  (((0 : Int) ≤ p'.fst ∧ p'.fst ≤ a) ∧
  ((0 : Int) ≤ p'.snd.fst ∧ p'.snd.fst < at_ (lensOf l) p'.fst) ∧
  ((1 : Int) ≤ p'.snd.snd.snd.fst ∧ p'.snd.snd.snd.fst ≤ (1 : Int) + a - p'.fst) ∧
  (isWord p'.snd.snd.fst = true ∧ e3 = word (w64 ((wayAt l p'.fst p'.snd.fst).snd + p'.snd.snd.fst))) ∧
  e2 = p'.snd.snd.snd.fst - (1 : Int) + (wayAt l p'.fst p'.snd.fst).fst) ∧
  Int.toNat p'.fst < Int.toNat p_1.fst) ∧
  ((e0.kind == (3 : Int)) = false →
  (decide (p_1.snd.fst < Option.getD (mget (fun (x y : Int) => x == y) L e0.a) (0 : Int)) = true →
  ∃ (p' : Int × Int × Int × Int × Unit),
  e0.a = p'.fst ∧
  p_1.snd.fst = p'.snd.fst ∧
  p_1.snd.snd.fst = p'.snd.snd.fst ∧
  e1 = p'.snd.snd.snd.fst ∧
  l = l ∧
  L = L ∧
  (((0 : Int) ≤ p'.fst ∧ p'.fst ≤ a) ∧
  ((0 : Int) ≤ p'.snd.fst ∧ p'.snd.fst < at_ (lensOf l) p'.fst) ∧
  ((1 : Int) ≤ p'.snd.snd.snd.fst ∧ p'.snd.snd.snd.fst ≤ (1 : Int) + a - p'.fst) ∧
  (isWord p'.snd.snd.fst = true ∧ e3 = word (w64 ((wayAt l p'.fst p'.snd.fst).snd + p'.snd.snd.fst))) ∧
  e2 = p'.snd.snd.snd.fst - (1 : Int) + (wayAt l p'.fst p'.snd.fst).fst) ∧
  Int.toNat p'.fst < Int.toNat p_1.fst) ∧
  (decide (p_1.snd.fst < Option.getD (mget (fun (x y : Int) => x == y) L e0.a) (0 : Int)) = false →
  ∃ (p' : Int × Int × Int × Int × Unit),
  e0.b = p'.fst ∧
  IntKind.wrap IntKind.i64 (p_1.snd.fst - Option.getD (mget (fun (x y : Int) => x == y) L e0.a) (0 : Int)) = p'.snd.fst ∧
  p_1.snd.snd.fst = p'.snd.snd.fst ∧
  e1 = p'.snd.snd.snd.fst ∧
  l = l ∧
  L = L ∧
  (((0 : Int) ≤ p'.fst ∧ p'.fst ≤ a) ∧
  ((0 : Int) ≤ p'.snd.fst ∧ p'.snd.fst < at_ (lensOf l) p'.fst) ∧
  ((1 : Int) ≤ p'.snd.snd.snd.fst ∧ p'.snd.snd.snd.fst ≤ (1 : Int) + a - p'.fst) ∧
  (isWord p'.snd.snd.fst = true ∧ e3 = word (w64 ((wayAt l p'.fst p'.snd.fst).snd + p'.snd.snd.fst))) ∧
  e2 = p'.snd.snd.snd.fst - (1 : Int) + (wayAt l p'.fst p'.snd.fst).fst) ∧
  Int.toNat p'.fst < Int.toNat p_1.fst))))) := by kernel_rfl

end Go.Rp
end

section
set_option linter.unusedVariables false
set_option maxRecDepth 100000
open Go Go.VT
namespace Go.Rp

theorem open_eq (l : List Node) (r : List Int) : vc (EVt tabR [(53, cMust), (56, cHas)]) (lOpen l r) Go.Proofs.Tryd.f49 cOpen (l, r, ()) = (let e1 : Bool := !decide ((↑(List.length l) : Int) ≤ (4000 : Int));
 let e0 : Value := Value.pointer none;
  Small RU (Sigma.mk (Ty.slice (56 : Nat) (Ty.user (0 : Nat))) l) →
  Small RU (Sigma.mk (Ty.slice (3 : Nat) (Ty.int IntKind.i64)) r) →
  (e1 = true → (askedOf l r != (0 : Int)) = true ∧ askedOf l r = (3 : Int) ∧ True) ∧
  (e1 = false →
  (∃ (p : Int × List (Int × Int) × Unit),
  l = l ∧
  r = r ∧
  e0 = e0 ∧
  l = l ∧
  (↑(List.length l) : Int) = (↑(List.length l) : Int) ∧
  (0 : Int) = p.fst ∧
  l = l ∧
  [] = p.snd.fst ∧
  l = l ∧
  (0 : Int) ≤ p.fst ∧ p.fst ≤ (↑(List.length l) : Int) ∧ (∀ (i : Nat), i < Int.toNat p.fst → stepOk l i = true) ∧ p.snd.fst = longOf (List.take (Int.toNat p.fst) l)) ∧
  ∀ (p : Int × List (Int × Int) × Unit),
 let e3 : Value := e0;
 let e2 : Bool := decide (p.fst < (↑(List.length l) : Int));
 let e1 : Node := List.getD l (Int.toNat p.fst) node0;
 let e0 : Int := (List.getD l (Int.toNat p.fst) (Node.mk (0 : Int) (0 : Int) (0 : Int) (0 : Int) (0 : Int) (0 : Int) [])).kind;
  (0 : Int) ≤ p.fst ∧ p.fst ≤ (↑(List.length l) : Int) ∧ (∀ (i : Nat), i < Int.toNat p.fst → stepOk l i = true) ∧ p.snd.fst = longOf (List.take (Int.toNat p.fst) l) →
  (e2 = true →
  ((0 : Int) ≤ p.fst ∧ p.fst < (↑(List.length l) : Int)) ∧
  ((!(decide (e0 ≥ (0 : Int)) && decide (e0 < (4 : Int)))) = true → (askedOf l r != (0 : Int)) = true ∧ askedOf l r = (1 : Int) ∧ True) ∧
  ((!(decide (e0 ≥ (0 : Int)) && decide (e0 < (4 : Int)))) = false →
  ((0 : Int) ≤ e0 ∧ e0 < (↑(4 : Nat) : Int)) ∧
  ((0 : Int) ≤ e0 ∧ e0 < (↑(4 : Nat) : Int)) ∧
  ((((0 : Int) ≤ p.fst ∧ p.fst < (↑(List.length l) : Int)) ∧ l = l ∧ True) ∧ p.snd.fst = p.snd.fst ∧ True) ∧
  ((if e0 ≤ (0 : Int) then !okWords e1 else if e0 = (1 : Int) then !okCat e1 p.fst else if e0 = (2 : Int) then !okPart e1 p.snd.fst p.fst else !okOff e1 p.fst) = true →
  (askedOf l r != (0 : Int)) = true ∧ askedOf l r = (1 : Int) ∧ True) ∧
  ((if e0 ≤ (0 : Int) then !okWords e1 else if e0 = (1 : Int) then !okCat e1 p.fst else if e0 = (2 : Int) then !okPart e1 p.snd.fst p.fst else !okOff e1 p.fst) = false →
  ((!decide
  (Option.getD
  (mget (fun (x y : Int) => x == y)
  (mput (fun (x y : Int) => x == y) p.snd.fst p.fst
  (if e0 ≤ (0 : Int) then (↑(List.length e1.words) : Int)
  else
  if e0 = (1 : Int) then IntKind.wrap IntKind.i64 (lg p.snd.fst e1.a + lg p.snd.fst e1.b)
  else if e0 = (2 : Int) then e1.len else lg p.snd.fst e1.a))
  p.fst)
  (0 : Int) ≤
  (1048576 : Int))) =
  true →
  (askedOf l r != (0 : Int)) = true ∧ askedOf l r = (1 : Int) ∧ True) ∧
  ((!decide
  (Option.getD
  (mget (fun (x y : Int) => x == y)
  (mput (fun (x y : Int) => x == y) p.snd.fst p.fst
  (if e0 ≤ (0 : Int) then (↑(List.length e1.words) : Int)
  else
  if e0 = (1 : Int) then IntKind.wrap IntKind.i64 (lg p.snd.fst e1.a + lg p.snd.fst e1.b)
  else if e0 = (2 : Int) then e1.len else lg p.snd.fst e1.a))
  p.fst)
  (0 : Int) ≤
  (1048576 : Int))) =
  false →
  ∃ (p' : Int × List (Int × Int) × Unit),
  l = l ∧
  r = r ∧
  e3 = e3 ∧
  l = l ∧
  (↑(List.length l) : Int) = (↑(List.length l) : Int) ∧
  IntKind.wrap IntKind.i64 (p.fst + (1 : Int)) = p'.fst ∧
  l = l ∧
  mput (fun (x y : Int) => x == y) p.snd.fst p.fst
  (if e0 ≤ (0 : Int) then (↑(List.length e1.words) : Int)
  else
  if e0 = (1 : Int) then IntKind.wrap IntKind.i64 (lg p.snd.fst e1.a + lg p.snd.fst e1.b)
  else if e0 = (2 : Int) then e1.len else lg p.snd.fst e1.a) =
  p'.snd.fst ∧
  l = l ∧
  ((0 : Int) ≤ p'.fst ∧
  p'.fst ≤ (↑(List.length l) : Int) ∧
  (∀ (i : Nat), i < Int.toNat p'.fst → stepOk l i = true) ∧ p'.snd.fst = longOf (List.take (Int.toNat p'.fst) l)) ∧
  List.length l - Int.toNat p'.fst < List.length l - Int.toNat p.fst)))) ∧
  (e2 = false →
  (∃ (p_1 : Int × Unit),
  l = l ∧
  r = r ∧
  e3 = e3 ∧
  l = l ∧
  (↑(List.length l) : Int) = (↑(List.length l) : Int) ∧
  p.fst = p.fst ∧
  e2 = e2 ∧
  r = r ∧
  (↑(List.length r) : Int) = (↑(List.length r) : Int) ∧
  (0 : Int) = p_1.fst ∧
  l = l ∧
  p.snd.fst = p.snd.fst ∧
  l = l ∧
  (0 : Int) ≤ p_1.fst ∧
  p_1.fst ≤ (↑(List.length r) : Int) ∧
  ∀ (i : Nat), i < Int.toNat p_1.fst → lies (List.getD r i (0 : Int)) (0 : Int) ((↑(List.length l) : Int) - (1 : Int)) = true) ∧
  ∀ (p_1 : Int × Unit),
 let e4 : Value := e3;
 let e3 : Int := List.getD r (Int.toNat p_1.fst) (0 : Int);
 let e2_1 : Bool := decide (p_1.fst < (↑(List.length r) : Int));
 let e1 : Bool := e2;
 let e0 : Bool := !(decide ((0 : Int) ≤ e3) && decide (e3 < (↑(List.length l) : Int)));
  ((0 : Int) ≤ p_1.fst ∧
  p_1.fst ≤ (↑(List.length r) : Int) ∧ ∀ (i : Nat), i < Int.toNat p_1.fst → lies (List.getD r i (0 : Int)) (0 : Int) ((↑(List.length l) : Int) - (1 : Int)) = true) →
  (e2_1 = true →
  ((0 : Int) ≤ p_1.fst ∧ p_1.fst < (↑(List.length r) : Int)) ∧
  (e0 = true → (askedOf l r != (0 : Int)) = true ∧ askedOf l r = (2 : Int) ∧ True) ∧
  (e0 = false →
  ∃ (p' : Int × Unit),
  l = l ∧
  r = r ∧
  e4 = e4 ∧
  l = l ∧
  (↑(List.length l) : Int) = (↑(List.length l) : Int) ∧
  p.fst = p.fst ∧
  e1 = e1 ∧
  r = r ∧
  (↑(List.length r) : Int) = (↑(List.length r) : Int) ∧
  IntKind.wrap IntKind.i64 (p_1.fst + (1 : Int)) = p'.fst ∧
  l = l ∧
  p.snd.fst = p.snd.fst ∧
  l = l ∧
  ((0 : Int) ≤ p'.fst ∧
  p'.fst ≤ (↑(List.length r) : Int) ∧
  ∀ (i : Nat), i < Int.toNat p'.fst → lies (List.getD r i (0 : Int)) (0 : Int) ((↑(List.length l) : Int) - (1 : Int)) = true) ∧
  List.length r - Int.toNat p'.fst < List.length r - Int.toNat p_1.fst)) ∧
  (e2_1 = false → (askedOf l r != (0 : Int)) = false ∧ (l, p.snd.fst, ()) = (l, longOf l, ()))))) := by kernel_rfl

end Go.Rp
end

section
set_option linter.unusedVariables false
set_option maxRecDepth 100000
open Go Go.VT
namespace Go.Rp

theorem equal_eq (l m : List Int) : vc (EV []) (lEqual l m) Go.Proofs.Tryd.f23 cEqual (l, m, ()) = (let e0 : Bool := decide (List.length l = List.length m);
  Small RU (Sigma.mk (Ty.slice (3 : Nat) (Ty.int IntKind.i64)) l) →
  Small RU (Sigma.mk (Ty.slice (3 : Nat) (Ty.int IntKind.i64)) m) →
  (∃ (p : Int × Bool × Unit),
  l = l ∧
  m = m ∧
  false = false ∧
  (0 : Int) = p.fst ∧
  ((↑(List.length l) : Int) == (↑(List.length m) : Int)) = p.snd.fst ∧
  (0 : Int) ≤ p.fst ∧ p.fst ≤ (↑(List.length l) : Int) ∧ p.snd.fst = (e0 && decide (List.take (Int.toNat p.fst) l = List.take (Int.toNat p.fst) m))) ∧
  ∀ (p : Int × Bool × Unit),
 let e1 : Bool := e0;
 let e0 : Bool := p.snd.fst && decide (p.fst < (↑(List.length l) : Int));
  (0 : Int) ≤ p.fst ∧ p.fst ≤ (↑(List.length l) : Int) ∧ p.snd.fst = (e1 && decide (List.take (Int.toNat p.fst) l = List.take (Int.toNat p.fst) m)) →
  (e0 = true →
  ((0 : Int) ≤ p.fst ∧ p.fst < (↑(List.length l) : Int)) ∧
  ((0 : Int) ≤ p.fst ∧ p.fst < (↑(List.length m) : Int)) ∧
  ∃ (p' : Int × Bool × Unit),
  l = l ∧
  m = m ∧
  false = false ∧
  IntKind.wrap IntKind.i64 (p.fst + (1 : Int)) = p'.fst ∧
  (List.getD l (Int.toNat p.fst) (0 : Int) == List.getD m (Int.toNat p.fst) (0 : Int)) = p'.snd.fst ∧
  ((0 : Int) ≤ p'.fst ∧ p'.fst ≤ (↑(List.length l) : Int) ∧ p'.snd.fst = (e1 && decide (List.take (Int.toNat p'.fst) l = List.take (Int.toNat p'.fst) m))) ∧
  List.length l - Int.toNat p'.fst < List.length l - Int.toNat p.fst) ∧
  (e0 = false → (p.snd.fst, ()) = (decide (l = m), ()))) := by kernel_rfl

end Go.Rp
end

section
set_option linter.unusedVariables false
set_option linter.unusedSimpArgs false
set_option maxRecDepth 100000
namespace Go.Rp
open Go Go.VT

theorem w64_id {n : Int} (h1 : -9223372036854775808 ≤ n) (h2 : n < 9223372036854775808) : IntKind.i64.wrap n = n := by rw [IntKind.wrap_i64]; omega

theorem take_succ_getD {α : Type} {l : List α} {i : Nat} (h : i < l.length) (d : α) : l.take (i + 1) = l.take i ++ [l.getD i d] := by
  rw [List.take_succ_eq_append_getElem h]
  simp [List.getD, List.getElem?_eq_getElem h]

theorem equal_vc (l m : List Int) : vc (EV []) (lEqual l m) Go.Proofs.Tryd.f23 cEqual (l, m, ()) := (equal_eq l m).mpr (by
  intro e hs1 hs2
  have hl1 := hs1.len
  have hl2 := hs2.len
  simp only [most] at hl1 hl2
  refine ⟨⟨(0, decide (l.length = m.length), ()), rfl, rfl, rfl, rfl, ?_, Int.le_refl _, by dsimp only; omega, by simp [e]⟩, ?_⟩
  · rw [Bool.eq_iff_iff]; simp; omega
  rintro ⟨i, b, ⟨⟩⟩ e1 e0 ⟨h0, h1, h2⟩
  dsimp only [e1, e, e0] at h0 h1 h2 ⊢
  obtain ⟨k, rfl⟩ := Int.eq_ofNat_of_zero_le h0
  clear e0 e1
  simp only [Int.toNat_natCast] at h2 ⊢
  have h2' : b = true ↔ (l.length = m.length ∧ l.take k = m.take k) := by rw [h2]; simp
  refine ⟨fun hb => ?_, fun hb => ?_⟩
  · simp only [Bool.and_eq_true, decide_eq_true_eq] at hb
    obtain ⟨hb, hlt⟩ := hb
    obtain ⟨hlen, htk⟩ := h2'.1 hb
    refine ⟨⟨h0, hlt⟩, ⟨h0, by omega⟩, ((k + 1 : Nat), decide (l.getD k 0 = m.getD k 0), ()), by trivial, by trivial, by trivial, ?_, ?_, ⟨by omega, by dsimp only; omega, ?_⟩, by dsimp only; omega⟩
    · rw [w64_id (by omega) (by omega)]; rfl
    · rw [Bool.eq_iff_iff]; simp
    · dsimp only
      rw [Int.toNat_natCast, take_succ_getD (by omega : k < l.length) 0, take_succ_getD (by omega : k < m.length) 0, htk]
      simp [hlen]
  · have : b = decide (l = m) := by
      rw [Bool.eq_iff_iff, h2', decide_eq_true_eq]
      simp only [Bool.and_eq_false_iff, decide_eq_false_iff_not] at hb
      constructor
      · rintro ⟨h3, h4⟩
        have hk : k = l.length := by
          rcases hb with hb | hb
          · exact absurd (h2'.2 ⟨h3, h4⟩) (by simp [hb])
          · omega
        subst hk
        rw [List.take_length] at h4
        rw [h3, List.take_length] at h4
        exact h4
      · rintro rfl
        exact ⟨rfl, rfl⟩
    rw [this])
theorem equal_gives : Gives prog RG 23 cEqual := gives allNil (fun p => lEqual p.1 p.2.1) (by kernel_rfl) (by kernel_rfl) (by kernel_rfl) fun (l, m, ()) _ => equal_vc l m

end Go.Rp
end

section
set_option linter.unusedVariables false
set_option linter.unusedSimpArgs false
set_option maxRecDepth 100000
namespace Go.Rp
open Go Go.VT

theorem lensOf_snoc (l : List Node) (x : Node) : lensOf (l ++ [x]) = lensOf l ++ [lenOf (lensOf l) x] := by simp [lensOf]
theorem lensOf_length (l : List Node) : (lensOf l).length = l.length := by
  have : ∀ (l : List Node) (out : List Int), (l.foldl (fun out x => out ++ [lenOf out x]) out).length = out.length + l.length := by
    intro l
    induction l with
    | nil => intro out; rfl
    | cons x l ih => intro out; rw [List.foldl_cons, ih]; simp; omega
  unfold lensOf
  simpa using this l []

theorem fieldsAll_iff (l : List Node) : fieldsAll l = true ↔ ∀ i : Nat, i < l.length → fieldsOf (l.getD i node0) i = true := by simp [fieldsAll]

theorem lies_iff {n lo hi : Int} : lies n lo hi = true ↔ lo ≤ n ∧ n ≤ hi := by simp [lies]

theorem fields_ahead {x : Node} {i : Nat} (h : fieldsOf x i = true) : ahead x i := by
  unfold fieldsOf at h
  refine ⟨fun hk => ?_, fun h0 h1 h2 => ?_⟩
  · rw [if_neg (by omega), if_pos hk] at h
    simp only [Bool.and_eq_true, lies_iff] at h
    omega
  · rw [if_neg h0, if_neg h1, if_neg h2] at h
    split at h
    · simp only [Bool.and_eq_true, lies_iff] at h
      omega
    · cases h

theorem fields_a {x : Node} {i : Nat} (h : fieldsOf x i = true) (hk : x.kind ≠ 0) : 0 ≤ x.a ∧ x.a < i := by
  unfold fieldsOf at h
  rw [if_neg hk] at h
  split at h
  · simp only [Bool.and_eq_true, lies_iff] at h; omega
  · split at h
    · simp only [Bool.and_eq_true, lies_iff] at h; omega
    · split at h
      · simp only [Bool.and_eq_true, lies_iff] at h; omega
      · cases h

end Go.Rp
end

section
set_option linter.unusedVariables false
set_option linter.unusedSimpArgs false
set_option maxRecDepth 100000
namespace Go.Rp
open Go Go.VT

theorem asked_ok {l : List Node} {r : List Int} (h : askedOf l r = 0) : l.length ≤ 4000 ∧ validOf l = true ∧ ∀ x ∈ r, 0 ≤ x ∧ x < l.length := by
  unfold askedOf at h
  split at h
  · rename_i hc; exact absurd h hc
  · rename_i hc
    have hc : checkOf l = 0 := by simpa using hc
    unfold checkOf at hc
    split at hc
    · cases hc
    · split at hc
      · rename_i hlen hv
        split at h
        · rename_i hr
          refine ⟨by omega, hv, fun x hx => ?_⟩
          have := List.all_eq_true.1 hr x hx
          rw [lies_iff] at this
          omega
        · cases h
      · cases hc

theorem valid_fields {l : List Node} (h : validOf l = true) (i : Nat) (hi : i < l.length) : fieldsOf (l.getD i node0) i = true := by
  unfold validOf at h
  rw [Bool.and_eq_true] at h
  exact (fieldsAll_iff l).1 h.1 i hi

theorem valid_node {l : List Node} (h : validOf l = true) (i : Nat) (hi : i < l.length) : nodeOk (lensOf l) (l.getD i node0) ((lensOf l).getD i 0) = true := by
  unfold validOf at h
  rw [Bool.and_eq_true, List.all_eq_true] at h
  exact h.2 i (by simpa using hi)

theorem lensOf_take (l : List Node) : ∀ m, m ≤ l.length → lensOf (l.take m) = (lensOf l).take m := by
  have : ∀ (l : List Node) (m : Nat), m ≤ l.length → lensOf (l.take m) = (lensOf l).take m := by
    intro l
    generalize hn : l.length = n
    induction n generalizing l with
    | zero =>
      intro m hm
      have : l = [] := List.length_eq_zero_iff.1 hn
      subst this
      simp [lensOf]
    | succ n ih =>
      intro m hm
      have hne : l ≠ [] := by intro h; rw [h] at hn; cases hn
      obtain ⟨l', x, rfl⟩ : ∃ l' x, l = l' ++ [x] := ⟨l.dropLast, l.getLast hne, (List.dropLast_concat_getLast hne).symm⟩
      have hl' : l'.length = n := by simpa using hn
      rcases Nat.lt_or_ge m (n + 1) with h | h
      · rw [List.take_append_of_le_length (by omega), ih l' hl' m (by omega), lensOf_snoc, List.take_append_of_le_length (by rw [lensOf_length]; omega)]
      · rw [List.take_of_length_le (by simp; omega), List.take_of_length_le (by rw [lensOf_length]; simp; omega)]
  exact this l

theorem lens_get (l : List Node) (i : Nat) (hi : i < l.length) : (lensOf l).getD i 0 = lenOf ((lensOf l).take i) (l.getD i node0) := by
  have h1 : lensOf (l.take (i + 1)) = (lensOf l).take (i + 1) := lensOf_take l (i + 1) hi
  rw [take_succ_getD hi node0, lensOf_snoc, lensOf_take l i (by omega), take_succ_getD (by rw [lensOf_length]; exact hi) 0] at h1
  have := List.append_cancel_left h1
  simpa using this.symm

theorem valid_few {l : List Node} (h : validOf l = true) : few l := by
  intro x hx
  obtain ⟨i, hi, rfl⟩ := List.mem_iff_getElem.1 hx
  have h1 := valid_node h i hi
  have h2 := valid_fields h i hi
  have hg : l.getD i node0 = l[i] := by simp [List.getD, List.getElem?_eq_getElem hi]
  rw [lens_get l i hi, hg] at h1
  rw [hg] at h2
  unfold nodeOk at h1
  simp only [Bool.and_eq_true, decide_eq_true_eq] at h1
  by_cases hk : l[i].kind = 0
  · have := h1.1
    rw [lenOf, if_pos hk] at this
    omega
  · unfold fieldsOf at h2
    rw [if_neg hk] at h2
    have : l[i].words = [] := by
      split at h2
      · simp only [Bool.and_eq_true, decide_eq_true_eq] at h2; exact h2.2.2.2.2
      · split at h2
        · simp only [Bool.and_eq_true, decide_eq_true_eq] at h2; exact h2.2.2.2
        · split at h2
          · simp only [Bool.and_eq_true, decide_eq_true_eq] at h2; exact h2.1.2.2.2.2
          · cases h2
    rw [this]
    simp

end Go.Rp
end

section
set_option linter.unusedVariables false
set_option linter.unusedSimpArgs false
set_option maxRecDepth 100000
namespace Go.Rp
open Go Go.VT

theorem at_take {l : List Int} {m : Nat} {a : Int} (h0 : 0 ≤ a) (h : a < m) : at_ (l.take m) a = at_ l a := by
  unfold at_
  simp only [List.getD]
  rw [List.getElem?_take, if_pos (by omega)]

theorem at_nat (l : List Int) (i : Nat) : at_ l (i : Int) = l.getD i 0 := by simp [at_]

theorem valid_lens {l : List Node} (h : validOf l = true) : ∀ i : Nat, i < l.length → (0 ≤ at_ (lensOf l) i ∧ at_ (lensOf l) i ≤ 1048576) ∧
    ((l.getD i node0).kind = 0 → at_ (lensOf l) i = (l.getD i node0).words.length) ∧
    ((l.getD i node0).kind = 1 → at_ (lensOf l) i = at_ (lensOf l) (l.getD i node0).a + at_ (lensOf l) (l.getD i node0).b) ∧
    ((l.getD i node0).kind = 2 → at_ (lensOf l) i = (l.getD i node0).len ∧ 0 ≤ (l.getD i node0).from_ ∧ 0 ≤ (l.getD i node0).len ∧ (l.getD i node0).from_ + (l.getD i node0).len ≤ at_ (lensOf l) (l.getD i node0).a) ∧
    ((l.getD i node0).kind = 3 → at_ (lensOf l) i = at_ (lensOf l) (l.getD i node0).a) ∧
    ((l.getD i node0).kind = 0 ∨ (l.getD i node0).kind = 1 ∨ (l.getD i node0).kind = 2 ∨ (l.getD i node0).kind = 3) := by
  intro i
  induction i using Nat.strongRecOn with
  | ind i ih =>
    intro hi
    have hn := valid_node h i hi
    have hf := valid_fields h i hi
    have hg := lens_get l i hi
    rw [at_nat]
    rw [hg] at hn ⊢
    generalize hx : l.getD i node0 = x at hn hf hg ⊢
    unfold nodeOk at hn
    simp only [Bool.and_eq_true, decide_eq_true_eq] at hn
    have hb : ∀ a : Int, 0 ≤ a → a < i → (0 ≤ at_ (lensOf l) a ∧ at_ (lensOf l) a ≤ 1048576) ∧ at_ ((lensOf l).take i) a = at_ (lensOf l) a := by
      intro a h0 h1
      obtain ⟨k, rfl⟩ := Int.eq_ofNat_of_zero_le h0
      exact ⟨(ih k (by omega) (by omega)).1, at_take h0 h1⟩
    have hk : x.kind = 0 ∨ x.kind = 1 ∨ x.kind = 2 ∨ x.kind = 3 := by
      unfold fieldsOf at hf
      by_cases h0 : x.kind = 0
      · exact .inl h0
      · by_cases h1 : x.kind = 1
        · exact .inr (.inl h1)
        · by_cases h2 : x.kind = 2
          · exact .inr (.inr (.inl h2))
          · by_cases h3 : x.kind = 3
            · exact .inr (.inr (.inr h3))
            · rw [if_neg h0, if_neg h1, if_neg h2, if_neg h3] at hf; cases hf
    have hlen : ∀ v, (x.kind = 0 → v = (x.words.length : Int)) → True := fun _ _ => trivial
    rcases hk with hk | hk | hk | hk
    · have e : lenOf ((lensOf l).take i) x = min (x.words.length : Int) 2097152 := by rw [lenOf, if_pos hk]
      rw [e] at hn ⊢
      have : min (x.words.length : Int) 2097152 = x.words.length := by omega
      rw [this] at hn ⊢
      exact ⟨⟨by omega, hn.1⟩, fun _ => rfl, fun h => by omega, fun h => by omega, fun h => by omega, .inl hk⟩
    · have ha := (fields_ahead hf).1 hk
      obtain ⟨ha1, ha2⟩ := hb x.a ha.1.1 ha.1.2
      obtain ⟨hb1, hb2⟩ := hb x.b ha.2.1 ha.2.2
      have e : lenOf ((lensOf l).take i) x = at_ (lensOf l) x.a + at_ (lensOf l) x.b := by
        rw [lenOf, if_neg (by omega), if_pos hk, ha2, hb2, w64, w64_id (by omega) (by omega)]
        omega
      rw [e] at hn ⊢
      exact ⟨⟨by omega, hn.1⟩, fun h => by omega, fun _ => rfl, fun h => by omega, fun h => by omega, .inr (.inl hk)⟩
    · have ha := fields_a hf (by omega)
      obtain ⟨ha1, ha2⟩ := hb x.a ha.1 ha.2
      have hp : isPartOf (at_ (lensOf l) x.a) x.from_ x.len = true := by
        have := hn.2
        simpa [hk] using this
      unfold isPartOf at hp
      rw [Bool.and_eq_true, lies_iff] at hp
      obtain ⟨hp1, hp2⟩ := hp
      rw [w64, w64_id (by omega) (by omega), lies_iff] at hp2
      have e : lenOf ((lensOf l).take i) x = x.len := by
        rw [lenOf, if_neg (by omega), if_neg (by omega), if_pos hk]
        omega
      rw [e] at hn ⊢
      exact ⟨⟨by omega, hn.1⟩, fun h => by omega, fun h => by omega, fun _ => ⟨rfl, hp1.1, hp2.1, by omega⟩, fun h => by omega, .inr (.inr (.inl hk))⟩
    · have ha := fields_a hf (by omega)
      obtain ⟨ha1, ha2⟩ := hb x.a ha.1 ha.2
      have e : lenOf ((lensOf l).take i) x = at_ (lensOf l) x.a := by
        rw [lenOf, if_neg (by omega), if_neg (by omega), if_neg (by omega), ha2]
        omega
      rw [e] at hn ⊢
      exact ⟨⟨by omega, hn.1⟩, fun h => by omega, fun h => by omega, fun h => by omega, fun _ => rfl, .inr (.inr (.inr hk))⟩

theorem nat_getD (l : List Node) (a : Int) : nat_ l a = l.getD a.toNat node0 := rfl

theorem wayOf_fuel {l : List Node} (h : validOf l = true) (lens : List Int) : ∀ f g : Nat, ∀ a place : Int, 0 ≤ a → a < l.length → a.toNat < f → a.toNat < g → wayOf l lens f a place = wayOf l lens g a place := by
  intro f
  induction f with
  | zero => intro g a place _ _ hf; omega
  | succ f ih =>
    intro g a place h0 h1 hf hg
    match g, hg with
    | g + 1, hg =>
      have hfd := valid_fields h a.toNat (by omega)
      rw [← nat_getD] at hfd
      have hcast : ((a.toNat : Nat) : Int) = a := by omega
      rw [hcast] at hfd
      unfold wayOf
      by_cases hk0 : (nat_ l a).kind = 0
      · rw [if_pos hk0, if_pos hk0]
      · have ha : 0 ≤ (nat_ l a).a ∧ (nat_ l a).a < a := by
          have := fields_a (i := a.toNat) (by rw [hcast]; exact hfd) hk0
          omega
        rw [if_neg hk0, if_neg hk0]
        have e1 : ∀ p, wayOf l lens f (nat_ l a).a p = wayOf l lens g (nat_ l a).a p := fun p => ih g _ p ha.1 (by omega) (by omega) (by omega)
        by_cases hk1 : (nat_ l a).kind = 1
        · have hb := ((fields_ahead (i := a.toNat) (by rw [hcast]; exact hfd)).1 hk1).2
          have e2 : ∀ p, wayOf l lens f (nat_ l a).b p = wayOf l lens g (nat_ l a).b p := fun p => ih g _ p hb.1 (by omega) (by omega) (by omega)
          rw [if_pos hk1, if_pos hk1, e1, e2]
        · rw [if_neg hk1, if_neg hk1, e1, e1]

theorem wayAt_eq {l : List Node} (h : validOf l = true) {a : Int} (h0 : 0 ≤ a) (h1 : a < l.length) (b place : Int) (hb0 : 0 ≤ b) (hb : b < a) : wayOf l (lensOf l) a.toNat b place = wayAt l b place :=
  wayOf_fuel h _ _ _ b place hb0 (by omega) (by omega) (by omega)

end Go.Rp
end

section
set_option linter.unusedVariables false
set_option linter.unusedSimpArgs false
open Go Go.VT
namespace Go.Rp

theorem longFrom_snoc (x : Int) : ∀ (l : List Int) (i : Nat), longFrom i (l ++ [x]) = longFrom i l ++ [(((i + l.length : Nat) : Int), x)]
  | [], i => by simp [longFrom]
  | y :: r, i => by
    simp only [List.cons_append, longFrom, longFrom_snoc x r (i + 1), List.length_cons]
    rw [show i + 1 + r.length = i + (r.length + 1) by omega]

theorem mget_long : ∀ (l : List Int) (i k : Nat), i ≤ k → k < i + l.length → mget (fun (x y : Int) => x == y) (longFrom i l) (k : Int) = some (l.getD (k - i) 0)
  | [], i, k, h1, h2 => by simp at h2; omega
  | x :: r, i, k, h1, h2 => by
    simp only [longFrom, mget]
    by_cases h : i = k
    · subst h; simp
    · have hb : ((i : Int) == (k : Int)) = false := by
        rw [beq_eq_false_iff_ne]; omega
      rw [hb]
      simp only [cond_false]
      have := mget_long r (i + 1) k (by omega) (by simp only [List.length_cons] at h2; omega)
      rw [this]
      have e : k - i = (k - (i + 1)) + 1 := by omega
      rw [e]
      simp

theorem mput_long (v : Int) : ∀ (l : List Int) (i : Nat), mput (fun (x y : Int) => x == y) (longFrom i l) ((i + l.length : Nat) : Int) v = longFrom i l ++ [(((i + l.length : Nat) : Int), v)]
  | [], i => by simp [longFrom, mput]
  | x :: r, i => by
    simp only [longFrom, mput, List.length_cons]
    have hb : ((i : Int) == ((i + (r.length + 1) : Nat) : Int)) = false := by
      simp only [beq_eq_false_iff_ne, ne_eq]; omega
    rw [hb]
    simp only [cond_false, List.cons_append]
    rw [show i + (r.length + 1) = i + 1 + r.length by omega, mput_long v r (i + 1)]

theorem mget_put (l : List (Int × Int)) (k v : Int) : mget (fun (x y : Int) => x == y) (mput (fun (x y : Int) => x == y) l k v) k = some v := by
  induction l with
  | nil => simp [mput, mget]
  | cons x r ih =>
    obtain ⟨a, b⟩ := x
    simp only [mput]
    cases h : a == k with
    | true => simp [mget]
    | false => simp [mget, h, ih]

theorem longOf_snoc (l : List Node) (x : Node) : longOf (l ++ [x]) = longOf l ++ [((l.length : Int), lenOf (lensOf l) x)] := by
  unfold longOf
  rw [lensOf_snoc, longFrom_snoc, lensOf_length, Nat.zero_add]

theorem lg_long {l : List Node} {a : Int} (h0 : 0 ≤ a) (h1 : a < l.length) : lg (longOf l) a = at_ (lensOf l) a := by
  obtain ⟨k, rfl⟩ := Int.eq_ofNat_of_zero_le h0
  unfold lg longOf
  rw [mget_long _ _ _ (Nat.zero_le _) (by rw [lensOf_length]; omega)]
  simp [at_]

theorem nodeOk_take {l : List Node} {i j : Nat} (hi : i ≤ l.length) (hj : j ≤ i) {x : Node} (hf : fieldsOf x j = true) (n : Int) : nodeOk ((lensOf l).take i) x n = nodeOk (lensOf l) x n := by
  unfold nodeOk
  by_cases hk : x.kind = 2
  · obtain ⟨h0, h1⟩ := fields_a hf (by omega)
    rw [at_take h0 (by omega)]
  · simp [hk]

theorem valid_steps {l : List Node} : validOf l = true ↔ ∀ i : Nat, i < l.length → stepOk l i = true := by
  unfold validOf
  rw [Bool.and_eq_true, fieldsAll_iff]
  simp only [List.all_eq_true, List.mem_range, stepOk, Bool.and_eq_true]
  exact ⟨fun h i hi => ⟨h.1 i hi, h.2 i hi⟩, fun h => ⟨fun i hi => (h i hi).1, fun i hi => (h i hi).2⟩⟩

theorem take_getD {α : Type} {l : List α} {i j : Nat} (h : j < i) (d : α) : (l.take i).getD j d = l.getD j d := by
  simp only [List.getD, List.getElem?_take, h, if_true]

theorem step_take {l : List Node} {i j : Nat} (hi : i ≤ l.length) (hj : j < i) : stepOk (l.take i) j = stepOk l j := by
  unfold stepOk
  rw [lensOf_take l i hi, take_getD hj, take_getD hj]
  cases hf : fieldsOf (l.getD j node0) j with
  | false => rfl
  | true => rw [nodeOk_take hi (Nat.le_of_lt hj) hf]

theorem steps_take {l : List Node} {i : Nat} (hi : i ≤ l.length) (h : ∀ j : Nat, j < i → stepOk l j = true) : validOf (l.take i) = true := by
  rw [valid_steps]
  intro j hj
  have hj : j < i := by simp at hj; omega
  rw [step_take hi hj]
  exact h j hj

theorem hasB_iff {a : Int} {i : Nat} : hasB a i = lies a 0 ((i : Int) - 1) := by
  unfold hasB lies
  congr 1
  simp only [decide_eq_decide]
  omega

theorem words_empty (w : List Int) : w.isEmpty = decide (w = []) := by cases w <;> simp

noncomputable def badK (x : Node) (L : List (Int × Int)) (i : Int) : Bool := if x.kind ≤ 0 then !okWords x else if x.kind = 1 then !okCat x i else if x.kind = 2 then !okPart x L i else !okOff x i
noncomputable def valK (x : Node) (L : List (Int × Int)) : Int := if x.kind ≤ 0 then (x.words.length : Int) else if x.kind = 1 then IntKind.i64.wrap (lg L x.a + lg L x.b) else if x.kind = 2 then x.len else lg L x.a

theorem prog_step {l : List Node} {i : Nat} (hi : i < l.length) (hs : ∀ j : Nat, j < i → stepOk l j = true) :
    ((l.getD i node0).kind < 0 ∨ 4 ≤ (l.getD i node0).kind → stepOk l i = false) ∧
    (0 ≤ (l.getD i node0).kind → (l.getD i node0).kind < 4 → (badK (l.getD i node0) (longOf (l.take i)) i = true → stepOk l i = false) ∧
      (badK (l.getD i node0) (longOf (l.take i)) i = false → (¬ valK (l.getD i node0) (longOf (l.take i)) ≤ 1048576 → stepOk l i = false) ∧
        (valK (l.getD i node0) (longOf (l.take i)) ≤ 1048576 → stepOk l i = true ∧ valK (l.getD i node0) (longOf (l.take i)) = lenOf (lensOf (l.take i)) (l.getD i node0)))) := by
  have hv := steps_take (Nat.le_of_lt hi) hs
  have hl : (l.take i).length = i := by simp; omega
  have hlg : ∀ {a : Int}, 0 ≤ a → a < i → lg (longOf (l.take i)) a = at_ (lensOf (l.take i)) a ∧ at_ (lensOf (l.take i)) a = at_ (lensOf l) a ∧ 0 ≤ at_ (lensOf (l.take i)) a ∧ at_ (lensOf (l.take i)) a ≤ 1048576 := by
    intro a h0 h1
    refine ⟨lg_long h0 (by rw [hl]; exact h1), ?_, ?_⟩
    · rw [lensOf_take l i (Nat.le_of_lt hi), at_take h0 h1]
    · obtain ⟨k, rfl⟩ := Int.eq_ofNat_of_zero_le h0
      exact (valid_lens hv k (by rw [hl]; omega)).1
  have hst : stepOk l i = (fieldsOf (l.getD i node0) i && nodeOk (lensOf l) (l.getD i node0) (lenOf (lensOf (l.take i)) (l.getD i node0))) := by
    unfold stepOk
    rw [lens_get l i hi, lensOf_take l i (Nat.le_of_lt hi)]
  generalize l.getD i node0 = x at hst ⊢
  generalize hlens : lensOf (l.take i) = lens at hst hlg ⊢
  generalize hL : longOf (l.take i) = L at hlg ⊢
  rw [hst]
  refine ⟨fun hk => ?_, fun h0 h4 => ?_⟩
  · have : fieldsOf x i = false := by
      unfold fieldsOf
      rw [if_neg (by omega), if_neg (by omega), if_neg (by omega), if_neg (by omega)]
    rw [this]; rfl
  · have hk : x.kind = 0 ∨ x.kind = 1 ∨ x.kind = 2 ∨ x.kind = 3 := by omega
    rcases hk with hk | hk | hk | hk
    · have hb : badK x L i = !fieldsOf x i := by
        simp only [badK, fieldsOf, hk, if_true, okWords, Int.le_refl]
        congr 1
        rw [Bool.eq_iff_iff]
        simp only [Bool.and_eq_true, beq_iff_eq, decide_eq_true_eq]
        constructor
        · rintro ⟨⟨⟨⟨⟨h1, h2⟩, h3⟩, h4⟩, h5⟩, h6⟩; exact ⟨⟨h1, h2, h3, h4, h5⟩, h6⟩
        · rintro ⟨⟨h1, h2, h3, h4, h5⟩, h6⟩; exact ⟨⟨⟨⟨⟨h1, h2⟩, h3⟩, h4⟩, h5⟩, h6⟩
      have hvl : valK x L = x.words.length := by simp [valK, hk]
      have hle : lenOf lens x = min (x.words.length : Int) 2097152 := by simp [lenOf, hk]
      rw [hb, hvl, hle]
      cases hf : fieldsOf x i with
      | false => simp
      | true => simp only [Bool.not_true, Bool.false_eq_true, false_implies, true_and, Bool.true_and, forall_const, nodeOk, hk]; simp only [Bool.and_eq_true, Bool.and_eq_false_iff, decide_eq_true_eq, decide_eq_false_iff_not]; refine ⟨fun h => .inl (by omega), fun h => ⟨⟨by omega, by simp⟩, by omega⟩⟩
    · have hb : badK x L i = !fieldsOf x i := by
        simp only [badK, fieldsOf, hk, if_true, okCat, hasB_iff, words_empty]
        rw [if_neg (by decide), if_neg (by decide)]
        congr 1
        rw [Bool.eq_iff_iff]
        simp only [Bool.and_eq_true, beq_iff_eq, decide_eq_true_eq]
        constructor
        · rintro ⟨⟨⟨⟨⟨h1, h2⟩, h3⟩, h4⟩, h5⟩, h6⟩; exact ⟨⟨h1, h2⟩, h3, h4, h5, h6⟩
        · rintro ⟨⟨h1, h2⟩, h3, h4, h5, h6⟩; exact ⟨⟨⟨⟨⟨h1, h2⟩, h3⟩, h4⟩, h5⟩, h6⟩
      have hvl : valK x L = IntKind.i64.wrap (lg L x.a + lg L x.b) := by simp [valK, hk]
      rw [hb, hvl]
      cases hf : fieldsOf x i with
      | false => simp
      | true =>
        obtain ⟨⟨ha0, ha1⟩, hb0, hb1⟩ := (fields_ahead hf).1 hk
        obtain ⟨a1, a2, a3, a4⟩ := hlg ha0 ha1
        obtain ⟨b1, b2, b3, b4⟩ := hlg hb0 hb1
        have hle : lenOf lens x = min (at_ lens x.a + at_ lens x.b) 2097152 := by
          rw [lenOf, if_neg (by omega), if_pos hk]
          have : w64 (at_ lens x.a + at_ lens x.b) = at_ lens x.a + at_ lens x.b := w64_id (by omega) (by omega)
          rw [this]
        rw [hle, a1, b1, w64_id (by omega) (by omega)]
        simp only [Bool.not_true, Bool.false_eq_true, false_implies, true_and, Bool.true_and, forall_const, nodeOk, hk]; simp only [Bool.and_eq_true, Bool.and_eq_false_iff, decide_eq_true_eq, decide_eq_false_iff_not]; refine ⟨fun h => .inl (by omega), fun h => ⟨⟨by omega, by simp⟩, by omega⟩⟩
    · have hvl : valK x L = x.len := by simp [valK, hk]
      have hle : lenOf lens x = min x.len 2097152 := by simp [lenOf, hk]
      have hb : badK x L i = !okPart x L i := by simp [badK, hk]
      rw [hb, hvl, hle]
      have hfe : fieldsOf x i = (lies x.a 0 ((i : Int) - 1) && decide (x.b = 0 ∧ x.n = 0 ∧ x.words = [])) := by
        simp only [fieldsOf, hk, if_true]
        rw [if_neg (by decide), if_neg (by decide)]
      have hne : nodeOk (lensOf l) x (min x.len 2097152) = (decide (min x.len 2097152 ≤ 1048576) && isPartOf (at_ (lensOf l) x.a) x.from_ x.len) := by simp [nodeOk, hk]
      rw [hfe, hne]
      by_cases hA : lies x.a 0 ((i : Int) - 1) = true
      · have hA2 := hA
        rw [lies_iff] at hA2
        obtain ⟨a1, a2, a3, a4⟩ := hlg hA2.1 (by omega)
        have hok : okPart x L i = (decide (x.b = 0 ∧ x.n = 0 ∧ x.words = []) && decide (0 ≤ x.len ∧ x.len ≤ at_ lens x.a ∧ 0 ≤ x.from_ ∧ x.from_ ≤ IntKind.i64.wrap (at_ lens x.a - x.len))) := by
          simp only [okPart, hasB_iff, hA, words_empty, a1, Bool.true_and]
          rw [Bool.eq_iff_iff]
          simp only [Bool.and_eq_true, beq_iff_eq, decide_eq_true_eq]
          constructor
          · rintro ⟨⟨⟨⟨⟨⟨h1, h2⟩, h3⟩, h4⟩, h5⟩, h6⟩, h7⟩; exact ⟨⟨h1, h2, h3⟩, h4, h5, h6, h7⟩
          · rintro ⟨⟨h1, h2, h3⟩, h4, h5, h6, h7⟩; exact ⟨⟨⟨⟨⟨⟨h1, h2⟩, h3⟩, h4⟩, h5⟩, h6⟩, h7⟩
        rw [hok, hA, ← a2]
        simp only [Bool.true_and]
        generalize hD : decide (x.b = 0 ∧ x.n = 0 ∧ x.words = []) = D
        have hisp : isPartOf (at_ lens x.a) x.from_ x.len = decide (0 ≤ x.len ∧ x.len ≤ at_ lens x.a ∧ 0 ≤ x.from_ ∧ x.from_ ≤ IntKind.i64.wrap (at_ lens x.a - x.len)) := by
          rw [Bool.eq_iff_iff]
          simp only [isPartOf, Bool.and_eq_true, lies_iff, decide_eq_true_eq]
          constructor
          · rintro ⟨⟨h1, h2⟩, h3, h4⟩
            have e : w64 (at_ lens x.a - x.from_) = at_ lens x.a - x.from_ := w64_id (by omega) (by omega)
            rw [e] at h4
            rw [w64_id (by omega) (by omega)]
            omega
          · rintro ⟨h1, h2, h3, h4⟩
            rw [w64_id (by omega) (by omega)] at h4
            have e : w64 (at_ lens x.a - x.from_) = at_ lens x.a - x.from_ := w64_id (by omega) (by omega)
            rw [e]
            omega
        rw [hisp]
        cases D with
        | false => simp
        | true =>
          by_cases hq : 0 ≤ x.len ∧ x.len ≤ at_ lens x.a ∧ 0 ≤ x.from_ ∧ x.from_ ≤ IntKind.i64.wrap (at_ lens x.a - x.len)
          · rw [decide_eq_true hq]
            simp only [Bool.true_and, Bool.and_true, Bool.not_true, Bool.false_eq_true, false_implies, true_and, forall_const, decide_eq_true_eq, decide_eq_false_iff_not]
            exact ⟨fun h => by omega, fun h => ⟨by omega, by omega⟩⟩
          · rw [decide_eq_false hq]; simp
      · have hA' : lies x.a 0 ((i : Int) - 1) = false := by simpa using hA
        have hok : okPart x L i = false := by simp [okPart, hasB_iff, hA']
        rw [hok, hA']
        simp
    · have hb : badK x L i = !fieldsOf x i := by
        simp only [badK, fieldsOf, hk, if_true, okOff, hasB_iff, words_empty]
        rw [if_neg (by decide), if_neg (by decide), if_neg (by decide), if_neg (by decide), if_neg (by decide), if_neg (by decide)]
        congr 1
        rw [Bool.eq_iff_iff]
        simp only [Bool.and_eq_true, beq_iff_eq, decide_eq_true_eq]
        constructor
        · rintro ⟨⟨⟨⟨⟨h1, h2⟩, h3⟩, h4⟩, h5⟩, h6⟩; exact ⟨⟨h1, h2, h3, h4, h5⟩, h6⟩
        · rintro ⟨⟨h1, h2, h3, h4, h5⟩, h6⟩; exact ⟨⟨⟨⟨⟨h1, h2⟩, h3⟩, h4⟩, h5⟩, h6⟩
      have hvl : valK x L = lg L x.a := by simp [valK, hk]
      rw [hb, hvl]
      cases hf : fieldsOf x i with
      | false => simp
      | true =>
        obtain ⟨ha0, ha1⟩ := fields_a hf (by omega)
        obtain ⟨a1, a2, a3, a4⟩ := hlg ha0 ha1
        have hle : lenOf lens x = min (at_ lens x.a) 2097152 := by
          rw [lenOf, if_neg (by omega), if_neg (by omega), if_neg (by omega)]
        rw [hle, a1]
        simp only [Bool.not_true, Bool.false_eq_true, false_implies, true_and, Bool.true_and, forall_const, nodeOk, hk]; simp only [Bool.and_eq_true, Bool.and_eq_false_iff, decide_eq_true_eq, decide_eq_false_iff_not]; refine ⟨fun h => .inl (by omega), fun h => ⟨⟨by omega, by simp⟩, by omega⟩⟩

theorem asked_step {l : List Node} {r : List Int} {i : Nat} (hl : l.length ≤ 4000) (hi : i < l.length) (h : stepOk l i = false) : askedOf l r = 1 := by
  have hv : ¬ validOf l = true := by
    rw [valid_steps]
    intro hh
    rw [hh i hi] at h
    cases h
  simp [askedOf, checkOf, hv, show ¬ 4000 < l.length by omega]
end Go.Rp
end

section
set_option linter.unusedVariables false
set_option maxRecDepth 100000
open Go Go.VT
namespace Go.Rp

theorem must_eq (b : Bool) (e : Int) : vc (EV []) noL Go.Proofs.Tryd.f53 cMust (b, e, ()) = (((!b) = true → (true = true → (!b) = true ∧ e = e ∧ True) ∧ (true = false → (!b) = false ∧ () = ())) ∧ ((!b) = false → (!b) = false ∧ () = ())) := by kernel_rfl

theorem isW_eq (n : Int) : vc (EV []) noL Go.Proofs.Tryd.f68 cIsW (n, ()) = ((decide (n ≥ (-2147483648 : Int)) && decide (n ≤ (2147483647 : Int)), ()) = (isWord n, ())) := by kernel_rfl

theorem notW67_eq (n : Int) : vc (EV [(68, cIsW)]) noL Go.Proofs.Tryd.f67 cNotW (n, ()) = ((!isWord n, ()) = (!isWord n, ())) := by kernel_rfl

theorem notW106_eq (n : Int) : vc (EV [(68, cIsW)]) noL Go.Proofs.Tryd.f106 cNotW (n, ()) = ((!isWord n, ()) = (!isWord n, ())) := by kernel_rfl

theorem has_eq (n m : Int) : vc (EV []) noL Go.Proofs.Tryd.f56 cHas (n, m, ()) = ((decide (n ≥ (0 : Int)) && decide (n < m), ()) = (decide ((0 : Int) ≤ n) && decide (n < m), ())) := by kernel_rfl

theorem idx67_eq (l : List Int) : vc (EV [(67, cNotW)]) (lIdx l) Go.Proofs.Tryd.f80 (cIdxW 67) (l, ()) = (let e0 : Value := Value.func (Fn.func (67 : Nat)) #[] #[];
  Small RU (Sigma.mk (Ty.slice (3 : Nat) (Ty.int IntKind.i64)) l) →
  (∃ (p : Int × Unit),
  l = l ∧
  e0 = e0 ∧
  (↑(List.length l) : Int) = (↑(List.length l) : Int) ∧ (0 : Int) = p.fst ∧ (0 : Int) ≤ p.fst ∧ p.fst ≤ (↑(List.length l) : Int) ∧ List.all (List.take (Int.toNat p.fst) l) isWord = true) ∧
  ∀ (p : Int × Unit),
 let e3 : Bool := decide (p.fst < (↑(List.length l) : Int));
 let e2 : Bool := !isWord (List.getD l (Int.toNat p.fst) (0 : Int));
 let e1 : Value := e0;
 let e0 : Int × Unit := (firstAt (fun (n : Int) => !isWord n) l (0 : Int), ());
  (0 : Int) ≤ p.fst ∧ p.fst ≤ (↑(List.length l) : Int) ∧ List.all (List.take (Int.toNat p.fst) l) isWord = true →
  (e3 = true →
  ((0 : Int) ≤ p.fst ∧ p.fst < (↑(List.length l) : Int)) ∧
  (e2 = true → (p.fst, ()) = e0) ∧
  (e2 = false →
  ∃ (p' : Int × Unit),
  l = l ∧
  e1 = e1 ∧
  (↑(List.length l) : Int) = (↑(List.length l) : Int) ∧
  IntKind.wrap IntKind.i64 (p.fst + (1 : Int)) = p'.fst ∧
  ((0 : Int) ≤ p'.fst ∧ p'.fst ≤ (↑(List.length l) : Int) ∧ List.all (List.take (Int.toNat p'.fst) l) isWord = true) ∧
  List.length l - Int.toNat p'.fst < List.length l - Int.toNat p.fst)) ∧
  (e3 = false → ((-1 : Int), ()) = e0)) := by kernel_rfl

theorem idx106_eq (l : List Int) : vc (EV [(106, cNotW)]) (lIdx l) Go.Proofs.Tryd.f80 (cIdxW 106) (l, ()) = (let e0 : Value := Value.func (Fn.func (106 : Nat)) #[] #[];
  Small RU (Sigma.mk (Ty.slice (3 : Nat) (Ty.int IntKind.i64)) l) →
  (∃ (p : Int × Unit),
  l = l ∧
  e0 = e0 ∧
  (↑(List.length l) : Int) = (↑(List.length l) : Int) ∧ (0 : Int) = p.fst ∧ (0 : Int) ≤ p.fst ∧ p.fst ≤ (↑(List.length l) : Int) ∧ List.all (List.take (Int.toNat p.fst) l) isWord = true) ∧
  ∀ (p : Int × Unit),
 let e3 : Bool := decide (p.fst < (↑(List.length l) : Int));
 let e2 : Bool := !isWord (List.getD l (Int.toNat p.fst) (0 : Int));
 let e1 : Value := e0;
 let e0 : Int × Unit := (firstAt (fun (n : Int) => !isWord n) l (0 : Int), ());
  (0 : Int) ≤ p.fst ∧ p.fst ≤ (↑(List.length l) : Int) ∧ List.all (List.take (Int.toNat p.fst) l) isWord = true →
  (e3 = true →
  ((0 : Int) ≤ p.fst ∧ p.fst < (↑(List.length l) : Int)) ∧
  (e2 = true → (p.fst, ()) = e0) ∧
  (e2 = false →
  ∃ (p' : Int × Unit),
  l = l ∧
  e1 = e1 ∧
  (↑(List.length l) : Int) = (↑(List.length l) : Int) ∧
  IntKind.wrap IntKind.i64 (p.fst + (1 : Int)) = p'.fst ∧
  ((0 : Int) ≤ p'.fst ∧ p'.fst ≤ (↑(List.length l) : Int) ∧ List.all (List.take (Int.toNat p'.fst) l) isWord = true) ∧
  List.length l - Int.toNat p'.fst < List.length l - Int.toNat p.fst)) ∧
  (e3 = false → ((-1 : Int), ()) = e0)) := by kernel_rfl

theorem any67_eq (l : List Int) : vc (EV [(80, cIdxW 67)]) noL Go.Proofs.Tryd.f54 (cAnyW 67) (l, ()) = (Small RU (Sigma.mk (Ty.slice (3 : Nat) (Ty.int IntKind.i64)) l) → (decide (firstAt (fun (n : Int) => !isWord n) l (0 : Int) ≥ (0 : Int)), ()) = (List.any l fun (n : den RU.T i64) => !isWord n, ())) := by kernel_rfl

theorem any106_eq (l : List Int) : vc (EV [(80, cIdxW 106)]) noL Go.Proofs.Tryd.f54 (cAnyW 106) (l, ()) = (Small RU (Sigma.mk (Ty.slice (3 : Nat) (Ty.int IntKind.i64)) l) → (decide (firstAt (fun (n : Int) => !isWord n) l (0 : Int) ≥ (0 : Int)), ()) = (List.any l fun (n : den RU.T i64) => !isWord n, ())) := by kernel_rfl

theorem kWords_eq (l : List Node) (L : List (Int × Int)) (i : Int) : vc (EV [(53, cMust), (54, cAnyW 106)]) noL Go.Proofs.Tryd.f102 cKWords (l, L, i, ()) = (let e2 : Node := List.getD l (Int.toNat i) node0;
 let e1 : Bool := !okWords e2;
 let e0 : Node := List.getD l (Int.toNat i) (Node.mk (0 : Int) (0 : Int) (0 : Int) (0 : Int) (0 : Int) (0 : Int) []);
  Small RU (Sigma.mk (Ty.slice (56 : Nat) (Ty.user (0 : Nat))) l) →
  ((0 : Int) ≤ i ∧ i < (↑(List.length l) : Int)) ∧
  ((!(e0.a == (0 : Int) && e0.b == (0 : Int) && e0.from_ == (0 : Int) && e0.len == (0 : Int) && e0.n == (0 : Int))) = true → e1 = true ∧ (1 : Int) = (1 : Int) ∧ True) ∧
  ((!(e0.a == (0 : Int) && e0.b == (0 : Int) && e0.from_ == (0 : Int) && e0.len == (0 : Int) && e0.n == (0 : Int))) = false →
  ((!!List.any e0.words fun (n : den RU.T i64) => !isWord n) = true → e1 = true ∧ (1 : Int) = (1 : Int) ∧ True) ∧
  ((!!List.any e0.words fun (n : den RU.T i64) => !isWord n) = false → e1 = false ∧ ((↑(List.length e0.words) : Int), l, L, ()) = ((↑(List.length e2.words) : Int), l, L, ())))) := by kernel_rfl

theorem kCat_eq (l : List Node) (L : List (Int × Int)) (i : Int) : vc (EV [(53, cMust), (56, cHas)]) noL Go.Proofs.Tryd.f103 cKCat (l, L, i, ()) = (let e1 : Node := List.getD l (Int.toNat i) node0;
 let e0 : Node := List.getD l (Int.toNat i) (Node.mk (0 : Int) (0 : Int) (0 : Int) (0 : Int) (0 : Int) (0 : Int) []);
  Small RU (Sigma.mk (Ty.slice (56 : Nat) (Ty.user (0 : Nat))) l) →
  ((0 : Int) ≤ i ∧ i < (↑(List.length l) : Int)) ∧
  ((!(decide ((0 : Int) ≤ e0.a) && decide (e0.a < i) && (decide ((0 : Int) ≤ e0.b) && decide (e0.b < i)) && e0.from_ == (0 : Int) && e0.len == (0 : Int) && e0.n == (0 : Int) &&
  (↑(List.length e0.words) : Int) == (0 : Int))) =
  true →
  (!okCat e1 i) = true ∧ (1 : Int) = (1 : Int) ∧ True) ∧
  ((!(decide ((0 : Int) ≤ e0.a) && decide (e0.a < i) && (decide ((0 : Int) ≤ e0.b) && decide (e0.b < i)) && e0.from_ == (0 : Int) && e0.len == (0 : Int) && e0.n == (0 : Int) &&
  (↑(List.length e0.words) : Int) == (0 : Int))) =
  false →
  (!okCat e1 i) = false ∧
  (IntKind.wrap IntKind.i64 (Option.getD (mget (fun (x y : Int) => x == y) L e0.a) (0 : Int) + Option.getD (mget (fun (x y : Int) => x == y) L e0.b) (0 : Int)), l, L, ()) =
  (IntKind.wrap IntKind.i64 (lg L e1.a + lg L e1.b), l, L, ()))) := by kernel_rfl

theorem kPart_eq (l : List Node) (L : List (Int × Int)) (i : Int) : vc (EV [(53, cMust), (56, cHas)]) noL Go.Proofs.Tryd.f104 cKPart (l, L, i, ()) = (let e2 : Node := List.getD l (Int.toNat i) node0;
 let e1 : Bool := !okPart e2 L i;
 let e0 : Node := List.getD l (Int.toNat i) (Node.mk (0 : Int) (0 : Int) (0 : Int) (0 : Int) (0 : Int) (0 : Int) []);
  Small RU (Sigma.mk (Ty.slice (56 : Nat) (Ty.user (0 : Nat))) l) →
  ((0 : Int) ≤ i ∧ i < (↑(List.length l) : Int)) ∧
  ((!(decide ((0 : Int) ≤ e0.a) && decide (e0.a < i) && e0.b == (0 : Int) && e0.n == (0 : Int) && (↑(List.length e0.words) : Int) == (0 : Int))) = true → e1 = true ∧ (1 : Int) = (1 : Int) ∧ True) ∧
  ((!(decide ((0 : Int) ≤ e0.a) && decide (e0.a < i) && e0.b == (0 : Int) && e0.n == (0 : Int) && (↑(List.length e0.words) : Int) == (0 : Int))) = false →
  ((!(decide (e0.len ≥ (0 : Int)) && decide (e0.len ≤ Option.getD (mget (fun (x y : Int) => x == y) L e0.a) (0 : Int)) && decide (e0.from_ ≥ (0 : Int)) &&
  decide (e0.from_ ≤ IntKind.wrap IntKind.i64 (Option.getD (mget (fun (x y : Int) => x == y) L e0.a) (0 : Int) - e0.len)))) =
  true →
  e1 = true ∧ (1 : Int) = (1 : Int) ∧ True) ∧
  ((!(decide (e0.len ≥ (0 : Int)) && decide (e0.len ≤ Option.getD (mget (fun (x y : Int) => x == y) L e0.a) (0 : Int)) && decide (e0.from_ ≥ (0 : Int)) &&
  decide (e0.from_ ≤ IntKind.wrap IntKind.i64 (Option.getD (mget (fun (x y : Int) => x == y) L e0.a) (0 : Int) - e0.len)))) =
  false →
  e1 = false ∧ (e0.len, l, L, ()) = (e2.len, l, L, ())))) := by kernel_rfl

theorem kOff_eq (l : List Node) (L : List (Int × Int)) (i : Int) : vc (EV [(53, cMust), (56, cHas), (68, cIsW)]) noL Go.Proofs.Tryd.f105 cKOff (l, L, i, ()) = (let e1 : Node := List.getD l (Int.toNat i) node0;
 let e0 : Node := List.getD l (Int.toNat i) (Node.mk (0 : Int) (0 : Int) (0 : Int) (0 : Int) (0 : Int) (0 : Int) []);
  Small RU (Sigma.mk (Ty.slice (56 : Nat) (Ty.user (0 : Nat))) l) →
  ((0 : Int) ≤ i ∧ i < (↑(List.length l) : Int)) ∧
  ((!(decide ((0 : Int) ≤ e0.a) && decide (e0.a < i) && e0.b == (0 : Int) && e0.from_ == (0 : Int) && e0.len == (0 : Int) && (↑(List.length e0.words) : Int) == (0 : Int) && isWord e0.n)) = true →
  (!okOff e1 i) = true ∧ (1 : Int) = (1 : Int) ∧ True) ∧
  ((!(decide ((0 : Int) ≤ e0.a) && decide (e0.a < i) && e0.b == (0 : Int) && e0.from_ == (0 : Int) && e0.len == (0 : Int) && (↑(List.length e0.words) : Int) == (0 : Int) && isWord e0.n)) = false →
  (!okOff e1 i) = false ∧ (Option.getD (mget (fun (x y : Int) => x == y) L e0.a) (0 : Int), l, L, ()) = (lg L e1.a, l, L, ()))) := by kernel_rfl

end Go.Rp
end

section
set_option linter.unusedVariables false
set_option linter.unusedSimpArgs false
open Go Go.VT
namespace Go.Rp

theorem must_gives : Gives prog RG 53 cMust := gives allNil (fun _ => noL) (by kernel_rfl) (by kernel_rfl) (by kernel_rfl) fun (b, e, ()) _ => (must_eq b e).mpr (by cases b <;> simp)
theorem isW_gives : Gives prog RG 68 cIsW := gives allNil (fun _ => noL) (by kernel_rfl) (by kernel_rfl) (by kernel_rfl) fun (n, ()) _ => (isW_eq n).mpr (by simp [isWord, lies])
theorem notW67_gives : Gives prog RG 67 cNotW := gives (allCons isW_gives allNil) (fun _ => noL) (by kernel_rfl) (by kernel_rfl) (by kernel_rfl) fun (n, ()) _ => (notW67_eq n).mpr rfl
theorem notW106_gives : Gives prog RG 106 cNotW := gives (allCons isW_gives allNil) (fun _ => noL) (by kernel_rfl) (by kernel_rfl) (by kernel_rfl) fun (n, ()) _ => (notW106_eq n).mpr rfl
theorem has_gives : Gives prog RG 56 cHas := gives allNil (fun _ => noL) (by kernel_rfl) (by kernel_rfl) (by kernel_rfl) fun (n, m, ()) _ => (has_eq n m).mpr rfl

theorem firstAt_all {l : List Int} : ∀ {i : Int}, l.all isWord = true → firstAt (fun n => !isWord n) l i = -1 := by
  induction l with
  | nil => intros; rfl
  | cons x r ih =>
    intro i h
    simp only [List.all_cons, Bool.and_eq_true] at h
    simp [firstAt, h.1, ih h.2]

theorem firstAt_at {l : List Int} : ∀ {k : Nat} {i : Int}, (l.take k).all isWord = true → k < l.length → isWord (l.getD k 0) = false → firstAt (fun n => !isWord n) l i = i + k := by
  induction l with
  | nil => intro k i _ hk; simp at hk
  | cons x r ih =>
    intro k i h hk hn
    match k with
    | 0 =>
      have hn : isWord x = false := by simpa using hn
      simp [firstAt, hn]
    | k + 1 =>
      simp only [List.take_succ_cons, List.all_cons, Bool.and_eq_true] at h
      have := ih (k := k) (i := i + 1) h.2 (by simpa using hk) (by simpa using hn)
      simp only [firstAt, h.1, Bool.not_true, cond_false, this]
      omega

theorem firstAt_any {l : List Int} : ∀ {i : Int}, 0 ≤ i → decide (firstAt (fun n => !isWord n) l i ≥ 0) = l.any fun n => !isWord n := by
  induction l with
  | nil => intros; simp [firstAt]
  | cons x r ih =>
    intro i h
    cases hx : isWord x with
    | true => simp [firstAt, hx, ← ih (i := i + 1) (by omega)]
    | false => simp [firstAt, hx, h]

theorem idx_vc (l : List Int) (hs : l.length ≤ 140737488355328) {q : Prop}
    (h : ((∃ (p : Int × Unit), (0 : Int) = p.fst ∧ (0 : Int) ≤ p.fst ∧ p.fst ≤ (l.length : Int) ∧ List.all (List.take (Int.toNat p.fst) l) isWord = true) ∧
      ∀ (p : Int × Unit), (0 : Int) ≤ p.fst ∧ p.fst ≤ (l.length : Int) ∧ List.all (List.take (Int.toNat p.fst) l) isWord = true →
        (decide (p.fst < (l.length : Int)) = true → ((0 : Int) ≤ p.fst ∧ p.fst < (l.length : Int)) ∧ ((!isWord (List.getD l (Int.toNat p.fst) (0 : Int))) = true → p.fst = firstAt (fun n => !isWord n) l 0) ∧
          ((!isWord (List.getD l (Int.toNat p.fst) (0 : Int))) = false → ∃ (p' : Int × Unit), IntKind.wrap IntKind.i64 (p.fst + (1 : Int)) = p'.fst ∧ ((0 : Int) ≤ p'.fst ∧ p'.fst ≤ (l.length : Int) ∧ List.all (List.take (Int.toNat p'.fst) l) isWord = true) ∧ List.length l - Int.toNat p'.fst < List.length l - Int.toNat p.fst)) ∧
        (decide (p.fst < (l.length : Int)) = false → (-1 : Int) = firstAt (fun n => !isWord n) l 0)) → q) : q := by
  refine h ⟨⟨(0, ()), rfl, by simp, by simp, by simp⟩, fun (i, ()) ⟨h0, h1, h2⟩ => ?_⟩
  dsimp only at h0 h1 h2 ⊢
  obtain ⟨k, rfl⟩ := Int.eq_ofNat_of_zero_le h0
  simp only [Int.toNat_natCast] at h2 ⊢
  refine ⟨fun hk => ?_, fun hk => ?_⟩
  · have hk : k < l.length := by simpa using hk
    refine ⟨⟨h0, by omega⟩, fun hn => ?_, fun hn => ?_⟩
    · rw [firstAt_at h2 hk (by simpa using hn)]; simp
    · have hw : IntKind.wrap IntKind.i64 ((k : Int) + 1) = ((k + 1 : Nat) : Int) := by
        have := w64_id (n := (k : Int) + 1) (by omega) (by omega)
        rw [this]; simp
      refine ⟨((k + 1 : Nat), ()), hw, ⟨by omega, by omega, ?_⟩, by simp; omega⟩
      simp only [Int.toNat_natCast]
      rw [List.take_add_one, List.all_append, h2]
      have hg : l[k]? = some l[k] := List.getElem?_eq_getElem hk
      have hn' : isWord (l.getD k 0) = true := by simpa using hn
      simp only [List.getD, hg, Option.getD_some] at hn'
      simp [hg, hn']
  · have hk : l.length ≤ k := by simpa using hk
    rw [List.take_of_length_le hk] at h2
    rw [firstAt_all h2]

theorem idx67_gives : Gives prog RG 80 (cIdxW 67) := gives (allCons notW67_gives allNil) (fun p => lIdx p.1) (by kernel_rfl) (by kernel_rfl) (by kernel_rfl) fun (l, ()) _ => (idx67_eq l).mpr (by
  intro e0 hs
  refine idx_vc l hs.len (fun h => ?_)
  obtain ⟨⟨p, h1, h2, h3, h4⟩, hr⟩ := h
  refine ⟨⟨p, rfl, rfl, rfl, h1, h2, h3, h4⟩, ?_⟩
  intro p e3 e2 e1 e0 hp
  obtain ⟨a, b⟩ := hr p hp
  refine ⟨fun h => ⟨(a h).1, fun h2 => by rw [(a h).2.1 h2], fun h2 => ?_⟩, fun h => by rw [b h]⟩
  obtain ⟨p', q1, q2, q3⟩ := (a h).2.2 h2
  exact ⟨p', rfl, rfl, rfl, q1, q2, q3⟩)
theorem idx106_gives : Gives prog RG 80 (cIdxW 106) := gives (allCons notW106_gives allNil) (fun p => lIdx p.1) (by kernel_rfl) (by kernel_rfl) (by kernel_rfl) fun (l, ()) _ => (idx106_eq l).mpr (by
  intro e0 hs
  refine idx_vc l hs.len (fun h => ?_)
  obtain ⟨⟨p, h1, h2, h3, h4⟩, hr⟩ := h
  refine ⟨⟨p, rfl, rfl, rfl, h1, h2, h3, h4⟩, ?_⟩
  intro p e3 e2 e1 e0 hp
  obtain ⟨a, b⟩ := hr p hp
  refine ⟨fun h => ⟨(a h).1, fun h2 => by rw [(a h).2.1 h2], fun h2 => ?_⟩, fun h => by rw [b h]⟩
  obtain ⟨p', q1, q2, q3⟩ := (a h).2.2 h2
  exact ⟨p', rfl, rfl, rfl, q1, q2, q3⟩)
theorem any67_gives : Gives prog RG 54 (cAnyW 67) := gives (allCons idx67_gives allNil) (fun _ => noL) (by kernel_rfl) (by kernel_rfl) (by kernel_rfl) fun (l, ()) _ => (any67_eq l).mpr (fun _ => by rw [firstAt_any (by decide)])
theorem any106_gives : Gives prog RG 54 (cAnyW 106) := gives (allCons idx106_gives allNil) (fun _ => noL) (by kernel_rfl) (by kernel_rfl) (by kernel_rfl) fun (l, ()) _ => (any106_eq l).mpr (fun _ => by rw [firstAt_any (by decide)])

theorem any_all (l : List Int) : (!!l.any fun n => !isWord n) = !l.all isWord := by
  induction l with
  | nil => rfl
  | cons x r ih =>
    simp only [Bool.not_not] at ih
    simp [ih, Bool.not_and]

theorem len0 (l : List Int) : ((l.length : Int) == 0) = l.isEmpty := by cases l <;> simp; omega

theorem kWords_gives : Gives prog RG 102 cKWords := gives (allCons must_gives (allCons any106_gives allNil)) (fun _ => noL) (by kernel_rfl) (by kernel_rfl) (by kernel_rfl) fun (l, L, i, ()) hp => (kWords_eq l L i).mpr (by
  intro e2 e1 e0 hs
  have he : e2 = e0 := rfl
  refine ⟨hp, fun h => ⟨?_, rfl, trivial⟩, fun h => ⟨fun h2 => ⟨?_, rfl, trivial⟩, fun h2 => ⟨?_, rfl⟩⟩⟩
  · simp only [e1, okWords, he]
    clear_value e0
    simp only [Bool.not_eq_true'] at h ⊢
    rw [h, Bool.false_and]
  · simp only [e1, okWords, he]
    rw [any_all] at h2
    clear_value e0
    simp only [Bool.not_eq_true', Bool.not_eq_false'] at h h2 ⊢
    rw [h2, Bool.and_false]
  · simp only [e1, okWords, he]
    rw [any_all] at h2
    clear_value e0
    simp only [Bool.not_eq_false'] at h h2 ⊢
    rw [h, h2]; rfl)
theorem kCat_gives : Gives prog RG 103 cKCat := gives (allCons must_gives (allCons has_gives allNil)) (fun _ => noL) (by kernel_rfl) (by kernel_rfl) (by kernel_rfl) fun (l, L, i, ()) hp => (kCat_eq l L i).mpr (by
  intro e1 e0 hs
  have he : e1 = e0 := rfl
  rw [len0, he]
  clear_value e0
  exact ⟨hp, fun h => ⟨h, rfl, trivial⟩, fun h => ⟨h, rfl⟩⟩)
theorem kPart_gives : Gives prog RG 104 cKPart := gives (allCons must_gives (allCons has_gives allNil)) (fun _ => noL) (by kernel_rfl) (by kernel_rfl) (by kernel_rfl) fun (l, L, i, ()) hp => (kPart_eq l L i).mpr (by
  intro e2 e1 e0 hs
  have he : e2 = e0 := rfl
  have hk : okPart e0 L i = ((decide ((0 : Int) ≤ e0.a) && decide (e0.a < i) && e0.b == (0 : Int) && e0.n == (0 : Int) && e0.words.isEmpty) && (decide (e0.len ≥ (0 : Int)) && decide (e0.len ≤ Option.getD (mget (fun (x y : Int) => x == y) L e0.a) (0 : Int)) && decide (e0.from_ ≥ (0 : Int)) &&
      decide (e0.from_ ≤ IntKind.wrap IntKind.i64 (Option.getD (mget (fun (x y : Int) => x == y) L e0.a) (0 : Int) - e0.len)))) := by
    simp only [okPart, hasB, lg, Bool.and_assoc, ge_iff_le]
    rfl
  simp only [e1]
  rw [len0, he, hk]
  clear_value e0
  generalize (decide ((0 : Int) ≤ e0.a) && decide (e0.a < i) && e0.b == (0 : Int) && e0.n == (0 : Int) && e0.words.isEmpty) = A
  generalize (decide (e0.len ≥ (0 : Int)) && decide (e0.len ≤ Option.getD (mget (fun (x y : Int) => x == y) L e0.a) (0 : Int)) && decide (e0.from_ ≥ (0 : Int)) &&
      decide (e0.from_ ≤ IntKind.wrap IntKind.i64 (Option.getD (mget (fun (x y : Int) => x == y) L e0.a) (0 : Int) - e0.len))) = B
  refine ⟨hp, ?_⟩
  cases A <;> cases B <;> simp)
theorem kOff_gives : Gives prog RG 105 cKOff := gives (allCons must_gives (allCons has_gives (allCons isW_gives allNil))) (fun _ => noL) (by kernel_rfl) (by kernel_rfl) (by kernel_rfl) fun (l, L, i, ()) hp => (kOff_eq l L i).mpr (by
  intro e1 e0 hs
  have he : e1 = e0 := rfl
  rw [len0, he]
  clear_value e0
  refine ⟨hp, fun h => ⟨h, ?_⟩, fun h => ⟨h, rfl⟩⟩
  first | exact ⟨rfl, trivial⟩ | exact trivial | simp)

end Go.Rp
end

section
set_option linter.unusedVariables false
set_option linter.unusedSimpArgs false
set_option maxRecDepth 100000
open Go Go.VT
namespace Go.Rp

theorem kind_gives (i : Int) (f : FuncId) (h : ([102, 103, 104, 105] : List FuncId)[i.toNat]? = some f) : Gives prog RG f (cKind i) := by
  have hi : i ≤ 0 ∨ i = 1 ∨ i = 2 ∨ i = 3 ∨ 4 ≤ i := by omega
  rcases hi with hi | rfl | rfl | rfl | hi
  · rw [show i.toNat = 0 by omega] at h
    cases h
    have : cKind i = cKWords := by
      simp only [cKind, if_pos hi]
      rfl
    rw [this]
    exact kWords_gives
  · cases h; exact kCat_gives
  · cases h; exact kPart_gives
  · cases h; exact kOff_gives
  · obtain ⟨n, rfl⟩ : ∃ n : Nat, i = (n + 4 : Nat) := ⟨i.toNat - 4, by omega⟩
    rw [Int.toNat_natCast] at h
    simp at h

theorem opened {l : List Node} {r : List Int} {i : Nat} (hi : i < l.length) (hl : l.length ≤ 4000) (hs : ∀ j : Nat, j < i → stepOk l j = true) {k : Int} (hk : k = (l.getD i node0).kind) {v : Int} (hv : v = valK (l.getD i node0) (longOf (l.take i)))
    {b : Bool} (hb : b = badK (l.getD i node0) (longOf (l.take i)) i) :
    ((!(decide (k ≥ 0) && decide (k < 4))) = true → askedOf l r = 1) ∧ ((!(decide (k ≥ 0) && decide (k < 4))) = false → (0 ≤ k ∧ k < 4) ∧ (b = true → askedOf l r = 1) ∧
      (b = false → ((!decide ((mget (fun (x y : Int) => x == y) (mput (fun (x y : Int) => x == y) (longOf (l.take i)) i v) i).getD 0 ≤ 1048576)) = true → askedOf l r = 1) ∧
        ((!decide ((mget (fun (x y : Int) => x == y) (mput (fun (x y : Int) => x == y) (longOf (l.take i)) i v) i).getD 0 ≤ 1048576)) = false → stepOk l i = true ∧ mput (fun (x y : Int) => x == y) (longOf (l.take i)) i v = longOf (l.take (i + 1))))) := by
  obtain ⟨p1, p2⟩ := prog_step hi hs
  rw [← hk, ← hv, ← hb] at p2
  rw [← hk] at p1
  refine ⟨fun h => asked_step hl hi (p1 ?_), fun h => ?_⟩
  · simp only [Bool.not_eq_true', Bool.and_eq_false_iff, decide_eq_false_iff_not] at h; omega
  · simp only [Bool.not_eq_false', Bool.and_eq_true, decide_eq_true_eq] at h
    obtain ⟨q1, q2⟩ := p2 (by omega) (by omega)
    refine ⟨by omega, fun h => asked_step hl hi (q1 h), fun h => ?_⟩
    obtain ⟨q3, q4⟩ := q2 h
    rw [mget_put]
    refine ⟨fun h => asked_step hl hi (q3 (by simpa using h)), fun h => ?_⟩
    obtain ⟨q5, q6⟩ := q4 (by simpa using h)
    refine ⟨q5, ?_⟩
    rw [take_succ_getD hi node0, longOf_snoc, ← q6]
    have hl : (l.take i).length = i := by simp; omega
    have h1 : (lensOf (l.take i)).length = i := by rw [lensOf_length, hl]
    rw [hl]
    have := mput_long v (lensOf (l.take i)) 0
    rw [h1, Nat.zero_add] at this
    exact this

theorem open_vc (l : List Node) (r : List Int) : vc (EVt tabR [(53, cMust), (56, cHas)]) (lOpen l r) Go.Proofs.Tryd.f49 cOpen (l, r, ()) := (open_eq l r).mpr (by
  intro e1 e0 hs1 hs2
  have hl1 : l.length ≤ 140737488355328 := hs1.len
  have hl2 : r.length ≤ 140737488355328 := hs2.len
  have hne : ∀ {e : Int}, askedOf l r = e → (e != 0) = true → (askedOf l r != 0) = true ∧ askedOf l r = e ∧ True := fun h h2 => ⟨by rw [h]; exact h2, h, trivial⟩
  refine ⟨fun h => ?_, fun h => ?_⟩
  · have h : ¬ (l.length : Int) ≤ 4000 := by simpa [e1] using h
    exact hne (e := 3) (by rw [askedOf, checkOf, if_pos (show 4000 < l.length by omega)]; rfl) rfl
  · have hl : l.length ≤ 4000 := by
      have h : (l.length : Int) ≤ 4000 := by simpa [e1] using h
      omega
    clear_value e1 e0
    refine ⟨⟨(0, [], ()), by trivial, by trivial, by trivial, by trivial, by trivial, by trivial, by trivial, by trivial, by trivial, by decide, by dsimp only; omega, fun i hi => by simp at hi, by simp [longOf, lensOf, longFrom]⟩, ?_⟩
    rintro ⟨i, L, ⟨⟩⟩
    dsimp only
    rintro ⟨q0, q1, q2, rfl⟩
    obtain ⟨m, rfl⟩ := Int.eq_ofNat_of_zero_le q0
    simp only [Int.toNat_natCast] at q2 ⊢
    refine ⟨fun hm => ?_, fun hm => ?_⟩
    · have hm : m < l.length := by simpa using hm
      obtain ⟨z1, z2⟩ := opened (r := r) hm hl q2 rfl rfl rfl
      refine ⟨⟨q0, by omega⟩, fun h => hne (z1 h) rfl, fun h => ?_⟩
      obtain ⟨z3, z4, z5⟩ := z2 h
      refine ⟨z3, z3, ⟨⟨⟨q0, by omega⟩, by trivial, by trivial⟩, by trivial, by trivial⟩, fun h => hne (z4 h) rfl, fun h => ?_⟩
      obtain ⟨z6, z7⟩ := z5 h
      refine ⟨fun h => hne (z6 h) rfl, fun h => ?_⟩
      obtain ⟨z8, z9⟩ := z7 h
      refine ⟨((m + 1 : Nat), _, ()), by trivial, by trivial, by trivial, by trivial, by trivial, ?_, by trivial, by trivial, by trivial, ⟨by omega, by dsimp only; omega, fun j hj => ?_, ?_⟩, by dsimp only; omega⟩
      · rw [w64_id (by omega) (by omega)]; rfl
      · dsimp only at hj
        rw [Int.toNat_natCast] at hj
        rcases Nat.lt_succ_iff_lt_or_eq.1 hj with h3 | h3
        · exact q2 j h3
        · subst h3; exact z8
      · dsimp only
        rw [Int.toNat_natCast]
        exact z9
    · have hm : l.length ≤ m := by simpa using hm
      have hmm : m = l.length := by omega
      subst hmm
      have hv : validOf l = true := valid_steps.2 q2
      have hc : checkOf l = 0 := by simp [checkOf, hv, show ¬ 4000 < l.length by omega]
      have hask : askedOf l r = if r.all fun r => lies r 0 (l.length - 1) then 0 else 2 := by rw [askedOf, if_neg (by simp [hc])]
      refine ⟨⟨(0, ()), by trivial, by trivial, by trivial, by trivial, by trivial, by trivial, by trivial, by trivial, by trivial, by trivial, by trivial, by trivial, by trivial, by decide, by dsimp only; omega, fun i hi => by simp at hi⟩, ?_⟩
      rintro ⟨i, ⟨⟩⟩
      dsimp only
      rintro ⟨w0, w1, w2⟩
      obtain ⟨k, rfl⟩ := Int.eq_ofNat_of_zero_le w0
      simp only [Int.toNat_natCast] at w2 ⊢
      refine ⟨fun hk => ?_, fun hk => ?_⟩
      · have hk : k < r.length := by simpa using hk
        refine ⟨⟨w0, by omega⟩, fun hb => hne (e := 2) ?_ rfl, fun hb => ?_⟩
        · rw [hask, if_neg]
          intro hall
          have := List.all_eq_true.1 hall (r.getD k 0) (by simp only [List.getD, List.getElem?_eq_getElem hk]; exact List.getElem_mem _)
          rw [lies_iff] at this
          simp only [Bool.not_eq_true', Bool.and_eq_false_iff, decide_eq_false_iff_not] at hb
          omega
        · refine ⟨((k + 1 : Nat), ()), by trivial, by trivial, by trivial, by trivial, by trivial, by trivial, by trivial, by trivial, by trivial, ?_, by trivial, by trivial, by trivial, ⟨by omega, by dsimp only; omega, fun j hj => ?_⟩, by dsimp only; omega⟩
          · rw [w64_id (by omega) (by omega)]; rfl
          · dsimp only at hj
            rw [Int.toNat_natCast] at hj
            rcases Nat.lt_succ_iff_lt_or_eq.1 hj with h3 | h3
            · exact w2 j h3
            · subst h3
              rw [lies_iff]
              simp only [Bool.not_eq_false', Bool.and_eq_true, decide_eq_true_eq] at hb
              omega
      · have hk : r.length ≤ k := by simpa using hk
        rw [hask, if_pos, List.take_of_length_le (Nat.le_refl _)]
        · exact ⟨rfl, rfl⟩
        · rw [List.all_eq_true]
          intro x hx
          obtain ⟨i, hi, rfl⟩ := List.mem_iff_getElem.1 hx
          have := w2 i (by omega)
          simpa only [List.getD, List.getElem?_eq_getElem hi, Option.getD_some] using this)

theorem tab_gives : ∀ (fs : List FuncId) (i : Int) (f : FuncId) (k : Con RU), fs[i.toNat]? = some f → k ∈ tabR fs i → Gives prog RG f k := by
  intro fs i f k h hk
  unfold tabR at hk
  cases hb : (fs == [102, 103, 104, 105]) with
  | false => rw [hb] at hk; simp at hk
  | true =>
    rw [hb] at hk
    simp only [cond_true, List.mem_singleton] at hk
    subst hk
    rw [eq_of_beq hb] at h
    exact kind_gives i f h
theorem open_gives : Gives prog RG 49 cOpen := givesT tab_gives (allCons must_gives (allCons has_gives allNil)) (fun p => lOpen p.1 p.2.1) (by kernel_rfl) (by kernel_rfl) (by kernel_rfl) fun (l, r, ()) _ => open_vc l r
end Go.Rp
end

section
set_option linter.unusedVariables false
set_option linter.unusedSimpArgs false
set_option maxRecDepth 100000
namespace Go.Rp
open Go Go.VT

theorem lens_bound {l : List Node} (h : validOf l = true) {a : Int} (h0 : 0 ≤ a) (h1 : a < l.length) : 0 ≤ at_ (lensOf l) a ∧ at_ (lensOf l) a ≤ 1048576 := by
  obtain ⟨k, rfl⟩ := Int.eq_ofNat_of_zero_le h0
  exact (valid_lens h k (by omega)).1

def grow {α : Type} (g : List Int → α → Int) (l : List α) : List Int := l.foldl (fun out x => out ++ [g out x]) []
theorem grow_snoc {α : Type} (g : List Int → α → Int) (l : List α) (x : α) : grow g (l ++ [x]) = grow g l ++ [g (grow g l) x] := by simp [grow]
theorem grow_length {α : Type} (g : List Int → α → Int) (l : List α) : (grow g l).length = l.length := by
  have : ∀ (l : List α) (out : List Int), (l.foldl (fun out x => out ++ [g out x]) out).length = out.length + l.length := by
    intro l
    induction l with
    | nil => intro out; rfl
    | cons x l ih => intro out; rw [List.foldl_cons, ih]; simp; omega
  unfold grow
  simpa using this l []
theorem grow_take {α : Type} (g : List Int → α → Int) : ∀ (l : List α) (m : Nat), m ≤ l.length → grow g (l.take m) = (grow g l).take m := by
  intro l
  generalize hn : l.length = n
  induction n generalizing l with
  | zero =>
    intro m hm
    have : l = [] := List.length_eq_zero_iff.1 hn
    subst this
    simp [grow]
  | succ n ih =>
    intro m hm
    have hne : l ≠ [] := by intro h; rw [h] at hn; cases hn
    obtain ⟨l', x, rfl⟩ : ∃ l' x, l = l' ++ [x] := ⟨l.dropLast, l.getLast hne, (List.dropLast_concat_getLast hne).symm⟩
    have hl' : l'.length = n := by simpa using hn
    rcases Nat.lt_or_ge m (n + 1) with h | h
    · rw [List.take_append_of_le_length (by omega), ih l' hl' m (by omega), grow_snoc, List.take_append_of_le_length (by rw [grow_length]; omega)]
    · rw [List.take_of_length_le (by simp; omega), List.take_of_length_le (by rw [grow_length]; simp; omega)]

theorem depths_grow (l : List Node) : depthsOf l = grow depthOf l := rfl

theorem imax (x y : Int) : (if y > x then y else x) = max x y := by
  rw [Int.max_def]; split <;> split <;> omega

end Go.Rp
end
