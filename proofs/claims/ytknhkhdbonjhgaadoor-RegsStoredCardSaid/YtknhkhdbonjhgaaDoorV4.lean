/-
What the last text of this claim uses: VtRa, VtRb, VtRc, VtRd, VtRf, VtRg, VtZ, VtFits, VtInv, VtBr, RgSpec, RgBase, RgH, RgA, RgEq1, RgB, RgC, RgEq2, RgD, RgE, RgEq3, RgF, RgG, RgEq4, RgI, RgJ, RgEq5, RgK, RgL, RgM, RgN.
-/
import Derived.Test.YtknhkhdbonjhgaaDoorV3
import Derived.RangeFuncIn
import Derived.RangeFuncLeaves
import Derived.LaidMore
import Derived.OpenShut
import Derived.ProofKit
import Derived.Laws.Bits
import Derived.Test.YtknhkhdbonjhgaaDoorProg
import Derived.KernelRfl
set_option linter.unusedVariables false
set_option linter.unusedSimpArgs false
set_option maxRecDepth 100000
noncomputable section
section
namespace Go.VT
noncomputable section
open Go.RowKit
variable {U:Univ} {E:Env U} {F:Fr} {n:Nat} {β:Nm} {s:St U} {a:Act} {tmps:Array Value} {w:World} {h:Obs U}
structure Sh (w:World) (β:Nm) (h:Obs U) (w':World) (β':Nm) (h':Obs U):Prop where
 obj:∀ id o,look id h=some o→look id h'=some o∧β' id=β id∧β'.lp id=β.lp id
 size:w.heap.size≤w'.heap.size
 heap:∀ b,b<w.heap.size→¬ Live β h b→w'.heap[b]? =w.heap[b]?
 live:∀ b,b<w.heap.size→Live β' h' b→Live β h b
section
variable {w':World} {β':Nm} {h':Obs U}
theorem Sh.rep (x:Sh w β h w' β' h') {d:Datum U} {v:Value} (r:Rep U w (Live β h) d v):Rep U w' (Live β' h') d v:=r.mono x.size x.heap x.live
theorem Sh.cell (x:Sh w β h w' β' h') {c:Cell U} {v:Value} (r:CRel w β h c v):CRel w' β' h' c v:=by
 cases c with
 |un=>trivial
 |d y=>exact x.rep r
 |row id ver=>
  obtain ⟨e,t,l,ver',lv,hl,hle,hv⟩:=r
  obtain ⟨q1,q2,q3⟩:=x.obj id _ hl
  exact ⟨e,t,l,ver',lv,q1,hle,fun hh=>(hv hh).trans q2.symm⟩
 |ptr id off=>
  obtain ⟨e,cs,b,hl,hb,hv⟩:=r
  obtain ⟨q1,q2,q3⟩:=x.obj id _ hl
  exact ⟨e,cs,b,q1,q2.trans hb,hv⟩
 |elt id ver i off=>
  obtain ⟨e,t,l,ver',lv,hl,hle,hv⟩:=r
  obtain ⟨q1,q2,q3⟩:=x.obj id _ hl
  refine ⟨e,t,l,ver',lv,q1,hle,fun hh=>?_⟩
  obtain ⟨h0,h1,g,c,r1,r2⟩:=hv hh
  exact ⟨h0,h1,g,c,q2.trans r1,r2⟩
 |rd cs off=>
  obtain ⟨g,o,hv,hM,hg,hc⟩:=r
  refine ⟨g,o,hv,fun hh=>hM (x.live g hg hh),by have:=x.size;omega,fun j d hd=>?_⟩
  obtain ⟨u,hu,hr⟩:=hc j d hd
  exact ⟨u,by rw [←hu];exact World.cell?_of_block (x.heap g hg hM),x.rep hr⟩
 |gl g=>exact r
 |lit u=>exact r
 |map id=>
  obtain ⟨kt,vt,l,hl,hv⟩:=r
  obtain ⟨q1,q2,q3⟩:=x.obj id _ hl
  exact ⟨kt,vt,l,q1,hv.trans q2.symm⟩
 |clo f ids=>
  obtain ⟨bs,hv,hl,hb⟩:=r
  refine ⟨bs,hv,hl,fun j id b hj hbj=>?_⟩
  obtain ⟨e,cs,q1,q2⟩:=hb j id b hj hbj
  obtain ⟨r1,r2,r3⟩:=x.obj id _ q1
  exact ⟨e,cs,r1,r2.trans q2⟩
 |yld id=>
  obtain ⟨st,hl,hv⟩:=r
  obtain ⟨q1,q2,q3⟩:=x.obj id _ hl
  exact ⟨st,q1,hv.trans q2.symm⟩
 |ifc t b ds=>
  obtain ⟨vs,q1,q2,q3,q4,q5⟩:=r
  exact ⟨vs,q1,q2,q3,q4,fun j d u hd hu=>x.rep (q5 j d u hd hu)⟩
 |tab g i=>exact r
 |tabf fs i=>exact r
 |dc id c=>
  obtain ⟨D,hl,hv⟩:=r
  obtain ⟨q1,q2,q3⟩:=x.obj id _ hl
  exact ⟨D,q1,by rw [q2];exact hv⟩
 |bnd f id=>
  obtain ⟨e,cs,b,hl,hb,hv⟩:=r
  obtain ⟨q1,q2,q3⟩:=x.obj id _ hl
  exact ⟨e,cs,b,q1,q2.trans hb,hv⟩
theorem Sh.cs (x:Sh w β h w' β' h') {cs:List (Cell U)} {vs:List Value} (r:CsRel w β h cs vs):CsRel w' β' h' cs vs:=
 ⟨r.1,r.2.1,fun j c v hc hv=>x.cell (r.2.2 j c v hc hv)⟩
theorem Sh.vr (x:Sh w β h w' β' h') {y:Bool×List (Cell U)} {v:Value} (r:VRel w β h y v):VRel w' β' h' y v:=by
 obtain ⟨b,cs⟩:=y
 cases b with
 |true=>obtain ⟨vs,hv,hc⟩:=r;exact ⟨vs,hv,x.cs hc⟩
 |false=>exact x.cs r
theorem Sh.p (x:Sh w β h w' β' h') {σ:List (Nat×PV U)} {p:PV U} {v:Value} (r:PRel w β h σ p v):PRel w' β' h' σ p v:=by
 induction p with
 |un=>trivial
 |one c=>exact x.cs r
 |agg cs=>exact x.vr r
 |tup xs=>
  obtain ⟨vs,hv,hl,hh⟩:=r
  exact ⟨vs,hv,hl,fun j y u hy hu=>x.vr (hh j y u hy hu)⟩
 |opt gs p ih=>exact ⟨fun hc=>ih (r.1 hc),r.2⟩
theorem Sh.o {B:Nat} (x:Sh w β h w' β' h') {id:Nat} {o:Ob U} (hl:look id h=some o) (hb:∀ b,Has (β id) b→w'.heap[b]? =w.heap[b]?) (r:ORel B w β h id o):ORel B w' β' h' id o:=by
 obtain ⟨_,hβ,hlp⟩:=x.obj id o hl
 cases o with
 |box e cs=>
  obtain ⟨b,vs,h1,h2,h3,h4⟩:=r
  exact ⟨b,vs,hβ.trans h1,h2,by rw [hb b (by rw [h1];exact rfl)];exact h3,x.cs h4⟩
 |row e t l ver lv=>
  obtain ⟨xs,h1,h2,h2',h3⟩:=r
  refine ⟨xs,?_,h2,h2',fun i y hy j d hd=>?_⟩
  ·rw [hβ]
   exact h1.kept (fun b hbb=>hb b (h1.has hbb))
  ·obtain ⟨u,hu,hr⟩:=h3 i y hy j d hd
   exact ⟨u,hu,x.rep hr⟩
 |map kt vt l=>
  obtain ⟨b,es,clock,h1,h2,h3,h4,h5⟩:=r
  refine ⟨b,es,clock,hβ.trans h1,h2,by rw [hb b (by rw [h1];exact rfl)];exact h3,h4,fun i y e hy he=>?_⟩
  obtain ⟨q1,q2⟩:=h5 i y e hy he
  exact ⟨q1.mono x.size x.heap x.live,q2.mono x.size x.heap x.live⟩
 |loop st=>
  obtain ⟨b,r,h1,h2,h3,h4⟩:=r
  exact ⟨b,r,hβ.trans h1,h2,by rw [hb b (by rw [h1];exact rfl)];exact h3,by rw [hlp];exact h4⟩
 |dp D=>
  show DRel B w' β' h' D (β' id)
  rw [hβ]
  exact DRel.map (fun _ _ hr=>x.rep hr) (fun _ _ hr=>x.cell hr) hb r
end
theorem cb9 (k:Ok F w β h) {w':World} {D:Nat→Prop} (hbel:Below F.B w w') (hDs:∀ b,D b→b<w'.heap.size) (hheap:∀ b,b<w.heap.size→¬ D b→w'.heap[b]? =w.heap[b]?)
  (hno:∀ id o b,look id h=some o→Has (β id) b→¬ D b) (hM:∀ b,D b→b<w.heap.size→β.M b) (hgl:∀ g fs,(g,fs)∈F.G→¬ D g):Ok (F.shut w' D) w' (β.shut D) h∧Sh w β h w' (β.shut D) h:=by
 have hsz0:F.w0.heap.size≤w.heap.size:=k.bel.size
 have hsh:Sh w β h w' (β.shut D) h:=by
  refine ⟨fun id o hl=>⟨hl,rfl,rfl⟩,hbel.size,fun b hb hn=>hheap b hb (fun hd=>hn (.inl (hM b hd hb))),fun b hb hl=>?_⟩
  rcases hl with (hl|hl)|hl
  ·exact .inl hl
  ·exact .inl (hM b hl hb)
  ·exact .inr hl
 refine ⟨⟨Below.refl _ _,Nat.le_trans k.hB hbel.size,fun id o hl=>hsh.o hl (fun b hb=>hheap b ((k.obj id o hl).blk hb).2 (hno id o b hl hb)) (k.obj id o hl),k.dis,fun b hb hK=>rfl,fun id o b q1 q2=>?_,fun id o b q1 q2=>?_,fun b hb=>?_,by show (β.shut D).M=_;unfold Nm.shut Fr.shut;simp only [k.Meq],fun id o v q1 q2=>k.fix id o v q1 q2,k.nmg,fun g fs hgf=>?_⟩,hsh⟩
 ·exact .inl ⟨k.own id o b q1 q2,hno id o b q1 q2⟩
 ·rintro (hm|hm)
  ·exact k.Mo id o b q1 q2 hm
  ·exact hno id o b q1 q2 hm
 ·rcases hb with hb|hb
  ·exact Nat.lt_of_lt_of_le (k.Mlt b hb) (Nat.le_trans hsz0 hbel.size)
  ·exact hDs b hb
 ·obtain ⟨q1,q2,q3⟩:=k.glo g fs hgf
  have hgw:g<w.heap.size:=Nat.lt_of_lt_of_le q1 hsz0
  refine ⟨Nat.lt_of_lt_of_le hgw hbel.size,fun hk=>?_,fun i f hf=>?_⟩
  ·rcases hk.1 with h5|h5
   ·exact q2 h5
   ·omega
  ·rw [←q3 i f hf]
   exact World.cell?_of_block ((hheap g hgw (hgl g fs hgf)).trans (k.frm g q1 q2))
theorem bI0 {wa:World} {D:Nat→Prop} (k:Ok (F.shut wa D) w β h) {w':World} (hbel:Below F.B w w') (hs:w'.heap.size=w.heap.size) (hheap:∀ b,¬ D b→w'.heap[b]? =w.heap[b]?) (hDs:∀ b,D b→b<wa.heap.size)
  (hgl:∀ g fs,(g,fs)∈F.G→¬ D g) (hwa:F.w0.heap.size≤wa.heap.size):Ok (F.shut w' D) w' β h∧Sh w β h w' β h:=by
 have hDM:∀ b,D b→β.M b:=fun b hb=>by rw [k.Meq];exact .inr hb
 have hsz0:wa.heap.size≤w.heap.size:=k.bel.size
 have hno:∀ id o b,look id h=some o→Has (β id) b→¬ D b:=fun id o b q1 q2 hd=>k.Mo id o b q1 q2 (hDM b hd)
 have hsh:Sh w β h w' β h:=⟨fun id o hl=>⟨hl,rfl,rfl⟩,by omega,fun b hb hn=>hheap b (fun hd=>hn (.inl (hDM b hd))),fun b _ hl=>hl⟩
 refine ⟨⟨Below.refl _ _,by have:=k.hB;rw [hs];exact this,fun id o hl=>hsh.o hl (fun b hb=>hheap b (hno id o b hl hb)) (k.obj id o hl),k.dis,fun b hb hK=>rfl,fun id o b q1 q2=>?_,k.Mo,fun b hb=>?_,k.Meq,k.fix,k.nmg,fun g fs hgf=>?_⟩,hsh⟩
 ·refine .inl ⟨?_,hno id o b q1 q2⟩
  rcases k.own id o b q1 q2 with h5|h5
  ·exact h5.1
  ·right
   have h5:wa.heap.size≤b:=h5
   omega
 ·have:=k.Mlt b hb
  have this:b<wa.heap.size:=this
  show b<w'.heap.size
  omega
 ·obtain ⟨q1,q2,q3⟩:=k.glo g fs hgf
  have q1:g<wa.heap.size:=q1
  refine ⟨by show g<w'.heap.size;omega,fun hk=>?_,fun i f hf=>?_⟩
  ·rcases hk.1 with h5|h5
   ·exact q2 ⟨.inl h5,hk.2⟩
   ·exact q2 ⟨.inr h5,hk.2⟩
  ·rw [←q3 i f hf]
   exact World.cell?_of_block ((hheap g (hgl g fs hgf)).trans (k.frm g q1 q2))
theorem bc3 {wa wb w':World} {βa:Nm} {ha:Obs U} {D:Nat→Prop} (k0:Ok F wa βa ha) (hab:Below F.B F.w0 wb) (hfrm:∀ b,b<F.w0.heap.size→¬ F.K b→wb.heap[b]? =F.w0.heap[b]?) (k:Ok (F.shut wb D) w' β h):
  Ok F w' ⟨β.v,F.M,β.lp⟩ h∧Sh w' β h w' ⟨β.v,F.M,β.lp⟩ h∧∀ b,D b→b<wb.heap.size→w'.heap[b]? =wb.heap[b]? ∧∀ id o,look id h=some o→¬ Has (β id) b:=by
 have hDM:∀ b,F.M b→β.M b:=fun b hb=>by rw [k.Meq];exact .inl hb
 have hsh:Sh w' β h w' ⟨β.v,F.M,β.lp⟩ h:=⟨fun id o hl=>⟨hl,rfl,rfl⟩,Nat.le_refl _,fun _ _ _=>rfl,fun b _ hl=>hl.imp (hDM b) (fun h=>h)⟩
 refine ⟨⟨hab.trans k.bel,k.hB,fun id o hl=>hsh.o hl (fun _ _=>rfl) (k.obj id o hl),k.dis,fun b hb hK=>?_,fun id o b q1 q2=>?_,fun id o b q1 q2 hm=>k.Mo id o b q1 q2 (hDM b hm),fun b hb=>k0.Mlt b (by rw [k0.Meq];exact hb),rfl,k.fix,k.nmg,k0.glo⟩,hsh,fun b hd hb=>⟨k.frm b hb (fun hk=>hk.2 hd),fun id o q1 q2=>k.Mo id o b q1 q2 (by rw [k.Meq];exact .inr hd)⟩⟩
 ·rw [←hfrm b hb hK]
  refine k.frm b (Nat.lt_of_lt_of_le hb hab.size) ?_
  rintro ⟨h5|h5,_⟩
  ·exact hK h5
  ·omega
 ·rcases k.own id o b q1 q2 with h5|h5
  ·exact h5.1
  ·right
   have h5:wb.heap.size≤b:=h5
   have:=hab.size
   omega
theorem am8 {id:Nat}:∀ {h:Obs U} {u:Obs U},look id (h++u)=match look id h with
  |some o=>some o
  |none=>look id u
 |[],u=>rfl
 |(j,o)::r,u=>by
  simp only [List.cons_append,look]
  split
  ·rfl
  ·exact am8
theorem bS9 {wa wb w':World} {βa:Nm} {ha:Obs U} {l id:Nat} {st:Int} (k0:Ok F wa βa ha) (hab:Below F.B F.w0 wb) (hfrm:∀ b,b<F.w0.heap.size→¬ F.K b→wb.heap[b]? =F.w0.heap[b]?) (k:Ok (F.shut wb (·=l)) w β h)
  (hid:look id h=none) (hK:F.K l) (hM:¬ F.M l) (hBl:F.B≤l) (hll:l<wb.heap.size) {lp:Loop×(Int→Option Code)} (hfix:∀ v,F.nm id=some v→(Value.func (.yield l) #[] #[],lp)=v)
  (hbel:Below F.B w w') (hs:w'.heap.size=w.heap.size) (hheap:∀ b,b≠l→w'.heap[b]? =w.heap[b]?) (hl:w'.heap[l]? =some (.loop { lp.1 with state:=if st=0 then .ready else .done,pending:=lp.2 st })):
  ∃ β',Ok F w' β' (h++[(id,.loop st)])∧Sh w β h w' β' (h++[(id,.loop st)]):=by
 have hne:∀ j o,look j h=some o→j≠id:=fun j o hj e=>by rw [e,hid] at hj;cases hj
 have hlM:β.M l:=by rw [k.Meq];exact .inr rfl
 have hDM:∀ b,F.M b→β.M b:=fun b hb=>by rw [k.Meq];exact .inl hb
 let β':Nm:=⟨fun j=>if j=id then .func (.yield l) #[] #[] else β j,F.M,fun j=>if j=id then lp else β.lp j⟩
 have hv:∀ j,j≠id→β' j=β j:=fun j hj=>if_neg hj
 have hv0:β' id=.func (.yield l) #[] #[]:=if_pos rfl
 have hl0:β'.lp id=lp:=if_pos rfl
 have hobj:∀ j o,look j h=some o→look j (h++[(id,.loop st)])=some o∧β' j=β j∧β'.lp j=β.lp j:=by
  intro j o hj
  refine ⟨by rw [am8,hj],hv j (hne j o hj),if_neg (hne j o hj)⟩
 have hinv:∀ j o,look j (h++[(id,.loop st)])=some o→(look j h=some o)∨(j=id∧o=.loop st):=by
  intro j o hj
  rw [am8] at hj
  cases hc:look j h with
  |some o'=>rw [hc] at hj;exact .inl hj
  |none=>
   rw [hc] at hj
   simp only [look] at hj
   split at hj
   ·rename_i hb
    simp only [co4] at hj
    exact .inr ⟨(co5 hb).symm,hj.symm⟩
   ·cases hj
 have hsh:Sh w β h w' β' (h++[(id,.loop st)]):=by
  refine ⟨hobj,by omega,fun b hb hn=>hheap b (fun e=>hn (.inl (by rw [e];exact hlM))),fun b hb hL=>?_⟩
  rcases hL with hL|⟨j,o,q1,q2,q3⟩
  ·exact .inl (hDM b hL)
  ·rcases hinv j o q1 with q4|⟨rfl,rfl⟩
   ·rw [hv j (hne j o q4)] at q3
    exact .inr ⟨j,o,q4,q2,q3⟩
   ·rw [hv0] at q3
    simp only [Has,D8,co4] at q3
    rw [←q3]
    exact .inl hlM
 have hno:∀ j o b,look j h=some o→Has (β j) b→b≠l:=fun j o b q1 q2 e=>k.Mo j o b q1 q2 (by rw [e];exact hlM)
 refine ⟨β',⟨(hab.trans k.bel).trans hbel,by have:=k.hB;rw [hs];exact this,fun j o hj=>?_,fun j o j' o' b q1 q2 q3 q4=>?_,fun b hb hKb=>?_,fun j o b q1 q2=>?_,fun j o b q1 q2 hm=>?_,fun b hb=>k0.Mlt b (by rw [k0.Meq];exact hb),rfl,fun j o v q1 q2=>?_,k.nmg,k0.glo⟩,hsh⟩
 ·rcases hinv j o hj with q4|⟨rfl,rfl⟩
  ·exact hsh.o q4 (fun b hb=>hheap b (hno j o b q4 hb)) (k.obj j o q4)
  ·exact ⟨l,_,hv0,hBl,hl,by rw [hl0]⟩
 ·rcases hinv j o q1 with r1|⟨rfl,rfl⟩<;>rcases hinv j' o' q2 with r2|⟨rfl,rfl⟩
  ·rw [hv j (hne j o r1)] at q3
   rw [hv j' (hne j' o' r2)] at q4
   exact k.dis j o j' o' b r1 r2 q3 q4
  ·rw [hv j (hne j o r1)] at q3
   rw [hv0] at q4
   simp only [Has,D8,co4] at q4
   exact absurd q4.symm (hno j o b r1 q3)
  ·rw [hv j' (hne j' o' r2)] at q4
   rw [hv0] at q3
   simp only [Has,D8,co4] at q3
   exact absurd q3.symm (hno j' o' b r2 q4)
  ·rfl
 ·have hbl:b≠l:=fun e=>hKb (by rw [e];exact hK)
  rw [hheap b hbl,←hfrm b hb hKb]
  refine k.frm b (Nat.lt_of_lt_of_le hb hab.size) ?_
  rintro ⟨h5|h5,_⟩
  ·exact hKb h5
  ·omega
 ·rcases hinv j o q1 with r1|⟨rfl,rfl⟩
  ·rw [hv j (hne j o r1)] at q2
   rcases k.own j o b r1 q2 with h5|h5
   ·exact h5.1
   ·right
    have h5:wb.heap.size≤b:=h5
    have:=hab.size
    omega
  ·rw [hv0] at q2
   simp only [Has,D8,co4] at q2
   rw [←q2]
   exact .inl hK
 ·rcases hinv j o q1 with r1|⟨rfl,rfl⟩
  ·rw [hv j (hne j o r1)] at q2
   exact k.Mo j o b r1 q2 (hDM b hm)
  ·rw [hv0] at q2
   simp only [Has,D8,co4] at q2
   exact hM (by rw [q2];exact hm)
 ·rcases hinv j o q1 with r1|⟨rfl,rfl⟩
  ·rw [hv j (hne j o r1),show β'.lp j=β.lp j from if_neg (hne j o r1)]
   exact k.fix j o v r1 q2
  ·right
   rw [hv0,hl0]
   exact hfix v q2
end
end Go.VT
end
section
namespace Go.VT
noncomputable section
open Go.RowKit
variable {U:Univ} {E:Env U} {F:Fr} {n:Nat} {β:Nm} {s:St U} {a:Act} {tmps:Array Value} {w:World} {h:Obs U}
def bx5 (P:Program) (l:Nat) (R:Ending→World→Prop):Exit→Act→World→Prop
 | .panic ch,a,w=>a.defers=[]∧R (.panicked ch) w
 |e,a,w=>roundPost P l R e a w
theorem bT0 {G:Fence} {P:Program} {l:Nat} {f:FuncId} {tmps:Array Value} {assign body:Code} {w:World} {R:Ending→World→Prop} (hF:G.fn f) (hf:∃ fn,P.funcs[f]? =some fn)
  (h:assign.wpIn (G.inRound l) 0 P (fun e a₁ w₁=>match e with
   | .normal=>∃ w₂,(Instr.beginRound l).run P w₁=.ok () w₂∧body.wpIn (G.inRound l) 0 P (bx5 P l R) a₁ w₂
   |_=>False) { tmps:=tmps,defers:=[] } w):
  RoundIn G 0 P l f tmps assign body w R:=by
 refine ⟨hF,fun c cs hr=>?_⟩
 let b:Frame:={ (default:Frame) with fn:=f,kind:=.normal,roundOf:=some l }
 have hb0:Frame.round l f tmps assign body .normal=b.atR { tmps:=tmps,defers:=[] } [.code assign,.beginRound,.code body]:=by
  simp [Frame.round,Frame.atR,b]
 have hr':(G.inRound l).room ((c::cs).length+1+0):=hr
 have hF':(G.inRound l).fn b.fn:=hF
 obtain ⟨e,a₁,w₁,hq,harr⟩:=h b [.beginRound,.code body] (c::cs) rfl hF' hr'
 rw [←hb0] at harr
 cases e with
 |normal=>
  obtain ⟨w₂,hbr,hbody⟩:=hq
  have s1:StepsIn (Machine.fenced P (G.inRound l)) P (lone (b.atR a₁ [.beginRound,.code body]) (c::cs) w₁) (lone (b.atR a₁ [.code body]) (c::cs) w₂):=
   .one (fenced_calm (fr:=b.atR a₁ [.beginRound,.code body]) hF' hr' rfl) (stepR_beginRound rfl hbr)
  obtain ⟨e₂,a₂,w₃,hq₂,harr₂⟩:=hbody b [] (c::cs) rfl hF' hr'
  cases e₂ with
  |normal=>
   obtain ⟨v,w₄,hend,hR⟩:=hq₂
   exact ⟨.returned v,w₄,hR,(StepsIn.trans harr s1).trans (StepsIn.trans harr₂ (.one (fenced_calm (fr:=b.atR a₂ []) hF' hr' rfl) (stepR_round_end rfl rfl hend)))⟩
  |ret=>
   obtain ⟨v,w₄,hend,hR⟩:=hq₂
   obtain ⟨k₁,hs⟩:=harr₂.2 rfl
   exact ⟨.returned v,w₄,hR,(StepsIn.trans harr s1).trans (StepsIn.trans hs (.one (fenced_calm (fr:=b.atR a₂ (.code .ret::k₁)) hF' hr' rfl) (stepR_round_ret rfl rfl hend)))⟩
  |exit id=>
   obtain ⟨v,w₄,hend,hR⟩:=hq₂
   obtain ⟨k₁,hk,hs⟩:=harr₂.2 rfl rfl
   exact ⟨.returned v,w₄,hR,(StepsIn.trans harr s1).trans (StepsIn.trans hs (.one (fenced_calm (fr:=b.atR a₂ (.code (.exit id)::k₁)) hF' hr' rfl) (stepR_round_exit rfl rfl hk hend)))⟩
  |goto t=>
   obtain ⟨v,w₄,hend,hR⟩:=hq₂
   obtain ⟨k₁,hk,hs⟩:=harr₂.2 rfl rfl
   exact ⟨.returned v,w₄,hR,(StepsIn.trans harr s1).trans (StepsIn.trans hs (.one (fenced_calm (fr:=b.atR a₂ (.code (.goto t)::k₁)) hF' hr' rfl) (stepR_round_goto rfl rfl hk hend)))⟩
  |panic chain=>
   obtain ⟨hd,hR⟩:=hq₂
   obtain ⟨todo,hs⟩:=harr₂
   have hleave:Frame.leaving P ({ b.atR a₂ todo with mode:=.panicking chain }) w₃ (.panicked chain):=⟨rfl,hd,hf⟩
   refine ⟨.panicked chain,w₃,hR,(StepsIn.trans harr s1).trans (StepsIn.trans hs (.one (fenced_leaving (n:=0) hF' hr' hleave) ?_))⟩
   exact step_leave_panicked hleave
  |outgrown=>exact hq₂.elim
 |exit id=>exact hq.elim
 |goto t=>exact hq.elim
 |ret=>exact hq.elim
 |panic chain=>exact hq.elim
 |outgrown=>exact hq.elim
def ae2 (jump:Option Code) (st:Int):Option Code:=if st=0 then none else jump
theorem bT1 {w2:World} {β2:Nm} {h2:Obs U} {rn:List (Nat×Nat)} {B2:Nat} (hd:∀ (x:Datum U) (v:Value),Rep U w (Live β h) x v→Rep U w2 (Live β2 h2) x v)
  (hn:∀ id i o,look id rn=some i→look id h=some o→o.isRow=false→∃ o2,look (oid i) h2=some o2∧β2 (oid i)=β id∧ORel B2 w2 β2 h2 (oid i) o2∧∀ D,o2≠.dp D)
  (hob:∀ id o,look id h=some o→ORel F.B w β h id o) {c:Cell U} {v:Value} (r:CRel w β h c v):CRel w2 β2 h2 (renC rn c) v:=by
 cases c with
 |un=>trivial
 |d x=>exact hd _ _ r
 |row id ver=>trivial
 |ptr id off=>
  simp only [renC]
  split
  ·rename_i i hi
   obtain ⟨e,cs,b,q1,q2,q3⟩:=r
   obtain ⟨o2,r1,r2,r3,r4⟩:=hn id i _ hi q1 rfl
   cases o2 with
   |box e' cs'=>
    exact ⟨e',cs',b,r1,r2.trans q2,q3⟩
   |row e' t l ver lv=>
    obtain ⟨xs,h1,_⟩:=r3
    rw [r2,q2] at h1
    rcases h1.2 with ⟨h3,_⟩|⟨g,cap,cur,h3,_⟩<;>(rcases h3 with h3|h3<;>cases h3)
   |map kt vt l=>
    obtain ⟨b',es,cl,h1,_⟩:=r3
    rw [r2,q2] at h1
    cases h1
   |loop st=>
    obtain ⟨b',r',h1,_⟩:=r3
    rw [r2,q2] at h1
    cases h1
   |dp D=>exact (r4 D rfl).elim
  ·trivial
 |elt id ver i off=>trivial
 |rd cs off=>trivial
 |gl g=>exact r
 |lit u=>exact r
 |map id=>
  simp only [renC]
  split
  ·rename_i i hi
   obtain ⟨kt,vt,l,q1,q3⟩:=r
   obtain ⟨b,es,clk,q2,_⟩:=hob id _ q1
   obtain ⟨o2,r1,r2,r3,r4⟩:=hn id i _ hi q1 rfl
   cases o2 with
   |map kt' vt' l'=>exact ⟨kt',vt',l',r1,q3.trans r2.symm⟩
   |box e' cs'=>
    obtain ⟨b',vs,h1,_⟩:=r3
    rw [r2,q2] at h1
    cases h1
   |row e' t l ver lv=>
    obtain ⟨xs,h1,_⟩:=r3
    rw [r2,q2] at h1
    rcases h1.2 with ⟨h3,_⟩|⟨g,cap,cur,h3,_⟩<;>(rcases h3 with h3|h3<;>cases h3)
   |loop st=>
    obtain ⟨b',r',h1,_⟩:=r3
    rw [r2,q2] at h1
    cases h1
   |dp D=>exact (r4 D rfl).elim
  ·trivial
 |clo f ids=>trivial
 |yld id=>trivial
 |ifc t b ds=>trivial
 |tab g i=>exact r
 |tabf fs i=>exact r
 |dc id c=>trivial
 |bnd f id=>
  simp only [renC]
  split
  ·rename_i i hi
   obtain ⟨e,cs,b,q1,q2,q3⟩:=r
   obtain ⟨o2,r1,r2,r3,r4⟩:=hn id i _ hi q1 rfl
   cases o2 with
   |box e' cs'=>
    exact ⟨e',cs',b,r1,r2.trans q2,q3⟩
   |row e' t l ver lv=>
    obtain ⟨xs,h1,_⟩:=r3
    rw [r2,q2] at h1
    rcases h1.2 with ⟨h3,_⟩|⟨g,cap,cur,h3,_⟩<;>(rcases h3 with h3|h3<;>cases h3)
   |map kt vt l=>
    obtain ⟨b',es,cl,h1,_⟩:=r3
    rw [r2,q2] at h1
    cases h1
   |loop st=>
    obtain ⟨b',r',h1,_⟩:=r3
    rw [r2,q2] at h1
    cases h1
   |dp D=>exact (r4 D rfl).elim
  ·trivial
theorem bx6 (rn:List (Nat×Nat)) (p:PV U):(renP rn p).plain=true:=by cases p<;>rfl
theorem ck4 {w2:World} {β2:Nm} {h2:Obs U} {rn:List (Nat×Nat)} (hc:∀ (c:Cell U) (v:Value),CRel w β h c v→CRel w2 β2 h2 (renC rn c) v) {σ σ':List (Nat×PV U)} {p:PV U} {v:Value} (r:PRel w β h σ p v):PRel w2 β2 h2 σ' (renP rn p) v:=by
 have hcs:∀ cs vs,CsRel w β h cs vs→CsRel w2 β2 h2 (cs.map (renC rn)) vs:=by
  intro cs vs r
  refine ⟨by simpa using r.1,r.2.1,fun j c v hj hv=>?_⟩
  simp only [cp9,cp1] at hj
  obtain ⟨c',h3,rfl⟩:=hj
  exact hc c' v (r.2.2 j c' v h3 hv)
 cases p with
 |un=>trivial
 |one c=>exact hcs [c] [v] r
 |agg cs=>
  obtain ⟨vs,hv,hcr⟩:=r
  exact ⟨vs,hv,hcs cs vs hcr⟩
 |tup xs=>trivial
 |opt gs p=>trivial
abbrev pv (x:Bool×List (Cell U)):PV U:=match x.1 with
 |true=>.agg x.2
 |false=>match x.2 with
  |[c]=>.one c
  |_=>.un
theorem bZ6 {x:Bool×List (Cell U)} {v:Value} (r:VRel w β h x v) (σ:List (Nat×PV U)):PRel w β h σ (pv x) v∧(pv x).plain=true:=by
 obtain ⟨b,cs⟩:=x
 cases b with
 |true=>exact ⟨r,rfl⟩
 |false=>
  have hl:[v].length=cs.length:=r.1
  match cs,hl with
  |[c],_=>exact ⟨r,rfl⟩
theorem bc4 {h:Obs U}:∀ {ts:List Nat} {gs:List (Bool×List (Cell U))} {vs:List Value} {σ:List (Nat×PV U)} {tm:Array Value},
  (∀ (i:Nat) (x:Bool×List (Cell U)),i<ts.length→gs[i]? =some x→∃ v,vs[i]? =some v∧VRel w β h x v)→ts.length≤gs.length→(∀ t∈ts,t<tm.size)→
  (∀ t p,look t σ=some p→(∀ σ',PRel w β h σ' p (tm.getD t undef))∧p.plain=true)→
  ((ts.zip vs).foldl (fun (tm:Array Value) (x:Nat×Value)=>tm.setIfInBounds x.1 x.2) tm).size=tm.size∧
  ∀ t p,look t (bE4 ts gs σ)=some p→(∀ σ',PRel w β h σ' p (((ts.zip vs).foldl (fun (tm:Array Value) (x:Nat×Value)=>tm.setIfInBounds x.1 x.2) tm).getD t undef))∧p.plain=true
 |[],gs,vs,σ,tm,_,_,_,h4=>⟨rfl,h4⟩
 |t0::ts,[],vs,σ,tm,_,h2,_,_=>by simp at h2
 |t0::ts,x::gs,vs,σ,tm,h1,h2,h3,h4=>by
  obtain ⟨v,hv,hr⟩:=h1 0 x (by simp) rfl
  match vs,hv with
  |v'::vs,hv=>
   simp only [cp2,co4] at hv
   subst hv
   have hlt:t0<tm.size:=h3 t0 (by simp)
   have hstep:∀ t p,look t (write t0 (pv x) σ)=some p→(∀ σ',PRel w β h σ' p ((tm.setIfInBounds t0 v').getD t undef))∧p.plain=true:=by
    intro t p hl
    rw [A7] at hl
    split at hl
    ·rename_i ht
     subst ht
     simp only [co4] at hl
     subst hl
     refine ⟨fun σ'=>?_,(bZ6 hr σ).2⟩
     rw [Array.getD_eq_getD_getElem?,Array.getElem?_setIfInBounds_self]
     rw [if_pos hlt]
     exact (bZ6 hr σ').1
    ·rename_i ht
     rw [Array.getD_eq_getD_getElem?,Array.getElem?_setIfInBounds_ne (Ne.symm ht),←Array.getD_eq_getD_getElem?]
     exact h4 t p hl
   have:=bc4 (ts:=ts) (gs:=gs) (vs:=vs) (σ:=write t0 (pv x) σ) (tm:=tm.setIfInBounds t0 v') (fun i y hi hy=>by
    have:=h1 (i+1) y (by simp;omega) (by simpa using hy)
    simpa using this) (by simpa using h2) (fun t ht=>by rw [Array.size_setIfInBounds];exact h3 t (by simp [ht])) hstep
   obtain ⟨q1,q2⟩:=this
   refine ⟨by simpa using q1,fun t p hl=>?_⟩
   exact q2 t p hl
theorem bZ7 {kY:Con U} {m:Mt U}:∀ {mp:List (Nat×Nat)} {id i:Nat},look id (rnOf kY m mp)=some i→∃ j p,(i,j)∈mp∧kY.oin[i]? =some p∧p.isRow=false∧look j m.ι=some id
 |[],id,i,hl=>by simp [rnOf,look] at hl
 |(i0,j0)::r,id,i,hl=>by
  have more:look id (rnOf kY m r)=some i→∃ j p,(i,j)∈(i0,j0)::r∧kY.oin[i]? =some p∧p.isRow=false∧look j m.ι=some id:=by
   intro hl
   obtain ⟨j,p,h1,h2⟩:=bZ7 hl
   exact ⟨j,p,List.mem_cons_of_mem _ h1,h2⟩
  unfold rnOf at hl
  split at hl
  ·exact more hl
  ·exact more hl
  ·exact more hl
  ·rename_i p id0 hnr hnd hnm hp hid
   simp only [look] at hl
   split at hl
   ·rename_i hb
    have hb:=co5 hb
    simp only [co4] at hl
    subst hl;subst hb
    refine ⟨j0,p,by simp,hp,?_,hid⟩
    cases p with
    |row q=>exact (hnr q rfl).elim
    |dp q ms=>exact (hnd q ms rfl).elim
    |ms q=>exact (hnm q rfl).elim
    |_=>rfl
   ·exact more hl
  ·exact more hl
structure Begins (F0:Fr) (w1:World) (β1:Nm) (h1:Obs U) (kY:Con U) (m:Mt U) (mp:List (Nat×Nat)) (Y F2:Fr) (β2:Nm) (ds:List (Datum U)):Prop where
 ok1:Ok F0 w1 β1 h1
 W:Within Y F2 kY.yl
 Yw:Y.w0=w1
 YK:∀ b,Y.K b→Own β1 h1 b
 YM:∀ b,b<w1.heap.size→Y.M b→Live β1 h1 b
 Ynm:∀ j id o,look j m.ι=some id→look id h1=some o→o.isRow=false→Y.nm (oid j)=some (β1 id,β1.lp id)
 mp:∀ i j p,(i,j)∈mp→kY.oin[i]? =some p→p.isRow=false→(j,i)∈kY.yl
 ok2:Ok F2 F2.w0 β2 (E6 ds kY.oin)
 nm:∀ j p,kY.oin[j]? =some p→p.isRow=false→F2.nm (oid j)=some (β2 (oid j),β2.lp (oid j))
theorem Begins.rep {F0:Fr} {w1:World} {β1:Nm} {h1:Obs U} {kY:Con U} {m:Mt U} {mp:List (Nat×Nat)} {Y F2:Fr} {β2:Nm} {ds:List (Datum U)} (B:Begins F0 w1 β1 h1 kY m mp Y F2 β2 ds) {x:Datum U} {v:Value} (r:Rep U w1 (Live β1 h1) x v):Rep U F2.w0 (Live β2 (E6 ds kY.oin)) x v:=by
 have hsz:w1.heap.size≤F2.w0.heap.size:=by have:=B.W.bel.size;rw [B.Yw] at this;exact this
 refine r.mono hsz (fun b hb hn=>?_) (fun b hb hl=>?_)
 ·have:=B.W.frm b (by rw [B.Yw];exact hb) (fun hk=>hn (.inr (B.YK b hk)))
  rw [B.Yw] at this
  exact this
 ·rcases hl with hl|⟨id,o,q1,q2,q3⟩
  ·rw [B.ok2.Meq] at hl
   rcases B.W.Mup b (by rw [B.Yw];exact hb) hl with h5|h5
   ·exact B.YM b hb h5
   ·exact .inr (B.YK b h5)
  ·rcases B.ok2.own id o b q1 q3 with h5|h5
   ·exact .inr (B.YK b (B.W.K b (by rw [B.Yw];exact hb) h5))
   ·omega
theorem Begins.name {F0:Fr} {w1:World} {β1:Nm} {h1:Obs U} {kY:Con U} {m:Mt U} {mp:List (Nat×Nat)} {Y F2:Fr} {β2:Nm} {ds:List (Datum U)} (B:Begins F0 w1 β1 h1 kY m mp Y F2 β2 ds) {i j id:Nat} {p:OPat} {o:Ob U}
  (hm:(i,j)∈mp) (hp:kY.oin[i]? =some p) (hr:p.isRow=false) (hj:look j m.ι=some id) (ho:look id h1=some o) (hor:o.isRow=false):β2 (oid i)=β1 id∧β2.lp (oid i)=β1.lp id∧F2.nm (oid i)=some (β1 id,β1.lp id):=by
 have h1:=B.W.nm j i _ (B.mp i j p hm hp hr) (B.Ynm j id o hj ho hor)
 have h2:=B.nm i p hp hr
 rw [h1] at h2
 simp only [co4,cp6] at h2
 exact ⟨h2.1.symm,h2.2.symm,h1⟩
theorem Begins.rel {F0:Fr} {w1:World} {β1:Nm} {h1:Obs U} {kY:Con U} {m:Mt U} {mp:List (Nat×Nat)} {Y F2:Fr} {β2:Nm} {ds:List (Datum U)} (B:Begins F0 w1 β1 h1 kY m mp Y F2 β2 ds) {σ:List (Nat×PV U)} (R:Rel F0 n β1 ⟨σ,h1⟩ tmps w1)
  {us vs:List Value} (hcr:CsRel F2.w0 β2 (E6 ds kY.oin) (kY.ain.map (iC ds oid (fun _=>0))) us) (hpack:K8 kY.args us vs) {ps:List Nat} (hps:∀ t∈ps,t<n) (hle:ps.length≤kY.args.length):
  Rel F2 n β2 ⟨bE4 ps (D5 kY.args (kY.ain.map (iC ds oid (fun _=>0)))) (σ.map fun x=>(x.1,renP (rnOf kY m mp) x.2)),E6 ds kY.oin⟩ ((ps.zip vs).foldl (fun (tm:Array Value) (x:Nat×Value)=>tm.setIfInBounds x.1 x.2) tmps) F2.w0:=by
 have hcell:∀ (c:Cell U) (v:Value),CRel w1 β1 h1 c v→CRel F2.w0 β2 (E6 ds kY.oin) (renC (rnOf kY m mp) c) v:=fun c v r=>
  bT1 (F:=F0) (B2:=F2.B) (fun x v r=>B.rep r) (fun id i o hl ho hor=>by
   obtain ⟨j,p,q1,q2,q3,q4⟩:=bZ7 hl
   have hlk:=D6 (ds:=ds) q2
   exact ⟨_,hlk,(B.name q1 q2 q3 q4 ho hor).1,B.ok2.obj _ _ hlk,fun D hD=>by
    revert q3 hD
    cases p<;>simp only [iO,OPat.isRow,reduceCtorEq,false_implies,true_implies,implies_true,not_false_eq_true]<;>first|(split<;>simp)|simp⟩) B.ok1.obj r
 obtain ⟨g1,g2⟩:=Q6 (σ:=σ) hpack hcr
 have hlen:vs.length=kY.args.length:=R6 hpack
 obtain ⟨q1,q2⟩:=bc4 (w:=F2.w0) (β:=β2) (h:=E6 ds kY.oin) (ts:=ps) (gs:=D5 kY.args (kY.ain.map (iC ds oid (fun _=>0)))) (vs:=vs) (σ:=σ.map fun x=>(x.1,renP (rnOf kY m mp) x.2)) (tm:=tmps) (fun i x hi hx=>by
   have hlt:i<vs.length:=by rw [hlen];omega
   exact ⟨vs[i],co6 hlt,g2 i x vs[i] hx (co6 hlt)⟩) (by rw [J9];exact hle) (fun t ht=>by rw [R.sz];exact hps t ht) (fun t p hl=>by
   rw [M4] at hl
   simp only [cp1] at hl
   obtain ⟨q,hq,rfl⟩:=hl
   exact ⟨fun σ'=>ck4 hcell (R.tmp t q hq),bx6 _ _⟩)
 exact ⟨B.ok2,q1.trans R.sz,fun t p hl=>(q2 t p hl).1 _⟩
def bI1 (E:Env U) (X:Nat) (L:Nat→St U→Ann U) (k0:Nat) (kY:Con U) (rn:List (Nat×Nat)) (jl:Nat) (jump:Option Code) (ps:List Nat) (asg body:Code) (σ:List (Nat×PV U)):Prop:=
 ∀ xs:Dens U.T kY.params,holds (kY.pre.map fun p=>p xs)→aC1 (aS1 (A9 U kY.params xs) (datC kY.ain++datO kY.oin)) (match bE5 (A9 U kY.params xs) kY.oin jl with
  |some st=>st=0∧wpc E X L asg k0 (bE6 kY rn ps jl σ (A9 U kY.params xs)) (fun e s'=>match e with
   | .normal=>wpc E X L body (k0+ab8 asg) s' (aS2 kY xs jl jump)
   |_=>Bad 4014 k0)
  |none=>Bad 4015 k0)
theorem Y6 {B l:Nat} {o:Obj} (w:World) (h:B≤l):Below B w (w.putObj l o):=⟨rfl,rfl,rfl,by simp,fun k hk=>World.putObj_heap_other (by omega)⟩
theorem ae3 {h:Obs U} {id:Nat} {o:Ob U} {p:Nat→Bool} (hl:look id (W0 h ((keys h).filter p))=some o):p id=true:=(List.mem_filter.1 (aA6 hl)).2
theorem ak9 {α γ:Type} (f:α→γ):∀ (gs:List (Bool×Nat)) (cs:List α),D5 gs (cs.map f)=(D5 gs cs).map fun x=>(x.1,x.2.map f)
 |[],_=>rfl
 |(b,n)::gs,cs=>by
  simp only [D5,List.map_cons,←List.map_take,←List.map_drop]
  rw [ak9 f gs]
theorem aG4 {Y0:Fr} (hE:E.Fits) (hG:E.Sound Y0) (hyl:E.yl=[]) (hm:E.P.follows .mixedOrders=true) {F0:Fr} {β1:Nm} {σ:List (Nat×PV U)} {h1:Obs U} {w1:World} (R:Rel F0 n β1 ⟨σ,h1⟩ tmps w1) (hFG:F0.G=E.G)
  {g:Obs U} {tys:List Ty} {os:List OPat} {ds0:List (Datum U)} {m:Mt U} (G:Matched F0 w1 β1 h1 g tys os ds0 m) {kY:Con U} {mp:List (Nat×Nat)} {jl lid l:Nat} {jump:Option Code} {ps:Array Tmp} {asg body:Code} {fn:FuncId} {dd:Nat}
  (hfn:∃ f',E.P.funcs[fn]? =some f') (hlid:look lid h1=some (.loop 0)) (hβl:β1 lid=.func (.yield l) #[] #[])
  (hlp:β1.lp lid=({ state:=.ready,pending:=none,fn:=fn,tmps:=tmps,params:=ps,assign:=asg,body:=body,defers:=dd },ae2 jump))
  (hps:∀ t∈ps.toList,t<n) (hargs:kY.args.length=ps.toList.length+1) (hmp:∀ i j p,(i,j)∈mp→kY.oin[i]? =some p→p.isRow=false→(j,i)∈kY.yl) (hjl:∃ j,(jl,j)∈mp∧look j m.ι=some lid) (hjr:∃ p,kY.oin[jl]? =some p)
  (hlast:(D5 kY.args kY.ain)[ps.toList.length]? =some (false,[.yld jl])) (hres:kY.res=[(false,1)])
  (okA:K6 n asg=true) (okB:K6 n body=true) (nrA:noRF asg=true) (nrB:noRF body=true)
  {X k0:Nat} {L:Nat→St U→Ann U} (hr:bI1 E X L k0 kY (rnOf kY m mp) jl jump ps.toList asg body σ):GivesC (frOf F0 w1 β1 h1 m) (runY E.P) E.G kY:=by
 intro xs hp F2 hin β2 w2 us vs hw0 hFG2 K hnm hnm2 hcr hpack
 subst hw0
 have hrx:=ad0 (hr xs hp) (aG3 K hcr)
 split at hrx
 case h_2=>exact hrx.elim
 rename_i st hst
 obtain ⟨rfl,hrx⟩:=hrx
 --the loop's object
 obtain ⟨q,hjq,hiO⟩:∃ q,kY.oin[jl]? =some (.loop q)∧iO (A9 U kY.params xs) oid (fun _=>0) jl (.loop q)=.loop 0:=by
  unfold bE5 at hst
  split at hst
  ·rename_i q hq
   refine ⟨q,hq,?_⟩
   split at hst
   ·rename_i kk st hd
    simp only [co4] at hst
    simp only [iO,hd,hst]
   ·cases hst
  ·cases hst
 have hlkc:look (oid jl) (E6 (A9 U kY.params xs) kY.oin)=some (.loop 0):=by
  have:=D6 (ds:=A9 U kY.params xs) hjq
  rw [hiO] at this
  exact this
 obtain ⟨jj,hjm,hji⟩:=hjl
 have hne:kY.yl≠[]:=by
  intro h0
  have:=hmp jl jj _ hjm hjq rfl
  rw [h0] at this
  simp at this
 have B:Begins F0 w1 β1 h1 kY m mp (frOf F0 w1 β1 h1 m) F2 β2 (A9 U kY.params xs):=by
  refine ⟨R.ok,hin hne,rfl,fun b hb=>?_,fun b hb hM=>?_,fun j id o q1 q2 q3=>?_,hmp,K,hnm⟩
  ·obtain ⟨j,id,q1,q2⟩:=hb
   obtain ⟨p0,o0,t1,t2,t3⟩:=G.at_ q1
   exact ⟨id,o0,t2,t3.live,q2⟩
  ·exact (I3 G.k G.hf).ext.live b hb hM.1
  ·show nmOf β1 h1 m (oid j)=_
   unfold nmOf
   have e1:1000000≤oid j:=by unfold oid;omega
   have e2:oid j-1000000=j:=by unfold oid;omega
   simp only [e1,if_true,e2,q1,q2,q3,Bool.false_eq_true,if_false]
 obtain ⟨n1,n2,n3⟩:=B.name hjm hjq rfl hji hlid rfl
 obtain ⟨b,r,o1,o2,o3,o4⟩:=K.obj _ _ hlkc
 rw [n1,hβl] at o1
 simp only [Value.func.injEq,Fn.yield.injEq,and_true] at o1
 subst o1
 rw [n2,hlp] at o4
 simp only [if_true,ae2] at o4
 have hlsz:l<F2.w0.heap.size:=by
  have:=cq2.1 o3
  exact this.1
 have hblk:Has (β2 (oid jl)) l:=by rw [n1,hβl];exact rfl
 have hKl:F2.K l:=(K.own _ _ l hlkc hblk).resolve_right (by omega)
 have hMl:¬ F2.M l:=fun h=>K.Mo _ _ l hlkc hblk (by rw [K.Meq];exact h)
 have hgl:∀ gg fs,(gg,fs)∈F2.G→¬ gg=l:=fun gg fs hgf e=>(K.glo gg fs hgf).2.1 (by rw [e];exact hKl)
 --the arguments
 have hvl:vs.length=ps.toList.length+1:=by rw [R6 hpack,hargs]
 obtain ⟨gr1,gr2⟩:=Q6 (σ:=[]) hpack hcr
 have hlt:ps.toList.length<vs.length:=by omega
 have hyv:vs[ps.toList.length]=.func (.yield l) #[] #[]:=by
  have hx:(D5 kY.args (kY.ain.map (iC (A9 U kY.params xs) oid (fun _=>0))))[ps.toList.length]? =some (false,[.yld (oid jl)]):=by
   rw [ak9,cp9,hlast]
   rfl
  have:=gr2 _ _ _ hx (co6 hlt)
  have hc:CsRel F2.w0 β2 (E6 (A9 U kY.params xs) kY.oin) [.yld (oid jl)] [vs[ps.toList.length]]:=this
  obtain ⟨st',q1,q2⟩:=hc.inv.2
  rw [q2,n1,hβl]
 have hvs:vs=vs.take ps.toList.length++[.func (.yield l) #[] #[]]:=by
  rw [←hyv]
  have h1:=List.take_append_drop ps.toList.length vs
  have h2:vs.drop ps.toList.length=[vs[ps.toList.length]]:=by
   rw [List.drop_eq_getElem_cons hlt,List.drop_of_length_le (by omega)]
  rw [h2] at h1
  exact h1.symm
 have hzip:ps.toList.zip vs=ps.toList.zip (vs.take ps.toList.length):=by
  have hl2:ps.toList.length=(vs.take ps.toList.length).length:=by rw [cr3];omega
  conv=>lhs;rw [hvs]
  have:=List.zip_append (l₁:=ps.toList) (l₂:=vs.take ps.toList.length) (r₁:=[]) (r₂:=[Value.func (.yield l) #[] #[]]) hl2
  simpa using this
 have R2:=B.rel R hcr hpack hps (by omega)
 have hfold:(r.params.zip (vs.take ps.toList.length).toArray).foldl (fun tmps (t,a)=>tmps.setIfInBounds t a) r.tmps=(ps.toList.zip vs).foldl (fun (tm:Array Value) (x:Nat×Value)=>tm.setIfInBounds x.1 x.2) tmps:=by
  rw [hzip,o4,←Array.foldl_toList]
  simp
 refine ⟨vs.take ps.toList.length,l,r,hvs,o3,?_,fun ro=>?_⟩
 ·have hs:ps.toList.length=ps.size:=by simp
  rw [o4,cr3]
  show min ps.toList.length vs.length=ps.size
  omega
 rw [hfold]
 rw [show r.fn=fn by rw [o4],show r.assign=asg by rw [o4],show r.body=body by rw [o4]]
 obtain ⟨f',hf'⟩:=hfn
 refine bT0 (by show (E.P.funcs[fn]?).isSome=true;rw [hf'];rfl) ⟨f',hf'⟩ ?_
 --the assignment
 have hK0:=bH4 R2 (bh6 (bE4 ps.toList (D5 kY.args (kY.ain.map (iC (A9 U kY.params xs) oid (fun _=>0)))) (σ.map fun x=>(x.1,renP (rnOf kY m mp) x.2)))) ((keys (E6 (A9 U kY.params xs) kY.oin)).filter fun id=>!(Nat.beq id (oid jl)))
  (w':=F2.w0) (D:=(·=l)) (fun b hb=>.inr ⟨oid jl,_,hlkc,rfl,by rw [hb];exact hblk⟩) (fun id o b hl hb hbl=>by
   have h1:=ae3 hl
   have:=K.dis id o (oid jl) _ l (M5 hl) hlkc (by rw [←hbl];exact hb) hblk
   rw [this,Nat.beq_refl] at h1
   cases h1) (Below.refl _ _) (fun _ _ _=>rfl)
 obtain ⟨R3,hO3⟩:=hK0
 refine K0 (ro:=some l) (Y:=Y0) hE hG (fun h=>absurd hyl h) (by show F2.G=E.G;exact hFG2) hm X L asg k0 _ _ okA nrA hrx _ { tmps:=(ps.toList.zip vs).foldl (fun (tm:Array Value) (x:Nat×Value)=>tm.setIfInBounds x.1 x.2) tmps,defers:=[] } F2.w0 R3 hO3 _ (fun way e s' β' a' w2a he h1 R' hO' hd=>?_)
 cases way with
 |exit id=>exact h1.elim
 |ret=>exact h1.elim
 |panic v=>exact h1.elim
 |normal=>
 have he:e=.normal:=he
 subst he
 have hlk2:w2a.heap[l]? =some (.loop r):=by
  have:=R'.frm l hlsz (fun hk=>hk.2 rfl)
  rw [this]
  exact o3
 have hl2:l<w2a.heap.size:=(cq2.1 hlk2).1
 have hbr:=run_beginRound (P:=E.P) hlk2 (by rw [o4])
 refine ⟨_,hbr,?_⟩
 have hb2:Below F2.B w2a (w2a.putObj l (.loop { r with state:=.busy })):=Y6 w2a o2
 obtain ⟨k4,sh4⟩:=bI0 (F:=F2) (wa:=F2.w0) (D:=(·=l)) R'.ok hb2 (by simp) (fun b hb=>World.putObj_heap_other hb) (fun b hb=>by rw [hb];exact hlsz) hgl (Nat.le_refl _)
 have R4:Rel (F2.shut (w2a.putObj l (.loop { r with state:=.busy })) (·=l)) n β' s' a'.tmps (w2a.putObj l (.loop { r with state:=.busy })):=⟨k4,R'.sz,fun t p hl=>sh4.p (R'.tmp t p hl)⟩
 have hwl:(w2a.putObj l (.loop { r with state:=.busy })).heap[l]? =some (.loop { r with state:=.busy }):=World.putObj_heap_same hl2
 have hab:Below F2.B F2.w0 (w2a.putObj l (.loop { r with state:=.busy })):=Below.trans R'.bel hb2
 have hfrm:∀ b,b<F2.w0.heap.size→¬ F2.K b→(w2a.putObj l (.loop { r with state:=.busy })).heap[b]? =F2.w0.heap[b]? :=by
  intro b hb hk
  rw [World.putObj_heap_other (fun e=>hk (by rw [e];exact hKl))]
  refine R'.frm b hb ?_
  rintro ⟨h5|h5,_⟩
  ·exact hk h5
  ·omega
 generalize hw2b:w2a.putObj l (.loop { r with state:=.busy })=w2b at R4 hwl hab hfrm
 have hl3:l<w2b.heap.size:=(cq2.1 hwl).1
 --what comes at the end
 have fin:∀ (st:Int) (bv:Bool) (jmp:Option Code) (β'':Nm) (s'':St U) (a'':Act) (w3:World),Rel (F2.shut w2b (·=l)) n β'' s'' a''.tmps w3→(look (oid jl) s''.h).isNone=true→
   (if jmp.isNone=true then LoopState.ready else .done)=(if st=0 then .ready else .done)→jmp=ae2 jump st→bv=jmp.isNone→bh8 kY xs (s''.h++[(oid jl,.loop st)]) [.d ⟨.bool,bv⟩]→
   ∃ v w',(Instr.endRound l jmp).run E.P w3=.ok v w'∧((∀ b,kY.bad=some b→(b xs).1=false)∧∃ β' rs,Ok F2 w' β' (E6 (A9 U kY.tys (kY.fn xs)) kY.oout)∧ac2 kY.res rs v∧
     CsRel w' β' (E6 (A9 U kY.tys (kY.fn xs)) kY.oout) (kY.rout.map (iC (A9 U kY.tys (kY.fn xs)) oid (fun _=>0))) rs):=by
  intro st bv jmp β'' s'' a'' w3 R5 hno hstate hj hbv hpost
  have h3:w3.heap[l]? =some (.loop { r with state:=.busy }):=by
   have:=R5.frm l hl3 (fun hk=>hk.2 rfl)
   rw [this]
   exact hwl
  have hl4:l<w3.heap.size:=(cq2.1 h3).1
  have hend:=run_endRound (P:=E.P) jmp h3
  refine ⟨_,_,hend,?_⟩
  have hrec:({ ({ r with state:=.busy }:Loop) with state:=if jmp.isNone=true then .ready else .done,pending:=jmp }:Loop)={ state:=if st=0 then .ready else .done,pending:=ae2 jump st,fn:=fn,tmps:=tmps,params:=ps,assign:=asg,body:=body,defers:=dd }:=by
   rw [o4,hstate,←hj]
  obtain ⟨β3,K3,_⟩:=bS9 (F:=F2) (wa:=F2.w0) (wb:=w2b) (w':=w3.putObj l (.loop { ({ r with state:=.busy }:Loop) with state:=if jmp.isNone=true then .ready else .done,pending:=jmp })) (l:=l) (id:=oid jl) (st:=st) K hab hfrm R5.ok (by simpa using hno) hKl hMl o2 hl3
   (lp:=({ state:=.ready,pending:=none,fn:=fn,tmps:=tmps,params:=ps,assign:=asg,body:=body,defers:=dd },ae2 jump)) (fun v hv=>by
    rw [n3,hβl,hlp] at hv
    exact Option.some.inj hv) (Y6 w3 o2) (by simp) (fun b hb=>World.putObj_heap_other hb) (by
    rw [World.putObj_heap_same hl4,hrec])
  obtain ⟨p1,β4,p2,p3⟩:=aG0 hpost K3 (rs:=[.bool bv]) ⟨rfl,fun v hv=>by simp only [cp5] at hv;subst hv;rfl,fun j c v hc hv=>by
   match j,hc,hv with
   |0,hc,hv=>
    simp only [cp2,co4] at hc hv
    subst hc;subst hv
    exact Rep.bool _
   |j+1,hc,hv=>simp at hc⟩ hnm2
  refine ⟨p1,β4,[.bool bv],p2,?_,p3⟩
  rw [hres]
  exact ⟨_,[],[],rfl,rfl,by rw [hbv],rfl,rfl⟩
 refine K0 (ro:=some l) (Y:=Y0) hE hG (fun h=>absurd hyl h) (by show F2.G=E.G;exact hFG2) hm X L body _ _ _ okB nrB h1 β' a' w2b R4 hO' _ (fun way e s'' β'' a'' w3 he h2 R5 hO5 hd5=>?_)
 unfold aS2 at h2
 cases hno:(look (oid jl) s''.h).isNone with
 |false=>rw [hno] at h2;exact h2.elim
 |true=>
 rw [hno] at h2
 simp only [cond_true] at h2
 cases way with
 |normal=>
  have he:e=.normal:=he
  subst he
  exact fin 0 true none β'' s'' a'' w3 R5 hno rfl (by simp [ae2]) rfl h2
 |ret=>
  have he:e=.ret:=he
  subst he
  simp only at h2
  split at h2
  ·exact fin 1 false (some .ret) β'' s'' a'' w3 R5 hno rfl (by simp [ae2]) rfl h2
  ·exact h2.elim
 |exit id=>
  have he:e=.exit id:=he
  subst he
  simp only at h2
  split at h2
  ·rename_i id' heq
   simp only [cp7] at h2
   split at h2
   ·rename_i hb
    have:=co5 hb
    subst this
    exact fin 1 false (some (.exit id)) β'' s'' a'' w3 R5 hno rfl (by simp [ae2]) rfl h2
   ·exact h2.elim
  ·exact h2.elim
 |panic v=>
  obtain ⟨u,hpi,rfl⟩:=he
  refine ⟨hd5.trans hd,?_⟩
  simp only [bE7] at h2
  split at h2
  ·exact h2.elim
  ·rename_i bb hbb
   have:=aN5 h2.2
   refine ⟨bb,u,hbb,h2.1,rfl,by rw [this];exact hpi,hab.trans R5.bel,?_⟩
   intro blk hblk hK
   rw [←hfrm blk hblk hK]
   refine R5.frm blk (Nat.lt_of_lt_of_le hblk hab.size) ?_
   rintro ⟨h5|h5,_⟩
   ·exact hK h5
   ·omega
abbrev aN6 (r:Nat):Deferred:={ target:=.collected r,args:=#[] }
inductive Later (F:Fr) (ds:List Deferred):Fr→List Deferred→Prop where
 |refl:Later F ds F ds
 |step (F1:Fr) (ds1:List Deferred) (w0 wa:World) (β0:Nm) (h0:Obs U) (r:Nat):Later F ds F1 ds1→Ok F1 w0 β0 h0→Below F1.B F1.w0 wa→(∀ b,b<F1.w0.heap.size→¬ F1.K b→wa.heap[b]? =F1.w0.heap[b]?)→F1.B≤r→F1.w0.heap.size≤r→r<wa.heap.size→wa.heap[r]? =some (.deferred (some []))→Later F ds (F1.shut wa (·=r)) (aN6 r::ds1)
theorem Later.trans {F F1 F2:Fr} {ds ds1 ds2:List Deferred} (x:Later (U:=U) F ds F1 ds1) (y:Later (U:=U) F1 ds1 F2 ds2):Later (U:=U) F ds F2 ds2:=by
 induction y with
 |refl=>exact x
 |step F1' ds1' w0 wa β0 h0 r _ k0 hb hf hbr hn hr hw ih=>exact .step F1' ds1' w0 wa β0 h0 r ih k0 hb hf hbr hn hr hw
theorem Later.G {F F1:Fr} {ds ds1:List Deferred} (x:Later (U:=U) F ds F1 ds1):F1.G=F.G:=by
 induction x with
 |refl=>rfl
 |step _ _ _ _ _ _ _ _ _ _ _ _ _ _ _ ih=>exact ih
theorem Later.nm {F F1:Fr} {ds ds1:List Deferred} (x:Later (U:=U) F ds F1 ds1):F1.nm=F.nm:=by
 induction x with
 |refl=>rfl
 |step _ _ _ _ _ _ _ _ _ _ _ _ _ _ _ ih=>exact ih
theorem Later.size {F F1:Fr} {ds ds1:List Deferred} (x:Later (U:=U) F ds F1 ds1):F.w0.heap.size≤F1.w0.heap.size:=by
 induction x with
 |refl=>exact Nat.le_refl _
 |step F1' ds1' w0 wa β0 h0 r _ k0 hb hf hbr hn hr hw ih=>exact Nat.le_trans ih hb.size
theorem Later.back {F F1:Fr} {ds ds1:List Deferred} (x:Later (U:=U) F ds F1 ds1):∀ {w':World} {β':Nm} {h':Obs U},Ok F1 w' β' h'→∃ rs:List Nat,ds1=rs.map aN6++ds∧rs.Nodup∧
  (∀ r∈rs,w'.heap[r]? =some (.deferred (some []))∧(∀ id o,look id h'=some o→¬ Has (β' id) r)∧F.w0.heap.size≤r∧r<F1.w0.heap.size)∧∃ β'',Ok F w' β'' h'∧Sh w' β' h' w' β'' h':=by
 induction x with
 |refl=>intro w' β' h' k;exact ⟨[],rfl,List.nodup_nil,fun r hr=>by simp at hr,β',k,⟨fun id o hl=>⟨hl,rfl,rfl⟩,Nat.le_refl _,fun _ _ _=>rfl,fun _ _ h=>h⟩⟩
 |step F1 ds1 w0 wa β0 h0 r y k0 hb hf hbr hn hr hw ih=>
  intro w' β' h' k
  obtain ⟨k1,sh1,hD⟩:=bc3 k0 hb hf k
  obtain ⟨rs,q1,q2,q3,β'',q4,q5⟩:=ih k1
  obtain ⟨d1,d2⟩:=hD r rfl hr
  have hsz:=y.size
  refine ⟨r::rs,by rw [q1];rfl,List.nodup_cons.2 ⟨fun hm=>?_,q2⟩,fun r' hr'=>?_,β'',q4,⟨fun id o hl=>⟨hl,(q5.obj id o hl).2.1,(q5.obj id o hl).2.2⟩,Nat.le_refl _,fun _ _ _=>rfl,fun b hb' hl=>sh1.live b hb' (q5.live b hb' hl)⟩⟩
  ·have:=(q3 r hm).2.2.2
   omega
  ·rcases List.mem_cons.1 hr' with h1|h1
   ·subst h1
    exact ⟨d1.trans hw,d2,by omega,hr⟩
   ·obtain ⟨e1,e2,e3,e4⟩:=q3 r' h1
    exact ⟨e1,e2,e3,Nat.lt_of_lt_of_le e4 hb.size⟩
def bs4 (F:Fr) (n:Nat) (ds:List Deferred) (Q':Way U→St U→Prop) (Q:Exit→Act→World→Prop):Prop:=
 ∀ F1 way e s' β' a' w',bs0 way e→Q' way s'→Rel F1 n β' s' a'.tmps w'→OptIn (fun _=>False) s'.σ→Later (U:=U) F ds F1 a'.defers→Q e a' w'
theorem bI2 {g:Operand} {ps:List Nat} {asg body:Code} {lid:Nat} {r:RF U} (h:rfOf E s g ps asg body lid=some r):
  ∃ f ids k mp cs m xs R,ao9 (ev s.σ g)=some (f,ids)∧(k,r.kY,mp)∈E.it f∧r.k=k∧ae8 (sub (write lid (.loop 0) s.h) R) [] none { k with yl:=[] } (.one (.yld lid)::ids.map fun id=>.one (.ptr id 0))=some r.c∧
   F7 k.args (.one (.yld lid)::ids.map fun id=>.one (.ptr id 0))=some cs∧ao8 (sub (write lid (.loop 0) s.h) R) k cs=some (xs,m)∧r.rn=rnOf r.kY m mp∧
   look lid s.h=none∧lid<1000000∧E.yl=[]∧noRF asg=true∧noRF body=true∧r.c.news=[]∧(∀ x∈k.yl,x.1=x.2)∧r.kY.args.length=ps.length+1∧
   (∀ i j p,(i,j)∈mp→r.kY.oin[i]? =some p→p.isRow=false→(j,i)∈r.kY.yl)∧(∃ j,(r.jl,j)∈mp∧look j m.ι=some lid)∧(∃ p,r.kY.oin[r.jl]? =some p)∧
   (D5 r.kY.args r.kY.ain)[ps.length]? =some (false,[.yld r.jl])∧r.kY.res=[(false,1)]∧(r.jump=none∨r.jump=some .ret∨(∃ id,r.jump=some (.exit id))∨True):=by
 unfold rfOf at h
 split at h
 case h_2=>cases h
 rename_i f ids hcal
 split at h
 case h_2=>cases h
 rename_i k kY mp rest hit0
 have hit:(k,kY,mp)∈E.it f:=(List.mem_filter.1 (by rw [hit0];exact List.mem_cons_self)).1
 dsimp only at h
 split at h
 case h_2=>cases h
 rename_i ce hce
 split at h
 case h_2=>cases h
 rename_i cs hcs
 split at h
 case h_2=>cases h
 rename_i xs m hm
 split at h
 case h_2=>cases h
 rename_i jl hjl
 generalize hcond:(_&&(kY.res==[(false,1)]))=bb at h
 cases bb with
 |false=>cases h
 |true=>
 simp only [cond_true] at h
 simp only [co7] at hcond
 obtain ⟨⟨⟨⟨⟨⟨⟨⟨⟨⟨⟨⟨⟨⟨c1,c2⟩,c3⟩,c4⟩,c5⟩,c6⟩,c7⟩,c8⟩,c9⟩,c10⟩,c11⟩,c12⟩,c13⟩,c14⟩,c15⟩:=hcond
 have hkY:r.kY=kY∧r.k=k∧r.c=ce∧r.rn=rnOf kY m mp∧r.jl=jl:=by
  split at h
  ·simp only [co4] at h;subst h;exact ⟨rfl,rfl,rfl,rfl,rfl⟩
  ·simp only [co4] at h;subst h;exact ⟨rfl,rfl,rfl,rfl,rfl⟩
  ·cases h
 obtain ⟨e1,e2,e3,e4,e5⟩:=hkY
 rw [e1,e2,e3,e4,e5]
 refine ⟨f,ids,k,mp,cs,m,xs,_,hcal,hit,rfl,hce,hcs,hm,rfl,by simpa using c1,cq7 c2,by simpa using c3,c4,c5,by simpa using c7,fun x hx=>co5 (cr4.1 c8 x hx),co5 c10,?_,?_,?_,?_,by simpa using c15,.inr (.inr (.inr trivial))⟩
 ·intro i j p hx hp hr
  have h1:=cr4.1 c12 _ hx
  simp only [hp] at h1
  cases p with
  |row q=>cases hr
  |dp q ms=>cases hr
  |ms q=>cases hr
  |box e cs=>
   simp only [co7,List.any_eq_true] at h1
   obtain ⟨⟨y,hy,hb⟩,_⟩:=h1
   rw [←co5 hb.1,←co5 hb.2]
   exact hy
  |map q=>
   simp only [co7,List.any_eq_true] at h1
   obtain ⟨⟨y,hy,hb⟩,_⟩:=h1
   rw [←co5 hb.1,←co5 hb.2]
   exact hy
  |loop q=>
   simp only [co7,List.any_eq_true] at h1
   obtain ⟨⟨y,hy,hb⟩,_⟩:=h1
   rw [←co5 hb.1,←co5 hb.2]
   exact hy
 ·rw [List.any_eq_true] at c13
  obtain ⟨x,hx,hb⟩:=c13
  simp only [co7,beq_iff_eq] at hb
  refine ⟨x.2,?_,hb.2⟩
  rw [←co5 hb.1]
  exact hx
 ·have:=cq7 c11
  exact ⟨_,co6 this⟩
 ·split at c14
  ·rename_i j' heq
   rw [heq,co5 c14]
  ·cases c14
theorem bs5 {tmps:Array Value} (R:Rel F n β s tmps w) {ids:List Nat} {w':World} (hbel:Below F.B w w')
  (hheap:∀ b,b<w.heap.size→(∀ id∈ids,∀ o,look id s.h=some o→o.live=true→¬ Has (β id) b)→w'.heap[b]? =w.heap[b]?):Rel F n β (s.less ids) tmps w'∧OptIn (fun _=>False) (s.less ids).σ:=by
 refine aF4 R _ _ hbel (fun b hb hh=>hheap b hb (fun id hid o hl hlive hblk=>?_))
 rcases hh with hh|⟨id',o',h1,h2⟩
 ·exact hh ⟨id,o,hl,hlive,hblk⟩
 ·have h3:=M5 h1
  have:=R.dis id o id' o' b hl h3 hblk h2
  subst this
  have h4:=ae3 h1
  have:(ids.any (Nat.beq id))=true:=List.any_eq_true.2 ⟨id,hid,Nat.beq_refl id⟩
  rw [this] at h4
  cases h4
theorem bI3 {g:Obs U} {k:Con U} {cs:List (Cell U)} {xs:Dens U.T k.params} {m:Mt U} (h2:ao8 g { k with yl:=[] } cs=some (xs,m)):ao8 g k cs=some (xs,m):=by
 exact h2
theorem bc5 {Y0:Fr} (hE:E.Fits) (hG:E.Sound Y0) (hFG:F.G=E.G) (hm:E.P.follows .mixedOrders=true) {X k0:Nat} {L:Nat→St U→Ann U} {g:Operand} {ps:Array Tmp} {asg body:Code} {r:RF U} (hr:rfOf E s g ps.toList asg body (990000+k0)=some r)
  (okp:∀ t∈ps.toList,t<n) (okA:K6 n asg=true) (okB:K6 n body=true) (R:Rel F n β s a.tmps w) (hO:OptIn (fun _=>False) s.σ)
  (hround:bI1 E X L k0 r.kY r.rn r.jl r.jump ps.toList asg body s.σ) (hob:holds r.c.e.obl) {Q':Way U→St U→Prop}
  (hP:∀ b v,r.c.pan=some (b,v)→b=true→Q' (.panic v) ((⟨s.σ,write (990000+k0) (.loop 0) s.h⟩:St U).less (keys r.c.e.upd++r.c.lost)))
  (hN:(∀ b v,r.c.pan=some (b,v)→b=false)→∃ st,look (990000+k0) (upds (write (990000+k0) (.loop 0) s.h) r.c.e.upd)=some (.loop st)∧bp9 r.jump st ((⟨s.σ,upds (write (990000+k0) (.loop 0) s.h) r.c.e.upd⟩:St U).less [990000+k0]) Q')
  {Q:Exit→Act→World→Prop} (hQ:bs4 F n a.defers Q' Q):(Code.rangeFunc g ps asg body).wpIn (fen E.P none) 0 E.P Q a w:=by
 obtain ⟨f,ids,k,mp,cs,m,xs0,Rids,hcal,hit,hk,hact,hcs,hmk,hrn,hfresh,hlt,hyl,nrA,nrB,hnews,hkyl,hargs,hmp,hjl,hjr,hlast,hres,_⟩:=bI2 hr
 generalize hlid:990000+k0=lid at*
 refine wpIn_rangeFunc (fun fn hfn=>?_)
 obtain ⟨f',hf'⟩:∃ f',E.P.funcs[fn]? =some f':=Option.isSome_iff_exists.1 hfn
 --the mark's block
 have hbel1:Below w.heap.size w (w.alloc (.deferred (some []))):=O8 _ _
 have hmk1:(w.alloc (.deferred (some []))).heap[w.heap.size]? =some (.deferred (some [])):=World.alloc_heap_new _ _
 obtain ⟨k1,sh1⟩:=cb9 (D:=(·=w.heap.size)) R.ok (hbel1.mono R.hB) (fun b hb=>by rw [hb];simp) (fun b hb _=>hbel1.block b hb) (fun id o b hl hb e=>by
   have:=((R.obj id o hl).blk hb).2
   omega) (fun b hb hb2=>absurd hb2 (by omega)) (fun gg fs hgf e=>by
   have:=(R.glo gg fs hgf).1
   have:=R.bel.size
   omega)
 have R1:Rel (F.shut (w.alloc (.deferred (some []))) (·=w.heap.size)) n (β.shut (·=w.heap.size)) s a.tmps (w.alloc (.deferred (some []))):=⟨k1,R.sz,fun t p hl=>sh1.p (R.tmp t p hl)⟩
 have hlater:Later (U:=U) F a.defers (F.shut (w.alloc (.deferred (some []))) (·=w.heap.size)) (aN6 w.heap.size::a.defers):=
  .step F a.defers w _ β s.h w.heap.size .refl R.ok (R.bel.trans (hbel1.mono R.hB)) (fun b hb hK=>by
   have:=R.bel.size
   rw [hbel1.block b (by omega)]
   exact R.frm b hb hK) R.hB R.bel.size (by simp) hmk1
 generalize hF':F.shut (w.alloc (.deferred (some []))) (·=w.heap.size)=F' at k1 R1 hlater
 generalize hβ':β.shut (·=w.heap.size)=βa at k1 R1 sh1
 have hw1:(w.alloc (.deferred (some []))).heap.size=w.heap.size+1:=by simp
 generalize hwa:w.alloc (.deferred (some []))=wa at*
 --the record
 let rec_:Loop:={ state:=.ready,pending:=none,fn:=fn,tmps:=a.tmps,params:=ps,assign:=asg,body:=body,defers:=w.heap.size }
 let β1:Nm:=⟨fun j=>if j=lid then .func (.yield wa.heap.size) #[] #[] else βa j,βa.M,fun j=>if j=lid then (rec_,ae2 r.jump) else βa.lp j⟩
 have hne:∀ j o,look j s.h=some o→j≠lid:=fun j o hj e=>by rw [e,hfresh] at hj;cases hj
 have hβ0:β1 lid=.func (.yield wa.heap.size) #[] #[]:=if_pos rfl
 have hlp0:β1.lp lid=(rec_,ae2 r.jump):=if_pos rfl
 have hmem1:∀ {id:Nat} {o:Ob U},(id,o)∈([(lid,.loop 0)]:Obs U)→id=lid∧o=.loop 0:=by
  intro id o hm
  simpa using hm
 have A:After F' wa βa s.h (wa.alloc (.loop rec_)) β1 (upds s.h [(lid,.loop 0)]):=by
  refine ai4 R1.ok (O8 _ _) rfl (fun id o hl=>if_neg (hne id o hl)) (fun id o hl=>if_neg (hne id o hl)) (fun id o hmm=>?_) (fun id o hmm=>?_) (fun id o gg hmm hb=>?_) (fun id o hmm hl=>?_) (fun id o id' o' gg h1 h2 _ _=>?_)
  ·rw [(hmem1 hmm).1];exact hfresh
  ·rw [(hmem1 hmm).1];exact .inr hlt
  ·rw [(hmem1 hmm).1,hβ0] at hb
   simp only [Has,D8,co4] at hb
   omega
  ·obtain ⟨rfl,rfl⟩:=hmem1 hmm
   refine ⟨wa.heap.size,rec_,hβ0,R1.hB,World.alloc_heap_new _ _,?_⟩
   rw [hlp0]
   rfl
  ·rw [(hmem1 h1).1,(hmem1 h2).1]
 have hh1:upds s.h [(lid,.loop 0)]=write lid (.loop 0) s.h:=rfl
 rw [hh1] at A
 have R2:Rel F' n β1 ⟨s.σ,write lid (.loop 0) s.h⟩ a.tmps (wa.alloc (.loop rec_)):=⟨A.ok,R1.sz,fun t p hl=>A.ext.p (R1.tmp t p hl)⟩
 have hlk1:look lid (write lid (.loop 0) s.h)=some (.loop 0):=B0 _ _ _
 generalize hw2:wa.alloc (.loop rec_)=w2 at R2 A
 --the function's value
 have hgv:PRel w2 β1 (write lid (.loop 0) s.h) s.σ (ev s.σ g) (a.eval g):=U3 (s:=⟨s.σ,write lid (.loop 0) s.h⟩) R2 g
 obtain ⟨bs,hfv,hbl,hbr⟩:=at5 hcal hgv
 have hF'G:F'.G=E.G:=by rw [hlater.G];exact hFG
 --the call
 have hin:aD1 F' w2 β1 (write lid (.loop 0) s.h) (sub (write lid (.loop 0) s.h) Rids) (runF E.P f) [] { k with yl:=[] } (.one (.yld lid)::ids.map fun id=>.one (.ptr id 0)):=by
  intro xs m' cs' h1 h2 G _ hpre
  have h1:F7 k.args (.one (.yld lid)::ids.map fun id=>.one (.ptr id 0))=some cs':=h1
  rw [hcs] at h1
  simp only [co4] at h1
  subst h1
  have h2:ao8 (sub (write lid (.loop 0) s.h) Rids) k cs=some (xs,m'):=bI3 h2
  rw [hmk] at h2
  simp only [co4,cp6] at h2
  obtain ⟨rfl,rfl⟩:=h2
  have hY:=aG4 (dd:=w.heap.size) hE hG hyl hm R2 hF'G G (kY:=r.kY) (mp:=mp) (jl:=r.jl) (lid:=lid) (l:=wa.heap.size) (jump:=r.jump) (ps:=ps) (asg:=asg) (body:=body) ⟨f',hf'⟩ hlk1 hβ0 hlp0 okp hargs hmp hjl hjr hlast hres okA okB nrA nrB (hrn▸hround)
  have hgive:=hG.it f k r.kY mp hit _ hY
  have:=hgive.2 xs0 hpre (frOf F' w2 β1 (write lid (.loop 0) s.h) m) (fun _=>⟨rfl,rfl,Below.refl _ _,fun _ _ _=>rfl,fun _ _ h=>h,fun _ h=>h,fun _ _ h=>.inl h,fun j i v hji hv=>by
   have:=hkyl _ hji
   simp only at this
   rw [←this]
   exact hv⟩)
  rw [hF'G]
  exact this
 have hent:Enters E.P f:=by
  have hY:=aG4 (dd:=w.heap.size) hE hG hyl hm R2 hF'G (ac5 R2.ok (fun _ _=>C1) hmk).1 (kY:=r.kY) (mp:=mp) (jl:=r.jl) (lid:=lid) (l:=wa.heap.size) (jump:=r.jump) (ps:=ps) (asg:=asg) (body:=body) ⟨f',hf'⟩ hlk1 hβ0 hlp0 okp hargs hmp hjl hjr hlast hres okA okB nrA nrB (hrn▸hround)
  exact (hG.it f k r.kY mp hit _ hY).1
 have hcall:=aD3 (σ:=s.σ) (us:=.func (.yield wa.heap.size) #[] #[]::bs.map fun b=>Value.pointer (some ⟨b,0,none⟩)) aD0 hin R2.ok (fun _ _=>C1) hact hob (fun id hid=>by rw [hnews] at hid;simp at hid) (by simp [hbl]) (fun j p v hp hv=>by
  match j,hp,hv with
  |0,hp,hv=>
   simp only [cp2,co4] at hp hv
   subst hp;subst hv
   exact CsRel.one rfl ⟨0,hlk1,hβ0.symm⟩
  |j+1,hp,hv=>
   simp only [List.getElem?_cons_succ,cp9,cp1] at hp hv
   obtain ⟨id,hid,rfl⟩:=hp
   obtain ⟨b,hb,rfl⟩:=hv
   obtain ⟨e',cs',q1,q2⟩:=hbr _ id b hid hb
   exact CsRel.one rfl ⟨e',cs',b,q1,q2,rfl⟩)
 refine ⟨wa.heap.size,[aN6 w.heap.size],w2,{ target:=.fn (.func f) (bs.map fun b=>Value.pointer (some ⟨b,0,none⟩)).toArray,args:=#[.func (.yield wa.heap.size) #[] #[]] },w2,f,(.func (.yield wa.heap.size) #[] #[]::bs.map fun b=>Value.pointer (some ⟨b,0,none⟩)).toArray,w2,?_,?_,?_,?_,af8,?_⟩
 ·have:=run_enterLoop_outer (P:=E.P) (w:=w) fn a.tmps ps asg body
  rw [hwa] at this
  rw [show (fen E.P none).round=none from rfl,this,←hw2,hw1]
 ·simp [rangeCall,resolve,hfv,Deferred.ofValue]
  rfl
 ·intro f'' hf''
  simp only [Target.leads,co4] at hf''
  obtain ⟨fx,h1,_⟩:=hent
  rw [←hf'']
  show (E.P.funcs[f]?).isSome=true
  rw [h1];rfl
 ·have h1:=hent.run (.func (.yield wa.heap.size) #[] #[]::bs.map fun b=>Value.pointer (some ⟨b,0,none⟩)).toArray w2
  rw [←h1]
  simp [invoke]
 ·refine CallsIn.mono hcall (fun en w3 hen=>?_)
  have hunsh:∀ {β3:Nm} {s3:St U} {w4:World} {way:Way U} {e:Exit},bs0 way e→Q' way s3→Rel F' n β3 s3 a.tmps w4→OptIn (fun _=>False) s3.σ→Q e { a with defers:=[aN6 w.heap.size]++a.defers } w4:=fun he hq R3 hO3=>hQ F' _ _ _ _ { a with defers:=[aN6 w.heap.size]++a.defers } _ he hq R3 hO3 hlater
  cases en with
  |outgrown=>exact hen.elim
  |panicked ch=>
   obtain ⟨b,u,q1,q2,rfl,q4,q5,q6⟩:=hen
   obtain ⟨R3,hO3⟩:=bs5 R2 (ids:=keys r.c.e.upd++r.c.lost) q5 q6
   obtain ⟨b0,v0⟩:=b
   exact hunsh (way:=.panic v0) ⟨u,q4,rfl⟩ (hP b0 v0 q1 q2) R3 hO3
  |returned v=>
   obtain ⟨q1,β3,A3,_⟩:=hen
   obtain ⟨st,hst,hbeh⟩:=hN (fun b v hb=>q1 (b,v) hb)
   have R3:Rel F' n β3 ⟨s.σ,upds (write lid (.loop 0) s.h) r.c.e.upd⟩ a.tmps w3:=⟨A3.ok,R2.sz,fun t p hl=>A3.ext.p (R2.tmp t p hl)⟩
   obtain ⟨o1,o2,o⟩:=A3.ext.oth lid _ hlk1 rfl
   obtain ⟨b,rr,p1,p2,p3,p4⟩:=R3.obj lid _ hst
   rw [o1,hβ0] at p1
   simp only [Value.func.injEq,Fn.yield.injEq,and_true] at p1
   subst p1
   rw [o2,hlp0] at p4
   have hend:=run_endLoop (P:=E.P) p3 (by rw [p4];dsimp only;split<;>simp)
   have hpend:rr.pending=ae2 r.jump st:=by rw [p4]
   obtain ⟨R4,hO4⟩:=bs5 R3 (ids:=[lid]) (Y6 w3 p2) (w':=w3.putObj wa.heap.size (.loop { rr with state:=.exhausted })) (fun b hb hno=>World.putObj_heap_other (fun e=>by
    subst e
    refine hno lid (by simp) _ hst rfl ?_
    rw [o1,hβ0]
    rfl))
   generalize w3.putObj wa.heap.size (.loop { rr with state:=.exhausted })=w4 at hend R4
   rw [hpend] at hend
   refine ⟨_,w4,hend,?_⟩
   unfold bp9 at hbeh
   unfold ae2
   split at hbeh
   ·rename_i hj
    obtain ⟨h0,hq⟩:=hbeh
    rw [if_pos h0]
    exact hunsh (way:=.normal) rfl hq R4 hO4
   ·rename_i hj
    by_cases h0:st=0
    ·rw [if_pos h0]
     exact hunsh (way:=.normal) rfl (hbeh.1 h0) R4 hO4
    ·rw [if_neg h0]
     rw [hj]
     exact wpIn_ret (hunsh (way:=.ret) rfl (hbeh.2 h0).2 R4 hO4)
   ·rename_i id hj
    by_cases h0:st=0
    ·rw [if_pos h0]
     exact hunsh (way:=.normal) rfl (hbeh.1 h0) R4 hO4
    ·rw [if_neg h0]
     rw [hj]
     exact wpIn_exit (hunsh (way:=.exit id) rfl (hbeh.2 h0).2 R4 hO4)
   ·exact hbeh.elim
end
end Go.VT
end
section
namespace Go.VT
noncomputable section
open Go.RowKit
variable {U:Univ} {E:Env U} {n:Nat} {s:St U} {tmps:Array Value} {h:Obs U}
theorem bI4 {Y:Fr} (hE:E.Fits) (hG:E.Sound Y) (hyl:E.yl=[]) (hm:E.P.follows .mixedOrders=true) (X:Nat) (L:Nat→St U→Ann U):∀ (c:Code) (k:Nat) (s:St U) (Q':Way U→St U→Prop),K6 n c=true→wpc E X L c k s Q'→
  ∀ (F:Fr) (β:Nm) (a:Act) (w:World),F.G=E.G→Rel F n β s a.tmps w→OptIn (fun _=>False) s.σ→∀ Q:Exit→Act→World→Prop,bs4 F n a.defers Q' Q→c.wpIn (fen E.P none) 0 E.P Q a w:=by
 have base:∀ (c:Code) (k:Nat) (s:St U) (Q':Way U→St U→Prop),K6 n c=true→noRF c=true→wpc E X L c k s Q'→
   ∀ (F:Fr) (β:Nm) (a:Act) (w:World),F.G=E.G→Rel F n β s a.tmps w→OptIn (fun _=>False) s.σ→∀ Q:Exit→Act→World→Prop,bs4 F n a.defers Q' Q→c.wpIn (fen E.P none) 0 E.P Q a w:=by
  intro c k s Q' ok nr h F β a w hFG R hO Q hQ
  exact K0 (ro:=none) hE hG (fun h=>absurd hyl h) hFG hm X L c k s Q' ok nr h β a w R hO Q (fun way e s' β' a' w' h1 h2 h3 h4 h5=>hQ F way e s' β' a' w' h1 h2 h3 h4 (h5▸.refl))
 intro c
 induction c with
 |skip=>intro k s Q' ok h;exact base _ k s Q' ok rfl h
 |region id ops d=>intro k s Q' ok h;exact base _ k s Q' ok rfl h
 |exit id=>intro k s Q' ok h;exact base _ k s Q' ok rfl h
 |ret=>intro k s Q' ok h;exact base _ k s Q' ok rfl h
 |label l=>intro k s Q' ok h;exact base _ k s Q' ok rfl h
 |goto l=>intro k s Q' ok h;exact base _ k s Q' ok rfl h
 |scope c ih=>
  intro k s Q' ok h F β a w hFG R hO Q hQ
  refine at8 (ih k s Q' ok h F β a w hFG R hO _ (fun F1 way e s' β' a' w' he h1 R' hO' hd=>?_))
  have hq:=hQ F1 way e s' β' a' w' he h1 R' hO' hd
  cases way with
  |normal=>have he':e=.normal:=he;subst he';exact hq
  |ret=>have he':e=.ret:=he;subst he';exact hq
  |exit id=>have he':e=.exit id:=he;subst he';exact hq
  |panic v=>obtain ⟨u,h2,rfl⟩:=he;exact hq
 |refuse w=>intro k s Q' ok h;exact base _ k s Q' ok rfl h
 |loop c ih=>
  intro k s Q' ok h
  cases nr:noRF c with
  |true=>exact base _ k s Q' ok nr h
  |false=>
  intro F β a w hFG R hO Q hQ
  simp only [wpc] at h
  generalize L k s=A at h
  obtain ⟨β,R,hO⟩:=Y4 (l:=A.nils) R hO
  generalize X6 s A.nils=s at h R hO
  obtain ⟨⟨p0,he0⟩,hround⟩:=h
  obtain ⟨hk0,hi0⟩:=aq7 he0
  obtain ⟨R0,hO0⟩:=aj3 R (S7 s c A) (keys s.h)
  generalize hs0:s.keep (S7 s c A) (keys s.h)=s0 at hk0 hround R0 hO0
  refine aN2 (E:=E) (α:=Dens U.T A.tys) (fun p a' w'=>∃ F1 β',Later (U:=U) F a.defers F1 a'.defers∧Rel F1 n β' (aw0 s0 A.at_ (A9 U A.tys p)) a'.tmps w'∧OptIn (fun _=>False) (aw0 s0 A.at_ (A9 U A.tys p)).σ∧A.inv p) A.μ (p0:=p0) ⟨F,β,.refl,by rw [←hk0];exact R0,by rw [←hk0];exact hO0,hi0⟩ ?_
  rintro p a1 w1 ⟨F1,β1,hL1,R1,hO1,hi1⟩
  refine ih (k+1) _ _ ok (hround p hi1) F1 β1 a1 w1 (hL1.G.trans hFG) R1 hO1 _ (fun F2 way e s' β' a' w' he h1 R' hO' hd=>?_)
  cases way with
  |normal=>
   have he':e=.normal:=he
   subst he'
   obtain ⟨p',he'⟩:=h1
   obtain ⟨hk',hi',hμ⟩:=aq7 he'
   obtain ⟨R2,hO2⟩:=aj3 R' (S7 s c A) (keys s.h)
   exact ⟨p',⟨F2,β',hL1.trans hd,by rw [←hk'];exact R2,by rw [←hk'];exact hO2,hi'⟩,hμ⟩
  |exit id=>
   have he':e=.exit id:=he
   subst he'
   exact hQ F2 (.exit id) _ s' β' a' w' rfl h1 R' hO' (hL1.trans hd)
  |ret=>
   have he':e=.ret:=he
   subst he'
   exact hQ F2 .ret _ s' β' a' w' rfl h1 R' hO' (hL1.trans hd)
  |panic v=>
   obtain ⟨u,h2,rfl⟩:=he
   exact hQ F2 (.panic v) _ s' β' a' w' ⟨u,h2,rfl⟩ h1 R' hO' (hL1.trans hd)
 |seq c d ihc ihd=>
  intro k s Q' ok h F β a w hFG R hO Q hQ
  simp only [K6,co7] at ok
  refine wpIn_seq (ihc k s _ ok.1 h F β a w hFG R hO _ (fun F1 way e s' β' a' w' he h1 R' hO' hd=>?_))
  cases way with
  |normal=>
   have he:e=.normal:=he
   subst he
   exact ihd _ s' Q' ok.2 h1 F1 β' a' w' (hd.G.trans hFG) R' hO' Q (fun F2 way2 e2 s2 β2 a2 w2 q0 q1 q2 q3 q4=>hQ F2 way2 e2 s2 β2 a2 w2 q0 q1 q2 q3 (hd.trans q4))
  |exit id=>
   have he':e=.exit id:=he
   subst he'
   exact hQ F1 (.exit id) _ s' β' a' w' rfl h1 R' hO' hd
  |ret=>
   have he':e=.ret:=he
   subst he'
   exact hQ F1 .ret _ s' β' a' w' rfl h1 R' hO' hd
  |panic v=>
   obtain ⟨u,h2,rfl⟩:=he
   exact hQ F1 (.panic v) _ s' β' a' w' ⟨u,h2,rfl⟩ h1 R' hO' hd
 |cond x c d ihc ihd=>
  intro k s Q' ok h
  cases nr:noRF (.cond x c d) with
  |true=>exact base _ k s Q' ok nr h
  |false=>
  intro F β a w hFG R hO Q hQ
  simp only [K6,co7] at ok
  have hs:Q2 (.cond x c d)=false:=by
   cases hs:Q2 (.cond x c d) with
   |false=>rfl
   |true=>rw [N5 hs] at nr;cases nr
  simp only [wpc,hs,Bool.and_false,cond_false] at h
  split at h
  ·rename_i t ht
   have hev:=U3 R x
   rw [ht] at hev
   exact wpIn_cond_split hev.bool (fun hb=>ihc k s Q' ok.1 (h.1 hb) F β a w hFG R hO Q hQ) (fun hb=>ihd _ s Q' ok.2 (h.2 hb) F β a w hFG R hO Q hQ)
  ·exact h.elim
 |block id c ihc=>
  intro k s Q' ok h F β a w hFG R hO Q hQ
  refine wpIn_block (ihc k s _ ok h F β a w hFG R hO _ (fun F1 way e s' β' a' w' he h1 R' hO' hd=>?_))
  cases way with
  |normal=>
   have he':e=.normal:=he
   subst he'
   exact hQ F1 .normal _ s' β' a' w' rfl h1 R' hO' hd
  |ret=>
   have he':e=.ret:=he
   subst he'
   exact hQ F1 .ret _ s' β' a' w' rfl h1 R' hO' hd
  |panic v=>
   obtain ⟨u,h2,rfl⟩:=he
   exact hQ F1 (.panic v) _ s' β' a' w' ⟨u,h2,rfl⟩ h1 R' hO' hd
  |exit id'=>
   have he':e=.exit id':=he
   subst he'
   simp only at h1
   show if id'=id then Q .normal a' w' else Q (.exit id') a' w'
   by_cases hid:id'=id
   ·rw [if_pos hid]
    rw [if_pos (by rw [hid];exact Nat.beq_refl id)] at h1
    exact hQ F1 .normal _ s' β' a' w' rfl h1 R' hO' hd
   ·rw [if_neg hid]
    rw [if_neg (by rw [O2 hid];simp)] at h1
    exact hQ F1 (.exit id') _ s' β' a' w' rfl h1 R' hO' hd
 |rangeFunc g ps asg body iha ihb=>
  intro k s Q' ok h F β a w hFG R hO Q hQ
  simp only [K6,co7,cr4] at ok
  simp only [wpc] at h
  obtain ⟨β,R,hO⟩:=Y4 (l:=(L (k+(ab8 asg+ab8 body)) s).nils) R hO
  generalize X6 s (L (k+(ab8 asg+ab8 body)) s).nils=s at h R hO
  split at h
  case h_2=>exact h.elim
  rename_i r hr
  obtain ⟨h1,h2,h3⟩:=h
  refine bc5 hE hG hFG hm hr (fun t ht=>cq7 (ok.1.1 t ht)) ok.1.2 ok.2 R hO h1 h2 (Q':=Q') (fun b v hp hb=>?_) (fun hno=>?_) hQ
  ·rw [hp] at h3
   exact h3.1 hb
  ·split at h3
   ·rename_i b v hp
    have h4:=h3.2 (hno b v hp)
    split at h4
    ·rename_i st hst
     exact ⟨st,hst,h4⟩
    ·exact h4.elim
   ·split at h3
    ·rename_i st hst
     exact ⟨st,hst,h3⟩
    ·exact h3.elim
theorem Sh.trans {w w1 w2:World} {β β1 β2:Nm} {h h1 h2:Obs U} (x:Sh w β h w1 β1 h1) (y:Sh w1 β1 h1 w2 β2 h2):Sh w β h w2 β2 h2:=
 ⟨fun id o hl=>by
   obtain ⟨q1,q2,q3⟩:=x.obj id o hl
   obtain ⟨r1,r2,r3⟩:=y.obj id o q1
   exact ⟨r1,r2.trans q2,r3.trans q3⟩,Nat.le_trans x.size y.size,fun b hb hn=>by
   have:=x.size
   rw [y.heap b (by omega) (fun hl=>hn (x.live b hb hl)),x.heap b hb hn],fun b hb hl=>x.live b hb (y.live b (Nat.lt_of_lt_of_le hb x.size) hl)⟩
theorem bx7 {F:Fr} {wa wb w':World} {β βa:Nm} {ha h:Obs U} {r:Nat} (k0:Ok F wa βa ha) (hab:Below F.B F.w0 wb) (hfrm:∀ b,b<F.w0.heap.size→¬ F.K b→wb.heap[b]? =F.w0.heap[b]?) (hbr:F.B≤r) (hn:F.w0.heap.size≤r) (hr:r<wb.heap.size) (k:Ok (F.shut wb (·=r)) w' β h) (o:Obj):
  Ok F (w'.putObj r o) ⟨β.v,F.M,β.lp⟩ h∧Sh w' β h (w'.putObj r o) ⟨β.v,F.M,β.lp⟩ h:=by
 have hrM:β.M r:=by rw [k.Meq];exact .inr rfl
 have hDM:∀ b,F.M b→β.M b:=fun b hb=>by rw [k.Meq];exact .inl hb
 have hno:∀ id o b,look id h=some o→Has (β id) b→b≠r:=fun id o b q1 q2 e=>k.Mo id o b q1 q2 (by rw [e];exact hrM)
 have hsh:Sh w' β h (w'.putObj r o) ⟨β.v,F.M,β.lp⟩ h:=⟨fun id o hl=>⟨hl,rfl,rfl⟩,by simp,fun b _ hn=>World.putObj_heap_other (fun e=>hn (.inl (by rw [e];exact hrM))),fun b _ hl=>hl.imp (hDM b) (fun h=>h)⟩
 refine ⟨⟨(hab.trans k.bel).trans (Y6 w' hbr),by have:=k.hB;have h1:F.B≤w'.heap.size:=this;simpa using h1,fun id o' hl=>hsh.o hl (fun b hb=>World.putObj_heap_other (hno id o' b hl hb)) (k.obj id o' hl),k.dis,fun b hb hK=>?_,fun id o' b q1 q2=>?_,fun id o' b q1 q2 hm=>k.Mo id o' b q1 q2 (hDM b hm),fun b hb=>k0.Mlt b (by rw [k0.Meq];exact hb),rfl,k.fix,k.nmg,k0.glo⟩,hsh⟩
 ·rw [World.putObj_heap_other (by omega),←hfrm b hb hK]
  refine k.frm b (Nat.lt_of_lt_of_le hb hab.size) ?_
  rintro ⟨h5|h5,_⟩
  ·exact hK h5
  ·omega
 ·rcases k.own id o' b q1 q2 with h5|h5
  ·exact h5.1
  ·right
   have h5:wb.heap.size≤b:=h5
   have:=hab.size
   omega
theorem Later.leave {F F1:Fr} {ds ds1:List Deferred} (x:Later (U:=U) F ds F1 ds1) {G:Fence} {P:Program} {fn:Func} {tmps:Array Value} {R:Ending→World→Prop} {u:FrameMode} (hu:u≠.run):∀ {w':World} {β':Nm} {h':Obs U},Ok F1 w' β' h'→
  (∀ w'' β'',Ok F w'' β'' h'→Sh w' β' h' w'' β'' h'→LeavesInM G 0 P fn tmps R ds u w'')→LeavesInM G 0 P fn tmps R ds1 u w':=by
 induction x with
 |refl=>intro w' β' h' k hq;exact hq w' β' k ⟨fun id o hl=>⟨hl,rfl,rfl⟩,Nat.le_refl _,fun _ _ _=>rfl,fun _ _ h=>h⟩
 |step F1 ds1 w0 wa β0 h0 r y k0 hb hf hbr hn hr hw ih=>
  intro w' β' h' k hq
  obtain ⟨_,_,hD⟩:=bc3 k0 hb hf k
  obtain ⟨d1,d2⟩:=hD r rfl hr
  obtain ⟨k1,sh1⟩:=bx7 k0 hb hf hbr hn hr k (.deferred none)
  refine ⟨hu,.inl ⟨r,_,rfl,run_takeDeferred (d1.trans hw),?_⟩⟩
  exact ih k1 (fun w'' β'' k2 sh2=>hq w'' β'' k2 (sh1.trans sh2))
end
end Go.VT
end
section
namespace Go.VT
noncomputable section
open Go.RowKit
variable {U:Univ} {E:Env U} {F:Fr} {n:Nat} {β:Nm} {s:St U} {a:Act} {tmps:Array Value} {w:World} {h:Obs U}
theorem aG5 {Y:Fr} (hE:E.Fits) (hG:E.Sound Y) (hm:E.P.follows .mixedOrders=true) {f:FuncId} {fn:Func} (hf:E.P.funcs[f]? =some fn) {k:Con U} {xs:Dens U.T k.params} (L:Nat→St U→Ann U) (h:vc E L fn k xs) (hyl:k.yl=E.yl):
  bi4 Y (runF E.P f) E.G k xs:=by
 intro F hY β w us vs hw0 hFG K hnm hnm2 hcr hpack
 unfold vc at h
 split at h
 case h_2=>exact h.elim
 rename_i b hb
 simp only [cp7] at h
 split at h
 case isFalse=>exact h.elim
 rename_i hok
 simp only [co7] at hok
 have hargs:=cq7 hok.1.2
 have h:=ad0 h (aG3 K hcr)
 have hvl:=R6 hpack
 have hfe:(fen E.P none).fn f:=by show (E.P.funcs[f]?).isSome=true;rw [hf];rfl
 refine callsIn_of_wp_marks hf hb hfe ?_
 have hsz:(vs.toArray++Array.replicate (fn.ntmps-vs.toArray.size) undef).size=fn.ntmps:=by simp;omega
 have hstart:∀ t p,look t (St.init k (A9 U k.params xs)).σ=some p→PRel w β (E6 (A9 U k.params xs) k.oin) (St.init k (A9 U k.params xs)).σ p ((vs.toArray++Array.replicate (fn.ntmps-vs.toArray.size) undef).getD t undef)∧p.plain=true:=by
  intro t p hl
  obtain ⟨v,h2,h3,h4⟩:=bH9 (σ:=(St.init k (A9 U k.params xs)).σ) hpack hcr hl
  refine ⟨?_,h4⟩
  have htl:t<vs.length:=(co9.1 h2).1
  have:(vs.toArray++Array.replicate (fn.ntmps-vs.toArray.size) undef).getD t undef=v:=by
   rw [Array.getD_eq_getD_getElem?,Array.getElem?_append_left (by simpa using htl)]
   simp [h2]
  rw [this]
  exact h3
 have R:Rel F fn.ntmps β (St.init k (A9 U k.params xs)) (vs.toArray++Array.replicate (fn.ntmps-vs.toArray.size) undef) w:=⟨K,hsz,fun t p hl=>(hstart t p hl).1⟩
 have hO:OptIn (fun _=>False) (St.init k (A9 U k.params xs)).σ:=by
  intro t gs p hl
  have:=(hstart t _ hl).2
  simp [PV.plain] at this
 --what comes at the end
 have hend:bs4 F fn.ntmps [] (fun e s=>match e with
   | .exit _=>Bad 3002 0
   | .panic v=>bE7 k xs v
   |_=>post E.P fn k xs s) (bodyPostM (fen E.P none) 0 E.P fn (fun e w'=>match e with
   | .returned v=>(∀ b,k.bad=some b→(b xs).1=false)∧∃ β' rs,Ok F w' β' (E6 (A9 U k.tys (k.fn xs)) k.oout)∧ac2 k.res rs v∧
     CsRel w' β' (E6 (A9 U k.tys (k.fn xs)) k.oout) (k.rout.map (iC (A9 U k.tys (k.fn xs)) oid (fun _=>0))) rs
   | .panicked ch=>∃ b u,k.bad=some b∧(b xs).1=true∧ch=[{ v:=u,recovered:=false }]∧ap8 (b xs).2 u∧Below F.B w w'∧∀ b,b<w.heap.size→¬ F.K b→w'.heap[b]? =w.heap[b]?
   | .outgrown=>False)):=by
  intro F1 way e s' β' a' w' he hq R' hO' hlat
  have hret:post E.P fn k xs s'→LeavesInM (fen E.P none) 0 E.P fn a'.tmps (fun e w'=>match e with
   | .returned v=>(∀ b,k.bad=some b→(b xs).1=false)∧∃ β' rs,Ok F w' β' (E6 (A9 U k.tys (k.fn xs)) k.oout)∧ac2 k.res rs v∧
     CsRel w' β' (E6 (A9 U k.tys (k.fn xs)) k.oout) (k.rout.map (iC (A9 U k.tys (k.fn xs)) oid (fun _=>0))) rs
   | .panicked ch=>∃ b u,k.bad=some b∧(b xs).1=true∧ch=[{ v:=u,recovered:=false }]∧ap8 (b xs).2 u∧Below F.B w w'∧∀ b,b<w.heap.size→¬ F.K b→w'.heap[b]? =w.heap[b]?
   | .outgrown=>False) a'.defers .returning w':=by
   intro hq
   refine hlat.leave (by simp) R'.ok (fun w'' β'' k2 sh2=>?_)
   have R2:Rel F fn.ntmps β'' s' a'.tmps w'':=⟨k2,R'.sz,fun t p hl=>sh2.p (R'.tmp t p hl)⟩
   obtain ⟨v,hrun,hgave⟩:=bx4 (E:=E) hq R2 hnm2
   exact ⟨v,hrun,hgave⟩
  cases way with
  |exit id=>exact hq.elim
  |normal=>
   have he':e=.normal:=he
   subst he'
   exact hret hq
  |ret=>
   have he':e=.ret:=he
   subst he'
   exact hret hq
  |panic pv=>
   obtain ⟨u,hpi,rfl⟩:=he
   refine hlat.leave (by simp) R'.ok (fun w'' β'' k2 sh2=>?_)
   simp only [bE7] at hq
   split at hq
   ·exact hq.elim
   ·rename_i bb hbb
    have:=aN5 hq.2
    refine ⟨bb,u,hbb,hq.1,rfl,by rw [this];exact hpi,?_,?_⟩
    ·have:=k2.bel;rw [hw0] at this;exact this
    ·intro blk hblk hK
     have:=k2.frm blk (by rw [hw0];exact hblk) hK
     rw [hw0] at this
     exact this
 rw [hyl] at hY
 cases hnr:noRF b with
 |false=>
  rw [hnr] at hok
  have hyl0:E.yl=[]:=by simpa using hok.2
  exact bI4 hE hG hyl0 hm _ L b 0 _ _ hok.1.1 h F _ { tmps:=vs.toArray++Array.replicate (fn.ntmps-vs.toArray.size) undef,defers:=[] } w hFG R hO _ hend
 |true=>
  exact K0 (ro:=none) hE hG hY hFG hm _ L b 0 _ _ hok.1.1 hnr h _ { tmps:=vs.toArray++Array.replicate (fn.ntmps-vs.toArray.size) undef,defers:=[] } w R hO _ (fun way e s' β' a' w' h1 h2 h3 h4 h5=>hend F way e s' β' a' w' h1 h2 h3 h4 (by rw [h5];exact .refl))
theorem aj5 {Y:Fr} (hE:E.Fits) (hG:E.Sound Y) (hm:E.P.follows .mixedOrders=true) {f:FuncId} {fn:Func} (hf:E.P.funcs[f]? =some fn) (hn:(fn.name=="runtime.NumGoroutine")=false) {k:Con U}
  (L:Dens U.T k.params→Nat→St U→Ann U) (h:∀ xs,holds (k.pre.map fun p=>p xs)→vc E (L xs) fn k xs) (hb:fn.body.isNone=false) (hyl:k.yl=E.yl):ad9 Y E.P E.G f k:=
 ⟨⟨fn,hf,hn,hb⟩,fun xs hp=>aG5 hE hG hm hf (L xs) (h xs hp) hyl⟩
def Con.below (k:Con U) (m:Dens U.T k.params→Nat) (N:Nat):Con U:={ k with pre:=some fun ys=>holds (k.pre.map fun p=>p ys)∧m ys<N }
def Env.set (E:Env U) (f:FuncId) (k:Con U):Env U:={ E with con:=fun g=>bif Nat.beq g f then [k] else E.con g }
theorem bc6 {Y:Fr} (hE:E.Fits) (hG:E.Sound Y) (hm:E.P.follows .mixedOrders=true) {f:FuncId} {fn:Func} (hf:E.P.funcs[f]? =some fn) (hn:(fn.name=="runtime.NumGoroutine")=false) {k:Con U}
  (m:Dens U.T k.params→Nat) (L:Dens U.T k.params→Nat→St U→Ann U) (h:∀ xs,holds (k.pre.map fun p=>p xs)→vc (E.set f (k.below m (m xs))) (L xs) fn k xs) (hb:fn.body.isNone=false) (hyl:k.yl=E.yl):ad9 Y E.P E.G f k:=by
 have hEn:Enters E.P f:=⟨fn,hf,hn,hb⟩
 refine ⟨hEn,?_⟩
 have key:∀ N xs,m xs<N→holds (k.pre.map fun p=>p xs)→bi4 Y (runF E.P f) E.G k xs:=by
  intro N
  induction N with
  |zero=>intro xs hx;omega
  |succ N ih=>
   intro xs hx hp
   refine aG5 (E:=E.set f (k.below m (m xs))) ⟨hE.code⟩ ⟨fun g k' hk=>?_,hG.tab,hG.inv,hG.y,hG.it⟩ hm hf (L xs) (h xs hp) hyl
   simp only [Env.set] at hk
   revert hk
   cases hgf:Nat.beq g f with
   |false=>intro hk;exact hG.con g k' hk
   |true=>
    intro hk
    have hgf:=co5 hgf
    subst hgf
    simp only [cond_true,cp5] at hk
    subst hk
    exact ⟨hEn,fun ys hy=>ih ys (Nat.lt_of_lt_of_le hy.2 (Nat.le_of_lt_succ hx)) hy.1⟩
 exact fun xs hp=>key (m xs+1) xs (Nat.lt_succ_self _) hp
end
end Go.VT
end
section
namespace Go.VT
noncomputable section
variable {U:Univ}
def zOk:Datum U→Value→Bool
 |⟨.int k,n⟩,.int k' m=>decide (k=k')&&decide ((n:Int)=m)
 |⟨.bool,b⟩,.bool c=>(b:Bool)==c
 |⟨.slice _ _,l⟩,.slice none 0 0=>List.isEmpty l
 |_,_=>false
theorem cc0 {d:Datum U} {v:Value} (h:zOk d v=true) (w:World) (M:Nat→Prop):Rep U w M d v:=by
 unfold zOk at h
 split at h
 ·rename_i k n k' m
  simp only [co7,cq6] at h
  obtain ⟨rfl,rfl⟩:=h
  exact .int _ _
 ·simp only [beq_iff_eq] at h
  subst h
  exact .bool _
 ·rename_i e t l
  have:l=[]:=by simpa using h
  subst this
  exact .nil _ _ _ _
 ·cases h
def zsOk:List (Datum U)→List Value→Bool
 |[],_=>true
 |d::ds,v::vs=>zOk d v&&zsOk ds vs
 |_,_=>false
theorem bs6:∀ {ds:List (Datum U)} {vs:List Value},zsOk ds vs=true→∀ (j:Nat) (d:Datum U),ds[j]? =some d→∃ u,vs[j]? =some u∧zOk d u=true
 |[],_,_,j,d,hd=>by simp at hd
 |_::_,[],h,_,_,_=>by simp [zsOk] at h
 |x::ds,v::vs,h,j,d,hd=>by
  simp only [zsOk,co7] at h
  match j,hd with
  |0,hd=>
   simp only [cp2,co4] at hd
   subst hd
   exact ⟨v,rfl,h.1⟩
  |j+1,hd=>exact bs6 h.2 j d (by simpa using hd)
def bI5 (P:Program) (e:TypeId) (t:Ty):Bool:=
 match P.info? e with
 |some i=>match i.zero with
  |some z=>Nat.beq i.size (szOf U t)&&Nat.beq z.cells.size i.size&&Nat.blt 0 (szOf U t)&&Nat.blt 0 i.bytes&&z.cells.toList.all (·.oneCell')&&zsOk (B4 U t (dfl U t)) z.cells.toList
  |none=>false
 |none=>false
theorem bx8 {P:Program} {e:TypeId} {t:Ty} (h:bI5 (U:=U) P e t=true):∃ i z,P.info? e=some i∧i.size=szOf U t∧i.zero=some z∧z.cells.size=i.size∧0<szOf U t∧0<i.bytes∧(∀ u∈z.cells.toList,u.oneCell'=true)∧
  ∀ (j:Nat) (d:Datum U),(B4 U t (dfl U t))[j]? =some d→∃ u,z.cells[j]? =some u∧∀ (w:World) (M:Nat→Prop),Rep U w M d u:=by
 unfold bI5 at h
 split at h
 ·rename_i i hi
  split at h
  ·rename_i z hz
   simp only [co7] at h
   obtain ⟨⟨⟨⟨⟨h1,h2⟩,h3⟩,h4⟩,h5⟩,h6⟩:=h
   refine ⟨i,z,hi,co5 h1,hz,co5 h2,cq7 h3,cq7 h4,cr4.1 h5,fun j d hd=>?_⟩
   obtain ⟨u,hu,hz⟩:=bs6 h6 j d hd
   exact ⟨u,by rw [←Array.getElem?_toList];exact hu,fun w M=>cc0 hz w M⟩
  ·cases h
 ·cases h
def aT2 (l:List (TypeId×Ty)) (e:TypeId):Option Ty:=look e l
theorem bj9 {P:Program} {l:List (TypeId×Ty)} {con:FuncId→List (Con U)} {G:List (Nat×Glob)} {tab:List FuncId→Int→List (Con U)} {inv:Nat→String→List (Con U)} {yl:List (Nat×Nat)} {Y:Option (Con U)} {it:FuncId→List (Con U×Con U×List (Nat×Nat))} {mg:Bool} {dp:List (TypeId×List Nat)} (h:l.all (fun x=>bI5 (U:=U) P x.1 x.2)=true):(⟨P,aT2 l,con,G,tab,inv,yl,Y,it,mg,dp⟩:Env U).Fits:=by
 refine ⟨fun e t he=>bx8 ?_⟩
 have:∀ {l:List (TypeId×Ty)},l.all (fun x=>bI5 (U:=U) P x.1 x.2)=true→look e l=some t→bI5 (U:=U) P e t=true:=by
  intro l
  induction l with
  |nil=>intro _ h;simp [look] at h
  |cons x r ih=>
   intro ha hl
   obtain ⟨j,y⟩:=x
   simp only [List.all_cons,co7] at ha
   simp only [look] at hl
   split at hl
   ·rename_i hb
    have hb:=co5 hb
    subst hb
    simp only [co4] at hl
    subst hl
    exact ha.1
   ·exact ih ha.2 hl
 exact this h he
def aq8:List (FuncId×Con U)→FuncId→List (Con U)
 |[],_=>[]
 |(g,k)::r,f=>bif Nat.beq g f then k::aq8 r f else aq8 r f
theorem Y7 {Y:Fr} {P:Program} {G:List (Nat×Glob)}:∀ {l:List (FuncId×Con U)},(∀ x∈l,ad9 Y P G x.1 x.2)→∀ f k,k∈aq8 l f→ad9 Y P G f k
 |[],_,f,k,hk=>by simp [aq8] at hk
 |(g,y)::r,h,f,k,hk=>by
  have more:k∈aq8 r f→ad9 Y P G f k:=Y7 (l:=r) (fun x hx=>h x (by simp [hx])) f k
  simp only [aq8] at hk
  revert hk
  cases hb:Nat.beq g f with
  |false=>intro hk;exact more hk
  |true=>
   intro hk
   have hb:=co5 hb
   subst hb
   simp only [cond_true,List.mem_cons] at hk
   rcases hk with hk|hk
   ·subst hk;exact h (g,k) (by simp)
   ·exact more hk
def ad1:Nat→Nat→List CPat
 |_,0=>[]
 |i,n+1=>.d i::ad1 (i+1) n
def bI6:List Bool→Nat→Nat→List CPat
 |[],_,_=>[]
 |true::r,i,j=>.row j::bI6 r (i+1) (j+1)
 |false::r,i,j=>.d i::bI6 r (i+1) j
def bs7:List Bool→Nat→List OPat
 |[],_=>[]
 |true::r,i=>.row i::bs7 r (i+1)
 |false::r,i=>bs7 r (i+1)
def Con.flat (args:List (Bool×Nat)) (params:List Ty) (res:List (Bool×Nat)) (tys:List Ty) (own:List Bool) (pre:Option (Dens U.T params→Prop)) (fn:Dens U.T params→Dens U.T tys):Con U:=
 ⟨args,params,ad1 0 params.length,[],pre,none,res,tys,bI6 own 0 0,bs7 own 0,fn,[],[],[]⟩
def St.intAt (s:St U) (j:Nat):Int:=match look j s.σ with
 |some (.one (.d ⟨.int _,x⟩))=>x
 |_=>0
def St.rowInts (s:St U) (id:Nat):List Int:=match look id s.h with
 |some (.row _ (.int _) l _ _)=>l
 |_=>[]
theorem ax5:∀ {n i j:Nat},j<n→(ad1 i n)[j]? =some (CPat.d (i+j))
 |0,_,_,h=>absurd h (Nat.not_lt_zero _)
 |n+1,i,0,_=>rfl
 |n+1,i,j+1,h=>by
  rw [ad1,List.getElem?_cons_succ,ax5 (by omega)]
  congr 2
  omega
theorem af9:∀ {n i:Nat},(ad1 i n).length=n
 |0,_=>rfl
 |n+1,i=>by rw [ad1,cq0,af9]
end
end Go.VT
end
section
namespace Go.VT
open Go.WideShapes Go.ChangeShapes
noncomputable section
variable {U:Univ} {H:Type} {enc:TypeId×Value→H} {P:Program} {w:World} {base:Nat} {sp:Nat→Bool} {held:Bool}
def bs8 (P:Program) (U:Univ) (L:List (TypeId×Ty)):Prop:=∀ t ty,(t,ty)∈L→match ty with
 | .int k=>P.underlying t=some (.int k)
 | .bool=>P.underlying t=some .bool
 | .slice e t'=>P.underlying t=some (.slice e)∧P.cellsOf e=szOf U t'∧0<P.cellsOf e∧0<P.bytesOf e∧(e,t')∈L
 | .user i=>∃ fs,P.underlying t=some (.struct fs)∧P.cellsOf t=(U.fields i).length∧fs.size=(U.fields i).length∧
   ∀ (j:Nat) (f:Field) (ty':Ty),fs[j]? =some f→(U.fields i)[j]? =some ty'→f.offset=j∧P.cellsOf f.type=1∧H4 ty'=false∧(f.type,ty')∈L
 |_=>False
theorem bI7 {α:Type} {Q:Nat→α→Prop}:∀ (n:Nat),(∀ i,i<n→∃ x,Q i x)→∃ l:List α,l.length=n∧∀ i x,l[i]? =some x→Q i x
 |0,_=>⟨[],rfl,fun i x h=>by simp at h⟩
 |n+1,h=>by
  obtain ⟨l,h1,h2⟩:=bI7 n (fun i hi=>h i (by omega))
  obtain ⟨x,hx⟩:=h n (by omega)
  refine ⟨l++[x],by simp [h1],fun i y hy=>?_⟩
  rw [List.getElem?_append] at hy
  split at hy
  ·exact h2 i y hy
  ·rename_i hi
   have hin:i=n:=by
    have:=(co9.1 hy).1
    simp at this;omega
   subst hin
   simp [h1] at hy
   subst hy
   exact hx
theorem bk0:∀ (ts:List Ty) (Q:Nat→Datum U→Prop),(∀ (j:Nat) (ty:Ty),ts[j]? =some ty→∃ x:den U.T ty,Q j ⟨ty,x⟩)→∃ c:Dens U.T ts,∀ (j:Nat) (d:Datum U),(A9 U ts c)[j]? =some d→Q j d
 |[],Q,_=>⟨(),fun j d h=>by simp [A9] at h⟩
 |t::ts,Q,h=>by
  obtain ⟨x,hx⟩:=h 0 t rfl
  obtain ⟨c,hc⟩:=bk0 ts (fun j d=>Q (j+1) d) (fun j ty hj=>h (j+1) ty hj)
  refine ⟨(x,c),fun j d hd=>?_⟩
  cases j with
  |zero=>
   simp only [A9,cp2,co4] at hd
   subst hd
   exact hx
  |succ j=>exact hc j d (by simpa [A9] using hd)
theorem ag0 {ty:Ty} (h:H4 ty=false) (x:den U.T ty):B4 U ty x=[⟨ty,x⟩]:=by
 cases ty<;>first|rfl|simp [H4] at h
theorem am9 {e:TypeId}:∀ {ds:List (DataW H)} {d:DataW H} {n:Nat},d∈ds→n∈d.weights P e→n∈DataW.weightsAll P e ds
 |[],_,_,h,_=>by simp at h
 |x::r,d,n,h,hn=>by
  simp only [DataW.weightsAll,cr1]
  rcases List.mem_cons.1 h with rfl|h
  ·exact .inl hn
  ·exact .inr (am9 h hn)
theorem ag1:∀ {ts:List TypeId} {ds:List (DataW H)} {j:Nat} {t:TypeId} {d:DataW H} {n:Nat},ts[j]? =some t→ds[j]? =some d→n∈d.weights P t→n∈DataW.weightsEach P ts ds
 |[],_,_,_,_,_,h,_,_=>by simp at h
 |_::_,[],_,_,_,_,_,h,_=>by simp at h
 |t0::ts,d0::ds,j,t,d,n,h1,h2,hn=>by
  simp only [DataW.weightsEach,cr1]
  cases j with
  |zero=>
   simp only [cp2,co4] at h1 h2
   subst h1;subst h2
   exact .inl hn
  |succ j=>exact .inr (ag1 (by simpa using h1) (by simpa using h2) hn)
theorem bI8 (g o i j:Nat):((⟨g,o,none⟩:Addr).add i).add j=⟨g,o+i+j,none⟩:=by
 unfold Addr.add
 by_cases hi:i=0<;>by_cases hj:j=0<;>simp [hi,hj]
inductive Light (P:Program):Datum U→Prop
 |int (k:IntKind) (n:Int):Light P ⟨.int k,n⟩
 |bool (b:Bool):Light P ⟨.bool,b⟩
 |slice (e:TypeId) (t:Ty) (l:List (den U.T t)) (h:l.length*P.bytesOf e≤reachBytes) (hr:∀ x∈l,∀ d∈B4 U t x,Light P d):Light P ⟨.slice e t,l⟩
def RepW (P:Program) (w:World) (d:Datum U) (u:Value):Prop:=Rep U w (fun _=>False) d u∧Light P d
theorem aq9 {L:List (TypeId×Ty)} (hL:bs8 P U L):∀ (fuel:Nat) {t:TypeId} {ty:Ty} {cs:List Value} {d:DataW H} {p:List MemPlace},(t,ty)∈L→DataW.trod enc P w base sp held fuel t cs=some (d,p)→
  (∀ n∈d.weights P t,n≤reachBytes)→∃ x:den U.T ty,cs.length=szOf U ty∧(∀ v∈cs,v.oneCell'=true)∧∀ (j:Nat) (dd:Datum U) (u:Value),(B4 U ty x)[j]? =some dd→cs[j]? =some u→RepW P w dd u
 |0,t,ty,cs,d,p,_,h,_=>by simp [DataW.trod] at h
 |fuel+1,t,ty,cs,d,p,hm,h,hw=>by
  have hok:=hL t ty hm
  have one:∀ {ty:Ty} {x:den U.T ty} {v:Value},H4 ty=false→RepW P w ⟨ty,x⟩ v→∀ (j:Nat) (dd:Datum U) (u:Value),(B4 U ty x)[j]? =some dd→[v][j]? =some u→RepW P w dd u:=by
   intro ty x v hu hr j dd u h1 h2
   rw [ag0 hu] at h1
   cases j with
   |zero=>
    simp only [cp2,co4] at h1 h2
    subst h1;subst h2
    exact hr
   |succ j=>simp at h1
  cases ty with
  |int k=>
   obtain ⟨n,rfl,_,_⟩:=DataW.trod_int hok h
   exact ⟨n,rfl,by simp [Value.oneCell'],one rfl ⟨.int k n,.int k n⟩⟩
  |bool=>
   obtain ⟨b,rfl,_⟩:=DataW.trod_bool hok h
   exact ⟨b,rfl,by simp [Value.oneCell'],one rfl ⟨.bool b,.bool b⟩⟩
  |str=>exact hok.elim
  |map _ _=>exact hok.elim
  |ifc _=>exact hok.elim
  |slice e t'=>
   obtain ⟨hu,hc,hc0,hb0,hm'⟩:=hok
   rcases DataW.trod_slice hu h with ⟨rfl,_⟩|⟨a,len,cap,elems,rest,n,hf,rfl,hx,_,hl,_,hlen,hel,_,_⟩
   ·exact ⟨[],rfl,by simp [Value.oneCell'],one rfl ⟨.nil e t' none 0,.slice e t' [] (by simp [reachBytes]) (by simp)⟩⟩
   ·have hfn:fuel=n:=by omega
    subst hfn
    simp only [cp6] at hx
    obtain ⟨rfl,_⟩:=hx
    have hwl:elems.length≤most:=by
     have:=hw ((elems.length+rest.length)*P.bytesOf e) (by simp [DataW.weights,hu])
     have h1:(elems.length+rest.length)*1≤(elems.length+rest.length)*P.bytesOf e:=Nat.mul_le_mul_left _ hb0
     simp only [reachBytes,most] at*
     omega
    have hwb:elems.length*P.bytesOf e≤reachBytes:=by
     have:=hw ((elems.length+rest.length)*P.bytesOf e) (by simp [DataW.weights,hu])
     exact Nat.le_trans (Nat.mul_le_mul_right _ (Nat.le_add_right _ _)) this
    have hall:∀ i,i<len→∃ x:den U.T t',∃ cs',w.cells? base (a.add (i*szOf U t')) (szOf U t')=some cs'∧∀ (j:Nat) (dd:Datum U) (u:Value),(B4 U t' x)[j]? =some dd→cs'[j]? =some u→RepW P w dd u:=by
     intro i hi
     have h1:=hel i hi
     rw [co6 (by omega)] at h1
     obtain ⟨cs',h2,h3⟩:=Option.bind_eq_some_iff.1 h1
     rw [hc] at h2
     obtain ⟨x,hx1,hx2,hx3⟩:=aq9 hL fuel (d:=elems[i].1) (p:=elems[i].2) hm' h3 (fun q hq=>hw q (by
      simp only [DataW.weights,hu,List.mem_cons,cr1]
      exact .inr (.inl (am9 (List.mem_map.2 ⟨elems[i],List.getElem_mem _,rfl⟩) hq))))
     exact ⟨x,cs',h2,hx3⟩
    obtain ⟨l,hll,hlq⟩:=bI7 len hall
    refine ⟨l,rfl,by simp [Value.oneCell'],one rfl ?_⟩
    cases l with
    |nil=>
     simp only [List.length_nil] at hll
     subst hll
     exact ⟨.nil e t' (some a) cap,.slice e t' [] (by simp [reachBytes]) (by simp)⟩
    |cons x0 l0=>
     have hcell:∀ i,i<len→∀ j,j<szOf U t'→∃ v,w.cell? ((a.add (i*szOf U t')).add j)=some v:=by
      intro i hi j hj
      obtain ⟨x,hx⟩:∃ x,(x0::l0)[i]? =some x:=⟨_,co6 (by omega)⟩
      obtain ⟨cs',h1,_⟩:=hlq i x hx
      obtain ⟨_,h2,h3⟩:=World.cells?_some h1
      exact ⟨_,by rw [h3 j hj];exact co6 (by omega)⟩
     have hpos:0<len:=by rw [←hll];simp
     obtain ⟨v0,hv0⟩:=hcell 0 hpos 0 (by omega)
     obtain ⟨g,o,spot⟩:=a
     have hspot:spot=none:=by simpa [Addr.add] using World.cell?_spot hv0
     subst hspot
     have hg:g<w.heap.size:=by
      have:w.cell? ⟨g,o+0*szOf U t'+0,none⟩=some v0:=by simpa [Addr.add] using hv0
      unfold World.cell? at this
      cases hh:w.heap[g]? with
      |none=>simp [hh] at this
      |some ob=>exact (cq2.1 hh).1
     have hli:Light P (U:=U) ⟨.slice e t',x0::l0⟩:=by
      refine .slice e t' _ (by rw [hll,←hlen];exact hwb) (fun x hx d hd=>?_)
      obtain ⟨i,hi⟩:=List.mem_iff_getElem?.1 hx
      obtain ⟨j,hj⟩:=List.mem_iff_getElem?.1 hd
      have hil:i<len:=by rw [←hll];exact (co9.1 hi).1
      have hjs:j<szOf U t':=by rw [←B3 U t' x];exact (co9.1 hj).1
      obtain ⟨cs',h1,h2⟩:=hlq i x hi
      obtain ⟨_,h3,h4⟩:=World.cells?_some h1
      exact (h2 j d cs'[j] hj (co6 (by omega))).2
     rw [←hll]
     refine ⟨?_,hli⟩
     refine .slice e t' (x0::l0) g o cap (fun i j=>(w.cell? ⟨g,o+i*szOf U t'+j,none⟩).getD undef) (by simp) (by omega) (by omega) (fun h=>h) hg (fun i hi j hj=>?_) (fun i x hx j dd hd=>?_)
     ·obtain ⟨v,hv⟩:=hcell i (by omega) j hj
      have hv:w.cell? ⟨g,o+i*szOf U t'+j,none⟩=some v:=by rw [bI8] at hv;exact hv
      simp [hv]
     ·obtain ⟨cs',h1,h2⟩:=hlq i x hx
      obtain ⟨_,h3,h4⟩:=World.cells?_some h1
      have hj:j<szOf U t':=by rw [←B3 U t' x];exact (co9.1 hd).1
      have h5:=h4 j hj
      have h6:w.cell? ⟨g,o+i*szOf U t'+j,none⟩=cs'[j]? :=by rw [bI8] at h5;exact h5
      refine (h2 j dd _ hd ?_).1
      rw [h6,co6 (by omega)]
      rfl
  |user i=>
   obtain ⟨fs,hu,hc,hfs,hfield⟩:=hok
   obtain ⟨xs,n,hf,hx,hlen,hxl,hel⟩:=DataW.trod_struct hu h
   have hfn:fuel=n:=by omega
   subst hfn
   simp only [cp6] at hx
   obtain ⟨rfl,_⟩:=hx
   have hj:∀ (j:Nat) (ty':Ty),(U.fields i)[j]? =some ty'→∃ x:den U.T ty',∃ v,cs[j]? =some v∧v.oneCell'=true∧RepW P w ⟨ty',x⟩ v:=by
    intro j ty' hty
    have hjl:j<(U.fields i).length:=(co9.1 hty).1
    obtain ⟨f,hfj⟩:∃ f,fs[j]? =some f:=⟨_,cq1 (by omega)⟩
    obtain ⟨ho,hc1,hnu,hmem⟩:=hfield j f ty' hfj hty
    have h1:=hel j f hfj
    rw [ho,hc1,co6 (by omega)] at h1
    obtain ⟨v,hv⟩:∃ v,cs[j]? =some v:=⟨_,co6 (by omega)⟩
    have h2:(cs.drop j).take 1=[v]:=by
     have hjl':j<cs.length:=by omega
     rw [List.drop_eq_getElem_cons hjl']
     rw [co6 hjl'] at hv
     simp at hv
     simp [hv]
    rw [h2] at h1
    obtain ⟨x,hx1,hx2,hx3⟩:=aq9 hL fuel (d:=xs[j].1) (p:=xs[j].2) hmem h1 (fun q hq=>hw q (by
     simp only [DataW.weights,hu]
     exact ag1 (j:=j) (by simp;exact ⟨f,by simpa using hfj,rfl⟩) (by simp;exact ⟨xs[j].2,co6 (by omega)⟩) hq))
    exact ⟨x,v,hv,hx2 v (by simp),hx3 0 ⟨ty',x⟩ v (by rw [ag0 hnu];rfl) rfl⟩
   obtain ⟨c,hcq⟩:=bk0 (U:=U) (U.fields i) (fun j d=>∃ v,cs[j]? =some v∧v.oneCell'=true∧RepW P w d v) hj
   refine ⟨U.put i c,by rw [hlen,hc];rfl,fun v hv=>?_,fun j dd u hd hu'=>?_⟩
   ·obtain ⟨j,hjv⟩:=List.mem_iff_getElem?.1 hv
    have hjl:j<(U.fields i).length:=by have:=(co9.1 hjv).1;omega
    obtain ⟨x,v',h1,h2,_⟩:=hj j _ (co6 hjl)
    rw [hjv] at h1
    simp only [co4] at h1
    rw [h1];exact h2
   ·simp only [B4,U.get_put] at hd
    obtain ⟨v,h1,_,h3⟩:=hcq j dd hd
    rw [hu'] at h1
    simp only [co4] at h1
    rw [h1];exact h3
def bT2 (P:Program) (U:Univ) (L:List (TypeId×Ty)) (t:TypeId) (agg:Bool) (tys:List Ty):Prop:=
 (agg=false∧∃ ty,tys=[ty]∧H4 ty=false∧(t,ty)∈L)∨
 (agg=true∧∃ fs,P.underlying t=some (.struct fs)∧P.cellsOf t=tys.length∧fs.size=tys.length∧
   ∀ (j:Nat) (f:Field) (ty':Ty),fs[j]? =some f→tys[j]? =some ty'→f.offset=j∧P.cellsOf f.type=1∧H4 ty'=false∧(f.type,ty')∈L)∨
 (agg=true∧∃ e,P.underlying t=some (.array tys.length e)∧P.cellsOf t=tys.length∧P.cellsOf e=1∧∀ (j:Nat) (ty':Ty),tys[j]? =some ty'→H4 ty'=false∧(e,ty')∈L)
def Reps (P:Program) (U:Univ) (w:World) (ds:List (Datum U)) (us:List Value):Prop:=us.length=ds.length∧(∀ u∈us,u.oneCell'=true)∧∀ (j:Nat) (d:Datum U) (u:Value),ds[j]? =some d→us[j]? =some u→RepW P w d u
theorem aN7 {cs:List Value} {j:Nat} (h:j<cs.length):∃ v,cs[j]? =some v∧(cs.drop j).take 1=[v]:=by
 refine ⟨cs[j],co6 h,?_⟩
 rw [List.drop_eq_getElem_cons h]
 rfl
theorem aN8 {cs:List Value} {tys:List Ty} (hl:cs.length=tys.length) (h:∀ (j:Nat) (ty':Ty),tys[j]? =some ty'→∃ x:den U.T ty',∃ v,cs[j]? =some v∧v.oneCell'=true∧RepW P w ⟨ty',x⟩ v):
  ∃ xs:Dens U.T tys,Reps P U w (A9 U tys xs) cs:=by
 obtain ⟨c,hc⟩:=bk0 (U:=U) tys (fun j d=>∃ v,cs[j]? =some v∧v.oneCell'=true∧RepW P w d v) h
 refine ⟨c,by rw [G3,hl],fun v hv=>?_,fun j dd u hd hu'=>?_⟩
 ·obtain ⟨j,hjv⟩:=List.mem_iff_getElem?.1 hv
  have hjl:j<tys.length:=by have:=(co9.1 hjv).1;omega
  obtain ⟨x,v',h1,h2,_⟩:=h j _ (co6 hjl)
  rw [hjv] at h1
  simp only [co4] at h1
  rw [h1];exact h2
 ·obtain ⟨v,h1,_,h3⟩:=hc j dd hd
  rw [hu'] at h1
  simp only [co4] at h1
  rw [h1];exact h3
theorem cc1 {L:List (TypeId×Ty)} (hL:bs8 P U L) {t:TypeId} {agg:Bool} {tys:List Ty} (ha:bT2 P U L t agg tys) {v:Value} {d:DataW H} {p:List MemPlace} {r:Reach} {b0:Nat} (hv:Value.okWide P w r b0 t v)
  (h:DataW.Trod enc P w base sp held t v d p) (hw:∀ n∈d.weights P t,n≤reachBytes):∃ (xs:Dens U.T tys) (us:List Value),Reps P U w (A9 U tys xs) us∧(agg=false→us=[v])∧(agg=true→v=.agg us.toArray):=by
 obtain ⟨fuel,h⟩:=h
 rcases ha with ⟨rfl,ty,rfl,hu,hm⟩|⟨rfl,fs,hu,hc,hfs,hfield⟩|⟨rfl,e,hu,hc,hce,hel⟩
 ·have hcell:v.cells.toList=[v]:=by
   have hok:=hL t ty hm
   cases ty with
   |int k=>obtain ⟨n,rfl⟩:=okWide_int hok hv;rfl
   |bool=>obtain ⟨n,rfl⟩:=okWide_bool hok hv;rfl
   |slice e t'=>obtain ⟨a,l,c,rfl⟩:=okWide_slice hok.1 hv;rfl
   |user i=>simp [H4] at hu
   |str=>exact hok.elim
   |map _ _=>exact hok.elim
   |ifc _=>exact hok.elim
  rw [hcell] at h
  obtain ⟨x,h1,h2,h3⟩:=aq9 hL fuel hm h hw
  refine ⟨(x,()),[v],⟨rfl,h2,fun j dd u hd hu'=>h3 j dd u ?_ hu'⟩,fun _=>rfl,fun h=>by cases h⟩
  rw [ag0 hu]
  exact hd
 ·obtain ⟨cs,rfl,hsz⟩:=okWide_struct hu hv
  have h:DataW.trod enc P w base sp held fuel t cs.toList=some (d,p):=h
  obtain ⟨xs,n,rfl,hx,hlen,hxl,hels⟩:=DataW.trod_struct hu h
  simp only [cp6] at hx
  obtain ⟨rfl,_⟩:=hx
  obtain ⟨c,hcr⟩:=aN8 (U:=U) (w:=w) (cs:=cs.toList) (tys:=tys) (by rw [hlen,hc]) (fun j ty' hty=>by
   have hjl:j<tys.length:=(co9.1 hty).1
   obtain ⟨f,hfj⟩:∃ f,fs[j]? =some f:=⟨_,cq1 (by omega)⟩
   obtain ⟨ho,hc1,hnu,hmem⟩:=hfield j f ty' hfj hty
   have h1:=hels j f hfj
   rw [ho,hc1,co6 (by omega)] at h1
   obtain ⟨v,hv1,hv2⟩:=aN7 (cs:=cs.toList) (j:=j) (by rw [hlen,hc];exact hjl)
   rw [hv2] at h1
   obtain ⟨x,hx1,hx2,hx3⟩:=aq9 hL n (d:=xs[j].1) (p:=xs[j].2) hmem h1 (fun q hq=>hw q (by
    simp only [DataW.weights,hu]
    exact ag1 (j:=j) (by simp;exact ⟨f,by simpa using hfj,rfl⟩) (by simp;exact ⟨xs[j].2,co6 (by omega)⟩) hq))
   exact ⟨x,v,hv1,hx2 v (by simp),hx3 0 ⟨ty',x⟩ v (by rw [ag0 hnu];rfl) rfl⟩)
  exact ⟨c,cs.toList,hcr,fun h=>(by cases h),fun _=>by simp⟩
 ·obtain ⟨cs,rfl,hsz⟩:∃ cs,v=.agg cs∧cs.size=P.cellsOf t:=by
   unfold Value.okWide at hv
   rw [hu] at hv
   obtain ⟨cs,h1,h2,_⟩:=hv
   exact ⟨cs,h1,h2⟩
  have h:DataW.trod enc P w base sp held fuel t cs.toList=some (d,p):=h
  obtain ⟨xs,n,rfl,hx,hlen,hxl,hels⟩:=DataW.trod_array hu h
  simp only [cp6] at hx
  obtain ⟨rfl,_⟩:=hx
  obtain ⟨c,hcr⟩:=aN8 (U:=U) (w:=w) (cs:=cs.toList) (tys:=tys) (by rw [hlen,hc]) (fun j ty' hty=>by
   have hjl:j<tys.length:=(co9.1 hty).1
   obtain ⟨hnu,hmem⟩:=hel j ty' hty
   have h1:=hels j hjl
   rw [hce,Nat.mul_one,co6 (by omega)] at h1
   obtain ⟨v,hv1,hv2⟩:=aN7 (cs:=cs.toList) (j:=j) (by rw [hlen,hc];exact hjl)
   rw [hv2] at h1
   obtain ⟨x,hx1,hx2,hx3⟩:=aq9 hL n (d:=xs[j].1) (p:=xs[j].2) hmem h1 (fun q hq=>hw q (by
    simp only [DataW.weights,hu]
    exact am9 (List.mem_map.2 ⟨xs[j],List.getElem_mem _,rfl⟩) hq))
   exact ⟨x,v,hv1,hx2 v (by simp),hx3 0 ⟨ty',x⟩ v (by rw [ag0 hnu];rfl) rfl⟩)
  exact ⟨c,cs.toList,hcr,fun h=>(by cases h),fun _=>by simp⟩
abbrev ArgT:=TypeId×Bool×List Ty
def aT3 (A:List ArgT):List (Bool×Nat):=A.map fun a=>(a.2.1,a.2.2.length)
def ak3:List ArgT→List Ty
 |[]=>[]
 |a::r=>a.2.2++ak3 r
def aT4:(a:List Ty)→{b:List Ty}→Dens U.T a→Dens U.T b→Dens U.T (a++b)
 |[],_,_,y=>y
 |_::a,_,x,y=>(x.1,aT4 a x.2 y)
theorem aN9:∀ (a:List Ty) {b:List Ty} (x:Dens U.T a) (y:Dens U.T b),A9 U (a++b) (aT4 a x y)=A9 U a x++A9 U b y
 |[],_,_,_=>rfl
 |t::a,b,x,y=>by
  show _::A9 U (a++b) (aT4 a x.2 y)=_
  rw [aN9 a x.2 y]
  rfl
theorem Reps.app {d1 d2:List (Datum U)} {u1 u2:List Value} (h1:Reps P U w d1 u1) (h2:Reps P U w d2 u2):Reps P U w (d1++d2) (u1++u2):=by
 obtain ⟨a1,a2,a3⟩:=h1
 obtain ⟨b1,b2,b3⟩:=h2
 refine ⟨by simp [a1,b1],fun u hu=>(cr1.1 hu).elim (a2 u) (b2 u),fun j d u hd hu=>?_⟩
 by_cases hj:j<d1.length
 ·rw [cq4 hj] at hd
  rw [cq4 (by omega)] at hu
  exact a3 j d u hd hu
 ·rw [cq3 (by omega)] at hd
  rw [cq3 (by omega)] at hu
  exact b3 _ d u hd (by rw [←a1];exact hu)
theorem bs9 {L:List (TypeId×Ty)} (hL:bs8 P U L) {r:Reach} {b0:Nat}:∀ {A:List ArgT} {vs:List Value} {ds:List (DataW H)} {ps:List MemPlace},(∀ a∈A,bT2 P U L a.1 a.2.1 a.2.2)→
  (∀ (j:Nat) (t:TypeId) (v:Value),(A.map (·.1))[j]? =some t→vs[j]? =some v→Value.okWide P w r b0 t v)→DataW.TrodAll enc P w base sp held (A.map (·.1)) vs ds ps→
  (∀ n∈DataW.weightsEach P (A.map (·.1)) ds,n≤reachBytes)→∃ (xs:Dens U.T (ak3 A)) (us:List Value),Reps P U w (A9 U (ak3 A) xs) us∧K8 (aT3 A) us vs
 |[],vs,ds,ps,_,_,h,_=>by
  cases vs<;>cases ds<;>simp [DataW.TrodAll] at h
  exact ⟨(),[],⟨rfl,by simp,fun j d u hd=>by simp [A9,ak3] at hd⟩,rfl,rfl⟩
 |a::A,vs,ds,ps,ha,hv,h,hw=>by
  cases vs with
  |nil=>cases ds<;>simp [DataW.TrodAll] at h
  |cons v vs=>
   cases ds with
   |nil=>simp [DataW.TrodAll] at h
   |cons d ds=>
    obtain ⟨p,q,h1,h2,_⟩:=h
    obtain ⟨x1,u1,r1,e1,e2⟩:=cc1 hL (ha a (by simp)) (hv 0 _ v rfl rfl) h1 (fun n hn=>hw n (by simp only [List.map_cons,DataW.weightsEach,cr1];exact .inl hn))
    obtain ⟨x2,u2,r2,hp⟩:=bs9 hL (A:=A) (fun b hb=>ha b (by simp [hb])) (fun j t v' hj hj'=>hv (j+1) t v' (by simpa using hj) (by simpa using hj')) h2 (fun n hn=>hw n (by simp only [List.map_cons,DataW.weightsEach,cr1];exact .inr hn))
    refine ⟨aT4 a.2.2 x1 x2,u1++u2,?_,?_⟩
    ·show Reps P U w (A9 U (a.2.2++ak3 A) _) _
     rw [aN9]
     exact r1.app r2
    ·obtain ⟨t,ag,tys⟩:=a
     have hl1:u1.length=tys.length:=by rw [r1.1,G3]
     cases ag with
     |true=>exact ⟨u1,u2,v,vs,rfl,hl1,e2 rfl,rfl,hp⟩
     |false=>
      have he:=e1 rfl
      subst he
      exact ⟨v,u2,vs,rfl,by simpa using hl1.symm,rfl,hp⟩
theorem bI9 {G:List (Nat×Glob)} {f:FuncId} {A:List ArgT} {pre:Option (Dens U.T (ak3 A)→Prop)}
  (hg:C8 P G f (Con.flat (U:=U) (aT3 A) (ak3 A) [(false,1)] [.bool] [false] pre fun _=>(true,())))
  (hglo:∀ g fs,(g,fs)∈G→g<w.heap.size∧∀ i f,fs.cell i=some f→w.cell? ⟨g,i,none⟩=some f)
  {xs:Dens U.T (ak3 A)} {us vs:List Value} (hr:Reps P U w (A9 U (ak3 A) xs) us) (hp:K8 (aT3 A) us vs) (hpre:holds (pre.map fun p=>p xs)):
  Calls P f vs.toArray w fun e w'=>e=.returned (.bool true)∧Go.RowKit.Below w.heap.size w w':=by
 let F:Fr:=⟨w.heap.size,w,fun _=>False,fun _=>False,fun _=>none,G⟩
 let β:Nm:=⟨fun _=>undef,fun _=>False,fun _=>default⟩
 have hok:Ok F w β (E6 (A9 U (ak3 A) xs) ([]:List OPat)):=
  ⟨Go.RowKit.Below.refl _ _,Nat.le_refl _,fun id o hl=>by simp [E6,iOs,look] at hl,fun id o _ _ _ hl=>by simp [E6,iOs,look] at hl,fun _ _ _=>rfl,fun id o _ hl=>by simp [E6,iOs,look] at hl,fun id o _ hl=>by simp [E6,iOs,look] at hl,
   fun _ h=>h.elim,rfl,fun id o _ hl=>by simp [E6,iOs,look] at hl,fun id v h=>(by cases h),fun g fs hm=>⟨(hglo g fs hm).1,fun h=>h,(hglo g fs hm).2⟩⟩
 have hlive:∀ b,Live β (E6 (A9 U (ak3 A) xs) ([]:List OPat)) b→False:=by
  rintro b (h|⟨id,o,h,_⟩)
  ·exact h
  ·simp [E6,iOs,look] at h
 obtain ⟨hr1,hr2,hr3⟩:=hr
 have hcs:CsRel w β (E6 (A9 U (ak3 A) xs) ([]:List OPat)) ((ad1 0 (ak3 A).length).map (iC (A9 U (ak3 A) xs) oid (fun _=>0))) us:=by
  refine ⟨by simp [af9,hr1,G3],hr2,fun j c u hj hu=>?_⟩
  have hjl:j<(ak3 A).length:=by have:=(co9.1 hu).1;rw [hr1,G3] at this;exact this
  simp only [cp9,ax5 hjl,Option.map_some,co4,Nat.zero_add] at hj
  obtain ⟨dd,hd⟩:∃ dd,(A9 U (ak3 A) xs)[j]? =some dd:=⟨_,co6 (by rw [G3];exact hjl)⟩
  simp only [iC,hd] at hj
  subst hj
  exact (hr3 j dd u hd hu).1.mono (Nat.le_refl _) (fun _ _ _=>rfl) (fun b _ hb=>hlive b hb)
 have hcall:=(hg F).2 xs hpre F (fun h=>absurd rfl h) β w us vs rfl rfl hok (fun j p hj=>by simp [Con.flat] at hj) (fun id v h=>by cases h) hcs hp
 refine (CallsIn.calls (F:=fen P none) hcall (fun k=>by simp [Fence.room,fen])).mono fun e w' he=>?_
 cases e with
 |panicked ch=>obtain ⟨b,u,hb,_⟩:=he;cases hb
 |outgrown=>exact he.elim
 |returned v=>
  obtain ⟨_,β',rs,K,hres,hrs⟩:=he
  refine ⟨?_,K.bel⟩
  obtain ⟨c,r,vs',e1,_,e2,e3,e4⟩:=hres
  subst e1;subst e3;subst e4
  simp only [List.cons.injEq] at e2
  obtain ⟨rfl,_⟩:=e2
  have h0:Rep U w' (Live β' (E6 (A9 U [.bool] (true,())) (bs7 [false] 0))) (⟨.bool,true⟩:Datum U) v:=hrs.2.2 0 _ _ rfl rfl
  have:v=.bool true:=by cases h0;rfl
  rw [this]
end
end Go.VT
end
section
namespace Go.Rg
open Go
structure Ins where
 op:Int
 n:Int
 to:List Int
 from_:List Int
 body:List Ins
structure RIns where
 kind:Int
 slot:Int
 cell:Int
 ins:Ins
structure Place where
 cell:Bool
 n:Int
 deriving DecidableEq
structure Span where
 first:Int
 last:Int
 deriving DecidableEq
structure Held where
 slot:Int
 reg:Int
 next:Int
 deriving DecidableEq
structure VFun where
 params:Int
 code:List Ins
 out:List Int
 at_:List Int
structure RCode where
 params:Int
 slots:Int
 cells:Int
 code:List RIns
 out:List Place
def ins0:Ins:=⟨0,0,[],[],[]⟩
def rins0:RIns:=⟨0,0,0,ins0⟩
def bJ0:VFun:=⟨0,[],[],[]⟩
def aG6:RCode:=⟨0,0,0,[],[]⟩
def place0:Place:=⟨false,0⟩
def lies (n lo hi:Int):Bool:=decide (lo≤n)&&decide (n≤hi)
def at_ (l:List Int) (i:Int):Int:=l.getD i.toNat 0
mutual
def insB:Ins→Ins→Bool
 |⟨o,n,t,f,b⟩,⟨o',n',t',f',b'⟩=>decide (o=o')&&decide (n=n')&&decide (t=t')&&decide (f=f')&&X0 b b'
def X0:List Ins→List Ins→Bool
 |[],[]=>true
 |x::r,y::r'=>insB x y&&X0 r r'
 |_,_=>false
end
mutual
theorem bk1:∀ {x y:Ins},insB x y=true→x=y
 |⟨o,n,t,f,b⟩,⟨o',n',t',f',b'⟩,h=>by
  simp only [insB,co7,cq6] at h
  obtain ⟨⟨⟨⟨rfl,rfl⟩,rfl⟩,rfl⟩,h5⟩:=h
  rw [aT5 h5]
theorem aT5:∀ {x y:List Ins},X0 x y=true→x=y
 |[],[],_=>rfl
 |x::r,y::r',h=>by
  simp only [X0,co7] at h
  rw [bk1 h.1,aT5 h.2]
 |[],_::_,h=>by simp [X0] at h
 |_::_,[],h=>by simp [X0] at h
end
mutual
theorem bc7:∀ (x:Ins),insB x x=true
 |⟨o,n,t,f,b⟩=>by simp [insB,au2 b]
theorem au2:∀ (x:List Ins),X0 x x=true
 |[]=>rfl
 |x::r=>by simp [X0,bc7 x,au2 r]
end
theorem bt0 {x y:Ins}:insB x y=true↔x=y:=⟨bk1,fun h=>h▸bc7 x⟩
theorem aG7 {x y:List Ins}:X0 x y=true↔x=y:=⟨aT5,fun h=>h▸au2 x⟩
instance:DecidableEq Ins:=fun x y=>if h:insB x y=true then .isTrue (bk1 h) else .isFalse (fun e=>h (bt0.2 e))
 deriving instance DecidableEq for RIns
 deriving instance DecidableEq for VFun
 deriving instance DecidableEq for RCode
mutual
def insN:Ins→Nat
 |⟨_,_,_,_,b⟩=>ar0 b+1
def ar0:List Ins→Nat
 |[]=>0
 |x::r=>insN x+ar0 r+1
end
mutual
def au3:Ins→Bool
 |⟨_,_,t,f,b⟩=>(decide (t.length≤17592186044416)&&decide (f.length≤17592186044416)&&decide (b.length≤1599289640354))&&I7 b
def I7:List Ins→Bool
 |[]=>true
 |x::r=>au3 x&&I7 r
end
def G4:List Int→Int→Int
 |[],_=>-1
 |x::r,n=>if x=n then 0 else if G4 r n<0 then -1 else G4 r n+1
def T1:List Int→Int→List Int
 |[],n=>[n]
 |x::r,n=>if x=n then x::r else if n<x then n::x::r else x::T1 r n
def C6 (l m:List Int):List Int:=m.foldl T1 l
def wr (code:List Ins):List Int:=code.flatMap (·.to)
def T2 (n:Int):Bool:=lies n 0 3999
def D0:List Int→Bool
 |[]=>true
 |x::r=>!r.contains x&&D0 r
def F8 (params:Int):List Int→List Ins→Bool
 |_,[]=>true
 |w,x::r=>(x.from_.all fun n=>decide (n<params)||w.contains n)&&F8 params (w++x.to) r
def E2 (f:VFun):Int:=
 if 4000<f.code.length then 3
 else if !(lies f.params 0 4000&&f.out.all T2&&f.code.all fun x=>x.to.all T2&&x.from_.all T2) then 2
 else if !(D0 (wr f.code)&&(wr f.code).all fun n=>decide (f.params≤n)) then 5
 else if !(F8 f.params [] f.code&&f.out.all fun n=>decide (n<f.params)||(wr f.code).contains n) then 4 else 0
def ag2 (x:Ins) (l:List Int):List Int:=(l.filter fun n=>!x.to.contains n).foldl T1 (C6 [] x.from_)
def E0:List Ins→List Int→List (List Int)
 |[],out=>[C6 [] out]
 |x::r,out=>ag2 x ((E0 r out).headD [])::E0 r out
def P8 (f:VFun):List (List Int)×Int:=if E2 f≠0 then ([],E2 f) else (E0 f.code f.out,0)
def W4 (f:VFun):Int×Int:=
 if E2 f≠0 then (0,E2 f)
 else (((E0 f.code f.out).tail.zip f.code).foldl (fun m p=>max m ((C6 p.1 p.2.to).length:Int)) (((E0 f.code f.out).headD []).length:Int),0)
def R7 (params:Int) (w:List Int) (n:Int):Int:=if n<params then n else params+G4 w n
def aG8 (c:RCode):Int×Int:=(c.code.foldl (fun n x=>if x.kind=1 then n+1 else n) 0,c.code.foldl (fun n x=>if x.kind=2 then n+1 else n) 0)
end Go.Rg
end
section
namespace Go.Rg
open Go Go.VT
abbrev i64:Ty:=.int .i64
abbrev ints:Ty:=.slice 3 i64
abbrev inss:Ty:=.slice 52 (.user 0)
abbrev aT6:Ty:=.slice 55 (.user 1)
abbrev ax6:Ty:=.slice 59 (.user 2)
abbrev ck5:Ty:=.slice 131 (.user 4)
abbrev bJ1:Ty:=.slice 23 ints
abbrev mapB:Ty:=.map i64 .bool
abbrev mapI:Ty:=.map i64 i64
abbrev mapS:Ty:=.map i64 (.user 3)
abbrev mapP:Ty:=.map (.user 2) i64
def RU:Univ where
 T:=fun i=>match i with|0=>Ins|1=>RIns|2=>Place|3=>Span|4=>Held|5=>VFun|6=>RCode|_=>Unit
 dflt:=fun i=>match i with|0=>ins0|1=>rins0|2=>place0|3=>⟨0,0⟩|4=>⟨0,0,0⟩|5=>bJ0|6=>aG6|_+7=>()
 fields:=fun i=>match i with
  |0=>[i64,i64,ints,ints,inss]
  |1=>[i64,i64,i64,i64,i64,ints,ints,inss]
  |2=>[.bool,i64]
  |3=>[i64,i64]
  |4=>[i64,i64,i64]
  |5=>[i64,inss,ints,ints]
  |6=>[i64,i64,i64,aT6,ax6]
  |_+7=>[]
 get:=fun i=>match i with
  |0=>fun (x:Ins)=>(x.op,x.n,x.to,x.from_,x.body,())
  |1=>fun (x:RIns)=>(x.kind,x.slot,x.cell,x.ins.op,x.ins.n,x.ins.to,x.ins.from_,x.ins.body,())
  |2=>fun (x:Place)=>(x.cell,x.n,())
  |3=>fun (x:Span)=>(x.first,x.last,())
  |4=>fun (x:Held)=>(x.slot,x.reg,x.next,())
  |5=>fun (x:VFun)=>(x.params,x.code,x.out,x.at_,())
  |6=>fun (x:RCode)=>(x.params,x.slots,x.cells,x.code,x.out,())
  |_+7=>fun _=>()
 put:=fun i=>match i with
  |0=>fun c=>(⟨c.1,c.2.1,c.2.2.1,c.2.2.2.1,c.2.2.2.2.1⟩:Ins)
  |1=>fun c=>(⟨c.1,c.2.1,c.2.2.1,⟨c.2.2.2.1,c.2.2.2.2.1,c.2.2.2.2.2.1,c.2.2.2.2.2.2.1,c.2.2.2.2.2.2.2.1⟩⟩:RIns)
  |2=>fun c=>(⟨c.1,c.2.1⟩:Place)
  |3=>fun c=>(⟨c.1,c.2.1⟩:Span)
  |4=>fun c=>(⟨c.1,c.2.1,c.2.2.1⟩:Held)
  |5=>fun c=>(⟨c.1,c.2.1,c.2.2.1,c.2.2.2.1⟩:VFun)
  |6=>fun c=>(⟨c.1,c.2.1,c.2.2.1,c.2.2.2.1,c.2.2.2.2.1⟩:RCode)
  |_+7=>fun _=>()
 get_put:=fun i=>match i with|0=>fun _=>rfl|1=>fun _=>rfl|2=>fun _=>rfl|3=>fun _=>rfl|4=>fun _=>rfl|5=>fun _=>rfl|6=>fun _=>rfl|_+7=>fun _=>rfl
abbrev prog:Program:=Go.Proofs.Tryd.prog
def cc3:List (TypeId×Ty):=[(3,i64),(4,.bool),(32,i64),(23,ints),(52,.user 0),(55,.user 1),(59,.user 2),(107,.user 3),(131,.user 4),(25,.user 5),(31,.user 6)]
def RG:List (Nat×Glob):=[(0,⟨[],[.bool true,.int .i64 (-1)]⟩),(1,⟨[],[.int .i64 0,.int .i64 (-1)]⟩)]
def EV (l:List (FuncId×Con RU)):Env RU:=⟨prog,aT2 cc3,aq8 l,RG,fun _ _=>[],fun _ _=>[],[],none,fun _=>[],true,[]⟩
def EVd (dp:List (TypeId×List Nat)) (it:FuncId→List (Con RU×Con RU×List (Nat×Nat))) (l:List (FuncId×Con RU)):Env RU:=⟨prog,aT2 cc3,aq8 l,RG,fun _ _=>[],fun _ _=>[],[],none,it,true,dp⟩
def EVy (yl:List (Nat×Nat)) (Y:Option (Con RU)) (l:List (FuncId×Con RU)):Env RU:=⟨prog,aT2 cc3,aq8 l,RG,fun _ _=>[],fun _ _=>[],yl,Y,fun _=>[],true,[]⟩
theorem fits (l:List (FuncId×Con RU)):(EV l).Fits:=bj9 (by kernel_rfl)
theorem ck6 (dp it l):(EVd dp it l).Fits:=bj9 (by kernel_rfl)
theorem bT3 (yl Y) (l:List (FuncId×Con RU)):(EVy yl Y l).Fits:=bj9 (by kernel_rfl)
theorem bk2:prog.follows .mixedOrders=true:=by kernel_rfl
def noL:Nat→St RU→Ann RU:=fun _ _=>⟨[],[],[],fun _=>False,fun _=>0,[]⟩
def noIt:FuncId→List (Con RU×Con RU×List (Nat×Nat)):=fun _=>[]
abbrev con (args:List (Bool×Nat)) (params:List Ty) (res:List (Bool×Nat)) (tys:List Ty) (own:List Bool) (pre:Option (Dens RU.T params→Prop)) (fn:Dens RU.T params→Dens RU.T tys):Con RU:=
 Con.flat args params res tys own pre fn
abbrev one:Bool×Nat:=(false,1)
theorem E5 {l:List (FuncId×Con RU)} (hl:∀ x∈l,C8 prog RG x.1 x.2) {f:FuncId} {fn:Func} {k:Con RU} (L:Dens RU.T k.params→Nat→St RU→Ann RU) (hf:prog.funcs[f]? =some fn) (hn:(fn.name=="runtime.NumGoroutine")=false) (hb:fn.body.isNone=false)
  (h:∀ xs,holds (k.pre.map fun p=>p xs)→vc (EV l) (L xs) fn k xs) (hyl:k.yl=[]:=by rfl):C8 prog RG f k:=
 fun Y=>aj5 (E:=EV l) (fits l) ⟨Y7 (fun x hx=>hl x hx Y),fun _ _ _ _ _ h=>(by cases h),fun _ _ _ h=>(by cases h),fun _ h=>(by cases h),fun _ _ _ _ h=>(by cases h)⟩ bk2 hf hn L h hb hyl
def ItOk (it:FuncId→List (Con RU×Con RU×List (Nat×Nat))):Prop:=∀ f k kY mp,(k,kY,mp)∈it f→∀ Y',GivesC Y' (runY prog) RG kY→ad9 Y' prog RG f k
theorem bJ2:ItOk noIt:=fun _ _ _ _ h=>by cases h
theorem bt1 {dp it} (ht:ItOk it) {l:List (FuncId×Con RU)} (hl:∀ x∈l,C8 prog RG x.1 x.2) {f:FuncId} {fn:Func} {k:Con RU} (L:Dens RU.T k.params→Nat→St RU→Ann RU) (hf:prog.funcs[f]? =some fn) (hn:(fn.name=="runtime.NumGoroutine")=false) (hb:fn.body.isNone=false)
  (h:∀ xs,holds (k.pre.map fun p=>p xs)→vc (EVd dp it l) (L xs) fn k xs) (hyl:k.yl=[]:=by rfl):C8 prog RG f k:=
 fun Y=>aj5 (E:=EVd dp it l) (ck6 dp it l) ⟨Y7 (fun x hx=>hl x hx Y),fun _ _ _ _ _ h=>(by cases h),fun _ _ _ h=>(by cases h),fun _ h=>(by cases h),ht⟩ bk2 hf hn L h hb hyl
theorem bJ3 {dp it} (ht:ItOk it) {l:List (FuncId×Con RU)} (hl:∀ x∈l,C8 prog RG x.1 x.2) {f:FuncId} {fn:Func} {k:Con RU} (m:Dens RU.T k.params→Nat) (L:Dens RU.T k.params→Nat→St RU→Ann RU) (hf:prog.funcs[f]? =some fn) (hn:(fn.name=="runtime.NumGoroutine")=false) (hb:fn.body.isNone=false)
  (h:∀ xs,holds (k.pre.map fun p=>p xs)→vc ((EVd dp it l).set f (k.below m (m xs))) (L xs) fn k xs) (hyl:k.yl=[]:=by rfl):C8 prog RG f k:=
 fun Y=>bc6 (E:=EVd dp it l) (ck6 dp it l) ⟨Y7 (fun x hx=>hl x hx Y),fun _ _ _ _ _ h=>(by cases h),fun _ _ _ h=>(by cases h),fun _ h=>(by cases h),ht⟩ bk2 hf hn m L h hb hyl
theorem B8:∀ x∈([]:List (FuncId×Con RU)),C8 prog RG x.1 x.2:=by simp
theorem A8 {f:FuncId} {k:Con RU} {r:List (FuncId×Con RU)} (h:C8 prog RG f k) (hr:∀ x∈r,C8 prog RG x.1 x.2):∀ x∈(f,k)::r,C8 prog RG x.1 x.2:=by
 intro x hx
 rcases List.mem_cons.1 hx with h1|h1
 ·subst h1;exact h
 ·exact hr x h1
abbrev ax7:List Ty:=[i64,i64,ints,ints,inss]
abbrev ax8:List Ty:=[i64,inss,ints,ints]
abbrev bJ4:List Ty:=[i64,i64,i64,aT6,ax6]
end Go.Rg
end
section
namespace Go.Rg
open Go
theorem E9 {n:Int} (h1:-9223372036854775808≤n) (h2:n<9223372036854775808):IntKind.i64.wrap n=n:=by rw [IntKind.wrap_i64];omega
theorem B6 {k m:Nat} (h:k<m) (hm:m≤140737488355328):IntKind.i64.wrap ((k:Int)+1)=((k+1:Nat):Int):=by rw [E9 (by omega) (by omega)];rfl
theorem A5 {α:Type} {l:List α} {i:Nat} (h:i<l.length) (d:α):l.take (i+1)=l.take i++[l.getD i d]:=by
 rw [List.take_succ_eq_append_getElem h]
 simp [List.getD,co6 h]
theorem G5 {α:Type} {l:List α} {i:Nat} (h:i<l.length) (d:α):l.getD i d∈l:=by
 rw [cp8,co6 h]
 exact List.getElem_mem h
theorem aG9 {α:Type} {l m:List α} {b:Bool} {k:Nat} (h1:k≤l.length) (hb:b=true↔(l.length=m.length∧l.take k=m.take k)) (hq:b=false∨¬ k<l.length):b=true↔l=m:=by
 constructor
 ·intro h
  obtain ⟨h3,h4⟩:=hb.1 h
  have hk:k=l.length:=by
   rcases hq with hq|hq
   ·rw [hq] at h;cases h
   ·omega
  subst hk
  rw [cr2,h3,cr2] at h4
  exact h4
 ·rintro rfl
  exact hb.2 ⟨rfl,rfl⟩
theorem aH0 {α:Type} {l m:List α} {k:Nat} (d:α) (hl:k<l.length) (hm:k<m.length):l.take (k+1)=m.take (k+1)↔l.take k=m.take k∧l.getD k d=m.getD k d:=by
 rw [A5 hl d,A5 hm d]
 constructor
 ·intro h
  have:=List.append_inj h (by simp;omega)
  exact ⟨this.1,by simpa using this.2⟩
 ·rintro ⟨h1,h2⟩
  rw [h1,h2]
theorem aA7:∀ {l:List Int} {n:Int} {m:Nat},m<l.length→(∀ i:Nat,i<m→l.getD i 0≠n)→l.getD m 0=n→G4 l n=m
 |x::r,n,0,_,_,h2=>by simp [G4] at h2 ⊢;simp [h2]
 |x::r,n,m+1,hm,h1,h2=>by
  have hx:x≠n:=by simpa using h1 0 (by omega)
  have:=aA7 (l:=r) (n:=n) (m:=m) (by simpa using hm) (fun i hi=>by simpa using h1 (i+1) (by omega)) (by simpa using h2)
  simp only [G4,if_neg hx,this]
  rw [if_neg (by omega)]
  rfl
theorem au4:∀ {l:List Int} {n:Int},(∀ i:Nat,i<l.length→l.getD i 0≠n)→G4 l n=-1
 |[],n,_=>rfl
 |x::r,n,h=>by
  have hx:x≠n:=by simpa using h 0 (by simp)
  have:=au4 (l:=r) (n:=n) (fun i hi=>by simpa using h (i+1) (by simpa using hi))
  simp [G4,if_neg hx,this]
theorem aH1 {l:List Int} {n:Int}:0≤G4 l n↔n∈l:=by
 induction l with
 |nil=>simp [G4]
 |cons x r ih=>
  simp only [G4,List.mem_cons]
  by_cases hx:x=n
  ·simp [hx]
  ·rw [if_neg hx]
   split
   ·rename_i h
    have h1:¬ n∈r:=fun hh=>by have:=ih.2 hh;omega
    simp [h1,Ne.symm hx]
   ·rename_i h
    have h1:n∈r:=ih.1 (by omega)
    simp [h1];omega
def M6:List Int→Int→List Int×Bool
 |[],n=>([],false)
 |x::r,n=>if x<n then (x::(M6 r n).1,(M6 r n).2) else if x=n then (x::r,true) else (n::x::r,true)
theorem bc8:∀ (l:List Int) (n:Int),T1 l n=bif (M6 l n).2 then (M6 l n).1 else (M6 l n).1++[n]
 |[],n=>rfl
 |x::r,n=>by
  simp only [T1,M6]
  by_cases h1:x=n
  ·subst h1;simp
  ·by_cases h2:n<x
   ·simp [h1,h2,show ¬ x<n by omega]
   ·simp only [h1,h2,if_false,if_pos (show x<n by omega),bc8 r n]
    cases (M6 r n).2<;>simp
theorem aO0:∀ (l:List Int) (x n:Int),M6 (l++[x]) n=bif (M6 l n).2 then ((M6 l n).1++[x],true) else if x<n then ((M6 l n).1++[x],false) else if x=n then ((M6 l n).1++[x],true) else ((M6 l n).1++[n,x],true)
 |[],x,n=>by simp [M6]
 |y::r,x,n=>by
  simp only [List.cons_append,M6,aO0 r x n]
  by_cases h1:y<n
  ·simp only [h1,if_true]
   cases (M6 r n).2
   ·simp only [cond_false]
    split
    ·rfl
    ·split<;>rfl
   ·rfl
  ·by_cases h2:y=n
   ·simp [h1,h2]
   ·simp [h1,h2]
theorem ax9:∀ (l:List Int) (n:Int),(M6 l n).1.length=l.length+(bif (M6 l n).2 then (M6 l n).1.length-l.length else 0)∧(M6 l n).1.length≤l.length+1∧l.length≤(M6 l n).1.length
 |[],n=>by simp [M6]
 |x::r,n=>by
  obtain ⟨h1,h2,h3⟩:=ax9 r n
  simp only [M6]
  split
  ·simp only [cq0]
   cases hc:(M6 r n).2<;>simp [hc] at h1 ⊢<;>omega
  ·split<;>simp
theorem bc9 (l:List Int) (n:Int):(T1 l n).length≤l.length+1:=by
 induction l with
 |nil=>simp [T1]
 |cons x r ih=>
  simp only [T1]
  split
  ·simp
  ·split
   ·simp
   ·simp;exact ih
theorem aH2 {l:List Int} {n x:Int}:x∈T1 l n↔x=n∨x∈l:=by
 induction l with
 |nil=>simp [T1]
 |cons y r ih=>
  simp only [T1]
  split
  ·rename_i h;subst h;simp
  ·split
   ·simp
   ·simp [ih];constructor
    ·rintro (h|h|h)<;>simp [h]
    ·rintro (h|h|h)<;>simp [h]
theorem al0 (l m:List Int):(C6 l m).length≤l.length+m.length:=by
 unfold C6
 induction m generalizing l with
 |nil=>simp
 |cons x r ih=>
  simp only [List.foldl_cons,cq0]
  have:=ih (T1 l x)
  have:=bc9 l x
  omega
theorem M0 {l m:List Int} {x:Int}:x∈C6 l m↔x∈l∨x∈m:=by
 unfold C6
 induction m generalizing l with
 |nil=>simp
 |cons y r ih=>
  simp only [List.foldl_cons,ih,aH2,List.mem_cons]
  constructor
  ·rintro ((h|h)|h)<;>simp [h]
  ·rintro (h|h|h)<;>simp [h]
theorem bd0 (l m:List Int) (x:Int):C6 l (m++[x])=T1 (C6 l m) x:=by simp [C6]
def incr (l:List Int):Prop:=l.Pairwise (·<·)
theorem aO1 {l:List Int} (h:incr l) (n:Int):incr (T1 l n):=by
 induction l with
 |nil=>simp [T1,incr]
 |cons x r ih=>
  obtain ⟨h1,h2⟩:=List.pairwise_cons.1 h
  simp only [T1]
  split
  ·exact h
  ·split
   ·rename_i h3
    refine List.pairwise_cons.2 ⟨fun y hy=>?_,h⟩
    rcases List.mem_cons.1 hy with rfl|hy
    ·exact h3
    ·have:=h1 y hy;omega
   ·refine List.pairwise_cons.2 ⟨fun y hy=>?_,ih h2⟩
    rcases aH2.1 hy with rfl|hy
    ·omega
    ·exact h1 y hy
theorem ag3 {l:List Int} (h:incr l) (m:List Int):incr (C6 l m):=by
 unfold C6
 induction m generalizing l with
 |nil=>exact h
 |cons y r ih=>exact ih (aO1 h y)
theorem bt2:∀ {l m:List Int},incr l→incr m→(∀ x,x∈l↔x∈m)→l=m
 |[],[],_,_,_=>rfl
 |[],y::_,_,_,h=>by have:=(h y).2 (by simp);simp at this
 |x::_,[],_,_,h=>by have:=(h x).1 (by simp);simp at this
 |x::r,y::r',h1,h2,h=>by
  obtain ⟨a1,a2⟩:=List.pairwise_cons.1 h1
  obtain ⟨b1,b2⟩:=List.pairwise_cons.1 h2
  have hxy:x=y:=by
   have hx:=(h x).1 (by simp)
   have hy:=(h y).2 (by simp)
   rcases List.mem_cons.1 hx with hx|hx
   ·exact hx
   ·rcases List.mem_cons.1 hy with hy|hy
    ·exact hy.symm
    ·have:=a1 y hy;have:=b1 x hx;omega
  subst hxy
  rw [bt2 a2 b2 (fun z=>?_)]
  have hz:=h z
  simp only [List.mem_cons] at hz
  constructor
  ·intro hm
   have:=a1 z hm
   rcases hz.1 (.inr hm) with h4|h4
   ·omega
   ·exact h4
  ·intro hm
   have:=b1 z hm
   rcases hz.2 (.inr hm) with h4|h4
   ·omega
   ·exact h4
end Go.Rg
end
section
namespace Go.Rg
open Go Go.VT
def cLies:Con RU:=con [one,one,one] [i64,i64,i64] [one] [.bool] [false] none fun p=>(lies p.1 p.2.1 p.2.2.1,())
def cEqual:Con RU:=con [one,one] [ints,ints] [one] [.bool] [false] none fun p=>(decide (p.1=p.2.1),())
def bJ5 (l m:List Int):Nat→St RU→Ann RU:=fun _ _=>⟨[],[.slot 6,.slot 5],[i64,.bool],fun p=>0≤p.1∧p.1≤l.length∧p.2.1=(decide (l.length=m.length)&&decide (l.take p.1.toNat=m.take p.1.toNat)),fun p=>l.length-p.1.toNat,[]⟩
def cEqualLists:Con RU:=con [one,one] [bJ1,bJ1] [one] [.bool] [false] none fun p=>(decide (p.1=p.2.1),())
def an0 (l m:List (List Int)):Nat→St RU→Ann RU:=fun _ _=>⟨[],[.slot 6,.slot 5],[i64,.bool],fun p=>0≤p.1∧p.1≤l.length∧p.2.1=(decide (l.length=m.length)&&decide (l.take p.1.toNat=m.take p.1.toNat)),fun p=>l.length-p.1.toNat,[]⟩
def cWhere:Con RU:=con [one,one] [ints,i64] [one] [i64] [false] none fun p=>(G4 p.1 p.2.1,())
def bJ6 (l:List Int) (n:Int):Nat→St RU→Ann RU:=fun _ _=>⟨[],[.slot 5],[i64],fun p=>0≤p.1∧p.1≤l.length∧∀ i:Nat,i<p.1.toNat→l.getD i 0≠n,fun p=>l.length-p.1.toNat,[]⟩
def cPut:Con RU:=con [one,one] [ints,i64] [one] [ints] [false] (some fun p=>p.1.length≤17592186044400) fun p=>(T1 p.1 p.2.1,())
def lPut (l:List Int) (n:Int):Nat→St RU→Ann RU:=fun _ _=>⟨[5],[.slot 7,.slot 6,.row 512],[i64,.bool,ints],fun p=>0≤p.1∧p.1≤l.length∧p.2.1=(M6 (l.take p.1.toNat) n).2∧p.2.2.1=(M6 (l.take p.1.toNat) n).1,fun p=>l.length-p.1.toNat,[]⟩
def cCopyD:Con RU:=con [one] [ints] [one] [ints] [false] (some fun p=>p.1.length≤17592186044416) fun p=>(p.1,())
def cUnion:Con RU:=con [one,one] [ints,ints] [one] [ints] [false] (some fun p=>p.1.length+p.2.1.length≤17592186044400) fun p=>(C6 p.1 p.2.1,())
def bJ7 (l m:List Int):Nat→St RU→Ann RU:=fun _ _=>⟨[],[.slot 6,.slot 5],[i64,ints],fun p=>0≤p.1∧p.1≤m.length∧p.2.1=C6 l (m.take p.1.toNat),fun p=>m.length-p.1.toNat,[]⟩
def cSameIns:Con RU:=con [(true,5),(true,5)] [i64,i64,ints,ints,inss,i64,i64,ints,ints,inss] [one] [.bool] [false] none fun p=>(insB ⟨p.1,p.2.1,p.2.2.1,p.2.2.2.1,p.2.2.2.2.1⟩ ⟨p.2.2.2.2.2.1,p.2.2.2.2.2.2.1,p.2.2.2.2.2.2.2.1,p.2.2.2.2.2.2.2.2.1,p.2.2.2.2.2.2.2.2.2.1⟩,())
def cSameCode:Con RU:=con [one,one] [inss,inss] [one] [.bool] [false] none fun p=>(X0 p.1 p.2.1,())
def U8:Dens RU.T cSameIns.params→Nat:=fun p=>ar0 p.2.2.2.2.1+1
def P3:Dens RU.T cSameCode.params→Nat:=fun p=>ar0 p.1 
def aH3 (l m:List Ins):Nat→St RU→Ann RU:=fun _ _=>⟨[],[.slot 6,.slot 5],[i64,.bool],fun p=>0≤p.1∧p.1≤l.length∧p.2.1=(decide (l.length=m.length)&&X0 (l.take p.1.toNat) (m.take p.1.toNat)),fun p=>l.length-p.1.toNat,[]⟩
def cSameVec:Con RU:=con [(true,4),(true,4)] [i64,inss,ints,ints,i64,inss,ints,ints] [one] [.bool] [false] none fun p=>(decide (p.1=p.2.2.2.2.1)&&X0 p.2.1 p.2.2.2.2.2.1&&decide (p.2.2.1=p.2.2.2.2.2.2.1)&&decide (p.2.2.2.1=p.2.2.2.2.2.2.2.1),())
theorem cc4 (n lo hi:Int):vc (EV []) noL Go.Proofs.Tryd.f31 cLies (n,lo,hi,())=((decide (lo≤n)&&decide (n≤hi),())=(lies n lo hi,())):=by kernel_rfl
theorem bT4 (l:List Int):vc (EV []) noL Go.Proofs.Tryd.f70 cCopyD (l,())=(Small RU (Sigma.mk (Ty.slice (3:Nat) (Ty.int IntKind.i64)) l)→(List.length ([]:List Int)+List.length l)*(8:Nat)≤(140737488355328:Nat)∧([]++l,())=(l,())):=by kernel_rfl
theorem bT5 (l m:List Int):vc (EV []) (bJ5 l m) Go.Proofs.Tryd.f34 cEqual (l,m,())=(let e0:Int:=(↑(List.length l):Int);
  Small RU (Sigma.mk (Ty.slice (3:Nat) (Ty.int IntKind.i64)) l)→
  Small RU (Sigma.mk (Ty.slice (3:Nat) (Ty.int IntKind.i64)) m)→
  (∃ (p:Int×Bool×Unit),
  l=l∧
  m=m∧
  false=false∧
  (0:Int)=p.1∧
  (e0==(↑(List.length m):Int))=p.2.1∧
  (0:Int)≤p.1∧p.1≤e0∧p.2.1=(decide (List.length l=List.length m)&&decide (List.take (Int.toNat p.1) l=List.take (Int.toNat p.1) m)))∧
  ∀ (p:Int×Bool×Unit),
 let e0_1:Bool:=p.2.1&&decide (p.1<e0);
 let e1:Int:=p.1;
 let e2:Bool:=decide (List.length l=List.length m);
  (0:Int)≤e1∧e1≤e0∧p.2.1=(e2&&decide (List.take (Int.toNat e1) l=List.take (Int.toNat e1) m))→
  (e0_1=true→
  ((0:Int)≤e1∧e1<e0)∧
  ((0:Int)≤e1∧e1<(↑(List.length m):Int))∧
  ∃ (p':Int×Bool×Unit),
  l=l∧
  m=m∧
  false=false∧
  IntKind.i64.wrap (e1+(1:Int))=p'.1∧
  (List.getD l (Int.toNat e1) (0:Int)==List.getD m (Int.toNat e1) (0:Int))=p'.2.1∧
  ((0:Int)≤p'.1∧p'.1≤e0∧p'.2.1=(e2&&decide (List.take (Int.toNat p'.1) l=List.take (Int.toNat p'.1) m)))∧
  List.length l-Int.toNat p'.1<List.length l-Int.toNat e1)∧
  (e0_1=false→(p.2.1,())=(decide (l=m),()))):=by kernel_rfl
theorem aT7 (l m:List (List Int)):vc (EV [(34,cEqual)]) (an0 l m) Go.Proofs.Tryd.f43 cEqualLists (l,m,())=(let e0:Int:=(↑(List.length l):Int);
  Small RU (Sigma.mk (Ty.slice (23:Nat) (Ty.slice (3:Nat) (Ty.int IntKind.i64))) l)→
  Small RU (Sigma.mk (Ty.slice (23:Nat) (Ty.slice (3:Nat) (Ty.int IntKind.i64))) m)→
  (∃ (p:Int×Bool×Unit),
  l=l∧
  m=m∧
  false=false∧
  (0:Int)=p.1∧
  (e0==(↑(List.length m):Int))=p.2.1∧
  (0:Int)≤p.1∧p.1≤e0∧p.2.1=(decide (List.length l=List.length m)&&decide (List.take (Int.toNat p.1) l=List.take (Int.toNat p.1) m)))∧
  ∀ (p:Int×Bool×Unit),
 let e0_1:Bool:=p.2.1&&decide (p.1<e0);
 let e1:Int:=p.1;
 let e2:Bool:=decide (List.length l=List.length m);
  (0:Int)≤e1∧e1≤e0∧p.2.1=(e2&&decide (List.take (Int.toNat e1) l=List.take (Int.toNat e1) m))→
  (e0_1=true→
  ((0:Int)≤e1∧e1<e0)∧
  ((0:Int)≤e1∧e1<(↑(List.length m):Int))∧
  ∃ (p':Int×Bool×Unit),
  l=l∧
  m=m∧
  false=false∧
  IntKind.i64.wrap (e1+(1:Int))=p'.1∧
  decide (List.getD l (Int.toNat e1) []=List.getD m (Int.toNat e1) [])=p'.2.1∧
  ((0:Int)≤p'.1∧p'.1≤e0∧p'.2.1=(e2&&decide (List.take (Int.toNat p'.1) l=List.take (Int.toNat p'.1) m)))∧
  List.length l-Int.toNat p'.1<List.length l-Int.toNat e1)∧
  (e0_1=false→(p.2.1,())=(decide (l=m),()))):=by kernel_rfl
theorem bT6 (l:List Int) (n:Int):vc (EV []) (bJ6 l n) Go.Proofs.Tryd.f32 cWhere (l,n,())=(Small RU (Sigma.mk (Ty.slice (3:Nat) (Ty.int IntKind.i64)) l)→
  (∃ (p:Int×Unit),l=l∧n=n∧(0:Int)=p.1∧(0:Int)≤p.1∧p.1≤(↑(List.length l):Int)∧∀ (i:Nat),i<Int.toNat p.1→List.getD l i (0:Int)≠n)∧
  ∀ (p:Int×Unit),
 let e0:Bool:=decide (p.1<(↑(List.length l):Int));
 let e1:Bool:=List.getD l (Int.toNat p.1) (0:Int)==n;
  ((0:Int)≤p.1∧p.1≤(↑(List.length l):Int)∧∀ (i:Nat),i<Int.toNat p.1→List.getD l i (0:Int)≠n)→
  (e0=true→
  ((0:Int)≤p.1∧p.1<(↑(List.length l):Int))∧
  (e1=true→(p.1,())=(G4 l n,()))∧
  (e1=false→
  ∃ (p':Int×Unit),
  l=l∧
  n=n∧
  IntKind.i64.wrap (p.1+(1:Int))=p'.1∧
  ((0:Int)≤p'.1∧p'.1≤(↑(List.length l):Int)∧∀ (i:Nat),i<Int.toNat p'.1→List.getD l i (0:Int)≠n)∧
  List.length l-Int.toNat p'.1<List.length l-Int.toNat p.1))∧
  (e0=false→((-1:Int),())=(G4 l n,()))):=by kernel_rfl
theorem ck7 (l:List Int) (n:Int):vc (EV []) (lPut l n) Go.Proofs.Tryd.f30 cPut (l,n,())=(Small RU (Sigma.mk (Ty.slice (3:Nat) (Ty.int IntKind.i64)) l)→
  (∃ (p:Int×Bool×List Int×Unit),
  l=l∧
  n=n∧
  (0:Int)=p.1∧
  false=p.2.1∧
  []=p.2.2.1∧
  (0:Int)≤p.1∧p.1≤(↑(List.length l):Int)∧p.2.1=(M6 (List.take (Int.toNat p.1) l) n).2∧p.2.2.1=(M6 (List.take (Int.toNat p.1) l) n).1)∧
  ∀ (p:Int×Bool×List Int×Unit),
 let e0:Int:=bif !p.2.1&&decide (List.getD l (Int.toNat p.1) (0:Int)≥n) then bif decide (List.getD l (Int.toNat p.1) (0:Int) >n) then p.1 else p.1 else p.1;
 let e1:Bool:=!p.2.1&&decide (List.getD l (Int.toNat p.1) (0:Int)≥n);
 let e2:Bool:=decide (List.getD l (Int.toNat p.1) (0:Int) >n);
 let e3:List Int:=p.2.2.1;
 let e4:Bool:=decide (p.1<(↑(List.length l):Int));
 let e5:List Int:=bif e1 then bif e2 then e3++[n] else e3 else e3;
 let e6:Bool:=p.2.1;
 let e7:Int:=p.1;
 let e8:List Int:=[List.getD (bif e1 then bif e2 then l else l else l) (Int.toNat e0) (0:Int)];
  (0:Int)≤e7∧e7≤(↑(List.length l):Int)∧e6=(M6 (List.take (Int.toNat e7) l) n).2∧e3=(M6 (List.take (Int.toNat e7) l) n).1→
  (e4=true→
  ((!e6)=true→(0:Int)≤e7∧e7<(↑(List.length l):Int))∧
  (e1=true→((0:Int)≤e7∧e7<(↑(List.length l):Int))∧(e2=true→(List.length e3+List.length [n])*(8:Nat)≤(140737488355328:Nat)))∧
  ((0:Int)≤e0∧e0<(↑(List.length (bif e1 then bif e2 then l else l else l)):Int))∧
  (List.length e5+List.length e8)*(8:Nat)≤(140737488355328:Nat)∧
  ∃ (p':Int×Bool×List Int×Unit),
  (bif e1 then bif e2 then l else l else l)=l∧
  (bif e1 then bif e2 then n else n else n)=n∧
  IntKind.i64.wrap (e0+(1:Int))=p'.1∧
  (bif e1 then true else e6)=p'.2.1∧
  e5++e8=p'.2.2.1∧
  ((0:Int)≤p'.1∧
  p'.1≤(↑(List.length l):Int)∧p'.2.1=(M6 (List.take (Int.toNat p'.1) l) n).2∧p'.2.2.1=(M6 (List.take (Int.toNat p'.1) l) n).1)∧
  List.length l-Int.toNat p'.1<List.length l-Int.toNat e7)∧
  (e4=false→((!e6)=true→(List.length e3+List.length [n])*(8:Nat)≤(140737488355328:Nat))∧(bif !e6 then e3++[n] else e3,())=(T1 l n,()))):=by kernel_rfl
theorem bT7 (l m:List Int):vc (EV [(70,cCopyD),(30,cPut)]) (bJ7 l m) Go.Proofs.Tryd.f35 cUnion (l,m,())=(Small RU (Sigma.mk (Ty.slice (3:Nat) (Ty.int IntKind.i64)) l)→
  Small RU (Sigma.mk (Ty.slice (3:Nat) (Ty.int IntKind.i64)) m)→
  List.length l≤(17592186044416:Nat)∧
  (∃ (p:Int×List Int×Unit),
  l=l∧m=m∧(0:Int)=p.1∧l=p.2.1∧(0:Int)≤p.1∧p.1≤(↑(List.length m):Int)∧p.2.1=C6 l (List.take (Int.toNat p.1) m))∧
  ∀ (p:Int×List Int×Unit),
 let e0:Bool:=decide (p.1<(↑(List.length m):Int));
 let e1:List Int:=p.2.1;
 let e2:Int:=p.1;
  (0:Int)≤e2∧e2≤(↑(List.length m):Int)∧e1=C6 l (List.take (Int.toNat e2) m)→
  (e0=true→
  ((0:Int)≤e2∧e2<(↑(List.length m):Int))∧
  List.length e1≤(17592186044400:Nat)∧
  ∃ (p':Int×List Int×Unit),
  l=l∧
  m=m∧
  IntKind.i64.wrap (e2+(1:Int))=p'.1∧
  T1 e1 (List.getD m (Int.toNat e2) (0:Int))=p'.2.1∧
  ((0:Int)≤p'.1∧p'.1≤(↑(List.length m):Int)∧p'.2.1=C6 l (List.take (Int.toNat p'.1) m))∧
  List.length m-Int.toNat p'.1<List.length m-Int.toNat e2)∧
  (e0=false→(e1,())=(C6 l m,()))):=by kernel_rfl
theorem bx9 (n:Nat) (x1 x2:Int) (x3 x4:List Int) (x5:List Ins) (y1 y2:Int) (y3 y4:List Int) (y5:List Ins):vc (EV [(34,cEqual),(64,cSameCode.below P3 n)]) noL Go.Proofs.Tryd.f57 (cSameIns.below U8 (n+1)) (x1,x2,x3,x4,x5,y1,y2,y3,y4,y5,())=(let e0:Bool:=x1==y1&&x2==y2&&decide (x3=y3)&&decide (x4=y4);
 Small RU (Sigma.mk (Ty.slice (3:Nat) (Ty.int IntKind.i64)) x3)→
 Small RU (Sigma.mk (Ty.slice (3:Nat) (Ty.int IntKind.i64)) x4)→
 Small RU (Sigma.mk (Ty.slice (52:Nat) (Ty.user (0:Nat))) x5)→
 Small RU (Sigma.mk (Ty.slice (3:Nat) (Ty.int IntKind.i64)) y3)→
 Small RU (Sigma.mk (Ty.slice (3:Nat) (Ty.int IntKind.i64)) y4)→
 Small RU (Sigma.mk (Ty.slice (52:Nat) (Ty.user (0:Nat))) y5)→
 (e0=true→True∧P3 (x5,y5,())<n)∧(e0&&X0 x5 y5,())=(insB (Ins.mk x1 x2 x3 x4 x5) (Ins.mk y1 y2 y3 y4 y5),())):=by kernel_rfl
theorem bk3 (n:Nat) (l m:List Ins):vc (EV [(57,cSameIns.below U8 n)]) (aH3 l m) Go.Proofs.Tryd.f64 (cSameCode.below P3 (n+1)) (l,m,())=(let e0:Ins:=Ins.mk (0:Int) (0:Int) [] [] [];
 let e1:Int:=(↑(List.length l):Int);
  Small RU (Sigma.mk (Ty.slice (52:Nat) (Ty.user (0:Nat))) l)→
  Small RU (Sigma.mk (Ty.slice (52:Nat) (Ty.user (0:Nat))) m)→
  (∃ (p:Int×Bool×Unit),
  l=l∧
  m=m∧
  false=false∧
  (0:Int)=p.1∧
  (e1==(↑(List.length m):Int))=p.2.1∧
  (0:Int)≤p.1∧p.1≤e1∧p.2.1=(decide (List.length l=List.length m)&&X0 (List.take (Int.toNat p.1) l) (List.take (Int.toNat p.1) m)))∧
  ∀ (p:Int×Bool×Unit),
 let e0_1:Bool:=p.2.1&&decide (p.1<e1);
 let e1_1:Ins:=List.getD m (Int.toNat p.1) e0;
 let e2:Ins:=List.getD l (Int.toNat p.1) e0;
 let e3:Int:=p.1;
 let e4:Bool:=decide (List.length l=List.length m);
  (0:Int)≤e3∧e3≤e1∧p.2.1=(e4&&X0 (List.take (Int.toNat e3) l) (List.take (Int.toNat e3) m))→
  (e0_1=true→
  ((0:Int)≤e3∧e3<e1)∧
  ((0:Int)≤e3∧e3<(↑(List.length m):Int))∧
  (True∧U8 (e2.op,e2.n,e2.to,e2.from_,e2.body,e1_1.op,e1_1.n,e1_1.to,e1_1.from_,e1_1.body,())<n)∧
  ∃ (p':Int×Bool×Unit),
  l=l∧
  m=m∧
  false=false∧
  IntKind.i64.wrap (e3+(1:Int))=p'.1∧
  insB (Ins.mk e2.op e2.n e2.to e2.from_ e2.body) (Ins.mk e1_1.op e1_1.n e1_1.to e1_1.from_ e1_1.body)=p'.2.1∧
  ((0:Int)≤p'.1∧p'.1≤e1∧p'.2.1=(e4&&X0 (List.take (Int.toNat p'.1) l) (List.take (Int.toNat p'.1) m)))∧
  List.length l-Int.toNat p'.1<List.length l-Int.toNat e3)∧
  (e0_1=false→(p.2.1,())=(X0 l m,()))):=by kernel_rfl
theorem by0 (x1:Int) (x2:List Ins) (x3 x4:List Int) (y1:Int) (y2:List Ins) (y3 y4:List Int):vc (EV [(34,cEqual),(64,cSameCode)]) noL Go.Proofs.Tryd.f24 cSameVec (x1,x2,x3,x4,y1,y2,y3,y4,())=(Small RU (Sigma.mk (Ty.slice (52:Nat) (Ty.user (0:Nat))) x2)→
 Small RU (Sigma.mk (Ty.slice (3:Nat) (Ty.int IntKind.i64)) x3)→
 Small RU (Sigma.mk (Ty.slice (3:Nat) (Ty.int IntKind.i64)) x4)→
 Small RU (Sigma.mk (Ty.slice (52:Nat) (Ty.user (0:Nat))) y2)→
 Small RU (Sigma.mk (Ty.slice (3:Nat) (Ty.int IntKind.i64)) y3)→
 Small RU (Sigma.mk (Ty.slice (3:Nat) (Ty.int IntKind.i64)) y4)→
 (x1==y1&&X0 x2 y2&&decide (x3=y3)&&decide (x4=y4),())=(decide (x1=y1)&&X0 x2 y2&&decide (x3=y3)&&decide (x4=y4),())):=by kernel_rfl
theorem by1:C8 prog RG 31 cLies:=E5 B8 (fun _=>noL) (by kernel_rfl) (by kernel_rfl) (by kernel_rfl) fun (n,lo,hi,()) _=>(cc4 n lo hi).mpr rfl
theorem bT8 (l:List Int) (hp:l.length≤17592186044416):vc (EV []) noL Go.Proofs.Tryd.f70 cCopyD (l,()):=(bT4 l).mpr (by
 intro hs
 exact ⟨by simp only [List.length_nil];omega,rfl⟩)
theorem bk4:C8 prog RG 70 cCopyD:=E5 B8 (fun _=>noL) (by kernel_rfl) (by kernel_rfl) (by kernel_rfl) fun (l,()) hp=>bT8 l hp
theorem bT9 (l m:List Int):vc (EV []) (bJ5 l m) Go.Proofs.Tryd.f34 cEqual (l,m,()):=(bT5 l m).mpr (by
 intro e hs1 hs2
 have hl1:l.length≤140737488355328:=hs1.len
 have hl2:m.length≤140737488355328:=hs2.len
 refine ⟨⟨(0,decide (l.length=m.length),()),rfl,rfl,rfl,rfl,?_,Int.le_refl _,by dsimp only;omega,by simp [e]⟩,?_⟩
 ·rw [Bool.eq_iff_iff];simp [e];omega
 dsimp only [e]
 rintro ⟨i,b,⟨⟩⟩ ⟨h0,h1,h2⟩
 dsimp only at h0 h1 h2 ⊢
 obtain ⟨k,rfl⟩:=cp0 h0
 simp only [co8] at h2 ⊢
 have h2':b=true↔(l.length=m.length∧l.take k=m.take k):=by rw [h2];simp
 refine ⟨fun hb=>?_,fun hb=>?_⟩
 ·simp only [co7,cq6] at hb
  obtain ⟨hb,hlt⟩:=hb
  obtain ⟨hlen,htk⟩:=h2'.1 hb
  refine ⟨⟨h0,hlt⟩,⟨h0,by omega⟩,((k+1:Nat),decide (l.getD k 0=m.getD k 0),()),by trivial,by trivial,by trivial,B6 (by omega) hl1,?_,⟨by omega,by dsimp only;omega,?_⟩,by dsimp only;omega⟩
  ·rw [Bool.eq_iff_iff];simp
  ·dsimp only
   rw [co8,Bool.eq_iff_iff,co7,cq6,cq6,cq6,aH0 0 (by omega) (by omega)]
   simp [hlen,htk]
 ·have:b=decide (l=m):=by
   rw [Bool.eq_iff_iff,cq6]
   exact aG9 (by omega) h2' (by simp at hb;cases b<;>simp at hb ⊢;omega)
  rw [this])
theorem an1:C8 prog RG 34 cEqual:=E5 B8 (fun p=>bJ5 p.1 p.2.1) (by kernel_rfl) (by kernel_rfl) (by kernel_rfl) fun (l,m,()) _=>bT9 l m
theorem aT8 (l m:List (List Int)):vc (EV [(34,cEqual)]) (an0 l m) Go.Proofs.Tryd.f43 cEqualLists (l,m,()):=(aT7 l m).mpr (by
 intro e hs1 hs2
 have hl1:l.length≤140737488355328:=hs1.len
 have hl2:m.length≤140737488355328:=hs2.len
 refine ⟨⟨(0,decide (l.length=m.length),()),rfl,rfl,rfl,rfl,?_,Int.le_refl _,by dsimp only;omega,by simp [e]⟩,?_⟩
 ·rw [Bool.eq_iff_iff];simp [e];omega
 dsimp only [e]
 rintro ⟨i,b,⟨⟩⟩ ⟨h0,h1,h2⟩
 dsimp only at h0 h1 h2 ⊢
 obtain ⟨k,rfl⟩:=cp0 h0
 simp only [co8] at h2 ⊢
 have h2':b=true↔(l.length=m.length∧l.take k=m.take k):=by rw [h2];simp
 refine ⟨fun hb=>?_,fun hb=>?_⟩
 ·simp only [co7,cq6] at hb
  obtain ⟨hb,hlt⟩:=hb
  obtain ⟨hlen,htk⟩:=h2'.1 hb
  refine ⟨⟨h0,hlt⟩,⟨h0,by omega⟩,((k+1:Nat),decide (l.getD k []=m.getD k []),()),by trivial,by trivial,by trivial,B6 (by omega) hl1,rfl,⟨by omega,by dsimp only;omega,?_⟩,by dsimp only;omega⟩
  dsimp only
  rw [co8,Bool.eq_iff_iff,co7,cq6,cq6,cq6,aH0 [] (by omega) (by omega)]
  simp [hlen,htk]
 ·have:b=decide (l=m):=by
   rw [Bool.eq_iff_iff,cq6]
   exact aG9 (by omega) h2' (by simp at hb;cases b<;>simp at hb ⊢;omega)
  rw [this])
theorem ay8:C8 prog RG 43 cEqualLists:=E5 (A8 an1 B8) (fun p=>an0 p.1 p.2.1) (by kernel_rfl) (by kernel_rfl) (by kernel_rfl) fun (l,m,()) _=>aT8 l m
theorem bU0 (l:List Int) (n:Int):vc (EV []) (bJ6 l n) Go.Proofs.Tryd.f32 cWhere (l,n,()):=(bT6 l n).mpr (by
 intro hs
 have hlen:l.length≤140737488355328:=hs.len
 refine ⟨⟨(0,()),by trivial,by trivial,rfl,Int.le_refl _,by dsimp only;omega,fun i hi=>by simp at hi⟩,?_⟩
 dsimp only
 rintro ⟨i,⟨⟩⟩ ⟨k0,k1,k2⟩
 dsimp only at k0 k1 k2 ⊢
 obtain ⟨m,rfl⟩:=cp0 k0
 simp only [co8] at k2 ⊢
 refine ⟨fun hlt=>?_,fun hge=>?_⟩
 ·have hlt:(m:Int)<l.length:=cp4 hlt
  refine ⟨⟨k0,hlt⟩,fun hb=>?_,fun hb=>⟨((m+1:Nat),()),?_⟩⟩
  ·have hb:l.getD m 0=n:=eq_of_beq hb
   rw [aA7 (by omega) k2 hb]
  ·have hb:l.getD m 0≠n:=by simpa using hb
   have hw:=B6 (k:=m) (by omega) hlen
   have hnx:∀ i:Nat,i<((m+1:Nat):Int).toNat→l.getD i 0≠n:=fun i hi=>by
    rw [co8] at hi
    by_cases him:i=m
    ·subst him;exact hb
    ·exact k2 i (by omega)
   and_intros<;>first|exact hw|exact rfl|exact hnx|omega|(dsimp only;omega)|dsimp only
 ·have hge:¬ (m:Int)<l.length:=cp3 hge
  rw [au4 (fun i hi=>k2 i (by omega))])
theorem bk5:C8 prog RG 32 cWhere:=E5 B8 (fun p=>bJ6 p.1 p.2.1) (by kernel_rfl) (by kernel_rfl) (by kernel_rfl) fun (l,n,()) _=>bU0 l n
theorem ck8 (l:List Int) (n:Int) (hp:l.length≤17592186044400):vc (EV []) (lPut l n) Go.Proofs.Tryd.f30 cPut (l,n,()):=(ck7 l n).mpr (by
 intro hs
 refine ⟨⟨(0,false,[],()),rfl,rfl,rfl,rfl,rfl,Int.le_refl _,by dsimp only;omega,rfl,rfl⟩,?_⟩
 dsimp only
 rintro ⟨i,d,out,⟨⟩⟩ ⟨h0,h1,h2,h3⟩
 dsimp only at h0 h1 h2 h3 ⊢
 obtain ⟨k,rfl⟩:=cp0 h0
 simp only [co8,Bool.cond_self] at h2 h3 ⊢
 have hlen:=ax9 (l.take k) n
 rw [←h3,←h2,cr3] at hlen
 refine ⟨fun hlt=>?_,fun hge=>?_⟩
 ·have hlt:(k:Int)<l.length:=cp4 hlt
  have hob:∀ (x:Int) (m:List Int),m.length≤k+2→(m.length+[x].length)*8≤140737488355328:=fun x m hm=>by simp only [cq8];omega
  have hst:=aO0 (l.take k) (l.getD k 0) n
  rw [←A5 (by omega) 0,←h2,←h3] at hst
  refine ⟨fun _=>⟨h0,hlt⟩,fun _=>⟨⟨h0,hlt⟩,fun _=>hob _ _ (by omega)⟩,⟨h0,hlt⟩,hob _ _ ?_,((k+1:Nat),(M6 (l.take (k+1)) n).2,(M6 (l.take (k+1)) n).1,()),by trivial,by trivial,B6 (by omega) hs.len,?_,?_,⟨by omega,by dsimp only;omega,by rw [co8],by rw [co8]⟩,by dsimp only;omega⟩
  ·cases (!d&&decide (l.getD k 0≥n))<;>simp only [cond_true,cond_false]
   ·omega
   ·cases decide (l.getD k 0 >n)<;>simp only [cond_true,cond_false,cq5,cq8]<;>omega
  ·rw [hst]
   show (bif !d&&decide (l.getD k 0≥n) then true else d)=_
   dsimp only
   generalize l.getD k 0=x
   cases d
   ·simp only [Bool.not_false,Bool.true_and,cond_false]
    by_cases c1:x<n
    ·simp [c1,show ¬ n≤x by omega]
    ·by_cases c2:x=n<;>simp [c1,c2,show n≤x by omega]
   ·simp
  ·rw [hst]
   show (bif !d&&decide (l.getD k 0≥n) then bif decide (l.getD k 0 >n) then out++[n] else out else out)++[l.getD k 0]=_
   dsimp only
   generalize l.getD k 0=x
   cases d
   ·simp only [Bool.not_false,Bool.true_and,cond_false]
    by_cases c1:x<n
    ·simp [c1,show ¬ n≤x by omega]
    ·by_cases c2:x=n
     ·simp [c1,c2]
     ·simp [c1,c2,show n≤x by omega,show n<x by omega]
   ·simp
 ·have hk:k=l.length:=by have:¬ (k:Int)<l.length:=cp3 hge;omega
  subst hk
  rw [cr2] at h2 h3
  refine ⟨fun _=>by simp only [cq8];omega,?_⟩
  rw [bc8,←h2,←h3]
  cases d<;>rfl)
theorem bJ8:C8 prog RG 30 cPut:=E5 B8 (fun p=>lPut p.1 p.2.1) (by kernel_rfl) (by kernel_rfl) (by kernel_rfl) fun (l,n,()) hp=>ck8 l n hp
theorem bU1 (l m:List Int) (hp:l.length+m.length≤17592186044400):vc (EV [(70,cCopyD),(30,cPut)]) (bJ7 l m) Go.Proofs.Tryd.f35 cUnion (l,m,()):=(bT7 l m).mpr (by
 intro hs1 hs2
 refine ⟨by omega,⟨(0,l,()),rfl,rfl,rfl,rfl,Int.le_refl _,by dsimp only;omega,rfl⟩,?_⟩
 dsimp only
 rintro ⟨i,out,⟨⟩⟩ ⟨h0,h1,h2⟩
 dsimp only at h0 h1 h2 ⊢
 obtain ⟨k,rfl⟩:=cp0 h0
 simp only [co8] at h2 ⊢
 refine ⟨fun hlt=>?_,fun hge=>?_⟩
 ·have hlt:(k:Int)<m.length:=cp4 hlt
  have hlen:=al0 l (m.take k)
  rw [←h2,cr3] at hlen
  refine ⟨⟨h0,hlt⟩,by omega,((k+1:Nat),C6 l (m.take (k+1)),()),by trivial,by trivial,B6 (by omega) hs2.len,?_,⟨by omega,by dsimp only;omega,by rw [co8]⟩,by dsimp only;omega⟩
  rw [A5 (by omega) 0,bd0,h2]
 ·have hk:k=m.length:=by have:¬ (k:Int)<m.length:=cp3 hge;omega
  subst hk
  rw [cr2] at h2
  rw [h2])
theorem bk6:C8 prog RG 35 cUnion:=E5 (A8 bk4 (A8 bJ8 B8)) (fun p=>bJ7 p.1 p.2.1) (by kernel_rfl) (by kernel_rfl) (by kernel_rfl) fun (l,m,()) hp=>bU1 l m hp
theorem by2 (n:Nat) (x1 x2:Int) (x3 x4:List Int) (x5:List Ins) (y1 y2:Int) (y3 y4:List Int) (y5:List Ins) (hp:ar0 x5+1<n+1):vc (EV [(34,cEqual),(64,cSameCode.below P3 n)]) noL Go.Proofs.Tryd.f57 (cSameIns.below U8 (n+1)) (x1,x2,x3,x4,x5,y1,y2,y3,y4,y5,()):=(bx9 n x1 x2 x3 x4 x5 y1 y2 y3 y4 y5).mpr (by
 intro e0 _ _ _ _ _ _
 refine ⟨fun _=>⟨trivial,by show ar0 x5<n;omega⟩,?_⟩
 simp only [e0,insB]
 rfl)
theorem bd1 {x:Ins} {l:List Ins} (h:x∈l):insN x<ar0 l:=by
 induction l with
 |nil=>simp at h
 |cons y r ih=>
  simp only [ar0]
  rcases List.mem_cons.1 h with rfl|h
  ·omega
  ·have:=ih h;omega
theorem bJ9 (x:Ins):insN x=ar0 x.body+1:=by cases x;simp [insN]
theorem bk7 (x:Ins):Ins.mk x.op x.n x.to x.from_ x.body=x:=by cases x;rfl
theorem bU2 (x y:Ins):insB x y=decide (x=y):=by rw [Bool.eq_iff_iff,bt0,cq6]
theorem bk8 (n:Nat) (l m:List Ins) (hp:ar0 l<n+1):vc (EV [(57,cSameIns.below U8 n)]) (aH3 l m) Go.Proofs.Tryd.f64 (cSameCode.below P3 (n+1)) (l,m,()):=(bk3 n l m).mpr (by
 intro d e hs1 hs2
 have hl1:l.length≤140737488355328:=hs1.len
 have hl2:m.length≤140737488355328:=hs2.len
 refine ⟨⟨(0,decide (l.length=m.length),()),rfl,rfl,rfl,rfl,?_,Int.le_refl _,by dsimp only;omega,by simp [e,X0]⟩,?_⟩
 ·rw [Bool.eq_iff_iff];simp [e];omega
 dsimp only [e]
 rintro ⟨i,b,⟨⟩⟩ ⟨h0,h1,h2⟩
 dsimp only at h0 h1 h2 ⊢
 obtain ⟨k,rfl⟩:=cp0 h0
 simp only [co8] at h2 ⊢
 have h2':b=true↔(l.length=m.length∧l.take k=m.take k):=by rw [h2];simp [aG7]
 refine ⟨fun hb=>?_,fun hb=>?_⟩
 ·simp only [co7,cq6] at hb
  obtain ⟨hb,hlt⟩:=hb
  obtain ⟨hlen,htk⟩:=h2'.1 hb
  refine ⟨⟨h0,hlt⟩,⟨h0,by omega⟩,⟨trivial,?_⟩,((k+1:Nat),decide (l.getD k d=m.getD k d),()),by trivial,by trivial,by trivial,B6 (by omega) hl1,?_,⟨by omega,by dsimp only;omega,?_⟩,by dsimp only;omega⟩
  ·have:=bd1 (G5 (l:=l) (i:=k) (by omega) d)
   rw [bJ9] at this
   show ar0 (l.getD k d).body+1<n
   omega
  ·rw [bk7,bk7,bU2]
  ·dsimp only
   rw [co8,Bool.eq_iff_iff,co7,cq6,cq6,aG7,aH0 d (by omega) (by omega)]
   simp [hlen,htk]
 ·have:b=X0 l m:=by
   rw [Bool.eq_iff_iff,aG7]
   exact aG9 (by omega) h2' (by simp at hb;cases b<;>simp at hb ⊢;omega)
  rw [this])
theorem au5:∀ n,C8 prog RG 57 (cSameIns.below U8 n)∧C8 prog RG 64 (cSameCode.below P3 n)
 |0=>⟨E5 (k:=cSameIns.below U8 0) (fn:=Go.Proofs.Tryd.f57) B8 (fun _=>noL) (by kernel_rfl) (by kernel_rfl) (by kernel_rfl) (fun xs hp=>(Nat.not_lt_zero _ hp.2).elim),E5 (k:=cSameCode.below P3 0) (fn:=Go.Proofs.Tryd.f64) B8 (fun _=>noL) (by kernel_rfl) (by kernel_rfl) (by kernel_rfl) (fun xs hp=>(Nat.not_lt_zero _ hp.2).elim)⟩
 |n+1=>by
  obtain ⟨h1,h2⟩:=au5 n
  refine ⟨E5 (k:=cSameIns.below U8 (n+1)) (l:=[(34,cEqual),(64,cSameCode.below P3 n)]) (A8 an1 (A8 h2 B8)) (fun _=>noL) (by kernel_rfl) (by kernel_rfl) (by kernel_rfl) (fun (x1,x2,x3,x4,x5,y1,y2,y3,y4,y5,()) hp=>by2 n x1 x2 x3 x4 x5 y1 y2 y3 y4 y5 hp.2),
   E5 (k:=cSameCode.below P3 (n+1)) (l:=[(57,cSameIns.below U8 n)]) (A8 h1 B8) (fun p=>aH3 p.1 p.2.1) (by kernel_rfl) (by kernel_rfl) (by kernel_rfl) (fun (l,m,()) hp=>bk8 n l m hp.2)⟩
theorem bt3 {f:FuncId} {k:Con RU} {m:Dens RU.T k.params→Nat} (h:∀ n,C8 prog RG f (k.below m n)):C8 prog RG f k:=
 fun Y=>⟨(h 0 Y).1,fun xs hp=>(h (m xs+1) Y).2 xs ⟨hp,Nat.lt_succ_self _⟩⟩
theorem aT9:C8 prog RG 57 cSameIns:=bt3 fun n=>(au5 n).1
theorem aK5:C8 prog RG 64 cSameCode:=bt3 fun n=>(au5 n).2
theorem aU0:C8 prog RG 24 cSameVec:=E5 (A8 an1 (A8 aK5 B8)) (fun _=>noL) (by kernel_rfl) (by kernel_rfl) (by kernel_rfl) fun (x1,x2,x3,x4,y1,y2,y3,y4,()) _=>(by0 x1 x2 x3 x4 y1 y2 y3 y4).mpr (by
 intros
 rfl)
def cOwn:Con RU:=con [one] [ints] [one] [ints] [true] (some fun p=>p.1.length≤17592186044416) fun p=>(p.1,())
def cIndex:Con RU:=con [one,one] [ints,i64] [one] [i64] [false] none fun p=>(G4 p.1 p.2.1,())
def bK0 (l:List Int) (n:Int):Nat→St RU→Ann RU:=fun _ _=>⟨[],[.slot 8],[i64],fun p=>0≤p.1∧p.1≤l.length∧∀ i:Nat,i<p.1.toNat→l.getD i 0≠n,fun p=>l.length-p.1.toNat,[]⟩
def cContains:Con RU:=con [one,one] [ints,i64] [one] [.bool] [false] none fun p=>(p.1.contains p.2.1,())
def H1 (first last place:Int):Bool:=!(decide (first=0)&&decide (last=-1))&&decide (first≤place)&&decide (place≤last)
def cAt:Con RU:=con [(true,2),one] [i64,i64,i64] [one] [.bool] [false] none fun p=>(H1 p.1 p.2.1 p.2.2.1,())
def cCount:Con RU:=con [(true,5)] bJ4 [one,one] [i64,i64] [false,false] none fun p=>((aG8 ⟨p.1,p.2.1,p.2.2.1,p.2.2.2.1,p.2.2.2.2.1⟩).1,(aG8 ⟨p.1,p.2.1,p.2.2.1,p.2.2.2.1,p.2.2.2.2.1⟩).2,())
def Z5 (k:Int) (l:List RIns):Int:=l.foldl (fun n x=>if x.kind=k then n+1 else n) 0
def bK1 (l:List RIns):Nat→St RU→Ann RU:=fun _ _=>⟨[],[.slot 9,.slot 2,.slot 3],[i64,i64,i64],fun p=>0≤p.1∧p.1≤l.length∧p.2.1=Z5 1 (l.take p.1.toNat)∧p.2.2.1=Z5 2 (l.take p.1.toNat),fun p=>l.length-p.1.toNat,[]⟩
abbrev ck9:List (TypeId×List Nat):=[(52,[2,3])]
def cBody:Con RU:=⟨[one],[inss],[.d 0],[],some fun p=>p.1.length≤1599289640354∧I7 p.1=true,none,[one],[inss],[.dp 0],[.dp 0 [2,3]],fun p=>(p.1,()),[],[],[]⟩
def bk9:Dens RU.T cBody.params→Nat:=fun p=>ar0 p.1
def cc5 (l:List Ins):Nat→St RU→Ann RU:=fun _ _=>⟨[3],[.slot 8,.row 7],[i64,inss],fun p=>0≤p.1∧p.1≤l.length∧p.2.1=l.take p.1.toNat,fun p=>l.length-p.1.toNat,[(.deep 3 [2,3],7,52,.user 0)]⟩
theorem cl0 (l:List Int):vc (EV []) noL Go.Proofs.Tryd.f72 cOwn (l,())=(let e0:Int:=
  (↑(List.length
  (List.take (List.length (List.replicate (Int.toNat (↑(List.length l):Int)) (0:Int))) l++List.drop (List.length l) (List.replicate (Int.toNat (↑(List.length l):Int)) (0:Int)))):
  Int);
 let e1:List Int:=List.replicate (Int.toNat (↑(List.length l):Int)) (0:Int);
  Small RU (Sigma.mk (Ty.slice (3:Nat) (Ty.int IntKind.i64)) l)→
  ((0:Int)≤(↑(List.length l):Int)∧(↑(List.length l):Int)*(↑(8:Nat):Int)≤(↑(140737488355328:Nat):Int))∧
  (e0=e0∧e0=e0)∧(List.take (List.length e1) l++List.drop (List.length l) e1,())=(l,())):=by kernel_rfl
theorem bU3 (l:List Int) (n:Int):vc (EV []) (bK0 l n) Go.Proofs.Tryd.f93 cIndex (l,n,())=(let e0:Int:=(↑(List.length l):Int);
  Small RU (Sigma.mk (Ty.slice (3:Nat) (Ty.int IntKind.i64)) l)→
  (∃ (p:Int×Unit),l=l∧n=n∧e0=e0∧(0:Int)=p.1∧(0:Int)≤p.1∧p.1≤e0∧∀ (i:Nat),i<Int.toNat p.1→List.getD l i (0:Int)≠n)∧
  ∀ (p:Int×Unit),
 let e0_1:Bool:=decide (p.1<e0);
 let e1:Bool:=n==List.getD l (Int.toNat p.1) (0:Int);
  ((0:Int)≤p.1∧p.1≤e0∧∀ (i:Nat),i<Int.toNat p.1→List.getD l i (0:Int)≠n)→
  (e0_1=true→
  ((0:Int)≤p.1∧p.1<e0)∧
  (e1=true→(p.1,())=(G4 l n,()))∧
  (e1=false→
  ∃ (p':Int×Unit),
  l=l∧
  n=n∧
  e0=e0∧
  IntKind.i64.wrap (p.1+(1:Int))=p'.1∧
  ((0:Int)≤p'.1∧p'.1≤e0∧∀ (i:Nat),i<Int.toNat p'.1→List.getD l i (0:Int)≠n)∧
  List.length l-Int.toNat p'.1<List.length l-Int.toNat p.1))∧
  (e0_1=false→((-1:Int),())=(G4 l n,()))):=by kernel_rfl
theorem bl0 (l:List Int) (n:Int):vc (EV [(93,cIndex)]) noL Go.Proofs.Tryd.f61 cContains (l,n,())=(Small RU (Sigma.mk (Ty.slice (3:Nat) (Ty.int IntKind.i64)) l)→(decide (G4 l n≥(0:Int)),())=(List.contains l n,())):=by kernel_rfl
theorem cn8 (a b n:Int):vc (EV []) noL Go.Proofs.Tryd.f69 cAt (a,b,n,())=((!(a==(0:Int)&&(b==(-1:Int)&&true))&&decide (a≤n)&&decide (n≤b),())=(H1 a b n,())):=by kernel_rfl
theorem bU4 (x1 x2 x3:Int) (l:List RIns) (o:List Place):vc (EV []) (bK1 l) Go.Proofs.Tryd.f17 cCount (x1,x2,x3,l,o,())=(let e0:Int:=(↑(List.length l):Int);
  Small RU (Sigma.mk (Ty.slice (55:Nat) (Ty.user (1:Nat))) l)→
  Small RU (Sigma.mk (Ty.slice (59:Nat) (Ty.user (2:Nat))) o)→
  (∃ (p:Int×Int×Int×Unit),
  x1=x1∧
  x2=x2∧
  x3=x3∧
  l=l∧
  o=o∧
  l=l∧
  e0=e0∧
  (0:Int)=p.1∧
  (0:Int)=p.2.1∧
  (0:Int)=p.2.2.1∧
  x1=x1∧
  x2=x2∧
  x3=x3∧
  l=l∧
  o=o∧
  (0:Int)≤p.1∧p.1≤e0∧p.2.1=Z5 (1:Int) (List.take (Int.toNat p.1) l)∧p.2.2.1=Z5 (2:Int) (List.take (Int.toNat p.1) l))∧
  ∀ (p:Int×Int×Int×Unit),
 let e0_1:Bool:=(List.getD l (Int.toNat p.1) (RIns.mk (0:Int) (0:Int) (0:Int) ins0)).kind==(2:Int);
 let e1:Bool:=(List.getD l (Int.toNat p.1) (RIns.mk (0:Int) (0:Int) (0:Int) ins0)).kind==(1:Int);
 let e2:Int:=p.2.2.1;
 let e3:Int:=p.2.1;
 let e4:Int:=p.1;
 let e5:Bool:=decide (e4<e0);
  (0:Int)≤e4∧e4≤e0∧e3=Z5 (1:Int) (List.take (Int.toNat e4) l)∧e2=Z5 (2:Int) (List.take (Int.toNat e4) l)→
  (e5=true→
  ((0:Int)≤e4∧e4<e0)∧
  ∃ (p':Int×Int×Int×Unit),
  (bif e1 then x1 else bif e0_1 then x1 else x1)=x1∧
  (bif e1 then x2 else bif e0_1 then x2 else x2)=x2∧
  (bif e1 then x3 else bif e0_1 then x3 else x3)=x3∧
  (bif e1 then l else bif e0_1 then l else l)=l∧
  (bif e1 then o else bif e0_1 then o else o)=o∧
  (bif e1 then l else bif e0_1 then l else l)=l∧
  (bif e1 then e0 else bif e0_1 then e0 else e0)=e0∧
  IntKind.i64.wrap ((bif e1 then e4 else bif e0_1 then e4 else e4)+(1:Int))=p'.1∧
  (bif e1 then IntKind.i64.wrap (e3+(1:Int)) else bif e0_1 then e3 else e3)=p'.2.1∧
  (bif e1 then e2 else bif e0_1 then IntKind.i64.wrap (e2+(1:Int)) else e2)=p'.2.2.1∧
  (bif e1 then x1 else bif e0_1 then x1 else x1)=x1∧
  (bif e1 then x2 else bif e0_1 then x2 else x2)=x2∧
  (bif e1 then x3 else bif e0_1 then x3 else x3)=x3∧
  (bif e1 then l else bif e0_1 then l else l)=l∧
  (bif e1 then o else bif e0_1 then o else o)=o∧
  ((0:Int)≤p'.1∧
  p'.1≤e0∧p'.2.1=Z5 (1:Int) (List.take (Int.toNat p'.1) l)∧p'.2.2.1=Z5 (2:Int) (List.take (Int.toNat p'.1) l))∧
  List.length l-Int.toNat p'.1<List.length l-Int.toNat e4)∧
  (e5=false→(e3,e2,())=((aG8 (RCode.mk x1 x2 x3 l o)).1,(aG8 (RCode.mk x1 x2 x3 l o)).2,()))):=by kernel_rfl
theorem cc6 (l:List Ins):vc ((EVd ck9 noIt [(72,cOwn)]).set 96 (cBody.below bk9 (bk9 (l,())))) (cc5 l) Go.Proofs.Tryd.f96 cBody (l,())=(let e0:Int:=(↑(List.length l):Int);
 let e1:Ins:=Ins.mk (0:Int) (0:Int) [] [] [];
  Small RU (Sigma.mk (Ty.slice (52:Nat) (Ty.user (0:Nat))) l)→
  (∃ (p:Int×List Ins×Unit),l=l∧l=l∧e0=e0∧(0:Int)=p.1∧[]=p.2.1∧(0:Int)≤p.1∧p.1≤e0∧p.2.1=List.take (Int.toNat p.1) l)∧
  ∀ (p:Int×List Ins×Unit),
 let e0_1:List Ins:=
  [Ins.mk (List.getD l (Int.toNat p.1) e1).op (List.getD l (Int.toNat p.1) e1).n (List.getD l (Int.toNat p.1) e1).to (List.getD l (Int.toNat p.1) e1).from_
  (List.getD l (Int.toNat p.1) e1).body];
 let e1_1:List Ins:=p.2.1;
 let e2:Bool:=decide (p.1<e0);
 let e3:Int:=p.1;
 let e4:List Ins:=(List.getD l (Int.toNat e3) e1).body;
  (0:Int)≤e3∧e3≤e0∧e1_1=List.take (Int.toNat e3) l→
  (e2=true→
  ((0:Int)≤e3∧e3<e0)∧
  List.length (List.getD l (Int.toNat e3) e1).to≤(17592186044416:Nat)∧
  List.length (List.getD l (Int.toNat e3) e1).from_≤(17592186044416:Nat)∧
  ((List.length e4≤(1599289640354:Nat)∧I7 e4=true)∧bk9 (e4,())<bk9 (l,()))∧
  (List.length e1_1+List.length e0_1)*(88:Nat)≤(140737488355328:Nat)∧
  ∃ (p':Int×List Ins×Unit),
  l=l∧
  l=l∧
  e0=e0∧
  IntKind.i64.wrap (e3+(1:Int))=p'.1∧
  e1_1++e0_1=p'.2.1∧
  ((0:Int)≤p'.1∧p'.1≤e0∧p'.2.1=List.take (Int.toNat p'.1) l)∧List.length l-Int.toNat p'.1<List.length l-Int.toNat e3)∧
  (e2=false→(e1_1,())=(l,()))):=by kernel_rfl
theorem cl1 (l:List Int) (hp:l.length≤17592186044416):vc (EV []) noL Go.Proofs.Tryd.f72 cOwn (l,()):=(cl0 l).mpr (by
 intro e0 e1 hs
 refine ⟨⟨by omega,by omega⟩,⟨rfl,rfl⟩,?_⟩
 simp [e1])
theorem bK2:C8 prog RG 72 cOwn:=E5 B8 (fun _=>noL) (by kernel_rfl) (by kernel_rfl) (by kernel_rfl) fun (l,()) hp=>cl1 l hp
theorem bU5 (l:List Int) (n:Int):vc (EV []) (bK0 l n) Go.Proofs.Tryd.f93 cIndex (l,n,()):=(bU3 l n).mpr (by
 intro e hs
 have hlen:l.length≤140737488355328:=hs.len
 refine ⟨⟨(0,()),rfl,rfl,rfl,rfl,Int.le_refl _,by dsimp only [e];omega,fun i hi=>by simp at hi⟩,?_⟩
 dsimp only [e]
 rintro ⟨i,⟨⟩⟩ ⟨k0,k1,k2⟩
 dsimp only at k0 k1 k2 ⊢
 obtain ⟨m,rfl⟩:=cp0 k0
 simp only [co8] at k2 ⊢
 refine ⟨fun hlt=>?_,fun hge=>?_⟩
 ·have hlt:(m:Int)<l.length:=cp4 hlt
  refine ⟨⟨k0,hlt⟩,fun hb=>?_,fun hb=>⟨((m+1:Nat),()),by trivial,by trivial,by trivial,B6 (k:=m) (by omega) hlen,⟨by omega,by dsimp only;omega,fun i hi=>?_⟩,by dsimp only;omega⟩⟩
  ·have hb:n=l.getD m 0:=eq_of_beq hb
   rw [aA7 (by omega) k2 hb.symm]
  ·have hb:n≠l.getD m 0:=by simpa using hb
   rw [co8] at hi
   by_cases him:i=m
   ·subst him;exact hb.symm
   ·exact k2 i (by omega)
 ·have hge:¬ (m:Int)<l.length:=cp3 hge
  rw [au4 (fun i hi=>k2 i (by omega))])
theorem bl1:C8 prog RG 93 cIndex:=E5 B8 (fun p=>bK0 p.1 p.2.1) (by kernel_rfl) (by kernel_rfl) (by kernel_rfl) fun (l,n,()) _=>bU5 l n
theorem aK6 (l:List Int) (n:Int):decide (G4 l n≥0)=l.contains n:=by
 rw [Bool.eq_iff_iff,cq6,List.contains_iff_mem]
 exact aH1
theorem N0:C8 prog RG 61 cContains:=E5 (A8 bl1 B8) (fun _=>noL) (by kernel_rfl) (by kernel_rfl) (by kernel_rfl) fun (l,n,()) _=>(bl0 l n).mpr (by
 intro _
 rw [aK6])
theorem bt4:C8 prog RG 69 cAt:=E5 B8 (fun _=>noL) (by kernel_rfl) (by kernel_rfl) (by kernel_rfl) fun (a,b,n,()) _=>(cn8 a b n).mpr (by
 simp only [H1,Bool.and_true]
 rfl)
theorem by3 (k:Int) (l:List RIns) (x:RIns):Z5 k (l++[x])=if x.kind=k then Z5 k l+1 else Z5 k l:=by simp [Z5]
theorem bU6 (k:Int) (l:List RIns):0≤Z5 k l∧Z5 k l≤l.length:=by
 unfold Z5
 suffices h:∀ (l:List RIns) (a:Int),a≤l.foldl (fun n x=>if x.kind=k then n+1 else n) a∧l.foldl (fun n x=>if x.kind=k then n+1 else n) a≤a+l.length by
  have:=h l 0;omega
 intro l
 induction l with
 |nil=>intro a;simp
 |cons x r ih=>
  intro a
  simp only [List.foldl_cons,cq0]
  have:=ih (if x.kind=k then a+1 else a)
  split at this<;>rename_i hx<;>simp only [hx,if_true,if_false]<;>omega
theorem aO2 {l:List RIns} {i:Nat} (h:i<l.length) (hl:l.length≤140737488355328) (k:Int) (d:RIns):Z5 k (l.take (i+1))=if (l.getD i d).kind=k then IntKind.i64.wrap (Z5 k (l.take i)+1) else Z5 k (l.take i):=by
 have:=bU6 k (l.take i)
 rw [cr3] at this
 rw [A5 h d,by3,E9 (by omega) (by omega)]
theorem bU7 (x1 x2 x3:Int) (l:List RIns) (o:List Place):vc (EV []) (bK1 l) Go.Proofs.Tryd.f17 cCount (x1,x2,x3,l,o,()):=(bU4 x1 x2 x3 l o).mpr (by
 intro e hs _
 have hlen:l.length≤140737488355328:=hs.len
 refine ⟨⟨(0,0,0,()),?_⟩,?_⟩
 ·simp [e,Z5]
 dsimp only [e]
 rintro ⟨i,a,b,⟨⟩⟩ ⟨h0,h1,h2,h3⟩
 dsimp only at h0 h1 h2 h3 ⊢
 obtain ⟨m,rfl⟩:=cp0 h0
 simp only [co8,Bool.cond_self,true_and] at h2 h3 ⊢
 refine ⟨fun hlt=>?_,fun hge=>?_⟩
 ·have hlt:(m:Int)<l.length:=cp4 hlt
  refine ⟨⟨h0,hlt⟩,((m+1:Nat),Z5 1 (l.take (m+1)),Z5 2 (l.take (m+1)),()),B6 (by omega) hlen,?_,?_,⟨by omega,by dsimp only;omega,by rw [co8],by rw [co8]⟩,by dsimp only;omega⟩
  ·dsimp only
   rw [aO2 (by omega) hlen 1 ⟨0,0,0,ins0⟩,←h2]
   simp only [cp7,beq_iff_eq,ite_self]
  ·dsimp only
   rw [aO2 (by omega) hlen 2 ⟨0,0,0,ins0⟩,←h3]
   by_cases c1:(l.getD m ⟨0,0,0,ins0⟩).kind=1
   ·simp only [c1,beq_self_eq_true,cond_true]
    rfl
   ·simp only [cp7,beq_iff_eq,if_neg c1]
 ·have hk:m=l.length:=by have:¬ (m:Int)<l.length:=cp3 hge;omega
  subst hk
  rw [cr2] at h2 h3
  rw [h2,h3]
  rfl)
theorem bl2:C8 prog RG 17 cCount:=E5 B8 (fun p=>bK1 p.2.2.2.1) (by kernel_rfl) (by kernel_rfl) (by kernel_rfl) fun (x1,x2,x3,l,o,()) _=>bU7 x1 x2 x3 l o
theorem bK3 {x:Ins} {l:List Ins} (h:I7 l=true) (hx:x∈l):au3 x=true:=by
 induction l with
 |nil=>simp at hx
 |cons y r ih=>
  simp only [I7,co7] at h
  rcases List.mem_cons.1 hx with rfl|hx
  ·exact h.1
  ·exact ih h.2 hx
theorem N3 (x:Ins):au3 x=true↔(x.to.length≤17592186044416∧x.from_.length≤17592186044416∧x.body.length≤1599289640354)∧I7 x.body=true:=by
 cases x
 simp only [au3,co7,cq6]
 constructor
 ·rintro ⟨⟨⟨a,b⟩,c⟩,d⟩;exact ⟨⟨a,b,c⟩,d⟩
 ·rintro ⟨⟨a,b,c⟩,d⟩;exact ⟨⟨⟨a,b⟩,c⟩,d⟩
theorem cc7 (l:List Ins) (hp:l.length≤1599289640354∧I7 l=true):vc ((EVd ck9 noIt [(72,cOwn)]).set 96 (cBody.below bk9 (bk9 (l,())))) (cc5 l) Go.Proofs.Tryd.f96 cBody (l,()):=(cc6 l).mpr (by
 intro e d hs
 have hlen:l.length≤140737488355328:=hs.len
 refine ⟨⟨(0,[],()),rfl,rfl,rfl,rfl,rfl,Int.le_refl _,by dsimp only [e];omega,rfl⟩,?_⟩
 dsimp only [e]
 rintro ⟨i,out,⟨⟩⟩ ⟨h0,h1,h2⟩
 dsimp only at h0 h1 h2 ⊢
 obtain ⟨m,rfl⟩:=cp0 h0
 simp only [co8,true_and] at h2 ⊢
 subst h2
 refine ⟨fun hlt=>?_,fun hge=>?_⟩
 ·have hlt:(m:Int)<l.length:=cp4 hlt
  have hmem:=G5 (l:=l) (i:=m) (by omega) d
  obtain ⟨⟨q1,q2,q3⟩,q4⟩:=(N3 _).1 (bK3 hp.2 hmem)
  have hN:=bd1 hmem
  rw [bJ9] at hN
  refine ⟨⟨h0,hlt⟩,q1,q2,⟨⟨q3,q4⟩,by show ar0 (l.getD m d).body<ar0 l;omega⟩,?_,((m+1:Nat),l.take (m+1),()),B6 (by omega) hlen,?_,⟨by omega,by dsimp only;omega,by rw [co8]⟩,by dsimp only;omega⟩
  ·simp only [cr3,cq8];omega
  ·rw [A5 (by omega) d,bk7]
 ·have hk:m=l.length:=by have:¬ (m:Int)<l.length:=cp3 hge;omega
  subst hk
  rw [cr2])
theorem aO3:C8 prog RG 96 cBody:=bJ3 bJ2 (A8 bK2 B8) bk9 (fun p=>cc5 p.1) (by kernel_rfl) (by kernel_rfl) (by kernel_rfl) fun (l,()) hp=>cc7 l hp
abbrev eqI:Int→Int→Bool:=fun x y=>x==y
def hasB (m:List (Int×Bool)) (n:Int):Bool:=(mget eqI m n).getD false
def putB (m:List (Int×Bool)) (n:Int) (b:Bool):List (Int×Bool):=mput eqI m n b
def E3 (code:List Ins):List (Int×Bool):=code.flatMap fun x=>x.from_.map (fun n=>(n,false))++x.to.map (fun n=>(n,true))
def D9 (code:List Ins) (out:List Int):List (Int×Bool):=E3 code++out.map fun n=>(n,false)
def C7 {α S:Type} (step:S→α→Bool×S):List α→S→Bool×S
 |[],s=>(false,s)
 |x::r,s=>if (step s x).1 then (true,(step s x).2) else C7 step r (step s x).2
def F4 (e:Int) (x:Int×Bool):Bool×Int:=if x.1<0∨4000≤x.1 then (true,2) else (false,e)
def E1 (params:Int) (s:Int×List (Int×Bool)) (x:Int×Bool):Bool×(Int×List (Int×Bool)):=
 if x.2&&(hasB s.2 x.1||decide (x.1<params)) then (true,5,s.2) else (false,s.1,putB s.2 x.1 (hasB s.2 x.1||x.2))
def stOf (b:Bool):Int:=if b then 1 else 0
def cNamed:Con RU:=⟨[(true,4)],ax8,[.d 0,.d 1,.d 2,.d 3],[],none,none,[one],ax8,[.clo 97 [0]],[.box 25 [.d 0,.d 1,.d 2,.d 3]],fun p=>p,[],[],[]⟩
def Y8:Con RU:=⟨[one,one,one],[i64,.bool,i64,i64],[.d 0,.d 1,.yld 0],[.loop 2,.box 32 [.d 3]],some fun p=>p.2.2.1=0,none,[one],[.bool,i64,i64],[.d 0],[.loop 1,.box 32 [.d 2]],
 fun p=>(!(F4 p.2.2.2.1 (p.1,p.2.1)).1,stOf (F4 p.2.2.2.1 (p.1,p.2.1)).1,(F4 p.2.2.2.1 (p.1,p.2.1)).2,()),[],[(0,0),(1,1)],[(1,1000001)]⟩
def aU1:Con RU:=⟨[one,one],[i64,i64,i64,inss,ints,ints],[.yld 0,.ptr 2 0],[.loop 0,.box 32 [.d 1],.box 25 [.d 2,.d 3,.d 4,.d 5]],some fun p=>p.1=0,none,[],[i64,i64],[],[.loop 0,.box 32 [.d 1],.box 25 [.un,.un,.un,.un]],
 fun p=>(stOf (C7 F4 (D9 p.2.2.2.1 p.2.2.2.2.1) p.2.1).1,(C7 F4 (D9 p.2.2.2.1 p.2.2.2.2.1) p.2.1).2,()),[],[(0,0),(1,1)],[(1,128)]⟩
def Y9:Con RU:=⟨[one,one,one],[i64,.bool,i64,i64,mapB,i64,inss,ints,ints],[.d 0,.d 1,.yld 0],[.loop 2,.box 32 [.d 3],.box 117 [.map 3],.map 4,.box 25 [.d 5,.d 6,.d 7,.d 8]],some fun p=>p.2.2.1=0,none,
 [one],[.bool,i64,i64,mapB,i64,inss,ints,ints],[.d 0],[.loop 1,.box 32 [.d 2],.box 117 [.map 3],.map 3,.box 25 [.d 4,.d 5,.d 6,.d 7]],
 fun p=>(!(E1 p.2.2.2.2.2.1 (p.2.2.2.1,p.2.2.2.2.1) (p.1,p.2.1)).1,stOf (E1 p.2.2.2.2.2.1 (p.2.2.2.1,p.2.2.2.2.1) (p.1,p.2.1)).1,(E1 p.2.2.2.2.2.1 (p.2.2.2.1,p.2.2.2.2.1) (p.1,p.2.1)).2.1,(E1 p.2.2.2.2.2.1 (p.2.2.2.1,p.2.2.2.2.1) (p.1,p.2.1)).2.2,p.2.2.2.2.2),[4],[(0,0),(1,1),(2,2),(3,3),(4,4)],[(1,1000001),(2,1000002),(4,1000004)]⟩
def aU2:Con RU:=⟨[one,one],[i64,i64,mapB,i64,inss,ints,ints,i64,inss,ints,ints],[.yld 0,.ptr 5 0],[.loop 0,.box 32 [.d 1],.box 117 [.map 3],.map 2,.box 25 [.d 3,.d 4,.d 5,.d 6],.box 25 [.d 7,.d 8,.d 9,.d 10]],some fun p=>p.1=0,none,
 [],[i64,i64,mapB,i64,inss,ints,ints],[],[.loop 0,.box 32 [.d 1],.box 117 [.map 3],.map 2,.box 25 [.d 3,.d 4,.d 5,.d 6],.box 25 [.un,.un,.un,.un]],
 fun p=>(stOf (C7 (E1 p.2.2.2.1) (D9 p.2.2.2.2.2.2.2.2.1 p.2.2.2.2.2.2.2.2.2.1) (p.2.1,p.2.2.1)).1,(C7 (E1 p.2.2.2.1) (D9 p.2.2.2.2.2.2.2.2.1 p.2.2.2.2.2.2.2.2.2.1) (p.2.1,p.2.2.1)).2.1,(C7 (E1 p.2.2.2.1) (D9 p.2.2.2.2.2.2.2.2.1 p.2.2.2.2.2.2.2.2.2.1) (p.2.1,p.2.2.1)).2.2,p.2.2.2.1,p.2.2.2.2.1,p.2.2.2.2.2.1,p.2.2.2.2.2.2.1,()),[4],[(0,0),(1,1),(2,2),(3,3),(4,4)],[(1,128),(2,256),(4,64)]⟩
def itCheck:FuncId→List (Con RU×Con RU×List (Nat×Nat)):=fun f=>bif Nat.beq f 97 then [(aU2,Y9,[(0,0),(1,1),(2,2),(3,3),(4,4)]),(aU1,Y8,[(0,0),(1,1)])] else []
def cIs (tys:List Ty) (objs:List OPat) (caps:List Nat) (is:Dens RU.T tys→Int→Bool):Con RU:=
 ⟨one::caps.map (fun _=>one),i64::tys,.d 0::caps.map (fun c=>.ptr c 0),objs,none,none,[one],.bool::tys,[.d 0],objs,fun p=>(is p.2 p.1,p.2),List.range objs.length,[],[]⟩
def cIsN (f:Nat) (tys:List Ty) (objs1:List OPat) (caps:List Nat) (is:Dens RU.T tys→Int→Bool):Con RU:=
 ⟨[one,one],i64::tys,[.d 0,.ptr 0 0],.box 109 [.clo f (caps.map (·+1))]::objs1,none,none,[one],.bool::tys,[.d 0],.box 109 [.clo f (caps.map (·+1))]::objs1,fun p=>(!(is p.2 p.1),p.2),List.range (objs1.length+1),[],[]⟩
def an2 (f:Nat) (tys:List Ty) (objs1:List OPat) (caps:List Nat) (is:Dens RU.T tys→Int→Bool):Con RU:=
 ⟨[one,one],ints::tys,[.d 0,.clo 99 [0]],.box 109 [.clo f (caps.map (·+1))]::objs1,none,none,[one],i64::tys,[.d 0],.box 109 [.clo f (caps.map (·+1))]::objs1,fun p=>(((p.1.findIdx? (fun n=>!(is p.2 n))).map (fun (i:Nat)=>(i:Int))).getD (-1),p.2),List.range (objs1.length+1),[],[]⟩
def an3 (f:Nat) (tys:List Ty) (objs1:List OPat) (caps:List Nat) (is:Dens RU.T tys→Int→Bool):Con RU:=
 ⟨[one,one],ints::tys,[.d 0,.clo 99 [0]],.box 109 [.clo f (caps.map (·+1))]::objs1,none,none,[one],.bool::tys,[.d 0],.box 109 [.clo f (caps.map (·+1))]::objs1,fun p=>(!(p.1.all (is p.2)),p.2),List.range (objs1.length+1),[],[]⟩
def cAll (f:Nat) (tys:List Ty) (objs:List OPat) (caps:List Nat) (is:Dens RU.T tys→Int→Bool):Con RU:=
 ⟨[one,one],ints::tys,[.d 0,.clo f caps],objs,none,none,[one],.bool::tys,[.d 0],objs,fun p=>(p.1.all (is p.2),p.2),List.range objs.length,[],[]⟩
def aU3 (l:List Int) (is:Int→Bool):Nat→St RU→Ann RU:=fun _ _=>⟨[],[.slot 8],[i64],fun p=>0≤p.1∧p.1≤l.length∧(l.take p.1.toNat).all is=true,fun p=>l.length-p.1.toNat,[]⟩
abbrev tysC:List Ty:=[i64,inss,ints,ints,mapB]
abbrev objC:List OPat:=[.box 25 [.d 1,.d 2,.d 3,.d 4],.box 117 [.map 2],.map 5]
abbrev an4:List OPat:=[.box 25 [.d 1,.d 2,.d 3,.d 4],.box 117 [.map 3],.map 5]
def isC (p:Dens RU.T tysC) (n:Int):Bool:=decide (n<p.1)||hasB p.2.2.2.2.1 n
abbrev tysI:List Ty:=[i64]
abbrev objI:List OPat:=[.box 3 [.d 1]]
def isI (p:Dens RU.T tysI) (n:Int):Bool:=decide (0≤n)&&decide (n<p.1)
def cIn:Con RU:=con [one,one] [i64,ints] [one] [.bool] [false] none fun p=>(p.2.1.all (fun n=>decide (0≤n)&&decide (n<p.1)),())
abbrev eqP:Place→Place→Bool:=E7 RU (.user 2)
abbrev tysP:List Ty:=[mapP]
abbrev objP:List OPat:=[.box 83 [.map 1],.map 1]
abbrev an5:List OPat:=[.box 83 [.map 2],.map 1]
def isP (p:Dens RU.T tysP) (s:Int):Bool:=(mget eqP p.1 ⟨false,s⟩).isSome
def bl3 (code:List Ins) (out:List Int) (e0:Int):Nat→St RU→Ann RU:=fun k s=>match k with
 |0=>⟨[],[.slot 14,.row 1000000,.box 1000001 0],[i64,i64,i64],fun p=>0≤p.1∧p.1≤code.length∧p.2.1=0∧C7 F4 (E3 (code.take p.1.toNat)) e0=(false,p.2.2.1),fun p=>code.length-p.1.toNat,[]⟩
 |1=>⟨[],[.slot 21,.row 1000000,.box 1000001 0],[i64,i64,i64],fun p=>0≤p.1∧p.1≤(code.getD (s.intAt 14).toNat ins0).from_.length∧p.2.1=0∧
   C7 F4 (E3 (code.take (s.intAt 14).toNat)++((code.getD (s.intAt 14).toNat ins0).from_.take p.1.toNat).map (fun n=>(n,false))) e0=(false,p.2.2.1),fun p=>(code.getD (s.intAt 14).toNat ins0).from_.length-p.1.toNat,[]⟩
 |2=>⟨[],[.slot 33,.row 1000000,.box 1000001 0],[i64,i64,i64],fun p=>0≤p.1∧p.1≤(code.getD (s.intAt 14).toNat ins0).to.length∧p.2.1=0∧
   C7 F4 (E3 (code.take (s.intAt 14).toNat)++(code.getD (s.intAt 14).toNat ins0).from_.map (fun n=>(n,false))++((code.getD (s.intAt 14).toNat ins0).to.take p.1.toNat).map (fun n=>(n,true))) e0=(false,p.2.2.1),fun p=>(code.getD (s.intAt 14).toNat ins0).to.length-p.1.toNat,[]⟩
 |_=>⟨[],[.slot 46,.row 1000000,.box 1000001 0],[i64,i64,i64],fun p=>0≤p.1∧p.1≤out.length∧p.2.1=0∧C7 F4 (E3 code++(out.take p.1.toNat).map (fun n=>(n,false))) e0=(false,p.2.2.1),fun p=>out.length-p.1.toNat,[]⟩
def bl4 (params:Int) (code:List Ins) (out:List Int) (e0:Int) (m0:List (Int×Bool)):Nat→St RU→Ann RU:=fun k s=>match k with
 |0=>⟨[],[.slot 14,.row 1000000,.box 1000001 0,.row 1000003],[i64,i64,i64,mapB],fun p=>0≤p.1∧p.1≤code.length∧p.2.1=0∧C7 (E1 params) (E3 (code.take p.1.toNat)) (e0,m0)=(false,p.2.2.1,p.2.2.2.1),fun p=>code.length-p.1.toNat,[]⟩
 |1=>⟨[],[.slot 21,.row 1000000,.box 1000001 0,.row 1000003],[i64,i64,i64,mapB],fun p=>0≤p.1∧p.1≤(code.getD (s.intAt 14).toNat ins0).from_.length∧p.2.1=0∧
   C7 (E1 params) (E3 (code.take (s.intAt 14).toNat)++((code.getD (s.intAt 14).toNat ins0).from_.take p.1.toNat).map (fun n=>(n,false))) (e0,m0)=(false,p.2.2.1,p.2.2.2.1),fun p=>(code.getD (s.intAt 14).toNat ins0).from_.length-p.1.toNat,[]⟩
 |2=>⟨[],[.slot 33,.row 1000000,.box 1000001 0,.row 1000003],[i64,i64,i64,mapB],fun p=>0≤p.1∧p.1≤(code.getD (s.intAt 14).toNat ins0).to.length∧p.2.1=0∧
   C7 (E1 params) (E3 (code.take (s.intAt 14).toNat)++(code.getD (s.intAt 14).toNat ins0).from_.map (fun n=>(n,false))++((code.getD (s.intAt 14).toNat ins0).to.take p.1.toNat).map (fun n=>(n,true))) (e0,m0)=(false,p.2.2.1,p.2.2.2.1),fun p=>(code.getD (s.intAt 14).toNat ins0).to.length-p.1.toNat,[]⟩
 |_=>⟨[],[.slot 46,.row 1000000,.box 1000001 0,.row 1000003],[i64,i64,i64,mapB],fun p=>0≤p.1∧p.1≤out.length∧p.2.1=0∧C7 (E1 params) (E3 code++(out.take p.1.toNat).map (fun n=>(n,false))) (e0,m0)=(false,p.2.2.1,p.2.2.2.1),fun p=>out.length-p.1.toNat,[]⟩
abbrev yl1:List (Nat×Nat):=[(0,0),(1,1)]
abbrev yl2:List (Nat×Nat):=[(0,0),(1,1),(2,2),(3,3),(4,4)]
theorem bU8 (a:Int) (b:List Ins) (c d:List Int):vc (EV []) noL Go.Proofs.Tryd.f76 cNamed (a,b,c,d,())=(let e0:Int×List Ins×List Int×List Int×Unit:=(a,b,c,d,());
 Small RU (Sigma.mk (Ty.slice (52:Nat) (Ty.user (0:Nat))) b)→
 Small RU (Sigma.mk (Ty.slice (3:Nat) (Ty.int IntKind.i64)) c)→Small RU (Sigma.mk (Ty.slice (3:Nat) (Ty.int IntKind.i64)) d)→e0=e0):=by kernel_rfl
theorem cl2 (n a:Int) (b:List Ins) (c d:List Int) (m:List (Int×Bool)):vc (EV []) noL Go.Proofs.Tryd.f77 (cIs tysC objC [0,1] isC) (n,a,b,c,d,m,())=(let e0:Int×List Ins×List Int×List Int×List (Int×Bool)×Unit:=(a,b,c,d,m,());
 Small RU (Sigma.mk (Ty.slice (52:Nat) (Ty.user (0:Nat))) b)→
 Small RU (Sigma.mk (Ty.slice (3:Nat) (Ty.int IntKind.i64)) c)→
 Small RU (Sigma.mk (Ty.slice (3:Nat) (Ty.int IntKind.i64)) d)→(decide (n<a)||Option.getD (mget (fun (x y:Int)=>x==y) m n) false,e0)=(isC e0 n,e0)):=by kernel_rfl
theorem cc8 (n a:Int) (b:List Ins) (c d:List Int) (m:List (Int×Bool)):vc (EV [(77,cIs tysC objC [0,1] isC)]) noL Go.Proofs.Tryd.f99 (cIsN 77 tysC an4 [0,1] isC) (n,a,b,c,d,m,())=(let e0:Bool×Int×List Ins×List Int×List Int×List (Int×Bool)×Unit:=(!isC (a,b,c,d,m,()) n,a,b,c,d,m,());
 Small RU (Sigma.mk (Ty.slice (52:Nat) (Ty.user (0:Nat))) b)→
 Small RU (Sigma.mk (Ty.slice (3:Nat) (Ty.int IntKind.i64)) c)→
 Small RU (Sigma.mk (Ty.slice (3:Nat) (Ty.int IntKind.i64)) d)→(((a=a∧b=b∧c=c∧d=d∧True)∧True)∧m=m∧True)∧e0=e0):=by kernel_rfl
theorem cc9 (l:List Int) (a:Int) (b:List Ins) (c d:List Int) (m:List (Int×Bool)):vc (EV [(99,cIsN 77 tysC an4 [0,1] isC)]) (aU3 l (isC (a,b,c,d,m,()))) Go.Proofs.Tryd.f106 (an2 77 tysC an4 [0,1] isC) (l,a,b,c,d,m,())=(let e0:Int×List Ins×List Int×List Int×List (Int×Bool)×Unit:=(a,b,c,d,m,());
 let e1:Int×Int×List Ins×List Int×List Int×List (Int×Bool)×Unit:=
  (Option.getD (Option.map (fun (i:Nat)=>(↑i:Int)) (List.findIdx? (fun (n:Int)=>!isC e0 n) l)) (-1:Int),e0);
 let e2:Int:=(↑(List.length l):Int);
  Small RU (Sigma.mk (Ty.slice (3:Nat) (Ty.int IntKind.i64)) l)→
  Small RU (Sigma.mk (Ty.slice (52:Nat) (Ty.user (0:Nat))) b)→
  Small RU (Sigma.mk (Ty.slice (3:Nat) (Ty.int IntKind.i64)) c)→
  Small RU (Sigma.mk (Ty.slice (3:Nat) (Ty.int IntKind.i64)) d)→
  (∃ (p:Int×Unit),l=l∧e2=e2∧(0:Int)=p.1∧a=a∧b=b∧c=c∧d=d∧m=m∧(0:Int)≤p.1∧p.1≤e2∧List.all (List.take (Int.toNat p.1) l) (isC e0)=true)∧
  ∀ (p:Int×Unit),
 let e0_1:Bool:=decide (p.1<e2);
 let e1_1:Bool:=!isC e0 (List.getD l (Int.toNat p.1) (0:Int));
  (0:Int)≤p.1∧p.1≤e2∧List.all (List.take (Int.toNat p.1) l) (isC e0)=true→
  (e0_1=true→
  ((0:Int)≤p.1∧p.1<e2)∧
  (((True∧a=a∧b=b∧c=c∧d=d∧True)∧True)∧m=m∧True)∧
  (e1_1=true→(p.1,e0)=e1)∧
  (e1_1=false→
  ∃ (p':Int×Unit),
  l=l∧
  e2=e2∧
  IntKind.i64.wrap (p.1+(1:Int))=p'.1∧
  a=a∧
  b=b∧
  c=c∧
  d=d∧
  m=m∧
  ((0:Int)≤p'.1∧p'.1≤e2∧List.all (List.take (Int.toNat p'.1) l) (isC e0)=true)∧
  List.length l-Int.toNat p'.1<List.length l-Int.toNat p.1))∧
  (e0_1=false→((-1:Int),e0)=e1)):=by kernel_rfl
theorem cd0 (l:List Int) (a:Int) (b:List Ins) (c d:List Int) (m:List (Int×Bool)):vc (EV [(106,an2 77 tysC an4 [0,1] isC)]) noL Go.Proofs.Tryd.f98 (an3 77 tysC an4 [0,1] isC) (l,a,b,c,d,m,())=(let e0:Int×List Ins×List Int×List Int×List (Int×Bool)×Unit:=(a,b,c,d,m,());
 Small RU (Sigma.mk (Ty.slice (3:Nat) (Ty.int IntKind.i64)) l)→
 Small RU (Sigma.mk (Ty.slice (52:Nat) (Ty.user (0:Nat))) b)→
 Small RU (Sigma.mk (Ty.slice (3:Nat) (Ty.int IntKind.i64)) c)→
 Small RU (Sigma.mk (Ty.slice (3:Nat) (Ty.int IntKind.i64)) d)→
 (((True∧a=a∧b=b∧c=c∧d=d∧True)∧True)∧m=m∧True)∧
 (decide (Option.getD (Option.map (fun (i:Nat)=>(↑i:Int)) (List.findIdx? (fun (n:Int)=>!isC e0 n) l)) (-1:Int)≥(0:Int)),e0)=(!List.all l (isC e0),e0)):=by kernel_rfl
theorem cd1 (l:List Int) (a:Int) (b:List Ins) (c d:List Int) (m:List (Int×Bool)):vc (EV [(98,an3 77 tysC an4 [0,1] isC)]) noL Go.Proofs.Tryd.f78 (cAll 77 tysC objC [0,1] isC) (l,a,b,c,d,m,())=(let e0:Int×List Ins×List Int×List Int×List (Int×Bool)×Unit:=(a,b,c,d,m,());
 Small RU (Sigma.mk (Ty.slice (3:Nat) (Ty.int IntKind.i64)) l)→
 Small RU (Sigma.mk (Ty.slice (52:Nat) (Ty.user (0:Nat))) b)→
 Small RU (Sigma.mk (Ty.slice (3:Nat) (Ty.int IntKind.i64)) c)→
 Small RU (Sigma.mk (Ty.slice (3:Nat) (Ty.int IntKind.i64)) d)→
 (((True∧a=a∧b=b∧c=c∧d=d∧True)∧True)∧m=m∧True)∧(!!List.all l (isC e0),e0)=(List.all l (isC e0),e0)):=by kernel_rfl
theorem cl3 (n a:Int):vc (EV []) noL Go.Proofs.Tryd.f105 (cIs tysI objI [0] isI) (n,a,())=((decide ((0:Int)≤n)&&decide (n<a),a,())=(isI (a,()) n,a,())):=by kernel_rfl
theorem cd2 (n a:Int):vc (EV [(105,cIs tysI objI [0] isI)]) noL Go.Proofs.Tryd.f99 (cIsN 105 tysI objI [0] isI) (n,a,())=(let e0:Bool×Int×Unit:=(!isI (a,()) n,a,());
 (a=a∧True)∧e0=e0):=by kernel_rfl
theorem cd3 (l:List Int) (a:Int):vc (EV [(99,cIsN 105 tysI objI [0] isI)]) (aU3 l (isI (a,()))) Go.Proofs.Tryd.f106 (an2 105 tysI objI [0] isI) (l,a,())=(let e0:Int×Int×Unit:=(Option.getD (Option.map (fun (i:Nat)=>(↑i:Int)) (List.findIdx? (fun (n:Int)=>!isI (a,()) n) l)) (-1:Int),a,());
 let e1:Int:=(↑(List.length l):Int);
  Small RU (Sigma.mk (Ty.slice (3:Nat) (Ty.int IntKind.i64)) l)→
  (∃ (p:Int×Unit),l=l∧e1=e1∧(0:Int)=p.1∧a=a∧(0:Int)≤p.1∧p.1≤e1∧List.all (List.take (Int.toNat p.1) l) (isI (a,()))=true)∧
  ∀ (p:Int×Unit),
 let e0_1:Bool:=decide (p.1<e1);
 let e1_1:Bool:=!isI (a,()) (List.getD l (Int.toNat p.1) (0:Int));
  (0:Int)≤p.1∧p.1≤e1∧List.all (List.take (Int.toNat p.1) l) (isI (a,()))=true→
  (e0_1=true→
  ((0:Int)≤p.1∧p.1<e1)∧
  (True∧a=a∧True)∧
  (e1_1=true→(p.1,a,())=e0)∧
  (e1_1=false→
  ∃ (p':Int×Unit),
  l=l∧
  e1=e1∧
  IntKind.i64.wrap (p.1+(1:Int))=p'.1∧
  a=a∧
  ((0:Int)≤p'.1∧p'.1≤e1∧List.all (List.take (Int.toNat p'.1) l) (isI (a,()))=true)∧
  List.length l-Int.toNat p'.1<List.length l-Int.toNat p.1))∧
  (e0_1=false→((-1:Int),a,())=e0)):=by kernel_rfl
theorem cd4 (l:List Int) (a:Int):vc (EV [(106,an2 105 tysI objI [0] isI)]) noL Go.Proofs.Tryd.f98 (an3 105 tysI objI [0] isI) (l,a,())=(Small RU (Sigma.mk (Ty.slice (3:Nat) (Ty.int IntKind.i64)) l)→
 (True∧a=a∧True)∧
 (decide (Option.getD (Option.map (fun (i:Nat)=>(↑i:Int)) (List.findIdx? (fun (n:Int)=>!isI (a,()) n) l)) (-1:Int)≥(0:Int)),a,())=(!List.all l (isI (a,())),a,())):=by kernel_rfl
theorem cd5 (l:List Int) (a:Int):vc (EV [(98,an3 105 tysI objI [0] isI)]) noL Go.Proofs.Tryd.f78 (cAll 105 tysI objI [0] isI) (l,a,())=(Small RU (Sigma.mk (Ty.slice (3:Nat) (Ty.int IntKind.i64)) l)→(True∧a=a∧True)∧(!!List.all l (isI (a,())),a,())=(List.all l (isI (a,())),a,())):=by kernel_rfl
theorem cn9 (a:Int) (l:List Int):vc (EV [(78,cAll 105 tysI objI [0] isI)]) noL Go.Proofs.Tryd.f92 cIn (a,l,())=(Small RU (Sigma.mk (Ty.slice (3:Nat) (Ty.int IntKind.i64)) l)→(a=a∧True)∧(List.all l (isI (a,())),())=(List.all l fun (n:den RU.T i64)=>decide ((0:Int)≤n)&&decide (n<a),())):=by kernel_rfl
theorem cl4 (n:Int) (m:List (Place×Int)):vc (EV []) noL Go.Proofs.Tryd.f89 (cIs tysP objP [0] isP) (n,m,())=(let e0:List (Place×Int)×Unit:=(m,());
 (Option.isSome (mget (E7 RU (Ty.user (2:Nat))) m (Place.mk false n)),e0)=(isP e0 n,e0)):=by kernel_rfl
theorem cd6 (n:Int) (m:List (Place×Int)):vc (EV [(89,cIs tysP objP [0] isP)]) noL Go.Proofs.Tryd.f99 (cIsN 89 tysP an5 [0] isP) (n,m,())=(let e0:Bool×List (Place×Int)×Unit:=(!isP (m,()) n,m,());
 (True∧m=m∧True)∧e0=e0):=by kernel_rfl
theorem cd7 (l:List Int) (m:List (Place×Int)):vc (EV [(99,cIsN 89 tysP an5 [0] isP)]) (aU3 l (isP (m,()))) Go.Proofs.Tryd.f106 (an2 89 tysP an5 [0] isP) (l,m,())=(let e0:Int×List (Place×Int)×Unit:=(Option.getD (Option.map (fun (i:Nat)=>(↑i:Int)) (List.findIdx? (fun (n:Int)=>!isP (m,()) n) l)) (-1:Int),m,());
 let e1:Int:=(↑(List.length l):Int);
 let e2:List (Place×Int)×Unit:=(m,());
  Small RU (Sigma.mk (Ty.slice (3:Nat) (Ty.int IntKind.i64)) l)→
  (∃ (p:Int×Unit),l=l∧e1=e1∧(0:Int)=p.1∧m=m∧(0:Int)≤p.1∧p.1≤e1∧List.all (List.take (Int.toNat p.1) l) (isP e2)=true)∧
  ∀ (p:Int×Unit),
 let e0_1:Bool:=decide (p.1<e1);
 let e1_1:Bool:=!isP e2 (List.getD l (Int.toNat p.1) (0:Int));
  (0:Int)≤p.1∧p.1≤e1∧List.all (List.take (Int.toNat p.1) l) (isP e2)=true→
  (e0_1=true→
  ((0:Int)≤p.1∧p.1<e1)∧
  ((True∧True)∧m=m∧True)∧
  (e1_1=true→(p.1,e2)=e0)∧
  (e1_1=false→
  ∃ (p':Int×Unit),
  l=l∧
  e1=e1∧
  IntKind.i64.wrap (p.1+(1:Int))=p'.1∧
  m=m∧
  ((0:Int)≤p'.1∧p'.1≤e1∧List.all (List.take (Int.toNat p'.1) l) (isP e2)=true)∧List.length l-Int.toNat p'.1<List.length l-Int.toNat p.1))∧
  (e0_1=false→((-1:Int),e2)=e0)):=by kernel_rfl
theorem cd8 (l:List Int) (m:List (Place×Int)):vc (EV [(106,an2 89 tysP an5 [0] isP)]) noL Go.Proofs.Tryd.f98 (an3 89 tysP an5 [0] isP) (l,m,())=(let e0:List (Place×Int)×Unit:=(m,());
 Small RU (Sigma.mk (Ty.slice (3:Nat) (Ty.int IntKind.i64)) l)→
 ((True∧True)∧m=m∧True)∧
 (decide (Option.getD (Option.map (fun (i:Nat)=>(↑i:Int)) (List.findIdx? (fun (n:Int)=>!isP e0 n) l)) (-1:Int)≥(0:Int)),e0)=(!List.all l (isP e0),e0)):=by kernel_rfl
theorem cd9 (l:List Int) (m:List (Place×Int)):vc (EV [(98,an3 89 tysP an5 [0] isP)]) noL Go.Proofs.Tryd.f78 (cAll 89 tysP objP [0] isP) (l,m,())=(let e0:List (Place×Int)×Unit:=(m,());
 Small RU (Sigma.mk (Ty.slice (3:Nat) (Ty.int IntKind.i64)) l)→((True∧True)∧m=m∧True)∧(!!List.all l (isP e0),e0)=(List.all l (isP e0),e0)):=by kernel_rfl
theorem bK4 (st e a:Int) (b:List Ins) (c d:List Int):vc (EVy yl1 (some Y8) []) (bl3 b c e) Go.Proofs.Tryd.f97 aU1 (st,e,a,b,c,d,())=(let e0:Ins:=Ins.mk (0:Int) (0:Int) [] [] [];
 let e1:Int×Int×Unit:=(stOf (C7 F4 (D9 b c) e).1,(C7 F4 (D9 b c) e).2,());
 let e2:Int:=(↑(List.length b):Int);
 let e3:Int:=(↑(List.length c):Int);
  Small RU (Sigma.mk (Ty.slice (52:Nat) (Ty.user (0:Nat))) b)→
  Small RU (Sigma.mk (Ty.slice (3:Nat) (Ty.int IntKind.i64)) c)→
  Small RU (Sigma.mk (Ty.slice (3:Nat) (Ty.int IntKind.i64)) d)→
  (∃ (p:Int×Int×Int×Unit),
  b=b∧
  e2=e2∧
  (0:Int)=p.1∧
  st=p.2.1∧
  e=p.2.2.1∧
  a=a∧b=b∧c=c∧d=d∧(0:Int)≤p.1∧p.1≤e2∧p.2.1=(0:Int)∧C7 F4 (E3 (List.take (Int.toNat p.1) b)) e=(false,p.2.2.1))∧
  ∀ (p:Int×Int×Int×Unit),
 let e0_1:Bool:=decide (p.1<e2);
 let e1_1:Int:=(↑(List.length (List.getD b (Int.toNat p.1) e0).from_):Int);
 let e2_1:List Int:=(List.getD b (Int.toNat p.1) e0).to;
 let e3_1:List Int:=(List.getD b (Int.toNat p.1) e0).from_;
 let e4:Int:=p.1;
 let e5:Nat:=List.length (List.getD b (Int.toNat e4) ins0).from_;
 let e6:Int:=(↑(List.length e2_1):Int);
 let e7:Nat:=List.length (List.getD b (Int.toNat e4) ins0).to;
 let e8:Int:=p.2.2.1;
  (0:Int)≤e4∧e4≤e2∧p.2.1=(0:Int)∧C7 F4 (E3 (List.take (Int.toNat e4) b)) e=(false,e8)→
  (e0_1=true→
  ((0:Int)≤e4∧e4<e2)∧
  (∃ (p_1:Int×Int×Int×Unit),
  b=b∧
  e2=e2∧
  e4=e4∧
  e0_1=e0_1∧
  e3_1=e3_1∧
  e1_1=e1_1∧
  (0:Int)=p_1.1∧
  p.2.1=p_1.2.1∧
  e8=p_1.2.2.1∧
  a=a∧
  b=b∧
  c=c∧
  d=d∧
  (List.getD b (Int.toNat e4) e0).op=(List.getD b (Int.toNat e4) e0).op∧
  (List.getD b (Int.toNat e4) e0).n=(List.getD b (Int.toNat e4) e0).n∧
  e2_1=e2_1∧
  e3_1=e3_1∧
  (List.getD b (Int.toNat e4) e0).body=(List.getD b (Int.toNat e4) e0).body∧
  (0:Int)≤p_1.1∧
  p_1.1≤(↑e5:Int)∧
  p_1.2.1=(0:Int)∧
  C7 F4
  (E3 (List.take (Int.toNat e4) b)++
  List.map (fun (n:Int)=>(n,false)) (List.take (Int.toNat p_1.1) (List.getD b (Int.toNat e4) ins0).from_))
  e=
  (false,p_1.2.2.1))∧
  ∀ (p:Int×Int×Int×Unit),
 let e0_2:Bool:=decide (p.1<e1_1);
 let e1_2:Int:=p.1;
 let e2_2:Bool:=!!(F4 p.2.2.1 (List.getD e3_1 (Int.toNat e1_2) (0:Int),false)).1;
 let e3:Int:=stOf (F4 p.2.2.1 (List.getD e3_1 (Int.toNat e1_2) (0:Int),false)).1;
 let e4_1:Int:=(F4 p.2.2.1 (List.getD e3_1 (Int.toNat e1_2) (0:Int),false)).2;
 let e5_1:Int:=p.2.2.1;
 let e6_1:List Int:=(List.getD b (Int.toNat e4) ins0).from_;
  (0:Int)≤e1_2∧
  e1_2≤(↑e5:Int)∧
  p.2.1=(0:Int)∧C7 F4 (E3 (List.take (Int.toNat e4) b)++List.map (fun (n:Int)=>(n,false)) (List.take (Int.toNat e1_2) e6_1)) e=(false,e5_1)→
  (e0_2=true→
  ((0:Int)≤e1_2∧e1_2<e1_1)∧
  p.2.1=(0:Int)∧
  (e2_2=true→(e3,e4_1,())=e1)∧
  (e2_2=false→
  ∃ (p':Int×Int×Int×Unit),
  b=b∧
  e2=e2∧
  e4=e4∧
  e0_1=e0_1∧
  e3_1=e3_1∧
  e1_1=e1_1∧
  IntKind.i64.wrap (e1_2+(1:Int))=p'.1∧
  e3=p'.2.1∧
  e4_1=p'.2.2.1∧
  a=a∧
  b=b∧
  c=c∧
  d=d∧
  (List.getD b (Int.toNat e4) e0).op=(List.getD b (Int.toNat e4) e0).op∧
  (List.getD b (Int.toNat e4) e0).n=(List.getD b (Int.toNat e4) e0).n∧
  e2_1=e2_1∧
  e3_1=e3_1∧
  (List.getD b (Int.toNat e4) e0).body=(List.getD b (Int.toNat e4) e0).body∧
  ((0:Int)≤p'.1∧
  p'.1≤(↑e5:Int)∧
  p'.2.1=(0:Int)∧
  C7 F4
  (E3 (List.take (Int.toNat e4) b)++
  List.map (fun (n:Int)=>(n,false)) (List.take (Int.toNat p'.1) e6_1))
  e=
  (false,p'.2.2.1))∧
  e5-Int.toNat p'.1<e5-Int.toNat e1_2))∧
  (e0_2=false→
  (∃ (p_1:Int×Int×Int×Unit),
  b=b∧
  e2=e2∧
  e4=e4∧
  e0_1=e0_1∧
  e3_1=e3_1∧
  e1_1=e1_1∧
  e1_2=e1_2∧
  e0_2=e0_2∧
  e2_1=e2_1∧
  e6=e6∧
  (0:Int)=p_1.1∧
  p.2.1=p_1.2.1∧
  e5_1=p_1.2.2.1∧
  a=a∧
  b=b∧
  c=c∧
  d=d∧
  (List.getD b (Int.toNat e4) e0).op=(List.getD b (Int.toNat e4) e0).op∧
  (List.getD b (Int.toNat e4) e0).n=(List.getD b (Int.toNat e4) e0).n∧
  e2_1=e2_1∧
  e3_1=e3_1∧
  (List.getD b (Int.toNat e4) e0).body=(List.getD b (Int.toNat e4) e0).body∧
  (0:Int)≤p_1.1∧
  p_1.1≤(↑e7:Int)∧
  p_1.2.1=(0:Int)∧
  C7 F4
  (E3 (List.take (Int.toNat e4) b)++List.map (fun (n:Int)=>(n,false)) e6_1++
  List.map (fun (n:Int)=>(n,true)) (List.take (Int.toNat p_1.1) (List.getD b (Int.toNat e4) ins0).to))
  e=
  (false,p_1.2.2.1))∧
  ∀ (p:Int×Int×Int×Unit),
 let e0_3:Bool:=!!(F4 p.2.2.1 (List.getD e2_1 (Int.toNat p.1) (0:Int),true)).1;
 let e1_3:Int:=stOf (F4 p.2.2.1 (List.getD e2_1 (Int.toNat p.1) (0:Int),true)).1;
 let e2_3:Int:=(F4 p.2.2.1 (List.getD e2_1 (Int.toNat p.1) (0:Int),true)).2;
 let e3:List (Int×Bool):=E3 (List.take (Int.toNat e4) b)++List.map (fun (n:Int)=>(n,false)) e6_1;
 let e4_2:Int:=p.1;
 let e5:Bool:=decide (e4_2<e6);
 let e6_2:Int:=p.2.2.1;
  (0:Int)≤e4_2∧
  e4_2≤(↑e7:Int)∧
  p.2.1=(0:Int)∧
  C7 F4 (e3++List.map (fun (n:Int)=>(n,true)) (List.take (Int.toNat e4_2) (List.getD b (Int.toNat e4) ins0).to)) e=(false,e6_2)→
  (e5=true→
  ((0:Int)≤e4_2∧e4_2<e6)∧
  p.2.1=(0:Int)∧
  (e0_3=true→(e1_3,e2_3,())=e1)∧
  (e0_3=false→
  ∃ (p':Int×Int×Int×Unit),
  b=b∧
  e2=e2∧
  e4=e4∧
  e0_1=e0_1∧
  e3_1=e3_1∧
  e1_1=e1_1∧
  e1_2=e1_2∧
  e0_2=e0_2∧
  e2_1=e2_1∧
  e6=e6∧
  IntKind.i64.wrap (e4_2+(1:Int))=p'.1∧
  e1_3=p'.2.1∧
  e2_3=p'.2.2.1∧
  a=a∧
  b=b∧
  c=c∧
  d=d∧
  (List.getD b (Int.toNat e4) e0).op=(List.getD b (Int.toNat e4) e0).op∧
  (List.getD b (Int.toNat e4) e0).n=(List.getD b (Int.toNat e4) e0).n∧
  e2_1=e2_1∧
  e3_1=e3_1∧
  (List.getD b (Int.toNat e4) e0).body=(List.getD b (Int.toNat e4) e0).body∧
  ((0:Int)≤p'.1∧
  p'.1≤(↑e7:Int)∧
  p'.2.1=(0:Int)∧
  C7 F4
  (e3++
  List.map (fun (n:Int)=>(n,true))
  (List.take (Int.toNat p'.1) (List.getD b (Int.toNat e4) ins0).to))
  e=
  (false,p'.2.2.1))∧
  e7-Int.toNat p'.1<e7-Int.toNat e4_2))∧
  (e5=false→
  ∃ (p':Int×Int×Int×Unit),
  b=b∧
  e2=e2∧
  IntKind.i64.wrap (e4+(1:Int))=p'.1∧
  p.2.1=p'.2.1∧
  e6_2=p'.2.2.1∧
  a=a∧
  b=b∧
  c=c∧
  d=d∧
  ((0:Int)≤p'.1∧
  p'.1≤e2∧p'.2.1=(0:Int)∧C7 F4 (E3 (List.take (Int.toNat p'.1) b)) e=(false,p'.2.2.1))∧
  List.length b-Int.toNat p'.1<List.length b-Int.toNat e4)))∧
  (e0_1=false→
  (∃ (p_1:Int×Int×Int×Unit),
  b=b∧
  e2=e2∧
  e4=e4∧
  e0_1=e0_1∧
  c=c∧
  e3=e3∧
  (0:Int)=p_1.1∧
  p.2.1=p_1.2.1∧
  e8=p_1.2.2.1∧
  a=a∧
  b=b∧
  c=c∧
  d=d∧
  (0:Int)≤p_1.1∧
  p_1.1≤e3∧
  p_1.2.1=(0:Int)∧
  C7 F4 (E3 b++List.map (fun (n:Int)=>(n,false)) (List.take (Int.toNat p_1.1) c)) e=(false,p_1.2.2.1))∧
  ∀ (p:Int×Int×Int×Unit),
 let e0:Bool:=!!(F4 p.2.2.1 (List.getD c (Int.toNat p.1) (0:Int),false)).1;
 let e1_2:Int:=stOf (F4 p.2.2.1 (List.getD c (Int.toNat p.1) (0:Int),false)).1;
 let e2_2:Int:=(F4 p.2.2.1 (List.getD c (Int.toNat p.1) (0:Int),false)).2;
 let e3_2:Int:=p.1;
 let e4_1:Bool:=decide (e3_2<e3);
 let e5:Int:=p.2.2.1;
  (0:Int)≤e3_2∧e3_2≤e3∧p.2.1=(0:Int)∧C7 F4 (E3 b++List.map (fun (n:Int)=>(n,false)) (List.take (Int.toNat e3_2) c)) e=(false,e5)→
  (e4_1=true→
  ((0:Int)≤e3_2∧e3_2<e3)∧
  p.2.1=(0:Int)∧
  (e0=true→(e1_2,e2_2,())=e1)∧
  (e0=false→
  ∃ (p':Int×Int×Int×Unit),
  b=b∧
  e2=e2∧
  e4=e4∧
  e0_1=e0_1∧
  c=c∧
  e3=e3∧
  IntKind.i64.wrap (e3_2+(1:Int))=p'.1∧
  e1_2=p'.2.1∧
  e2_2=p'.2.2.1∧
  a=a∧
  b=b∧
  c=c∧
  d=d∧
  ((0:Int)≤p'.1∧
  p'.1≤e3∧
  p'.2.1=(0:Int)∧
  C7 F4 (E3 b++List.map (fun (n:Int)=>(n,false)) (List.take (Int.toNat p'.1) c)) e=(false,p'.2.2.1))∧
  List.length c-Int.toNat p'.1<List.length c-Int.toNat e3_2))∧
  (e4_1=false→(p.2.1,e5,())=e1))):=by kernel_rfl
theorem bK5 (st e:Int) (m:List (Int×Bool)) (x:Int) (y:List Ins) (z w:List Int) (a:Int) (b:List Ins) (c d:List Int):vc (EVy yl2 (some Y9) []) (bl4 x b c e m) Go.Proofs.Tryd.f97 aU2 (st,e,m,x,y,z,w,a,b,c,d,())=(let e0:Int×Int×List (Int×Bool)×Int×List Ins×List Int×List Int×Unit:=
  (stOf (C7 (E1 x) (D9 b c) (e,m)).1,(C7 (E1 x) (D9 b c) (e,m)).2.1,(C7 (E1 x) (D9 b c) (e,m)).2.2,x,y,z,w,());
 let e1:Ins:=Ins.mk (0:Int) (0:Int) [] [] [];
 let e2:Int×List Ins×List Int×List Int×Unit:=(x,y,z,w,());
 let e3:Int:=(↑(List.length b):Int);
 let e4:Int×List (Int×Bool):=(e,m);
 let e5:Int:=(↑(List.length c):Int);
  Small RU (Sigma.mk (Ty.slice (52:Nat) (Ty.user (0:Nat))) y)→
  Small RU (Sigma.mk (Ty.slice (3:Nat) (Ty.int IntKind.i64)) z)→
  Small RU (Sigma.mk (Ty.slice (3:Nat) (Ty.int IntKind.i64)) w)→
  Small RU (Sigma.mk (Ty.slice (52:Nat) (Ty.user (0:Nat))) b)→
  Small RU (Sigma.mk (Ty.slice (3:Nat) (Ty.int IntKind.i64)) c)→
  Small RU (Sigma.mk (Ty.slice (3:Nat) (Ty.int IntKind.i64)) d)→
  (∃ (p:Int×Int×Int×List (Int×Bool)×Unit),
  b=b∧
  e3=e3∧
  (0:Int)=p.1∧
  st=p.2.1∧
  e=p.2.2.1∧
  m=p.2.2.2.1∧
  x=x∧
  y=y∧
  z=z∧
  w=w∧
  a=a∧
  b=b∧
  c=c∧
  d=d∧
  (0:Int)≤p.1∧
  p.1≤e3∧p.2.1=(0:Int)∧C7 (E1 x) (E3 (List.take (Int.toNat p.1) b)) e4=(false,p.2.2.1,p.2.2.2.1))∧
  ∀ (p:Int×Int×Int×List (Int×Bool)×Unit),
 let e0_1:Int:=(↑(List.length (List.getD b (Int.toNat p.1) e1).from_):Int);
 let e1_1:Bool:=decide (p.1<e3);
 let e2_1:List Int:=(List.getD b (Int.toNat p.1) e1).to;
 let e3_1:Int:=p.1;
 let e4_1:List (Int×Bool):=p.2.2.2.1;
 let e5_1:Int:=p.2.2.1;
 let e6:List Int:=(List.getD b (Int.toNat e3_1) e1).from_;
 let e7:Int:=p.2.1;
 let e8:Nat:=List.length (List.getD b (Int.toNat e3_1) ins0).from_;
 let e9:Int:=(↑(List.length e2_1):Int);
 let e10:Nat:=List.length (List.getD b (Int.toNat e3_1) ins0).to;
  (0:Int)≤e3_1∧e3_1≤e3∧e7=(0:Int)∧C7 (E1 x) (E3 (List.take (Int.toNat e3_1) b)) e4=(false,e5_1,e4_1)→
  (e1_1=true→
  ((0:Int)≤e3_1∧e3_1<e3)∧
  (∃ (p:Int×Int×Int×List (Int×Bool)×Unit),
  b=b∧
  e3=e3∧
  e3_1=e3_1∧
  e1_1=e1_1∧
  e6=e6∧
  e0_1=e0_1∧
  (0:Int)=p.1∧
  e7=p.2.1∧
  e5_1=p.2.2.1∧
  e4_1=p.2.2.2.1∧
  x=x∧
  y=y∧
  z=z∧
  w=w∧
  a=a∧
  b=b∧
  c=c∧
  d=d∧
  (List.getD b (Int.toNat e3_1) e1).op=(List.getD b (Int.toNat e3_1) e1).op∧
  (List.getD b (Int.toNat e3_1) e1).n=(List.getD b (Int.toNat e3_1) e1).n∧
  e2_1=e2_1∧
  e6=e6∧
  (List.getD b (Int.toNat e3_1) e1).body=(List.getD b (Int.toNat e3_1) e1).body∧
  (0:Int)≤p.1∧
  p.1≤(↑e8:Int)∧
  p.2.1=(0:Int)∧
  C7 (E1 x)
  (E3 (List.take (Int.toNat e3_1) b)++
  List.map (fun (n:Int)=>(n,false)) (List.take (Int.toNat p.1) (List.getD b (Int.toNat e3_1) ins0).from_))
  e4=
  (false,p.2.2.1,p.2.2.2.1))∧
  ∀ (p:Int×Int×Int×List (Int×Bool)×Unit),
 let e0_2:Bool:=decide (p.1<e0_1);
 let e1_2:List (Int×Bool):=(E1 x (p.2.2.1,p.2.2.2.1) (List.getD e6 (Int.toNat p.1) (0:Int),false)).2.2;
 let e2_2:Int:=(E1 x (p.2.2.1,p.2.2.2.1) (List.getD e6 (Int.toNat p.1) (0:Int),false)).2.1;
 let e3_2:Bool:=!!(E1 x (p.2.2.1,p.2.2.2.1) (List.getD e6 (Int.toNat p.1) (0:Int),false)).1;
 let e4_2:Int:=stOf (E1 x (p.2.2.1,p.2.2.2.1) (List.getD e6 (Int.toNat p.1) (0:Int),false)).1;
 let e5:Int:=p.1;
 let e6_1:List (Int×Bool):=p.2.2.2.1;
 let e7:Int:=p.2.2.1;
 let e8_1:Int:=p.2.1;
 let e9_1:List Int:=(List.getD b (Int.toNat e3_1) ins0).from_;
  (0:Int)≤e5∧
  e5≤(↑e8:Int)∧
  e8_1=(0:Int)∧
  C7 (E1 x) (E3 (List.take (Int.toNat e3_1) b)++List.map (fun (n:Int)=>(n,false)) (List.take (Int.toNat e5) e9_1)) e4=(false,e7,e6_1)→
  (e0_2=true→
  ((0:Int)≤e5∧e5<e0_1)∧
  (e8_1=(0:Int)∧x=x∧y=y∧z=z∧w=w∧True)∧
  (e3_2=true→(e4_2,e2_2,e1_2,e2)=e0)∧
  (e3_2=false→
  ∃ (p':Int×Int×Int×List (Int×Bool)×Unit),
  b=b∧
  e3=e3∧
  e3_1=e3_1∧
  e1_1=e1_1∧
  e6=e6∧
  e0_1=e0_1∧
  IntKind.i64.wrap (e5+(1:Int))=p'.1∧
  e4_2=p'.2.1∧
  e2_2=p'.2.2.1∧
  e1_2=p'.2.2.2.1∧
  x=x∧
  y=y∧
  z=z∧
  w=w∧
  a=a∧
  b=b∧
  c=c∧
  d=d∧
  (List.getD b (Int.toNat e3_1) e1).op=(List.getD b (Int.toNat e3_1) e1).op∧
  (List.getD b (Int.toNat e3_1) e1).n=(List.getD b (Int.toNat e3_1) e1).n∧
  e2_1=e2_1∧
  e6=e6∧
  (List.getD b (Int.toNat e3_1) e1).body=(List.getD b (Int.toNat e3_1) e1).body∧
  ((0:Int)≤p'.1∧
  p'.1≤(↑e8:Int)∧
  p'.2.1=(0:Int)∧
  C7 (E1 x)
  (E3 (List.take (Int.toNat e3_1) b)++
  List.map (fun (n:Int)=>(n,false)) (List.take (Int.toNat p'.1) e9_1))
  e4=
  (false,p'.2.2.1,p'.2.2.2.1))∧
  e8-Int.toNat p'.1<e8-Int.toNat e5))∧
  (e0_2=false→
  (∃ (p:Int×Int×Int×List (Int×Bool)×Unit),
  b=b∧
  e3=e3∧
  e3_1=e3_1∧
  e1_1=e1_1∧
  e6=e6∧
  e0_1=e0_1∧
  e5=e5∧
  e0_2=e0_2∧
  e2_1=e2_1∧
  e9=e9∧
  (0:Int)=p.1∧
  e8_1=p.2.1∧
  e7=p.2.2.1∧
  e6_1=p.2.2.2.1∧
  x=x∧
  y=y∧
  z=z∧
  w=w∧
  a=a∧
  b=b∧
  c=c∧
  d=d∧
  (List.getD b (Int.toNat e3_1) e1).op=(List.getD b (Int.toNat e3_1) e1).op∧
  (List.getD b (Int.toNat e3_1) e1).n=(List.getD b (Int.toNat e3_1) e1).n∧
  e2_1=e2_1∧
  e6=e6∧
  (List.getD b (Int.toNat e3_1) e1).body=(List.getD b (Int.toNat e3_1) e1).body∧
  (0:Int)≤p.1∧
  p.1≤(↑e10:Int)∧
  p.2.1=(0:Int)∧
  C7 (E1 x)
  (E3 (List.take (Int.toNat e3_1) b)++List.map (fun (n:Int)=>(n,false)) e9_1++
  List.map (fun (n:Int)=>(n,true))
  (List.take (Int.toNat p.1) (List.getD b (Int.toNat e3_1) ins0).to))
  e4=
  (false,p.2.2.1,p.2.2.2.1))∧
  ∀ (p:Int×Int×Int×List (Int×Bool)×Unit),
 let e0_3:Int:=(E1 x (p.2.2.1,p.2.2.2.1) (List.getD e2_1 (Int.toNat p.1) (0:Int),true)).2.1;
 let e1_3:List (Int×Bool):=(E1 x (p.2.2.1,p.2.2.2.1) (List.getD e2_1 (Int.toNat p.1) (0:Int),true)).2.2;
 let e2_3:Bool:=!!(E1 x (p.2.2.1,p.2.2.2.1) (List.getD e2_1 (Int.toNat p.1) (0:Int),true)).1;
 let e3_3:Int:=stOf (E1 x (p.2.2.1,p.2.2.2.1) (List.getD e2_1 (Int.toNat p.1) (0:Int),true)).1;
 let e4_3:Int:=p.1;
 let e5_2:List (Int×Bool):=E3 (List.take (Int.toNat e3_1) b)++List.map (fun (n:Int)=>(n,false)) e9_1;
 let e6_2:List (Int×Bool):=p.2.2.2.1;
 let e7:Int:=p.2.2.1;
 let e8:Bool:=decide (e4_3<e9);
 let e9_2:Int:=p.2.1;
  (0:Int)≤e4_3∧
  e4_3≤(↑e10:Int)∧
  e9_2=(0:Int)∧
  C7 (E1 x) (e5_2++List.map (fun (n:Int)=>(n,true)) (List.take (Int.toNat e4_3) (List.getD b (Int.toNat e3_1) ins0).to)) e4=
  (false,e7,e6_2)→
  (e8=true→
  ((0:Int)≤e4_3∧e4_3<e9)∧
  (e9_2=(0:Int)∧x=x∧y=y∧z=z∧w=w∧True)∧
  (e2_3=true→(e3_3,e0_3,e1_3,e2)=e0)∧
  (e2_3=false→
  ∃ (p':Int×Int×Int×List (Int×Bool)×Unit),
  b=b∧
  e3=e3∧
  e3_1=e3_1∧
  e1_1=e1_1∧
  e6=e6∧
  e0_1=e0_1∧
  e5=e5∧
  e0_2=e0_2∧
  e2_1=e2_1∧
  e9=e9∧
  IntKind.i64.wrap (e4_3+(1:Int))=p'.1∧
  e3_3=p'.2.1∧
  e0_3=p'.2.2.1∧
  e1_3=p'.2.2.2.1∧
  x=x∧
  y=y∧
  z=z∧
  w=w∧
  a=a∧
  b=b∧
  c=c∧
  d=d∧
  (List.getD b (Int.toNat e3_1) e1).op=(List.getD b (Int.toNat e3_1) e1).op∧
  (List.getD b (Int.toNat e3_1) e1).n=(List.getD b (Int.toNat e3_1) e1).n∧
  e2_1=e2_1∧
  e6=e6∧
  (List.getD b (Int.toNat e3_1) e1).body=(List.getD b (Int.toNat e3_1) e1).body∧
  ((0:Int)≤p'.1∧
  p'.1≤(↑e10:Int)∧
  p'.2.1=(0:Int)∧
  C7 (E1 x)
  (e5_2++
  List.map (fun (n:Int)=>(n,true))
  (List.take (Int.toNat p'.1) (List.getD b (Int.toNat e3_1) ins0).to))
  e4=
  (false,p'.2.2.1,p'.2.2.2.1))∧
  e10-Int.toNat p'.1<e10-Int.toNat e4_3))∧
  (e8=false→
  ∃ (p':Int×Int×Int×List (Int×Bool)×Unit),
  b=b∧
  e3=e3∧
  IntKind.i64.wrap (e3_1+(1:Int))=p'.1∧
  e9_2=p'.2.1∧
  e7=p'.2.2.1∧
  e6_2=p'.2.2.2.1∧
  x=x∧
  y=y∧
  z=z∧
  w=w∧
  a=a∧
  b=b∧
  c=c∧
  d=d∧
  ((0:Int)≤p'.1∧
  p'.1≤e3∧
  p'.2.1=(0:Int)∧
  C7 (E1 x) (E3 (List.take (Int.toNat p'.1) b)) e4=(false,p'.2.2.1,p'.2.2.2.1))∧
  List.length b-Int.toNat p'.1<List.length b-Int.toNat e3_1)))∧
  (e1_1=false→
  (∃ (p:Int×Int×Int×List (Int×Bool)×Unit),
  b=b∧
  e3=e3∧
  e3_1=e3_1∧
  e1_1=e1_1∧
  c=c∧
  e5=e5∧
  (0:Int)=p.1∧
  e7=p.2.1∧
  e5_1=p.2.2.1∧
  e4_1=p.2.2.2.1∧
  x=x∧
  y=y∧
  z=z∧
  w=w∧
  a=a∧
  b=b∧
  c=c∧
  d=d∧
  (0:Int)≤p.1∧
  p.1≤e5∧
  p.2.1=(0:Int)∧
  C7 (E1 x) (E3 b++List.map (fun (n:Int)=>(n,false)) (List.take (Int.toNat p.1) c)) e4=
  (false,p.2.2.1,p.2.2.2.1))∧
  ∀ (p:Int×Int×Int×List (Int×Bool)×Unit),
 let e0_2:Int:=(E1 x (p.2.2.1,p.2.2.2.1) (List.getD c (Int.toNat p.1) (0:Int),false)).2.1;
 let e1:List (Int×Bool):=(E1 x (p.2.2.1,p.2.2.2.1) (List.getD c (Int.toNat p.1) (0:Int),false)).2.2;
 let e2_2:Bool:=!!(E1 x (p.2.2.1,p.2.2.2.1) (List.getD c (Int.toNat p.1) (0:Int),false)).1;
 let e3_2:Int:=stOf (E1 x (p.2.2.1,p.2.2.2.1) (List.getD c (Int.toNat p.1) (0:Int),false)).1;
 let e4_2:Int:=p.1;
 let e5_2:List (Int×Bool):=p.2.2.2.1;
 let e6:Int:=p.2.2.1;
 let e7:Bool:=decide (e4_2<e5);
 let e8:Int:=p.2.1;
  (0:Int)≤e4_2∧e4_2≤e5∧e8=(0:Int)∧C7 (E1 x) (E3 b++List.map (fun (n:Int)=>(n,false)) (List.take (Int.toNat e4_2) c)) e4=(false,e6,e5_2)→
  (e7=true→
  ((0:Int)≤e4_2∧e4_2<e5)∧
  (e8=(0:Int)∧x=x∧y=y∧z=z∧w=w∧True)∧
  (e2_2=true→(e3_2,e0_2,e1,e2)=e0)∧
  (e2_2=false→
  ∃ (p':Int×Int×Int×List (Int×Bool)×Unit),
  b=b∧
  e3=e3∧
  e3_1=e3_1∧
  e1_1=e1_1∧
  c=c∧
  e5=e5∧
  IntKind.i64.wrap (e4_2+(1:Int))=p'.1∧
  e3_2=p'.2.1∧
  e0_2=p'.2.2.1∧
  e1=p'.2.2.2.1∧
  x=x∧
  y=y∧
  z=z∧
  w=w∧
  a=a∧
  b=b∧
  c=c∧
  d=d∧
  ((0:Int)≤p'.1∧
  p'.1≤e5∧
  p'.2.1=(0:Int)∧
  C7 (E1 x) (E3 b++List.map (fun (n:Int)=>(n,false)) (List.take (Int.toNat p'.1) c)) e4=
  (false,p'.2.2.1,p'.2.2.2.1))∧
  List.length c-Int.toNat p'.1<List.length c-Int.toNat e4_2))∧
  (e7=false→(e8,e6,e5_2,e2)=e0))):=by kernel_rfl
theorem bl5:C8 prog RG 76 cNamed:=E5 B8 (fun _=>noL) (by kernel_rfl) (by kernel_rfl) (by kernel_rfl) fun (a,b,c,d,()) _=>(bU8 a b c d).mpr (by
 dsimp only
 intros
 rfl)
theorem bd2 {is:Int→Bool}:∀ {l:List Int} {m:Nat},(l.take m).all is=true→m<l.length→(!is (l.getD m 0))=true→l.findIdx? (fun n=>!is n)=some m
 |x::r,0,_,_,h=>by
  simp only [List.getD_cons_zero] at h
  simp [List.findIdx?_cons,h]
 |x::r,m+1,h1,h2,h=>by
  simp only [List.take_succ_cons,List.all_cons,co7] at h1
  have:=bd2 (is:=is) (l:=r) (m:=m) h1.2 (by simpa using h2) (by simpa using h)
  simp [List.findIdx?_cons,h1.1,this]
theorem bt5 {is:Int→Bool} {l:List Int} (h:l.all is=true):l.findIdx? (fun n=>!is n)=none:=by
 rw [List.findIdx?_eq_none_iff]
 intro x hx
 rw [cr4.1 h x hx]
 rfl
theorem bl6 (is:Int→Bool) (l:List Int):decide (((l.findIdx? (fun n=>!is n)).map (fun (i:Nat)=>(i:Int))).getD (-1)≥0)=!(l.all is):=by
 cases h:l.all is with
 |true=>rw [bt5 h];rfl
 |false=>
  cases hf:l.findIdx? (fun n=>!is n) with
  |none=>
   rw [List.findIdx?_eq_none_iff] at hf
   have:l.all is=true:=cr4.2 fun x hx=>by have:=hf x hx;simpa using this
   rw [h] at this
   cases this
  |some i=>simp
theorem bl7 {T:Type} (is:Int→Bool) (l:List Int) (e:T) (hl:l.length≤140737488355328) {R:Int×T} (hR:R=(((l.findIdx? (fun n=>!is n)).map (fun (i:Nat)=>(i:Int))).getD (-1),e)):
  (∃ p:Int×Unit,(0:Int)=p.1∧0≤p.1∧p.1≤(l.length:Int)∧(l.take p.1.toNat).all is=true)∧
  ∀ p:Int×Unit,0≤p.1∧p.1≤(l.length:Int)∧(l.take p.1.toNat).all is=true→
   (decide (p.1<(l.length:Int))=true→(0≤p.1∧p.1<(l.length:Int))∧((!is (l.getD p.1.toNat 0))=true→(p.1,e)=R)∧
    ((!is (l.getD p.1.toNat 0))=false→∃ p':Int×Unit,IntKind.i64.wrap (p.1+1)=p'.1∧(0≤p'.1∧p'.1≤(l.length:Int)∧(l.take p'.1.toNat).all is=true)∧l.length-p'.1.toNat<l.length-p.1.toNat))∧
   (decide (p.1<(l.length:Int))=false→((-1:Int),e)=R):=by
 refine ⟨⟨(0,()),rfl,Int.le_refl _,by dsimp only;omega,by simp⟩,?_⟩
 rintro ⟨i,⟨⟩⟩ ⟨h0,h1,h2⟩
 dsimp only at h0 h1 h2 ⊢
 obtain ⟨m,rfl⟩:=cp0 h0
 simp only [co8] at h2 ⊢
 refine ⟨fun hlt=>?_,fun hge=>?_⟩
 ·have hlt:(m:Int)<l.length:=cp4 hlt
  refine ⟨⟨h0,hlt⟩,fun hb=>?_,fun hb=>⟨((m+1:Nat),()),B6 (by omega) hl,⟨by omega,by dsimp only;omega,?_⟩,by dsimp only;omega⟩⟩
  ·rw [hR,bd2 h2 (by omega) hb]
   rfl
  ·rw [co8,A5 (by omega) 0,List.all_append,h2]
   simpa using hb
 ·have hk:m=l.length:=by have:¬ (m:Int)<l.length:=cp3 hge;omega
  subst hk
  rw [cr2] at h2
  rw [hR,bt5 h2]
  rfl
theorem cl5 (n a:Int) (b:List Ins) (c d:List Int) (m:List (Int×Bool)):vc (EV []) noL Go.Proofs.Tryd.f77 (cIs tysC objC [0,1] isC) (n,a,b,c,d,m,()):=(cl2 n a b c d m).mpr (by
 dsimp only
 intros
 rfl)
theorem bK6:C8 prog RG 77 (cIs tysC objC [0,1] isC):=E5 B8 (fun _=>noL) (by kernel_rfl) (by kernel_rfl) (by kernel_rfl) fun (n,a,b,c,d,m,()) _=>cl5 n a b c d m
theorem ce1 (n a:Int) (b:List Ins) (c d:List Int) (m:List (Int×Bool)):vc (EV [(77,cIs tysC objC [0,1] isC)]) noL Go.Proofs.Tryd.f99 (cIsN 77 tysC an4 [0,1] isC) (n,a,b,c,d,m,()):=(cc8 n a b c d m).mpr (by
 dsimp only
 intros
 simp)
theorem by4:C8 prog RG 99 (cIsN 77 tysC an4 [0,1] isC):=E5 (A8 bK6 B8) (fun _=>noL) (by kernel_rfl) (by kernel_rfl) (by kernel_rfl) fun (n,a,b,c,d,m,()) _=>ce1 n a b c d m
theorem ce2 (l:List Int) (a:Int) (b:List Ins) (c d:List Int) (m:List (Int×Bool)):vc (EV [(99,cIsN 77 tysC an4 [0,1] isC)]) (aU3 l (isC (a,b,c,d,m,()))) Go.Proofs.Tryd.f106 (an2 77 tysC an4 [0,1] isC) (l,a,b,c,d,m,()):=(cc9 l a b c d m).mpr (by
 dsimp only
 intro hs _ _ _
 simp only [true_and,and_true]
 exact bl7 (isC (a,b,c,d,m,())) l _ hs.len rfl)
theorem by5:C8 prog RG 106 (an2 77 tysC an4 [0,1] isC):=E5 (A8 by4 B8) (fun p=>aU3 p.1 (isC p.2)) (by kernel_rfl) (by kernel_rfl) (by kernel_rfl) fun (l,a,b,c,d,m,()) _=>ce2 l a b c d m
theorem ce3 (l:List Int) (a:Int) (b:List Ins) (c d:List Int) (m:List (Int×Bool)):vc (EV [(106,an2 77 tysC an4 [0,1] isC)]) noL Go.Proofs.Tryd.f98 (an3 77 tysC an4 [0,1] isC) (l,a,b,c,d,m,()):=(cd0 l a b c d m).mpr (by
 dsimp only
 intros
 rw [bl6]
 simp)
theorem by6:C8 prog RG 98 (an3 77 tysC an4 [0,1] isC):=E5 (A8 by5 B8) (fun _=>noL) (by kernel_rfl) (by kernel_rfl) (by kernel_rfl) fun (l,a,b,c,d,m,()) _=>ce3 l a b c d m
theorem ce4 (l:List Int) (a:Int) (b:List Ins) (c d:List Int) (m:List (Int×Bool)):vc (EV [(98,an3 77 tysC an4 [0,1] isC)]) noL Go.Proofs.Tryd.f78 (cAll 77 tysC objC [0,1] isC) (l,a,b,c,d,m,()):=(cd1 l a b c d m).mpr (by
 dsimp only
 intros
 simp)
theorem by7:C8 prog RG 78 (cAll 77 tysC objC [0,1] isC):=E5 (A8 by6 B8) (fun _=>noL) (by kernel_rfl) (by kernel_rfl) (by kernel_rfl) fun (l,a,b,c,d,m,()) _=>ce4 l a b c d m
theorem cl6 (n a:Int):vc (EV []) noL Go.Proofs.Tryd.f105 (cIs tysI objI [0] isI) (n,a,()):=(cl3 n a).mpr rfl
theorem bK7:C8 prog RG 105 (cIs tysI objI [0] isI):=E5 B8 (fun _=>noL) (by kernel_rfl) (by kernel_rfl) (by kernel_rfl) fun (n,a,()) _=>cl6 n a
theorem ce5 (n a:Int):vc (EV [(105,cIs tysI objI [0] isI)]) noL Go.Proofs.Tryd.f99 (cIsN 105 tysI objI [0] isI) (n,a,()):=(cd2 n a).mpr (by simp)
theorem by8:C8 prog RG 99 (cIsN 105 tysI objI [0] isI):=E5 (A8 bK7 B8) (fun _=>noL) (by kernel_rfl) (by kernel_rfl) (by kernel_rfl) fun (n,a,()) _=>ce5 n a
theorem ce6 (l:List Int) (a:Int):vc (EV [(99,cIsN 105 tysI objI [0] isI)]) (aU3 l (isI (a,()))) Go.Proofs.Tryd.f106 (an2 105 tysI objI [0] isI) (l,a,()):=(cd3 l a).mpr (by
 dsimp only
 intro hs
 simp only [true_and,and_true]
 exact bl7 (isI (a,())) l _ hs.len rfl)
theorem by9:C8 prog RG 106 (an2 105 tysI objI [0] isI):=E5 (A8 by8 B8) (fun p=>aU3 p.1 (isI p.2)) (by kernel_rfl) (by kernel_rfl) (by kernel_rfl) fun (l,a,()) _=>ce6 l a
theorem ce7 (l:List Int) (a:Int):vc (EV [(106,an2 105 tysI objI [0] isI)]) noL Go.Proofs.Tryd.f98 (an3 105 tysI objI [0] isI) (l,a,()):=(cd4 l a).mpr (by
 intros
 rw [bl6]
 simp)
theorem bz0:C8 prog RG 98 (an3 105 tysI objI [0] isI):=E5 (A8 by9 B8) (fun _=>noL) (by kernel_rfl) (by kernel_rfl) (by kernel_rfl) fun (l,a,()) _=>ce7 l a
theorem ce8 (l:List Int) (a:Int):vc (EV [(98,an3 105 tysI objI [0] isI)]) noL Go.Proofs.Tryd.f78 (cAll 105 tysI objI [0] isI) (l,a,()):=(cd5 l a).mpr (by
 intros
 simp)
theorem bz1:C8 prog RG 78 (cAll 105 tysI objI [0] isI):=E5 (A8 bz0 B8) (fun _=>noL) (by kernel_rfl) (by kernel_rfl) (by kernel_rfl) fun (l,a,()) _=>ce8 l a
theorem bU9:C8 prog RG 92 cIn:=E5 (A8 bz1 B8) (fun _=>noL) (by kernel_rfl) (by kernel_rfl) (by kernel_rfl) fun (a,l,()) _=>(cn9 a l).mpr (by
 intros
 exact ⟨⟨rfl,trivial⟩,rfl⟩)
theorem cl7 (n:Int) (m:List (Place×Int)):vc (EV []) noL Go.Proofs.Tryd.f89 (cIs tysP objP [0] isP) (n,m,()):=(cl4 n m).mpr rfl
theorem bK8:C8 prog RG 89 (cIs tysP objP [0] isP):=E5 B8 (fun _=>noL) (by kernel_rfl) (by kernel_rfl) (by kernel_rfl) fun (n,m,()) _=>cl7 n m
theorem ce9 (n:Int) (m:List (Place×Int)):vc (EV [(89,cIs tysP objP [0] isP)]) noL Go.Proofs.Tryd.f99 (cIsN 89 tysP an5 [0] isP) (n,m,()):=(cd6 n m).mpr (by simp)
theorem bz2:C8 prog RG 99 (cIsN 89 tysP an5 [0] isP):=E5 (A8 bK8 B8) (fun _=>noL) (by kernel_rfl) (by kernel_rfl) (by kernel_rfl) fun (n,m,()) _=>ce9 n m
theorem cf0 (l:List Int) (m:List (Place×Int)):vc (EV [(99,cIsN 89 tysP an5 [0] isP)]) (aU3 l (isP (m,()))) Go.Proofs.Tryd.f106 (an2 89 tysP an5 [0] isP) (l,m,()):=(cd7 l m).mpr (by
 dsimp only
 intro hs
 simp only [true_and,and_true]
 exact bl7 (isP (m,())) l _ hs.len rfl)
theorem bz3:C8 prog RG 106 (an2 89 tysP an5 [0] isP):=E5 (A8 bz2 B8) (fun p=>aU3 p.1 (isP p.2)) (by kernel_rfl) (by kernel_rfl) (by kernel_rfl) fun (l,m,()) _=>cf0 l m
theorem cf1 (l:List Int) (m:List (Place×Int)):vc (EV [(106,an2 89 tysP an5 [0] isP)]) noL Go.Proofs.Tryd.f98 (an3 89 tysP an5 [0] isP) (l,m,()):=(cd8 l m).mpr (by
 dsimp only
 intros
 rw [bl6]
 simp)
theorem bz4:C8 prog RG 98 (an3 89 tysP an5 [0] isP):=E5 (A8 bz3 B8) (fun _=>noL) (by kernel_rfl) (by kernel_rfl) (by kernel_rfl) fun (l,m,()) _=>cf1 l m
theorem cf2 (l:List Int) (m:List (Place×Int)):vc (EV [(98,an3 89 tysP an5 [0] isP)]) noL Go.Proofs.Tryd.f78 (cAll 89 tysP objP [0] isP) (l,m,()):=(cd9 l m).mpr (by
 dsimp only
 intros
 simp)
theorem bz5:C8 prog RG 78 (cAll 89 tysP objP [0] isP):=E5 (A8 bz4 B8) (fun _=>noL) (by kernel_rfl) (by kernel_rfl) (by kernel_rfl) fun (l,m,()) _=>cf2 l m
theorem ag4 {α S:Type} (step:S→α→Bool×S):∀ (l m:List α) (s:S),C7 step (l++m) s=if (C7 step l s).1 then C7 step l s else C7 step m (C7 step l s).2
 |[],m,s=>by simp [C7]
 |x::r,m,s=>by
  simp only [List.cons_append,C7]
  split
  ·rename_i h;simp
  ·exact ag4 step r m _
theorem bV0 {α S:Type} {step:S→α→Bool×S} {l:List α} {s s':S} (h:C7 step l s=(false,s')) (m:List α):C7 step (l++m) s=C7 step m s':=by
 rw [ag4,h];simp
theorem bz6 {α S:Type} {step:S→α→Bool×S} {l:List α} {s s':S} (h:C7 step l s=(true,s')) (m:List α):C7 step (l++m) s=(true,s'):=by
 rw [ag4,h];simp
theorem bK9 {α S:Type} (step:S→α→Bool×S) (x:α) (s:S):C7 step [x] s=step s x:=by
 simp only [C7]
 split
 ·rename_i h;exact Prod.ext h.symm rfl
 ·rename_i h;exact Prod.ext (by simpa using h) rfl
end Go.Rg
end
section
namespace Go.Rg
open Go Go.VT
theorem ay0 {α S:Type} {step:S→α→Bool×S} {P L:List α} {s s':S} (h:P<+:L) (hr:C7 step P s=(true,s')):C7 step L s=(true,s'):=by
 obtain ⟨r,rfl⟩:=h
 exact bz6 hr r
abbrev fr (n:Int):Int×Bool:=(n,false)
theorem an6 {b:List Ins} {k:Nat} (h:k<b.length):E3 (b.take (k+1))=E3 (b.take k)++((b.getD k ins0).from_.map (fun n=>(n,false))++(b.getD k ins0).to.map (fun n=>(n,true))):=by
 rw [A5 h ins0]
 simp [E3]
theorem aU4 (b:List Ins) (k:Nat):E3 (b.take k)<+:E3 b:=by
 refine ⟨E3 (b.drop k),?_⟩
 rw [E3,E3,←List.flatMap_append,List.take_append_drop]
 rfl
theorem bL0 {b:List Ins} (c:List Int) {k:Nat} (h:k<b.length) (j:Nat):E3 (b.take k)++(b.getD k ins0).from_.map (fun n=>(n,false))++((b.getD k ins0).to.take j).map (fun n=>(n,true))<+:D9 b c:=by
 refine List.IsPrefix.trans ?_ ((aU4 b (k+1)).trans (List.prefix_append _ _))
 rw [an6 h,←cr0]
 refine ⟨((b.getD k ins0).to.drop j).map (fun n=>(n,true)),?_⟩
 rw [cr0,←List.map_append,List.take_append_drop]
theorem bt6 {b:List Ins} (c:List Int) {k:Nat} (h:k<b.length) (j:Nat):E3 (b.take k)++((b.getD k ins0).from_.take j).map (fun n=>(n,false))<+:D9 b c:=by
 refine List.IsPrefix.trans ?_ (bL0 c h 0)
 refine ⟨((b.getD k ins0).from_.drop j).map (fun n=>(n,false)),?_⟩
 rw [cr0,←List.map_append,List.take_append_drop]
 simp
theorem bL1 (b:List Ins) (c:List Int) (j:Nat):E3 b++(c.take j).map (fun n=>(n,false))<+:D9 b c:=by
 refine ⟨(c.drop j).map (fun n=>(n,false)),?_⟩
 rw [cr0,←List.map_append,List.take_append_drop]
 rfl
theorem aO4 {α S:Type} {step:S→α→Bool×S} {A:List α} {l:List Int} {k:Nat} (mk:Int→α) {s s':S} (h:C7 step (A++(l.take k).map mk) s=(false,s')) (hk:k<l.length):C7 step (A++(l.take (k+1)).map mk) s=step s' (mk (l.getD k 0)):=by
 rw [A5 hk 0,List.map_append,←cr0,bV0 h]
 exact bK9 _ _ _
theorem aH4 {b:List Ins} (hb:Small RU ⟨.slice 52 (.user 0),b⟩) {k:Nat} (h:k<b.length):(b.getD k ins0).from_.length≤140737488355328:=by
 have hx:b[k]? =some (b.getD k ins0):=by rw [cp8,co6 h];rfl
 exact (hb.elem (x:=b.getD k ins0) hx (j:=3) (d:=⟨.slice 3 (.int .i64),(b.getD k ins0).from_⟩) rfl).len
theorem aH5 {b:List Ins} (hb:Small RU ⟨.slice 52 (.user 0),b⟩) {k:Nat} (h:k<b.length):(b.getD k ins0).to.length≤140737488355328:=by
 have hx:b[k]? =some (b.getD k ins0):=by rw [cp8,co6 h];rfl
 exact (hb.elem (x:=b.getD k ins0) hx (j:=2) (d:=⟨.slice 3 (.int .i64),(b.getD k ins0).to⟩) rfl).len
section
variable {A:List (Int×Bool)} {l:List Int} {mk:Int→Int×Bool} {e:Int} {L:List (Int×Bool)}
theorem bL2 {e1:Int×Int×Unit} (hl:l.length≤140737488355328) (hpre:∀ k,A++(l.take k).map mk<+:L) (he1:e1=(stOf (C7 F4 L e).1,(C7 F4 L e).2,())) (p:Int×Int×Int×Unit)
  (h:0≤p.1∧p.1≤(l.length:Int)∧p.2.1=0∧C7 F4 (A++(l.take p.1.toNat).map mk) e=(false,p.2.2.1)) (hlt:decide (p.1<(l.length:Int))=true):
  (0≤p.1∧p.1<(l.length:Int))∧p.2.1=0∧((!!(F4 p.2.2.1 (mk (l.getD p.1.toNat 0))).1)=true→(stOf (F4 p.2.2.1 (mk (l.getD p.1.toNat 0))).1,(F4 p.2.2.1 (mk (l.getD p.1.toNat 0))).2,())=e1)∧
   ((!!(F4 p.2.2.1 (mk (l.getD p.1.toNat 0))).1)=false→∃ p':Int×Int×Int×Unit,IntKind.i64.wrap (p.1+1)=p'.1∧stOf (F4 p.2.2.1 (mk (l.getD p.1.toNat 0))).1=p'.2.1∧(F4 p.2.2.1 (mk (l.getD p.1.toNat 0))).2=p'.2.2.1∧
    (0≤p'.1∧p'.1≤(l.length:Int)∧p'.2.1=0∧C7 F4 (A++(l.take p'.1.toNat).map mk) e=(false,p'.2.2.1))∧l.length-p'.1.toNat<l.length-p.1.toNat):=by
 obtain ⟨i,st,s,⟨⟩⟩:=p
 obtain ⟨h0,h1,h2,h3⟩:=h
 dsimp only at h0 h1 h2 h3 hlt ⊢
 obtain ⟨m,rfl⟩:=cp0 h0
 simp only [co8,Bool.not_not] at h3 ⊢
 have hlt:(m:Int)<l.length:=cp4 hlt
 have hmore:=aO4 mk h3 (by omega)
 refine ⟨⟨h0,hlt⟩,h2,fun hb=>?_,fun hb=>⟨((m+1:Nat),0,(F4 s (mk (l.getD m 0))).2,()),B6 (by omega) hl,?_,rfl,⟨by omega,by dsimp only;omega,rfl,?_⟩,by dsimp only;omega⟩⟩
 ·rw [he1,ay0 (hpre (m+1)) (hmore.trans (Prod.ext hb rfl)),hb]
 ·rw [hb];rfl
 ·rw [co8]
  exact hmore.trans (Prod.ext hb rfl)
theorem bL3 {T:Type} {params:Int} {m0:List (Int×Bool)} {R:T} {e1:Int×Int×List (Int×Bool)×T} (hl:l.length≤140737488355328) (hpre:∀ k,A++(l.take k).map mk<+:L) (he1:e1=(stOf (C7 (E1 params) L (e,m0)).1,(C7 (E1 params) L (e,m0)).2.1,(C7 (E1 params) L (e,m0)).2.2,R)) (p:Int×Int×Int×List (Int×Bool)×Unit)
  (h:0≤p.1∧p.1≤(l.length:Int)∧p.2.1=0∧C7 (E1 params) (A++(l.take p.1.toNat).map mk) (e,m0)=(false,p.2.2.1,p.2.2.2.1)) (hlt:decide (p.1<(l.length:Int))=true):
  (0≤p.1∧p.1<(l.length:Int))∧p.2.1=0∧((!!(E1 params (p.2.2.1,p.2.2.2.1) (mk (l.getD p.1.toNat 0))).1)=true→(stOf (E1 params (p.2.2.1,p.2.2.2.1) (mk (l.getD p.1.toNat 0))).1,(E1 params (p.2.2.1,p.2.2.2.1) (mk (l.getD p.1.toNat 0))).2.1,(E1 params (p.2.2.1,p.2.2.2.1) (mk (l.getD p.1.toNat 0))).2.2,R)=e1)∧
   ((!!(E1 params (p.2.2.1,p.2.2.2.1) (mk (l.getD p.1.toNat 0))).1)=false→∃ p':Int×Int×Int×List (Int×Bool)×Unit,IntKind.i64.wrap (p.1+1)=p'.1∧stOf (E1 params (p.2.2.1,p.2.2.2.1) (mk (l.getD p.1.toNat 0))).1=p'.2.1∧(E1 params (p.2.2.1,p.2.2.2.1) (mk (l.getD p.1.toNat 0))).2.1=p'.2.2.1∧(E1 params (p.2.2.1,p.2.2.2.1) (mk (l.getD p.1.toNat 0))).2.2=p'.2.2.2.1∧
    (0≤p'.1∧p'.1≤(l.length:Int)∧p'.2.1=0∧C7 (E1 params) (A++(l.take p'.1.toNat).map mk) (e,m0)=(false,p'.2.2.1,p'.2.2.2.1))∧l.length-p'.1.toNat<l.length-p.1.toNat):=by
 obtain ⟨i,st,s,m2,⟨⟩⟩:=p
 obtain ⟨h0,h1,h2,h3⟩:=h
 dsimp only at h0 h1 h2 h3 hlt ⊢
 obtain ⟨m,rfl⟩:=cp0 h0
 simp only [co8,Bool.not_not] at h3 ⊢
 have hlt:(m:Int)<l.length:=cp4 hlt
 have hmore:=aO4 mk h3 (by omega)
 refine ⟨⟨h0,hlt⟩,h2,fun hb=>?_,fun hb=>⟨((m+1:Nat),0,(E1 params (s,m2) (mk (l.getD m 0))).2.1,(E1 params (s,m2) (mk (l.getD m 0))).2.2,()),B6 (by omega) hl,?_,rfl,rfl,⟨by omega,by dsimp only;omega,rfl,?_⟩,by dsimp only;omega⟩⟩
 ·rw [he1,ay0 (hpre (m+1)) (hmore.trans (Prod.ext hb rfl)),hb]
 ·rw [hb];rfl
 ·rw [co8]
  exact hmore.trans (Prod.ext hb rfl)
end
theorem bL4 (st e a:Int) (b:List Ins) (c d:List Int) (hp:st=0):vc (EVy yl1 (some Y8) []) (bl3 b c e) Go.Proofs.Tryd.f97 aU1 (st,e,a,b,c,d,()):=(bK4 st e a b c d).mpr (by
 subst hp
 intro e0 e1 e2 e3 hb hc _
 have hlb:b.length≤140737488355328:=hb.len
 have hlc:c.length≤140737488355328:=hc.len
 have he1:e1=(stOf (C7 F4 (D9 b c) e).1,(C7 F4 (D9 b c) e).2,()):=rfl
 have he0:e0=ins0:=rfl
 clear_value e1 e0
 subst he0
 dsimp only [e2,e3]
 simp only [true_and,and_true]
 refine ⟨⟨(0,0,e,()),by simp [E3,C7]⟩,?_⟩
 rintro ⟨i,st,s,⟨⟩⟩ ⟨h0,h1,h2,h3⟩
 dsimp only at h0 h1 h2 h3 ⊢
 subst h2
 obtain ⟨k,rfl⟩:=cp0 h0
 simp only [co8] at h3 ⊢
 refine ⟨fun hlt=>?_,fun hge=>?_⟩
 ·have hlt:(k:Int)<b.length:=cp4 hlt
  refine ⟨⟨h0,hlt⟩,⟨(0,0,s,()),rfl,rfl,rfl,Int.le_refl _,by dsimp only;omega,rfl,by simpa using h3⟩,fun p hp=>⟨bL2 (aH4 hb (by omega)) (bt6 c (by omega)) he1 p hp,fun hge=>?_⟩⟩
  obtain ⟨j,st,s1,⟨⟩⟩:=p
  obtain ⟨j0,j1,j2,j3⟩:=hp
  dsimp only at j0 j1 j2 j3 hge ⊢
  subst j2
  have hj:j.toNat=(b.getD k ins0).from_.length:=by have:¬ j<(b.getD k ins0).from_.length:=cp3 hge;omega
  rw [hj,cr2] at j3
  refine ⟨⟨(0,0,s1,()),rfl,rfl,rfl,Int.le_refl _,by dsimp only;omega,rfl,by simpa using j3⟩,fun p hp=>⟨bL2 (aH5 hb (by omega)) (bL0 c (by omega)) he1 p hp,fun hge=>?_⟩⟩
  obtain ⟨q,st,s2,⟨⟩⟩:=p
  obtain ⟨q0,q1,q2,q3⟩:=hp
  dsimp only at q0 q1 q2 q3 hge ⊢
  subst q2
  have hq:q.toNat=(b.getD k ins0).to.length:=by have:¬ q<(b.getD k ins0).to.length:=cp3 hge;omega
  rw [hq,cr2] at q3
  refine ⟨((k+1:Nat),0,s2,()),B6 (by omega) hlb,rfl,rfl,⟨by omega,by dsimp only;omega,rfl,?_⟩,by dsimp only;omega⟩
  rw [co8,an6 (by omega),←cr0]
  exact q3
 ·have hk:k=b.length:=by have:¬ (k:Int)<b.length:=cp3 hge;omega
  subst hk
  rw [cr2] at h3
  refine ⟨⟨(0,0,s,()),rfl,rfl,rfl,Int.le_refl _,by dsimp only;omega,rfl,by simpa using h3⟩,fun p hp=>⟨bL2 hlc (bL1 b c) he1 p hp,fun hge=>?_⟩⟩
  obtain ⟨q,st,s2,⟨⟩⟩:=p
  obtain ⟨q0,q1,q2,q3⟩:=hp
  dsimp only at q0 q1 q2 q3 hge ⊢
  subst q2
  have hq:q.toNat=c.length:=by have:¬ q<(c.length:Int):=cp3 hge;omega
  rw [hq,cr2] at q3
  rw [he1,show D9 b c=E3 b++c.map (fun n=>(n,false)) from rfl,q3]
  rfl)
theorem bL5 (st e:Int) (m:List (Int×Bool)) (x:Int) (y:List Ins) (z w:List Int) (a:Int) (b:List Ins) (c d:List Int) (hp:st=0):vc (EVy yl2 (some Y9) []) (bl4 x b c e m) Go.Proofs.Tryd.f97 aU2 (st,e,m,x,y,z,w,a,b,c,d,()):=(bK5 st e m x y z w a b c d).mpr (by
 subst hp
 intro e1 e0 e2 e3 e4 e5 _ _ _ hb hc _
 have hlb:b.length≤140737488355328:=hb.len
 have hlc:c.length≤140737488355328:=hc.len
 have he1:e1=(stOf (C7 (E1 x) (D9 b c) (e,m)).1,(C7 (E1 x) (D9 b c) (e,m)).2.1,(C7 (E1 x) (D9 b c) (e,m)).2.2,(x,y,z,w,())):=rfl
 have he0:e0=ins0:=rfl
 clear_value e1 e0
 subst he0
 dsimp only [e2,e3,e4,e5]
 simp only [true_and,and_true]
 refine ⟨⟨(0,0,e,m,()),by simp [E3,C7]⟩,?_⟩
 rintro ⟨i,st,s,mm,⟨⟩⟩ ⟨h0,h1,h2,h3⟩
 dsimp only at h0 h1 h2 h3 ⊢
 subst h2
 obtain ⟨k,rfl⟩:=cp0 h0
 simp only [co8] at h3 ⊢
 refine ⟨fun hlt=>?_,fun hge=>?_⟩
 ·have hlt:(k:Int)<b.length:=cp4 hlt
  refine ⟨⟨h0,hlt⟩,⟨(0,0,s,mm,()),rfl,rfl,rfl,rfl,Int.le_refl _,by dsimp only;omega,rfl,by simpa using h3⟩,fun p hp=>⟨bL3 (aH4 hb (by omega)) (bt6 c (by omega)) he1 p hp,fun hge=>?_⟩⟩
  obtain ⟨j,st,s1,m1,⟨⟩⟩:=p
  obtain ⟨j0,j1,j2,j3⟩:=hp
  dsimp only at j0 j1 j2 j3 hge ⊢
  subst j2
  have hj:j.toNat=(b.getD k ins0).from_.length:=by have:¬ j<(b.getD k ins0).from_.length:=cp3 hge;omega
  rw [hj,cr2] at j3
  refine ⟨⟨(0,0,s1,m1,()),rfl,rfl,rfl,rfl,Int.le_refl _,by dsimp only;omega,rfl,by simpa using j3⟩,fun p hp=>⟨bL3 (aH5 hb (by omega)) (bL0 c (by omega)) he1 p hp,fun hge=>?_⟩⟩
  obtain ⟨q,st,s2,m2,⟨⟩⟩:=p
  obtain ⟨q0,q1,q2,q3⟩:=hp
  dsimp only at q0 q1 q2 q3 hge ⊢
  subst q2
  have hq:q.toNat=(b.getD k ins0).to.length:=by have:¬ q<(b.getD k ins0).to.length:=cp3 hge;omega
  rw [hq,cr2] at q3
  refine ⟨((k+1:Nat),0,s2,m2,()),B6 (by omega) hlb,rfl,rfl,rfl,⟨by omega,by dsimp only;omega,rfl,?_⟩,by dsimp only;omega⟩
  rw [co8,an6 (by omega),←cr0]
  exact q3
 ·have hk:k=b.length:=by have:¬ (k:Int)<b.length:=cp3 hge;omega
  subst hk
  rw [cr2] at h3
  refine ⟨⟨(0,0,s,mm,()),rfl,rfl,rfl,rfl,Int.le_refl _,by dsimp only;omega,rfl,by simpa using h3⟩,fun p hp=>⟨bL3 hlc (bL1 b c) he1 p hp,fun hge=>?_⟩⟩
  obtain ⟨q,st,s2,m2,⟨⟩⟩:=p
  obtain ⟨q0,q1,q2,q3⟩:=hp
  dsimp only at q0 q1 q2 q3 hge ⊢
  subst q2
  have hq:q.toNat=c.length:=by have:¬ q<(c.length:Int):=cp3 hge;omega
  rw [hq,cr2] at q3
  rw [he1,show D9 b c=E3 b++c.map (fun n=>(n,false)) from rfl,q3]
  rfl)
theorem bz7:ItOk itCheck:=by
 intro f k kY mp h Y' hY
 unfold itCheck at h
 cases hf:Nat.beq f 97 with
 |false=>rw [hf] at h;cases h
 |true=>
  have hf:=co5 hf
  subst hf
  simp only [Nat.beq_refl,cond_true,List.mem_cons,List.not_mem_nil,or_false,cp6] at h
  rcases h with ⟨rfl,rfl,rfl⟩|⟨rfl,rfl,rfl⟩
  ·exact aj5 (E:=EVy yl2 (some Y9) []) (bT3 _ _ _) ⟨Y7 (fun x hx=>by cases hx),fun _ _ _ _ _ h=>(by cases h),fun _ _ _ h=>(by cases h),fun k hk=>by cases hk;exact hY,fun _ _ _ _ h=>(by cases h)⟩ bk2 Go.Proofs.Tryd.func97 (by kernel_rfl)
    (fun p=>bl4 p.2.2.2.1 p.2.2.2.2.2.2.2.2.1 p.2.2.2.2.2.2.2.2.2.1 p.2.1 p.2.2.1) (fun (st,e,m,x,y,z,w,a,b,c,d,()) hp=>bL5 st e m x y z w a b c d hp) (by kernel_rfl) rfl
  ·exact aj5 (E:=EVy yl1 (some Y8) []) (bT3 _ _ _) ⟨Y7 (fun x hx=>by cases hx),fun _ _ _ _ _ h=>(by cases h),fun _ _ _ h=>(by cases h),fun k hk=>by cases hk;exact hY,fun _ _ _ _ h=>(by cases h)⟩ bk2 Go.Proofs.Tryd.func97 (by kernel_rfl)
    (fun p=>bl3 p.2.2.2.1 p.2.2.2.2.1 p.2.1) (fun (st,e,a,b,c,d,()) hp=>bL4 st e a b c d hp) (by kernel_rfl) rfl
def cCheck:Con RU:=con [(true,4)] ax8 [one] [i64] [false] none fun p=>(E2 ⟨p.1,p.2.1,p.2.2.1,p.2.2.2.1⟩,())
def Z6 (m:List (Int×Bool)) (l:List Int):List (Int×Bool):=l.foldl (fun m n=>putB m n true) m
def bL6 (params:Int) (code:List Ins):Nat→St RU→Ann RU:=fun k s=>match k with
 |2=>⟨[],[.slot 64,.row 3776],[i64,mapB],fun p=>0≤p.1∧p.1≤code.length∧p.2.1=Z6 [] (wr (code.take p.1.toNat))∧F8 params [] (code.take p.1.toNat)=true,fun p=>code.length-p.1.toNat,[]⟩
 |3=>⟨[],[.slot 76,.row 3776],[i64,mapB],fun p=>0≤p.1∧p.1≤(code.getD (s.intAt 64).toNat ins0).to.length∧p.2.1=Z6 [] (wr (code.take (s.intAt 64).toNat)++(code.getD (s.intAt 64).toNat ins0).to.take p.1.toNat),fun p=>(code.getD (s.intAt 64).toNat ins0).to.length-p.1.toNat,[]⟩
 |_=>⟨[],[],[],fun _=>False,fun _=>0,[]⟩
end Go.Rg
end
section
namespace Go.Rg
open Go Go.VT
theorem bV1 (a:Int) (b:List Ins) (c d:List Int):vc (EVd [] itCheck [(76,cNamed),(78,cAll 77 tysC objC [0,1] isC)]) (bL6 a b) Go.Proofs.Tryd.f41 cCheck (a,b,c,d,())=(let e0:Bool:=decide ((↑(List.length b):Int) >(4000:Int));
 let e1:Int:=(C7 (E1 a) (D9 b c) ((C7 F4 (D9 b c) (0:Int)).2,[])).2.1;
 let e2:Bool:=decide (a<(0:Int))||decide (a >(4000:Int));
 let e3:Int:=stOf (C7 (E1 a) (D9 b c) ((C7 F4 (D9 b c) (0:Int)).2,[])).1;
 let e4:Ins:=Ins.mk (0:Int) (0:Int) [] [] [];
 let e5:List (Int×Bool):=(C7 (E1 a) (D9 b c) ((C7 F4 (D9 b c) (0:Int)).2,[])).2.2;
 let e6:Int×Unit:=(E2 (VFun.mk a b c d),());
 let e7:Int:=(↑(List.length b):Int);
 let e8:Int:=stOf (C7 F4 (D9 b c) (0:Int)).1;
  Small RU (Sigma.mk (Ty.slice (52:Nat) (Ty.user (0:Nat))) b)→
  Small RU (Sigma.mk (Ty.slice (3:Nat) (Ty.int IntKind.i64)) c)→
  Small RU (Sigma.mk (Ty.slice (3:Nat) (Ty.int IntKind.i64)) d)→
  (e0=true→((3:Int),())=e6)∧
  (e0=false→
  (e2=true→((2:Int),())=e6)∧
  (e2=false→
  (∀ (xs:Int×Bool×Int×Int×Unit),
 let e0:Bool:=decide (xs.1<(0:Int))||decide (xs.1≥(4000:Int));
 let e1:Int×Int×Unit:=xs.2.2;
  e1.1=(0:Int)→e1.1=(0:Int)∧(e0=true→(false,(1:Int),(2:Int),())=Y8.fn xs)∧(e0=false→(true,(0:Int),e1.2.1,())=Y8.fn xs))∧
  (0:Int)=(0:Int)∧
  (e8=(0:Int)→
  (∀ (xs:Int×Bool×Int×Int×List (Int×Bool)×Int×List Ins×List Int×List Int×Unit),
 let e0:Int×List Ins×List Int×List Int×Unit:=
  (xs.2.2.2.2.2.1,xs.2.2.2.2.2.2.1,xs.2.2.2.2.2.2.2.1,xs.2.2.2.2.2.2.2.2.1,());
 let e1:Bool:=xs.2.1&&(Option.getD (mget (fun (x y:Int)=>x==y) xs.2.2.2.2.1 xs.1) false||decide (xs.1<xs.2.2.2.2.2.1));
 let e2:List (Int×Bool):=xs.2.2.2.2.1;
 let e3:List Int×List Int×Unit:=xs.2.2.2.2.2.2.2;
 let e4:Int×List (Int×Bool)×Int×List Ins×List Int×List Int×Unit:=xs.2.2.2;
 let e5:Int:=xs.1;
 let e6:Bool×Int×Int×List (Int×Bool)×Int×List Ins×List Int×List Int×Unit:=xs.2;
  e6.2.1=(0:Int)→
  Small RU (Sigma.mk (Ty.slice (52:Nat) (Ty.user (0:Nat))) e4.2.2.2.1)→
  Small RU (Sigma.mk (Ty.slice (3:Nat) (Ty.int IntKind.i64)) e3.1)→
  Small RU (Sigma.mk (Ty.slice (3:Nat) (Ty.int IntKind.i64)) e3.2.1)→
  e6.2.1=(0:Int)∧
  (e1=true→(false,(1:Int),(5:Int),e2,e0)=Y9.fn xs)∧
  (e1=false→
  (true,(0:Int),e4.1,mput (fun (x y:Int)=>x==y) e2 e5 (Option.getD (mget (fun (x y:Int)=>x==y) e2 e5) false||e6.1),e0)=
  Y9.fn xs))∧
  ((0:Int)=(0:Int)∧a=a∧b=b∧c=c∧d=d∧True)∧
  (e3=(0:Int)→
  (∃ (p:Int×List (Int×Bool)×Unit),
  a=a∧
  b=b∧
  c=c∧
  d=d∧
  e0=e0∧
  e2=e2∧
  b=b∧
  e7=e7∧
  (0:Int)=p.1∧
  a=a∧
  b=b∧
  c=c∧
  d=d∧
  e1=e1∧
  e5=e5∧
  []=p.2.1∧
  (0:Int)≤p.1∧
  p.1≤e7∧p.2.1=Z6 [] (wr (List.take (Int.toNat p.1) b))∧F8 a [] (List.take (Int.toNat p.1) b)=true)∧
  ∀ (p:Int×List (Int×Bool)×Unit),
 let e0_1:Bool:=!List.all (List.getD b (Int.toNat p.1) e4).from_ (isC (a,b,c,d,p.2.1,()));
 let e1_1:Bool:=decide (p.1<e7);
 let e2_1:Bool:=!List.all c (isC (a,b,c,d,p.2.1,()));
 let e3:Int:=(↑(List.length (List.getD b (Int.toNat p.1) e4).to):Int);
 let e4:Ins:=List.getD b (Int.toNat p.1) e4;
 let e5_1:Int:=p.1;
 let e6_1:List (Int×Bool):=p.2.1;
 let e7_1:Nat:=List.length (List.getD b (Int.toNat e5_1) ins0).to;
  (0:Int)≤e5_1∧e5_1≤e7∧e6_1=Z6 [] (wr (List.take (Int.toNat e5_1) b))∧F8 a [] (List.take (Int.toNat e5_1) b)=true→
  (e1_1=true→
  ((0:Int)≤e5_1∧e5_1<e7)∧
  (((a=a∧b=b∧c=c∧d=d∧True)∧True)∧e6_1=e6_1∧True)∧
  (e0_1=true→((4:Int),())=e6)∧
  (e0_1=false→
  (∃ (p:Int×List (Int×Bool)×Unit),
  a=a∧
  b=b∧
  c=c∧
  d=d∧
  e0=e0∧
  e2=e2∧
  b=b∧
  e7=e7∧
  e5_1=e5_1∧
  e1_1=e1_1∧
  e0_1=e0_1∧
  e4.to=e4.to∧
  e3=e3∧
  (0:Int)=p.1∧
  a=a∧
  b=b∧
  c=c∧
  d=d∧
  e1=e1∧
  e5=e5∧
  e6_1=p.2.1∧
  e4.op=e4.op∧
  e4.n=e4.n∧
  e4.to=e4.to∧
  e4.from_=e4.from_∧
  e4.body=e4.body∧
  (0:Int)≤p.1∧
  p.1≤(↑e7_1:Int)∧
  p.2.1=
  Z6 []
  (wr (List.take (Int.toNat e5_1) b)++
  List.take (Int.toNat p.1) (List.getD b (Int.toNat e5_1) ins0).to))∧
  ∀ (p:Int×List (Int×Bool)×Unit),
 let e0_2:Int:=p.1;
 let e1_2:List (Int×Bool):=p.2.1;
 let e2_2:Bool:=decide (e0_2<e3);
  (0:Int)≤e0_2∧
  e0_2≤(↑e7_1:Int)∧
  e1_2=Z6 [] (wr (List.take (Int.toNat e5_1) b)++List.take (Int.toNat e0_2) (List.getD b (Int.toNat e5_1) ins0).to)→
  (e2_2=true→
  ((0:Int)≤e0_2∧e0_2<e3)∧
  ∃ (p':Int×List (Int×Bool)×Unit),
  a=a∧
  b=b∧
  c=c∧
  d=d∧
  e0=e0∧
  e2=e2∧
  b=b∧
  e7=e7∧
  e5_1=e5_1∧
  e1_1=e1_1∧
  e0_1=e0_1∧
  e4.to=e4.to∧
  e3=e3∧
  IntKind.i64.wrap (e0_2+(1:Int))=p'.1∧
  a=a∧
  b=b∧
  c=c∧
  d=d∧
  e1=e1∧
  e5=e5∧
  mput (fun (x y:Int)=>x==y) e1_2 (List.getD e4.to (Int.toNat e0_2) (0:Int)) true=
  p'.2.1∧
  e4.op=e4.op∧
  e4.n=e4.n∧
  e4.to=e4.to∧
  e4.from_=e4.from_∧
  e4.body=e4.body∧
  ((0:Int)≤p'.1∧
  p'.1≤(↑e7_1:Int)∧
  p'.2.1=
  Z6 []
  (wr (List.take (Int.toNat e5_1) b)++
  List.take (Int.toNat p'.1) (List.getD b (Int.toNat e5_1) ins0).to))∧
  e7_1-Int.toNat p'.1<e7_1-Int.toNat e0_2)∧
  (e2_2=false→
  ∃ (p':Int×List (Int×Bool)×Unit),
  a=a∧
  b=b∧
  c=c∧
  d=d∧
  e0=e0∧
  e2=e2∧
  b=b∧
  e7=e7∧
  IntKind.i64.wrap (e5_1+(1:Int))=p'.1∧
  a=a∧
  b=b∧
  c=c∧
  d=d∧
  e1=e1∧
  e5=e5∧
  e1_2=p'.2.1∧
  ((0:Int)≤p'.1∧
  p'.1≤e7∧
  p'.2.1=Z6 [] (wr (List.take (Int.toNat p'.1) b))∧
  F8 a [] (List.take (Int.toNat p'.1) b)=true)∧
  List.length b-Int.toNat p'.1<List.length b-Int.toNat e5_1)))∧
  (e1_1=false→
  (((a=a∧b=b∧c=c∧d=d∧True)∧True)∧e6_1=e6_1∧True)∧(e2_1=true→((4:Int),())=e6)∧(e2_1=false→((0:Int),())=e6)))∧
  (e3≠(0:Int)→e3=(1:Int)∧(e1,())=e6))∧
  (e8≠(0:Int)→e8=(1:Int)∧((C7 F4 (D9 b c) (0:Int)).2,())=e6)))):=by kernel_rfl
theorem I8 {β:Type} (m:List (Int×β)) (k:Int) (v:β) (n:Int):mget eqI (mput eqI m k v) n=if k=n then some v else mget eqI m n:=by
 induction m with
 |nil=>simp [mput,mget,eqI,cp7]
 |cons x r ih=>
  obtain ⟨k',v'⟩:=x
  simp only [mput,eqI,cp7,beq_iff_eq]
  by_cases h:k'=k
  ·subst h
   simp only [if_true,mget,eqI,cp7,beq_iff_eq]
   split<;>rfl
  ·simp only [if_neg h,mget,eqI,cp7,beq_iff_eq]
   rw [show mget (fun x y=>x==y) (mput (fun x y=>x==y) r k v) n=mget eqI (mput eqI r k v) n from rfl,ih]
   by_cases h1:k'=n
   ·subst h1
    rw [if_pos rfl,if_neg (fun e=>h e.symm)]
    rw [if_pos rfl]
   ·rw [if_neg h1,if_neg h1]
theorem aH6 (m:List (Int×Bool)) (k:Int) (v:Bool) (n:Int):hasB (putB m k v) n=if k=n then v else hasB m n:=by
 unfold hasB putB
 rw [I8]
 split<;>rfl
theorem bL7 (l:List Int) (n:Int):hasB (Z6 [] l) n=l.contains n:=by
 suffices h:∀ (l:List Int) (m:List (Int×Bool)),hasB (Z6 m l) n=(hasB m n||l.contains n) by
  rw [h];rfl
 intro l
 induction l with
 |nil=>intro m;simp [Z6]
 |cons x r ih=>
  intro m
  rw [show Z6 m (x::r)=Z6 (putB m x true) r from rfl,ih,aH6,List.contains_cons]
  by_cases h:x=n
  ·simp [h]
  ·have:(n==x)=false:=by simp [Ne.symm h]
   simp [h,this]
theorem bz8 (l:List Int) (x:Int):Z6 [] (l++[x])=putB (Z6 [] l) x true:=by simp [Z6]
theorem bV2 (a:Int) (b:List Ins) (c d l:List Int) (n:Int):isC (a,b,c,d,Z6 [] l,()) n=(decide (n<a)||l.contains n):=by
 show (decide (n<a)||hasB (Z6 [] l) n)=_
 rw [bL7]
theorem run1 (L:List (Int×Bool)) (e:Int):C7 F4 L e=if L.all (fun x=>T2 x.1) then (false,e) else (true,2):=by
 induction L generalizing e with
 |nil=>rfl
 |cons x r ih=>
  simp only [C7,List.all_cons]
  by_cases h:x.1<0∨4000≤x.1
  ·have:T2 x.1=false:=by unfold T2 lies;simp;omega
   simp [F4,h,this]
  ·have:T2 x.1=true:=by unfold T2 lies;simp;omega
   simp only [F4,if_neg h,this,ih,Bool.true_and,Bool.false_eq_true,if_false]
def ok2 (a:Int):List Int→List Int→Bool
 |_,[]=>true
 |W,n::r=>!(W.contains n||decide (n<a))&&ok2 a (n::W) r
theorem bZ8 (a:Int):∀ (l W:List Int),ok2 a W l=(D0 l&&l.all (fun n=>decide (a≤n))&&l.all (fun n=>!W.contains n))
 |[],W=>rfl
 |n::r,W=>by
  simp only [ok2,bZ8 a r,D0,List.all_cons]
  rw [Bool.eq_iff_iff]
  simp only [co7,Bool.not_eq_true',Bool.or_eq_false_iff,decide_eq_false_iff_not,cq6,cr4,List.contains_cons]
  constructor
  ·rintro ⟨⟨h1,h2⟩,⟨h3,h4⟩,h5⟩
   refine ⟨⟨⟨?_,h3⟩,by omega,h4⟩,h1,fun x hx=>?_⟩
   ·rw [Bool.eq_false_iff]
    intro hm
    have:=h5 n (List.contains_iff_mem.1 hm)
    simp at this
   ·exact (h5 x hx).2
  ·rintro ⟨⟨⟨h1,h2⟩,h3,h4⟩,h5,h6⟩
   refine ⟨⟨h5,by omega⟩,⟨h2,h4⟩,fun x hx=>⟨?_,h6 x hx⟩⟩
   rw [beq_eq_false_iff_ne]
   rintro rfl
   rw [List.contains_iff_mem.2 hx] at h1
   cases h1
theorem run2 (a:Int) (e:Int):∀ (L:List (Int×Bool)) (W:List Int) (m:List (Int×Bool)),(∀ n,hasB m n=W.contains n)→
  (C7 (E1 a) L (e,m)).1=!ok2 a W (L.filterMap fun x=>if x.2 then some x.1 else none)∧(C7 (E1 a) L (e,m)).2.1=if ok2 a W (L.filterMap fun x=>if x.2 then some x.1 else none) then e else 5
 |[],W,m,h=>⟨rfl,rfl⟩
 |(n,false)::r,W,m,h=>by
  have:=run2 a e r W (putB m n (hasB m n||false)) (fun k=>by
   rw [aH6]
   split
   ·rename_i hk;subst hk;simp [h]
   ·exact h k)
  simpa [C7,E1] using this
 |(n,true)::r,W,m,h=>by
  have hs:E1 a (e,m) (n,true)=if W.contains n||decide (n<a) then (true,5,m) else (false,e,putB m n true):=by
   simp only [E1,Bool.true_and,h]
   split<;>simp
  simp only [C7,hs,List.filterMap_cons,if_true,ok2]
  cases hc:(W.contains n||decide (n<a)) with
  |true=>simp
  |false=>
   have:=run2 a e r (n::W) (putB m n true) (fun k=>by
    rw [aH6,List.contains_cons]
    split
    ·rename_i hk;subst hk;simp
    ·rename_i hk;rw [h k,beq_eq_false_iff_ne.2 (Ne.symm hk)];rfl)
   simpa using this
theorem bz9 (b:List Ins) (c:List Int):(D9 b c).filterMap (fun x=>if x.2 then some x.1 else none)=wr b:=by
 unfold D9
 rw [List.filterMap_append]
 have h1:∀ l:List Int,(l.map fun n=>((n,false):Int×Bool)).filterMap (fun x=>if x.2 then some x.1 else none)=[]:=by
  intro l
  induction l with
  |nil=>rfl
  |cons x r ih=>rw [List.map_cons,List.filterMap_cons,ih];rfl
 have h2:∀ l:List Int,(l.map fun n=>((n,true):Int×Bool)).filterMap (fun x=>if x.2 then some x.1 else none)=l:=by
  intro l
  induction l with
  |nil=>rfl
  |cons x r ih=>rw [List.map_cons,List.filterMap_cons,ih];rfl
 rw [h1,List.append_nil]
 induction b with
 |nil=>rfl
 |cons x r ih=>
  simp only [E3,wr,List.flatMap_cons,List.filterMap_append] at ih ⊢
  rw [h1,h2,ih]
  rfl
theorem M1 (p:Int):∀ (l r:List Ins) (W:List Int),F8 p W (l++r)=(F8 p W l&&F8 p (W++wr l) r)
 |[],r,W=>by simp [F8,wr]
 |x::l,r,W=>by
  simp only [List.cons_append,F8,M1 p l r,Bool.and_assoc]
  rw [show W++wr (x::l)=W++x.to++wr l by simp [wr]]
theorem bL8 (b:List Ins) (c:List Int):(D9 b c).all (fun x=>T2 x.1)=(c.all T2&&b.all fun x=>x.to.all T2&&x.from_.all T2):=by
 unfold D9 E3
 rw [List.all_append,List.all_flatMap,Bool.and_comm]
 simp only [List.all_append,List.all_map]
 congr 1
 congr 1
 funext x
 rw [Bool.and_comm]
 rfl
theorem bA0 {a:Int} {b:List Ins} {c d:List Int} (h:4000<b.length):E2 ⟨a,b,c,d⟩=3:=by
 simp only [E2]
 rw [if_pos h]
theorem bA1 {a:Int} {b:List Ins} {c d:List Int} (h:¬ 4000<b.length) (ha:lies a 0 4000=true) {R1 R2:Bool} (h1:R1=(c.all T2&&b.all fun x=>x.to.all T2&&x.from_.all T2)) (h2:R2=(D0 (wr b)&&(wr b).all fun n=>decide (a≤n))):
  E2 ⟨a,b,c,d⟩=if R1=false then 2 else if R2=false then 5 else if (F8 a [] b&&c.all fun n=>decide (n<a)||(wr b).contains n)=false then 4 else 0:=by
 simp only [E2]
 rw [if_neg h,ha,Bool.true_and,←h1,←h2]
 cases R1
 ·rfl
 ·cases R2
  ·rfl
  ·simp only [Bool.not_true,Bool.false_eq_true,if_false,Bool.not_eq_true']
   rfl
theorem bA2 (n:Int) (w:Bool) (st e:Int) (h:st=0):st=0∧((decide (n<0)||decide (n≥4000))=true→(false,1,2,())=Y8.fn (n,w,st,e,()))∧((decide (n<0)||decide (n≥4000))=false→(true,0,e,())=Y8.fn (n,w,st,e,())):=by
 refine ⟨h,fun h1=>?_,fun h1=>?_⟩
 ·have h1:n<0∨4000≤n:=by simpa using h1
  show _=(!(F4 e (n,w)).1,stOf (F4 e (n,w)).1,(F4 e (n,w)).2,())
  simp only [F4,if_pos h1]
  rfl
 ·have h1:¬ (n<0∨4000≤n):=by simp at h1;omega
  show _=(!(F4 e (n,w)).1,stOf (F4 e (n,w)).1,(F4 e (n,w)).2,())
  simp only [F4,if_neg h1]
  rfl
theorem bA3 (n:Int) (w:Bool) (st e:Int) (m:List (Int×Bool)) (x:Int) (y:List Ins) (z q:List Int) (h:st=0):st=0∧((w&&((mget (fun x y=>x==y) m n).getD false||decide (n<x)))=true→(false,1,5,m,x,y,z,q,())=Y9.fn (n,w,st,e,m,x,y,z,q,()))∧
  ((w&&((mget (fun x y=>x==y) m n).getD false||decide (n<x)))=false→(true,0,e,mput (fun x y=>x==y) m n ((mget (fun x y=>x==y) m n).getD false||w),x,y,z,q,())=Y9.fn (n,w,st,e,m,x,y,z,q,())):=by
 refine ⟨h,fun h1=>?_,fun h1=>?_⟩
 ·show _=(!(E1 x (e,m) (n,w)).1,stOf (E1 x (e,m) (n,w)).1,(E1 x (e,m) (n,w)).2.1,(E1 x (e,m) (n,w)).2.2,x,y,z,q,())
  have h2:(w&&(hasB m n||decide (n<x)))=true:=h1
  simp only [E1,h2,if_true]
  rfl
 ·show _=(!(E1 x (e,m) (n,w)).1,stOf (E1 x (e,m) (n,w)).1,(E1 x (e,m) (n,w)).2.1,(E1 x (e,m) (n,w)).2.2,x,y,z,q,())
  have h2:(w&&(hasB m n||decide (n<x)))=false:=h1
  simp only [E1,h2,Bool.false_eq_true,if_false]
  rfl
theorem bA4 {a:Int} {b:List Ins} {k:Nat} (h:k<b.length):F8 a [] (b.take (k+1))=(F8 a [] (b.take k)&&(b.getD k ins0).from_.all fun n=>decide (n<a)||(wr (b.take k)).contains n):=by
 rw [A5 h ins0,M1]
 simp [F8]
theorem bA5 {a:Int} {b:List Ins} {k:Nat} (h:F8 a [] (b.take k)=false):F8 a [] b=false:=by
 rw [←List.take_append_drop k b,M1,h]
 rfl
theorem bL9 {b:List Ins} {k:Nat} (h:k<b.length):wr (b.take (k+1))=wr (b.take k)++(b.getD k ins0).to:=by
 rw [A5 h ins0]
 simp [wr]
theorem bV3 (a:Int) (b:List Ins) (c d:List Int):vc (EVd [] itCheck [(76,cNamed),(78,cAll 77 tysC objC [0,1] isC)]) (bL6 a b) Go.Proofs.Tryd.f41 cCheck (a,b,c,d,()):=(bV1 a b c d).mpr (by
 intro e0 e1 e2 e3 e4 e5 e6 e7 e8 hb hc hd
 have hlb:b.length≤140737488355328:=hb.len
 have he6:e6=(E2 ⟨a,b,c,d⟩,()):=rfl
 have he4:e4=ins0:=rfl
 have h1:=run1 (D9 b c) 0
 have h2:=run2 a (C7 F4 (D9 b c) 0).2 (D9 b c) [] [] (fun n=>rfl)
 rw [bz9,bZ8,show (wr b).all (fun n=>!([]:List Int).contains n)=true from cr4.2 (fun _ _=>rfl),Bool.and_true] at h2
 rw [bL8] at h1
 have he8:e8=stOf (C7 F4 (D9 b c) 0).1:=rfl
 have he3:e3=stOf (C7 (E1 a) (D9 b c) ((C7 F4 (D9 b c) 0).2,[])).1:=rfl
 have he1:e1=(C7 (E1 a) (D9 b c) ((C7 F4 (D9 b c) 0).2,[])).2.1:=rfl
 rw [h2.1] at he3
 rw [h2.2] at he1
 rw [h1] at he1
 clear_value e1 e3 e4 e5 e6 e8
 subst he4
 dsimp only [e7]
 simp only [true_and,and_true]
 rw [h1] at he8 ⊢
 clear h1 h2
 have hrest:=fun h ha=>bA1 (a:=a) (b:=b) (c:=c) (d:=d) h ha (R1:=c.all T2&&b.all fun x=>x.to.all T2&&x.from_.all T2) (R2:=D0 (wr b)&&(wr b).all fun n=>decide (a≤n)) rfl rfl
 generalize (c.all T2&&b.all fun x=>x.to.all T2&&x.from_.all T2)=R1 at*
 generalize (D0 (wr b)&&(wr b).all fun n=>decide (a≤n))=R2 at*
 refine ⟨fun h=>?_,fun h=>⟨fun h'=>?_,fun h'=>⟨?_,?_,?_⟩⟩⟩
 ·have h:4000<b.length:=by have:=cp4 h;omega
  rw [he6,bA0 h]
 ·have h:¬ 4000<b.length:=by have:¬ ((b.length:Int) >4000):=cp3 h;omega
  have ha:lies a 0 4000=false:=by
   have:a<0∨4000<a:=by simpa [e2] using h'
   simp only [lies,Bool.and_eq_false_iff,decide_eq_false_iff_not]
   omega
  rw [he6]
  simp only [E2]
  rw [if_neg h,ha]
  rfl
 ·rintro ⟨n,w,st,e,⟨⟩⟩ hst
  exact bA2 n w st e hst
 ·intro h8
  have h:¬ 4000<b.length:=by have:¬ ((b.length:Int) >4000):=cp3 h;omega
  have ha:lies a 0 4000=true:=by
   have:¬ (a<0∨4000<a):=by simpa [e2] using h'
   simp only [lies,co7,cq6]
   omega
  have hr:=hrest h ha
  have hR1:R1=true:=by
   cases R1
   ·rw [he8] at h8;cases h8
   ·rfl
  subst hR1
  refine ⟨?_,fun h3=>?_,fun h3=>?_⟩
  ·rintro ⟨n,w,st,e,m,x,y,z,q,⟨⟩⟩ hst _ _ _
   exact bA3 n w st e m x y z q hst
  ·have hR2:R2=true:=by
    cases R2
    ·rw [he3] at h3;cases h3
    ·rfl
   subst hR2
   have hr:e6=(if (F8 a [] b&&c.all fun n=>decide (n<a)||(wr b).contains n)=false then 4 else 0,()):=by rw [he6,hr];rfl
   refine ⟨⟨(0,[],()),rfl,rfl,Int.le_refl _,by dsimp only;omega,rfl,rfl⟩,?_⟩
   rintro ⟨i,m,⟨⟩⟩ ⟨i0,i1,i2,i3⟩
   dsimp only at i0 i1 i2 i3 ⊢
   obtain ⟨k,rfl⟩:=cp0 i0
   simp only [co8] at i2 i3 ⊢
   subst i2
   have hall:∀ l:List Int,l.all (isC (a,b,c,d,Z6 [] (wr (b.take k)),()))=l.all fun n=>decide (n<a)||(wr (b.take k)).contains n:=fun l=>by
    congr 1
    funext n
    exact bV2 a b c d _ n
   rw [hall,hall]
   refine ⟨fun hlt=>?_,fun hge=>?_⟩
   ·have hlt:(k:Int)<b.length:=cp4 hlt
    have hst:=bA4 (a:=a) (b:=b) (k:=k) (by omega)
    rw [i3,Bool.true_and] at hst
    refine ⟨⟨i0,hlt⟩,fun hn=>?_,fun hy=>?_⟩
    ·rw [Bool.not_eq_true',←hst] at hn
     rw [hr,bA5 hn]
     rfl
    ·rw [Bool.not_eq_false',←hst] at hy
     refine ⟨⟨(0,Z6 [] (wr (b.take k)),()),rfl,rfl,Int.le_refl _,by dsimp only;omega,by simp⟩,?_⟩
     rintro ⟨j,m,⟨⟩⟩ ⟨j0,j1,j2⟩
     dsimp only at j0 j1 j2 ⊢
     obtain ⟨q,rfl⟩:=cp0 j0
     simp only [co8] at j2 ⊢
     subst j2
     refine ⟨fun hq=>?_,fun hq=>?_⟩
     ·have hq:(q:Int)<(b.getD k ins0).to.length:=cp4 hq
      refine ⟨⟨j0,hq⟩,((q+1:Nat),putB (Z6 [] (wr (b.take k)++(b.getD k ins0).to.take q)) ((b.getD k ins0).to.getD q 0) true,()),B6 (by omega) (aH5 (k:=k) hb (by omega)),rfl,⟨by omega,by dsimp only;omega,?_⟩,by dsimp only;omega⟩
      dsimp only
      rw [co8,A5 (by omega) 0,←cr0,bz8]
     ·have hq:q=(b.getD k ins0).to.length:=by have:¬ (q:Int)<(b.getD k ins0).to.length:=cp3 hq;omega
      subst hq
      refine ⟨((k+1:Nat),_,()),B6 (by omega) hlb,rfl,⟨by omega,by dsimp only;omega,?_,by rw [co8];exact hy⟩,by dsimp only;omega⟩
      dsimp only
      rw [co8,bL9 (by omega),cr2]
      rfl
   ·have hk:k=b.length:=by have:¬ (k:Int)<b.length:=cp3 hge;omega
    subst hk
    rw [cr2] at i3 ⊢
    rw [hr,i3,Bool.true_and]
    refine ⟨fun hn=>?_,fun hy=>?_⟩
    ·rw [Bool.not_eq_true'] at hn
     rw [hn];rfl
    ·rw [Bool.not_eq_false'] at hy
     rw [hy];rfl
  ·have hR2:R2=false:=by
    cases R2
    ·rfl
    ·rw [he3] at h3;exact absurd rfl h3
   subst hR2
   exact ⟨he3,by rw [he1,he6,hr];rfl⟩
 ·intro h8
  have h:¬ 4000<b.length:=by have:¬ ((b.length:Int) >4000):=cp3 h;omega
  have ha:lies a 0 4000=true:=by
   have:¬ (a<0∨4000<a):=by simpa [e2] using h'
   simp only [lies,co7,cq6]
   omega
  have hr:=hrest h ha
  have hR1:R1=false:=by
   cases R1
   ·rfl
   ·rw [he8] at h8;exact absurd rfl h8
  subst hR1
  exact ⟨he8,by rw [he6,hr];rfl⟩)
theorem an7:C8 prog RG 41 cCheck:=bt1 bz7 (A8 bl5 (A8 by7 B8)) (fun p=>bL6 p.1 p.2.1) (by kernel_rfl) (by kernel_rfl) (by kernel_rfl) fun (a,b,c,d,()) _=>bV3 a b c d
abbrev Spans:=List (Int×Span)
def getS (m:Spans) (n:Int):Span:=(mget eqI m n).getD ⟨0,0⟩
def ar1 (m:Spans) (n first:Int):Spans:=mput eqI m n ⟨first,-1⟩
def useS (m:Spans) (n place:Int):Spans:=mput eqI m n ⟨(getS m n).first,place⟩
def L0 (m:Spans) (l:List Int) (first:Int):Spans:=l.foldl (fun m n=>ar1 m n first) m
def uses (m:Spans) (l:List Int) (place:Int):Spans:=l.foldl (fun m n=>useS m n place) m
def upto (n:Nat):List Int:=(List.range n).map fun k:Nat=>(k:Int)
def L5 (params:Int):Spans:=L0 [] (upto params.toNat) 0
def J5 (m:Spans):List Ins→Int→Spans
 |[],_=>m
 |x::r,i=>J5 (L0 (uses m x.from_ i) x.to (i+1)) r (i+1)
def never:Span:=⟨0,-1⟩
def finS (s:Span):Span:=if s.last<0 then never else s
def T3 (m:Spans) (seen:List Int):Spans:=(m.zipIdx).map fun x=>if seen.contains (x.2:Int) then (x.1.1,finS x.1.2) else x.1
def L6 (params:Int) (code:List Ins) (out:List Int):Spans:=uses (J5 (L5 params) code 0) out code.length
def A6 (params:Int) (code:List Ins) (out:List Int):Spans:=(L6 params code out).map fun x=>(x.1,finS x.2)
def cBegin:Con RU:=⟨[one,one,one],[i64,i64,mapS],[.d 0,.d 1,.ptr 0 0],[.box 80 [.map 1],.map 2],none,none,[],[mapS],[],[.box 80 [.map 1],.map 0],fun p=>(ar1 p.2.2.1 p.1 p.2.1,()),[],[],[]⟩
def cUse:Con RU:=⟨[one,one,one],[i64,i64,mapS],[.d 0,.d 1,.ptr 0 0],[.box 80 [.map 1],.map 2],none,none,[],[mapS],[],[.box 80 [.map 1],.map 0],fun p=>(useS p.2.2.1 p.1 p.2.1,()),[],[],[]⟩
def cSpans:Con RU:=⟨[(true,4)],ax8,[.d 0,.d 1,.d 2,.d 3],[],some fun p=>p.1≤4000,none,[one],[mapS],[.map 0],[.map 0],fun p=>(A6 p.1 p.2.1 p.2.2.1,()),[],[],[]⟩
def bM0 (params:Int) (code:List Ins) (out:List Int):Nat→St RU→Ann RU:=fun k s=>match k with
 |0=>⟨[],[.slot 22,.row 1088],[i64,mapS],fun p=>0≤p.1∧(p.1≤params∨p.1=0)∧p.2.1=L0 [] (upto p.1.toNat) 0,fun p=>params.toNat-p.1.toNat,[]⟩
 |1=>⟨[],[.slot 32,.row 1088],[i64,mapS],fun p=>0≤p.1∧p.1≤code.length∧p.2.1=J5 (L5 params) (code.take p.1.toNat) 0,fun p=>code.length-p.1.toNat,[]⟩
 |2=>⟨[],[.slot 40,.row 1088],[i64,mapS],fun p=>0≤p.1∧p.1≤(code.getD (s.intAt 32).toNat ins0).from_.length∧
   p.2.1=uses (J5 (L5 params) (code.take (s.intAt 32).toNat) 0) ((code.getD (s.intAt 32).toNat ins0).from_.take p.1.toNat) (s.intAt 32),fun p=>(code.getD (s.intAt 32).toNat ins0).from_.length-p.1.toNat,[]⟩
 |3=>⟨[],[.slot 52,.row 1088],[i64,mapS],fun p=>0≤p.1∧p.1≤(code.getD (s.intAt 32).toNat ins0).to.length∧
   p.2.1=L0 (uses (J5 (L5 params) (code.take (s.intAt 32).toNat) 0) (code.getD (s.intAt 32).toNat ins0).from_ (s.intAt 32)) ((code.getD (s.intAt 32).toNat ins0).to.take p.1.toNat) (s.intAt 32+1),fun p=>(code.getD (s.intAt 32).toNat ins0).to.length-p.1.toNat,[]⟩
 |4=>⟨[],[.slot 66,.row 1088],[i64,mapS],fun p=>0≤p.1∧p.1≤out.length∧p.2.1=uses (J5 (L5 params) code 0) (out.take p.1.toNat) code.length,fun p=>out.length-p.1.toNat,[]⟩
 |_=>⟨[],[.seen 4992,.row 1088],[ints,mapS],fun p=>p.1.Nodup∧(∀ i∈p.1,0≤i∧i<(L6 params code out).length)∧p.2.1=T3 (L6 params code out) p.1,fun p=>(L6 params code out).length-p.1.length,[]⟩
def W5 (m:Spans) (place:Int) (n:Int):Bool:=match mget eqI m n with
 |some s=>H1 s.first s.last place
 |none=>false
def aa6 (m:Spans) (L n:Nat):List (List Int):=(List.range (L+1)).map fun place:Nat=>(upto n).filter (W5 m place)
def P4 (m:Spans) (L:Nat) (n q:Int):List (List Int):=(List.range (L+1)).map fun place:Nat=>(upto n.toNat).filter (W5 m place)++if (place:Int)<q∧W5 m place n=true then [n] else []
def cLive:Con RU:=con [(true,4)] ax8 [one,one] [bJ1,i64] [false,false] none fun p=>((P8 ⟨p.1,p.2.1,p.2.2.1,p.2.2.2.1⟩).1,(P8 ⟨p.1,p.2.1,p.2.2.1,p.2.2.2.1⟩).2,())
def cf3 (params:Int) (code:List Ins) (out:List Int):Nat→St RU→Ann RU:=fun k s=>match k with
 |0=>⟨[],[.slot 23,.row 1280],[i64,bJ1],fun p=>0≤p.1∧p.1≤4000∧p.2.1=aa6 (A6 params code out) code.length p.1.toNat,fun p=>4000-p.1.toNat,[]⟩
 |_=>⟨[],[.slot 10,.row 1280],[i64,bJ1],fun p=>0≤p.1∧p.1≤code.length+1∧(getS (A6 params code out) (s.intAt 23)).first≤p.1∧p.2.1=P4 (A6 params code out) code.length (s.intAt 23) p.1,fun p=>code.length+1-p.1.toNat,[]⟩
def cPress:Con RU:=con [(true,4)] ax8 [one,one] [i64,i64] [false,false] none fun p=>((W4 ⟨p.1,p.2.1,p.2.2.1,p.2.2.2.1⟩).1,(W4 ⟨p.1,p.2.1,p.2.2.1,p.2.2.2.1⟩).2,())
theorem bV4 (n i:Int) (m:Spans):vc (EV []) noL Go.Proofs.Tryd.f81 cBegin (n,i,m,())=((mput (fun (x y:Int)=>x==y) m n (Span.mk i (-1:Int)),())=(ar1 m n i,())):=by kernel_rfl
theorem cl8 (n i:Int) (m:Spans):vc (EV []) noL Go.Proofs.Tryd.f82 cUse (n,i,m,())=((mput (fun (x y:Int)=>x==y) m n (Span.mk (Option.getD (mget (fun (x y:Int)=>x==y) m n) (Span.mk (0:Int) (0:Int))).first i),())=(useS m n i,())):=by kernel_rfl
theorem bV5 (a:Int) (b:List Ins) (c d:List Int):vc (EV [(81,cBegin),(82,cUse)]) (bM0 a b c) Go.Proofs.Tryd.f51 cSpans (a,b,c,d,())=(let e0:Ins:=Ins.mk (0:Int) (0:Int) [] [] [];
 let e1:Int:=(↑(List.length b):Int);
 let e2:Int:=(↑(List.length c):Int);
 let e3:Nat:=List.length (L6 a b c);
 let e4:Span:=Span.mk (0:Int) (-1:Int);
  Small RU (Sigma.mk (Ty.slice (52:Nat) (Ty.user (0:Nat))) b)→
  Small RU (Sigma.mk (Ty.slice (3:Nat) (Ty.int IntKind.i64)) c)→
  Small RU (Sigma.mk (Ty.slice (3:Nat) (Ty.int IntKind.i64)) d)→
  (∃ (p:Int×List (Int×Span)×Unit),
  a=a∧
  b=b∧
  c=c∧
  d=d∧
  Value.map none=Value.map none∧
  a=a∧
  (0:Int)=p.1∧
  a=a∧b=b∧c=c∧d=d∧[]=p.2.1∧(0:Int)≤p.1∧(p.1≤a∨p.1=(0:Int))∧p.2.1=L0 [] (upto (Int.toNat p.1)) (0:Int))∧
  ∀ (p:Int×List (Int×Span)×Unit),
 let e0_1:Bool:=decide (p.1<a);
 let e1_1:Int:=p.1;
 let e2_1:List (Int×Span):=p.2.1;
  (0:Int)≤e1_1∧(e1_1≤a∨e1_1=(0:Int))∧e2_1=L0 [] (upto (Int.toNat e1_1)) (0:Int)→
  (e0_1=true→
  ∃ (p':Int×List (Int×Span)×Unit),
  a=a∧
  b=b∧
  c=c∧
  d=d∧
  Value.map none=Value.map none∧
  a=a∧
  IntKind.i64.wrap (e1_1+(1:Int))=p'.1∧
  a=a∧
  b=b∧
  c=c∧
  d=d∧
  ar1 e2_1 e1_1 (0:Int)=p'.2.1∧
  ((0:Int)≤p'.1∧(p'.1≤a∨p'.1=(0:Int))∧p'.2.1=L0 [] (upto (Int.toNat p'.1)) (0:Int))∧
  Int.toNat a-Int.toNat p'.1<Int.toNat a-Int.toNat e1_1)∧
  (e0_1=false→
  (∃ (p:Int×List (Int×Span)×Unit),
  a=a∧
  b=b∧
  c=c∧
  d=d∧
  Value.map none=Value.map none∧
  a=a∧
  e1_1=e1_1∧
  e0_1=e0_1∧
  b=b∧
  e1=e1∧
  (0:Int)=p.1∧
  a=a∧b=b∧c=c∧d=d∧e2_1=p.2.1∧(0:Int)≤p.1∧p.1≤e1∧p.2.1=J5 (L5 a) (List.take (Int.toNat p.1) b) (0:Int))∧
  ∀ (p:Int×List (Int×Span)×Unit),
 let e0_2:Int:=(↑(List.length (List.getD b (Int.toNat p.1) e0).from_):Int);
 let e1_2:Bool:=decide (p.1<e1);
 let e2_2:Int:=p.1;
 let e3_1:Int:=(↑(List.length (List.getD b (Int.toNat e2_2) e0).to):Int);
 let e4_1:List (Int×Span):=J5 (L5 a) (List.take (Int.toNat e2_2) b) (0:Int);
 let e5:Ins:=List.getD b (Int.toNat e2_2) e0;
 let e6:List (Int×Span):=p.2.1;
 let e7:Nat:=List.length (List.getD b (Int.toNat e2_2) ins0).to;
 let e8:Nat:=List.length (List.getD b (Int.toNat e2_2) ins0).from_;
 let e9:Int:=IntKind.i64.wrap (e2_2+(1:Int));
  (0:Int)≤e2_2∧e2_2≤e1∧e6=e4_1→
  (e1_2=true→
  ((0:Int)≤e2_2∧e2_2<e1)∧
  (∃ (p:Int×List (Int×Span)×Unit),
  a=a∧
  b=b∧
  c=c∧
  d=d∧
  Value.map none=Value.map none∧
  a=a∧
  e1_1=e1_1∧
  e0_1=e0_1∧
  b=b∧
  e1=e1∧
  e2_2=e2_2∧
  e1_2=e1_2∧
  e2_2=e2_2∧
  e5.from_=e5.from_∧
  e0_2=e0_2∧
  (0:Int)=p.1∧
  a=a∧
  b=b∧
  c=c∧
  d=d∧
  e6=p.2.1∧
  e5.op=e5.op∧
  e5.n=e5.n∧
  e5.to=e5.to∧
  e5.from_=e5.from_∧
  e5.body=e5.body∧
  (0:Int)≤p.1∧
  p.1≤(↑e8:Int)∧
  p.2.1=uses e4_1 (List.take (Int.toNat p.1) (List.getD b (Int.toNat e2_2) ins0).from_) e2_2)∧
  ∀ (p:Int×List (Int×Span)×Unit),
 let e0:Bool:=decide (p.1<e0_2);
 let e1_3:Int:=p.1;
 let e2:List (Int×Span):=p.2.1;
 let e3:List Int:=(List.getD b (Int.toNat e2_2) ins0).from_;
  (0:Int)≤e1_3∧e1_3≤(↑e8:Int)∧e2=uses e4_1 (List.take (Int.toNat e1_3) e3) e2_2→
  (e0=true→
  ((0:Int)≤e1_3∧e1_3<e0_2)∧
  ∃ (p':Int×List (Int×Span)×Unit),
  a=a∧
  b=b∧
  c=c∧
  d=d∧
  Value.map none=Value.map none∧
  a=a∧
  e1_1=e1_1∧
  e0_1=e0_1∧
  b=b∧
  e1=e1∧
  e2_2=e2_2∧
  e1_2=e1_2∧
  e2_2=e2_2∧
  e5.from_=e5.from_∧
  e0_2=e0_2∧
  IntKind.i64.wrap (e1_3+(1:Int))=p'.1∧
  a=a∧
  b=b∧
  c=c∧
  d=d∧
  useS e2 (List.getD e5.from_ (Int.toNat e1_3) (0:Int)) e2_2=p'.2.1∧
  e5.op=e5.op∧
  e5.n=e5.n∧
  e5.to=e5.to∧
  e5.from_=e5.from_∧
  e5.body=e5.body∧
  ((0:Int)≤p'.1∧
  p'.1≤(↑e8:Int)∧p'.2.1=uses e4_1 (List.take (Int.toNat p'.1) e3) e2_2)∧
  e8-Int.toNat p'.1<e8-Int.toNat e1_3)∧
  (e0=false→
  (∃ (p:Int×List (Int×Span)×Unit),
  a=a∧
  b=b∧
  c=c∧
  d=d∧
  Value.map none=Value.map none∧
  a=a∧
  e1_1=e1_1∧
  e0_1=e0_1∧
  b=b∧
  e1=e1∧
  e2_2=e2_2∧
  e1_2=e1_2∧
  e2_2=e2_2∧
  e5.from_=e5.from_∧
  e0_2=e0_2∧
  e1_3=e1_3∧
  e0=e0∧
  e5.to=e5.to∧
  e3_1=e3_1∧
  (0:Int)=p.1∧
  a=a∧
  b=b∧
  c=c∧
  d=d∧
  e2=p.2.1∧
  e5.op=e5.op∧
  e5.n=e5.n∧
  e5.to=e5.to∧
  e5.from_=e5.from_∧
  e5.body=e5.body∧
  (0:Int)≤p.1∧
  p.1≤(↑e7:Int)∧
  p.2.1=
  L0 (uses e4_1 e3 e2_2)
  (List.take (Int.toNat p.1) (List.getD b (Int.toNat e2_2) ins0).to) (e2_2+(1:Int)))∧
  ∀ (p:Int×List (Int×Span)×Unit),
 let e0_3:List (Int×Span):=p.2.1;
 let e1_4:Int:=p.1;
 let e2:Bool:=decide (e1_4<e3_1);
  (0:Int)≤e1_4∧
  e1_4≤(↑e7:Int)∧e0_3=L0 (uses e4_1 e3 e2_2) (List.take (Int.toNat e1_4) (List.getD b (Int.toNat e2_2) ins0).to) (e2_2+(1:Int))→
  (e2=true→
  ((0:Int)≤e1_4∧e1_4<e3_1)∧
  ∃ (p':Int×List (Int×Span)×Unit),
  a=a∧
  b=b∧
  c=c∧
  d=d∧
  Value.map none=Value.map none∧
  a=a∧
  e1_1=e1_1∧
  e0_1=e0_1∧
  b=b∧
  e1=e1∧
  e2_2=e2_2∧
  e1_2=e1_2∧
  e2_2=e2_2∧
  e5.from_=e5.from_∧
  e0_2=e0_2∧
  e1_3=e1_3∧
  e0=e0∧
  e5.to=e5.to∧
  e3_1=e3_1∧
  IntKind.i64.wrap (e1_4+(1:Int))=p'.1∧
  a=a∧
  b=b∧
  c=c∧
  d=d∧
  ar1 e0_3 (List.getD e5.to (Int.toNat e1_4) (0:Int)) e9=p'.2.1∧
  e5.op=e5.op∧
  e5.n=e5.n∧
  e5.to=e5.to∧
  e5.from_=e5.from_∧
  e5.body=e5.body∧
  ((0:Int)≤p'.1∧
  p'.1≤(↑e7:Int)∧
  p'.2.1=
  L0 (uses e4_1 e3 e2_2)
  (List.take (Int.toNat p'.1) (List.getD b (Int.toNat e2_2) ins0).to)
  (e2_2+(1:Int)))∧
  e7-Int.toNat p'.1<e7-Int.toNat e1_4)∧
  (e2=false→
  ∃ (p':Int×List (Int×Span)×Unit),
  a=a∧
  b=b∧
  c=c∧
  d=d∧
  Value.map none=Value.map none∧
  a=a∧
  e1_1=e1_1∧
  e0_1=e0_1∧
  b=b∧
  e1=e1∧
  e9=p'.1∧
  a=a∧
  b=b∧
  c=c∧
  d=d∧
  e0_3=p'.2.1∧
  ((0:Int)≤p'.1∧p'.1≤e1∧p'.2.1=J5 (L5 a) (List.take (Int.toNat p'.1) b) (0:Int))∧
  List.length b-Int.toNat p'.1<List.length b-Int.toNat e2_2)))∧
  (e1_2=false→
  (∃ (p:Int×List (Int×Span)×Unit),
  a=a∧
  b=b∧
  c=c∧
  d=d∧
  Value.map none=Value.map none∧
  a=a∧
  e1_1=e1_1∧
  e0_1=e0_1∧
  b=b∧
  e1=e1∧
  e2_2=e2_2∧
  e1_2=e1_2∧
  c=c∧
  e2=e2∧
  (0:Int)=p.1∧
  a=a∧
  b=b∧
  c=c∧
  d=d∧
  e6=p.2.1∧
  (0:Int)≤p.1∧p.1≤e2∧p.2.1=uses (J5 (L5 a) b (0:Int)) (List.take (Int.toNat p.1) c) e1)∧
  ∀ (p:Int×List (Int×Span)×Unit),
 let e0:Nat:=List.length p.2.1;
 let e1_3:Bool:=decide (p.1<e2);
 let e2_3:Int:=p.1;
 let e3_2:List (Int×Span):=p.2.1;
  (0:Int)≤e2_3∧e2_3≤e2∧e3_2=uses (J5 (L5 a) b (0:Int)) (List.take (Int.toNat e2_3) c) e1→
  (e1_3=true→
  ((0:Int)≤e2_3∧e2_3<e2)∧
  ∃ (p':Int×List (Int×Span)×Unit),
  a=a∧
  b=b∧
  c=c∧
  d=d∧
  Value.map none=Value.map none∧
  a=a∧
  e1_1=e1_1∧
  e0_1=e0_1∧
  b=b∧
  e1=e1∧
  e2_2=e2_2∧
  e1_2=e1_2∧
  c=c∧
  e2=e2∧
  IntKind.i64.wrap (e2_3+(1:Int))=p'.1∧
  a=a∧
  b=b∧
  c=c∧
  d=d∧
  useS e3_2 (List.getD c (Int.toNat e2_3) (0:Int)) e1=p'.2.1∧
  ((0:Int)≤p'.1∧
  p'.1≤e2∧p'.2.1=uses (J5 (L5 a) b (0:Int)) (List.take (Int.toNat p'.1) c) e1)∧
  List.length c-Int.toNat p'.1<List.length c-Int.toNat e2_3)∧
  (e1_3=false→
  (∃ (p:List Int×List (Int×Span)×Unit),
  a=a∧
  b=b∧
  c=c∧
  d=d∧
  Value.map none=Value.map none∧
  a=a∧
  e1_1=e1_1∧
  e0_1=e0_1∧
  b=b∧
  e1=e1∧
  e2_2=e2_2∧
  e1_2=e1_2∧
  c=c∧
  e2=e2∧
  e2_3=e2_3∧
  e1_3=e1_3∧
  a=a∧
  b=b∧
  c=c∧
  d=d∧
  e3_2=p.2.1∧
  e0=e0∧
  []=List.map Int.toNat p.1∧
  (0:Nat)=List.getLastD (List.map Int.toNat p.1) (0:Nat)∧
  List.Pairwise (fun (x1 x2:den RU.T i64)=>x1≠x2) p.1∧
  (∀ (i:Int),List.Mem i p.1→(0:Int)≤i∧i<(↑e3:Int))∧p.2.1=T3 (L6 a b c) p.1)∧
  ∀ (p:List Int×List (Int×Span)×Unit),
 let e0_3:Bool:=
  decide
  ((List.getD (List.map (fun (x:den RU.T (Ty.int IntKind.i64)×den RU.T (Ty.user (3:Nat)))=>x.2) p.2.1)
  (List.getLastD (List.map Int.toNat p.1) (0:Nat)) (Span.mk (0:Int) (0:Int))).last<
  (0:Int));
 let e1_4:List (Int×Span):=p.2.1;
 let e2_4:List Nat:=List.map Int.toNat p.1;
 let e3_3:List Int:=p.1;
 let e4_2:Nat:=List.getLastD e2_4 (0:Nat);
  List.Pairwise (fun (x1 x2:den RU.T i64)=>x1≠x2) e3_3∧
  (∀ (i:Int),List.Mem i e3_3→(0:Int)≤i∧i<(↑e3:Int))∧e1_4=T3 (L6 a b c) e3_3→
  List.length e1_4=e0∧
  (∀ (i:Nat),
 let e0_4:Bool:=
  decide
  ((List.getD (List.map (fun (x:den RU.T (Ty.int IntKind.i64)×den RU.T (Ty.user (3:Nat)))=>x.2) e1_4) i
  (Span.mk (0:Int) (0:Int))).last<
  (0:Int));
 let e1_5:List Nat:=e2_4++[i];
  i<e0→
  ¬i∈e2_4→
  (true=true→
  (List.length e1_4=e0∧List.getLast? e1_5=some i∧i<e0)∧
  (e0_4=true→
  ∃ (p':List Int×List (Int×Span)×Unit),
  a=a∧
  b=b∧
  c=c∧
  d=d∧
  Value.map none=Value.map none∧
  a=a∧
  e1_1=e1_1∧
  e0_1=e0_1∧
  b=b∧
  e1=e1∧
  e2_2=e2_2∧
  e1_2=e1_2∧
  c=c∧
  e2=e2∧
  e2_3=e2_3∧
  e1_3=e1_3∧
  a=a∧
  b=b∧
  c=c∧
  d=d∧
  mput (fun (x y:Int)=>x==y) e1_4
  (List.getD
  (List.map
  (fun (x:den RU.T (Ty.int IntKind.i64)×den RU.T (Ty.user (3:Nat)))=>x.1)
  e1_4)
  i (0:Int))
  e4=
  p'.2.1∧
  e0=e0∧
  e1_5=List.map Int.toNat p'.1∧
  i=List.getLastD (List.map Int.toNat p'.1) (0:Nat)∧
  (List.Pairwise (fun (x1 x2:den RU.T i64)=>x1≠x2) p'.1∧
  (∀ (i:Int),List.Mem i p'.1→(0:Int)≤i∧i<(↑e3:Int))∧
  p'.2.1=T3 (L6 a b c) p'.1)∧
  e3-List.length p'.1<e3-List.length e3_3)∧
  (e0_4=false→
  ∃ (p':List Int×List (Int×Span)×Unit),
  a=a∧
  b=b∧
  c=c∧
  d=d∧
  Value.map none=Value.map none∧
  a=a∧
  e1_1=e1_1∧
  e0_1=e0_1∧
  b=b∧
  e1=e1∧
  e2_2=e2_2∧
  e1_2=e1_2∧
  c=c∧
  e2=e2∧
  e2_3=e2_3∧
  e1_3=e1_3∧
  a=a∧
  b=b∧
  c=c∧
  d=d∧
  e1_4=p'.2.1∧
  e0=e0∧
  e1_5=List.map Int.toNat p'.1∧
  i=List.getLastD (List.map Int.toNat p'.1) (0:Nat)∧
  (List.Pairwise (fun (x1 x2:den RU.T i64)=>x1≠x2) p'.1∧
  (∀ (i:Int),List.Mem i p'.1→(0:Int)≤i∧i<(↑e3:Int))∧
  p'.2.1=T3 (L6 a b c) p'.1)∧
  e3-List.length p'.1<e3-List.length e3_3))∧
  (true=false→(e1_4,())=(A6 a b c,())))∧
  ((∀ (i:Nat),i<e0→List.Mem i e2_4)→
  (false=true→
  (List.length e1_4=e0∧List.getLast? e2_4=some e4_2∧e4_2<e0)∧
  (e0_3=true→
  ∃ (p':List Int×List (Int×Span)×Unit),
  a=a∧
  b=b∧
  c=c∧
  d=d∧
  Value.map none=Value.map none∧
  a=a∧
  e1_1=e1_1∧
  e0_1=e0_1∧
  b=b∧
  e1=e1∧
  e2_2=e2_2∧
  e1_2=e1_2∧
  c=c∧
  e2=e2∧
  e2_3=e2_3∧
  e1_3=e1_3∧
  a=a∧
  b=b∧
  c=c∧
  d=d∧
  mput (fun (x y:Int)=>x==y) e1_4
  (List.getD
  (List.map (fun (x:den RU.T (Ty.int IntKind.i64)×den RU.T (Ty.user (3:Nat)))=>x.1)
  e1_4)
  e4_2 (0:Int))
  e4=
  p'.2.1∧
  e0=e0∧
  e2_4=List.map Int.toNat p'.1∧
  e4_2=List.getLastD (List.map Int.toNat p'.1) (0:Nat)∧
  (List.Pairwise (fun (x1 x2:den RU.T i64)=>x1≠x2) p'.1∧
  (∀ (i:Int),List.Mem i p'.1→(0:Int)≤i∧i<(↑e3:Int))∧
  p'.2.1=T3 (L6 a b c) p'.1)∧
  e3-List.length p'.1<e3-List.length e3_3)∧
  (e0_3=false→
  ∃ (p':List Int×List (Int×Span)×Unit),
  a=a∧
  b=b∧
  c=c∧
  d=d∧
  Value.map none=Value.map none∧
  a=a∧
  e1_1=e1_1∧
  e0_1=e0_1∧
  b=b∧
  e1=e1∧
  e2_2=e2_2∧
  e1_2=e1_2∧
  c=c∧
  e2=e2∧
  e2_3=e2_3∧
  e1_3=e1_3∧
  a=a∧
  b=b∧
  c=c∧
  d=d∧
  e1_4=p'.2.1∧
  e0=e0∧
  e2_4=List.map Int.toNat p'.1∧
  e4_2=List.getLastD (List.map Int.toNat p'.1) (0:Nat)∧
  (List.Pairwise (fun (x1 x2:den RU.T i64)=>x1≠x2) p'.1∧
  (∀ (i:Int),List.Mem i p'.1→(0:Int)≤i∧i<(↑e3:Int))∧
  p'.2.1=T3 (L6 a b c) p'.1)∧
  e3-List.length p'.1<e3-List.length e3_3))∧
  (false=false→(e1_4,())=(A6 a b c,()))))))):=by kernel_rfl
theorem cf4 (a:Int) (b:List Ins) (c d:List Int):vc (EVd [(23,[0])] noIt [(41,cCheck),(51,cSpans),(69,cAt)]) (cf3 a b c) Go.Proofs.Tryd.f33 cLive (a,b,c,d,())=(let e0:Bool:=E2 (VFun.mk a b c d) !=(0:Int);
 let e1:Int:=IntKind.i64.wrap ((↑(List.length b):Int)+(1:Int));
 let e2:Span:=Span.mk (0:Int) (0:Int);
 let e3:List (List Int)×Int×Unit:=((P8 (VFun.mk a b c d)).1,(P8 (VFun.mk a b c d)).2,());
 let e4:Int:=E2 (VFun.mk a b c d);
 let e5:Nat:=List.length b+(1:Nat);
  Small RU (Sigma.mk (Ty.slice (52:Nat) (Ty.user (0:Nat))) b)→
  Small RU (Sigma.mk (Ty.slice (3:Nat) (Ty.int IntKind.i64)) c)→
  Small RU (Sigma.mk (Ty.slice (3:Nat) (Ty.int IntKind.i64)) d)→
  (e0=true→([],e4,())=e3)∧
  (e0=false→
  ((0:Int)≤e1∧e1*(↑(24:Nat):Int)≤(↑(140737488355328:Nat):Int))∧
  a≤(4000:Int)∧
  (∃ (p:Int×List (List Int)×Unit),
  a=a∧
  b=b∧
  c=c∧
  d=d∧
  (0:Int)=(0:Int)∧
  e4=e4∧
  e0=e0∧
  (0:Int)=p.1∧
  a=a∧
  b=b∧
  c=c∧
  d=d∧
  List.replicate (Int.toNat e1) []=p.2.1∧
  A6 a b c=A6 a b c∧(0:Int)≤p.1∧p.1≤(4000:Int)∧p.2.1=aa6 (A6 a b c) (List.length b) (Int.toNat p.1))∧
  ∀ (p:Int×List (List Int)×Unit),
 let e0_1:Bool:=decide (p.1<(4000:Int));
 let e1:Int:=(Option.getD (mget (fun (x y:Int)=>x==y) (A6 a b c) p.1) e2).first;
 let e2:Int:=(Option.getD (mget (fun (x y:Int)=>x==y) (A6 a b c) p.1) e2).last;
 let e3_1:Bool:=Option.isSome (mget (fun (x y:Int)=>x==y) (A6 a b c) p.1);
 let e4_1:Int:=p.1;
 let e5_1:Int:=(↑(List.length p.2.1):Int);
 let e6:List (List Int):=p.2.1;
  (0:Int)≤e4_1∧e4_1≤(4000:Int)∧e6=aa6 (A6 a b c) (List.length b) (Int.toNat e4_1)→
  (e0_1=true→
  (∃ (p:Int×List (List Int)×Unit),
  a=a∧
  b=b∧
  c=c∧
  d=d∧
  (0:Int)=(0:Int)∧
  e4=e4∧
  e0=e0∧
  e4_1=e4_1∧
  e0_1=e0_1∧
  e4_1=e4_1∧
  e3_1=e3_1∧
  e1=p.1∧
  a=a∧
  b=b∧
  c=c∧
  d=d∧
  e6=p.2.1∧
  A6 a b c=A6 a b c∧
  e1=e1∧
  e2=e2∧
  (0:Int)≤p.1∧
  p.1≤(↑(List.length b):Int)+(1:Int)∧
  (getS (A6 a b c) e4_1).first≤p.1∧p.2.1=P4 (A6 a b c) (List.length b) e4_1 p.1)∧
  ∀ (p:Int×List (List Int)×Unit),
 let e0_2:Bool:=H1 e1 e2 p.1;
 let e1_1:Int:=p.1;
 let e2_1:List (List Int):=p.2.1;
 let e3:Bool:=e3_1&&decide (e1_1≤e2);
 let e4_2:Int:=(↑(List.length b):Int)+(1:Int);
  (0:Int)≤e1_1∧e1_1≤e4_2∧(getS (A6 a b c) e4_1).first≤e1_1∧e2_1=P4 (A6 a b c) (List.length b) e4_1 e1_1→
  (e3=true→
  (e0_2=true→
  ((0:Int)≤e1_1∧e1_1<(↑(List.length e2_1):Int))∧
  (List.length (List.getD e2_1 (Int.toNat e1_1) [])+List.length [e4_1])*(8:Nat)≤(140737488355328:Nat)∧
  ((0:Int)≤e1_1∧e1_1<(↑(List.length e2_1):Int))∧e1_1=e1_1)∧
  ∃ (p':Int×List (List Int)×Unit),
  (bif e0_2 then a else a)=a∧
  (bif e0_2 then b else b)=b∧
  (bif e0_2 then c else c)=c∧
  (bif e0_2 then d else d)=d∧
  (bif e0_2 then (0:Int) else (0:Int))=(0:Int)∧
  (bif e0_2 then e4 else e4)=e4∧
  (bif e0_2 then e0 else e0)=e0∧
  (bif e0_2 then e4_1 else e4_1)=e4_1∧
  (bif e0_2 then e0_1 else e0_1)=e0_1∧
  (bif e0_2 then e4_1 else e4_1)=e4_1∧
  (bif e0_2 then e3_1 else e3_1)=e3_1∧
  IntKind.i64.wrap ((bif e0_2 then e1_1 else e1_1)+(1:Int))=p'.1∧
  (bif e0_2 then a else a)=a∧
  (bif e0_2 then b else b)=b∧
  (bif e0_2 then c else c)=c∧
  (bif e0_2 then d else d)=d∧
  (bif e0_2 then List.set e2_1 (Int.toNat e1_1) (List.getD e2_1 (Int.toNat e1_1) []++[e4_1]) else e2_1)=p'.2.1∧
  (bif e0_2 then A6 a b c else A6 a b c)=A6 a b c∧
  (bif e0_2 then e1 else e1)=e1∧
  (bif e0_2 then e2 else e2)=e2∧
  ((0:Int)≤p'.1∧
  p'.1≤e4_2∧
  (getS (A6 a b c) e4_1).first≤p'.1∧p'.2.1=P4 (A6 a b c) (List.length b) e4_1 p'.1)∧
  e5-Int.toNat p'.1<e5-Int.toNat e1_1)∧
  (e3=false→
  ∃ (p':Int×List (List Int)×Unit),
  a=a∧
  b=b∧
  c=c∧
  d=d∧
  (0:Int)=(0:Int)∧
  e4=e4∧
  e0=e0∧
  IntKind.i64.wrap (e4_1+(1:Int))=p'.1∧
  a=a∧
  b=b∧
  c=c∧
  d=d∧
  e2_1=p'.2.1∧
  A6 a b c=A6 a b c∧
  ((0:Int)≤p'.1∧p'.1≤(4000:Int)∧p'.2.1=aa6 (A6 a b c) (List.length b) (Int.toNat p'.1))∧
  (4000:Nat)-Int.toNat p'.1<(4000:Nat)-Int.toNat e4_1))∧
  (e0_1=false→((0:Int)≤e5_1∧e5_1≤e5_1∧e5_1≤e5_1)∧(List.take (Int.toNat e5_1) e6,(0:Int),())=e3))):=by kernel_rfl
theorem aH7 (m:Spans) (l:List Int) (x i:Int):L0 m (l++[x]) i=ar1 (L0 m l i) x i:=by simp [L0]
theorem bd3 (m:Spans) (l:List Int) (x i:Int):uses m (l++[x]) i=useS (uses m l i) x i:=by simp [uses]
theorem bd4 (n:Nat):upto (n+1)=upto n++[(n:Int)]:=by simp [upto,List.range_succ]
theorem aH8 (x:Ins):∀ (l:List Ins) (m:Spans) (i:Int),J5 m (l++[x]) i=L0 (uses (J5 m l i) x.from_ (i+l.length)) x.to (i+l.length+1)
 |[],m,i=>by simp [J5]
 |y::l,m,i=>by
  simp only [List.cons_append,J5,aH8 x l,cq0,Int.natCast_add]
  rw [show i+1+(l.length:Int)=i+((l.length:Int)+((1:Nat):Int)) by omega]
def U9 (m:Spans):List Int:=m.map (·.1)
theorem bd5 {m:Spans} (h:(U9 m).Nodup) (k:Int) (v:Span):(U9 (mput eqI m k v)).Nodup∧∀ n,n∈U9 (mput eqI m k v)↔n=k∨n∈U9 m:=by
 induction m with
 |nil=>simp [mput,U9]
 |cons x r ih=>
  obtain ⟨k',v'⟩:=x
  obtain ⟨h1,h2⟩:=List.nodup_cons.1 (show (k'::U9 r).Nodup from h)
  simp only [mput,eqI,cp7,beq_iff_eq]
  by_cases hk:k'=k
  ·subst hk
   rw [if_pos rfl]
   refine ⟨h,fun n=>?_⟩
   show n∈k'::U9 r↔n=k'∨n∈k'::U9 r
   simp
  ·rw [if_neg hk]
   obtain ⟨i1,i2⟩:=ih h2
   refine ⟨List.nodup_cons.2 ⟨fun hm=>?_,i1⟩,fun n=>?_⟩
   ·rcases (i2 k').1 hm with h3|h3
    ·exact hk h3
    ·exact h1 h3
   ·show n∈k'::U9 (mput eqI r k v)↔n=k∨n∈k'::U9 r
    simp only [List.mem_cons,i2]
    constructor
    ·rintro (h|h|h)<;>simp [h]
    ·rintro (h|h|h)<;>simp [h]
theorem aH9 (l:List Int) (i:Int):∀ {m:Spans},(U9 m).Nodup→(U9 (L0 m l i)).Nodup:=by
 induction l with
 |nil=>intro m h;exact h
 |cons x r ih=>intro m h;exact ih (bd5 h _ _).1
theorem bd6 (l:List Int) (i:Int):∀ {m:Spans},(U9 m).Nodup→(U9 (uses m l i)).Nodup:=by
 induction l with
 |nil=>intro m h;exact h
 |cons x r ih=>intro m h;exact ih (bd5 h _ _).1
theorem aI0:∀ (l:List Ins) (i:Int) {m:Spans},(U9 m).Nodup→(U9 (J5 m l i)).Nodup
 |[],_,_,h=>h
 |x::r,i,m,h=>aI0 r (i+1) (aH9 _ _ (bd6 _ _ h))
theorem bl8 (a:Int) (b:List Ins) (c:List Int):(U9 (L6 a b c)).Nodup:=bd6 _ _ (aI0 _ _ (aH9 _ _ (by simp [U9])))
theorem bM1:∀ {m:Spans},(U9 m).Nodup→∀ {i:Nat} {x:Int×Span},m[i]? =some x→∀ v,mput eqI m x.1 v=m.set i (x.1,v)
 |[],_,i,x,h,_=>by simp at h
 |(k',v')::r,hn,0,x,h,v=>by
  simp only [cp2,co4] at h
  subst h
  simp [mput,eqI]
 |(k',v')::r,hn,i+1,x,h,v=>by
  obtain ⟨h1,h2⟩:=List.nodup_cons.1 (show (k'::U9 r).Nodup from hn)
  simp only [List.getElem?_cons_succ] at h
  have hx:k'≠x.1:=fun e=>h1 (by rw [e];exact List.mem_map.2 ⟨x,List.mem_of_getElem? h,rfl⟩)
  simp only [mput,eqI,cp7,beq_iff_eq,if_neg hx,List.set_cons_succ]
  rw [show mput (fun x y=>x==y) r x.1 v=mput eqI r x.1 v from rfl,bM1 h2 h v]
theorem aa7 (m:Spans) (seen:List Int) (i:Nat):(T3 m seen)[i]? =(m[i]?).map fun x=>if seen.contains (i:Int) then (x.1,finS x.2) else x:=by
 unfold T3
 rw [cp9,List.getElem?_zipIdx]
 cases m[i]? <;>simp
theorem ay1 (m:Spans) (seen:List Int):(T3 m seen).length=m.length:=by simp [T3]
theorem bA6 (m:Spans) (seen:List Int):U9 (T3 m seen)=U9 m:=by
 apply List.ext_getElem?
 intro i
 simp only [U9,cp9,aa7]
 cases m[i]? with
 |none=>rfl
 |some x=>simp only [Option.map_some];split<;>rfl
theorem bM2 {m:Spans} {seen:List Int} (h:∀ i:Nat,i<m.length→seen.contains (i:Int)=true):T3 m seen=m.map fun x=>(x.1,finS x.2):=by
 apply List.ext_getElem?
 intro i
 rw [aa7,cp9]
 cases hm:m[i]? with
 |none=>rfl
 |some x=>rw [Option.map_some,Option.map_some,if_pos (h i (co9.1 hm).1)]
theorem bM3 (m:Spans):T3 m []=m:=by
 apply List.ext_getElem?
 intro i
 rw [aa7]
 cases m[i]? <;>simp
theorem aO5 {m:Spans} {seen:List Int} {i:Nat} {x:Int×Span} (hx:m[i]? =some x):T3 m (seen++[(i:Int)])=(T3 m seen).set i (x.1,finS x.2):=by
 have hi:=(co9.1 hx).1
 have hmi:m[i]=x:=(co9.1 hx).2
 apply List.ext_getElem?
 intro j
 rw [cq9,aa7,aa7,ay1]
 by_cases hj:i=j
 ·subst hj
  simp [hmi,hi]
 ·rw [if_neg hj]
  have:(seen++[(i:Int)]).contains (j:Int)=seen.contains (j:Int):=by
   rw [Bool.eq_iff_iff,List.contains_iff_mem,List.contains_iff_mem,cr1,cp5]
   constructor
   ·rintro (h|h)
    ·exact h
    ·omega
   ·exact .inl
  rw [this]
theorem bV6 (n i:Int) (m:Spans):vc (EV []) noL Go.Proofs.Tryd.f81 cBegin (n,i,m,()):=(bV4 n i m).mpr rfl
theorem cf5 (n i:Int) (m:Spans):mput (fun (x y:Int)=>x==y) m n (Span.mk (Option.getD (mget (fun (x y:Int)=>x==y) m n) (Span.mk (0:Int) (0:Int))).first i)=useS m n i:=by
 unfold useS getS
 rfl
theorem cl9 (n i:Int) (m:Spans):vc (EV []) noL Go.Proofs.Tryd.f82 cUse (n,i,m,()):=by
 have h:=cl8 n i m
 rw [h,cf5]
theorem bl9:C8 prog RG 81 cBegin:=E5 B8 (fun _=>noL) (by kernel_rfl) (by kernel_rfl) (by kernel_rfl) fun (n,i,m,()) _=>bV6 n i m
theorem bM4:C8 prog RG 82 cUse:=E5 B8 (fun _=>noL) (by kernel_rfl) (by kernel_rfl) (by kernel_rfl) fun (n,i,m,()) _=>cl9 n i m
theorem aA8:∀ (n:Nat) (l:List Nat),l.Nodup→(∀ x∈l,x<n)→l.length≤n
 |0,l,_,h=>by
  cases l with
  |nil=>simp
  |cons x r=>have:=h x (by simp);omega
 |n+1,l,hn,h=>by
  by_cases hm:n∈l
  ·have h1:=aA8 n (l.erase n) (hn.erase n) (fun x hx=>by
    have h2:=(hn.mem_erase_iff).1 hx
    have:=h x h2.2
    have:=h2.1
    omega)
   rw [List.length_erase_of_mem hm] at h1
   omega
  ·have:=aA8 n l hn (fun x hx=>by
    have:=h x hx
    have:x≠n:=fun e=>hm (e▸hx)
    omega)
   omega
theorem bd7 {m:Spans} (hk:(U9 m).Nodup) {seen:List Int} (hn:seen.Nodup) (hs:∀ i∈seen,0≤i∧i<(m.length:Int)) {i:Nat} (hi:i<m.length) (hni:¬ i∈seen.map Int.toNat):
  (seen++[(i:Int)]).Nodup∧(∀ j∈seen++[(i:Int)],0≤j∧j<(m.length:Int))∧(seen++[(i:Int)]).length≤m.length∧∃ x,m[i]? =some x∧(T3 m seen)[i]? =some x:=by
 have hni':¬ (i:Int)∈seen:=fun h=>hni (List.mem_map.2 ⟨_,h,by simp⟩)
 have h1:(seen++[(i:Int)]).Nodup:=by
  rw [List.nodup_append]
  refine ⟨hn,by simp,fun a ha b hb=>?_⟩
  simp only [cp5] at hb
  rw [hb]
  rintro rfl
  exact hni' ha
 have h2:∀ j∈seen++[(i:Int)],0≤j∧j<(m.length:Int):=by
  intro j hj
  rcases cr1.1 hj with hj|hj
  ·exact hs j hj
  ·simp only [cp5] at hj
   omega
 refine ⟨h1,h2,?_,m[i],co6 hi,?_⟩
 ·have h3:((seen++[(i:Int)]).map Int.toNat).Nodup:=by
   rw [List.Nodup,List.pairwise_map]
   exact h1.imp_of_mem (fun {a b} ha hb hab he=>hab (by have:=h2 a ha;have:=h2 b hb;omega))
  have:=aA8 m.length _ h3 (fun j hj=>by
   obtain ⟨k,hk,rfl⟩:=List.mem_map.1 hj
   have:=h2 k hk
   omega)
  simpa using this
 ·rw [aa7,co6 hi,Option.map_some,if_neg (by rw [List.contains_iff_mem];exact hni')]
theorem bd8 (l:List Nat) (i:Nat):(l++[i]).getLast? =some i:=by simp
theorem au6 {M:Type} {l:List Int} (hl:l.length≤140737488355328) {F:List Int→M} {G:M→Int→M} (hF:∀ l x,F (l++[x])=G (F l) x) (p:Int×M×Unit) (h:0≤p.1∧p.1≤(l.length:Int)∧p.2.1=F (l.take p.1.toNat)) (hlt:decide (p.1<(l.length:Int))=true):
  (0≤p.1∧p.1<(l.length:Int))∧∃ p':Int×M×Unit,IntKind.i64.wrap (p.1+1)=p'.1∧G p.2.1 (l.getD p.1.toNat 0)=p'.2.1∧(0≤p'.1∧p'.1≤(l.length:Int)∧p'.2.1=F (l.take p'.1.toNat))∧l.length-p'.1.toNat<l.length-p.1.toNat:=by
 obtain ⟨i,m,⟨⟩⟩:=p
 obtain ⟨h0,h1,h2⟩:=h
 dsimp only at h0 h1 h2 hlt ⊢
 obtain ⟨k,rfl⟩:=cp0 h0
 have hlt:(k:Int)<l.length:=cp4 hlt
 refine ⟨⟨h0,hlt⟩,((k+1:Nat),F (l.take (k+1)),()),B6 (by omega) hl,?_,⟨by omega,by dsimp only;omega,by rw [co8]⟩,by dsimp only;omega⟩
 rw [h2,co8,A5 (by omega) 0,hF]
theorem bV7 (a:Int) (b:List Ins) (c d:List Int) (ha:a≤4000):vc (EV [(81,cBegin),(82,cUse)]) (bM0 a b c) Go.Proofs.Tryd.f51 cSpans (a,b,c,d,()):=by
 rw [bV5 a b c d]
 intro e0 e1 e2 e3 e4 hb hc _
 have hlb:b.length≤140737488355328:=hb.len
 have hlc:c.length≤140737488355328:=hc.len
 have he0:e0=ins0:=rfl
 have he4:e4=never:=rfl
 clear_value e0 e4
 subst he0 he4
 dsimp only [e1,e2,e3]
 simp only [true_and,and_true]
 refine ⟨⟨(0,[],()),rfl,rfl,Int.le_refl _,.inr rfl,rfl⟩,?_⟩
 rintro ⟨i,m,⟨⟩⟩ ⟨h0,h1,h2⟩
 dsimp only at h0 h1 h2 ⊢
 subst h2
 obtain ⟨k,rfl⟩:=cp0 h0
 simp only [co8]
 refine ⟨fun hlt=>?_,fun hge=>?_⟩
 ·have hlt:(k:Int)<a:=cp4 hlt
  refine ⟨((k+1:Nat),L0 [] (upto (k+1)) 0,()),by rw [E9 (by omega) (by omega)];rfl,?_,⟨by omega,.inl (by dsimp only;omega),by rw [co8]⟩,by dsimp only;omega⟩
  rw [bd4,aH7]
 have hk:k=a.toNat:=by have:¬ (k:Int)<a:=cp3 hge;omega
 subst hk
 clear h0 h1 hge
 refine ⟨⟨(0,L0 [] (upto a.toNat) 0,()),rfl,rfl,Int.le_refl _,by dsimp only;omega,rfl⟩,?_⟩
 rintro ⟨i,m,⟨⟩⟩ ⟨h0,h1,h2⟩
 dsimp only at h0 h1 h2 ⊢
 subst h2
 obtain ⟨k,rfl⟩:=cp0 h0
 simp only [co8]
 have hw:k<b.length→IntKind.i64.wrap ((k:Int)+1)=(k:Int)+1:=fun h=>E9 (by omega) (by omega)
 refine ⟨fun hlt=>?_,fun hge=>?_⟩
 ·have hlt:(k:Int)<b.length:=cp4 hlt
  rw [hw (by omega)]
  refine ⟨⟨h0,hlt⟩,⟨(0,_,()),rfl,rfl,Int.le_refl _,by dsimp only;omega,rfl⟩,fun p hp=>⟨au6 (F:=fun l=>uses (J5 (L5 a) (b.take k) 0) l k) (G:=fun m x=>useS m x k) (aH4 hb (by omega)) (fun l x=>bd3 _ _ _ _) p hp,fun hge=>?_⟩⟩
  obtain ⟨q,m,⟨⟩⟩:=p
  obtain ⟨q0,q1,q2⟩:=hp
  dsimp only at q0 q1 q2 hge ⊢
  have hq:q.toNat=(b.getD k ins0).from_.length:=by have:¬ q<(b.getD k ins0).from_.length:=cp3 hge;omega
  rw [hq,cr2] at q2
  subst q2
  refine ⟨⟨(0,_,()),rfl,rfl,Int.le_refl _,by dsimp only;omega,rfl⟩,fun p hp=>⟨au6 (F:=fun l=>L0 (uses (J5 (L5 a) (b.take k) 0) (b.getD k ins0).from_ k) l (k+1)) (G:=fun m x=>ar1 m x (k+1)) (aH5 hb (by omega)) (fun l x=>aH7 _ _ _ _) p hp,fun hge=>?_⟩⟩
  obtain ⟨q',m,⟨⟩⟩:=p
  obtain ⟨q0',q1',q2⟩:=hp
  dsimp only at q0' q1' q2 hge ⊢
  have hq:q'.toNat=(b.getD k ins0).to.length:=by have:¬ q'<(b.getD k ins0).to.length:=cp3 hge;omega
  rw [hq,cr2] at q2
  subst q2
  refine ⟨((k:Int)+1,_,()),rfl,rfl,⟨by dsimp only;omega,by dsimp only;omega,?_⟩,by dsimp only;omega⟩
  dsimp only
  rw [show ((k:Int)+1).toNat=k+1 by omega,A5 (by omega) ins0,aH8,cr3,Nat.min_eq_left (by omega),Int.zero_add]
  rfl
 have hk:k=b.length:=by have:¬ (k:Int)<b.length:=cp3 hge;omega
 subst hk
 rw [cr2]
 clear h0 h1 hge hw
 refine ⟨⟨(0,_,()),rfl,rfl,Int.le_refl _,by dsimp only;omega,rfl⟩,fun p hp=>⟨au6 (F:=fun l=>uses (J5 (L5 a) b 0) l b.length) (G:=fun m x=>useS m x b.length) hlc (fun l x=>bd3 _ _ _ _) p hp,fun hge=>?_⟩⟩
 obtain ⟨q,m,⟨⟩⟩:=p
 obtain ⟨q0,q1,q2⟩:=hp
 dsimp only at q0 q1 q2 hge ⊢
 have hq:q.toNat=c.length:=by have:¬ q<(c.length:Int):=cp3 hge;omega
 rw [hq,cr2] at q2
 have hm:m=L6 a b c:=q2
 subst hm
 clear q0 q1 q2 hge hq
 have hkey:=bl8 a b c
 have hof:A6 a b c=(L6 a b c).map fun x=>(x.1,finS x.2):=rfl
 generalize L6 a b c=m at*
 refine ⟨⟨([],m,()),rfl,rfl,rfl,List.Pairwise.nil,fun i hi=>(by cases hi),(bM3 m).symm⟩,?_⟩
 rintro ⟨seen,m',⟨⟩⟩ ⟨h1,h2,h3⟩
 dsimp only at h1 h2 h3 ⊢
 subst h3
 have hlen:(T3 m seen).length=m.length:=ay1 m seen
 refine ⟨hlen,fun i hi hni=>⟨fun _=>⟨⟨hlen,bd8 _ _,hi⟩,fun hc=>?_,fun hc=>?_⟩,fun h=>by cases h⟩,fun hall=>⟨fun h=>(by cases h),fun _=>?_⟩⟩
 ·obtain ⟨r1,r2,r3,x,r4,r5⟩:=bd7 hkey h1 h2 hi hni
  have hx2:((T3 m seen).map fun x=>x.2).getD i ⟨0,0⟩=x.2:=by rw [cp8,cp9,r5];rfl
  have hx1:((T3 m seen).map fun x=>x.1).getD i 0=x.1:=by rw [cp8,cp9,r5];rfl
  have hc:decide (x.2.last<0)=true:=by rw [←hx2];exact hc
  have hc:x.2.last<0:=cp4 hc
  refine ⟨(seen++[(i:Int)],T3 m (seen++[(i:Int)]),()),?_,by simp,by simp,⟨r1,r2,rfl⟩,by simp only [cq5,cq8] at r3 ⊢;omega⟩
  show mput eqI (T3 m seen) (((T3 m seen).map fun x=>x.1).getD i 0) never=T3 m (seen++[(i:Int)])
  rw [hx1,bM1 (by rw [bA6];exact hkey) r5,aO5 r4]
  rw [show finS x.2=never by unfold finS;rw [if_pos hc]]
 ·obtain ⟨r1,r2,r3,x,r4,r5⟩:=bd7 hkey h1 h2 hi hni
  have hx2:((T3 m seen).map fun x=>x.2).getD i ⟨0,0⟩=x.2:=by rw [cp8,cp9,r5];rfl
  have hc:decide (x.2.last<0)=false:=by rw [←hx2];exact hc
  have hc:¬ x.2.last<0:=cp3 hc
  refine ⟨(seen++[(i:Int)],T3 m (seen++[(i:Int)]),()),?_,by simp,by simp,⟨r1,r2,rfl⟩,by simp only [cq5,cq8] at r3 ⊢;omega⟩
  dsimp only
  rw [aO5 r4,show finS x.2=x.2 by unfold finS;rw [if_neg hc]]
  apply List.ext_getElem?
  intro j
  rw [cq9]
  split
  ·rename_i hj;subst hj;rw [r5,if_pos (by rw [hlen];exact hi)]
  ·rfl
 ·rw [hof,bM2]
  intro i hi
  obtain ⟨j,hj,hji⟩:=List.mem_map.1 (show i∈seen.map Int.toNat from hall i hi)
  have:=h2 j hj
  rw [List.contains_iff_mem,show (i:Int)=j by omega]
  exact hj
theorem aI1:C8 prog RG 51 cSpans:=E5 (k:=cSpans) (A8 bl9 (A8 bM4 B8)) (fun p=>bM0 p.1 p.2.1 p.2.2.1) (by kernel_rfl) (by kernel_rfl) (by kernel_rfl) fun (a,b,c,d,()) hp=>bV7 a b c d hp
theorem W6 (l:List Int) (i n:Int):∀ (m:Spans),mget eqI (L0 m l i) n=if n∈l then some ⟨i,-1⟩ else mget eqI m n:=by
 induction l with
 |nil=>intro m;simp [L0]
 |cons x r ih=>
  intro m
  rw [show L0 m (x::r) i=L0 (ar1 m x i) r i from rfl,ih,ar1,I8]
  by_cases h1:n∈r
  ·simp [h1]
  ·by_cases h2:x=n
   ·simp [h2]
   ·simp [h1,h2,Ne.symm h2]
theorem ar2 (l:List Int) (i n:Int):∀ (m:Spans),mget eqI (uses m l i) n=if n∈l then some ⟨(getS m n).first,i⟩ else mget eqI m n:=by
 induction l with
 |nil=>intro m;simp [uses]
 |cons x r ih=>
  intro m
  rw [show uses m (x::r) i=uses (useS m x i) r i from rfl,ih]
  have hg:mget eqI (useS m x i) n=if x=n then some ⟨(getS m x).first,i⟩ else mget eqI m n:=by rw [useS,I8]
  have hf:(getS (useS m x i) n).first=(getS m n).first:=by
   unfold getS
   rw [hg]
   by_cases h2:x=n
   ·subst h2;simp [getS]
   ·simp [h2]
  rw [hf,hg]
  by_cases h1:n∈r
  ·simp [h1]
  ·by_cases h2:x=n
   ·subst h2;simp [h1]
   ·simp [h1,h2,Ne.symm h2]
def L2 (n:Int):List Ins→Int→Int→Int
 |[],_,d=>d
 |x::r,i,d=>L2 n r (i+1) (if n∈x.from_ then i else d)
theorem ag5 (n:Int):∀ (code:List Ins) (m:Spans) (i f d:Int),n∉wr code→mget eqI m n=some ⟨f,d⟩→mget eqI (J5 m code i) n=some ⟨f,L2 n code i d⟩
 |[],m,i,f,d,_,h=>h
 |x::r,m,i,f,d,hw,h=>by
  have hw':n∉x.to∧n∉wr r:=by simpa [wr] using hw
  simp only [J5,L2]
  have hg:getS m n=⟨f,d⟩:=by unfold getS;rw [h];rfl
  refine ag5 n r _ (i+1) f _ hw'.2 ?_
  rw [W6,if_neg hw'.1,ar2,hg,h]
  split<;>rfl
theorem al1 (n:Int):∀ (l:List Ins) (x:Ins) (r:List Ins) (m:Spans) (i:Int),n∈x.to→n∉wr r→mget eqI (J5 m (l++x::r) i) n=some ⟨i+l.length+1,L2 n r (i+l.length+1) (-1)⟩
 |[],x,r,m,i,h1,h2=>by
  simp only [List.nil_append,J5,List.length_nil]
  have:=ag5 n r (L0 (uses m x.from_ i) x.to (i+1)) (i+1) (i+1) (-1) h2 (by rw [W6,if_pos h1])
  simpa using this
 |y::l,x,r,m,i,h1,h2=>by
  simp only [List.cons_append,J5,cq0,Int.natCast_add]
  rw [al1 n l x r _ (i+1) h1 h2]
  congr 2
  ·omega
  ·rw [show i+1+(l.length:Int)+1=i+((l.length:Int)+((1:Nat):Int))+1 by omega]
theorem aI2 (n:Int) (k:Nat):mget eqI (L0 [] (upto k) 0) n=if 0≤n∧n<k then some ⟨0,-1⟩ else none:=by
 rw [W6]
 have:n∈upto k↔0≤n∧n<k:=by
  unfold upto
  simp only [List.mem_map,List.mem_range]
  constructor
  ·rintro ⟨j,hj,rfl⟩;omega
  ·rintro ⟨h1,h2⟩;exact ⟨n.toNat,by omega,by omega⟩
 by_cases h:0≤n∧n<k
 ·rw [if_pos (this.2 h),if_pos h]
 ·rw [if_neg (fun h'=>h (this.1 h')),if_neg h];rfl
def fin (n:Int) (code:List Ins) (out:List Int) (i d:Int):Int:=if n∈out then i+code.length else L2 n code i d
theorem L1 (out:List Int):∀ code:List Ins,(E0 code out).length=code.length+1
 |[]=>rfl
 |x::r=>by simp [E0,L1 out r]
theorem V4 {x:Ins} {l:List Int} {n:Int}:n∈ag2 x l↔n∈x.from_∨(n∈l∧n∉x.to):=by
 unfold ag2
 rw [show (l.filter fun n=>!x.to.contains n).foldl T1 (C6 [] x.from_)=C6 (C6 [] x.from_) (l.filter fun n=>!x.to.contains n) from rfl,M0,M0]
 simp [List.mem_filter]
theorem bd9 (out:List Int) (code:List Ins):(E0 code out)[0]? =some ((E0 code out).headD []):=by
 cases code<;>rfl
theorem aj6 {x:Ins} {r:List Ins} {out:List Int} {n:Int}:n∈(E0 (x::r) out).headD []↔n∈x.from_∨(n∈(E0 r out).headD []∧n∉x.to):=by
 simp only [E0,List.headD_cons,V4]
def atL (code:List Ins) (out:List Int) (p:Nat):List Int:=(E0 code out).getD p []
theorem V0 (code:List Ins) (out:List Int):atL code out 0=(E0 code out).headD []:=by
 unfold atL
 rw [cp8,bd9]
 rfl
theorem aj7 (x:Ins) (r:List Ins) (out:List Int) (p:Nat):atL (x::r) out (p+1)=atL r out p:=by
 simp [atL,E0]
theorem aj8 (n:Int):∀ (code:List Ins) (i d:Int),d<i→d≤L2 n code i d∧L2 n code i d<i+code.length
 |[],i,d,h=>by simp [L2];omega
 |x::r,i,d,h=>by
  simp only [L2,cq0,Int.natCast_add]
  have:=aj8 n r (i+1) (if n∈x.from_ then i else d) (by split<;>omega)
  split at this<;>rename_i hx<;>simp only [hx,if_true,if_false]<;>omega
theorem be0 (n:Int) (out:List Int):∀ (code:List Ins) (p:Nat) (i d:Int),n∉wr code→p≤code.length→d<i→(n∈atL code out p↔i+p≤fin n code out i d)
 |[],0,i,d,_,_,hd=>by
  simp only [atL,E0,fin,L2,List.getD_cons_zero,M0,List.not_mem_nil,false_or,List.length_nil]
  split<;>rename_i h
  ·simp [h]
  ·simp [h];omega
 |[],p+1,i,d,_,h,_=>by simp at h
 |x::r,0,i,d,hw,_,hd=>by
  have hw':n∉x.to∧n∉wr r:=by simpa [wr] using hw
  rw [V0,aj6,←V0]
  have ih:=be0 n out r 0 (i+1) (if n∈x.from_ then i else d) hw'.2 (Nat.zero_le _) (by split<;>omega)
  rw [ih]
  have hl:=aj8 n r (i+1) (if n∈x.from_ then i else d) (by split<;>omega)
  simp only [fin,L2,cq0,Int.natCast_add,hw'.1,not_false_eq_true,and_true]
  by_cases ho:n∈out
  ·simp only [ho,if_true]
   by_cases hf:n∈x.from_
   ·simp [hf];omega
   ·simp [hf];omega
  ·simp only [ho,if_false]
   by_cases hf:n∈x.from_
   ·simp only [hf,if_true,true_or,true_iff] at hl ⊢
    omega
   ·simp only [hf,if_false,false_or] at hl ⊢
    have h3:∀ (q:List Ins) (j d:Int),d<j→L2 n q j d=d∨j≤L2 n q j d:=by
     intro q
     induction q with
     |nil=>intro j d _;exact .inl rfl
     |cons y q ih=>
      intro j d hd
      simp only [L2]
      rcases ih (j+1) (if n∈y.from_ then j else d) (by split<;>omega) with h|h
      ·split at h
       ·rename_i hy;right;simp only [hy,if_true];omega
       ·rename_i hy;left;simp only [hy,if_false];exact h
      ·right;omega
    have:=h3 r (i+1) d (by omega)
    omega
 |x::r,p+1,i,d,hw,hp,hd=>by
  have hw':n∉x.to∧n∉wr r:=by simpa [wr] using hw
  rw [aj7]
  have ih:=be0 n out r p (i+1) (if n∈x.from_ then i else d) hw'.2 (by simpa using hp) (by split<;>omega)
  rw [ih]
  simp only [fin,L2,cq0,Int.natCast_add]
  split<;>omega
theorem bM5 (n:Int) (out:List Int) (x:Ins) (r:List Ins) (hx:n∈x.to) (hxf:n∉x.from_):∀ (l:List Ins),(∀ y∈l,n∉y.from_)→∀ p:Nat,p≤l.length→n∉atL (l++x::r) out p
 |[],_,0,_=>by
  rw [List.nil_append,V0,aj6]
  simp [hx,hxf]
 |[],_,p+1,h=>by simp at h
 |y::l,hl,0,_=>by
  have ih:=bM5 n out x r hx hxf l (fun z hz=>hl z (by simp [hz])) 0 (Nat.zero_le _)
  rw [List.cons_append,V0,aj6,←V0]
  have:=hl y (by simp)
  simp [ih,this]
 |y::l,hl,p+1,h=>by
  rw [List.cons_append,aj7]
  exact bM5 n out x r hx hxf l (fun z hz=>hl z (by simp [hz])) p (by simpa using h)
theorem au7 (out:List Int) (r:List Ins):∀ (l:List Ins) (p:Nat),atL (l++r) out (l.length+p)=atL r out p
 |[],p=>by simp
 |x::l,p=>by
  rw [List.cons_append,cq0,show l.length+1+p=(l.length+p)+1 by omega,aj7]
  exact au7 out r l p
structure Checked (a:Int) (b:List Ins) (c:List Int):Prop where
 len:b.length≤4000
 pos:0≤a
 few:a≤4000
 outR:∀ n∈c,0≤n∧n≤3999
 toR:∀ x∈b,∀ n∈x.to,0≤n∧n≤3999
 fromR:∀ x∈b,∀ n∈x.from_,0≤n∧n≤3999
 once:D0 (wr b)=true
 new:∀ n∈wr b,a≤n
 there:F8 a [] b=true
 outT:∀ n∈c,n<a∨n∈wr b
theorem ar3 {n:Int}:T2 n=true↔0≤n∧n≤3999:=by simp [T2,lies]
theorem bm0 {a:Int} {b:List Ins} {c d:List Int} (h:E2 ⟨a,b,c,d⟩=0):Checked a b c:=by
 simp only [E2] at h
 split at h
 ·cases h
 rename_i h1
 split at h
 ·cases h
 rename_i h2
 split at h
 ·cases h
 rename_i h3
 split at h
 ·cases h
 rename_i h4
 simp only [Bool.not_eq_true',Bool.not_eq_false,co7,cr4,cq6,lies] at h2 h3 h4
 obtain ⟨⟨h2a,h2b⟩,h2c⟩:=h2
 exact ⟨by omega,h2a.1,h2a.2,fun n hn=>ar3.1 (h2b n hn),fun x hx n hn=>ar3.1 ((h2c x hx).1 n hn),fun x hx n hn=>ar3.1 ((h2c x hx).2 n hn),h3.1,h3.2,h4.1,fun n hn=>by
  have:=h4.2 n hn
  simpa [List.contains_iff_mem] using this⟩
theorem bt7 {b:List Ins} {n:Int}:n∈wr b↔∃ x∈b,n∈x.to:=by simp [wr,List.mem_flatMap]
theorem P5 (l r:List Ins):wr (l++r)=wr l++wr r:=by simp [wr]
theorem T9 (x:Ins) (r:List Ins):wr (x::r)=x.to++wr r:=by simp [wr]
theorem G0:∀ {l:List Int},D0 l=true↔l.Nodup
 |[]=>by simp [D0]
 |x::r=>by
  simp only [D0,co7,Bool.not_eq_true',G0 (l:=r),List.nodup_cons]
  rw [Bool.eq_false_iff,ne_eq,List.contains_iff_mem]
theorem M2 {a:Int}:∀ {l:List Ins} {x:Ins} {r:List Ins} {W:List Int},F8 a W (l++x::r)=true→∀ n∈x.from_,n<a∨n∈W++wr l:=by
 intro l x r W h n hn
 rw [M1] at h
 simp only [co7,F8,cr4] at h
 have:=h.2.1 n hn
 simpa [List.contains_iff_mem] using this
theorem bV8 {b:List Ins} {n:Int} (h:n∈wr b):∃ l x r,b=l++x::r∧n∈x.to∧n∉wr l:=by
 induction b with
 |nil=>simp [wr] at h
 |cons y b ih=>
  by_cases hy:n∈y.to
  ·exact ⟨[],y,b,rfl,hy,by simp [wr]⟩
  ·rw [T9,cr1] at h
   obtain ⟨l,x,r,h1,h2,h3⟩:=ih (h.resolve_left hy)
   refine ⟨y::l,x,r,by rw [h1];rfl,h2,?_⟩
   rw [T9,cr1]
   rintro (h|h)
   ·exact hy h
   ·exact h3 h
theorem aU5 (m:Spans) (n:Int):mget eqI (m.map fun x=>(x.1,finS x.2)) n=(mget eqI m n).map finS:=by
 induction m with
 |nil=>rfl
 |cons x r ih=>
  obtain ⟨k,s⟩:=x
  simp only [List.map_cons,mget,eqI,cp7,beq_iff_eq]
  split
  ·rfl
  ·exact ih
theorem aI3 (n:Int):∀ (code:List Ins) (m:Spans) (i:Int),n∉wr code→(∀ x∈code,n∉x.from_)→mget eqI m n=none→mget eqI (J5 m code i) n=none
 |[],m,i,_,_,h=>h
 |x::r,m,i,hw,hf,h=>by
  rw [T9,cr1] at hw
  refine aI3 n r _ _ (fun h'=>hw (.inr h')) (fun y hy=>hf y (by simp [hy])) ?_
  rw [W6,if_neg (fun h'=>hw (.inl h')),ar2,if_neg (hf x (by simp)),h]
theorem ay2 (n:Int):∀ (code:List Ins) (i d:Int),(∀ x∈code,n∉x.from_)→L2 n code i d=d
 |[],_,_,_=>rfl
 |x::r,i,d,h=>by
  simp only [L2,if_neg (h x (by simp))]
  exact ay2 n r _ _ (fun y hy=>h y (by simp [hy]))
theorem be1 {a:Int} {b:List Ins} {c:List Int} {n f l:Int} (h:mget eqI (L6 a b c) n=some ⟨f,l⟩) (hf:0≤f) (hl:l=-1∨0≤l) (p:Nat):W5 (A6 a b c) p n=true↔f≤p∧(p:Int)≤l:=by
 unfold W5 A6
 rw [aU5,h]
 simp only [Option.map_some,finS]
 rcases hl with hl|hl
 ·subst hl
  simp [H1,never]
  omega
 ·rw [if_neg (by omega)]
  simp [H1]
  omega
theorem bt8 {a:Int} {b:List Ins} {c:List Int} (C:Checked a b c) (n:Int) (p:Nat) (hp:p≤b.length):W5 (A6 a b c) p n=true↔n∈atL b c p:=by
 have huse:∀ (m:Spans),mget eqI (uses m c b.length) n=if n∈c then some ⟨(getS m n).first,(b.length:Int)⟩ else mget eqI m n:=fun m=>ar2 c _ n m
 by_cases hw:n∈wr b
 ·obtain ⟨l,x,r,hb,hx,hl⟩:=bV8 hw
  have hnd:=G0.1 C.once
  rw [hb,P5,T9] at hnd
  have hr:n∉wr r:=by
   intro h
   have h2:=(List.nodup_append.1 hnd).2.1
   exact (List.nodup_append.1 h2).2.2 n hx n h rfl
  have hge:¬ n<a:=by have:=C.new n hw;omega
  have hth:=C.there
  rw [hb] at hth
  have hxf:n∉x.from_:=fun h=>by
   rcases M2 hth n h with h1|h1
   ·exact hge h1
   ·exact hl (by simpa using h1)
  have hlf:∀ y∈l,n∉y.from_:=by
   intro y hy h
   obtain ⟨l1,l2,hl12⟩:=List.append_of_mem hy
   have hth':=hth
   rw [hl12,cr0,List.cons_append] at hth'
   rcases M2 hth' n h with h1|h1
   ·exact hge h1
   ·refine hl ?_
    rw [hl12,P5]
    exact List.mem_append_left _ (by simpa using h1)
  have hC:mget eqI (J5 (L5 a) b 0) n=some ⟨(l.length:Int)+1,L2 n r ((l.length:Int)+1) (-1)⟩:=by
   have:=al1 n l x r (L5 a) 0 hx hr
   rw [hb]
   simpa using this
  have hlen:b.length=l.length+(r.length+1):=by rw [hb];simp
  have h1:mget eqI (L6 a b c) n=some ⟨(l.length:Int)+1,fin n r c ((l.length:Int)+1) (-1)⟩:=by
   unfold L6 fin
   rw [huse,hC]
   split
   ·simp only [getS,hC,Option.getD_some,co4,Span.mk.injEq,true_and]
    rw [hlen]
    omega
   ·rfl
  have hfin:fin n r c ((l.length:Int)+1) (-1)=-1∨0≤fin n r c ((l.length:Int)+1) (-1):=by
   unfold fin
   split
   ·right;omega
   ·have:=aj8 n r ((l.length:Int)+1) (-1) (by omega);omega
  rw [be1 h1 (by omega) hfin p]
  by_cases hpl:p≤l.length
  ·have:=bM5 n c x r hx hxf l hlf p hpl
   rw [←hb] at this
   constructor
   ·intro h;omega
   ·intro h;exact absurd h this
  ·obtain ⟨q,hq⟩:∃ q,p=l.length+(q+1):=⟨p-l.length-1,by omega⟩
   have hA:=be0 n c r q ((l.length:Int)+1) (-1) hr (by omega) (by omega)
   have:atL b c p=atL r c q:=by rw [hb,hq,au7,aj7]
   rw [this,hA,hq]
   constructor
   ·intro h;omega
   ·intro h;omega
 ·by_cases hpar:0≤n∧n<a
  ·have h0:mget eqI (L5 a) n=some ⟨0,-1⟩:=by
    unfold L5
    rw [aI2,if_pos ⟨hpar.1,by omega⟩]
   have hC:=ag5 n b (L5 a) 0 0 (-1) hw h0
   have h1:mget eqI (L6 a b c) n=some ⟨0,fin n b c 0 (-1)⟩:=by
    unfold L6 fin
    rw [huse,hC]
    split
    ·simp only [getS,hC,Option.getD_some,co4,Span.mk.injEq,true_and]
     omega
    ·rfl
   have hfin:fin n b c 0 (-1)=-1∨0≤fin n b c 0 (-1):=by
    unfold fin
    split
    ·right;omega
    ·have:=aj8 n b 0 (-1) (by omega);omega
   rw [be1 h1 (by omega) hfin p,be0 n c b p 0 (-1) hw hp (by omega)]
   omega
  ·have hbf:∀ x∈b,n∉x.from_:=by
    intro x hx h
    have h1:=C.fromR x hx n h
    obtain ⟨l1,l2,hl12⟩:=List.append_of_mem hx
    have hth:=C.there
    rw [hl12] at hth
    rcases M2 hth n h with h2|h2
    ·omega
    ·refine hw ?_
     rw [hl12,P5]
     exact List.mem_append_left _ (by simpa using h2)
   have hco:n∉c:=fun h=>by
    have h1:=C.outR n h
    rcases C.outT n h with h2|h2
    ·omega
    ·exact hw h2
   have h0:mget eqI (L5 a) n=none:=by
    unfold L5
    rw [aI2,if_neg (by omega)]
   have h1:mget eqI (L6 a b c) n=none:=by
    unfold L6
    rw [huse,if_neg hco]
    exact aI3 n b _ _ hw hbf h0
   have hA:=be0 n c b p 0 (-1) hw hp (by omega)
   rw [hA]
   unfold W5 A6
   rw [aU5,h1]
   simp only [Option.map_none,fin,if_neg hco,ay2 n b _ _ hbf]
   simp
   omega
end Go.Rg
end
