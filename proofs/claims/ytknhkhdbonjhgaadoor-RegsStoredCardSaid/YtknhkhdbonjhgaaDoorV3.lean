/-
What the last text of this claim uses: VtMs, VtR, VtS, VtU, VtV, VtW, VtX, VtY, VtZ0.
-/
import Derived.Test.YtknhkhdbonjhgaaDoorV2
import Derived.OrdersIn
import Derived.RangeFuncCalls
import Derived.Orders
import Derived.RangeFuncRecord
import Derived.RangeFuncIn
import Derived.Tactics
import Derived.Laws.Cover3
import Derived.Scope
set_option linter.unusedVariables false
set_option linter.unusedSimpArgs false
set_option maxRecDepth 100000
noncomputable section
section
namespace Go.VT
noncomputable section
open Go.RowKit
variable {U:Univ} {E:Env U} {F:Fr} {n:Nat} {β:Nm} {s:St U} {ρ:Operand→Value} {tmps:Array Value} {w:World} {o:Oper} {e:Eff U} {h:Obs U}
theorem ba2 {P:Program} {M:Nat→Prop} {K:TypeId} {kt:Ty} (hk:L8 U P K kt=true) {a:den U.T kt} {kv:Value} (hv:VIs w M kt a kv) {γ:Type} (y:γ) {l:List (den U.T kt×γ)} {es:List MapEntry} (hl:es.length=l.length)
  (hr:∀ (k:Nat) (x:den U.T kt×γ) (e:MapEntry),l[k]? =some x→es[k]? =some e→VIs w M kt x.1 e.key):
  ((Instr.findKey K kv es).run P w=.ok none w∧midx kt l a=none∧mget (E7 U kt) l a=none∧mput (E7 U kt) l a y=l++[(a,y)])∨
  ∃ j e x,es[j]? =some e∧l[j]? =some x∧E7 U kt x.1 a=true∧(Instr.findKey K kv es).run P w=.ok (some (j,e.val)) w∧midx kt l a=some j∧mget (E7 U kt) l a=some x.2∧mput (E7 U kt) l a y=l.set j (a,y):=by
 have h1:=aA4 hk hv y hl hr
 have h2:=aA4 (P:=P) hk hv (0:Nat) (l:=l.mapIdx fun i x=>(x.1,i)) (es:=es) (by simpa using hl) (fun i x e hx he=>by
  simp only [List.getElem?_mapIdx,cp1] at hx
  obtain ⟨x0,hx0,rfl⟩:=hx
  exact hr i x0 e hx0 he)
 rcases h1 with ⟨f1,f2,f3⟩|⟨j,e,x,f0,f1,f2,f3,f4,f5⟩
 ·rcases h2 with ⟨g1,g2,_⟩|⟨j2,e2,x2,g0,g1,g2,g3,g4,_⟩
  ·exact .inl ⟨f1,g2,f2,f3⟩
  ·rw [f1] at g3;simp at g3
 ·rcases h2 with ⟨g1,g2,_⟩|⟨j2,e2,x2,g0,g1,g2,g3,g4,_⟩
  ·rw [g1] at f3;simp at f3
  ·rw [f3] at g3
   simp only [Result.ok.injEq,co4,cp6,and_true] at g3
   obtain ⟨rfl,_⟩:=g3
   simp only [List.getElem?_mapIdx,cp1] at g1
   obtain ⟨x0,_,rfl⟩:=g1
   exact .inr ⟨j,e,x,f0,f1,f2,f3,g4,f4,f5⟩
theorem aE0 {kt:Ty} {γ:Type} {k:den U.T kt}:∀ (l:List (den U.T kt×γ)) (f:Nat→Nat),mget (E7 U kt) (l.mapIdx fun i x=>(x.1,f i)) k=(match mget (E7 U kt) (l.mapIdx fun i x=>(x.1,i)) k with
  |some i=>some (f i)
  |none=>none)∧∀ i,mget (E7 U kt) (l.mapIdx fun i x=>(x.1,i)) k=some i→∃ x,l[i]? =some x∧mget (E7 U kt) l k=some x.2
 |[],f=>by simp [mget]
 |(a,b)::r,f=>by
  simp only [List.mapIdx_cons,mget]
  have ih:=aE0 (k:=k) r
  cases hb:E7 U kt a k with
  |true=>exact ⟨rfl,fun i hi=>by simp only [cond_true,co4] at hi;subst hi;exact ⟨(a,b),rfl,rfl⟩⟩
  |false=>
   simp only [cond_false]
   have h1:=(ih (fun i=>f (i+1))).1
   have h2:=(ih (fun i=>i+1)).1
   refine ⟨?_,fun i hi=>?_⟩
   ·rw [h1,h2]
    cases mget (E7 U kt) (List.mapIdx (fun i x=>(x.1,i)) r) k<;>rfl
   ·rw [h2] at hi
    split at hi
    ·rename_i i0 h3
     simp only [co4] at hi
     subst hi
     obtain ⟨x,h4,h5⟩:=(ih id).2 i0 h3
     exact ⟨x,by simpa using h4,h5⟩
    ·cases hi
theorem bS3 {kt:Ty} {γ:Type} {k:den U.T kt} {l:List (den U.T kt×γ)} {i:Nat} (h:midx kt l k=some i) {x:den U.T kt×γ} (hx:l[i]? =some x):mget (E7 U kt) l k=some x.2:=by
 obtain ⟨y,h1,h2⟩:=(aE0 l id).2 i h
 rw [hx] at h1
 simp only [co4] at h1
 rw [h2,h1]
theorem ba3 {kt:Ty} {γ:Type} {k:den U.T kt}:∀ {l:List (den U.T kt×γ)},midx kt l k=none→mget (E7 U kt) l k=none
 |[],_=>rfl
 |(a,b)::r,h=>by
  unfold midx at h
  simp only [List.mapIdx_cons,mget] at h ⊢
  cases hb:E7 U kt a k with
  |true=>rw [hb] at h;simp at h
  |false=>
   rw [hb] at h
   simp only [cond_false] at h ⊢
   rw [(aE0 r (fun i=>i+1)).1] at h
   refine ba3 ?_
   unfold midx
   split at h
   ·cases h
   ·assumption
theorem bi9 {kt:Ty} {el:TypeId} {t:Ty} {l:List (den U.T kt×List (den U.T t))} {ver iv v0:Nat} {lv:Bool} {hole:Option (den U.T kt)} {N v:Value} {b:Nat} {ns:List Value} (hN:N=.tuple ((.map (some b):Value)::ns).toArray)
  (hv:DCRel (.maps kt el t l ver iv lv hole) N (.self v0) v) (hver:v0=ver):v=.map (some b):=by
 obtain ⟨vs,h1,h2⟩:=hv.2 hver
 rw [hN] at h1
 have:=G9 h1
 subst this
 simpa using h2.symm
theorem Does.lookupMs (hE:E.Fits) (R:Rel F n β s tmps w) {t:TypeId} {x y:Operand} (hop:o.op=.lookup t x y false) {id v0:Nat} {v:PV U} (r:PRel w β s.h s.σ (.one (.dc id (.self v0))) (ρ x)) (q:PRel w β s.h s.σ v (ρ y))
  {ids:List Nat} (he:ab2 E (sub s.h ids) t id v0 v=some e):Does E.P F β s ρ w o e:=by
 unfold ab2 at he
 split at he
 case h_2=>cases he
 rename_i kt el t' l ver iv hl
 split at he
 case h_2=>cases he
 rename_i K V hu
 revert he
 generalize hgc:(Nat.beq v0 ver&&L8 U E.P K kt&&((E.code V==some (.slice el t')&&S5 E.P V (.slice el t'))&&(match (S4 E.P V:Option (List (Cell U))) with
    |some [z]=>bv0 z
    |_=>false)))=cc
 cases cc with
 |false=>intro he;cases he
 |true=>
  intro he
  simp only [cond_true] at he
  simp only [co7,beq_iff_eq] at hgc
  obtain ⟨⟨hver,c1⟩,⟨c2,c3⟩,c4⟩:=hgc
  have hver:=co5 hver
  split at he
  case h_2=>cases he
  rename_i k hk
  simp only [co4] at he
  subst he
  have hkey:=aq2 hk q
  generalize hkv:ρ y=kv at hkey
  have hl:=C1 hl
  have hob:=R.obj id _ hl
  obtain ⟨D',hD,hv⟩:=r.inv.2
  rw [hl] at hD
  simp only [co4,Ob.dp.injEq] at hD
  subst hD
  obtain ⟨b,es,clock,ns,hN,h1,h2,⟨h3,h3c,h3b⟩,h4,h5,h6,h7⟩:=hob
  have hx:=bi9 hN hv hver
  obtain ⟨z,hz,hzi⟩:=bG5 (w:=w) hE c2 c3 (Live β s.h)
  have hznil:z=.slice none 0 0:=by
   split at c4
   ·rename_i zc hzc
    obtain ⟨i,v1,hi,hv1,hcs,_⟩:=az8 hzc
    have hzz:z=v1:=by
     have:(zeroValue V).run E.P w=.ok v1 w:=by simp [zeroValue,typeInfo,hi,hv1]
     rw [this] at hz
     simpa using hz.symm
    subst hzz
    obtain ⟨vs,p1,p2,p3,p4⟩:=hzi
    have hzf:∃ A c,z=.slice A 0 c:=by
     match vs,p2 with
     |[u],_=>
      have p1:z=u:=p1
      subst p1
      have hr:=p4 0 ⟨.slice el t',[]⟩ z rfl rfl
      generalize hd:(⟨.slice el t',[]⟩:Datum U)=d at hr
      cases hr with
      |nil=>exact ⟨_,_,rfl⟩
      |slice e2 t2 l2 _ _ _ _ h0=>
       cases hd
       simp at h0
      |_=>cases hd
    obtain ⟨A,c,rfl⟩:=hzf
    have hcs:[zc]=[V7 (.slice A 0 c)]:=hcs
    simp only [List.cons.injEq,and_true] at hcs
    rw [hcs] at c4
    exact aD4 c4
   ·cases c4
  have hchk:(Instr.checkKey es.isEmpty 10000 K kv).run E.P w=.ok () w:=aq1 c1 hkey _
  have hfind:=ba2 (P:=E.P) c1 hkey ([]:List (den U.T t')) (l:=l) (es:=es.toList) (by simpa using h3) (fun i x en hx hen=>by
   have hil:=(co9.1 hx).1
   have hin:ns[i]? =some ns[i]:=co6 (by omega)
   exact (h5 i x en _ hx (by simpa using hen) hin).1)
  have hval:∃ val,(Instr.lookup t (.map (some b)) kv false).run E.P w=.ok val w∧val.oneCell'=true∧((∃ i,midx kt l k=some i∧ns[i]? =some val)∨midx kt l k=none∧val=.slice none 0 0):=by
   rcases hfind with ⟨f1,f2,f3,f4⟩|⟨j,en,xx,f0,f1,f2,f3,f4,f5,f6⟩
   ·refine ⟨z,?_,by rw [hznil];rfl,.inr ⟨f2,hznil⟩⟩
    simp [Instr.lookup,run_underlying hu,MapKept.run_getObj_map h2,hchk,f1,hz]
   ·have hjl:=(co9.1 f1).1
    have hjn:ns[j]? =some ns[j]:=co6 (by omega)
    obtain ⟨_,_,q3⟩:=h5 j xx en _ f1 (by simpa using f0) hjn
    obtain ⟨r1,ys,r2,_⟩:=q3 (by rintro ⟨_,hh,_⟩;cases hh)
    refine ⟨en.val,?_,by rw [←r1];exact af7 r2,.inl ⟨j,f4,by rw [←r1];exact hjn⟩⟩
    simp [Instr.lookup,run_underlying hu,MapKept.run_getObj_map h2,hchk,f3]
  obtain ⟨val,v1,v2,v3⟩:=hval
  refine Does.pure (n:=n) R rfl (v:=val) ?_ (CsRel.one v2 ⟨_,hl,Nat.le_refl _,fun _=>⟨k,_,rfl,hN,?_⟩⟩)
  ·simp [execOp,hop,hx,hkv,v1]
  ·rcases v3 with ⟨i,h8,h9⟩|h8
   ·refine .inl ⟨i,h8,?_⟩
    rw [Nat.add_comm 1]
    simpa using h9
   ·exact .inr h8
theorem bG7 {kt:Ty} {el:TypeId} {t:Ty} {l l':List (den U.T kt×List (den U.T t))} {ver iv:Nat} {lv lv':Bool} {hole hole':Option (den U.T kt)} {root:Value} {ns ns':List Value} (c:DC U) (v:Value)
  (hv:DCRel (.maps kt el t l ver iv lv hole) (.tuple (root::ns).toArray) c v):DCRel (.maps kt el t l' ver (iv+1) lv' hole') (.tuple (root::ns').toArray) c v:=by
 cases c with
 |self v0=>
  refine ⟨hv.1,fun hh=>?_⟩
  obtain ⟨vs,h1,h2⟩:=hv.2 hh
  have:=G9 h1
  subst this
  exact ⟨_,rfl,by simpa using h2⟩
 |key v0 d=>exact ⟨Nat.le_succ_of_le hv.1,fun hh=>by have:=hv.1;omega⟩
 |elt=>exact hv
 |inn=>exact hv
 |iat=>exact hv
 |it=>exact hv
theorem aE1 (k:Ok F w β h) {id fid:Nat} (hf:look fid h=none) (hne:id≠fid) {kt:Ty} {el:TypeId} {t:Ty} {l:List (den U.T kt×List (den U.T t))} {ver iv:Nat} (hl:look id h=some (.dp (.maps kt el t l ver iv true none))) {key:den U.T kt}
  {v:Value} (hv:(∃ (i:Nat) (vs:Array Value),midx kt l key=some i∧β id=.tuple vs∧vs[1+i]? =some v)∨midx kt l key=none∧v=.slice none 0 0)
  {w':World} (hgrow:w.grownBy w' v.ownBlock) {v':Value} (hblk:v'.ownBlock=v.ownBlock∨v'.ownBlock=some w.heap.size) {zs:List Value} {l2:List (den U.T t)} (hown:Owns w' F.B el (szOf U t) v' l2.length zs) (hlm:l2.length≤most) (h1c:∀ u∈zs,u.oneCell'=true) (hel:Els w β h t l2 zs):
  ∃ β',β' fid=v'∧After F w β h w' β' (upds h [(id,.dp (.maps kt el t l ver (iv+1) true (some key))),(fid,.row el t l2 0 true)]):=by
 have hdr:DRel F.B w β h (.maps kt el t l ver iv true none) (β id):=k.obj id _ hl
 obtain ⟨b,es,clock,ns,hN',k1,k2,k3,k4,k5,k6,k7⟩:=hdr
 have hnu:D8 undef=none:=rfl
 have hvo':=R9 hown
 --the names that are left
 obtain ⟨ns2,hlen2,hat,hvo,hset,hvN⟩:∃ ns2:List Value,ns2.length=ns.length∧(∀ i:Nat,i<ns.length→(midx kt l key=some i∧ns2[i]? =some undef)∨(midx kt l key≠some i∧ns2[i]? =ns[i]?))∧D8 v=v.ownBlock∧
   (∀ (p:Nat) (n:Value) (b:Nat),ns2[p]? =some n→D8 n=some b→ns[p]? =some n∧D8 v≠some b)∧(∀ g,D8 v=some g→g≠b∧∃ p:Nat,ns[p]? =some v):=by
  rcases hv with ⟨i,vs,h1,h2,h3⟩|⟨h1,h2⟩
  ·rw [hN'] at h2
   have:=G9 h2
   subst this
   have hnp:ns[i]? =some v:=by
    rw [Nat.add_comm 1] at h3
    simpa using h3
   have hpos:=(co9.1 hnp).1
   have hxl:l[i]? =some l[i]:=co6 (by omega)
   have hel2:es[i]? =some es[i]:=cq1 (by omega)
   obtain ⟨_,_,q3⟩:=k5 i _ _ v hxl hel2 hnp
   obtain ⟨_,ys,y1,_⟩:=q3 (by rintro ⟨_,hh,_⟩;cases hh)
   refine ⟨ns.set i undef,by simp,fun j hj=>?_,R9 y1,fun p n' g hp hb=>?_,fun g hg=>⟨fun hh=>k7 i v hnp (by rw [hg,hh]),i,hnp⟩⟩
   ·by_cases hij:i=j
    ·subst hij
     exact .inl ⟨h1,by rw [cq9,if_pos rfl,if_pos hpos]⟩
    ·exact .inr ⟨fun hh=>hij (by rw [h1] at hh;simpa using hh),by rw [cq9,if_neg hij]⟩
   ·rw [cq9] at hp
    split at hp
    ·simp only [if_pos hpos,co4] at hp
     rw [←hp,hnu] at hb;cases hb
    ·rename_i hh
     exact ⟨hp,fun hh2=>hh (k6 i p v n' g hnp hp hh2 hb)⟩
  ·subst h2
   exact ⟨ns,rfl,fun i hi=>.inr ⟨by rw [h1];simp,rfl⟩,rfl,fun p n' g hp hb=>⟨hp,by simp [D8]⟩,fun g hg=>by simp [D8] at hg⟩
 let N2:Value:=.tuple ((.map (some b):Value)::ns2).toArray
 let β':Nm:=⟨fun q=>if q=id then N2 else if q=fid then v' else β q,β.M,β.lp⟩
 have hβid:β' id=N2:=by simp [β']
 have hβf:β' fid=v':=by simp [β',Ne.symm hne]
 have hN2:∀ g,Has N2 g→Has (β id) g∧D8 v≠some g:=by
  intro g hg
  rw [hN']
  rcases C3.1 hg with h3|⟨p,n',h3,h4⟩
  ·refine ⟨C3.2 (.inl h3),fun h5=>?_⟩
   simp only [D8,co4] at h3
   exact (hvN g h5).1 h3.symm
  ·obtain ⟨h5,h6⟩:=hset p n' g h3 h4
   exact ⟨C3.2 (.inr ⟨p,n',h5,h4⟩),h6⟩
 have hvNN:∀ g,D8 v=some g→Has (β id) g:=fun g hg=>by
  obtain ⟨_,p,hp⟩:=hvN g hg
  rw [hN']
  exact C3.2 (.inr ⟨p,v,hp,hg⟩)
 have hkeep:∀ g,g<w.heap.size→D8 v≠some g→w'.heap[g]? =w.heap[g]? :=fun g hg hn=>hgrow.block g hg (fun hh=>hn (by rw [hvo];exact hh.symm))
 have hf':∀ g,Has v' g→D8 v=some g∨g=w.heap.size:=by
  intro g hg
  have hg:=hown.has' hg
  rw [hvo'] at hg
  rcases hblk with h6|h6
  ·left;rw [hvo,←h6];exact hg
  ·right;rw [h6] at hg;simpa using hg.symm
 have hmem:∀ {q:Nat} {o:Ob U},(q,o)∈[(id,Ob.dp (.maps kt el t l ver (iv+1) true (some key))),(fid,Ob.row el t l2 0 true)]→(q=id∧o=.dp (.maps kt el t l ver (iv+1) true (some key)))∨(q=fid∧o=.row el t l2 0 true):=by
  intro q o hq
  simpa using hq
 refine ⟨β',hβf,Q5 k (by simpa using hne) ?_ hgrow.os hgrow.tape hgrow.output hgrow.size ?_ rfl ?_ rfl ?_ ?_ ?_ ?_ ?_⟩
 ·intro q o ob hq hlq
  rcases hmem hq with ⟨rfl,rfl⟩|⟨rfl,rfl⟩
  ·rw [hl] at hlq;simp only [co4] at hlq;subst hlq;rfl
  ·rw [hf] at hlq;cases hlq
 ·intro g hg hn
  exact hkeep g hg (fun hh=>hn id (.dp (.maps kt el t l ver (iv+1) true (some key))) _ (by simp) hl (hvNN g hh))
 ·intro q hq
  have h2:q≠id:=fun hh=>hq (.dp (.maps kt el t l ver (iv+1) true (some key))) (by simp [hh])
  have h3:q≠fid:=fun hh=>hq (.row el t l2 0 true) (by simp [hh])
  simp [β',h2,h3]
 ·intro q o g hq hg
  rcases hmem hq with ⟨rfl,rfl⟩|⟨rfl,rfl⟩
  ·rw [hβid] at hg
   exact .inl ⟨q,.dp (.maps kt el t l ver (iv+1) true (some key)),_,by simp,hl,(hN2 g hg).1⟩
  ·rw [hβf] at hg
   rcases hf' g hg with h3|h3
   ·exact .inl ⟨id,.dp (.maps kt el t l ver (iv+1) true (some key)),_,by simp,hl,hvNN g h3⟩
   ·right;omega
 ·intro q o q' o' g hq hq' hg hg'
  have no:∀ g,Has N2 g→Has v' g→False:=by
   intro g hg hg'
   obtain ⟨h2,h3⟩:=hN2 g hg
   rcases hf' g hg' with h4|h4
   ·exact h3 h4
   ·have:=((k.obj id _ hl).blk h2).2;omega
  rcases hmem hq with ⟨rfl,rfl⟩|⟨rfl,rfl⟩<;>rcases hmem hq' with ⟨rfl,rfl⟩|⟨rfl,rfl⟩
  ·rfl
  ·rw [hβid] at hg;rw [hβf] at hg';exact (no g hg hg').elim
  ·rw [hβf] at hg;rw [hβid] at hg';exact (no g hg' hg).elim
  ·rfl
 ·intro q o ob hq hlq
  rcases hmem hq with ⟨rfl,rfl⟩|⟨rfl,rfl⟩
  ·rw [hl] at hlq
   simp only [co4] at hlq
   subst hlq
   rw [hβid,hN']
   intro c v hv
   exact bG7 c v hv
  ·rw [hf] at hlq;cases hlq
 ·intro q o hq
  rcases hmem hq with ⟨rfl,rfl⟩|⟨rfl,rfl⟩<;>rfl
 ·intro xx q o hq
  rcases hmem hq with ⟨rfl,rfl⟩|⟨rfl,rfl⟩
  ·suffices kk:DRel F.B w' β' (upds h [(q,.dp (.maps kt el t l ver (iv+1) true (some key))),(fid,.row el t l2 0 true)]) (.maps kt el t l ver (iv+1) true (some key)) N2 by
    rw [←hβid] at kk
    exact kk
   refine ⟨b,es,clock,ns2,rfl,k1,?_,k3,by omega,fun i x en n' hx hen hn=>?_,fun p q a c g ha hc hab hcb=>?_,fun p a ha hab=>?_⟩
   ·rw [hkeep b (cq2.1 k2).1 (fun hh=>(hvN b hh).1 rfl)]
    exact k2
   ·have hil:=(co9.1 hx).1
    have hin:ns[i]? =some ns[i]:=co6 (by omega)
    obtain ⟨q1,_,q3⟩:=k5 i x en _ hx hen hin
    refine ⟨q1.by (fun d v r=>xx.rep r),?_,fun hh=>?_⟩
    ·rintro ⟨k',hk',hmi⟩
     simp only [co4] at hk'
     subst hk'
     rcases hat i (by omega) with ⟨_,h8⟩|⟨h8,_⟩
     ·rw [hn] at h8;simpa using h8
     ·exact absurd hmi h8
    ·rcases hat i (by omega) with ⟨h8,_⟩|⟨_,h8⟩
     ·exact absurd ⟨key,rfl,h8⟩ hh
     ·have hn0:=hn
      rw [h8,hin] at hn
      simp only [co4] at hn
      obtain ⟨r1,r2⟩:=q3 (by rintro ⟨_,hh,_⟩;cases hh)
      rw [hn] at r1 r2
      refine ⟨r1,r2.map (fun d v r=>xx.rep r) (fun g hg=>hkeep g ?_ (hset i n' g hn0 hg).2)⟩
      obtain ⟨zs,z1,_⟩:=r2
      exact (z1.lt hg).2
   ·exact k6 p q a c g (hset p a g ha hab).1 (hset q c g hc hcb).1 hab hcb
   ·exact k7 p a (hset p a b ha hab).1 hab
  ·exact ⟨zs,by rw [hβf];exact hown,hlm,h1c,Els.ext xx hel⟩
theorem Does.appendMs (hE:E.Fits) (R:Rel F n β s tmps w) {c:Call} {x y:Operand} (hop:o.op=.call c) (hc:c.callee=.builtin .append) (hx:c.args.toList=[x,y]) {ty el:TypeId} (hts2:c.argTypes=#[ty,ty]) (hu:E.P.underlying ty=some (.slice el)) {t:Ty} (hcd:E.code el=some t)
  {id v0:Nat} {dk:Datum U} {v:PV U} (r:PRel w β s.h s.σ (.one (.dc id (.key v0 dk))) (ρ x)) (q:PRel w β s.h s.σ v (ρ y)) {ids:List Nat} (he:ab3 E (sub s.h ids) o.dst el t id v0 dk v=some e)
  (hob:e.Obl) (hf:look (B5 o.dst 0) s.h=none):Does E.P F β s ρ w o e:=by
 obtain ⟨i,z,hi,hsz,hz,hzs,hpos,hby,hz1c,_⟩:=hE.code _ _ hcd
 have hbyT:O5 E.P el=i.bytes:=by simp [O5,Program.bytesOf,hi]
 have hargs:c.args.map ρ=#[ρ x,ρ y]:=by
  apply Array.toList_inj.1
  simp [hx]
 unfold ab3 at he
 split at he
 case h_2=>cases he
 rename_i cy
 split at he
 case h_2=>cases he
 rename_i dm u hd
 split at he
 case h_2=>cases he
 rename_i m hm
 have hdm:=Datum.as_eq hm
 subst hdm
 obtain ⟨hfz,_⟩:=K7 hd
 have A1:=I3 R.ok hfz
 have hrep:=am0 R.ok hd q.inv.2 hfz (fun _ hx=>hx)
 split at he
 case h_2=>cases he
 rename_i kt e' t' l ver iv hl
 split at he
 case h_2=>cases he
 rename_i key hkey
 have hkey:=Datum.as_eq hkey
 subst hkey
 revert he
 cases hcc:(Nat.beq v0 iv&&(el==e')) with
 |false=>intro he;cases he
 |true=>
  intro he
  simp only [cond_true] at he
  simp only [co7,beq_iff_eq] at hcc
  have hver:=co5 hcc.1
  split at he
  case h_2=>cases he
  rename_i l0 hl0
  have hl0:=Datum.as_eq hl0
  simp only [Sigma.mk.injEq,Ty.slice.injEq] at hl0
  obtain ⟨⟨_,rfl⟩,hl0⟩:=hl0
  have hl9:(mget (E7 U kt) l key).getD []=l0:=eq_of_heq hl0
  clear hl0
  obtain rfl:=hcc.2
  split at he
  case isFalse=>cases he
  rename_i hnot
  simp only [co7,Bool.not_eq_true'] at hnot
  have hne:id≠B5 o.dst 0:=fun hh=>by
   have:=hnot.2
   rw [hh,Nat.beq_refl] at this
   cases this
  simp only [co4] at he
  subst he
  have hl:=C1 hl
  have hnin:∀ ob,(id,ob)∉u:=fun ob hm=>by
   have:=cr4.1 hnot.1 _ hm
   simp at this
  have hl1:look id (upds s.h u)=some (.dp (.maps kt el t' l ver iv true none)):=by rw [B7 hnin];exact hl
  obtain ⟨D',hl',hv⟩:=r.inv.2
  rw [hl] at hl'
  simp only [co4,Ob.dp.injEq] at hl'
  subst hl'
  obtain ⟨k',vs,hk',hN,hat⟩:=hv.2 hver
  simp only [Sigma.mk.injEq,heq_eq_eq,true_and] at hk'
  subst hk'
  --the slice at the key
  have hrow:RowC F.B w (Live β (upds s.h u)) el t' l0 (ρ x):=by
   have ho:DRel F.B w β (upds s.h u) (.maps kt el t' l ver iv true none) (β id):=A1.obj id _ hl1
   obtain ⟨b,es,clock,ns,hN',k1,k2,k3,k4,k5,k6,k7⟩:=ho
   rcases hat with ⟨j,h1,h2⟩|⟨h1,h2⟩
   ·rw [hN'] at hN
    have:=G9 hN
    subst this
    have hnp:ns[j]? =some (ρ x):=by
     rw [Nat.add_comm 1] at h2
     simpa using h2
    have hpl:=(co9.1 hnp).1
    have hxl:l[j]? =some l[j]:=co6 (by omega)
    obtain ⟨_,_,q3⟩:=k5 j _ es[j] _ hxl (cq1 (by omega)) hnp
    have h3:=(q3 (by rintro ⟨_,hh,_⟩;cases hh)).2
    have:l0=l[j].2:=by
     rw [←hl9,bS3 h1 hxl];rfl
    rw [this]
    exact h3
   ·have:l0=[]:=by rw [←hl9,ba3 h1];rfl
    rw [this,h2]
    exact ⟨[],Owns.of (World.ownsRow_nil _ _ _ _),by simp [most],by simp,fun i y hy=>by simp at hy⟩
  obtain ⟨xs,hown,hmost,h1c,hel⟩:=hrow
  rw [hbyT] at hob
  obtain ⟨v',w',ys,hrun,hown',hgrow,hblk,hy1,hye⟩:=ai9 (P:=E.P) (ty:=o.type) (c:=t') hu hi hz hsz hzs hpos hby A1.hB hown hrep hob
  have hlen:(l0++m).length≤most:=by
   rw [cq5]
   exact Nat.le_trans (Nat.le_mul_of_pos_right _ hby) hob
  obtain ⟨β',hβf,A2⟩:=aE1 A1.ok (hfz.none hf) hne hl1 (key:=key) (v:=ρ x) (by
    rcases hat with ⟨j,h1,h2⟩|h1
    ·exact .inl ⟨j,vs,h1,hN,h2⟩
    ·exact .inr h1) hgrow hblk hown' hlen (fun u hu=>by
   rcases cr1.1 hu with h6|h6
   ·exact h1c u h6
   ·exact hy1 u h6) (ai8 hown.1 hel hye)
  refine ⟨v',w',β',.inl ?_,?_,?_⟩
  ·refine H6 hop hc ?_
   rw [hargs,hts2]
   simp [builtin,hrun]
  ·dsimp only
   rw [C9]
   exact A1.trans A2
  ·dsimp only
   rw [C9]
   exact af6 (by show look _ (write _ _ _)=_;exact B0 _ _ _) hβf (af7 hown') _
theorem bj0 (k:Ok F w β h) {id r:Nat} (hne:r≠id) {kt:Ty} {el:TypeId} {t:Ty} {l:List (den U.T kt×List (den U.T t))} {ver iv vr:Nat} {key:den U.T kt} (hl:look id h=some (.dp (.maps kt el t l ver iv true (some key)))) {l':List (den U.T t)} (hr:look r h=some (.row el t l' vr true))
  {b:Nat} {es:Array MapEntry} {clock:Nat} {ns:List Value} (hN':β id=.tuple ((.map (some b):Value)::ns).toArray) (hheap:w.heap[b]? =some (.map es clock)) {kv:Value} (hkv:VIs w (Live β h) kt key kv) {es':Array MapEntry} {clock':Nat} {l2:List (den U.T kt×List (den U.T t))}
  (hcase:(midx kt l key=none∧l2=l++[(key,l')]∧es'=es.push { key:=kv,val:=β r,born:=clock }∧clock'=clock+1)∨
   ∃ j,midx kt l key=some j∧j<l.length∧l2=l.set j (key,l')∧es'=es.modify j (fun e=>{ e with key:=kv,val:=β r })∧clock'=clock):
  ∃ β',After F w β h { w with heap:=w.heap.setIfInBounds b (.map es' clock') } β' (upds h [(r,.row el t [] (vr+1) true),(id,.dp (.maps kt el t l2 ver (iv+1) true none))]):=by
 have hdr:DRel F.B w β h (.maps kt el t l ver iv true (some key)) (β id):=k.obj id _ hl
 have hrow:RowC F.B w (Live β h) el t l' (β r):=k.obj r _ hr
 obtain ⟨b2,es2,clock2,ns2,hN2',k1,k2,⟨k3,k3c,k3b⟩,k4,k5,k6,k7⟩:=hdr
 rw [hN'] at hN2'
 have h9:=congrArg Array.toList (G9 hN2')
 simp only [List.cons.injEq,Value.map.injEq,co4] at h9
 obtain ⟨h9a,h9b⟩:=h9
 subst b2
 subst ns2
 rw [hheap] at k2
 simp only [co4,Obj.map.injEq] at k2
 obtain ⟨k2a,k2b⟩:=k2
 subst es2
 subst clock2
 have hnu:D8 undef=none:=rfl
 have hvblk:∀ g,D8 (β r)=some g→Has (β r) g:=by
  obtain ⟨ys,y1,_⟩:=hrow
  exact fun g hg=>y1.has hg
 have hvN:∀ g,Has (β r) g→¬ Has (β id) g:=fun g hg hg2=>hne (k.dis r _ id _ g hr hl hg hg2)
 have hbl:b<w.heap.size:=(cq2.1 hheap).1
 have hother:∀ g,g≠b→({ w with heap:=w.heap.setIfInBounds b (.map es' clock') }:World).heap[g]? =w.heap[g]? :=fun g hg=>by simp [Ne.symm hg]
 --the parts,as they are then
 obtain ⟨ns3,hn3,hparts,hl2,hes',hck,hborn⟩:∃ ns3:List Value,ns3.length=l2.length∧
   (∀ (i:Nat) (x:den U.T kt×List (den U.T t)) (en:MapEntry) (n:Value),l2[i]? =some x→es'[i]? =some en→ns3[i]? =some n→(x=(key,l')∧en.key=kv∧en.val=β r∧n=β r∧∀ m,ns[i]? =some m→D8 m=none)∨(l[i]? =some x∧es[i]? =some en∧ns[i]? =some n∧midx kt l key≠some i))∧
   (∀ (i:Nat) (n:Value),ns3[i]? =some n→(n=β r∧∀ i2 n2,ns3[i2]? =some n2→i2=i∨ns[i2]? =some n2)∨ns[i]? =some n)∧es'.size=l2.length∧clock'=es'.size∧∀ (i:Nat) (e:MapEntry),es'[i]? =some e→e.born=i:=by
  rcases hcase with ⟨h1,rfl,rfl,rfl⟩|⟨j,h1,hj,rfl,rfl,rfl⟩
  ·refine ⟨ns++[β r],by simp [k4],fun i x en n hx hen hn=>?_,fun i n hn=>?_,by simp [k3],by simp [k3c],fun i e he=>?_⟩
   ·rcases Nat.lt_trichotomy i l.length with hi|hi|hi
    ·rw [cq4 hi] at hx
     rw [cq4 (by omega)] at hn
     rw [Array.getElem?_push,if_neg (by omega)] at hen
     exact .inr ⟨hx,hen,hn,by rw [h1];simp⟩
    ·subst hi
     rw [cq3 (by omega),Nat.sub_self] at hx
     rw [cq3 (by omega),k4,Nat.sub_self] at hn
     rw [Array.getElem?_push,if_pos (by omega)] at hen
     simp only [cp2,co4] at hx hn hen
     subst hx;subst hn;subst hen
     exact .inl ⟨rfl,rfl,rfl,rfl,fun m hm=>by rw [List.getElem?_eq_none (by omega)] at hm;cases hm⟩
    ·rw [List.getElem?_eq_none (by simp;omega)] at hx
     cases hx
   ·by_cases hi:i<ns.length
    ·rw [cq4 hi] at hn
     exact .inr hn
    ·have hi2:i<(ns++[β r]).length:=(co9.1 hn).1
     have hi3:i=ns.length:=by simp at hi2;omega
     subst hi3
     rw [cq3 (by omega),Nat.sub_self] at hn
     simp only [cp2,co4] at hn
     refine .inl ⟨hn.symm,fun i2 n2 h2=>?_⟩
     have hi4:i2<(ns++[β r]).length:=(co9.1 h2).1
     by_cases h5:i2<ns.length
     ·rw [cq4 h5] at h2
      exact .inr h2
     ·simp at hi4;exact .inl (by omega)
   ·rw [Array.getElem?_push] at he
    split at he
    ·rename_i hi
     simp only [co4] at he
     subst he
     rw [hi];exact k3c
    ·exact k3b i e he
  ·have hjn:j<ns.length:=by omega
   have hjl:l[j]? =some l[j]:=co6 hj
   refine ⟨ns.set j (β r),by simp [k4],fun i x en n hx hen hn=>?_,fun i n hn=>?_,by simp [k3],by simpa using k3c,fun i e he=>?_⟩
   ·rw [cq9] at hx hn
    rw [Array.getElem?_modify] at hen
    by_cases hij:j=i
    ·subst hij
     simp only [if_pos,if_pos hj,if_pos hjn,co4] at hx hn
     subst hx;subst hn
     rw [if_pos rfl] at hen
     simp only [cp1] at hen
     obtain ⟨e0,he0,rfl⟩:=hen
     refine .inl ⟨rfl,rfl,rfl,rfl,fun m hm=>?_⟩
     rw [(k5 j _ e0 m hjl he0 hm).2.1 ⟨key,rfl,h1⟩]
     exact hnu
    ·rw [if_neg hij] at hx hn hen
     exact .inr ⟨hx,hen,hn,by rw [h1];simpa using hij⟩
   ·rw [cq9] at hn
    split at hn
    ·rename_i hij
     subst hij
     simp only [co4] at hn
     refine .inl ⟨hn.symm,fun i2 n2 h2=>?_⟩
     rw [cq9] at h2
     split at h2
     ·rename_i h3;exact .inl h3.symm
     ·exact .inr h2
    ·exact .inr hn
   ·rw [Array.getElem?_modify] at he
    split at he
    ·simp only [cp1] at he
     obtain ⟨e0,he0,rfl⟩:=he
     exact k3b i e0 he0
    ·exact k3b i e he
 let N2:Value:=.tuple ((.map (some b):Value)::ns3).toArray
 let β':Nm:=⟨fun q=>if q=id then N2 else if q=r then .slice none 0 0 else β q,β.M,β.lp⟩
 have hβid:β' id=N2:=by simp [β']
 have hβr:β' r=.slice none 0 0:=by simp [β',hne]
 have hmem:∀ {q:Nat} {o:Ob U},(q,o)∈[(r,Ob.row el t [] (vr+1) true),(id,Ob.dp (.maps kt el t l2 ver (iv+1) true none))]→(q=r∧o=.row el t [] (vr+1) true)∨(q=id∧o=.dp (.maps kt el t l2 ver (iv+1) true none)):=by
  intro q o hq
  simpa using hq
 have hNb:Has (β id) b:=by rw [hN'];exact C3.2 (.inl rfl)
 refine ⟨β',Q5 k (by simpa using hne) ?_ rfl rfl rfl (by simp) ?_ rfl ?_ rfl ?_ ?_ ?_ ?_ ?_⟩
 ·intro q o ob hq hlq
  rcases hmem hq with ⟨rfl,rfl⟩|⟨rfl,rfl⟩
  ·rw [hr] at hlq;simp only [co4] at hlq;subst hlq;rfl
  ·rw [hl] at hlq;simp only [co4] at hlq;subst hlq;rfl
 ·intro g hg hn
  exact hother g (fun hh=>hn id (.dp (.maps kt el t l2 ver (iv+1) true none)) _ (by simp) hl (by rw [hh];exact hNb))
 ·intro q hq
  have h2:q≠id:=fun hh=>hq (.dp (.maps kt el t l2 ver (iv+1) true none)) (by simp [hh])
  have h3:q≠r:=fun hh=>hq (.row el t [] (vr+1) true) (by simp [hh])
  simp [β',h2,h3]
 ·intro q o g hq hg
  rcases hmem hq with ⟨rfl,rfl⟩|⟨rfl,rfl⟩
  ·rw [hβr] at hg
   exact (W2 hg).elim
  ·rw [hβid] at hg
   left
   rcases C3.1 hg with h3|⟨p,n',h3,h4⟩
   ·exact ⟨q,.dp (.maps kt el t l2 ver (iv+1) true none),_,by simp,hl,by rw [hN'];exact C3.2 (.inl h3)⟩
   ·rcases hl2 p n' h3 with ⟨rfl,_⟩|h5
    ·exact ⟨r,.row el t [] (vr+1) true,_,by simp,hr,hvblk g h4⟩
    ·exact ⟨q,.dp (.maps kt el t l2 ver (iv+1) true none),_,by simp,hl,by rw [hN'];exact C3.2 (.inr ⟨p,n',h5,h4⟩)⟩
 ·intro q o q' o' g hq hq' hg hg'
  rcases hmem hq with ⟨rfl,rfl⟩|⟨rfl,rfl⟩<;>rcases hmem hq' with ⟨rfl,rfl⟩|⟨rfl,rfl⟩
  ·rfl
  ·rw [hβr] at hg;exact (W2 hg).elim
  ·rw [hβr] at hg';exact (W2 hg').elim
  ·rfl
 ·intro q o ob hq hlq
  rcases hmem hq with ⟨rfl,rfl⟩|⟨rfl,rfl⟩
  ·rw [hr] at hlq
   simp only [co4] at hlq
   subst hlq
   exact ⟨rfl,rfl,by omega,fun hh2=>by omega⟩
  ·rw [hl] at hlq
   simp only [co4] at hlq
   subst hlq
   rw [hβid,hN']
   intro c v hv
   exact bG7 c v hv
 ·intro q o hq
  rcases hmem hq with ⟨rfl,rfl⟩|⟨rfl,rfl⟩<;>rfl
 ·intro xx q o hq
  rcases hmem hq with ⟨rfl,rfl⟩|⟨rfl,rfl⟩
  ·exact ⟨[],by rw [hβr];exact Owns.of (World.ownsRow_nil _ _ _ _),by simp [most],by simp,fun i y hy=>by simp at hy⟩
  ·suffices kk:DRel F.B { w with heap:=w.heap.setIfInBounds b (.map es' clock') } β' (upds h [(r,.row el t [] (vr+1) true),(q,.dp (.maps kt el t l2 ver (iv+1) true none))]) (.maps kt el t l2 ver (iv+1) true none) N2 by
    rw [←hβid] at kk
    exact kk
   have hvb:∀ g,D8 (β r)=some g→g≠b:=fun g hg hh=>hvN g (hvblk g hg) (by rw [hh];exact hNb)
   refine ⟨b,es',clock',ns3,rfl,k1,by simp [hbl],⟨hes',hck,hborn⟩,hn3,fun i x en n' hx hen hn=>?_,fun p q2 a c g ha hc hab hcb=>?_,fun p a ha hab=>?_⟩
   ·rcases hparts i x en n' hx hen hn with ⟨rfl,h1,h2,rfl,_⟩|⟨h1,h2,h3,h4⟩
    ·refine ⟨?_,(by rintro ⟨_,hh,_⟩;cases hh),fun _=>⟨h2.symm,hrow.map (fun d v r=>xx.rep r) (fun g hg=>hother g (hvb g hg))⟩⟩
     rw [h1]
     exact hkv.by (fun d v r=>xx.rep r)
    ·obtain ⟨q1,q2,q3⟩:=k5 i x en n' h1 h2 h3
     refine ⟨q1.by (fun d v r=>xx.rep r),(by rintro ⟨_,hh,_⟩;cases hh),fun _=>?_⟩
     obtain ⟨r1,r2⟩:=q3 (by
      rintro ⟨k',hk',hm⟩
      simp only [co4] at hk'
      subst hk'
      exact h4 hm)
     exact ⟨r1,r2.map (fun d v r=>xx.rep r) (fun g hg=>hother g (fun hh=>k7 i n' h3 (by rw [hg,hh])))⟩
   ·rcases hl2 p a ha with ⟨rfl,h1⟩|h1
    ·rcases h1 q2 c hc with h2|h2
     ·exact h2.symm
     ·exact (hvN g (hvblk g hab) (by rw [hN'];exact C3.2 (.inr ⟨q2,c,h2,hcb⟩))).elim
    ·rcases hl2 q2 c hc with ⟨rfl,h2⟩|h2
     ·exact (hvN g (hvblk g hcb) (by rw [hN'];exact C3.2 (.inr ⟨p,a,h1,hab⟩))).elim
     ·exact k6 p q2 a c g h1 h2 hab hcb
   ·rcases hl2 p a ha with ⟨rfl,_⟩|h1
    ·exact hvb b hab rfl
    ·exact k7 p a h1 hab
theorem Does.putMs (hE:E.Fits) (R:Rel F n β s tmps w) {t:TypeId} {x y z:Operand} (hop:o.op=.mapUpdate t x y z) {id v0:Nat} {v p:PV U} (r:PRel w β s.h s.σ (.one (.dc id (.self v0))) (ρ x)) (q:PRel w β s.h s.σ v (ρ y)) (rz:PRel w β s.h s.σ p (ρ z))
  {ids:List Nat} (he:az3 E (sub s.h ids) t id v0 v p=some e) (hob:e.Obl):Does E.P F β s ρ w o e:=by
 unfold az3 at he
 split at he
 case h_2=>cases he
 rename_i kt el t' l ver iv k' rid vr hl
 split at he
 case h_2=>cases he
 rename_i e2 t2 l2 vr' hr
 split at he
 case h_2=>cases he
 rename_i K V hu
 revert he
 cases hcc:(Nat.beq v0 ver&&L8 U E.P K kt&&(Nat.beq vr vr'&&!(Nat.beq rid id))) with
 |false=>intro he;cases he
 |true=>
  intro he
  simp only [cond_true] at he
  simp only [co7,Bool.not_eq_true'] at hcc
  obtain ⟨⟨hver,c1⟩,hvr,hne⟩:=hcc
  have hver:=co5 hver
  have hvr:=co5 hvr
  have hne:rid≠id:=fun hh=>by
   rw [hh,Nat.beq_refl] at hne
   cases hne
  split at he
  case h_2=>cases he
  rename_i k l2' hk hl2'
  have hl2':=Datum.as_eq hl2'
  cases hl2'
  simp only [co4] at he
  subst he
  have hob:k'=k:=hob
  subst hob
  have hkey:=aq2 hk q
  generalize hkv:ρ y=kv at hkey
  have hl:=C1 hl
  have hr:=C1 hr
  have hobj:=R.obj id _ hl
  obtain ⟨D',hD,hv⟩:=r.inv.2
  rw [hl] at hD
  simp only [co4,Ob.dp.injEq] at hD
  subst hD
  obtain ⟨b,es,clock,ns,hN,h1,h2,⟨h3,h3c,h3b⟩,h4,h5,h6,h7⟩:=hobj
  have hx:=bi9 hN hv hver
  have hz:ρ z=β rid:=by
   obtain ⟨_,_,_,_,_,hl3,_,hvv⟩:=rz.inv.2
   rw [hr] at hl3
   simp only [co4,Ob.row.injEq] at hl3
   exact hvv (hvr.trans hl3.2.2.2.1)
  have hchk:(Instr.checkKey false 10000 K kv).run E.P w=.ok () w:=aq1 c1 hkey _
  have hfind:=ba2 (P:=E.P) c1 hkey l2' (l:=l) (es:=es.toList) (by simpa using h3) (fun i x en hx hen=>by
   have hil:=(co9.1 hx).1
   have hin:ns[i]? =some ns[i]:=co6 (by omega)
   exact (h5 i x en _ hx (by simpa using hen) hin).1)
  obtain ⟨es',clock',hrun,hcase⟩:∃ es' clock',(Instr.mapUpdate t (.map (some b)) kv (β rid)).run E.P w=.ok () { w with heap:=w.heap.setIfInBounds b (.map es' clock') }∧
    ((midx kt l k'=none∧mput (E7 U kt) l k' l2'=l++[(k',l2')]∧es'=es.push { key:=kv,val:=β rid,born:=clock }∧clock'=clock+1)∨
   ∃ j,midx kt l k'=some j∧j<l.length∧mput (E7 U kt) l k' l2'=l.set j (k',l2')∧es'=es.modify j (fun e=>{ e with key:=kv,val:=β rid })∧clock'=clock):=by
   rcases hfind with ⟨f1,f2,f3,f4⟩|⟨j,en,xx,f0,f1,f2,f3,f4,f5,f6⟩
   ·refine ⟨_,_,?_,.inl ⟨f2,f4,rfl,rfl⟩⟩
    simp [Instr.mapUpdate,run_underlying hu,MapKept.run_getObj_map h2,hchk,f1,MapKept.run_setObj_map _ h2]
   ·have hjl:=(co9.1 f1).1
    refine ⟨_,_,?_,.inr ⟨j,f4,hjl,f6,rfl,rfl⟩⟩
    have hjn:ns[j]? =some ns[j]:=co6 (by omega)
    have hekey:=br5 (P:=E.P) c1 hkey (h5 j xx en _ f1 (by simpa using f0) hjn).1 f2
    have hje:j<es.size:=by omega
    have hes:es[j]=en:=by
     have:es[j]? =some en:=by simpa using f0
     rw [cq1 hje] at this
     simpa using this
    have hst:=ba1 (P:=E.P) (w:=w) c1 hkey
    simp [Instr.mapUpdate,run_underlying hu,MapKept.run_getObj_map h2,hchk,f3,cq1 hje,hes,hekey,hst,MapKept.run_setObj_map _ h2]
  obtain ⟨β',A⟩:=bj0 R.ok hne hl hr hN h2 hkey hcase
  refine ⟨undef,_,β',.inr ⟨?_,rfl⟩,A,trivial⟩
  simp [execOp,hop,hx,hkv,hz,hrun]
end
end Go.VT
end
section
namespace Go.VT
noncomputable section
open Go.RowKit
variable {U:Univ} {E:Env U} {F:Fr} {n:Nat} {β:Nm} {s:St U} {a:Act} {w:World} {o:Oper} {e:Eff U} {h:Obs U}
def Then (F:Fr) (w:World) (β:Nm) (s:St U) (e:Eff U) (a:Act) (o:Oper) (K:Act→World→Prop):Prop:=
 ∀ v w' β',After F w β s.h w' β' (upds s.h e.upd)→PRel w' β' (upds s.h e.upd) s.σ e.val v→K (a.put o.dst v) w'
theorem aE2 {ro:Option Nat} {P:Program} {f:FuncId} {args:Array Value} {w:World} {R:Ending→World→Prop} (h:CallsIn (fen P none) 0 P f args w R):CallsIn (fen P ro) 0 P f args w R:=h
theorem af8 {P:Program} {ro:Option Nat} {q:Prop}:(fen P ro).depth.isSome=true→q:=fun h=>by cases h
def ae0 (P:Program) (w:World) (a:Act) (o:Oper):Prop:=∀ f,o.about P w a.eval=some f→(P.funcs[f]?).isSome=true
theorem J4 {P:Program} (h:∀ c,o.op=.call c→∃ b,c.callee=.builtin b):ae0 P w a o:=by
 intro f hf
 unfold Oper.about at hf
 split at hf
 ·rename_i c hop
  obtain ⟨b,hb⟩:=h c hop
  simp [resolve,hb,Target.leads] at hf
 ·cases hf
theorem at4 {ro:Option Nat} {P:Program} {K:Act→World→Prop} {Q:Exit→Act→World→Prop} (hab:ae0 P w a o) (hnd:∀ c,o.op≠.defer c) (h:o.uponIn (fen P ro) 0 P a K Q ((execOp a.eval o).run P w)):o.wpIn (fen P ro) 0 P a w K Q:=by
 refine ⟨hab,?_⟩
 rw [Oper.semAt_eq _ _ _ hnd]
 exact h
theorem Does.wp' {ro:Option Nat} {P:Program} (d:Does P F β s a.eval w o e) (hab:ae0 P w a o) (hnd:∀ c,o.op≠.defer c) {K:Act→World→Prop} {Q:Exit→Act→World→Prop} (hK:Then F w β s e a o K):o.wpIn (fen P ro) 0 P a w K Q:=by
 obtain ⟨v,w',β',hr,A,p⟩:=d
 refine at4 hab hnd ?_
 rcases hr with hr|⟨hr,rfl⟩
 ·rw [hr];exact hK v w' β' A p
 ·rw [hr];exact hK _ w' β' A p
theorem aq3 {β:Nm} {σ:List (Nat×PV U)} {f:Operand→PV U} {ρ:Operand→Value} (hr:∀ x,PRel w β h σ (f x) (ρ x)) (ps:List (Nat×Operand)):
  ap5 w β h σ ((ps.map (·.1)).zip ((ps.map (·.2)).map f)) (ps.map fun x=>(x.1,ρ x.2)):=by
 refine ⟨by simp,fun j p q hp hq=>?_⟩
 simp only [cp9,cp1] at hq
 obtain ⟨x,hx,rfl⟩:=hq
 have:((ps.map (·.1)).zip ((ps.map (·.2)).map f))[j]? =some (x.1,f x.2):=by
  rw [List.getElem?_zip_eq_some]
  simp [hx]
 rw [this] at hp
 simp only [co4] at hp
 subst hp
 exact ⟨rfl,hr _⟩
theorem ck1 {ro:Option Nat} (hE:E.Fits) (hFG:F.G=E.G) (R:Rel F n β s a.tmps w) {path:List (Nat×Bool)} (hc:CondG s.σ path)
  (he:act E (sub s.h (((J3 o.op).map (fun x=>I0 path (ev s.σ x))).flatMap idsP)) o ((J3 o.op).map (fun x=>I0 path (ev s.σ x)))=some e) (hob:e.Obl)
  (hnew:∀ id∈S6 E o ((J3 o.op).map (fun x=>I0 path (ev s.σ x))),look id s.h=none∧id<1000000) {K:Act→World→Prop} {Q:Exit→Act→World→Prop} (hK:Then F w β s e a o K):o.wpIn (fen E.P ro) 0 E.P a w K Q:=by
 have hnd:∀ c,o.op≠.defer c:=fun c hc=>by simp [act,hc] at he
 have hab:ae0 E.P w a o:=J4 fun c hc=>by
  cases hcal:c.callee with
  |builtin b=>exact ⟨b,rfl⟩
  |value x=>simp [act,hc,hcal] at he
  |invoke x m=>simp [act,hc,hcal] at he
 have hr:∀ x,PRel w β s.h s.σ (I0 path (ev s.σ x)) (a.eval x):=fun x=>W1 hc (U3 R x)
 have hρ:∀ v,a.eval (.const v)=v:=fun _=>rfl
 generalize hids:((J3 o.op).map (fun x=>I0 path (ev s.σ x))).flatMap idsP=ids at he
 cases hop:o.op with
 |move x=>
  simp only [act,hop,J3,List.map,co4] at he
  subst he
  exact (Does.move R (.inl hop) (hr x)).wp' hab hnd hK
 |assign x=>
  simp only [act,hop,J3,List.map,co4] at he
  subst he
  exact (Does.move R (.inr hop) (hr x)).wp' hab hnd hK
 |alloc t=>
  simp only [act,hop,J3,List.map] at he
  split at he
  ·rename_i cs hz
   simp only [co4] at he
   subst he
   exact (Does.alloc R hop hz (hnew _ (by simp [S6,hop])).1 (hnew _ (by simp [S6,hop])).2).wp' hab hnd hK
  ·cases he
 |box t x=>
  simp only [act,hop,J3,List.map] at he
  split at he
  ·rename_i cs hz
   simp only [co4] at he
   subst he
   exact (Does.box R hop (hr x) hz (hnew _ (by simp [S6,hop])).1 (hnew _ (by simp [S6,hop])).2).wp' hab hnd hK
  ·cases he
 |build t ps=>
  simp only [act,hop,J3] at he
  exact (Does.build R hop (aq3 hr ps.toList) he).wp' hab hnd hK
 |buildSlice t len ps=>
  simp only [act,hop,J3] at he
  split at he
  ·split at he
   ·rename_i e' m hdp
    exact (Does.buildDp hE R hop (aq3 hr ps.toList) hdp he (hnew _ (by simp [S6,hop])).1).wp' hab hnd hK
   ·exact (Does.buildSlice hE R hop (aq3 hr ps.toList) he (hnew _ (by simp [S6,hop])).1).wp' hab hnd hK
  ·exact (Does.buildData hE R hop (aq3 hr ps.toList) he).wp' hab hnd hK
 |load t x=>
  simp only [act,hop,J3,List.map] at he
  exact (Does.load hFG R hop (hr x) he hob).wp' hab hnd hK
 |store t x y=>
  simp only [act,hop,J3,List.map] at he
  exact (Does.store R hop (hr x) (hr y) he hob).wp' hab hnd hK
 |nilCheck x=>
  simp only [act,hop,J3,List.map] at he
  have hx:=hr x
  split at he
  ·rename_i id off heq
   simp only [co4] at he
   subst he
   simp only [List.cons.injEq,and_true] at heq
   rw [heq] at hx
   exact (Does.nilCheck R hop (.inl ⟨_,_,rfl⟩) hx).wp' hab hnd hK
  ·rename_i cs off heq
   simp only [co4] at he
   subst he
   simp only [List.cons.injEq,and_true] at heq
   rw [heq] at hx
   exact (Does.nilCheck R hop (.inr (.inl ⟨_,_,rfl⟩)) hx).wp' hab hnd hK
  ·rename_i id ver i off heq
   simp only [List.cons.injEq,and_true] at heq
   split at he
   ·rename_i e' t' l' ver' lv' hl
    split at he
    ·rename_i hb
     have hb:=co5 hb
     subst hb
     simp only [co4] at he
     subst he
     rw [heq] at hx
     exact (Does.nilCheck R hop (.inr (.inr ⟨_,_,_,_,rfl,_,_,_,_,C1 hl⟩)) hx).wp' hab hnd hK
    ·cases he
   ·cases he
  ·rename_i id c heq
   simp only [List.cons.injEq,and_true] at heq
   split at he
   case h_2=>cases he
   rename_i D hl
   simp only [cp1] at he
   obtain ⟨c',ha,rfl⟩:=he
   rw [heq] at hx
   exact (Does.nilCheckDp R hop (C1 hl) ha hx).wp' hab hnd hK
  ·cases he
 |binOp op t x y t'=>
  simp only [act,hop,J3,List.map] at he
  exact (Does.bin R hop (hr x) (hr y) he hob).wp' hab hnd hK
 |unOp op t x=>
  simp only [act,hop,J3,List.map] at he
  exact (Does.un R hop (hr x) he).wp' hab hnd hK
 |convert t t' x=>
  simp only [act,hop,J3,List.map] at he
  split at he
  ·rename_i d hd
   exact (Does.conv R hop (hr x) he ⟨_,hd⟩).wp' hab hnd hK
  ·cases he
 |fieldAddr t x f=>
  simp only [act,hop,J3,List.map] at he
  exact (Does.fieldAddr R hop (hr x) he).wp' hab hnd hK
 |field t x f=>
  simp only [act,hop,J3,List.map] at he
  exact (Does.field R hop (hr x) he).wp' hab hnd hK
 |indexAddr t x y=>
  simp only [act,hop,J3,List.map] at he
  exact (Does.indexAddr R hop (hr x) (hr y) he hob).wp' hab hnd hK
 |extract x i=>
  simp only [act,hop,J3,List.map] at he
  exact (Does.extract R hop (hr x) he).wp' hab hnd hK
 |slice t x lo hi mx=>
  cases mx with
  |none=>
   simp only [act,hop,J3,Option.toList_none,List.append_nil] at he
   refine (Does.slice hE R hop (vs:=(x::(lo.toList++hi.toList)).map (fun x=>I0 path (ev s.σ x))) (by simp) (fun j p y hp hy=>?_) he hob).wp' hab hnd hK
   simp only [cp9,hy,Option.map_some,co4] at hp
   subst hp
   exact hr y
  |some mx=>
   cases lo with
   |some lo=>simp [act,hop] at he
   |none=>
    cases hi with
    |none=>simp [act,hop] at he
    |some hi=>
     simp only [act,hop,J3,Option.isNone_none,Option.isSome_some,Bool.and_self,cond_true] at he
     refine (Does.slice3 hE R hop (vs:=[x,hi,mx].map (fun x=>I0 path (ev s.σ x))) (by simp) (fun j p y hp hy=>?_) he hob).wp' hab hnd hK
     simp only [cp9,hy,Option.map_some,co4] at hp
     subst hp
     exact hr y
 |makeSlice t x y=>
  simp only [act,hop,J3,List.map] at he
  cases hs:aB4 x y with
  |false=>rw [hs] at he;cases he
  |true=>
   rw [hs] at he
   simp only [cond_true] at he
   split at he
   ·rename_i e' m hdp
    exact (Does.makeDp hE R hρ hop hs (hr x) hdp he hob (hnew _ (by simp [S6,hop])).1).wp' hab hnd hK
   ·exact (Does.make hE R hρ hop hs (hr x) he hob (hnew _ (by simp [S6,hop])).1).wp' hab hnd hK
 |call c=>
  cases hcal:c.callee with
  |value fo=>simp [act,hop,hcal] at he
  |invoke x m=>simp [act,hop,hcal] at he
  |builtin b=>
   simp only [act,hop,J3,hcal] at he hnew
   generalize hargs:c.args.toList=xs at he hnew
   cases b with
   |len=>
    simp only at he
    match xs,hargs,he with
    |[x],hargs,he=>
     simp only [List.map] at he
     match hts:c.argTypes.toList,he with
     |t::ts,he=>
      simp only at he
      split at he
      ·rename_i el hu
       exact (Does.len R hop hcal hargs hts hu (hr x) he).wp' hab hnd hK
      ·rename_i kk vv hu
       exact (Does.lenM R hop hcal hargs hts hu (hr x) he).wp' hab hnd hK
      ·cases he
     |[],he=>simp at he
    |[],_,he=>simp at he
    |_::_::_,_,he=>simp at he
   |min=>
    simp only at he
    match xs,hargs,he with
    |[x,y],hargs,he=>exact (Does.min R hop hcal hargs (hr x) (hr y) he).wp' hab hnd hK
    |[],_,he=>simp at he
    |[_],_,he=>simp at he
    |_::_::_::_,_,he=>simp at he
   |max=>
    simp only at he
    match xs,hargs,he with
    |[x,y],hargs,he=>exact (Does.max R hop hcal hargs (hr x) (hr y) he).wp' hab hnd hK
    |[x,y,z],hargs,he=>exact (Does.max3 R hop hcal hargs (hr x) (hr y) (hr z) he).wp' hab hnd hK
    |[],_,he=>simp at he
    |[_],_,he=>simp at he
    |_::_::_::_::_,_,he=>simp at he
   |copy=>
    simp only at he
    match xs,hargs,he with
    |[x,y],hargs,he=>
     simp only [List.map] at he
     match hts:c.argTypes.toList,he with
     |[st,st2],he=>
      simp only at he
      split at he
      ·rename_i el hu
       split at he
       ·rename_i t hcd
        exact (bG6 hE R hop hcal hargs hts hu hcd (hr x) (hr y) he).wp' hab hnd hK
       ·cases he
      ·cases he
     |[],he=>simp at he
     |[_],he=>simp at he
     |_::_::_::_,he=>simp at he
    |[],_,he=>simp at he
    |[_],_,he=>simp at he
    |_::_::_::_,_,he=>simp at he
   |append=>
    simp only at he
    match xs,hargs,he,hnew with
    |[x,y],hargs,he,hnew=>
     simp only [List.map] at he
     match hts:c.argTypes.toList,he with
     |[st,st2],he=>
      simp only at he
      cases hb:Nat.beq st st2 with
      |false=>rw [hb] at he;cases he
      |true=>
       rw [hb] at he
       have hb:=co5 hb
       subst hb
       simp only [cond_true] at he
       split at he
       ·rename_i el hu
        split at he
        ·rename_i t hcd
         split at he
         ·rename_i id v0 heq
          have hx:=hr x
          rw [heq] at hx
          exact (Does.appendDp hE R hop hcal hargs (by apply Array.toList_inj.1;exact hts) hu hcd hx (hr y) he hob).wp' hab hnd hK
         ·rename_i id v0 d heq
          have hx:=hr x
          rw [heq] at hx
          exact (Does.appendMs hE R hop hcal hargs (by apply Array.toList_inj.1;exact hts) hu hcd hx (hr y) he hob (hnew _ (by simp [S6,hop,hcal,List.map,heq])).1).wp' hab hnd hK
         ·refine (Does.append hE R hop hcal hargs hts (by apply Array.toList_inj.1;exact hts) hu hcd (hr x) (hr y) he hob ?_).wp' hab hnd hK
          by_cases hp:∃ p,I0 path (ev s.σ x)=.one (.lit p)
          ·obtain ⟨p,hp⟩:=hp
           left
           exact (hnew _ (by simp [S6,hop,hcal,List.map,hp])).1
          ·by_cases hq:∃ id v i j,I0 path (ev s.σ x)=.one (.dc id (.inn v i j))
           ·obtain ⟨id,v,i,j,hq⟩:=hq
            left
            exact (hnew _ (by simp [S6,hop,hcal,List.map,hq])).1
           ·right
            exact ⟨fun p hp'=>hp ⟨p,hp'⟩,fun id v i j hq'=>hq ⟨id,v,i,j,hq'⟩⟩
        ·cases he
       ·cases he
     |[],he=>simp at he
     |[_],he=>simp at he
     |_::_::_::_,he=>simp at he
    |[],_,he,_=>simp at he
    |[_],_,he,_=>simp at he
    |_::_::_::_,_,he,_=>simp at he
   |_=>simp at he
 |makeMap t r=>
  cases r with
  |some _=>simp [act,hop] at he
  |none=>
   simp only [act,hop] at he
   exact (Does.makeMap R hop he (hnew _ (by simp [S6,hop])).1 (hnew _ (by simp [S6,hop])).2).wp' hab hnd hK
 |lookup t x y ok=>
  simp only [act,hop,J3,List.map] at he
  split at he
  ·rename_i id v0 heq
   split at he
   ·cases he
   ·rename_i hok
    have hok:ok=false:=by simpa using hok
    subst hok
    have hx:=hr x
    rw [heq] at hx
    exact (Does.lookupMs hE R hop hx (hr y) he).wp' hab hnd hK
  ·exact (Does.lookup hE R hop (hr x) (hr y) he).wp' hab hnd hK
 |mapUpdate t x y z=>
  simp only [act,hop,J3,List.map] at he
  split at he
  ·rename_i id v0 heq
   have hx:=hr x
   rw [heq] at hx
   exact (Does.putMs hE R hop hx (hr y) (hr z) he hob).wp' hab hnd hK
  ·exact (Does.mapPut hE R hop (hr x) (hr y) (hr z) he).wp' hab hnd hK
 |makeInterface t x=>
  simp only [act,hop,J3,List.map] at he
  exact (Does.iface R hop (hr x) he).wp' hab hnd hK
 |makeFunc f first cap=>
  simp only [act,hop,J3] at he
  cases hs:Nat.beq first.size 0 with
  |false=>
   rw [hs] at he
   simp only [cond_false] at he
   split at he
   case h_2=>cases he
   rename_i f0 hcs heq
   simp only [co4] at he
   subst he
   exact (Does.bnd R hop hcs heq hr).wp' hab hnd hK
  |true=>
   rw [hs] at he
   simp only [cond_true] at he
   have hf0:=Array.eq_empty_of_size_eq_zero (co5 hs)
   refine (Does.func R hop (co5 hs) (vs:=cap.toList.map (fun x=>I0 path (ev s.σ x))) (by simp) (fun j p y hp hy=>?_) (by rw [hf0] at he;simpa using he)).wp' hab hnd hK
   simp only [cp9,hy,Option.map_some,co4] at hp
   subst hp
   exact hr y
 |range t x=>
  simp only [act,hop,J3,List.map] at he
  exact (Does.range R hop (hr x) he (hnew _ (by simp [S6,hop])).1).wp' hab hnd hK
 |entry x=>
  simp only [act,hop,J3,List.map] at he
  exact (Does.entry R hop (hr x) he hob).wp' hab hnd hK
 |_=>simp [act,hop] at he
theorem bj1 {h:Obs U} {ids:List Nat} {vs:List (PV U)} (he:act E (sub h ids) o vs=some e) (hn:∀ x∈e.upd,x.2.live=false):Freezes h e.upd:=by
  have none_:∀ {u:Obs U},u=[]→Freezes h u:=fun hu id ob hm=>by rw [hu] at hm;simp at hm
  have last:∀ {u:Obs U} {id:Nat} {ob:Ob U},ob.live=true→(∀ x∈u++[(id,ob)],x.2.live=false)→False:=fun hl hh=>by
    have:=hh _ (cr1.2 (.inr (cp5.2 rfl)))
    simp [hl] at this
  have mapE:∀ {α:Type} {f:α→Eff U} {x:Option α},(∀ a,(f a).upd=[])→x.map f=some e→Freezes h e.upd:=by
    intro α f x hf hx
    simp only [cp1] at hx
    obtain ⟨a,_,rfl⟩:=hx
    exact none_ (hf a)
  have fin:∀ {p:Option Prop} {v:PV U},some (⟨p,v,[]⟩:Eff U)=some e→Freezes h e.upd:=fun hh=>by
    simp only [co4] at hh;subst hh;exact none_ rfl
  have fin1:∀ {p:Option Prop} {v:PV U} {u:Obs U} {id:Nat} {ob:Ob U},ob.live=true→some (⟨p,v,u++[(id,ob)]⟩:Eff U)=some e→Freezes h e.upd:=fun hl hh=>by
    simp only [co4] at hh;subst hh;exact (last hl hn).elim
  have fin2:∀ {p:Option Prop} {v:PV U} {id:Nat} {ob:Ob U},ob.live=true→some (⟨p,v,[(id,ob)]⟩:Eff U)=some e→Freezes h e.upd:=fun hl hh=>by
    simp only [co4] at hh;subst hh;exact (last (u:=[]) hl hn).elim
  have mapE2:∀ {α:Type} {f:α→Eff U} {x:Option α},x.map f=some e→(∀ a,(f a).upd=[])→Freezes h e.upd:=fun hx hf=>mapE hf hx
  have exl:∀ {x:Nat×Ob U},x∈e.upd→x.2.live=true→Freezes h e.upd:=fun hx hl=>by
    have:=hn _ hx
    rw [hl] at this
    cases this
  have fin3:∀ {p:Option Prop} {v:PV U} {u:Obs U} {x:Nat×Ob U},x∈u→x.2.live=true→some (⟨p,v,u⟩:Eff U)=some e→Freezes h e.upd:=fun hx hl hh=>by
    simp only [co4] at hh;subst hh;exact exl hx hl
  have putl:∀ {id:Nat} {D:Deep U} {c:DC U} {vs:List (Cell U)} {p:Option Prop} {u:Obs U},D.put (sub h ids) id c vs=some (p,u)→∃ x∈u,x.2.live=true:=by
    intro id D c vs p u hp
    have lastl:∀ {u:Obs U} {id:Nat} {ob:Ob U},ob.live=true→∃ x∈u++[(id,ob)],x.2.live=true:=fun hl=>⟨_,cr1.2 (.inr (cp5.2 rfl)),hl⟩
    have pe:∀ {e t m l ver iv i off vs p u},aX8 (U:=U) (sub h ids) id e t m l ver iv i off vs=some (p,u)→∃ x∈u,x.2.live=true:=by
      intro e t m l ver iv i off vs p u hp
      unfold aX8 at hp
      repeat' split at hp
      all_goals first
        | (simp only [co4,cp6] at hp;obtain ⟨_,rfl⟩:=hp;exact lastl rfl)
        | (cases hp;done)
    have pi:∀ {e t m l ver iv hole i off c p u},aX9 (U:=U) (sub h ids) id e t m l ver iv hole i off c=some (p,u)→∃ x∈u,x.2.live=true:=by
      intro e t m l ver iv hole i off c p u hp
      unfold aX9 at hp
      repeat' split at hp
      all_goals first
        | (simp only [co4,cp6] at hp;obtain ⟨_,rfl⟩:=hp;exact lastl rfl)
        | (cases hp;done)
    have pa:∀ {e t m l ver iv i j k off vs p u},aY0 (U:=U) (sub h ids) id e t m l ver iv i j k off vs=some (p,u)→∃ x∈u,x.2.live=true:=by
      intro e t m l ver iv i j k off vs p u hp
      unfold aY0 at hp
      repeat' split at hp
      all_goals first
        | (simp only [co4,cp6] at hp;obtain ⟨_,rfl⟩:=hp;exact lastl rfl)
        | (cases hp;done)
    unfold Deep.put at hp
    repeat' split at hp
    all_goals first
      | exact pe hp
      | exact pi hp
      | exact pa hp
      | (cases hp;done)
  unfold act at he
  repeat' split at he
  all_goals first
    | exact fin he
    | exact fin2 rfl he
    | exact mapE2 he (fun _=>rfl)
    | (cases he;done)
    | (unfold ay9 at he;repeat' split at he)<;>first|exact fin he|(cases he;done)
    | (unfold U4 at he;repeat' split at he)<;>first|exact fin1 rfl he|(cases he;done)
    | (unfold X2 at he;repeat' split at he)<;>first|(rename T6 _ _ _ _=some _=>hch;simp only [co4] at he;subst he;exact ak8 hch)|(cases he;done)
    | (unfold aQ1 at he;repeat' split at he)<;>first|exact mapE (fun _=>rfl) he|exact fin he|(cases he;done)
    | (unfold bo9 at he;repeat' split at he)<;>first|exact fin he|(cases he;done)
    | (unfold bQ6 at he;repeat' split at he)<;>first|exact fin he|(cases he;done)
    | (unfold aQ2 at he;repeat' split at he)<;>first|exact fin he|(cases he;done)
    | (unfold X3 at he;repeat' split at he)<;>first|exact fin he|exact mapE2 he (fun _=>rfl)|(cases he;done)
    | (unfold ai0 at he;repeat' split at he)<;>first|(refine fin3 (cr1.2 (.inr (cr1.2 (.inr (cp5.2 rfl))))) rfl he)|(cases he;done)
    | (unfold az4 at he;repeat' split at he)<;>first|exact fin2 rfl he|(cases he;done)
    | (unfold az5 at he;repeat' split at he)<;>first|exact fin he|(cases he;done)
    | exact mapE2 he (fun _=>rfl)
    | (unfold az1 at he;repeat' split at he)<;>first|exact mapE (fun _=>rfl) he|(cases he;done)
    | (unfold X4 at he;repeat' split at he)<;>first|exact fin he|(cases he;done)
    | (unfold ah9 at he;repeat' split at he)<;>first|exact mapE (fun _=>rfl) he|(cases he;done)
    | (unfold bp0 at he;repeat' split at he)<;>first|exact fin he|(cases he;done)
    | (unfold aQ3 at he;repeat' split at he)<;>first|exact fin he|(cases he;done)
    | (unfold bp1 at he;repeat' split at he)<;>first|exact fin he|(cases he;done)
    | (unfold bp2 at he;repeat' split at he)<;>first|exact fin he|(cases he;done)
    | (unfold aQ4 at he;repeat' split at he)<;>first|exact fin he|(cases he;done)
    | skip
  all_goals try simp only [cp7] at he
  all_goals repeat' split at he
  all_goals first
    | exact fin he
    | exact fin2 rfl he
    | exact mapE2 he (fun _=>rfl)
    | (cases he;done)
    | (unfold az0 at he
       repeat' split at he
       all_goals first
         | exact fin2 rfl he
         | (cases he;done)
         | (rename Deep.put _ _ _ _ _=some _=>hput
            obtain ⟨x,hx,hl⟩:=putl hput
            exact fin3 hx hl he)
         | (refine fin1 ?_ he
            rename (_&&_&&_)=true=>hcond
            simp only [co7] at hcond
            exact hcond.1.2))
    | (unfold az2 at he
       repeat' split at he
       all_goals first
         | (cases he;done)
         | (simp only [co4] at he
            subst he
            exact (K7 (by assumption)).1))
    | (unfold ao4 at he
       repeat' split at he
       all_goals first
         | (cases he;done)
         | exact fin2 rfl he
         | (simp only [co4] at he
            subst he
            exact (K7 (by assumption)).1))
    | (unfold aQ6 at he
       repeat' split at he
       all_goals first
         | exact fin2 rfl he
         | (cases he;done))
    | (unfold ao5 at he
       repeat' split at he
       all_goals first
         | exact fin2 rfl he
         | (cases he;done))
    | (unfold ai1 at he
       simp only [cp7] at he
       repeat' split at he
       all_goals first
         | exact fin2 rfl he
         | (cases he;done))
    | (unfold ao6 at he
       simp only [cp7] at he
       repeat' split at he
       all_goals first
         | exact fin he
         | (cases he;done))
    | (unfold ao7 at he
       simp only [cp7] at he
       repeat' split at he
       all_goals first
         | exact fin1 rfl he
         | (cases he;done))
    | (unfold aQ8 at he
       repeat' split at he
       all_goals first
         | exact fin he
         | (cases he;done))
    | (unfold az6 at he
       repeat' split at he
       all_goals first
         | exact mapE (fun _=>rfl) he
         | (cases he;done))
    | (unfold aQ5 at he
       repeat' split at he
       all_goals first
         | exact fin1 rfl he
         | (cases he;done))
    | (unfold ab1 at he
       repeat' split at he
       all_goals first
         | exact fin3 (List.mem_cons_self ..) rfl he
         | (cases he;done))
    | (unfold ab2 at he
       simp only [cp7] at he
       repeat' split at he
       all_goals first
         | exact fin he
         | (cases he;done))
    | (unfold az3 at he
       simp only [cp7] at he
       repeat' split at he
       all_goals first
         | exact fin3 (List.mem_cons_self ..) rfl he
         | (cases he;done))
    | (unfold ab3 at he
       simp only [cp7] at he
       repeat' split at he
       all_goals first
         | exact fin3 (cr1.2 (.inr (List.mem_cons_self ..))) rfl he
         | (cases he;done))
    | (unfold ao3 at he
       repeat' split at he
       all_goals first
         | exact fin1 rfl he
         | exact fin3 (cr1.2 (.inr (List.mem_cons_self ..))) rfl he
         | (cases he;done))
theorem CondG.append {σ:List (Nat×PV U)} {p q:List (Nat×Bool)} (hp:CondG σ p) (hq:CondG σ q):CondG σ (p++q):=fun g hg=>by
 rcases cr1.1 hg with h1|h1
 ·exact hp g h1
 ·exact hq g h1
theorem ba4 {σ:List (Nat×PV U)}:∀ {path:List (Nat×Bool)} {p:Prop},hyps σ path p→CondG σ path→p
 |[],p,h,_=>h
 |(j,wt)::r,p,h,hc=>by
  have hj:=hc (j,wt) (by simp)
  simp only at hj
  simp only [hyps,hj] at h
  exact ba4 (h trivial) (fun g hg=>hc g (by simp [hg]))
theorem bw3 {σ:List (Nat×PV U)} {path:List (Nat×Bool)} {t:Nat} {c:Bool} (hs:I0 path (ev σ (.tmp t))=.one (.d ⟨.bool,c⟩)):O1 σ t=some c:=by
 simp only [ev] at hs
 cases hl:look t σ with
 |none=>rw [hl] at hs;simp [I0] at hs
 |some p=>
  rw [hl] at hs
  simp only [Option.getD_some] at hs
  unfold O1
  rw [hl]
  cases p with
  |opt gs q=>
   simp only [I0] at hs
   split at hs
   ·rw [hs]
   ·simp at hs
  |un=>simp [I0] at hs
  |one c'=>simp only [I0,PV.one.injEq] at hs;rw [hs]
  |agg _=>simp [I0] at hs
  |tup _=>simp [I0] at hs
theorem bG8 {σ:List (Nat×PV U)} {c:Bool} {x y:Operand} {p q v:PV U} (hp:bQ9 c x y p q=some v) {ρ:Operand→Value} (hρ:∀ v,ρ (.const v)=v) (h1:c=true→PRel w β h σ p (ρ x)) (h2:c=false→PRel w β h σ q (ρ y)):
  v.plain=true∧PRel w β h σ v (if c=true then ρ x else ρ y):=by
 unfold bQ9 at hp
 split at hp
 case h_2=>cases hp
 rename_i bx by_
 have hx:c=true→ρ x=.bool bx:=fun hc=>(h1 hc).bool
 have hy:c=false→ρ y=.bool by_:=fun hc=>(h2 hc).bool
 split at hp
 ·simp only [co4] at hp
  subst hp
  refine ⟨rfl,?_⟩
  cases c with
  |true=>
   rw [if_pos rfl,hρ]
   exact PRel.mkBool true
  |false=>
   rw [if_neg (by simp),hy rfl]
   exact PRel.mkBool by_
 ·simp only [co4] at hp
  subst hp
  refine ⟨rfl,?_⟩
  cases c with
  |true=>
   rw [if_pos rfl,hx rfl]
   exact PRel.mkBool bx
  |false=>
   rw [if_neg (by simp),hρ]
   exact PRel.mkBool false
 ·simp only [co4] at hp
  subst hp
  refine ⟨rfl,?_⟩
  cases c with
  |true=>
   rw [if_pos rfl,hx rfl]
   exact PRel.mkBool bx
  |false=>
   rw [if_neg (by simp),hy rfl]
   exact PRel.mkBool by_
theorem aE3 {path:List (Nat×Bool)} {v:Val U} (hv:af0 E s o path=some v):v.e.val.plain=true:=by
 unfold af0 at hv
 dsimp only at hv
 split at hv
 ·rename_i e' he
  simp only [cp7] at hv
  split at hv
  ·rename_i hc
   simp only [co7] at hc
   simp only [co4] at hv
   rw [←hv]
   exact hc.1
  ·cases hv
 ·cases hv
theorem P1 {vs:List (PV U)} {ks:List (Con U)} {v:Val U} (hv:H5 E s o vs ks=some v):v.e.val.plain=true:=by
 unfold H5 at hv
 dsimp only at hv
 split at hv
 ·rename_i c hcc
  simp only [cp7] at hv
  split at hv
  ·rename_i hc
   simp only [co7] at hc
   simp only [co4] at hv
   rw [←hv]
   exact hc.1
  ·cases hv
 ·cases hv
theorem ba5 {path:List (Nat×Bool)} {v:Val U} (hv:al6 E s o path=some v):v.e.val.plain=true:=by
 unfold al6 at hv
 split at hv
 ·split at hv
  ·split at hv
   ·rename_i v hp
    simp only [co4] at hv
    subst hv
    unfold bQ9 at hp
    split at hp
    ·split at hp<;>(simp only [co4] at hp;subst hp;rfl)
    ·cases hp
   ·cases hv
  ·cases hv
 ·split at hv
  ·simp only [cp7] at hv
   split at hv
   ·simp only [co4] at hv
    subst hv
    rfl
   ·cases hv
  ·cases hv
 ·split at hv
  ·split at hv
   ·exact P1 hv
   ·exact P1 hv
   ·exact P1 hv
   ·split at hv
    ·exact P1 hv
    ·cases hv
  ·split at hv
   ·exact P1 hv
   ·cases hv
  ·exact aE3 hv
 ·exact aE3 hv
def bw4 (F:Fr) (w:World) (β:Nm) (h:Obs U) (v:Val U) (a:Act) (Q:Exit→Act→World→Prop):Prop:=
 ∀ b,v.pan=some b→b.1=true→∀ u w',ap8 b.2 u→Below F.B w w'→(∀ blk,blk<w.heap.size→(∀ id∈keys v.e.upd++v.lost,∀ o,look id h=some o→o.live=true→¬ Has (β id) blk)→w'.heap[blk]? =w.heap[blk]?)→Q (.panic [{ v:=u,recovered:=false }]) a w'
theorem M9 {g:Obs U} {yl:List (Nat×Nat)} {dst:Option Tmp} {vs:List (PV U)}:∀ {ks:List (Con U)} {c:CallE U},ae9 g yl dst vs ks=some c→∃ k∈ks,ae8 g yl dst k vs=some c
 |[],c,h=>by simp [ae9] at h
 |k::r,c,h=>by
  simp only [ae9] at h
  split at h
  ·rename_i e he
   simp only [co4] at h
   subst h
   exact ⟨k,by simp,he⟩
  ·obtain ⟨k',h1,h2⟩:=M9 h
   exact ⟨k',by simp [h1],h2⟩
theorem at5 {σ:List (Nat×PV U)} {p:PV U} {f:FuncId} {ids:List Nat} (hc:ao9 p=some (f,ids)) {v:Value} (r:PRel w β h σ p v):
  ∃ bs:List Nat,v=.func (.func f) #[] (bs.map fun b=>Value.pointer (some ⟨b,0,none⟩)).toArray∧bs.length=ids.length∧∀ (j id b:Nat),ids[j]? =some id→bs[j]? =some b→∃ e cs,look id h=some (.box e cs)∧β id=.pointer (some ⟨b,0,none⟩):=by
 unfold ao9 at hc
 split at hc
 ·rename_i f' a b
  simp only [cp7] at hc
  split at hc
  ·rename_i hh
   simp only [co7] at hh
   simp only [co4,cp6] at hc
   obtain ⟨rfl,rfl⟩:=hc
   have h1:=Array.eq_empty_of_size_eq_zero (co5 hh.1)
   have h2:=Array.eq_empty_of_size_eq_zero (co5 hh.2)
   subst h1;subst h2
   exact ⟨[],r.inv.2,rfl,fun j id b h=>by simp at h⟩
  ·cases hc
 ·simp only [co4,cp6] at hc
  obtain ⟨rfl,rfl⟩:=hc
  exact r.inv.2
 ·cases hc
theorem ac6 {Y:Fr} {C:Runs} (hmono:C.Mono) (hY:P0 Y F E.yl) (R:Rel F n β s a.tmps w) {ps:List (PV U)} {us:List Value} {ks:List (Con U)} (hks:∀ k∈ks,GivesC Y C F.G k)
  {v:Val U} (hv:H5 E s o ps ks=some v) (hob:v.e.Obl) (hl:us.length=ps.length) (r:∀ (j:Nat) (p:PV U) (u:Value),ps[j]? =some p→us[j]? =some u→PRel w β s.h s.σ p u)
  {K:Act→World→Prop} {Q:Exit→Act→World→Prop} (hK:(∀ b,v.pan=some b→b.1=false)→Then F w β s v.e a o K) (hP:bw4 F w β s.h v a Q):
  C us w fun e w'=>match e with
   | .returned u=>K (a.put o.dst u) w'
   | .panicked ch=>Q (.panic ch) a w'
   | .outgrown=>False:=by
 unfold H5 at hv
 dsimp only at hv
 split at hv
 case h_2=>cases hv
 rename_i ce hce
 simp only [cp7] at hv
 split at hv
 case isFalse=>cases hv
 rename_i hcond
 simp only [co7] at hcond
 simp only [co4] at hv
 subst hv
 obtain ⟨k,hk,hact⟩:=M9 hce
 have hcalls:=aD3 (σ:=s.σ) hmono ((hks k hk).calls hY) R.ok (fun _ _=>C1) hact hob (fun id hid=>by
   have:=cr4.1 hcond.2 id hid
   simp only [co7,Option.isNone_iff_eq_none] at this
   exact ⟨this.1,cq7 this.2⟩) hl r
 refine hmono _ _ _ _ hcalls (fun en w' hen=>?_)
 cases en with
 |returned u=>
  obtain ⟨h1,β',A,p⟩:=hen
  exact hK h1 u w' β' A p
 |panicked ch=>
  obtain ⟨b,u,h1,h2,rfl,h4,h5,h6⟩:=hen
  exact hP b h1 h2 u w' h4 h5 h6
 |outgrown=>exact hen.elim
theorem aq4 {R:Rel F n β s a.tmps w} {path:List (Nat×Bool)} (hc:CondG s.σ path) {l:List Operand} {j:Nat} {p:PV U} {u:Value} (hp:(l.map (fun x=>I0 path (ev s.σ x)))[j]? =some p) (hu:(l.map a.eval)[j]? =some u):PRel w β s.h s.σ p u:=by
 simp only [cp9,cp1] at hp hu
 obtain ⟨y,hy,rfl⟩:=hp
 obtain ⟨y',hy',rfl⟩:=hu
 rw [hy] at hy'
 simp only [co4] at hy'
 subst hy'
 exact W1 hc (U3 R y)
theorem aL9 {q:PV U→Value→Prop} {ps ps':List (PV U)} {us us':List Value} (hl:us.length=ps.length) (h1:∀ (j:Nat) p u,ps[j]? =some p→us[j]? =some u→q p u) (h2:∀ (j:Nat) p u,ps'[j]? =some p→us'[j]? =some u→q p u):
  ∀ (j:Nat) p u,(ps++ps')[j]? =some p→(us++us')[j]? =some u→q p u:=by
 intro j p u hp hu
 by_cases hj:j<ps.length
 ·rw [cq4 hj] at hp
  rw [cq4 (by omega)] at hu
  exact h1 j p u hp hu
 ·rw [cq3 (by omega)] at hp
  rw [cq3 (by omega),hl] at hu
  exact h2 _ p u hp hu
theorem aM0 {Y:Fr} {ro:Option Nat} (hY:P0 Y F E.yl) (hFG:F.G=E.G) (R:Rel F n β s a.tmps w) {c:Call} {x:Operand} (hop:o.op=.call c) (hcal:c.callee=.value x) {path:List (Nat×Bool)} (hc:CondG s.σ path) {f:FuncId} {ids:List Nat} {ks:List (Con U)} (hks:∀ k∈ks,ad9 Y E.P E.G f k)
  (hf:∃ bs:List Nat,a.eval x=.func (.func f) #[] (bs.map fun b=>Value.pointer (some ⟨b,0,none⟩)).toArray∧bs.length=ids.length∧∀ (j id b:Nat),ids[j]? =some id→bs[j]? =some b→∃ e cs,look id s.h=some (.box e cs)∧β id=.pointer (some ⟨b,0,none⟩))
  {v:Val U} (hv:H5 E s o (c.args.toList.map (fun x=>I0 path (ev s.σ x))++ids.map (fun id=>.one (.ptr id 0))) ks=some v) (hob:v.e.Obl)
  {K:Act→World→Prop} {Q:Exit→Act→World→Prop} (hK:(∀ b,v.pan=some b→b.1=false)→Then F w β s v.e a o K) (hP:bw4 F w β s.h v a Q):o.wpIn (fen E.P ro) 0 E.P a w K Q:=by
 obtain ⟨bs,hfv,hbl,hbr⟩:=hf
 have hne:∃ k,k∈ks:=by
  unfold H5 at hv
  dsimp only at hv
  split at hv
  ·rename_i ce hce
   obtain ⟨k,hk,_⟩:=M9 hce
   exact ⟨k,hk⟩
  ·cases hv
 obtain ⟨k,hk⟩:=hne
 have hent:=(hks k hk).1
 have hcalls:=ac6 (C:=runF E.P f) (us:=c.args.toList.map a.eval++bs.map (fun b=>Value.pointer (some ⟨b,0,none⟩))) aD0 hY R (fun k hk=>hFG▸(hks k hk).2) hv hob (by simp [hbl]) (aL9 (by simp) (fun j p u hp hu=>aq4 (R:=R) hc hp hu) (fun j p u hp hu=>by
   simp only [cp9,cp1] at hp hu
   obtain ⟨id,hid,rfl⟩:=hp
   obtain ⟨b,hb,rfl⟩:=hu
   obtain ⟨e',cs',q1,q2⟩:=hbr _ id b hid hb
   exact CsRel.one rfl ⟨e',cs',b,q1,q2,rfl⟩)) hK hP
 have hab:ae0 E.P w a o:=by
  intro f' hf'
  simp only [Oper.about,hop,resolve,hcal,hfv,Deferred.ofValue,Sem.run_pure,Target.leads,co4] at hf'
  obtain ⟨fn,h1,_⟩:=hent
  rw [←hf',h1]
  rfl
 refine at4 hab (fun c' hc'=>by rw [hop] at hc';cases hc') ?_
 have hrun:(execOp a.eval o).run E.P w=.ok (.enter f (c.args.toList.map a.eval++bs.map (fun b=>Value.pointer (some ⟨b,0,none⟩))).toArray) w:=by
  have h1:=hent.run (c.args.map a.eval++(bs.map fun b=>Value.pointer (some ⟨b,0,none⟩)).toArray) w
  have h2:(c.args.toList.map a.eval++bs.map (fun b=>Value.pointer (some ⟨b,0,none⟩))).toArray=c.args.map a.eval++(bs.map fun b=>Value.pointer (some ⟨b,0,none⟩)).toArray:=by
   apply Array.toList_inj.1
   simp
  rw [h2,←h1]
  simp [execOp,hop,resolve,hcal,hfv,Deferred.ofValue,invoke]
 rw [hrun]
 refine ⟨af8,(aE2 hcalls).mono (fun en w' hen=>?_)⟩
 cases en with
 |returned u=>exact hen
 |panicked ch=>exact hen
 |outgrown=>exact hen.elim
theorem Y1 {ps:List (PV U)} {ks:List (Con U)} {v:Val U} (hv:H5 E s o ps ks=some v):∃ k,k∈ks:=by
 unfold H5 at hv
 dsimp only at hv
 split at hv
 ·rename_i ce hce
  obtain ⟨k,hk,_⟩:=M9 hce
  exact ⟨k,hk⟩
 ·cases hv
theorem bj2 {Y:Fr} {ro:Option Nat} (hY:P0 Y F E.yl) (hFG:F.G=E.G) (R:Rel F n β s a.tmps w) {c:Call} {x:Operand} (hop:o.op=.call c) (hcal:c.callee=.value x) {path:List (Nat×Bool)} (hc:CondG s.σ path) {f:FuncId} {id:Nat} {ks:List (Con U)} (hks:∀ k∈ks,ad9 Y E.P E.G f k)
  (hx:PRel w β s.h s.σ (.one (.bnd f id)) (a.eval x))
  {v:Val U} (hv:H5 E s o (.one (.ptr id 0)::c.args.toList.map (fun x=>I0 path (ev s.σ x))) ks=some v) (hob:v.e.Obl)
  {K:Act→World→Prop} {Q:Exit→Act→World→Prop} (hK:(∀ b,v.pan=some b→b.1=false)→Then F w β s v.e a o K) (hP:bw4 F w β s.h v a Q):o.wpIn (fen E.P ro) 0 E.P a w K Q:=by
 obtain ⟨e1,cs1,b1,q1,q2,hfv⟩:=hx.inv.2
 obtain ⟨k,hk⟩:=Y1 hv
 have hent:=(hks k hk).1
 have hcalls:=ac6 (C:=runF E.P f) (us:=.pointer (some ⟨b1,0,none⟩)::c.args.toList.map a.eval) aD0 hY R (fun k hk=>hFG▸(hks k hk).2) hv hob (by simp) (fun j p u hp hu=>by
   cases j with
   |zero=>
    simp only [cp2,co4] at hp hu
    subst hp;subst hu
    exact CsRel.one rfl ⟨e1,cs1,b1,q1,q2,rfl⟩
   |succ j=>exact aq4 (R:=R) hc (by rw [List.getElem?_cons_succ] at hp;exact hp) (by rw [List.getElem?_cons_succ] at hu;exact hu)) hK hP
 have hab:ae0 E.P w a o:=by
  intro f' hf'
  simp only [Oper.about,hop,resolve,hcal,hfv,Deferred.ofValue,Sem.run_pure,Target.leads,co4] at hf'
  obtain ⟨fn,h1,_⟩:=hent
  rw [←hf',h1]
  rfl
 refine at4 hab (fun c' hc'=>by rw [hop] at hc';cases hc') ?_
 have hrun:(execOp a.eval o).run E.P w=.ok (.enter f (Value.pointer (some ⟨b1,0,none⟩)::c.args.toList.map a.eval).toArray) w:=by
  have h1:=hent.run (#[Value.pointer (some ⟨b1,0,none⟩)]++c.args.map a.eval) w
  have h2:(Value.pointer (some ⟨b1,0,none⟩)::c.args.toList.map a.eval).toArray=#[Value.pointer (some ⟨b1,0,none⟩)]++c.args.map a.eval:=by
   apply Array.toList_inj.1
   simp
  rw [h2,←h1]
  simp [execOp,hop,resolve,hcal,hfv,Deferred.ofValue,invoke]
 rw [hrun]
 refine ⟨af8,(aE2 hcalls).mono (fun en w' hen=>?_)⟩
 cases en with
 |returned u=>exact hen
 |panicked ch=>exact hen
 |outgrown=>exact hen.elim
theorem bj3 {Y:Fr} {ro:Option Nat} (hY:P0 Y F E.yl) (hFG:F.G=E.G) (R:Rel F n β s a.tmps w) {c:Call} {x:Operand} (hop:o.op=.call c) (hcal:c.callee=.value x) {path:List (Nat×Bool)} (hc:CondG s.σ path) {id:Nat} {ks:List (Con U)} (hks:∀ k∈ks,GivesC Y (runY E.P) E.G k)
  (hx:PRel w β s.h s.σ (.one (.yld id)) (a.eval x))
  {v:Val U} (hv:H5 E s o (c.args.toList.map (fun x=>I0 path (ev s.σ x))++[.one (.yld id)]) ks=some v) (hob:v.e.Obl)
  {K:Act→World→Prop} {Q:Exit→Act→World→Prop} (hK:(∀ b,v.pan=some b→b.1=false)→Then F w β s v.e a o K) (hP:bw4 F w β s.h v a Q):o.wpIn (fen E.P ro) 0 E.P a w K Q:=by
 have hcalls:=ac6 (C:=runY E.P) (us:=c.args.toList.map a.eval++[a.eval x]) bF9 hY R (fun k hk=>hFG▸hks k hk) hv hob (by simp) (aL9 (by simp) (fun j p u hp hu=>aq4 (R:=R) hc hp hu) (fun j p u hp hu=>by
   match j,hp,hu with
   |0,hp,hu=>
    simp only [cp2,co4] at hp hu
    subst hp;subst hu
    exact hx
   |j+1,hp,hu=>simp at hp)) hK hP
 obtain ⟨as,b,r,h1,h2,h3,h4⟩:=hcalls
 obtain ⟨h5,h6⟩:=List.append_inj' h1 rfl
 simp only [List.cons.injEq,and_true] at h6
 have hab:ae0 E.P w a o:=by
  intro f' hf'
  simp [Oper.about,hop,resolve,hcal,h6,Deferred.ofValue,Target.leads] at hf'
 refine at4 hab (fun c' hc'=>by rw [hop] at hc';cases hc') ?_
 have hargs:c.args.map a.eval=as.toArray:=by
  rw [←h5]
  apply Array.toList_inj.1
  simp
 have hsz:c.args.size=r.params.size:=by rw [←h3,←h5];simp
 have hrun:(execOp a.eval o).run E.P w=.ok (.round b r.fn ((r.params.zip as.toArray).foldl (fun tmps (t,a)=>tmps.setIfInBounds t a) r.tmps) r.assign r.body) w:=by
  rw [←run_yield (P:=E.P) (args:=as.toArray) h2 (by simpa using h3)]
  simp [execOp,hop,resolve,hcal,h6,Deferred.ofValue,invoke,hargs]
 rw [hrun]
 refine ⟨af8,RoundIn.mono (h4 ro) (fun en w' hen=>?_)⟩
 cases en with
 |returned u=>exact hen
 |panicked ch=>exact hen
 |outgrown=>exact hen.elim
theorem ba6 {Y:Fr} {ro:Option Nat} (hY:P0 Y F E.yl) (hFG:F.G=E.G) (R:Rel F n β s a.tmps w) {c:Call} {x:Operand} {name:String} (hop:o.op=.call c) (hcal:c.callee=.invoke x name) {path:List (Nat×Bool)} (hc:CondG s.σ path) {ks:List (Con U)} (hks:∀ k∈ks,GivesC Y (runI E.P name) E.G k)
  {v:Val U} (hv:H5 E s o (I0 path (ev s.σ x)::c.args.toList.map (fun x=>I0 path (ev s.σ x))) ks=some v) (hob:v.e.Obl)
  {K:Act→World→Prop} {Q:Exit→Act→World→Prop} (hK:(∀ b,v.pan=some b→b.1=false)→Then F w β s v.e a o K) (hP:bw4 F w β s.h v a Q):o.wpIn (fen E.P ro) 0 E.P a w K Q:=by
 have hcalls:=ac6 (C:=runI E.P name) (us:=a.eval x::c.args.toList.map a.eval) bG0 hY R (fun k hk=>hFG▸hks k hk) hv hob (by simp) (fun j p u hp hu=>aq4 (R:=R) (l:=x::c.args.toList) hc (by simpa using hp) (by simpa using hu)) hK hP
 obtain ⟨f,as,h1,h2⟩:=hcalls
 have hargs:(a.eval x::c.args.toList.map a.eval).toArray=#[a.eval x]++c.args.map a.eval:=by
  apply Array.toList_inj.1
  simp
 have hab:ae0 E.P w a o:=by
  intro f' hf'
  simp only [Oper.about,hop,resolve,hcal,Sem.run_pure,Target.leads] at hf'
  rw [hargs] at h1
  simp only [invoke] at h1
  have h0:(#[a.eval x]++c.args.map a.eval)[0]? =some (a.eval x):=by
   rw [Array.getElem?_append_left (by simp)]
   rfl
  rw [h0] at h1 hf'
  split at hf'
  ·rename_i u v' heq
   simp only [co4] at heq
   rw [heq] at h1
   simp only [callMethod] at h1
   split at hf'
   ·rename_i f2 rcv w2 hm
    simp only [co4] at hf'
    subst hf'
    cases hff:E.P.funcs[f2]? with
    |some fn=>rfl
    |none=>
     simp [hm,callFunc,hff] at h1
   ·cases hf'
  ·cases hf'
 refine at4 hab (fun c' hc'=>by rw [hop] at hc';cases hc') ?_
 have hrun:(execOp a.eval o).run E.P w=.ok (.enter f as) w:=by
  rw [←h1]
  have h2:(a.eval x::c.args.toList.map a.eval).toArray=#[a.eval x]++c.args.map a.eval:=by
   apply Array.toList_inj.1
   simp
  rw [h2]
  simp [execOp,hop,resolve,hcal]
 rw [hrun]
 refine ⟨af8,(aE2 h2).mono (fun en w' hen=>?_)⟩
 cases en with
 |returned u=>exact hen
 |panicked ch=>exact hen
 |outgrown=>exact hen.elim
theorem br6 {ro:Option Nat} (hE:E.Fits) (hFG:F.G=E.G) (R:Rel F n β s a.tmps w) {path:List (Nat×Bool)} (hc:CondG s.σ path) {v:Val U} (hv:af0 E s o path=some v) (hob:v.e.Obl)
  {K:Act→World→Prop} {Q:Exit→Act→World→Prop} (hK:Then F w β s v.e a o K):o.wpIn (fen E.P ro) 0 E.P a w K Q:=by
 unfold af0 at hv
 dsimp only at hv
 split at hv
 case h_2=>cases hv
 rename_i e' he
 simp only [cp7] at hv
 split at hv
 case isFalse=>cases hv
 rename_i hcond
 simp only [co7] at hcond
 simp only [co4] at hv
 subst hv
 refine ck1 hE hFG R hc he hob (fun id hid=>?_) hK
 have:=cr4.1 hcond.2 id hid
 simp only [co7,Option.isNone_iff_eq_none] at this
 exact ⟨this.1,cq7 this.2⟩
theorem aE4 {t:TypeId} {b:Bool} {ds:List (Datum U)} (hs:(ds.all fun d=>ab0 d.1)=true) {v:Value} (r:CRel w β h (.ifc t b ds) v):ap8 ⟨t,b,ds⟩ v:=by
 obtain ⟨vs,h1,h2,h3,h4,h5⟩:=r
 refine ⟨vs,h1,h2,h3,fun j d u hd hu=>?_⟩
 have hr:=h5 j d u hd hu
 have hd':=cr4.1 hs d (List.mem_iff_getElem?.2 ⟨j,hd⟩)
 obtain ⟨ty,x⟩:=d
 cases ty with
 |int k=>cases hr;rfl
 |bool=>cases hr;rfl
 |_=>simp [ab0] at hd'
theorem bG9 {Y:Fr} {ro:Option Nat} (hE:E.Fits) (hG:E.Sound Y) (hY:P0 Y F E.yl) (hFG:F.G=E.G) (R:Rel F n β s a.tmps w) {path:List (Nat×Bool)} (hc:CondG s.σ path) {v:Val U} (hv:al6 E s o path=some v) (hob:v.e.Obl)
  {K:Act→World→Prop} {Q:Exit→Act→World→Prop} (hK:(∀ b,v.pan=some b→b.1=false)→Then F w β s v.e a o K) (hP:bw4 F w β s.h v a Q):o.wpIn (fen E.P ro) 0 E.P a w K Q:=by
 have hpan:∀ {path:List (Nat×Bool)},af0 E s o path=some v→∀ b,v.pan=some b→b.1=false:=by
  intro path hv b hb
  unfold af0 at hv
  dsimp only at hv
  split at hv
  ·simp only [cp7] at hv
   split at hv
   ·simp only [co4] at hv
    subst hv
    cases hb
   ·cases hv
  ·cases hv
 unfold al6 at hv
 split at hv
 ·rename_i t x y hop
  split at hv
  ·rename_i c hs
   split at hv
   ·rename_i p hp
    simp only [co4] at hv
    subst hv
    have hb:=bw3 hs
    have hct:a.eval (.tmp t)=.bool c:=by
     have:=W1 hc (U3 R (.tmp t))
     rw [hs] at this
     exact this.bool
    have hp':=bG8 (w:=w) (β:=β) (h:=s.h) (σ:=s.σ) hp (ρ:=a.eval) (fun _=>rfl)
     (fun hct=>W1 (hc.append (fun g hg=>by simp only [cp5] at hg;subst hg;rw [hb,hct])) (U3 R x))
     (fun hct=>W1 (hc.append (fun g hg=>by simp only [cp5] at hg;subst hg;rw [hb,hct])) (U3 R y))
    refine Does.wp' (F:=F) (e:=F9 p) (Does.pure (n:=n) (v:=if c=true then a.eval x else a.eval y) R rfl ?_ hp'.2) (J4 fun c' hc'=>by rw [hop] at hc';cases hc') (fun c' hc'=>by rw [hop] at hc';cases hc') (hK (fun b hb=>by cases hb))
    simp [execOp,hop,hct,asBool]
   ·cases hv
  ·cases hv
 ·rename_i x hop
  split at hv
  ·rename_i t b ds hs
   simp only [cp7] at hv
   split at hv
   ·rename_i hsim
    simp only [co4] at hv
    subst hv
    have hx:=W1 hc (U3 R x)
    rw [hs] at hx
    have hpi:=aE4 hsim hx.inv.2
    obtain ⟨vs,hv1,_⟩:=hpi
    refine at4 (J4 fun c' hc'=>by rw [hop] at hc';cases hc') (fun c' hc'=>by rw [hop] at hc';cases hc') ?_
    have hrun:(execOp a.eval o).run E.P w=.halt (.panic (a.eval x)) w:=by
     rw [show execOp a.eval o=(do return .value (←Instr.panic (a.eval x))) by simp [execOp,hop]]
     simp [hv1,Instr.panic,goPanic]
    rw [hrun]
    exact hP _ rfl rfl _ _ (aE4 hsim hx.inv.2) (Below.refl _ _) (fun _ _ _=>rfl)
   ·cases hv
  ·cases hv
 ·rename_i c hop
  split at hv
  ·rename_i x hcal
   have hx:=W1 hc (U3 R x)
   split at hv
   ·rename_i fs i heq
    rw [heq] at hx
    obtain ⟨f,h1,h2⟩:=hx.inv.2
    exact aM0 hY hFG R hop hcal hc (ids:=[]) (fun k hk=>hG.tab fs i f k h1 hk) ⟨[],h2,rfl,fun j id b h=>by simp at h⟩ (by simpa using hv) hob hK hP
   ·rename_i id heq
    rw [heq] at hx
    exact bj3 hY hFG R hop hcal hc (fun k hk=>hG.y k (by simpa using hk)) hx hv hob hK hP
   ·rename_i f id heq
    rw [heq] at hx
    exact bj2 hY hFG R hop hcal hc (fun k hk=>hG.con f k (ab5 hk)) hx hv hob hK hP
   ·split at hv
    ·rename_i f ids hf
     exact aM0 hY hFG R hop hcal hc (fun k hk=>hG.con f k (ab5 hk)) (at5 hf hx) hv hob hK hP
    ·cases hv
  ·rename_i x name hcal
   split at hv
   ·rename_i i v' heq
    cases path with
    |cons g r=>cases heq
    |nil=>
    rw [←heq] at hv
    exact ba6 hY hFG R hop hcal hc (fun k hk=>hG.inv i name k hk) hv hob hK hP
   ·cases hv
  ·exact br6 hE hFG R hc hv hob (hK (hpan hv))
 ·exact br6 hE hFG R hc hv hob (hK (hpan hv))
theorem ae1 {g:Obs U} {yl:List (Nat×Nat)} (hg:∀ id o,look id g=some o→look id h=some o) (K:Ok F w β h) {dst:Option Tmp} {k:Con U} {vs:List (PV U)} {c:CallE U} (he:ab4 g yl dst k vs=some c) {u:Obs U} (hsub:∀ x∈u,x∈c.e.upd) (hn:∀ x∈u,x.2.live=false):Freezes h u:=by
 unfold ab4 at he
 split at he
 case h_2=>cases he
 rename_i cs hcs
 split at he
 case h_2=>cases he
 rename_i xs m hm
 split at he
 case h_2=>cases he
 rename_i v hv
 simp only [co4] at he
 subst he
 obtain ⟨G,_⟩:=ac5 K hg hm
 intro id ob hmem
 rcases cr1.1 (hsub _ hmem) with h1|h1
 ·exact G.hf id ob h1
 ·obtain ⟨i,p,_,_,rfl⟩:=bi3 h1
  have:=hn _ hmem
  rw [bF8] at this
  cases this
theorem aE5 {g:Obs U} {yl:List (Nat×Nat)} (hg:∀ id o,look id g=some o→look id h=some o) (K:Ok F w β h) {dst:Option Tmp} {k:Con U} {vs:List (PV U)} {c:CallE U} (he:ae8 g yl dst k vs=some c) (hn:∀ x∈c.e.upd,x.2.live=false):Freezes h c.e.upd:=by
 unfold ae8 at he
 split at he
 case h_2=>cases he
 rename_i c0 hc0
 split at he
 ·simp only [cp7] at he
  split at he
  ·simp only [co4] at he
   subst he
   exact fun id ob hm=>by simp at hm
  simp only [co4] at he
  subst he
  exact ae1 hg K hc0 (fun _ h=>h) hn
 ·simp only [co4] at he
  subst he
  exact ae1 hg K hc0 (fun x hx=>((aA3 (u:=c0.e.upd)).1 x hx).elim (fun h=>by simp at h) (fun h=>h)) hn
theorem aS6 (R:Ok F w β s.h) {path:List (Nat×Bool)} {v:Val U} (hv:al6 E s o path=some v) (hn:∀ x∈v.e.upd,x.2.live=false):Freezes s.h v.e.upd:=by
 have hop:∀ {path:List (Nat×Bool)},af0 E s o path=some v→Freezes s.h v.e.upd:=by
  intro path hv
  unfold af0 at hv
  dsimp only at hv
  split at hv
  ·rename_i e' he
   simp only [cp7] at hv
   split at hv
   ·simp only [co4] at hv
    subst hv
    exact bj1 he hn
   ·cases hv
  ·cases hv
 have hcall:∀ {vs:List (PV U)} {ks:List (Con U)},H5 E s o vs ks=some v→Freezes s.h v.e.upd:=by
  intro vs ks hv
  unfold H5 at hv
  dsimp only at hv
  split at hv
  ·rename_i ce hce
   simp only [cp7] at hv
   split at hv
   ·simp only [co4] at hv
    subst hv
    obtain ⟨k,_,hact⟩:=M9 hce
    exact aE5 (fun _ _=>C1) R hact hn
   ·cases hv
  ·cases hv
 unfold al6 at hv
 split at hv
 ·split at hv
  ·split at hv
   ·simp only [co4] at hv
    subst hv
    exact fun id ob hm=>by simp [F9] at hm
   ·cases hv
  ·cases hv
 ·split at hv
  ·simp only [cp7] at hv
   split at hv
   ·simp only [co4] at hv
    subst hv
    exact fun id ob hm=>by simp [F9] at hm
   ·cases hv
  ·cases hv
 ·split at hv
  ·split at hv
   ·exact hcall hv
   ·exact hcall hv
   ·exact hcall hv
   ·split at hv
    ·exact hcall hv
    ·cases hv
  ·split at hv
   ·exact hcall hv
   ·cases hv
  ·exact hop hv
 ·exact hop hv
theorem aw5 {σ:List (Nat×PV U)} {d j:Nat} (hne:d≠j) (v:PV U):O1 (write d v σ) j=O1 σ j:=by
 unfold O1
 rw [A7,if_neg (Ne.symm hne)]
theorem PRel.write {σ:List (Nat×PV U)} {d:Nat} {v p:PV U} {x:Value} (hp:p.plain=true∨∃ gs q,p=.opt gs q∧q.plain=true∧∀ g∈gs,g.1≠d) (r:PRel w β h σ p x):PRel w β h (write d v σ) p x:=by
 rcases hp with hp|⟨gs,q,rfl,hq,hd⟩
 ·exact r.any hp
 ·have hiff:CondG (VT.write d v σ) gs↔CondG σ gs:=by
   constructor
   ·intro hc g hg
    rw [←aw5 (Ne.symm (hd g hg)) v]
    exact hc g hg
   ·intro hc g hg
    rw [aw5 (Ne.symm (hd g hg)) v]
    exact hc g hg
  exact ⟨fun hc=>(r.1 (hiff.1 hc)).any hq,fun hc=>r.2 (fun hh=>hc (hiff.2 hh))⟩
def OptIn (D:Nat→Prop) (σ:List (Nat×PV U)):Prop:=∀ t gs p,look t σ=some (.opt gs p)→p.plain=true∧∀ g∈gs,D g.1
theorem OptIn.cases {D:Nat→Prop} {σ:List (Nat×PV U)} (hO:OptIn D σ) {t:Nat} {p:PV U} (hl:look t σ=some p):p.plain=true∨∃ gs q,p=.opt gs q∧q.plain=true∧∀ g∈gs,D g.1:=by
 cases p with
 |opt gs q=>exact .inr ⟨gs,q,rfl,hO t gs q hl⟩
 |_=>exact .inl rfl
theorem bS4 (tmps:Array Value) (d t:Nat) (v:Value) (hd:d<tmps.size):(tmps.setIfInBounds d v).getD t undef=if t=d then v else tmps.getD t undef:=by
 by_cases h:t=d
 ·subst h
  simp [Array.getD,hd]
 ·rw [if_neg h]
  simp only [Array.getD_eq_getD_getElem?,Array.getElem?_setIfInBounds_ne (Ne.symm h)]
theorem ac7 (R:Rel F n β s a.tmps w) {D:Nat→Prop} (hO:OptIn D s.σ) {dst:Option Tmp} (hd:∀ d,dst=some d→d<n∧¬ D d) {w':World} {β':Nm} {u:Obs U} (A:After F w β s.h w' β' (upds s.h u)) {p:PV U} {v:Value}
  (hp:p.plain=true∨∃ gs q,p=.opt gs q∧q.plain=true∧∀ g∈gs,D g.1) (r:PRel w' β' (upds s.h u) s.σ p v):
  Rel F n β' ⟨putS s.σ dst p,upds s.h u⟩ (a.put dst v).tmps w'∧OptIn (fun j=>D j∨dst=some j) (putS s.σ dst p):=by
 have hnot:∀ d,dst=some d→∀ q:PV U,(q.plain=true∨∃ gs q',q=.opt gs q'∧q'.plain=true∧∀ g∈gs,D g.1)→(q.plain=true∨∃ gs q',q=.opt gs q'∧q'.plain=true∧∀ g∈gs,g.1≠d):=by
  intro d hdd q hq
  rcases hq with hq|⟨gs,q',h1,h2,h3⟩
  ·exact .inl hq
  ·exact .inr ⟨gs,q',h1,h2,fun g hg hh=>(hd d hdd).2 (by rw [←hh];exact h3 g hg)⟩
 cases dst with
 |none=>
  refine ⟨⟨A.toOk,R.sz,fun t q hl=>A.ext.p (R.tmp t q hl)⟩,fun t gs q hl=>?_⟩
  obtain ⟨h1,h2⟩:=hO t gs q hl
  exact ⟨h1,fun g hg=>.inl (h2 g hg)⟩
 |some d=>
  obtain ⟨hdn,hdD⟩:=hd d rfl
  have hsz:d<a.tmps.size:=by rw [R.sz];exact hdn
  refine ⟨⟨A.toOk,by simp [Act.put,R.sz],fun t q hl=>?_⟩,fun t gs q hl=>?_⟩
  ·simp only [Act.put]
   rw [bS4 _ _ _ _ hsz]
   simp only [putS] at hl ⊢
   rw [A7] at hl
   split at hl
   ·rename_i htd
    simp only [co4] at hl
    subst hl
    rw [if_pos htd]
    exact r.write (hnot d rfl p hp)
   ·rename_i htd
    rw [if_neg htd]
    exact (A.ext.p (R.tmp t q hl)).write (hnot d rfl q (hO.cases hl))
  ·simp only [putS] at hl
   rw [A7] at hl
   split at hl
   ·simp only [co4] at hl
    subst hl
    rcases hp with hp|⟨gs',q',h1,h2,h3⟩
    ·simp [PV.plain] at hp
    ·simp only [PV.opt.injEq] at h1
     obtain ⟨rfl,rfl⟩:=h1
     exact ⟨h2,fun g hg=>.inl (h3 g hg)⟩
   ·obtain ⟨h1,h2⟩:=hO t gs q hl
    exact ⟨h1,fun g hg=>.inl (h2 g hg)⟩
theorem bw5 (R:Rel F n β s a.tmps w) {ops:Array Oper} {i j:Nat} {want:Bool} (hg:o.guard=some (i,want)) (hj:V8 ops.toList i=some j) {b:Bool} (hb:O1 s.σ j=some b):
  Region.wanted o (yielded ops a.tmps)=true↔CondG s.σ (I1 s.σ j++[(j,want)]):=by
 have hslot:(ops[i]?).bind (·.dst)=some j:=by
  unfold V8 at hj
  rwa [Array.getElem?_toList] at hj
 have hyes:∀ c:Bool,a.tmps.getD j undef=.bool c→(Region.wanted o (yielded ops a.tmps)=true↔c=want):=by
  intro c hc
  have:a.tmps[j]? =some (.bool c):=by
   rw [Array.getD_eq_getD_getElem?] at hc
   cases hx:a.tmps[j]? with
   |none=>rw [hx] at hc;simp [undef] at hc
   |some v=>rw [hx] at hc;simp at hc;rw [hc]
  simp [Region.wanted,hg,yielded,hslot,this]
 have hno:a.tmps.getD j undef=undef→Region.wanted o (yielded ops a.tmps)=false:=by
  intro hc
  have:∀ c:Bool,a.tmps[j]? ≠some (.bool c):=by
   intro c hx
   rw [Array.getD_eq_getD_getElem?,hx] at hc
   simp [undef] at hc
  simp only [Region.wanted,hg,yielded,hslot,Option.bind_some]
  cases hx:a.tmps[j]? with
  |none=>simp
  |some v=>
   cases v with
   |bool c=>exact absurd hx (this c)
   |_=>simp
 have hlast:∀ gs:List (Nat×Bool),CondG s.σ (gs++[(j,want)])↔CondG s.σ gs∧b=want:=by
  intro gs
  constructor
  ·intro hc
   refine ⟨fun g hgm=>hc g (by simp [hgm]),?_⟩
   have:=hc (j,want) (by simp)
   simp only [hb,co4] at this
   exact this
  ·rintro ⟨h1,h2⟩
   refine h1.append (fun g hgm=>?_)
   simp only [cp5] at hgm
   subst hgm
   simp only [hb,h2]
 unfold O1 at hb
 split at hb
 ·rename_i c hl
  simp only [co4] at hb
  subst hb
  have:=(R.tmp j _ hl).bool
  rw [hyes _ this,hlast]
  have hpa:I1 s.σ j=[]:=by simp [I1,hl]
  rw [hpa]
  simp [CondG]
 ·rename_i gs c hl
  simp only [co4] at hb
  subst hb
  have hr:=R.tmp j _ hl
  have hpa:I1 s.σ j=gs:=by simp [I1,hl]
  rw [hpa,hlast]
  by_cases hcg:CondG s.σ gs
  ·rw [hyes _ (hr.1 hcg).bool]
   simp [hcg]
  ·rw [hno (hr.2 hcg)]
   simp [hcg]
 ·cases hb
def Alt.has (x:Wr U):Alt U→Prop
 | .one y=>x=y
 | .two y z=>x=y∨x=z
theorem bH0 {σ:List (Nat×PV U)} {path:List (Nat×Bool)} (h:CondG σ path):allG σ path=true:=by
 unfold allG
 rw [cr4]
 intro g hg
 rw [h g hg]
 simp
theorem bS5 {path:List (Nat×Bool)} (R:Rel F n β s a.tmps w) (x:Operand):a.eval x=undef∨PRel w β s.h s.σ (I0 path (ev s.σ x)) (a.eval x):=by
 have hr:=U3 R x
 cases hp:ev s.σ x with
 |opt gs p=>
  rw [hp] at hr
  by_cases hc:CondG s.σ gs
  ·right
   simp only [I0]
   split
   ·exact hr.1 hc
   ·trivial
  ·exact .inl (hr.2 hc)
 |un=>right;trivial
 |one c=>right;rw [hp] at hr;exact hr
 |agg cs=>right;rw [hp] at hr;exact hr
 |tup vs=>right;rw [hp] at hr;exact hr
theorem ba7 {Y:Fr} (hG:E.Sound Y) (R:Rel F n β s a.tmps w) {path:List (Nat×Bool)} (hne:path≠[]) {v:Val U} (hv:al6 E s o path=some v):ae0 E.P w a o:=by
 have hop:∀ {path:List (Nat×Bool)},af0 E s o path=some v→ae0 E.P w a o:=by
  intro path hv
  unfold af0 at hv
  dsimp only at hv
  split at hv
  ·rename_i e' he
   exact J4 fun c hc=>by
    cases hcal:c.callee with
    |builtin b=>exact ⟨b,rfl⟩
    |value x=>simp [act,hc,hcal] at he
    |invoke x m=>simp [act,hc,hcal] at he
  ·cases hv
 have hund:∀ {c:Call} {x:Operand},o.op=.call c→c.callee=.value x→a.eval x=undef→ae0 E.P w a o:=by
  intro c x hop hcal hu f hf
  simp [Oper.about,hop,resolve,hcal,hu,undef,Deferred.ofValue] at hf
 unfold al6 at hv
 split at hv
 ·rename_i hop
  exact J4 fun c hc=>by rw [hop] at hc;cases hc
 ·rename_i hop
  exact J4 fun c hc=>by rw [hop] at hc;cases hc
 ·rename_i c hcop
  split at hv
  ·rename_i x hcal
   rcases bS5 (path:=path) R x with hu|hx
   ·exact hund hcop hcal hu
   split at hv
   ·rename_i fs i heq
    rw [heq] at hx
    obtain ⟨k,hk⟩:=Y1 hv
    obtain ⟨f,h1,h2⟩:=hx.inv.2
    obtain ⟨fn,h3,_⟩:=(hG.tab fs i f k h1 hk).1
    intro f' hf'
    simp only [Oper.about,hcop,resolve,hcal,h2,Deferred.ofValue,Sem.run_pure,Target.leads,co4] at hf'
    rw [←hf',h3]
    rfl
   ·rename_i id heq
    rw [heq] at hx
    obtain ⟨st,h1,h2⟩:=hx.inv.2
    obtain ⟨b,r,h3,_⟩:=R.obj id _ h1
    intro f' hf'
    simp [Oper.about,hcop,resolve,hcal,h2,h3,Deferred.ofValue,Target.leads] at hf'
   ·rename_i f id heq
    rw [heq] at hx
    obtain ⟨e1,cs1,b1,_,_,h1⟩:=hx.inv.2
    obtain ⟨k,hk⟩:=Y1 hv
    obtain ⟨fn,h3,_⟩:=(hG.con f k (ab5 hk)).1
    intro f' hf'
    simp only [Oper.about,hcop,resolve,hcal,h1,Deferred.ofValue,Sem.run_pure,Target.leads,co4] at hf'
    rw [←hf',h3]
    rfl
   ·split at hv
    ·rename_i f ids hf
     obtain ⟨bs,h1,_⟩:=at5 hf hx
     obtain ⟨k,hk⟩:=Y1 hv
     obtain ⟨fn,h3,_⟩:=(hG.con f k (ab5 hk)).1
     intro f' hf'
     simp only [Oper.about,hcop,resolve,hcal,h1,Deferred.ofValue,Sem.run_pure,Target.leads,co4] at hf'
     rw [←hf',h3]
     rfl
    ·cases hv
  ·split at hv
   ·rename_i heq
    cases path with
    |nil=>exact absurd rfl hne
    |cons g r=>cases heq
   ·cases hv
  ·exact hop hv
 ·exact hop hv
theorem cb5 {Y:Fr} {ro:Option Nat} (hE:E.Fits) (hG:E.Sound Y) (hY:P0 Y F E.yl) (hFG:F.G=E.G) {ops:Array Oper} (R:Rel F n β s a.tmps w) {D:Nat→Prop} (hO:OptIn D s.σ) {alt:Alt U} (hs:as8 E ops.toList o s=some alt) {x:Wr U} (hx:alt.has x) (hfact:∀ p,x.fact=some p→p) (hob:holds x.obl)
  (hd:∀ d,o.dst=some d→d<n∧¬ D d) (hg:∀ i want j,o.guard=some (i,want)→V8 ops.toList i=some j→D j) {K:Act→World→Prop} {Q:Exit→Act→World→Prop}
  (hK:∀ β' a' w',(∀ b,x.pan=some b→b.1=false)→Rel F n β' (s.app x) a'.tmps w'→OptIn (fun j=>D j∨o.dst=some j) (s.app x).σ→a'.defers=a.defers→K a' w')
  (hP:∀ b,x.pan=some b→b.1=true→∀ u w',ap8 b.2 u→Below F.B w w'→(∀ blk,blk<w.heap.size→(∀ id∈keys x.upd++x.lost,∀ o,look id s.h=some o→o.live=true→¬ Has (β id) blk)→w'.heap[blk]? =w.heap[blk]?)→Q (.panic [{ v:=u,recovered:=false }]) a w'):
  if Region.wanted o (yielded ops a.tmps) then o.wpIn (fen E.P ro) 0 E.P a w K Q else ae0 E.P w a o∧K (a.put o.dst undef) w:=by
 have hdef:∀ v,(a.put o.dst v).defers=a.defers:=by
  intro v
  cases o.dst<;>rfl
 unfold as8 at hs
 split at hs
 ·rename_i hgn
  split at hs
  ·rename_i v hv
   simp only [co4] at hs
   subst hs
   have hx:x=_:=hx
   subst hx
   rw [if_pos (by simp [Region.wanted,hgn])]
   refine bG9 hE hG hY hFG R (path:=[]) (fun g hg=>by simp at hg) hv hob (fun hpan v' w' β' A p=>?_) hP
   obtain ⟨h1,h2⟩:=ac7 R hO hd A (.inl (ba5 hv)) p
   exact hK β' _ w' hpan h1 h2 (hdef v')
  ·cases hs
 ·rename_i i want hgs
  split at hs
  case h_2=>cases hs
  rename_i j hj
  split at hs
  case h_2=>cases hs
  rename_i b hb
  split at hs
  case h_2=>cases hs
  rename_i v hv
  have hDj:=hg i want j hgs hj
  have hpl:=ba5 hv
  have hwi:=bw5 R hgs hj hb
  cases hu:(v.e.upd.all fun x=>!(x.2.live)) with
  |true=>
   rw [hu] at hs
   simp only [cond_true,co4] at hs
   subst hs
   have hx:x=_:=hx
   subst hx
   have hfz:Freezes s.h v.e.upd:=aS6 R.ok hv (fun x hx=>by simpa using cr4.1 hu x hx)
   have hnames:∀ g∈I1 s.σ j++[(j,want)],D g.1:=by
    intro g hgm
    rcases cr1.1 hgm with h1|h1
    ·unfold I1 at h1
     split at h1
     ·rename_i gs q hl
      exact (hO j gs q hl).2 g h1
     ·simp at h1
    ·simp only [cp5] at h1
     subst h1
     exact hDj
   have hform:(PV.opt (I1 s.σ j++[(j,want)]) v.e.val).plain=true∨∃ gs q,PV.opt (I1 s.σ j++[(j,want)]) v.e.val=.opt gs q∧q.plain=true∧∀ g∈gs,D g.1:=.inr ⟨_,_,rfl,hpl,hnames⟩
   by_cases hw:Region.wanted o (yielded ops a.tmps)=true
   ·have hcond:=hwi.1 hw
    have hall:=bH0 hcond
    rw [if_pos hw]
    have hob':v.e.Obl:=by
     unfold Eff.Obl
     have hob:holds (v.e.obl.map (hyps s.σ (I1 s.σ j++[(j,want)]))):=hob
     cases hvo:v.e.obl with
     |none=>trivial
     |some pp=>rw [hvo] at hob;exact ba4 hob hcond
    refine bG9 hE hG hY hFG R hcond hv hob' (fun hpan v' w' β' A pr=>?_) (fun b' hb' h1=>?_)
    ·obtain ⟨h1,h2⟩:=ac7 R hO hd (u:=v.e.upd) A hform (⟨fun _=>pr,fun hn=>absurd hcond hn⟩:PRel w' β' (upds s.h v.e.upd) s.σ (.opt (I1 s.σ j++[(j,want)]) v.e.val) v')
     refine hK β' _ w' (fun b' hb'=>?_) h1 h2 (hdef v')
     simp only [cp1] at hb'
     obtain ⟨b2,hb2,rfl⟩:=hb'
     simp only [hall,Bool.true_and]
     exact hpan b2 hb2
    ·exact hP (allG s.σ (I1 s.σ j++[(j,want)])&&b'.1,b'.2) (by dsimp only;rw [hb'];rfl) (by simp only [hall,Bool.true_and];exact h1)
   ·have hncond:¬ CondG s.σ (I1 s.σ j++[(j,want)]):=fun hc=>hw (hwi.2 hc)
    rw [if_neg hw]
    obtain ⟨h1,h2⟩:=ac7 R hO hd (u:=v.e.upd) (I3 R.ok hfz) hform (⟨fun hc=>absurd hc hncond,fun _=>rfl⟩:PRel w β (upds s.h v.e.upd) s.σ (.opt (I1 s.σ j++[(j,want)]) v.e.val) undef)
    refine ⟨ba7 hG R (by simp) hv,hK β _ w (fun b' hb'=>?_) h1 h2 (hdef undef)⟩
    simp only [cp1] at hb'
    obtain ⟨b2,hb2,rfl⟩:=hb'
    have:allG s.σ (I1 s.σ j++[(j,want)])=false:=by
     cases hall:allG s.σ (I1 s.σ j++[(j,want)]) with
     |false=>rfl
     |true=>
      exfalso
      apply hncond
      intro g hgm
      unfold allG at hall
      have:=cr4.1 hall g hgm
      cases hbb:O1 s.σ g.1 with
      |none=>rw [hbb] at this;simp at this
      |some bb=>rw [hbb] at this;simp at this;rw [this]
    simp [this]
  |false=>
   rw [hu] at hs
   simp only [cond_false] at hs
   split at hs
   case h_2=>cases hs
   rename_i hpa
   rw [hpa] at hv hwi
   simp only [List.nil_append] at hv hwi
   simp only [co4] at hs
   subst hs
   have hone:CondG s.σ [(j,want)]↔b=want:=by
    constructor
    ·intro hc
     have:=hc (j,want) (by simp)
     rw [hb] at this
     simpa using this
    ·intro h1 g hgm
     simp only [cp5] at hgm
     subst hgm
     rw [hb,h1]
   have hnames:∀ g∈[(j,want)],D g.1:=by
    intro g hgm
    simp only [cp5] at hgm
    subst hgm
    exact hDj
   have hform:(PV.opt [(j,want)] v.e.val).plain=true∨∃ gs q,PV.opt [(j,want)] v.e.val=.opt gs q∧q.plain=true∧∀ g∈gs,D g.1:=.inr ⟨_,_,rfl,hpl,hnames⟩
   rcases hx with hx|hx
   ·subst hx
    have hbw:b=want:=hfact _ rfl
    have hcond:=hone.2 hbw
    rw [if_pos (hwi.2 hcond)]
    refine bG9 hE hG hY hFG R hcond hv hob (fun hpan v' w' β' A pr=>?_) hP
    obtain ⟨h1,h2⟩:=ac7 R hO hd (u:=v.e.upd) A hform (⟨fun _=>pr,fun hn=>absurd hcond hn⟩:PRel w' β' (upds s.h v.e.upd) s.σ (.opt [(j,want)] v.e.val) v')
    exact hK β' _ w' hpan h1 h2 (hdef v')
   ·subst hx
    have hbw:b=!want:=hfact _ rfl
    have hncond:¬ CondG s.σ [(j,want)]:=fun hc=>by
     have:=hone.1 hc
     rw [this] at hbw
     cases want<;>simp at hbw
    have hw:¬ Region.wanted o (yielded ops a.tmps)=true:=fun hw=>hncond (hwi.1 hw)
    rw [if_neg hw]
    obtain ⟨h1,h2⟩:=ac7 R hO hd (u:=[]) (R.after) hform (⟨fun hc=>absurd hc hncond,fun _=>rfl⟩:PRel w β (upds s.h []) s.σ (.opt [(j,want)] v.e.val) undef)
    exact ⟨ba7 hG R (by simp) hv,hK β _ w (fun b' hb'=>by cases hb') h1 h2 (hdef undef)⟩
end
end Go.VT
end
section
namespace Go.VT
noncomputable section
open Go.RowKit
variable {U:Univ} {E:Env U} {F:Fr} {n:Nat} {β:Nm} {s s2:St U} {a:Act} {w:World} {o:Oper} {e:Eff U} {h:Obs U}
def Same (s s2:St U):Prop:=(∀ t,look t s.σ=look t s2.σ)∧∀ id,look id s.h=look id s2.h
theorem PRel.sames {h:Obs U} {σ σ2:List (Nat×PV U)} (hs:∀ j,O1 σ j=O1 σ2 j) {p:PV U} {v:Value} (r:PRel w β h σ p v):PRel w β h σ2 p v:=by
 induction p with
 |un=>trivial
 |one c=>exact r
 |agg cs=>exact r
 |tup xs=>exact r
 |opt gs p ih=>
  have hiff:CondG σ gs↔CondG σ2 gs:=⟨fun hc g hg=>by rw [←hs];exact hc g hg,fun hc g hg=>by rw [hs];exact hc g hg⟩
  exact ⟨fun hc=>ih (r.1 (hiff.2 hc)),fun hc=>r.2 (fun hh=>hc (hiff.1 hh))⟩
theorem Ext.same {h h2:Obs U} (hs:∀ id,look id h=look id h2):Ext w β h w β h2:=by
 refine ⟨Nat.le_refl _,fun _ _ _=>rfl,fun b _ hb=>?_,rfl,fun id e cs hl=>⟨rfl,cs,by rw [←hs];exact hl⟩,fun id e t l ver lv hl=>⟨l,ver,lv,by rw [←hs];exact hl,Nat.le_refl _,fun _=>⟨rfl,rfl⟩⟩,fun id o hl ho=>⟨rfl,rfl,o,by rw [←hs];exact hl,Ob.like_refl ho⟩,fun id D hl=>⟨D,by rw [←hs];exact hl,fun _ _ h=>h⟩⟩
 obtain ⟨id,o,h1,h2',h3⟩:=hb
 exact ⟨id,o,by rw [hs];exact h1,h2',h3⟩
theorem Rel.same (hs:Same s s2) {tmps:Array Value} (R:Rel F n β s tmps w):Rel F n β s2 tmps w:=by
 have x:Ext w β s.h w β s2.h:=Ext.same hs.2
 have hb:∀ j,O1 s.σ j=O1 s2.σ j:=fun j=>by unfold O1;rw [hs.1]
 exact ⟨⟨R.bel,R.hB,fun id o hl=>x.o rfl rfl (fun _ _=>rfl) (R.obj id o (by rw [hs.2];exact hl)),fun id o id' o' b h1 h2=>R.dis id o id' o' b (by rw [hs.2];exact h1) (by rw [hs.2];exact h2),R.frm,
  fun id o b h1=>R.own id o b (by rw [hs.2];exact h1),fun id o b h1=>R.Mo id o b (by rw [hs.2];exact h1),R.Mlt,R.Meq,fun id o v h1 h2=>R.fix id o v (by rw [hs.2];exact h1) h2,R.nmg,R.glo⟩,R.sz,fun t p hl=>(x.p (R.tmp t p (by rw [hs.1];exact hl))).sames hb⟩
theorem OptIn.same {D:Nat→Prop} (hs:Same s s2) (hO:OptIn D s.σ):OptIn D s2.σ:=fun t gs p hl=>hO t gs p (by rw [hs.1];exact hl)
theorem OptIn.mono {D D':Nat→Prop} (hD:∀ j,D j→D' j) {σ:List (Nat×PV U)} (hO:OptIn D σ):OptIn D' σ:=fun t gs p hl=>⟨(hO t gs p hl).1,fun g hg=>hD _ ((hO t gs p hl).2 g hg)⟩
def stS (S:Nat→Bool):List (Wr U)→Nat→St U→St U
 |[],_,s=>s
 |x::r,i,s=>stS S r (i+1) (if S i=true then s.app x else s)
theorem aj2 (x:Wr U) (t:Nat):look t (s.app x).σ=if x.dst=some t then some x.val else look t s.σ:=by
 unfold St.app putS
 cases hd:x.dst with
 |none=>simp
 |some d=>
  simp only [A7,co4]
  by_cases h:t=d
  ·subst h;simp
  ·simp [h,Ne.symm h]
theorem aw6 {id:Nat}:∀ {u h h2:Obs U},id∈keys u→look id (upds h u)=look id (upds h2 u)
 |[],_,_,hk=>by simp [keys] at hk
 |(j,oj)::u,h,h2,hk=>by
  by_cases hin:id∈keys u
  ·exact aw6 (u:=u) hin
  ·have hj:id=j:=by
    simp only [keys,List.map_cons,List.mem_cons] at hk
    rcases hk with hk|hk
    ·exact hk
    ·exact absurd hk hin
   have hn:∀ o,(id,o)∉u:=fun o ho=>hin (by simp only [keys,List.mem_map];exact ⟨_,ho,rfl⟩)
   show look id (upds (write j oj h) u)=look id (upds (write j oj h2) u)
   rw [B7 hn,B7 hn,A7,A7,if_pos hj,if_pos hj]
theorem aE6 (x:Wr U) (id:Nat) (hk:id∉keys x.upd):look id (s.app x).h=look id s.h:=by
 unfold St.app
 exact B7 (fun o ho=>hk (by simp only [keys,List.mem_map];exact ⟨_,ho,rfl⟩))
theorem aw7 (x:Wr U) (id:Nat) (hk:id∈keys x.upd):look id (s.app x).h=look id (s2.app x).h:=aw6 hk
theorem c1s {t:Nat} {S S':Nat→Bool}:∀ {xs:List (Wr U)} {i:Nat} {s s2:St U},look t s.σ=look t s2.σ→(∀ j x,xs[j]? =some x→x.dst=some t→S (i+j)=S' (i+j))→look t (stS S xs i s).σ=look t (stS S' xs i s2).σ
 |[],_,_,_,h,_=>h
 |x::r,i,s,s2,h,hj=>by
  refine c1s (xs:=r) ?_ (fun j y hy hd=>by have:=hj (j+1) y (by simpa using hy) hd;rwa [Nat.add_assoc,Nat.add_comm 1 j])
  by_cases hd:x.dst=some t
  ·have:=hj 0 x rfl hd
   rw [Nat.add_zero] at this
   rw [this]
   split
   ·rw [aj2,aj2,if_pos hd,if_pos hd]
   ·exact h
  ·have:∀ (b:Bool) (z:St U),look t (if b=true then z.app x else z).σ=look t z.σ:=by
    intro b z
    split
    ·rw [aj2,if_neg hd]
    ·rfl
   rw [this,this]
   exact h
theorem c1h {t:Nat} {S S':Nat→Bool}:∀ {xs:List (Wr U)} {i:Nat} {s s2:St U},look t s.h=look t s2.h→(∀ j x,xs[j]? =some x→t∈keys x.upd→S (i+j)=S' (i+j))→look t (stS S xs i s).h=look t (stS S' xs i s2).h
 |[],_,_,_,h,_=>h
 |x::r,i,s,s2,h,hj=>by
  refine c1h (xs:=r) ?_ (fun j y hy hd=>by have:=hj (j+1) y (by simpa using hy) hd;rwa [Nat.add_assoc,Nat.add_comm 1 j])
  by_cases hd:t∈keys x.upd
  ·have:=hj 0 x rfl hd
   rw [Nat.add_zero] at this
   rw [this]
   split
   ·exact aw7 x t hd
   ·exact h
  ·have:∀ (b:Bool) (z:St U),look t (if b=true then z.app x else z).h=look t z.h:=by
    intro b z
    split
    ·exact aE6 x t hd
    ·rfl
   rw [this,this]
   exact h
def K5 (S:Nat→Bool) (k:Nat):Nat→Bool:=fun j=>S j||j==k
theorem Y2:∀ {xs:List (Wr U)} {i:Nat} {s:St U},stS (fun _=>false) xs i s=s
 |[],_,_=>rfl
 |x::r,i,s=>by
  show stS (fun _=>false) r (i+1) (if false=true then s.app x else s)=s
  rw [if_neg (by simp)]
  exact Y2
theorem c2s {t:Nat} {S:Nat→Bool}:∀ {xs:List (Wr U)} {i k:Nat} {s:St U} {x:Wr U},xs[k]? =some x→S (i+k)=false→(∀ j y,xs[j]? =some y→k<j→S (i+j)=true→x.dst=some t→y.dst≠some t)→
  look t (stS (K5 S (i+k)) xs i s).σ=look t ((stS S xs i s).app x).σ
 |[],_,_,_,_,hx,_,_=>by simp at hx
 |y::r,i,0,s,x,hx,hS,hj=>by
  simp only [cp2,co4] at hx
  subst hx
  have hw:K5 S (i+0) i=true:=by simp [K5]
  have hs:S i=false:=hS
  show look t (stS (K5 S (i+0)) r (i+1) (if K5 S (i+0) i=true then s.app y else s)).σ=look t ((stS S r (i+1) (if S i=true then s.app y else s)).app y).σ
  rw [if_pos hw,if_neg (by simp [hs]),aj2]
  have hsame:∀ j,K5 S (i+0) (i+1+j)=S (i+1+j):=by
   intro j
   have:(i+1+j==i+0)=false:=by simp;omega
   unfold K5
   rw [this,Bool.or_false]
  by_cases hd:y.dst=some t
  ·rw [if_pos hd,c1s (S':=fun _=>false) (s2:=s.app y) rfl (fun j z hz hzd=>?_),Y2,aj2,if_pos hd]
   rw [hsame]
   cases hSj:S (i+1+j) with
   |false=>rfl
   |true=>exact absurd hzd (hj (j+1) z (by simpa using hz) (by omega) (by rw [←hSj];congr 1;omega) hd)
  ·rw [if_neg hd]
   exact c1s (by rw [aj2,if_neg hd]) (fun j z _ _=>hsame j)
 |y::r,i,k+1,s,x,hx,hS,hj=>by
  have hne:K5 S (i+(k+1)) i=S i:=by
   have:(i==i+(k+1))=false:=by simp
   simp [K5,this]
  show look t (stS (K5 S (i+(k+1))) r (i+1) (if K5 S (i+(k+1)) i=true then s.app y else s)).σ=look t ((stS S r (i+1) (if S i=true then s.app y else s)).app x).σ
  rw [hne,show i+(k+1)=(i+1)+k by omega]
  exact c2s (xs:=r) (by simpa using hx) (by rw [←hS];congr 1;omega) (fun j z hz hkj hSj hd=>hj (j+1) z (by simpa using hz) (by omega) (by rw [←hSj];congr 1;omega) hd)
theorem c2h {t:Nat} {S:Nat→Bool}:∀ {xs:List (Wr U)} {i k:Nat} {s:St U} {x:Wr U},xs[k]? =some x→S (i+k)=false→(∀ j y,xs[j]? =some y→k<j→S (i+j)=true→t∈keys x.upd→t∉keys y.upd)→
  look t (stS (K5 S (i+k)) xs i s).h=look t ((stS S xs i s).app x).h
 |[],_,_,_,_,hx,_,_=>by simp at hx
 |y::r,i,0,s,x,hx,hS,hj=>by
  simp only [cp2,co4] at hx
  subst hx
  have hw:K5 S (i+0) i=true:=by simp [K5]
  have hs:S i=false:=hS
  show look t (stS (K5 S (i+0)) r (i+1) (if K5 S (i+0) i=true then s.app y else s)).h=look t ((stS S r (i+1) (if S i=true then s.app y else s)).app y).h
  rw [if_pos hw,if_neg (by simp [hs])]
  have hsame:∀ j,K5 S (i+0) (i+1+j)=S (i+1+j):=by
   intro j
   have:(i+1+j==i+0)=false:=by simp;omega
   unfold K5
   rw [this,Bool.or_false]
  by_cases hd:t∈keys y.upd
  ·rw [c1h (S':=fun _=>false) (s2:=s.app y) rfl (fun j z hz hzd=>?_),Y2]
   ·exact aw7 y t hd
   ·rw [hsame]
    cases hSj:S (i+1+j) with
    |false=>rfl
    |true=>exact absurd hzd (hj (j+1) z (by simpa using hz) (by omega) (by rw [←hSj];congr 1;omega) hd)
  ·rw [aE6 y t hd]
   exact c1h (aE6 y t hd) (fun j z _ _=>hsame j)
 |y::r,i,k+1,s,x,hx,hS,hj=>by
  have hne:K5 S (i+(k+1)) i=S i:=by
   have:(i==i+(k+1))=false:=by simp
   simp [K5,this]
  show look t (stS (K5 S (i+(k+1))) r (i+1) (if K5 S (i+(k+1)) i=true then s.app y else s)).h=look t ((stS S r (i+1) (if S i=true then s.app y else s)).app x).h
  rw [hne,show i+(k+1)=(i+1)+k by omega]
  exact c2h (xs:=r) (by simpa using hx) (by rw [←hS];congr 1;omega) (fun j z hz hkj hSj hd=>hj (j+1) z (by simpa using hz) (by omega) (by rw [←hSj];congr 1;omega) hd)
theorem aS7:∀ {xs:List (Wr U)} {i k:Nat} {s:St U},(xs.take k).foldl St.app s=stS (fun j=>decide (j<i+k)) xs i s
 |[],_,_,_=>by simp [stS]
 |x::r,i,0,s=>by
  have:∀ (r:List (Wr U)) (i':Nat) (s:St U),i≤i'→stS (fun j=>decide (j<i+0)) r i' s=s:=by
   intro r
   induction r with
   |nil=>intro i' s _;rfl
   |cons y r ih=>
    intro i' s hi
    show stS _ r (i'+1) (if decide (i'<i+0)=true then s.app y else s)=s
    rw [if_neg (by simp;omega)]
    exact ih _ _ (by omega)
  rw [this _ _ _ (Nat.le_refl _)]
  rfl
 |x::r,i,k+1,s=>by
  show (r.take k).foldl St.app (s.app x)=stS _ r (i+1) (if decide (i<i+(k+1))=true then s.app x else s)
  rw [if_pos (by simp),aS7 (xs:=r) (i:=i+1)]
  congr 1
  funext j
  congr 1
  apply propext
  omega
def StepIs (E:Env U) (ops:List Oper) (o:Oper) (s:St U) (x:Wr U):Prop:=∃ alt,as8 E ops o s=some alt∧alt.has x
def Wr.holds (x:Wr U):Prop:=∀ p,x.fact=some p→p
theorem bH1 {ops:List Oper} {x:Wr U} (hs:as8 E ops o s=some (.one x)):x.fact=none:=by
 unfold as8 at hs
 split at hs
 ·split at hs
  ·simp only [co4,Alt.one.injEq] at hs;rw [←hs]
  ·cases hs
 ·split at hs
  ·split at hs
   ·split at hs
    ·simp only [cp7] at hs
     split at hs
     ·simp only [co4,Alt.one.injEq] at hs;rw [←hs]
     ·split at hs
      ·simp at hs
      ·cases hs
    ·cases hs
   ·cases hs
  ·cases hs
theorem bH2 {ops:List Oper} {x y:Wr U} (hs:as8 E ops o s=some (.two x y)):∃ b want:Bool,x.fact=some (b=want)∧y.fact=some (b=!want):=by
 unfold as8 at hs
 split at hs
 ·split at hs
  ·simp at hs
  ·cases hs
 ·split at hs
  ·split at hs
   ·split at hs
    ·simp only [cp7] at hs
     split at hs
     ·simp at hs
     ·split at hs
      ·simp only [co4,Alt.two.injEq] at hs
       obtain ⟨rfl,rfl⟩:=hs
       exact ⟨_,_,rfl,rfl⟩
      ·cases hs
    ·cases hs
   ·cases hs
  ·cases hs
theorem aq5 {x:Wr U}:∀ {l:List (List (Wr U)×St U)} {xs:List (Wr U)} {s':St U},(xs,s')∈l→(x::xs,s')∈bh3 x l
 |[],_,_,h=>by simp at h
 |(ys,t)::r,xs,s',h=>by
  rcases List.mem_cons.1 h with h1|h1
  ·simp only [cp6] at h1
   obtain ⟨rfl,rfl⟩:=h1
   simp [bh3]
  ·simp [bh3,aq5 h1]
theorem aE7 {f:List (Wr U)→St U→Prop}:∀ {l:List (List (Wr U)×St U)},bR0 f l→∀ {xs:List (Wr U)} {s':St U},(xs,s')∈l→f xs s'
 |[],_,_,_,h=>by simp at h
 |[(ys,t)],hl,xs,s',h=>by
  simp only [cp5,cp6] at h
  obtain ⟨rfl,rfl⟩:=h
  exact hl
 |(ys,t)::y::r,hl,xs,s',h=>by
  rcases List.mem_cons.1 h with h1|h1
  ·simp only [cp6] at h1
   obtain ⟨rfl,rfl⟩:=h1
   exact hl.1
  ·exact aE7 (l:=y::r) hl.2 h1
structure Path (E:Env U) (ops os:List Oper) (s:St U) (xs:List (Wr U)) (s':St U):Prop where
 len:xs.length=os.length
 fin:s'=xs.foldl St.app s
 step:∀ (k:Nat) (o:Oper),os[k]? =some o→∃ x,xs[k]? =some x∧StepIs E ops o ((xs.take k).foldl St.app s) x
 fact:∀ x∈xs,x.holds
theorem Path.cons {ops r:List Oper} {xs:List (Wr U)} {s':St U} {x:Wr U} (hx:StepIs E ops o s x) (hf:x.holds) (h:Path E ops r (s.app x) xs s'):Path E ops (o::r) s (x::xs) s':=by
 refine ⟨by simp [h.len],by rw [h.fin];rfl,fun k o' hk=>?_,fun y hy=>?_⟩
 ·match k,hk with
  |0,hk=>
   simp only [cp2,co4] at hk
   subst hk
   exact ⟨x,rfl,hx⟩
  |k+1,hk=>
   obtain ⟨y,hy,hs⟩:=h.step k o' (by simpa using hk)
   exact ⟨y,by simpa using hy,by simpa using hs⟩
 ·rcases List.mem_cons.1 hy with h1|h1
  ·subst h1;exact hf
  ·exact h.fact y h1
theorem W3 {ops:List Oper}:∀ {r:List Oper} {s:St U} {ls:List (List (Wr U)×St U)},av9 E ops r s=some ls→∃ xs s',(xs,s')∈ls∧Path E ops r s xs s'
 |[],s,ls,hr=>by
  simp only [av9,co4] at hr
  subst hr
  exact ⟨[],s,by simp,rfl,rfl,by simp,by simp⟩
 |o::r,s,ls,hr=>by
  simp only [av9] at hr
  split at hr
  ·rename_i x hx
   split at hr
   ·rename_i l hl
    simp only [co4] at hr
    subst hr
    obtain ⟨xs,s',h1,h2⟩:=W3 hl
    refine ⟨x::xs,s',aq5 h1,h2.cons ⟨_,hx,rfl⟩ (fun p hp=>?_)⟩
    rw [bH1 hx] at hp
    cases hp
   ·cases hr
  ·rename_i x y hx
   split at hr
   ·rename_i l hl
    split at hr
    ·rename_i l' hl'
     simp only [co4] at hr
     subst hr
     obtain ⟨b,want,hf1,hf2⟩:=bH2 hx
     by_cases hb:b=want
     ·obtain ⟨xs,s',h1,h2⟩:=W3 hl
      refine ⟨x::xs,s',cr1.2 (.inl (aq5 h1)),h2.cons ⟨_,hx,.inl rfl⟩ (fun p hp=>?_)⟩
      rw [hf1] at hp
      simp only [co4] at hp
      rw [←hp]
      exact hb
     ·obtain ⟨xs,s',h1,h2⟩:=W3 hl'
      refine ⟨y::xs,s',cr1.2 (.inr (aq5 h1)),h2.cons ⟨_,hx,.inr rfl⟩ (fun p hp=>?_)⟩
      rw [hf2] at hp
      simp only [co4] at hp
      rw [←hp]
      revert hb
      cases b<;>cases want<;>simp
    ·cases hr
   ·cases hr
  ·cases hr
theorem aM1 {x:Operand} {t:Nat}:∀ {l:List Operand},x=.tmp t→x∈l→t∈aa0 l
 |[],_,h=>by simp at h
 |y::r,hx,h=>by
  rcases List.mem_cons.1 h with h1|h1
  ·subst h1;subst hx;simp [aa0]
  ·have:=aM1 (l:=r) hx h1
   cases y<;>simp [aa0,this]
theorem U7 {σ σ2:List (Nat×PV U)} {l:List Operand} (hl:∀ t∈aa0 l,look t σ=look t σ2) {x:Operand} (hx:x∈l):ev σ x=ev σ2 x:=by
 cases x with
 |tmp t=>simp only [ev];rw [hl t (aM1 rfl hx)]
 |const v=>rfl
 |global g=>rfl
 |func f=>rfl
theorem aE8 {h h2:Obs U}:∀ {ids:List Nat},(∀ id∈ids,look id h=look id h2)→sub h ids=sub h2 ids
 |[],_=>rfl
 |i::r,hl=>by
  simp only [sub]
  rw [hl i (by simp),aE8 (ids:=r) (fun id hid=>hl id (by simp [hid]))]
theorem aM2 {h h2:Obs U} {l:List Nat} (hl:∀ id∈l,look id h=look id h2):aB6 h l=aB6 h2 l:=by
 unfold aB6
 rw [Bool.eq_iff_iff]
 simp only [cr4]
 constructor
 ·intro hh id hid
  rw [←hl id hid]
  exact hh id hid
 ·intro hh id hid
  rw [hl id hid]
  exact hh id hid
theorem am3 {path:List (Nat×Bool)} {v:Val U} (hv:af0 E s o path=some v) (ht:∀ t∈aa0 (J3 o.op),look t s.σ=look t s2.σ) (hi:∀ id∈v.ids,look id s.h=look id s2.h):af0 E s2 o path=some v:=by
 unfold af0 at hv ⊢
 have hvs:(J3 o.op).map (fun x=>I0 path (ev s2.σ x))=(J3 o.op).map (fun x=>I0 path (ev s.σ x)):=by
  apply List.map_congr_left
  intro x hx
  rw [U7 ht hx]
 dsimp only at hv ⊢
 rw [hvs]
 split at hv
 case h_2=>cases hv
 rename_i e' he
 simp only [cp7] at hv
 split at hv
 case isFalse=>cases hv
 rename_i hc
 simp only [co4] at hv
 subst hv
 have hsub:sub s2.h (((J3 o.op).map (fun x=>I0 path (ev s.σ x))).flatMap idsP)=sub s.h (((J3 o.op).map (fun x=>I0 path (ev s.σ x))).flatMap idsP):=
  aE8 (fun id hid=>(hi id (by simp only [cr1];exact .inl hid)).symm)
 rw [hsub,he]
 rw [aM2 (h2:=s2.h) (fun id hid=>hi id (by simp only [cr1];exact .inr (.inl hid)))] at hc
 simp [hc]
theorem at6 {h:Obs U}:∀ {f:Nat} {todo seen:List Nat},∀ id∈seen,id∈as7 h f todo seen
 |0,_,_,id,hid=>by simpa [as7] using hid
 |f+1,[],_,id,hid=>by simpa [as7] using hid
 |f+1,x::r,seen,id,hid=>by
  unfold as7
  cases (seen.any (Nat.beq x)) with
  |true=>simpa using at6 (f:=f) id hid
  |false=>simpa using at6 (f:=f) (seen:=x::seen) id (by simp [hid])
theorem am4 {h h2:Obs U}:∀ {f:Nat} {todo seen:List Nat},(∀ id∈as7 h f todo seen,look id h=look id h2)→as7 h2 f todo seen=as7 h f todo seen
 |0,_,_,_=>rfl
 |f+1,[],_,_=>rfl
 |f+1,x::r,seen,hl=>by
  unfold as7 at hl ⊢
  cases hc:seen.any (Nat.beq x) with
  |true=>
   rw [hc] at hl
   simp only [cond_true] at hl ⊢
   exact am4 (f:=f) hl
  |false=>
   rw [hc] at hl
   simp only [cond_false] at hl ⊢
   have hx:look x h=look x h2:=hl x (at6 x (by simp))
   have hch:bp7 h2 x=bp7 h x:=by unfold bp7;rw [hx]
   rw [hch]
   exact am4 (f:=f) hl
theorem P2 {vs:List (PV U)} {ks:List (Con U)} {v:Val U} (hv:H5 E s o vs ks=some v) (hi:∀ id∈v.ids,look id s.h=look id s2.h):H5 E s2 o vs ks=some v:=by
 unfold H5 at hv ⊢
 dsimp only at hv ⊢
 split at hv
 case h_2=>cases hv
 rename_i c hcc
 simp only [cp7] at hv
 split at hv
 case isFalse=>cases hv
 rename_i hc
 simp only [co4] at hv
 subst hv
 have hR:∀ id∈as7 s.h 64 (vs.flatMap idsP++ks.flatMap fun k=>k.gh.map (·.2)) [],look id s.h=look id s2.h:=fun id hid=>hi id (by simp only [cr1];exact .inl hid)
 have hr:=am4 hR
 rw [hr,aE8 (h:=s2.h) (h2:=s.h) (fun id hid=>(hR id hid).symm),hcc]
 rw [aM2 (h2:=s2.h) (fun id hid=>hi id (by simp only [cr1];exact .inr (.inl hid)))] at hc
 simp [hc]
theorem aS8 (hnp:∀ c a b,o.op≠.pick c a b):aR4 o.op=aa0 (J3 o.op):=by
 unfold aR4
 split
 ·rename_i hop;exact absurd hop (hnp _ _ _)
 ·rfl
theorem am5 {path:List (Nat×Bool)} {v:Val U} (hv:al6 E s o path=some v) (ht:∀ t∈aR4 o.op,look t s.σ=look t s2.σ) (hi:∀ id∈v.ids,look id s.h=look id s2.h):al6 E s2 o path=some v:=by
 unfold al6 at hv ⊢
 split at hv
 ·rename_i t x y hop
  rw [hop] at ht
  have h1:=U7 (σ:=s.σ) (σ2:=s2.σ) ht (x:=.tmp t) (by simp)
  have h2:=U7 (σ:=s.σ) (σ2:=s2.σ) ht (x:=x) (by simp)
  have h3:=U7 (σ:=s.σ) (σ2:=s2.σ) ht (x:=y) (by simp)
  rw [←h1,←h2,←h3]
  exact hv
 ·rename_i x hop
  rw [hop] at ht
  have h1:=U7 (σ:=s.σ) (σ2:=s2.σ) (l:=[x]) ht (x:=x) (by simp)
  rw [←h1]
  exact hv
 ·rename_i c hop
  split at hv
  ·rename_i x hcal
   have hops:J3 o.op=x::c.args.toList:=by rw [hop];simp [J3,hcal]
   rw [aS8 (fun a b d=>by rw [hop];simp),hops] at ht
   have hx:=U7 (σ:=s.σ) (σ2:=s2.σ) ht (x:=x) (by simp)
   have hargs:c.args.toList.map (fun x=>I0 path (ev s2.σ x))=c.args.toList.map (fun x=>I0 path (ev s.σ x)):=by
    apply List.map_congr_left
    intro y hy
    rw [U7 (σ:=s.σ) (σ2:=s2.σ) ht (x:=y) (by simp [hy])]
   rw [←hx,hargs]
   split at hv
   ·exact P2 hv hi
   ·exact P2 hv hi
   ·exact P2 hv hi
   ·split at hv
    ·exact P2 hv hi
    ·cases hv
  ·rename_i x name hcal
   have hops:J3 o.op=x::c.args.toList:=by rw [hop];simp [J3,hcal]
   rw [aS8 (fun a b d=>by rw [hop];simp),hops] at ht
   have hx:=U7 (σ:=s.σ) (σ2:=s2.σ) ht (x:=x) (by simp)
   have hargs:c.args.toList.map (fun x=>I0 path (ev s2.σ x))=c.args.toList.map (fun x=>I0 path (ev s.σ x)):=by
    apply List.map_congr_left
    intro y hy
    rw [U7 (σ:=s.σ) (σ2:=s2.σ) ht (x:=y) (by simp [hy])]
   rw [←hx,hargs]
   split at hv
   ·exact P2 hv hi
   ·cases hv
  ·exact am3 hv (by rw [←aS8 (fun a b d=>by rw [hop];simp)];exact ht) hi
 ·rename_i hnp _ _
  by_cases hp:∃ a b c,o.op=.pick a b c
  ·obtain ⟨a,b,c,hop⟩:=hp
   cases a with
   |tmp t=>exact (hnp _ _ _ hop).elim
   |_=>
    refine am3 hv ?_ hi
    rw [hop]
    simp [J3,aa0]
  ·exact am3 hv (by rw [←aS8 (fun a b d hh=>hp ⟨a,b,d,hh⟩)];exact ht) hi
theorem Y3 {σ σ2:List (Nat×PV U)} {j:Nat} (h:look j σ=look j σ2):O1 σ j=O1 σ2 j:=by unfold O1;rw [h]
theorem aw8 {σ σ2:List (Nat×PV U)} {j:Nat} (h:look j σ=look j σ2):I1 σ j=I1 σ2 j:=by unfold I1;rw [h]
theorem aM3 {σ σ2:List (Nat×PV U)}:∀ {path:List (Nat×Bool)} {p:Prop},(∀ g∈path,look g.1 σ=look g.1 σ2)→hyps σ path p=hyps σ2 path p
 |[],_,_=>rfl
 |(j,wt)::r,p,h=>by
  simp only [hyps]
  rw [Y3 (h (j,wt) (by simp)),aM3 (path:=r) (fun g hg=>h g (by simp [hg]))]
theorem StepIs.dst {ops:List Oper} {x:Wr U} (hs:StepIs E ops o s x):x.dst=o.dst:=by
 obtain ⟨alt,hs,hx⟩:=hs
 unfold as8 at hs
 split at hs
 ·split at hs
  ·simp only [co4] at hs;subst hs;have hx:x=_:=hx;rw [hx]
  ·cases hs
 ·split at hs
  ·split at hs
   ·split at hs
    ·simp only [cp7] at hs
     split at hs
     ·simp only [co4] at hs;subst hs;have hx:x=_:=hx;rw [hx]
     ·split at hs
      ·simp only [co4] at hs;subst hs
       rcases hx with hx|hx<;>rw [hx]
      ·cases hs
    ·cases hs
   ·cases hs
  ·cases hs
theorem at7 {path:List (Nat×Bool)} {v:Val U} (hv:al6 E s o path=some v):∀ id∈keys v.e.upd,id∈v.ids:=by
 have hop:∀ {path:List (Nat×Bool)},af0 E s o path=some v→∀ id∈keys v.e.upd,id∈v.ids:=by
  intro path hv
  unfold af0 at hv
  dsimp only at hv
  split at hv
  ·simp only [cp7] at hv
   split at hv
   ·simp only [co4] at hv
    subst hv
    intro id hid
    simp only [cr1]
    exact .inr (.inr hid)
   ·cases hv
  ·cases hv
 have hcall:∀ {vs:List (PV U)} {ks:List (Con U)},H5 E s o vs ks=some v→∀ id∈keys v.e.upd,id∈v.ids:=by
  intro vs ks hv
  unfold H5 at hv
  dsimp only at hv
  split at hv
  ·simp only [cp7] at hv
   split at hv
   ·simp only [co4] at hv
    subst hv
    intro id hid
    simp only [cr1]
    exact .inr (.inr hid)
   ·cases hv
  ·cases hv
 unfold al6 at hv
 split at hv
 ·split at hv
  ·split at hv
   ·simp only [co4] at hv
    subst hv
    intro id hid
    simp [F9,keys] at hid
   ·cases hv
  ·cases hv
 ·split at hv
  ·simp only [cp7] at hv
   split at hv
   ·simp only [co4] at hv
    subst hv
    intro id hid
    simp [F9,keys] at hid
   ·cases hv
  ·cases hv
 ·split at hv
  ·split at hv
   ·exact hcall hv
   ·exact hcall hv
   ·exact hcall hv
   ·split at hv
    ·exact hcall hv
    ·cases hv
  ·split at hv
   ·exact hcall hv
   ·cases hv
  ·exact hop hv
 ·exact hop hv
theorem StepIs.keys {ops:List Oper} {x:Wr U} (hs:StepIs E ops o s x):∀ id∈VT.keys x.upd,id∈x.ids:=by
 obtain ⟨alt,hs,hx⟩:=hs
 unfold as8 at hs
 split at hs
 ·split at hs
  ·rename_i v hv
   simp only [co4] at hs;subst hs;have hx:x=_:=hx;rw [hx]
   exact at7 hv
  ·cases hs
 ·split at hs
  ·split at hs
   ·split at hs
    ·rename_i v hv
     simp only [cp7] at hs
     split at hs
     ·simp only [co4] at hs;subst hs;have hx:x=_:=hx;rw [hx]
      exact at7 hv
     ·split at hs
      ·simp only [co4] at hs;subst hs
       rcases hx with hx|hx<;>rw [hx]
       ·rename_i hpa
        rw [hpa] at hv
        exact at7 hv
       ·intro id hid
        simp [VT.keys] at hid
      ·cases hs
    ·cases hs
   ·cases hs
  ·cases hs
theorem StepIs.guard {ops:List Oper} {x:Wr U} (hs:StepIs E ops o s x) {i:Nat} {want:Bool} {j:Nat} (hg:o.guard=some (i,want)) (hj:V8 ops i=some j):j∈x.rds:=by
 obtain ⟨alt,hs,hx⟩:=hs
 unfold as8 at hs
 rw [hg] at hs
 simp only [hj] at hs
 split at hs
 ·split at hs
  ·simp only [cp7] at hs
   split at hs
   ·simp only [co4] at hs;subst hs;have hx:x=_:=hx;rw [hx]
    simp
   ·split at hs
    ·simp only [co4] at hs;subst hs
     rcases hx with hx|hx<;>rw [hx]<;>simp
    ·cases hs
  ·cases hs
 ·cases hs
theorem bw6 {σ σ2:List (Nat×PV U)} {path:List (Nat×Bool)} (h:∀ g∈path,look g.1 σ=look g.1 σ2):allG σ path=allG σ2 path:=by
 unfold allG
 induction path with
 |nil=>rfl
 |cons g r ih=>
  simp only [List.all_cons]
  rw [Y3 (h g (by simp)),ih (fun g hg=>h g (by simp [hg]))]
theorem StepIs.congr {ops:List Oper} {x:Wr U} (hs:StepIs E ops o s x) (ht:∀ t∈x.rds,look t s.σ=look t s2.σ) (hi:∀ id∈x.ids,look id s.h=look id s2.h):StepIs E ops o s2 x:=by
 obtain ⟨alt,hs,hx⟩:=hs
 refine ⟨alt,?_,hx⟩
 unfold as8 at hs ⊢
 split at hs
 ·split at hs
  ·rename_i v hv
   simp only [co4] at hs
   subst hs
   have hx:x=_:=hx
   subst hx
   have:=am5 (s2:=s2) hv ht hi
   simp only [this]
  ·cases hs
 ·rename_i i want hgs
  split at hs
  case h_2=>cases hs
  rename_i j hj
  split at hs
  case h_2=>cases hs
  rename_i b hb
  split at hs
  case h_2=>cases hs
  rename_i v hv
  simp only [cp7] at hs ⊢
  split at hs
  ·rename_i hu
   simp only [co4] at hs
   subst hs
   have hx:x=_:=hx
   subst hx
   have hjl:look j s.σ=look j s2.σ:=ht j (by simp)
   have hp:∀ g∈I1 s.σ j++[(j,want)],look g.1 s.σ=look g.1 s2.σ:=by
    intro g hg
    rcases cr1.1 hg with h1|h1
    ·exact ht g.1 (by
      simp only [cr1,List.mem_cons]
      exact .inl (.inr (List.mem_map.2 ⟨g,h1,rfl⟩)))
    ·simp only [cp5] at h1
     subst h1
     exact hjl
   have hv2:=am5 (s2:=s2) hv (fun t htm=>ht t (by simp [htm])) hi
   have hpa:=aw8 hjl
   have hha:∀ q:Prop,hyps s.σ (I1 s.σ j++[(j,want)]) q=hyps s2.σ (I1 s.σ j++[(j,want)]) q:=fun q=>aM3 hp
   simp only [hj,←Y3 hjl,hb,←hpa,hv2,hu,if_true]
   rw [←bw6 hp,show hyps s2.σ (I1 s.σ j++[(j,want)])=hyps s.σ (I1 s.σ j++[(j,want)]) from funext fun q=>(hha q).symm]
  ·rename_i hu
   split at hs
   case h_2=>cases hs
   rename_i hpa
   simp only [co4] at hs
   subst hs
   have hjr:∀ t∈j::aR4 o.op,look t s.σ=look t s2.σ:=by
    rcases hx with hx|hx<;>(subst hx;exact ht)
   have hii:∀ id∈v.ids,look id s.h=look id s2.h:=by
    rcases hx with hx|hx<;>(subst hx;exact hi)
   have hjl:look j s.σ=look j s2.σ:=hjr j (by simp)
   have hpa2:=aw8 hjl
   rw [hpa] at hv hpa2
   have hv2:=am5 (s2:=s2) hv (fun t htm=>hjr t (by simp [htm])) hii
   simp only [hj,←Y3 hjl,hb,←hpa2,hv2,hu,if_false]
   rfl
end
end Go.VT
end
section
namespace Go.VT
noncomputable section
open Go.RowKit
variable {U:Univ} {E:Env U} {F:Fr} {n:Nat} {β:Nm} {s s':St U} {a:Act} {w:World} {o:Oper} {e:Eff U} {h:Obs U} {xs:List (Wr U)} {ops:Array Oper} {dr:Bool}
theorem aM4 {N:Nat}:∀ {r:List Oper} {ds:List (Option Tmp)},O7 N r ds=true→∀ k o,r[k]? =some o→al8 N (ds++(r.take k).map (·.dst)) o.dst=true
 |[],_,_,k,o,hk=>by simp at hk
 |p::r,ds,h,k,o,hk=>by
  simp only [O7,co7] at h
  match k,hk with
  |0,hk=>
   simp only [cp2,co4] at hk
   subst hk
   simpa using h.1
  |k+1,hk=>
   have:=aM4 h.2 k o (by simpa using hk)
   simpa [cr0] using this
def cn6 (pos:Nat→Nat) (dr:Bool) (k:Nat) (o:Oper):Prop:=
 (∀ g want,o.guard=some (g,want)→pos g<pos k)∧(dr=true→∀ e∈o.after.toList,Region.binds .any e=true→pos e.on<pos k)
theorem aM5 {pos:Nat→Nat} {dr:Bool}:∀ {r:List Oper} {k0:Nat},ahead pos dr r k0=true→∀ k o,r[k]? =some o→cn6 pos dr (k0+k) o
 |[],_,_,k,o,hk=>by simp at hk
 |p::r,k0,h,k,o,hk=>by
  simp only [ahead,co7] at h
  match k,hk with
  |0,hk=>
   simp only [cp2,co4] at hk
   subst hk
   refine ⟨fun g want hg=>?_,fun hdr e he hb=>?_⟩
   ·have h1:=h.1.1
    rw [hg] at h1
    exact cq7 h1
   ·have h2:=h.1.2
    rw [hdr] at h2
    simp only [Bool.not_true,Bool.false_or] at h2
    have:=cr4.1 h2 e he
    rw [hb] at this
    simp only [Bool.not_true,Bool.false_or] at this
    exact cq7 this
  |k+1,hk=>
   have:=aM5 h.2 k o (by simpa using hk)
   rwa [Nat.add_assoc,Nat.add_comm 1 k] at this
theorem aE9 {k:Nat}:∀ {l:List Nat},ay7 k l<l.length→l[ay7 k l]? =some k
 |[],h=>by simp [ay7] at h
 |x::r,h=>by
  unfold ay7 at h ⊢
  cases hx:Nat.beq x k with
  |true=>
   have:=co5 hx
   simp [this]
  |false=>
   rw [hx] at h
   simp only [cond_false,cq0] at h ⊢
   simpa using aE9 (l:=r) (by omega)
theorem ba8 {n:Nat} {idx:List Nat}:∀ {r:List Nat} {p0:Nat},okAt n idx r p0=true→∀ (p k:Nat),r[p]? =some k→k<n∧ay7 k idx=p0+p
 |[],_,_,p,k,h=>by simp at h
 |x::r,p0,hk,p,k,h=>by
  simp only [okAt,co7] at hk
  match p,h with
  |0,h=>
   simp only [cp2,co4] at h
   subst h
   exact ⟨cq7 hk.1.1,co5 hk.1.2⟩
  |p+1,h=>
   have:=ba8 hk.2 p k (by simpa using h)
   exact ⟨this.1,by omega⟩
structure Ord (ops:List Oper) (pos:Nat→Nat) (idx:List Nat) (os:List Oper):Prop where
 len:idx.length=ops.length
 at_:∀ k,k<ops.length→idx[pos k]? =some k
 num:∀ (p k:Nat),idx[p]? =some k→pos k=p∧k<ops.length
 os:∀ (p:Nat),os[p]? =(idx[p]?).bind (ops[·]?)
 back:∀ j,pos j<ops.length→j<ops.length
theorem aw9 {ops:List Oper}:∀ {idx:List Nat},(∀ k∈idx,k<ops.length)→∀ p:Nat,(al7 ops idx)[p]? =(idx[p]?).bind (ops[·]?)
 |[],_,p=>by simp [al7]
 |k::r,h,p=>by
  have hk:k<ops.length:=h k (by simp)
  simp only [al7,co6 hk]
  match p with
  |0=>simp [co6 hk]
  |p+1=>simpa using aw9 (idx:=r) (fun j hj=>h j (by simp [hj])) p
theorem ba9 {d:Bool} {ops:List Oper} (h:aB8 d ops=true):Ord ops (V9 d ops) (aY5 d ops) (osOf d ops)∧ahead (V9 d ops) d ops 0=true:=by
 unfold aB8 at h
 cases hn:ab6 d ops with
 |true=>
  have h1:V9 d ops=fun k=>k:=by funext k;simp [V9,hn]
  have h2:aY5 d ops=List.range ops.length:=by simp [aY5,hn]
  have h3:osOf d ops=ops:=by simp [osOf,hn]
  rw [h1,h2,h3]
  refine ⟨⟨by simp,fun k hk=>by simp [hk],fun p k hp=>?_,fun p=>?_,?_⟩,hn⟩
  ·by_cases hpl:p<ops.length
   ·rw [List.getElem?_range hpl] at hp
    simp only [co4] at hp
    subst hp
    exact ⟨rfl,hpl⟩
   ·rw [List.getElem?_eq_none (by simpa using hpl)] at hp
    cases hp
  ·by_cases hp:p<ops.length
   ·simp [hp]
   ·simp [hp]
  ·exact fun j hj=>hj
 |false=>
  rw [hn] at h
  simp only [Bool.false_or,co7,cj9] at h
  obtain ⟨⟨_,⟨h4,h5⟩,h6⟩,h7⟩:=h
  have h1:V9 d ops=fun k=>ay7 k (ak6 ops ops.length 0):=by funext k;simp [V9,hn]
  have h2:aY5 d ops=ak6 ops ops.length 0:=by simp [aY5,hn]
  have h3:osOf d ops=al7 ops (ak6 ops ops.length 0):=by simp [osOf,hn]
  rw [h1,h2,h3]
  generalize ak6 ops ops.length 0=idx at*
  have h4:=co5 h4
  have hnum:∀ (p k:Nat),idx[p]? =some k→ay7 k idx=p∧k<ops.length:=by
   intro p k hp
   have:=ba8 h5 p k hp
   exact ⟨by omega,this.1⟩
  refine ⟨⟨h4,fun k hk=>?_,hnum,aw9 fun k hk=>?_,fun j hj=>(hnum _ _ (aE9 (by omega))).2⟩,h7⟩
  ·have:=cr4.1 h6 k (by simpa using hk)
   have:=cq7 this
   exact aE9 (by omega)
  ·obtain ⟨p,hp⟩:=List.mem_iff_getElem?.1 hk
   exact (hnum p k hp).2
def bw7 (ms:Option (List Nat)) (p j:Nat):Prop:=∀ l,ms=some l→Nat.testBit (l.getD p 0) j=true
def ak2 (xs:List (Wr U)) (S:Nat→Prop):Prop:=∀ (j:Nat) (y:Wr U) (b:Bool×PanV U),S j→xs[j]? =some y→y.pan=some b→b.1=false
theorem aa5:∀ {ps:List (Nat×Bool)} {m:Option Nat} {q:Prop},aB7 ps m q→(∀ i b,(i,b)∈ps→(∀ m',m=some m'→Nat.testBit m' i=true)→b=false)→q
 |[],_,_,h,_=>h
 |(i,b)::r,m,q,h,hp=>by
  unfold aB7 at h
  cases m with
  |none=>exact aa5 (h (hp i b (by simp) (fun m' hm=>by cases hm))) (fun j c hj hh=>hp j c (by simp [hj]) hh)
  |some m'=>
   simp only at h
   cases hb:Nat.testBit m' i with
   |true=>
    rw [hb] at h
    simp only [cond_true] at h
    exact aa5 (h (hp i b (by simp) (fun m2 hm=>by simp only [co4] at hm;rw [←hm];exact hb))) (fun j c hj hh=>hp j c (by simp [hj]) hh)
   |false=>
    rw [hb] at h
    simp only [cond_false] at h
    exact aa5 h (fun j c hj hh=>hp j c (by simp [hj]) hh)
theorem aF0 {Qp:PanV U→Prop} {ms:Option (List Nat)} {q:Prop}:∀ {xs:List (Wr U)} {i0:Nat} {ps:List (Nat×Bool)},obls Qp ms xs i0 ps q→∀ {pre:List (Wr U)},pre.length=i0→(∀ i b,(i,b)∈ps→∃ y v,pre[i]? =some y∧y.pan=some (b,v))→
  (∀ (k:Nat) (x:Wr U),xs[k]? =some x→ak2 (pre++xs) (fun j=>j<i0+k∧bw7 ms (i0+k) j)→holds x.obl∧∀ b,x.pan=some b→b.1=true→Qp b.2)∧(ak2 (pre++xs) (fun _=>True)→q)
 |[],i0,ps,h,pre,hpre,hps=>by
  refine ⟨fun k x hx=>by simp at hx,fun hn=>aa5 h (fun i b hm _=>?_)⟩
  obtain ⟨y,v,h1,h2⟩:=hps i b hm
  exact hn i y (b,v) trivial (by rw [List.append_nil];exact h1) h2
 |x::r,i0,ps,h,pre,hpre,hps=>by
  have hund:∀ {p:Prop},aB7 ps (ms.map (·.getD i0 0)) p→ak2 (pre++x::r) (fun j=>j<i0+0∧bw7 ms (i0+0) j)→p:=by
   intro p hu hn
   refine aa5 hu (fun i b hm hbit=>?_)
   obtain ⟨y,v,h1,h2⟩:=hps i b hm
   have hil:i<pre.length:=(co9.1 h1).1
   refine hn i y (b,v) ⟨by omega,fun l hl=>?_⟩ (by rw [cq4 hil];exact h1) h2
   rw [hl] at hbit
   exact hbit _ rfl
  have hmono:∀ i b,(i,b)∈ps→∃ y v,(pre++[x])[i]? =some y∧y.pan=some (b,v):=by
   intro i b hm
   obtain ⟨y,v,h1,h2⟩:=hps i b hm
   have hil:i<pre.length:=(co9.1 h1).1
   exact ⟨y,v,by rw [cq4 hil];exact h1,h2⟩
  have hlast:(pre++[x])[i0]? =some x:=by rw [cq3 (by omega),hpre];simp
  have fin:∀ {ps':List (Nat×Bool)},(∀ i b,(i,b)∈ps'→∃ y v,(pre++[x])[i]? =some y∧y.pan=some (b,v))→obls Qp ms r (i0+1) ps' q→
    (ak2 (pre++x::r) (fun j=>j<i0+0∧bw7 ms (i0+0) j)→holds x.obl∧∀ b,x.pan=some b→b.1=true→Qp b.2)→
    (∀ (k:Nat) (y:Wr U),(x::r)[k]? =some y→ak2 (pre++x::r) (fun j=>j<i0+k∧bw7 ms (i0+k) j)→holds y.obl∧∀ b,y.pan=some b→b.1=true→Qp b.2)∧(ak2 (pre++x::r) (fun _=>True)→q):=by
   intro ps' hps' hr h0
   obtain ⟨h1,h2⟩:=aF0 hr (pre:=pre++[x]) (by simp [hpre]) hps'
   have hap:(pre++[x])++r=pre++x::r:=by simp
   rw [hap] at h1 h2
   refine ⟨fun k y hy hn=>?_,h2⟩
   match k,hy with
   |0,hy=>
    simp only [cp2,co4] at hy
    subst hy
    exact h0 hn
   |k+1,hy=>
    refine h1 k y (by simpa using hy) ?_
    rw [show i0+1+k=i0+(k+1) by omega]
    exact hn
  unfold obls at h
  cases hpan:x.pan with
  |none=>
   rw [hpan] at h
   simp only at h
   cases hob:x.obl with
   |none=>
    rw [hob] at h
    exact fin hmono h (fun _=>⟨by rw [hob];trivial,fun b hb=>by rw [hpan] at hb;cases hb⟩)
   |some p=>
    rw [hob] at h
    exact fin hmono h.2 (fun hn=>⟨by rw [hob];exact hund h.1 hn,fun b hb=>by rw [hpan] at hb;cases hb⟩)
  |some bv=>
   obtain ⟨b,v⟩:=bv
   rw [hpan] at h
   simp only at h
   have hps2:∀ i c,(i,c)∈ps++[(i0,b)]→∃ y v,(pre++[x])[i]? =some y∧y.pan=some (c,v):=by
    intro i c hm
    rcases cr1.1 hm with h1|h1
    ·exact hmono i c h1
    ·simp only [cp5,cp6] at h1
     obtain ⟨rfl,rfl⟩:=h1
     exact ⟨x,v,hlast,hpan⟩
   cases hob:x.obl with
   |none=>
    rw [hob] at h
    exact fin hps2 h.2 (fun hn=>⟨by rw [hob];trivial,fun b' hb' h1=>by rw [hpan] at hb';simp only [co4] at hb';subst hb';exact hund h.1 hn h1⟩)
   |some p=>
    rw [hob] at h
    exact fin hps2 h.2.2 (fun hn=>⟨by rw [hob];exact hund h.1 hn,fun b' hb' h1=>by rw [hpan] at hb';simp only [co4] at hb';subst hb';exact hund h.2.1 hn h1⟩)
structure Reg (E:Env U) (dr:Bool) (n:Nat) (ops:Array Oper) (pos:Nat→Nat) (os:List Oper) (ms:Option (List Nat)) (Qp:PanV U→Prop) (s:St U) (xs:List (Wr U)) (s':St U):Prop where
 run:Path E ops.toList os s xs s'
 ord:∃ idx,Ord ops.toList pos idx os
 ok:O7 n ops.toList []=true
 ahead:VT.ahead pos dr ops.toList 0=true
 obl:∀ (k:Nat) (x:Wr U),xs[k]? =some x→ak2 xs (fun j=>j<k∧bw7 ms k j)→holds x.obl∧∀ b,x.pan=some b→b.1=true→Qp b.2
variable {pos:Nat→Nat} {os:List Oper} {ms:Option (List Nat)} {Qp:PanV U→Prop}
theorem Reg.op (G:Reg E dr n ops pos os ms Qp s xs s') {k:Nat} {o:Oper} (ho:ops[k]? =some o):∃ x,xs[pos k]? =some x∧StepIs E ops.toList o ((xs.take (pos k)).foldl St.app s) x∧x.dst=o.dst:=by
 have h3:=G.run.step
 obtain ⟨idx,O⟩:=G.ord
 have hk:k<ops.toList.length:=by simpa using (cq2.1 ho).1
 obtain ⟨x,hx,hs⟩:=h3 (pos k) o (by rw [O.os,O.at_ k hk];simpa using ho)
 exact ⟨x,hx,hs,hs.dst⟩
theorem Reg.os_len (G:Reg E dr n ops pos os ms Qp s xs s'):os.length=ops.size:=by
 obtain ⟨idx,O⟩:=G.ord
 have hl:idx.length=ops.size:=by simpa using O.len
 have h1:∀ p,p<ops.size↔p<os.length:=by
  intro p
  constructor
  ·intro hp
   obtain ⟨k,hk⟩:∃ k,idx[p]? =some k:=⟨_,co6 (by omega)⟩
   have hkl:=(O.num p k hk).2
   have:=O.os p
   rw [hk,Option.bind_some,co6 hkl] at this
   exact (co9.1 this).1
  ·intro hp
   have:=O.os p
   rw [co6 hp] at this
   cases hi:idx[p]? with
   |none=>rw [hi] at this;cases this
   |some k=>have:=(co9.1 hi).1;omega
 have h2:=h1 os.length
 have h3:=h1 ops.size
 omega
theorem Reg.len (G:Reg E dr n ops pos os ms Qp s xs s'):xs.length=ops.size:=by
 rw [G.run.len,G.os_len]
theorem Reg.get (G:Reg E dr n ops pos os ms Qp s xs s') {p:Nat} {x:Wr U} (hx:xs[p]? =some x):∃ k o,pos k=p∧ops[k]? =some o∧x.dst=o.dst:=by
 have hp:p<xs.length:=(co9.1 hx).1
 rw [G.len] at hp
 obtain ⟨idx,O⟩:=G.ord
 have hl:idx.length=ops.size:=by simpa using O.len
 obtain ⟨k,hk⟩:∃ k,idx[p]? =some k:=⟨_,co6 (by omega)⟩
 obtain ⟨h1,h2⟩:=O.num p k hk
 have hkl:k<ops.size:=by simpa using h2
 obtain ⟨y,hy,_,hd⟩:=G.op (cq1 hkl)
 rw [h1,hx] at hy
 simp only [co4] at hy
 subst hy
 exact ⟨k,_,h1,cq1 hkl,hd⟩
theorem Reg.inj (G:Reg E dr n ops pos os ms Qp s xs s') {j k:Nat} (hj:j<ops.size) (hk:k<ops.size) (h:pos j=pos k):j=k:=by
 obtain ⟨idx,O⟩:=G.ord
 have h1:=O.at_ j (by simpa using hj)
 have h2:=O.at_ k (by simpa using hk)
 rw [h,h2] at h1
 simpa using h1.symm
theorem Reg.lt (G:Reg E dr n ops pos os ms Qp s xs s') {k:Nat} (hk:k<ops.size):pos k<ops.size:=by
 obtain ⟨idx,O⟩:=G.ord
 have h1:=O.at_ k (by simpa using hk)
 have:=(co9.1 h1).1
 have hl:idx.length=ops.size:=by simpa using O.len
 omega
theorem Reg.back (G:Reg E dr n ops pos os ms Qp s xs s') {j:Nat} (hj:pos j<ops.size):j<ops.size:=by
 obtain ⟨idx,O⟩:=G.ord
 simpa using O.back j (by simpa using hj)
theorem Reg.okOp (G:Reg E dr n ops pos os ms Qp s xs s') {k:Nat} {o:Oper} (ho:ops[k]? =some o):
  (∀ d,o.dst=some d→d<n∧∀ (j:Nat) (o':Oper),j<k→ops[j]? =some o'→o'.dst≠some d)∧(∀ g want,o.guard=some (g,want)→pos g<pos k)∧(dr=true→∀ e∈o.after.toList,Region.binds .any e=true→pos e.on<pos k):=by
 have h1:=aM4 G.ok k o (by rw [Array.getElem?_toList];exact ho)
 have hk:k<ops.size:=(cq2.1 ho).1
 have h2:=aM5 G.ahead k o (by rw [Array.getElem?_toList];exact ho)
 rw [Nat.zero_add] at h2
 refine ⟨fun d hd=>?_,h2⟩
 rw [hd] at h1
 simp only [al8,co7] at h1
 refine ⟨cq7 h1.1,fun j o' hj ho' hd'=>?_⟩
 have hm:some d∈[]++(ops.toList.take k).map (fun x:Oper=>x.dst):=by
  simp only [List.nil_append,List.mem_map]
  refine ⟨o',?_,hd'⟩
  rw [List.mem_iff_getElem?]
  exact ⟨j,by rw [List.getElem?_take,if_pos hj,Array.getElem?_toList];exact ho'⟩
 have:=cr4.1 h1.2 _ hm
 simp at this
theorem Reg.one (G:Reg E dr n ops pos os ms Qp s xs s') {j k:Nat} {x y:Wr U} (hx:xs[j]? =some x) (hy:xs[k]? =some y) {d:Nat} (hxd:x.dst=some d) (hyd:y.dst=some d):j=k:=by
 obtain ⟨kj,o,hj,ho,h1⟩:=G.get hx
 obtain ⟨kk,o',hk,ho',h2⟩:=G.get hy
 rcases Nat.lt_trichotomy kj kk with h|h|h
 ·exact absurd (h1▸hxd) (((G.okOp ho').1 d (h2▸hyd)).2 kj o h ho)
 ·rw [←hj,←hk,h]
 ·exact absurd (h2▸hyd) (((G.okOp ho).1 d (h1▸hxd)).2 kk o' h ho')
def Dset (S:Nat→Bool) (xs:List (Wr U)) (d:Nat):Prop:=∃ j x,xs[j]? =some x∧S j=true∧x.dst=some d
theorem aF1 {d:Option Tmp} {l:List Nat}:aR6 d l=true↔∃ t,d=some t∧t∈l:=by
 cases d with
 |none=>simp [aR6]
 |some t=>
  simp only [aR6,List.any_eq_true,co4]
  constructor
  ·rintro ⟨x,hx,he⟩
   have:=co5 he
   subst this
   exact ⟨t,rfl,hx⟩
  ·rintro ⟨t',rfl,ht⟩
   exact ⟨t,ht,Nat.beq_refl t⟩
theorem aF2 {a b:List Nat}:Z8 a b=true↔∃ t,t∈a∧t∈b:=by
 simp only [Z8,List.any_eq_true]
 constructor
 ·rintro ⟨x,hx,y,hy,he⟩
  have:=co5 he
  subst this
  exact ⟨x,hx,hy⟩
 ·rintro ⟨t,h1,h2⟩
  exact ⟨t,h1,t,h2,Nat.beq_refl t⟩
theorem core {Y:Fr} {ro:Option Nat} (hE:E.Fits) (hG:E.Sound Y) (hY:P0 Y F E.yl) (hFG:F.G=E.G) (G:Reg E dr n ops pos os ms Qp s xs s') {S:Nat→Bool} {k:Nat} {o:Oper} (ho:ops[k]? =some o) {x:Wr U} (hx:xs[pos k]? =some x) (hSk:S (pos k)=false)
  (h1:∀ (j:Nat) (y:Wr U),xs[j]? =some y→j<pos k→aK3 y x=true→S j=true) (h2:∀ (j:Nat) (y:Wr U),xs[j]? =some y→pos k<j→S j=true→aK3 x y=false)
  (hN:ak2 xs (fun j=>S j=true)) (hmask:∀ j,j<pos k→bw7 ms (pos k) j→S j=true)
  (R:Rel F n β (stS S xs 0 s) a.tmps w) (hO:OptIn (Dset S xs) (stS S xs 0 s).σ) {K:Act→World→Prop} {Q:Exit→Act→World→Prop}
  (hK:∀ β' a' w',ak2 xs (fun j=>K5 S (pos k) j=true)→Rel F n β' (stS (K5 S (pos k)) xs 0 s) a'.tmps w'→OptIn (Dset (K5 S (pos k)) xs) (stS (K5 S (pos k)) xs 0 s).σ→a'.defers=a.defers→K a' w')
  (hP:∀ v u w',(∃ b,x.pan=some b)→Qp v→ap8 v u→Below F.B w w'→(∀ blk,blk<w.heap.size→(∀ id∈keys x.upd++x.lost,∀ o,look id (stS S xs 0 s).h=some o→o.live=true→¬ Has (β id) blk)→w'.heap[blk]? =w.heap[blk]?)→Q (.panic [{ v:=u,recovered:=false }]) a w'):wpOpIn (fen E.P ro) 0 E.P ops Q k K a w:=by
 obtain ⟨y,hy,hstep,hdst⟩:=G.op ho
 rw [hx] at hy
 simp only [co4] at hy
 subst hy
 rw [aS7 (i:=0)] at hstep
 have hkeys:=hstep.keys
 have clash1:∀ (j:Nat) (y:Wr U),xs[j]? =some y→(aR6 y.dst x.rds=true∨Z8 (keys y.upd) x.ids=true)→S j=decide (j<0+pos k):=by
  intro j y hyj hc
  rcases Nat.lt_trichotomy j (pos k) with h|h|h
  ·rw [h1 j y hyj h (by rcases hc with hc|hc<;>simp [aK3,hc])]
   simp [h]
  ·subst h;rw [hSk];simp
  ·cases hS:S j with
   |false=>simp;omega
   |true=>
    have:=h2 j y hyj h hS
    simp only [aK3,Bool.or_eq_false_iff] at this
    rcases hc with hc|hc
    ·rw [hc] at this;simp at this
    ·rw [hc] at this;simp at this
 have hstep2:StepIs E ops.toList o (stS S xs 0 s) x:=by
  refine hstep.congr (fun t ht=>?_) (fun id hid=>?_)
  ·refine (c1s rfl (fun j y hyj hd=>?_)).symm
   rw [Nat.zero_add]
   exact clash1 j y hyj (.inl (aF1.2 ⟨t,hd,ht⟩))
  ·refine (c1h rfl (fun j y hyj hd=>?_)).symm
   rw [Nat.zero_add]
   exact clash1 j y hyj (.inr (aF2.2 ⟨id,hd,hid⟩))
 have hok:=G.okOp ho
 have hfact:x.holds:=G.run.fact x (List.mem_iff_getElem?.2 ⟨_,hx⟩)
 have hobl:=G.obl _ x hx (fun j y b hj hy hb=>hN j y b (hmask j hj.1 hj.2) hy hb)
 have hstep3:=hstep2
 obtain ⟨alt,halt,hhas⟩:=hstep2
 have hmain:=cb5 (K:=K) (Q:=Q) (ro:=ro) hE hG hY hFG (ops:=ops) R hO halt hhas hfact hobl.1 (fun d hd=>⟨(hok.1 d hd).1,?_⟩) (fun i want j hg hj=>?_) (fun β' a' w' hpan R' hO' hdef=>?_) (fun b hb h1 u w' h2 h3 h4=>hP b.2 u w' ⟨b,hb⟩ (hobl.2 b hb h1) h2 h3 h4)
 ·unfold wpOpIn
  rw [ho]
  dsimp only
  by_cases hw:Region.wanted o (yielded ops a.tmps)=true
  ·rw [if_pos hw] at hmain ⊢
   exact hmain
  ·rw [if_neg hw] at hmain ⊢
   exact hmain
 ·rintro ⟨j,y,hyj,hSj,hyd⟩
  have:=G.one hyj hx hyd (hdst.trans hd)
  subst this
  rw [hSk] at hSj
  cases hSj
 ·have hik:=hok.2.1 i want hg
  have hoi:∃ oi,ops[i]? =some oi:=by
   unfold V8 at hj
   rw [Array.getElem?_toList] at hj
   cases hoi:ops[i]? with
   |none=>rw [hoi] at hj;cases hj
   |some oi=>exact ⟨oi,rfl⟩
  obtain ⟨oi,hoi⟩:=hoi
  obtain ⟨y,hyi,_,hyd⟩:=G.op hoi
  have hj':oi.dst=some j:=by
   unfold V8 at hj
   rw [Array.getElem?_toList,hoi] at hj
   exact hj
  exact ⟨pos i,y,hyi,h1 (pos i) y hyi hik (by
   have:aR6 y.dst x.rds=true:=aF1.2 ⟨j,hyd.trans hj',hstep.guard hg hj⟩
   simp [aK3,this]),hyd.trans hj'⟩
 ·have hk0:S (0+pos k)=false:=by rw [Nat.zero_add];exact hSk
  have hsame:Same ((stS S xs 0 s).app x) (stS (K5 S (pos k)) xs 0 s):=by
   refine ⟨fun t=>?_,fun id=>?_⟩
   ·have:=c2s (t:=t) (S:=S) (xs:=xs) (i:=0) (k:=pos k) (s:=s) hx hk0 (fun j y hyj hkj _ hxd hyd=>by
     have:=G.one hx hyj hxd hyd
     omega)
    rw [Nat.zero_add] at this
    exact this.symm
   ·have:=c2h (t:=id) (S:=S) (xs:=xs) (i:=0) (k:=pos k) (s:=s) hx hk0 (fun j y hyj hkj hSj hxk hyk=>by
     rw [Nat.zero_add] at hSj
     have hc:=h2 j y hyj hkj hSj
     obtain ⟨kj,oj,hkj2,hoj,_⟩:=G.get hyj
     obtain ⟨y',hy',hst,_⟩:=G.op hoj
     rw [hkj2,hyj] at hy'
     simp only [co4] at hy'
     subst hy'
     have:Z8 (keys x.upd) y.ids=true:=aF2.2 ⟨id,hxk,hst.keys id hyk⟩
     simp [aK3,this] at hc)
    rw [Nat.zero_add] at this
    exact this.symm
  refine hK β' a' w' (fun j y b hj hy hb=>?_) (R'.same hsame) ((hO'.mono (fun d hd=>?_)).same hsame) hdef
  ·simp only [K5,Bool.or_eq_true,beq_iff_eq] at hj
   rcases hj with hj|hj
   ·exact hN j y b hj hy hb
   ·subst hj
    rw [hx] at hy
    simp only [co4] at hy
    subst hy
    exact hpan b hb
  ·rcases hd with ⟨j,y,hyj,hSj,hyd⟩|hd
   ·exact ⟨j,y,hyj,by simp [K5,hSj],hyd⟩
   ·exact ⟨pos k,x,hx,by simp [K5],hdst.trans hd⟩
theorem Reg.all (G:Reg E dr n ops pos os ms Qp s xs s') {S:Nat→Bool} (hS:∀ j,j<ops.size→S j=true):Same (stS S xs 0 s) s':=by
 have h2:=G.run.fin
 have:s'=stS (fun j=>decide (j<0+xs.length)) xs 0 s:=by rw [h2,←aS7,cr2]
 have hj:∀ (j:Nat) (x:Wr U),xs[j]? =some x→S (0+j)=decide (0+j<0+xs.length):=by
  intro j x hx
  have hlt:j<xs.length:=by
   by_cases hlt:j<xs.length
   ·exact hlt
   ·rw [List.getElem?_eq_none (by omega)] at hx;cases hx
  rw [Nat.zero_add,hS j (by rw [←G.len];exact hlt)]
  simp [hlt]
 rw [this]
 exact ⟨fun t=>c1s rfl (fun j x hx _=>hj j x hx),fun id=>c1h rfl (fun j x hx _=>hj j x hx)⟩
def cb6 (F:Fr) (n:Nat) (ms:Option (List Nat)) (xs:List (Wr U)) (s:St U) (ds:List Deferred) (Qp:PanV U→Prop) (Q:Exit→Act→World→Prop):Prop:=
 ∀ (S:Nat→Bool) (k:Nat) (x:Wr U) (β:Nm) (a:Act) (w w':World) (v:PanV U) (u:Value),xs[k]? =some x→Rel F n β (stS S xs 0 s) a.tmps w→OptIn (Dset S xs) (stS S xs 0 s).σ→a.defers=ds→(∃ b,x.pan=some b)→(∀ j,S j=true→j≠k∧as9 ms j k=false)→S k=false→Qp v→ap8 v u→Below F.B w w'→
  (∀ blk,blk<w.heap.size→(∀ id∈keys x.upd++x.lost,∀ o,look id (stS S xs 0 s).h=some o→o.live=true→¬ Has (β id) blk)→w'.heap[blk]? =w.heap[blk]?)→Q (.panic [{ v:=u,recovered:=false }]) a w'
theorem bj4 {Y:Fr} {ro:Option Nat} (hE:E.Fits) (hG:E.Sound Y) (hY:P0 Y F E.yl) (hFG:F.G=E.G) (G:Reg E dr n ops pos os none Qp s xs s') (hpos:∀ k,pos k=k) {Q:Exit→Act→World→Prop} {ds:List Deferred} (hQ:ak2 xs (fun _=>True)→∀ β' a' w',Rel F n β' s' a'.tmps w'→OptIn (Dset (fun _=>true) xs) s'.σ→a'.defers=ds→Q .normal a' w') (hFl:cb6 F n none xs s ds Qp Q):
  ∀ (m k:Nat),k+m=ops.size→∀ β a w,ak2 xs (fun j=>j<k)→Rel F n β (stS (fun j=>decide (j<k)) xs 0 s) a.tmps w→OptIn (Dset (fun j=>decide (j<k)) xs) (stS (fun j=>decide (j<k)) xs 0 s).σ→a.defers=ds→wpOpsIn (fen E.P ro) 0 E.P ops Q (List.range' k m) a w
 |0,k,hk,β,a,w,hN,R,hO,hd=>by
  have hs:=G.all (S:=fun j=>decide (j<k)) (fun j hj=>by simp;omega)
  refine hQ (fun j y b _ hy hb=>hN j y b ?_ hy hb) β a w (R.same hs) ((hO.mono (fun d ⟨j,x,h1,_,h3⟩=>⟨j,x,h1,rfl,h3⟩)).same hs) hd
  have:=(co9.1 hy).1
  rw [G.len] at this
  omega
 |m+1,k,hk,β,a,w,hN,R,hO,hd=>by
  rw [List.range'_succ,wpOpsIn_cons]
  have hkl:k<ops.size:=by omega
  obtain ⟨x,hx,_⟩:=G.op (cq1 hkl)
  have hw1:K5 (fun j=>decide (j<k)) k=fun j=>decide (j<k+1):=by
   funext j
   unfold K5
   by_cases h1:j<k
   ·simp [h1];omega
   ·by_cases h2:j=k
    ·simp [h2]
    ·have:(j==k)=false:=by simpa using h2
     simp [h1,this];omega
  refine core hE hG hY hFG G (cq1 hkl) hx (by rw [hpos];simp) (fun j y _ hj _=>by rw [hpos] at hj;simp [hj]) (fun j y _ hj hS=>by rw [hpos] at hj;simp at hS;omega) (fun j y b hj hy hb=>hN j y b (by simpa using hj) hy hb) (fun j hj _=>by rw [hpos] at hj;simp [hj]) R hO (fun β' a' w' hN' R' hO' hdef=>?_)
   (fun v u w' h0 h1 h2 h3 h4=>hFl _ _ x β a w w' v u hx R hO hd h0 (fun j hj=>by
    rw [hpos]
    have hj:j<k:=by simpa using hj
    exact ⟨by omega,by show Nat.blt k j=false;cases hb:Nat.blt k j with
     |false=>rfl
     |true=>have:=cq7 hb;omega⟩) (by rw [hpos];simp) h1 h2 h3 h4)
  rw [hpos,hw1] at R' hO' hN'
  exact bj4 hE hG hY hFG G hpos hQ hFl m (k+1) (by omega) β' a' w' (fun j y b hj hy hb=>hN' j y b (by simpa using hj) hy hb) R' hO' (hdef.trans hd)
theorem aq6 {xs:List (Wr U)} {s:St U}:stS (fun j=>decide (j<0)) xs 0 s=s:=by
 have:(fun j:Nat=>decide (j<0))=fun _=>false:=by funext j;simp
 rw [this,Y2]
end
end Go.VT
end
section
namespace Go.VT
noncomputable section
open Go.RowKit
variable {U:Univ} {E:Env U} {F:Fr} {n:Nat} {β:Nm} {s s':St U} {a:Act} {w:World} {o:Oper} {e:Eff U} {h:Obs U} {xs:List (Wr U)} {ops:Array Oper} {pos:Nat→Nat} {os:List Oper} {ms:Option (List Nat)} {Qp:PanV U→Prop}
theorem br7 {acc:List Nat} {i:Nat}:∀ {l:List Edge} {m:Nat},Nat.testBit (l.foldl (fun m e=>bif Region.binds .any e then Nat.lor m (Nat.lor (2 ^ (pos e.on)) (acc.getD (pos e.on) 0)) else m) m) i=true→
  Nat.testBit m i=true∨∃ e∈l,Region.binds .any e=true∧(pos e.on=i∨Nat.testBit (acc.getD (pos e.on) 0) i=true)
 |[],m,h=>.inl h
 |e::l,m,h=>by
  rcases br7 (l:=l) h with h1|⟨e',he,hb,h2⟩
  ·cases hb:Region.binds .any e with
   |false=>simp only [hb,cond_false] at h1;exact .inl h1
   |true=>
    simp only [hb,cond_true] at h1
    have h1:Nat.testBit (m|||(2 ^ (pos e.on)|||acc.getD (pos e.on) 0)) i=true:=h1
    rw [Nat.testBit_or,Nat.testBit_or,Nat.testBit_two_pow] at h1
    simp only [Bool.or_eq_true,cq6] at h1
    rcases h1 with h1|h1|h1
    ·exact .inl h1
    ·exact .inr ⟨e,by simp,hb,.inl h1⟩
    ·exact .inr ⟨e,by simp,hb,.inr h1⟩
  ·exact .inr ⟨e',by simp [he],hb,h2⟩
theorem aM6:∀ {r:List Oper} {acc:List Nat},(∃ l,O4 pos r acc=acc++l∧l.length=r.length)∧∀ k o,r[k]? =some o→(O4 pos r acc)[acc.length+k]? =some (mask pos ((O4 pos r acc).take (acc.length+k)) o)
 |[],acc=>⟨⟨[],by simp [O4],rfl⟩,by simp⟩
 |o::r,acc=>by
  obtain ⟨⟨l,h1,h2⟩,h3⟩:=aM6 (r:=r) (acc:=acc++[mask pos acc o])
  refine ⟨⟨mask pos acc o::l,by simp [O4,h1],by simp [h2]⟩,fun k o' hk=>?_⟩
  match k,hk with
  |0,hk=>
   simp only [cp2,co4] at hk
   subst hk
   simp [O4,h1]
  |k+1,hk=>
   have:=h3 k o' (by simpa using hk)
   simp only [cq5,cq8] at this
   rw [show acc.length+(k+1)=acc.length+1+k by omega]
   exact this
theorem ax0 {y:Wr U} {m:Nat}:∀ {l:List (Wr U)} {i0:Nat},aB9 y m l i0=true→∀ i x,l[i]? =some x→aK3 x y=true→Nat.testBit m (i0+i)=true
 |[],_,_,i,x,hx,_=>by simp at hx
 |z::l,i0,h,i,x,hx,hc=>by
  simp only [aB9,co7,Bool.or_eq_true,Bool.not_eq_true'] at h
  match i,hx with
  |0,hx=>
   simp only [cp2,co4] at hx
   subst hx
   rcases h.1 with h1|h1
   ·rw [hc] at h1;cases h1
   ·exact h1
  |i+1,hx=>
   have:=ax0 h.2 i x (by simpa using hx) hc
   rwa [Nat.add_assoc,Nat.add_comm 1 i] at this
theorem aM7:∀ {ys:List (Wr U)} {ms:List Nat} {done:List (Wr U)},aK4 done ys ms=true→∀ k y,ys[k]? =some y→∃ m,ms[k]? =some m∧aB9 y m (done++ys.take k) 0=true
 |[],_,_,_,k,y,hy=>by simp at hy
 |z::ys,[],_,h,_,_,_=>by simp [aK4] at h
 |z::ys,m::ms,done,h,k,y,hy=>by
  simp only [aK4,co7] at h
  match k,hy with
  |0,hy=>
   simp only [cp2,co4] at hy
   subst hy
   exact ⟨m,rfl,by simpa using h.1⟩
  |k+1,hy=>
   obtain ⟨m',h1,h2⟩:=aM7 h.2 k y (by simpa using hy)
   exact ⟨m',by simpa using h1,by simpa [cr0] using h2⟩
def left (S:Nat→Bool):Nat→Nat
 |0=>0
 |n+1=>left S n+(if S n=true then 0 else 1)
theorem bb0 {S:Nat→Bool}:∀ {n:Nat},left S n=0→∀ j,j<n→S j=true
 |0,_,j,hj=>by omega
 |n+1,h,j,hj=>by
  simp only [left] at h
  by_cases hn:S n=true
  ·rcases Nat.lt_succ_iff_lt_or_eq.1 hj with h1|h1
   ·exact bb0 (by omega) j h1
   ·rw [h1];exact hn
  ·rw [if_neg hn] at h;omega
theorem bb1 {S:Nat→Bool} {i:Nat}:∀ {n:Nat},(n≤i→left (K5 S i) n=left S n)∧(i<n→S i=false→left (K5 S i) n+1=left S n)
 |0=>⟨fun _=>rfl,fun h=>by omega⟩
 |n+1=>by
  obtain ⟨h1,h2⟩:=bb1 (S:=S) (i:=i) (n:=n)
  have hw:∀ j,j≠i→K5 S i j=S j:=by
   intro j hj
   have:(j==i)=false:=by simpa using hj
   simp [K5,this]
  refine ⟨fun h=>?_,fun h hS=>?_⟩
  ·simp only [left]
   rw [h1 (by omega),hw n (by omega)]
  ·simp only [left]
   by_cases hn:n=i
   ·subst hn
    rw [h1 (Nat.le_refl _),hS,if_pos (by simp [K5])]
    simp
   ·rw [hw n hn]
    have:=h2 (by omega) hS
    omega
theorem bb2:∀ {n:Nat},left (fun _=>false) n=n
 |0=>rfl
 |n+1=>by simp [left,bb2]
def bb3 (listed:Array Bool):Option Nat→Bool
 |some k=>listed.getD k false
 |none=>false
def T0 (idx:List Nat) (listed:Array Bool):Nat→Bool:=fun p=>bb3 listed idx[p]?
theorem cb7 {idx:List Nat} {ops:List Oper} (O:Ord ops pos idx os) (listed:Array Bool) {k:Nat} (hk:k<ops.length):T0 idx listed (pos k)=listed.getD k false:=by
 unfold T0
 rw [O.at_ k hk]
 rfl
theorem bS6 {idx:List Nat} {ops:List Oper} (O:Ord ops pos idx os) {listed:Array Bool} {i:Nat} (hi:i<listed.size) (hio:i<ops.length):T0 idx (listed.setIfInBounds i true)=K5 (T0 idx listed) (pos i):=by
 funext p
 unfold K5
 show bb3 (listed.setIfInBounds i true) idx[p]? =(bb3 listed idx[p]? ||p==pos i)
 cases hp:idx[p]? with
 |none=>
  have:(p==pos i)=false:=by
   rw [beq_eq_false_iff_ne]
   intro h
   rw [h,O.at_ i hio] at hp
   cases hp
  rw [this]
  rfl
 |some k=>
  show (listed.setIfInBounds i true).getD k false=(listed.getD k false||p==pos i)
  by_cases h:k=i
  ·subst h
   have:(p==pos k)=true:=by simpa using (O.num p k hp).1.symm
   rw [this,Array.getD_eq_getD_getElem?]
   simp [hi]
  ·have:(p==pos i)=false:=by
    rw [beq_eq_false_iff_ne]
    intro h2
    rw [h2,O.at_ i hio] at hp
    simp only [co4] at hp
    exact h hp.symm
   rw [this,Bool.or_false]
   rw [Array.getD_eq_getD_getElem?,Array.getD_eq_getD_getElem?,Array.getElem?_setIfInBounds_ne (Ne.symm h)]
def bZ5 (ops:Array Oper) (pos:Nat→Nat) (S:Nat→Bool):Prop:=∀ j o,S (pos j)=true→ops[j]? =some o→∀ e∈o.after.toList,Region.binds .any e=true→S (pos e.on)=true
theorem Reg.osat (G:Reg E true n ops pos os ms Qp s xs s') {k:Nat} {o:Oper} (ho:ops[k]? =some o):os[pos k]? =some o:=by
 obtain ⟨idx,O⟩:=G.ord
 have hk:k<ops.toList.length:=by simpa using (cq2.1 ho).1
 rw [O.os,O.at_ k hk]
 simpa using ho
theorem aA5 (G:Reg E true n ops pos os ms Qp s xs s') {S:Nat→Bool} (hC:bZ5 ops pos S):∀ (p k:Nat) (o:Oper),pos k=p→ops[k]? =some o→(∀ e∈o.after.toList,Region.binds .any e=true→S (pos e.on)=true)→
  ∀ m i,(O4 pos os [])[p]? =some m→Nat.testBit m i=true→S i=true:=by
 intro p
 induction p using Nat.strongRecOn with
 |ind p ih=>
  intro k o hpk ho he m i hm hbit
  subst hpk
  have hspec:=(aM6 (pos:=pos) (r:=os) (acc:=[])).2 (pos k) o (G.osat ho)
  simp only [List.length_nil,Nat.zero_add] at hspec
  rw [hm] at hspec
  simp only [co4] at hspec
  rw [hspec] at hbit
  rcases br7 hbit with h1|⟨e,hel,hb,h1⟩
  ·simp at h1
  ·have hon:=(G.okOp ho).2.2 rfl e hel hb
   have hSe:=he e hel hb
   rcases h1 with h1|h1
   ·rw [←h1];exact hSe
   ·have hoe:∃ o',ops[e.on]? =some o':=⟨_,cq1 (G.back (Nat.lt_trans hon (G.lt (cq2.1 ho).1)))⟩
    obtain ⟨o',ho'⟩:=hoe
    cases hme:(O4 pos os [])[pos e.on]? with
    |none=>
     rw [cp8,List.getElem?_take,if_pos hon,hme] at h1
     simp at h1
    |some m'=>
     rw [cp8,List.getElem?_take,if_pos hon,hme] at h1
     exact ih (pos e.on) hon e.on o' rfl ho' (fun e' he' hb'=>hC e.on o' hSe ho' e' he' hb') m' i hme h1
theorem ck2 {Y:Fr} {ro:Option Nat} (hE:E.Fits) (hG:E.Sound Y) (hY:P0 Y F E.yl) (hFG:F.G=E.G) (G:Reg E true n ops pos os (some (O4 pos os [])) Qp s xs s') {idx:List Nat} (O:Ord ops.toList pos idx os) (hI:aK4 [] xs (O4 pos os [])=true) {Q:Exit→Act→World→Prop} {ds:List Deferred}
  (hQ:ak2 xs (fun _=>True)→∀ β' a' w',Rel F n β' s' a'.tmps w'→OptIn (Dset (fun _=>true) xs) s'.σ→a'.defers=ds→Q .normal a' w') (hFl:cb6 F n (some (O4 pos os [])) xs s ds Qp Q):
  ∀ (fuel:Nat) (listed:Array Bool),listed.size=ops.size→bZ5 ops pos (T0 idx listed)→left (T0 idx listed) ops.size=fuel→ak2 xs (fun j=>T0 idx listed j=true)→∀ β a w,Rel F n β (stS (T0 idx listed) xs 0 s) a.tmps w→OptIn (Dset (T0 idx listed) xs) (stS (T0 idx listed) xs 0 s).σ→
   a.defers=ds→wpAnyIn (fen E.P ro) 0 E.P .any ops Q fuel listed a w:=by
 have hclash:∀ (j k:Nat) (x y:Wr U),xs[j]? =some x→xs[k]? =some y→j<k→aK3 x y=true→∃ m,(O4 pos os [])[k]? =some m∧Nat.testBit m j=true:=by
  intro j k x y hx hy hjk hc
  obtain ⟨m,hm,hat⟩:=aM7 hI k y hy
  refine ⟨m,hm,?_⟩
  have:=ax0 hat j x (by rw [List.nil_append,List.getElem?_take,if_pos hjk];exact hx) hc
  rwa [Nat.zero_add] at this
 have hfin:∀ (S:Nat→Bool),(∀ j,j<ops.size→S j=true)→ak2 xs (fun j=>S j=true)→∀ β a w,Rel F n β (stS S xs 0 s) a.tmps w→OptIn (Dset S xs) (stS S xs 0 s).σ→a.defers=ds→Q .normal a w:=by
  intro S hS hN β a w R hO hd
  have hs:=G.all hS
  refine hQ (fun j y b _ hy hb=>hN j y b (hS j ?_) hy hb) β a w (R.same hs) ((hO.mono (fun d ⟨j,x,h1,_,h3⟩=>⟨j,x,h1,rfl,h3⟩)).same hs) hd
  have:=(co9.1 hy).1
  rw [G.len] at this
  exact this
 have hat:∀ (listed:Array Bool) {k:Nat},k<ops.size→T0 idx listed (pos k)=listed.getD k false:=fun listed {k} hk=>cb7 O listed (by simpa using hk)
 have hidx:∀ p,p<ops.size→∃ k,idx[p]? =some k∧pos k=p∧k<ops.size:=by
  intro p hp
  have hl:idx.length=ops.size:=by simpa using O.len
  obtain ⟨k,hk⟩:∃ k,idx[p]? =some k:=⟨_,co6 (by omega)⟩
  have:=O.num p k hk
  exact ⟨k,hk,this.1,by simpa using this.2⟩
 intro fuel
 induction fuel with
 |zero=>
  intro listed hsz hC hl hN β a w R hO hd
  have hall:=bb0 hl
  refine ⟨?_,hfin _ hall hN β a w R hO hd⟩
  unfold Region.ready
  rw [List.filter_eq_nil_iff]
  intro i hi
  have hi:=List.mem_range.1 hi
  have:=hall (pos i) (G.lt hi)
  rw [hat listed hi] at this
  have hlt:i<listed.size:=by omega
  have h1:listed.getD i true=true:=by
   rw [Array.getD_eq_getD_getElem?,cq1 hlt] at this ⊢
   exact this
  simp [h1]
 |succ fuel ih=>
  intro listed hsz hC hl hN β a w R hO hd
  have hready:∀ i,i∈Region.ready .any ops listed↔i<ops.size∧listed.getD i false=false∧∃ o,ops[i]? =some o∧∀ e∈o.after.toList,Region.binds .any e=true→listed.getD e.on false=true:=by
   intro i
   unfold Region.ready
   simp only [List.mem_filter,List.mem_range,co7,Bool.not_eq_true']
   constructor
   ·rintro ⟨h1,h2,h3⟩
    have hlt:i<listed.size:=by omega
    refine ⟨h1,?_,ops[i],cq1 h1,fun e he hb=>?_⟩
    ·rw [Array.getD_eq_getD_getElem?,cq1 hlt] at h2 ⊢
     exact h2
    ·rw [cq1 h1] at h3
     simp only [Option.map_some,Option.getD_some] at h3
     have:=Array.all_eq_true.1 h3
     obtain ⟨q,hq,hqe⟩:=List.mem_iff_getElem.1 he
     have h4:=this q (by simpa using hq)
     rw [show ops[i].after[q]=e from by rw [←hqe];simp] at h4
     rw [hb] at h4
     simpa using h4
   ·rintro ⟨h1,h2,o,ho,he⟩
    have hlt:i<listed.size:=by omega
    refine ⟨h1,?_,?_⟩
    ·rw [Array.getD_eq_getD_getElem?,cq1 hlt] at h2 ⊢
     exact h2
    ·rw [ho]
     simp only [Option.map_some,Option.getD_some]
     rw [Array.all_eq_true]
     intro q hq
     cases hb:Region.binds .any o.after[q] with
     |false=>simp
     |true=>
      have:=he o.after[q] (Array.getElem_mem_toList hq) hb
      simpa using this
  have hon:∀ {k:Nat} {o:Oper},ops[k]? =some o→∀ e∈o.after.toList,Region.binds .any e=true→e.on<ops.size:=fun {k o} ho e he hb=>G.back (Nat.lt_trans ((G.okOp ho).2.2 rfl e he hb) (G.lt (cq2.1 ho).1))
  refine ⟨fun hnil=>?_,fun i hi=>?_⟩
  ·refine hfin _ (fun j hj=>?_) hN β a w R hO hd
   have hmin:∀ k,∀ j,j<k→j<ops.size→T0 idx listed j=true:=by
    intro k
    induction k with
    |zero=>intro j hj;omega
    |succ k ihk=>
     intro j hj hjo
     rcases Nat.lt_succ_iff_lt_or_eq.1 hj with h1|h1
     ·exact ihk j h1 hjo
     ·subst h1
      cases hd:T0 idx listed j with
      |true=>rfl
      |false=>
       exfalso
       obtain ⟨q,hq,hqj,hql⟩:=hidx j hjo
       rw [←hqj,hat listed hql] at hd
       have:q∈Region.ready .any ops listed:=(hready q).2 ⟨hql,hd,ops[q],cq1 hql,fun e he hb=>by
        have h1:=(G.okOp (cq1 hql)).2.2 rfl e he hb
        have h2:=hon (cq1 hql) e he hb
        rw [←hat listed h2]
        exact ihk (pos e.on) (by omega) (G.lt h2)⟩
       rw [hnil] at this
       simp at this
   exact hmin (j+1) j (by omega) hj
  ·obtain ⟨hio,hSi,o,ho,he⟩:=(hready i).1 hi
   rw [←hat listed hio] at hSi
   have he:∀ e∈o.after.toList,Region.binds .any e=true→T0 idx listed (pos e.on)=true:=fun e h1 h2=>by rw [hat listed (hon ho e h1 h2)];exact he e h1 h2
   obtain ⟨x,hx,_⟩:=G.op ho
   have hset:=bS6 O (listed:=listed) (i:=i) (by omega) (by simpa using hio)
   refine core hE hG hY hFG G ho hx hSi (fun j y hy hji hc=>?_) (fun j y hy hij hSj=>?_) hN (fun j hj hbit=>?_) R hO (fun β' a' w' hN' R' hO' hdef=>?_) (fun v u w' h0 h1 h2 h3 h4=>hFl _ _ x β a w w' v u hx R hO hd h0 (fun j hj=>?_) hSi h1 h2 h3 h4)
   ·obtain ⟨m,hm,hbit⟩:=hclash j (pos i) y x hy hx hji hc
    exact aA5 G hC (pos i) i o rfl ho he m j hm hbit
   ·cases hc:aK3 x y with
    |false=>rfl
    |true=>
     obtain ⟨m,hm,hbit⟩:=hclash (pos i) j x y hx hy hij hc
     obtain ⟨kj,oj,hkj,hoj,_⟩:=G.get hy
     have:=aA5 G hC j kj oj hkj hoj (fun e he hb=>hC kj oj (by rw [hkj];exact hSj) hoj e he hb) m (pos i) hm hbit
     rw [hSi] at this
     cases this
   ·have hb:=hbit _ rfl
    cases hme:(O4 pos os [])[pos i]? with
    |none=>
     rw [cp8,hme] at hb
     simp at hb
    |some m=>
     rw [cp8,hme] at hb
     exact aA5 G hC (pos i) i o rfl ho he m j hme hb
   ·refine ih (listed.setIfInBounds i true) (by simpa using hsz) ?_ ?_ (by rw [hset];exact hN') β' a' w' (by rw [hset];exact R') (by rw [hset];exact hO') (hdef.trans hd)
    ·rw [hset]
     intro j oj hSj hoj e hel hb
     simp only [K5,Bool.or_eq_true,beq_iff_eq] at hSj ⊢
     left
     rcases hSj with h1|h1
     ·exact hC j oj h1 hoj e hel hb
     ·have:=G.inj (cq2.1 hoj).1 hio h1
      subst this
      rw [ho] at hoj
      simp only [co4] at hoj
      subst hoj
      exact he e hel hb
    ·rw [hset]
     have:=(bb1 (S:=T0 idx listed) (i:=pos i) (n:=ops.size)).2 (G.lt hio) hSi
     omega
   ·refine ⟨(fun e=>by rw [e,hSi] at hj;cases hj),?_⟩
    cases hf:as9 (some (O4 pos os [])) j (pos i) with
    |false=>rfl
    |true=>
     exfalso
     have hf:Nat.testBit ((O4 pos os []).getD j 0) (pos i)=true:=hf
     rw [cp8] at hf
     cases hme:(O4 pos os [])[j]? with
     |none=>rw [hme] at hf;simp at hf
     |some m=>
      rw [hme] at hf
      have hjx:∃ kj,idx[j]? =some kj:=by
       cases hk:idx[j]? with
       |some kj=>exact ⟨kj,rfl⟩
       |none=>simp [T0,bb3,hk] at hj
      obtain ⟨kj,hkj⟩:=hjx
      have hnum:=O.num j kj hkj
      have hlt:kj<ops.size:=by simpa using hnum.2
      have:=aA5 G hC j kj ops[kj] hnum.1 (cq1 hlt) (fun e he hb=>hC kj ops[kj] (by rw [hnum.1];exact hj) (cq1 hlt) e he hb) m (pos i) hme hf
      rw [hSi] at this
      cases this
end
end Go.VT
end
section
namespace Go.VT
noncomputable section
open Go.RowKit
variable {U:Univ} {E:Env U} {F:Fr} {n:Nat} {β:Nm} {s s':St U} {a:Act} {w:World} {o:Oper} {e:Eff U} {h:Obs U} {xs:List (Wr U)} {ops:Array Oper}
theorem M4 {α γ:Type} (f:α→γ) (k:Nat):∀ l:List (Nat×α),look k (l.map fun x=>(x.1,f x.2))=(look k l).map f
 |[]=>rfl
 |(j,a)::r=>by
  simp only [List.map_cons,look]
  split
  ·rfl
  ·exact M4 f k r
theorem am6 {α:Type} (f:Nat→Bool) (k:Nat):∀ {l:List (Nat×α)} {v:α},look k (l.filter fun x=>f x.1)=some v→look k l=some v
 |[],v,h=>h
 |(j,a)::r,v,h=>by
  simp only [List.filter_cons] at h
  split at h
  ·simp only [look] at h ⊢
   split at h
   ·rename_i hb;rw [if_pos hb];exact h
   ·rename_i hb;rw [if_neg hb];exact am6 f k h
  ·rename_i hf
   have:=am6 f k h
   simp only [look]
   rw [if_neg]
   ·exact this
   ·intro hb
    have hb:=co5 hb
    subst hb
    have hno:∀ l:List (Nat×α),look j (l.filter fun x=>f x.1)=none:=by
     intro l
     induction l with
     |nil=>rfl
     |cons y l ih=>
      obtain ⟨i,b⟩:=y
      simp only [List.filter_cons]
      split
      ·rename_i hfi
       simp only [look]
       rw [if_neg]
       ·exact ih
       ·intro hb
        have hb:=co5 hb
        subst hb
        exact hf hfi
      ·exact ih
    rw [hno] at h
    cases h
theorem bH3 {tmps:Array Value} {D:Nat→Prop} (R:Rel F n β s tmps w) (X:Nat):Rel F n β (s.cut X) tmps w∧OptIn D (s.cut X).σ:=by
 have hget:∀ t p,look t (s.cut X).σ=some p→∃ q,look t s.σ=some q∧p=ca5 q:=by
  intro t p hl
  unfold St.cut at hl
  rw [M4] at hl
  simp only [cp1] at hl
  obtain ⟨q,hq,hq2⟩:=hl
  exact ⟨q,am6 (fun k=>bit X k) t hq,hq2.symm⟩
 refine ⟨⟨R.toOk,R.sz,fun t p hl=>?_⟩,fun t gs p hl=>?_⟩
 ·obtain ⟨q,hq,rfl⟩:=hget t p hl
  have hr:=R.tmp t q hq
  cases q with
  |opt gs p=>trivial
  |un=>trivial
  |one c=>exact hr
  |agg cs=>exact hr
  |tup vs=>exact hr
 ·obtain ⟨q,_,hq⟩:=hget t _ hl
  cases q<;>simp [ca5] at hq
theorem M5 {α:Type} {l:List (Nat×α)} {k:Nat} {v:α}:∀ {ks:List Nat},look k (W0 l ks)=some v→look k l=some v
 |[],h=>by simp [W0,look] at h
 |j::r,h=>by
  simp only [W0] at h
  split at h
  ·rename_i u hu
   simp only [look] at h
   split at h
   ·rename_i hb
    have hb:=co5 hb
    subst hb
    simp only [co4] at h
    subst h
    exact hu
   ·exact M5 h
  ·exact M5 h
theorem bw8 (h:Obs U) (D:Deep U):(D.fresh h).live=D.live:=by cases D<;>rfl
theorem aF3 (h:Obs U) (o:Ob U):(U2 h o).live=o.live:=by
 cases o with
 |dp D=>exact bw8 h D
 |_=>rfl
theorem bb4 {g:Obs U} {D:Deep U} {N:Value} {c c':DC U} (h:D.renew g c=some c') {v:Value} (r:DCRel D N c v):DCRel (D.fresh g) N c' v:=by
 cases D with
 |maps kt e t l ver iv lv hole=>
  cases c with
  |self v0=>
   simp only [Deep.renew] at h
   split at h
   ·rename_i hb
    simp only [co4] at h
    subst h
    exact ⟨Nat.le_refl _,fun _=>r.2 (co5 hb)⟩
   ·cases h
  |elt=>simp [Deep.renew] at h
  |inn=>simp [Deep.renew] at h
  |iat=>simp [Deep.renew] at h
  |key=>simp [Deep.renew] at h
  |it=>simp [Deep.renew] at h
 |rows e t m l ver iv lv hole=>
  cases c with
  |self v0=>
   simp only [Deep.renew] at h
   split at h
   ·rename_i hb
    simp only [co4] at h
    subst h
    exact ⟨Nat.le_refl _,fun _=>r.2 (co5 hb)⟩
   ·cases h
  |inn v0 i j=>
   simp only [Deep.renew] at h
   split at h
   ·rename_i hb
    simp only [co4] at h
    subst h
    exact ⟨Nat.le_refl _,fun _=>r.2 (co5 hb)⟩
   ·cases h
  |elt=>simp [Deep.renew] at h
  |iat=>simp [Deep.renew] at h
  |key=>simp [Deep.renew] at h
  |it=>simp [Deep.renew] at h
 |iter mid kt vt n seen cur=>
  cases c with
  |it mid'=>
   simp only [Deep.renew] at h
   split at h
   ·rename_i hl
    simp only [co4] at h
    subst h
    obtain ⟨rfl,r2⟩:=r
    refine ⟨?_,r2⟩
    simp only [hl]
   ·cases h
  |self=>simp [Deep.renew] at h
  |elt=>simp [Deep.renew] at h
  |inn=>simp [Deep.renew] at h
  |iat=>simp [Deep.renew] at h
  |key=>simp [Deep.renew] at h
theorem DRel.fresh {B:Nat} {w':World} {β':Nm} {h' g:Obs U} {D:Deep U} {N:Value} (hrep:∀ d v,Rep U w (Live β h) d v→Rep U w' (Live β' h') d v) (hmap:∀ mid v,CRel w β h (.map mid) v→CRel w' β' h' (L4 g (.map mid)) v)
  (hb:∀ b,Has N b→w'.heap[b]? =w.heap[b]?) (r:DRel B w β h D N):DRel B w' β' h' (D.fresh g) N:=by
 cases D with
 |rows e t m l ver iv lv hole=>exact DRel.mapR hrep hb r
 |maps kt e t l ver iv lv hole=>exact DRel.mapM hrep hb r
 |iter mid kt vt n seen cur=>
  obtain ⟨q,b,last,hN,h1,h2,h3,h4⟩:=r
  subst hN
  refine ⟨q,b,last,rfl,h1,by rw [hb q rfl];exact h2,h3,fun m hm=>?_⟩
  cases mid with
  |none=>cases hm
  |some m0=>
   simp only at hm
   split at hm
   ·rename_i hl
    cases hm
    have:=hmap m _ (h4 m rfl)
    simp only [L4,hl] at this
    exact this
   ·cases hm
theorem aF4 {tmps:Array Value} (R:Rel F n β s tmps w) (ks hs:List Nat) {w':World} (hbel:Below F.B w w')
  (hheap:∀ b,b<w.heap.size→(¬ Own β s.h b∨∃ id o,look id (W0 s.h hs)=some o∧Has (β id) b)→w'.heap[b]? =w.heap[b]?):Rel F n β (s.keep ks hs) tmps w'∧OptIn (fun _=>False) (s.keep ks hs).σ:=by
 have hsub:∀ id o,look id (W0 s.h hs)=some o→look id s.h=some o:=fun id o hl=>M5 hl
 generalize hh1:W0 s.h hs=h1 at hsub
 have hk:s.keep ks hs=⟨(W0 s.σ ks).map fun x=>(x.1,aC0 h1 x.2),h1.map fun x=>(x.1,U2 h1 x.2)⟩:=by unfold St.keep;rw [hh1]
 rw [hk]
 have hlook:∀ id o,look id (h1.map fun x=>(x.1,U2 h1 x.2))=some o→∃ o',look id h1=some o'∧o=U2 h1 o':=by
  intro id o hl
  rw [M4] at hl
  simp only [cp1] at hl
  obtain ⟨o',h2,h3⟩:=hl
  exact ⟨o',h2,h3.symm⟩
 have hto:∀ id o',look id h1=some o'→look id (h1.map fun x=>(x.1,U2 h1 x.2))=some (U2 h1 o'):=by
  intro id o' hl
  rw [M4,hl]
  rfl
 generalize hh2:(h1.map fun x=>(x.1,U2 h1 x.2))=h2 at hlook hto
 have hlive:∀ b,Live β h2 b→Live β s.h b:=by
  rintro b (hm|⟨id,o,h3,h4,h5⟩)
  ·exact .inl hm
  ·obtain ⟨o',h6,rfl⟩:=hlook id o h3
   rw [aF3] at h4
   exact .inr ⟨id,o',hsub id o' h6,h4,h5⟩
 rw [hh1] at hheap
 have hstay:∀ b,b<w.heap.size→¬ Live β s.h b→w'.heap[b]? =w.heap[b]? :=fun b hb hn=>hheap b hb (.inl (fun ho=>hn (.inr ho)))
 have hrep:∀ d v,Rep U w (Live β s.h) d v→Rep U w' (Live β h2) d v:=fun d v r=>r.mono hbel.size hstay (fun b _ hb=>hlive b hb)
 have hvis:∀ (t:Ty) (x:den U.T t) (v:Value),VIs w (Live β s.h) t x v→VIs w' (Live β h2) t x v:=fun t x v r=>r.mono hbel.size hstay (fun b _ hb=>hlive b hb)
 have hobj:∀ id o b,look id h1=some o→Has (β id) b→w'.heap[b]? =w.heap[b]? :=fun id o b hl hb=>hheap b ((R.obj id o (hsub id o hl)).blk hb).2 (.inr ⟨id,o,hl,hb⟩)
 have hcell:∀ c v,CRel w β s.h c v→CRel w' β h2 (L4 h1 c) v:=by
  intro c v r
  cases c with
  |un=>trivial
  |d x=>exact hrep _ _ r
  |row id ver=>
   simp only [L4]
   split
   ·rename_i e t l ver' lv hl
    split
    ·rename_i hb
     have hb:=co5 hb
     obtain ⟨e2,t2,l2,ver2,lv2,q1,q2,q3⟩:=r
     rw [hsub id _ hl] at q1
     simp only [co4,Ob.row.injEq] at q1
     obtain ⟨_,_,_,rfl,_⟩:=q1
     exact ⟨e,t,l,0,lv,hto id _ hl,Nat.le_refl _,fun _=>q3 hb⟩
    ·trivial
   ·trivial
  |ptr id off=>
   simp only [L4]
   split
   ·rename_i e cs hl
    obtain ⟨e2,cs2,b,q1,q2,q3⟩:=r
    exact ⟨e,_,b,hto id _ hl,q2,q3⟩
   ·trivial
  |elt id ver i off=>trivial
  |rd cs off=>
   obtain ⟨g,o,hv,hM,hg,hc⟩:=r
   refine ⟨g,o,hv,fun hh=>hM (hlive g hh),Nat.lt_of_lt_of_le hg hbel.size,fun j d hd=>?_⟩
   obtain ⟨u,hu,hr⟩:=hc j d hd
   exact ⟨u,by rw [←hu];exact World.cell?_of_block (hstay g hg hM),hrep _ _ hr⟩
  |gl g=>exact r
  |lit u=>exact r
  |map id=>
   simp only [L4]
   split
   ·rename_i hl
    obtain ⟨kt,vt,l,q1,q2⟩:=r
    rw [hsub id _ hl] at q1
    simp only [co4,Ob.map.injEq] at q1
    exact ⟨_,_,_,hto id _ hl,q2⟩
   ·trivial
  |clo f ids=>
   simp only [L4,cp7]
   split
   ·rename_i hall
    obtain ⟨bs,q1,q2,q3⟩:=r
    refine ⟨bs,q1,q2,fun j id b hj hb=>?_⟩
    obtain ⟨e,cs,q4,q5⟩:=q3 j id b hj hb
    have hx:=cr4.1 hall id (List.mem_iff_getElem?.2 ⟨j,hj⟩)
    split at hx
    ·rename_i e' cs' hl
     exact ⟨e',_,hto id _ hl,q5⟩
    ·cases hx
   ·trivial
  |yld id=>
   simp only [L4]
   split
   ·rename_i hl
    obtain ⟨st,q1,q2⟩:=r
    exact ⟨_,hto id _ hl,q2⟩
   ·trivial
  |ifc t b ds=>
   obtain ⟨vs,q1,q2,q3,q4,q5⟩:=r
   exact ⟨vs,q1,q2,q3,q4,fun j d u hd hu=>hrep _ _ (q5 j d u hd hu)⟩
  |tab g i=>exact r
  |tabf fs i=>exact r
  |bnd f id=>
   simp only [L4]
   split
   ·rename_i e cs hl
    obtain ⟨e2,cs2,b,q1,q2,q3⟩:=r
    exact ⟨e,_,b,hto id _ hl,q2,q3⟩
   ·trivial
  |dc id c=>
   simp only [L4]
   split
   ·rename_i D hl
    split
    ·rename_i c' hc
     obtain ⟨D',q1,q2⟩:=r
     rw [hsub id _ hl] at q1
     simp only [co4,Ob.dp.injEq] at q1
     subst q1
     exact ⟨_,hto id _ hl,bb4 hc q2⟩
    ·trivial
   ·trivial
 have hcs:∀ cs vs,CsRel w β s.h cs vs→CsRel w' β h2 (cs.map (L4 h1)) vs:=by
  intro cs vs r
  refine ⟨by simpa using r.1,r.2.1,fun j c v hc hv=>?_⟩
  simp only [cp9,cp1] at hc
  obtain ⟨c',h3,rfl⟩:=hc
  exact hcell c' v (r.2.2 j c' v h3 hv)
 have hpv:∀ p v σ σ',PRel w β s.h σ p v→PRel w' β h2 σ' (aC0 h1 p) v:=by
  intro p v σ σ' r
  cases p with
  |un=>trivial
  |one c=>exact hcs [c] [v] r
  |agg cs=>
   obtain ⟨vs,hv,hc⟩:=r
   exact ⟨vs,hv,hcs cs vs hc⟩
  |tup xs=>
   obtain ⟨vs,hv,hl,hx⟩:=r
   refine ⟨vs,hv,by simpa using hl,fun j x u hj hu=>?_⟩
   simp only [cp9,cp1] at hj
   obtain ⟨x',h3,rfl⟩:=hj
   have:=hx j x' u h3 hu
   obtain ⟨b,cs⟩:=x'
   cases b with
   |true=>
    obtain ⟨vs',h4,h5⟩:=this
    exact ⟨vs',h4,hcs cs vs' h5⟩
   |false=>exact hcs cs [u] this
  |opt gs p=>trivial
 refine ⟨⟨⟨R.bel.trans hbel,Nat.le_trans R.hB hbel.size,fun id o hl=>?_,fun id o id' o' b q1 q2=>?_,fun b hb hK=>?_,fun id o b q1=>?_,fun id o b q1=>?_,R.Mlt,R.Meq,fun id o v q1 q2=>?_,R.nmg,R.glo⟩,R.sz,fun t p hl=>?_⟩,fun t gs p hl=>?_⟩
 ·obtain ⟨o',h3,rfl⟩:=hlook id o hl
  have ro:=R.obj id o' (hsub id o' h3)
  cases o' with
  |box e cs=>
   obtain ⟨b,vs,q1,q2,q3,q4⟩:=ro
   exact ⟨b,vs,q1,q2,(hobj id _ b h3 (by rw [q1];rfl)).trans q3,hcs cs _ q4⟩
  |row e t l ver lv=>
   obtain ⟨xs,q1,q2,q3,q4⟩:=ro
   refine ⟨xs,?_,q2,q3,fun i x hx j d hd=>?_⟩
   ·exact q1.kept (fun b hb=>hobj id _ b h3 (q1.has hb))
   ·obtain ⟨u,hu,hr⟩:=q4 i x hx j d hd
    exact ⟨u,hu,hrep _ _ hr⟩
  |map kt vt l=>
   obtain ⟨b,es,clock,q1,q2,q3,q4,q5⟩:=ro
   exact ⟨b,es,clock,q1,q2,(hobj id _ b h3 (by rw [q1];rfl)).trans q3,q4,fun i x y hx hy=>⟨hvis _ _ _ (q5 i x y hx hy).1,hvis _ _ _ (q5 i x y hx hy).2⟩⟩
  |loop st=>
   obtain ⟨b,r,q1,q2,q3,q4⟩:=ro
   exact ⟨b,r,q1,q2,(hobj id _ b h3 (by rw [q1];exact rfl)).trans q3,q4⟩
  |dp D=>
   exact DRel.fresh hrep (fun mid v r=>hcell (.map mid) v r) (fun b hb=>hobj id _ b h3 hb) ro
 ·obtain ⟨o1,h3,_⟩:=hlook id o q1
  obtain ⟨o2,h4,_⟩:=hlook id' o' q2
  exact R.dis id o1 id' o2 b (hsub _ _ h3) (hsub _ _ h4)
 ·rw [←R.frm b hb hK]
  have hbw:b<w.heap.size:=Nat.lt_of_lt_of_le hb R.bel.size
  refine hheap b hbw (.inl ?_)
  rintro ⟨id,o,q1,q2,q3⟩
  rcases R.own id o b q1 q3 with h5|h5
  ·exact hK h5
  ·omega
 ·obtain ⟨o1,h3,_⟩:=hlook id o q1
  exact R.own id o1 b (hsub _ _ h3)
 ·obtain ⟨o1,h3,_⟩:=hlook id o q1
  exact R.Mo id o1 b (hsub _ _ h3)
 ·obtain ⟨o1,h3,rfl⟩:=hlook id o q1
  refine (R.fix id o1 v (hsub _ _ h3) q2).imp (fun hr=>?_) (fun hr=>hr)
  cases o1<;>simp_all [Ob.isRow,U2]
 ·rw [M4] at hl
  simp only [cp1] at hl
  obtain ⟨q,hq,rfl⟩:=hl
  exact hpv q _ _ _ (R.tmp t q (M5 hq))
 ·rw [M4] at hl
  simp only [cp1] at hl
  obtain ⟨q,hq,hq2⟩:=hl
  cases q<;>simp [aC0] at hq2
def Fr.shut (F:Fr) (w:World) (D:Nat→Prop):Fr:=⟨F.B,w,fun b=>(F.K b∨F.w0.heap.size≤b)∧¬ D b,fun b=>F.M b∨D b,F.nm,F.G⟩
def Nm.shut (β:Nm) (D:Nat→Prop):Nm:=⟨β.v,fun b=>β.M b∨D b,β.lp⟩
theorem bH4 {tmps:Array Value} (R:Rel F n β s tmps w) (ks hs:List Nat) {w':World} {D:Nat→Prop} (hD:∀ b,D b→Live β s.h b) (hD2:∀ id o b,look id (W0 s.h hs)=some o→Has (β id) b→¬ D b) (hbel:Below F.B w w')
  (hheap:∀ b,b<w.heap.size→(¬ Own β s.h b∨∃ id o,look id (W0 s.h hs)=some o∧Has (β id) b)→w'.heap[b]? =w.heap[b]?):Rel (F.shut w' D) n (β.shut D) (s.keep ks hs) tmps w'∧OptIn (fun _=>False) (s.keep ks hs).σ:=by
 have hsub:∀ id o,look id (W0 s.h hs)=some o→look id s.h=some o:=fun id o hl=>M5 hl
 generalize hh1:W0 s.h hs=h1 at hsub
 have hk:s.keep ks hs=⟨(W0 s.σ ks).map fun x=>(x.1,aC0 h1 x.2),h1.map fun x=>(x.1,U2 h1 x.2)⟩:=by unfold St.keep;rw [hh1]
 rw [hk]
 have hlook:∀ id o,look id (h1.map fun x=>(x.1,U2 h1 x.2))=some o→∃ o',look id h1=some o'∧o=U2 h1 o':=by
  intro id o hl
  rw [M4] at hl
  simp only [cp1] at hl
  obtain ⟨o',h2,h3⟩:=hl
  exact ⟨o',h2,h3.symm⟩
 have hto:∀ id o',look id h1=some o'→look id (h1.map fun x=>(x.1,U2 h1 x.2))=some (U2 h1 o'):=by
  intro id o' hl
  rw [M4,hl]
  rfl
 generalize hh2:(h1.map fun x=>(x.1,U2 h1 x.2))=h2 at hlook hto
 have hlive:∀ b,Live (β.shut D) h2 b→Live β s.h b:=by
  rintro b ((hm|hm)|⟨id,o,h3,h4,h5⟩)
  ·exact .inl hm
  ·exact hD b hm
  ·obtain ⟨o',h6,rfl⟩:=hlook id o h3
   rw [aF3] at h4
   exact .inr ⟨id,o',hsub id o' h6,h4,h5⟩
 rw [hh1] at hheap hD2
 have hstay:∀ b,b<w.heap.size→¬ Live β s.h b→w'.heap[b]? =w.heap[b]? :=fun b hb hn=>hheap b hb (.inl (fun ho=>hn (.inr ho)))
 have hrep:∀ d v,Rep U w (Live β s.h) d v→Rep U w' (Live (β.shut D) h2) d v:=fun d v r=>r.mono hbel.size hstay (fun b _ hb=>hlive b hb)
 have hvis:∀ (t:Ty) (x:den U.T t) (v:Value),VIs w (Live β s.h) t x v→VIs w' (Live (β.shut D) h2) t x v:=fun t x v r=>r.mono hbel.size hstay (fun b _ hb=>hlive b hb)
 have hobj:∀ id o b,look id h1=some o→Has (β id) b→w'.heap[b]? =w.heap[b]? :=fun id o b hl hb=>hheap b ((R.obj id o (hsub id o hl)).blk hb).2 (.inr ⟨id,o,hl,hb⟩)
 have hcell:∀ c v,CRel w β s.h c v→CRel w' (β.shut D) h2 (L4 h1 c) v:=by
  intro c v r
  cases c with
  |un=>trivial
  |d x=>exact hrep _ _ r
  |row id ver=>
   simp only [L4]
   split
   ·rename_i e t l ver' lv hl
    split
    ·rename_i hb
     have hb:=co5 hb
     obtain ⟨e2,t2,l2,ver2,lv2,q1,q2,q3⟩:=r
     rw [hsub id _ hl] at q1
     simp only [co4,Ob.row.injEq] at q1
     obtain ⟨_,_,_,rfl,_⟩:=q1
     exact ⟨e,t,l,0,lv,hto id _ hl,Nat.le_refl _,fun _=>q3 hb⟩
    ·trivial
   ·trivial
  |ptr id off=>
   simp only [L4]
   split
   ·rename_i e cs hl
    obtain ⟨e2,cs2,b,q1,q2,q3⟩:=r
    exact ⟨e,_,b,hto id _ hl,q2,q3⟩
   ·trivial
  |elt id ver i off=>trivial
  |rd cs off=>
   obtain ⟨g,o,hv,hM,hg,hc⟩:=r
   refine ⟨g,o,hv,fun hh=>hM (hlive g hh),Nat.lt_of_lt_of_le hg hbel.size,fun j d hd=>?_⟩
   obtain ⟨u,hu,hr⟩:=hc j d hd
   exact ⟨u,by rw [←hu];exact World.cell?_of_block (hstay g hg hM),hrep _ _ hr⟩
  |gl g=>exact r
  |lit u=>exact r
  |map id=>
   simp only [L4]
   split
   ·rename_i hl
    obtain ⟨kt,vt,l,q1,q2⟩:=r
    rw [hsub id _ hl] at q1
    simp only [co4,Ob.map.injEq] at q1
    exact ⟨_,_,_,hto id _ hl,q2⟩
   ·trivial
  |clo f ids=>
   simp only [L4,cp7]
   split
   ·rename_i hall
    obtain ⟨bs,q1,q2,q3⟩:=r
    refine ⟨bs,q1,q2,fun j id b hj hb=>?_⟩
    obtain ⟨e,cs,q4,q5⟩:=q3 j id b hj hb
    have hx:=cr4.1 hall id (List.mem_iff_getElem?.2 ⟨j,hj⟩)
    split at hx
    ·rename_i e' cs' hl
     exact ⟨e',_,hto id _ hl,q5⟩
    ·cases hx
   ·trivial
  |yld id=>
   simp only [L4]
   split
   ·rename_i hl
    obtain ⟨st,q1,q2⟩:=r
    exact ⟨_,hto id _ hl,q2⟩
   ·trivial
  |ifc t b ds=>
   obtain ⟨vs,q1,q2,q3,q4,q5⟩:=r
   exact ⟨vs,q1,q2,q3,q4,fun j d u hd hu=>hrep _ _ (q5 j d u hd hu)⟩
  |tab g i=>exact r
  |tabf fs i=>exact r
  |bnd f id=>
   simp only [L4]
   split
   ·rename_i e cs hl
    obtain ⟨e2,cs2,b,q1,q2,q3⟩:=r
    exact ⟨e,_,b,hto id _ hl,q2,q3⟩
   ·trivial
  |dc id c=>
   simp only [L4]
   split
   ·rename_i D hl
    split
    ·rename_i c' hc
     obtain ⟨D',q1,q2⟩:=r
     rw [hsub id _ hl] at q1
     simp only [co4,Ob.dp.injEq] at q1
     subst q1
     exact ⟨_,hto id _ hl,bb4 hc q2⟩
    ·trivial
   ·trivial
 have hcs:∀ cs vs,CsRel w β s.h cs vs→CsRel w' (β.shut D) h2 (cs.map (L4 h1)) vs:=by
  intro cs vs r
  refine ⟨by simpa using r.1,r.2.1,fun j c v hc hv=>?_⟩
  simp only [cp9,cp1] at hc
  obtain ⟨c',h3,rfl⟩:=hc
  exact hcell c' v (r.2.2 j c' v h3 hv)
 have hpv:∀ p v σ σ',PRel w β s.h σ p v→PRel w' (β.shut D) h2 σ' (aC0 h1 p) v:=by
  intro p v σ σ' r
  cases p with
  |un=>trivial
  |one c=>exact hcs [c] [v] r
  |agg cs=>
   obtain ⟨vs,hv,hc⟩:=r
   exact ⟨vs,hv,hcs cs vs hc⟩
  |tup xs=>
   obtain ⟨vs,hv,hl,hx⟩:=r
   refine ⟨vs,hv,by simpa using hl,fun j x u hj hu=>?_⟩
   simp only [cp9,cp1] at hj
   obtain ⟨x',h3,rfl⟩:=hj
   have:=hx j x' u h3 hu
   obtain ⟨b,cs⟩:=x'
   cases b with
   |true=>
    obtain ⟨vs',h4,h5⟩:=this
    exact ⟨vs',h4,hcs cs vs' h5⟩
   |false=>exact hcs cs [u] this
  |opt gs p=>trivial
 have hsz0:F.w0.heap.size≤w.heap.size:=R.bel.size
 refine ⟨⟨⟨Below.refl _ _,Nat.le_trans R.hB hbel.size,fun id o hl=>?_,fun id o id' o' b q1 q2=>?_,fun b hb hK=>rfl,fun id o b q1 q2=>?_,fun id o b q1 q2=>?_,fun b hb=>?_,by show (β.shut D).M=_;unfold Nm.shut Fr.shut;simp only [R.Meq],fun id o v q1 q2=>?_,R.nmg,fun g fs hgf=>?_⟩,R.sz,fun t p hl=>?_⟩,fun t gs p hl=>?_⟩
 ·obtain ⟨o',h3,rfl⟩:=hlook id o hl
  have ro:=R.obj id o' (hsub id o' h3)
  cases o' with
  |box e cs=>
   obtain ⟨b,vs,q1,q2,q3,q4⟩:=ro
   exact ⟨b,vs,q1,q2,(hobj id _ b h3 (by rw [q1];rfl)).trans q3,hcs cs _ q4⟩
  |row e t l ver lv=>
   obtain ⟨xs,q1,q2,q3,q4⟩:=ro
   refine ⟨xs,?_,q2,q3,fun i x hx j d hd=>?_⟩
   ·exact q1.kept (fun b hb=>hobj id _ b h3 (q1.has hb))
   ·obtain ⟨u,hu,hr⟩:=q4 i x hx j d hd
    exact ⟨u,hu,hrep _ _ hr⟩
  |map kt vt l=>
   obtain ⟨b,es,clock,q1,q2,q3,q4,q5⟩:=ro
   exact ⟨b,es,clock,q1,q2,(hobj id _ b h3 (by rw [q1];rfl)).trans q3,q4,fun i x y hx hy=>⟨hvis _ _ _ (q5 i x y hx hy).1,hvis _ _ _ (q5 i x y hx hy).2⟩⟩
  |loop st=>
   obtain ⟨b,r,q1,q2,q3,q4⟩:=ro
   exact ⟨b,r,q1,q2,(hobj id _ b h3 (by rw [q1];exact rfl)).trans q3,q4⟩
  |dp D=>
   exact DRel.fresh hrep (fun mid v r=>hcell (.map mid) v r) (fun b hb=>hobj id _ b h3 hb) ro
 ·obtain ⟨o1,h3,_⟩:=hlook id o q1
  obtain ⟨o2,h4,_⟩:=hlook id' o' q2
  exact R.dis id o1 id' o2 b (hsub _ _ h3) (hsub _ _ h4)
 ·obtain ⟨o1,h3,_⟩:=hlook id o q1
  exact .inl ⟨R.own id o1 b (hsub _ _ h3) q2,hD2 id o1 b h3 q2⟩
 ·obtain ⟨o1,h3,_⟩:=hlook id o q1
  rintro (hm|hm)
  ·exact R.Mo id o1 b (hsub _ _ h3) q2 hm
  ·exact hD2 id o1 b h3 q2 hm
 ·have hlt:b<w.heap.size:=by
   have hL:Live β s.h b:=by
    rcases hb with hb|hb
    ·exact .inl hb
    ·exact hD b hb
   rcases hL with hm|⟨id,o,q1,_,q3⟩
   ·exact Nat.lt_of_lt_of_le (R.Mlt b hm) hsz0
   ·exact ((R.obj id o q1).blk q3).2
  exact Nat.lt_of_lt_of_le hlt hbel.size
 ·obtain ⟨o1,h3,rfl⟩:=hlook id o q1
  refine (R.fix id o1 v (hsub _ _ h3) q2).imp (fun hr=>?_) (fun hr=>hr)
  cases o1<;>simp_all [Ob.isRow,U2]
 ·obtain ⟨q1,q2,q3⟩:=R.glo g fs hgf
  have hgw:g<w.heap.size:=Nat.lt_of_lt_of_le q1 hsz0
  have hno:¬ Own β s.h g:=by
   rintro ⟨id,o,r1,r2,r3⟩
   rcases R.own id o g r1 r3 with h5|h5
   ·exact q2 h5
   ·omega
  have hheq:w'.heap[g]? =F.w0.heap[g]? :=(hheap g hgw (.inl hno)).trans (R.frm g q1 q2)
  refine ⟨Nat.lt_of_lt_of_le hgw hbel.size,fun hk=>?_,fun i f hf=>?_⟩
  ·rcases hk.1 with h5|h5
   ·exact q2 h5
   ·omega
  ·rw [←q3 i f hf]
   exact World.cell?_of_block hheq
 ·rw [M4] at hl
  simp only [cp1] at hl
  obtain ⟨q,hq,rfl⟩:=hl
  exact hpv q _ _ _ (R.tmp t q (M5 hq))
 ·rw [M4] at hl
  simp only [cp1] at hl
  obtain ⟨q,hq,hq2⟩:=hl
  cases q<;>simp [aC0] at hq2
theorem aj3 {tmps:Array Value} (R:Rel F n β s tmps w) (ks hs:List Nat):Rel F n β (s.keep ks hs) tmps w∧OptIn (fun _=>False) (s.keep ks hs).σ:=
 aF4 R ks hs (Below.refl _ _) (fun _ _ _=>rfl)
theorem am7 {α:Type} {l l':List (Nat×α)}:∀ {ks:List Nat},(∀ k∈ks,look k l=look k l')→W0 l ks=W0 l' ks
 |[],_=>rfl
 |k::r,h=>by
  simp only [W0]
  rw [h k (by simp),am7 (ks:=r) (fun j hj=>h j (by simp [hj]))]
theorem bw9 {s s':St U} {ks hs:List Nat} (h1:∀ k∈ks,look k s.σ=look k s'.σ) (h2:∀ id∈hs,look id s.h=look id s'.h):s.keep ks hs=s'.keep ks hs:=by
 unfold St.keep
 rw [am7 h1,am7 h2]
theorem aA6 {α:Type} {l:List (Nat×α)} {k:Nat} {v:α}:∀ {ks:List Nat},look k (W0 l ks)=some v→k∈ks
 |[],h=>by simp [W0,look] at h
 |j::r,h=>by
  simp only [W0] at h
  split at h
  ·simp only [look] at h
   split at h
   ·rename_i hb
    rw [co5 hb]
    simp
   ·simp [aA6 h]
  ·simp [aA6 h]
theorem aj4 {q:Prop}:∀ {xs:List (Wr U)},aR5 xs q→(∀ x∈xs,x.holds)→q
 |[],h,_=>h
 |x::r,h,hx=>by
  unfold aR5 at h
  split at h
  ·exact aj4 h (fun y hy=>hx y (by simp [hy]))
  ·rename_i p hp
   exact aj4 (h (hx x (by simp) p hp)) (fun y hy=>hx y (by simp [hy]))
theorem bb5 {k:Nat} {x:Wr U}:∀ {xs:List (Wr U)} {i:Nat},xs[k]? =some x→(∃ b,x.pan=some b)→(i+k)∈af1 xs i
 |[],i,h,_=>by simp at h
 |y::r,i,h,hp=>by
  match k,h with
  |0,h=>
   simp only [cp2,co4] at h
   subst h
   obtain ⟨b,hb⟩:=hp
   simp [af1,hb]
  |k+1,h=>
   have:=bb5 (xs:=r) (i:=i+1) (k:=k) (x:=x) (by simpa using h) hp
   rw [show i+(k+1)=i+1+k by omega]
   unfold af1
   split
   ·exact this
   ·exact List.mem_cons_of_mem _ this
theorem br8 {ms:Option (List Nat)} {ps:List Nat} {t k:Nat} {y:Wr U}:∀ {xs:List (Wr U)} {i:Nat},aY6 ms ps xs i t=false→xs[k]? =some y→y.dst=some t→(ps.all fun q=>Nat.beq (i+k) q||as9 ms (i+k) q)=true
 |[],i,_,h,_=>by simp at h
 |x::r,i,hl,h,hd=>by
  simp only [aY6,Bool.or_eq_false_iff] at hl
  match k,h with
  |0,h=>
   simp only [cp2,co4] at h
   subst h
   have h1:aR6 x.dst [t]=true:=aF1.2 ⟨t,hd,by simp⟩
   rw [h1,Bool.true_and,Bool.not_eq_false'] at hl
   exact hl.1
  |k+1,h=>
   have:=br8 (xs:=r) (i:=i+1) (k:=k) hl.2 (by simpa using h) hd
   rwa [show i+1+k=i+(k+1) by omega] at this
theorem aS9 {ms:Option (List Nat)} {ps:List Nat} {t k:Nat} {y:Wr U}:∀ {xs:List (Wr U)} {i:Nat},aR8 ms ps xs i t=false→xs[k]? =some y→t∈keys y.upd++y.lost→(ps.all fun q=>!(Nat.beq (i+k) q)&&as9 ms (i+k) q)=true
 |[],i,_,h,_=>by simp at h
 |x::r,i,hl,h,hd=>by
  simp only [aR8,Bool.or_eq_false_iff] at hl
  match k,h with
  |0,h=>
   simp only [cp2,co4] at h
   subst h
   have h1:Z8 (keys x.upd++x.lost) [t]=true:=aF2.2 ⟨t,hd,by simp⟩
   rw [h1,Bool.true_and,Bool.not_eq_false'] at hl
   exact hl.1
  |k+1,h=>
   have:=aS9 (xs:=r) (i:=i+1) (k:=k) hl.2 (by simpa using h) hd
   rwa [show i+1+k=i+(k+1) by omega] at this
theorem ck3 {ds:List Deferred} {Qp:PanV U→St U→Prop} {Q:Exit→Act→World→Prop} {ms:Option (List Nat)}
  (hQ:∀ v u s' β' a' w',Qp v s'→ap8 v u→Rel F n β' s' a'.tmps w'→OptIn (fun _=>False) s'.σ→a'.defers=ds→Q (.panic [{ v:=u,recovered:=false }]) a' w'):cb6 F n ms xs s ds (fun v=>Qp v (s.gone ms xs)) Q:=by
 intro S k x β a w w' v u hx R hO hd hpk hdone hSk hq hpan hbel hheap
 have hkin:k∈af1 xs 0:=by
  have:=bb5 (i:=0) hx hpk
  rwa [Nat.zero_add] at this
 have hks:∀ t∈((s.σ.map (·.1)).filter fun j=>!(aY6 ms (af1 xs 0) xs 0 j)),look t (stS S xs 0 s).σ=look t s.σ:=by
  intro t ht
  have h1:aY6 ms (af1 xs 0) xs 0 t=false:=by simpa using (List.mem_filter.1 ht).2
  have h2:look t (stS S xs 0 s).σ=look t (stS (fun _=>false) xs 0 s).σ:=c1s rfl (fun j y hy hyd=>by
   have h3:=br8 h1 hy hyd
   rw [Nat.zero_add] at h3 ⊢
   cases hS:S j with
   |false=>rfl
   |true=>
    exfalso
    obtain ⟨q1,q2⟩:=hdone j hS
    have h4:=cr4.1 h3 k hkin
    rw [q2,Bool.or_false] at h4
    exact q1 (co5 h4))
  rw [h2,Y2]
 have hhs:∀ id∈((keys s.h).filter fun id=>!(aR8 ms (af1 xs 0) xs 0 id)),look id (stS S xs 0 s).h=look id s.h:=by
  intro id hid
  have h1:aR8 ms (af1 xs 0) xs 0 id=false:=by simpa using (List.mem_filter.1 hid).2
  have h2:look id (stS S xs 0 s).h=look id (stS (fun _=>false) xs 0 s).h:=c1h rfl (fun j y hy hyd=>by
   have h3:=aS9 h1 hy (cr1.2 (.inl hyd))
   rw [Nat.zero_add] at h3 ⊢
   cases hS:S j with
   |false=>rfl
   |true=>
    exfalso
    obtain ⟨q1,q2⟩:=hdone j hS
    have h4:=cr4.1 h3 k hkin
    rw [q2,Bool.and_false] at h4
    cases h4)
  rw [h2,Y2]
 have heq:(stS S xs 0 s).keep ((s.σ.map (·.1)).filter fun j=>!(aY6 ms (af1 xs 0) xs 0 j)) ((keys s.h).filter fun id=>!(aR8 ms (af1 xs 0) xs 0 id))=s.gone ms xs:=bw9 hks hhs
 have:=aF4 R ((s.σ.map (·.1)).filter fun j=>!(aY6 ms (af1 xs 0) xs 0 j)) ((keys s.h).filter fun id=>!(aR8 ms (af1 xs 0) xs 0 id)) hbel (fun b hb hh=>hheap b hb (fun id hid o hl hlive hblk=>by
  rcases hh with hh|⟨id',o',h1,h2⟩
  ·exact hh ⟨id,o,hl,hlive,hblk⟩
  ·have h3:=M5 h1
   have:=R.dis id o id' o' b hl h3 hblk h2
   subst this
   have h4:aR8 ms (af1 xs 0) xs 0 id=false:=by simpa using (List.mem_filter.1 (aA6 h1)).2
   have h5:=cr4.1 (aS9 h4 hx hid) k hkin
   rw [Nat.zero_add,Nat.beq_refl] at h5
   cases h5))
 rw [heq] at this
 exact hQ v u _ β a w' hq hpan this.1 this.2 hd
theorem bb6 {N:Nat}:∀ {r:List Oper} {ds ds':List (Option Tmp)},(∀ p:Option Tmp→Bool,ds.all p=ds'.all p)→O7 N r ds=O7 N r ds'
 |[],_,_,_=>rfl
 |o::r,ds,ds',h=>by
  simp only [O7]
  have h1:al8 N ds o.dst=al8 N ds' o.dst:=by
   unfold al8
   split
   ·rw [h]
   ·rfl
  rw [h1,bb6 (ds:=ds++[o.dst]) (ds':=ds'++[o.dst]) (fun p=>by simp only [List.all_append];rw [h])]
theorem aM8 {N:Nat} {ds:List (Option Tmp)} {x y:Option Tmp}:al8 N (ds++[x]) y=(al8 N ds y&&al8 N ((ds++[x]).drop ds.length) y):=by
 cases y with
 |none=>rfl
 |some d=>
  simp only [al8,List.drop_left,List.all_append,List.all_cons,List.all_nil,Bool.and_true]
  cases Nat.blt d N<;>simp
theorem bx0 {N:Nat} {x y:Oper} {r:List Oper} {ds:List (Option Tmp)} (h:O7 N (x::y::r) ds=true):O7 N (y::x::r) ds=true:=by
 simp only [O7,co7] at h ⊢
 obtain ⟨h1,h2,h3⟩:=h
 rw [aM8,co7] at h2
 refine ⟨h2.1,?_,?_⟩
 ·rw [aM8,co7]
  refine ⟨h1,?_⟩
  have h4:=h2.2
  rw [List.drop_left] at h4 ⊢
  cases hx:x.dst with
  |none=>rfl
  |some d=>
   rw [hx] at h1 h4
   simp only [al8,co7] at h1
   cases hy:y.dst with
   |none=>simp [al8,h1.1]
   |some d'=>
    rw [hy] at h4
    simp only [al8,List.all_cons,List.all_nil,Bool.and_true,co7] at h4 ⊢
    refine ⟨h1.1,?_⟩
    have:=h4.2
    simp only [Bool.not_eq_true'] at this ⊢
    cases hb:Nat.beq d d' with
    |false=>rfl
    |true=>
     have:=co5 hb
     subst this
     simp_all
 ·rw [←h3]
  refine bb6 (fun p=>?_)
  simp only [List.all_append,List.all_cons,List.all_nil,Bool.and_true,Bool.and_assoc]
  rw [Bool.and_comm (p y.dst)]
theorem aM9 {N:Nat} {x:Oper} {l l':List Oper} {ds:List (Option Tmp)} (h:∀ ds,O7 N l ds=true→O7 N l' ds=true) (hx:O7 N (x::l) ds=true):O7 N (x::l') ds=true:=by
 simp only [O7,co7] at hx ⊢
 exact ⟨hx.1,h _ hx.2⟩
theorem aN0 {N:Nat} {P:Program} {x:Oper}:∀ {l:List Oper} {ds:List (Option Tmp)},O7 N (x::l) ds=true→O7 N (sink P x l) ds=true
 |[],_,h=>h
 |y::r,ds,h=>by
  simp only [sink]
  cases bv3 P x y with
  |false=>exact h
  |true=>exact aM9 (fun ds h=>aN0 h) (bx0 h)
theorem aF5 {N:Nat} {P:Program}:∀ {l:List Oper} {ds:List (Option Tmp)},O7 N l ds=true→O7 N (ak1 P l) ds=true
 |[],_,h=>h
 |x::r,ds,h=>by
  have h1:=aM9 (l':=ak1 P r) (fun ds h=>aF5 h) h
  simp only [ak1]
  cases X5 x with
  |false=>exact h1
  |true=>exact aN0 h1
theorem aN1 {pos:Nat→Nat}:∀ {l:List Oper} {k:Nat},I6 l=true→ahead pos false l k=true
 |[],_,_=>rfl
 |o::r,k,h=>by
  simp only [I6,List.all_cons,co7] at h
  have hg:o.guard=none:=by simpa using h.1
  simp only [ahead,hg,Bool.not_false,Bool.true_or,Bool.true_and]
  exact aN1 h.2
theorem bx1 {Y:Fr} {ro:Option Nat} (hE:E.Fits) (hG:E.Sound Y) (hY:P0 Y F E.yl) (hFG:F.G=E.G) (hm:E.P.follows .mixedOrders=true) {X id:Nat} (ok:(O7 n ops.toList []&&aB8 false ops.toList)=true) (R:Rel F n β s a.tmps w) (hO:OptIn (fun _=>False) s.σ) {Q':St U→Prop} {Qp:PanV U→St U→Prop}
  (hr:region E X id false ops.toList s Qp Q') {Q:Exit→Act→World→Prop} (hQ:∀ s' β' a' w',Q' s'→Rel F n β' s' a'.tmps w'→OptIn (fun _=>False) s'.σ→a'.defers=a.defers→Q .normal a' w')
  (hP:∀ v u s' β' a' w',Qp v s'→ap8 v u→Rel F n β' s' a'.tmps w'→OptIn (fun _=>False) s'.σ→a'.defers=a.defers→Q (.panic [{ v:=u,recovered:=false }]) a' w'):wpOpsIn (fen E.P ro) 0 E.P ops Q (List.range ops.size) a w:=by
 unfold region at hr
 split at hr
 case h_2=>exact hr.elim
 rename_i ls hls
 obtain ⟨xs,s',hmem,hpath⟩:=W3 hls
 have hr:=aE7 hr hmem
 cases hcond:(!false||aK4 [] xs (O4 (V9 false ops.toList) (osOf false ops.toList) [])) with
 |false=>rw [hcond] at hr;exact hr.elim
 |true=>
  rw [hcond] at hr
  simp only [cond_true] at hr
  have hr:=aj4 hr hpath.fact
  obtain ⟨hob,hq⟩:=aF0 hr (pre:=[]) rfl (fun i b hh=>by simp at hh)
  simp only [List.nil_append,Nat.zero_add] at hob hq
  simp only [co7] at ok
  obtain ⟨hO1,hO2⟩:=ba9 ok.2
  have G:Reg E false n ops (V9 false ops.toList) (osOf false ops.toList) (bif false then some (O4 (V9 false ops.toList) (osOf false ops.toList) []) else none) (fun v=>Qp v (s.gone (bif false then some (O4 (V9 false ops.toList) (osOf false ops.toList) []) else none) xs)) s xs s':=⟨hpath,⟨_,hO1⟩,ok.1,hO2,hob⟩
  have hend:ak2 xs (fun _=>True)→∀ β' a' w',Rel F n β' s' a'.tmps w'→OptIn (Dset (fun _=>true) xs) s'.σ→a'.defers=a.defers→Q .normal a' w':=by
   intro hN β' a' w' R' hO' hd
   obtain ⟨h1,h2⟩:=bH3 (D:=fun _=>False) R' X
   exact hQ _ β' a' w' (hq hN) h1 h2 hd
  have hFl:=ck3 (F:=F) (n:=n) (s:=s) (xs:=xs) (ms:=bif false then some (O4 (V9 false ops.toList) (osOf false ops.toList) []) else none) (ds:=a.defers) (Qp:=Qp) (Q:=Q) hP
  rw [List.range_eq_range']
  have hnat:ab6 false ops.toList=true:=by
   have:=ok.2
   unfold aB8 at this
   simpa using this
  exact bj4 hE hG hY hFG G (fun k=>by simp [V9,hnat]) hend hFl ops.size 0 (by simp) β a w (fun j y b hj=>absurd hj (Nat.not_lt_zero j)) (by rw [aq6];exact R) (by rw [aq6];exact hO.mono (fun _ hf=>hf.elim)) rfl
theorem bH5 {Y:Fr} {ro:Option Nat} (hE:E.Fits) (hG:E.Sound Y) (hY:P0 Y F E.yl) (hFG:F.G=E.G) (hm:E.P.follows .mixedOrders=true) {X id:Nat} {drawn:Bool} (ok:(O7 n ops.toList []&&aB8 drawn ops.toList)=true) (R:Rel F n β s a.tmps w) (hO:OptIn (fun _=>False) s.σ) {Q':St U→Prop} {Qp:PanV U→St U→Prop}
  (hr:region E X id drawn ops.toList s Qp Q') {Q:Exit→Act→World→Prop} (hQ:∀ s' β' a' w',Q' s'→Rel F n β' s' a'.tmps w'→OptIn (fun _=>False) s'.σ→a'.defers=a.defers→Q .normal a' w')
  (hP:∀ v u s' β' a' w',Qp v s'→ap8 v u→Rel F n β' s' a'.tmps w'→OptIn (fun _=>False) s'.σ→a'.defers=a.defers→Q (.panic [{ v:=u,recovered:=false }]) a' w'):(Code.region id ops drawn).wpIn (fen E.P ro) 0 E.P Q a w:=by
 unfold region at hr
 split at hr
 case h_2=>exact hr.elim
 rename_i ls hls
 obtain ⟨xs,s',hmem,hpath⟩:=W3 hls
 have hr:=aE7 hr hmem
 cases hcond:(!drawn||aK4 [] xs (O4 (V9 drawn ops.toList) (osOf drawn ops.toList) [])) with
 |false=>rw [hcond] at hr;exact hr.elim
 |true=>
  rw [hcond] at hr
  simp only [cond_true] at hr
  have hr:=aj4 hr hpath.fact
  obtain ⟨hob,hq⟩:=aF0 hr (pre:=[]) rfl (fun i b hh=>by simp at hh)
  simp only [List.nil_append,Nat.zero_add] at hob hq
  simp only [co7] at ok
  obtain ⟨hO1,hO2⟩:=ba9 ok.2
  have G:Reg E drawn n ops (V9 drawn ops.toList) (osOf drawn ops.toList) (bif drawn then some (O4 (V9 drawn ops.toList) (osOf drawn ops.toList) []) else none) (fun v=>Qp v (s.gone (bif drawn then some (O4 (V9 drawn ops.toList) (osOf drawn ops.toList) []) else none) xs)) s xs s':=⟨hpath,⟨_,hO1⟩,ok.1,hO2,hob⟩
  have hend:ak2 xs (fun _=>True)→∀ β' a' w',Rel F n β' s' a'.tmps w'→OptIn (Dset (fun _=>true) xs) s'.σ→a'.defers=a.defers→Q .normal a' w':=by
   intro hN β' a' w' R' hO' hd
   obtain ⟨h1,h2⟩:=bH3 (D:=fun _=>False) R' X
   exact hQ _ β' a' w' (hq hN) h1 h2 hd
  have hFl:=ck3 (F:=F) (n:=n) (s:=s) (xs:=xs) (ms:=bif drawn then some (O4 (V9 drawn ops.toList) (osOf drawn ops.toList) []) else none) (ds:=a.defers) (Qp:=Qp) (Q:=Q) hP
  cases drawn with
  |false=>
   refine wpIn_region ?_
   rw [List.range_eq_range']
   have hnat:ab6 false ops.toList=true:=by
    have:=ok.2
    unfold aB8 at this
    simpa using this
   exact bj4 hE hG hY hFG G (fun k=>by simp [V9,hnat]) hend hFl ops.size 0 (by simp) β a w (fun j y b hj=>absurd hj (Nat.not_lt_zero j)) (by rw [aq6];exact R) (by rw [aq6];exact hO.mono (fun _ hf=>hf.elim)) rfl
  |true=>
   have hI:aK4 [] xs (O4 (V9 true ops.toList) (osOf true ops.toList) [])=true:=by simpa using hcond
   have hS:T0 (aY5 true ops.toList) (Array.replicate ops.size false)=fun _=>false:=by
    funext j
    show bb3 (Array.replicate ops.size false) (aY5 true ops.toList)[j]? =false
    cases (aY5 true ops.toList)[j]? with
    |none=>rfl
    |some k=>
     show (Array.replicate ops.size false).getD k false=false
     rw [Array.getD_eq_getD_getElem?]
     by_cases hj:k<ops.size
     ·simp [hj]
     ·simp [hj]
   have R0:Rel F n β s a.tmps { w with drawn:=w.drawn+1 }:=by
    have x:Ext w β s.h { w with drawn:=w.drawn+1 } β s.h:=⟨Nat.le_refl _,fun _ _ _=>rfl,fun _ _ h=>h,rfl,fun id e cs hl=>⟨rfl,cs,hl⟩,fun id e t l ver lv hl=>⟨l,ver,lv,hl,Nat.le_refl _,fun _=>⟨rfl,rfl⟩⟩,fun id o hl ho=>⟨rfl,rfl,o,hl,Ob.like_refl ho⟩,fun id D hl=>⟨D,hl,fun _ _ h=>h⟩⟩
    exact ⟨⟨⟨R.bel.os,R.bel.tape,R.bel.output,R.bel.size,R.bel.block⟩,R.hB,fun id o hl=>x.o rfl rfl (fun _ _=>rfl) (R.obj id o hl),R.dis,R.frm,R.own,R.Mo,R.Mlt,R.Meq,R.fix,R.nmg,R.glo⟩,R.sz,fun t p hl=>x.p (R.tmp t p hl)⟩
   refine wpIn_region_any hm ?_
   refine ck2 hE hG hY hFG G hO1 hI hend hFl ops.size _ (by simp) ?_ (by rw [hS,bb2]) (by rw [hS];exact fun j y b hj=>by cases hj) β a _ (by rw [hS,Y2];exact R0) (by rw [hS,Y2];exact hO.mono (fun _ hf=>hf.elim)) rfl
   rw [hS]
   intro j o hj
   cases hj
theorem bb7 {q:Prop}:∀ {x y:List (Bool×List (Cell U))},eqTs x y q→x=y∧q
 |[],[],h=>⟨rfl,h⟩
 |[],_::_,h=>h.elim
 |_::_,[],h=>h.elim
 |(b,x)::r,(b',y)::r',h=>by
  simp only [eqTs] at h
  revert h
  cases hb:(b==b') with
  |false=>intro h;exact False.elim h
  |true=>
   intro h
   simp only [beq_iff_eq] at hb
   subst hb
   obtain ⟨rfl,h2⟩:=ap9 (show eqCs x y (eqTs r r' q) from h)
   obtain ⟨rfl,h3⟩:=bb7 h2
   exact ⟨rfl,h3⟩
theorem bS7 {x y:PV U} {q:Prop} (h:eqP x y q):x=y∧q:=by
 unfold eqP at h
 split at h
 ·exact ⟨rfl,h⟩
 ·obtain ⟨rfl,hq⟩:=bq9 h;exact ⟨rfl,hq⟩
 ·obtain ⟨rfl,hq⟩:=ap9 h;exact ⟨rfl,hq⟩
 ·obtain ⟨rfl,hq⟩:=bb7 h;exact ⟨rfl,hq⟩
 ·exact h.elim
theorem aT0 {α:Type} {f:α→α→Prop→Prop} (hf:∀ {x y q},f x y q→x=y∧q) {q:Prop}:∀ {x y:List (Nat×α)},eqL f x y q→x=y∧q
 |[],[],h=>⟨rfl,h⟩
 |[],_::_,h=>h.elim
 |_::_,[],h=>h.elim
 |(k,x)::r,(k',y)::r',h=>by
  simp only [eqL] at h
  revert h
  cases hc:Nat.beq k k' with
  |false=>intro h;exact False.elim h
  |true=>
   intro h
   have h1:=co5 hc
   subst h1
   obtain ⟨rfl,h2⟩:=hf (show f x y (eqL f r r' q) from h)
   obtain ⟨rfl,h3⟩:=aT0 hf h2
   exact ⟨rfl,h3⟩
theorem aq7 {x y:St U} {q:Prop} (h:eqSt x y q):x=y∧q:=by
 obtain ⟨x1,x2⟩:=x
 obtain ⟨y1,y2⟩:=y
 obtain ⟨h1,h2⟩:=aT0 bS7 h
 obtain ⟨h3,h4⟩:=aT0 br0 h2
 dsimp only at h1 h3
 subst h1;subst h3
 exact ⟨rfl,h4⟩
theorem cn7 {S:Nat→Prop}:∀ {m:Nat},S m→∃ k,S k∧∀ j,S j→k≤j:=by
 intro m
 induction m using Nat.strongRecOn with
 |ind m ih=>
  intro hm
  by_cases h:∃ j,j<m∧S j
  ·obtain ⟨j,hj,hS⟩:=h
   exact ih j hj hS
  ·exact ⟨m,hm,fun j hj=>by
    rcases Nat.lt_or_ge j m with h1|h1
    ·exact absurd ⟨j,h1,hj⟩ h
    ·exact h1⟩
theorem aN2 {ro:Option Nat} {P:Program} {α:Type} {c:Code} {Q:Exit→Act→World→Prop} (I:α→Act→World→Prop) (μ:α→Nat) {p0:α} (h0:I p0 a w)
  (round:∀ p a w,I p a w→c.wpIn (fen E.P ro) 0 P (Exit.then (fun a' w'=>∃ p',I p' a' w'∧μ p'<μ p) Q) a w):(Code.loop c).wpIn (fen E.P ro) 0 P Q a w:=by
 classical
 let m:Act→World→Nat:=fun a w=>if h:∃ k,(∃ p,I p a w∧μ p=k)∧∀ j,(∃ p,I p a w∧μ p=j)→k≤j then Classical.choose h else 0
 have hm:∀ a w p,I p a w→(∃ q,I q a w∧μ q=m a w)∧m a w≤μ p:=by
  intro a w p hp
  have h:∃ k,(∃ p,I p a w∧μ p=k)∧∀ j,(∃ p,I p a w∧μ p=j)→k≤j:=cn7 (S:=fun k=>∃ p,I p a w∧μ p=k) ⟨p,hp,rfl⟩
  have hm:m a w=Classical.choose h:=by simp only [m];rw [dif_pos h]
  have hspec:=Classical.choose_spec h
  rw [hm]
  exact ⟨hspec.1,hspec.2 _ ⟨p,hp,rfl⟩⟩
 refine wpIn_loop (fun a w=>∃ p,I p a w) m ⟨p0,h0⟩ (fun a w ⟨p,hp⟩=>?_)
 obtain ⟨⟨q,hq,hmq⟩,_⟩:=hm a w p hp
 refine wpIn_mono (round q a w hq) (fun e a' w' hh=>?_)
 cases e with
 |normal=>
  obtain ⟨p',h1,h2⟩:=hh
  exact ⟨⟨p',h1⟩,by have:=(hm a' w' p' h1).2;omega⟩
 |_=>exact hh
theorem bj5 (k:Ok F w β h) {id:Nat} (hf:look id h=none) (e:TypeId) (t:Ty):After F w β h w (upd1 β id (.slice none 0 0)) (write id (.row e t [] 0 true) h):=
 S9 k (Below.refl _ _) hf (.inl rfl) (fun g hg=>(W2 hg).elim) (fun x=>⟨[],by rw [C2];exact Owns.of (World.ownsRow_nil _ _ _ _),by simp [most],by simp,fun i y hy=>by simp at hy⟩)
theorem br9 (k:Ok F w β h) {id:Nat} (hf:look id h=none) (e:TypeId) (t:Ty) (m:List Nat):After F w β h w (upd1 β id (.tuple ((.slice none 0 0:Value)::[]).toArray)) (write id (.dp (.rows e t m [] 0 0 true none)) h):=by
 refine S9 k (Below.refl _ _) hf (.inl rfl) (fun g hg=>?_) (fun x=>?_)
 ·rcases C3.1 hg with h1|⟨p,q,h1,_⟩
  ·simp [D8] at h1
  ·simp at h1
 ·exact Z4 ⟨.slice none 0 0,[],[],rfl,Owns.of (World.ownsRow_nil _ _ _ _),by simp [most],by simp,rfl,fun i x hx=>by simp at hx,fun p q a c b ha=>by simp at ha,fun p a b ha=>by simp at ha⟩ (C2 _ _ _)
theorem bH6 {tmps:Array Value} (R:Rel F n β s tmps w) {id:Nat} (hid:id<1000000) {o0 o:Ob U} (hl:look id s.h=some o0) (hlive0:o0.live=true) {b:Option Nat} {N':Value} (hsub:∀ g,Has N' g→Has (β id) g)
  (hnew:(∀ d v,Rep U w (Live β s.h) d v→Rep U w (Live (upd1 β id N') (s.cvt id b o).h) d v)→(∀ g,Has (β id) g→¬ Has N' g→¬ Live (upd1 β id N') (s.cvt id b o).h g)→ORel F.B w (upd1 β id N') (s.cvt id b o).h id o)
  (hcell:∀ c v,CRel w β s.h c v→(cvK id b c=c∧id∉ids1 c)∨∀ h',look id h'=some o→CRel w (upd1 β id N') h' (cvK id b c) v):∃ β',Rel F n β' (s.cvt id b o) tmps w∧OptIn (fun _=>False) (s.cvt id b o).σ:=by
 have hlook:∀ (l:Obs U) j,look j (l.map fun x=>(x.1,bif Nat.beq x.1 id then o else cvO id b x.2))=if j=id then (look j l).map (fun _=>o) else (look j l).map (cvO id b):=by
  intro l j
  induction l with
  |nil=>simp [look]
  |cons x r ih=>
   obtain ⟨i,a⟩:=x
   simp only [List.map_cons,look]
   by_cases hij:i=j
   ·subst hij
    simp only [Nat.beq_refl,if_true]
    by_cases hi:i=id
    ·subst hi;simp
    ·simp [hi,O2 hi]
   ·simp only [O2 hij,Bool.false_eq_true,if_false]
    exact ih
 have hlid:look id (s.cvt id b o).h=some o:=by
  show look id (s.h.map _)=_
  rw [hlook,if_pos rfl,hl];rfl
 have hto:∀ j o1,look j s.h=some o1→j≠id→look j (s.cvt id b o).h=some (cvO id b o1):=by
  intro j o1 h1 hj
  show look j (s.h.map _)=_
  rw [hlook,if_neg hj,h1];rfl
 have hof:∀ j o1,look j (s.cvt id b o).h=some o1→(j=id∧o1=o)∨(j≠id∧∃ o2,look j s.h=some o2∧o1=cvO id b o2):=by
  intro j o1 h1
  rw [show (s.cvt id b o).h=s.h.map (fun x=>(x.1,bif Nat.beq x.1 id then o else cvO id b x.2)) from rfl,hlook] at h1
  split at h1
  ·rename_i hj
   subst hj
   rw [hl] at h1
   exact .inl ⟨rfl,by simpa using h1.symm⟩
  ·rename_i hj
   simp only [cp1] at h1
   obtain ⟨o2,h2,h3⟩:=h1
   exact .inr ⟨hj,o2,h2,h3.symm⟩
 have hlvO:∀ o1:Ob U,(cvO id b o1).live=o1.live:=by
  intro o1
  cases o1 with
  |dp D=>cases D with
   |iter mid kt vt n seen cur=>cases mid<;>rfl
   |_=>rfl
  |_=>rfl
 have hrowO:∀ o1:Ob U,(cvO id b o1).isRow=o1.isRow:=by
  intro o1
  cases o1 with
  |dp D=>cases D with
   |iter mid kt vt n seen cur=>cases mid<;>rfl
   |_=>rfl
  |_=>rfl
 have hβ:∀ j,j≠id→(upd1 β id N') j=β j:=fun j hj=>ai5 β N' hj
 have hβi:(upd1 β id N') id=N':=C2 _ _ _
 have hHas:∀ j g,Has ((upd1 β id N') j) g→Has (β j) g:=by
  intro j g hg
  by_cases hj:j=id
  ·subst hj
   rw [hβi] at hg
   exact hsub g hg
  ·rw [hβ j hj] at hg;exact hg
 have hlive:∀ g,Live (upd1 β id N') (s.cvt id b o).h g→Live β s.h g:=by
  rintro g (hm|⟨j,o1,h1,h2,h3⟩)
  ·exact .inl hm
  ·rcases hof j o1 h1 with ⟨rfl,rfl⟩|⟨hj,o2,h4,rfl⟩
   ·exact .inr ⟨_,o0,hl,hlive0,hHas _ g h3⟩
   ·rw [hlvO] at h2
    exact .inr ⟨j,o2,h4,h2,hHas j g h3⟩
 have hrep:∀ d v,Rep U w (Live β s.h) d v→Rep U w (Live (upd1 β id N') (s.cvt id b o).h) d v:=fun d v r=>r.mono (Nat.le_refl _) (fun _ _ _=>rfl) (fun g _ hg=>hlive g hg)
 have hno:∀ g,Has (β id) g→¬ Has N' g→¬ Live (upd1 β id N') (s.cvt id b o).h g:=by
  rintro g h1 h2 (hm|⟨j,o1,h3,h4,h5⟩)
  ·exact R.Mo id _ g hl h1 hm
  ·rcases hof j o1 h3 with ⟨rfl,rfl⟩|⟨hj,o2,h6,rfl⟩
   ·rw [hβi] at h5;exact h2 h5
   ·exact hj (R.dis j o2 id _ g h6 hl (hHas j g h5) h1)
 have hcells:∀ c v,CRel w β s.h c v→CRel w (upd1 β id N') (s.cvt id b o).h (cvK id b c) v:=by
  intro c v r
  rcases hcell c v r with ⟨h1,h2⟩|h1
  ·rw [h1]
   cases c with
   |un=>trivial
   |d x=>exact hrep _ _ r
   |row j ver=>
    obtain ⟨e,t,l,ver',lv,q1,q2,q3⟩:=r
    have hj:j≠id:=fun hh=>h2 (by simp [ids1,hh])
    exact ⟨e,t,l,ver',lv,hto j _ q1 hj,q2,fun hh=>by rw [hβ j hj];exact q3 hh⟩
   |ptr j off=>
    obtain ⟨e,cs,g,q1,q2,q3⟩:=r
    have hj:j≠id:=fun hh=>h2 (by simp [ids1,hh])
    exact ⟨e,_,g,hto j _ q1 hj,(hβ j hj).trans q2,q3⟩
   |elt j ver i off=>
    obtain ⟨e,t,l,ver',lv,q1,q2,q3⟩:=r
    have hj:j≠id:=fun hh=>h2 (by simp [ids1,hh])
    exact ⟨e,t,l,ver',lv,hto j _ q1 hj,q2,fun hh=>by rw [hβ j hj];exact q3 hh⟩
   |rd cs off=>
    obtain ⟨g,q,hv,hM,hg,hc⟩:=r
    refine ⟨g,q,hv,fun hh=>hM (hlive g hh),hg,fun j d hd=>?_⟩
    obtain ⟨u,hu,hr⟩:=hc j d hd
    exact ⟨u,hu,hrep _ _ hr⟩
   |gl g=>exact r
   |lit u=>exact r
   |map j=>
    obtain ⟨kt,vt,l,q1,q2⟩:=r
    have hj:j≠id:=fun hh=>h2 (by simp [ids1,hh])
    exact ⟨kt,vt,l,hto j _ q1 hj,by rw [hβ j hj];exact q2⟩
   |clo f ids=>
    obtain ⟨bs,q1,q2,q3⟩:=r
    refine ⟨bs,q1,q2,fun i j g hj hg=>?_⟩
    obtain ⟨e,cs,q4,q5⟩:=q3 i j g hj hg
    have hji:j≠id:=fun hh=>h2 (by rw [←hh];exact List.mem_of_getElem? hj)
    exact ⟨e,_,hto j _ q4 hji,(hβ j hji).trans q5⟩
   |yld j=>
    obtain ⟨st,q1,q2⟩:=r
    have hj:j≠id:=fun hh=>h2 (by simp [ids1,hh])
    exact ⟨st,hto j _ q1 hj,by rw [hβ j hj];exact q2⟩
   |ifc t b' ds=>
    obtain ⟨vs,q1,q2,q3,q4,q5⟩:=r
    exact ⟨vs,q1,q2,q3,q4,fun j d u hd hu=>hrep _ _ (q5 j d u hd hu)⟩
   |tab g i=>exact r
   |tabf fs i=>exact r
   |dc j c=>
    obtain ⟨D,q1,q2⟩:=r
    have hj:j≠id:=fun hh=>h2 (by cases c<;>simp [ids1,hh])
    have hlk:=hto j _ q1 hj
    cases D with
    |iter mid kt vt n seen cur=>
     cases c with
     |it m=>
      obtain ⟨q3,q4⟩:=q2
      subst q3
      have hm:m≠id:=fun hh=>h2 (by simp [ids1,hh])
      simp only [cvO,O2 hm,cond_false] at hlk
      exact ⟨_,hlk,rfl,by rw [hβ j hj];exact q4⟩
     |_=>exact q2.elim
    |rows e t m l ver iv lv hole=>exact ⟨_,hlk,by rw [hβ j hj];exact q2⟩
    |maps kt e t l ver iv lv hole=>exact ⟨_,hlk,by rw [hβ j hj];exact q2⟩
   |bnd f j=>
    obtain ⟨e,cs,g,q1,q2,q3⟩:=r
    have hj:j≠id:=fun hh=>h2 (by simp [ids1,hh])
    exact ⟨e,_,g,hto j _ q1 hj,(hβ j hj).trans q2,q3⟩
  ·exact h1 _ hlid
 have hcs:∀ cs vs,CsRel w β s.h cs vs→CsRel w (upd1 β id N') (s.cvt id b o).h (cs.map (cvK id b)) vs:=by
  intro cs vs r
  refine ⟨by simpa using r.1,r.2.1,fun j c v hc hv=>?_⟩
  simp only [cp9,cp1] at hc
  obtain ⟨c',h3,rfl⟩:=hc
  exact hcells c' v (r.2.2 j c' v h3 hv)
 have hpv:∀ p v σ σ',PRel w β s.h σ p v→PRel w (upd1 β id N') (s.cvt id b o).h σ' (cvP id b p) v:=by
  intro p v σ σ' r
  cases p with
  |un=>trivial
  |one c=>exact hcs [c] [v] r
  |agg cs=>
   obtain ⟨vs,hv,hc⟩:=r
   exact ⟨vs,hv,hcs cs vs hc⟩
  |tup xs=>
   obtain ⟨vs,hv,hl,hx⟩:=r
   refine ⟨vs,hv,by simpa using hl,fun j x u hj hu=>?_⟩
   simp only [cp9,cp1] at hj
   obtain ⟨x',h3,rfl⟩:=hj
   have:=hx j x' u h3 hu
   obtain ⟨b',cs⟩:=x'
   cases b' with
   |true=>
    obtain ⟨vs',h4,h5⟩:=this
    exact ⟨vs',h4,hcs cs vs' h5⟩
   |false=>exact hcs cs [u] this
  |opt gs p=>trivial
 refine ⟨upd1 β id N',⟨⟨R.bel,R.hB,fun j o1 h1=>?_,fun j o1 j' o1' g q1 q2 q3 q4=>?_,R.frm,fun j o1 g q1 q2=>?_,fun j o1 g q1 q2=>?_,R.Mlt,R.Meq,fun j o1 v q1 q2=>?_,R.nmg,R.glo⟩,R.sz,fun t p h1=>?_⟩,fun t gs p h1=>?_⟩
 ·rcases hof j o1 h1 with ⟨rfl,rfl⟩|⟨hj,o2,h3,rfl⟩
  ·exact hnew hrep hno
  ·have ro:=R.obj j o2 h3
   have hv:(upd1 β id N') j=β j:=hβ j hj
   cases o2 with
   |box e cs=>
    obtain ⟨g,vs,q1,q2,q3,q4⟩:=ro
    exact ⟨g,vs,hv.trans q1,q2,q3,hcs cs _ q4⟩
   |row e t l ver lv=>
    obtain ⟨xs,q1,q2,q3,q4⟩:=ro
    refine ⟨xs,by rw [hv];exact q1,q2,q3,fun i x hx j d hd=>?_⟩
    obtain ⟨u,hu,hr⟩:=q4 i x hx j d hd
    exact ⟨u,hu,hrep _ _ hr⟩
   |map kt vt l=>
    obtain ⟨g,es,clock,q1,q2,q3,q4,q5⟩:=ro
    exact ⟨g,es,clock,hv.trans q1,q2,q3,q4,fun i x y hx hy=>⟨(q5 i x y hx hy).1.by hrep,(q5 i x y hx hy).2.by hrep⟩⟩
   |loop st=>
    obtain ⟨g,r,q1,q2,q3,q4⟩:=ro
    exact ⟨g,r,hv.trans q1,q2,q3,q4⟩
   |dp D=>
    cases D with
    |rows e t m l ver iv lv hole=>exact Z4 (N:=β j) (D:=.rows e t m l ver iv lv hole) (DRel.mapR (ver:=ver) (iv:=iv) (lv:=lv) hrep (fun _ _=>rfl) ro) hv
    |maps kt e t l ver iv lv hole=>exact Z4 (N:=β j) (D:=.maps kt e t l ver iv lv hole) (DRel.mapM (ver:=ver) (iv:=iv) (lv:=lv) hrep (fun _ _=>rfl) ro) hv
    |iter mid kt vt n seen cur=>
     obtain ⟨r,b',last,z1,z2,z3,z4,z5⟩:=ro
     cases mid with
     |none=>exact ⟨r,b',last,hv.trans z1,z2,z3,z4,fun m hm=>by cases hm⟩
     |some m0=>
      refine ⟨r,b',last,hv.trans z1,z2,z3,z4,fun m hm=>?_⟩
      cases hb:Nat.beq m0 id with
      |true=>rw [hb] at hm;cases hm
      |false=>
       rw [hb] at hm
       simp only [cond_false,co4] at hm
       subst hm
       have h8:=hcells (.map m0) _ (z5 m0 rfl)
       have h9:cvK (U:=U) id b (.map m0)=.map m0:=by
        cases b<;>simp [cvK,hb]
       rw [h9] at h8
       exact h8
 ·have h8:∃ o3,look j s.h=some o3:=by
   rcases hof j o1 q1 with ⟨rfl,_⟩|⟨_,o2,h3,_⟩
   ·exact ⟨_,hl⟩
   ·exact ⟨_,h3⟩
  have h9:∃ o3,look j' s.h=some o3:=by
   rcases hof j' o1' q2 with ⟨rfl,_⟩|⟨_,o2,h3,_⟩
   ·exact ⟨_,hl⟩
   ·exact ⟨_,h3⟩
  obtain ⟨o3,h8⟩:=h8
  obtain ⟨o4,h9⟩:=h9
  exact R.dis j o3 j' o4 g h8 h9 (hHas j g q3) (hHas j' g q4)
 ·rcases hof j o1 q1 with ⟨rfl,_⟩|⟨_,o2,h3,_⟩
  ·exact R.own _ _ g hl (hHas _ g q2)
  ·exact R.own _ _ g h3 (hHas _ g q2)
 ·rcases hof j o1 q1 with ⟨rfl,_⟩|⟨_,o2,h3,_⟩
  ·exact R.Mo _ _ g hl (hHas _ g q2)
  ·exact R.Mo _ _ g h3 (hHas _ g q2)
 ·rcases hof j o1 q1 with ⟨rfl,_⟩|⟨hj,o2,h3,rfl⟩
  ·have:=R.nmg _ v q2
   omega
  ·rw [hrowO,hβ j hj]
   exact R.fix j o2 v h3 q2
 ·rw [show (s.cvt id b o).σ=s.σ.map (fun x=>(x.1,cvP id b x.2)) from rfl,M4] at h1
  simp only [cp1] at h1
  obtain ⟨p',h2,rfl⟩:=h1
  exact hpv p' _ _ _ (R.tmp t p' h2)
 ·rw [show (s.cvt id b o).σ=s.σ.map (fun x=>(x.1,cvP id b x.2)) from rfl,M4] at h1
  simp only [cp1] at h1
  obtain ⟨p',_,h3⟩:=h1
  cases p'<;>simp [cvP] at h3
theorem bb8 {tmps:Array Value} (R:Rel F n β s tmps w) (hO:OptIn (fun _=>False) s.σ) (x:Place×Nat×TypeId×Ty):∃ β',Rel F n β' (U5 s x) tmps w∧OptIn (fun _=>False) (U5 s x).σ:=by
 obtain ⟨pl,id,e,t⟩:=x
 cases pl with
 |slot j=>
  simp only [U5]
  split
  ·exact ⟨β,R,hO⟩
  ·rename_i hf
   split
   ·rename_i hl
    have A:=bj5 R.ok hf e t
    have hv:tmps.getD j undef=.slice none 0 0:=(R.tmp j _ hl).inv.2
    refine ⟨upd1 β id (.slice none 0 0),⟨A.toOk,R.sz,fun t' p hp=>?_⟩,fun t' gs p hp=>?_⟩
    ·simp only at hp
     rw [A7] at hp
     split at hp
     ·rename_i htj
      simp only [co4] at hp
      subst hp;subst htj
      rw [hv]
      exact af6 (B0 _ _ _) (C2 _ _ _) rfl _
     ·refine PRel.write ?_ (A.ext.p (R.tmp t' p hp))
      rcases hO.cases hp with h1|⟨gs,q,h1,h2,h3⟩
      ·exact .inl h1
      ·exact .inr ⟨gs,q,h1,h2,fun g hg=>(h3 g hg).elim⟩
    ·simp only at hp
     rw [A7] at hp
     split at hp
     ·simp at hp
     ·exact hO t' gs p hp
   ·exact ⟨β,R,hO⟩
 |box b c=>
  simp only [U5]
  split
  ·exact ⟨β,R,hO⟩
  ·rename_i hf
   split
   ·rename_i be cs hb
    split
    ·rename_i hc
     have hne:b≠id:=by
      intro h
      subst h
      rw [hb] at hf
      cases hf
     have A:=bj5 R.ok hf e t
     have hb1:look b (write id (.row e t [] 0 true) s.h)=some (.box be cs):=by rw [A7,if_neg hne];exact hb
     obtain ⟨g,vs,q1,q2,q3,q4⟩:=A.obj b _ hb1
     have hclt:c<cs.length:=(co9.1 hc).1
     have hvc:∀ v,vs.toList[c]? =some v→v=.slice none 0 0:=fun v hv=>q4.2.2 c _ v hc hv
     have A2:After F w (upd1 β id (.slice none 0 0)) (write id (.row e t [] 0 true) s.h) w (upd1 β id (.slice none 0 0)) (write b (.box be (cs.set c (.row id 0))) (write id (.row e t [] 0 true) s.h)):=by
      refine J8 A.ok hb1 rfl rfl rfl rfl (Nat.le_refl _) (fun _ _ _=>rfl) rfl (fun _ _=>rfl) rfl (fun h=>by simp [Ob.oth] at h) (fun _ h=>.inl h) (fun e2 cs2 h5=>?_) (fun _ _ _ _ _ h5=>by cases h5) (fun x=>?_)
      ·cases h5;exact ⟨rfl,_,rfl⟩
      ·refine ⟨g,vs,q1,q2,q3,by rw [List.length_set];exact q4.1,q4.2.1,fun j cc v hj hv=>?_⟩
       rw [cq9] at hj
       split at hj
       ·rename_i hcj
        subst hcj
        simp only [co4] at hj
        subst hj
        rw [hvc v hv]
        exact ⟨e,t,[],0,true,by rw [A7,if_neg (Ne.symm hne)];exact B0 _ _ _,Nat.le_refl _,fun _=>(C2 _ _ _).symm⟩
       ·exact x.cell (q4.2.2 j cc v hj hv)
     exact ⟨_,⟨A2.toOk,R.sz,fun t' p hp=>A2.ext.p (A.ext.p (R.tmp t' p hp))⟩,hO⟩
    ·exact ⟨β,R,hO⟩
   ·exact ⟨β,R,hO⟩
 |cell b c=>
  simp only [U5]
  split
  ·rename_i be cs hb
   split
   ·rename_i cc hc
    split
    ·rename_i x u ha
     have hf:=(X7 (fun _ _ h=>h) ha).1
     have A1:=I3 R.ok hf
     have hub:∀ o,(b,o)∉u:=by
      intro o ho
      rcases hf b o ho with ⟨_,_,_,_,_,h1,_⟩|⟨_,h1,_⟩
      ·rw [hb] at h1;cases h1
      ·rw [hb] at h1;cases h1
     have hb1:look b (upds s.h u)=some (.box be cs):=by rw [B7 hub];exact hb
     obtain ⟨g,vs,q1,q2,q3,q4⟩:=A1.obj b _ hb1
     obtain ⟨g',vs',q1',q2',q3',q4'⟩:=R.ok.obj b _ hb
     have hvc:∀ v,vs.toList[c]? =some v→Rep U w (Live β (upds s.h u)) x v:=by
      intro v hv
      rw [q1] at q1'
      simp only [Value.pointer.injEq,co4,Addr.mk.injEq,and_true] at q1'
      subst q1'
      rw [q3] at q3'
      simp only [co4,Obj.cells.injEq,and_true] at q3'
      subst q3'
      exact ai3 R.ok (fun _ _ h=>h) ha (q4'.2.2 c _ v hc hv) hf (fun _ h=>h)
     have A2:After F w β (upds s.h u) w β (write b (.box be (cs.set c (.d x))) (upds s.h u)):=by
      refine J8 A1.ok hb1 rfl rfl rfl rfl (Nat.le_refl _) (fun _ _ _=>rfl) rfl (fun _ _=>rfl) rfl (fun h=>by simp [Ob.oth] at h) (fun _ h=>.inl h) (fun e2 cs2 h5=>?_) (fun _ _ _ _ _ h5=>by cases h5) (fun xx=>?_)
      ·cases h5;exact ⟨rfl,_,rfl⟩
      ·refine ⟨g,vs,q1,q2,q3,by rw [List.length_set];exact q4.1,q4.2.1,fun j cc v hj hv=>?_⟩
       rw [cq9] at hj
       split at hj
       ·rename_i hcj
        subst hcj
        simp only [Option.ite_none_right_eq_some,co4] at hj
        obtain ⟨_,hj⟩:=hj
        subst hj
        exact xx.rep (hvc v hv)
       ·exact xx.cell (q4.2.2 j cc v hj hv)
     exact ⟨_,⟨A2.toOk,R.sz,fun t' p hp=>A2.ext.p (A1.ext.p (R.tmp t' p hp))⟩,hO⟩
    ·exact ⟨β,R,hO⟩
   ·exact ⟨β,R,hO⟩
  ·exact ⟨β,R,hO⟩
 |row j=>
  simp only [U5]
  split
  ·rename_i c hl
   split
   ·rename_i x u ha
    have hf:=(X7 (fun _ _ h=>h) ha).1
    have A:=I3 R.ok hf
    have hc:=(R.tmp j _ hl).inv
    have hr:=ai3 R.ok (fun _ _ h=>h) ha hc.2 hf (fun _ h=>h)
    refine ⟨β,⟨A.toOk,R.sz,fun t' p hp=>?_⟩,fun t' gs p hp=>?_⟩
    ·simp only at hp
     rw [A7] at hp
     split at hp
     ·rename_i htj
      simp only [co4] at hp
      subst hp;subst htj
      exact CsRel.one hc.1 hr
     ·refine PRel.write ?_ (A.ext.p (R.tmp t' p hp))
      rcases hO.cases hp with h1|⟨gs,q,h1,h2,h3⟩
      ·exact .inl h1
      ·exact .inr ⟨gs,q,h1,h2,fun g hg=>(h3 g hg).elim⟩
    ·simp only at hp
     rw [A7] at hp
     split at hp
     ·simp at hp
     ·exact hO t' gs p hp
   ·exact ⟨β,R,hO⟩
  ·exact ⟨β,R,hO⟩
 |seen j=>
  simp only [U5]
  split
  ·rename_i kt e' t' hl
   cases hj:Nat.blt j 1000000 with
   |false=>exact ⟨β,R,hO⟩
   |true=>
    have hj:j<1000000:=by simpa using hj
    obtain ⟨bb,es,clock,h1,h2,h3,⟨h4,h4c,h4b⟩,h5⟩:=R.ok.obj j _ hl
    refine bH6 R hj hl rfl (N':=.tuple [.map (some bb)].toArray) (fun g hg=>?_) (fun hrep _=>Z4 (N:=.tuple [.map (some bb)].toArray) (D:=.maps kt e' t' [] 0 0 true none) ⟨bb,es,clock,[],rfl,h2,h3,⟨h4,h4c,h4b⟩,rfl,fun i x en n hx=>by simp at hx,fun p q a c g ha=>by simp at ha,fun p a ha=>by simp at ha⟩ (C2 _ _ _)) (fun c v hc=>?_)
    ·rcases C3.1 hg with h6|⟨p,q,h6,_⟩
     ·rw [h1];exact h6
     ·simp at h6
    ·cases c with
     |map j'=>
      simp only [cvK]
      cases hb:Nat.beq j' j with
      |false=>exact .inl ⟨rfl,fun hh=>by simp only [ids1,cp5] at hh;rw [←hh,Nat.beq_refl] at hb;cases hb⟩
      |true=>
       have hb:=co5 hb
       subst hb
       obtain ⟨_,_,_,_,hv⟩:=hc
       refine .inr fun h' hl'=>⟨_,hl',Nat.le_refl _,fun _=>⟨_,C2 _ _ _,?_⟩⟩
       rw [hv,h1];rfl
     |dc j' c'=>
      obtain ⟨D,hD,hv⟩:=hc
      have hne:j'≠j:=fun hh=>by rw [hh,hl] at hD;cases hD
      cases c' with
      |it m=>
       simp only [cvK,O2 hne,Bool.false_or]
       cases hb:Nat.beq m j with
       |false=>exact .inl ⟨rfl,fun hh=>by
         simp only [ids1,List.mem_cons,List.not_mem_nil,or_false] at hh
         rcases hh with h6|h6
         ·exact hne h6.symm
         ·rw [←h6,Nat.beq_refl] at hb;cases hb⟩
       |true=>exact .inr fun _ _=>trivial
      |self v0=>exact .inl ⟨by simp only [cvK,O2 hne];rfl,fun hh=>by simp only [ids1,cp5] at hh;exact hne hh.symm⟩
      |elt=>exact .inl ⟨by simp only [cvK,O2 hne];rfl,fun hh=>by simp only [ids1,cp5] at hh;exact hne hh.symm⟩
      |inn=>exact .inl ⟨by simp only [cvK,O2 hne];rfl,fun hh=>by simp only [ids1,cp5] at hh;exact hne hh.symm⟩
      |iat=>exact .inl ⟨by simp only [cvK,O2 hne];rfl,fun hh=>by simp only [ids1,cp5] at hh;exact hne hh.symm⟩
      |key=>exact .inl ⟨by simp only [cvK,O2 hne];rfl,fun hh=>by simp only [ids1,cp5] at hh;exact hne hh.symm⟩
     |row j' vr=>
      obtain ⟨_,_,_,_,_,hD,_⟩:=hc
      exact .inl ⟨rfl,fun hh=>by simp only [ids1,cp5] at hh;rw [←hh,hl] at hD;cases hD⟩
     |ptr j' off=>
      obtain ⟨_,_,_,hD,_⟩:=hc
      exact .inl ⟨rfl,fun hh=>by simp only [ids1,cp5] at hh;rw [←hh,hl] at hD;cases hD⟩
     |elt j' vr i off=>
      obtain ⟨_,_,_,_,_,hD,_⟩:=hc
      exact .inl ⟨rfl,fun hh=>by simp only [ids1,cp5] at hh;rw [←hh,hl] at hD;cases hD⟩
     |clo f ids=>
      obtain ⟨bs,_,hlen,hD⟩:=hc
      refine .inl ⟨rfl,fun hh=>?_⟩
      obtain ⟨p,hp⟩:=List.mem_iff_getElem?.1 hh
      have hpl:p<ids.length:=(co9.1 hp).1
      have hpb:p<bs.length:=by omega
      obtain ⟨_,_,hD,_⟩:=hD p j bs[p] hp (co6 hpb)
      rw [hl] at hD;cases hD
     |yld j'=>
      obtain ⟨_,hD,_⟩:=hc
      exact .inl ⟨rfl,fun hh=>by simp only [ids1,cp5] at hh;rw [←hh,hl] at hD;cases hD⟩
     |bnd f j'=>
      obtain ⟨_,_,_,hD,_⟩:=hc
      exact .inl ⟨rfl,fun hh=>by simp only [ids1,cp5] at hh;rw [←hh,hl] at hD;cases hD⟩
     |_=>exact .inl ⟨rfl,fun hh=>by simp [ids1] at hh⟩
  ·rename_i kt e' t' l' ver iv hl
   cases hj:Nat.blt j 1000000 with
   |false=>exact ⟨β,R,hO⟩
   |true=>
    have hj:j<1000000:=by simpa using hj
    have hdr:DRel F.B w β s.h (.maps kt e' t' l' ver iv true none) (β j):=R.ok.obj j _ hl
    obtain ⟨bb,es,clock,ns,hN,h1,h2,h3,h4,h5,h6,h7⟩:=hdr
    refine bH6 R hj hl rfl (N':=.map (some bb)) (fun g hg=>?_) (fun hrep hno=>⟨bb,es,clock,C2 _ _ _,h1,h2,h3,fun i x en hx hen=>?_⟩) (fun c v hc=>?_)
    ·rw [hN]
     exact C3.2 (.inl hg)
    ·have hil:=(co9.1 hx).1
     have hin:ns[i]? =some ns[i]:=co6 (by omega)
     obtain ⟨q1,_,q3⟩:=h5 i x en _ hx hen hin
     obtain ⟨r1,r2⟩:=q3 (by rintro ⟨_,hh,_⟩;cases hh)
     refine ⟨q1.by hrep,?_⟩
     rw [←r1]
     have hr:=az7 (fun g hg=>hno g (by rw [hN];exact C3.2 (.inr ⟨i,_,hin,hg⟩)) (fun hh=>h7 i _ hin (by rw [hg];exact hh.symm))) (r2.map hrep (fun _ _=>rfl))
     refine ⟨[ns[i]],rfl,rfl,?_,fun p d u hd hu=>?_⟩
     ·obtain ⟨ys,y1,_⟩:=r2
      simpa using af7 y1
     ·match p,hd,hu with
      |0,hd,hu=>
       simp only [B4,cp2,co4] at hd hu
       subst hd;subst hu
       exact hr
      |p+1,hd,hu=>simp [B4] at hd
    ·cases c with
     |map j'=>
      obtain ⟨_,_,_,hD,hv⟩:=hc
      exact .inl ⟨rfl,fun hh=>by simp only [ids1,cp5] at hh;rw [←hh,hl] at hD;cases hD⟩
     |dc j' c'=>
      obtain ⟨D,hD,hv⟩:=hc
      cases hbj:Nat.beq j' j with
      |true=>
       have hbj':=co5 hbj
       subst hbj'
       rw [hl] at hD
       simp only [co4,Ob.dp.injEq] at hD
       subst hD
       cases c' with
       |self v0=>
        simp only [cvK,hbj,cond_true]
        cases hbv:Nat.beq v0 ver with
        |false=>exact .inr fun _ _=>trivial
        |true=>
         have hx:=bi9 hN hv (co5 hbv)
         refine .inr fun h' hl'=>⟨_,_,_,hl',?_⟩
         rw [hx];exact (C2 _ _ _).symm
       |it m=>simp only [cvK,hbj,Bool.true_or,cond_true];exact .inr fun _ _=>trivial
       |_=>simp only [cvK,hbj,cond_true];exact .inr fun _ _=>trivial
      |false=>
       have hne:j'≠j:=fun hh=>by rw [hh,Nat.beq_refl] at hbj;cases hbj
       cases c' with
       |it m=>
        simp only [cvK,hbj,Bool.false_or]
        cases hb:Nat.beq m j with
        |false=>exact .inl ⟨rfl,fun hh=>by
          simp only [ids1,List.mem_cons,List.not_mem_nil,or_false] at hh
          rcases hh with h6|h6
          ·exact hne h6.symm
          ·rw [←h6,Nat.beq_refl] at hb;cases hb⟩
        |true=>exact .inr fun _ _=>trivial
       |self v0=>exact .inl ⟨by simp only [cvK,hbj];rfl,fun hh=>by simp only [ids1,cp5] at hh;exact hne hh.symm⟩
       |elt=>exact .inl ⟨by simp only [cvK,hbj];rfl,fun hh=>by simp only [ids1,cp5] at hh;exact hne hh.symm⟩
       |inn=>exact .inl ⟨by simp only [cvK,hbj];rfl,fun hh=>by simp only [ids1,cp5] at hh;exact hne hh.symm⟩
       |iat=>exact .inl ⟨by simp only [cvK,hbj];rfl,fun hh=>by simp only [ids1,cp5] at hh;exact hne hh.symm⟩
       |key=>exact .inl ⟨by simp only [cvK,hbj];rfl,fun hh=>by simp only [ids1,cp5] at hh;exact hne hh.symm⟩
     |row j' vr=>
      obtain ⟨_,_,_,_,_,hD,_⟩:=hc
      exact .inl ⟨rfl,fun hh=>by simp only [ids1,cp5] at hh;rw [←hh,hl] at hD;cases hD⟩
     |ptr j' off=>
      obtain ⟨_,_,_,hD,_⟩:=hc
      exact .inl ⟨rfl,fun hh=>by simp only [ids1,cp5] at hh;rw [←hh,hl] at hD;cases hD⟩
     |elt j' vr i off=>
      obtain ⟨_,_,_,_,_,hD,_⟩:=hc
      exact .inl ⟨rfl,fun hh=>by simp only [ids1,cp5] at hh;rw [←hh,hl] at hD;cases hD⟩
     |clo f ids=>
      obtain ⟨bs,_,hlen,hD⟩:=hc
      refine .inl ⟨rfl,fun hh=>?_⟩
      obtain ⟨p,hp⟩:=List.mem_iff_getElem?.1 hh
      have hpl:p<ids.length:=(co9.1 hp).1
      have hpb:p<bs.length:=by omega
      obtain ⟨_,_,hD,_⟩:=hD p j bs[p] hp (co6 hpb)
      rw [hl] at hD;cases hD
     |yld j'=>
      obtain ⟨_,hD,_⟩:=hc
      exact .inl ⟨rfl,fun hh=>by simp only [ids1,cp5] at hh;rw [←hh,hl] at hD;cases hD⟩
     |bnd f j'=>
      obtain ⟨_,_,_,hD,_⟩:=hc
      exact .inl ⟨rfl,fun hh=>by simp only [ids1,cp5] at hh;rw [←hh,hl] at hD;cases hD⟩
     |_=>exact .inl ⟨rfl,fun hh=>by simp [ids1] at hh⟩
  ·exact ⟨β,R,hO⟩
 |deep j m=>
  simp only [U5]
  split
  ·exact ⟨β,R,hO⟩
  ·rename_i hf
   split
   ·rename_i hl
    have A:=br9 R.ok hf e t m
    have hv:tmps.getD j undef=.slice none 0 0:=(R.tmp j _ hl).inv.2
    refine ⟨_,⟨A.toOk,R.sz,fun t' p hp=>?_⟩,fun t' gs p hp=>?_⟩
    ·simp only at hp
     rw [A7] at hp
     split at hp
     ·rename_i htj
      simp only [co4] at hp
      subst hp;subst htj
      rw [hv]
      exact CsRel.one rfl ⟨_,B0 _ _ _,Nat.le_refl _,fun _=>⟨_,C2 _ _ _,by simp⟩⟩
     ·refine PRel.write ?_ (A.ext.p (R.tmp t' p hp))
      rcases hO.cases hp with h1|⟨gs,q,h1,h2,h3⟩
      ·exact .inl h1
      ·exact .inr ⟨gs,q,h1,h2,fun g hg=>(h3 g hg).elim⟩
    ·simp only at hp
     rw [A7] at hp
     split at hp
     ·simp at hp
     ·exact hO t' gs p hp
   ·exact ⟨β,R,hO⟩
theorem Y4 {tmps:Array Value}:∀ {l:List (Place×Nat×TypeId×Ty)} {β:Nm} {s:St U},Rel F n β s tmps w→OptIn (fun _=>False) s.σ→∃ β',Rel F n β' (X6 s l) tmps w∧OptIn (fun _=>False) (X6 s l).σ
 |[],β,s,R,hO=>⟨β,R,hO⟩
 |x::r,β,s,R,hO=>by
  obtain ⟨β1,R1,hO1⟩:=bb8 R hO x
  exact Y4 (l:=r) R1 hO1
def bs0:Way U→Exit→Prop
 | .normal,e=>e=.normal
 | .exit id,e=>e=.exit id
 | .ret,e=>e=.ret
 | .panic v,e=>∃ u,ap8 v u∧e=.panic [{ v:=u,recovered:=false }]
theorem at8 {G:Fence} {m:Nat} {P:Program} {Q:Exit→Act→World→Prop} {c:Code} (h:c.wpIn G m P (Exit.noGoto Q) a w):(Code.scope c).wpIn G m P Q a w:=by
 intro b k cs hro hb hr
 have h0:(lone (b.atR a (.code (.scope c)::k)) cs w).fenced P G:=fenced_calm hb hr rfl
 have s0:step P (lone (b.atR a (.code (.scope c)::k)) cs w)=.next (lone (b.atR a (.code c:: .inScope c::k)) cs w):=step_lone_go (by simp [stepG,stepG.exec,Frame.atR])
 have s1:∀ a w,step P (lone (b.atR a (.inScope c::k)) cs w)=.next (lone (b.atR a k) cs w):=fun a w=>step_lone_go (by simp [stepG,stepG.exec,Frame.atR])
 obtain ⟨e,a₁,w₁,hq,harr⟩:=h b (.inScope c::k) cs hro hb hr
 cases e with
 |normal=>exact ⟨.normal,a₁,w₁,hq,.head h0 s0 (StepsIn.trans harr (.one (fenced_calm hb hr rfl) (s1 _ _)))⟩
 |exit id=>
  have hx:exitTo id (.inScope c::k)=exitTo id k:=by simp [exitTo]
  exact ⟨.exit id,a₁,w₁,hq,fun k' hk=>.head h0 s0 (harr.1 k' (by rw [hx];exact hk)),
   fun hr' hk=>let ⟨k₁,h1,h2⟩:=harr.2 hr' (by rw [hx];exact hk);⟨k₁,h1,.head h0 s0 h2⟩⟩
 |goto l=>exact hq.elim
 |ret=>exact ⟨_,a₁,w₁,hq,.of_steps (.one h0 s0) harr⟩
 |panic ch=>exact ⟨_,a₁,w₁,hq,.of_steps (.one h0 s0) harr⟩
 |outgrown=>exact ⟨_,a₁,w₁,hq,.of_steps (.one h0 s0) harr⟩
theorem bx2 {w:World} {β:Nm} {h:Obs U} {σ:List (Nat×PV U)} {e:TypeId} {t:Ty} {l:List (den U.T t)} {v:Value} (r:PRel w β h σ (.one (.d ⟨.slice e t,l⟩)) v):∃ oa k c,v=.slice oa k c∧(oa.isNone=true→l=[]):=by
 have hx:=r.d
 cases hx with
 |nil=>exact ⟨_,_,_,rfl,fun _=>rfl⟩
 |slice _ _ _ g q' cap f hpos hc hm hM hg hcell hr=>exact ⟨_,_,_,rfl,fun h=>by cases h⟩
theorem bH7 {ro:Option Nat} {id:Nat} {j p:Nat} {v:PV U} {q:Bool} {e:Prop} (hc:bq0 E s ops.toList=some (j,p,v,q,e)) (ok:(O7 n ops.toList [])=true) (R:Rel F n β s a.tmps w) (hO:OptIn (fun _=>False) s.σ) {Q:Exit→Act→World→Prop}
  (hQ:∀ b:Bool,(b=true→e)→∀ β' a' w',Rel F n β' ⟨write p (.one (.d ⟨.bool,bif q then b else !b⟩)) (write j v s.σ),s.h⟩ a'.tmps w'→OptIn (fun _=>False) (write p (.one (.d ⟨.bool,bif q then b else !b⟩)) (write j v s.σ))→a'.defers=a.defers→Q .normal a' w'):(Code.region id ops false).wpIn (fen E.P ro) 0 E.P Q a w:=by
 unfold bq0 at hc
 split at hc
 case h_2=>cases hc
 rename_i o1 o2 hops
 split at hc
 case h_2=>cases hc
 rename_i x j0 op t j1 k p1 h1 h2 h3 h4 h5 h6
 split at hc
 case h_2=>cases hc
 rename_i q1 hq1
 simp only [cp7] at hc
 split at hc
 case isFalse=>cases hc
 rename_i hcond
 simp only [co7,Bool.not_eq_true'] at hcond
 have hj:=co5 hcond.1
 subst hj
 split at hc
 case h_2=>cases hc
 rename_i el hu
 split at hc
 case h_2=>cases hc
 rename_i e1 t1 l hx
 simp only [co4,cp6] at hc
 obtain ⟨rfl,rfl,rfl,rfl,rfl⟩:=hc
 have hopsA:ops=#[o1,o2]:=by
  apply Array.toList_inj.1
  rw [hops]
 subst hopsA
 have hlt1:j1<n∧p1<n:=by
  simp only [O7,al8,h2,h5,co7] at ok
  exact ⟨cq7 ok.1.1,cq7 ok.2.1.1⟩
 refine wpIn_region ?_
 have hr:List.range (#[o1,o2]:Array Oper).size=[0,1]:=rfl
 rw [hr]
 simp only [wpOpsIn,List.getElem?_toArray,cp2,List.getElem?_cons_succ]
 rw [if_pos (by simp [Region.wanted,h3])]
 have hev:=U3 R x
 rw [hx] at hev
 refine Does.wp' (F:=F) (e:=F9 (.one (.d ⟨.slice e1 t1,l⟩))) (Does.pure (n:=n) (v:=a.eval x) R rfl (by simp [execOp,h1]) hev) (J4 fun c hc=>by rw [h1] at hc;cases hc) (fun c hc=>by rw [h1] at hc;cases hc) ?_
 intro v w' β' A pv
 obtain ⟨R1,hO1⟩:=ac7 R hO (dst:=o1.dst) (fun d hd=>⟨by rw [h2] at hd;cases hd;exact hlt1.1,fun h=>h⟩) A (.inl rfl) pv
 rw [if_pos (by simp [Region.wanted,h6])]
 have hev2:=U3 R1 (.tmp j1)
 have hlk:ev (putS s.σ o1.dst (.one (.d ⟨.slice e1 t1,l⟩))) (.tmp j1)=.one (.d ⟨.slice e1 t1,l⟩):=by
  simp only [ev,h2,putS,A7,Nat.beq_refl]
  rfl
 dsimp only [F9] at hev2 R1 hO1
 rw [hlk] at hev2
 obtain ⟨oa,kk,cc,hv,hnil⟩:=bx2 hev2
 have hq:∃ b:Bool,b=oa.isNone∧(execOp (a.put o1.dst v).eval o2).run E.P w'=.ok (.value (.bool (bif q1 then b else !b))) w':=by
  refine ⟨oa.isNone,rfl,?_⟩
  have hE:=run_equal_slice_nil (P:=E.P) w' t el oa kk cc hu
  have hcst:(a.put o1.dst v).eval (.const (.slice none 0 0))=.slice none 0 0:=rfl
  cases op<;>simp only [co4,reduceCtorEq] at hq1
  ·subst hq1
   simp [execOp,h4,hv,hcst,eqGuard,binOp,hE]
  ·subst hq1
   simp [execOp,h4,hv,hcst,eqGuard,binOp,hE]
 obtain ⟨b,hb,hrun⟩:=hq
 refine Does.wp' (F:=F) (β:=β') (s:=⟨putS s.σ o1.dst (.one (.d ⟨.slice e1 t1,l⟩)),s.h⟩) (e:=F9 (.one (.d ⟨.bool,bif q1 then b else !b⟩))) (Does.pure (n:=n) R1 rfl hrun (PRel.mkBool _)) (J4 fun c hc=>by rw [h4] at hc;cases hc) (fun c hc=>by rw [h4] at hc;cases hc) ?_
 intro v2 w2 β2 A2 pv2
 obtain ⟨R2,hO2⟩:=ac7 R1 (hO1.mono (fun _ h=>h)) (dst:=o2.dst) (D:=fun j=>False∨o1.dst=some j) (fun d hd=>⟨by rw [h5] at hd;cases hd;exact hlt1.2,fun h=>by
  rcases h with h|h
  ·exact h
  ·rw [h2] at h
   rw [h5] at hd
   simp only [co4] at h hd
   rw [←h] at hd
   rw [hd,Nat.beq_refl] at hcond
   cases hcond.2⟩) A2 (.inl rfl) pv2
 refine hQ b (fun hb2=>hnil (hb▸hb2)) β2 _ w2 ?_ ?_ ?_
 ·dsimp only [F9] at R2
  rw [h2,h5] at R2
  rw [h2,h5]
  exact R2
 ·intro t gs p hl
  rw [A7] at hl
  split at hl
  ·cases hl
  ·rw [A7] at hl
   split at hl
   ·cases hl
   ·exact hO t gs p hl
 ·cases o2.dst<;>cases o1.dst<;>rfl
theorem PRel.anyO {U:Univ} {w:World} {β:Nm} {h:Obs U} {σ0 σ σ':List (Nat×PV U)} {t:Nat} {p:PV U} {v:Value} (hO:OptIn (fun _=>False) σ0) (hl:look t σ0=some p) (r:PRel w β h σ p v):PRel w β h σ' p v:=by
 rcases hO.cases hl with h1|⟨gs,q,rfl,h2,h3⟩
 ·exact r.any h1
 ·cases gs with
  |nil=>exact ⟨fun _=>(r.1 (fun g hg=>by simp at hg)).any h2,fun hn=>(hn (fun g hg=>by simp at hg)).elim⟩
  |cons g gs=>exact (h3 g (by simp)).elim
theorem bj6 {P:Program} (w:World) (ty:TypeId) (r b since last:Nat) (seen:Array Nat) (es:Array MapEntry) (clock:Nat) (hr:w.heap[r]? =some (.mapIter (some b) since seen last)) (hb:w.heap[b]? =some (.map es clock)) (hold:∀ x∈es.toList,x.born<since)
  (htest:(!seen.isEmpty&&!es.isEmpty&&es.all (fun x=>decide (x.born≥last)))=false):
  ((∀ e∈es,seen.contains e.born=true)∧(Instr.next (.pointer (some ⟨r,0,none⟩)) false ty).run P w=.ok (.tuple #[.bool false]) w)∨
  ∃ e∈es,seen.contains e.born=false∧∃ w1:World,(w1=w∨w1=w.drew)∧(Instr.next (.pointer (some ⟨r,0,none⟩)) false ty).run P w=.ok (.tuple #[.bool true,e.key,e.val]) { w1 with heap:=w1.heap.setIfInBounds r (.mapIter (some b) since (seen.push e.born) clock) }:=by
 simp only [Instr.next,getObj,Sem.run_bind,Sem.run,hr,hb,Result.andThen,htest,Bool.false_eq_true,if_false]
 have hmem:∀ x∈(Array.filter (fun e=>!seen.contains e.born) es).toList,x.born<since:=fun x hx=>hold x (by simp at hx ⊢;exact hx.1)
 have hin:∀ x∈Array.filter (fun e=>!seen.contains e.born) es,x∈es∧seen.contains x.born=false:=fun x hx=>by
  rw [Array.mem_filter] at hx
  exact ⟨hx.1,by simpa using hx.2⟩
 have hout:(Array.filter (fun e=>!seen.contains e.born) es).size=0→∀ e∈es,seen.contains e.born=true:=by
  intro h0 e he
  cases hc:seen.contains e.born with
  |true=>rfl
  |false=>
   have:e∈Array.filter (fun e=>!seen.contains e.born) es:=by rw [Array.mem_filter];exact ⟨he,by rw [hc];rfl⟩
   rw [Array.eq_empty_of_size_eq_zero h0] at this
   simp at this
 generalize Array.filter (fun e=>!seen.contains e.born) es=L at hmem hin hout ⊢
 have e1:L.filter (fun x=>decide (x.born<since))=L:=Array.filter_eq_self.2 (fun x hx=>by simpa using hmem x (by simpa using hx))
 have e2:L.filter (fun x=>decide (x.born≥since))=#[]:=by
  rw [Array.filter_eq_empty_iff]
  intro x hx
  have:=hmem x (by simpa using hx)
  simp
  omega
 simp only [e1,e2,Array.append_empty]
 by_cases h0:L.size=0
 ·left
  refine ⟨hout h0,?_⟩
  have:L=#[]:=Array.eq_empty_of_size_eq_zero h0
  subst this
  simp [choose,Sem.run,Question.forced]
 ·right
  have hne:L.isEmpty=false:=by simp [Array.isEmpty,h0]
  simp only [hne,Bool.false_eq_true,if_false,Array.empty_append,Array.size_map]
  have hch:∃ (j:Nat) (w1:World),j<L.size∧(w1=w∨w1=w.drew)∧(choose (Question.mapNext L.size)).run P w=.ok j w1:=by
   by_cases hf:L.size≤1
   ·exact ⟨0,w,by omega,.inl rfl,by simp [choose,Sem.run,Question.forced,hf]⟩
   ·exact ⟨_,w.drew,Nat.mod_lt _ (by omega),.inr rfl,by
     simp only [choose,Sem.run,Question.forced,cq6,hf,if_false,Question.cut]
     rfl⟩
  obtain ⟨j,w1,hj,hw1,hrun⟩:=hch
  obtain ⟨m1,m2⟩:=hin L[j] (Array.getElem_mem hj)
  have hh1:w1.heap[r]? =w.heap[r]? :=by rcases hw1 with rfl|rfl<;>rfl
  refine ⟨L[j],m1,m2,w1,hw1,?_⟩
  have hset:∀ (o':Obj),(setObj r o').run P w1=.ok () { w1 with heap:=w1.heap.setIfInBounds r o' }:=fun o'=>by
   simp only [setObj,Sem.run,hh1,hr]
  simp only [hrun,Array.getElem?_map,cq1 hj,Option.map_some,Sem.run_bind,hset,Result.andThen]
  rfl
theorem cb8 {ro:Option Nat} {id:Nat} {x:NextE U} (hc:bq1 s ops.toList=some x) (ok:(O7 n ops.toList [])=true) (R:Rel F n β s a.tmps w) (hO:OptIn (fun _=>False) s.σ) {Q:Exit→Act→World→Prop} {Q':St U→Prop} (hw:x.wp s Q')
  (hQ:∀ s' β' a' w',Q' s'→Rel F n β' s' a'.tmps w'→OptIn (fun _=>False) s'.σ→a'.defers=a.defers→Q .normal a' w'):(Code.region id ops false).wpIn (fen E.P ro) 0 E.P Q a w:=by
 unfold bq1 at hc
 split at hc
 case h_2=>cases hc
 rename_i o1 o2 hops
 split at hc
 case h_2=>cases hc
 rename_i y j0 j1 p1 h1 h2 h3 h4 h5 h6
 simp only [cp7] at hc
 split at hc
 case isFalse=>cases hc
 rename_i hcond
 simp only [co7,Bool.not_eq_true'] at hcond
 have hj:=co5 hcond.1
 subst hj
 split at hc
 case h_2=>cases hc
 rename_i iid mid hev0
 split at hc
 case h_2=>cases hc
 rename_i mid' kt vt nn seen cur kt' vt' l hl hlm
 split at hc
 case isFalse=>cases hc
 rename_i hb
 simp only [co7,beq_iff_eq] at hb
 obtain ⟨b1,rfl,rfl⟩:=hb
 have b1:=co5 b1
 subst b1
 simp only [co4] at hc
 subst hc
 obtain ⟨w1,w2,w3⟩:=hw
 have w1:l.length=nn:=w1
 have hopsA:ops=#[o1,o2]:=by
  apply Array.toList_inj.1
  rw [hops]
 subst hopsA
 have hlt1:j1<n∧p1<n:=by
  simp only [O7,al8,h2,h5,co7] at ok
  exact ⟨cq7 ok.1.1,cq7 ok.2.1.1⟩
 refine wpIn_region ?_
 have hr:List.range (#[o1,o2]:Array Oper).size=[0,1]:=rfl
 rw [hr]
 rw [wpOpsIn]
 simp only [List.getElem?_toArray,cp2]
 rw [if_pos (by simp [Region.wanted,h3])]
 have hev:=U3 R y
 rw [hev0] at hev
 obtain ⟨D,hd,hv⟩:=hev.inv.2
 rw [hl] at hd
 simp only [co4,Ob.dp.injEq] at hd
 subst hd
 obtain ⟨_,hv⟩:=hv
 have hit:DRel F.B w β s.h (.iter (some mid) kt vt nn seen cur) (β iid):=R.obj iid _ hl
 obtain ⟨rb,b,last,q1,q2,q3,q4,q5⟩:=hit
 obtain ⟨_,_,_,q6,q7⟩:=q5 mid rfl
 obtain ⟨b',es,clock,g1,g2,g3,⟨g4,g4c,g4b⟩,g5⟩:=R.obj mid _ hlm
 rw [g1] at q7
 simp only [Value.map.injEq,co4] at q7
 subst q7
 have hborn:∀ e∈es,∃ i,i<l.length∧es[i]? =some e∧e.born=i:=by
  intro e he
  obtain ⟨i,hi,hie⟩:=Array.mem_iff_getElem.1 he
  refine ⟨i,by omega,by rw [cq1 hi,hie],?_⟩
  exact g4b i e (by rw [cq1 hi,hie])
 have hcont:∀ i,seen.toArray.contains i=true↔i∈seen:=fun i=>by simp
 --the rest:what was found is written
 have fin:∀ (bb:Bool) (e:Eff U) (v:Value) (wx:World) (βx:Nm),(execOp a.eval o1).run E.P w=.ok (.value v) wx→After F w β s.h wx βx (upds s.h e.upd)→(∃ xs,e.val=.tup ((false,[.d ⟨.bool,bb⟩])::xs))→PRel wx βx (upds s.h e.upd) s.σ e.val v→
   Q' ⟨write p1 (.one (.d ⟨.bool,bb⟩)) (write j1 .un s.σ),upds s.h e.upd⟩→o1.wpIn (fen E.P ro) 0 E.P a w (wpOpsIn (fen E.P ro) 0 E.P #[o1,o2] Q [1]) Q:=by
  intro bb e v wx βx hrun hA hval hpr hq
  obtain ⟨xs,hval⟩:=hval
  refine Does.wp' (F:=F) (e:=e) ⟨v,wx,βx,.inl hrun,hA,hpr⟩ (J4 fun c hc=>by rw [h1] at hc;cases hc) (fun c hc=>by rw [h1] at hc;cases hc) ?_
  intro v w' β' A pv
  have hplain:e.val.plain=true:=by rw [hval];rfl
  obtain ⟨R1,hO1⟩:=ac7 R hO (dst:=o1.dst) (fun d hd=>⟨by rw [h2] at hd;cases hd;exact hlt1.1,fun h=>h⟩) A (.inl hplain) pv
  simp only [wpOpsIn,List.getElem?_toArray,cp2,List.getElem?_cons_succ]
  rw [if_pos (by simp [Region.wanted,h6])]
  have hev2:=U3 R1 (.tmp j1)
  have hlk:ev (putS s.σ o1.dst e.val) (.tmp j1)=e.val:=by
   simp only [ev,h2,putS,A7,Nat.beq_refl]
   rfl
  rw [hlk,hval] at hev2
  obtain ⟨us,hu1,hu2,hu3⟩:=hev2
  obtain ⟨u0,us',rfl⟩:∃ u0 us',us=u0::us':=by
   cases us with
   |nil=>simp at hu2
   |cons u0 us'=>exact ⟨u0,us',rfl⟩
  have hu0:=(show CsRel w' β' (upds s.h e.upd) [.d ⟨.bool,bb⟩] [u0] from hu3 0 _ _ rfl rfl)
  have hb0:u0=.bool bb:=by
   have:=hu0.inv.2
   cases (show Rep U w' (Live β' (upds s.h e.upd)) ⟨.bool,bb⟩ u0 from this)
   rfl
  have hrun2:(execOp (a.put o1.dst v).eval o2).run E.P w'=.ok (.value (.bool bb)) w':=by
   simp [execOp,h4,hu1,Instr.extract,hb0]
  refine Does.wp' (F:=F) (β:=β') (s:=⟨putS s.σ o1.dst e.val,upds s.h e.upd⟩) (e:=F9 (.one (.d ⟨.bool,bb⟩))) (Does.pure (n:=n) R1 rfl hrun2 (PRel.mkBool _)) (J4 fun c hc=>by rw [h4] at hc;cases hc) (fun c hc=>by rw [h4] at hc;cases hc) ?_
  intro v2 w2 β2 A2 pv2
  obtain ⟨R2,hO2⟩:=ac7 R1 (hO1.mono (fun _ h=>h)) (dst:=o2.dst) (D:=fun j=>False∨o1.dst=some j) (fun d hd=>⟨by rw [h5] at hd;cases hd;exact hlt1.2,fun h=>by
   rcases h with h|h
   ·exact h
   ·rw [h2] at h
    rw [h5] at hd
    simp only [co4] at h hd
    rw [←h] at hd
    rw [hd,Nat.beq_refl] at hcond
    cases hcond.2⟩) A2 (.inl rfl) pv2
  have hOf:OptIn (fun _=>False) (write p1 (.one (.d ⟨.bool,bb⟩)) (write j1 .un s.σ)):=by
   intro t gs p hl
   rw [A7] at hl
   split at hl
   ·cases hl
   ·rw [A7] at hl
    split at hl
    ·cases hl
    ·exact hO t gs p hl
  refine hQ _ β2 _ w2 hq ?_ hOf (by cases o2.dst<;>cases o1.dst<;>rfl)
  dsimp only [F9] at R2
  rw [h2,h5] at R2
  rw [h2,h5]
  refine ⟨R2.toOk,R2.sz,fun t p hp=>?_⟩
  have hne:¬ j1=p1:=fun hh=>by rw [hh,Nat.beq_refl] at hcond;cases hcond.2
  by_cases htp:t=p1
  ·refine (R2.tmp t p ?_).any ?_
   ·rw [show putS (putS s.σ (some j1) e.val) (some p1) (.one (.d ⟨.bool,bb⟩))=write p1 (.one (.d ⟨.bool,bb⟩)) (write j1 e.val s.σ) from rfl,A7,if_pos htp]
    rw [A7,if_pos htp] at hp
    exact hp
   ·rw [A7,if_pos htp] at hp
    cases hp;rfl
  ·rw [A7,if_neg htp,A7] at hp
   split at hp
   ·cases hp;trivial
   ·rename_i htj
    refine PRel.anyO hO hp (R2.tmp t p ?_)
    rw [show putS (putS s.σ (some j1) e.val) (some p1) (.one (.d ⟨.bool,bb⟩))=write p1 (.one (.d ⟨.bool,bb⟩)) (write j1 e.val s.σ) from rfl,A7,if_neg htp,A7,if_neg htj]
    exact hp
 have hexec:∀ (v:Value) (wx:World),(Instr.next (.pointer (some ⟨rb,0,none⟩)) false o1.type).run E.P w=.ok v wx→(execOp a.eval o1).run E.P w=.ok (.value v) wx:=by
  intro v wx hh
  simp [execOp,h1,hv,q1,hh]
 have hneed:(!seen.toArray.isEmpty&&!es.isEmpty&&es.all (fun x=>decide (x.born≥last)))=false:=by
  cases hs:seen with
  |nil=>rfl
  |cons s0 sr=>
   obtain ⟨hp,hlast⟩:=q4 (by rw [hs];simp)
   cases hemp:es.isEmpty with
   |true=>simp
   |false=>
    have h0:0<es.size:=by
     rcases Nat.eq_zero_or_pos es.size with h0|h0
     ·simp [Array.isEmpty,h0] at hemp
     ·exact h0
    have hall:es.all (fun x=>decide (x.born≥last))=false:=by
     rw [Bool.eq_false_iff]
     intro hh
     rw [Array.all_eq_true_iff_forall_mem] at hh
     have hb0:=g4b 0 es[0] (cq1 h0)
     have:=hh es[0] (Array.getElem_mem h0)
     simp only [ge_iff_le,cq6] at this
     omega
    simp [hall]
 rcases bj6 (P:=E.P) w o1.type rb b nn last seen.toArray es clock q3 g3 (fun e he=>by
   obtain ⟨i,hi,_,hbi⟩:=hborn e (by simpa using he)
   omega) hneed with ⟨hall,hrun⟩|⟨e,he,hns,wd,hwd,hrun⟩
 ·refine fin false (F9 (.tup [(false,[.d ⟨.bool,false⟩])])) _ w β (hexec _ _ hrun) R.after ⟨[],rfl⟩ ⟨[.bool false],rfl,rfl,fun j x u hx hu=>?_⟩ (w3 (fun i hi=>?_))
  ·cases j with
   |zero=>
    simp only [cp2,co4] at hx hu
    subst hx;subst hu
    exact PRel.mkBool (σ:=s.σ) _
   |succ j=>simp at hx
  ·have hi':i<es.size:=by
    have hi:i<nn:=hi
    omega
   have:=hall es[i] (Array.getElem_mem hi')
   rw [g4b i es[i] (cq1 hi')] at this
   exact (hcont i).1 this
 ·obtain ⟨i,hi,hie,hbi⟩:=hborn e he
  have hin:i∉seen:=fun hh=>by
   have:=(hcont i).2 hh
   rw [←hbi,hns] at this
   cases this
  have hrl:rb<w.heap.size:=(cq2.1 q3).1
  have hwh:wd.heap=w.heap:=by rcases hwd with rfl|rfl<;>rfl
  have A:After F w β s.h { wd with heap:=wd.heap.setIfInBounds rb (.mapIter (some b) nn (seen.toArray.push e.born) clock) } β (write iid (.dp (.iter (some mid) kt vt nn (seen++[i]) i)) s.h):=by
   refine J8 R.ok hl rfl (by rcases hwd with rfl|rfl<;>rfl) (by rcases hwd with rfl|rfl<;>rfl) (by rcases hwd with rfl|rfl<;>rfl) (by simp [hwh]) (fun bb hbb hn=>?_) rfl (fun _ _=>rfl) rfl (fun h=>by simp [Ob.oth] at h) (fun bb hbb=>.inl hbb) (fun _ _ h5=>by cases h5) (fun _ _ _ _ _ h5=>by cases h5) (fun xx=>?_) (fun D hD=>?_)
   ·have:bb≠rb:=fun hh=>hn (by rw [q1,hh];exact rfl)
    simp [hwh,Ne.symm this]
   ·refine Z4 (N:=β iid) ?_ rfl
    refine ⟨rb,b,clock,q1,q2,?_,fun _=>⟨by omega,by omega⟩,fun m hm=>by cases hm;exact xx.cell (c:=.map mid) ⟨kt,vt,l,hlm,g1.symm⟩⟩
    simp [hwh,hrl,hbi]
   ·cases hD
    refine ⟨_,rfl,fun c v hv=>?_⟩
    cases c<;>exact hv
  obtain ⟨e1,e2⟩:=g5 i l[i] e (co6 hi) hie
  have hcell:∀ {t:Ty} {x:den U.T t} {v:Value},VIs w (Live β s.h) t x v→VRel { wd with heap:=wd.heap.setIfInBounds rb (.mapIter (some b) nn (seen.toArray.push e.born) clock) } β (write iid (.dp (.iter (some mid) kt vt nn (seen++[i]) i)) s.h) (H4 t,(B4 U t x).map .d) v:=by
   intro t x v hvv
   obtain ⟨vs,v1,v2,v3,v4⟩:=hvv
   have hc:CsRel w β s.h ((B4 U t x).map .d) vs:=CsRel.data (by rw [v2,B3]) v4
   have hc:=A.ext.cs hc
   cases hu:H4 t with
   |true=>rw [hu] at v1;exact ⟨vs,v1,hc⟩
   |false=>
    rw [hu] at v1
    have hl1:vs.length=1:=by rw [v2];cases t<;>first|rfl|(cases hu)
    match vs,hl1 with
    |[u],_=>
     have v1:v=u:=v1
     subst v1
     exact hc
  refine fin true ⟨none,.tup ((false,[.d ⟨.bool,true⟩])::[(H4 kt,(B4 U kt (l[i]).1).map .d),(H4 vt,(B4 U vt (l[i]).2).map .d)]),[(iid,.dp (.iter (some mid) kt vt nn (seen++[i]) i))]⟩ _ _ β (hexec _ _ hrun) A ⟨_,rfl⟩ ⟨[.bool true,e.key,e.val],rfl,rfl,fun j x u hx hu=>?_⟩ (w2 i (by show i<nn;omega) hin)
  match j,hx,hu with
  |0,hx,hu=>
   simp only [cp2,co4] at hx hu
   subst hx;subst hu
   exact PRel.mkBool (σ:=s.σ) _
  |1,hx,hu=>
   simp only [List.getElem?_cons_succ,cp2,co4] at hx hu
   subst hx;subst hu
   exact hcell e1
  |2,hx,hu=>
   simp only [List.getElem?_cons_succ,cp2,co4] at hx hu
   subst hx;subst hu
   exact hcell e2
  |j+3,hx,hu=>simp at hx
theorem aN3 {Y:Fr} {ro:Option Nat} (hE:E.Fits) (hG:E.Sound Y) (hY:P0 Y F E.yl) (hFG:F.G=E.G) (hm:E.P.follows .mixedOrders=true) (X:Nat) (L:Nat→St U→Ann U) {id:Nat} {ops:Array Oper} {drawn:Bool} (k:Nat) (s:St U) (Q':Way U→St U→Prop) (ok:K6 n (.region id ops drawn)=true) (h:wpc E X L (.region id ops drawn) k s Q'):
  ∀ (β:Nm) (a:Act) (w:World),Rel F n β s a.tmps w→OptIn (fun _=>False) s.σ→∀ Q:Exit→Act→World→Prop,
   (∀ way e s' β' a' w',bs0 way e→Q' way s'→Rel F n β' s' a'.tmps w'→OptIn (fun _=>False) s'.σ→a'.defers=a.defers→Q e a' w')→(Code.region id ops drawn).wpIn (fen E.P ro) 0 E.P Q a w:=by
  intro β a w R hO Q hQ
  simp only [wpc] at h
  split at h
  ·rename_i j p v q e heq
   cases drawn with
   |true=>cases heq
   |false=>
    have ok:(O7 n ops.toList []&&aB8 false ops.toList)=true:=ok
    simp only [co7] at ok
    exact bH7 (F:=F) heq ok.1 R hO (fun b hb β' a' w' h2 h3 h4=>hQ .normal _ _ β' a' w' rfl (h b hb) h2 h3 h4)
  split at h
  ·rename_i x heq
   cases drawn with
   |true=>cases heq
   |false=>
    have ok:(O7 n ops.toList []&&aB8 false ops.toList)=true:=ok
    simp only [co7] at ok
    exact cb8 (F:=F) heq ok.1 R hO h (fun s' β' a' w' h1 h2 h3 h4=>hQ .normal _ s' β' a' w' rfl h1 h2 h3 h4)
  ·cases hho:(!drawn&&(I6 ops.toList&&aY4 ops.toList)) with
   |false=>
    rw [hho] at h
    exact bH5 hE hG hY hFG hm ok R hO h (fun s' β' a' w' h1 h2 h3 h4=>hQ .normal _ s' β' a' w' rfl h1 h2 h3 h4) (fun v u s' β' a' w' h1 h2 h3 h4 h5=>hQ (.panic v) _ s' β' a' w' ⟨u,h2,rfl⟩ h1 h3 h4 h5)
   |true=>
    rw [hho] at h
    simp only [co7,Bool.not_eq_true'] at hho
    obtain ⟨rfl,hg,_⟩:=hho
    have ok:(O7 n ops.toList []&&aB8 false ops.toList)=true:=ok
    simp only [co7] at ok
    have h:region E X id false (ak1 E.P ops.toList) s (fun _ _=>False) (Q' .normal):=h
    have hg2:=ak5 (P:=E.P) hg
    have hops:wpOpsIn (fen E.P ro) 0 E.P (ak1 E.P ops.toList).toArray (fun e a w=>match e with| .normal=>Q .normal a w|_=>False) (List.range (ak1 E.P ops.toList).toArray.size) a w:=
     bx1 (F:=F) (ops:=(ak1 E.P ops.toList).toArray) (X:=X) (id:=id) (s:=s) (Qp:=fun _ _=>False) (Q':=Q' .normal) hE hG hY hFG hm
      (by simp only [co7];exact ⟨aF5 ok.1,by unfold aB8 ab6;rw [aN1 hg2];rfl⟩) R hO h
      (fun s' β' a' w' h1 h2 h3 h4=>hQ .normal _ s' β' a' w' rfl h1 h2 h3 h4) (fun v u s' β' a' w' h1=>h1.elim)
    rw [List.range_eq_range'] at hops
    have h1:=(bp6 (K:=fun a w=>Q .normal a w) (ops:=(ak1 E.P ops.toList).toArray) hg2 _ 0 (by simp)).1 hops
    have h2:=aR2 h1
    have h3:=(bp6 (K:=fun a w=>Q .normal a w) (ops:=ops) hg ops.size 0 (by simp)).2 h2
    rw [←List.range_eq_range'] at h3
    exact wpIn_mono (wpIn_region h3) (fun e a w hq=>by cases e<;>first|exact hq|exact hq.elim)
theorem N5:∀ {c:Code},Q2 c=true→noRF c=true
 | .skip,_=>rfl
 | .region ..,_=>rfl
 | .seq a b,h=>by
  simp only [Q2,co7] at h
  simp only [noRF,co7]
  exact ⟨N5 h.1,N5 h.2⟩
 | .cond c a b,h=>by
  simp only [Q2,co7] at h
  simp only [noRF,co7]
  exact ⟨N5 h.1,N5 h.2⟩
 | .scope a,h=>N5 (c:=a) h
 | .block _ a,h=>N5 (c:=a) h
def WkC (c c':Cell U):Prop:=c'=.un∨c'=c∨(c=.lit (.slice none 0 0)∧∃ e y,c'=.d ⟨.slice e y,[]⟩)
def WkCs (xs ys:List (Cell U)):Prop:=ys.length=xs.length∧∀ (j:Nat) (c':Cell U),ys[j]? =some c'→∃ c,xs[j]? =some c∧WkC c c'
def WkP (p p':PV U):Prop:=p'=.un∨(∃ c c',p=.one c∧p'=.one c'∧WkC c c')∨∃ xs ys,p=.agg xs∧p'=.agg ys∧WkCs xs ys
def WkO (o o':Ob U):Prop:=o'=o∨∃ e xs ys,o=.box e xs∧o'=.box e ys∧WkCs xs ys
structure Wk (a m:St U):Prop where
 sl:∀ k p',look k m.σ=some p'→∃ p,look k a.σ=some p∧WkP p p'
 ob:∀ id o',look id m.h=some o'→∃ o,look id a.h=some o∧WkO o o'
 bo:∀ id o,look id a.h=some o→∃ o',look id m.h=some o'∧WkO o o'
theorem WkO.live {o o':Ob U} (h:WkO o o'):o'.live=o.live:=by
 rcases h with rfl|⟨e,xs,ys,rfl,rfl,_⟩<;>rfl
theorem WkO.isRow {o o':Ob U} (h:WkO o o'):o'.isRow=o.isRow:=by
 rcases h with rfl|⟨e,xs,ys,rfl,rfl,_⟩<;>rfl
theorem Wk.ext {a m:St U} (k:Wk a m) (w:World) (β:Nm):Ext w β a.h w β m.h where
 size:=Nat.le_refl _
 heap:=fun _ _ _=>rfl
 own:=fun b _ ⟨id,o',h1,h2,h3⟩=>by
  obtain ⟨o,h4,h5⟩:=k.ob id o' h1
  exact ⟨id,o,h4,by rw [←h5.live];exact h2,h3⟩
 M:=rfl
 box:=fun id e cs hl=>by
  obtain ⟨o',h1,h2⟩:=k.bo id _ hl
  rcases h2 with rfl|⟨e2,xs,ys,h3,rfl,_⟩
  ·exact ⟨rfl,cs,h1⟩
  ·cases h3;exact ⟨rfl,ys,h1⟩
 row:=fun id e t l ver lv hl=>by
  obtain ⟨o',h1,h2⟩:=k.bo id _ hl
  rcases h2 with rfl|⟨e2,xs,ys,h3,_⟩
  ·exact ⟨l,ver,lv,h1,Nat.le_refl _,fun _=>⟨rfl,rfl⟩⟩
  ·cases h3
 oth:=fun id o hl ho=>by
  obtain ⟨o',h1,h2⟩:=k.bo id _ hl
  rcases h2 with rfl|⟨e2,xs,ys,rfl,_⟩
  ·exact ⟨rfl,rfl,o',h1,Ob.like_refl ho⟩
  ·simp [Ob.oth] at ho
 dp:=fun id D hl=>by
  obtain ⟨o',h1,h2⟩:=k.bo id _ hl
  rcases h2 with rfl|⟨e2,xs,ys,h3,_⟩
  ·exact ⟨D,h1,fun _ _ h=>h⟩
  ·cases h3
theorem WkC.rel {a m:St U} (k:Wk a m) {w:World} {β:Nm} {c c':Cell U} {v:Value} (h:WkC c c') (r:CRel w β a.h c v):CRel w β m.h c' v:=by
 rcases h with rfl|rfl|⟨rfl,e,y,rfl⟩
 ·trivial
 ·exact (k.ext w β).cell r
 ·have r:v=.slice none 0 0:=r
  subst r
  exact Rep.nil e y none 0
theorem WkCs.rel {a m:St U} (k:Wk a m) {w:World} {β:Nm} {xs ys:List (Cell U)} {vs:List Value} (h:WkCs xs ys) (r:CsRel w β a.h xs vs):CsRel w β m.h ys vs:=by
 refine ⟨by rw [h.1];exact r.1,r.2.1,fun j c' v hc hv=>?_⟩
 obtain ⟨c,h1,h2⟩:=h.2 j c' hc
 exact h2.rel k (r.2.2 j c v h1 hv)
theorem Wk.rel {tmps:Array Value} {a m:St U} (k:Wk a m) (R:Rel F n β a tmps w):Rel F n β m tmps w:=by
 have x:=k.ext w β
 refine ⟨⟨R.bel,R.hB,fun id o' hl=>?_,fun id o1 id' o2 b h1 h2=>?_,R.frm,fun id o' b hl=>?_,fun id o' b hl=>?_,R.Mlt,R.Meq,fun id o' v hl hn=>?_,R.nmg,R.glo⟩,R.sz,fun t p' hp=>?_⟩
 ·obtain ⟨o,h1,h2⟩:=k.ob id o' hl
  have ho:=R.obj id o h1
  rcases h2 with rfl|⟨e,xs,ys,rfl,rfl,h3⟩
  ·exact x.o rfl rfl (fun _ _=>rfl) ho
  ·obtain ⟨b,vs,q1,q2,q3,q4⟩:=ho
   exact ⟨b,vs,q1,q2,q3,h3.rel k q4⟩
 ·obtain ⟨o1',h1',_⟩:=k.ob id o1 h1
  obtain ⟨o2',h2',_⟩:=k.ob id' o2 h2
  exact R.dis id o1' id' o2' b h1' h2'
 ·obtain ⟨o,h1,_⟩:=k.ob id o' hl
  exact R.own id o b h1
 ·obtain ⟨o,h1,_⟩:=k.ob id o' hl
  exact R.Mo id o b h1
 ·obtain ⟨o,h1,h2⟩:=k.ob id o' hl
  rw [h2.isRow]
  exact R.fix id o v h1 hn
 ·obtain ⟨p,h1,h2⟩:=k.sl t p' hp
  have hr:=R.tmp t p h1
  rcases h2 with rfl|⟨c,c',rfl,rfl,h3⟩|⟨xs,ys,rfl,rfl,h3⟩
  ·trivial
  ·exact CsRel.one hr.inv.1 (h3.rel k hr.inv.2)
  ·obtain ⟨vs,hv,hc⟩:=hr
   exact ⟨vs,hv,h3.rel k hc⟩
theorem ac8 {x y z:Datum U} (h:aw1 true x y=some z):z=x:=by
 unfold aw1 at h
 split at h
 ·rename_i v hv
  simp only [cond_true,co4] at h
  rw [←h,Datum.as_eq hv]
 ·cases h
theorem Y5 {x y z:Datum U} (h:aw1 false x y=some z):z=y:=by
 unfold aw1 at h
 split at h
 ·simp only [cond_false,co4] at h
  exact h.symm
 ·cases h
theorem beq2 {a a' b b':Nat} (h:(Nat.beq a a'&&Nat.beq b b')=true):a=a'∧b=b':=by
 simp only [co7] at h
 exact ⟨co5 h.1,co5 h.2⟩
theorem aF6 (x y:Cell U):WkC x (aL1 true x y):=by
 unfold aL1
 split
 ·split
  ·rename_i h;rw [ac8 h];exact .inr (.inl rfl)
  ·exact .inl rfl
 ·exact .inr (.inl rfl)
 ·exact .inr (.inl rfl)
 ·exact .inr (.inr ⟨rfl,_,_,rfl⟩)
 all_goals first
  |exact .inl rfl
  |(simp only [cp7];split<;>first|exact .inr (.inl rfl)|exact .inl rfl)
theorem ax1 (x y:Cell U):WkC y (aL1 false x y):=by
  unfold aL1
  split
  · split
    · rename_i h;rw [Y5 h];exact .inr (.inl rfl)
    · exact .inl rfl
  · exact .inr (.inl rfl)
  · exact .inr (.inr ⟨rfl,_,_,rfl⟩)
  · exact .inr (.inl rfl)
  all_goals first
    | exact .inl rfl
    | (simp only [cp7]
       split
       · rename_i h
         first
           | (obtain ⟨rfl,rfl⟩:=beq2 h;exact .inr (.inl rfl))
           | (have:=co5 h;subst this;exact .inr (.inl rfl))
           | (simp only [co7,beq_iff_eq] at h;obtain ⟨h1,rfl⟩:=h;have:=co5 h1;subst this;exact .inr (.inl rfl))
           | (simp only [co7] at h
              obtain ⟨h1,⟨h2,h3⟩,h4,h5⟩:=h
              have h1:=co5 h1
              have h2:=Array.eq_empty_of_size_eq_zero (co5 h2)
              have h3:=Array.eq_empty_of_size_eq_zero (co5 h3)
              have h4:=Array.eq_empty_of_size_eq_zero (co5 h4)
              have h5:=Array.eq_empty_of_size_eq_zero (co5 h5)
              subst h1;subst h2;subst h3;subst h4;subst h5
              exact .inr (.inl rfl))
       · exact .inl rfl)
theorem aF7:∀ {xs ys:List (Cell U)},xs.length=ys.length→WkCs xs (zipC true xs ys)
 |[],[],_=>⟨rfl,fun j c h=>by simp [zipC] at h⟩
 |x::xs,y::ys,h=>by
  obtain ⟨h1,h2⟩:=aF7 (xs:=xs) (ys:=ys) (by simpa using h)
  refine ⟨by simp [zipC,h1],fun j c hc=>?_⟩
  cases j with
  |zero=>
   simp only [zipC,cp2,co4] at hc
   exact ⟨x,rfl,hc▸aF6 x y⟩
  |succ j=>exact h2 j c (by simpa [zipC] using hc)
 |[],_::_,h=>by simp at h
 |_::_,[],h=>by simp at h
theorem at9:∀ {xs ys:List (Cell U)},xs.length=ys.length→WkCs ys (zipC false xs ys)
 |[],[],_=>⟨rfl,fun j c h=>by simp [zipC] at h⟩
 |x::xs,y::ys,h=>by
  obtain ⟨h1,h2⟩:=at9 (xs:=xs) (ys:=ys) (by simpa using h)
  refine ⟨by simp [zipC,h1],fun j c hc=>?_⟩
  cases j with
  |zero=>
   simp only [zipC,cp2,co4] at hc
   exact ⟨y,rfl,hc▸ax1 x y⟩
  |succ j=>exact h2 j c (by simpa [zipC] using hc)
 |[],_::_,h=>by simp at h
 |_::_,[],h=>by simp at h
theorem aF8 (x y:PV U):WkP x (ap3 true x y)∧(ap3 true x y).plain=true:=by
 unfold ap3
 split
 ·exact ⟨.inr (.inl ⟨_,_,rfl,rfl,aF6 _ _⟩),rfl⟩
 ·simp only [cp7]
  split
  ·rename_i h
   exact ⟨.inr (.inr ⟨_,_,rfl,rfl,aF7 (co5 h)⟩),rfl⟩
  ·exact ⟨.inl rfl,rfl⟩
 ·exact ⟨.inl rfl,rfl⟩
theorem ax2 (x y:PV U):WkP y (ap3 false x y)∧(ap3 false x y).plain=true:=by
 unfold ap3
 split
 ·exact ⟨.inr (.inl ⟨_,_,rfl,rfl,ax1 _ _⟩),rfl⟩
 ·simp only [cp7]
  split
  ·rename_i h
   exact ⟨.inr (.inr ⟨_,_,rfl,rfl,at9 (co5 h)⟩),rfl⟩
  ·exact ⟨.inl rfl,rfl⟩
 ·exact ⟨.inl rfl,rfl⟩
theorem bj7 {x y z:Ob U} (h:aY8 true x y=some z):WkO x z:=by
 unfold aY8 at h
 split at h
 ·simp only [cp7] at h
  split at h
  ·rename_i hc
   cases h
   exact .inr ⟨_,_,_,rfl,rfl,aF7 (beq2 hc).2⟩
  ·cases h
 ·simp only [cp7] at h
  split at h
  ·split at h
   ·rename_i hd
    have:=ac8 hd
    simp only [Sigma.mk.injEq,Ty.slice.injEq] at this
    obtain ⟨⟨rfl,rfl⟩,h2⟩:=this
    have h2:=eq_of_heq h2
    subst h2
    cases h
    exact .inl rfl
   ·cases h
  ·cases h
 ·split at h
  ·rename_i hd
   have:=ac8 hd
   simp only [Sigma.mk.injEq,Ty.map.injEq] at this
   obtain ⟨⟨rfl,rfl⟩,h2⟩:=this
   have h2:=eq_of_heq h2
   subst h2
   cases h
   exact .inl rfl
  ·cases h
 ·cases h
  exact .inl rfl
 ·simp only [cp7] at h
  split at h
  ·split at h
   ·rename_i hd
    have:=ac8 hd
    simp only [Sigma.mk.injEq,Ty.slice.injEq] at this
    obtain ⟨⟨rfl,rfl⟩,h2⟩:=this
    have h2:=eq_of_heq h2
    subst h2
    cases h
    exact .inl rfl
   ·cases h
  ·cases h
 ·cases h
theorem bb9 {x y z:Ob U} (h:aY8 false x y=some z):WkO y z:=by
 unfold aY8 at h
 split at h
 ·simp only [cp7] at h
  split at h
  ·rename_i hc
   cases h
   have:=(beq2 hc).1
   subst this
   exact .inr ⟨_,_,_,rfl,rfl,at9 (beq2 hc).2⟩
  ·cases h
 ·simp only [cp7] at h
  split at h
  ·rename_i hc
   simp only [co7,beq_iff_eq] at hc
   obtain ⟨h1,rfl⟩:=hc
   have h1:=co5 h1
   subst h1
   split at h
   ·rename_i hd
    have:=Y5 hd
    simp only [Sigma.mk.injEq,Ty.slice.injEq] at this
    obtain ⟨⟨rfl,rfl⟩,h2⟩:=this
    have h2:=eq_of_heq h2
    subst h2
    cases h
    exact .inl rfl
   ·cases h
  ·cases h
 ·split at h
  ·rename_i hd
   have:=Y5 hd
   simp only [Sigma.mk.injEq,Ty.map.injEq] at this
   obtain ⟨⟨rfl,rfl⟩,h2⟩:=this
   have h2:=eq_of_heq h2
   subst h2
   cases h
   exact .inl rfl
  ·cases h
 ·cases h
  exact .inl rfl
 ·simp only [cp7] at h
  split at h
  ·rename_i hc
   simp only [co7,beq_iff_eq] at hc
   obtain ⟨⟨rfl,h1⟩,h3,rfl⟩:=hc
   have h1:=co5 h1
   have h3:=co5 h3
   subst h1;subst h3
   split at h
   ·rename_i hd
    have:=Y5 hd
    simp only [Sigma.mk.injEq,Ty.slice.injEq] at this
    obtain ⟨⟨rfl,rfl⟩,h2⟩:=this
    have h2:=eq_of_heq h2
    subst h2
    cases h
    exact .inl rfl
   ·cases h
  ·cases h
 ·cases h
theorem aF9:∀ {x y z:Obs U},aL2 true x y=some z→(∀ id o',look id z=some o'→∃ o,look id x=some o∧WkO o o')∧∀ id o,look id x=some o→∃ o',look id z=some o'∧WkO o o'
 |[],[],z,h=>by cases h;exact ⟨fun _ _ h=>(by cases h),fun _ _ h=>(by cases h)⟩
 |(k,x)::r,(k',y)::r',z,h=>by
  simp only [aL2,cp7] at h
  split at h
  ·split at h
   ·rename_i o ho
    split at h
    ·rename_i q hq
     cases h
     obtain ⟨h1,h2⟩:=aF9 hq
     have hw:=bj7 ho
     refine ⟨fun id o' hl=>?_,fun id o' hl=>?_⟩
     ·simp only [look] at hl ⊢
      split at hl
      ·rename_i hk;cases hl;rw [if_pos hk];exact ⟨x,rfl,hw⟩
      ·rename_i hk;rw [if_neg hk];exact h1 id o' hl
     ·simp only [look] at hl ⊢
      split at hl
      ·rename_i hk;cases hl;rw [if_pos hk];exact ⟨o,rfl,hw⟩
      ·rename_i hk;rw [if_neg hk];exact h2 id o' hl
    ·cases h
   ·cases h
  ·cases h
 |[],_::_,z,h=>by cases h
 |_::_,[],z,h=>by cases h
theorem ax3:∀ {x y z:Obs U},aL2 false x y=some z→(∀ id o',look id z=some o'→∃ o,look id y=some o∧WkO o o')∧∀ id o,look id y=some o→∃ o',look id z=some o'∧WkO o o'
 |[],[],z,h=>by cases h;exact ⟨fun _ _ h=>(by cases h),fun _ _ h=>(by cases h)⟩
 |(k,x)::r,(k',y)::r',z,h=>by
  simp only [aL2,cp7] at h
  split at h
  ·rename_i hkk
   have hkk:=co5 hkk
   subst hkk
   split at h
   ·rename_i o ho
    split at h
    ·rename_i q hq
     cases h
     obtain ⟨h1,h2⟩:=ax3 hq
     have hw:=bb9 ho
     refine ⟨fun id o' hl=>?_,fun id o' hl=>?_⟩
     ·simp only [look] at hl ⊢
      split at hl
      ·rename_i hk;cases hl;rw [if_pos hk];exact ⟨y,rfl,hw⟩
      ·rename_i hk;rw [if_neg hk];exact h1 id o' hl
     ·simp only [look] at hl ⊢
      split at hl
      ·rename_i hk;cases hl;rw [if_pos hk];exact ⟨o,rfl,hw⟩
      ·rename_i hk;rw [if_neg hk];exact h2 id o' hl
    ·cases h
   ·cases h
  ·cases h
 |[],_::_,z,h=>by cases h
 |_::_,[],z,h=>by cases h
theorem Q8 {t:Bool} {k:Nat} {p:PV U}:∀ {x σ:List (Nat×PV U)},look k (aY9 t x σ)=some p→∃ a b,look k x=some a∧look k σ=some b∧p=ap3 t a b
 |[],σ,h=>by cases h
 |(j,a)::r,σ,h=>by
  simp only [aY9] at h
  by_cases hjk:Nat.beq j k=true
  ·have e:=co5 hjk
   subst e
   split at h
   ·rename_i b hb
    simp only [look] at h ⊢
    rw [if_pos hjk] at h ⊢
    cases h
    exact ⟨a,b,rfl,hb,rfl⟩
   ·rename_i hb
    obtain ⟨a',b',_,h2,_⟩:=Q8 h
    rw [hb] at h2;cases h2
  ·simp only [look,hjk,Bool.false_eq_true,if_false]
   split at h
   ·simp only [look] at h
    rw [if_neg hjk] at h
    exact Q8 h
   ·exact Q8 h
theorem bc0 {tmps:Array Value} {t:Bool} {ids:List Nat} {a b m:St U} (h:St.merge t ids a b=some m) (R:if t=true then Rel F n β a tmps w else Rel F n β b tmps w):Rel F n β m tmps w∧OptIn (fun _=>False) m.σ:=by
 unfold St.merge at h
 dsimp only at h
 split at h
 ·rename_i q hq
  cases h
  refine ⟨?_,fun k gs p hl=>?_⟩
  ·cases t with
   |true=>
    obtain ⟨Ra,_⟩:=aj3 (show Rel F n β a tmps w from R) (bh6 a.σ) ids
    obtain ⟨h1,h2⟩:=aF9 hq
    exact Wk.rel ⟨fun k p hl=>by
     obtain ⟨x,y,q1,q2,rfl⟩:=Q8 hl
     exact ⟨x,q1,(aF8 x y).1⟩,h1,h2⟩ Ra
   |false=>
    obtain ⟨Rb,_⟩:=aj3 (show Rel F n β b tmps w from R) (bh6 b.σ) ids
    obtain ⟨h1,h2⟩:=ax3 hq
    exact Wk.rel ⟨fun k p hl=>by
     obtain ⟨x,y,q1,q2,rfl⟩:=Q8 hl
     exact ⟨y,q2,(ax2 x y).1⟩,h1,h2⟩ Rb
  ·obtain ⟨x,y,_,_,hp⟩:=Q8 hl
   have:(ap3 t x y).plain=true:=by
    cases t with
    |true=>exact (aF8 x y).2
    |false=>exact (ax2 x y).2
   rw [←hp] at this
   cases this
 ·cases h
theorem au0 {p q:Option Prop} (h:holds (bE8 p q)):holds p∧holds q:=by
 cases p<;>cases q<;>simp_all [bE8,holds]
theorem bc1 {b:Prop} {p:Option Prop} (h:holds (impO b p)) (hb:b):holds p:=by
 cases p<;>simp_all [impO,holds]
theorem bx3 {p:Option Prop} {q:Prop} (h:ca9 p q):holds p∧q:=by
 cases p<;>simp_all [ca9,holds]
theorem ax4 {Qp:PanV U→Prop} {ms:Option (List Nat)} {q:Prop}:∀ {xs:List (Wr U)} {p:Option Prop} (i:Nat),at0 xs=some p→holds p→q→aR5 xs (obls Qp ms xs i [] q)∧obls Qp ms xs i [] q
 |[],p,i,h,hp,hq=>⟨hq,hq⟩
 |x::r,p,i,h,hp,hq=>by
  simp only [at0] at h
  split at h
  ·rename_i p' h1 h2 h3
   cases h
   obtain ⟨hx,hr⟩:=au0 hp
   obtain ⟨_,ho⟩:=ax4 (Qp:=Qp) (ms:=ms) (i+1) h3 hr hq
   have hob:obls Qp ms (x::r) i [] q:=by
    simp only [obls,h1]
    cases hxo:x.obl with
    |none=>exact ho
    |some y=>rw [hxo] at hx;exact ⟨hx,ho⟩
   refine ⟨?_,hob⟩
   have hf:∀ {ys:List (Wr U)} {p:Option Prop} {z:Prop},at0 ys=some p→z→aR5 ys z:=by
    intro ys
    induction ys with
    |nil=>exact fun _ hz=>hz
    |cons y ys ih=>
     intro p z hp hz
     simp only [at0] at hp
     split at hp
     ·rename_i p2 g1 g2 g3
      simp only [aR5,g2]
      exact ih g3 hz
     ·cases hp
   simp only [aR5,h2]
   exact hf h3 hob
  ·cases h
theorem bH8 {X id:Nat} {d:Bool} {ops:List Oper} {s s1:St U} {p:Option Prop} (h:regS E X d ops s=some (p,s1)) (hp:holds p) (Qp:PanV U→St U→Prop):region E X id d ops s Qp (fun s'=>s'=s1):=by
 unfold regS at h
 split at h
 ·rename_i xs s' hr
  simp only [cp7] at h
  split at h
  ·rename_i hc
   split at h
   ·rename_i p' hpo
    cases h
    unfold region
    rw [hr]
    dsimp only [bR0]
    rw [hc]
    exact (ax4 0 hpo hp rfl).1
   ·cases h
  ·cases h
 ·cases h
theorem Q9 {Y:Fr} {ro:Option Nat} (hE:E.Fits) (hG:E.Sound Y) (hY:P0 Y F E.yl) (hFG:F.G=E.G) (hm:E.P.follows .mixedOrders=true) (X:Nat):∀ (c:Code) (s:St U) (p:Option Prop) (s1:St U),runS E X c s=some (p,s1)→holds p→K6 n c=true→
  ∀ (β:Nm) (a:Act) (w:World),Rel F n β s a.tmps w→OptIn (fun _=>False) s.σ→∀ Q:Exit→Act→World→Prop,
   (∀ β' a' w',Rel F n β' s1 a'.tmps w'→OptIn (fun _=>False) s1.σ→a'.defers=a.defers→Q .normal a' w')→c.wpIn (fen E.P ro) 0 E.P Q a w
 | .skip,s,p,s1,h,hp,ok,β,a,w,R,hO,Q,hQ=>by
  cases h
  exact wpIn_skip (hQ β a w R hO rfl)
 | .region id ops d,s,p,s1,h,hp,ok,β,a,w,R,hO,Q,hQ=>by
  have hw:wpc E X (fun _ _=>⟨[],[],[],fun _=>False,fun _=>0,[]⟩) (.region id ops d) 0 s (fun way s'=>way=.normal∧s'=s1):=by
   simp only [runS] at h
   split at h
   ·cases h
   rename_i hn
   split at h
   ·cases h
   ·rename_i hn2
    simp only [wpc]
    rw [hn,hn2]
    cases hc:(!d&&(I6 ops.toList&&aY4 ops.toList)) with
    |true=>
     rw [hc] at h
     have:=bH8 (id:=id) h hp (fun _ _=>False)
     simp only [cond_true,true_and]
     exact this
    |false=>
     rw [hc] at h
     have:=bH8 (id:=id) h hp (fun v s'=>(Way.panic v:Way U)=.normal∧s'=s1)
     simp only [cond_false,true_and]
     exact this
  refine aN3 hE hG hY hFG hm X _ 0 s _ ok hw β a w R hO Q (fun way e s' β' a' w' he h1 R' hO' hd=>?_)
  obtain ⟨rfl,rfl⟩:=h1
  have he:e=.normal:=he
  subst he
  exact hQ β' a' w' R' hO' hd
 | .seq c d,s,p,s1,h,hp,ok,β,a,w,R,hO,Q,hQ=>by
  simp only [K6,co7] at ok
  simp only [runS] at h
  split at h
  ·rename_i p1 s2 h1
   split at h
   ·rename_i p2 s3 h2
    cases h
    obtain ⟨g1,g2⟩:=au0 hp
    exact wpIn_seq (Q9 hE hG hY hFG hm X c s p1 s2 h1 g1 ok.1 β a w R hO _ (fun β' a' w' R' hO' hd=>Q9 hE hG hY hFG hm X d s2 p2 s1 h2 g2 ok.2 β' a' w' R' hO' Q (fun β2 a2 w2 R2 hO2 hd2=>hQ β2 a2 w2 R2 hO2 (hd2.trans hd))))
   ·cases h
  ·cases h
 | .cond x c d,s,p,s1,h,hp,ok,β,a,w,R,hO,Q,hQ=>by
  simp only [K6,co7] at ok
  simp only [runS] at h
  split at h
  ·rename_i t ht
   split at h
   ·rename_i p1 s2 h1
    split at h
    ·rename_i p2 s3 h2
     split at h
     ·rename_i m hmg
      cases h
      obtain ⟨g1,g2⟩:=au0 hp
      have hev:=U3 R x
      rw [ht] at hev
      refine wpIn_cond_split hev.bool (fun hb=>?_) (fun hb=>?_)
      ·refine Q9 hE hG hY hFG hm X c s p1 s2 h1 (bc1 g1 hb) ok.1 β a w R hO Q (fun β' a' w' R' hO' hd=>?_)
       obtain ⟨R2,hO2⟩:=bc0 hmg (by rw [if_pos hb];exact R')
       exact hQ β' a' w' R2 hO2 hd
      ·refine Q9 hE hG hY hFG hm X d s p2 s3 h2 (bc1 g2 hb) ok.2 β a w R hO Q (fun β' a' w' R' hO' hd=>?_)
       obtain ⟨R2,hO2⟩:=bc0 hmg (by rw [if_neg (by rw [hb];simp)];exact R')
       exact hQ β' a' w' R2 hO2 hd
     ·cases h
    ·cases h
   ·cases h
  ·cases h
 | .scope c,s,p,s1,h,hp,ok,β,a,w,R,hO,Q,hQ=>at8 (Q9 hE hG hY hFG hm X c s p s1 h hp ok β a w R hO _ (fun β' a' w' R' hO' hd=>hQ β' a' w' R' hO' hd))
 | .block id c,s,p,s1,h,hp,ok,β,a,w,R,hO,Q,hQ=>wpIn_block (Q9 hE hG hY hFG hm X c s p s1 h hp ok β a w R hO _ (fun β' a' w' R' hO' hd=>hQ β' a' w' R' hO' hd))
 | .loop _,_,_,_,h,_,_,_,_,_,_,_,_,_=>by cases h
 | .exit _,_,_,_,h,_,_,_,_,_,_,_,_,_=>by cases h
 | .ret,_,_,_,h,_,_,_,_,_,_,_,_,_=>by cases h
 | .label _,_,_,_,h,_,_,_,_,_,_,_,_,_=>by cases h
 | .goto _,_,_,_,h,_,_,_,_,_,_,_,_,_=>by cases h
 | .rangeFunc ..,_,_,_,h,_,_,_,_,_,_,_,_,_=>by cases h
 | .refuse _,_,_,_,h,_,_,_,_,_,_,_,_,_=>by cases h
theorem K0 {Y:Fr} {ro:Option Nat} (hE:E.Fits) (hG:E.Sound Y) (hY:P0 Y F E.yl) (hFG:F.G=E.G) (hm:E.P.follows .mixedOrders=true) (X:Nat) (L:Nat→St U→Ann U):∀ (c:Code) (k:Nat) (s:St U) (Q':Way U→St U→Prop),K6 n c=true→noRF c=true→wpc E X L c k s Q'→
  ∀ (β:Nm) (a:Act) (w:World),Rel F n β s a.tmps w→OptIn (fun _=>False) s.σ→∀ Q:Exit→Act→World→Prop,
   (∀ way e s' β' a' w',bs0 way e→Q' way s'→Rel F n β' s' a'.tmps w'→OptIn (fun _=>False) s'.σ→a'.defers=a.defers→Q e a' w')→c.wpIn (fen E.P ro) 0 E.P Q a w
 | .skip,k,s,Q',ok,nr,h,β,a,w,R,hO,Q,hQ=>wpIn_skip (hQ .normal _ s β a w rfl h R hO rfl)
 | .region id ops drawn,k,s,Q',ok,nr,h,β,a,w,R,hO,Q,hQ=>aN3 hE hG hY hFG hm X L k s Q' ok h β a w R hO Q hQ
 | .seq c d,k,s,Q',ok,nr,h,β,a,w,R,hO,Q,hQ=>by
  simp only [K6,co7] at ok
  simp only [noRF,co7] at nr
  refine wpIn_seq (K0 hE hG hY hFG hm X L c k s _ ok.1 nr.1 h β a w R hO _ (fun way e s' β' a' w' he h1 R' hO' hd=>?_))
  cases way with
  |normal=>
   have he:e=.normal:=he
   subst he
   exact K0 hE hG hY hFG hm X L d _ s' Q' ok.2 nr.2 h1 β' a' w' R' hO' Q (fun way2 e2 s2 β2 a2 w2 q0 q1 q2 q3 q4=>hQ way2 e2 s2 β2 a2 w2 q0 q1 q2 q3 (q4.trans hd))
  |exit id=>
   have he':e=.exit id:=he
   subst he'
   exact hQ (.exit id) _ s' β' a' w' rfl h1 R' hO' hd
  |ret=>
   have he':e=.ret:=he
   subst he'
   exact hQ .ret _ s' β' a' w' rfl h1 R' hO' hd
  |panic v=>
   obtain ⟨u,h2,rfl⟩:=he
   exact hQ (.panic v) _ s' β' a' w' ⟨u,h2,rfl⟩ h1 R' hO' hd
 | .cond x c d,k,s,Q',ok,nr,h,β,a,w,R,hO,Q,hQ=>by
  simp only [wpc] at h
  split at h
  ·rename_i p s' hrun
   cases hmg:(E.mg&&Q2 (.cond x c d)) with
   |false=>rw [hmg] at hrun;cases hrun
   |true=>
    rw [hmg] at hrun
    obtain ⟨hp,hq⟩:=bx3 h
    exact Q9 hE hG hY hFG hm X (.cond x c d) s p s' hrun hp ok β a w R hO Q (fun β' a' w' h1 h2 h3=>hQ .normal _ _ β' a' w' rfl hq h1 h2 h3)
  simp only [K6,co7] at ok
  simp only [noRF,co7] at nr
  split at h
  ·rename_i t ht
   have hev:=U3 R x
   rw [ht] at hev
   exact wpIn_cond_split hev.bool (fun hb=>K0 hE hG hY hFG hm X L c k s Q' ok.1 nr.1 (h.1 hb) β a w R hO Q hQ) (fun hb=>K0 hE hG hY hFG hm X L d _ s Q' ok.2 nr.2 (h.2 hb) β a w R hO Q hQ)
  ·exact h.elim
 | .block id c,k,s,Q',ok,nr,h,β,a,w,R,hO,Q,hQ=>by
  refine wpIn_block (K0 hE hG hY hFG hm X L c k s _ ok nr h β a w R hO _ (fun way e s' β' a' w' he h1 R' hO' hd=>?_))
  cases way with
  |normal=>
   have he':e=.normal:=he
   subst he'
   exact hQ .normal _ s' β' a' w' rfl h1 R' hO' hd
  |ret=>
   have he':e=.ret:=he
   subst he'
   exact hQ .ret _ s' β' a' w' rfl h1 R' hO' hd
  |panic v=>
   obtain ⟨u,h2,rfl⟩:=he
   exact hQ (.panic v) _ s' β' a' w' ⟨u,h2,rfl⟩ h1 R' hO' hd
  |exit id'=>
   have he':e=.exit id':=he
   subst he'
   simp only at h1
   show if id'=id then Q .normal a' w' else Q (.exit id') a' w'
   by_cases hid:id'=id
   ·rw [if_pos hid]
    rw [if_pos (by rw [hid];exact Nat.beq_refl id)] at h1
    exact hQ .normal _ s' β' a' w' rfl h1 R' hO' hd
   ·rw [if_neg hid]
    rw [if_neg (by rw [O2 hid];simp)] at h1
    exact hQ (.exit id') _ s' β' a' w' rfl h1 R' hO' hd
 | .loop c,k,s,Q',ok,nr,h,β,a,w,R,hO,Q,hQ=>by
  have nr:noRF c=true:=nr
  simp only [wpc,nr,Bool.not_true,cond_false] at h
  generalize L k s=A at h
  obtain ⟨β,R,hO⟩:=Y4 (l:=A.nils) R hO
  generalize X6 s A.nils=s at h R hO
  obtain ⟨⟨p0,he0⟩,hround⟩:=h
  obtain ⟨hk0,hi0⟩:=aq7 he0
  obtain ⟨R0,hO0⟩:=aj3 R (S7 s c A) (keys s.h)
  generalize hs0:s.keep (S7 s c A) (keys s.h)=s0 at hk0 hround R0 hO0
  refine aN2 (α:=Dens U.T A.tys) (fun p a' w'=>∃ β',Rel F n β' (aw0 s0 A.at_ (A9 U A.tys p)) a'.tmps w'∧OptIn (fun _=>False) (aw0 s0 A.at_ (A9 U A.tys p)).σ∧A.inv p∧a'.defers=a.defers) A.μ (p0:=p0) ⟨β,by rw [←hk0];exact R0,by rw [←hk0];exact hO0,hi0,rfl⟩ ?_
  rintro p a1 w1 ⟨β1,R1,hO1,hi1,hd1⟩
  refine K0 hE hG hY hFG hm X L c (k+1) _ _ ok nr (hround p hi1) β1 a1 w1 R1 hO1 _ (fun way e s' β' a' w' he h1 R' hO' hd=>?_)
  cases way with
  |normal=>
   have he':e=.normal:=he
   subst he'
   obtain ⟨p',he'⟩:=h1
   obtain ⟨hk',hi',hμ⟩:=aq7 he'
   obtain ⟨R2,hO2⟩:=aj3 R' (S7 s c A) (keys s.h)
   exact ⟨p',⟨β',by rw [←hk'];exact R2,by rw [←hk'];exact hO2,hi',hd.trans hd1⟩,hμ⟩
  |exit id=>
   have he':e=.exit id:=he
   subst he'
   exact hQ (.exit id) _ s' β' a' w' rfl h1 R' hO' (hd.trans hd1)
  |ret=>
   have he':e=.ret:=he
   subst he'
   exact hQ .ret _ s' β' a' w' rfl h1 R' hO' (hd.trans hd1)
  |panic v=>
   obtain ⟨u,h2,rfl⟩:=he
   exact hQ (.panic v) _ s' β' a' w' ⟨u,h2,rfl⟩ h1 R' hO' (hd.trans hd1)
 | .exit id,k,s,Q',ok,nr,h,β,a,w,R,hO,Q,hQ=>wpIn_exit (hQ (.exit id) _ s β a w rfl h R hO rfl)
 | .ret,k,s,Q',ok,nr,h,β,a,w,R,hO,Q,hQ=>wpIn_ret (hQ .ret _ s β a w rfl h R hO rfl)
 | .label _,k,s,Q',ok,nr,h,β,a,w,R,hO,Q,hQ=>wpIn_label (hQ .normal _ s β a w rfl h R hO rfl)
 | .goto _,k,s,Q',ok,nr,h,_,_,_,_,_,_,_=>h.elim
 | .scope c,k,s,Q',ok,nr,h,β,a,w,R,hO,Q,hQ=>by
  refine at8 (K0 hE hG hY hFG hm X L c k s Q' ok nr h β a w R hO _ (fun way e s' β' a' w' he h1 R' hO' hd=>?_))
  have hq:=hQ way e s' β' a' w' he h1 R' hO' hd
  cases way with
  |normal=>have he':e=.normal:=he;subst he';exact hq
  |ret=>have he':e=.ret:=he;subst he';exact hq
  |exit id=>have he':e=.exit id:=he;subst he';exact hq
  |panic v=>obtain ⟨u,h2,rfl⟩:=he;exact hq
 | .rangeFunc ..,k,s,Q',ok,nr,h,_,_,_,_,_,_,_=>by simp [noRF] at nr
end
end Go.VT
end
section
namespace Go.VT
noncomputable section
open Go.RowKit
variable {U:Univ} {E:Env U} {F:Fr} {n:Nat} {β:Nm} {s s':St U} {a:Act} {w:World} {h:Obs U}
theorem R6:∀ {gs:List (Bool×Nat)} {cs vs:List Value},K8 gs cs vs→vs.length=gs.length
 |[],cs,vs,hp=>by obtain ⟨_,rfl⟩:=hp;rfl
 |(true,k)::gs,cs,vs,hp=>by
  obtain ⟨a,r,v',vs',_,_,_,rfl,hr⟩:=hp
  simp [R6 hr]
 |(false,k)::gs,cs,vs,hp=>by
  obtain ⟨c,r,vs',_,_,rfl,hr⟩:=hp
  simp [R6 hr]
def pvOf:Bool×List (Cell U)→PV U
 |(true,cs)=>.agg cs
 |(false,[c])=>.one c
 |_=>.un
theorem aN4 {t:Nat} {p:PV U}:∀ {gs:List (Bool×List (Cell U))} {i:Nat},look t (Q3 gs i)=some p→i≤t∧∃ x,gs[t-i]? =some x∧p=pvOf x
 |[],i,h=>by simp [Q3,look] at h
 |(b,cs)::r,i,h=>by
  simp only [Q3,look] at h
  split at h
  ·rename_i hb
   have hb:=co5 hb
   subst hb
   simp only [co4] at h
   refine ⟨Nat.le_refl _,(b,cs),by simp,?_⟩
   rw [←h]
   cases b with
   |true=>rfl
   |false=>
    match cs with
    |[]=>rfl
    |[c]=>rfl
    |_::_::_=>rfl
  ·obtain ⟨h1,x,h2,h3⟩:=aN4 h
   exact ⟨by omega,x,by rw [show t-i=(t-(i+1))+1 by omega];simpa using h2,h3⟩
theorem bH9 {σ:List (Nat×PV U)} {gs:List (Bool×Nat)} {cs:List (Cell U)} {us vs:List Value} {t:Nat} {p:PV U} (hp:K8 gs us vs) (hc:CsRel w β h cs us) (hl:look t (Q3 (D5 gs cs) 0)=some p):
  ∃ v,vs[t]? =some v∧PRel w β h σ p v∧p.plain=true:=by
 obtain ⟨h1,x,h2,h3⟩:=aN4 hl
 rw [Nat.sub_zero] at h2
 obtain ⟨g1,g2⟩:=Q6 (σ:=σ) hp hc
 have htl:t<vs.length:=by
  rw [g1,←J9 gs cs]
  exact (co9.1 h2).1
 have hv:=co6 htl
 refine ⟨vs[t],hv,?_,?_⟩
 ·have:=g2 t x _ h2 hv
  rw [h3]
  obtain ⟨b,cs'⟩:=x
  cases b with
  |true=>exact this
  |false=>
   match cs',this with
   |[],this=>trivial
   |[c],this=>exact this
   |_::_::_,_=>trivial
 ·rw [h3]
  obtain ⟨b,cs'⟩:=x
  cases b with
  |true=>rfl
  |false=>
   match cs' with
   |[]=>rfl
   |[c]=>rfl
   |_::_::_=>rfl
theorem bj8 {fn:Func} {tmps:Array Value} {vs:List (PV U)} (hv:af2 E.P s fn.results.toList=some vs) (R:Rel F n β s tmps w):
  ∃ us:List Value,(results fn tmps).run E.P w=.ok (match us with|[v]=>v|_=>.tuple us.toArray) w∧us.length=vs.length∧∀ (j:Nat) (p:PV U) (u:Value),vs[j]? =some p→us[j]? =some u→PRel w β s.h s.σ p u:=by
 have key:∀ (l:List ResultVar) (vs:List (PV U)),af2 E.P s l=some vs→∃ us:List Value,(l.mapM fun (x:ResultVar)=>(match x with
   | .tmp t=>pure (tmps.getD t undef)
   | .cell a t=>do loadVar t (←asAddr (tmps.getD a undef)):Sem Value)).run E.P w=.ok us w∧us.length=vs.length∧∀ (j:Nat) (p:PV U) (u:Value),vs[j]? =some p→us[j]? =some u→PRel w β s.h s.σ p u:=by
  intro l
  induction l with
  |nil=>
   intro vs h
   simp only [af2,co4] at h
   subst h
   exact ⟨[],by simp,rfl,by simp⟩
  |cons x r ih=>
   intro vs h
   cases x with
   |tmp t=>
    simp only [af2,cp1] at h
    obtain ⟨vs',h1,rfl⟩:=h
    obtain ⟨us,h2,h3,h4⟩:=ih vs' h1
    refine ⟨tmps.getD t undef::us,?_,by simp [h3],fun j p u hp hu=>?_⟩
    ·simp only [List.mapM_cons,Sem.run_bind,Sem.run_pure,Result.andThen_ok,h2]
    ·match j,hp,hu with
     |0,hp,hu=>
      simp only [cp2,co4] at hp hu
      subst hp;subst hu
      simp only [ev]
      cases hl:look t s.σ with
      |none=>trivial
      |some q=>exact R.tmp t q hl
     |j+1,hp,hu=>exact h4 j p u (by simpa using hp) (by simpa using hu)
   |cell a t=>
    simp only [af2] at h
    split at h
    case h_2=>cases h
    rename_i id off hp
    split at h
    case h_2=>cases h
    rename_i e cs hb
    split at h
    case h_2=>cases h
    rename_i v hpk
    simp only [cp1] at h
    obtain ⟨vs',h1,rfl⟩:=h
    obtain ⟨us,h2,h3,h4⟩:=ih vs' h1
    have hptr:PRel w β s.h s.σ (.one (.ptr id off)) (tmps.getD a undef):=by
     rw [←hp]
     simp only [ev]
     cases hl:look a s.σ with
     |none=>trivial
     |some q=>exact R.tmp a q hl
    obtain ⟨_,_,g,hb2,hβ,hv2⟩:=hptr.inv.2
    obtain ⟨g',cur,q1,q2,q3,q4⟩:=R.obj id _ hb
    rw [hβ] at q1
    simp only [Value.pointer.injEq,co4,Addr.mk.injEq,and_true] at q1
    subst q1
    obtain ⟨u,hu,hru⟩:=bE9 (E:=E) hpk (q4.drop off) (g:=g) (q:=off) (fun j v hj=>by
     rw [List.getElem?_drop] at hj
     simp [World.cell?,q3,←Array.getElem?_toList,hj])
    refine ⟨u::us,?_,by simp [h3],fun j p u' hp hu'=>?_⟩
    ·have has:(asAddr (tmps.getD a undef)).run E.P w=.ok ⟨g,off,none⟩ w:=by rw [hv2];rfl
     simp only [List.mapM_cons,Sem.run_bind,Sem.run_pure,has,Result.andThen_ok,hu,h2]
    ·match j,hp,hu' with
     |0,hp,hu'=>
      simp only [cp2,co4] at hp hu'
      subst hp;subst hu'
      exact hru
     |j+1,hp,hu'=>exact h4 j p u' (by simpa using hp) (by simpa using hu')
 obtain ⟨us,h1,h2,h3⟩:=key _ _ hv
 refine ⟨us,?_,h2,h3⟩
 unfold results
 simp only [Array.mapM_eq_mapM_toList,bind_map_left,Sem.run_bind]
 refine (congrArg (fun r:Result (List Value)=>r.andThen (fun a w'=>Sem.run E.P (pure (if h:a.toArray.size=1 then a.toArray[0] else Value.tuple a.toArray)) w')) h1).trans ?_
 simp only [Result.andThen_ok,Sem.run_pure]
 match us with
 |[]=>rfl
 |[v]=>rfl
 |_::_::_=>simp
theorem ac9 (K:Con U):∀ {ps:List CPat} {cs:List (Cell U)} {i:Nat} {h:Obs U} {β:Nm} {us:List Value},Ok F w β h→CsRel w β h cs us→∃ β',Ok F w β' (ap2 K ps cs i h).2∧Ext w β h w β' (ap2 K ps cs i h).2∧CsRel w β' (ap2 K ps cs i h).2 (ap2 K ps cs i h).1 us
 |[],cs,i,h,β,us,k,hc=>⟨β,k,Ext.refl _ _ _,hc⟩
 |_::_,[],i,h,β,us,k,hc=>⟨β,k,Ext.refl _ _ _,hc⟩
 |p::ps,c::cs,i,h,β,us,k,hc=>by
  match us,hc.1 with
  |u::us,_=>
  have hu1:u.oneCell'=true:=hc.2.1 u (by simp)
  have hcu:CRel w β h c u:=hc.2.2 0 c u rfl rfl
  have hc':CsRel w β h cs us:=hc.drop 1
  have cons:∀ {β':Nm} {h':Obs U} {c':Cell U} {cs':List (Cell U)},CRel w β' h' c' u→CsRel w β' h' cs' us→CsRel w β' h' (c'::cs') (u::us):=by
   intro β' h' c' cs' h1 h2
   refine ⟨by simp [h2.1],fun v hv=>hc.2.1 v hv,fun j d v hd hv=>?_⟩
   match j,hd,hv with
   |0,hd,hv=>
    simp only [cp2,co4] at hd hv
    subst hd;subst hv
    exact h1
   |j+1,hd,hv=>exact h2.2.2 j d v (by simpa using hd) (by simpa using hv)
  cases hn:nil1 K p c i h with
  |none=>
   simp only [ap2,hn]
   obtain ⟨β',k',x',c'⟩:=ac9 K (ps:=ps) (i:=i+1) k hc'
   exact ⟨β',k',x',cons (x'.cell hcu) c'⟩
  |some h1=>
   simp only [ap2,hn]
   unfold nil1 at hn
   split at hn
   ·rename_i j
    split at hn
    case h_2=>cases hn
    rename_i q hq
    split at hn
    case h_2=>cases hn
    rename_i e t ht
    split at hn
    case h_2=>cases hn
    rename_i hf
    simp only [co4] at hn
    subst hn
    have A:=bj5 k hf e t
    have huv:u=.slice none 0 0:=hcu
    have hrow:CRel w (upd1 β i (.slice none 0 0)) (write i (.row e t [] 0 true) h) (.row i 0) u:=
     ⟨e,t,[],0,true,B0 _ _ _,Nat.le_refl _,fun _=>by rw [huv];exact (C2 _ _ _).symm⟩
    obtain ⟨β',k',x',c'⟩:=ac9 K (ps:=ps) (i:=i+1) A.ok (A.ext.cs hc')
    exact ⟨β',k',A.ext.trans x',cons (x'.cell hrow) c'⟩
   ·rename_i j
    split at hn
    case h_2=>cases hn
    rename_i q m hq
    split at hn
    case h_2=>cases hn
    rename_i e t ht
    split at hn
    case h_2=>cases hn
    rename_i hf
    simp only [co4] at hn
    subst hn
    have A:=br9 k hf e t m
    have huv:u=.slice none 0 0:=hcu
    have hrow:CRel w (upd1 β i (.tuple ((.slice none 0 0:Value)::[]).toArray)) (write i (.dp (.rows e t m [] 0 0 true none)) h) (.dc i (.self 0)) u:=by
     rw [huv]
     exact ⟨_,B0 _ _ _,Nat.le_refl _,fun _=>⟨_,C2 _ _ _,by simp⟩⟩
    obtain ⟨β',k',x',c'⟩:=ac9 K (ps:=ps) (i:=i+1) A.ok (A.ext.cs hc')
    exact ⟨β',k',A.ext.trans x',cons (x'.cell hrow) c'⟩
   ·cases hn
theorem au1 {n:Nat}:∀ {c j0:Nat} {j id:Nat},look j (bh7 j0 c)=some id→id=oid j∧j0≤j∧j<j0+c
 |0,j0,j,id,h=>by simp [bh7,look] at h
 |c+1,j0,j,id,h=>by
  simp only [bh7,look] at h
  split at h
  ·rename_i hb
   have hb:=co5 hb
   subst hb
   simp only [co4] at h
   exact ⟨h.symm,Nat.le_refl _,by omega⟩
  ·obtain ⟨h1,h2,h3⟩:=au1 (n:=n) h
   exact ⟨h1,by omega,by omega⟩
theorem bs1:∀ {c j0 j:Nat},j0≤j→j<j0+c→look j (bh7 j0 c)=some (oid j)
 |0,j0,j,h1,h2=>by omega
 |c+1,j0,j,h1,h2=>by
  simp only [bh7,look]
  by_cases h:j0=j
  ·subst h;simp
  ·rw [if_neg (by rw [O2 h];simp)]
   exact bs1 (by omega) (by omega)
theorem aT1 (k:Ok F w β h) {K:Con U} {cs:List (Cell U)} {r:Dens U.T K.tys} {m:Mt U} (hm:aS0 h K cs=some (r,m)) {us:List Value} (hc:CsRel w β h cs us) (hnm:∀ id v,F.nm id=some v→∃ j,j<K.oin.length∧id=oid j):
  Ok F w (T8 β m β.M) (E6 (A9 U K.tys r) K.oout)∧CsRel w (T8 β m β.M) (E6 (A9 U K.tys r) K.oout) (K.rout.map (iC (A9 U K.tys r) oid (fun _=>0))) us:=by
 unfold aS0 at hm
 split at hm
 case h_2=>cases hm
 rename_i m1 h1
 split at hm
 case h_2=>cases hm
 rename_i m2 h2
 simp only [cp7] at hm
 split at hm
 case isFalse=>cases hm
 rename_i hcond
 simp only [co7,Bool.not_eq_true'] at hcond
 obtain ⟨c1,c3⟩:=hcond
 split at hm
 case h_2=>cases hm
 rename_i ds hds
 split at hm
 case h_2=>cases hm
 rename_i ys hys
 simp only [co4,cp6] at hm
 obtain ⟨rfl,rfl⟩:=hm
 have hg:∀ id o,look id h=some o→look id h=some o:=fun _ _ hh=>hh
 obtain ⟨a1,a2,a3,a4,a5⟩:=aA0 hg h1 (fun id o hh=>by simp at hh)
 obtain ⟨b1,b2,b3,b4⟩:=aS3 hg h2 a2
 have hds2:=ao0 hys
 obtain ⟨d1,d2⟩:=am2 hds
 have hlt:∀ j id,look j m2.ι=some id→j<K.oout.length:=fun j id hj=>cq7 (cr4.1 c1 _ (ac3 hj))
 have G:Matched F w β h h K.tys K.oout (A9 U K.tys ys) m2:=by
  refine ⟨k,hg,b2,b3 (a3 (fun j j' id q1 q2=>?_)),hlt,fun i p hp=>?_,fun j id hj o ho=>?_,fun i x t ht hx=>?_⟩
  ·have e1:=(au1 (n:=0) q1).1
   have e2:=(au1 (n:=0) q2).1
   exact T7 (e1.symm.trans e2)
  ·obtain ⟨id,o,q1,q2,q3,q4⟩:=b4 i p hp
   exact ⟨id,o,by simpa using q1,q3,q4⟩
  ·have:Z8 (m2.ι.map (·.2)) (keys m2.u)=true:=by
    simp only [Z8,List.any_eq_true]
    exact ⟨id,List.mem_map.2 ⟨_,ac3 hj,rfl⟩,id,by simp only [keys,List.mem_map];exact ⟨_,ho,rfl⟩,Nat.beq_refl id⟩
   rw [c3] at this
   cases this
  ·rw [←hds2]
   have hil:i<K.tys.length:=(co9.1 ht).1
   rw [d2 i hil,Nat.zero_add]
   exact hx
 have hM:∀ b,β.M b→Live β (upds h m2.u) b:=fun b hb=>.inl hb
 refine ⟨⟨k.bel,k.hB,fun id o hl=>?_,G.dis,k.frm,fun id o b hl hb=>?_,fun id o b hl hb=>?_,k.Mlt,k.Meq,fun id o v hl hv=>?_,k.nmg,k.glo⟩,G.cells hM a4 (fun i p c hp hcc=>(a5 i p c hp hcc).le b1) hc⟩
 ·obtain ⟨j,p,q1,q2,q3⟩:=H0 hl
  rw [q2,q3]
  exact G.obj hM q1
 ·obtain ⟨j,p,q1,q2,q3⟩:=H0 hl
  obtain ⟨i,o1,r1,r2,r3⟩:=G.obs j p q1
  rw [q2,H7 r1] at hb
  exact k.own i o1 b r2 hb
 ·obtain ⟨j,p,q1,q2,q3⟩:=H0 hl
  obtain ⟨i,o1,r1,r2,r3⟩:=G.obs j p q1
  rw [q2,H7 r1] at hb
  exact k.Mo i o1 b r2 hb
 ·obtain ⟨j,p,q1,q2,q3⟩:=H0 hl
  subst q2
  obtain ⟨i,o1,r1,r2,r3⟩:=G.obs j p q1
  obtain ⟨j',hj',hjj⟩:=hnm _ v hv
  have:=T7 hjj
  subst this
  have hbound:look j m2.ι=some (oid j):=b1.ι _ _ (a1.ι _ _ (bs1 (Nat.zero_le _) (by omega)))
  rw [hbound] at r1
  simp only [co4] at r1
  subst r1
  rw [H7 hbound,aA1 hbound]
  refine (k.fix (oid j) o1 v r2 hv).imp (fun hr=>?_) (fun hr=>hr)
  rw [q3]
  cases p with
  |row q=>
   obtain ⟨e,t,l,ver,rfl,s2,s3⟩:=r3
   have hd:=G.dat q _ _ s2 s3
   simp [iO,hd,Ob.isRow]
  |box e ps=>obtain ⟨_,rfl,_⟩:=r3;simp [Ob.isRow] at hr
  |map q=>obtain ⟨_,_,_,rfl,_⟩:=r3;simp [Ob.isRow] at hr
  |loop q=>obtain ⟨_,rfl,_⟩:=r3;simp [Ob.isRow] at hr
  |dp q ms=>
   obtain ⟨e,t,l,ver,iv,rfl,s2,s3⟩:=r3
   have hd:=G.dat q _ _ s2 s3
   simp [iO,hd,Ob.isRow]
  |ms q=>
   obtain ⟨kt,e,t,l,ver,iv,rfl,s2,s3⟩:=r3
   have hd:=G.dat q _ _ s2 s3
   simp [iO,hd,Ob.isRow]
theorem bS8 {gs:List (Bool×Nat)} {rs us:List Value}:K8 gs rs us→ac2 gs rs (match us with|[v]=>v|_=>.tuple us.toArray):=by
 intro hpack
 have hlen:=R6 hpack
 unfold ac2
 split
 ·rename_i g
  match us,hlen,hpack with
  |[v],_,hpack=>exact hpack
 ·rename_i hne
  have:us.length≠1:=by
   rw [hlen]
   intro h1
   match gs,h1,hne with
   |[g],_,hne=>exact hne g rfl
  match us,this,hpack with
  |[],_,hpack=>exact ⟨[],rfl,hpack⟩
  |[_],h1,_=>exact absurd rfl h1
  |x::y::z,_,hpack=>exact ⟨_,rfl,hpack⟩
theorem aG0 {k:Con U} {xs:Dens U.T k.params} {h:Obs U} {cs:List (Cell U)} (hp:bh8 k xs h cs) (K:Ok F w β h) {rs:List Value} (hcr:CsRel w β h cs rs) (hnm:∀ id v,F.nm id=some v→∃ j,j<k.oin.length∧id=oid j):
  (∀ b,k.bad=some b→(b xs).1=false)∧∃ β',Ok F w β' (E6 (A9 U k.tys (k.fn xs)) k.oout)∧
   CsRel w β' (E6 (A9 U k.tys (k.fn xs)) k.oout) (k.rout.map (iC (A9 U k.tys (k.fn xs)) oid (fun _=>0))) rs:=by
 unfold bh8 at hp
 dsimp only at hp
 split at hp
 case h_2=>exact hp.elim
 rename_i r m hres
 obtain ⟨β',k',x',c'⟩:=ac9 k (ps:=k.rout) (i:=999000) K hcr
 obtain ⟨h1,h2⟩:=aT1 k' hres c' hnm
 have hboth:(∀ b,k.bad=some b→(b xs).1=false)∧r=k.fn xs:=by
  split at hp
  ·rename_i hb
   refine ⟨fun b hb'=>?_,hp⟩
   rw [hb] at hb'
   cases hb'
  ·rename_i b hb
   refine ⟨fun b' hb'=>?_,hp.2⟩
   rw [hb] at hb'
   simp only [co4] at hb'
   subst hb'
   exact hp.1
 rw [hboth.2] at h1 h2
 exact ⟨hboth.1,_,h1,h2⟩
theorem bx4 {fn:Func} {k:Con U} {xs:Dens U.T k.params} (hp:post E.P fn k xs s) {tmps:Array Value} (R:Rel F n β s tmps w) (hnm:∀ id v,F.nm id=some v→∃ j,j<k.oin.length∧id=oid j):
  ∃ v,(results fn tmps).run E.P w=.ok v w∧(∀ b,k.bad=some b→(b xs).1=false)∧∃ β' rs,Ok F w β' (E6 (A9 U k.tys (k.fn xs)) k.oout)∧ac2 k.res rs v∧
   CsRel w β' (E6 (A9 U k.tys (k.fn xs)) k.oout) (k.rout.map (iC (A9 U k.tys (k.fn xs)) oid (fun _=>0))) rs:=by
 unfold post at hp
 split at hp
 case h_2=>exact hp.elim
 rename_i vs hvs
 split at hp
 case h_2=>exact hp.elim
 rename_i cs hcs
 obtain ⟨us,hrun,hul,hur⟩:=bj8 (E:=E) hvs R
 obtain ⟨rs,hpack,hcr⟩:=O9 (w:=w) (β:=β) (h:=s.h) (σ:=s.σ) (vs:=us) hcs hul hur
 obtain ⟨h1,β',h2,h3⟩:=aG0 hp R.ok hcr hnm
 exact ⟨_,hrun,h1,β',rs,h2,bS8 hpack,h3⟩
theorem bc2 {q:Prop}:∀ {x y:List (Datum U)},eqDs x y q→x=y∧q
 |[],[],h=>⟨rfl,h⟩
 |[],_::_,h=>h.elim
 |_::_,[],h=>h.elim
 |x::r,y::r',h=>by
  obtain ⟨rfl,h2⟩:=aj0 (show eqD x y (eqDs r r' q) from h)
  obtain ⟨rfl,h3⟩:=bc2 h2
  exact ⟨rfl,h3⟩
theorem aN5 {a b:PanV U} (h:ca8 a b):a=b:=by
 unfold ca8 at h
 simp only [cp7] at h
 split at h
 ·rename_i hc
  simp only [co7,beq_iff_eq] at hc
  obtain ⟨a1,a2,a3⟩:=a
  obtain ⟨b1,b2,b3⟩:=b
  have h1:=co5 hc.1
  have h2:=hc.2
  have h3:=(bc2 h).1
  simp only at h1 h2 h3
  rw [h1,h2,h3]
 ·exact h.elim
theorem ad0 {q:Prop}:∀ {ds:List (Datum U)},aC1 ds q→(∀ d∈ds,(∃ e t l,d=⟨.slice e t,l⟩)→Small U d)→q
 |[],h,_=>h
 |d::r,h,hs=>by
  unfold aC1 at h
  split at h
  ·rename_i heq;cases heq
  ·rename_i heq
   simp only [List.cons.injEq] at heq
   obtain ⟨rfl,rfl⟩:=heq
   exact ad0 (h (hs _ (by simp) ⟨_,_,_,rfl⟩)) (fun d hd=>hs d (by simp [hd]))
  ·rename_i heq
   simp only [List.cons.injEq] at heq
   obtain ⟨rfl,rfl⟩:=heq
   exact ad0 h (fun d hd=>hs d (by simp [hd]))
theorem bs2 {k:Nat}:∀ {ps:List CPat},k∈datC ps→∃ i:Nat,ps[i]? =some (CPat.d k)
 |[],h=>by simp [datC] at h
 |p::r,h=>by
  have more:k∈datC r→∃ i:Nat,(p::r)[i]? =some (CPat.d k):=fun h=>by
   obtain ⟨i,hi⟩:=bs2 h
   exact ⟨i+1,by simpa using hi⟩
  cases p with
  |d k'=>
   simp only [datC,List.mem_cons] at h
   rcases h with h|h
   ·subst h;exact ⟨0,rfl⟩
   ·exact more h
  |_=>exact more h
theorem bs3 {k:Nat}:∀ {os:List OPat},k∈datO os→∃ (i:Nat) (p:OPat),os[i]? =some p∧(p=.row k∨(∃ e cs,p=.box e cs∧k∈datC cs)∨∃ m,p=.dp k m)
 |[],h=>by simp [datO] at h
 |p::r,h=>by
  have more:k∈datO r→∃ (i:Nat) (q:OPat),(p::r)[i]? =some q∧(q=.row k∨(∃ e cs,q=.box e cs∧k∈datC cs)∨∃ m,q=.dp k m):=fun h=>by
   obtain ⟨i,q,hi,hq⟩:=bs3 h
   exact ⟨i+1,q,by simpa using hi,hq⟩
  cases p with
  |box e cs=>
   simp only [datO,cr1] at h
   rcases h with h|h
   ·exact ⟨0,_,rfl,.inr (.inl ⟨e,cs,rfl,h⟩)⟩
   ·exact more h
  |row k'=>
   simp only [datO,List.mem_cons] at h
   rcases h with h|h
   ·subst h;exact ⟨0,_,rfl,.inl rfl⟩
   ·exact more h
  |dp k' m=>
   simp only [datO,List.mem_cons] at h
   rcases h with h|h
   ·subst h;exact ⟨0,_,rfl,.inr (.inr ⟨m,rfl⟩)⟩
   ·exact more h
  |_=>exact more h
theorem aG1 {ds:List (Datum U)} {d:Datum U}:∀ {ks:List Nat},d∈aS1 ds ks→∃ k∈ks,ds[k]? =some d
 |[],h=>by simp [aS1] at h
 |k::r,h=>by
  simp only [aS1] at h
  split at h
  ·rename_i d' hd
   rcases List.mem_cons.1 h with h1|h1
   ·subst h1;exact ⟨k,by simp,hd⟩
   ·obtain ⟨k',h2,h3⟩:=aG1 h1
    exact ⟨k',by simp [h2],h3⟩
  ·obtain ⟨k',h2,h3⟩:=aG1 h
   exact ⟨k',by simp [h2],h3⟩
theorem aG2 {ds:List (Datum U)} {ι vr:Nat→Nat} {ps:List CPat} {us:List Value} (hc:CsRel w β h (ps.map (iC ds ι vr)) us) {k:Nat} (hk:k∈datC ps) {d:Datum U} (hd:ds[k]? =some d):Small U d:=by
 obtain ⟨i,hi⟩:=bs2 hk
 have hil:i<us.length:=by rw [hc.1,cr5];exact (co9.1 hi).1
 have:=hc.2.2 i (iC ds ι vr (.d k)) us[i] (by simp [hi]) (co6 hil)
 simp only [iC,hd] at this
 exact ⟨_,_,_,this⟩
theorem aG3 {k:Con U} {ds:List (Datum U)} (K:Ok F w β (E6 ds k.oin)) {us:List Value} (hc:CsRel w β (E6 ds k.oin) (k.ain.map (iC ds oid (fun _=>0))) us):∀ d∈aS1 ds (datC k.ain++datO k.oin),(∃ e t l,d=⟨.slice e t,l⟩)→Small U d:=by
 intro d hd hsl
 obtain ⟨q,hq,hdq⟩:=aG1 hd
 rcases cr1.1 hq with h1|h1
 ·exact aG2 hc h1 hdq
 ·obtain ⟨i,p,hp,hh⟩:=bs3 h1
  have ho:=K.obj _ _ (D6 (ds:=ds) hp)
  rcases hh with rfl|⟨e,cs,rfl,hcs⟩|⟨m,rfl⟩
  ·simp only [iO,hdq] at ho
   obtain ⟨e,t,x,rfl⟩:=hsl
   ·have hl:look (oid i) (E6 ds k.oin)=some (.row e t x 0 true):=by
     have:=D6 (ds:=ds) hp
     simp only [iO,hdq] at this
     exact this
    have ha:asD (E6 ds k.oin) (.slice e t) (.row (oid i) 0)=some (⟨.slice e t,x⟩,[(oid i,.row e t x 0 false)]):=by simp [asD,hl]
    have hr:=ai3 K (fun _ _ hh=>hh) ha (v:=β (oid i)) ⟨e,t,x,0,true,hl,Nat.le_refl _,fun _=>rfl⟩ (u':=[(oid i,.row e t x 0 false)]) (fun id o hm=>by
     simp only [cp5,cp6] at hm
     obtain ⟨rfl,rfl⟩:=hm
     exact .inl ⟨e,t,x,0,true,hl,rfl⟩) (fun _ hh=>hh)
    exact ⟨_,_,_,hr⟩
  ·obtain ⟨b,vs,_,_,_,r4⟩:=ho
   exact aG2 r4 hcs hdq
  ·obtain ⟨e,t,x,rfl⟩:=hsl
   have hl:look (oid i) (E6 ds k.oin)=some (.dp (.rows e t m x 0 0 true none)):=by
    have:=D6 (ds:=ds) hp
    simp only [iO,hdq] at this
    exact this
   simp only [iO,hdq] at ho
   obtain ⟨root,xs,ns,hN,_⟩:=ho
   have ha:asD (E6 ds k.oin) (.slice e t) (.dc (oid i) (.self 0))=some (⟨.slice e t,x⟩,[(oid i,.dp (Deep.frozen (.rows e t m x 0 0 true none)))]):=by simp only [asD,hl];simp [Deep.datum]
   have hr:=ai3 K (fun _ _ hh=>hh) ha (v:=root) ⟨_,hl,Nat.le_refl _,fun _=>⟨_,hN,by simp⟩⟩ (u':=[(oid i,.dp (Deep.frozen (.rows e t m x 0 0 true none)))]) (fun id o hm=>by
    simp only [cp5,cp6] at hm
    obtain ⟨rfl,rfl⟩:=hm
    exact .inr ⟨_,hl,rfl⟩) (fun _ hh=>hh)
   exact ⟨_,_,_,hr⟩
end
end Go.VT
end
