/-
What the last text of this claim uses: VtBr, RgSpec, RgBase, RgH, RgA, RgEq1, RgB, RgC, RgEq2, RgD, RgE, RgEq3, RgF, RgG, RgEq4, RgI, RgJ, RgEq5, RgK, RgL, RgM, RgN, RgO, RgP, RgEq6, RgQ, RgR, RgS, RgEq7, RgU, RgY, RgZ, RgBa, RgEq11, RgBb, RgBc, RgEq12, RgBd, RgBe, RgEq13.
-/
import Derived.Test.YtknhkhdbonjhgaaDoorV3
import Derived.LaidMore
import Derived.OpenShut
import Derived.ProofKit
import Derived.Laws.Bits
import Derived.Test.YtknhkhdbonjhgaaDoorProg
import Derived.KernelRfl
set_option linter.unusedVariables false
set_option linter.unusedSimpArgs false
set_option maxRecDepth 100000
noncomputable section
section
namespace Go.VT
open Go.WideShapes Go.ChangeShapes
noncomputable section
variable {U:Univ} {H:Type} {enc:TypeId×Value->H} {P:Program} {w:World} {base:Nat} {sp:Nat->Bool} {held:Bool}
def bw6 (P:Program) (U:Univ) (L:List (TypeId×Ty)):Prop:=∀ t ty,(t,ty)∈L->match ty with
 | .int k=>P.underlying t=some (.int k)
 | .bool=>P.underlying t=some .bool
 | .slice e t'=>P.underlying t=some (.slice e)/\P.cellsOf e=szOf U t'/\0<P.cellsOf e/\0<P.bytesOf e/\(e,t')∈L
 | .user i=>∃ fs,P.underlying t=some (.struct fs)/\P.cellsOf t=(U.fields i).length/\fs.size=(U.fields i).length/\
   ∀ (j:Nat) (f:Field) (ty':Ty),fs[j]? =some f->(U.fields i)[j]? =some ty'->f.offset=j/\P.cellsOf f.type=1/\I1 ty'=false/\(f.type,ty')∈L
 |_=>False
theorem bN5 {α:Type} {Q:Nat->α->Prop}:∀ (n:Nat),(∀ i,i<n->∃ x,Q i x)->∃ l:List α,l.length=n/\∀ i x,l[i]? =some x->Q i x
 |0,_=>⟨[],rfl,λi x h=>by simp at h⟩
 |n+1,h=>by
  obtain ⟨l,h1,h2⟩:=bN5 n (λi c=>h i (by omega));obtain ⟨x,d⟩:=h n (by omega);refine ⟨l++[x],by simp [h1],λi y a=>?_⟩;rw [List.getElem?_append] at a;split at a
  .exact h2 i y a
  .rename_i c;have b:i=n:=by
    have:=(cv8.1 a).1;simp at this;omega
   subst b;simp [h1] at a;subst a;exact d
theorem bn6:∀ (ts:List Ty) (Q:Nat->Datum U->Prop),(∀ (j:Nat) (ty:Ty),ts[j]? =some ty->∃ x:den U.T ty,Q j ⟨ty,x⟩)->∃ c:Dens U.T ts,∀ (j:Nat) (d:Datum U),(A8 U ts c)[j]? =some d->Q j d
 |[],Q,_=>⟨(),λj d h=>by simp [A8] at h⟩
 |t::ts,Q,h=>by
  obtain ⟨x,b⟩:=h 0 t rfl;obtain ⟨c,hc⟩:=bn6 ts (λj d=>Q (j+1) d) (λj ty e=>h (j+1) ty e);refine ⟨(x,c),λj d a=>?_⟩;cases j with
  |zero=>simp only [A8,cw1,cv3] at a;subst a;exact b
  |succ j=>exact hc j d (by simpa [A8] using a)
theorem ag8 {ty:Ty} (h:I1 ty=false) (x:den U.T ty):B3 U ty x=[⟨ty,x⟩]:=by
 cases ty<;>first|rfl|simp [I1] at h
theorem ao1 {e:TypeId}:∀ {ds:List (DataW H)} {d:DataW H} {n:Nat},d∈ds->n∈d.weights P e->n∈DataW.weightsAll P e ds
 |[],_,_,h,_=>by simp at h
 |x::r,d,n,h,a=>by
  simp only [DataW.weightsAll,cy1];rcases List.mem_cons.1 h with rfl|h
  .exact .inl a
  .exact .inr (ao1 h a)
theorem ag9:∀ {ts:List TypeId} {ds:List (DataW H)} {j:Nat} {t:TypeId} {d:DataW H} {n:Nat},ts[j]? =some t->ds[j]? =some d->n∈d.weights P t->n∈DataW.weightsEach P ts ds
 |[],_,_,_,_,_,h,_,_=>by simp at h
 |_::_,[],_,_,_,_,_,h,_=>by simp at h
 |t0::ts,b::ds,j,t,d,n,h1,h2,a=>by
  simp only [DataW.weightsEach,cy1];cases j with
  |zero=>simp only [cw1,cv3] at h1 h2;subst h1;subst h2;exact .inl a
  |succ j=>exact .inr (ag9 (by simpa using h1) (by simpa using h2) a)
theorem bN6 (g o i j:Nat):((⟨g,o,none⟩:Addr).add i).add j=⟨g,o+i+j,none⟩:=by unfold Addr.add;by_cases a:i=0<;>by_cases b:j=0<;>simp [a,b]
inductive Light (P:Program):Datum U->Prop
 |int (k:IntKind) (n:Int):Light P ⟨.int k,n⟩
 |bool (b:Bool):Light P ⟨.bool,b⟩
 |slice (e:TypeId) (t:Ty) (l:List (den U.T t)) (h:l.length*P.bytesOf e<=reachBytes) (hr:∀ x∈l,∀ d∈B3 U t x,Light P d):Light P ⟨.slice e t,l⟩
def RepW (P:Program) (w:World) (d:Datum U) (u:Value):Prop:=Rep U w (λ_=>False) d u/\Light P d
theorem as3 {L:List (TypeId×Ty)} (hL:bw6 P U L):∀ (fuel:Nat) {t:TypeId} {ty:Ty} {cs:List Value} {d:DataW H} {p:List MemPlace},(t,ty)∈L->DataW.trod enc P w base sp held fuel t cs=some (d,p)->
  (∀ n∈d.weights P t,n<=reachBytes)->∃ x:den U.T ty,cs.length=szOf U ty/\(∀ v∈cs,v.oneCell'=true)/\∀ (j:Nat) (dd:Datum U) (u:Value),(B3 U ty x)[j]? =some dd->cs[j]? =some u->RepW P w dd u
 |0,t,ty,cs,d,p,_,h,_=>by simp [DataW.trod] at h
 |fuel+1,t,ty,cs,d,p,hm,h,hw=>by
  have m:=hL t ty hm;have one:∀ {ty:Ty} {x:den U.T ty} {v:Value},I1 ty=false->RepW P w ⟨ty,x⟩ v->∀ (j:Nat) (dd:Datum U) (u:Value),(B3 U ty x)[j]? =some dd->[v][j]? =some u->RepW P w dd u:=by
   intro ty x v B hr j dd u h1 h2;rw [ag8 B] at h1;cases j with
   |zero=>simp only [cw1,cv3] at h1 h2;subst h1;subst h2;exact hr
   |succ j=>simp at h1
  cases ty with
  |int k=>obtain ⟨n,rfl,_,_⟩:=DataW.trod_int m h;exact ⟨n,rfl,by simp [Value.oneCell'],one rfl ⟨.int k n,.int k n⟩⟩
  |bool=>obtain ⟨b,rfl,_⟩:=DataW.trod_bool m h;exact ⟨b,rfl,by simp [Value.oneCell'],one rfl ⟨.bool b,.bool b⟩⟩
  |str=>exact m.elim
  |map _ _=>exact m.elim
  |ifc _=>exact m.elim
  |slice e t'=>
   obtain ⟨B,hc,hc0,hb0,hm'⟩:=m;rcases DataW.trod_slice B h with ⟨rfl,_⟩|⟨a,len,cap,elems,rest,n,hf,rfl,s,_,hl,_,y,E,_,_⟩
   .exact ⟨[],rfl,by simp [Value.oneCell'],one rfl ⟨.nil e t' none 0,.slice e t' [] (by simp [reachBytes]) (by simp)⟩⟩
   .have F:fuel=n:=by omega
    subst F;simp only [cw5] at s;obtain ⟨rfl,_⟩:=s;have hwl:elems.length<=most:=by
     have:=hw ((elems.length+rest.length)*P.bytesOf e) (by simp [DataW.weights,B]);have h1:(elems.length+rest.length)*1<=(elems.length+rest.length)*P.bytesOf e:=Nat.mul_le_mul_left _ hb0;simp only [reachBytes,most] at*
     omega
    have hwb:elems.length*P.bytesOf e<=reachBytes:=by have:=hw ((elems.length+rest.length)*P.bytesOf e) (by simp [DataW.weights,B]);exact Nat.le_trans (Nat.mul_le_mul_right _ (Nat.le_add_right _ _)) this
    have Q:∀ i,i<len->∃ x:den U.T t',∃ cs',w.cells? base (a.add (i*szOf U t')) (szOf U t')=some cs'/\∀ (j:Nat) (dd:Datum U) (u:Value),(B3 U t' x)[j]? =some dd->cs'[j]? =some u->RepW P w dd u:=by
     intro i O;have h1:=E i O;rw [cv5 (by omega)] at h1;obtain ⟨cs',h2,G⟩:=Option.bind_eq_some_iff.1 h1;rw [hc] at h2;obtain ⟨x,hx1,R,I⟩:=as3 hL fuel (d:=elems[i].1) (p:=elems[i].2) hm' G (λq hq=>hw q (by
      simp only [DataW.weights,B,List.mem_cons,cy1];exact .inr (.inl (ao1 (List.mem_map.2 ⟨elems[i],List.getElem_mem _,rfl⟩) hq))))
     exact ⟨x,cs',h2,I⟩
    obtain ⟨l,r,J⟩:=bN5 len Q;refine ⟨l,rfl,by simp [Value.oneCell'],one rfl ?_⟩;cases l with
    |nil=>simp only [List.length_nil] at r;subst r;exact ⟨.nil e t' (some a) cap,.slice e t' [] (by simp [reachBytes]) (by simp)⟩
    |cons x0 l0=>
     have hcell:∀ i,i<len->∀ j,j<szOf U t'->∃ v,w.cell? ((a.add (i*szOf U t')).add j)=some v:=by intro i O j z;obtain ⟨x,s⟩:∃ x,(x0::l0)[i]? =some x:=⟨_,cv5 (by omega)⟩;obtain ⟨cs',h1,_⟩:=J i x s;obtain ⟨_,h2,G⟩:=World.cells?_some h1;exact ⟨_,by rw [G j z];exact cv5 (by omega)⟩
     have S:0<len:=by rw [<-r];simp
     obtain ⟨v0,V⟩:=hcell 0 S 0 (by omega);obtain ⟨g,o,spot⟩:=a;have K:spot=none:=by simpa [Addr.add] using World.cell?_spot V
     subst K;have hg:g<w.heap.size:=by
      have:w.cell? ⟨g,o+0*szOf U t'+0,none⟩=some v0:=by simpa [Addr.add] using V
      unfold World.cell? at this;cases hh:w.heap[g]? with
      |none=>simp [hh] at this
      |some ob=>exact (cx1.1 hh).1
     have hli:Light P (U:=U) ⟨.slice e t',x0::l0⟩:=by
      refine .slice e t' _ (by rw [r,<-y];exact hwb) (λx s d M=>?_);obtain ⟨i,O⟩:=List.mem_iff_getElem?.1 s;obtain ⟨j,z⟩:=List.mem_iff_getElem?.1 M;have hil:i<len:=by rw [<-r];exact (cv8.1 O).1
      have hjs:j<szOf U t':=by rw [<-B1 U t' x];exact (cv8.1 z).1
      obtain ⟨cs',h1,h2⟩:=J i x O;obtain ⟨_,G,h4⟩:=World.cells?_some h1;exact (h2 j d cs'[j] z (cv5 (by omega))).2
     rw [<-r];refine ⟨?_,hli⟩;refine .slice e t' (x0::l0) g o cap (λi j=>(w.cell? ⟨g,o+i*szOf U t'+j,none⟩).getD undef) (by simp) (by omega) (by omega) (λh=>h) hg (λi O j z=>?_) (λi x s j dd M=>?_)
     .obtain ⟨v,A⟩:=hcell i (by omega) j z;have A:w.cell? ⟨g,o+i*szOf U t'+j,none⟩=some v:=by rw [bN6] at A;exact A
      simp [A]
     .obtain ⟨cs',h1,h2⟩:=J i x s;obtain ⟨_,G,h4⟩:=World.cells?_some h1;have z:j<szOf U t':=by rw [<-B1 U t' x];exact (cv8.1 M).1
      have h5:=h4 j z;have h6:w.cell? ⟨g,o+i*szOf U t'+j,none⟩=cs'[j]? :=by rw [bN6] at h5;exact h5
      refine (h2 j dd _ M ?_).1;rw [h6,cv5 (by omega)];rfl
  |user i=>
   obtain ⟨fs,B,hc,hfs,C⟩:=m;obtain ⟨xs,n,hf,s,y,hxl,E⟩:=DataW.trod_struct B h;have F:fuel=n:=by omega
   subst F;simp only [cw5] at s;obtain ⟨rfl,_⟩:=s;have z:∀ (j:Nat) (ty':Ty),(U.fields i)[j]? =some ty'->∃ x:den U.T ty',∃ v,cs[j]? =some v/\v.oneCell'=true/\RepW P w ⟨ty',x⟩ v:=by
    intro j ty' W;have X:j<(U.fields i).length:=(cv8.1 W).1;obtain ⟨f,N⟩:∃ f,fs[j]? =some f:=⟨_,cx0 (by omega)⟩;obtain ⟨ho,hc1,hnu,Y⟩:=C j f ty' N W;have h1:=E j f N;rw [ho,hc1,cv5 (by omega)] at h1;obtain ⟨v,A⟩:∃ v,cs[j]? =some v:=⟨_,cv5 (by omega)⟩;have h2:(cs.drop j).take 1=[v]:=by
     have D:j<cs.length:=by omega
     rw [List.drop_eq_getElem_cons D];rw [cv5 D] at A;simp at A;simp [A]
    rw [h2] at h1;obtain ⟨x,hx1,R,I⟩:=as3 hL fuel (d:=xs[j].1) (p:=xs[j].2) Y h1 (λq hq=>hw q (by
     simp only [DataW.weights,B];exact ag9 (j:=j) (by simp;exact ⟨f,by simpa using N,rfl⟩) (by simp;exact ⟨xs[j].2,cv5 (by omega)⟩) hq))
    exact ⟨x,v,A,R v (by simp),I 0 ⟨ty',x⟩ v (by rw [ag8 hnu];rfl) rfl⟩
   obtain ⟨c,hcq⟩:=bn6 (U:=U) (U.fields i) (λj d=>∃ v,cs[j]? =some v/\v.oneCell'=true/\RepW P w d v) z;refine ⟨U.put i c,by rw [y,hc];rfl,λv A=>?_,λj dd u M hu'=>?_⟩
   .obtain ⟨j,Z⟩:=List.mem_iff_getElem?.1 A;have X:j<(U.fields i).length:=by have:=(cv8.1 Z).1;omega
    obtain ⟨x,v',h1,h2,_⟩:=z j _ (cv5 X);rw [Z] at h1;simp only [cv3] at h1;rw [h1];exact h2
   .simp only [B3,U.get_put] at M;obtain ⟨v,h1,_,G⟩:=hcq j dd M;rw [hu'] at h1;simp only [cv3] at h1;rw [h1];exact G
def bZ3 (P:Program) (U:Univ) (L:List (TypeId×Ty)) (t:TypeId) (agg:Bool) (tys:List Ty):Prop:=
 (agg=false/\∃ ty,tys=[ty]/\I1 ty=false/\(t,ty)∈L)\/
 (agg=true/\∃ fs,P.underlying t=some (.struct fs)/\P.cellsOf t=tys.length/\fs.size=tys.length/\
   ∀ (j:Nat) (f:Field) (ty':Ty),fs[j]? =some f->tys[j]? =some ty'->f.offset=j/\P.cellsOf f.type=1/\I1 ty'=false/\(f.type,ty')∈L)\/
 (agg=true/\∃ e,P.underlying t=some (.array tys.length e)/\P.cellsOf t=tys.length/\P.cellsOf e=1/\∀ (j:Nat) (ty':Ty),tys[j]? =some ty'->I1 ty'=false/\(e,ty')∈L)
def Reps (P:Program) (U:Univ) (w:World) (ds:List (Datum U)) (us:List Value):Prop:=us.length=ds.length/\(∀ u∈us,u.oneCell'=true)/\∀ (j:Nat) (d:Datum U) (u:Value),ds[j]? =some d->us[j]? =some u->RepW P w d u
theorem aQ1 {cs:List Value} {j:Nat} (h:j<cs.length):∃ v,cs[j]? =some v/\(cs.drop j).take 1=[v]:=by refine ⟨cs[j],cv5 h,?_⟩;rw [List.drop_eq_getElem_cons h];rfl
theorem aQ2 {cs:List Value} {tys:List Ty} (hl:cs.length=tys.length) (h:∀ (j:Nat) (ty':Ty),tys[j]? =some ty'->∃ x:den U.T ty',∃ v,cs[j]? =some v/\v.oneCell'=true/\RepW P w ⟨ty',x⟩ v):
  ∃ xs:Dens U.T tys,Reps P U w (A8 U tys xs) cs:=by
 obtain ⟨c,hc⟩:=bn6 (U:=U) tys (λj d=>∃ v,cs[j]? =some v/\v.oneCell'=true/\RepW P w d v) h;refine ⟨c,by rw [G7,hl],λv f=>?_,λj dd u g b=>?_⟩
 .obtain ⟨j,a⟩:=List.mem_iff_getElem?.1 f;have e:j<tys.length:=by have:=(cv8.1 a).1;omega
  obtain ⟨x,v',h1,h2,_⟩:=h j _ (cv5 e);rw [a] at h1;simp only [cv3] at h1;rw [h1];exact h2
 .obtain ⟨v,h1,_,i⟩:=hc j dd g;rw [b] at h1;simp only [cv3] at h1;rw [h1];exact i
theorem ci8 {L:List (TypeId×Ty)} (M:bw6 P U L) {t:TypeId} {agg:Bool} {tys:List Ty} (Z:bZ3 P U L t agg tys) {v:Value} {d:DataW H} {p:List MemPlace} {r:Reach} {b0:Nat} (B:Value.okWide P w r b0 t v)
  (h:DataW.Trod enc P w base sp held t v d p) (N:∀ n∈d.weights P t,n<=reachBytes):∃ (xs:Dens U.T tys) (us:List Value),Reps P U w (A8 U tys xs) us/\(agg=false->us=[v])/\(agg=true->v=.agg us.toArray):=by
 obtain ⟨fuel,h⟩:=h;rcases Z with ⟨rfl,ty,rfl,y,hm⟩|⟨rfl,fs,y,hc,hfs,z⟩|⟨rfl,e,y,hc,O,Q⟩
 .have hcell:v.cells.toList=[v]:=by
   have g:=M t ty hm;cases ty with
   |int k=>obtain ⟨n,rfl⟩:=okWide_int g B;rfl
   |bool=>obtain ⟨n,rfl⟩:=okWide_bool g B;rfl
   |slice e t'=>obtain ⟨a,l,c,rfl⟩:=okWide_slice g.1 B;rfl
   |user i=>simp [I1] at y
   |str=>exact g.elim
   |map _ _=>exact g.elim
   |ifc _=>exact g.elim
  rw [hcell] at h;obtain ⟨x,h1,h2,h3⟩:=as3 M fuel hm h N;refine ⟨(x,()),[v],⟨rfl,h2,λj dd u hd R=>h3 j dd u ?_ R⟩,λ_=>rfl,λh=>by cases h⟩;rw [ag8 y];exact hd
 .obtain ⟨cs,rfl,S⟩:=okWide_struct y B;have h:DataW.trod enc P w base sp held fuel t cs.toList=some (d,p):=h;obtain ⟨xs,n,rfl,K,b,V,m⟩:=DataW.trod_struct y h;simp only [cw5] at K;obtain ⟨rfl,_⟩:=K;obtain ⟨c,C⟩:=aQ2 (U:=U) (w:=w) (cs:=cs.toList) (tys:=tys) (by rw [b,hc]) (λj ty' o=>by
   have A:j<tys.length:=(cv8.1 o).1;obtain ⟨f,D⟩:∃ f,fs[j]? =some f:=⟨_,cx0 (by omega)⟩;obtain ⟨ho,W,E,s⟩:=z j f ty' D o;have h1:=m j f D;rw [ho,W,cv5 (by omega)] at h1;obtain ⟨v,F,G⟩:=aQ1 (cs:=cs.toList) (j:=j) (by rw [b,hc];exact A);rw [G] at h1;obtain ⟨x,X,I,J⟩:=as3 M n (d:=xs[j].1) (p:=xs[j].2) s h1 (λq Y=>N q (by
    simp only [DataW.weights,y];exact ag9 (j:=j) (by simp;exact ⟨f,by simpa using D,rfl⟩) (by simp;exact ⟨xs[j].2,cv5 (by omega)⟩) Y))
   exact ⟨x,v,F,I v (by simp),J 0 ⟨ty',x⟩ v (by rw [ag8 E];rfl) rfl⟩)
  exact ⟨c,cs.toList,C,λh=>(by cases h),λ_=>by simp⟩
 .obtain ⟨cs,rfl,S⟩:∃ cs,v=.agg cs/\cs.size=P.cellsOf t:=by
   unfold Value.okWide at B;rw [y] at B;obtain ⟨cs,h1,h2,_⟩:=B;exact ⟨cs,h1,h2⟩
  have h:DataW.trod enc P w base sp held fuel t cs.toList=some (d,p):=h;obtain ⟨xs,n,rfl,K,b,V,m⟩:=DataW.trod_array y h;simp only [cw5] at K;obtain ⟨rfl,_⟩:=K;obtain ⟨c,C⟩:=aQ2 (U:=U) (w:=w) (cs:=cs.toList) (tys:=tys) (by rw [b,hc]) (λj ty' o=>by
   have A:j<tys.length:=(cv8.1 o).1;obtain ⟨E,s⟩:=Q j ty' o;have h1:=m j A;rw [O,Nat.mul_one,cv5 (by omega)] at h1;obtain ⟨v,F,G⟩:=aQ1 (cs:=cs.toList) (j:=j) (by rw [b,hc];exact A);rw [G] at h1;obtain ⟨x,X,I,J⟩:=as3 M n (d:=xs[j].1) (p:=xs[j].2) s h1 (λq Y=>N q (by
    simp only [DataW.weights,y];exact ao1 (List.mem_map.2 ⟨xs[j],List.getElem_mem _,rfl⟩) Y))
   exact ⟨x,v,F,I v (by simp),J 0 ⟨ty',x⟩ v (by rw [ag8 E];rfl) rfl⟩)
  exact ⟨c,cs.toList,C,λh=>(by cases h),λ_=>by simp⟩
abbrev ArgT:=TypeId×Bool×List Ty
def aW0 (A:List ArgT):List (Bool×Nat):=A.map λa=>(a.2.1,a.2.2.length)
def al3:List ArgT->List Ty
 |[]=>[]
 |a::r=>a.2.2++al3 r
def aW1:(a:List Ty)->{b:List Ty}->Dens U.T a->Dens U.T b->Dens U.T (a++b)
 |[],_,_,y=>y
 |_::a,_,x,y=>(x.1,aW1 a x.2 y)
theorem aQ3:∀ (a:List Ty) {b:List Ty} (x:Dens U.T a) (y:Dens U.T b),A8 U (a++b) (aW1 a x y)=A8 U a x++A8 U b y
 |[],_,_,_=>rfl
 |t::a,b,x,y=>by show _::A8 U (a++b) (aW1 a x.2 y)=_;rw [aQ3 a x.2 y];rfl
theorem Reps.app {c e:List (Datum U)} {f g:List Value} (h1:Reps P U w c f) (h2:Reps P U w e g):Reps P U w (c++e) (f++g):=by
 obtain ⟨h,i,k⟩:=h1;obtain ⟨l,m,n⟩:=h2;refine ⟨by simp [h,l],λu a=>(cy1.1 a).elim (i u) (m u),λj d u b a=>?_⟩;by_cases o:j<c.length
 .rw [cx4 o] at b;rw [cx4 (by omega)] at a;exact k j d u b a
 .rw [cx3 (by omega)] at b;rw [cx3 (by omega)] at a;exact n _ d u b (by rw [<-h];exact a)
theorem bw7 {L:List (TypeId×Ty)} (k:bw6 P U L) {r:Reach} {y:Nat}:∀ {A:List ArgT} {vs:List Value} {ds:List (DataW H)} {ps:List MemPlace},(∀ a∈A,bZ3 P U L a.1 a.2.1 a.2.2)->
  (∀ (j:Nat) (t:TypeId) (v:Value),(A.map (·.1))[j]? =some t->vs[j]? =some v->Value.okWide P w r y t v)->DataW.TrodAll enc P w base sp held (A.map (·.1)) vs ds ps->
  (∀ n∈DataW.weightsEach P (A.map (·.1)) ds,n<=reachBytes)->∃ (xs:Dens U.T (al3 A)) (us:List Value),Reps P U w (A8 U (al3 A) xs) us/\L4 (aW0 A) us vs
 |[],vs,ds,ps,_,_,h,_=>by cases vs<;>cases ds<;>simp [DataW.TrodAll] at h;exact ⟨(),[],⟨rfl,by simp,λj d u z=>by simp [A8,al3] at z⟩,rfl,rfl⟩
 |a::A,vs,ds,ps,l,m,h,o=>by
  cases vs with
  |nil=>cases ds<;>simp [DataW.TrodAll] at h
  |cons v vs=>
   cases ds with
   |nil=>simp [DataW.TrodAll] at h
   |cons d ds=>
    obtain ⟨p,q,h1,h2,_⟩:=h;obtain ⟨B,e,s,C,D⟩:=ci8 k (l a (by simp)) (m 0 _ v rfl rfl) h1 (λn f=>o n (by simp only [List.map_cons,DataW.weightsEach,cy1];exact .inl f));obtain ⟨E,g,F,x⟩:=bw7 k (A:=A) (λb G=>l b (by simp [G])) (λj t v' I i=>m (j+1) t v' (by simpa using I) (by simpa using i)) h2 (λn f=>o n (by simp only [List.map_cons,DataW.weightsEach,cy1];exact .inr f));refine ⟨aW1 a.2.2 B E,e++g,?_,?_⟩
    .show Reps P U w (A8 U (a.2.2++al3 A) _) _;rw [aQ3];exact s.app F
    .obtain ⟨t,ag,tys⟩:=a;have c:e.length=tys.length:=by rw [s.1,G7]
     cases ag with
     |true=>exact ⟨e,g,v,vs,rfl,c,D rfl,rfl,x⟩
     |false=>have J:=C rfl;subst J;exact ⟨v,g,vs,rfl,by simpa using c.symm,rfl,x⟩
theorem bN7 {G:List (Nat×Glob)} {f:FuncId} {A:List ArgT} {pre:Option (Dens U.T (al3 A)->Prop)}
  (hg:C9 P G f (Con.flat (U:=U) (aW0 A) (al3 A) [(false,1)] [.bool] [false] pre λ_=>(true,())))
  (a:∀ g fs,(g,fs)∈G->g<w.heap.size/\∀ i f,fs.cell i=some f->w.cell? ⟨g,i,none⟩=some f)
  {xs:Dens U.T (al3 A)} {us vs:List Value} (hr:Reps P U w (A8 U (al3 A) xs) us) (L:L4 (aW0 A) us vs) (m:holds (pre.map λp=>p xs)):
  Calls P f vs.toArray w λe w'=>e=.returned (.bool true)/\Go.RowKit.Below w.heap.size w w':=by
 let F:Fr:=⟨w.heap.size,w,λ_=>False,λ_=>False,λ_=>none,G⟩
 let β:Nm:=⟨λ_=>undef,λ_=>False,λ_=>default⟩
 have x:Ok F w β (F4 (A8 U (al3 A) xs) ([]:List OPat)):=
  ⟨Go.RowKit.Below.refl _ _,Nat.le_refl _,λid o hl=>by simp [F4,iOs,look] at hl,λid o _ _ _ hl=>by simp [F4,iOs,look] at hl,λ_ _ _=>rfl,λid o _ hl=>by simp [F4,iOs,look] at hl,λid o _ hl=>by simp [F4,iOs,look] at hl,
   λ_ h=>h.elim,rfl,λid o _ hl=>by simp [F4,iOs,look] at hl,λid v h=>(by cases h),λg fs hm=>⟨(a g fs hm).1,λh=>h,(a g fs hm).2⟩⟩
 have d:∀ b,Live β (F4 (A8 U (al3 A) xs) ([]:List OPat)) b->False:=by
  rintro b (h|⟨id,o,h,_⟩)
  .exact h
  .simp [F4,iOs,look] at h
 obtain ⟨n,y,z⟩:=hr;have B:CsRel w β (F4 (A8 U (al3 A) xs) ([]:List OPat)) ((ad7 0 (al3 A).length).map (iC (A8 U (al3 A) xs) oid (λ_=>0))) us:=by
  refine ⟨by simp [ag7,n,G7],y,λj c u q H=>?_⟩;have s:j<(al3 A).length:=by have:=(cv8.1 H).1;rw [n,G7] at this;exact this
  simp only [cw8,ay7 s,Option.map_some,cv3,Nat.zero_add] at q;obtain ⟨dd,I⟩:∃ dd,(A8 U (al3 A) xs)[j]? =some dd:=⟨_,cv5 (by rw [G7];exact s)⟩;simp only [iC,I] at q;subst q;exact (z j dd u I H).1.mono (Nat.le_refl _) (λ_ _ _=>rfl) (λb _ C=>d b C)
 have l:=(hg F).2 xs m F (λh=>absurd rfl h) β w us vs rfl rfl x (λj p q=>by simp [Con.flat] at q) (λid v h=>by cases h) B L;refine (CallsIn.calls (F:=fen P none) l (λk=>by simp [Fence.room,fen])).mono λe w' D=>?_;cases e with
 |panicked ch=>obtain ⟨b,u,C,_⟩:=D;cases C
 |outgrown=>exact D.elim
 |returned v=>
  obtain ⟨_,β',rs,K,t,E⟩:=D;refine ⟨?_,K.bel⟩;obtain ⟨c,r,vs',M,_,J,N,O⟩:=t;subst M;subst N;subst O;simp only [List.cons.injEq] at J;obtain ⟨rfl,_⟩:=J;have h0:Rep U w' (Live β' (F4 (A8 U [.bool] (true,())) (bw5 [false] 0))) (⟨.bool,true⟩:Datum U) v:=E.2.2 0 _ _ rfl rfl;have:v=.bool true:=by cases h0;rfl
  rw [this]
end
end Go.VT
end
section
namespace Go.Rg
open Go
structure Ins where
 op:Int
 n:Int
 to:List Int
 from_:List Int
 body:List Ins
structure RIns where
 kind:Int
 slot:Int
 cell:Int
 ins:Ins
structure Place where
 cell:Bool
 n:Int
 deriving DecidableEq
structure Span where
 first:Int
 last:Int
 deriving DecidableEq
structure Held where
 slot:Int
 reg:Int
 next:Int
 deriving DecidableEq
structure VFun where
 params:Int
 code:List Ins
 out:List Int
 at_:List Int
structure RCode where
 params:Int
 slots:Int
 cells:Int
 code:List RIns
 out:List Place
def ins0:Ins:=⟨0,0,[],[],[]⟩
def rins0:RIns:=⟨0,0,0,ins0⟩
def bB9:VFun:=⟨0,[],[],[]⟩
def aH6:RCode:=⟨0,0,0,[],[]⟩
def place0:Place:=⟨false,0⟩
def lies (n lo hi:Int):Bool:=decide (lo<=n)&&decide (n<=hi)
def at_ (l:List Int) (i:Int):Int:=l.getD i.toNat 0
mutual
def insB:Ins->Ins->Bool
 |⟨o,n,t,f,b⟩,⟨o',n',t',f',b'⟩=>decide (o=o')&&decide (n=n')&&decide (t=t')&&decide (f=f')&&X7 b b'
def X7:List Ins->List Ins->Bool
 |[],[]=>true
 |x::r,y::r'=>insB x y&&X7 r r'
 |_,_=>false
end
mutual
theorem bn7:∀ {x y:Ins},insB x y=true->x=y
 |⟨o,n,t,f,b⟩,⟨o',n',t',f',b'⟩,h=>by simp only [insB,cv6,cx6] at h;obtain ⟨⟨⟨⟨rfl,rfl⟩,rfl⟩,rfl⟩,h5⟩:=h;rw [aW2 h5]
theorem aW2:∀ {x y:List Ins},X7 x y=true->x=y
 |[],[],_=>rfl
 |x::r,y::r',h=>by simp only [X7,cv6] at h;rw [bn7 h.1,aW2 h.2]
 |[],_::_,h=>by simp [X7] at h
 |_::_,[],h=>by simp [X7] at h
end
mutual
theorem aH7:∀ (x:Ins),insB x x=true
 |⟨o,n,t,f,b⟩=>by simp [insB,av6 b]
theorem av6:∀ (x:List Ins),X7 x x=true
 |[]=>rfl
 |x::r=>by simp [X7,aH7 x,av6 r]
end
theorem bw8 {x y:Ins}:insB x y=true<->x=y:=⟨bn7,λh=>h▸aH7 x⟩
theorem aH8 {x y:List Ins}:X7 x y=true<->x=y:=⟨aW2,λh=>h▸av6 x⟩
instance:DecidableEq Ins:=λx y=>if h:insB x y=true then .isTrue (bn7 h) else .isFalse (λe=>h (bw8.2 e))
 deriving instance DecidableEq for RIns
 deriving instance DecidableEq for VFun
 deriving instance DecidableEq for RCode
mutual
def insN:Ins->Nat
 |⟨_,_,_,_,b⟩=>as4 b+1
def as4:List Ins->Nat
 |[]=>0
 |x::r=>insN x+as4 r+1
end
mutual
def al4:Ins->Bool
 |⟨_,_,t,f,b⟩=>(decide (t.length<=17592186044416)&&decide (f.length<=17592186044416)&&decide (b.length<=1599289640354))&&G6 b
def G6:List Ins->Bool
 |[]=>true
 |x::r=>al4 x&&G6 r
end
def G8:List Int->Int->Int
 |[],_=>-1
 |x::r,n=>if x=n then 0 else if G8 r n<0 then -1 else G8 r n+1
def T6:List Int->Int->List Int
 |[],n=>[n]
 |x::r,n=>if x=n then x::r else if n<x then n::x::r else x::T6 r n
def C8 (l m:List Int):List Int:=m.foldl T6 l
def wr (code:List Ins):List Int:=code.flatMap (·.to)
def T7 (n:Int):Bool:=lies n 0 3999
def D6:List Int->Bool
 |[]=>true
 |x::r=>!r.contains x&&D6 r
def D3 (params:Int):List Int->List Ins->Bool
 |_,[]=>true
 |w,x::r=>(x.from_.all λn=>decide (n<params)||w.contains n)&&D3 params (w++x.to) r
def C1 (f:VFun):Int:=
 if 4000<f.code.length then 3
 else if !(lies f.params 0 4000&&f.out.all T7&&f.code.all λx=>x.to.all T7&&x.from_.all T7) then 2
 else if !(D6 (wr f.code)&&(wr f.code).all λn=>decide (f.params<=n)) then 5
 else if !(D3 f.params [] f.code&&f.out.all λn=>decide (n<f.params)||(wr f.code).contains n) then 4 else 0
def am1 (x:Ins) (l:List Int):List Int:=(l.filter λn=>!x.to.contains n).foldl T6 (C8 [] x.from_)
def E6:List Ins->List Int->List (List Int)
 |[],out=>[C8 [] out]
 |x::r,out=>am1 x ((E6 r out).headD [])::E6 r out
def Q5 (f:VFun):List (List Int)×Int:=if C1 f≠0 then ([],C1 f) else (E6 f.code f.out,0)
def X0 (f:VFun):Int×Int:=
 if C1 f≠0 then (0,C1 f)
 else (((E6 f.code f.out).tail.zip f.code).foldl (λm p=>max m ((C8 p.1 p.2.to).length:Int)) (((E6 f.code f.out).headD []).length:Int),0)
def E5 (params:Int) (w:List Int) (n:Int):Int:=if n<params then n else params+G8 w n
def D0 (f:VFun):VFun×Int:=
 if C1 f≠0 then (bB9,C1 f)
 else (⟨f.params,f.code.map λx=>⟨x.op,x.n,x.to.map (E5 f.params (wr f.code)),x.from_.map (E5 f.params (wr f.code)),x.body⟩,f.out.map (E5 f.params (wr f.code)),[]⟩,0)
def aH9 (c:RCode):Int×Int:=(c.code.foldl (λn x=>if x.kind=1 then n+1 else n) 0,c.code.foldl (λn x=>if x.kind=2 then n+1 else n) 0)
end Go.Rg
end
section
namespace Go.Rg
open Go Go.VT
abbrev i64:Ty:=.int .i64
abbrev ints:Ty:=.slice 3 i64
abbrev inss:Ty:=.slice 52 (.user 0)
abbrev aW3:Ty:=.slice 55 (.user 1)
abbrev ay8:Ty:=.slice 59 (.user 2)
abbrev cq6:Ty:=.slice 131 (.user 4)
abbrev bN8:Ty:=.slice 23 ints
abbrev mapB:Ty:=.map i64 .bool
abbrev mapI:Ty:=.map i64 i64
abbrev mapS:Ty:=.map i64 (.user 3)
abbrev mapP:Ty:=.map (.user 2) i64
def RU:Univ where
 T:=λi=>match i with|0=>Ins|1=>RIns|2=>Place|3=>Span|4=>Held|5=>VFun|6=>RCode|_=>Unit
 dflt:=λi=>match i with|0=>ins0|1=>rins0|2=>place0|3=>⟨0,0⟩|4=>⟨0,0,0⟩|5=>bB9|6=>aH6|_+7=>()
 fields:=λi=>match i with
  |0=>[i64,i64,ints,ints,inss]
  |1=>[i64,i64,i64,i64,i64,ints,ints,inss]
  |2=>[.bool,i64]
  |3=>[i64,i64]
  |4=>[i64,i64,i64]
  |5=>[i64,inss,ints,ints]
  |6=>[i64,i64,i64,aW3,ay8]
  |_+7=>[]
 get:=λi=>match i with
  |0=>λ(x:Ins)=>(x.op,x.n,x.to,x.from_,x.body,())
  |1=>λ(x:RIns)=>(x.kind,x.slot,x.cell,x.ins.op,x.ins.n,x.ins.to,x.ins.from_,x.ins.body,())
  |2=>λ(x:Place)=>(x.cell,x.n,())
  |3=>λ(x:Span)=>(x.first,x.last,())
  |4=>λ(x:Held)=>(x.slot,x.reg,x.next,())
  |5=>λ(x:VFun)=>(x.params,x.code,x.out,x.at_,())
  |6=>λ(x:RCode)=>(x.params,x.slots,x.cells,x.code,x.out,())
  |_+7=>λ_=>()
 put:=λi=>match i with
  |0=>λc=>(⟨c.1,c.2.1,c.2.2.1,c.2.2.2.1,c.2.2.2.2.1⟩:Ins)
  |1=>λc=>(⟨c.1,c.2.1,c.2.2.1,⟨c.2.2.2.1,c.2.2.2.2.1,c.2.2.2.2.2.1,c.2.2.2.2.2.2.1,c.2.2.2.2.2.2.2.1⟩⟩:RIns)
  |2=>λc=>(⟨c.1,c.2.1⟩:Place)
  |3=>λc=>(⟨c.1,c.2.1⟩:Span)
  |4=>λc=>(⟨c.1,c.2.1,c.2.2.1⟩:Held)
  |5=>λc=>(⟨c.1,c.2.1,c.2.2.1,c.2.2.2.1⟩:VFun)
  |6=>λc=>(⟨c.1,c.2.1,c.2.2.1,c.2.2.2.1,c.2.2.2.2.1⟩:RCode)
  |_+7=>λ_=>()
 get_put:=λi=>match i with|0=>λ_=>rfl|1=>λ_=>rfl|2=>λ_=>rfl|3=>λ_=>rfl|4=>λ_=>rfl|5=>λ_=>rfl|6=>λ_=>rfl|_+7=>λ_=>rfl
abbrev prog:Program:=Go.Proofs.Tryd.prog
def ci9:List (TypeId×Ty):=[(3,i64),(4,.bool),(32,i64),(23,ints),(52,.user 0),(55,.user 1),(59,.user 2),(107,.user 3),(131,.user 4),(25,.user 5),(31,.user 6)]
def RG:List (Nat×Glob):=[(0,⟨[],[.bool true,.int .i64 (-1)]⟩),(1,⟨[],[.int .i64 0,.int .i64 (-1)]⟩)]
def EV (l:List (FuncId×Con RU)):Env RU:=⟨prog,aV9 ci9,as2 l,RG,λ_ _=>[],λ_ _=>[],[],none,λ_=>[],true,[]⟩
def EVd (dp:List (TypeId×List Nat)) (it:FuncId->List (Con RU×Con RU×List (Nat×Nat))) (l:List (FuncId×Con RU)):Env RU:=⟨prog,aV9 ci9,as2 l,RG,λ_ _=>[],λ_ _=>[],[],none,it,true,dp⟩
def EVy (yl:List (Nat×Nat)) (Y:Option (Con RU)) (l:List (FuncId×Con RU)):Env RU:=⟨prog,aV9 ci9,as2 l,RG,λ_ _=>[],λ_ _=>[],yl,Y,λ_=>[],true,[]⟩
theorem fits (l:List (FuncId×Con RU)):(EV l).Fits:=bn5 (by kernel_rfl)
theorem cq7 (dp it l):(EVd dp it l).Fits:=bn5 (by kernel_rfl)
theorem bZ4 (yl Y) (l:List (FuncId×Con RU)):(EVy yl Y l).Fits:=bn5 (by kernel_rfl)
theorem bn8:prog.follows .mixedOrders=true:=by kernel_rfl
def noL:Nat->St RU->Ann RU:=λ_ _=>⟨[],[],[],λ_=>False,λ_=>0,[]⟩
def noIt:FuncId->List (Con RU×Con RU×List (Nat×Nat)):=λ_=>[]
abbrev con (args:List (Bool×Nat)) (params:List Ty) (res:List (Bool×Nat)) (tys:List Ty) (own:List Bool) (pre:Option (Dens RU.T params->Prop)) (fn:Dens RU.T params->Dens RU.T tys):Con RU:=
 Con.flat args params res tys own pre fn
abbrev one:Bool×Nat:=(false,1)
theorem E8 {l:List (FuncId×Con RU)} (hl:∀ x∈l,C9 prog RG x.1 x.2) {f:FuncId} {fn:Func} {k:Con RU} (L:Dens RU.T k.params->Nat->St RU->Ann RU) (hf:prog.funcs[f]? =some fn) (b:(fn.name=="runtime.NumGoroutine")=false) (c:fn.body.isNone=false)
  (h:∀ xs,holds (k.pre.map λp=>p xs)->vc (EV l) (L xs) fn k xs) (a:k.yl=[]:=by rfl):C9 prog RG f k:=
 λY=>ak2 (E:=EV l) (fits l) ⟨Z2 (λx d=>hl x d Y),λ_ _ _ _ _ h=>(by cases h),λ_ _ _ h=>(by cases h),λ_ h=>(by cases h),λ_ _ _ _ h=>(by cases h)⟩ bn8 hf b L h c a
def ItOk (it:FuncId->List (Con RU×Con RU×List (Nat×Nat))):Prop:=∀ f k kY mp,(k,kY,mp)∈it f->∀ Y',GivesC Y' (runY prog) RG kY->ae3 Y' prog RG f k
theorem bN9:ItOk noIt:=λ_ _ _ _ h=>by cases h
theorem bw9 {dp it} (b:ItOk it) {l:List (FuncId×Con RU)} (hl:∀ x∈l,C9 prog RG x.1 x.2) {f:FuncId} {fn:Func} {k:Con RU} (L:Dens RU.T k.params->Nat->St RU->Ann RU) (hf:prog.funcs[f]? =some fn) (c:(fn.name=="runtime.NumGoroutine")=false) (d:fn.body.isNone=false)
  (h:∀ xs,holds (k.pre.map λp=>p xs)->vc (EVd dp it l) (L xs) fn k xs) (a:k.yl=[]:=by rfl):C9 prog RG f k:=
 λY=>ak2 (E:=EVd dp it l) (cq7 dp it l) ⟨Z2 (λx e=>hl x e Y),λ_ _ _ _ _ h=>(by cases h),λ_ _ _ h=>(by cases h),λ_ h=>(by cases h),b⟩ bn8 hf c L h d a
theorem bO0 {dp it} (b:ItOk it) {l:List (FuncId×Con RU)} (hl:∀ x∈l,C9 prog RG x.1 x.2) {f:FuncId} {fn:Func} {k:Con RU} (m:Dens RU.T k.params->Nat) (L:Dens RU.T k.params->Nat->St RU->Ann RU) (hf:prog.funcs[f]? =some fn) (c:(fn.name=="runtime.NumGoroutine")=false) (d:fn.body.isNone=false)
  (h:∀ xs,holds (k.pre.map λp=>p xs)->vc ((EVd dp it l).set f (k.below m (m xs))) (L xs) fn k xs) (a:k.yl=[]:=by rfl):C9 prog RG f k:=
 λY=>bf1 (E:=EVd dp it l) (cq7 dp it l) ⟨Z2 (λx e=>hl x e Y),λ_ _ _ _ _ h=>(by cases h),λ_ _ _ h=>(by cases h),λ_ h=>(by cases h),b⟩ bn8 hf c m L h d a
theorem B9:∀ x∈([]:List (FuncId×Con RU)),C9 prog RG x.1 x.2:=by simp
theorem A7 {f:FuncId} {k:Con RU} {r:List (FuncId×Con RU)} (h:C9 prog RG f k) (hr:∀ x∈r,C9 prog RG x.1 x.2):∀ x∈(f,k)::r,C9 prog RG x.1 x.2:=by
 intro x a;rcases List.mem_cons.1 a with h1|h1
 .subst h1;exact h
 .exact hr x h1
abbrev ay9:List Ty:=[i64,i64,ints,ints,inss]
abbrev as5:List Ty:=[i64,inss,ints,ints]
abbrev bO1:List Ty:=[i64,i64,i64,aW3,ay8]
end Go.Rg
end
section
namespace Go.Rg
open Go
theorem F9 {n:Int} (h1:-9223372036854775808<=n) (h2:n<9223372036854775808):IntKind.i64.wrap n=n:=by rw [IntKind.wrap_i64];omega
theorem B5 {k m:Nat} (h:k<m) (hm:m<=140737488355328):IntKind.i64.wrap ((k:Int)+1)=((k+1:Nat):Int):=by rw [F9 (by omega) (by omega)];rfl
theorem A4 {α:Type} {l:List α} {i:Nat} (h:i<l.length) (d:α):l.take (i+1)=l.take i++[l.getD i d]:=by rw [List.take_succ_eq_append_getElem h];simp [List.getD,cv5 h]
theorem H4 {α:Type} {l:List α} {i:Nat} (h:i<l.length) (d:α):l.getD i d∈l:=by rw [cw7,cv5 h];exact List.getElem_mem h
theorem aI0 {α:Type} {l m:List α} {b:Bool} {k:Nat} (h1:k<=l.length) (c:b=true<->(l.length=m.length/\l.take k=m.take k)) (a:b=false\/¬ k<l.length):b=true<->l=m:=by
 constructor
 .intro h;obtain ⟨e,d⟩:=c.1 h;have f:k=l.length:=by
   rcases a with a|a
   .rw [a] at h;cases h
   .omega
  subst f;rw [cy3,e,cy3] at d;exact d
 .rintro rfl;exact c.2 ⟨rfl,rfl⟩
theorem aI1 {α:Type} {l m:List α} {k:Nat} (d:α) (hl:k<l.length) (hm:k<m.length):l.take (k+1)=m.take (k+1)<->l.take k=m.take k/\l.getD k d=m.getD k d:=by
 rw [A4 hl d,A4 hm d];constructor
 .intro h;have:=List.append_inj h (by simp;omega);exact ⟨this.1,by simpa using this.2⟩
 .rintro ⟨h1,h2⟩;rw [h1,h2]
theorem aW4:∀ {l:List Int} {n:Int} {m:Nat},m<l.length->(∀ i:Nat,i<m->l.getD i 0≠n)->l.getD m 0=n->G8 l n=m
 |x::r,n,0,_,_,h2=>by simp [G8] at h2 |-;simp [h2]
 |x::r,n,m+1,hm,h1,h2=>by
  have a:x≠n:=by simpa using h1 0 (by omega)
  have:=aW4 (l:=r) (n:=n) (m:=m) (by simpa using hm) (λi b=>by simpa using h1 (i+1) (by omega)) (by simpa using h2);simp only [G8,if_neg a,this];rw [if_neg (by omega)];rfl
theorem aQ4:∀ {l:List Int} {n:Int},(∀ i:Nat,i<l.length->l.getD i 0≠n)->G8 l n=-1
 |[],n,_=>rfl
 |x::r,n,h=>by
  have a:x≠n:=by simpa using h 0 (by simp)
  have:=aQ4 (l:=r) (n:=n) (λi b=>by simpa using h (i+1) (by simpa using b));simp [G8,if_neg a,this]
theorem bf2 {l:List Int} {n:Int}:0<=G8 l n<->n∈l:=by
 induction l with
 |nil=>simp [G8]
 |cons x r ih=>
  simp only [G8,List.mem_cons];by_cases a:x=n
  .simp [a]
  .rw [if_neg a];split
   .rename_i h;have h1:¬ n∈r:=λb=>by have:=ih.2 b;omega
    simp [h1,Ne.symm a]
   .rename_i h;have h1:n∈r:=ih.1 (by omega);simp [h1];omega
def N6:List Int->Int->List Int×Bool
 |[],n=>([],false)
 |x::r,n=>if x<n then (x::(N6 r n).1,(N6 r n).2) else if x=n then (x::r,true) else (n::x::r,true)
theorem bf3:∀ (l:List Int) (n:Int),T6 l n=bif (N6 l n).2 then (N6 l n).1 else (N6 l n).1++[n]
 |[],n=>rfl
 |x::r,n=>by
  simp only [T6,N6];by_cases h1:x=n
  .subst h1;simp
  .by_cases h2:n<x
   .simp [h1,h2,show ¬ x<n by omega]
   .simp only [h1,h2,if_false,if_pos (show x<n by omega),bf3 r n];cases (N6 r n).2<;>simp
theorem aQ5:∀ (l:List Int) (x n:Int),N6 (l++[x]) n=bif (N6 l n).2 then ((N6 l n).1++[x],true) else if x<n then ((N6 l n).1++[x],false) else if x=n then ((N6 l n).1++[x],true) else ((N6 l n).1++[n,x],true)
 |[],x,n=>by simp [N6]
 |y::r,x,n=>by
  simp only [List.cons_append,N6,aQ5 r x n];by_cases h1:y<n
  .simp only [h1,if_true];cases (N6 r n).2
   .simp only [cond_false];split
    .rfl
    .split<;>rfl
   .rfl
  .by_cases h2:y=n
   .simp [h1,h2]
   .simp [h1,h2]
theorem az0:∀ (l:List Int) (n:Int),(N6 l n).1.length=l.length+(bif (N6 l n).2 then (N6 l n).1.length-l.length else 0)/\(N6 l n).1.length<=l.length+1/\l.length<=(N6 l n).1.length
 |[],n=>by simp [N6]
 |x::r,n=>by
  obtain ⟨h1,h2,a⟩:=az0 r n;simp only [N6];split
  .simp only [cw9];cases hc:(N6 r n).2<;>simp [hc] at h1 |-<;>omega
  .split<;>simp
theorem bf4 (l:List Int) (n:Int):(T6 l n).length<=l.length+1:=by
 induction l with
 |nil=>simp [T6]
 |cons x r ih=>
  simp only [T6];split
  .simp
  .split
   .simp
   .simp;exact ih
theorem aI2 {l:List Int} {n x:Int}:x∈T6 l n<->x=n\/x∈l:=by
 induction l with
 |nil=>simp [T6]
 |cons y r ih=>
  simp only [T6];split
  .rename_i h;subst h;simp
  .split
   .simp
   .simp [ih];constructor
    .rintro (h|h|h)<;>simp [h]
    .rintro (h|h|h)<;>simp [h]
theorem am2 (l m:List Int):(C8 l m).length<=l.length+m.length:=by
 unfold C8
 induction m generalizing l with
 |nil=>simp
 |cons x r ih=>simp only [List.foldl_cons,cw9];have:=ih (T6 l x);have:=bf4 l x;omega
theorem O3 {l m:List Int} {x:Int}:x∈C8 l m<->x∈l\/x∈m:=by
 unfold C8
 induction m generalizing l with
 |nil=>simp
 |cons y r ih=>
  simp only [List.foldl_cons,ih,aI2,List.mem_cons];constructor
  .rintro ((h|h)|h)<;>simp [h]
  .rintro (h|h|h)<;>simp [h]
theorem bf5 (l m:List Int) (x:Int):C8 l (m++[x])=T6 (C8 l m) x:=by simp [C8]
def incr (l:List Int):Prop:=l.Pairwise (·<·)
theorem aQ6 {l:List Int} (h:incr l) (n:Int):incr (T6 l n):=by
 induction l with
 |nil=>simp [T6,incr]
 |cons x r ih=>
  obtain ⟨h1,h2⟩:=List.pairwise_cons.1 h;simp only [T6];split
  .exact h
  .split
   .rename_i b;refine List.pairwise_cons.2 ⟨λy a=>?_,h⟩;rcases List.mem_cons.1 a with rfl|a
    .exact b
    .have:=h1 y a;omega
   .refine List.pairwise_cons.2 ⟨λy a=>?_,ih h2⟩;rcases aI2.1 a with rfl|a
    .omega
    .exact h1 y a
theorem ah0 {l:List Int} (h:incr l) (m:List Int):incr (C8 l m):=by
 unfold C8
 induction m generalizing l with
 |nil=>exact h
 |cons y r ih=>exact ih (aQ6 h y)
theorem bx0:∀ {l m:List Int},incr l->incr m->(∀ x,x∈l<->x∈m)->l=m
 |[],[],_,_,_=>rfl
 |[],y::_,_,_,h=>by have:=(h y).2 (by simp);simp at this
 |x::_,[],_,_,h=>by have:=(h x).1 (by simp);simp at this
 |x::r,y::r',h1,h2,h=>by
  obtain ⟨f,i⟩:=List.pairwise_cons.1 h1;obtain ⟨g,j⟩:=List.pairwise_cons.1 h2;have d:x=y:=by
   have a:=(h x).1 (by simp);have b:=(h y).2 (by simp);rcases List.mem_cons.1 a with a|a
   .exact a
   .rcases List.mem_cons.1 b with b|b
    .exact b.symm
    .have:=f y b;have:=g x a;omega
  subst d;rw [bx0 i j (λz=>?_)];have e:=h z;simp only [List.mem_cons] at e;constructor
  .intro hm;have:=f z hm;rcases e.1 (.inr hm) with c|c
   .omega
   .exact c
  .intro hm;have:=g z hm;rcases e.2 (.inr hm) with c|c
   .omega
   .exact c
end Go.Rg
end
section
namespace Go.Rg
open Go Go.VT
def cEqual:Con RU:=con [one,one] [ints,ints] [one] [.bool] [false] none λp=>(decide (p.1=p.2.1),())
def bO2 (l m:List Int):Nat->St RU->Ann RU:=λ_ _=>⟨[],[.slot 6,.slot 5],[i64,.bool],λp=>0<=p.1/\p.1<=l.length/\p.2.1=(decide (l.length=m.length)&&decide (l.take p.1.toNat=m.take p.1.toNat)),λp=>l.length-p.1.toNat,[]⟩
def cEqualLists:Con RU:=con [one,one] [bN8,bN8] [one] [.bool] [false] none λp=>(decide (p.1=p.2.1),())
def ao2 (l m:List (List Int)):Nat->St RU->Ann RU:=λ_ _=>⟨[],[.slot 6,.slot 5],[i64,.bool],λp=>0<=p.1/\p.1<=l.length/\p.2.1=(decide (l.length=m.length)&&decide (l.take p.1.toNat=m.take p.1.toNat)),λp=>l.length-p.1.toNat,[]⟩
def cPut:Con RU:=con [one,one] [ints,i64] [one] [ints] [false] (some λp=>p.1.length<=17592186044400) λp=>(T6 p.1 p.2.1,())
def lPut (l:List Int) (n:Int):Nat->St RU->Ann RU:=λ_ _=>⟨[5],[.slot 7,.slot 6,.row 512],[i64,.bool,ints],λp=>0<=p.1/\p.1<=l.length/\p.2.1=(N6 (l.take p.1.toNat) n).2/\p.2.2.1=(N6 (l.take p.1.toNat) n).1,λp=>l.length-p.1.toNat,[]⟩
def cCopyD:Con RU:=con [one] [ints] [one] [ints] [false] (some λp=>p.1.length<=17592186044416) λp=>(p.1,())
def cUnion:Con RU:=con [one,one] [ints,ints] [one] [ints] [false] (some λp=>p.1.length+p.2.1.length<=17592186044400) λp=>(C8 p.1 p.2.1,())
def bO3 (l m:List Int):Nat->St RU->Ann RU:=λ_ _=>⟨[],[.slot 6,.slot 5],[i64,ints],λp=>0<=p.1/\p.1<=m.length/\p.2.1=C8 l (m.take p.1.toNat),λp=>m.length-p.1.toNat,[]⟩
def cSameIns:Con RU:=con [(true,5),(true,5)] [i64,i64,ints,ints,inss,i64,i64,ints,ints,inss] [one] [.bool] [false] none λp=>(insB ⟨p.1,p.2.1,p.2.2.1,p.2.2.2.1,p.2.2.2.2.1⟩ ⟨p.2.2.2.2.2.1,p.2.2.2.2.2.2.1,p.2.2.2.2.2.2.2.1,p.2.2.2.2.2.2.2.2.1,p.2.2.2.2.2.2.2.2.2.1⟩,())
def cSameCode:Con RU:=con [one,one] [inss,inss] [one] [.bool] [false] none λp=>(X7 p.1 p.2.1,())
def V6:Dens RU.T cSameIns.params->Nat:=λp=>as4 p.2.2.2.2.1+1
def P9:Dens RU.T cSameCode.params->Nat:=λp=>as4 p.1 
def aI3 (l m:List Ins):Nat->St RU->Ann RU:=λ_ _=>⟨[],[.slot 6,.slot 5],[i64,.bool],λp=>0<=p.1/\p.1<=l.length/\p.2.1=(decide (l.length=m.length)&&X7 (l.take p.1.toNat) (m.take p.1.toNat)),λp=>l.length-p.1.toNat,[]⟩
def cSameVec:Con RU:=con [(true,4),(true,4)] [i64,inss,ints,ints,i64,inss,ints,ints] [one] [.bool] [false] none λp=>(decide (p.1=p.2.2.2.2.1)&&X7 p.2.1 p.2.2.2.2.2.1&&decide (p.2.2.1=p.2.2.2.2.2.2.1)&&decide (p.2.2.2.1=p.2.2.2.2.2.2.2.1),())
theorem bZ5 (l:List Int):vc (EV []) noL Go.Proofs.Tryd.f70 cCopyD (l,())=(Small RU (Sigma.mk (Ty.slice (3:Nat) (Ty.int IntKind.i64)) l)->(List.length ([]:List Int)+List.length l)*(8:Nat)<=(140737488355328:Nat)/\([]++l,())=(l,())):=by kernel_rfl
theorem bZ6 (l m:List Int):vc (EV []) (bO2 l m) Go.Proofs.Tryd.f34 cEqual (l,m,())=(let b:Int:=(↑(List.length l):Int);
  Small RU (Sigma.mk (Ty.slice (3:Nat) (Ty.int IntKind.i64)) l)->
  Small RU (Sigma.mk (Ty.slice (3:Nat) (Ty.int IntKind.i64)) m)->
  (∃ (p:Int×Bool×Unit),
  l=l/\
  m=m/\
  false=false/\
  (0:Int)=p.1/\
  (b==(↑(List.length m):Int))=p.2.1/\
  (0:Int)<=p.1/\p.1<=b/\p.2.1=(decide (List.length l=List.length m)&&decide (List.take (Int.toNat p.1) l=List.take (Int.toNat p.1) m)))/\
  ∀ (p:Int×Bool×Unit),
 let e0_1:Bool:=p.2.1&&decide (p.1<b);
 let a:Int:=p.1;
 let c:Bool:=decide (List.length l=List.length m);
  (0:Int)<=a/\a<=b/\p.2.1=(c&&decide (List.take (Int.toNat a) l=List.take (Int.toNat a) m))->
  (e0_1=true->
  ((0:Int)<=a/\a<b)/\
  ((0:Int)<=a/\a<(↑(List.length m):Int))/\
  ∃ (p':Int×Bool×Unit),
  l=l/\
  m=m/\
  false=false/\
  IntKind.i64.wrap (a+(1:Int))=p'.1/\
  (List.getD l (Int.toNat a) (0:Int)==List.getD m (Int.toNat a) (0:Int))=p'.2.1/\
  ((0:Int)<=p'.1/\p'.1<=b/\p'.2.1=(c&&decide (List.take (Int.toNat p'.1) l=List.take (Int.toNat p'.1) m)))/\
  List.length l-Int.toNat p'.1<List.length l-Int.toNat a)/\
  (e0_1=false->(p.2.1,())=(decide (l=m),()))):=by kernel_rfl
theorem aW5 (l m:List (List Int)):vc (EV [(34,cEqual)]) (ao2 l m) Go.Proofs.Tryd.f43 cEqualLists (l,m,())=(let b:Int:=(↑(List.length l):Int);
  Small RU (Sigma.mk (Ty.slice (23:Nat) (Ty.slice (3:Nat) (Ty.int IntKind.i64))) l)->
  Small RU (Sigma.mk (Ty.slice (23:Nat) (Ty.slice (3:Nat) (Ty.int IntKind.i64))) m)->
  (∃ (p:Int×Bool×Unit),
  l=l/\
  m=m/\
  false=false/\
  (0:Int)=p.1/\
  (b==(↑(List.length m):Int))=p.2.1/\
  (0:Int)<=p.1/\p.1<=b/\p.2.1=(decide (List.length l=List.length m)&&decide (List.take (Int.toNat p.1) l=List.take (Int.toNat p.1) m)))/\
  ∀ (p:Int×Bool×Unit),
 let e0_1:Bool:=p.2.1&&decide (p.1<b);
 let a:Int:=p.1;
 let c:Bool:=decide (List.length l=List.length m);
  (0:Int)<=a/\a<=b/\p.2.1=(c&&decide (List.take (Int.toNat a) l=List.take (Int.toNat a) m))->
  (e0_1=true->
  ((0:Int)<=a/\a<b)/\
  ((0:Int)<=a/\a<(↑(List.length m):Int))/\
  ∃ (p':Int×Bool×Unit),
  l=l/\
  m=m/\
  false=false/\
  IntKind.i64.wrap (a+(1:Int))=p'.1/\
  decide (List.getD l (Int.toNat a) []=List.getD m (Int.toNat a) [])=p'.2.1/\
  ((0:Int)<=p'.1/\p'.1<=b/\p'.2.1=(c&&decide (List.take (Int.toNat p'.1) l=List.take (Int.toNat p'.1) m)))/\
  List.length l-Int.toNat p'.1<List.length l-Int.toNat a)/\
  (e0_1=false->(p.2.1,())=(decide (l=m),()))):=by kernel_rfl
theorem cq8 (l:List Int) (n:Int):vc (EV []) (lPut l n) Go.Proofs.Tryd.f30 cPut (l,n,())=(Small RU (Sigma.mk (Ty.slice (3:Nat) (Ty.int IntKind.i64)) l)->
  (∃ (p:Int×Bool×List Int×Unit),
  l=l/\
  n=n/\
  (0:Int)=p.1/\
  false=p.2.1/\
  []=p.2.2.1/\
  (0:Int)<=p.1/\p.1<=(↑(List.length l):Int)/\p.2.1=(N6 (List.take (Int.toNat p.1) l) n).2/\p.2.2.1=(N6 (List.take (Int.toNat p.1) l) n).1)/\
  ∀ (p:Int×Bool×List Int×Unit),
 let f:Int:=bif !p.2.1&&decide (List.getD l (Int.toNat p.1) (0:Int)>=n) then bif decide (List.getD l (Int.toNat p.1) (0:Int) >n) then p.1 else p.1 else p.1;
 let c:Bool:=!p.2.1&&decide (List.getD l (Int.toNat p.1) (0:Int)>=n);
 let d:Bool:=decide (List.getD l (Int.toNat p.1) (0:Int) >n);
 let b:List Int:=p.2.2.1;
 let g:Bool:=decide (p.1<(↑(List.length l):Int));
 let h:List Int:=bif c then bif d then b++[n] else b else b;
 let e:Bool:=p.2.1;
 let a:Int:=p.1;
 let i:List Int:=[List.getD (bif c then bif d then l else l else l) (Int.toNat f) (0:Int)];
  (0:Int)<=a/\a<=(↑(List.length l):Int)/\e=(N6 (List.take (Int.toNat a) l) n).2/\b=(N6 (List.take (Int.toNat a) l) n).1->
  (g=true->
  ((!e)=true->(0:Int)<=a/\a<(↑(List.length l):Int))/\
  (c=true->((0:Int)<=a/\a<(↑(List.length l):Int))/\(d=true->(List.length b+List.length [n])*(8:Nat)<=(140737488355328:Nat)))/\
  ((0:Int)<=f/\f<(↑(List.length (bif c then bif d then l else l else l)):Int))/\
  (List.length h+List.length i)*(8:Nat)<=(140737488355328:Nat)/\
  ∃ (p':Int×Bool×List Int×Unit),
  (bif c then bif d then l else l else l)=l/\
  (bif c then bif d then n else n else n)=n/\
  IntKind.i64.wrap (f+(1:Int))=p'.1/\
  (bif c then true else e)=p'.2.1/\
  h++i=p'.2.2.1/\
  ((0:Int)<=p'.1/\
  p'.1<=(↑(List.length l):Int)/\p'.2.1=(N6 (List.take (Int.toNat p'.1) l) n).2/\p'.2.2.1=(N6 (List.take (Int.toNat p'.1) l) n).1)/\
  List.length l-Int.toNat p'.1<List.length l-Int.toNat a)/\
  (g=false->((!e)=true->(List.length b+List.length [n])*(8:Nat)<=(140737488355328:Nat))/\(bif !e then b++[n] else b,())=(T6 l n,()))):=by kernel_rfl
theorem bZ7 (l m:List Int):vc (EV [(70,cCopyD),(30,cPut)]) (bO3 l m) Go.Proofs.Tryd.f35 cUnion (l,m,())=(Small RU (Sigma.mk (Ty.slice (3:Nat) (Ty.int IntKind.i64)) l)->
  Small RU (Sigma.mk (Ty.slice (3:Nat) (Ty.int IntKind.i64)) m)->
  List.length l<=(17592186044416:Nat)/\
  (∃ (p:Int×List Int×Unit),
  l=l/\m=m/\(0:Int)=p.1/\l=p.2.1/\(0:Int)<=p.1/\p.1<=(↑(List.length m):Int)/\p.2.1=C8 l (List.take (Int.toNat p.1) m))/\
  ∀ (p:Int×List Int×Unit),
 let c:Bool:=decide (p.1<(↑(List.length m):Int));
 let b:List Int:=p.2.1;
 let a:Int:=p.1;
  (0:Int)<=a/\a<=(↑(List.length m):Int)/\b=C8 l (List.take (Int.toNat a) m)->
  (c=true->
  ((0:Int)<=a/\a<(↑(List.length m):Int))/\
  List.length b<=(17592186044400:Nat)/\
  ∃ (p':Int×List Int×Unit),
  l=l/\
  m=m/\
  IntKind.i64.wrap (a+(1:Int))=p'.1/\
  T6 b (List.getD m (Int.toNat a) (0:Int))=p'.2.1/\
  ((0:Int)<=p'.1/\p'.1<=(↑(List.length m):Int)/\p'.2.1=C8 l (List.take (Int.toNat p'.1) m))/\
  List.length m-Int.toNat p'.1<List.length m-Int.toNat a)/\
  (c=false->(b,())=(C8 l m,()))):=by kernel_rfl
theorem bC0 (n:Nat) (g h:Int) (c d:List Int) (a:List Ins) (i j:Int) (e f:List Int) (b:List Ins):vc (EV [(34,cEqual),(64,cSameCode.below P9 n)]) noL Go.Proofs.Tryd.f57 (cSameIns.below V6 (n+1)) (g,h,c,d,a,i,j,e,f,b,())=(let k:Bool:=g==i&&h==j&&decide (c=e)&&decide (d=f);
 Small RU (Sigma.mk (Ty.slice (3:Nat) (Ty.int IntKind.i64)) c)->
 Small RU (Sigma.mk (Ty.slice (3:Nat) (Ty.int IntKind.i64)) d)->
 Small RU (Sigma.mk (Ty.slice (52:Nat) (Ty.user (0:Nat))) a)->
 Small RU (Sigma.mk (Ty.slice (3:Nat) (Ty.int IntKind.i64)) e)->
 Small RU (Sigma.mk (Ty.slice (3:Nat) (Ty.int IntKind.i64)) f)->
 Small RU (Sigma.mk (Ty.slice (52:Nat) (Ty.user (0:Nat))) b)->
 (k=true->True/\P9 (a,b,())<n)/\(k&&X7 a b,())=(insB (Ins.mk g h c d a) (Ins.mk i j e f b),())):=by kernel_rfl
theorem bn9 (n:Nat) (l m:List Ins):vc (EV [(57,cSameIns.below V6 n)]) (aI3 l m) Go.Proofs.Tryd.f64 (cSameCode.below P9 (n+1)) (l,m,())=(let d:Ins:=Ins.mk (0:Int) (0:Int) [] [] [];
 let c:Int:=(↑(List.length l):Int);
  Small RU (Sigma.mk (Ty.slice (52:Nat) (Ty.user (0:Nat))) l)->
  Small RU (Sigma.mk (Ty.slice (52:Nat) (Ty.user (0:Nat))) m)->
  (∃ (p:Int×Bool×Unit),
  l=l/\
  m=m/\
  false=false/\
  (0:Int)=p.1/\
  (c==(↑(List.length m):Int))=p.2.1/\
  (0:Int)<=p.1/\p.1<=c/\p.2.1=(decide (List.length l=List.length m)&&X7 (List.take (Int.toNat p.1) l) (List.take (Int.toNat p.1) m)))/\
  ∀ (p:Int×Bool×Unit),
 let e0_1:Bool:=p.2.1&&decide (p.1<c);
 let e1_1:Ins:=List.getD m (Int.toNat p.1) d;
 let a:Ins:=List.getD l (Int.toNat p.1) d;
 let b:Int:=p.1;
 let e:Bool:=decide (List.length l=List.length m);
  (0:Int)<=b/\b<=c/\p.2.1=(e&&X7 (List.take (Int.toNat b) l) (List.take (Int.toNat b) m))->
  (e0_1=true->
  ((0:Int)<=b/\b<c)/\
  ((0:Int)<=b/\b<(↑(List.length m):Int))/\
  (True/\V6 (a.op,a.n,a.to,a.from_,a.body,e1_1.op,e1_1.n,e1_1.to,e1_1.from_,e1_1.body,())<n)/\
  ∃ (p':Int×Bool×Unit),
  l=l/\
  m=m/\
  false=false/\
  IntKind.i64.wrap (b+(1:Int))=p'.1/\
  insB (Ins.mk a.op a.n a.to a.from_ a.body) (Ins.mk e1_1.op e1_1.n e1_1.to e1_1.from_ e1_1.body)=p'.2.1/\
  ((0:Int)<=p'.1/\p'.1<=c/\p'.2.1=(e&&X7 (List.take (Int.toNat p'.1) l) (List.take (Int.toNat p'.1) m)))/\
  List.length l-Int.toNat p'.1<List.length l-Int.toNat b)/\
  (e0_1=false->(p.2.1,())=(X7 l m,()))):=by kernel_rfl
theorem bC1 (g:Int) (a:List Ins) (b c:List Int) (h:Int) (d:List Ins) (e f:List Int):vc (EV [(34,cEqual),(64,cSameCode)]) noL Go.Proofs.Tryd.f24 cSameVec (g,a,b,c,h,d,e,f,())=(Small RU (Sigma.mk (Ty.slice (52:Nat) (Ty.user (0:Nat))) a)->
 Small RU (Sigma.mk (Ty.slice (3:Nat) (Ty.int IntKind.i64)) b)->
 Small RU (Sigma.mk (Ty.slice (3:Nat) (Ty.int IntKind.i64)) c)->
 Small RU (Sigma.mk (Ty.slice (52:Nat) (Ty.user (0:Nat))) d)->
 Small RU (Sigma.mk (Ty.slice (3:Nat) (Ty.int IntKind.i64)) e)->
 Small RU (Sigma.mk (Ty.slice (3:Nat) (Ty.int IntKind.i64)) f)->
 (g==h&&X7 a d&&decide (b=e)&&decide (c=f),())=(decide (g=h)&&X7 a d&&decide (b=e)&&decide (c=f),())):=by kernel_rfl
theorem bZ8 (l:List Int) (a:l.length<=17592186044416):vc (EV []) noL Go.Proofs.Tryd.f70 cCopyD (l,()):=(bZ5 l).mpr (by
 intro hs;exact ⟨by simp only [List.length_nil];omega,rfl⟩)
theorem bo0:C9 prog RG 70 cCopyD:=E8 B9 (λ_=>noL) (by kernel_rfl) (by kernel_rfl) (by kernel_rfl) λ(l,()) a=>bZ8 l a
theorem bZ9 (l m:List Int):vc (EV []) (bO2 l m) Go.Proofs.Tryd.f34 cEqual (l,m,()):=(bZ6 l m).mpr (by
 intro e f g;have h:l.length<=140737488355328:=f.len;have o:m.length<=140737488355328:=g.len;refine ⟨⟨(0,decide (l.length=m.length),()),rfl,rfl,rfl,rfl,?_,Int.le_refl _,by dsimp only;omega,by simp [e]⟩,?_⟩
 .rw [Bool.eq_iff_iff];simp [e];omega
 dsimp only [e];rintro ⟨i,b,⟨⟩⟩ ⟨h0,h1,h2⟩;dsimp only at h0 h1 h2 |-;obtain ⟨k,rfl⟩:=cv9 h0;simp only [cv7] at h2 |-;have c:b=true<->(l.length=m.length/\l.take k=m.take k):=by rw [h2];simp
 refine ⟨λa=>?_,λa=>?_⟩
 .simp only [cv6,cx6] at a;obtain ⟨a,j⟩:=a;obtain ⟨d,n⟩:=c.1 a;refine ⟨⟨h0,j⟩,⟨h0,by omega⟩,((k+1:Nat),decide (l.getD k 0=m.getD k 0),()),by trivial,by trivial,by trivial,B5 (by omega) h,?_,⟨by omega,by dsimp only;omega,?_⟩,by dsimp only;omega⟩
  .rw [Bool.eq_iff_iff];simp
  .dsimp only;rw [cv7,Bool.eq_iff_iff,cv6,cx6,cx6,cx6,aI1 0 (by omega) (by omega)];simp [d,n]
 .have:b=decide (l=m):=by
   rw [Bool.eq_iff_iff,cx6];exact aI0 (by omega) c (by simp at a;cases b<;>simp at a |-;omega)
  rw [this])
theorem ao3:C9 prog RG 34 cEqual:=E8 B9 (λp=>bO2 p.1 p.2.1) (by kernel_rfl) (by kernel_rfl) (by kernel_rfl) λ(l,m,()) _=>bZ9 l m
theorem aW6 (l m:List (List Int)):vc (EV [(34,cEqual)]) (ao2 l m) Go.Proofs.Tryd.f43 cEqualLists (l,m,()):=(aW5 l m).mpr (by
 intro e f g;have h:l.length<=140737488355328:=f.len;have o:m.length<=140737488355328:=g.len;refine ⟨⟨(0,decide (l.length=m.length),()),rfl,rfl,rfl,rfl,?_,Int.le_refl _,by dsimp only;omega,by simp [e]⟩,?_⟩
 .rw [Bool.eq_iff_iff];simp [e];omega
 dsimp only [e];rintro ⟨i,b,⟨⟩⟩ ⟨h0,h1,h2⟩;dsimp only at h0 h1 h2 |-;obtain ⟨k,rfl⟩:=cv9 h0;simp only [cv7] at h2 |-;have c:b=true<->(l.length=m.length/\l.take k=m.take k):=by rw [h2];simp
 refine ⟨λa=>?_,λa=>?_⟩
 .simp only [cv6,cx6] at a;obtain ⟨a,j⟩:=a;obtain ⟨d,n⟩:=c.1 a;refine ⟨⟨h0,j⟩,⟨h0,by omega⟩,((k+1:Nat),decide (l.getD k []=m.getD k []),()),by trivial,by trivial,by trivial,B5 (by omega) h,rfl,⟨by omega,by dsimp only;omega,?_⟩,by dsimp only;omega⟩;dsimp only;rw [cv7,Bool.eq_iff_iff,cv6,cx6,cx6,cx6,aI1 [] (by omega) (by omega)];simp [d,n]
 .have:b=decide (l=m):=by
   rw [Bool.eq_iff_iff,cx6];exact aI0 (by omega) c (by simp at a;cases b<;>simp at a |-;omega)
  rw [this])
theorem aA1:C9 prog RG 43 cEqualLists:=E8 (A7 ao3 B9) (λp=>ao2 p.1 p.2.1) (by kernel_rfl) (by kernel_rfl) (by kernel_rfl) λ(l,m,()) _=>aW6 l m
theorem cq9 (l:List Int) (n:Int) (p:l.length<=17592186044400):vc (EV []) (lPut l n) Go.Proofs.Tryd.f30 cPut (l,n,()):=(cq8 l n).mpr (by
 intro hs;refine ⟨⟨(0,false,[],()),rfl,rfl,rfl,rfl,rfl,Int.le_refl _,by dsimp only;omega,rfl,rfl⟩,?_⟩;dsimp only;rintro ⟨i,d,out,⟨⟩⟩ ⟨h0,h1,h2,c⟩;dsimp only at h0 h1 h2 c |-;obtain ⟨k,rfl⟩:=cv9 h0;simp only [cv7,Bool.cond_self] at h2 c |-;have f:=az0 (l.take k) n;rw [<-c,<-h2,cy4] at f;refine ⟨λa=>?_,λj=>?_⟩
 .have a:(k:Int)<l.length:=cw3 a;have g:∀ (x:Int) (m:List Int),m.length<=k+2->(m.length+[x].length)*8<=140737488355328:=λx m hm=>by simp only [cx8];omega
  have b:=aQ5 (l.take k) (l.getD k 0) n;rw [<-A4 (by omega) 0,<-h2,<-c] at b;refine ⟨λ_=>⟨h0,a⟩,λ_=>⟨⟨h0,a⟩,λ_=>g _ _ (by omega)⟩,⟨h0,a⟩,g _ _ ?_,((k+1:Nat),(N6 (l.take (k+1)) n).2,(N6 (l.take (k+1)) n).1,()),by trivial,by trivial,B5 (by omega) hs.len,?_,?_,⟨by omega,by dsimp only;omega,by rw [cv7],by rw [cv7]⟩,by dsimp only;omega⟩
  .cases (!d&&decide (l.getD k 0>=n))<;>simp only [cond_true,cond_false]
   .omega
   .cases decide (l.getD k 0 >n)<;>simp only [cond_true,cond_false,cx5,cx8]<;>omega
  .rw [b];show (bif !d&&decide (l.getD k 0>=n) then true else d)=_;dsimp only;generalize l.getD k 0=x;cases d
   .simp only [Bool.not_false,Bool.true_and,cond_false];by_cases e:x<n
    .simp [e,show ¬ n<=x by omega]
    .by_cases h:x=n<;>simp [e,h,show n<=x by omega]
   .simp
  .rw [b];show (bif !d&&decide (l.getD k 0>=n) then bif decide (l.getD k 0 >n) then out++[n] else out else out)++[l.getD k 0]=_;dsimp only;generalize l.getD k 0=x;cases d
   .simp only [Bool.not_false,Bool.true_and,cond_false];by_cases e:x<n
    .simp [e,show ¬ n<=x by omega]
    .by_cases h:x=n
     .simp [e,h]
     .simp [e,h,show n<=x by omega,show n<x by omega]
   .simp
 .have o:k=l.length:=by have:¬ (k:Int)<l.length:=cw2 j;omega
  subst o;rw [cy3] at h2 c;refine ⟨λ_=>by simp only [cx8];omega,?_⟩;rw [bf3,<-h2,<-c];cases d<;>rfl)
theorem bO4:C9 prog RG 30 cPut:=E8 B9 (λp=>lPut p.1 p.2.1) (by kernel_rfl) (by kernel_rfl) (by kernel_rfl) λ(l,n,()) a=>cq9 l n a
theorem ca0 (l m:List Int) (g:l.length+m.length<=17592186044400):vc (EV [(70,cCopyD),(30,cPut)]) (bO3 l m) Go.Proofs.Tryd.f35 cUnion (l,m,()):=(bZ7 l m).mpr (by
 intro e c;refine ⟨by omega,⟨(0,l,()),rfl,rfl,rfl,rfl,Int.le_refl _,by dsimp only;omega,rfl⟩,?_⟩;dsimp only;rintro ⟨i,out,⟨⟩⟩ ⟨h0,h1,h2⟩;dsimp only at h0 h1 h2 |-;obtain ⟨k,rfl⟩:=cv9 h0;simp only [cv7] at h2 |-;refine ⟨λa=>?_,λd=>?_⟩
 .have a:(k:Int)<m.length:=cw3 a;have b:=am2 l (m.take k);rw [<-h2,cy4] at b;refine ⟨⟨h0,a⟩,by omega,((k+1:Nat),C8 l (m.take (k+1)),()),by trivial,by trivial,B5 (by omega) c.len,?_,⟨by omega,by dsimp only;omega,by rw [cv7]⟩,by dsimp only;omega⟩;rw [A4 (by omega) 0,bf5,h2]
 .have f:k=m.length:=by have:¬ (k:Int)<m.length:=cw2 d;omega
  subst f;rw [cy3] at h2;rw [h2])
theorem bo1:C9 prog RG 35 cUnion:=E8 (A7 bo0 (A7 bO4 B9)) (λp=>bO3 p.1 p.2.1) (by kernel_rfl) (by kernel_rfl) (by kernel_rfl) λ(l,m,()) a=>ca0 l m a
theorem bC2 (n:Nat) (b c:Int) (d e:List Int) (a:List Ins) (f g:Int) (h i:List Int) (j:List Ins) (l:as4 a+1<n+1):vc (EV [(34,cEqual),(64,cSameCode.below P9 n)]) noL Go.Proofs.Tryd.f57 (cSameIns.below V6 (n+1)) (b,c,d,e,a,f,g,h,i,j,()):=(bC0 n b c d e a f g h i j).mpr (by
 intro k _ _ _ _ _ _;refine ⟨λ_=>⟨trivial,by show as4 a<n;omega⟩,?_⟩;simp only [k,insB];rfl)
theorem bf6 {x:Ins} {l:List Ins} (h:x∈l):insN x<as4 l:=by
 induction l with
 |nil=>simp at h
 |cons y r ih=>
  simp only [as4];rcases List.mem_cons.1 h with rfl|h
  .omega
  .have:=ih h;omega
theorem bO5 (x:Ins):insN x=as4 x.body+1:=by cases x;simp [insN]
theorem bo2 (x:Ins):Ins.mk x.op x.n x.to x.from_ x.body=x:=by cases x;rfl
theorem ca1 (x y:Ins):insB x y=decide (x=y):=by rw [Bool.eq_iff_iff,bw8,cx6]
theorem bo3 (n:Nat) (l m:List Ins) (r:as4 l<n+1):vc (EV [(57,cSameIns.below V6 n)]) (aI3 l m) Go.Proofs.Tryd.f64 (cSameCode.below P9 (n+1)) (l,m,()):=(bn9 n l m).mpr (by
 intro d e g h;have j:l.length<=140737488355328:=g.len;have q:m.length<=140737488355328:=h.len;refine ⟨⟨(0,decide (l.length=m.length),()),rfl,rfl,rfl,rfl,?_,Int.le_refl _,by dsimp only;omega,by simp [e,X7]⟩,?_⟩
 .rw [Bool.eq_iff_iff];simp [e];omega
 dsimp only [e];rintro ⟨i,b,⟨⟩⟩ ⟨h0,h1,h2⟩;dsimp only at h0 h1 h2 |-;obtain ⟨k,rfl⟩:=cv9 h0;simp only [cv7] at h2 |-;have c:b=true<->(l.length=m.length/\l.take k=m.take k):=by rw [h2];simp [aH8]
 refine ⟨λa=>?_,λa=>?_⟩
 .simp only [cv6,cx6] at a;obtain ⟨a,o⟩:=a;obtain ⟨f,p⟩:=c.1 a;refine ⟨⟨h0,o⟩,⟨h0,by omega⟩,⟨trivial,?_⟩,((k+1:Nat),decide (l.getD k d=m.getD k d),()),by trivial,by trivial,by trivial,B5 (by omega) j,?_,⟨by omega,by dsimp only;omega,?_⟩,by dsimp only;omega⟩
  .have:=bf6 (H4 (l:=l) (i:=k) (by omega) d);rw [bO5] at this;show as4 (l.getD k d).body+1<n;omega
  .rw [bo2,bo2,ca1]
  .dsimp only;rw [cv7,Bool.eq_iff_iff,cv6,cx6,cx6,aH8,aI1 d (by omega) (by omega)];simp [f,p]
 .have:b=X7 l m:=by
   rw [Bool.eq_iff_iff,aH8];exact aI0 (by omega) c (by simp at a;cases b<;>simp at a |-;omega)
  rw [this])
theorem av7:∀ n,C9 prog RG 57 (cSameIns.below V6 n)/\C9 prog RG 64 (cSameCode.below P9 n)
 |0=>⟨E8 (k:=cSameIns.below V6 0) (fn:=Go.Proofs.Tryd.f57) B9 (λ_=>noL) (by kernel_rfl) (by kernel_rfl) (by kernel_rfl) (λxs a=>(Nat.not_lt_zero _ a.2).elim),E8 (k:=cSameCode.below P9 0) (fn:=Go.Proofs.Tryd.f64) B9 (λ_=>noL) (by kernel_rfl) (by kernel_rfl) (by kernel_rfl) (λxs a=>(Nat.not_lt_zero _ a.2).elim)⟩
 |n+1=>by
  obtain ⟨h1,h2⟩:=av7 n;refine ⟨E8 (k:=cSameIns.below V6 (n+1)) (l:=[(34,cEqual),(64,cSameCode.below P9 n)]) (A7 ao3 (A7 h2 B9)) (λ_=>noL) (by kernel_rfl) (by kernel_rfl) (by kernel_rfl) (λ(b,c,d,e,f,g,h,i,j,o,()) a=>bC2 n b c d e f g h i j o a.2),
   E8 (k:=cSameCode.below P9 (n+1)) (l:=[(57,cSameIns.below V6 n)]) (A7 h1 B9) (λp=>aI3 p.1 p.2.1) (by kernel_rfl) (by kernel_rfl) (by kernel_rfl) (λ(l,m,()) a=>bo3 n l m a.2)⟩
theorem bx1 {f:FuncId} {k:Con RU} {m:Dens RU.T k.params->Nat} (h:∀ n,C9 prog RG f (k.below m n)):C9 prog RG f k:=
 λY=>⟨(h 0 Y).1,λxs a=>(h (m xs+1) Y).2 xs ⟨a,Nat.lt_succ_self _⟩⟩
theorem aW7:C9 prog RG 57 cSameIns:=bx1 λn=>(av7 n).1
theorem aM8:C9 prog RG 64 cSameCode:=bx1 λn=>(av7 n).2
theorem aW8:C9 prog RG 24 cSameVec:=E8 (A7 ao3 (A7 aM8 B9)) (λ_=>noL) (by kernel_rfl) (by kernel_rfl) (by kernel_rfl) λ(a,b,c,d,e,f,g,h,()) _=>(bC1 a b c d e f g h).mpr (by
 intros;rfl)
def cOwn:Con RU:=con [one] [ints] [one] [ints] [true] (some λp=>p.1.length<=17592186044416) λp=>(p.1,())
def cIndex:Con RU:=con [one,one] [ints,i64] [one] [i64] [false] none λp=>(G8 p.1 p.2.1,())
def bO6 (l:List Int) (n:Int):Nat->St RU->Ann RU:=λ_ _=>⟨[],[.slot 8],[i64],λp=>0<=p.1/\p.1<=l.length/\∀ i:Nat,i<p.1.toNat->l.getD i 0≠n,λp=>l.length-p.1.toNat,[]⟩
def cContains:Con RU:=con [one,one] [ints,i64] [one] [.bool] [false] none λp=>(p.1.contains p.2.1,())
def I6 (first last place:Int):Bool:=!(decide (first=0)&&decide (last=-1))&&decide (first<=place)&&decide (place<=last)
def cAt:Con RU:=con [(true,2),one] [i64,i64,i64] [one] [.bool] [false] none λp=>(I6 p.1 p.2.1 p.2.2.1,())
def cCount:Con RU:=con [(true,5)] bO1 [one,one] [i64,i64] [false,false] none λp=>((aH9 ⟨p.1,p.2.1,p.2.2.1,p.2.2.2.1,p.2.2.2.2.1⟩).1,(aH9 ⟨p.1,p.2.1,p.2.2.1,p.2.2.2.1,p.2.2.2.2.1⟩).2,())
def aa1 (k:Int) (l:List RIns):Int:=l.foldl (λn x=>if x.kind=k then n+1 else n) 0
def bO7 (l:List RIns):Nat->St RU->Ann RU:=λ_ _=>⟨[],[.slot 9,.slot 2,.slot 3],[i64,i64,i64],λp=>0<=p.1/\p.1<=l.length/\p.2.1=aa1 1 (l.take p.1.toNat)/\p.2.2.1=aa1 2 (l.take p.1.toNat),λp=>l.length-p.1.toNat,[]⟩
abbrev cr0:List (TypeId×List Nat):=[(52,[2,3])]
def cBody:Con RU:=⟨[one],[inss],[.d 0],[],some λp=>p.1.length<=1599289640354/\G6 p.1=true,none,[one],[inss],[.dp 0],[.dp 0 [2,3]],λp=>(p.1,()),[],[],[]⟩
def bo4:Dens RU.T cBody.params->Nat:=λp=>as4 p.1
def cj0 (l:List Ins):Nat->St RU->Ann RU:=λ_ _=>⟨[3],[.slot 8,.row 7],[i64,inss],λp=>0<=p.1/\p.1<=l.length/\p.2.1=l.take p.1.toNat,λp=>l.length-p.1.toNat,[(.deep 3 [2,3],7,52,.user 0)]⟩
theorem cr1 (l:List Int):vc (EV []) noL Go.Proofs.Tryd.f72 cOwn (l,())=(let a:Int:=
  (↑(List.length
  (List.take (List.length (List.replicate (Int.toNat (↑(List.length l):Int)) (0:Int))) l++List.drop (List.length l) (List.replicate (Int.toNat (↑(List.length l):Int)) (0:Int)))):
  Int);
 let b:List Int:=List.replicate (Int.toNat (↑(List.length l):Int)) (0:Int);
  Small RU (Sigma.mk (Ty.slice (3:Nat) (Ty.int IntKind.i64)) l)->
  ((0:Int)<=(↑(List.length l):Int)/\(↑(List.length l):Int)*(↑(8:Nat):Int)<=(↑(140737488355328:Nat):Int))/\
  (a=a/\a=a)/\(List.take (List.length b) l++List.drop (List.length l) b,())=(l,())):=by kernel_rfl
theorem ca2 (l:List Int) (n:Int):vc (EV []) (bO6 l n) Go.Proofs.Tryd.f93 cIndex (l,n,())=(let a:Int:=(↑(List.length l):Int);
  Small RU (Sigma.mk (Ty.slice (3:Nat) (Ty.int IntKind.i64)) l)->
  (∃ (p:Int×Unit),l=l/\n=n/\a=a/\(0:Int)=p.1/\(0:Int)<=p.1/\p.1<=a/\∀ (i:Nat),i<Int.toNat p.1->List.getD l i (0:Int)≠n)/\
  ∀ (p:Int×Unit),
 let e0_1:Bool:=decide (p.1<a);
 let b:Bool:=n==List.getD l (Int.toNat p.1) (0:Int);
  ((0:Int)<=p.1/\p.1<=a/\∀ (i:Nat),i<Int.toNat p.1->List.getD l i (0:Int)≠n)->
  (e0_1=true->
  ((0:Int)<=p.1/\p.1<a)/\
  (b=true->(p.1,())=(G8 l n,()))/\
  (b=false->
  ∃ (p':Int×Unit),
  l=l/\
  n=n/\
  a=a/\
  IntKind.i64.wrap (p.1+(1:Int))=p'.1/\
  ((0:Int)<=p'.1/\p'.1<=a/\∀ (i:Nat),i<Int.toNat p'.1->List.getD l i (0:Int)≠n)/\
  List.length l-Int.toNat p'.1<List.length l-Int.toNat p.1))/\
  (e0_1=false->((-1:Int),())=(G8 l n,()))):=by kernel_rfl
theorem bo5 (l:List Int) (n:Int):vc (EV [(93,cIndex)]) noL Go.Proofs.Tryd.f61 cContains (l,n,())=(Small RU (Sigma.mk (Ty.slice (3:Nat) (Ty.int IntKind.i64)) l)->(decide (G8 l n>=(0:Int)),())=(List.contains l n,())):=by kernel_rfl
theorem cu7 (a b n:Int):vc (EV []) noL Go.Proofs.Tryd.f69 cAt (a,b,n,())=((!(a==(0:Int)&&(b==(-1:Int)&&true))&&decide (a<=n)&&decide (n<=b),())=(I6 a b n,())):=by kernel_rfl
theorem ca3 (a b c:Int) (l:List RIns) (o:List Place):vc (EV []) (bO7 l) Go.Proofs.Tryd.f17 cCount (a,b,c,l,o,())=(let e:Int:=(↑(List.length l):Int);
  Small RU (Sigma.mk (Ty.slice (55:Nat) (Ty.user (1:Nat))) l)->
  Small RU (Sigma.mk (Ty.slice (59:Nat) (Ty.user (2:Nat))) o)->
  (∃ (p:Int×Int×Int×Unit),
  a=a/\
  b=b/\
  c=c/\
  l=l/\
  o=o/\
  l=l/\
  e=e/\
  (0:Int)=p.1/\
  (0:Int)=p.2.1/\
  (0:Int)=p.2.2.1/\
  a=a/\
  b=b/\
  c=c/\
  l=l/\
  o=o/\
  (0:Int)<=p.1/\p.1<=e/\p.2.1=aa1 (1:Int) (List.take (Int.toNat p.1) l)/\p.2.2.1=aa1 (2:Int) (List.take (Int.toNat p.1) l))/\
  ∀ (p:Int×Int×Int×Unit),
 let e0_1:Bool:=(List.getD l (Int.toNat p.1) (RIns.mk (0:Int) (0:Int) (0:Int) ins0)).kind==(2:Int);
 let d:Bool:=(List.getD l (Int.toNat p.1) (RIns.mk (0:Int) (0:Int) (0:Int) ins0)).kind==(1:Int);
 let g:Int:=p.2.2.1;
 let h:Int:=p.2.1;
 let f:Int:=p.1;
 let i:Bool:=decide (f<e);
  (0:Int)<=f/\f<=e/\h=aa1 (1:Int) (List.take (Int.toNat f) l)/\g=aa1 (2:Int) (List.take (Int.toNat f) l)->
  (i=true->
  ((0:Int)<=f/\f<e)/\
  ∃ (p':Int×Int×Int×Unit),
  (bif d then a else bif e0_1 then a else a)=a/\
  (bif d then b else bif e0_1 then b else b)=b/\
  (bif d then c else bif e0_1 then c else c)=c/\
  (bif d then l else bif e0_1 then l else l)=l/\
  (bif d then o else bif e0_1 then o else o)=o/\
  (bif d then l else bif e0_1 then l else l)=l/\
  (bif d then e else bif e0_1 then e else e)=e/\
  IntKind.i64.wrap ((bif d then f else bif e0_1 then f else f)+(1:Int))=p'.1/\
  (bif d then IntKind.i64.wrap (h+(1:Int)) else bif e0_1 then h else h)=p'.2.1/\
  (bif d then g else bif e0_1 then IntKind.i64.wrap (g+(1:Int)) else g)=p'.2.2.1/\
  (bif d then a else bif e0_1 then a else a)=a/\
  (bif d then b else bif e0_1 then b else b)=b/\
  (bif d then c else bif e0_1 then c else c)=c/\
  (bif d then l else bif e0_1 then l else l)=l/\
  (bif d then o else bif e0_1 then o else o)=o/\
  ((0:Int)<=p'.1/\
  p'.1<=e/\p'.2.1=aa1 (1:Int) (List.take (Int.toNat p'.1) l)/\p'.2.2.1=aa1 (2:Int) (List.take (Int.toNat p'.1) l))/\
  List.length l-Int.toNat p'.1<List.length l-Int.toNat f)/\
  (i=false->(h,g,())=((aH9 (RCode.mk a b c l o)).1,(aH9 (RCode.mk a b c l o)).2,()))):=by kernel_rfl
theorem cj1 (l:List Ins):vc ((EVd cr0 noIt [(72,cOwn)]).set 96 (cBody.below bo4 (bo4 (l,())))) (cj0 l) Go.Proofs.Tryd.f96 cBody (l,())=(let b:Int:=(↑(List.length l):Int);
 let c:Ins:=Ins.mk (0:Int) (0:Int) [] [] [];
  Small RU (Sigma.mk (Ty.slice (52:Nat) (Ty.user (0:Nat))) l)->
  (∃ (p:Int×List Ins×Unit),l=l/\l=l/\b=b/\(0:Int)=p.1/\[]=p.2.1/\(0:Int)<=p.1/\p.1<=b/\p.2.1=List.take (Int.toNat p.1) l)/\
  ∀ (p:Int×List Ins×Unit),
 let e0_1:List Ins:=
  [Ins.mk (List.getD l (Int.toNat p.1) c).op (List.getD l (Int.toNat p.1) c).n (List.getD l (Int.toNat p.1) c).to (List.getD l (Int.toNat p.1) c).from_
  (List.getD l (Int.toNat p.1) c).body];
 let e1_1:List Ins:=p.2.1;
 let e:Bool:=decide (p.1<b);
 let a:Int:=p.1;
 let d:List Ins:=(List.getD l (Int.toNat a) c).body;
  (0:Int)<=a/\a<=b/\e1_1=List.take (Int.toNat a) l->
  (e=true->
  ((0:Int)<=a/\a<b)/\
  List.length (List.getD l (Int.toNat a) c).to<=(17592186044416:Nat)/\
  List.length (List.getD l (Int.toNat a) c).from_<=(17592186044416:Nat)/\
  ((List.length d<=(1599289640354:Nat)/\G6 d=true)/\bo4 (d,())<bo4 (l,()))/\
  (List.length e1_1+List.length e0_1)*(88:Nat)<=(140737488355328:Nat)/\
  ∃ (p':Int×List Ins×Unit),
  l=l/\
  l=l/\
  b=b/\
  IntKind.i64.wrap (a+(1:Int))=p'.1/\
  e1_1++e0_1=p'.2.1/\
  ((0:Int)<=p'.1/\p'.1<=b/\p'.2.1=List.take (Int.toNat p'.1) l)/\List.length l-Int.toNat p'.1<List.length l-Int.toNat a)/\
  (e=false->(e1_1,())=(l,()))):=by kernel_rfl
theorem cr2 (l:List Int) (b:l.length<=17592186044416):vc (EV []) noL Go.Proofs.Tryd.f72 cOwn (l,()):=(cr1 l).mpr (by
 intro c a hs;refine ⟨⟨by omega,by omega⟩,⟨rfl,rfl⟩,?_⟩;simp [a])
theorem bf7:C9 prog RG 72 cOwn:=E8 B9 (λ_=>noL) (by kernel_rfl) (by kernel_rfl) (by kernel_rfl) λ(l,()) a=>cr2 l a
theorem ca4 (l:List Int) (n:Int):vc (EV []) (bO6 l n) Go.Proofs.Tryd.f93 cIndex (l,n,()):=(ca2 l n).mpr (by
 intro e hs;have c:l.length<=140737488355328:=hs.len;refine ⟨⟨(0,()),rfl,rfl,rfl,rfl,Int.le_refl _,by dsimp only [e];omega,λi g=>by simp at g⟩,?_⟩;dsimp only [e];rintro ⟨i,⟨⟩⟩ ⟨h,o,d⟩;dsimp only at h o d |-;obtain ⟨m,rfl⟩:=cv9 h;simp only [cv7] at d |-;refine ⟨λa=>?_,λf=>?_⟩
 .have a:(m:Int)<l.length:=cw3 a;refine ⟨⟨h,a⟩,λb=>?_,λb=>⟨((m+1:Nat),()),by trivial,by trivial,by trivial,B5 (k:=m) (by omega) c,⟨by omega,by dsimp only;omega,λi g=>?_⟩,by dsimp only;omega⟩⟩
  .have b:n=l.getD m 0:=eq_of_beq b;rw [aW4 (by omega) d b.symm]
  .have b:n≠l.getD m 0:=by simpa using b
   rw [cv7] at g;by_cases j:i=m
   .subst j;exact b.symm
   .exact d i (by omega)
 .have f:¬ (m:Int)<l.length:=cw2 f;rw [aQ4 (λi g=>d i (by omega))])
theorem bo6:C9 prog RG 93 cIndex:=E8 B9 (λp=>bO6 p.1 p.2.1) (by kernel_rfl) (by kernel_rfl) (by kernel_rfl) λ(l,n,()) _=>ca4 l n
theorem aM9 (l:List Int) (n:Int):decide (G8 l n>=0)=l.contains n:=by rw [Bool.eq_iff_iff,cx6,List.contains_iff_mem];exact bf2
theorem O0:C9 prog RG 61 cContains:=E8 (A7 bo6 B9) (λ_=>noL) (by kernel_rfl) (by kernel_rfl) (by kernel_rfl) λ(l,n,()) _=>(bo5 l n).mpr (by
 intro _;rw [aM9])
theorem bx2:C9 prog RG 69 cAt:=E8 B9 (λ_=>noL) (by kernel_rfl) (by kernel_rfl) (by kernel_rfl) λ(a,b,n,()) _=>(cu7 a b n).mpr (by
 simp only [I6,Bool.and_true];rfl)
theorem bC3 (k:Int) (l:List RIns) (x:RIns):aa1 k (l++[x])=if x.kind=k then aa1 k l+1 else aa1 k l:=by simp [aa1]
theorem ca5 (k:Int) (l:List RIns):0<=aa1 k l/\aa1 k l<=l.length:=by
 unfold aa1
 suffices h:∀ (l:List RIns) (a:Int),a<=l.foldl (λn x=>if x.kind=k then n+1 else n) a/\l.foldl (λn x=>if x.kind=k then n+1 else n) a<=a+l.length by have:=h l 0;omega
 intro l
 induction l with
 |nil=>intro a;simp
 |cons x r ih=>intro a;simp only [List.foldl_cons,cw9];have:=ih (if x.kind=k then a+1 else a);split at this<;>rename_i b<;>simp only [b,if_true,if_false]<;>omega
theorem aQ7 {l:List RIns} {i:Nat} (h:i<l.length) (hl:l.length<=140737488355328) (k:Int) (d:RIns):aa1 k (l.take (i+1))=if (l.getD i d).kind=k then IntKind.i64.wrap (aa1 k (l.take i)+1) else aa1 k (l.take i):=by have:=ca5 k (l.take i);rw [cy4] at this;rw [A4 h d,bC3,F9 (by omega) (by omega)]
theorem ca6 (h j k:Int) (l:List RIns) (o:List Place):vc (EV []) (bO7 l) Go.Proofs.Tryd.f17 cCount (h,j,k,l,o,()):=(ca3 h j k l o).mpr (by
 intro e hs _;have c:l.length<=140737488355328:=hs.len;refine ⟨⟨(0,0,0,()),?_⟩,?_⟩
 .simp [e,aa1]
 dsimp only [e];rintro ⟨i,a,b,⟨⟩⟩ ⟨h0,h1,h2,f⟩;dsimp only at h0 h1 h2 f |-;obtain ⟨m,rfl⟩:=cv9 h0;simp only [cv7,Bool.cond_self,true_and] at h2 f |-;refine ⟨λd=>?_,λg=>?_⟩
 .have d:(m:Int)<l.length:=cw3 d;refine ⟨⟨h0,d⟩,((m+1:Nat),aa1 1 (l.take (m+1)),aa1 2 (l.take (m+1)),()),B5 (by omega) c,?_,?_,⟨by omega,by dsimp only;omega,by rw [cv7],by rw [cv7]⟩,by dsimp only;omega⟩
  .dsimp only;rw [aQ7 (by omega) c 1 ⟨0,0,0,ins0⟩,<-h2];simp only [cw6,beq_iff_eq,ite_self]
  .dsimp only;rw [aQ7 (by omega) c 2 ⟨0,0,0,ins0⟩,<-f];by_cases n:(l.getD m ⟨0,0,0,ins0⟩).kind=1
   .simp only [n,beq_self_eq_true,cond_true];rfl
   .simp only [cw6,beq_iff_eq,if_neg n]
 .have p:m=l.length:=by have:¬ (m:Int)<l.length:=cw2 g;omega
  subst p;rw [cy3] at h2 f;rw [h2,f];rfl)
theorem bo7:C9 prog RG 17 cCount:=E8 B9 (λp=>bO7 p.2.2.2.1) (by kernel_rfl) (by kernel_rfl) (by kernel_rfl) λ(a,b,c,l,o,()) _=>ca6 a b c l o
theorem bf8 {x:Ins} {l:List Ins} (h:G6 l=true) (a:x∈l):al4 x=true:=by
 induction l with
 |nil=>simp at a
 |cons y r ih=>
  simp only [G6,cv6] at h;rcases List.mem_cons.1 a with rfl|a
  .exact h.1
  .exact ih h.2 a
theorem L5 (x:Ins):al4 x=true<->(x.to.length<=17592186044416/\x.from_.length<=17592186044416/\x.body.length<=1599289640354)/\G6 x.body=true:=by
 cases x;simp only [al4,cv6,cx6];constructor
 .rintro ⟨⟨⟨a,b⟩,c⟩,d⟩;exact ⟨⟨a,b,c⟩,d⟩
 .rintro ⟨⟨a,b,c⟩,d⟩;exact ⟨⟨⟨a,b⟩,c⟩,d⟩
theorem cj2 (l:List Ins) (g:l.length<=1599289640354/\G6 l=true):vc ((EVd cr0 noIt [(72,cOwn)]).set 96 (cBody.below bo4 (bo4 (l,())))) (cj0 l) Go.Proofs.Tryd.f96 cBody (l,()):=(cj1 l).mpr (by
 intro e d hs;have c:l.length<=140737488355328:=hs.len;refine ⟨⟨(0,[],()),rfl,rfl,rfl,rfl,rfl,Int.le_refl _,by dsimp only [e];omega,rfl⟩,?_⟩;dsimp only [e];rintro ⟨i,out,⟨⟩⟩ ⟨h0,h1,h2⟩;dsimp only at h0 h1 h2 |-;obtain ⟨m,rfl⟩:=cv9 h0;simp only [cv7,true_and] at h2 |-;subst h2;refine ⟨λb=>?_,λf=>?_⟩
 .have b:(m:Int)<l.length:=cw3 b;have a:=H4 (l:=l) (i:=m) (by omega) d;obtain ⟨⟨h,j,k⟩,n⟩:=(L5 _).1 (bf8 g.2 a);have o:=bf6 a;rw [bO5] at o;refine ⟨⟨h0,b⟩,h,j,⟨⟨k,n⟩,by show as4 (l.getD m d).body<as4 l;omega⟩,?_,((m+1:Nat),l.take (m+1),()),B5 (by omega) c,?_,⟨by omega,by dsimp only;omega,by rw [cv7]⟩,by dsimp only;omega⟩
  .simp only [cy4,cx8];omega
  .rw [A4 (by omega) d,bo2]
 .have p:m=l.length:=by have:¬ (m:Int)<l.length:=cw2 f;omega
  subst p;rw [cy3])
theorem av8:C9 prog RG 96 cBody:=bO0 bN9 (A7 bf7 B9) bo4 (λp=>cj0 p.1) (by kernel_rfl) (by kernel_rfl) (by kernel_rfl) λ(l,()) a=>cj2 l a
abbrev eqI:Int->Int->Bool:=λx y=>x==y
def hasB (m:List (Int×Bool)) (n:Int):Bool:=(mget eqI m n).getD false
def putB (m:List (Int×Bool)) (n:Int) (b:Bool):List (Int×Bool):=mput eqI m n b
def E9 (code:List Ins):List (Int×Bool):=code.flatMap λx=>x.from_.map (λn=>(n,false))++x.to.map (λn=>(n,true))
def E3 (code:List Ins) (out:List Int):List (Int×Bool):=E9 code++out.map λn=>(n,false)
def C7 {α S:Type} (step:S->α->Bool×S):List α->S->Bool×S
 |[],s=>(false,s)
 |x::r,s=>if (step s x).1 then (true,(step s x).2) else C7 step r (step s x).2
def G0 (e:Int) (x:Int×Bool):Bool×Int:=if x.1<0\/4000<=x.1 then (true,2) else (false,e)
def E7 (params:Int) (s:Int×List (Int×Bool)) (x:Int×Bool):Bool×(Int×List (Int×Bool)):=
 if x.2&&(hasB s.2 x.1||decide (x.1<params)) then (true,5,s.2) else (false,s.1,putB s.2 x.1 (hasB s.2 x.1||x.2))
def stOf (b:Bool):Int:=if b then 1 else 0
def cNamed:Con RU:=⟨[(true,4)],as5,[.d 0,.d 1,.d 2,.d 3],[],none,none,[one],as5,[.clo 97 [0]],[.box 25 [.d 0,.d 1,.d 2,.d 3]],λp=>p,[],[],[]⟩
def Z3:Con RU:=⟨[one,one,one],[i64,.bool,i64,i64],[.d 0,.d 1,.yld 0],[.loop 2,.box 32 [.d 3]],some λp=>p.2.2.1=0,none,[one],[.bool,i64,i64],[.d 0],[.loop 1,.box 32 [.d 2]],
 λp=>(!(G0 p.2.2.2.1 (p.1,p.2.1)).1,stOf (G0 p.2.2.2.1 (p.1,p.2.1)).1,(G0 p.2.2.2.1 (p.1,p.2.1)).2,()),[],[(0,0),(1,1)],[(1,1000001)]⟩
def aW9:Con RU:=⟨[one,one],[i64,i64,i64,inss,ints,ints],[.yld 0,.ptr 2 0],[.loop 0,.box 32 [.d 1],.box 25 [.d 2,.d 3,.d 4,.d 5]],some λp=>p.1=0,none,[],[i64,i64],[],[.loop 0,.box 32 [.d 1],.box 25 [.un,.un,.un,.un]],
 λp=>(stOf (C7 G0 (E3 p.2.2.2.1 p.2.2.2.2.1) p.2.1).1,(C7 G0 (E3 p.2.2.2.1 p.2.2.2.2.1) p.2.1).2,()),[],[(0,0),(1,1)],[(1,128)]⟩
def Z4:Con RU:=⟨[one,one,one],[i64,.bool,i64,i64,mapB,i64,inss,ints,ints],[.d 0,.d 1,.yld 0],[.loop 2,.box 32 [.d 3],.box 117 [.map 3],.map 4,.box 25 [.d 5,.d 6,.d 7,.d 8]],some λp=>p.2.2.1=0,none,
 [one],[.bool,i64,i64,mapB,i64,inss,ints,ints],[.d 0],[.loop 1,.box 32 [.d 2],.box 117 [.map 3],.map 3,.box 25 [.d 4,.d 5,.d 6,.d 7]],
 λp=>(!(E7 p.2.2.2.2.2.1 (p.2.2.2.1,p.2.2.2.2.1) (p.1,p.2.1)).1,stOf (E7 p.2.2.2.2.2.1 (p.2.2.2.1,p.2.2.2.2.1) (p.1,p.2.1)).1,(E7 p.2.2.2.2.2.1 (p.2.2.2.1,p.2.2.2.2.1) (p.1,p.2.1)).2.1,(E7 p.2.2.2.2.2.1 (p.2.2.2.1,p.2.2.2.2.1) (p.1,p.2.1)).2.2,p.2.2.2.2.2),[4],[(0,0),(1,1),(2,2),(3,3),(4,4)],[(1,1000001),(2,1000002),(4,1000004)]⟩
def aX0:Con RU:=⟨[one,one],[i64,i64,mapB,i64,inss,ints,ints,i64,inss,ints,ints],[.yld 0,.ptr 5 0],[.loop 0,.box 32 [.d 1],.box 117 [.map 3],.map 2,.box 25 [.d 3,.d 4,.d 5,.d 6],.box 25 [.d 7,.d 8,.d 9,.d 10]],some λp=>p.1=0,none,
 [],[i64,i64,mapB,i64,inss,ints,ints],[],[.loop 0,.box 32 [.d 1],.box 117 [.map 3],.map 2,.box 25 [.d 3,.d 4,.d 5,.d 6],.box 25 [.un,.un,.un,.un]],
 λp=>(stOf (C7 (E7 p.2.2.2.1) (E3 p.2.2.2.2.2.2.2.2.1 p.2.2.2.2.2.2.2.2.2.1) (p.2.1,p.2.2.1)).1,(C7 (E7 p.2.2.2.1) (E3 p.2.2.2.2.2.2.2.2.1 p.2.2.2.2.2.2.2.2.2.1) (p.2.1,p.2.2.1)).2.1,(C7 (E7 p.2.2.2.1) (E3 p.2.2.2.2.2.2.2.2.1 p.2.2.2.2.2.2.2.2.2.1) (p.2.1,p.2.2.1)).2.2,p.2.2.2.1,p.2.2.2.2.1,p.2.2.2.2.2.1,p.2.2.2.2.2.2.1,()),[4],[(0,0),(1,1),(2,2),(3,3),(4,4)],[(1,128),(2,256),(4,64)]⟩
def itCheck:FuncId->List (Con RU×Con RU×List (Nat×Nat)):=λf=>bif Nat.beq f 97 then [(aX0,Z4,[(0,0),(1,1),(2,2),(3,3),(4,4)]),(aW9,Z3,[(0,0),(1,1)])] else []
def cIs (tys:List Ty) (objs:List OPat) (caps:List Nat) (is:Dens RU.T tys->Int->Bool):Con RU:=
 ⟨one::caps.map (λ_=>one),i64::tys,.d 0::caps.map (λc=>.ptr c 0),objs,none,none,[one],.bool::tys,[.d 0],objs,λp=>(is p.2 p.1,p.2),List.range objs.length,[],[]⟩
def cIsN (f:Nat) (tys:List Ty) (objs1:List OPat) (caps:List Nat) (is:Dens RU.T tys->Int->Bool):Con RU:=
 ⟨[one,one],i64::tys,[.d 0,.ptr 0 0],.box 109 [.clo f (caps.map (·+1))]::objs1,none,none,[one],.bool::tys,[.d 0],.box 109 [.clo f (caps.map (·+1))]::objs1,λp=>(!(is p.2 p.1),p.2),List.range (objs1.length+1),[],[]⟩
def ao4 (f:Nat) (tys:List Ty) (objs1:List OPat) (caps:List Nat) (is:Dens RU.T tys->Int->Bool):Con RU:=
 ⟨[one,one],ints::tys,[.d 0,.clo 99 [0]],.box 109 [.clo f (caps.map (·+1))]::objs1,none,none,[one],i64::tys,[.d 0],.box 109 [.clo f (caps.map (·+1))]::objs1,λp=>(((p.1.findIdx? (λn=>!(is p.2 n))).map (λ(i:Nat)=>(i:Int))).getD (-1),p.2),List.range (objs1.length+1),[],[]⟩
def ao5 (f:Nat) (tys:List Ty) (objs1:List OPat) (caps:List Nat) (is:Dens RU.T tys->Int->Bool):Con RU:=
 ⟨[one,one],ints::tys,[.d 0,.clo 99 [0]],.box 109 [.clo f (caps.map (·+1))]::objs1,none,none,[one],.bool::tys,[.d 0],.box 109 [.clo f (caps.map (·+1))]::objs1,λp=>(!(p.1.all (is p.2)),p.2),List.range (objs1.length+1),[],[]⟩
def cAll (f:Nat) (tys:List Ty) (objs:List OPat) (caps:List Nat) (is:Dens RU.T tys->Int->Bool):Con RU:=
 ⟨[one,one],ints::tys,[.d 0,.clo f caps],objs,none,none,[one],.bool::tys,[.d 0],objs,λp=>(p.1.all (is p.2),p.2),List.range objs.length,[],[]⟩
def aX1 (l:List Int) (is:Int->Bool):Nat->St RU->Ann RU:=λ_ _=>⟨[],[.slot 8],[i64],λp=>0<=p.1/\p.1<=l.length/\(l.take p.1.toNat).all is=true,λp=>l.length-p.1.toNat,[]⟩
abbrev tysC:List Ty:=[i64,inss,ints,ints,mapB]
abbrev objC:List OPat:=[.box 25 [.d 1,.d 2,.d 3,.d 4],.box 117 [.map 2],.map 5]
abbrev ao6:List OPat:=[.box 25 [.d 1,.d 2,.d 3,.d 4],.box 117 [.map 3],.map 5]
def isC (p:Dens RU.T tysC) (n:Int):Bool:=decide (n<p.1)||hasB p.2.2.2.2.1 n
abbrev tysI:List Ty:=[i64]
abbrev objI:List OPat:=[.box 3 [.d 1]]
def isI (p:Dens RU.T tysI) (n:Int):Bool:=decide (0<=n)&&decide (n<p.1)
def cIn:Con RU:=con [one,one] [i64,ints] [one] [.bool] [false] none λp=>(p.2.1.all (λn=>decide (0<=n)&&decide (n<p.1)),())
abbrev eqP:Place->Place->Bool:=F6 RU (.user 2)
abbrev tysP:List Ty:=[mapP]
abbrev objP:List OPat:=[.box 83 [.map 1],.map 1]
abbrev ao7:List OPat:=[.box 83 [.map 2],.map 1]
def isP (p:Dens RU.T tysP) (s:Int):Bool:=(mget eqP p.1 ⟨false,s⟩).isSome
def bo8 (code:List Ins) (out:List Int) (e0:Int):Nat->St RU->Ann RU:=λk s=>match k with
 |0=>⟨[],[.slot 14,.row 1000000,.box 1000001 0],[i64,i64,i64],λp=>0<=p.1/\p.1<=code.length/\p.2.1=0/\C7 G0 (E9 (code.take p.1.toNat)) e0=(false,p.2.2.1),λp=>code.length-p.1.toNat,[]⟩
 |1=>⟨[],[.slot 21,.row 1000000,.box 1000001 0],[i64,i64,i64],λp=>0<=p.1/\p.1<=(code.getD (s.intAt 14).toNat ins0).from_.length/\p.2.1=0/\
   C7 G0 (E9 (code.take (s.intAt 14).toNat)++((code.getD (s.intAt 14).toNat ins0).from_.take p.1.toNat).map (λn=>(n,false))) e0=(false,p.2.2.1),λp=>(code.getD (s.intAt 14).toNat ins0).from_.length-p.1.toNat,[]⟩
 |2=>⟨[],[.slot 33,.row 1000000,.box 1000001 0],[i64,i64,i64],λp=>0<=p.1/\p.1<=(code.getD (s.intAt 14).toNat ins0).to.length/\p.2.1=0/\
   C7 G0 (E9 (code.take (s.intAt 14).toNat)++(code.getD (s.intAt 14).toNat ins0).from_.map (λn=>(n,false))++((code.getD (s.intAt 14).toNat ins0).to.take p.1.toNat).map (λn=>(n,true))) e0=(false,p.2.2.1),λp=>(code.getD (s.intAt 14).toNat ins0).to.length-p.1.toNat,[]⟩
 |_=>⟨[],[.slot 46,.row 1000000,.box 1000001 0],[i64,i64,i64],λp=>0<=p.1/\p.1<=out.length/\p.2.1=0/\C7 G0 (E9 code++(out.take p.1.toNat).map (λn=>(n,false))) e0=(false,p.2.2.1),λp=>out.length-p.1.toNat,[]⟩
def bo9 (params:Int) (code:List Ins) (out:List Int) (e0:Int) (m0:List (Int×Bool)):Nat->St RU->Ann RU:=λk s=>match k with
 |0=>⟨[],[.slot 14,.row 1000000,.box 1000001 0,.row 1000003],[i64,i64,i64,mapB],λp=>0<=p.1/\p.1<=code.length/\p.2.1=0/\C7 (E7 params) (E9 (code.take p.1.toNat)) (e0,m0)=(false,p.2.2.1,p.2.2.2.1),λp=>code.length-p.1.toNat,[]⟩
 |1=>⟨[],[.slot 21,.row 1000000,.box 1000001 0,.row 1000003],[i64,i64,i64,mapB],λp=>0<=p.1/\p.1<=(code.getD (s.intAt 14).toNat ins0).from_.length/\p.2.1=0/\
   C7 (E7 params) (E9 (code.take (s.intAt 14).toNat)++((code.getD (s.intAt 14).toNat ins0).from_.take p.1.toNat).map (λn=>(n,false))) (e0,m0)=(false,p.2.2.1,p.2.2.2.1),λp=>(code.getD (s.intAt 14).toNat ins0).from_.length-p.1.toNat,[]⟩
 |2=>⟨[],[.slot 33,.row 1000000,.box 1000001 0,.row 1000003],[i64,i64,i64,mapB],λp=>0<=p.1/\p.1<=(code.getD (s.intAt 14).toNat ins0).to.length/\p.2.1=0/\
   C7 (E7 params) (E9 (code.take (s.intAt 14).toNat)++(code.getD (s.intAt 14).toNat ins0).from_.map (λn=>(n,false))++((code.getD (s.intAt 14).toNat ins0).to.take p.1.toNat).map (λn=>(n,true))) (e0,m0)=(false,p.2.2.1,p.2.2.2.1),λp=>(code.getD (s.intAt 14).toNat ins0).to.length-p.1.toNat,[]⟩
 |_=>⟨[],[.slot 46,.row 1000000,.box 1000001 0,.row 1000003],[i64,i64,i64,mapB],λp=>0<=p.1/\p.1<=out.length/\p.2.1=0/\C7 (E7 params) (E9 code++(out.take p.1.toNat).map (λn=>(n,false))) (e0,m0)=(false,p.2.2.1,p.2.2.2.1),λp=>out.length-p.1.toNat,[]⟩
abbrev yl1:List (Nat×Nat):=[(0,0),(1,1)]
abbrev yl2:List (Nat×Nat):=[(0,0),(1,1),(2,2),(3,3),(4,4)]
theorem ca7 (a:Int) (b:List Ins) (c d:List Int):vc (EV []) noL Go.Proofs.Tryd.f76 cNamed (a,b,c,d,())=(let e:Int×List Ins×List Int×List Int×Unit:=(a,b,c,d,());
 Small RU (Sigma.mk (Ty.slice (52:Nat) (Ty.user (0:Nat))) b)->
 Small RU (Sigma.mk (Ty.slice (3:Nat) (Ty.int IntKind.i64)) c)->Small RU (Sigma.mk (Ty.slice (3:Nat) (Ty.int IntKind.i64)) d)->e=e):=by kernel_rfl
theorem cr3 (n a:Int) (b:List Ins) (c d:List Int) (m:List (Int×Bool)):vc (EV []) noL Go.Proofs.Tryd.f77 (cIs tysC objC [0,1] isC) (n,a,b,c,d,m,())=(let e:Int×List Ins×List Int×List Int×List (Int×Bool)×Unit:=(a,b,c,d,m,());
 Small RU (Sigma.mk (Ty.slice (52:Nat) (Ty.user (0:Nat))) b)->
 Small RU (Sigma.mk (Ty.slice (3:Nat) (Ty.int IntKind.i64)) c)->
 Small RU (Sigma.mk (Ty.slice (3:Nat) (Ty.int IntKind.i64)) d)->(decide (n<a)||Option.getD (mget (λ(x y:Int)=>x==y) m n) false,e)=(isC e n,e)):=by kernel_rfl
theorem cj3 (n a:Int) (b:List Ins) (c d:List Int) (m:List (Int×Bool)):vc (EV [(77,cIs tysC objC [0,1] isC)]) noL Go.Proofs.Tryd.f99 (cIsN 77 tysC ao6 [0,1] isC) (n,a,b,c,d,m,())=(let e:Bool×Int×List Ins×List Int×List Int×List (Int×Bool)×Unit:=(!isC (a,b,c,d,m,()) n,a,b,c,d,m,());
 Small RU (Sigma.mk (Ty.slice (52:Nat) (Ty.user (0:Nat))) b)->
 Small RU (Sigma.mk (Ty.slice (3:Nat) (Ty.int IntKind.i64)) c)->
 Small RU (Sigma.mk (Ty.slice (3:Nat) (Ty.int IntKind.i64)) d)->(((a=a/\b=b/\c=c/\d=d/\True)/\True)/\m=m/\True)/\e=e):=by kernel_rfl
theorem cj4 (l:List Int) (a:Int) (b:List Ins) (c d:List Int) (m:List (Int×Bool)):vc (EV [(99,cIsN 77 tysC ao6 [0,1] isC)]) (aX1 l (isC (a,b,c,d,m,()))) Go.Proofs.Tryd.f106 (ao4 77 tysC ao6 [0,1] isC) (l,a,b,c,d,m,())=(let f:Int×List Ins×List Int×List Int×List (Int×Bool)×Unit:=(a,b,c,d,m,());
 let g:Int×Int×List Ins×List Int×List Int×List (Int×Bool)×Unit:=
  (Option.getD (Option.map (λ(i:Nat)=>(↑i:Int)) (List.findIdx? (λ(n:Int)=>!isC f n) l)) (-1:Int),f);
 let e:Int:=(↑(List.length l):Int);
  Small RU (Sigma.mk (Ty.slice (3:Nat) (Ty.int IntKind.i64)) l)->
  Small RU (Sigma.mk (Ty.slice (52:Nat) (Ty.user (0:Nat))) b)->
  Small RU (Sigma.mk (Ty.slice (3:Nat) (Ty.int IntKind.i64)) c)->
  Small RU (Sigma.mk (Ty.slice (3:Nat) (Ty.int IntKind.i64)) d)->
  (∃ (p:Int×Unit),l=l/\e=e/\(0:Int)=p.1/\a=a/\b=b/\c=c/\d=d/\m=m/\(0:Int)<=p.1/\p.1<=e/\List.all (List.take (Int.toNat p.1) l) (isC f)=true)/\
  ∀ (p:Int×Unit),
 let e0_1:Bool:=decide (p.1<e);
 let e1_1:Bool:=!isC f (List.getD l (Int.toNat p.1) (0:Int));
  (0:Int)<=p.1/\p.1<=e/\List.all (List.take (Int.toNat p.1) l) (isC f)=true->
  (e0_1=true->
  ((0:Int)<=p.1/\p.1<e)/\
  (((True/\a=a/\b=b/\c=c/\d=d/\True)/\True)/\m=m/\True)/\
  (e1_1=true->(p.1,f)=g)/\
  (e1_1=false->
  ∃ (p':Int×Unit),
  l=l/\
  e=e/\
  IntKind.i64.wrap (p.1+(1:Int))=p'.1/\
  a=a/\
  b=b/\
  c=c/\
  d=d/\
  m=m/\
  ((0:Int)<=p'.1/\p'.1<=e/\List.all (List.take (Int.toNat p'.1) l) (isC f)=true)/\
  List.length l-Int.toNat p'.1<List.length l-Int.toNat p.1))/\
  (e0_1=false->((-1:Int),f)=g)):=by kernel_rfl
theorem cj5 (l:List Int) (a:Int) (b:List Ins) (c d:List Int) (m:List (Int×Bool)):vc (EV [(106,ao4 77 tysC ao6 [0,1] isC)]) noL Go.Proofs.Tryd.f98 (ao5 77 tysC ao6 [0,1] isC) (l,a,b,c,d,m,())=(let e:Int×List Ins×List Int×List Int×List (Int×Bool)×Unit:=(a,b,c,d,m,());
 Small RU (Sigma.mk (Ty.slice (3:Nat) (Ty.int IntKind.i64)) l)->
 Small RU (Sigma.mk (Ty.slice (52:Nat) (Ty.user (0:Nat))) b)->
 Small RU (Sigma.mk (Ty.slice (3:Nat) (Ty.int IntKind.i64)) c)->
 Small RU (Sigma.mk (Ty.slice (3:Nat) (Ty.int IntKind.i64)) d)->
 (((True/\a=a/\b=b/\c=c/\d=d/\True)/\True)/\m=m/\True)/\
 (decide (Option.getD (Option.map (λ(i:Nat)=>(↑i:Int)) (List.findIdx? (λ(n:Int)=>!isC e n) l)) (-1:Int)>=(0:Int)),e)=(!List.all l (isC e),e)):=by kernel_rfl
theorem cj6 (l:List Int) (a:Int) (b:List Ins) (c d:List Int) (m:List (Int×Bool)):vc (EV [(98,ao5 77 tysC ao6 [0,1] isC)]) noL Go.Proofs.Tryd.f78 (cAll 77 tysC objC [0,1] isC) (l,a,b,c,d,m,())=(let e:Int×List Ins×List Int×List Int×List (Int×Bool)×Unit:=(a,b,c,d,m,());
 Small RU (Sigma.mk (Ty.slice (3:Nat) (Ty.int IntKind.i64)) l)->
 Small RU (Sigma.mk (Ty.slice (52:Nat) (Ty.user (0:Nat))) b)->
 Small RU (Sigma.mk (Ty.slice (3:Nat) (Ty.int IntKind.i64)) c)->
 Small RU (Sigma.mk (Ty.slice (3:Nat) (Ty.int IntKind.i64)) d)->
 (((True/\a=a/\b=b/\c=c/\d=d/\True)/\True)/\m=m/\True)/\(!!List.all l (isC e),e)=(List.all l (isC e),e)):=by kernel_rfl
theorem cr4 (n a:Int):vc (EV []) noL Go.Proofs.Tryd.f105 (cIs tysI objI [0] isI) (n,a,())=((decide ((0:Int)<=n)&&decide (n<a),a,())=(isI (a,()) n,a,())):=by kernel_rfl
theorem cj7 (n a:Int):vc (EV [(105,cIs tysI objI [0] isI)]) noL Go.Proofs.Tryd.f99 (cIsN 105 tysI objI [0] isI) (n,a,())=(let b:Bool×Int×Unit:=(!isI (a,()) n,a,());
 (a=a/\True)/\b=b):=by kernel_rfl
theorem cj8 (l:List Int) (a:Int):vc (EV [(99,cIsN 105 tysI objI [0] isI)]) (aX1 l (isI (a,()))) Go.Proofs.Tryd.f106 (ao4 105 tysI objI [0] isI) (l,a,())=(let c:Int×Int×Unit:=(Option.getD (Option.map (λ(i:Nat)=>(↑i:Int)) (List.findIdx? (λ(n:Int)=>!isI (a,()) n) l)) (-1:Int),a,());
 let b:Int:=(↑(List.length l):Int);
  Small RU (Sigma.mk (Ty.slice (3:Nat) (Ty.int IntKind.i64)) l)->
  (∃ (p:Int×Unit),l=l/\b=b/\(0:Int)=p.1/\a=a/\(0:Int)<=p.1/\p.1<=b/\List.all (List.take (Int.toNat p.1) l) (isI (a,()))=true)/\
  ∀ (p:Int×Unit),
 let e0_1:Bool:=decide (p.1<b);
 let e1_1:Bool:=!isI (a,()) (List.getD l (Int.toNat p.1) (0:Int));
  (0:Int)<=p.1/\p.1<=b/\List.all (List.take (Int.toNat p.1) l) (isI (a,()))=true->
  (e0_1=true->
  ((0:Int)<=p.1/\p.1<b)/\
  (True/\a=a/\True)/\
  (e1_1=true->(p.1,a,())=c)/\
  (e1_1=false->
  ∃ (p':Int×Unit),
  l=l/\
  b=b/\
  IntKind.i64.wrap (p.1+(1:Int))=p'.1/\
  a=a/\
  ((0:Int)<=p'.1/\p'.1<=b/\List.all (List.take (Int.toNat p'.1) l) (isI (a,()))=true)/\
  List.length l-Int.toNat p'.1<List.length l-Int.toNat p.1))/\
  (e0_1=false->((-1:Int),a,())=c)):=by kernel_rfl
theorem cj9 (l:List Int) (a:Int):vc (EV [(106,ao4 105 tysI objI [0] isI)]) noL Go.Proofs.Tryd.f98 (ao5 105 tysI objI [0] isI) (l,a,())=(Small RU (Sigma.mk (Ty.slice (3:Nat) (Ty.int IntKind.i64)) l)->
 (True/\a=a/\True)/\
 (decide (Option.getD (Option.map (λ(i:Nat)=>(↑i:Int)) (List.findIdx? (λ(n:Int)=>!isI (a,()) n) l)) (-1:Int)>=(0:Int)),a,())=(!List.all l (isI (a,())),a,())):=by kernel_rfl
theorem ck0 (l:List Int) (a:Int):vc (EV [(98,ao5 105 tysI objI [0] isI)]) noL Go.Proofs.Tryd.f78 (cAll 105 tysI objI [0] isI) (l,a,())=(Small RU (Sigma.mk (Ty.slice (3:Nat) (Ty.int IntKind.i64)) l)->(True/\a=a/\True)/\(!!List.all l (isI (a,())),a,())=(List.all l (isI (a,())),a,())):=by kernel_rfl
theorem cu8 (a:Int) (l:List Int):vc (EV [(78,cAll 105 tysI objI [0] isI)]) noL Go.Proofs.Tryd.f92 cIn (a,l,())=(Small RU (Sigma.mk (Ty.slice (3:Nat) (Ty.int IntKind.i64)) l)->(a=a/\True)/\(List.all l (isI (a,())),())=(List.all l λ(n:den RU.T i64)=>decide ((0:Int)<=n)&&decide (n<a),())):=by kernel_rfl
theorem cr5 (n:Int) (m:List (Place×Int)):vc (EV []) noL Go.Proofs.Tryd.f89 (cIs tysP objP [0] isP) (n,m,())=(let a:List (Place×Int)×Unit:=(m,());
 (Option.isSome (mget (F6 RU (Ty.user (2:Nat))) m (Place.mk false n)),a)=(isP a n,a)):=by kernel_rfl
theorem ck1 (n:Int) (m:List (Place×Int)):vc (EV [(89,cIs tysP objP [0] isP)]) noL Go.Proofs.Tryd.f99 (cIsN 89 tysP ao7 [0] isP) (n,m,())=(let a:Bool×List (Place×Int)×Unit:=(!isP (m,()) n,m,());
 (True/\m=m/\True)/\a=a):=by kernel_rfl
theorem ck2 (l:List Int) (m:List (Place×Int)):vc (EV [(99,cIsN 89 tysP ao7 [0] isP)]) (aX1 l (isP (m,()))) Go.Proofs.Tryd.f106 (ao4 89 tysP ao7 [0] isP) (l,m,())=(let c:Int×List (Place×Int)×Unit:=(Option.getD (Option.map (λ(i:Nat)=>(↑i:Int)) (List.findIdx? (λ(n:Int)=>!isP (m,()) n) l)) (-1:Int),m,());
 let a:Int:=(↑(List.length l):Int);
 let b:List (Place×Int)×Unit:=(m,());
  Small RU (Sigma.mk (Ty.slice (3:Nat) (Ty.int IntKind.i64)) l)->
  (∃ (p:Int×Unit),l=l/\a=a/\(0:Int)=p.1/\m=m/\(0:Int)<=p.1/\p.1<=a/\List.all (List.take (Int.toNat p.1) l) (isP b)=true)/\
  ∀ (p:Int×Unit),
 let e0_1:Bool:=decide (p.1<a);
 let e1_1:Bool:=!isP b (List.getD l (Int.toNat p.1) (0:Int));
  (0:Int)<=p.1/\p.1<=a/\List.all (List.take (Int.toNat p.1) l) (isP b)=true->
  (e0_1=true->
  ((0:Int)<=p.1/\p.1<a)/\
  ((True/\True)/\m=m/\True)/\
  (e1_1=true->(p.1,b)=c)/\
  (e1_1=false->
  ∃ (p':Int×Unit),
  l=l/\
  a=a/\
  IntKind.i64.wrap (p.1+(1:Int))=p'.1/\
  m=m/\
  ((0:Int)<=p'.1/\p'.1<=a/\List.all (List.take (Int.toNat p'.1) l) (isP b)=true)/\List.length l-Int.toNat p'.1<List.length l-Int.toNat p.1))/\
  (e0_1=false->((-1:Int),b)=c)):=by kernel_rfl
theorem ck3 (l:List Int) (m:List (Place×Int)):vc (EV [(106,ao4 89 tysP ao7 [0] isP)]) noL Go.Proofs.Tryd.f98 (ao5 89 tysP ao7 [0] isP) (l,m,())=(let a:List (Place×Int)×Unit:=(m,());
 Small RU (Sigma.mk (Ty.slice (3:Nat) (Ty.int IntKind.i64)) l)->
 ((True/\True)/\m=m/\True)/\
 (decide (Option.getD (Option.map (λ(i:Nat)=>(↑i:Int)) (List.findIdx? (λ(n:Int)=>!isP a n) l)) (-1:Int)>=(0:Int)),a)=(!List.all l (isP a),a)):=by kernel_rfl
theorem ck4 (l:List Int) (m:List (Place×Int)):vc (EV [(98,ao5 89 tysP ao7 [0] isP)]) noL Go.Proofs.Tryd.f78 (cAll 89 tysP objP [0] isP) (l,m,())=(let a:List (Place×Int)×Unit:=(m,());
 Small RU (Sigma.mk (Ty.slice (3:Nat) (Ty.int IntKind.i64)) l)->((True/\True)/\m=m/\True)/\(!!List.all l (isP a),a)=(List.all l (isP a),a)):=by kernel_rfl
theorem bO8 (st e a:Int) (b:List Ins) (c d:List Int):vc (EVy yl1 (some Z3) []) (bo8 b c e) Go.Proofs.Tryd.f97 aW9 (st,e,a,b,c,d,())=(let g:Ins:=Ins.mk (0:Int) (0:Int) [] [] [];
 let m:Int×Int×Unit:=(stOf (C7 G0 (E3 b c) e).1,(C7 G0 (E3 b c) e).2,());
 let h:Int:=(↑(List.length b):Int);
 let i:Int:=(↑(List.length c):Int);
  Small RU (Sigma.mk (Ty.slice (52:Nat) (Ty.user (0:Nat))) b)->
  Small RU (Sigma.mk (Ty.slice (3:Nat) (Ty.int IntKind.i64)) c)->
  Small RU (Sigma.mk (Ty.slice (3:Nat) (Ty.int IntKind.i64)) d)->
  (∃ (p:Int×Int×Int×Unit),
  b=b/\
  h=h/\
  (0:Int)=p.1/\
  st=p.2.1/\
  e=p.2.2.1/\
  a=a/\b=b/\c=c/\d=d/\(0:Int)<=p.1/\p.1<=h/\p.2.1=(0:Int)/\C7 G0 (E9 (List.take (Int.toNat p.1) b)) e=(false,p.2.2.1))/\
  ∀ (p:Int×Int×Int×Unit),
 let e0_1:Bool:=decide (p.1<h);
 let e1_1:Int:=(↑(List.length (List.getD b (Int.toNat p.1) g).from_):Int);
 let e2_1:List Int:=(List.getD b (Int.toNat p.1) g).to;
 let e3_1:List Int:=(List.getD b (Int.toNat p.1) g).from_;
 let f:Int:=p.1;
 let j:Nat:=List.length (List.getD b (Int.toNat f) ins0).from_;
 let k:Int:=(↑(List.length e2_1):Int);
 let l:Nat:=List.length (List.getD b (Int.toNat f) ins0).to;
 let o:Int:=p.2.2.1;
  (0:Int)<=f/\f<=h/\p.2.1=(0:Int)/\C7 G0 (E9 (List.take (Int.toNat f) b)) e=(false,o)->
  (e0_1=true->
  ((0:Int)<=f/\f<h)/\
  (∃ (p_1:Int×Int×Int×Unit),
  b=b/\
  h=h/\
  f=f/\
  e0_1=e0_1/\
  e3_1=e3_1/\
  e1_1=e1_1/\
  (0:Int)=p_1.1/\
  p.2.1=p_1.2.1/\
  o=p_1.2.2.1/\
  a=a/\
  b=b/\
  c=c/\
  d=d/\
  (List.getD b (Int.toNat f) g).op=(List.getD b (Int.toNat f) g).op/\
  (List.getD b (Int.toNat f) g).n=(List.getD b (Int.toNat f) g).n/\
  e2_1=e2_1/\
  e3_1=e3_1/\
  (List.getD b (Int.toNat f) g).body=(List.getD b (Int.toNat f) g).body/\
  (0:Int)<=p_1.1/\
  p_1.1<=(↑j:Int)/\
  p_1.2.1=(0:Int)/\
  C7 G0
  (E9 (List.take (Int.toNat f) b)++
  List.map (λ(n:Int)=>(n,false)) (List.take (Int.toNat p_1.1) (List.getD b (Int.toNat f) ins0).from_))
  e=
  (false,p_1.2.2.1))/\
  ∀ (p:Int×Int×Int×Unit),
 let e0_2:Bool:=decide (p.1<e1_1);
 let e1_2:Int:=p.1;
 let e2_2:Bool:=!!(G0 p.2.2.1 (List.getD e3_1 (Int.toNat e1_2) (0:Int),false)).1;
 let i:Int:=stOf (G0 p.2.2.1 (List.getD e3_1 (Int.toNat e1_2) (0:Int),false)).1;
 let e4_1:Int:=(G0 p.2.2.1 (List.getD e3_1 (Int.toNat e1_2) (0:Int),false)).2;
 let e5_1:Int:=p.2.2.1;
 let e6_1:List Int:=(List.getD b (Int.toNat f) ins0).from_;
  (0:Int)<=e1_2/\
  e1_2<=(↑j:Int)/\
  p.2.1=(0:Int)/\C7 G0 (E9 (List.take (Int.toNat f) b)++List.map (λ(n:Int)=>(n,false)) (List.take (Int.toNat e1_2) e6_1)) e=(false,e5_1)->
  (e0_2=true->
  ((0:Int)<=e1_2/\e1_2<e1_1)/\
  p.2.1=(0:Int)/\
  (e2_2=true->(i,e4_1,())=m)/\
  (e2_2=false->
  ∃ (p':Int×Int×Int×Unit),
  b=b/\
  h=h/\
  f=f/\
  e0_1=e0_1/\
  e3_1=e3_1/\
  e1_1=e1_1/\
  IntKind.i64.wrap (e1_2+(1:Int))=p'.1/\
  i=p'.2.1/\
  e4_1=p'.2.2.1/\
  a=a/\
  b=b/\
  c=c/\
  d=d/\
  (List.getD b (Int.toNat f) g).op=(List.getD b (Int.toNat f) g).op/\
  (List.getD b (Int.toNat f) g).n=(List.getD b (Int.toNat f) g).n/\
  e2_1=e2_1/\
  e3_1=e3_1/\
  (List.getD b (Int.toNat f) g).body=(List.getD b (Int.toNat f) g).body/\
  ((0:Int)<=p'.1/\
  p'.1<=(↑j:Int)/\
  p'.2.1=(0:Int)/\
  C7 G0
  (E9 (List.take (Int.toNat f) b)++
  List.map (λ(n:Int)=>(n,false)) (List.take (Int.toNat p'.1) e6_1))
  e=
  (false,p'.2.2.1))/\
  j-Int.toNat p'.1<j-Int.toNat e1_2))/\
  (e0_2=false->
  (∃ (p_1:Int×Int×Int×Unit),
  b=b/\
  h=h/\
  f=f/\
  e0_1=e0_1/\
  e3_1=e3_1/\
  e1_1=e1_1/\
  e1_2=e1_2/\
  e0_2=e0_2/\
  e2_1=e2_1/\
  k=k/\
  (0:Int)=p_1.1/\
  p.2.1=p_1.2.1/\
  e5_1=p_1.2.2.1/\
  a=a/\
  b=b/\
  c=c/\
  d=d/\
  (List.getD b (Int.toNat f) g).op=(List.getD b (Int.toNat f) g).op/\
  (List.getD b (Int.toNat f) g).n=(List.getD b (Int.toNat f) g).n/\
  e2_1=e2_1/\
  e3_1=e3_1/\
  (List.getD b (Int.toNat f) g).body=(List.getD b (Int.toNat f) g).body/\
  (0:Int)<=p_1.1/\
  p_1.1<=(↑l:Int)/\
  p_1.2.1=(0:Int)/\
  C7 G0
  (E9 (List.take (Int.toNat f) b)++List.map (λ(n:Int)=>(n,false)) e6_1++
  List.map (λ(n:Int)=>(n,true)) (List.take (Int.toNat p_1.1) (List.getD b (Int.toNat f) ins0).to))
  e=
  (false,p_1.2.2.1))/\
  ∀ (p:Int×Int×Int×Unit),
 let e0_3:Bool:=!!(G0 p.2.2.1 (List.getD e2_1 (Int.toNat p.1) (0:Int),true)).1;
 let e1_3:Int:=stOf (G0 p.2.2.1 (List.getD e2_1 (Int.toNat p.1) (0:Int),true)).1;
 let e2_3:Int:=(G0 p.2.2.1 (List.getD e2_1 (Int.toNat p.1) (0:Int),true)).2;
 let i:List (Int×Bool):=E9 (List.take (Int.toNat f) b)++List.map (λ(n:Int)=>(n,false)) e6_1;
 let e4_2:Int:=p.1;
 let j:Bool:=decide (e4_2<k);
 let e6_2:Int:=p.2.2.1;
  (0:Int)<=e4_2/\
  e4_2<=(↑l:Int)/\
  p.2.1=(0:Int)/\
  C7 G0 (i++List.map (λ(n:Int)=>(n,true)) (List.take (Int.toNat e4_2) (List.getD b (Int.toNat f) ins0).to)) e=(false,e6_2)->
  (j=true->
  ((0:Int)<=e4_2/\e4_2<k)/\
  p.2.1=(0:Int)/\
  (e0_3=true->(e1_3,e2_3,())=m)/\
  (e0_3=false->
  ∃ (p':Int×Int×Int×Unit),
  b=b/\
  h=h/\
  f=f/\
  e0_1=e0_1/\
  e3_1=e3_1/\
  e1_1=e1_1/\
  e1_2=e1_2/\
  e0_2=e0_2/\
  e2_1=e2_1/\
  k=k/\
  IntKind.i64.wrap (e4_2+(1:Int))=p'.1/\
  e1_3=p'.2.1/\
  e2_3=p'.2.2.1/\
  a=a/\
  b=b/\
  c=c/\
  d=d/\
  (List.getD b (Int.toNat f) g).op=(List.getD b (Int.toNat f) g).op/\
  (List.getD b (Int.toNat f) g).n=(List.getD b (Int.toNat f) g).n/\
  e2_1=e2_1/\
  e3_1=e3_1/\
  (List.getD b (Int.toNat f) g).body=(List.getD b (Int.toNat f) g).body/\
  ((0:Int)<=p'.1/\
  p'.1<=(↑l:Int)/\
  p'.2.1=(0:Int)/\
  C7 G0
  (i++
  List.map (λ(n:Int)=>(n,true))
  (List.take (Int.toNat p'.1) (List.getD b (Int.toNat f) ins0).to))
  e=
  (false,p'.2.2.1))/\
  l-Int.toNat p'.1<l-Int.toNat e4_2))/\
  (j=false->
  ∃ (p':Int×Int×Int×Unit),
  b=b/\
  h=h/\
  IntKind.i64.wrap (f+(1:Int))=p'.1/\
  p.2.1=p'.2.1/\
  e6_2=p'.2.2.1/\
  a=a/\
  b=b/\
  c=c/\
  d=d/\
  ((0:Int)<=p'.1/\
  p'.1<=h/\p'.2.1=(0:Int)/\C7 G0 (E9 (List.take (Int.toNat p'.1) b)) e=(false,p'.2.2.1))/\
  List.length b-Int.toNat p'.1<List.length b-Int.toNat f)))/\
  (e0_1=false->
  (∃ (p_1:Int×Int×Int×Unit),
  b=b/\
  h=h/\
  f=f/\
  e0_1=e0_1/\
  c=c/\
  i=i/\
  (0:Int)=p_1.1/\
  p.2.1=p_1.2.1/\
  o=p_1.2.2.1/\
  a=a/\
  b=b/\
  c=c/\
  d=d/\
  (0:Int)<=p_1.1/\
  p_1.1<=i/\
  p_1.2.1=(0:Int)/\
  C7 G0 (E9 b++List.map (λ(n:Int)=>(n,false)) (List.take (Int.toNat p_1.1) c)) e=(false,p_1.2.2.1))/\
  ∀ (p:Int×Int×Int×Unit),
 let g:Bool:=!!(G0 p.2.2.1 (List.getD c (Int.toNat p.1) (0:Int),false)).1;
 let e1_2:Int:=stOf (G0 p.2.2.1 (List.getD c (Int.toNat p.1) (0:Int),false)).1;
 let e2_2:Int:=(G0 p.2.2.1 (List.getD c (Int.toNat p.1) (0:Int),false)).2;
 let e3_2:Int:=p.1;
 let e4_1:Bool:=decide (e3_2<i);
 let j:Int:=p.2.2.1;
  (0:Int)<=e3_2/\e3_2<=i/\p.2.1=(0:Int)/\C7 G0 (E9 b++List.map (λ(n:Int)=>(n,false)) (List.take (Int.toNat e3_2) c)) e=(false,j)->
  (e4_1=true->
  ((0:Int)<=e3_2/\e3_2<i)/\
  p.2.1=(0:Int)/\
  (g=true->(e1_2,e2_2,())=m)/\
  (g=false->
  ∃ (p':Int×Int×Int×Unit),
  b=b/\
  h=h/\
  f=f/\
  e0_1=e0_1/\
  c=c/\
  i=i/\
  IntKind.i64.wrap (e3_2+(1:Int))=p'.1/\
  e1_2=p'.2.1/\
  e2_2=p'.2.2.1/\
  a=a/\
  b=b/\
  c=c/\
  d=d/\
  ((0:Int)<=p'.1/\
  p'.1<=i/\
  p'.2.1=(0:Int)/\
  C7 G0 (E9 b++List.map (λ(n:Int)=>(n,false)) (List.take (Int.toNat p'.1) c)) e=(false,p'.2.2.1))/\
  List.length c-Int.toNat p'.1<List.length c-Int.toNat e3_2))/\
  (e4_1=false->(p.2.1,j,())=m))):=by kernel_rfl
theorem bO9 (st e:Int) (m:List (Int×Bool)) (x:Int) (y:List Ins) (z w:List Int) (a:Int) (b:List Ins) (c d:List Int):vc (EVy yl2 (some Z4) []) (bo9 x b c e m) Go.Proofs.Tryd.f97 aX0 (st,e,m,x,y,z,w,a,b,c,d,())=(let r:Int×Int×List (Int×Bool)×Int×List Ins×List Int×List Int×Unit:=
  (stOf (C7 (E7 x) (E3 b c) (e,m)).1,(C7 (E7 x) (E3 b c) (e,m)).2.1,(C7 (E7 x) (E3 b c) (e,m)).2.2,x,y,z,w,());
 let f:Ins:=Ins.mk (0:Int) (0:Int) [] [] [];
 let s:Int×List Ins×List Int×List Int×Unit:=(x,y,z,w,());
 let h:Int:=(↑(List.length b):Int);
 let j:Int×List (Int×Bool):=(e,m);
 let i:Int:=(↑(List.length c):Int);
  Small RU (Sigma.mk (Ty.slice (52:Nat) (Ty.user (0:Nat))) y)->
  Small RU (Sigma.mk (Ty.slice (3:Nat) (Ty.int IntKind.i64)) z)->
  Small RU (Sigma.mk (Ty.slice (3:Nat) (Ty.int IntKind.i64)) w)->
  Small RU (Sigma.mk (Ty.slice (52:Nat) (Ty.user (0:Nat))) b)->
  Small RU (Sigma.mk (Ty.slice (3:Nat) (Ty.int IntKind.i64)) c)->
  Small RU (Sigma.mk (Ty.slice (3:Nat) (Ty.int IntKind.i64)) d)->
  (∃ (p:Int×Int×Int×List (Int×Bool)×Unit),
  b=b/\
  h=h/\
  (0:Int)=p.1/\
  st=p.2.1/\
  e=p.2.2.1/\
  m=p.2.2.2.1/\
  x=x/\
  y=y/\
  z=z/\
  w=w/\
  a=a/\
  b=b/\
  c=c/\
  d=d/\
  (0:Int)<=p.1/\
  p.1<=h/\p.2.1=(0:Int)/\C7 (E7 x) (E9 (List.take (Int.toNat p.1) b)) j=(false,p.2.2.1,p.2.2.2.1))/\
  ∀ (p:Int×Int×Int×List (Int×Bool)×Unit),
 let e0_1:Int:=(↑(List.length (List.getD b (Int.toNat p.1) f).from_):Int);
 let e1_1:Bool:=decide (p.1<h);
 let e2_1:List Int:=(List.getD b (Int.toNat p.1) f).to;
 let e3_1:Int:=p.1;
 let e4_1:List (Int×Bool):=p.2.2.2.1;
 let e5_1:Int:=p.2.2.1;
 let g:List Int:=(List.getD b (Int.toNat e3_1) f).from_;
 let k:Int:=p.2.1;
 let l:Nat:=List.length (List.getD b (Int.toNat e3_1) ins0).from_;
 let q:Int:=(↑(List.length e2_1):Int);
 let o:Nat:=List.length (List.getD b (Int.toNat e3_1) ins0).to;
  (0:Int)<=e3_1/\e3_1<=h/\k=(0:Int)/\C7 (E7 x) (E9 (List.take (Int.toNat e3_1) b)) j=(false,e5_1,e4_1)->
  (e1_1=true->
  ((0:Int)<=e3_1/\e3_1<h)/\
  (∃ (p:Int×Int×Int×List (Int×Bool)×Unit),
  b=b/\
  h=h/\
  e3_1=e3_1/\
  e1_1=e1_1/\
  g=g/\
  e0_1=e0_1/\
  (0:Int)=p.1/\
  k=p.2.1/\
  e5_1=p.2.2.1/\
  e4_1=p.2.2.2.1/\
  x=x/\
  y=y/\
  z=z/\
  w=w/\
  a=a/\
  b=b/\
  c=c/\
  d=d/\
  (List.getD b (Int.toNat e3_1) f).op=(List.getD b (Int.toNat e3_1) f).op/\
  (List.getD b (Int.toNat e3_1) f).n=(List.getD b (Int.toNat e3_1) f).n/\
  e2_1=e2_1/\
  g=g/\
  (List.getD b (Int.toNat e3_1) f).body=(List.getD b (Int.toNat e3_1) f).body/\
  (0:Int)<=p.1/\
  p.1<=(↑l:Int)/\
  p.2.1=(0:Int)/\
  C7 (E7 x)
  (E9 (List.take (Int.toNat e3_1) b)++
  List.map (λ(n:Int)=>(n,false)) (List.take (Int.toNat p.1) (List.getD b (Int.toNat e3_1) ins0).from_))
  j=
  (false,p.2.2.1,p.2.2.2.1))/\
  ∀ (p:Int×Int×Int×List (Int×Bool)×Unit),
 let e0_2:Bool:=decide (p.1<e0_1);
 let e1_2:List (Int×Bool):=(E7 x (p.2.2.1,p.2.2.2.1) (List.getD g (Int.toNat p.1) (0:Int),false)).2.2;
 let e2_2:Int:=(E7 x (p.2.2.1,p.2.2.2.1) (List.getD g (Int.toNat p.1) (0:Int),false)).2.1;
 let e3_2:Bool:=!!(E7 x (p.2.2.1,p.2.2.2.1) (List.getD g (Int.toNat p.1) (0:Int),false)).1;
 let e4_2:Int:=stOf (E7 x (p.2.2.1,p.2.2.2.1) (List.getD g (Int.toNat p.1) (0:Int),false)).1;
 let i:Int:=p.1;
 let e6_1:List (Int×Bool):=p.2.2.2.1;
 let k:Int:=p.2.2.1;
 let e8_1:Int:=p.2.1;
 let e9_1:List Int:=(List.getD b (Int.toNat e3_1) ins0).from_;
  (0:Int)<=i/\
  i<=(↑l:Int)/\
  e8_1=(0:Int)/\
  C7 (E7 x) (E9 (List.take (Int.toNat e3_1) b)++List.map (λ(n:Int)=>(n,false)) (List.take (Int.toNat i) e9_1)) j=(false,k,e6_1)->
  (e0_2=true->
  ((0:Int)<=i/\i<e0_1)/\
  (e8_1=(0:Int)/\x=x/\y=y/\z=z/\w=w/\True)/\
  (e3_2=true->(e4_2,e2_2,e1_2,s)=r)/\
  (e3_2=false->
  ∃ (p':Int×Int×Int×List (Int×Bool)×Unit),
  b=b/\
  h=h/\
  e3_1=e3_1/\
  e1_1=e1_1/\
  g=g/\
  e0_1=e0_1/\
  IntKind.i64.wrap (i+(1:Int))=p'.1/\
  e4_2=p'.2.1/\
  e2_2=p'.2.2.1/\
  e1_2=p'.2.2.2.1/\
  x=x/\
  y=y/\
  z=z/\
  w=w/\
  a=a/\
  b=b/\
  c=c/\
  d=d/\
  (List.getD b (Int.toNat e3_1) f).op=(List.getD b (Int.toNat e3_1) f).op/\
  (List.getD b (Int.toNat e3_1) f).n=(List.getD b (Int.toNat e3_1) f).n/\
  e2_1=e2_1/\
  g=g/\
  (List.getD b (Int.toNat e3_1) f).body=(List.getD b (Int.toNat e3_1) f).body/\
  ((0:Int)<=p'.1/\
  p'.1<=(↑l:Int)/\
  p'.2.1=(0:Int)/\
  C7 (E7 x)
  (E9 (List.take (Int.toNat e3_1) b)++
  List.map (λ(n:Int)=>(n,false)) (List.take (Int.toNat p'.1) e9_1))
  j=
  (false,p'.2.2.1,p'.2.2.2.1))/\
  l-Int.toNat p'.1<l-Int.toNat i))/\
  (e0_2=false->
  (∃ (p:Int×Int×Int×List (Int×Bool)×Unit),
  b=b/\
  h=h/\
  e3_1=e3_1/\
  e1_1=e1_1/\
  g=g/\
  e0_1=e0_1/\
  i=i/\
  e0_2=e0_2/\
  e2_1=e2_1/\
  q=q/\
  (0:Int)=p.1/\
  e8_1=p.2.1/\
  k=p.2.2.1/\
  e6_1=p.2.2.2.1/\
  x=x/\
  y=y/\
  z=z/\
  w=w/\
  a=a/\
  b=b/\
  c=c/\
  d=d/\
  (List.getD b (Int.toNat e3_1) f).op=(List.getD b (Int.toNat e3_1) f).op/\
  (List.getD b (Int.toNat e3_1) f).n=(List.getD b (Int.toNat e3_1) f).n/\
  e2_1=e2_1/\
  g=g/\
  (List.getD b (Int.toNat e3_1) f).body=(List.getD b (Int.toNat e3_1) f).body/\
  (0:Int)<=p.1/\
  p.1<=(↑o:Int)/\
  p.2.1=(0:Int)/\
  C7 (E7 x)
  (E9 (List.take (Int.toNat e3_1) b)++List.map (λ(n:Int)=>(n,false)) e9_1++
  List.map (λ(n:Int)=>(n,true))
  (List.take (Int.toNat p.1) (List.getD b (Int.toNat e3_1) ins0).to))
  j=
  (false,p.2.2.1,p.2.2.2.1))/\
  ∀ (p:Int×Int×Int×List (Int×Bool)×Unit),
 let e0_3:Int:=(E7 x (p.2.2.1,p.2.2.2.1) (List.getD e2_1 (Int.toNat p.1) (0:Int),true)).2.1;
 let e1_3:List (Int×Bool):=(E7 x (p.2.2.1,p.2.2.2.1) (List.getD e2_1 (Int.toNat p.1) (0:Int),true)).2.2;
 let e2_3:Bool:=!!(E7 x (p.2.2.1,p.2.2.2.1) (List.getD e2_1 (Int.toNat p.1) (0:Int),true)).1;
 let e3_3:Int:=stOf (E7 x (p.2.2.1,p.2.2.2.1) (List.getD e2_1 (Int.toNat p.1) (0:Int),true)).1;
 let e4_3:Int:=p.1;
 let e5_2:List (Int×Bool):=E9 (List.take (Int.toNat e3_1) b)++List.map (λ(n:Int)=>(n,false)) e9_1;
 let e6_2:List (Int×Bool):=p.2.2.2.1;
 let k:Int:=p.2.2.1;
 let l:Bool:=decide (e4_3<q);
 let e9_2:Int:=p.2.1;
  (0:Int)<=e4_3/\
  e4_3<=(↑o:Int)/\
  e9_2=(0:Int)/\
  C7 (E7 x) (e5_2++List.map (λ(n:Int)=>(n,true)) (List.take (Int.toNat e4_3) (List.getD b (Int.toNat e3_1) ins0).to)) j=
  (false,k,e6_2)->
  (l=true->
  ((0:Int)<=e4_3/\e4_3<q)/\
  (e9_2=(0:Int)/\x=x/\y=y/\z=z/\w=w/\True)/\
  (e2_3=true->(e3_3,e0_3,e1_3,s)=r)/\
  (e2_3=false->
  ∃ (p':Int×Int×Int×List (Int×Bool)×Unit),
  b=b/\
  h=h/\
  e3_1=e3_1/\
  e1_1=e1_1/\
  g=g/\
  e0_1=e0_1/\
  i=i/\
  e0_2=e0_2/\
  e2_1=e2_1/\
  q=q/\
  IntKind.i64.wrap (e4_3+(1:Int))=p'.1/\
  e3_3=p'.2.1/\
  e0_3=p'.2.2.1/\
  e1_3=p'.2.2.2.1/\
  x=x/\
  y=y/\
  z=z/\
  w=w/\
  a=a/\
  b=b/\
  c=c/\
  d=d/\
  (List.getD b (Int.toNat e3_1) f).op=(List.getD b (Int.toNat e3_1) f).op/\
  (List.getD b (Int.toNat e3_1) f).n=(List.getD b (Int.toNat e3_1) f).n/\
  e2_1=e2_1/\
  g=g/\
  (List.getD b (Int.toNat e3_1) f).body=(List.getD b (Int.toNat e3_1) f).body/\
  ((0:Int)<=p'.1/\
  p'.1<=(↑o:Int)/\
  p'.2.1=(0:Int)/\
  C7 (E7 x)
  (e5_2++
  List.map (λ(n:Int)=>(n,true))
  (List.take (Int.toNat p'.1) (List.getD b (Int.toNat e3_1) ins0).to))
  j=
  (false,p'.2.2.1,p'.2.2.2.1))/\
  o-Int.toNat p'.1<o-Int.toNat e4_3))/\
  (l=false->
  ∃ (p':Int×Int×Int×List (Int×Bool)×Unit),
  b=b/\
  h=h/\
  IntKind.i64.wrap (e3_1+(1:Int))=p'.1/\
  e9_2=p'.2.1/\
  k=p'.2.2.1/\
  e6_2=p'.2.2.2.1/\
  x=x/\
  y=y/\
  z=z/\
  w=w/\
  a=a/\
  b=b/\
  c=c/\
  d=d/\
  ((0:Int)<=p'.1/\
  p'.1<=h/\
  p'.2.1=(0:Int)/\
  C7 (E7 x) (E9 (List.take (Int.toNat p'.1) b)) j=(false,p'.2.2.1,p'.2.2.2.1))/\
  List.length b-Int.toNat p'.1<List.length b-Int.toNat e3_1)))/\
  (e1_1=false->
  (∃ (p:Int×Int×Int×List (Int×Bool)×Unit),
  b=b/\
  h=h/\
  e3_1=e3_1/\
  e1_1=e1_1/\
  c=c/\
  i=i/\
  (0:Int)=p.1/\
  k=p.2.1/\
  e5_1=p.2.2.1/\
  e4_1=p.2.2.2.1/\
  x=x/\
  y=y/\
  z=z/\
  w=w/\
  a=a/\
  b=b/\
  c=c/\
  d=d/\
  (0:Int)<=p.1/\
  p.1<=i/\
  p.2.1=(0:Int)/\
  C7 (E7 x) (E9 b++List.map (λ(n:Int)=>(n,false)) (List.take (Int.toNat p.1) c)) j=
  (false,p.2.2.1,p.2.2.2.1))/\
  ∀ (p:Int×Int×Int×List (Int×Bool)×Unit),
 let e0_2:Int:=(E7 x (p.2.2.1,p.2.2.2.1) (List.getD c (Int.toNat p.1) (0:Int),false)).2.1;
 let f:List (Int×Bool):=(E7 x (p.2.2.1,p.2.2.2.1) (List.getD c (Int.toNat p.1) (0:Int),false)).2.2;
 let e2_2:Bool:=!!(E7 x (p.2.2.1,p.2.2.2.1) (List.getD c (Int.toNat p.1) (0:Int),false)).1;
 let e3_2:Int:=stOf (E7 x (p.2.2.1,p.2.2.2.1) (List.getD c (Int.toNat p.1) (0:Int),false)).1;
 let e4_2:Int:=p.1;
 let e5_2:List (Int×Bool):=p.2.2.2.1;
 let g:Int:=p.2.2.1;
 let k:Bool:=decide (e4_2<i);
 let l:Int:=p.2.1;
  (0:Int)<=e4_2/\e4_2<=i/\l=(0:Int)/\C7 (E7 x) (E9 b++List.map (λ(n:Int)=>(n,false)) (List.take (Int.toNat e4_2) c)) j=(false,g,e5_2)->
  (k=true->
  ((0:Int)<=e4_2/\e4_2<i)/\
  (l=(0:Int)/\x=x/\y=y/\z=z/\w=w/\True)/\
  (e2_2=true->(e3_2,e0_2,f,s)=r)/\
  (e2_2=false->
  ∃ (p':Int×Int×Int×List (Int×Bool)×Unit),
  b=b/\
  h=h/\
  e3_1=e3_1/\
  e1_1=e1_1/\
  c=c/\
  i=i/\
  IntKind.i64.wrap (e4_2+(1:Int))=p'.1/\
  e3_2=p'.2.1/\
  e0_2=p'.2.2.1/\
  f=p'.2.2.2.1/\
  x=x/\
  y=y/\
  z=z/\
  w=w/\
  a=a/\
  b=b/\
  c=c/\
  d=d/\
  ((0:Int)<=p'.1/\
  p'.1<=i/\
  p'.2.1=(0:Int)/\
  C7 (E7 x) (E9 b++List.map (λ(n:Int)=>(n,false)) (List.take (Int.toNat p'.1) c)) j=
  (false,p'.2.2.1,p'.2.2.2.1))/\
  List.length c-Int.toNat p'.1<List.length c-Int.toNat e4_2))/\
  (k=false->(l,g,e5_2,s)=r))):=by kernel_rfl
theorem bp0:C9 prog RG 76 cNamed:=E8 B9 (λ_=>noL) (by kernel_rfl) (by kernel_rfl) (by kernel_rfl) λ(a,b,c,d,()) _=>(ca7 a b c d).mpr (by
 dsimp only;intros;rfl)
theorem bf9 {is:Int->Bool}:∀ {l:List Int} {m:Nat},(l.take m).all is=true->m<l.length->(!is (l.getD m 0))=true->l.findIdx? (λn=>!is n)=some m
 |x::r,0,_,_,h=>by simp only [List.getD_cons_zero] at h;simp [List.findIdx?_cons,h]
 |x::r,m+1,h1,h2,h=>by simp only [List.take_succ_cons,List.all_cons,cv6] at h1;have:=bf9 (is:=is) (l:=r) (m:=m) h1.2 (by simpa using h2) (by simpa using h);simp [List.findIdx?_cons,h1.1,this]
theorem bx3 {is:Int->Bool} {l:List Int} (h:l.all is=true):l.findIdx? (λn=>!is n)=none:=by rw [List.findIdx?_eq_none_iff];intro x a;rw [cy5.1 h x a];rfl
theorem bp1 (is:Int->Bool) (l:List Int):decide (((l.findIdx? (λn=>!is n)).map (λ(i:Nat)=>(i:Int))).getD (-1)>=0)=!(l.all is):=by
 cases h:l.all is with
 |true=>rw [bx3 h];rfl
 |false=>
  cases hf:l.findIdx? (λn=>!is n) with
  |none=>
   rw [List.findIdx?_eq_none_iff] at hf;have:l.all is=true:=cy5.2 λx a=>by have:=hf x a;simpa using this
   rw [h] at this;cases this
  |some i=>simp
theorem bp2 {T:Type} (is:Int->Bool) (l:List Int) (e:T) (hl:l.length<=140737488355328) {R:Int×T} (d:R=(((l.findIdx? (λn=>!is n)).map (λ(i:Nat)=>(i:Int))).getD (-1),e)):
  (∃ p:Int×Unit,(0:Int)=p.1/\0<=p.1/\p.1<=(l.length:Int)/\(l.take p.1.toNat).all is=true)/\
  ∀ p:Int×Unit,0<=p.1/\p.1<=(l.length:Int)/\(l.take p.1.toNat).all is=true->
   (decide (p.1<(l.length:Int))=true->(0<=p.1/\p.1<(l.length:Int))/\((!is (l.getD p.1.toNat 0))=true->(p.1,e)=R)/\
    ((!is (l.getD p.1.toNat 0))=false->∃ p':Int×Unit,IntKind.i64.wrap (p.1+1)=p'.1/\(0<=p'.1/\p'.1<=(l.length:Int)/\(l.take p'.1.toNat).all is=true)/\l.length-p'.1.toNat<l.length-p.1.toNat))/\
   (decide (p.1<(l.length:Int))=false->((-1:Int),e)=R):=by
 refine ⟨⟨(0,()),rfl,Int.le_refl _,by dsimp only;omega,by simp⟩,?_⟩;rintro ⟨i,⟨⟩⟩ ⟨h0,h1,h2⟩;dsimp only at h0 h1 h2 |-;obtain ⟨m,rfl⟩:=cv9 h0;simp only [cv7] at h2 |-;refine ⟨λa=>?_,λb=>?_⟩
 .have a:(m:Int)<l.length:=cw3 a;refine ⟨⟨h0,a⟩,λc=>?_,λc=>⟨((m+1:Nat),()),B5 (by omega) hl,⟨by omega,by dsimp only;omega,?_⟩,by dsimp only;omega⟩⟩
  .rw [d,bf9 h2 (by omega) c];rfl
  .rw [cv7,A4 (by omega) 0,List.all_append,h2];simpa using c
 .have f:m=l.length:=by have:¬ (m:Int)<l.length:=cw2 b;omega
  subst f;rw [cy3] at h2;rw [d,bx3 h2];rfl
theorem cr6 (n a:Int) (b:List Ins) (c d:List Int) (m:List (Int×Bool)):vc (EV []) noL Go.Proofs.Tryd.f77 (cIs tysC objC [0,1] isC) (n,a,b,c,d,m,()):=(cr3 n a b c d m).mpr (by
 dsimp only;intros;rfl)
theorem bP0:C9 prog RG 77 (cIs tysC objC [0,1] isC):=E8 B9 (λ_=>noL) (by kernel_rfl) (by kernel_rfl) (by kernel_rfl) λ(n,a,b,c,d,m,()) _=>cr6 n a b c d m
theorem ck5 (n a:Int) (b:List Ins) (c d:List Int) (m:List (Int×Bool)):vc (EV [(77,cIs tysC objC [0,1] isC)]) noL Go.Proofs.Tryd.f99 (cIsN 77 tysC ao6 [0,1] isC) (n,a,b,c,d,m,()):=(cj3 n a b c d m).mpr (by
 dsimp only;intros;simp)
theorem bC4:C9 prog RG 99 (cIsN 77 tysC ao6 [0,1] isC):=E8 (A7 bP0 B9) (λ_=>noL) (by kernel_rfl) (by kernel_rfl) (by kernel_rfl) λ(n,a,b,c,d,m,()) _=>ck5 n a b c d m
theorem ck6 (l:List Int) (a:Int) (b:List Ins) (c d:List Int) (m:List (Int×Bool)):vc (EV [(99,cIsN 77 tysC ao6 [0,1] isC)]) (aX1 l (isC (a,b,c,d,m,()))) Go.Proofs.Tryd.f106 (ao4 77 tysC ao6 [0,1] isC) (l,a,b,c,d,m,()):=(cj4 l a b c d m).mpr (by
 dsimp only;intro hs _ _ _;simp only [true_and,and_true];exact bp2 (isC (a,b,c,d,m,())) l _ hs.len rfl)
theorem bC5:C9 prog RG 106 (ao4 77 tysC ao6 [0,1] isC):=E8 (A7 bC4 B9) (λp=>aX1 p.1 (isC p.2)) (by kernel_rfl) (by kernel_rfl) (by kernel_rfl) λ(l,a,b,c,d,m,()) _=>ck6 l a b c d m
theorem ck7 (l:List Int) (a:Int) (b:List Ins) (c d:List Int) (m:List (Int×Bool)):vc (EV [(106,ao4 77 tysC ao6 [0,1] isC)]) noL Go.Proofs.Tryd.f98 (ao5 77 tysC ao6 [0,1] isC) (l,a,b,c,d,m,()):=(cj5 l a b c d m).mpr (by
 dsimp only;intros;rw [bp1];simp)
theorem bC6:C9 prog RG 98 (ao5 77 tysC ao6 [0,1] isC):=E8 (A7 bC5 B9) (λ_=>noL) (by kernel_rfl) (by kernel_rfl) (by kernel_rfl) λ(l,a,b,c,d,m,()) _=>ck7 l a b c d m
theorem ck8 (l:List Int) (a:Int) (b:List Ins) (c d:List Int) (m:List (Int×Bool)):vc (EV [(98,ao5 77 tysC ao6 [0,1] isC)]) noL Go.Proofs.Tryd.f78 (cAll 77 tysC objC [0,1] isC) (l,a,b,c,d,m,()):=(cj6 l a b c d m).mpr (by
 dsimp only;intros;simp)
theorem bC7:C9 prog RG 78 (cAll 77 tysC objC [0,1] isC):=E8 (A7 bC6 B9) (λ_=>noL) (by kernel_rfl) (by kernel_rfl) (by kernel_rfl) λ(l,a,b,c,d,m,()) _=>ck8 l a b c d m
theorem cr7 (n a:Int):vc (EV []) noL Go.Proofs.Tryd.f105 (cIs tysI objI [0] isI) (n,a,()):=(cr4 n a).mpr rfl
theorem bP1:C9 prog RG 105 (cIs tysI objI [0] isI):=E8 B9 (λ_=>noL) (by kernel_rfl) (by kernel_rfl) (by kernel_rfl) λ(n,a,()) _=>cr7 n a
theorem ck9 (n a:Int):vc (EV [(105,cIs tysI objI [0] isI)]) noL Go.Proofs.Tryd.f99 (cIsN 105 tysI objI [0] isI) (n,a,()):=(cj7 n a).mpr (by simp)
theorem bC8:C9 prog RG 99 (cIsN 105 tysI objI [0] isI):=E8 (A7 bP1 B9) (λ_=>noL) (by kernel_rfl) (by kernel_rfl) (by kernel_rfl) λ(n,a,()) _=>ck9 n a
theorem cl0 (l:List Int) (a:Int):vc (EV [(99,cIsN 105 tysI objI [0] isI)]) (aX1 l (isI (a,()))) Go.Proofs.Tryd.f106 (ao4 105 tysI objI [0] isI) (l,a,()):=(cj8 l a).mpr (by
 dsimp only;intro hs;simp only [true_and,and_true];exact bp2 (isI (a,())) l _ hs.len rfl)
theorem bC9:C9 prog RG 106 (ao4 105 tysI objI [0] isI):=E8 (A7 bC8 B9) (λp=>aX1 p.1 (isI p.2)) (by kernel_rfl) (by kernel_rfl) (by kernel_rfl) λ(l,a,()) _=>cl0 l a
theorem cl1 (l:List Int) (a:Int):vc (EV [(106,ao4 105 tysI objI [0] isI)]) noL Go.Proofs.Tryd.f98 (ao5 105 tysI objI [0] isI) (l,a,()):=(cj9 l a).mpr (by
 intros;rw [bp1];simp)
theorem bD0:C9 prog RG 98 (ao5 105 tysI objI [0] isI):=E8 (A7 bC9 B9) (λ_=>noL) (by kernel_rfl) (by kernel_rfl) (by kernel_rfl) λ(l,a,()) _=>cl1 l a
theorem cl2 (l:List Int) (a:Int):vc (EV [(98,ao5 105 tysI objI [0] isI)]) noL Go.Proofs.Tryd.f78 (cAll 105 tysI objI [0] isI) (l,a,()):=(ck0 l a).mpr (by
 intros;simp)
theorem bD1:C9 prog RG 78 (cAll 105 tysI objI [0] isI):=E8 (A7 bD0 B9) (λ_=>noL) (by kernel_rfl) (by kernel_rfl) (by kernel_rfl) λ(l,a,()) _=>cl2 l a
theorem ca8:C9 prog RG 92 cIn:=E8 (A7 bD1 B9) (λ_=>noL) (by kernel_rfl) (by kernel_rfl) (by kernel_rfl) λ(a,l,()) _=>(cu8 a l).mpr (by
 intros;exact ⟨⟨rfl,trivial⟩,rfl⟩)
theorem cr8 (n:Int) (m:List (Place×Int)):vc (EV []) noL Go.Proofs.Tryd.f89 (cIs tysP objP [0] isP) (n,m,()):=(cr5 n m).mpr rfl
theorem bP2:C9 prog RG 89 (cIs tysP objP [0] isP):=E8 B9 (λ_=>noL) (by kernel_rfl) (by kernel_rfl) (by kernel_rfl) λ(n,m,()) _=>cr8 n m
theorem cl3 (n:Int) (m:List (Place×Int)):vc (EV [(89,cIs tysP objP [0] isP)]) noL Go.Proofs.Tryd.f99 (cIsN 89 tysP ao7 [0] isP) (n,m,()):=(ck1 n m).mpr (by simp)
theorem bD2:C9 prog RG 99 (cIsN 89 tysP ao7 [0] isP):=E8 (A7 bP2 B9) (λ_=>noL) (by kernel_rfl) (by kernel_rfl) (by kernel_rfl) λ(n,m,()) _=>cl3 n m
theorem cl4 (l:List Int) (m:List (Place×Int)):vc (EV [(99,cIsN 89 tysP ao7 [0] isP)]) (aX1 l (isP (m,()))) Go.Proofs.Tryd.f106 (ao4 89 tysP ao7 [0] isP) (l,m,()):=(ck2 l m).mpr (by
 dsimp only;intro hs;simp only [true_and,and_true];exact bp2 (isP (m,())) l _ hs.len rfl)
theorem bD3:C9 prog RG 106 (ao4 89 tysP ao7 [0] isP):=E8 (A7 bD2 B9) (λp=>aX1 p.1 (isP p.2)) (by kernel_rfl) (by kernel_rfl) (by kernel_rfl) λ(l,m,()) _=>cl4 l m
theorem cl5 (l:List Int) (m:List (Place×Int)):vc (EV [(106,ao4 89 tysP ao7 [0] isP)]) noL Go.Proofs.Tryd.f98 (ao5 89 tysP ao7 [0] isP) (l,m,()):=(ck3 l m).mpr (by
 dsimp only;intros;rw [bp1];simp)
theorem bD4:C9 prog RG 98 (ao5 89 tysP ao7 [0] isP):=E8 (A7 bD3 B9) (λ_=>noL) (by kernel_rfl) (by kernel_rfl) (by kernel_rfl) λ(l,m,()) _=>cl5 l m
theorem cl6 (l:List Int) (m:List (Place×Int)):vc (EV [(98,ao5 89 tysP ao7 [0] isP)]) noL Go.Proofs.Tryd.f78 (cAll 89 tysP objP [0] isP) (l,m,()):=(ck4 l m).mpr (by
 dsimp only;intros;simp)
theorem bD5:C9 prog RG 78 (cAll 89 tysP objP [0] isP):=E8 (A7 bD4 B9) (λ_=>noL) (by kernel_rfl) (by kernel_rfl) (by kernel_rfl) λ(l,m,()) _=>cl6 l m
theorem ah1 {α S:Type} (step:S->α->Bool×S):∀ (l m:List α) (s:S),C7 step (l++m) s=if (C7 step l s).1 then C7 step l s else C7 step m (C7 step l s).2
 |[],m,s=>by simp [C7]
 |x::r,m,s=>by
  simp only [List.cons_append,C7];split
  .rename_i h;simp
  .exact ah1 step r m _
theorem ca9 {α S:Type} {step:S->α->Bool×S} {l:List α} {s s':S} (h:C7 step l s=(false,s')) (m:List α):C7 step (l++m) s=C7 step m s':=by rw [ah1,h];simp
theorem bD6 {α S:Type} {step:S->α->Bool×S} {l:List α} {s s':S} (h:C7 step l s=(true,s')) (m:List α):C7 step (l++m) s=(true,s'):=by rw [ah1,h];simp
theorem bP3 {α S:Type} (step:S->α->Bool×S) (x:α) (s:S):C7 step [x] s=step s x:=by
 simp only [C7];split
 .rename_i h;exact Prod.ext h.symm rfl
 .rename_i h;exact Prod.ext (by simpa using h) rfl
end Go.Rg
end
section
namespace Go.Rg
open Go Go.VT
theorem az1 {α S:Type} {step:S->α->Bool×S} {P L:List α} {s s':S} (h:P<+:L) (hr:C7 step P s=(true,s')):C7 step L s=(true,s'):=by obtain ⟨r,rfl⟩:=h;exact bD6 hr r
abbrev fr (n:Int):Int×Bool:=(n,false)
theorem ao8 {b:List Ins} {k:Nat} (h:k<b.length):E9 (b.take (k+1))=E9 (b.take k)++((b.getD k ins0).from_.map (λn=>(n,false))++(b.getD k ins0).to.map (λn=>(n,true))):=by rw [A4 h ins0];simp [E9]
theorem aX2 (b:List Ins) (k:Nat):E9 (b.take k)<+:E9 b:=by refine ⟨E9 (b.drop k),?_⟩;rw [E9,E9,<-List.flatMap_append,List.take_append_drop];rfl
theorem bP4 {b:List Ins} (c:List Int) {k:Nat} (h:k<b.length) (j:Nat):E9 (b.take k)++(b.getD k ins0).from_.map (λn=>(n,false))++((b.getD k ins0).to.take j).map (λn=>(n,true))<+:E3 b c:=by refine List.IsPrefix.trans ?_ ((aX2 b (k+1)).trans (List.prefix_append _ _));rw [ao8 h,<-cy0];refine ⟨((b.getD k ins0).to.drop j).map (λn=>(n,true)),?_⟩;rw [cy0,<-List.map_append,List.take_append_drop]
theorem bx4 {b:List Ins} (c:List Int) {k:Nat} (h:k<b.length) (j:Nat):E9 (b.take k)++((b.getD k ins0).from_.take j).map (λn=>(n,false))<+:E3 b c:=by refine List.IsPrefix.trans ?_ (bP4 c h 0);refine ⟨((b.getD k ins0).from_.drop j).map (λn=>(n,false)),?_⟩;rw [cy0,<-List.map_append,List.take_append_drop];simp
theorem bP5 (b:List Ins) (c:List Int) (j:Nat):E9 b++(c.take j).map (λn=>(n,false))<+:E3 b c:=by refine ⟨(c.drop j).map (λn=>(n,false)),?_⟩;rw [cy0,<-List.map_append,List.take_append_drop];rfl
theorem aQ8 {α S:Type} {step:S->α->Bool×S} {A:List α} {l:List Int} {k:Nat} (mk:Int->α) {s s':S} (h:C7 step (A++(l.take k).map mk) s=(false,s')) (a:k<l.length):C7 step (A++(l.take (k+1)).map mk) s=step s' (mk (l.getD k 0)):=by rw [A4 a 0,List.map_append,<-cy0,ca9 h];exact bP3 _ _ _
theorem aI4 {b:List Ins} (a:Small RU ⟨.slice 52 (.user 0),b⟩) {k:Nat} (h:k<b.length):(b.getD k ins0).from_.length<=140737488355328:=by
 have c:b[k]? =some (b.getD k ins0):=by rw [cw7,cv5 h];rfl
 exact (a.elem (x:=b.getD k ins0) c (j:=3) (d:=⟨.slice 3 (.int .i64),(b.getD k ins0).from_⟩) rfl).len
theorem aI5 {b:List Ins} (a:Small RU ⟨.slice 52 (.user 0),b⟩) {k:Nat} (h:k<b.length):(b.getD k ins0).to.length<=140737488355328:=by
 have c:b[k]? =some (b.getD k ins0):=by rw [cw7,cv5 h];rfl
 exact (a.elem (x:=b.getD k ins0) c (j:=2) (d:=⟨.slice 3 (.int .i64),(b.getD k ins0).to⟩) rfl).len
section
variable {A:List (Int×Bool)} {l:List Int} {mk:Int->Int×Bool} {e:Int} {L:List (Int×Bool)}
theorem bP6 {j:Int×Int×Unit} (hl:l.length<=140737488355328) (c:∀ k,A++(l.take k).map mk<+:L) (f:j=(stOf (C7 G0 L e).1,(C7 G0 L e).2,())) (p:Int×Int×Int×Unit)
  (h:0<=p.1/\p.1<=(l.length:Int)/\p.2.1=0/\C7 G0 (A++(l.take p.1.toNat).map mk) e=(false,p.2.2.1)) (b:decide (p.1<(l.length:Int))=true):
  (0<=p.1/\p.1<(l.length:Int))/\p.2.1=0/\((!!(G0 p.2.2.1 (mk (l.getD p.1.toNat 0))).1)=true->(stOf (G0 p.2.2.1 (mk (l.getD p.1.toNat 0))).1,(G0 p.2.2.1 (mk (l.getD p.1.toNat 0))).2,())=j)/\
   ((!!(G0 p.2.2.1 (mk (l.getD p.1.toNat 0))).1)=false->∃ p':Int×Int×Int×Unit,IntKind.i64.wrap (p.1+1)=p'.1/\stOf (G0 p.2.2.1 (mk (l.getD p.1.toNat 0))).1=p'.2.1/\(G0 p.2.2.1 (mk (l.getD p.1.toNat 0))).2=p'.2.2.1/\
    (0<=p'.1/\p'.1<=(l.length:Int)/\p'.2.1=0/\C7 G0 (A++(l.take p'.1.toNat).map mk) e=(false,p'.2.2.1))/\l.length-p'.1.toNat<l.length-p.1.toNat):=by
 obtain ⟨i,st,s,⟨⟩⟩:=p;obtain ⟨h0,h1,h2,g⟩:=h;dsimp only at h0 h1 h2 g b |-;obtain ⟨m,rfl⟩:=cv9 h0;simp only [cv7,Bool.not_not] at g |-;have b:(m:Int)<l.length:=cw3 b;have a:=aQ8 mk g (by omega);refine ⟨⟨h0,b⟩,h2,λd=>?_,λd=>⟨((m+1:Nat),0,(G0 s (mk (l.getD m 0))).2,()),B5 (by omega) hl,?_,rfl,⟨by omega,by dsimp only;omega,rfl,?_⟩,by dsimp only;omega⟩⟩
 .rw [f,az1 (c (m+1)) (a.trans (Prod.ext d rfl)),d]
 .rw [d];rfl
 .rw [cv7];exact a.trans (Prod.ext d rfl)
theorem bP7 {T:Type} {params:Int} {c:List (Int×Bool)} {R:T} {n:Int×Int×List (Int×Bool)×T} (hl:l.length<=140737488355328) (d:∀ k,A++(l.take k).map mk<+:L) (g:n=(stOf (C7 (E7 params) L (e,c)).1,(C7 (E7 params) L (e,c)).2.1,(C7 (E7 params) L (e,c)).2.2,R)) (p:Int×Int×Int×List (Int×Bool)×Unit)
  (h:0<=p.1/\p.1<=(l.length:Int)/\p.2.1=0/\C7 (E7 params) (A++(l.take p.1.toNat).map mk) (e,c)=(false,p.2.2.1,p.2.2.2.1)) (b:decide (p.1<(l.length:Int))=true):
  (0<=p.1/\p.1<(l.length:Int))/\p.2.1=0/\((!!(E7 params (p.2.2.1,p.2.2.2.1) (mk (l.getD p.1.toNat 0))).1)=true->(stOf (E7 params (p.2.2.1,p.2.2.2.1) (mk (l.getD p.1.toNat 0))).1,(E7 params (p.2.2.1,p.2.2.2.1) (mk (l.getD p.1.toNat 0))).2.1,(E7 params (p.2.2.1,p.2.2.2.1) (mk (l.getD p.1.toNat 0))).2.2,R)=n)/\
   ((!!(E7 params (p.2.2.1,p.2.2.2.1) (mk (l.getD p.1.toNat 0))).1)=false->∃ p':Int×Int×Int×List (Int×Bool)×Unit,IntKind.i64.wrap (p.1+1)=p'.1/\stOf (E7 params (p.2.2.1,p.2.2.2.1) (mk (l.getD p.1.toNat 0))).1=p'.2.1/\(E7 params (p.2.2.1,p.2.2.2.1) (mk (l.getD p.1.toNat 0))).2.1=p'.2.2.1/\(E7 params (p.2.2.1,p.2.2.2.1) (mk (l.getD p.1.toNat 0))).2.2=p'.2.2.2.1/\
    (0<=p'.1/\p'.1<=(l.length:Int)/\p'.2.1=0/\C7 (E7 params) (A++(l.take p'.1.toNat).map mk) (e,c)=(false,p'.2.2.1,p'.2.2.2.1))/\l.length-p'.1.toNat<l.length-p.1.toNat):=by
 obtain ⟨i,st,s,o,⟨⟩⟩:=p;obtain ⟨h0,h1,h2,j⟩:=h;dsimp only at h0 h1 h2 j b |-;obtain ⟨m,rfl⟩:=cv9 h0;simp only [cv7,Bool.not_not] at j |-;have b:(m:Int)<l.length:=cw3 b;have a:=aQ8 mk j (by omega);refine ⟨⟨h0,b⟩,h2,λf=>?_,λf=>⟨((m+1:Nat),0,(E7 params (s,o) (mk (l.getD m 0))).2.1,(E7 params (s,o) (mk (l.getD m 0))).2.2,()),B5 (by omega) hl,?_,rfl,rfl,⟨by omega,by dsimp only;omega,rfl,?_⟩,by dsimp only;omega⟩⟩
 .rw [g,az1 (d (m+1)) (a.trans (Prod.ext f rfl)),f]
 .rw [f];rfl
 .rw [cv7];exact a.trans (Prod.ext f rfl)
end
theorem bP8 (st e a:Int) (b:List Ins) (c d:List Int) (g:st=0):vc (EVy yl1 (some Z3) []) (bo8 b c e) Go.Proofs.Tryd.f97 aW9 (st,e,a,b,c,d,()):=(bO8 st e a b c d).mpr (by
 subst g;intro B C E F t hc _;have u:b.length<=140737488355328:=t.len;have v:c.length<=140737488355328:=hc.len;have h:C=(stOf (C7 G0 (E3 b c) e).1,(C7 G0 (E3 b c) e).2,()):=rfl;have w:B=ins0:=rfl
 clear_value C B
 subst w;dsimp only [E,F];simp only [true_and,and_true];refine ⟨⟨(0,0,e,()),by simp [E9,C7]⟩,?_⟩;rintro ⟨i,st,s,⟨⟩⟩ ⟨h0,h1,h2,o⟩;dsimp only at h0 h1 h2 o |-;subst h2;obtain ⟨k,rfl⟩:=cv9 h0;simp only [cv7] at o |-;refine ⟨λl=>?_,λf=>?_⟩
 .have l:(k:Int)<b.length:=cw3 l;refine ⟨⟨h0,l⟩,⟨(0,0,s,()),rfl,rfl,rfl,Int.le_refl _,by dsimp only;omega,rfl,by simpa using o⟩,λp g=>⟨bP6 (aI4 t (by omega)) (bx4 c (by omega)) h p g,λf=>?_⟩⟩;obtain ⟨j,st,s1,⟨⟩⟩:=p;obtain ⟨j0,G,D,x⟩:=g;dsimp only at j0 G D x f |-;subst D;have H:j.toNat=(b.getD k ins0).from_.length:=by have:¬ j<(b.getD k ins0).from_.length:=cw2 f;omega
  rw [H,cy3] at x;refine ⟨⟨(0,0,s1,()),rfl,rfl,rfl,Int.le_refl _,by dsimp only;omega,rfl,by simpa using x⟩,λp g=>⟨bP6 (aI5 t (by omega)) (bP4 c (by omega)) h p g,λf=>?_⟩⟩;obtain ⟨q,st,s2,⟨⟩⟩:=p;obtain ⟨y,z,r,m⟩:=g;dsimp only at y z r m f |-;subst r;have A:q.toNat=(b.getD k ins0).to.length:=by have:¬ q<(b.getD k ins0).to.length:=cw2 f;omega
  rw [A,cy3] at m;refine ⟨((k+1:Nat),0,s2,()),B5 (by omega) u,rfl,rfl,⟨by omega,by dsimp only;omega,rfl,?_⟩,by dsimp only;omega⟩;rw [cv7,ao8 (by omega),<-cy0];exact m
 .have I:k=b.length:=by have:¬ (k:Int)<b.length:=cw2 f;omega
  subst I;rw [cy3] at o;refine ⟨⟨(0,0,s,()),rfl,rfl,rfl,Int.le_refl _,by dsimp only;omega,rfl,by simpa using o⟩,λp g=>⟨bP6 v (bP5 b c) h p g,λf=>?_⟩⟩;obtain ⟨q,st,s2,⟨⟩⟩:=p;obtain ⟨y,z,r,m⟩:=g;dsimp only at y z r m f |-;subst r;have A:q.toNat=c.length:=by have:¬ q<(c.length:Int):=cw2 f;omega
  rw [A,cy3] at m;rw [h,show E3 b c=E9 b++c.map (λn=>(n,false)) from rfl,m];rfl)
theorem bP9 (st e:Int) (m:List (Int×Bool)) (x:Int) (y:List Ins) (z w:List Int) (a:Int) (b:List Ins) (c d:List Int) (g:st=0):vc (EVy yl2 (some Z4) []) (bo9 x b c e m) Go.Proofs.Tryd.f97 aX0 (st,e,m,x,y,z,w,a,b,c,d,()):=(bO9 st e m x y z w a b c d).mpr (by
 subst g;intro G H K L M N _ _ _ u hc _;have v:b.length<=140737488355328:=u.len;have A:c.length<=140737488355328:=hc.len;have h:G=(stOf (C7 (E7 x) (E3 b c) (e,m)).1,(C7 (E7 x) (E3 b c) (e,m)).2.1,(C7 (E7 x) (E3 b c) (e,m)).2.2,(x,y,z,w,())):=rfl;have B:H=ins0:=rfl
 clear_value G H
 subst B;dsimp only [K,L,M,N];simp only [true_and,and_true];refine ⟨⟨(0,0,e,m,()),by simp [E9,C7]⟩,?_⟩;rintro ⟨i,st,s,mm,⟨⟩⟩ ⟨h0,h1,h2,r⟩;dsimp only at h0 h1 h2 r |-;subst h2;obtain ⟨k,rfl⟩:=cv9 h0;simp only [cv7] at r |-;refine ⟨λl=>?_,λf=>?_⟩
 .have l:(k:Int)<b.length:=cw3 l;refine ⟨⟨h0,l⟩,⟨(0,0,s,mm,()),rfl,rfl,rfl,rfl,Int.le_refl _,by dsimp only;omega,rfl,by simpa using r⟩,λp g=>⟨bP7 (aI4 u (by omega)) (bx4 c (by omega)) h p g,λf=>?_⟩⟩;obtain ⟨j,st,s1,O,⟨⟩⟩:=p;obtain ⟨j0,P,I,C⟩:=g;dsimp only at j0 P I C f |-;subst I;have Q:j.toNat=(b.getD k ins0).from_.length:=by have:¬ j<(b.getD k ins0).from_.length:=cw2 f;omega
  rw [Q,cy3] at C;refine ⟨⟨(0,0,s1,O,()),rfl,rfl,rfl,rfl,Int.le_refl _,by dsimp only;omega,rfl,by simpa using C⟩,λp g=>⟨bP7 (aI5 u (by omega)) (bP4 c (by omega)) h p g,λf=>?_⟩⟩;obtain ⟨q,st,s2,J,⟨⟩⟩:=p;obtain ⟨D,E,t,o⟩:=g;dsimp only at D E t o f |-;subst t;have F:q.toNat=(b.getD k ins0).to.length:=by have:¬ q<(b.getD k ins0).to.length:=cw2 f;omega
  rw [F,cy3] at o;refine ⟨((k+1:Nat),0,s2,J,()),B5 (by omega) v,rfl,rfl,rfl,⟨by omega,by dsimp only;omega,rfl,?_⟩,by dsimp only;omega⟩;rw [cv7,ao8 (by omega),<-cy0];exact o
 .have R:k=b.length:=by have:¬ (k:Int)<b.length:=cw2 f;omega
  subst R;rw [cy3] at r;refine ⟨⟨(0,0,s,mm,()),rfl,rfl,rfl,rfl,Int.le_refl _,by dsimp only;omega,rfl,by simpa using r⟩,λp g=>⟨bP7 A (bP5 b c) h p g,λf=>?_⟩⟩;obtain ⟨q,st,s2,J,⟨⟩⟩:=p;obtain ⟨D,E,t,o⟩:=g;dsimp only at D E t o f |-;subst t;have F:q.toNat=c.length:=by have:¬ q<(c.length:Int):=cw2 f;omega
  rw [F,cy3] at o;rw [h,show E3 b c=E9 b++c.map (λn=>(n,false)) from rfl,o];rfl)
theorem bD7:ItOk itCheck:=by
 intro f k kY mp h Y' l;unfold itCheck at h;cases hf:Nat.beq f 97 with
 |false=>rw [hf] at h;cases h
 |true=>
  have hf:=cv4 hf;subst hf;simp only [Nat.beq_refl,cond_true,List.mem_cons,List.not_mem_nil,or_false,cw5] at h;rcases h with ⟨rfl,rfl,rfl⟩|⟨rfl,rfl,rfl⟩
  .exact ak2 (E:=EVy yl2 (some Z4) []) (bZ4 _ _ _) ⟨Z2 (λx g=>by cases g),λ_ _ _ _ _ h=>(by cases h),λ_ _ _ h=>(by cases h),λk i=>by cases i;exact l,λ_ _ _ _ h=>(by cases h)⟩ bn8 Go.Proofs.Tryd.func97 (by kernel_rfl)
    (λp=>bo9 p.2.2.2.1 p.2.2.2.2.2.2.2.2.1 p.2.2.2.2.2.2.2.2.2.1 p.2.1 p.2.2.1) (λ(st,e,m,x,y,z,w,a,b,c,d,()) j=>bP9 st e m x y z w a b c d j) (by kernel_rfl) rfl
  .exact ak2 (E:=EVy yl1 (some Z3) []) (bZ4 _ _ _) ⟨Z2 (λx g=>by cases g),λ_ _ _ _ _ h=>(by cases h),λ_ _ _ h=>(by cases h),λk i=>by cases i;exact l,λ_ _ _ _ h=>(by cases h)⟩ bn8 Go.Proofs.Tryd.func97 (by kernel_rfl)
    (λp=>bo8 p.2.2.2.1 p.2.2.2.2.1 p.2.1) (λ(st,e,a,b,c,d,()) j=>bP8 st e a b c d j) (by kernel_rfl) rfl
def cCheck:Con RU:=con [(true,4)] as5 [one] [i64] [false] none λp=>(C1 ⟨p.1,p.2.1,p.2.2.1,p.2.2.2.1⟩,())
def aa2 (m:List (Int×Bool)) (l:List Int):List (Int×Bool):=l.foldl (λm n=>putB m n true) m
def bQ0 (params:Int) (code:List Ins):Nat->St RU->Ann RU:=λk s=>match k with
 |2=>⟨[],[.slot 64,.row 3776],[i64,mapB],λp=>0<=p.1/\p.1<=code.length/\p.2.1=aa2 [] (wr (code.take p.1.toNat))/\D3 params [] (code.take p.1.toNat)=true,λp=>code.length-p.1.toNat,[]⟩
 |3=>⟨[],[.slot 76,.row 3776],[i64,mapB],λp=>0<=p.1/\p.1<=(code.getD (s.intAt 64).toNat ins0).to.length/\p.2.1=aa2 [] (wr (code.take (s.intAt 64).toNat)++(code.getD (s.intAt 64).toNat ins0).to.take p.1.toNat),λp=>(code.getD (s.intAt 64).toNat ins0).to.length-p.1.toNat,[]⟩
 |_=>⟨[],[],[],λ_=>False,λ_=>0,[]⟩
end Go.Rg
end
section
namespace Go.Rg
open Go Go.VT
theorem cb0 (a:Int) (b:List Ins) (c d:List Int):vc (EVd [] itCheck [(76,cNamed),(78,cAll 77 tysC objC [0,1] isC)]) (bQ0 a b) Go.Proofs.Tryd.f41 cCheck (a,b,c,d,())=(let f:Bool:=decide ((↑(List.length b):Int) >(4000:Int));
 let g:Int:=(C7 (E7 a) (E3 b c) ((C7 G0 (E3 b c) (0:Int)).2,[])).2.1;
 let h:Bool:=decide (a<(0:Int))||decide (a >(4000:Int));
 let i:Int:=stOf (C7 (E7 a) (E3 b c) ((C7 G0 (E3 b c) (0:Int)).2,[])).1;
 let e:Ins:=Ins.mk (0:Int) (0:Int) [] [] [];
 let k:List (Int×Bool):=(C7 (E7 a) (E3 b c) ((C7 G0 (E3 b c) (0:Int)).2,[])).2.2;
 let l:Int×Unit:=(C1 (VFun.mk a b c d),());
 let j:Int:=(↑(List.length b):Int);
 let m:Int:=stOf (C7 G0 (E3 b c) (0:Int)).1;
  Small RU (Sigma.mk (Ty.slice (52:Nat) (Ty.user (0:Nat))) b)->
  Small RU (Sigma.mk (Ty.slice (3:Nat) (Ty.int IntKind.i64)) c)->
  Small RU (Sigma.mk (Ty.slice (3:Nat) (Ty.int IntKind.i64)) d)->
  (f=true->((3:Int),())=l)/\
  (f=false->
  (h=true->((2:Int),())=l)/\
  (h=false->
  (∀ (xs:Int×Bool×Int×Int×Unit),
 let f:Bool:=decide (xs.1<(0:Int))||decide (xs.1>=(4000:Int));
 let g:Int×Int×Unit:=xs.2.2;
  g.1=(0:Int)->g.1=(0:Int)/\(f=true->(false,(1:Int),(2:Int),())=Z3.fn xs)/\(f=false->(true,(0:Int),g.2.1,())=Z3.fn xs))/\
  (0:Int)=(0:Int)/\
  (m=(0:Int)->
  (∀ (xs:Int×Bool×Int×Int×List (Int×Bool)×Int×List Ins×List Int×List Int×Unit),
 let f:Int×List Ins×List Int×List Int×Unit:=
  (xs.2.2.2.2.2.1,xs.2.2.2.2.2.2.1,xs.2.2.2.2.2.2.2.1,xs.2.2.2.2.2.2.2.2.1,());
 let g:Bool:=xs.2.1&&(Option.getD (mget (λ(x y:Int)=>x==y) xs.2.2.2.2.1 xs.1) false||decide (xs.1<xs.2.2.2.2.2.1));
 let h:List (Int×Bool):=xs.2.2.2.2.1;
 let i:List Int×List Int×Unit:=xs.2.2.2.2.2.2.2;
 let e:Int×List (Int×Bool)×Int×List Ins×List Int×List Int×Unit:=xs.2.2.2;
 let k:Int:=xs.1;
 let l:Bool×Int×Int×List (Int×Bool)×Int×List Ins×List Int×List Int×Unit:=xs.2;
  l.2.1=(0:Int)->
  Small RU (Sigma.mk (Ty.slice (52:Nat) (Ty.user (0:Nat))) e.2.2.2.1)->
  Small RU (Sigma.mk (Ty.slice (3:Nat) (Ty.int IntKind.i64)) i.1)->
  Small RU (Sigma.mk (Ty.slice (3:Nat) (Ty.int IntKind.i64)) i.2.1)->
  l.2.1=(0:Int)/\
  (g=true->(false,(1:Int),(5:Int),h,f)=Z4.fn xs)/\
  (g=false->
  (true,(0:Int),e.1,mput (λ(x y:Int)=>x==y) h k (Option.getD (mget (λ(x y:Int)=>x==y) h k) false||l.1),f)=
  Z4.fn xs))/\
  ((0:Int)=(0:Int)/\a=a/\b=b/\c=c/\d=d/\True)/\
  (i=(0:Int)->
  (∃ (p:Int×List (Int×Bool)×Unit),
  a=a/\
  b=b/\
  c=c/\
  d=d/\
  f=f/\
  h=h/\
  b=b/\
  j=j/\
  (0:Int)=p.1/\
  a=a/\
  b=b/\
  c=c/\
  d=d/\
  g=g/\
  k=k/\
  []=p.2.1/\
  (0:Int)<=p.1/\
  p.1<=j/\p.2.1=aa2 [] (wr (List.take (Int.toNat p.1) b))/\D3 a [] (List.take (Int.toNat p.1) b)=true)/\
  ∀ (p:Int×List (Int×Bool)×Unit),
 let e0_1:Bool:=!List.all (List.getD b (Int.toNat p.1) e).from_ (isC (a,b,c,d,p.2.1,()));
 let e1_1:Bool:=decide (p.1<j);
 let e2_1:Bool:=!List.all c (isC (a,b,c,d,p.2.1,()));
 let i:Int:=(↑(List.length (List.getD b (Int.toNat p.1) e).to):Int);
 let e:Ins:=List.getD b (Int.toNat p.1) e;
 let e5_1:Int:=p.1;
 let e6_1:List (Int×Bool):=p.2.1;
 let e7_1:Nat:=List.length (List.getD b (Int.toNat e5_1) ins0).to;
  (0:Int)<=e5_1/\e5_1<=j/\e6_1=aa2 [] (wr (List.take (Int.toNat e5_1) b))/\D3 a [] (List.take (Int.toNat e5_1) b)=true->
  (e1_1=true->
  ((0:Int)<=e5_1/\e5_1<j)/\
  (((a=a/\b=b/\c=c/\d=d/\True)/\True)/\e6_1=e6_1/\True)/\
  (e0_1=true->((4:Int),())=l)/\
  (e0_1=false->
  (∃ (p:Int×List (Int×Bool)×Unit),
  a=a/\
  b=b/\
  c=c/\
  d=d/\
  f=f/\
  h=h/\
  b=b/\
  j=j/\
  e5_1=e5_1/\
  e1_1=e1_1/\
  e0_1=e0_1/\
  e.to=e.to/\
  i=i/\
  (0:Int)=p.1/\
  a=a/\
  b=b/\
  c=c/\
  d=d/\
  g=g/\
  k=k/\
  e6_1=p.2.1/\
  e.op=e.op/\
  e.n=e.n/\
  e.to=e.to/\
  e.from_=e.from_/\
  e.body=e.body/\
  (0:Int)<=p.1/\
  p.1<=(↑e7_1:Int)/\
  p.2.1=
  aa2 []
  (wr (List.take (Int.toNat e5_1) b)++
  List.take (Int.toNat p.1) (List.getD b (Int.toNat e5_1) ins0).to))/\
  ∀ (p:Int×List (Int×Bool)×Unit),
 let e0_2:Int:=p.1;
 let e1_2:List (Int×Bool):=p.2.1;
 let e2_2:Bool:=decide (e0_2<i);
  (0:Int)<=e0_2/\
  e0_2<=(↑e7_1:Int)/\
  e1_2=aa2 [] (wr (List.take (Int.toNat e5_1) b)++List.take (Int.toNat e0_2) (List.getD b (Int.toNat e5_1) ins0).to)->
  (e2_2=true->
  ((0:Int)<=e0_2/\e0_2<i)/\
  ∃ (p':Int×List (Int×Bool)×Unit),
  a=a/\
  b=b/\
  c=c/\
  d=d/\
  f=f/\
  h=h/\
  b=b/\
  j=j/\
  e5_1=e5_1/\
  e1_1=e1_1/\
  e0_1=e0_1/\
  e.to=e.to/\
  i=i/\
  IntKind.i64.wrap (e0_2+(1:Int))=p'.1/\
  a=a/\
  b=b/\
  c=c/\
  d=d/\
  g=g/\
  k=k/\
  mput (λ(x y:Int)=>x==y) e1_2 (List.getD e.to (Int.toNat e0_2) (0:Int)) true=
  p'.2.1/\
  e.op=e.op/\
  e.n=e.n/\
  e.to=e.to/\
  e.from_=e.from_/\
  e.body=e.body/\
  ((0:Int)<=p'.1/\
  p'.1<=(↑e7_1:Int)/\
  p'.2.1=
  aa2 []
  (wr (List.take (Int.toNat e5_1) b)++
  List.take (Int.toNat p'.1) (List.getD b (Int.toNat e5_1) ins0).to))/\
  e7_1-Int.toNat p'.1<e7_1-Int.toNat e0_2)/\
  (e2_2=false->
  ∃ (p':Int×List (Int×Bool)×Unit),
  a=a/\
  b=b/\
  c=c/\
  d=d/\
  f=f/\
  h=h/\
  b=b/\
  j=j/\
  IntKind.i64.wrap (e5_1+(1:Int))=p'.1/\
  a=a/\
  b=b/\
  c=c/\
  d=d/\
  g=g/\
  k=k/\
  e1_2=p'.2.1/\
  ((0:Int)<=p'.1/\
  p'.1<=j/\
  p'.2.1=aa2 [] (wr (List.take (Int.toNat p'.1) b))/\
  D3 a [] (List.take (Int.toNat p'.1) b)=true)/\
  List.length b-Int.toNat p'.1<List.length b-Int.toNat e5_1)))/\
  (e1_1=false->
  (((a=a/\b=b/\c=c/\d=d/\True)/\True)/\e6_1=e6_1/\True)/\(e2_1=true->((4:Int),())=l)/\(e2_1=false->((0:Int),())=l)))/\
  (i≠(0:Int)->i=(1:Int)/\(g,())=l))/\
  (m≠(0:Int)->m=(1:Int)/\((C7 G0 (E3 b c) (0:Int)).2,())=l)))):=by kernel_rfl
theorem I7 {β:Type} (m:List (Int×β)) (k:Int) (v:β) (n:Int):mget eqI (mput eqI m k v) n=if k=n then some v else mget eqI m n:=by
 induction m with
 |nil=>simp [mput,mget,eqI,cw6]
 |cons x r ih=>
  obtain ⟨k',v'⟩:=x;simp only [mput,eqI,cw6,beq_iff_eq];by_cases h:k'=k
  .subst h;simp only [if_true,mget,eqI,cw6,beq_iff_eq];split<;>rfl
  .simp only [if_neg h,mget,eqI,cw6,beq_iff_eq];rw [show mget (λx y=>x==y) (mput (λx y=>x==y) r k v) n=mget eqI (mput eqI r k v) n from rfl,ih];by_cases h1:k'=n
   .subst h1;rw [if_pos rfl,if_neg (λe=>h e.symm)];rw [if_pos rfl]
   .rw [if_neg h1,if_neg h1]
theorem aI6 (m:List (Int×Bool)) (k:Int) (v:Bool) (n:Int):hasB (putB m k v) n=if k=n then v else hasB m n:=by unfold hasB putB;rw [I7];split<;>rfl
theorem bQ1 (l:List Int) (n:Int):hasB (aa2 [] l) n=l.contains n:=by
 suffices h:∀ (l:List Int) (m:List (Int×Bool)),hasB (aa2 m l) n=(hasB m n||l.contains n) by rw [h];rfl
 intro l
 induction l with
 |nil=>intro m;simp [aa2]
 |cons x r ih=>
  intro m;rw [show aa2 m (x::r)=aa2 (putB m x true) r from rfl,ih,aI6,List.contains_cons];by_cases h:x=n
  .simp [h]
  .have:(n==x)=false:=by simp [Ne.symm h]
   simp [h,this]
theorem bD8 (l:List Int) (x:Int):aa2 [] (l++[x])=putB (aa2 [] l) x true:=by simp [aa2]
theorem cb1 (a:Int) (b:List Ins) (c d l:List Int) (n:Int):isC (a,b,c,d,aa2 [] l,()) n=(decide (n<a)||l.contains n):=by show (decide (n<a)||hasB (aa2 [] l) n)=_;rw [bQ1]
theorem run1 (L:List (Int×Bool)) (e:Int):C7 G0 L e=if L.all (λx=>T7 x.1) then (false,e) else (true,2):=by
 induction L generalizing e with
 |nil=>rfl
 |cons x r ih=>
  simp only [C7,List.all_cons];by_cases h:x.1<0\/4000<=x.1
  .have:T7 x.1=false:=by unfold T7 lies;simp;omega
   simp [G0,h,this]
  .have:T7 x.1=true:=by unfold T7 lies;simp;omega
   simp only [G0,if_neg h,this,ih,Bool.true_and,Bool.false_eq_true,if_false]
def ok2 (a:Int):List Int->List Int->Bool
 |_,[]=>true
 |W,n::r=>!(W.contains n||decide (n<a))&&ok2 a (n::W) r
theorem cg2 (a:Int):∀ (l W:List Int),ok2 a W l=(D6 l&&l.all (λn=>decide (a<=n))&&l.all (λn=>!W.contains n))
 |[],W=>rfl
 |n::r,W=>by
  simp only [ok2,cg2 a r,D6,List.all_cons];rw [Bool.eq_iff_iff];simp only [cv6,Bool.not_eq_true',Bool.or_eq_false_iff,decide_eq_false_iff_not,cx6,cy5,List.contains_cons];constructor
  .rintro ⟨⟨h1,h2⟩,⟨e,d⟩,b⟩;refine ⟨⟨⟨?_,e⟩,by omega,d⟩,h1,λx c=>?_⟩
   .rw [Bool.eq_false_iff];intro hm;have:=b n (List.contains_iff_mem.1 hm);simp at this
   .exact (b x c).2
  .rintro ⟨⟨⟨h1,h2⟩,e,d⟩,b,f⟩;refine ⟨⟨b,by omega⟩,⟨h2,d⟩,λx c=>⟨?_,f x c⟩⟩;rw [beq_eq_false_iff_ne];rintro rfl;rw [List.contains_iff_mem.2 c] at h1;cases h1
theorem run2 (a:Int) (e:Int):∀ (L:List (Int×Bool)) (W:List Int) (m:List (Int×Bool)),(∀ n,hasB m n=W.contains n)->
  (C7 (E7 a) L (e,m)).1=!ok2 a W (L.filterMap λx=>if x.2 then some x.1 else none)/\(C7 (E7 a) L (e,m)).2.1=if ok2 a W (L.filterMap λx=>if x.2 then some x.1 else none) then e else 5
 |[],W,m,h=>⟨rfl,rfl⟩
 |(n,false)::r,W,m,h=>by
  have:=run2 a e r W (putB m n (hasB m n||false)) (λk=>by
   rw [aI6];split
   .rename_i b;subst b;simp [h]
   .exact h k)
  simpa [C7,E7] using this
 |(n,true)::r,W,m,h=>by
  have hs:E7 a (e,m) (n,true)=if W.contains n||decide (n<a) then (true,5,m) else (false,e,putB m n true):=by simp only [E7,Bool.true_and,h];split<;>simp
  simp only [C7,hs,List.filterMap_cons,if_true,ok2];cases hc:(W.contains n||decide (n<a)) with
  |true=>simp
  |false=>
   have:=run2 a e r (n::W) (putB m n true) (λk=>by
    rw [aI6,List.contains_cons];split
    .rename_i b;subst b;simp
    .rename_i b;rw [h k,beq_eq_false_iff_ne.2 (Ne.symm b)];rfl)
   simpa using this
theorem bD9 (b:List Ins) (c:List Int):(E3 b c).filterMap (λx=>if x.2 then some x.1 else none)=wr b:=by
 unfold E3;rw [List.filterMap_append];have h1:∀ l:List Int,(l.map λn=>((n,false):Int×Bool)).filterMap (λx=>if x.2 then some x.1 else none)=[]:=by
  intro l
  induction l with
  |nil=>rfl
  |cons x r ih=>rw [List.map_cons,List.filterMap_cons,ih];rfl
 have h2:∀ l:List Int,(l.map λn=>((n,true):Int×Bool)).filterMap (λx=>if x.2 then some x.1 else none)=l:=by
  intro l
  induction l with
  |nil=>rfl
  |cons x r ih=>rw [List.map_cons,List.filterMap_cons,ih];rfl
 rw [h1,List.append_nil]
 induction b with
 |nil=>rfl
 |cons x r ih=>simp only [E9,wr,List.flatMap_cons,List.filterMap_append] at ih |-;rw [h1,h2,ih];rfl
theorem M8 (p:Int):∀ (l r:List Ins) (W:List Int),D3 p W (l++r)=(D3 p W l&&D3 p (W++wr l) r)
 |[],r,W=>by simp [D3,wr]
 |x::l,r,W=>by simp only [List.cons_append,D3,M8 p l r,Bool.and_assoc];rw [show W++wr (x::l)=W++x.to++wr l by simp [wr]]
theorem bQ2 (b:List Ins) (c:List Int):(E3 b c).all (λx=>T7 x.1)=(c.all T7&&b.all λx=>x.to.all T7&&x.from_.all T7):=by unfold E3 E9;rw [List.all_append,List.all_flatMap,Bool.and_comm];simp only [List.all_append,List.all_map];congr 1;congr 1;funext x;rw [Bool.and_comm];rfl
theorem bE0 {a:Int} {b:List Ins} {c d:List Int} (h:4000<b.length):C1 ⟨a,b,c,d⟩=3:=by simp only [C1];rw [if_pos h]
theorem bE1 {a:Int} {b:List Ins} {c d:List Int} (h:¬ 4000<b.length) (e:lies a 0 4000=true) {R1 R2:Bool} (h1:R1=(c.all T7&&b.all λx=>x.to.all T7&&x.from_.all T7)) (h2:R2=(D6 (wr b)&&(wr b).all λn=>decide (a<=n))):
  C1 ⟨a,b,c,d⟩=if R1=false then 2 else if R2=false then 5 else if (D3 a [] b&&c.all λn=>decide (n<a)||(wr b).contains n)=false then 4 else 0:=by
 simp only [C1];rw [if_neg h,e,Bool.true_and,<-h1,<-h2];cases R1
 .rfl
 .cases R2
  .rfl
  .simp only [Bool.not_true,Bool.false_eq_true,if_false,Bool.not_eq_true'];rfl
theorem bE2 (n:Int) (w:Bool) (st e:Int) (h:st=0):st=0/\((decide (n<0)||decide (n>=4000))=true->(false,1,2,())=Z3.fn (n,w,st,e,()))/\((decide (n<0)||decide (n>=4000))=false->(true,0,e,())=Z3.fn (n,w,st,e,())):=by
 refine ⟨h,λh1=>?_,λh1=>?_⟩
 .have h1:n<0\/4000<=n:=by simpa using h1
  show _=(!(G0 e (n,w)).1,stOf (G0 e (n,w)).1,(G0 e (n,w)).2,());simp only [G0,if_pos h1];rfl
 .have h1:¬ (n<0\/4000<=n):=by simp at h1;omega
  show _=(!(G0 e (n,w)).1,stOf (G0 e (n,w)).1,(G0 e (n,w)).2,());simp only [G0,if_neg h1];rfl
theorem bE3 (n:Int) (w:Bool) (st e:Int) (m:List (Int×Bool)) (x:Int) (y:List Ins) (z q:List Int) (h:st=0):st=0/\((w&&((mget (λx y=>x==y) m n).getD false||decide (n<x)))=true->(false,1,5,m,x,y,z,q,())=Z4.fn (n,w,st,e,m,x,y,z,q,()))/\
  ((w&&((mget (λx y=>x==y) m n).getD false||decide (n<x)))=false->(true,0,e,mput (λx y=>x==y) m n ((mget (λx y=>x==y) m n).getD false||w),x,y,z,q,())=Z4.fn (n,w,st,e,m,x,y,z,q,())):=by
 refine ⟨h,λh1=>?_,λh1=>?_⟩
 .show _=(!(E7 x (e,m) (n,w)).1,stOf (E7 x (e,m) (n,w)).1,(E7 x (e,m) (n,w)).2.1,(E7 x (e,m) (n,w)).2.2,x,y,z,q,());have h2:(w&&(hasB m n||decide (n<x)))=true:=h1;simp only [E7,h2,if_true];rfl
 .show _=(!(E7 x (e,m) (n,w)).1,stOf (E7 x (e,m) (n,w)).1,(E7 x (e,m) (n,w)).2.1,(E7 x (e,m) (n,w)).2.2,x,y,z,q,());have h2:(w&&(hasB m n||decide (n<x)))=false:=h1;simp only [E7,h2,Bool.false_eq_true,if_false];rfl
theorem bE4 {a:Int} {b:List Ins} {k:Nat} (h:k<b.length):D3 a [] (b.take (k+1))=(D3 a [] (b.take k)&&(b.getD k ins0).from_.all λn=>decide (n<a)||(wr (b.take k)).contains n):=by rw [A4 h ins0,M8];simp [D3]
theorem bE5 {a:Int} {b:List Ins} {k:Nat} (h:D3 a [] (b.take k)=false):D3 a [] b=false:=by rw [<-List.take_append_drop k b,M8,h];rfl
theorem bQ3 {b:List Ins} {k:Nat} (h:k<b.length):wr (b.take (k+1))=wr (b.take k)++(b.getD k ins0).to:=by rw [A4 h ins0];simp [wr]
theorem cb2 (a:Int) (b:List Ins) (c d:List Int):vc (EVd [] itCheck [(76,cNamed),(78,cAll 77 tysC objC [0,1] isC)]) (bQ0 a b) Go.Proofs.Tryd.f41 cCheck (a,b,c,d,()):=(cb0 a b c d).mpr (by
 intro e0 Q I R S V J W T U hc hd;have K:b.length<=140737488355328:=U.len;have g:J=(C1 ⟨a,b,c,d⟩,()):=rfl;have L:S=ins0:=rfl;have h1:=run1 (E3 b c) 0;have h2:=run2 a (C7 G0 (E3 b c) 0).2 (E3 b c) [] [] (λn=>rfl);rw [bD9,cg2,show (wr b).all (λn=>!([]:List Int).contains n)=true from cy5.2 (λ_ _=>rfl),Bool.and_true] at h2;rw [bQ2] at h1;have p:T=stOf (C7 G0 (E3 b c) 0).1:=rfl;have r:R=stOf (C7 (E7 a) (E3 b c) ((C7 G0 (E3 b c) 0).2,[])).1:=rfl;have t:Q=(C7 (E7 a) (E3 b c) ((C7 G0 (E3 b c) 0).2,[])).2.1:=rfl;rw [h2.1] at r;rw [h2.2] at t;rw [h1] at t
 clear_value Q R S V J T
 subst L;dsimp only [W];simp only [true_and,and_true];rw [h1] at p |-;clear h1 h2;have o:=λh u=>bE1 (a:=a) (b:=b) (c:=c) (d:=d) h u (R1:=c.all T7&&b.all λx=>x.to.all T7&&x.from_.all T7) (R2:=D6 (wr b)&&(wr b).all λn=>decide (a<=n)) rfl rfl;generalize (c.all T7&&b.all λx=>x.to.all T7&&x.from_.all T7)=R1 at*
 generalize (D6 (wr b)&&(wr b).all λn=>decide (a<=n))=R2 at*
 refine ⟨λh=>?_,λh=>⟨λh'=>?_,λh'=>⟨?_,?_,?_⟩⟩⟩
 .have h:4000<b.length:=by have:=cw3 h;omega
  rw [g,bE0 h]
 .have h:¬ 4000<b.length:=by have:¬ ((b.length:Int) >4000):=cw2 h;omega
  have u:lies a 0 4000=false:=by
   have:a<0\/4000<a:=by simpa [I] using h'
   simp only [lies,Bool.and_eq_false_iff,decide_eq_false_iff_not];omega
  rw [g];simp only [C1];rw [if_neg h,u];rfl
 .rintro ⟨n,w,st,e,⟨⟩⟩ f;exact bE2 n w st e f
 .intro D;have h:¬ 4000<b.length:=by have:¬ ((b.length:Int) >4000):=cw2 h;omega
  have u:lies a 0 4000=true:=by
   have:¬ (a<0\/4000<a):=by simpa [I] using h'
   simp only [lies,cv6,cx6];omega
  have hr:=o h u;have v:R1=true:=by
   cases R1
   .rw [p] at D;cases D
   .rfl
  subst v;refine ⟨?_,λE=>?_,λE=>?_⟩
  .rintro ⟨n,w,st,e,m,x,y,z,q,⟨⟩⟩ f _ _ _;exact bE3 n w st e m x y z q f
  .have A:R2=true:=by
    cases R2
    .rw [r] at E;cases E
    .rfl
   subst A;have hr:J=(if (D3 a [] b&&c.all λn=>decide (n<a)||(wr b).contains n)=false then 4 else 0,()):=by rw [g,hr];rfl
   refine ⟨⟨(0,[],()),rfl,rfl,Int.le_refl _,by dsimp only;omega,rfl,rfl⟩,?_⟩;rintro ⟨i,m,⟨⟩⟩ ⟨M,X,N,F⟩;dsimp only at M X N F |-;obtain ⟨k,rfl⟩:=cv9 M;simp only [cv7] at N F |-;subst N;have s:∀ l:List Int,l.all (isC (a,b,c,d,aa2 [] (wr (b.take k)),()))=l.all λn=>decide (n<a)||(wr (b.take k)).contains n:=λl=>by congr 1;funext n;exact cb1 a b c d _ n
   rw [s,s];refine ⟨λB=>?_,λO=>?_⟩
   .have B:(k:Int)<b.length:=cw3 B;have f:=bE4 (a:=a) (b:=b) (k:=k) (by omega);rw [F,Bool.true_and] at f;refine ⟨⟨M,B⟩,λG=>?_,λH=>?_⟩
    .rw [Bool.not_eq_true',<-f] at G;rw [hr,bE5 G];rfl
    .rw [Bool.not_eq_false',<-f] at H;refine ⟨⟨(0,aa2 [] (wr (b.take k)),()),rfl,rfl,Int.le_refl _,by dsimp only;omega,by simp⟩,?_⟩;rintro ⟨j,m,⟨⟩⟩ ⟨j0,Y,P⟩;dsimp only at j0 Y P |-;obtain ⟨q,rfl⟩:=cv9 j0;simp only [cv7] at P |-;subst P;refine ⟨λC=>?_,λC=>?_⟩
     .have C:(q:Int)<(b.getD k ins0).to.length:=cw3 C;refine ⟨⟨j0,C⟩,((q+1:Nat),putB (aa2 [] (wr (b.take k)++(b.getD k ins0).to.take q)) ((b.getD k ins0).to.getD q 0) true,()),B5 (by omega) (aI5 (k:=k) U (by omega)),rfl,⟨by omega,by dsimp only;omega,?_⟩,by dsimp only;omega⟩;dsimp only;rw [cv7,A4 (by omega) 0,<-cy0,bD8]
     .have C:q=(b.getD k ins0).to.length:=by have:¬ (q:Int)<(b.getD k ins0).to.length:=cw2 C;omega
      subst C;refine ⟨((k+1:Nat),_,()),B5 (by omega) K,rfl,⟨by omega,by dsimp only;omega,?_,by rw [cv7];exact H⟩,by dsimp only;omega⟩;dsimp only;rw [cv7,bQ3 (by omega),cy3];rfl
   .have Z:k=b.length:=by have:¬ (k:Int)<b.length:=cw2 O;omega
    subst Z;rw [cy3] at F |-;rw [hr,F,Bool.true_and];refine ⟨λG=>?_,λH=>?_⟩
    .rw [Bool.not_eq_true'] at G;rw [G];rfl
    .rw [Bool.not_eq_false'] at H;rw [H];rfl
  .have A:R2=false:=by
    cases R2
    .rfl
    .rw [r] at E;exact absurd rfl E
   subst A;exact ⟨r,by rw [t,g,hr];rfl⟩
 .intro D;have h:¬ 4000<b.length:=by have:¬ ((b.length:Int) >4000):=cw2 h;omega
  have u:lies a 0 4000=true:=by
   have:¬ (a<0\/4000<a):=by simpa [I] using h'
   simp only [lies,cv6,cx6];omega
  have hr:=o h u;have v:R1=false:=by
   cases R1
   .rfl
   .rw [p] at D;exact absurd rfl D
  subst v;exact ⟨p,by rw [g,hr];rfl⟩)
theorem ad8:C9 prog RG 41 cCheck:=bw9 bD7 (A7 bp0 (A7 bC7 B9)) (λp=>bQ0 p.1 p.2.1) (by kernel_rfl) (by kernel_rfl) (by kernel_rfl) λ(a,b,c,d,()) _=>cb2 a b c d
abbrev Spans:=List (Int×Span)
def getS (m:Spans) (n:Int):Span:=(mget eqI m n).getD ⟨0,0⟩
def as6 (m:Spans) (n first:Int):Spans:=mput eqI m n ⟨first,-1⟩
def useS (m:Spans) (n place:Int):Spans:=mput eqI m n ⟨(getS m n).first,place⟩
def J6 (m:Spans) (l:List Int) (first:Int):Spans:=l.foldl (λm n=>as6 m n first) m
def uses (m:Spans) (l:List Int) (place:Int):Spans:=l.foldl (λm n=>useS m n place) m
def upto (n:Nat):List Int:=(List.range n).map λk:Nat=>(k:Int)
def L0 (params:Int):Spans:=J6 [] (upto params.toNat) 0
def I8 (m:Spans):List Ins->Int->Spans
 |[],_=>m
 |x::r,i=>I8 (J6 (uses m x.from_ i) x.to (i+1)) r (i+1)
def never:Span:=⟨0,-1⟩
def finS (s:Span):Span:=if s.last<0 then never else s
def T8 (m:Spans) (seen:List Int):Spans:=(m.zipIdx).map λx=>if seen.contains (x.2:Int) then (x.1.1,finS x.1.2) else x.1
def L6 (params:Int) (code:List Ins) (out:List Int):Spans:=uses (I8 (L0 params) code 0) out code.length
def A5 (params:Int) (code:List Ins) (out:List Int):Spans:=(L6 params code out).map λx=>(x.1,finS x.2)
def cBegin:Con RU:=⟨[one,one,one],[i64,i64,mapS],[.d 0,.d 1,.ptr 0 0],[.box 80 [.map 1],.map 2],none,none,[],[mapS],[],[.box 80 [.map 1],.map 0],λp=>(as6 p.2.2.1 p.1 p.2.1,()),[],[],[]⟩
def cUse:Con RU:=⟨[one,one,one],[i64,i64,mapS],[.d 0,.d 1,.ptr 0 0],[.box 80 [.map 1],.map 2],none,none,[],[mapS],[],[.box 80 [.map 1],.map 0],λp=>(useS p.2.2.1 p.1 p.2.1,()),[],[],[]⟩
def cSpans:Con RU:=⟨[(true,4)],as5,[.d 0,.d 1,.d 2,.d 3],[],some λp=>p.1<=4000,none,[one],[mapS],[.map 0],[.map 0],λp=>(A5 p.1 p.2.1 p.2.2.1,()),[],[],[]⟩
def bQ4 (params:Int) (code:List Ins) (out:List Int):Nat->St RU->Ann RU:=λk s=>match k with
 |0=>⟨[],[.slot 22,.row 1088],[i64,mapS],λp=>0<=p.1/\(p.1<=params\/p.1=0)/\p.2.1=J6 [] (upto p.1.toNat) 0,λp=>params.toNat-p.1.toNat,[]⟩
 |1=>⟨[],[.slot 32,.row 1088],[i64,mapS],λp=>0<=p.1/\p.1<=code.length/\p.2.1=I8 (L0 params) (code.take p.1.toNat) 0,λp=>code.length-p.1.toNat,[]⟩
 |2=>⟨[],[.slot 40,.row 1088],[i64,mapS],λp=>0<=p.1/\p.1<=(code.getD (s.intAt 32).toNat ins0).from_.length/\
   p.2.1=uses (I8 (L0 params) (code.take (s.intAt 32).toNat) 0) ((code.getD (s.intAt 32).toNat ins0).from_.take p.1.toNat) (s.intAt 32),λp=>(code.getD (s.intAt 32).toNat ins0).from_.length-p.1.toNat,[]⟩
 |3=>⟨[],[.slot 52,.row 1088],[i64,mapS],λp=>0<=p.1/\p.1<=(code.getD (s.intAt 32).toNat ins0).to.length/\
   p.2.1=J6 (uses (I8 (L0 params) (code.take (s.intAt 32).toNat) 0) (code.getD (s.intAt 32).toNat ins0).from_ (s.intAt 32)) ((code.getD (s.intAt 32).toNat ins0).to.take p.1.toNat) (s.intAt 32+1),λp=>(code.getD (s.intAt 32).toNat ins0).to.length-p.1.toNat,[]⟩
 |4=>⟨[],[.slot 66,.row 1088],[i64,mapS],λp=>0<=p.1/\p.1<=out.length/\p.2.1=uses (I8 (L0 params) code 0) (out.take p.1.toNat) code.length,λp=>out.length-p.1.toNat,[]⟩
 |_=>⟨[],[.seen 4992,.row 1088],[ints,mapS],λp=>p.1.Nodup/\(∀ i∈p.1,0<=i/\i<(L6 params code out).length)/\p.2.1=T8 (L6 params code out) p.1,λp=>(L6 params code out).length-p.1.length,[]⟩
def X1 (m:Spans) (place:Int) (n:Int):Bool:=match mget eqI m n with
 |some s=>I6 s.first s.last place
 |none=>false
def ab2 (m:Spans) (L n:Nat):List (List Int):=(List.range (L+1)).map λplace:Nat=>(upto n).filter (X1 m place)
def Q0 (m:Spans) (L:Nat) (n q:Int):List (List Int):=(List.range (L+1)).map λplace:Nat=>(upto n.toNat).filter (X1 m place)++if (place:Int)<q/\X1 m place n=true then [n] else []
def cLive:Con RU:=con [(true,4)] as5 [one,one] [bN8,i64] [false,false] none λp=>((Q5 ⟨p.1,p.2.1,p.2.2.1,p.2.2.2.1⟩).1,(Q5 ⟨p.1,p.2.1,p.2.2.1,p.2.2.2.1⟩).2,())
def cl7 (params:Int) (code:List Ins) (out:List Int):Nat->St RU->Ann RU:=λk s=>match k with
 |0=>⟨[],[.slot 23,.row 1280],[i64,bN8],λp=>0<=p.1/\p.1<=4000/\p.2.1=ab2 (A5 params code out) code.length p.1.toNat,λp=>4000-p.1.toNat,[]⟩
 |_=>⟨[],[.slot 10,.row 1280],[i64,bN8],λp=>0<=p.1/\p.1<=code.length+1/\(getS (A5 params code out) (s.intAt 23)).first<=p.1/\p.2.1=Q0 (A5 params code out) code.length (s.intAt 23) p.1,λp=>code.length+1-p.1.toNat,[]⟩
def cPress:Con RU:=con [(true,4)] as5 [one,one] [i64,i64] [false,false] none λp=>((X0 ⟨p.1,p.2.1,p.2.2.1,p.2.2.2.1⟩).1,(X0 ⟨p.1,p.2.1,p.2.2.1,p.2.2.2.1⟩).2,())
theorem cb3 (n i:Int) (m:Spans):vc (EV []) noL Go.Proofs.Tryd.f81 cBegin (n,i,m,())=((mput (λ(x y:Int)=>x==y) m n (Span.mk i (-1:Int)),())=(as6 m n i,())):=by kernel_rfl
theorem cr9 (n i:Int) (m:Spans):vc (EV []) noL Go.Proofs.Tryd.f82 cUse (n,i,m,())=((mput (λ(x y:Int)=>x==y) m n (Span.mk (Option.getD (mget (λ(x y:Int)=>x==y) m n) (Span.mk (0:Int) (0:Int))).first i),())=(useS m n i,())):=by kernel_rfl
theorem cb4 (a:Int) (b:List Ins) (c d:List Int):vc (EV [(81,cBegin),(82,cUse)]) (bQ4 a b c) Go.Proofs.Tryd.f51 cSpans (a,b,c,d,())=(let g:Ins:=Ins.mk (0:Int) (0:Int) [] [] [];
 let f:Int:=(↑(List.length b):Int);
 let h:Int:=(↑(List.length c):Int);
 let j:Nat:=List.length (L6 a b c);
 let r:Span:=Span.mk (0:Int) (-1:Int);
  Small RU (Sigma.mk (Ty.slice (52:Nat) (Ty.user (0:Nat))) b)->
  Small RU (Sigma.mk (Ty.slice (3:Nat) (Ty.int IntKind.i64)) c)->
  Small RU (Sigma.mk (Ty.slice (3:Nat) (Ty.int IntKind.i64)) d)->
  (∃ (p:Int×List (Int×Span)×Unit),
  a=a/\
  b=b/\
  c=c/\
  d=d/\
  Value.map none=Value.map none/\
  a=a/\
  (0:Int)=p.1/\
  a=a/\b=b/\c=c/\d=d/\[]=p.2.1/\(0:Int)<=p.1/\(p.1<=a\/p.1=(0:Int))/\p.2.1=J6 [] (upto (Int.toNat p.1)) (0:Int))/\
  ∀ (p:Int×List (Int×Span)×Unit),
 let e0_1:Bool:=decide (p.1<a);
 let e1_1:Int:=p.1;
 let e2_1:List (Int×Span):=p.2.1;
  (0:Int)<=e1_1/\(e1_1<=a\/e1_1=(0:Int))/\e2_1=J6 [] (upto (Int.toNat e1_1)) (0:Int)->
  (e0_1=true->
  ∃ (p':Int×List (Int×Span)×Unit),
  a=a/\
  b=b/\
  c=c/\
  d=d/\
  Value.map none=Value.map none/\
  a=a/\
  IntKind.i64.wrap (e1_1+(1:Int))=p'.1/\
  a=a/\
  b=b/\
  c=c/\
  d=d/\
  as6 e2_1 e1_1 (0:Int)=p'.2.1/\
  ((0:Int)<=p'.1/\(p'.1<=a\/p'.1=(0:Int))/\p'.2.1=J6 [] (upto (Int.toNat p'.1)) (0:Int))/\
  Int.toNat a-Int.toNat p'.1<Int.toNat a-Int.toNat e1_1)/\
  (e0_1=false->
  (∃ (p:Int×List (Int×Span)×Unit),
  a=a/\
  b=b/\
  c=c/\
  d=d/\
  Value.map none=Value.map none/\
  a=a/\
  e1_1=e1_1/\
  e0_1=e0_1/\
  b=b/\
  f=f/\
  (0:Int)=p.1/\
  a=a/\b=b/\c=c/\d=d/\e2_1=p.2.1/\(0:Int)<=p.1/\p.1<=f/\p.2.1=I8 (L0 a) (List.take (Int.toNat p.1) b) (0:Int))/\
  ∀ (p:Int×List (Int×Span)×Unit),
 let e0_2:Int:=(↑(List.length (List.getD b (Int.toNat p.1) g).from_):Int);
 let e1_2:Bool:=decide (p.1<f);
 let e2_2:Int:=p.1;
 let e3_1:Int:=(↑(List.length (List.getD b (Int.toNat e2_2) g).to):Int);
 let e4_1:List (Int×Span):=I8 (L0 a) (List.take (Int.toNat e2_2) b) (0:Int);
 let e:Ins:=List.getD b (Int.toNat e2_2) g;
 let q:List (Int×Span):=p.2.1;
 let m:Nat:=List.length (List.getD b (Int.toNat e2_2) ins0).to;
 let o:Nat:=List.length (List.getD b (Int.toNat e2_2) ins0).from_;
 let s:Int:=IntKind.i64.wrap (e2_2+(1:Int));
  (0:Int)<=e2_2/\e2_2<=f/\q=e4_1->
  (e1_2=true->
  ((0:Int)<=e2_2/\e2_2<f)/\
  (∃ (p:Int×List (Int×Span)×Unit),
  a=a/\
  b=b/\
  c=c/\
  d=d/\
  Value.map none=Value.map none/\
  a=a/\
  e1_1=e1_1/\
  e0_1=e0_1/\
  b=b/\
  f=f/\
  e2_2=e2_2/\
  e1_2=e1_2/\
  e2_2=e2_2/\
  e.from_=e.from_/\
  e0_2=e0_2/\
  (0:Int)=p.1/\
  a=a/\
  b=b/\
  c=c/\
  d=d/\
  q=p.2.1/\
  e.op=e.op/\
  e.n=e.n/\
  e.to=e.to/\
  e.from_=e.from_/\
  e.body=e.body/\
  (0:Int)<=p.1/\
  p.1<=(↑o:Int)/\
  p.2.1=uses e4_1 (List.take (Int.toNat p.1) (List.getD b (Int.toNat e2_2) ins0).from_) e2_2)/\
  ∀ (p:Int×List (Int×Span)×Unit),
 let g:Bool:=decide (p.1<e0_2);
 let e1_3:Int:=p.1;
 let h:List (Int×Span):=p.2.1;
 let j:List Int:=(List.getD b (Int.toNat e2_2) ins0).from_;
  (0:Int)<=e1_3/\e1_3<=(↑o:Int)/\h=uses e4_1 (List.take (Int.toNat e1_3) j) e2_2->
  (g=true->
  ((0:Int)<=e1_3/\e1_3<e0_2)/\
  ∃ (p':Int×List (Int×Span)×Unit),
  a=a/\
  b=b/\
  c=c/\
  d=d/\
  Value.map none=Value.map none/\
  a=a/\
  e1_1=e1_1/\
  e0_1=e0_1/\
  b=b/\
  f=f/\
  e2_2=e2_2/\
  e1_2=e1_2/\
  e2_2=e2_2/\
  e.from_=e.from_/\
  e0_2=e0_2/\
  IntKind.i64.wrap (e1_3+(1:Int))=p'.1/\
  a=a/\
  b=b/\
  c=c/\
  d=d/\
  useS h (List.getD e.from_ (Int.toNat e1_3) (0:Int)) e2_2=p'.2.1/\
  e.op=e.op/\
  e.n=e.n/\
  e.to=e.to/\
  e.from_=e.from_/\
  e.body=e.body/\
  ((0:Int)<=p'.1/\
  p'.1<=(↑o:Int)/\p'.2.1=uses e4_1 (List.take (Int.toNat p'.1) j) e2_2)/\
  o-Int.toNat p'.1<o-Int.toNat e1_3)/\
  (g=false->
  (∃ (p:Int×List (Int×Span)×Unit),
  a=a/\
  b=b/\
  c=c/\
  d=d/\
  Value.map none=Value.map none/\
  a=a/\
  e1_1=e1_1/\
  e0_1=e0_1/\
  b=b/\
  f=f/\
  e2_2=e2_2/\
  e1_2=e1_2/\
  e2_2=e2_2/\
  e.from_=e.from_/\
  e0_2=e0_2/\
  e1_3=e1_3/\
  g=g/\
  e.to=e.to/\
  e3_1=e3_1/\
  (0:Int)=p.1/\
  a=a/\
  b=b/\
  c=c/\
  d=d/\
  h=p.2.1/\
  e.op=e.op/\
  e.n=e.n/\
  e.to=e.to/\
  e.from_=e.from_/\
  e.body=e.body/\
  (0:Int)<=p.1/\
  p.1<=(↑m:Int)/\
  p.2.1=
  J6 (uses e4_1 j e2_2)
  (List.take (Int.toNat p.1) (List.getD b (Int.toNat e2_2) ins0).to) (e2_2+(1:Int)))/\
  ∀ (p:Int×List (Int×Span)×Unit),
 let e0_3:List (Int×Span):=p.2.1;
 let e1_4:Int:=p.1;
 let h:Bool:=decide (e1_4<e3_1);
  (0:Int)<=e1_4/\
  e1_4<=(↑m:Int)/\e0_3=J6 (uses e4_1 j e2_2) (List.take (Int.toNat e1_4) (List.getD b (Int.toNat e2_2) ins0).to) (e2_2+(1:Int))->
  (h=true->
  ((0:Int)<=e1_4/\e1_4<e3_1)/\
  ∃ (p':Int×List (Int×Span)×Unit),
  a=a/\
  b=b/\
  c=c/\
  d=d/\
  Value.map none=Value.map none/\
  a=a/\
  e1_1=e1_1/\
  e0_1=e0_1/\
  b=b/\
  f=f/\
  e2_2=e2_2/\
  e1_2=e1_2/\
  e2_2=e2_2/\
  e.from_=e.from_/\
  e0_2=e0_2/\
  e1_3=e1_3/\
  g=g/\
  e.to=e.to/\
  e3_1=e3_1/\
  IntKind.i64.wrap (e1_4+(1:Int))=p'.1/\
  a=a/\
  b=b/\
  c=c/\
  d=d/\
  as6 e0_3 (List.getD e.to (Int.toNat e1_4) (0:Int)) s=p'.2.1/\
  e.op=e.op/\
  e.n=e.n/\
  e.to=e.to/\
  e.from_=e.from_/\
  e.body=e.body/\
  ((0:Int)<=p'.1/\
  p'.1<=(↑m:Int)/\
  p'.2.1=
  J6 (uses e4_1 j e2_2)
  (List.take (Int.toNat p'.1) (List.getD b (Int.toNat e2_2) ins0).to)
  (e2_2+(1:Int)))/\
  m-Int.toNat p'.1<m-Int.toNat e1_4)/\
  (h=false->
  ∃ (p':Int×List (Int×Span)×Unit),
  a=a/\
  b=b/\
  c=c/\
  d=d/\
  Value.map none=Value.map none/\
  a=a/\
  e1_1=e1_1/\
  e0_1=e0_1/\
  b=b/\
  f=f/\
  s=p'.1/\
  a=a/\
  b=b/\
  c=c/\
  d=d/\
  e0_3=p'.2.1/\
  ((0:Int)<=p'.1/\p'.1<=f/\p'.2.1=I8 (L0 a) (List.take (Int.toNat p'.1) b) (0:Int))/\
  List.length b-Int.toNat p'.1<List.length b-Int.toNat e2_2)))/\
  (e1_2=false->
  (∃ (p:Int×List (Int×Span)×Unit),
  a=a/\
  b=b/\
  c=c/\
  d=d/\
  Value.map none=Value.map none/\
  a=a/\
  e1_1=e1_1/\
  e0_1=e0_1/\
  b=b/\
  f=f/\
  e2_2=e2_2/\
  e1_2=e1_2/\
  c=c/\
  h=h/\
  (0:Int)=p.1/\
  a=a/\
  b=b/\
  c=c/\
  d=d/\
  q=p.2.1/\
  (0:Int)<=p.1/\p.1<=h/\p.2.1=uses (I8 (L0 a) b (0:Int)) (List.take (Int.toNat p.1) c) f)/\
  ∀ (p:Int×List (Int×Span)×Unit),
 let g:Nat:=List.length p.2.1;
 let e1_3:Bool:=decide (p.1<h);
 let e2_3:Int:=p.1;
 let e3_2:List (Int×Span):=p.2.1;
  (0:Int)<=e2_3/\e2_3<=h/\e3_2=uses (I8 (L0 a) b (0:Int)) (List.take (Int.toNat e2_3) c) f->
  (e1_3=true->
  ((0:Int)<=e2_3/\e2_3<h)/\
  ∃ (p':Int×List (Int×Span)×Unit),
  a=a/\
  b=b/\
  c=c/\
  d=d/\
  Value.map none=Value.map none/\
  a=a/\
  e1_1=e1_1/\
  e0_1=e0_1/\
  b=b/\
  f=f/\
  e2_2=e2_2/\
  e1_2=e1_2/\
  c=c/\
  h=h/\
  IntKind.i64.wrap (e2_3+(1:Int))=p'.1/\
  a=a/\
  b=b/\
  c=c/\
  d=d/\
  useS e3_2 (List.getD c (Int.toNat e2_3) (0:Int)) f=p'.2.1/\
  ((0:Int)<=p'.1/\
  p'.1<=h/\p'.2.1=uses (I8 (L0 a) b (0:Int)) (List.take (Int.toNat p'.1) c) f)/\
  List.length c-Int.toNat p'.1<List.length c-Int.toNat e2_3)/\
  (e1_3=false->
  (∃ (p:List Int×List (Int×Span)×Unit),
  a=a/\
  b=b/\
  c=c/\
  d=d/\
  Value.map none=Value.map none/\
  a=a/\
  e1_1=e1_1/\
  e0_1=e0_1/\
  b=b/\
  f=f/\
  e2_2=e2_2/\
  e1_2=e1_2/\
  c=c/\
  h=h/\
  e2_3=e2_3/\
  e1_3=e1_3/\
  a=a/\
  b=b/\
  c=c/\
  d=d/\
  e3_2=p.2.1/\
  g=g/\
  []=List.map Int.toNat p.1/\
  (0:Nat)=List.getLastD (List.map Int.toNat p.1) (0:Nat)/\
  List.Pairwise (λ(k l:den RU.T i64)=>k≠l) p.1/\
  (∀ (i:Int),List.Mem i p.1->(0:Int)<=i/\i<(↑j:Int))/\p.2.1=T8 (L6 a b c) p.1)/\
  ∀ (p:List Int×List (Int×Span)×Unit),
 let e0_3:Bool:=
  decide
  ((List.getD (List.map (λ(x:den RU.T (Ty.int IntKind.i64)×den RU.T (Ty.user (3:Nat)))=>x.2) p.2.1)
  (List.getLastD (List.map Int.toNat p.1) (0:Nat)) (Span.mk (0:Int) (0:Int))).last<
  (0:Int));
 let e1_4:List (Int×Span):=p.2.1;
 let e2_4:List Nat:=List.map Int.toNat p.1;
 let e3_3:List Int:=p.1;
 let e4_2:Nat:=List.getLastD e2_4 (0:Nat);
  List.Pairwise (λ(k l:den RU.T i64)=>k≠l) e3_3/\
  (∀ (i:Int),List.Mem i e3_3->(0:Int)<=i/\i<(↑j:Int))/\e1_4=T8 (L6 a b c) e3_3->
  List.length e1_4=g/\
  (∀ (i:Nat),
 let e0_4:Bool:=
  decide
  ((List.getD (List.map (λ(x:den RU.T (Ty.int IntKind.i64)×den RU.T (Ty.user (3:Nat)))=>x.2) e1_4) i
  (Span.mk (0:Int) (0:Int))).last<
  (0:Int));
 let e1_5:List Nat:=e2_4++[i];
  i<g->
  ¬i∈e2_4->
  (true=true->
  (List.length e1_4=g/\List.getLast? e1_5=some i/\i<g)/\
  (e0_4=true->
  ∃ (p':List Int×List (Int×Span)×Unit),
  a=a/\
  b=b/\
  c=c/\
  d=d/\
  Value.map none=Value.map none/\
  a=a/\
  e1_1=e1_1/\
  e0_1=e0_1/\
  b=b/\
  f=f/\
  e2_2=e2_2/\
  e1_2=e1_2/\
  c=c/\
  h=h/\
  e2_3=e2_3/\
  e1_3=e1_3/\
  a=a/\
  b=b/\
  c=c/\
  d=d/\
  mput (λ(x y:Int)=>x==y) e1_4
  (List.getD
  (List.map
  (λ(x:den RU.T (Ty.int IntKind.i64)×den RU.T (Ty.user (3:Nat)))=>x.1)
  e1_4)
  i (0:Int))
  r=
  p'.2.1/\
  g=g/\
  e1_5=List.map Int.toNat p'.1/\
  i=List.getLastD (List.map Int.toNat p'.1) (0:Nat)/\
  (List.Pairwise (λ(k l:den RU.T i64)=>k≠l) p'.1/\
  (∀ (i:Int),List.Mem i p'.1->(0:Int)<=i/\i<(↑j:Int))/\
  p'.2.1=T8 (L6 a b c) p'.1)/\
  j-List.length p'.1<j-List.length e3_3)/\
  (e0_4=false->
  ∃ (p':List Int×List (Int×Span)×Unit),
  a=a/\
  b=b/\
  c=c/\
  d=d/\
  Value.map none=Value.map none/\
  a=a/\
  e1_1=e1_1/\
  e0_1=e0_1/\
  b=b/\
  f=f/\
  e2_2=e2_2/\
  e1_2=e1_2/\
  c=c/\
  h=h/\
  e2_3=e2_3/\
  e1_3=e1_3/\
  a=a/\
  b=b/\
  c=c/\
  d=d/\
  e1_4=p'.2.1/\
  g=g/\
  e1_5=List.map Int.toNat p'.1/\
  i=List.getLastD (List.map Int.toNat p'.1) (0:Nat)/\
  (List.Pairwise (λ(k l:den RU.T i64)=>k≠l) p'.1/\
  (∀ (i:Int),List.Mem i p'.1->(0:Int)<=i/\i<(↑j:Int))/\
  p'.2.1=T8 (L6 a b c) p'.1)/\
  j-List.length p'.1<j-List.length e3_3))/\
  (true=false->(e1_4,())=(A5 a b c,())))/\
  ((∀ (i:Nat),i<g->List.Mem i e2_4)->
  (false=true->
  (List.length e1_4=g/\List.getLast? e2_4=some e4_2/\e4_2<g)/\
  (e0_3=true->
  ∃ (p':List Int×List (Int×Span)×Unit),
  a=a/\
  b=b/\
  c=c/\
  d=d/\
  Value.map none=Value.map none/\
  a=a/\
  e1_1=e1_1/\
  e0_1=e0_1/\
  b=b/\
  f=f/\
  e2_2=e2_2/\
  e1_2=e1_2/\
  c=c/\
  h=h/\
  e2_3=e2_3/\
  e1_3=e1_3/\
  a=a/\
  b=b/\
  c=c/\
  d=d/\
  mput (λ(x y:Int)=>x==y) e1_4
  (List.getD
  (List.map (λ(x:den RU.T (Ty.int IntKind.i64)×den RU.T (Ty.user (3:Nat)))=>x.1)
  e1_4)
  e4_2 (0:Int))
  r=
  p'.2.1/\
  g=g/\
  e2_4=List.map Int.toNat p'.1/\
  e4_2=List.getLastD (List.map Int.toNat p'.1) (0:Nat)/\
  (List.Pairwise (λ(k l:den RU.T i64)=>k≠l) p'.1/\
  (∀ (i:Int),List.Mem i p'.1->(0:Int)<=i/\i<(↑j:Int))/\
  p'.2.1=T8 (L6 a b c) p'.1)/\
  j-List.length p'.1<j-List.length e3_3)/\
  (e0_3=false->
  ∃ (p':List Int×List (Int×Span)×Unit),
  a=a/\
  b=b/\
  c=c/\
  d=d/\
  Value.map none=Value.map none/\
  a=a/\
  e1_1=e1_1/\
  e0_1=e0_1/\
  b=b/\
  f=f/\
  e2_2=e2_2/\
  e1_2=e1_2/\
  c=c/\
  h=h/\
  e2_3=e2_3/\
  e1_3=e1_3/\
  a=a/\
  b=b/\
  c=c/\
  d=d/\
  e1_4=p'.2.1/\
  g=g/\
  e2_4=List.map Int.toNat p'.1/\
  e4_2=List.getLastD (List.map Int.toNat p'.1) (0:Nat)/\
  (List.Pairwise (λ(k l:den RU.T i64)=>k≠l) p'.1/\
  (∀ (i:Int),List.Mem i p'.1->(0:Int)<=i/\i<(↑j:Int))/\
  p'.2.1=T8 (L6 a b c) p'.1)/\
  j-List.length p'.1<j-List.length e3_3))/\
  (false=false->(e1_4,())=(A5 a b c,()))))))):=by kernel_rfl
theorem cl8 (a:Int) (b:List Ins) (c d:List Int):vc (EVd [(23,[0])] noIt [(41,cCheck),(51,cSpans),(69,cAt)]) (cl7 a b c) Go.Proofs.Tryd.f33 cLive (a,b,c,d,())=(let e:Bool:=C1 (VFun.mk a b c d) !=(0:Int);
 let f:Int:=IntKind.i64.wrap ((↑(List.length b):Int)+(1:Int));
 let g:Span:=Span.mk (0:Int) (0:Int);
 let i:List (List Int)×Int×Unit:=((Q5 (VFun.mk a b c d)).1,(Q5 (VFun.mk a b c d)).2,());
 let h:Int:=C1 (VFun.mk a b c d);
 let k:Nat:=List.length b+(1:Nat);
  Small RU (Sigma.mk (Ty.slice (52:Nat) (Ty.user (0:Nat))) b)->
  Small RU (Sigma.mk (Ty.slice (3:Nat) (Ty.int IntKind.i64)) c)->
  Small RU (Sigma.mk (Ty.slice (3:Nat) (Ty.int IntKind.i64)) d)->
  (e=true->([],h,())=i)/\
  (e=false->
  ((0:Int)<=f/\f*(↑(24:Nat):Int)<=(↑(140737488355328:Nat):Int))/\
  a<=(4000:Int)/\
  (∃ (p:Int×List (List Int)×Unit),
  a=a/\
  b=b/\
  c=c/\
  d=d/\
  (0:Int)=(0:Int)/\
  h=h/\
  e=e/\
  (0:Int)=p.1/\
  a=a/\
  b=b/\
  c=c/\
  d=d/\
  List.replicate (Int.toNat f) []=p.2.1/\
  A5 a b c=A5 a b c/\(0:Int)<=p.1/\p.1<=(4000:Int)/\p.2.1=ab2 (A5 a b c) (List.length b) (Int.toNat p.1))/\
  ∀ (p:Int×List (List Int)×Unit),
 let e0_1:Bool:=decide (p.1<(4000:Int));
 let f:Int:=(Option.getD (mget (λ(x y:Int)=>x==y) (A5 a b c) p.1) g).first;
 let g:Int:=(Option.getD (mget (λ(x y:Int)=>x==y) (A5 a b c) p.1) g).last;
 let e3_1:Bool:=Option.isSome (mget (λ(x y:Int)=>x==y) (A5 a b c) p.1);
 let e4_1:Int:=p.1;
 let e5_1:Int:=(↑(List.length p.2.1):Int);
 let j:List (List Int):=p.2.1;
  (0:Int)<=e4_1/\e4_1<=(4000:Int)/\j=ab2 (A5 a b c) (List.length b) (Int.toNat e4_1)->
  (e0_1=true->
  (∃ (p:Int×List (List Int)×Unit),
  a=a/\
  b=b/\
  c=c/\
  d=d/\
  (0:Int)=(0:Int)/\
  h=h/\
  e=e/\
  e4_1=e4_1/\
  e0_1=e0_1/\
  e4_1=e4_1/\
  e3_1=e3_1/\
  f=p.1/\
  a=a/\
  b=b/\
  c=c/\
  d=d/\
  j=p.2.1/\
  A5 a b c=A5 a b c/\
  f=f/\
  g=g/\
  (0:Int)<=p.1/\
  p.1<=(↑(List.length b):Int)+(1:Int)/\
  (getS (A5 a b c) e4_1).first<=p.1/\p.2.1=Q0 (A5 a b c) (List.length b) e4_1 p.1)/\
  ∀ (p:Int×List (List Int)×Unit),
 let e0_2:Bool:=I6 f g p.1;
 let e1_1:Int:=p.1;
 let e2_1:List (List Int):=p.2.1;
 let i:Bool:=e3_1&&decide (e1_1<=g);
 let e4_2:Int:=(↑(List.length b):Int)+(1:Int);
  (0:Int)<=e1_1/\e1_1<=e4_2/\(getS (A5 a b c) e4_1).first<=e1_1/\e2_1=Q0 (A5 a b c) (List.length b) e4_1 e1_1->
  (i=true->
  (e0_2=true->
  ((0:Int)<=e1_1/\e1_1<(↑(List.length e2_1):Int))/\
  (List.length (List.getD e2_1 (Int.toNat e1_1) [])+List.length [e4_1])*(8:Nat)<=(140737488355328:Nat)/\
  ((0:Int)<=e1_1/\e1_1<(↑(List.length e2_1):Int))/\e1_1=e1_1)/\
  ∃ (p':Int×List (List Int)×Unit),
  (bif e0_2 then a else a)=a/\
  (bif e0_2 then b else b)=b/\
  (bif e0_2 then c else c)=c/\
  (bif e0_2 then d else d)=d/\
  (bif e0_2 then (0:Int) else (0:Int))=(0:Int)/\
  (bif e0_2 then h else h)=h/\
  (bif e0_2 then e else e)=e/\
  (bif e0_2 then e4_1 else e4_1)=e4_1/\
  (bif e0_2 then e0_1 else e0_1)=e0_1/\
  (bif e0_2 then e4_1 else e4_1)=e4_1/\
  (bif e0_2 then e3_1 else e3_1)=e3_1/\
  IntKind.i64.wrap ((bif e0_2 then e1_1 else e1_1)+(1:Int))=p'.1/\
  (bif e0_2 then a else a)=a/\
  (bif e0_2 then b else b)=b/\
  (bif e0_2 then c else c)=c/\
  (bif e0_2 then d else d)=d/\
  (bif e0_2 then List.set e2_1 (Int.toNat e1_1) (List.getD e2_1 (Int.toNat e1_1) []++[e4_1]) else e2_1)=p'.2.1/\
  (bif e0_2 then A5 a b c else A5 a b c)=A5 a b c/\
  (bif e0_2 then f else f)=f/\
  (bif e0_2 then g else g)=g/\
  ((0:Int)<=p'.1/\
  p'.1<=e4_2/\
  (getS (A5 a b c) e4_1).first<=p'.1/\p'.2.1=Q0 (A5 a b c) (List.length b) e4_1 p'.1)/\
  k-Int.toNat p'.1<k-Int.toNat e1_1)/\
  (i=false->
  ∃ (p':Int×List (List Int)×Unit),
  a=a/\
  b=b/\
  c=c/\
  d=d/\
  (0:Int)=(0:Int)/\
  h=h/\
  e=e/\
  IntKind.i64.wrap (e4_1+(1:Int))=p'.1/\
  a=a/\
  b=b/\
  c=c/\
  d=d/\
  e2_1=p'.2.1/\
  A5 a b c=A5 a b c/\
  ((0:Int)<=p'.1/\p'.1<=(4000:Int)/\p'.2.1=ab2 (A5 a b c) (List.length b) (Int.toNat p'.1))/\
  (4000:Nat)-Int.toNat p'.1<(4000:Nat)-Int.toNat e4_1))/\
  (e0_1=false->((0:Int)<=e5_1/\e5_1<=e5_1/\e5_1<=e5_1)/\(List.take (Int.toNat e5_1) j,(0:Int),())=i))):=by kernel_rfl
theorem aI7 (m:Spans) (l:List Int) (x i:Int):J6 m (l++[x]) i=as6 (J6 m l i) x i:=by simp [J6]
theorem bg0 (m:Spans) (l:List Int) (x i:Int):uses m (l++[x]) i=useS (uses m l i) x i:=by simp [uses]
theorem aI8 (n:Nat):upto (n+1)=upto n++[(n:Int)]:=by simp [upto,List.range_succ]
theorem aI9 (x:Ins):∀ (l:List Ins) (m:Spans) (i:Int),I8 m (l++[x]) i=J6 (uses (I8 m l i) x.from_ (i+l.length)) x.to (i+l.length+1)
 |[],m,i=>by simp [I8]
 |y::l,m,i=>by simp only [List.cons_append,I8,aI9 x l,cw9,Int.natCast_add];rw [show i+1+(l.length:Int)=i+((l.length:Int)+((1:Nat):Int)) by omega]
def V7 (m:Spans):List Int:=m.map (·.1)
theorem bg1 {m:Spans} (h:(V7 m).Nodup) (k:Int) (v:Span):(V7 (mput eqI m k v)).Nodup/\∀ n,n∈V7 (mput eqI m k v)<->n=k\/n∈V7 m:=by
 induction m with
 |nil=>simp [mput,V7]
 |cons x r ih=>
  obtain ⟨k',v'⟩:=x;obtain ⟨h1,h2⟩:=List.nodup_cons.1 (show (k'::V7 r).Nodup from h);simp only [mput,eqI,cw6,beq_iff_eq];by_cases a:k'=k
  .subst a;rw [if_pos rfl];refine ⟨h,λn=>?_⟩;show n∈k'::V7 r<->n=k'\/n∈k'::V7 r;simp
  .rw [if_neg a];obtain ⟨d,c⟩:=ih h2;refine ⟨List.nodup_cons.2 ⟨λhm=>?_,d⟩,λn=>?_⟩
   .rcases (c k').1 hm with b|b
    .exact a b
    .exact h1 b
   .show n∈k'::V7 (mput eqI r k v)<->n=k\/n∈k'::V7 r;simp only [List.mem_cons,c];constructor
    .rintro (h|h|h)<;>simp [h]
    .rintro (h|h|h)<;>simp [h]
theorem aJ0 (l:List Int) (i:Int):∀ {m:Spans},(V7 m).Nodup->(V7 (J6 m l i)).Nodup:=by
 induction l with
 |nil=>intro m h;exact h
 |cons x r ih=>intro m h;exact ih (bg1 h _ _).1
theorem bg2 (l:List Int) (i:Int):∀ {m:Spans},(V7 m).Nodup->(V7 (uses m l i)).Nodup:=by
 induction l with
 |nil=>intro m h;exact h
 |cons x r ih=>intro m h;exact ih (bg1 h _ _).1
theorem aJ1:∀ (l:List Ins) (i:Int) {m:Spans},(V7 m).Nodup->(V7 (I8 m l i)).Nodup
 |[],_,_,h=>h
 |x::r,i,m,h=>aJ1 r (i+1) (aJ0 _ _ (bg2 _ _ h))
theorem bp3 (a:Int) (b:List Ins) (c:List Int):(V7 (L6 a b c)).Nodup:=bg2 _ _ (aJ1 _ _ (aJ0 _ _ (by simp [V7])))
theorem bQ5:∀ {m:Spans},(V7 m).Nodup->∀ {i:Nat} {x:Int×Span},m[i]? =some x->∀ v,mput eqI m x.1 v=m.set i (x.1,v)
 |[],_,i,x,h,_=>by simp at h
 |(k',v')::r,a,0,x,h,v=>by simp only [cw1,cv3] at h;subst h;simp [mput,eqI]
 |(k',v')::r,a,i+1,x,h,v=>by obtain ⟨h1,h2⟩:=List.nodup_cons.1 (show (k'::V7 r).Nodup from a);simp only [List.getElem?_cons_succ] at h;have b:k'≠x.1:=λe=>h1 (by rw [e];exact List.mem_map.2 ⟨x,List.mem_of_getElem? h,rfl⟩);simp only [mput,eqI,cw6,beq_iff_eq,if_neg b,List.set_cons_succ];rw [show mput (λx y=>x==y) r x.1 v=mput eqI r x.1 v from rfl,bQ5 h2 h v]
theorem ab3 (m:Spans) (seen:List Int) (i:Nat):(T8 m seen)[i]? =(m[i]?).map λx=>if seen.contains (i:Int) then (x.1,finS x.2) else x:=by unfold T8;rw [cw8,List.getElem?_zipIdx];cases m[i]? <;>simp
theorem az2 (m:Spans) (seen:List Int):(T8 m seen).length=m.length:=by simp [T8]
theorem bE6 (m:Spans) (seen:List Int):V7 (T8 m seen)=V7 m:=by
 apply List.ext_getElem?;intro i;simp only [V7,cw8,ab3];cases m[i]? with
 |none=>rfl
 |some x=>simp only [Option.map_some];split<;>rfl
theorem bQ6 {m:Spans} {seen:List Int} (h:∀ i:Nat,i<m.length->seen.contains (i:Int)=true):T8 m seen=m.map λx=>(x.1,finS x.2):=by
 apply List.ext_getElem?;intro i;rw [ab3,cw8];cases hm:m[i]? with
 |none=>rfl
 |some x=>rw [Option.map_some,Option.map_some,if_pos (h i (cv8.1 hm).1)]
theorem bQ7 (m:Spans):T8 m []=m:=by apply List.ext_getElem?;intro i;rw [ab3];cases m[i]? <;>simp
theorem aQ9 {m:Spans} {seen:List Int} {i:Nat} {x:Int×Span} (b:m[i]? =some x):T8 m (seen++[(i:Int)])=(T8 m seen).set i (x.1,finS x.2):=by
 have d:=(cv8.1 b).1;have a:m[i]=x:=(cv8.1 b).2;apply List.ext_getElem?;intro j;rw [cx9,ab3,ab3,az2];by_cases c:i=j
 .subst c;simp [a,d]
 .rw [if_neg c];have:(seen++[(i:Int)]).contains (j:Int)=seen.contains (j:Int):=by
   rw [Bool.eq_iff_iff,List.contains_iff_mem,List.contains_iff_mem,cy1,cw4];constructor
   .rintro (h|h)
    .exact h
    .omega
   .exact .inl
  rw [this]
theorem cb5 (n i:Int) (m:Spans):vc (EV []) noL Go.Proofs.Tryd.f81 cBegin (n,i,m,()):=(cb3 n i m).mpr rfl
theorem cl9 (n i:Int) (m:Spans):mput (λ(x y:Int)=>x==y) m n (Span.mk (Option.getD (mget (λ(x y:Int)=>x==y) m n) (Span.mk (0:Int) (0:Int))).first i)=useS m n i:=by unfold useS getS;rfl
theorem cs3 (n i:Int) (m:Spans):vc (EV []) noL Go.Proofs.Tryd.f82 cUse (n,i,m,()):=by have h:=cr9 n i m;rw [h,cl9]
theorem bp4:C9 prog RG 81 cBegin:=E8 B9 (λ_=>noL) (by kernel_rfl) (by kernel_rfl) (by kernel_rfl) λ(n,i,m,()) _=>cb5 n i m
theorem bQ8:C9 prog RG 82 cUse:=E8 B9 (λ_=>noL) (by kernel_rfl) (by kernel_rfl) (by kernel_rfl) λ(n,i,m,()) _=>cs3 n i m
theorem aC0:∀ (n:Nat) (l:List Nat),l.Nodup->(∀ x∈l,x<n)->l.length<=n
 |0,l,_,h=>by
  cases l with
  |nil=>simp
  |cons x r=>have:=h x (by simp);omega
 |n+1,l,b,h=>by
  by_cases hm:n∈l
  .have h1:=aC0 n (l.erase n) (b.erase n) (λx a=>by
    have h2:=(b.mem_erase_iff).1 a;have:=h x h2.2;have:=h2.1;omega)
   rw [List.length_erase_of_mem hm] at h1;omega
  .have:=aC0 n l b (λx a=>by
    have:=h x a;have:x≠n:=λe=>hm (e▸a);omega)
   omega
theorem bg3 {m:Spans} (n:(V7 m).Nodup) {seen:List Int} (p:seen.Nodup) (hs:∀ i∈seen,0<=i/\i<(m.length:Int)) {i:Nat} (o:i<m.length) (f:¬ i∈seen.map Int.toNat):
  (seen++[(i:Int)]).Nodup/\(∀ j∈seen++[(i:Int)],0<=j/\j<(m.length:Int))/\(seen++[(i:Int)]).length<=m.length/\∃ x,m[i]? =some x/\(T8 m seen)[i]? =some x:=by
 have c:¬ (i:Int)∈seen:=λh=>f (List.mem_map.2 ⟨_,h,by simp⟩);have h1:(seen++[(i:Int)]).Nodup:=by rw [List.nodup_append];refine ⟨p,by simp,λa g b e=>?_⟩;simp only [cw4] at e;rw [e];rintro rfl;exact c g
 have h2:∀ j∈seen++[(i:Int)],0<=j/\j<(m.length:Int):=by
  intro j d;rcases cy1.1 d with d|d
  .exact hs j d
  .simp only [cw4] at d;omega
 refine ⟨h1,h2,?_,m[i],cv5 o,?_⟩
 .have q:((seen++[(i:Int)]).map Int.toNat).Nodup:=by
   rw [List.Nodup,List.pairwise_map];exact h1.imp_of_mem (λ{a b} g e l r=>l (by have:=h2 a g;have:=h2 b e;omega))
  have:=aC0 m.length _ q (λj d=>by
   obtain ⟨k,n,rfl⟩:=List.mem_map.1 d;have:=h2 k n;omega)
  simpa using this
 .rw [ab3,cv5 o,Option.map_some,if_neg (by rw [List.contains_iff_mem];exact c)]
theorem bg4 (l:List Nat) (i:Nat):(l++[i]).getLast? =some i:=by simp
theorem av9 {M:Type} {l:List Int} (hl:l.length<=140737488355328) {F:List Int->M} {G:M->Int->M} (b:∀ l x,F (l++[x])=G (F l) x) (p:Int×M×Unit) (h:0<=p.1/\p.1<=(l.length:Int)/\p.2.1=F (l.take p.1.toNat)) (a:decide (p.1<(l.length:Int))=true):
  (0<=p.1/\p.1<(l.length:Int))/\∃ p':Int×M×Unit,IntKind.i64.wrap (p.1+1)=p'.1/\G p.2.1 (l.getD p.1.toNat 0)=p'.2.1/\(0<=p'.1/\p'.1<=(l.length:Int)/\p'.2.1=F (l.take p'.1.toNat))/\l.length-p'.1.toNat<l.length-p.1.toNat:=by
 obtain ⟨i,m,⟨⟩⟩:=p;obtain ⟨h0,h1,h2⟩:=h;dsimp only at h0 h1 h2 a |-;obtain ⟨k,rfl⟩:=cv9 h0;have a:(k:Int)<l.length:=cw3 a;refine ⟨⟨h0,a⟩,((k+1:Nat),F (l.take (k+1)),()),B5 (by omega) hl,?_,⟨by omega,by dsimp only;omega,by rw [cv7]⟩,by dsimp only;omega⟩;rw [h2,cv7,A4 (by omega) 0,b]
theorem cb6 (a:Int) (b:List Ins) (c d:List Int) (ha:a<=4000):vc (EV [(81,cBegin),(82,cUse)]) (bQ4 a b c) Go.Proofs.Tryd.f51 cSpans (a,b,c,d,()):=by
 rw [cb4 a b c d];intro R V W X S C hc _;have Y:b.length<=140737488355328:=C.len;have D:c.length<=140737488355328:=hc.len;have E:R=ins0:=rfl;have H:S=never:=rfl
 clear_value R S
 subst E H;dsimp only [V,W,X];simp only [true_and,and_true];refine ⟨⟨(0,[],()),rfl,rfl,Int.le_refl _,.inr rfl,rfl⟩,?_⟩;rintro ⟨i,m,⟨⟩⟩ ⟨h0,h1,h2⟩;dsimp only at h0 h1 h2 |-;subst h2;obtain ⟨k,rfl⟩:=cv9 h0;simp only [cv7];refine ⟨λf=>?_,λe=>?_⟩
 .have f:(k:Int)<a:=cw3 f;refine ⟨((k+1:Nat),J6 [] (upto (k+1)) 0,()),by rw [F9 (by omega) (by omega)];rfl,?_,⟨by omega,.inl (by dsimp only;omega),by rw [cv7]⟩,by dsimp only;omega⟩;rw [aI8,aI7]
 have I:k=a.toNat:=by have:¬ (k:Int)<a:=cw2 e;omega
 subst I;clear h0 h1 e;refine ⟨⟨(0,J6 [] (upto a.toNat) 0,()),rfl,rfl,Int.le_refl _,by dsimp only;omega,rfl⟩,?_⟩;rintro ⟨i,m,⟨⟩⟩ ⟨h0,h1,h2⟩;dsimp only at h0 h1 h2 |-;subst h2;obtain ⟨k,rfl⟩:=cv9 h0;simp only [cv7];have T:k<b.length->IntKind.i64.wrap ((k:Int)+1)=(k:Int)+1:=λh=>F9 (by omega) (by omega);refine ⟨λf=>?_,λe=>?_⟩
 .have f:(k:Int)<b.length:=cw3 f;rw [T (by omega)];refine ⟨⟨h0,f⟩,⟨(0,_,()),rfl,rfl,Int.le_refl _,by dsimp only;omega,rfl⟩,λp r=>⟨av9 (F:=λl=>uses (I8 (L0 a) (b.take k) 0) l k) (G:=λm x=>useS m x k) (aI4 C (by omega)) (λl x=>bg0 _ _ _ _) p r,λe=>?_⟩⟩;obtain ⟨q,m,⟨⟩⟩:=p;obtain ⟨z,A,g⟩:=r;dsimp only at z A g e |-;have u:q.toNat=(b.getD k ins0).from_.length:=by have:¬ q<(b.getD k ins0).from_.length:=cw2 e;omega
  rw [u,cy3] at g;subst g;refine ⟨⟨(0,_,()),rfl,rfl,Int.le_refl _,by dsimp only;omega,rfl⟩,λp r=>⟨av9 (F:=λl=>J6 (uses (I8 (L0 a) (b.take k) 0) (b.getD k ins0).from_ k) l (k+1)) (G:=λm x=>as6 m x (k+1)) (aI5 C (by omega)) (λl x=>aI7 _ _ _ _) p r,λe=>?_⟩⟩;obtain ⟨q',m,⟨⟩⟩:=p;obtain ⟨J,K,g⟩:=r;dsimp only at J K g e |-;have u:q'.toNat=(b.getD k ins0).to.length:=by have:¬ q'<(b.getD k ins0).to.length:=cw2 e;omega
  rw [u,cy3] at g;subst g;refine ⟨((k:Int)+1,_,()),rfl,rfl,⟨by dsimp only;omega,by dsimp only;omega,?_⟩,by dsimp only;omega⟩;dsimp only;rw [show ((k:Int)+1).toNat=k+1 by omega,A4 (by omega) ins0,aI9,cy4,Nat.min_eq_left (by omega),Int.zero_add];rfl
 have I:k=b.length:=by have:¬ (k:Int)<b.length:=cw2 e;omega
 subst I;rw [cy3];clear h0 h1 e T;refine ⟨⟨(0,_,()),rfl,rfl,Int.le_refl _,by dsimp only;omega,rfl⟩,λp r=>⟨av9 (F:=λl=>uses (I8 (L0 a) b 0) l b.length) (G:=λm x=>useS m x b.length) D (λl x=>bg0 _ _ _ _) p r,λe=>?_⟩⟩;obtain ⟨q,m,⟨⟩⟩:=p;obtain ⟨z,A,g⟩:=r;dsimp only at z A g e |-;have u:q.toNat=c.length:=by have:¬ q<(c.length:Int):=cw2 e;omega
 rw [u,cy3] at g;have hm:m=L6 a b c:=g;subst hm;clear z A g e u;have n:=bp3 a b c;have L:A5 a b c=(L6 a b c).map λx=>(x.1,finS x.2):=rfl;generalize L6 a b c=m at*
 refine ⟨⟨([],m,()),rfl,rfl,rfl,List.Pairwise.nil,λi s=>(by cases s),(bQ7 m).symm⟩,?_⟩;rintro ⟨seen,m',⟨⟩⟩ ⟨h1,h2,U⟩;dsimp only at h1 h2 U |-;subst U;have o:(T8 m seen).length=m.length:=az2 m seen;refine ⟨o,λi s w=>⟨λ_=>⟨⟨o,bg4 _ _,s⟩,λhc=>?_,λhc=>?_⟩,λh=>by cases h⟩,λy=>⟨λh=>(by cases h),λ_=>?_⟩⟩
 .obtain ⟨M,N,O,x,P,v⟩:=bg3 n h1 h2 s w;have t:((T8 m seen).map λx=>x.2).getD i ⟨0,0⟩=x.2:=by rw [cw7,cw8,v];rfl
  have Q:((T8 m seen).map λx=>x.1).getD i 0=x.1:=by rw [cw7,cw8,v];rfl
  have hc:decide (x.2.last<0)=true:=by rw [<-t];exact hc
  have hc:x.2.last<0:=cw3 hc;refine ⟨(seen++[(i:Int)],T8 m (seen++[(i:Int)]),()),?_,by simp,by simp,⟨M,N,rfl⟩,by simp only [cx5,cx8] at O |-;omega⟩;show mput eqI (T8 m seen) (((T8 m seen).map λx=>x.1).getD i 0) never=T8 m (seen++[(i:Int)]);rw [Q,bQ5 (by rw [bE6];exact n) v,aQ9 P];rw [show finS x.2=never by unfold finS;rw [if_pos hc]]
 .obtain ⟨M,N,O,x,P,v⟩:=bg3 n h1 h2 s w;have t:((T8 m seen).map λx=>x.2).getD i ⟨0,0⟩=x.2:=by rw [cw7,cw8,v];rfl
  have hc:decide (x.2.last<0)=false:=by rw [<-t];exact hc
  have hc:¬ x.2.last<0:=cw2 hc;refine ⟨(seen++[(i:Int)],T8 m (seen++[(i:Int)]),()),?_,by simp,by simp,⟨M,N,rfl⟩,by simp only [cx5,cx8] at O |-;omega⟩;dsimp only;rw [aQ9 P,show finS x.2=x.2 by unfold finS;rw [if_neg hc]];apply List.ext_getElem?;intro j;rw [cx9];split
  .rename_i B;subst B;rw [v,if_pos (by rw [o];exact s)]
  .rfl
 .rw [L,bQ6];intro i s;obtain ⟨j,B,Z⟩:=List.mem_map.1 (show i∈seen.map Int.toNat from y i s);have:=h2 j B;rw [List.contains_iff_mem,show (i:Int)=j by omega];exact B
theorem aJ2:C9 prog RG 51 cSpans:=E8 (k:=cSpans) (A7 bp4 (A7 bQ8 B9)) (λp=>bQ4 p.1 p.2.1 p.2.2.1) (by kernel_rfl) (by kernel_rfl) (by kernel_rfl) λ(a,b,c,d,()) e=>cb6 a b c d e
theorem X2 (l:List Int) (i n:Int):∀ (m:Spans),mget eqI (J6 m l i) n=if n∈l then some ⟨i,-1⟩ else mget eqI m n:=by
 induction l with
 |nil=>intro m;simp [J6]
 |cons x r ih=>
  intro m;rw [show J6 m (x::r) i=J6 (as6 m x i) r i from rfl,ih,as6,I7];by_cases h1:n∈r
  .simp [h1]
  .by_cases h2:x=n
   .simp [h2]
   .simp [h1,h2,Ne.symm h2]
theorem as7 (l:List Int) (i n:Int):∀ (m:Spans),mget eqI (uses m l i) n=if n∈l then some ⟨(getS m n).first,i⟩ else mget eqI m n:=by
 induction l with
 |nil=>intro m;simp [uses]
 |cons x r ih=>
  intro m;rw [show uses m (x::r) i=uses (useS m x i) r i from rfl,ih];have hg:mget eqI (useS m x i) n=if x=n then some ⟨(getS m x).first,i⟩ else mget eqI m n:=by rw [useS,I7]
  have hf:(getS (useS m x i) n).first=(getS m n).first:=by
   unfold getS;rw [hg];by_cases h2:x=n
   .subst h2;simp [getS]
   .simp [h2]
  rw [hf,hg];by_cases h1:n∈r
  .simp [h1]
  .by_cases h2:x=n
   .subst h2;simp [h1]
   .simp [h1,h2,Ne.symm h2]
def L8 (n:Int):List Ins->Int->Int->Int
 |[],_,d=>d
 |x::r,i,d=>L8 n r (i+1) (if n∈x.from_ then i else d)
theorem ah2 (n:Int):∀ (code:List Ins) (m:Spans) (i f d:Int),n∉wr code->mget eqI m n=some ⟨f,d⟩->mget eqI (I8 m code i) n=some ⟨f,L8 n code i d⟩
 |[],m,i,f,d,_,h=>h
 |x::r,m,i,f,d,b,h=>by
  have a:n∉x.to/\n∉wr r:=by simpa [wr] using b
  simp only [I8,L8];have hg:getS m n=⟨f,d⟩:=by unfold getS;rw [h];rfl
  refine ah2 n r _ (i+1) f _ a.2 ?_;rw [X2,if_neg a.1,as7,hg,h];split<;>rfl
theorem am3 (n:Int):∀ (l:List Ins) (x:Ins) (r:List Ins) (m:Spans) (i:Int),n∈x.to->n∉wr r->mget eqI (I8 m (l++x::r) i) n=some ⟨i+l.length+1,L8 n r (i+l.length+1) (-1)⟩
 |[],x,r,m,i,h1,h2=>by simp only [List.nil_append,I8,List.length_nil];have:=ah2 n r (J6 (uses m x.from_ i) x.to (i+1)) (i+1) (i+1) (-1) h2 (by rw [X2,if_pos h1]);simpa using this
 |y::l,x,r,m,i,h1,h2=>by
  simp only [List.cons_append,I8,cw9,Int.natCast_add];rw [am3 n l x r _ (i+1) h1 h2];congr 2
  .omega
  .rw [show i+1+(l.length:Int)+1=i+((l.length:Int)+((1:Nat):Int))+1 by omega]
theorem aJ3 (n:Int) (k:Nat):mget eqI (J6 [] (upto k) 0) n=if 0<=n/\n<k then some ⟨0,-1⟩ else none:=by
 rw [X2];have:n∈upto k<->0<=n/\n<k:=by
  unfold upto;simp only [List.mem_map,List.mem_range];constructor
  .rintro ⟨j,a,rfl⟩;omega
  .rintro ⟨h1,h2⟩;exact ⟨n.toNat,by omega,by omega⟩
 by_cases h:0<=n/\n<k
 .rw [if_pos (this.2 h),if_pos h]
 .rw [if_neg (λh'=>h (this.1 h')),if_neg h];rfl
def fin (n:Int) (code:List Ins) (out:List Int) (i d:Int):Int:=if n∈out then i+code.length else L8 n code i d
theorem L7 (out:List Int):∀ code:List Ins,(E6 code out).length=code.length+1
 |[]=>rfl
 |x::r=>by simp [E6,L7 out r]
theorem ak3 {x:Ins} {l:List Int} {n:Int}:n∈am1 x l<->n∈x.from_\/(n∈l/\n∉x.to):=by unfold am1;rw [show (l.filter λn=>!x.to.contains n).foldl T6 (C8 [] x.from_)=C8 (C8 [] x.from_) (l.filter λn=>!x.to.contains n) from rfl,O3,O3];simp [List.mem_filter]
theorem bg5 (out:List Int) (code:List Ins):(E6 code out)[0]? =some ((E6 code out).headD []):=by cases code<;>rfl
theorem ak4 {x:Ins} {r:List Ins} {out:List Int} {n:Int}:n∈(E6 (x::r) out).headD []<->n∈x.from_\/(n∈(E6 r out).headD []/\n∉x.to):=by simp only [E6,List.headD_cons,ak3]
def atL (code:List Ins) (out:List Int) (p:Nat):List Int:=(E6 code out).getD p []
theorem V8 (code:List Ins) (out:List Int):atL code out 0=(E6 code out).headD []:=by unfold atL;rw [cw7,bg5];rfl
theorem ak5 (x:Ins) (r:List Ins) (out:List Int) (p:Nat):atL (x::r) out (p+1)=atL r out p:=by simp [atL,E6]
theorem ak6 (n:Int):∀ (code:List Ins) (i d:Int),d<i->d<=L8 n code i d/\L8 n code i d<i+code.length
 |[],i,d,h=>by simp [L8];omega
 |x::r,i,d,h=>by simp only [L8,cw9,Int.natCast_add];have:=ak6 n r (i+1) (if n∈x.from_ then i else d) (by split<;>omega);split at this<;>rename_i a<;>simp only [a,if_true,if_false]<;>omega
theorem bg6 (n:Int) (out:List Int):∀ (code:List Ins) (p:Nat) (i d:Int),n∉wr code->p<=code.length->d<i->(n∈atL code out p<->i+p<=fin n code out i d)
 |[],0,i,d,_,_,b=>by
  simp only [atL,E6,fin,L8,List.getD_cons_zero,O3,List.not_mem_nil,false_or,List.length_nil];split<;>rename_i h
  .simp [h]
  .simp [h];omega
 |[],p+1,i,d,_,h,_=>by simp at h
 |x::r,0,i,d,c,_,b=>by
  have a:n∉x.to/\n∉wr r:=by simpa [wr] using c
  rw [V8,ak4,<-V8];have ih:=bg6 n out r 0 (i+1) (if n∈x.from_ then i else d) a.2 (Nat.zero_le _) (by split<;>omega);rw [ih];have hl:=ak6 n r (i+1) (if n∈x.from_ then i else d) (by split<;>omega);simp only [fin,L8,cw9,Int.natCast_add,a.1,not_false_eq_true,and_true];by_cases f:n∈out
  .simp only [f,if_true];by_cases hf:n∈x.from_
   .simp [hf];omega
   .simp [hf];omega
  .simp only [f,if_false];by_cases hf:n∈x.from_
   .simp only [hf,if_true,true_or,true_iff] at hl |-;omega
   .simp only [hf,if_false,false_or] at hl |-;have g:∀ (q:List Ins) (j d:Int),d<j->L8 n q j d=d\/j<=L8 n q j d:=by
     intro q
     induction q with
     |nil=>intro j d _;exact .inl rfl
     |cons y q ih=>
      intro j d b;simp only [L8];rcases ih (j+1) (if n∈y.from_ then j else d) (by split<;>omega) with h|h
      .split at h
       .rename_i e;right;simp only [e,if_true];omega
       .rename_i e;left;simp only [e,if_false];exact h
      .right;omega
    have:=g r (i+1) d (by omega);omega
 |x::r,p+1,i,d,c,k,b=>by
  have a:n∉x.to/\n∉wr r:=by simpa [wr] using c
  rw [ak5];have ih:=bg6 n out r p (i+1) (if n∈x.from_ then i else d) a.2 (by simpa using k) (by split<;>omega);rw [ih];simp only [fin,L8,cw9,Int.natCast_add];split<;>omega
theorem bQ9 (n:Int) (out:List Int) (x:Ins) (r:List Ins) (b:n∈x.to) (a:n∉x.from_):∀ (l:List Ins),(∀ y∈l,n∉y.from_)->∀ p:Nat,p<=l.length->n∉atL (l++x::r) out p
 |[],_,0,_=>by rw [List.nil_append,V8,ak4];simp [b,a]
 |[],_,p+1,h=>by simp at h
 |y::l,hl,0,_=>by have ih:=bQ9 n out x r b a l (λz c=>hl z (by simp [c])) 0 (Nat.zero_le _);rw [List.cons_append,V8,ak4,<-V8];have:=hl y (by simp);simp [ih,this]
 |y::l,hl,p+1,h=>by rw [List.cons_append,ak5];exact bQ9 n out x r b a l (λz c=>hl z (by simp [c])) p (by simpa using h)
theorem aw0 (out:List Int) (r:List Ins):∀ (l:List Ins) (p:Nat),atL (l++r) out (l.length+p)=atL r out p
 |[],p=>by simp
 |x::l,p=>by rw [List.cons_append,cw9,show l.length+1+p=(l.length+p)+1 by omega,ak5];exact aw0 out r l p
structure Checked (a:Int) (b:List Ins) (c:List Int):Prop where
 len:b.length<=4000
 pos:0<=a
 few:a<=4000
 outR:∀ n∈c,0<=n/\n<=3999
 toR:∀ x∈b,∀ n∈x.to,0<=n/\n<=3999
 fromR:∀ x∈b,∀ n∈x.from_,0<=n/\n<=3999
 once:D6 (wr b)=true
 new:∀ n∈wr b,a<=n
 there:D3 a [] b=true
 outT:∀ n∈c,n<a\/n∈wr b
theorem as8 {n:Int}:T7 n=true<->0<=n/\n<=3999:=by simp [T7,lies]
theorem aX3 {a:Int} {b:List Ins} {c d:List Int} (h:C1 ⟨a,b,c,d⟩=0):Checked a b c:=by
 simp only [C1] at h;split at h
 .cases h
 rename_i h1;split at h
 .cases h
 rename_i h2;split at h
 .cases h
 rename_i i;split at h
 .cases h
 rename_i j;simp only [Bool.not_eq_true',Bool.not_eq_false,cv6,cy5,cx6,lies] at h2 i j;obtain ⟨⟨f,k⟩,g⟩:=h2;exact ⟨by omega,f.1,f.2,λn e=>as8.1 (k n e),λx l n e=>as8.1 ((g x l).1 n e),λx l n e=>as8.1 ((g x l).2 n e),i.1,i.2,j.1,λn e=>by
  have:=j.2 n e;simpa [List.contains_iff_mem] using this⟩
theorem aR0 {b:List Ins} {n:Int}:n∈wr b<->∃ x∈b,n∈x.to:=by simp [wr,List.mem_flatMap]
theorem T9 (l r:List Ins):wr (l++r)=wr l++wr r:=by simp [wr]
theorem L9 (x:Ins) (r:List Ins):wr (x::r)=x.to++wr r:=by simp [wr]
theorem D7:∀ {l:List Int},D6 l=true<->l.Nodup
 |[]=>by simp [D6]
 |x::r=>by simp only [D6,cv6,Bool.not_eq_true',D7 (l:=r),List.nodup_cons];rw [Bool.eq_false_iff,ne_eq,List.contains_iff_mem]
theorem M9 {a:Int}:∀ {l:List Ins} {x:Ins} {r:List Ins} {W:List Int},D3 a W (l++x::r)=true->∀ n∈x.from_,n<a\/n∈W++wr l:=by intro l x r W h n b;rw [M8] at h;simp only [cv6,D3,cy5] at h;have:=h.2.1 n b;simpa [List.contains_iff_mem] using this
theorem cb7 {b:List Ins} {n:Int} (h:n∈wr b):∃ l x r,b=l++x::r/\n∈x.to/\n∉wr l:=by
 induction b with
 |nil=>simp [wr] at h
 |cons y b ih=>
  by_cases a:n∈y.to
  .exact ⟨[],y,b,rfl,a,by simp [wr]⟩
  .rw [L9,cy1] at h;obtain ⟨l,x,r,h1,h2,c⟩:=ih (h.resolve_left a);refine ⟨y::l,x,r,by rw [h1];rfl,h2,?_⟩;rw [L9,cy1];rintro (h|h)
   .exact a h
   .exact c h
theorem aX4 (m:Spans) (n:Int):mget eqI (m.map λx=>(x.1,finS x.2)) n=(mget eqI m n).map finS:=by
 induction m with
 |nil=>rfl
 |cons x r ih=>
  obtain ⟨k,s⟩:=x;simp only [List.map_cons,mget,eqI,cw6,beq_iff_eq];split
  .rfl
  .exact ih
theorem aJ4 (n:Int):∀ (code:List Ins) (m:Spans) (i:Int),n∉wr code->(∀ x∈code,n∉x.from_)->mget eqI m n=none->mget eqI (I8 m code i) n=none
 |[],m,i,_,_,h=>h
 |x::r,m,i,a,hf,h=>by rw [L9,cy1] at a;refine aJ4 n r _ _ (λh'=>a (.inr h')) (λy b=>hf y (by simp [b])) ?_;rw [X2,if_neg (λh'=>a (.inl h')),as7,if_neg (hf x (by simp)),h]
theorem az3 (n:Int):∀ (code:List Ins) (i d:Int),(∀ x∈code,n∉x.from_)->L8 n code i d=d
 |[],_,_,_=>rfl
 |x::r,i,d,h=>by simp only [L8,if_neg (h x (by simp))];exact az3 n r _ _ (λy a=>h y (by simp [a]))
theorem bg7 {a:Int} {b:List Ins} {c:List Int} {n f l:Int} (h:mget eqI (L6 a b c) n=some ⟨f,l⟩) (hf:0<=f) (hl:l=-1\/0<=l) (p:Nat):X1 (A5 a b c) p n=true<->f<=p/\(p:Int)<=l:=by
 unfold X1 A5;rw [aX4,h];simp only [Option.map_some,finS];rcases hl with hl|hl
 .subst hl;simp [I6,never];omega
 .rw [if_neg (by omega)];simp [I6];omega
theorem bx5 {a:Int} {b:List Ins} {c:List Int} (C:Checked a b c) (n:Int) (p:Nat) (G:p<=b.length):X1 (A5 a b c) p n=true<->n∈atL b c p:=by
 have f:∀ (m:Spans),mget eqI (uses m c b.length) n=if n∈c then some ⟨(getS m n).first,(b.length:Int)⟩ else mget eqI m n:=λm=>as7 c _ n m;by_cases i:n∈wr b
 .obtain ⟨l,x,r,k,o,hl⟩:=cb7 i;have s:=D7.1 C.once;rw [k,T9,L9] at s;have hr:n∉wr r:=by
   intro h;have h2:=(List.nodup_append.1 s).2.1;exact (List.nodup_append.1 h2).2.2 n o n h rfl
  have t:¬ n<a:=by have:=C.new n i;omega
  have e:=C.there;rw [k] at e;have B:n∉x.from_:=λh=>by
   rcases M9 e n h with h1|h1
   .exact t h1
   .exact hl (by simpa using h1)
  have D:∀ y∈l,n∉y.from_:=by
   intro y I h;obtain ⟨J,K,d⟩:=List.append_of_mem I;have j:=e;rw [d,cy0,List.cons_append] at j;rcases M9 j n h with h1|h1
   .exact t h1
   .refine hl ?_;rw [d,T9];exact List.mem_append_left _ (by simpa using h1)
  have u:mget eqI (I8 (L0 a) b 0) n=some ⟨(l.length:Int)+1,L8 n r ((l.length:Int)+1) (-1)⟩:=by have:=am3 n l x r (L0 a) 0 o hr;rw [k];simpa using this
  have v:b.length=l.length+(r.length+1):=by rw [k];simp
  have h1:mget eqI (L6 a b c) n=some ⟨(l.length:Int)+1,fin n r c ((l.length:Int)+1) (-1)⟩:=by
   unfold L6 fin;rw [f,u];split
   .simp only [getS,u,Option.getD_some,cv3,Span.mk.injEq,true_and];rw [v];omega
   .rfl
  have g:fin n r c ((l.length:Int)+1) (-1)=-1\/0<=fin n r c ((l.length:Int)+1) (-1):=by
   unfold fin;split
   .right;omega
   .have:=ak6 n r ((l.length:Int)+1) (-1) (by omega);omega
  rw [bg7 h1 (by omega) g p];by_cases E:p<=l.length
  .have:=bQ9 n c x r o B l D p E;rw [<-k] at this;constructor
   .intro h;omega
   .intro h;exact absurd h this
  .obtain ⟨q,H⟩:∃ q,p=l.length+(q+1):=⟨p-l.length-1,by omega⟩;have F:=bg6 n c r q ((l.length:Int)+1) (-1) hr (by omega) (by omega);have:atL b c p=atL r c q:=by rw [k,H,aw0,ak5]
   rw [this,F,H];constructor
   .intro h;omega
   .intro h;omega
 .by_cases w:0<=n/\n<a
  .have h0:mget eqI (L0 a) n=some ⟨0,-1⟩:=by
    unfold L0;rw [aJ3,if_pos ⟨w.1,by omega⟩]
   have u:=ah2 n b (L0 a) 0 0 (-1) i h0;have h1:mget eqI (L6 a b c) n=some ⟨0,fin n b c 0 (-1)⟩:=by
    unfold L6 fin;rw [f,u];split
    .simp only [getS,u,Option.getD_some,cv3,Span.mk.injEq,true_and];omega
    .rfl
   have g:fin n b c 0 (-1)=-1\/0<=fin n b c 0 (-1):=by
    unfold fin;split
    .right;omega
    .have:=ak6 n b 0 (-1) (by omega);omega
   rw [bg7 h1 (by omega) g p,bg6 n c b p 0 (-1) i G (by omega)];omega
  .have z:∀ x∈b,n∉x.from_:=by
    intro x o h;have h1:=C.fromR x o n h;obtain ⟨J,K,d⟩:=List.append_of_mem o;have e:=C.there;rw [d] at e;rcases M9 e n h with h2|h2
    .omega
    .refine i ?_;rw [d,T9];exact List.mem_append_left _ (by simpa using h2)
   have A:n∉c:=λh=>by
    have h1:=C.outR n h;rcases C.outT n h with h2|h2
    .omega
    .exact i h2
   have h0:mget eqI (L0 a) n=none:=by unfold L0;rw [aJ3,if_neg (by omega)]
   have h1:mget eqI (L6 a b c) n=none:=by unfold L6;rw [f,if_neg A];exact aJ4 n b _ _ i z h0
   have F:=bg6 n c b p 0 (-1) i G (by omega);rw [F];unfold X1 A5;rw [aX4,h1];simp only [Option.map_none,fin,if_neg A,az3 n b _ _ z];simp;omega
theorem cb8 {n:Int} {k:Nat}:n∈upto k<->0<=n/\n<k:=by
 unfold upto;simp only [List.mem_map,List.mem_range];constructor
 .rintro ⟨j,a,rfl⟩;omega
 .rintro ⟨h1,h2⟩;exact ⟨n.toNat,by omega,by omega⟩
theorem bR0 (k:Nat):incr (upto k):=by unfold incr upto;rw [List.pairwise_map];exact List.Pairwise.imp (λh=>by omega) List.pairwise_lt_range
theorem aC1 (out:List Int):∀ (code:List Ins) (p:Nat),incr (atL code out p)
 |[],0=>by show incr (C8 [] out);exact ah0 List.Pairwise.nil _
 |[],p+1=>by show incr (([C8 [] out]:List (List Int)).getD (p+1) []);simp [incr]
 |x::r,0=>by show incr (am1 x _);exact ah0 (ah0 List.Pairwise.nil _) _
 |x::r,p+1=>by rw [ak5];exact aC1 out r p
theorem aX5 {a:Int} {b:List Ins} {c:List Int} (C:Checked a b c) {n:Int} {p:Nat} (h:n∈atL b c p):0<=n/\n<=3999:=by
 have hf:=C.fromR;have e:=C.outR;clear C
 induction b generalizing p with
 |nil=>
  cases p with
  |zero=>exact e n (by simpa [atL,E6,O3] using h)
  |succ p=>simp [atL,E6] at h
 |cons x r ih=>
  cases p with
  |zero=>
   rw [V8,ak4,<-V8] at h;rcases h with h|h
   .exact hf x (by simp) n h
   .exact ih h.1 (λy d=>hf y (by simp [d]))
  |succ p=>rw [ak5] at h;exact ih h (λy d=>hf y (by simp [d]))
theorem cb9 {a:Int} {b:List Ins} {c:List Int} (C:Checked a b c):ab2 (A5 a b c) b.length 4000=E6 b c:=by
 apply List.ext_getElem?;intro p;unfold ab2;rw [cw8];by_cases d:p<b.length+1
 .rw [List.getElem?_range d,Option.map_some];have h1:(E6 b c)[p]? =some (atL b c p):=by
   unfold atL;rw [cw7,cv5 (by rw [L7];exact d)];rfl
  rw [h1];congr 1;refine bx0 (List.Pairwise.filter _ (bR0 4000)) (aC1 c b p) (λn=>?_);rw [List.mem_filter,cb8,bx5 C n p (by omega)];constructor
  .exact λh=>h.2
  .intro h;have:=aX5 C h;exact ⟨by omega,h⟩
 .rw [List.getElem?_eq_none (by simp;omega),List.getElem?_eq_none (by rw [L7];omega)];rfl
theorem V9 (m:Spans) (L:Nat) (n q:Int):(Q0 m L n q).length=L+1:=by simp [Q0]
theorem bg8 (m:Spans) (L k:Nat):Q0 m L k (getS m k).first=ab2 m L k:=by
 unfold Q0 ab2;apply List.map_congr_left;intro p a;rw [if_neg,List.append_nil,cv7];rintro ⟨h1,h2⟩;unfold X1 at h2;unfold getS at h1;split at h2
 .rename_i s hs;rw [hs] at h1;simp [I6] at h2 h1;omega
 .cases h2
theorem bE7 (m:Spans) (L k:Nat) (q:Int) (h:(mget eqI m k).isSome=false\/(getS m k).last<q):Q0 m L k q=ab2 m L (k+1):=by
 unfold Q0 ab2;apply List.map_congr_left;intro p c;rw [cv7,aI8,List.filter_append];congr 1;by_cases hl:X1 m p k=true
 .have b:(p:Int)<q:=by
   have a:=hl;unfold X1 at a;split at a
   .rename_i s hs;rcases h with h|h
    .rw [hs] at h;cases h
    .unfold getS at h;rw [hs] at h;simp [I6] at a h;omega
   .cases a
  rw [List.filter_cons_of_pos hl,List.filter_nil,if_pos ⟨b,hl⟩]
 .rw [List.filter_cons_of_neg (by simpa using hl),List.filter_nil,if_neg (λh'=>hl h'.2)]
theorem bp5 (m:Spans) (L k q:Nat) (c:q<=L) (hl:X1 m q k=true):(Q0 m L k q).set q ((Q0 m L k q).getD q []++[(k:Int)])=Q0 m L k ((q+1:Nat):Int):=by
 apply List.ext_getElem?;intro p;rw [cx9,V9];by_cases b:q=p
 .subst b;rw [if_pos rfl,if_pos (by omega),cw7];unfold Q0;rw [cw8,cw8,List.getElem?_range (by omega)];simp only [Option.map_some,Option.getD_some,hl,and_true];rw [if_neg (by omega),if_pos (by omega),List.append_nil]
 .rw [if_neg b];unfold Q0;rw [cw8,cw8];by_cases a:p<L+1
  .rw [List.getElem?_range a];simp only [Option.map_some];by_cases h1:(p:Int)<q
   .simp only [h1,show (p:Int)<((q+1:Nat):Int) by omega,true_and]
   .rw [if_neg (λh=>h1 h.1),if_neg (λh=>by have:=h.1;omega)]
  .rw [List.getElem?_eq_none (by simp;omega)];rfl
theorem bp6 {a:Int} {b:List Ins} {c:List Int} {n:Int} {s:Span} (h:mget eqI (A5 a b c) n=some s):0<=s.first/\s.first<=b.length/\s.last<=b.length:=by
 have key:∀ (m:Spans),(∀ n s,mget eqI m n=some s->0<=s.first/\s.first<=(b.length:Int)/\s.last<=(b.length:Int))->∀ (l:List Int) (i:Int),0<=i->i<=b.length->(∀ n s,mget eqI (J6 m l i) n=some s->0<=s.first/\s.first<=(b.length:Int)/\s.last<=(b.length:Int))/\(∀ n s,mget eqI (uses m l i) n=some s->0<=s.first/\s.first<=(b.length:Int)/\s.last<=(b.length:Int)):=by
  intro m hm l i d e;refine ⟨λn s h=>?_,λn s h=>?_⟩
  .rw [X2] at h;split at h
   .cases h;exact ⟨d,e,by dsimp only;omega⟩
   .exact hm n s h
  .rw [as7] at h;split at h
   .simp only [cv3] at h;subst h;cases hg:mget eqI m n with
    |none=>simp [getS,hg];omega
    |some s'=>have:=hm n s' hg;simp [getS,hg];omega
   .exact hm n s h
 have f:∀ (code:List Ins) (m:Spans) (i:Int),0<=i->i+code.length<=b.length->(∀ n s,mget eqI m n=some s->0<=s.first/\s.first<=(b.length:Int)/\s.last<=(b.length:Int))->∀ n s,mget eqI (I8 m code i) n=some s->0<=s.first/\s.first<=(b.length:Int)/\s.last<=(b.length:Int):=by
  intro code
  induction code with
  |nil=>intro m i _ _ h;exact h
  |cons x r ih=>intro m i h0 h1 h2;simp only [cw9,Int.natCast_add] at h1;exact ih _ (i+1) (by omega) (by omega) (key _ (key m h2 x.from_ i h0 (by omega)).2 x.to (i+1) (by omega) (by omega)).1
 have h0:∀ n s,mget eqI (L0 a) n=some s->0<=s.first/\s.first<=(b.length:Int)/\s.last<=(b.length:Int):=by
  intro n s h;unfold L0 at h;rw [aJ3] at h;split at h
  .cases h;dsimp only;omega
  .cases h
 have h1:∀ n s,mget eqI (L6 a b c) n=some s->0<=s.first/\s.first<=(b.length:Int)/\s.last<=(b.length:Int):=
  (key _ (f b (L0 a) 0 (by omega) (by omega) h0) c b.length (by omega) (Int.le_refl _)).2
 unfold A5 at h;rw [aX4] at h;cases hs:mget eqI (L6 a b c) n with
 |none=>rw [hs] at h;cases h
 |some s'=>
  rw [hs] at h;simp only [Option.map_some,cv3] at h;have:=h1 n s' hs;subst h;unfold finS;split
  .show 0<=(0:Int)/\(0:Int)<=_/\(-1:Int)<=_;omega
  .exact this
theorem bp7 (a:Int) (b:List Ins) (c:List Int) (n:Int):0<=(getS (A5 a b c) n).first/\(getS (A5 a b c) n).first<=b.length/\(getS (A5 a b c) n).last<=b.length:=by
 unfold getS;cases h:mget eqI (A5 a b c) n with
 |none=>simp
 |some s=>exact bp6 h
theorem cm0 (a:Int) (b:List Ins) (c d:List Int):vc (EVd [(23,[0])] noIt [(41,cCheck),(51,cSpans),(69,cAt)]) (cl7 a b c) Go.Proofs.Tryd.f33 cLive (a,b,c,d,()):=by
 rw [cl8 a b c d];intro t A E u F G O _ _;have f:u=((Q5 ⟨a,b,c,d⟩).1,(Q5 ⟨a,b,c,d⟩).2,()):=rfl;refine ⟨λh=>?_,λh=>?_⟩
 .have h:C1 ⟨a,b,c,d⟩≠0:=by simpa [t] using h
  rw [f];unfold Q5;rw [if_pos h]
 have h:C1 ⟨a,b,c,d⟩=0:=by simpa [t] using h
 have C:=aX3 h;have H:=C.len;have f:u=(E6 b c,0,()):=by rw [f];unfold Q5;rw [if_neg (by simpa using h)]
 have I:A=((b.length+1:Nat):Int):=F9 (by omega) (by omega)
 clear_value u A
 subst f I;simp only [t,E,F,G,true_and,and_true,Bool.cond_self];refine ⟨⟨by omega,by omega⟩,C.few,⟨(0,List.replicate (b.length+1) [],()),rfl,by dsimp only;rw [cv7],Int.le_refl _,by dsimp only;omega,?_⟩,?_⟩
 .dsimp only;apply List.ext_getElem?;intro p;unfold ab2;rw [cw8,List.getElem?_replicate];by_cases v:p<b.length+1
  .rw [if_pos v,List.getElem?_range v];rfl
  .rw [if_neg v,List.getElem?_eq_none (by simp;omega)];rfl
 rintro ⟨i,out,⟨⟩⟩ ⟨h0,h1,h2⟩;dsimp only at h0 h1 h2 |-;obtain ⟨k,rfl⟩:=cv9 h0;rw [cv7] at h2;subst h2;have J:(mget (λx y=>x==y) (A5 a b c) (k:Int)).getD ⟨0,0⟩=getS (A5 a b c) k:=rfl;rw [J];have hB:=bp7 a b c k;refine ⟨λn=>⟨⟨((getS (A5 a b c) k).first,ab2 (A5 a b c) b.length k,()),rfl,rfl,hB.1,by dsimp only;omega,Int.le_refl _,(bg8 _ _ _).symm⟩,?_⟩,λw=>?_⟩
 .have n:(k:Int)<4000:=cw3 n;rintro ⟨q,out,⟨⟩⟩ ⟨r,K,L,B⟩;dsimp only at r K L B |-;obtain ⟨j,rfl⟩:=cv9 r;subst B;simp only [cv7];refine ⟨λhc=>?_,λhc=>?_⟩
  .simp only [cv6,cx6] at hc;have g:I6 (getS (A5 a b c) k).first (getS (A5 a b c) k).last j=true:=by
    simp only [I6,cv6,Bool.not_eq_true',Bool.and_eq_false_iff,decide_eq_false_iff_not,cx6];omega
   have z:X1 (A5 a b c) j k=true:=by
    unfold X1;unfold getS at g;have e:(mget eqI (A5 a b c) (k:Int)).isSome=true:=hc.1;cases hm:mget eqI (A5 a b c) (k:Int) with
    |none=>rw [hm] at e;cases e
    |some s=>rw [hm] at g;exact g
   have M:j<=b.length:=by omega
   have o:∀ x∈Q0 (A5 a b c) b.length k j,x.length<=4001:=by
    intro x D;unfold Q0 at D;obtain ⟨p,_,rfl⟩:=List.mem_map.1 D;rw [cx5,cv7];have P:((upto k).filter (X1 (A5 a b c) p)).length<=k:=by refine Nat.le_trans (List.length_filter_le _ _) ?_;simp [upto]
    split<;>simp<;>omega
   refine ⟨λ_=>⟨⟨r,by rw [V9];omega⟩,?_,r,by rw [V9];omega⟩,((j+1:Nat),Q0 (A5 a b c) b.length k ((j+1:Nat):Int),()),B5 (m:=b.length+1) (by omega) (by omega),?_,⟨by omega,by dsimp only;omega,by dsimp only;omega,rfl⟩,by dsimp only;omega⟩
   .have:=o _ (H4 (l:=Q0 (A5 a b c) b.length k j) (i:=j) (by rw [V9];omega) []);simp only [cx8];omega
   .rw [g];exact bp5 _ _ _ _ M z
  .refine ⟨((k+1:Nat),ab2 (A5 a b c) b.length (k+1),()),B5 (m:=4000) (by omega) (by omega),?_,⟨by omega,by dsimp only;omega,by rw [cv7]⟩,by dsimp only;omega⟩;refine bE7 _ _ _ _ ?_;rw [Bool.and_eq_false_iff,decide_eq_false_iff_not] at hc;rcases hc with hc|hc
   .exact .inl hc
   .exact .inr (by omega)
 .have N:k=4000:=by have:¬ (k:Int)<4000:=cw2 w;omega
  subst N;refine ⟨⟨by omega,Int.le_refl _,Int.le_refl _⟩,?_⟩;rw [cv7,cy3,cb9 C]
theorem aR1:C9 prog RG 33 cLive:=bw9 bN9 (A7 ad8 (A7 aJ2 (A7 bx2 B9))) (λp=>cl7 p.1 p.2.1 p.2.2.1) (by kernel_rfl) (by kernel_rfl) (by kernel_rfl) λ(a,b,c,d,()) _=>cm0 a b c d
def bR1 (m:Int) (p:List Int×Ins):Int:=max m ((C8 p.1 p.2.to).length:Int)
def X3 (lv:List (List Int)) (code:List Ins) (k:Nat):Int:=((lv.tail.zip code).take k).foldl bR1 ((lv.headD []).length:Int)
def ah3 (l m:List Int):Int:=(l.length:Int)+((m.filter λn=>!l.contains n).length:Int)
def bR2 (code:List Ins) (out:List Int):Nat->St RU->Ann RU:=λk s=>match k with
 |0=>⟨[],[.slot 27,.slot 6],[i64,i64],λp=>0<=p.1/\p.1<=code.length/\p.2.1=X3 (E6 code out) code p.1.toNat,λp=>code.length-p.1.toNat,[]⟩
 |_=>⟨[],[.slot 41,.slot 9],[i64,i64],λp=>0<=p.1/\p.1<=(code.getD (s.intAt 27).toNat ins0).to.length/\p.2.1=ah3 (atL code out ((s.intAt 27).toNat+1)) ((code.getD (s.intAt 27).toNat ins0).to.take p.1.toNat),λp=>(code.getD (s.intAt 27).toNat ins0).to.length-p.1.toNat,[]⟩
def X4 (x3 x4:List Int) (x5:List Ins):Bool:=decide (x3.length<=17592186044416)&&decide (x4.length<=17592186044416)&&decide (x5.length<=1599289640354)&&G6 x5
def getI (m:List (Int×Int)) (n:Int):Int:=(mget eqI m n).getD 0
def aX6 (s:List Int×List (Int×Int)) (n:Int):List Int×List (Int×Int):=(s.1++[(s.2.length:Int)],mput eqI s.2 n s.2.length)
def H8 (m:List (Int×Int)) (l:List Int):List Int×List (Int×Int):=l.foldl aX6 ([],m)
def cOld:Con RU:=⟨[one,one],[i64,mapI],[.d 0,.ptr 0 0],[.box 84 [.map 1],.map 1],none,none,[one],[i64,mapI],[.d 0],[.box 84 [.map 1],.map 1],λp=>(getI p.2.1 p.1,p.2),[0,1],[],[]⟩
def cNew:Con RU:=⟨[one,one],[i64,mapI],[.d 0,.ptr 0 0],[.box 84 [.map 1],.map 1],none,none,[one],[i64,mapI],[.d 0],[.box 84 [.map 1],.map 1],λp=>((p.2.1.length:Int),mput eqI p.2.1 p.1 p.2.1.length,()),[0],[],[]⟩
def cCalledP:Con RU:=⟨[(true,5),one,one],[i64,i64,ints,ints,inss,mapI],[.d 0,.d 1,.d 2,.d 3,.d 4,.clo 74 [0],.clo 71 [0]],[.box 84 [.map 1],.map 5],some λp=>X4 p.2.2.1 p.2.2.2.1 p.2.2.2.2.1=true,none,
 [(true,5)],[i64,i64,ints,ints,inss,mapI],[.d 0,.d 1,.d 2,.d 3,.d 4],[.box 84 [.map 1],.map 5],
 λp=>(p.1,p.2.1,(H8 p.2.2.2.2.2.1 p.2.2.1).1,p.2.2.2.1.map (getI p.2.2.2.2.2.1),p.2.2.2.2.1,(H8 p.2.2.2.2.2.1 p.2.2.1).2,()),[0],[],[]⟩
def aX7 (x1 x2:Int) (x3 x4:List Int) (x5:List Ins) (m:List (Int×Int)):Nat->St RU->Ann RU:=λk s=>match k with
 |0=>⟨[],[.slot 20,.row 896],[i64,inss],λp=>0<=p.1/\p.1<=x4.length/\p.2.1=[⟨x1,x2,x3,(x4.take p.1.toNat).map (getI m)++x4.drop p.1.toNat,x5⟩],λp=>x4.length-p.1.toNat,[]⟩
 |_=>⟨[],[.slot 36,.row 896,.row 1000001],[i64,inss,mapI],λp=>0<=p.1/\p.1<=x3.length/\p.2.1=[⟨x1,x2,(H8 m (x3.take p.1.toNat)).1++x3.drop p.1.toNat,x4.map (getI m),x5⟩]/\p.2.2.1=(H8 m (x3.take p.1.toNat)).2,λp=>x3.length-p.1.toNat,[]⟩
theorem cc0 (a:Int) (b:List Ins) (c d:List Int):vc (EV [(33,cLive),(61,cContains)]) (bR2 b c) Go.Proofs.Tryd.f29 cPress (a,b,c,d,())=(let g:Bool:=(Q5 (VFun.mk a b c d)).2 !=(0:Int);
 let f:List (List Int):=(Q5 (VFun.mk a b c d)).1;
 let i:Int:=(Q5 (VFun.mk a b c d)).2;
 let e:Int:=(↑(List.length b):Int);
 let j:Ins:=Ins.mk (0:Int) (0:Int) [] [] [];
 let o:Int×Int×Unit:=((X0 (VFun.mk a b c d)).1,(X0 (VFun.mk a b c d)).2,());
 let n:Int:=(↑(List.length f):Int);
  Small RU (Sigma.mk (Ty.slice (52:Nat) (Ty.user (0:Nat))) b)->
  Small RU (Sigma.mk (Ty.slice (3:Nat) (Ty.int IntKind.i64)) c)->
  Small RU (Sigma.mk (Ty.slice (3:Nat) (Ty.int IntKind.i64)) d)->
  (g=true->((0:Int),i,())=o)/\
  (g=false->
  ((0:Int)<=(0:Int)/\(0:Int)<n)/\
  (∃ (p:Int×Int×Unit),
  a=a/\
  b=b/\
  c=c/\
  d=d/\
  (0:Int)=(0:Int)/\
  (0:Int)=(0:Int)/\
  f=f/\
  i=i/\
  g=g/\
  b=b/\
  e=e/\
  (0:Int)=p.1/\
  (↑(List.length (List.getD f (0:Nat) [])):Int)=p.2.1/\
  a=a/\b=b/\c=c/\d=d/\(0:Int)<=p.1/\p.1<=e/\p.2.1=X3 (E6 b c) b (Int.toNat p.1))/\
  ∀ (p:Int×Int×Unit),
 let e0_1:Bool:=decide (p.1<e);
 let e1_1:Int:=(↑(List.length (List.getD b (Int.toNat p.1) j).to):Int);
 let e2_1:Int:=p.2.1;
 let e3_1:Int:=IntKind.i64.wrap (p.1+(1:Int));
 let e4_1:List Int:=(List.getD b (Int.toNat p.1) j).to;
 let e5_1:Int:=p.1;
 let e6_1:Int:=(List.getD b (Int.toNat e5_1) j).n;
 let k:Int:=(List.getD b (Int.toNat e5_1) j).op;
 let l:List Int:=(List.getD b (Int.toNat e5_1) j).from_;
 let m:List Ins:=(List.getD b (Int.toNat e5_1) j).body;
 let h:Nat:=List.length (List.getD b (Int.toNat e5_1) ins0).to;
  (0:Int)<=e5_1/\e5_1<=e/\e2_1=X3 (E6 b c) b (Int.toNat e5_1)->
  (e0_1=true->
  ((0:Int)<=e5_1/\e5_1<e)/\
  ((0:Int)<=e3_1/\e3_1<n)/\
  (∃ (p:Int×Int×Unit),
  a=a/\
  b=b/\
  c=c/\
  d=d/\
  (0:Int)=(0:Int)/\
  (0:Int)=(0:Int)/\
  f=f/\
  i=i/\
  g=g/\
  b=b/\
  e=e/\
  e5_1=e5_1/\
  e2_1=e2_1/\
  e0_1=e0_1/\
  e5_1=e5_1/\
  e4_1=e4_1/\
  e1_1=e1_1/\
  (0:Int)=p.1/\
  (↑(List.length (List.getD f (Int.toNat e3_1) [])):Int)=p.2.1/\
  a=a/\
  b=b/\
  c=c/\
  d=d/\
  k=k/\
  e6_1=e6_1/\
  e4_1=e4_1/\
  l=l/\
  m=m/\
  (0:Int)<=p.1/\
  p.1<=(↑h:Int)/\
  p.2.1=
  ah3 (atL b c (Int.toNat e5_1+(1:Nat)))
  (List.take (Int.toNat p.1) (List.getD b (Int.toNat e5_1) ins0).to))/\
  ∀ (p:Int×Int×Unit),
 let e0_2:Bool:=!List.contains (List.getD f (Int.toNat e3_1) []) (List.getD e4_1 (Int.toNat p.1) (0:Int));
 let e1_2:Int:=p.2.1;
 let e2_2:Int:=p.1;
 let e3_2:Bool:=decide (e2_2<e1_1);
 let j:List Int:=atL b c (Int.toNat e5_1+(1:Nat));
  (0:Int)<=e2_2/\e2_2<=(↑h:Int)/\e1_2=ah3 j (List.take (Int.toNat e2_2) (List.getD b (Int.toNat e5_1) ins0).to)->
  (e3_2=true->
  ((0:Int)<=e2_2/\e2_2<e1_1)/\
  ((0:Int)<=e3_1/\e3_1<n)/\
  ∃ (p':Int×Int×Unit),
  (bif e0_2 then a else a)=a/\
  (bif e0_2 then b else b)=b/\
  (bif e0_2 then c else c)=c/\
  (bif e0_2 then d else d)=d/\
  (bif e0_2 then (0:Int) else (0:Int))=(0:Int)/\
  (bif e0_2 then (0:Int) else (0:Int))=(0:Int)/\
  (bif e0_2 then f else f)=f/\
  (bif e0_2 then i else i)=i/\
  (bif e0_2 then g else g)=g/\
  (bif e0_2 then b else b)=b/\
  (bif e0_2 then e else e)=e/\
  (bif e0_2 then e5_1 else e5_1)=e5_1/\
  (bif e0_2 then e2_1 else e2_1)=e2_1/\
  (bif e0_2 then e0_1 else e0_1)=e0_1/\
  (bif e0_2 then e5_1 else e5_1)=e5_1/\
  (bif e0_2 then e4_1 else e4_1)=e4_1/\
  (bif e0_2 then e1_1 else e1_1)=e1_1/\
  IntKind.i64.wrap ((bif e0_2 then e2_2 else e2_2)+(1:Int))=p'.1/\
  (bif e0_2 then IntKind.i64.wrap (e1_2+(1:Int)) else e1_2)=p'.2.1/\
  (bif e0_2 then a else a)=a/\
  (bif e0_2 then b else b)=b/\
  (bif e0_2 then c else c)=c/\
  (bif e0_2 then d else d)=d/\
  (bif e0_2 then k else k)=k/\
  (bif e0_2 then e6_1 else e6_1)=e6_1/\
  (bif e0_2 then e4_1 else e4_1)=e4_1/\
  (bif e0_2 then l else l)=l/\
  (bif e0_2 then m else m)=m/\
  ((0:Int)<=p'.1/\
  p'.1<=(↑h:Int)/\
  p'.2.1=ah3 j (List.take (Int.toNat p'.1) (List.getD b (Int.toNat e5_1) ins0).to))/\
  h-Int.toNat p'.1<h-Int.toNat e2_2)/\
  (e3_2=false->
  ∃ (p':Int×Int×Unit),
  a=a/\
  b=b/\
  c=c/\
  d=d/\
  (0:Int)=(0:Int)/\
  (0:Int)=(0:Int)/\
  f=f/\
  i=i/\
  g=g/\
  b=b/\
  e=e/\
  e3_1=p'.1/\
  (if e1_2 >e2_1 then e1_2 else e2_1)=p'.2.1/\
  a=a/\
  b=b/\
  c=c/\
  d=d/\
  ((0:Int)<=p'.1/\p'.1<=e/\p'.2.1=X3 (E6 b c) b (Int.toNat p'.1))/\
  List.length b-Int.toNat p'.1<List.length b-Int.toNat e5_1))/\
  (e0_1=false->(e2_1,(0:Int),())=o))):=by kernel_rfl
theorem cs4 (n:Int) (m:List (Int×Int)):vc (EV []) noL Go.Proofs.Tryd.f71 cOld (n,m,())=((Option.getD (mget (λ(x y:Int)=>x==y) m n) (0:Int),m,())=(getI m n,m,())):=by kernel_rfl
theorem cs5 (n:Int) (m:List (Int×Int)):vc (EV []) noL Go.Proofs.Tryd.f74 cNew (n,m,())=(let a:List (Int×Int):=mput (λ(x y:Int)=>x==y) m n (↑(List.length m):Int);
 (Option.getD (mget (λ(x y:Int)=>x==y) a n) (0:Int),a,())=((↑(List.length m):Int),mput eqI m n (↑(List.length m):Int),())):=by kernel_rfl
theorem bE8 (c d:Int) (a e:List Int) (b:List Ins) (m:List (Int×Int)):vc (EV [(96,cBody),(71,cOld),(74,cNew)]) (aX7 c d a e b m) Go.Proofs.Tryd.f73 cCalledP (c,d,a,e,b,m,())=(let f:Ins:=Ins.mk (0:Int) (0:Int) [] [] [];
 let g:List Ins:=[Ins.mk c d a e b];
 let h:Int:=(↑(List.length e):Int);
  Small RU (Sigma.mk (Ty.slice (3:Nat) (Ty.int IntKind.i64)) a)->
  Small RU (Sigma.mk (Ty.slice (3:Nat) (Ty.int IntKind.i64)) e)->
  Small RU (Sigma.mk (Ty.slice (52:Nat) (Ty.user (0:Nat))) b)->
  (List.length g<=(1599289640354:Nat)/\G6 g=true)/\
  ((0:Int)<=(0:Int)/\(0:Int)<(↑(List.length g):Int))/\
  (∃ (p:Int×List Ins×Unit),
  c=c/\
  d=d/\
  a=a/\
  e=e/\
  b=b/\
  (0:Int)=(0:Int)/\
  h=h/\
  (0:Int)=p.1/\
  m=m/\
  c=c/\
  d=d/\
  a=a/\
  e=e/\
  b=b/\
  (0:Int)=(0:Int)/\
  (0:Int)=(0:Int)/\
  g=g/\
  g=p.2.1/\
  c=c/\
  d=d/\
  (0:Int)=(0:Int)/\
  (0:Int)=(0:Int)/\
  b=b/\
  (0:Int)<=p.1/\
  p.1<=h/\p.2.1=[Ins.mk c d a (List.map (getI m) (List.take (Int.toNat p.1) e)++List.drop (Int.toNat p.1) e) b])/\
  ∀ (p:Int×List Ins×Unit),
 let e0_1:Ins:=List.getD p.2.1 (0:Nat) f;
 let e1_1:Bool:=decide (p.1<h);
 let e2_1:Int:=p.1;
 let i:List Ins:=p.2.1;
 let j:Int:=(↑(List.length e0_1.to):Int);
  (0:Int)<=e2_1/\e2_1<=h/\i=[Ins.mk c d a (List.map (getI m) (List.take (Int.toNat e2_1) e)++List.drop (Int.toNat e2_1) e) b]->
  (e1_1=true->
  ((0:Int)<=e2_1/\e2_1<(↑(List.length e0_1.from_):Int))/\
  (True/\m=m/\True)/\
  ((0:Int)<=e2_1/\e2_1<(↑(List.length e0_1.from_):Int))/\
  ∃ (p':Int×List Ins×Unit),
  c=c/\
  d=d/\
  a=a/\
  e=e/\
  b=b/\
  (0:Int)=(0:Int)/\
  h=h/\
  IntKind.i64.wrap (e2_1+(1:Int))=p'.1/\
  m=m/\
  c=c/\
  d=d/\
  a=a/\
  e=e/\
  b=b/\
  (0:Int)=(0:Int)/\
  (0:Int)=(0:Int)/\
  g=g/\
  List.set i (0:Nat)
  (Ins.mk e0_1.op e0_1.n e0_1.to (List.set e0_1.from_ (Int.toNat e2_1) (getI m (List.getD e0_1.from_ (Int.toNat e2_1) (0:Int))))
  e0_1.body)=
  p'.2.1/\
  c=c/\
  d=d/\
  (0:Int)=(0:Int)/\
  (0:Int)=(0:Int)/\
  b=b/\
  ((0:Int)<=p'.1/\
  p'.1<=h/\
  p'.2.1=
  [Ins.mk c d a (List.map (getI m) (List.take (Int.toNat p'.1) e)++List.drop (Int.toNat p'.1) e) b])/\
  List.length e-Int.toNat p'.1<List.length e-Int.toNat e2_1)/\
  (e1_1=false->
  (∃ (p:Int×List Ins×List (Int×Int)×Unit),
  c=c/\
  d=d/\
  a=a/\
  e=e/\
  b=b/\
  (0:Int)=(0:Int)/\
  h=h/\
  e2_1=e2_1/\
  e1_1=e1_1/\
  (0:Int)=(0:Int)/\
  j=j/\
  (0:Int)=p.1/\
  m=p.2.2.1/\
  c=c/\
  d=d/\
  a=a/\
  e=e/\
  b=b/\
  (0:Int)=(0:Int)/\
  (0:Int)=(0:Int)/\
  g=g/\
  i=p.2.1/\
  c=c/\
  d=d/\
  (0:Int)=(0:Int)/\
  (0:Int)=(0:Int)/\
  b=b/\
  (0:Int)<=p.1/\
  p.1<=(↑(List.length a):Int)/\
  p.2.1=
  [Ins.mk c d ((H8 m (List.take (Int.toNat p.1) a)).1++List.drop (Int.toNat p.1) a)
  (List.map (getI m) e) b]/\
  p.2.2.1=(H8 m (List.take (Int.toNat p.1) a)).2)/\
  ∀ (p:Int×List Ins×List (Int×Int)×Unit),
 let f:Ins:=List.getD p.2.1 (0:Nat) f;
 let e1_2:List (Int×Int):=p.2.2.1;
 let e2_2:Int:=p.1;
 let i:List Ins:=p.2.1;
 let e4_1:Bool:=decide (e2_2<j);
  (0:Int)<=e2_2/\
  e2_2<=(↑(List.length a):Int)/\
  i=[Ins.mk c d ((H8 m (List.take (Int.toNat e2_2) a)).1++List.drop (Int.toNat e2_2) a) (List.map (getI m) e) b]/\
  e1_2=(H8 m (List.take (Int.toNat e2_2) a)).2->
  (e4_1=true->
  ((0:Int)<=e2_2/\e2_2<(↑(List.length f.to):Int))/\
  True/\
  ((0:Int)<=e2_2/\e2_2<(↑(List.length f.to):Int))/\
  ∃ (p':Int×List Ins×List (Int×Int)×Unit),
  c=c/\
  d=d/\
  a=a/\
  e=e/\
  b=b/\
  (0:Int)=(0:Int)/\
  h=h/\
  e2_1=e2_1/\
  e1_1=e1_1/\
  (0:Int)=(0:Int)/\
  j=j/\
  IntKind.i64.wrap (e2_2+(1:Int))=p'.1/\
  mput eqI e1_2 (List.getD f.to (Int.toNat e2_2) (0:Int)) (↑(List.length e1_2):Int)=p'.2.2.1/\
  c=c/\
  d=d/\
  a=a/\
  e=e/\
  b=b/\
  (0:Int)=(0:Int)/\
  (0:Int)=(0:Int)/\
  g=g/\
  List.set i (0:Nat)
  (Ins.mk f.op f.n (List.set f.to (Int.toNat e2_2) (↑(List.length e1_2):Int)) f.from_ f.body)=
  p'.2.1/\
  c=c/\
  d=d/\
  (0:Int)=(0:Int)/\
  (0:Int)=(0:Int)/\
  b=b/\
  ((0:Int)<=p'.1/\
  p'.1<=(↑(List.length a):Int)/\
  p'.2.1=
  [Ins.mk c d
  ((H8 m (List.take (Int.toNat p'.1) a)).1++List.drop (Int.toNat p'.1) a)
  (List.map (getI m) e) b]/\
  p'.2.2.1=(H8 m (List.take (Int.toNat p'.1) a)).2)/\
  List.length a-Int.toNat p'.1<List.length a-Int.toNat e2_2)/\
  (e4_1=false->(c,d,f.to,f.from_,b,e1_2,())=(c,d,(H8 m a).1,List.map (getI m) e,b,(H8 m a).2,())))):=by kernel_rfl
theorem aJ5 {l:List Int} (h:incr l) (n:Int):(T6 l n).length=if n∈l then l.length else l.length+1:=by
 induction l with
 |nil=>simp [T6]
 |cons x r ih=>
  obtain ⟨h1,h2⟩:=List.pairwise_cons.1 h;simp only [T6];by_cases b:x=n
  .simp [b]
  .rw [if_neg b];by_cases a:n<x
   .have:n∉x::r:=by
     intro hm;rcases List.mem_cons.1 hm with hm|hm
     .exact b hm.symm
     .have:=h1 n hm;omega
    simp [a,this]
   .rw [if_neg a,cw9,ih h2];have:(n∈x::r)=(n∈r):=by simp [Ne.symm b]
    simp only [this,cw9];split<;>omega
theorem bg9 {l:List Int} (h:incr l):∀ {m:List Int},m.Nodup->((C8 l m).length:Int)=ah3 l m:=by
 intro m
 induction m generalizing l with
 |nil=>intro _;simp [C8,ah3]
 |cons x r ih=>
  intro d;obtain ⟨a,b⟩:=List.nodup_cons.1 d;rw [show C8 l (x::r)=C8 (T6 l x) r from rfl,ih (aQ6 h x) b];unfold ah3;have hf:(r.filter λn=>!(T6 l x).contains n)=r.filter λn=>!l.contains n:=by
   apply List.filter_congr;intro y e;have:(T6 l x).contains y=l.contains y:=by
    rw [Bool.eq_iff_iff,List.contains_iff_mem,List.contains_iff_mem,aI2];constructor
    .rintro (rfl|h)
     .exact absurd e a
     .exact h
    .exact .inr
   rw [this]
  rw [hf,aJ5 h,List.filter_cons];by_cases c:x∈l
  .simp [c]
  .simp [c];omega
theorem bE9 (b:List Ins) (c:List Int) {k:Nat} (h:k<b.length):X3 (E6 b c) b (k+1)=max (X3 (E6 b c) b k) ((C8 (atL b c (k+1)) (b.getD k ins0).to).length:Int):=by
 unfold X3;have a:k<((E6 b c).tail.zip b).length:=by rw [List.length_zip,List.length_tail,L7];omega
 have d:((E6 b c).tail.zip b).getD k ([],ins0)=(atL b c (k+1),b.getD k ins0):=by rw [cw7,cv5 a];simp only [Option.getD_some,List.getElem_zip];unfold atL;rw [cw7,cw7,cv5 (by rw [L7];omega),cv5 h];simp
 rw [A4 a ([],ins0),d,List.foldl_append];rfl
theorem bx6 {a:Int} {b:List Ins} {c:List Int} (C:Checked a b c) {k:Nat} (h:k<b.length):(b.getD k ins0).to.Nodup:=by
 have h1:=D7.1 C.once;have h2:=bQ3 h;have d:(wr (b.take (k+1))).Nodup:=by rw [<-List.take_append_drop (k+1) b,T9] at h1;exact (List.nodup_append.1 h1).1
 rw [h2] at d;exact (List.nodup_append.1 d).2.1
theorem bF0 {l m:List Int} {j:Nat} (h:j<m.length):ah3 l (m.take (j+1))=if !l.contains (m.getD j 0) then ah3 l (m.take j)+1 else ah3 l (m.take j):=by unfold ah3;rw [A4 h 0,List.filter_append,cx5,List.filter_cons];split<;>simp<;>omega
theorem cc1 (a:Int) (b:List Ins) (c d:List Int):vc (EV [(33,cLive),(61,cContains)]) (bR2 b c) Go.Proofs.Tryd.f29 cPress (a,b,c,d,()):=by
 rw [cc0 a b c d];intro B o G H D p E I _ _;have e:p=((X0 ⟨a,b,c,d⟩).1,(X0 ⟨a,b,c,d⟩).2,()):=rfl;have r:D=ins0:=rfl;have f:(Q5 ⟨a,b,c,d⟩).2=C1 ⟨a,b,c,d⟩:=by
  unfold Q5;by_cases h:C1 ⟨a,b,c,d⟩=0
  .rw [if_neg (by simpa using h),h]
  .rw [if_pos h]
 refine ⟨λh=>?_,λh=>?_⟩
 .have h:C1 ⟨a,b,c,d⟩≠0:=by simpa [B,f] using h
  rw [e];unfold X0;rw [if_pos h];simp only [G,f]
 have h:C1 ⟨a,b,c,d⟩=0:=by simpa [B,f] using h
 have C:=aX3 h;have J:=C.len;have l:o=E6 b c:=by show (Q5 ⟨a,b,c,d⟩).1=_;unfold Q5;rw [if_neg (by simpa using h)]
 have e:p=(X3 (E6 b c) b b.length,0,()):=by rw [e];unfold X0;rw [if_neg (by simpa using h)];unfold X3;rw [List.take_of_length_le (by rw [List.length_zip];omega)];rfl
 have s:E=b.length+1:=by show ((List.length o:Nat):Int)=_;rw [l,L7];rfl
 clear_value p o E D
 subst e l r s;dsimp only [H];simp only [true_and,and_true,Bool.cond_self];refine ⟨⟨Int.le_refl _,by omega⟩,⟨(0,_,()),rfl,rfl,Int.le_refl _,by dsimp only;omega,?_⟩,?_⟩
 .show ((atL b c 0).length:Int)=X3 (E6 b c) b 0;rw [V8];rfl
 rintro ⟨i,m,⟨⟩⟩ ⟨h0,h1,h2⟩;dsimp only at h0 h1 h2 |-;subst h2;obtain ⟨k,rfl⟩:=cv9 h0;simp only [cv7];refine ⟨λg=>?_,λt=>?_⟩
 .have g:(k:Int)<b.length:=cw3 g;have K:IntKind.i64.wrap ((k:Int)+1)=((k+1:Nat):Int):=B5 (by omega) (by omega:b.length<=140737488355328);rw [K];simp only [cv7];have u:(b.getD k ins0).to.length<=140737488355328:=aI5 (b:=b) I (by omega);have v:(E6 b c).getD (k+1) []=atL b c (k+1):=rfl;rw [v];refine ⟨⟨h0,g⟩,⟨by omega,by omega⟩,⟨(0,_,()),rfl,rfl,Int.le_refl _,by dsimp only;omega,by simp [ah3]⟩,?_⟩;rintro ⟨q,n,⟨⟩⟩ ⟨w,L,F⟩;dsimp only at w L F |-;obtain ⟨j,rfl⟩:=cv9 w;subst F;simp only [cv7];have M:(atL b c (k+1)).length<=4000:=by
   have N:=aC1 c b (k+1);have O:((atL b c (k+1)).map Int.toNat).Nodup:=by rw [List.Nodup,List.pairwise_map];exact N.imp_of_mem (λ{x y} z A P U=>by have:=aX5 C z;have:=aX5 C A;omega)
   have:=aC0 4000 _ O (λx z=>by
    obtain ⟨y,A,rfl⟩:=List.mem_map.1 z;have:=aX5 C A;omega)
   simpa using this
  refine ⟨λhc=>?_,λhc=>?_⟩
  .have hc:(j:Int)<(b.getD k ins0).to.length:=cw3 hc;have Q:ah3 (atL b c (k+1)) ((b.getD k ins0).to.take j)<=4000+j:=by
    unfold ah3;have:=List.length_filter_le (λn=>!(atL b c (k+1)).contains n) ((b.getD k ins0).to.take j);rw [cy4] at this;omega
   have R:0<=ah3 (atL b c (k+1)) ((b.getD k ins0).to.take j):=by unfold ah3;omega
   refine ⟨⟨w,hc⟩,⟨by omega,by omega⟩,((j+1:Nat),ah3 (atL b c (k+1)) ((b.getD k ins0).to.take (j+1)),()),B5 (by omega) u,?_,⟨by omega,by dsimp only;omega,by rw [cv7]⟩,by dsimp only;omega⟩;dsimp only;rw [bF0 (by omega),F9 (by omega) (by omega)];cases (!(atL b c (k+1)).contains ((b.getD k ins0).to.getD j 0))<;>rfl
  .have S:j=(b.getD k ins0).to.length:=by have:¬ (j:Int)<(b.getD k ins0).to.length:=cw2 hc;omega
   subst S;rw [cy3];refine ⟨((k+1:Nat),X3 (E6 b c) b (k+1),()),rfl,?_,⟨by omega,by dsimp only;omega,by rw [cv7]⟩,by dsimp only;omega⟩;dsimp only;rw [bE9 b c (by omega),bg9 (aC1 c b (k+1)) (bx6 C (by omega))];split<;>omega
 .have T:k=b.length:=by have:¬ (k:Int)<b.length:=cw2 t;omega
  subst T;rfl
theorem bp8:C9 prog RG 29 cPress:=E8 (A7 aR1 (A7 O0 B9)) (λp=>bR2 p.2.1 p.2.2.1) (by kernel_rfl) (by kernel_rfl) (by kernel_rfl) λ(a,b,c,d,()) _=>cc1 a b c d
theorem bR3 (n:Int) (m:List (Int×Int)):Option.getD (mget (λ(x y:Int)=>x==y) m n) (0:Int)=getI m n:=rfl
theorem cs6 (n:Int) (m:List (Int×Int)):vc (EV []) noL Go.Proofs.Tryd.f71 cOld (n,m,()):=by rw [cs4 n m,bR3]
theorem bh0:C9 prog RG 71 cOld:=E8 B9 (λ_=>noL) (by kernel_rfl) (by kernel_rfl) (by kernel_rfl) λ(n,m,()) _=>cs6 n m
theorem cs7 (n:Int) (m:List (Int×Int)):vc (EV []) noL Go.Proofs.Tryd.f74 cNew (n,m,()):=by
 rw [cs5 n m];intro a;have b:a=mput eqI m n m.length:=rfl
 clear_value a
 subst b;rw [bR3];unfold getI;rw [I7,if_pos rfl];rfl
theorem bR4:C9 prog RG 74 cNew:=E8 B9 (λ_=>noL) (by kernel_rfl) (by kernel_rfl) (by kernel_rfl) λ(n,m,()) _=>cs7 n m
theorem ao9 {A l:List Int} {i:Nat} (a:A.length=i) (h:i<l.length):(A++l.drop i).getD i 0=l.getD i 0:=by rw [cw7,cw7,cx3 (by omega),a,Nat.sub_self,List.getElem?_drop,Nat.add_zero]
theorem ap0 {A l:List Int} {i:Nat} (a:A.length=i) (h:i<l.length) (v:Int):(A++l.drop i).set i v=(A++[v])++l.drop (i+1):=by rw [List.set_append_right _ _ (by omega),a,Nat.sub_self,List.drop_eq_getElem_cons h,List.set_cons_zero];simp
theorem S5 {A l:List Int} {i:Nat} (a:A.length=i) (h:i<=l.length):(A++l.drop i).length=l.length:=by rw [cx5,List.length_drop];omega
theorem bh1 (l:List Int):∀ (m:List (Int×Int)),(H8 m l).1.length=l.length:=by
 have key:∀ (l:List Int) (s:List Int×List (Int×Int)),(l.foldl aX6 s).1.length=s.1.length+l.length:=by
  intro l
  induction l with
  |nil=>intro s;simp
  |cons x r ih=>intro s;simp [ih,aX6];omega
 intro m;rw [H8,key];simp
theorem bF1 (m:List (Int×Int)) (l:List Int) (x:Int):H8 m (l++[x])=aX6 (H8 m l) x:=by simp [H8]
theorem W2 {d e:List Int} {a:List Ins}:X4 d e a=true<->(d.length<=17592186044416/\e.length<=17592186044416/\a.length<=1599289640354)/\G6 a=true:=by
 simp only [X4,cv6,cx6];constructor
 .rintro ⟨⟨⟨h1,h2⟩,b⟩,c⟩;exact ⟨⟨h1,h2,b⟩,c⟩
 .rintro ⟨⟨h1,h2,b⟩,c⟩;exact ⟨⟨⟨h1,h2⟩,b⟩,c⟩
theorem bF2 (g h:Int) (b c:List Int) (f:List Ins) (m:List (Int×Int)) (t:X4 b c f=true):vc (EV [(96,cBody),(71,cOld),(74,cNew)]) (aX7 g h b c f m) Go.Proofs.Tryd.f73 cCalledP (g,h,b,c,f,m,()):=by
 rw [bE8 g h b c f m];intro u v w j n _;have o:b.length<=140737488355328:=j.len;have p:c.length<=140737488355328:=n.len;dsimp only [u,v,w];simp only [true_and,and_true];refine ⟨⟨by simp,?_⟩,⟨by omega,by simp⟩,⟨(0,_,()),rfl,rfl,Int.le_refl _,by dsimp only;omega,by simp⟩,?_⟩
 .simp only [G6,Bool.and_true];exact (L5 _).2 (W2.1 t)
 rintro ⟨i,l,⟨⟩⟩ ⟨h0,h1,h2⟩;dsimp only at h0 h1 h2 |-;subst h2;obtain ⟨k,rfl⟩:=cv9 h0;simp only [cv7,List.getD_cons_zero,List.set_cons_zero];have e:((c.take k).map (getI m)).length=k:=by simp;omega
 refine ⟨λa=>?_,λd=>?_⟩
 .have a:(k:Int)<c.length:=cw3 a;rw [S5 e (by omega),ao9 e (by omega),ap0 e (by omega)];refine ⟨⟨h0,a⟩,⟨h0,a⟩,((k+1:Nat),[⟨g,h,b,(c.take (k+1)).map (getI m)++c.drop (k+1),f⟩],()),B5 (by omega) p,?_,⟨by omega,by dsimp only;omega,by dsimp only;rw [cv7]⟩,by dsimp only;omega⟩;dsimp only;rw [A4 (by omega) 0,List.map_append];rfl
 have q:k=c.length:=by have:¬ (k:Int)<c.length:=cw2 d;omega
 subst q;simp only [cy3,List.drop_length,List.append_nil];clear h0 h1 d e;refine ⟨⟨(0,_,m,()),rfl,rfl,rfl,Int.le_refl _,by dsimp only;omega,by simp [H8],by simp [H8]⟩,?_⟩;rintro ⟨i,l,x,⟨⟩⟩ ⟨h0,h1,h2,r⟩;dsimp only at h0 h1 h2 r |-;subst h2 r;obtain ⟨k,rfl⟩:=cv9 h0;simp only [cv7,List.getD_cons_zero,List.set_cons_zero];have e:(H8 m (b.take k)).1.length=k:=by rw [bh1,cy4];omega
 refine ⟨λa=>?_,λd=>?_⟩
 .have a:(k:Int)<b.length:=cw3 a;rw [S5 e (by omega),ao9 e (by omega),ap0 e (by omega)];have s:H8 m (b.take (k+1))=aX6 (H8 m (b.take k)) (b.getD k 0):=by rw [A4 (by omega) 0,bF1]
  refine ⟨⟨h0,a⟩,⟨h0,a⟩,((k+1:Nat),[⟨g,h,(H8 m (b.take (k+1))).1++b.drop (k+1),c.map (getI m),f⟩],(H8 m (b.take (k+1))).2,()),B5 (by omega) o,?_,?_,⟨by omega,by dsimp only;omega,by dsimp only;rw [cv7],by dsimp only;rw [cv7]⟩,by dsimp only;omega⟩
  .dsimp only;rw [s];rfl
  .dsimp only;rw [s];rfl
 .have q:k=b.length:=by have:¬ (k:Int)<b.length:=cw2 d;omega
  subst q;simp only [cy3,List.drop_length,List.append_nil]
theorem aX8:C9 prog RG 73 cCalledP:=E8 (A7 av8 (A7 bh0 (A7 bR4 B9))) (λp=>aX7 p.1 p.2.1 p.2.2.1 p.2.2.2.1 p.2.2.2.2.1 p.2.2.2.2.2.1) (by kernel_rfl) (by kernel_rfl) (by kernel_rfl) λ(a,b,c,d,e,m,()) f=>bF2 a b c d e m f
def idm (n:Nat):List (Int×Int):=(upto n).foldl (λm k=>mput eqI m k k) []
def bR5 (m:List (Int×Int)) (x:Ins):Ins:=⟨x.op,x.n,(H8 m x.to).1,x.from_.map (getI m),x.body⟩
def Q1 (m:List (Int×Int)) (l:List Ins):List (Int×Int):=l.foldl (λm x=>(H8 m x.to).2) m
def Z5:List (Int×Int)->List Ins->List Ins
 |_,[]=>[]
 |m,x::r=>bR5 m x::Z5 (H8 m x.to).2 r
def cPlain:Con RU:=con [(true,4)] as5 [(true,4),one] [i64,inss,ints,ints,i64] [false,false,false,false,false] (some λp=>G6 p.2.1=true/\p.2.2.1.length<=17592186044416)
 λp=>((D0 ⟨p.1,p.2.1,p.2.2.1,p.2.2.2.1⟩).1.params,(D0 ⟨p.1,p.2.1,p.2.2.1,p.2.2.2.1⟩).1.code,(D0 ⟨p.1,p.2.1,p.2.2.1,p.2.2.2.1⟩).1.out,(D0 ⟨p.1,p.2.1,p.2.2.1,p.2.2.2.1⟩).1.at_,(D0 ⟨p.1,p.2.1,p.2.2.1,p.2.2.2.1⟩).2,())
def bR6 (params:Int) (code:List Ins) (out:List Int):Nat->St RU->Ann RU:=λk s=>match k with
 |0=>⟨[],[.slot 22,.row 1216],[i64,mapI],λp=>0<=p.1/\(p.1<=params\/p.1=0)/\p.2.1=idm p.1.toNat,λp=>params.toNat-p.1.toNat,[]⟩
 |1=>⟨[],[.slot 39,.row 1216,.row 7],[i64,mapI,inss],λp=>0<=p.1/\p.1<=code.length/\p.2.1=Q1 (idm params.toNat) (code.take p.1.toNat)/\p.2.2.1=Z5 (idm params.toNat) (code.take p.1.toNat),λp=>code.length-p.1.toNat,[(.box 512 1,7,52,.user 0)]⟩
 |_=>⟨[],[.slot 56,.row 2176],[i64,ints],λp=>0<=p.1/\p.1<=out.length/\p.2.1=(out.take p.1.toNat).map (getI (Q1 (idm params.toNat) code))++out.drop p.1.toNat,λp=>out.length-p.1.toNat,[]⟩
theorem cc3 (a:Int) (b:List Ins) (c d:List Int):vc (EV [(41,cCheck),(72,cOwn),(71,cOld),(73,cCalledP)]) (bR6 a b c) Go.Proofs.Tryd.f39 cPlain (a,b,c,d,())=(let i:Int×List Ins×List Int×List Int×Int×Unit:=
  ((D0 (VFun.mk a b c d)).1.params,(D0 (VFun.mk a b c d)).1.code,(D0 (VFun.mk a b c d)).1.out,(D0 (VFun.mk a b c d)).1.at_,(D0 (VFun.mk a b c d)).2,());
 let e:Bool:=C1 (VFun.mk a b c d) !=(0:Int);
 let f:Int:=(↑(List.length b):Int);
 let h:Int:=(↑(List.length c):Int);
 let g:Ins:=Ins.mk (0:Int) (0:Int) [] [] [];
  Small RU (Sigma.mk (Ty.slice (52:Nat) (Ty.user (0:Nat))) b)->
  Small RU (Sigma.mk (Ty.slice (3:Nat) (Ty.int IntKind.i64)) c)->
  Small RU (Sigma.mk (Ty.slice (3:Nat) (Ty.int IntKind.i64)) d)->
  (e=true->((0:Int),[],[],[],C1 (VFun.mk a b c d),())=i)/\
  (e=false->
  (∃ (p:Int×List (Int×Int)×Unit),
  a=a/\
  b=b/\
  c=c/\
  d=d/\
  (0:Int)=(0:Int)/\
  C1 (VFun.mk a b c d)=C1 (VFun.mk a b c d)/\
  e=e/\
  a=a/\
  (0:Int)=p.1/\
  a=a/\b=b/\c=c/\d=d/\(0:Int)=(0:Int)/\[]=p.2.1/\(0:Int)<=p.1/\(p.1<=a\/p.1=(0:Int))/\p.2.1=idm (Int.toNat p.1))/\
  ∀ (p:Int×List (Int×Int)×Unit),
 let e0_1:Bool:=decide (p.1<a);
 let e1_1:Int:=p.1;
 let e2_1:List (Int×Int):=p.2.1;
  (0:Int)<=e1_1/\(e1_1<=a\/e1_1=(0:Int))/\e2_1=idm (Int.toNat e1_1)->
  (e0_1=true->
  ∃ (p':Int×List (Int×Int)×Unit),
  a=a/\
  b=b/\
  c=c/\
  d=d/\
  (0:Int)=(0:Int)/\
  C1 (VFun.mk a b c d)=C1 (VFun.mk a b c d)/\
  e=e/\
  a=a/\
  IntKind.i64.wrap (e1_1+(1:Int))=p'.1/\
  a=a/\
  b=b/\
  c=c/\
  d=d/\
  (0:Int)=(0:Int)/\
  mput (λ(x y:Int)=>x==y) e2_1 e1_1 e1_1=p'.2.1/\
  ((0:Int)<=p'.1/\(p'.1<=a\/p'.1=(0:Int))/\p'.2.1=idm (Int.toNat p'.1))/\
  Int.toNat a-Int.toNat p'.1<Int.toNat a-Int.toNat e1_1)/\
  (e0_1=false->
  List.length c<=(17592186044416:Nat)/\
  (∃ (p:Int×List (Int×Int)×List Ins×Unit),
  a=a/\
  b=b/\
  c=c/\
  d=d/\
  (0:Int)=(0:Int)/\
  C1 (VFun.mk a b c d)=C1 (VFun.mk a b c d)/\
  e=e/\
  a=a/\
  e1_1=e1_1/\
  e0_1=e0_1/\
  b=b/\
  f=f/\
  (0:Int)=p.1/\
  a=a/\
  b=b/\
  c=c/\
  d=d/\
  (0:Int)=(0:Int)/\
  e2_1=p.2.1/\
  c=c/\
  a=a/\
  []=p.2.2.1/\
  (0:Int)<=p.1/\
  p.1<=f/\
  p.2.1=Q1 (idm (Int.toNat a)) (List.take (Int.toNat p.1) b)/\
  p.2.2.1=Z5 (idm (Int.toNat a)) (List.take (Int.toNat p.1) b))/\
  ∀ (p:Int×List (Int×Int)×List Ins×Unit),
 let e0_2:List Ins:=p.2.2.1;
 let e1_2:List Ins:=
  [Ins.mk (List.getD b (Int.toNat p.1) g).op (List.getD b (Int.toNat p.1) g).n (H8 p.2.1 (List.getD b (Int.toNat p.1) g).to).1
  (List.map (getI p.2.1) (List.getD b (Int.toNat p.1) g).from_) (List.getD b (Int.toNat p.1) g).body];
 let e2_2:Bool:=decide (p.1<f);
 let e3_1:List (Int×Int):=p.2.1;
 let e4_1:Int:=p.1;
  (0:Int)<=e4_1/\e4_1<=f/\e3_1=Q1 (idm (Int.toNat a)) (List.take (Int.toNat e4_1) b)/\e0_2=Z5 (idm (Int.toNat a)) (List.take (Int.toNat e4_1) b)->
  (e2_2=true->
  ((0:Int)<=e4_1/\e4_1<f)/\
  (X4 (List.getD b (Int.toNat e4_1) g).to (List.getD b (Int.toNat e4_1) g).from_ (List.getD b (Int.toNat e4_1) g).body=true/\True)/\
  (List.length e0_2+List.length e1_2)*(88:Nat)<=(140737488355328:Nat)/\
  ∃ (p':Int×List (Int×Int)×List Ins×Unit),
  a=a/\
  b=b/\
  c=c/\
  d=d/\
  (0:Int)=(0:Int)/\
  C1 (VFun.mk a b c d)=C1 (VFun.mk a b c d)/\
  e=e/\
  a=a/\
  e1_1=e1_1/\
  e0_1=e0_1/\
  b=b/\
  f=f/\
  IntKind.i64.wrap (e4_1+(1:Int))=p'.1/\
  a=a/\
  b=b/\
  c=c/\
  d=d/\
  (0:Int)=(0:Int)/\
  (H8 e3_1 (List.getD b (Int.toNat e4_1) g).to).2=p'.2.1/\
  c=c/\
  a=a/\
  e0_2++e1_2=p'.2.2.1/\
  ((0:Int)<=p'.1/\
  p'.1<=f/\
  p'.2.1=Q1 (idm (Int.toNat a)) (List.take (Int.toNat p'.1) b)/\
  p'.2.2.1=Z5 (idm (Int.toNat a)) (List.take (Int.toNat p'.1) b))/\
  List.length b-Int.toNat p'.1<List.length b-Int.toNat e4_1)/\
  (e2_2=false->
  (∃ (p:Int×List Int×Unit),
  a=a/\
  b=b/\
  c=c/\
  d=d/\
  (0:Int)=(0:Int)/\
  C1 (VFun.mk a b c d)=C1 (VFun.mk a b c d)/\
  e=e/\
  a=a/\
  e1_1=e1_1/\
  e0_1=e0_1/\
  b=b/\
  f=f/\
  e4_1=e4_1/\
  e2_2=e2_2/\
  h=h/\
  (0:Int)=p.1/\
  a=a/\
  b=b/\
  c=c/\
  d=d/\
  (0:Int)=(0:Int)/\
  e3_1=e3_1/\
  c=p.2.1/\
  a=a/\
  e0_2=e0_2/\
  (0:Int)<=p.1/\
  p.1<=h/\
  p.2.1=
  List.map (getI (Q1 (idm (Int.toNat a)) b)) (List.take (Int.toNat p.1) c)++
  List.drop (Int.toNat p.1) c)/\
  ∀ (p:Int×List Int×Unit),
 let e0_3:List Int:=p.2.1;
 let e1_3:Int:=p.1;
 let e2_3:Bool:=decide (e1_3<h);
  (0:Int)<=e1_3/\e1_3<=h/\e0_3=List.map (getI (Q1 (idm (Int.toNat a)) b)) (List.take (Int.toNat e1_3) c)++List.drop (Int.toNat e1_3) c->
  (e2_3=true->
  ((0:Int)<=e1_3/\e1_3<(↑(List.length e0_3):Int))/\
  (True/\e3_1=e3_1/\True)/\
  ((0:Int)<=e1_3/\e1_3<(↑(List.length e0_3):Int))/\
  ∃ (p':Int×List Int×Unit),
  a=a/\
  b=b/\
  c=c/\
  d=d/\
  (0:Int)=(0:Int)/\
  C1 (VFun.mk a b c d)=C1 (VFun.mk a b c d)/\
  e=e/\
  a=a/\
  e1_1=e1_1/\
  e0_1=e0_1/\
  b=b/\
  f=f/\
  e4_1=e4_1/\
  e2_2=e2_2/\
  h=h/\
  IntKind.i64.wrap (e1_3+(1:Int))=p'.1/\
  a=a/\
  b=b/\
  c=c/\
  d=d/\
  (0:Int)=(0:Int)/\
  e3_1=e3_1/\
  List.set e0_3 (Int.toNat e1_3) (getI e3_1 (List.getD e0_3 (Int.toNat e1_3) (0:Int)))=p'.2.1/\
  a=a/\
  e0_2=e0_2/\
  ((0:Int)<=p'.1/\
  p'.1<=h/\
  p'.2.1=
  List.map (getI (Q1 (idm (Int.toNat a)) b)) (List.take (Int.toNat p'.1) c)++
  List.drop (Int.toNat p'.1) c)/\
  List.length c-Int.toNat p'.1<List.length c-Int.toNat e1_3)/\
  (e2_3=false->(a,e0_2,e0_3,[],(0:Int),())=i))))):=by kernel_rfl
theorem bp9 (m:List (Int×Int)) (l:List Ins) (x:Ins):Q1 m (l++[x])=(H8 (Q1 m l) x.to).2:=by simp [Q1]
theorem aJ6 (x:Ins):∀ (l:List Ins) (m:List (Int×Int)),Z5 m (l++[x])=Z5 m l++[bR5 (Q1 m l) x]
 |[],m=>rfl
 |y::l,m=>by simp only [List.cons_append,Z5,aJ6 x l];rfl
theorem as9:∀ (l:List Ins) (m:List (Int×Int)),(Z5 m l).length=l.length
 |[],m=>rfl
 |y::l,m=>by simp [Z5,as9 l]
theorem bx7 (n:Nat):idm (n+1)=mput eqI (idm n) n n:=by unfold idm;rw [aI8,List.foldl_append];rfl
structure Named (a:Int) (W:List Int) (m:List (Int×Int)):Prop where
 len:(m.length:Int)=a+W.length
 par:∀ n,0<=n->n<a->mget eqI m n=some n
 wr:∀ n∈W,mget eqI m n=some (a+G8 W n)
 out:∀ n,a<=n->n∉W->mget eqI m n=none
theorem bx8 {m:List (Int×Int)} {n v:Int} (h:mget eqI m n=none):(mput eqI m n v).length=m.length+1:=by
 induction m with
 |nil=>rfl
 |cons x r ih=>
  obtain ⟨k,w⟩:=x;simp only [mget,eqI,cw6,beq_iff_eq] at h;split at h
  .cases h
  .rename_i a;simp only [mput,eqI,cw6,beq_iff_eq,if_neg a,cw9];rw [show (mput (λx y=>x==y) r n v).length=r.length+1 from ih h]
theorem ab4 {l r:List Int} {n:Int} (h:n∈l):G8 (l++r) n=G8 l n:=by
 induction l with
 |nil=>simp at h
 |cons x l ih=>
  simp only [List.cons_append,G8];by_cases a:x=n
  .simp [a]
  .rw [if_neg a,if_neg a,ih (by simpa [Ne.symm a] using h)]
theorem Z6 {l r:List Int} {n:Int} (h:n∉l) (hr:n∈r):G8 (l++r) n=l.length+G8 r n:=by
 induction l with
 |nil=>simp
 |cons x l ih=>simp only [List.mem_cons,not_or] at h;simp only [List.cons_append,G8,if_neg (Ne.symm h.1),ih h.2,cw9,Int.natCast_add];have:=bf2.2 hr;rw [if_neg (by omega)];omega
theorem bR7 {a:Int} (h:0<=a):Named a [] (idm a.toNat):=by
 have key:∀ k:Nat,(idm k).length=k/\(∀ n:Int,0<=n->n<k->mget eqI (idm k) n=some n)/\∀ n:Int,(k:Int)<=n->mget eqI (idm k) n=none:=by
  intro k
  induction k with
  |zero=>exact ⟨rfl,λn h1 h2=>by omega,λn _=>rfl⟩
  |succ k ih=>
   obtain ⟨h1,h2,c⟩:=ih;rw [bx7];refine ⟨by rw [bx8 (c k (Int.le_refl _)),h1],λn b d=>?_,λn b=>?_⟩
   .rw [I7];split
    .rename_i e;rw [e]
    .exact h2 n b (by omega)
   .rw [I7,if_neg (by omega)];exact c n (by omega)
 obtain ⟨h1,h2,c⟩:=key a.toNat;exact ⟨by rw [h1];simp;omega,λn b d=>h2 n b (by omega),λn f=>by simp at f,λn b _=>c n (by omega)⟩
theorem bR8 {a:Int} {W:List Int} {m:List (Int×Int)} (N:Named a W m) (f:0<=a) {x:Int} (d:x∉W) (c:a<=x):Named a (W++[x]) (mput eqI m x m.length):=by
 refine ⟨?_,λn h1 h2=>?_,λn e=>?_,λn h1 h2=>?_⟩
 .rw [bx8 (N.out x c d),cx5,cx8];have:=N.len;omega
 .rw [I7,if_neg (by omega)];exact N.par n h1 h2
 .rw [I7];by_cases h:x=n
  .subst h;rw [if_pos rfl,Z6 d (by simp)];have:=N.len;simp [G8];omega
  .rw [if_neg h];have b:n∈W:=by simpa [Ne.symm h] using e
   rw [ab4 b];exact N.wr n b
 .simp only [cy1,cw4,not_or] at h2;rw [I7,if_neg (Ne.symm h2.2)];exact N.out n h1 h2.1
theorem aJ7 {a:Int} (d:0<=a):∀ (l W:List Int) (m:List (Int×Int)),Named a W m->(W++l).Nodup->(∀ x∈l,a<=x)->Named a (W++l) (H8 m l).2/\(H8 m l).1=l.map λn=>a+G8 (W++l) n:=by
 have key:∀ (l W:List Int) (s:List Int×List (Int×Int)),Named a W s.2->(W++l).Nodup->(∀ x∈l,a<=x)->Named a (W++l) (l.foldl aX6 s).2/\(l.foldl aX6 s).1=s.1++l.map λn=>a+G8 (W++l) n:=by
  intro l
  induction l with
  |nil=>intro W s N _ _;simpa using N
  |cons x r ih=>
   intro W s N b hl;have c:x∉W:=by intro h;exact (List.nodup_append.1 b).2.2 x h x (by simp) rfl
   have N':=bR8 N d c (hl x (by simp));have:=ih (W++[x]) (aX6 s x) N' (by rw [cy0];exact b) (λy e=>hl y (by simp [e]));rw [cy0] at this;refine ⟨this.1,?_⟩;rw [List.foldl_cons,this.2];simp only [aX6,List.singleton_append,List.map_cons,cy0];congr 1;have h1:G8 (W++x::r) x=W.length:=by rw [Z6 c (by simp)];simp [G8]
   rw [h1];have:=N.len;rw [this]
 intro l W m N b hl;have:=key l W ([],m) N b hl;simpa [H8] using this
theorem az4 {a:Int} (d:0<=a):∀ (l:List Ins) (W:List Int) (m:List (Int×Int)),Named a W m->(W++wr l).Nodup->(∀ x∈wr l,a<=x)->Named a (W++wr l) (Q1 m l)
 |[],W,m,N,_,_=>by simpa [wr,Q1] using N
 |x::r,W,m,N,b,hl=>by rw [L9,<-cy0] at b |-;have h1:=aJ7 d x.to W m N (List.nodup_append.1 b).1 (λy c=>hl y (by rw [L9];simp [c]));exact az4 d r (W++x.to) _ h1.1 b (λy c=>hl y (by rw [L9];simp [c]))
theorem aR2 {a:Int} {W:List Int} {m:List (Int×Int)} (N:Named a W m) {n:Int} (h:(0<=n/\n<a)\/(a<=n/\n∈W)):getI m n=E5 a W n:=by
 unfold getI E5;rcases h with h|h
 .rw [N.par n h.1 h.2,if_pos h.2];rfl
 .rw [N.wr n h.2,if_neg (by omega)];rfl
theorem am4 {a:Int} {W V:List Int} {n:Int} (h:n<a\/n∈W):E5 a (W++V) n=E5 a W n:=by
 unfold E5;split
 .rfl
 .rename_i h1;rw [ab4 (h.resolve_left h1)]
theorem bh2 {a:Int} (j:0<=a):∀ (l:List Ins) (W V:List Int) (m:List (Int×Int)),Named a W m->(W++wr l).Nodup->(∀ x∈wr l,a<=x)->D3 a W l=true->(∀ x∈l,∀ n∈x.from_,0<=n)->(∀ x∈W,a<=x)->
  Z5 m l=l.map λx=>⟨x.op,x.n,x.to.map (E5 a (W++wr l++V)),x.from_.map (E5 a (W++wr l++V)),x.body⟩
 |[],_,_,_,_,_,_,_,_,_=>rfl
 |x::r,W,V,m,N,b,hl,g,hf,k=>by
  have c:=b;rw [L9,<-cy0] at c;have d:∀ y∈x.to,a<=y:=λy e=>hl y (by rw [L9];simp [e]);have h1:=aJ7 j x.to W m N (List.nodup_append.1 c).1 d;simp only [D3,cv6,cy5] at g;have ih:=bh2 j r (W++x.to) V _ h1.1 c (λy e=>hl y (by rw [L9];simp [e])) g.2 (λy e=>hf y (by simp [e])) (λy e=>by
   rcases cy1.1 e with h|h
   .exact k y h
   .exact d y h)
  have o:W++wr (x::r)++V=W++x.to++wr r++V:=by rw [L9];simp
  simp only [Z5,List.map_cons];rw [ih,o];congr 1;simp only [bR5,Ins.mk.injEq,true_and,and_true];constructor
  .rw [h1.2];apply List.map_congr_left;intro n b;rw [show W++x.to++wr r++V=(W++x.to)++(wr r++V) by simp,am4 (.inr (by simp [b]))];unfold E5;rw [if_neg (by have:=d n b;omega)]
  .apply List.map_congr_left;intro n b;have i:=g.1 n b;have h0:=hf x (by simp) n b;have f:n<a\/n∈W:=by simpa [List.contains_iff_mem] using i
   rw [show W++x.to++wr r++V=W++(x.to++wr r++V) by simp,am4 f];refine aR2 N ?_;by_cases h2:n<a
   .exact .inl ⟨h0,h2⟩
   .exact .inr ⟨by omega,f.resolve_left h2⟩
theorem bF3 {b:List Ins} (h:G6 b=true) {k:Nat} (a:k<b.length):X4 (b.getD k ins0).to (b.getD k ins0).from_ (b.getD k ins0).body=true:=
 W2.2 ((L5 _).1 (bf8 h (H4 a ins0)))
theorem cc4 (a:Int) (b:List Ins) (c d:List Int) (w:G6 b=true/\c.length<=17592186044416):vc (EV [(41,cCheck),(72,cOwn),(71,cOld),(73,cCalledP)]) (bR6 a b c) Go.Proofs.Tryd.f39 cPlain (a,b,c,d,()):=by
 rw [cc3 a b c d];intro r y B D z F hc _;have s:c.length<=140737488355328:=hc.len;have g:r=((D0 ⟨a,b,c,d⟩).1.params,(D0 ⟨a,b,c,d⟩).1.code,(D0 ⟨a,b,c,d⟩).1.out,(D0 ⟨a,b,c,d⟩).1.at_,(D0 ⟨a,b,c,d⟩).2,()):=rfl;have t:z=ins0:=rfl;refine ⟨λh=>?_,λh=>?_⟩
 .have h:C1 ⟨a,b,c,d⟩≠0:=by simpa [y] using h
  rw [g];unfold D0;rw [if_pos h];rfl
 have h:C1 ⟨a,b,c,d⟩=0:=by simpa [y] using h
 have C:=aX3 h;have E:=C.len;have N0:=bR7 C.pos;have j:=D7.1 C.once;have o:=bh2 C.pos b [] [] (idm a.toNat) N0 (by simpa using j) C.new C.there (λx u n q=>(C.fromR x u n q).1) (λx u=>by simp at u);have hM:=az4 C.pos b [] (idm a.toNat) N0 (by simpa using j) C.new;rw [List.nil_append] at hM;simp only [List.nil_append,List.append_nil] at o;have g:r=(a,Z5 (idm a.toNat) b,c.map (getI (Q1 (idm a.toNat) b)),[],0,()):=by
  rw [g];unfold D0;rw [if_neg (by simpa using h)];have:c.map (getI (Q1 (idm a.toNat) b))=c.map (E5 a (wr b)):=by
   apply List.map_congr_left;intro n q;refine aR2 hM ?_;have h1:=(C.outR n q).1;rcases C.outT n q with h2|h2
   .exact .inl ⟨h1,h2⟩
   .exact .inr ⟨C.new n h2,h2⟩
  rw [this,o]
 clear_value r z
 subst g t;dsimp only [B,D];simp only [true_and,and_true];refine ⟨⟨(0,[],()),rfl,rfl,Int.le_refl _,.inr rfl,rfl⟩,?_⟩;rintro ⟨i,m,⟨⟩⟩ ⟨h0,h1,h2⟩;dsimp only at h0 h1 h2 |-;subst h2;obtain ⟨k,rfl⟩:=cv9 h0;simp only [cv7];refine ⟨λe=>?_,λf=>?_⟩
 .have e:(k:Int)<a:=cw3 e;have:=C.few;refine ⟨((k+1:Nat),idm (k+1),()),by rw [F9 (by omega) (by omega)];rfl,?_,⟨by omega,.inl (by dsimp only;omega),by rw [cv7]⟩,by dsimp only;omega⟩;rw [bx7]
 have p:k=a.toNat:=by have:¬ (k:Int)<a:=cw2 f;omega
 subst p;clear h0 h1 f;refine ⟨w.2,⟨(0,idm a.toNat,[],()),rfl,rfl,rfl,Int.le_refl _,by dsimp only;omega,rfl,rfl⟩,?_⟩;rintro ⟨i,m,out,⟨⟩⟩ ⟨h0,h1,h2,A⟩;dsimp only at h0 h1 h2 A |-;subst h2 A;obtain ⟨k,rfl⟩:=cv9 h0;simp only [cv7];refine ⟨λe=>?_,λf=>?_⟩
 .have e:(k:Int)<b.length:=cw3 e;refine ⟨⟨h0,e⟩,bF3 w.1 (by omega),?_,((k+1:Nat),Q1 (idm a.toNat) (b.take (k+1)),Z5 (idm a.toNat) (b.take (k+1)),()),B5 (by omega) (by omega:b.length<=140737488355328),?_,?_,⟨by omega,by dsimp only;omega,by rw [cv7],by rw [cv7]⟩,by dsimp only;omega⟩
  .rw [as9,cy4,cx8];omega
  .dsimp only;rw [A4 (by omega) ins0,bp9]
  .dsimp only;rw [A4 (by omega) ins0,aJ6];rfl
 have p:k=b.length:=by have:¬ (k:Int)<b.length:=cw2 f;omega
 subst p;rw [cy3];clear h0 h1 f;refine ⟨⟨(0,c,()),rfl,rfl,Int.le_refl _,by dsimp only;omega,by simp⟩,?_⟩;rintro ⟨i,l,⟨⟩⟩ ⟨h0,h1,h2⟩;dsimp only at h0 h1 h2 |-;subst h2;obtain ⟨k,rfl⟩:=cv9 h0;simp only [cv7];have v:((c.take k).map (getI (Q1 (idm a.toNat) b))).length=k:=by simp;omega
 refine ⟨λe=>?_,λf=>?_⟩
 .have e:(k:Int)<c.length:=cw3 e;rw [S5 v (by omega),ao9 v (by omega),ap0 v (by omega)];refine ⟨⟨h0,e⟩,⟨h0,e⟩,((k+1:Nat),(c.take (k+1)).map (getI (Q1 (idm a.toNat) b))++c.drop (k+1),()),B5 (by omega) s,?_,⟨by omega,by dsimp only;omega,by dsimp only;rw [cv7]⟩,by dsimp only;omega⟩;dsimp only;rw [A4 (by omega) 0,List.map_append];rfl
 .have p:k=c.length:=by have:¬ (k:Int)<c.length:=cw2 f;omega
  subst p;simp only [cy3,List.drop_length,List.append_nil]
theorem bq0:C9 prog RG 39 cPlain:=E8 (A7 ad8 (A7 bf7 (A7 bh0 (A7 aX8 B9)))) (λp=>bR6 p.1 p.2.1 p.2.2.1) (by kernel_rfl) (by kernel_rfl) (by kernel_rfl) λ(a,b,c,d,()) e=>cc4 a b c d e
theorem at0 (b:List Ins) (c:List Int) {k:Nat} (h:k<=b.length):atL b c k=(E6 (b.drop k) c).headD []:=by have h1:=aw0 c (b.drop k) (b.take k) 0;rw [List.take_append_drop,cy4,Nat.min_eq_left h,Nat.add_zero] at h1;rw [h1,V8]
theorem az5 (b:List Ins) (c:List Int) {k:Nat} (h:k<b.length):E6 (b.drop k) c=am1 (b.getD k ins0) (atL b c (k+1))::E6 (b.drop (k+1)) c:=by rw [List.drop_eq_getElem_cons h];simp only [E6];rw [<-at0 b c (k:=k+1) (by omega),cw7,cv5 h];rfl
def M1 (b:List Ins):Bool:=b.all λx=>decide (x.from_.length<=17592186044400)&&decide (x.to.length<=17592186044400)
def H6 (n:Int) (l:List Int):Bool:=l.all λx=>decide (0<=x)&&decide (x<n)
def aa3 (slots cells:Int) (x:RIns):Bool:=
 if x.kind=0 then H6 slots x.ins.from_&&H6 slots x.ins.to else if x.kind=1\/x.kind=2 then H6 slots [x.slot]&&H6 cells [x.cell] else false
def U6 (slots cells:Int) (p:Place):Bool:=H6 (if p.cell then cells else slots) [p.n]
def J7 (c:RCode):Bool:=
 (H6 4001 [c.params]&&H6 65 [c.slots]&&decide (1<=c.slots)&&decide (c.params<=c.cells)&&decide (c.cells<=8000))&&c.code.all (aa3 c.slots c.cells)&&c.out.all (U6 c.slots c.cells)
def cShaped:Con RU:=con [(true,5)] bO1 [one] [.bool] [false] (some λp=>-9223372036854775808<=p.2.1/\p.2.1<9223372036854775808) λp=>(J7 ⟨p.1,p.2.1,p.2.2.1,p.2.2.2.1,p.2.2.2.2.1⟩,())
def bq1 (slots cells:Int) (l:List RIns) (o:List Place):Nat->St RU->Ann RU:=λk s=>match k with
 |0=>⟨[],[.slot 36],[i64],λp=>0<=p.1/\p.1<=l.length/\(l.take p.1.toNat).all (aa3 slots cells)=true,λp=>l.length-p.1.toNat,[]⟩
 |_=>⟨[],[.slot 83],[i64],λp=>0<=p.1/\p.1<=o.length/\(o.take p.1.toNat).all (U6 slots cells)=true,λp=>o.length-p.1.toNat,[]⟩
theorem bR9 (a b c:Int) (l:List RIns) (o:List Place):vc (EV [(92,cIn)]) (bq1 b c l o) Go.Proofs.Tryd.f60 cShaped (a,b,c,l,o,())=(
 let f:Bool:=
  ((!List.all [a] λ(n:den RU.T i64)=>decide ((0:Int)<=n)&&decide (n<(4001:Int)))||
  !List.all [IntKind.i64.wrap (b-(1:Int))] λ(n:den RU.T i64)=>decide ((0:Int)<=n)&&decide (n<(64:Int)))||
  decide (c<a)||
  decide (c >(8000:Int));
 let d:Int:=(↑(List.length l):Int);
 let e:RIns:=RIns.mk (0:Int) (0:Int) (0:Int) ins0;
 let g:Int:=(↑(List.length o):Int);
 let h:Place:=Place.mk false (0:Int);
  Small RU (Sigma.mk (Ty.slice (55:Nat) (Ty.user (1:Nat))) l)->
  Small RU (Sigma.mk (Ty.slice (59:Nat) (Ty.user (2:Nat))) o)->
  (f=true->(false,())=(J7 (RCode.mk a b c l o),()))/\
  (f=false->
  (∃ (p:Int×Unit),
  a=a/\
  b=b/\
  c=c/\
  l=l/\
  o=o/\
  f=f/\
  l=l/\
  d=d/\
  (0:Int)=p.1/\
  a=a/\b=b/\c=c/\l=l/\o=o/\[a]=[a]/\(0:Int)<=p.1/\p.1<=d/\List.all (List.take (Int.toNat p.1) l) (aa3 b c)=true)/\
  ∀ (p:Int×Unit),
 let e0_1:Bool:=
  (!List.all [bif (List.getD l (Int.toNat p.1) e).kind==(1:Int) then (List.getD l (Int.toNat p.1) e).slot else (List.getD l (Int.toNat p.1) e).slot] λ(n:den RU.T i64)=>
  decide ((0:Int)<=n)&&decide (n<bif (List.getD l (Int.toNat p.1) e).kind==(1:Int) then b else b))||
  !List.all [bif (List.getD l (Int.toNat p.1) e).kind==(1:Int) then (List.getD l (Int.toNat p.1) e).cell else (List.getD l (Int.toNat p.1) e).cell] λ(n:den RU.T i64)=>
  decide ((0:Int)<=n)&&decide (n<bif (List.getD l (Int.toNat p.1) e).kind==(1:Int) then c else c);
 let e1_1:Bool:=
  (!List.all (List.getD l (Int.toNat p.1) e).ins.from_ λ(n:den RU.T i64)=>decide ((0:Int)<=n)&&decide (n<b))||
  !List.all (List.getD l (Int.toNat p.1) e).ins.to λ(n:den RU.T i64)=>decide ((0:Int)<=n)&&decide (n<b);
 let e2_1:Bool:=(List.getD l (Int.toNat p.1) e).kind==(1:Int);
 let e3_1:Bool:=decide (p.1<d);
 let e4_1:Bool:=bif e2_1 then e2_1 else (List.getD l (Int.toNat p.1) e).kind==(2:Int);
 let i:Bool:=(List.getD l (Int.toNat p.1) e).kind==(0:Int);
  (0:Int)<=p.1/\p.1<=d/\List.all (List.take (Int.toNat p.1) l) (aa3 b c)=true->
  (e3_1=true->
  ((0:Int)<=p.1/\p.1<d)/\
  (i=true->
  (e1_1=true->(false,())=(J7 (RCode.mk a b c l o),()))/\
  (e1_1=false->
  ∃ (p':Int×Unit),
  a=a/\
  b=b/\
  c=c/\
  l=l/\
  o=o/\
  f=f/\
  l=l/\
  d=d/\
  IntKind.i64.wrap (p.1+(1:Int))=p'.1/\
  a=a/\
  b=b/\
  c=c/\
  l=l/\
  o=o/\
  [a]=[a]/\
  ((0:Int)<=p'.1/\p'.1<=d/\List.all (List.take (Int.toNat p'.1) l) (aa3 b c)=true)/\
  List.length l-Int.toNat p'.1<List.length l-Int.toNat p.1))/\
  (i=false->
  (e4_1=true->
  (e0_1=true->(false,())=(J7 (RCode.mk a b c l o),()))/\
  (e0_1=false->
  ∃ (p':Int×Unit),
  (bif e2_1 then a else a)=a/\
  (bif e2_1 then b else b)=b/\
  (bif e2_1 then c else c)=c/\
  (bif e2_1 then l else l)=l/\
  (bif e2_1 then o else o)=o/\
  (bif e2_1 then f else f)=f/\
  (bif e2_1 then l else l)=l/\
  (bif e2_1 then d else d)=d/\
  IntKind.i64.wrap ((bif e2_1 then p.1 else p.1)+(1:Int))=p'.1/\
  (bif e2_1 then a else a)=a/\
  (bif e2_1 then b else b)=b/\
  (bif e2_1 then c else c)=c/\
  (bif e2_1 then l else l)=l/\
  (bif e2_1 then o else o)=o/\
  (bif e2_1 then [a] else [a])=[a]/\
  ((0:Int)<=p'.1/\p'.1<=d/\List.all (List.take (Int.toNat p'.1) l) (aa3 b c)=true)/\
  List.length l-Int.toNat p'.1<List.length l-Int.toNat p.1))/\
  (e4_1=false->(false,())=(J7 (RCode.mk a b c l o),()))))/\
  (e3_1=false->
  (∃ (p_1:Int×Unit),
  a=a/\
  b=b/\
  c=c/\
  l=l/\
  o=o/\
  f=f/\
  l=l/\
  d=d/\
  p.1=p.1/\
  e3_1=e3_1/\
  o=o/\
  g=g/\
  (0:Int)=p_1.1/\
  a=a/\
  b=b/\
  c=c/\l=l/\o=o/\[a]=[a]/\(0:Int)<=p_1.1/\p_1.1<=g/\List.all (List.take (Int.toNat p_1.1) o) (U6 b c)=true)/\
  ∀ (p_1:Int×Unit),
 let e0_2:Bool:=
  !List.all [bif (List.getD o (Int.toNat p_1.1) h).cell then (List.getD o (Int.toNat p_1.1) h).n else (List.getD o (Int.toNat p_1.1) h).n] λ(n:den RU.T i64)=>
  decide ((0:Int)<=n)&&decide (n<bif (List.getD o (Int.toNat p_1.1) h).cell then c else b);
 let e1_2:Bool:=(List.getD o (Int.toNat p_1.1) h).cell;
 let e:Bool:=decide (p_1.1<g);
  (0:Int)<=p_1.1/\p_1.1<=g/\List.all (List.take (Int.toNat p_1.1) o) (U6 b c)=true->
  (e=true->
  ((0:Int)<=p_1.1/\p_1.1<g)/\
  (e0_2=true->(false,())=(J7 (RCode.mk a b c l o),()))/\
  (e0_2=false->
  ∃ (p':Int×Unit),
  (bif e1_2 then a else a)=a/\
  (bif e1_2 then b else b)=b/\
  (bif e1_2 then c else c)=c/\
  (bif e1_2 then l else l)=l/\
  (bif e1_2 then o else o)=o/\
  (bif e1_2 then f else f)=f/\
  (bif e1_2 then l else l)=l/\
  (bif e1_2 then d else d)=d/\
  (bif e1_2 then p.1 else p.1)=p.1/\
  (bif e1_2 then e3_1 else e3_1)=e3_1/\
  (bif e1_2 then o else o)=o/\
  (bif e1_2 then g else g)=g/\
  IntKind.i64.wrap ((bif e1_2 then p_1.1 else p_1.1)+(1:Int))=p'.1/\
  (bif e1_2 then a else a)=a/\
  (bif e1_2 then b else b)=b/\
  (bif e1_2 then c else c)=c/\
  (bif e1_2 then l else l)=l/\
  (bif e1_2 then o else o)=o/\
  (bif e1_2 then [a] else [a])=[a]/\
  ((0:Int)<=p'.1/\p'.1<=g/\List.all (List.take (Int.toNat p'.1) o) (U6 b c)=true)/\
  List.length o-Int.toNat p'.1<List.length o-Int.toNat p_1.1))/\
  (e=false->(true,())=(J7 (RCode.mk a b c l o),()))))):=by kernel_rfl
theorem bF4 (n:Int) (l:List Int):(l.all λx=>decide (0<=x)&&decide (x<n))=H6 n l:=rfl
theorem aX9 {α:Type} {p:α->Bool} {l:List α} {k:Nat} (d:α) (a:k<l.length) (h:p (l.getD k d)=false):l.all p=false:=by rw [Bool.eq_false_iff];intro b;have:=cy5.1 b _ (H4 a d);rw [h] at this;cases this
theorem at1 {α:Type} {p:α->Bool} {l:List α} {k:Nat} (d:α) (a:k<l.length) (h:(l.take k).all p=true) (h2:p (l.getD k d)=true):(l.take (k+1)).all p=true:=by rw [A4 a d,List.all_append,h];simpa using h2
theorem bS0 (e a b:Int) (l:List RIns) (o:List Place) (M:-9223372036854775808<=a/\a<9223372036854775808):vc (EV [(92,cIn)]) (bq1 a b l o) Go.Proofs.Tryd.f60 cShaped (e,a,b,l,o,()):=by
 rw [bR9 e a b l o];intro q C D E F r s;have t:l.length<=140737488355328:=r.len;have u:o.length<=140737488355328:=s.len;have v:q=!(H6 4001 [e]&&H6 65 [a]&&decide (1<=a)&&decide (e<=b)&&decide (b<=8000)):=by
  show (((!H6 4001 [e])||!H6 64 [IntKind.i64.wrap (a-1)])||decide (b<e)||decide (b >8000))=_;have G:H6 64 [IntKind.i64.wrap (a-1)]=(H6 65 [a]&&decide (1<=a)):=by
   simp only [H6,List.all_cons,List.all_nil,Bool.and_true];by_cases h:a=-9223372036854775808
   .subst h;decide
   .rw [F9 (by omega) (by omega),Bool.eq_iff_iff];simp;omega
  have H:decide (b<e)=!decide (e<=b):=by rw [Bool.eq_iff_iff];simp
  have I:decide (b >8000)=!decide (b<=8000):=by rw [Bool.eq_iff_iff];simp
  rw [G,H,I];cases H6 4001 [e]<;>cases H6 65 [a]<;>cases decide (1<=a)<;>cases decide (e<=b)<;>rfl
 have J:J7 ⟨e,a,b,l,o⟩=(!q&&l.all (aa3 a b)&&o.all (U6 a b)):=by rw [v,Bool.not_not];rfl
 clear_value q
 rw [J];dsimp only [C,D,E,F];simp only [true_and,and_true,Bool.cond_self,bF4];refine ⟨λh=>by rw [h];rfl,λh=>?_⟩;rw [h];simp only [Bool.not_false,Bool.true_and];refine ⟨⟨(0,()),rfl,Int.le_refl _,by dsimp only;omega,by simp⟩,?_⟩;rintro ⟨i,⟨⟩⟩ ⟨h0,h1,h2⟩;dsimp only at h0 h1 h2 |-;obtain ⟨k,rfl⟩:=cv9 h0;simp only [cv7] at h2 |-;have w:(⟨0,0,0,ins0⟩:RIns)=rins0:=rfl;rw [w];refine ⟨λd=>?_,λg=>?_⟩
 .have d:(k:Int)<l.length:=cw3 d;have no:aa3 a b (l.getD k rins0)=false->(false,())=(l.all (aa3 a b)&&o.all (U6 a b),()):=λhf=>by rw [aX9 rins0 (by omega) hf];rfl
  have yes:aa3 a b (l.getD k rins0)=true->∃ p':Int×Unit,IntKind.i64.wrap ((k:Int)+1)=p'.1/\(0<=p'.1/\p'.1<=(l.length:Int)/\(l.take p'.1.toNat).all (aa3 a b)=true)/\l.length-p'.1.toNat<l.length-k:=λy=>
   ⟨((k+1:Nat),()),B5 (by omega) t,⟨by omega,by dsimp only;omega,by dsimp only;rw [cv7];exact at1 rins0 (by omega) h2 y⟩,by dsimp only;omega⟩
  generalize l.getD k rins0=x at no yes |-;refine ⟨⟨h0,d⟩,λf=>?_,λf=>?_⟩
  .have f:x.kind=0:=eq_of_beq f;have z:aa3 a b x=(H6 a x.ins.from_&&H6 a x.ins.to):=by simp only [aa3,if_pos f]
   rw [z] at no yes;refine ⟨λc=>no ?_,λc=>yes ?_⟩
   .revert c;cases H6 a x.ins.from_<;>cases H6 a x.ins.to<;>simp
   .revert c;cases H6 a x.ins.from_<;>cases H6 a x.ins.to<;>simp
  .have f:¬ x.kind=0:=by simpa using f
   refine ⟨λc=>?_,λc=>?_⟩
   .have c:x.kind=1\/x.kind=2:=by
     by_cases m:x.kind=1
     .exact .inl m
     .right;rw [show (x.kind==1)=false from beq_eq_false_iff_ne.2 m] at c;exact eq_of_beq c
    have z:aa3 a b x=(H6 a [x.slot]&&H6 b [x.cell]):=by simp only [aa3,if_neg f,if_pos c]
    rw [z] at no yes;refine ⟨λc=>no ?_,λc=>yes ?_⟩
    .revert c;cases H6 a [x.slot]<;>cases H6 b [x.cell]<;>simp
    .revert c;cases H6 a [x.slot]<;>cases H6 b [x.cell]<;>simp
   .have c:¬ (x.kind=1\/x.kind=2):=by
     rintro (m|m)
     .rw [m] at c;cases c
     .rw [m] at c;cases c
    exact no (by simp only [aa3,if_neg f,if_neg c])
 .have f:k=l.length:=by have:¬ (k:Int)<l.length:=cw2 g;omega
  subst f;rw [cy3] at h2;rw [h2];simp only [Bool.true_and];refine ⟨⟨(0,()),rfl,Int.le_refl _,by dsimp only;omega,by simp⟩,?_⟩;rintro ⟨i,⟨⟩⟩ ⟨A,K,p⟩;dsimp only at A K p |-;obtain ⟨j,rfl⟩:=cv9 A;simp only [cv7] at p |-;have w:(⟨false,0⟩:Place)=place0:=rfl;rw [w];refine ⟨λd=>?_,λg=>?_⟩
  .have d:(j:Int)<o.length:=cw3 d;have B:∀ x:Place,H6 (bif x.cell then b else a) [x.n]=U6 a b x:=λx=>by
    unfold U6;cases x.cell<;>rfl
   rw [B];refine ⟨⟨A,d⟩,λhf=>?_,λy=>⟨((j+1:Nat),()),B5 (by omega) u,⟨by omega,by dsimp only;omega,?_⟩,by dsimp only;omega⟩⟩
   .rw [aX9 place0 (by omega) (Bool.not_eq_true' _▸hf)]
   .dsimp only;rw [cv7];exact at1 place0 (by omega) p (Bool.not_eq_false' _▸y)
  .have L:j=o.length:=by have:¬ (j:Int)<o.length:=cw2 g;omega
   subst L;rw [cy3] at p;rw [p]
theorem bh3:C9 prog RG 60 cShaped:=E8 (A7 ca8 B9) (λp=>bq1 p.2.1 p.2.2.1 p.2.2.2.1 p.2.2.2.2.1) (by kernel_rfl) (by kernel_rfl) (by kernel_rfl) λ(a,b,c,l,o,()) d=>bS0 a b c l o d
abbrev Holds:=List (Place×Int)
def getF (m:Holds) (n:Int):Int:=(mget eqP m ⟨false,n⟩).getD 0
def cGetF:Con RU:=⟨[one,one],[i64,mapP],[.d 0,.ptr 0 0],[.box 83 [.map 1],.map 1],none,none,[one],[i64,mapP],[.d 0],[.box 83 [.map 1],.map 1],λp=>(getF p.2.1 p.1,p.2),[0,1],[],[]⟩
def cNewF:Con RU:=⟨[one,one,one],[i64,i64,mapP],[.d 0,.ptr 0 0,.ptr 1 0],[.box 3 [.d 1],.box 83 [.map 2],.map 2],some λp=>0<=p.2.1/\p.2.1<=4611686018427387904,none,[one],[i64,i64,mapP],[.d 0],[.box 3 [.d 1],.box 83 [.map 2],.map 2],
 λp=>(p.2.1,p.2.1+1,mput eqP p.2.2.1 ⟨false,p.1⟩ p.2.1,()),[1],[],[]⟩
def al5 (s:List Int×Int×Holds) (n:Int):List Int×Int×Holds:=(s.1++[s.2.1],s.2.1+1,mput eqP s.2.2 ⟨false,n⟩ s.2.1)
def G1 (nx:Int) (m:Holds) (l:List Int):List Int×Int×Holds:=l.foldl al5 ([],nx,m)
def cCalledF:Con RU:=⟨[(true,5),one,one],[i64,i64,ints,ints,inss,i64,mapP],[.d 0,.d 1,.d 2,.d 3,.d 4,.clo 90 [0,1],.clo 91 [1]],[.box 3 [.d 5],.box 83 [.map 2],.map 6],some λp=>X4 p.2.2.1 p.2.2.2.1 p.2.2.2.2.1=true/\0<=p.2.2.2.2.2.1/\p.2.2.2.2.2.1<=2305843009213693952,none,
 [(true,5)],[i64,i64,ints,ints,inss,i64,mapP],[.d 0,.d 1,.d 2,.d 3,.d 4],[.box 3 [.d 5],.box 83 [.map 2],.map 6],
 λp=>(p.1,p.2.1,(G1 p.2.2.2.2.2.1 p.2.2.2.2.2.2.1 p.2.2.1).1,p.2.2.2.1.map (getF p.2.2.2.2.2.2.1),p.2.2.2.2.1,(G1 p.2.2.2.2.2.1 p.2.2.2.2.2.2.1 p.2.2.1).2.1,(G1 p.2.2.2.2.2.1 p.2.2.2.2.2.2.1 p.2.2.1).2.2,()),[1],[],[]⟩
def aY0 (x1 x2:Int) (x3 x4:List Int) (x5:List Ins) (nx:Int) (m:Holds):Nat->St RU->Ann RU:=λk s=>match k with
 |0=>⟨[],[.slot 20,.row 896],[i64,inss],λp=>0<=p.1/\p.1<=x4.length/\p.2.1=[⟨x1,x2,x3,(x4.take p.1.toNat).map (getF m)++x4.drop p.1.toNat,x5⟩],λp=>x4.length-p.1.toNat,[]⟩
 |_=>⟨[],[.slot 36,.row 896,.box 1000000 0,.row 1000002],[i64,inss,i64,mapP],λp=>0<=p.1/\p.1<=x3.length/\p.2.1=[⟨x1,x2,(G1 nx m (x3.take p.1.toNat)).1++x3.drop p.1.toNat,x4.map (getF m),x5⟩]/\p.2.2.1=(G1 nx m (x3.take p.1.toNat)).2.1/\p.2.2.2.1=(G1 nx m (x3.take p.1.toNat)).2.2,λp=>x3.length-p.1.toNat,[]⟩
theorem cm1 (n:Int) (m:Holds):vc (EV []) noL Go.Proofs.Tryd.f91 cGetF (n,m,())=((Option.getD (mget (F6 RU (Ty.user (2:Nat))) m (Place.mk false n)) (0:Int),m,())=(getF m n,m,())):=by kernel_rfl
theorem cm2 (n nx:Int) (m:Holds):vc (EV []) noL Go.Proofs.Tryd.f90 cNewF (n,nx,m,())=(
 let a:Int:=IntKind.i64.wrap (nx+(1:Int));
  (IntKind.i64.wrap (a-(1:Int)),a,mput (F6 RU (Ty.user (2:Nat))) m (Place.mk false n) nx,())=(nx,nx+(1:Int),mput eqP m (Place.mk false n) nx,())):=by kernel_rfl
theorem bF5 (c d:Int) (a e:List Int) (b:List Ins) (nx:Int) (m:Holds):vc (EV [(96,cBody),(91,cGetF),(90,cNewF)]) (aY0 c d a e b nx m) Go.Proofs.Tryd.f73 cCalledF (c,d,a,e,b,nx,m,())=(
 let j:Ins:=Ins.mk (0:Int) (0:Int) [] [] [];
 let g:List Ins:=[Ins.mk c d a e b];
 let h:Int:=(↑(List.length e):Int);
  Small RU (Sigma.mk (Ty.slice (3:Nat) (Ty.int IntKind.i64)) a)->
  Small RU (Sigma.mk (Ty.slice (3:Nat) (Ty.int IntKind.i64)) e)->
  Small RU (Sigma.mk (Ty.slice (52:Nat) (Ty.user (0:Nat))) b)->
  (List.length g<=(1599289640354:Nat)/\G6 g=true)/\
  ((0:Int)<=(0:Int)/\(0:Int)<(↑(List.length g):Int))/\
  (∃ (p:Int×List Ins×Unit),
  c=c/\
  d=d/\
  a=a/\
  e=e/\
  b=b/\
  (0:Int)=(0:Int)/\
  h=h/\
  (0:Int)=p.1/\
  nx=nx/\
  m=m/\
  c=c/\
  d=d/\
  a=a/\
  e=e/\
  b=b/\
  (0:Int)=(0:Int)/\
  (0:Int)=(0:Int)/\
  g=g/\
  g=p.2.1/\
  c=c/\
  d=d/\
  (0:Int)=(0:Int)/\
  (0:Int)=(0:Int)/\
  b=b/\
  (0:Int)<=p.1/\
  p.1<=h/\p.2.1=[Ins.mk c d a (List.map (getF m) (List.take (Int.toNat p.1) e)++List.drop (Int.toNat p.1) e) b])/\
  ∀ (p:Int×List Ins×Unit),
 let e0_1:Ins:=List.getD p.2.1 (0:Nat) j;
 let e1_1:Bool:=decide (p.1<h);
 let e2_1:Int:=p.1;
 let f:List Ins:=p.2.1;
 let i:Int:=(↑(List.length e0_1.to):Int);
  (0:Int)<=e2_1/\e2_1<=h/\f=[Ins.mk c d a (List.map (getF m) (List.take (Int.toNat e2_1) e)++List.drop (Int.toNat e2_1) e) b]->
  (e1_1=true->
  ((0:Int)<=e2_1/\e2_1<(↑(List.length e0_1.from_):Int))/\
  (True/\m=m/\True)/\
  ((0:Int)<=e2_1/\e2_1<(↑(List.length e0_1.from_):Int))/\
  ∃ (p':Int×List Ins×Unit),
  c=c/\
  d=d/\
  a=a/\
  e=e/\
  b=b/\
  (0:Int)=(0:Int)/\
  h=h/\
  IntKind.i64.wrap (e2_1+(1:Int))=p'.1/\
  nx=nx/\
  m=m/\
  c=c/\
  d=d/\
  a=a/\
  e=e/\
  b=b/\
  (0:Int)=(0:Int)/\
  (0:Int)=(0:Int)/\
  g=g/\
  List.set f (0:Nat)
  (Ins.mk e0_1.op e0_1.n e0_1.to (List.set e0_1.from_ (Int.toNat e2_1) (getF m (List.getD e0_1.from_ (Int.toNat e2_1) (0:Int))))
  e0_1.body)=
  p'.2.1/\
  c=c/\
  d=d/\
  (0:Int)=(0:Int)/\
  (0:Int)=(0:Int)/\
  b=b/\
  ((0:Int)<=p'.1/\
  p'.1<=h/\
  p'.2.1=
  [Ins.mk c d a (List.map (getF m) (List.take (Int.toNat p'.1) e)++List.drop (Int.toNat p'.1) e) b])/\
  List.length e-Int.toNat p'.1<List.length e-Int.toNat e2_1)/\
  (e1_1=false->
  (∃ (p:Int×List Ins×Int×List (Place×Int)×Unit),
  c=c/\
  d=d/\
  a=a/\
  e=e/\
  b=b/\
  (0:Int)=(0:Int)/\
  h=h/\
  e2_1=e2_1/\
  e1_1=e1_1/\
  (0:Int)=(0:Int)/\
  i=i/\
  (0:Int)=p.1/\
  nx=p.2.2.1/\
  m=p.2.2.2.1/\
  c=c/\
  d=d/\
  a=a/\
  e=e/\
  b=b/\
  (0:Int)=(0:Int)/\
  (0:Int)=(0:Int)/\
  g=g/\
  f=p.2.1/\
  c=c/\
  d=d/\
  (0:Int)=(0:Int)/\
  (0:Int)=(0:Int)/\
  b=b/\
  (0:Int)<=p.1/\
  p.1<=(↑(List.length a):Int)/\
  p.2.1=
  [Ins.mk c d ((G1 nx m (List.take (Int.toNat p.1) a)).1++List.drop (Int.toNat p.1) a)
  (List.map (getF m) e) b]/\
  p.2.2.1=(G1 nx m (List.take (Int.toNat p.1) a)).2.1/\
  p.2.2.2.1=(G1 nx m (List.take (Int.toNat p.1) a)).2.2)/\
  ∀ (p:Int×List Ins×Int×List (Place×Int)×Unit),
 let e0_2:Int:=p.2.2.1;
 let e1_2:Ins:=List.getD p.2.1 (0:Nat) j;
 let e2_2:List (Place×Int):=p.2.2.2.1;
 let f:Int:=p.1;
 let e4_1:List Ins:=p.2.1;
 let k:Bool:=decide (f<i);
 let l:Int×List (Place×Int):=(G1 nx m (List.take (Int.toNat f) a)).2;
  (0:Int)<=f/\
  f<=(↑(List.length a):Int)/\
  e4_1=[Ins.mk c d ((G1 nx m (List.take (Int.toNat f) a)).1++List.drop (Int.toNat f) a) (List.map (getF m) e) b]/\e0_2=l.1/\e2_2=l.2->
  (k=true->
  ((0:Int)<=f/\f<(↑(List.length e1_2.to):Int))/\
  (((0:Int)<=e0_2/\e0_2<=(4611686018427387904:Int))/\True)/\
  ((0:Int)<=f/\f<(↑(List.length e1_2.to):Int))/\
  ∃ (p':Int×List Ins×Int×List (Place×Int)×Unit),
  c=c/\
  d=d/\
  a=a/\
  e=e/\
  b=b/\
  (0:Int)=(0:Int)/\
  h=h/\
  e2_1=e2_1/\
  e1_1=e1_1/\
  (0:Int)=(0:Int)/\
  i=i/\
  IntKind.i64.wrap (f+(1:Int))=p'.1/\
  e0_2+(1:Int)=p'.2.2.1/\
  mput eqP e2_2 (Place.mk false (List.getD e1_2.to (Int.toNat f) (0:Int))) e0_2=p'.2.2.2.1/\
  c=c/\
  d=d/\
  a=a/\
  e=e/\
  b=b/\
  (0:Int)=(0:Int)/\
  (0:Int)=(0:Int)/\
  g=g/\
  List.set e4_1 (0:Nat) (Ins.mk e1_2.op e1_2.n (List.set e1_2.to (Int.toNat f) e0_2) e1_2.from_ e1_2.body)=
  p'.2.1/\
  c=c/\
  d=d/\
  (0:Int)=(0:Int)/\
  (0:Int)=(0:Int)/\
  b=b/\
  ((0:Int)<=p'.1/\
  p'.1<=(↑(List.length a):Int)/\
  p'.2.1=
  [Ins.mk c d
  ((G1 nx m (List.take (Int.toNat p'.1) a)).1++List.drop (Int.toNat p'.1) a)
  (List.map (getF m) e) b]/\
  p'.2.2.1=(G1 nx m (List.take (Int.toNat p'.1) a)).2.1/\
  p'.2.2.2.1=(G1 nx m (List.take (Int.toNat p'.1) a)).2.2)/\
  List.length a-Int.toNat p'.1<List.length a-Int.toNat f)/\
  (k=false->
  (c,d,e1_2.to,e1_2.from_,b,e0_2,e2_2,())=(c,d,(G1 nx m a).1,List.map (getF m) e,b,(G1 nx m a).2.1,(G1 nx m a).2.2,())))):=by kernel_rfl
theorem cm3 (n:Int) (m:Holds):vc (EV []) noL Go.Proofs.Tryd.f91 cGetF (n,m,()):=by rw [cm1 n m];rfl
theorem bF6:C9 prog RG 91 cGetF:=E8 B9 (λ_=>noL) (by kernel_rfl) (by kernel_rfl) (by kernel_rfl) λ(n,m,()) _=>cm3 n m
theorem cm4 (n nx:Int) (m:Holds) (a:0<=nx/\nx<=4611686018427387904):vc (EV []) noL Go.Proofs.Tryd.f90 cNewF (n,nx,m,()):=by rw [cm2 n nx m];dsimp only;rw [F9 (n:=nx+1) (by omega) (by omega),show nx+1-1=nx by omega,F9 (by omega) (by omega)];rfl
theorem bF7:C9 prog RG 90 cNewF:=E8 B9 (λ_=>noL) (by kernel_rfl) (by kernel_rfl) (by kernel_rfl) λ(n,nx,m,()) a=>cm4 n nx m a
theorem bq2 (nx:Int) (m:Holds) (l:List Int) (x:Int):G1 nx m (l++[x])=al5 (G1 nx m l) x:=by simp [G1]
theorem W0 (nx:Int) (m:Holds) (l:List Int):(G1 nx m l).1.length=l.length/\(G1 nx m l).2.1=nx+l.length:=by
 have key:∀ (l:List Int) (s:List Int×Int×Holds),(l.foldl al5 s).1.length=s.1.length+l.length/\(l.foldl al5 s).2.1=s.2.1+l.length:=by
  intro l
  induction l with
  |nil=>intro s;simp
  |cons x r ih=>intro s;have:=ih (al5 s x);simp only [List.foldl_cons,cw9,al5,cx5,List.length_nil] at this |-;omega
 have:=key l ([],nx,m);simpa [G1] using this
theorem bF8 (g h:Int) (a c:List Int) (f:List Ins) (nx:Int) (m:Holds) (v:X4 a c f=true/\0<=nx/\nx<=2305843009213693952):vc (EV [(96,cBody),(91,cGetF),(90,cNewF)]) (aY0 g h a c f nx m) Go.Proofs.Tryd.f73 cCalledF (g,h,a,c,f,nx,m,()):=by
 rw [bF5 g h a c f nx m];intro w x y j n _;have o:a.length<=140737488355328:=j.len;have p:c.length<=140737488355328:=n.len;dsimp only [w,x,y];simp only [true_and,and_true];refine ⟨⟨by simp,?_⟩,⟨by omega,by simp⟩,⟨(0,_,()),rfl,rfl,Int.le_refl _,by dsimp only;omega,by simp⟩,?_⟩
 .simp only [G6,Bool.and_true];exact (L5 _).2 (W2.1 v.1)
 rintro ⟨i,l,⟨⟩⟩ ⟨h0,h1,h2⟩;dsimp only at h0 h1 h2 |-;subst h2;obtain ⟨k,rfl⟩:=cv9 h0;simp only [cv7,List.getD_cons_zero,List.set_cons_zero];have e:((c.take k).map (getF m)).length=k:=by simp;omega
 refine ⟨λb=>?_,λd=>?_⟩
 .have b:(k:Int)<c.length:=cw3 b;rw [S5 e (by omega),ao9 e (by omega),ap0 e (by omega)];refine ⟨⟨h0,b⟩,⟨h0,b⟩,((k+1:Nat),[⟨g,h,a,(c.take (k+1)).map (getF m)++c.drop (k+1),f⟩],()),B5 (by omega) p,?_,⟨by omega,by dsimp only;omega,by dsimp only;rw [cv7]⟩,by dsimp only;omega⟩;dsimp only;rw [A4 (by omega) 0,List.map_append];rfl
 have q:k=c.length:=by have:¬ (k:Int)<c.length:=cw2 d;omega
 subst q;simp only [cy3,List.drop_length,List.append_nil];clear h0 h1 d e;refine ⟨⟨(0,_,nx,m,()),rfl,rfl,rfl,rfl,Int.le_refl _,by dsimp only;omega,by simp [G1],by simp [G1],by simp [G1]⟩,?_⟩;rintro ⟨i,l,nx2,z,⟨⟩⟩ ⟨h0,h1,h2,s,t⟩;dsimp only at h0 h1 h2 s t |-;subst h2 s t;obtain ⟨k,rfl⟩:=cv9 h0;simp only [cv7,List.getD_cons_zero,List.set_cons_zero];have u:=W0 nx m (a.take k);have e:(G1 nx m (a.take k)).1.length=k:=by rw [u.1,cy4];omega
 have hB:(G1 nx m (a.take k)).2.1=nx+k:=by rw [u.2,cy4];omega
 refine ⟨λb=>?_,λd=>?_⟩
 .have b:(k:Int)<a.length:=cw3 b;rw [S5 e (by omega),ao9 e (by omega),ap0 e (by omega)];have r:G1 nx m (a.take (k+1))=al5 (G1 nx m (a.take k)) (a.getD k 0):=by rw [A4 (by omega) 0,bq2]
  refine ⟨⟨h0,b⟩,⟨by rw [hB];omega,by rw [hB];omega⟩,⟨h0,b⟩,((k+1:Nat),[⟨g,h,(G1 nx m (a.take (k+1))).1++a.drop (k+1),c.map (getF m),f⟩],(G1 nx m (a.take (k+1))).2.1,(G1 nx m (a.take (k+1))).2.2,()),B5 (by omega) o,?_,?_,?_,⟨by omega,by dsimp only;omega,by dsimp only;rw [cv7],by dsimp only;rw [cv7],by dsimp only;rw [cv7]⟩,by dsimp only;omega⟩
  .dsimp only;rw [r];rfl
  .dsimp only;rw [r];rfl
  .dsimp only;rw [r];rfl
 .have q:k=a.length:=by have:¬ (k:Int)<a.length:=cw2 d;omega
  subst q;simp only [cy3,List.drop_length,List.append_nil]
theorem aY1:C9 prog RG 73 cCalledF:=E8 (A7 av8 (A7 bF6 (A7 bF7 B9))) (λp=>aY0 p.1 p.2.1 p.2.2.1 p.2.2.2.1 p.2.2.2.2.1 p.2.2.2.2.2.1 p.2.2.2.2.2.2.1) (by kernel_rfl) (by kernel_rfl) (by kernel_rfl) λ(a,b,c,d,e,nx,m,()) f=>bF8 a b c d e nx m f
abbrev SF:=Holds×List Ins×Int
def J1 (s:SF) (x:RIns):SF×Bool:=
 bif x.kind==0 then
  (bif x.ins.from_.all (isP (s.1,())) then (((G1 s.2.2 s.1 x.ins.to).2.2,s.2.1++[⟨x.ins.op,x.ins.n,(G1 s.2.2 s.1 x.ins.to).1,x.ins.from_.map (getF s.1),x.ins.body⟩],(G1 s.2.2 s.1 x.ins.to).2.1),true) else (s,false))
 else match mget eqP s.1 (bif x.kind==2 then ⟨false,x.slot⟩ else ⟨true,x.cell⟩) with
  |none=>(s,false)
  |some n=>((mput eqP s.1 (bif x.kind==2 then ⟨true,x.cell⟩ else ⟨false,x.slot⟩) n,s.2),true)
def J3:List RIns->SF->SF×Bool
 |[],s=>(s,true)
 |x::r,s=>bif (J1 s x).2 then J3 r (J1 s x).1 else (s,false)
def Q2 (m:Holds):List Place->List Int×Bool
 |[]=>([],true)
 |p::r=>match mget eqP m p with
  |none=>([],false)
  |some n=>(n::(Q2 m r).1,(Q2 m r).2)
def N7 (n:Nat):Holds:=(List.range n).foldl (λ(m:Holds) (i:Nat)=>mput eqP m ⟨true,(i:Int)⟩ (i:Int)) []
def H0 (a:Int):SF:=(N7 a.toNat,[],a)
def C3 (c:RCode):VFun×Bool:=
 bif (J3 c.code (H0 c.params)).2 then (⟨c.params,(J3 c.code (H0 c.params)).1.2.1,(Q2 (J3 c.code (H0 c.params)).1.1 c.out).1,[]⟩,(Q2 (J3 c.code (H0 c.params)).1.1 c.out).2)
 else (⟨c.params,(J3 c.code (H0 c.params)).1.2.1,[],[]⟩,false)
def U0 (l:List RIns):Bool:=l.all λx=>al4 x.ins
def cFollow:Con RU:=con [(true,5)] bO1 [(true,4),one] [i64,inss,ints,ints,.bool] [false,false,false,false,false] (some λp=>0<=p.1/\p.1<=4000/\p.2.2.2.1.length<=16000/\U0 p.2.2.2.1=true/\p.2.2.2.2.1.length<=17592186044400) λp=>
 ((C3 ⟨p.1,p.2.1,p.2.2.1,p.2.2.2.1,p.2.2.2.2.1⟩).1.params,(C3 ⟨p.1,p.2.1,p.2.2.1,p.2.2.2.1,p.2.2.2.2.1⟩).1.code,(C3 ⟨p.1,p.2.1,p.2.2.1,p.2.2.2.1,p.2.2.2.2.1⟩).1.out,(C3 ⟨p.1,p.2.1,p.2.2.1,p.2.2.2.1,p.2.2.2.2.1⟩).1.at_,(C3 ⟨p.1,p.2.1,p.2.2.1,p.2.2.2.1,p.2.2.2.2.1⟩).2,())
def bq3 (a:Int) (code:List RIns) (out:List Place):Nat->St RU->Ann RU:=λk s=>match k with
 |0=>⟨[],[.slot 21,.row 1152],[i64,mapP],λp=>0<=p.1/\p.1<=a/\p.2.1=N7 p.1.toNat,λp=>a.toNat-p.1.toNat,[]⟩
 |1=>⟨[],[.slot 37,.row 1152,.box 448 0,.row 900001],[i64,mapP,i64,inss],λp=>0<=p.1/\p.1<=code.length/\J3 (code.take p.1.toNat) (H0 a)=((p.2.1,p.2.2.2.1,p.2.2.1),true),λp=>code.length-p.1.toNat,[(.box 384 1,900001,52,.user 0)]⟩
 |_=>⟨[],[.slot 88,.row 900002],[i64,ints],λp=>0<=p.1/\p.1<=out.length/\Q2 (J3 code (H0 a)).1.1 (out.take p.1.toNat)=(p.2.1,true),λp=>out.length-p.1.toNat,[(.box 384 2,900002,3,i64)]⟩
def M2 (c:RCode):Int:=
 if 16000<c.code.length then 3 else if J7 c=false then 2 else if (c.code.all λx=>x.kind !=0||D6 x.ins.to)=false then 5 else if (C3 c).2=false then 4 else 0
def cValid:Con RU:=con [(true,5)] bO1 [one] [i64] [false] (some λp=>-9223372036854775808<=p.2.1/\p.2.1<9223372036854775808/\U0 p.2.2.2.1=true/\p.2.2.2.2.1.length<=17592186044400) λp=>(M2 ⟨p.1,p.2.1,p.2.2.1,p.2.2.2.1,p.2.2.2.2.1⟩,())
def bS1 (code:List RIns):Nat->St RU->Ann RU:=λk s=>match k with
 |0=>⟨[],[.slot 19],[i64],λp=>0<=p.1/\p.1<=code.length/\((code.take p.1.toNat).all λx=>x.kind !=0||D6 x.ins.to)=true,λp=>code.length-p.1.toNat,[]⟩
 |_=>⟨[],[.slot 27],[i64],λp=>0<=p.1/\p.1<=(code.getD (s.intAt 19).toNat rins0).ins.to.length/\((code.getD (s.intAt 19).toNat rins0).kind≠0\/D6 ((code.getD (s.intAt 19).toNat rins0).ins.to.take p.1.toNat)=true),λp=>(code.getD (s.intAt 19).toNat rins0).ins.to.length-p.1.toNat,[]⟩
def J8 (a:Int) (l:List Ins):Int:=l.foldl (λn x=>n+x.to.length) a
def M5 (c:RCode):VFun×Int:=
 if M2 c≠0 then (bB9,M2 c) else if 4000<J8 c.params (C3 c).1.code\/4000<(C3 c).1.code.length then (bB9,9) else ((C3 c).1,0)
def cBack:Con RU:=con [(true,5)] bO1 [(true,4),one] [i64,inss,ints,ints,i64] [false,false,false,false,false] (some λp=>-9223372036854775808<=p.2.1/\p.2.1<9223372036854775808/\U0 p.2.2.2.1=true/\p.2.2.2.2.1.length<=17592186044400) λp=>
 ((M5 ⟨p.1,p.2.1,p.2.2.1,p.2.2.2.1,p.2.2.2.2.1⟩).1.params,(M5 ⟨p.1,p.2.1,p.2.2.1,p.2.2.2.1,p.2.2.2.2.1⟩).1.code,(M5 ⟨p.1,p.2.1,p.2.2.1,p.2.2.2.1,p.2.2.2.2.1⟩).1.out,(M5 ⟨p.1,p.2.1,p.2.2.1,p.2.2.2.1,p.2.2.2.2.1⟩).1.at_,(M5 ⟨p.1,p.2.1,p.2.2.1,p.2.2.2.1,p.2.2.2.2.1⟩).2,())
def cm5 (a:Int) (code:List Ins):Nat->St RU->Ann RU:=λk s=>⟨[],[.slot 26,.slot 7],[i64,i64],λp=>0<=p.1/\p.1<=code.length/\p.2.1=J8 a (code.take p.1.toNat),λp=>code.length-p.1.toNat,[]⟩
theorem bS2 (a b c:Int) (code:List RIns) (out:List Place):vc (EV [(78,cAll 89 tysP objP [0] isP),(73,cCalledF)]) (bq3 a code out) Go.Proofs.Tryd.f58 cFollow (a,b,c,code,out,())=(
 let s:Int×List Ins×List Int×List Int×Bool×Unit:=
  ((C3 (RCode.mk a b c code out)).1.params,(C3 (RCode.mk a b c code out)).1.code,(C3 (RCode.mk a b c code out)).1.out,(C3 (RCode.mk a b c code out)).1.at_,
  (C3 (RCode.mk a b c code out)).2,());
 let f:Int:=(↑(List.length code):Int);
 let e:RIns:=RIns.mk (0:Int) (0:Int) (0:Int) ins0;
 let i:Int:=(↑(List.length out):Int);
 let h:Place:=Place.mk false (0:Int);
  Small RU (Sigma.mk (Ty.slice (55:Nat) (Ty.user (1:Nat))) code)->
  Small RU (Sigma.mk (Ty.slice (59:Nat) (Ty.user (2:Nat))) out)->
  (∃ (p:Int×List (Place×Int)×Unit),
  a=a/\
  b=b/\
  c=c/\
  code=code/\
  out=out/\
  false=false/\
  a=a/\
  (0:Int)=p.1/\
  a=a/\b=b/\c=c/\code=code/\out=out/\(0:Int)=(0:Int)/\[]=p.2.1/\(0:Int)<=p.1/\p.1<=a/\p.2.1=N7 (Int.toNat p.1))/\
  ∀ (p:Int×List (Place×Int)×Unit),
 let e0_1:Bool:=decide (p.1<a);
 let e1_1:Int:=p.1;
 let e2_1:List (Place×Int):=p.2.1;
  (0:Int)<=e1_1/\e1_1<=a/\e2_1=N7 (Int.toNat e1_1)->
  (e0_1=true->
  ∃ (p':Int×List (Place×Int)×Unit),
  a=a/\
  b=b/\
  c=c/\
  code=code/\
  out=out/\
  false=false/\
  a=a/\
  IntKind.i64.wrap (e1_1+(1:Int))=p'.1/\
  a=a/\
  b=b/\
  c=c/\
  code=code/\
  out=out/\
  (0:Int)=(0:Int)/\
  mput (F6 RU (Ty.user (2:Nat))) e2_1 (Place.mk true e1_1) e1_1=p'.2.1/\
  ((0:Int)<=p'.1/\p'.1<=a/\p'.2.1=N7 (Int.toNat p'.1))/\Int.toNat a-Int.toNat p'.1<Int.toNat a-Int.toNat e1_1)/\
  (e0_1=false->
  (∃ (p:Int×List (Place×Int)×Int×List Ins×Unit),
  a=a/\
  b=b/\
  c=c/\
  code=code/\
  out=out/\
  a=a/\
  e1_1=e1_1/\
  e0_1=e0_1/\
  code=code/\
  f=f/\
  (0:Int)=p.1/\
  a=a/\
  b=b/\
  c=c/\
  code=code/\
  out=out/\
  (0:Int)=(0:Int)/\
  e2_1=p.2.1/\
  a=a/\
  a=p.2.2.1/\
  []=p.2.2.2.1/\
  (0:Int)<=p.1/\
  p.1<=f/\J3 (List.take (Int.toNat p.1) code) (H0 a)=((p.2.1,p.2.2.2.1,p.2.2.1),true))/\
  ∀ (p:Int×List (Place×Int)×Int×List Ins×Unit),
 let e0_2:Bool:=(List.getD code (Int.toNat p.1) e).kind==(2:Int);
 let e1_2:List Ins:=
  [Ins.mk (bif e0_2 then (List.getD code (Int.toNat p.1) e).ins.op else (List.getD code (Int.toNat p.1) e).ins.op)
  (bif e0_2 then (List.getD code (Int.toNat p.1) e).ins.n else (List.getD code (Int.toNat p.1) e).ins.n)
  (G1 (bif e0_2 then p.2.2.1 else p.2.2.1) (bif e0_2 then p.2.1 else p.2.1)
  (bif e0_2 then (List.getD code (Int.toNat p.1) e).ins.to else (List.getD code (Int.toNat p.1) e).ins.to)).1
  (List.map (getF (bif e0_2 then p.2.1 else p.2.1)) (bif e0_2 then (List.getD code (Int.toNat p.1) e).ins.from_ else (List.getD code (Int.toNat p.1) e).ins.from_))
  (bif e0_2 then (List.getD code (Int.toNat p.1) e).ins.body else (List.getD code (Int.toNat p.1) e).ins.body)];
 let e2_2:List Ins:=bif e0_2 then p.2.2.2.1 else p.2.2.2.1;
 let e3_1:List (Place×Int):=bif e0_2 then p.2.1 else p.2.1;
 let e4_1:Int:=bif e0_2 then p.2.2.1 else p.2.2.1;
 let j:List Ins:=p.2.2.2.1;
 let k:List (Place×Int):=p.2.1;
 let l:Bool:=decide (p.1<f);
 let d:Int:=p.1;
 let m:Int:=p.2.2.1;
 let n:Bool:=
  !Option.isSome
  (mget (F6 RU (Ty.user (2:Nat))) e3_1
  (Place.mk (bif e0_2 then false else true) (bif e0_2 then (List.getD code (Int.toNat d) e).slot else (List.getD code (Int.toNat d) e).cell)));
 let o:Int×List (Place×Int):=(G1 e4_1 e3_1 (bif e0_2 then (List.getD code (Int.toNat d) e).ins.to else (List.getD code (Int.toNat d) e).ins.to)).2;
 let q:Bool:=!List.all (bif e0_2 then (List.getD code (Int.toNat d) e).ins.from_ else (List.getD code (Int.toNat d) e).ins.from_) (isP (e3_1,()));
 let r:Bool:=(bif e0_2 then (List.getD code (Int.toNat d) e).kind else (List.getD code (Int.toNat d) e).kind) !=(0:Int);
 let g:Ins:=(List.getD code (Int.toNat d) e).ins;
  (0:Int)<=d/\d<=f/\J3 (List.take (Int.toNat d) code) (H0 a)=((k,j,m),true)->
  (l=true->
  ((0:Int)<=d/\d<f)/\
  (r=true->
  (n=true->(bif e0_2 then a else a,e2_2,[],[],false,())=s)/\
  (n=false->
  ∃ (p':Int×List (Place×Int)×Int×List Ins×Unit),
  (bif e0_2 then a else a)=a/\
  (bif e0_2 then b else b)=b/\
  (bif e0_2 then c else c)=c/\
  (bif e0_2 then code else code)=code/\
  (bif e0_2 then out else out)=out/\
  (bif e0_2 then a else a)=a/\
  (bif e0_2 then e1_1 else e1_1)=e1_1/\
  (bif e0_2 then e0_1 else e0_1)=e0_1/\
  (bif e0_2 then code else code)=code/\
  (bif e0_2 then f else f)=f/\
  IntKind.i64.wrap ((bif e0_2 then d else d)+(1:Int))=p'.1/\
  (bif e0_2 then a else a)=a/\
  (bif e0_2 then b else b)=b/\
  (bif e0_2 then c else c)=c/\
  (bif e0_2 then code else code)=code/\
  (bif e0_2 then out else out)=out/\
  (bif e0_2 then (0:Int) else (0:Int))=(0:Int)/\
  mput (F6 RU (Ty.user (2:Nat))) e3_1
  (Place.mk (bif e0_2 then true else false)
  (bif e0_2 then (List.getD code (Int.toNat d) e).cell else (List.getD code (Int.toNat d) e).slot))
  (Option.getD
  (mget (F6 RU (Ty.user (2:Nat))) e3_1
  (Place.mk (bif e0_2 then false else true)
  (bif e0_2 then (List.getD code (Int.toNat d) e).slot else (List.getD code (Int.toNat d) e).cell)))
  (0:Int))=
  p'.2.1/\
  (bif e0_2 then a else a)=a/\
  e4_1=p'.2.2.1/\
  e2_2=p'.2.2.2.1/\
  ((0:Int)<=p'.1/\
  p'.1<=f/\
  J3 (List.take (Int.toNat p'.1) code) (H0 a)=((p'.2.1,p'.2.2.2.1,p'.2.2.1),true))/\
  List.length code-Int.toNat p'.1<List.length code-Int.toNat d))/\
  (r=false->
  (True/\e3_1=e3_1/\True)/\
  (q=true->(bif e0_2 then a else a,e2_2,[],[],false,())=s)/\
  (q=false->
  ((X4 (bif e0_2 then g.to else g.to) (bif e0_2 then g.from_ else g.from_) (bif e0_2 then g.body else g.body)=true/\
  (0:Int)<=e4_1/\e4_1<=(2305843009213693952:Int))/\
  True)/\
  (List.length e2_2+List.length e1_2)*(88:Nat)<=(140737488355328:Nat)/\
  ∃ (p':Int×List (Place×Int)×Int×List Ins×Unit),
  (bif e0_2 then a else a)=a/\
  (bif e0_2 then b else b)=b/\
  (bif e0_2 then c else c)=c/\
  (bif e0_2 then code else code)=code/\
  (bif e0_2 then out else out)=out/\
  (bif e0_2 then a else a)=a/\
  (bif e0_2 then e1_1 else e1_1)=e1_1/\
  (bif e0_2 then e0_1 else e0_1)=e0_1/\
  (bif e0_2 then code else code)=code/\
  (bif e0_2 then f else f)=f/\
  IntKind.i64.wrap ((bif e0_2 then d else d)+(1:Int))=p'.1/\
  (bif e0_2 then a else a)=a/\
  (bif e0_2 then b else b)=b/\
  (bif e0_2 then c else c)=c/\
  (bif e0_2 then code else code)=code/\
  (bif e0_2 then out else out)=out/\
  (bif e0_2 then (0:Int) else (0:Int))=(0:Int)/\
  o.2=p'.2.1/\
  (bif e0_2 then a else a)=a/\
  o.1=p'.2.2.1/\
  e2_2++e1_2=p'.2.2.2.1/\
  ((0:Int)<=p'.1/\
  p'.1<=f/\
  J3 (List.take (Int.toNat p'.1) code) (H0 a)=
  ((p'.2.1,p'.2.2.2.1,p'.2.2.1),true))/\
  List.length code-Int.toNat p'.1<List.length code-Int.toNat d)))/\
  (l=false->
  (∃ (p:Int×List Int×Unit),
  a=a/\
  b=b/\
  c=c/\
  code=code/\
  out=out/\
  a=a/\
  e1_1=e1_1/\
  e0_1=e0_1/\
  code=code/\
  f=f/\
  d=d/\
  l=l/\
  out=out/\
  i=i/\
  (0:Int)=p.1/\
  a=a/\
  b=b/\
  c=c/\
  code=code/\
  out=out/\
  (0:Int)=(0:Int)/\
  k=k/\
  a=a/\
  m=m/\
  j=j/\
  []=p.2.1/\
  (0:Int)<=p.1/\
  p.1<=i/\Q2 (J3 code (H0 a)).1.1 (List.take (Int.toNat p.1) out)=(p.2.1,true))/\
  ∀ (p:Int×List Int×Unit),
 let e0_3:List Int:=
  [Option.getD (mget (F6 RU (Ty.user (2:Nat))) k (Place.mk (List.getD out (Int.toNat p.1) h).cell (List.getD out (Int.toNat p.1) h).n)) (0:Int)];
 let e1_3:List Int:=p.2.1;
 let e:Bool:=!Option.isSome (mget (F6 RU (Ty.user (2:Nat))) k (Place.mk (List.getD out (Int.toNat p.1) h).cell (List.getD out (Int.toNat p.1) h).n));
 let e3_2:Bool:=decide (p.1<i);
 let h:Int:=p.1;
 let e5_1:List (Place×Int):=(J3 code (H0 a)).1.1;
  (0:Int)<=h/\h<=i/\Q2 e5_1 (List.take (Int.toNat h) out)=(e1_3,true)->
  (e3_2=true->
  ((0:Int)<=h/\h<i)/\
  (e=true->(a,j,e1_3,[],false,())=s)/\
  (e=false->
  (List.length e1_3+List.length e0_3)*(8:Nat)<=(140737488355328:Nat)/\
  ∃ (p':Int×List Int×Unit),
  a=a/\
  b=b/\
  c=c/\
  code=code/\
  out=out/\
  a=a/\
  e1_1=e1_1/\
  e0_1=e0_1/\
  code=code/\
  f=f/\
  d=d/\
  l=l/\
  out=out/\
  i=i/\
  IntKind.i64.wrap (h+(1:Int))=p'.1/\
  a=a/\
  b=b/\
  c=c/\
  code=code/\
  out=out/\
  (0:Int)=(0:Int)/\
  k=k/\
  a=a/\
  m=m/\
  j=j/\
  e1_3++e0_3=p'.2.1/\
  ((0:Int)<=p'.1/\
  p'.1<=i/\Q2 e5_1 (List.take (Int.toNat p'.1) out)=(p'.2.1,true))/\
  List.length out-Int.toNat p'.1<List.length out-Int.toNat h))/\
  (e3_2=false->(a,j,e1_3,[],true,())=s)))):=by kernel_rfl
theorem cc5 (a b c:Int) (code:List RIns) (out:List Place):vc (EV [(60,cShaped),(61,cContains),(58,cFollow)]) (bS1 code) Go.Proofs.Tryd.f22 cValid (a,b,c,code,out,())=(
 let f:Bool:=decide ((↑(List.length code):Int) >(16000:Int));
 let e:RIns:=RIns.mk (0:Int) (0:Int) (0:Int) ins0;
 let h:Int×Unit:=(M2 (RCode.mk a b c code out),());
 let d:Int:=(↑(List.length code):Int);
 let g:Bool:=!J7 (RCode.mk a b c code out);
  Small RU (Sigma.mk (Ty.slice (55:Nat) (Ty.user (1:Nat))) code)->
  Small RU (Sigma.mk (Ty.slice (59:Nat) (Ty.user (2:Nat))) out)->
  (f=true->((3:Int),())=h)/\
  (f=false->
  ((-9223372036854775808:Int)<=b/\b<(9223372036854775808:Int))/\
  (g=true->((2:Int),())=h)/\
  (g=false->
  (∃ (p:Int×Unit),
  a=a/\
  b=b/\
  c=c/\
  code=code/\
  out=out/\
  f=f/\
  g=g/\
  code=code/\
  d=d/\
  (0:Int)=p.1/\
  a=a/\
  b=b/\
  c=c/\
  code=code/\
  out=out/\
  (0:Int)<=p.1/\p.1<=d/\(List.all (List.take (Int.toNat p.1) code) λ(x:RIns)=>x.kind !=(0:Int)||D6 x.ins.to)=true)/\
  ∀ (p:Int×Unit),
 let e0_1:Bool:=decide (p.1<d);
 let e1_1:Int:=(↑(List.length (List.getD code (Int.toNat p.1) e).ins.to):Int);
 let e2_1:Ins:=(List.getD code (Int.toNat p.1) e).ins;
 let e3_1:Nat:=List.length (List.getD code (Int.toNat p.1) rins0).ins.to;
 let e4_1:Int:=(List.getD code (Int.toNat p.1) e).kind;
  (0:Int)<=p.1/\p.1<=d/\(List.all (List.take (Int.toNat p.1) code) λ(x:RIns)=>x.kind !=(0:Int)||D6 x.ins.to)=true->
  (e0_1=true->
  ((0:Int)<=p.1/\p.1<d)/\
  (∃ (p_1:Int×Unit),
  a=a/\
  b=b/\
  c=c/\
  code=code/\
  out=out/\
  f=f/\
  g=g/\
  code=code/\
  d=d/\
  p.1=p.1/\
  e0_1=e0_1/\
  e2_1.to=e2_1.to/\
  e1_1=e1_1/\
  (0:Int)=p_1.1/\
  a=a/\
  b=b/\
  c=c/\
  code=code/\
  out=out/\
  e4_1=e4_1/\
  (List.getD code (Int.toNat p.1) e).slot=(List.getD code (Int.toNat p.1) e).slot/\
  (List.getD code (Int.toNat p.1) e).cell=(List.getD code (Int.toNat p.1) e).cell/\
  e2_1.op=e2_1.op/\
  e2_1.n=e2_1.n/\
  e2_1.to=e2_1.to/\
  e2_1.from_=e2_1.from_/\
  e2_1.body=e2_1.body/\
  (0:Int)<=p_1.1/\
  p_1.1<=(↑e3_1:Int)/\
  ((List.getD code (Int.toNat p.1) rins0).kind≠(0:Int)\/
  D6 (List.take (Int.toNat p_1.1) (List.getD code (Int.toNat p.1) rins0).ins.to)=true))/\
  ∀ (p_1:Int×Unit),
 let e0_2:Bool:=e4_1==(0:Int)&&List.contains (List.take (Int.toNat p_1.1) e2_1.to) (List.getD e2_1.to (Int.toNat p_1.1) (0:Int));
 let e1_2:Bool:=decide (p_1.1<e1_1);
  (0:Int)<=p_1.1/\
  p_1.1<=(↑e3_1:Int)/\
  ((List.getD code (Int.toNat p.1) rins0).kind≠(0:Int)\/D6 (List.take (Int.toNat p_1.1) (List.getD code (Int.toNat p.1) rins0).ins.to)=true)->
  (e1_2=true->
  ((0:Int)<=p_1.1/\p_1.1<e1_1)/\
  ((e4_1==(0:Int))=true->(0:Int)<=p_1.1/\p_1.1<=e1_1)/\
  (e0_2=true->((5:Int),())=h)/\
  (e0_2=false->
  ∃ (p':Int×Unit),
  a=a/\
  b=b/\
  c=c/\
  code=code/\
  out=out/\
  f=f/\
  g=g/\
  code=code/\
  d=d/\
  p.1=p.1/\
  e0_1=e0_1/\
  e2_1.to=e2_1.to/\
  e1_1=e1_1/\
  IntKind.i64.wrap (p_1.1+(1:Int))=p'.1/\
  a=a/\
  b=b/\
  c=c/\
  code=code/\
  out=out/\
  e4_1=e4_1/\
  (List.getD code (Int.toNat p.1) e).slot=(List.getD code (Int.toNat p.1) e).slot/\
  (List.getD code (Int.toNat p.1) e).cell=(List.getD code (Int.toNat p.1) e).cell/\
  e2_1.op=e2_1.op/\
  e2_1.n=e2_1.n/\
  e2_1.to=e2_1.to/\
  e2_1.from_=e2_1.from_/\
  e2_1.body=e2_1.body/\
  ((0:Int)<=p'.1/\
  p'.1<=(↑e3_1:Int)/\
  ((List.getD code (Int.toNat p.1) rins0).kind≠(0:Int)\/
  D6 (List.take (Int.toNat p'.1) (List.getD code (Int.toNat p.1) rins0).ins.to)=
  true))/\
  e3_1-Int.toNat p'.1<e3_1-Int.toNat p_1.1))/\
  (e1_2=false->
  ∃ (p':Int×Unit),
  a=a/\
  b=b/\
  c=c/\
  code=code/\
  out=out/\
  f=f/\
  g=g/\
  code=code/\
  d=d/\
  IntKind.i64.wrap (p.1+(1:Int))=p'.1/\
  a=a/\
  b=b/\
  c=c/\
  code=code/\
  out=out/\
  ((0:Int)<=p'.1/\
  p'.1<=d/\
  (List.all (List.take (Int.toNat p'.1) code) λ(x:RIns)=>x.kind !=(0:Int)||D6 x.ins.to)=true)/\
  List.length code-Int.toNat p'.1<List.length code-Int.toNat p.1))/\
  (e0_1=false->
  ((0:Int)<=a/\a<=(4000:Int)/\List.length code<=(16000:Nat)/\U0 code=true/\List.length out<=(17592186044400:Nat))/\
  ((!(C3 (RCode.mk a b c code out)).2)=true->((4:Int),())=h)/\((!(C3 (RCode.mk a b c code out)).2)=false->((0:Int),())=h))))):=by kernel_rfl
theorem cm6 (a b c:Int) (code:List RIns) (out:List Place):vc (EV [(22,cValid),(58,cFollow)]) (cm5 a (C3 ⟨a,b,c,code,out⟩).1.code) Go.Proofs.Tryd.f20 cBack (a,b,c,code,out,())=(
 let k:Int×List Ins×List Int×List Int×Int×Unit:=
  ((M5 (RCode.mk a b c code out)).1.params,(M5 (RCode.mk a b c code out)).1.code,(M5 (RCode.mk a b c code out)).1.out,(M5 (RCode.mk a b c code out)).1.at_,
  (M5 (RCode.mk a b c code out)).2,());
 let e:Int:=(↑(List.length (C3 (RCode.mk a b c code out)).1.code):Int);
 let d:List Ins:=(C3 (RCode.mk a b c code out)).1.code;
 let f:Bool:=M2 (RCode.mk a b c code out) !=(0:Int);
 let g:Int:=(C3 (RCode.mk a b c code out)).1.params;
 let h:List Int:=(C3 (RCode.mk a b c code out)).1.at_;
 let i:List Int:=(C3 (RCode.mk a b c code out)).1.out;
 let j:Int:=M2 (RCode.mk a b c code out);
  Small RU (Sigma.mk (Ty.slice (55:Nat) (Ty.user (1:Nat))) code)->
  Small RU (Sigma.mk (Ty.slice (59:Nat) (Ty.user (2:Nat))) out)->
  ((-9223372036854775808:Int)<=b/\b<(9223372036854775808:Int)/\U0 code=true/\List.length out<=(17592186044400:Nat))/\
  (f=true->((0:Int),[],[],[],j,())=k)/\
  (f=false->
  ((0:Int)<=a/\a<=(4000:Int)/\List.length code<=(16000:Nat)/\U0 code=true/\List.length out<=(17592186044400:Nat))/\
  (∃ (p:Int×Int×Unit),
  a=a/\
  b=b/\
  c=c/\
  code=code/\
  out=out/\
  (0:Int)=(0:Int)/\
  j=j/\
  f=f/\
  d=d/\
  e=e/\
  (0:Int)=p.1/\
  g=p.2.1/\
  a=a/\
  b=b/\
  c=c/\
  code=code/\
  out=out/\
  (0:Int)=(0:Int)/\
  g=g/\d=d/\i=i/\h=h/\(0:Int)<=p.1/\p.1<=e/\p.2.1=J8 a (List.take (Int.toNat p.1) d))/\
  ∀ (p:Int×Int×Unit),
 let e0_1:Bool:=decide (p.2.1 >(4000:Int))||decide (e >(4000:Int));
 let e1_1:Bool:=decide (p.1<e);
 let e2_1:Int:=p.1;
  (0:Int)<=e2_1/\e2_1<=e/\p.2.1=J8 a (List.take (Int.toNat e2_1) d)->
  (e1_1=true->
  ((0:Int)<=e2_1/\e2_1<e)/\
  ∃ (p':Int×Int×Unit),
  a=a/\
  b=b/\
  c=c/\
  code=code/\
  out=out/\
  (0:Int)=(0:Int)/\
  j=j/\
  f=f/\
  d=d/\
  e=e/\
  IntKind.i64.wrap (e2_1+(1:Int))=p'.1/\
  IntKind.i64.wrap (p.2.1+(↑(List.length (List.getD d (Int.toNat e2_1) (Ins.mk (0:Int) (0:Int) [] [] [])).to):Int))=p'.2.1/\
  a=a/\
  b=b/\
  c=c/\
  code=code/\
  out=out/\
  (0:Int)=(0:Int)/\
  g=g/\
  d=d/\
  i=i/\
  h=h/\
  ((0:Int)<=p'.1/\p'.1<=e/\p'.2.1=J8 a (List.take (Int.toNat p'.1) d))/\
  List.length d-Int.toNat p'.1<List.length d-Int.toNat e2_1)/\
  (e1_1=false->(e0_1=true->((0:Int),[],[],[],(9:Int),())=k)/\(e0_1=false->(g,d,i,h,(0:Int),())=k)))):=by kernel_rfl
end Go.Rg
end
