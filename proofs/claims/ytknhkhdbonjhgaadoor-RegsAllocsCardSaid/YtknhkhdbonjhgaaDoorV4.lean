/-
What the last text of this claim uses: VtBr, RgSpec, RgBase, RgH, RgA, RgEq1, RgB, RgC, RgEq2, RgD, RgE, RgEq3, RgF, RgG, RgEq4, RgI, RgJ, RgEq5, RgK, RgL, RgM, RgN, RgO, RgP, RgEq6, RgQ, RgR, RgS, RgEq7, RgU, RgV, RgEq8, RgW, RgX, RgY, RgZ, RgAa, RgBa, RgEq11, RgBb, RgBc, RgEq12, RgBd, RgBe.
-/
import Derived.Test.YtknhkhdbonjhgaaDoorV3
import Derived.LaidMore
import Derived.OpenShut
import Derived.ProofKit
import Derived.Laws.Bits
import Derived.Test.YtknhkhdbonjhgaaDoorProg
import Derived.KernelRfl
set_option linter.unusedVariables false
set_option linter.unusedSimpArgs false
set_option maxRecDepth 100000
noncomputable section
section
namespace Go.VT
open Go.WideShapes Go.ChangeShapes
noncomputable section
variable {U:Univ} {H:Type} {enc:TypeId×Value->H} {P:Program} {w:World} {base:Nat} {sp:Nat->Bool} {held:Bool}
def bx6 (P:Program) (U:Univ) (L:List (TypeId×Ty)):Prop:=∀ t ty,(t,ty)∈L->match ty with
 | .int k=>P.underlying t=some (.int k)
 | .bool=>P.underlying t=some .bool
 | .slice e t'=>P.underlying t=some (.slice e)/\P.cellsOf e=szOf U t'/\0<P.cellsOf e/\0<P.bytesOf e/\(e,t')∈L
 | .user i=>∃ fs,P.underlying t=some (.struct fs)/\P.cellsOf t=(U.fields i).length/\
   ∀ (j:Nat) (ty':Ty),(U.fields i)[j]? =some ty'->∃ (q:Nat) (f:Field) (ty:Ty),fs[q]? =some f/\(f.type,ty)∈L/\f.offset<=j/\P.cellsOf f.type=szOf U ty/\f.offset+szOf U ty<=(U.fields i).length/\(tysE U ty)[j-f.offset]? =some ty'
 |_=>False
theorem bO7 {α:Type} {Q:Nat->α->Prop}:∀ (n:Nat),(∀ i,i<n->∃ x,Q i x)->∃ l:List α,l.length=n/\∀ i x,l[i]? =some x->Q i x
 |0,_=>⟨[],rfl,λi x h=>by simp at h⟩
 |n+1,h=>by
  obtain ⟨l,h1,h2⟩:=bO7 n (λi c=>h i (by omega));obtain ⟨x,d⟩:=h n (by omega);refine ⟨l++[x],by simp [h1],λi y a=>?_⟩;rw [List.getElem?_append] at a;split at a
  .exact h2 i y a
  .rename_i c;have b:i=n:=by
    have:=(cy1.1 a).1;simp at this;omega
   subst b;simp [h1] at a;subst a;exact d
theorem bn8:∀ (ts:List Ty) (Q:Nat->Datum U->Prop),(∀ (j:Nat) (ty:Ty),ts[j]? =some ty->∃ x:den U.T ty,Q j ⟨ty,x⟩)->∃ c:Dens U.T ts,∀ (j:Nat) (d:Datum U),(A8 U ts c)[j]? =some d->Q j d
 |[],Q,_=>⟨(),λj d h=>by simp [A8] at h⟩
 |t::ts,Q,h=>by
  obtain ⟨x,b⟩:=h 0 t rfl;obtain ⟨c,hc⟩:=bn8 ts (λj d=>Q (j+1) d) (λj ty e=>h (j+1) ty e);refine ⟨(x,c),λj d a=>?_⟩;cases j with
  |zero=>simp only [A8,cy5,cx6] at a;subst a;exact b
  |succ j=>exact hc j d (by simpa [A8] using a)
theorem ag4 {ty:Ty} (h:H1 ty=false) (x:den U.T ty):B6 U ty x=[⟨ty,x⟩]:=by
 cases ty<;>first|rfl|simp [H1] at h
theorem bn9 (U:Univ) (ty:Ty):(tysE U ty).length=szOf U ty:=by cases ty<;>rfl
theorem aI4:∀ (ts:List Ty) (c:Dens U.T ts) {j:Nat} {d:Datum U} {t:Ty},(A8 U ts c)[j]? =some d->ts[j]? =some t->d.1=t
 |[],_,j,d,t,h,_=>by simp [A8] at h
 |t0::ts,c,0,d,t,h,h2=>by simp only [A8,cy5,cx6] at h h2;rw [<-h,<-h2]
 |t0::ts,c,j+1,d,t,h,h2=>aI4 ts c.2 (j:=j) (by simpa [A8] using h) (by simpa using h2)
theorem bD3 (ty:Ty) (x:den U.T ty) {j:Nat} {d:Datum U} {t:Ty} (h:(B6 U ty x)[j]? =some d) (h2:(tysE U ty)[j]? =some t):d.1=t:=by
 cases a:H1 ty with
 |true=>
  cases ty with
  |user i=>exact aI4 _ _ h h2
  |_=>simp [H1] at a
 |false=>
  rw [ag4 a] at h;cases ty with
  |user i=>simp [H1] at a
  |_=>
   cases j with
   |zero=>simp only [tysE,cy5,cx6] at h h2;rw [<-h,<-h2]
   |succ j=>simp at h
theorem ao4 {e:TypeId}:∀ {ds:List (DataW H)} {d:DataW H} {n:Nat},d∈ds->n∈d.weights P e->n∈DataW.weightsAll P e ds
 |[],_,_,h,_=>by simp at h
 |x::r,d,n,h,a=>by
  simp only [DataW.weightsAll,cA4];rcases List.mem_cons.1 h with rfl|h
  .exact .inl a
  .exact .inr (ao4 h a)
theorem ag5:∀ {ts:List TypeId} {ds:List (DataW H)} {j:Nat} {t:TypeId} {d:DataW H} {n:Nat},ts[j]? =some t->ds[j]? =some d->n∈d.weights P t->n∈DataW.weightsEach P ts ds
 |[],_,_,_,_,_,h,_,_=>by simp at h
 |_::_,[],_,_,_,_,_,h,_=>by simp at h
 |t0::ts,b::ds,j,t,d,n,h1,h2,a=>by
  simp only [DataW.weightsEach,cA4];cases j with
  |zero=>simp only [cy5,cx6] at h1 h2;subst h1;subst h2;exact .inl a
  |succ j=>exact .inr (ag5 (by simpa using h1) (by simpa using h2) a)
theorem bO8 (g o i j:Nat):((⟨g,o,none⟩:Addr).add i).add j=⟨g,o+i+j,none⟩:=by unfold Addr.add;by_cases a:i=0<;>by_cases b:j=0<;>simp [a,b]
inductive Light (P:Program):Datum U->Prop
 |int (k:IntKind) (n:Int):Light P ⟨.int k,n⟩
 |bool (b:Bool):Light P ⟨.bool,b⟩
 |slice (e:TypeId) (t:Ty) (l:List (den U.T t)) (h:l.length*P.bytesOf e<=reachBytes) (hr:∀ x∈l,∀ d∈B6 U t x,Light P d):Light P ⟨.slice e t,l⟩
def RepW (P:Program) (w:World) (d:Datum U) (u:Value):Prop:=Rep U w (λ_=>False) d u/\Light P d
theorem as5 {L:List (TypeId×Ty)} (hL:bx6 P U L):∀ (fuel:Nat) {t:TypeId} {ty:Ty} {cs:List Value} {d:DataW H} {p:List MemPlace},(t,ty)∈L->DataW.trod enc P w base sp held fuel t cs=some (d,p)->
  (∀ n∈d.weights P t,n<=reachBytes)->∃ x:den U.T ty,cs.length=szOf U ty/\(∀ v∈cs,v.oneCell'=true)/\∀ (j:Nat) (dd:Datum U) (u:Value),(B6 U ty x)[j]? =some dd->cs[j]? =some u->RepW P w dd u
 |0,t,ty,cs,d,p,_,h,_=>by simp [DataW.trod] at h
 |fuel+1,t,ty,cs,d,p,hm,h,hw=>by
  have m:=hL t ty hm;have one:∀ {ty:Ty} {x:den U.T ty} {v:Value},H1 ty=false->RepW P w ⟨ty,x⟩ v->∀ (j:Nat) (dd:Datum U) (u:Value),(B6 U ty x)[j]? =some dd->[v][j]? =some u->RepW P w dd u:=by
   intro ty x v A hr j dd u h1 h2;rw [ag4 A] at h1;cases j with
   |zero=>simp only [cy5,cx6] at h1 h2;subst h1;subst h2;exact hr
   |succ j=>simp at h1
  cases ty with
  |int k=>obtain ⟨n,rfl,_,_⟩:=DataW.trod_int m h;exact ⟨n,rfl,by simp [Value.oneCell'],one rfl ⟨.int k n,.int k n⟩⟩
  |bool=>obtain ⟨b,rfl,_⟩:=DataW.trod_bool m h;exact ⟨b,rfl,by simp [Value.oneCell'],one rfl ⟨.bool b,.bool b⟩⟩
  |str=>exact m.elim
  |map _ _=>exact m.elim
  |ifc _=>exact m.elim
  |slice e t'=>
   obtain ⟨A,hc,hc0,hb0,hm'⟩:=m;rcases DataW.trod_slice A h with ⟨rfl,_⟩|⟨a,len,cap,elems,rest,n,hf,rfl,s,_,hl,_,y,D,_,_⟩
   .exact ⟨[],rfl,by simp [Value.oneCell'],one rfl ⟨.nil e t' none 0,.slice e t' [] (by simp [reachBytes]) (by simp)⟩⟩
   .have E:fuel=n:=by omega
    subst E;simp only [cy9] at s;obtain ⟨rfl,_⟩:=s;have hwl:elems.length<=most:=by
     have:=hw ((elems.length+rest.length)*P.bytesOf e) (by simp [DataW.weights,A]);have h1:(elems.length+rest.length)*1<=(elems.length+rest.length)*P.bytesOf e:=Nat.mul_le_mul_left _ hb0;simp only [reachBytes,most] at*
     omega
    have hwb:elems.length*P.bytesOf e<=reachBytes:=by have:=hw ((elems.length+rest.length)*P.bytesOf e) (by simp [DataW.weights,A]);exact Nat.le_trans (Nat.mul_le_mul_right _ (Nat.le_add_right _ _)) this
    have N:∀ i,i<len->∃ x:den U.T t',∃ cs',w.cells? base (a.add (i*szOf U t')) (szOf U t')=some cs'/\∀ (j:Nat) (dd:Datum U) (u:Value),(B6 U t' x)[j]? =some dd->cs'[j]? =some u->RepW P w dd u:=by
     intro i M;have h1:=D i M;rw [cx8 (by omega)] at h1;obtain ⟨cs',h2,h3⟩:=Option.bind_eq_some_iff.1 h1;rw [hc] at h2;obtain ⟨x,hx1,O,F⟩:=as5 hL fuel (d:=elems[i].1) (p:=elems[i].2) hm' h3 (λq hq=>hw q (by
      simp only [DataW.weights,A,List.mem_cons,cA4];exact .inr (.inl (ao4 (List.mem_map.2 ⟨elems[i],List.getElem_mem _,rfl⟩) hq))))
     exact ⟨x,cs',h2,F⟩
    obtain ⟨l,r,G⟩:=bO7 len N;refine ⟨l,rfl,by simp [Value.oneCell'],one rfl ?_⟩;cases l with
    |nil=>simp only [List.length_nil] at r;subst r;exact ⟨.nil e t' (some a) cap,.slice e t' [] (by simp [reachBytes]) (by simp)⟩
    |cons x0 l0=>
     have hcell:∀ i,i<len->∀ j,j<szOf U t'->∃ v,w.cell? ((a.add (i*szOf U t')).add j)=some v:=by intro i M j z;obtain ⟨x,s⟩:∃ x,(x0::l0)[i]? =some x:=⟨_,cx8 (by omega)⟩;obtain ⟨cs',h1,_⟩:=G i x s;obtain ⟨_,h2,h3⟩:=World.cells?_some h1;exact ⟨_,by rw [h3 j z];exact cx8 (by omega)⟩
     have Q:0<len:=by rw [<-r];simp
     obtain ⟨v0,R⟩:=hcell 0 Q 0 (by omega);obtain ⟨g,o,spot⟩:=a;have I:spot=none:=by simpa [Addr.add] using World.cell?_spot R
     subst I;have hg:g<w.heap.size:=by
      have:w.cell? ⟨g,o+0*szOf U t'+0,none⟩=some v0:=by simpa [Addr.add] using R
      unfold World.cell? at this;cases hh:w.heap[g]? with
      |none=>simp [hh] at this
      |some ob=>exact (cz5.1 hh).1
     have hli:Light P (U:=U) ⟨.slice e t',x0::l0⟩:=by
      refine .slice e t' _ (by rw [r,<-y];exact hwb) (λx s d J=>?_);obtain ⟨i,M⟩:=List.mem_iff_getElem?.1 s;obtain ⟨j,z⟩:=List.mem_iff_getElem?.1 J;have hil:i<len:=by rw [<-r];exact (cy1.1 M).1
      have hjs:j<szOf U t':=by rw [<-B5 U t' x];exact (cy1.1 z).1
      obtain ⟨cs',h1,h2⟩:=G i x M;obtain ⟨_,h3,h4⟩:=World.cells?_some h1;exact (h2 j d cs'[j] z (cx8 (by omega))).2
     rw [<-r];refine ⟨?_,hli⟩;refine .slice e t' (x0::l0) g o cap (λi j=>(w.cell? ⟨g,o+i*szOf U t'+j,none⟩).getD undef) (by simp) (by omega) (by omega) (λh=>h) hg (λi M j z=>?_) (λi x s j dd J=>?_)
     .obtain ⟨v,B⟩:=hcell i (by omega) j z;have B:w.cell? ⟨g,o+i*szOf U t'+j,none⟩=some v:=by rw [bO8] at B;exact B
      simp [B]
     .obtain ⟨cs',h1,h2⟩:=G i x s;obtain ⟨_,h3,h4⟩:=World.cells?_some h1;have z:j<szOf U t':=by rw [<-B5 U t' x];exact (cy1.1 J).1
      have h5:=h4 j z;have h6:w.cell? ⟨g,o+i*szOf U t'+j,none⟩=cs'[j]? :=by rw [bO8] at h5;exact h5
      refine (h2 j dd _ J ?_).1;rw [h6,cx8 (by omega)];rfl
  |user i=>
   obtain ⟨fs,A,hc,C⟩:=m;obtain ⟨xs,n,hf,s,y,hxl,D⟩:=DataW.trod_struct A h;have E:fuel=n:=by omega
   subst E;simp only [cy9] at s;obtain ⟨rfl,_⟩:=s;have z:∀ (j:Nat) (ty':Ty),(U.fields i)[j]? =some ty'->∃ x:den U.T ty',∃ v,cs[j]? =some v/\v.oneCell'=true/\RepW P w ⟨ty',x⟩ v:=by
    intro j ty' S;have V:j<(U.fields i).length:=(cy1.1 S).1;obtain ⟨q,f,ty,K,W,hoff,hsz,hend,X⟩:=C j ty' S;have hql:q<fs.size:=(cz5.1 K).1;have h1:=D q f K;rw [hsz,cx8 (by omega)] at h1;obtain ⟨v,B⟩:∃ v,cs[j]? =some v:=⟨_,cx8 (by omega)⟩;obtain ⟨x,hx1,O,F⟩:=as5 hL fuel (d:=xs[q].1) (p:=xs[q].2) W h1 (λn hn=>hw n (by
     simp only [DataW.weights,A];exact ag5 (j:=q) (by simp;exact ⟨f,by simpa using K,rfl⟩) (by simp;exact ⟨xs[q].2,cx8 (by omega)⟩) hn))
    have Y:j-f.offset<szOf U ty:=by have:=(cy1.1 X).1;rw [bn9] at this;exact this
    have Z:((cs.drop f.offset).take (szOf U ty))[j-f.offset]? =some v:=by rw [List.getElem?_take,if_pos Y,List.getElem?_drop,show f.offset+(j-f.offset)=j from by omega];exact B
    obtain ⟨dd,hdd⟩:∃ dd,(B6 U ty x)[j-f.offset]? =some dd:=⟨_,cx8 (by rw [B5];exact Y)⟩;have hdt:=bD3 ty x hdd X;obtain ⟨dt,dx⟩:=dd;dsimp only at hdt;subst hdt;exact ⟨dx,v,B,O v (List.mem_of_getElem? Z),F _ _ v hdd Z⟩
   obtain ⟨c,hcq⟩:=bn8 (U:=U) (U.fields i) (λj d=>∃ v,cs[j]? =some v/\v.oneCell'=true/\RepW P w d v) z;refine ⟨U.put i c,by rw [y,hc];rfl,λv B=>?_,λj dd u J hu'=>?_⟩
   .obtain ⟨j,hjv⟩:=List.mem_iff_getElem?.1 B;have V:j<(U.fields i).length:=by have:=(cy1.1 hjv).1;omega
    obtain ⟨x,v',h1,h2,_⟩:=z j _ (cx8 V);rw [hjv] at h1;simp only [cx6] at h1;rw [h1];exact h2
   .simp only [B6,U.get_put] at J;obtain ⟨v,h1,_,h3⟩:=hcq j dd J;rw [hu'] at h1;simp only [cx6] at h1;rw [h1];exact h3
def cb1 (P:Program) (U:Univ) (L:List (TypeId×Ty)) (t:TypeId) (agg:Bool) (tys:List Ty):Prop:=
 (agg=false/\∃ ty,tys=[ty]/\H1 ty=false/\(t,ty)∈L)\/
 (agg=true/\∃ fs,P.underlying t=some (.struct fs)/\P.cellsOf t=tys.length/\fs.size=tys.length/\
   ∀ (j:Nat) (f:Field) (ty':Ty),fs[j]? =some f->tys[j]? =some ty'->f.offset=j/\P.cellsOf f.type=1/\H1 ty'=false/\(f.type,ty')∈L)\/
 (agg=true/\∃ e,P.underlying t=some (.array tys.length e)/\P.cellsOf t=tys.length/\P.cellsOf e=1/\∀ (j:Nat) (ty':Ty),tys[j]? =some ty'->H1 ty'=false/\(e,ty')∈L)
def Reps (P:Program) (U:Univ) (w:World) (ds:List (Datum U)) (us:List Value):Prop:=us.length=ds.length/\(∀ u∈us,u.oneCell'=true)/\∀ (j:Nat) (d:Datum U) (u:Value),ds[j]? =some d->us[j]? =some u->RepW P w d u
theorem aQ3 {cs:List Value} {j:Nat} (h:j<cs.length):∃ v,cs[j]? =some v/\(cs.drop j).take 1=[v]:=by refine ⟨cs[j],cx8 h,?_⟩;rw [List.drop_eq_getElem_cons h];rfl
theorem aQ4 {cs:List Value} {tys:List Ty} (hl:cs.length=tys.length) (h:∀ (j:Nat) (ty':Ty),tys[j]? =some ty'->∃ x:den U.T ty',∃ v,cs[j]? =some v/\v.oneCell'=true/\RepW P w ⟨ty',x⟩ v):
  ∃ xs:Dens U.T tys,Reps P U w (A8 U tys xs) cs:=by
 obtain ⟨c,hc⟩:=bn8 (U:=U) tys (λj d=>∃ v,cs[j]? =some v/\v.oneCell'=true/\RepW P w d v) h;refine ⟨c,by rw [G4,hl],λv f=>?_,λj dd u g b=>?_⟩
 .obtain ⟨j,a⟩:=List.mem_iff_getElem?.1 f;have e:j<tys.length:=by have:=(cy1.1 a).1;omega
  obtain ⟨x,v',h1,h2,_⟩:=h j _ (cx8 e);rw [a] at h1;simp only [cx6] at h1;rw [h1];exact h2
 .obtain ⟨v,h1,_,h3⟩:=hc j dd g;rw [b] at h1;simp only [cx6] at h1;rw [h1];exact h3
theorem cl1 {L:List (TypeId×Ty)} (M:bx6 P U L) {t:TypeId} {agg:Bool} {tys:List Ty} (Z:cb1 P U L t agg tys) {v:Value} {d:DataW H} {p:List MemPlace} {r:Reach} {b0:Nat} (B:Value.okWide P w r b0 t v)
  (h:DataW.Trod enc P w base sp held t v d p) (N:∀ n∈d.weights P t,n<=reachBytes):∃ (xs:Dens U.T tys) (us:List Value),Reps P U w (A8 U tys xs) us/\(agg=false->us=[v])/\(agg=true->v=.agg us.toArray):=by
 obtain ⟨fuel,h⟩:=h;rcases Z with ⟨rfl,ty,rfl,y,hm⟩|⟨rfl,fs,y,hc,hfs,z⟩|⟨rfl,e,y,hc,O,Q⟩
 .have hcell:v.cells.toList=[v]:=by
   have g:=M t ty hm;cases ty with
   |int k=>obtain ⟨n,rfl⟩:=okWide_int g B;rfl
   |bool=>obtain ⟨n,rfl⟩:=okWide_bool g B;rfl
   |slice e t'=>obtain ⟨a,l,c,rfl⟩:=okWide_slice g.1 B;rfl
   |user i=>simp [H1] at y
   |str=>exact g.elim
   |map _ _=>exact g.elim
   |ifc _=>exact g.elim
  rw [hcell] at h;obtain ⟨x,h1,h2,h3⟩:=as5 M fuel hm h N;refine ⟨(x,()),[v],⟨rfl,h2,λj dd u hd R=>h3 j dd u ?_ R⟩,λ_=>rfl,λh=>by cases h⟩;rw [ag4 y];exact hd
 .obtain ⟨cs,rfl,S⟩:=okWide_struct y B;have h:DataW.trod enc P w base sp held fuel t cs.toList=some (d,p):=h;obtain ⟨xs,n,rfl,K,b,V,m⟩:=DataW.trod_struct y h;simp only [cy9] at K;obtain ⟨rfl,_⟩:=K;obtain ⟨c,C⟩:=aQ4 (U:=U) (w:=w) (cs:=cs.toList) (tys:=tys) (by rw [b,hc]) (λj ty' o=>by
   have A:j<tys.length:=(cy1.1 o).1;obtain ⟨f,D⟩:∃ f,fs[j]? =some f:=⟨_,cz4 (by omega)⟩;obtain ⟨ho,W,E,s⟩:=z j f ty' D o;have h1:=m j f D;rw [ho,W,cx8 (by omega)] at h1;obtain ⟨v,F,G⟩:=aQ3 (cs:=cs.toList) (j:=j) (by rw [b,hc];exact A);rw [G] at h1;obtain ⟨x,X,I,J⟩:=as5 M n (d:=xs[j].1) (p:=xs[j].2) s h1 (λq Y=>N q (by
    simp only [DataW.weights,y];exact ag5 (j:=j) (by simp;exact ⟨f,by simpa using D,rfl⟩) (by simp;exact ⟨xs[j].2,cx8 (by omega)⟩) Y))
   exact ⟨x,v,F,I v (by simp),J 0 ⟨ty',x⟩ v (by rw [ag4 E];rfl) rfl⟩)
  exact ⟨c,cs.toList,C,λh=>(by cases h),λ_=>by simp⟩
 .obtain ⟨cs,rfl,S⟩:∃ cs,v=.agg cs/\cs.size=P.cellsOf t:=by
   unfold Value.okWide at B;rw [y] at B;obtain ⟨cs,h1,h2,_⟩:=B;exact ⟨cs,h1,h2⟩
  have h:DataW.trod enc P w base sp held fuel t cs.toList=some (d,p):=h;obtain ⟨xs,n,rfl,K,b,V,m⟩:=DataW.trod_array y h;simp only [cy9] at K;obtain ⟨rfl,_⟩:=K;obtain ⟨c,C⟩:=aQ4 (U:=U) (w:=w) (cs:=cs.toList) (tys:=tys) (by rw [b,hc]) (λj ty' o=>by
   have A:j<tys.length:=(cy1.1 o).1;obtain ⟨E,s⟩:=Q j ty' o;have h1:=m j A;rw [O,Nat.mul_one,cx8 (by omega)] at h1;obtain ⟨v,F,G⟩:=aQ3 (cs:=cs.toList) (j:=j) (by rw [b,hc];exact A);rw [G] at h1;obtain ⟨x,X,I,J⟩:=as5 M n (d:=xs[j].1) (p:=xs[j].2) s h1 (λq Y=>N q (by
    simp only [DataW.weights,y];exact ao4 (List.mem_map.2 ⟨xs[j],List.getElem_mem _,rfl⟩) Y))
   exact ⟨x,v,F,I v (by simp),J 0 ⟨ty',x⟩ v (by rw [ag4 E];rfl) rfl⟩)
  exact ⟨c,cs.toList,C,λh=>(by cases h),λ_=>by simp⟩
abbrev ArgT:=TypeId×Bool×List Ty
def aW2 (A:List ArgT):List (Bool×Nat):=A.map λa=>(a.2.1,a.2.2.length)
def al5:List ArgT->List Ty
 |[]=>[]
 |a::r=>a.2.2++al5 r
def aW3:(a:List Ty)->{b:List Ty}->Dens U.T a->Dens U.T b->Dens U.T (a++b)
 |[],_,_,y=>y
 |_::a,_,x,y=>(x.1,aW3 a x.2 y)
theorem aQ5:∀ (a:List Ty) {b:List Ty} (x:Dens U.T a) (y:Dens U.T b),A8 U (a++b) (aW3 a x y)=A8 U a x++A8 U b y
 |[],_,_,_=>rfl
 |t::a,b,x,y=>by show _::A8 U (a++b) (aW3 a x.2 y)=_;rw [aQ5 a x.2 y];rfl
theorem Reps.app {c e:List (Datum U)} {f g:List Value} (h1:Reps P U w c f) (h2:Reps P U w e g):Reps P U w (c++e) (f++g):=by
 obtain ⟨h,i,k⟩:=h1;obtain ⟨l,m,n⟩:=h2;refine ⟨by simp [h,l],λu a=>(cA4.1 a).elim (i u) (m u),λj d u b a=>?_⟩;by_cases o:j<c.length
 .rw [cz7 o] at b;rw [cz7 (by omega)] at a;exact k j d u b a
 .rw [cz6 (by omega)] at b;rw [cz6 (by omega)] at a;exact n _ d u b (by rw [<-h];exact a)
theorem bx7 {L:List (TypeId×Ty)} (k:bx6 P U L) {r:Reach} {x:Nat}:∀ {A:List ArgT} {vs:List Value} {ds:List (DataW H)} {ps:List MemPlace},(∀ a∈A,cb1 P U L a.1 a.2.1 a.2.2)->
  (∀ (j:Nat) (t:TypeId) (v:Value),(A.map (·.1))[j]? =some t->vs[j]? =some v->Value.okWide P w r x t v)->DataW.TrodAll enc P w base sp held (A.map (·.1)) vs ds ps->
  (∀ n∈DataW.weightsEach P (A.map (·.1)) ds,n<=reachBytes)->∃ (xs:Dens U.T (al5 A)) (us:List Value),Reps P U w (A8 U (al5 A) xs) us/\K9 (aW2 A) us vs
 |[],vs,ds,ps,_,_,h,_=>by cases vs<;>cases ds<;>simp [DataW.TrodAll] at h;exact ⟨(),[],⟨rfl,by simp,λj d u y=>by simp [A8,al5] at y⟩,rfl,rfl⟩
 |a::A,vs,ds,ps,l,m,h,o=>by
  cases vs with
  |nil=>cases ds<;>simp [DataW.TrodAll] at h
  |cons v vs=>
   cases ds with
   |nil=>simp [DataW.TrodAll] at h
   |cons d ds=>
    obtain ⟨p,q,h1,h2,_⟩:=h;obtain ⟨z,e,r1,B,C⟩:=cl1 k (l a (by simp)) (m 0 _ v rfl rfl) h1 (λn f=>o n (by simp only [List.map_cons,DataW.weightsEach,cA4];exact .inl f));obtain ⟨D,g,E,s⟩:=bx7 k (A:=A) (λb F=>l b (by simp [F])) (λj t v' G i=>m (j+1) t v' (by simpa using G) (by simpa using i)) h2 (λn f=>o n (by simp only [List.map_cons,DataW.weightsEach,cA4];exact .inr f));refine ⟨aW3 a.2.2 z D,e++g,?_,?_⟩
    .show Reps P U w (A8 U (a.2.2++al5 A) _) _;rw [aQ5];exact r1.app E
    .obtain ⟨t,ag,tys⟩:=a;have c:e.length=tys.length:=by rw [r1.1,G4]
     cases ag with
     |true=>exact ⟨e,g,v,vs,rfl,c,C rfl,rfl,s⟩
     |false=>have I:=B rfl;subst I;exact ⟨v,g,vs,rfl,by simpa using c.symm,rfl,s⟩
theorem Reps.light {ds:List (Datum U)} {us:List Value} (h:Reps P U w ds us):∀ d∈ds,Light P d:=by intro d b;obtain ⟨j,a⟩:=List.mem_iff_getElem?.1 b;have c:=(cy1.1 a).1;have h1:=h.1;exact (h.2.2 j d us[j] a (cx8 (by omega))).2
theorem bO9 {G:List (Nat×Glob)} {f:FuncId} {A:List ArgT} {pre:Option (Dens U.T (al5 A)->Prop)}
  (hg:D0 P G f (Con.flat (U:=U) (aW2 A) (al5 A) [(false,1)] [.bool] [false] pre λ_=>(true,())))
  (a:∀ g fs,(g,fs)∈G->g<w.heap.size/\∀ i f,fs.cell i=some f->w.cell? ⟨g,i,none⟩=some f)
  {xs:Dens U.T (al5 A)} {us vs:List Value} (hr:Reps P U w (A8 U (al5 A) xs) us) (L:K9 (aW2 A) us vs) (m:holds (pre.map λp=>p xs)):
  Calls P f vs.toArray w λe w'=>e=.returned (.bool true)/\Go.RowKit.Below w.heap.size w w':=by
 let F:Fr:=⟨w.heap.size,w,λ_=>False,λ_=>False,λ_=>none,G⟩
 let β:Nm:=⟨λ_=>undef,λ_=>False,λ_=>default⟩
 have x:Ok F w β (F3 (A8 U (al5 A) xs) ([]:List OPat)):=
  ⟨Go.RowKit.Below.refl _ _,Nat.le_refl _,λid o hl=>by simp [F3,iOs,look] at hl,λid o _ _ _ hl=>by simp [F3,iOs,look] at hl,λ_ _ _=>rfl,λid o _ hl=>by simp [F3,iOs,look] at hl,λid o _ hl=>by simp [F3,iOs,look] at hl,
   λ_ h=>h.elim,rfl,λid o _ hl=>by simp [F3,iOs,look] at hl,λid v h=>(by cases h),λg fs hm=>⟨(a g fs hm).1,λh=>h,(a g fs hm).2⟩⟩
 have d:∀ b,Live β (F3 (A8 U (al5 A) xs) ([]:List OPat)) b->False:=by
  rintro b (h|⟨id,o,h,_⟩)
  .exact h
  .simp [F3,iOs,look] at h
 obtain ⟨n,y,z⟩:=hr;have B:CsRel w β (F3 (A8 U (al5 A) xs) ([]:List OPat)) ((ad0 0 (al5 A).length).map (iC (A8 U (al5 A) xs) oid (λ_=>0))) us:=by
  refine ⟨by simp [ag3,n,G4],y,λj c u q H=>?_⟩;have s:j<(al5 A).length:=by have:=(cy1.1 H).1;rw [n,G4] at this;exact this
  simp only [cz2,az2 s,Option.map_some,cx6,Nat.zero_add] at q;obtain ⟨dd,I⟩:∃ dd,(A8 U (al5 A) xs)[j]? =some dd:=⟨_,cx8 (by rw [G4];exact s)⟩;simp only [iC,I] at q;subst q;exact (z j dd u I H).1.mono (Nat.le_refl _) (λ_ _ _=>rfl) (λb _ C=>d b C)
 have l:=(hg F).2 xs m F (λh=>absurd rfl h) β w us vs rfl rfl x (λj p q=>by simp [Con.flat] at q) (λid v h=>by cases h) B L;refine (CallsIn.calls (F:=fen P none) l (λk=>by simp [Fence.room,fen])).mono λe w' D=>?_;cases e with
 |panicked ch=>obtain ⟨b,u,C,_⟩:=D;cases C
 |outgrown=>exact D.elim
 |returned v=>
  obtain ⟨_,β',rs,K,t,E⟩:=D;refine ⟨?_,K.bel⟩;obtain ⟨c,r,vs',M,_,J,N,O⟩:=t;subst M;subst N;subst O;simp only [List.cons.injEq] at J;obtain ⟨rfl,_⟩:=J;have h0:Rep U w' (Live β' (F3 (A8 U [.bool] (true,())) (bx5 [false] 0))) (⟨.bool,true⟩:Datum U) v:=E.2.2 0 _ _ rfl rfl;have:v=.bool true:=by cases h0;rfl
  rw [this]
end
end Go.VT
end
section
namespace Go.Rg
open Go
structure Ins where
 op:Int
 n:Int
 to:List Int
 from_:List Int
 body:List Ins
structure RIns where
 kind:Int
 slot:Int
 cell:Int
 ins:Ins
structure Place where
 cell:Bool
 n:Int
 deriving DecidableEq
structure Span where
 first:Int
 last:Int
 deriving DecidableEq
structure Held where
 slot:Int
 reg:Int
 next:Int
 deriving DecidableEq
structure VFun where
 params:Int
 code:List Ins
 out:List Int
 at_:List Int
structure RCode where
 params:Int
 slots:Int
 cells:Int
 code:List RIns
 out:List Place
def ins0:Ins:=⟨0,0,[],[],[]⟩
def rins0:RIns:=⟨0,0,0,ins0⟩
def bP0:VFun:=⟨0,[],[],[]⟩
def aI5:RCode:=⟨0,0,0,[],[]⟩
def place0:Place:=⟨false,0⟩
def lies (n lo hi:Int):Bool:=decide (lo<=n)&&decide (n<=hi)
def at_ (l:List Int) (i:Int):Int:=l.getD i.toNat 0
mutual
def insB:Ins->Ins->Bool
 |⟨o,n,t,f,b⟩,⟨o',n',t',f',b'⟩=>decide (o=o')&&decide (n=n')&&decide (t=t')&&decide (f=f')&&X3 b b'
def X3:List Ins->List Ins->Bool
 |[],[]=>true
 |x::r,y::r'=>insB x y&&X3 r r'
 |_,_=>false
end
mutual
theorem bo0:∀ {x y:Ins},insB x y=true->x=y
 |⟨o,n,t,f,b⟩,⟨o',n',t',f',b'⟩,h=>by simp only [insB,cx9,cz9] at h;obtain ⟨⟨⟨⟨rfl,rfl⟩,rfl⟩,rfl⟩,h5⟩:=h;rw [aW4 h5]
theorem aW4:∀ {x y:List Ins},X3 x y=true->x=y
 |[],[],_=>rfl
 |x::r,y::r',h=>by simp only [X3,cx9] at h;rw [bo0 h.1,aW4 h.2]
 |[],_::_,h=>by simp [X3] at h
 |_::_,[],h=>by simp [X3] at h
end
mutual
theorem aI6:∀ (x:Ins),insB x x=true
 |⟨o,n,t,f,b⟩=>by simp [insB,av3 b]
theorem av3:∀ (x:List Ins),X3 x x=true
 |[]=>rfl
 |x::r=>by simp [X3,aI6 x,av3 r]
end
theorem bx8 {x y:Ins}:insB x y=true<->x=y:=⟨bo0,λh=>h▸aI6 x⟩
theorem aI7 {x y:List Ins}:X3 x y=true<->x=y:=⟨aW4,λh=>h▸av3 x⟩
instance:DecidableEq Ins:=λx y=>if h:insB x y=true then .isTrue (bo0 h) else .isFalse (λe=>h (bx8.2 e))
 deriving instance DecidableEq for RIns
 deriving instance DecidableEq for VFun
 deriving instance DecidableEq for RCode
mutual
def insN:Ins->Nat
 |⟨_,_,_,_,b⟩=>as6 b+1
def as6:List Ins->Nat
 |[]=>0
 |x::r=>insN x+as6 r+1
end
mutual
def aI8:Ins->Bool
 |⟨_,_,t,f,b⟩=>(decide (t.length<=17592186044416)&&decide (f.length<=17592186044416)&&decide (b.length<=1599289640354))&&K0 b
def K0:List Ins->Bool
 |[]=>true
 |x::r=>aI8 x&&K0 r
end
def B8:List Int->Int->Int
 |[],_=>-1
 |x::r,n=>if x=n then 0 else if B8 r n<0 then -1 else B8 r n+1
def K1:List Int->Int->List Int
 |[],n=>[n]
 |x::r,n=>if x=n then x::r else if n<x then n::x::r else x::K1 r n
def C9 (l m:List Int):List Int:=m.foldl K1 l
def wr (code:List Ins):List Int:=code.flatMap (·.to)
def G8 (n:Int):Bool:=lies n 0 3999
def D8:List Int->Bool
 |[]=>true
 |x::r=>!r.contains x&&D8 r
def E2 (params:Int):List Int->List Ins->Bool
 |_,[]=>true
 |w,x::r=>(x.from_.all λn=>decide (n<params)||w.contains n)&&E2 params (w++x.to) r
def D7 (f:VFun):Int:=
 if 4000<f.code.length then 3
 else if !(lies f.params 0 4000&&f.out.all G8&&f.code.all λx=>x.to.all G8&&x.from_.all G8) then 2
 else if !(D8 (wr f.code)&&(wr f.code).all λn=>decide (f.params<=n)) then 5
 else if !(E2 f.params [] f.code&&f.out.all λn=>decide (n<f.params)||(wr f.code).contains n) then 4 else 0
def az3 (x:Ins) (l:List Int):List Int:=(l.filter λn=>!x.to.contains n).foldl K1 (C9 [] x.from_)
def A9:List Ins->List Int->List (List Int)
 |[],out=>[C9 [] out]
 |x::r,out=>az3 x ((A9 r out).headD [])::A9 r out
def Q2 (f:VFun):List (List Int)×Int:=if D7 f≠0 then ([],D7 f) else (A9 f.code f.out,0)
def W3 (f:VFun):Int×Int:=
 if D7 f≠0 then (0,D7 f)
 else (((A9 f.code f.out).tail.zip f.code).foldl (λm p=>max m ((C9 p.1 p.2.to).length:Int)) (((A9 f.code f.out).headD []).length:Int),0)
def ad1 (c:RCode):Int×Int:=(c.code.foldl (λn x=>if x.kind=1 then n+1 else n) 0,c.code.foldl (λn x=>if x.kind=2 then n+1 else n) 0)
end Go.Rg
end
section
namespace Go.Rg
open Go Go.VT
abbrev i64:Ty:=.int .i64
abbrev ints:Ty:=.slice 3 i64
abbrev inss:Ty:=.slice 52 (.user 0)
abbrev al6:Ty:=.slice 55 (.user 1)
abbrev ae5:Ty:=.slice 59 (.user 2)
abbrev cu2:Ty:=.slice 131 (.user 4)
abbrev bf3:Ty:=.slice 23 ints
abbrev mapB:Ty:=.map i64 .bool
abbrev mapI:Ty:=.map i64 i64
abbrev mapS:Ty:=.map i64 (.user 3)
abbrev mapP:Ty:=.map (.user 2) i64
def RU:Univ where
 T:=λi=>match i with|0=>Ins|1=>RIns|2=>Place|3=>Span|4=>Held|5=>VFun|6=>RCode|_=>Unit
 dflt:=λi=>match i with|0=>ins0|1=>rins0|2=>place0|3=>⟨0,0⟩|4=>⟨0,0,0⟩|5=>bP0|6=>aI5|_+7=>()
 fields:=λi=>match i with
  |0=>[i64,i64,ints,ints,inss]
  |1=>[i64,i64,i64,i64,i64,ints,ints,inss]
  |2=>[.bool,i64]
  |3=>[i64,i64]
  |4=>[i64,i64,i64]
  |5=>[i64,inss,ints,ints]
  |6=>[i64,i64,i64,al6,ae5]
  |_+7=>[]
 get:=λi=>match i with
  |0=>λ(x:Ins)=>(x.op,x.n,x.to,x.from_,x.body,())
  |1=>λ(x:RIns)=>(x.kind,x.slot,x.cell,x.ins.op,x.ins.n,x.ins.to,x.ins.from_,x.ins.body,())
  |2=>λ(x:Place)=>(x.cell,x.n,())
  |3=>λ(x:Span)=>(x.first,x.last,())
  |4=>λ(x:Held)=>(x.slot,x.reg,x.next,())
  |5=>λ(x:VFun)=>(x.params,x.code,x.out,x.at_,())
  |6=>λ(x:RCode)=>(x.params,x.slots,x.cells,x.code,x.out,())
  |_+7=>λ_=>()
 put:=λi=>match i with
  |0=>λc=>(⟨c.1,c.2.1,c.2.2.1,c.2.2.2.1,c.2.2.2.2.1⟩:Ins)
  |1=>λc=>(⟨c.1,c.2.1,c.2.2.1,⟨c.2.2.2.1,c.2.2.2.2.1,c.2.2.2.2.2.1,c.2.2.2.2.2.2.1,c.2.2.2.2.2.2.2.1⟩⟩:RIns)
  |2=>λc=>(⟨c.1,c.2.1⟩:Place)
  |3=>λc=>(⟨c.1,c.2.1⟩:Span)
  |4=>λc=>(⟨c.1,c.2.1,c.2.2.1⟩:Held)
  |5=>λc=>(⟨c.1,c.2.1,c.2.2.1,c.2.2.2.1⟩:VFun)
  |6=>λc=>(⟨c.1,c.2.1,c.2.2.1,c.2.2.2.1,c.2.2.2.2.1⟩:RCode)
  |_+7=>λ_=>()
 get_put:=λi=>match i with|0=>λ_=>rfl|1=>λ_=>rfl|2=>λ_=>rfl|3=>λ_=>rfl|4=>λ_=>rfl|5=>λ_=>rfl|6=>λ_=>rfl|_+7=>λ_=>rfl
abbrev prog:Program:=Go.Proofs.Tryd.prog
def cl2:List (TypeId×Ty):=[(3,i64),(4,.bool),(32,i64),(23,ints),(52,.user 0),(55,.user 1),(59,.user 2),(107,.user 3),(131,.user 4),(25,.user 5),(31,.user 6)]
def RG:List (Nat×Glob):=[(0,⟨[],[.bool true,.int .i64 (-1)]⟩),(1,⟨[],[.int .i64 0,.int .i64 (-1)]⟩)]
def EV (l:List (FuncId×Con RU)):Env RU:=⟨prog,aW1 cl2,as4 l,RG,λ_ _=>[],λ_ _=>[],[],none,λ_=>[],true,[]⟩
def EVd (dp:List (TypeId×List Nat)) (it:FuncId->List (Con RU×Con RU×List (Nat×Nat))) (l:List (FuncId×Con RU)):Env RU:=⟨prog,aW1 cl2,as4 l,RG,λ_ _=>[],λ_ _=>[],[],none,it,true,dp⟩
def EVy (yl:List (Nat×Nat)) (Y:Option (Con RU)) (l:List (FuncId×Con RU)):Env RU:=⟨prog,aW1 cl2,as4 l,RG,λ_ _=>[],λ_ _=>[],yl,Y,λ_=>[],true,[]⟩
theorem fits (l:List (FuncId×Con RU)):(EV l).Fits:=bn7 (by kernel_rfl)
theorem cu3 (dp it l):(EVd dp it l).Fits:=bn7 (by kernel_rfl)
theorem cb2 (yl Y) (l:List (FuncId×Con RU)):(EVy yl Y l).Fits:=bn7 (by kernel_rfl)
theorem bo1:prog.follows .mixedOrders=true:=by kernel_rfl
def noL:Nat->St RU->Ann RU:=λ_ _=>⟨[],[],[],λ_=>False,λ_=>0,[]⟩
def noIt:FuncId->List (Con RU×Con RU×List (Nat×Nat)):=λ_=>[]
abbrev con (args:List (Bool×Nat)) (params:List Ty) (res:List (Bool×Nat)) (tys:List Ty) (own:List Bool) (pre:Option (Dens RU.T params->Prop)) (fn:Dens RU.T params->Dens RU.T tys):Con RU:=
 Con.flat args params res tys own pre fn
abbrev one:Bool×Nat:=(false,1)
theorem E5 {l:List (FuncId×Con RU)} (hl:∀ x∈l,D0 prog RG x.1 x.2) {f:FuncId} {fn:Func} {k:Con RU} (L:Dens RU.T k.params->Nat->St RU->Ann RU) (hf:prog.funcs[f]? =some fn) (b:(fn.name=="runtime.NumGoroutine")=false) (c:fn.body.isNone=false)
  (h:∀ xs,holds (k.pre.map λp=>p xs)->vc (EV l) (L xs) fn k xs) (a:k.yl=[]:=by rfl):D0 prog RG f k:=
 λY=>ak4 (E:=EV l) (fits l) ⟨Y7 (λx d=>hl x d Y),λ_ _ _ _ _ h=>(by cases h),λ_ _ _ h=>(by cases h),λ_ h=>(by cases h),λ_ _ _ _ h=>(by cases h)⟩ bo1 hf b L h c a
def ItOk (it:FuncId->List (Con RU×Con RU×List (Nat×Nat))):Prop:=∀ f k kY mp,(k,kY,mp)∈it f->∀ Y',GivesC Y' (runY prog) RG kY->ae0 Y' prog RG f k
theorem bP1:ItOk noIt:=λ_ _ _ _ h=>by cases h
theorem bx9 {dp it} (b:ItOk it) {l:List (FuncId×Con RU)} (hl:∀ x∈l,D0 prog RG x.1 x.2) {f:FuncId} {fn:Func} {k:Con RU} (L:Dens RU.T k.params->Nat->St RU->Ann RU) (hf:prog.funcs[f]? =some fn) (c:(fn.name=="runtime.NumGoroutine")=false) (d:fn.body.isNone=false)
  (h:∀ xs,holds (k.pre.map λp=>p xs)->vc (EVd dp it l) (L xs) fn k xs) (a:k.yl=[]:=by rfl):D0 prog RG f k:=
 λY=>ak4 (E:=EVd dp it l) (cu3 dp it l) ⟨Y7 (λx e=>hl x e Y),λ_ _ _ _ _ h=>(by cases h),λ_ _ _ h=>(by cases h),λ_ h=>(by cases h),b⟩ bo1 hf c L h d a
theorem bP2 {dp it} (b:ItOk it) {l:List (FuncId×Con RU)} (hl:∀ x∈l,D0 prog RG x.1 x.2) {f:FuncId} {fn:Func} {k:Con RU} (m:Dens RU.T k.params->Nat) (L:Dens RU.T k.params->Nat->St RU->Ann RU) (hf:prog.funcs[f]? =some fn) (c:(fn.name=="runtime.NumGoroutine")=false) (d:fn.body.isNone=false)
  (h:∀ xs,holds (k.pre.map λp=>p xs)->vc ((EVd dp it l).set f (k.below m (m xs))) (L xs) fn k xs) (a:k.yl=[]:=by rfl):D0 prog RG f k:=
 λY=>bf2 (E:=EVd dp it l) (cu3 dp it l) ⟨Y7 (λx e=>hl x e Y),λ_ _ _ _ _ h=>(by cases h),λ_ _ _ h=>(by cases h),λ_ h=>(by cases h),b⟩ bo1 hf c m L h d a
theorem C0:∀ x∈([]:List (FuncId×Con RU)),D0 prog RG x.1 x.2:=by simp
theorem A5 {f:FuncId} {k:Con RU} {r:List (FuncId×Con RU)} (h:D0 prog RG f k) (hr:∀ x∈r,D0 prog RG x.1 x.2):∀ x∈(f,k)::r,D0 prog RG x.1 x.2:=by
 intro x a;rcases List.mem_cons.1 a with h1|h1
 .subst h1;exact h
 .exact hr x h1
abbrev aI9:List Ty:=[i64,i64,ints,ints,inss]
abbrev ag6:List Ty:=[i64,inss,ints,ints]
abbrev bP3:List Ty:=[i64,i64,i64,al6,ae5]
end Go.Rg
end
section
namespace Go.Rg
open Go
theorem M1 {n:Int} (h1:-9223372036854775808<=n) (h2:n<9223372036854775808):IntKind.i64.wrap n=n:=by rw [IntKind.wrap_i64];omega
theorem B3 {k m:Nat} (h:k<m) (hm:m<=140737488355328):IntKind.i64.wrap ((k:Int)+1)=((k+1:Nat):Int):=by rw [M1 (by omega) (by omega)];rfl
theorem A4 {α:Type} {l:List α} {i:Nat} (h:i<l.length) (d:α):l.take (i+1)=l.take i++[l.getD i d]:=by rw [List.take_succ_eq_append_getElem h];simp [List.getD,cx8 h]
theorem F7 {α:Type} {l:List α} {i:Nat} (h:i<l.length) (d:α):l.getD i d∈l:=by rw [cz1,cx8 h];exact List.getElem_mem h
theorem aJ0 {α:Type} {l m:List α} {b:Bool} {k:Nat} (h1:k<=l.length) (c:b=true<->(l.length=m.length/\l.take k=m.take k)) (a:b=false\/¬ k<l.length):b=true<->l=m:=by
 constructor
 .intro h;obtain ⟨h3,h4⟩:=c.1 h;have d:k=l.length:=by
   rcases a with a|a
   .rw [a] at h;cases h
   .omega
  subst d;rw [cA5,h3,cA5] at h4;exact h4
 .rintro rfl;exact c.2 ⟨rfl,rfl⟩
theorem aJ1 {α:Type} {l m:List α} {k:Nat} (d:α) (hl:k<l.length) (hm:k<m.length):l.take (k+1)=m.take (k+1)<->l.take k=m.take k/\l.getD k d=m.getD k d:=by
 rw [A4 hl d,A4 hm d];constructor
 .intro h;have:=List.append_inj h (by simp;omega);exact ⟨this.1,by simpa using this.2⟩
 .rintro ⟨h1,h2⟩;rw [h1,h2]
theorem aW5:∀ {l:List Int} {n:Int} {m:Nat},m<l.length->(∀ i:Nat,i<m->l.getD i 0≠n)->l.getD m 0=n->B8 l n=m
 |x::r,n,0,_,_,h2=>by simp [B8] at h2 |-;simp [h2]
 |x::r,n,m+1,hm,h1,h2=>by
  have a:x≠n:=by simpa using h1 0 (by omega)
  have:=aW5 (l:=r) (n:=n) (m:=m) (by simpa using hm) (λi b=>by simpa using h1 (i+1) (by omega)) (by simpa using h2);simp only [B8,if_neg a,this];rw [if_neg (by omega)];rfl
theorem av4:∀ {l:List Int} {n:Int},(∀ i:Nat,i<l.length->l.getD i 0≠n)->B8 l n=-1
 |[],n,_=>rfl
 |x::r,n,h=>by
  have a:x≠n:=by simpa using h 0 (by simp)
  have:=av4 (l:=r) (n:=n) (λi b=>by simpa using h (i+1) (by simpa using b));simp [B8,if_neg a,this]
theorem aa4 {l:List Int} {n:Int}:0<=B8 l n<->n∈l:=by
 induction l with
 |nil=>simp [B8]
 |cons x r ih=>
  simp only [B8,List.mem_cons];by_cases a:x=n
  .simp [a]
  .rw [if_neg a];split
   .rename_i h;have h1:¬ n∈r:=λb=>by have:=ih.2 b;omega
    simp [h1,Ne.symm a]
   .rename_i h;have h1:n∈r:=ih.1 (by omega);simp [h1];omega
theorem cb3 {l:List Int} {n:Int}:B8 l n<l.length:=by
 induction l with
 |nil=>simp [B8]
 |cons x r ih=>
  simp only [B8,cz3];split
  .omega
  .split<;>omega
theorem bP4 {l:List Int} {n:Int} (h:n∈l):l.getD (B8 l n).toNat 0=n:=by
 induction l with
 |nil=>simp at h
 |cons x r ih=>
  simp only [B8];by_cases a:x=n
  .simp [a]
  .rw [if_neg a];have h1:n∈r:=by simpa [Ne.symm a] using h
   have h2:=aa4.2 h1;rw [if_neg (by omega),show (B8 r n+1).toNat=(B8 r n).toNat+1 by omega];simpa using ih h1
def N3:List Int->Int->List Int×Bool
 |[],n=>([],false)
 |x::r,n=>if x<n then (x::(N3 r n).1,(N3 r n).2) else if x=n then (x::r,true) else (n::x::r,true)
theorem bf4:∀ (l:List Int) (n:Int),K1 l n=bif (N3 l n).2 then (N3 l n).1 else (N3 l n).1++[n]
 |[],n=>rfl
 |x::r,n=>by
  simp only [K1,N3];by_cases h1:x=n
  .subst h1;simp
  .by_cases h2:n<x
   .simp [h1,h2,show ¬ x<n by omega]
   .simp only [h1,h2,if_false,if_pos (show x<n by omega),bf4 r n];cases (N3 r n).2<;>simp
theorem aQ6:∀ (l:List Int) (x n:Int),N3 (l++[x]) n=bif (N3 l n).2 then ((N3 l n).1++[x],true) else if x<n then ((N3 l n).1++[x],false) else if x=n then ((N3 l n).1++[x],true) else ((N3 l n).1++[n,x],true)
 |[],x,n=>by simp [N3]
 |y::r,x,n=>by
  simp only [List.cons_append,N3,aQ6 r x n];by_cases h1:y<n
  .simp only [h1,if_true];cases (N3 r n).2
   .simp only [cond_false];split
    .rfl
    .split<;>rfl
   .rfl
  .by_cases h2:y=n
   .simp [h1,h2]
   .simp [h1,h2]
theorem az4:∀ (l:List Int) (n:Int),(N3 l n).1.length=l.length+(bif (N3 l n).2 then (N3 l n).1.length-l.length else 0)/\(N3 l n).1.length<=l.length+1/\l.length<=(N3 l n).1.length
 |[],n=>by simp [N3]
 |x::r,n=>by
  obtain ⟨h1,h2,h3⟩:=az4 r n;simp only [N3];split
  .simp only [cz3];cases hc:(N3 r n).2<;>simp [hc] at h1 |-<;>omega
  .split<;>simp
theorem bf5 (l:List Int) (n:Int):(K1 l n).length<=l.length+1:=by
 induction l with
 |nil=>simp [K1]
 |cons x r ih=>
  simp only [K1];split
  .simp
  .split
   .simp
   .simp;exact ih
theorem aJ2 {l:List Int} {n x:Int}:x∈K1 l n<->x=n\/x∈l:=by
 induction l with
 |nil=>simp [K1]
 |cons y r ih=>
  simp only [K1];split
  .rename_i h;subst h;simp
  .split
   .simp
   .simp [ih];constructor
    .rintro (h|h|h)<;>simp [h]
    .rintro (h|h|h)<;>simp [h]
theorem aN0 (l m:List Int):(C9 l m).length<=l.length+m.length:=by
 unfold C9
 induction m generalizing l with
 |nil=>simp
 |cons x r ih=>simp only [List.foldl_cons,cz3];have:=ih (K1 l x);have:=bf5 l x;omega
theorem L0 {l m:List Int} {x:Int}:x∈C9 l m<->x∈l\/x∈m:=by
 unfold C9
 induction m generalizing l with
 |nil=>simp
 |cons y r ih=>
  simp only [List.foldl_cons,ih,aJ2,List.mem_cons];constructor
  .rintro ((h|h)|h)<;>simp [h]
  .rintro (h|h|h)<;>simp [h]
theorem bf6 (l m:List Int) (x:Int):C9 l (m++[x])=K1 (C9 l m) x:=by simp [C9]
def incr (l:List Int):Prop:=l.Pairwise (·<·)
theorem aQ7 {l:List Int} (h:incr l) (n:Int):incr (K1 l n):=by
 induction l with
 |nil=>simp [K1,incr]
 |cons x r ih=>
  obtain ⟨h1,h2⟩:=List.pairwise_cons.1 h;simp only [K1];split
  .exact h
  .split
   .rename_i h3;refine List.pairwise_cons.2 ⟨λy a=>?_,h⟩;rcases List.mem_cons.1 a with rfl|a
    .exact h3
    .have:=h1 y a;omega
   .refine List.pairwise_cons.2 ⟨λy a=>?_,ih h2⟩;rcases aJ2.1 a with rfl|a
    .omega
    .exact h1 y a
theorem O6 {l:List Int} (h:incr l) (m:List Int):incr (C9 l m):=by
 unfold C9
 induction m generalizing l with
 |nil=>exact h
 |cons y r ih=>exact ih (aQ7 h y)
theorem by0:∀ {l m:List Int},incr l->incr m->(∀ x,x∈l<->x∈m)->l=m
 |[],[],_,_,_=>rfl
 |[],y::_,_,_,h=>by have:=(h y).2 (by simp);simp at this
 |x::_,[],_,_,h=>by have:=(h x).1 (by simp);simp at this
 |x::r,y::r',h1,h2,h=>by
  obtain ⟨e,g⟩:=List.pairwise_cons.1 h1;obtain ⟨f,i⟩:=List.pairwise_cons.1 h2;have c:x=y:=by
   have a:=(h x).1 (by simp);have b:=(h y).2 (by simp);rcases List.mem_cons.1 a with a|a
   .exact a
   .rcases List.mem_cons.1 b with b|b
    .exact b.symm
    .have:=e y b;have:=f x a;omega
  subst c;rw [by0 g i (λz=>?_)];have d:=h z;simp only [List.mem_cons] at d;constructor
  .intro hm;have:=e z hm;rcases d.1 (.inr hm) with h4|h4
   .omega
   .exact h4
  .intro hm;have:=f z hm;rcases d.2 (.inr hm) with h4|h4
   .omega
   .exact h4
end Go.Rg
end
section
namespace Go.Rg
open Go Go.VT
def cLies:Con RU:=con [one,one,one] [i64,i64,i64] [one] [.bool] [false] none λp=>(lies p.1 p.2.1 p.2.2.1,())
def cEqual:Con RU:=con [one,one] [ints,ints] [one] [.bool] [false] none λp=>(decide (p.1=p.2.1),())
def bP5 (l m:List Int):Nat->St RU->Ann RU:=λ_ _=>⟨[],[.slot 6,.slot 5],[i64,.bool],λp=>0<=p.1/\p.1<=l.length/\p.2.1=(decide (l.length=m.length)&&decide (l.take p.1.toNat=m.take p.1.toNat)),λp=>l.length-p.1.toNat,[]⟩
def cEqualLists:Con RU:=con [one,one] [bf3,bf3] [one] [.bool] [false] none λp=>(decide (p.1=p.2.1),())
def ao5 (l m:List (List Int)):Nat->St RU->Ann RU:=λ_ _=>⟨[],[.slot 6,.slot 5],[i64,.bool],λp=>0<=p.1/\p.1<=l.length/\p.2.1=(decide (l.length=m.length)&&decide (l.take p.1.toNat=m.take p.1.toNat)),λp=>l.length-p.1.toNat,[]⟩
def cWhere:Con RU:=con [one,one] [ints,i64] [one] [i64] [false] none λp=>(B8 p.1 p.2.1,())
def bP6 (l:List Int) (n:Int):Nat->St RU->Ann RU:=λ_ _=>⟨[],[.slot 5],[i64],λp=>0<=p.1/\p.1<=l.length/\∀ i:Nat,i<p.1.toNat->l.getD i 0≠n,λp=>l.length-p.1.toNat,[]⟩
def cPut:Con RU:=con [one,one] [ints,i64] [one] [ints] [false] (some λp=>p.1.length<=17592186044400) λp=>(K1 p.1 p.2.1,())
def lPut (l:List Int) (n:Int):Nat->St RU->Ann RU:=λ_ _=>⟨[5],[.slot 7,.slot 6,.row 512],[i64,.bool,ints],λp=>0<=p.1/\p.1<=l.length/\p.2.1=(N3 (l.take p.1.toNat) n).2/\p.2.2.1=(N3 (l.take p.1.toNat) n).1,λp=>l.length-p.1.toNat,[]⟩
def cCopyD:Con RU:=con [one] [ints] [one] [ints] [false] (some λp=>p.1.length<=17592186044416) λp=>(p.1,())
def cUnion:Con RU:=con [one,one] [ints,ints] [one] [ints] [false] (some λp=>p.1.length+p.2.1.length<=17592186044400) λp=>(C9 p.1 p.2.1,())
def bP7 (l m:List Int):Nat->St RU->Ann RU:=λ_ _=>⟨[],[.slot 6,.slot 5],[i64,ints],λp=>0<=p.1/\p.1<=m.length/\p.2.1=C9 l (m.take p.1.toNat),λp=>m.length-p.1.toNat,[]⟩
def cSameIns:Con RU:=con [(true,5),(true,5)] [i64,i64,ints,ints,inss,i64,i64,ints,ints,inss] [one] [.bool] [false] none λp=>(insB ⟨p.1,p.2.1,p.2.2.1,p.2.2.2.1,p.2.2.2.2.1⟩ ⟨p.2.2.2.2.2.1,p.2.2.2.2.2.2.1,p.2.2.2.2.2.2.2.1,p.2.2.2.2.2.2.2.2.1,p.2.2.2.2.2.2.2.2.2.1⟩,())
def cSameCode:Con RU:=con [one,one] [inss,inss] [one] [.bool] [false] none λp=>(X3 p.1 p.2.1,())
def V1:Dens RU.T cSameIns.params->Nat:=λp=>as6 p.2.2.2.2.1+1
def P8:Dens RU.T cSameCode.params->Nat:=λp=>as6 p.1 
def aJ3 (l m:List Ins):Nat->St RU->Ann RU:=λ_ _=>⟨[],[.slot 6,.slot 5],[i64,.bool],λp=>0<=p.1/\p.1<=l.length/\p.2.1=(decide (l.length=m.length)&&X3 (l.take p.1.toNat) (m.take p.1.toNat)),λp=>l.length-p.1.toNat,[]⟩
def cSameVec:Con RU:=con [(true,4),(true,4)] [i64,inss,ints,ints,i64,inss,ints,ints] [one] [.bool] [false] none λp=>(decide (p.1=p.2.2.2.2.1)&&X3 p.2.1 p.2.2.2.2.2.1&&decide (p.2.2.1=p.2.2.2.2.2.2.1)&&decide (p.2.2.2.1=p.2.2.2.2.2.2.2.1),())
theorem cl3 (n lo a:Int):vc (EV []) noL Go.Proofs.Tryd.f31 cLies (n,lo,a,())=((decide (lo<=n)&&decide (n<=a),())=(lies n lo a,())):=by kernel_rfl
theorem cb4 (l:List Int):vc (EV []) noL Go.Proofs.Tryd.f70 cCopyD (l,())=(Small RU (Sigma.mk (Ty.slice (3:Nat) (Ty.int IntKind.i64)) l)->(List.length ([]:List Int)+List.length l)*(8:Nat)<=(140737488355328:Nat)/\([]++l,())=(l,())):=by kernel_rfl
theorem cb5 (l m:List Int):vc (EV []) (bP5 l m) Go.Proofs.Tryd.f34 cEqual (l,m,())=(let b:Int:=(↑(List.length l):Int);
  Small RU (Sigma.mk (Ty.slice (3:Nat) (Ty.int IntKind.i64)) l)->
  Small RU (Sigma.mk (Ty.slice (3:Nat) (Ty.int IntKind.i64)) m)->
  (∃ (p:Int×Bool×Unit),
  l=l/\
  m=m/\
  false=false/\
  (0:Int)=p.1/\
  (b==(↑(List.length m):Int))=p.2.1/\
  (0:Int)<=p.1/\p.1<=b/\p.2.1=(decide (List.length l=List.length m)&&decide (List.take (Int.toNat p.1) l=List.take (Int.toNat p.1) m)))/\
  ∀ (p:Int×Bool×Unit),
 let e0_1:Bool:=p.2.1&&decide (p.1<b);
 let a:Int:=p.1;
 let c:Bool:=decide (List.length l=List.length m);
  (0:Int)<=a/\a<=b/\p.2.1=(c&&decide (List.take (Int.toNat a) l=List.take (Int.toNat a) m))->
  (e0_1=true->
  ((0:Int)<=a/\a<b)/\
  ((0:Int)<=a/\a<(↑(List.length m):Int))/\
  ∃ (p':Int×Bool×Unit),
  l=l/\
  m=m/\
  false=false/\
  IntKind.i64.wrap (a+(1:Int))=p'.1/\
  (List.getD l (Int.toNat a) (0:Int)==List.getD m (Int.toNat a) (0:Int))=p'.2.1/\
  ((0:Int)<=p'.1/\p'.1<=b/\p'.2.1=(c&&decide (List.take (Int.toNat p'.1) l=List.take (Int.toNat p'.1) m)))/\
  List.length l-Int.toNat p'.1<List.length l-Int.toNat a)/\
  (e0_1=false->(p.2.1,())=(decide (l=m),()))):=by kernel_rfl
theorem aW6 (l m:List (List Int)):vc (EV [(34,cEqual)]) (ao5 l m) Go.Proofs.Tryd.f43 cEqualLists (l,m,())=(let b:Int:=(↑(List.length l):Int);
  Small RU (Sigma.mk (Ty.slice (23:Nat) (Ty.slice (3:Nat) (Ty.int IntKind.i64))) l)->
  Small RU (Sigma.mk (Ty.slice (23:Nat) (Ty.slice (3:Nat) (Ty.int IntKind.i64))) m)->
  (∃ (p:Int×Bool×Unit),
  l=l/\
  m=m/\
  false=false/\
  (0:Int)=p.1/\
  (b==(↑(List.length m):Int))=p.2.1/\
  (0:Int)<=p.1/\p.1<=b/\p.2.1=(decide (List.length l=List.length m)&&decide (List.take (Int.toNat p.1) l=List.take (Int.toNat p.1) m)))/\
  ∀ (p:Int×Bool×Unit),
 let e0_1:Bool:=p.2.1&&decide (p.1<b);
 let a:Int:=p.1;
 let c:Bool:=decide (List.length l=List.length m);
  (0:Int)<=a/\a<=b/\p.2.1=(c&&decide (List.take (Int.toNat a) l=List.take (Int.toNat a) m))->
  (e0_1=true->
  ((0:Int)<=a/\a<b)/\
  ((0:Int)<=a/\a<(↑(List.length m):Int))/\
  ∃ (p':Int×Bool×Unit),
  l=l/\
  m=m/\
  false=false/\
  IntKind.i64.wrap (a+(1:Int))=p'.1/\
  decide (List.getD l (Int.toNat a) []=List.getD m (Int.toNat a) [])=p'.2.1/\
  ((0:Int)<=p'.1/\p'.1<=b/\p'.2.1=(c&&decide (List.take (Int.toNat p'.1) l=List.take (Int.toNat p'.1) m)))/\
  List.length l-Int.toNat p'.1<List.length l-Int.toNat a)/\
  (e0_1=false->(p.2.1,())=(decide (l=m),()))):=by kernel_rfl
theorem cb6 (l:List Int) (n:Int):vc (EV []) (bP6 l n) Go.Proofs.Tryd.f32 cWhere (l,n,())=(Small RU (Sigma.mk (Ty.slice (3:Nat) (Ty.int IntKind.i64)) l)->
  (∃ (p:Int×Unit),l=l/\n=n/\(0:Int)=p.1/\(0:Int)<=p.1/\p.1<=(↑(List.length l):Int)/\∀ (i:Nat),i<Int.toNat p.1->List.getD l i (0:Int)≠n)/\
  ∀ (p:Int×Unit),
 let a:Bool:=decide (p.1<(↑(List.length l):Int));
 let b:Bool:=List.getD l (Int.toNat p.1) (0:Int)==n;
  ((0:Int)<=p.1/\p.1<=(↑(List.length l):Int)/\∀ (i:Nat),i<Int.toNat p.1->List.getD l i (0:Int)≠n)->
  (a=true->
  ((0:Int)<=p.1/\p.1<(↑(List.length l):Int))/\
  (b=true->(p.1,())=(B8 l n,()))/\
  (b=false->
  ∃ (p':Int×Unit),
  l=l/\
  n=n/\
  IntKind.i64.wrap (p.1+(1:Int))=p'.1/\
  ((0:Int)<=p'.1/\p'.1<=(↑(List.length l):Int)/\∀ (i:Nat),i<Int.toNat p'.1->List.getD l i (0:Int)≠n)/\
  List.length l-Int.toNat p'.1<List.length l-Int.toNat p.1))/\
  (a=false->((-1:Int),())=(B8 l n,()))):=by kernel_rfl
theorem cu4 (l:List Int) (n:Int):vc (EV []) (lPut l n) Go.Proofs.Tryd.f30 cPut (l,n,())=(Small RU (Sigma.mk (Ty.slice (3:Nat) (Ty.int IntKind.i64)) l)->
  (∃ (p:Int×Bool×List Int×Unit),
  l=l/\
  n=n/\
  (0:Int)=p.1/\
  false=p.2.1/\
  []=p.2.2.1/\
  (0:Int)<=p.1/\p.1<=(↑(List.length l):Int)/\p.2.1=(N3 (List.take (Int.toNat p.1) l) n).2/\p.2.2.1=(N3 (List.take (Int.toNat p.1) l) n).1)/\
  ∀ (p:Int×Bool×List Int×Unit),
 let f:Int:=bif !p.2.1&&decide (List.getD l (Int.toNat p.1) (0:Int)>=n) then bif decide (List.getD l (Int.toNat p.1) (0:Int) >n) then p.1 else p.1 else p.1;
 let c:Bool:=!p.2.1&&decide (List.getD l (Int.toNat p.1) (0:Int)>=n);
 let d:Bool:=decide (List.getD l (Int.toNat p.1) (0:Int) >n);
 let b:List Int:=p.2.2.1;
 let g:Bool:=decide (p.1<(↑(List.length l):Int));
 let h:List Int:=bif c then bif d then b++[n] else b else b;
 let e:Bool:=p.2.1;
 let a:Int:=p.1;
 let i:List Int:=[List.getD (bif c then bif d then l else l else l) (Int.toNat f) (0:Int)];
  (0:Int)<=a/\a<=(↑(List.length l):Int)/\e=(N3 (List.take (Int.toNat a) l) n).2/\b=(N3 (List.take (Int.toNat a) l) n).1->
  (g=true->
  ((!e)=true->(0:Int)<=a/\a<(↑(List.length l):Int))/\
  (c=true->((0:Int)<=a/\a<(↑(List.length l):Int))/\(d=true->(List.length b+List.length [n])*(8:Nat)<=(140737488355328:Nat)))/\
  ((0:Int)<=f/\f<(↑(List.length (bif c then bif d then l else l else l)):Int))/\
  (List.length h+List.length i)*(8:Nat)<=(140737488355328:Nat)/\
  ∃ (p':Int×Bool×List Int×Unit),
  (bif c then bif d then l else l else l)=l/\
  (bif c then bif d then n else n else n)=n/\
  IntKind.i64.wrap (f+(1:Int))=p'.1/\
  (bif c then true else e)=p'.2.1/\
  h++i=p'.2.2.1/\
  ((0:Int)<=p'.1/\
  p'.1<=(↑(List.length l):Int)/\p'.2.1=(N3 (List.take (Int.toNat p'.1) l) n).2/\p'.2.2.1=(N3 (List.take (Int.toNat p'.1) l) n).1)/\
  List.length l-Int.toNat p'.1<List.length l-Int.toNat a)/\
  (g=false->((!e)=true->(List.length b+List.length [n])*(8:Nat)<=(140737488355328:Nat))/\(bif !e then b++[n] else b,())=(K1 l n,()))):=by kernel_rfl
theorem cb7 (l m:List Int):vc (EV [(70,cCopyD),(30,cPut)]) (bP7 l m) Go.Proofs.Tryd.f35 cUnion (l,m,())=(Small RU (Sigma.mk (Ty.slice (3:Nat) (Ty.int IntKind.i64)) l)->
  Small RU (Sigma.mk (Ty.slice (3:Nat) (Ty.int IntKind.i64)) m)->
  List.length l<=(17592186044416:Nat)/\
  (∃ (p:Int×List Int×Unit),
  l=l/\m=m/\(0:Int)=p.1/\l=p.2.1/\(0:Int)<=p.1/\p.1<=(↑(List.length m):Int)/\p.2.1=C9 l (List.take (Int.toNat p.1) m))/\
  ∀ (p:Int×List Int×Unit),
 let c:Bool:=decide (p.1<(↑(List.length m):Int));
 let b:List Int:=p.2.1;
 let a:Int:=p.1;
  (0:Int)<=a/\a<=(↑(List.length m):Int)/\b=C9 l (List.take (Int.toNat a) m)->
  (c=true->
  ((0:Int)<=a/\a<(↑(List.length m):Int))/\
  List.length b<=(17592186044400:Nat)/\
  ∃ (p':Int×List Int×Unit),
  l=l/\
  m=m/\
  IntKind.i64.wrap (a+(1:Int))=p'.1/\
  K1 b (List.getD m (Int.toNat a) (0:Int))=p'.2.1/\
  ((0:Int)<=p'.1/\p'.1<=(↑(List.length m):Int)/\p'.2.1=C9 l (List.take (Int.toNat p'.1) m))/\
  List.length m-Int.toNat p'.1<List.length m-Int.toNat a)/\
  (c=false->(b,())=(C9 l m,()))):=by kernel_rfl
theorem bD4 (n:Nat) (g h:Int) (c d:List Int) (a:List Ins) (i j:Int) (e f:List Int) (b:List Ins):vc (EV [(34,cEqual),(64,cSameCode.below P8 n)]) noL Go.Proofs.Tryd.f57 (cSameIns.below V1 (n+1)) (g,h,c,d,a,i,j,e,f,b,())=(let k:Bool:=g==i&&h==j&&decide (c=e)&&decide (d=f);
 Small RU (Sigma.mk (Ty.slice (3:Nat) (Ty.int IntKind.i64)) c)->
 Small RU (Sigma.mk (Ty.slice (3:Nat) (Ty.int IntKind.i64)) d)->
 Small RU (Sigma.mk (Ty.slice (52:Nat) (Ty.user (0:Nat))) a)->
 Small RU (Sigma.mk (Ty.slice (3:Nat) (Ty.int IntKind.i64)) e)->
 Small RU (Sigma.mk (Ty.slice (3:Nat) (Ty.int IntKind.i64)) f)->
 Small RU (Sigma.mk (Ty.slice (52:Nat) (Ty.user (0:Nat))) b)->
 (k=true->True/\P8 (a,b,())<n)/\(k&&X3 a b,())=(insB (Ins.mk g h c d a) (Ins.mk i j e f b),())):=by kernel_rfl
theorem bo2 (n:Nat) (l m:List Ins):vc (EV [(57,cSameIns.below V1 n)]) (aJ3 l m) Go.Proofs.Tryd.f64 (cSameCode.below P8 (n+1)) (l,m,())=(let d:Ins:=Ins.mk (0:Int) (0:Int) [] [] [];
 let c:Int:=(↑(List.length l):Int);
  Small RU (Sigma.mk (Ty.slice (52:Nat) (Ty.user (0:Nat))) l)->
  Small RU (Sigma.mk (Ty.slice (52:Nat) (Ty.user (0:Nat))) m)->
  (∃ (p:Int×Bool×Unit),
  l=l/\
  m=m/\
  false=false/\
  (0:Int)=p.1/\
  (c==(↑(List.length m):Int))=p.2.1/\
  (0:Int)<=p.1/\p.1<=c/\p.2.1=(decide (List.length l=List.length m)&&X3 (List.take (Int.toNat p.1) l) (List.take (Int.toNat p.1) m)))/\
  ∀ (p:Int×Bool×Unit),
 let e0_1:Bool:=p.2.1&&decide (p.1<c);
 let e1_1:Ins:=List.getD m (Int.toNat p.1) d;
 let a:Ins:=List.getD l (Int.toNat p.1) d;
 let b:Int:=p.1;
 let e:Bool:=decide (List.length l=List.length m);
  (0:Int)<=b/\b<=c/\p.2.1=(e&&X3 (List.take (Int.toNat b) l) (List.take (Int.toNat b) m))->
  (e0_1=true->
  ((0:Int)<=b/\b<c)/\
  ((0:Int)<=b/\b<(↑(List.length m):Int))/\
  (True/\V1 (a.op,a.n,a.to,a.from_,a.body,e1_1.op,e1_1.n,e1_1.to,e1_1.from_,e1_1.body,())<n)/\
  ∃ (p':Int×Bool×Unit),
  l=l/\
  m=m/\
  false=false/\
  IntKind.i64.wrap (b+(1:Int))=p'.1/\
  insB (Ins.mk a.op a.n a.to a.from_ a.body) (Ins.mk e1_1.op e1_1.n e1_1.to e1_1.from_ e1_1.body)=p'.2.1/\
  ((0:Int)<=p'.1/\p'.1<=c/\p'.2.1=(e&&X3 (List.take (Int.toNat p'.1) l) (List.take (Int.toNat p'.1) m)))/\
  List.length l-Int.toNat p'.1<List.length l-Int.toNat b)/\
  (e0_1=false->(p.2.1,())=(X3 l m,()))):=by kernel_rfl
theorem bD5 (g:Int) (a:List Ins) (b c:List Int) (h:Int) (d:List Ins) (e f:List Int):vc (EV [(34,cEqual),(64,cSameCode)]) noL Go.Proofs.Tryd.f24 cSameVec (g,a,b,c,h,d,e,f,())=(Small RU (Sigma.mk (Ty.slice (52:Nat) (Ty.user (0:Nat))) a)->
 Small RU (Sigma.mk (Ty.slice (3:Nat) (Ty.int IntKind.i64)) b)->
 Small RU (Sigma.mk (Ty.slice (3:Nat) (Ty.int IntKind.i64)) c)->
 Small RU (Sigma.mk (Ty.slice (52:Nat) (Ty.user (0:Nat))) d)->
 Small RU (Sigma.mk (Ty.slice (3:Nat) (Ty.int IntKind.i64)) e)->
 Small RU (Sigma.mk (Ty.slice (3:Nat) (Ty.int IntKind.i64)) f)->
 (g==h&&X3 a d&&decide (b=e)&&decide (c=f),())=(decide (g=h)&&X3 a d&&decide (b=e)&&decide (c=f),())):=by kernel_rfl
theorem av5:D0 prog RG 31 cLies:=E5 C0 (λ_=>noL) (by kernel_rfl) (by kernel_rfl) (by kernel_rfl) λ(n,lo,a,()) _=>(cl3 n lo a).mpr rfl
theorem cb8 (l:List Int) (a:l.length<=17592186044416):vc (EV []) noL Go.Proofs.Tryd.f70 cCopyD (l,()):=(cb4 l).mpr (by
 intro hs;exact ⟨by simp only [List.length_nil];omega,rfl⟩)
theorem bo3:D0 prog RG 70 cCopyD:=E5 C0 (λ_=>noL) (by kernel_rfl) (by kernel_rfl) (by kernel_rfl) λ(l,()) a=>cb8 l a
theorem cb9 (l m:List Int):vc (EV []) (bP5 l m) Go.Proofs.Tryd.f34 cEqual (l,m,()):=(cb5 l m).mpr (by
 intro e f g;have h:l.length<=140737488355328:=f.len;have o:m.length<=140737488355328:=g.len;refine ⟨⟨(0,decide (l.length=m.length),()),rfl,rfl,rfl,rfl,?_,Int.le_refl _,by dsimp only;omega,by simp [e]⟩,?_⟩
 .rw [Bool.eq_iff_iff];simp [e];omega
 dsimp only [e];rintro ⟨i,b,⟨⟩⟩ ⟨h0,h1,h2⟩;dsimp only at h0 h1 h2 |-;obtain ⟨k,rfl⟩:=cy3 h0;simp only [cy0] at h2 |-;have c:b=true<->(l.length=m.length/\l.take k=m.take k):=by rw [h2];simp
 refine ⟨λa=>?_,λa=>?_⟩
 .simp only [cx9,cz9] at a;obtain ⟨a,j⟩:=a;obtain ⟨d,n⟩:=c.1 a;refine ⟨⟨h0,j⟩,⟨h0,by omega⟩,((k+1:Nat),decide (l.getD k 0=m.getD k 0),()),by trivial,by trivial,by trivial,B3 (by omega) h,?_,⟨by omega,by dsimp only;omega,?_⟩,by dsimp only;omega⟩
  .rw [Bool.eq_iff_iff];simp
  .dsimp only;rw [cy0,Bool.eq_iff_iff,cx9,cz9,cz9,cz9,aJ1 0 (by omega) (by omega)];simp [d,n]
 .have:b=decide (l=m):=by
   rw [Bool.eq_iff_iff,cz9];exact aJ0 (by omega) c (by simp at a;cases b<;>simp at a |-;omega)
  rw [this])
theorem ao6:D0 prog RG 34 cEqual:=E5 C0 (λp=>bP5 p.1 p.2.1) (by kernel_rfl) (by kernel_rfl) (by kernel_rfl) λ(l,m,()) _=>cb9 l m
theorem aW7 (l m:List (List Int)):vc (EV [(34,cEqual)]) (ao5 l m) Go.Proofs.Tryd.f43 cEqualLists (l,m,()):=(aW6 l m).mpr (by
 intro e f g;have h:l.length<=140737488355328:=f.len;have o:m.length<=140737488355328:=g.len;refine ⟨⟨(0,decide (l.length=m.length),()),rfl,rfl,rfl,rfl,?_,Int.le_refl _,by dsimp only;omega,by simp [e]⟩,?_⟩
 .rw [Bool.eq_iff_iff];simp [e];omega
 dsimp only [e];rintro ⟨i,b,⟨⟩⟩ ⟨h0,h1,h2⟩;dsimp only at h0 h1 h2 |-;obtain ⟨k,rfl⟩:=cy3 h0;simp only [cy0] at h2 |-;have c:b=true<->(l.length=m.length/\l.take k=m.take k):=by rw [h2];simp
 refine ⟨λa=>?_,λa=>?_⟩
 .simp only [cx9,cz9] at a;obtain ⟨a,j⟩:=a;obtain ⟨d,n⟩:=c.1 a;refine ⟨⟨h0,j⟩,⟨h0,by omega⟩,((k+1:Nat),decide (l.getD k []=m.getD k []),()),by trivial,by trivial,by trivial,B3 (by omega) h,rfl,⟨by omega,by dsimp only;omega,?_⟩,by dsimp only;omega⟩;dsimp only;rw [cy0,Bool.eq_iff_iff,cx9,cz9,cz9,cz9,aJ1 [] (by omega) (by omega)];simp [d,n]
 .have:b=decide (l=m):=by
   rw [Bool.eq_iff_iff,cz9];exact aJ0 (by omega) c (by simp at a;cases b<;>simp at a |-;omega)
  rw [this])
theorem aA6:D0 prog RG 43 cEqualLists:=E5 (A5 ao6 C0) (λp=>ao5 p.1 p.2.1) (by kernel_rfl) (by kernel_rfl) (by kernel_rfl) λ(l,m,()) _=>aW7 l m
theorem cc0 (l:List Int) (n:Int):vc (EV []) (bP6 l n) Go.Proofs.Tryd.f32 cWhere (l,n,()):=(cb6 l n).mpr (by
 intro hs;have c:l.length<=140737488355328:=hs.len;refine ⟨⟨(0,()),by trivial,by trivial,rfl,Int.le_refl _,by dsimp only;omega,λi f=>by simp at f⟩,?_⟩;dsimp only;rintro ⟨i,⟨⟩⟩ ⟨g,o,d⟩;dsimp only at g o d |-;obtain ⟨m,rfl⟩:=cy3 g;simp only [cy0] at d |-;refine ⟨λa=>?_,λe=>?_⟩
 .have a:(m:Int)<l.length:=cy7 a;refine ⟨⟨g,a⟩,λb=>?_,λb=>⟨((m+1:Nat),()),?_⟩⟩
  .have b:l.getD m 0=n:=eq_of_beq b;rw [aW5 (by omega) d b]
  .have b:l.getD m 0≠n:=by simpa using b
   have p:=B3 (k:=m) (by omega) c;have h:∀ i:Nat,i<((m+1:Nat):Int).toNat->l.getD i 0≠n:=λi f=>by
    rw [cy0] at f;by_cases j:i=m
    .subst j;exact b
    .exact d i (by omega)
   and_intros<;>first|exact p|exact rfl|exact h|omega|(dsimp only;omega)|dsimp only
 .have e:¬ (m:Int)<l.length:=cy6 e;rw [av4 (λi f=>d i (by omega))])
theorem M6:D0 prog RG 32 cWhere:=E5 C0 (λp=>bP6 p.1 p.2.1) (by kernel_rfl) (by kernel_rfl) (by kernel_rfl) λ(l,n,()) _=>cc0 l n
theorem cu5 (l:List Int) (n:Int) (o:l.length<=17592186044400):vc (EV []) (lPut l n) Go.Proofs.Tryd.f30 cPut (l,n,()):=(cu4 l n).mpr (by
 intro hs;refine ⟨⟨(0,false,[],()),rfl,rfl,rfl,rfl,rfl,Int.le_refl _,by dsimp only;omega,rfl,rfl⟩,?_⟩;dsimp only;rintro ⟨i,d,out,⟨⟩⟩ ⟨h0,h1,h2,h3⟩;dsimp only at h0 h1 h2 h3 |-;obtain ⟨k,rfl⟩:=cy3 h0;simp only [cy0,Bool.cond_self] at h2 h3 |-;have e:=az4 (l.take k) n;rw [<-h3,<-h2,cA6] at e;refine ⟨λa=>?_,λh=>?_⟩
 .have a:(k:Int)<l.length:=cy7 a;have f:∀ (x:Int) (m:List Int),m.length<=k+2->(m.length+[x].length)*8<=140737488355328:=λx m hm=>by simp only [cA1];omega
  have b:=aQ6 (l.take k) (l.getD k 0) n;rw [<-A4 (by omega) 0,<-h2,<-h3] at b;refine ⟨λ_=>⟨h0,a⟩,λ_=>⟨⟨h0,a⟩,λ_=>f _ _ (by omega)⟩,⟨h0,a⟩,f _ _ ?_,((k+1:Nat),(N3 (l.take (k+1)) n).2,(N3 (l.take (k+1)) n).1,()),by trivial,by trivial,B3 (by omega) hs.len,?_,?_,⟨by omega,by dsimp only;omega,by rw [cy0],by rw [cy0]⟩,by dsimp only;omega⟩
  .cases (!d&&decide (l.getD k 0>=n))<;>simp only [cond_true,cond_false]
   .omega
   .cases decide (l.getD k 0 >n)<;>simp only [cond_true,cond_false,cz8,cA1]<;>omega
  .rw [b];show (bif !d&&decide (l.getD k 0>=n) then true else d)=_;dsimp only;generalize l.getD k 0=x;cases d
   .simp only [Bool.not_false,Bool.true_and,cond_false];by_cases c:x<n
    .simp [c,show ¬ n<=x by omega]
    .by_cases g:x=n<;>simp [c,g,show n<=x by omega]
   .simp
  .rw [b];show (bif !d&&decide (l.getD k 0>=n) then bif decide (l.getD k 0 >n) then out++[n] else out else out)++[l.getD k 0]=_;dsimp only;generalize l.getD k 0=x;cases d
   .simp only [Bool.not_false,Bool.true_and,cond_false];by_cases c:x<n
    .simp [c,show ¬ n<=x by omega]
    .by_cases g:x=n
     .simp [c,g]
     .simp [c,g,show n<=x by omega,show n<x by omega]
   .simp
 .have j:k=l.length:=by have:¬ (k:Int)<l.length:=cy6 h;omega
  subst j;rw [cA5] at h2 h3;refine ⟨λ_=>by simp only [cA1];omega,?_⟩;rw [bf4,<-h2,<-h3];cases d<;>rfl)
theorem bf7:D0 prog RG 30 cPut:=E5 C0 (λp=>lPut p.1 p.2.1) (by kernel_rfl) (by kernel_rfl) (by kernel_rfl) λ(l,n,()) a=>cu5 l n a
theorem cc1 (l m:List Int) (g:l.length+m.length<=17592186044400):vc (EV [(70,cCopyD),(30,cPut)]) (bP7 l m) Go.Proofs.Tryd.f35 cUnion (l,m,()):=(cb7 l m).mpr (by
 intro e c;refine ⟨by omega,⟨(0,l,()),rfl,rfl,rfl,rfl,Int.le_refl _,by dsimp only;omega,rfl⟩,?_⟩;dsimp only;rintro ⟨i,out,⟨⟩⟩ ⟨h0,h1,h2⟩;dsimp only at h0 h1 h2 |-;obtain ⟨k,rfl⟩:=cy3 h0;simp only [cy0] at h2 |-;refine ⟨λa=>?_,λd=>?_⟩
 .have a:(k:Int)<m.length:=cy7 a;have b:=aN0 l (m.take k);rw [<-h2,cA6] at b;refine ⟨⟨h0,a⟩,by omega,((k+1:Nat),C9 l (m.take (k+1)),()),by trivial,by trivial,B3 (by omega) c.len,?_,⟨by omega,by dsimp only;omega,by rw [cy0]⟩,by dsimp only;omega⟩;rw [A4 (by omega) 0,bf6,h2]
 .have f:k=m.length:=by have:¬ (k:Int)<m.length:=cy6 d;omega
  subst f;rw [cA5] at h2;rw [h2])
theorem aJ4:D0 prog RG 35 cUnion:=E5 (A5 bo3 (A5 bf7 C0)) (λp=>bP7 p.1 p.2.1) (by kernel_rfl) (by kernel_rfl) (by kernel_rfl) λ(l,m,()) a=>cc1 l m a
theorem bD6 (n:Nat) (b c:Int) (d e:List Int) (a:List Ins) (f g:Int) (h i:List Int) (j:List Ins) (l:as6 a+1<n+1):vc (EV [(34,cEqual),(64,cSameCode.below P8 n)]) noL Go.Proofs.Tryd.f57 (cSameIns.below V1 (n+1)) (b,c,d,e,a,f,g,h,i,j,()):=(bD4 n b c d e a f g h i j).mpr (by
 intro k _ _ _ _ _ _;refine ⟨λ_=>⟨trivial,by show as6 a<n;omega⟩,?_⟩;simp only [k,insB];rfl)
theorem bf8 {x:Ins} {l:List Ins} (h:x∈l):insN x<as6 l:=by
 induction l with
 |nil=>simp at h
 |cons y r ih=>
  simp only [as6];rcases List.mem_cons.1 h with rfl|h
  .omega
  .have:=ih h;omega
theorem bP8 (x:Ins):insN x=as6 x.body+1:=by cases x;simp [insN]
theorem bo4 (x:Ins):Ins.mk x.op x.n x.to x.from_ x.body=x:=by cases x;rfl
theorem cc3 (x y:Ins):insB x y=decide (x=y):=by rw [Bool.eq_iff_iff,bx8,cz9]
theorem bo5 (n:Nat) (l m:List Ins) (r:as6 l<n+1):vc (EV [(57,cSameIns.below V1 n)]) (aJ3 l m) Go.Proofs.Tryd.f64 (cSameCode.below P8 (n+1)) (l,m,()):=(bo2 n l m).mpr (by
 intro d e g h;have j:l.length<=140737488355328:=g.len;have q:m.length<=140737488355328:=h.len;refine ⟨⟨(0,decide (l.length=m.length),()),rfl,rfl,rfl,rfl,?_,Int.le_refl _,by dsimp only;omega,by simp [e,X3]⟩,?_⟩
 .rw [Bool.eq_iff_iff];simp [e];omega
 dsimp only [e];rintro ⟨i,b,⟨⟩⟩ ⟨h0,h1,h2⟩;dsimp only at h0 h1 h2 |-;obtain ⟨k,rfl⟩:=cy3 h0;simp only [cy0] at h2 |-;have c:b=true<->(l.length=m.length/\l.take k=m.take k):=by rw [h2];simp [aI7]
 refine ⟨λa=>?_,λa=>?_⟩
 .simp only [cx9,cz9] at a;obtain ⟨a,o⟩:=a;obtain ⟨f,p⟩:=c.1 a;refine ⟨⟨h0,o⟩,⟨h0,by omega⟩,⟨trivial,?_⟩,((k+1:Nat),decide (l.getD k d=m.getD k d),()),by trivial,by trivial,by trivial,B3 (by omega) j,?_,⟨by omega,by dsimp only;omega,?_⟩,by dsimp only;omega⟩
  .have:=bf8 (F7 (l:=l) (i:=k) (by omega) d);rw [bP8] at this;show as6 (l.getD k d).body+1<n;omega
  .rw [bo4,bo4,cc3]
  .dsimp only;rw [cy0,Bool.eq_iff_iff,cx9,cz9,cz9,aI7,aJ1 d (by omega) (by omega)];simp [f,p]
 .have:b=X3 l m:=by
   rw [Bool.eq_iff_iff,aI7];exact aJ0 (by omega) c (by simp at a;cases b<;>simp at a |-;omega)
  rw [this])
theorem av6:∀ n,D0 prog RG 57 (cSameIns.below V1 n)/\D0 prog RG 64 (cSameCode.below P8 n)
 |0=>⟨E5 (k:=cSameIns.below V1 0) (fn:=Go.Proofs.Tryd.f57) C0 (λ_=>noL) (by kernel_rfl) (by kernel_rfl) (by kernel_rfl) (λxs a=>(Nat.not_lt_zero _ a.2).elim),E5 (k:=cSameCode.below P8 0) (fn:=Go.Proofs.Tryd.f64) C0 (λ_=>noL) (by kernel_rfl) (by kernel_rfl) (by kernel_rfl) (λxs a=>(Nat.not_lt_zero _ a.2).elim)⟩
 |n+1=>by
  obtain ⟨h1,h2⟩:=av6 n;refine ⟨E5 (k:=cSameIns.below V1 (n+1)) (l:=[(34,cEqual),(64,cSameCode.below P8 n)]) (A5 ao6 (A5 h2 C0)) (λ_=>noL) (by kernel_rfl) (by kernel_rfl) (by kernel_rfl) (λ(b,c,d,e,f,g,h,i,j,o,()) a=>bD6 n b c d e f g h i j o a.2),
   E5 (k:=cSameCode.below P8 (n+1)) (l:=[(57,cSameIns.below V1 n)]) (A5 h1 C0) (λp=>aJ3 p.1 p.2.1) (by kernel_rfl) (by kernel_rfl) (by kernel_rfl) (λ(l,m,()) a=>bo5 n l m a.2)⟩
theorem by1 {f:FuncId} {k:Con RU} {m:Dens RU.T k.params->Nat} (h:∀ n,D0 prog RG f (k.below m n)):D0 prog RG f k:=
 λY=>⟨(h 0 Y).1,λxs a=>(h (m xs+1) Y).2 xs ⟨a,Nat.lt_succ_self _⟩⟩
theorem as7:D0 prog RG 57 cSameIns:=by1 λn=>(av6 n).1
theorem aN1:D0 prog RG 64 cSameCode:=by1 λn=>(av6 n).2
theorem aW8:D0 prog RG 24 cSameVec:=E5 (A5 ao6 (A5 aN1 C0)) (λ_=>noL) (by kernel_rfl) (by kernel_rfl) (by kernel_rfl) λ(a,b,c,d,e,f,g,h,()) _=>(bD5 a b c d e f g h).mpr (by
 intros;rfl)
def cOwn:Con RU:=con [one] [ints] [one] [ints] [true] (some λp=>p.1.length<=17592186044416) λp=>(p.1,())
def cIndex:Con RU:=con [one,one] [ints,i64] [one] [i64] [false] none λp=>(B8 p.1 p.2.1,())
def bP9 (l:List Int) (n:Int):Nat->St RU->Ann RU:=λ_ _=>⟨[],[.slot 8],[i64],λp=>0<=p.1/\p.1<=l.length/\∀ i:Nat,i<p.1.toNat->l.getD i 0≠n,λp=>l.length-p.1.toNat,[]⟩
def cContains:Con RU:=con [one,one] [ints,i64] [one] [.bool] [false] none λp=>(p.1.contains p.2.1,())
def I1 (first last place:Int):Bool:=!(decide (first=0)&&decide (last=-1))&&decide (first<=place)&&decide (place<=last)
def cAt:Con RU:=con [(true,2),one] [i64,i64,i64] [one] [.bool] [false] none λp=>(I1 p.1 p.2.1 p.2.2.1,())
def cCount:Con RU:=con [(true,5)] bP3 [one,one] [i64,i64] [false,false] none λp=>((ad1 ⟨p.1,p.2.1,p.2.2.1,p.2.2.2.1,p.2.2.2.2.1⟩).1,(ad1 ⟨p.1,p.2.1,p.2.2.1,p.2.2.2.1,p.2.2.2.2.1⟩).2,())
def L1 (k:Int) (l:List RIns):Int:=l.foldl (λn x=>if x.kind=k then n+1 else n) 0
def bQ0 (l:List RIns):Nat->St RU->Ann RU:=λ_ _=>⟨[],[.slot 9,.slot 2,.slot 3],[i64,i64,i64],λp=>0<=p.1/\p.1<=l.length/\p.2.1=L1 1 (l.take p.1.toNat)/\p.2.2.1=L1 2 (l.take p.1.toNat),λp=>l.length-p.1.toNat,[]⟩
def bo6 (l:List RIns):Nat->St RU->Ann RU:=λ_ _=>⟨[],[.slot 6,.slot 4,.slot 5],[i64,i64,i64],λp=>0<=p.1/\p.1<=l.length/\p.2.1=L1 1 (l.take p.1.toNat)/\p.2.2.1=L1 2 (l.take p.1.toNat),λp=>l.length-p.1.toNat,[]⟩
abbrev cu6:List (TypeId×List Nat):=[(52,[2,3])]
def cBody:Con RU:=⟨[one],[inss],[.d 0],[],some λp=>p.1.length<=1599289640354/\K0 p.1=true,none,[one],[inss],[.dp 0],[.dp 0 [2,3]],λp=>(p.1,()),[],[],[]⟩
def bo7:Dens RU.T cBody.params->Nat:=λp=>as6 p.1
def cl4 (l:List Ins):Nat->St RU->Ann RU:=λ_ _=>⟨[3],[.slot 8,.row 7],[i64,inss],λp=>0<=p.1/\p.1<=l.length/\p.2.1=l.take p.1.toNat,λp=>l.length-p.1.toNat,[(.deep 3 [2,3],7,52,.user 0)]⟩
theorem cu7 (l:List Int):vc (EV []) noL Go.Proofs.Tryd.f72 cOwn (l,())=(let a:Int:=
  (↑(List.length
  (List.take (List.length (List.replicate (Int.toNat (↑(List.length l):Int)) (0:Int))) l++List.drop (List.length l) (List.replicate (Int.toNat (↑(List.length l):Int)) (0:Int)))):
  Int);
 let b:List Int:=List.replicate (Int.toNat (↑(List.length l):Int)) (0:Int);
  Small RU (Sigma.mk (Ty.slice (3:Nat) (Ty.int IntKind.i64)) l)->
  ((0:Int)<=(↑(List.length l):Int)/\(↑(List.length l):Int)*(↑(8:Nat):Int)<=(↑(140737488355328:Nat):Int))/\
  (a=a/\a=a)/\(List.take (List.length b) l++List.drop (List.length l) b,())=(l,())):=by kernel_rfl
theorem cc4 (l:List Int) (n:Int):vc (EV []) (bP9 l n) Go.Proofs.Tryd.f93 cIndex (l,n,())=(let a:Int:=(↑(List.length l):Int);
  Small RU (Sigma.mk (Ty.slice (3:Nat) (Ty.int IntKind.i64)) l)->
  (∃ (p:Int×Unit),l=l/\n=n/\a=a/\(0:Int)=p.1/\(0:Int)<=p.1/\p.1<=a/\∀ (i:Nat),i<Int.toNat p.1->List.getD l i (0:Int)≠n)/\
  ∀ (p:Int×Unit),
 let e0_1:Bool:=decide (p.1<a);
 let b:Bool:=n==List.getD l (Int.toNat p.1) (0:Int);
  ((0:Int)<=p.1/\p.1<=a/\∀ (i:Nat),i<Int.toNat p.1->List.getD l i (0:Int)≠n)->
  (e0_1=true->
  ((0:Int)<=p.1/\p.1<a)/\
  (b=true->(p.1,())=(B8 l n,()))/\
  (b=false->
  ∃ (p':Int×Unit),
  l=l/\
  n=n/\
  a=a/\
  IntKind.i64.wrap (p.1+(1:Int))=p'.1/\
  ((0:Int)<=p'.1/\p'.1<=a/\∀ (i:Nat),i<Int.toNat p'.1->List.getD l i (0:Int)≠n)/\
  List.length l-Int.toNat p'.1<List.length l-Int.toNat p.1))/\
  (e0_1=false->((-1:Int),())=(B8 l n,()))):=by kernel_rfl
theorem bo8 (l:List Int) (n:Int):vc (EV [(93,cIndex)]) noL Go.Proofs.Tryd.f61 cContains (l,n,())=(Small RU (Sigma.mk (Ty.slice (3:Nat) (Ty.int IntKind.i64)) l)->(decide (B8 l n>=(0:Int)),())=(List.contains l n,())):=by kernel_rfl
theorem cx1 (a b n:Int):vc (EV []) noL Go.Proofs.Tryd.f69 cAt (a,b,n,())=((!(a==(0:Int)&&(b==(-1:Int)&&true))&&decide (a<=n)&&decide (n<=b),())=(I1 a b n,())):=by kernel_rfl
theorem cc5 (a b c:Int) (l:List RIns) (o:List Place):vc (EV []) (bQ0 l) Go.Proofs.Tryd.f17 cCount (a,b,c,l,o,())=(let e:Int:=(↑(List.length l):Int);
  Small RU (Sigma.mk (Ty.slice (55:Nat) (Ty.user (1:Nat))) l)->
  Small RU (Sigma.mk (Ty.slice (59:Nat) (Ty.user (2:Nat))) o)->
  (∃ (p:Int×Int×Int×Unit),
  a=a/\
  b=b/\
  c=c/\
  l=l/\
  o=o/\
  l=l/\
  e=e/\
  (0:Int)=p.1/\
  (0:Int)=p.2.1/\
  (0:Int)=p.2.2.1/\
  a=a/\
  b=b/\
  c=c/\
  l=l/\
  o=o/\
  (0:Int)<=p.1/\p.1<=e/\p.2.1=L1 (1:Int) (List.take (Int.toNat p.1) l)/\p.2.2.1=L1 (2:Int) (List.take (Int.toNat p.1) l))/\
  ∀ (p:Int×Int×Int×Unit),
 let e0_1:Bool:=(List.getD l (Int.toNat p.1) (RIns.mk (0:Int) (0:Int) (0:Int) ins0)).kind==(2:Int);
 let d:Bool:=(List.getD l (Int.toNat p.1) (RIns.mk (0:Int) (0:Int) (0:Int) ins0)).kind==(1:Int);
 let g:Int:=p.2.2.1;
 let h:Int:=p.2.1;
 let f:Int:=p.1;
 let i:Bool:=decide (f<e);
  (0:Int)<=f/\f<=e/\h=L1 (1:Int) (List.take (Int.toNat f) l)/\g=L1 (2:Int) (List.take (Int.toNat f) l)->
  (i=true->
  ((0:Int)<=f/\f<e)/\
  ∃ (p':Int×Int×Int×Unit),
  (bif d then a else bif e0_1 then a else a)=a/\
  (bif d then b else bif e0_1 then b else b)=b/\
  (bif d then c else bif e0_1 then c else c)=c/\
  (bif d then l else bif e0_1 then l else l)=l/\
  (bif d then o else bif e0_1 then o else o)=o/\
  (bif d then l else bif e0_1 then l else l)=l/\
  (bif d then e else bif e0_1 then e else e)=e/\
  IntKind.i64.wrap ((bif d then f else bif e0_1 then f else f)+(1:Int))=p'.1/\
  (bif d then IntKind.i64.wrap (h+(1:Int)) else bif e0_1 then h else h)=p'.2.1/\
  (bif d then g else bif e0_1 then IntKind.i64.wrap (g+(1:Int)) else g)=p'.2.2.1/\
  (bif d then a else bif e0_1 then a else a)=a/\
  (bif d then b else bif e0_1 then b else b)=b/\
  (bif d then c else bif e0_1 then c else c)=c/\
  (bif d then l else bif e0_1 then l else l)=l/\
  (bif d then o else bif e0_1 then o else o)=o/\
  ((0:Int)<=p'.1/\
  p'.1<=e/\p'.2.1=L1 (1:Int) (List.take (Int.toNat p'.1) l)/\p'.2.2.1=L1 (2:Int) (List.take (Int.toNat p'.1) l))/\
  List.length l-Int.toNat p'.1<List.length l-Int.toNat f)/\
  (i=false->(h,g,())=((ad1 (RCode.mk a b c l o)).1,(ad1 (RCode.mk a b c l o)).2,()))):=by kernel_rfl
theorem bQ1 (b c d:Int) (l:List RIns) (o:List Place):vc (EV []) (bo6 l) Go.Proofs.Tryd.f18 cCount (b,c,d,l,o,())=(let g:RIns:=RIns.mk (0:Int) (0:Int) (0:Int) ins0;
  Small RU (Sigma.mk (Ty.slice (55:Nat) (Ty.user (1:Nat))) l)->
  Small RU (Sigma.mk (Ty.slice (59:Nat) (Ty.user (2:Nat))) o)->
  (∃ (p:Int×Int×Int×Unit),
  b=b/\
  c=c/\
  d=d/\
  l=l/\
  o=o/\
  (0:Int)=(0:Int)/\
  (0:Int)=(0:Int)/\
  (0:Int)=p.1/\
  (0:Int)=p.2.1/\
  (0:Int)=p.2.2.1/\
  b=b/\
  c=c/\
  d=d/\
  l=l/\
  o=o/\
  (0:Int)<=p.1/\
  p.1<=(↑(List.length l):Int)/\
  p.2.1=L1 (1:Int) (List.take (Int.toNat p.1) l)/\p.2.2.1=L1 (2:Int) (List.take (Int.toNat p.1) l))/\
  ∀ (p:Int×Int×Int×Unit),
 let e0_1:Bool:=
  (List.getD (bif (List.getD l (Int.toNat p.1) g).kind==(1:Int) then l else l) (Int.toNat (bif (List.getD l (Int.toNat p.1) g).kind==(1:Int) then p.1 else p.1)) g).kind==
  (2:Int);
 let a:Bool:=(List.getD l (Int.toNat p.1) g).kind==(1:Int);
 let h:Int:=bif a then p.1 else p.1;
 let i:Bool:=decide (p.1<(↑(List.length l):Int));
 let f:Int:=p.2.2.1;
 let j:Int:=bif a then IntKind.i64.wrap (p.2.1+(1:Int)) else p.2.1;
 let e:Int:=p.1;
  (0:Int)<=e/\e<=(↑(List.length l):Int)/\p.2.1=L1 (1:Int) (List.take (Int.toNat e) l)/\f=L1 (2:Int) (List.take (Int.toNat e) l)->
  (i=true->
  ((0:Int)<=e/\e<(↑(List.length l):Int))/\
  ((0:Int)<=h/\h<(↑(List.length (bif a then l else l)):Int))/\
  ∃ (p':Int×Int×Int×Unit),
  (bif e0_1 then bif a then b else b else bif a then b else b)=b/\
  (bif e0_1 then bif a then c else c else bif a then c else c)=c/\
  (bif e0_1 then bif a then d else d else bif a then d else d)=d/\
  (bif e0_1 then bif a then l else l else bif a then l else l)=l/\
  (bif e0_1 then bif a then o else o else bif a then o else o)=o/\
  (bif e0_1 then bif a then (0:Int) else (0:Int) else bif a then (0:Int) else (0:Int))=(0:Int)/\
  (bif e0_1 then bif a then (0:Int) else (0:Int) else bif a then (0:Int) else (0:Int))=(0:Int)/\
  IntKind.i64.wrap ((bif e0_1 then h else h)+(1:Int))=p'.1/\
  (bif e0_1 then j else j)=p'.2.1/\
  (bif e0_1 then IntKind.i64.wrap ((bif a then f else f)+(1:Int)) else bif a then f else f)=p'.2.2.1/\
  (bif e0_1 then bif a then b else b else bif a then b else b)=b/\
  (bif e0_1 then bif a then c else c else bif a then c else c)=c/\
  (bif e0_1 then bif a then d else d else bif a then d else d)=d/\
  (bif e0_1 then bif a then l else l else bif a then l else l)=l/\
  (bif e0_1 then bif a then o else o else bif a then o else o)=o/\
  ((0:Int)<=p'.1/\
  p'.1<=(↑(List.length l):Int)/\
  p'.2.1=L1 (1:Int) (List.take (Int.toNat p'.1) l)/\p'.2.2.1=L1 (2:Int) (List.take (Int.toNat p'.1) l))/\
  List.length l-Int.toNat p'.1<List.length l-Int.toNat e)/\
  (i=false->(p.2.1,f,())=((ad1 (RCode.mk b c d l o)).1,(ad1 (RCode.mk b c d l o)).2,()))):=by kernel_rfl
theorem cl5 (l:List Ins):vc ((EVd cu6 noIt [(72,cOwn)]).set 96 (cBody.below bo7 (bo7 (l,())))) (cl4 l) Go.Proofs.Tryd.f96 cBody (l,())=(let b:Int:=(↑(List.length l):Int);
 let c:Ins:=Ins.mk (0:Int) (0:Int) [] [] [];
  Small RU (Sigma.mk (Ty.slice (52:Nat) (Ty.user (0:Nat))) l)->
  (∃ (p:Int×List Ins×Unit),l=l/\l=l/\b=b/\(0:Int)=p.1/\[]=p.2.1/\(0:Int)<=p.1/\p.1<=b/\p.2.1=List.take (Int.toNat p.1) l)/\
  ∀ (p:Int×List Ins×Unit),
 let e0_1:List Ins:=
  [Ins.mk (List.getD l (Int.toNat p.1) c).op (List.getD l (Int.toNat p.1) c).n (List.getD l (Int.toNat p.1) c).to (List.getD l (Int.toNat p.1) c).from_
  (List.getD l (Int.toNat p.1) c).body];
 let e1_1:List Ins:=p.2.1;
 let e:Bool:=decide (p.1<b);
 let a:Int:=p.1;
 let d:List Ins:=(List.getD l (Int.toNat a) c).body;
  (0:Int)<=a/\a<=b/\e1_1=List.take (Int.toNat a) l->
  (e=true->
  ((0:Int)<=a/\a<b)/\
  List.length (List.getD l (Int.toNat a) c).to<=(17592186044416:Nat)/\
  List.length (List.getD l (Int.toNat a) c).from_<=(17592186044416:Nat)/\
  ((List.length d<=(1599289640354:Nat)/\K0 d=true)/\bo7 (d,())<bo7 (l,()))/\
  (List.length e1_1+List.length e0_1)*(88:Nat)<=(140737488355328:Nat)/\
  ∃ (p':Int×List Ins×Unit),
  l=l/\
  l=l/\
  b=b/\
  IntKind.i64.wrap (a+(1:Int))=p'.1/\
  e1_1++e0_1=p'.2.1/\
  ((0:Int)<=p'.1/\p'.1<=b/\p'.2.1=List.take (Int.toNat p'.1) l)/\List.length l-Int.toNat p'.1<List.length l-Int.toNat a)/\
  (e=false->(e1_1,())=(l,()))):=by kernel_rfl
theorem cu8 (l:List Int) (b:l.length<=17592186044416):vc (EV []) noL Go.Proofs.Tryd.f72 cOwn (l,()):=(cu7 l).mpr (by
 intro c a hs;refine ⟨⟨by omega,by omega⟩,⟨rfl,rfl⟩,?_⟩;simp [a])
theorem bQ2:D0 prog RG 72 cOwn:=E5 C0 (λ_=>noL) (by kernel_rfl) (by kernel_rfl) (by kernel_rfl) λ(l,()) a=>cu8 l a
theorem cc6 (l:List Int) (n:Int):vc (EV []) (bP9 l n) Go.Proofs.Tryd.f93 cIndex (l,n,()):=(cc4 l n).mpr (by
 intro e hs;have c:l.length<=140737488355328:=hs.len;refine ⟨⟨(0,()),rfl,rfl,rfl,rfl,Int.le_refl _,by dsimp only [e];omega,λi g=>by simp at g⟩,?_⟩;dsimp only [e];rintro ⟨i,⟨⟩⟩ ⟨h,o,d⟩;dsimp only at h o d |-;obtain ⟨m,rfl⟩:=cy3 h;simp only [cy0] at d |-;refine ⟨λa=>?_,λf=>?_⟩
 .have a:(m:Int)<l.length:=cy7 a;refine ⟨⟨h,a⟩,λb=>?_,λb=>⟨((m+1:Nat),()),by trivial,by trivial,by trivial,B3 (k:=m) (by omega) c,⟨by omega,by dsimp only;omega,λi g=>?_⟩,by dsimp only;omega⟩⟩
  .have b:n=l.getD m 0:=eq_of_beq b;rw [aW5 (by omega) d b.symm]
  .have b:n≠l.getD m 0:=by simpa using b
   rw [cy0] at g;by_cases j:i=m
   .subst j;exact b.symm
   .exact d i (by omega)
 .have f:¬ (m:Int)<l.length:=cy6 f;rw [av4 (λi g=>d i (by omega))])
theorem bo9:D0 prog RG 93 cIndex:=E5 C0 (λp=>bP9 p.1 p.2.1) (by kernel_rfl) (by kernel_rfl) (by kernel_rfl) λ(l,n,()) _=>cc6 l n
theorem S3 (l:List Int) (n:Int):decide (B8 l n>=0)=l.contains n:=by rw [Bool.eq_iff_iff,cz9,List.contains_iff_mem];exact aa4
theorem N8:D0 prog RG 61 cContains:=E5 (A5 bo9 C0) (λ_=>noL) (by kernel_rfl) (by kernel_rfl) (by kernel_rfl) λ(l,n,()) _=>(bo8 l n).mpr (by
 intro _;rw [S3])
theorem by2:D0 prog RG 69 cAt:=E5 C0 (λ_=>noL) (by kernel_rfl) (by kernel_rfl) (by kernel_rfl) λ(a,b,n,()) _=>(cx1 a b n).mpr (by
 simp only [I1,Bool.and_true];rfl)
theorem av7 (k:Int) (l:List RIns) (x:RIns):L1 k (l++[x])=if x.kind=k then L1 k l+1 else L1 k l:=by simp [L1]
theorem cc7 (k:Int) (l:List RIns):0<=L1 k l/\L1 k l<=l.length:=by
 unfold L1
 suffices h:∀ (l:List RIns) (a:Int),a<=l.foldl (λn x=>if x.kind=k then n+1 else n) a/\l.foldl (λn x=>if x.kind=k then n+1 else n) a<=a+l.length by have:=h l 0;omega
 intro l
 induction l with
 |nil=>intro a;simp
 |cons x r ih=>intro a;simp only [List.foldl_cons,cz3];have:=ih (if x.kind=k then a+1 else a);split at this<;>rename_i b<;>simp only [b,if_true,if_false]<;>omega
theorem ak5 {l:List RIns} {i:Nat} (h:i<l.length) (hl:l.length<=140737488355328) (k:Int) (d:RIns):L1 k (l.take (i+1))=if (l.getD i d).kind=k then IntKind.i64.wrap (L1 k (l.take i)+1) else L1 k (l.take i):=by have:=cc7 k (l.take i);rw [cA6] at this;rw [A4 h d,av7,M1 (by omega) (by omega)]
theorem cc8 (g h j:Int) (l:List RIns) (o:List Place):vc (EV []) (bQ0 l) Go.Proofs.Tryd.f17 cCount (g,h,j,l,o,()):=(cc5 g h j l o).mpr (by
 intro e hs _;have c:l.length<=140737488355328:=hs.len;refine ⟨⟨(0,0,0,()),?_⟩,?_⟩
 .simp [e,L1]
 dsimp only [e];rintro ⟨i,a,b,⟨⟩⟩ ⟨h0,h1,h2,h3⟩;dsimp only at h0 h1 h2 h3 |-;obtain ⟨m,rfl⟩:=cy3 h0;simp only [cy0,Bool.cond_self,true_and] at h2 h3 |-;refine ⟨λd=>?_,λf=>?_⟩
 .have d:(m:Int)<l.length:=cy7 d;refine ⟨⟨h0,d⟩,((m+1:Nat),L1 1 (l.take (m+1)),L1 2 (l.take (m+1)),()),B3 (by omega) c,?_,?_,⟨by omega,by dsimp only;omega,by rw [cy0],by rw [cy0]⟩,by dsimp only;omega⟩
  .dsimp only;rw [ak5 (by omega) c 1 ⟨0,0,0,ins0⟩,<-h2];simp only [cz0,beq_iff_eq,ite_self]
  .dsimp only;rw [ak5 (by omega) c 2 ⟨0,0,0,ins0⟩,<-h3];by_cases k:(l.getD m ⟨0,0,0,ins0⟩).kind=1
   .simp only [k,beq_self_eq_true,cond_true];rfl
   .simp only [cz0,beq_iff_eq,if_neg k]
 .have n:m=l.length:=by have:¬ (m:Int)<l.length:=cy6 f;omega
  subst n;rw [cA5] at h2 h3;rw [h2,h3];rfl)
theorem aJ5:D0 prog RG 17 cCount:=E5 C0 (λp=>bQ0 p.2.2.2.1) (by kernel_rfl) (by kernel_rfl) (by kernel_rfl) λ(a,b,c,l,o,()) _=>cc8 a b c l o
theorem bQ3 (g h j:Int) (l:List RIns) (o:List Place):vc (EV []) (bo6 l) Go.Proofs.Tryd.f18 cCount (g,h,j,l,o,()):=(bQ1 g h j l o).mpr (by
 intro e hs _;have c:l.length<=140737488355328:=hs.len;refine ⟨⟨(0,0,0,()),?_⟩,?_⟩
 .simp [L1]
 dsimp only [e];rintro ⟨i,a,b,⟨⟩⟩ ⟨h0,h1,h2,h3⟩;dsimp only at h0 h1 h2 h3 |-;obtain ⟨m,rfl⟩:=cy3 h0;simp only [cy0,Bool.cond_self,true_and] at h2 h3 |-;refine ⟨λd=>?_,λf=>?_⟩
 .have d:(m:Int)<l.length:=cy7 d;refine ⟨⟨h0,d⟩,⟨h0,d⟩,((m+1:Nat),L1 1 (l.take (m+1)),L1 2 (l.take (m+1)),()),B3 (by omega) c,?_,?_,⟨by omega,by dsimp only;omega,by rw [cy0],by rw [cy0]⟩,by dsimp only;omega⟩
  .dsimp only;rw [ak5 (by omega) c 1 ⟨0,0,0,ins0⟩,<-h2];simp only [cz0,beq_iff_eq,ite_self]
  .dsimp only;rw [ak5 (by omega) c 2 ⟨0,0,0,ins0⟩,<-h3];simp only [cz0,beq_iff_eq]
 .have k:m=l.length:=by have:¬ (m:Int)<l.length:=cy6 f;omega
  subst k;rw [cA5] at h2 h3;rw [h2,h3];rfl)
theorem bf9:D0 prog RG 18 cCount:=E5 C0 (λp=>bo6 p.2.2.2.1) (by kernel_rfl) (by kernel_rfl) (by kernel_rfl) λ(a,b,c,l,o,()) _=>bQ3 a b c l o
theorem bQ4 {x:Ins} {l:List Ins} (h:K0 l=true) (a:x∈l):aI8 x=true:=by
 induction l with
 |nil=>simp at a
 |cons y r ih=>
  simp only [K0,cx9] at h;rcases List.mem_cons.1 a with rfl|a
  .exact h.1
  .exact ih h.2 a
theorem W4 (x:Ins):aI8 x=true<->(x.to.length<=17592186044416/\x.from_.length<=17592186044416/\x.body.length<=1599289640354)/\K0 x.body=true:=by
 cases x;simp only [aI8,cx9,cz9];constructor
 .rintro ⟨⟨⟨a,b⟩,c⟩,d⟩;exact ⟨⟨a,b,c⟩,d⟩
 .rintro ⟨⟨a,b,c⟩,d⟩;exact ⟨⟨⟨a,b⟩,c⟩,d⟩
theorem cl6 (l:List Ins) (g:l.length<=1599289640354/\K0 l=true):vc ((EVd cu6 noIt [(72,cOwn)]).set 96 (cBody.below bo7 (bo7 (l,())))) (cl4 l) Go.Proofs.Tryd.f96 cBody (l,()):=(cl5 l).mpr (by
 intro e d hs;have c:l.length<=140737488355328:=hs.len;refine ⟨⟨(0,[],()),rfl,rfl,rfl,rfl,rfl,Int.le_refl _,by dsimp only [e];omega,rfl⟩,?_⟩;dsimp only [e];rintro ⟨i,out,⟨⟩⟩ ⟨h0,h1,h2⟩;dsimp only at h0 h1 h2 |-;obtain ⟨m,rfl⟩:=cy3 h0;simp only [cy0,true_and] at h2 |-;subst h2;refine ⟨λb=>?_,λf=>?_⟩
 .have b:(m:Int)<l.length:=cy7 b;have a:=F7 (l:=l) (i:=m) (by omega) d;obtain ⟨⟨h,j,k⟩,n⟩:=(W4 _).1 (bQ4 g.2 a);have o:=bf8 a;rw [bP8] at o;refine ⟨⟨h0,b⟩,h,j,⟨⟨k,n⟩,by show as6 (l.getD m d).body<as6 l;omega⟩,?_,((m+1:Nat),l.take (m+1),()),B3 (by omega) c,?_,⟨by omega,by dsimp only;omega,by rw [cy0]⟩,by dsimp only;omega⟩
  .simp only [cA6,cA1];omega
  .rw [A4 (by omega) d,bo4]
 .have p:m=l.length:=by have:¬ (m:Int)<l.length:=cy6 f;omega
  subst p;rw [cA5])
theorem aQ8:D0 prog RG 96 cBody:=bP2 bP1 (A5 bQ2 C0) bo7 (λp=>cl4 p.1) (by kernel_rfl) (by kernel_rfl) (by kernel_rfl) λ(l,()) a=>cl6 l a
abbrev eqI:Int->Int->Bool:=λx y=>x==y
def hasB (m:List (Int×Bool)) (n:Int):Bool:=(mget eqI m n).getD false
def putB (m:List (Int×Bool)) (n:Int) (b:Bool):List (Int×Bool):=mput eqI m n b
def E8 (code:List Ins):List (Int×Bool):=code.flatMap λx=>x.from_.map (λn=>(n,false))++x.to.map (λn=>(n,true))
def E4 (code:List Ins) (out:List Int):List (Int×Bool):=E8 code++out.map λn=>(n,false)
def D3 {α S:Type} (step:S->α->Bool×S):List α->S->Bool×S
 |[],s=>(false,s)
 |x::r,s=>if (step s x).1 then (true,(step s x).2) else D3 step r (step s x).2
def F8 (e:Int) (x:Int×Bool):Bool×Int:=if x.1<0\/4000<=x.1 then (true,2) else (false,e)
def E7 (params:Int) (s:Int×List (Int×Bool)) (x:Int×Bool):Bool×(Int×List (Int×Bool)):=
 if x.2&&(hasB s.2 x.1||decide (x.1<params)) then (true,5,s.2) else (false,s.1,putB s.2 x.1 (hasB s.2 x.1||x.2))
def stOf (b:Bool):Int:=if b then 1 else 0
def cNamed:Con RU:=⟨[(true,4)],ag6,[.d 0,.d 1,.d 2,.d 3],[],none,none,[one],ag6,[.clo 97 [0]],[.box 25 [.d 0,.d 1,.d 2,.d 3]],λp=>p,[],[],[]⟩
def Y8:Con RU:=⟨[one,one,one],[i64,.bool,i64,i64],[.d 0,.d 1,.yld 0],[.loop 2,.box 32 [.d 3]],some λp=>p.2.2.1=0,none,[one],[.bool,i64,i64],[.d 0],[.loop 1,.box 32 [.d 2]],
 λp=>(!(F8 p.2.2.2.1 (p.1,p.2.1)).1,stOf (F8 p.2.2.2.1 (p.1,p.2.1)).1,(F8 p.2.2.2.1 (p.1,p.2.1)).2,()),[],[(0,0),(1,1)],[(1,1000001)]⟩
def aW9:Con RU:=⟨[one,one],[i64,i64,i64,inss,ints,ints],[.yld 0,.ptr 2 0],[.loop 0,.box 32 [.d 1],.box 25 [.d 2,.d 3,.d 4,.d 5]],some λp=>p.1=0,none,[],[i64,i64],[],[.loop 0,.box 32 [.d 1],.box 25 [.un,.un,.un,.un]],
 λp=>(stOf (D3 F8 (E4 p.2.2.2.1 p.2.2.2.2.1) p.2.1).1,(D3 F8 (E4 p.2.2.2.1 p.2.2.2.2.1) p.2.1).2,()),[],[(0,0),(1,1)],[(1,128)]⟩
def Y9:Con RU:=⟨[one,one,one],[i64,.bool,i64,i64,mapB,i64,inss,ints,ints],[.d 0,.d 1,.yld 0],[.loop 2,.box 32 [.d 3],.box 117 [.map 3],.map 4,.box 25 [.d 5,.d 6,.d 7,.d 8]],some λp=>p.2.2.1=0,none,
 [one],[.bool,i64,i64,mapB,i64,inss,ints,ints],[.d 0],[.loop 1,.box 32 [.d 2],.box 117 [.map 3],.map 3,.box 25 [.d 4,.d 5,.d 6,.d 7]],
 λp=>(!(E7 p.2.2.2.2.2.1 (p.2.2.2.1,p.2.2.2.2.1) (p.1,p.2.1)).1,stOf (E7 p.2.2.2.2.2.1 (p.2.2.2.1,p.2.2.2.2.1) (p.1,p.2.1)).1,(E7 p.2.2.2.2.2.1 (p.2.2.2.1,p.2.2.2.2.1) (p.1,p.2.1)).2.1,(E7 p.2.2.2.2.2.1 (p.2.2.2.1,p.2.2.2.2.1) (p.1,p.2.1)).2.2,p.2.2.2.2.2),[4],[(0,0),(1,1),(2,2),(3,3),(4,4)],[(1,1000001),(2,1000002),(4,1000004)]⟩
def aX0:Con RU:=⟨[one,one],[i64,i64,mapB,i64,inss,ints,ints,i64,inss,ints,ints],[.yld 0,.ptr 5 0],[.loop 0,.box 32 [.d 1],.box 117 [.map 3],.map 2,.box 25 [.d 3,.d 4,.d 5,.d 6],.box 25 [.d 7,.d 8,.d 9,.d 10]],some λp=>p.1=0,none,
 [],[i64,i64,mapB,i64,inss,ints,ints],[],[.loop 0,.box 32 [.d 1],.box 117 [.map 3],.map 2,.box 25 [.d 3,.d 4,.d 5,.d 6],.box 25 [.un,.un,.un,.un]],
 λp=>(stOf (D3 (E7 p.2.2.2.1) (E4 p.2.2.2.2.2.2.2.2.1 p.2.2.2.2.2.2.2.2.2.1) (p.2.1,p.2.2.1)).1,(D3 (E7 p.2.2.2.1) (E4 p.2.2.2.2.2.2.2.2.1 p.2.2.2.2.2.2.2.2.2.1) (p.2.1,p.2.2.1)).2.1,(D3 (E7 p.2.2.2.1) (E4 p.2.2.2.2.2.2.2.2.1 p.2.2.2.2.2.2.2.2.2.1) (p.2.1,p.2.2.1)).2.2,p.2.2.2.1,p.2.2.2.2.1,p.2.2.2.2.2.1,p.2.2.2.2.2.2.1,()),[4],[(0,0),(1,1),(2,2),(3,3),(4,4)],[(1,128),(2,256),(4,64)]⟩
def itCheck:FuncId->List (Con RU×Con RU×List (Nat×Nat)):=λf=>bif Nat.beq f 97 then [(aX0,Y9,[(0,0),(1,1),(2,2),(3,3),(4,4)]),(aW9,Y8,[(0,0),(1,1)])] else []
def cIs (tys:List Ty) (objs:List OPat) (caps:List Nat) (is:Dens RU.T tys->Int->Bool):Con RU:=
 ⟨one::caps.map (λ_=>one),i64::tys,.d 0::caps.map (λc=>.ptr c 0),objs,none,none,[one],.bool::tys,[.d 0],objs,λp=>(is p.2 p.1,p.2),List.range objs.length,[],[]⟩
def cIsN (f:Nat) (tys:List Ty) (objs1:List OPat) (caps:List Nat) (is:Dens RU.T tys->Int->Bool):Con RU:=
 ⟨[one,one],i64::tys,[.d 0,.ptr 0 0],.box 109 [.clo f (caps.map (·+1))]::objs1,none,none,[one],.bool::tys,[.d 0],.box 109 [.clo f (caps.map (·+1))]::objs1,λp=>(!(is p.2 p.1),p.2),List.range (objs1.length+1),[],[]⟩
def ao7 (f:Nat) (tys:List Ty) (objs1:List OPat) (caps:List Nat) (is:Dens RU.T tys->Int->Bool):Con RU:=
 ⟨[one,one],ints::tys,[.d 0,.clo 99 [0]],.box 109 [.clo f (caps.map (·+1))]::objs1,none,none,[one],i64::tys,[.d 0],.box 109 [.clo f (caps.map (·+1))]::objs1,λp=>(((p.1.findIdx? (λn=>!(is p.2 n))).map (λ(i:Nat)=>(i:Int))).getD (-1),p.2),List.range (objs1.length+1),[],[]⟩
def ao8 (f:Nat) (tys:List Ty) (objs1:List OPat) (caps:List Nat) (is:Dens RU.T tys->Int->Bool):Con RU:=
 ⟨[one,one],ints::tys,[.d 0,.clo 99 [0]],.box 109 [.clo f (caps.map (·+1))]::objs1,none,none,[one],.bool::tys,[.d 0],.box 109 [.clo f (caps.map (·+1))]::objs1,λp=>(!(p.1.all (is p.2)),p.2),List.range (objs1.length+1),[],[]⟩
def cAll (f:Nat) (tys:List Ty) (objs:List OPat) (caps:List Nat) (is:Dens RU.T tys->Int->Bool):Con RU:=
 ⟨[one,one],ints::tys,[.d 0,.clo f caps],objs,none,none,[one],.bool::tys,[.d 0],objs,λp=>(p.1.all (is p.2),p.2),List.range objs.length,[],[]⟩
def aX1 (l:List Int) (is:Int->Bool):Nat->St RU->Ann RU:=λ_ _=>⟨[],[.slot 8],[i64],λp=>0<=p.1/\p.1<=l.length/\(l.take p.1.toNat).all is=true,λp=>l.length-p.1.toNat,[]⟩
abbrev tysC:List Ty:=[i64,inss,ints,ints,mapB]
abbrev objC:List OPat:=[.box 25 [.d 1,.d 2,.d 3,.d 4],.box 117 [.map 2],.map 5]
abbrev ao9:List OPat:=[.box 25 [.d 1,.d 2,.d 3,.d 4],.box 117 [.map 3],.map 5]
def isC (p:Dens RU.T tysC) (n:Int):Bool:=decide (n<p.1)||hasB p.2.2.2.2.1 n
abbrev tysI:List Ty:=[i64]
abbrev objI:List OPat:=[.box 3 [.d 1]]
def isI (p:Dens RU.T tysI) (n:Int):Bool:=decide (0<=n)&&decide (n<p.1)
def cIn:Con RU:=con [one,one] [i64,ints] [one] [.bool] [false] none λp=>(p.2.1.all (λn=>decide (0<=n)&&decide (n<p.1)),())
abbrev eqP:Place->Place->Bool:=F6 RU (.user 2)
abbrev tysP:List Ty:=[mapP]
abbrev objP:List OPat:=[.box 83 [.map 1],.map 1]
abbrev ap0:List OPat:=[.box 83 [.map 2],.map 1]
def isP (p:Dens RU.T tysP) (s:Int):Bool:=(mget eqP p.1 ⟨false,s⟩).isSome
def bp0 (code:List Ins) (out:List Int) (e0:Int):Nat->St RU->Ann RU:=λk s=>match k with
 |0=>⟨[],[.slot 14,.row 1000000,.box 1000001 0],[i64,i64,i64],λp=>0<=p.1/\p.1<=code.length/\p.2.1=0/\D3 F8 (E8 (code.take p.1.toNat)) e0=(false,p.2.2.1),λp=>code.length-p.1.toNat,[]⟩
 |1=>⟨[],[.slot 21,.row 1000000,.box 1000001 0],[i64,i64,i64],λp=>0<=p.1/\p.1<=(code.getD (s.intAt 14).toNat ins0).from_.length/\p.2.1=0/\
   D3 F8 (E8 (code.take (s.intAt 14).toNat)++((code.getD (s.intAt 14).toNat ins0).from_.take p.1.toNat).map (λn=>(n,false))) e0=(false,p.2.2.1),λp=>(code.getD (s.intAt 14).toNat ins0).from_.length-p.1.toNat,[]⟩
 |2=>⟨[],[.slot 33,.row 1000000,.box 1000001 0],[i64,i64,i64],λp=>0<=p.1/\p.1<=(code.getD (s.intAt 14).toNat ins0).to.length/\p.2.1=0/\
   D3 F8 (E8 (code.take (s.intAt 14).toNat)++(code.getD (s.intAt 14).toNat ins0).from_.map (λn=>(n,false))++((code.getD (s.intAt 14).toNat ins0).to.take p.1.toNat).map (λn=>(n,true))) e0=(false,p.2.2.1),λp=>(code.getD (s.intAt 14).toNat ins0).to.length-p.1.toNat,[]⟩
 |_=>⟨[],[.slot 46,.row 1000000,.box 1000001 0],[i64,i64,i64],λp=>0<=p.1/\p.1<=out.length/\p.2.1=0/\D3 F8 (E8 code++(out.take p.1.toNat).map (λn=>(n,false))) e0=(false,p.2.2.1),λp=>out.length-p.1.toNat,[]⟩
def bp1 (params:Int) (code:List Ins) (out:List Int) (e0:Int) (m0:List (Int×Bool)):Nat->St RU->Ann RU:=λk s=>match k with
 |0=>⟨[],[.slot 14,.row 1000000,.box 1000001 0,.row 1000003],[i64,i64,i64,mapB],λp=>0<=p.1/\p.1<=code.length/\p.2.1=0/\D3 (E7 params) (E8 (code.take p.1.toNat)) (e0,m0)=(false,p.2.2.1,p.2.2.2.1),λp=>code.length-p.1.toNat,[]⟩
 |1=>⟨[],[.slot 21,.row 1000000,.box 1000001 0,.row 1000003],[i64,i64,i64,mapB],λp=>0<=p.1/\p.1<=(code.getD (s.intAt 14).toNat ins0).from_.length/\p.2.1=0/\
   D3 (E7 params) (E8 (code.take (s.intAt 14).toNat)++((code.getD (s.intAt 14).toNat ins0).from_.take p.1.toNat).map (λn=>(n,false))) (e0,m0)=(false,p.2.2.1,p.2.2.2.1),λp=>(code.getD (s.intAt 14).toNat ins0).from_.length-p.1.toNat,[]⟩
 |2=>⟨[],[.slot 33,.row 1000000,.box 1000001 0,.row 1000003],[i64,i64,i64,mapB],λp=>0<=p.1/\p.1<=(code.getD (s.intAt 14).toNat ins0).to.length/\p.2.1=0/\
   D3 (E7 params) (E8 (code.take (s.intAt 14).toNat)++(code.getD (s.intAt 14).toNat ins0).from_.map (λn=>(n,false))++((code.getD (s.intAt 14).toNat ins0).to.take p.1.toNat).map (λn=>(n,true))) (e0,m0)=(false,p.2.2.1,p.2.2.2.1),λp=>(code.getD (s.intAt 14).toNat ins0).to.length-p.1.toNat,[]⟩
 |_=>⟨[],[.slot 46,.row 1000000,.box 1000001 0,.row 1000003],[i64,i64,i64,mapB],λp=>0<=p.1/\p.1<=out.length/\p.2.1=0/\D3 (E7 params) (E8 code++(out.take p.1.toNat).map (λn=>(n,false))) (e0,m0)=(false,p.2.2.1,p.2.2.2.1),λp=>out.length-p.1.toNat,[]⟩
abbrev yl1:List (Nat×Nat):=[(0,0),(1,1)]
abbrev yl2:List (Nat×Nat):=[(0,0),(1,1),(2,2),(3,3),(4,4)]
theorem cc9 (a:Int) (b:List Ins) (c d:List Int):vc (EV []) noL Go.Proofs.Tryd.f76 cNamed (a,b,c,d,())=(let e:Int×List Ins×List Int×List Int×Unit:=(a,b,c,d,());
 Small RU (Sigma.mk (Ty.slice (52:Nat) (Ty.user (0:Nat))) b)->
 Small RU (Sigma.mk (Ty.slice (3:Nat) (Ty.int IntKind.i64)) c)->Small RU (Sigma.mk (Ty.slice (3:Nat) (Ty.int IntKind.i64)) d)->e=e):=by kernel_rfl
theorem cu9 (n a:Int) (b:List Ins) (c d:List Int) (m:List (Int×Bool)):vc (EV []) noL Go.Proofs.Tryd.f77 (cIs tysC objC [0,1] isC) (n,a,b,c,d,m,())=(let e:Int×List Ins×List Int×List Int×List (Int×Bool)×Unit:=(a,b,c,d,m,());
 Small RU (Sigma.mk (Ty.slice (52:Nat) (Ty.user (0:Nat))) b)->
 Small RU (Sigma.mk (Ty.slice (3:Nat) (Ty.int IntKind.i64)) c)->
 Small RU (Sigma.mk (Ty.slice (3:Nat) (Ty.int IntKind.i64)) d)->(decide (n<a)||Option.getD (mget (λ(x y:Int)=>x==y) m n) false,e)=(isC e n,e)):=by kernel_rfl
theorem cl7 (n a:Int) (b:List Ins) (c d:List Int) (m:List (Int×Bool)):vc (EV [(77,cIs tysC objC [0,1] isC)]) noL Go.Proofs.Tryd.f99 (cIsN 77 tysC ao9 [0,1] isC) (n,a,b,c,d,m,())=(let e:Bool×Int×List Ins×List Int×List Int×List (Int×Bool)×Unit:=(!isC (a,b,c,d,m,()) n,a,b,c,d,m,());
 Small RU (Sigma.mk (Ty.slice (52:Nat) (Ty.user (0:Nat))) b)->
 Small RU (Sigma.mk (Ty.slice (3:Nat) (Ty.int IntKind.i64)) c)->
 Small RU (Sigma.mk (Ty.slice (3:Nat) (Ty.int IntKind.i64)) d)->(((a=a/\b=b/\c=c/\d=d/\True)/\True)/\m=m/\True)/\e=e):=by kernel_rfl
theorem cl8 (l:List Int) (a:Int) (b:List Ins) (c d:List Int) (m:List (Int×Bool)):vc (EV [(99,cIsN 77 tysC ao9 [0,1] isC)]) (aX1 l (isC (a,b,c,d,m,()))) Go.Proofs.Tryd.f106 (ao7 77 tysC ao9 [0,1] isC) (l,a,b,c,d,m,())=(let f:Int×List Ins×List Int×List Int×List (Int×Bool)×Unit:=(a,b,c,d,m,());
 let g:Int×Int×List Ins×List Int×List Int×List (Int×Bool)×Unit:=
  (Option.getD (Option.map (λ(i:Nat)=>(↑i:Int)) (List.findIdx? (λ(n:Int)=>!isC f n) l)) (-1:Int),f);
 let e:Int:=(↑(List.length l):Int);
  Small RU (Sigma.mk (Ty.slice (3:Nat) (Ty.int IntKind.i64)) l)->
  Small RU (Sigma.mk (Ty.slice (52:Nat) (Ty.user (0:Nat))) b)->
  Small RU (Sigma.mk (Ty.slice (3:Nat) (Ty.int IntKind.i64)) c)->
  Small RU (Sigma.mk (Ty.slice (3:Nat) (Ty.int IntKind.i64)) d)->
  (∃ (p:Int×Unit),l=l/\e=e/\(0:Int)=p.1/\a=a/\b=b/\c=c/\d=d/\m=m/\(0:Int)<=p.1/\p.1<=e/\List.all (List.take (Int.toNat p.1) l) (isC f)=true)/\
  ∀ (p:Int×Unit),
 let e0_1:Bool:=decide (p.1<e);
 let e1_1:Bool:=!isC f (List.getD l (Int.toNat p.1) (0:Int));
  (0:Int)<=p.1/\p.1<=e/\List.all (List.take (Int.toNat p.1) l) (isC f)=true->
  (e0_1=true->
  ((0:Int)<=p.1/\p.1<e)/\
  (((True/\a=a/\b=b/\c=c/\d=d/\True)/\True)/\m=m/\True)/\
  (e1_1=true->(p.1,f)=g)/\
  (e1_1=false->
  ∃ (p':Int×Unit),
  l=l/\
  e=e/\
  IntKind.i64.wrap (p.1+(1:Int))=p'.1/\
  a=a/\
  b=b/\
  c=c/\
  d=d/\
  m=m/\
  ((0:Int)<=p'.1/\p'.1<=e/\List.all (List.take (Int.toNat p'.1) l) (isC f)=true)/\
  List.length l-Int.toNat p'.1<List.length l-Int.toNat p.1))/\
  (e0_1=false->((-1:Int),f)=g)):=by kernel_rfl
theorem cl9 (l:List Int) (a:Int) (b:List Ins) (c d:List Int) (m:List (Int×Bool)):vc (EV [(106,ao7 77 tysC ao9 [0,1] isC)]) noL Go.Proofs.Tryd.f98 (ao8 77 tysC ao9 [0,1] isC) (l,a,b,c,d,m,())=(let e:Int×List Ins×List Int×List Int×List (Int×Bool)×Unit:=(a,b,c,d,m,());
 Small RU (Sigma.mk (Ty.slice (3:Nat) (Ty.int IntKind.i64)) l)->
 Small RU (Sigma.mk (Ty.slice (52:Nat) (Ty.user (0:Nat))) b)->
 Small RU (Sigma.mk (Ty.slice (3:Nat) (Ty.int IntKind.i64)) c)->
 Small RU (Sigma.mk (Ty.slice (3:Nat) (Ty.int IntKind.i64)) d)->
 (((True/\a=a/\b=b/\c=c/\d=d/\True)/\True)/\m=m/\True)/\
 (decide (Option.getD (Option.map (λ(i:Nat)=>(↑i:Int)) (List.findIdx? (λ(n:Int)=>!isC e n) l)) (-1:Int)>=(0:Int)),e)=(!List.all l (isC e),e)):=by kernel_rfl
theorem cm0 (l:List Int) (a:Int) (b:List Ins) (c d:List Int) (m:List (Int×Bool)):vc (EV [(98,ao8 77 tysC ao9 [0,1] isC)]) noL Go.Proofs.Tryd.f78 (cAll 77 tysC objC [0,1] isC) (l,a,b,c,d,m,())=(let e:Int×List Ins×List Int×List Int×List (Int×Bool)×Unit:=(a,b,c,d,m,());
 Small RU (Sigma.mk (Ty.slice (3:Nat) (Ty.int IntKind.i64)) l)->
 Small RU (Sigma.mk (Ty.slice (52:Nat) (Ty.user (0:Nat))) b)->
 Small RU (Sigma.mk (Ty.slice (3:Nat) (Ty.int IntKind.i64)) c)->
 Small RU (Sigma.mk (Ty.slice (3:Nat) (Ty.int IntKind.i64)) d)->
 (((True/\a=a/\b=b/\c=c/\d=d/\True)/\True)/\m=m/\True)/\(!!List.all l (isC e),e)=(List.all l (isC e),e)):=by kernel_rfl
theorem cv0 (n a:Int):vc (EV []) noL Go.Proofs.Tryd.f105 (cIs tysI objI [0] isI) (n,a,())=((decide ((0:Int)<=n)&&decide (n<a),a,())=(isI (a,()) n,a,())):=by kernel_rfl
theorem cm1 (n a:Int):vc (EV [(105,cIs tysI objI [0] isI)]) noL Go.Proofs.Tryd.f99 (cIsN 105 tysI objI [0] isI) (n,a,())=(let b:Bool×Int×Unit:=(!isI (a,()) n,a,());
 (a=a/\True)/\b=b):=by kernel_rfl
theorem cm2 (l:List Int) (a:Int):vc (EV [(99,cIsN 105 tysI objI [0] isI)]) (aX1 l (isI (a,()))) Go.Proofs.Tryd.f106 (ao7 105 tysI objI [0] isI) (l,a,())=(let c:Int×Int×Unit:=(Option.getD (Option.map (λ(i:Nat)=>(↑i:Int)) (List.findIdx? (λ(n:Int)=>!isI (a,()) n) l)) (-1:Int),a,());
 let b:Int:=(↑(List.length l):Int);
  Small RU (Sigma.mk (Ty.slice (3:Nat) (Ty.int IntKind.i64)) l)->
  (∃ (p:Int×Unit),l=l/\b=b/\(0:Int)=p.1/\a=a/\(0:Int)<=p.1/\p.1<=b/\List.all (List.take (Int.toNat p.1) l) (isI (a,()))=true)/\
  ∀ (p:Int×Unit),
 let e0_1:Bool:=decide (p.1<b);
 let e1_1:Bool:=!isI (a,()) (List.getD l (Int.toNat p.1) (0:Int));
  (0:Int)<=p.1/\p.1<=b/\List.all (List.take (Int.toNat p.1) l) (isI (a,()))=true->
  (e0_1=true->
  ((0:Int)<=p.1/\p.1<b)/\
  (True/\a=a/\True)/\
  (e1_1=true->(p.1,a,())=c)/\
  (e1_1=false->
  ∃ (p':Int×Unit),
  l=l/\
  b=b/\
  IntKind.i64.wrap (p.1+(1:Int))=p'.1/\
  a=a/\
  ((0:Int)<=p'.1/\p'.1<=b/\List.all (List.take (Int.toNat p'.1) l) (isI (a,()))=true)/\
  List.length l-Int.toNat p'.1<List.length l-Int.toNat p.1))/\
  (e0_1=false->((-1:Int),a,())=c)):=by kernel_rfl
theorem cm3 (l:List Int) (a:Int):vc (EV [(106,ao7 105 tysI objI [0] isI)]) noL Go.Proofs.Tryd.f98 (ao8 105 tysI objI [0] isI) (l,a,())=(Small RU (Sigma.mk (Ty.slice (3:Nat) (Ty.int IntKind.i64)) l)->
 (True/\a=a/\True)/\
 (decide (Option.getD (Option.map (λ(i:Nat)=>(↑i:Int)) (List.findIdx? (λ(n:Int)=>!isI (a,()) n) l)) (-1:Int)>=(0:Int)),a,())=(!List.all l (isI (a,())),a,())):=by kernel_rfl
theorem cm4 (l:List Int) (a:Int):vc (EV [(98,ao8 105 tysI objI [0] isI)]) noL Go.Proofs.Tryd.f78 (cAll 105 tysI objI [0] isI) (l,a,())=(Small RU (Sigma.mk (Ty.slice (3:Nat) (Ty.int IntKind.i64)) l)->(True/\a=a/\True)/\(!!List.all l (isI (a,())),a,())=(List.all l (isI (a,())),a,())):=by kernel_rfl
theorem cx3 (a:Int) (l:List Int):vc (EV [(78,cAll 105 tysI objI [0] isI)]) noL Go.Proofs.Tryd.f92 cIn (a,l,())=(Small RU (Sigma.mk (Ty.slice (3:Nat) (Ty.int IntKind.i64)) l)->(a=a/\True)/\(List.all l (isI (a,())),())=(List.all l λ(n:den RU.T i64)=>decide ((0:Int)<=n)&&decide (n<a),())):=by kernel_rfl
theorem cv1 (n:Int) (m:List (Place×Int)):vc (EV []) noL Go.Proofs.Tryd.f89 (cIs tysP objP [0] isP) (n,m,())=(let a:List (Place×Int)×Unit:=(m,());
 (Option.isSome (mget (F6 RU (Ty.user (2:Nat))) m (Place.mk false n)),a)=(isP a n,a)):=by kernel_rfl
theorem cm5 (n:Int) (m:List (Place×Int)):vc (EV [(89,cIs tysP objP [0] isP)]) noL Go.Proofs.Tryd.f99 (cIsN 89 tysP ap0 [0] isP) (n,m,())=(let a:Bool×List (Place×Int)×Unit:=(!isP (m,()) n,m,());
 (True/\m=m/\True)/\a=a):=by kernel_rfl
theorem cm6 (l:List Int) (m:List (Place×Int)):vc (EV [(99,cIsN 89 tysP ap0 [0] isP)]) (aX1 l (isP (m,()))) Go.Proofs.Tryd.f106 (ao7 89 tysP ap0 [0] isP) (l,m,())=(let c:Int×List (Place×Int)×Unit:=(Option.getD (Option.map (λ(i:Nat)=>(↑i:Int)) (List.findIdx? (λ(n:Int)=>!isP (m,()) n) l)) (-1:Int),m,());
 let a:Int:=(↑(List.length l):Int);
 let b:List (Place×Int)×Unit:=(m,());
  Small RU (Sigma.mk (Ty.slice (3:Nat) (Ty.int IntKind.i64)) l)->
  (∃ (p:Int×Unit),l=l/\a=a/\(0:Int)=p.1/\m=m/\(0:Int)<=p.1/\p.1<=a/\List.all (List.take (Int.toNat p.1) l) (isP b)=true)/\
  ∀ (p:Int×Unit),
 let e0_1:Bool:=decide (p.1<a);
 let e1_1:Bool:=!isP b (List.getD l (Int.toNat p.1) (0:Int));
  (0:Int)<=p.1/\p.1<=a/\List.all (List.take (Int.toNat p.1) l) (isP b)=true->
  (e0_1=true->
  ((0:Int)<=p.1/\p.1<a)/\
  ((True/\True)/\m=m/\True)/\
  (e1_1=true->(p.1,b)=c)/\
  (e1_1=false->
  ∃ (p':Int×Unit),
  l=l/\
  a=a/\
  IntKind.i64.wrap (p.1+(1:Int))=p'.1/\
  m=m/\
  ((0:Int)<=p'.1/\p'.1<=a/\List.all (List.take (Int.toNat p'.1) l) (isP b)=true)/\List.length l-Int.toNat p'.1<List.length l-Int.toNat p.1))/\
  (e0_1=false->((-1:Int),b)=c)):=by kernel_rfl
theorem cm7 (l:List Int) (m:List (Place×Int)):vc (EV [(106,ao7 89 tysP ap0 [0] isP)]) noL Go.Proofs.Tryd.f98 (ao8 89 tysP ap0 [0] isP) (l,m,())=(let a:List (Place×Int)×Unit:=(m,());
 Small RU (Sigma.mk (Ty.slice (3:Nat) (Ty.int IntKind.i64)) l)->
 ((True/\True)/\m=m/\True)/\
 (decide (Option.getD (Option.map (λ(i:Nat)=>(↑i:Int)) (List.findIdx? (λ(n:Int)=>!isP a n) l)) (-1:Int)>=(0:Int)),a)=(!List.all l (isP a),a)):=by kernel_rfl
theorem cm8 (l:List Int) (m:List (Place×Int)):vc (EV [(98,ao8 89 tysP ap0 [0] isP)]) noL Go.Proofs.Tryd.f78 (cAll 89 tysP objP [0] isP) (l,m,())=(let a:List (Place×Int)×Unit:=(m,());
 Small RU (Sigma.mk (Ty.slice (3:Nat) (Ty.int IntKind.i64)) l)->((True/\True)/\m=m/\True)/\(!!List.all l (isP a),a)=(List.all l (isP a),a)):=by kernel_rfl
theorem bQ5 (st e a:Int) (b:List Ins) (c d:List Int):vc (EVy yl1 (some Y8) []) (bp0 b c e) Go.Proofs.Tryd.f97 aW9 (st,e,a,b,c,d,())=(let g:Ins:=Ins.mk (0:Int) (0:Int) [] [] [];
 let m:Int×Int×Unit:=(stOf (D3 F8 (E4 b c) e).1,(D3 F8 (E4 b c) e).2,());
 let h:Int:=(↑(List.length b):Int);
 let i:Int:=(↑(List.length c):Int);
  Small RU (Sigma.mk (Ty.slice (52:Nat) (Ty.user (0:Nat))) b)->
  Small RU (Sigma.mk (Ty.slice (3:Nat) (Ty.int IntKind.i64)) c)->
  Small RU (Sigma.mk (Ty.slice (3:Nat) (Ty.int IntKind.i64)) d)->
  (∃ (p:Int×Int×Int×Unit),
  b=b/\
  h=h/\
  (0:Int)=p.1/\
  st=p.2.1/\
  e=p.2.2.1/\
  a=a/\b=b/\c=c/\d=d/\(0:Int)<=p.1/\p.1<=h/\p.2.1=(0:Int)/\D3 F8 (E8 (List.take (Int.toNat p.1) b)) e=(false,p.2.2.1))/\
  ∀ (p:Int×Int×Int×Unit),
 let e0_1:Bool:=decide (p.1<h);
 let e1_1:Int:=(↑(List.length (List.getD b (Int.toNat p.1) g).from_):Int);
 let e2_1:List Int:=(List.getD b (Int.toNat p.1) g).to;
 let e3_1:List Int:=(List.getD b (Int.toNat p.1) g).from_;
 let f:Int:=p.1;
 let j:Nat:=List.length (List.getD b (Int.toNat f) ins0).from_;
 let k:Int:=(↑(List.length e2_1):Int);
 let l:Nat:=List.length (List.getD b (Int.toNat f) ins0).to;
 let o:Int:=p.2.2.1;
  (0:Int)<=f/\f<=h/\p.2.1=(0:Int)/\D3 F8 (E8 (List.take (Int.toNat f) b)) e=(false,o)->
  (e0_1=true->
  ((0:Int)<=f/\f<h)/\
  (∃ (p_1:Int×Int×Int×Unit),
  b=b/\
  h=h/\
  f=f/\
  e0_1=e0_1/\
  e3_1=e3_1/\
  e1_1=e1_1/\
  (0:Int)=p_1.1/\
  p.2.1=p_1.2.1/\
  o=p_1.2.2.1/\
  a=a/\
  b=b/\
  c=c/\
  d=d/\
  (List.getD b (Int.toNat f) g).op=(List.getD b (Int.toNat f) g).op/\
  (List.getD b (Int.toNat f) g).n=(List.getD b (Int.toNat f) g).n/\
  e2_1=e2_1/\
  e3_1=e3_1/\
  (List.getD b (Int.toNat f) g).body=(List.getD b (Int.toNat f) g).body/\
  (0:Int)<=p_1.1/\
  p_1.1<=(↑j:Int)/\
  p_1.2.1=(0:Int)/\
  D3 F8
  (E8 (List.take (Int.toNat f) b)++
  List.map (λ(n:Int)=>(n,false)) (List.take (Int.toNat p_1.1) (List.getD b (Int.toNat f) ins0).from_))
  e=
  (false,p_1.2.2.1))/\
  ∀ (p:Int×Int×Int×Unit),
 let e0_2:Bool:=decide (p.1<e1_1);
 let e1_2:Int:=p.1;
 let e2_2:Bool:=!!(F8 p.2.2.1 (List.getD e3_1 (Int.toNat e1_2) (0:Int),false)).1;
 let i:Int:=stOf (F8 p.2.2.1 (List.getD e3_1 (Int.toNat e1_2) (0:Int),false)).1;
 let e4_1:Int:=(F8 p.2.2.1 (List.getD e3_1 (Int.toNat e1_2) (0:Int),false)).2;
 let e5_1:Int:=p.2.2.1;
 let e6_1:List Int:=(List.getD b (Int.toNat f) ins0).from_;
  (0:Int)<=e1_2/\
  e1_2<=(↑j:Int)/\
  p.2.1=(0:Int)/\D3 F8 (E8 (List.take (Int.toNat f) b)++List.map (λ(n:Int)=>(n,false)) (List.take (Int.toNat e1_2) e6_1)) e=(false,e5_1)->
  (e0_2=true->
  ((0:Int)<=e1_2/\e1_2<e1_1)/\
  p.2.1=(0:Int)/\
  (e2_2=true->(i,e4_1,())=m)/\
  (e2_2=false->
  ∃ (p':Int×Int×Int×Unit),
  b=b/\
  h=h/\
  f=f/\
  e0_1=e0_1/\
  e3_1=e3_1/\
  e1_1=e1_1/\
  IntKind.i64.wrap (e1_2+(1:Int))=p'.1/\
  i=p'.2.1/\
  e4_1=p'.2.2.1/\
  a=a/\
  b=b/\
  c=c/\
  d=d/\
  (List.getD b (Int.toNat f) g).op=(List.getD b (Int.toNat f) g).op/\
  (List.getD b (Int.toNat f) g).n=(List.getD b (Int.toNat f) g).n/\
  e2_1=e2_1/\
  e3_1=e3_1/\
  (List.getD b (Int.toNat f) g).body=(List.getD b (Int.toNat f) g).body/\
  ((0:Int)<=p'.1/\
  p'.1<=(↑j:Int)/\
  p'.2.1=(0:Int)/\
  D3 F8
  (E8 (List.take (Int.toNat f) b)++
  List.map (λ(n:Int)=>(n,false)) (List.take (Int.toNat p'.1) e6_1))
  e=
  (false,p'.2.2.1))/\
  j-Int.toNat p'.1<j-Int.toNat e1_2))/\
  (e0_2=false->
  (∃ (p_1:Int×Int×Int×Unit),
  b=b/\
  h=h/\
  f=f/\
  e0_1=e0_1/\
  e3_1=e3_1/\
  e1_1=e1_1/\
  e1_2=e1_2/\
  e0_2=e0_2/\
  e2_1=e2_1/\
  k=k/\
  (0:Int)=p_1.1/\
  p.2.1=p_1.2.1/\
  e5_1=p_1.2.2.1/\
  a=a/\
  b=b/\
  c=c/\
  d=d/\
  (List.getD b (Int.toNat f) g).op=(List.getD b (Int.toNat f) g).op/\
  (List.getD b (Int.toNat f) g).n=(List.getD b (Int.toNat f) g).n/\
  e2_1=e2_1/\
  e3_1=e3_1/\
  (List.getD b (Int.toNat f) g).body=(List.getD b (Int.toNat f) g).body/\
  (0:Int)<=p_1.1/\
  p_1.1<=(↑l:Int)/\
  p_1.2.1=(0:Int)/\
  D3 F8
  (E8 (List.take (Int.toNat f) b)++List.map (λ(n:Int)=>(n,false)) e6_1++
  List.map (λ(n:Int)=>(n,true)) (List.take (Int.toNat p_1.1) (List.getD b (Int.toNat f) ins0).to))
  e=
  (false,p_1.2.2.1))/\
  ∀ (p:Int×Int×Int×Unit),
 let e0_3:Bool:=!!(F8 p.2.2.1 (List.getD e2_1 (Int.toNat p.1) (0:Int),true)).1;
 let e1_3:Int:=stOf (F8 p.2.2.1 (List.getD e2_1 (Int.toNat p.1) (0:Int),true)).1;
 let e2_3:Int:=(F8 p.2.2.1 (List.getD e2_1 (Int.toNat p.1) (0:Int),true)).2;
 let i:List (Int×Bool):=E8 (List.take (Int.toNat f) b)++List.map (λ(n:Int)=>(n,false)) e6_1;
 let e4_2:Int:=p.1;
 let j:Bool:=decide (e4_2<k);
 let e6_2:Int:=p.2.2.1;
  (0:Int)<=e4_2/\
  e4_2<=(↑l:Int)/\
  p.2.1=(0:Int)/\
  D3 F8 (i++List.map (λ(n:Int)=>(n,true)) (List.take (Int.toNat e4_2) (List.getD b (Int.toNat f) ins0).to)) e=(false,e6_2)->
  (j=true->
  ((0:Int)<=e4_2/\e4_2<k)/\
  p.2.1=(0:Int)/\
  (e0_3=true->(e1_3,e2_3,())=m)/\
  (e0_3=false->
  ∃ (p':Int×Int×Int×Unit),
  b=b/\
  h=h/\
  f=f/\
  e0_1=e0_1/\
  e3_1=e3_1/\
  e1_1=e1_1/\
  e1_2=e1_2/\
  e0_2=e0_2/\
  e2_1=e2_1/\
  k=k/\
  IntKind.i64.wrap (e4_2+(1:Int))=p'.1/\
  e1_3=p'.2.1/\
  e2_3=p'.2.2.1/\
  a=a/\
  b=b/\
  c=c/\
  d=d/\
  (List.getD b (Int.toNat f) g).op=(List.getD b (Int.toNat f) g).op/\
  (List.getD b (Int.toNat f) g).n=(List.getD b (Int.toNat f) g).n/\
  e2_1=e2_1/\
  e3_1=e3_1/\
  (List.getD b (Int.toNat f) g).body=(List.getD b (Int.toNat f) g).body/\
  ((0:Int)<=p'.1/\
  p'.1<=(↑l:Int)/\
  p'.2.1=(0:Int)/\
  D3 F8
  (i++
  List.map (λ(n:Int)=>(n,true))
  (List.take (Int.toNat p'.1) (List.getD b (Int.toNat f) ins0).to))
  e=
  (false,p'.2.2.1))/\
  l-Int.toNat p'.1<l-Int.toNat e4_2))/\
  (j=false->
  ∃ (p':Int×Int×Int×Unit),
  b=b/\
  h=h/\
  IntKind.i64.wrap (f+(1:Int))=p'.1/\
  p.2.1=p'.2.1/\
  e6_2=p'.2.2.1/\
  a=a/\
  b=b/\
  c=c/\
  d=d/\
  ((0:Int)<=p'.1/\
  p'.1<=h/\p'.2.1=(0:Int)/\D3 F8 (E8 (List.take (Int.toNat p'.1) b)) e=(false,p'.2.2.1))/\
  List.length b-Int.toNat p'.1<List.length b-Int.toNat f)))/\
  (e0_1=false->
  (∃ (p_1:Int×Int×Int×Unit),
  b=b/\
  h=h/\
  f=f/\
  e0_1=e0_1/\
  c=c/\
  i=i/\
  (0:Int)=p_1.1/\
  p.2.1=p_1.2.1/\
  o=p_1.2.2.1/\
  a=a/\
  b=b/\
  c=c/\
  d=d/\
  (0:Int)<=p_1.1/\
  p_1.1<=i/\
  p_1.2.1=(0:Int)/\
  D3 F8 (E8 b++List.map (λ(n:Int)=>(n,false)) (List.take (Int.toNat p_1.1) c)) e=(false,p_1.2.2.1))/\
  ∀ (p:Int×Int×Int×Unit),
 let g:Bool:=!!(F8 p.2.2.1 (List.getD c (Int.toNat p.1) (0:Int),false)).1;
 let e1_2:Int:=stOf (F8 p.2.2.1 (List.getD c (Int.toNat p.1) (0:Int),false)).1;
 let e2_2:Int:=(F8 p.2.2.1 (List.getD c (Int.toNat p.1) (0:Int),false)).2;
 let e3_2:Int:=p.1;
 let e4_1:Bool:=decide (e3_2<i);
 let j:Int:=p.2.2.1;
  (0:Int)<=e3_2/\e3_2<=i/\p.2.1=(0:Int)/\D3 F8 (E8 b++List.map (λ(n:Int)=>(n,false)) (List.take (Int.toNat e3_2) c)) e=(false,j)->
  (e4_1=true->
  ((0:Int)<=e3_2/\e3_2<i)/\
  p.2.1=(0:Int)/\
  (g=true->(e1_2,e2_2,())=m)/\
  (g=false->
  ∃ (p':Int×Int×Int×Unit),
  b=b/\
  h=h/\
  f=f/\
  e0_1=e0_1/\
  c=c/\
  i=i/\
  IntKind.i64.wrap (e3_2+(1:Int))=p'.1/\
  e1_2=p'.2.1/\
  e2_2=p'.2.2.1/\
  a=a/\
  b=b/\
  c=c/\
  d=d/\
  ((0:Int)<=p'.1/\
  p'.1<=i/\
  p'.2.1=(0:Int)/\
  D3 F8 (E8 b++List.map (λ(n:Int)=>(n,false)) (List.take (Int.toNat p'.1) c)) e=(false,p'.2.2.1))/\
  List.length c-Int.toNat p'.1<List.length c-Int.toNat e3_2))/\
  (e4_1=false->(p.2.1,j,())=m))):=by kernel_rfl
theorem bQ6 (st e:Int) (m:List (Int×Bool)) (x:Int) (y:List Ins) (z w:List Int) (a:Int) (b:List Ins) (c d:List Int):vc (EVy yl2 (some Y9) []) (bp1 x b c e m) Go.Proofs.Tryd.f97 aX0 (st,e,m,x,y,z,w,a,b,c,d,())=(let r:Int×Int×List (Int×Bool)×Int×List Ins×List Int×List Int×Unit:=
  (stOf (D3 (E7 x) (E4 b c) (e,m)).1,(D3 (E7 x) (E4 b c) (e,m)).2.1,(D3 (E7 x) (E4 b c) (e,m)).2.2,x,y,z,w,());
 let f:Ins:=Ins.mk (0:Int) (0:Int) [] [] [];
 let s:Int×List Ins×List Int×List Int×Unit:=(x,y,z,w,());
 let h:Int:=(↑(List.length b):Int);
 let j:Int×List (Int×Bool):=(e,m);
 let i:Int:=(↑(List.length c):Int);
  Small RU (Sigma.mk (Ty.slice (52:Nat) (Ty.user (0:Nat))) y)->
  Small RU (Sigma.mk (Ty.slice (3:Nat) (Ty.int IntKind.i64)) z)->
  Small RU (Sigma.mk (Ty.slice (3:Nat) (Ty.int IntKind.i64)) w)->
  Small RU (Sigma.mk (Ty.slice (52:Nat) (Ty.user (0:Nat))) b)->
  Small RU (Sigma.mk (Ty.slice (3:Nat) (Ty.int IntKind.i64)) c)->
  Small RU (Sigma.mk (Ty.slice (3:Nat) (Ty.int IntKind.i64)) d)->
  (∃ (p:Int×Int×Int×List (Int×Bool)×Unit),
  b=b/\
  h=h/\
  (0:Int)=p.1/\
  st=p.2.1/\
  e=p.2.2.1/\
  m=p.2.2.2.1/\
  x=x/\
  y=y/\
  z=z/\
  w=w/\
  a=a/\
  b=b/\
  c=c/\
  d=d/\
  (0:Int)<=p.1/\
  p.1<=h/\p.2.1=(0:Int)/\D3 (E7 x) (E8 (List.take (Int.toNat p.1) b)) j=(false,p.2.2.1,p.2.2.2.1))/\
  ∀ (p:Int×Int×Int×List (Int×Bool)×Unit),
 let e0_1:Int:=(↑(List.length (List.getD b (Int.toNat p.1) f).from_):Int);
 let e1_1:Bool:=decide (p.1<h);
 let e2_1:List Int:=(List.getD b (Int.toNat p.1) f).to;
 let e3_1:Int:=p.1;
 let e4_1:List (Int×Bool):=p.2.2.2.1;
 let e5_1:Int:=p.2.2.1;
 let g:List Int:=(List.getD b (Int.toNat e3_1) f).from_;
 let k:Int:=p.2.1;
 let l:Nat:=List.length (List.getD b (Int.toNat e3_1) ins0).from_;
 let q:Int:=(↑(List.length e2_1):Int);
 let o:Nat:=List.length (List.getD b (Int.toNat e3_1) ins0).to;
  (0:Int)<=e3_1/\e3_1<=h/\k=(0:Int)/\D3 (E7 x) (E8 (List.take (Int.toNat e3_1) b)) j=(false,e5_1,e4_1)->
  (e1_1=true->
  ((0:Int)<=e3_1/\e3_1<h)/\
  (∃ (p:Int×Int×Int×List (Int×Bool)×Unit),
  b=b/\
  h=h/\
  e3_1=e3_1/\
  e1_1=e1_1/\
  g=g/\
  e0_1=e0_1/\
  (0:Int)=p.1/\
  k=p.2.1/\
  e5_1=p.2.2.1/\
  e4_1=p.2.2.2.1/\
  x=x/\
  y=y/\
  z=z/\
  w=w/\
  a=a/\
  b=b/\
  c=c/\
  d=d/\
  (List.getD b (Int.toNat e3_1) f).op=(List.getD b (Int.toNat e3_1) f).op/\
  (List.getD b (Int.toNat e3_1) f).n=(List.getD b (Int.toNat e3_1) f).n/\
  e2_1=e2_1/\
  g=g/\
  (List.getD b (Int.toNat e3_1) f).body=(List.getD b (Int.toNat e3_1) f).body/\
  (0:Int)<=p.1/\
  p.1<=(↑l:Int)/\
  p.2.1=(0:Int)/\
  D3 (E7 x)
  (E8 (List.take (Int.toNat e3_1) b)++
  List.map (λ(n:Int)=>(n,false)) (List.take (Int.toNat p.1) (List.getD b (Int.toNat e3_1) ins0).from_))
  j=
  (false,p.2.2.1,p.2.2.2.1))/\
  ∀ (p:Int×Int×Int×List (Int×Bool)×Unit),
 let e0_2:Bool:=decide (p.1<e0_1);
 let e1_2:List (Int×Bool):=(E7 x (p.2.2.1,p.2.2.2.1) (List.getD g (Int.toNat p.1) (0:Int),false)).2.2;
 let e2_2:Int:=(E7 x (p.2.2.1,p.2.2.2.1) (List.getD g (Int.toNat p.1) (0:Int),false)).2.1;
 let e3_2:Bool:=!!(E7 x (p.2.2.1,p.2.2.2.1) (List.getD g (Int.toNat p.1) (0:Int),false)).1;
 let e4_2:Int:=stOf (E7 x (p.2.2.1,p.2.2.2.1) (List.getD g (Int.toNat p.1) (0:Int),false)).1;
 let i:Int:=p.1;
 let e6_1:List (Int×Bool):=p.2.2.2.1;
 let k:Int:=p.2.2.1;
 let e8_1:Int:=p.2.1;
 let e9_1:List Int:=(List.getD b (Int.toNat e3_1) ins0).from_;
  (0:Int)<=i/\
  i<=(↑l:Int)/\
  e8_1=(0:Int)/\
  D3 (E7 x) (E8 (List.take (Int.toNat e3_1) b)++List.map (λ(n:Int)=>(n,false)) (List.take (Int.toNat i) e9_1)) j=(false,k,e6_1)->
  (e0_2=true->
  ((0:Int)<=i/\i<e0_1)/\
  (e8_1=(0:Int)/\x=x/\y=y/\z=z/\w=w/\True)/\
  (e3_2=true->(e4_2,e2_2,e1_2,s)=r)/\
  (e3_2=false->
  ∃ (p':Int×Int×Int×List (Int×Bool)×Unit),
  b=b/\
  h=h/\
  e3_1=e3_1/\
  e1_1=e1_1/\
  g=g/\
  e0_1=e0_1/\
  IntKind.i64.wrap (i+(1:Int))=p'.1/\
  e4_2=p'.2.1/\
  e2_2=p'.2.2.1/\
  e1_2=p'.2.2.2.1/\
  x=x/\
  y=y/\
  z=z/\
  w=w/\
  a=a/\
  b=b/\
  c=c/\
  d=d/\
  (List.getD b (Int.toNat e3_1) f).op=(List.getD b (Int.toNat e3_1) f).op/\
  (List.getD b (Int.toNat e3_1) f).n=(List.getD b (Int.toNat e3_1) f).n/\
  e2_1=e2_1/\
  g=g/\
  (List.getD b (Int.toNat e3_1) f).body=(List.getD b (Int.toNat e3_1) f).body/\
  ((0:Int)<=p'.1/\
  p'.1<=(↑l:Int)/\
  p'.2.1=(0:Int)/\
  D3 (E7 x)
  (E8 (List.take (Int.toNat e3_1) b)++
  List.map (λ(n:Int)=>(n,false)) (List.take (Int.toNat p'.1) e9_1))
  j=
  (false,p'.2.2.1,p'.2.2.2.1))/\
  l-Int.toNat p'.1<l-Int.toNat i))/\
  (e0_2=false->
  (∃ (p:Int×Int×Int×List (Int×Bool)×Unit),
  b=b/\
  h=h/\
  e3_1=e3_1/\
  e1_1=e1_1/\
  g=g/\
  e0_1=e0_1/\
  i=i/\
  e0_2=e0_2/\
  e2_1=e2_1/\
  q=q/\
  (0:Int)=p.1/\
  e8_1=p.2.1/\
  k=p.2.2.1/\
  e6_1=p.2.2.2.1/\
  x=x/\
  y=y/\
  z=z/\
  w=w/\
  a=a/\
  b=b/\
  c=c/\
  d=d/\
  (List.getD b (Int.toNat e3_1) f).op=(List.getD b (Int.toNat e3_1) f).op/\
  (List.getD b (Int.toNat e3_1) f).n=(List.getD b (Int.toNat e3_1) f).n/\
  e2_1=e2_1/\
  g=g/\
  (List.getD b (Int.toNat e3_1) f).body=(List.getD b (Int.toNat e3_1) f).body/\
  (0:Int)<=p.1/\
  p.1<=(↑o:Int)/\
  p.2.1=(0:Int)/\
  D3 (E7 x)
  (E8 (List.take (Int.toNat e3_1) b)++List.map (λ(n:Int)=>(n,false)) e9_1++
  List.map (λ(n:Int)=>(n,true))
  (List.take (Int.toNat p.1) (List.getD b (Int.toNat e3_1) ins0).to))
  j=
  (false,p.2.2.1,p.2.2.2.1))/\
  ∀ (p:Int×Int×Int×List (Int×Bool)×Unit),
 let e0_3:Int:=(E7 x (p.2.2.1,p.2.2.2.1) (List.getD e2_1 (Int.toNat p.1) (0:Int),true)).2.1;
 let e1_3:List (Int×Bool):=(E7 x (p.2.2.1,p.2.2.2.1) (List.getD e2_1 (Int.toNat p.1) (0:Int),true)).2.2;
 let e2_3:Bool:=!!(E7 x (p.2.2.1,p.2.2.2.1) (List.getD e2_1 (Int.toNat p.1) (0:Int),true)).1;
 let e3_3:Int:=stOf (E7 x (p.2.2.1,p.2.2.2.1) (List.getD e2_1 (Int.toNat p.1) (0:Int),true)).1;
 let e4_3:Int:=p.1;
 let e5_2:List (Int×Bool):=E8 (List.take (Int.toNat e3_1) b)++List.map (λ(n:Int)=>(n,false)) e9_1;
 let e6_2:List (Int×Bool):=p.2.2.2.1;
 let k:Int:=p.2.2.1;
 let l:Bool:=decide (e4_3<q);
 let e9_2:Int:=p.2.1;
  (0:Int)<=e4_3/\
  e4_3<=(↑o:Int)/\
  e9_2=(0:Int)/\
  D3 (E7 x) (e5_2++List.map (λ(n:Int)=>(n,true)) (List.take (Int.toNat e4_3) (List.getD b (Int.toNat e3_1) ins0).to)) j=
  (false,k,e6_2)->
  (l=true->
  ((0:Int)<=e4_3/\e4_3<q)/\
  (e9_2=(0:Int)/\x=x/\y=y/\z=z/\w=w/\True)/\
  (e2_3=true->(e3_3,e0_3,e1_3,s)=r)/\
  (e2_3=false->
  ∃ (p':Int×Int×Int×List (Int×Bool)×Unit),
  b=b/\
  h=h/\
  e3_1=e3_1/\
  e1_1=e1_1/\
  g=g/\
  e0_1=e0_1/\
  i=i/\
  e0_2=e0_2/\
  e2_1=e2_1/\
  q=q/\
  IntKind.i64.wrap (e4_3+(1:Int))=p'.1/\
  e3_3=p'.2.1/\
  e0_3=p'.2.2.1/\
  e1_3=p'.2.2.2.1/\
  x=x/\
  y=y/\
  z=z/\
  w=w/\
  a=a/\
  b=b/\
  c=c/\
  d=d/\
  (List.getD b (Int.toNat e3_1) f).op=(List.getD b (Int.toNat e3_1) f).op/\
  (List.getD b (Int.toNat e3_1) f).n=(List.getD b (Int.toNat e3_1) f).n/\
  e2_1=e2_1/\
  g=g/\
  (List.getD b (Int.toNat e3_1) f).body=(List.getD b (Int.toNat e3_1) f).body/\
  ((0:Int)<=p'.1/\
  p'.1<=(↑o:Int)/\
  p'.2.1=(0:Int)/\
  D3 (E7 x)
  (e5_2++
  List.map (λ(n:Int)=>(n,true))
  (List.take (Int.toNat p'.1) (List.getD b (Int.toNat e3_1) ins0).to))
  j=
  (false,p'.2.2.1,p'.2.2.2.1))/\
  o-Int.toNat p'.1<o-Int.toNat e4_3))/\
  (l=false->
  ∃ (p':Int×Int×Int×List (Int×Bool)×Unit),
  b=b/\
  h=h/\
  IntKind.i64.wrap (e3_1+(1:Int))=p'.1/\
  e9_2=p'.2.1/\
  k=p'.2.2.1/\
  e6_2=p'.2.2.2.1/\
  x=x/\
  y=y/\
  z=z/\
  w=w/\
  a=a/\
  b=b/\
  c=c/\
  d=d/\
  ((0:Int)<=p'.1/\
  p'.1<=h/\
  p'.2.1=(0:Int)/\
  D3 (E7 x) (E8 (List.take (Int.toNat p'.1) b)) j=(false,p'.2.2.1,p'.2.2.2.1))/\
  List.length b-Int.toNat p'.1<List.length b-Int.toNat e3_1)))/\
  (e1_1=false->
  (∃ (p:Int×Int×Int×List (Int×Bool)×Unit),
  b=b/\
  h=h/\
  e3_1=e3_1/\
  e1_1=e1_1/\
  c=c/\
  i=i/\
  (0:Int)=p.1/\
  k=p.2.1/\
  e5_1=p.2.2.1/\
  e4_1=p.2.2.2.1/\
  x=x/\
  y=y/\
  z=z/\
  w=w/\
  a=a/\
  b=b/\
  c=c/\
  d=d/\
  (0:Int)<=p.1/\
  p.1<=i/\
  p.2.1=(0:Int)/\
  D3 (E7 x) (E8 b++List.map (λ(n:Int)=>(n,false)) (List.take (Int.toNat p.1) c)) j=
  (false,p.2.2.1,p.2.2.2.1))/\
  ∀ (p:Int×Int×Int×List (Int×Bool)×Unit),
 let e0_2:Int:=(E7 x (p.2.2.1,p.2.2.2.1) (List.getD c (Int.toNat p.1) (0:Int),false)).2.1;
 let f:List (Int×Bool):=(E7 x (p.2.2.1,p.2.2.2.1) (List.getD c (Int.toNat p.1) (0:Int),false)).2.2;
 let e2_2:Bool:=!!(E7 x (p.2.2.1,p.2.2.2.1) (List.getD c (Int.toNat p.1) (0:Int),false)).1;
 let e3_2:Int:=stOf (E7 x (p.2.2.1,p.2.2.2.1) (List.getD c (Int.toNat p.1) (0:Int),false)).1;
 let e4_2:Int:=p.1;
 let e5_2:List (Int×Bool):=p.2.2.2.1;
 let g:Int:=p.2.2.1;
 let k:Bool:=decide (e4_2<i);
 let l:Int:=p.2.1;
  (0:Int)<=e4_2/\e4_2<=i/\l=(0:Int)/\D3 (E7 x) (E8 b++List.map (λ(n:Int)=>(n,false)) (List.take (Int.toNat e4_2) c)) j=(false,g,e5_2)->
  (k=true->
  ((0:Int)<=e4_2/\e4_2<i)/\
  (l=(0:Int)/\x=x/\y=y/\z=z/\w=w/\True)/\
  (e2_2=true->(e3_2,e0_2,f,s)=r)/\
  (e2_2=false->
  ∃ (p':Int×Int×Int×List (Int×Bool)×Unit),
  b=b/\
  h=h/\
  e3_1=e3_1/\
  e1_1=e1_1/\
  c=c/\
  i=i/\
  IntKind.i64.wrap (e4_2+(1:Int))=p'.1/\
  e3_2=p'.2.1/\
  e0_2=p'.2.2.1/\
  f=p'.2.2.2.1/\
  x=x/\
  y=y/\
  z=z/\
  w=w/\
  a=a/\
  b=b/\
  c=c/\
  d=d/\
  ((0:Int)<=p'.1/\
  p'.1<=i/\
  p'.2.1=(0:Int)/\
  D3 (E7 x) (E8 b++List.map (λ(n:Int)=>(n,false)) (List.take (Int.toNat p'.1) c)) j=
  (false,p'.2.2.1,p'.2.2.2.1))/\
  List.length c-Int.toNat p'.1<List.length c-Int.toNat e4_2))/\
  (k=false->(l,g,e5_2,s)=r))):=by kernel_rfl
theorem bp2:D0 prog RG 76 cNamed:=E5 C0 (λ_=>noL) (by kernel_rfl) (by kernel_rfl) (by kernel_rfl) λ(a,b,c,d,()) _=>(cc9 a b c d).mpr (by
 dsimp only;intros;rfl)
theorem bg0 {is:Int->Bool}:∀ {l:List Int} {m:Nat},(l.take m).all is=true->m<l.length->(!is (l.getD m 0))=true->l.findIdx? (λn=>!is n)=some m
 |x::r,0,_,_,h=>by simp only [List.getD_cons_zero] at h;simp [List.findIdx?_cons,h]
 |x::r,m+1,h1,h2,h=>by simp only [List.take_succ_cons,List.all_cons,cx9] at h1;have:=bg0 (is:=is) (l:=r) (m:=m) h1.2 (by simpa using h2) (by simpa using h);simp [List.findIdx?_cons,h1.1,this]
theorem by3 {is:Int->Bool} {l:List Int} (h:l.all is=true):l.findIdx? (λn=>!is n)=none:=by rw [List.findIdx?_eq_none_iff];intro x a;rw [cA7.1 h x a];rfl
theorem bp3 (is:Int->Bool) (l:List Int):decide (((l.findIdx? (λn=>!is n)).map (λ(i:Nat)=>(i:Int))).getD (-1)>=0)=!(l.all is):=by
 cases h:l.all is with
 |true=>rw [by3 h];rfl
 |false=>
  cases hf:l.findIdx? (λn=>!is n) with
  |none=>
   rw [List.findIdx?_eq_none_iff] at hf;have:l.all is=true:=cA7.2 λx a=>by have:=hf x a;simpa using this
   rw [h] at this;cases this
  |some i=>simp
theorem bp4 {T:Type} (is:Int->Bool) (l:List Int) (e:T) (hl:l.length<=140737488355328) {R:Int×T} (d:R=(((l.findIdx? (λn=>!is n)).map (λ(i:Nat)=>(i:Int))).getD (-1),e)):
  (∃ p:Int×Unit,(0:Int)=p.1/\0<=p.1/\p.1<=(l.length:Int)/\(l.take p.1.toNat).all is=true)/\
  ∀ p:Int×Unit,0<=p.1/\p.1<=(l.length:Int)/\(l.take p.1.toNat).all is=true->
   (decide (p.1<(l.length:Int))=true->(0<=p.1/\p.1<(l.length:Int))/\((!is (l.getD p.1.toNat 0))=true->(p.1,e)=R)/\
    ((!is (l.getD p.1.toNat 0))=false->∃ p':Int×Unit,IntKind.i64.wrap (p.1+1)=p'.1/\(0<=p'.1/\p'.1<=(l.length:Int)/\(l.take p'.1.toNat).all is=true)/\l.length-p'.1.toNat<l.length-p.1.toNat))/\
   (decide (p.1<(l.length:Int))=false->((-1:Int),e)=R):=by
 refine ⟨⟨(0,()),rfl,Int.le_refl _,by dsimp only;omega,by simp⟩,?_⟩;rintro ⟨i,⟨⟩⟩ ⟨h0,h1,h2⟩;dsimp only at h0 h1 h2 |-;obtain ⟨m,rfl⟩:=cy3 h0;simp only [cy0] at h2 |-;refine ⟨λa=>?_,λb=>?_⟩
 .have a:(m:Int)<l.length:=cy7 a;refine ⟨⟨h0,a⟩,λc=>?_,λc=>⟨((m+1:Nat),()),B3 (by omega) hl,⟨by omega,by dsimp only;omega,?_⟩,by dsimp only;omega⟩⟩
  .rw [d,bg0 h2 (by omega) c];rfl
  .rw [cy0,A4 (by omega) 0,List.all_append,h2];simpa using c
 .have f:m=l.length:=by have:¬ (m:Int)<l.length:=cy6 b;omega
  subst f;rw [cA5] at h2;rw [d,by3 h2];rfl
theorem cv2 (n a:Int) (b:List Ins) (c d:List Int) (m:List (Int×Bool)):vc (EV []) noL Go.Proofs.Tryd.f77 (cIs tysC objC [0,1] isC) (n,a,b,c,d,m,()):=(cu9 n a b c d m).mpr (by
 dsimp only;intros;rfl)
theorem bQ7:D0 prog RG 77 (cIs tysC objC [0,1] isC):=E5 C0 (λ_=>noL) (by kernel_rfl) (by kernel_rfl) (by kernel_rfl) λ(n,a,b,c,d,m,()) _=>cv2 n a b c d m
theorem cm9 (n a:Int) (b:List Ins) (c d:List Int) (m:List (Int×Bool)):vc (EV [(77,cIs tysC objC [0,1] isC)]) noL Go.Proofs.Tryd.f99 (cIsN 77 tysC ao9 [0,1] isC) (n,a,b,c,d,m,()):=(cl7 n a b c d m).mpr (by
 dsimp only;intros;simp)
theorem bD7:D0 prog RG 99 (cIsN 77 tysC ao9 [0,1] isC):=E5 (A5 bQ7 C0) (λ_=>noL) (by kernel_rfl) (by kernel_rfl) (by kernel_rfl) λ(n,a,b,c,d,m,()) _=>cm9 n a b c d m
theorem cn0 (l:List Int) (a:Int) (b:List Ins) (c d:List Int) (m:List (Int×Bool)):vc (EV [(99,cIsN 77 tysC ao9 [0,1] isC)]) (aX1 l (isC (a,b,c,d,m,()))) Go.Proofs.Tryd.f106 (ao7 77 tysC ao9 [0,1] isC) (l,a,b,c,d,m,()):=(cl8 l a b c d m).mpr (by
 dsimp only;intro hs _ _ _;simp only [true_and,and_true];exact bp4 (isC (a,b,c,d,m,())) l _ hs.len rfl)
theorem bD8:D0 prog RG 106 (ao7 77 tysC ao9 [0,1] isC):=E5 (A5 bD7 C0) (λp=>aX1 p.1 (isC p.2)) (by kernel_rfl) (by kernel_rfl) (by kernel_rfl) λ(l,a,b,c,d,m,()) _=>cn0 l a b c d m
theorem cn1 (l:List Int) (a:Int) (b:List Ins) (c d:List Int) (m:List (Int×Bool)):vc (EV [(106,ao7 77 tysC ao9 [0,1] isC)]) noL Go.Proofs.Tryd.f98 (ao8 77 tysC ao9 [0,1] isC) (l,a,b,c,d,m,()):=(cl9 l a b c d m).mpr (by
 dsimp only;intros;rw [bp3];simp)
theorem bD9:D0 prog RG 98 (ao8 77 tysC ao9 [0,1] isC):=E5 (A5 bD8 C0) (λ_=>noL) (by kernel_rfl) (by kernel_rfl) (by kernel_rfl) λ(l,a,b,c,d,m,()) _=>cn1 l a b c d m
theorem cn2 (l:List Int) (a:Int) (b:List Ins) (c d:List Int) (m:List (Int×Bool)):vc (EV [(98,ao8 77 tysC ao9 [0,1] isC)]) noL Go.Proofs.Tryd.f78 (cAll 77 tysC objC [0,1] isC) (l,a,b,c,d,m,()):=(cm0 l a b c d m).mpr (by
 dsimp only;intros;simp)
theorem bE0:D0 prog RG 78 (cAll 77 tysC objC [0,1] isC):=E5 (A5 bD9 C0) (λ_=>noL) (by kernel_rfl) (by kernel_rfl) (by kernel_rfl) λ(l,a,b,c,d,m,()) _=>cn2 l a b c d m
theorem cv3 (n a:Int):vc (EV []) noL Go.Proofs.Tryd.f105 (cIs tysI objI [0] isI) (n,a,()):=(cv0 n a).mpr rfl
theorem bQ8:D0 prog RG 105 (cIs tysI objI [0] isI):=E5 C0 (λ_=>noL) (by kernel_rfl) (by kernel_rfl) (by kernel_rfl) λ(n,a,()) _=>cv3 n a
theorem cn3 (n a:Int):vc (EV [(105,cIs tysI objI [0] isI)]) noL Go.Proofs.Tryd.f99 (cIsN 105 tysI objI [0] isI) (n,a,()):=(cm1 n a).mpr (by simp)
theorem bE1:D0 prog RG 99 (cIsN 105 tysI objI [0] isI):=E5 (A5 bQ8 C0) (λ_=>noL) (by kernel_rfl) (by kernel_rfl) (by kernel_rfl) λ(n,a,()) _=>cn3 n a
theorem cn4 (l:List Int) (a:Int):vc (EV [(99,cIsN 105 tysI objI [0] isI)]) (aX1 l (isI (a,()))) Go.Proofs.Tryd.f106 (ao7 105 tysI objI [0] isI) (l,a,()):=(cm2 l a).mpr (by
 dsimp only;intro hs;simp only [true_and,and_true];exact bp4 (isI (a,())) l _ hs.len rfl)
theorem bE2:D0 prog RG 106 (ao7 105 tysI objI [0] isI):=E5 (A5 bE1 C0) (λp=>aX1 p.1 (isI p.2)) (by kernel_rfl) (by kernel_rfl) (by kernel_rfl) λ(l,a,()) _=>cn4 l a
theorem cn5 (l:List Int) (a:Int):vc (EV [(106,ao7 105 tysI objI [0] isI)]) noL Go.Proofs.Tryd.f98 (ao8 105 tysI objI [0] isI) (l,a,()):=(cm3 l a).mpr (by
 intros;rw [bp3];simp)
theorem bE3:D0 prog RG 98 (ao8 105 tysI objI [0] isI):=E5 (A5 bE2 C0) (λ_=>noL) (by kernel_rfl) (by kernel_rfl) (by kernel_rfl) λ(l,a,()) _=>cn5 l a
theorem cn6 (l:List Int) (a:Int):vc (EV [(98,ao8 105 tysI objI [0] isI)]) noL Go.Proofs.Tryd.f78 (cAll 105 tysI objI [0] isI) (l,a,()):=(cm4 l a).mpr (by
 intros;simp)
theorem bE4:D0 prog RG 78 (cAll 105 tysI objI [0] isI):=E5 (A5 bE3 C0) (λ_=>noL) (by kernel_rfl) (by kernel_rfl) (by kernel_rfl) λ(l,a,()) _=>cn6 l a
theorem cd0:D0 prog RG 92 cIn:=E5 (A5 bE4 C0) (λ_=>noL) (by kernel_rfl) (by kernel_rfl) (by kernel_rfl) λ(a,l,()) _=>(cx3 a l).mpr (by
 intros;exact ⟨⟨rfl,trivial⟩,rfl⟩)
theorem cv4 (n:Int) (m:List (Place×Int)):vc (EV []) noL Go.Proofs.Tryd.f89 (cIs tysP objP [0] isP) (n,m,()):=(cv1 n m).mpr rfl
theorem bQ9:D0 prog RG 89 (cIs tysP objP [0] isP):=E5 C0 (λ_=>noL) (by kernel_rfl) (by kernel_rfl) (by kernel_rfl) λ(n,m,()) _=>cv4 n m
theorem cn7 (n:Int) (m:List (Place×Int)):vc (EV [(89,cIs tysP objP [0] isP)]) noL Go.Proofs.Tryd.f99 (cIsN 89 tysP ap0 [0] isP) (n,m,()):=(cm5 n m).mpr (by simp)
theorem bE5:D0 prog RG 99 (cIsN 89 tysP ap0 [0] isP):=E5 (A5 bQ9 C0) (λ_=>noL) (by kernel_rfl) (by kernel_rfl) (by kernel_rfl) λ(n,m,()) _=>cn7 n m
theorem cn8 (l:List Int) (m:List (Place×Int)):vc (EV [(99,cIsN 89 tysP ap0 [0] isP)]) (aX1 l (isP (m,()))) Go.Proofs.Tryd.f106 (ao7 89 tysP ap0 [0] isP) (l,m,()):=(cm6 l m).mpr (by
 dsimp only;intro hs;simp only [true_and,and_true];exact bp4 (isP (m,())) l _ hs.len rfl)
theorem bE6:D0 prog RG 106 (ao7 89 tysP ap0 [0] isP):=E5 (A5 bE5 C0) (λp=>aX1 p.1 (isP p.2)) (by kernel_rfl) (by kernel_rfl) (by kernel_rfl) λ(l,m,()) _=>cn8 l m
theorem cn9 (l:List Int) (m:List (Place×Int)):vc (EV [(106,ao7 89 tysP ap0 [0] isP)]) noL Go.Proofs.Tryd.f98 (ao8 89 tysP ap0 [0] isP) (l,m,()):=(cm7 l m).mpr (by
 dsimp only;intros;rw [bp3];simp)
theorem bE7:D0 prog RG 98 (ao8 89 tysP ap0 [0] isP):=E5 (A5 bE6 C0) (λ_=>noL) (by kernel_rfl) (by kernel_rfl) (by kernel_rfl) λ(l,m,()) _=>cn9 l m
theorem co0 (l:List Int) (m:List (Place×Int)):vc (EV [(98,ao8 89 tysP ap0 [0] isP)]) noL Go.Proofs.Tryd.f78 (cAll 89 tysP objP [0] isP) (l,m,()):=(cm8 l m).mpr (by
 dsimp only;intros;simp)
theorem bE8:D0 prog RG 78 (cAll 89 tysP objP [0] isP):=E5 (A5 bE7 C0) (λ_=>noL) (by kernel_rfl) (by kernel_rfl) (by kernel_rfl) λ(l,m,()) _=>co0 l m
theorem ag7 {α S:Type} (step:S->α->Bool×S):∀ (l m:List α) (s:S),D3 step (l++m) s=if (D3 step l s).1 then D3 step l s else D3 step m (D3 step l s).2
 |[],m,s=>by simp [D3]
 |x::r,m,s=>by
  simp only [List.cons_append,D3];split
  .rename_i h;simp
  .exact ag7 step r m _
theorem cd1 {α S:Type} {step:S->α->Bool×S} {l:List α} {s s':S} (h:D3 step l s=(false,s')) (m:List α):D3 step (l++m) s=D3 step m s':=by rw [ag7,h];simp
theorem bE9 {α S:Type} {step:S->α->Bool×S} {l:List α} {s s':S} (h:D3 step l s=(true,s')) (m:List α):D3 step (l++m) s=(true,s'):=by rw [ag7,h];simp
theorem bR0 {α S:Type} (step:S->α->Bool×S) (x:α) (s:S):D3 step [x] s=step s x:=by
 simp only [D3];split
 .rename_i h;exact Prod.ext h.symm rfl
 .rename_i h;exact Prod.ext (by simpa using h) rfl
end Go.Rg
end
section
namespace Go.Rg
open Go Go.VT
theorem az5 {α S:Type} {step:S->α->Bool×S} {P L:List α} {s s':S} (h:P<+:L) (hr:D3 step P s=(true,s')):D3 step L s=(true,s'):=by obtain ⟨r,rfl⟩:=h;exact bE9 hr r
abbrev fr (n:Int):Int×Bool:=(n,false)
theorem ap1 {b:List Ins} {k:Nat} (h:k<b.length):E8 (b.take (k+1))=E8 (b.take k)++((b.getD k ins0).from_.map (λn=>(n,false))++(b.getD k ins0).to.map (λn=>(n,true))):=by rw [A4 h ins0];simp [E8]
theorem aX2 (b:List Ins) (k:Nat):E8 (b.take k)<+:E8 b:=by refine ⟨E8 (b.drop k),?_⟩;rw [E8,E8,<-List.flatMap_append,List.take_append_drop];rfl
theorem bR1 {b:List Ins} (c:List Int) {k:Nat} (h:k<b.length) (j:Nat):E8 (b.take k)++(b.getD k ins0).from_.map (λn=>(n,false))++((b.getD k ins0).to.take j).map (λn=>(n,true))<+:E4 b c:=by refine List.IsPrefix.trans ?_ ((aX2 b (k+1)).trans (List.prefix_append _ _));rw [ap1 h,<-cA3];refine ⟨((b.getD k ins0).to.drop j).map (λn=>(n,true)),?_⟩;rw [cA3,<-List.map_append,List.take_append_drop]
theorem by4 {b:List Ins} (c:List Int) {k:Nat} (h:k<b.length) (j:Nat):E8 (b.take k)++((b.getD k ins0).from_.take j).map (λn=>(n,false))<+:E4 b c:=by refine List.IsPrefix.trans ?_ (bR1 c h 0);refine ⟨((b.getD k ins0).from_.drop j).map (λn=>(n,false)),?_⟩;rw [cA3,<-List.map_append,List.take_append_drop];simp
theorem bR2 (b:List Ins) (c:List Int) (j:Nat):E8 b++(c.take j).map (λn=>(n,false))<+:E4 b c:=by refine ⟨(c.drop j).map (λn=>(n,false)),?_⟩;rw [cA3,<-List.map_append,List.take_append_drop];rfl
theorem aQ9 {α S:Type} {step:S->α->Bool×S} {A:List α} {l:List Int} {k:Nat} (mk:Int->α) {s s':S} (h:D3 step (A++(l.take k).map mk) s=(false,s')) (a:k<l.length):D3 step (A++(l.take (k+1)).map mk) s=step s' (mk (l.getD k 0)):=by rw [A4 a 0,List.map_append,<-cA3,cd1 h];exact bR0 _ _ _
theorem aJ6 {b:List Ins} (a:Small RU ⟨.slice 52 (.user 0),b⟩) {k:Nat} (h:k<b.length):(b.getD k ins0).from_.length<=140737488355328:=by
 have c:b[k]? =some (b.getD k ins0):=by rw [cz1,cx8 h];rfl
 exact (a.elem (x:=b.getD k ins0) c (j:=3) (d:=⟨.slice 3 (.int .i64),(b.getD k ins0).from_⟩) rfl).len
theorem av8 {b:List Ins} (a:Small RU ⟨.slice 52 (.user 0),b⟩) {k:Nat} (h:k<b.length):(b.getD k ins0).to.length<=140737488355328:=by
 have c:b[k]? =some (b.getD k ins0):=by rw [cz1,cx8 h];rfl
 exact (a.elem (x:=b.getD k ins0) c (j:=2) (d:=⟨.slice 3 (.int .i64),(b.getD k ins0).to⟩) rfl).len
section
variable {A:List (Int×Bool)} {l:List Int} {mk:Int->Int×Bool} {e:Int} {L:List (Int×Bool)}
theorem bR3 {g:Int×Int×Unit} (hl:l.length<=140737488355328) (c:∀ k,A++(l.take k).map mk<+:L) (f:g=(stOf (D3 F8 L e).1,(D3 F8 L e).2,())) (p:Int×Int×Int×Unit)
  (h:0<=p.1/\p.1<=(l.length:Int)/\p.2.1=0/\D3 F8 (A++(l.take p.1.toNat).map mk) e=(false,p.2.2.1)) (b:decide (p.1<(l.length:Int))=true):
  (0<=p.1/\p.1<(l.length:Int))/\p.2.1=0/\((!!(F8 p.2.2.1 (mk (l.getD p.1.toNat 0))).1)=true->(stOf (F8 p.2.2.1 (mk (l.getD p.1.toNat 0))).1,(F8 p.2.2.1 (mk (l.getD p.1.toNat 0))).2,())=g)/\
   ((!!(F8 p.2.2.1 (mk (l.getD p.1.toNat 0))).1)=false->∃ p':Int×Int×Int×Unit,IntKind.i64.wrap (p.1+1)=p'.1/\stOf (F8 p.2.2.1 (mk (l.getD p.1.toNat 0))).1=p'.2.1/\(F8 p.2.2.1 (mk (l.getD p.1.toNat 0))).2=p'.2.2.1/\
    (0<=p'.1/\p'.1<=(l.length:Int)/\p'.2.1=0/\D3 F8 (A++(l.take p'.1.toNat).map mk) e=(false,p'.2.2.1))/\l.length-p'.1.toNat<l.length-p.1.toNat):=by
 obtain ⟨i,st,s,⟨⟩⟩:=p;obtain ⟨h0,h1,h2,h3⟩:=h;dsimp only at h0 h1 h2 h3 b |-;obtain ⟨m,rfl⟩:=cy3 h0;simp only [cy0,Bool.not_not] at h3 |-;have b:(m:Int)<l.length:=cy7 b;have a:=aQ9 mk h3 (by omega);refine ⟨⟨h0,b⟩,h2,λd=>?_,λd=>⟨((m+1:Nat),0,(F8 s (mk (l.getD m 0))).2,()),B3 (by omega) hl,?_,rfl,⟨by omega,by dsimp only;omega,rfl,?_⟩,by dsimp only;omega⟩⟩
 .rw [f,az5 (c (m+1)) (a.trans (Prod.ext d rfl)),d]
 .rw [d];rfl
 .rw [cy0];exact a.trans (Prod.ext d rfl)
theorem bR4 {T:Type} {params:Int} {c:List (Int×Bool)} {R:T} {j:Int×Int×List (Int×Bool)×T} (hl:l.length<=140737488355328) (d:∀ k,A++(l.take k).map mk<+:L) (g:j=(stOf (D3 (E7 params) L (e,c)).1,(D3 (E7 params) L (e,c)).2.1,(D3 (E7 params) L (e,c)).2.2,R)) (p:Int×Int×Int×List (Int×Bool)×Unit)
  (h:0<=p.1/\p.1<=(l.length:Int)/\p.2.1=0/\D3 (E7 params) (A++(l.take p.1.toNat).map mk) (e,c)=(false,p.2.2.1,p.2.2.2.1)) (b:decide (p.1<(l.length:Int))=true):
  (0<=p.1/\p.1<(l.length:Int))/\p.2.1=0/\((!!(E7 params (p.2.2.1,p.2.2.2.1) (mk (l.getD p.1.toNat 0))).1)=true->(stOf (E7 params (p.2.2.1,p.2.2.2.1) (mk (l.getD p.1.toNat 0))).1,(E7 params (p.2.2.1,p.2.2.2.1) (mk (l.getD p.1.toNat 0))).2.1,(E7 params (p.2.2.1,p.2.2.2.1) (mk (l.getD p.1.toNat 0))).2.2,R)=j)/\
   ((!!(E7 params (p.2.2.1,p.2.2.2.1) (mk (l.getD p.1.toNat 0))).1)=false->∃ p':Int×Int×Int×List (Int×Bool)×Unit,IntKind.i64.wrap (p.1+1)=p'.1/\stOf (E7 params (p.2.2.1,p.2.2.2.1) (mk (l.getD p.1.toNat 0))).1=p'.2.1/\(E7 params (p.2.2.1,p.2.2.2.1) (mk (l.getD p.1.toNat 0))).2.1=p'.2.2.1/\(E7 params (p.2.2.1,p.2.2.2.1) (mk (l.getD p.1.toNat 0))).2.2=p'.2.2.2.1/\
    (0<=p'.1/\p'.1<=(l.length:Int)/\p'.2.1=0/\D3 (E7 params) (A++(l.take p'.1.toNat).map mk) (e,c)=(false,p'.2.2.1,p'.2.2.2.1))/\l.length-p'.1.toNat<l.length-p.1.toNat):=by
 obtain ⟨i,st,s,n,⟨⟩⟩:=p;obtain ⟨h0,h1,h2,h3⟩:=h;dsimp only at h0 h1 h2 h3 b |-;obtain ⟨m,rfl⟩:=cy3 h0;simp only [cy0,Bool.not_not] at h3 |-;have b:(m:Int)<l.length:=cy7 b;have a:=aQ9 mk h3 (by omega);refine ⟨⟨h0,b⟩,h2,λf=>?_,λf=>⟨((m+1:Nat),0,(E7 params (s,n) (mk (l.getD m 0))).2.1,(E7 params (s,n) (mk (l.getD m 0))).2.2,()),B3 (by omega) hl,?_,rfl,rfl,⟨by omega,by dsimp only;omega,rfl,?_⟩,by dsimp only;omega⟩⟩
 .rw [g,az5 (d (m+1)) (a.trans (Prod.ext f rfl)),f]
 .rw [f];rfl
 .rw [cy0];exact a.trans (Prod.ext f rfl)
end
theorem bR5 (st e a:Int) (b:List Ins) (c d:List Int) (g:st=0):vc (EVy yl1 (some Y8) []) (bp0 b c e) Go.Proofs.Tryd.f97 aW9 (st,e,a,b,c,d,()):=(bQ5 st e a b c d).mpr (by
 subst g;intro A B D E r hc _;have t:b.length<=140737488355328:=r.len;have u:c.length<=140737488355328:=hc.len;have h:B=(stOf (D3 F8 (E4 b c) e).1,(D3 F8 (E4 b c) e).2,()):=rfl;have v:A=ins0:=rfl
 clear_value B A
 subst v;dsimp only [D,E];simp only [true_and,and_true];refine ⟨⟨(0,0,e,()),by simp [E8,D3]⟩,?_⟩;rintro ⟨i,st,s,⟨⟩⟩ ⟨h0,h1,h2,h3⟩;dsimp only at h0 h1 h2 h3 |-;subst h2;obtain ⟨k,rfl⟩:=cy3 h0;simp only [cy0] at h3 |-;refine ⟨λl=>?_,λf=>?_⟩
 .have l:(k:Int)<b.length:=cy7 l;refine ⟨⟨h0,l⟩,⟨(0,0,s,()),rfl,rfl,rfl,Int.le_refl _,by dsimp only;omega,rfl,by simpa using h3⟩,λp g=>⟨bR3 (aJ6 r (by omega)) (by4 c (by omega)) h p g,λf=>?_⟩⟩;obtain ⟨j,st,s1,⟨⟩⟩:=p;obtain ⟨j0,F,C,w⟩:=g;dsimp only at j0 F C w f |-;subst C;have G:j.toNat=(b.getD k ins0).from_.length:=by have:¬ j<(b.getD k ins0).from_.length:=cy6 f;omega
  rw [G,cA5] at w;refine ⟨⟨(0,0,s1,()),rfl,rfl,rfl,Int.le_refl _,by dsimp only;omega,rfl,by simpa using w⟩,λp g=>⟨bR3 (av8 r (by omega)) (bR1 c (by omega)) h p g,λf=>?_⟩⟩;obtain ⟨q,st,s2,⟨⟩⟩:=p;obtain ⟨x,y,o,m⟩:=g;dsimp only at x y o m f |-;subst o;have z:q.toNat=(b.getD k ins0).to.length:=by have:¬ q<(b.getD k ins0).to.length:=cy6 f;omega
  rw [z,cA5] at m;refine ⟨((k+1:Nat),0,s2,()),B3 (by omega) t,rfl,rfl,⟨by omega,by dsimp only;omega,rfl,?_⟩,by dsimp only;omega⟩;rw [cy0,ap1 (by omega),<-cA3];exact m
 .have H:k=b.length:=by have:¬ (k:Int)<b.length:=cy6 f;omega
  subst H;rw [cA5] at h3;refine ⟨⟨(0,0,s,()),rfl,rfl,rfl,Int.le_refl _,by dsimp only;omega,rfl,by simpa using h3⟩,λp g=>⟨bR3 u (bR2 b c) h p g,λf=>?_⟩⟩;obtain ⟨q,st,s2,⟨⟩⟩:=p;obtain ⟨x,y,o,m⟩:=g;dsimp only at x y o m f |-;subst o;have z:q.toNat=c.length:=by have:¬ q<(c.length:Int):=cy6 f;omega
  rw [z,cA5] at m;rw [h,show E4 b c=E8 b++c.map (λn=>(n,false)) from rfl,m];rfl)
theorem bR6 (st e:Int) (m:List (Int×Bool)) (x:Int) (y:List Ins) (z w:List Int) (a:Int) (b:List Ins) (c d:List Int) (g:st=0):vc (EVy yl2 (some Y9) []) (bp1 x b c e m) Go.Proofs.Tryd.f97 aX0 (st,e,m,x,y,z,w,a,b,c,d,()):=(bQ6 st e m x y z w a b c d).mpr (by
 subst g;intro F G J K L M _ _ _ t hc _;have u:b.length<=140737488355328:=t.len;have v:c.length<=140737488355328:=hc.len;have h:F=(stOf (D3 (E7 x) (E4 b c) (e,m)).1,(D3 (E7 x) (E4 b c) (e,m)).2.1,(D3 (E7 x) (E4 b c) (e,m)).2.2,(x,y,z,w,())):=rfl;have A:G=ins0:=rfl
 clear_value F G
 subst A;dsimp only [J,K,L,M];simp only [true_and,and_true];refine ⟨⟨(0,0,e,m,()),by simp [E8,D3]⟩,?_⟩;rintro ⟨i,st,s,mm,⟨⟩⟩ ⟨h0,h1,h2,h3⟩;dsimp only at h0 h1 h2 h3 |-;subst h2;obtain ⟨k,rfl⟩:=cy3 h0;simp only [cy0] at h3 |-;refine ⟨λl=>?_,λf=>?_⟩
 .have l:(k:Int)<b.length:=cy7 l;refine ⟨⟨h0,l⟩,⟨(0,0,s,mm,()),rfl,rfl,rfl,rfl,Int.le_refl _,by dsimp only;omega,rfl,by simpa using h3⟩,λp g=>⟨bR4 (aJ6 t (by omega)) (by4 c (by omega)) h p g,λf=>?_⟩⟩;obtain ⟨j,st,s1,N,⟨⟩⟩:=p;obtain ⟨j0,O,H,B⟩:=g;dsimp only at j0 O H B f |-;subst H;have P:j.toNat=(b.getD k ins0).from_.length:=by have:¬ j<(b.getD k ins0).from_.length:=cy6 f;omega
  rw [P,cA5] at B;refine ⟨⟨(0,0,s1,N,()),rfl,rfl,rfl,rfl,Int.le_refl _,by dsimp only;omega,rfl,by simpa using B⟩,λp g=>⟨bR4 (av8 t (by omega)) (bR1 c (by omega)) h p g,λf=>?_⟩⟩;obtain ⟨q,st,s2,I,⟨⟩⟩:=p;obtain ⟨C,D,r,o⟩:=g;dsimp only at C D r o f |-;subst r;have E:q.toNat=(b.getD k ins0).to.length:=by have:¬ q<(b.getD k ins0).to.length:=cy6 f;omega
  rw [E,cA5] at o;refine ⟨((k+1:Nat),0,s2,I,()),B3 (by omega) u,rfl,rfl,rfl,⟨by omega,by dsimp only;omega,rfl,?_⟩,by dsimp only;omega⟩;rw [cy0,ap1 (by omega),<-cA3];exact o
 .have Q:k=b.length:=by have:¬ (k:Int)<b.length:=cy6 f;omega
  subst Q;rw [cA5] at h3;refine ⟨⟨(0,0,s,mm,()),rfl,rfl,rfl,rfl,Int.le_refl _,by dsimp only;omega,rfl,by simpa using h3⟩,λp g=>⟨bR4 v (bR2 b c) h p g,λf=>?_⟩⟩;obtain ⟨q,st,s2,I,⟨⟩⟩:=p;obtain ⟨C,D,r,o⟩:=g;dsimp only at C D r o f |-;subst r;have E:q.toNat=c.length:=by have:¬ q<(c.length:Int):=cy6 f;omega
  rw [E,cA5] at o;rw [h,show E4 b c=E8 b++c.map (λn=>(n,false)) from rfl,o];rfl)
theorem bF0:ItOk itCheck:=by
 intro f k kY mp h Y' l;unfold itCheck at h;cases hf:Nat.beq f 97 with
 |false=>rw [hf] at h;cases h
 |true=>
  have hf:=cx7 hf;subst hf;simp only [Nat.beq_refl,cond_true,List.mem_cons,List.not_mem_nil,or_false,cy9] at h;rcases h with ⟨rfl,rfl,rfl⟩|⟨rfl,rfl,rfl⟩
  .exact ak4 (E:=EVy yl2 (some Y9) []) (cb2 _ _ _) ⟨Y7 (λx g=>by cases g),λ_ _ _ _ _ h=>(by cases h),λ_ _ _ h=>(by cases h),λk i=>by cases i;exact l,λ_ _ _ _ h=>(by cases h)⟩ bo1 Go.Proofs.Tryd.func97 (by kernel_rfl)
    (λp=>bp1 p.2.2.2.1 p.2.2.2.2.2.2.2.2.1 p.2.2.2.2.2.2.2.2.2.1 p.2.1 p.2.2.1) (λ(st,e,m,x,y,z,w,a,b,c,d,()) j=>bR6 st e m x y z w a b c d j) (by kernel_rfl) rfl
  .exact ak4 (E:=EVy yl1 (some Y8) []) (cb2 _ _ _) ⟨Y7 (λx g=>by cases g),λ_ _ _ _ _ h=>(by cases h),λ_ _ _ h=>(by cases h),λk i=>by cases i;exact l,λ_ _ _ _ h=>(by cases h)⟩ bo1 Go.Proofs.Tryd.func97 (by kernel_rfl)
    (λp=>bp0 p.2.2.2.1 p.2.2.2.2.1 p.2.1) (λ(st,e,a,b,c,d,()) j=>bR5 st e a b c d j) (by kernel_rfl) rfl
def cCheck:Con RU:=con [(true,4)] ag6 [one] [i64] [false] none λp=>(D7 ⟨p.1,p.2.1,p.2.2.1,p.2.2.2.1⟩,())
def Z3 (m:List (Int×Bool)) (l:List Int):List (Int×Bool):=l.foldl (λm n=>putB m n true) m
def bR7 (params:Int) (code:List Ins):Nat->St RU->Ann RU:=λk s=>match k with
 |2=>⟨[],[.slot 64,.row 3776],[i64,mapB],λp=>0<=p.1/\p.1<=code.length/\p.2.1=Z3 [] (wr (code.take p.1.toNat))/\E2 params [] (code.take p.1.toNat)=true,λp=>code.length-p.1.toNat,[]⟩
 |3=>⟨[],[.slot 76,.row 3776],[i64,mapB],λp=>0<=p.1/\p.1<=(code.getD (s.intAt 64).toNat ins0).to.length/\p.2.1=Z3 [] (wr (code.take (s.intAt 64).toNat)++(code.getD (s.intAt 64).toNat ins0).to.take p.1.toNat),λp=>(code.getD (s.intAt 64).toNat ins0).to.length-p.1.toNat,[]⟩
 |_=>⟨[],[],[],λ_=>False,λ_=>0,[]⟩
end Go.Rg
end
section
namespace Go.Rg
open Go Go.VT
theorem cd2 (a:Int) (b:List Ins) (c d:List Int):vc (EVd [] itCheck [(76,cNamed),(78,cAll 77 tysC objC [0,1] isC)]) (bR7 a b) Go.Proofs.Tryd.f41 cCheck (a,b,c,d,())=(let f:Bool:=decide ((↑(List.length b):Int) >(4000:Int));
 let g:Int:=(D3 (E7 a) (E4 b c) ((D3 F8 (E4 b c) (0:Int)).2,[])).2.1;
 let h:Bool:=decide (a<(0:Int))||decide (a >(4000:Int));
 let i:Int:=stOf (D3 (E7 a) (E4 b c) ((D3 F8 (E4 b c) (0:Int)).2,[])).1;
 let e:Ins:=Ins.mk (0:Int) (0:Int) [] [] [];
 let k:List (Int×Bool):=(D3 (E7 a) (E4 b c) ((D3 F8 (E4 b c) (0:Int)).2,[])).2.2;
 let l:Int×Unit:=(D7 (VFun.mk a b c d),());
 let j:Int:=(↑(List.length b):Int);
 let m:Int:=stOf (D3 F8 (E4 b c) (0:Int)).1;
  Small RU (Sigma.mk (Ty.slice (52:Nat) (Ty.user (0:Nat))) b)->
  Small RU (Sigma.mk (Ty.slice (3:Nat) (Ty.int IntKind.i64)) c)->
  Small RU (Sigma.mk (Ty.slice (3:Nat) (Ty.int IntKind.i64)) d)->
  (f=true->((3:Int),())=l)/\
  (f=false->
  (h=true->((2:Int),())=l)/\
  (h=false->
  (∀ (xs:Int×Bool×Int×Int×Unit),
 let f:Bool:=decide (xs.1<(0:Int))||decide (xs.1>=(4000:Int));
 let g:Int×Int×Unit:=xs.2.2;
  g.1=(0:Int)->g.1=(0:Int)/\(f=true->(false,(1:Int),(2:Int),())=Y8.fn xs)/\(f=false->(true,(0:Int),g.2.1,())=Y8.fn xs))/\
  (0:Int)=(0:Int)/\
  (m=(0:Int)->
  (∀ (xs:Int×Bool×Int×Int×List (Int×Bool)×Int×List Ins×List Int×List Int×Unit),
 let f:Int×List Ins×List Int×List Int×Unit:=
  (xs.2.2.2.2.2.1,xs.2.2.2.2.2.2.1,xs.2.2.2.2.2.2.2.1,xs.2.2.2.2.2.2.2.2.1,());
 let g:Bool:=xs.2.1&&(Option.getD (mget (λ(x y:Int)=>x==y) xs.2.2.2.2.1 xs.1) false||decide (xs.1<xs.2.2.2.2.2.1));
 let h:List (Int×Bool):=xs.2.2.2.2.1;
 let i:List Int×List Int×Unit:=xs.2.2.2.2.2.2.2;
 let e:Int×List (Int×Bool)×Int×List Ins×List Int×List Int×Unit:=xs.2.2.2;
 let k:Int:=xs.1;
 let l:Bool×Int×Int×List (Int×Bool)×Int×List Ins×List Int×List Int×Unit:=xs.2;
  l.2.1=(0:Int)->
  Small RU (Sigma.mk (Ty.slice (52:Nat) (Ty.user (0:Nat))) e.2.2.2.1)->
  Small RU (Sigma.mk (Ty.slice (3:Nat) (Ty.int IntKind.i64)) i.1)->
  Small RU (Sigma.mk (Ty.slice (3:Nat) (Ty.int IntKind.i64)) i.2.1)->
  l.2.1=(0:Int)/\
  (g=true->(false,(1:Int),(5:Int),h,f)=Y9.fn xs)/\
  (g=false->
  (true,(0:Int),e.1,mput (λ(x y:Int)=>x==y) h k (Option.getD (mget (λ(x y:Int)=>x==y) h k) false||l.1),f)=
  Y9.fn xs))/\
  ((0:Int)=(0:Int)/\a=a/\b=b/\c=c/\d=d/\True)/\
  (i=(0:Int)->
  (∃ (p:Int×List (Int×Bool)×Unit),
  a=a/\
  b=b/\
  c=c/\
  d=d/\
  f=f/\
  h=h/\
  b=b/\
  j=j/\
  (0:Int)=p.1/\
  a=a/\
  b=b/\
  c=c/\
  d=d/\
  g=g/\
  k=k/\
  []=p.2.1/\
  (0:Int)<=p.1/\
  p.1<=j/\p.2.1=Z3 [] (wr (List.take (Int.toNat p.1) b))/\E2 a [] (List.take (Int.toNat p.1) b)=true)/\
  ∀ (p:Int×List (Int×Bool)×Unit),
 let e0_1:Bool:=!List.all (List.getD b (Int.toNat p.1) e).from_ (isC (a,b,c,d,p.2.1,()));
 let e1_1:Bool:=decide (p.1<j);
 let e2_1:Bool:=!List.all c (isC (a,b,c,d,p.2.1,()));
 let i:Int:=(↑(List.length (List.getD b (Int.toNat p.1) e).to):Int);
 let e:Ins:=List.getD b (Int.toNat p.1) e;
 let e5_1:Int:=p.1;
 let e6_1:List (Int×Bool):=p.2.1;
 let e7_1:Nat:=List.length (List.getD b (Int.toNat e5_1) ins0).to;
  (0:Int)<=e5_1/\e5_1<=j/\e6_1=Z3 [] (wr (List.take (Int.toNat e5_1) b))/\E2 a [] (List.take (Int.toNat e5_1) b)=true->
  (e1_1=true->
  ((0:Int)<=e5_1/\e5_1<j)/\
  (((a=a/\b=b/\c=c/\d=d/\True)/\True)/\e6_1=e6_1/\True)/\
  (e0_1=true->((4:Int),())=l)/\
  (e0_1=false->
  (∃ (p:Int×List (Int×Bool)×Unit),
  a=a/\
  b=b/\
  c=c/\
  d=d/\
  f=f/\
  h=h/\
  b=b/\
  j=j/\
  e5_1=e5_1/\
  e1_1=e1_1/\
  e0_1=e0_1/\
  e.to=e.to/\
  i=i/\
  (0:Int)=p.1/\
  a=a/\
  b=b/\
  c=c/\
  d=d/\
  g=g/\
  k=k/\
  e6_1=p.2.1/\
  e.op=e.op/\
  e.n=e.n/\
  e.to=e.to/\
  e.from_=e.from_/\
  e.body=e.body/\
  (0:Int)<=p.1/\
  p.1<=(↑e7_1:Int)/\
  p.2.1=
  Z3 []
  (wr (List.take (Int.toNat e5_1) b)++
  List.take (Int.toNat p.1) (List.getD b (Int.toNat e5_1) ins0).to))/\
  ∀ (p:Int×List (Int×Bool)×Unit),
 let e0_2:Int:=p.1;
 let e1_2:List (Int×Bool):=p.2.1;
 let e2_2:Bool:=decide (e0_2<i);
  (0:Int)<=e0_2/\
  e0_2<=(↑e7_1:Int)/\
  e1_2=Z3 [] (wr (List.take (Int.toNat e5_1) b)++List.take (Int.toNat e0_2) (List.getD b (Int.toNat e5_1) ins0).to)->
  (e2_2=true->
  ((0:Int)<=e0_2/\e0_2<i)/\
  ∃ (p':Int×List (Int×Bool)×Unit),
  a=a/\
  b=b/\
  c=c/\
  d=d/\
  f=f/\
  h=h/\
  b=b/\
  j=j/\
  e5_1=e5_1/\
  e1_1=e1_1/\
  e0_1=e0_1/\
  e.to=e.to/\
  i=i/\
  IntKind.i64.wrap (e0_2+(1:Int))=p'.1/\
  a=a/\
  b=b/\
  c=c/\
  d=d/\
  g=g/\
  k=k/\
  mput (λ(x y:Int)=>x==y) e1_2 (List.getD e.to (Int.toNat e0_2) (0:Int)) true=
  p'.2.1/\
  e.op=e.op/\
  e.n=e.n/\
  e.to=e.to/\
  e.from_=e.from_/\
  e.body=e.body/\
  ((0:Int)<=p'.1/\
  p'.1<=(↑e7_1:Int)/\
  p'.2.1=
  Z3 []
  (wr (List.take (Int.toNat e5_1) b)++
  List.take (Int.toNat p'.1) (List.getD b (Int.toNat e5_1) ins0).to))/\
  e7_1-Int.toNat p'.1<e7_1-Int.toNat e0_2)/\
  (e2_2=false->
  ∃ (p':Int×List (Int×Bool)×Unit),
  a=a/\
  b=b/\
  c=c/\
  d=d/\
  f=f/\
  h=h/\
  b=b/\
  j=j/\
  IntKind.i64.wrap (e5_1+(1:Int))=p'.1/\
  a=a/\
  b=b/\
  c=c/\
  d=d/\
  g=g/\
  k=k/\
  e1_2=p'.2.1/\
  ((0:Int)<=p'.1/\
  p'.1<=j/\
  p'.2.1=Z3 [] (wr (List.take (Int.toNat p'.1) b))/\
  E2 a [] (List.take (Int.toNat p'.1) b)=true)/\
  List.length b-Int.toNat p'.1<List.length b-Int.toNat e5_1)))/\
  (e1_1=false->
  (((a=a/\b=b/\c=c/\d=d/\True)/\True)/\e6_1=e6_1/\True)/\(e2_1=true->((4:Int),())=l)/\(e2_1=false->((0:Int),())=l)))/\
  (i≠(0:Int)->i=(1:Int)/\(g,())=l))/\
  (m≠(0:Int)->m=(1:Int)/\((D3 F8 (E4 b c) (0:Int)).2,())=l)))):=by kernel_rfl
theorem ag8 {β:Type} (m:List (Int×β)) (k:Int) (v:β) (n:Int):mget eqI (mput eqI m k v) n=if k=n then some v else mget eqI m n:=by
 induction m with
 |nil=>simp [mput,mget,eqI,cz0]
 |cons x r ih=>
  obtain ⟨k',v'⟩:=x;simp only [mput,eqI,cz0,beq_iff_eq];by_cases h:k'=k
  .subst h;simp only [if_true,mget,eqI,cz0,beq_iff_eq];split<;>rfl
  .simp only [if_neg h,mget,eqI,cz0,beq_iff_eq];rw [show mget (λx y=>x==y) (mput (λx y=>x==y) r k v) n=mget eqI (mput eqI r k v) n from rfl,ih];by_cases h1:k'=n
   .subst h1;rw [if_pos rfl,if_neg (λe=>h e.symm)];rw [if_pos rfl]
   .rw [if_neg h1,if_neg h1]
theorem aJ7 (m:List (Int×Bool)) (k:Int) (v:Bool) (n:Int):hasB (putB m k v) n=if k=n then v else hasB m n:=by unfold hasB putB;rw [ag8];split<;>rfl
theorem bR8 (l:List Int) (n:Int):hasB (Z3 [] l) n=l.contains n:=by
 suffices h:∀ (l:List Int) (m:List (Int×Bool)),hasB (Z3 m l) n=(hasB m n||l.contains n) by rw [h];rfl
 intro l
 induction l with
 |nil=>intro m;simp [Z3]
 |cons x r ih=>
  intro m;rw [show Z3 m (x::r)=Z3 (putB m x true) r from rfl,ih,aJ7,List.contains_cons];by_cases h:x=n
  .simp [h]
  .have:(n==x)=false:=by simp [Ne.symm h]
   simp [h,this]
theorem bF1 (l:List Int) (x:Int):Z3 [] (l++[x])=putB (Z3 [] l) x true:=by simp [Z3]
theorem cd3 (a:Int) (b:List Ins) (c d l:List Int) (n:Int):isC (a,b,c,d,Z3 [] l,()) n=(decide (n<a)||l.contains n):=by show (decide (n<a)||hasB (Z3 [] l) n)=_;rw [bR8]
theorem run1 (L:List (Int×Bool)) (e:Int):D3 F8 L e=if L.all (λx=>G8 x.1) then (false,e) else (true,2):=by
 induction L generalizing e with
 |nil=>rfl
 |cons x r ih=>
  simp only [D3,List.all_cons];by_cases h:x.1<0\/4000<=x.1
  .have:G8 x.1=false:=by unfold G8 lies;simp;omega
   simp [F8,h,this]
  .have:G8 x.1=true:=by unfold G8 lies;simp;omega
   simp only [F8,if_neg h,this,ih,Bool.true_and,Bool.false_eq_true,if_false]
def ok2 (a:Int):List Int->List Int->Bool
 |_,[]=>true
 |W,n::r=>!(W.contains n||decide (n<a))&&ok2 a (n::W) r
theorem bR9 (a:Int):∀ (l W:List Int),ok2 a W l=(D8 l&&l.all (λn=>decide (a<=n))&&l.all (λn=>!W.contains n))
 |[],W=>rfl
 |n::r,W=>by
  simp only [ok2,bR9 a r,D8,List.all_cons];rw [Bool.eq_iff_iff];simp only [cx9,Bool.not_eq_true',Bool.or_eq_false_iff,decide_eq_false_iff_not,cz9,cA7,List.contains_cons];constructor
  .rintro ⟨⟨h1,h2⟩,⟨h3,h4⟩,b⟩;refine ⟨⟨⟨?_,h3⟩,by omega,h4⟩,h1,λx c=>?_⟩
   .rw [Bool.eq_false_iff];intro hm;have:=b n (List.contains_iff_mem.1 hm);simp at this
   .exact (b x c).2
  .rintro ⟨⟨⟨h1,h2⟩,h3,h4⟩,b,d⟩;refine ⟨⟨b,by omega⟩,⟨h2,h4⟩,λx c=>⟨?_,d x c⟩⟩;rw [beq_eq_false_iff_ne];rintro rfl;rw [List.contains_iff_mem.2 c] at h1;cases h1
theorem run2 (a:Int) (e:Int):∀ (L:List (Int×Bool)) (W:List Int) (m:List (Int×Bool)),(∀ n,hasB m n=W.contains n)->
  (D3 (E7 a) L (e,m)).1=!ok2 a W (L.filterMap λx=>if x.2 then some x.1 else none)/\(D3 (E7 a) L (e,m)).2.1=if ok2 a W (L.filterMap λx=>if x.2 then some x.1 else none) then e else 5
 |[],W,m,h=>⟨rfl,rfl⟩
 |(n,false)::r,W,m,h=>by
  have:=run2 a e r W (putB m n (hasB m n||false)) (λk=>by
   rw [aJ7];split
   .rename_i b;subst b;simp [h]
   .exact h k)
  simpa [D3,E7] using this
 |(n,true)::r,W,m,h=>by
  have hs:E7 a (e,m) (n,true)=if W.contains n||decide (n<a) then (true,5,m) else (false,e,putB m n true):=by simp only [E7,Bool.true_and,h];split<;>simp
  simp only [D3,hs,List.filterMap_cons,if_true,ok2];cases hc:(W.contains n||decide (n<a)) with
  |true=>simp
  |false=>
   have:=run2 a e r (n::W) (putB m n true) (λk=>by
    rw [aJ7,List.contains_cons];split
    .rename_i b;subst b;simp
    .rename_i b;rw [h k,beq_eq_false_iff_ne.2 (Ne.symm b)];rfl)
   simpa using this
theorem bF2 (b:List Ins) (c:List Int):(E4 b c).filterMap (λx=>if x.2 then some x.1 else none)=wr b:=by
 unfold E4;rw [List.filterMap_append];have h1:∀ l:List Int,(l.map λn=>((n,false):Int×Bool)).filterMap (λx=>if x.2 then some x.1 else none)=[]:=by
  intro l
  induction l with
  |nil=>rfl
  |cons x r ih=>rw [List.map_cons,List.filterMap_cons,ih];rfl
 have h2:∀ l:List Int,(l.map λn=>((n,true):Int×Bool)).filterMap (λx=>if x.2 then some x.1 else none)=l:=by
  intro l
  induction l with
  |nil=>rfl
  |cons x r ih=>rw [List.map_cons,List.filterMap_cons,ih];rfl
 rw [h1,List.append_nil]
 induction b with
 |nil=>rfl
 |cons x r ih=>simp only [E8,wr,List.flatMap_cons,List.filterMap_append] at ih |-;rw [h1,h2,ih];rfl
theorem M7 (p:Int):∀ (l r:List Ins) (W:List Int),E2 p W (l++r)=(E2 p W l&&E2 p (W++wr l) r)
 |[],r,W=>by simp [E2,wr]
 |x::l,r,W=>by simp only [List.cons_append,E2,M7 p l r,Bool.and_assoc];rw [show W++wr (x::l)=W++x.to++wr l by simp [wr]]
theorem bS0 (b:List Ins) (c:List Int):(E4 b c).all (λx=>G8 x.1)=(c.all G8&&b.all λx=>x.to.all G8&&x.from_.all G8):=by unfold E4 E8;rw [List.all_append,List.all_flatMap,Bool.and_comm];simp only [List.all_append,List.all_map];congr 1;congr 1;funext x;rw [Bool.and_comm];rfl
theorem aR0 {a:Int} {b:List Ins} {c d:List Int} (h:4000<b.length):D7 ⟨a,b,c,d⟩=3:=by simp only [D7];rw [if_pos h]
theorem aR1 {a:Int} {b:List Ins} {c d:List Int} (h:¬ 4000<b.length) (e:lies a 0 4000=true) {R1 R2:Bool} (h1:R1=(c.all G8&&b.all λx=>x.to.all G8&&x.from_.all G8)) (h2:R2=(D8 (wr b)&&(wr b).all λn=>decide (a<=n))):
  D7 ⟨a,b,c,d⟩=if R1=false then 2 else if R2=false then 5 else if (E2 a [] b&&c.all λn=>decide (n<a)||(wr b).contains n)=false then 4 else 0:=by
 simp only [D7];rw [if_neg h,e,Bool.true_and,<-h1,<-h2];cases R1
 .rfl
 .cases R2
  .rfl
  .simp only [Bool.not_true,Bool.false_eq_true,if_false,Bool.not_eq_true'];rfl
theorem bF3 (n:Int) (w:Bool) (st e:Int) (h:st=0):st=0/\((decide (n<0)||decide (n>=4000))=true->(false,1,2,())=Y8.fn (n,w,st,e,()))/\((decide (n<0)||decide (n>=4000))=false->(true,0,e,())=Y8.fn (n,w,st,e,())):=by
 refine ⟨h,λh1=>?_,λh1=>?_⟩
 .have h1:n<0\/4000<=n:=by simpa using h1
  show _=(!(F8 e (n,w)).1,stOf (F8 e (n,w)).1,(F8 e (n,w)).2,());simp only [F8,if_pos h1];rfl
 .have h1:¬ (n<0\/4000<=n):=by simp at h1;omega
  show _=(!(F8 e (n,w)).1,stOf (F8 e (n,w)).1,(F8 e (n,w)).2,());simp only [F8,if_neg h1];rfl
theorem bF4 (n:Int) (w:Bool) (st e:Int) (m:List (Int×Bool)) (x:Int) (y:List Ins) (z q:List Int) (h:st=0):st=0/\((w&&((mget (λx y=>x==y) m n).getD false||decide (n<x)))=true->(false,1,5,m,x,y,z,q,())=Y9.fn (n,w,st,e,m,x,y,z,q,()))/\
  ((w&&((mget (λx y=>x==y) m n).getD false||decide (n<x)))=false->(true,0,e,mput (λx y=>x==y) m n ((mget (λx y=>x==y) m n).getD false||w),x,y,z,q,())=Y9.fn (n,w,st,e,m,x,y,z,q,())):=by
 refine ⟨h,λh1=>?_,λh1=>?_⟩
 .show _=(!(E7 x (e,m) (n,w)).1,stOf (E7 x (e,m) (n,w)).1,(E7 x (e,m) (n,w)).2.1,(E7 x (e,m) (n,w)).2.2,x,y,z,q,());have h2:(w&&(hasB m n||decide (n<x)))=true:=h1;simp only [E7,h2,if_true];rfl
 .show _=(!(E7 x (e,m) (n,w)).1,stOf (E7 x (e,m) (n,w)).1,(E7 x (e,m) (n,w)).2.1,(E7 x (e,m) (n,w)).2.2,x,y,z,q,());have h2:(w&&(hasB m n||decide (n<x)))=false:=h1;simp only [E7,h2,Bool.false_eq_true,if_false];rfl
theorem aR2 {a:Int} {b:List Ins} {k:Nat} (h:k<b.length):E2 a [] (b.take (k+1))=(E2 a [] (b.take k)&&(b.getD k ins0).from_.all λn=>decide (n<a)||(wr (b.take k)).contains n):=by rw [A4 h ins0,M7];simp [E2]
theorem aR3 {a:Int} {b:List Ins} {k:Nat} (h:E2 a [] (b.take k)=false):E2 a [] b=false:=by rw [<-List.take_append_drop k b,M7,h];rfl
theorem ag9 {b:List Ins} {k:Nat} (h:k<b.length):wr (b.take (k+1))=wr (b.take k)++(b.getD k ins0).to:=by rw [A4 h ins0];simp [wr]
theorem cd4 (a:Int) (b:List Ins) (c d:List Int):vc (EVd [] itCheck [(76,cNamed),(78,cAll 77 tysC objC [0,1] isC)]) (bR7 a b) Go.Proofs.Tryd.f41 cCheck (a,b,c,d,()):=(cd2 a b c d).mpr (by
 intro Z P H Q R U I V S T hc hd;have J:b.length<=140737488355328:=T.len;have g:I=(D7 ⟨a,b,c,d⟩,()):=rfl;have K:R=ins0:=rfl;have h1:=run1 (E4 b c) 0;have h2:=run2 a (D3 F8 (E4 b c) 0).2 (E4 b c) [] [] (λn=>rfl);rw [bF2,bR9,show (wr b).all (λn=>!([]:List Int).contains n)=true from cA7.2 (λ_ _=>rfl),Bool.and_true] at h2;rw [bS0] at h1;have p:S=stOf (D3 F8 (E4 b c) 0).1:=rfl;have r:Q=stOf (D3 (E7 a) (E4 b c) ((D3 F8 (E4 b c) 0).2,[])).1:=rfl;have t:P=(D3 (E7 a) (E4 b c) ((D3 F8 (E4 b c) 0).2,[])).2.1:=rfl;rw [h2.1] at r;rw [h2.2] at t;rw [h1] at t
 clear_value P Q R U I S
 subst K;dsimp only [V];simp only [true_and,and_true];rw [h1] at p |-;clear h1 h2;have o:=λh u=>aR1 (a:=a) (b:=b) (c:=c) (d:=d) h u (R1:=c.all G8&&b.all λx=>x.to.all G8&&x.from_.all G8) (R2:=D8 (wr b)&&(wr b).all λn=>decide (a<=n)) rfl rfl;generalize (c.all G8&&b.all λx=>x.to.all G8&&x.from_.all G8)=R1 at*
 generalize (D8 (wr b)&&(wr b).all λn=>decide (a<=n))=R2 at*
 refine ⟨λh=>?_,λh=>⟨λh'=>?_,λh'=>⟨?_,?_,?_⟩⟩⟩
 .have h:4000<b.length:=by have:=cy7 h;omega
  rw [g,aR0 h]
 .have h:¬ 4000<b.length:=by have:¬ ((b.length:Int) >4000):=cy6 h;omega
  have u:lies a 0 4000=false:=by
   have:a<0\/4000<a:=by simpa [H] using h'
   simp only [lies,Bool.and_eq_false_iff,decide_eq_false_iff_not];omega
  rw [g];simp only [D7];rw [if_neg h,u];rfl
 .rintro ⟨n,w,st,e,⟨⟩⟩ f;exact bF3 n w st e f
 .intro D;have h:¬ 4000<b.length:=by have:¬ ((b.length:Int) >4000):=cy6 h;omega
  have u:lies a 0 4000=true:=by
   have:¬ (a<0\/4000<a):=by simpa [H] using h'
   simp only [lies,cx9,cz9];omega
  have hr:=o h u;have v:R1=true:=by
   cases R1
   .rw [p] at D;cases D
   .rfl
  subst v;refine ⟨?_,λh3=>?_,λh3=>?_⟩
  .rintro ⟨n,w,st,e,m,x,y,z,q,⟨⟩⟩ f _ _ _;exact bF4 n w st e m x y z q f
  .have A:R2=true:=by
    cases R2
    .rw [r] at h3;cases h3
    .rfl
   subst A;have hr:I=(if (E2 a [] b&&c.all λn=>decide (n<a)||(wr b).contains n)=false then 4 else 0,()):=by rw [g,hr];rfl
   refine ⟨⟨(0,[],()),rfl,rfl,Int.le_refl _,by dsimp only;omega,rfl,rfl⟩,?_⟩;rintro ⟨i,m,⟨⟩⟩ ⟨L,W,M,E⟩;dsimp only at L W M E |-;obtain ⟨k,rfl⟩:=cy3 L;simp only [cy0] at M E |-;subst M;have s:∀ l:List Int,l.all (isC (a,b,c,d,Z3 [] (wr (b.take k)),()))=l.all λn=>decide (n<a)||(wr (b.take k)).contains n:=λl=>by congr 1;funext n;exact cd3 a b c d _ n
   rw [s,s];refine ⟨λB=>?_,λN=>?_⟩
   .have B:(k:Int)<b.length:=cy7 B;have f:=aR2 (a:=a) (b:=b) (k:=k) (by omega);rw [E,Bool.true_and] at f;refine ⟨⟨L,B⟩,λF=>?_,λG=>?_⟩
    .rw [Bool.not_eq_true',<-f] at F;rw [hr,aR3 F];rfl
    .rw [Bool.not_eq_false',<-f] at G;refine ⟨⟨(0,Z3 [] (wr (b.take k)),()),rfl,rfl,Int.le_refl _,by dsimp only;omega,by simp⟩,?_⟩;rintro ⟨j,m,⟨⟩⟩ ⟨j0,X,O⟩;dsimp only at j0 X O |-;obtain ⟨q,rfl⟩:=cy3 j0;simp only [cy0] at O |-;subst O;refine ⟨λC=>?_,λC=>?_⟩
     .have C:(q:Int)<(b.getD k ins0).to.length:=cy7 C;refine ⟨⟨j0,C⟩,((q+1:Nat),putB (Z3 [] (wr (b.take k)++(b.getD k ins0).to.take q)) ((b.getD k ins0).to.getD q 0) true,()),B3 (by omega) (av8 (k:=k) T (by omega)),rfl,⟨by omega,by dsimp only;omega,?_⟩,by dsimp only;omega⟩;dsimp only;rw [cy0,A4 (by omega) 0,<-cA3,bF1]
     .have C:q=(b.getD k ins0).to.length:=by have:¬ (q:Int)<(b.getD k ins0).to.length:=cy6 C;omega
      subst C;refine ⟨((k+1:Nat),_,()),B3 (by omega) J,rfl,⟨by omega,by dsimp only;omega,?_,by rw [cy0];exact G⟩,by dsimp only;omega⟩;dsimp only;rw [cy0,ag9 (by omega),cA5];rfl
   .have Y:k=b.length:=by have:¬ (k:Int)<b.length:=cy6 N;omega
    subst Y;rw [cA5] at E |-;rw [hr,E,Bool.true_and];refine ⟨λF=>?_,λG=>?_⟩
    .rw [Bool.not_eq_true'] at F;rw [F];rfl
    .rw [Bool.not_eq_false'] at G;rw [G];rfl
  .have A:R2=false:=by
    cases R2
    .rfl
    .rw [r] at h3;exact absurd rfl h3
   subst A;exact ⟨r,by rw [t,g,hr];rfl⟩
 .intro D;have h:¬ 4000<b.length:=by have:¬ ((b.length:Int) >4000):=cy6 h;omega
  have u:lies a 0 4000=true:=by
   have:¬ (a<0\/4000<a):=by simpa [H] using h'
   simp only [lies,cx9,cz9];omega
  have hr:=o h u;have v:R1=false:=by
   cases R1
   .rfl
   .rw [p] at D;exact absurd rfl D
  subst v;exact ⟨p,by rw [g,hr];rfl⟩)
theorem ap2:D0 prog RG 41 cCheck:=bx9 bF0 (A5 bp2 (A5 bE0 C0)) (λp=>bR7 p.1 p.2.1) (by kernel_rfl) (by kernel_rfl) (by kernel_rfl) λ(a,b,c,d,()) _=>cd4 a b c d
abbrev Spans:=List (Int×Span)
def getS (m:Spans) (n:Int):Span:=(mget eqI m n).getD ⟨0,0⟩
def as8 (m:Spans) (n first:Int):Spans:=mput eqI m n ⟨first,-1⟩
def useS (m:Spans) (n place:Int):Spans:=mput eqI m n ⟨(getS m n).first,place⟩
def K7 (m:Spans) (l:List Int) (first:Int):Spans:=l.foldl (λm n=>as8 m n first) m
def uses (m:Spans) (l:List Int) (place:Int):Spans:=l.foldl (λm n=>useS m n place) m
def upto (n:Nat):List Int:=(List.range n).map λk:Nat=>(k:Int)
def L5 (params:Int):Spans:=K7 [] (upto params.toNat) 0
def I7 (m:Spans):List Ins->Int->Spans
 |[],_=>m
 |x::r,i=>I7 (K7 (uses m x.from_ i) x.to (i+1)) r (i+1)
def never:Span:=⟨0,-1⟩
def finS (s:Span):Span:=if s.last<0 then never else s
def T6 (m:Spans) (seen:List Int):Spans:=(m.zipIdx).map λx=>if seen.contains (x.2:Int) then (x.1.1,finS x.1.2) else x.1
def M2 (params:Int) (code:List Ins) (out:List Int):Spans:=uses (I7 (L5 params) code 0) out code.length
def A7 (params:Int) (code:List Ins) (out:List Int):Spans:=(M2 params code out).map λx=>(x.1,finS x.2)
def cBegin:Con RU:=⟨[one,one,one],[i64,i64,mapS],[.d 0,.d 1,.ptr 0 0],[.box 80 [.map 1],.map 2],none,none,[],[mapS],[],[.box 80 [.map 1],.map 0],λp=>(as8 p.2.2.1 p.1 p.2.1,()),[],[],[]⟩
def cUse:Con RU:=⟨[one,one,one],[i64,i64,mapS],[.d 0,.d 1,.ptr 0 0],[.box 80 [.map 1],.map 2],none,none,[],[mapS],[],[.box 80 [.map 1],.map 0],λp=>(useS p.2.2.1 p.1 p.2.1,()),[],[],[]⟩
def cSpans:Con RU:=⟨[(true,4)],ag6,[.d 0,.d 1,.d 2,.d 3],[],some λp=>p.1<=4000,none,[one],[mapS],[.map 0],[.map 0],λp=>(A7 p.1 p.2.1 p.2.2.1,()),[],[],[]⟩
def bS1 (params:Int) (code:List Ins) (out:List Int):Nat->St RU->Ann RU:=λk s=>match k with
 |0=>⟨[],[.slot 22,.row 1088],[i64,mapS],λp=>0<=p.1/\(p.1<=params\/p.1=0)/\p.2.1=K7 [] (upto p.1.toNat) 0,λp=>params.toNat-p.1.toNat,[]⟩
 |1=>⟨[],[.slot 32,.row 1088],[i64,mapS],λp=>0<=p.1/\p.1<=code.length/\p.2.1=I7 (L5 params) (code.take p.1.toNat) 0,λp=>code.length-p.1.toNat,[]⟩
 |2=>⟨[],[.slot 40,.row 1088],[i64,mapS],λp=>0<=p.1/\p.1<=(code.getD (s.intAt 32).toNat ins0).from_.length/\
   p.2.1=uses (I7 (L5 params) (code.take (s.intAt 32).toNat) 0) ((code.getD (s.intAt 32).toNat ins0).from_.take p.1.toNat) (s.intAt 32),λp=>(code.getD (s.intAt 32).toNat ins0).from_.length-p.1.toNat,[]⟩
 |3=>⟨[],[.slot 52,.row 1088],[i64,mapS],λp=>0<=p.1/\p.1<=(code.getD (s.intAt 32).toNat ins0).to.length/\
   p.2.1=K7 (uses (I7 (L5 params) (code.take (s.intAt 32).toNat) 0) (code.getD (s.intAt 32).toNat ins0).from_ (s.intAt 32)) ((code.getD (s.intAt 32).toNat ins0).to.take p.1.toNat) (s.intAt 32+1),λp=>(code.getD (s.intAt 32).toNat ins0).to.length-p.1.toNat,[]⟩
 |4=>⟨[],[.slot 66,.row 1088],[i64,mapS],λp=>0<=p.1/\p.1<=out.length/\p.2.1=uses (I7 (L5 params) code 0) (out.take p.1.toNat) code.length,λp=>out.length-p.1.toNat,[]⟩
 |_=>⟨[],[.seen 4992,.row 1088],[ints,mapS],λp=>p.1.Nodup/\(∀ i∈p.1,0<=i/\i<(M2 params code out).length)/\p.2.1=T6 (M2 params code out) p.1,λp=>(M2 params code out).length-p.1.length,[]⟩
def W5 (m:Spans) (place:Int) (n:Int):Bool:=match mget eqI m n with
 |some s=>I1 s.first s.last place
 |none=>false
def aa5 (m:Spans) (L n:Nat):List (List Int):=(List.range (L+1)).map λplace:Nat=>(upto n).filter (W5 m place)
def P9 (m:Spans) (L:Nat) (n q:Int):List (List Int):=(List.range (L+1)).map λplace:Nat=>(upto n.toNat).filter (W5 m place)++if (place:Int)<q/\W5 m place n=true then [n] else []
def cLive:Con RU:=con [(true,4)] ag6 [one,one] [bf3,i64] [false,false] none λp=>((Q2 ⟨p.1,p.2.1,p.2.2.1,p.2.2.2.1⟩).1,(Q2 ⟨p.1,p.2.1,p.2.2.1,p.2.2.2.1⟩).2,())
def co1 (params:Int) (code:List Ins) (out:List Int):Nat->St RU->Ann RU:=λk s=>match k with
 |0=>⟨[],[.slot 23,.row 1280],[i64,bf3],λp=>0<=p.1/\p.1<=4000/\p.2.1=aa5 (A7 params code out) code.length p.1.toNat,λp=>4000-p.1.toNat,[]⟩
 |_=>⟨[],[.slot 10,.row 1280],[i64,bf3],λp=>0<=p.1/\p.1<=code.length+1/\(getS (A7 params code out) (s.intAt 23)).first<=p.1/\p.2.1=P9 (A7 params code out) code.length (s.intAt 23) p.1,λp=>code.length+1-p.1.toNat,[]⟩
def cPress:Con RU:=con [(true,4)] ag6 [one,one] [i64,i64] [false,false] none λp=>((W3 ⟨p.1,p.2.1,p.2.2.1,p.2.2.2.1⟩).1,(W3 ⟨p.1,p.2.1,p.2.2.1,p.2.2.2.1⟩).2,())
theorem cd5 (n i:Int) (m:Spans):vc (EV []) noL Go.Proofs.Tryd.f81 cBegin (n,i,m,())=((mput (λ(x y:Int)=>x==y) m n (Span.mk i (-1:Int)),())=(as8 m n i,())):=by kernel_rfl
theorem cv5 (n i:Int) (m:Spans):vc (EV []) noL Go.Proofs.Tryd.f82 cUse (n,i,m,())=((mput (λ(x y:Int)=>x==y) m n (Span.mk (Option.getD (mget (λ(x y:Int)=>x==y) m n) (Span.mk (0:Int) (0:Int))).first i),())=(useS m n i,())):=by kernel_rfl
theorem cd6 (a:Int) (b:List Ins) (c d:List Int):vc (EV [(81,cBegin),(82,cUse)]) (bS1 a b c) Go.Proofs.Tryd.f51 cSpans (a,b,c,d,())=(let g:Ins:=Ins.mk (0:Int) (0:Int) [] [] [];
 let f:Int:=(↑(List.length b):Int);
 let h:Int:=(↑(List.length c):Int);
 let j:Nat:=List.length (M2 a b c);
 let r:Span:=Span.mk (0:Int) (-1:Int);
  Small RU (Sigma.mk (Ty.slice (52:Nat) (Ty.user (0:Nat))) b)->
  Small RU (Sigma.mk (Ty.slice (3:Nat) (Ty.int IntKind.i64)) c)->
  Small RU (Sigma.mk (Ty.slice (3:Nat) (Ty.int IntKind.i64)) d)->
  (∃ (p:Int×List (Int×Span)×Unit),
  a=a/\
  b=b/\
  c=c/\
  d=d/\
  Value.map none=Value.map none/\
  a=a/\
  (0:Int)=p.1/\
  a=a/\b=b/\c=c/\d=d/\[]=p.2.1/\(0:Int)<=p.1/\(p.1<=a\/p.1=(0:Int))/\p.2.1=K7 [] (upto (Int.toNat p.1)) (0:Int))/\
  ∀ (p:Int×List (Int×Span)×Unit),
 let e0_1:Bool:=decide (p.1<a);
 let e1_1:Int:=p.1;
 let e2_1:List (Int×Span):=p.2.1;
  (0:Int)<=e1_1/\(e1_1<=a\/e1_1=(0:Int))/\e2_1=K7 [] (upto (Int.toNat e1_1)) (0:Int)->
  (e0_1=true->
  ∃ (p':Int×List (Int×Span)×Unit),
  a=a/\
  b=b/\
  c=c/\
  d=d/\
  Value.map none=Value.map none/\
  a=a/\
  IntKind.i64.wrap (e1_1+(1:Int))=p'.1/\
  a=a/\
  b=b/\
  c=c/\
  d=d/\
  as8 e2_1 e1_1 (0:Int)=p'.2.1/\
  ((0:Int)<=p'.1/\(p'.1<=a\/p'.1=(0:Int))/\p'.2.1=K7 [] (upto (Int.toNat p'.1)) (0:Int))/\
  Int.toNat a-Int.toNat p'.1<Int.toNat a-Int.toNat e1_1)/\
  (e0_1=false->
  (∃ (p:Int×List (Int×Span)×Unit),
  a=a/\
  b=b/\
  c=c/\
  d=d/\
  Value.map none=Value.map none/\
  a=a/\
  e1_1=e1_1/\
  e0_1=e0_1/\
  b=b/\
  f=f/\
  (0:Int)=p.1/\
  a=a/\b=b/\c=c/\d=d/\e2_1=p.2.1/\(0:Int)<=p.1/\p.1<=f/\p.2.1=I7 (L5 a) (List.take (Int.toNat p.1) b) (0:Int))/\
  ∀ (p:Int×List (Int×Span)×Unit),
 let e0_2:Int:=(↑(List.length (List.getD b (Int.toNat p.1) g).from_):Int);
 let e1_2:Bool:=decide (p.1<f);
 let e2_2:Int:=p.1;
 let e3_1:Int:=(↑(List.length (List.getD b (Int.toNat e2_2) g).to):Int);
 let e4_1:List (Int×Span):=I7 (L5 a) (List.take (Int.toNat e2_2) b) (0:Int);
 let e:Ins:=List.getD b (Int.toNat e2_2) g;
 let q:List (Int×Span):=p.2.1;
 let m:Nat:=List.length (List.getD b (Int.toNat e2_2) ins0).to;
 let o:Nat:=List.length (List.getD b (Int.toNat e2_2) ins0).from_;
 let s:Int:=IntKind.i64.wrap (e2_2+(1:Int));
  (0:Int)<=e2_2/\e2_2<=f/\q=e4_1->
  (e1_2=true->
  ((0:Int)<=e2_2/\e2_2<f)/\
  (∃ (p:Int×List (Int×Span)×Unit),
  a=a/\
  b=b/\
  c=c/\
  d=d/\
  Value.map none=Value.map none/\
  a=a/\
  e1_1=e1_1/\
  e0_1=e0_1/\
  b=b/\
  f=f/\
  e2_2=e2_2/\
  e1_2=e1_2/\
  e2_2=e2_2/\
  e.from_=e.from_/\
  e0_2=e0_2/\
  (0:Int)=p.1/\
  a=a/\
  b=b/\
  c=c/\
  d=d/\
  q=p.2.1/\
  e.op=e.op/\
  e.n=e.n/\
  e.to=e.to/\
  e.from_=e.from_/\
  e.body=e.body/\
  (0:Int)<=p.1/\
  p.1<=(↑o:Int)/\
  p.2.1=uses e4_1 (List.take (Int.toNat p.1) (List.getD b (Int.toNat e2_2) ins0).from_) e2_2)/\
  ∀ (p:Int×List (Int×Span)×Unit),
 let g:Bool:=decide (p.1<e0_2);
 let e1_3:Int:=p.1;
 let h:List (Int×Span):=p.2.1;
 let j:List Int:=(List.getD b (Int.toNat e2_2) ins0).from_;
  (0:Int)<=e1_3/\e1_3<=(↑o:Int)/\h=uses e4_1 (List.take (Int.toNat e1_3) j) e2_2->
  (g=true->
  ((0:Int)<=e1_3/\e1_3<e0_2)/\
  ∃ (p':Int×List (Int×Span)×Unit),
  a=a/\
  b=b/\
  c=c/\
  d=d/\
  Value.map none=Value.map none/\
  a=a/\
  e1_1=e1_1/\
  e0_1=e0_1/\
  b=b/\
  f=f/\
  e2_2=e2_2/\
  e1_2=e1_2/\
  e2_2=e2_2/\
  e.from_=e.from_/\
  e0_2=e0_2/\
  IntKind.i64.wrap (e1_3+(1:Int))=p'.1/\
  a=a/\
  b=b/\
  c=c/\
  d=d/\
  useS h (List.getD e.from_ (Int.toNat e1_3) (0:Int)) e2_2=p'.2.1/\
  e.op=e.op/\
  e.n=e.n/\
  e.to=e.to/\
  e.from_=e.from_/\
  e.body=e.body/\
  ((0:Int)<=p'.1/\
  p'.1<=(↑o:Int)/\p'.2.1=uses e4_1 (List.take (Int.toNat p'.1) j) e2_2)/\
  o-Int.toNat p'.1<o-Int.toNat e1_3)/\
  (g=false->
  (∃ (p:Int×List (Int×Span)×Unit),
  a=a/\
  b=b/\
  c=c/\
  d=d/\
  Value.map none=Value.map none/\
  a=a/\
  e1_1=e1_1/\
  e0_1=e0_1/\
  b=b/\
  f=f/\
  e2_2=e2_2/\
  e1_2=e1_2/\
  e2_2=e2_2/\
  e.from_=e.from_/\
  e0_2=e0_2/\
  e1_3=e1_3/\
  g=g/\
  e.to=e.to/\
  e3_1=e3_1/\
  (0:Int)=p.1/\
  a=a/\
  b=b/\
  c=c/\
  d=d/\
  h=p.2.1/\
  e.op=e.op/\
  e.n=e.n/\
  e.to=e.to/\
  e.from_=e.from_/\
  e.body=e.body/\
  (0:Int)<=p.1/\
  p.1<=(↑m:Int)/\
  p.2.1=
  K7 (uses e4_1 j e2_2)
  (List.take (Int.toNat p.1) (List.getD b (Int.toNat e2_2) ins0).to) (e2_2+(1:Int)))/\
  ∀ (p:Int×List (Int×Span)×Unit),
 let e0_3:List (Int×Span):=p.2.1;
 let e1_4:Int:=p.1;
 let h:Bool:=decide (e1_4<e3_1);
  (0:Int)<=e1_4/\
  e1_4<=(↑m:Int)/\e0_3=K7 (uses e4_1 j e2_2) (List.take (Int.toNat e1_4) (List.getD b (Int.toNat e2_2) ins0).to) (e2_2+(1:Int))->
  (h=true->
  ((0:Int)<=e1_4/\e1_4<e3_1)/\
  ∃ (p':Int×List (Int×Span)×Unit),
  a=a/\
  b=b/\
  c=c/\
  d=d/\
  Value.map none=Value.map none/\
  a=a/\
  e1_1=e1_1/\
  e0_1=e0_1/\
  b=b/\
  f=f/\
  e2_2=e2_2/\
  e1_2=e1_2/\
  e2_2=e2_2/\
  e.from_=e.from_/\
  e0_2=e0_2/\
  e1_3=e1_3/\
  g=g/\
  e.to=e.to/\
  e3_1=e3_1/\
  IntKind.i64.wrap (e1_4+(1:Int))=p'.1/\
  a=a/\
  b=b/\
  c=c/\
  d=d/\
  as8 e0_3 (List.getD e.to (Int.toNat e1_4) (0:Int)) s=p'.2.1/\
  e.op=e.op/\
  e.n=e.n/\
  e.to=e.to/\
  e.from_=e.from_/\
  e.body=e.body/\
  ((0:Int)<=p'.1/\
  p'.1<=(↑m:Int)/\
  p'.2.1=
  K7 (uses e4_1 j e2_2)
  (List.take (Int.toNat p'.1) (List.getD b (Int.toNat e2_2) ins0).to)
  (e2_2+(1:Int)))/\
  m-Int.toNat p'.1<m-Int.toNat e1_4)/\
  (h=false->
  ∃ (p':Int×List (Int×Span)×Unit),
  a=a/\
  b=b/\
  c=c/\
  d=d/\
  Value.map none=Value.map none/\
  a=a/\
  e1_1=e1_1/\
  e0_1=e0_1/\
  b=b/\
  f=f/\
  s=p'.1/\
  a=a/\
  b=b/\
  c=c/\
  d=d/\
  e0_3=p'.2.1/\
  ((0:Int)<=p'.1/\p'.1<=f/\p'.2.1=I7 (L5 a) (List.take (Int.toNat p'.1) b) (0:Int))/\
  List.length b-Int.toNat p'.1<List.length b-Int.toNat e2_2)))/\
  (e1_2=false->
  (∃ (p:Int×List (Int×Span)×Unit),
  a=a/\
  b=b/\
  c=c/\
  d=d/\
  Value.map none=Value.map none/\
  a=a/\
  e1_1=e1_1/\
  e0_1=e0_1/\
  b=b/\
  f=f/\
  e2_2=e2_2/\
  e1_2=e1_2/\
  c=c/\
  h=h/\
  (0:Int)=p.1/\
  a=a/\
  b=b/\
  c=c/\
  d=d/\
  q=p.2.1/\
  (0:Int)<=p.1/\p.1<=h/\p.2.1=uses (I7 (L5 a) b (0:Int)) (List.take (Int.toNat p.1) c) f)/\
  ∀ (p:Int×List (Int×Span)×Unit),
 let g:Nat:=List.length p.2.1;
 let e1_3:Bool:=decide (p.1<h);
 let e2_3:Int:=p.1;
 let e3_2:List (Int×Span):=p.2.1;
  (0:Int)<=e2_3/\e2_3<=h/\e3_2=uses (I7 (L5 a) b (0:Int)) (List.take (Int.toNat e2_3) c) f->
  (e1_3=true->
  ((0:Int)<=e2_3/\e2_3<h)/\
  ∃ (p':Int×List (Int×Span)×Unit),
  a=a/\
  b=b/\
  c=c/\
  d=d/\
  Value.map none=Value.map none/\
  a=a/\
  e1_1=e1_1/\
  e0_1=e0_1/\
  b=b/\
  f=f/\
  e2_2=e2_2/\
  e1_2=e1_2/\
  c=c/\
  h=h/\
  IntKind.i64.wrap (e2_3+(1:Int))=p'.1/\
  a=a/\
  b=b/\
  c=c/\
  d=d/\
  useS e3_2 (List.getD c (Int.toNat e2_3) (0:Int)) f=p'.2.1/\
  ((0:Int)<=p'.1/\
  p'.1<=h/\p'.2.1=uses (I7 (L5 a) b (0:Int)) (List.take (Int.toNat p'.1) c) f)/\
  List.length c-Int.toNat p'.1<List.length c-Int.toNat e2_3)/\
  (e1_3=false->
  (∃ (p:List Int×List (Int×Span)×Unit),
  a=a/\
  b=b/\
  c=c/\
  d=d/\
  Value.map none=Value.map none/\
  a=a/\
  e1_1=e1_1/\
  e0_1=e0_1/\
  b=b/\
  f=f/\
  e2_2=e2_2/\
  e1_2=e1_2/\
  c=c/\
  h=h/\
  e2_3=e2_3/\
  e1_3=e1_3/\
  a=a/\
  b=b/\
  c=c/\
  d=d/\
  e3_2=p.2.1/\
  g=g/\
  []=List.map Int.toNat p.1/\
  (0:Nat)=List.getLastD (List.map Int.toNat p.1) (0:Nat)/\
  List.Pairwise (λ(k l:den RU.T i64)=>k≠l) p.1/\
  (∀ (i:Int),List.Mem i p.1->(0:Int)<=i/\i<(↑j:Int))/\p.2.1=T6 (M2 a b c) p.1)/\
  ∀ (p:List Int×List (Int×Span)×Unit),
 let e0_3:Bool:=
  decide
  ((List.getD (List.map (λ(x:den RU.T (Ty.int IntKind.i64)×den RU.T (Ty.user (3:Nat)))=>x.2) p.2.1)
  (List.getLastD (List.map Int.toNat p.1) (0:Nat)) (Span.mk (0:Int) (0:Int))).last<
  (0:Int));
 let e1_4:List (Int×Span):=p.2.1;
 let e2_4:List Nat:=List.map Int.toNat p.1;
 let e3_3:List Int:=p.1;
 let e4_2:Nat:=List.getLastD e2_4 (0:Nat);
  List.Pairwise (λ(k l:den RU.T i64)=>k≠l) e3_3/\
  (∀ (i:Int),List.Mem i e3_3->(0:Int)<=i/\i<(↑j:Int))/\e1_4=T6 (M2 a b c) e3_3->
  List.length e1_4=g/\
  (∀ (i:Nat),
 let e0_4:Bool:=
  decide
  ((List.getD (List.map (λ(x:den RU.T (Ty.int IntKind.i64)×den RU.T (Ty.user (3:Nat)))=>x.2) e1_4) i
  (Span.mk (0:Int) (0:Int))).last<
  (0:Int));
 let e1_5:List Nat:=e2_4++[i];
  i<g->
  ¬i∈e2_4->
  (true=true->
  (List.length e1_4=g/\List.getLast? e1_5=some i/\i<g)/\
  (e0_4=true->
  ∃ (p':List Int×List (Int×Span)×Unit),
  a=a/\
  b=b/\
  c=c/\
  d=d/\
  Value.map none=Value.map none/\
  a=a/\
  e1_1=e1_1/\
  e0_1=e0_1/\
  b=b/\
  f=f/\
  e2_2=e2_2/\
  e1_2=e1_2/\
  c=c/\
  h=h/\
  e2_3=e2_3/\
  e1_3=e1_3/\
  a=a/\
  b=b/\
  c=c/\
  d=d/\
  mput (λ(x y:Int)=>x==y) e1_4
  (List.getD
  (List.map
  (λ(x:den RU.T (Ty.int IntKind.i64)×den RU.T (Ty.user (3:Nat)))=>x.1)
  e1_4)
  i (0:Int))
  r=
  p'.2.1/\
  g=g/\
  e1_5=List.map Int.toNat p'.1/\
  i=List.getLastD (List.map Int.toNat p'.1) (0:Nat)/\
  (List.Pairwise (λ(k l:den RU.T i64)=>k≠l) p'.1/\
  (∀ (i:Int),List.Mem i p'.1->(0:Int)<=i/\i<(↑j:Int))/\
  p'.2.1=T6 (M2 a b c) p'.1)/\
  j-List.length p'.1<j-List.length e3_3)/\
  (e0_4=false->
  ∃ (p':List Int×List (Int×Span)×Unit),
  a=a/\
  b=b/\
  c=c/\
  d=d/\
  Value.map none=Value.map none/\
  a=a/\
  e1_1=e1_1/\
  e0_1=e0_1/\
  b=b/\
  f=f/\
  e2_2=e2_2/\
  e1_2=e1_2/\
  c=c/\
  h=h/\
  e2_3=e2_3/\
  e1_3=e1_3/\
  a=a/\
  b=b/\
  c=c/\
  d=d/\
  e1_4=p'.2.1/\
  g=g/\
  e1_5=List.map Int.toNat p'.1/\
  i=List.getLastD (List.map Int.toNat p'.1) (0:Nat)/\
  (List.Pairwise (λ(k l:den RU.T i64)=>k≠l) p'.1/\
  (∀ (i:Int),List.Mem i p'.1->(0:Int)<=i/\i<(↑j:Int))/\
  p'.2.1=T6 (M2 a b c) p'.1)/\
  j-List.length p'.1<j-List.length e3_3))/\
  (true=false->(e1_4,())=(A7 a b c,())))/\
  ((∀ (i:Nat),i<g->List.Mem i e2_4)->
  (false=true->
  (List.length e1_4=g/\List.getLast? e2_4=some e4_2/\e4_2<g)/\
  (e0_3=true->
  ∃ (p':List Int×List (Int×Span)×Unit),
  a=a/\
  b=b/\
  c=c/\
  d=d/\
  Value.map none=Value.map none/\
  a=a/\
  e1_1=e1_1/\
  e0_1=e0_1/\
  b=b/\
  f=f/\
  e2_2=e2_2/\
  e1_2=e1_2/\
  c=c/\
  h=h/\
  e2_3=e2_3/\
  e1_3=e1_3/\
  a=a/\
  b=b/\
  c=c/\
  d=d/\
  mput (λ(x y:Int)=>x==y) e1_4
  (List.getD
  (List.map (λ(x:den RU.T (Ty.int IntKind.i64)×den RU.T (Ty.user (3:Nat)))=>x.1)
  e1_4)
  e4_2 (0:Int))
  r=
  p'.2.1/\
  g=g/\
  e2_4=List.map Int.toNat p'.1/\
  e4_2=List.getLastD (List.map Int.toNat p'.1) (0:Nat)/\
  (List.Pairwise (λ(k l:den RU.T i64)=>k≠l) p'.1/\
  (∀ (i:Int),List.Mem i p'.1->(0:Int)<=i/\i<(↑j:Int))/\
  p'.2.1=T6 (M2 a b c) p'.1)/\
  j-List.length p'.1<j-List.length e3_3)/\
  (e0_3=false->
  ∃ (p':List Int×List (Int×Span)×Unit),
  a=a/\
  b=b/\
  c=c/\
  d=d/\
  Value.map none=Value.map none/\
  a=a/\
  e1_1=e1_1/\
  e0_1=e0_1/\
  b=b/\
  f=f/\
  e2_2=e2_2/\
  e1_2=e1_2/\
  c=c/\
  h=h/\
  e2_3=e2_3/\
  e1_3=e1_3/\
  a=a/\
  b=b/\
  c=c/\
  d=d/\
  e1_4=p'.2.1/\
  g=g/\
  e2_4=List.map Int.toNat p'.1/\
  e4_2=List.getLastD (List.map Int.toNat p'.1) (0:Nat)/\
  (List.Pairwise (λ(k l:den RU.T i64)=>k≠l) p'.1/\
  (∀ (i:Int),List.Mem i p'.1->(0:Int)<=i/\i<(↑j:Int))/\
  p'.2.1=T6 (M2 a b c) p'.1)/\
  j-List.length p'.1<j-List.length e3_3))/\
  (false=false->(e1_4,())=(A7 a b c,()))))))):=by kernel_rfl
theorem co2 (a:Int) (b:List Ins) (c d:List Int):vc (EVd [(23,[0])] noIt [(41,cCheck),(51,cSpans),(69,cAt)]) (co1 a b c) Go.Proofs.Tryd.f33 cLive (a,b,c,d,())=(let e:Bool:=D7 (VFun.mk a b c d) !=(0:Int);
 let f:Int:=IntKind.i64.wrap ((↑(List.length b):Int)+(1:Int));
 let g:Span:=Span.mk (0:Int) (0:Int);
 let i:List (List Int)×Int×Unit:=((Q2 (VFun.mk a b c d)).1,(Q2 (VFun.mk a b c d)).2,());
 let h:Int:=D7 (VFun.mk a b c d);
 let k:Nat:=List.length b+(1:Nat);
  Small RU (Sigma.mk (Ty.slice (52:Nat) (Ty.user (0:Nat))) b)->
  Small RU (Sigma.mk (Ty.slice (3:Nat) (Ty.int IntKind.i64)) c)->
  Small RU (Sigma.mk (Ty.slice (3:Nat) (Ty.int IntKind.i64)) d)->
  (e=true->([],h,())=i)/\
  (e=false->
  ((0:Int)<=f/\f*(↑(24:Nat):Int)<=(↑(140737488355328:Nat):Int))/\
  a<=(4000:Int)/\
  (∃ (p:Int×List (List Int)×Unit),
  a=a/\
  b=b/\
  c=c/\
  d=d/\
  (0:Int)=(0:Int)/\
  h=h/\
  e=e/\
  (0:Int)=p.1/\
  a=a/\
  b=b/\
  c=c/\
  d=d/\
  List.replicate (Int.toNat f) []=p.2.1/\
  A7 a b c=A7 a b c/\(0:Int)<=p.1/\p.1<=(4000:Int)/\p.2.1=aa5 (A7 a b c) (List.length b) (Int.toNat p.1))/\
  ∀ (p:Int×List (List Int)×Unit),
 let e0_1:Bool:=decide (p.1<(4000:Int));
 let f:Int:=(Option.getD (mget (λ(x y:Int)=>x==y) (A7 a b c) p.1) g).first;
 let g:Int:=(Option.getD (mget (λ(x y:Int)=>x==y) (A7 a b c) p.1) g).last;
 let e3_1:Bool:=Option.isSome (mget (λ(x y:Int)=>x==y) (A7 a b c) p.1);
 let e4_1:Int:=p.1;
 let e5_1:Int:=(↑(List.length p.2.1):Int);
 let j:List (List Int):=p.2.1;
  (0:Int)<=e4_1/\e4_1<=(4000:Int)/\j=aa5 (A7 a b c) (List.length b) (Int.toNat e4_1)->
  (e0_1=true->
  (∃ (p:Int×List (List Int)×Unit),
  a=a/\
  b=b/\
  c=c/\
  d=d/\
  (0:Int)=(0:Int)/\
  h=h/\
  e=e/\
  e4_1=e4_1/\
  e0_1=e0_1/\
  e4_1=e4_1/\
  e3_1=e3_1/\
  f=p.1/\
  a=a/\
  b=b/\
  c=c/\
  d=d/\
  j=p.2.1/\
  A7 a b c=A7 a b c/\
  f=f/\
  g=g/\
  (0:Int)<=p.1/\
  p.1<=(↑(List.length b):Int)+(1:Int)/\
  (getS (A7 a b c) e4_1).first<=p.1/\p.2.1=P9 (A7 a b c) (List.length b) e4_1 p.1)/\
  ∀ (p:Int×List (List Int)×Unit),
 let e0_2:Bool:=I1 f g p.1;
 let e1_1:Int:=p.1;
 let e2_1:List (List Int):=p.2.1;
 let i:Bool:=e3_1&&decide (e1_1<=g);
 let e4_2:Int:=(↑(List.length b):Int)+(1:Int);
  (0:Int)<=e1_1/\e1_1<=e4_2/\(getS (A7 a b c) e4_1).first<=e1_1/\e2_1=P9 (A7 a b c) (List.length b) e4_1 e1_1->
  (i=true->
  (e0_2=true->
  ((0:Int)<=e1_1/\e1_1<(↑(List.length e2_1):Int))/\
  (List.length (List.getD e2_1 (Int.toNat e1_1) [])+List.length [e4_1])*(8:Nat)<=(140737488355328:Nat)/\
  ((0:Int)<=e1_1/\e1_1<(↑(List.length e2_1):Int))/\e1_1=e1_1)/\
  ∃ (p':Int×List (List Int)×Unit),
  (bif e0_2 then a else a)=a/\
  (bif e0_2 then b else b)=b/\
  (bif e0_2 then c else c)=c/\
  (bif e0_2 then d else d)=d/\
  (bif e0_2 then (0:Int) else (0:Int))=(0:Int)/\
  (bif e0_2 then h else h)=h/\
  (bif e0_2 then e else e)=e/\
  (bif e0_2 then e4_1 else e4_1)=e4_1/\
  (bif e0_2 then e0_1 else e0_1)=e0_1/\
  (bif e0_2 then e4_1 else e4_1)=e4_1/\
  (bif e0_2 then e3_1 else e3_1)=e3_1/\
  IntKind.i64.wrap ((bif e0_2 then e1_1 else e1_1)+(1:Int))=p'.1/\
  (bif e0_2 then a else a)=a/\
  (bif e0_2 then b else b)=b/\
  (bif e0_2 then c else c)=c/\
  (bif e0_2 then d else d)=d/\
  (bif e0_2 then List.set e2_1 (Int.toNat e1_1) (List.getD e2_1 (Int.toNat e1_1) []++[e4_1]) else e2_1)=p'.2.1/\
  (bif e0_2 then A7 a b c else A7 a b c)=A7 a b c/\
  (bif e0_2 then f else f)=f/\
  (bif e0_2 then g else g)=g/\
  ((0:Int)<=p'.1/\
  p'.1<=e4_2/\
  (getS (A7 a b c) e4_1).first<=p'.1/\p'.2.1=P9 (A7 a b c) (List.length b) e4_1 p'.1)/\
  k-Int.toNat p'.1<k-Int.toNat e1_1)/\
  (i=false->
  ∃ (p':Int×List (List Int)×Unit),
  a=a/\
  b=b/\
  c=c/\
  d=d/\
  (0:Int)=(0:Int)/\
  h=h/\
  e=e/\
  IntKind.i64.wrap (e4_1+(1:Int))=p'.1/\
  a=a/\
  b=b/\
  c=c/\
  d=d/\
  e2_1=p'.2.1/\
  A7 a b c=A7 a b c/\
  ((0:Int)<=p'.1/\p'.1<=(4000:Int)/\p'.2.1=aa5 (A7 a b c) (List.length b) (Int.toNat p'.1))/\
  (4000:Nat)-Int.toNat p'.1<(4000:Nat)-Int.toNat e4_1))/\
  (e0_1=false->((0:Int)<=e5_1/\e5_1<=e5_1/\e5_1<=e5_1)/\(List.take (Int.toNat e5_1) j,(0:Int),())=i))):=by kernel_rfl
theorem aJ8 (m:Spans) (l:List Int) (x i:Int):K7 m (l++[x]) i=as8 (K7 m l i) x i:=by simp [K7]
theorem bg1 (m:Spans) (l:List Int) (x i:Int):uses m (l++[x]) i=useS (uses m l i) x i:=by simp [uses]
theorem bg2 (n:Nat):upto (n+1)=upto n++[(n:Int)]:=by simp [upto,List.range_succ]
theorem aJ9 (x:Ins):∀ (l:List Ins) (m:Spans) (i:Int),I7 m (l++[x]) i=K7 (uses (I7 m l i) x.from_ (i+l.length)) x.to (i+l.length+1)
 |[],m,i=>by simp [I7]
 |y::l,m,i=>by simp only [List.cons_append,I7,aJ9 x l,cz3,Int.natCast_add];rw [show i+1+(l.length:Int)=i+((l.length:Int)+((1:Nat):Int)) by omega]
def V2 (m:Spans):List Int:=m.map (·.1)
theorem bg3 {m:Spans} (h:(V2 m).Nodup) (k:Int) (v:Span):(V2 (mput eqI m k v)).Nodup/\∀ n,n∈V2 (mput eqI m k v)<->n=k\/n∈V2 m:=by
 induction m with
 |nil=>simp [mput,V2]
 |cons x r ih=>
  obtain ⟨k',v'⟩:=x;obtain ⟨h1,h2⟩:=List.nodup_cons.1 (show (k'::V2 r).Nodup from h);simp only [mput,eqI,cz0,beq_iff_eq];by_cases a:k'=k
  .subst a;rw [if_pos rfl];refine ⟨h,λn=>?_⟩;show n∈k'::V2 r<->n=k'\/n∈k'::V2 r;simp
  .rw [if_neg a];obtain ⟨c,b⟩:=ih h2;refine ⟨List.nodup_cons.2 ⟨λhm=>?_,c⟩,λn=>?_⟩
   .rcases (b k').1 hm with h3|h3
    .exact a h3
    .exact h1 h3
   .show n∈k'::V2 (mput eqI r k v)<->n=k\/n∈k'::V2 r;simp only [List.mem_cons,b];constructor
    .rintro (h|h|h)<;>simp [h]
    .rintro (h|h|h)<;>simp [h]
theorem aK0 (l:List Int) (i:Int):∀ {m:Spans},(V2 m).Nodup->(V2 (K7 m l i)).Nodup:=by
 induction l with
 |nil=>intro m h;exact h
 |cons x r ih=>intro m h;exact ih (bg3 h _ _).1
theorem bg4 (l:List Int) (i:Int):∀ {m:Spans},(V2 m).Nodup->(V2 (uses m l i)).Nodup:=by
 induction l with
 |nil=>intro m h;exact h
 |cons x r ih=>intro m h;exact ih (bg3 h _ _).1
theorem aK1:∀ (l:List Ins) (i:Int) {m:Spans},(V2 m).Nodup->(V2 (I7 m l i)).Nodup
 |[],_,_,h=>h
 |x::r,i,m,h=>aK1 r (i+1) (aK0 _ _ (bg4 _ _ h))
theorem bp5 (a:Int) (b:List Ins) (c:List Int):(V2 (M2 a b c)).Nodup:=bg4 _ _ (aK1 _ _ (aK0 _ _ (by simp [V2])))
theorem bS2:∀ {m:Spans},(V2 m).Nodup->∀ {i:Nat} {x:Int×Span},m[i]? =some x->∀ v,mput eqI m x.1 v=m.set i (x.1,v)
 |[],_,i,x,h,_=>by simp at h
 |(k',v')::r,a,0,x,h,v=>by simp only [cy5,cx6] at h;subst h;simp [mput,eqI]
 |(k',v')::r,a,i+1,x,h,v=>by obtain ⟨h1,h2⟩:=List.nodup_cons.1 (show (k'::V2 r).Nodup from a);simp only [List.getElem?_cons_succ] at h;have b:k'≠x.1:=λe=>h1 (by rw [e];exact List.mem_map.2 ⟨x,List.mem_of_getElem? h,rfl⟩);simp only [mput,eqI,cz0,beq_iff_eq,if_neg b,List.set_cons_succ];rw [show mput (λx y=>x==y) r x.1 v=mput eqI r x.1 v from rfl,bS2 h2 h v]
theorem aa6 (m:Spans) (seen:List Int) (i:Nat):(T6 m seen)[i]? =(m[i]?).map λx=>if seen.contains (i:Int) then (x.1,finS x.2) else x:=by unfold T6;rw [cz2,List.getElem?_zipIdx];cases m[i]? <;>simp
theorem az6 (m:Spans) (seen:List Int):(T6 m seen).length=m.length:=by simp [T6]
theorem bF5 (m:Spans) (seen:List Int):V2 (T6 m seen)=V2 m:=by
 apply List.ext_getElem?;intro i;simp only [V2,cz2,aa6];cases m[i]? with
 |none=>rfl
 |some x=>simp only [Option.map_some];split<;>rfl
theorem bS3 {m:Spans} {seen:List Int} (h:∀ i:Nat,i<m.length->seen.contains (i:Int)=true):T6 m seen=m.map λx=>(x.1,finS x.2):=by
 apply List.ext_getElem?;intro i;rw [aa6,cz2];cases hm:m[i]? with
 |none=>rfl
 |some x=>rw [Option.map_some,Option.map_some,if_pos (h i (cy1.1 hm).1)]
theorem bS4 (m:Spans):T6 m []=m:=by apply List.ext_getElem?;intro i;rw [aa6];cases m[i]? <;>simp
theorem aR4 {m:Spans} {seen:List Int} {i:Nat} {x:Int×Span} (b:m[i]? =some x):T6 m (seen++[(i:Int)])=(T6 m seen).set i (x.1,finS x.2):=by
 have d:=(cy1.1 b).1;have a:m[i]=x:=(cy1.1 b).2;apply List.ext_getElem?;intro j;rw [cA2,aa6,aa6,az6];by_cases c:i=j
 .subst c;simp [a,d]
 .rw [if_neg c];have:(seen++[(i:Int)]).contains (j:Int)=seen.contains (j:Int):=by
   rw [Bool.eq_iff_iff,List.contains_iff_mem,List.contains_iff_mem,cA4,cy8];constructor
   .rintro (h|h)
    .exact h
    .omega
   .exact .inl
  rw [this]
theorem cd7 (n i:Int) (m:Spans):vc (EV []) noL Go.Proofs.Tryd.f81 cBegin (n,i,m,()):=(cd5 n i m).mpr rfl
theorem co3 (n i:Int) (m:Spans):mput (λ(x y:Int)=>x==y) m n (Span.mk (Option.getD (mget (λ(x y:Int)=>x==y) m n) (Span.mk (0:Int) (0:Int))).first i)=useS m n i:=by unfold useS getS;rfl
theorem cv6 (n i:Int) (m:Spans):vc (EV []) noL Go.Proofs.Tryd.f82 cUse (n,i,m,()):=by have h:=cv5 n i m;rw [h,co3]
theorem bp6:D0 prog RG 81 cBegin:=E5 C0 (λ_=>noL) (by kernel_rfl) (by kernel_rfl) (by kernel_rfl) λ(n,i,m,()) _=>cd7 n i m
theorem bS5:D0 prog RG 82 cUse:=E5 C0 (λ_=>noL) (by kernel_rfl) (by kernel_rfl) (by kernel_rfl) λ(n,i,m,()) _=>cv6 n i m
theorem ak6:∀ (n:Nat) (l:List Nat),l.Nodup->(∀ x∈l,x<n)->l.length<=n
 |0,l,_,h=>by
  cases l with
  |nil=>simp
  |cons x r=>have:=h x (by simp);omega
 |n+1,l,b,h=>by
  by_cases hm:n∈l
  .have h1:=ak6 n (l.erase n) (b.erase n) (λx a=>by
    have h2:=(b.mem_erase_iff).1 a;have:=h x h2.2;have:=h2.1;omega)
   rw [List.length_erase_of_mem hm] at h1;omega
  .have:=ak6 n l b (λx a=>by
    have:=h x a;have:x≠n:=λe=>hm (e▸a);omega)
   omega
theorem bg5 {m:Spans} (n:(V2 m).Nodup) {seen:List Int} (p:seen.Nodup) (hs:∀ i∈seen,0<=i/\i<(m.length:Int)) {i:Nat} (o:i<m.length) (f:¬ i∈seen.map Int.toNat):
  (seen++[(i:Int)]).Nodup/\(∀ j∈seen++[(i:Int)],0<=j/\j<(m.length:Int))/\(seen++[(i:Int)]).length<=m.length/\∃ x,m[i]? =some x/\(T6 m seen)[i]? =some x:=by
 have c:¬ (i:Int)∈seen:=λh=>f (List.mem_map.2 ⟨_,h,by simp⟩);have h1:(seen++[(i:Int)]).Nodup:=by rw [List.nodup_append];refine ⟨p,by simp,λa g b e=>?_⟩;simp only [cy8] at e;rw [e];rintro rfl;exact c g
 have h2:∀ j∈seen++[(i:Int)],0<=j/\j<(m.length:Int):=by
  intro j d;rcases cA4.1 d with d|d
  .exact hs j d
  .simp only [cy8] at d;omega
 refine ⟨h1,h2,?_,m[i],cx8 o,?_⟩
 .have h3:((seen++[(i:Int)]).map Int.toNat).Nodup:=by
   rw [List.Nodup,List.pairwise_map];exact h1.imp_of_mem (λ{a b} g e l q=>l (by have:=h2 a g;have:=h2 b e;omega))
  have:=ak6 m.length _ h3 (λj d=>by
   obtain ⟨k,n,rfl⟩:=List.mem_map.1 d;have:=h2 k n;omega)
  simpa using this
 .rw [aa6,cx8 o,Option.map_some,if_neg (by rw [List.contains_iff_mem];exact c)]
theorem bg6 (l:List Nat) (i:Nat):(l++[i]).getLast? =some i:=by simp
theorem av9 {M:Type} {l:List Int} (hl:l.length<=140737488355328) {F:List Int->M} {G:M->Int->M} (b:∀ l x,F (l++[x])=G (F l) x) (p:Int×M×Unit) (h:0<=p.1/\p.1<=(l.length:Int)/\p.2.1=F (l.take p.1.toNat)) (a:decide (p.1<(l.length:Int))=true):
  (0<=p.1/\p.1<(l.length:Int))/\∃ p':Int×M×Unit,IntKind.i64.wrap (p.1+1)=p'.1/\G p.2.1 (l.getD p.1.toNat 0)=p'.2.1/\(0<=p'.1/\p'.1<=(l.length:Int)/\p'.2.1=F (l.take p'.1.toNat))/\l.length-p'.1.toNat<l.length-p.1.toNat:=by
 obtain ⟨i,m,⟨⟩⟩:=p;obtain ⟨h0,h1,h2⟩:=h;dsimp only at h0 h1 h2 a |-;obtain ⟨k,rfl⟩:=cy3 h0;have a:(k:Int)<l.length:=cy7 a;refine ⟨⟨h0,a⟩,((k+1:Nat),F (l.take (k+1)),()),B3 (by omega) hl,?_,⟨by omega,by dsimp only;omega,by rw [cy0]⟩,by dsimp only;omega⟩;rw [h2,cy0,A4 (by omega) 0,b]
theorem cd8 (a:Int) (b:List Ins) (c d:List Int) (Y:a<=4000):vc (EV [(81,cBegin),(82,cUse)]) (bS1 a b c) Go.Proofs.Tryd.f51 cSpans (a,b,c,d,()):=by
 rw [cd6 a b c d];intro Q T U V R C hc _;have W:b.length<=140737488355328:=C.len;have D:c.length<=140737488355328:=hc.len;have E:Q=ins0:=rfl;have H:R=never:=rfl
 clear_value Q R
 subst E H;dsimp only [T,U,V];simp only [true_and,and_true];refine ⟨⟨(0,[],()),rfl,rfl,Int.le_refl _,.inr rfl,rfl⟩,?_⟩;rintro ⟨i,m,⟨⟩⟩ ⟨h0,h1,h2⟩;dsimp only at h0 h1 h2 |-;subst h2;obtain ⟨k,rfl⟩:=cy3 h0;simp only [cy0];refine ⟨λf=>?_,λe=>?_⟩
 .have f:(k:Int)<a:=cy7 f;refine ⟨((k+1:Nat),K7 [] (upto (k+1)) 0,()),by rw [M1 (by omega) (by omega)];rfl,?_,⟨by omega,.inl (by dsimp only;omega),by rw [cy0]⟩,by dsimp only;omega⟩;rw [bg2,aJ8]
 have I:k=a.toNat:=by have:¬ (k:Int)<a:=cy6 e;omega
 subst I;clear h0 h1 e;refine ⟨⟨(0,K7 [] (upto a.toNat) 0,()),rfl,rfl,Int.le_refl _,by dsimp only;omega,rfl⟩,?_⟩;rintro ⟨i,m,⟨⟩⟩ ⟨h0,h1,h2⟩;dsimp only at h0 h1 h2 |-;subst h2;obtain ⟨k,rfl⟩:=cy3 h0;simp only [cy0];have S:k<b.length->IntKind.i64.wrap ((k:Int)+1)=(k:Int)+1:=λh=>M1 (by omega) (by omega);refine ⟨λf=>?_,λe=>?_⟩
 .have f:(k:Int)<b.length:=cy7 f;rw [S (by omega)];refine ⟨⟨h0,f⟩,⟨(0,_,()),rfl,rfl,Int.le_refl _,by dsimp only;omega,rfl⟩,λp r=>⟨av9 (F:=λl=>uses (I7 (L5 a) (b.take k) 0) l k) (G:=λm x=>useS m x k) (aJ6 C (by omega)) (λl x=>bg1 _ _ _ _) p r,λe=>?_⟩⟩;obtain ⟨q,m,⟨⟩⟩:=p;obtain ⟨z,A,g⟩:=r;dsimp only at z A g e |-;have u:q.toNat=(b.getD k ins0).from_.length:=by have:¬ q<(b.getD k ins0).from_.length:=cy6 e;omega
  rw [u,cA5] at g;subst g;refine ⟨⟨(0,_,()),rfl,rfl,Int.le_refl _,by dsimp only;omega,rfl⟩,λp r=>⟨av9 (F:=λl=>K7 (uses (I7 (L5 a) (b.take k) 0) (b.getD k ins0).from_ k) l (k+1)) (G:=λm x=>as8 m x (k+1)) (av8 C (by omega)) (λl x=>aJ8 _ _ _ _) p r,λe=>?_⟩⟩;obtain ⟨q',m,⟨⟩⟩:=p;obtain ⟨J,K,g⟩:=r;dsimp only at J K g e |-;have u:q'.toNat=(b.getD k ins0).to.length:=by have:¬ q'<(b.getD k ins0).to.length:=cy6 e;omega
  rw [u,cA5] at g;subst g;refine ⟨((k:Int)+1,_,()),rfl,rfl,⟨by dsimp only;omega,by dsimp only;omega,?_⟩,by dsimp only;omega⟩;dsimp only;rw [show ((k:Int)+1).toNat=k+1 by omega,A4 (by omega) ins0,aJ9,cA6,Nat.min_eq_left (by omega),Int.zero_add];rfl
 have I:k=b.length:=by have:¬ (k:Int)<b.length:=cy6 e;omega
 subst I;rw [cA5];clear h0 h1 e S;refine ⟨⟨(0,_,()),rfl,rfl,Int.le_refl _,by dsimp only;omega,rfl⟩,λp r=>⟨av9 (F:=λl=>uses (I7 (L5 a) b 0) l b.length) (G:=λm x=>useS m x b.length) D (λl x=>bg1 _ _ _ _) p r,λe=>?_⟩⟩;obtain ⟨q,m,⟨⟩⟩:=p;obtain ⟨z,A,g⟩:=r;dsimp only at z A g e |-;have u:q.toNat=c.length:=by have:¬ q<(c.length:Int):=cy6 e;omega
 rw [u,cA5] at g;have hm:m=M2 a b c:=g;subst hm;clear z A g e u;have n:=bp5 a b c;have L:A7 a b c=(M2 a b c).map λx=>(x.1,finS x.2):=rfl;generalize M2 a b c=m at*
 refine ⟨⟨([],m,()),rfl,rfl,rfl,List.Pairwise.nil,λi s=>(by cases s),(bS4 m).symm⟩,?_⟩;rintro ⟨seen,m',⟨⟩⟩ ⟨h1,h2,h3⟩;dsimp only at h1 h2 h3 |-;subst h3;have o:(T6 m seen).length=m.length:=az6 m seen;refine ⟨o,λi s w=>⟨λ_=>⟨⟨o,bg6 _ _,s⟩,λhc=>?_,λhc=>?_⟩,λh=>by cases h⟩,λy=>⟨λh=>(by cases h),λ_=>?_⟩⟩
 .obtain ⟨r1,M,N,x,O,v⟩:=bg5 n h1 h2 s w;have t:((T6 m seen).map λx=>x.2).getD i ⟨0,0⟩=x.2:=by rw [cz1,cz2,v];rfl
  have P:((T6 m seen).map λx=>x.1).getD i 0=x.1:=by rw [cz1,cz2,v];rfl
  have hc:decide (x.2.last<0)=true:=by rw [<-t];exact hc
  have hc:x.2.last<0:=cy7 hc;refine ⟨(seen++[(i:Int)],T6 m (seen++[(i:Int)]),()),?_,by simp,by simp,⟨r1,M,rfl⟩,by simp only [cz8,cA1] at N |-;omega⟩;show mput eqI (T6 m seen) (((T6 m seen).map λx=>x.1).getD i 0) never=T6 m (seen++[(i:Int)]);rw [P,bS2 (by rw [bF5];exact n) v,aR4 O];rw [show finS x.2=never by unfold finS;rw [if_pos hc]]
 .obtain ⟨r1,M,N,x,O,v⟩:=bg5 n h1 h2 s w;have t:((T6 m seen).map λx=>x.2).getD i ⟨0,0⟩=x.2:=by rw [cz1,cz2,v];rfl
  have hc:decide (x.2.last<0)=false:=by rw [<-t];exact hc
  have hc:¬ x.2.last<0:=cy6 hc;refine ⟨(seen++[(i:Int)],T6 m (seen++[(i:Int)]),()),?_,by simp,by simp,⟨r1,M,rfl⟩,by simp only [cz8,cA1] at N |-;omega⟩;dsimp only;rw [aR4 O,show finS x.2=x.2 by unfold finS;rw [if_neg hc]];apply List.ext_getElem?;intro j;rw [cA2];split
  .rename_i B;subst B;rw [v,if_pos (by rw [o];exact s)]
  .rfl
 .rw [L,bS3];intro i s;obtain ⟨j,B,X⟩:=List.mem_map.1 (show i∈seen.map Int.toNat from y i s);have:=h2 j B;rw [List.contains_iff_mem,show (i:Int)=j by omega];exact B
theorem aK2:D0 prog RG 51 cSpans:=E5 (k:=cSpans) (A5 bp6 (A5 bS5 C0)) (λp=>bS1 p.1 p.2.1 p.2.2.1) (by kernel_rfl) (by kernel_rfl) (by kernel_rfl) λ(a,b,c,d,()) e=>cd8 a b c d e
theorem O1 (l:List Int) (i n:Int):∀ (m:Spans),mget eqI (K7 m l i) n=if n∈l then some ⟨i,-1⟩ else mget eqI m n:=by
 induction l with
 |nil=>intro m;simp [K7]
 |cons x r ih=>
  intro m;rw [show K7 m (x::r) i=K7 (as8 m x i) r i from rfl,ih,as8,ag8];by_cases h1:n∈r
  .simp [h1]
  .by_cases h2:x=n
   .simp [h2]
   .simp [h1,h2,Ne.symm h2]
theorem ah0 (l:List Int) (i n:Int):∀ (m:Spans),mget eqI (uses m l i) n=if n∈l then some ⟨(getS m n).first,i⟩ else mget eqI m n:=by
 induction l with
 |nil=>intro m;simp [uses]
 |cons x r ih=>
  intro m;rw [show uses m (x::r) i=uses (useS m x i) r i from rfl,ih];have hg:mget eqI (useS m x i) n=if x=n then some ⟨(getS m x).first,i⟩ else mget eqI m n:=by rw [useS,ag8]
  have hf:(getS (useS m x i) n).first=(getS m n).first:=by
   unfold getS;rw [hg];by_cases h2:x=n
   .subst h2;simp [getS]
   .simp [h2]
  rw [hf,hg];by_cases h1:n∈r
  .simp [h1]
  .by_cases h2:x=n
   .subst h2;simp [h1]
   .simp [h1,h2,Ne.symm h2]
def L8 (n:Int):List Ins->Int->Int->Int
 |[],_,d=>d
 |x::r,i,d=>L8 n r (i+1) (if n∈x.from_ then i else d)
theorem ah1 (n:Int):∀ (code:List Ins) (m:Spans) (i f d:Int),n∉wr code->mget eqI m n=some ⟨f,d⟩->mget eqI (I7 m code i) n=some ⟨f,L8 n code i d⟩
 |[],m,i,f,d,_,h=>h
 |x::r,m,i,f,d,b,h=>by
  have a:n∉x.to/\n∉wr r:=by simpa [wr] using b
  simp only [I7,L8];have hg:getS m n=⟨f,d⟩:=by unfold getS;rw [h];rfl
  refine ah1 n r _ (i+1) f _ a.2 ?_;rw [O1,if_neg a.1,ah0,hg,h];split<;>rfl
theorem Z4 (n:Int):∀ (l:List Ins) (x:Ins) (r:List Ins) (m:Spans) (i:Int),n∈x.to->n∉wr r->mget eqI (I7 m (l++x::r) i) n=some ⟨i+l.length+1,L8 n r (i+l.length+1) (-1)⟩
 |[],x,r,m,i,h1,h2=>by simp only [List.nil_append,I7,List.length_nil];have:=ah1 n r (K7 (uses m x.from_ i) x.to (i+1)) (i+1) (i+1) (-1) h2 (by rw [O1,if_pos h1]);simpa using this
 |y::l,x,r,m,i,h1,h2=>by
  simp only [List.cons_append,I7,cz3,Int.natCast_add];rw [Z4 n l x r _ (i+1) h1 h2];congr 2
  .omega
  .rw [show i+1+(l.length:Int)+1=i+((l.length:Int)+((1:Nat):Int))+1 by omega]
theorem aK3 (n:Int) (k:Nat):mget eqI (K7 [] (upto k) 0) n=if 0<=n/\n<k then some ⟨0,-1⟩ else none:=by
 rw [O1];have:n∈upto k<->0<=n/\n<k:=by
  unfold upto;simp only [List.mem_map,List.mem_range];constructor
  .rintro ⟨j,a,rfl⟩;omega
  .rintro ⟨h1,h2⟩;exact ⟨n.toNat,by omega,by omega⟩
 by_cases h:0<=n/\n<k
 .rw [if_pos (this.2 h),if_pos h]
 .rw [if_neg (λh'=>h (this.1 h')),if_neg h];rfl
def fin (n:Int) (code:List Ins) (out:List Int) (i d:Int):Int:=if n∈out then i+code.length else L8 n code i d
theorem H3 (out:List Int):∀ code:List Ins,(A9 code out).length=code.length+1
 |[]=>rfl
 |x::r=>by simp [A9,H3 out r]
theorem bF6 {x:Ins} {l:List Int} {n:Int}:n∈az3 x l<->n∈x.from_\/(n∈l/\n∉x.to):=by unfold az3;rw [show (l.filter λn=>!x.to.contains n).foldl K1 (C9 [] x.from_)=C9 (C9 [] x.from_) (l.filter λn=>!x.to.contains n) from rfl,L0,L0];simp [List.mem_filter]
theorem bg7 (out:List Int) (code:List Ins):(A9 code out)[0]? =some ((A9 code out).headD []):=by cases code<;>rfl
theorem aa7 {x:Ins} {r:List Ins} {out:List Int} {n:Int}:n∈(A9 (x::r) out).headD []<->n∈x.from_\/(n∈(A9 r out).headD []/\n∉x.to):=by simp only [A9,List.headD_cons,bF6]
def atL (code:List Ins) (out:List Int) (p:Nat):List Int:=(A9 code out).getD p []
theorem Q0 (code:List Ins) (out:List Int):atL code out 0=(A9 code out).headD []:=by unfold atL;rw [cz1,bg7];rfl
theorem ad2 (x:Ins) (r:List Ins) (out:List Int) (p:Nat):atL (x::r) out (p+1)=atL r out p:=by simp [atL,A9]
theorem ak7 (n:Int):∀ (code:List Ins) (i d:Int),d<i->d<=L8 n code i d/\L8 n code i d<i+code.length
 |[],i,d,h=>by simp [L8];omega
 |x::r,i,d,h=>by simp only [L8,cz3,Int.natCast_add];have:=ak7 n r (i+1) (if n∈x.from_ then i else d) (by split<;>omega);split at this<;>rename_i a<;>simp only [a,if_true,if_false]<;>omega
theorem bg8 (n:Int) (out:List Int):∀ (code:List Ins) (p:Nat) (i d:Int),n∉wr code->p<=code.length->d<i->(n∈atL code out p<->i+p<=fin n code out i d)
 |[],0,i,d,_,_,b=>by
  simp only [atL,A9,fin,L8,List.getD_cons_zero,L0,List.not_mem_nil,false_or,List.length_nil];split<;>rename_i h
  .simp [h]
  .simp [h];omega
 |[],p+1,i,d,_,h,_=>by simp at h
 |x::r,0,i,d,c,_,b=>by
  have a:n∉x.to/\n∉wr r:=by simpa [wr] using c
  rw [Q0,aa7,<-Q0];have ih:=bg8 n out r 0 (i+1) (if n∈x.from_ then i else d) a.2 (Nat.zero_le _) (by split<;>omega);rw [ih];have hl:=ak7 n r (i+1) (if n∈x.from_ then i else d) (by split<;>omega);simp only [fin,L8,cz3,Int.natCast_add,a.1,not_false_eq_true,and_true];by_cases f:n∈out
  .simp only [f,if_true];by_cases hf:n∈x.from_
   .simp [hf];omega
   .simp [hf];omega
  .simp only [f,if_false];by_cases hf:n∈x.from_
   .simp only [hf,if_true,true_or,true_iff] at hl |-;omega
   .simp only [hf,if_false,false_or] at hl |-;have h3:∀ (q:List Ins) (j d:Int),d<j->L8 n q j d=d\/j<=L8 n q j d:=by
     intro q
     induction q with
     |nil=>intro j d _;exact .inl rfl
     |cons y q ih=>
      intro j d b;simp only [L8];rcases ih (j+1) (if n∈y.from_ then j else d) (by split<;>omega) with h|h
      .split at h
       .rename_i e;right;simp only [e,if_true];omega
       .rename_i e;left;simp only [e,if_false];exact h
      .right;omega
    have:=h3 r (i+1) d (by omega);omega
 |x::r,p+1,i,d,c,g,b=>by
  have a:n∉x.to/\n∉wr r:=by simpa [wr] using c
  rw [ad2];have ih:=bg8 n out r p (i+1) (if n∈x.from_ then i else d) a.2 (by simpa using g) (by split<;>omega);rw [ih];simp only [fin,L8,cz3,Int.natCast_add];split<;>omega
theorem bS6 (n:Int) (out:List Int) (x:Ins) (r:List Ins) (b:n∈x.to) (a:n∉x.from_):∀ (l:List Ins),(∀ y∈l,n∉y.from_)->∀ p:Nat,p<=l.length->n∉atL (l++x::r) out p
 |[],_,0,_=>by rw [List.nil_append,Q0,aa7];simp [b,a]
 |[],_,p+1,h=>by simp at h
 |y::l,hl,0,_=>by have ih:=bS6 n out x r b a l (λz c=>hl z (by simp [c])) 0 (Nat.zero_le _);rw [List.cons_append,Q0,aa7,<-Q0];have:=hl y (by simp);simp [ih,this]
 |y::l,hl,p+1,h=>by rw [List.cons_append,ad2];exact bS6 n out x r b a l (λz c=>hl z (by simp [c])) p (by simpa using h)
theorem aw0 (out:List Int) (r:List Ins):∀ (l:List Ins) (p:Nat),atL (l++r) out (l.length+p)=atL r out p
 |[],p=>by simp
 |x::l,p=>by rw [List.cons_append,cz3,show l.length+1+p=(l.length+p)+1 by omega,ad2];exact aw0 out r l p
structure Checked (a:Int) (b:List Ins) (c:List Int):Prop where
 len:b.length<=4000
 pos:0<=a
 few:a<=4000
 outR:∀ n∈c,0<=n/\n<=3999
 toR:∀ x∈b,∀ n∈x.to,0<=n/\n<=3999
 fromR:∀ x∈b,∀ n∈x.from_,0<=n/\n<=3999
 once:D8 (wr b)=true
 new:∀ n∈wr b,a<=n
 there:E2 a [] b=true
 outT:∀ n∈c,n<a\/n∈wr b
theorem L6 {n:Int}:G8 n=true<->0<=n/\n<=3999:=by simp [G8,lies]
theorem aX3 {a:Int} {b:List Ins} {c d:List Int} (h:D7 ⟨a,b,c,d⟩=0):Checked a b c:=by
 simp only [D7] at h;split at h
 .cases h
 rename_i h1;split at h
 .cases h
 rename_i h2;split at h
 .cases h
 rename_i h3;split at h
 .cases h
 rename_i h4;simp only [Bool.not_eq_true',Bool.not_eq_false,cx9,cA7,cz9,lies] at h2 h3 h4;obtain ⟨⟨f,i⟩,g⟩:=h2;exact ⟨by omega,f.1,f.2,λn e=>L6.1 (i n e),λx j n e=>L6.1 ((g x j).1 n e),λx j n e=>L6.1 ((g x j).2 n e),h3.1,h3.2,h4.1,λn e=>by
  have:=h4.2 n e;simpa [List.contains_iff_mem] using this⟩
theorem ci2 {b:List Ins} {n:Int}:n∈wr b<->∃ x∈b,n∈x.to:=by simp [wr,List.mem_flatMap]
theorem I8 (l r:List Ins):wr (l++r)=wr l++wr r:=by simp [wr]
theorem ah2 (x:Ins) (r:List Ins):wr (x::r)=x.to++wr r:=by simp [wr]
theorem G2:∀ {l:List Int},D8 l=true<->l.Nodup
 |[]=>by simp [D8]
 |x::r=>by simp only [D8,cx9,Bool.not_eq_true',G2 (l:=r),List.nodup_cons];rw [Bool.eq_false_iff,ne_eq,List.contains_iff_mem]
theorem O7 {a:Int}:∀ {l:List Ins} {x:Ins} {r:List Ins} {W:List Int},E2 a W (l++x::r)=true->∀ n∈x.from_,n<a\/n∈W++wr l:=by intro l x r W h n b;rw [M7] at h;simp only [cx9,E2,cA7] at h;have:=h.2.1 n b;simpa [List.contains_iff_mem] using this
theorem by5 {b:List Ins} {n:Int} (h:n∈wr b):∃ l x r,b=l++x::r/\n∈x.to/\n∉wr l:=by
 induction b with
 |nil=>simp [wr] at h
 |cons y b ih=>
  by_cases a:n∈y.to
  .exact ⟨[],y,b,rfl,a,by simp [wr]⟩
  .rw [ah2,cA4] at h;obtain ⟨l,x,r,h1,h2,h3⟩:=ih (h.resolve_left a);refine ⟨y::l,x,r,by rw [h1];rfl,h2,?_⟩;rw [ah2,cA4];rintro (h|h)
   .exact a h
   .exact h3 h
theorem aC6 (m:Spans) (n:Int):mget eqI (m.map λx=>(x.1,finS x.2)) n=(mget eqI m n).map finS:=by
 induction m with
 |nil=>rfl
 |cons x r ih=>
  obtain ⟨k,s⟩:=x;simp only [List.map_cons,mget,eqI,cz0,beq_iff_eq];split
  .rfl
  .exact ih
theorem aK4 (n:Int):∀ (code:List Ins) (m:Spans) (i:Int),n∉wr code->(∀ x∈code,n∉x.from_)->mget eqI m n=none->mget eqI (I7 m code i) n=none
 |[],m,i,_,_,h=>h
 |x::r,m,i,a,hf,h=>by rw [ah2,cA4] at a;refine aK4 n r _ _ (λh'=>a (.inr h')) (λy b=>hf y (by simp [b])) ?_;rw [O1,if_neg (λh'=>a (.inl h')),ah0,if_neg (hf x (by simp)),h]
theorem az7 (n:Int):∀ (code:List Ins) (i d:Int),(∀ x∈code,n∉x.from_)->L8 n code i d=d
 |[],_,_,_=>rfl
 |x::r,i,d,h=>by simp only [L8,if_neg (h x (by simp))];exact az7 n r _ _ (λy a=>h y (by simp [a]))
theorem bg9 {a:Int} {b:List Ins} {c:List Int} {n f l:Int} (h:mget eqI (M2 a b c) n=some ⟨f,l⟩) (hf:0<=f) (hl:l=-1\/0<=l) (p:Nat):W5 (A7 a b c) p n=true<->f<=p/\(p:Int)<=l:=by
 unfold W5 A7;rw [aC6,h];simp only [Option.map_some,finS];rcases hl with hl|hl
 .subst hl;simp [I1,never];omega
 .rw [if_neg (by omega)];simp [I1];omega
theorem by6 {a:Int} {b:List Ins} {c:List Int} (C:Checked a b c) (n:Int) (p:Nat) (G:p<=b.length):W5 (A7 a b c) p n=true<->n∈atL b c p:=by
 have f:∀ (m:Spans),mget eqI (uses m c b.length) n=if n∈c then some ⟨(getS m n).first,(b.length:Int)⟩ else mget eqI m n:=λm=>ah0 c _ n m;by_cases i:n∈wr b
 .obtain ⟨l,x,r,k,o,hl⟩:=by5 i;have s:=G2.1 C.once;rw [k,I8,ah2] at s;have hr:n∉wr r:=by
   intro h;have h2:=(List.nodup_append.1 s).2.1;exact (List.nodup_append.1 h2).2.2 n o n h rfl
  have t:¬ n<a:=by have:=C.new n i;omega
  have e:=C.there;rw [k] at e;have B:n∉x.from_:=λh=>by
   rcases O7 e n h with h1|h1
   .exact t h1
   .exact hl (by simpa using h1)
  have D:∀ y∈l,n∉y.from_:=by
   intro y I h;obtain ⟨J,K,d⟩:=List.append_of_mem I;have j:=e;rw [d,cA3,List.cons_append] at j;rcases O7 j n h with h1|h1
   .exact t h1
   .refine hl ?_;rw [d,I8];exact List.mem_append_left _ (by simpa using h1)
  have u:mget eqI (I7 (L5 a) b 0) n=some ⟨(l.length:Int)+1,L8 n r ((l.length:Int)+1) (-1)⟩:=by have:=Z4 n l x r (L5 a) 0 o hr;rw [k];simpa using this
  have v:b.length=l.length+(r.length+1):=by rw [k];simp
  have h1:mget eqI (M2 a b c) n=some ⟨(l.length:Int)+1,fin n r c ((l.length:Int)+1) (-1)⟩:=by
   unfold M2 fin;rw [f,u];split
   .simp only [getS,u,Option.getD_some,cx6,Span.mk.injEq,true_and];rw [v];omega
   .rfl
  have g:fin n r c ((l.length:Int)+1) (-1)=-1\/0<=fin n r c ((l.length:Int)+1) (-1):=by
   unfold fin;split
   .right;omega
   .have:=ak7 n r ((l.length:Int)+1) (-1) (by omega);omega
  rw [bg9 h1 (by omega) g p];by_cases E:p<=l.length
  .have:=bS6 n c x r o B l D p E;rw [<-k] at this;constructor
   .intro h;omega
   .intro h;exact absurd h this
  .obtain ⟨q,H⟩:∃ q,p=l.length+(q+1):=⟨p-l.length-1,by omega⟩;have F:=bg8 n c r q ((l.length:Int)+1) (-1) hr (by omega) (by omega);have:atL b c p=atL r c q:=by rw [k,H,aw0,ad2]
   rw [this,F,H];constructor
   .intro h;omega
   .intro h;omega
 .by_cases w:0<=n/\n<a
  .have h0:mget eqI (L5 a) n=some ⟨0,-1⟩:=by
    unfold L5;rw [aK3,if_pos ⟨w.1,by omega⟩]
   have u:=ah1 n b (L5 a) 0 0 (-1) i h0;have h1:mget eqI (M2 a b c) n=some ⟨0,fin n b c 0 (-1)⟩:=by
    unfold M2 fin;rw [f,u];split
    .simp only [getS,u,Option.getD_some,cx6,Span.mk.injEq,true_and];omega
    .rfl
   have g:fin n b c 0 (-1)=-1\/0<=fin n b c 0 (-1):=by
    unfold fin;split
    .right;omega
    .have:=ak7 n b 0 (-1) (by omega);omega
   rw [bg9 h1 (by omega) g p,bg8 n c b p 0 (-1) i G (by omega)];omega
  .have z:∀ x∈b,n∉x.from_:=by
    intro x o h;have h1:=C.fromR x o n h;obtain ⟨J,K,d⟩:=List.append_of_mem o;have e:=C.there;rw [d] at e;rcases O7 e n h with h2|h2
    .omega
    .refine i ?_;rw [d,I8];exact List.mem_append_left _ (by simpa using h2)
   have A:n∉c:=λh=>by
    have h1:=C.outR n h;rcases C.outT n h with h2|h2
    .omega
    .exact i h2
   have h0:mget eqI (L5 a) n=none:=by unfold L5;rw [aK3,if_neg (by omega)]
   have h1:mget eqI (M2 a b c) n=none:=by unfold M2;rw [f,if_neg A];exact aK4 n b _ _ i z h0
   have F:=bg8 n c b p 0 (-1) i G (by omega);rw [F];unfold W5 A7;rw [aC6,h1];simp only [Option.map_none,fin,if_neg A,az7 n b _ _ z];simp;omega
theorem cd9 {n:Int} {k:Nat}:n∈upto k<->0<=n/\n<k:=by
 unfold upto;simp only [List.mem_map,List.mem_range];constructor
 .rintro ⟨j,a,rfl⟩;omega
 .rintro ⟨h1,h2⟩;exact ⟨n.toNat,by omega,by omega⟩
theorem bS7 (k:Nat):incr (upto k):=by unfold incr upto;rw [List.pairwise_map];exact List.Pairwise.imp (λh=>by omega) List.pairwise_lt_range
theorem as9 (out:List Int):∀ (code:List Ins) (p:Nat),incr (atL code out p)
 |[],0=>by show incr (C9 [] out);exact O6 List.Pairwise.nil _
 |[],p+1=>by show incr (([C9 [] out]:List (List Int)).getD (p+1) []);simp [incr]
 |x::r,0=>by show incr (az3 x _);exact O6 (O6 List.Pairwise.nil _) _
 |x::r,p+1=>by rw [ad2];exact as9 out r p
theorem aX4 {a:Int} {b:List Ins} {c:List Int} (C:Checked a b c) {n:Int} {p:Nat} (h:n∈atL b c p):0<=n/\n<=3999:=by
 have hf:=C.fromR;have e:=C.outR;clear C
 induction b generalizing p with
 |nil=>
  cases p with
  |zero=>exact e n (by simpa [atL,A9,L0] using h)
  |succ p=>simp [atL,A9] at h
 |cons x r ih=>
  cases p with
  |zero=>
   rw [Q0,aa7,<-Q0] at h;rcases h with h|h
   .exact hf x (by simp) n h
   .exact ih h.1 (λy d=>hf y (by simp [d]))
  |succ p=>rw [ad2] at h;exact ih h (λy d=>hf y (by simp [d]))
theorem ce0 {a:Int} {b:List Ins} {c:List Int} (C:Checked a b c):aa5 (A7 a b c) b.length 4000=A9 b c:=by
 apply List.ext_getElem?;intro p;unfold aa5;rw [cz2];by_cases d:p<b.length+1
 .rw [List.getElem?_range d,Option.map_some];have h1:(A9 b c)[p]? =some (atL b c p):=by
   unfold atL;rw [cz1,cx8 (by rw [H3];exact d)];rfl
  rw [h1];congr 1;refine by0 (List.Pairwise.filter _ (bS7 4000)) (as9 c b p) (λn=>?_);rw [List.mem_filter,cd9,by6 C n p (by omega)];constructor
  .exact λh=>h.2
  .intro h;have:=aX4 C h;exact ⟨by omega,h⟩
 .rw [List.getElem?_eq_none (by simp;omega),List.getElem?_eq_none (by rw [H3];omega)];rfl
theorem V3 (m:Spans) (L:Nat) (n q:Int):(P9 m L n q).length=L+1:=by simp [P9]
theorem bh0 (m:Spans) (L k:Nat):P9 m L k (getS m k).first=aa5 m L k:=by
 unfold P9 aa5;apply List.map_congr_left;intro p a;rw [if_neg,List.append_nil,cy0];rintro ⟨h1,h2⟩;unfold W5 at h2;unfold getS at h1;split at h2
 .rename_i s hs;rw [hs] at h1;simp [I1] at h2 h1;omega
 .cases h2
theorem bF7 (m:Spans) (L k:Nat) (q:Int) (h:(mget eqI m k).isSome=false\/(getS m k).last<q):P9 m L k q=aa5 m L (k+1):=by
 unfold P9 aa5;apply List.map_congr_left;intro p c;rw [cy0,bg2,List.filter_append];congr 1;by_cases hl:W5 m p k=true
 .have b:(p:Int)<q:=by
   have a:=hl;unfold W5 at a;split at a
   .rename_i s hs;rcases h with h|h
    .rw [hs] at h;cases h
    .unfold getS at h;rw [hs] at h;simp [I1] at a h;omega
   .cases a
  rw [List.filter_cons_of_pos hl,List.filter_nil,if_pos ⟨b,hl⟩]
 .rw [List.filter_cons_of_neg (by simpa using hl),List.filter_nil,if_neg (λh'=>hl h'.2)]
theorem bp7 (m:Spans) (L k q:Nat) (c:q<=L) (hl:W5 m q k=true):(P9 m L k q).set q ((P9 m L k q).getD q []++[(k:Int)])=P9 m L k ((q+1:Nat):Int):=by
 apply List.ext_getElem?;intro p;rw [cA2,V3];by_cases b:q=p
 .subst b;rw [if_pos rfl,if_pos (by omega),cz1];unfold P9;rw [cz2,cz2,List.getElem?_range (by omega)];simp only [Option.map_some,Option.getD_some,hl,and_true];rw [if_neg (by omega),if_pos (by omega),List.append_nil]
 .rw [if_neg b];unfold P9;rw [cz2,cz2];by_cases a:p<L+1
  .rw [List.getElem?_range a];simp only [Option.map_some];by_cases h1:(p:Int)<q
   .simp only [h1,show (p:Int)<((q+1:Nat):Int) by omega,true_and]
   .rw [if_neg (λh=>h1 h.1),if_neg (λh=>by have:=h.1;omega)]
  .rw [List.getElem?_eq_none (by simp;omega)];rfl
theorem bp8 {a:Int} {b:List Ins} {c:List Int} {n:Int} {s:Span} (h:mget eqI (A7 a b c) n=some s):0<=s.first/\s.first<=b.length/\s.last<=b.length:=by
 have key:∀ (m:Spans),(∀ n s,mget eqI m n=some s->0<=s.first/\s.first<=(b.length:Int)/\s.last<=(b.length:Int))->∀ (l:List Int) (i:Int),0<=i->i<=b.length->(∀ n s,mget eqI (K7 m l i) n=some s->0<=s.first/\s.first<=(b.length:Int)/\s.last<=(b.length:Int))/\(∀ n s,mget eqI (uses m l i) n=some s->0<=s.first/\s.first<=(b.length:Int)/\s.last<=(b.length:Int)):=by
  intro m hm l i d e;refine ⟨λn s h=>?_,λn s h=>?_⟩
  .rw [O1] at h;split at h
   .cases h;exact ⟨d,e,by dsimp only;omega⟩
   .exact hm n s h
  .rw [ah0] at h;split at h
   .simp only [cx6] at h;subst h;cases hg:mget eqI m n with
    |none=>simp [getS,hg];omega
    |some s'=>have:=hm n s' hg;simp [getS,hg];omega
   .exact hm n s h
 have f:∀ (code:List Ins) (m:Spans) (i:Int),0<=i->i+code.length<=b.length->(∀ n s,mget eqI m n=some s->0<=s.first/\s.first<=(b.length:Int)/\s.last<=(b.length:Int))->∀ n s,mget eqI (I7 m code i) n=some s->0<=s.first/\s.first<=(b.length:Int)/\s.last<=(b.length:Int):=by
  intro code
  induction code with
  |nil=>intro m i _ _ h;exact h
  |cons x r ih=>intro m i h0 h1 h2;simp only [cz3,Int.natCast_add] at h1;exact ih _ (i+1) (by omega) (by omega) (key _ (key m h2 x.from_ i h0 (by omega)).2 x.to (i+1) (by omega) (by omega)).1
 have h0:∀ n s,mget eqI (L5 a) n=some s->0<=s.first/\s.first<=(b.length:Int)/\s.last<=(b.length:Int):=by
  intro n s h;unfold L5 at h;rw [aK3] at h;split at h
  .cases h;dsimp only;omega
  .cases h
 have h1:∀ n s,mget eqI (M2 a b c) n=some s->0<=s.first/\s.first<=(b.length:Int)/\s.last<=(b.length:Int):=
  (key _ (f b (L5 a) 0 (by omega) (by omega) h0) c b.length (by omega) (Int.le_refl _)).2
 unfold A7 at h;rw [aC6] at h;cases hs:mget eqI (M2 a b c) n with
 |none=>rw [hs] at h;cases h
 |some s'=>
  rw [hs] at h;simp only [Option.map_some,cx6] at h;have:=h1 n s' hs;subst h;unfold finS;split
  .show 0<=(0:Int)/\(0:Int)<=_/\(-1:Int)<=_;omega
  .exact this
theorem bp9 (a:Int) (b:List Ins) (c:List Int) (n:Int):0<=(getS (A7 a b c) n).first/\(getS (A7 a b c) n).first<=b.length/\(getS (A7 a b c) n).last<=b.length:=by
 unfold getS;cases h:mget eqI (A7 a b c) n with
 |none=>simp
 |some s=>exact bp8 h
theorem co4 (a:Int) (b:List Ins) (c d:List Int):vc (EVd [(23,[0])] noIt [(41,cCheck),(51,cSpans),(69,cAt)]) (co1 a b c) Go.Proofs.Tryd.f33 cLive (a,b,c,d,()):=by
 rw [co2 a b c d];intro t A E u F G O _ _;have f:u=((Q2 ⟨a,b,c,d⟩).1,(Q2 ⟨a,b,c,d⟩).2,()):=rfl;refine ⟨λh=>?_,λh=>?_⟩
 .have h:D7 ⟨a,b,c,d⟩≠0:=by simpa [t] using h
  rw [f];unfold Q2;rw [if_pos h]
 have h:D7 ⟨a,b,c,d⟩=0:=by simpa [t] using h
 have C:=aX3 h;have H:=C.len;have f:u=(A9 b c,0,()):=by rw [f];unfold Q2;rw [if_neg (by simpa using h)]
 have I:A=((b.length+1:Nat):Int):=M1 (by omega) (by omega)
 clear_value u A
 subst f I;simp only [t,E,F,G,true_and,and_true,Bool.cond_self];refine ⟨⟨by omega,by omega⟩,C.few,⟨(0,List.replicate (b.length+1) [],()),rfl,by dsimp only;rw [cy0],Int.le_refl _,by dsimp only;omega,?_⟩,?_⟩
 .dsimp only;apply List.ext_getElem?;intro p;unfold aa5;rw [cz2,List.getElem?_replicate];by_cases v:p<b.length+1
  .rw [if_pos v,List.getElem?_range v];rfl
  .rw [if_neg v,List.getElem?_eq_none (by simp;omega)];rfl
 rintro ⟨i,out,⟨⟩⟩ ⟨h0,h1,h2⟩;dsimp only at h0 h1 h2 |-;obtain ⟨k,rfl⟩:=cy3 h0;rw [cy0] at h2;subst h2;have J:(mget (λx y=>x==y) (A7 a b c) (k:Int)).getD ⟨0,0⟩=getS (A7 a b c) k:=rfl;rw [J];have hB:=bp9 a b c k;refine ⟨λn=>⟨⟨((getS (A7 a b c) k).first,aa5 (A7 a b c) b.length k,()),rfl,rfl,hB.1,by dsimp only;omega,Int.le_refl _,(bh0 _ _ _).symm⟩,?_⟩,λw=>?_⟩
 .have n:(k:Int)<4000:=cy7 n;rintro ⟨q,out,⟨⟩⟩ ⟨r,K,L,B⟩;dsimp only at r K L B |-;obtain ⟨j,rfl⟩:=cy3 r;subst B;simp only [cy0];refine ⟨λhc=>?_,λhc=>?_⟩
  .simp only [cx9,cz9] at hc;have g:I1 (getS (A7 a b c) k).first (getS (A7 a b c) k).last j=true:=by
    simp only [I1,cx9,Bool.not_eq_true',Bool.and_eq_false_iff,decide_eq_false_iff_not,cz9];omega
   have z:W5 (A7 a b c) j k=true:=by
    unfold W5;unfold getS at g;have e:(mget eqI (A7 a b c) (k:Int)).isSome=true:=hc.1;cases hm:mget eqI (A7 a b c) (k:Int) with
    |none=>rw [hm] at e;cases e
    |some s=>rw [hm] at g;exact g
   have M:j<=b.length:=by omega
   have o:∀ x∈P9 (A7 a b c) b.length k j,x.length<=4001:=by
    intro x D;unfold P9 at D;obtain ⟨p,_,rfl⟩:=List.mem_map.1 D;rw [cz8,cy0];have h3:((upto k).filter (W5 (A7 a b c) p)).length<=k:=by refine Nat.le_trans (List.length_filter_le _ _) ?_;simp [upto]
    split<;>simp<;>omega
   refine ⟨λ_=>⟨⟨r,by rw [V3];omega⟩,?_,r,by rw [V3];omega⟩,((j+1:Nat),P9 (A7 a b c) b.length k ((j+1:Nat):Int),()),B3 (m:=b.length+1) (by omega) (by omega),?_,⟨by omega,by dsimp only;omega,by dsimp only;omega,rfl⟩,by dsimp only;omega⟩
   .have:=o _ (F7 (l:=P9 (A7 a b c) b.length k j) (i:=j) (by rw [V3];omega) []);simp only [cA1];omega
   .rw [g];exact bp7 _ _ _ _ M z
  .refine ⟨((k+1:Nat),aa5 (A7 a b c) b.length (k+1),()),B3 (m:=4000) (by omega) (by omega),?_,⟨by omega,by dsimp only;omega,by rw [cy0]⟩,by dsimp only;omega⟩;refine bF7 _ _ _ _ ?_;rw [Bool.and_eq_false_iff,decide_eq_false_iff_not] at hc;rcases hc with hc|hc
   .exact .inl hc
   .exact .inr (by omega)
 .have N:k=4000:=by have:¬ (k:Int)<4000:=cy6 w;omega
  subst N;refine ⟨⟨by omega,Int.le_refl _,Int.le_refl _⟩,?_⟩;rw [cy0,cA5,ce0 C]
theorem aR5:D0 prog RG 33 cLive:=bx9 bP1 (A5 ap2 (A5 aK2 (A5 by2 C0))) (λp=>co1 p.1 p.2.1 p.2.2.1) (by kernel_rfl) (by kernel_rfl) (by kernel_rfl) λ(a,b,c,d,()) _=>co4 a b c d
def bS8 (m:Int) (p:List Int×Ins):Int:=max m ((C9 p.1 p.2.to).length:Int)
def W6 (lv:List (List Int)) (code:List Ins) (k:Nat):Int:=((lv.tail.zip code).take k).foldl bS8 ((lv.headD []).length:Int)
def ah3 (l m:List Int):Int:=(l.length:Int)+((m.filter λn=>!l.contains n).length:Int)
def bS9 (code:List Ins) (out:List Int):Nat->St RU->Ann RU:=λk s=>match k with
 |0=>⟨[],[.slot 27,.slot 6],[i64,i64],λp=>0<=p.1/\p.1<=code.length/\p.2.1=W6 (A9 code out) code p.1.toNat,λp=>code.length-p.1.toNat,[]⟩
 |_=>⟨[],[.slot 41,.slot 9],[i64,i64],λp=>0<=p.1/\p.1<=(code.getD (s.intAt 27).toNat ins0).to.length/\p.2.1=ah3 (atL code out ((s.intAt 27).toNat+1)) ((code.getD (s.intAt 27).toNat ins0).to.take p.1.toNat),λp=>(code.getD (s.intAt 27).toNat ins0).to.length-p.1.toNat,[]⟩
def ah4 (x3 x4:List Int) (x5:List Ins):Bool:=decide (x3.length<=17592186044416)&&decide (x4.length<=17592186044416)&&decide (x5.length<=1599289640354)&&K0 x5
def getI (m:List (Int×Int)) (n:Int):Int:=(mget eqI m n).getD 0
def cOld:Con RU:=⟨[one,one],[i64,mapI],[.d 0,.ptr 0 0],[.box 84 [.map 1],.map 1],none,none,[one],[i64,mapI],[.d 0],[.box 84 [.map 1],.map 1],λp=>(getI p.2.1 p.1,p.2),[0,1],[],[]⟩
theorem ce1 (a:Int) (b:List Ins) (c d:List Int):vc (EV [(33,cLive),(61,cContains)]) (bS9 b c) Go.Proofs.Tryd.f29 cPress (a,b,c,d,())=(let g:Bool:=(Q2 (VFun.mk a b c d)).2 !=(0:Int);
 let f:List (List Int):=(Q2 (VFun.mk a b c d)).1;
 let i:Int:=(Q2 (VFun.mk a b c d)).2;
 let e:Int:=(↑(List.length b):Int);
 let j:Ins:=Ins.mk (0:Int) (0:Int) [] [] [];
 let o:Int×Int×Unit:=((W3 (VFun.mk a b c d)).1,(W3 (VFun.mk a b c d)).2,());
 let n:Int:=(↑(List.length f):Int);
  Small RU (Sigma.mk (Ty.slice (52:Nat) (Ty.user (0:Nat))) b)->
  Small RU (Sigma.mk (Ty.slice (3:Nat) (Ty.int IntKind.i64)) c)->
  Small RU (Sigma.mk (Ty.slice (3:Nat) (Ty.int IntKind.i64)) d)->
  (g=true->((0:Int),i,())=o)/\
  (g=false->
  ((0:Int)<=(0:Int)/\(0:Int)<n)/\
  (∃ (p:Int×Int×Unit),
  a=a/\
  b=b/\
  c=c/\
  d=d/\
  (0:Int)=(0:Int)/\
  (0:Int)=(0:Int)/\
  f=f/\
  i=i/\
  g=g/\
  b=b/\
  e=e/\
  (0:Int)=p.1/\
  (↑(List.length (List.getD f (0:Nat) [])):Int)=p.2.1/\
  a=a/\b=b/\c=c/\d=d/\(0:Int)<=p.1/\p.1<=e/\p.2.1=W6 (A9 b c) b (Int.toNat p.1))/\
  ∀ (p:Int×Int×Unit),
 let e0_1:Bool:=decide (p.1<e);
 let e1_1:Int:=(↑(List.length (List.getD b (Int.toNat p.1) j).to):Int);
 let e2_1:Int:=p.2.1;
 let e3_1:Int:=IntKind.i64.wrap (p.1+(1:Int));
 let e4_1:List Int:=(List.getD b (Int.toNat p.1) j).to;
 let e5_1:Int:=p.1;
 let e6_1:Int:=(List.getD b (Int.toNat e5_1) j).n;
 let k:Int:=(List.getD b (Int.toNat e5_1) j).op;
 let l:List Int:=(List.getD b (Int.toNat e5_1) j).from_;
 let m:List Ins:=(List.getD b (Int.toNat e5_1) j).body;
 let h:Nat:=List.length (List.getD b (Int.toNat e5_1) ins0).to;
  (0:Int)<=e5_1/\e5_1<=e/\e2_1=W6 (A9 b c) b (Int.toNat e5_1)->
  (e0_1=true->
  ((0:Int)<=e5_1/\e5_1<e)/\
  ((0:Int)<=e3_1/\e3_1<n)/\
  (∃ (p:Int×Int×Unit),
  a=a/\
  b=b/\
  c=c/\
  d=d/\
  (0:Int)=(0:Int)/\
  (0:Int)=(0:Int)/\
  f=f/\
  i=i/\
  g=g/\
  b=b/\
  e=e/\
  e5_1=e5_1/\
  e2_1=e2_1/\
  e0_1=e0_1/\
  e5_1=e5_1/\
  e4_1=e4_1/\
  e1_1=e1_1/\
  (0:Int)=p.1/\
  (↑(List.length (List.getD f (Int.toNat e3_1) [])):Int)=p.2.1/\
  a=a/\
  b=b/\
  c=c/\
  d=d/\
  k=k/\
  e6_1=e6_1/\
  e4_1=e4_1/\
  l=l/\
  m=m/\
  (0:Int)<=p.1/\
  p.1<=(↑h:Int)/\
  p.2.1=
  ah3 (atL b c (Int.toNat e5_1+(1:Nat)))
  (List.take (Int.toNat p.1) (List.getD b (Int.toNat e5_1) ins0).to))/\
  ∀ (p:Int×Int×Unit),
 let e0_2:Bool:=!List.contains (List.getD f (Int.toNat e3_1) []) (List.getD e4_1 (Int.toNat p.1) (0:Int));
 let e1_2:Int:=p.2.1;
 let e2_2:Int:=p.1;
 let e3_2:Bool:=decide (e2_2<e1_1);
 let j:List Int:=atL b c (Int.toNat e5_1+(1:Nat));
  (0:Int)<=e2_2/\e2_2<=(↑h:Int)/\e1_2=ah3 j (List.take (Int.toNat e2_2) (List.getD b (Int.toNat e5_1) ins0).to)->
  (e3_2=true->
  ((0:Int)<=e2_2/\e2_2<e1_1)/\
  ((0:Int)<=e3_1/\e3_1<n)/\
  ∃ (p':Int×Int×Unit),
  (bif e0_2 then a else a)=a/\
  (bif e0_2 then b else b)=b/\
  (bif e0_2 then c else c)=c/\
  (bif e0_2 then d else d)=d/\
  (bif e0_2 then (0:Int) else (0:Int))=(0:Int)/\
  (bif e0_2 then (0:Int) else (0:Int))=(0:Int)/\
  (bif e0_2 then f else f)=f/\
  (bif e0_2 then i else i)=i/\
  (bif e0_2 then g else g)=g/\
  (bif e0_2 then b else b)=b/\
  (bif e0_2 then e else e)=e/\
  (bif e0_2 then e5_1 else e5_1)=e5_1/\
  (bif e0_2 then e2_1 else e2_1)=e2_1/\
  (bif e0_2 then e0_1 else e0_1)=e0_1/\
  (bif e0_2 then e5_1 else e5_1)=e5_1/\
  (bif e0_2 then e4_1 else e4_1)=e4_1/\
  (bif e0_2 then e1_1 else e1_1)=e1_1/\
  IntKind.i64.wrap ((bif e0_2 then e2_2 else e2_2)+(1:Int))=p'.1/\
  (bif e0_2 then IntKind.i64.wrap (e1_2+(1:Int)) else e1_2)=p'.2.1/\
  (bif e0_2 then a else a)=a/\
  (bif e0_2 then b else b)=b/\
  (bif e0_2 then c else c)=c/\
  (bif e0_2 then d else d)=d/\
  (bif e0_2 then k else k)=k/\
  (bif e0_2 then e6_1 else e6_1)=e6_1/\
  (bif e0_2 then e4_1 else e4_1)=e4_1/\
  (bif e0_2 then l else l)=l/\
  (bif e0_2 then m else m)=m/\
  ((0:Int)<=p'.1/\
  p'.1<=(↑h:Int)/\
  p'.2.1=ah3 j (List.take (Int.toNat p'.1) (List.getD b (Int.toNat e5_1) ins0).to))/\
  h-Int.toNat p'.1<h-Int.toNat e2_2)/\
  (e3_2=false->
  ∃ (p':Int×Int×Unit),
  a=a/\
  b=b/\
  c=c/\
  d=d/\
  (0:Int)=(0:Int)/\
  (0:Int)=(0:Int)/\
  f=f/\
  i=i/\
  g=g/\
  b=b/\
  e=e/\
  e3_1=p'.1/\
  (if e1_2 >e2_1 then e1_2 else e2_1)=p'.2.1/\
  a=a/\
  b=b/\
  c=c/\
  d=d/\
  ((0:Int)<=p'.1/\p'.1<=e/\p'.2.1=W6 (A9 b c) b (Int.toNat p'.1))/\
  List.length b-Int.toNat p'.1<List.length b-Int.toNat e5_1))/\
  (e0_1=false->(e2_1,(0:Int),())=o))):=by kernel_rfl
theorem aK5 {l:List Int} (h:incr l) (n:Int):(K1 l n).length=if n∈l then l.length else l.length+1:=by
 induction l with
 |nil=>simp [K1]
 |cons x r ih=>
  obtain ⟨h1,h2⟩:=List.pairwise_cons.1 h;simp only [K1];by_cases b:x=n
  .simp [b]
  .rw [if_neg b];by_cases a:n<x
   .have:n∉x::r:=by
     intro hm;rcases List.mem_cons.1 hm with hm|hm
     .exact b hm.symm
     .have:=h1 n hm;omega
    simp [a,this]
   .rw [if_neg a,cz3,ih h2];have:(n∈x::r)=(n∈r):=by simp [Ne.symm b]
    simp only [this,cz3];split<;>omega
theorem bh1 {l:List Int} (h:incr l):∀ {m:List Int},m.Nodup->((C9 l m).length:Int)=ah3 l m:=by
 intro m
 induction m generalizing l with
 |nil=>intro _;simp [C9,ah3]
 |cons x r ih=>
  intro d;obtain ⟨a,b⟩:=List.nodup_cons.1 d;rw [show C9 l (x::r)=C9 (K1 l x) r from rfl,ih (aQ7 h x) b];unfold ah3;have hf:(r.filter λn=>!(K1 l x).contains n)=r.filter λn=>!l.contains n:=by
   apply List.filter_congr;intro y e;have:(K1 l x).contains y=l.contains y:=by
    rw [Bool.eq_iff_iff,List.contains_iff_mem,List.contains_iff_mem,aJ2];constructor
    .rintro (rfl|h)
     .exact absurd e a
     .exact h
    .exact .inr
   rw [this]
  rw [hf,aK5 h,List.filter_cons];by_cases c:x∈l
  .simp [c]
  .simp [c];omega
theorem bF8 (b:List Ins) (c:List Int) {k:Nat} (h:k<b.length):W6 (A9 b c) b (k+1)=max (W6 (A9 b c) b k) ((C9 (atL b c (k+1)) (b.getD k ins0).to).length:Int):=by
 unfold W6;have a:k<((A9 b c).tail.zip b).length:=by rw [List.length_zip,List.length_tail,H3];omega
 have d:((A9 b c).tail.zip b).getD k ([],ins0)=(atL b c (k+1),b.getD k ins0):=by rw [cz1,cx8 a];simp only [Option.getD_some,List.getElem_zip];unfold atL;rw [cz1,cz1,cx8 (by rw [H3];omega),cx8 h];simp
 rw [A4 a ([],ins0),d,List.foldl_append];rfl
theorem aX5 {a:Int} {b:List Ins} {c:List Int} (C:Checked a b c) {k:Nat} (h:k<b.length):(b.getD k ins0).to.Nodup:=by
 have h1:=G2.1 C.once;have h2:=ag9 h;have h3:(wr (b.take (k+1))).Nodup:=by rw [<-List.take_append_drop (k+1) b,I8] at h1;exact (List.nodup_append.1 h1).1
 rw [h2] at h3;exact (List.nodup_append.1 h3).2.1
theorem bF9 {l m:List Int} {j:Nat} (h:j<m.length):ah3 l (m.take (j+1))=if !l.contains (m.getD j 0) then ah3 l (m.take j)+1 else ah3 l (m.take j):=by unfold ah3;rw [A4 h 0,List.filter_append,cz8,List.filter_cons];split<;>simp<;>omega
theorem ce2 (a:Int) (b:List Ins) (c d:List Int):vc (EV [(33,cLive),(61,cContains)]) (bS9 b c) Go.Proofs.Tryd.f29 cPress (a,b,c,d,()):=by
 rw [ce1 a b c d];intro B o G H D p E I _ _;have e:p=((W3 ⟨a,b,c,d⟩).1,(W3 ⟨a,b,c,d⟩).2,()):=rfl;have r:D=ins0:=rfl;have f:(Q2 ⟨a,b,c,d⟩).2=D7 ⟨a,b,c,d⟩:=by
  unfold Q2;by_cases h:D7 ⟨a,b,c,d⟩=0
  .rw [if_neg (by simpa using h),h]
  .rw [if_pos h]
 refine ⟨λh=>?_,λh=>?_⟩
 .have h:D7 ⟨a,b,c,d⟩≠0:=by simpa [B,f] using h
  rw [e];unfold W3;rw [if_pos h];simp only [G,f]
 have h:D7 ⟨a,b,c,d⟩=0:=by simpa [B,f] using h
 have C:=aX3 h;have J:=C.len;have l:o=A9 b c:=by show (Q2 ⟨a,b,c,d⟩).1=_;unfold Q2;rw [if_neg (by simpa using h)]
 have e:p=(W6 (A9 b c) b b.length,0,()):=by rw [e];unfold W3;rw [if_neg (by simpa using h)];unfold W6;rw [List.take_of_length_le (by rw [List.length_zip];omega)];rfl
 have s:E=b.length+1:=by show ((List.length o:Nat):Int)=_;rw [l,H3];rfl
 clear_value p o E D
 subst e l r s;dsimp only [H];simp only [true_and,and_true,Bool.cond_self];refine ⟨⟨Int.le_refl _,by omega⟩,⟨(0,_,()),rfl,rfl,Int.le_refl _,by dsimp only;omega,?_⟩,?_⟩
 .show ((atL b c 0).length:Int)=W6 (A9 b c) b 0;rw [Q0];rfl
 rintro ⟨i,m,⟨⟩⟩ ⟨h0,h1,h2⟩;dsimp only at h0 h1 h2 |-;subst h2;obtain ⟨k,rfl⟩:=cy3 h0;simp only [cy0];refine ⟨λg=>?_,λt=>?_⟩
 .have g:(k:Int)<b.length:=cy7 g;have K:IntKind.i64.wrap ((k:Int)+1)=((k+1:Nat):Int):=B3 (by omega) (by omega:b.length<=140737488355328);rw [K];simp only [cy0];have u:(b.getD k ins0).to.length<=140737488355328:=av8 (b:=b) I (by omega);have v:(A9 b c).getD (k+1) []=atL b c (k+1):=rfl;rw [v];refine ⟨⟨h0,g⟩,⟨by omega,by omega⟩,⟨(0,_,()),rfl,rfl,Int.le_refl _,by dsimp only;omega,by simp [ah3]⟩,?_⟩;rintro ⟨q,n,⟨⟩⟩ ⟨w,L,F⟩;dsimp only at w L F |-;obtain ⟨j,rfl⟩:=cy3 w;subst F;simp only [cy0];have M:(atL b c (k+1)).length<=4000:=by
   have h3:=as9 c b (k+1);have h4:((atL b c (k+1)).map Int.toNat).Nodup:=by rw [List.Nodup,List.pairwise_map];exact h3.imp_of_mem (λ{x y} z A N S=>by have:=aX4 C z;have:=aX4 C A;omega)
   have:=ak6 4000 _ h4 (λx z=>by
    obtain ⟨y,A,rfl⟩:=List.mem_map.1 z;have:=aX4 C A;omega)
   simpa using this
  refine ⟨λhc=>?_,λhc=>?_⟩
  .have hc:(j:Int)<(b.getD k ins0).to.length:=cy7 hc;have O:ah3 (atL b c (k+1)) ((b.getD k ins0).to.take j)<=4000+j:=by
    unfold ah3;have:=List.length_filter_le (λn=>!(atL b c (k+1)).contains n) ((b.getD k ins0).to.take j);rw [cA6] at this;omega
   have P:0<=ah3 (atL b c (k+1)) ((b.getD k ins0).to.take j):=by unfold ah3;omega
   refine ⟨⟨w,hc⟩,⟨by omega,by omega⟩,((j+1:Nat),ah3 (atL b c (k+1)) ((b.getD k ins0).to.take (j+1)),()),B3 (by omega) u,?_,⟨by omega,by dsimp only;omega,by rw [cy0]⟩,by dsimp only;omega⟩;dsimp only;rw [bF9 (by omega),M1 (by omega) (by omega)];cases (!(atL b c (k+1)).contains ((b.getD k ins0).to.getD j 0))<;>rfl
  .have Q:j=(b.getD k ins0).to.length:=by have:¬ (j:Int)<(b.getD k ins0).to.length:=cy6 hc;omega
   subst Q;rw [cA5];refine ⟨((k+1:Nat),W6 (A9 b c) b (k+1),()),rfl,?_,⟨by omega,by dsimp only;omega,by rw [cy0]⟩,by dsimp only;omega⟩;dsimp only;rw [bF8 b c (by omega),bh1 (as9 c b (k+1)) (aX5 C (by omega))];split<;>omega
 .have R:k=b.length:=by have:¬ (k:Int)<b.length:=cy6 t;omega
  subst R;rfl
theorem bq0:D0 prog RG 29 cPress:=E5 (A5 aR5 (A5 N8 C0)) (λp=>bS9 p.2.1 p.2.2.1) (by kernel_rfl) (by kernel_rfl) (by kernel_rfl) λ(a,b,c,d,()) _=>ce2 a b c d
theorem aX6 {A l:List Int} {i:Nat} (a:A.length=i) (h:i<l.length):(A++l.drop i).getD i 0=l.getD i 0:=by rw [cz1,cz1,cz6 (by omega),a,Nat.sub_self,List.getElem?_drop,Nat.add_zero]
theorem aX7 {A l:List Int} {i:Nat} (a:A.length=i) (h:i<l.length) (v:Int):(A++l.drop i).set i v=(A++[v])++l.drop (i+1):=by rw [List.set_append_right _ _ (by omega),a,Nat.sub_self,List.drop_eq_getElem_cons h,List.set_cons_zero];simp
theorem ak8 {A l:List Int} {i:Nat} (a:A.length=i) (h:i<=l.length):(A++l.drop i).length=l.length:=by rw [cz8,List.length_drop];omega
theorem ak9 {b c:List Int} {a:List Ins}:ah4 b c a=true<->(b.length<=17592186044416/\c.length<=17592186044416/\a.length<=1599289640354)/\K0 a=true:=by
 simp only [ah4,cx9,cz9];constructor
 .rintro ⟨⟨⟨h1,h2⟩,h3⟩,h4⟩;exact ⟨⟨h1,h2,h3⟩,h4⟩
 .rintro ⟨⟨h1,h2,h3⟩,h4⟩;exact ⟨⟨⟨h1,h2⟩,h3⟩,h4⟩
def cRegs:Con RU:=con [one] [ints] [one] [.bool] [false] none λp=>(p.1.all G8,())
def co5 (l:List Int):Nat->St RU->Ann RU:=λ_ _=>⟨[],[.slot 3],[i64],λp=>0<=p.1/\p.1<=l.length/\(l.take p.1.toNat).all G8=true,λp=>l.length-p.1.toNat,[]⟩
theorem co6 (l:List Int):vc (EV [(31,cLies)]) (co5 l) Go.Proofs.Tryd.f79 cRegs (l,())=(Small RU (Sigma.mk (Ty.slice (3:Nat) (Ty.int IntKind.i64)) l)->
  (∃ (p:Int×Unit),l=l/\(0:Int)=p.1/\(0:Int)<=p.1/\p.1<=(↑(List.length l):Int)/\List.all (List.take (Int.toNat p.1) l) G8=true)/\
  ∀ (p:Int×Unit),
 let a:Bool:=decide (p.1<(↑(List.length l):Int));
 let b:Bool:=!lies (List.getD l (Int.toNat p.1) (0:Int)) (0:Int) (3999:Int);
  (0:Int)<=p.1/\p.1<=(↑(List.length l):Int)/\List.all (List.take (Int.toNat p.1) l) G8=true->
  (a=true->
  ((0:Int)<=p.1/\p.1<(↑(List.length l):Int))/\
  (b=true->(false,())=(List.all l G8,()))/\
  (b=false->
  ∃ (p':Int×Unit),
  l=l/\
  IntKind.i64.wrap (p.1+(1:Int))=p'.1/\
  ((0:Int)<=p'.1/\p'.1<=(↑(List.length l):Int)/\List.all (List.take (Int.toNat p'.1) l) G8=true)/\
  List.length l-Int.toNat p'.1<List.length l-Int.toNat p.1))/\
  (a=false->(true,())=(List.all l G8,()))):=by kernel_rfl
structure Named (a:Int) (W:List Int) (m:List (Int×Int)):Prop where
 len:(m.length:Int)=a+W.length
 par:∀ n,0<=n->n<a->mget eqI m n=some n
 wr:∀ n∈W,mget eqI m n=some (a+B8 W n)
 out:∀ n,a<=n->n∉W->mget eqI m n=none
def cThere:Con RU:=con [one,one,one] [i64,ints,ints] [one] [.bool] [false] none λp=>(p.2.2.1.all (λn=>decide (n<p.1)||p.2.1.contains n),())
def bT0 (a:Int) (W l:List Int):Nat->St RU->Ann RU:=λ_ _=>⟨[],[.slot 7],[i64],λp=>0<=p.1/\p.1<=l.length/\((l.take p.1.toNat).all λn=>decide (n<a)||W.contains n)=true,λp=>l.length-p.1.toNat,[]⟩
def M8 (b:List Ins):Bool:=b.all λx=>x.to.all G8&&x.from_.all G8
def bq1 (a:Int) (b:List Ins) (c:List Int):Nat->St RU->Ann RU:=λk s=>match k with
 |0=>⟨[],[.slot 4,.slot 3],[i64,.bool],λp=>0<=p.1/\p.1<=b.length/\p.2.1=((lies a 0 4000&&c.all G8)&&M8 (b.take p.1.toNat)),λp=>b.length-p.1.toNat,[]⟩
 |1=>⟨[5],[.slot 6,.row 3200],[i64,ints],λp=>0<=p.1/\p.1<=b.length/\p.2.1=wr (b.take p.1.toNat)/\ok2 a [] (wr (b.take p.1.toNat))=true,λp=>b.length-p.1.toNat,[]⟩
 |2=>⟨[5],[.slot 7,.row 3200],[i64,ints],λp=>0<=p.1/\p.1<=(b.getD (s.intAt 6).toNat ins0).to.length/\p.2.1=wr (b.take (s.intAt 6).toNat)++(b.getD (s.intAt 6).toNat ins0).to.take p.1.toNat/\
   ok2 a [] (wr (b.take (s.intAt 6).toNat)++(b.getD (s.intAt 6).toNat ins0).to.take p.1.toNat)=true,λp=>(b.getD (s.intAt 6).toNat ins0).to.length-p.1.toNat,[]⟩
 |_=>⟨[5],[.slot 9,.row 5888],[i64,ints],λp=>0<=p.1/\p.1<=b.length/\p.2.1=wr (b.take p.1.toNat)/\E2 a [] (b.take p.1.toNat)=true,λp=>b.length-p.1.toNat,[]⟩
def cLivesR:Con RU:=con [(true,4)] ag6 [one] [bf3] [false] (some λp=>p.2.1.length<=4000/\p.2.2.1.length<=17592186044400/\(∀ x∈p.2.1,x.from_.length<=17592186044400)/\p.2.2.1.all G8=true/\M8 p.2.1=true) λp=>(A9 p.2.1 p.2.2.1,())
def bq2 (b:List Ins) (c:List Int):Nat->St RU->Ann RU:=λk s=>match k with
 |0=>⟨[],[.slot 4,.row 704],[i64,bf3],λp=>-1<=p.1/\p.1<b.length/\p.2.1=List.replicate (p.1+1).toNat []++A9 (b.drop (p.1+1).toNat) c,λp=>(p.1+1).toNat,[]⟩
 |_=>⟨[],[.slot 6,.slot 5],[i64,ints],λp=>0<=p.1/\p.1<=(atL b c ((s.intAt 4).toNat+1)).length/\
   p.2.1=(((atL b c ((s.intAt 4).toNat+1)).take p.1.toNat).filter λn=>!(b.getD (s.intAt 4).toNat ins0).to.contains n).foldl K1 (C9 [] (b.getD (s.intAt 4).toNat ins0).from_),λp=>(atL b c ((s.intAt 4).toNat+1)).length-p.1.toNat,[]⟩
theorem ce3 (a:Int) (W l:List Int):vc (EV [(32,cWhere)]) (bT0 a W l) Go.Proofs.Tryd.f80 cThere (a,W,l,())=(let c:Bool×Unit:=(List.all l λ(n:den RU.T i64)=>decide (n<a)||List.contains W n,());
 let b:Int:=(↑(List.length l):Int);
  Small RU (Sigma.mk (Ty.slice (3:Nat) (Ty.int IntKind.i64)) W)->
  Small RU (Sigma.mk (Ty.slice (3:Nat) (Ty.int IntKind.i64)) l)->
  (∃ (p:Int×Unit),
  a=a/\W=W/\l=l/\(0:Int)=p.1/\(0:Int)<=p.1/\p.1<=b/\(List.all (List.take (Int.toNat p.1) l) λ(n:Int)=>decide (n<a)||List.contains W n)=true)/\
  ∀ (p:Int×Unit),
 let e0_1:Bool:=decide (List.getD l (Int.toNat p.1) (0:Int)>=a)&&decide (B8 W (List.getD l (Int.toNat p.1) (0:Int))<(0:Int));
 let e1_1:Bool:=decide (p.1<b);
  (0:Int)<=p.1/\p.1<=b/\(List.all (List.take (Int.toNat p.1) l) λ(n:Int)=>decide (n<a)||List.contains W n)=true->
  (e1_1=true->
  ((0:Int)<=p.1/\p.1<b)/\
  (decide (List.getD l (Int.toNat p.1) (0:Int)>=a)=true->(0:Int)<=p.1/\p.1<b)/\
  (e0_1=true->(false,())=c)/\
  (e0_1=false->
  ∃ (p':Int×Unit),
  a=a/\
  W=W/\
  l=l/\
  IntKind.i64.wrap (p.1+(1:Int))=p'.1/\
  ((0:Int)<=p'.1/\p'.1<=b/\(List.all (List.take (Int.toNat p'.1) l) λ(n:Int)=>decide (n<a)||List.contains W n)=true)/\
  List.length l-Int.toNat p'.1<List.length l-Int.toNat p.1))/\
  (e1_1=false->(true,())=c)):=by kernel_rfl
theorem bT1 (a:Int) (b:List Ins) (c d:List Int):vc (EV [(31,cLies),(79,cRegs),(32,cWhere),(80,cThere)]) (bq1 a b c) Go.Proofs.Tryd.f42 cCheck (a,b,c,d,())=(let e:Bool:=decide ((↑(List.length b):Int) >(4000:Int));
 let h:Ins:=Ins.mk (0:Int) (0:Int) [] [] [];
 let f:Int:=(↑(List.length b):Int);
 let i:Int×Unit:=(D7 (VFun.mk a b c d),());
 let g:Bool:=lies a (0:Int) (4000:Int)&&List.all c G8;
  Small RU (Sigma.mk (Ty.slice (52:Nat) (Ty.user (0:Nat))) b)->
  Small RU (Sigma.mk (Ty.slice (3:Nat) (Ty.int IntKind.i64)) c)->
  Small RU (Sigma.mk (Ty.slice (3:Nat) (Ty.int IntKind.i64)) d)->
  (e=true->((3:Int),())=i)/\
  (e=false->
  (∃ (p:Int×Bool×Unit),
  a=a/\
  b=b/\
  c=c/\
  d=d/\
  (0:Int)=(0:Int)/\
  e=e/\(0:Int)=p.1/\g=p.2.1/\a=a/\b=b/\c=c/\d=d/\(0:Int)<=p.1/\p.1<=f/\p.2.1=(g&&M8 (List.take (Int.toNat p.1) b)))/\
  ∀ (p:Int×Bool×Unit),
 let e0_1:Bool:=decide (p.1<f);
 let e1_1:Bool:=p.2.1;
 let e2_1:Int:=p.1;
  (0:Int)<=e2_1/\e2_1<=f/\e1_1=(g&&M8 (List.take (Int.toNat e2_1) b))->
  (e0_1=true->
  (e1_1=true->(0:Int)<=e2_1/\e2_1<f)/\
  ((e1_1&&List.all (List.getD b (Int.toNat e2_1) h).to G8)=true->(0:Int)<=e2_1/\e2_1<f)/\
  ∃ (p':Int×Bool×Unit),
  a=a/\
  b=b/\
  c=c/\
  d=d/\
  (0:Int)=(0:Int)/\
  e=e/\
  IntKind.i64.wrap (e2_1+(1:Int))=p'.1/\
  (e1_1&&List.all (List.getD b (Int.toNat e2_1) h).to G8&&List.all (List.getD b (Int.toNat e2_1) h).from_ G8)=p'.2.1/\
  a=a/\
  b=b/\
  c=c/\
  d=d/\
  ((0:Int)<=p'.1/\p'.1<=f/\p'.2.1=(g&&M8 (List.take (Int.toNat p'.1) b)))/\
  List.length b-Int.toNat p'.1<List.length b-Int.toNat e2_1)/\
  (e0_1=false->
  ((!e1_1)=true->((2:Int),())=i)/\
  ((!e1_1)=false->
  (∃ (p:Int×List Int×Unit),
  a=a/\
  b=b/\
  c=c/\
  d=d/\
  e=e/\
  e2_1=e2_1/\
  e1_1=e1_1/\
  e0_1=e0_1/\
  (!e1_1)=!e1_1/\
  (0:Int)=p.1/\
  a=a/\
  b=b/\
  c=c/\
  d=d/\
  []=p.2.1/\
  (0:Int)<=p.1/\p.1<=f/\p.2.1=wr (List.take (Int.toNat p.1) b)/\ok2 a [] (wr (List.take (Int.toNat p.1) b))=true)/\
  ∀ (p:Int×List Int×Unit),
 let e0_2:Bool:=decide (p.1<f);
 let e1_2:Int:=p.1;
 let e2_2:List Int:=p.2.1;
 let e3_1:List Int:=(List.getD b (Int.toNat e1_2) h).to;
 let g:Nat:=List.length (List.getD b (Int.toNat e1_2) ins0).to;
  (0:Int)<=e1_2/\e1_2<=f/\e2_2=wr (List.take (Int.toNat e1_2) b)/\ok2 a [] (wr (List.take (Int.toNat e1_2) b))=true->
  (e0_2=true->
  (∃ (p:Int×List Int×Unit),
  a=a/\
  b=b/\
  c=c/\
  d=d/\
  e=e/\
  e2_1=e2_1/\
  e1_1=e1_1/\
  e0_1=e0_1/\
  (!e1_1)=!e1_1/\
  e1_2=e1_2/\
  e0_2=e0_2/\
  (0:Int)=p.1/\
  a=a/\
  b=b/\
  c=c/\
  d=d/\
  e2_2=p.2.1/\
  (0:Int)<=p.1/\
  p.1<=(↑g:Int)/\
  p.2.1=wr (List.take (Int.toNat e1_2) b)++List.take (Int.toNat p.1) (List.getD b (Int.toNat e1_2) ins0).to/\
  ok2 a [] (wr (List.take (Int.toNat e1_2) b)++List.take (Int.toNat p.1) (List.getD b (Int.toNat e1_2) ins0).to)=
  true)/\
  ∀ (p:Int×List Int×Unit),
 let e0_3:Bool:=decide (List.getD e3_1 (Int.toNat p.1) (0:Int)<a)||decide (B8 p.2.1 (List.getD e3_1 (Int.toNat p.1) (0:Int))>=(0:Int));
 let h:Bool:=decide (p.1<(↑(List.length e3_1):Int));
 let e2_3:List Int:=wr (List.take (Int.toNat e1_2) b)++List.take (Int.toNat p.1) (List.getD b (Int.toNat e1_2) ins0).to;
 let e3_2:List Int:=p.2.1;
 let e4_1:Int:=p.1;
 let j:List Int:=[List.getD e3_1 (Int.toNat e4_1) (0:Int)];
  (0:Int)<=e4_1/\e4_1<=(↑g:Int)/\e3_2=e2_3/\ok2 a [] e2_3=true->
  ((0:Int)<=e1_2/\e1_2<f)/\
  (h=true->
  ((0:Int)<=e1_2/\e1_2<f)/\
  ((0:Int)<=e4_1/\e4_1<(↑(List.length e3_1):Int))/\
  (e0_3=true->((5:Int),())=i)/\
  (e0_3=false->
  (List.length e3_2+List.length j)*(8:Nat)<=(140737488355328:Nat)/\
  ∃ (p':Int×List Int×Unit),
  a=a/\
  b=b/\
  c=c/\
  d=d/\
  e=e/\
  e2_1=e2_1/\
  e1_1=e1_1/\
  e0_1=e0_1/\
  (!e1_1)=!e1_1/\
  e1_2=e1_2/\
  e0_2=e0_2/\
  IntKind.i64.wrap (e4_1+(1:Int))=p'.1/\
  a=a/\
  b=b/\
  c=c/\
  d=d/\
  e3_2++j=p'.2.1/\
  ((0:Int)<=p'.1/\
  p'.1<=(↑g:Int)/\
  p'.2.1=
  wr (List.take (Int.toNat e1_2) b)++
  List.take (Int.toNat p'.1) (List.getD b (Int.toNat e1_2) ins0).to/\
  ok2 a []
  (wr (List.take (Int.toNat e1_2) b)++
  List.take (Int.toNat p'.1) (List.getD b (Int.toNat e1_2) ins0).to)=
  true)/\
  g-Int.toNat p'.1<g-Int.toNat e4_1))/\
  (h=false->
  ∃ (p':Int×List Int×Unit),
  a=a/\
  b=b/\
  c=c/\
  d=d/\
  e=e/\
  e2_1=e2_1/\
  e1_1=e1_1/\
  e0_1=e0_1/\
  (!e1_1)=!e1_1/\
  IntKind.i64.wrap (e1_2+(1:Int))=p'.1/\
  a=a/\
  b=b/\
  c=c/\
  d=d/\
  e3_2=p'.2.1/\
  ((0:Int)<=p'.1/\
  p'.1<=f/\
  p'.2.1=wr (List.take (Int.toNat p'.1) b)/\ok2 a [] (wr (List.take (Int.toNat p'.1) b))=true)/\
  List.length b-Int.toNat p'.1<List.length b-Int.toNat e1_2))/\
  (e0_2=false->
  (∃ (p:Int×List Int×Unit),
  a=a/\
  b=b/\
  c=c/\
  d=d/\
  e=e/\
  e2_1=e2_1/\
  e1_1=e1_1/\
  e0_1=e0_1/\
  (!e1_1)=!e1_1/\
  e1_2=e1_2/\
  e0_2=e0_2/\
  (0:Int)=p.1/\
  a=a/\
  b=b/\
  c=c/\
  d=d/\
  e2_2=e2_2/\
  []=p.2.1/\
  (0:Int)<=p.1/\
  p.1<=f/\p.2.1=wr (List.take (Int.toNat p.1) b)/\E2 a [] (List.take (Int.toNat p.1) b)=true)/\
  ∀ (p:Int×List Int×Unit),
 let e0_3:Bool:=!List.all c λ(n:den RU.T i64)=>decide (n<a)||List.contains p.2.1 n;
 let e1_3:Bool:=!List.all (List.getD b (Int.toNat p.1) h).from_ λ(n:den RU.T i64)=>decide (n<a)||List.contains p.2.1 n;
 let e2_3:Bool:=decide (p.1<f);
 let e3_2:Int:=p.1;
 let g:List Int:=p.2.1;
  (0:Int)<=e3_2/\e3_2<=f/\g=wr (List.take (Int.toNat e3_2) b)/\E2 a [] (List.take (Int.toNat e3_2) b)=true->
  (e2_3=true->
  ((0:Int)<=e3_2/\e3_2<f)/\
  (e1_3=true->((4:Int),())=i)/\
  (e1_3=false->
  ((0:Int)<=e3_2/\e3_2<f)/\
  (List.length g+List.length (List.getD b (Int.toNat e3_2) h).to)*(8:Nat)<=(140737488355328:Nat)/\
  ∃ (p':Int×List Int×Unit),
  a=a/\
  b=b/\
  c=c/\
  d=d/\
  e=e/\
  e2_1=e2_1/\
  e1_1=e1_1/\
  e0_1=e0_1/\
  (!e1_1)=!e1_1/\
  e1_2=e1_2/\
  e0_2=e0_2/\
  IntKind.i64.wrap (e3_2+(1:Int))=p'.1/\
  a=a/\
  b=b/\
  c=c/\
  d=d/\
  e2_2=e2_2/\
  g++(List.getD b (Int.toNat e3_2) h).to=p'.2.1/\
  ((0:Int)<=p'.1/\
  p'.1<=f/\
  p'.2.1=wr (List.take (Int.toNat p'.1) b)/\
  E2 a [] (List.take (Int.toNat p'.1) b)=true)/\
  List.length b-Int.toNat p'.1<List.length b-Int.toNat e3_2))/\
  (e2_3=false->(e0_3=true->((4:Int),())=i)/\(e0_3=false->((0:Int),())=i))))))):=by kernel_rfl
theorem bT2 (a:Int) (b:List Ins) (c d:List Int):vc (EV [(35,cUnion),(32,cWhere),(30,cPut)]) (bq2 b c) Go.Proofs.Tryd.f55 cLivesR (a,b,c,d,())=(let f:Ins:=Ins.mk (0:Int) (0:Int) [] [] [];
 let g:Int:=(↑(List.length b):Int);
 let e:Int:=IntKind.i64.wrap (g+(1:Int));
  Small RU (Sigma.mk (Ty.slice (52:Nat) (Ty.user (0:Nat))) b)->
  Small RU (Sigma.mk (Ty.slice (3:Nat) (Ty.int IntKind.i64)) c)->
  Small RU (Sigma.mk (Ty.slice (3:Nat) (Ty.int IntKind.i64)) d)->
  ((0:Int)<=e/\e*(↑(24:Nat):Int)<=(↑(140737488355328:Nat):Int))/\
  List.length ([]:List Int)+List.length c<=(17592186044400:Nat)/\
  ((0:Int)<=g/\g<(↑(List.length (List.replicate (Int.toNat e) ([]:List Int))):Int))/\
  (∃ (p:Int×List (List Int)×Unit),
  a=a/\
  b=b/\
  c=c/\
  d=d/\
  IntKind.i64.wrap (g-(1:Int))=p.1/\
  a=a/\
  b=b/\
  c=c/\
  d=d/\
  List.set (List.replicate (Int.toNat e) ([]:List Int)) (Int.toNat g) (C9 [] c)=p.2.1/\
  (-1:Int)<=p.1/\p.1<g/\p.2.1=List.replicate (Int.toNat (p.1+(1:Int))) []++A9 (List.drop (Int.toNat (p.1+(1:Int))) b) c)/\
  ∀ (p:Int×List (List Int)×Unit),
 let e0_1:Bool:=decide (p.1>=(0:Int));
 let e1_1:List (List Int):=p.2.1;
 let e:Int:=p.1;
 let j:Int:=(↑(List.length (List.getD e1_1 (Int.toNat (IntKind.i64.wrap (e+(1:Int)))) [])):Int);
 let i:Nat:=List.length (atL b c (Int.toNat e+(1:Nat)));
 let k:Nat:=Int.toNat (e+(1:Int));
 let h:Int:=IntKind.i64.wrap (e+(1:Int));
  (-1:Int)<=e/\e<g/\e1_1=List.replicate k []++A9 (List.drop k b) c->
  (e0_1=true->
  ((0:Int)<=e/\e<g)/\
  List.length ([]:List Int)+List.length (List.getD b (Int.toNat e) f).from_<=(17592186044400:Nat)/\
  (∃ (p:Int×List Int×Unit),
  a=a/\
  b=b/\
  c=c/\
  d=d/\
  e=e/\
  e0_1=e0_1/\
  (0:Int)=p.1/\
  C9 [] (List.getD b (Int.toNat e) f).from_=p.2.1/\
  a=a/\
  b=b/\
  c=c/\
  d=d/\
  e1_1=e1_1/\
  (0:Int)<=p.1/\
  p.1<=(↑i:Int)/\
  p.2.1=
  List.foldl K1 (C9 [] (List.getD b (Int.toNat e) ins0).from_)
  (List.filter (λ(n:Int)=>!List.contains (List.getD b (Int.toNat e) ins0).to n)
  (List.take (Int.toNat p.1) (atL b c (Int.toNat e+(1:Nat))))))/\
  ∀ (p:Int×List Int×Unit),
 let f:Bool:=decide (B8 (List.getD b (Int.toNat e) f).to (List.getD (List.getD e1_1 (Int.toNat h) []) (Int.toNat p.1) (0:Int))<(0:Int));
 let e1_2:Bool:=decide (p.1<j);
 let e2_1:List Int:=p.2.1;
 let e3_1:Int:=p.1;
 let e4_1:List Int:=atL b c (Int.toNat e+(1:Nat));
  (0:Int)<=e3_1/\
  e3_1<=(↑i:Int)/\
  e2_1=
  List.foldl K1 (C9 [] (List.getD b (Int.toNat e) ins0).from_)
  (List.filter (λ(n:Int)=>!List.contains (List.getD b (Int.toNat e) ins0).to n) (List.take (Int.toNat e3_1) e4_1))->
  ((0:Int)<=h/\h<(↑(List.length e1_1):Int))/\
  (e1_2=true->
  ((0:Int)<=e/\e<g)/\
  ((0:Int)<=h/\h<(↑(List.length e1_1):Int))/\
  ((0:Int)<=e3_1/\e3_1<j)/\
  (f=true->((0:Int)<=h/\h<(↑(List.length e1_1):Int))/\((0:Int)<=e3_1/\e3_1<j)/\List.length e2_1<=(17592186044400:Nat))/\
  ∃ (p':Int×List Int×Unit),
  (bif f then a else a)=a/\
  (bif f then b else b)=b/\
  (bif f then c else c)=c/\
  (bif f then d else d)=d/\
  (bif f then e else e)=e/\
  (bif f then e0_1 else e0_1)=e0_1/\
  IntKind.i64.wrap ((bif f then e3_1 else e3_1)+(1:Int))=p'.1/\
  (bif f then K1 e2_1 (List.getD (List.getD e1_1 (Int.toNat h) []) (Int.toNat e3_1) (0:Int)) else e2_1)=p'.2.1/\
  (bif f then a else a)=a/\
  (bif f then b else b)=b/\
  (bif f then c else c)=c/\
  (bif f then d else d)=d/\
  (bif f then e1_1 else e1_1)=e1_1/\
  ((0:Int)<=p'.1/\
  p'.1<=(↑i:Int)/\
  p'.2.1=
  List.foldl K1 (C9 [] (List.getD b (Int.toNat e) ins0).from_)
  (List.filter (λ(n:Int)=>!List.contains (List.getD b (Int.toNat e) ins0).to n)
  (List.take (Int.toNat p'.1) e4_1)))/\
  i-Int.toNat p'.1<i-Int.toNat e3_1)/\
  (e1_2=false->
  ((0:Int)<=e/\e<(↑(List.length e1_1):Int))/\
  ∃ (p':Int×List (List Int)×Unit),
  a=a/\
  b=b/\
  c=c/\
  d=d/\
  IntKind.i64.wrap (e-(1:Int))=p'.1/\
  a=a/\
  b=b/\
  c=c/\
  d=d/\
  List.set e1_1 (Int.toNat e) e2_1=p'.2.1/\
  ((-1:Int)<=p'.1/\
  p'.1<g/\
  p'.2.1=List.replicate (Int.toNat (p'.1+(1:Int))) []++A9 (List.drop (Int.toNat (p'.1+(1:Int))) b) c)/\
  Int.toNat (p'.1+(1:Int))<k))/\
  (e0_1=false->(e1_1,())=(A9 b c,()))):=by kernel_rfl
theorem ci3 {p:Int->Bool} {l:List Int} {k:Nat} (a:k<l.length) (h:p (l.getD k 0)=false):l.all p=false:=by rw [Bool.eq_false_iff];intro b;have:=cA7.1 b _ (F7 a 0);rw [h] at this;cases this
theorem by7 {p:Int->Bool} {l:List Int} {k:Nat} (a:k<l.length) (h:(l.take k).all p=true) (h2:p (l.getD k 0)=true):(l.take (k+1)).all p=true:=by rw [A4 a 0,List.all_append,h];simpa using h2
theorem co7 (l:List Int):vc (EV [(31,cLies)]) (co5 l) Go.Proofs.Tryd.f79 cRegs (l,()):=by
 rw [co6 l];intro hs;have hl:l.length<=140737488355328:=hs.len;simp only [true_and,and_true];refine ⟨⟨(0,()),rfl,Int.le_refl _,by dsimp only;omega,by simp⟩,?_⟩;rintro ⟨i,⟨⟩⟩;dsimp only;rintro ⟨h0,h1,h2⟩;obtain ⟨k,rfl⟩:=cy3 h0;simp only [cy0] at h2 |-;refine ⟨λa=>?_,λb=>?_⟩
 .have a:(k:Int)<l.length:=cy7 a;refine ⟨⟨h0,a⟩,λc=>?_,λc=>⟨((k+1:Nat),()),B3 (by omega) hl,⟨by omega,by dsimp only;omega,?_⟩,by dsimp only;omega⟩⟩
  .have:G8 (l.getD k 0)=false:=by simpa [G8] using c
   rw [ci3 (by omega) this]
  .dsimp only;rw [cy0];exact by7 (by omega) h2 (by simpa [G8] using c)
 .have d:k=l.length:=by have:¬ (k:Int)<l.length:=cy6 b;omega
  subst d;rw [cA5] at h2;rw [h2]
theorem bG0:D0 prog RG 79 cRegs:=E5 (A5 av5 C0) (λp=>co5 p.1) (by kernel_rfl) (by kernel_rfl) (by kernel_rfl) λ(l,()) _=>co7 l
theorem ce4 (a:Int) (W l:List Int):vc (EV [(32,cWhere)]) (bT0 a W l) Go.Proofs.Tryd.f80 cThere (a,W,l,()):=by
 rw [ce3 a W l];intro h m _ hs;have hl:l.length<=140737488355328:=hs.len;have d:h=(l.all (λn=>decide (n<a)||W.contains n),()):=rfl
 clear_value h
 dsimp only [m];simp only [true_and,and_true];refine ⟨⟨(0,()),rfl,Int.le_refl _,by dsimp only;omega,by simp⟩,?_⟩;rintro ⟨i,⟨⟩⟩;dsimp only;rintro ⟨h0,h1,h2⟩;obtain ⟨k,rfl⟩:=cy3 h0;simp only [cy0] at h2 |-;have c:(decide (l.getD k 0>=a)&&decide (B8 W (l.getD k 0)<0))=!(decide (l.getD k 0<a)||W.contains (l.getD k 0)):=by
  have h3:=S3 W (l.getD k 0);generalize l.getD k 0=x at h3 |-;rw [<-h3];by_cases e:x<a<;>by_cases j:B8 W x<0
  .simp [e,show ¬ a<=x by omega]
  .simp [e,show ¬ a<=x by omega]
  .simp [e,j,show a<=x by omega]
  .simp [e,j,show a<=x by omega];omega
 rw [c];refine ⟨λb=>?_,λf=>?_⟩
 .have b:(k:Int)<l.length:=cy7 b;refine ⟨⟨h0,b⟩,λ_=>⟨h0,b⟩,λg=>?_,λg=>⟨((k+1:Nat),()),B3 (by omega) hl,⟨by omega,by dsimp only;omega,?_⟩,by dsimp only;omega⟩⟩
  .rw [d,ci3 (p:=λn=>decide (n<a)||W.contains n) (k:=k) (by omega) (Bool.not_eq_true' _▸g)]
  .dsimp only;rw [cy0];exact by7 (p:=λn=>decide (n<a)||W.contains n) (by omega) h2 (Bool.not_eq_false' _▸g)
 .have o:k=l.length:=by have:¬ (k:Int)<l.length:=cy6 f;omega
  subst o;rw [cA5] at h2;rw [d,h2]
theorem bq3:D0 prog RG 80 cThere:=E5 (A5 M6 C0) (λp=>bT0 p.1 p.2.1 p.2.2.1) (by kernel_rfl) (by kernel_rfl) (by kernel_rfl) λ(a,W,l,()) _=>ce4 a W l
theorem by8 (a:Int) (n:Int):∀ (l W:List Int),ok2 a W (l++[n])=(ok2 a W l&&!((W.contains n||l.contains n)||decide (n<a)))
 |[],W=>by simp [ok2]
 |x::r,W=>by simp only [List.cons_append,ok2,by8 a n r,List.contains_cons,Bool.and_assoc];congr 2;by_cases h:n==x<;>simp [h]
theorem aR6 (a:Int):∀ (l r W:List Int),ok2 a W (l++r)=true->ok2 a W l=true
 |[],r,W,_=>rfl
 |x::l,r,W,h=>by simp only [List.cons_append,ok2,cx9] at h |-;exact ⟨h.1,aR6 a l r _ h.2⟩
theorem bT3 (a:Int) (l:List Int):ok2 a [] l=(D8 l&&l.all λn=>decide (a<=n)):=by rw [bR9,show l.all (λn=>!([]:List Int).contains n)=true from cA7.2 (λ_ _=>rfl),Bool.and_true]
theorem bh2 {b:List Ins} {k:Nat} (h:k<b.length):M8 (b.take (k+1))=(M8 (b.take k)&&((b.getD k ins0).to.all G8&&(b.getD k ins0).from_.all G8)):=by rw [A4 h ins0];simp [M8]
theorem ci4 {a:Int} {l:List Int} (h:ok2 a [] l=true) (hr:∀ n∈l,G8 n=true):l.length<=4000:=by
 rw [bT3,cx9] at h;have c:=G2.1 h.1;have h3:(l.map Int.toNat).Nodup:=by rw [List.Nodup,List.pairwise_map];exact c.imp_of_mem (λ{x y} d e b i=>b (by have:=L6.1 (hr x d);have:=L6.1 (hr y e);omega))
 have:=ak6 4000 _ h3 (λj f=>by
  obtain ⟨k,g,rfl⟩:=List.mem_map.1 f;have:=L6.1 (hr k g);omega)
 simpa using this
theorem bT4 (a:Int) (b:List Ins) (c d:List Int):vc (EV [(31,cLies),(79,cRegs),(32,cWhere),(80,cThere)]) (bq1 a b c) Go.Proofs.Tryd.f42 cCheck (a,b,c,d,()):=by
 rw [bT1 a b c d];intro S K N E C L hc T;have t:b.length<=140737488355328:=L.len;have r:E=(D7 ⟨a,b,c,d⟩,()):=rfl;have F:K=ins0:=rfl;have A:C=(lies a 0 4000&&c.all G8):=rfl
 clear_value K E C
 subst F;dsimp only [N];simp only [true_and,and_true];refine ⟨λh=>?_,λh=>?_⟩
 .have h:4000<b.length:=by have:=cy7 h;omega
  rw [r,aR0 h]
 have h:¬ 4000<b.length:=by have:¬ ((b.length:Int) >4000):=cy6 h;omega
 refine ⟨⟨(0,C,()),rfl,rfl,Int.le_refl _,by dsimp only;omega,by simp [M8]⟩,?_⟩;rintro ⟨i,ok,⟨⟩⟩ ⟨h0,h1,h2⟩;dsimp only at h0 h1 h2 |-;subst h2;obtain ⟨k,rfl⟩:=cy3 h0;simp only [cy0];refine ⟨λe=>?_,λg=>?_⟩
 .have e:(k:Int)<b.length:=cy7 e;refine ⟨λ_=>⟨h0,e⟩,λ_=>⟨h0,e⟩,((k+1:Nat),C&&M8 (b.take (k+1)),()),B3 (by omega) t,?_,⟨by omega,by dsimp only;omega,by rw [cy0]⟩,by dsimp only;omega⟩;dsimp only;rw [bh2 (by omega)];simp only [Bool.and_assoc]
 have u:k=b.length:=by have:¬ (k:Int)<b.length:=cy6 g;omega
 subst u;rw [cA5];clear h0 h1 g;refine ⟨λf=>?_,λm=>?_⟩
 .rw [Bool.not_eq_true'] at f;rw [r];simp only [D7];rw [if_neg h,if_pos (by rw [A] at f;unfold M8 at f;rw [f];rfl)]
 rw [Bool.not_eq_false',cx9] at m;obtain ⟨v,B⟩:=m;rw [A,cx9] at v;have hr:=aR1 (a:=a) (b:=b) (c:=c) (d:=d) h v.1 (R1:=true) (R2:=ok2 a [] (wr b)) (by rw [v.2,show (b.all λx=>x.to.all G8&&x.from_.all G8)=true from B];rfl) (bT3 a (wr b));have s:∀ n∈wr b,G8 n=true:=by intro n f;obtain ⟨x,O,G⟩:=ci2.1 f;have:=cA7.1 B x O;rw [cx9] at this;exact cA7.1 this.1 n G
 have o:∀ k,∀ n∈wr (b.take k),G8 n=true:=λk n f=>s n (by
  rw [<-List.take_append_drop k b,I8];exact List.mem_append_left _ f)
 have w:∀ k,k<b.length->∀ j,∀ n∈wr (b.take k)++(b.getD k ins0).to.take j,G8 n=true:=λk u j n f=>by
  rcases cA4.1 f with f|f
  .exact o k n f
  .refine o (k+1) n ?_;rw [ag9 u];exact List.mem_append_right _ (List.mem_of_mem_take f)
 refine ⟨⟨(0,[],()),rfl,rfl,Int.le_refl _,by dsimp only;omega,by simp [wr],by simp [wr,ok2]⟩,?_⟩;rintro ⟨i,W,⟨⟩⟩ ⟨h0,h1,h2,h3⟩;dsimp only at h0 h1 h2 h3 |-;subst h2;obtain ⟨k,rfl⟩:=cy3 h0;simp only [cy0] at h3 |-;refine ⟨λe=>?_,λg=>?_⟩
 .have e:(k:Int)<b.length:=cy7 e;have H:(b.getD k ins0).to.length<=140737488355328:=av8 L (by omega);refine ⟨⟨(0,wr (b.take k),()),rfl,rfl,Int.le_refl _,by dsimp only;omega,by simp only [Int.toNat_zero,List.take_zero,List.append_nil],by simp only [Int.toNat_zero,List.take_zero,List.append_nil];exact h3⟩,?_⟩;rintro ⟨q,V,⟨⟩⟩ ⟨I,P,M,z⟩;dsimp only at I P M z |-;subst M;obtain ⟨j,rfl⟩:=cy3 I;simp only [cy0] at z |-;refine ⟨⟨h0,e⟩,λhc=>?_,λhc=>?_⟩
  .have hc:(j:Int)<(b.getD k ins0).to.length:=cy7 hc;have l:ok2 a [] (wr (b.take k)++(b.getD k ins0).to.take (j+1))=!(decide ((b.getD k ins0).to.getD j 0<a)||decide (B8 (wr (b.take k)++(b.getD k ins0).to.take j) ((b.getD k ins0).to.getD j 0)>=0)):=by
    rw [A4 (by omega) 0,<-cA3,by8,z,S3,Bool.true_and,Bool.or_comm];rfl
   refine ⟨⟨h0,e⟩,⟨I,hc⟩,λf=>?_,λm=>?_⟩
   .have hf:ok2 a [] (wr (b.take k)++(b.getD k ins0).to.take (j+1))=false:=by rw [l,f];rfl
    have J:ok2 a [] (wr b)=false:=by
     rw [Bool.eq_false_iff];intro D;have h4:wr b=(wr (b.take k)++(b.getD k ins0).to.take (j+1))++((b.getD k ins0).to.drop (j+1)++wr (b.drop (k+1))):=by
      conv=>lhs;rw [<-List.take_append_drop (k+1) b,I8,ag9 (by omega)]
      rw [cA3,cA3,<-cA3 (List.take (j+1) _),List.take_append_drop]
     rw [h4] at D;have:=aR6 a _ _ _ D;rw [hf] at this;cases this
    rw [r,hr,J];rfl
   .have D:ok2 a [] (wr (b.take k)++(b.getD k ins0).to.take (j+1))=true:=by rw [l,m];rfl
    have p:=ci4 z (w k (by omega) j);refine ⟨by simp only [cA1];omega,((j+1:Nat),wr (b.take k)++(b.getD k ins0).to.take (j+1),()),B3 (by omega) H,?_,⟨by omega,by dsimp only;omega,by rw [cy0],by rw [cy0];exact D⟩,by dsimp only;omega⟩;dsimp only;rw [A4 (by omega) 0,cA3]
  .have Q:j=(b.getD k ins0).to.length:=by have:¬ (j:Int)<(b.getD k ins0).to.length:=cy6 hc;omega
   subst Q;rw [cA5] at z |-;refine ⟨((k+1:Nat),_,()),B3 (by omega) t,rfl,⟨by omega,by dsimp only;omega,?_,?_⟩,by dsimp only;omega⟩
   .dsimp only;rw [cy0,ag9 (by omega)]
   .dsimp only;rw [cy0,ag9 (by omega)];exact z
 have u:k=b.length:=by have:¬ (k:Int)<b.length:=cy6 g;omega
 subst u;rw [cA5] at h3;clear h0 h1 g;rw [h3] at hr;have hr:E=(if (E2 a [] b&&c.all λn=>decide (n<a)||(wr b).contains n)=false then 4 else 0,()):=by rw [r,hr];rfl
 have p:=ci4 h3 s;have y:∀ k,(wr (b.take k)).length+(wr (b.drop k)).length<=4000:=λk=>by rw [<-List.take_append_drop k b,I8,cz8] at p;exact p
 refine ⟨⟨(0,[],()),rfl,rfl,Int.le_refl _,by dsimp only;omega,by simp [wr],by simp [E2]⟩,?_⟩;rintro ⟨i,W,⟨⟩⟩ ⟨h0,h1,h2,h4⟩;dsimp only at h0 h1 h2 h4 |-;subst h2;obtain ⟨k,rfl⟩:=cy3 h0;simp only [cy0] at h4 |-;refine ⟨λe=>?_,λg=>?_⟩
 .have e:(k:Int)<b.length:=cy7 e;have l:=aR2 (a:=a) (b:=b) (k:=k) (by omega);rw [h4,Bool.true_and] at l;refine ⟨⟨h0,e⟩,λf=>?_,λm=>?_⟩
  .have f:E2 a [] (b.take (k+1))=false:=by rw [l];exact Bool.not_eq_true' _▸f
   rw [hr,aR3 f];rfl
  .have m:E2 a [] (b.take (k+1))=true:=by rw [l];exact Bool.not_eq_false' _▸m
   have R:=y (k+1);rw [ag9 (by omega),cz8] at R;refine ⟨⟨h0,e⟩,by omega,((k+1:Nat),wr (b.take (k+1)),()),B3 (by omega) t,?_,⟨by omega,by dsimp only;omega,by rw [cy0],by rw [cy0];exact m⟩,by dsimp only;omega⟩;dsimp only;rw [ag9 (by omega)]
 .have u:k=b.length:=by have:¬ (k:Int)<b.length:=cy6 g;omega
  subst u;rw [cA5] at h4 |-;refine ⟨λf=>?_,λm=>?_⟩
  .have f:(c.all λn=>decide (n<a)||(wr b).contains n)=false:=Bool.not_eq_true' _▸f;rw [hr,h4,f];rfl
  .have m:(c.all λn=>decide (n<a)||(wr b).contains n)=true:=Bool.not_eq_false' _▸m;rw [hr,h4,m];rfl
theorem bh3:D0 prog RG 42 cCheck:=E5 (A5 av5 (A5 bG0 (A5 M6 (A5 bq3 C0)))) (λp=>bq1 p.1 p.2.1 p.2.2.1) (by kernel_rfl) (by kernel_rfl) (by kernel_rfl) λ(a,b,c,d,()) _=>bT4 a b c d
theorem by9 {b:List Ins} {c:List Int} (hf:M8 b=true) (a:c.all G8=true) {n:Int} {p:Nat} (h:n∈atL b c p):0<=n/\n<=3999:=by
 induction b generalizing p with
 |nil=>
  cases p with
  |zero=>exact L6.1 (cA7.1 a n (by simpa [atL,A9,L0] using h))
  |succ p=>simp [atL,A9] at h
 |cons x r ih=>
  simp only [M8,List.all_cons,cx9] at hf;have hr:M8 r=true:=hf.2;cases p with
  |zero=>
   rw [Q0,aa7,<-Q0] at h;rcases h with h|h
   .exact L6.1 (cA7.1 hf.1.2 n h)
   .exact ih hr h.1
  |succ p=>rw [ad2] at h;exact ih hr h
theorem bz0 {l:List Int} (h:incr l) (hr:∀ n∈l,0<=n/\n<=3999):l.length<=4000:=by
 have h4:(l.map Int.toNat).Nodup:=by rw [List.Nodup,List.pairwise_map];exact h.imp_of_mem (λ{x y} a b c d=>by have:=hr x a;have:=hr y b;omega)
 have:=ak6 4000 _ h4 (λx a=>by
  obtain ⟨y,b,rfl⟩:=List.mem_map.1 a;have:=hr y b;omega)
 simpa using this
theorem bz1 (b:List Ins) (c:List Int) {k:Nat} (h:k<=b.length):atL b c k=(A9 (b.drop k) c).headD []:=by have h1:=aw0 c (b.drop k) (b.take k) 0;rw [List.take_append_drop,cA6,Nat.min_eq_left h,Nat.add_zero] at h1;rw [h1,Q0]
theorem bh4 (b:List Ins) (c:List Int) {k:Nat} (h:k<b.length):A9 (b.drop k) c=az3 (b.getD k ins0) (atL b c (k+1))::A9 (b.drop (k+1)) c:=by rw [List.drop_eq_getElem_cons h];simp only [A9];rw [<-bz1 b c (k:=k+1) (by omega),cz1,cx8 h];rfl
theorem bT5 {l:List Int} {j:Nat} (h:j<l.length) (to acc:List Int):((l.take (j+1)).filter λn=>!to.contains n).foldl K1 acc=if to.contains (l.getD j 0) then ((l.take j).filter λn=>!to.contains n).foldl K1 acc else K1 (((l.take j).filter λn=>!to.contains n).foldl K1 acc) (l.getD j 0):=by rw [A4 h 0,List.filter_append,List.foldl_append,List.filter_cons];cases to.contains (l.getD j 0)<;>simp
theorem co8 (n:Nat) (A:List (List Int)) (k:Nat):(List.replicate n []++A).getD (n+k) []=A.getD k []:=by rw [cz1,cz1,cz6 (by simp),List.length_replicate,Nat.add_sub_cancel_left]
theorem bT6 (n:Nat) (A:List (List Int)) (v:List Int):(List.replicate (n+1) []++A).set n v=List.replicate n []++v::A:=by rw [List.replicate_succ',cA3,List.set_append_right _ _ (by simp),List.length_replicate,Nat.sub_self];rfl
theorem bT7 (a:Int) (b:List Ins) (c d:List Int) (E:b.length<=4000/\c.length<=17592186044400/\(∀ x∈b,x.from_.length<=17592186044400)/\c.all G8=true/\M8 b=true):vc (EV [(35,cUnion),(32,cWhere),(30,cPut)]) (bq2 b c) Go.Proofs.Tryd.f55 cLivesR (a,b,c,d,()):=by
 rw [bT2 a b c d];intro z F A _ _ _;obtain ⟨G,H,t,h,g⟩:=E;have u:z=ins0:=rfl;have v:A=((b.length+1:Nat):Int):=M1 (by omega) (by omega)
 clear_value z A
 subst u v;dsimp only [F];simp only [true_and,and_true,Bool.cond_self];have I:IntKind.i64.wrap ((b.length:Int)-1)=(b.length:Int)-1:=M1 (by omega) (by omega);rw [I,cy0,cy0];refine ⟨⟨by omega,by omega⟩,by simp only [List.length_nil];omega,⟨by omega,by rw [List.length_replicate];omega⟩,⟨((b.length:Int)-1,List.replicate b.length []++A9 (b.drop b.length) c,()),rfl,?_,by dsimp only;omega,by dsimp only;omega,?_⟩,?_⟩
 .have:=bT6 b.length [] (C9 [] c);rw [List.append_nil] at this;rw [this,List.drop_length];rfl
 .dsimp only;rw [show ((b.length:Int)-1+1).toNat=b.length by omega]
 rintro ⟨i,rows,⟨⟩⟩ ⟨h0,h1,h2⟩;dsimp only at h0 h1 h2 |-;subst h2;refine ⟨λf=>?_,λf=>?_⟩
 .have f:i>=0:=cy7 f;obtain ⟨k,rfl⟩:=cy3 f;have r:k<b.length:=by omega
  have w:IntKind.i64.wrap ((k:Int)+1)=((k+1:Nat):Int):=B3 r (by omega);have y:IntKind.i64.wrap ((k:Int)-1)=(k:Int)-1:=M1 (by omega) (by omega);rw [w,y];simp only [cy0,show ((k:Int)+1).toNat=k+1 by omega];have m:(List.replicate (k+1) []++A9 (b.drop (k+1)) c).getD (k+1) []=atL b c (k+1):=by have:=co8 (k+1) (A9 (b.drop (k+1)) c) 0;rw [Nat.add_zero] at this;rw [this,bz1 b c (by omega)];cases A9 (b.drop (k+1)) c<;>rfl
  have o:(List.replicate (k+1) ([]:List Int)++A9 (b.drop (k+1)) c).length=b.length+1:=by rw [cz8,List.length_replicate,H3,List.length_drop];omega
  rw [m,o];have J:(atL b c (k+1)).length<=4000:=bz0 (as9 c b (k+1)) (λn e=>by9 g h e);refine ⟨⟨f,h1⟩,by have:=t _ (F7 r ins0);simp only [List.length_nil];omega,⟨(0,_,()),rfl,rfl,Int.le_refl _,by dsimp only;omega,by simp only [Int.toNat_zero,List.take_zero,List.filter_nil,List.foldl_nil];rfl⟩,?_⟩;rintro ⟨q,l,⟨⟩⟩ ⟨s,K,B⟩;dsimp only at s K B |-;subst B;obtain ⟨j,rfl⟩:=cy3 s;simp only [cy0];refine ⟨⟨by omega,by omega⟩,λhc=>?_,λhc=>?_⟩
  .have hc:(j:Int)<(atL b c (k+1)).length:=cy7 hc;have C:((((atL b c (k+1)).take j).filter λn=>!(b.getD k ins0).to.contains n).foldl K1 (C9 [] (b.getD k ins0).from_)).length<=4000:=by
    have p:incr ((((atL b c (k+1)).take j).filter λn=>!(b.getD k ins0).to.contains n).foldl K1 (C9 [] (b.getD k ins0).from_)):=O6 (O6 List.Pairwise.nil _) _;refine bz0 p (λn e=>?_);have e:n∈C9 (C9 [] (b.getD k ins0).from_) (((atL b c (k+1)).take j).filter λn=>!(b.getD k ins0).to.contains n):=e;rw [L0,L0] at e;rcases e with (e|e)|e
    .simp at e
    .have:=cA7.1 g _ (F7 r ins0);rw [cx9] at this;exact L6.1 (cA7.1 this.2 n e)
    .exact by9 g h (List.mem_of_mem_take (List.mem_filter.1 e).1)
   refine ⟨⟨f,h1⟩,⟨by omega,by omega⟩,⟨s,hc⟩,λ_=>⟨⟨by omega,by omega⟩,⟨s,hc⟩,by omega⟩,((j+1:Nat),_,()),B3 (by omega) (by omega:(atL b c (k+1)).length<=140737488355328),rfl,⟨by omega,by dsimp only;omega,?_⟩,by dsimp only;omega⟩;show (bif decide (B8 (b.getD k ins0).to ((atL b c (k+1)).getD j 0)<0) then K1 ((((atL b c (k+1)).take j).filter λn=>!(b.getD k ins0).to.contains n).foldl K1 (C9 [] (b.getD k ins0).from_)) ((atL b c (k+1)).getD j 0) else (((atL b c (k+1)).take j).filter λn=>!(b.getD k ins0).to.contains n).foldl K1 (C9 [] (b.getD k ins0).from_))=(((atL b c (k+1)).take (j+1)).filter λn=>!(b.getD k ins0).to.contains n).foldl K1 (C9 [] (b.getD k ins0).from_);rw [bT5 (by omega),<-S3];by_cases D:B8 (b.getD k ins0).to ((atL b c (k+1)).getD j 0)<0
   .rw [decide_eq_true D,if_neg (by rw [cz9];omega)];rfl
   .rw [decide_eq_false D,if_pos (by rw [cz9];omega)];rfl
  .have L:j=(atL b c (k+1)).length:=by have:¬ (j:Int)<(atL b c (k+1)).length:=cy6 hc;omega
   subst L;rw [cA5];refine ⟨⟨f,by omega⟩,((k:Int)-1,List.replicate k []++A9 (b.drop k) c,()),rfl,?_,⟨by dsimp only;omega,by dsimp only;omega,?_⟩,by dsimp only;omega⟩
   .dsimp only;rw [bT6,bh4 b c r];rfl
   .dsimp only;rw [show ((k:Int)-1+1).toNat=k by omega]
 .have f:¬ i>=0:=cy6 f;rw [show (i+1).toNat=0 by omega];rfl
theorem bh5:D0 prog RG 55 cLivesR:=E5 (A5 aJ4 (A5 M6 (A5 bf7 C0))) (λp=>bq2 p.2.1 p.2.2.1) (by kernel_rfl) (by kernel_rfl) (by kernel_rfl) λ(a,b,c,d,()) e=>bT7 a b c d e
def ad3 (b:List Ins):Bool:=b.all λx=>decide (x.from_.length<=17592186044400)&&decide (x.to.length<=17592186044400)
theorem bh6 {a:Int} {b:List Ins} {c:List Int} (C:Checked a b c):c.all G8=true/\M8 b=true:=by refine ⟨cA7.2 λn d=>L6.2 (C.outR n d),cA7.2 λx e=>?_⟩;rw [cx9];exact ⟨cA7.2 λn d=>L6.2 (C.toR x e n d),cA7.2 λn d=>L6.2 (C.fromR x e n d)⟩
def H2 (n:Int) (l:List Int):Bool:=l.all λx=>decide (0<=x)&&decide (x<n)
def ae6 (slots cells:Int) (x:RIns):Bool:=
 if x.kind=0 then H2 slots x.ins.from_&&H2 slots x.ins.to else if x.kind=1\/x.kind=2 then H2 slots [x.slot]&&H2 cells [x.cell] else false
def ad4 (slots cells:Int) (p:Place):Bool:=H2 (if p.cell then cells else slots) [p.n]
def L3 (c:RCode):Bool:=
 (H2 4001 [c.params]&&H2 65 [c.slots]&&decide (1<=c.slots)&&decide (c.params<=c.cells)&&decide (c.cells<=8000))&&c.code.all (ae6 c.slots c.cells)&&c.out.all (ad4 c.slots c.cells)
def cShaped:Con RU:=con [(true,5)] bP3 [one] [.bool] [false] (some λp=>-9223372036854775808<=p.2.1/\p.2.1<9223372036854775808) λp=>(L3 ⟨p.1,p.2.1,p.2.2.1,p.2.2.2.1,p.2.2.2.2.1⟩,())
def bq4 (slots cells:Int) (l:List RIns) (o:List Place):Nat->St RU->Ann RU:=λk s=>match k with
 |0=>⟨[],[.slot 36],[i64],λp=>0<=p.1/\p.1<=l.length/\(l.take p.1.toNat).all (ae6 slots cells)=true,λp=>l.length-p.1.toNat,[]⟩
 |_=>⟨[],[.slot 83],[i64],λp=>0<=p.1/\p.1<=o.length/\(o.take p.1.toNat).all (ad4 slots cells)=true,λp=>o.length-p.1.toNat,[]⟩
theorem bT8 (a b c:Int) (l:List RIns) (o:List Place):vc (EV [(92,cIn)]) (bq4 b c l o) Go.Proofs.Tryd.f60 cShaped (a,b,c,l,o,())=(
 let f:Bool:=
  ((!List.all [a] λ(n:den RU.T i64)=>decide ((0:Int)<=n)&&decide (n<(4001:Int)))||
  !List.all [IntKind.i64.wrap (b-(1:Int))] λ(n:den RU.T i64)=>decide ((0:Int)<=n)&&decide (n<(64:Int)))||
  decide (c<a)||
  decide (c >(8000:Int));
 let d:Int:=(↑(List.length l):Int);
 let e:RIns:=RIns.mk (0:Int) (0:Int) (0:Int) ins0;
 let g:Int:=(↑(List.length o):Int);
 let h:Place:=Place.mk false (0:Int);
  Small RU (Sigma.mk (Ty.slice (55:Nat) (Ty.user (1:Nat))) l)->
  Small RU (Sigma.mk (Ty.slice (59:Nat) (Ty.user (2:Nat))) o)->
  (f=true->(false,())=(L3 (RCode.mk a b c l o),()))/\
  (f=false->
  (∃ (p:Int×Unit),
  a=a/\
  b=b/\
  c=c/\
  l=l/\
  o=o/\
  f=f/\
  l=l/\
  d=d/\
  (0:Int)=p.1/\
  a=a/\b=b/\c=c/\l=l/\o=o/\[a]=[a]/\(0:Int)<=p.1/\p.1<=d/\List.all (List.take (Int.toNat p.1) l) (ae6 b c)=true)/\
  ∀ (p:Int×Unit),
 let e0_1:Bool:=
  (!List.all [bif (List.getD l (Int.toNat p.1) e).kind==(1:Int) then (List.getD l (Int.toNat p.1) e).slot else (List.getD l (Int.toNat p.1) e).slot] λ(n:den RU.T i64)=>
  decide ((0:Int)<=n)&&decide (n<bif (List.getD l (Int.toNat p.1) e).kind==(1:Int) then b else b))||
  !List.all [bif (List.getD l (Int.toNat p.1) e).kind==(1:Int) then (List.getD l (Int.toNat p.1) e).cell else (List.getD l (Int.toNat p.1) e).cell] λ(n:den RU.T i64)=>
  decide ((0:Int)<=n)&&decide (n<bif (List.getD l (Int.toNat p.1) e).kind==(1:Int) then c else c);
 let e1_1:Bool:=
  (!List.all (List.getD l (Int.toNat p.1) e).ins.from_ λ(n:den RU.T i64)=>decide ((0:Int)<=n)&&decide (n<b))||
  !List.all (List.getD l (Int.toNat p.1) e).ins.to λ(n:den RU.T i64)=>decide ((0:Int)<=n)&&decide (n<b);
 let e2_1:Bool:=(List.getD l (Int.toNat p.1) e).kind==(1:Int);
 let e3_1:Bool:=decide (p.1<d);
 let e4_1:Bool:=bif e2_1 then e2_1 else (List.getD l (Int.toNat p.1) e).kind==(2:Int);
 let i:Bool:=(List.getD l (Int.toNat p.1) e).kind==(0:Int);
  (0:Int)<=p.1/\p.1<=d/\List.all (List.take (Int.toNat p.1) l) (ae6 b c)=true->
  (e3_1=true->
  ((0:Int)<=p.1/\p.1<d)/\
  (i=true->
  (e1_1=true->(false,())=(L3 (RCode.mk a b c l o),()))/\
  (e1_1=false->
  ∃ (p':Int×Unit),
  a=a/\
  b=b/\
  c=c/\
  l=l/\
  o=o/\
  f=f/\
  l=l/\
  d=d/\
  IntKind.i64.wrap (p.1+(1:Int))=p'.1/\
  a=a/\
  b=b/\
  c=c/\
  l=l/\
  o=o/\
  [a]=[a]/\
  ((0:Int)<=p'.1/\p'.1<=d/\List.all (List.take (Int.toNat p'.1) l) (ae6 b c)=true)/\
  List.length l-Int.toNat p'.1<List.length l-Int.toNat p.1))/\
  (i=false->
  (e4_1=true->
  (e0_1=true->(false,())=(L3 (RCode.mk a b c l o),()))/\
  (e0_1=false->
  ∃ (p':Int×Unit),
  (bif e2_1 then a else a)=a/\
  (bif e2_1 then b else b)=b/\
  (bif e2_1 then c else c)=c/\
  (bif e2_1 then l else l)=l/\
  (bif e2_1 then o else o)=o/\
  (bif e2_1 then f else f)=f/\
  (bif e2_1 then l else l)=l/\
  (bif e2_1 then d else d)=d/\
  IntKind.i64.wrap ((bif e2_1 then p.1 else p.1)+(1:Int))=p'.1/\
  (bif e2_1 then a else a)=a/\
  (bif e2_1 then b else b)=b/\
  (bif e2_1 then c else c)=c/\
  (bif e2_1 then l else l)=l/\
  (bif e2_1 then o else o)=o/\
  (bif e2_1 then [a] else [a])=[a]/\
  ((0:Int)<=p'.1/\p'.1<=d/\List.all (List.take (Int.toNat p'.1) l) (ae6 b c)=true)/\
  List.length l-Int.toNat p'.1<List.length l-Int.toNat p.1))/\
  (e4_1=false->(false,())=(L3 (RCode.mk a b c l o),()))))/\
  (e3_1=false->
  (∃ (p_1:Int×Unit),
  a=a/\
  b=b/\
  c=c/\
  l=l/\
  o=o/\
  f=f/\
  l=l/\
  d=d/\
  p.1=p.1/\
  e3_1=e3_1/\
  o=o/\
  g=g/\
  (0:Int)=p_1.1/\
  a=a/\
  b=b/\
  c=c/\l=l/\o=o/\[a]=[a]/\(0:Int)<=p_1.1/\p_1.1<=g/\List.all (List.take (Int.toNat p_1.1) o) (ad4 b c)=true)/\
  ∀ (p_1:Int×Unit),
 let e0_2:Bool:=
  !List.all [bif (List.getD o (Int.toNat p_1.1) h).cell then (List.getD o (Int.toNat p_1.1) h).n else (List.getD o (Int.toNat p_1.1) h).n] λ(n:den RU.T i64)=>
  decide ((0:Int)<=n)&&decide (n<bif (List.getD o (Int.toNat p_1.1) h).cell then c else b);
 let e1_2:Bool:=(List.getD o (Int.toNat p_1.1) h).cell;
 let e:Bool:=decide (p_1.1<g);
  (0:Int)<=p_1.1/\p_1.1<=g/\List.all (List.take (Int.toNat p_1.1) o) (ad4 b c)=true->
  (e=true->
  ((0:Int)<=p_1.1/\p_1.1<g)/\
  (e0_2=true->(false,())=(L3 (RCode.mk a b c l o),()))/\
  (e0_2=false->
  ∃ (p':Int×Unit),
  (bif e1_2 then a else a)=a/\
  (bif e1_2 then b else b)=b/\
  (bif e1_2 then c else c)=c/\
  (bif e1_2 then l else l)=l/\
  (bif e1_2 then o else o)=o/\
  (bif e1_2 then f else f)=f/\
  (bif e1_2 then l else l)=l/\
  (bif e1_2 then d else d)=d/\
  (bif e1_2 then p.1 else p.1)=p.1/\
  (bif e1_2 then e3_1 else e3_1)=e3_1/\
  (bif e1_2 then o else o)=o/\
  (bif e1_2 then g else g)=g/\
  IntKind.i64.wrap ((bif e1_2 then p_1.1 else p_1.1)+(1:Int))=p'.1/\
  (bif e1_2 then a else a)=a/\
  (bif e1_2 then b else b)=b/\
  (bif e1_2 then c else c)=c/\
  (bif e1_2 then l else l)=l/\
  (bif e1_2 then o else o)=o/\
  (bif e1_2 then [a] else [a])=[a]/\
  ((0:Int)<=p'.1/\p'.1<=g/\List.all (List.take (Int.toNat p'.1) o) (ad4 b c)=true)/\
  List.length o-Int.toNat p'.1<List.length o-Int.toNat p_1.1))/\
  (e=false->(true,())=(L3 (RCode.mk a b c l o),()))))):=by kernel_rfl
theorem bG1 (n:Int) (l:List Int):(l.all λx=>decide (0<=x)&&decide (x<n))=H2 n l:=rfl
theorem aX8 {α:Type} {p:α->Bool} {l:List α} {k:Nat} (d:α) (a:k<l.length) (h:p (l.getD k d)=false):l.all p=false:=by rw [Bool.eq_false_iff];intro b;have:=cA7.1 b _ (F7 a d);rw [h] at this;cases this
theorem at0 {α:Type} {p:α->Bool} {l:List α} {k:Nat} (d:α) (a:k<l.length) (h:(l.take k).all p=true) (h2:p (l.getD k d)=true):(l.take (k+1)).all p=true:=by rw [A4 a d,List.all_append,h];simpa using h2
theorem bT9 (d a b:Int) (l:List RIns) (o:List Place) (K:-9223372036854775808<=a/\a<9223372036854775808):vc (EV [(92,cIn)]) (bq4 a b l o) Go.Proofs.Tryd.f60 cShaped (d,a,b,l,o,()):=by
 rw [bT8 d a b l o];intro m A B C D p q;have r:l.length<=140737488355328:=p.len;have s:o.length<=140737488355328:=q.len;have t:m=!(H2 4001 [d]&&H2 65 [a]&&decide (1<=a)&&decide (d<=b)&&decide (b<=8000)):=by
  show (((!H2 4001 [d])||!H2 64 [IntKind.i64.wrap (a-1)])||decide (b<d)||decide (b >8000))=_;have E:H2 64 [IntKind.i64.wrap (a-1)]=(H2 65 [a]&&decide (1<=a)):=by
   simp only [H2,List.all_cons,List.all_nil,Bool.and_true];by_cases h:a=-9223372036854775808
   .subst h;decide
   .rw [M1 (by omega) (by omega),Bool.eq_iff_iff];simp;omega
  have F:decide (b<d)=!decide (d<=b):=by rw [Bool.eq_iff_iff];simp
  have G:decide (b >8000)=!decide (b<=8000):=by rw [Bool.eq_iff_iff];simp
  rw [E,F,G];cases H2 4001 [d]<;>cases H2 65 [a]<;>cases decide (1<=a)<;>cases decide (d<=b)<;>rfl
 have H:L3 ⟨d,a,b,l,o⟩=(!m&&l.all (ae6 a b)&&o.all (ad4 a b)):=by rw [t,Bool.not_not];rfl
 clear_value m
 rw [H];dsimp only [A,B,C,D];simp only [true_and,and_true,Bool.cond_self,bG1];refine ⟨λh=>by rw [h];rfl,λh=>?_⟩;rw [h];simp only [Bool.not_false,Bool.true_and];refine ⟨⟨(0,()),rfl,Int.le_refl _,by dsimp only;omega,by simp⟩,?_⟩;rintro ⟨i,⟨⟩⟩ ⟨h0,h1,h2⟩;dsimp only at h0 h1 h2 |-;obtain ⟨k,rfl⟩:=cy3 h0;simp only [cy0] at h2 |-;have u:(⟨0,0,0,ins0⟩:RIns)=rins0:=rfl;rw [u];refine ⟨λc=>?_,λf=>?_⟩
 .have c:(k:Int)<l.length:=cy7 c;have no:ae6 a b (l.getD k rins0)=false->(false,())=(l.all (ae6 a b)&&o.all (ad4 a b),()):=λhf=>by rw [aX8 rins0 (by omega) hf];rfl
  have yes:ae6 a b (l.getD k rins0)=true->∃ p':Int×Unit,IntKind.i64.wrap ((k:Int)+1)=p'.1/\(0<=p'.1/\p'.1<=(l.length:Int)/\(l.take p'.1.toNat).all (ae6 a b)=true)/\l.length-p'.1.toNat<l.length-k:=λv=>
   ⟨((k+1:Nat),()),B3 (by omega) r,⟨by omega,by dsimp only;omega,by dsimp only;rw [cy0];exact at0 rins0 (by omega) h2 v⟩,by dsimp only;omega⟩
  generalize l.getD k rins0=x at no yes |-;refine ⟨⟨h0,c⟩,λe=>?_,λe=>?_⟩
  .have e:x.kind=0:=eq_of_beq e;have w:ae6 a b x=(H2 a x.ins.from_&&H2 a x.ins.to):=by simp only [ae6,if_pos e]
   rw [w] at no yes;refine ⟨λh3=>no ?_,λh3=>yes ?_⟩
   .revert h3;cases H2 a x.ins.from_<;>cases H2 a x.ins.to<;>simp
   .revert h3;cases H2 a x.ins.from_<;>cases H2 a x.ins.to<;>simp
  .have e:¬ x.kind=0:=by simpa using e
   refine ⟨λh3=>?_,λh3=>?_⟩
   .have h3:x.kind=1\/x.kind=2:=by
     by_cases h4:x.kind=1
     .exact .inl h4
     .right;rw [show (x.kind==1)=false from beq_eq_false_iff_ne.2 h4] at h3;exact eq_of_beq h3
    have w:ae6 a b x=(H2 a [x.slot]&&H2 b [x.cell]):=by simp only [ae6,if_neg e,if_pos h3]
    rw [w] at no yes;refine ⟨λh3=>no ?_,λh3=>yes ?_⟩
    .revert h3;cases H2 a [x.slot]<;>cases H2 b [x.cell]<;>simp
    .revert h3;cases H2 a [x.slot]<;>cases H2 b [x.cell]<;>simp
   .have h3:¬ (x.kind=1\/x.kind=2):=by
     rintro (h4|h4)
     .rw [h4] at h3;cases h3
     .rw [h4] at h3;cases h3
    exact no (by simp only [ae6,if_neg e,if_neg h3])
 .have e:k=l.length:=by have:¬ (k:Int)<l.length:=cy6 f;omega
  subst e;rw [cA5] at h2;rw [h2];simp only [Bool.true_and];refine ⟨⟨(0,()),rfl,Int.le_refl _,by dsimp only;omega,by simp⟩,?_⟩;rintro ⟨i,⟨⟩⟩ ⟨y,I,g⟩;dsimp only at y I g |-;obtain ⟨j,rfl⟩:=cy3 y;simp only [cy0] at g |-;have u:(⟨false,0⟩:Place)=place0:=rfl;rw [u];refine ⟨λc=>?_,λf=>?_⟩
  .have c:(j:Int)<o.length:=cy7 c;have z:∀ x:Place,H2 (bif x.cell then b else a) [x.n]=ad4 a b x:=λx=>by
    unfold ad4;cases x.cell<;>rfl
   rw [z];refine ⟨⟨y,c⟩,λhf=>?_,λv=>⟨((j+1:Nat),()),B3 (by omega) s,⟨by omega,by dsimp only;omega,?_⟩,by dsimp only;omega⟩⟩
   .rw [aX8 place0 (by omega) (Bool.not_eq_true' _▸hf)]
   .dsimp only;rw [cy0];exact at0 place0 (by omega) g (Bool.not_eq_false' _▸v)
  .have J:j=o.length:=by have:¬ (j:Int)<o.length:=cy6 f;omega
   subst J;rw [cA5] at g;rw [g]
theorem bh7:D0 prog RG 60 cShaped:=E5 (A5 cd0 C0) (λp=>bq4 p.2.1 p.2.2.1 p.2.2.2.1 p.2.2.2.2.1) (by kernel_rfl) (by kernel_rfl) (by kernel_rfl) λ(a,b,c,l,o,()) d=>bT9 a b c l o d
abbrev Holds:=List (Place×Int)
def getF (m:Holds) (n:Int):Int:=(mget eqP m ⟨false,n⟩).getD 0
def cGetF:Con RU:=⟨[one,one],[i64,mapP],[.d 0,.ptr 0 0],[.box 83 [.map 1],.map 1],none,none,[one],[i64,mapP],[.d 0],[.box 83 [.map 1],.map 1],λp=>(getF p.2.1 p.1,p.2),[0,1],[],[]⟩
def cNewF:Con RU:=⟨[one,one,one],[i64,i64,mapP],[.d 0,.ptr 0 0,.ptr 1 0],[.box 3 [.d 1],.box 83 [.map 2],.map 2],some λp=>0<=p.2.1/\p.2.1<=4611686018427387904,none,[one],[i64,i64,mapP],[.d 0],[.box 3 [.d 1],.box 83 [.map 2],.map 2],
 λp=>(p.2.1,p.2.1+1,mput eqP p.2.2.1 ⟨false,p.1⟩ p.2.1,()),[1],[],[]⟩
def bq5 (s:List Int×Int×Holds) (n:Int):List Int×Int×Holds:=(s.1++[s.2.1],s.2.1+1,mput eqP s.2.2 ⟨false,n⟩ s.2.1)
def G3 (nx:Int) (m:Holds) (l:List Int):List Int×Int×Holds:=l.foldl bq5 ([],nx,m)
def cCalledF:Con RU:=⟨[(true,5),one,one],[i64,i64,ints,ints,inss,i64,mapP],[.d 0,.d 1,.d 2,.d 3,.d 4,.clo 90 [0,1],.clo 91 [1]],[.box 3 [.d 5],.box 83 [.map 2],.map 6],some λp=>ah4 p.2.2.1 p.2.2.2.1 p.2.2.2.2.1=true/\0<=p.2.2.2.2.2.1/\p.2.2.2.2.2.1<=2305843009213693952,none,
 [(true,5)],[i64,i64,ints,ints,inss,i64,mapP],[.d 0,.d 1,.d 2,.d 3,.d 4],[.box 3 [.d 5],.box 83 [.map 2],.map 6],
 λp=>(p.1,p.2.1,(G3 p.2.2.2.2.2.1 p.2.2.2.2.2.2.1 p.2.2.1).1,p.2.2.2.1.map (getF p.2.2.2.2.2.2.1),p.2.2.2.2.1,(G3 p.2.2.2.2.2.1 p.2.2.2.2.2.2.1 p.2.2.1).2.1,(G3 p.2.2.2.2.2.1 p.2.2.2.2.2.2.1 p.2.2.1).2.2,()),[1],[],[]⟩
def aX9 (x1 x2:Int) (x3 x4:List Int) (x5:List Ins) (nx:Int) (m:Holds):Nat->St RU->Ann RU:=λk s=>match k with
 |0=>⟨[],[.slot 20,.row 896],[i64,inss],λp=>0<=p.1/\p.1<=x4.length/\p.2.1=[⟨x1,x2,x3,(x4.take p.1.toNat).map (getF m)++x4.drop p.1.toNat,x5⟩],λp=>x4.length-p.1.toNat,[]⟩
 |_=>⟨[],[.slot 36,.row 896,.box 1000000 0,.row 1000002],[i64,inss,i64,mapP],λp=>0<=p.1/\p.1<=x3.length/\p.2.1=[⟨x1,x2,(G3 nx m (x3.take p.1.toNat)).1++x3.drop p.1.toNat,x4.map (getF m),x5⟩]/\p.2.2.1=(G3 nx m (x3.take p.1.toNat)).2.1/\p.2.2.2.1=(G3 nx m (x3.take p.1.toNat)).2.2,λp=>x3.length-p.1.toNat,[]⟩
theorem co9 (n:Int) (m:Holds):vc (EV []) noL Go.Proofs.Tryd.f91 cGetF (n,m,())=((Option.getD (mget (F6 RU (Ty.user (2:Nat))) m (Place.mk false n)) (0:Int),m,())=(getF m n,m,())):=by kernel_rfl
theorem cp0 (n nx:Int) (m:Holds):vc (EV []) noL Go.Proofs.Tryd.f90 cNewF (n,nx,m,())=(
 let a:Int:=IntKind.i64.wrap (nx+(1:Int));
  (IntKind.i64.wrap (a-(1:Int)),a,mput (F6 RU (Ty.user (2:Nat))) m (Place.mk false n) nx,())=(nx,nx+(1:Int),mput eqP m (Place.mk false n) nx,())):=by kernel_rfl
theorem bG2 (c d:Int) (a e:List Int) (b:List Ins) (nx:Int) (m:Holds):vc (EV [(96,cBody),(91,cGetF),(90,cNewF)]) (aX9 c d a e b nx m) Go.Proofs.Tryd.f73 cCalledF (c,d,a,e,b,nx,m,())=(
 let j:Ins:=Ins.mk (0:Int) (0:Int) [] [] [];
 let g:List Ins:=[Ins.mk c d a e b];
 let h:Int:=(↑(List.length e):Int);
  Small RU (Sigma.mk (Ty.slice (3:Nat) (Ty.int IntKind.i64)) a)->
  Small RU (Sigma.mk (Ty.slice (3:Nat) (Ty.int IntKind.i64)) e)->
  Small RU (Sigma.mk (Ty.slice (52:Nat) (Ty.user (0:Nat))) b)->
  (List.length g<=(1599289640354:Nat)/\K0 g=true)/\
  ((0:Int)<=(0:Int)/\(0:Int)<(↑(List.length g):Int))/\
  (∃ (p:Int×List Ins×Unit),
  c=c/\
  d=d/\
  a=a/\
  e=e/\
  b=b/\
  (0:Int)=(0:Int)/\
  h=h/\
  (0:Int)=p.1/\
  nx=nx/\
  m=m/\
  c=c/\
  d=d/\
  a=a/\
  e=e/\
  b=b/\
  (0:Int)=(0:Int)/\
  (0:Int)=(0:Int)/\
  g=g/\
  g=p.2.1/\
  c=c/\
  d=d/\
  (0:Int)=(0:Int)/\
  (0:Int)=(0:Int)/\
  b=b/\
  (0:Int)<=p.1/\
  p.1<=h/\p.2.1=[Ins.mk c d a (List.map (getF m) (List.take (Int.toNat p.1) e)++List.drop (Int.toNat p.1) e) b])/\
  ∀ (p:Int×List Ins×Unit),
 let e0_1:Ins:=List.getD p.2.1 (0:Nat) j;
 let e1_1:Bool:=decide (p.1<h);
 let e2_1:Int:=p.1;
 let f:List Ins:=p.2.1;
 let i:Int:=(↑(List.length e0_1.to):Int);
  (0:Int)<=e2_1/\e2_1<=h/\f=[Ins.mk c d a (List.map (getF m) (List.take (Int.toNat e2_1) e)++List.drop (Int.toNat e2_1) e) b]->
  (e1_1=true->
  ((0:Int)<=e2_1/\e2_1<(↑(List.length e0_1.from_):Int))/\
  (True/\m=m/\True)/\
  ((0:Int)<=e2_1/\e2_1<(↑(List.length e0_1.from_):Int))/\
  ∃ (p':Int×List Ins×Unit),
  c=c/\
  d=d/\
  a=a/\
  e=e/\
  b=b/\
  (0:Int)=(0:Int)/\
  h=h/\
  IntKind.i64.wrap (e2_1+(1:Int))=p'.1/\
  nx=nx/\
  m=m/\
  c=c/\
  d=d/\
  a=a/\
  e=e/\
  b=b/\
  (0:Int)=(0:Int)/\
  (0:Int)=(0:Int)/\
  g=g/\
  List.set f (0:Nat)
  (Ins.mk e0_1.op e0_1.n e0_1.to (List.set e0_1.from_ (Int.toNat e2_1) (getF m (List.getD e0_1.from_ (Int.toNat e2_1) (0:Int))))
  e0_1.body)=
  p'.2.1/\
  c=c/\
  d=d/\
  (0:Int)=(0:Int)/\
  (0:Int)=(0:Int)/\
  b=b/\
  ((0:Int)<=p'.1/\
  p'.1<=h/\
  p'.2.1=
  [Ins.mk c d a (List.map (getF m) (List.take (Int.toNat p'.1) e)++List.drop (Int.toNat p'.1) e) b])/\
  List.length e-Int.toNat p'.1<List.length e-Int.toNat e2_1)/\
  (e1_1=false->
  (∃ (p:Int×List Ins×Int×List (Place×Int)×Unit),
  c=c/\
  d=d/\
  a=a/\
  e=e/\
  b=b/\
  (0:Int)=(0:Int)/\
  h=h/\
  e2_1=e2_1/\
  e1_1=e1_1/\
  (0:Int)=(0:Int)/\
  i=i/\
  (0:Int)=p.1/\
  nx=p.2.2.1/\
  m=p.2.2.2.1/\
  c=c/\
  d=d/\
  a=a/\
  e=e/\
  b=b/\
  (0:Int)=(0:Int)/\
  (0:Int)=(0:Int)/\
  g=g/\
  f=p.2.1/\
  c=c/\
  d=d/\
  (0:Int)=(0:Int)/\
  (0:Int)=(0:Int)/\
  b=b/\
  (0:Int)<=p.1/\
  p.1<=(↑(List.length a):Int)/\
  p.2.1=
  [Ins.mk c d ((G3 nx m (List.take (Int.toNat p.1) a)).1++List.drop (Int.toNat p.1) a)
  (List.map (getF m) e) b]/\
  p.2.2.1=(G3 nx m (List.take (Int.toNat p.1) a)).2.1/\
  p.2.2.2.1=(G3 nx m (List.take (Int.toNat p.1) a)).2.2)/\
  ∀ (p:Int×List Ins×Int×List (Place×Int)×Unit),
 let e0_2:Int:=p.2.2.1;
 let e1_2:Ins:=List.getD p.2.1 (0:Nat) j;
 let e2_2:List (Place×Int):=p.2.2.2.1;
 let f:Int:=p.1;
 let e4_1:List Ins:=p.2.1;
 let k:Bool:=decide (f<i);
 let l:Int×List (Place×Int):=(G3 nx m (List.take (Int.toNat f) a)).2;
  (0:Int)<=f/\
  f<=(↑(List.length a):Int)/\
  e4_1=[Ins.mk c d ((G3 nx m (List.take (Int.toNat f) a)).1++List.drop (Int.toNat f) a) (List.map (getF m) e) b]/\e0_2=l.1/\e2_2=l.2->
  (k=true->
  ((0:Int)<=f/\f<(↑(List.length e1_2.to):Int))/\
  (((0:Int)<=e0_2/\e0_2<=(4611686018427387904:Int))/\True)/\
  ((0:Int)<=f/\f<(↑(List.length e1_2.to):Int))/\
  ∃ (p':Int×List Ins×Int×List (Place×Int)×Unit),
  c=c/\
  d=d/\
  a=a/\
  e=e/\
  b=b/\
  (0:Int)=(0:Int)/\
  h=h/\
  e2_1=e2_1/\
  e1_1=e1_1/\
  (0:Int)=(0:Int)/\
  i=i/\
  IntKind.i64.wrap (f+(1:Int))=p'.1/\
  e0_2+(1:Int)=p'.2.2.1/\
  mput eqP e2_2 (Place.mk false (List.getD e1_2.to (Int.toNat f) (0:Int))) e0_2=p'.2.2.2.1/\
  c=c/\
  d=d/\
  a=a/\
  e=e/\
  b=b/\
  (0:Int)=(0:Int)/\
  (0:Int)=(0:Int)/\
  g=g/\
  List.set e4_1 (0:Nat) (Ins.mk e1_2.op e1_2.n (List.set e1_2.to (Int.toNat f) e0_2) e1_2.from_ e1_2.body)=
  p'.2.1/\
  c=c/\
  d=d/\
  (0:Int)=(0:Int)/\
  (0:Int)=(0:Int)/\
  b=b/\
  ((0:Int)<=p'.1/\
  p'.1<=(↑(List.length a):Int)/\
  p'.2.1=
  [Ins.mk c d
  ((G3 nx m (List.take (Int.toNat p'.1) a)).1++List.drop (Int.toNat p'.1) a)
  (List.map (getF m) e) b]/\
  p'.2.2.1=(G3 nx m (List.take (Int.toNat p'.1) a)).2.1/\
  p'.2.2.2.1=(G3 nx m (List.take (Int.toNat p'.1) a)).2.2)/\
  List.length a-Int.toNat p'.1<List.length a-Int.toNat f)/\
  (k=false->
  (c,d,e1_2.to,e1_2.from_,b,e0_2,e2_2,())=(c,d,(G3 nx m a).1,List.map (getF m) e,b,(G3 nx m a).2.1,(G3 nx m a).2.2,())))):=by kernel_rfl
theorem cp1 (n:Int) (m:Holds):vc (EV []) noL Go.Proofs.Tryd.f91 cGetF (n,m,()):=by rw [co9 n m];rfl
theorem bG3:D0 prog RG 91 cGetF:=E5 C0 (λ_=>noL) (by kernel_rfl) (by kernel_rfl) (by kernel_rfl) λ(n,m,()) _=>cp1 n m
theorem cp2 (n nx:Int) (m:Holds) (a:0<=nx/\nx<=4611686018427387904):vc (EV []) noL Go.Proofs.Tryd.f90 cNewF (n,nx,m,()):=by rw [cp0 n nx m];dsimp only;rw [M1 (n:=nx+1) (by omega) (by omega),show nx+1-1=nx by omega,M1 (by omega) (by omega)];rfl
theorem bG4:D0 prog RG 90 cNewF:=E5 C0 (λ_=>noL) (by kernel_rfl) (by kernel_rfl) (by kernel_rfl) λ(n,nx,m,()) a=>cp2 n nx m a
theorem bq6 (nx:Int) (m:Holds) (l:List Int) (x:Int):G3 nx m (l++[x])=bq5 (G3 nx m l) x:=by simp [G3]
theorem ad5 (nx:Int) (m:Holds) (l:List Int):(G3 nx m l).1.length=l.length/\(G3 nx m l).2.1=nx+l.length:=by
 have key:∀ (l:List Int) (s:List Int×Int×Holds),(l.foldl bq5 s).1.length=s.1.length+l.length/\(l.foldl bq5 s).2.1=s.2.1+l.length:=by
  intro l
  induction l with
  |nil=>intro s;simp
  |cons x r ih=>intro s;have:=ih (bq5 s x);simp only [List.foldl_cons,cz3,bq5,cz8,List.length_nil] at this |-;omega
 have:=key l ([],nx,m);simpa [G3] using this
theorem bG5 (g h:Int) (a c:List Int) (f:List Ins) (nx:Int) (m:Holds) (t:ah4 a c f=true/\0<=nx/\nx<=2305843009213693952):vc (EV [(96,cBody),(91,cGetF),(90,cNewF)]) (aX9 g h a c f nx m) Go.Proofs.Tryd.f73 cCalledF (g,h,a,c,f,nx,m,()):=by
 rw [bG2 g h a c f nx m];intro u v w j n _;have o:a.length<=140737488355328:=j.len;have p:c.length<=140737488355328:=n.len;dsimp only [u,v,w];simp only [true_and,and_true];refine ⟨⟨by simp,?_⟩,⟨by omega,by simp⟩,⟨(0,_,()),rfl,rfl,Int.le_refl _,by dsimp only;omega,by simp⟩,?_⟩
 .simp only [K0,Bool.and_true];exact (W4 _).2 (ak9.1 t.1)
 rintro ⟨i,l,⟨⟩⟩ ⟨h0,h1,h2⟩;dsimp only at h0 h1 h2 |-;subst h2;obtain ⟨k,rfl⟩:=cy3 h0;simp only [cy0,List.getD_cons_zero,List.set_cons_zero];have e:((c.take k).map (getF m)).length=k:=by simp;omega
 refine ⟨λb=>?_,λd=>?_⟩
 .have b:(k:Int)<c.length:=cy7 b;rw [ak8 e (by omega),aX6 e (by omega),aX7 e (by omega)];refine ⟨⟨h0,b⟩,⟨h0,b⟩,((k+1:Nat),[⟨g,h,a,(c.take (k+1)).map (getF m)++c.drop (k+1),f⟩],()),B3 (by omega) p,?_,⟨by omega,by dsimp only;omega,by dsimp only;rw [cy0]⟩,by dsimp only;omega⟩;dsimp only;rw [A4 (by omega) 0,List.map_append];rfl
 have q:k=c.length:=by have:¬ (k:Int)<c.length:=cy6 d;omega
 subst q;simp only [cA5,List.drop_length,List.append_nil];clear h0 h1 d e;refine ⟨⟨(0,_,nx,m,()),rfl,rfl,rfl,rfl,Int.le_refl _,by dsimp only;omega,by simp [G3],by simp [G3],by simp [G3]⟩,?_⟩;rintro ⟨i,l,nx2,x,⟨⟩⟩ ⟨h0,h1,h2,h3,h4⟩;dsimp only at h0 h1 h2 h3 h4 |-;subst h2 h3 h4;obtain ⟨k,rfl⟩:=cy3 h0;simp only [cy0,List.getD_cons_zero,List.set_cons_zero];have s:=ad5 nx m (a.take k);have e:(G3 nx m (a.take k)).1.length=k:=by rw [s.1,cA6];omega
 have hB:(G3 nx m (a.take k)).2.1=nx+k:=by rw [s.2,cA6];omega
 refine ⟨λb=>?_,λd=>?_⟩
 .have b:(k:Int)<a.length:=cy7 b;rw [ak8 e (by omega),aX6 e (by omega),aX7 e (by omega)];have r:G3 nx m (a.take (k+1))=bq5 (G3 nx m (a.take k)) (a.getD k 0):=by rw [A4 (by omega) 0,bq6]
  refine ⟨⟨h0,b⟩,⟨by rw [hB];omega,by rw [hB];omega⟩,⟨h0,b⟩,((k+1:Nat),[⟨g,h,(G3 nx m (a.take (k+1))).1++a.drop (k+1),c.map (getF m),f⟩],(G3 nx m (a.take (k+1))).2.1,(G3 nx m (a.take (k+1))).2.2,()),B3 (by omega) o,?_,?_,?_,⟨by omega,by dsimp only;omega,by dsimp only;rw [cy0],by dsimp only;rw [cy0],by dsimp only;rw [cy0]⟩,by dsimp only;omega⟩
  .dsimp only;rw [r];rfl
  .dsimp only;rw [r];rfl
  .dsimp only;rw [r];rfl
 .have q:k=a.length:=by have:¬ (k:Int)<a.length:=cy6 d;omega
  subst q;simp only [cA5,List.drop_length,List.append_nil]
theorem aY0:D0 prog RG 73 cCalledF:=E5 (A5 aQ8 (A5 bG3 (A5 bG4 C0))) (λp=>aX9 p.1 p.2.1 p.2.2.1 p.2.2.2.1 p.2.2.2.2.1 p.2.2.2.2.2.1 p.2.2.2.2.2.2.1) (by kernel_rfl) (by kernel_rfl) (by kernel_rfl) λ(a,b,c,d,e,nx,m,()) f=>bG5 a b c d e nx m f
abbrev SF:=Holds×List Ins×Int
def L7 (s:SF) (x:RIns):SF×Bool:=
 bif x.kind==0 then
  (bif x.ins.from_.all (isP (s.1,())) then (((G3 s.2.2 s.1 x.ins.to).2.2,s.2.1++[⟨x.ins.op,x.ins.n,(G3 s.2.2 s.1 x.ins.to).1,x.ins.from_.map (getF s.1),x.ins.body⟩],(G3 s.2.2 s.1 x.ins.to).2.1),true) else (s,false))
 else match mget eqP s.1 (bif x.kind==2 then ⟨false,x.slot⟩ else ⟨true,x.cell⟩) with
  |none=>(s,false)
  |some n=>((mput eqP s.1 (bif x.kind==2 then ⟨true,x.cell⟩ else ⟨false,x.slot⟩) n,s.2),true)
def J5:List RIns->SF->SF×Bool
 |[],s=>(s,true)
 |x::r,s=>bif (L7 s x).2 then J5 r (L7 s x).1 else (s,false)
def T7 (m:Holds):List Place->List Int×Bool
 |[]=>([],true)
 |p::r=>match mget eqP m p with
  |none=>([],false)
  |some n=>(n::(T7 m r).1,(T7 m r).2)
def S4 (n:Nat):Holds:=(List.range n).foldl (λ(m:Holds) (i:Nat)=>mput eqP m ⟨true,(i:Int)⟩ (i:Int)) []
def H0 (a:Int):SF:=(S4 a.toNat,[],a)
def C6 (c:RCode):VFun×Bool:=
 bif (J5 c.code (H0 c.params)).2 then (⟨c.params,(J5 c.code (H0 c.params)).1.2.1,(T7 (J5 c.code (H0 c.params)).1.1 c.out).1,[]⟩,(T7 (J5 c.code (H0 c.params)).1.1 c.out).2)
 else (⟨c.params,(J5 c.code (H0 c.params)).1.2.1,[],[]⟩,false)
def W7 (l:List RIns):Bool:=l.all λx=>aI8 x.ins
def cFollow:Con RU:=con [(true,5)] bP3 [(true,4),one] [i64,inss,ints,ints,.bool] [false,false,false,false,false] (some λp=>0<=p.1/\p.1<=4000/\p.2.2.2.1.length<=16000/\W7 p.2.2.2.1=true/\p.2.2.2.2.1.length<=17592186044400) λp=>
 ((C6 ⟨p.1,p.2.1,p.2.2.1,p.2.2.2.1,p.2.2.2.2.1⟩).1.params,(C6 ⟨p.1,p.2.1,p.2.2.1,p.2.2.2.1,p.2.2.2.2.1⟩).1.code,(C6 ⟨p.1,p.2.1,p.2.2.1,p.2.2.2.1,p.2.2.2.2.1⟩).1.out,(C6 ⟨p.1,p.2.1,p.2.2.1,p.2.2.2.1,p.2.2.2.2.1⟩).1.at_,(C6 ⟨p.1,p.2.1,p.2.2.1,p.2.2.2.1,p.2.2.2.2.1⟩).2,())
def bq7 (a:Int) (code:List RIns) (out:List Place):Nat->St RU->Ann RU:=λk s=>match k with
 |0=>⟨[],[.slot 21,.row 1152],[i64,mapP],λp=>0<=p.1/\p.1<=a/\p.2.1=S4 p.1.toNat,λp=>a.toNat-p.1.toNat,[]⟩
 |1=>⟨[],[.slot 37,.row 1152,.box 448 0,.row 900001],[i64,mapP,i64,inss],λp=>0<=p.1/\p.1<=code.length/\J5 (code.take p.1.toNat) (H0 a)=((p.2.1,p.2.2.2.1,p.2.2.1),true),λp=>code.length-p.1.toNat,[(.box 384 1,900001,52,.user 0)]⟩
 |_=>⟨[],[.slot 88,.row 900002],[i64,ints],λp=>0<=p.1/\p.1<=out.length/\T7 (J5 code (H0 a)).1.1 (out.take p.1.toNat)=(p.2.1,true),λp=>out.length-p.1.toNat,[(.box 384 2,900002,3,i64)]⟩
def O2 (c:RCode):Int:=
 if 16000<c.code.length then 3 else if L3 c=false then 2 else if (c.code.all λx=>x.kind !=0||D8 x.ins.to)=false then 5 else if (C6 c).2=false then 4 else 0
def cValid:Con RU:=con [(true,5)] bP3 [one] [i64] [false] (some λp=>-9223372036854775808<=p.2.1/\p.2.1<9223372036854775808/\W7 p.2.2.2.1=true/\p.2.2.2.2.1.length<=17592186044400) λp=>(O2 ⟨p.1,p.2.1,p.2.2.1,p.2.2.2.1,p.2.2.2.2.1⟩,())
def bU0 (code:List RIns):Nat->St RU->Ann RU:=λk s=>match k with
 |0=>⟨[],[.slot 19],[i64],λp=>0<=p.1/\p.1<=code.length/\((code.take p.1.toNat).all λx=>x.kind !=0||D8 x.ins.to)=true,λp=>code.length-p.1.toNat,[]⟩
 |_=>⟨[],[.slot 27],[i64],λp=>0<=p.1/\p.1<=(code.getD (s.intAt 19).toNat rins0).ins.to.length/\((code.getD (s.intAt 19).toNat rins0).kind≠0\/D8 ((code.getD (s.intAt 19).toNat rins0).ins.to.take p.1.toNat)=true),λp=>(code.getD (s.intAt 19).toNat rins0).ins.to.length-p.1.toNat,[]⟩
def J3 (a:Int) (l:List Ins):Int:=l.foldl (λn x=>n+x.to.length) a
def N4 (c:RCode):VFun×Int:=
 if O2 c≠0 then (bP0,O2 c) else if 4000<J3 c.params (C6 c).1.code\/4000<(C6 c).1.code.length then (bP0,9) else ((C6 c).1,0)
def cBack:Con RU:=con [(true,5)] bP3 [(true,4),one] [i64,inss,ints,ints,i64] [false,false,false,false,false] (some λp=>-9223372036854775808<=p.2.1/\p.2.1<9223372036854775808/\W7 p.2.2.2.1=true/\p.2.2.2.2.1.length<=17592186044400) λp=>
 ((N4 ⟨p.1,p.2.1,p.2.2.1,p.2.2.2.1,p.2.2.2.2.1⟩).1.params,(N4 ⟨p.1,p.2.1,p.2.2.1,p.2.2.2.1,p.2.2.2.2.1⟩).1.code,(N4 ⟨p.1,p.2.1,p.2.2.1,p.2.2.2.1,p.2.2.2.2.1⟩).1.out,(N4 ⟨p.1,p.2.1,p.2.2.1,p.2.2.2.1,p.2.2.2.2.1⟩).1.at_,(N4 ⟨p.1,p.2.1,p.2.2.1,p.2.2.2.1,p.2.2.2.2.1⟩).2,())
def cp3 (a:Int) (code:List Ins):Nat->St RU->Ann RU:=λk s=>⟨[],[.slot 26,.slot 7],[i64,i64],λp=>0<=p.1/\p.1<=code.length/\p.2.1=J3 a (code.take p.1.toNat),λp=>code.length-p.1.toNat,[]⟩
end Go.Rg
end
