/-
What the last text of this claim uses: VtBr, RgSpec, RgBase, RgH, RgA, RgEq1, RgB, RgC, RgEq2, RgD, RgE, RgEq3, RgF, RgG, RgEq4, RgI, RgJ, RgEq5, RgK, RgL, RgM, RgN, RgO, RgP, RgEq6, RgQ, RgR, RgU, RgZ, RgBa, RgEq11, RgBb, RgBc, RgEq12, RgBd, RgBe, RgEq13, RgBf, RgBg, RgBh.
-/
import Derived.Test.YtknhkhdbonjhgaaDoorV3
import Derived.LaidMore
import Derived.OpenShut
import Derived.ProofKit
import Derived.Laws.Bits
import Derived.Test.YtknhkhdbonjhgaaDoorProg
import Derived.KernelRfl
set_option linter.unusedVariables false
set_option linter.unusedSimpArgs false
set_option maxRecDepth 100000
noncomputable section
section
namespace Go.VT
open Go.WideShapes Go.ChangeShapes
noncomputable section
variable {U:Univ} {H:Type} {enc:TypeId×Value->H} {P:Program} {w:World} {base:Nat} {sp:Nat->Bool} {held:Bool}
def br3 (P:Program) (U:Univ) (L:List (TypeId×Ty)):Prop:=∀ t ty,(t,ty)∈L->match ty with
 | .int k=>P.underlying t=some (.int k)
 | .bool=>P.underlying t=some .bool
 | .slice e t'=>P.underlying t=some (.slice e)/\P.cellsOf e=szOf U t'/\0<P.cellsOf e/\0<P.bytesOf e/\(e,t')∈L
 | .user i=>∃ fs,P.underlying t=some (.struct fs)/\P.cellsOf t=(U.fields i).length/\
   ∀ (j:Nat) (ty':Ty),(U.fields i)[j]? =some ty'->∃ (q:Nat) (f:Field) (ty:Ty),fs[q]? =some f/\(f.type,ty)∈L/\f.offset<=j/\P.cellsOf f.type=szOf U ty/\f.offset+szOf U ty<=(U.fields i).length/\(tysE U ty)[j-f.offset]? =some ty'
 |_=>False
theorem bH0 {α:Type} {Q:Nat->α->Prop}:∀ (n:Nat),(∀ i,i<n->∃ x,Q i x)->∃ l:List α,l.length=n/\∀ i x,l[i]? =some x->Q i x
 |0,_=>⟨[],rfl,λi x h=>by simp at h⟩
 |n+1,h=>by
  obtain ⟨l,h1,h2⟩:=bH0 n (λi c=>h i (by omega));obtain ⟨x,d⟩:=h n (by omega);refine ⟨l++[x],by simp [h1],λi y a=>?_⟩;rw [List.getElem?_append] at a;split at a
  .exact h2 i y a
  .rename_i c;have b:i=n:=by
    have:=(cn9.1 a).1;simp at this;omega
   subst b;simp [h1] at a;subst a;exact d
theorem bh8:∀ (ts:List Ty) (Q:Nat->Datum U->Prop),(∀ (j:Nat) (ty:Ty),ts[j]? =some ty->∃ x:den U.T ty,Q j ⟨ty,x⟩)->∃ c:Dens U.T ts,∀ (j:Nat) (d:Datum U),(A7 U ts c)[j]? =some d->Q j d
 |[],Q,_=>⟨(),λj d h=>by simp [A7] at h⟩
 |t::ts,Q,h=>by
  obtain ⟨x,b⟩:=h 0 t rfl;obtain ⟨c,hc⟩:=bh8 ts (λj d=>Q (j+1) d) (λj ty e=>h (j+1) ty e);refine ⟨(x,c),λj d a=>?_⟩;cases j with
  |zero=>simp only [A7,co2,cn4] at a;subst a;exact b
  |succ j=>exact hc j d (by simpa [A7] using a)
theorem ae1 {ty:Ty} (h:G7 ty=false) (x:den U.T ty):B1 U ty x=[⟨ty,x⟩]:=by
 cases ty<;>first|rfl|simp [G7] at h
theorem bh9 (U:Univ) (ty:Ty):(tysE U ty).length=szOf U ty:=by cases ty<;>rfl
theorem aE9:∀ (ts:List Ty) (c:Dens U.T ts) {j:Nat} {d:Datum U} {t:Ty},(A7 U ts c)[j]? =some d->ts[j]? =some t->d.1=t
 |[],_,j,d,t,h,_=>by simp [A7] at h
 |t0::ts,c,0,d,t,h,h2=>by simp only [A7,co2,cn4] at h h2;rw [<-h,<-h2]
 |t0::ts,c,j+1,d,t,h,h2=>aE9 ts c.2 (j:=j) (by simpa [A7] using h) (by simpa using h2)
theorem bv9 (ty:Ty) (x:den U.T ty) {j:Nat} {d:Datum U} {t:Ty} (h:(B1 U ty x)[j]? =some d) (h2:(tysE U ty)[j]? =some t):d.1=t:=by
 cases a:G7 ty with
 |true=>
  cases ty with
  |user i=>exact aE9 _ _ h h2
  |_=>simp [G7] at a
 |false=>
  rw [ae1 a] at h;cases ty with
  |user i=>simp [G7] at a
  |_=>
   cases j with
   |zero=>simp only [tysE,co2,cn4] at h h2;rw [<-h,<-h2]
   |succ j=>simp at h
theorem ak8 {e:TypeId}:∀ {ds:List (DataW H)} {d:DataW H} {n:Nat},d∈ds->n∈d.weights P e->n∈DataW.weightsAll P e ds
 |[],_,_,h,_=>by simp at h
 |x::r,d,n,h,a=>by
  simp only [DataW.weightsAll,cq1];rcases List.mem_cons.1 h with rfl|h
  .exact .inl a
  .exact .inr (ak8 h a)
theorem ae2:∀ {ts:List TypeId} {ds:List (DataW H)} {j:Nat} {t:TypeId} {d:DataW H} {n:Nat},ts[j]? =some t->ds[j]? =some d->n∈d.weights P t->n∈DataW.weightsEach P ts ds
 |[],_,_,_,_,_,h,_,_=>by simp at h
 |_::_,[],_,_,_,_,_,h,_=>by simp at h
 |t0::ts,b::ds,j,t,d,n,h1,h2,a=>by
  simp only [DataW.weightsEach,cq1];cases j with
  |zero=>simp only [co2,cn4] at h1 h2;subst h1;subst h2;exact .inl a
  |succ j=>exact .inr (ae2 (by simpa using h1) (by simpa using h2) a)
theorem bH1 (g o i j:Nat):((⟨g,o,none⟩:Addr).add i).add j=⟨g,o+i+j,none⟩:=by unfold Addr.add;by_cases a:i=0<;>by_cases b:j=0<;>simp [a,b]
inductive Light (P:Program):Datum U->Prop
 |int (k:IntKind) (n:Int):Light P ⟨.int k,n⟩
 |bool (b:Bool):Light P ⟨.bool,b⟩
 |slice (e:TypeId) (t:Ty) (l:List (den U.T t)) (h:l.length*P.bytesOf e<=reachBytes) (hr:∀ x∈l,∀ d∈B1 U t x,Light P d):Light P ⟨.slice e t,l⟩
def RepW (P:Program) (w:World) (d:Datum U) (u:Value):Prop:=Rep U w (λ_=>False) d u/\Light P d
theorem ao8 {L:List (TypeId×Ty)} (hL:br3 P U L):∀ (fuel:Nat) {t:TypeId} {ty:Ty} {cs:List Value} {d:DataW H} {p:List MemPlace},(t,ty)∈L->DataW.trod enc P w base sp held fuel t cs=some (d,p)->
  (∀ n∈d.weights P t,n<=reachBytes)->∃ x:den U.T ty,cs.length=szOf U ty/\(∀ v∈cs,v.oneCell'=true)/\∀ (j:Nat) (dd:Datum U) (u:Value),(B1 U ty x)[j]? =some dd->cs[j]? =some u->RepW P w dd u
 |0,t,ty,cs,d,p,_,h,_=>by simp [DataW.trod] at h
 |fuel+1,t,ty,cs,d,p,hm,h,hw=>by
  have m:=hL t ty hm;have one:∀ {ty:Ty} {x:den U.T ty} {v:Value},G7 ty=false->RepW P w ⟨ty,x⟩ v->∀ (j:Nat) (dd:Datum U) (u:Value),(B1 U ty x)[j]? =some dd->[v][j]? =some u->RepW P w dd u:=by
   intro ty x v A hr j dd u h1 h2;rw [ae1 A] at h1;cases j with
   |zero=>simp only [co2,cn4] at h1 h2;subst h1;subst h2;exact hr
   |succ j=>simp at h1
  cases ty with
  |int k=>obtain ⟨n,rfl,_,_⟩:=DataW.trod_int m h;exact ⟨n,rfl,by simp [Value.oneCell'],one rfl ⟨.int k n,.int k n⟩⟩
  |bool=>obtain ⟨b,rfl,_⟩:=DataW.trod_bool m h;exact ⟨b,rfl,by simp [Value.oneCell'],one rfl ⟨.bool b,.bool b⟩⟩
  |str=>exact m.elim
  |map _ _=>exact m.elim
  |ifc _=>exact m.elim
  |slice e t'=>
   obtain ⟨A,hc,hc0,hb0,hm'⟩:=m;rcases DataW.trod_slice A h with ⟨rfl,_⟩|⟨a,len,cap,elems,rest,n,hf,rfl,s,_,hl,_,y,D,_,_⟩
   .exact ⟨[],rfl,by simp [Value.oneCell'],one rfl ⟨.nil e t' none 0,.slice e t' [] (by simp [reachBytes]) (by simp)⟩⟩
   .have E:fuel=n:=by omega
    subst E;simp only [co6] at s;obtain ⟨rfl,_⟩:=s;have hwl:elems.length<=most:=by
     have:=hw ((elems.length+rest.length)*P.bytesOf e) (by simp [DataW.weights,A]);have h1:(elems.length+rest.length)*1<=(elems.length+rest.length)*P.bytesOf e:=Nat.mul_le_mul_left _ hb0;simp only [reachBytes,most] at*
     omega
    have hwb:elems.length*P.bytesOf e<=reachBytes:=by have:=hw ((elems.length+rest.length)*P.bytesOf e) (by simp [DataW.weights,A]);exact Nat.le_trans (Nat.mul_le_mul_right _ (Nat.le_add_right _ _)) this
    have N:∀ i,i<len->∃ x:den U.T t',∃ cs',w.cells? base (a.add (i*szOf U t')) (szOf U t')=some cs'/\∀ (j:Nat) (dd:Datum U) (u:Value),(B1 U t' x)[j]? =some dd->cs'[j]? =some u->RepW P w dd u:=by
     intro i M;have h1:=D i M;rw [cn6 (by omega)] at h1;obtain ⟨cs',h2,h3⟩:=Option.bind_eq_some_iff.1 h1;rw [hc] at h2;obtain ⟨x,hx1,O,F⟩:=ao8 hL fuel (d:=elems[i].1) (p:=elems[i].2) hm' h3 (λq hq=>hw q (by
      simp only [DataW.weights,A,List.mem_cons,cq1];exact .inr (.inl (ak8 (List.mem_map.2 ⟨elems[i],List.getElem_mem _,rfl⟩) hq))))
     exact ⟨x,cs',h2,F⟩
    obtain ⟨l,r,G⟩:=bH0 len N;refine ⟨l,rfl,by simp [Value.oneCell'],one rfl ?_⟩;cases l with
    |nil=>simp only [List.length_nil] at r;subst r;exact ⟨.nil e t' (some a) cap,.slice e t' [] (by simp [reachBytes]) (by simp)⟩
    |cons x0 l0=>
     have hcell:∀ i,i<len->∀ j,j<szOf U t'->∃ v,w.cell? ((a.add (i*szOf U t')).add j)=some v:=by intro i M j z;obtain ⟨x,s⟩:∃ x,(x0::l0)[i]? =some x:=⟨_,cn6 (by omega)⟩;obtain ⟨cs',h1,_⟩:=G i x s;obtain ⟨_,h2,h3⟩:=World.cells?_some h1;exact ⟨_,by rw [h3 j z];exact cn6 (by omega)⟩
     have Q:0<len:=by rw [<-r];simp
     obtain ⟨v0,R⟩:=hcell 0 Q 0 (by omega);obtain ⟨g,o,spot⟩:=a;have I:spot=none:=by simpa [Addr.add] using World.cell?_spot R
     subst I;have hg:g<w.heap.size:=by
      have:w.cell? ⟨g,o+0*szOf U t'+0,none⟩=some v0:=by simpa [Addr.add] using R
      unfold World.cell? at this;cases hh:w.heap[g]? with
      |none=>simp [hh] at this
      |some ob=>exact (cp2.1 hh).1
     have hli:Light P (U:=U) ⟨.slice e t',x0::l0⟩:=by
      refine .slice e t' _ (by rw [r,<-y];exact hwb) (λx s d J=>?_);obtain ⟨i,M⟩:=List.mem_iff_getElem?.1 s;obtain ⟨j,z⟩:=List.mem_iff_getElem?.1 J;have hil:i<len:=by rw [<-r];exact (cn9.1 M).1
      have hjs:j<szOf U t':=by rw [<-B0 U t' x];exact (cn9.1 z).1
      obtain ⟨cs',h1,h2⟩:=G i x M;obtain ⟨_,h3,h4⟩:=World.cells?_some h1;exact (h2 j d cs'[j] z (cn6 (by omega))).2
     rw [<-r];refine ⟨?_,hli⟩;refine .slice e t' (x0::l0) g o cap (λi j=>(w.cell? ⟨g,o+i*szOf U t'+j,none⟩).getD undef) (by simp) (by omega) (by omega) (λh=>h) hg (λi M j z=>?_) (λi x s j dd J=>?_)
     .obtain ⟨v,B⟩:=hcell i (by omega) j z;have B:w.cell? ⟨g,o+i*szOf U t'+j,none⟩=some v:=by rw [bH1] at B;exact B
      simp [B]
     .obtain ⟨cs',h1,h2⟩:=G i x s;obtain ⟨_,h3,h4⟩:=World.cells?_some h1;have z:j<szOf U t':=by rw [<-B0 U t' x];exact (cn9.1 J).1
      have h5:=h4 j z;have h6:w.cell? ⟨g,o+i*szOf U t'+j,none⟩=cs'[j]? :=by rw [bH1] at h5;exact h5
      refine (h2 j dd _ J ?_).1;rw [h6,cn6 (by omega)];rfl
  |user i=>
   obtain ⟨fs,A,hc,C⟩:=m;obtain ⟨xs,n,hf,s,y,hxl,D⟩:=DataW.trod_struct A h;have E:fuel=n:=by omega
   subst E;simp only [co6] at s;obtain ⟨rfl,_⟩:=s;have z:∀ (j:Nat) (ty':Ty),(U.fields i)[j]? =some ty'->∃ x:den U.T ty',∃ v,cs[j]? =some v/\v.oneCell'=true/\RepW P w ⟨ty',x⟩ v:=by
    intro j ty' S;have V:j<(U.fields i).length:=(cn9.1 S).1;obtain ⟨q,f,ty,K,W,hoff,hsz,hend,X⟩:=C j ty' S;have hql:q<fs.size:=(cp2.1 K).1;have h1:=D q f K;rw [hsz,cn6 (by omega)] at h1;obtain ⟨v,B⟩:∃ v,cs[j]? =some v:=⟨_,cn6 (by omega)⟩;obtain ⟨x,hx1,O,F⟩:=ao8 hL fuel (d:=xs[q].1) (p:=xs[q].2) W h1 (λn hn=>hw n (by
     simp only [DataW.weights,A];exact ae2 (j:=q) (by simp;exact ⟨f,by simpa using K,rfl⟩) (by simp;exact ⟨xs[q].2,cn6 (by omega)⟩) hn))
    have Y:j-f.offset<szOf U ty:=by have:=(cn9.1 X).1;rw [bh9] at this;exact this
    have Z:((cs.drop f.offset).take (szOf U ty))[j-f.offset]? =some v:=by rw [List.getElem?_take,if_pos Y,List.getElem?_drop,show f.offset+(j-f.offset)=j from by omega];exact B
    obtain ⟨dd,hdd⟩:∃ dd,(B1 U ty x)[j-f.offset]? =some dd:=⟨_,cn6 (by rw [B0];exact Y)⟩;have hdt:=bv9 ty x hdd X;obtain ⟨dt,dx⟩:=dd;dsimp only at hdt;subst hdt;exact ⟨dx,v,B,O v (List.mem_of_getElem? Z),F _ _ v hdd Z⟩
   obtain ⟨c,hcq⟩:=bh8 (U:=U) (U.fields i) (λj d=>∃ v,cs[j]? =some v/\v.oneCell'=true/\RepW P w d v) z;refine ⟨U.put i c,by rw [y,hc];rfl,λv B=>?_,λj dd u J hu'=>?_⟩
   .obtain ⟨j,hjv⟩:=List.mem_iff_getElem?.1 B;have V:j<(U.fields i).length:=by have:=(cn9.1 hjv).1;omega
    obtain ⟨x,v',h1,h2,_⟩:=z j _ (cn6 V);rw [hjv] at h1;simp only [cn4] at h1;rw [h1];exact h2
   .simp only [B1,U.get_put] at J;obtain ⟨v,h1,_,h3⟩:=hcq j dd J;rw [hu'] at h1;simp only [cn4] at h1;rw [h1];exact h3
def cc1 (P:Program) (U:Univ) (L:List (TypeId×Ty)) (t:TypeId) (agg:Bool) (tys:List Ty):Prop:=
 (agg=false/\∃ ty,tys=[ty]/\G7 ty=false/\(t,ty)∈L)\/
 (agg=true/\∃ fs,P.underlying t=some (.struct fs)/\P.cellsOf t=tys.length/\fs.size=tys.length/\
   ∀ (j:Nat) (f:Field) (ty':Ty),fs[j]? =some f->tys[j]? =some ty'->f.offset=j/\P.cellsOf f.type=1/\G7 ty'=false/\(f.type,ty')∈L)\/
 (agg=true/\∃ e,P.underlying t=some (.array tys.length e)/\P.cellsOf t=tys.length/\P.cellsOf e=1/\∀ (j:Nat) (ty':Ty),tys[j]? =some ty'->G7 ty'=false/\(e,ty')∈L)
def Reps (P:Program) (U:Univ) (w:World) (ds:List (Datum U)) (us:List Value):Prop:=us.length=ds.length/\(∀ u∈us,u.oneCell'=true)/\∀ (j:Nat) (d:Datum U) (u:Value),ds[j]? =some d->us[j]? =some u->RepW P w d u
theorem aM5 {cs:List Value} {j:Nat} (h:j<cs.length):∃ v,cs[j]? =some v/\(cs.drop j).take 1=[v]:=by refine ⟨cs[j],cn6 h,?_⟩;rw [List.drop_eq_getElem_cons h];rfl
theorem aM6 {cs:List Value} {tys:List Ty} (hl:cs.length=tys.length) (h:∀ (j:Nat) (ty':Ty),tys[j]? =some ty'->∃ x:den U.T ty',∃ v,cs[j]? =some v/\v.oneCell'=true/\RepW P w ⟨ty',x⟩ v):
  ∃ xs:Dens U.T tys,Reps P U w (A7 U tys xs) cs:=by
 obtain ⟨c,hc⟩:=bh8 (U:=U) tys (λj d=>∃ v,cs[j]? =some v/\v.oneCell'=true/\RepW P w d v) h;refine ⟨c,by rw [F8,hl],λv f=>?_,λj dd u g b=>?_⟩
 .obtain ⟨j,a⟩:=List.mem_iff_getElem?.1 f;have e:j<tys.length:=by have:=(cn9.1 a).1;omega
  obtain ⟨x,v',h1,h2,_⟩:=h j _ (cn6 e);rw [a] at h1;simp only [cn4] at h1;rw [h1];exact h2
 .obtain ⟨v,h1,_,h3⟩:=hc j dd g;rw [b] at h1;simp only [cn4] at h1;rw [h1];exact h3
theorem cc3 {L:List (TypeId×Ty)} (M:br3 P U L) {t:TypeId} {agg:Bool} {tys:List Ty} (Z:cc1 P U L t agg tys) {v:Value} {d:DataW H} {p:List MemPlace} {r:Reach} {b0:Nat} (B:Value.okWide P w r b0 t v)
  (h:DataW.Trod enc P w base sp held t v d p) (N:∀ n∈d.weights P t,n<=reachBytes):∃ (xs:Dens U.T tys) (us:List Value),Reps P U w (A7 U tys xs) us/\(agg=false->us=[v])/\(agg=true->v=.agg us.toArray):=by
 obtain ⟨fuel,h⟩:=h;rcases Z with ⟨rfl,ty,rfl,y,hm⟩|⟨rfl,fs,y,hc,hfs,z⟩|⟨rfl,e,y,hc,O,Q⟩
 .have hcell:v.cells.toList=[v]:=by
   have g:=M t ty hm;cases ty with
   |int k=>obtain ⟨n,rfl⟩:=okWide_int g B;rfl
   |bool=>obtain ⟨n,rfl⟩:=okWide_bool g B;rfl
   |slice e t'=>obtain ⟨a,l,c,rfl⟩:=okWide_slice g.1 B;rfl
   |user i=>simp [G7] at y
   |str=>exact g.elim
   |map _ _=>exact g.elim
   |ifc _=>exact g.elim
  rw [hcell] at h;obtain ⟨x,h1,h2,h3⟩:=ao8 M fuel hm h N;refine ⟨(x,()),[v],⟨rfl,h2,λj dd u hd R=>h3 j dd u ?_ R⟩,λ_=>rfl,λh=>by cases h⟩;rw [ae1 y];exact hd
 .obtain ⟨cs,rfl,S⟩:=okWide_struct y B;have h:DataW.trod enc P w base sp held fuel t cs.toList=some (d,p):=h;obtain ⟨xs,n,rfl,K,b,V,m⟩:=DataW.trod_struct y h;simp only [co6] at K;obtain ⟨rfl,_⟩:=K;obtain ⟨c,C⟩:=aM6 (U:=U) (w:=w) (cs:=cs.toList) (tys:=tys) (by rw [b,hc]) (λj ty' o=>by
   have A:j<tys.length:=(cn9.1 o).1;obtain ⟨f,D⟩:∃ f,fs[j]? =some f:=⟨_,cp1 (by omega)⟩;obtain ⟨ho,W,E,s⟩:=z j f ty' D o;have h1:=m j f D;rw [ho,W,cn6 (by omega)] at h1;obtain ⟨v,F,G⟩:=aM5 (cs:=cs.toList) (j:=j) (by rw [b,hc];exact A);rw [G] at h1;obtain ⟨x,X,I,J⟩:=ao8 M n (d:=xs[j].1) (p:=xs[j].2) s h1 (λq Y=>N q (by
    simp only [DataW.weights,y];exact ae2 (j:=j) (by simp;exact ⟨f,by simpa using D,rfl⟩) (by simp;exact ⟨xs[j].2,cn6 (by omega)⟩) Y))
   exact ⟨x,v,F,I v (by simp),J 0 ⟨ty',x⟩ v (by rw [ae1 E];rfl) rfl⟩)
  exact ⟨c,cs.toList,C,λh=>(by cases h),λ_=>by simp⟩
 .obtain ⟨cs,rfl,S⟩:∃ cs,v=.agg cs/\cs.size=P.cellsOf t:=by
   unfold Value.okWide at B;rw [y] at B;obtain ⟨cs,h1,h2,_⟩:=B;exact ⟨cs,h1,h2⟩
  have h:DataW.trod enc P w base sp held fuel t cs.toList=some (d,p):=h;obtain ⟨xs,n,rfl,K,b,V,m⟩:=DataW.trod_array y h;simp only [co6] at K;obtain ⟨rfl,_⟩:=K;obtain ⟨c,C⟩:=aM6 (U:=U) (w:=w) (cs:=cs.toList) (tys:=tys) (by rw [b,hc]) (λj ty' o=>by
   have A:j<tys.length:=(cn9.1 o).1;obtain ⟨E,s⟩:=Q j ty' o;have h1:=m j A;rw [O,Nat.mul_one,cn6 (by omega)] at h1;obtain ⟨v,F,G⟩:=aM5 (cs:=cs.toList) (j:=j) (by rw [b,hc];exact A);rw [G] at h1;obtain ⟨x,X,I,J⟩:=ao8 M n (d:=xs[j].1) (p:=xs[j].2) s h1 (λq Y=>N q (by
    simp only [DataW.weights,y];exact ak8 (List.mem_map.2 ⟨xs[j],List.getElem_mem _,rfl⟩) Y))
   exact ⟨x,v,F,I v (by simp),J 0 ⟨ty',x⟩ v (by rw [ae1 E];rfl) rfl⟩)
  exact ⟨c,cs.toList,C,λh=>(by cases h),λ_=>by simp⟩
abbrev ArgT:=TypeId×Bool×List Ty
def aS0 (A:List ArgT):List (Bool×Nat):=A.map λa=>(a.2.1,a.2.2.length)
def ai3:List ArgT->List Ty
 |[]=>[]
 |a::r=>a.2.2++ai3 r
def aS1:(a:List Ty)->{b:List Ty}->Dens U.T a->Dens U.T b->Dens U.T (a++b)
 |[],_,_,y=>y
 |_::a,_,x,y=>(x.1,aS1 a x.2 y)
theorem aM7:∀ (a:List Ty) {b:List Ty} (x:Dens U.T a) (y:Dens U.T b),A7 U (a++b) (aS1 a x y)=A7 U a x++A7 U b y
 |[],_,_,_=>rfl
 |t::a,b,x,y=>by show _::A7 U (a++b) (aS1 a x.2 y)=_;rw [aM7 a x.2 y];rfl
theorem Reps.app {c e:List (Datum U)} {f g:List Value} (h1:Reps P U w c f) (h2:Reps P U w e g):Reps P U w (c++e) (f++g):=by
 obtain ⟨h,i,k⟩:=h1;obtain ⟨l,m,n⟩:=h2;refine ⟨by simp [h,l],λu a=>(cq1.1 a).elim (i u) (m u),λj d u b a=>?_⟩;by_cases o:j<c.length
 .rw [cp4 o] at b;rw [cp4 (by omega)] at a;exact k j d u b a
 .rw [cp3 (by omega)] at b;rw [cp3 (by omega)] at a;exact n _ d u b (by rw [<-h];exact a)
theorem br4 {L:List (TypeId×Ty)} (k:br3 P U L) {r:Reach} {y:Nat}:∀ {A:List ArgT} {vs:List Value} {ds:List (DataW H)} {ps:List MemPlace},(∀ a∈A,cc1 P U L a.1 a.2.1 a.2.2)->
  (∀ (j:Nat) (t:TypeId) (v:Value),(A.map (·.1))[j]? =some t->vs[j]? =some v->Value.okWide P w r y t v)->DataW.TrodAll enc P w base sp held (A.map (·.1)) vs ds ps->
  (∀ n∈DataW.weightsEach P (A.map (·.1)) ds,n<=reachBytes)->∃ (xs:Dens U.T (ai3 A)) (us:List Value),Reps P U w (A7 U (ai3 A) xs) us/\I8 (aS0 A) us vs
 |[],vs,ds,ps,_,_,h,_=>by cases vs<;>cases ds<;>simp [DataW.TrodAll] at h;exact ⟨(),[],⟨rfl,by simp,λj d u z=>by simp [A7,ai3] at z⟩,rfl,rfl⟩
 |a::A,vs,ds,ps,l,m,h,o=>by
  cases vs with
  |nil=>cases ds<;>simp [DataW.TrodAll] at h
  |cons v vs=>
   cases ds with
   |nil=>simp [DataW.TrodAll] at h
   |cons d ds=>
    obtain ⟨p,q,h1,h2,_⟩:=h;obtain ⟨B,e,s,C,D⟩:=cc3 k (l a (by simp)) (m 0 _ v rfl rfl) h1 (λn f=>o n (by simp only [List.map_cons,DataW.weightsEach,cq1];exact .inl f));obtain ⟨E,g,F,x⟩:=br4 k (A:=A) (λb G=>l b (by simp [G])) (λj t v' I i=>m (j+1) t v' (by simpa using I) (by simpa using i)) h2 (λn f=>o n (by simp only [List.map_cons,DataW.weightsEach,cq1];exact .inr f));refine ⟨aS1 a.2.2 B E,e++g,?_,?_⟩
    .show Reps P U w (A7 U (a.2.2++ai3 A) _) _;rw [aM7];exact s.app F
    .obtain ⟨t,ag,tys⟩:=a;have c:e.length=tys.length:=by rw [s.1,F8]
     cases ag with
     |true=>exact ⟨e,g,v,vs,rfl,c,D rfl,rfl,x⟩
     |false=>have J:=C rfl;subst J;exact ⟨v,g,vs,rfl,by simpa using c.symm,rfl,x⟩
theorem Reps.light {ds:List (Datum U)} {us:List Value} (h:Reps P U w ds us):∀ d∈ds,Light P d:=by intro d b;obtain ⟨j,a⟩:=List.mem_iff_getElem?.1 b;have c:=(cn9.1 a).1;have h1:=h.1;exact (h.2.2 j d us[j] a (cn6 (by omega))).2
theorem bH2 {G:List (Nat×Glob)} {f:FuncId} {A:List ArgT} {pre:Option (Dens U.T (ai3 A)->Prop)}
  (hg:C5 P G f (Con.flat (U:=U) (aS0 A) (ai3 A) [(false,1)] [.bool] [false] pre λ_=>(true,())))
  (a:∀ g fs,(g,fs)∈G->g<w.heap.size/\∀ i f,fs.cell i=some f->w.cell? ⟨g,i,none⟩=some f)
  {xs:Dens U.T (ai3 A)} {us vs:List Value} (hr:Reps P U w (A7 U (ai3 A) xs) us) (L:I8 (aS0 A) us vs) (m:holds (pre.map λp=>p xs)):
  Calls P f vs.toArray w λe w'=>e=.returned (.bool true)/\Go.RowKit.Below w.heap.size w w':=by
 let F:Fr:=⟨w.heap.size,w,λ_=>False,λ_=>False,λ_=>none,G⟩
 let β:Nm:=⟨λ_=>undef,λ_=>False,λ_=>default⟩
 have x:Ok F w β (E3 (A7 U (ai3 A) xs) ([]:List OPat)):=
  ⟨Go.RowKit.Below.refl _ _,Nat.le_refl _,λid o hl=>by simp [E3,iOs,look] at hl,λid o _ _ _ hl=>by simp [E3,iOs,look] at hl,λ_ _ _=>rfl,λid o _ hl=>by simp [E3,iOs,look] at hl,λid o _ hl=>by simp [E3,iOs,look] at hl,
   λ_ h=>h.elim,rfl,λid o _ hl=>by simp [E3,iOs,look] at hl,λid v h=>(by cases h),λg fs hm=>⟨(a g fs hm).1,λh=>h,(a g fs hm).2⟩⟩
 have d:∀ b,Live β (E3 (A7 U (ai3 A) xs) ([]:List OPat)) b->False:=by
  rintro b (h|⟨id,o,h,_⟩)
  .exact h
  .simp [E3,iOs,look] at h
 obtain ⟨n,y,z⟩:=hr;have B:CsRel w β (E3 (A7 U (ai3 A) xs) ([]:List OPat)) ((ab1 0 (ai3 A).length).map (iC (A7 U (ai3 A) xs) oid (λ_=>0))) us:=by
  refine ⟨by simp [ae0,n,F8],y,λj c u q H=>?_⟩;have s:j<(ai3 A).length:=by have:=(cn9.1 H).1;rw [n,F8] at this;exact this
  simp only [co9,av3 s,Option.map_some,cn4,Nat.zero_add] at q;obtain ⟨dd,I⟩:∃ dd,(A7 U (ai3 A) xs)[j]? =some dd:=⟨_,cn6 (by rw [F8];exact s)⟩;simp only [iC,I] at q;subst q;exact (z j dd u I H).1.mono (Nat.le_refl _) (λ_ _ _=>rfl) (λb _ C=>d b C)
 have l:=(hg F).2 xs m F (λh=>absurd rfl h) β w us vs rfl rfl x (λj p q=>by simp [Con.flat] at q) (λid v h=>by cases h) B L;refine (CallsIn.calls (F:=fen P none) l (λk=>by simp [Fence.room,fen])).mono λe w' D=>?_;cases e with
 |panicked ch=>obtain ⟨b,u,C,_⟩:=D;cases C
 |outgrown=>exact D.elim
 |returned v=>
  obtain ⟨_,β',rs,K,t,E⟩:=D;refine ⟨?_,K.bel⟩;obtain ⟨c,r,vs',M,_,J,N,O⟩:=t;subst M;subst N;subst O;simp only [List.cons.injEq] at J;obtain ⟨rfl,_⟩:=J;have h0:Rep U w' (Live β' (E3 (A7 U [.bool] (true,())) (br2 [false] 0))) (⟨.bool,true⟩:Datum U) v:=E.2.2 0 _ _ rfl rfl;have:v=.bool true:=by cases h0;rfl
  rw [this]
end
end Go.VT
end
section
namespace Go.Rg
open Go
structure Ins where
 op:Int
 n:Int
 to:List Int
 from_:List Int
 body:List Ins
structure RIns where
 kind:Int
 slot:Int
 cell:Int
 ins:Ins
structure Place where
 cell:Bool
 n:Int
 deriving DecidableEq
structure Span where
 first:Int
 last:Int
 deriving DecidableEq
structure Held where
 slot:Int
 reg:Int
 next:Int
 deriving DecidableEq
structure VFun where
 params:Int
 code:List Ins
 out:List Int
 at_:List Int
structure RCode where
 params:Int
 slots:Int
 cells:Int
 code:List RIns
 out:List Place
def ins0:Ins:=⟨0,0,[],[],[]⟩
def rins0:RIns:=⟨0,0,0,ins0⟩
def bi0:VFun:=⟨0,[],[],[]⟩
def aF0:RCode:=⟨0,0,0,[],[]⟩
def place0:Place:=⟨false,0⟩
def lies (n lo hi:Int):Bool:=decide (lo<=n)&&decide (n<=hi)
def at_ (l:List Int) (i:Int):Int:=l.getD i.toNat 0
mutual
def insB:Ins->Ins->Bool
 |⟨o,n,t,f,b⟩,⟨o',n',t',f',b'⟩=>decide (o=o')&&decide (n=n')&&decide (t=t')&&decide (f=f')&&U2 b b'
def U2:List Ins->List Ins->Bool
 |[],[]=>true
 |x::r,y::r'=>insB x y&&U2 r r'
 |_,_=>false
end
mutual
theorem bi1:∀ {x y:Ins},insB x y=true->x=y
 |⟨o,n,t,f,b⟩,⟨o',n',t',f',b'⟩,h=>by simp only [insB,cn7,cp6] at h;obtain ⟨⟨⟨⟨rfl,rfl⟩,rfl⟩,rfl⟩,h5⟩:=h;rw [aS2 h5]
theorem aS2:∀ {x y:List Ins},U2 x y=true->x=y
 |[],[],_=>rfl
 |x::r,y::r',h=>by simp only [U2,cn7] at h;rw [bi1 h.1,aS2 h.2]
 |[],_::_,h=>by simp [U2] at h
 |_::_,[],h=>by simp [U2] at h
end
mutual
theorem ba5:∀ (x:Ins),insB x x=true
 |⟨o,n,t,f,b⟩=>by simp [insB,ah4 b]
theorem ah4:∀ (x:List Ins),U2 x x=true
 |[]=>rfl
 |x::r=>by simp [U2,ba5 x,ah4 r]
end
theorem br5 {x y:Ins}:insB x y=true<->x=y:=⟨bi1,λh=>h▸ba5 x⟩
theorem aF1 {x y:List Ins}:U2 x y=true<->x=y:=⟨aS2,λh=>h▸ah4 x⟩
instance:DecidableEq Ins:=λx y=>if h:insB x y=true then .isTrue (bi1 h) else .isFalse (λe=>h (br5.2 e))
 deriving instance DecidableEq for RIns
 deriving instance DecidableEq for VFun
 deriving instance DecidableEq for RCode
mutual
def insN:Ins->Nat
 |⟨_,_,_,_,b⟩=>ao9 b+1
def ao9:List Ins->Nat
 |[]=>0
 |x::r=>insN x+ao9 r+1
end
mutual
def ax1:Ins->Bool
 |⟨_,_,t,f,b⟩=>(decide (t.length<=17592186044416)&&decide (f.length<=17592186044416)&&decide (b.length<=1599289640354))&&K4 b
def K4:List Ins->Bool
 |[]=>true
 |x::r=>ax1 x&&K4 r
end
def G9:List Int->Int->Int
 |[],_=>-1
 |x::r,n=>if x=n then 0 else if G9 r n<0 then -1 else G9 r n+1
def R6:List Int->Int->List Int
 |[],n=>[n]
 |x::r,n=>if x=n then x::r else if n<x then n::x::r else x::R6 r n
def D8 (l m:List Int):List Int:=m.foldl R6 l
def wr (code:List Ins):List Int:=code.flatMap (·.to)
def U3 (n:Int):Bool:=lies n 0 3999
def C0:List Int->Bool
 |[]=>true
 |x::r=>!r.contains x&&C0 r
def F7 (params:Int):List Int->List Ins->Bool
 |_,[]=>true
 |w,x::r=>(x.from_.all λn=>decide (n<params)||w.contains n)&&F7 params (w++x.to) r
def E4 (f:VFun):Int:=
 if 4000<f.code.length then 3
 else if !(lies f.params 0 4000&&f.out.all U3&&f.code.all λx=>x.to.all U3&&x.from_.all U3) then 2
 else if !(C0 (wr f.code)&&(wr f.code).all λn=>decide (f.params<=n)) then 5
 else if !(F7 f.params [] f.code&&f.out.all λn=>decide (n<f.params)||(wr f.code).contains n) then 4 else 0
def aF2 (x:Ins) (l:List Int):List Int:=(l.filter λn=>!x.to.contains n).foldl R6 (D8 [] x.from_)
def E5:List Ins->List Int->List (List Int)
 |[],out=>[D8 [] out]
 |x::r,out=>aF2 x ((E5 r out).headD [])::E5 r out
def O8 (f:VFun):List (List Int)×Int:=if E4 f≠0 then ([],E4 f) else (E5 f.code f.out,0)
def U4 (f:VFun):Int×Int:=
 if E4 f≠0 then (0,E4 f)
 else (((E5 f.code f.out).tail.zip f.code).foldl (λm p=>max m ((D8 p.1 p.2.to).length:Int)) (((E5 f.code f.out).headD []).length:Int),0)
def U5 (c:RCode):Int×Int:=(c.code.foldl (λn x=>if x.kind=1 then n+1 else n) 0,c.code.foldl (λn x=>if x.kind=2 then n+1 else n) 0)
end Go.Rg
end
section
namespace Go.Rg
open Go Go.VT
abbrev i64:Ty:=.int .i64
abbrev ints:Ty:=.slice 3 i64
abbrev inss:Ty:=.slice 52 (.user 0)
abbrev ak9:Ty:=.slice 55 (.user 1)
abbrev W5:Ty:=.slice 59 (.user 2)
abbrev ck1:Ty:=.slice 131 (.user 4)
abbrev bH3:Ty:=.slice 23 ints
abbrev mapB:Ty:=.map i64 .bool
abbrev mapI:Ty:=.map i64 i64
abbrev mapS:Ty:=.map i64 (.user 3)
abbrev mapP:Ty:=.map (.user 2) i64
def RU:Univ where
 T:=λi=>match i with|0=>Ins|1=>RIns|2=>Place|3=>Span|4=>Held|5=>VFun|6=>RCode|_=>Unit
 dflt:=λi=>match i with|0=>ins0|1=>rins0|2=>place0|3=>⟨0,0⟩|4=>⟨0,0,0⟩|5=>bi0|6=>aF0|_+7=>()
 fields:=λi=>match i with
  |0=>[i64,i64,ints,ints,inss]
  |1=>[i64,i64,i64,i64,i64,ints,ints,inss]
  |2=>[.bool,i64]
  |3=>[i64,i64]
  |4=>[i64,i64,i64]
  |5=>[i64,inss,ints,ints]
  |6=>[i64,i64,i64,ak9,W5]
  |_+7=>[]
 get:=λi=>match i with
  |0=>λ(x:Ins)=>(x.op,x.n,x.to,x.from_,x.body,())
  |1=>λ(x:RIns)=>(x.kind,x.slot,x.cell,x.ins.op,x.ins.n,x.ins.to,x.ins.from_,x.ins.body,())
  |2=>λ(x:Place)=>(x.cell,x.n,())
  |3=>λ(x:Span)=>(x.first,x.last,())
  |4=>λ(x:Held)=>(x.slot,x.reg,x.next,())
  |5=>λ(x:VFun)=>(x.params,x.code,x.out,x.at_,())
  |6=>λ(x:RCode)=>(x.params,x.slots,x.cells,x.code,x.out,())
  |_+7=>λ_=>()
 put:=λi=>match i with
  |0=>λc=>(⟨c.1,c.2.1,c.2.2.1,c.2.2.2.1,c.2.2.2.2.1⟩:Ins)
  |1=>λc=>(⟨c.1,c.2.1,c.2.2.1,⟨c.2.2.2.1,c.2.2.2.2.1,c.2.2.2.2.2.1,c.2.2.2.2.2.2.1,c.2.2.2.2.2.2.2.1⟩⟩:RIns)
  |2=>λc=>(⟨c.1,c.2.1⟩:Place)
  |3=>λc=>(⟨c.1,c.2.1⟩:Span)
  |4=>λc=>(⟨c.1,c.2.1,c.2.2.1⟩:Held)
  |5=>λc=>(⟨c.1,c.2.1,c.2.2.1,c.2.2.2.1⟩:VFun)
  |6=>λc=>(⟨c.1,c.2.1,c.2.2.1,c.2.2.2.1,c.2.2.2.2.1⟩:RCode)
  |_+7=>λ_=>()
 get_put:=λi=>match i with|0=>λ_=>rfl|1=>λ_=>rfl|2=>λ_=>rfl|3=>λ_=>rfl|4=>λ_=>rfl|5=>λ_=>rfl|6=>λ_=>rfl|_+7=>λ_=>rfl
abbrev prog:Program:=Go.Proofs.Tryd.prog
def cc4:List (TypeId×Ty):=[(3,i64),(4,.bool),(32,i64),(23,ints),(52,.user 0),(55,.user 1),(59,.user 2),(107,.user 3),(131,.user 4),(25,.user 5),(31,.user 6)]
def RG:List (Nat×Glob):=[(0,⟨[],[.bool true,.int .i64 (-1)]⟩),(1,⟨[],[.int .i64 0,.int .i64 (-1)]⟩)]
def EV (l:List (FuncId×Con RU)):Env RU:=⟨prog,aR9 cc4,ao7 l,RG,λ_ _=>[],λ_ _=>[],[],none,λ_=>[],true,[]⟩
def EVd (dp:List (TypeId×List Nat)) (it:FuncId->List (Con RU×Con RU×List (Nat×Nat))) (l:List (FuncId×Con RU)):Env RU:=⟨prog,aR9 cc4,ao7 l,RG,λ_ _=>[],λ_ _=>[],[],none,it,true,dp⟩
def EVy (yl:List (Nat×Nat)) (Y:Option (Con RU)) (l:List (FuncId×Con RU)):Env RU:=⟨prog,aR9 cc4,ao7 l,RG,λ_ _=>[],λ_ _=>[],yl,Y,λ_=>[],true,[]⟩
theorem fits (l:List (FuncId×Con RU)):(EV l).Fits:=bh7 (by kernel_rfl)
theorem ck2 (dp it l):(EVd dp it l).Fits:=bh7 (by kernel_rfl)
theorem bS6 (yl Y) (l:List (FuncId×Con RU)):(EVy yl Y l).Fits:=bh7 (by kernel_rfl)
theorem bi2:prog.follows .mixedOrders=true:=by kernel_rfl
def noL:Nat->St RU->Ann RU:=λ_ _=>⟨[],[],[],λ_=>False,λ_=>0,[]⟩
def noIt:FuncId->List (Con RU×Con RU×List (Nat×Nat)):=λ_=>[]
abbrev con (args:List (Bool×Nat)) (params:List Ty) (res:List (Bool×Nat)) (tys:List Ty) (own:List Bool) (pre:Option (Dens RU.T params->Prop)) (fn:Dens RU.T params->Dens RU.T tys):Con RU:=
 Con.flat args params res tys own pre fn
abbrev one:Bool×Nat:=(false,1)
theorem E1 {l:List (FuncId×Con RU)} (hl:∀ x∈l,C5 prog RG x.1 x.2) {f:FuncId} {fn:Func} {k:Con RU} (L:Dens RU.T k.params->Nat->St RU->Ann RU) (hf:prog.funcs[f]? =some fn) (b:(fn.name=="runtime.NumGoroutine")=false) (c:fn.body.isNone=false)
  (h:∀ xs,holds (k.pre.map λp=>p xs)->vc (EV l) (L xs) fn k xs) (a:k.yl=[]:=by rfl):C5 prog RG f k:=
 λY=>ah3 (E:=EV l) (fits l) ⟨W4 (λx d=>hl x d Y),λ_ _ _ _ _ h=>(by cases h),λ_ _ _ h=>(by cases h),λ_ h=>(by cases h),λ_ _ _ _ h=>(by cases h)⟩ bi2 hf b L h c a
def ItOk (it:FuncId->List (Con RU×Con RU×List (Nat×Nat))):Prop:=∀ f k kY mp,(k,kY,mp)∈it f->∀ Y',GivesC Y' (runY prog) RG kY->ab9 Y' prog RG f k
theorem bH4:ItOk noIt:=λ_ _ _ _ h=>by cases h
theorem br6 {dp it} (b:ItOk it) {l:List (FuncId×Con RU)} (hl:∀ x∈l,C5 prog RG x.1 x.2) {f:FuncId} {fn:Func} {k:Con RU} (L:Dens RU.T k.params->Nat->St RU->Ann RU) (hf:prog.funcs[f]? =some fn) (c:(fn.name=="runtime.NumGoroutine")=false) (d:fn.body.isNone=false)
  (h:∀ xs,holds (k.pre.map λp=>p xs)->vc (EVd dp it l) (L xs) fn k xs) (a:k.yl=[]:=by rfl):C5 prog RG f k:=
 λY=>ah3 (E:=EVd dp it l) (ck2 dp it l) ⟨W4 (λx e=>hl x e Y),λ_ _ _ _ _ h=>(by cases h),λ_ _ _ h=>(by cases h),λ_ h=>(by cases h),b⟩ bi2 hf c L h d a
theorem bH5 {dp it} (b:ItOk it) {l:List (FuncId×Con RU)} (hl:∀ x∈l,C5 prog RG x.1 x.2) {f:FuncId} {fn:Func} {k:Con RU} (m:Dens RU.T k.params->Nat) (L:Dens RU.T k.params->Nat->St RU->Ann RU) (hf:prog.funcs[f]? =some fn) (c:(fn.name=="runtime.NumGoroutine")=false) (d:fn.body.isNone=false)
  (h:∀ xs,holds (k.pre.map λp=>p xs)->vc ((EVd dp it l).set f (k.below m (m xs))) (L xs) fn k xs) (a:k.yl=[]:=by rfl):C5 prog RG f k:=
 λY=>ba4 (E:=EVd dp it l) (ck2 dp it l) ⟨W4 (λx e=>hl x e Y),λ_ _ _ _ _ h=>(by cases h),λ_ _ _ h=>(by cases h),λ_ h=>(by cases h),b⟩ bi2 hf c m L h d a
theorem B8:∀ x∈([]:List (FuncId×Con RU)),C5 prog RG x.1 x.2:=by simp
theorem A6 {f:FuncId} {k:Con RU} {r:List (FuncId×Con RU)} (h:C5 prog RG f k) (hr:∀ x∈r,C5 prog RG x.1 x.2):∀ x∈(f,k)::r,C5 prog RG x.1 x.2:=by
 intro x a;rcases List.mem_cons.1 a with h1|h1
 .subst h1;exact h
 .exact hr x h1
abbrev aF3:List Ty:=[i64,i64,ints,ints,inss]
abbrev aF4:List Ty:=[i64,inss,ints,ints]
abbrev ax2:List Ty:=[i64,i64,i64,ak9,W5]
end Go.Rg
end
section
namespace Go.Rg
open Go
theorem L5 {n:Int} (h1:-9223372036854775808<=n) (h2:n<9223372036854775808):IntKind.i64.wrap n=n:=by rw [IntKind.wrap_i64];omega
theorem B4 {k m:Nat} (h:k<m) (hm:m<=140737488355328):IntKind.i64.wrap ((k:Int)+1)=((k+1:Nat):Int):=by rw [L5 (by omega) (by omega)];rfl
theorem A4 {α:Type} {l:List α} {i:Nat} (h:i<l.length) (d:α):l.take (i+1)=l.take i++[l.getD i d]:=by rw [List.take_succ_eq_append_getElem h];simp [List.getD,cn6 h]
theorem G8 {α:Type} {l:List α} {i:Nat} (h:i<l.length) (d:α):l.getD i d∈l:=by rw [co8,cn6 h];exact List.getElem_mem h
theorem aF5 {α:Type} {l m:List α} {b:Bool} {k:Nat} (h1:k<=l.length) (c:b=true<->(l.length=m.length/\l.take k=m.take k)) (a:b=false\/¬ k<l.length):b=true<->l=m:=by
 constructor
 .intro h;obtain ⟨h3,h4⟩:=c.1 h;have d:k=l.length:=by
   rcases a with a|a
   .rw [a] at h;cases h
   .omega
  subst d;rw [cq2,h3,cq2] at h4;exact h4
 .rintro rfl;exact c.2 ⟨rfl,rfl⟩
theorem aF6 {α:Type} {l m:List α} {k:Nat} (d:α) (hl:k<l.length) (hm:k<m.length):l.take (k+1)=m.take (k+1)<->l.take k=m.take k/\l.getD k d=m.getD k d:=by
 rw [A4 hl d,A4 hm d];constructor
 .intro h;have:=List.append_inj h (by simp;omega);exact ⟨this.1,by simpa using this.2⟩
 .rintro ⟨h1,h2⟩;rw [h1,h2]
theorem aS3:∀ {l:List Int} {n:Int} {m:Nat},m<l.length->(∀ i:Nat,i<m->l.getD i 0≠n)->l.getD m 0=n->G9 l n=m
 |x::r,n,0,_,_,h2=>by simp [G9] at h2 |-;simp [h2]
 |x::r,n,m+1,hm,h1,h2=>by
  have a:x≠n:=by simpa using h1 0 (by omega)
  have:=aS3 (l:=r) (n:=n) (m:=m) (by simpa using hm) (λi b=>by simpa using h1 (i+1) (by omega)) (by simpa using h2);simp only [G9,if_neg a,this];rw [if_neg (by omega)];rfl
theorem as0:∀ {l:List Int} {n:Int},(∀ i:Nat,i<l.length->l.getD i 0≠n)->G9 l n=-1
 |[],n,_=>rfl
 |x::r,n,h=>by
  have a:x≠n:=by simpa using h 0 (by simp)
  have:=as0 (l:=r) (n:=n) (λi b=>by simpa using h (i+1) (by simpa using b));simp [G9,if_neg a,this]
theorem ba6 {l:List Int} {n:Int}:0<=G9 l n<->n∈l:=by
 induction l with
 |nil=>simp [G9]
 |cons x r ih=>
  simp only [G9,List.mem_cons];by_cases a:x=n
  .simp [a]
  .rw [if_neg a];split
   .rename_i h;have h1:¬ n∈r:=λb=>by have:=ih.2 b;omega
    simp [h1,Ne.symm a]
   .rename_i h;have h1:n∈r:=ih.1 (by omega);simp [h1];omega
def L9:List Int->Int->List Int×Bool
 |[],n=>([],false)
 |x::r,n=>if x<n then (x::(L9 r n).1,(L9 r n).2) else if x=n then (x::r,true) else (n::x::r,true)
theorem ba7:∀ (l:List Int) (n:Int),R6 l n=bif (L9 l n).2 then (L9 l n).1 else (L9 l n).1++[n]
 |[],n=>rfl
 |x::r,n=>by
  simp only [R6,L9];by_cases h1:x=n
  .subst h1;simp
  .by_cases h2:n<x
   .simp [h1,h2,show ¬ x<n by omega]
   .simp only [h1,h2,if_false,if_pos (show x<n by omega),ba7 r n];cases (L9 r n).2<;>simp
theorem aM8:∀ (l:List Int) (x n:Int),L9 (l++[x]) n=bif (L9 l n).2 then ((L9 l n).1++[x],true) else if x<n then ((L9 l n).1++[x],false) else if x=n then ((L9 l n).1++[x],true) else ((L9 l n).1++[n,x],true)
 |[],x,n=>by simp [L9]
 |y::r,x,n=>by
  simp only [List.cons_append,L9,aM8 r x n];by_cases h1:y<n
  .simp only [h1,if_true];cases (L9 r n).2
   .simp only [cond_false];split
    .rfl
    .split<;>rfl
   .rfl
  .by_cases h2:y=n
   .simp [h1,h2]
   .simp [h1,h2]
theorem av4:∀ (l:List Int) (n:Int),(L9 l n).1.length=l.length+(bif (L9 l n).2 then (L9 l n).1.length-l.length else 0)/\(L9 l n).1.length<=l.length+1/\l.length<=(L9 l n).1.length
 |[],n=>by simp [L9]
 |x::r,n=>by
  obtain ⟨h1,h2,h3⟩:=av4 r n;simp only [L9];split
  .simp only [cp0];cases hc:(L9 r n).2<;>simp [hc] at h1 |-<;>omega
  .split<;>simp
theorem ba8 (l:List Int) (n:Int):(R6 l n).length<=l.length+1:=by
 induction l with
 |nil=>simp [R6]
 |cons x r ih=>
  simp only [R6];split
  .simp
  .split
   .simp
   .simp;exact ih
theorem aF7 {l:List Int} {n x:Int}:x∈R6 l n<->x=n\/x∈l:=by
 induction l with
 |nil=>simp [R6]
 |cons y r ih=>
  simp only [R6];split
  .rename_i h;subst h;simp
  .split
   .simp
   .simp [ih];constructor
    .rintro (h|h|h)<;>simp [h]
    .rintro (h|h|h)<;>simp [h]
theorem aj0 (l m:List Int):(D8 l m).length<=l.length+m.length:=by
 unfold D8
 induction m generalizing l with
 |nil=>simp
 |cons x r ih=>simp only [List.foldl_cons,cp0];have:=ih (R6 l x);have:=ba8 l x;omega
theorem U6 {l m:List Int} {x:Int}:x∈D8 l m<->x∈l\/x∈m:=by
 unfold D8
 induction m generalizing l with
 |nil=>simp
 |cons y r ih=>
  simp only [List.foldl_cons,ih,aF7,List.mem_cons];constructor
  .rintro ((h|h)|h)<;>simp [h]
  .rintro (h|h|h)<;>simp [h]
theorem ba9 (l m:List Int) (x:Int):D8 l (m++[x])=R6 (D8 l m) x:=by simp [D8]
def incr (l:List Int):Prop:=l.Pairwise (·<·)
theorem aM9 {l:List Int} (h:incr l) (n:Int):incr (R6 l n):=by
 induction l with
 |nil=>simp [R6,incr]
 |cons x r ih=>
  obtain ⟨h1,h2⟩:=List.pairwise_cons.1 h;simp only [R6];split
  .exact h
  .split
   .rename_i h3;refine List.pairwise_cons.2 ⟨λy a=>?_,h⟩;rcases List.mem_cons.1 a with rfl|a
    .exact h3
    .have:=h1 y a;omega
   .refine List.pairwise_cons.2 ⟨λy a=>?_,ih h2⟩;rcases aF7.1 a with rfl|a
    .omega
    .exact h1 y a
theorem W6 {l:List Int} (h:incr l) (m:List Int):incr (D8 l m):=by
 unfold D8
 induction m generalizing l with
 |nil=>exact h
 |cons y r ih=>exact ih (aM9 h y)
theorem br7:∀ {l m:List Int},incr l->incr m->(∀ x,x∈l<->x∈m)->l=m
 |[],[],_,_,_=>rfl
 |[],y::_,_,_,h=>by have:=(h y).2 (by simp);simp at this
 |x::_,[],_,_,h=>by have:=(h x).1 (by simp);simp at this
 |x::r,y::r',h1,h2,h=>by
  obtain ⟨e,g⟩:=List.pairwise_cons.1 h1;obtain ⟨f,i⟩:=List.pairwise_cons.1 h2;have c:x=y:=by
   have a:=(h x).1 (by simp);have b:=(h y).2 (by simp);rcases List.mem_cons.1 a with a|a
   .exact a
   .rcases List.mem_cons.1 b with b|b
    .exact b.symm
    .have:=e y b;have:=f x a;omega
  subst c;rw [br7 g i (λz=>?_)];have d:=h z;simp only [List.mem_cons] at d;constructor
  .intro hm;have:=e z hm;rcases d.1 (.inr hm) with h4|h4
   .omega
   .exact h4
  .intro hm;have:=f z hm;rcases d.2 (.inr hm) with h4|h4
   .omega
   .exact h4
end Go.Rg
end
section
namespace Go.Rg
open Go Go.VT
def cLies:Con RU:=con [one,one,one] [i64,i64,i64] [one] [.bool] [false] none λp=>(lies p.1 p.2.1 p.2.2.1,())
def cEqual:Con RU:=con [one,one] [ints,ints] [one] [.bool] [false] none λp=>(decide (p.1=p.2.1),())
def bH6 (l m:List Int):Nat->St RU->Ann RU:=λ_ _=>⟨[],[.slot 6,.slot 5],[i64,.bool],λp=>0<=p.1/\p.1<=l.length/\p.2.1=(decide (l.length=m.length)&&decide (l.take p.1.toNat=m.take p.1.toNat)),λp=>l.length-p.1.toNat,[]⟩
def cEqualLists:Con RU:=con [one,one] [bH3,bH3] [one] [.bool] [false] none λp=>(decide (p.1=p.2.1),())
def al0 (l m:List (List Int)):Nat->St RU->Ann RU:=λ_ _=>⟨[],[.slot 6,.slot 5],[i64,.bool],λp=>0<=p.1/\p.1<=l.length/\p.2.1=(decide (l.length=m.length)&&decide (l.take p.1.toNat=m.take p.1.toNat)),λp=>l.length-p.1.toNat,[]⟩
def cWhere:Con RU:=con [one,one] [ints,i64] [one] [i64] [false] none λp=>(G9 p.1 p.2.1,())
def bH7 (l:List Int) (n:Int):Nat->St RU->Ann RU:=λ_ _=>⟨[],[.slot 5],[i64],λp=>0<=p.1/\p.1<=l.length/\∀ i:Nat,i<p.1.toNat->l.getD i 0≠n,λp=>l.length-p.1.toNat,[]⟩
def cPut:Con RU:=con [one,one] [ints,i64] [one] [ints] [false] (some λp=>p.1.length<=17592186044400) λp=>(R6 p.1 p.2.1,())
def lPut (l:List Int) (n:Int):Nat->St RU->Ann RU:=λ_ _=>⟨[5],[.slot 7,.slot 6,.row 512],[i64,.bool,ints],λp=>0<=p.1/\p.1<=l.length/\p.2.1=(L9 (l.take p.1.toNat) n).2/\p.2.2.1=(L9 (l.take p.1.toNat) n).1,λp=>l.length-p.1.toNat,[]⟩
def cCopyD:Con RU:=con [one] [ints] [one] [ints] [false] (some λp=>p.1.length<=17592186044416) λp=>(p.1,())
def cUnion:Con RU:=con [one,one] [ints,ints] [one] [ints] [false] (some λp=>p.1.length+p.2.1.length<=17592186044400) λp=>(D8 p.1 p.2.1,())
def bH8 (l m:List Int):Nat->St RU->Ann RU:=λ_ _=>⟨[],[.slot 6,.slot 5],[i64,ints],λp=>0<=p.1/\p.1<=m.length/\p.2.1=D8 l (m.take p.1.toNat),λp=>m.length-p.1.toNat,[]⟩
def cSameIns:Con RU:=con [(true,5),(true,5)] [i64,i64,ints,ints,inss,i64,i64,ints,ints,inss] [one] [.bool] [false] none λp=>(insB ⟨p.1,p.2.1,p.2.2.1,p.2.2.2.1,p.2.2.2.2.1⟩ ⟨p.2.2.2.2.2.1,p.2.2.2.2.2.2.1,p.2.2.2.2.2.2.2.1,p.2.2.2.2.2.2.2.2.1,p.2.2.2.2.2.2.2.2.2.1⟩,())
def cSameCode:Con RU:=con [one,one] [inss,inss] [one] [.bool] [false] none λp=>(U2 p.1 p.2.1,())
def T0:Dens RU.T cSameIns.params->Nat:=λp=>ao9 p.2.2.2.2.1+1
def O3:Dens RU.T cSameCode.params->Nat:=λp=>ao9 p.1 
def aF8 (l m:List Ins):Nat->St RU->Ann RU:=λ_ _=>⟨[],[.slot 6,.slot 5],[i64,.bool],λp=>0<=p.1/\p.1<=l.length/\p.2.1=(decide (l.length=m.length)&&U2 (l.take p.1.toNat) (m.take p.1.toNat)),λp=>l.length-p.1.toNat,[]⟩
def cSameVec:Con RU:=con [(true,4),(true,4)] [i64,inss,ints,ints,i64,inss,ints,ints] [one] [.bool] [false] none λp=>(decide (p.1=p.2.2.2.2.1)&&U2 p.2.1 p.2.2.2.2.2.1&&decide (p.2.2.1=p.2.2.2.2.2.2.1)&&decide (p.2.2.2.1=p.2.2.2.2.2.2.2.1),())
theorem cc5 (n lo a:Int):vc (EV []) noL Go.Proofs.Tryd.f31 cLies (n,lo,a,())=((decide (lo<=n)&&decide (n<=a),())=(lies n lo a,())):=by kernel_rfl
theorem bS7 (l:List Int):vc (EV []) noL Go.Proofs.Tryd.f70 cCopyD (l,())=(Small RU (Sigma.mk (Ty.slice (3:Nat) (Ty.int IntKind.i64)) l)->(List.length ([]:List Int)+List.length l)*(8:Nat)<=(140737488355328:Nat)/\([]++l,())=(l,())):=by kernel_rfl
theorem bS8 (l m:List Int):vc (EV []) (bH6 l m) Go.Proofs.Tryd.f34 cEqual (l,m,())=(let b:Int:=(↑(List.length l):Int);
  Small RU (Sigma.mk (Ty.slice (3:Nat) (Ty.int IntKind.i64)) l)->
  Small RU (Sigma.mk (Ty.slice (3:Nat) (Ty.int IntKind.i64)) m)->
  (∃ (p:Int×Bool×Unit),
  l=l/\
  m=m/\
  false=false/\
  (0:Int)=p.1/\
  (b==(↑(List.length m):Int))=p.2.1/\
  (0:Int)<=p.1/\p.1<=b/\p.2.1=(decide (List.length l=List.length m)&&decide (List.take (Int.toNat p.1) l=List.take (Int.toNat p.1) m)))/\
  ∀ (p:Int×Bool×Unit),
 let e0_1:Bool:=p.2.1&&decide (p.1<b);
 let a:Int:=p.1;
 let c:Bool:=decide (List.length l=List.length m);
  (0:Int)<=a/\a<=b/\p.2.1=(c&&decide (List.take (Int.toNat a) l=List.take (Int.toNat a) m))->
  (e0_1=true->
  ((0:Int)<=a/\a<b)/\
  ((0:Int)<=a/\a<(↑(List.length m):Int))/\
  ∃ (p':Int×Bool×Unit),
  l=l/\
  m=m/\
  false=false/\
  IntKind.i64.wrap (a+(1:Int))=p'.1/\
  (List.getD l (Int.toNat a) (0:Int)==List.getD m (Int.toNat a) (0:Int))=p'.2.1/\
  ((0:Int)<=p'.1/\p'.1<=b/\p'.2.1=(c&&decide (List.take (Int.toNat p'.1) l=List.take (Int.toNat p'.1) m)))/\
  List.length l-Int.toNat p'.1<List.length l-Int.toNat a)/\
  (e0_1=false->(p.2.1,())=(decide (l=m),()))):=by kernel_rfl
theorem aS4 (l m:List (List Int)):vc (EV [(34,cEqual)]) (al0 l m) Go.Proofs.Tryd.f43 cEqualLists (l,m,())=(let b:Int:=(↑(List.length l):Int);
  Small RU (Sigma.mk (Ty.slice (23:Nat) (Ty.slice (3:Nat) (Ty.int IntKind.i64))) l)->
  Small RU (Sigma.mk (Ty.slice (23:Nat) (Ty.slice (3:Nat) (Ty.int IntKind.i64))) m)->
  (∃ (p:Int×Bool×Unit),
  l=l/\
  m=m/\
  false=false/\
  (0:Int)=p.1/\
  (b==(↑(List.length m):Int))=p.2.1/\
  (0:Int)<=p.1/\p.1<=b/\p.2.1=(decide (List.length l=List.length m)&&decide (List.take (Int.toNat p.1) l=List.take (Int.toNat p.1) m)))/\
  ∀ (p:Int×Bool×Unit),
 let e0_1:Bool:=p.2.1&&decide (p.1<b);
 let a:Int:=p.1;
 let c:Bool:=decide (List.length l=List.length m);
  (0:Int)<=a/\a<=b/\p.2.1=(c&&decide (List.take (Int.toNat a) l=List.take (Int.toNat a) m))->
  (e0_1=true->
  ((0:Int)<=a/\a<b)/\
  ((0:Int)<=a/\a<(↑(List.length m):Int))/\
  ∃ (p':Int×Bool×Unit),
  l=l/\
  m=m/\
  false=false/\
  IntKind.i64.wrap (a+(1:Int))=p'.1/\
  decide (List.getD l (Int.toNat a) []=List.getD m (Int.toNat a) [])=p'.2.1/\
  ((0:Int)<=p'.1/\p'.1<=b/\p'.2.1=(c&&decide (List.take (Int.toNat p'.1) l=List.take (Int.toNat p'.1) m)))/\
  List.length l-Int.toNat p'.1<List.length l-Int.toNat a)/\
  (e0_1=false->(p.2.1,())=(decide (l=m),()))):=by kernel_rfl
theorem bS9 (l:List Int) (n:Int):vc (EV []) (bH7 l n) Go.Proofs.Tryd.f32 cWhere (l,n,())=(Small RU (Sigma.mk (Ty.slice (3:Nat) (Ty.int IntKind.i64)) l)->
  (∃ (p:Int×Unit),l=l/\n=n/\(0:Int)=p.1/\(0:Int)<=p.1/\p.1<=(↑(List.length l):Int)/\∀ (i:Nat),i<Int.toNat p.1->List.getD l i (0:Int)≠n)/\
  ∀ (p:Int×Unit),
 let a:Bool:=decide (p.1<(↑(List.length l):Int));
 let b:Bool:=List.getD l (Int.toNat p.1) (0:Int)==n;
  ((0:Int)<=p.1/\p.1<=(↑(List.length l):Int)/\∀ (i:Nat),i<Int.toNat p.1->List.getD l i (0:Int)≠n)->
  (a=true->
  ((0:Int)<=p.1/\p.1<(↑(List.length l):Int))/\
  (b=true->(p.1,())=(G9 l n,()))/\
  (b=false->
  ∃ (p':Int×Unit),
  l=l/\
  n=n/\
  IntKind.i64.wrap (p.1+(1:Int))=p'.1/\
  ((0:Int)<=p'.1/\p'.1<=(↑(List.length l):Int)/\∀ (i:Nat),i<Int.toNat p'.1->List.getD l i (0:Int)≠n)/\
  List.length l-Int.toNat p'.1<List.length l-Int.toNat p.1))/\
  (a=false->((-1:Int),())=(G9 l n,()))):=by kernel_rfl
theorem ck3 (l:List Int) (n:Int):vc (EV []) (lPut l n) Go.Proofs.Tryd.f30 cPut (l,n,())=(Small RU (Sigma.mk (Ty.slice (3:Nat) (Ty.int IntKind.i64)) l)->
  (∃ (p:Int×Bool×List Int×Unit),
  l=l/\
  n=n/\
  (0:Int)=p.1/\
  false=p.2.1/\
  []=p.2.2.1/\
  (0:Int)<=p.1/\p.1<=(↑(List.length l):Int)/\p.2.1=(L9 (List.take (Int.toNat p.1) l) n).2/\p.2.2.1=(L9 (List.take (Int.toNat p.1) l) n).1)/\
  ∀ (p:Int×Bool×List Int×Unit),
 let f:Int:=bif !p.2.1&&decide (List.getD l (Int.toNat p.1) (0:Int)>=n) then bif decide (List.getD l (Int.toNat p.1) (0:Int) >n) then p.1 else p.1 else p.1;
 let c:Bool:=!p.2.1&&decide (List.getD l (Int.toNat p.1) (0:Int)>=n);
 let d:Bool:=decide (List.getD l (Int.toNat p.1) (0:Int) >n);
 let b:List Int:=p.2.2.1;
 let g:Bool:=decide (p.1<(↑(List.length l):Int));
 let h:List Int:=bif c then bif d then b++[n] else b else b;
 let e:Bool:=p.2.1;
 let a:Int:=p.1;
 let i:List Int:=[List.getD (bif c then bif d then l else l else l) (Int.toNat f) (0:Int)];
  (0:Int)<=a/\a<=(↑(List.length l):Int)/\e=(L9 (List.take (Int.toNat a) l) n).2/\b=(L9 (List.take (Int.toNat a) l) n).1->
  (g=true->
  ((!e)=true->(0:Int)<=a/\a<(↑(List.length l):Int))/\
  (c=true->((0:Int)<=a/\a<(↑(List.length l):Int))/\(d=true->(List.length b+List.length [n])*(8:Nat)<=(140737488355328:Nat)))/\
  ((0:Int)<=f/\f<(↑(List.length (bif c then bif d then l else l else l)):Int))/\
  (List.length h+List.length i)*(8:Nat)<=(140737488355328:Nat)/\
  ∃ (p':Int×Bool×List Int×Unit),
  (bif c then bif d then l else l else l)=l/\
  (bif c then bif d then n else n else n)=n/\
  IntKind.i64.wrap (f+(1:Int))=p'.1/\
  (bif c then true else e)=p'.2.1/\
  h++i=p'.2.2.1/\
  ((0:Int)<=p'.1/\
  p'.1<=(↑(List.length l):Int)/\p'.2.1=(L9 (List.take (Int.toNat p'.1) l) n).2/\p'.2.2.1=(L9 (List.take (Int.toNat p'.1) l) n).1)/\
  List.length l-Int.toNat p'.1<List.length l-Int.toNat a)/\
  (g=false->((!e)=true->(List.length b+List.length [n])*(8:Nat)<=(140737488355328:Nat))/\(bif !e then b++[n] else b,())=(R6 l n,()))):=by kernel_rfl
theorem bT0 (l m:List Int):vc (EV [(70,cCopyD),(30,cPut)]) (bH8 l m) Go.Proofs.Tryd.f35 cUnion (l,m,())=(Small RU (Sigma.mk (Ty.slice (3:Nat) (Ty.int IntKind.i64)) l)->
  Small RU (Sigma.mk (Ty.slice (3:Nat) (Ty.int IntKind.i64)) m)->
  List.length l<=(17592186044416:Nat)/\
  (∃ (p:Int×List Int×Unit),
  l=l/\m=m/\(0:Int)=p.1/\l=p.2.1/\(0:Int)<=p.1/\p.1<=(↑(List.length m):Int)/\p.2.1=D8 l (List.take (Int.toNat p.1) m))/\
  ∀ (p:Int×List Int×Unit),
 let c:Bool:=decide (p.1<(↑(List.length m):Int));
 let b:List Int:=p.2.1;
 let a:Int:=p.1;
  (0:Int)<=a/\a<=(↑(List.length m):Int)/\b=D8 l (List.take (Int.toNat a) m)->
  (c=true->
  ((0:Int)<=a/\a<(↑(List.length m):Int))/\
  List.length b<=(17592186044400:Nat)/\
  ∃ (p':Int×List Int×Unit),
  l=l/\
  m=m/\
  IntKind.i64.wrap (a+(1:Int))=p'.1/\
  R6 b (List.getD m (Int.toNat a) (0:Int))=p'.2.1/\
  ((0:Int)<=p'.1/\p'.1<=(↑(List.length m):Int)/\p'.2.1=D8 l (List.take (Int.toNat p'.1) m))/\
  List.length m-Int.toNat p'.1<List.length m-Int.toNat a)/\
  (c=false->(b,())=(D8 l m,()))):=by kernel_rfl
theorem bw0 (n:Nat) (g h:Int) (c d:List Int) (a:List Ins) (i j:Int) (e f:List Int) (b:List Ins):vc (EV [(34,cEqual),(64,cSameCode.below O3 n)]) noL Go.Proofs.Tryd.f57 (cSameIns.below T0 (n+1)) (g,h,c,d,a,i,j,e,f,b,())=(let k:Bool:=g==i&&h==j&&decide (c=e)&&decide (d=f);
 Small RU (Sigma.mk (Ty.slice (3:Nat) (Ty.int IntKind.i64)) c)->
 Small RU (Sigma.mk (Ty.slice (3:Nat) (Ty.int IntKind.i64)) d)->
 Small RU (Sigma.mk (Ty.slice (52:Nat) (Ty.user (0:Nat))) a)->
 Small RU (Sigma.mk (Ty.slice (3:Nat) (Ty.int IntKind.i64)) e)->
 Small RU (Sigma.mk (Ty.slice (3:Nat) (Ty.int IntKind.i64)) f)->
 Small RU (Sigma.mk (Ty.slice (52:Nat) (Ty.user (0:Nat))) b)->
 (k=true->True/\O3 (a,b,())<n)/\(k&&U2 a b,())=(insB (Ins.mk g h c d a) (Ins.mk i j e f b),())):=by kernel_rfl
theorem bi3 (n:Nat) (l m:List Ins):vc (EV [(57,cSameIns.below T0 n)]) (aF8 l m) Go.Proofs.Tryd.f64 (cSameCode.below O3 (n+1)) (l,m,())=(let d:Ins:=Ins.mk (0:Int) (0:Int) [] [] [];
 let c:Int:=(↑(List.length l):Int);
  Small RU (Sigma.mk (Ty.slice (52:Nat) (Ty.user (0:Nat))) l)->
  Small RU (Sigma.mk (Ty.slice (52:Nat) (Ty.user (0:Nat))) m)->
  (∃ (p:Int×Bool×Unit),
  l=l/\
  m=m/\
  false=false/\
  (0:Int)=p.1/\
  (c==(↑(List.length m):Int))=p.2.1/\
  (0:Int)<=p.1/\p.1<=c/\p.2.1=(decide (List.length l=List.length m)&&U2 (List.take (Int.toNat p.1) l) (List.take (Int.toNat p.1) m)))/\
  ∀ (p:Int×Bool×Unit),
 let e0_1:Bool:=p.2.1&&decide (p.1<c);
 let e1_1:Ins:=List.getD m (Int.toNat p.1) d;
 let a:Ins:=List.getD l (Int.toNat p.1) d;
 let b:Int:=p.1;
 let e:Bool:=decide (List.length l=List.length m);
  (0:Int)<=b/\b<=c/\p.2.1=(e&&U2 (List.take (Int.toNat b) l) (List.take (Int.toNat b) m))->
  (e0_1=true->
  ((0:Int)<=b/\b<c)/\
  ((0:Int)<=b/\b<(↑(List.length m):Int))/\
  (True/\T0 (a.op,a.n,a.to,a.from_,a.body,e1_1.op,e1_1.n,e1_1.to,e1_1.from_,e1_1.body,())<n)/\
  ∃ (p':Int×Bool×Unit),
  l=l/\
  m=m/\
  false=false/\
  IntKind.i64.wrap (b+(1:Int))=p'.1/\
  insB (Ins.mk a.op a.n a.to a.from_ a.body) (Ins.mk e1_1.op e1_1.n e1_1.to e1_1.from_ e1_1.body)=p'.2.1/\
  ((0:Int)<=p'.1/\p'.1<=c/\p'.2.1=(e&&U2 (List.take (Int.toNat p'.1) l) (List.take (Int.toNat p'.1) m)))/\
  List.length l-Int.toNat p'.1<List.length l-Int.toNat b)/\
  (e0_1=false->(p.2.1,())=(U2 l m,()))):=by kernel_rfl
theorem bw1 (g:Int) (a:List Ins) (b c:List Int) (h:Int) (d:List Ins) (e f:List Int):vc (EV [(34,cEqual),(64,cSameCode)]) noL Go.Proofs.Tryd.f24 cSameVec (g,a,b,c,h,d,e,f,())=(Small RU (Sigma.mk (Ty.slice (52:Nat) (Ty.user (0:Nat))) a)->
 Small RU (Sigma.mk (Ty.slice (3:Nat) (Ty.int IntKind.i64)) b)->
 Small RU (Sigma.mk (Ty.slice (3:Nat) (Ty.int IntKind.i64)) c)->
 Small RU (Sigma.mk (Ty.slice (52:Nat) (Ty.user (0:Nat))) d)->
 Small RU (Sigma.mk (Ty.slice (3:Nat) (Ty.int IntKind.i64)) e)->
 Small RU (Sigma.mk (Ty.slice (3:Nat) (Ty.int IntKind.i64)) f)->
 (g==h&&U2 a d&&decide (b=e)&&decide (c=f),())=(decide (g=h)&&U2 a d&&decide (b=e)&&decide (c=f),())):=by kernel_rfl
theorem aN0:C5 prog RG 31 cLies:=E1 B8 (λ_=>noL) (by kernel_rfl) (by kernel_rfl) (by kernel_rfl) λ(n,lo,a,()) _=>(cc5 n lo a).mpr rfl
theorem bT1 (l:List Int) (a:l.length<=17592186044416):vc (EV []) noL Go.Proofs.Tryd.f70 cCopyD (l,()):=(bS7 l).mpr (by
 intro hs;exact ⟨by simp only [List.length_nil];omega,rfl⟩)
theorem bi4:C5 prog RG 70 cCopyD:=E1 B8 (λ_=>noL) (by kernel_rfl) (by kernel_rfl) (by kernel_rfl) λ(l,()) a=>bT1 l a
theorem bT2 (l m:List Int):vc (EV []) (bH6 l m) Go.Proofs.Tryd.f34 cEqual (l,m,()):=(bS8 l m).mpr (by
 intro e f g;have h:l.length<=140737488355328:=f.len;have o:m.length<=140737488355328:=g.len;refine ⟨⟨(0,decide (l.length=m.length),()),rfl,rfl,rfl,rfl,?_,Int.le_refl _,by dsimp only;omega,by simp [e]⟩,?_⟩
 .rw [Bool.eq_iff_iff];simp [e];omega
 dsimp only [e];rintro ⟨i,b,⟨⟩⟩ ⟨h0,h1,h2⟩;dsimp only at h0 h1 h2 |-;obtain ⟨k,rfl⟩:=co0 h0;simp only [cn8] at h2 |-;have c:b=true<->(l.length=m.length/\l.take k=m.take k):=by rw [h2];simp
 refine ⟨λa=>?_,λa=>?_⟩
 .simp only [cn7,cp6] at a;obtain ⟨a,j⟩:=a;obtain ⟨d,n⟩:=c.1 a;refine ⟨⟨h0,j⟩,⟨h0,by omega⟩,((k+1:Nat),decide (l.getD k 0=m.getD k 0),()),by trivial,by trivial,by trivial,B4 (by omega) h,?_,⟨by omega,by dsimp only;omega,?_⟩,by dsimp only;omega⟩
  .rw [Bool.eq_iff_iff];simp
  .dsimp only;rw [cn8,Bool.eq_iff_iff,cn7,cp6,cp6,cp6,aF6 0 (by omega) (by omega)];simp [d,n]
 .have:b=decide (l=m):=by
   rw [Bool.eq_iff_iff,cp6];exact aF5 (by omega) c (by simp at a;cases b<;>simp at a |-;omega)
  rw [this])
theorem al1:C5 prog RG 34 cEqual:=E1 B8 (λp=>bH6 p.1 p.2.1) (by kernel_rfl) (by kernel_rfl) (by kernel_rfl) λ(l,m,()) _=>bT2 l m
theorem aS5 (l m:List (List Int)):vc (EV [(34,cEqual)]) (al0 l m) Go.Proofs.Tryd.f43 cEqualLists (l,m,()):=(aS4 l m).mpr (by
 intro e f g;have h:l.length<=140737488355328:=f.len;have o:m.length<=140737488355328:=g.len;refine ⟨⟨(0,decide (l.length=m.length),()),rfl,rfl,rfl,rfl,?_,Int.le_refl _,by dsimp only;omega,by simp [e]⟩,?_⟩
 .rw [Bool.eq_iff_iff];simp [e];omega
 dsimp only [e];rintro ⟨i,b,⟨⟩⟩ ⟨h0,h1,h2⟩;dsimp only at h0 h1 h2 |-;obtain ⟨k,rfl⟩:=co0 h0;simp only [cn8] at h2 |-;have c:b=true<->(l.length=m.length/\l.take k=m.take k):=by rw [h2];simp
 refine ⟨λa=>?_,λa=>?_⟩
 .simp only [cn7,cp6] at a;obtain ⟨a,j⟩:=a;obtain ⟨d,n⟩:=c.1 a;refine ⟨⟨h0,j⟩,⟨h0,by omega⟩,((k+1:Nat),decide (l.getD k []=m.getD k []),()),by trivial,by trivial,by trivial,B4 (by omega) h,rfl,⟨by omega,by dsimp only;omega,?_⟩,by dsimp only;omega⟩;dsimp only;rw [cn8,Bool.eq_iff_iff,cn7,cp6,cp6,cp6,aF6 [] (by omega) (by omega)];simp [d,n]
 .have:b=decide (l=m):=by
   rw [Bool.eq_iff_iff,cp6];exact aF5 (by omega) c (by simp at a;cases b<;>simp at a |-;omega)
  rw [this])
theorem ax3:C5 prog RG 43 cEqualLists:=E1 (A6 al1 B8) (λp=>al0 p.1 p.2.1) (by kernel_rfl) (by kernel_rfl) (by kernel_rfl) λ(l,m,()) _=>aS5 l m
theorem bT3 (l:List Int) (n:Int):vc (EV []) (bH7 l n) Go.Proofs.Tryd.f32 cWhere (l,n,()):=(bS9 l n).mpr (by
 intro hs;have c:l.length<=140737488355328:=hs.len;refine ⟨⟨(0,()),by trivial,by trivial,rfl,Int.le_refl _,by dsimp only;omega,λi f=>by simp at f⟩,?_⟩;dsimp only;rintro ⟨i,⟨⟩⟩ ⟨g,o,d⟩;dsimp only at g o d |-;obtain ⟨m,rfl⟩:=co0 g;simp only [cn8] at d |-;refine ⟨λa=>?_,λe=>?_⟩
 .have a:(m:Int)<l.length:=co4 a;refine ⟨⟨g,a⟩,λb=>?_,λb=>⟨((m+1:Nat),()),?_⟩⟩
  .have b:l.getD m 0=n:=eq_of_beq b;rw [aS3 (by omega) d b]
  .have b:l.getD m 0≠n:=by simpa using b
   have p:=B4 (k:=m) (by omega) c;have h:∀ i:Nat,i<((m+1:Nat):Int).toNat->l.getD i 0≠n:=λi f=>by
    rw [cn8] at f;by_cases j:i=m
    .subst j;exact b
    .exact d i (by omega)
   and_intros<;>first|exact p|exact rfl|exact h|omega|(dsimp only;omega)|dsimp only
 .have e:¬ (m:Int)<l.length:=co3 e;rw [as0 (λi f=>d i (by omega))])
theorem bi5:C5 prog RG 32 cWhere:=E1 B8 (λp=>bH7 p.1 p.2.1) (by kernel_rfl) (by kernel_rfl) (by kernel_rfl) λ(l,n,()) _=>bT3 l n
theorem ck4 (l:List Int) (n:Int) (o:l.length<=17592186044400):vc (EV []) (lPut l n) Go.Proofs.Tryd.f30 cPut (l,n,()):=(ck3 l n).mpr (by
 intro hs;refine ⟨⟨(0,false,[],()),rfl,rfl,rfl,rfl,rfl,Int.le_refl _,by dsimp only;omega,rfl,rfl⟩,?_⟩;dsimp only;rintro ⟨i,d,out,⟨⟩⟩ ⟨h0,h1,h2,h3⟩;dsimp only at h0 h1 h2 h3 |-;obtain ⟨k,rfl⟩:=co0 h0;simp only [cn8,Bool.cond_self] at h2 h3 |-;have e:=av4 (l.take k) n;rw [<-h3,<-h2,cq3] at e;refine ⟨λa=>?_,λh=>?_⟩
 .have a:(k:Int)<l.length:=co4 a;have f:∀ (x:Int) (m:List Int),m.length<=k+2->(m.length+[x].length)*8<=140737488355328:=λx m hm=>by simp only [cp8];omega
  have b:=aM8 (l.take k) (l.getD k 0) n;rw [<-A4 (by omega) 0,<-h2,<-h3] at b;refine ⟨λ_=>⟨h0,a⟩,λ_=>⟨⟨h0,a⟩,λ_=>f _ _ (by omega)⟩,⟨h0,a⟩,f _ _ ?_,((k+1:Nat),(L9 (l.take (k+1)) n).2,(L9 (l.take (k+1)) n).1,()),by trivial,by trivial,B4 (by omega) hs.len,?_,?_,⟨by omega,by dsimp only;omega,by rw [cn8],by rw [cn8]⟩,by dsimp only;omega⟩
  .cases (!d&&decide (l.getD k 0>=n))<;>simp only [cond_true,cond_false]
   .omega
   .cases decide (l.getD k 0 >n)<;>simp only [cond_true,cond_false,cp5,cp8]<;>omega
  .rw [b];show (bif !d&&decide (l.getD k 0>=n) then true else d)=_;dsimp only;generalize l.getD k 0=x;cases d
   .simp only [Bool.not_false,Bool.true_and,cond_false];by_cases c:x<n
    .simp [c,show ¬ n<=x by omega]
    .by_cases g:x=n<;>simp [c,g,show n<=x by omega]
   .simp
  .rw [b];show (bif !d&&decide (l.getD k 0>=n) then bif decide (l.getD k 0 >n) then out++[n] else out else out)++[l.getD k 0]=_;dsimp only;generalize l.getD k 0=x;cases d
   .simp only [Bool.not_false,Bool.true_and,cond_false];by_cases c:x<n
    .simp [c,show ¬ n<=x by omega]
    .by_cases g:x=n
     .simp [c,g]
     .simp [c,g,show n<=x by omega,show n<x by omega]
   .simp
 .have j:k=l.length:=by have:¬ (k:Int)<l.length:=co3 h;omega
  subst j;rw [cq2] at h2 h3;refine ⟨λ_=>by simp only [cp8];omega,?_⟩;rw [ba7,<-h2,<-h3];cases d<;>rfl)
theorem bH9:C5 prog RG 30 cPut:=E1 B8 (λp=>lPut p.1 p.2.1) (by kernel_rfl) (by kernel_rfl) (by kernel_rfl) λ(l,n,()) a=>ck4 l n a
theorem bT4 (l m:List Int) (g:l.length+m.length<=17592186044400):vc (EV [(70,cCopyD),(30,cPut)]) (bH8 l m) Go.Proofs.Tryd.f35 cUnion (l,m,()):=(bT0 l m).mpr (by
 intro e c;refine ⟨by omega,⟨(0,l,()),rfl,rfl,rfl,rfl,Int.le_refl _,by dsimp only;omega,rfl⟩,?_⟩;dsimp only;rintro ⟨i,out,⟨⟩⟩ ⟨h0,h1,h2⟩;dsimp only at h0 h1 h2 |-;obtain ⟨k,rfl⟩:=co0 h0;simp only [cn8] at h2 |-;refine ⟨λa=>?_,λd=>?_⟩
 .have a:(k:Int)<m.length:=co4 a;have b:=aj0 l (m.take k);rw [<-h2,cq3] at b;refine ⟨⟨h0,a⟩,by omega,((k+1:Nat),D8 l (m.take (k+1)),()),by trivial,by trivial,B4 (by omega) c.len,?_,⟨by omega,by dsimp only;omega,by rw [cn8]⟩,by dsimp only;omega⟩;rw [A4 (by omega) 0,ba9,h2]
 .have f:k=m.length:=by have:¬ (k:Int)<m.length:=co3 d;omega
  subst f;rw [cq2] at h2;rw [h2])
theorem bi6:C5 prog RG 35 cUnion:=E1 (A6 bi4 (A6 bH9 B8)) (λp=>bH8 p.1 p.2.1) (by kernel_rfl) (by kernel_rfl) (by kernel_rfl) λ(l,m,()) a=>bT4 l m a
theorem bw2 (n:Nat) (b c:Int) (d e:List Int) (a:List Ins) (f g:Int) (h i:List Int) (j:List Ins) (l:ao9 a+1<n+1):vc (EV [(34,cEqual),(64,cSameCode.below O3 n)]) noL Go.Proofs.Tryd.f57 (cSameIns.below T0 (n+1)) (b,c,d,e,a,f,g,h,i,j,()):=(bw0 n b c d e a f g h i j).mpr (by
 intro k _ _ _ _ _ _;refine ⟨λ_=>⟨trivial,by show ao9 a<n;omega⟩,?_⟩;simp only [k,insB];rfl)
theorem bb0 {x:Ins} {l:List Ins} (h:x∈l):insN x<ao9 l:=by
 induction l with
 |nil=>simp at h
 |cons y r ih=>
  simp only [ao9];rcases List.mem_cons.1 h with rfl|h
  .omega
  .have:=ih h;omega
theorem bI0 (x:Ins):insN x=ao9 x.body+1:=by cases x;simp [insN]
theorem bi7 (x:Ins):Ins.mk x.op x.n x.to x.from_ x.body=x:=by cases x;rfl
theorem bT5 (x y:Ins):insB x y=decide (x=y):=by rw [Bool.eq_iff_iff,br5,cp6]
theorem bi8 (n:Nat) (l m:List Ins) (r:ao9 l<n+1):vc (EV [(57,cSameIns.below T0 n)]) (aF8 l m) Go.Proofs.Tryd.f64 (cSameCode.below O3 (n+1)) (l,m,()):=(bi3 n l m).mpr (by
 intro d e g h;have j:l.length<=140737488355328:=g.len;have q:m.length<=140737488355328:=h.len;refine ⟨⟨(0,decide (l.length=m.length),()),rfl,rfl,rfl,rfl,?_,Int.le_refl _,by dsimp only;omega,by simp [e,U2]⟩,?_⟩
 .rw [Bool.eq_iff_iff];simp [e];omega
 dsimp only [e];rintro ⟨i,b,⟨⟩⟩ ⟨h0,h1,h2⟩;dsimp only at h0 h1 h2 |-;obtain ⟨k,rfl⟩:=co0 h0;simp only [cn8] at h2 |-;have c:b=true<->(l.length=m.length/\l.take k=m.take k):=by rw [h2];simp [aF1]
 refine ⟨λa=>?_,λa=>?_⟩
 .simp only [cn7,cp6] at a;obtain ⟨a,o⟩:=a;obtain ⟨f,p⟩:=c.1 a;refine ⟨⟨h0,o⟩,⟨h0,by omega⟩,⟨trivial,?_⟩,((k+1:Nat),decide (l.getD k d=m.getD k d),()),by trivial,by trivial,by trivial,B4 (by omega) j,?_,⟨by omega,by dsimp only;omega,?_⟩,by dsimp only;omega⟩
  .have:=bb0 (G8 (l:=l) (i:=k) (by omega) d);rw [bI0] at this;show ao9 (l.getD k d).body+1<n;omega
  .rw [bi7,bi7,bT5]
  .dsimp only;rw [cn8,Bool.eq_iff_iff,cn7,cp6,cp6,aF1,aF6 d (by omega) (by omega)];simp [f,p]
 .have:b=U2 l m:=by
   rw [Bool.eq_iff_iff,aF1];exact aF5 (by omega) c (by simp at a;cases b<;>simp at a |-;omega)
  rw [this])
theorem as1:∀ n,C5 prog RG 57 (cSameIns.below T0 n)/\C5 prog RG 64 (cSameCode.below O3 n)
 |0=>⟨E1 (k:=cSameIns.below T0 0) (fn:=Go.Proofs.Tryd.f57) B8 (λ_=>noL) (by kernel_rfl) (by kernel_rfl) (by kernel_rfl) (λxs a=>(Nat.not_lt_zero _ a.2).elim),E1 (k:=cSameCode.below O3 0) (fn:=Go.Proofs.Tryd.f64) B8 (λ_=>noL) (by kernel_rfl) (by kernel_rfl) (by kernel_rfl) (λxs a=>(Nat.not_lt_zero _ a.2).elim)⟩
 |n+1=>by
  obtain ⟨h1,h2⟩:=as1 n;refine ⟨E1 (k:=cSameIns.below T0 (n+1)) (l:=[(34,cEqual),(64,cSameCode.below O3 n)]) (A6 al1 (A6 h2 B8)) (λ_=>noL) (by kernel_rfl) (by kernel_rfl) (by kernel_rfl) (λ(b,c,d,e,f,g,h,i,j,o,()) a=>bw2 n b c d e f g h i j o a.2),
   E1 (k:=cSameCode.below O3 (n+1)) (l:=[(57,cSameIns.below T0 n)]) (A6 h1 B8) (λp=>aF8 p.1 p.2.1) (by kernel_rfl) (by kernel_rfl) (by kernel_rfl) (λ(l,m,()) a=>bi8 n l m a.2)⟩
theorem br8 {f:FuncId} {k:Con RU} {m:Dens RU.T k.params->Nat} (h:∀ n,C5 prog RG f (k.below m n)):C5 prog RG f k:=
 λY=>⟨(h 0 Y).1,λxs a=>(h (m xs+1) Y).2 xs ⟨a,Nat.lt_succ_self _⟩⟩
theorem aS6:C5 prog RG 57 cSameIns:=br8 λn=>(as1 n).1
theorem aJ2:C5 prog RG 64 cSameCode:=br8 λn=>(as1 n).2
theorem ap0:C5 prog RG 24 cSameVec:=E1 (A6 al1 (A6 aJ2 B8)) (λ_=>noL) (by kernel_rfl) (by kernel_rfl) (by kernel_rfl) λ(a,b,c,d,e,f,g,h,()) _=>(bw1 a b c d e f g h).mpr (by
 intros;rfl)
def cOwn:Con RU:=con [one] [ints] [one] [ints] [true] (some λp=>p.1.length<=17592186044416) λp=>(p.1,())
def cIndex:Con RU:=con [one,one] [ints,i64] [one] [i64] [false] none λp=>(G9 p.1 p.2.1,())
def bI1 (l:List Int) (n:Int):Nat->St RU->Ann RU:=λ_ _=>⟨[],[.slot 8],[i64],λp=>0<=p.1/\p.1<=l.length/\∀ i:Nat,i<p.1.toNat->l.getD i 0≠n,λp=>l.length-p.1.toNat,[]⟩
def cContains:Con RU:=con [one,one] [ints,i64] [one] [.bool] [false] none λp=>(p.1.contains p.2.1,())
def O4 (first last place:Int):Bool:=!(decide (first=0)&&decide (last=-1))&&decide (first<=place)&&decide (place<=last)
def cAt:Con RU:=con [(true,2),one] [i64,i64,i64] [one] [.bool] [false] none λp=>(O4 p.1 p.2.1 p.2.2.1,())
def cCount:Con RU:=con [(true,5)] ax2 [one,one] [i64,i64] [false,false] none λp=>((U5 ⟨p.1,p.2.1,p.2.2.1,p.2.2.2.1,p.2.2.2.2.1⟩).1,(U5 ⟨p.1,p.2.1,p.2.2.1,p.2.2.2.1,p.2.2.2.2.1⟩).2,())
def M0 (k:Int) (l:List RIns):Int:=l.foldl (λn x=>if x.kind=k then n+1 else n) 0
def bI2 (l:List RIns):Nat->St RU->Ann RU:=λ_ _=>⟨[],[.slot 9,.slot 2,.slot 3],[i64,i64,i64],λp=>0<=p.1/\p.1<=l.length/\p.2.1=M0 1 (l.take p.1.toNat)/\p.2.2.1=M0 2 (l.take p.1.toNat),λp=>l.length-p.1.toNat,[]⟩
def bi9 (l:List RIns):Nat->St RU->Ann RU:=λ_ _=>⟨[],[.slot 6,.slot 4,.slot 5],[i64,i64,i64],λp=>0<=p.1/\p.1<=l.length/\p.2.1=M0 1 (l.take p.1.toNat)/\p.2.2.1=M0 2 (l.take p.1.toNat),λp=>l.length-p.1.toNat,[]⟩
abbrev ck5:List (TypeId×List Nat):=[(52,[2,3])]
def cBody:Con RU:=⟨[one],[inss],[.d 0],[],some λp=>p.1.length<=1599289640354/\K4 p.1=true,none,[one],[inss],[.dp 0],[.dp 0 [2,3]],λp=>(p.1,()),[],[],[]⟩
def bj0:Dens RU.T cBody.params->Nat:=λp=>ao9 p.1
def cc6 (l:List Ins):Nat->St RU->Ann RU:=λ_ _=>⟨[3],[.slot 8,.row 7],[i64,inss],λp=>0<=p.1/\p.1<=l.length/\p.2.1=l.take p.1.toNat,λp=>l.length-p.1.toNat,[(.deep 3 [2,3],7,52,.user 0)]⟩
theorem ck6 (l:List Int):vc (EV []) noL Go.Proofs.Tryd.f72 cOwn (l,())=(let a:Int:=
  (↑(List.length
  (List.take (List.length (List.replicate (Int.toNat (↑(List.length l):Int)) (0:Int))) l++List.drop (List.length l) (List.replicate (Int.toNat (↑(List.length l):Int)) (0:Int)))):
  Int);
 let b:List Int:=List.replicate (Int.toNat (↑(List.length l):Int)) (0:Int);
  Small RU (Sigma.mk (Ty.slice (3:Nat) (Ty.int IntKind.i64)) l)->
  ((0:Int)<=(↑(List.length l):Int)/\(↑(List.length l):Int)*(↑(8:Nat):Int)<=(↑(140737488355328:Nat):Int))/\
  (a=a/\a=a)/\(List.take (List.length b) l++List.drop (List.length l) b,())=(l,())):=by kernel_rfl
theorem bT6 (l:List Int) (n:Int):vc (EV []) (bI1 l n) Go.Proofs.Tryd.f93 cIndex (l,n,())=(let a:Int:=(↑(List.length l):Int);
  Small RU (Sigma.mk (Ty.slice (3:Nat) (Ty.int IntKind.i64)) l)->
  (∃ (p:Int×Unit),l=l/\n=n/\a=a/\(0:Int)=p.1/\(0:Int)<=p.1/\p.1<=a/\∀ (i:Nat),i<Int.toNat p.1->List.getD l i (0:Int)≠n)/\
  ∀ (p:Int×Unit),
 let e0_1:Bool:=decide (p.1<a);
 let b:Bool:=n==List.getD l (Int.toNat p.1) (0:Int);
  ((0:Int)<=p.1/\p.1<=a/\∀ (i:Nat),i<Int.toNat p.1->List.getD l i (0:Int)≠n)->
  (e0_1=true->
  ((0:Int)<=p.1/\p.1<a)/\
  (b=true->(p.1,())=(G9 l n,()))/\
  (b=false->
  ∃ (p':Int×Unit),
  l=l/\
  n=n/\
  a=a/\
  IntKind.i64.wrap (p.1+(1:Int))=p'.1/\
  ((0:Int)<=p'.1/\p'.1<=a/\∀ (i:Nat),i<Int.toNat p'.1->List.getD l i (0:Int)≠n)/\
  List.length l-Int.toNat p'.1<List.length l-Int.toNat p.1))/\
  (e0_1=false->((-1:Int),())=(G9 l n,()))):=by kernel_rfl
theorem bj1 (l:List Int) (n:Int):vc (EV [(93,cIndex)]) noL Go.Proofs.Tryd.f61 cContains (l,n,())=(Small RU (Sigma.mk (Ty.slice (3:Nat) (Ty.int IntKind.i64)) l)->(decide (G9 l n>=(0:Int)),())=(List.contains l n,())):=by kernel_rfl
theorem cn0 (a b n:Int):vc (EV []) noL Go.Proofs.Tryd.f69 cAt (a,b,n,())=((!(a==(0:Int)&&(b==(-1:Int)&&true))&&decide (a<=n)&&decide (n<=b),())=(O4 a b n,())):=by kernel_rfl
theorem bT7 (a b c:Int) (l:List RIns) (o:List Place):vc (EV []) (bI2 l) Go.Proofs.Tryd.f17 cCount (a,b,c,l,o,())=(let e:Int:=(↑(List.length l):Int);
  Small RU (Sigma.mk (Ty.slice (55:Nat) (Ty.user (1:Nat))) l)->
  Small RU (Sigma.mk (Ty.slice (59:Nat) (Ty.user (2:Nat))) o)->
  (∃ (p:Int×Int×Int×Unit),
  a=a/\
  b=b/\
  c=c/\
  l=l/\
  o=o/\
  l=l/\
  e=e/\
  (0:Int)=p.1/\
  (0:Int)=p.2.1/\
  (0:Int)=p.2.2.1/\
  a=a/\
  b=b/\
  c=c/\
  l=l/\
  o=o/\
  (0:Int)<=p.1/\p.1<=e/\p.2.1=M0 (1:Int) (List.take (Int.toNat p.1) l)/\p.2.2.1=M0 (2:Int) (List.take (Int.toNat p.1) l))/\
  ∀ (p:Int×Int×Int×Unit),
 let e0_1:Bool:=(List.getD l (Int.toNat p.1) (RIns.mk (0:Int) (0:Int) (0:Int) ins0)).kind==(2:Int);
 let d:Bool:=(List.getD l (Int.toNat p.1) (RIns.mk (0:Int) (0:Int) (0:Int) ins0)).kind==(1:Int);
 let g:Int:=p.2.2.1;
 let h:Int:=p.2.1;
 let f:Int:=p.1;
 let i:Bool:=decide (f<e);
  (0:Int)<=f/\f<=e/\h=M0 (1:Int) (List.take (Int.toNat f) l)/\g=M0 (2:Int) (List.take (Int.toNat f) l)->
  (i=true->
  ((0:Int)<=f/\f<e)/\
  ∃ (p':Int×Int×Int×Unit),
  (bif d then a else bif e0_1 then a else a)=a/\
  (bif d then b else bif e0_1 then b else b)=b/\
  (bif d then c else bif e0_1 then c else c)=c/\
  (bif d then l else bif e0_1 then l else l)=l/\
  (bif d then o else bif e0_1 then o else o)=o/\
  (bif d then l else bif e0_1 then l else l)=l/\
  (bif d then e else bif e0_1 then e else e)=e/\
  IntKind.i64.wrap ((bif d then f else bif e0_1 then f else f)+(1:Int))=p'.1/\
  (bif d then IntKind.i64.wrap (h+(1:Int)) else bif e0_1 then h else h)=p'.2.1/\
  (bif d then g else bif e0_1 then IntKind.i64.wrap (g+(1:Int)) else g)=p'.2.2.1/\
  (bif d then a else bif e0_1 then a else a)=a/\
  (bif d then b else bif e0_1 then b else b)=b/\
  (bif d then c else bif e0_1 then c else c)=c/\
  (bif d then l else bif e0_1 then l else l)=l/\
  (bif d then o else bif e0_1 then o else o)=o/\
  ((0:Int)<=p'.1/\
  p'.1<=e/\p'.2.1=M0 (1:Int) (List.take (Int.toNat p'.1) l)/\p'.2.2.1=M0 (2:Int) (List.take (Int.toNat p'.1) l))/\
  List.length l-Int.toNat p'.1<List.length l-Int.toNat f)/\
  (i=false->(h,g,())=((U5 (RCode.mk a b c l o)).1,(U5 (RCode.mk a b c l o)).2,()))):=by kernel_rfl
theorem bI3 (b c d:Int) (l:List RIns) (o:List Place):vc (EV []) (bi9 l) Go.Proofs.Tryd.f18 cCount (b,c,d,l,o,())=(let g:RIns:=RIns.mk (0:Int) (0:Int) (0:Int) ins0;
  Small RU (Sigma.mk (Ty.slice (55:Nat) (Ty.user (1:Nat))) l)->
  Small RU (Sigma.mk (Ty.slice (59:Nat) (Ty.user (2:Nat))) o)->
  (∃ (p:Int×Int×Int×Unit),
  b=b/\
  c=c/\
  d=d/\
  l=l/\
  o=o/\
  (0:Int)=(0:Int)/\
  (0:Int)=(0:Int)/\
  (0:Int)=p.1/\
  (0:Int)=p.2.1/\
  (0:Int)=p.2.2.1/\
  b=b/\
  c=c/\
  d=d/\
  l=l/\
  o=o/\
  (0:Int)<=p.1/\
  p.1<=(↑(List.length l):Int)/\
  p.2.1=M0 (1:Int) (List.take (Int.toNat p.1) l)/\p.2.2.1=M0 (2:Int) (List.take (Int.toNat p.1) l))/\
  ∀ (p:Int×Int×Int×Unit),
 let e0_1:Bool:=
  (List.getD (bif (List.getD l (Int.toNat p.1) g).kind==(1:Int) then l else l) (Int.toNat (bif (List.getD l (Int.toNat p.1) g).kind==(1:Int) then p.1 else p.1)) g).kind==
  (2:Int);
 let a:Bool:=(List.getD l (Int.toNat p.1) g).kind==(1:Int);
 let h:Int:=bif a then p.1 else p.1;
 let i:Bool:=decide (p.1<(↑(List.length l):Int));
 let f:Int:=p.2.2.1;
 let j:Int:=bif a then IntKind.i64.wrap (p.2.1+(1:Int)) else p.2.1;
 let e:Int:=p.1;
  (0:Int)<=e/\e<=(↑(List.length l):Int)/\p.2.1=M0 (1:Int) (List.take (Int.toNat e) l)/\f=M0 (2:Int) (List.take (Int.toNat e) l)->
  (i=true->
  ((0:Int)<=e/\e<(↑(List.length l):Int))/\
  ((0:Int)<=h/\h<(↑(List.length (bif a then l else l)):Int))/\
  ∃ (p':Int×Int×Int×Unit),
  (bif e0_1 then bif a then b else b else bif a then b else b)=b/\
  (bif e0_1 then bif a then c else c else bif a then c else c)=c/\
  (bif e0_1 then bif a then d else d else bif a then d else d)=d/\
  (bif e0_1 then bif a then l else l else bif a then l else l)=l/\
  (bif e0_1 then bif a then o else o else bif a then o else o)=o/\
  (bif e0_1 then bif a then (0:Int) else (0:Int) else bif a then (0:Int) else (0:Int))=(0:Int)/\
  (bif e0_1 then bif a then (0:Int) else (0:Int) else bif a then (0:Int) else (0:Int))=(0:Int)/\
  IntKind.i64.wrap ((bif e0_1 then h else h)+(1:Int))=p'.1/\
  (bif e0_1 then j else j)=p'.2.1/\
  (bif e0_1 then IntKind.i64.wrap ((bif a then f else f)+(1:Int)) else bif a then f else f)=p'.2.2.1/\
  (bif e0_1 then bif a then b else b else bif a then b else b)=b/\
  (bif e0_1 then bif a then c else c else bif a then c else c)=c/\
  (bif e0_1 then bif a then d else d else bif a then d else d)=d/\
  (bif e0_1 then bif a then l else l else bif a then l else l)=l/\
  (bif e0_1 then bif a then o else o else bif a then o else o)=o/\
  ((0:Int)<=p'.1/\
  p'.1<=(↑(List.length l):Int)/\
  p'.2.1=M0 (1:Int) (List.take (Int.toNat p'.1) l)/\p'.2.2.1=M0 (2:Int) (List.take (Int.toNat p'.1) l))/\
  List.length l-Int.toNat p'.1<List.length l-Int.toNat e)/\
  (i=false->(p.2.1,f,())=((U5 (RCode.mk b c d l o)).1,(U5 (RCode.mk b c d l o)).2,()))):=by kernel_rfl
theorem cc7 (l:List Ins):vc ((EVd ck5 noIt [(72,cOwn)]).set 96 (cBody.below bj0 (bj0 (l,())))) (cc6 l) Go.Proofs.Tryd.f96 cBody (l,())=(let b:Int:=(↑(List.length l):Int);
 let c:Ins:=Ins.mk (0:Int) (0:Int) [] [] [];
  Small RU (Sigma.mk (Ty.slice (52:Nat) (Ty.user (0:Nat))) l)->
  (∃ (p:Int×List Ins×Unit),l=l/\l=l/\b=b/\(0:Int)=p.1/\[]=p.2.1/\(0:Int)<=p.1/\p.1<=b/\p.2.1=List.take (Int.toNat p.1) l)/\
  ∀ (p:Int×List Ins×Unit),
 let e0_1:List Ins:=
  [Ins.mk (List.getD l (Int.toNat p.1) c).op (List.getD l (Int.toNat p.1) c).n (List.getD l (Int.toNat p.1) c).to (List.getD l (Int.toNat p.1) c).from_
  (List.getD l (Int.toNat p.1) c).body];
 let e1_1:List Ins:=p.2.1;
 let e:Bool:=decide (p.1<b);
 let a:Int:=p.1;
 let d:List Ins:=(List.getD l (Int.toNat a) c).body;
  (0:Int)<=a/\a<=b/\e1_1=List.take (Int.toNat a) l->
  (e=true->
  ((0:Int)<=a/\a<b)/\
  List.length (List.getD l (Int.toNat a) c).to<=(17592186044416:Nat)/\
  List.length (List.getD l (Int.toNat a) c).from_<=(17592186044416:Nat)/\
  ((List.length d<=(1599289640354:Nat)/\K4 d=true)/\bj0 (d,())<bj0 (l,()))/\
  (List.length e1_1+List.length e0_1)*(88:Nat)<=(140737488355328:Nat)/\
  ∃ (p':Int×List Ins×Unit),
  l=l/\
  l=l/\
  b=b/\
  IntKind.i64.wrap (a+(1:Int))=p'.1/\
  e1_1++e0_1=p'.2.1/\
  ((0:Int)<=p'.1/\p'.1<=b/\p'.2.1=List.take (Int.toNat p'.1) l)/\List.length l-Int.toNat p'.1<List.length l-Int.toNat a)/\
  (e=false->(e1_1,())=(l,()))):=by kernel_rfl
theorem ck7 (l:List Int) (b:l.length<=17592186044416):vc (EV []) noL Go.Proofs.Tryd.f72 cOwn (l,()):=(ck6 l).mpr (by
 intro c a hs;refine ⟨⟨by omega,by omega⟩,⟨rfl,rfl⟩,?_⟩;simp [a])
theorem bI4:C5 prog RG 72 cOwn:=E1 B8 (λ_=>noL) (by kernel_rfl) (by kernel_rfl) (by kernel_rfl) λ(l,()) a=>ck7 l a
theorem bT8 (l:List Int) (n:Int):vc (EV []) (bI1 l n) Go.Proofs.Tryd.f93 cIndex (l,n,()):=(bT6 l n).mpr (by
 intro e hs;have c:l.length<=140737488355328:=hs.len;refine ⟨⟨(0,()),rfl,rfl,rfl,rfl,Int.le_refl _,by dsimp only [e];omega,λi g=>by simp at g⟩,?_⟩;dsimp only [e];rintro ⟨i,⟨⟩⟩ ⟨h,o,d⟩;dsimp only at h o d |-;obtain ⟨m,rfl⟩:=co0 h;simp only [cn8] at d |-;refine ⟨λa=>?_,λf=>?_⟩
 .have a:(m:Int)<l.length:=co4 a;refine ⟨⟨h,a⟩,λb=>?_,λb=>⟨((m+1:Nat),()),by trivial,by trivial,by trivial,B4 (k:=m) (by omega) c,⟨by omega,by dsimp only;omega,λi g=>?_⟩,by dsimp only;omega⟩⟩
  .have b:n=l.getD m 0:=eq_of_beq b;rw [aS3 (by omega) d b.symm]
  .have b:n≠l.getD m 0:=by simpa using b
   rw [cn8] at g;by_cases j:i=m
   .subst j;exact b.symm
   .exact d i (by omega)
 .have f:¬ (m:Int)<l.length:=co3 f;rw [as0 (λi g=>d i (by omega))])
theorem bj2:C5 prog RG 93 cIndex:=E1 B8 (λp=>bI1 p.1 p.2.1) (by kernel_rfl) (by kernel_rfl) (by kernel_rfl) λ(l,n,()) _=>bT8 l n
theorem aJ3 (l:List Int) (n:Int):decide (G9 l n>=0)=l.contains n:=by rw [Bool.eq_iff_iff,cp6,List.contains_iff_mem];exact ba6
theorem M5:C5 prog RG 61 cContains:=E1 (A6 bj2 B8) (λ_=>noL) (by kernel_rfl) (by kernel_rfl) (by kernel_rfl) λ(l,n,()) _=>(bj1 l n).mpr (by
 intro _;rw [aJ3])
theorem br9:C5 prog RG 69 cAt:=E1 B8 (λ_=>noL) (by kernel_rfl) (by kernel_rfl) (by kernel_rfl) λ(a,b,n,()) _=>(cn0 a b n).mpr (by
 simp only [O4,Bool.and_true];rfl)
theorem bw3 (k:Int) (l:List RIns) (x:RIns):M0 k (l++[x])=if x.kind=k then M0 k l+1 else M0 k l:=by simp [M0]
theorem bT9 (k:Int) (l:List RIns):0<=M0 k l/\M0 k l<=l.length:=by
 unfold M0
 suffices h:∀ (l:List RIns) (a:Int),a<=l.foldl (λn x=>if x.kind=k then n+1 else n) a/\l.foldl (λn x=>if x.kind=k then n+1 else n) a<=a+l.length by have:=h l 0;omega
 intro l
 induction l with
 |nil=>intro a;simp
 |cons x r ih=>intro a;simp only [List.foldl_cons,cp0];have:=ih (if x.kind=k then a+1 else a);split at this<;>rename_i b<;>simp only [b,if_true,if_false]<;>omega
theorem ah5 {l:List RIns} {i:Nat} (h:i<l.length) (hl:l.length<=140737488355328) (k:Int) (d:RIns):M0 k (l.take (i+1))=if (l.getD i d).kind=k then IntKind.i64.wrap (M0 k (l.take i)+1) else M0 k (l.take i):=by have:=bT9 k (l.take i);rw [cq3] at this;rw [A4 h d,bw3,L5 (by omega) (by omega)]
theorem bU0 (g h j:Int) (l:List RIns) (o:List Place):vc (EV []) (bI2 l) Go.Proofs.Tryd.f17 cCount (g,h,j,l,o,()):=(bT7 g h j l o).mpr (by
 intro e hs _;have c:l.length<=140737488355328:=hs.len;refine ⟨⟨(0,0,0,()),?_⟩,?_⟩
 .simp [e,M0]
 dsimp only [e];rintro ⟨i,a,b,⟨⟩⟩ ⟨h0,h1,h2,h3⟩;dsimp only at h0 h1 h2 h3 |-;obtain ⟨m,rfl⟩:=co0 h0;simp only [cn8,Bool.cond_self,true_and] at h2 h3 |-;refine ⟨λd=>?_,λf=>?_⟩
 .have d:(m:Int)<l.length:=co4 d;refine ⟨⟨h0,d⟩,((m+1:Nat),M0 1 (l.take (m+1)),M0 2 (l.take (m+1)),()),B4 (by omega) c,?_,?_,⟨by omega,by dsimp only;omega,by rw [cn8],by rw [cn8]⟩,by dsimp only;omega⟩
  .dsimp only;rw [ah5 (by omega) c 1 ⟨0,0,0,ins0⟩,<-h2];simp only [co7,beq_iff_eq,ite_self]
  .dsimp only;rw [ah5 (by omega) c 2 ⟨0,0,0,ins0⟩,<-h3];by_cases k:(l.getD m ⟨0,0,0,ins0⟩).kind=1
   .simp only [k,beq_self_eq_true,cond_true];rfl
   .simp only [co7,beq_iff_eq,if_neg k]
 .have n:m=l.length:=by have:¬ (m:Int)<l.length:=co3 f;omega
  subst n;rw [cq2] at h2 h3;rw [h2,h3];rfl)
theorem aF9:C5 prog RG 17 cCount:=E1 B8 (λp=>bI2 p.2.2.2.1) (by kernel_rfl) (by kernel_rfl) (by kernel_rfl) λ(a,b,c,l,o,()) _=>bU0 a b c l o
theorem bI5 (g h j:Int) (l:List RIns) (o:List Place):vc (EV []) (bi9 l) Go.Proofs.Tryd.f18 cCount (g,h,j,l,o,()):=(bI3 g h j l o).mpr (by
 intro e hs _;have c:l.length<=140737488355328:=hs.len;refine ⟨⟨(0,0,0,()),?_⟩,?_⟩
 .simp [M0]
 dsimp only [e];rintro ⟨i,a,b,⟨⟩⟩ ⟨h0,h1,h2,h3⟩;dsimp only at h0 h1 h2 h3 |-;obtain ⟨m,rfl⟩:=co0 h0;simp only [cn8,Bool.cond_self,true_and] at h2 h3 |-;refine ⟨λd=>?_,λf=>?_⟩
 .have d:(m:Int)<l.length:=co4 d;refine ⟨⟨h0,d⟩,⟨h0,d⟩,((m+1:Nat),M0 1 (l.take (m+1)),M0 2 (l.take (m+1)),()),B4 (by omega) c,?_,?_,⟨by omega,by dsimp only;omega,by rw [cn8],by rw [cn8]⟩,by dsimp only;omega⟩
  .dsimp only;rw [ah5 (by omega) c 1 ⟨0,0,0,ins0⟩,<-h2];simp only [co7,beq_iff_eq,ite_self]
  .dsimp only;rw [ah5 (by omega) c 2 ⟨0,0,0,ins0⟩,<-h3];simp only [co7,beq_iff_eq]
 .have k:m=l.length:=by have:¬ (m:Int)<l.length:=co3 f;omega
  subst k;rw [cq2] at h2 h3;rw [h2,h3];rfl)
theorem bb1:C5 prog RG 18 cCount:=E1 B8 (λp=>bi9 p.2.2.2.1) (by kernel_rfl) (by kernel_rfl) (by kernel_rfl) λ(a,b,c,l,o,()) _=>bI5 a b c l o
theorem bI6 {x:Ins} {l:List Ins} (h:K4 l=true) (a:x∈l):ax1 x=true:=by
 induction l with
 |nil=>simp at a
 |cons y r ih=>
  simp only [K4,cn7] at h;rcases List.mem_cons.1 a with rfl|a
  .exact h.1
  .exact ih h.2 a
theorem R7 (x:Ins):ax1 x=true<->(x.to.length<=17592186044416/\x.from_.length<=17592186044416/\x.body.length<=1599289640354)/\K4 x.body=true:=by
 cases x;simp only [ax1,cn7,cp6];constructor
 .rintro ⟨⟨⟨a,b⟩,c⟩,d⟩;exact ⟨⟨a,b,c⟩,d⟩
 .rintro ⟨⟨a,b,c⟩,d⟩;exact ⟨⟨⟨a,b⟩,c⟩,d⟩
theorem cc8 (l:List Ins) (g:l.length<=1599289640354/\K4 l=true):vc ((EVd ck5 noIt [(72,cOwn)]).set 96 (cBody.below bj0 (bj0 (l,())))) (cc6 l) Go.Proofs.Tryd.f96 cBody (l,()):=(cc7 l).mpr (by
 intro e d hs;have c:l.length<=140737488355328:=hs.len;refine ⟨⟨(0,[],()),rfl,rfl,rfl,rfl,rfl,Int.le_refl _,by dsimp only [e];omega,rfl⟩,?_⟩;dsimp only [e];rintro ⟨i,out,⟨⟩⟩ ⟨h0,h1,h2⟩;dsimp only at h0 h1 h2 |-;obtain ⟨m,rfl⟩:=co0 h0;simp only [cn8,true_and] at h2 |-;subst h2;refine ⟨λb=>?_,λf=>?_⟩
 .have b:(m:Int)<l.length:=co4 b;have a:=G8 (l:=l) (i:=m) (by omega) d;obtain ⟨⟨h,j,k⟩,n⟩:=(R7 _).1 (bI6 g.2 a);have o:=bb0 a;rw [bI0] at o;refine ⟨⟨h0,b⟩,h,j,⟨⟨k,n⟩,by show ao9 (l.getD m d).body<ao9 l;omega⟩,?_,((m+1:Nat),l.take (m+1),()),B4 (by omega) c,?_,⟨by omega,by dsimp only;omega,by rw [cn8]⟩,by dsimp only;omega⟩
  .simp only [cq3,cp8];omega
  .rw [A4 (by omega) d,bi7]
 .have p:m=l.length:=by have:¬ (m:Int)<l.length:=co3 f;omega
  subst p;rw [cq2])
theorem aN1:C5 prog RG 96 cBody:=bH5 bH4 (A6 bI4 B8) bj0 (λp=>cc6 p.1) (by kernel_rfl) (by kernel_rfl) (by kernel_rfl) λ(l,()) a=>cc8 l a
abbrev eqI:Int->Int->Bool:=λx y=>x==y
def hasB (m:List (Int×Bool)) (n:Int):Bool:=(mget eqI m n).getD false
def putB (m:List (Int×Bool)) (n:Int) (b:Bool):List (Int×Bool):=mput eqI m n b
def E2 (code:List Ins):List (Int×Bool):=code.flatMap λx=>x.from_.map (λn=>(n,false))++x.to.map (λn=>(n,true))
def D6 (code:List Ins) (out:List Int):List (Int×Bool):=E2 code++out.map λn=>(n,false)
def C4 {α S:Type} (step:S->α->Bool×S):List α->S->Bool×S
 |[],s=>(false,s)
 |x::r,s=>if (step s x).1 then (true,(step s x).2) else C4 step r (step s x).2
def E9 (e:Int) (x:Int×Bool):Bool×Int:=if x.1<0\/4000<=x.1 then (true,2) else (false,e)
def E0 (params:Int) (s:Int×List (Int×Bool)) (x:Int×Bool):Bool×(Int×List (Int×Bool)):=
 if x.2&&(hasB s.2 x.1||decide (x.1<params)) then (true,5,s.2) else (false,s.1,putB s.2 x.1 (hasB s.2 x.1||x.2))
def stOf (b:Bool):Int:=if b then 1 else 0
def cNamed:Con RU:=⟨[(true,4)],aF4,[.d 0,.d 1,.d 2,.d 3],[],none,none,[one],aF4,[.clo 97 [0]],[.box 25 [.d 0,.d 1,.d 2,.d 3]],λp=>p,[],[],[]⟩
def W7:Con RU:=⟨[one,one,one],[i64,.bool,i64,i64],[.d 0,.d 1,.yld 0],[.loop 2,.box 32 [.d 3]],some λp=>p.2.2.1=0,none,[one],[.bool,i64,i64],[.d 0],[.loop 1,.box 32 [.d 2]],
 λp=>(!(E9 p.2.2.2.1 (p.1,p.2.1)).1,stOf (E9 p.2.2.2.1 (p.1,p.2.1)).1,(E9 p.2.2.2.1 (p.1,p.2.1)).2,()),[],[(0,0),(1,1)],[(1,1000001)]⟩
def aS7:Con RU:=⟨[one,one],[i64,i64,i64,inss,ints,ints],[.yld 0,.ptr 2 0],[.loop 0,.box 32 [.d 1],.box 25 [.d 2,.d 3,.d 4,.d 5]],some λp=>p.1=0,none,[],[i64,i64],[],[.loop 0,.box 32 [.d 1],.box 25 [.un,.un,.un,.un]],
 λp=>(stOf (C4 E9 (D6 p.2.2.2.1 p.2.2.2.2.1) p.2.1).1,(C4 E9 (D6 p.2.2.2.1 p.2.2.2.2.1) p.2.1).2,()),[],[(0,0),(1,1)],[(1,128)]⟩
def W8:Con RU:=⟨[one,one,one],[i64,.bool,i64,i64,mapB,i64,inss,ints,ints],[.d 0,.d 1,.yld 0],[.loop 2,.box 32 [.d 3],.box 117 [.map 3],.map 4,.box 25 [.d 5,.d 6,.d 7,.d 8]],some λp=>p.2.2.1=0,none,
 [one],[.bool,i64,i64,mapB,i64,inss,ints,ints],[.d 0],[.loop 1,.box 32 [.d 2],.box 117 [.map 3],.map 3,.box 25 [.d 4,.d 5,.d 6,.d 7]],
 λp=>(!(E0 p.2.2.2.2.2.1 (p.2.2.2.1,p.2.2.2.2.1) (p.1,p.2.1)).1,stOf (E0 p.2.2.2.2.2.1 (p.2.2.2.1,p.2.2.2.2.1) (p.1,p.2.1)).1,(E0 p.2.2.2.2.2.1 (p.2.2.2.1,p.2.2.2.2.1) (p.1,p.2.1)).2.1,(E0 p.2.2.2.2.2.1 (p.2.2.2.1,p.2.2.2.2.1) (p.1,p.2.1)).2.2,p.2.2.2.2.2),[4],[(0,0),(1,1),(2,2),(3,3),(4,4)],[(1,1000001),(2,1000002),(4,1000004)]⟩
def aS8:Con RU:=⟨[one,one],[i64,i64,mapB,i64,inss,ints,ints,i64,inss,ints,ints],[.yld 0,.ptr 5 0],[.loop 0,.box 32 [.d 1],.box 117 [.map 3],.map 2,.box 25 [.d 3,.d 4,.d 5,.d 6],.box 25 [.d 7,.d 8,.d 9,.d 10]],some λp=>p.1=0,none,
 [],[i64,i64,mapB,i64,inss,ints,ints],[],[.loop 0,.box 32 [.d 1],.box 117 [.map 3],.map 2,.box 25 [.d 3,.d 4,.d 5,.d 6],.box 25 [.un,.un,.un,.un]],
 λp=>(stOf (C4 (E0 p.2.2.2.1) (D6 p.2.2.2.2.2.2.2.2.1 p.2.2.2.2.2.2.2.2.2.1) (p.2.1,p.2.2.1)).1,(C4 (E0 p.2.2.2.1) (D6 p.2.2.2.2.2.2.2.2.1 p.2.2.2.2.2.2.2.2.2.1) (p.2.1,p.2.2.1)).2.1,(C4 (E0 p.2.2.2.1) (D6 p.2.2.2.2.2.2.2.2.1 p.2.2.2.2.2.2.2.2.2.1) (p.2.1,p.2.2.1)).2.2,p.2.2.2.1,p.2.2.2.2.1,p.2.2.2.2.2.1,p.2.2.2.2.2.2.1,()),[4],[(0,0),(1,1),(2,2),(3,3),(4,4)],[(1,128),(2,256),(4,64)]⟩
def itCheck:FuncId->List (Con RU×Con RU×List (Nat×Nat)):=λf=>bif Nat.beq f 97 then [(aS8,W8,[(0,0),(1,1),(2,2),(3,3),(4,4)]),(aS7,W7,[(0,0),(1,1)])] else []
def cIs (tys:List Ty) (objs:List OPat) (caps:List Nat) (is:Dens RU.T tys->Int->Bool):Con RU:=
 ⟨one::caps.map (λ_=>one),i64::tys,.d 0::caps.map (λc=>.ptr c 0),objs,none,none,[one],.bool::tys,[.d 0],objs,λp=>(is p.2 p.1,p.2),List.range objs.length,[],[]⟩
def cIsN (f:Nat) (tys:List Ty) (objs1:List OPat) (caps:List Nat) (is:Dens RU.T tys->Int->Bool):Con RU:=
 ⟨[one,one],i64::tys,[.d 0,.ptr 0 0],.box 109 [.clo f (caps.map (·+1))]::objs1,none,none,[one],.bool::tys,[.d 0],.box 109 [.clo f (caps.map (·+1))]::objs1,λp=>(!(is p.2 p.1),p.2),List.range (objs1.length+1),[],[]⟩
def al2 (f:Nat) (tys:List Ty) (objs1:List OPat) (caps:List Nat) (is:Dens RU.T tys->Int->Bool):Con RU:=
 ⟨[one,one],ints::tys,[.d 0,.clo 99 [0]],.box 109 [.clo f (caps.map (·+1))]::objs1,none,none,[one],i64::tys,[.d 0],.box 109 [.clo f (caps.map (·+1))]::objs1,λp=>(((p.1.findIdx? (λn=>!(is p.2 n))).map (λ(i:Nat)=>(i:Int))).getD (-1),p.2),List.range (objs1.length+1),[],[]⟩
def al3 (f:Nat) (tys:List Ty) (objs1:List OPat) (caps:List Nat) (is:Dens RU.T tys->Int->Bool):Con RU:=
 ⟨[one,one],ints::tys,[.d 0,.clo 99 [0]],.box 109 [.clo f (caps.map (·+1))]::objs1,none,none,[one],.bool::tys,[.d 0],.box 109 [.clo f (caps.map (·+1))]::objs1,λp=>(!(p.1.all (is p.2)),p.2),List.range (objs1.length+1),[],[]⟩
def cAll (f:Nat) (tys:List Ty) (objs:List OPat) (caps:List Nat) (is:Dens RU.T tys->Int->Bool):Con RU:=
 ⟨[one,one],ints::tys,[.d 0,.clo f caps],objs,none,none,[one],.bool::tys,[.d 0],objs,λp=>(p.1.all (is p.2),p.2),List.range objs.length,[],[]⟩
def aS9 (l:List Int) (is:Int->Bool):Nat->St RU->Ann RU:=λ_ _=>⟨[],[.slot 8],[i64],λp=>0<=p.1/\p.1<=l.length/\(l.take p.1.toNat).all is=true,λp=>l.length-p.1.toNat,[]⟩
abbrev tysC:List Ty:=[i64,inss,ints,ints,mapB]
abbrev objC:List OPat:=[.box 25 [.d 1,.d 2,.d 3,.d 4],.box 117 [.map 2],.map 5]
abbrev al4:List OPat:=[.box 25 [.d 1,.d 2,.d 3,.d 4],.box 117 [.map 3],.map 5]
def isC (p:Dens RU.T tysC) (n:Int):Bool:=decide (n<p.1)||hasB p.2.2.2.2.1 n
abbrev tysI:List Ty:=[i64]
abbrev objI:List OPat:=[.box 3 [.d 1]]
def isI (p:Dens RU.T tysI) (n:Int):Bool:=decide (0<=n)&&decide (n<p.1)
def cIn:Con RU:=con [one,one] [i64,ints] [one] [.bool] [false] none λp=>(p.2.1.all (λn=>decide (0<=n)&&decide (n<p.1)),())
abbrev eqP:Place->Place->Bool:=E6 RU (.user 2)
abbrev tysP:List Ty:=[mapP]
abbrev objP:List OPat:=[.box 83 [.map 1],.map 1]
abbrev al5:List OPat:=[.box 83 [.map 2],.map 1]
def isP (p:Dens RU.T tysP) (s:Int):Bool:=(mget eqP p.1 ⟨false,s⟩).isSome
def bj3 (code:List Ins) (out:List Int) (e0:Int):Nat->St RU->Ann RU:=λk s=>match k with
 |0=>⟨[],[.slot 14,.row 1000000,.box 1000001 0],[i64,i64,i64],λp=>0<=p.1/\p.1<=code.length/\p.2.1=0/\C4 E9 (E2 (code.take p.1.toNat)) e0=(false,p.2.2.1),λp=>code.length-p.1.toNat,[]⟩
 |1=>⟨[],[.slot 21,.row 1000000,.box 1000001 0],[i64,i64,i64],λp=>0<=p.1/\p.1<=(code.getD (s.intAt 14).toNat ins0).from_.length/\p.2.1=0/\
   C4 E9 (E2 (code.take (s.intAt 14).toNat)++((code.getD (s.intAt 14).toNat ins0).from_.take p.1.toNat).map (λn=>(n,false))) e0=(false,p.2.2.1),λp=>(code.getD (s.intAt 14).toNat ins0).from_.length-p.1.toNat,[]⟩
 |2=>⟨[],[.slot 33,.row 1000000,.box 1000001 0],[i64,i64,i64],λp=>0<=p.1/\p.1<=(code.getD (s.intAt 14).toNat ins0).to.length/\p.2.1=0/\
   C4 E9 (E2 (code.take (s.intAt 14).toNat)++(code.getD (s.intAt 14).toNat ins0).from_.map (λn=>(n,false))++((code.getD (s.intAt 14).toNat ins0).to.take p.1.toNat).map (λn=>(n,true))) e0=(false,p.2.2.1),λp=>(code.getD (s.intAt 14).toNat ins0).to.length-p.1.toNat,[]⟩
 |_=>⟨[],[.slot 46,.row 1000000,.box 1000001 0],[i64,i64,i64],λp=>0<=p.1/\p.1<=out.length/\p.2.1=0/\C4 E9 (E2 code++(out.take p.1.toNat).map (λn=>(n,false))) e0=(false,p.2.2.1),λp=>out.length-p.1.toNat,[]⟩
def bj4 (params:Int) (code:List Ins) (out:List Int) (e0:Int) (m0:List (Int×Bool)):Nat->St RU->Ann RU:=λk s=>match k with
 |0=>⟨[],[.slot 14,.row 1000000,.box 1000001 0,.row 1000003],[i64,i64,i64,mapB],λp=>0<=p.1/\p.1<=code.length/\p.2.1=0/\C4 (E0 params) (E2 (code.take p.1.toNat)) (e0,m0)=(false,p.2.2.1,p.2.2.2.1),λp=>code.length-p.1.toNat,[]⟩
 |1=>⟨[],[.slot 21,.row 1000000,.box 1000001 0,.row 1000003],[i64,i64,i64,mapB],λp=>0<=p.1/\p.1<=(code.getD (s.intAt 14).toNat ins0).from_.length/\p.2.1=0/\
   C4 (E0 params) (E2 (code.take (s.intAt 14).toNat)++((code.getD (s.intAt 14).toNat ins0).from_.take p.1.toNat).map (λn=>(n,false))) (e0,m0)=(false,p.2.2.1,p.2.2.2.1),λp=>(code.getD (s.intAt 14).toNat ins0).from_.length-p.1.toNat,[]⟩
 |2=>⟨[],[.slot 33,.row 1000000,.box 1000001 0,.row 1000003],[i64,i64,i64,mapB],λp=>0<=p.1/\p.1<=(code.getD (s.intAt 14).toNat ins0).to.length/\p.2.1=0/\
   C4 (E0 params) (E2 (code.take (s.intAt 14).toNat)++(code.getD (s.intAt 14).toNat ins0).from_.map (λn=>(n,false))++((code.getD (s.intAt 14).toNat ins0).to.take p.1.toNat).map (λn=>(n,true))) (e0,m0)=(false,p.2.2.1,p.2.2.2.1),λp=>(code.getD (s.intAt 14).toNat ins0).to.length-p.1.toNat,[]⟩
 |_=>⟨[],[.slot 46,.row 1000000,.box 1000001 0,.row 1000003],[i64,i64,i64,mapB],λp=>0<=p.1/\p.1<=out.length/\p.2.1=0/\C4 (E0 params) (E2 code++(out.take p.1.toNat).map (λn=>(n,false))) (e0,m0)=(false,p.2.2.1,p.2.2.2.1),λp=>out.length-p.1.toNat,[]⟩
abbrev yl1:List (Nat×Nat):=[(0,0),(1,1)]
abbrev yl2:List (Nat×Nat):=[(0,0),(1,1),(2,2),(3,3),(4,4)]
theorem bU1 (a:Int) (b:List Ins) (c d:List Int):vc (EV []) noL Go.Proofs.Tryd.f76 cNamed (a,b,c,d,())=(let e:Int×List Ins×List Int×List Int×Unit:=(a,b,c,d,());
 Small RU (Sigma.mk (Ty.slice (52:Nat) (Ty.user (0:Nat))) b)->
 Small RU (Sigma.mk (Ty.slice (3:Nat) (Ty.int IntKind.i64)) c)->Small RU (Sigma.mk (Ty.slice (3:Nat) (Ty.int IntKind.i64)) d)->e=e):=by kernel_rfl
theorem ck8 (n a:Int) (b:List Ins) (c d:List Int) (m:List (Int×Bool)):vc (EV []) noL Go.Proofs.Tryd.f77 (cIs tysC objC [0,1] isC) (n,a,b,c,d,m,())=(let e:Int×List Ins×List Int×List Int×List (Int×Bool)×Unit:=(a,b,c,d,m,());
 Small RU (Sigma.mk (Ty.slice (52:Nat) (Ty.user (0:Nat))) b)->
 Small RU (Sigma.mk (Ty.slice (3:Nat) (Ty.int IntKind.i64)) c)->
 Small RU (Sigma.mk (Ty.slice (3:Nat) (Ty.int IntKind.i64)) d)->(decide (n<a)||Option.getD (mget (λ(x y:Int)=>x==y) m n) false,e)=(isC e n,e)):=by kernel_rfl
theorem cc9 (n a:Int) (b:List Ins) (c d:List Int) (m:List (Int×Bool)):vc (EV [(77,cIs tysC objC [0,1] isC)]) noL Go.Proofs.Tryd.f99 (cIsN 77 tysC al4 [0,1] isC) (n,a,b,c,d,m,())=(let e:Bool×Int×List Ins×List Int×List Int×List (Int×Bool)×Unit:=(!isC (a,b,c,d,m,()) n,a,b,c,d,m,());
 Small RU (Sigma.mk (Ty.slice (52:Nat) (Ty.user (0:Nat))) b)->
 Small RU (Sigma.mk (Ty.slice (3:Nat) (Ty.int IntKind.i64)) c)->
 Small RU (Sigma.mk (Ty.slice (3:Nat) (Ty.int IntKind.i64)) d)->(((a=a/\b=b/\c=c/\d=d/\True)/\True)/\m=m/\True)/\e=e):=by kernel_rfl
theorem cd0 (l:List Int) (a:Int) (b:List Ins) (c d:List Int) (m:List (Int×Bool)):vc (EV [(99,cIsN 77 tysC al4 [0,1] isC)]) (aS9 l (isC (a,b,c,d,m,()))) Go.Proofs.Tryd.f106 (al2 77 tysC al4 [0,1] isC) (l,a,b,c,d,m,())=(let f:Int×List Ins×List Int×List Int×List (Int×Bool)×Unit:=(a,b,c,d,m,());
 let g:Int×Int×List Ins×List Int×List Int×List (Int×Bool)×Unit:=
  (Option.getD (Option.map (λ(i:Nat)=>(↑i:Int)) (List.findIdx? (λ(n:Int)=>!isC f n) l)) (-1:Int),f);
 let e:Int:=(↑(List.length l):Int);
  Small RU (Sigma.mk (Ty.slice (3:Nat) (Ty.int IntKind.i64)) l)->
  Small RU (Sigma.mk (Ty.slice (52:Nat) (Ty.user (0:Nat))) b)->
  Small RU (Sigma.mk (Ty.slice (3:Nat) (Ty.int IntKind.i64)) c)->
  Small RU (Sigma.mk (Ty.slice (3:Nat) (Ty.int IntKind.i64)) d)->
  (∃ (p:Int×Unit),l=l/\e=e/\(0:Int)=p.1/\a=a/\b=b/\c=c/\d=d/\m=m/\(0:Int)<=p.1/\p.1<=e/\List.all (List.take (Int.toNat p.1) l) (isC f)=true)/\
  ∀ (p:Int×Unit),
 let e0_1:Bool:=decide (p.1<e);
 let e1_1:Bool:=!isC f (List.getD l (Int.toNat p.1) (0:Int));
  (0:Int)<=p.1/\p.1<=e/\List.all (List.take (Int.toNat p.1) l) (isC f)=true->
  (e0_1=true->
  ((0:Int)<=p.1/\p.1<e)/\
  (((True/\a=a/\b=b/\c=c/\d=d/\True)/\True)/\m=m/\True)/\
  (e1_1=true->(p.1,f)=g)/\
  (e1_1=false->
  ∃ (p':Int×Unit),
  l=l/\
  e=e/\
  IntKind.i64.wrap (p.1+(1:Int))=p'.1/\
  a=a/\
  b=b/\
  c=c/\
  d=d/\
  m=m/\
  ((0:Int)<=p'.1/\p'.1<=e/\List.all (List.take (Int.toNat p'.1) l) (isC f)=true)/\
  List.length l-Int.toNat p'.1<List.length l-Int.toNat p.1))/\
  (e0_1=false->((-1:Int),f)=g)):=by kernel_rfl
theorem cd1 (l:List Int) (a:Int) (b:List Ins) (c d:List Int) (m:List (Int×Bool)):vc (EV [(106,al2 77 tysC al4 [0,1] isC)]) noL Go.Proofs.Tryd.f98 (al3 77 tysC al4 [0,1] isC) (l,a,b,c,d,m,())=(let e:Int×List Ins×List Int×List Int×List (Int×Bool)×Unit:=(a,b,c,d,m,());
 Small RU (Sigma.mk (Ty.slice (3:Nat) (Ty.int IntKind.i64)) l)->
 Small RU (Sigma.mk (Ty.slice (52:Nat) (Ty.user (0:Nat))) b)->
 Small RU (Sigma.mk (Ty.slice (3:Nat) (Ty.int IntKind.i64)) c)->
 Small RU (Sigma.mk (Ty.slice (3:Nat) (Ty.int IntKind.i64)) d)->
 (((True/\a=a/\b=b/\c=c/\d=d/\True)/\True)/\m=m/\True)/\
 (decide (Option.getD (Option.map (λ(i:Nat)=>(↑i:Int)) (List.findIdx? (λ(n:Int)=>!isC e n) l)) (-1:Int)>=(0:Int)),e)=(!List.all l (isC e),e)):=by kernel_rfl
theorem cd2 (l:List Int) (a:Int) (b:List Ins) (c d:List Int) (m:List (Int×Bool)):vc (EV [(98,al3 77 tysC al4 [0,1] isC)]) noL Go.Proofs.Tryd.f78 (cAll 77 tysC objC [0,1] isC) (l,a,b,c,d,m,())=(let e:Int×List Ins×List Int×List Int×List (Int×Bool)×Unit:=(a,b,c,d,m,());
 Small RU (Sigma.mk (Ty.slice (3:Nat) (Ty.int IntKind.i64)) l)->
 Small RU (Sigma.mk (Ty.slice (52:Nat) (Ty.user (0:Nat))) b)->
 Small RU (Sigma.mk (Ty.slice (3:Nat) (Ty.int IntKind.i64)) c)->
 Small RU (Sigma.mk (Ty.slice (3:Nat) (Ty.int IntKind.i64)) d)->
 (((True/\a=a/\b=b/\c=c/\d=d/\True)/\True)/\m=m/\True)/\(!!List.all l (isC e),e)=(List.all l (isC e),e)):=by kernel_rfl
theorem ck9 (n a:Int):vc (EV []) noL Go.Proofs.Tryd.f105 (cIs tysI objI [0] isI) (n,a,())=((decide ((0:Int)<=n)&&decide (n<a),a,())=(isI (a,()) n,a,())):=by kernel_rfl
theorem cd3 (n a:Int):vc (EV [(105,cIs tysI objI [0] isI)]) noL Go.Proofs.Tryd.f99 (cIsN 105 tysI objI [0] isI) (n,a,())=(let b:Bool×Int×Unit:=(!isI (a,()) n,a,());
 (a=a/\True)/\b=b):=by kernel_rfl
theorem cd4 (l:List Int) (a:Int):vc (EV [(99,cIsN 105 tysI objI [0] isI)]) (aS9 l (isI (a,()))) Go.Proofs.Tryd.f106 (al2 105 tysI objI [0] isI) (l,a,())=(let c:Int×Int×Unit:=(Option.getD (Option.map (λ(i:Nat)=>(↑i:Int)) (List.findIdx? (λ(n:Int)=>!isI (a,()) n) l)) (-1:Int),a,());
 let b:Int:=(↑(List.length l):Int);
  Small RU (Sigma.mk (Ty.slice (3:Nat) (Ty.int IntKind.i64)) l)->
  (∃ (p:Int×Unit),l=l/\b=b/\(0:Int)=p.1/\a=a/\(0:Int)<=p.1/\p.1<=b/\List.all (List.take (Int.toNat p.1) l) (isI (a,()))=true)/\
  ∀ (p:Int×Unit),
 let e0_1:Bool:=decide (p.1<b);
 let e1_1:Bool:=!isI (a,()) (List.getD l (Int.toNat p.1) (0:Int));
  (0:Int)<=p.1/\p.1<=b/\List.all (List.take (Int.toNat p.1) l) (isI (a,()))=true->
  (e0_1=true->
  ((0:Int)<=p.1/\p.1<b)/\
  (True/\a=a/\True)/\
  (e1_1=true->(p.1,a,())=c)/\
  (e1_1=false->
  ∃ (p':Int×Unit),
  l=l/\
  b=b/\
  IntKind.i64.wrap (p.1+(1:Int))=p'.1/\
  a=a/\
  ((0:Int)<=p'.1/\p'.1<=b/\List.all (List.take (Int.toNat p'.1) l) (isI (a,()))=true)/\
  List.length l-Int.toNat p'.1<List.length l-Int.toNat p.1))/\
  (e0_1=false->((-1:Int),a,())=c)):=by kernel_rfl
theorem cd5 (l:List Int) (a:Int):vc (EV [(106,al2 105 tysI objI [0] isI)]) noL Go.Proofs.Tryd.f98 (al3 105 tysI objI [0] isI) (l,a,())=(Small RU (Sigma.mk (Ty.slice (3:Nat) (Ty.int IntKind.i64)) l)->
 (True/\a=a/\True)/\
 (decide (Option.getD (Option.map (λ(i:Nat)=>(↑i:Int)) (List.findIdx? (λ(n:Int)=>!isI (a,()) n) l)) (-1:Int)>=(0:Int)),a,())=(!List.all l (isI (a,())),a,())):=by kernel_rfl
theorem cd6 (l:List Int) (a:Int):vc (EV [(98,al3 105 tysI objI [0] isI)]) noL Go.Proofs.Tryd.f78 (cAll 105 tysI objI [0] isI) (l,a,())=(Small RU (Sigma.mk (Ty.slice (3:Nat) (Ty.int IntKind.i64)) l)->(True/\a=a/\True)/\(!!List.all l (isI (a,())),a,())=(List.all l (isI (a,())),a,())):=by kernel_rfl
theorem cn1 (a:Int) (l:List Int):vc (EV [(78,cAll 105 tysI objI [0] isI)]) noL Go.Proofs.Tryd.f92 cIn (a,l,())=(Small RU (Sigma.mk (Ty.slice (3:Nat) (Ty.int IntKind.i64)) l)->(a=a/\True)/\(List.all l (isI (a,())),())=(List.all l λ(n:den RU.T i64)=>decide ((0:Int)<=n)&&decide (n<a),())):=by kernel_rfl
theorem cl0 (n:Int) (m:List (Place×Int)):vc (EV []) noL Go.Proofs.Tryd.f89 (cIs tysP objP [0] isP) (n,m,())=(let a:List (Place×Int)×Unit:=(m,());
 (Option.isSome (mget (E6 RU (Ty.user (2:Nat))) m (Place.mk false n)),a)=(isP a n,a)):=by kernel_rfl
theorem cd7 (n:Int) (m:List (Place×Int)):vc (EV [(89,cIs tysP objP [0] isP)]) noL Go.Proofs.Tryd.f99 (cIsN 89 tysP al5 [0] isP) (n,m,())=(let a:Bool×List (Place×Int)×Unit:=(!isP (m,()) n,m,());
 (True/\m=m/\True)/\a=a):=by kernel_rfl
theorem cd8 (l:List Int) (m:List (Place×Int)):vc (EV [(99,cIsN 89 tysP al5 [0] isP)]) (aS9 l (isP (m,()))) Go.Proofs.Tryd.f106 (al2 89 tysP al5 [0] isP) (l,m,())=(let c:Int×List (Place×Int)×Unit:=(Option.getD (Option.map (λ(i:Nat)=>(↑i:Int)) (List.findIdx? (λ(n:Int)=>!isP (m,()) n) l)) (-1:Int),m,());
 let a:Int:=(↑(List.length l):Int);
 let b:List (Place×Int)×Unit:=(m,());
  Small RU (Sigma.mk (Ty.slice (3:Nat) (Ty.int IntKind.i64)) l)->
  (∃ (p:Int×Unit),l=l/\a=a/\(0:Int)=p.1/\m=m/\(0:Int)<=p.1/\p.1<=a/\List.all (List.take (Int.toNat p.1) l) (isP b)=true)/\
  ∀ (p:Int×Unit),
 let e0_1:Bool:=decide (p.1<a);
 let e1_1:Bool:=!isP b (List.getD l (Int.toNat p.1) (0:Int));
  (0:Int)<=p.1/\p.1<=a/\List.all (List.take (Int.toNat p.1) l) (isP b)=true->
  (e0_1=true->
  ((0:Int)<=p.1/\p.1<a)/\
  ((True/\True)/\m=m/\True)/\
  (e1_1=true->(p.1,b)=c)/\
  (e1_1=false->
  ∃ (p':Int×Unit),
  l=l/\
  a=a/\
  IntKind.i64.wrap (p.1+(1:Int))=p'.1/\
  m=m/\
  ((0:Int)<=p'.1/\p'.1<=a/\List.all (List.take (Int.toNat p'.1) l) (isP b)=true)/\List.length l-Int.toNat p'.1<List.length l-Int.toNat p.1))/\
  (e0_1=false->((-1:Int),b)=c)):=by kernel_rfl
theorem cd9 (l:List Int) (m:List (Place×Int)):vc (EV [(106,al2 89 tysP al5 [0] isP)]) noL Go.Proofs.Tryd.f98 (al3 89 tysP al5 [0] isP) (l,m,())=(let a:List (Place×Int)×Unit:=(m,());
 Small RU (Sigma.mk (Ty.slice (3:Nat) (Ty.int IntKind.i64)) l)->
 ((True/\True)/\m=m/\True)/\
 (decide (Option.getD (Option.map (λ(i:Nat)=>(↑i:Int)) (List.findIdx? (λ(n:Int)=>!isP a n) l)) (-1:Int)>=(0:Int)),a)=(!List.all l (isP a),a)):=by kernel_rfl
theorem ce0 (l:List Int) (m:List (Place×Int)):vc (EV [(98,al3 89 tysP al5 [0] isP)]) noL Go.Proofs.Tryd.f78 (cAll 89 tysP objP [0] isP) (l,m,())=(let a:List (Place×Int)×Unit:=(m,());
 Small RU (Sigma.mk (Ty.slice (3:Nat) (Ty.int IntKind.i64)) l)->((True/\True)/\m=m/\True)/\(!!List.all l (isP a),a)=(List.all l (isP a),a)):=by kernel_rfl
theorem bI7 (st e a:Int) (b:List Ins) (c d:List Int):vc (EVy yl1 (some W7) []) (bj3 b c e) Go.Proofs.Tryd.f97 aS7 (st,e,a,b,c,d,())=(let g:Ins:=Ins.mk (0:Int) (0:Int) [] [] [];
 let m:Int×Int×Unit:=(stOf (C4 E9 (D6 b c) e).1,(C4 E9 (D6 b c) e).2,());
 let h:Int:=(↑(List.length b):Int);
 let i:Int:=(↑(List.length c):Int);
  Small RU (Sigma.mk (Ty.slice (52:Nat) (Ty.user (0:Nat))) b)->
  Small RU (Sigma.mk (Ty.slice (3:Nat) (Ty.int IntKind.i64)) c)->
  Small RU (Sigma.mk (Ty.slice (3:Nat) (Ty.int IntKind.i64)) d)->
  (∃ (p:Int×Int×Int×Unit),
  b=b/\
  h=h/\
  (0:Int)=p.1/\
  st=p.2.1/\
  e=p.2.2.1/\
  a=a/\b=b/\c=c/\d=d/\(0:Int)<=p.1/\p.1<=h/\p.2.1=(0:Int)/\C4 E9 (E2 (List.take (Int.toNat p.1) b)) e=(false,p.2.2.1))/\
  ∀ (p:Int×Int×Int×Unit),
 let e0_1:Bool:=decide (p.1<h);
 let e1_1:Int:=(↑(List.length (List.getD b (Int.toNat p.1) g).from_):Int);
 let e2_1:List Int:=(List.getD b (Int.toNat p.1) g).to;
 let e3_1:List Int:=(List.getD b (Int.toNat p.1) g).from_;
 let f:Int:=p.1;
 let j:Nat:=List.length (List.getD b (Int.toNat f) ins0).from_;
 let k:Int:=(↑(List.length e2_1):Int);
 let l:Nat:=List.length (List.getD b (Int.toNat f) ins0).to;
 let o:Int:=p.2.2.1;
  (0:Int)<=f/\f<=h/\p.2.1=(0:Int)/\C4 E9 (E2 (List.take (Int.toNat f) b)) e=(false,o)->
  (e0_1=true->
  ((0:Int)<=f/\f<h)/\
  (∃ (p_1:Int×Int×Int×Unit),
  b=b/\
  h=h/\
  f=f/\
  e0_1=e0_1/\
  e3_1=e3_1/\
  e1_1=e1_1/\
  (0:Int)=p_1.1/\
  p.2.1=p_1.2.1/\
  o=p_1.2.2.1/\
  a=a/\
  b=b/\
  c=c/\
  d=d/\
  (List.getD b (Int.toNat f) g).op=(List.getD b (Int.toNat f) g).op/\
  (List.getD b (Int.toNat f) g).n=(List.getD b (Int.toNat f) g).n/\
  e2_1=e2_1/\
  e3_1=e3_1/\
  (List.getD b (Int.toNat f) g).body=(List.getD b (Int.toNat f) g).body/\
  (0:Int)<=p_1.1/\
  p_1.1<=(↑j:Int)/\
  p_1.2.1=(0:Int)/\
  C4 E9
  (E2 (List.take (Int.toNat f) b)++
  List.map (λ(n:Int)=>(n,false)) (List.take (Int.toNat p_1.1) (List.getD b (Int.toNat f) ins0).from_))
  e=
  (false,p_1.2.2.1))/\
  ∀ (p:Int×Int×Int×Unit),
 let e0_2:Bool:=decide (p.1<e1_1);
 let e1_2:Int:=p.1;
 let e2_2:Bool:=!!(E9 p.2.2.1 (List.getD e3_1 (Int.toNat e1_2) (0:Int),false)).1;
 let i:Int:=stOf (E9 p.2.2.1 (List.getD e3_1 (Int.toNat e1_2) (0:Int),false)).1;
 let e4_1:Int:=(E9 p.2.2.1 (List.getD e3_1 (Int.toNat e1_2) (0:Int),false)).2;
 let e5_1:Int:=p.2.2.1;
 let e6_1:List Int:=(List.getD b (Int.toNat f) ins0).from_;
  (0:Int)<=e1_2/\
  e1_2<=(↑j:Int)/\
  p.2.1=(0:Int)/\C4 E9 (E2 (List.take (Int.toNat f) b)++List.map (λ(n:Int)=>(n,false)) (List.take (Int.toNat e1_2) e6_1)) e=(false,e5_1)->
  (e0_2=true->
  ((0:Int)<=e1_2/\e1_2<e1_1)/\
  p.2.1=(0:Int)/\
  (e2_2=true->(i,e4_1,())=m)/\
  (e2_2=false->
  ∃ (p':Int×Int×Int×Unit),
  b=b/\
  h=h/\
  f=f/\
  e0_1=e0_1/\
  e3_1=e3_1/\
  e1_1=e1_1/\
  IntKind.i64.wrap (e1_2+(1:Int))=p'.1/\
  i=p'.2.1/\
  e4_1=p'.2.2.1/\
  a=a/\
  b=b/\
  c=c/\
  d=d/\
  (List.getD b (Int.toNat f) g).op=(List.getD b (Int.toNat f) g).op/\
  (List.getD b (Int.toNat f) g).n=(List.getD b (Int.toNat f) g).n/\
  e2_1=e2_1/\
  e3_1=e3_1/\
  (List.getD b (Int.toNat f) g).body=(List.getD b (Int.toNat f) g).body/\
  ((0:Int)<=p'.1/\
  p'.1<=(↑j:Int)/\
  p'.2.1=(0:Int)/\
  C4 E9
  (E2 (List.take (Int.toNat f) b)++
  List.map (λ(n:Int)=>(n,false)) (List.take (Int.toNat p'.1) e6_1))
  e=
  (false,p'.2.2.1))/\
  j-Int.toNat p'.1<j-Int.toNat e1_2))/\
  (e0_2=false->
  (∃ (p_1:Int×Int×Int×Unit),
  b=b/\
  h=h/\
  f=f/\
  e0_1=e0_1/\
  e3_1=e3_1/\
  e1_1=e1_1/\
  e1_2=e1_2/\
  e0_2=e0_2/\
  e2_1=e2_1/\
  k=k/\
  (0:Int)=p_1.1/\
  p.2.1=p_1.2.1/\
  e5_1=p_1.2.2.1/\
  a=a/\
  b=b/\
  c=c/\
  d=d/\
  (List.getD b (Int.toNat f) g).op=(List.getD b (Int.toNat f) g).op/\
  (List.getD b (Int.toNat f) g).n=(List.getD b (Int.toNat f) g).n/\
  e2_1=e2_1/\
  e3_1=e3_1/\
  (List.getD b (Int.toNat f) g).body=(List.getD b (Int.toNat f) g).body/\
  (0:Int)<=p_1.1/\
  p_1.1<=(↑l:Int)/\
  p_1.2.1=(0:Int)/\
  C4 E9
  (E2 (List.take (Int.toNat f) b)++List.map (λ(n:Int)=>(n,false)) e6_1++
  List.map (λ(n:Int)=>(n,true)) (List.take (Int.toNat p_1.1) (List.getD b (Int.toNat f) ins0).to))
  e=
  (false,p_1.2.2.1))/\
  ∀ (p:Int×Int×Int×Unit),
 let e0_3:Bool:=!!(E9 p.2.2.1 (List.getD e2_1 (Int.toNat p.1) (0:Int),true)).1;
 let e1_3:Int:=stOf (E9 p.2.2.1 (List.getD e2_1 (Int.toNat p.1) (0:Int),true)).1;
 let e2_3:Int:=(E9 p.2.2.1 (List.getD e2_1 (Int.toNat p.1) (0:Int),true)).2;
 let i:List (Int×Bool):=E2 (List.take (Int.toNat f) b)++List.map (λ(n:Int)=>(n,false)) e6_1;
 let e4_2:Int:=p.1;
 let j:Bool:=decide (e4_2<k);
 let e6_2:Int:=p.2.2.1;
  (0:Int)<=e4_2/\
  e4_2<=(↑l:Int)/\
  p.2.1=(0:Int)/\
  C4 E9 (i++List.map (λ(n:Int)=>(n,true)) (List.take (Int.toNat e4_2) (List.getD b (Int.toNat f) ins0).to)) e=(false,e6_2)->
  (j=true->
  ((0:Int)<=e4_2/\e4_2<k)/\
  p.2.1=(0:Int)/\
  (e0_3=true->(e1_3,e2_3,())=m)/\
  (e0_3=false->
  ∃ (p':Int×Int×Int×Unit),
  b=b/\
  h=h/\
  f=f/\
  e0_1=e0_1/\
  e3_1=e3_1/\
  e1_1=e1_1/\
  e1_2=e1_2/\
  e0_2=e0_2/\
  e2_1=e2_1/\
  k=k/\
  IntKind.i64.wrap (e4_2+(1:Int))=p'.1/\
  e1_3=p'.2.1/\
  e2_3=p'.2.2.1/\
  a=a/\
  b=b/\
  c=c/\
  d=d/\
  (List.getD b (Int.toNat f) g).op=(List.getD b (Int.toNat f) g).op/\
  (List.getD b (Int.toNat f) g).n=(List.getD b (Int.toNat f) g).n/\
  e2_1=e2_1/\
  e3_1=e3_1/\
  (List.getD b (Int.toNat f) g).body=(List.getD b (Int.toNat f) g).body/\
  ((0:Int)<=p'.1/\
  p'.1<=(↑l:Int)/\
  p'.2.1=(0:Int)/\
  C4 E9
  (i++
  List.map (λ(n:Int)=>(n,true))
  (List.take (Int.toNat p'.1) (List.getD b (Int.toNat f) ins0).to))
  e=
  (false,p'.2.2.1))/\
  l-Int.toNat p'.1<l-Int.toNat e4_2))/\
  (j=false->
  ∃ (p':Int×Int×Int×Unit),
  b=b/\
  h=h/\
  IntKind.i64.wrap (f+(1:Int))=p'.1/\
  p.2.1=p'.2.1/\
  e6_2=p'.2.2.1/\
  a=a/\
  b=b/\
  c=c/\
  d=d/\
  ((0:Int)<=p'.1/\
  p'.1<=h/\p'.2.1=(0:Int)/\C4 E9 (E2 (List.take (Int.toNat p'.1) b)) e=(false,p'.2.2.1))/\
  List.length b-Int.toNat p'.1<List.length b-Int.toNat f)))/\
  (e0_1=false->
  (∃ (p_1:Int×Int×Int×Unit),
  b=b/\
  h=h/\
  f=f/\
  e0_1=e0_1/\
  c=c/\
  i=i/\
  (0:Int)=p_1.1/\
  p.2.1=p_1.2.1/\
  o=p_1.2.2.1/\
  a=a/\
  b=b/\
  c=c/\
  d=d/\
  (0:Int)<=p_1.1/\
  p_1.1<=i/\
  p_1.2.1=(0:Int)/\
  C4 E9 (E2 b++List.map (λ(n:Int)=>(n,false)) (List.take (Int.toNat p_1.1) c)) e=(false,p_1.2.2.1))/\
  ∀ (p:Int×Int×Int×Unit),
 let g:Bool:=!!(E9 p.2.2.1 (List.getD c (Int.toNat p.1) (0:Int),false)).1;
 let e1_2:Int:=stOf (E9 p.2.2.1 (List.getD c (Int.toNat p.1) (0:Int),false)).1;
 let e2_2:Int:=(E9 p.2.2.1 (List.getD c (Int.toNat p.1) (0:Int),false)).2;
 let e3_2:Int:=p.1;
 let e4_1:Bool:=decide (e3_2<i);
 let j:Int:=p.2.2.1;
  (0:Int)<=e3_2/\e3_2<=i/\p.2.1=(0:Int)/\C4 E9 (E2 b++List.map (λ(n:Int)=>(n,false)) (List.take (Int.toNat e3_2) c)) e=(false,j)->
  (e4_1=true->
  ((0:Int)<=e3_2/\e3_2<i)/\
  p.2.1=(0:Int)/\
  (g=true->(e1_2,e2_2,())=m)/\
  (g=false->
  ∃ (p':Int×Int×Int×Unit),
  b=b/\
  h=h/\
  f=f/\
  e0_1=e0_1/\
  c=c/\
  i=i/\
  IntKind.i64.wrap (e3_2+(1:Int))=p'.1/\
  e1_2=p'.2.1/\
  e2_2=p'.2.2.1/\
  a=a/\
  b=b/\
  c=c/\
  d=d/\
  ((0:Int)<=p'.1/\
  p'.1<=i/\
  p'.2.1=(0:Int)/\
  C4 E9 (E2 b++List.map (λ(n:Int)=>(n,false)) (List.take (Int.toNat p'.1) c)) e=(false,p'.2.2.1))/\
  List.length c-Int.toNat p'.1<List.length c-Int.toNat e3_2))/\
  (e4_1=false->(p.2.1,j,())=m))):=by kernel_rfl
theorem bI8 (st e:Int) (m:List (Int×Bool)) (x:Int) (y:List Ins) (z w:List Int) (a:Int) (b:List Ins) (c d:List Int):vc (EVy yl2 (some W8) []) (bj4 x b c e m) Go.Proofs.Tryd.f97 aS8 (st,e,m,x,y,z,w,a,b,c,d,())=(let r:Int×Int×List (Int×Bool)×Int×List Ins×List Int×List Int×Unit:=
  (stOf (C4 (E0 x) (D6 b c) (e,m)).1,(C4 (E0 x) (D6 b c) (e,m)).2.1,(C4 (E0 x) (D6 b c) (e,m)).2.2,x,y,z,w,());
 let f:Ins:=Ins.mk (0:Int) (0:Int) [] [] [];
 let s:Int×List Ins×List Int×List Int×Unit:=(x,y,z,w,());
 let h:Int:=(↑(List.length b):Int);
 let j:Int×List (Int×Bool):=(e,m);
 let i:Int:=(↑(List.length c):Int);
  Small RU (Sigma.mk (Ty.slice (52:Nat) (Ty.user (0:Nat))) y)->
  Small RU (Sigma.mk (Ty.slice (3:Nat) (Ty.int IntKind.i64)) z)->
  Small RU (Sigma.mk (Ty.slice (3:Nat) (Ty.int IntKind.i64)) w)->
  Small RU (Sigma.mk (Ty.slice (52:Nat) (Ty.user (0:Nat))) b)->
  Small RU (Sigma.mk (Ty.slice (3:Nat) (Ty.int IntKind.i64)) c)->
  Small RU (Sigma.mk (Ty.slice (3:Nat) (Ty.int IntKind.i64)) d)->
  (∃ (p:Int×Int×Int×List (Int×Bool)×Unit),
  b=b/\
  h=h/\
  (0:Int)=p.1/\
  st=p.2.1/\
  e=p.2.2.1/\
  m=p.2.2.2.1/\
  x=x/\
  y=y/\
  z=z/\
  w=w/\
  a=a/\
  b=b/\
  c=c/\
  d=d/\
  (0:Int)<=p.1/\
  p.1<=h/\p.2.1=(0:Int)/\C4 (E0 x) (E2 (List.take (Int.toNat p.1) b)) j=(false,p.2.2.1,p.2.2.2.1))/\
  ∀ (p:Int×Int×Int×List (Int×Bool)×Unit),
 let e0_1:Int:=(↑(List.length (List.getD b (Int.toNat p.1) f).from_):Int);
 let e1_1:Bool:=decide (p.1<h);
 let e2_1:List Int:=(List.getD b (Int.toNat p.1) f).to;
 let e3_1:Int:=p.1;
 let e4_1:List (Int×Bool):=p.2.2.2.1;
 let e5_1:Int:=p.2.2.1;
 let g:List Int:=(List.getD b (Int.toNat e3_1) f).from_;
 let k:Int:=p.2.1;
 let l:Nat:=List.length (List.getD b (Int.toNat e3_1) ins0).from_;
 let q:Int:=(↑(List.length e2_1):Int);
 let o:Nat:=List.length (List.getD b (Int.toNat e3_1) ins0).to;
  (0:Int)<=e3_1/\e3_1<=h/\k=(0:Int)/\C4 (E0 x) (E2 (List.take (Int.toNat e3_1) b)) j=(false,e5_1,e4_1)->
  (e1_1=true->
  ((0:Int)<=e3_1/\e3_1<h)/\
  (∃ (p:Int×Int×Int×List (Int×Bool)×Unit),
  b=b/\
  h=h/\
  e3_1=e3_1/\
  e1_1=e1_1/\
  g=g/\
  e0_1=e0_1/\
  (0:Int)=p.1/\
  k=p.2.1/\
  e5_1=p.2.2.1/\
  e4_1=p.2.2.2.1/\
  x=x/\
  y=y/\
  z=z/\
  w=w/\
  a=a/\
  b=b/\
  c=c/\
  d=d/\
  (List.getD b (Int.toNat e3_1) f).op=(List.getD b (Int.toNat e3_1) f).op/\
  (List.getD b (Int.toNat e3_1) f).n=(List.getD b (Int.toNat e3_1) f).n/\
  e2_1=e2_1/\
  g=g/\
  (List.getD b (Int.toNat e3_1) f).body=(List.getD b (Int.toNat e3_1) f).body/\
  (0:Int)<=p.1/\
  p.1<=(↑l:Int)/\
  p.2.1=(0:Int)/\
  C4 (E0 x)
  (E2 (List.take (Int.toNat e3_1) b)++
  List.map (λ(n:Int)=>(n,false)) (List.take (Int.toNat p.1) (List.getD b (Int.toNat e3_1) ins0).from_))
  j=
  (false,p.2.2.1,p.2.2.2.1))/\
  ∀ (p:Int×Int×Int×List (Int×Bool)×Unit),
 let e0_2:Bool:=decide (p.1<e0_1);
 let e1_2:List (Int×Bool):=(E0 x (p.2.2.1,p.2.2.2.1) (List.getD g (Int.toNat p.1) (0:Int),false)).2.2;
 let e2_2:Int:=(E0 x (p.2.2.1,p.2.2.2.1) (List.getD g (Int.toNat p.1) (0:Int),false)).2.1;
 let e3_2:Bool:=!!(E0 x (p.2.2.1,p.2.2.2.1) (List.getD g (Int.toNat p.1) (0:Int),false)).1;
 let e4_2:Int:=stOf (E0 x (p.2.2.1,p.2.2.2.1) (List.getD g (Int.toNat p.1) (0:Int),false)).1;
 let i:Int:=p.1;
 let e6_1:List (Int×Bool):=p.2.2.2.1;
 let k:Int:=p.2.2.1;
 let e8_1:Int:=p.2.1;
 let e9_1:List Int:=(List.getD b (Int.toNat e3_1) ins0).from_;
  (0:Int)<=i/\
  i<=(↑l:Int)/\
  e8_1=(0:Int)/\
  C4 (E0 x) (E2 (List.take (Int.toNat e3_1) b)++List.map (λ(n:Int)=>(n,false)) (List.take (Int.toNat i) e9_1)) j=(false,k,e6_1)->
  (e0_2=true->
  ((0:Int)<=i/\i<e0_1)/\
  (e8_1=(0:Int)/\x=x/\y=y/\z=z/\w=w/\True)/\
  (e3_2=true->(e4_2,e2_2,e1_2,s)=r)/\
  (e3_2=false->
  ∃ (p':Int×Int×Int×List (Int×Bool)×Unit),
  b=b/\
  h=h/\
  e3_1=e3_1/\
  e1_1=e1_1/\
  g=g/\
  e0_1=e0_1/\
  IntKind.i64.wrap (i+(1:Int))=p'.1/\
  e4_2=p'.2.1/\
  e2_2=p'.2.2.1/\
  e1_2=p'.2.2.2.1/\
  x=x/\
  y=y/\
  z=z/\
  w=w/\
  a=a/\
  b=b/\
  c=c/\
  d=d/\
  (List.getD b (Int.toNat e3_1) f).op=(List.getD b (Int.toNat e3_1) f).op/\
  (List.getD b (Int.toNat e3_1) f).n=(List.getD b (Int.toNat e3_1) f).n/\
  e2_1=e2_1/\
  g=g/\
  (List.getD b (Int.toNat e3_1) f).body=(List.getD b (Int.toNat e3_1) f).body/\
  ((0:Int)<=p'.1/\
  p'.1<=(↑l:Int)/\
  p'.2.1=(0:Int)/\
  C4 (E0 x)
  (E2 (List.take (Int.toNat e3_1) b)++
  List.map (λ(n:Int)=>(n,false)) (List.take (Int.toNat p'.1) e9_1))
  j=
  (false,p'.2.2.1,p'.2.2.2.1))/\
  l-Int.toNat p'.1<l-Int.toNat i))/\
  (e0_2=false->
  (∃ (p:Int×Int×Int×List (Int×Bool)×Unit),
  b=b/\
  h=h/\
  e3_1=e3_1/\
  e1_1=e1_1/\
  g=g/\
  e0_1=e0_1/\
  i=i/\
  e0_2=e0_2/\
  e2_1=e2_1/\
  q=q/\
  (0:Int)=p.1/\
  e8_1=p.2.1/\
  k=p.2.2.1/\
  e6_1=p.2.2.2.1/\
  x=x/\
  y=y/\
  z=z/\
  w=w/\
  a=a/\
  b=b/\
  c=c/\
  d=d/\
  (List.getD b (Int.toNat e3_1) f).op=(List.getD b (Int.toNat e3_1) f).op/\
  (List.getD b (Int.toNat e3_1) f).n=(List.getD b (Int.toNat e3_1) f).n/\
  e2_1=e2_1/\
  g=g/\
  (List.getD b (Int.toNat e3_1) f).body=(List.getD b (Int.toNat e3_1) f).body/\
  (0:Int)<=p.1/\
  p.1<=(↑o:Int)/\
  p.2.1=(0:Int)/\
  C4 (E0 x)
  (E2 (List.take (Int.toNat e3_1) b)++List.map (λ(n:Int)=>(n,false)) e9_1++
  List.map (λ(n:Int)=>(n,true))
  (List.take (Int.toNat p.1) (List.getD b (Int.toNat e3_1) ins0).to))
  j=
  (false,p.2.2.1,p.2.2.2.1))/\
  ∀ (p:Int×Int×Int×List (Int×Bool)×Unit),
 let e0_3:Int:=(E0 x (p.2.2.1,p.2.2.2.1) (List.getD e2_1 (Int.toNat p.1) (0:Int),true)).2.1;
 let e1_3:List (Int×Bool):=(E0 x (p.2.2.1,p.2.2.2.1) (List.getD e2_1 (Int.toNat p.1) (0:Int),true)).2.2;
 let e2_3:Bool:=!!(E0 x (p.2.2.1,p.2.2.2.1) (List.getD e2_1 (Int.toNat p.1) (0:Int),true)).1;
 let e3_3:Int:=stOf (E0 x (p.2.2.1,p.2.2.2.1) (List.getD e2_1 (Int.toNat p.1) (0:Int),true)).1;
 let e4_3:Int:=p.1;
 let e5_2:List (Int×Bool):=E2 (List.take (Int.toNat e3_1) b)++List.map (λ(n:Int)=>(n,false)) e9_1;
 let e6_2:List (Int×Bool):=p.2.2.2.1;
 let k:Int:=p.2.2.1;
 let l:Bool:=decide (e4_3<q);
 let e9_2:Int:=p.2.1;
  (0:Int)<=e4_3/\
  e4_3<=(↑o:Int)/\
  e9_2=(0:Int)/\
  C4 (E0 x) (e5_2++List.map (λ(n:Int)=>(n,true)) (List.take (Int.toNat e4_3) (List.getD b (Int.toNat e3_1) ins0).to)) j=
  (false,k,e6_2)->
  (l=true->
  ((0:Int)<=e4_3/\e4_3<q)/\
  (e9_2=(0:Int)/\x=x/\y=y/\z=z/\w=w/\True)/\
  (e2_3=true->(e3_3,e0_3,e1_3,s)=r)/\
  (e2_3=false->
  ∃ (p':Int×Int×Int×List (Int×Bool)×Unit),
  b=b/\
  h=h/\
  e3_1=e3_1/\
  e1_1=e1_1/\
  g=g/\
  e0_1=e0_1/\
  i=i/\
  e0_2=e0_2/\
  e2_1=e2_1/\
  q=q/\
  IntKind.i64.wrap (e4_3+(1:Int))=p'.1/\
  e3_3=p'.2.1/\
  e0_3=p'.2.2.1/\
  e1_3=p'.2.2.2.1/\
  x=x/\
  y=y/\
  z=z/\
  w=w/\
  a=a/\
  b=b/\
  c=c/\
  d=d/\
  (List.getD b (Int.toNat e3_1) f).op=(List.getD b (Int.toNat e3_1) f).op/\
  (List.getD b (Int.toNat e3_1) f).n=(List.getD b (Int.toNat e3_1) f).n/\
  e2_1=e2_1/\
  g=g/\
  (List.getD b (Int.toNat e3_1) f).body=(List.getD b (Int.toNat e3_1) f).body/\
  ((0:Int)<=p'.1/\
  p'.1<=(↑o:Int)/\
  p'.2.1=(0:Int)/\
  C4 (E0 x)
  (e5_2++
  List.map (λ(n:Int)=>(n,true))
  (List.take (Int.toNat p'.1) (List.getD b (Int.toNat e3_1) ins0).to))
  j=
  (false,p'.2.2.1,p'.2.2.2.1))/\
  o-Int.toNat p'.1<o-Int.toNat e4_3))/\
  (l=false->
  ∃ (p':Int×Int×Int×List (Int×Bool)×Unit),
  b=b/\
  h=h/\
  IntKind.i64.wrap (e3_1+(1:Int))=p'.1/\
  e9_2=p'.2.1/\
  k=p'.2.2.1/\
  e6_2=p'.2.2.2.1/\
  x=x/\
  y=y/\
  z=z/\
  w=w/\
  a=a/\
  b=b/\
  c=c/\
  d=d/\
  ((0:Int)<=p'.1/\
  p'.1<=h/\
  p'.2.1=(0:Int)/\
  C4 (E0 x) (E2 (List.take (Int.toNat p'.1) b)) j=(false,p'.2.2.1,p'.2.2.2.1))/\
  List.length b-Int.toNat p'.1<List.length b-Int.toNat e3_1)))/\
  (e1_1=false->
  (∃ (p:Int×Int×Int×List (Int×Bool)×Unit),
  b=b/\
  h=h/\
  e3_1=e3_1/\
  e1_1=e1_1/\
  c=c/\
  i=i/\
  (0:Int)=p.1/\
  k=p.2.1/\
  e5_1=p.2.2.1/\
  e4_1=p.2.2.2.1/\
  x=x/\
  y=y/\
  z=z/\
  w=w/\
  a=a/\
  b=b/\
  c=c/\
  d=d/\
  (0:Int)<=p.1/\
  p.1<=i/\
  p.2.1=(0:Int)/\
  C4 (E0 x) (E2 b++List.map (λ(n:Int)=>(n,false)) (List.take (Int.toNat p.1) c)) j=
  (false,p.2.2.1,p.2.2.2.1))/\
  ∀ (p:Int×Int×Int×List (Int×Bool)×Unit),
 let e0_2:Int:=(E0 x (p.2.2.1,p.2.2.2.1) (List.getD c (Int.toNat p.1) (0:Int),false)).2.1;
 let f:List (Int×Bool):=(E0 x (p.2.2.1,p.2.2.2.1) (List.getD c (Int.toNat p.1) (0:Int),false)).2.2;
 let e2_2:Bool:=!!(E0 x (p.2.2.1,p.2.2.2.1) (List.getD c (Int.toNat p.1) (0:Int),false)).1;
 let e3_2:Int:=stOf (E0 x (p.2.2.1,p.2.2.2.1) (List.getD c (Int.toNat p.1) (0:Int),false)).1;
 let e4_2:Int:=p.1;
 let e5_2:List (Int×Bool):=p.2.2.2.1;
 let g:Int:=p.2.2.1;
 let k:Bool:=decide (e4_2<i);
 let l:Int:=p.2.1;
  (0:Int)<=e4_2/\e4_2<=i/\l=(0:Int)/\C4 (E0 x) (E2 b++List.map (λ(n:Int)=>(n,false)) (List.take (Int.toNat e4_2) c)) j=(false,g,e5_2)->
  (k=true->
  ((0:Int)<=e4_2/\e4_2<i)/\
  (l=(0:Int)/\x=x/\y=y/\z=z/\w=w/\True)/\
  (e2_2=true->(e3_2,e0_2,f,s)=r)/\
  (e2_2=false->
  ∃ (p':Int×Int×Int×List (Int×Bool)×Unit),
  b=b/\
  h=h/\
  e3_1=e3_1/\
  e1_1=e1_1/\
  c=c/\
  i=i/\
  IntKind.i64.wrap (e4_2+(1:Int))=p'.1/\
  e3_2=p'.2.1/\
  e0_2=p'.2.2.1/\
  f=p'.2.2.2.1/\
  x=x/\
  y=y/\
  z=z/\
  w=w/\
  a=a/\
  b=b/\
  c=c/\
  d=d/\
  ((0:Int)<=p'.1/\
  p'.1<=i/\
  p'.2.1=(0:Int)/\
  C4 (E0 x) (E2 b++List.map (λ(n:Int)=>(n,false)) (List.take (Int.toNat p'.1) c)) j=
  (false,p'.2.2.1,p'.2.2.2.1))/\
  List.length c-Int.toNat p'.1<List.length c-Int.toNat e4_2))/\
  (k=false->(l,g,e5_2,s)=r))):=by kernel_rfl
theorem bj5:C5 prog RG 76 cNamed:=E1 B8 (λ_=>noL) (by kernel_rfl) (by kernel_rfl) (by kernel_rfl) λ(a,b,c,d,()) _=>(bU1 a b c d).mpr (by
 dsimp only;intros;rfl)
theorem bb2 {is:Int->Bool}:∀ {l:List Int} {m:Nat},(l.take m).all is=true->m<l.length->(!is (l.getD m 0))=true->l.findIdx? (λn=>!is n)=some m
 |x::r,0,_,_,h=>by simp only [List.getD_cons_zero] at h;simp [List.findIdx?_cons,h]
 |x::r,m+1,h1,h2,h=>by simp only [List.take_succ_cons,List.all_cons,cn7] at h1;have:=bb2 (is:=is) (l:=r) (m:=m) h1.2 (by simpa using h2) (by simpa using h);simp [List.findIdx?_cons,h1.1,this]
theorem bs0 {is:Int->Bool} {l:List Int} (h:l.all is=true):l.findIdx? (λn=>!is n)=none:=by rw [List.findIdx?_eq_none_iff];intro x a;rw [cq4.1 h x a];rfl
theorem bj6 (is:Int->Bool) (l:List Int):decide (((l.findIdx? (λn=>!is n)).map (λ(i:Nat)=>(i:Int))).getD (-1)>=0)=!(l.all is):=by
 cases h:l.all is with
 |true=>rw [bs0 h];rfl
 |false=>
  cases hf:l.findIdx? (λn=>!is n) with
  |none=>
   rw [List.findIdx?_eq_none_iff] at hf;have:l.all is=true:=cq4.2 λx a=>by have:=hf x a;simpa using this
   rw [h] at this;cases this
  |some i=>simp
theorem bj7 {T:Type} (is:Int->Bool) (l:List Int) (e:T) (hl:l.length<=140737488355328) {R:Int×T} (d:R=(((l.findIdx? (λn=>!is n)).map (λ(i:Nat)=>(i:Int))).getD (-1),e)):
  (∃ p:Int×Unit,(0:Int)=p.1/\0<=p.1/\p.1<=(l.length:Int)/\(l.take p.1.toNat).all is=true)/\
  ∀ p:Int×Unit,0<=p.1/\p.1<=(l.length:Int)/\(l.take p.1.toNat).all is=true->
   (decide (p.1<(l.length:Int))=true->(0<=p.1/\p.1<(l.length:Int))/\((!is (l.getD p.1.toNat 0))=true->(p.1,e)=R)/\
    ((!is (l.getD p.1.toNat 0))=false->∃ p':Int×Unit,IntKind.i64.wrap (p.1+1)=p'.1/\(0<=p'.1/\p'.1<=(l.length:Int)/\(l.take p'.1.toNat).all is=true)/\l.length-p'.1.toNat<l.length-p.1.toNat))/\
   (decide (p.1<(l.length:Int))=false->((-1:Int),e)=R):=by
 refine ⟨⟨(0,()),rfl,Int.le_refl _,by dsimp only;omega,by simp⟩,?_⟩;rintro ⟨i,⟨⟩⟩ ⟨h0,h1,h2⟩;dsimp only at h0 h1 h2 |-;obtain ⟨m,rfl⟩:=co0 h0;simp only [cn8] at h2 |-;refine ⟨λa=>?_,λb=>?_⟩
 .have a:(m:Int)<l.length:=co4 a;refine ⟨⟨h0,a⟩,λc=>?_,λc=>⟨((m+1:Nat),()),B4 (by omega) hl,⟨by omega,by dsimp only;omega,?_⟩,by dsimp only;omega⟩⟩
  .rw [d,bb2 h2 (by omega) c];rfl
  .rw [cn8,A4 (by omega) 0,List.all_append,h2];simpa using c
 .have f:m=l.length:=by have:¬ (m:Int)<l.length:=co3 b;omega
  subst f;rw [cq2] at h2;rw [d,bs0 h2];rfl
theorem cl1 (n a:Int) (b:List Ins) (c d:List Int) (m:List (Int×Bool)):vc (EV []) noL Go.Proofs.Tryd.f77 (cIs tysC objC [0,1] isC) (n,a,b,c,d,m,()):=(ck8 n a b c d m).mpr (by
 dsimp only;intros;rfl)
theorem bI9:C5 prog RG 77 (cIs tysC objC [0,1] isC):=E1 B8 (λ_=>noL) (by kernel_rfl) (by kernel_rfl) (by kernel_rfl) λ(n,a,b,c,d,m,()) _=>cl1 n a b c d m
theorem ce1 (n a:Int) (b:List Ins) (c d:List Int) (m:List (Int×Bool)):vc (EV [(77,cIs tysC objC [0,1] isC)]) noL Go.Proofs.Tryd.f99 (cIsN 77 tysC al4 [0,1] isC) (n,a,b,c,d,m,()):=(cc9 n a b c d m).mpr (by
 dsimp only;intros;simp)
theorem bw4:C5 prog RG 99 (cIsN 77 tysC al4 [0,1] isC):=E1 (A6 bI9 B8) (λ_=>noL) (by kernel_rfl) (by kernel_rfl) (by kernel_rfl) λ(n,a,b,c,d,m,()) _=>ce1 n a b c d m
theorem ce2 (l:List Int) (a:Int) (b:List Ins) (c d:List Int) (m:List (Int×Bool)):vc (EV [(99,cIsN 77 tysC al4 [0,1] isC)]) (aS9 l (isC (a,b,c,d,m,()))) Go.Proofs.Tryd.f106 (al2 77 tysC al4 [0,1] isC) (l,a,b,c,d,m,()):=(cd0 l a b c d m).mpr (by
 dsimp only;intro hs _ _ _;simp only [true_and,and_true];exact bj7 (isC (a,b,c,d,m,())) l _ hs.len rfl)
theorem bw5:C5 prog RG 106 (al2 77 tysC al4 [0,1] isC):=E1 (A6 bw4 B8) (λp=>aS9 p.1 (isC p.2)) (by kernel_rfl) (by kernel_rfl) (by kernel_rfl) λ(l,a,b,c,d,m,()) _=>ce2 l a b c d m
theorem ce3 (l:List Int) (a:Int) (b:List Ins) (c d:List Int) (m:List (Int×Bool)):vc (EV [(106,al2 77 tysC al4 [0,1] isC)]) noL Go.Proofs.Tryd.f98 (al3 77 tysC al4 [0,1] isC) (l,a,b,c,d,m,()):=(cd1 l a b c d m).mpr (by
 dsimp only;intros;rw [bj6];simp)
theorem bw6:C5 prog RG 98 (al3 77 tysC al4 [0,1] isC):=E1 (A6 bw5 B8) (λ_=>noL) (by kernel_rfl) (by kernel_rfl) (by kernel_rfl) λ(l,a,b,c,d,m,()) _=>ce3 l a b c d m
theorem ce4 (l:List Int) (a:Int) (b:List Ins) (c d:List Int) (m:List (Int×Bool)):vc (EV [(98,al3 77 tysC al4 [0,1] isC)]) noL Go.Proofs.Tryd.f78 (cAll 77 tysC objC [0,1] isC) (l,a,b,c,d,m,()):=(cd2 l a b c d m).mpr (by
 dsimp only;intros;simp)
theorem bw7:C5 prog RG 78 (cAll 77 tysC objC [0,1] isC):=E1 (A6 bw6 B8) (λ_=>noL) (by kernel_rfl) (by kernel_rfl) (by kernel_rfl) λ(l,a,b,c,d,m,()) _=>ce4 l a b c d m
theorem cl2 (n a:Int):vc (EV []) noL Go.Proofs.Tryd.f105 (cIs tysI objI [0] isI) (n,a,()):=(ck9 n a).mpr rfl
theorem bJ0:C5 prog RG 105 (cIs tysI objI [0] isI):=E1 B8 (λ_=>noL) (by kernel_rfl) (by kernel_rfl) (by kernel_rfl) λ(n,a,()) _=>cl2 n a
theorem ce5 (n a:Int):vc (EV [(105,cIs tysI objI [0] isI)]) noL Go.Proofs.Tryd.f99 (cIsN 105 tysI objI [0] isI) (n,a,()):=(cd3 n a).mpr (by simp)
theorem bw8:C5 prog RG 99 (cIsN 105 tysI objI [0] isI):=E1 (A6 bJ0 B8) (λ_=>noL) (by kernel_rfl) (by kernel_rfl) (by kernel_rfl) λ(n,a,()) _=>ce5 n a
theorem ce6 (l:List Int) (a:Int):vc (EV [(99,cIsN 105 tysI objI [0] isI)]) (aS9 l (isI (a,()))) Go.Proofs.Tryd.f106 (al2 105 tysI objI [0] isI) (l,a,()):=(cd4 l a).mpr (by
 dsimp only;intro hs;simp only [true_and,and_true];exact bj7 (isI (a,())) l _ hs.len rfl)
theorem bw9:C5 prog RG 106 (al2 105 tysI objI [0] isI):=E1 (A6 bw8 B8) (λp=>aS9 p.1 (isI p.2)) (by kernel_rfl) (by kernel_rfl) (by kernel_rfl) λ(l,a,()) _=>ce6 l a
theorem ce7 (l:List Int) (a:Int):vc (EV [(106,al2 105 tysI objI [0] isI)]) noL Go.Proofs.Tryd.f98 (al3 105 tysI objI [0] isI) (l,a,()):=(cd5 l a).mpr (by
 intros;rw [bj6];simp)
theorem bx0:C5 prog RG 98 (al3 105 tysI objI [0] isI):=E1 (A6 bw9 B8) (λ_=>noL) (by kernel_rfl) (by kernel_rfl) (by kernel_rfl) λ(l,a,()) _=>ce7 l a
theorem ce8 (l:List Int) (a:Int):vc (EV [(98,al3 105 tysI objI [0] isI)]) noL Go.Proofs.Tryd.f78 (cAll 105 tysI objI [0] isI) (l,a,()):=(cd6 l a).mpr (by
 intros;simp)
theorem bx1:C5 prog RG 78 (cAll 105 tysI objI [0] isI):=E1 (A6 bx0 B8) (λ_=>noL) (by kernel_rfl) (by kernel_rfl) (by kernel_rfl) λ(l,a,()) _=>ce8 l a
theorem bU2:C5 prog RG 92 cIn:=E1 (A6 bx1 B8) (λ_=>noL) (by kernel_rfl) (by kernel_rfl) (by kernel_rfl) λ(a,l,()) _=>(cn1 a l).mpr (by
 intros;exact ⟨⟨rfl,trivial⟩,rfl⟩)
theorem cl3 (n:Int) (m:List (Place×Int)):vc (EV []) noL Go.Proofs.Tryd.f89 (cIs tysP objP [0] isP) (n,m,()):=(cl0 n m).mpr rfl
theorem bJ1:C5 prog RG 89 (cIs tysP objP [0] isP):=E1 B8 (λ_=>noL) (by kernel_rfl) (by kernel_rfl) (by kernel_rfl) λ(n,m,()) _=>cl3 n m
theorem ce9 (n:Int) (m:List (Place×Int)):vc (EV [(89,cIs tysP objP [0] isP)]) noL Go.Proofs.Tryd.f99 (cIsN 89 tysP al5 [0] isP) (n,m,()):=(cd7 n m).mpr (by simp)
theorem bx2:C5 prog RG 99 (cIsN 89 tysP al5 [0] isP):=E1 (A6 bJ1 B8) (λ_=>noL) (by kernel_rfl) (by kernel_rfl) (by kernel_rfl) λ(n,m,()) _=>ce9 n m
theorem cf0 (l:List Int) (m:List (Place×Int)):vc (EV [(99,cIsN 89 tysP al5 [0] isP)]) (aS9 l (isP (m,()))) Go.Proofs.Tryd.f106 (al2 89 tysP al5 [0] isP) (l,m,()):=(cd8 l m).mpr (by
 dsimp only;intro hs;simp only [true_and,and_true];exact bj7 (isP (m,())) l _ hs.len rfl)
theorem bx3:C5 prog RG 106 (al2 89 tysP al5 [0] isP):=E1 (A6 bx2 B8) (λp=>aS9 p.1 (isP p.2)) (by kernel_rfl) (by kernel_rfl) (by kernel_rfl) λ(l,m,()) _=>cf0 l m
theorem cf1 (l:List Int) (m:List (Place×Int)):vc (EV [(106,al2 89 tysP al5 [0] isP)]) noL Go.Proofs.Tryd.f98 (al3 89 tysP al5 [0] isP) (l,m,()):=(cd9 l m).mpr (by
 dsimp only;intros;rw [bj6];simp)
theorem bx4:C5 prog RG 98 (al3 89 tysP al5 [0] isP):=E1 (A6 bx3 B8) (λ_=>noL) (by kernel_rfl) (by kernel_rfl) (by kernel_rfl) λ(l,m,()) _=>cf1 l m
theorem cf2 (l:List Int) (m:List (Place×Int)):vc (EV [(98,al3 89 tysP al5 [0] isP)]) noL Go.Proofs.Tryd.f78 (cAll 89 tysP objP [0] isP) (l,m,()):=(ce0 l m).mpr (by
 dsimp only;intros;simp)
theorem bx5:C5 prog RG 78 (cAll 89 tysP objP [0] isP):=E1 (A6 bx4 B8) (λ_=>noL) (by kernel_rfl) (by kernel_rfl) (by kernel_rfl) λ(l,m,()) _=>cf2 l m
theorem ae3 {α S:Type} (step:S->α->Bool×S):∀ (l m:List α) (s:S),C4 step (l++m) s=if (C4 step l s).1 then C4 step l s else C4 step m (C4 step l s).2
 |[],m,s=>by simp [C4]
 |x::r,m,s=>by
  simp only [List.cons_append,C4];split
  .rename_i h;simp
  .exact ae3 step r m _
theorem bU3 {α S:Type} {step:S->α->Bool×S} {l:List α} {s s':S} (h:C4 step l s=(false,s')) (m:List α):C4 step (l++m) s=C4 step m s':=by rw [ae3,h];simp
theorem bx6 {α S:Type} {step:S->α->Bool×S} {l:List α} {s s':S} (h:C4 step l s=(true,s')) (m:List α):C4 step (l++m) s=(true,s'):=by rw [ae3,h];simp
theorem bJ2 {α S:Type} (step:S->α->Bool×S) (x:α) (s:S):C4 step [x] s=step s x:=by
 simp only [C4];split
 .rename_i h;exact Prod.ext h.symm rfl
 .rename_i h;exact Prod.ext (by simpa using h) rfl
end Go.Rg
end
section
namespace Go.Rg
open Go Go.VT
theorem av5 {α S:Type} {step:S->α->Bool×S} {P L:List α} {s s':S} (h:P<+:L) (hr:C4 step P s=(true,s')):C4 step L s=(true,s'):=by obtain ⟨r,rfl⟩:=h;exact bx6 hr r
abbrev fr (n:Int):Int×Bool:=(n,false)
theorem al6 {b:List Ins} {k:Nat} (h:k<b.length):E2 (b.take (k+1))=E2 (b.take k)++((b.getD k ins0).from_.map (λn=>(n,false))++(b.getD k ins0).to.map (λn=>(n,true))):=by rw [A4 h ins0];simp [E2]
theorem aT0 (b:List Ins) (k:Nat):E2 (b.take k)<+:E2 b:=by refine ⟨E2 (b.drop k),?_⟩;rw [E2,E2,<-List.flatMap_append,List.take_append_drop];rfl
theorem bJ3 {b:List Ins} (c:List Int) {k:Nat} (h:k<b.length) (j:Nat):E2 (b.take k)++(b.getD k ins0).from_.map (λn=>(n,false))++((b.getD k ins0).to.take j).map (λn=>(n,true))<+:D6 b c:=by refine List.IsPrefix.trans ?_ ((aT0 b (k+1)).trans (List.prefix_append _ _));rw [al6 h,<-cq0];refine ⟨((b.getD k ins0).to.drop j).map (λn=>(n,true)),?_⟩;rw [cq0,<-List.map_append,List.take_append_drop]
theorem bs1 {b:List Ins} (c:List Int) {k:Nat} (h:k<b.length) (j:Nat):E2 (b.take k)++((b.getD k ins0).from_.take j).map (λn=>(n,false))<+:D6 b c:=by refine List.IsPrefix.trans ?_ (bJ3 c h 0);refine ⟨((b.getD k ins0).from_.drop j).map (λn=>(n,false)),?_⟩;rw [cq0,<-List.map_append,List.take_append_drop];simp
theorem bJ4 (b:List Ins) (c:List Int) (j:Nat):E2 b++(c.take j).map (λn=>(n,false))<+:D6 b c:=by refine ⟨(c.drop j).map (λn=>(n,false)),?_⟩;rw [cq0,<-List.map_append,List.take_append_drop];rfl
theorem aN2 {α S:Type} {step:S->α->Bool×S} {A:List α} {l:List Int} {k:Nat} (mk:Int->α) {s s':S} (h:C4 step (A++(l.take k).map mk) s=(false,s')) (a:k<l.length):C4 step (A++(l.take (k+1)).map mk) s=step s' (mk (l.getD k 0)):=by rw [A4 a 0,List.map_append,<-cq0,bU3 h];exact bJ2 _ _ _
theorem aG0 {b:List Ins} (a:Small RU ⟨.slice 52 (.user 0),b⟩) {k:Nat} (h:k<b.length):(b.getD k ins0).from_.length<=140737488355328:=by
 have c:b[k]? =some (b.getD k ins0):=by rw [co8,cn6 h];rfl
 exact (a.elem (x:=b.getD k ins0) c (j:=3) (d:=⟨.slice 3 (.int .i64),(b.getD k ins0).from_⟩) rfl).len
theorem aG1 {b:List Ins} (a:Small RU ⟨.slice 52 (.user 0),b⟩) {k:Nat} (h:k<b.length):(b.getD k ins0).to.length<=140737488355328:=by
 have c:b[k]? =some (b.getD k ins0):=by rw [co8,cn6 h];rfl
 exact (a.elem (x:=b.getD k ins0) c (j:=2) (d:=⟨.slice 3 (.int .i64),(b.getD k ins0).to⟩) rfl).len
section
variable {A:List (Int×Bool)} {l:List Int} {mk:Int->Int×Bool} {e:Int} {L:List (Int×Bool)}
theorem bJ5 {g:Int×Int×Unit} (hl:l.length<=140737488355328) (c:∀ k,A++(l.take k).map mk<+:L) (f:g=(stOf (C4 E9 L e).1,(C4 E9 L e).2,())) (p:Int×Int×Int×Unit)
  (h:0<=p.1/\p.1<=(l.length:Int)/\p.2.1=0/\C4 E9 (A++(l.take p.1.toNat).map mk) e=(false,p.2.2.1)) (b:decide (p.1<(l.length:Int))=true):
  (0<=p.1/\p.1<(l.length:Int))/\p.2.1=0/\((!!(E9 p.2.2.1 (mk (l.getD p.1.toNat 0))).1)=true->(stOf (E9 p.2.2.1 (mk (l.getD p.1.toNat 0))).1,(E9 p.2.2.1 (mk (l.getD p.1.toNat 0))).2,())=g)/\
   ((!!(E9 p.2.2.1 (mk (l.getD p.1.toNat 0))).1)=false->∃ p':Int×Int×Int×Unit,IntKind.i64.wrap (p.1+1)=p'.1/\stOf (E9 p.2.2.1 (mk (l.getD p.1.toNat 0))).1=p'.2.1/\(E9 p.2.2.1 (mk (l.getD p.1.toNat 0))).2=p'.2.2.1/\
    (0<=p'.1/\p'.1<=(l.length:Int)/\p'.2.1=0/\C4 E9 (A++(l.take p'.1.toNat).map mk) e=(false,p'.2.2.1))/\l.length-p'.1.toNat<l.length-p.1.toNat):=by
 obtain ⟨i,st,s,⟨⟩⟩:=p;obtain ⟨h0,h1,h2,h3⟩:=h;dsimp only at h0 h1 h2 h3 b |-;obtain ⟨m,rfl⟩:=co0 h0;simp only [cn8,Bool.not_not] at h3 |-;have b:(m:Int)<l.length:=co4 b;have a:=aN2 mk h3 (by omega);refine ⟨⟨h0,b⟩,h2,λd=>?_,λd=>⟨((m+1:Nat),0,(E9 s (mk (l.getD m 0))).2,()),B4 (by omega) hl,?_,rfl,⟨by omega,by dsimp only;omega,rfl,?_⟩,by dsimp only;omega⟩⟩
 .rw [f,av5 (c (m+1)) (a.trans (Prod.ext d rfl)),d]
 .rw [d];rfl
 .rw [cn8];exact a.trans (Prod.ext d rfl)
theorem bJ6 {T:Type} {params:Int} {c:List (Int×Bool)} {R:T} {j:Int×Int×List (Int×Bool)×T} (hl:l.length<=140737488355328) (d:∀ k,A++(l.take k).map mk<+:L) (g:j=(stOf (C4 (E0 params) L (e,c)).1,(C4 (E0 params) L (e,c)).2.1,(C4 (E0 params) L (e,c)).2.2,R)) (p:Int×Int×Int×List (Int×Bool)×Unit)
  (h:0<=p.1/\p.1<=(l.length:Int)/\p.2.1=0/\C4 (E0 params) (A++(l.take p.1.toNat).map mk) (e,c)=(false,p.2.2.1,p.2.2.2.1)) (b:decide (p.1<(l.length:Int))=true):
  (0<=p.1/\p.1<(l.length:Int))/\p.2.1=0/\((!!(E0 params (p.2.2.1,p.2.2.2.1) (mk (l.getD p.1.toNat 0))).1)=true->(stOf (E0 params (p.2.2.1,p.2.2.2.1) (mk (l.getD p.1.toNat 0))).1,(E0 params (p.2.2.1,p.2.2.2.1) (mk (l.getD p.1.toNat 0))).2.1,(E0 params (p.2.2.1,p.2.2.2.1) (mk (l.getD p.1.toNat 0))).2.2,R)=j)/\
   ((!!(E0 params (p.2.2.1,p.2.2.2.1) (mk (l.getD p.1.toNat 0))).1)=false->∃ p':Int×Int×Int×List (Int×Bool)×Unit,IntKind.i64.wrap (p.1+1)=p'.1/\stOf (E0 params (p.2.2.1,p.2.2.2.1) (mk (l.getD p.1.toNat 0))).1=p'.2.1/\(E0 params (p.2.2.1,p.2.2.2.1) (mk (l.getD p.1.toNat 0))).2.1=p'.2.2.1/\(E0 params (p.2.2.1,p.2.2.2.1) (mk (l.getD p.1.toNat 0))).2.2=p'.2.2.2.1/\
    (0<=p'.1/\p'.1<=(l.length:Int)/\p'.2.1=0/\C4 (E0 params) (A++(l.take p'.1.toNat).map mk) (e,c)=(false,p'.2.2.1,p'.2.2.2.1))/\l.length-p'.1.toNat<l.length-p.1.toNat):=by
 obtain ⟨i,st,s,n,⟨⟩⟩:=p;obtain ⟨h0,h1,h2,h3⟩:=h;dsimp only at h0 h1 h2 h3 b |-;obtain ⟨m,rfl⟩:=co0 h0;simp only [cn8,Bool.not_not] at h3 |-;have b:(m:Int)<l.length:=co4 b;have a:=aN2 mk h3 (by omega);refine ⟨⟨h0,b⟩,h2,λf=>?_,λf=>⟨((m+1:Nat),0,(E0 params (s,n) (mk (l.getD m 0))).2.1,(E0 params (s,n) (mk (l.getD m 0))).2.2,()),B4 (by omega) hl,?_,rfl,rfl,⟨by omega,by dsimp only;omega,rfl,?_⟩,by dsimp only;omega⟩⟩
 .rw [g,av5 (d (m+1)) (a.trans (Prod.ext f rfl)),f]
 .rw [f];rfl
 .rw [cn8];exact a.trans (Prod.ext f rfl)
end
theorem bJ7 (st e a:Int) (b:List Ins) (c d:List Int) (g:st=0):vc (EVy yl1 (some W7) []) (bj3 b c e) Go.Proofs.Tryd.f97 aS7 (st,e,a,b,c,d,()):=(bI7 st e a b c d).mpr (by
 subst g;intro A B D E r hc _;have t:b.length<=140737488355328:=r.len;have u:c.length<=140737488355328:=hc.len;have h:B=(stOf (C4 E9 (D6 b c) e).1,(C4 E9 (D6 b c) e).2,()):=rfl;have v:A=ins0:=rfl
 clear_value B A
 subst v;dsimp only [D,E];simp only [true_and,and_true];refine ⟨⟨(0,0,e,()),by simp [E2,C4]⟩,?_⟩;rintro ⟨i,st,s,⟨⟩⟩ ⟨h0,h1,h2,h3⟩;dsimp only at h0 h1 h2 h3 |-;subst h2;obtain ⟨k,rfl⟩:=co0 h0;simp only [cn8] at h3 |-;refine ⟨λl=>?_,λf=>?_⟩
 .have l:(k:Int)<b.length:=co4 l;refine ⟨⟨h0,l⟩,⟨(0,0,s,()),rfl,rfl,rfl,Int.le_refl _,by dsimp only;omega,rfl,by simpa using h3⟩,λp g=>⟨bJ5 (aG0 r (by omega)) (bs1 c (by omega)) h p g,λf=>?_⟩⟩;obtain ⟨j,st,s1,⟨⟩⟩:=p;obtain ⟨j0,F,C,w⟩:=g;dsimp only at j0 F C w f |-;subst C;have G:j.toNat=(b.getD k ins0).from_.length:=by have:¬ j<(b.getD k ins0).from_.length:=co3 f;omega
  rw [G,cq2] at w;refine ⟨⟨(0,0,s1,()),rfl,rfl,rfl,Int.le_refl _,by dsimp only;omega,rfl,by simpa using w⟩,λp g=>⟨bJ5 (aG1 r (by omega)) (bJ3 c (by omega)) h p g,λf=>?_⟩⟩;obtain ⟨q,st,s2,⟨⟩⟩:=p;obtain ⟨x,y,o,m⟩:=g;dsimp only at x y o m f |-;subst o;have z:q.toNat=(b.getD k ins0).to.length:=by have:¬ q<(b.getD k ins0).to.length:=co3 f;omega
  rw [z,cq2] at m;refine ⟨((k+1:Nat),0,s2,()),B4 (by omega) t,rfl,rfl,⟨by omega,by dsimp only;omega,rfl,?_⟩,by dsimp only;omega⟩;rw [cn8,al6 (by omega),<-cq0];exact m
 .have H:k=b.length:=by have:¬ (k:Int)<b.length:=co3 f;omega
  subst H;rw [cq2] at h3;refine ⟨⟨(0,0,s,()),rfl,rfl,rfl,Int.le_refl _,by dsimp only;omega,rfl,by simpa using h3⟩,λp g=>⟨bJ5 u (bJ4 b c) h p g,λf=>?_⟩⟩;obtain ⟨q,st,s2,⟨⟩⟩:=p;obtain ⟨x,y,o,m⟩:=g;dsimp only at x y o m f |-;subst o;have z:q.toNat=c.length:=by have:¬ q<(c.length:Int):=co3 f;omega
  rw [z,cq2] at m;rw [h,show D6 b c=E2 b++c.map (λn=>(n,false)) from rfl,m];rfl)
theorem bJ8 (st e:Int) (m:List (Int×Bool)) (x:Int) (y:List Ins) (z w:List Int) (a:Int) (b:List Ins) (c d:List Int) (g:st=0):vc (EVy yl2 (some W8) []) (bj4 x b c e m) Go.Proofs.Tryd.f97 aS8 (st,e,m,x,y,z,w,a,b,c,d,()):=(bI8 st e m x y z w a b c d).mpr (by
 subst g;intro F G J K L M _ _ _ t hc _;have u:b.length<=140737488355328:=t.len;have v:c.length<=140737488355328:=hc.len;have h:F=(stOf (C4 (E0 x) (D6 b c) (e,m)).1,(C4 (E0 x) (D6 b c) (e,m)).2.1,(C4 (E0 x) (D6 b c) (e,m)).2.2,(x,y,z,w,())):=rfl;have A:G=ins0:=rfl
 clear_value F G
 subst A;dsimp only [J,K,L,M];simp only [true_and,and_true];refine ⟨⟨(0,0,e,m,()),by simp [E2,C4]⟩,?_⟩;rintro ⟨i,st,s,mm,⟨⟩⟩ ⟨h0,h1,h2,h3⟩;dsimp only at h0 h1 h2 h3 |-;subst h2;obtain ⟨k,rfl⟩:=co0 h0;simp only [cn8] at h3 |-;refine ⟨λl=>?_,λf=>?_⟩
 .have l:(k:Int)<b.length:=co4 l;refine ⟨⟨h0,l⟩,⟨(0,0,s,mm,()),rfl,rfl,rfl,rfl,Int.le_refl _,by dsimp only;omega,rfl,by simpa using h3⟩,λp g=>⟨bJ6 (aG0 t (by omega)) (bs1 c (by omega)) h p g,λf=>?_⟩⟩;obtain ⟨j,st,s1,N,⟨⟩⟩:=p;obtain ⟨j0,O,H,B⟩:=g;dsimp only at j0 O H B f |-;subst H;have P:j.toNat=(b.getD k ins0).from_.length:=by have:¬ j<(b.getD k ins0).from_.length:=co3 f;omega
  rw [P,cq2] at B;refine ⟨⟨(0,0,s1,N,()),rfl,rfl,rfl,rfl,Int.le_refl _,by dsimp only;omega,rfl,by simpa using B⟩,λp g=>⟨bJ6 (aG1 t (by omega)) (bJ3 c (by omega)) h p g,λf=>?_⟩⟩;obtain ⟨q,st,s2,I,⟨⟩⟩:=p;obtain ⟨C,D,r,o⟩:=g;dsimp only at C D r o f |-;subst r;have E:q.toNat=(b.getD k ins0).to.length:=by have:¬ q<(b.getD k ins0).to.length:=co3 f;omega
  rw [E,cq2] at o;refine ⟨((k+1:Nat),0,s2,I,()),B4 (by omega) u,rfl,rfl,rfl,⟨by omega,by dsimp only;omega,rfl,?_⟩,by dsimp only;omega⟩;rw [cn8,al6 (by omega),<-cq0];exact o
 .have Q:k=b.length:=by have:¬ (k:Int)<b.length:=co3 f;omega
  subst Q;rw [cq2] at h3;refine ⟨⟨(0,0,s,mm,()),rfl,rfl,rfl,rfl,Int.le_refl _,by dsimp only;omega,rfl,by simpa using h3⟩,λp g=>⟨bJ6 v (bJ4 b c) h p g,λf=>?_⟩⟩;obtain ⟨q,st,s2,I,⟨⟩⟩:=p;obtain ⟨C,D,r,o⟩:=g;dsimp only at C D r o f |-;subst r;have E:q.toNat=c.length:=by have:¬ q<(c.length:Int):=co3 f;omega
  rw [E,cq2] at o;rw [h,show D6 b c=E2 b++c.map (λn=>(n,false)) from rfl,o];rfl)
theorem bx7:ItOk itCheck:=by
 intro f k kY mp h Y' l;unfold itCheck at h;cases hf:Nat.beq f 97 with
 |false=>rw [hf] at h;cases h
 |true=>
  have hf:=cn5 hf;subst hf;simp only [Nat.beq_refl,cond_true,List.mem_cons,List.not_mem_nil,or_false,co6] at h;rcases h with ⟨rfl,rfl,rfl⟩|⟨rfl,rfl,rfl⟩
  .exact ah3 (E:=EVy yl2 (some W8) []) (bS6 _ _ _) ⟨W4 (λx g=>by cases g),λ_ _ _ _ _ h=>(by cases h),λ_ _ _ h=>(by cases h),λk i=>by cases i;exact l,λ_ _ _ _ h=>(by cases h)⟩ bi2 Go.Proofs.Tryd.func97 (by kernel_rfl)
    (λp=>bj4 p.2.2.2.1 p.2.2.2.2.2.2.2.2.1 p.2.2.2.2.2.2.2.2.2.1 p.2.1 p.2.2.1) (λ(st,e,m,x,y,z,w,a,b,c,d,()) j=>bJ8 st e m x y z w a b c d j) (by kernel_rfl) rfl
  .exact ah3 (E:=EVy yl1 (some W7) []) (bS6 _ _ _) ⟨W4 (λx g=>by cases g),λ_ _ _ _ _ h=>(by cases h),λ_ _ _ h=>(by cases h),λk i=>by cases i;exact l,λ_ _ _ _ h=>(by cases h)⟩ bi2 Go.Proofs.Tryd.func97 (by kernel_rfl)
    (λp=>bj3 p.2.2.2.1 p.2.2.2.2.1 p.2.1) (λ(st,e,a,b,c,d,()) j=>bJ7 st e a b c d j) (by kernel_rfl) rfl
def cCheck:Con RU:=con [(true,4)] aF4 [one] [i64] [false] none λp=>(E4 ⟨p.1,p.2.1,p.2.2.1,p.2.2.2.1⟩,())
def X7 (m:List (Int×Bool)) (l:List Int):List (Int×Bool):=l.foldl (λm n=>putB m n true) m
def bJ9 (params:Int) (code:List Ins):Nat->St RU->Ann RU:=λk s=>match k with
 |2=>⟨[],[.slot 64,.row 3776],[i64,mapB],λp=>0<=p.1/\p.1<=code.length/\p.2.1=X7 [] (wr (code.take p.1.toNat))/\F7 params [] (code.take p.1.toNat)=true,λp=>code.length-p.1.toNat,[]⟩
 |3=>⟨[],[.slot 76,.row 3776],[i64,mapB],λp=>0<=p.1/\p.1<=(code.getD (s.intAt 64).toNat ins0).to.length/\p.2.1=X7 [] (wr (code.take (s.intAt 64).toNat)++(code.getD (s.intAt 64).toNat ins0).to.take p.1.toNat),λp=>(code.getD (s.intAt 64).toNat ins0).to.length-p.1.toNat,[]⟩
 |_=>⟨[],[],[],λ_=>False,λ_=>0,[]⟩
end Go.Rg
end
section
namespace Go.Rg
open Go Go.VT
theorem bU4 (a:Int) (b:List Ins) (c d:List Int):vc (EVd [] itCheck [(76,cNamed),(78,cAll 77 tysC objC [0,1] isC)]) (bJ9 a b) Go.Proofs.Tryd.f41 cCheck (a,b,c,d,())=(let f:Bool:=decide ((↑(List.length b):Int) >(4000:Int));
 let g:Int:=(C4 (E0 a) (D6 b c) ((C4 E9 (D6 b c) (0:Int)).2,[])).2.1;
 let h:Bool:=decide (a<(0:Int))||decide (a >(4000:Int));
 let i:Int:=stOf (C4 (E0 a) (D6 b c) ((C4 E9 (D6 b c) (0:Int)).2,[])).1;
 let e:Ins:=Ins.mk (0:Int) (0:Int) [] [] [];
 let k:List (Int×Bool):=(C4 (E0 a) (D6 b c) ((C4 E9 (D6 b c) (0:Int)).2,[])).2.2;
 let l:Int×Unit:=(E4 (VFun.mk a b c d),());
 let j:Int:=(↑(List.length b):Int);
 let m:Int:=stOf (C4 E9 (D6 b c) (0:Int)).1;
  Small RU (Sigma.mk (Ty.slice (52:Nat) (Ty.user (0:Nat))) b)->
  Small RU (Sigma.mk (Ty.slice (3:Nat) (Ty.int IntKind.i64)) c)->
  Small RU (Sigma.mk (Ty.slice (3:Nat) (Ty.int IntKind.i64)) d)->
  (f=true->((3:Int),())=l)/\
  (f=false->
  (h=true->((2:Int),())=l)/\
  (h=false->
  (∀ (xs:Int×Bool×Int×Int×Unit),
 let f:Bool:=decide (xs.1<(0:Int))||decide (xs.1>=(4000:Int));
 let g:Int×Int×Unit:=xs.2.2;
  g.1=(0:Int)->g.1=(0:Int)/\(f=true->(false,(1:Int),(2:Int),())=W7.fn xs)/\(f=false->(true,(0:Int),g.2.1,())=W7.fn xs))/\
  (0:Int)=(0:Int)/\
  (m=(0:Int)->
  (∀ (xs:Int×Bool×Int×Int×List (Int×Bool)×Int×List Ins×List Int×List Int×Unit),
 let f:Int×List Ins×List Int×List Int×Unit:=
  (xs.2.2.2.2.2.1,xs.2.2.2.2.2.2.1,xs.2.2.2.2.2.2.2.1,xs.2.2.2.2.2.2.2.2.1,());
 let g:Bool:=xs.2.1&&(Option.getD (mget (λ(x y:Int)=>x==y) xs.2.2.2.2.1 xs.1) false||decide (xs.1<xs.2.2.2.2.2.1));
 let h:List (Int×Bool):=xs.2.2.2.2.1;
 let i:List Int×List Int×Unit:=xs.2.2.2.2.2.2.2;
 let e:Int×List (Int×Bool)×Int×List Ins×List Int×List Int×Unit:=xs.2.2.2;
 let k:Int:=xs.1;
 let l:Bool×Int×Int×List (Int×Bool)×Int×List Ins×List Int×List Int×Unit:=xs.2;
  l.2.1=(0:Int)->
  Small RU (Sigma.mk (Ty.slice (52:Nat) (Ty.user (0:Nat))) e.2.2.2.1)->
  Small RU (Sigma.mk (Ty.slice (3:Nat) (Ty.int IntKind.i64)) i.1)->
  Small RU (Sigma.mk (Ty.slice (3:Nat) (Ty.int IntKind.i64)) i.2.1)->
  l.2.1=(0:Int)/\
  (g=true->(false,(1:Int),(5:Int),h,f)=W8.fn xs)/\
  (g=false->
  (true,(0:Int),e.1,mput (λ(x y:Int)=>x==y) h k (Option.getD (mget (λ(x y:Int)=>x==y) h k) false||l.1),f)=
  W8.fn xs))/\
  ((0:Int)=(0:Int)/\a=a/\b=b/\c=c/\d=d/\True)/\
  (i=(0:Int)->
  (∃ (p:Int×List (Int×Bool)×Unit),
  a=a/\
  b=b/\
  c=c/\
  d=d/\
  f=f/\
  h=h/\
  b=b/\
  j=j/\
  (0:Int)=p.1/\
  a=a/\
  b=b/\
  c=c/\
  d=d/\
  g=g/\
  k=k/\
  []=p.2.1/\
  (0:Int)<=p.1/\
  p.1<=j/\p.2.1=X7 [] (wr (List.take (Int.toNat p.1) b))/\F7 a [] (List.take (Int.toNat p.1) b)=true)/\
  ∀ (p:Int×List (Int×Bool)×Unit),
 let e0_1:Bool:=!List.all (List.getD b (Int.toNat p.1) e).from_ (isC (a,b,c,d,p.2.1,()));
 let e1_1:Bool:=decide (p.1<j);
 let e2_1:Bool:=!List.all c (isC (a,b,c,d,p.2.1,()));
 let i:Int:=(↑(List.length (List.getD b (Int.toNat p.1) e).to):Int);
 let e:Ins:=List.getD b (Int.toNat p.1) e;
 let e5_1:Int:=p.1;
 let e6_1:List (Int×Bool):=p.2.1;
 let e7_1:Nat:=List.length (List.getD b (Int.toNat e5_1) ins0).to;
  (0:Int)<=e5_1/\e5_1<=j/\e6_1=X7 [] (wr (List.take (Int.toNat e5_1) b))/\F7 a [] (List.take (Int.toNat e5_1) b)=true->
  (e1_1=true->
  ((0:Int)<=e5_1/\e5_1<j)/\
  (((a=a/\b=b/\c=c/\d=d/\True)/\True)/\e6_1=e6_1/\True)/\
  (e0_1=true->((4:Int),())=l)/\
  (e0_1=false->
  (∃ (p:Int×List (Int×Bool)×Unit),
  a=a/\
  b=b/\
  c=c/\
  d=d/\
  f=f/\
  h=h/\
  b=b/\
  j=j/\
  e5_1=e5_1/\
  e1_1=e1_1/\
  e0_1=e0_1/\
  e.to=e.to/\
  i=i/\
  (0:Int)=p.1/\
  a=a/\
  b=b/\
  c=c/\
  d=d/\
  g=g/\
  k=k/\
  e6_1=p.2.1/\
  e.op=e.op/\
  e.n=e.n/\
  e.to=e.to/\
  e.from_=e.from_/\
  e.body=e.body/\
  (0:Int)<=p.1/\
  p.1<=(↑e7_1:Int)/\
  p.2.1=
  X7 []
  (wr (List.take (Int.toNat e5_1) b)++
  List.take (Int.toNat p.1) (List.getD b (Int.toNat e5_1) ins0).to))/\
  ∀ (p:Int×List (Int×Bool)×Unit),
 let e0_2:Int:=p.1;
 let e1_2:List (Int×Bool):=p.2.1;
 let e2_2:Bool:=decide (e0_2<i);
  (0:Int)<=e0_2/\
  e0_2<=(↑e7_1:Int)/\
  e1_2=X7 [] (wr (List.take (Int.toNat e5_1) b)++List.take (Int.toNat e0_2) (List.getD b (Int.toNat e5_1) ins0).to)->
  (e2_2=true->
  ((0:Int)<=e0_2/\e0_2<i)/\
  ∃ (p':Int×List (Int×Bool)×Unit),
  a=a/\
  b=b/\
  c=c/\
  d=d/\
  f=f/\
  h=h/\
  b=b/\
  j=j/\
  e5_1=e5_1/\
  e1_1=e1_1/\
  e0_1=e0_1/\
  e.to=e.to/\
  i=i/\
  IntKind.i64.wrap (e0_2+(1:Int))=p'.1/\
  a=a/\
  b=b/\
  c=c/\
  d=d/\
  g=g/\
  k=k/\
  mput (λ(x y:Int)=>x==y) e1_2 (List.getD e.to (Int.toNat e0_2) (0:Int)) true=
  p'.2.1/\
  e.op=e.op/\
  e.n=e.n/\
  e.to=e.to/\
  e.from_=e.from_/\
  e.body=e.body/\
  ((0:Int)<=p'.1/\
  p'.1<=(↑e7_1:Int)/\
  p'.2.1=
  X7 []
  (wr (List.take (Int.toNat e5_1) b)++
  List.take (Int.toNat p'.1) (List.getD b (Int.toNat e5_1) ins0).to))/\
  e7_1-Int.toNat p'.1<e7_1-Int.toNat e0_2)/\
  (e2_2=false->
  ∃ (p':Int×List (Int×Bool)×Unit),
  a=a/\
  b=b/\
  c=c/\
  d=d/\
  f=f/\
  h=h/\
  b=b/\
  j=j/\
  IntKind.i64.wrap (e5_1+(1:Int))=p'.1/\
  a=a/\
  b=b/\
  c=c/\
  d=d/\
  g=g/\
  k=k/\
  e1_2=p'.2.1/\
  ((0:Int)<=p'.1/\
  p'.1<=j/\
  p'.2.1=X7 [] (wr (List.take (Int.toNat p'.1) b))/\
  F7 a [] (List.take (Int.toNat p'.1) b)=true)/\
  List.length b-Int.toNat p'.1<List.length b-Int.toNat e5_1)))/\
  (e1_1=false->
  (((a=a/\b=b/\c=c/\d=d/\True)/\True)/\e6_1=e6_1/\True)/\(e2_1=true->((4:Int),())=l)/\(e2_1=false->((0:Int),())=l)))/\
  (i≠(0:Int)->i=(1:Int)/\(g,())=l))/\
  (m≠(0:Int)->m=(1:Int)/\((C4 E9 (D6 b c) (0:Int)).2,())=l)))):=by kernel_rfl
theorem ap1 {β:Type} (m:List (Int×β)) (k:Int) (v:β) (n:Int):mget eqI (mput eqI m k v) n=if k=n then some v else mget eqI m n:=by
 induction m with
 |nil=>simp [mput,mget,eqI,co7]
 |cons x r ih=>
  obtain ⟨k',v'⟩:=x;simp only [mput,eqI,co7,beq_iff_eq];by_cases h:k'=k
  .subst h;simp only [if_true,mget,eqI,co7,beq_iff_eq];split<;>rfl
  .simp only [if_neg h,mget,eqI,co7,beq_iff_eq];rw [show mget (λx y=>x==y) (mput (λx y=>x==y) r k v) n=mget eqI (mput eqI r k v) n from rfl,ih];by_cases h1:k'=n
   .subst h1;rw [if_pos rfl,if_neg (λe=>h e.symm)];rw [if_pos rfl]
   .rw [if_neg h1,if_neg h1]
theorem aG2 (m:List (Int×Bool)) (k:Int) (v:Bool) (n:Int):hasB (putB m k v) n=if k=n then v else hasB m n:=by unfold hasB putB;rw [ap1];split<;>rfl
theorem bK0 (l:List Int) (n:Int):hasB (X7 [] l) n=l.contains n:=by
 suffices h:∀ (l:List Int) (m:List (Int×Bool)),hasB (X7 m l) n=(hasB m n||l.contains n) by rw [h];rfl
 intro l
 induction l with
 |nil=>intro m;simp [X7]
 |cons x r ih=>
  intro m;rw [show X7 m (x::r)=X7 (putB m x true) r from rfl,ih,aG2,List.contains_cons];by_cases h:x=n
  .simp [h]
  .have:(n==x)=false:=by simp [Ne.symm h]
   simp [h,this]
theorem bx8 (l:List Int) (x:Int):X7 [] (l++[x])=putB (X7 [] l) x true:=by simp [X7]
theorem bU5 (a:Int) (b:List Ins) (c d l:List Int) (n:Int):isC (a,b,c,d,X7 [] l,()) n=(decide (n<a)||l.contains n):=by show (decide (n<a)||hasB (X7 [] l) n)=_;rw [bK0]
theorem run1 (L:List (Int×Bool)) (e:Int):C4 E9 L e=if L.all (λx=>U3 x.1) then (false,e) else (true,2):=by
 induction L generalizing e with
 |nil=>rfl
 |cons x r ih=>
  simp only [C4,List.all_cons];by_cases h:x.1<0\/4000<=x.1
  .have:U3 x.1=false:=by unfold U3 lies;simp;omega
   simp [E9,h,this]
  .have:U3 x.1=true:=by unfold U3 lies;simp;omega
   simp only [E9,if_neg h,this,ih,Bool.true_and,Bool.false_eq_true,if_false]
def ok2 (a:Int):List Int->List Int->Bool
 |_,[]=>true
 |W,n::r=>!(W.contains n||decide (n<a))&&ok2 a (n::W) r
theorem bZ4 (a:Int):∀ (l W:List Int),ok2 a W l=(C0 l&&l.all (λn=>decide (a<=n))&&l.all (λn=>!W.contains n))
 |[],W=>rfl
 |n::r,W=>by
  simp only [ok2,bZ4 a r,C0,List.all_cons];rw [Bool.eq_iff_iff];simp only [cn7,Bool.not_eq_true',Bool.or_eq_false_iff,decide_eq_false_iff_not,cp6,cq4,List.contains_cons];constructor
  .rintro ⟨⟨h1,h2⟩,⟨h3,h4⟩,b⟩;refine ⟨⟨⟨?_,h3⟩,by omega,h4⟩,h1,λx c=>?_⟩
   .rw [Bool.eq_false_iff];intro hm;have:=b n (List.contains_iff_mem.1 hm);simp at this
   .exact (b x c).2
  .rintro ⟨⟨⟨h1,h2⟩,h3,h4⟩,b,d⟩;refine ⟨⟨b,by omega⟩,⟨h2,h4⟩,λx c=>⟨?_,d x c⟩⟩;rw [beq_eq_false_iff_ne];rintro rfl;rw [List.contains_iff_mem.2 c] at h1;cases h1
theorem run2 (a:Int) (e:Int):∀ (L:List (Int×Bool)) (W:List Int) (m:List (Int×Bool)),(∀ n,hasB m n=W.contains n)->
  (C4 (E0 a) L (e,m)).1=!ok2 a W (L.filterMap λx=>if x.2 then some x.1 else none)/\(C4 (E0 a) L (e,m)).2.1=if ok2 a W (L.filterMap λx=>if x.2 then some x.1 else none) then e else 5
 |[],W,m,h=>⟨rfl,rfl⟩
 |(n,false)::r,W,m,h=>by
  have:=run2 a e r W (putB m n (hasB m n||false)) (λk=>by
   rw [aG2];split
   .rename_i b;subst b;simp [h]
   .exact h k)
  simpa [C4,E0] using this
 |(n,true)::r,W,m,h=>by
  have hs:E0 a (e,m) (n,true)=if W.contains n||decide (n<a) then (true,5,m) else (false,e,putB m n true):=by simp only [E0,Bool.true_and,h];split<;>simp
  simp only [C4,hs,List.filterMap_cons,if_true,ok2];cases hc:(W.contains n||decide (n<a)) with
  |true=>simp
  |false=>
   have:=run2 a e r (n::W) (putB m n true) (λk=>by
    rw [aG2,List.contains_cons];split
    .rename_i b;subst b;simp
    .rename_i b;rw [h k,beq_eq_false_iff_ne.2 (Ne.symm b)];rfl)
   simpa using this
theorem bx9 (b:List Ins) (c:List Int):(D6 b c).filterMap (λx=>if x.2 then some x.1 else none)=wr b:=by
 unfold D6;rw [List.filterMap_append];have h1:∀ l:List Int,(l.map λn=>((n,false):Int×Bool)).filterMap (λx=>if x.2 then some x.1 else none)=[]:=by
  intro l
  induction l with
  |nil=>rfl
  |cons x r ih=>rw [List.map_cons,List.filterMap_cons,ih];rfl
 have h2:∀ l:List Int,(l.map λn=>((n,true):Int×Bool)).filterMap (λx=>if x.2 then some x.1 else none)=l:=by
  intro l
  induction l with
  |nil=>rfl
  |cons x r ih=>rw [List.map_cons,List.filterMap_cons,ih];rfl
 rw [h1,List.append_nil]
 induction b with
 |nil=>rfl
 |cons x r ih=>simp only [E2,wr,List.flatMap_cons,List.filterMap_append] at ih |-;rw [h1,h2,ih];rfl
theorem L6 (p:Int):∀ (l r:List Ins) (W:List Int),F7 p W (l++r)=(F7 p W l&&F7 p (W++wr l) r)
 |[],r,W=>by simp [F7,wr]
 |x::l,r,W=>by simp only [List.cons_append,F7,L6 p l r,Bool.and_assoc];rw [show W++wr (x::l)=W++x.to++wr l by simp [wr]]
theorem bK1 (b:List Ins) (c:List Int):(D6 b c).all (λx=>U3 x.1)=(c.all U3&&b.all λx=>x.to.all U3&&x.from_.all U3):=by unfold D6 E2;rw [List.all_append,List.all_flatMap,Bool.and_comm];simp only [List.all_append,List.all_map];congr 1;congr 1;funext x;rw [Bool.and_comm];rfl
theorem by0 {a:Int} {b:List Ins} {c d:List Int} (h:4000<b.length):E4 ⟨a,b,c,d⟩=3:=by simp only [E4];rw [if_pos h]
theorem by1 {a:Int} {b:List Ins} {c d:List Int} (h:¬ 4000<b.length) (e:lies a 0 4000=true) {R1 R2:Bool} (h1:R1=(c.all U3&&b.all λx=>x.to.all U3&&x.from_.all U3)) (h2:R2=(C0 (wr b)&&(wr b).all λn=>decide (a<=n))):
  E4 ⟨a,b,c,d⟩=if R1=false then 2 else if R2=false then 5 else if (F7 a [] b&&c.all λn=>decide (n<a)||(wr b).contains n)=false then 4 else 0:=by
 simp only [E4];rw [if_neg h,e,Bool.true_and,<-h1,<-h2];cases R1
 .rfl
 .cases R2
  .rfl
  .simp only [Bool.not_true,Bool.false_eq_true,if_false,Bool.not_eq_true'];rfl
theorem by2 (n:Int) (w:Bool) (st e:Int) (h:st=0):st=0/\((decide (n<0)||decide (n>=4000))=true->(false,1,2,())=W7.fn (n,w,st,e,()))/\((decide (n<0)||decide (n>=4000))=false->(true,0,e,())=W7.fn (n,w,st,e,())):=by
 refine ⟨h,λh1=>?_,λh1=>?_⟩
 .have h1:n<0\/4000<=n:=by simpa using h1
  show _=(!(E9 e (n,w)).1,stOf (E9 e (n,w)).1,(E9 e (n,w)).2,());simp only [E9,if_pos h1];rfl
 .have h1:¬ (n<0\/4000<=n):=by simp at h1;omega
  show _=(!(E9 e (n,w)).1,stOf (E9 e (n,w)).1,(E9 e (n,w)).2,());simp only [E9,if_neg h1];rfl
theorem by3 (n:Int) (w:Bool) (st e:Int) (m:List (Int×Bool)) (x:Int) (y:List Ins) (z q:List Int) (h:st=0):st=0/\((w&&((mget (λx y=>x==y) m n).getD false||decide (n<x)))=true->(false,1,5,m,x,y,z,q,())=W8.fn (n,w,st,e,m,x,y,z,q,()))/\
  ((w&&((mget (λx y=>x==y) m n).getD false||decide (n<x)))=false->(true,0,e,mput (λx y=>x==y) m n ((mget (λx y=>x==y) m n).getD false||w),x,y,z,q,())=W8.fn (n,w,st,e,m,x,y,z,q,())):=by
 refine ⟨h,λh1=>?_,λh1=>?_⟩
 .show _=(!(E0 x (e,m) (n,w)).1,stOf (E0 x (e,m) (n,w)).1,(E0 x (e,m) (n,w)).2.1,(E0 x (e,m) (n,w)).2.2,x,y,z,q,());have h2:(w&&(hasB m n||decide (n<x)))=true:=h1;simp only [E0,h2,if_true];rfl
 .show _=(!(E0 x (e,m) (n,w)).1,stOf (E0 x (e,m) (n,w)).1,(E0 x (e,m) (n,w)).2.1,(E0 x (e,m) (n,w)).2.2,x,y,z,q,());have h2:(w&&(hasB m n||decide (n<x)))=false:=h1;simp only [E0,h2,Bool.false_eq_true,if_false];rfl
theorem by4 {a:Int} {b:List Ins} {k:Nat} (h:k<b.length):F7 a [] (b.take (k+1))=(F7 a [] (b.take k)&&(b.getD k ins0).from_.all λn=>decide (n<a)||(wr (b.take k)).contains n):=by rw [A4 h ins0,L6];simp [F7]
theorem by5 {a:Int} {b:List Ins} {k:Nat} (h:F7 a [] (b.take k)=false):F7 a [] b=false:=by rw [<-List.take_append_drop k b,L6,h];rfl
theorem bK2 {b:List Ins} {k:Nat} (h:k<b.length):wr (b.take (k+1))=wr (b.take k)++(b.getD k ins0).to:=by rw [A4 h ins0];simp [wr]
theorem bU6 (a:Int) (b:List Ins) (c d:List Int):vc (EVd [] itCheck [(76,cNamed),(78,cAll 77 tysC objC [0,1] isC)]) (bJ9 a b) Go.Proofs.Tryd.f41 cCheck (a,b,c,d,()):=(bU4 a b c d).mpr (by
 intro Z P H Q R U I V S T hc hd;have J:b.length<=140737488355328:=T.len;have g:I=(E4 ⟨a,b,c,d⟩,()):=rfl;have K:R=ins0:=rfl;have h1:=run1 (D6 b c) 0;have h2:=run2 a (C4 E9 (D6 b c) 0).2 (D6 b c) [] [] (λn=>rfl);rw [bx9,bZ4,show (wr b).all (λn=>!([]:List Int).contains n)=true from cq4.2 (λ_ _=>rfl),Bool.and_true] at h2;rw [bK1] at h1;have p:S=stOf (C4 E9 (D6 b c) 0).1:=rfl;have r:Q=stOf (C4 (E0 a) (D6 b c) ((C4 E9 (D6 b c) 0).2,[])).1:=rfl;have t:P=(C4 (E0 a) (D6 b c) ((C4 E9 (D6 b c) 0).2,[])).2.1:=rfl;rw [h2.1] at r;rw [h2.2] at t;rw [h1] at t
 clear_value P Q R U I S
 subst K;dsimp only [V];simp only [true_and,and_true];rw [h1] at p |-;clear h1 h2;have o:=λh u=>by1 (a:=a) (b:=b) (c:=c) (d:=d) h u (R1:=c.all U3&&b.all λx=>x.to.all U3&&x.from_.all U3) (R2:=C0 (wr b)&&(wr b).all λn=>decide (a<=n)) rfl rfl;generalize (c.all U3&&b.all λx=>x.to.all U3&&x.from_.all U3)=R1 at*
 generalize (C0 (wr b)&&(wr b).all λn=>decide (a<=n))=R2 at*
 refine ⟨λh=>?_,λh=>⟨λh'=>?_,λh'=>⟨?_,?_,?_⟩⟩⟩
 .have h:4000<b.length:=by have:=co4 h;omega
  rw [g,by0 h]
 .have h:¬ 4000<b.length:=by have:¬ ((b.length:Int) >4000):=co3 h;omega
  have u:lies a 0 4000=false:=by
   have:a<0\/4000<a:=by simpa [H] using h'
   simp only [lies,Bool.and_eq_false_iff,decide_eq_false_iff_not];omega
  rw [g];simp only [E4];rw [if_neg h,u];rfl
 .rintro ⟨n,w,st,e,⟨⟩⟩ f;exact by2 n w st e f
 .intro D;have h:¬ 4000<b.length:=by have:¬ ((b.length:Int) >4000):=co3 h;omega
  have u:lies a 0 4000=true:=by
   have:¬ (a<0\/4000<a):=by simpa [H] using h'
   simp only [lies,cn7,cp6];omega
  have hr:=o h u;have v:R1=true:=by
   cases R1
   .rw [p] at D;cases D
   .rfl
  subst v;refine ⟨?_,λh3=>?_,λh3=>?_⟩
  .rintro ⟨n,w,st,e,m,x,y,z,q,⟨⟩⟩ f _ _ _;exact by3 n w st e m x y z q f
  .have A:R2=true:=by
    cases R2
    .rw [r] at h3;cases h3
    .rfl
   subst A;have hr:I=(if (F7 a [] b&&c.all λn=>decide (n<a)||(wr b).contains n)=false then 4 else 0,()):=by rw [g,hr];rfl
   refine ⟨⟨(0,[],()),rfl,rfl,Int.le_refl _,by dsimp only;omega,rfl,rfl⟩,?_⟩;rintro ⟨i,m,⟨⟩⟩ ⟨L,W,M,E⟩;dsimp only at L W M E |-;obtain ⟨k,rfl⟩:=co0 L;simp only [cn8] at M E |-;subst M;have s:∀ l:List Int,l.all (isC (a,b,c,d,X7 [] (wr (b.take k)),()))=l.all λn=>decide (n<a)||(wr (b.take k)).contains n:=λl=>by congr 1;funext n;exact bU5 a b c d _ n
   rw [s,s];refine ⟨λB=>?_,λN=>?_⟩
   .have B:(k:Int)<b.length:=co4 B;have f:=by4 (a:=a) (b:=b) (k:=k) (by omega);rw [E,Bool.true_and] at f;refine ⟨⟨L,B⟩,λF=>?_,λG=>?_⟩
    .rw [Bool.not_eq_true',<-f] at F;rw [hr,by5 F];rfl
    .rw [Bool.not_eq_false',<-f] at G;refine ⟨⟨(0,X7 [] (wr (b.take k)),()),rfl,rfl,Int.le_refl _,by dsimp only;omega,by simp⟩,?_⟩;rintro ⟨j,m,⟨⟩⟩ ⟨j0,X,O⟩;dsimp only at j0 X O |-;obtain ⟨q,rfl⟩:=co0 j0;simp only [cn8] at O |-;subst O;refine ⟨λC=>?_,λC=>?_⟩
     .have C:(q:Int)<(b.getD k ins0).to.length:=co4 C;refine ⟨⟨j0,C⟩,((q+1:Nat),putB (X7 [] (wr (b.take k)++(b.getD k ins0).to.take q)) ((b.getD k ins0).to.getD q 0) true,()),B4 (by omega) (aG1 (k:=k) T (by omega)),rfl,⟨by omega,by dsimp only;omega,?_⟩,by dsimp only;omega⟩;dsimp only;rw [cn8,A4 (by omega) 0,<-cq0,bx8]
     .have C:q=(b.getD k ins0).to.length:=by have:¬ (q:Int)<(b.getD k ins0).to.length:=co3 C;omega
      subst C;refine ⟨((k+1:Nat),_,()),B4 (by omega) J,rfl,⟨by omega,by dsimp only;omega,?_,by rw [cn8];exact G⟩,by dsimp only;omega⟩;dsimp only;rw [cn8,bK2 (by omega),cq2];rfl
   .have Y:k=b.length:=by have:¬ (k:Int)<b.length:=co3 N;omega
    subst Y;rw [cq2] at E |-;rw [hr,E,Bool.true_and];refine ⟨λF=>?_,λG=>?_⟩
    .rw [Bool.not_eq_true'] at F;rw [F];rfl
    .rw [Bool.not_eq_false'] at G;rw [G];rfl
  .have A:R2=false:=by
    cases R2
    .rfl
    .rw [r] at h3;exact absurd rfl h3
   subst A;exact ⟨r,by rw [t,g,hr];rfl⟩
 .intro D;have h:¬ 4000<b.length:=by have:¬ ((b.length:Int) >4000):=co3 h;omega
  have u:lies a 0 4000=true:=by
   have:¬ (a<0\/4000<a):=by simpa [H] using h'
   simp only [lies,cn7,cp6];omega
  have hr:=o h u;have v:R1=false:=by
   cases R1
   .rfl
   .rw [p] at D;exact absurd rfl D
  subst v;exact ⟨p,by rw [g,hr];rfl⟩)
theorem al7:C5 prog RG 41 cCheck:=br6 bx7 (A6 bj5 (A6 bw7 B8)) (λp=>bJ9 p.1 p.2.1) (by kernel_rfl) (by kernel_rfl) (by kernel_rfl) λ(a,b,c,d,()) _=>bU6 a b c d
abbrev Spans:=List (Int×Span)
def getS (m:Spans) (n:Int):Span:=(mget eqI m n).getD ⟨0,0⟩
def ap2 (m:Spans) (n first:Int):Spans:=mput eqI m n ⟨first,-1⟩
def useS (m:Spans) (n place:Int):Spans:=mput eqI m n ⟨(getS m n).first,place⟩
def K5 (m:Spans) (l:List Int) (first:Int):Spans:=l.foldl (λm n=>ap2 m n first) m
def uses (m:Spans) (l:List Int) (place:Int):Spans:=l.foldl (λm n=>useS m n place) m
def upto (n:Nat):List Int:=(List.range n).map λk:Nat=>(k:Int)
def L1 (params:Int):Spans:=K5 [] (upto params.toNat) 0
def I6 (m:Spans):List Ins->Int->Spans
 |[],_=>m
 |x::r,i=>I6 (K5 (uses m x.from_ i) x.to (i+1)) r (i+1)
def never:Span:=⟨0,-1⟩
def finS (s:Span):Span:=if s.last<0 then never else s
def R8 (m:Spans) (seen:List Int):Spans:=(m.zipIdx).map λx=>if seen.contains (x.2:Int) then (x.1.1,finS x.1.2) else x.1
def L2 (params:Int) (code:List Ins) (out:List Int):Spans:=uses (I6 (L1 params) code 0) out code.length
def A8 (params:Int) (code:List Ins) (out:List Int):Spans:=(L2 params code out).map λx=>(x.1,finS x.2)
def cBegin:Con RU:=⟨[one,one,one],[i64,i64,mapS],[.d 0,.d 1,.ptr 0 0],[.box 80 [.map 1],.map 2],none,none,[],[mapS],[],[.box 80 [.map 1],.map 0],λp=>(ap2 p.2.2.1 p.1 p.2.1,()),[],[],[]⟩
def cUse:Con RU:=⟨[one,one,one],[i64,i64,mapS],[.d 0,.d 1,.ptr 0 0],[.box 80 [.map 1],.map 2],none,none,[],[mapS],[],[.box 80 [.map 1],.map 0],λp=>(useS p.2.2.1 p.1 p.2.1,()),[],[],[]⟩
def cSpans:Con RU:=⟨[(true,4)],aF4,[.d 0,.d 1,.d 2,.d 3],[],some λp=>p.1<=4000,none,[one],[mapS],[.map 0],[.map 0],λp=>(A8 p.1 p.2.1 p.2.2.1,()),[],[],[]⟩
def bK3 (params:Int) (code:List Ins) (out:List Int):Nat->St RU->Ann RU:=λk s=>match k with
 |0=>⟨[],[.slot 22,.row 1088],[i64,mapS],λp=>0<=p.1/\(p.1<=params\/p.1=0)/\p.2.1=K5 [] (upto p.1.toNat) 0,λp=>params.toNat-p.1.toNat,[]⟩
 |1=>⟨[],[.slot 32,.row 1088],[i64,mapS],λp=>0<=p.1/\p.1<=code.length/\p.2.1=I6 (L1 params) (code.take p.1.toNat) 0,λp=>code.length-p.1.toNat,[]⟩
 |2=>⟨[],[.slot 40,.row 1088],[i64,mapS],λp=>0<=p.1/\p.1<=(code.getD (s.intAt 32).toNat ins0).from_.length/\
   p.2.1=uses (I6 (L1 params) (code.take (s.intAt 32).toNat) 0) ((code.getD (s.intAt 32).toNat ins0).from_.take p.1.toNat) (s.intAt 32),λp=>(code.getD (s.intAt 32).toNat ins0).from_.length-p.1.toNat,[]⟩
 |3=>⟨[],[.slot 52,.row 1088],[i64,mapS],λp=>0<=p.1/\p.1<=(code.getD (s.intAt 32).toNat ins0).to.length/\
   p.2.1=K5 (uses (I6 (L1 params) (code.take (s.intAt 32).toNat) 0) (code.getD (s.intAt 32).toNat ins0).from_ (s.intAt 32)) ((code.getD (s.intAt 32).toNat ins0).to.take p.1.toNat) (s.intAt 32+1),λp=>(code.getD (s.intAt 32).toNat ins0).to.length-p.1.toNat,[]⟩
 |4=>⟨[],[.slot 66,.row 1088],[i64,mapS],λp=>0<=p.1/\p.1<=out.length/\p.2.1=uses (I6 (L1 params) code 0) (out.take p.1.toNat) code.length,λp=>out.length-p.1.toNat,[]⟩
 |_=>⟨[],[.seen 4992,.row 1088],[ints,mapS],λp=>p.1.Nodup/\(∀ i∈p.1,0<=i/\i<(L2 params code out).length)/\p.2.1=R8 (L2 params code out) p.1,λp=>(L2 params code out).length-p.1.length,[]⟩
def W9 (m:Spans) (place:Int) (n:Int):Bool:=match mget eqI m n with
 |some s=>O4 s.first s.last place
 |none=>false
def Y7 (m:Spans) (L n:Nat):List (List Int):=(List.range (L+1)).map λplace:Nat=>(upto n).filter (W9 m place)
def O5 (m:Spans) (L:Nat) (n q:Int):List (List Int):=(List.range (L+1)).map λplace:Nat=>(upto n.toNat).filter (W9 m place)++if (place:Int)<q/\W9 m place n=true then [n] else []
def cLive:Con RU:=con [(true,4)] aF4 [one,one] [bH3,i64] [false,false] none λp=>((O8 ⟨p.1,p.2.1,p.2.2.1,p.2.2.2.1⟩).1,(O8 ⟨p.1,p.2.1,p.2.2.1,p.2.2.2.1⟩).2,())
def cf3 (params:Int) (code:List Ins) (out:List Int):Nat->St RU->Ann RU:=λk s=>match k with
 |0=>⟨[],[.slot 23,.row 1280],[i64,bH3],λp=>0<=p.1/\p.1<=4000/\p.2.1=Y7 (A8 params code out) code.length p.1.toNat,λp=>4000-p.1.toNat,[]⟩
 |_=>⟨[],[.slot 10,.row 1280],[i64,bH3],λp=>0<=p.1/\p.1<=code.length+1/\(getS (A8 params code out) (s.intAt 23)).first<=p.1/\p.2.1=O5 (A8 params code out) code.length (s.intAt 23) p.1,λp=>code.length+1-p.1.toNat,[]⟩
def cPress:Con RU:=con [(true,4)] aF4 [one,one] [i64,i64] [false,false] none λp=>((U4 ⟨p.1,p.2.1,p.2.2.1,p.2.2.2.1⟩).1,(U4 ⟨p.1,p.2.1,p.2.2.1,p.2.2.2.1⟩).2,())
theorem bU7 (n i:Int) (m:Spans):vc (EV []) noL Go.Proofs.Tryd.f81 cBegin (n,i,m,())=((mput (λ(x y:Int)=>x==y) m n (Span.mk i (-1:Int)),())=(ap2 m n i,())):=by kernel_rfl
theorem cl4 (n i:Int) (m:Spans):vc (EV []) noL Go.Proofs.Tryd.f82 cUse (n,i,m,())=((mput (λ(x y:Int)=>x==y) m n (Span.mk (Option.getD (mget (λ(x y:Int)=>x==y) m n) (Span.mk (0:Int) (0:Int))).first i),())=(useS m n i,())):=by kernel_rfl
theorem bU8 (a:Int) (b:List Ins) (c d:List Int):vc (EV [(81,cBegin),(82,cUse)]) (bK3 a b c) Go.Proofs.Tryd.f51 cSpans (a,b,c,d,())=(let g:Ins:=Ins.mk (0:Int) (0:Int) [] [] [];
 let f:Int:=(↑(List.length b):Int);
 let h:Int:=(↑(List.length c):Int);
 let j:Nat:=List.length (L2 a b c);
 let r:Span:=Span.mk (0:Int) (-1:Int);
  Small RU (Sigma.mk (Ty.slice (52:Nat) (Ty.user (0:Nat))) b)->
  Small RU (Sigma.mk (Ty.slice (3:Nat) (Ty.int IntKind.i64)) c)->
  Small RU (Sigma.mk (Ty.slice (3:Nat) (Ty.int IntKind.i64)) d)->
  (∃ (p:Int×List (Int×Span)×Unit),
  a=a/\
  b=b/\
  c=c/\
  d=d/\
  Value.map none=Value.map none/\
  a=a/\
  (0:Int)=p.1/\
  a=a/\b=b/\c=c/\d=d/\[]=p.2.1/\(0:Int)<=p.1/\(p.1<=a\/p.1=(0:Int))/\p.2.1=K5 [] (upto (Int.toNat p.1)) (0:Int))/\
  ∀ (p:Int×List (Int×Span)×Unit),
 let e0_1:Bool:=decide (p.1<a);
 let e1_1:Int:=p.1;
 let e2_1:List (Int×Span):=p.2.1;
  (0:Int)<=e1_1/\(e1_1<=a\/e1_1=(0:Int))/\e2_1=K5 [] (upto (Int.toNat e1_1)) (0:Int)->
  (e0_1=true->
  ∃ (p':Int×List (Int×Span)×Unit),
  a=a/\
  b=b/\
  c=c/\
  d=d/\
  Value.map none=Value.map none/\
  a=a/\
  IntKind.i64.wrap (e1_1+(1:Int))=p'.1/\
  a=a/\
  b=b/\
  c=c/\
  d=d/\
  ap2 e2_1 e1_1 (0:Int)=p'.2.1/\
  ((0:Int)<=p'.1/\(p'.1<=a\/p'.1=(0:Int))/\p'.2.1=K5 [] (upto (Int.toNat p'.1)) (0:Int))/\
  Int.toNat a-Int.toNat p'.1<Int.toNat a-Int.toNat e1_1)/\
  (e0_1=false->
  (∃ (p:Int×List (Int×Span)×Unit),
  a=a/\
  b=b/\
  c=c/\
  d=d/\
  Value.map none=Value.map none/\
  a=a/\
  e1_1=e1_1/\
  e0_1=e0_1/\
  b=b/\
  f=f/\
  (0:Int)=p.1/\
  a=a/\b=b/\c=c/\d=d/\e2_1=p.2.1/\(0:Int)<=p.1/\p.1<=f/\p.2.1=I6 (L1 a) (List.take (Int.toNat p.1) b) (0:Int))/\
  ∀ (p:Int×List (Int×Span)×Unit),
 let e0_2:Int:=(↑(List.length (List.getD b (Int.toNat p.1) g).from_):Int);
 let e1_2:Bool:=decide (p.1<f);
 let e2_2:Int:=p.1;
 let e3_1:Int:=(↑(List.length (List.getD b (Int.toNat e2_2) g).to):Int);
 let e4_1:List (Int×Span):=I6 (L1 a) (List.take (Int.toNat e2_2) b) (0:Int);
 let e:Ins:=List.getD b (Int.toNat e2_2) g;
 let q:List (Int×Span):=p.2.1;
 let m:Nat:=List.length (List.getD b (Int.toNat e2_2) ins0).to;
 let o:Nat:=List.length (List.getD b (Int.toNat e2_2) ins0).from_;
 let s:Int:=IntKind.i64.wrap (e2_2+(1:Int));
  (0:Int)<=e2_2/\e2_2<=f/\q=e4_1->
  (e1_2=true->
  ((0:Int)<=e2_2/\e2_2<f)/\
  (∃ (p:Int×List (Int×Span)×Unit),
  a=a/\
  b=b/\
  c=c/\
  d=d/\
  Value.map none=Value.map none/\
  a=a/\
  e1_1=e1_1/\
  e0_1=e0_1/\
  b=b/\
  f=f/\
  e2_2=e2_2/\
  e1_2=e1_2/\
  e2_2=e2_2/\
  e.from_=e.from_/\
  e0_2=e0_2/\
  (0:Int)=p.1/\
  a=a/\
  b=b/\
  c=c/\
  d=d/\
  q=p.2.1/\
  e.op=e.op/\
  e.n=e.n/\
  e.to=e.to/\
  e.from_=e.from_/\
  e.body=e.body/\
  (0:Int)<=p.1/\
  p.1<=(↑o:Int)/\
  p.2.1=uses e4_1 (List.take (Int.toNat p.1) (List.getD b (Int.toNat e2_2) ins0).from_) e2_2)/\
  ∀ (p:Int×List (Int×Span)×Unit),
 let g:Bool:=decide (p.1<e0_2);
 let e1_3:Int:=p.1;
 let h:List (Int×Span):=p.2.1;
 let j:List Int:=(List.getD b (Int.toNat e2_2) ins0).from_;
  (0:Int)<=e1_3/\e1_3<=(↑o:Int)/\h=uses e4_1 (List.take (Int.toNat e1_3) j) e2_2->
  (g=true->
  ((0:Int)<=e1_3/\e1_3<e0_2)/\
  ∃ (p':Int×List (Int×Span)×Unit),
  a=a/\
  b=b/\
  c=c/\
  d=d/\
  Value.map none=Value.map none/\
  a=a/\
  e1_1=e1_1/\
  e0_1=e0_1/\
  b=b/\
  f=f/\
  e2_2=e2_2/\
  e1_2=e1_2/\
  e2_2=e2_2/\
  e.from_=e.from_/\
  e0_2=e0_2/\
  IntKind.i64.wrap (e1_3+(1:Int))=p'.1/\
  a=a/\
  b=b/\
  c=c/\
  d=d/\
  useS h (List.getD e.from_ (Int.toNat e1_3) (0:Int)) e2_2=p'.2.1/\
  e.op=e.op/\
  e.n=e.n/\
  e.to=e.to/\
  e.from_=e.from_/\
  e.body=e.body/\
  ((0:Int)<=p'.1/\
  p'.1<=(↑o:Int)/\p'.2.1=uses e4_1 (List.take (Int.toNat p'.1) j) e2_2)/\
  o-Int.toNat p'.1<o-Int.toNat e1_3)/\
  (g=false->
  (∃ (p:Int×List (Int×Span)×Unit),
  a=a/\
  b=b/\
  c=c/\
  d=d/\
  Value.map none=Value.map none/\
  a=a/\
  e1_1=e1_1/\
  e0_1=e0_1/\
  b=b/\
  f=f/\
  e2_2=e2_2/\
  e1_2=e1_2/\
  e2_2=e2_2/\
  e.from_=e.from_/\
  e0_2=e0_2/\
  e1_3=e1_3/\
  g=g/\
  e.to=e.to/\
  e3_1=e3_1/\
  (0:Int)=p.1/\
  a=a/\
  b=b/\
  c=c/\
  d=d/\
  h=p.2.1/\
  e.op=e.op/\
  e.n=e.n/\
  e.to=e.to/\
  e.from_=e.from_/\
  e.body=e.body/\
  (0:Int)<=p.1/\
  p.1<=(↑m:Int)/\
  p.2.1=
  K5 (uses e4_1 j e2_2)
  (List.take (Int.toNat p.1) (List.getD b (Int.toNat e2_2) ins0).to) (e2_2+(1:Int)))/\
  ∀ (p:Int×List (Int×Span)×Unit),
 let e0_3:List (Int×Span):=p.2.1;
 let e1_4:Int:=p.1;
 let h:Bool:=decide (e1_4<e3_1);
  (0:Int)<=e1_4/\
  e1_4<=(↑m:Int)/\e0_3=K5 (uses e4_1 j e2_2) (List.take (Int.toNat e1_4) (List.getD b (Int.toNat e2_2) ins0).to) (e2_2+(1:Int))->
  (h=true->
  ((0:Int)<=e1_4/\e1_4<e3_1)/\
  ∃ (p':Int×List (Int×Span)×Unit),
  a=a/\
  b=b/\
  c=c/\
  d=d/\
  Value.map none=Value.map none/\
  a=a/\
  e1_1=e1_1/\
  e0_1=e0_1/\
  b=b/\
  f=f/\
  e2_2=e2_2/\
  e1_2=e1_2/\
  e2_2=e2_2/\
  e.from_=e.from_/\
  e0_2=e0_2/\
  e1_3=e1_3/\
  g=g/\
  e.to=e.to/\
  e3_1=e3_1/\
  IntKind.i64.wrap (e1_4+(1:Int))=p'.1/\
  a=a/\
  b=b/\
  c=c/\
  d=d/\
  ap2 e0_3 (List.getD e.to (Int.toNat e1_4) (0:Int)) s=p'.2.1/\
  e.op=e.op/\
  e.n=e.n/\
  e.to=e.to/\
  e.from_=e.from_/\
  e.body=e.body/\
  ((0:Int)<=p'.1/\
  p'.1<=(↑m:Int)/\
  p'.2.1=
  K5 (uses e4_1 j e2_2)
  (List.take (Int.toNat p'.1) (List.getD b (Int.toNat e2_2) ins0).to)
  (e2_2+(1:Int)))/\
  m-Int.toNat p'.1<m-Int.toNat e1_4)/\
  (h=false->
  ∃ (p':Int×List (Int×Span)×Unit),
  a=a/\
  b=b/\
  c=c/\
  d=d/\
  Value.map none=Value.map none/\
  a=a/\
  e1_1=e1_1/\
  e0_1=e0_1/\
  b=b/\
  f=f/\
  s=p'.1/\
  a=a/\
  b=b/\
  c=c/\
  d=d/\
  e0_3=p'.2.1/\
  ((0:Int)<=p'.1/\p'.1<=f/\p'.2.1=I6 (L1 a) (List.take (Int.toNat p'.1) b) (0:Int))/\
  List.length b-Int.toNat p'.1<List.length b-Int.toNat e2_2)))/\
  (e1_2=false->
  (∃ (p:Int×List (Int×Span)×Unit),
  a=a/\
  b=b/\
  c=c/\
  d=d/\
  Value.map none=Value.map none/\
  a=a/\
  e1_1=e1_1/\
  e0_1=e0_1/\
  b=b/\
  f=f/\
  e2_2=e2_2/\
  e1_2=e1_2/\
  c=c/\
  h=h/\
  (0:Int)=p.1/\
  a=a/\
  b=b/\
  c=c/\
  d=d/\
  q=p.2.1/\
  (0:Int)<=p.1/\p.1<=h/\p.2.1=uses (I6 (L1 a) b (0:Int)) (List.take (Int.toNat p.1) c) f)/\
  ∀ (p:Int×List (Int×Span)×Unit),
 let g:Nat:=List.length p.2.1;
 let e1_3:Bool:=decide (p.1<h);
 let e2_3:Int:=p.1;
 let e3_2:List (Int×Span):=p.2.1;
  (0:Int)<=e2_3/\e2_3<=h/\e3_2=uses (I6 (L1 a) b (0:Int)) (List.take (Int.toNat e2_3) c) f->
  (e1_3=true->
  ((0:Int)<=e2_3/\e2_3<h)/\
  ∃ (p':Int×List (Int×Span)×Unit),
  a=a/\
  b=b/\
  c=c/\
  d=d/\
  Value.map none=Value.map none/\
  a=a/\
  e1_1=e1_1/\
  e0_1=e0_1/\
  b=b/\
  f=f/\
  e2_2=e2_2/\
  e1_2=e1_2/\
  c=c/\
  h=h/\
  IntKind.i64.wrap (e2_3+(1:Int))=p'.1/\
  a=a/\
  b=b/\
  c=c/\
  d=d/\
  useS e3_2 (List.getD c (Int.toNat e2_3) (0:Int)) f=p'.2.1/\
  ((0:Int)<=p'.1/\
  p'.1<=h/\p'.2.1=uses (I6 (L1 a) b (0:Int)) (List.take (Int.toNat p'.1) c) f)/\
  List.length c-Int.toNat p'.1<List.length c-Int.toNat e2_3)/\
  (e1_3=false->
  (∃ (p:List Int×List (Int×Span)×Unit),
  a=a/\
  b=b/\
  c=c/\
  d=d/\
  Value.map none=Value.map none/\
  a=a/\
  e1_1=e1_1/\
  e0_1=e0_1/\
  b=b/\
  f=f/\
  e2_2=e2_2/\
  e1_2=e1_2/\
  c=c/\
  h=h/\
  e2_3=e2_3/\
  e1_3=e1_3/\
  a=a/\
  b=b/\
  c=c/\
  d=d/\
  e3_2=p.2.1/\
  g=g/\
  []=List.map Int.toNat p.1/\
  (0:Nat)=List.getLastD (List.map Int.toNat p.1) (0:Nat)/\
  List.Pairwise (λ(k l:den RU.T i64)=>k≠l) p.1/\
  (∀ (i:Int),List.Mem i p.1->(0:Int)<=i/\i<(↑j:Int))/\p.2.1=R8 (L2 a b c) p.1)/\
  ∀ (p:List Int×List (Int×Span)×Unit),
 let e0_3:Bool:=
  decide
  ((List.getD (List.map (λ(x:den RU.T (Ty.int IntKind.i64)×den RU.T (Ty.user (3:Nat)))=>x.2) p.2.1)
  (List.getLastD (List.map Int.toNat p.1) (0:Nat)) (Span.mk (0:Int) (0:Int))).last<
  (0:Int));
 let e1_4:List (Int×Span):=p.2.1;
 let e2_4:List Nat:=List.map Int.toNat p.1;
 let e3_3:List Int:=p.1;
 let e4_2:Nat:=List.getLastD e2_4 (0:Nat);
  List.Pairwise (λ(k l:den RU.T i64)=>k≠l) e3_3/\
  (∀ (i:Int),List.Mem i e3_3->(0:Int)<=i/\i<(↑j:Int))/\e1_4=R8 (L2 a b c) e3_3->
  List.length e1_4=g/\
  (∀ (i:Nat),
 let e0_4:Bool:=
  decide
  ((List.getD (List.map (λ(x:den RU.T (Ty.int IntKind.i64)×den RU.T (Ty.user (3:Nat)))=>x.2) e1_4) i
  (Span.mk (0:Int) (0:Int))).last<
  (0:Int));
 let e1_5:List Nat:=e2_4++[i];
  i<g->
  ¬i∈e2_4->
  (true=true->
  (List.length e1_4=g/\List.getLast? e1_5=some i/\i<g)/\
  (e0_4=true->
  ∃ (p':List Int×List (Int×Span)×Unit),
  a=a/\
  b=b/\
  c=c/\
  d=d/\
  Value.map none=Value.map none/\
  a=a/\
  e1_1=e1_1/\
  e0_1=e0_1/\
  b=b/\
  f=f/\
  e2_2=e2_2/\
  e1_2=e1_2/\
  c=c/\
  h=h/\
  e2_3=e2_3/\
  e1_3=e1_3/\
  a=a/\
  b=b/\
  c=c/\
  d=d/\
  mput (λ(x y:Int)=>x==y) e1_4
  (List.getD
  (List.map
  (λ(x:den RU.T (Ty.int IntKind.i64)×den RU.T (Ty.user (3:Nat)))=>x.1)
  e1_4)
  i (0:Int))
  r=
  p'.2.1/\
  g=g/\
  e1_5=List.map Int.toNat p'.1/\
  i=List.getLastD (List.map Int.toNat p'.1) (0:Nat)/\
  (List.Pairwise (λ(k l:den RU.T i64)=>k≠l) p'.1/\
  (∀ (i:Int),List.Mem i p'.1->(0:Int)<=i/\i<(↑j:Int))/\
  p'.2.1=R8 (L2 a b c) p'.1)/\
  j-List.length p'.1<j-List.length e3_3)/\
  (e0_4=false->
  ∃ (p':List Int×List (Int×Span)×Unit),
  a=a/\
  b=b/\
  c=c/\
  d=d/\
  Value.map none=Value.map none/\
  a=a/\
  e1_1=e1_1/\
  e0_1=e0_1/\
  b=b/\
  f=f/\
  e2_2=e2_2/\
  e1_2=e1_2/\
  c=c/\
  h=h/\
  e2_3=e2_3/\
  e1_3=e1_3/\
  a=a/\
  b=b/\
  c=c/\
  d=d/\
  e1_4=p'.2.1/\
  g=g/\
  e1_5=List.map Int.toNat p'.1/\
  i=List.getLastD (List.map Int.toNat p'.1) (0:Nat)/\
  (List.Pairwise (λ(k l:den RU.T i64)=>k≠l) p'.1/\
  (∀ (i:Int),List.Mem i p'.1->(0:Int)<=i/\i<(↑j:Int))/\
  p'.2.1=R8 (L2 a b c) p'.1)/\
  j-List.length p'.1<j-List.length e3_3))/\
  (true=false->(e1_4,())=(A8 a b c,())))/\
  ((∀ (i:Nat),i<g->List.Mem i e2_4)->
  (false=true->
  (List.length e1_4=g/\List.getLast? e2_4=some e4_2/\e4_2<g)/\
  (e0_3=true->
  ∃ (p':List Int×List (Int×Span)×Unit),
  a=a/\
  b=b/\
  c=c/\
  d=d/\
  Value.map none=Value.map none/\
  a=a/\
  e1_1=e1_1/\
  e0_1=e0_1/\
  b=b/\
  f=f/\
  e2_2=e2_2/\
  e1_2=e1_2/\
  c=c/\
  h=h/\
  e2_3=e2_3/\
  e1_3=e1_3/\
  a=a/\
  b=b/\
  c=c/\
  d=d/\
  mput (λ(x y:Int)=>x==y) e1_4
  (List.getD
  (List.map (λ(x:den RU.T (Ty.int IntKind.i64)×den RU.T (Ty.user (3:Nat)))=>x.1)
  e1_4)
  e4_2 (0:Int))
  r=
  p'.2.1/\
  g=g/\
  e2_4=List.map Int.toNat p'.1/\
  e4_2=List.getLastD (List.map Int.toNat p'.1) (0:Nat)/\
  (List.Pairwise (λ(k l:den RU.T i64)=>k≠l) p'.1/\
  (∀ (i:Int),List.Mem i p'.1->(0:Int)<=i/\i<(↑j:Int))/\
  p'.2.1=R8 (L2 a b c) p'.1)/\
  j-List.length p'.1<j-List.length e3_3)/\
  (e0_3=false->
  ∃ (p':List Int×List (Int×Span)×Unit),
  a=a/\
  b=b/\
  c=c/\
  d=d/\
  Value.map none=Value.map none/\
  a=a/\
  e1_1=e1_1/\
  e0_1=e0_1/\
  b=b/\
  f=f/\
  e2_2=e2_2/\
  e1_2=e1_2/\
  c=c/\
  h=h/\
  e2_3=e2_3/\
  e1_3=e1_3/\
  a=a/\
  b=b/\
  c=c/\
  d=d/\
  e1_4=p'.2.1/\
  g=g/\
  e2_4=List.map Int.toNat p'.1/\
  e4_2=List.getLastD (List.map Int.toNat p'.1) (0:Nat)/\
  (List.Pairwise (λ(k l:den RU.T i64)=>k≠l) p'.1/\
  (∀ (i:Int),List.Mem i p'.1->(0:Int)<=i/\i<(↑j:Int))/\
  p'.2.1=R8 (L2 a b c) p'.1)/\
  j-List.length p'.1<j-List.length e3_3))/\
  (false=false->(e1_4,())=(A8 a b c,()))))))):=by kernel_rfl
theorem cf4 (a:Int) (b:List Ins) (c d:List Int):vc (EVd [(23,[0])] noIt [(41,cCheck),(51,cSpans),(69,cAt)]) (cf3 a b c) Go.Proofs.Tryd.f33 cLive (a,b,c,d,())=(let e:Bool:=E4 (VFun.mk a b c d) !=(0:Int);
 let f:Int:=IntKind.i64.wrap ((↑(List.length b):Int)+(1:Int));
 let g:Span:=Span.mk (0:Int) (0:Int);
 let i:List (List Int)×Int×Unit:=((O8 (VFun.mk a b c d)).1,(O8 (VFun.mk a b c d)).2,());
 let h:Int:=E4 (VFun.mk a b c d);
 let k:Nat:=List.length b+(1:Nat);
  Small RU (Sigma.mk (Ty.slice (52:Nat) (Ty.user (0:Nat))) b)->
  Small RU (Sigma.mk (Ty.slice (3:Nat) (Ty.int IntKind.i64)) c)->
  Small RU (Sigma.mk (Ty.slice (3:Nat) (Ty.int IntKind.i64)) d)->
  (e=true->([],h,())=i)/\
  (e=false->
  ((0:Int)<=f/\f*(↑(24:Nat):Int)<=(↑(140737488355328:Nat):Int))/\
  a<=(4000:Int)/\
  (∃ (p:Int×List (List Int)×Unit),
  a=a/\
  b=b/\
  c=c/\
  d=d/\
  (0:Int)=(0:Int)/\
  h=h/\
  e=e/\
  (0:Int)=p.1/\
  a=a/\
  b=b/\
  c=c/\
  d=d/\
  List.replicate (Int.toNat f) []=p.2.1/\
  A8 a b c=A8 a b c/\(0:Int)<=p.1/\p.1<=(4000:Int)/\p.2.1=Y7 (A8 a b c) (List.length b) (Int.toNat p.1))/\
  ∀ (p:Int×List (List Int)×Unit),
 let e0_1:Bool:=decide (p.1<(4000:Int));
 let f:Int:=(Option.getD (mget (λ(x y:Int)=>x==y) (A8 a b c) p.1) g).first;
 let g:Int:=(Option.getD (mget (λ(x y:Int)=>x==y) (A8 a b c) p.1) g).last;
 let e3_1:Bool:=Option.isSome (mget (λ(x y:Int)=>x==y) (A8 a b c) p.1);
 let e4_1:Int:=p.1;
 let e5_1:Int:=(↑(List.length p.2.1):Int);
 let j:List (List Int):=p.2.1;
  (0:Int)<=e4_1/\e4_1<=(4000:Int)/\j=Y7 (A8 a b c) (List.length b) (Int.toNat e4_1)->
  (e0_1=true->
  (∃ (p:Int×List (List Int)×Unit),
  a=a/\
  b=b/\
  c=c/\
  d=d/\
  (0:Int)=(0:Int)/\
  h=h/\
  e=e/\
  e4_1=e4_1/\
  e0_1=e0_1/\
  e4_1=e4_1/\
  e3_1=e3_1/\
  f=p.1/\
  a=a/\
  b=b/\
  c=c/\
  d=d/\
  j=p.2.1/\
  A8 a b c=A8 a b c/\
  f=f/\
  g=g/\
  (0:Int)<=p.1/\
  p.1<=(↑(List.length b):Int)+(1:Int)/\
  (getS (A8 a b c) e4_1).first<=p.1/\p.2.1=O5 (A8 a b c) (List.length b) e4_1 p.1)/\
  ∀ (p:Int×List (List Int)×Unit),
 let e0_2:Bool:=O4 f g p.1;
 let e1_1:Int:=p.1;
 let e2_1:List (List Int):=p.2.1;
 let i:Bool:=e3_1&&decide (e1_1<=g);
 let e4_2:Int:=(↑(List.length b):Int)+(1:Int);
  (0:Int)<=e1_1/\e1_1<=e4_2/\(getS (A8 a b c) e4_1).first<=e1_1/\e2_1=O5 (A8 a b c) (List.length b) e4_1 e1_1->
  (i=true->
  (e0_2=true->
  ((0:Int)<=e1_1/\e1_1<(↑(List.length e2_1):Int))/\
  (List.length (List.getD e2_1 (Int.toNat e1_1) [])+List.length [e4_1])*(8:Nat)<=(140737488355328:Nat)/\
  ((0:Int)<=e1_1/\e1_1<(↑(List.length e2_1):Int))/\e1_1=e1_1)/\
  ∃ (p':Int×List (List Int)×Unit),
  (bif e0_2 then a else a)=a/\
  (bif e0_2 then b else b)=b/\
  (bif e0_2 then c else c)=c/\
  (bif e0_2 then d else d)=d/\
  (bif e0_2 then (0:Int) else (0:Int))=(0:Int)/\
  (bif e0_2 then h else h)=h/\
  (bif e0_2 then e else e)=e/\
  (bif e0_2 then e4_1 else e4_1)=e4_1/\
  (bif e0_2 then e0_1 else e0_1)=e0_1/\
  (bif e0_2 then e4_1 else e4_1)=e4_1/\
  (bif e0_2 then e3_1 else e3_1)=e3_1/\
  IntKind.i64.wrap ((bif e0_2 then e1_1 else e1_1)+(1:Int))=p'.1/\
  (bif e0_2 then a else a)=a/\
  (bif e0_2 then b else b)=b/\
  (bif e0_2 then c else c)=c/\
  (bif e0_2 then d else d)=d/\
  (bif e0_2 then List.set e2_1 (Int.toNat e1_1) (List.getD e2_1 (Int.toNat e1_1) []++[e4_1]) else e2_1)=p'.2.1/\
  (bif e0_2 then A8 a b c else A8 a b c)=A8 a b c/\
  (bif e0_2 then f else f)=f/\
  (bif e0_2 then g else g)=g/\
  ((0:Int)<=p'.1/\
  p'.1<=e4_2/\
  (getS (A8 a b c) e4_1).first<=p'.1/\p'.2.1=O5 (A8 a b c) (List.length b) e4_1 p'.1)/\
  k-Int.toNat p'.1<k-Int.toNat e1_1)/\
  (i=false->
  ∃ (p':Int×List (List Int)×Unit),
  a=a/\
  b=b/\
  c=c/\
  d=d/\
  (0:Int)=(0:Int)/\
  h=h/\
  e=e/\
  IntKind.i64.wrap (e4_1+(1:Int))=p'.1/\
  a=a/\
  b=b/\
  c=c/\
  d=d/\
  e2_1=p'.2.1/\
  A8 a b c=A8 a b c/\
  ((0:Int)<=p'.1/\p'.1<=(4000:Int)/\p'.2.1=Y7 (A8 a b c) (List.length b) (Int.toNat p'.1))/\
  (4000:Nat)-Int.toNat p'.1<(4000:Nat)-Int.toNat e4_1))/\
  (e0_1=false->((0:Int)<=e5_1/\e5_1<=e5_1/\e5_1<=e5_1)/\(List.take (Int.toNat e5_1) j,(0:Int),())=i))):=by kernel_rfl
theorem aG3 (m:Spans) (l:List Int) (x i:Int):K5 m (l++[x]) i=ap2 (K5 m l i) x i:=by simp [K5]
theorem bb3 (m:Spans) (l:List Int) (x i:Int):uses m (l++[x]) i=useS (uses m l i) x i:=by simp [uses]
theorem bb4 (n:Nat):upto (n+1)=upto n++[(n:Int)]:=by simp [upto,List.range_succ]
theorem aG4 (x:Ins):∀ (l:List Ins) (m:Spans) (i:Int),I6 m (l++[x]) i=K5 (uses (I6 m l i) x.from_ (i+l.length)) x.to (i+l.length+1)
 |[],m,i=>by simp [I6]
 |y::l,m,i=>by simp only [List.cons_append,I6,aG4 x l,cp0,Int.natCast_add];rw [show i+1+(l.length:Int)=i+((l.length:Int)+((1:Nat):Int)) by omega]
def T1 (m:Spans):List Int:=m.map (·.1)
theorem bb5 {m:Spans} (h:(T1 m).Nodup) (k:Int) (v:Span):(T1 (mput eqI m k v)).Nodup/\∀ n,n∈T1 (mput eqI m k v)<->n=k\/n∈T1 m:=by
 induction m with
 |nil=>simp [mput,T1]
 |cons x r ih=>
  obtain ⟨k',v'⟩:=x;obtain ⟨h1,h2⟩:=List.nodup_cons.1 (show (k'::T1 r).Nodup from h);simp only [mput,eqI,co7,beq_iff_eq];by_cases a:k'=k
  .subst a;rw [if_pos rfl];refine ⟨h,λn=>?_⟩;show n∈k'::T1 r<->n=k'\/n∈k'::T1 r;simp
  .rw [if_neg a];obtain ⟨c,b⟩:=ih h2;refine ⟨List.nodup_cons.2 ⟨λhm=>?_,c⟩,λn=>?_⟩
   .rcases (b k').1 hm with h3|h3
    .exact a h3
    .exact h1 h3
   .show n∈k'::T1 (mput eqI r k v)<->n=k\/n∈k'::T1 r;simp only [List.mem_cons,b];constructor
    .rintro (h|h|h)<;>simp [h]
    .rintro (h|h|h)<;>simp [h]
theorem aG5 (l:List Int) (i:Int):∀ {m:Spans},(T1 m).Nodup->(T1 (K5 m l i)).Nodup:=by
 induction l with
 |nil=>intro m h;exact h
 |cons x r ih=>intro m h;exact ih (bb5 h _ _).1
theorem bb6 (l:List Int) (i:Int):∀ {m:Spans},(T1 m).Nodup->(T1 (uses m l i)).Nodup:=by
 induction l with
 |nil=>intro m h;exact h
 |cons x r ih=>intro m h;exact ih (bb5 h _ _).1
theorem aG6:∀ (l:List Ins) (i:Int) {m:Spans},(T1 m).Nodup->(T1 (I6 m l i)).Nodup
 |[],_,_,h=>h
 |x::r,i,m,h=>aG6 r (i+1) (aG5 _ _ (bb6 _ _ h))
theorem bj8 (a:Int) (b:List Ins) (c:List Int):(T1 (L2 a b c)).Nodup:=bb6 _ _ (aG6 _ _ (aG5 _ _ (by simp [T1])))
theorem bK4:∀ {m:Spans},(T1 m).Nodup->∀ {i:Nat} {x:Int×Span},m[i]? =some x->∀ v,mput eqI m x.1 v=m.set i (x.1,v)
 |[],_,i,x,h,_=>by simp at h
 |(k',v')::r,a,0,x,h,v=>by simp only [co2,cn4] at h;subst h;simp [mput,eqI]
 |(k',v')::r,a,i+1,x,h,v=>by obtain ⟨h1,h2⟩:=List.nodup_cons.1 (show (k'::T1 r).Nodup from a);simp only [List.getElem?_cons_succ] at h;have b:k'≠x.1:=λe=>h1 (by rw [e];exact List.mem_map.2 ⟨x,List.mem_of_getElem? h,rfl⟩);simp only [mput,eqI,co7,beq_iff_eq,if_neg b,List.set_cons_succ];rw [show mput (λx y=>x==y) r x.1 v=mput eqI r x.1 v from rfl,bK4 h2 h v]
theorem Y8 (m:Spans) (seen:List Int) (i:Nat):(R8 m seen)[i]? =(m[i]?).map λx=>if seen.contains (i:Int) then (x.1,finS x.2) else x:=by unfold R8;rw [co9,List.getElem?_zipIdx];cases m[i]? <;>simp
theorem av6 (m:Spans) (seen:List Int):(R8 m seen).length=m.length:=by simp [R8]
theorem by6 (m:Spans) (seen:List Int):T1 (R8 m seen)=T1 m:=by
 apply List.ext_getElem?;intro i;simp only [T1,co9,Y8];cases m[i]? with
 |none=>rfl
 |some x=>simp only [Option.map_some];split<;>rfl
theorem bK5 {m:Spans} {seen:List Int} (h:∀ i:Nat,i<m.length->seen.contains (i:Int)=true):R8 m seen=m.map λx=>(x.1,finS x.2):=by
 apply List.ext_getElem?;intro i;rw [Y8,co9];cases hm:m[i]? with
 |none=>rfl
 |some x=>rw [Option.map_some,Option.map_some,if_pos (h i (cn9.1 hm).1)]
theorem bK6 (m:Spans):R8 m []=m:=by apply List.ext_getElem?;intro i;rw [Y8];cases m[i]? <;>simp
theorem aN3 {m:Spans} {seen:List Int} {i:Nat} {x:Int×Span} (b:m[i]? =some x):R8 m (seen++[(i:Int)])=(R8 m seen).set i (x.1,finS x.2):=by
 have d:=(cn9.1 b).1;have a:m[i]=x:=(cn9.1 b).2;apply List.ext_getElem?;intro j;rw [cp9,Y8,Y8,av6];by_cases c:i=j
 .subst c;simp [a,d]
 .rw [if_neg c];have:(seen++[(i:Int)]).contains (j:Int)=seen.contains (j:Int):=by
   rw [Bool.eq_iff_iff,List.contains_iff_mem,List.contains_iff_mem,cq1,co5];constructor
   .rintro (h|h)
    .exact h
    .omega
   .exact .inl
  rw [this]
theorem bU9 (n i:Int) (m:Spans):vc (EV []) noL Go.Proofs.Tryd.f81 cBegin (n,i,m,()):=(bU7 n i m).mpr rfl
theorem cf5 (n i:Int) (m:Spans):mput (λ(x y:Int)=>x==y) m n (Span.mk (Option.getD (mget (λ(x y:Int)=>x==y) m n) (Span.mk (0:Int) (0:Int))).first i)=useS m n i:=by unfold useS getS;rfl
theorem cl5 (n i:Int) (m:Spans):vc (EV []) noL Go.Proofs.Tryd.f82 cUse (n,i,m,()):=by have h:=cl4 n i m;rw [h,cf5]
theorem bj9:C5 prog RG 81 cBegin:=E1 B8 (λ_=>noL) (by kernel_rfl) (by kernel_rfl) (by kernel_rfl) λ(n,i,m,()) _=>bU9 n i m
theorem bK7:C5 prog RG 82 cUse:=E1 B8 (λ_=>noL) (by kernel_rfl) (by kernel_rfl) (by kernel_rfl) λ(n,i,m,()) _=>cl5 n i m
theorem az3:∀ (n:Nat) (l:List Nat),l.Nodup->(∀ x∈l,x<n)->l.length<=n
 |0,l,_,h=>by
  cases l with
  |nil=>simp
  |cons x r=>have:=h x (by simp);omega
 |n+1,l,b,h=>by
  by_cases hm:n∈l
  .have h1:=az3 n (l.erase n) (b.erase n) (λx a=>by
    have h2:=(b.mem_erase_iff).1 a;have:=h x h2.2;have:=h2.1;omega)
   rw [List.length_erase_of_mem hm] at h1;omega
  .have:=az3 n l b (λx a=>by
    have:=h x a;have:x≠n:=λe=>hm (e▸a);omega)
   omega
theorem bb7 {m:Spans} (n:(T1 m).Nodup) {seen:List Int} (p:seen.Nodup) (hs:∀ i∈seen,0<=i/\i<(m.length:Int)) {i:Nat} (o:i<m.length) (f:¬ i∈seen.map Int.toNat):
  (seen++[(i:Int)]).Nodup/\(∀ j∈seen++[(i:Int)],0<=j/\j<(m.length:Int))/\(seen++[(i:Int)]).length<=m.length/\∃ x,m[i]? =some x/\(R8 m seen)[i]? =some x:=by
 have c:¬ (i:Int)∈seen:=λh=>f (List.mem_map.2 ⟨_,h,by simp⟩);have h1:(seen++[(i:Int)]).Nodup:=by rw [List.nodup_append];refine ⟨p,by simp,λa g b e=>?_⟩;simp only [co5] at e;rw [e];rintro rfl;exact c g
 have h2:∀ j∈seen++[(i:Int)],0<=j/\j<(m.length:Int):=by
  intro j d;rcases cq1.1 d with d|d
  .exact hs j d
  .simp only [co5] at d;omega
 refine ⟨h1,h2,?_,m[i],cn6 o,?_⟩
 .have h3:((seen++[(i:Int)]).map Int.toNat).Nodup:=by
   rw [List.Nodup,List.pairwise_map];exact h1.imp_of_mem (λ{a b} g e l q=>l (by have:=h2 a g;have:=h2 b e;omega))
  have:=az3 m.length _ h3 (λj d=>by
   obtain ⟨k,n,rfl⟩:=List.mem_map.1 d;have:=h2 k n;omega)
  simpa using this
 .rw [Y8,cn6 o,Option.map_some,if_neg (by rw [List.contains_iff_mem];exact c)]
theorem bb8 (l:List Nat) (i:Nat):(l++[i]).getLast? =some i:=by simp
theorem as2 {M:Type} {l:List Int} (hl:l.length<=140737488355328) {F:List Int->M} {G:M->Int->M} (b:∀ l x,F (l++[x])=G (F l) x) (p:Int×M×Unit) (h:0<=p.1/\p.1<=(l.length:Int)/\p.2.1=F (l.take p.1.toNat)) (a:decide (p.1<(l.length:Int))=true):
  (0<=p.1/\p.1<(l.length:Int))/\∃ p':Int×M×Unit,IntKind.i64.wrap (p.1+1)=p'.1/\G p.2.1 (l.getD p.1.toNat 0)=p'.2.1/\(0<=p'.1/\p'.1<=(l.length:Int)/\p'.2.1=F (l.take p'.1.toNat))/\l.length-p'.1.toNat<l.length-p.1.toNat:=by
 obtain ⟨i,m,⟨⟩⟩:=p;obtain ⟨h0,h1,h2⟩:=h;dsimp only at h0 h1 h2 a |-;obtain ⟨k,rfl⟩:=co0 h0;have a:(k:Int)<l.length:=co4 a;refine ⟨⟨h0,a⟩,((k+1:Nat),F (l.take (k+1)),()),B4 (by omega) hl,?_,⟨by omega,by dsimp only;omega,by rw [cn8]⟩,by dsimp only;omega⟩;rw [h2,cn8,A4 (by omega) 0,b]
theorem bV0 (a:Int) (b:List Ins) (c d:List Int) (Z:a<=4000):vc (EV [(81,cBegin),(82,cUse)]) (bK3 a b c) Go.Proofs.Tryd.f51 cSpans (a,b,c,d,()):=by
 rw [bU8 a b c d];intro R U V W S C hc _;have X:b.length<=140737488355328:=C.len;have D:c.length<=140737488355328:=hc.len;have E:R=ins0:=rfl;have H:S=never:=rfl
 clear_value R S
 subst E H;dsimp only [U,V,W];simp only [true_and,and_true];refine ⟨⟨(0,[],()),rfl,rfl,Int.le_refl _,.inr rfl,rfl⟩,?_⟩;rintro ⟨i,m,⟨⟩⟩ ⟨h0,h1,h2⟩;dsimp only at h0 h1 h2 |-;subst h2;obtain ⟨k,rfl⟩:=co0 h0;simp only [cn8];refine ⟨λf=>?_,λe=>?_⟩
 .have f:(k:Int)<a:=co4 f;refine ⟨((k+1:Nat),K5 [] (upto (k+1)) 0,()),by rw [L5 (by omega) (by omega)];rfl,?_,⟨by omega,.inl (by dsimp only;omega),by rw [cn8]⟩,by dsimp only;omega⟩;rw [bb4,aG3]
 have I:k=a.toNat:=by have:¬ (k:Int)<a:=co3 e;omega
 subst I;clear h0 h1 e;refine ⟨⟨(0,K5 [] (upto a.toNat) 0,()),rfl,rfl,Int.le_refl _,by dsimp only;omega,rfl⟩,?_⟩;rintro ⟨i,m,⟨⟩⟩ ⟨h0,h1,h2⟩;dsimp only at h0 h1 h2 |-;subst h2;obtain ⟨k,rfl⟩:=co0 h0;simp only [cn8];have T:k<b.length->IntKind.i64.wrap ((k:Int)+1)=(k:Int)+1:=λh=>L5 (by omega) (by omega);refine ⟨λf=>?_,λe=>?_⟩
 .have f:(k:Int)<b.length:=co4 f;rw [T (by omega)];refine ⟨⟨h0,f⟩,⟨(0,_,()),rfl,rfl,Int.le_refl _,by dsimp only;omega,rfl⟩,λp r=>⟨as2 (F:=λl=>uses (I6 (L1 a) (b.take k) 0) l k) (G:=λm x=>useS m x k) (aG0 C (by omega)) (λl x=>bb3 _ _ _ _) p r,λe=>?_⟩⟩;obtain ⟨q,m,⟨⟩⟩:=p;obtain ⟨z,A,g⟩:=r;dsimp only at z A g e |-;have u:q.toNat=(b.getD k ins0).from_.length:=by have:¬ q<(b.getD k ins0).from_.length:=co3 e;omega
  rw [u,cq2] at g;subst g;refine ⟨⟨(0,_,()),rfl,rfl,Int.le_refl _,by dsimp only;omega,rfl⟩,λp r=>⟨as2 (F:=λl=>K5 (uses (I6 (L1 a) (b.take k) 0) (b.getD k ins0).from_ k) l (k+1)) (G:=λm x=>ap2 m x (k+1)) (aG1 C (by omega)) (λl x=>aG3 _ _ _ _) p r,λe=>?_⟩⟩;obtain ⟨q',m,⟨⟩⟩:=p;obtain ⟨J,K,g⟩:=r;dsimp only at J K g e |-;have u:q'.toNat=(b.getD k ins0).to.length:=by have:¬ q'<(b.getD k ins0).to.length:=co3 e;omega
  rw [u,cq2] at g;subst g;refine ⟨((k:Int)+1,_,()),rfl,rfl,⟨by dsimp only;omega,by dsimp only;omega,?_⟩,by dsimp only;omega⟩;dsimp only;rw [show ((k:Int)+1).toNat=k+1 by omega,A4 (by omega) ins0,aG4,cq3,Nat.min_eq_left (by omega),Int.zero_add];rfl
 have I:k=b.length:=by have:¬ (k:Int)<b.length:=co3 e;omega
 subst I;rw [cq2];clear h0 h1 e T;refine ⟨⟨(0,_,()),rfl,rfl,Int.le_refl _,by dsimp only;omega,rfl⟩,λp r=>⟨as2 (F:=λl=>uses (I6 (L1 a) b 0) l b.length) (G:=λm x=>useS m x b.length) D (λl x=>bb3 _ _ _ _) p r,λe=>?_⟩⟩;obtain ⟨q,m,⟨⟩⟩:=p;obtain ⟨z,A,g⟩:=r;dsimp only at z A g e |-;have u:q.toNat=c.length:=by have:¬ q<(c.length:Int):=co3 e;omega
 rw [u,cq2] at g;have hm:m=L2 a b c:=g;subst hm;clear z A g e u;have n:=bj8 a b c;have L:A8 a b c=(L2 a b c).map λx=>(x.1,finS x.2):=rfl;generalize L2 a b c=m at*
 refine ⟨⟨([],m,()),rfl,rfl,rfl,List.Pairwise.nil,λi s=>(by cases s),(bK6 m).symm⟩,?_⟩;rintro ⟨seen,m',⟨⟩⟩ ⟨h1,h2,h3⟩;dsimp only at h1 h2 h3 |-;subst h3;have o:(R8 m seen).length=m.length:=av6 m seen;refine ⟨o,λi s w=>⟨λ_=>⟨⟨o,bb8 _ _,s⟩,λhc=>?_,λhc=>?_⟩,λh=>by cases h⟩,λy=>⟨λh=>(by cases h),λ_=>?_⟩⟩
 .obtain ⟨M,N,O,x,P,v⟩:=bb7 n h1 h2 s w;have t:((R8 m seen).map λx=>x.2).getD i ⟨0,0⟩=x.2:=by rw [co8,co9,v];rfl
  have Q:((R8 m seen).map λx=>x.1).getD i 0=x.1:=by rw [co8,co9,v];rfl
  have hc:decide (x.2.last<0)=true:=by rw [<-t];exact hc
  have hc:x.2.last<0:=co4 hc;refine ⟨(seen++[(i:Int)],R8 m (seen++[(i:Int)]),()),?_,by simp,by simp,⟨M,N,rfl⟩,by simp only [cp5,cp8] at O |-;omega⟩;show mput eqI (R8 m seen) (((R8 m seen).map λx=>x.1).getD i 0) never=R8 m (seen++[(i:Int)]);rw [Q,bK4 (by rw [by6];exact n) v,aN3 P];rw [show finS x.2=never by unfold finS;rw [if_pos hc]]
 .obtain ⟨M,N,O,x,P,v⟩:=bb7 n h1 h2 s w;have t:((R8 m seen).map λx=>x.2).getD i ⟨0,0⟩=x.2:=by rw [co8,co9,v];rfl
  have hc:decide (x.2.last<0)=false:=by rw [<-t];exact hc
  have hc:¬ x.2.last<0:=co3 hc;refine ⟨(seen++[(i:Int)],R8 m (seen++[(i:Int)]),()),?_,by simp,by simp,⟨M,N,rfl⟩,by simp only [cp5,cp8] at O |-;omega⟩;dsimp only;rw [aN3 P,show finS x.2=x.2 by unfold finS;rw [if_neg hc]];apply List.ext_getElem?;intro j;rw [cp9];split
  .rename_i B;subst B;rw [v,if_pos (by rw [o];exact s)]
  .rfl
 .rw [L,bK5];intro i s;obtain ⟨j,B,Y⟩:=List.mem_map.1 (show i∈seen.map Int.toNat from y i s);have:=h2 j B;rw [List.contains_iff_mem,show (i:Int)=j by omega];exact B
theorem aG7:C5 prog RG 51 cSpans:=E1 (k:=cSpans) (A6 bj9 (A6 bK7 B8)) (λp=>bK3 p.1 p.2.1 p.2.2.1) (by kernel_rfl) (by kernel_rfl) (by kernel_rfl) λ(a,b,c,d,()) e=>bV0 a b c d e
theorem U7 (l:List Int) (i n:Int):∀ (m:Spans),mget eqI (K5 m l i) n=if n∈l then some ⟨i,-1⟩ else mget eqI m n:=by
 induction l with
 |nil=>intro m;simp [K5]
 |cons x r ih=>
  intro m;rw [show K5 m (x::r) i=K5 (ap2 m x i) r i from rfl,ih,ap2,ap1];by_cases h1:n∈r
  .simp [h1]
  .by_cases h2:x=n
   .simp [h2]
   .simp [h1,h2,Ne.symm h2]
theorem ap3 (l:List Int) (i n:Int):∀ (m:Spans),mget eqI (uses m l i) n=if n∈l then some ⟨(getS m n).first,i⟩ else mget eqI m n:=by
 induction l with
 |nil=>intro m;simp [uses]
 |cons x r ih=>
  intro m;rw [show uses m (x::r) i=uses (useS m x i) r i from rfl,ih];have hg:mget eqI (useS m x i) n=if x=n then some ⟨(getS m x).first,i⟩ else mget eqI m n:=by rw [useS,ap1]
  have hf:(getS (useS m x i) n).first=(getS m n).first:=by
   unfold getS;rw [hg];by_cases h2:x=n
   .subst h2;simp [getS]
   .simp [h2]
  rw [hf,hg];by_cases h1:n∈r
  .simp [h1]
  .by_cases h2:x=n
   .subst h2;simp [h1]
   .simp [h1,h2,Ne.symm h2]
def K7 (n:Int):List Ins->Int->Int->Int
 |[],_,d=>d
 |x::r,i,d=>K7 n r (i+1) (if n∈x.from_ then i else d)
theorem ae4 (n:Int):∀ (code:List Ins) (m:Spans) (i f d:Int),n∉wr code->mget eqI m n=some ⟨f,d⟩->mget eqI (I6 m code i) n=some ⟨f,K7 n code i d⟩
 |[],m,i,f,d,_,h=>h
 |x::r,m,i,f,d,b,h=>by
  have a:n∉x.to/\n∉wr r:=by simpa [wr] using b
  simp only [I6,K7];have hg:getS m n=⟨f,d⟩:=by unfold getS;rw [h];rfl
  refine ae4 n r _ (i+1) f _ a.2 ?_;rw [U7,if_neg a.1,ap3,hg,h];split<;>rfl
theorem aj1 (n:Int):∀ (l:List Ins) (x:Ins) (r:List Ins) (m:Spans) (i:Int),n∈x.to->n∉wr r->mget eqI (I6 m (l++x::r) i) n=some ⟨i+l.length+1,K7 n r (i+l.length+1) (-1)⟩
 |[],x,r,m,i,h1,h2=>by simp only [List.nil_append,I6,List.length_nil];have:=ae4 n r (K5 (uses m x.from_ i) x.to (i+1)) (i+1) (i+1) (-1) h2 (by rw [U7,if_pos h1]);simpa using this
 |y::l,x,r,m,i,h1,h2=>by
  simp only [List.cons_append,I6,cp0,Int.natCast_add];rw [aj1 n l x r _ (i+1) h1 h2];congr 2
  .omega
  .rw [show i+1+(l.length:Int)+1=i+((l.length:Int)+((1:Nat):Int))+1 by omega]
theorem aG8 (n:Int) (k:Nat):mget eqI (K5 [] (upto k) 0) n=if 0<=n/\n<k then some ⟨0,-1⟩ else none:=by
 rw [U7];have:n∈upto k<->0<=n/\n<k:=by
  unfold upto;simp only [List.mem_map,List.mem_range];constructor
  .rintro ⟨j,a,rfl⟩;omega
  .rintro ⟨h1,h2⟩;exact ⟨n.toNat,by omega,by omega⟩
 by_cases h:0<=n/\n<k
 .rw [if_pos (this.2 h),if_pos h]
 .rw [if_neg (λh'=>h (this.1 h')),if_neg h];rfl
def fin (n:Int) (code:List Ins) (out:List Int) (i d:Int):Int:=if n∈out then i+code.length else K7 n code i d
theorem K6 (out:List Int):∀ code:List Ins,(E5 code out).length=code.length+1
 |[]=>rfl
 |x::r=>by simp [E5,K6 out r]
theorem by7 {x:Ins} {l:List Int} {n:Int}:n∈aF2 x l<->n∈x.from_\/(n∈l/\n∉x.to):=by unfold aF2;rw [show (l.filter λn=>!x.to.contains n).foldl R6 (D8 [] x.from_)=D8 (D8 [] x.from_) (l.filter λn=>!x.to.contains n) from rfl,U6,U6];simp [List.mem_filter]
theorem bb9 (out:List Int) (code:List Ins):(E5 code out)[0]? =some ((E5 code out).headD []):=by cases code<;>rfl
theorem ah6 {x:Ins} {r:List Ins} {out:List Int} {n:Int}:n∈(E5 (x::r) out).headD []<->n∈x.from_\/(n∈(E5 r out).headD []/\n∉x.to):=by simp only [E5,List.headD_cons,by7]
def atL (code:List Ins) (out:List Int) (p:Nat):List Int:=(E5 code out).getD p []
theorem X0 (code:List Ins) (out:List Int):atL code out 0=(E5 code out).headD []:=by unfold atL;rw [co8,bb9];rfl
theorem ah7 (x:Ins) (r:List Ins) (out:List Int) (p:Nat):atL (x::r) out (p+1)=atL r out p:=by simp [atL,E5]
theorem ah8 (n:Int):∀ (code:List Ins) (i d:Int),d<i->d<=K7 n code i d/\K7 n code i d<i+code.length
 |[],i,d,h=>by simp [K7];omega
 |x::r,i,d,h=>by simp only [K7,cp0,Int.natCast_add];have:=ah8 n r (i+1) (if n∈x.from_ then i else d) (by split<;>omega);split at this<;>rename_i a<;>simp only [a,if_true,if_false]<;>omega
theorem bc0 (n:Int) (out:List Int):∀ (code:List Ins) (p:Nat) (i d:Int),n∉wr code->p<=code.length->d<i->(n∈atL code out p<->i+p<=fin n code out i d)
 |[],0,i,d,_,_,b=>by
  simp only [atL,E5,fin,K7,List.getD_cons_zero,U6,List.not_mem_nil,false_or,List.length_nil];split<;>rename_i h
  .simp [h]
  .simp [h];omega
 |[],p+1,i,d,_,h,_=>by simp at h
 |x::r,0,i,d,c,_,b=>by
  have a:n∉x.to/\n∉wr r:=by simpa [wr] using c
  rw [X0,ah6,<-X0];have ih:=bc0 n out r 0 (i+1) (if n∈x.from_ then i else d) a.2 (Nat.zero_le _) (by split<;>omega);rw [ih];have hl:=ah8 n r (i+1) (if n∈x.from_ then i else d) (by split<;>omega);simp only [fin,K7,cp0,Int.natCast_add,a.1,not_false_eq_true,and_true];by_cases f:n∈out
  .simp only [f,if_true];by_cases hf:n∈x.from_
   .simp [hf];omega
   .simp [hf];omega
  .simp only [f,if_false];by_cases hf:n∈x.from_
   .simp only [hf,if_true,true_or,true_iff] at hl |-;omega
   .simp only [hf,if_false,false_or] at hl |-;have h3:∀ (q:List Ins) (j d:Int),d<j->K7 n q j d=d\/j<=K7 n q j d:=by
     intro q
     induction q with
     |nil=>intro j d _;exact .inl rfl
     |cons y q ih=>
      intro j d b;simp only [K7];rcases ih (j+1) (if n∈y.from_ then j else d) (by split<;>omega) with h|h
      .split at h
       .rename_i e;right;simp only [e,if_true];omega
       .rename_i e;left;simp only [e,if_false];exact h
      .right;omega
    have:=h3 r (i+1) d (by omega);omega
 |x::r,p+1,i,d,c,g,b=>by
  have a:n∉x.to/\n∉wr r:=by simpa [wr] using c
  rw [ah7];have ih:=bc0 n out r p (i+1) (if n∈x.from_ then i else d) a.2 (by simpa using g) (by split<;>omega);rw [ih];simp only [fin,K7,cp0,Int.natCast_add];split<;>omega
theorem bK8 (n:Int) (out:List Int) (x:Ins) (r:List Ins) (b:n∈x.to) (a:n∉x.from_):∀ (l:List Ins),(∀ y∈l,n∉y.from_)->∀ p:Nat,p<=l.length->n∉atL (l++x::r) out p
 |[],_,0,_=>by rw [List.nil_append,X0,ah6];simp [b,a]
 |[],_,p+1,h=>by simp at h
 |y::l,hl,0,_=>by have ih:=bK8 n out x r b a l (λz c=>hl z (by simp [c])) 0 (Nat.zero_le _);rw [List.cons_append,X0,ah6,<-X0];have:=hl y (by simp);simp [ih,this]
 |y::l,hl,p+1,h=>by rw [List.cons_append,ah7];exact bK8 n out x r b a l (λz c=>hl z (by simp [c])) p (by simpa using h)
theorem aN4 (out:List Int) (r:List Ins):∀ (l:List Ins) (p:Nat),atL (l++r) out (l.length+p)=atL r out p
 |[],p=>by simp
 |x::l,p=>by rw [List.cons_append,cp0,show l.length+1+p=(l.length+p)+1 by omega,ah7];exact aN4 out r l p
structure Checked (a:Int) (b:List Ins) (c:List Int):Prop where
 len:b.length<=4000
 pos:0<=a
 few:a<=4000
 outR:∀ n∈c,0<=n/\n<=3999
 toR:∀ x∈b,∀ n∈x.to,0<=n/\n<=3999
 fromR:∀ x∈b,∀ n∈x.from_,0<=n/\n<=3999
 once:C0 (wr b)=true
 new:∀ n∈wr b,a<=n
 there:F7 a [] b=true
 outT:∀ n∈c,n<a\/n∈wr b
theorem aG9 {n:Int}:U3 n=true<->0<=n/\n<=3999:=by simp [U3,lies]
theorem bk0 {a:Int} {b:List Ins} {c d:List Int} (h:E4 ⟨a,b,c,d⟩=0):Checked a b c:=by
 simp only [E4] at h;split at h
 .cases h
 rename_i h1;split at h
 .cases h
 rename_i h2;split at h
 .cases h
 rename_i h3;split at h
 .cases h
 rename_i h4;simp only [Bool.not_eq_true',Bool.not_eq_false,cn7,cq4,cp6,lies] at h2 h3 h4;obtain ⟨⟨f,i⟩,g⟩:=h2;exact ⟨by omega,f.1,f.2,λn e=>aG9.1 (i n e),λx j n e=>aG9.1 ((g x j).1 n e),λx j n e=>aG9.1 ((g x j).2 n e),h3.1,h3.2,h4.1,λn e=>by
  have:=h4.2 n e;simpa [List.contains_iff_mem] using this⟩
theorem cl6 {b:List Ins} {n:Int}:n∈wr b<->∃ x∈b,n∈x.to:=by simp [wr,List.mem_flatMap]
theorem U8 (l r:List Ins):wr (l++r)=wr l++wr r:=by simp [wr]
theorem as3 (x:Ins) (r:List Ins):wr (x::r)=x.to++wr r:=by simp [wr]
theorem G5:∀ {l:List Int},C0 l=true<->l.Nodup
 |[]=>by simp [C0]
 |x::r=>by simp only [C0,cn7,Bool.not_eq_true',G5 (l:=r),List.nodup_cons];rw [Bool.eq_false_iff,ne_eq,List.contains_iff_mem]
theorem X1 {a:Int}:∀ {l:List Ins} {x:Ins} {r:List Ins} {W:List Int},F7 a W (l++x::r)=true->∀ n∈x.from_,n<a\/n∈W++wr l:=by intro l x r W h n b;rw [L6] at h;simp only [cn7,F7,cq4] at h;have:=h.2.1 n b;simpa [List.contains_iff_mem] using this
theorem bV1 {b:List Ins} {n:Int} (h:n∈wr b):∃ l x r,b=l++x::r/\n∈x.to/\n∉wr l:=by
 induction b with
 |nil=>simp [wr] at h
 |cons y b ih=>
  by_cases a:n∈y.to
  .exact ⟨[],y,b,rfl,a,by simp [wr]⟩
  .rw [as3,cq1] at h;obtain ⟨l,x,r,h1,h2,h3⟩:=ih (h.resolve_left a);refine ⟨y::l,x,r,by rw [h1];rfl,h2,?_⟩;rw [as3,cq1];rintro (h|h)
   .exact a h
   .exact h3 h
theorem aT1 (m:Spans) (n:Int):mget eqI (m.map λx=>(x.1,finS x.2)) n=(mget eqI m n).map finS:=by
 induction m with
 |nil=>rfl
 |cons x r ih=>
  obtain ⟨k,s⟩:=x;simp only [List.map_cons,mget,eqI,co7,beq_iff_eq];split
  .rfl
  .exact ih
theorem aH0 (n:Int):∀ (code:List Ins) (m:Spans) (i:Int),n∉wr code->(∀ x∈code,n∉x.from_)->mget eqI m n=none->mget eqI (I6 m code i) n=none
 |[],m,i,_,_,h=>h
 |x::r,m,i,a,hf,h=>by rw [as3,cq1] at a;refine aH0 n r _ _ (λh'=>a (.inr h')) (λy b=>hf y (by simp [b])) ?_;rw [U7,if_neg (λh'=>a (.inl h')),ap3,if_neg (hf x (by simp)),h]
theorem av7 (n:Int):∀ (code:List Ins) (i d:Int),(∀ x∈code,n∉x.from_)->K7 n code i d=d
 |[],_,_,_=>rfl
 |x::r,i,d,h=>by simp only [K7,if_neg (h x (by simp))];exact av7 n r _ _ (λy a=>h y (by simp [a]))
theorem bc1 {a:Int} {b:List Ins} {c:List Int} {n f l:Int} (h:mget eqI (L2 a b c) n=some ⟨f,l⟩) (hf:0<=f) (hl:l=-1\/0<=l) (p:Nat):W9 (A8 a b c) p n=true<->f<=p/\(p:Int)<=l:=by
 unfold W9 A8;rw [aT1,h];simp only [Option.map_some,finS];rcases hl with hl|hl
 .subst hl;simp [O4,never];omega
 .rw [if_neg (by omega)];simp [O4];omega
theorem bV2 {a:Int} {b:List Ins} {c:List Int} (C:Checked a b c) (n:Int) (p:Nat) (G:p<=b.length):W9 (A8 a b c) p n=true<->n∈atL b c p:=by
 have f:∀ (m:Spans),mget eqI (uses m c b.length) n=if n∈c then some ⟨(getS m n).first,(b.length:Int)⟩ else mget eqI m n:=λm=>ap3 c _ n m;by_cases i:n∈wr b
 .obtain ⟨l,x,r,k,o,hl⟩:=bV1 i;have s:=G5.1 C.once;rw [k,U8,as3] at s;have hr:n∉wr r:=by
   intro h;have h2:=(List.nodup_append.1 s).2.1;exact (List.nodup_append.1 h2).2.2 n o n h rfl
  have t:¬ n<a:=by have:=C.new n i;omega
  have e:=C.there;rw [k] at e;have B:n∉x.from_:=λh=>by
   rcases X1 e n h with h1|h1
   .exact t h1
   .exact hl (by simpa using h1)
  have D:∀ y∈l,n∉y.from_:=by
   intro y I h;obtain ⟨J,K,d⟩:=List.append_of_mem I;have j:=e;rw [d,cq0,List.cons_append] at j;rcases X1 j n h with h1|h1
   .exact t h1
   .refine hl ?_;rw [d,U8];exact List.mem_append_left _ (by simpa using h1)
  have u:mget eqI (I6 (L1 a) b 0) n=some ⟨(l.length:Int)+1,K7 n r ((l.length:Int)+1) (-1)⟩:=by have:=aj1 n l x r (L1 a) 0 o hr;rw [k];simpa using this
  have v:b.length=l.length+(r.length+1):=by rw [k];simp
  have h1:mget eqI (L2 a b c) n=some ⟨(l.length:Int)+1,fin n r c ((l.length:Int)+1) (-1)⟩:=by
   unfold L2 fin;rw [f,u];split
   .simp only [getS,u,Option.getD_some,cn4,Span.mk.injEq,true_and];rw [v];omega
   .rfl
  have g:fin n r c ((l.length:Int)+1) (-1)=-1\/0<=fin n r c ((l.length:Int)+1) (-1):=by
   unfold fin;split
   .right;omega
   .have:=ah8 n r ((l.length:Int)+1) (-1) (by omega);omega
  rw [bc1 h1 (by omega) g p];by_cases E:p<=l.length
  .have:=bK8 n c x r o B l D p E;rw [<-k] at this;constructor
   .intro h;omega
   .intro h;exact absurd h this
  .obtain ⟨q,H⟩:∃ q,p=l.length+(q+1):=⟨p-l.length-1,by omega⟩;have F:=bc0 n c r q ((l.length:Int)+1) (-1) hr (by omega) (by omega);have:atL b c p=atL r c q:=by rw [k,H,aN4,ah7]
   rw [this,F,H];constructor
   .intro h;omega
   .intro h;omega
 .by_cases w:0<=n/\n<a
  .have h0:mget eqI (L1 a) n=some ⟨0,-1⟩:=by
    unfold L1;rw [aG8,if_pos ⟨w.1,by omega⟩]
   have u:=ae4 n b (L1 a) 0 0 (-1) i h0;have h1:mget eqI (L2 a b c) n=some ⟨0,fin n b c 0 (-1)⟩:=by
    unfold L2 fin;rw [f,u];split
    .simp only [getS,u,Option.getD_some,cn4,Span.mk.injEq,true_and];omega
    .rfl
   have g:fin n b c 0 (-1)=-1\/0<=fin n b c 0 (-1):=by
    unfold fin;split
    .right;omega
    .have:=ah8 n b 0 (-1) (by omega);omega
   rw [bc1 h1 (by omega) g p,bc0 n c b p 0 (-1) i G (by omega)];omega
  .have z:∀ x∈b,n∉x.from_:=by
    intro x o h;have h1:=C.fromR x o n h;obtain ⟨J,K,d⟩:=List.append_of_mem o;have e:=C.there;rw [d] at e;rcases X1 e n h with h2|h2
    .omega
    .refine i ?_;rw [d,U8];exact List.mem_append_left _ (by simpa using h2)
   have A:n∉c:=λh=>by
    have h1:=C.outR n h;rcases C.outT n h with h2|h2
    .omega
    .exact i h2
   have h0:mget eqI (L1 a) n=none:=by unfold L1;rw [aG8,if_neg (by omega)]
   have h1:mget eqI (L2 a b c) n=none:=by unfold L2;rw [f,if_neg A];exact aH0 n b _ _ i z h0
   have F:=bc0 n c b p 0 (-1) i G (by omega);rw [F];unfold W9 A8;rw [aT1,h1];simp only [Option.map_none,fin,if_neg A,av7 n b _ _ z];simp;omega
theorem bV3 {n:Int} {k:Nat}:n∈upto k<->0<=n/\n<k:=by
 unfold upto;simp only [List.mem_map,List.mem_range];constructor
 .rintro ⟨j,a,rfl⟩;omega
 .rintro ⟨h1,h2⟩;exact ⟨n.toNat,by omega,by omega⟩
theorem bK9 (k:Nat):incr (upto k):=by unfold incr upto;rw [List.pairwise_map];exact List.Pairwise.imp (λh=>by omega) List.pairwise_lt_range
theorem az4 (out:List Int):∀ (code:List Ins) (p:Nat),incr (atL code out p)
 |[],0=>by show incr (D8 [] out);exact W6 List.Pairwise.nil _
 |[],p+1=>by show incr (([D8 [] out]:List (List Int)).getD (p+1) []);simp [incr]
 |x::r,0=>by show incr (aF2 x _);exact W6 (W6 List.Pairwise.nil _) _
 |x::r,p+1=>by rw [ah7];exact az4 out r p
theorem aT2 {a:Int} {b:List Ins} {c:List Int} (C:Checked a b c) {n:Int} {p:Nat} (h:n∈atL b c p):0<=n/\n<=3999:=by
 have hf:=C.fromR;have e:=C.outR;clear C
 induction b generalizing p with
 |nil=>
  cases p with
  |zero=>exact e n (by simpa [atL,E5,U6] using h)
  |succ p=>simp [atL,E5] at h
 |cons x r ih=>
  cases p with
  |zero=>
   rw [X0,ah6,<-X0] at h;rcases h with h|h
   .exact hf x (by simp) n h
   .exact ih h.1 (λy d=>hf y (by simp [d]))
  |succ p=>rw [ah7] at h;exact ih h (λy d=>hf y (by simp [d]))
theorem bV4 {a:Int} {b:List Ins} {c:List Int} (C:Checked a b c):Y7 (A8 a b c) b.length 4000=E5 b c:=by
 apply List.ext_getElem?;intro p;unfold Y7;rw [co9];by_cases d:p<b.length+1
 .rw [List.getElem?_range d,Option.map_some];have h1:(E5 b c)[p]? =some (atL b c p):=by
   unfold atL;rw [co8,cn6 (by rw [K6];exact d)];rfl
  rw [h1];congr 1;refine br7 (List.Pairwise.filter _ (bK9 4000)) (az4 c b p) (λn=>?_);rw [List.mem_filter,bV3,bV2 C n p (by omega)];constructor
  .exact λh=>h.2
  .intro h;have:=aT2 C h;exact ⟨by omega,h⟩
 .rw [List.getElem?_eq_none (by simp;omega),List.getElem?_eq_none (by rw [K6];omega)];rfl
theorem T2 (m:Spans) (L:Nat) (n q:Int):(O5 m L n q).length=L+1:=by simp [O5]
theorem bc2 (m:Spans) (L k:Nat):O5 m L k (getS m k).first=Y7 m L k:=by
 unfold O5 Y7;apply List.map_congr_left;intro p a;rw [if_neg,List.append_nil,cn8];rintro ⟨h1,h2⟩;unfold W9 at h2;unfold getS at h1;split at h2
 .rename_i s hs;rw [hs] at h1;simp [O4] at h2 h1;omega
 .cases h2
theorem by8 (m:Spans) (L k:Nat) (q:Int) (h:(mget eqI m k).isSome=false\/(getS m k).last<q):O5 m L k q=Y7 m L (k+1):=by
 unfold O5 Y7;apply List.map_congr_left;intro p c;rw [cn8,bb4,List.filter_append];congr 1;by_cases hl:W9 m p k=true
 .have b:(p:Int)<q:=by
   have a:=hl;unfold W9 at a;split at a
   .rename_i s hs;rcases h with h|h
    .rw [hs] at h;cases h
    .unfold getS at h;rw [hs] at h;simp [O4] at a h;omega
   .cases a
  rw [List.filter_cons_of_pos hl,List.filter_nil,if_pos ⟨b,hl⟩]
 .rw [List.filter_cons_of_neg (by simpa using hl),List.filter_nil,if_neg (λh'=>hl h'.2)]
theorem bk1 (m:Spans) (L k q:Nat) (c:q<=L) (hl:W9 m q k=true):(O5 m L k q).set q ((O5 m L k q).getD q []++[(k:Int)])=O5 m L k ((q+1:Nat):Int):=by
 apply List.ext_getElem?;intro p;rw [cp9,T2];by_cases b:q=p
 .subst b;rw [if_pos rfl,if_pos (by omega),co8];unfold O5;rw [co9,co9,List.getElem?_range (by omega)];simp only [Option.map_some,Option.getD_some,hl,and_true];rw [if_neg (by omega),if_pos (by omega),List.append_nil]
 .rw [if_neg b];unfold O5;rw [co9,co9];by_cases a:p<L+1
  .rw [List.getElem?_range a];simp only [Option.map_some];by_cases h1:(p:Int)<q
   .simp only [h1,show (p:Int)<((q+1:Nat):Int) by omega,true_and]
   .rw [if_neg (λh=>h1 h.1),if_neg (λh=>by have:=h.1;omega)]
  .rw [List.getElem?_eq_none (by simp;omega)];rfl
theorem bk2 {a:Int} {b:List Ins} {c:List Int} {n:Int} {s:Span} (h:mget eqI (A8 a b c) n=some s):0<=s.first/\s.first<=b.length/\s.last<=b.length:=by
 have key:∀ (m:Spans),(∀ n s,mget eqI m n=some s->0<=s.first/\s.first<=(b.length:Int)/\s.last<=(b.length:Int))->∀ (l:List Int) (i:Int),0<=i->i<=b.length->(∀ n s,mget eqI (K5 m l i) n=some s->0<=s.first/\s.first<=(b.length:Int)/\s.last<=(b.length:Int))/\(∀ n s,mget eqI (uses m l i) n=some s->0<=s.first/\s.first<=(b.length:Int)/\s.last<=(b.length:Int)):=by
  intro m hm l i d e;refine ⟨λn s h=>?_,λn s h=>?_⟩
  .rw [U7] at h;split at h
   .cases h;exact ⟨d,e,by dsimp only;omega⟩
   .exact hm n s h
  .rw [ap3] at h;split at h
   .simp only [cn4] at h;subst h;cases hg:mget eqI m n with
    |none=>simp [getS,hg];omega
    |some s'=>have:=hm n s' hg;simp [getS,hg];omega
   .exact hm n s h
 have f:∀ (code:List Ins) (m:Spans) (i:Int),0<=i->i+code.length<=b.length->(∀ n s,mget eqI m n=some s->0<=s.first/\s.first<=(b.length:Int)/\s.last<=(b.length:Int))->∀ n s,mget eqI (I6 m code i) n=some s->0<=s.first/\s.first<=(b.length:Int)/\s.last<=(b.length:Int):=by
  intro code
  induction code with
  |nil=>intro m i _ _ h;exact h
  |cons x r ih=>intro m i h0 h1 h2;simp only [cp0,Int.natCast_add] at h1;exact ih _ (i+1) (by omega) (by omega) (key _ (key m h2 x.from_ i h0 (by omega)).2 x.to (i+1) (by omega) (by omega)).1
 have h0:∀ n s,mget eqI (L1 a) n=some s->0<=s.first/\s.first<=(b.length:Int)/\s.last<=(b.length:Int):=by
  intro n s h;unfold L1 at h;rw [aG8] at h;split at h
  .cases h;dsimp only;omega
  .cases h
 have h1:∀ n s,mget eqI (L2 a b c) n=some s->0<=s.first/\s.first<=(b.length:Int)/\s.last<=(b.length:Int):=
  (key _ (f b (L1 a) 0 (by omega) (by omega) h0) c b.length (by omega) (Int.le_refl _)).2
 unfold A8 at h;rw [aT1] at h;cases hs:mget eqI (L2 a b c) n with
 |none=>rw [hs] at h;cases h
 |some s'=>
  rw [hs] at h;simp only [Option.map_some,cn4] at h;have:=h1 n s' hs;subst h;unfold finS;split
  .show 0<=(0:Int)/\(0:Int)<=_/\(-1:Int)<=_;omega
  .exact this
theorem bk3 (a:Int) (b:List Ins) (c:List Int) (n:Int):0<=(getS (A8 a b c) n).first/\(getS (A8 a b c) n).first<=b.length/\(getS (A8 a b c) n).last<=b.length:=by
 unfold getS;cases h:mget eqI (A8 a b c) n with
 |none=>simp
 |some s=>exact bk2 h
theorem cf6 (a:Int) (b:List Ins) (c d:List Int):vc (EVd [(23,[0])] noIt [(41,cCheck),(51,cSpans),(69,cAt)]) (cf3 a b c) Go.Proofs.Tryd.f33 cLive (a,b,c,d,()):=by
 rw [cf4 a b c d];intro t A E u F G O _ _;have f:u=((O8 ⟨a,b,c,d⟩).1,(O8 ⟨a,b,c,d⟩).2,()):=rfl;refine ⟨λh=>?_,λh=>?_⟩
 .have h:E4 ⟨a,b,c,d⟩≠0:=by simpa [t] using h
  rw [f];unfold O8;rw [if_pos h]
 have h:E4 ⟨a,b,c,d⟩=0:=by simpa [t] using h
 have C:=bk0 h;have H:=C.len;have f:u=(E5 b c,0,()):=by rw [f];unfold O8;rw [if_neg (by simpa using h)]
 have I:A=((b.length+1:Nat):Int):=L5 (by omega) (by omega)
 clear_value u A
 subst f I;simp only [t,E,F,G,true_and,and_true,Bool.cond_self];refine ⟨⟨by omega,by omega⟩,C.few,⟨(0,List.replicate (b.length+1) [],()),rfl,by dsimp only;rw [cn8],Int.le_refl _,by dsimp only;omega,?_⟩,?_⟩
 .dsimp only;apply List.ext_getElem?;intro p;unfold Y7;rw [co9,List.getElem?_replicate];by_cases v:p<b.length+1
  .rw [if_pos v,List.getElem?_range v];rfl
  .rw [if_neg v,List.getElem?_eq_none (by simp;omega)];rfl
 rintro ⟨i,out,⟨⟩⟩ ⟨h0,h1,h2⟩;dsimp only at h0 h1 h2 |-;obtain ⟨k,rfl⟩:=co0 h0;rw [cn8] at h2;subst h2;have J:(mget (λx y=>x==y) (A8 a b c) (k:Int)).getD ⟨0,0⟩=getS (A8 a b c) k:=rfl;rw [J];have hB:=bk3 a b c k;refine ⟨λn=>⟨⟨((getS (A8 a b c) k).first,Y7 (A8 a b c) b.length k,()),rfl,rfl,hB.1,by dsimp only;omega,Int.le_refl _,(bc2 _ _ _).symm⟩,?_⟩,λw=>?_⟩
 .have n:(k:Int)<4000:=co4 n;rintro ⟨q,out,⟨⟩⟩ ⟨r,K,L,B⟩;dsimp only at r K L B |-;obtain ⟨j,rfl⟩:=co0 r;subst B;simp only [cn8];refine ⟨λhc=>?_,λhc=>?_⟩
  .simp only [cn7,cp6] at hc;have g:O4 (getS (A8 a b c) k).first (getS (A8 a b c) k).last j=true:=by
    simp only [O4,cn7,Bool.not_eq_true',Bool.and_eq_false_iff,decide_eq_false_iff_not,cp6];omega
   have z:W9 (A8 a b c) j k=true:=by
    unfold W9;unfold getS at g;have e:(mget eqI (A8 a b c) (k:Int)).isSome=true:=hc.1;cases hm:mget eqI (A8 a b c) (k:Int) with
    |none=>rw [hm] at e;cases e
    |some s=>rw [hm] at g;exact g
   have M:j<=b.length:=by omega
   have o:∀ x∈O5 (A8 a b c) b.length k j,x.length<=4001:=by
    intro x D;unfold O5 at D;obtain ⟨p,_,rfl⟩:=List.mem_map.1 D;rw [cp5,cn8];have h3:((upto k).filter (W9 (A8 a b c) p)).length<=k:=by refine Nat.le_trans (List.length_filter_le _ _) ?_;simp [upto]
    split<;>simp<;>omega
   refine ⟨λ_=>⟨⟨r,by rw [T2];omega⟩,?_,r,by rw [T2];omega⟩,((j+1:Nat),O5 (A8 a b c) b.length k ((j+1:Nat):Int),()),B4 (m:=b.length+1) (by omega) (by omega),?_,⟨by omega,by dsimp only;omega,by dsimp only;omega,rfl⟩,by dsimp only;omega⟩
   .have:=o _ (G8 (l:=O5 (A8 a b c) b.length k j) (i:=j) (by rw [T2];omega) []);simp only [cp8];omega
   .rw [g];exact bk1 _ _ _ _ M z
  .refine ⟨((k+1:Nat),Y7 (A8 a b c) b.length (k+1),()),B4 (m:=4000) (by omega) (by omega),?_,⟨by omega,by dsimp only;omega,by rw [cn8]⟩,by dsimp only;omega⟩;refine by8 _ _ _ _ ?_;rw [Bool.and_eq_false_iff,decide_eq_false_iff_not] at hc;rcases hc with hc|hc
   .exact .inl hc
   .exact .inr (by omega)
 .have N:k=4000:=by have:¬ (k:Int)<4000:=co3 w;omega
  subst N;refine ⟨⟨by omega,Int.le_refl _,Int.le_refl _⟩,?_⟩;rw [cn8,cq2,bV4 C]
theorem aN5:C5 prog RG 33 cLive:=br6 bH4 (A6 al7 (A6 aG7 (A6 br9 B8))) (λp=>cf3 p.1 p.2.1 p.2.2.1) (by kernel_rfl) (by kernel_rfl) (by kernel_rfl) λ(a,b,c,d,()) _=>cf6 a b c d
def bL0 (m:Int) (p:List Int×Ins):Int:=max m ((D8 p.1 p.2.to).length:Int)
def U9 (lv:List (List Int)) (code:List Ins) (k:Nat):Int:=((lv.tail.zip code).take k).foldl bL0 ((lv.headD []).length:Int)
def ae5 (l m:List Int):Int:=(l.length:Int)+((m.filter λn=>!l.contains n).length:Int)
def bL1 (code:List Ins) (out:List Int):Nat->St RU->Ann RU:=λk s=>match k with
 |0=>⟨[],[.slot 27,.slot 6],[i64,i64],λp=>0<=p.1/\p.1<=code.length/\p.2.1=U9 (E5 code out) code p.1.toNat,λp=>code.length-p.1.toNat,[]⟩
 |_=>⟨[],[.slot 41,.slot 9],[i64,i64],λp=>0<=p.1/\p.1<=(code.getD (s.intAt 27).toNat ins0).to.length/\p.2.1=ae5 (atL code out ((s.intAt 27).toNat+1)) ((code.getD (s.intAt 27).toNat ins0).to.take p.1.toNat),λp=>(code.getD (s.intAt 27).toNat ins0).to.length-p.1.toNat,[]⟩
def ae6 (x3 x4:List Int) (x5:List Ins):Bool:=decide (x3.length<=17592186044416)&&decide (x4.length<=17592186044416)&&decide (x5.length<=1599289640354)&&K4 x5
def getI (m:List (Int×Int)) (n:Int):Int:=(mget eqI m n).getD 0
def cOld:Con RU:=⟨[one,one],[i64,mapI],[.d 0,.ptr 0 0],[.box 84 [.map 1],.map 1],none,none,[one],[i64,mapI],[.d 0],[.box 84 [.map 1],.map 1],λp=>(getI p.2.1 p.1,p.2),[0,1],[],[]⟩
theorem bV5 (a:Int) (b:List Ins) (c d:List Int):vc (EV [(33,cLive),(61,cContains)]) (bL1 b c) Go.Proofs.Tryd.f29 cPress (a,b,c,d,())=(let g:Bool:=(O8 (VFun.mk a b c d)).2 !=(0:Int);
 let f:List (List Int):=(O8 (VFun.mk a b c d)).1;
 let i:Int:=(O8 (VFun.mk a b c d)).2;
 let e:Int:=(↑(List.length b):Int);
 let j:Ins:=Ins.mk (0:Int) (0:Int) [] [] [];
 let o:Int×Int×Unit:=((U4 (VFun.mk a b c d)).1,(U4 (VFun.mk a b c d)).2,());
 let n:Int:=(↑(List.length f):Int);
  Small RU (Sigma.mk (Ty.slice (52:Nat) (Ty.user (0:Nat))) b)->
  Small RU (Sigma.mk (Ty.slice (3:Nat) (Ty.int IntKind.i64)) c)->
  Small RU (Sigma.mk (Ty.slice (3:Nat) (Ty.int IntKind.i64)) d)->
  (g=true->((0:Int),i,())=o)/\
  (g=false->
  ((0:Int)<=(0:Int)/\(0:Int)<n)/\
  (∃ (p:Int×Int×Unit),
  a=a/\
  b=b/\
  c=c/\
  d=d/\
  (0:Int)=(0:Int)/\
  (0:Int)=(0:Int)/\
  f=f/\
  i=i/\
  g=g/\
  b=b/\
  e=e/\
  (0:Int)=p.1/\
  (↑(List.length (List.getD f (0:Nat) [])):Int)=p.2.1/\
  a=a/\b=b/\c=c/\d=d/\(0:Int)<=p.1/\p.1<=e/\p.2.1=U9 (E5 b c) b (Int.toNat p.1))/\
  ∀ (p:Int×Int×Unit),
 let e0_1:Bool:=decide (p.1<e);
 let e1_1:Int:=(↑(List.length (List.getD b (Int.toNat p.1) j).to):Int);
 let e2_1:Int:=p.2.1;
 let e3_1:Int:=IntKind.i64.wrap (p.1+(1:Int));
 let e4_1:List Int:=(List.getD b (Int.toNat p.1) j).to;
 let e5_1:Int:=p.1;
 let e6_1:Int:=(List.getD b (Int.toNat e5_1) j).n;
 let k:Int:=(List.getD b (Int.toNat e5_1) j).op;
 let l:List Int:=(List.getD b (Int.toNat e5_1) j).from_;
 let m:List Ins:=(List.getD b (Int.toNat e5_1) j).body;
 let h:Nat:=List.length (List.getD b (Int.toNat e5_1) ins0).to;
  (0:Int)<=e5_1/\e5_1<=e/\e2_1=U9 (E5 b c) b (Int.toNat e5_1)->
  (e0_1=true->
  ((0:Int)<=e5_1/\e5_1<e)/\
  ((0:Int)<=e3_1/\e3_1<n)/\
  (∃ (p:Int×Int×Unit),
  a=a/\
  b=b/\
  c=c/\
  d=d/\
  (0:Int)=(0:Int)/\
  (0:Int)=(0:Int)/\
  f=f/\
  i=i/\
  g=g/\
  b=b/\
  e=e/\
  e5_1=e5_1/\
  e2_1=e2_1/\
  e0_1=e0_1/\
  e5_1=e5_1/\
  e4_1=e4_1/\
  e1_1=e1_1/\
  (0:Int)=p.1/\
  (↑(List.length (List.getD f (Int.toNat e3_1) [])):Int)=p.2.1/\
  a=a/\
  b=b/\
  c=c/\
  d=d/\
  k=k/\
  e6_1=e6_1/\
  e4_1=e4_1/\
  l=l/\
  m=m/\
  (0:Int)<=p.1/\
  p.1<=(↑h:Int)/\
  p.2.1=
  ae5 (atL b c (Int.toNat e5_1+(1:Nat)))
  (List.take (Int.toNat p.1) (List.getD b (Int.toNat e5_1) ins0).to))/\
  ∀ (p:Int×Int×Unit),
 let e0_2:Bool:=!List.contains (List.getD f (Int.toNat e3_1) []) (List.getD e4_1 (Int.toNat p.1) (0:Int));
 let e1_2:Int:=p.2.1;
 let e2_2:Int:=p.1;
 let e3_2:Bool:=decide (e2_2<e1_1);
 let j:List Int:=atL b c (Int.toNat e5_1+(1:Nat));
  (0:Int)<=e2_2/\e2_2<=(↑h:Int)/\e1_2=ae5 j (List.take (Int.toNat e2_2) (List.getD b (Int.toNat e5_1) ins0).to)->
  (e3_2=true->
  ((0:Int)<=e2_2/\e2_2<e1_1)/\
  ((0:Int)<=e3_1/\e3_1<n)/\
  ∃ (p':Int×Int×Unit),
  (bif e0_2 then a else a)=a/\
  (bif e0_2 then b else b)=b/\
  (bif e0_2 then c else c)=c/\
  (bif e0_2 then d else d)=d/\
  (bif e0_2 then (0:Int) else (0:Int))=(0:Int)/\
  (bif e0_2 then (0:Int) else (0:Int))=(0:Int)/\
  (bif e0_2 then f else f)=f/\
  (bif e0_2 then i else i)=i/\
  (bif e0_2 then g else g)=g/\
  (bif e0_2 then b else b)=b/\
  (bif e0_2 then e else e)=e/\
  (bif e0_2 then e5_1 else e5_1)=e5_1/\
  (bif e0_2 then e2_1 else e2_1)=e2_1/\
  (bif e0_2 then e0_1 else e0_1)=e0_1/\
  (bif e0_2 then e5_1 else e5_1)=e5_1/\
  (bif e0_2 then e4_1 else e4_1)=e4_1/\
  (bif e0_2 then e1_1 else e1_1)=e1_1/\
  IntKind.i64.wrap ((bif e0_2 then e2_2 else e2_2)+(1:Int))=p'.1/\
  (bif e0_2 then IntKind.i64.wrap (e1_2+(1:Int)) else e1_2)=p'.2.1/\
  (bif e0_2 then a else a)=a/\
  (bif e0_2 then b else b)=b/\
  (bif e0_2 then c else c)=c/\
  (bif e0_2 then d else d)=d/\
  (bif e0_2 then k else k)=k/\
  (bif e0_2 then e6_1 else e6_1)=e6_1/\
  (bif e0_2 then e4_1 else e4_1)=e4_1/\
  (bif e0_2 then l else l)=l/\
  (bif e0_2 then m else m)=m/\
  ((0:Int)<=p'.1/\
  p'.1<=(↑h:Int)/\
  p'.2.1=ae5 j (List.take (Int.toNat p'.1) (List.getD b (Int.toNat e5_1) ins0).to))/\
  h-Int.toNat p'.1<h-Int.toNat e2_2)/\
  (e3_2=false->
  ∃ (p':Int×Int×Unit),
  a=a/\
  b=b/\
  c=c/\
  d=d/\
  (0:Int)=(0:Int)/\
  (0:Int)=(0:Int)/\
  f=f/\
  i=i/\
  g=g/\
  b=b/\
  e=e/\
  e3_1=p'.1/\
  (if e1_2 >e2_1 then e1_2 else e2_1)=p'.2.1/\
  a=a/\
  b=b/\
  c=c/\
  d=d/\
  ((0:Int)<=p'.1/\p'.1<=e/\p'.2.1=U9 (E5 b c) b (Int.toNat p'.1))/\
  List.length b-Int.toNat p'.1<List.length b-Int.toNat e5_1))/\
  (e0_1=false->(e2_1,(0:Int),())=o))):=by kernel_rfl
theorem aH1 {l:List Int} (h:incr l) (n:Int):(R6 l n).length=if n∈l then l.length else l.length+1:=by
 induction l with
 |nil=>simp [R6]
 |cons x r ih=>
  obtain ⟨h1,h2⟩:=List.pairwise_cons.1 h;simp only [R6];by_cases b:x=n
  .simp [b]
  .rw [if_neg b];by_cases a:n<x
   .have:n∉x::r:=by
     intro hm;rcases List.mem_cons.1 hm with hm|hm
     .exact b hm.symm
     .have:=h1 n hm;omega
    simp [a,this]
   .rw [if_neg a,cp0,ih h2];have:(n∈x::r)=(n∈r):=by simp [Ne.symm b]
    simp only [this,cp0];split<;>omega
theorem bc3 {l:List Int} (h:incr l):∀ {m:List Int},m.Nodup->((D8 l m).length:Int)=ae5 l m:=by
 intro m
 induction m generalizing l with
 |nil=>intro _;simp [D8,ae5]
 |cons x r ih=>
  intro d;obtain ⟨a,b⟩:=List.nodup_cons.1 d;rw [show D8 l (x::r)=D8 (R6 l x) r from rfl,ih (aM9 h x) b];unfold ae5;have hf:(r.filter λn=>!(R6 l x).contains n)=r.filter λn=>!l.contains n:=by
   apply List.filter_congr;intro y e;have:(R6 l x).contains y=l.contains y:=by
    rw [Bool.eq_iff_iff,List.contains_iff_mem,List.contains_iff_mem,aF7];constructor
    .rintro (rfl|h)
     .exact absurd e a
     .exact h
    .exact .inr
   rw [this]
  rw [hf,aH1 h,List.filter_cons];by_cases c:x∈l
  .simp [c]
  .simp [c];omega
theorem by9 (b:List Ins) (c:List Int) {k:Nat} (h:k<b.length):U9 (E5 b c) b (k+1)=max (U9 (E5 b c) b k) ((D8 (atL b c (k+1)) (b.getD k ins0).to).length:Int):=by
 unfold U9;have a:k<((E5 b c).tail.zip b).length:=by rw [List.length_zip,List.length_tail,K6];omega
 have d:((E5 b c).tail.zip b).getD k ([],ins0)=(atL b c (k+1),b.getD k ins0):=by rw [co8,cn6 a];simp only [Option.getD_some,List.getElem_zip];unfold atL;rw [co8,co8,cn6 (by rw [K6];omega),cn6 h];simp
 rw [A4 a ([],ins0),d,List.foldl_append];rfl
theorem bV6 {a:Int} {b:List Ins} {c:List Int} (C:Checked a b c) {k:Nat} (h:k<b.length):(b.getD k ins0).to.Nodup:=by
 have h1:=G5.1 C.once;have h2:=bK2 h;have h3:(wr (b.take (k+1))).Nodup:=by rw [<-List.take_append_drop (k+1) b,U8] at h1;exact (List.nodup_append.1 h1).1
 rw [h2] at h3;exact (List.nodup_append.1 h3).2.1
theorem bz0 {l m:List Int} {j:Nat} (h:j<m.length):ae5 l (m.take (j+1))=if !l.contains (m.getD j 0) then ae5 l (m.take j)+1 else ae5 l (m.take j):=by unfold ae5;rw [A4 h 0,List.filter_append,cp5,List.filter_cons];split<;>simp<;>omega
theorem bV7 (a:Int) (b:List Ins) (c d:List Int):vc (EV [(33,cLive),(61,cContains)]) (bL1 b c) Go.Proofs.Tryd.f29 cPress (a,b,c,d,()):=by
 rw [bV5 a b c d];intro B o G H D p E I _ _;have e:p=((U4 ⟨a,b,c,d⟩).1,(U4 ⟨a,b,c,d⟩).2,()):=rfl;have r:D=ins0:=rfl;have f:(O8 ⟨a,b,c,d⟩).2=E4 ⟨a,b,c,d⟩:=by
  unfold O8;by_cases h:E4 ⟨a,b,c,d⟩=0
  .rw [if_neg (by simpa using h),h]
  .rw [if_pos h]
 refine ⟨λh=>?_,λh=>?_⟩
 .have h:E4 ⟨a,b,c,d⟩≠0:=by simpa [B,f] using h
  rw [e];unfold U4;rw [if_pos h];simp only [G,f]
 have h:E4 ⟨a,b,c,d⟩=0:=by simpa [B,f] using h
 have C:=bk0 h;have J:=C.len;have l:o=E5 b c:=by show (O8 ⟨a,b,c,d⟩).1=_;unfold O8;rw [if_neg (by simpa using h)]
 have e:p=(U9 (E5 b c) b b.length,0,()):=by rw [e];unfold U4;rw [if_neg (by simpa using h)];unfold U9;rw [List.take_of_length_le (by rw [List.length_zip];omega)];rfl
 have s:E=b.length+1:=by show ((List.length o:Nat):Int)=_;rw [l,K6];rfl
 clear_value p o E D
 subst e l r s;dsimp only [H];simp only [true_and,and_true,Bool.cond_self];refine ⟨⟨Int.le_refl _,by omega⟩,⟨(0,_,()),rfl,rfl,Int.le_refl _,by dsimp only;omega,?_⟩,?_⟩
 .show ((atL b c 0).length:Int)=U9 (E5 b c) b 0;rw [X0];rfl
 rintro ⟨i,m,⟨⟩⟩ ⟨h0,h1,h2⟩;dsimp only at h0 h1 h2 |-;subst h2;obtain ⟨k,rfl⟩:=co0 h0;simp only [cn8];refine ⟨λg=>?_,λt=>?_⟩
 .have g:(k:Int)<b.length:=co4 g;have K:IntKind.i64.wrap ((k:Int)+1)=((k+1:Nat):Int):=B4 (by omega) (by omega:b.length<=140737488355328);rw [K];simp only [cn8];have u:(b.getD k ins0).to.length<=140737488355328:=aG1 (b:=b) I (by omega);have v:(E5 b c).getD (k+1) []=atL b c (k+1):=rfl;rw [v];refine ⟨⟨h0,g⟩,⟨by omega,by omega⟩,⟨(0,_,()),rfl,rfl,Int.le_refl _,by dsimp only;omega,by simp [ae5]⟩,?_⟩;rintro ⟨q,n,⟨⟩⟩ ⟨w,L,F⟩;dsimp only at w L F |-;obtain ⟨j,rfl⟩:=co0 w;subst F;simp only [cn8];have M:(atL b c (k+1)).length<=4000:=by
   have h3:=az4 c b (k+1);have h4:((atL b c (k+1)).map Int.toNat).Nodup:=by rw [List.Nodup,List.pairwise_map];exact h3.imp_of_mem (λ{x y} z A N S=>by have:=aT2 C z;have:=aT2 C A;omega)
   have:=az3 4000 _ h4 (λx z=>by
    obtain ⟨y,A,rfl⟩:=List.mem_map.1 z;have:=aT2 C A;omega)
   simpa using this
  refine ⟨λhc=>?_,λhc=>?_⟩
  .have hc:(j:Int)<(b.getD k ins0).to.length:=co4 hc;have O:ae5 (atL b c (k+1)) ((b.getD k ins0).to.take j)<=4000+j:=by
    unfold ae5;have:=List.length_filter_le (λn=>!(atL b c (k+1)).contains n) ((b.getD k ins0).to.take j);rw [cq3] at this;omega
   have P:0<=ae5 (atL b c (k+1)) ((b.getD k ins0).to.take j):=by unfold ae5;omega
   refine ⟨⟨w,hc⟩,⟨by omega,by omega⟩,((j+1:Nat),ae5 (atL b c (k+1)) ((b.getD k ins0).to.take (j+1)),()),B4 (by omega) u,?_,⟨by omega,by dsimp only;omega,by rw [cn8]⟩,by dsimp only;omega⟩;dsimp only;rw [bz0 (by omega),L5 (by omega) (by omega)];cases (!(atL b c (k+1)).contains ((b.getD k ins0).to.getD j 0))<;>rfl
  .have Q:j=(b.getD k ins0).to.length:=by have:¬ (j:Int)<(b.getD k ins0).to.length:=co3 hc;omega
   subst Q;rw [cq2];refine ⟨((k+1:Nat),U9 (E5 b c) b (k+1),()),rfl,?_,⟨by omega,by dsimp only;omega,by rw [cn8]⟩,by dsimp only;omega⟩;dsimp only;rw [by9 b c (by omega),bc3 (az4 c b (k+1)) (bV6 C (by omega))];split<;>omega
 .have R:k=b.length:=by have:¬ (k:Int)<b.length:=co3 t;omega
  subst R;rfl
theorem bk4:C5 prog RG 29 cPress:=E1 (A6 aN5 (A6 M5 B8)) (λp=>bL1 p.2.1 p.2.2.1) (by kernel_rfl) (by kernel_rfl) (by kernel_rfl) λ(a,b,c,d,()) _=>bV7 a b c d
theorem aT3 {A l:List Int} {i:Nat} (a:A.length=i) (h:i<l.length):(A++l.drop i).getD i 0=l.getD i 0:=by rw [co8,co8,cp3 (by omega),a,Nat.sub_self,List.getElem?_drop,Nat.add_zero]
theorem aT4 {A l:List Int} {i:Nat} (a:A.length=i) (h:i<l.length) (v:Int):(A++l.drop i).set i v=(A++[v])++l.drop (i+1):=by rw [List.set_append_right _ _ (by omega),a,Nat.sub_self,List.drop_eq_getElem_cons h,List.set_cons_zero];simp
theorem ah9 {A l:List Int} {i:Nat} (a:A.length=i) (h:i<=l.length):(A++l.drop i).length=l.length:=by rw [cp5,List.length_drop];omega
theorem ai0 {b c:List Int} {a:List Ins}:ae6 b c a=true<->(b.length<=17592186044416/\c.length<=17592186044416/\a.length<=1599289640354)/\K4 a=true:=by
 simp only [ae6,cn7,cp6];constructor
 .rintro ⟨⟨⟨h1,h2⟩,h3⟩,h4⟩;exact ⟨⟨h1,h2,h3⟩,h4⟩
 .rintro ⟨⟨h1,h2,h3⟩,h4⟩;exact ⟨⟨⟨h1,h2⟩,h3⟩,h4⟩
structure Named (a:Int) (W:List Int) (m:List (Int×Int)):Prop where
 len:(m.length:Int)=a+W.length
 par:∀ n,0<=n->n<a->mget eqI m n=some n
 wr:∀ n∈W,mget eqI m n=some (a+G9 W n)
 out:∀ n,a<=n->n∉W->mget eqI m n=none
def as4 (b:List Ins):Bool:=b.all λx=>decide (x.from_.length<=17592186044400)&&decide (x.to.length<=17592186044400)
def C7 (n:Int) (l:List Int):Bool:=l.all λx=>decide (0<=x)&&decide (x<n)
def K8 (slots cells:Int) (x:RIns):Bool:=
 if x.kind=0 then C7 slots x.ins.from_&&C7 slots x.ins.to else if x.kind=1\/x.kind=2 then C7 slots [x.slot]&&C7 cells [x.cell] else false
def I5 (slots cells:Int) (p:Place):Bool:=C7 (if p.cell then cells else slots) [p.n]
def D7 (c:RCode):Bool:=
 (C7 4001 [c.params]&&C7 65 [c.slots]&&decide (1<=c.slots)&&decide (c.params<=c.cells)&&decide (c.cells<=8000))&&c.code.all (K8 c.slots c.cells)&&c.out.all (I5 c.slots c.cells)
def cShaped:Con RU:=con [(true,5)] ax2 [one] [.bool] [false] (some λp=>-9223372036854775808<=p.2.1/\p.2.1<9223372036854775808) λp=>(D7 ⟨p.1,p.2.1,p.2.2.1,p.2.2.2.1,p.2.2.2.2.1⟩,())
def bk5 (slots cells:Int) (l:List RIns) (o:List Place):Nat->St RU->Ann RU:=λk s=>match k with
 |0=>⟨[],[.slot 36],[i64],λp=>0<=p.1/\p.1<=l.length/\(l.take p.1.toNat).all (K8 slots cells)=true,λp=>l.length-p.1.toNat,[]⟩
 |_=>⟨[],[.slot 83],[i64],λp=>0<=p.1/\p.1<=o.length/\(o.take p.1.toNat).all (I5 slots cells)=true,λp=>o.length-p.1.toNat,[]⟩
theorem bL2 (a b c:Int) (l:List RIns) (o:List Place):vc (EV [(92,cIn)]) (bk5 b c l o) Go.Proofs.Tryd.f60 cShaped (a,b,c,l,o,())=(
 let f:Bool:=
  ((!List.all [a] λ(n:den RU.T i64)=>decide ((0:Int)<=n)&&decide (n<(4001:Int)))||
  !List.all [IntKind.i64.wrap (b-(1:Int))] λ(n:den RU.T i64)=>decide ((0:Int)<=n)&&decide (n<(64:Int)))||
  decide (c<a)||
  decide (c >(8000:Int));
 let d:Int:=(↑(List.length l):Int);
 let e:RIns:=RIns.mk (0:Int) (0:Int) (0:Int) ins0;
 let g:Int:=(↑(List.length o):Int);
 let h:Place:=Place.mk false (0:Int);
  Small RU (Sigma.mk (Ty.slice (55:Nat) (Ty.user (1:Nat))) l)->
  Small RU (Sigma.mk (Ty.slice (59:Nat) (Ty.user (2:Nat))) o)->
  (f=true->(false,())=(D7 (RCode.mk a b c l o),()))/\
  (f=false->
  (∃ (p:Int×Unit),
  a=a/\
  b=b/\
  c=c/\
  l=l/\
  o=o/\
  f=f/\
  l=l/\
  d=d/\
  (0:Int)=p.1/\
  a=a/\b=b/\c=c/\l=l/\o=o/\[a]=[a]/\(0:Int)<=p.1/\p.1<=d/\List.all (List.take (Int.toNat p.1) l) (K8 b c)=true)/\
  ∀ (p:Int×Unit),
 let e0_1:Bool:=
  (!List.all [bif (List.getD l (Int.toNat p.1) e).kind==(1:Int) then (List.getD l (Int.toNat p.1) e).slot else (List.getD l (Int.toNat p.1) e).slot] λ(n:den RU.T i64)=>
  decide ((0:Int)<=n)&&decide (n<bif (List.getD l (Int.toNat p.1) e).kind==(1:Int) then b else b))||
  !List.all [bif (List.getD l (Int.toNat p.1) e).kind==(1:Int) then (List.getD l (Int.toNat p.1) e).cell else (List.getD l (Int.toNat p.1) e).cell] λ(n:den RU.T i64)=>
  decide ((0:Int)<=n)&&decide (n<bif (List.getD l (Int.toNat p.1) e).kind==(1:Int) then c else c);
 let e1_1:Bool:=
  (!List.all (List.getD l (Int.toNat p.1) e).ins.from_ λ(n:den RU.T i64)=>decide ((0:Int)<=n)&&decide (n<b))||
  !List.all (List.getD l (Int.toNat p.1) e).ins.to λ(n:den RU.T i64)=>decide ((0:Int)<=n)&&decide (n<b);
 let e2_1:Bool:=(List.getD l (Int.toNat p.1) e).kind==(1:Int);
 let e3_1:Bool:=decide (p.1<d);
 let e4_1:Bool:=bif e2_1 then e2_1 else (List.getD l (Int.toNat p.1) e).kind==(2:Int);
 let i:Bool:=(List.getD l (Int.toNat p.1) e).kind==(0:Int);
  (0:Int)<=p.1/\p.1<=d/\List.all (List.take (Int.toNat p.1) l) (K8 b c)=true->
  (e3_1=true->
  ((0:Int)<=p.1/\p.1<d)/\
  (i=true->
  (e1_1=true->(false,())=(D7 (RCode.mk a b c l o),()))/\
  (e1_1=false->
  ∃ (p':Int×Unit),
  a=a/\
  b=b/\
  c=c/\
  l=l/\
  o=o/\
  f=f/\
  l=l/\
  d=d/\
  IntKind.i64.wrap (p.1+(1:Int))=p'.1/\
  a=a/\
  b=b/\
  c=c/\
  l=l/\
  o=o/\
  [a]=[a]/\
  ((0:Int)<=p'.1/\p'.1<=d/\List.all (List.take (Int.toNat p'.1) l) (K8 b c)=true)/\
  List.length l-Int.toNat p'.1<List.length l-Int.toNat p.1))/\
  (i=false->
  (e4_1=true->
  (e0_1=true->(false,())=(D7 (RCode.mk a b c l o),()))/\
  (e0_1=false->
  ∃ (p':Int×Unit),
  (bif e2_1 then a else a)=a/\
  (bif e2_1 then b else b)=b/\
  (bif e2_1 then c else c)=c/\
  (bif e2_1 then l else l)=l/\
  (bif e2_1 then o else o)=o/\
  (bif e2_1 then f else f)=f/\
  (bif e2_1 then l else l)=l/\
  (bif e2_1 then d else d)=d/\
  IntKind.i64.wrap ((bif e2_1 then p.1 else p.1)+(1:Int))=p'.1/\
  (bif e2_1 then a else a)=a/\
  (bif e2_1 then b else b)=b/\
  (bif e2_1 then c else c)=c/\
  (bif e2_1 then l else l)=l/\
  (bif e2_1 then o else o)=o/\
  (bif e2_1 then [a] else [a])=[a]/\
  ((0:Int)<=p'.1/\p'.1<=d/\List.all (List.take (Int.toNat p'.1) l) (K8 b c)=true)/\
  List.length l-Int.toNat p'.1<List.length l-Int.toNat p.1))/\
  (e4_1=false->(false,())=(D7 (RCode.mk a b c l o),()))))/\
  (e3_1=false->
  (∃ (p_1:Int×Unit),
  a=a/\
  b=b/\
  c=c/\
  l=l/\
  o=o/\
  f=f/\
  l=l/\
  d=d/\
  p.1=p.1/\
  e3_1=e3_1/\
  o=o/\
  g=g/\
  (0:Int)=p_1.1/\
  a=a/\
  b=b/\
  c=c/\l=l/\o=o/\[a]=[a]/\(0:Int)<=p_1.1/\p_1.1<=g/\List.all (List.take (Int.toNat p_1.1) o) (I5 b c)=true)/\
  ∀ (p_1:Int×Unit),
 let e0_2:Bool:=
  !List.all [bif (List.getD o (Int.toNat p_1.1) h).cell then (List.getD o (Int.toNat p_1.1) h).n else (List.getD o (Int.toNat p_1.1) h).n] λ(n:den RU.T i64)=>
  decide ((0:Int)<=n)&&decide (n<bif (List.getD o (Int.toNat p_1.1) h).cell then c else b);
 let e1_2:Bool:=(List.getD o (Int.toNat p_1.1) h).cell;
 let e:Bool:=decide (p_1.1<g);
  (0:Int)<=p_1.1/\p_1.1<=g/\List.all (List.take (Int.toNat p_1.1) o) (I5 b c)=true->
  (e=true->
  ((0:Int)<=p_1.1/\p_1.1<g)/\
  (e0_2=true->(false,())=(D7 (RCode.mk a b c l o),()))/\
  (e0_2=false->
  ∃ (p':Int×Unit),
  (bif e1_2 then a else a)=a/\
  (bif e1_2 then b else b)=b/\
  (bif e1_2 then c else c)=c/\
  (bif e1_2 then l else l)=l/\
  (bif e1_2 then o else o)=o/\
  (bif e1_2 then f else f)=f/\
  (bif e1_2 then l else l)=l/\
  (bif e1_2 then d else d)=d/\
  (bif e1_2 then p.1 else p.1)=p.1/\
  (bif e1_2 then e3_1 else e3_1)=e3_1/\
  (bif e1_2 then o else o)=o/\
  (bif e1_2 then g else g)=g/\
  IntKind.i64.wrap ((bif e1_2 then p_1.1 else p_1.1)+(1:Int))=p'.1/\
  (bif e1_2 then a else a)=a/\
  (bif e1_2 then b else b)=b/\
  (bif e1_2 then c else c)=c/\
  (bif e1_2 then l else l)=l/\
  (bif e1_2 then o else o)=o/\
  (bif e1_2 then [a] else [a])=[a]/\
  ((0:Int)<=p'.1/\p'.1<=g/\List.all (List.take (Int.toNat p'.1) o) (I5 b c)=true)/\
  List.length o-Int.toNat p'.1<List.length o-Int.toNat p_1.1))/\
  (e=false->(true,())=(D7 (RCode.mk a b c l o),()))))):=by kernel_rfl
theorem bz1 (n:Int) (l:List Int):(l.all λx=>decide (0<=x)&&decide (x<n))=C7 n l:=rfl
theorem as5 {α:Type} {p:α->Bool} {l:List α} {k:Nat} (d:α) (a:k<l.length) (h:p (l.getD k d)=false):l.all p=false:=by rw [Bool.eq_false_iff];intro b;have:=cq4.1 b _ (G8 a d);rw [h] at this;cases this
theorem Y9 {α:Type} {p:α->Bool} {l:List α} {k:Nat} (d:α) (a:k<l.length) (h:(l.take k).all p=true) (h2:p (l.getD k d)=true):(l.take (k+1)).all p=true:=by rw [A4 a d,List.all_append,h];simpa using h2
theorem bL3 (d a b:Int) (l:List RIns) (o:List Place) (K:-9223372036854775808<=a/\a<9223372036854775808):vc (EV [(92,cIn)]) (bk5 a b l o) Go.Proofs.Tryd.f60 cShaped (d,a,b,l,o,()):=by
 rw [bL2 d a b l o];intro m A B C D p q;have r:l.length<=140737488355328:=p.len;have s:o.length<=140737488355328:=q.len;have t:m=!(C7 4001 [d]&&C7 65 [a]&&decide (1<=a)&&decide (d<=b)&&decide (b<=8000)):=by
  show (((!C7 4001 [d])||!C7 64 [IntKind.i64.wrap (a-1)])||decide (b<d)||decide (b >8000))=_;have E:C7 64 [IntKind.i64.wrap (a-1)]=(C7 65 [a]&&decide (1<=a)):=by
   simp only [C7,List.all_cons,List.all_nil,Bool.and_true];by_cases h:a=-9223372036854775808
   .subst h;decide
   .rw [L5 (by omega) (by omega),Bool.eq_iff_iff];simp;omega
  have F:decide (b<d)=!decide (d<=b):=by rw [Bool.eq_iff_iff];simp
  have G:decide (b >8000)=!decide (b<=8000):=by rw [Bool.eq_iff_iff];simp
  rw [E,F,G];cases C7 4001 [d]<;>cases C7 65 [a]<;>cases decide (1<=a)<;>cases decide (d<=b)<;>rfl
 have H:D7 ⟨d,a,b,l,o⟩=(!m&&l.all (K8 a b)&&o.all (I5 a b)):=by rw [t,Bool.not_not];rfl
 clear_value m
 rw [H];dsimp only [A,B,C,D];simp only [true_and,and_true,Bool.cond_self,bz1];refine ⟨λh=>by rw [h];rfl,λh=>?_⟩;rw [h];simp only [Bool.not_false,Bool.true_and];refine ⟨⟨(0,()),rfl,Int.le_refl _,by dsimp only;omega,by simp⟩,?_⟩;rintro ⟨i,⟨⟩⟩ ⟨h0,h1,h2⟩;dsimp only at h0 h1 h2 |-;obtain ⟨k,rfl⟩:=co0 h0;simp only [cn8] at h2 |-;have u:(⟨0,0,0,ins0⟩:RIns)=rins0:=rfl;rw [u];refine ⟨λc=>?_,λf=>?_⟩
 .have c:(k:Int)<l.length:=co4 c;have no:K8 a b (l.getD k rins0)=false->(false,())=(l.all (K8 a b)&&o.all (I5 a b),()):=λhf=>by rw [as5 rins0 (by omega) hf];rfl
  have yes:K8 a b (l.getD k rins0)=true->∃ p':Int×Unit,IntKind.i64.wrap ((k:Int)+1)=p'.1/\(0<=p'.1/\p'.1<=(l.length:Int)/\(l.take p'.1.toNat).all (K8 a b)=true)/\l.length-p'.1.toNat<l.length-k:=λv=>
   ⟨((k+1:Nat),()),B4 (by omega) r,⟨by omega,by dsimp only;omega,by dsimp only;rw [cn8];exact Y9 rins0 (by omega) h2 v⟩,by dsimp only;omega⟩
  generalize l.getD k rins0=x at no yes |-;refine ⟨⟨h0,c⟩,λe=>?_,λe=>?_⟩
  .have e:x.kind=0:=eq_of_beq e;have w:K8 a b x=(C7 a x.ins.from_&&C7 a x.ins.to):=by simp only [K8,if_pos e]
   rw [w] at no yes;refine ⟨λh3=>no ?_,λh3=>yes ?_⟩
   .revert h3;cases C7 a x.ins.from_<;>cases C7 a x.ins.to<;>simp
   .revert h3;cases C7 a x.ins.from_<;>cases C7 a x.ins.to<;>simp
  .have e:¬ x.kind=0:=by simpa using e
   refine ⟨λh3=>?_,λh3=>?_⟩
   .have h3:x.kind=1\/x.kind=2:=by
     by_cases h4:x.kind=1
     .exact .inl h4
     .right;rw [show (x.kind==1)=false from beq_eq_false_iff_ne.2 h4] at h3;exact eq_of_beq h3
    have w:K8 a b x=(C7 a [x.slot]&&C7 b [x.cell]):=by simp only [K8,if_neg e,if_pos h3]
    rw [w] at no yes;refine ⟨λh3=>no ?_,λh3=>yes ?_⟩
    .revert h3;cases C7 a [x.slot]<;>cases C7 b [x.cell]<;>simp
    .revert h3;cases C7 a [x.slot]<;>cases C7 b [x.cell]<;>simp
   .have h3:¬ (x.kind=1\/x.kind=2):=by
     rintro (h4|h4)
     .rw [h4] at h3;cases h3
     .rw [h4] at h3;cases h3
    exact no (by simp only [K8,if_neg e,if_neg h3])
 .have e:k=l.length:=by have:¬ (k:Int)<l.length:=co3 f;omega
  subst e;rw [cq2] at h2;rw [h2];simp only [Bool.true_and];refine ⟨⟨(0,()),rfl,Int.le_refl _,by dsimp only;omega,by simp⟩,?_⟩;rintro ⟨i,⟨⟩⟩ ⟨y,I,g⟩;dsimp only at y I g |-;obtain ⟨j,rfl⟩:=co0 y;simp only [cn8] at g |-;have u:(⟨false,0⟩:Place)=place0:=rfl;rw [u];refine ⟨λc=>?_,λf=>?_⟩
  .have c:(j:Int)<o.length:=co4 c;have z:∀ x:Place,C7 (bif x.cell then b else a) [x.n]=I5 a b x:=λx=>by
    unfold I5;cases x.cell<;>rfl
   rw [z];refine ⟨⟨y,c⟩,λhf=>?_,λv=>⟨((j+1:Nat),()),B4 (by omega) s,⟨by omega,by dsimp only;omega,?_⟩,by dsimp only;omega⟩⟩
   .rw [as5 place0 (by omega) (Bool.not_eq_true' _▸hf)]
   .dsimp only;rw [cn8];exact Y9 place0 (by omega) g (Bool.not_eq_false' _▸v)
  .have J:j=o.length:=by have:¬ (j:Int)<o.length:=co3 f;omega
   subst J;rw [cq2] at g;rw [g]
theorem bc4:C5 prog RG 60 cShaped:=E1 (A6 bU2 B8) (λp=>bk5 p.2.1 p.2.2.1 p.2.2.2.1 p.2.2.2.2.1) (by kernel_rfl) (by kernel_rfl) (by kernel_rfl) λ(a,b,c,l,o,()) d=>bL3 a b c l o d
abbrev Holds:=List (Place×Int)
def getF (m:Holds) (n:Int):Int:=(mget eqP m ⟨false,n⟩).getD 0
def cGetF:Con RU:=⟨[one,one],[i64,mapP],[.d 0,.ptr 0 0],[.box 83 [.map 1],.map 1],none,none,[one],[i64,mapP],[.d 0],[.box 83 [.map 1],.map 1],λp=>(getF p.2.1 p.1,p.2),[0,1],[],[]⟩
def cNewF:Con RU:=⟨[one,one,one],[i64,i64,mapP],[.d 0,.ptr 0 0,.ptr 1 0],[.box 3 [.d 1],.box 83 [.map 2],.map 2],some λp=>0<=p.2.1/\p.2.1<=4611686018427387904,none,[one],[i64,i64,mapP],[.d 0],[.box 3 [.d 1],.box 83 [.map 2],.map 2],
 λp=>(p.2.1,p.2.1+1,mput eqP p.2.2.1 ⟨false,p.1⟩ p.2.1,()),[1],[],[]⟩
def as6 (s:List Int×Int×Holds) (n:Int):List Int×Int×Holds:=(s.1++[s.2.1],s.2.1+1,mput eqP s.2.2 ⟨false,n⟩ s.2.1)
def E8 (nx:Int) (m:Holds) (l:List Int):List Int×Int×Holds:=l.foldl as6 ([],nx,m)
def cCalledF:Con RU:=⟨[(true,5),one,one],[i64,i64,ints,ints,inss,i64,mapP],[.d 0,.d 1,.d 2,.d 3,.d 4,.clo 90 [0,1],.clo 91 [1]],[.box 3 [.d 5],.box 83 [.map 2],.map 6],some λp=>ae6 p.2.2.1 p.2.2.2.1 p.2.2.2.2.1=true/\0<=p.2.2.2.2.2.1/\p.2.2.2.2.2.1<=2305843009213693952,none,
 [(true,5)],[i64,i64,ints,ints,inss,i64,mapP],[.d 0,.d 1,.d 2,.d 3,.d 4],[.box 3 [.d 5],.box 83 [.map 2],.map 6],
 λp=>(p.1,p.2.1,(E8 p.2.2.2.2.2.1 p.2.2.2.2.2.2.1 p.2.2.1).1,p.2.2.2.1.map (getF p.2.2.2.2.2.2.1),p.2.2.2.2.1,(E8 p.2.2.2.2.2.1 p.2.2.2.2.2.2.1 p.2.2.1).2.1,(E8 p.2.2.2.2.2.1 p.2.2.2.2.2.2.1 p.2.2.1).2.2,()),[1],[],[]⟩
def aT5 (x1 x2:Int) (x3 x4:List Int) (x5:List Ins) (nx:Int) (m:Holds):Nat->St RU->Ann RU:=λk s=>match k with
 |0=>⟨[],[.slot 20,.row 896],[i64,inss],λp=>0<=p.1/\p.1<=x4.length/\p.2.1=[⟨x1,x2,x3,(x4.take p.1.toNat).map (getF m)++x4.drop p.1.toNat,x5⟩],λp=>x4.length-p.1.toNat,[]⟩
 |_=>⟨[],[.slot 36,.row 896,.box 1000000 0,.row 1000002],[i64,inss,i64,mapP],λp=>0<=p.1/\p.1<=x3.length/\p.2.1=[⟨x1,x2,(E8 nx m (x3.take p.1.toNat)).1++x3.drop p.1.toNat,x4.map (getF m),x5⟩]/\p.2.2.1=(E8 nx m (x3.take p.1.toNat)).2.1/\p.2.2.2.1=(E8 nx m (x3.take p.1.toNat)).2.2,λp=>x3.length-p.1.toNat,[]⟩
theorem cf7 (n:Int) (m:Holds):vc (EV []) noL Go.Proofs.Tryd.f91 cGetF (n,m,())=((Option.getD (mget (E6 RU (Ty.user (2:Nat))) m (Place.mk false n)) (0:Int),m,())=(getF m n,m,())):=by kernel_rfl
theorem cf8 (n nx:Int) (m:Holds):vc (EV []) noL Go.Proofs.Tryd.f90 cNewF (n,nx,m,())=(
 let a:Int:=IntKind.i64.wrap (nx+(1:Int));
  (IntKind.i64.wrap (a-(1:Int)),a,mput (E6 RU (Ty.user (2:Nat))) m (Place.mk false n) nx,())=(nx,nx+(1:Int),mput eqP m (Place.mk false n) nx,())):=by kernel_rfl
theorem bz2 (c d:Int) (a e:List Int) (b:List Ins) (nx:Int) (m:Holds):vc (EV [(96,cBody),(91,cGetF),(90,cNewF)]) (aT5 c d a e b nx m) Go.Proofs.Tryd.f73 cCalledF (c,d,a,e,b,nx,m,())=(
 let j:Ins:=Ins.mk (0:Int) (0:Int) [] [] [];
 let g:List Ins:=[Ins.mk c d a e b];
 let h:Int:=(↑(List.length e):Int);
  Small RU (Sigma.mk (Ty.slice (3:Nat) (Ty.int IntKind.i64)) a)->
  Small RU (Sigma.mk (Ty.slice (3:Nat) (Ty.int IntKind.i64)) e)->
  Small RU (Sigma.mk (Ty.slice (52:Nat) (Ty.user (0:Nat))) b)->
  (List.length g<=(1599289640354:Nat)/\K4 g=true)/\
  ((0:Int)<=(0:Int)/\(0:Int)<(↑(List.length g):Int))/\
  (∃ (p:Int×List Ins×Unit),
  c=c/\
  d=d/\
  a=a/\
  e=e/\
  b=b/\
  (0:Int)=(0:Int)/\
  h=h/\
  (0:Int)=p.1/\
  nx=nx/\
  m=m/\
  c=c/\
  d=d/\
  a=a/\
  e=e/\
  b=b/\
  (0:Int)=(0:Int)/\
  (0:Int)=(0:Int)/\
  g=g/\
  g=p.2.1/\
  c=c/\
  d=d/\
  (0:Int)=(0:Int)/\
  (0:Int)=(0:Int)/\
  b=b/\
  (0:Int)<=p.1/\
  p.1<=h/\p.2.1=[Ins.mk c d a (List.map (getF m) (List.take (Int.toNat p.1) e)++List.drop (Int.toNat p.1) e) b])/\
  ∀ (p:Int×List Ins×Unit),
 let e0_1:Ins:=List.getD p.2.1 (0:Nat) j;
 let e1_1:Bool:=decide (p.1<h);
 let e2_1:Int:=p.1;
 let f:List Ins:=p.2.1;
 let i:Int:=(↑(List.length e0_1.to):Int);
  (0:Int)<=e2_1/\e2_1<=h/\f=[Ins.mk c d a (List.map (getF m) (List.take (Int.toNat e2_1) e)++List.drop (Int.toNat e2_1) e) b]->
  (e1_1=true->
  ((0:Int)<=e2_1/\e2_1<(↑(List.length e0_1.from_):Int))/\
  (True/\m=m/\True)/\
  ((0:Int)<=e2_1/\e2_1<(↑(List.length e0_1.from_):Int))/\
  ∃ (p':Int×List Ins×Unit),
  c=c/\
  d=d/\
  a=a/\
  e=e/\
  b=b/\
  (0:Int)=(0:Int)/\
  h=h/\
  IntKind.i64.wrap (e2_1+(1:Int))=p'.1/\
  nx=nx/\
  m=m/\
  c=c/\
  d=d/\
  a=a/\
  e=e/\
  b=b/\
  (0:Int)=(0:Int)/\
  (0:Int)=(0:Int)/\
  g=g/\
  List.set f (0:Nat)
  (Ins.mk e0_1.op e0_1.n e0_1.to (List.set e0_1.from_ (Int.toNat e2_1) (getF m (List.getD e0_1.from_ (Int.toNat e2_1) (0:Int))))
  e0_1.body)=
  p'.2.1/\
  c=c/\
  d=d/\
  (0:Int)=(0:Int)/\
  (0:Int)=(0:Int)/\
  b=b/\
  ((0:Int)<=p'.1/\
  p'.1<=h/\
  p'.2.1=
  [Ins.mk c d a (List.map (getF m) (List.take (Int.toNat p'.1) e)++List.drop (Int.toNat p'.1) e) b])/\
  List.length e-Int.toNat p'.1<List.length e-Int.toNat e2_1)/\
  (e1_1=false->
  (∃ (p:Int×List Ins×Int×List (Place×Int)×Unit),
  c=c/\
  d=d/\
  a=a/\
  e=e/\
  b=b/\
  (0:Int)=(0:Int)/\
  h=h/\
  e2_1=e2_1/\
  e1_1=e1_1/\
  (0:Int)=(0:Int)/\
  i=i/\
  (0:Int)=p.1/\
  nx=p.2.2.1/\
  m=p.2.2.2.1/\
  c=c/\
  d=d/\
  a=a/\
  e=e/\
  b=b/\
  (0:Int)=(0:Int)/\
  (0:Int)=(0:Int)/\
  g=g/\
  f=p.2.1/\
  c=c/\
  d=d/\
  (0:Int)=(0:Int)/\
  (0:Int)=(0:Int)/\
  b=b/\
  (0:Int)<=p.1/\
  p.1<=(↑(List.length a):Int)/\
  p.2.1=
  [Ins.mk c d ((E8 nx m (List.take (Int.toNat p.1) a)).1++List.drop (Int.toNat p.1) a)
  (List.map (getF m) e) b]/\
  p.2.2.1=(E8 nx m (List.take (Int.toNat p.1) a)).2.1/\
  p.2.2.2.1=(E8 nx m (List.take (Int.toNat p.1) a)).2.2)/\
  ∀ (p:Int×List Ins×Int×List (Place×Int)×Unit),
 let e0_2:Int:=p.2.2.1;
 let e1_2:Ins:=List.getD p.2.1 (0:Nat) j;
 let e2_2:List (Place×Int):=p.2.2.2.1;
 let f:Int:=p.1;
 let e4_1:List Ins:=p.2.1;
 let k:Bool:=decide (f<i);
 let l:Int×List (Place×Int):=(E8 nx m (List.take (Int.toNat f) a)).2;
  (0:Int)<=f/\
  f<=(↑(List.length a):Int)/\
  e4_1=[Ins.mk c d ((E8 nx m (List.take (Int.toNat f) a)).1++List.drop (Int.toNat f) a) (List.map (getF m) e) b]/\e0_2=l.1/\e2_2=l.2->
  (k=true->
  ((0:Int)<=f/\f<(↑(List.length e1_2.to):Int))/\
  (((0:Int)<=e0_2/\e0_2<=(4611686018427387904:Int))/\True)/\
  ((0:Int)<=f/\f<(↑(List.length e1_2.to):Int))/\
  ∃ (p':Int×List Ins×Int×List (Place×Int)×Unit),
  c=c/\
  d=d/\
  a=a/\
  e=e/\
  b=b/\
  (0:Int)=(0:Int)/\
  h=h/\
  e2_1=e2_1/\
  e1_1=e1_1/\
  (0:Int)=(0:Int)/\
  i=i/\
  IntKind.i64.wrap (f+(1:Int))=p'.1/\
  e0_2+(1:Int)=p'.2.2.1/\
  mput eqP e2_2 (Place.mk false (List.getD e1_2.to (Int.toNat f) (0:Int))) e0_2=p'.2.2.2.1/\
  c=c/\
  d=d/\
  a=a/\
  e=e/\
  b=b/\
  (0:Int)=(0:Int)/\
  (0:Int)=(0:Int)/\
  g=g/\
  List.set e4_1 (0:Nat) (Ins.mk e1_2.op e1_2.n (List.set e1_2.to (Int.toNat f) e0_2) e1_2.from_ e1_2.body)=
  p'.2.1/\
  c=c/\
  d=d/\
  (0:Int)=(0:Int)/\
  (0:Int)=(0:Int)/\
  b=b/\
  ((0:Int)<=p'.1/\
  p'.1<=(↑(List.length a):Int)/\
  p'.2.1=
  [Ins.mk c d
  ((E8 nx m (List.take (Int.toNat p'.1) a)).1++List.drop (Int.toNat p'.1) a)
  (List.map (getF m) e) b]/\
  p'.2.2.1=(E8 nx m (List.take (Int.toNat p'.1) a)).2.1/\
  p'.2.2.2.1=(E8 nx m (List.take (Int.toNat p'.1) a)).2.2)/\
  List.length a-Int.toNat p'.1<List.length a-Int.toNat f)/\
  (k=false->
  (c,d,e1_2.to,e1_2.from_,b,e0_2,e2_2,())=(c,d,(E8 nx m a).1,List.map (getF m) e,b,(E8 nx m a).2.1,(E8 nx m a).2.2,())))):=by kernel_rfl
theorem cf9 (n:Int) (m:Holds):vc (EV []) noL Go.Proofs.Tryd.f91 cGetF (n,m,()):=by rw [cf7 n m];rfl
theorem bz3:C5 prog RG 91 cGetF:=E1 B8 (λ_=>noL) (by kernel_rfl) (by kernel_rfl) (by kernel_rfl) λ(n,m,()) _=>cf9 n m
theorem cg0 (n nx:Int) (m:Holds) (a:0<=nx/\nx<=4611686018427387904):vc (EV []) noL Go.Proofs.Tryd.f90 cNewF (n,nx,m,()):=by rw [cf8 n nx m];dsimp only;rw [L5 (n:=nx+1) (by omega) (by omega),show nx+1-1=nx by omega,L5 (by omega) (by omega)];rfl
theorem bz4:C5 prog RG 90 cNewF:=E1 B8 (λ_=>noL) (by kernel_rfl) (by kernel_rfl) (by kernel_rfl) λ(n,nx,m,()) a=>cg0 n nx m a
theorem bk6 (nx:Int) (m:Holds) (l:List Int) (x:Int):E8 nx m (l++[x])=as6 (E8 nx m l) x:=by simp [E8]
theorem ab2 (nx:Int) (m:Holds) (l:List Int):(E8 nx m l).1.length=l.length/\(E8 nx m l).2.1=nx+l.length:=by
 have key:∀ (l:List Int) (s:List Int×Int×Holds),(l.foldl as6 s).1.length=s.1.length+l.length/\(l.foldl as6 s).2.1=s.2.1+l.length:=by
  intro l
  induction l with
  |nil=>intro s;simp
  |cons x r ih=>intro s;have:=ih (as6 s x);simp only [List.foldl_cons,cp0,as6,cp5,List.length_nil] at this |-;omega
 have:=key l ([],nx,m);simpa [E8] using this
theorem bz5 (g h:Int) (a c:List Int) (f:List Ins) (nx:Int) (m:Holds) (t:ae6 a c f=true/\0<=nx/\nx<=2305843009213693952):vc (EV [(96,cBody),(91,cGetF),(90,cNewF)]) (aT5 g h a c f nx m) Go.Proofs.Tryd.f73 cCalledF (g,h,a,c,f,nx,m,()):=by
 rw [bz2 g h a c f nx m];intro u v w j n _;have o:a.length<=140737488355328:=j.len;have p:c.length<=140737488355328:=n.len;dsimp only [u,v,w];simp only [true_and,and_true];refine ⟨⟨by simp,?_⟩,⟨by omega,by simp⟩,⟨(0,_,()),rfl,rfl,Int.le_refl _,by dsimp only;omega,by simp⟩,?_⟩
 .simp only [K4,Bool.and_true];exact (R7 _).2 (ai0.1 t.1)
 rintro ⟨i,l,⟨⟩⟩ ⟨h0,h1,h2⟩;dsimp only at h0 h1 h2 |-;subst h2;obtain ⟨k,rfl⟩:=co0 h0;simp only [cn8,List.getD_cons_zero,List.set_cons_zero];have e:((c.take k).map (getF m)).length=k:=by simp;omega
 refine ⟨λb=>?_,λd=>?_⟩
 .have b:(k:Int)<c.length:=co4 b;rw [ah9 e (by omega),aT3 e (by omega),aT4 e (by omega)];refine ⟨⟨h0,b⟩,⟨h0,b⟩,((k+1:Nat),[⟨g,h,a,(c.take (k+1)).map (getF m)++c.drop (k+1),f⟩],()),B4 (by omega) p,?_,⟨by omega,by dsimp only;omega,by dsimp only;rw [cn8]⟩,by dsimp only;omega⟩;dsimp only;rw [A4 (by omega) 0,List.map_append];rfl
 have q:k=c.length:=by have:¬ (k:Int)<c.length:=co3 d;omega
 subst q;simp only [cq2,List.drop_length,List.append_nil];clear h0 h1 d e;refine ⟨⟨(0,_,nx,m,()),rfl,rfl,rfl,rfl,Int.le_refl _,by dsimp only;omega,by simp [E8],by simp [E8],by simp [E8]⟩,?_⟩;rintro ⟨i,l,nx2,x,⟨⟩⟩ ⟨h0,h1,h2,h3,h4⟩;dsimp only at h0 h1 h2 h3 h4 |-;subst h2 h3 h4;obtain ⟨k,rfl⟩:=co0 h0;simp only [cn8,List.getD_cons_zero,List.set_cons_zero];have s:=ab2 nx m (a.take k);have e:(E8 nx m (a.take k)).1.length=k:=by rw [s.1,cq3];omega
 have hB:(E8 nx m (a.take k)).2.1=nx+k:=by rw [s.2,cq3];omega
 refine ⟨λb=>?_,λd=>?_⟩
 .have b:(k:Int)<a.length:=co4 b;rw [ah9 e (by omega),aT3 e (by omega),aT4 e (by omega)];have r:E8 nx m (a.take (k+1))=as6 (E8 nx m (a.take k)) (a.getD k 0):=by rw [A4 (by omega) 0,bk6]
  refine ⟨⟨h0,b⟩,⟨by rw [hB];omega,by rw [hB];omega⟩,⟨h0,b⟩,((k+1:Nat),[⟨g,h,(E8 nx m (a.take (k+1))).1++a.drop (k+1),c.map (getF m),f⟩],(E8 nx m (a.take (k+1))).2.1,(E8 nx m (a.take (k+1))).2.2,()),B4 (by omega) o,?_,?_,?_,⟨by omega,by dsimp only;omega,by dsimp only;rw [cn8],by dsimp only;rw [cn8],by dsimp only;rw [cn8]⟩,by dsimp only;omega⟩
  .dsimp only;rw [r];rfl
  .dsimp only;rw [r];rfl
  .dsimp only;rw [r];rfl
 .have q:k=a.length:=by have:¬ (k:Int)<a.length:=co3 d;omega
  subst q;simp only [cq2,List.drop_length,List.append_nil]
theorem aT6:C5 prog RG 73 cCalledF:=E1 (A6 aN1 (A6 bz3 (A6 bz4 B8))) (λp=>aT5 p.1 p.2.1 p.2.2.1 p.2.2.2.1 p.2.2.2.2.1 p.2.2.2.2.2.1 p.2.2.2.2.2.2.1) (by kernel_rfl) (by kernel_rfl) (by kernel_rfl) λ(a,b,c,d,e,nx,m,()) f=>bz5 a b c d e nx m f
abbrev SF:=Holds×List Ins×Int
def H7 (s:SF) (x:RIns):SF×Bool:=
 bif x.kind==0 then
  (bif x.ins.from_.all (isP (s.1,())) then (((E8 s.2.2 s.1 x.ins.to).2.2,s.2.1++[⟨x.ins.op,x.ins.n,(E8 s.2.2 s.1 x.ins.to).1,x.ins.from_.map (getF s.1),x.ins.body⟩],(E8 s.2.2 s.1 x.ins.to).2.1),true) else (s,false))
 else match mget eqP s.1 (bif x.kind==2 then ⟨false,x.slot⟩ else ⟨true,x.cell⟩) with
  |none=>(s,false)
  |some n=>((mput eqP s.1 (bif x.kind==2 then ⟨true,x.cell⟩ else ⟨false,x.slot⟩) n,s.2),true)
def H0:List RIns->SF->SF×Bool
 |[],s=>(s,true)
 |x::r,s=>bif (H7 s x).2 then H0 r (H7 s x).1 else (s,false)
def O7 (m:Holds):List Place->List Int×Bool
 |[]=>([],true)
 |p::r=>match mget eqP m p with
  |none=>([],false)
  |some n=>(n::(O7 m r).1,(O7 m r).2)
def K0 (n:Nat):Holds:=(List.range n).foldl (λ(m:Holds) (i:Nat)=>mput eqP m ⟨true,(i:Int)⟩ (i:Int)) []
def E7 (a:Int):SF:=(K0 a.toNat,[],a)
def B7 (c:RCode):VFun×Bool:=
 bif (H0 c.code (E7 c.params)).2 then (⟨c.params,(H0 c.code (E7 c.params)).1.2.1,(O7 (H0 c.code (E7 c.params)).1.1 c.out).1,[]⟩,(O7 (H0 c.code (E7 c.params)).1.1 c.out).2)
 else (⟨c.params,(H0 c.code (E7 c.params)).1.2.1,[],[]⟩,false)
def J3 (l:List RIns):Bool:=l.all λx=>ax1 x.ins
def cFollow:Con RU:=con [(true,5)] ax2 [(true,4),one] [i64,inss,ints,ints,.bool] [false,false,false,false,false] (some λp=>0<=p.1/\p.1<=4000/\p.2.2.2.1.length<=16000/\J3 p.2.2.2.1=true/\p.2.2.2.2.1.length<=17592186044400) λp=>
 ((B7 ⟨p.1,p.2.1,p.2.2.1,p.2.2.2.1,p.2.2.2.2.1⟩).1.params,(B7 ⟨p.1,p.2.1,p.2.2.1,p.2.2.2.1,p.2.2.2.2.1⟩).1.code,(B7 ⟨p.1,p.2.1,p.2.2.1,p.2.2.2.1,p.2.2.2.2.1⟩).1.out,(B7 ⟨p.1,p.2.1,p.2.2.1,p.2.2.2.1,p.2.2.2.2.1⟩).1.at_,(B7 ⟨p.1,p.2.1,p.2.2.1,p.2.2.2.1,p.2.2.2.2.1⟩).2,())
def bk7 (a:Int) (code:List RIns) (out:List Place):Nat->St RU->Ann RU:=λk s=>match k with
 |0=>⟨[],[.slot 21,.row 1152],[i64,mapP],λp=>0<=p.1/\p.1<=a/\p.2.1=K0 p.1.toNat,λp=>a.toNat-p.1.toNat,[]⟩
 |1=>⟨[],[.slot 37,.row 1152,.box 448 0,.row 900001],[i64,mapP,i64,inss],λp=>0<=p.1/\p.1<=code.length/\H0 (code.take p.1.toNat) (E7 a)=((p.2.1,p.2.2.2.1,p.2.2.1),true),λp=>code.length-p.1.toNat,[(.box 384 1,900001,52,.user 0)]⟩
 |_=>⟨[],[.slot 88,.row 900002],[i64,ints],λp=>0<=p.1/\p.1<=out.length/\O7 (H0 code (E7 a)).1.1 (out.take p.1.toNat)=(p.2.1,true),λp=>out.length-p.1.toNat,[(.box 384 2,900002,3,i64)]⟩
def F9 (c:RCode):Int:=
 if 16000<c.code.length then 3 else if D7 c=false then 2 else if (c.code.all λx=>x.kind !=0||C0 x.ins.to)=false then 5 else if (B7 c).2=false then 4 else 0
def cValid:Con RU:=con [(true,5)] ax2 [one] [i64] [false] (some λp=>-9223372036854775808<=p.2.1/\p.2.1<9223372036854775808/\J3 p.2.2.2.1=true/\p.2.2.2.2.1.length<=17592186044400) λp=>(F9 ⟨p.1,p.2.1,p.2.2.1,p.2.2.2.1,p.2.2.2.2.1⟩,())
def bL4 (code:List RIns):Nat->St RU->Ann RU:=λk s=>match k with
 |0=>⟨[],[.slot 19],[i64],λp=>0<=p.1/\p.1<=code.length/\((code.take p.1.toNat).all λx=>x.kind !=0||C0 x.ins.to)=true,λp=>code.length-p.1.toNat,[]⟩
 |_=>⟨[],[.slot 27],[i64],λp=>0<=p.1/\p.1<=(code.getD (s.intAt 19).toNat rins0).ins.to.length/\((code.getD (s.intAt 19).toNat rins0).kind≠0\/C0 ((code.getD (s.intAt 19).toNat rins0).ins.to.take p.1.toNat)=true),λp=>(code.getD (s.intAt 19).toNat rins0).ins.to.length-p.1.toNat,[]⟩
def I1 (a:Int) (l:List Ins):Int:=l.foldl (λn x=>n+x.to.length) a
def G4 (c:RCode):VFun×Int:=
 if F9 c≠0 then (bi0,F9 c) else if 4000<I1 c.params (B7 c).1.code\/4000<(B7 c).1.code.length then (bi0,9) else ((B7 c).1,0)
def cBack:Con RU:=con [(true,5)] ax2 [(true,4),one] [i64,inss,ints,ints,i64] [false,false,false,false,false] (some λp=>-9223372036854775808<=p.2.1/\p.2.1<9223372036854775808/\J3 p.2.2.2.1=true/\p.2.2.2.2.1.length<=17592186044400) λp=>
 ((G4 ⟨p.1,p.2.1,p.2.2.1,p.2.2.2.1,p.2.2.2.2.1⟩).1.params,(G4 ⟨p.1,p.2.1,p.2.2.1,p.2.2.2.1,p.2.2.2.2.1⟩).1.code,(G4 ⟨p.1,p.2.1,p.2.2.1,p.2.2.2.1,p.2.2.2.2.1⟩).1.out,(G4 ⟨p.1,p.2.1,p.2.2.1,p.2.2.2.1,p.2.2.2.2.1⟩).1.at_,(G4 ⟨p.1,p.2.1,p.2.2.1,p.2.2.2.1,p.2.2.2.2.1⟩).2,())
def cg1 (a:Int) (code:List Ins):Nat->St RU->Ann RU:=λk s=>⟨[],[.slot 26,.slot 7],[i64,i64],λp=>0<=p.1/\p.1<=code.length/\p.2.1=I1 a (code.take p.1.toNat),λp=>code.length-p.1.toNat,[]⟩
theorem bL5 (a b c:Int) (code:List RIns) (out:List Place):vc (EV [(78,cAll 89 tysP objP [0] isP),(73,cCalledF)]) (bk7 a code out) Go.Proofs.Tryd.f58 cFollow (a,b,c,code,out,())=(
 let s:Int×List Ins×List Int×List Int×Bool×Unit:=
  ((B7 (RCode.mk a b c code out)).1.params,(B7 (RCode.mk a b c code out)).1.code,(B7 (RCode.mk a b c code out)).1.out,(B7 (RCode.mk a b c code out)).1.at_,
  (B7 (RCode.mk a b c code out)).2,());
 let f:Int:=(↑(List.length code):Int);
 let e:RIns:=RIns.mk (0:Int) (0:Int) (0:Int) ins0;
 let i:Int:=(↑(List.length out):Int);
 let h:Place:=Place.mk false (0:Int);
  Small RU (Sigma.mk (Ty.slice (55:Nat) (Ty.user (1:Nat))) code)->
  Small RU (Sigma.mk (Ty.slice (59:Nat) (Ty.user (2:Nat))) out)->
  (∃ (p:Int×List (Place×Int)×Unit),
  a=a/\
  b=b/\
  c=c/\
  code=code/\
  out=out/\
  false=false/\
  a=a/\
  (0:Int)=p.1/\
  a=a/\b=b/\c=c/\code=code/\out=out/\(0:Int)=(0:Int)/\[]=p.2.1/\(0:Int)<=p.1/\p.1<=a/\p.2.1=K0 (Int.toNat p.1))/\
  ∀ (p:Int×List (Place×Int)×Unit),
 let e0_1:Bool:=decide (p.1<a);
 let e1_1:Int:=p.1;
 let e2_1:List (Place×Int):=p.2.1;
  (0:Int)<=e1_1/\e1_1<=a/\e2_1=K0 (Int.toNat e1_1)->
  (e0_1=true->
  ∃ (p':Int×List (Place×Int)×Unit),
  a=a/\
  b=b/\
  c=c/\
  code=code/\
  out=out/\
  false=false/\
  a=a/\
  IntKind.i64.wrap (e1_1+(1:Int))=p'.1/\
  a=a/\
  b=b/\
  c=c/\
  code=code/\
  out=out/\
  (0:Int)=(0:Int)/\
  mput (E6 RU (Ty.user (2:Nat))) e2_1 (Place.mk true e1_1) e1_1=p'.2.1/\
  ((0:Int)<=p'.1/\p'.1<=a/\p'.2.1=K0 (Int.toNat p'.1))/\Int.toNat a-Int.toNat p'.1<Int.toNat a-Int.toNat e1_1)/\
  (e0_1=false->
  (∃ (p:Int×List (Place×Int)×Int×List Ins×Unit),
  a=a/\
  b=b/\
  c=c/\
  code=code/\
  out=out/\
  a=a/\
  e1_1=e1_1/\
  e0_1=e0_1/\
  code=code/\
  f=f/\
  (0:Int)=p.1/\
  a=a/\
  b=b/\
  c=c/\
  code=code/\
  out=out/\
  (0:Int)=(0:Int)/\
  e2_1=p.2.1/\
  a=a/\
  a=p.2.2.1/\
  []=p.2.2.2.1/\
  (0:Int)<=p.1/\
  p.1<=f/\H0 (List.take (Int.toNat p.1) code) (E7 a)=((p.2.1,p.2.2.2.1,p.2.2.1),true))/\
  ∀ (p:Int×List (Place×Int)×Int×List Ins×Unit),
 let e0_2:Bool:=(List.getD code (Int.toNat p.1) e).kind==(2:Int);
 let e1_2:List Ins:=
  [Ins.mk (bif e0_2 then (List.getD code (Int.toNat p.1) e).ins.op else (List.getD code (Int.toNat p.1) e).ins.op)
  (bif e0_2 then (List.getD code (Int.toNat p.1) e).ins.n else (List.getD code (Int.toNat p.1) e).ins.n)
  (E8 (bif e0_2 then p.2.2.1 else p.2.2.1) (bif e0_2 then p.2.1 else p.2.1)
  (bif e0_2 then (List.getD code (Int.toNat p.1) e).ins.to else (List.getD code (Int.toNat p.1) e).ins.to)).1
  (List.map (getF (bif e0_2 then p.2.1 else p.2.1)) (bif e0_2 then (List.getD code (Int.toNat p.1) e).ins.from_ else (List.getD code (Int.toNat p.1) e).ins.from_))
  (bif e0_2 then (List.getD code (Int.toNat p.1) e).ins.body else (List.getD code (Int.toNat p.1) e).ins.body)];
 let e2_2:List Ins:=bif e0_2 then p.2.2.2.1 else p.2.2.2.1;
 let e3_1:List (Place×Int):=bif e0_2 then p.2.1 else p.2.1;
 let e4_1:Int:=bif e0_2 then p.2.2.1 else p.2.2.1;
 let j:List Ins:=p.2.2.2.1;
 let k:List (Place×Int):=p.2.1;
 let l:Bool:=decide (p.1<f);
 let d:Int:=p.1;
 let m:Int:=p.2.2.1;
 let n:Bool:=
  !Option.isSome
  (mget (E6 RU (Ty.user (2:Nat))) e3_1
  (Place.mk (bif e0_2 then false else true) (bif e0_2 then (List.getD code (Int.toNat d) e).slot else (List.getD code (Int.toNat d) e).cell)));
 let o:Int×List (Place×Int):=(E8 e4_1 e3_1 (bif e0_2 then (List.getD code (Int.toNat d) e).ins.to else (List.getD code (Int.toNat d) e).ins.to)).2;
 let q:Bool:=!List.all (bif e0_2 then (List.getD code (Int.toNat d) e).ins.from_ else (List.getD code (Int.toNat d) e).ins.from_) (isP (e3_1,()));
 let r:Bool:=(bif e0_2 then (List.getD code (Int.toNat d) e).kind else (List.getD code (Int.toNat d) e).kind) !=(0:Int);
 let g:Ins:=(List.getD code (Int.toNat d) e).ins;
  (0:Int)<=d/\d<=f/\H0 (List.take (Int.toNat d) code) (E7 a)=((k,j,m),true)->
  (l=true->
  ((0:Int)<=d/\d<f)/\
  (r=true->
  (n=true->(bif e0_2 then a else a,e2_2,[],[],false,())=s)/\
  (n=false->
  ∃ (p':Int×List (Place×Int)×Int×List Ins×Unit),
  (bif e0_2 then a else a)=a/\
  (bif e0_2 then b else b)=b/\
  (bif e0_2 then c else c)=c/\
  (bif e0_2 then code else code)=code/\
  (bif e0_2 then out else out)=out/\
  (bif e0_2 then a else a)=a/\
  (bif e0_2 then e1_1 else e1_1)=e1_1/\
  (bif e0_2 then e0_1 else e0_1)=e0_1/\
  (bif e0_2 then code else code)=code/\
  (bif e0_2 then f else f)=f/\
  IntKind.i64.wrap ((bif e0_2 then d else d)+(1:Int))=p'.1/\
  (bif e0_2 then a else a)=a/\
  (bif e0_2 then b else b)=b/\
  (bif e0_2 then c else c)=c/\
  (bif e0_2 then code else code)=code/\
  (bif e0_2 then out else out)=out/\
  (bif e0_2 then (0:Int) else (0:Int))=(0:Int)/\
  mput (E6 RU (Ty.user (2:Nat))) e3_1
  (Place.mk (bif e0_2 then true else false)
  (bif e0_2 then (List.getD code (Int.toNat d) e).cell else (List.getD code (Int.toNat d) e).slot))
  (Option.getD
  (mget (E6 RU (Ty.user (2:Nat))) e3_1
  (Place.mk (bif e0_2 then false else true)
  (bif e0_2 then (List.getD code (Int.toNat d) e).slot else (List.getD code (Int.toNat d) e).cell)))
  (0:Int))=
  p'.2.1/\
  (bif e0_2 then a else a)=a/\
  e4_1=p'.2.2.1/\
  e2_2=p'.2.2.2.1/\
  ((0:Int)<=p'.1/\
  p'.1<=f/\
  H0 (List.take (Int.toNat p'.1) code) (E7 a)=((p'.2.1,p'.2.2.2.1,p'.2.2.1),true))/\
  List.length code-Int.toNat p'.1<List.length code-Int.toNat d))/\
  (r=false->
  (True/\e3_1=e3_1/\True)/\
  (q=true->(bif e0_2 then a else a,e2_2,[],[],false,())=s)/\
  (q=false->
  ((ae6 (bif e0_2 then g.to else g.to) (bif e0_2 then g.from_ else g.from_) (bif e0_2 then g.body else g.body)=true/\
  (0:Int)<=e4_1/\e4_1<=(2305843009213693952:Int))/\
  True)/\
  (List.length e2_2+List.length e1_2)*(88:Nat)<=(140737488355328:Nat)/\
  ∃ (p':Int×List (Place×Int)×Int×List Ins×Unit),
  (bif e0_2 then a else a)=a/\
  (bif e0_2 then b else b)=b/\
  (bif e0_2 then c else c)=c/\
  (bif e0_2 then code else code)=code/\
  (bif e0_2 then out else out)=out/\
  (bif e0_2 then a else a)=a/\
  (bif e0_2 then e1_1 else e1_1)=e1_1/\
  (bif e0_2 then e0_1 else e0_1)=e0_1/\
  (bif e0_2 then code else code)=code/\
  (bif e0_2 then f else f)=f/\
  IntKind.i64.wrap ((bif e0_2 then d else d)+(1:Int))=p'.1/\
  (bif e0_2 then a else a)=a/\
  (bif e0_2 then b else b)=b/\
  (bif e0_2 then c else c)=c/\
  (bif e0_2 then code else code)=code/\
  (bif e0_2 then out else out)=out/\
  (bif e0_2 then (0:Int) else (0:Int))=(0:Int)/\
  o.2=p'.2.1/\
  (bif e0_2 then a else a)=a/\
  o.1=p'.2.2.1/\
  e2_2++e1_2=p'.2.2.2.1/\
  ((0:Int)<=p'.1/\
  p'.1<=f/\
  H0 (List.take (Int.toNat p'.1) code) (E7 a)=
  ((p'.2.1,p'.2.2.2.1,p'.2.2.1),true))/\
  List.length code-Int.toNat p'.1<List.length code-Int.toNat d)))/\
  (l=false->
  (∃ (p:Int×List Int×Unit),
  a=a/\
  b=b/\
  c=c/\
  code=code/\
  out=out/\
  a=a/\
  e1_1=e1_1/\
  e0_1=e0_1/\
  code=code/\
  f=f/\
  d=d/\
  l=l/\
  out=out/\
  i=i/\
  (0:Int)=p.1/\
  a=a/\
  b=b/\
  c=c/\
  code=code/\
  out=out/\
  (0:Int)=(0:Int)/\
  k=k/\
  a=a/\
  m=m/\
  j=j/\
  []=p.2.1/\
  (0:Int)<=p.1/\
  p.1<=i/\O7 (H0 code (E7 a)).1.1 (List.take (Int.toNat p.1) out)=(p.2.1,true))/\
  ∀ (p:Int×List Int×Unit),
 let e0_3:List Int:=
  [Option.getD (mget (E6 RU (Ty.user (2:Nat))) k (Place.mk (List.getD out (Int.toNat p.1) h).cell (List.getD out (Int.toNat p.1) h).n)) (0:Int)];
 let e1_3:List Int:=p.2.1;
 let e:Bool:=!Option.isSome (mget (E6 RU (Ty.user (2:Nat))) k (Place.mk (List.getD out (Int.toNat p.1) h).cell (List.getD out (Int.toNat p.1) h).n));
 let e3_2:Bool:=decide (p.1<i);
 let h:Int:=p.1;
 let e5_1:List (Place×Int):=(H0 code (E7 a)).1.1;
  (0:Int)<=h/\h<=i/\O7 e5_1 (List.take (Int.toNat h) out)=(e1_3,true)->
  (e3_2=true->
  ((0:Int)<=h/\h<i)/\
  (e=true->(a,j,e1_3,[],false,())=s)/\
  (e=false->
  (List.length e1_3+List.length e0_3)*(8:Nat)<=(140737488355328:Nat)/\
  ∃ (p':Int×List Int×Unit),
  a=a/\
  b=b/\
  c=c/\
  code=code/\
  out=out/\
  a=a/\
  e1_1=e1_1/\
  e0_1=e0_1/\
  code=code/\
  f=f/\
  d=d/\
  l=l/\
  out=out/\
  i=i/\
  IntKind.i64.wrap (h+(1:Int))=p'.1/\
  a=a/\
  b=b/\
  c=c/\
  code=code/\
  out=out/\
  (0:Int)=(0:Int)/\
  k=k/\
  a=a/\
  m=m/\
  j=j/\
  e1_3++e0_3=p'.2.1/\
  ((0:Int)<=p'.1/\
  p'.1<=i/\O7 e5_1 (List.take (Int.toNat p'.1) out)=(p'.2.1,true))/\
  List.length out-Int.toNat p'.1<List.length out-Int.toNat h))/\
  (e3_2=false->(a,j,e1_3,[],true,())=s)))):=by kernel_rfl
theorem bV8 (a b c:Int) (code:List RIns) (out:List Place):vc (EV [(60,cShaped),(61,cContains),(58,cFollow)]) (bL4 code) Go.Proofs.Tryd.f22 cValid (a,b,c,code,out,())=(
 let f:Bool:=decide ((↑(List.length code):Int) >(16000:Int));
 let e:RIns:=RIns.mk (0:Int) (0:Int) (0:Int) ins0;
 let h:Int×Unit:=(F9 (RCode.mk a b c code out),());
 let d:Int:=(↑(List.length code):Int);
 let g:Bool:=!D7 (RCode.mk a b c code out);
  Small RU (Sigma.mk (Ty.slice (55:Nat) (Ty.user (1:Nat))) code)->
  Small RU (Sigma.mk (Ty.slice (59:Nat) (Ty.user (2:Nat))) out)->
  (f=true->((3:Int),())=h)/\
  (f=false->
  ((-9223372036854775808:Int)<=b/\b<(9223372036854775808:Int))/\
  (g=true->((2:Int),())=h)/\
  (g=false->
  (∃ (p:Int×Unit),
  a=a/\
  b=b/\
  c=c/\
  code=code/\
  out=out/\
  f=f/\
  g=g/\
  code=code/\
  d=d/\
  (0:Int)=p.1/\
  a=a/\
  b=b/\
  c=c/\
  code=code/\
  out=out/\
  (0:Int)<=p.1/\p.1<=d/\(List.all (List.take (Int.toNat p.1) code) λ(x:RIns)=>x.kind !=(0:Int)||C0 x.ins.to)=true)/\
  ∀ (p:Int×Unit),
 let e0_1:Bool:=decide (p.1<d);
 let e1_1:Int:=(↑(List.length (List.getD code (Int.toNat p.1) e).ins.to):Int);
 let e2_1:Ins:=(List.getD code (Int.toNat p.1) e).ins;
 let e3_1:Nat:=List.length (List.getD code (Int.toNat p.1) rins0).ins.to;
 let e4_1:Int:=(List.getD code (Int.toNat p.1) e).kind;
  (0:Int)<=p.1/\p.1<=d/\(List.all (List.take (Int.toNat p.1) code) λ(x:RIns)=>x.kind !=(0:Int)||C0 x.ins.to)=true->
  (e0_1=true->
  ((0:Int)<=p.1/\p.1<d)/\
  (∃ (p_1:Int×Unit),
  a=a/\
  b=b/\
  c=c/\
  code=code/\
  out=out/\
  f=f/\
  g=g/\
  code=code/\
  d=d/\
  p.1=p.1/\
  e0_1=e0_1/\
  e2_1.to=e2_1.to/\
  e1_1=e1_1/\
  (0:Int)=p_1.1/\
  a=a/\
  b=b/\
  c=c/\
  code=code/\
  out=out/\
  e4_1=e4_1/\
  (List.getD code (Int.toNat p.1) e).slot=(List.getD code (Int.toNat p.1) e).slot/\
  (List.getD code (Int.toNat p.1) e).cell=(List.getD code (Int.toNat p.1) e).cell/\
  e2_1.op=e2_1.op/\
  e2_1.n=e2_1.n/\
  e2_1.to=e2_1.to/\
  e2_1.from_=e2_1.from_/\
  e2_1.body=e2_1.body/\
  (0:Int)<=p_1.1/\
  p_1.1<=(↑e3_1:Int)/\
  ((List.getD code (Int.toNat p.1) rins0).kind≠(0:Int)\/
  C0 (List.take (Int.toNat p_1.1) (List.getD code (Int.toNat p.1) rins0).ins.to)=true))/\
  ∀ (p_1:Int×Unit),
 let e0_2:Bool:=e4_1==(0:Int)&&List.contains (List.take (Int.toNat p_1.1) e2_1.to) (List.getD e2_1.to (Int.toNat p_1.1) (0:Int));
 let e1_2:Bool:=decide (p_1.1<e1_1);
  (0:Int)<=p_1.1/\
  p_1.1<=(↑e3_1:Int)/\
  ((List.getD code (Int.toNat p.1) rins0).kind≠(0:Int)\/C0 (List.take (Int.toNat p_1.1) (List.getD code (Int.toNat p.1) rins0).ins.to)=true)->
  (e1_2=true->
  ((0:Int)<=p_1.1/\p_1.1<e1_1)/\
  ((e4_1==(0:Int))=true->(0:Int)<=p_1.1/\p_1.1<=e1_1)/\
  (e0_2=true->((5:Int),())=h)/\
  (e0_2=false->
  ∃ (p':Int×Unit),
  a=a/\
  b=b/\
  c=c/\
  code=code/\
  out=out/\
  f=f/\
  g=g/\
  code=code/\
  d=d/\
  p.1=p.1/\
  e0_1=e0_1/\
  e2_1.to=e2_1.to/\
  e1_1=e1_1/\
  IntKind.i64.wrap (p_1.1+(1:Int))=p'.1/\
  a=a/\
  b=b/\
  c=c/\
  code=code/\
  out=out/\
  e4_1=e4_1/\
  (List.getD code (Int.toNat p.1) e).slot=(List.getD code (Int.toNat p.1) e).slot/\
  (List.getD code (Int.toNat p.1) e).cell=(List.getD code (Int.toNat p.1) e).cell/\
  e2_1.op=e2_1.op/\
  e2_1.n=e2_1.n/\
  e2_1.to=e2_1.to/\
  e2_1.from_=e2_1.from_/\
  e2_1.body=e2_1.body/\
  ((0:Int)<=p'.1/\
  p'.1<=(↑e3_1:Int)/\
  ((List.getD code (Int.toNat p.1) rins0).kind≠(0:Int)\/
  C0 (List.take (Int.toNat p'.1) (List.getD code (Int.toNat p.1) rins0).ins.to)=
  true))/\
  e3_1-Int.toNat p'.1<e3_1-Int.toNat p_1.1))/\
  (e1_2=false->
  ∃ (p':Int×Unit),
  a=a/\
  b=b/\
  c=c/\
  code=code/\
  out=out/\
  f=f/\
  g=g/\
  code=code/\
  d=d/\
  IntKind.i64.wrap (p.1+(1:Int))=p'.1/\
  a=a/\
  b=b/\
  c=c/\
  code=code/\
  out=out/\
  ((0:Int)<=p'.1/\
  p'.1<=d/\
  (List.all (List.take (Int.toNat p'.1) code) λ(x:RIns)=>x.kind !=(0:Int)||C0 x.ins.to)=true)/\
  List.length code-Int.toNat p'.1<List.length code-Int.toNat p.1))/\
  (e0_1=false->
  ((0:Int)<=a/\a<=(4000:Int)/\List.length code<=(16000:Nat)/\J3 code=true/\List.length out<=(17592186044400:Nat))/\
  ((!(B7 (RCode.mk a b c code out)).2)=true->((4:Int),())=h)/\((!(B7 (RCode.mk a b c code out)).2)=false->((0:Int),())=h))))):=by kernel_rfl
theorem cg2 (a b c:Int) (code:List RIns) (out:List Place):vc (EV [(22,cValid),(58,cFollow)]) (cg1 a (B7 ⟨a,b,c,code,out⟩).1.code) Go.Proofs.Tryd.f20 cBack (a,b,c,code,out,())=(
 let k:Int×List Ins×List Int×List Int×Int×Unit:=
  ((G4 (RCode.mk a b c code out)).1.params,(G4 (RCode.mk a b c code out)).1.code,(G4 (RCode.mk a b c code out)).1.out,(G4 (RCode.mk a b c code out)).1.at_,
  (G4 (RCode.mk a b c code out)).2,());
 let e:Int:=(↑(List.length (B7 (RCode.mk a b c code out)).1.code):Int);
 let d:List Ins:=(B7 (RCode.mk a b c code out)).1.code;
 let f:Bool:=F9 (RCode.mk a b c code out) !=(0:Int);
 let g:Int:=(B7 (RCode.mk a b c code out)).1.params;
 let h:List Int:=(B7 (RCode.mk a b c code out)).1.at_;
 let i:List Int:=(B7 (RCode.mk a b c code out)).1.out;
 let j:Int:=F9 (RCode.mk a b c code out);
  Small RU (Sigma.mk (Ty.slice (55:Nat) (Ty.user (1:Nat))) code)->
  Small RU (Sigma.mk (Ty.slice (59:Nat) (Ty.user (2:Nat))) out)->
  ((-9223372036854775808:Int)<=b/\b<(9223372036854775808:Int)/\J3 code=true/\List.length out<=(17592186044400:Nat))/\
  (f=true->((0:Int),[],[],[],j,())=k)/\
  (f=false->
  ((0:Int)<=a/\a<=(4000:Int)/\List.length code<=(16000:Nat)/\J3 code=true/\List.length out<=(17592186044400:Nat))/\
  (∃ (p:Int×Int×Unit),
  a=a/\
  b=b/\
  c=c/\
  code=code/\
  out=out/\
  (0:Int)=(0:Int)/\
  j=j/\
  f=f/\
  d=d/\
  e=e/\
  (0:Int)=p.1/\
  g=p.2.1/\
  a=a/\
  b=b/\
  c=c/\
  code=code/\
  out=out/\
  (0:Int)=(0:Int)/\
  g=g/\d=d/\i=i/\h=h/\(0:Int)<=p.1/\p.1<=e/\p.2.1=I1 a (List.take (Int.toNat p.1) d))/\
  ∀ (p:Int×Int×Unit),
 let e0_1:Bool:=decide (p.2.1 >(4000:Int))||decide (e >(4000:Int));
 let e1_1:Bool:=decide (p.1<e);
 let e2_1:Int:=p.1;
  (0:Int)<=e2_1/\e2_1<=e/\p.2.1=I1 a (List.take (Int.toNat e2_1) d)->
  (e1_1=true->
  ((0:Int)<=e2_1/\e2_1<e)/\
  ∃ (p':Int×Int×Unit),
  a=a/\
  b=b/\
  c=c/\
  code=code/\
  out=out/\
  (0:Int)=(0:Int)/\
  j=j/\
  f=f/\
  d=d/\
  e=e/\
  IntKind.i64.wrap (e2_1+(1:Int))=p'.1/\
  IntKind.i64.wrap (p.2.1+(↑(List.length (List.getD d (Int.toNat e2_1) (Ins.mk (0:Int) (0:Int) [] [] [])).to):Int))=p'.2.1/\
  a=a/\
  b=b/\
  c=c/\
  code=code/\
  out=out/\
  (0:Int)=(0:Int)/\
  g=g/\
  d=d/\
  i=i/\
  h=h/\
  ((0:Int)<=p'.1/\p'.1<=e/\p'.2.1=I1 a (List.take (Int.toNat p'.1) d))/\
  List.length d-Int.toNat p'.1<List.length d-Int.toNat e2_1)/\
  (e1_1=false->(e0_1=true->((0:Int),[],[],[],(9:Int),())=k)/\(e0_1=false->(g,d,i,h,(0:Int),())=k)))):=by kernel_rfl
theorem bc5 {s:SF} {x:RIns} (h:(H7 s x).2=false):H7 s x=(s,false):=by
 revert h;unfold H7;cases x.kind==0 with
 |true=>
  simp only [cond_true];cases x.ins.from_.all (isP (s.1,())) with
  |true=>intro h;cases h
  |false=>intro _;rfl
 |false=>
  simp only [cond_false];cases mget eqP s.1 (bif x.kind==2 then ⟨false,x.slot⟩ else ⟨true,x.cell⟩) with
  |none=>intro _;rfl
  |some n=>intro h;cases h
theorem bL6 (s:SF) (x:RIns):H0 [x] s=H7 s x:=by
 simp only [H0];cases h:(H7 s x).2 with
 |true=>simp only [cond_true];rw [<-h]
 |false=>simp only [cond_false];exact (bc5 h).symm
theorem aH2 (r:List RIns):∀ (l:List RIns) (s:SF),H0 (l++r) s=bif (H0 l s).2 then H0 r (H0 l s).1 else H0 l s
 |[],s=>rfl
 |x::l,s=>by
  simp only [List.cons_append,H0];cases (H7 s x).2 with
  |true=>simp only [cond_true];exact aH2 r l _
  |false=>rfl
theorem aN6 {l:List RIns} {k:Nat} {s s':SF} (a:k<l.length) (h:H0 (l.take k) s=(s',true)):H0 (l.take (k+1)) s=H7 s' (l.getD k rins0):=by rw [A4 a rins0,aH2,h];exact bL6 _ _
theorem bz6 {l:List RIns} {k:Nat} {s s':SF} (a:k<l.length) (h:H0 (l.take k) s=(s',true)) (h2:(H7 s' (l.getD k rins0)).2=false):H0 l s=(s',false):=by
 have hs:=aN6 a h;rw [bc5 h2] at hs
 conv=>lhs;rw [<-List.take_append_drop (k+1) l]
 rw [aH2,hs];rfl
theorem bz7 (s:SF) (x:RIns) (a:x.ins.to.length<=17592186044416):(H7 s x).1.2.1.length<=s.2.1.length+1/\s.2.2<=(H7 s x).1.2.2/\(H7 s x).1.2.2<=s.2.2+17592186044416:=by
 unfold H7;cases x.kind==0 with
 |true=>
  simp only [cond_true];cases x.ins.from_.all (isP (s.1,())) with
  |true=>have:=(ab2 s.2.2 s.1 x.ins.to).2;simp only [cond_true,cp5,cp0,List.length_nil];omega
  |false=>simp only [cond_false];omega
 |false=>
  simp only [cond_false];cases mget eqP s.1 (bif x.kind==2 then ⟨false,x.slot⟩ else ⟨true,x.cell⟩) with
  |none=>simp only;omega
  |some n=>simp only;omega
theorem ap4:∀ (l:List RIns) (s:SF),J3 l=true->(H0 l s).1.2.1.length<=s.2.1.length+l.length/\s.2.2<=(H0 l s).1.2.2/\(H0 l s).1.2.2<=s.2.2+l.length*17592186044416
 |[],s,_=>by simp [H0]
 |x::r,s,h=>by
  simp only [J3,List.all_cons,cn7] at h;have h1:=bz7 s x ((R7 _).1 h.1).1.1;have h2:=ap4 r (H7 s x).1 h.2;simp only [H0];cases hs:(H7 s x).2 with
  |true=>simp only [cond_true,cp0];omega
  |false=>simp only [cond_false,cp0];omega
theorem aH3 (m:Holds) (r:List Place):∀ (l:List Place),O7 m (l++r)=bif (O7 m l).2 then ((O7 m l).1++(O7 m r).1,(O7 m r).2) else O7 m l
 |[]=>rfl
 |p::l=>by
  simp only [List.cons_append,O7];cases mget eqP m p with
  |none=>rfl
  |some n=>
   simp only [aH3 m r l];cases h:(O7 m l).2 with
   |true=>rfl
   |false=>simp only [cond_false,h]
theorem bc6 (m:Holds):∀ (l:List Place),(O7 m l).1.length<=l.length
 |[]=>by simp [O7]
 |p::l=>by
  simp only [O7];split
  .simp
  .have:=bc6 m l;simp only [cp0];omega
theorem ab3 (n:Nat):K0 (n+1)=mput eqP (K0 n) ⟨true,n⟩ n:=by simp [K0,List.range_succ]
theorem bL7 (a b c:Int) (code:List RIns) (out:List Place) (S:0<=a/\a<=4000/\code.length<=16000/\J3 code=true/\out.length<=17592186044400):vc (EV [(78,cAll 89 tysP objP [0] isP),(73,cCalledF)]) (bk7 a code out) Go.Proofs.Tryd.f58 cFollow (a,b,c,code,out,()):=by
 rw [bL5 a b c code out];intro D T Q U V W X;obtain ⟨H,Y,Z,z,hp5⟩:=S;have hd:Q=rins0:=rfl;have E:∀ s:SF,H0 code (E7 a)=(s,false)->D=(a,s.2.1,[],[],false,()):=by
  intro s hs;have:B7 ⟨a,b,c,code,out⟩=(⟨a,s.2.1,[],[]⟩,false):=by simp only [B7,hs];rfl
  simp only [D,this]
 have e:∀ s:SF,H0 code (E7 a)=(s,true)->D=(a,s.2.1,(O7 s.1 out).1,[],(O7 s.1 out).2,()):=by
  intro s hs;have:B7 ⟨a,b,c,code,out⟩=(⟨a,s.2.1,(O7 s.1 out).1,[]⟩,(O7 s.1 out).2):=by simp only [B7,hs];rfl
  simp only [D,this]
 clear_value D
 rw [hd]
 clear_value Q
 dsimp only [T,U,V];simp only [true_and,and_true,Bool.cond_self];refine ⟨⟨(0,[],()),rfl,rfl,Int.le_refl _,H,rfl⟩,?_⟩;rintro ⟨i,m,⟨⟩⟩ ⟨h0,h1,h2⟩;dsimp only at h0 h1 h2 |-;obtain ⟨k,rfl⟩:=co0 h0;simp only [cn8] at h2 |-;subst h2;refine ⟨λd=>?_,λg=>?_⟩
 .have d:(k:Int)<a:=co4 d;refine ⟨((k+1:Nat),K0 (k+1),()),?_,ab3 k |>.symm,⟨by omega,by dsimp only;omega,by dsimp only;rw [cn8]⟩,by dsimp only;omega⟩;rw [L5 (by omega) (by omega)];rfl
 have hk:a.toNat=k:=by have:¬ (k:Int)<a:=co3 g;omega
 have I:E7 a=(K0 k,[],a):=by unfold E7;rw [hk]
 clear h0 h1 g;refine ⟨⟨(0,_,a,[],()),rfl,rfl,rfl,rfl,Int.le_refl _,by dsimp only;omega,by simp only [Int.toNat_zero,List.take_zero,H0,I];rfl⟩,?_⟩;rintro ⟨i,m,nx,cd,⟨⟩⟩ ⟨h0,h1,h2⟩;dsimp only at h0 h1 h2 |-;obtain ⟨j,rfl⟩:=co0 h0;simp only [cn8,Bool.cond_self] at h2 |-;have J:j<=code.length:=by omega
 have R:=ap4 (code.take j) (E7 a) (by
  unfold J3 at z |-;exact cq4.2 λx K=>cq4.1 z x (List.mem_of_mem_take K))
 rw [h2] at R;simp only [E7,List.length_nil,cq3] at R;refine ⟨λd=>?_,λg=>?_⟩
 .have d:(j:Int)<code.length:=co4 d;have f:j<code.length:=by omega
  have o:=λh=>E _ (bz6 f h2 h);have r:=aN6 f h2;have F:ax1 (code.getD j rins0).ins=true:=cq4.1 z _ (G8 f _);have next:∀ s:SF,H7 (m,cd,nx) (code.getD j rins0)=(s,true)->∃ p':Int×List (Place×Int)×Int×List Ins×Unit,IntKind.i64.wrap ((j:Int)+1)=p'.1/\s.1=p'.2.1/\s.2.2=p'.2.2.1/\s.2.1=p'.2.2.2.1/\
    (0<=p'.1/\p'.1<=(code.length:Int)/\H0 (code.take p'.1.toNat) (E7 a)=((p'.2.1,p'.2.2.2.1,p'.2.2.1),true))/\code.length-p'.1.toNat<code.length-j:=λs hs=>
   ⟨((j+1:Nat),s.1,s.2.2,s.2.1,()),B4 f (by omega),rfl,rfl,rfl,⟨by omega,by dsimp only;omega,by dsimp only;rw [cn8,r,hs]⟩,by dsimp only;omega⟩
  generalize code.getD j rins0=x at o r F next |-
  refine ⟨⟨h0,d⟩,λp=>?_,λp=>?_⟩
  .have p:(x.kind==0)=false:=by simpa [bne] using p
   have L:(Place.mk (bif x.kind==2 then false else true) (bif x.kind==2 then x.slot else x.cell))=(bif x.kind==2 then ⟨false,x.slot⟩ else ⟨true,x.cell⟩):=by cases x.kind==2<;>rfl
   have G:(Place.mk (bif x.kind==2 then true else false) (bif x.kind==2 then x.cell else x.slot))=(bif x.kind==2 then ⟨true,x.cell⟩ else ⟨false,x.slot⟩):=by cases x.kind==2<;>rfl
   rw [L,G];have t:H7 (m,cd,nx) x=match mget eqP m (bif x.kind==2 then ⟨false,x.slot⟩ else ⟨true,x.cell⟩) with
     |none=>((m,cd,nx),false)
     |some n=>((mput eqP m (bif x.kind==2 then ⟨true,x.cell⟩ else ⟨false,x.slot⟩) n,cd,nx),true):=by
    simp only [H7,p,cond_false]
    try rfl
   generalize (bif x.kind==2 then (⟨false,x.slot⟩:Place) else ⟨true,x.cell⟩)=q at t |-;generalize (bif x.kind==2 then (⟨true,x.cell⟩:Place) else ⟨false,x.slot⟩)=q2 at t |-;show ((!(mget eqP m q).isSome)=true->_)/\((!(mget eqP m q).isSome)=false->_);cases u:mget eqP m q with
   |none=>rw [u] at t;refine ⟨λ_=>?_,λh=>(by cases h)⟩;exact (o (by rw [t])).symm
   |some v=>
    rw [u] at t;refine ⟨λh=>(by cases h),λ_=>?_⟩;have A:mget (E6 RU (Ty.user 2)) m q=some v:=u;obtain ⟨p',M,B,N,O,P⟩:=next _ t
    exact ⟨p',M,by rw [A];exact B,N,O,P⟩
  .have p:(x.kind==0)=true:=by simpa [bne] using p
   have t:H7 (m,cd,nx) x=bif x.ins.from_.all (isP (m,())) then (((E8 nx m x.ins.to).2.2,cd++[⟨x.ins.op,x.ins.n,(E8 nx m x.ins.to).1,x.ins.from_.map (getF m),x.ins.body⟩],(E8 nx m x.ins.to).2.1),true) else ((m,cd,nx),false):=by simp only [H7,p,cond_true]
   cases u:x.ins.from_.all (isP (m,())) with
   |false=>rw [u] at t;refine ⟨λ_=>(o (by rw [t];rfl)).symm,λh=>(by cases h)⟩
   |true=>
    rw [u] at t;refine ⟨λh=>(by cases h),λ_=>⟨⟨ai0.2 ((R7 _).1 F),by omega,?_⟩,?_,?_⟩⟩
    .omega
    .simp only [cp0,List.length_nil];omega
    .obtain ⟨p',M,B,N,O,P⟩:=next _ t
     exact ⟨p',M,B,N,O,P⟩
 have C:j=code.length:=by have:¬ (j:Int)<code.length:=co3 g;omega
 subst C;rw [cq2] at h2;rw [h2];have e:=e _ h2;dsimp only at e |-;clear h0 h1 g E h2;refine ⟨⟨(0,[],()),rfl,rfl,Int.le_refl _,by dsimp only;omega,rfl⟩,?_⟩;rintro ⟨i,l,⟨⟩⟩ ⟨h0,h1,h2⟩;dsimp only at h0 h1 h2 |-;obtain ⟨j,rfl⟩:=co0 h0;simp only [cn8] at h2 |-;have J:j<=out.length:=by omega
 have w:=bc6 m (out.take j);rw [h2,cq3] at w;refine ⟨λd=>?_,λg=>?_⟩
 .have d:(j:Int)<out.length:=co4 d;have f:j<out.length:=by omega
  have y:out=out.take j++(out.getD j ⟨false,0⟩::out.drop (j+1)):=by
   conv=>lhs;rw [<-List.take_append_drop (j+1) out,A4 f ⟨false,0⟩]
   simp
  generalize K:out.getD j ⟨false,0⟩=x at y |-;obtain ⟨xc,xn⟩:=x;refine ⟨⟨h0,d⟩,?_⟩;show ((!(mget eqP m ⟨xc,xn⟩).isSome)=true->_)/\((!(mget eqP m ⟨xc,xn⟩).isSome)=false->_);cases u:mget eqP m ⟨xc,xn⟩ with
  |none=>
   refine ⟨λ_=>?_,λh=>(by cases h)⟩;have:O7 m out=(l,false):=by rw [y,aH3,h2];simp only [cond_true,O7,u,List.append_nil]
   rw [e,this]
  |some v=>
   refine ⟨λh=>(by cases h),λ_=>⟨by simp only [cp0,List.length_nil] at w |-;omega,((j+1:Nat),l++[v],()),B4 f (by omega),?_,⟨by omega,by dsimp only;omega,?_⟩,by dsimp only;omega⟩⟩
   .have A:mget (E6 RU (Ty.user 2)) m ⟨xc,xn⟩=some v:=u;rw [A];rfl
   .dsimp only;rw [cn8,A4 f ⟨false,0⟩,K,aH3,h2];simp only [cond_true,O7,u]
 .have C:j=out.length:=by have:¬ (j:Int)<out.length:=co3 g;omega
  subst C;rw [cq2] at h2;rw [e,h2]
theorem av8:C5 prog RG 58 cFollow:=E1 (A6 bx5 (A6 aT6 B8)) (λp=>bk7 p.1 p.2.2.2.1 p.2.2.2.2.1) (by kernel_rfl) (by kernel_rfl) (by kernel_rfl) λ(a,b,c,code,out,()) d=>bL7 a b c code out d
theorem as7 (a:Int) (l r:List Ins):I1 a (l++r)=I1 (I1 a l) r:=by simp [I1]
theorem aH4:∀ (l:List Ins) (a:Int),a<=I1 a l
 |[],a=>Int.le_refl _
 |x::r,a=>by have:=aH4 r (a+x.to.length);simp only [I1,List.foldl_cons] at this |-;omega
theorem bk8 (l:List Ins) (k:Nat) (a:Int):I1 a (l.take k)<=I1 a l:=by
 conv=>rhs;rw [<-List.take_append_drop k l]
 rw [as7];exact aH4 _ _
theorem bk9 {a:Int} {s:SF} (h:s.2.2=I1 a s.2.1) (x:RIns):(H7 s x).1.2.2=I1 a (H7 s x).1.2.1:=by
 unfold H7;cases x.kind==0 with
 |true=>
  simp only [cond_true];cases x.ins.from_.all (isP (s.1,())) with
  |true=>have:=ab2 s.2.2 s.1 x.ins.to;simp only [cond_true,as7,<-h];simp only [I1,List.foldl_cons,List.foldl_nil];rw [this.2,this.1]
  |false=>exact h
 |false=>
  simp only [cond_false];cases mget eqP s.1 (bif x.kind==2 then ⟨false,x.slot⟩ else ⟨true,x.cell⟩) with
  |none=>exact h
  |some n=>exact h
theorem aN7 {a:Int}:∀ (l:List RIns) {s:SF},s.2.2=I1 a s.2.1->(H0 l s).1.2.2=I1 a (H0 l s).1.2.1
 |[],s,h=>h
 |x::r,s,h=>by
  simp only [H0];cases (H7 s x).2 with
  |true=>exact aN7 r (bk9 h x)
  |false=>exact h
theorem ap5 (c:RCode):(B7 c).1.params=c.params/\(B7 c).1.code=(H0 c.code (E7 c.params)).1.2.1:=by unfold B7;cases (H0 c.code (E7 c.params)).2<;>exact ⟨rfl,rfl⟩
theorem ap6 {c:RCode} (h0:0<=c.params/\c.params<=4000) (hl:c.code.length<=16000) (b:J3 c.code=true):(B7 c).1.code.length<=16000/\I1 c.params (B7 c).1.code<=281474976714656000/\((B7 c).2=true->I1 c.params (B7 c).1.code=(H0 c.code (E7 c.params)).1.2.2):=by rw [(ap5 c).2];have h1:=ap4 c.code (E7 c.params) b;have h2:=aN7 c.code (a:=c.params) (s:=E7 c.params) rfl;simp only [E7,List.length_nil] at h1 h2 |-;rw [<-h2];refine ⟨by omega,by omega,λ_=>rfl⟩
theorem aT7 (l:List Int) (x:Int):C0 (l++[x])=(C0 l&&!l.contains x):=by rw [Bool.eq_iff_iff,G5,cn7,G5,List.nodup_append];simp;intro _;exact ⟨λh b=>h x b rfl,λh a c e=>h (e▸c)⟩
theorem bc7 {l r:List Int} (h:C0 l=false):C0 (l++r)=false:=by rw [Bool.eq_false_iff] at h |-;intro a;exact h (G5.2 (List.nodup_append.1 (G5.1 a)).1)
theorem bV9 (a b c:Int) (code:List RIns) (out:List Place) (I:-9223372036854775808<=b/\b<9223372036854775808/\J3 code=true/\out.length<=17592186044400):vc (EV [(60,cShaped),(61,cContains),(58,cFollow)]) (bL4 code) Go.Proofs.Tryd.f22 cValid (a,b,c,code,out,()):=by
 rw [bV8 a b c code out];intro E F y J G K L;obtain ⟨z,A,p,B⟩:=I;have M:F=rins0:=rfl;have d:y=(F9 ⟨a,b,c,code,out⟩,()):=rfl;have s:G=!D7 ⟨a,b,c,code,out⟩:=rfl;have l:E=decide ((16000:Int)<(code.length:Int)):=rfl;simp only [F9] at d
 clear_value E F y G
 subst M;dsimp only [J];simp only [true_and,and_true];have t:∀ k,k<code.length->ax1 (code.getD k rins0).ins=true:=λk n=>cq4.1 p _ (G8 n _);refine ⟨λh=>?_,λh=>⟨⟨z,A⟩,λh2=>?_,λh2=>?_⟩⟩
 .rw [l] at h;have h:(16000:Int)<code.length:=co4 h;rw [d,if_pos (by omega)]
 .rw [l] at h;have h:¬ (16000:Int)<code.length:=co3 h;rw [s,Bool.not_eq_true'] at h2;rw [d,if_neg (by omega),if_pos h2]
 rw [l] at h;have h:¬ (16000:Int)<code.length:=co3 h;rw [s,Bool.not_eq_false'] at h2;rw [if_neg (by omega),h2,if_neg (by simp)] at d;refine ⟨⟨(0,()),rfl,Int.le_refl _,by dsimp only;omega,by simp⟩,?_⟩;rintro ⟨i,⟨⟩⟩ ⟨h0,h1,h3⟩;dsimp only at h0 h1 h3 |-;obtain ⟨k,rfl⟩:=co0 h0;simp only [cn8] at h3 |-;refine ⟨λm=>?_,λC=>?_⟩
 .have m:(k:Int)<code.length:=co4 m;have e:k<code.length:=by omega
  have H:=(R7 _).1 (t k e);have no:(code.getD k rins0).kind=0->C0 (code.getD k rins0).ins.to=false->((5:Int),())=y:=λN O=>by have:(code.all λx=>x.kind !=0||C0 x.ins.to)=false:=as5 rins0 e (by rw [N,O];rfl);rw [d,this,if_pos rfl]
  have yes:((code.getD k rins0).kind≠0\/C0 (code.getD k rins0).ins.to=true)->∃ p':Int×Unit,IntKind.i64.wrap ((k:Int)+1)=p'.1/\(0<=p'.1/\p'.1<=(code.length:Int)/\((code.take p'.1.toNat).all λx=>x.kind !=0||C0 x.ins.to)=true)/\code.length-p'.1.toNat<code.length-k:=λq=>
   ⟨((k+1:Nat),()),B4 e (by omega),⟨by omega,by dsimp only;omega,by
    dsimp only;rw [cn8];refine Y9 rins0 e h3 ?_;rcases q with q|q
    .exact (Bool.or_eq_true_iff ..).2 (.inl (bne_iff_ne.2 q))
    .rw [q];simp⟩,by dsimp only;omega⟩
  obtain ⟨x,D⟩:∃ x,code.getD k rins0=x:=⟨_,rfl⟩;simp only [D] at H no yes |-;refine ⟨⟨h0,m⟩,⟨(0,()),rfl,Int.le_refl _,by dsimp only;omega,.inr (by simp [C0])⟩,?_⟩;rintro ⟨i,⟨⟩⟩ ⟨w,P,f⟩;dsimp only at w P f |-;obtain ⟨j,rfl⟩:=co0 w;simp only [cn8] at f |-;refine ⟨λglt=>?_,λgge=>?_⟩
  .have glt:(j:Int)<x.ins.to.length:=co4 glt;have u:j<x.ins.to.length:=by omega
   have g:=aT7 (x.ins.to.take j) (x.ins.to.getD j 0);rw [<-A4 u] at g;refine ⟨⟨w,glt⟩,λ_=>⟨w,by omega⟩,λo=>?_,λo=>?_⟩
   .simp only [cn7,beq_iff_eq] at o;refine no o.1 ?_;rw [o.2] at g;have Q:C0 (x.ins.to.take (j+1))=false:=by rw [g];simp
    have:=bc7 (r:=x.ins.to.drop (j+1)) Q
    rwa [List.take_append_drop] at this
   .refine ⟨((j+1:Nat),()),B4 u (by have:=H.1.1;omega),⟨by omega,by dsimp only;omega,?_⟩,by dsimp only;omega⟩;dsimp only;rw [cn8];rcases f with f|f
    .exact .inl f
    .by_cases n:x.kind=0
     .right;simp only [n,beq_self_eq_true,Bool.true_and] at o;rw [g,f,o];rfl
     .exact .inl n
  .have R:j=x.ins.to.length:=by have:¬ (j:Int)<x.ins.to.length:=co3 gge;omega
   subst R;rw [cq2] at f;exact yes f
 .have n:k=code.length:=by have:¬ (k:Int)<code.length:=co3 C;omega
  subst n;rw [cq2] at h3;rw [h3,if_neg (by simp)] at d;have v:0<=a/\a<=4000:=by simp only [D7,C7,cn7,List.all_cons,List.all_nil,cp6] at h2;omega
  refine ⟨⟨v.1,v.2,by omega,p,B⟩,λq=>?_,λq=>?_⟩
  .rw [Bool.not_eq_true'] at q;rw [d,if_pos q]
  .rw [Bool.not_eq_false'] at q;rw [d,q,if_neg (by simp)]
theorem al8:C5 prog RG 22 cValid:=E1 (A6 bc4 (A6 M5 (A6 av8 B8))) (λp=>bL4 p.2.2.2.1) (by kernel_rfl) (by kernel_rfl) (by kernel_rfl) λ(a,b,c,code,out,()) d=>bV9 a b c code out d
theorem bc8 {c:RCode} (h:F9 c=0):c.code.length<=16000/\D7 c=true/\(c.code.all λx=>x.kind !=0||C0 x.ins.to)=true/\(B7 c).2=true:=by
 unfold F9 at h;split at h
 .cases h
 .split at h
  .cases h
  .split at h
   .cases h
   .split at h
    .cases h
    .rename_i h1 h2 h3 h4;exact ⟨by omega,(Bool.not_eq_false _▸h2),(Bool.not_eq_false _▸h3),(Bool.not_eq_false _▸h4)⟩
theorem aT8 {c:RCode} (h:D7 c=true):0<=c.params/\c.params<=4000:=by simp only [D7,C7,cn7,List.all_cons,List.all_nil,cp6] at h;omega
theorem cg3 (a b c:Int) (code:List RIns) (out:List Place) (r:-9223372036854775808<=b/\b<9223372036854775808/\J3 code=true/\out.length<=17592186044400):vc (EV [(22,cValid),(58,cFollow)]) (cg1 a (B7 ⟨a,b,c,code,out⟩).1.code) Go.Proofs.Tryd.f20 cBack (a,b,c,code,out,()):=by
 rw [cg2 a b c code out];intro w A B x C D E y F G;have e:w=((G4 ⟨a,b,c,code,out⟩).1.params,(G4 ⟨a,b,c,code,out⟩).1.code,(G4 ⟨a,b,c,code,out⟩).1.out,(G4 ⟨a,b,c,code,out⟩).1.at_,(G4 ⟨a,b,c,code,out⟩).2,()):=rfl;have g:y=F9 ⟨a,b,c,code,out⟩:=rfl;have m:x=(y !=0):=rfl
 clear_value w x
 dsimp only [A,B,C,D,E];simp only [true_and,and_true];refine ⟨r,λh=>?_,λh=>?_⟩
 .have s:F9 ⟨a,b,c,code,out⟩≠0:=by
   rw [<-g];rw [m] at h;simpa using h
  have:G4 ⟨a,b,c,code,out⟩=(bi0,F9 ⟨a,b,c,code,out⟩):=by simp only [G4,if_pos s]
  rw [e,this,g];rfl
 have z:F9 ⟨a,b,c,code,out⟩=0:=by rw [<-g];rw [m] at h;simpa using h
 obtain ⟨h1,h2,h3,h4⟩:=bc8 z;have d:=aT8 h2;have hm:=ap6 d h1 r.2.2.1;have hB:G4 ⟨a,b,c,code,out⟩=if 4000<I1 a (B7 ⟨a,b,c,code,out⟩).1.code\/4000<(B7 ⟨a,b,c,code,out⟩).1.code.length then (bi0,9) else ((B7 ⟨a,b,c,code,out⟩).1,0):=by simp only [G4,z,ne_eq,not_true_eq_false,if_false]
 have j:=(ap5 ⟨a,b,c,code,out⟩).1;rw [hB] at e;obtain ⟨f,hf⟩:∃ f,B7 ⟨a,b,c,code,out⟩=f:=⟨_,rfl⟩;simp only [hf] at e hm h4 j |-;obtain ⟨⟨fa,fc,fo,ft⟩,fb⟩:=f;dsimp only at e hm h4 j |-;subst j;refine ⟨⟨d.1,d.2,h1,r.2.2.1,r.2.2.2⟩,⟨(0,fa,()),rfl,rfl,Int.le_refl _,by dsimp only;omega,by simp [I1]⟩,?_⟩;rintro ⟨i,n,⟨⟩⟩ ⟨t,H,u⟩;dsimp only at t H u |-;obtain ⟨k,rfl⟩:=co0 t;simp only [cn8] at u |-;subst u;refine ⟨λl=>?_,λo=>?_⟩
 .have l:(k:Int)<fc.length:=co4 l;have p:k<fc.length:=by omega
  have hs:I1 fa (fc.take (k+1))=I1 fa (fc.take k)+((fc.getD k ins0).to.length:Int):=by rw [A4 p ins0,as7];rfl
  have I:=bk8 fc (k+1) fa;have o:=aH4 (fc.take k) fa;have v:0<=fa:=d.1;refine ⟨⟨t,l⟩,((k+1:Nat),I1 fa (fc.take (k+1)),()),B4 p (by omega),?_,⟨by omega,by dsimp only;omega,by dsimp only;rw [cn8]⟩,by dsimp only;omega⟩;show IntKind.i64.wrap (I1 fa (fc.take k)+((fc.getD k ins0).to.length:Int))=_;rw [<-hs,L5 (by omega) (by omega)]
 .have J:k=fc.length:=by have:¬ (k:Int)<fc.length:=co3 o;omega
  subst J;rw [cq2];refine ⟨λq=>?_,λq=>?_⟩
  .simp only [Bool.or_eq_true,cp6] at q;have:4000<I1 fa fc\/4000<fc.length:=by omega
   rw [if_pos this] at e;exact e.symm
  .simp only [Bool.or_eq_false_iff,decide_eq_false_iff_not] at q;have:¬ (4000<I1 fa fc\/4000<fc.length):=by omega
   rw [if_neg this] at e;exact e.symm
theorem aN8:C5 prog RG 20 cBack:=E1 (A6 al8 (A6 av8 B8)) (λp=>cg1 p.1 (B7 ⟨p.1,p.2.1,p.2.2.1,p.2.2.2.1,p.2.2.2.2.1⟩).1.code) (by kernel_rfl) (by kernel_rfl) (by kernel_rfl) λ(a,b,c,code,out,()) d=>cg3 a b c code out d
abbrev Reads:=List (Int×List Int)
abbrev mapR:Ty:=.map i64 ints
def getL (r:Reads) (n:Int):List Int:=(mget eqI r n).getD []
def av9 (rd:Reads) (N reg from_:Int):Int:=((getL rd reg).find? (λx=>decide (from_<=x))).getD N
def bL8:Place:=⟨true,-1⟩
def aj2 (m:Holds) (reg:Int) (s:Nat):Bool:=decide (mget eqP m ⟨false,(s:Int)⟩=some reg)
def D9 (m:Holds) (ks reg:Int):Place:=match (List.range ks.toNat).find? (aj2 m reg) with
 |some s=>⟨false,(s:Int)⟩
 |none=>bL8
def held0:Held:=⟨0,0,0⟩
def as8 (x y:Held):Bool:=decide (x.next >y.next)||(x.next==y.next&&decide (x.reg >y.reg))
def O6 (x y:Held):Held:=bif as8 y x then y else x
def M2 (l:List Held):Held:=l.tail.foldl O6 (l.headD held0)
structure AS where
 holds:Holds
 cells:List (Int×Int)
 ocells:Int
 code:List RIns
def C8 (sp:Spans) (rd:Reads) (N:Int) (m:Holds) (place:Int) (stay:List Int):List Nat->List Held->Option Int×List Held
 |[],acc=>(none,acc)
 |s::r,acc=>match mget eqP m ⟨false,(s:Int)⟩ with
  |none=>(some (s:Int),acc)
  |some n=>bif stay.contains n then C8 sp rd N m place stay r acc else bif O4 (getS sp n).first (getS sp n).last place then C8 sp rd N m place stay r (acc++[⟨(s:Int),n,av9 rd N n place⟩]) else (some (s:Int),acc)
def M1 (sp:Spans) (rd:Reads) (ks N:Int) (m:Holds) (place:Int) (stay:List Int):Option Int×List Held:=C8 sp rd N m place stay (List.range ks.toNat) []
def aw0 (sp:Spans) (rd:Reads) (ks N:Int) (m:Holds) (place:Int) (stay:List Int):Prop:=(M1 sp rd ks N m place stay).1=none->(M1 sp rd ks N m place stay).2≠[]
def aT9 (s:AS) (x:Held):AS:=bif (mget eqI s.cells x.reg).isSome then s else ⟨s.holds,mput eqI s.cells x.reg s.ocells,s.ocells+1,s.code++[⟨2,x.slot,s.ocells,ins0⟩]⟩
def G6 (sp:Spans) (rd:Reads) (ks N:Int) (s:AS) (place:Int) (stay:List Int):Int×AS:=
 match (M1 sp rd ks N s.holds place stay).1 with
 |some i=>(i,s)
 |none=>((M2 (M1 sp rd ks N s.holds place stay).2).slot,aT9 s (M2 (M1 sp rd ks N s.holds place stay).2))
def F6:List Int->List Int->List Int
 |_,[]=>[]
 |seen,x::r=>bif seen.contains x then F6 (seen++[x]) r else x::F6 (seen++[x]) r
def B5 (l:List Int):List Int:=F6 [] l
def K1 (sp:Spans) (rd:Reads) (ks N i:Int) (fr:List Int) (s:AS) (n:Int):AS:=
 bif (D9 s.holds ks n).cell then
  (match G6 sp rd ks N s i fr with
  |(q,t)=>⟨mput eqP t.holds ⟨false,q⟩ n,t.cells,t.ocells,t.code++[⟨1,q,getI t.cells n,ins0⟩]⟩)
 else s
def aw1 (sp:Spans) (rd:Reads) (ks N i:Int) (to:List Int) (s:AS) (n:Int):AS:=
 match G6 sp rd ks N s (i+1) to with
 |(q,t)=>⟨mput eqP t.holds ⟨false,q⟩ n,t.cells,t.ocells,t.code⟩
def F4 (sp:Spans) (rd:Reads) (ks N i:Int) (fr:List Int) (s:AS) (l:List Int):AS:=l.foldl (K1 sp rd ks N i fr) s
def P8 (sp:Spans) (rd:Reads) (ks N i:Int) (to:List Int) (s:AS) (l:List Int):AS:=l.foldl (aw1 sp rd ks N i to) s
def ab4 (m:Holds) (ks:Int) (l:List Int):List (Int×Int):=l.foldl (λmm n=>mput eqI mm n (D9 m ks n).n) []
def doOf (sp:Spans) (rd:Reads) (ks N i:Int) (x:Ins) (s:AS):AS:=
 match F4 sp rd ks N i (B5 x.from_) s (B5 x.from_) with
 |s1=>match P8 sp rd ks N i x.to s1 x.to with
  |s2=>⟨s2.holds,s2.cells,s2.ocells,s2.code++[⟨0,0,0,⟨x.op,x.n,x.to.map (λn=>(D9 s2.holds ks n).n),x.from_.map (getI (ab4 s1.holds ks (B5 x.from_))),x.body⟩⟩]⟩
def doOk (sp:Spans) (rd:Reads) (ks N i:Int) (x:Ins) (s:AS):Prop:=
 (∀ k,k<(B5 x.from_).length->(D9 (F4 sp rd ks N i (B5 x.from_) s ((B5 x.from_).take k)).holds ks ((B5 x.from_).getD k 0)).cell=true->aw0 sp rd ks N (F4 sp rd ks N i (B5 x.from_) s ((B5 x.from_).take k)).holds i (B5 x.from_))/\
 (∀ k,k<x.to.length->aw0 sp rd ks N (P8 sp rd ks N i x.to (F4 sp rd ks N i (B5 x.from_) s (B5 x.from_)) (x.to.take k)).holds (i+1) x.to)
def ae7 (rd:Reads):Prop:=∀ n,(getL rd n).Pairwise (·<=·)
abbrev tysA:List Ty:=[i64,inss,ints,ints,mapS,mapR,mapP,mapI,i64,i64,i64,ak9,W5]
abbrev objA (j b:Nat):List OPat:=[.box 86 [.d b,.d (b+1),.d (b+2),.d (b+3),.map (j+1),.map (j+2),.map (j+3),.map (j+4),.d (b+8),.d (b+9),.d (b+10),.row (j+5),.row (j+6)],.map (b+4),.map (b+5),.map (b+6),.map (b+7),.row (b+11),.row (b+12)]
def cIsNaN:Con RU:=con [one] [i64] [one] [.bool] [false] none λp=>(false,())
def cLess:Con RU:=con [one,one] [i64,i64] [one] [.bool] [false] none λp=>(decide (p.1<p.2.1),())
def cBin:Con RU:=⟨[one,one],[ints,i64],[.d 0,.d 1],[],some λp=>p.1.Pairwise (·<=·),none,[one,one],[i64],[.d 0,.un],[],λp=>(((p.1.takeWhile (λx=>decide (x<p.2.1))).length:Int),()),[],[],[]⟩
def lBin (l:List Int) (t:Int):Nat->St RU->Ann RU:=λ_ _=>⟨[],[.slot 7,.slot 8],[i64,i64],λp=>0<=p.1/\p.1<=p.2.1/\p.2.1<=l.length/\(∀ x∈l.take p.1.toNat,x<t)/\(∀ x∈l.drop p.2.1.toNat,t<=x),λp=>(p.2.1-p.1).toNat,[]⟩
def cSlot:Con RU:=⟨[one,one],i64::tysA,[.ptr 0 0,.d 0],objA 0 1,some λp=>p.2.2.2.2.2.2.2.2.2.2.1<=64,none,[(true,2)],.bool::i64::tysA,[.d 0,.d 1],objA 0 2,λp=>((D9 p.2.2.2.2.2.2.2.1 p.2.2.2.2.2.2.2.2.2.2.1 p.1).cell,(D9 p.2.2.2.2.2.2.2.1 p.2.2.2.2.2.2.2.2.2.2.1 p.1).n,p.2),[],[],[]⟩
def cg4 (ho:Holds) (ks reg:Int):Nat->St RU->Ann RU:=λ_ _=>⟨[],[.slot 14],[i64],λp=>0<=p.1/\(p.1<=ks\/p.1=0)/\∀ s∈List.range p.1.toNat,aj2 ho reg s=false,λp=>ks.toNat-p.1.toNat,[]⟩
def cPutA:Con RU:=⟨[one,(true,8)],[i64,i64,i64,i64,i64,ints,ints,inss]++tysA,[.ptr 0 0,.d 0,.d 1,.d 2,.d 3,.d 4,.d 5,.d 6,.d 7],objA 0 8,some λp=>p.2.2.2.2.2.2.2.2.2.2.2.2.2.2.2.2.2.2.2.1.length<=1000000000,none,[],tysA,[],objA 0 0,
 λp=>match p with
  |(k,s,c,o,n,t,f,b,a0,a1,a2,a3,sp,rd,ho,ce,op,ks,oc,cd,ou,())=>(a0,a1,a2,a3,sp,rd,ho,ce,op,ks,oc,cd++[⟨k,s,c,⟨o,n,t,f,b⟩⟩],ou,()),[],[],[]⟩
def cNext:Con RU:=⟨[one,one,one],i64::i64::tysA,[.ptr 0 0,.d 0,.d 1],objA 0 2,some λp=>ae7 p.2.2.2.2.2.2.2.1,none,[one],i64::tysA,[.d 0],objA 0 1,λp=>(av9 p.2.2.2.2.2.2.2.1 p.2.2.2.1.length p.1 p.2.1,p.2.2),[],[],[]⟩
def cBetter:Con RU:=con [(true,3),(true,3)] [i64,i64,i64,i64,i64,i64] [one] [.bool] [false] none λp=>(as8 ⟨p.1,p.2.1,p.2.2.1⟩ ⟨p.2.2.2.1,p.2.2.2.2.1,p.2.2.2.2.2.1⟩,())
def cBest:Con RU:=⟨[(true,1),one],[ck1],[.fn 102,.d 0],[],some λp=>p.1≠[],none,[(true,3)],[i64,i64,i64],[.d 0,.d 1,.d 2],[],λp=>((M2 p.1).slot,(M2 p.1).reg,(M2 p.1).next,()),[],[],[]⟩
def cg5 (l:List Held):Nat->St RU->Ann RU:=λ_ _=>⟨[],[.slot 14,.box 320 0,.box 320 1,.box 320 2],[i64,i64,i64,i64],λp=>0<=p.1/\p.1<=l.tail.length/\(⟨p.2.1,p.2.2.1,p.2.2.2.1⟩:Held)=(l.tail.take p.1.toNat).foldl O6 (l.headD held0),λp=>l.tail.length-p.1.toNat,[]⟩
end Go.Rg
end
