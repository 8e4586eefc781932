/-
What the last text of this claim uses: VtS, VtU, VtV, VtW, VtX, VtY, VtZ0, VtRa, VtRb, VtRc, VtRd, VtRf, VtRg, VtZ, VtFits, VtInv.
-/
import Derived.Test.YtknhkhdbonjhgaaDoorV2
import Derived.Orders
import Derived.RangeFuncRecord
import Derived.RangeFuncIn
import Derived.Tactics
import Derived.Laws.Cover3
import Derived.Scope
import Derived.RangeFuncLeaves
set_option linter.unusedVariables false
set_option linter.unusedSimpArgs false
set_option maxRecDepth 100000
noncomputable section
section
namespace Go.VT
noncomputable section
open Go.RowKit
variable {U:Univ} {E:Env U} {F:Fr} {n:Nat} {β:Nm} {s:St U} {a:Act} {w:World} {o:Oper} {e:Eff U} {h:Obs U}
theorem CondG.append {σ:List (Nat×PV U)} {p q:List (Nat×Bool)} (a:CondG σ p) (b:CondG σ q):CondG σ (p++q):=λg hg=>by
 rcases cq1.1 hg with h1|h1
 .exact a g h1
 .exact b g h1
theorem aY2 {σ:List (Nat×PV U)}:∀ {path:List (Nat×Bool)} {p:Prop},hyps σ path p->CondG σ path->p
 |[],p,h,_=>h
 |(j,wt)::r,p,h,hc=>by have a:=hc (j,wt) (by simp);simp only at a;simp only [hyps,a] at h;exact aY2 (h trivial) (λg hg=>hc g (by simp [hg]))
theorem bu3 {σ:List (Nat×PV U)} {path:List (Nat×Bool)} {t:Nat} {c:Bool} (hs:H5 path (ev σ (.tmp t))=.one (.d ⟨.bool,c⟩)):M9 σ t=some c:=by
 simp only [ev] at hs;cases hl:look t σ with
 |none=>rw [hl] at hs;simp [H5] at hs
 |some p=>
  rw [hl] at hs;simp only [Option.getD_some] at hs;unfold M9;rw [hl];cases p with
  |opt gs q=>
   simp only [H5] at hs;split at hs
   .rw [hs]
   .simp at hs
  |un=>simp [H5] at hs
  |one c'=>simp only [H5,PV.one.injEq] at hs;rw [hs]
  |agg _=>simp [H5] at hs
  |tup _=>simp [H5] at hs
theorem bF1 {σ:List (Nat×PV U)} {c:Bool} {x y:Operand} {p q v:PV U} (a:bQ3 c x y p q=some v) {ρ:Operand->Value} (hρ:∀ v,ρ (.const v)=v) (h1:c=true->PRel w β h σ p (ρ x)) (h2:c=false->PRel w β h σ q (ρ y)):
  v.plain=true/\PRel w β h σ v (if c=true then ρ x else ρ y):=by
 unfold bQ3 at a;split at a
 case h_2=>cases a
 rename_i bx by_;have b:c=true->ρ x=.bool bx:=λhc=>(h1 hc).bool;have d:c=false->ρ y=.bool by_:=λhc=>(h2 hc).bool;split at a
 .simp only [cn4] at a;subst a;refine ⟨rfl,?_⟩;cases c with
  |true=>rw [if_pos rfl,hρ];exact PRel.mkBool true
  |false=>rw [if_neg (by simp),d rfl];exact PRel.mkBool by_
 .simp only [cn4] at a;subst a;refine ⟨rfl,?_⟩;cases c with
  |true=>rw [if_pos rfl,b rfl];exact PRel.mkBool bx
  |false=>rw [if_neg (by simp),hρ];exact PRel.mkBool false
 .simp only [cn4] at a;subst a;refine ⟨rfl,?_⟩;cases c with
  |true=>rw [if_pos rfl,b rfl];exact PRel.mkBool bx
  |false=>rw [if_neg (by simp),d rfl];exact PRel.mkBool by_
theorem aC6 {path:List (Nat×Bool)} {v:Val U} (a:ad0 E s o path=some v):v.e.val.plain=true:=by
 unfold ad0 at a;dsimp only at a;split at a
 .rename_i e' b;simp only [co7] at a;split at a
  .rename_i hc;simp only [cn7] at hc;simp only [cn4] at a;rw [<-a];exact hc.1
  .cases a
 .cases a
theorem O1 {vs:List (PV U)} {ks:List (Con U)} {v:Val U} (a:H2 E s o vs ks=some v):v.e.val.plain=true:=by
 unfold H2 at a;dsimp only at a;split at a
 .rename_i c b;simp only [co7] at a;split at a
  .rename_i hc;simp only [cn7] at hc;simp only [cn4] at a;rw [<-a];exact hc.1
  .cases a
 .cases a
theorem aY3 {path:List (Nat×Bool)} {v:Val U} (a:aj5 E s o path=some v):v.e.val.plain=true:=by
 unfold aj5 at a;split at a
 .split at a
  .split at a
   .rename_i v b;simp only [cn4] at a;subst a;unfold bQ3 at b;split at b
    .split at b<;>(simp only [cn4] at b;subst b;rfl)
    .cases b
   .cases a
  .cases a
 .split at a
  .simp only [co7] at a;split at a
   .simp only [cn4] at a;subst a;rfl
   .cases a
  .cases a
 .split at a
  .split at a
   .exact O1 a
   .exact O1 a
   .exact O1 a
   .split at a
    .exact O1 a
    .cases a
  .split at a
   .exact O1 a
   .cases a
  .exact aC6 a
 .exact aC6 a
def bu4 (F:Fr) (w:World) (β:Nm) (h:Obs U) (v:Val U) (a:Act) (Q:Exit->Act->World->Prop):Prop:=
 ∀ b,v.pan=some b->b.1=true->∀ u w',an7 b.2 u->Below F.B w w'->(∀ blk,blk<w.heap.size->(∀ id∈keys v.e.upd++v.lost,∀ o,look id h=some o->o.live=true->¬ Has (β id) blk)->w'.heap[blk]? =w.heap[blk]?)->Q (.panic [{ v:=u,recovered:=false }]) a w'
theorem M4 {g:Obs U} {yl:List (Nat×Nat)} {dst:Option Tmp} {vs:List (PV U)}:∀ {ks:List (Con U)} {c:CallE U},ac9 g yl dst vs ks=some c->∃ k∈ks,ac8 g yl dst k vs=some c
 |[],c,h=>by simp [ac9] at h
 |k::r,c,h=>by
  simp only [ac9] at h;split at h
  .rename_i e a;simp only [cn4] at h;subst h;exact ⟨k,by simp,a⟩
  .obtain ⟨k',h1,h2⟩:=M4 h;exact ⟨k',by simp [h1],h2⟩
theorem ar3 {σ:List (Nat×PV U)} {p:PV U} {f:FuncId} {ids:List Nat} (hc:am8 p=some (f,ids)) {v:Value} (r:PRel w β h σ p v):
  ∃ bs:List Nat,v=.func (.func f) #[] (bs.map λb=>Value.pointer (some ⟨b,0,none⟩)).toArray/\bs.length=ids.length/\∀ (j id b:Nat),ids[j]? =some id->bs[j]? =some b->∃ e cs,look id h=some (.box e cs)/\β id=.pointer (some ⟨b,0,none⟩):=by
 unfold am8 at hc;split at hc
 .rename_i f' a b;simp only [co7] at hc;split at hc
  .rename_i c;simp only [cn7] at c;simp only [cn4,co6] at hc;obtain ⟨rfl,rfl⟩:=hc;have h1:=Array.eq_empty_of_size_eq_zero (cn5 c.1);have h2:=Array.eq_empty_of_size_eq_zero (cn5 c.2);subst h1;subst h2;exact ⟨[],r.inv.2,rfl,λj id b h=>by simp at h⟩
  .cases hc
 .simp only [cn4,co6] at hc;obtain ⟨rfl,rfl⟩:=hc;exact r.inv.2
 .cases hc
theorem aa6 {Y:Fr} {C:Runs} (c:C.Mono) (y:O0 Y F E.yl) (R:Rel F n β s a.tmps w) {ps:List (PV U)} {us:List Value} {ks:List (Con U)} (m:∀ k∈ks,GivesC Y C F.G k)
  {v:Val U} (f:H2 E s o ps ks=some v) (q:v.e.Obl) (hl:us.length=ps.length) (r:∀ (j:Nat) (p:PV U) (u:Value),ps[j]? =some p->us[j]? =some u->PRel w β s.h s.σ p u)
  {K:Act->World->Prop} {Q:Exit->Act->World->Prop} (z:(∀ b,v.pan=some b->b.1=false)->Then F w β s v.e a o K) (B:bu4 F w β s.h v a Q):
  C us w λe w'=>match e with
   | .returned u=>K (a.put o.dst u) w'
   | .panicked ch=>Q (.panic ch) a w'
   | .outgrown=>False:=by
 unfold H2 at f;dsimp only at f;split at f
 case h_2=>cases f
 rename_i ce t;simp only [co7] at f;split at f
 case isFalse=>cases f
 rename_i d;simp only [cn7] at d;simp only [cn4] at f;subst f;obtain ⟨k,D,l⟩:=M4 t;have g:=aB6 (σ:=s.σ) c ((m k D).calls y) R.ok (λ_ _=>C1) l q (λid x=>by
   have:=cq4.1 d.2 id x;simp only [cn7,Option.isNone_iff_eq_none] at this;exact ⟨this.1,cp7 this.2⟩) hl r
 refine c _ _ _ _ g (λen w' i=>?_);cases en with
 |returned u=>obtain ⟨h1,β',A,p⟩:=i;exact z h1 u w' β' A p
 |panicked ch=>obtain ⟨b,u,h1,h2,rfl,h4,H,I⟩:=i;exact B b h1 h2 u w' h4 H I
 |outgrown=>exact i.elim
theorem ao3 {R:Rel F n β s a.tmps w} {path:List (Nat×Bool)} (hc:CondG s.σ path) {l:List Operand} {j:Nat} {p:PV U} {u:Value} (c:(l.map (λx=>H5 path (ev s.σ x)))[j]? =some p) (d:(l.map a.eval)[j]? =some u):PRel w β s.h s.σ p u:=by simp only [co9,co1] at c d;obtain ⟨y,e,rfl⟩:=c;obtain ⟨y',b,rfl⟩:=d;rw [e] at b;simp only [cn4] at b;subst b;exact T9 hc (S4 R y)
theorem aK7 {q:PV U->Value->Prop} {ps ps':List (PV U)} {us us':List Value} (hl:us.length=ps.length) (h1:∀ (j:Nat) p u,ps[j]? =some p->us[j]? =some u->q p u) (h2:∀ (j:Nat) p u,ps'[j]? =some p->us'[j]? =some u->q p u):
  ∀ (j:Nat) p u,(ps++ps')[j]? =some p->(us++us')[j]? =some u->q p u:=by
 intro j p u a b;by_cases c:j<ps.length
 .rw [cp4 c] at a;rw [cp4 (by omega)] at b;exact h1 j p u a b
 .rw [cp3 (by omega)] at a;rw [cp3 (by omega),hl] at b;exact h2 _ p u a b
theorem aK8 {Y:Fr} {ro:Option Nat} (V:O0 Y F E.yl) (I:F.G=E.G) (R:Rel F n β s a.tmps w) {c:Call} {x:Operand} (l:o.op=.call c) (g:c.callee=.value x) {path:List (Nat×Bool)} (hc:CondG s.σ path) {f:FuncId} {ids:List Nat} {ks:List (Con U)} (q:∀ k∈ks,ab9 Y E.P E.G f k)
  (hf:∃ bs:List Nat,a.eval x=.func (.func f) #[] (bs.map λb=>Value.pointer (some ⟨b,0,none⟩)).toArray/\bs.length=ids.length/\∀ (j id b:Nat),ids[j]? =some id->bs[j]? =some b->∃ e cs,look id s.h=some (.box e cs)/\β id=.pointer (some ⟨b,0,none⟩))
  {v:Val U} (r:H2 E s o (c.args.toList.map (λx=>H5 path (ev s.σ x))++ids.map (λid=>.one (.ptr id 0))) ks=some v) (J:v.e.Obl)
  {K:Act->World->Prop} {Q:Exit->Act->World->Prop} (W:(∀ b,v.pan=some b->b.1=false)->Then F w β s v.e a o K) (X:bu4 F w β s.h v a Q):o.wpIn (fen E.P ro) 0 E.P a w K Q:=by
 obtain ⟨bs,t,L,M⟩:=hf;have N:∃ k,k∈ks:=by
  unfold H2 at r;dsimp only at r;split at r
  .rename_i ce O;obtain ⟨k,y,_⟩:=M4 O;exact ⟨k,y⟩
  .cases r
 obtain ⟨k,y⟩:=N;have i:=(q k y).1;have d:=aa6 (C:=runF E.P f) (us:=c.args.toList.map a.eval++bs.map (λb=>Value.pointer (some ⟨b,0,none⟩))) aB3 V R (λk y=>I▸(q k y).2) r J (by simp [L]) (aK7 (by simp) (λj p u D H=>ao3 (R:=R) hc D H) (λj p u D H=>by
   simp only [co9,co1] at D H;obtain ⟨id,S,rfl⟩:=D;obtain ⟨b,Z,rfl⟩:=H;obtain ⟨e',cs',q1,q2⟩:=M _ id b S Z;exact CsRel.one rfl ⟨e',cs',b,q1,q2,rfl⟩)) W X
 have T:ac0 E.P w a o:=by intro f' z;simp only [Oper.about,l,resolve,g,t,Deferred.ofValue,Sem.run_pure,Target.leads,cn4] at z;obtain ⟨fn,h1,_⟩:=i;rw [<-z,h1];rfl
 refine ar2 T (λc' A=>by rw [l] at A;cases A) ?_;have B:(execOp a.eval o).run E.P w=.ok (.enter f (c.args.toList.map a.eval++bs.map (λb=>Value.pointer (some ⟨b,0,none⟩))).toArray) w:=by
  have h1:=i.run (c.args.map a.eval++(bs.map λb=>Value.pointer (some ⟨b,0,none⟩)).toArray) w;have h2:(c.args.toList.map a.eval++bs.map (λb=>Value.pointer (some ⟨b,0,none⟩))).toArray=c.args.map a.eval++(bs.map λb=>Value.pointer (some ⟨b,0,none⟩)).toArray:=by apply Array.toList_inj.1;simp
  rw [h2,<-h1];simp [execOp,l,resolve,g,t,Deferred.ofValue,invoke]
 rw [B];refine ⟨ad9,(aC5 d).mono (λen w' m=>?_)⟩;cases en with
 |returned u=>exact m
 |panicked ch=>exact m
 |outgrown=>exact m.elim
theorem V9 {ps:List (PV U)} {ks:List (Con U)} {v:Val U} (a:H2 E s o ps ks=some v):∃ k,k∈ks:=by
 unfold H2 at a;dsimp only at a;split at a
 .rename_i ce b;obtain ⟨k,c,_⟩:=M4 b;exact ⟨k,c⟩
 .cases a
theorem bh0 {Y:Fr} {ro:Option Nat} (N:O0 Y F E.yl) (H:F.G=E.G) (R:Rel F n β s a.tmps w) {c:Call} {x:Operand} (l:o.op=.call c) (g:c.callee=.value x) {path:List (Nat×Bool)} (hc:CondG s.σ path) {f:FuncId} {id:Nat} {ks:List (Con U)} (r:∀ k∈ks,ab9 Y E.P E.G f k)
  (O:PRel w β s.h s.σ (.one (.bnd f id)) (a.eval x))
  {v:Val U} (M:H2 E s o (.one (.ptr id 0)::c.args.toList.map (λx=>H5 path (ev s.σ x))) ks=some v) (I:v.e.Obl)
  {K:Act->World->Prop} {Q:Exit->Act->World->Prop} (S:(∀ b,v.pan=some b->b.1=false)->Then F w β s v.e a o K) (T:bu4 F w β s.h v a Q):o.wpIn (fen E.P ro) 0 E.P a w K Q:=by
 obtain ⟨V,cs1,q,W,X,t⟩:=O.inv.2;obtain ⟨k,J⟩:=V9 M;have i:=(r k J).1;have d:=aa6 (C:=runF E.P f) (us:=.pointer (some ⟨q,0,none⟩)::c.args.toList.map a.eval) aB3 N R (λk J=>H▸(r k J).2) M I (by simp) (λj p u B D=>by
   cases j with
   |zero=>simp only [co2,cn4] at B D;subst B;subst D;exact CsRel.one rfl ⟨V,cs1,q,W,X,rfl⟩
   |succ j=>exact ao3 (R:=R) hc (by rw [List.getElem?_cons_succ] at B;exact B) (by rw [List.getElem?_cons_succ] at D;exact D)) S T
 have L:ac0 E.P w a o:=by intro f' y;simp only [Oper.about,l,resolve,g,t,Deferred.ofValue,Sem.run_pure,Target.leads,cn4] at y;obtain ⟨fn,h1,_⟩:=i;rw [<-y,h1];rfl
 refine ar2 L (λc' z=>by rw [l] at z;cases z) ?_;have A:(execOp a.eval o).run E.P w=.ok (.enter f (Value.pointer (some ⟨q,0,none⟩)::c.args.toList.map a.eval).toArray) w:=by
  have h1:=i.run (#[Value.pointer (some ⟨q,0,none⟩)]++c.args.map a.eval) w;have h2:(Value.pointer (some ⟨q,0,none⟩)::c.args.toList.map a.eval).toArray=#[Value.pointer (some ⟨q,0,none⟩)]++c.args.map a.eval:=by apply Array.toList_inj.1;simp
  rw [h2,<-h1];simp [execOp,l,resolve,g,t,Deferred.ofValue,invoke]
 rw [A];refine ⟨ad9,(aC5 d).mono (λen w' m=>?_)⟩;cases en with
 |returned u=>exact m
 |panicked ch=>exact m
 |outgrown=>exact m.elim
theorem bh1 {Y:Fr} {ro:Option Nat} (M:O0 Y F E.yl) (A:F.G=E.G) (R:Rel F n β s a.tmps w) {c:Call} {x:Operand} (i:o.op=.call c) (f:c.callee=.value x) {path:List (Nat×Bool)} (hc:CondG s.σ path) {id:Nat} {ks:List (Con U)} (B:∀ k∈ks,GivesC Y (runY E.P) E.G k)
  (N:PRel w β s.h s.σ (.one (.yld id)) (a.eval x))
  {v:Val U} (O:H2 E s o (c.args.toList.map (λx=>H5 path (ev s.σ x))++[.one (.yld id)]) ks=some v) (D:v.e.Obl)
  {K:Act->World->Prop} {Q:Exit->Act->World->Prop} (S:(∀ b,v.pan=some b->b.1=false)->Then F w β s v.e a o K) (T:bu4 F w β s.h v a Q):o.wpIn (fen E.P ro) 0 E.P a w K Q:=by
 have d:=aa6 (C:=runY E.P) (us:=c.args.toList.map a.eval++[a.eval x]) bE2 M R (λk V=>A▸B k V) O D (by simp) (aK7 (by simp) (λj p u g l=>ao3 (R:=R) hc g l) (λj p u g l=>by
   match j,g,l with
   |0,g,l=>simp only [co2,cn4] at g l;subst g;subst l;exact N
   |j+1,g,l=>simp at g)) S T
 obtain ⟨as,b,r,h1,h2,h3,h4⟩:=d;obtain ⟨L,H⟩:=List.append_inj' h1 rfl;simp only [List.cons.injEq,and_true] at H;have I:ac0 E.P w a o:=by intro f' J;simp [Oper.about,i,resolve,f,H,Deferred.ofValue,Target.leads] at J
 refine ar2 I (λc' y=>by rw [i] at y;cases y) ?_;have m:c.args.map a.eval=as.toArray:=by rw [<-L];apply Array.toList_inj.1;simp
 have W:c.args.size=r.params.size:=by rw [<-h3,<-L];simp
 have z:(execOp a.eval o).run E.P w=.ok (.round b r.fn ((r.params.zip as.toArray).foldl (λtmps (t,a)=>tmps.setIfInBounds t a) r.tmps) r.assign r.body) w:=by rw [<-run_yield (P:=E.P) (args:=as.toArray) h2 (by simpa using h3)];simp [execOp,i,resolve,f,H,Deferred.ofValue,invoke,m]
 rw [z];refine ⟨ad9,RoundIn.mono (h4 ro) (λen w' q=>?_)⟩;cases en with
 |returned u=>exact q
 |panicked ch=>exact q
 |outgrown=>exact q.elim
theorem aY4 {Y:Fr} {ro:Option Nat} (J:O0 Y F E.yl) (A:F.G=E.G) (R:Rel F n β s a.tmps w) {c:Call} {x:Operand} {name:String} (m:o.op=.call c) (i:c.callee=.invoke x name) {path:List (Nat×Bool)} (hc:CondG s.σ path) {ks:List (Con U)} (B:∀ k∈ks,GivesC Y (runI E.P name) E.G k)
  {v:Val U} (L:H2 E s o (H5 path (ev s.σ x)::c.args.toList.map (λx=>H5 path (ev s.σ x))) ks=some v) (D:v.e.Obl)
  {K:Act->World->Prop} {Q:Exit->Act->World->Prop} (M:(∀ b,v.pan=some b->b.1=false)->Then F w β s v.e a o K) (N:bu4 F w β s.h v a Q):o.wpIn (fen E.P ro) 0 E.P a w K Q:=by
 have g:=aa6 (C:=runI E.P name) (us:=a.eval x::c.args.toList.map a.eval) bE3 J R (λk O=>A▸B k O) L D (by simp) (λj p u S T=>ao3 (R:=R) (l:=x::c.args.toList) hc (by simpa using S) (by simpa using T)) M N;obtain ⟨f,as,h1,h2⟩:=g;have q:(a.eval x::c.args.toList.map a.eval).toArray=#[a.eval x]++c.args.map a.eval:=by apply Array.toList_inj.1;simp
 have H:ac0 E.P w a o:=by
  intro f' d;simp only [Oper.about,m,resolve,i,Sem.run_pure,Target.leads] at d;rw [q] at h1;simp only [invoke] at h1;have h0:(#[a.eval x]++c.args.map a.eval)[0]? =some (a.eval x):=by rw [Array.getElem?_append_left (by simp)];rfl
  rw [h0] at h1 d;split at d
  .rename_i u v' t;simp only [cn4] at t;rw [t] at h1;simp only [callMethod] at h1;split at d
   .rename_i V rcv W hm;simp only [cn4] at d;subst d;cases I:E.P.funcs[V]? with
    |some fn=>rfl
    |none=>simp [hm,callFunc,I] at h1
   .cases d
  .cases d
 refine ar2 H (λc' y=>by rw [m] at y;cases y) ?_;have z:(execOp a.eval o).run E.P w=.ok (.enter f as) w:=by
  rw [<-h1];have h2:(a.eval x::c.args.toList.map a.eval).toArray=#[a.eval x]++c.args.map a.eval:=by apply Array.toList_inj.1;simp
  rw [h2];simp [execOp,m,resolve,i]
 rw [z];refine ⟨ad9,(aC5 h2).mono (λen w' r=>?_)⟩;cases en with
 |returned u=>exact r
 |panicked ch=>exact r
 |outgrown=>exact r.elim
theorem bq1 {ro:Option Nat} (h:E.Fits) (d:F.G=E.G) (R:Rel F n β s a.tmps w) {path:List (Nat×Bool)} (hc:CondG s.σ path) {v:Val U} (c:ad0 E s o path=some v) (f:v.e.Obl)
  {K:Act->World->Prop} {Q:Exit->Act->World->Prop} (i:Then F w β s v.e a o K):o.wpIn (fen E.P ro) 0 E.P a w K Q:=by
 unfold ad0 at c;dsimp only at c;split at c
 case h_2=>cases c
 rename_i e' j;simp only [co7] at c;split at c
 case isFalse=>cases c
 rename_i b;simp only [cn7] at b;simp only [cn4] at c;subst c;refine cj7 h d R hc j f (λid g=>?_) i;have:=cq4.1 b.2 id g;simp only [cn7,Option.isNone_iff_eq_none] at this;exact ⟨this.1,cp7 this.2⟩
theorem aC7 {t:TypeId} {b:Bool} {ds:List (Datum U)} (hs:(ds.all λd=>Z1 d.1)=true) {v:Value} (r:CRel w β h (.ifc t b ds) v):an7 ⟨t,b,ds⟩ v:=by
 obtain ⟨vs,h1,h2,h3,h4,e⟩:=r;refine ⟨vs,h1,h2,h3,λj d u c f=>?_⟩;have hr:=e j d u c f;have a:=cq4.1 hs d (List.mem_iff_getElem?.2 ⟨j,c⟩);obtain ⟨ty,x⟩:=d;cases ty with
 |int k=>cases hr;rfl
 |bool=>cases hr;rfl
 |_=>simp [Z1] at a
theorem bF2 {Y:Fr} {ro:Option Nat} (X:E.Fits) (N:E.Sound Y) (O:O0 Y F E.yl) (z:F.G=E.G) (R:Rel F n β s a.tmps w) {path:List (Nat×Bool)} (hc:CondG s.σ path) {v:Val U} (d:aj5 E s o path=some v) (A:v.e.Obl)
  {K:Act->World->Prop} {Q:Exit->Act->World->Prop} (H:(∀ b,v.pan=some b->b.1=false)->Then F w β s v.e a o K) (L:bu4 F w β s.h v a Q):o.wpIn (fen E.P ro) 0 E.P a w K Q:=by
 have I:∀ {path:List (Nat×Bool)},ad0 E s o path=some v->∀ b,v.pan=some b->b.1=false:=by
  intro path d b M;unfold ad0 at d;dsimp only at d;split at d
  .simp only [co7] at d;split at d
   .simp only [cn4] at d;subst d;cases M
   .cases d
  .cases d
 unfold aj5 at d;split at d
 .rename_i t x y l;split at d
  .rename_i c hs;split at d
   .rename_i p Z;simp only [cn4] at d;subst d;have M:=bu3 hs;have B:a.eval (.tmp t)=.bool c:=by
     have:=T9 hc (S4 R (.tmp t));rw [hs] at this;exact this.bool
    have T:=bF1 (w:=w) (β:=β) (h:=s.h) (σ:=s.σ) Z (ρ:=a.eval) (λ_=>rfl)
     (λB=>T9 (hc.append (λg hg=>by simp only [co5] at hg;subst hg;rw [M,B])) (S4 R x))
     (λB=>T9 (hc.append (λg hg=>by simp only [co5] at hg;subst hg;rw [M,B])) (S4 R y))
    refine Does.wp' (F:=F) (e:=F5 p) (Does.pure (n:=n) (v:=if c=true then a.eval x else a.eval y) R rfl ?_ T.2) (I4 λc' m=>by rw [l] at m;cases m) (λc' m=>by rw [l] at m;cases m) (H (λb M=>by cases M));simp [execOp,l,B,asBool]
   .cases d
  .cases d
 .rename_i x l;split at d
  .rename_i t b ds hs;simp only [co7] at d;split at d
   .rename_i J;simp only [cn4] at d;subst d;have C:=T9 hc (S4 R x);rw [hs] at C;have V:=aC7 J C.inv.2;obtain ⟨vs,W,_⟩:=V;refine ar2 (I4 λc' m=>by rw [l] at m;cases m) (λc' m=>by rw [l] at m;cases m) ?_;have S:(execOp a.eval o).run E.P w=.halt (.panic (a.eval x)) w:=by
     rw [show execOp a.eval o=(do return .value (←Instr.panic (a.eval x))) by simp [execOp,l]];simp [W,Instr.panic,goPanic]
    rw [S];exact L _ rfl rfl _ _ (aC7 J C.inv.2) (Below.refl _ _) (λ_ _ _=>rfl)
   .cases d
  .cases d
 .rename_i c l;split at d
  .rename_i x q;have C:=T9 hc (S4 R x);split at d
   .rename_i fs i u;rw [u] at C;obtain ⟨f,h1,h2⟩:=C.inv.2;exact aK8 O z R l q hc (ids:=[]) (λk D=>N.tab fs i f k h1 D) ⟨[],h2,rfl,λj id b h=>by simp at h⟩ (by simpa using d) A H L
   .rename_i id u;rw [u] at C;exact bh1 O z R l q hc (λk D=>N.y k (by simpa using D)) C d A H L
   .rename_i f id u;rw [u] at C;exact bh0 O z R l q hc (λk D=>N.con f k (Z6 D)) C d A H L
   .split at d
    .rename_i f ids hf;exact aK8 O z R l q hc (λk D=>N.con f k (Z6 D)) (ar3 hf C) d A H L
    .cases d
  .rename_i x name q;split at d
   .rename_i i v' u;cases path with
    |cons g r=>cases u
    |nil=>
    rw [<-u] at d;exact aY4 O z R l q hc (λk D=>N.inv i name k D) d A H L
   .cases d
  .exact bq1 X z R hc d A (H (I d))
 .exact bq1 X z R hc d A (H (I d))
theorem ac1 {g:Obs U} {yl:List (Nat×Nat)} (hg:∀ id o,look id g=some o->look id h=some o) (K:Ok F w β h) {dst:Option Tmp} {k:Con U} {vs:List (PV U)} {c:CallE U} (a:Z5 g yl dst k vs=some c) {u:Obs U} (d:∀ x∈u,x∈c.e.upd) (f:∀ x∈u,x.2.live=false):Freezes h u:=by
 unfold Z5 at a;split at a
 case h_2=>cases a
 rename_i cs j;split at a
 case h_2=>cases a
 rename_i xs m hm;split at a
 case h_2=>cases a
 rename_i v l;simp only [cn4] at a;subst a;obtain ⟨G,_⟩:=aa5 K hg hm;intro id ob b;rcases cq1.1 (d _ b) with h1|h1
 .exact G.hf id ob h1
 .obtain ⟨i,p,_,_,rfl⟩:=bg1 h1;have:=f _ b;rw [bE1] at this;cases this
theorem aC8 {g:Obs U} {yl:List (Nat×Nat)} (hg:∀ id o,look id g=some o->look id h=some o) (K:Ok F w β h) {dst:Option Tmp} {k:Con U} {vs:List (PV U)} {c:CallE U} (a:ac8 g yl dst k vs=some c) (d:∀ x∈c.e.upd,x.2.live=false):Freezes h c.e.upd:=by
 unfold ac8 at a;split at a
 case h_2=>cases a
 rename_i f b;split at a
 .simp only [co7] at a;split at a
  .simp only [cn4] at a;subst a;exact λid ob hm=>by simp at hm
  simp only [cn4] at a;subst a;exact ac1 hg K b (λ_ h=>h) d
 .simp only [cn4] at a;subst a;exact ac1 hg K b (λx i=>((ay9 (u:=f.e.upd)).1 x i).elim (λh=>by simp at h) (λh=>h)) d
theorem aR3 (R:Ok F w β s.h) {path:List (Nat×Bool)} {v:Val U} (a:aj5 E s o path=some v) (g:∀ x∈v.e.upd,x.2.live=false):Freezes s.h v.e.upd:=by
 have c:∀ {path:List (Nat×Bool)},ad0 E s o path=some v->Freezes s.h v.e.upd:=by
  intro path a;unfold ad0 at a;dsimp only at a;split at a
  .rename_i e' i;simp only [co7] at a;split at a
   .simp only [cn4] at a;subst a;exact bg9 i g
   .cases a
  .cases a
 have b:∀ {vs:List (PV U)} {ks:List (Con U)},H2 E s o vs ks=some v->Freezes s.h v.e.upd:=by
  intro vs ks a;unfold H2 at a;dsimp only at a;split at a
  .rename_i ce f;simp only [co7] at a;split at a
   .simp only [cn4] at a;subst a;obtain ⟨k,_,d⟩:=M4 f;exact aC8 (λ_ _=>C1) R d g
   .cases a
  .cases a
 unfold aj5 at a;split at a
 .split at a
  .split at a
   .simp only [cn4] at a;subst a;exact λid ob hm=>by simp [F5] at hm
   .cases a
  .cases a
 .split at a
  .simp only [co7] at a;split at a
   .simp only [cn4] at a;subst a;exact λid ob hm=>by simp [F5] at hm
   .cases a
  .cases a
 .split at a
  .split at a
   .exact b a
   .exact b a
   .exact b a
   .split at a
    .exact b a
    .cases a
  .split at a
   .exact b a
   .cases a
  .exact c a
 .exact c a
theorem au3 {σ:List (Nat×PV U)} {d j:Nat} (a:d≠j) (v:PV U):M9 (write d v σ) j=M9 σ j:=by unfold M9;rw [A5,if_neg (Ne.symm a)]
theorem PRel.write {σ:List (Nat×PV U)} {d:Nat} {v p:PV U} {x:Value} (b:p.plain=true\/∃ gs q,p=.opt gs q/\q.plain=true/\∀ g∈gs,g.1≠d) (r:PRel w β h σ p x):PRel w β h (write d v σ) p x:=by
 rcases b with b|⟨gs,q,rfl,e,c⟩
 .exact r.any b
 .have a:CondG (VT.write d v σ) gs<->CondG σ gs:=by
   constructor
   .intro hc g hg;rw [<-au3 (Ne.symm (c g hg)) v];exact hc g hg
   .intro hc g hg;rw [au3 (Ne.symm (c g hg)) v];exact hc g hg
  exact ⟨λhc=>(r.1 (a.1 hc)).any e,λhc=>r.2 (λf=>hc (a.2 f))⟩
def OptIn (D:Nat->Prop) (σ:List (Nat×PV U)):Prop:=∀ t gs p,look t σ=some (.opt gs p)->p.plain=true/\∀ g∈gs,D g.1
theorem OptIn.cases {D:Nat->Prop} {σ:List (Nat×PV U)} (a:OptIn D σ) {t:Nat} {p:PV U} (hl:look t σ=some p):p.plain=true\/∃ gs q,p=.opt gs q/\q.plain=true/\∀ g∈gs,D g.1:=by
 cases p with
 |opt gs q=>exact .inr ⟨gs,q,rfl,a t gs q hl⟩
 |_=>exact .inl rfl
theorem bR8 (tmps:Array Value) (d t:Nat) (v:Value) (a:d<tmps.size):(tmps.setIfInBounds d v).getD t undef=if t=d then v else tmps.getD t undef:=by
 by_cases h:t=d
 .subst h;simp [Array.getD,a]
 .rw [if_neg h];simp only [Array.getD_eq_getD_getElem?,Array.getElem?_setIfInBounds_ne (Ne.symm h)]
theorem aa7 (R:Rel F n β s a.tmps w) {D:Nat->Prop} (f:OptIn D s.σ) {dst:Option Tmp} (o:∀ d,dst=some d->d<n/\¬ D d) {w':World} {β':Nm} {u:Obs U} (A:After F w β s.h w' β' (upds s.h u)) {p:PV U} {v:Value}
  (e:p.plain=true\/∃ gs q,p=.opt gs q/\q.plain=true/\∀ g∈gs,D g.1) (r:PRel w' β' (upds s.h u) s.σ p v):
  Rel F n β' ⟨putS s.σ dst p,upds s.h u⟩ (a.put dst v).tmps w'/\OptIn (λj=>D j\/dst=some j) (putS s.σ dst p):=by
 have b:∀ d,dst=some d->∀ q:PV U,(q.plain=true\/∃ gs q',q=.opt gs q'/\q'.plain=true/\∀ g∈gs,D g.1)->(q.plain=true\/∃ gs q',q=.opt gs q'/\q'.plain=true/\∀ g∈gs,g.1≠d):=by
  intro d i q k;rcases k with k|⟨gs,q',h1,h2,h3⟩
  .exact .inl k
  .exact .inr ⟨gs,q',h1,h2,λg hg x=>(o d i).2 (by rw [<-x];exact h3 g hg)⟩
 cases dst with
 |none=>refine ⟨⟨A.toOk,R.sz,λt q hl=>A.ext.p (R.tmp t q hl)⟩,λt gs q hl=>?_⟩;obtain ⟨h1,h2⟩:=f t gs q hl;exact ⟨h1,λg hg=>.inl (h2 g hg)⟩
 |some d=>
  obtain ⟨l,y⟩:=o d rfl;have m:d<a.tmps.size:=by rw [R.sz];exact l
  refine ⟨⟨A.toOk,by simp [Act.put,R.sz],λt q hl=>?_⟩,λt gs q hl=>?_⟩
  .simp only [Act.put];rw [bR8 _ _ _ _ m];simp only [putS] at hl |-;rw [A5] at hl;split at hl
   .rename_i c;simp only [cn4] at hl;subst hl;rw [if_pos c];exact r.write (b d rfl p e)
   .rename_i c;rw [if_neg c];exact (A.ext.p (R.tmp t q hl)).write (b d rfl q (f.cases hl))
  .simp only [putS] at hl;rw [A5] at hl;split at hl
   .simp only [cn4] at hl;subst hl;rcases e with e|⟨gs',q',h1,h2,h3⟩
    .simp [PV.plain] at e
    .simp only [PV.opt.injEq] at h1;obtain ⟨rfl,rfl⟩:=h1;exact ⟨h2,λg hg=>.inl (h3 g hg)⟩
   .obtain ⟨h1,h2⟩:=f t gs q hl;exact ⟨h1,λg hg=>.inl (h2 g hg)⟩
theorem bu5 (R:Rel F n β s a.tmps w) {ops:Array Oper} {i j:Nat} {want:Bool} (hg:o.guard=some (i,want)) (r:T6 ops.toList i=some j) {b:Bool} (f:M9 s.σ j=some b):
  Region.wanted o (yielded ops a.tmps)=true<->CondG s.σ (H6 s.σ j++[(j,want)]):=by
 have d:(ops[i]?).bind (·.dst)=some j:=by
  unfold T6 at r
  rwa [Array.getElem?_toList] at r
 have l:∀ c:Bool,a.tmps.getD j undef=.bool c->(Region.wanted o (yielded ops a.tmps)=true<->c=want):=by
  intro c hc;have:a.tmps[j]? =some (.bool c):=by
   rw [Array.getD_eq_getD_getElem?] at hc;cases p:a.tmps[j]? with
   |none=>rw [p] at hc;simp [undef] at hc
   |some v=>rw [p] at hc;simp at hc;rw [hc]
  simp [Region.wanted,hg,yielded,d,this]
 have q:a.tmps.getD j undef=undef->Region.wanted o (yielded ops a.tmps)=false:=by
  intro hc;have:∀ c:Bool,a.tmps[j]? ≠some (.bool c):=by intro c p;rw [Array.getD_eq_getD_getElem?,p] at hc;simp [undef] at hc
  simp only [Region.wanted,hg,yielded,d,Option.bind_some];cases p:a.tmps[j]? with
  |none=>simp
  |some v=>
   cases v with
   |bool c=>exact absurd p (this c)
   |_=>simp
 have e:∀ gs:List (Nat×Bool),CondG s.σ (gs++[(j,want)])<->CondG s.σ gs/\b=want:=by
  intro gs;constructor
  .intro hc;refine ⟨λg h=>hc g (by simp [h]),?_⟩;have:=hc (j,want) (by simp);simp only [f,cn4] at this;exact this
  .rintro ⟨h1,h2⟩;refine h1.append (λg h=>?_);simp only [co5] at h;subst h;simp only [f,h2]
 unfold M9 at f;split at f
 .rename_i c hl;simp only [cn4] at f;subst f;have:=(R.tmp j _ hl).bool;rw [l _ this,e];have m:H6 s.σ j=[]:=by simp [H6,hl]
  rw [m];simp [CondG]
 .rename_i gs c hl;simp only [cn4] at f;subst f;have hr:=R.tmp j _ hl;have m:H6 s.σ j=gs:=by simp [H6,hl]
  rw [m,e];by_cases k:CondG s.σ gs
  .rw [l _ (hr.1 k).bool];simp [k]
  .rw [q (hr.2 k)];simp [k]
 .cases f
def Alt.has (x:Wr U):Alt U->Prop
 | .one y=>x=y
 | .two y z=>x=y\/x=z
theorem bF3 {σ:List (Nat×PV U)} {path:List (Nat×Bool)} (h:CondG σ path):allG σ path=true:=by unfold allG;rw [cq4];intro g hg;rw [h g hg];simp
theorem bR9 {path:List (Nat×Bool)} (R:Rel F n β s a.tmps w) (x:Operand):a.eval x=undef\/PRel w β s.h s.σ (H5 path (ev s.σ x)) (a.eval x):=by
 have hr:=S4 R x;cases b:ev s.σ x with
 |opt gs p=>
  rw [b] at hr;by_cases hc:CondG s.σ gs
  .right;simp only [H5];split
   .exact hr.1 hc
   .trivial
  .exact .inl (hr.2 hc)
 |un=>right;trivial
 |one c=>right;rw [b] at hr;exact hr
 |agg cs=>right;rw [b] at hr;exact hr
 |tup vs=>right;rw [b] at hr;exact hr
theorem aY5 {Y:Fr} (y:E.Sound Y) (R:Rel F n β s a.tmps w) {path:List (Nat×Bool)} (z:path≠[]) {v:Val U} (h:aj5 E s o path=some v):ac0 E.P w a o:=by
 have j:∀ {path:List (Nat×Bool)},ad0 E s o path=some v->ac0 E.P w a o:=by
  intro path h;unfold ad0 at h;dsimp only at h;split at h
  .rename_i e' B;exact I4 λc hc=>by
    cases d:c.callee with
    |builtin b=>exact ⟨b,rfl⟩
    |value x=>simp [act,hc,d] at B
    |invoke x m=>simp [act,hc,d] at B
  .cases h
 have t:∀ {c:Call} {x:Operand},o.op=.call c->c.callee=.value x->a.eval x=undef->ac0 E.P w a o:=by intro c x j d A f hf;simp [Oper.about,j,resolve,d,A,undef,Deferred.ofValue] at hf
 unfold aj5 at h;split at h
 .rename_i j;exact I4 λc hc=>by rw [j] at hc;cases hc
 .rename_i j;exact I4 λc hc=>by rw [j] at hc;cases hc
 .rename_i c l;split at h
  .rename_i x d;rcases bR9 (path:=path) R x with A|q
   .exact t l d A
   split at h
   .rename_i fs i p;rw [p] at q;obtain ⟨k,u⟩:=V9 h;obtain ⟨f,h1,h2⟩:=q.inv.2;obtain ⟨fn,h3,_⟩:=(y.tab fs i f k h1 u).1;intro f' e;simp only [Oper.about,l,resolve,d,h2,Deferred.ofValue,Sem.run_pure,Target.leads,cn4] at e;rw [<-e,h3];rfl
   .rename_i id p;rw [p] at q;obtain ⟨st,h1,h2⟩:=q.inv.2;obtain ⟨b,r,h3,_⟩:=R.obj id _ h1;intro f' e;simp [Oper.about,l,resolve,d,h2,h3,Deferred.ofValue,Target.leads] at e
   .rename_i f id p;rw [p] at q;obtain ⟨C,cs1,D,_,_,h1⟩:=q.inv.2;obtain ⟨k,u⟩:=V9 h;obtain ⟨fn,h3,_⟩:=(y.con f k (Z6 u)).1;intro f' e;simp only [Oper.about,l,resolve,d,h1,Deferred.ofValue,Sem.run_pure,Target.leads,cn4] at e;rw [<-e,h3];rfl
   .split at h
    .rename_i f ids hf;obtain ⟨bs,h1,_⟩:=ar3 hf q;obtain ⟨k,u⟩:=V9 h;obtain ⟨fn,h3,_⟩:=(y.con f k (Z6 u)).1;intro f' e;simp only [Oper.about,l,resolve,d,h1,Deferred.ofValue,Sem.run_pure,Target.leads,cn4] at e;rw [<-e,h3];rfl
    .cases h
  .split at h
   .rename_i p;cases path with
    |nil=>exact absurd rfl z
    |cons g r=>cases p
   .cases h
  .exact j h
 .exact j h
theorem cb5 {Y:Fr} {ro:Option Nat} (hE:E.Fits) (V:E.Sound Y) (hY:O0 Y F E.yl) (S:F.G=E.G) {ops:Array Oper} (R:Rel F n β s a.tmps w) {D:Nat->Prop} (T:OptIn D s.σ) {alt:Alt U} (hs:aq6 E ops.toList o s=some alt) {x:Wr U} (C:alt.has x) (J:∀ p,x.fact=some p->p) (H:holds x.obl)
  (W:∀ d,o.dst=some d->d<n/\¬ D d) (hg:∀ i want j,o.guard=some (i,want)->T6 ops.toList i=some j->D j) {K:Act->World->Prop} {Q:Exit->Act->World->Prop}
  (X:∀ β' a' w',(∀ b,x.pan=some b->b.1=false)->Rel F n β' (s.app x) a'.tmps w'->OptIn (λj=>D j\/o.dst=some j) (s.app x).σ->a'.defers=a.defers->K a' w')
  (hP:∀ b,x.pan=some b->b.1=true->∀ u w',an7 b.2 u->Below F.B w w'->(∀ blk,blk<w.heap.size->(∀ id∈keys x.upd++x.lost,∀ o,look id s.h=some o->o.live=true->¬ Has (β id) blk)->w'.heap[blk]? =w.heap[blk]?)->Q (.panic [{ v:=u,recovered:=false }]) a w'):
  if Region.wanted o (yielded ops a.tmps) then o.wpIn (fen E.P ro) 0 E.P a w K Q else ac0 E.P w a o/\K (a.put o.dst undef) w:=by
 have t:∀ v,(a.put o.dst v).defers=a.defers:=by intro v;cases o.dst<;>rfl
 unfold aq6 at hs;split at hs
 .rename_i hgn;split at hs
  .rename_i v L;simp only [cn4] at hs;subst hs;have C:x=_:=C;subst C;rw [if_pos (by simp [Region.wanted,hgn])];refine bF2 hE V hY S R (path:=[]) (λg hg=>by simp at hg) L H (λy v' w' β' A p=>?_) hP;obtain ⟨h1,h2⟩:=aa7 R T W A (.inl (aY3 L)) p;exact X β' _ w' y h1 h2 (t v')
  .cases hs
 .rename_i i want Z;split at hs
  case h_2=>cases hs
  rename_i j hj;split at hs
  case h_2=>cases hs
  rename_i b hb;split at hs
  case h_2=>cases hs
  rename_i v L;have hDj:=hg i want j Z hj;have hpl:=aY3 L;have I:=bu5 R Z hj hb;cases hu:(v.e.upd.all λx=>!(x.2.live)) with
  |true=>
   rw [hu] at hs;simp only [cond_true,cn4] at hs;subst hs;have C:x=_:=C;subst C;have hfz:Freezes s.h v.e.upd:=aR3 R.ok L (λx C=>by simpa using cq4.1 hu x C);have l:∀ g∈H6 s.σ j++[(j,want)],D g.1:=by
    intro g m;rcases cq1.1 m with h1|h1
    .unfold H6 at h1;split at h1
     .rename_i gs q hl;exact (T j gs q hl).2 g h1
     .simp at h1
    .simp only [co5] at h1;subst h1;exact hDj
   have k:(PV.opt (H6 s.σ j++[(j,want)]) v.e.val).plain=true\/∃ gs q,PV.opt (H6 s.σ j++[(j,want)]) v.e.val=.opt gs q/\q.plain=true/\∀ g∈gs,D g.1:=.inr ⟨_,_,rfl,hpl,l⟩;by_cases N:Region.wanted o (yielded ops a.tmps)=true
   .have c:=I.1 N;have z:=bF3 c;rw [if_pos N];have hob':v.e.Obl:=by
     unfold Eff.Obl;have H:holds (v.e.obl.map (hyps s.σ (H6 s.σ j++[(j,want)]))):=H;cases hvo:v.e.obl with
     |none=>trivial
     |some pp=>rw [hvo] at H;exact aY2 H c
    refine bF2 hE V hY S R c L hob' (λy v' w' β' A pr=>?_) (λb' r h1=>?_)
    .obtain ⟨h1,h2⟩:=aa7 R T W (u:=v.e.upd) A k (⟨λ_=>pr,λhn=>absurd c hn⟩:PRel w' β' (upds s.h v.e.upd) s.σ (.opt (H6 s.σ j++[(j,want)]) v.e.val) v');refine X β' _ w' (λb' r=>?_) h1 h2 (t v');simp only [co1] at r;obtain ⟨b2,hb2,rfl⟩:=r;simp only [z,Bool.true_and];exact y b2 hb2
    .exact hP (allG s.σ (H6 s.σ j++[(j,want)])&&b'.1,b'.2) (by dsimp only;rw [r];rfl) (by simp only [z,Bool.true_and];exact h1)
   .have f:¬ CondG s.σ (H6 s.σ j++[(j,want)]):=λhc=>N (I.2 hc);rw [if_neg N];obtain ⟨h1,h2⟩:=aa7 R T W (u:=v.e.upd) (H8 R.ok hfz) k (⟨λhc=>absurd hc f,λ_=>rfl⟩:PRel w β (upds s.h v.e.upd) s.σ (.opt (H6 s.σ j++[(j,want)]) v.e.val) undef);refine ⟨aY5 V R (by simp) L,X β _ w (λb' r=>?_) h1 h2 (t undef)⟩;simp only [co1] at r;obtain ⟨b2,hb2,rfl⟩:=r;have:allG s.σ (H6 s.σ j++[(j,want)])=false:=by
     cases z:allG s.σ (H6 s.σ j++[(j,want)]) with
     |false=>rfl
     |true=>
      exfalso;apply f;intro g m;unfold allG at z;have:=cq4.1 z g m;cases hbb:M9 s.σ g.1 with
      |none=>rw [hbb] at this;simp at this
      |some bb=>rw [hbb] at this;simp at this;rw [this]
    simp [this]
  |false=>
   rw [hu] at hs;simp only [cond_false] at hs;split at hs
   case h_2=>cases hs
   rename_i hpa;rw [hpa] at L I;simp only [List.nil_append] at L I;simp only [cn4] at hs;subst hs;have O:CondG s.σ [(j,want)]<->b=want:=by
    constructor
    .intro hc;have:=hc (j,want) (by simp);rw [hb] at this;simpa using this
    .intro h1 g m;simp only [co5] at m;subst m;rw [hb,h1]
   have l:∀ g∈[(j,want)],D g.1:=by intro g m;simp only [co5] at m;subst m;exact hDj
   have k:(PV.opt [(j,want)] v.e.val).plain=true\/∃ gs q,PV.opt [(j,want)] v.e.val=.opt gs q/\q.plain=true/\∀ g∈gs,D g.1:=.inr ⟨_,_,rfl,hpl,l⟩;rcases C with C|C
   .subst C;have M:b=want:=J _ rfl;have c:=O.2 M;rw [if_pos (I.2 c)];refine bF2 hE V hY S R c L H (λy v' w' β' A pr=>?_) hP;obtain ⟨h1,h2⟩:=aa7 R T W (u:=v.e.upd) A k (⟨λ_=>pr,λhn=>absurd c hn⟩:PRel w' β' (upds s.h v.e.upd) s.σ (.opt [(j,want)] v.e.val) v');exact X β' _ w' y h1 h2 (t v')
   .subst C;have M:b=!want:=J _ rfl;have f:¬ CondG s.σ [(j,want)]:=λhc=>by
     have:=O.1 hc;rw [this] at M;cases want<;>simp at M
    have N:¬ Region.wanted o (yielded ops a.tmps)=true:=λN=>f (I.1 N);rw [if_neg N];obtain ⟨h1,h2⟩:=aa7 R T W (u:=[]) (R.after) k (⟨λhc=>absurd hc f,λ_=>rfl⟩:PRel w β (upds s.h []) s.σ (.opt [(j,want)] v.e.val) undef);exact ⟨aY5 V R (by simp) L,X β _ w (λb' r=>by cases r) h1 h2 (t undef)⟩
end
end Go.VT
end
section
namespace Go.VT
noncomputable section
open Go.RowKit
variable {U:Univ} {E:Env U} {F:Fr} {n:Nat} {β:Nm} {s s2:St U} {a:Act} {w:World} {o:Oper} {e:Eff U} {h:Obs U}
def Same (s s2:St U):Prop:=(∀ t,look t s.σ=look t s2.σ)/\∀ id,look id s.h=look id s2.h
theorem PRel.sames {h:Obs U} {σ σ2:List (Nat×PV U)} (hs:∀ j,M9 σ j=M9 σ2 j) {p:PV U} {v:Value} (r:PRel w β h σ p v):PRel w β h σ2 p v:=by
 induction p with
 |un=>trivial
 |one c=>exact r
 |agg cs=>exact r
 |tup xs=>exact r
 |opt gs p ih=>have a:CondG σ gs<->CondG σ2 gs:=⟨λhc g hg=>by rw [<-hs];exact hc g hg,λhc g hg=>by rw [hs];exact hc g hg⟩;exact ⟨λhc=>ih (r.1 (a.2 hc)),λhc=>r.2 (λb=>hc (a.1 b))⟩
theorem Ext.same {h h2:Obs U} (hs:∀ id,look id h=look id h2):Ext w β h w β h2:=by refine ⟨Nat.le_refl _,λ_ _ _=>rfl,λb _ c=>?_,rfl,λid e cs hl=>⟨rfl,cs,by rw [<-hs];exact hl⟩,λid e t l ver lv hl=>⟨l,ver,lv,by rw [<-hs];exact hl,Nat.le_refl _,λ_=>⟨rfl,rfl⟩⟩,λid o hl d=>⟨rfl,rfl,o,by rw [<-hs];exact hl,Ob.like_refl d⟩,λid D hl=>⟨D,by rw [<-hs];exact hl,λ_ _ h=>h⟩⟩;obtain ⟨id,o,h1,a,h3⟩:=c;exact ⟨id,o,by rw [hs];exact h1,a,h3⟩
theorem Rel.same (hs:Same s s2) {tmps:Array Value} (R:Rel F n β s tmps w):Rel F n β s2 tmps w:=by
 have x:Ext w β s.h w β s2.h:=Ext.same hs.2;have a:∀ j,M9 s.σ j=M9 s2.σ j:=λj=>by unfold M9;rw [hs.1]
 exact ⟨⟨R.bel,R.hB,λid o hl=>x.o rfl rfl (λ_ _=>rfl) (R.obj id o (by rw [hs.2];exact hl)),λid o id' o' b h1 h2=>R.dis id o id' o' b (by rw [hs.2];exact h1) (by rw [hs.2];exact h2),R.frm,
  λid o b h1=>R.own id o b (by rw [hs.2];exact h1),λid o b h1=>R.Mo id o b (by rw [hs.2];exact h1),R.Mlt,R.Meq,λid o v h1 h2=>R.fix id o v (by rw [hs.2];exact h1) h2,R.nmg,R.glo⟩,R.sz,λt p hl=>(x.p (R.tmp t p (by rw [hs.1];exact hl))).sames a⟩
theorem OptIn.same {D:Nat->Prop} (hs:Same s s2) (a:OptIn D s.σ):OptIn D s2.σ:=λt gs p hl=>a t gs p (by rw [hs.1];exact hl)
theorem OptIn.mono {D D':Nat->Prop} (b:∀ j,D j->D' j) {σ:List (Nat×PV U)} (a:OptIn D σ):OptIn D' σ:=λt gs p hl=>⟨(a t gs p hl).1,λg hg=>b _ ((a t gs p hl).2 g hg)⟩
def stS (S:Nat->Bool):List (Wr U)->Nat->St U->St U
 |[],_,s=>s
 |x::r,i,s=>stS S r (i+1) (if S i=true then s.app x else s)
theorem ah0 (x:Wr U) (t:Nat):look t (s.app x).σ=if x.dst=some t then some x.val else look t s.σ:=by
 unfold St.app putS;cases a:x.dst with
 |none=>simp
 |some d=>
  simp only [A5,cn4];by_cases h:t=d
  .subst h;simp
  .simp [h,Ne.symm h]
theorem au4 {id:Nat}:∀ {u h h2:Obs U},id∈keys u->look id (upds h u)=look id (upds h2 u)
 |[],_,_,a=>by simp [keys] at a
 |(j,oj)::u,h,h2,a=>by
  by_cases b:id∈keys u
  .exact au4 (u:=u) b
  .have c:id=j:=by
    simp only [keys,List.map_cons,List.mem_cons] at a;rcases a with a|a
    .exact a
    .exact absurd a b
   have d:∀ o,(id,o)∉u:=λo e=>b (by simp only [keys,List.mem_map];exact ⟨_,e,rfl⟩);show look id (upds (write j oj h) u)=look id (upds (write j oj h2) u);rw [B6 d,B6 d,A5,A5,if_pos c,if_pos c]
theorem aC9 (x:Wr U) (id:Nat) (a:id∉keys x.upd):look id (s.app x).h=look id s.h:=by unfold St.app;exact B6 (λo b=>a (by simp only [keys,List.mem_map];exact ⟨_,b,rfl⟩))
theorem au5 (x:Wr U) (id:Nat) (a:id∈keys x.upd):look id (s.app x).h=look id (s2.app x).h:=au4 a
theorem c1s {t:Nat} {S S':Nat->Bool}:∀ {xs:List (Wr U)} {i:Nat} {s s2:St U},look t s.σ=look t s2.σ->(∀ j x,xs[j]? =some x->x.dst=some t->S (i+j)=S' (i+j))->look t (stS S xs i s).σ=look t (stS S' xs i s2).σ
 |[],_,_,_,h,_=>h
 |x::r,i,s,s2,h,c=>by
  refine c1s (xs:=r) ?_ (λj y d a=>by have:=c (j+1) y (by simpa using d) a;rwa [Nat.add_assoc,Nat.add_comm 1 j]);by_cases a:x.dst=some t
  .have:=c 0 x rfl a;rw [Nat.add_zero] at this;rw [this];split
   .rw [ah0,ah0,if_pos a,if_pos a]
   .exact h
  .have:∀ (b:Bool) (z:St U),look t (if b=true then z.app x else z).σ=look t z.σ:=by
    intro b z;split
    .rw [ah0,if_neg a]
    .rfl
   rw [this,this];exact h
theorem c1h {t:Nat} {S S':Nat->Bool}:∀ {xs:List (Wr U)} {i:Nat} {s s2:St U},look t s.h=look t s2.h->(∀ j x,xs[j]? =some x->t∈keys x.upd->S (i+j)=S' (i+j))->look t (stS S xs i s).h=look t (stS S' xs i s2).h
 |[],_,_,_,h,_=>h
 |x::r,i,s,s2,h,c=>by
  refine c1h (xs:=r) ?_ (λj y d a=>by have:=c (j+1) y (by simpa using d) a;rwa [Nat.add_assoc,Nat.add_comm 1 j]);by_cases a:t∈keys x.upd
  .have:=c 0 x rfl a;rw [Nat.add_zero] at this;rw [this];split
   .exact au5 x t a
   .exact h
  .have:∀ (b:Bool) (z:St U),look t (if b=true then z.app x else z).h=look t z.h:=by
    intro b z;split
    .exact aC9 x t a
    .rfl
   rw [this,this];exact h
def J6 (S:Nat->Bool) (k:Nat):Nat->Bool:=λj=>S j||j==k
theorem W0:∀ {xs:List (Wr U)} {i:Nat} {s:St U},stS (λ_=>false) xs i s=s
 |[],_,_=>rfl
 |x::r,i,s=>by show stS (λ_=>false) r (i+1) (if false=true then s.app x else s)=s;rw [if_neg (by simp)];exact W0
theorem c2s {t:Nat} {S:Nat->Bool}:∀ {xs:List (Wr U)} {i k:Nat} {s:St U} {x:Wr U},xs[k]? =some x->S (i+k)=false->(∀ j y,xs[j]? =some y->k<j->S (i+j)=true->x.dst=some t->y.dst≠some t)->
  look t (stS (J6 S (i+k)) xs i s).σ=look t ((stS S xs i s).app x).σ
 |[],_,_,_,_,d,_,_=>by simp at d
 |y::r,i,0,s,x,d,e,f=>by
  simp only [co2,cn4] at d;subst d;have m:J6 S (i+0) i=true:=by simp [J6]
  have hs:S i=false:=e;show look t (stS (J6 S (i+0)) r (i+1) (if J6 S (i+0) i=true then s.app y else s)).σ=look t ((stS S r (i+1) (if S i=true then s.app y else s)).app y).σ;rw [if_pos m,if_neg (by simp [hs]),ah0];have a:∀ j,J6 S (i+0) (i+1+j)=S (i+1+j):=by
   intro j;have:(i+1+j==i+0)=false:=by simp;omega
   unfold J6;rw [this,Bool.or_false]
  by_cases b:y.dst=some t
  .rw [if_pos b,c1s (S':=λ_=>false) (s2:=s.app y) rfl (λj z g h=>?_),W0,ah0,if_pos b];rw [a];cases c:S (i+1+j) with
   |false=>rfl
   |true=>exact absurd h (f (j+1) z (by simpa using g) (by omega) (by rw [<-c];congr 1;omega) b)
  .rw [if_neg b];exact c1s (by rw [ah0,if_neg b]) (λj z _ _=>a j)
 |y::r,i,k+1,s,x,d,e,f=>by
  have l:J6 S (i+(k+1)) i=S i:=by
   have:(i==i+(k+1))=false:=by simp
   simp [J6,this]
  show look t (stS (J6 S (i+(k+1))) r (i+1) (if J6 S (i+(k+1)) i=true then s.app y else s)).σ=look t ((stS S r (i+1) (if S i=true then s.app y else s)).app x).σ;rw [l,show i+(k+1)=(i+1)+k by omega];exact c2s (xs:=r) (by simpa using d) (by rw [<-e];congr 1;omega) (λj z g n c b=>f (j+1) z (by simpa using g) (by omega) (by rw [<-c];congr 1;omega) b)
theorem c2h {t:Nat} {S:Nat->Bool}:∀ {xs:List (Wr U)} {i k:Nat} {s:St U} {x:Wr U},xs[k]? =some x->S (i+k)=false->(∀ j y,xs[j]? =some y->k<j->S (i+j)=true->t∈keys x.upd->t∉keys y.upd)->
  look t (stS (J6 S (i+k)) xs i s).h=look t ((stS S xs i s).app x).h
 |[],_,_,_,_,c,_,_=>by simp at c
 |y::r,i,0,s,x,c,e,f=>by
  simp only [co2,cn4] at c;subst c;have m:J6 S (i+0) i=true:=by simp [J6]
  have hs:S i=false:=e;show look t (stS (J6 S (i+0)) r (i+1) (if J6 S (i+0) i=true then s.app y else s)).h=look t ((stS S r (i+1) (if S i=true then s.app y else s)).app y).h;rw [if_pos m,if_neg (by simp [hs])];have a:∀ j,J6 S (i+0) (i+1+j)=S (i+1+j):=by
   intro j;have:(i+1+j==i+0)=false:=by simp;omega
   unfold J6;rw [this,Bool.or_false]
  by_cases d:t∈keys y.upd
  .rw [c1h (S':=λ_=>false) (s2:=s.app y) rfl (λj z g h=>?_),W0]
   .exact au5 y t d
   .rw [a];cases b:S (i+1+j) with
    |false=>rfl
    |true=>exact absurd h (f (j+1) z (by simpa using g) (by omega) (by rw [<-b];congr 1;omega) d)
  .rw [aC9 y t d];exact c1h (aC9 y t d) (λj z _ _=>a j)
 |y::r,i,k+1,s,x,c,e,f=>by
  have l:J6 S (i+(k+1)) i=S i:=by
   have:(i==i+(k+1))=false:=by simp
   simp [J6,this]
  show look t (stS (J6 S (i+(k+1))) r (i+1) (if J6 S (i+(k+1)) i=true then s.app y else s)).h=look t ((stS S r (i+1) (if S i=true then s.app y else s)).app x).h;rw [l,show i+(k+1)=(i+1)+k by omega];exact c2h (xs:=r) (by simpa using c) (by rw [<-e];congr 1;omega) (λj z g n b d=>f (j+1) z (by simpa using g) (by omega) (by rw [<-b];congr 1;omega) d)
theorem aR4:∀ {xs:List (Wr U)} {i k:Nat} {s:St U},(xs.take k).foldl St.app s=stS (λj=>decide (j<i+k)) xs i s
 |[],_,_,_=>by simp [stS]
 |x::r,i,0,s=>by
  have:∀ (r:List (Wr U)) (i':Nat) (s:St U),i<=i'->stS (λj=>decide (j<i+0)) r i' s=s:=by
   intro r
   induction r with
   |nil=>intro i' s _;rfl
   |cons y r ih=>intro i' s a;show stS _ r (i'+1) (if decide (i'<i+0)=true then s.app y else s)=s;rw [if_neg (by simp;omega)];exact ih _ _ (by omega)
  rw [this _ _ _ (Nat.le_refl _)];rfl
 |x::r,i,k+1,s=>by show (r.take k).foldl St.app (s.app x)=stS _ r (i+1) (if decide (i<i+(k+1))=true then s.app x else s);rw [if_pos (by simp),aR4 (xs:=r) (i:=i+1)];congr 1;funext j;congr 1;apply propext;omega
def StepIs (E:Env U) (ops:List Oper) (o:Oper) (s:St U) (x:Wr U):Prop:=∃ alt,aq6 E ops o s=some alt/\alt.has x
def Wr.holds (x:Wr U):Prop:=∀ p,x.fact=some p->p
theorem bF4 {ops:List Oper} {x:Wr U} (hs:aq6 E ops o s=some (.one x)):x.fact=none:=by
 unfold aq6 at hs;split at hs
 .split at hs
  .simp only [cn4,Alt.one.injEq] at hs;rw [<-hs]
  .cases hs
 .split at hs
  .split at hs
   .split at hs
    .simp only [co7] at hs;split at hs
     .simp only [cn4,Alt.one.injEq] at hs;rw [<-hs]
     .split at hs
      .simp at hs
      .cases hs
    .cases hs
   .cases hs
  .cases hs
theorem bF5 {ops:List Oper} {x y:Wr U} (hs:aq6 E ops o s=some (.two x y)):∃ b want:Bool,x.fact=some (b=want)/\y.fact=some (b=!want):=by
 unfold aq6 at hs;split at hs
 .split at hs
  .simp at hs
  .cases hs
 .split at hs
  .split at hs
   .split at hs
    .simp only [co7] at hs;split at hs
     .simp at hs
     .split at hs
      .simp only [cn4,Alt.two.injEq] at hs;obtain ⟨rfl,rfl⟩:=hs;exact ⟨_,_,rfl,rfl⟩
      .cases hs
    .cases hs
   .cases hs
  .cases hs
theorem ao4 {x:Wr U}:∀ {l:List (List (Wr U)×St U)} {xs:List (Wr U)} {s':St U},(xs,s')∈l->(x::xs,s')∈bf1 x l
 |[],_,_,h=>by simp at h
 |(ys,t)::r,xs,s',h=>by
  rcases List.mem_cons.1 h with h1|h1
  .simp only [co6] at h1;obtain ⟨rfl,rfl⟩:=h1;simp [bf1]
  .simp [bf1,ao4 h1]
theorem aD0 {f:List (Wr U)->St U->Prop}:∀ {l:List (List (Wr U)×St U)},bQ4 f l->∀ {xs:List (Wr U)} {s':St U},(xs,s')∈l->f xs s'
 |[],_,_,_,h=>by simp at h
 |[(ys,t)],hl,xs,s',h=>by simp only [co5,co6] at h;obtain ⟨rfl,rfl⟩:=h;exact hl
 |(ys,t)::y::r,hl,xs,s',h=>by
  rcases List.mem_cons.1 h with h1|h1
  .simp only [co6] at h1;obtain ⟨rfl,rfl⟩:=h1;exact hl.1
  .exact aD0 (l:=y::r) hl.2 h1
structure Path (E:Env U) (ops os:List Oper) (s:St U) (xs:List (Wr U)) (s':St U):Prop where
 len:xs.length=os.length
 fin:s'=xs.foldl St.app s
 step:∀ (k:Nat) (o:Oper),os[k]? =some o->∃ x,xs[k]? =some x/\StepIs E ops o ((xs.take k).foldl St.app s) x
 fact:∀ x∈xs,x.holds
theorem Path.cons {ops r:List Oper} {xs:List (Wr U)} {s':St U} {x:Wr U} (c:StepIs E ops o s x) (hf:x.holds) (h:Path E ops r (s.app x) xs s'):Path E ops (o::r) s (x::xs) s':=by
 refine ⟨by simp [h.len],by rw [h.fin];rfl,λk o' a=>?_,λy b=>?_⟩
 .match k,a with
  |0,a=>simp only [co2,cn4] at a;subst a;exact ⟨x,rfl,c⟩
  |k+1,a=>obtain ⟨y,b,hs⟩:=h.step k o' (by simpa using a);exact ⟨y,by simpa using b,by simpa using hs⟩
 .rcases List.mem_cons.1 b with h1|h1
  .subst h1;exact hf
  .exact h.fact y h1
theorem U1 {ops:List Oper}:∀ {r:List Oper} {s:St U} {ls:List (List (Wr U)×St U)},at7 E ops r s=some ls->∃ xs s',(xs,s')∈ls/\Path E ops r s xs s'
 |[],s,ls,hr=>by simp only [at7,cn4] at hr;subst hr;exact ⟨[],s,by simp,rfl,rfl,by simp,by simp⟩
 |o::r,s,ls,hr=>by
  simp only [at7] at hr;split at hr
  .rename_i x c;split at hr
   .rename_i l hl;simp only [cn4] at hr;subst hr;obtain ⟨xs,s',h1,h2⟩:=U1 hl;refine ⟨x::xs,s',ao4 h1,h2.cons ⟨_,c,rfl⟩ (λp a=>?_)⟩;rw [bF4 c] at a;cases a
   .cases hr
  .rename_i x y c;split at hr
   .rename_i l hl;split at hr
    .rename_i l' d;simp only [cn4] at hr;subst hr;obtain ⟨b,want,e,f⟩:=bF5 c;by_cases g:b=want
     .obtain ⟨xs,s',h1,h2⟩:=U1 hl;refine ⟨x::xs,s',cq1.2 (.inl (ao4 h1)),h2.cons ⟨_,c,.inl rfl⟩ (λp a=>?_)⟩;rw [e] at a;simp only [cn4] at a;rw [<-a];exact g
     .obtain ⟨xs,s',h1,h2⟩:=U1 d;refine ⟨y::xs,s',cq1.2 (.inr (ao4 h1)),h2.cons ⟨_,c,.inr rfl⟩ (λp a=>?_)⟩;rw [f] at a;simp only [cn4] at a;rw [<-a];revert g;cases b<;>cases want<;>simp
    .cases hr
   .cases hr
  .cases hr
theorem aK9 {x:Operand} {t:Nat}:∀ {l:List Operand},x=.tmp t->x∈l->t∈Y1 l
 |[],_,h=>by simp at h
 |y::r,a,h=>by
  rcases List.mem_cons.1 h with h1|h1
  .subst h1;subst a;simp [Y1]
  .have:=aK9 (l:=r) a h1;cases y<;>simp [Y1,this]
theorem S9 {σ σ2:List (Nat×PV U)} {l:List Operand} (hl:∀ t∈Y1 l,look t σ=look t σ2) {x:Operand} (a:x∈l):ev σ x=ev σ2 x:=by
 cases x with
 |tmp t=>simp only [ev];rw [hl t (aK9 rfl a)]
 |const v=>rfl
 |global g=>rfl
 |func f=>rfl
theorem aD1 {h h2:Obs U}:∀ {ids:List Nat},(∀ id∈ids,look id h=look id h2)->sub h ids=sub h2 ids
 |[],_=>rfl
 |i::r,hl=>by simp only [sub];rw [hl i (by simp),aD1 (ids:=r) (λid a=>hl id (by simp [a]))]
theorem aL0 {h h2:Obs U} {l:List Nat} (hl:∀ id∈l,look id h=look id h2):az9 h l=az9 h2 l:=by
 unfold az9;rw [Bool.eq_iff_iff];simp only [cq4];constructor
 .intro b id a;rw [<-hl id a];exact b id a
 .intro b id a;rw [hl id a];exact b id a
theorem ak2 {path:List (Nat×Bool)} {v:Val U} (a:ad0 E s o path=some v) (f:∀ t∈Y1 (I3 o.op),look t s.σ=look t s2.σ) (e:∀ id∈v.ids,look id s.h=look id s2.h):ad0 E s2 o path=some v:=by
 unfold ad0 at a |-;have d:(I3 o.op).map (λx=>H5 path (ev s2.σ x))=(I3 o.op).map (λx=>H5 path (ev s.σ x)):=by apply List.map_congr_left;intro x g;rw [S9 f g]
 dsimp only at a |-;rw [d];split at a
 case h_2=>cases a
 rename_i e' i;simp only [co7] at a;split at a
 case isFalse=>cases a
 rename_i hc;simp only [cn4] at a;subst a;have c:sub s2.h (((I3 o.op).map (λx=>H5 path (ev s.σ x))).flatMap idsP)=sub s.h (((I3 o.op).map (λx=>H5 path (ev s.σ x))).flatMap idsP):=
  aD1 (λid b=>(e id (by simp only [cq1];exact .inl b)).symm)
 rw [c,i];rw [aL0 (h2:=s2.h) (λid b=>e id (by simp only [cq1];exact .inr (.inl b)))] at hc;simp [hc]
theorem ar4 {h:Obs U}:∀ {f:Nat} {todo seen:List Nat},∀ id∈seen,id∈aq5 h f todo seen
 |0,_,_,id,a=>by simpa [aq5] using a
 |f+1,[],_,id,a=>by simpa [aq5] using a
 |f+1,x::r,seen,id,a=>by
  unfold aq5;cases (seen.any (Nat.beq x)) with
  |true=>simpa using ar4 (f:=f) id a
  |false=>simpa using ar4 (f:=f) (seen:=x::seen) id (by simp [a])
theorem ak3 {h h2:Obs U}:∀ {f:Nat} {todo seen:List Nat},(∀ id∈aq5 h f todo seen,look id h=look id h2)->aq5 h2 f todo seen=aq5 h f todo seen
 |0,_,_,_=>rfl
 |f+1,[],_,_=>rfl
 |f+1,x::r,seen,hl=>by
  unfold aq5 at hl |-;cases hc:seen.any (Nat.beq x) with
  |true=>rw [hc] at hl;simp only [cond_true] at hl |-;exact ak3 (f:=f) hl
  |false=>
   rw [hc] at hl;simp only [cond_false] at hl |-;have b:look x h=look x h2:=hl x (ar4 x (by simp));have a:bo2 h2 x=bo2 h x:=by unfold bo2;rw [b]
   rw [a];exact ak3 (f:=f) hl
theorem O2 {vs:List (PV U)} {ks:List (Con U)} {v:Val U} (b:H2 E s o vs ks=some v) (e:∀ id∈v.ids,look id s.h=look id s2.h):H2 E s2 o vs ks=some v:=by
 unfold H2 at b |-;dsimp only at b |-;split at b
 case h_2=>cases b
 rename_i c d;simp only [co7] at b;split at b
 case isFalse=>cases b
 rename_i hc;simp only [cn4] at b;subst b;have f:∀ id∈aq5 s.h 64 (vs.flatMap idsP++ks.flatMap λk=>k.gh.map (·.2)) [],look id s.h=look id s2.h:=λid a=>e id (by simp only [cq1];exact .inl a);have hr:=ak3 f;rw [hr,aD1 (h:=s2.h) (h2:=s.h) (λid a=>(f id a).symm),d];rw [aL0 (h2:=s2.h) (λid a=>e id (by simp only [cq1];exact .inr (.inl a)))] at hc;simp [hc]
theorem aR5 (d:∀ c a b,o.op≠.pick c a b):aQ1 o.op=Y1 (I3 o.op):=by
 unfold aQ1;split
 .rename_i e;exact absurd e (d _ _ _)
 .rfl
theorem ak4 {path:List (Nat×Bool)} {v:Val U} (f:aj5 E s o path=some v) (i:∀ t∈aQ1 o.op,look t s.σ=look t s2.σ) (m:∀ id∈v.ids,look id s.h=look id s2.h):aj5 E s2 o path=some v:=by
 unfold aj5 at f |-;split at f
 .rename_i t x y e;rw [e] at i;have h1:=S9 (σ:=s.σ) (σ2:=s2.σ) i (x:=.tmp t) (by simp);have h2:=S9 (σ:=s.σ) (σ2:=s2.σ) i (x:=x) (by simp);have h3:=S9 (σ:=s.σ) (σ2:=s2.σ) i (x:=y) (by simp);rw [<-h1,<-h2,<-h3];exact f
 .rename_i x e;rw [e] at i;have h1:=S9 (σ:=s.σ) (σ2:=s2.σ) (l:=[x]) i (x:=x) (by simp);rw [<-h1];exact f
 .rename_i c e;split at f
  .rename_i x j;have k:I3 o.op=x::c.args.toList:=by rw [e];simp [I3,j]
   rw [aR5 (λa b d=>by rw [e];simp),k] at i;have n:=S9 (σ:=s.σ) (σ2:=s2.σ) i (x:=x) (by simp);have g:c.args.toList.map (λx=>H5 path (ev s2.σ x))=c.args.toList.map (λx=>H5 path (ev s.σ x)):=by apply List.map_congr_left;intro y p;rw [S9 (σ:=s.σ) (σ2:=s2.σ) i (x:=y) (by simp [p])]
   rw [<-n,g];split at f
   .exact O2 f m
   .exact O2 f m
   .exact O2 f m
   .split at f
    .exact O2 f m
    .cases f
  .rename_i x name j;have k:I3 o.op=x::c.args.toList:=by rw [e];simp [I3,j]
   rw [aR5 (λa b d=>by rw [e];simp),k] at i;have n:=S9 (σ:=s.σ) (σ2:=s2.σ) i (x:=x) (by simp);have g:c.args.toList.map (λx=>H5 path (ev s2.σ x))=c.args.toList.map (λx=>H5 path (ev s.σ x)):=by apply List.map_congr_left;intro y p;rw [S9 (σ:=s.σ) (σ2:=s2.σ) i (x:=y) (by simp [p])]
   rw [<-n,g];split at f
   .exact O2 f m
   .cases f
  .exact ak2 f (by rw [<-aR5 (λa b d=>by rw [e];simp)];exact i) m
 .rename_i q _ _;by_cases r:∃ a b c,o.op=.pick a b c
  .obtain ⟨a,b,c,e⟩:=r;cases a with
   |tmp t=>exact (q _ _ _ e).elim
   |_=>refine ak2 f ?_ m;rw [e];simp [I3,Y1]
  .exact ak2 f (by rw [<-aR5 (λa b d u=>r ⟨a,b,d,u⟩)];exact i) m
theorem W1 {σ σ2:List (Nat×PV U)} {j:Nat} (h:look j σ=look j σ2):M9 σ j=M9 σ2 j:=by unfold M9;rw [h]
theorem au6 {σ σ2:List (Nat×PV U)} {j:Nat} (h:look j σ=look j σ2):H6 σ j=H6 σ2 j:=by unfold H6;rw [h]
theorem aL1 {σ σ2:List (Nat×PV U)}:∀ {path:List (Nat×Bool)} {p:Prop},(∀ g∈path,look g.1 σ=look g.1 σ2)->hyps σ path p=hyps σ2 path p
 |[],_,_=>rfl
 |(j,wt)::r,p,h=>by simp only [hyps];rw [W1 (h (j,wt) (by simp)),aL1 (path:=r) (λg hg=>h g (by simp [hg]))]
theorem StepIs.dst {ops:List Oper} {x:Wr U} (hs:StepIs E ops o s x):x.dst=o.dst:=by
 obtain ⟨alt,hs,a⟩:=hs;unfold aq6 at hs;split at hs
 .split at hs
  .simp only [cn4] at hs;subst hs;have a:x=_:=a;rw [a]
  .cases hs
 .split at hs
  .split at hs
   .split at hs
    .simp only [co7] at hs;split at hs
     .simp only [cn4] at hs;subst hs;have a:x=_:=a;rw [a]
     .split at hs
      .simp only [cn4] at hs;subst hs;rcases a with a|a<;>rw [a]
      .cases hs
    .cases hs
   .cases hs
  .cases hs
theorem ar5 {path:List (Nat×Bool)} {v:Val U} (a:aj5 E s o path=some v):∀ id∈keys v.e.upd,id∈v.ids:=by
 have d:∀ {path:List (Nat×Bool)},ad0 E s o path=some v->∀ id∈keys v.e.upd,id∈v.ids:=by
  intro path a;unfold ad0 at a;dsimp only at a;split at a
  .simp only [co7] at a;split at a
   .simp only [cn4] at a;subst a;intro id c;simp only [cq1];exact .inr (.inr c)
   .cases a
  .cases a
 have b:∀ {vs:List (PV U)} {ks:List (Con U)},H2 E s o vs ks=some v->∀ id∈keys v.e.upd,id∈v.ids:=by
  intro vs ks a;unfold H2 at a;dsimp only at a;split at a
  .simp only [co7] at a;split at a
   .simp only [cn4] at a;subst a;intro id c;simp only [cq1];exact .inr (.inr c)
   .cases a
  .cases a
 unfold aj5 at a;split at a
 .split at a
  .split at a
   .simp only [cn4] at a;subst a;intro id c;simp [F5,keys] at c
   .cases a
  .cases a
 .split at a
  .simp only [co7] at a;split at a
   .simp only [cn4] at a;subst a;intro id c;simp [F5,keys] at c
   .cases a
  .cases a
 .split at a
  .split at a
   .exact b a
   .exact b a
   .exact b a
   .split at a
    .exact b a
    .cases a
  .split at a
   .exact b a
   .cases a
  .exact d a
 .exact d a
theorem StepIs.keys {ops:List Oper} {x:Wr U} (hs:StepIs E ops o s x):∀ id∈VT.keys x.upd,id∈x.ids:=by
 obtain ⟨alt,hs,a⟩:=hs;unfold aq6 at hs;split at hs
 .split at hs
  .rename_i v b;simp only [cn4] at hs;subst hs;have a:x=_:=a;rw [a];exact ar5 b
  .cases hs
 .split at hs
  .split at hs
   .split at hs
    .rename_i v b;simp only [co7] at hs;split at hs
     .simp only [cn4] at hs;subst hs;have a:x=_:=a;rw [a];exact ar5 b
     .split at hs
      .simp only [cn4] at hs;subst hs;rcases a with a|a<;>rw [a]
       .rename_i c;rw [c] at b;exact ar5 b
       .intro id d;simp [VT.keys] at d
      .cases hs
    .cases hs
   .cases hs
  .cases hs
theorem StepIs.guard {ops:List Oper} {x:Wr U} (hs:StepIs E ops o s x) {i:Nat} {want:Bool} {j:Nat} (hg:o.guard=some (i,want)) (b:T6 ops i=some j):j∈x.rds:=by
 obtain ⟨alt,hs,a⟩:=hs;unfold aq6 at hs;rw [hg] at hs;simp only [b] at hs;split at hs
 .split at hs
  .simp only [co7] at hs;split at hs
   .simp only [cn4] at hs;subst hs;have a:x=_:=a;rw [a];simp
   .split at hs
    .simp only [cn4] at hs;subst hs;rcases a with a|a<;>rw [a]<;>simp
    .cases hs
  .cases hs
 .cases hs
theorem bu6 {σ σ2:List (Nat×PV U)} {path:List (Nat×Bool)} (h:∀ g∈path,look g.1 σ=look g.1 σ2):allG σ path=allG σ2 path:=by
 unfold allG
 induction path with
 |nil=>rfl
 |cons g r ih=>simp only [List.all_cons];rw [W1 (h g (by simp)),ih (λg hg=>h g (by simp [hg]))]
theorem StepIs.congr {ops:List Oper} {x:Wr U} (hs:StepIs E ops o s x) (l:∀ t∈x.rds,look t s.σ=look t s2.σ) (p:∀ id∈x.ids,look id s.h=look id s2.h):StepIs E ops o s2 x:=by
 obtain ⟨alt,hs,a⟩:=hs;refine ⟨alt,?_,a⟩;unfold aq6 at hs |-;split at hs
 .split at hs
  .rename_i v m;simp only [cn4] at hs;subst hs;have a:x=_:=a;subst a;have:=ak4 (s2:=s2) m l p;simp only [this]
  .cases hs
 .rename_i i want B;split at hs
  case h_2=>cases hs
  rename_i j y;split at hs
  case h_2=>cases hs
  rename_i b z;split at hs
  case h_2=>cases hs
  rename_i v m;simp only [co7] at hs |-;split at hs
  .rename_i r;simp only [cn4] at hs;subst hs;have a:x=_:=a;subst a;have c:look j s.σ=look j s2.σ:=l j (by simp);have A:∀ g∈H6 s.σ j++[(j,want)],look g.1 s.σ=look g.1 s2.σ:=by
    intro g hg;rcases cq1.1 hg with h1|h1
    .exact l g.1 (by
      simp only [cq1,List.mem_cons];exact .inl (.inr (List.mem_map.2 ⟨g,h1,rfl⟩)))
    .simp only [co5] at h1;subst h1;exact c
   have e:=ak4 (s2:=s2) m (λt f=>l t (by simp [f])) p;have k:=au6 c;have u:∀ q:Prop,hyps s.σ (H6 s.σ j++[(j,want)]) q=hyps s2.σ (H6 s.σ j++[(j,want)]) q:=λq=>aL1 A;simp only [y,<-W1 c,z,<-k,e,r,if_true];rw [<-bu6 A,show hyps s2.σ (H6 s.σ j++[(j,want)])=hyps s.σ (H6 s.σ j++[(j,want)]) from funext λq=>(u q).symm]
  .rename_i r;split at hs
   case h_2=>cases hs
   rename_i k;simp only [cn4] at hs;subst hs;have n:∀ t∈j::aQ1 o.op,look t s.σ=look t s2.σ:=by rcases a with a|a<;>(subst a;exact l)
   have w:∀ id∈v.ids,look id s.h=look id s2.h:=by rcases a with a|a<;>(subst a;exact p)
   have c:look j s.σ=look j s2.σ:=n j (by simp);have d:=au6 c;rw [k] at m d;have e:=ak4 (s2:=s2) m (λt f=>n t (by simp [f])) w;simp only [y,<-W1 c,z,<-d,e,r,if_false];rfl
end
end Go.VT
end
section
namespace Go.VT
noncomputable section
open Go.RowKit
variable {U:Univ} {E:Env U} {F:Fr} {n:Nat} {β:Nm} {s s':St U} {a:Act} {w:World} {o:Oper} {e:Eff U} {h:Obs U} {xs:List (Wr U)} {ops:Array Oper} {dr:Bool}
theorem aL2 {N:Nat}:∀ {r:List Oper} {ds:List (Option Tmp)},N7 N r ds=true->∀ k o,r[k]? =some o->aj7 N (ds++(r.take k).map (·.dst)) o.dst=true
 |[],_,_,k,o,a=>by simp at a
 |p::r,ds,h,k,o,a=>by
  simp only [N7,cn7] at h
  match k,a with
  |0,a=>simp only [co2,cn4] at a;subst a;simpa using h.1
  |k+1,a=>have:=aL2 h.2 k o (by simpa using a);simpa [cq0] using this
def cm8 (pos:Nat->Nat) (dr:Bool) (k:Nat) (o:Oper):Prop:=
 (∀ g want,o.guard=some (g,want)->pos g<pos k)/\(dr=true->∀ e∈o.after.toList,Region.binds .any e=true->pos e.on<pos k)
theorem aL3 {pos:Nat->Nat} {dr:Bool}:∀ {r:List Oper} {b:Nat},ahead pos dr r b=true->∀ k o,r[k]? =some o->cm8 pos dr (b+k) o
 |[],_,_,k,o,a=>by simp at a
 |p::r,b,h,k,o,a=>by
  simp only [ahead,cn7] at h
  match k,a with
  |0,a=>
   simp only [co2,cn4] at a;subst a;refine ⟨λg want hg=>?_,λc e d f=>?_⟩
   .have h1:=h.1.1;rw [hg] at h1;exact cp7 h1
   .have h2:=h.1.2;rw [c] at h2;simp only [Bool.not_true,Bool.false_or] at h2;have:=cq4.1 h2 e d;rw [f] at this;simp only [Bool.not_true,Bool.false_or] at this;exact cp7 this
  |k+1,a=>
   have:=aL3 h.2 k o (by simpa using a)
   rwa [Nat.add_assoc,Nat.add_comm 1 k] at this
theorem aD2 {k:Nat}:∀ {l:List Nat},ax0 k l<l.length->l[ax0 k l]? =some k
 |[],h=>by simp [ax0] at h
 |x::r,h=>by
  unfold ax0 at h |-;cases a:Nat.beq x k with
  |true=>have:=cn5 a;simp [this]
  |false=>rw [a] at h;simp only [cond_false,cp0] at h |-;simpa using aD2 (l:=r) (by omega)
theorem aY6 {n:Nat} {idx:List Nat}:∀ {r:List Nat} {p0:Nat},okAt n idx r p0=true->∀ (p k:Nat),r[p]? =some k->k<n/\ax0 k idx=p0+p
 |[],_,_,p,k,h=>by simp at h
 |x::r,p0,a,p,k,h=>by
  simp only [okAt,cn7] at a
  match p,h with
  |0,h=>simp only [co2,cn4] at h;subst h;exact ⟨cp7 a.1.1,cn5 a.1.2⟩
  |p+1,h=>have:=aY6 a.2 p k (by simpa using h);exact ⟨this.1,by omega⟩
structure Ord (ops:List Oper) (pos:Nat->Nat) (idx:List Nat) (os:List Oper):Prop where
 len:idx.length=ops.length
 at_:∀ k,k<ops.length->idx[pos k]? =some k
 num:∀ (p k:Nat),idx[p]? =some k->pos k=p/\k<ops.length
 os:∀ (p:Nat),os[p]? =(idx[p]?).bind (ops[·]?)
 back:∀ j,pos j<ops.length->j<ops.length
theorem au7 {ops:List Oper}:∀ {idx:List Nat},(∀ k∈idx,k<ops.length)->∀ p:Nat,(aj6 ops idx)[p]? =(idx[p]?).bind (ops[·]?)
 |[],_,p=>by simp [aj6]
 |k::r,h,p=>by
  have a:k<ops.length:=h k (by simp);simp only [aj6,cn6 a]
  match p with
  |0=>simp [cn6 a]
  |p+1=>simpa using au7 (idx:=r) (λj b=>h j (by simp [b])) p
theorem aY7 {d:Bool} {ops:List Oper} (h:aA1 d ops=true):Ord ops (T7 d ops) (aW2 d ops) (osOf d ops)/\ahead (T7 d ops) d ops 0=true:=by
 unfold aA1 at h;cases c:ad1 d ops with
 |true=>
  have h1:T7 d ops=λk=>k:=by funext k;simp [T7,c]
  have h2:aW2 d ops=List.range ops.length:=by simp [aW2,c]
  have h3:osOf d ops=ops:=by simp [osOf,c]
  rw [h1,h2,h3];refine ⟨⟨by simp,λk f=>by simp [f],λp k a=>?_,λp=>?_,?_⟩,c⟩
  .by_cases e:p<ops.length
   .rw [List.getElem?_range e] at a;simp only [cn4] at a;subst a;exact ⟨rfl,e⟩
   .rw [List.getElem?_eq_none (by simpa using e)] at a;cases a
  .by_cases a:p<ops.length
   .simp [a]
   .simp [a]
  .exact λj g=>g
 |false=>
  rw [c] at h;simp only [Bool.false_or,cn7,cj5] at h;obtain ⟨⟨_,⟨h4,i⟩,l⟩,m⟩:=h;have h1:T7 d ops=λk=>ax0 k (ai6 ops ops.length 0):=by funext k;simp [T7,c]
  have h2:aW2 d ops=ai6 ops ops.length 0:=by simp [aW2,c]
  have h3:osOf d ops=aj6 ops (ai6 ops ops.length 0):=by simp [osOf,c]
  rw [h1,h2,h3];generalize ai6 ops ops.length 0=idx at*
  have h4:=cn5 h4;have b:∀ (p k:Nat),idx[p]? =some k->ax0 k idx=p/\k<ops.length:=by intro p k a;have:=aY6 i p k a;exact ⟨by omega,this.1⟩
  refine ⟨⟨h4,λk f=>?_,b,au7 λk f=>?_,λj g=>(b _ _ (aD2 (by omega))).2⟩,m⟩
  .have:=cq4.1 l k (by simpa using f);have:=cp7 this;exact aD2 (by omega)
  .obtain ⟨p,a⟩:=List.mem_iff_getElem?.1 f;exact (b p k a).2
def bu7 (ms:Option (List Nat)) (p j:Nat):Prop:=∀ l,ms=some l->Nat.testBit (l.getD p 0) j=true
def ai2 (xs:List (Wr U)) (S:Nat->Prop):Prop:=∀ (j:Nat) (y:Wr U) (b:Bool×PanV U),S j->xs[j]? =some y->y.pan=some b->b.1=false
theorem Y6:∀ {ps:List (Nat×Bool)} {m:Option Nat} {q:Prop},aA0 ps m q->(∀ i b,(i,b)∈ps->(∀ m',m=some m'->Nat.testBit m' i=true)->b=false)->q
 |[],_,_,h,_=>h
 |(i,b)::r,m,q,h,a=>by
  unfold aA0 at h;cases m with
  |none=>exact Y6 (h (a i b (by simp) (λm' hm=>by cases hm))) (λj c d e=>a j c (by simp [d]) e)
  |some m'=>
   simp only at h;cases f:Nat.testBit m' i with
   |true=>rw [f] at h;simp only [cond_true] at h;exact Y6 (h (a i b (by simp) (λg hm=>by simp only [cn4] at hm;rw [<-hm];exact f))) (λj c d e=>a j c (by simp [d]) e)
   |false=>rw [f] at h;simp only [cond_false] at h;exact Y6 h (λj c d e=>a j c (by simp [d]) e)
theorem aD3 {Qp:PanV U->Prop} {ms:Option (List Nat)} {q:Prop}:∀ {xs:List (Wr U)} {e:Nat} {ps:List (Nat×Bool)},obls Qp ms xs e ps q->∀ {pre:List (Wr U)},pre.length=e->(∀ i b,(i,b)∈ps->∃ y v,pre[i]? =some y/\y.pan=some (b,v))->
  (∀ (k:Nat) (x:Wr U),xs[k]? =some x->ai2 (pre++xs) (λj=>j<e+k/\bu7 ms (e+k) j)->holds x.obl/\∀ b,x.pan=some b->b.1=true->Qp b.2)/\(ai2 (pre++xs) (λ_=>True)->q)
 |[],e,ps,h,pre,o,s=>by refine ⟨λk x E=>by simp at E,λn=>Y6 h (λi b hm _=>?_)⟩;obtain ⟨y,v,h1,h2⟩:=s i b hm;exact n i y (b,v) trivial (by rw [List.append_nil];exact h1) h2
 |x::r,e,ps,h,pre,o,s=>by
  have m:∀ {p:Prop},aA0 ps (ms.map (·.getD e 0)) p->ai2 (pre++x::r) (λj=>j<e+0/\bu7 ms (e+0) j)->p:=by intro p F n;refine Y6 F (λi b hm t=>?_);obtain ⟨y,v,h1,h2⟩:=s i b hm;have w:i<pre.length:=(cn9.1 h1).1;refine n i y (b,v) ⟨by omega,λl hl=>?_⟩ (by rw [cp4 w];exact h1) h2;rw [hl] at t;exact t _ rfl
  have f:∀ i b,(i,b)∈ps->∃ y v,(pre++[x])[i]? =some y/\y.pan=some (b,v):=by intro i b hm;obtain ⟨y,v,h1,h2⟩:=s i b hm;have w:i<pre.length:=(cn9.1 h1).1;exact ⟨y,v,by rw [cp4 w];exact h1,h2⟩
  have z:(pre++[x])[e]? =some x:=by rw [cp3 (by omega),o];simp
  have fin:∀ {ps':List (Nat×Bool)},(∀ i b,(i,b)∈ps'->∃ y v,(pre++[x])[i]? =some y/\y.pan=some (b,v))->obls Qp ms r (e+1) ps' q->
    (ai2 (pre++x::r) (λj=>j<e+0/\bu7 ms (e+0) j)->holds x.obl/\∀ b,x.pan=some b->b.1=true->Qp b.2)->
    (∀ (k:Nat) (y:Wr U),(x::r)[k]? =some y->ai2 (pre++x::r) (λj=>j<e+k/\bu7 ms (e+k) j)->holds y.obl/\∀ b,y.pan=some b->b.1=true->Qp b.2)/\(ai2 (pre++x::r) (λ_=>True)->q):=by
   intro ps' B hr h0;obtain ⟨h1,h2⟩:=aD3 hr (pre:=pre++[x]) (by simp [o]) B;have D:(pre++[x])++r=pre++x::r:=by simp
   rw [D] at h1 h2;refine ⟨λk y A n=>?_,h2⟩
   match k,A with
   |0,A=>simp only [co2,cn4] at A;subst A;exact h0 n
   |k+1,A=>refine h1 k y (by simpa using A) ?_;rw [show e+1+k=e+(k+1) by omega];exact n
  unfold obls at h;cases a:x.pan with
  |none=>
   rw [a] at h;simp only at h;cases d:x.obl with
   |none=>rw [d] at h;exact fin f h (λ_=>⟨by rw [d];trivial,λb C=>by rw [a] at C;cases C⟩)
   |some p=>rw [d] at h;exact fin f h.2 (λn=>⟨by rw [d];exact m h.1 n,λb C=>by rw [a] at C;cases C⟩)
  |some bv=>
   obtain ⟨b,v⟩:=bv;rw [a] at h;simp only at h;have u:∀ i c,(i,c)∈ps++[(e,b)]->∃ y v,(pre++[x])[i]? =some y/\y.pan=some (c,v):=by
    intro i c hm;rcases cq1.1 hm with h1|h1
    .exact f i c h1
    .simp only [co5,co6] at h1;obtain ⟨rfl,rfl⟩:=h1;exact ⟨x,v,z,a⟩
   cases d:x.obl with
   |none=>rw [d] at h;exact fin u h.2 (λn=>⟨by rw [d];trivial,λb' g h1=>by rw [a] at g;simp only [cn4] at g;subst g;exact m h.1 n h1⟩)
   |some p=>rw [d] at h;exact fin u h.2.2 (λn=>⟨by rw [d];exact m h.1 n,λb' g h1=>by rw [a] at g;simp only [cn4] at g;subst g;exact m h.2.1 n h1⟩)
structure Reg (E:Env U) (dr:Bool) (n:Nat) (ops:Array Oper) (pos:Nat->Nat) (os:List Oper) (ms:Option (List Nat)) (Qp:PanV U->Prop) (s:St U) (xs:List (Wr U)) (s':St U):Prop where
 run:Path E ops.toList os s xs s'
 ord:∃ idx,Ord ops.toList pos idx os
 ok:N7 n ops.toList []=true
 ahead:VT.ahead pos dr ops.toList 0=true
 obl:∀ (k:Nat) (x:Wr U),xs[k]? =some x->ai2 xs (λj=>j<k/\bu7 ms k j)->holds x.obl/\∀ b,x.pan=some b->b.1=true->Qp b.2
variable {pos:Nat->Nat} {os:List Oper} {ms:Option (List Nat)} {Qp:PanV U->Prop}
theorem Reg.op (G:Reg E dr n ops pos os ms Qp s xs s') {k:Nat} {o:Oper} (a:ops[k]? =some o):∃ x,xs[pos k]? =some x/\StepIs E ops.toList o ((xs.take (pos k)).foldl St.app s) x/\x.dst=o.dst:=by
 have h3:=G.run.step;obtain ⟨idx,O⟩:=G.ord;have b:k<ops.toList.length:=by simpa using (cp2.1 a).1
 obtain ⟨x,c,hs⟩:=h3 (pos k) o (by rw [O.os,O.at_ k b];simpa using a);exact ⟨x,c,hs,hs.dst⟩
theorem Reg.os_len (G:Reg E dr n ops pos os ms Qp s xs s'):os.length=ops.size:=by
 obtain ⟨idx,O⟩:=G.ord;have hl:idx.length=ops.size:=by simpa using O.len
 have h1:∀ p,p<ops.size<->p<os.length:=by
  intro p;constructor
  .intro b;obtain ⟨k,c⟩:∃ k,idx[p]? =some k:=⟨_,cn6 (by omega)⟩;have a:=(O.num p k c).2;have:=O.os p;rw [c,Option.bind_some,cn6 a] at this;exact (cn9.1 this).1
  .intro b;have:=O.os p;rw [cn6 b] at this;cases d:idx[p]? with
   |none=>rw [d] at this;cases this
   |some k=>have:=(cn9.1 d).1;omega
 have h2:=h1 os.length;have h3:=h1 ops.size;omega
theorem Reg.len (G:Reg E dr n ops pos os ms Qp s xs s'):xs.length=ops.size:=by rw [G.run.len,G.os_len]
theorem Reg.get (G:Reg E dr n ops pos os ms Qp s xs s') {p:Nat} {x:Wr U} (c:xs[p]? =some x):∃ k o,pos k=p/\ops[k]? =some o/\x.dst=o.dst:=by
 have d:p<xs.length:=(cn9.1 c).1;rw [G.len] at d;obtain ⟨idx,O⟩:=G.ord;have hl:idx.length=ops.size:=by simpa using O.len
 obtain ⟨k,e⟩:∃ k,idx[p]? =some k:=⟨_,cn6 (by omega)⟩;obtain ⟨h1,h2⟩:=O.num p k e;have a:k<ops.size:=by simpa using h2
 obtain ⟨y,b,_,f⟩:=G.op (cp1 a);rw [h1,c] at b;simp only [cn4] at b;subst b;exact ⟨k,_,h1,cp1 a,f⟩
theorem Reg.inj (G:Reg E dr n ops pos os ms Qp s xs s') {j k:Nat} (a:j<ops.size) (b:k<ops.size) (h:pos j=pos k):j=k:=by obtain ⟨idx,O⟩:=G.ord;have h1:=O.at_ j (by simpa using a);have h2:=O.at_ k (by simpa using b);rw [h,h2] at h1;simpa using h1.symm
theorem Reg.lt (G:Reg E dr n ops pos os ms Qp s xs s') {k:Nat} (a:k<ops.size):pos k<ops.size:=by
 obtain ⟨idx,O⟩:=G.ord;have h1:=O.at_ k (by simpa using a);have:=(cn9.1 h1).1;have hl:idx.length=ops.size:=by simpa using O.len
 omega
theorem Reg.back (G:Reg E dr n ops pos os ms Qp s xs s') {j:Nat} (a:pos j<ops.size):j<ops.size:=by obtain ⟨idx,O⟩:=G.ord;simpa using O.back j (by simpa using a)
theorem Reg.okOp (G:Reg E dr n ops pos os ms Qp s xs s') {k:Nat} {o:Oper} (a:ops[k]? =some o):
  (∀ d,o.dst=some d->d<n/\∀ (j:Nat) (o':Oper),j<k->ops[j]? =some o'->o'.dst≠some d)/\(∀ g want,o.guard=some (g,want)->pos g<pos k)/\(dr=true->∀ e∈o.after.toList,Region.binds .any e=true->pos e.on<pos k):=by
 have h1:=aL2 G.ok k o (by rw [Array.getElem?_toList];exact a);have i:k<ops.size:=(cp2.1 a).1;have h2:=aL3 G.ahead k o (by rw [Array.getElem?_toList];exact a);rw [Nat.zero_add] at h2;refine ⟨λd f=>?_,h2⟩;rw [f] at h1;simp only [aj7,cn7] at h1;refine ⟨cp7 h1.1,λj o' h b c=>?_⟩;have hm:some d∈[]++(ops.toList.take k).map (λx:Oper=>x.dst):=by simp only [List.nil_append,List.mem_map];refine ⟨o',?_,c⟩;rw [List.mem_iff_getElem?];exact ⟨j,by rw [List.getElem?_take,if_pos h,Array.getElem?_toList];exact b⟩
 have:=cq4.1 h1.2 _ hm;simp at this
theorem Reg.one (G:Reg E dr n ops pos os ms Qp s xs s') {j k:Nat} {x y:Wr U} (f:xs[j]? =some x) (g:xs[k]? =some y) {d:Nat} (a:x.dst=some d) (b:y.dst=some d):j=k:=by
 obtain ⟨kj,o,i,e,h1⟩:=G.get f;obtain ⟨kk,o',l,c,h2⟩:=G.get g;rcases Nat.lt_trichotomy kj kk with h|h|h
 .exact absurd (h1▸a) (((G.okOp c).1 d (h2▸b)).2 kj o h e)
 .rw [<-i,<-l,h]
 .exact absurd (h2▸b) (((G.okOp e).1 d (h1▸a)).2 kk o' h c)
def Dset (S:Nat->Bool) (xs:List (Wr U)) (d:Nat):Prop:=∃ j x,xs[j]? =some x/\S j=true/\x.dst=some d
theorem aD4 {d:Option Tmp} {l:List Nat}:aQ3 d l=true<->∃ t,d=some t/\t∈l:=by
 cases d with
 |none=>simp [aQ3]
 |some t=>
  simp only [aQ3,List.any_eq_true,cn4];constructor
  .rintro ⟨x,a,b⟩;have:=cn5 b;subst this;exact ⟨t,rfl,a⟩
  .rintro ⟨t',rfl,c⟩;exact ⟨t,c,Nat.beq_refl t⟩
theorem aD5 {a b:List Nat}:X8 a b=true<->∃ t,t∈a/\t∈b:=by
 simp only [X8,List.any_eq_true];constructor
 .rintro ⟨x,c,y,d,e⟩;have:=cn5 e;subst this;exact ⟨x,c,d⟩
 .rintro ⟨t,h1,h2⟩;exact ⟨t,h1,t,h2,Nat.beq_refl t⟩
theorem core {Y:Fr} {ro:Option Nat} (hE:E.Fits) (hG:E.Sound Y) (hY:O0 Y F E.yl) (hFG:F.G=E.G) (G:Reg E dr n ops pos os ms Qp s xs s') {S:Nat->Bool} {k:Nat} {o:Oper} (ho:ops[k]? =some o) {x:Wr U} (C:xs[pos k]? =some x) (I:S (pos k)=false)
  (h1:∀ (j:Nat) (y:Wr U),xs[j]? =some y->j<pos k->aJ0 y x=true->S j=true) (h2:∀ (j:Nat) (y:Wr U),xs[j]? =some y->pos k<j->S j=true->aJ0 x y=false)
  (hN:ai2 xs (λj=>S j=true)) (J:∀ j,j<pos k->bu7 ms (pos k) j->S j=true)
  (R:Rel F n β (stS S xs 0 s) a.tmps w) (hO:OptIn (Dset S xs) (stS S xs 0 s).σ) {K:Act->World->Prop} {Q:Exit->Act->World->Prop}
  (hK:∀ β' a' w',ai2 xs (λj=>J6 S (pos k) j=true)->Rel F n β' (stS (J6 S (pos k)) xs 0 s) a'.tmps w'->OptIn (Dset (J6 S (pos k)) xs) (stS (J6 S (pos k)) xs 0 s).σ->a'.defers=a.defers->K a' w')
  (hP:∀ v u w',(∃ b,x.pan=some b)->Qp v->an7 v u->Below F.B w w'->(∀ blk,blk<w.heap.size->(∀ id∈keys x.upd++x.lost,∀ o,look id (stS S xs 0 s).h=some o->o.live=true->¬ Has (β id) blk)->w'.heap[blk]? =w.heap[blk]?)->Q (.panic [{ v:=u,recovered:=false }]) a w'):wpOpIn (fen E.P ro) 0 E.P ops Q k K a w:=by
 obtain ⟨y,z,e,D⟩:=G.op ho;rw [C] at z;simp only [cn4] at z;subst z;rw [aR4 (i:=0)] at e;have hkeys:=e.keys;have clash1:∀ (j:Nat) (y:Wr U),xs[j]? =some y->(aQ3 y.dst x.rds=true\/X8 (keys y.upd) x.ids=true)->S j=decide (j<0+pos k):=by
  intro j y c hc;rcases Nat.lt_trichotomy j (pos k) with h|h|h
  .rw [h1 j y c h (by rcases hc with hc|hc<;>simp [aJ0,hc])];simp [h]
  .subst h;rw [I];simp
  .cases hS:S j with
   |false=>simp;omega
   |true=>
    have:=h2 j y c h hS;simp only [aJ0,Bool.or_eq_false_iff] at this;rcases hc with hc|hc
    .rw [hc] at this;simp at this
    .rw [hc] at this;simp at this
 have p:StepIs E ops.toList o (stS S xs 0 s) x:=by
  refine e.congr (λt ht=>?_) (λid hid=>?_)
  .refine (c1s rfl (λj y c A=>?_)).symm;rw [Nat.zero_add];exact clash1 j y c (.inl (aD4.2 ⟨t,A,ht⟩))
  .refine (c1h rfl (λj y c A=>?_)).symm;rw [Nat.zero_add];exact clash1 j y c (.inr (aD5.2 ⟨id,A,hid⟩))
 have O:=G.okOp ho;have L:x.holds:=G.run.fact x (List.mem_iff_getElem?.2 ⟨_,C⟩);have H:=G.obl _ x C (λj y b g z M=>hN j y b (J j g.1 g.2) z M);have hstep3:=p;obtain ⟨alt,halt,T⟩:=p;have f:=cb5 (K:=K) (Q:=Q) (ro:=ro) hE hG hY hFG (ops:=ops) R hO halt T L H.1 (λd A=>⟨(O.1 d A).1,?_⟩) (λi want j hg g=>?_) (λβ' a' w' V R' hO' W=>?_) (λb M h1 u w' h2 h3 h4=>hP b.2 u w' ⟨b,M⟩ (H.2 b M h1) h2 h3 h4)
 .unfold wpOpIn;rw [ho];dsimp only;by_cases hw:Region.wanted o (yielded ops a.tmps)=true
  .rw [if_pos hw] at f |-;exact f
  .rw [if_neg hw] at f |-;exact f
 .rintro ⟨j,y,c,m,l⟩;have:=G.one c C l (D.trans A);subst this;rw [I] at m;cases m
 .have hik:=O.2.1 i want hg;have q:∃ oi,ops[i]? =some oi:=by
   unfold T6 at g;rw [Array.getElem?_toList] at g;cases q:ops[i]? with
   |none=>rw [q] at g;cases g
   |some oi=>exact ⟨oi,rfl⟩
  obtain ⟨oi,q⟩:=q;obtain ⟨y,X,_,l⟩:=G.op q;have Z:oi.dst=some j:=by unfold T6 at g;rw [Array.getElem?_toList,q] at g;exact g
  exact ⟨pos i,y,X,h1 (pos i) y X hik (by
   have:aQ3 y.dst x.rds=true:=aD4.2 ⟨j,l.trans Z,e.guard hg g⟩;simp [aJ0,this]),l.trans Z⟩
 .have hk0:S (0+pos k)=false:=by rw [Nat.zero_add];exact I
  have r:Same ((stS S xs 0 s).app x) (stS (J6 S (pos k)) xs 0 s):=by
   refine ⟨λt=>?_,λid=>?_⟩
   .have:=c2s (t:=t) (S:=S) (xs:=xs) (i:=0) (k:=pos k) (s:=s) C hk0 (λj y c hkj _ hxd l=>by
     have:=G.one C c hxd l;omega)
    rw [Nat.zero_add] at this;exact this.symm
   .have:=c2h (t:=id) (S:=S) (xs:=xs) (i:=0) (k:=pos k) (s:=s) C hk0 (λj y c hkj m hxk hyk=>by
     rw [Nat.zero_add] at m;have hc:=h2 j y c hkj m;obtain ⟨kj,oj,hkj2,hoj,_⟩:=G.get c;obtain ⟨y',N,hst,_⟩:=G.op hoj;rw [hkj2,c] at N;simp only [cn4] at N;subst N;have:X8 (keys x.upd) y.ids=true:=aD5.2 ⟨id,hxk,hst.keys id hyk⟩;simp [aJ0,this] at hc)
    rw [Nat.zero_add] at this;exact this.symm
  refine hK β' a' w' (λj y b g z M=>?_) (R'.same r) ((hO'.mono (λd A=>?_)).same r) W
  .simp only [J6,Bool.or_eq_true,beq_iff_eq] at g;rcases g with g|g
   .exact hN j y b g z M
   .subst g;rw [C] at z;simp only [cn4] at z;subst z;exact V b M
  .rcases A with ⟨j,y,c,m,l⟩|A
   .exact ⟨j,y,c,by simp [J6,m],l⟩
   .exact ⟨pos k,x,C,by simp [J6],D.trans A⟩
theorem Reg.all (G:Reg E dr n ops pos os ms Qp s xs s') {S:Nat->Bool} (d:∀ j,j<ops.size->S j=true):Same (stS S xs 0 s) s':=by
 have h2:=G.run.fin;have:s'=stS (λj=>decide (j<0+xs.length)) xs 0 s:=by rw [h2,<-aR4,cq2]
 have c:∀ (j:Nat) (x:Wr U),xs[j]? =some x->S (0+j)=decide (0+j<0+xs.length):=by
  intro j x b;have a:j<xs.length:=by
   by_cases a:j<xs.length
   .exact a
   .rw [List.getElem?_eq_none (by omega)] at b;cases b
  rw [Nat.zero_add,d j (by rw [<-G.len];exact a)];simp [a]
 rw [this];exact ⟨λt=>c1s rfl (λj x b _=>c j x b),λid=>c1h rfl (λj x b _=>c j x b)⟩
def cb6 (F:Fr) (n:Nat) (ms:Option (List Nat)) (xs:List (Wr U)) (s:St U) (ds:List Deferred) (Qp:PanV U->Prop) (Q:Exit->Act->World->Prop):Prop:=
 ∀ (S:Nat->Bool) (k:Nat) (x:Wr U) (β:Nm) (a:Act) (w w':World) (v:PanV U) (u:Value),xs[k]? =some x->Rel F n β (stS S xs 0 s) a.tmps w->OptIn (Dset S xs) (stS S xs 0 s).σ->a.defers=ds->(∃ b,x.pan=some b)->(∀ j,S j=true->j≠k/\aq7 ms j k=false)->S k=false->Qp v->an7 v u->Below F.B w w'->
  (∀ blk,blk<w.heap.size->(∀ id∈keys x.upd++x.lost,∀ o,look id (stS S xs 0 s).h=some o->o.live=true->¬ Has (β id) blk)->w'.heap[blk]? =w.heap[blk]?)->Q (.panic [{ v:=u,recovered:=false }]) a w'
theorem bh2 {Y:Fr} {ro:Option Nat} (B:E.Fits) (C:E.Sound Y) (D:O0 Y F E.yl) (h:F.G=E.G) (G:Reg E dr n ops pos os none Qp s xs s') (c:∀ k,pos k=k) {Q:Exit->Act->World->Prop} {ds:List Deferred} (H:ai2 xs (λ_=>True)->∀ β' a' w',Rel F n β' s' a'.tmps w'->OptIn (Dset (λ_=>true) xs) s'.σ->a'.defers=ds->Q .normal a' w') (i:cb6 F n none xs s ds Qp Q):
  ∀ (m k:Nat),k+m=ops.size->∀ β a w,ai2 xs (λj=>j<k)->Rel F n β (stS (λj=>decide (j<k)) xs 0 s) a.tmps w->OptIn (Dset (λj=>decide (j<k)) xs) (stS (λj=>decide (j<k)) xs 0 s).σ->a.defers=ds->wpOpsIn (fen E.P ro) 0 E.P ops Q (List.range' k m) a w
 |0,k,J,β,a,w,z,R,r,t=>by have hs:=G.all (S:=λj=>decide (j<k)) (λj e=>by simp;omega);refine H (λj y b _ g f=>z j y b ?_ g f) β a w (R.same hs) ((r.mono (λd ⟨j,x,h1,_,h3⟩=>⟨j,x,h1,rfl,h3⟩)).same hs) t;have:=(cn9.1 g).1;rw [G.len] at this;omega
 |m+1,k,J,β,a,w,z,R,r,t=>by
  rw [List.range'_succ,wpOpsIn_cons];have l:k<ops.size:=by omega
  obtain ⟨x,I,_⟩:=G.op (cp1 l);have A:J6 (λj=>decide (j<k)) k=λj=>decide (j<k+1):=by
   funext j;unfold J6;by_cases h1:j<k
   .simp [h1];omega
   .by_cases h2:j=k
    .simp [h2]
    .have:(j==k)=false:=by simpa using h2
     simp [h1,this];omega
  refine core B C D h G (cp1 l) I (by rw [c];simp) (λj y _ e _=>by rw [c] at e;simp [e]) (λj y _ e K=>by rw [c] at e;simp at K;omega) (λj y b e g f=>z j y b (by simpa using e) g f) (λj e _=>by rw [c] at e;simp [e]) R r (λβ' a' w' o R' p q=>?_)
   (λv u w' h0 h1 h2 h3 h4=>i _ _ x β a w w' v u I R r t h0 (λj e=>by
    rw [c];have e:j<k:=by simpa using e
    exact ⟨by omega,by show Nat.blt k j=false;cases f:Nat.blt k j with
     |false=>rfl
     |true=>have:=cp7 f;omega⟩) (by rw [c];simp) h1 h2 h3 h4)
  rw [c,A] at R' p o;exact bh2 B C D h G c H i m (k+1) (by omega) β' a' w' (λj y b e g f=>o j y b (by simpa using e) g f) R' p (q.trans t)
theorem ao5 {xs:List (Wr U)} {s:St U}:stS (λj=>decide (j<0)) xs 0 s=s:=by
 have:(λj:Nat=>decide (j<0))=λ_=>false:=by funext j;simp
 rw [this,W0]
end
end Go.VT
end
section
namespace Go.VT
noncomputable section
open Go.RowKit
variable {U:Univ} {E:Env U} {F:Fr} {n:Nat} {β:Nm} {s s':St U} {a:Act} {w:World} {o:Oper} {e:Eff U} {h:Obs U} {xs:List (Wr U)} {ops:Array Oper} {pos:Nat->Nat} {os:List Oper} {ms:Option (List Nat)} {Qp:PanV U->Prop}
theorem bq2 {acc:List Nat} {i:Nat}:∀ {l:List Edge} {m:Nat},Nat.testBit (l.foldl (λm e=>bif Region.binds .any e then Nat.lor m (Nat.lor (2 ^ (pos e.on)) (acc.getD (pos e.on) 0)) else m) m) i=true->
  Nat.testBit m i=true\/∃ e∈l,Region.binds .any e=true/\(pos e.on=i\/Nat.testBit (acc.getD (pos e.on) 0) i=true)
 |[],m,h=>.inl h
 |e::l,m,h=>by
  rcases bq2 (l:=l) h with h1|⟨e',b,a,h2⟩
  .cases a:Region.binds .any e with
   |false=>simp only [a,cond_false] at h1;exact .inl h1
   |true=>
    simp only [a,cond_true] at h1;have h1:Nat.testBit (m|||(2 ^ (pos e.on)|||acc.getD (pos e.on) 0)) i=true:=h1;rw [Nat.testBit_or,Nat.testBit_or,Nat.testBit_two_pow] at h1;simp only [Bool.or_eq_true,cp6] at h1;rcases h1 with h1|h1|h1
    .exact .inl h1
    .exact .inr ⟨e,by simp,a,.inl h1⟩
    .exact .inr ⟨e,by simp,a,.inr h1⟩
  .exact .inr ⟨e',by simp [b],a,h2⟩
theorem aL4:∀ {r:List Oper} {acc:List Nat},(∃ l,N4 pos r acc=acc++l/\l.length=r.length)/\∀ k o,r[k]? =some o->(N4 pos r acc)[acc.length+k]? =some (mask pos ((N4 pos r acc).take (acc.length+k)) o)
 |[],acc=>⟨⟨[],by simp [N4],rfl⟩,by simp⟩
 |o::r,acc=>by
  obtain ⟨⟨l,h1,h2⟩,h3⟩:=aL4 (r:=r) (acc:=acc++[mask pos acc o]);refine ⟨⟨mask pos acc o::l,by simp [N4,h1],by simp [h2]⟩,λk o' a=>?_⟩
  match k,a with
  |0,a=>simp only [co2,cn4] at a;subst a;simp [N4,h1]
  |k+1,a=>have:=h3 k o' (by simpa using a);simp only [cp5,cp8] at this;rw [show acc.length+(k+1)=acc.length+1+k by omega];exact this
theorem au8 {y:Wr U} {m:Nat}:∀ {l:List (Wr U)} {b:Nat},aA2 y m l b=true->∀ i x,l[i]? =some x->aJ0 x y=true->Nat.testBit m (b+i)=true
 |[],_,_,i,x,a,_=>by simp at a
 |z::l,b,h,i,x,a,hc=>by
  simp only [aA2,cn7,Bool.or_eq_true,Bool.not_eq_true'] at h
  match i,a with
  |0,a=>
   simp only [co2,cn4] at a;subst a;rcases h.1 with h1|h1
   .rw [hc] at h1;cases h1
   .exact h1
  |i+1,a=>
   have:=au8 h.2 i x (by simpa using a) hc
   rwa [Nat.add_assoc,Nat.add_comm 1 i] at this
theorem aL5:∀ {ys:List (Wr U)} {ms:List Nat} {done:List (Wr U)},aJ1 done ys ms=true->∀ k y,ys[k]? =some y->∃ m,ms[k]? =some m/\aA2 y m (done++ys.take k) 0=true
 |[],_,_,_,k,y,a=>by simp at a
 |z::ys,[],_,h,_,_,_=>by simp [aJ1] at h
 |z::ys,m::ms,done,h,k,y,a=>by
  simp only [aJ1,cn7] at h
  match k,a with
  |0,a=>simp only [co2,cn4] at a;subst a;exact ⟨m,rfl,by simpa using h.1⟩
  |k+1,a=>obtain ⟨m',h1,h2⟩:=aL5 h.2 k y (by simpa using a);exact ⟨m',by simpa using h1,by simpa [cq0] using h2⟩
def left (S:Nat->Bool):Nat->Nat
 |0=>0
 |n+1=>left S n+(if S n=true then 0 else 1)
theorem aY8 {S:Nat->Bool}:∀ {n:Nat},left S n=0->∀ j,j<n->S j=true
 |0,_,j,a=>by omega
 |n+1,h,j,a=>by
  simp only [left] at h;by_cases b:S n=true
  .rcases Nat.lt_succ_iff_lt_or_eq.1 a with h1|h1
   .exact aY8 (by omega) j h1
   .rw [h1];exact b
  .rw [if_neg b] at h;omega
theorem aY9 {S:Nat->Bool} {i:Nat}:∀ {n:Nat},(n<=i->left (J6 S i) n=left S n)/\(i<n->S i=false->left (J6 S i) n+1=left S n)
 |0=>⟨λ_=>rfl,λh=>by omega⟩
 |n+1=>by
  obtain ⟨h1,h2⟩:=aY9 (S:=S) (i:=i) (n:=n);have a:∀ j,j≠i->J6 S i j=S j:=by
   intro j d;have:(j==i)=false:=by simpa using d
   simp [J6,this]
  refine ⟨λh=>?_,λh b=>?_⟩
  .simp only [left];rw [h1 (by omega),a n (by omega)]
  .simp only [left];by_cases c:n=i
   .subst c;rw [h1 (Nat.le_refl _),b,if_pos (by simp [J6])];simp
   .rw [a n c];have:=h2 (by omega) b;omega
theorem aZ0:∀ {n:Nat},left (λ_=>false) n=n
 |0=>rfl
 |n+1=>by simp [left,aZ0]
def aZ1 (listed:Array Bool):Option Nat->Bool
 |some k=>listed.getD k false
 |none=>false
def Q9 (idx:List Nat) (listed:Array Bool):Nat->Bool:=λp=>aZ1 listed idx[p]?
theorem cb7 {idx:List Nat} {ops:List Oper} (O:Ord ops pos idx os) (listed:Array Bool) {k:Nat} (a:k<ops.length):Q9 idx listed (pos k)=listed.getD k false:=by unfold Q9;rw [O.at_ k a];rfl
theorem bS0 {idx:List Nat} {ops:List Oper} (O:Ord ops pos idx os) {listed:Array Bool} {i:Nat} (c:i<listed.size) (b:i<ops.length):Q9 idx (listed.setIfInBounds i true)=J6 (Q9 idx listed) (pos i):=by
 funext p;unfold J6;show aZ1 (listed.setIfInBounds i true) idx[p]? =(aZ1 listed idx[p]? ||p==pos i);cases a:idx[p]? with
 |none=>
  have:(p==pos i)=false:=by rw [beq_eq_false_iff_ne];intro h;rw [h,O.at_ i b] at a;cases a
  rw [this];rfl
 |some k=>
  show (listed.setIfInBounds i true).getD k false=(listed.getD k false||p==pos i);by_cases h:k=i
  .subst h;have:(p==pos k)=true:=by simpa using (O.num p k a).1.symm
   rw [this,Array.getD_eq_getD_getElem?];simp [c]
  .have:(p==pos i)=false:=by
    rw [beq_eq_false_iff_ne];intro h2;rw [h2,O.at_ i b] at a;simp only [cn4] at a;exact h a.symm
   rw [this,Bool.or_false];rw [Array.getD_eq_getD_getElem?,Array.getD_eq_getD_getElem?,Array.getElem?_setIfInBounds_ne (Ne.symm h)]
def bZ1 (ops:Array Oper) (pos:Nat->Nat) (S:Nat->Bool):Prop:=∀ j o,S (pos j)=true->ops[j]? =some o->∀ e∈o.after.toList,Region.binds .any e=true->S (pos e.on)=true
theorem Reg.osat (G:Reg E true n ops pos os ms Qp s xs s') {k:Nat} {o:Oper} (a:ops[k]? =some o):os[pos k]? =some o:=by
 obtain ⟨idx,O⟩:=G.ord;have b:k<ops.toList.length:=by simpa using (cp2.1 a).1
 rw [O.os,O.at_ k b];simpa using a
theorem az1 (G:Reg E true n ops pos os ms Qp s xs s') {S:Nat->Bool} (w:bZ1 ops pos S):∀ (p k:Nat) (o:Oper),pos k=p->ops[k]? =some o->(∀ e∈o.after.toList,Region.binds .any e=true->S (pos e.on)=true)->
  ∀ m i,(N4 pos os [])[p]? =some m->Nat.testBit m i=true->S i=true:=by
 intro p
 induction p using Nat.strongRecOn with
 |ind p ih=>
  intro k o j l x m i hm c;subst j;have a:=(aL4 (pos:=pos) (r:=os) (acc:=[])).2 (pos k) o (G.osat l);simp only [List.length_nil,Nat.zero_add] at a;rw [hm] at a;simp only [cn4] at a;rw [a] at c;rcases bq2 c with h1|⟨e,f,v,h1⟩
  .simp at h1
  .have b:=(G.okOp l).2.2 rfl e f v;have g:=x e f v;rcases h1 with h1|h1
   .rw [<-h1];exact g
   .have q:∃ o',ops[e.on]? =some o':=⟨_,cp1 (G.back (Nat.lt_trans b (G.lt (cp2.1 l).1)))⟩;obtain ⟨o',h⟩:=q;cases d:(N4 pos os [])[pos e.on]? with
    |none=>rw [co8,List.getElem?_take,if_pos b,d] at h1;simp at h1
    |some m'=>rw [co8,List.getElem?_take,if_pos b,d] at h1;exact ih (pos e.on) b e.on o' rfl h (λe' t u=>w e.on o' g h e' t u) m' i d h1
theorem cj8 {Y:Fr} {ro:Option Nat} (hE:E.Fits) (hG:E.Sound Y) (hY:O0 Y F E.yl) (hFG:F.G=E.G) (G:Reg E true n ops pos os (some (N4 pos os [])) Qp s xs s') {idx:List Nat} (O:Ord ops.toList pos idx os) (hI:aJ1 [] xs (N4 pos os [])=true) {Q:Exit->Act->World->Prop} {ds:List Deferred}
  (hQ:ai2 xs (λ_=>True)->∀ β' a' w',Rel F n β' s' a'.tmps w'->OptIn (Dset (λ_=>true) xs) s'.σ->a'.defers=ds->Q .normal a' w') (hFl:cb6 F n (some (N4 pos os [])) xs s ds Qp Q):
  ∀ (fuel:Nat) (listed:Array Bool),listed.size=ops.size->bZ1 ops pos (Q9 idx listed)->left (Q9 idx listed) ops.size=fuel->ai2 xs (λj=>Q9 idx listed j=true)->∀ β a w,Rel F n β (stS (Q9 idx listed) xs 0 s) a.tmps w->OptIn (Dset (Q9 idx listed) xs) (stS (Q9 idx listed) xs 0 s).σ->
   a.defers=ds->wpAnyIn (fen E.P ro) 0 E.P .any ops Q fuel listed a w:=by
 have B:∀ (j k:Nat) (x y:Wr U),xs[j]? =some x->xs[k]? =some y->j<k->aJ0 x y=true->∃ m,(N4 pos os [])[k]? =some m/\Nat.testBit m j=true:=by
  intro j k x y hx L hjk hc;obtain ⟨m,hm,t⟩:=aL5 hI k y L;refine ⟨m,hm,?_⟩;have:=au8 t j x (by rw [List.nil_append,List.getElem?_take,if_pos hjk];exact hx) hc
  rwa [Nat.zero_add] at this
 have V:∀ (S:Nat->Bool),(∀ j,j<ops.size->S j=true)->ai2 xs (λj=>S j=true)->∀ β a w,Rel F n β (stS S xs 0 s) a.tmps w->OptIn (Dset S xs) (stS S xs 0 s).σ->a.defers=ds->Q .normal a w:=by intro S hS hN β a w R Z J;have hs:=G.all hS;refine hQ (λj y b _ L c=>hN j y b (hS j ?_) L c) β a w (R.same hs) ((Z.mono (λd ⟨j,x,h1,_,h3⟩=>⟨j,x,h1,rfl,h3⟩)).same hs) J;have:=(cn9.1 L).1;rw [G.len] at this;exact this
 have t:∀ (listed:Array Bool) {k:Nat},k<ops.size->Q9 idx listed (pos k)=listed.getD k false:=λlisted {k} hk=>cb7 O listed (by simpa using hk);have hidx:∀ p,p<ops.size->∃ k,idx[p]? =some k/\pos k=p/\k<ops.size:=by
  intro p hp;have hl:idx.length=ops.size:=by simpa using O.len
  obtain ⟨k,hk⟩:∃ k,idx[p]? =some k:=⟨_,cn6 (by omega)⟩;have:=O.num p k hk;exact ⟨k,hk,this.1,by simpa using this.2⟩
 intro fuel
 induction fuel with
 |zero=>
  intro listed hsz W hl hN β a w R Z J;have X:=aY8 hl;refine ⟨?_,V _ X hN β a w R Z J⟩;unfold Region.ready;rw [List.filter_eq_nil_iff];intro i hi;have hi:=List.mem_range.1 hi;have:=X (pos i) (G.lt hi);rw [t listed hi] at this;have g:i<listed.size:=by omega
  have h1:listed.getD i true=true:=by rw [Array.getD_eq_getD_getElem?,cp1 g] at this |-;exact this
  simp [h1]
 |succ fuel ih=>
  intro listed hsz W hl hN β a w R Z J;have C:∀ i,i∈Region.ready .any ops listed<->i<ops.size/\listed.getD i false=false/\∃ o,ops[i]? =some o/\∀ e∈o.after.toList,Region.binds .any e=true->listed.getD e.on false=true:=by
   intro i;unfold Region.ready;simp only [List.mem_filter,List.mem_range,cn7,Bool.not_eq_true'];constructor
   .rintro ⟨h1,h2,h3⟩;have g:i<listed.size:=by omega
    refine ⟨h1,?_,ops[i],cp1 h1,λe f c=>?_⟩
    .rw [Array.getD_eq_getD_getElem?,cp1 g] at h2 |-;exact h2
    .rw [cp1 h1] at h3;simp only [Option.map_some,Option.getD_some] at h3;have:=Array.all_eq_true.1 h3;obtain ⟨q,hq,hqe⟩:=List.mem_iff_getElem.1 f;have h4:=this q (by simpa using hq);rw [show ops[i].after[q]=e from by rw [<-hqe];simp] at h4;rw [c] at h4;simpa using h4
   .rintro ⟨h1,h2,o,D,f⟩;have g:i<listed.size:=by omega
    refine ⟨h1,?_,?_⟩
    .rw [Array.getD_eq_getD_getElem?,cp1 g] at h2 |-;exact h2
    .rw [D];simp only [Option.map_some,Option.getD_some];rw [Array.all_eq_true];intro q hq;cases c:Region.binds .any o.after[q] with
     |false=>simp
     |true=>have:=f o.after[q] (Array.getElem_mem_toList hq) c;simpa using this
  have hon:∀ {k:Nat} {o:Oper},ops[k]? =some o->∀ e∈o.after.toList,Region.binds .any e=true->e.on<ops.size:=λ{k o} D e f c=>G.back (Nat.lt_trans ((G.okOp D).2.2 rfl e f c) (G.lt (cp2.1 D).1));refine ⟨λhnil=>?_,λi hi=>?_⟩
  .refine V _ (λj K=>?_) hN β a w R Z J;have hmin:∀ k,∀ j,j<k->j<ops.size->Q9 idx listed j=true:=by
    intro k
    induction k with
    |zero=>intro j K;omega
    |succ k ihk=>
     intro j K hjo;rcases Nat.lt_succ_iff_lt_or_eq.1 K with h1|h1
     .exact ihk j h1 hjo
     .subst h1;cases J:Q9 idx listed j with
      |true=>rfl
      |false=>
       exfalso;obtain ⟨q,hq,hqj,H⟩:=hidx j hjo;rw [<-hqj,t listed H] at J;have:q∈Region.ready .any ops listed:=(C q).2 ⟨H,J,ops[q],cp1 H,λe f c=>by
        have h1:=(G.okOp (cp1 H)).2.2 rfl e f c;have h2:=hon (cp1 H) e f c;rw [<-t listed h2];exact ihk (pos e.on) (by omega) (G.lt h2)⟩
       rw [hnil] at this;simp at this
   exact hmin (j+1) j (by omega) K
  .obtain ⟨M,z,o,D,f⟩:=(C i).1 hi;rw [<-t listed M] at z;have f:∀ e∈o.after.toList,Region.binds .any e=true->Q9 idx listed (pos e.on)=true:=λe h1 h2=>by rw [t listed (hon D e h1 h2)];exact f e h1 h2
   obtain ⟨x,hx,_⟩:=G.op D;have h:=bS0 O (listed:=listed) (i:=i) (by omega) (by simpa using M);refine core hE hG hY hFG G D hx z (λj y L hji hc=>?_) (λj y L hij N=>?_) hN (λj K l=>?_) R Z (λβ' a' w' hN' R' hO' hdef=>?_) (λv u w' h0 h1 h2 h3 h4=>hFl _ _ x β a w w' v u hx R Z J h0 (λj K=>?_) z h1 h2 h3 h4)
   .obtain ⟨m,hm,l⟩:=B j (pos i) y x L hx hji hc;exact az1 G W (pos i) i o rfl D f m j hm l
   .cases hc:aJ0 x y with
    |false=>rfl
    |true=>obtain ⟨m,hm,l⟩:=B (pos i) j x y hx L hij hc;obtain ⟨kj,oj,T,r,_⟩:=G.get L;have:=az1 G W j kj oj T r (λe f c=>W kj oj (by rw [T];exact N) r e f c) m (pos i) hm l;rw [z] at this;cases this
   .have c:=l _ rfl;cases A:(N4 pos os [])[pos i]? with
    |none=>rw [co8,A] at c;simp at c
    |some m=>rw [co8,A] at c;exact az1 G W (pos i) i o rfl D f m j A c
   .refine ih (listed.setIfInBounds i true) (by simpa using hsz) ?_ ?_ (by rw [h];exact hN') β' a' w' (by rw [h];exact R') (by rw [h];exact hO') (hdef.trans J)
    .rw [h];intro j oj N r e hel c;simp only [J6,Bool.or_eq_true,beq_iff_eq] at N |-;left;rcases N with h1|h1
     .exact W j oj h1 r e hel c
     .have:=G.inj (cp2.1 r).1 M h1;subst this;rw [D] at r;simp only [cn4] at r;subst r;exact f e hel c
    .rw [h];have:=(aY9 (S:=Q9 idx listed) (i:=pos i) (n:=ops.size)).2 (G.lt M) z;omega
   .refine ⟨(λe=>by rw [e,z] at K;cases K),?_⟩;cases hf:aq7 (some (N4 pos os [])) j (pos i) with
    |false=>rfl
    |true=>
     exfalso;have hf:Nat.testBit ((N4 pos os []).getD j 0) (pos i)=true:=hf;rw [co8] at hf;cases A:(N4 pos os [])[j]? with
     |none=>rw [A] at hf;simp at hf
     |some m=>
      rw [A] at hf;have hjx:∃ kj,idx[j]? =some kj:=by
       cases hk:idx[j]? with
       |some kj=>exact ⟨kj,rfl⟩
       |none=>simp [Q9,aZ1,hk] at K
      obtain ⟨kj,T⟩:=hjx;have I:=O.num j kj T;have g:kj<ops.size:=by simpa using I.2
      have:=az1 G W j kj ops[kj] I.1 (cp1 g) (λe f c=>W kj ops[kj] (by rw [I.1];exact K) (cp1 g) e f c) m (pos i) A hf;rw [z] at this;cases this
end
end Go.VT
end
section
namespace Go.VT
noncomputable section
open Go.RowKit
variable {U:Univ} {E:Env U} {F:Fr} {n:Nat} {β:Nm} {s s':St U} {a:Act} {w:World} {o:Oper} {e:Eff U} {h:Obs U} {xs:List (Wr U)} {ops:Array Oper}
theorem L7 {α γ:Type} (f:α->γ) (k:Nat):∀ l:List (Nat×α),look k (l.map λx=>(x.1,f x.2))=(look k l).map f
 |[]=>rfl
 |(j,a)::r=>by
  simp only [List.map_cons,look];split
  .rfl
  .exact L7 f k r
theorem ak5 {α:Type} (f:Nat->Bool) (k:Nat):∀ {l:List (Nat×α)} {v:α},look k (l.filter λx=>f x.1)=some v->look k l=some v
 |[],v,h=>h
 |(j,a)::r,v,h=>by
  simp only [List.filter_cons] at h;split at h
  .simp only [look] at h |-;split at h
   .rename_i c;rw [if_pos c];exact h
   .rename_i c;rw [if_neg c];exact ak5 f k h
  .rename_i hf;have:=ak5 f k h;simp only [look];rw [if_neg]
   .exact this
   .intro c;have c:=cn5 c;subst c;have d:∀ l:List (Nat×α),look j (l.filter λx=>f x.1)=none:=by
     intro l
     induction l with
     |nil=>rfl
     |cons y l ih=>
      obtain ⟨i,b⟩:=y;simp only [List.filter_cons];split
      .rename_i e;simp only [look];rw [if_neg]
       .exact ih
       .intro c;have c:=cn5 c;subst c;exact hf e
      .exact ih
    rw [d] at h;cases h
theorem bF6 {tmps:Array Value} {D:Nat->Prop} (R:Rel F n β s tmps w) (X:Nat):Rel F n β (s.cut X) tmps w/\OptIn D (s.cut X).σ:=by
 have a:∀ t p,look t (s.cut X).σ=some p->∃ q,look t s.σ=some q/\p=ca4 q:=by intro t p hl;unfold St.cut at hl;rw [L7] at hl;simp only [co1] at hl;obtain ⟨q,b,d⟩:=hl;exact ⟨q,ak5 (λk=>bit X k) t b,d.symm⟩
 refine ⟨⟨R.toOk,R.sz,λt p hl=>?_⟩,λt gs p hl=>?_⟩
 .obtain ⟨q,b,rfl⟩:=a t p hl;have hr:=R.tmp t q b;cases q with
  |opt gs p=>trivial
  |un=>trivial
  |one c=>exact hr
  |agg cs=>exact hr
  |tup vs=>exact hr
 .obtain ⟨q,_,b⟩:=a t _ hl;cases q<;>simp [ca4] at b
theorem L8 {α:Type} {l:List (Nat×α)} {k:Nat} {v:α}:∀ {ks:List Nat},look k (T8 l ks)=some v->look k l=some v
 |[],h=>by simp [T8,look] at h
 |j::r,h=>by
  simp only [T8] at h;split at h
  .rename_i u b;simp only [look] at h;split at h
   .rename_i a;have a:=cn5 a;subst a;simp only [cn4] at h;subst h;exact b
   .exact L8 h
  .exact L8 h
theorem bu8 (h:Obs U) (D:Deep U):(D.fresh h).live=D.live:=by cases D<;>rfl
theorem aD6 (h:Obs U) (o:Ob U):(S3 h o).live=o.live:=by
 cases o with
 |dp D=>exact bu8 h D
 |_=>rfl
theorem aZ2 {g:Obs U} {D:Deep U} {N:Value} {c c':DC U} (h:D.renew g c=some c') {v:Value} (r:DCRel D N c v):DCRel (D.fresh g) N c' v:=by
 cases D with
 |maps kt e t l ver iv lv hole=>
  cases c with
  |self v0=>
   simp only [Deep.renew] at h;split at h
   .rename_i a;simp only [cn4] at h;subst h;exact ⟨Nat.le_refl _,λ_=>r.2 (cn5 a)⟩
   .cases h
  |elt=>simp [Deep.renew] at h
  |inn=>simp [Deep.renew] at h
  |iat=>simp [Deep.renew] at h
  |key=>simp [Deep.renew] at h
  |it=>simp [Deep.renew] at h
 |rows e t m l ver iv lv hole=>
  cases c with
  |self v0=>
   simp only [Deep.renew] at h;split at h
   .rename_i a;simp only [cn4] at h;subst h;exact ⟨Nat.le_refl _,λ_=>r.2 (cn5 a)⟩
   .cases h
  |inn v0 i j=>
   simp only [Deep.renew] at h;split at h
   .rename_i a;simp only [cn4] at h;subst h;exact ⟨Nat.le_refl _,λ_=>r.2 (cn5 a)⟩
   .cases h
  |elt=>simp [Deep.renew] at h
  |iat=>simp [Deep.renew] at h
  |key=>simp [Deep.renew] at h
  |it=>simp [Deep.renew] at h
 |iter mid kt vt n seen cur=>
  cases c with
  |it mid'=>
   simp only [Deep.renew] at h;split at h
   .rename_i hl;simp only [cn4] at h;subst h;obtain ⟨rfl,b⟩:=r;refine ⟨?_,b⟩;simp only [hl]
   .cases h
  |self=>simp [Deep.renew] at h
  |elt=>simp [Deep.renew] at h
  |inn=>simp [Deep.renew] at h
  |iat=>simp [Deep.renew] at h
  |key=>simp [Deep.renew] at h
theorem DRel.fresh {B:Nat} {w':World} {β':Nm} {h' g:Obs U} {D:Deep U} {N:Value} (a:∀ d v,Rep U w (Live β h) d v->Rep U w' (Live β' h') d v) (c:∀ mid v,CRel w β h (.map mid) v->CRel w' β' h' (L0 g (.map mid)) v)
  (f:∀ b,Has N b->w'.heap[b]? =w.heap[b]?) (r:DRel B w β h D N):DRel B w' β' h' (D.fresh g) N:=by
 cases D with
 |rows e t m l ver iv lv hole=>exact DRel.mapR a f r
 |maps kt e t l ver iv lv hole=>exact DRel.mapM a f r
 |iter mid kt vt n seen cur=>
  obtain ⟨q,b,last,i,h1,h2,h3,h4⟩:=r;subst i;refine ⟨q,b,last,rfl,h1,by rw [f q rfl];exact h2,h3,λm hm=>?_⟩;cases mid with
  |none=>cases hm
  |some j=>
   simp only at hm;split at hm
   .rename_i hl;cases hm;have:=c m _ (h4 m rfl);simp only [L0,hl] at this;exact this
   .cases hm
theorem aD7 {tmps:Array Value} (R:Rel F n β s tmps w) (ks hs:List Nat) {w':World} (G:Below F.B w w')
  (C:∀ b,b<w.heap.size->(¬ Own β s.h b\/∃ id o,look id (T8 s.h hs)=some o/\Has (β id) b)->w'.heap[b]? =w.heap[b]?):Rel F n β (s.keep ks hs) tmps w'/\OptIn (λ_=>False) (s.keep ks hs).σ:=by
 have k:∀ id o,look id (T8 s.h hs)=some o->look id s.h=some o:=λid o hl=>L8 hl;generalize Y:T8 s.h hs=h1 at k;have hk:s.keep ks hs=⟨(T8 s.σ ks).map λx=>(x.1,aA3 h1 x.2),h1.map λx=>(x.1,S3 h1 x.2)⟩:=by unfold St.keep;rw [Y]
 rw [hk];have m:∀ id o,look id (h1.map λx=>(x.1,S3 h1 x.2))=some o->∃ o',look id h1=some o'/\o=S3 h1 o':=by intro id o hl;rw [L7] at hl;simp only [co1] at hl;obtain ⟨o',h2,h3⟩:=hl;exact ⟨o',h2,h3.symm⟩
 have H:∀ id o',look id h1=some o'->look id (h1.map λx=>(x.1,S3 h1 x.2))=some (S3 h1 o'):=by intro id o' hl;rw [L7,hl];rfl
 generalize hh2:(h1.map λx=>(x.1,S3 h1 x.2))=h2 at m H;have K:∀ b,Live β h2 b->Live β s.h b:=by
  rintro b (hm|⟨id,o,h3,h4,W⟩)
  .exact .inl hm
  .obtain ⟨o',h6,rfl⟩:=m id o h3;rw [aD6] at h4;exact .inr ⟨id,o',k id o' h6,h4,W⟩
 rw [Y] at C;have L:∀ b,b<w.heap.size->¬ Live β s.h b->w'.heap[b]? =w.heap[b]? :=λb A hn=>C b A (.inl (λho=>hn (.inr ho)));have I:∀ d v,Rep U w (Live β s.h) d v->Rep U w' (Live β h2) d v:=λd v r=>r.mono G.size L (λb _ A=>K b A);have P:∀ (t:Ty) (x:den U.T t) (v:Value),VIs w (Live β s.h) t x v->VIs w' (Live β h2) t x v:=λt x v r=>r.mono G.size L (λb _ A=>K b A);have J:∀ id o b,look id h1=some o->Has (β id) b->w'.heap[b]? =w.heap[b]? :=λid o b hl A=>C b ((R.obj id o (k id o hl)).blk A).2 (.inr ⟨id,o,hl,A⟩);have hcell:∀ c v,CRel w β s.h c v->CRel w' β h2 (L0 h1 c) v:=by
  intro c v r;cases c with
  |un=>trivial
  |d x=>exact I _ _ r
  |row id ver=>
   simp only [L0];split
   .rename_i e t l ver' lv hl;split
    .rename_i A;have A:=cn5 A;obtain ⟨e2,t2,l2,ver2,lv2,a,z,E⟩:=r;rw [k id _ hl] at a;simp only [cn4,Ob.row.injEq] at a;obtain ⟨_,_,_,rfl,_⟩:=a;exact ⟨e,t,l,0,lv,H id _ hl,Nat.le_refl _,λ_=>E A⟩
    .trivial
   .trivial
  |ptr id off=>
   simp only [L0];split
   .rename_i e cs hl;obtain ⟨e2,cs2,b,a,z,E⟩:=r;exact ⟨e,_,b,H id _ hl,z,E⟩
   .trivial
  |elt id ver i off=>trivial
  |rd cs off=>obtain ⟨g,o,S,hM,hg,hc⟩:=r;refine ⟨g,o,S,λhh=>hM (K g hh),Nat.lt_of_lt_of_le hg G.size,λj d Z=>?_⟩;obtain ⟨u,V,hr⟩:=hc j d Z;exact ⟨u,by rw [<-V];exact World.cell?_of_block (L g hg hM),I _ _ hr⟩
  |gl g=>exact r
  |lit u=>exact r
  |map id=>
   simp only [L0];split
   .rename_i hl;obtain ⟨kt,vt,l,a,z⟩:=r;rw [k id _ hl] at a;simp only [cn4,Ob.map.injEq] at a;exact ⟨_,_,_,H id _ hl,z⟩
   .trivial
  |clo f ids=>
   simp only [L0,co7];split
   .rename_i hall;obtain ⟨bs,a,z,E⟩:=r;refine ⟨bs,a,z,λj id b hj A=>?_⟩;obtain ⟨e,cs,N,X⟩:=E j id b hj A;have O:=cq4.1 hall id (List.mem_iff_getElem?.2 ⟨j,hj⟩);split at O
    .rename_i e' cs' hl;exact ⟨e',_,H id _ hl,X⟩
    .cases O
   .trivial
  |yld id=>
   simp only [L0];split
   .rename_i hl;obtain ⟨st,a,z⟩:=r;exact ⟨_,H id _ hl,z⟩
   .trivial
  |ifc t b ds=>obtain ⟨vs,a,z,E,N,X⟩:=r;exact ⟨vs,a,z,E,N,λj d u Z V=>I _ _ (X j d u Z V)⟩
  |tab g i=>exact r
  |tabf fs i=>exact r
  |bnd f id=>
   simp only [L0];split
   .rename_i e cs hl;obtain ⟨e2,cs2,b,a,z,E⟩:=r;exact ⟨e,_,b,H id _ hl,z,E⟩
   .trivial
  |dc id c=>
   simp only [L0];split
   .rename_i D hl;split
    .rename_i c' hc;obtain ⟨D',a,z⟩:=r;rw [k id _ hl] at a;simp only [cn4,Ob.dp.injEq] at a;subst a;exact ⟨_,H id _ hl,aZ2 hc z⟩
    .trivial
   .trivial
 have M:∀ cs vs,CsRel w β s.h cs vs->CsRel w' β h2 (cs.map (L0 h1)) vs:=by intro cs vs r;refine ⟨by simpa using r.1,r.2.1,λj c v hc S=>?_⟩;simp only [co9,co1] at hc;obtain ⟨c',h3,rfl⟩:=hc;exact hcell c' v (r.2.2 j c' v h3 S)
 have hpv:∀ p v σ σ',PRel w β s.h σ p v->PRel w' β h2 σ' (aA3 h1 p) v:=by
  intro p v σ σ' r;cases p with
  |un=>trivial
  |one c=>exact M [c] [v] r
  |agg cs=>obtain ⟨vs,S,hc⟩:=r;exact ⟨vs,S,M cs vs hc⟩
  |tup xs=>
   obtain ⟨vs,S,hl,O⟩:=r;refine ⟨vs,S,by simpa using hl,λj x u hj V=>?_⟩;simp only [co9,co1] at hj;obtain ⟨x',h3,rfl⟩:=hj;have:=O j x' u h3 V;obtain ⟨b,cs⟩:=x';cases b with
   |true=>obtain ⟨vs',h4,W⟩:=this;exact ⟨vs',h4,M cs vs' W⟩
   |false=>exact M cs [u] this
  |opt gs p=>trivial
 refine ⟨⟨⟨R.bel.trans G,Nat.le_trans R.hB G.size,λid o hl=>?_,λid o id' o' b a z=>?_,λb A hK=>?_,λid o b a=>?_,λid o b a=>?_,R.Mlt,R.Meq,λid o v a z=>?_,R.nmg,R.glo⟩,R.sz,λt p hl=>?_⟩,λt gs p hl=>?_⟩
 .obtain ⟨o',h3,rfl⟩:=m id o hl;have ro:=R.obj id o' (k id o' h3);cases o' with
  |box e cs=>obtain ⟨b,vs,a,z,E,N⟩:=ro;exact ⟨b,vs,a,z,(J id _ b h3 (by rw [a];rfl)).trans E,M cs _ N⟩
  |row e t l ver lv=>
   obtain ⟨xs,a,z,E,N⟩:=ro;refine ⟨xs,?_,z,E,λi x O j d Z=>?_⟩
   .exact a.kept (λb A=>J id _ b h3 (a.has A))
   .obtain ⟨u,V,hr⟩:=N i x O j d Z;exact ⟨u,V,I _ _ hr⟩
  |map kt vt l=>obtain ⟨b,es,clock,a,z,E,N,X⟩:=ro;exact ⟨b,es,clock,a,z,(J id _ b h3 (by rw [a];rfl)).trans E,N,λi x y O hy=>⟨P _ _ _ (X i x y O hy).1,P _ _ _ (X i x y O hy).2⟩⟩
  |loop st=>obtain ⟨b,r,a,z,E,N⟩:=ro;exact ⟨b,r,a,z,(J id _ b h3 (by rw [a];exact rfl)).trans E,N⟩
  |dp D=>exact DRel.fresh I (λmid v r=>hcell (.map mid) v r) (λb A=>J id _ b h3 A) ro
 .obtain ⟨Q,h3,_⟩:=m id o a;obtain ⟨o2,h4,_⟩:=m id' o' z;exact R.dis id Q id' o2 b (k _ _ h3) (k _ _ h4)
 .rw [<-R.frm b A hK];have hbw:b<w.heap.size:=Nat.lt_of_lt_of_le A R.bel.size;refine C b hbw (.inl ?_);rintro ⟨id,o,a,z,E⟩;rcases R.own id o b a E with W|W
  .exact hK W
  .omega
 .obtain ⟨Q,h3,_⟩:=m id o a;exact R.own id Q b (k _ _ h3)
 .obtain ⟨Q,h3,_⟩:=m id o a;exact R.Mo id Q b (k _ _ h3)
 .obtain ⟨Q,h3,rfl⟩:=m id o a;refine (R.fix id Q v (k _ _ h3) z).imp (λhr=>?_) (λhr=>hr);cases Q<;>simp_all [Ob.isRow,S3]
 .rw [L7] at hl;simp only [co1] at hl;obtain ⟨q,hq,rfl⟩:=hl;exact hpv q _ _ _ (R.tmp t q (L8 hq))
 .rw [L7] at hl;simp only [co1] at hl;obtain ⟨q,hq,hq2⟩:=hl;cases q<;>simp [aA3] at hq2
def Fr.shut (F:Fr) (w:World) (D:Nat->Prop):Fr:=⟨F.B,w,λb=>(F.K b\/F.w0.heap.size<=b)/\¬ D b,λb=>F.M b\/D b,F.nm,F.G⟩
def Nm.shut (β:Nm) (D:Nat->Prop):Nm:=⟨β.v,λb=>β.M b\/D b,β.lp⟩
theorem bF7 {tmps:Array Value} (R:Rel F n β s tmps w) (ks hs:List Nat) {w':World} {D:Nat->Prop} (hD:∀ b,D b->Live β s.h b) (W:∀ id o b,look id (T8 s.h hs)=some o->Has (β id) b->¬ D b) (E:Below F.B w w')
  (G:∀ b,b<w.heap.size->(¬ Own β s.h b\/∃ id o,look id (T8 s.h hs)=some o/\Has (β id) b)->w'.heap[b]? =w.heap[b]?):Rel (F.shut w' D) n (β.shut D) (s.keep ks hs) tmps w'/\OptIn (λ_=>False) (s.keep ks hs).σ:=by
 have k:∀ id o,look id (T8 s.h hs)=some o->look id s.h=some o:=λid o hl=>L8 hl;generalize hh1:T8 s.h hs=h1 at k;have hk:s.keep ks hs=⟨(T8 s.σ ks).map λx=>(x.1,aA3 h1 x.2),h1.map λx=>(x.1,S3 h1 x.2)⟩:=by unfold St.keep;rw [hh1]
 rw [hk];have z:∀ id o,look id (h1.map λx=>(x.1,S3 h1 x.2))=some o->∃ o',look id h1=some o'/\o=S3 h1 o':=by intro id o hl;rw [L7] at hl;simp only [co1] at hl;obtain ⟨o',h2,h3⟩:=hl;exact ⟨o',h2,h3.symm⟩
 have H:∀ id o',look id h1=some o'->look id (h1.map λx=>(x.1,S3 h1 x.2))=some (S3 h1 o'):=by intro id o' hl;rw [L7,hl];rfl
 generalize hh2:(h1.map λx=>(x.1,S3 h1 x.2))=h2 at z H;have K:∀ b,Live (β.shut D) h2 b->Live β s.h b:=by
  rintro b ((hm|hm)|⟨id,o,h3,h4,P⟩)
  .exact .inl hm
  .exact hD b hm
  .obtain ⟨o',h6,rfl⟩:=z id o h3;rw [aD6] at h4;exact .inr ⟨id,o',k id o' h6,h4,P⟩
 rw [hh1] at G W;have L:∀ b,b<w.heap.size->¬ Live β s.h b->w'.heap[b]? =w.heap[b]? :=λb A hn=>G b A (.inl (λho=>hn (.inr ho)));have I:∀ d v,Rep U w (Live β s.h) d v->Rep U w' (Live (β.shut D) h2) d v:=λd v r=>r.mono E.size L (λb _ A=>K b A);have S:∀ (t:Ty) (x:den U.T t) (v:Value),VIs w (Live β s.h) t x v->VIs w' (Live (β.shut D) h2) t x v:=λt x v r=>r.mono E.size L (λb _ A=>K b A);have J:∀ id o b,look id h1=some o->Has (β id) b->w'.heap[b]? =w.heap[b]? :=λid o b hl A=>G b ((R.obj id o (k id o hl)).blk A).2 (.inr ⟨id,o,hl,A⟩);have hcell:∀ c v,CRel w β s.h c v->CRel w' (β.shut D) h2 (L0 h1 c) v:=by
  intro c v r;cases c with
  |un=>trivial
  |d x=>exact I _ _ r
  |row id ver=>
   simp only [L0];split
   .rename_i e t l ver' lv hl;split
    .rename_i A;have A:=cn5 A;obtain ⟨e2,t2,l2,ver2,lv2,a,m,C⟩:=r;rw [k id _ hl] at a;simp only [cn4,Ob.row.injEq] at a;obtain ⟨_,_,_,rfl,_⟩:=a;exact ⟨e,t,l,0,lv,H id _ hl,Nat.le_refl _,λ_=>C A⟩
    .trivial
   .trivial
  |ptr id off=>
   simp only [L0];split
   .rename_i e cs hl;obtain ⟨e2,cs2,b,a,m,C⟩:=r;exact ⟨e,_,b,H id _ hl,m,C⟩
   .trivial
  |elt id ver i off=>trivial
  |rd cs off=>obtain ⟨g,o,X,hM,hg,hc⟩:=r;refine ⟨g,o,X,λhh=>hM (K g hh),Nat.lt_of_lt_of_le hg E.size,λj d hd=>?_⟩;obtain ⟨u,Y,hr⟩:=hc j d hd;exact ⟨u,by rw [<-Y];exact World.cell?_of_block (L g hg hM),I _ _ hr⟩
  |gl g=>exact r
  |lit u=>exact r
  |map id=>
   simp only [L0];split
   .rename_i hl;obtain ⟨kt,vt,l,a,m⟩:=r;rw [k id _ hl] at a;simp only [cn4,Ob.map.injEq] at a;exact ⟨_,_,_,H id _ hl,m⟩
   .trivial
  |clo f ids=>
   simp only [L0,co7];split
   .rename_i hall;obtain ⟨bs,a,m,C⟩:=r;refine ⟨bs,a,m,λj id b hj A=>?_⟩;obtain ⟨e,cs,N,Z⟩:=C j id b hj A;have Q:=cq4.1 hall id (List.mem_iff_getElem?.2 ⟨j,hj⟩);split at Q
    .rename_i e' cs' hl;exact ⟨e',_,H id _ hl,Z⟩
    .cases Q
   .trivial
  |yld id=>
   simp only [L0];split
   .rename_i hl;obtain ⟨st,a,m⟩:=r;exact ⟨_,H id _ hl,m⟩
   .trivial
  |ifc t b ds=>obtain ⟨vs,a,m,C,N,Z⟩:=r;exact ⟨vs,a,m,C,N,λj d u hd Y=>I _ _ (Z j d u hd Y)⟩
  |tab g i=>exact r
  |tabf fs i=>exact r
  |bnd f id=>
   simp only [L0];split
   .rename_i e cs hl;obtain ⟨e2,cs2,b,a,m,C⟩:=r;exact ⟨e,_,b,H id _ hl,m,C⟩
   .trivial
  |dc id c=>
   simp only [L0];split
   .rename_i D hl;split
    .rename_i c' hc;obtain ⟨D',a,m⟩:=r;rw [k id _ hl] at a;simp only [cn4,Ob.dp.injEq] at a;subst a;exact ⟨_,H id _ hl,aZ2 hc m⟩
    .trivial
   .trivial
 have M:∀ cs vs,CsRel w β s.h cs vs->CsRel w' (β.shut D) h2 (cs.map (L0 h1)) vs:=by intro cs vs r;refine ⟨by simpa using r.1,r.2.1,λj c v hc X=>?_⟩;simp only [co9,co1] at hc;obtain ⟨c',h3,rfl⟩:=hc;exact hcell c' v (r.2.2 j c' v h3 X)
 have hpv:∀ p v σ σ',PRel w β s.h σ p v->PRel w' (β.shut D) h2 σ' (aA3 h1 p) v:=by
  intro p v σ σ' r;cases p with
  |un=>trivial
  |one c=>exact M [c] [v] r
  |agg cs=>obtain ⟨vs,X,hc⟩:=r;exact ⟨vs,X,M cs vs hc⟩
  |tup xs=>
   obtain ⟨vs,X,hl,Q⟩:=r;refine ⟨vs,X,by simpa using hl,λj x u hj Y=>?_⟩;simp only [co9,co1] at hj;obtain ⟨x',h3,rfl⟩:=hj;have:=Q j x' u h3 Y;obtain ⟨b,cs⟩:=x';cases b with
   |true=>obtain ⟨vs',h4,P⟩:=this;exact ⟨vs',h4,M cs vs' P⟩
   |false=>exact M cs [u] this
  |opt gs p=>trivial
 have V:F.w0.heap.size<=w.heap.size:=R.bel.size;refine ⟨⟨⟨Below.refl _ _,Nat.le_trans R.hB E.size,λid o hl=>?_,λid o id' o' b a m=>?_,λb A hK=>rfl,λid o b a m=>?_,λid o b a m=>?_,λb A=>?_,by show (β.shut D).M=_;unfold Nm.shut Fr.shut;simp only [R.Meq],λid o v a m=>?_,R.nmg,λg fs hgf=>?_⟩,R.sz,λt p hl=>?_⟩,λt gs p hl=>?_⟩
 .obtain ⟨o',h3,rfl⟩:=z id o hl;have ro:=R.obj id o' (k id o' h3);cases o' with
  |box e cs=>obtain ⟨b,vs,a,m,C,N⟩:=ro;exact ⟨b,vs,a,m,(J id _ b h3 (by rw [a];rfl)).trans C,M cs _ N⟩
  |row e t l ver lv=>
   obtain ⟨xs,a,m,C,N⟩:=ro;refine ⟨xs,?_,m,C,λi x Q j d hd=>?_⟩
   .exact a.kept (λb A=>J id _ b h3 (a.has A))
   .obtain ⟨u,Y,hr⟩:=N i x Q j d hd;exact ⟨u,Y,I _ _ hr⟩
  |map kt vt l=>obtain ⟨b,es,clock,a,m,C,N,Z⟩:=ro;exact ⟨b,es,clock,a,m,(J id _ b h3 (by rw [a];rfl)).trans C,N,λi x y Q hy=>⟨S _ _ _ (Z i x y Q hy).1,S _ _ _ (Z i x y Q hy).2⟩⟩
  |loop st=>obtain ⟨b,r,a,m,C,N⟩:=ro;exact ⟨b,r,a,m,(J id _ b h3 (by rw [a];exact rfl)).trans C,N⟩
  |dp D=>exact DRel.fresh I (λmid v r=>hcell (.map mid) v r) (λb A=>J id _ b h3 A) ro
 .obtain ⟨O,h3,_⟩:=z id o a;obtain ⟨o2,h4,_⟩:=z id' o' m;exact R.dis id O id' o2 b (k _ _ h3) (k _ _ h4)
 .obtain ⟨O,h3,_⟩:=z id o a;exact .inl ⟨R.own id O b (k _ _ h3) m,W id O b h3 m⟩
 .obtain ⟨O,h3,_⟩:=z id o a;rintro (hm|hm)
  .exact R.Mo id O b (k _ _ h3) m hm
  .exact W id O b h3 m hm
 .have hlt:b<w.heap.size:=by
   have hL:Live β s.h b:=by
    rcases A with A|A
    .exact .inl A
    .exact hD b A
   rcases hL with hm|⟨id,o,a,_,C⟩
   .exact Nat.lt_of_lt_of_le (R.Mlt b hm) V
   .exact ((R.obj id o a).blk C).2
  exact Nat.lt_of_lt_of_le hlt E.size
 .obtain ⟨O,h3,rfl⟩:=z id o a;refine (R.fix id O v (k _ _ h3) m).imp (λhr=>?_) (λhr=>hr);cases O<;>simp_all [Ob.isRow,S3]
 .obtain ⟨a,m,C⟩:=R.glo g fs hgf;have hgw:g<w.heap.size:=Nat.lt_of_lt_of_le a V;have hno:¬ Own β s.h g:=by
   rintro ⟨id,o,r1,r2,r3⟩;rcases R.own id o g r1 r3 with P|P
   .exact m P
   .omega
  have hheq:w'.heap[g]? =F.w0.heap[g]? :=(G g hgw (.inl hno)).trans (R.frm g a m);refine ⟨Nat.lt_of_lt_of_le hgw E.size,λhk=>?_,λi f hf=>?_⟩
  .rcases hk.1 with P|P
   .exact m P
   .omega
  .rw [<-C i f hf];exact World.cell?_of_block hheq
 .rw [L7] at hl;simp only [co1] at hl;obtain ⟨q,hq,rfl⟩:=hl;exact hpv q _ _ _ (R.tmp t q (L8 hq))
 .rw [L7] at hl;simp only [co1] at hl;obtain ⟨q,hq,hq2⟩:=hl;cases q<;>simp [aA3] at hq2
theorem ah1 {tmps:Array Value} (R:Rel F n β s tmps w) (ks hs:List Nat):Rel F n β (s.keep ks hs) tmps w/\OptIn (λ_=>False) (s.keep ks hs).σ:=
 aD7 R ks hs (Below.refl _ _) (λ_ _ _=>rfl)
theorem ak6 {α:Type} {l l':List (Nat×α)}:∀ {ks:List Nat},(∀ k∈ks,look k l=look k l')->T8 l ks=T8 l' ks
 |[],_=>rfl
 |k::r,h=>by simp only [T8];rw [h k (by simp),ak6 (ks:=r) (λj a=>h j (by simp [a]))]
theorem bu9 {s s':St U} {ks hs:List Nat} (h1:∀ k∈ks,look k s.σ=look k s'.σ) (h2:∀ id∈hs,look id s.h=look id s'.h):s.keep ks hs=s'.keep ks hs:=by unfold St.keep;rw [ak6 h1,ak6 h2]
theorem az2 {α:Type} {l:List (Nat×α)} {k:Nat} {v:α}:∀ {ks:List Nat},look k (T8 l ks)=some v->k∈ks
 |[],h=>by simp [T8,look] at h
 |j::r,h=>by
  simp only [T8] at h;split at h
  .simp only [look] at h;split at h
   .rename_i a;rw [cn5 a];simp
   .simp [az2 h]
  .simp [az2 h]
theorem ah2 {q:Prop}:∀ {xs:List (Wr U)},aQ2 xs q->(∀ x∈xs,x.holds)->q
 |[],h,_=>h
 |x::r,h,a=>by
  unfold aQ2 at h;split at h
  .exact ah2 h (λy b=>a y (by simp [b]))
  .rename_i p c;exact ah2 (h (a x (by simp) p c)) (λy b=>a y (by simp [b]))
theorem aZ3 {k:Nat} {x:Wr U}:∀ {xs:List (Wr U)} {i:Nat},xs[k]? =some x->(∃ b,x.pan=some b)->(i+k)∈ad2 xs i
 |[],i,h,_=>by simp at h
 |y::r,i,h,a=>by
  match k,h with
  |0,h=>simp only [co2,cn4] at h;subst h;obtain ⟨b,c⟩:=a;simp [ad2,c]
  |k+1,h=>
   have:=aZ3 (xs:=r) (i:=i+1) (k:=k) (x:=x) (by simpa using h) a;rw [show i+(k+1)=i+1+k by omega];unfold ad2;split
   .exact this
   .exact List.mem_cons_of_mem _ this
theorem bq3 {ms:Option (List Nat)} {ps:List Nat} {t k:Nat} {y:Wr U}:∀ {xs:List (Wr U)} {i:Nat},aW3 ms ps xs i t=false->xs[k]? =some y->y.dst=some t->(ps.all λq=>Nat.beq (i+k) q||aq7 ms (i+k) q)=true
 |[],i,_,h,_=>by simp at h
 |x::r,i,hl,h,a=>by
  simp only [aW3,Bool.or_eq_false_iff] at hl
  match k,h with
  |0,h=>simp only [co2,cn4] at h;subst h;have h1:aQ3 x.dst [t]=true:=aD4.2 ⟨t,a,by simp⟩;rw [h1,Bool.true_and,Bool.not_eq_false'] at hl;exact hl.1
  |k+1,h=>
   have:=bq3 (xs:=r) (i:=i+1) (k:=k) hl.2 (by simpa using h) a
   rwa [show i+1+k=i+(k+1) by omega] at this
theorem aR6 {ms:Option (List Nat)} {ps:List Nat} {t k:Nat} {y:Wr U}:∀ {xs:List (Wr U)} {i:Nat},aQ5 ms ps xs i t=false->xs[k]? =some y->t∈keys y.upd++y.lost->(ps.all λq=>!(Nat.beq (i+k) q)&&aq7 ms (i+k) q)=true
 |[],i,_,h,_=>by simp at h
 |x::r,i,hl,h,a=>by
  simp only [aQ5,Bool.or_eq_false_iff] at hl
  match k,h with
  |0,h=>simp only [co2,cn4] at h;subst h;have h1:X8 (keys x.upd++x.lost) [t]=true:=aD5.2 ⟨t,a,by simp⟩;rw [h1,Bool.true_and,Bool.not_eq_false'] at hl;exact hl.1
  |k+1,h=>
   have:=aR6 (xs:=r) (i:=i+1) (k:=k) hl.2 (by simpa using h) a
   rwa [show i+1+k=i+(k+1) by omega] at this
theorem cj9 {ds:List Deferred} {Qp:PanV U->St U->Prop} {Q:Exit->Act->World->Prop} {ms:Option (List Nat)}
  (K:∀ v u s' β' a' w',Qp v s'->an7 v u->Rel F n β' s' a'.tmps w'->OptIn (λ_=>False) s'.σ->a'.defers=ds->Q (.panic [{ v:=u,recovered:=false }]) a' w'):cb6 F n ms xs s ds (λv=>Qp v (s.gone ms xs)) Q:=by
 intro S k x β a w w' v u H R T L r c M N p q f;have d:k∈ad2 xs 0:=by
  have:=aZ3 (i:=0) H r
  rwa [Nat.zero_add] at this
 have z:∀ t∈((s.σ.map (·.1)).filter λj=>!(aW3 ms (ad2 xs 0) xs 0 j)),look t (stS S xs 0 s).σ=look t s.σ:=by
  intro t O;have h1:aW3 ms (ad2 xs 0) xs 0 t=false:=by simpa using (List.mem_filter.1 O).2
  have h2:look t (stS S xs 0 s).σ=look t (stS (λ_=>false) xs 0 s).σ:=c1s rfl (λj y A g=>by
   have h3:=bq3 h1 A g;rw [Nat.zero_add] at h3 |-;cases B:S j with
   |false=>rfl
   |true=>
    exfalso;obtain ⟨I,C⟩:=c j B;have h4:=cq4.1 h3 k d;rw [C,Bool.or_false] at h4;exact I (cn5 h4))
  rw [h2,W0]
 have D:∀ id∈((keys s.h).filter λid=>!(aQ5 ms (ad2 xs 0) xs 0 id)),look id (stS S xs 0 s).h=look id s.h:=by
  intro id l;have h1:aQ5 ms (ad2 xs 0) xs 0 id=false:=by simpa using (List.mem_filter.1 l).2
  have h2:look id (stS S xs 0 s).h=look id (stS (λ_=>false) xs 0 s).h:=c1h rfl (λj y A g=>by
   have h3:=aR6 h1 A (cq1.2 (.inl g));rw [Nat.zero_add] at h3 |-;cases B:S j with
   |false=>rfl
   |true=>
    exfalso;obtain ⟨I,C⟩:=c j B;have h4:=cq4.1 h3 k d;rw [C,Bool.and_false] at h4;cases h4)
  rw [h2,W0]
 have E:(stS S xs 0 s).keep ((s.σ.map (·.1)).filter λj=>!(aW3 ms (ad2 xs 0) xs 0 j)) ((keys s.h).filter λid=>!(aQ5 ms (ad2 xs 0) xs 0 id))=s.gone ms xs:=bu9 z D;have:=aD7 R ((s.σ.map (·.1)).filter λj=>!(aW3 ms (ad2 xs 0) xs 0 j)) ((keys s.h).filter λid=>!(aQ5 ms (ad2 xs 0) xs 0 id)) q (λb P G=>f b P (λid l o hl m e=>by
  rcases G with G|⟨id',o',h1,h2⟩
  .exact G ⟨id,o,hl,m,e⟩
  .have h3:=L8 h1;have:=R.dis id o id' o' b hl h3 e h2;subst this;have h4:aQ5 ms (ad2 xs 0) xs 0 id=false:=by simpa using (List.mem_filter.1 (az2 h1)).2
   have J:=cq4.1 (aR6 h4 H l) k d;rw [Nat.zero_add,Nat.beq_refl] at J;cases J))
 rw [E] at this;exact K v u _ β a w' N p this.1 this.2 L
theorem aZ4 {N:Nat}:∀ {r:List Oper} {ds ds':List (Option Tmp)},(∀ p:Option Tmp->Bool,ds.all p=ds'.all p)->N7 N r ds=N7 N r ds'
 |[],_,_,_=>rfl
 |o::r,ds,ds',h=>by
  simp only [N7];have h1:aj7 N ds o.dst=aj7 N ds' o.dst:=by
   unfold aj7;split
   .rw [h]
   .rfl
  rw [h1,aZ4 (ds:=ds++[o.dst]) (ds':=ds'++[o.dst]) (λp=>by simp only [List.all_append];rw [h])]
theorem aL6 {N:Nat} {ds:List (Option Tmp)} {x y:Option Tmp}:aj7 N (ds++[x]) y=(aj7 N ds y&&aj7 N ((ds++[x]).drop ds.length) y):=by
 cases y with
 |none=>rfl
 |some d=>simp only [aj7,List.drop_left,List.all_append,List.all_cons,List.all_nil,Bool.and_true];cases Nat.blt d N<;>simp
theorem bv0 {N:Nat} {x y:Oper} {r:List Oper} {ds:List (Option Tmp)} (h:N7 N (x::y::r) ds=true):N7 N (y::x::r) ds=true:=by
 simp only [N7,cn7] at h |-;obtain ⟨h1,h2,h3⟩:=h;rw [aL6,cn7] at h2;refine ⟨h2.1,?_,?_⟩
 .rw [aL6,cn7];refine ⟨h1,?_⟩;have h4:=h2.2;rw [List.drop_left] at h4 |-;cases a:x.dst with
  |none=>rfl
  |some d=>
   rw [a] at h1 h4;simp only [aj7,cn7] at h1;cases b:y.dst with
   |none=>simp [aj7,h1.1]
   |some d'=>
    rw [b] at h4;simp only [aj7,List.all_cons,List.all_nil,Bool.and_true,cn7] at h4 |-;refine ⟨h1.1,?_⟩;have:=h4.2;simp only [Bool.not_eq_true'] at this |-;cases c:Nat.beq d d' with
    |false=>rfl
    |true=>have:=cn5 c;subst this;simp_all
 .rw [<-h3];refine aZ4 (λp=>?_);simp only [List.all_append,List.all_cons,List.all_nil,Bool.and_true,Bool.and_assoc];rw [Bool.and_comm (p y.dst)]
theorem aL7 {N:Nat} {x:Oper} {l l':List Oper} {ds:List (Option Tmp)} (h:∀ ds,N7 N l ds=true->N7 N l' ds=true) (a:N7 N (x::l) ds=true):N7 N (x::l') ds=true:=by simp only [N7,cn7] at a |-;exact ⟨a.1,h _ a.2⟩
theorem aL8 {N:Nat} {P:Program} {x:Oper}:∀ {l:List Oper} {ds:List (Option Tmp)},N7 N (x::l) ds=true->N7 N (sink P x l) ds=true
 |[],_,h=>h
 |y::r,ds,h=>by
  simp only [sink];cases bt3 P x y with
  |false=>exact h
  |true=>exact aL7 (λds h=>aL8 h) (bv0 h)
theorem aD8 {N:Nat} {P:Program}:∀ {l:List Oper} {ds:List (Option Tmp)},N7 N l ds=true->N7 N (ai1 P l) ds=true
 |[],_,h=>h
 |x::r,ds,h=>by
  have h1:=aL7 (l':=ai1 P r) (λds h=>aD8 h) h;simp only [ai1];cases V5 x with
  |false=>exact h1
  |true=>exact aL8 h1
theorem aL9 {pos:Nat->Nat}:∀ {l:List Oper} {k:Nat},I0 l=true->ahead pos false l k=true
 |[],_,_=>rfl
 |o::r,k,h=>by
  simp only [I0,List.all_cons,cn7] at h;have hg:o.guard=none:=by simpa using h.1
  simp only [ahead,hg,Bool.not_false,Bool.true_or,Bool.true_and];exact aL9 h.2
theorem bv1 {Y:Fr} {ro:Option Nat} (t:E.Fits) (x:E.Sound Y) (z:O0 Y F E.yl) (l:F.G=E.G) (hm:E.P.follows .mixedOrders=true) {X id:Nat} (ok:(N7 n ops.toList []&&aA1 false ops.toList)=true) (R:Rel F n β s a.tmps w) (A:OptIn (λ_=>False) s.σ) {Q':St U->Prop} {Qp:PanV U->St U->Prop}
  (hr:region E X id false ops.toList s Qp Q') {Q:Exit->Act->World->Prop} (B:∀ s' β' a' w',Q' s'->Rel F n β' s' a'.tmps w'->OptIn (λ_=>False) s'.σ->a'.defers=a.defers->Q .normal a' w')
  (C:∀ v u s' β' a' w',Qp v s'->an7 v u->Rel F n β' s' a'.tmps w'->OptIn (λ_=>False) s'.σ->a'.defers=a.defers->Q (.panic [{ v:=u,recovered:=false }]) a' w'):wpOpsIn (fen E.P ro) 0 E.P ops Q (List.range ops.size) a w:=by
 unfold region at hr;split at hr
 case h_2=>exact hr.elim
 rename_i ls m;obtain ⟨xs,s',e,c⟩:=U1 m;have hr:=aD0 hr e;cases d:(!false||aJ1 [] xs (N4 (T7 false ops.toList) (osOf false ops.toList) [])) with
 |false=>rw [d] at hr;exact hr.elim
 |true=>
  rw [d] at hr;simp only [cond_true] at hr;have hr:=ah2 hr c.fact;obtain ⟨f,r⟩:=aD3 hr (pre:=[]) rfl (λi b H=>by simp at H);simp only [List.nil_append,Nat.zero_add] at f r;simp only [cn7] at ok;obtain ⟨o,p⟩:=aY7 ok.2;have G:Reg E false n ops (T7 false ops.toList) (osOf false ops.toList) (bif false then some (N4 (T7 false ops.toList) (osOf false ops.toList) []) else none) (λv=>Qp v (s.gone (bif false then some (N4 (T7 false ops.toList) (osOf false ops.toList) []) else none) xs)) s xs s':=⟨c,⟨_,o⟩,ok.1,p,f⟩;have g:ai2 xs (λ_=>True)->∀ β' a' w',Rel F n β' s' a'.tmps w'->OptIn (Dset (λ_=>true) xs) s'.σ->a'.defers=a.defers->Q .normal a' w':=by intro I β' a' w' R' J K;obtain ⟨h1,h2⟩:=bF6 (D:=λ_=>False) R' X;exact B _ β' a' w' (r I) h1 h2 K
  have q:=cj9 (F:=F) (n:=n) (s:=s) (xs:=xs) (ms:=bif false then some (N4 (T7 false ops.toList) (osOf false ops.toList) []) else none) (ds:=a.defers) (Qp:=Qp) (Q:=Q) C;rw [List.range_eq_range'];have h:ad1 false ops.toList=true:=by have:=ok.2;unfold aA1 at this;simpa using this
  exact bh2 t x z l G (λk=>by simp [T7,h]) g q ops.size 0 (by simp) β a w (λj y b L=>absurd L (Nat.not_lt_zero j)) (by rw [ao5];exact R) (by rw [ao5];exact A.mono (λ_ hf=>hf.elim)) rfl
theorem bF8 {Y:Fr} {ro:Option Nat} (J:E.Fits) (K:E.Sound Y) (L:O0 Y F E.yl) (m:F.G=E.G) (hm:E.P.follows .mixedOrders=true) {X id:Nat} {drawn:Bool} (ok:(N7 n ops.toList []&&aA1 drawn ops.toList)=true) (R:Rel F n β s a.tmps w) (M:OptIn (λ_=>False) s.σ) {Q':St U->Prop} {Qp:PanV U->St U->Prop}
  (hr:region E X id drawn ops.toList s Qp Q') {Q:Exit->Act->World->Prop} (O:∀ s' β' a' w',Q' s'->Rel F n β' s' a'.tmps w'->OptIn (λ_=>False) s'.σ->a'.defers=a.defers->Q .normal a' w')
  (S:∀ v u s' β' a' w',Qp v s'->an7 v u->Rel F n β' s' a'.tmps w'->OptIn (λ_=>False) s'.σ->a'.defers=a.defers->Q (.panic [{ v:=u,recovered:=false }]) a' w'):(Code.region id ops drawn).wpIn (fen E.P ro) 0 E.P Q a w:=by
 unfold region at hr;split at hr
 case h_2=>exact hr.elim
 rename_i ls H;obtain ⟨xs,s',q,d⟩:=U1 H;have hr:=aD0 hr q;cases c:(!drawn||aJ1 [] xs (N4 (T7 drawn ops.toList) (osOf drawn ops.toList) [])) with
 |false=>rw [c] at hr;exact hr.elim
 |true=>
  rw [c] at hr;simp only [cond_true] at hr;have hr:=ah2 hr d.fact;obtain ⟨r,N⟩:=aD3 hr (pre:=[]) rfl (λi b T=>by simp at T);simp only [List.nil_append,Nat.zero_add] at r N;simp only [cn7] at ok;obtain ⟨z,I⟩:=aY7 ok.2;have G:Reg E drawn n ops (T7 drawn ops.toList) (osOf drawn ops.toList) (bif drawn then some (N4 (T7 drawn ops.toList) (osOf drawn ops.toList) []) else none) (λv=>Qp v (s.gone (bif drawn then some (N4 (T7 drawn ops.toList) (osOf drawn ops.toList) []) else none) xs)) s xs s':=⟨d,⟨_,z⟩,ok.1,I,r⟩;have f:ai2 xs (λ_=>True)->∀ β' a' w',Rel F n β' s' a'.tmps w'->OptIn (Dset (λ_=>true) xs) s'.σ->a'.defers=a.defers->Q .normal a' w':=by intro V β' a' w' R' W Z;obtain ⟨h1,h2⟩:=bF6 (D:=λ_=>False) R' X;exact O _ β' a' w' (N V) h1 h2 Z
  have A:=cj9 (F:=F) (n:=n) (s:=s) (xs:=xs) (ms:=bif drawn then some (N4 (T7 drawn ops.toList) (osOf drawn ops.toList) []) else none) (ds:=a.defers) (Qp:=Qp) (Q:=Q) S;cases drawn with
  |false=>
   refine wpIn_region ?_;rw [List.range_eq_range'];have B:ad1 false ops.toList=true:=by have:=ok.2;unfold aA1 at this;simpa using this
   exact bh2 J K L m G (λk=>by simp [T7,B]) f A ops.size 0 (by simp) β a w (λj y b g=>absurd g (Nat.not_lt_zero j)) (by rw [ao5];exact R) (by rw [ao5];exact M.mono (λ_ hf=>hf.elim)) rfl
  |true=>
   have hI:aJ1 [] xs (N4 (T7 true ops.toList) (osOf true ops.toList) [])=true:=by simpa using c
   have C:Q9 (aW2 true ops.toList) (Array.replicate ops.size false)=λ_=>false:=by
    funext j;show aZ1 (Array.replicate ops.size false) (aW2 true ops.toList)[j]? =false;cases (aW2 true ops.toList)[j]? with
    |none=>rfl
    |some k=>
     show (Array.replicate ops.size false).getD k false=false;rw [Array.getD_eq_getD_getElem?];by_cases g:k<ops.size
     .simp [g]
     .simp [g]
   have R0:Rel F n β s a.tmps { w with drawn:=w.drawn+1 }:=by have x:Ext w β s.h { w with drawn:=w.drawn+1 } β s.h:=⟨Nat.le_refl _,λ_ _ _=>rfl,λ_ _ h=>h,rfl,λid e cs hl=>⟨rfl,cs,hl⟩,λid e t l ver lv hl=>⟨l,ver,lv,hl,Nat.le_refl _,λ_=>⟨rfl,rfl⟩⟩,λid o hl ho=>⟨rfl,rfl,o,hl,Ob.like_refl ho⟩,λid D hl=>⟨D,hl,λ_ _ h=>h⟩⟩;exact ⟨⟨⟨R.bel.os,R.bel.tape,R.bel.output,R.bel.size,R.bel.block⟩,R.hB,λid o hl=>x.o rfl rfl (λ_ _=>rfl) (R.obj id o hl),R.dis,R.frm,R.own,R.Mo,R.Mlt,R.Meq,R.fix,R.nmg,R.glo⟩,R.sz,λt p hl=>x.p (R.tmp t p hl)⟩
   refine wpIn_region_any hm ?_;refine cj8 J K L m G z hI f A ops.size _ (by simp) ?_ (by rw [C,aZ0]) (by rw [C];exact λj y b g=>by cases g) β a _ (by rw [C,W0];exact R0) (by rw [C,W0];exact M.mono (λ_ hf=>hf.elim)) rfl;rw [C];intro j o g;cases g
theorem aZ5 {q:Prop}:∀ {x y:List (Bool×List (Cell U))},eqTs x y q->x=y/\q
 |[],[],h=>⟨rfl,h⟩
 |[],_::_,h=>h.elim
 |_::_,[],h=>h.elim
 |(b,x)::r,(b',y)::r',h=>by
  simp only [eqTs] at h;revert h;cases a:(b==b') with
  |false=>intro h;exact False.elim h
  |true=>intro h;simp only [beq_iff_eq] at a;subst a;obtain ⟨rfl,h2⟩:=an8 (show eqCs x y (eqTs r r' q) from h);obtain ⟨rfl,h3⟩:=aZ5 h2;exact ⟨rfl,h3⟩
theorem bS1 {x y:PV U} {q:Prop} (h:eqP x y q):x=y/\q:=by
 unfold eqP at h;split at h
 .exact ⟨rfl,h⟩
 .obtain ⟨rfl,a⟩:=bp4 h;exact ⟨rfl,a⟩
 .obtain ⟨rfl,a⟩:=an8 h;exact ⟨rfl,a⟩
 .obtain ⟨rfl,a⟩:=aZ5 h;exact ⟨rfl,a⟩
 .exact h.elim
theorem aR7 {α:Type} {f:α->α->Prop->Prop} (hf:∀ {x y q},f x y q->x=y/\q) {q:Prop}:∀ {x y:List (Nat×α)},eqL f x y q->x=y/\q
 |[],[],h=>⟨rfl,h⟩
 |[],_::_,h=>h.elim
 |_::_,[],h=>h.elim
 |(k,x)::r,(k',y)::r',h=>by
  simp only [eqL] at h;revert h;cases hc:Nat.beq k k' with
  |false=>intro h;exact False.elim h
  |true=>intro h;have h1:=cn5 hc;subst h1;obtain ⟨rfl,h2⟩:=hf (show f x y (eqL f r r' q) from h);obtain ⟨rfl,h3⟩:=aR7 hf h2;exact ⟨rfl,h3⟩
theorem ao6 {x y:St U} {q:Prop} (h:eqSt x y q):x=y/\q:=by obtain ⟨a,b⟩:=x;obtain ⟨c,d⟩:=y;obtain ⟨h1,h2⟩:=aR7 bS1 h;obtain ⟨h3,h4⟩:=aR7 bp5 h2;dsimp only at h1 h3;subst h1;subst h3;exact ⟨rfl,h4⟩
theorem cm9 {S:Nat->Prop}:∀ {m:Nat},S m->∃ k,S k/\∀ j,S j->k<=j:=by
 intro m
 induction m using Nat.strongRecOn with
 |ind m ih=>
  intro hm;by_cases h:∃ j,j<m/\S j
  .obtain ⟨j,a,b⟩:=h;exact ih j a b
  .exact ⟨m,hm,λj a=>by
    rcases Nat.lt_or_ge j m with h1|h1
    .exact absurd ⟨j,h1,a⟩ h
    .exact h1⟩
theorem aM0 {ro:Option Nat} {P:Program} {α:Type} {c:Code} {Q:Exit->Act->World->Prop} (I:α->Act->World->Prop) (μ:α->Nat) {p0:α} (h0:I p0 a w)
  (round:∀ p a w,I p a w->c.wpIn (fen E.P ro) 0 P (Exit.then (λa' w'=>∃ p',I p' a' w'/\μ p'<μ p) Q) a w):(Code.loop c).wpIn (fen E.P ro) 0 P Q a w:=by
 classical
 let m:Act->World->Nat:=λa w=>if h:∃ k,(∃ p,I p a w/\μ p=k)/\∀ j,(∃ p,I p a w/\μ p=j)->k<=j then Classical.choose h else 0
 have hm:∀ a w p,I p a w->(∃ q,I q a w/\μ q=m a w)/\m a w<=μ p:=by
  intro a w p d;have h:∃ k,(∃ p,I p a w/\μ p=k)/\∀ j,(∃ p,I p a w/\μ p=j)->k<=j:=cm9 (S:=λk=>∃ p,I p a w/\μ p=k) ⟨p,d,rfl⟩;have hm:m a w=Classical.choose h:=by simp only [m];rw [dif_pos h]
  have b:=Classical.choose_spec h;rw [hm];exact ⟨b.1,b.2 _ ⟨p,d,rfl⟩⟩
 refine wpIn_loop (λa w=>∃ p,I p a w) m ⟨p0,h0⟩ (λa w ⟨p,d⟩=>?_);obtain ⟨⟨q,g,i⟩,_⟩:=hm a w p d;refine wpIn_mono (round q a w g) (λe a' w' f=>?_);cases e with
 |normal=>obtain ⟨p',h1,h2⟩:=f;exact ⟨⟨p',h1⟩,by have:=(hm a' w' p' h1).2;omega⟩
 |_=>exact f
theorem bh3 (k:Ok F w β h) {id:Nat} (hf:look id h=none) (e:TypeId) (t:Ty):After F w β h w (upd1 β id (.slice none 0 0)) (write id (.row e t [] 0 true) h):=
 Q8 k (Below.refl _ _) hf (.inl rfl) (λg hg=>(U0 hg).elim) (λx=>⟨[],by rw [C2];exact Owns.of (World.ownsRow_nil _ _ _ _),by simp [most],by simp,λi y a=>by simp at a⟩)
theorem bq4 (k:Ok F w β h) {id:Nat} (hf:look id h=none) (e:TypeId) (t:Ty) (m:List Nat):After F w β h w (upd1 β id (.tuple ((.slice none 0 0:Value)::[]).toArray)) (write id (.dp (.rows e t m [] 0 0 true none)) h):=by
 refine Q8 k (Below.refl _ _) hf (.inl rfl) (λg hg=>?_) (λx=>?_)
 .rcases C3.1 hg with h1|⟨p,q,h1,_⟩
  .simp [D5] at h1
  .simp at h1
 .exact X6 ⟨.slice none 0 0,[],[],rfl,Owns.of (World.ownsRow_nil _ _ _ _),by simp [most],by simp,rfl,λi x f=>by simp at f,λp q a c b d=>by simp at d,λp a b d=>by simp at d⟩ (C2 _ _ _)
theorem bF9 {tmps:Array Value} (R:Rel F n β s tmps w) {id:Nat} (hid:id<1000000) {o0 o:Ob U} (hl:look id s.h=some o0) (V:o0.live=true) {b:Option Nat} {N':Value} (hsub:∀ g,Has N' g->Has (β id) g)
  (hnew:(∀ d v,Rep U w (Live β s.h) d v->Rep U w (Live (upd1 β id N') (s.cvt id b o).h) d v)->(∀ g,Has (β id) g->¬ Has N' g->¬ Live (upd1 β id N') (s.cvt id b o).h g)->ORel F.B w (upd1 β id N') (s.cvt id b o).h id o)
  (hcell:∀ c v,CRel w β s.h c v->(cvK id b c=c/\id∉ids1 c)\/∀ h',look id h'=some o->CRel w (upd1 β id N') h' (cvK id b c) v):∃ β',Rel F n β' (s.cvt id b o) tmps w/\OptIn (λ_=>False) (s.cvt id b o).σ:=by
 have O:∀ (l:Obs U) j,look j (l.map λx=>(x.1,bif Nat.beq x.1 id then o else cvO id b x.2))=if j=id then (look j l).map (λ_=>o) else (look j l).map (cvO id b):=by
  intro l j
  induction l with
  |nil=>simp [look]
  |cons x r ih=>
   obtain ⟨i,a⟩:=x;simp only [List.map_cons,look];by_cases hij:i=j
   .subst hij;simp only [Nat.beq_refl,if_true];by_cases hi:i=id
    .subst hi;simp
    .simp [hi,N0 hi]
   .simp only [N0 hij,Bool.false_eq_true,if_false];exact ih
 have hlid:look id (s.cvt id b o).h=some o:=by show look id (s.h.map _)=_;rw [O,if_pos rfl,hl];rfl
 have J:∀ j C,look j s.h=some C->j≠id->look j (s.cvt id b o).h=some (cvO id b C):=by intro j C h1 k;show look j (s.h.map _)=_;rw [O,if_neg k,h1];rfl
 have K:∀ j C,look j (s.cvt id b o).h=some C->(j=id/\C=o)\/(j≠id/\∃ L,look j s.h=some L/\C=cvO id b L):=by
  intro j C h1;rw [show (s.cvt id b o).h=s.h.map (λx=>(x.1,bif Nat.beq x.1 id then o else cvO id b x.2)) from rfl,O] at h1;split at h1
  .rename_i k;subst k;rw [hl] at h1;exact .inl ⟨rfl,by simpa using h1.symm⟩
  .rename_i k;simp only [co1] at h1;obtain ⟨L,h2,h3⟩:=h1;exact .inr ⟨k,L,h2,h3.symm⟩
 have hlvO:∀ C:Ob U,(cvO id b C).live=C.live:=by
  intro C;cases C with
  |dp D=>cases D with
   |iter mid kt vt n seen cur=>cases mid<;>rfl
   |_=>rfl
  |_=>rfl
 have X:∀ C:Ob U,(cvO id b C).isRow=C.isRow:=by
  intro C;cases C with
  |dp D=>cases D with
   |iter mid kt vt n seen cur=>cases mid<;>rfl
   |_=>rfl
  |_=>rfl
 have hβ:∀ j,j≠id->(upd1 β id N') j=β j:=λj k=>ag3 β N' k;have hβi:(upd1 β id N') id=N':=C2 _ _ _;have E:∀ j g,Has ((upd1 β id N') j) g->Has (β j) g:=by
  intro j g hg;by_cases k:j=id
  .subst k;rw [hβi] at hg;exact hsub g hg
  .rw [hβ j k] at hg;exact hg
 have S:∀ g,Live (upd1 β id N') (s.cvt id b o).h g->Live β s.h g:=by
  rintro g (hm|⟨j,C,h1,h2,h3⟩)
  .exact .inl hm
  .rcases K j C h1 with ⟨rfl,rfl⟩|⟨k,L,h4,rfl⟩
   .exact .inr ⟨_,o0,hl,V,E _ g h3⟩
   .rw [hlvO] at h2;exact .inr ⟨j,L,h4,h2,E j g h3⟩
 have G:∀ d v,Rep U w (Live β s.h) d v->Rep U w (Live (upd1 β id N') (s.cvt id b o).h) d v:=λd v r=>r.mono (Nat.le_refl _) (λ_ _ _=>rfl) (λg _ hg=>S g hg);have hno:∀ g,Has (β id) g->¬ Has N' g->¬ Live (upd1 β id N') (s.cvt id b o).h g:=by
  rintro g h1 h2 (hm|⟨j,C,h3,h4,h5⟩)
  .exact R.Mo id _ g hl h1 hm
  .rcases K j C h3 with ⟨rfl,rfl⟩|⟨k,L,h6,rfl⟩
   .rw [hβi] at h5;exact h2 h5
   .exact k (R.dis j L id _ g h6 hl (E j g h5) h1)
 have Q:∀ c v,CRel w β s.h c v->CRel w (upd1 β id N') (s.cvt id b o).h (cvK id b c) v:=by
  intro c v r;rcases hcell c v r with ⟨h1,h2⟩|h1
  .rw [h1];cases c with
   |un=>trivial
   |d x=>exact G _ _ r
   |row j ver=>obtain ⟨e,t,l,ver',lv,A,z,H⟩:=r;have k:j≠id:=λI=>h2 (by simp [ids1,I]);exact ⟨e,t,l,ver',lv,J j _ A k,z,λI=>by rw [hβ j k];exact H I⟩
   |ptr j off=>obtain ⟨e,cs,g,A,z,H⟩:=r;have k:j≠id:=λI=>h2 (by simp [ids1,I]);exact ⟨e,_,g,J j _ A k,(hβ j k).trans z,H⟩
   |elt j ver i off=>obtain ⟨e,t,l,ver',lv,A,z,H⟩:=r;have k:j≠id:=λI=>h2 (by simp [ids1,I]);exact ⟨e,t,l,ver',lv,J j _ A k,z,λI=>by rw [hβ j k];exact H I⟩
   |rd cs off=>obtain ⟨g,q,M,hM,hg,hc⟩:=r;refine ⟨g,q,M,λI=>hM (S g I),hg,λj d hd=>?_⟩;obtain ⟨u,Y,hr⟩:=hc j d hd;exact ⟨u,Y,G _ _ hr⟩
   |gl g=>exact r
   |lit u=>exact r
   |map j=>obtain ⟨kt,vt,l,A,z⟩:=r;have k:j≠id:=λI=>h2 (by simp [ids1,I]);exact ⟨kt,vt,l,J j _ A k,by rw [hβ j k];exact z⟩
   |clo f ids=>obtain ⟨bs,A,z,H⟩:=r;refine ⟨bs,A,z,λi j g k hg=>?_⟩;obtain ⟨e,cs,P,Z⟩:=H i j g k hg;have hji:j≠id:=λI=>h2 (by rw [<-I];exact List.mem_of_getElem? k);exact ⟨e,_,J j _ P hji,(hβ j hji).trans Z⟩
   |yld j=>obtain ⟨st,A,z⟩:=r;have k:j≠id:=λI=>h2 (by simp [ids1,I]);exact ⟨st,J j _ A k,by rw [hβ j k];exact z⟩
   |ifc t b' ds=>obtain ⟨vs,A,z,H,P,Z⟩:=r;exact ⟨vs,A,z,H,P,λj d u hd Y=>G _ _ (Z j d u hd Y)⟩
   |tab g i=>exact r
   |tabf fs i=>exact r
   |dc j c=>
    obtain ⟨D,A,z⟩:=r;have k:j≠id:=λI=>h2 (by cases c<;>simp [ids1,I]);have W:=J j _ A k;cases D with
    |iter mid kt vt n seen cur=>
     cases c with
     |it m=>obtain ⟨H,P⟩:=z;subst H;have hm:m≠id:=λI=>h2 (by simp [ids1,I]);simp only [cvO,N0 hm,cond_false] at W;exact ⟨_,W,rfl,by rw [hβ j k];exact P⟩
     |_=>exact z.elim
    |rows e t m l ver iv lv hole=>exact ⟨_,W,by rw [hβ j k];exact z⟩
    |maps kt e t l ver iv lv hole=>exact ⟨_,W,by rw [hβ j k];exact z⟩
   |bnd f j=>obtain ⟨e,cs,g,A,z,H⟩:=r;have k:j≠id:=λI=>h2 (by simp [ids1,I]);exact ⟨e,_,g,J j _ A k,(hβ j k).trans z,H⟩
  .exact h1 _ hlid
 have T:∀ cs vs,CsRel w β s.h cs vs->CsRel w (upd1 β id N') (s.cvt id b o).h (cs.map (cvK id b)) vs:=by intro cs vs r;refine ⟨by simpa using r.1,r.2.1,λj c v hc M=>?_⟩;simp only [co9,co1] at hc;obtain ⟨c',h3,rfl⟩:=hc;exact Q c' v (r.2.2 j c' v h3 M)
 have hpv:∀ p v σ σ',PRel w β s.h σ p v->PRel w (upd1 β id N') (s.cvt id b o).h σ' (cvP id b p) v:=by
  intro p v σ σ' r;cases p with
  |un=>trivial
  |one c=>exact T [c] [v] r
  |agg cs=>obtain ⟨vs,M,hc⟩:=r;exact ⟨vs,M,T cs vs hc⟩
  |tup xs=>
   obtain ⟨vs,M,hl,hx⟩:=r;refine ⟨vs,M,by simpa using hl,λj x u k Y=>?_⟩;simp only [co9,co1] at k;obtain ⟨x',h3,rfl⟩:=k;have:=hx j x' u h3 Y;obtain ⟨b',cs⟩:=x';cases b' with
   |true=>obtain ⟨vs',h4,h5⟩:=this;exact ⟨vs',h4,T cs vs' h5⟩
   |false=>exact T cs [u] this
  |opt gs p=>trivial
 refine ⟨upd1 β id N',⟨⟨R.bel,R.hB,λj C h1=>?_,λj C j' o1' g A z H P=>?_,R.frm,λj C g A z=>?_,λj C g A z=>?_,R.Mlt,R.Meq,λj C v A z=>?_,R.nmg,R.glo⟩,R.sz,λt p h1=>?_⟩,λt gs p h1=>?_⟩
 .rcases K j C h1 with ⟨rfl,rfl⟩|⟨k,L,h3,rfl⟩
  .exact hnew G hno
  .have ro:=R.obj j L h3;have M:(upd1 β id N') j=β j:=hβ j k;cases L with
   |box e cs=>obtain ⟨g,vs,A,z,H,P⟩:=ro;exact ⟨g,vs,M.trans A,z,H,T cs _ P⟩
   |row e t l ver lv=>obtain ⟨xs,A,z,H,P⟩:=ro;refine ⟨xs,by rw [M];exact A,z,H,λi x hx j d hd=>?_⟩;obtain ⟨u,Y,hr⟩:=P i x hx j d hd;exact ⟨u,Y,G _ _ hr⟩
   |map kt vt l=>obtain ⟨g,es,clock,A,z,H,P,Z⟩:=ro;exact ⟨g,es,clock,M.trans A,z,H,P,λi x y hx hy=>⟨(Z i x y hx hy).1.by G,(Z i x y hx hy).2.by G⟩⟩
   |loop st=>obtain ⟨g,r,A,z,H,P⟩:=ro;exact ⟨g,r,M.trans A,z,H,P⟩
   |dp D=>
    cases D with
    |rows e t m l ver iv lv hole=>exact X6 (N:=β j) (D:=.rows e t m l ver iv lv hole) (DRel.mapR (ver:=ver) (iv:=iv) (lv:=lv) G (λ_ _=>rfl) ro) M
    |maps kt e t l ver iv lv hole=>exact X6 (N:=β j) (D:=.maps kt e t l ver iv lv hole) (DRel.mapM (ver:=ver) (iv:=iv) (lv:=lv) G (λ_ _=>rfl) ro) M
    |iter mid kt vt n seen cur=>
     obtain ⟨r,b',last,z1,z2,z3,z4,z5⟩:=ro;cases mid with
     |none=>exact ⟨r,b',last,M.trans z1,z2,z3,z4,λm hm=>by cases hm⟩
     |some m0=>
      refine ⟨r,b',last,M.trans z1,z2,z3,z4,λm hm=>?_⟩;cases hb:Nat.beq m0 id with
      |true=>rw [hb] at hm;cases hm
      |false=>
       rw [hb] at hm;simp only [cond_false,cn4] at hm;subst hm;have h8:=Q (.map m0) _ (z5 m0 rfl);have h9:cvK (U:=U) id b (.map m0)=.map m0:=by cases b<;>simp [cvK,hb]
       rw [h9] at h8;exact h8
 .have h8:∃ o3,look j s.h=some o3:=by
   rcases K j C A with ⟨rfl,_⟩|⟨_,L,h3,_⟩
   .exact ⟨_,hl⟩
   .exact ⟨_,h3⟩
  have h9:∃ o3,look j' s.h=some o3:=by
   rcases K j' o1' z with ⟨rfl,_⟩|⟨_,L,h3,_⟩
   .exact ⟨_,hl⟩
   .exact ⟨_,h3⟩
  obtain ⟨o3,h8⟩:=h8;obtain ⟨o4,h9⟩:=h9;exact R.dis j o3 j' o4 g h8 h9 (E j g H) (E j' g P)
 .rcases K j C A with ⟨rfl,_⟩|⟨_,L,h3,_⟩
  .exact R.own _ _ g hl (E _ g z)
  .exact R.own _ _ g h3 (E _ g z)
 .rcases K j C A with ⟨rfl,_⟩|⟨_,L,h3,_⟩
  .exact R.Mo _ _ g hl (E _ g z)
  .exact R.Mo _ _ g h3 (E _ g z)
 .rcases K j C A with ⟨rfl,_⟩|⟨k,L,h3,rfl⟩
  .have:=R.nmg _ v z;omega
  .rw [X,hβ j k];exact R.fix j L v h3 z
 .rw [show (s.cvt id b o).σ=s.σ.map (λx=>(x.1,cvP id b x.2)) from rfl,L7] at h1;simp only [co1] at h1;obtain ⟨p',h2,rfl⟩:=h1;exact hpv p' _ _ _ (R.tmp t p' h2)
 .rw [show (s.cvt id b o).σ=s.σ.map (λx=>(x.1,cvP id b x.2)) from rfl,L7] at h1;simp only [co1] at h1;obtain ⟨p',_,h3⟩:=h1;cases p'<;>simp [cvP] at h3
theorem aZ6 {tmps:Array Value} (R:Rel F n β s tmps w) (z:OptIn (λ_=>False) s.σ) (x:Place×Nat×TypeId×Ty):∃ β',Rel F n β' (S6 s x) tmps w/\OptIn (λ_=>False) (S6 s x).σ:=by
 obtain ⟨pl,id,e,t⟩:=x;cases pl with
 |slot j=>
  simp only [S6];split
  .exact ⟨β,R,z⟩
  .rename_i hf;split
   .rename_i hl;have A:=bh3 R.ok hf e t;have G:tmps.getD j undef=.slice none 0 0:=(R.tmp j _ hl).inv.2;refine ⟨upd1 β id (.slice none 0 0),⟨A.toOk,R.sz,λt' p l=>?_⟩,λt' gs p l=>?_⟩
    .simp only at l;rw [A5] at l;split at l
     .rename_i J;simp only [cn4] at l;subst l;subst J;rw [G];exact ad7 (A9 _ _ _) (C2 _ _ _) rfl _
     .refine PRel.write ?_ (A.ext.p (R.tmp t' p l));rcases z.cases l with h1|⟨gs,q,h1,h2,h3⟩
      .exact .inl h1
      .exact .inr ⟨gs,q,h1,h2,λg hg=>(h3 g hg).elim⟩
    .simp only at l;rw [A5] at l;split at l
     .simp at l
     .exact z t' gs p l
   .exact ⟨β,R,z⟩
 |box b c=>
  simp only [S6];split
  .exact ⟨β,R,z⟩
  .rename_i hf;split
   .rename_i be cs H;split
    .rename_i hc;have y:b≠id:=by
      intro h;subst h;rw [H] at hf;cases hf
     have A:=bh3 R.ok hf e t;have K:look b (write id (.row e t [] 0 true) s.h)=some (.box be cs):=by rw [A5,if_neg y];exact H
     obtain ⟨g,vs,Z,q2,q3,P⟩:=A.obj b _ K;have hclt:c<cs.length:=(cn9.1 hc).1;have Q:∀ v,vs.toList[c]? =some v->v=.slice none 0 0:=λv G=>P.2.2 c _ v hc G;have A2:After F w (upd1 β id (.slice none 0 0)) (write id (.row e t [] 0 true) s.h) w (upd1 β id (.slice none 0 0)) (write b (.box be (cs.set c (.row id 0))) (write id (.row e t [] 0 true) s.h)):=by
      refine J0 A.ok K rfl rfl rfl rfl (Nat.le_refl _) (λ_ _ _=>rfl) rfl (λ_ _=>rfl) rfl (λh=>by simp [Ob.oth] at h) (λ_ h=>.inl h) (λe2 cs2 M=>?_) (λ_ _ _ _ _ M=>by cases M) (λx=>?_)
      .cases M;exact ⟨rfl,_,rfl⟩
      .refine ⟨g,vs,Z,q2,q3,by rw [List.length_set];exact P.1,P.2.1,λj cc v E G=>?_⟩;rw [cp9] at E;split at E
       .rename_i S;subst S;simp only [cn4] at E;subst E;rw [Q v G];exact ⟨e,t,[],0,true,by rw [A5,if_neg (Ne.symm y)];exact A9 _ _ _,Nat.le_refl _,λ_=>(C2 _ _ _).symm⟩
       .exact x.cell (P.2.2 j cc v E G)
     exact ⟨_,⟨A2.toOk,R.sz,λt' p l=>A2.ext.p (A.ext.p (R.tmp t' p l))⟩,z⟩
    .exact ⟨β,R,z⟩
   .exact ⟨β,R,z⟩
 |cell b c=>
  simp only [S6];split
  .rename_i be cs H;split
   .rename_i cc hc;split
    .rename_i x u O;have hf:=(V6 (λ_ _ h=>h) O).1;have A1:=H8 R.ok hf;have hub:∀ o,(b,o)∉u:=by
      intro o ho;rcases hf b o ho with ⟨_,_,_,_,_,h1,_⟩|⟨_,h1,_⟩
      .rw [H] at h1;cases h1
      .rw [H] at h1;cases h1
     have K:look b (upds s.h u)=some (.box be cs):=by rw [B6 hub];exact H
     obtain ⟨g,vs,Z,q2,q3,P⟩:=A1.obj b _ K;obtain ⟨g',vs',T,q2',V,q4'⟩:=R.ok.obj b _ H;have Q:∀ v,vs.toList[c]? =some v->Rep U w (Live β (upds s.h u)) x v:=by intro v G;rw [Z] at T;simp only [Value.pointer.injEq,cn4,Addr.mk.injEq,and_true] at T;subst T;rw [q3] at V;simp only [cn4,Obj.cells.injEq,and_true] at V;subst V;exact ag1 R.ok (λ_ _ h=>h) O (q4'.2.2 c _ v hc G) hf (λ_ h=>h)
     have A2:After F w β (upds s.h u) w β (write b (.box be (cs.set c (.d x))) (upds s.h u)):=by
      refine J0 A1.ok K rfl rfl rfl rfl (Nat.le_refl _) (λ_ _ _=>rfl) rfl (λ_ _=>rfl) rfl (λh=>by simp [Ob.oth] at h) (λ_ h=>.inl h) (λe2 cs2 M=>?_) (λ_ _ _ _ _ M=>by cases M) (λxx=>?_)
      .cases M;exact ⟨rfl,_,rfl⟩
      .refine ⟨g,vs,Z,q2,q3,by rw [List.length_set];exact P.1,P.2.1,λj cc v E G=>?_⟩;rw [cp9] at E;split at E
       .rename_i S;subst S;simp only [Option.ite_none_right_eq_some,cn4] at E;obtain ⟨_,E⟩:=E;subst E;exact xx.rep (Q v G)
       .exact xx.cell (P.2.2 j cc v E G)
     exact ⟨_,⟨A2.toOk,R.sz,λt' p l=>A2.ext.p (A1.ext.p (R.tmp t' p l))⟩,z⟩
    .exact ⟨β,R,z⟩
   .exact ⟨β,R,z⟩
  .exact ⟨β,R,z⟩
 |row j=>
  simp only [S6];split
  .rename_i c hl;split
   .rename_i x u O;have hf:=(V6 (λ_ _ h=>h) O).1;have A:=H8 R.ok hf;have hc:=(R.tmp j _ hl).inv;have hr:=ag1 R.ok (λ_ _ h=>h) O hc.2 hf (λ_ h=>h);refine ⟨β,⟨A.toOk,R.sz,λt' p l=>?_⟩,λt' gs p l=>?_⟩
    .simp only at l;rw [A5] at l;split at l
     .rename_i J;simp only [cn4] at l;subst l;subst J;exact CsRel.one hc.1 hr
     .refine PRel.write ?_ (A.ext.p (R.tmp t' p l));rcases z.cases l with h1|⟨gs,q,h1,h2,h3⟩
      .exact .inl h1
      .exact .inr ⟨gs,q,h1,h2,λg hg=>(h3 g hg).elim⟩
    .simp only at l;rw [A5] at l;split at l
     .simp at l
     .exact z t' gs p l
   .exact ⟨β,R,z⟩
  .rename_i xs hl;refine ⟨β,⟨R.toOk,R.sz,λt' p l=>?_⟩,λt' gs p l=>?_⟩
   .simp only at l;rw [A5] at l;split at l
    .simp only [cn4] at l;subst l;trivial
    .refine PRel.write ?_ (R.tmp t' p l);rcases z.cases l with h1|⟨gs,q,h1,h2,h3⟩
     .exact .inl h1
     .exact .inr ⟨gs,q,h1,h2,λg hg=>(h3 g hg).elim⟩
   .simp only at l;rw [A5] at l;split at l
    .simp at l
    .exact z t' gs p l
  .exact ⟨β,R,z⟩
 |seen j=>
  simp only [S6];split
  .rename_i kt e' t' hl;cases E:Nat.blt j 1000000 with
   |false=>exact ⟨β,R,z⟩
   |true=>
    have E:j<1000000:=by simpa using E
    obtain ⟨bb,es,clock,h1,h2,h3,⟨h4,h4c,h4b⟩,M⟩:=R.ok.obj j _ hl;refine bF9 R E hl rfl (N':=.tuple [.map (some bb)].toArray) (λg hg=>?_) (λL _=>X6 (N:=.tuple [.map (some bb)].toArray) (D:=.maps kt e' t' [] 0 0 true none) ⟨bb,es,clock,[],rfl,h2,h3,⟨h4,h4c,h4b⟩,rfl,λi x en n hx=>by simp at hx,λp q a c g O=>by simp at O,λp a O=>by simp at O⟩ (C2 _ _ _)) (λc v hc=>?_)
    .rcases C3.1 hg with I|⟨p,q,I,_⟩
     .rw [h1];exact I
     .simp at I
    .cases c with
     |map j'=>
      simp only [cvK];cases H:Nat.beq j' j with
      |false=>exact .inl ⟨rfl,λk=>by simp only [ids1,co5] at k;rw [<-k,Nat.beq_refl] at H;cases H⟩
      |true=>have H:=cn5 H;subst H;obtain ⟨_,_,_,_,G⟩:=hc;refine .inr λh' W=>⟨_,W,Nat.le_refl _,λ_=>⟨_,C2 _ _ _,?_⟩⟩;rw [G,h1];rfl
     |dc j' c'=>
      obtain ⟨D,r,G⟩:=hc;have y:j'≠j:=λk=>by rw [k,hl] at r;cases r
      cases c' with
      |it m=>
       simp only [cvK,N0 y,Bool.false_or];cases H:Nat.beq m j with
       |false=>exact .inl ⟨rfl,λk=>by
         simp only [ids1,List.mem_cons,List.not_mem_nil,or_false] at k;rcases k with I|I
         .exact y I.symm
         .rw [<-I,Nat.beq_refl] at H;cases H⟩
       |true=>exact .inr λ_ _=>trivial
      |self v0=>exact .inl ⟨by simp only [cvK,N0 y];rfl,λk=>by simp only [ids1,co5] at k;exact y k.symm⟩
      |elt=>exact .inl ⟨by simp only [cvK,N0 y];rfl,λk=>by simp only [ids1,co5] at k;exact y k.symm⟩
      |inn=>exact .inl ⟨by simp only [cvK,N0 y];rfl,λk=>by simp only [ids1,co5] at k;exact y k.symm⟩
      |iat=>exact .inl ⟨by simp only [cvK,N0 y];rfl,λk=>by simp only [ids1,co5] at k;exact y k.symm⟩
      |key=>exact .inl ⟨by simp only [cvK,N0 y];rfl,λk=>by simp only [ids1,co5] at k;exact y k.symm⟩
     |row j' vr=>obtain ⟨_,_,_,_,_,r,_⟩:=hc;exact .inl ⟨rfl,λk=>by simp only [ids1,co5] at k;rw [<-k,hl] at r;cases r⟩
     |ptr j' off=>obtain ⟨_,_,_,r,_⟩:=hc;exact .inl ⟨rfl,λk=>by simp only [ids1,co5] at k;rw [<-k,hl] at r;cases r⟩
     |elt j' vr i off=>obtain ⟨_,_,_,_,_,r,_⟩:=hc;exact .inl ⟨rfl,λk=>by simp only [ids1,co5] at k;rw [<-k,hl] at r;cases r⟩
     |clo f ids=>
      obtain ⟨bs,_,hlen,r⟩:=hc;refine .inl ⟨rfl,λk=>?_⟩;obtain ⟨p,l⟩:=List.mem_iff_getElem?.1 k;have hpl:p<ids.length:=(cn9.1 l).1;have X:p<bs.length:=by omega
      obtain ⟨_,_,r,_⟩:=r p j bs[p] l (cn6 X);rw [hl] at r;cases r
     |yld j'=>obtain ⟨_,r,_⟩:=hc;exact .inl ⟨rfl,λk=>by simp only [ids1,co5] at k;rw [<-k,hl] at r;cases r⟩
     |bnd f j'=>obtain ⟨_,_,_,r,_⟩:=hc;exact .inl ⟨rfl,λk=>by simp only [ids1,co5] at k;rw [<-k,hl] at r;cases r⟩
     |_=>exact .inl ⟨rfl,λk=>by simp [ids1] at k⟩
  .rename_i kt e' t' l' ver iv hl;cases E:Nat.blt j 1000000 with
   |false=>exact ⟨β,R,z⟩
   |true=>
    have E:j<1000000:=by simpa using E
    have hdr:DRel F.B w β s.h (.maps kt e' t' l' ver iv true none) (β j):=R.ok.obj j _ hl;obtain ⟨bb,es,clock,ns,hN,h1,h2,h3,h4,M,I,h7⟩:=hdr;refine bF9 R E hl rfl (N':=.map (some bb)) (λg hg=>?_) (λL hno=>⟨bb,es,clock,C2 _ _ _,h1,h2,h3,λi x en hx hen=>?_⟩) (λc v hc=>?_)
    .rw [hN];exact C3.2 (.inl hg)
    .have hil:=(cn9.1 hx).1;have Y:ns[i]? =some ns[i]:=cn6 (by omega);obtain ⟨Z,_,q3⟩:=M i x en _ hx hen Y;obtain ⟨r1,r2⟩:=q3 (by rintro ⟨_,k,_⟩;cases k);refine ⟨Z.by L,?_⟩;rw [<-r1];have hr:=ay3 (λg hg=>hno g (by rw [hN];exact C3.2 (.inr ⟨i,_,Y,hg⟩)) (λk=>h7 i _ Y (by rw [hg];exact k.symm))) (r2.map L (λ_ _=>rfl));refine ⟨[ns[i]],rfl,rfl,?_,λp d u hd hu=>?_⟩
     .obtain ⟨ys,y1,_⟩:=r2;simpa using ad8 y1
     .match p,hd,hu with
      |0,hd,hu=>simp only [B1,co2,cn4] at hd hu;subst hd;subst hu;exact hr
      |p+1,hd,hu=>simp [B1] at hd
    .cases c with
     |map j'=>obtain ⟨_,_,_,r,G⟩:=hc;exact .inl ⟨rfl,λk=>by simp only [ids1,co5] at k;rw [<-k,hl] at r;cases r⟩
     |dc j' c'=>
      obtain ⟨D,r,G⟩:=hc;cases C:Nat.beq j' j with
      |true=>
       have hbj':=cn5 C;subst hbj';rw [hl] at r;simp only [cn4,Ob.dp.injEq] at r;subst r;cases c' with
       |self v0=>
        simp only [cvK,C,cond_true];cases hbv:Nat.beq v0 ver with
        |false=>exact .inr λ_ _=>trivial
        |true=>have hx:=bg7 hN G (cn5 hbv);refine .inr λh' W=>⟨_,_,_,W,?_⟩;rw [hx];exact (C2 _ _ _).symm
       |it m=>simp only [cvK,C,Bool.true_or,cond_true];exact .inr λ_ _=>trivial
       |_=>simp only [cvK,C,cond_true];exact .inr λ_ _=>trivial
      |false=>
       have y:j'≠j:=λk=>by rw [k,Nat.beq_refl] at C;cases C
       cases c' with
       |it m=>
        simp only [cvK,C,Bool.false_or];cases H:Nat.beq m j with
        |false=>exact .inl ⟨rfl,λk=>by
          simp only [ids1,List.mem_cons,List.not_mem_nil,or_false] at k;rcases k with I|I
          .exact y I.symm
          .rw [<-I,Nat.beq_refl] at H;cases H⟩
        |true=>exact .inr λ_ _=>trivial
       |self v0=>exact .inl ⟨by simp only [cvK,C];rfl,λk=>by simp only [ids1,co5] at k;exact y k.symm⟩
       |elt=>exact .inl ⟨by simp only [cvK,C];rfl,λk=>by simp only [ids1,co5] at k;exact y k.symm⟩
       |inn=>exact .inl ⟨by simp only [cvK,C];rfl,λk=>by simp only [ids1,co5] at k;exact y k.symm⟩
       |iat=>exact .inl ⟨by simp only [cvK,C];rfl,λk=>by simp only [ids1,co5] at k;exact y k.symm⟩
       |key=>exact .inl ⟨by simp only [cvK,C];rfl,λk=>by simp only [ids1,co5] at k;exact y k.symm⟩
     |row j' vr=>obtain ⟨_,_,_,_,_,r,_⟩:=hc;exact .inl ⟨rfl,λk=>by simp only [ids1,co5] at k;rw [<-k,hl] at r;cases r⟩
     |ptr j' off=>obtain ⟨_,_,_,r,_⟩:=hc;exact .inl ⟨rfl,λk=>by simp only [ids1,co5] at k;rw [<-k,hl] at r;cases r⟩
     |elt j' vr i off=>obtain ⟨_,_,_,_,_,r,_⟩:=hc;exact .inl ⟨rfl,λk=>by simp only [ids1,co5] at k;rw [<-k,hl] at r;cases r⟩
     |clo f ids=>
      obtain ⟨bs,_,hlen,r⟩:=hc;refine .inl ⟨rfl,λk=>?_⟩;obtain ⟨p,l⟩:=List.mem_iff_getElem?.1 k;have hpl:p<ids.length:=(cn9.1 l).1;have X:p<bs.length:=by omega
      obtain ⟨_,_,r,_⟩:=r p j bs[p] l (cn6 X);rw [hl] at r;cases r
     |yld j'=>obtain ⟨_,r,_⟩:=hc;exact .inl ⟨rfl,λk=>by simp only [ids1,co5] at k;rw [<-k,hl] at r;cases r⟩
     |bnd f j'=>obtain ⟨_,_,_,r,_⟩:=hc;exact .inl ⟨rfl,λk=>by simp only [ids1,co5] at k;rw [<-k,hl] at r;cases r⟩
     |_=>exact .inl ⟨rfl,λk=>by simp [ids1] at k⟩
  .exact ⟨β,R,z⟩
 |deep j m=>
  simp only [S6];split
  .exact ⟨β,R,z⟩
  .rename_i hf;split
   .rename_i hl;have A:=bq4 R.ok hf e t m;have G:tmps.getD j undef=.slice none 0 0:=(R.tmp j _ hl).inv.2;refine ⟨_,⟨A.toOk,R.sz,λt' p l=>?_⟩,λt' gs p l=>?_⟩
    .simp only at l;rw [A5] at l;split at l
     .rename_i J;simp only [cn4] at l;subst l;subst J;rw [G];exact CsRel.one rfl ⟨_,A9 _ _ _,Nat.le_refl _,λ_=>⟨_,C2 _ _ _,by simp⟩⟩
     .refine PRel.write ?_ (A.ext.p (R.tmp t' p l));rcases z.cases l with h1|⟨gs,q,h1,h2,h3⟩
      .exact .inl h1
      .exact .inr ⟨gs,q,h1,h2,λg hg=>(h3 g hg).elim⟩
    .simp only at l;rw [A5] at l;split at l
     .simp at l
     .exact z t' gs p l
   .exact ⟨β,R,z⟩
theorem N3 {tmps:Array Value}:∀ {l:List (Place×Nat×TypeId×Ty)} {β:Nm} {s:St U},Rel F n β s tmps w->OptIn (λ_=>False) s.σ->∃ β',Rel F n β' (S7 s l) tmps w/\OptIn (λ_=>False) (S7 s l).σ
 |[],β,s,R,a=>⟨β,R,a⟩
 |x::r,β,s,R,a=>by obtain ⟨β1,R1,b⟩:=aZ6 R a x;exact N3 (l:=r) R1 b
def bq5:Way U->Exit->Prop
 | .normal,e=>e=.normal
 | .exit id,e=>e=.exit id
 | .ret,e=>e=.ret
 | .panic v,e=>∃ u,an7 v u/\e=.panic [{ v:=u,recovered:=false }]
theorem ar6 {G:Fence} {m:Nat} {P:Program} {Q:Exit->Act->World->Prop} {c:Code} (h:c.wpIn G m P (Exit.noGoto Q) a w):(Code.scope c).wpIn G m P Q a w:=by
 intro b k cs g i hr;have h0:(lone (b.atR a (.code (.scope c)::k)) cs w).fenced P G:=fenced_calm i hr rfl;have s0:step P (lone (b.atR a (.code (.scope c)::k)) cs w)=.next (lone (b.atR a (.code c:: .inScope c::k)) cs w):=step_lone_go (by simp [stepG,stepG.exec,Frame.atR]);have s1:∀ a w,step P (lone (b.atR a (.inScope c::k)) cs w)=.next (lone (b.atR a k) cs w):=λa w=>step_lone_go (by simp [stepG,stepG.exec,Frame.atR]);obtain ⟨e,a₁,w₁,f,d⟩:=h b (.inScope c::k) cs g i hr;cases e with
 |normal=>exact ⟨.normal,a₁,w₁,f,.head h0 s0 (StepsIn.trans d (.one (fenced_calm i hr rfl) (s1 _ _)))⟩
 |exit id=>
  have o:exitTo id (.inScope c::k)=exitTo id k:=by simp [exitTo]
  exact ⟨.exit id,a₁,w₁,f,λk' j=>.head h0 s0 (d.1 k' (by rw [o];exact j)),
   λn j=>let ⟨k₁,h1,h2⟩:=d.2 n (by rw [o];exact j);⟨k₁,h1,.head h0 s0 h2⟩⟩
 |goto l=>exact f.elim
 |ret=>exact ⟨_,a₁,w₁,f,.of_steps (.one h0 s0) d⟩
 |panic ch=>exact ⟨_,a₁,w₁,f,.of_steps (.one h0 s0) d⟩
 |outgrown=>exact ⟨_,a₁,w₁,f,.of_steps (.one h0 s0) d⟩
theorem bv2 {w:World} {β:Nm} {h:Obs U} {σ:List (Nat×PV U)} {e:TypeId} {t:Ty} {l:List (den U.T t)} {v:Value} (r:PRel w β h σ (.one (.d ⟨.slice e t,l⟩)) v):∃ oa k c,v=.slice oa k c/\(oa.isNone=true->l=[]):=by
 have b:=r.d;cases b with
 |nil=>exact ⟨_,_,_,rfl,λ_=>rfl⟩
 |slice _ _ _ g q' cap f a hc hm hM hg hcell hr=>exact ⟨_,_,_,rfl,λh=>by cases h⟩
theorem bG0 {ro:Option Nat} {id:Nat} {j p:Nat} {v:PV U} {q:Bool} {e:Prop} (hc:bo5 E s ops.toList=some (j,p,v,q,e)) (ok:(N7 n ops.toList [])=true) (R:Rel F n β s a.tmps w) (S:OptIn (λ_=>False) s.σ) {Q:Exit->Act->World->Prop}
  (X:∀ b:Bool,(b=true->e)->∀ β' a' w',Rel F n β' ⟨write p (.one (.d ⟨.bool,bif q then b else !b⟩)) (write j v s.σ),s.h⟩ a'.tmps w'->OptIn (λ_=>False) (write p (.one (.d ⟨.bool,bif q then b else !b⟩)) (write j v s.σ))->a'.defers=a.defers->Q .normal a' w'):(Code.region id ops false).wpIn (fen E.P ro) 0 E.P Q a w:=by
 unfold bo5 at hc;split at hc
 case h_2=>cases hc
 rename_i i z B;split at hc
 case h_2=>cases hc
 rename_i x j0 op t M k Y h1 h2 h3 h4 C Z;split at hc
 case h_2=>cases hc
 rename_i T u;simp only [co7] at hc;split at hc
 case isFalse=>cases hc
 rename_i f;simp only [cn7,Bool.not_eq_true'] at f;have hj:=cn5 f.1;subst hj;split at hc
 case h_2=>cases hc
 rename_i el hu;split at hc
 case h_2=>cases hc
 rename_i K L l hx;simp only [cn4,co6] at hc;obtain ⟨rfl,rfl,rfl,rfl,rfl⟩:=hc;have y:ops=#[i,z]:=by apply Array.toList_inj.1;rw [B]
 subst y;have o:M<n/\Y<n:=by simp only [N7,aj7,h2,C,cn7] at ok;exact ⟨cp7 ok.1.1,cp7 ok.2.1.1⟩
 refine wpIn_region ?_;have hr:List.range (#[i,z]:Array Oper).size=[0,1]:=rfl;rw [hr];simp only [wpOpsIn,List.getElem?_toArray,co2,List.getElem?_cons_succ];rw [if_pos (by simp [Region.wanted,h3])];have G:=S4 R x;rw [hx] at G;refine Does.wp' (F:=F) (e:=F5 (.one (.d ⟨.slice K L,l⟩))) (Does.pure (n:=n) (v:=a.eval x) R rfl (by simp [execOp,h1]) G) (I4 λc hc=>by rw [h1] at hc;cases hc) (λc hc=>by rw [h1] at hc;cases hc) ?_;intro v w' β' A pv;obtain ⟨R1,H⟩:=aa7 R S (dst:=i.dst) (λd m=>⟨by rw [h2] at m;cases m;exact o.1,λh=>h⟩) A (.inl rfl) pv;rw [if_pos (by simp [Region.wanted,Z])];have g:=S4 R1 (.tmp M);have N:ev (putS s.σ i.dst (.one (.d ⟨.slice K L,l⟩))) (.tmp M)=.one (.d ⟨.slice K L,l⟩):=by simp only [ev,h2,putS,A5,Nat.beq_refl];rfl
 dsimp only [F5] at g R1 H;rw [N] at g;obtain ⟨oa,kk,cc,V,I⟩:=bv2 g;have hq:∃ b:Bool,b=oa.isNone/\(execOp (a.put i.dst v).eval z).run E.P w'=.ok (.value (.bool (bif T then b else !b))) w':=by
  refine ⟨oa.isNone,rfl,?_⟩;have W:=run_equal_slice_nil (P:=E.P) w' t el oa kk cc hu;have r:(a.put i.dst v).eval (.const (.slice none 0 0))=.slice none 0 0:=rfl;cases op<;>simp only [cn4,reduceCtorEq] at u
  .subst u;simp [execOp,h4,V,r,eqGuard,binOp,W]
  .subst u;simp [execOp,h4,V,r,eqGuard,binOp,W]
 obtain ⟨b,hb,J⟩:=hq;refine Does.wp' (F:=F) (β:=β') (s:=⟨putS s.σ i.dst (.one (.d ⟨.slice K L,l⟩)),s.h⟩) (e:=F5 (.one (.d ⟨.bool,bif T then b else !b⟩))) (Does.pure (n:=n) R1 rfl J (PRel.mkBool _)) (I4 λc hc=>by rw [h4] at hc;cases hc) (λc hc=>by rw [h4] at hc;cases hc) ?_;intro v2 w2 β2 A2 pv2;obtain ⟨R2,hO2⟩:=aa7 R1 (H.mono (λ_ h=>h)) (dst:=z.dst) (D:=λj=>False\/i.dst=some j) (λd m=>⟨by rw [C] at m;cases m;exact o.2,λh=>by
  rcases h with h|h
  .exact h
  .rw [h2] at h;rw [C] at m;simp only [cn4] at h m;rw [<-h] at m;rw [m,Nat.beq_refl] at f;cases f.2⟩) A2 (.inl rfl) pv2
 refine X b (λO=>I (hb▸O)) β2 _ w2 ?_ ?_ ?_
 .dsimp only [F5] at R2;rw [h2,C] at R2;rw [h2,C];exact R2
 .intro t gs p hl;rw [A5] at hl;split at hl
  .cases hl
  .rw [A5] at hl;split at hl
   .cases hl
   .exact S t gs p hl
 .cases z.dst<;>cases i.dst<;>rfl
theorem PRel.anyO {U:Univ} {w:World} {β:Nm} {h:Obs U} {σ0 σ σ':List (Nat×PV U)} {t:Nat} {p:PV U} {v:Value} (a:OptIn (λ_=>False) σ0) (hl:look t σ0=some p) (r:PRel w β h σ p v):PRel w β h σ' p v:=by
 rcases a.cases hl with h1|⟨gs,q,rfl,h2,h3⟩
 .exact r.any h1
 .cases gs with
  |nil=>exact ⟨λ_=>(r.1 (λg hg=>by simp at hg)).any h2,λb=>(b (λg hg=>by simp at hg)).elim⟩
  |cons g gs=>exact (h3 g (by simp)).elim
theorem bh4 {P:Program} (w:World) (ty:TypeId) (r b since last:Nat) (seen:Array Nat) (es:Array MapEntry) (clock:Nat) (hr:w.heap[r]? =some (.mapIter (some b) since seen last)) (q:w.heap[b]? =some (.map es clock)) (g:∀ x∈es.toList,x.born<since)
  (f:(!seen.isEmpty&&!es.isEmpty&&es.all (λx=>decide (x.born>=last)))=false):
  ((∀ e∈es,seen.contains e.born=true)/\(Instr.next (.pointer (some ⟨r,0,none⟩)) false ty).run P w=.ok (.tuple #[.bool false]) w)\/
  ∃ e∈es,seen.contains e.born=false/\∃ w1:World,(w1=w\/w1=w.drew)/\(Instr.next (.pointer (some ⟨r,0,none⟩)) false ty).run P w=.ok (.tuple #[.bool true,e.key,e.val]) { w1 with heap:=w1.heap.setIfInBounds r (.mapIter (some b) since (seen.push e.born) clock) }:=by
 simp only [Instr.next,getObj,Sem.run_bind,Sem.run,hr,q,Result.andThen,f,Bool.false_eq_true,if_false];have a:∀ x∈(Array.filter (λe=>!seen.contains e.born) es).toList,x.born<since:=λx c=>g x (by simp at c |-;exact c.1);have h:∀ x∈Array.filter (λe=>!seen.contains e.born) es,x∈es/\seen.contains x.born=false:=λx c=>by rw [Array.mem_filter] at c;exact ⟨c.1,by simpa using c.2⟩
 have d:(Array.filter (λe=>!seen.contains e.born) es).size=0->∀ e∈es,seen.contains e.born=true:=by
  intro h0 e s;cases hc:seen.contains e.born with
  |true=>rfl
  |false=>
   have:e∈Array.filter (λe=>!seen.contains e.born) es:=by rw [Array.mem_filter];exact ⟨s,by rw [hc];rfl⟩
   rw [Array.eq_empty_of_size_eq_zero h0] at this;simp at this
 generalize Array.filter (λe=>!seen.contains e.born) es=L at a h d |-;have t:L.filter (λx=>decide (x.born<since))=L:=Array.filter_eq_self.2 (λx c=>by simpa using a x (by simpa using c));have u:L.filter (λx=>decide (x.born>=since))=#[]:=by rw [Array.filter_eq_empty_iff];intro x c;have:=a x (by simpa using c);simp;omega
 simp only [t,u,Array.append_empty];by_cases h0:L.size=0
 .left;refine ⟨d h0,?_⟩;have:L=#[]:=Array.eq_empty_of_size_eq_zero h0;subst this;simp [choose,Sem.run,Question.forced]
 .right;have m:L.isEmpty=false:=by simp [Array.isEmpty,h0]
  simp only [m,Bool.false_eq_true,if_false,Array.empty_append,Array.size_map];have n:∃ (j:Nat) (w1:World),j<L.size/\(w1=w\/w1=w.drew)/\(choose (Question.mapNext L.size)).run P w=.ok j w1:=by
   by_cases hf:L.size<=1
   .exact ⟨0,w,by omega,.inl rfl,by simp [choose,Sem.run,Question.forced,hf]⟩
   .exact ⟨_,w.drew,Nat.mod_lt _ (by omega),.inr rfl,by
     simp only [choose,Sem.run,Question.forced,cp6,hf,if_false,Question.cut];rfl⟩
  obtain ⟨j,w1,p,i,k⟩:=n;obtain ⟨v,y⟩:=h L[j] (Array.getElem_mem p);have o:w1.heap[r]? =w.heap[r]? :=by rcases i with rfl|rfl<;>rfl
  refine ⟨L[j],v,y,w1,i,?_⟩;have l:∀ (o':Obj),(setObj r o').run P w1=.ok () { w1 with heap:=w1.heap.setIfInBounds r o' }:=λo'=>by simp only [setObj,Sem.run,o,hr]
  simp only [k,Array.getElem?_map,cp1 p,Option.map_some,Sem.run_bind,l,Result.andThen];rfl
theorem cb8 {ro:Option Nat} {id:Nat} {x:NextE U} (hc:bo6 s ops.toList=some x) (ok:(N7 n ops.toList [])=true) (R:Rel F n β s a.tmps w) (hO:OptIn (λ_=>False) s.σ) {Q:Exit->Act->World->Prop} {Q':St U->Prop} (hw:x.wp s Q')
  (hQ:∀ s' β' a' w',Q' s'->Rel F n β' s' a'.tmps w'->OptIn (λ_=>False) s'.σ->a'.defers=a.defers->Q .normal a' w'):(Code.region id ops false).wpIn (fen E.P ro) 0 E.P Q a w:=by
 unfold bo6 at hc;split at hc
 case h_2=>cases hc
 rename_i q o2 hops;split at hc
 case h_2=>cases hc
 rename_i y j0 K O h1 h2 h3 h4 S h6;simp only [co7] at hc;split at hc
 case isFalse=>cases hc
 rename_i f;simp only [cn7,Bool.not_eq_true'] at f;have hj:=cn5 f.1;subst hj;split at hc
 case h_2=>cases hc
 rename_i iid mid hev0;split at hc
 case h_2=>cases hc
 rename_i mid' kt vt nn seen cur kt' vt' l hl hlm;split at hc
 case isFalse=>cases hc
 rename_i hb;simp only [cn7,beq_iff_eq] at hb;obtain ⟨b1,rfl,rfl⟩:=hb;have b1:=cn5 b1;subst b1;simp only [cn4] at hc;subst hc;obtain ⟨w1,w2,w3⟩:=hw;have w1:l.length=nn:=w1;have hopsA:ops=#[q,o2]:=by apply Array.toList_inj.1;rw [hops]
 subst hopsA;have Y:K<n/\O<n:=by simp only [N7,aj7,h2,S,cn7] at ok;exact ⟨cp7 ok.1.1,cp7 ok.2.1.1⟩
 refine wpIn_region ?_;have hr:List.range (#[q,o2]:Array Oper).size=[0,1]:=rfl;rw [hr];rw [wpOpsIn];simp only [List.getElem?_toArray,co2];rw [if_pos (by simp [Region.wanted,h3])];have hev:=S4 R y;rw [hev0] at hev;obtain ⟨D,z,hv⟩:=hev.inv.2;rw [hl] at z;simp only [cn4,Ob.dp.injEq] at z;subst z;obtain ⟨_,hv⟩:=hv;have hit:DRel F.B w β s.h (.iter (some mid) kt vt nn seen cur) (β iid):=R.obj iid _ hl;obtain ⟨rb,b,last,q1,q2,q3,q4,q5⟩:=hit;obtain ⟨_,_,_,q6,q7⟩:=q5 mid rfl;obtain ⟨b',es,clock,g1,g2,g3,⟨g4,g4c,g4b⟩,g5⟩:=R.obj mid _ hlm;rw [g1] at q7;simp only [Value.map.injEq,cn4] at q7;subst q7;have C:∀ e∈es,∃ i,i<l.length/\es[i]? =some e/\e.born=i:=by intro e he;obtain ⟨i,Z,V⟩:=Array.mem_iff_getElem.1 he;refine ⟨i,by omega,by rw [cp1 Z,V],?_⟩;exact g4b i e (by rw [cp1 Z,V])
 have G:∀ i,seen.toArray.contains i=true<->i∈seen:=λi=>by simp
 --the rest:what was found is written
 have fin:∀ (bb:Bool) (e:Eff U) (v:Value) (wx:World) (βx:Nm),(execOp a.eval q).run E.P w=.ok (.value v) wx->After F w β s.h wx βx (upds s.h e.upd)->(∃ xs,e.val=.tup ((false,[.d ⟨.bool,bb⟩])::xs))->PRel wx βx (upds s.h e.upd) s.σ e.val v->
   Q' ⟨write O (.one (.d ⟨.bool,bb⟩)) (write K .un s.σ),upds s.h e.upd⟩->q.wpIn (fen E.P ro) 0 E.P a w (wpOpsIn (fen E.P ro) 0 E.P #[q,o2] Q [1]) Q:=by
  intro bb e v wx βx k hA r hpr hq;obtain ⟨xs,r⟩:=r;refine Does.wp' (F:=F) (e:=e) ⟨v,wx,βx,.inl k,hA,hpr⟩ (I4 λc hc=>by rw [h1] at hc;cases hc) (λc hc=>by rw [h1] at hc;cases hc) ?_;intro v w' β' A pv;have W:e.val.plain=true:=by rw [r];rfl
  obtain ⟨R1,hO1⟩:=aa7 R hO (dst:=q.dst) (λd z=>⟨by rw [h2] at z;cases z;exact Y.1,λh=>h⟩) A (.inl W) pv;simp only [wpOpsIn,List.getElem?_toArray,co2,List.getElem?_cons_succ];rw [if_pos (by simp [Region.wanted,h6])];have hev2:=S4 R1 (.tmp K);have hlk:ev (putS s.σ q.dst e.val) (.tmp K)=e.val:=by simp only [ev,h2,putS,A5,Nat.beq_refl];rfl
  rw [hlk,r] at hev2;obtain ⟨us,hu1,hu2,hu3⟩:=hev2;obtain ⟨u0,us',rfl⟩:∃ u0 us',us=u0::us':=by
   cases us with
   |nil=>simp at hu2
   |cons u0 us'=>exact ⟨u0,us',rfl⟩
  have hu0:=(show CsRel w' β' (upds s.h e.upd) [.d ⟨.bool,bb⟩] [u0] from hu3 0 _ _ rfl rfl);have hb0:u0=.bool bb:=by have:=hu0.inv.2;cases (show Rep U w' (Live β' (upds s.h e.upd)) ⟨.bool,bb⟩ u0 from this);rfl
  have hrun2:(execOp (a.put q.dst v).eval o2).run E.P w'=.ok (.value (.bool bb)) w':=by simp [execOp,h4,hu1,Instr.extract,hb0]
  refine Does.wp' (F:=F) (β:=β') (s:=⟨putS s.σ q.dst e.val,upds s.h e.upd⟩) (e:=F5 (.one (.d ⟨.bool,bb⟩))) (Does.pure (n:=n) R1 rfl hrun2 (PRel.mkBool _)) (I4 λc hc=>by rw [h4] at hc;cases hc) (λc hc=>by rw [h4] at hc;cases hc) ?_;intro v2 w2 β2 A2 pv2;obtain ⟨R2,hO2⟩:=aa7 R1 (hO1.mono (λ_ h=>h)) (dst:=o2.dst) (D:=λj=>False\/q.dst=some j) (λd z=>⟨by rw [S] at z;cases z;exact Y.2,λh=>by
   rcases h with h|h
   .exact h
   .rw [h2] at h;rw [S] at z;simp only [cn4] at h z;rw [<-h] at z;rw [z,Nat.beq_refl] at f;cases f.2⟩) A2 (.inl rfl) pv2
  have hOf:OptIn (λ_=>False) (write O (.one (.d ⟨.bool,bb⟩)) (write K .un s.σ)):=by
   intro t gs p hl;rw [A5] at hl;split at hl
   .cases hl
   .rw [A5] at hl;split at hl
    .cases hl
    .exact hO t gs p hl
  refine hQ _ β2 _ w2 hq ?_ hOf (by cases o2.dst<;>cases q.dst<;>rfl);dsimp only [F5] at R2;rw [h2,S] at R2;rw [h2,S];refine ⟨R2.toOk,R2.sz,λt p L=>?_⟩;have hne:¬ K=O:=λM=>by rw [M,Nat.beq_refl] at f;cases f.2
  by_cases H:t=O
  .refine (R2.tmp t p ?_).any ?_
   .rw [show putS (putS s.σ (some K) e.val) (some O) (.one (.d ⟨.bool,bb⟩))=write O (.one (.d ⟨.bool,bb⟩)) (write K e.val s.σ) from rfl,A5,if_pos H];rw [A5,if_pos H] at L;exact L
   .rw [A5,if_pos H] at L;cases L;rfl
  .rw [A5,if_neg H,A5] at L;split at L
   .cases L;trivial
   .rename_i htj;refine PRel.anyO hO L (R2.tmp t p ?_);rw [show putS (putS s.σ (some K) e.val) (some O) (.one (.d ⟨.bool,bb⟩))=write O (.one (.d ⟨.bool,bb⟩)) (write K e.val s.σ) from rfl,A5,if_neg H,A5,if_neg htj];exact L
 have I:∀ (v:Value) (wx:World),(Instr.next (.pointer (some ⟨rb,0,none⟩)) false q.type).run E.P w=.ok v wx->(execOp a.eval q).run E.P w=.ok (.value v) wx:=by intro v wx M;simp [execOp,h1,hv,q1,M]
 have hneed:(!seen.toArray.isEmpty&&!es.isEmpty&&es.all (λx=>decide (x.born>=last)))=false:=by
  cases hs:seen with
  |nil=>rfl
  |cons s0 sr=>
   obtain ⟨L,hlast⟩:=q4 (by rw [hs];simp);cases hemp:es.isEmpty with
   |true=>simp
   |false=>
    have h0:0<es.size:=by
     rcases Nat.eq_zero_or_pos es.size with h0|h0
     .simp [Array.isEmpty,h0] at hemp
     .exact h0
    have J:es.all (λx=>decide (x.born>=last))=false:=by rw [Bool.eq_false_iff];intro M;rw [Array.all_eq_true_iff_forall_mem] at M;have hb0:=g4b 0 es[0] (cp1 h0);have:=M es[0] (Array.getElem_mem h0);simp only [ge_iff_le,cp6] at this;omega
    simp [J]
 rcases bh4 (P:=E.P) w q.type rb b nn last seen.toArray es clock q3 g3 (λe he=>by
   obtain ⟨i,Z,_,hbi⟩:=C e (by simpa using he);omega) hneed with ⟨J,k⟩|⟨e,he,hns,wd,X,k⟩
 .refine fin false (F5 (.tup [(false,[.d ⟨.bool,false⟩])])) _ w β (I _ _ k) R.after ⟨[],rfl⟩ ⟨[.bool false],rfl,rfl,λj x u o g=>?_⟩ (w3 (λi Z=>?_))
  .cases j with
   |zero=>simp only [co2,cn4] at o g;subst o;subst g;exact PRel.mkBool (σ:=s.σ) _
   |succ j=>simp at o
  .have hi':i<es.size:=by
    have Z:i<nn:=Z;omega
   have:=J es[i] (Array.getElem_mem hi');rw [g4b i es[i] (cp1 hi')] at this;exact (G i).1 this
 .obtain ⟨i,Z,V,hbi⟩:=C e he;have hin:i∉seen:=λM=>by
   have:=(G i).2 M;rw [<-hbi,hns] at this;cases this
  have hrl:rb<w.heap.size:=(cp2.1 q3).1;have hwh:wd.heap=w.heap:=by rcases X with rfl|rfl<;>rfl
  have A:After F w β s.h { wd with heap:=wd.heap.setIfInBounds rb (.mapIter (some b) nn (seen.toArray.push e.born) clock) } β (write iid (.dp (.iter (some mid) kt vt nn (seen++[i]) i)) s.h):=by
   refine J0 R.ok hl rfl (by rcases X with rfl|rfl<;>rfl) (by rcases X with rfl|rfl<;>rfl) (by rcases X with rfl|rfl<;>rfl) (by simp [hwh]) (λbb hbb hn=>?_) rfl (λ_ _=>rfl) rfl (λh=>by simp [Ob.oth] at h) (λbb hbb=>.inl hbb) (λ_ _ S=>by cases S) (λ_ _ _ _ _ S=>by cases S) (λxx=>?_) (λD hD=>?_)
   .have:bb≠rb:=λM=>hn (by rw [q1,M];exact rfl);simp [hwh,Ne.symm this]
   .refine X6 (N:=β iid) ?_ rfl;refine ⟨rb,b,clock,q1,q2,?_,λ_=>⟨by omega,by omega⟩,λm hm=>by cases hm;exact xx.cell (c:=.map mid) ⟨kt,vt,l,hlm,g1.symm⟩⟩;simp [hwh,hrl,hbi]
   .cases hD;refine ⟨_,rfl,λc v hv=>?_⟩;cases c<;>exact hv
  obtain ⟨e1,e2⟩:=g5 i l[i] e (cn6 Z) V;have hcell:∀ {t:Ty} {x:den U.T t} {v:Value},VIs w (Live β s.h) t x v->VRel { wd with heap:=wd.heap.setIfInBounds rb (.mapIter (some b) nn (seen.toArray.push e.born) clock) } β (write iid (.dp (.iter (some mid) kt vt nn (seen++[i]) i)) s.h) (G7 t,(B1 U t x).map .d) v:=by
   intro t x v hvv;obtain ⟨vs,v1,v2,v3,v4⟩:=hvv;have hc:CsRel w β s.h ((B1 U t x).map .d) vs:=CsRel.data (by rw [v2,B0]) v4;have hc:=A.ext.cs hc;cases g:G7 t with
   |true=>rw [g] at v1;exact ⟨vs,v1,hc⟩
   |false=>
    rw [g] at v1;have hl1:vs.length=1:=by rw [v2];cases t<;>first|rfl|(cases g)
    match vs,hl1 with
    |[u],_=>have v1:v=u:=v1;subst v1;exact hc
  refine fin true ⟨none,.tup ((false,[.d ⟨.bool,true⟩])::[(G7 kt,(B1 U kt (l[i]).1).map .d),(G7 vt,(B1 U vt (l[i]).2).map .d)]),[(iid,.dp (.iter (some mid) kt vt nn (seen++[i]) i))]⟩ _ _ β (I _ _ k) A ⟨_,rfl⟩ ⟨[.bool true,e.key,e.val],rfl,rfl,λj x u o g=>?_⟩ (w2 i (by show i<nn;omega) hin)
  match j,o,g with
  |0,o,g=>simp only [co2,cn4] at o g;subst o;subst g;exact PRel.mkBool (σ:=s.σ) _
  |1,o,g=>simp only [List.getElem?_cons_succ,co2,cn4] at o g;subst o;subst g;exact hcell e1
  |2,o,g=>simp only [List.getElem?_cons_succ,co2,cn4] at o g;subst o;subst g;exact hcell e2
  |j+3,o,g=>simp at o
theorem aM1 {Y:Fr} {ro:Option Nat} (o:E.Fits) (r:E.Sound Y) (t:O0 Y F E.yl) (g:F.G=E.G) (hm:E.P.follows .mixedOrders=true) (X:Nat) (L:Nat->St U->Ann U) {id:Nat} {ops:Array Oper} {drawn:Bool} (k:Nat) (s:St U) (Q':Way U->St U->Prop) (ok:J7 n (.region id ops drawn)=true) (h:wpc E X L (.region id ops drawn) k s Q'):
  ∀ (β:Nm) (a:Act) (w:World),Rel F n β s a.tmps w->OptIn (λ_=>False) s.σ->∀ Q:Exit->Act->World->Prop,
   (∀ way e s' β' a' w',bq5 way e->Q' way s'->Rel F n β' s' a'.tmps w'->OptIn (λ_=>False) s'.σ->a'.defers=a.defers->Q e a' w')->(Code.region id ops drawn).wpIn (fen E.P ro) 0 E.P Q a w:=by
  intro β a w R m Q i;simp only [wpc] at h;split at h
  .rename_i j p v q e c;cases drawn with
   |true=>cases c
   |false=>have ok:(N7 n ops.toList []&&aA1 false ops.toList)=true:=ok;simp only [cn7] at ok;exact bG0 (F:=F) c ok.1 R m (λb z β' a' w' h2 h3 h4=>i .normal _ _ β' a' w' rfl (h b z) h2 h3 h4)
  split at h
  .rename_i x c;cases drawn with
   |true=>cases c
   |false=>have ok:(N7 n ops.toList []&&aA1 false ops.toList)=true:=ok;simp only [cn7] at ok;exact cb8 (F:=F) c ok.1 R m h (λs' β' a' w' h1 h2 h3 h4=>i .normal _ s' β' a' w' rfl h1 h2 h3 h4)
  .cases d:(!drawn&&(I0 ops.toList&&aW1 ops.toList)) with
   |false=>rw [d] at h;exact bF8 o r t g hm ok R m h (λs' β' a' w' h1 h2 h3 h4=>i .normal _ s' β' a' w' rfl h1 h2 h3 h4) (λv u s' β' a' w' h1 h2 h3 h4 A=>i (.panic v) _ s' β' a' w' ⟨u,h2,rfl⟩ h1 h3 h4 A)
   |true=>
    rw [d] at h;simp only [cn7,Bool.not_eq_true'] at d;obtain ⟨rfl,hg,_⟩:=d;have ok:(N7 n ops.toList []&&aA1 false ops.toList)=true:=ok;simp only [cn7] at ok;have h:region E X id false (ai1 E.P ops.toList) s (λ_ _=>False) (Q' .normal):=h;have l:=ai5 (P:=E.P) hg;have f:wpOpsIn (fen E.P ro) 0 E.P (ai1 E.P ops.toList).toArray (λe a w=>match e with| .normal=>Q .normal a w|_=>False) (List.range (ai1 E.P ops.toList).toArray.size) a w:=
     bv1 (F:=F) (ops:=(ai1 E.P ops.toList).toArray) (X:=X) (id:=id) (s:=s) (Qp:=λ_ _=>False) (Q':=Q' .normal) o r t g hm
      (by simp only [cn7];exact ⟨aD8 ok.1,by unfold aA1 ad1;rw [aL9 l];rfl⟩) R m h
      (λs' β' a' w' h1 h2 h3 h4=>i .normal _ s' β' a' w' rfl h1 h2 h3 h4) (λv u s' β' a' w' h1=>h1.elim)
    rw [List.range_eq_range'] at f;have h1:=(bo1 (K:=λa w=>Q .normal a w) (ops:=(ai1 E.P ops.toList).toArray) l _ 0 (by simp)).1 f;have h2:=aP9 h1;have h3:=(bo1 (K:=λa w=>Q .normal a w) (ops:=ops) hg ops.size 0 (by simp)).2 h2;rw [<-List.range_eq_range'] at h3;exact wpIn_mono (wpIn_region h3) (λe a w y=>by cases e<;>first|exact y|exact y.elim)
theorem M7:∀ {c:Code},P0 c=true->noRF c=true
 | .skip,_=>rfl
 | .region ..,_=>rfl
 | .seq a b,h=>by simp only [P0,cn7] at h;simp only [noRF,cn7];exact ⟨M7 h.1,M7 h.2⟩
 | .cond c a b,h=>by simp only [P0,cn7] at h;simp only [noRF,cn7];exact ⟨M7 h.1,M7 h.2⟩
 | .scope a,h=>M7 (c:=a) h
 | .block _ a,h=>M7 (c:=a) h
def WkC (c c':Cell U):Prop:=c'=.un\/c'=c\/(c=.lit (.slice none 0 0)/\∃ e y,c'=.d ⟨.slice e y,[]⟩)
def WkCs (xs ys:List (Cell U)):Prop:=ys.length=xs.length/\∀ (j:Nat) (c':Cell U),ys[j]? =some c'->∃ c,xs[j]? =some c/\WkC c c'
def WkP (p p':PV U):Prop:=p'=.un\/(∃ c c',p=.one c/\p'=.one c'/\WkC c c')\/∃ xs ys,p=.agg xs/\p'=.agg ys/\WkCs xs ys
def WkO (o o':Ob U):Prop:=o'=o\/∃ e xs ys,o=.box e xs/\o'=.box e ys/\WkCs xs ys
structure Wk (a m:St U):Prop where
 sl:∀ k p',look k m.σ=some p'->∃ p,look k a.σ=some p/\WkP p p'
 ob:∀ id o',look id m.h=some o'->∃ o,look id a.h=some o/\WkO o o'
 bo:∀ id o,look id a.h=some o->∃ o',look id m.h=some o'/\WkO o o'
theorem WkO.live {o o':Ob U} (h:WkO o o'):o'.live=o.live:=by rcases h with rfl|⟨e,xs,ys,rfl,rfl,_⟩<;>rfl
theorem WkO.isRow {o o':Ob U} (h:WkO o o'):o'.isRow=o.isRow:=by rcases h with rfl|⟨e,xs,ys,rfl,rfl,_⟩<;>rfl
theorem Wk.ext {a m:St U} (k:Wk a m) (w:World) (β:Nm):Ext w β a.h w β m.h where
 size:=Nat.le_refl _
 heap:=λ_ _ _=>rfl
 own:=λb _ ⟨id,o',h1,h2,h3⟩=>by obtain ⟨o,h4,f⟩:=k.ob id o' h1;exact ⟨id,o,h4,by rw [<-f.live];exact h2,h3⟩
 M:=rfl
 box:=λid e cs hl=>by
  obtain ⟨o',h1,h2⟩:=k.bo id _ hl;rcases h2 with rfl|⟨c,xs,ys,h3,rfl,_⟩
  .exact ⟨rfl,cs,h1⟩
  .cases h3;exact ⟨rfl,ys,h1⟩
 row:=λid e t l ver lv hl=>by
  obtain ⟨o',h1,h2⟩:=k.bo id _ hl;rcases h2 with rfl|⟨c,xs,ys,h3,_⟩
  .exact ⟨l,ver,lv,h1,Nat.le_refl _,λ_=>⟨rfl,rfl⟩⟩
  .cases h3
 oth:=λid o hl d=>by
  obtain ⟨o',h1,h2⟩:=k.bo id _ hl;rcases h2 with rfl|⟨c,xs,ys,rfl,_⟩
  .exact ⟨rfl,rfl,o',h1,Ob.like_refl d⟩
  .simp [Ob.oth] at d
 dp:=λid D hl=>by
  obtain ⟨o',h1,h2⟩:=k.bo id _ hl;rcases h2 with rfl|⟨c,xs,ys,h3,_⟩
  .exact ⟨D,h1,λ_ _ h=>h⟩
  .cases h3
theorem WkC.rel {a m:St U} (k:Wk a m) {w:World} {β:Nm} {c c':Cell U} {v:Value} (h:WkC c c') (r:CRel w β a.h c v):CRel w β m.h c' v:=by
 rcases h with rfl|rfl|⟨rfl,e,y,rfl⟩
 .trivial
 .exact (k.ext w β).cell r
 .have r:v=.slice none 0 0:=r;subst r;exact Rep.nil e y none 0
theorem WkCs.rel {a m:St U} (k:Wk a m) {w:World} {β:Nm} {xs ys:List (Cell U)} {vs:List Value} (h:WkCs xs ys) (r:CsRel w β a.h xs vs):CsRel w β m.h ys vs:=by refine ⟨by rw [h.1];exact r.1,r.2.1,λj c' v hc b=>?_⟩;obtain ⟨c,h1,h2⟩:=h.2 j c' hc;exact h2.rel k (r.2.2 j c v h1 b)
theorem Wk.rel {tmps:Array Value} {a m:St U} (k:Wk a m) (R:Rel F n β a tmps w):Rel F n β m tmps w:=by
 have x:=k.ext w β;refine ⟨⟨R.bel,R.hB,λid o' hl=>?_,λid j id' l b h1 h2=>?_,R.frm,λid o' b hl=>?_,λid o' b hl=>?_,R.Mlt,R.Meq,λid o' v hl q=>?_,R.nmg,R.glo⟩,R.sz,λt p' r=>?_⟩
 .obtain ⟨o,h1,h2⟩:=k.ob id o' hl;have i:=R.obj id o h1;rcases h2 with rfl|⟨e,xs,ys,rfl,rfl,h3⟩
  .exact x.o rfl rfl (λ_ _=>rfl) i
  .obtain ⟨b,vs,s,u,y,z⟩:=i;exact ⟨b,vs,s,u,y,h3.rel k z⟩
 .obtain ⟨d,f,_⟩:=k.ob id j h1;obtain ⟨g,h,_⟩:=k.ob id' l h2;exact R.dis id d id' g b f h
 .obtain ⟨o,h1,_⟩:=k.ob id o' hl;exact R.own id o b h1
 .obtain ⟨o,h1,_⟩:=k.ob id o' hl;exact R.Mo id o b h1
 .obtain ⟨o,h1,h2⟩:=k.ob id o' hl;rw [h2.isRow];exact R.fix id o v h1 q
 .obtain ⟨p,h1,h2⟩:=k.sl t p' r;have hr:=R.tmp t p h1;rcases h2 with rfl|⟨c,c',rfl,rfl,h3⟩|⟨xs,ys,rfl,rfl,h3⟩
  .trivial
  .exact CsRel.one hr.inv.1 (h3.rel k hr.inv.2)
  .obtain ⟨vs,A,hc⟩:=hr;exact ⟨vs,A,h3.rel k hc⟩
theorem aa8 {x y z:Datum U} (h:at9 true x y=some z):z=x:=by
 unfold at9 at h;split at h
 .rename_i v a;simp only [cond_true,cn4] at h;rw [<-h,Datum.as_eq a]
 .cases h
theorem W2 {x y z:Datum U} (h:at9 false x y=some z):z=y:=by
 unfold at9 at h;split at h
 .simp only [cond_false,cn4] at h;exact h.symm
 .cases h
theorem beq2 {a a' b b':Nat} (h:(Nat.beq a a'&&Nat.beq b b')=true):a=a'/\b=b':=by simp only [cn7] at h;exact ⟨cn5 h.1,cn5 h.2⟩
theorem aD9 (x y:Cell U):WkC x (aJ9 true x y):=by
 unfold aJ9;split
 .split
  .rename_i h;rw [aa8 h];exact .inr (.inl rfl)
  .exact .inl rfl
 .exact .inr (.inl rfl)
 .exact .inr (.inl rfl)
 .exact .inr (.inr ⟨rfl,_,_,rfl⟩)
 all_goals first
  |exact .inl rfl
  |(simp only [co7];split<;>first|exact .inr (.inl rfl)|exact .inl rfl)
theorem au9 (x y:Cell U):WkC y (aJ9 false x y):=by
  unfold aJ9;split
  · split
    · rename_i h;rw [W2 h];exact .inr (.inl rfl)
    · exact .inl rfl
  · exact .inr (.inl rfl)
  · exact .inr (.inr ⟨rfl,_,_,rfl⟩)
  · exact .inr (.inl rfl)
  all_goals first
    | exact .inl rfl
    | (simp only [co7]
       split
       · rename_i h
         first
           | (obtain ⟨rfl,rfl⟩:=beq2 h;exact .inr (.inl rfl))
           | (have:=cn5 h;subst this;exact .inr (.inl rfl))
           | (simp only [cn7,beq_iff_eq] at h;obtain ⟨h1,rfl⟩:=h;have:=cn5 h1;subst this;exact .inr (.inl rfl))
           | (simp only [cn7] at h
              obtain ⟨h1,⟨h2,h3⟩,h4,a⟩:=h;have h1:=cn5 h1;have h2:=Array.eq_empty_of_size_eq_zero (cn5 h2);have h3:=Array.eq_empty_of_size_eq_zero (cn5 h3);have h4:=Array.eq_empty_of_size_eq_zero (cn5 h4);have a:=Array.eq_empty_of_size_eq_zero (cn5 a);subst h1;subst h2;subst h3;subst h4;subst a;exact .inr (.inl rfl))
       · exact .inl rfl)
theorem aE0:∀ {xs ys:List (Cell U)},xs.length=ys.length->WkCs xs (zipC true xs ys)
 |[],[],_=>⟨rfl,λj c h=>by simp [zipC] at h⟩
 |x::xs,y::ys,h=>by
  obtain ⟨h1,h2⟩:=aE0 (xs:=xs) (ys:=ys) (by simpa using h);refine ⟨by simp [zipC,h1],λj c hc=>?_⟩;cases j with
  |zero=>simp only [zipC,co2,cn4] at hc;exact ⟨x,rfl,hc▸aD9 x y⟩
  |succ j=>exact h2 j c (by simpa [zipC] using hc)
 |[],_::_,h=>by simp at h
 |_::_,[],h=>by simp at h
theorem ar7:∀ {xs ys:List (Cell U)},xs.length=ys.length->WkCs ys (zipC false xs ys)
 |[],[],_=>⟨rfl,λj c h=>by simp [zipC] at h⟩
 |x::xs,y::ys,h=>by
  obtain ⟨h1,h2⟩:=ar7 (xs:=xs) (ys:=ys) (by simpa using h);refine ⟨by simp [zipC,h1],λj c hc=>?_⟩;cases j with
  |zero=>simp only [zipC,co2,cn4] at hc;exact ⟨y,rfl,hc▸au9 x y⟩
  |succ j=>exact h2 j c (by simpa [zipC] using hc)
 |[],_::_,h=>by simp at h
 |_::_,[],h=>by simp at h
theorem aE1 (x y:PV U):WkP x (an2 true x y)/\(an2 true x y).plain=true:=by
 unfold an2;split
 .exact ⟨.inr (.inl ⟨_,_,rfl,rfl,aD9 _ _⟩),rfl⟩
 .simp only [co7];split
  .rename_i h;exact ⟨.inr (.inr ⟨_,_,rfl,rfl,aE0 (cn5 h)⟩),rfl⟩
  .exact ⟨.inl rfl,rfl⟩
 .exact ⟨.inl rfl,rfl⟩
theorem av0 (x y:PV U):WkP y (an2 false x y)/\(an2 false x y).plain=true:=by
 unfold an2;split
 .exact ⟨.inr (.inl ⟨_,_,rfl,rfl,au9 _ _⟩),rfl⟩
 .simp only [co7];split
  .rename_i h;exact ⟨.inr (.inr ⟨_,_,rfl,rfl,ar7 (cn5 h)⟩),rfl⟩
  .exact ⟨.inl rfl,rfl⟩
 .exact ⟨.inl rfl,rfl⟩
theorem bh5 {x y z:Ob U} (h:aW5 true x y=some z):WkO x z:=by
 unfold aW5 at h;split at h
 .simp only [co7] at h;split at h
  .rename_i hc;cases h;exact .inr ⟨_,_,_,rfl,rfl,aE0 (beq2 hc).2⟩
  .cases h
 .simp only [co7] at h;split at h
  .split at h
   .rename_i a;have:=aa8 a;simp only [Sigma.mk.injEq,Ty.slice.injEq] at this;obtain ⟨⟨rfl,rfl⟩,h2⟩:=this;have h2:=eq_of_heq h2;subst h2;cases h;exact .inl rfl
   .cases h
  .cases h
 .split at h
  .rename_i a;have:=aa8 a;simp only [Sigma.mk.injEq,Ty.map.injEq] at this;obtain ⟨⟨rfl,rfl⟩,h2⟩:=this;have h2:=eq_of_heq h2;subst h2;cases h;exact .inl rfl
  .cases h
 .cases h;exact .inl rfl
 .simp only [co7] at h;split at h
  .split at h
   .rename_i a;have:=aa8 a;simp only [Sigma.mk.injEq,Ty.slice.injEq] at this;obtain ⟨⟨rfl,rfl⟩,h2⟩:=this;have h2:=eq_of_heq h2;subst h2;cases h;exact .inl rfl
   .cases h
  .cases h
 .cases h
theorem aZ7 {x y z:Ob U} (h:aW5 false x y=some z):WkO y z:=by
 unfold aW5 at h;split at h
 .simp only [co7] at h;split at h
  .rename_i hc;cases h;have:=(beq2 hc).1;subst this;exact .inr ⟨_,_,_,rfl,rfl,ar7 (beq2 hc).2⟩
  .cases h
 .simp only [co7] at h;split at h
  .rename_i hc;simp only [cn7,beq_iff_eq] at hc;obtain ⟨h1,rfl⟩:=hc;have h1:=cn5 h1;subst h1;split at h
   .rename_i a;have:=W2 a;simp only [Sigma.mk.injEq,Ty.slice.injEq] at this;obtain ⟨⟨rfl,rfl⟩,h2⟩:=this;have h2:=eq_of_heq h2;subst h2;cases h;exact .inl rfl
   .cases h
  .cases h
 .split at h
  .rename_i a;have:=W2 a;simp only [Sigma.mk.injEq,Ty.map.injEq] at this;obtain ⟨⟨rfl,rfl⟩,h2⟩:=this;have h2:=eq_of_heq h2;subst h2;cases h;exact .inl rfl
  .cases h
 .cases h;exact .inl rfl
 .simp only [co7] at h;split at h
  .rename_i hc;simp only [cn7,beq_iff_eq] at hc;obtain ⟨⟨rfl,h1⟩,h3,rfl⟩:=hc;have h1:=cn5 h1;have h3:=cn5 h3;subst h1;subst h3;split at h
   .rename_i a;have:=W2 a;simp only [Sigma.mk.injEq,Ty.slice.injEq] at this;obtain ⟨⟨rfl,rfl⟩,h2⟩:=this;have h2:=eq_of_heq h2;subst h2;cases h;exact .inl rfl
   .cases h
  .cases h
 .cases h
theorem aE2:∀ {x y z:Obs U},aK0 true x y=some z->(∀ id o',look id z=some o'->∃ o,look id x=some o/\WkO o o')/\∀ id o,look id x=some o->∃ o',look id z=some o'/\WkO o o'
 |[],[],z,h=>by cases h;exact ⟨λ_ _ h=>(by cases h),λ_ _ h=>(by cases h)⟩
 |(k,x)::r,(k',y)::r',z,h=>by
  simp only [aK0,co7] at h;split at h
  .split at h
   .rename_i o c;split at h
    .rename_i q d;cases h;obtain ⟨h1,h2⟩:=aE2 d;have b:=bh5 c;refine ⟨λid o' hl=>?_,λid o' hl=>?_⟩
     .simp only [look] at hl |-;split at hl
      .rename_i a;cases hl;rw [if_pos a];exact ⟨x,rfl,b⟩
      .rename_i a;rw [if_neg a];exact h1 id o' hl
     .simp only [look] at hl |-;split at hl
      .rename_i a;cases hl;rw [if_pos a];exact ⟨o,rfl,b⟩
      .rename_i a;rw [if_neg a];exact h2 id o' hl
    .cases h
   .cases h
  .cases h
 |[],_::_,z,h=>by cases h
 |_::_,[],z,h=>by cases h
theorem av1:∀ {x y z:Obs U},aK0 false x y=some z->(∀ id o',look id z=some o'->∃ o,look id y=some o/\WkO o o')/\∀ id o,look id y=some o->∃ o',look id z=some o'/\WkO o o'
 |[],[],z,h=>by cases h;exact ⟨λ_ _ h=>(by cases h),λ_ _ h=>(by cases h)⟩
 |(k,x)::r,(k',y)::r',z,h=>by
  simp only [aK0,co7] at h;split at h
  .rename_i a;have a:=cn5 a;subst a;split at h
   .rename_i o d;split at h
    .rename_i q e;cases h;obtain ⟨h1,h2⟩:=av1 e;have c:=aZ7 d;refine ⟨λid o' hl=>?_,λid o' hl=>?_⟩
     .simp only [look] at hl |-;split at hl
      .rename_i b;cases hl;rw [if_pos b];exact ⟨y,rfl,c⟩
      .rename_i b;rw [if_neg b];exact h1 id o' hl
     .simp only [look] at hl |-;split at hl
      .rename_i b;cases hl;rw [if_pos b];exact ⟨o,rfl,c⟩
      .rename_i b;rw [if_neg b];exact h2 id o' hl
    .cases h
   .cases h
  .cases h
 |[],_::_,z,h=>by cases h
 |_::_,[],z,h=>by cases h
theorem P5 {t:Bool} {k:Nat} {p:PV U}:∀ {x σ:List (Nat×PV U)},look k (aW6 t x σ)=some p->∃ a b,look k x=some a/\look k σ=some b/\p=an2 t a b
 |[],σ,h=>by cases h
 |(j,a)::r,σ,h=>by
  simp only [aW6] at h;by_cases c:Nat.beq j k=true
  .have e:=cn5 c;subst e;split at h
   .rename_i b d;simp only [look] at h |-;rw [if_pos c] at h |-;cases h;exact ⟨a,b,rfl,d,rfl⟩
   .rename_i d;obtain ⟨a',b',_,h2,_⟩:=P5 h;rw [d] at h2;cases h2
  .simp only [look,c,Bool.false_eq_true,if_false];split at h
   .simp only [look] at h;rw [if_neg c] at h;exact P5 h
   .exact P5 h
theorem aZ8 {tmps:Array Value} {t:Bool} {ids:List Nat} {a b m:St U} (h:St.merge t ids a b=some m) (R:if t=true then Rel F n β a tmps w else Rel F n β b tmps w):Rel F n β m tmps w/\OptIn (λ_=>False) m.σ:=by
 unfold St.merge at h;dsimp only at h;split at h
 .rename_i q c;cases h;refine ⟨?_,λk gs p hl=>?_⟩
  .cases t with
   |true=>
    obtain ⟨Ra,_⟩:=ah1 (show Rel F n β a tmps w from R) (bf4 a.σ) ids;obtain ⟨h1,h2⟩:=aE2 c;exact Wk.rel ⟨λk p hl=>by
     obtain ⟨x,y,d,e,rfl⟩:=P5 hl;exact ⟨x,d,(aE1 x y).1⟩,h1,h2⟩ Ra
   |false=>
    obtain ⟨Rb,_⟩:=ah1 (show Rel F n β b tmps w from R) (bf4 b.σ) ids;obtain ⟨h1,h2⟩:=av1 c;exact Wk.rel ⟨λk p hl=>by
     obtain ⟨x,y,d,e,rfl⟩:=P5 hl;exact ⟨y,e,(av0 x y).1⟩,h1,h2⟩ Rb
  .obtain ⟨x,y,_,_,f⟩:=P5 hl;have:(an2 t x y).plain=true:=by
    cases t with
    |true=>exact (aE1 x y).2
    |false=>exact (av0 x y).2
   rw [<-f] at this;cases this
 .cases h
theorem ar8 {p q:Option Prop} (h:holds (bD1 p q)):holds p/\holds q:=by cases p<;>cases q<;>simp_all [bD1,holds]
theorem aZ9 {b:Prop} {p:Option Prop} (h:holds (impO b p)) (a:b):holds p:=by cases p<;>simp_all [impO,holds]
theorem bv3 {p:Option Prop} {q:Prop} (h:ca9 p q):holds p/\q:=by cases p<;>simp_all [ca9,holds]
theorem av2 {Qp:PanV U->Prop} {ms:Option (List Nat)} {q:Prop}:∀ {xs:List (Wr U)} {p:Option Prop} (i:Nat),aq8 xs=some p->holds p->q->aQ2 xs (obls Qp ms xs i [] q)/\obls Qp ms xs i [] q
 |[],p,i,h,a,c=>⟨c,c⟩
 |x::r,p,i,h,a,c=>by
  simp only [aq8] at h;split at h
  .rename_i p' h1 h2 h3;cases h;obtain ⟨f,hr⟩:=ar8 a;obtain ⟨_,g⟩:=av2 (Qp:=Qp) (ms:=ms) (i+1) h3 hr c;have b:obls Qp ms (x::r) i [] q:=by
    simp only [obls,h1];cases d:x.obl with
    |none=>exact g
    |some y=>rw [d] at f;exact ⟨f,g⟩
   refine ⟨?_,b⟩;have hf:∀ {ys:List (Wr U)} {p:Option Prop} {z:Prop},aq8 ys=some p->z->aQ2 ys z:=by
    intro ys
    induction ys with
    |nil=>exact λ_ e=>e
    |cons y ys ih=>
     intro p z a e;simp only [aq8] at a;split at a
     .rename_i l m j k;simp only [aQ2,j];exact ih k e
     .cases a
   simp only [aQ2,h2];exact hf h3 b
  .cases h
theorem bG1 {X id:Nat} {d:Bool} {ops:List Oper} {s s1:St U} {p:Option Prop} (h:regS E X d ops s=some (p,s1)) (b:holds p) (Qp:PanV U->St U->Prop):region E X id d ops s Qp (λs'=>s'=s1):=by
 unfold regS at h;split at h
 .rename_i xs s' hr;simp only [co7] at h;split at h
  .rename_i hc;split at h
   .rename_i p' a;cases h;unfold region;rw [hr];dsimp only [bQ4];rw [hc];exact (av2 0 a b rfl).1
   .cases h
  .cases h
 .cases h
theorem P6 {Y:Fr} {ro:Option Nat} (o:E.Fits) (q:E.Sound Y) (r:O0 Y F E.yl) (f:F.G=E.G) (hm:E.P.follows .mixedOrders=true) (X:Nat):∀ (c:Code) (s:St U) (p:Option Prop) (s1:St U),runS E X c s=some (p,s1)->holds p->J7 n c=true->
  ∀ (β:Nm) (a:Act) (w:World),Rel F n β s a.tmps w->OptIn (λ_=>False) s.σ->∀ Q:Exit->Act->World->Prop,
   (∀ β' a' w',Rel F n β' s1 a'.tmps w'->OptIn (λ_=>False) s1.σ->a'.defers=a.defers->Q .normal a' w')->c.wpIn (fen E.P ro) 0 E.P Q a w
 | .skip,s,p,s1,h,j,ok,β,a,w,R,g,Q,i=>by cases h;exact wpIn_skip (i β a w R g rfl)
 | .region id ops d,s,p,s1,h,j,ok,β,a,w,R,g,Q,i=>by
  have L:wpc E X (λ_ _=>⟨[],[],[],λ_=>False,λ_=>0,[]⟩) (.region id ops d) 0 s (λway s'=>way=.normal/\s'=s1):=by
   simp only [runS] at h;split at h
   .cases h
   rename_i M;split at h
   .cases h
   .rename_i A;simp only [wpc];rw [M,A];cases hc:(!d&&(I0 ops.toList&&aW1 ops.toList)) with
    |true=>rw [hc] at h;have:=bG1 (id:=id) h j (λ_ _=>False);simp only [cond_true,true_and];exact this
    |false=>rw [hc] at h;have:=bG1 (id:=id) h j (λv s'=>(Way.panic v:Way U)=.normal/\s'=s1);simp only [cond_false,true_and];exact this
  refine aM1 o q r f hm X _ 0 s _ ok L β a w R g Q (λway e s' β' a' w' B h1 R' b k=>?_);obtain ⟨rfl,rfl⟩:=h1;have B:e=.normal:=B;subst B;exact i β' a' w' R' b k
 | .seq c d,s,p,s1,h,j,ok,β,a,w,R,g,Q,i=>by
  simp only [J7,cn7] at ok;simp only [runS] at h;split at h
  .rename_i C s2 h1;split at h
   .rename_i D K h2;cases h;obtain ⟨H,I⟩:=ar8 j;exact wpIn_seq (P6 o q r f hm X c s C s2 h1 H ok.1 β a w R g _ (λβ' a' w' R' b k=>P6 o q r f hm X d s2 D s1 h2 I ok.2 β' a' w' R' b Q (λβ2 N O R2 l J=>i β2 N O R2 l (J.trans k))))
   .cases h
  .cases h
 | .cond x c d,s,p,s1,h,j,ok,β,a,w,R,g,Q,i=>by
  simp only [J7,cn7] at ok;simp only [runS] at h;split at h
  .rename_i t S;split at h
   .rename_i C s2 h1;split at h
    .rename_i D K h2;split at h
     .rename_i m u;cases h;obtain ⟨H,I⟩:=ar8 j;have y:=S4 R x;rw [S] at y;refine wpIn_cond_split y.bool (λz=>?_) (λz=>?_)
      .refine P6 o q r f hm X c s C s2 h1 (aZ9 H z) ok.1 β a w R g Q (λβ' a' w' R' b k=>?_);obtain ⟨R2,l⟩:=aZ8 u (by rw [if_pos z];exact R');exact i β' a' w' R2 l k
      .refine P6 o q r f hm X d s D K h2 (aZ9 I z) ok.2 β a w R g Q (λβ' a' w' R' b k=>?_);obtain ⟨R2,l⟩:=aZ8 u (by rw [if_neg (by rw [z];simp)];exact R');exact i β' a' w' R2 l k
     .cases h
    .cases h
   .cases h
  .cases h
 | .scope c,s,p,s1,h,j,ok,β,a,w,R,g,Q,i=>ar6 (P6 o q r f hm X c s p s1 h j ok β a w R g _ (λβ' a' w' R' b k=>i β' a' w' R' b k))
 | .block id c,s,p,s1,h,j,ok,β,a,w,R,g,Q,i=>wpIn_block (P6 o q r f hm X c s p s1 h j ok β a w R g _ (λβ' a' w' R' b k=>i β' a' w' R' b k))
 | .loop _,_,_,_,h,_,_,_,_,_,_,_,_,_=>by cases h
 | .exit _,_,_,_,h,_,_,_,_,_,_,_,_,_=>by cases h
 | .ret,_,_,_,h,_,_,_,_,_,_,_,_,_=>by cases h
 | .label _,_,_,_,h,_,_,_,_,_,_,_,_,_=>by cases h
 | .goto _,_,_,_,h,_,_,_,_,_,_,_,_,_=>by cases h
 | .rangeFunc ..,_,_,_,h,_,_,_,_,_,_,_,_,_=>by cases h
 | .refuse _,_,_,_,h,_,_,_,_,_,_,_,_,_=>by cases h
theorem J2 {Y:Fr} {ro:Option Nat} (y:E.Fits) (z:E.Sound Y) (B:O0 Y F E.yl) (m:F.G=E.G) (hm:E.P.follows .mixedOrders=true) (X:Nat) (L:Nat->St U->Ann U):∀ (c:Code) (k:Nat) (s:St U) (Q':Way U->St U->Prop),J7 n c=true->noRF c=true->wpc E X L c k s Q'->
  ∀ (β:Nm) (a:Act) (w:World),Rel F n β s a.tmps w->OptIn (λ_=>False) s.σ->∀ Q:Exit->Act->World->Prop,
   (∀ way e s' β' a' w',bq5 way e->Q' way s'->Rel F n β' s' a'.tmps w'->OptIn (λ_=>False) s'.σ->a'.defers=a.defers->Q e a' w')->c.wpIn (fen E.P ro) 0 E.P Q a w
 | .skip,k,s,Q',ok,nr,h,β,a,w,R,i,Q,g=>wpIn_skip (g .normal _ s β a w rfl h R i rfl)
 | .region id ops drawn,k,s,Q',ok,nr,h,β,a,w,R,i,Q,g=>aM1 y z B m hm X L k s Q' ok h β a w R i Q g
 | .seq c d,k,s,Q',ok,nr,h,β,a,w,R,i,Q,g=>by
  simp only [J7,cn7] at ok;simp only [noRF,cn7] at nr;refine wpIn_seq (J2 y z B m hm X L c k s _ ok.1 nr.1 h β a w R i _ (λway e s' β' a' w' j h1 R' f o=>?_));cases way with
  |normal=>have j:e=.normal:=j;subst j;exact J2 y z B m hm X L d _ s' Q' ok.2 nr.2 h1 β' a' w' R' f Q (λway2 e2 s2 β2 a2 w2 q0 q1 q2 q3 q4=>g way2 e2 s2 β2 a2 w2 q0 q1 q2 q3 (q4.trans o))
  |exit id=>have b:e=.exit id:=j;subst b;exact g (.exit id) _ s' β' a' w' rfl h1 R' f o
  |ret=>have b:e=.ret:=j;subst b;exact g .ret _ s' β' a' w' rfl h1 R' f o
  |panic v=>obtain ⟨u,h2,rfl⟩:=j;exact g (.panic v) _ s' β' a' w' ⟨u,h2,rfl⟩ h1 R' f o
 | .cond x c d,k,s,Q',ok,nr,h,β,a,w,R,i,Q,g=>by
  simp only [wpc] at h;split at h
  .rename_i p s' q;cases J:(E.mg&&P0 (.cond x c d)) with
   |false=>rw [J] at q;cases q
   |true=>rw [J] at q;obtain ⟨hp,I⟩:=bv3 h;exact P6 y z B m hm X (.cond x c d) s p s' q hp ok β a w R i Q (λβ' a' w' h1 h2 h3=>g .normal _ _ β' a' w' rfl I h1 h2 h3)
  simp only [J7,cn7] at ok;simp only [noRF,cn7] at nr;split at h
  .rename_i t ht;have K:=S4 R x;rw [ht] at K;exact wpIn_cond_split K.bool (λO=>J2 y z B m hm X L c k s Q' ok.1 nr.1 (h.1 O) β a w R i Q g) (λO=>J2 y z B m hm X L d _ s Q' ok.2 nr.2 (h.2 O) β a w R i Q g)
  .exact h.elim
 | .block id c,k,s,Q',ok,nr,h,β,a,w,R,i,Q,g=>by
  refine wpIn_block (J2 y z B m hm X L c k s _ ok nr h β a w R i _ (λway e s' β' a' w' j h1 R' f o=>?_));cases way with
  |normal=>have b:e=.normal:=j;subst b;exact g .normal _ s' β' a' w' rfl h1 R' f o
  |ret=>have b:e=.ret:=j;subst b;exact g .ret _ s' β' a' w' rfl h1 R' f o
  |panic v=>obtain ⟨u,h2,rfl⟩:=j;exact g (.panic v) _ s' β' a' w' ⟨u,h2,rfl⟩ h1 R' f o
  |exit id'=>
   have b:e=.exit id':=j;subst b;simp only at h1;show if id'=id then Q .normal a' w' else Q (.exit id') a' w';by_cases C:id'=id
   .rw [if_pos C];rw [if_pos (by rw [C];exact Nat.beq_refl id)] at h1;exact g .normal _ s' β' a' w' rfl h1 R' f o
   .rw [if_neg C];rw [if_neg (by rw [N0 C];simp)] at h1;exact g (.exit id') _ s' β' a' w' rfl h1 R' f o
 | .loop c,k,s,Q',ok,nr,h,β,a,w,R,i,Q,g=>by
  have nr:noRF c=true:=nr;simp only [wpc,nr,Bool.not_true,cond_false] at h;generalize L k s=A at h;obtain ⟨β,R,i⟩:=N3 (l:=A.nils) R i;generalize S7 s A.nils=s at h R i;obtain ⟨⟨p0,S⟩,r⟩:=h;obtain ⟨H,V⟩:=ao6 S;obtain ⟨R0,M⟩:=ah1 R (Q6 s c A) (keys s.h);generalize hs0:s.keep (Q6 s c A) (keys s.h)=s0 at H r R0 M;refine aM0 (α:=Dens U.T A.tys) (λp a' w'=>∃ β',Rel F n β' (at8 s0 A.at_ (A7 U A.tys p)) a'.tmps w'/\OptIn (λ_=>False) (at8 s0 A.at_ (A7 U A.tys p)).σ/\A.inv p/\a'.defers=a.defers) A.μ (p0:=p0) ⟨β,by rw [<-H];exact R0,by rw [<-H];exact M,V,rfl⟩ ?_;rintro p a1 w1 ⟨β1,R1,W,Z,D⟩;refine J2 y z B m hm X L c (k+1) _ _ ok nr (r p Z) β1 a1 w1 R1 W _ (λway e s' β' a' w' j h1 R' f o=>?_);cases way with
  |normal=>have b:e=.normal:=j;subst b;obtain ⟨β',R',f⟩:=N3 (l:=ca6 A.nils) R' f;obtain ⟨p',b⟩:=h1;obtain ⟨N,hi',hμ⟩:=ao6 b;obtain ⟨R2,hO2⟩:=ah1 R' (Q6 s c A) (keys s.h);exact ⟨p',⟨β',by rw [<-N];exact R2,by rw [<-N];exact hO2,hi',o.trans D⟩,hμ⟩
  |exit id=>have b:e=.exit id:=j;subst b;exact g (.exit id) _ s' β' a' w' rfl h1 R' f (o.trans D)
  |ret=>have b:e=.ret:=j;subst b;exact g .ret _ s' β' a' w' rfl h1 R' f (o.trans D)
  |panic v=>obtain ⟨u,h2,rfl⟩:=j;exact g (.panic v) _ s' β' a' w' ⟨u,h2,rfl⟩ h1 R' f (o.trans D)
 | .exit id,k,s,Q',ok,nr,h,β,a,w,R,i,Q,g=>wpIn_exit (g (.exit id) _ s β a w rfl h R i rfl)
 | .ret,k,s,Q',ok,nr,h,β,a,w,R,i,Q,g=>wpIn_ret (g .ret _ s β a w rfl h R i rfl)
 | .label _,k,s,Q',ok,nr,h,β,a,w,R,i,Q,g=>wpIn_label (g .normal _ s β a w rfl h R i rfl)
 | .goto _,k,s,Q',ok,nr,h,_,_,_,_,_,_,_=>h.elim
 | .scope c,k,s,Q',ok,nr,h,β,a,w,R,i,Q,g=>by
  refine ar6 (J2 y z B m hm X L c k s Q' ok nr h β a w R i _ (λway e s' β' a' w' j h1 R' f o=>?_));have I:=g way e s' β' a' w' j h1 R' f o;cases way with
  |normal=>have b:e=.normal:=j;subst b;exact I
  |ret=>have b:e=.ret:=j;subst b;exact I
  |exit id=>have b:e=.exit id:=j;subst b;exact I
  |panic v=>obtain ⟨u,h2,rfl⟩:=j;exact I
 | .rangeFunc ..,k,s,Q',ok,nr,h,_,_,_,_,_,_,_=>by simp [noRF] at nr
end
end Go.VT
end
section
namespace Go.VT
noncomputable section
open Go.RowKit
variable {U:Univ} {E:Env U} {F:Fr} {n:Nat} {β:Nm} {s s':St U} {a:Act} {w:World} {h:Obs U}
theorem P7:∀ {gs:List (Bool×Nat)} {cs vs:List Value},I8 gs cs vs->vs.length=gs.length
 |[],cs,vs,b=>by obtain ⟨_,rfl⟩:=b;rfl
 |(true,k)::gs,cs,vs,b=>by obtain ⟨a,r,v',vs',_,_,_,rfl,hr⟩:=b;simp [P7 hr]
 |(false,k)::gs,cs,vs,b=>by obtain ⟨c,r,vs',_,_,rfl,hr⟩:=b;simp [P7 hr]
def pvOf:Bool×List (Cell U)->PV U
 |(true,cs)=>.agg cs
 |(false,[c])=>.one c
 |_=>.un
theorem aM2 {t:Nat} {p:PV U}:∀ {gs:List (Bool×List (Cell U))} {i:Nat},look t (aW7 gs i)=some p->i<=t/\∃ x,gs[t-i]? =some x/\p=pvOf x
 |[],i,h=>by simp [aW7,look] at h
 |(b,cs)::r,i,h=>by
  simp only [aW7,look] at h;split at h
  .rename_i a;have a:=cn5 a;subst a;simp only [cn4] at h;refine ⟨Nat.le_refl _,(b,cs),by simp,?_⟩;rw [<-h];cases b with
   |true=>rfl
   |false=>
    match cs with
    |[]=>rfl
    |[c]=>rfl
    |_::_::_=>rfl
  .obtain ⟨h1,x,h2,h3⟩:=aM2 h;exact ⟨by omega,x,by rw [show t-i=(t-(i+1))+1 by omega];simpa using h2,h3⟩
theorem bG2 {σ:List (Nat×PV U)} {gs:List (Bool×Nat)} {cs:List (Cell U)} {us vs:List Value} {t:Nat} {p:PV U} (e:I8 gs us vs) (hc:CsRel w β h cs us) (hl:look t (aW7 (D0 gs cs) 0)=some p):
  ∃ v,vs[t]? =some v/\PRel w β h σ p v/\p.plain=true:=by
 obtain ⟨h1,x,h2,h3⟩:=aM2 hl;rw [Nat.sub_zero] at h2;obtain ⟨f,g⟩:=P3 (σ:=σ) e hc;have a:t<vs.length:=by rw [f,<-J1 gs cs];exact (cn9.1 h2).1
 have d:=cn6 a;refine ⟨vs[t],d,?_,?_⟩
 .have:=g t x _ h2 d;rw [h3];obtain ⟨b,cs'⟩:=x;cases b with
  |true=>exact this
  |false=>
   match cs',this with
   |[],this=>trivial
   |[c],this=>exact this
   |_::_::_,_=>trivial
 .rw [h3];obtain ⟨b,cs'⟩:=x;cases b with
  |true=>rfl
  |false=>
   match cs' with
   |[]=>rfl
   |[c]=>rfl
   |_::_::_=>rfl
theorem bh6 {fn:Func} {tmps:Array Value} {vs:List (PV U)} (z:ad3 E.P s fn.results.toList=some vs) (R:Rel F n β s tmps w):
  ∃ us:List Value,(results fn tmps).run E.P w=.ok (match us with|[v]=>v|_=>.tuple us.toArray) w/\us.length=vs.length/\∀ (j:Nat) (p:PV U) (u:Value),vs[j]? =some p->us[j]? =some u->PRel w β s.h s.σ p u:=by
 have key:∀ (l:List ResultVar) (vs:List (PV U)),ad3 E.P s l=some vs->∃ us:List Value,(l.mapM λ(x:ResultVar)=>(match x with
   | .tmp t=>pure (tmps.getD t undef)
   | .cell a t=>do loadVar t (←asAddr (tmps.getD a undef)):Sem Value)).run E.P w=.ok us w/\us.length=vs.length/\∀ (j:Nat) (p:PV U) (u:Value),vs[j]? =some p->us[j]? =some u->PRel w β s.h s.σ p u:=by
  intro l
  induction l with
  |nil=>intro vs h;simp only [ad3,cn4] at h;subst h;exact ⟨[],by simp,rfl,by simp⟩
  |cons x r ih=>
   intro vs h;cases x with
   |tmp t=>
    simp only [ad3,co1] at h;obtain ⟨vs',h1,rfl⟩:=h;obtain ⟨us,h2,h3,h4⟩:=ih vs' h1;refine ⟨tmps.getD t undef::us,?_,by simp [h3],λj p u b d=>?_⟩
    .simp only [List.mapM_cons,Sem.run_bind,Sem.run_pure,Result.andThen_ok,h2]
    .match j,b,d with
     |0,b,d=>
      simp only [co2,cn4] at b d;subst b;subst d;simp only [ev];cases hl:look t s.σ with
      |none=>trivial
      |some q=>exact R.tmp t q hl
     |j+1,b,d=>exact h4 j p u (by simpa using b) (by simpa using d)
   |cell a t=>
    simp only [ad3] at h;split at h
    case h_2=>cases h
    rename_i id off b;split at h
    case h_2=>cases h
    rename_i e cs A;split at h
    case h_2=>cases h
    rename_i v i;simp only [co1] at h;obtain ⟨vs',h1,rfl⟩:=h;obtain ⟨us,h2,h3,h4⟩:=ih vs' h1;have f:PRel w β s.h s.σ (.one (.ptr id off)) (tmps.getD a undef):=by
     rw [<-b];simp only [ev];cases hl:look a s.σ with
     |none=>trivial
     |some q=>exact R.tmp a q hl
    obtain ⟨_,_,g,B,hβ,k⟩:=f.inv.2;obtain ⟨g',cur,m,G,C,D⟩:=R.obj id _ A;rw [hβ] at m;simp only [Value.pointer.injEq,cn4,Addr.mk.injEq,and_true] at m;subst m;obtain ⟨u,d,o⟩:=bD2 (E:=E) i (D.drop off) (g:=g) (q:=off) (λj v y=>by
     rw [List.getElem?_drop] at y;simp [World.cell?,C,<-Array.getElem?_toList,y])
    refine ⟨u::us,?_,by simp [h3],λj p u' b c=>?_⟩
    .have has:(asAddr (tmps.getD a undef)).run E.P w=.ok ⟨g,off,none⟩ w:=by rw [k];rfl
     simp only [List.mapM_cons,Sem.run_bind,Sem.run_pure,has,Result.andThen_ok,d,h2]
    .match j,b,c with
     |0,b,c=>simp only [co2,cn4] at b c;subst b;subst c;exact o
     |j+1,b,c=>exact h4 j p u' (by simpa using b) (by simpa using c)
 obtain ⟨us,h1,h2,h3⟩:=key _ _ z;refine ⟨us,?_,h2,h3⟩;unfold results;simp only [Array.mapM_eq_mapM_toList,bind_map_left,Sem.run_bind];refine (congrArg (λr:Result (List Value)=>r.andThen (λa w'=>Sem.run E.P (pure (if h:a.toArray.size=1 then a.toArray[0] else Value.tuple a.toArray)) w')) h1).trans ?_;simp only [Result.andThen_ok,Sem.run_pure]
 match us with
 |[]=>rfl
 |[v]=>rfl
 |_::_::_=>simp
theorem aa9 (K:Con U):∀ {ps:List CPat} {cs:List (Cell U)} {i:Nat} {h:Obs U} {β:Nm} {us:List Value},Ok F w β h->CsRel w β h cs us->∃ β',Ok F w β' (an1 K ps cs i h).2/\Ext w β h w β' (an1 K ps cs i h).2/\CsRel w β' (an1 K ps cs i h).2 (an1 K ps cs i h).1 us
 |[],cs,i,h,β,us,k,hc=>⟨β,k,Ext.refl _ _ _,hc⟩
 |_::_,[],i,h,β,us,k,hc=>⟨β,k,Ext.refl _ _ _,hc⟩
 |p::ps,c::cs,i,h,β,us,k,hc=>by
  match us,hc.1 with
  |u::us,_=>
  have r:u.oneCell'=true:=hc.2.1 u (by simp);have g:CRel w β h c u:=hc.2.2 0 c u rfl rfl;have l:CsRel w β h cs us:=hc.drop 1;have cons:∀ {β':Nm} {h':Obs U} {c':Cell U} {cs':List (Cell U)},CRel w β' h' c' u->CsRel w β' h' cs' us->CsRel w β' h' (c'::cs') (u::us):=by
   intro β' h' c' cs' h1 h2;refine ⟨by simp [h2.1],λv f=>hc.2.1 v f,λj d v o f=>?_⟩
   match j,o,f with
   |0,o,f=>simp only [co2,cn4] at o f;subst o;subst f;exact h1
   |j+1,o,f=>exact h2.2.2 j d v (by simpa using o) (by simpa using f)
  cases a:nil1 K p c i h with
  |none=>simp only [an1,a];obtain ⟨β',k',x',c'⟩:=aa9 K (ps:=ps) (i:=i+1) k l;exact ⟨β',k',x',cons (x'.cell g) c'⟩
  |some h1=>
   simp only [an1,a];unfold nil1 at a;split at a
   .rename_i j;split at a
    case h_2=>cases a
    rename_i q s;split at a
    case h_2=>cases a
    rename_i e t x;split at a
    case h_2=>cases a
    rename_i hf;simp only [cn4] at a;subst a;have A:=bh3 k hf e t;have n:u=.slice none 0 0:=g;have b:CRel w (upd1 β i (.slice none 0 0)) (write i (.row e t [] 0 true) h) (.row i 0) u:=
     ⟨e,t,[],0,true,A9 _ _ _,Nat.le_refl _,λ_=>by rw [n];exact (C2 _ _ _).symm⟩
    obtain ⟨β',k',x',c'⟩:=aa9 K (ps:=ps) (i:=i+1) A.ok (A.ext.cs l);exact ⟨β',k',A.ext.trans x',cons (x'.cell b) c'⟩
   .rename_i j;split at a
    case h_2=>cases a
    rename_i q m s;split at a
    case h_2=>cases a
    rename_i e t x;split at a
    case h_2=>cases a
    rename_i hf;simp only [cn4] at a;subst a;have A:=bq4 k hf e t m;have n:u=.slice none 0 0:=g;have b:CRel w (upd1 β i (.tuple ((.slice none 0 0:Value)::[]).toArray)) (write i (.dp (.rows e t m [] 0 0 true none)) h) (.dc i (.self 0)) u:=by rw [n];exact ⟨_,A9 _ _ _,Nat.le_refl _,λ_=>⟨_,C2 _ _ _,by simp⟩⟩
    obtain ⟨β',k',x',c'⟩:=aa9 K (ps:=ps) (i:=i+1) A.ok (A.ext.cs l);exact ⟨β',k',A.ext.trans x',cons (x'.cell b) c'⟩
   .cases a
theorem ar9 {n:Nat}:∀ {c j0:Nat} {j id:Nat},look j (bf5 j0 c)=some id->id=oid j/\j0<=j/\j<j0+c
 |0,j0,j,id,h=>by simp [bf5,look] at h
 |c+1,j0,j,id,h=>by
  simp only [bf5,look] at h;split at h
  .rename_i a;have a:=cn5 a;subst a;simp only [cn4] at h;exact ⟨h.symm,Nat.le_refl _,by omega⟩
  .obtain ⟨h1,h2,h3⟩:=ar9 (n:=n) h;exact ⟨h1,by omega,by omega⟩
theorem bq6:∀ {c j0 j:Nat},j0<=j->j<j0+c->look j (bf5 j0 c)=some (oid j)
 |0,j0,j,h1,h2=>by omega
 |c+1,j0,j,h1,h2=>by
  simp only [bf5,look];by_cases h:j0=j
  .subst h;simp
  .rw [if_neg (by rw [N0 h];simp)];exact bq6 (by omega) (by omega)
theorem aR8 (k:Ok F w β h) {K:Con U} {cs:List (Cell U)} {r:Dens U.T K.tys} {m:Mt U} (hm:aQ7 h K cs=some (r,m)) {us:List Value} (hc:CsRel w β h cs us) (J:∀ id v,F.nm id=some v->∃ j,j<K.oin.length/\id=oid j):
  Ok F w (S1 β m β.M) (E3 (A7 U K.tys r) K.oout)/\CsRel w (S1 β m β.M) (E3 (A7 U K.tys r) K.oout) (K.rout.map (iC (A7 U K.tys r) oid (λ_=>0))) us:=by
 unfold aQ7 at hm;split at hm
 case h_2=>cases hm
 rename_i m1 h1;split at hm
 case h_2=>cases hm
 rename_i B h2;simp only [co7] at hm;split at hm
 case isFalse=>cases hm
 rename_i d;simp only [cn7,Bool.not_eq_true'] at d;obtain ⟨Z,c3⟩:=d;split at hm
 case h_2=>cases hm
 rename_i ds L;split at hm
 case h_2=>cases hm
 rename_i ys N;simp only [cn4,co6] at hm;obtain ⟨rfl,rfl⟩:=hm;have hg:∀ id o,look id h=some o->look id h=some o:=λ_ _ O=>O;obtain ⟨a1,a2,a3,a4,a5⟩:=ay6 hg h1 (λid o O=>by simp at O);obtain ⟨X,b2,b3,b4⟩:=aR0 hg h2 a2;have C:=al9 N;obtain ⟨d1,d2⟩:=ak1 L;have P:∀ j id,look j B.ι=some id->j<K.oout.length:=λj id Q=>cp7 (cq4.1 Z _ (aa3 Q));have G:Matched F w β h h K.tys K.oout (A7 U K.tys ys) B:=by
  refine ⟨k,hg,b2,b3 (a3 (λj j' id f g=>?_)),P,λi p R=>?_,λj id Q o ho=>?_,λi x t ht hx=>?_⟩
  .have e1:=(ar9 (n:=0) f).1;have e2:=(ar9 (n:=0) g).1;exact S0 (e1.symm.trans e2)
  .obtain ⟨id,o,f,g,y,q4⟩:=b4 i p R;exact ⟨id,o,by simpa using f,y,q4⟩
  .have:X8 (B.ι.map (·.2)) (keys B.u)=true:=by
    simp only [X8,List.any_eq_true];exact ⟨id,List.mem_map.2 ⟨_,aa3 Q,rfl⟩,id,by simp only [keys,List.mem_map];exact ⟨_,ho,rfl⟩,Nat.beq_refl id⟩
   rw [c3] at this;cases this
  .rw [<-C];have S:i<K.tys.length:=(cn9.1 ht).1;rw [d2 i S,Nat.zero_add];exact hx
 have hM:∀ b,β.M b->Live β (upds h B.u) b:=λb z=>.inl z;refine ⟨⟨k.bel,k.hB,λid o hl=>?_,G.dis,k.frm,λid o b hl z=>?_,λid o b hl z=>?_,k.Mlt,k.Meq,λid o v hl Y=>?_,k.nmg,k.glo⟩,G.cells hM a4 (λi p c R V=>(a5 i p c R V).le X) hc⟩
 .obtain ⟨j,p,f,g,y⟩:=G2 hl;rw [g,y];exact G.obj hM f
 .obtain ⟨j,p,f,g,y⟩:=G2 hl;obtain ⟨i,D,A,E,s⟩:=G.obs j p f;rw [g,H4 A] at z;exact k.own i D b E z
 .obtain ⟨j,p,f,g,y⟩:=G2 hl;obtain ⟨i,D,A,E,s⟩:=G.obs j p f;rw [g,H4 A] at z;exact k.Mo i D b E z
 .obtain ⟨j,p,f,g,y⟩:=G2 hl;subst g;obtain ⟨i,D,A,E,s⟩:=G.obs j p f;obtain ⟨j',hj',W⟩:=J _ v Y;have:=S0 W;subst this;have a:look j B.ι=some (oid j):=X.ι _ _ (a1.ι _ _ (bq6 (Nat.zero_le _) (by omega)));rw [a] at A;simp only [cn4] at A;subst A;rw [H4 a,ay7 a];refine (k.fix (oid j) D v E Y).imp (λhr=>?_) (λhr=>hr);rw [y];cases p with
  |row q=>obtain ⟨e,t,l,ver,rfl,s2,H⟩:=s;have I:=G.dat q _ _ s2 H;simp [iO,I,Ob.isRow]
  |box e ps=>obtain ⟨_,rfl,_⟩:=s;simp [Ob.isRow] at hr
  |map q=>obtain ⟨_,_,_,rfl,_⟩:=s;simp [Ob.isRow] at hr
  |loop q=>obtain ⟨_,rfl,_⟩:=s;simp [Ob.isRow] at hr
  |dp q ms=>obtain ⟨e,t,l,ver,iv,rfl,s2,H⟩:=s;have I:=G.dat q _ _ s2 H;simp [iO,I,Ob.isRow]
  |ms q=>obtain ⟨kt,e,t,l,ver,iv,rfl,s2,H⟩:=s;have I:=G.dat q _ _ s2 H;simp [iO,I,Ob.isRow]
theorem bS2 {gs:List (Bool×Nat)} {rs us:List Value}:I8 gs rs us->aa2 gs rs (match us with|[v]=>v|_=>.tuple us.toArray):=by
 intro a;have b:=P7 a;unfold aa2;split
 .rename_i g
  match us,b,a with
  |[v],_,a=>exact a
 .rename_i c;have:us.length≠1:=by
   rw [b];intro h1
   match gs,h1,c with
   |[g],_,c=>exact c g rfl
  match us,this,a with
  |[],_,a=>exact ⟨[],rfl,a⟩
  |[_],h1,_=>exact absurd rfl h1
  |x::y::z,_,a=>exact ⟨_,rfl,a⟩
theorem aE3 {k:Con U} {xs:Dens U.T k.params} {h:Obs U} {cs:List (Cell U)} (d:bf6 k xs h cs) (K:Ok F w β h) {rs:List Value} (f:CsRel w β h cs rs) (g:∀ id v,F.nm id=some v->∃ j,j<k.oin.length/\id=oid j):
  (∀ b,k.bad=some b->(b xs).1=false)/\∃ β',Ok F w β' (E3 (A7 U k.tys (k.fn xs)) k.oout)/\
   CsRel w β' (E3 (A7 U k.tys (k.fn xs)) k.oout) (k.rout.map (iC (A7 U k.tys (k.fn xs)) oid (λ_=>0))) rs:=by
 unfold bf6 at d;dsimp only at d;split at d
 case h_2=>exact d.elim
 rename_i r m e;obtain ⟨β',k',x',c'⟩:=aa9 k (ps:=k.rout) (i:=999000) K f;obtain ⟨h1,h2⟩:=aR8 k' e c' g;have c:(∀ b,k.bad=some b->(b xs).1=false)/\r=k.fn xs:=by
  split at d
  .rename_i l;refine ⟨λb a=>?_,d⟩;rw [l] at a;cases a
  .rename_i b l;refine ⟨λb' a=>?_,d.2⟩;rw [l] at a;simp only [cn4] at a;subst a;exact d.1
 rw [c.2] at h1 h2;exact ⟨c.1,_,h1,h2⟩
theorem bv4 {fn:Func} {k:Con U} {xs:Dens U.T k.params} (c:post E.P fn k xs s) {tmps:Array Value} (R:Rel F n β s tmps w) (e:∀ id v,F.nm id=some v->∃ j,j<k.oin.length/\id=oid j):
  ∃ v,(results fn tmps).run E.P w=.ok v w/\(∀ b,k.bad=some b->(b xs).1=false)/\∃ β' rs,Ok F w β' (E3 (A7 U k.tys (k.fn xs)) k.oout)/\aa2 k.res rs v/\
   CsRel w β' (E3 (A7 U k.tys (k.fn xs)) k.oout) (k.rout.map (iC (A7 U k.tys (k.fn xs)) oid (λ_=>0))) rs:=by
 unfold post at c;split at c
 case h_2=>exact c.elim
 rename_i vs f;split at c
 case h_2=>exact c.elim
 rename_i cs g;obtain ⟨us,d,i,l⟩:=bh6 (E:=E) f R;obtain ⟨rs,a,m⟩:=N9 (w:=w) (β:=β) (h:=s.h) (σ:=s.σ) (vs:=us) g i l;obtain ⟨h1,β',h2,h3⟩:=aE3 c R.ok m e;exact ⟨_,d,h1,β',rs,h2,bS2 a,h3⟩
theorem ba0 {q:Prop}:∀ {x y:List (Datum U)},eqDs x y q->x=y/\q
 |[],[],h=>⟨rfl,h⟩
 |[],_::_,h=>h.elim
 |_::_,[],h=>h.elim
 |x::r,y::r',h=>by obtain ⟨rfl,h2⟩:=ag8 (show eqD x y (eqDs r r' q) from h);obtain ⟨rfl,h3⟩:=ba0 h2;exact ⟨rfl,h3⟩
theorem aM3 {a b:PanV U} (h:ca8 a b):a=b:=by
 unfold ca8 at h;simp only [co7] at h;split at h
 .rename_i hc;simp only [cn7,beq_iff_eq] at hc;obtain ⟨c,d,e⟩:=a;obtain ⟨f,g,i⟩:=b;have h1:=cn5 hc.1;have h2:=hc.2;have h3:=(ba0 h).1;simp only at h1 h2 h3;rw [h1,h2,h3]
 .exact h.elim
theorem ab0 {q:Prop}:∀ {ds:List (Datum U)},aA4 ds q->(∀ d∈ds,(∃ e t l,d=⟨.slice e t,l⟩)->Small U d)->q
 |[],h,_=>h
 |d::r,h,hs=>by
  unfold aA4 at h;split at h
  .rename_i a;cases a
  .rename_i a;simp only [List.cons.injEq] at a;obtain ⟨rfl,rfl⟩:=a;exact ab0 (h (hs _ (by simp) ⟨_,_,_,rfl⟩)) (λd b=>hs d (by simp [b]))
  .rename_i a;simp only [List.cons.injEq] at a;obtain ⟨rfl,rfl⟩:=a;exact ab0 h (λd b=>hs d (by simp [b]))
theorem bq7 {k:Nat}:∀ {ps:List CPat},k∈datC ps->∃ i:Nat,ps[i]? =some (CPat.d k)
 |[],h=>by simp [datC] at h
 |p::r,h=>by
  have more:k∈datC r->∃ i:Nat,(p::r)[i]? =some (CPat.d k):=λh=>by obtain ⟨i,a⟩:=bq7 h;exact ⟨i+1,by simpa using a⟩
  cases p with
  |d k'=>
   simp only [datC,List.mem_cons] at h;rcases h with h|h
   .subst h;exact ⟨0,rfl⟩
   .exact more h
  |_=>exact more h
theorem bq8 {k:Nat}:∀ {os:List OPat},k∈datO os->∃ (i:Nat) (p:OPat),os[i]? =some p/\(p=.row k\/(∃ e cs,p=.box e cs/\k∈datC cs)\/∃ m,p=.dp k m)
 |[],h=>by simp [datO] at h
 |p::r,h=>by
  have more:k∈datO r->∃ (i:Nat) (q:OPat),(p::r)[i]? =some q/\(q=.row k\/(∃ e cs,q=.box e cs/\k∈datC cs)\/∃ m,q=.dp k m):=λh=>by obtain ⟨i,q,a,b⟩:=bq8 h;exact ⟨i+1,q,by simpa using a,b⟩
  cases p with
  |box e cs=>
   simp only [datO,cq1] at h;rcases h with h|h
   .exact ⟨0,_,rfl,.inr (.inl ⟨e,cs,rfl,h⟩)⟩
   .exact more h
  |row k'=>
   simp only [datO,List.mem_cons] at h;rcases h with h|h
   .subst h;exact ⟨0,_,rfl,.inl rfl⟩
   .exact more h
  |dp k' m=>
   simp only [datO,List.mem_cons] at h;rcases h with h|h
   .subst h;exact ⟨0,_,rfl,.inr (.inr ⟨m,rfl⟩)⟩
   .exact more h
  |_=>exact more h
theorem aE4 {ds:List (Datum U)} {d:Datum U}:∀ {ks:List Nat},d∈aQ8 ds ks->∃ k∈ks,ds[k]? =some d
 |[],h=>by simp [aQ8] at h
 |k::r,h=>by
  simp only [aQ8] at h;split at h
  .rename_i d' a;rcases List.mem_cons.1 h with h1|h1
   .subst h1;exact ⟨k,by simp,a⟩
   .obtain ⟨k',h2,h3⟩:=aE4 h1;exact ⟨k',by simp [h2],h3⟩
  .obtain ⟨k',h2,h3⟩:=aE4 h;exact ⟨k',by simp [h2],h3⟩
theorem aE5 {ds:List (Datum U)} {ι vr:Nat->Nat} {ps:List CPat} {us:List Value} (hc:CsRel w β h (ps.map (iC ds ι vr)) us) {k:Nat} (c:k∈datC ps) {d:Datum U} (e:ds[k]? =some d):Small U d:=by
 obtain ⟨i,b⟩:=bq7 c;have a:i<us.length:=by rw [hc.1,cq5];exact (cn9.1 b).1
 have:=hc.2.2 i (iC ds ι vr (.d k)) us[i] (by simp [b]) (cn6 a);simp only [iC,e] at this;exact ⟨_,_,_,this⟩
theorem aE6 {k:Con U} {ds:List (Datum U)} (K:Ok F w β (E3 ds k.oin)) {us:List Value} (hc:CsRel w β (E3 ds k.oin) (k.ain.map (iC ds oid (λ_=>0))) us):∀ d∈aQ8 ds (datC k.ain++datO k.oin),(∃ e t l,d=⟨.slice e t,l⟩)->Small U d:=by
 intro d r f;obtain ⟨q,s,a⟩:=aE4 r;rcases cq1.1 s with h1|h1
 .exact aE5 hc h1 a
 .obtain ⟨i,p,h,c⟩:=bq8 h1;have g:=K.obj _ _ (D3 (ds:=ds) h);rcases c with rfl|⟨e,cs,rfl,j⟩|⟨m,rfl⟩
  .simp only [iO,a] at g;obtain ⟨e,t,x,rfl⟩:=f
   .have hl:look (oid i) (E3 ds k.oin)=some (.row e t x 0 true):=by
     have:=D3 (ds:=ds) h;simp only [iO,a] at this;exact this
    have n:asD (E3 ds k.oin) (.slice e t) (.row (oid i) 0)=some (⟨.slice e t,x⟩,[(oid i,.row e t x 0 false)]):=by simp [asD,hl]
    have hr:=ag1 K (λ_ _ c=>c) n (v:=β (oid i)) ⟨e,t,x,0,true,hl,Nat.le_refl _,λ_=>rfl⟩ (u':=[(oid i,.row e t x 0 false)]) (λid o hm=>by
     simp only [co5,co6] at hm;obtain ⟨rfl,rfl⟩:=hm;exact .inl ⟨e,t,x,0,true,hl,rfl⟩) (λ_ c=>c)
    exact ⟨_,_,_,hr⟩
  .obtain ⟨b,vs,_,_,_,u⟩:=g;exact aE5 u j a
  .obtain ⟨e,t,x,rfl⟩:=f;have hl:look (oid i) (E3 ds k.oin)=some (.dp (.rows e t m x 0 0 true none)):=by
    have:=D3 (ds:=ds) h;simp only [iO,a] at this;exact this
   simp only [iO,a] at g;obtain ⟨root,xs,ns,y,_⟩:=g;have n:asD (E3 ds k.oin) (.slice e t) (.dc (oid i) (.self 0))=some (⟨.slice e t,x⟩,[(oid i,.dp (Deep.frozen (.rows e t m x 0 0 true none)))]):=by simp only [asD,hl];simp [Deep.datum]
   have hr:=ag1 K (λ_ _ c=>c) n (v:=root) ⟨_,hl,Nat.le_refl _,λ_=>⟨_,y,by simp⟩⟩ (u':=[(oid i,.dp (Deep.frozen (.rows e t m x 0 0 true none)))]) (λid o hm=>by
    simp only [co5,co6] at hm;obtain ⟨rfl,rfl⟩:=hm;exact .inr ⟨_,hl,rfl⟩) (λ_ c=>c)
   exact ⟨_,_,_,hr⟩
end
end Go.VT
end
section
namespace Go.VT
noncomputable section
open Go.RowKit
variable {U:Univ} {E:Env U} {F:Fr} {n:Nat} {β:Nm} {s:St U} {a:Act} {tmps:Array Value} {w:World} {h:Obs U}
structure Sh (w:World) (β:Nm) (h:Obs U) (w':World) (β':Nm) (h':Obs U):Prop where
 obj:∀ id o,look id h=some o->look id h'=some o/\β' id=β id/\β'.lp id=β.lp id
 size:w.heap.size<=w'.heap.size
 heap:∀ b,b<w.heap.size->¬ Live β h b->w'.heap[b]? =w.heap[b]?
 live:∀ b,b<w.heap.size->Live β' h' b->Live β h b
section
variable {w':World} {β':Nm} {h':Obs U}
theorem Sh.rep (x:Sh w β h w' β' h') {d:Datum U} {v:Value} (r:Rep U w (Live β h) d v):Rep U w' (Live β' h') d v:=r.mono x.size x.heap x.live
theorem Sh.cell (x:Sh w β h w' β' h') {c:Cell U} {v:Value} (r:CRel w β h c v):CRel w' β' h' c v:=by
 cases c with
 |un=>trivial
 |d y=>exact x.rep r
 |row id ver=>obtain ⟨e,t,l,ver',lv,hl,p,a⟩:=r;obtain ⟨k,m,n⟩:=x.obj id _ hl;exact ⟨e,t,l,ver',lv,k,p,λq=>(a q).trans m.symm⟩
 |ptr id off=>obtain ⟨e,cs,b,hl,s,a⟩:=r;obtain ⟨k,m,n⟩:=x.obj id _ hl;exact ⟨e,cs,b,k,m.trans s,a⟩
 |elt id ver i off=>obtain ⟨e,t,l,ver',lv,hl,p,a⟩:=r;obtain ⟨k,m,n⟩:=x.obj id _ hl;refine ⟨e,t,l,ver',lv,k,p,λq=>?_⟩;obtain ⟨h0,h1,g,c,z,A⟩:=a q;exact ⟨h0,h1,g,c,m.trans z,A⟩
 |rd cs off=>obtain ⟨g,o,a,hM,hg,hc⟩:=r;refine ⟨g,o,a,λq=>hM (x.live g hg q),by have:=x.size;omega,λj d B=>?_⟩;obtain ⟨u,C,hr⟩:=hc j d B;exact ⟨u,by rw [<-C];exact World.cell?_of_block (x.heap g hg hM),x.rep hr⟩
 |gl g=>exact r
 |lit u=>exact r
 |map id=>obtain ⟨kt,vt,l,hl,a⟩:=r;obtain ⟨k,m,n⟩:=x.obj id _ hl;exact ⟨kt,vt,l,k,a.trans m.symm⟩
 |clo f ids=>obtain ⟨bs,a,hl,s⟩:=r;refine ⟨bs,a,hl,λj id b F E=>?_⟩;obtain ⟨e,cs,k,m⟩:=s j id b F E;obtain ⟨z,A,I⟩:=x.obj id _ k;exact ⟨e,cs,z,A.trans m⟩
 |yld id=>obtain ⟨st,hl,a⟩:=r;obtain ⟨k,m,n⟩:=x.obj id _ hl;exact ⟨st,k,a.trans m.symm⟩
 |ifc t b ds=>obtain ⟨vs,k,m,n,G,H⟩:=r;exact ⟨vs,k,m,n,G,λj d u B C=>x.rep (H j d u B C)⟩
 |tab g i=>exact r
 |tabf fs i=>exact r
 |dc id c=>obtain ⟨D,hl,a⟩:=r;obtain ⟨k,m,n⟩:=x.obj id _ hl;exact ⟨D,k,by rw [m];exact a⟩
 |bnd f id=>obtain ⟨e,cs,b,hl,s,a⟩:=r;obtain ⟨k,m,n⟩:=x.obj id _ hl;exact ⟨e,cs,b,k,m.trans s,a⟩
theorem Sh.cs (x:Sh w β h w' β' h') {cs:List (Cell U)} {vs:List Value} (r:CsRel w β h cs vs):CsRel w' β' h' cs vs:=
 ⟨r.1,r.2.1,λj c v hc a=>x.cell (r.2.2 j c v hc a)⟩
theorem Sh.vr (x:Sh w β h w' β' h') {y:Bool×List (Cell U)} {v:Value} (r:VRel w β h y v):VRel w' β' h' y v:=by
 obtain ⟨b,cs⟩:=y;cases b with
 |true=>obtain ⟨vs,a,hc⟩:=r;exact ⟨vs,a,x.cs hc⟩
 |false=>exact x.cs r
theorem Sh.p (x:Sh w β h w' β' h') {σ:List (Nat×PV U)} {p:PV U} {v:Value} (r:PRel w β h σ p v):PRel w' β' h' σ p v:=by
 induction p with
 |un=>trivial
 |one c=>exact x.cs r
 |agg cs=>exact x.vr r
 |tup xs=>obtain ⟨vs,a,hl,b⟩:=r;exact ⟨vs,a,hl,λj y u d e=>x.vr (b j y u d e)⟩
 |opt gs p ih=>exact ⟨λhc=>ih (r.1 hc),r.2⟩
theorem Sh.o {B:Nat} (x:Sh w β h w' β' h') {id:Nat} {o:Ob U} (hl:look id h=some o) (a:∀ b,Has (β id) b->w'.heap[b]? =w.heap[b]?) (r:ORel B w β h id o):ORel B w' β' h' id o:=by
 obtain ⟨_,hβ,c⟩:=x.obj id o hl;cases o with
 |box e cs=>obtain ⟨b,vs,h1,h2,h3,h4⟩:=r;exact ⟨b,vs,hβ.trans h1,h2,by rw [a b (by rw [h1];exact rfl)];exact h3,x.cs h4⟩
 |row e t l ver lv=>
  obtain ⟨xs,h1,h2,f,h3⟩:=r;refine ⟨xs,?_,h2,f,λi y g j d m=>?_⟩
  .rw [hβ];exact h1.kept (λb k=>a b (h1.has k))
  .obtain ⟨u,n,hr⟩:=h3 i y g j d m;exact ⟨u,n,x.rep hr⟩
 |map kt vt l=>obtain ⟨b,es,clock,h1,h2,h3,h4,p⟩:=r;refine ⟨b,es,clock,hβ.trans h1,h2,by rw [a b (by rw [h1];exact rfl)];exact h3,h4,λi y e g q=>?_⟩;obtain ⟨s,v⟩:=p i y e g q;exact ⟨s.mono x.size x.heap x.live,v.mono x.size x.heap x.live⟩
 |loop st=>obtain ⟨b,r,h1,h2,h3,h4⟩:=r;exact ⟨b,r,hβ.trans h1,h2,by rw [a b (by rw [h1];exact rfl)];exact h3,by rw [c];exact h4⟩
 |dp D=>show DRel B w' β' h' D (β' id);rw [hβ];exact DRel.map (λ_ _ hr=>x.rep hr) (λ_ _ hr=>x.cell hr) a r
end
theorem cb9 (k:Ok F w β h) {w':World} {D:Nat->Prop} (c:Below F.B w w') (r:∀ b,D b->b<w'.heap.size) (a:∀ b,b<w.heap.size->¬ D b->w'.heap[b]? =w.heap[b]?)
  (m:∀ id o b,look id h=some o->Has (β id) b->¬ D b) (hM:∀ b,D b->b<w.heap.size->β.M b) (s:∀ g fs,(g,fs)∈F.G->¬ D g):Ok (F.shut w' D) w' (β.shut D) h/\Sh w β h w' (β.shut D) h:=by
 have l:F.w0.heap.size<=w.heap.size:=k.bel.size;have n:Sh w β h w' (β.shut D) h:=by
  refine ⟨λid o hl=>⟨hl,rfl,rfl⟩,c.size,λb d u=>a b d (λx=>u (.inl (hM b x d))),λb d hl=>?_⟩;rcases hl with (hl|hl)|hl
  .exact .inl hl
  .exact .inl (hM b hl d)
  .exact .inr hl
 refine ⟨⟨Below.refl _ _,Nat.le_trans k.hB c.size,λid o hl=>n.o hl (λb d=>a b ((k.obj id o hl).blk d).2 (m id o b hl d)) (k.obj id o hl),k.dis,λb d A=>rfl,λid o b e j=>?_,λid o b e j=>?_,λb d=>?_,by show (β.shut D).M=_;unfold Nm.shut Fr.shut;simp only [k.Meq],λid o v e j=>k.fix id o v e j,k.nmg,λg fs p=>?_⟩,n⟩
 .exact .inl ⟨k.own id o b e j,m id o b e j⟩
 .rintro (hm|hm)
  .exact k.Mo id o b e j hm
  .exact m id o b e j hm
 .rcases d with d|d
  .exact Nat.lt_of_lt_of_le (k.Mlt b d) (Nat.le_trans l c.size)
  .exact r b d
 .obtain ⟨e,j,y⟩:=k.glo g fs p;have q:g<w.heap.size:=Nat.lt_of_lt_of_le e l;refine ⟨Nat.lt_of_lt_of_le q c.size,λz=>?_,λi f hf=>?_⟩
  .rcases z.1 with t|t
   .exact j t
   .omega
  .rw [<-y i f hf];exact World.cell?_of_block ((a g q (s g fs p)).trans (k.frm g e j))
theorem bG3 {wa:World} {D:Nat->Prop} (k:Ok (F.shut wa D) w β h) {w':World} (t:Below F.B w w') (hs:w'.heap.size=w.heap.size) (a:∀ b,¬ D b->w'.heap[b]? =w.heap[b]?) (v:∀ b,D b->b<wa.heap.size)
  (q:∀ g fs,(g,fs)∈F.G->¬ D g) (x:F.w0.heap.size<=wa.heap.size):Ok (F.shut w' D) w' β h/\Sh w β h w' β h:=by
 have l:∀ b,D b->β.M b:=λb j=>by rw [k.Meq];exact .inr j
 have u:wa.heap.size<=w.heap.size:=k.bel.size;have m:∀ id o b,look id h=some o->Has (β id) b->¬ D b:=λid o b c d r=>k.Mo id o b c d (l b r);have n:Sh w β h w' β h:=⟨λid o hl=>⟨hl,rfl,rfl⟩,by omega,λb j y=>a b (λr=>y (.inl (l b r))),λb _ hl=>hl⟩;refine ⟨⟨Below.refl _ _,by have:=k.hB;rw [hs];exact this,λid o hl=>n.o hl (λb j=>a b (m id o b hl j)) (k.obj id o hl),k.dis,λb j A=>rfl,λid o b c d=>?_,k.Mo,λb j=>?_,k.Meq,k.fix,k.nmg,λg fs p=>?_⟩,n⟩
 .refine .inl ⟨?_,m id o b c d⟩;rcases k.own id o b c d with e|e
  .exact e.1
  .right;have e:wa.heap.size<=b:=e;omega
 .have:=k.Mlt b j;have this:b<wa.heap.size:=this;show b<w'.heap.size;omega
 .obtain ⟨c,d,z⟩:=k.glo g fs p;have c:g<wa.heap.size:=c;refine ⟨by show g<w'.heap.size;omega,λs=>?_,λi f hf=>?_⟩
  .rcases s.1 with e|e
   .exact d ⟨.inl e,s.2⟩
   .exact d ⟨.inr e,s.2⟩
  .rw [<-z i f hf];exact World.cell?_of_block ((a g (q g fs p)).trans (k.frm g c d))
theorem ba1 {wa wb w':World} {βa:Nm} {p:Obs U} {D:Nat->Prop} (l:Ok F wa βa p) (c:Below F.B F.w0 wb) (e:∀ b,b<F.w0.heap.size->¬ F.K b->wb.heap[b]? =F.w0.heap[b]?) (k:Ok (F.shut wb D) w' β h):
  Ok F w' ⟨β.v,F.M,β.lp⟩ h/\Sh w' β h w' ⟨β.v,F.M,β.lp⟩ h/\∀ b,D b->b<wb.heap.size->w'.heap[b]? =wb.heap[b]? /\∀ id o,look id h=some o->¬ Has (β id) b:=by
 have f:∀ b,F.M b->β.M b:=λb a=>by rw [k.Meq];exact .inl a
 have g:Sh w' β h w' ⟨β.v,F.M,β.lp⟩ h:=⟨λid o hl=>⟨hl,rfl,rfl⟩,Nat.le_refl _,λ_ _ _=>rfl,λb _ hl=>hl.imp (f b) (λh=>h)⟩;refine ⟨⟨c.trans k.bel,k.hB,λid o hl=>g.o hl (λ_ _=>rfl) (k.obj id o hl),k.dis,λb a m=>?_,λid o b i j=>?_,λid o b i j hm=>k.Mo id o b i j (f b hm),λb a=>l.Mlt b (by rw [l.Meq];exact a),rfl,k.fix,k.nmg,l.glo⟩,g,λb n a=>⟨k.frm b a (λq=>q.2 n),λid o i j=>k.Mo id o b i j (by rw [k.Meq];exact .inr n)⟩⟩
 .rw [<-e b a m];refine k.frm b (Nat.lt_of_lt_of_le a c.size) ?_;rintro ⟨d|d,_⟩
  .exact m d
  .omega
 .rcases k.own id o b i j with d|d
  .exact d.1
  .right;have d:wb.heap.size<=b:=d;have:=c.size;omega
theorem ak7 {id:Nat}:∀ {h:Obs U} {u:Obs U},look id (h++u)=match look id h with
  |some o=>some o
  |none=>look id u
 |[],u=>rfl
 |(j,o)::r,u=>by
  simp only [List.cons_append,look];split
  .rfl
  .exact ak7
theorem bS3 {wa wb w':World} {βa:Nm} {S:Obs U} {l id:Nat} {st:Int} (L:Ok F wa βa S) (t:Below F.B F.w0 wb) (A:∀ b,b<F.w0.heap.size->¬ F.K b->wb.heap[b]? =F.w0.heap[b]?) (k:Ok (F.shut wb (·=l)) w β h)
  (N:look id h=none) (R:F.K l) (hM:¬ F.M l) (O:F.B<=l) (T:l<wb.heap.size) {lp:Loop×(Int->Option Code)} (C:∀ v,F.nm id=some v->(Value.func (.yield l) #[] #[],lp)=v)
  (D:Below F.B w w') (hs:w'.heap.size=w.heap.size) (g:∀ b,b≠l->w'.heap[b]? =w.heap[b]?) (hl:w'.heap[l]? =some (.loop { lp.1 with state:=if st=0 then .ready else .done,pending:=lp.2 st })):
  ∃ β',Ok F w' β' (h++[(id,.loop st)])/\Sh w β h w' β' (h++[(id,.loop st)]):=by
 have a:∀ j o,look j h=some o->j≠id:=λj o d e=>by rw [e,N] at d;cases d
 have u:β.M l:=by rw [k.Meq];exact .inr rfl
 have E:∀ b,F.M b->β.M b:=λb q=>by rw [k.Meq];exact .inl q
 let β':Nm:=⟨λj=>if j=id then .func (.yield l) #[] #[] else β j,F.M,λj=>if j=id then lp else β.lp j⟩
 have s:∀ j,j≠id->β' j=β j:=λj d=>if_neg d;have i:β' id=.func (.yield l) #[] #[]:=if_pos rfl;have G:β'.lp id=lp:=if_pos rfl;have H:∀ j o,look j h=some o->look j (h++[(id,.loop st)])=some o/\β' j=β j/\β'.lp j=β.lp j:=by intro j o d;refine ⟨by rw [ak7,d],s j (a j o d),if_neg (a j o d)⟩
 have c:∀ j o,look j (h++[(id,.loop st)])=some o->(look j h=some o)\/(j=id/\o=.loop st):=by
  intro j o d;rw [ak7] at d;cases hc:look j h with
  |some o'=>rw [hc] at d;exact .inl d
  |none=>
   rw [hc] at d;simp only [look] at d;split at d
   .rename_i q;simp only [cn4] at d;exact .inr ⟨(cn5 q).symm,d.symm⟩
   .cases d
 have I:Sh w β h w' β' (h++[(id,.loop st)]):=by
  refine ⟨H,by omega,λb q V=>g b (λe=>V (.inl (by rw [e];exact u))),λb q P=>?_⟩;rcases P with P|⟨j,o,r,f,p⟩
  .exact .inl (E b P)
  .rcases c j o r with m|⟨rfl,rfl⟩
   .rw [s j (a j o m)] at p;exact .inr ⟨j,o,m,f,p⟩
   .rw [i] at p;simp only [Has,D5,cn4] at p;rw [<-p];exact .inl u
 have x:∀ j o b,look j h=some o->Has (β j) b->b≠l:=λj o b r f e=>k.Mo j o b r f (by rw [e];exact u);refine ⟨β',⟨(t.trans k.bel).trans D,by have:=k.hB;rw [hs];exact this,λj o d=>?_,λj o j' o' b r f p m=>?_,λb q y=>?_,λj o b r f=>?_,λj o b r f hm=>?_,λb q=>L.Mlt b (by rw [L.Meq];exact q),rfl,λj o v r f=>?_,k.nmg,L.glo⟩,I⟩
 .rcases c j o d with m|⟨rfl,rfl⟩
  .exact I.o m (λb q=>g b (x j o b m q)) (k.obj j o m)
  .exact ⟨l,_,i,O,hl,by rw [G]⟩
 .rcases c j o r with n|⟨rfl,rfl⟩<;>rcases c j' o' f with J|⟨rfl,rfl⟩
  .rw [s j (a j o n)] at p;rw [s j' (a j' o' J)] at m;exact k.dis j o j' o' b n J p m
  .rw [s j (a j o n)] at p;rw [i] at m;simp only [Has,D5,cn4] at m;exact absurd m.symm (x j o b n p)
  .rw [s j' (a j' o' J)] at m;rw [i] at p;simp only [Has,D5,cn4] at p;exact absurd p.symm (x j' o' b J m)
  .rfl
 .have Q:b≠l:=λe=>y (by rw [e];exact R);rw [g b Q,<-A b q y];refine k.frm b (Nat.lt_of_lt_of_le q t.size) ?_;rintro ⟨z|z,_⟩
  .exact y z
  .omega
 .rcases c j o r with n|⟨rfl,rfl⟩
  .rw [s j (a j o n)] at f;rcases k.own j o b n f with z|z
   .exact z.1
   .right;have z:wb.heap.size<=b:=z;have:=t.size;omega
  .rw [i] at f;simp only [Has,D5,cn4] at f;rw [<-f];exact .inl R
 .rcases c j o r with n|⟨rfl,rfl⟩
  .rw [s j (a j o n)] at f;exact k.Mo j o b n f (E b hm)
  .rw [i] at f;simp only [Has,D5,cn4] at f;exact hM (by rw [f];exact hm)
 .rcases c j o r with n|⟨rfl,rfl⟩
  .rw [s j (a j o n),show β'.lp j=β.lp j from if_neg (a j o n)];exact k.fix j o v n f
  .right;rw [i,G];exact C v f
end
end Go.VT
end
section
namespace Go.VT
noncomputable section
open Go.RowKit
variable {U:Univ} {E:Env U} {F:Fr} {n:Nat} {β:Nm} {s:St U} {a:Act} {tmps:Array Value} {w:World} {h:Obs U}
def bv5 (P:Program) (l:Nat) (R:Ending->World->Prop):Exit->Act->World->Prop
 | .panic ch,a,w=>a.defers=[]/\R (.panicked ch) w
 |e,a,w=>roundPost P l R e a w
theorem bS4 {G:Fence} {P:Program} {l:Nat} {f:FuncId} {tmps:Array Value} {assign body:Code} {w:World} {R:Ending->World->Prop} (s:G.fn f) (hf:∃ fn,P.funcs[f]? =some fn)
  (h:assign.wpIn (G.inRound l) 0 P (λe a₁ w₁=>match e with
   | .normal=>∃ w₂,(Instr.beginRound l).run P w₁=.ok () w₂/\body.wpIn (G.inRound l) 0 P (bv5 P l R) a₁ w₂
   |_=>False) { tmps:=tmps,defers:=[] } w):
  RoundIn G 0 P l f tmps assign body w R:=by
 refine ⟨s,λc cs hr=>?_⟩
 let b:Frame:={ (default:Frame) with fn:=f,kind:=.normal,roundOf:=some l }
 have p:Frame.round l f tmps assign body .normal=b.atR { tmps:=tmps,defers:=[] } [.code assign,.beginRound,.code body]:=by simp [Frame.round,Frame.atR,b]
 have g:(G.inRound l).room ((c::cs).length+1+0):=hr;have i:(G.inRound l).fn b.fn:=s;obtain ⟨e,a₁,w₁,o,d⟩:=h b [.beginRound,.code body] (c::cs) rfl i g;rw [<-p] at d;cases e with
 |normal=>
  obtain ⟨w₂,q,m⟩:=o;have s1:StepsIn (Machine.fenced P (G.inRound l)) P (lone (b.atR a₁ [.beginRound,.code body]) (c::cs) w₁) (lone (b.atR a₁ [.code body]) (c::cs) w₂):=
   .one (fenced_calm (fr:=b.atR a₁ [.beginRound,.code body]) i g rfl) (stepR_beginRound rfl q)
  obtain ⟨e₂,a₂,w₃,hq₂,harr₂⟩:=m b [] (c::cs) rfl i g;cases e₂ with
  |normal=>obtain ⟨v,w₄,a,k⟩:=hq₂;exact ⟨.returned v,w₄,k,(StepsIn.trans d s1).trans (StepsIn.trans harr₂ (.one (fenced_calm (fr:=b.atR a₂ []) i g rfl) (stepR_round_end rfl rfl a)))⟩
  |ret=>obtain ⟨v,w₄,a,k⟩:=hq₂;obtain ⟨k₁,hs⟩:=harr₂.2 rfl;exact ⟨.returned v,w₄,k,(StepsIn.trans d s1).trans (StepsIn.trans hs (.one (fenced_calm (fr:=b.atR a₂ (.code .ret::k₁)) i g rfl) (stepR_round_ret rfl rfl a)))⟩
  |exit id=>obtain ⟨v,w₄,a,k⟩:=hq₂;obtain ⟨k₁,r,hs⟩:=harr₂.2 rfl rfl;exact ⟨.returned v,w₄,k,(StepsIn.trans d s1).trans (StepsIn.trans hs (.one (fenced_calm (fr:=b.atR a₂ (.code (.exit id)::k₁)) i g rfl) (stepR_round_exit rfl rfl r a)))⟩
  |goto t=>obtain ⟨v,w₄,a,k⟩:=hq₂;obtain ⟨k₁,r,hs⟩:=harr₂.2 rfl rfl;exact ⟨.returned v,w₄,k,(StepsIn.trans d s1).trans (StepsIn.trans hs (.one (fenced_calm (fr:=b.atR a₂ (.code (.goto t)::k₁)) i g rfl) (stepR_round_goto rfl rfl r a)))⟩
  |panic chain=>obtain ⟨u,k⟩:=hq₂;obtain ⟨todo,hs⟩:=harr₂;have j:Frame.leaving P ({ b.atR a₂ todo with mode:=.panicking chain }) w₃ (.panicked chain):=⟨rfl,u,hf⟩;refine ⟨.panicked chain,w₃,k,(StepsIn.trans d s1).trans (StepsIn.trans hs (.one (fenced_leaving (n:=0) i g j) ?_))⟩;exact step_leave_panicked j
  |outgrown=>exact hq₂.elim
 |exit id=>exact o.elim
 |goto t=>exact o.elim
 |ret=>exact o.elim
 |panic chain=>exact o.elim
 |outgrown=>exact o.elim
def ac2 (jump:Option Code) (st:Int):Option Code:=if st=0 then none else jump
theorem bS5 {z:World} {β2:Nm} {h2:Obs U} {rn:List (Nat×Nat)} {B2:Nat} (E:∀ (x:Datum U) (v:Value),Rep U w (Live β h) x v->Rep U z (Live β2 h2) x v)
  (A:∀ id i o,look id rn=some i->look id h=some o->o.isRow=false->∃ m,look (oid i) h2=some m/\β2 (oid i)=β id/\ORel B2 z β2 h2 (oid i) m/\∀ D,m≠.dp D)
  (C:∀ id o,look id h=some o->ORel F.B w β h id o) {c:Cell U} {v:Value} (r:CRel w β h c v):CRel z β2 h2 (renC rn c) v:=by
 cases c with
 |un=>trivial
 |d x=>exact E _ _ r
 |row id ver=>trivial
 |ptr id off=>
  simp only [renC];split
  .rename_i i p;obtain ⟨e,cs,b,n,j,q⟩:=r;obtain ⟨m,s,a,k,y⟩:=A id i _ p n rfl;cases m with
   |box e' cs'=>exact ⟨e',cs',b,s,a.trans j,q⟩
   |row e' t l ver lv=>obtain ⟨xs,h1,_⟩:=k;rw [a,j] at h1;rcases h1.2 with ⟨h3,_⟩|⟨g,cap,cur,h3,_⟩<;>(rcases h3 with h3|h3<;>cases h3)
   |map kt vt l=>obtain ⟨b',es,cl,h1,_⟩:=k;rw [a,j] at h1;cases h1
   |loop st=>obtain ⟨b',r',h1,_⟩:=k;rw [a,j] at h1;cases h1
   |dp D=>exact (y D rfl).elim
  .trivial
 |elt id ver i off=>trivial
 |rd cs off=>trivial
 |gl g=>exact r
 |lit u=>exact r
 |map id=>
  simp only [renC];split
  .rename_i i p;obtain ⟨kt,vt,l,n,q⟩:=r;obtain ⟨b,es,clk,j,_⟩:=C id _ n;obtain ⟨m,s,a,k,y⟩:=A id i _ p n rfl;cases m with
   |map kt' vt' l'=>exact ⟨kt',vt',l',s,q.trans a.symm⟩
   |box e' cs'=>obtain ⟨b',vs,h1,_⟩:=k;rw [a,j] at h1;cases h1
   |row e' t l ver lv=>obtain ⟨xs,h1,_⟩:=k;rw [a,j] at h1;rcases h1.2 with ⟨h3,_⟩|⟨g,cap,cur,h3,_⟩<;>(rcases h3 with h3|h3<;>cases h3)
   |loop st=>obtain ⟨b',r',h1,_⟩:=k;rw [a,j] at h1;cases h1
   |dp D=>exact (y D rfl).elim
  .trivial
 |clo f ids=>trivial
 |yld id=>trivial
 |ifc t b ds=>trivial
 |tab g i=>exact r
 |tabf fs i=>exact r
 |dc id c=>trivial
 |bnd f id=>
  simp only [renC];split
  .rename_i i p;obtain ⟨e,cs,b,n,j,q⟩:=r;obtain ⟨m,s,a,k,y⟩:=A id i _ p n rfl;cases m with
   |box e' cs'=>exact ⟨e',cs',b,s,a.trans j,q⟩
   |row e' t l ver lv=>obtain ⟨xs,h1,_⟩:=k;rw [a,j] at h1;rcases h1.2 with ⟨h3,_⟩|⟨g,cap,cur,h3,_⟩<;>(rcases h3 with h3|h3<;>cases h3)
   |map kt vt l=>obtain ⟨b',es,cl,h1,_⟩:=k;rw [a,j] at h1;cases h1
   |loop st=>obtain ⟨b',r',h1,_⟩:=k;rw [a,j] at h1;cases h1
   |dp D=>exact (y D rfl).elim
  .trivial
theorem bv6 (rn:List (Nat×Nat)) (p:PV U):(renP rn p).plain=true:=by cases p<;>rfl
theorem ck0 {b:World} {β2:Nm} {h2:Obs U} {rn:List (Nat×Nat)} (hc:∀ (c:Cell U) (v:Value),CRel w β h c v->CRel b β2 h2 (renC rn c) v) {σ σ':List (Nat×PV U)} {p:PV U} {v:Value} (r:PRel w β h σ p v):PRel b β2 h2 σ' (renP rn p) v:=by
 have a:∀ cs vs,CsRel w β h cs vs->CsRel b β2 h2 (cs.map (renC rn)) vs:=by intro cs vs r;refine ⟨by simpa using r.1,r.2.1,λj c v f d=>?_⟩;simp only [co9,co1] at f;obtain ⟨c',h3,rfl⟩:=f;exact hc c' v (r.2.2 j c' v h3 d)
 cases p with
 |un=>trivial
 |one c=>exact a [c] [v] r
 |agg cs=>obtain ⟨vs,d,e⟩:=r;exact ⟨vs,d,a cs vs e⟩
 |tup xs=>trivial
 |opt gs p=>trivial
abbrev pv (x:Bool×List (Cell U)):PV U:=match x.1 with
 |true=>.agg x.2
 |false=>match x.2 with
  |[c]=>.one c
  |_=>.un
theorem bZ2 {x:Bool×List (Cell U)} {v:Value} (r:VRel w β h x v) (σ:List (Nat×PV U)):PRel w β h σ (pv x) v/\(pv x).plain=true:=by
 obtain ⟨b,cs⟩:=x;cases b with
 |true=>exact ⟨r,rfl⟩
 |false=>
  have hl:[v].length=cs.length:=r.1
  match cs,hl with
  |[c],_=>exact ⟨r,rfl⟩
theorem ba2 {h:Obs U}:∀ {ts:List Nat} {gs:List (Bool×List (Cell U))} {vs:List Value} {σ:List (Nat×PV U)} {tm:Array Value},
  (∀ (i:Nat) (x:Bool×List (Cell U)),i<ts.length->gs[i]? =some x->∃ v,vs[i]? =some v/\VRel w β h x v)->ts.length<=gs.length->(∀ t∈ts,t<tm.size)->
  (∀ t p,look t σ=some p->(∀ σ',PRel w β h σ' p (tm.getD t undef))/\p.plain=true)->
  ((ts.zip vs).foldl (λ(tm:Array Value) (x:Nat×Value)=>tm.setIfInBounds x.1 x.2) tm).size=tm.size/\
  ∀ t p,look t (bC7 ts gs σ)=some p->(∀ σ',PRel w β h σ' p (((ts.zip vs).foldl (λ(tm:Array Value) (x:Nat×Value)=>tm.setIfInBounds x.1 x.2) tm).getD t undef))/\p.plain=true
 |[],gs,vs,σ,tm,_,_,_,h4=>⟨rfl,h4⟩
 |t0::ts,[],vs,σ,tm,_,h2,_,_=>by simp at h2
 |t0::ts,x::gs,vs,σ,tm,h1,h2,h3,h4=>by
  obtain ⟨v,c,hr⟩:=h1 0 x (by simp) rfl
  match vs,c with
  |v'::vs,c=>
   simp only [co2,cn4] at c;subst c;have d:t0<tm.size:=h3 t0 (by simp);have a:∀ t p,look t (write t0 (pv x) σ)=some p->(∀ σ',PRel w β h σ' p ((tm.setIfInBounds t0 v').getD t undef))/\p.plain=true:=by
    intro t p hl;rw [A5] at hl;split at hl
    .rename_i b;subst b;simp only [cn4] at hl;subst hl;refine ⟨λσ'=>?_,(bZ2 hr σ).2⟩;rw [Array.getD_eq_getD_getElem?,Array.getElem?_setIfInBounds_self];rw [if_pos d];exact (bZ2 hr σ').1
    .rename_i b;rw [Array.getD_eq_getD_getElem?,Array.getElem?_setIfInBounds_ne (Ne.symm b),<-Array.getD_eq_getD_getElem?];exact h4 t p hl
   have:=ba2 (ts:=ts) (gs:=gs) (vs:=vs) (σ:=write t0 (pv x) σ) (tm:=tm.setIfInBounds t0 v') (λi y j e=>by
    have:=h1 (i+1) y (by simp;omega) (by simpa using e);simpa using this) (by simpa using h2) (λt b=>by rw [Array.size_setIfInBounds];exact h3 t (by simp [b])) a
   obtain ⟨f,g⟩:=this;refine ⟨by simpa using f,λt p hl=>?_⟩;exact g t p hl
theorem bZ3 {kY:Con U} {m:Mt U}:∀ {mp:List (Nat×Nat)} {id i:Nat},look id (rnOf kY m mp)=some i->∃ j p,(i,j)∈mp/\kY.oin[i]? =some p/\p.isRow=false/\look j m.ι=some id
 |[],id,i,hl=>by simp [rnOf,look] at hl
 |(f,j0)::r,id,i,hl=>by
  have more:look id (rnOf kY m r)=some i->∃ j p,(i,j)∈(f,j0)::r/\kY.oin[i]? =some p/\p.isRow=false/\look j m.ι=some id:=by intro hl;obtain ⟨j,p,h1,h2⟩:=bZ3 hl;exact ⟨j,p,List.mem_cons_of_mem _ h1,h2⟩
  unfold rnOf at hl;split at hl
  .exact more hl
  .exact more hl
  .exact more hl
  .rename_i p id0 a b c g d;simp only [look] at hl;split at hl
   .rename_i e;have e:=cn5 e;simp only [cn4] at hl;subst hl;subst e;refine ⟨j0,p,by simp,g,?_,d⟩;cases p with
    |row q=>exact (a q rfl).elim
    |dp q ms=>exact (b q ms rfl).elim
    |ms q=>exact (c q rfl).elim
    |_=>rfl
   .exact more hl
  .exact more hl
structure Begins (F0:Fr) (w1:World) (β1:Nm) (h1:Obs U) (kY:Con U) (m:Mt U) (mp:List (Nat×Nat)) (Y F2:Fr) (β2:Nm) (ds:List (Datum U)):Prop where
 ok1:Ok F0 w1 β1 h1
 W:Within Y F2 kY.yl
 Yw:Y.w0=w1
 YK:∀ b,Y.K b->Own β1 h1 b
 YM:∀ b,b<w1.heap.size->Y.M b->Live β1 h1 b
 Ynm:∀ j id o,look j m.ι=some id->look id h1=some o->o.isRow=false->Y.nm (oid j)=some (β1 id,β1.lp id)
 mp:∀ i j p,(i,j)∈mp->kY.oin[i]? =some p->p.isRow=false->(j,i)∈kY.yl
 ok2:Ok F2 F2.w0 β2 (E3 ds kY.oin)
 nm:∀ j p,kY.oin[j]? =some p->p.isRow=false->F2.nm (oid j)=some (β2 (oid j),β2.lp (oid j))
theorem Begins.rep {F0:Fr} {w1:World} {β1:Nm} {h1:Obs U} {kY:Con U} {m:Mt U} {mp:List (Nat×Nat)} {Y F2:Fr} {β2:Nm} {ds:List (Datum U)} (B:Begins F0 w1 β1 h1 kY m mp Y F2 β2 ds) {x:Datum U} {v:Value} (r:Rep U w1 (Live β1 h1) x v):Rep U F2.w0 (Live β2 (E3 ds kY.oin)) x v:=by
 have d:w1.heap.size<=F2.w0.heap.size:=by have:=B.W.bel.size;rw [B.Yw] at this;exact this
 refine r.mono d (λb c e=>?_) (λb c hl=>?_)
 .have:=B.W.frm b (by rw [B.Yw];exact c) (λf=>e (.inr (B.YK b f)));rw [B.Yw] at this;exact this
 .rcases hl with hl|⟨id,o,g,i,h⟩
  .rw [B.ok2.Meq] at hl;rcases B.W.Mup b (by rw [B.Yw];exact c) hl with a|a
   .exact B.YM b c a
   .exact .inr (B.YK b a)
  .rcases B.ok2.own id o b g h with a|a
   .exact .inr (B.YK b (B.W.K b (by rw [B.Yw];exact c) a))
   .omega
theorem Begins.name {F0:Fr} {w1:World} {β1:Nm} {h1:Obs U} {kY:Con U} {m:Mt U} {mp:List (Nat×Nat)} {Y F2:Fr} {β2:Nm} {ds:List (Datum U)} (B:Begins F0 w1 β1 h1 kY m mp Y F2 β2 ds) {i j id:Nat} {p:OPat} {o:Ob U}
  (hm:(i,j)∈mp) (b:kY.oin[i]? =some p) (hr:p.isRow=false) (c:look j m.ι=some id) (d:look id h1=some o) (a:o.isRow=false):β2 (oid i)=β1 id/\β2.lp (oid i)=β1.lp id/\F2.nm (oid i)=some (β1 id,β1.lp id):=by
 have h1:=B.W.nm j i _ (B.mp i j p hm b hr) (B.Ynm j id o c d a);have h2:=B.nm i p b hr;rw [h1] at h2;simp only [cn4,co6] at h2;exact ⟨h2.1.symm,h2.2.symm,h1⟩
theorem Begins.rel {F0:Fr} {w1:World} {β1:Nm} {h1:Obs U} {kY:Con U} {m:Mt U} {mp:List (Nat×Nat)} {Y F2:Fr} {β2:Nm} {ds:List (Datum U)} (B:Begins F0 w1 β1 h1 kY m mp Y F2 β2 ds) {σ:List (Nat×PV U)} (R:Rel F0 n β1 ⟨σ,h1⟩ tmps w1)
  {us vs:List Value} (g:CsRel F2.w0 β2 (E3 ds kY.oin) (kY.ain.map (iC ds oid (λ_=>0))) us) (a:I8 kY.args us vs) {ps:List Nat} (k:∀ t∈ps,t<n) (l:ps.length<=kY.args.length):
  Rel F2 n β2 ⟨bC7 ps (D0 kY.args (kY.ain.map (iC ds oid (λ_=>0)))) (σ.map λx=>(x.1,renP (rnOf kY m mp) x.2)),E3 ds kY.oin⟩ ((ps.zip vs).foldl (λ(tm:Array Value) (x:Nat×Value)=>tm.setIfInBounds x.1 x.2) tmps) F2.w0:=by
 have hcell:∀ (c:Cell U) (v:Value),CRel w1 β1 h1 c v->CRel F2.w0 β2 (E3 ds kY.oin) (renC (rnOf kY m mp) c) v:=λc v r=>
  bS5 (F:=F0) (B2:=F2.B) (λx v r=>B.rep r) (λid i o hl z s=>by
   obtain ⟨j,p,u,f,y,A⟩:=bZ3 hl;have b:=D3 (ds:=ds) f;exact ⟨_,b,(B.name u f y A z s).1,B.ok2.obj _ _ b,λD C=>by
    revert y C;cases p<;>simp only [iO,OPat.isRow,reduceCtorEq,false_implies,true_implies,implies_true,not_false_eq_true]<;>first|(split<;>simp)|simp⟩) B.ok1.obj r
 obtain ⟨J,E⟩:=P3 (σ:=σ) a g;have d:vs.length=kY.args.length:=P7 a;obtain ⟨u,f⟩:=ba2 (w:=F2.w0) (β:=β2) (h:=E3 ds kY.oin) (ts:=ps) (gs:=D0 kY.args (kY.ain.map (iC ds oid (λ_=>0)))) (vs:=vs) (σ:=σ.map λx=>(x.1,renP (rnOf kY m mp) x.2)) (tm:=tmps) (λi x K G=>by
   have e:i<vs.length:=by rw [d];omega
   exact ⟨vs[i],cn6 e,E i x vs[i] G (cn6 e)⟩) (by rw [J1];exact l) (λt H=>by rw [R.sz];exact k t H) (λt p hl=>by
   rw [L7] at hl;simp only [co1] at hl;obtain ⟨q,I,rfl⟩:=hl;exact ⟨λσ'=>ck0 hcell (R.tmp t q I),bv6 _ _⟩)
 exact ⟨B.ok2,u.trans R.sz,λt p hl=>(f t p hl).1 _⟩
def bG4 (E:Env U) (X:Nat) (L:Nat->St U->Ann U) (k0:Nat) (kY:Con U) (rn:List (Nat×Nat)) (jl:Nat) (jump:Option Code) (ps:List Nat) (asg body:Code) (σ:List (Nat×PV U)):Prop:=
 ∀ xs:Dens U.T kY.params,holds (kY.pre.map λp=>p xs)->aA4 (aQ8 (A7 U kY.params xs) (datC kY.ain++datO kY.oin)) (match bC8 (A7 U kY.params xs) kY.oin jl with
  |some st=>st=0/\wpc E X L asg k0 (bC9 kY rn ps jl σ (A7 U kY.params xs)) (λe s'=>match e with
   | .normal=>wpc E X L body (k0+Z8 asg) s' (aQ9 kY xs jl jump)
   |_=>Bad 4014 k0)
  |none=>Bad 4015 k0)
theorem W3 {B l:Nat} {o:Obj} (w:World) (h:B<=l):Below B w (w.putObj l o):=⟨rfl,rfl,rfl,by simp,λk a=>World.putObj_heap_other (by omega)⟩
theorem ac3 {h:Obs U} {id:Nat} {o:Ob U} {p:Nat->Bool} (hl:look id (T8 h ((keys h).filter p))=some o):p id=true:=(List.mem_filter.1 (az2 hl)).2
theorem ai9 {α γ:Type} (f:α->γ):∀ (gs:List (Bool×Nat)) (cs:List α),D0 gs (cs.map f)=(D0 gs cs).map λx=>(x.1,x.2.map f)
 |[],_=>rfl
 |(b,n)::gs,cs=>by simp only [D0,List.map_cons,<-List.map_take,<-List.map_drop];rw [ai9 f gs]
theorem aE7 {Y0:Fr} (hE:E.Fits) (hG:E.Sound Y0) (hyl:E.yl=[]) (hm:E.P.follows .mixedOrders=true) {F0:Fr} {β1:Nm} {σ:List (Nat×PV U)} {h1:Obs U} {w1:World} (R:Rel F0 n β1 ⟨σ,h1⟩ tmps w1) (hFG:F0.G=E.G)
  {g:Obs U} {tys:List Ty} {os:List OPat} {ds0:List (Datum U)} {m:Mt U} (G:Matched F0 w1 β1 h1 g tys os ds0 m) {kY:Con U} {mp:List (Nat×Nat)} {jl lid l:Nat} {jump:Option Code} {ps:Array Tmp} {asg body:Code} {fn:FuncId} {dd:Nat}
  (hfn:∃ f',E.P.funcs[fn]? =some f') (hlid:look lid h1=some (.loop 0)) (hβl:β1 lid=.func (.yield l) #[] #[])
  (hlp:β1.lp lid=({ state:=.ready,pending:=none,fn:=fn,tmps:=tmps,params:=ps,assign:=asg,body:=body,defers:=dd },ac2 jump))
  (hps:∀ t∈ps.toList,t<n) (W:kY.args.length=ps.toList.length+1) (hmp:∀ i j p,(i,j)∈mp->kY.oin[i]? =some p->p.isRow=false->(j,i)∈kY.yl) (hjl:∃ j,(jl,j)∈mp/\look j m.ι=some lid) (hjr:∃ p,kY.oin[jl]? =some p)
  (Z:(D0 kY.args kY.ain)[ps.toList.length]? =some (false,[.yld jl])) (hres:kY.res=[(false,1)])
  (okA:J7 n asg=true) (okB:J7 n body=true) (nrA:noRF asg=true) (nrB:noRF body=true)
  {X k0:Nat} {L:Nat->St U->Ann U} (hr:bG4 E X L k0 kY (rnOf kY m mp) jl jump ps.toList asg body σ):GivesC (frOf F0 w1 β1 h1 m) (runY E.P) E.G kY:=by
 intro xs hp F2 hin β2 w2 us vs hw0 S K hnm hnm2 hcr w;subst hw0;have C:=ab0 (hr xs hp) (aE6 K hcr);split at C
 case h_2=>exact C.elim
 rename_i st y;obtain ⟨rfl,C⟩:=C
 --the loop's object
 obtain ⟨q,hjq,hiO⟩:∃ q,kY.oin[jl]? =some (.loop q)/\iO (A7 U kY.params xs) oid (λ_=>0) jl (.loop q)=.loop 0:=by
  unfold bC8 at y;split at y
  .rename_i q hq;refine ⟨q,hq,?_⟩;split at y
   .rename_i kk st hd;simp only [cn4] at y;simp only [iO,hd,y]
   .cases y
  .cases y
 have f:look (oid jl) (E3 (A7 U kY.params xs) kY.oin)=some (.loop 0):=by have:=D3 (ds:=A7 U kY.params xs) hjq;rw [hiO] at this;exact this
 obtain ⟨jj,hjm,hji⟩:=hjl;have hne:kY.yl≠[]:=by intro h0;have:=hmp jl jj _ hjm hjq rfl;rw [h0] at this;simp at this
 have B:Begins F0 w1 β1 h1 kY m mp (frOf F0 w1 β1 h1 m) F2 β2 (A7 U kY.params xs):=by
  refine ⟨R.ok,hin hne,rfl,λb s=>?_,λb s hM=>?_,λj id o q1 q2 q3=>?_,hmp,K,hnm⟩
  .obtain ⟨j,id,q1,q2⟩:=s;obtain ⟨p0,o0,t1,t2,t3⟩:=G.at_ q1;exact ⟨id,o0,t2,t3.live,q2⟩
  .exact (H8 G.k G.hf).ext.live b s hM.1
  .show nmOf β1 h1 m (oid j)=_;unfold nmOf;have e1:1000000<=oid j:=by unfold oid;omega
   have e2:oid j-1000000=j:=by unfold oid;omega
   simp only [e1,if_true,e2,q1,q2,q3,Bool.false_eq_true,if_false]
 obtain ⟨n1,n2,n3⟩:=B.name hjm hjq rfl hji hlid rfl;obtain ⟨b,r,o1,o2,o3,N⟩:=K.obj _ _ f;rw [n1,hβl] at o1;simp only [Value.func.injEq,Fn.yield.injEq,and_true] at o1;subst o1;rw [n2,hlp] at N;simp only [if_true,ac2] at N;have T:l<F2.w0.heap.size:=by have:=cp2.1 o3;exact this.1
 have d:Has (β2 (oid jl)) l:=by rw [n1,hβl];exact rfl
 have hKl:F2.K l:=(K.own _ _ l f d).resolve_right (by omega);have hMl:¬ F2.M l:=λh=>K.Mo _ _ l f d (by rw [K.Meq];exact h);have hgl:∀ gg fs,(gg,fs)∈F2.G->¬ gg=l:=λgg fs hgf e=>(K.glo gg fs hgf).2.1 (by rw [e];exact hKl)
 --the arguments
 have hvl:vs.length=ps.toList.length+1:=by rw [P7 w,W]
 obtain ⟨gr1,gr2⟩:=P3 (σ:=[]) w hcr;have hlt:ps.toList.length<vs.length:=by omega
 have hyv:vs[ps.toList.length]=.func (.yield l) #[] #[]:=by
  have hx:(D0 kY.args (kY.ain.map (iC (A7 U kY.params xs) oid (λ_=>0))))[ps.toList.length]? =some (false,[.yld (oid jl)]):=by rw [ai9,co9,Z];rfl
  have:=gr2 _ _ _ hx (cn6 hlt);have hc:CsRel F2.w0 β2 (E3 (A7 U kY.params xs) kY.oin) [.yld (oid jl)] [vs[ps.toList.length]]:=this;obtain ⟨st',q1,q2⟩:=hc.inv.2;rw [q2,n1,hβl]
 have hvs:vs=vs.take ps.toList.length++[.func (.yield l) #[] #[]]:=by
  rw [<-hyv];have h1:=List.take_append_drop ps.toList.length vs;have h2:vs.drop ps.toList.length=[vs[ps.toList.length]]:=by rw [List.drop_eq_getElem_cons hlt,List.drop_of_length_le (by omega)]
  rw [h2] at h1;exact h1.symm
 have hzip:ps.toList.zip vs=ps.toList.zip (vs.take ps.toList.length):=by
  have hl2:ps.toList.length=(vs.take ps.toList.length).length:=by rw [cq3];omega
  conv=>lhs;rw [hvs]
  have:=List.zip_append (l₁:=ps.toList) (l₂:=vs.take ps.toList.length) (r₁:=[]) (r₂:=[Value.func (.yield l) #[] #[]]) hl2;simpa using this
 have R2:=B.rel R hcr w hps (by omega);have hfold:(r.params.zip (vs.take ps.toList.length).toArray).foldl (λtmps (t,a)=>tmps.setIfInBounds t a) r.tmps=(ps.toList.zip vs).foldl (λ(tm:Array Value) (x:Nat×Value)=>tm.setIfInBounds x.1 x.2) tmps:=by rw [hzip,N,<-Array.foldl_toList];simp
 refine ⟨vs.take ps.toList.length,l,r,hvs,o3,?_,λro=>?_⟩
 .have hs:ps.toList.length=ps.size:=by simp
  rw [N,cq3];show min ps.toList.length vs.length=ps.size;omega
 rw [hfold];rw [show r.fn=fn by rw [N],show r.assign=asg by rw [N],show r.body=body by rw [N]];obtain ⟨f',hf'⟩:=hfn;refine bS4 (by show (E.P.funcs[fn]?).isSome=true;rw [hf'];rfl) ⟨f',hf'⟩ ?_
 --the assignment
 have hK0:=bF7 R2 (bf4 (bC7 ps.toList (D0 kY.args (kY.ain.map (iC (A7 U kY.params xs) oid (λ_=>0)))) (σ.map λx=>(x.1,renP (rnOf kY m mp) x.2)))) ((keys (E3 (A7 U kY.params xs) kY.oin)).filter λid=>!(Nat.beq id (oid jl)))
  (w':=F2.w0) (D:=(·=l)) (λb s=>.inr ⟨oid jl,_,f,rfl,by rw [s];exact d⟩) (λid o b hl s hbl=>by
   have h1:=ac3 hl;have:=K.dis id o (oid jl) _ l (L8 hl) f (by rw [<-hbl];exact s) d;rw [this,Nat.beq_refl] at h1;cases h1) (Below.refl _ _) (λ_ _ _=>rfl)
 obtain ⟨R3,hO3⟩:=hK0;refine J2 (ro:=some l) (Y:=Y0) hE hG (λh=>absurd hyl h) (by show F2.G=E.G;exact S) hm X L asg k0 _ _ okA nrA C _ { tmps:=(ps.toList.zip vs).foldl (λ(tm:Array Value) (x:Nat×Value)=>tm.setIfInBounds x.1 x.2) tmps,defers:=[] } F2.w0 R3 hO3 _ (λway e s' β' a' w2a A h1 R' hO' hd=>?_);cases way with
 |exit id=>exact h1.elim
 |ret=>exact h1.elim
 |panic v=>exact h1.elim
 |normal=>
 have A:e=.normal:=A;subst A;have V:w2a.heap[l]? =some (.loop r):=by have:=R'.frm l T (λhk=>hk.2 rfl);rw [this];exact o3
 have hl2:l<w2a.heap.size:=(cp2.1 V).1;have hbr:=run_beginRound (P:=E.P) V (by rw [N]);refine ⟨_,hbr,?_⟩;have hb2:Below F2.B w2a (w2a.putObj l (.loop { r with state:=.busy })):=W3 w2a o2;obtain ⟨k4,sh4⟩:=bG3 (F:=F2) (wa:=F2.w0) (D:=(·=l)) R'.ok hb2 (by simp) (λb s=>World.putObj_heap_other s) (λb s=>by rw [s];exact T) hgl (Nat.le_refl _);have R4:Rel (F2.shut (w2a.putObj l (.loop { r with state:=.busy })) (·=l)) n β' s' a'.tmps (w2a.putObj l (.loop { r with state:=.busy })):=⟨k4,R'.sz,λt p hl=>sh4.p (R'.tmp t p hl)⟩;have hwl:(w2a.putObj l (.loop { r with state:=.busy })).heap[l]? =some (.loop { r with state:=.busy }):=World.putObj_heap_same hl2;have O:Below F2.B F2.w0 (w2a.putObj l (.loop { r with state:=.busy })):=Below.trans R'.bel hb2;have H:∀ b,b<F2.w0.heap.size->¬ F2.K b->(w2a.putObj l (.loop { r with state:=.busy })).heap[b]? =F2.w0.heap[b]? :=by
  intro b s hk;rw [World.putObj_heap_other (λe=>hk (by rw [e];exact hKl))];refine R'.frm b s ?_;rintro ⟨h5|h5,_⟩
  .exact hk h5
  .omega
 generalize hw2b:w2a.putObj l (.loop { r with state:=.busy })=w2b at R4 hwl O H;have hl3:l<w2b.heap.size:=(cp2.1 hwl).1
 --what comes at the end
 have fin:∀ (st:Int) (bv:Bool) (jmp:Option Code) (β'':Nm) (s'':St U) (a'':Act) (I:World),Rel (F2.shut w2b (·=l)) n β'' s'' a''.tmps I->(look (oid jl) s''.h).isNone=true->
   (if jmp.isNone=true then LoopState.ready else .done)=(if st=0 then .ready else .done)->jmp=ac2 jump st->bv=jmp.isNone->bf6 kY xs (s''.h++[(oid jl,.loop st)]) [.d ⟨.bool,bv⟩]->
   ∃ v w',(Instr.endRound l jmp).run E.P I=.ok v w'/\((∀ b,kY.bad=some b->(b xs).1=false)/\∃ β' rs,Ok F2 w' β' (E3 (A7 U kY.tys (kY.fn xs)) kY.oout)/\aa2 kY.res rs v/\
     CsRel w' β' (E3 (A7 U kY.tys (kY.fn xs)) kY.oout) (kY.rout.map (iC (A7 U kY.tys (kY.fn xs)) oid (λ_=>0))) rs):=by
  intro st bv jmp β'' s'' a'' I R5 z Q hj hbv hpost;have h3:I.heap[l]? =some (.loop { r with state:=.busy }):=by have:=R5.frm l hl3 (λhk=>hk.2 rfl);rw [this];exact hwl
  have hl4:l<I.heap.size:=(cp2.1 h3).1;have hend:=run_endRound (P:=E.P) jmp h3;refine ⟨_,_,hend,?_⟩;have hrec:({ ({ r with state:=.busy }:Loop) with state:=if jmp.isNone=true then .ready else .done,pending:=jmp }:Loop)={ state:=if st=0 then .ready else .done,pending:=ac2 jump st,fn:=fn,tmps:=tmps,params:=ps,assign:=asg,body:=body,defers:=dd }:=by rw [N,Q,<-hj]
  obtain ⟨β3,K3,_⟩:=bS3 (F:=F2) (wa:=F2.w0) (wb:=w2b) (w':=I.putObj l (.loop { ({ r with state:=.busy }:Loop) with state:=if jmp.isNone=true then .ready else .done,pending:=jmp })) (l:=l) (id:=oid jl) (st:=st) K O H R5.ok (by simpa using z) hKl hMl o2 hl3
   (lp:=({ state:=.ready,pending:=none,fn:=fn,tmps:=tmps,params:=ps,assign:=asg,body:=body,defers:=dd },ac2 jump)) (λv J=>by
    rw [n3,hβl,hlp] at J;exact Option.some.inj J) (W3 I o2) (by simp) (λb s=>World.putObj_heap_other s) (by
    rw [World.putObj_heap_same hl4,hrec])
  obtain ⟨p1,β4,p2,p3⟩:=aE3 hpost K3 (rs:=[.bool bv]) ⟨rfl,λv J=>by simp only [co5] at J;subst J;rfl,λj c v hc J=>by
   match j,hc,J with
   |0,hc,J=>simp only [co2,cn4] at hc J;subst hc;subst J;exact Rep.bool _
   |j+1,hc,J=>simp at hc⟩ hnm2
  refine ⟨p1,β4,[.bool bv],p2,?_,p3⟩;rw [hres];exact ⟨_,[],[],rfl,rfl,by rw [hbv],rfl,rfl⟩
 refine J2 (ro:=some l) (Y:=Y0) hE hG (λh=>absurd hyl h) (by show F2.G=E.G;exact S) hm X L body _ _ _ okB nrB h1 β' a' w2b R4 hO' _ (λway e s'' β'' a'' I A h2 R5 hO5 hd5=>?_);unfold aQ9 at h2;cases z:(look (oid jl) s''.h).isNone with
 |false=>rw [z] at h2;exact h2.elim
 |true=>
 rw [z] at h2;simp only [cond_true] at h2;cases way with
 |normal=>have A:e=.normal:=A;subst A;exact fin 0 true none β'' s'' a'' I R5 z rfl (by simp [ac2]) rfl h2
 |ret=>
  have A:e=.ret:=A;subst A;simp only at h2;split at h2
  .exact fin 1 false (some .ret) β'' s'' a'' I R5 z rfl (by simp [ac2]) rfl h2
  .exact h2.elim
 |exit id=>
  have A:e=.exit id:=A;subst A;simp only at h2;split at h2
  .rename_i id' heq;simp only [co7] at h2;split at h2
   .rename_i s;have:=cn5 s;subst this;exact fin 1 false (some (.exit id)) β'' s'' a'' I R5 z rfl (by simp [ac2]) rfl h2
   .exact h2.elim
  .exact h2.elim
 |panic v=>
  obtain ⟨u,hpi,rfl⟩:=A;refine ⟨hd5.trans hd,?_⟩;simp only [bD0] at h2;split at h2
  .exact h2.elim
  .rename_i bb hbb;have:=aM3 h2.2;refine ⟨bb,u,hbb,h2.1,rfl,by rw [this];exact hpi,O.trans R5.bel,?_⟩;intro blk d hK;rw [<-H blk d hK];refine R5.frm blk (Nat.lt_of_lt_of_le d O.size) ?_;rintro ⟨h5|h5,_⟩
   .exact hK h5
   .omega
abbrev aM4 (r:Nat):Deferred:={ target:=.collected r,args:=#[] }
inductive Later (F:Fr) (ds:List Deferred):Fr->List Deferred->Prop where
 |refl:Later F ds F ds
 |step (F1:Fr) (ds1:List Deferred) (w0 wa:World) (β0:Nm) (h0:Obs U) (r:Nat):Later F ds F1 ds1->Ok F1 w0 β0 h0->Below F1.B F1.w0 wa->(∀ b,b<F1.w0.heap.size->¬ F1.K b->wa.heap[b]? =F1.w0.heap[b]?)->F1.B<=r->F1.w0.heap.size<=r->r<wa.heap.size->wa.heap[r]? =some (.deferred (some []))->Later F ds (F1.shut wa (·=r)) (aM4 r::ds1)
theorem Later.trans {F F1 F2:Fr} {ds ds1 ds2:List Deferred} (x:Later (U:=U) F ds F1 ds1) (y:Later (U:=U) F1 ds1 F2 ds2):Later (U:=U) F ds F2 ds2:=by
 induction y with
 |refl=>exact x
 |step F1' ds1' w0 wa β0 h0 r _ b c hf a d hr e ih=>exact .step F1' ds1' w0 wa β0 h0 r ih b c hf a d hr e
theorem Later.G {F F1:Fr} {ds ds1:List Deferred} (x:Later (U:=U) F ds F1 ds1):F1.G=F.G:=by
 induction x with
 |refl=>rfl
 |step _ _ _ _ _ _ _ _ _ _ _ _ _ _ _ ih=>exact ih
theorem Later.nm {F F1:Fr} {ds ds1:List Deferred} (x:Later (U:=U) F ds F1 ds1):F1.nm=F.nm:=by
 induction x with
 |refl=>rfl
 |step _ _ _ _ _ _ _ _ _ _ _ _ _ _ _ ih=>exact ih
theorem Later.size {F F1:Fr} {ds ds1:List Deferred} (x:Later (U:=U) F ds F1 ds1):F.w0.heap.size<=F1.w0.heap.size:=by
 induction x with
 |refl=>exact Nat.le_refl _
 |step F1' ds1' w0 wa β0 h0 r _ c a hf b d hr e ih=>exact Nat.le_trans ih a.size
theorem Later.back {F F1:Fr} {ds ds1:List Deferred} (x:Later (U:=U) F ds F1 ds1):∀ {w':World} {β':Nm} {h':Obs U},Ok F1 w' β' h'->∃ rs:List Nat,ds1=rs.map aM4++ds/\rs.Nodup/\
  (∀ r∈rs,w'.heap[r]? =some (.deferred (some []))/\(∀ id o,look id h'=some o->¬ Has (β' id) r)/\F.w0.heap.size<=r/\r<F1.w0.heap.size)/\∃ β'',Ok F w' β'' h'/\Sh w' β' h' w' β'' h':=by
 induction x with
 |refl=>intro w' β' h' k;exact ⟨[],rfl,List.nodup_nil,λr hr=>by simp at hr,β',k,⟨λid o hl=>⟨hl,rfl,rfl⟩,Nat.le_refl _,λ_ _ _=>rfl,λ_ _ h=>h⟩⟩
 |step F1 ds1 w0 wa β0 h0 r y g e hf i B hr j ih=>
  intro w' β' h' k;obtain ⟨l,sh1,m⟩:=ba1 g e hf k;obtain ⟨rs,n,p,f,β'',q,c⟩:=ih l;obtain ⟨s,t⟩:=m r rfl hr;have u:=y.size;refine ⟨r::rs,by rw [n];rfl,List.nodup_cons.2 ⟨λhm=>?_,p⟩,λr' d=>?_,β'',q,⟨λid o hl=>⟨hl,(c.obj id o hl).2.1,(c.obj id o hl).2.2⟩,Nat.le_refl _,λ_ _ _=>rfl,λb a hl=>sh1.live b a (c.live b a hl)⟩⟩
  .have:=(f r hm).2.2.2;omega
  .rcases List.mem_cons.1 d with h1|h1
   .subst h1;exact ⟨s.trans j,t,by omega,hr⟩
   .obtain ⟨v,w,z,A⟩:=f r' h1;exact ⟨v,w,z,Nat.lt_of_lt_of_le A e.size⟩
def bq9 (F:Fr) (n:Nat) (ds:List Deferred) (Q':Way U->St U->Prop) (Q:Exit->Act->World->Prop):Prop:=
 ∀ F1 way e s' β' a' w',bq5 way e->Q' way s'->Rel F1 n β' s' a'.tmps w'->OptIn (λ_=>False) s'.σ->Later (U:=U) F ds F1 a'.defers->Q e a' w'
theorem bG5 {g:Operand} {ps:List Nat} {asg body:Code} {lid:Nat} {r:RF U} (h:rfOf E s g ps asg body lid=some r):
  ∃ f ids k mp cs m xs R,am8 (ev s.σ g)=some (f,ids)/\(k,r.kY,mp)∈E.it f/\r.k=k/\ac8 (sub (write lid (.loop 0) s.h) R) [] none { k with yl:=[] } (.one (.yld lid)::ids.map λid=>.one (.ptr id 0))=some r.c/\
   F3 k.args (.one (.yld lid)::ids.map λid=>.one (.ptr id 0))=some cs/\am7 (sub (write lid (.loop 0) s.h) R) k cs=some (xs,m)/\r.rn=rnOf r.kY m mp/\
   look lid s.h=none/\lid<1000000/\E.yl=[]/\noRF asg=true/\noRF body=true/\r.c.news=[]/\(∀ x∈k.yl,x.1=x.2)/\r.kY.args.length=ps.length+1/\
   (∀ i j p,(i,j)∈mp->r.kY.oin[i]? =some p->p.isRow=false->(j,i)∈r.kY.yl)/\(∃ j,(r.jl,j)∈mp/\look j m.ι=some lid)/\(∃ p,r.kY.oin[r.jl]? =some p)/\
   (D0 r.kY.args r.kY.ain)[ps.length]? =some (false,[.yld r.jl])/\r.kY.res=[(false,1)]/\(r.jump=none\/r.jump=some .ret\/(∃ id,r.jump=some (.exit id))\/True):=by
 unfold rfOf at h;split at h
 case h_2=>cases h
 rename_i f ids l;split at h
 case h_2=>cases h
 rename_i k kY mp rest n;have v:(k,kY,mp)∈E.it f:=(List.mem_filter.1 (by rw [n];exact List.mem_cons_self)).1;dsimp only at h;split at h
 case h_2=>cases h
 rename_i ce w;split at h
 case h_2=>cases h
 rename_i cs z;split at h
 case h_2=>cases h
 rename_i xs m hm;split at h
 case h_2=>cases h
 rename_i jl H;generalize b:(_&&(kY.res==[(false,1)]))=bb at h;cases bb with
 |false=>cases h
 |true=>
 simp only [cond_true] at h;simp only [cn7] at b;obtain ⟨⟨⟨⟨⟨⟨⟨⟨⟨⟨⟨⟨⟨⟨I,J⟩,K⟩,L⟩,M⟩,X⟩,N⟩,O⟩,Y⟩,A⟩,B⟩,C⟩,o⟩,d⟩,D⟩:=b;have F:r.kY=kY/\r.k=k/\r.c=ce/\r.rn=rnOf kY m mp/\r.jl=jl:=by
  split at h
  .simp only [cn4] at h;subst h;exact ⟨rfl,rfl,rfl,rfl,rfl⟩
  .simp only [cn4] at h;subst h;exact ⟨rfl,rfl,rfl,rfl,rfl⟩
  .cases h
 obtain ⟨P,Q,S,T,V⟩:=F;rw [P,Q,S,T,V];refine ⟨f,ids,k,mp,cs,m,xs,_,l,v,rfl,w,z,hm,rfl,by simpa using I,cp7 J,by simpa using K,L,M,by simpa using N,λx t=>cn5 (cq4.1 O x t),cn5 A,?_,?_,?_,?_,by simpa using D,.inr (.inr (.inr trivial))⟩
 .intro i j p t W hr;have h1:=cq4.1 C _ t;simp only [W] at h1;cases p with
  |row q=>cases hr
  |dp q ms=>cases hr
  |ms q=>cases hr
  |box e cs=>simp only [cn7,List.any_eq_true] at h1;obtain ⟨⟨y,u,a⟩,_⟩:=h1;rw [<-cn5 a.1,<-cn5 a.2];exact u
  |map q=>simp only [cn7,List.any_eq_true] at h1;obtain ⟨⟨y,u,a⟩,_⟩:=h1;rw [<-cn5 a.1,<-cn5 a.2];exact u
  |loop q=>simp only [cn7,List.any_eq_true] at h1;obtain ⟨⟨y,u,a⟩,_⟩:=h1;rw [<-cn5 a.1,<-cn5 a.2];exact u
 .rw [List.any_eq_true] at o;obtain ⟨x,t,a⟩:=o;simp only [cn7,beq_iff_eq] at a;refine ⟨x.2,?_,a.2⟩;rw [<-cn5 a.1];exact t
 .have:=cp7 B;exact ⟨_,cn6 this⟩
 .split at d
  .rename_i j' G;rw [G,cn5 d]
  .cases d
theorem br0 {tmps:Array Value} (R:Rel F n β s tmps w) {ids:List Nat} {w':World} (e:Below F.B w w')
  (c:∀ b,b<w.heap.size->(∀ id∈ids,∀ o,look id s.h=some o->o.live=true->¬ Has (β id) b)->w'.heap[b]? =w.heap[b]?):Rel F n β (s.less ids) tmps w'/\OptIn (λ_=>False) (s.less ids).σ:=by
 refine aD7 R _ _ e (λb i f=>c b i (λid g o hl d a=>?_));rcases f with f|⟨id',o',h1,h2⟩
 .exact f ⟨id,o,hl,d,a⟩
 .have h3:=L8 h1;have:=R.dis id o id' o' b hl h3 a h2;subst this;have h4:=ac3 h1;have:(ids.any (Nat.beq id))=true:=List.any_eq_true.2 ⟨id,g,Nat.beq_refl id⟩;rw [this] at h4;cases h4
theorem bG6 {g:Obs U} {k:Con U} {cs:List (Cell U)} {xs:Dens U.T k.params} {m:Mt U} (h2:am7 g { k with yl:=[] } cs=some (xs,m)):am7 g k cs=some (xs,m):=by exact h2
theorem ba3 {Y0:Fr} (hE:E.Fits) (hG:E.Sound Y0) (hFG:F.G=E.G) (hm:E.P.follows .mixedOrders=true) {X Y:Nat} {L:Nat->St U->Ann U} {g:Operand} {ps:Array Tmp} {asg body:Code} {r:RF U} (hr:rfOf E s g ps.toList asg body (990000+Y)=some r)
  (okp:∀ t∈ps.toList,t<n) (okA:J7 n asg=true) (okB:J7 n body=true) (R:Rel F n β s a.tmps w) (hO:OptIn (λ_=>False) s.σ)
  (H:bG4 E X L Y r.kY r.rn r.jl r.jump ps.toList asg body s.σ) (hob:holds r.c.e.obl) {Q':Way U->St U->Prop}
  (hP:∀ b v,r.c.pan=some (b,v)->b=true->Q' (.panic v) ((⟨s.σ,write (990000+Y) (.loop 0) s.h⟩:St U).less (keys r.c.e.upd++r.c.lost)))
  (hN:(∀ b v,r.c.pan=some (b,v)->b=false)->∃ st,look (990000+Y) (upds (write (990000+Y) (.loop 0) s.h) r.c.e.upd)=some (.loop st)/\bo4 r.jump st ((⟨s.σ,upds (write (990000+Y) (.loop 0) s.h) r.c.e.upd⟩:St U).less [990000+Y]) Q')
  {Q:Exit->Act->World->Prop} (hQ:bq9 F n a.defers Q' Q):(Code.rangeFunc g ps asg body).wpIn (fen E.P none) 0 E.P Q a w:=by
 obtain ⟨f,ids,k,mp,cs,m,xs0,Rids,hcal,hit,hk,hact,hcs,hmk,hrn,I,hlt,hyl,nrA,nrB,hnews,hkyl,N,hmp,hjl,hjr,O,Z,_⟩:=bG5 hr;generalize hlid:990000+Y=lid at*
 refine wpIn_rangeFunc (λfn hfn=>?_);obtain ⟨f',hf'⟩:∃ f',E.P.funcs[fn]? =some f':=Option.isSome_iff_exists.1 hfn
 --the mark's block
 have y:Below w.heap.size w (w.alloc (.deferred (some []))):=N8 _ _;have hmk1:(w.alloc (.deferred (some []))).heap[w.heap.size]? =some (.deferred (some [])):=World.alloc_heap_new _ _;obtain ⟨k1,sh1⟩:=cb9 (D:=(·=w.heap.size)) R.ok (y.mono R.hB) (λb B=>by rw [B];simp) (λb B _=>y.block b B) (λid o b hl B e=>by
   have:=((R.obj id o hl).blk B).2;omega) (λb B hb2=>absurd hb2 (by omega)) (λgg fs hgf e=>by
   have:=(R.glo gg fs hgf).1;have:=R.bel.size;omega)
 have R1:Rel (F.shut (w.alloc (.deferred (some []))) (·=w.heap.size)) n (β.shut (·=w.heap.size)) s a.tmps (w.alloc (.deferred (some []))):=⟨k1,R.sz,λt p hl=>sh1.p (R.tmp t p hl)⟩;have z:Later (U:=U) F a.defers (F.shut (w.alloc (.deferred (some []))) (·=w.heap.size)) (aM4 w.heap.size::a.defers):=
  .step F a.defers w _ β s.h w.heap.size .refl R.ok (R.bel.trans (y.mono R.hB)) (λb B hK=>by
   have:=R.bel.size;rw [y.block b (by omega)];exact R.frm b B hK) R.hB R.bel.size (by simp) hmk1
 generalize hF':F.shut (w.alloc (.deferred (some []))) (·=w.heap.size)=F' at k1 R1 z;generalize hβ':β.shut (·=w.heap.size)=βa at k1 R1 sh1;have hw1:(w.alloc (.deferred (some []))).heap.size=w.heap.size+1:=by simp
 generalize hwa:w.alloc (.deferred (some []))=wa at*
 --the record
 let rec_:Loop:={ state:=.ready,pending:=none,fn:=fn,tmps:=a.tmps,params:=ps,assign:=asg,body:=body,defers:=w.heap.size }
 let β1:Nm:=⟨λj=>if j=lid then .func (.yield wa.heap.size) #[] #[] else βa j,βa.M,λj=>if j=lid then (rec_,ac2 r.jump) else βa.lp j⟩
 have hne:∀ j o,look j s.h=some o->j≠lid:=λj o hj e=>by rw [e,I] at hj;cases hj
 have hβ0:β1 lid=.func (.yield wa.heap.size) #[] #[]:=if_pos rfl;have J:β1.lp lid=(rec_,ac2 r.jump):=if_pos rfl;have d:∀ {id:Nat} {o:Ob U},(id,o)∈([(lid,.loop 0)]:Obs U)->id=lid/\o=.loop 0:=by intro id o hm;simpa using hm
 have A:After F' wa βa s.h (wa.alloc (.loop rec_)) β1 (upds s.h [(lid,.loop 0)]):=by
  refine ag2 R1.ok (N8 _ _) rfl (λid o hl=>if_neg (hne id o hl)) (λid o hl=>if_neg (hne id o hl)) (λid o C=>?_) (λid o C=>?_) (λid o gg C B=>?_) (λid o C hl=>?_) (λid o id' o' gg h1 h2 _ _=>?_)
  .rw [(d C).1];exact I
  .rw [(d C).1];exact .inr hlt
  .rw [(d C).1,hβ0] at B;simp only [Has,D5,cn4] at B;omega
  .obtain ⟨rfl,rfl⟩:=d C;refine ⟨wa.heap.size,rec_,hβ0,R1.hB,World.alloc_heap_new _ _,?_⟩;rw [J];rfl
  .rw [(d h1).1,(d h2).1]
 have hh1:upds s.h [(lid,.loop 0)]=write lid (.loop 0) s.h:=rfl;rw [hh1] at A;have R2:Rel F' n β1 ⟨s.σ,write lid (.loop 0) s.h⟩ a.tmps (wa.alloc (.loop rec_)):=⟨A.ok,R1.sz,λt p hl=>A.ext.p (R1.tmp t p hl)⟩;have K:look lid (write lid (.loop 0) s.h)=some (.loop 0):=A9 _ _ _;generalize hw2:wa.alloc (.loop rec_)=w2 at R2 A
 --the function's value
 have hgv:PRel w2 β1 (write lid (.loop 0) s.h) s.σ (ev s.σ g) (a.eval g):=S4 (s:=⟨s.σ,write lid (.loop 0) s.h⟩) R2 g;obtain ⟨bs,hfv,hbl,hbr⟩:=ar3 hcal hgv;have hF'G:F'.G=E.G:=by rw [z.G];exact hFG
 --the call
 have hin:aB4 F' w2 β1 (write lid (.loop 0) s.h) (sub (write lid (.loop 0) s.h) Rids) (runF E.P f) [] { k with yl:=[] } (.one (.yld lid)::ids.map λid=>.one (.ptr id 0)):=by
  intro xs m' cs' h1 h2 G _ hpre;have h1:F3 k.args (.one (.yld lid)::ids.map λid=>.one (.ptr id 0))=some cs':=h1;rw [hcs] at h1;simp only [cn4] at h1;subst h1;have h2:am7 (sub (write lid (.loop 0) s.h) Rids) k cs=some (xs,m'):=bG6 h2;rw [hmk] at h2;simp only [cn4,co6] at h2;obtain ⟨rfl,rfl⟩:=h2;have hY:=aE7 (dd:=w.heap.size) hE hG hyl hm R2 hF'G G (kY:=r.kY) (mp:=mp) (jl:=r.jl) (lid:=lid) (l:=wa.heap.size) (jump:=r.jump) (ps:=ps) (asg:=asg) (body:=body) ⟨f',hf'⟩ K hβ0 J okp N hmp hjl hjr O Z okA okB nrA nrB (hrn▸H);have hgive:=hG.it f k r.kY mp hit _ hY;have:=hgive.2 xs0 hpre (frOf F' w2 β1 (write lid (.loop 0) s.h) m) (λ_=>⟨rfl,rfl,Below.refl _ _,λ_ _ _=>rfl,λ_ _ h=>h,λ_ h=>h,λ_ _ h=>.inl h,λj i v hji V=>by
   have:=hkyl _ hji;simp only at this;rw [<-this];exact V⟩)
  rw [hF'G];exact this
 have hent:Enters E.P f:=by have hY:=aE7 (dd:=w.heap.size) hE hG hyl hm R2 hF'G (aa5 R2.ok (λ_ _=>C1) hmk).1 (kY:=r.kY) (mp:=mp) (jl:=r.jl) (lid:=lid) (l:=wa.heap.size) (jump:=r.jump) (ps:=ps) (asg:=asg) (body:=body) ⟨f',hf'⟩ K hβ0 J okp N hmp hjl hjr O Z okA okB nrA nrB (hrn▸H);exact (hG.it f k r.kY mp hit _ hY).1
 have hcall:=aB6 (σ:=s.σ) (us:=.func (.yield wa.heap.size) #[] #[]::bs.map λb=>Value.pointer (some ⟨b,0,none⟩)) aB3 hin R2.ok (λ_ _=>C1) hact hob (λid W=>by rw [hnews] at W;simp at W) (by simp [hbl]) (λj p v hp V=>by
  match j,hp,V with
  |0,hp,V=>simp only [co2,cn4] at hp V;subst hp;subst V;exact CsRel.one rfl ⟨0,K,hβ0.symm⟩
  |j+1,hp,V=>
   simp only [List.getElem?_cons_succ,co9,co1] at hp V;obtain ⟨id,W,rfl⟩:=hp;obtain ⟨b,B,rfl⟩:=V;obtain ⟨e',cs',q1,q2⟩:=hbr _ id b W B;exact CsRel.one rfl ⟨e',cs',b,q1,q2,rfl⟩)
 refine ⟨wa.heap.size,[aM4 w.heap.size],w2,{ target:=.fn (.func f) (bs.map λb=>Value.pointer (some ⟨b,0,none⟩)).toArray,args:=#[.func (.yield wa.heap.size) #[] #[]] },w2,f,(.func (.yield wa.heap.size) #[] #[]::bs.map λb=>Value.pointer (some ⟨b,0,none⟩)).toArray,w2,?_,?_,?_,?_,ad9,?_⟩
 .have:=run_enterLoop_outer (P:=E.P) (w:=w) fn a.tmps ps asg body;rw [hwa] at this;rw [show (fen E.P none).round=none from rfl,this,<-hw2,hw1]
 .simp [rangeCall,resolve,hfv,Deferred.ofValue];rfl
 .intro f'' hf'';simp only [Target.leads,cn4] at hf'';obtain ⟨fx,h1,_⟩:=hent;rw [<-hf''];show (E.P.funcs[f]?).isSome=true;rw [h1];rfl
 .have h1:=hent.run (.func (.yield wa.heap.size) #[] #[]::bs.map λb=>Value.pointer (some ⟨b,0,none⟩)).toArray w2;rw [<-h1];simp [invoke]
 .refine CallsIn.mono hcall (λen w3 hen=>?_);have q:∀ {β3:Nm} {s3:St U} {w4:World} {way:Way U} {e:Exit},bq5 way e->Q' way s3->Rel F' n β3 s3 a.tmps w4->OptIn (λ_=>False) s3.σ->Q e { a with defers:=[aM4 w.heap.size]++a.defers } w4:=λhe hq R3 hO3=>hQ F' _ _ _ _ { a with defers:=[aM4 w.heap.size]++a.defers } _ he hq R3 hO3 z;cases en with
  |outgrown=>exact hen.elim
  |panicked ch=>obtain ⟨b,u,q1,q2,rfl,q4,q5,q6⟩:=hen;obtain ⟨R3,hO3⟩:=br0 R2 (ids:=keys r.c.e.upd++r.c.lost) q5 q6;obtain ⟨b0,v0⟩:=b;exact q (way:=.panic v0) ⟨u,q4,rfl⟩ (hP b0 v0 q1 q2) R3 hO3
  |returned v=>
   obtain ⟨q1,β3,A3,_⟩:=hen;obtain ⟨st,hst,x⟩:=hN (λb v B=>q1 (b,v) B);have R3:Rel F' n β3 ⟨s.σ,upds (write lid (.loop 0) s.h) r.c.e.upd⟩ a.tmps w3:=⟨A3.ok,R2.sz,λt p hl=>A3.ext.p (R2.tmp t p hl)⟩;obtain ⟨o1,o2,o⟩:=A3.ext.oth lid _ K rfl;obtain ⟨b,rr,p1,p2,p3,p4⟩:=R3.obj lid _ hst;rw [o1,hβ0] at p1;simp only [Value.func.injEq,Fn.yield.injEq,and_true] at p1;subst p1;rw [o2,J] at p4;have S:=run_endLoop (P:=E.P) p3 (by rw [p4];dsimp only;split<;>simp);have hpend:rr.pending=ac2 r.jump st:=by rw [p4]
   obtain ⟨R4,T⟩:=br0 R3 (ids:=[lid]) (W3 w3 p2) (w':=w3.putObj wa.heap.size (.loop { rr with state:=.exhausted })) (λb B hno=>World.putObj_heap_other (λe=>by
    subst e;refine hno lid (by simp) _ hst rfl ?_;rw [o1,hβ0];rfl))
   generalize w3.putObj wa.heap.size (.loop { rr with state:=.exhausted })=w4 at S R4;rw [hpend] at S;refine ⟨_,w4,S,?_⟩;unfold bo4 at x;unfold ac2;split at x
   .rename_i hj;obtain ⟨h0,hq⟩:=x;rw [if_pos h0];exact q (way:=.normal) rfl hq R4 T
   .rename_i hj;by_cases h0:st=0
    .rw [if_pos h0];exact q (way:=.normal) rfl (x.1 h0) R4 T
    .rw [if_neg h0];rw [hj];exact wpIn_ret (q (way:=.ret) rfl (x.2 h0).2 R4 T)
   .rename_i id hj;by_cases h0:st=0
    .rw [if_pos h0];exact q (way:=.normal) rfl (x.1 h0) R4 T
    .rw [if_neg h0];rw [hj];exact wpIn_exit (q (way:=.exit id) rfl (x.2 h0).2 R4 T)
   .exact x.elim
end
end Go.VT
end
section
namespace Go.VT
noncomputable section
open Go.RowKit
variable {U:Univ} {E:Env U} {n:Nat} {s:St U} {tmps:Array Value} {h:Obs U}
theorem bG7 {Y:Fr} (hE:E.Fits) (hG:E.Sound Y) (O:E.yl=[]) (hm:E.P.follows .mixedOrders=true) (X:Nat) (L:Nat->St U->Ann U):∀ (c:Code) (k:Nat) (s:St U) (Q':Way U->St U->Prop),J7 n c=true->wpc E X L c k s Q'->
  ∀ (F:Fr) (β:Nm) (a:Act) (w:World),F.G=E.G->Rel F n β s a.tmps w->OptIn (λ_=>False) s.σ->∀ Q:Exit->Act->World->Prop,bq9 F n a.defers Q' Q->c.wpIn (fen E.P none) 0 E.P Q a w:=by
 have base:∀ (c:Code) (k:Nat) (s:St U) (Q':Way U->St U->Prop),J7 n c=true->noRF c=true->wpc E X L c k s Q'->
   ∀ (F:Fr) (β:Nm) (a:Act) (w:World),F.G=E.G->Rel F n β s a.tmps w->OptIn (λ_=>False) s.σ->∀ Q:Exit->Act->World->Prop,bq9 F n a.defers Q' Q->c.wpIn (fen E.P none) 0 E.P Q a w:=by
  intro c k s Q' ok nr h F β a w j R q Q m;exact J2 (ro:=none) hE hG (λh=>absurd O h) j hm X L c k s Q' ok nr h β a w R q Q (λway e s' β' a' w' h1 h2 h3 h4 h5=>m F way e s' β' a' w' h1 h2 h3 h4 (h5▸.refl))
 intro c
 induction c with
 |skip=>intro k s Q' ok h;exact base _ k s Q' ok rfl h
 |region id ops d=>intro k s Q' ok h;exact base _ k s Q' ok rfl h
 |exit id=>intro k s Q' ok h;exact base _ k s Q' ok rfl h
 |ret=>intro k s Q' ok h;exact base _ k s Q' ok rfl h
 |label l=>intro k s Q' ok h;exact base _ k s Q' ok rfl h
 |goto l=>intro k s Q' ok h;exact base _ k s Q' ok rfl h
 |scope c ih=>
  intro k s Q' ok h F β a w j R q Q m;refine ar6 (ih k s Q' ok h F β a w j R q _ (λF1 way e s' β' a' w' o h1 R' i y=>?_));have N:=m F1 way e s' β' a' w' o h1 R' i y;cases way with
  |normal=>have f:e=.normal:=o;subst f;exact N
  |ret=>have f:e=.ret:=o;subst f;exact N
  |exit id=>have f:e=.exit id:=o;subst f;exact N
  |panic v=>obtain ⟨u,h2,rfl⟩:=o;exact N
 |refuse w=>intro k s Q' ok h;exact base _ k s Q' ok rfl h
 |loop c ih=>
  intro k s Q' ok h;cases nr:noRF c with
  |true=>exact base _ k s Q' ok nr h
  |false=>
  intro F β a w j R q Q m;simp only [wpc] at h;generalize L k s=A at h;obtain ⟨β,R,q⟩:=N3 (l:=A.nils) R q;generalize S7 s A.nils=s at h R q;obtain ⟨⟨p0,S⟩,z⟩:=h;obtain ⟨D,V⟩:=ao6 S;obtain ⟨R0,I⟩:=ah1 R (Q6 s c A) (keys s.h);generalize hs0:s.keep (Q6 s c A) (keys s.h)=s0 at D z R0 I;refine aM0 (E:=E) (α:=Dens U.T A.tys) (λp a' w'=>∃ F1 β',Later (U:=U) F a.defers F1 a'.defers/\Rel F1 n β' (at8 s0 A.at_ (A7 U A.tys p)) a'.tmps w'/\OptIn (λ_=>False) (at8 s0 A.at_ (A7 U A.tys p)).σ/\A.inv p) A.μ (p0:=p0) ⟨F,β,.refl,by rw [<-D];exact R0,by rw [<-D];exact I,V⟩ ?_;rintro p a1 w1 ⟨F1,β1,B,R1,W,Z⟩;refine ih (k+1) _ _ ok (z p Z) F1 β1 a1 w1 (B.G.trans j) R1 W _ (λF2 way e s' β' a' w' o h1 R' i y=>?_);cases way with
  |normal=>have f:e=.normal:=o;subst f;obtain ⟨p',f⟩:=h1;obtain ⟨J,hi',hμ⟩:=ao6 f;obtain ⟨β',R',i⟩:=N3 (l:=ca6 A.nils) R' i;obtain ⟨R2,hO2⟩:=ah1 R' (Q6 s c A) (keys s.h);exact ⟨p',⟨F2,β',B.trans y,by rw [<-J];exact R2,by rw [<-J];exact hO2,hi'⟩,hμ⟩
  |exit id=>have f:e=.exit id:=o;subst f;exact m F2 (.exit id) _ s' β' a' w' rfl h1 R' i (B.trans y)
  |ret=>have f:e=.ret:=o;subst f;exact m F2 .ret _ s' β' a' w' rfl h1 R' i (B.trans y)
  |panic v=>obtain ⟨u,h2,rfl⟩:=o;exact m F2 (.panic v) _ s' β' a' w' ⟨u,h2,rfl⟩ h1 R' i (B.trans y)
 |seq c d ihc ihd=>
  intro k s Q' ok h F β a w j R q Q m;simp only [J7,cn7] at ok;refine wpIn_seq (ihc k s _ ok.1 h F β a w j R q _ (λF1 way e s' β' a' w' o h1 R' i y=>?_));cases way with
  |normal=>have o:e=.normal:=o;subst o;exact ihd _ s' Q' ok.2 h1 F1 β' a' w' (y.G.trans j) R' i Q (λF2 way2 e2 s2 β2 a2 w2 q0 q1 q2 q3 q4=>m F2 way2 e2 s2 β2 a2 w2 q0 q1 q2 q3 (y.trans q4))
  |exit id=>have f:e=.exit id:=o;subst f;exact m F1 (.exit id) _ s' β' a' w' rfl h1 R' i y
  |ret=>have f:e=.ret:=o;subst f;exact m F1 .ret _ s' β' a' w' rfl h1 R' i y
  |panic v=>obtain ⟨u,h2,rfl⟩:=o;exact m F1 (.panic v) _ s' β' a' w' ⟨u,h2,rfl⟩ h1 R' i y
 |cond x c d ihc ihd=>
  intro k s Q' ok h;cases nr:noRF (.cond x c d) with
  |true=>exact base _ k s Q' ok nr h
  |false=>
  intro F β a w j R q Q m;simp only [J7,cn7] at ok;have hs:P0 (.cond x c d)=false:=by
   cases hs:P0 (.cond x c d) with
   |false=>rfl
   |true=>rw [M7 hs] at nr;cases nr
  simp only [wpc,hs,Bool.and_false,cond_false] at h;split at h
  .rename_i t ht;have K:=S4 R x;rw [ht] at K;exact wpIn_cond_split K.bool (λM=>ihc k s Q' ok.1 (h.1 M) F β a w j R q Q m) (λM=>ihd _ s Q' ok.2 (h.2 M) F β a w j R q Q m)
  .exact h.elim
 |block id c ihc=>
  intro k s Q' ok h F β a w j R q Q m;refine wpIn_block (ihc k s _ ok h F β a w j R q _ (λF1 way e s' β' a' w' o h1 R' i y=>?_));cases way with
  |normal=>have f:e=.normal:=o;subst f;exact m F1 .normal _ s' β' a' w' rfl h1 R' i y
  |ret=>have f:e=.ret:=o;subst f;exact m F1 .ret _ s' β' a' w' rfl h1 R' i y
  |panic v=>obtain ⟨u,h2,rfl⟩:=o;exact m F1 (.panic v) _ s' β' a' w' ⟨u,h2,rfl⟩ h1 R' i y
  |exit id'=>
   have f:e=.exit id':=o;subst f;simp only at h1;show if id'=id then Q .normal a' w' else Q (.exit id') a' w';by_cases C:id'=id
   .rw [if_pos C];rw [if_pos (by rw [C];exact Nat.beq_refl id)] at h1;exact m F1 .normal _ s' β' a' w' rfl h1 R' i y
   .rw [if_neg C];rw [if_neg (by rw [N0 C];simp)] at h1;exact m F1 (.exit id') _ s' β' a' w' rfl h1 R' i y
 |rangeFunc g ps asg body iha ihb=>
  intro k s Q' ok h F β a w j R q Q m;simp only [J7,cn7,cq4] at ok;simp only [wpc] at h;obtain ⟨β,R,q⟩:=N3 (l:=(L (k+(Z8 asg+Z8 body)) s).nils) R q;generalize S7 s (L (k+(Z8 asg+Z8 body)) s).nils=s at h R q;split at h
  case h_2=>exact h.elim
  rename_i r hr;obtain ⟨h1,h2,h3⟩:=h;refine ba3 hE hG j hm hr (λt ht=>cp7 (ok.1.1 t ht)) ok.1.2 ok.2 R q h1 h2 (Q':=Q') (λb v hp M=>?_) (λhno=>?_) m
  .rw [hp] at h3;exact h3.1 M
  .split at h3
   .rename_i b v hp;have h4:=h3.2 (hno b v hp);split at h4
    .rename_i st H;exact ⟨st,H,h4⟩
    .exact h4.elim
   .split at h3
    .rename_i st H;exact ⟨st,H,h3⟩
    .exact h3.elim
theorem Sh.trans {w w1 c:World} {β β1 β2:Nm} {h h1 h2:Obs U} (x:Sh w β h w1 β1 h1) (y:Sh w1 β1 h1 c β2 h2):Sh w β h c β2 h2:=
 ⟨λid o hl=>by
   obtain ⟨e,f,g⟩:=x.obj id o hl;obtain ⟨i,j,k⟩:=y.obj id o e;exact ⟨i,j.trans f,k.trans g⟩,Nat.le_trans x.size y.size,λb a d=>by
   have:=x.size;rw [y.heap b (by omega) (λhl=>d (x.live b a hl)),x.heap b a d],λb a hl=>x.live b a (y.live b (Nat.lt_of_lt_of_le a x.size) hl)⟩
theorem bv7 {F:Fr} {wa wb w':World} {β βa:Nm} {u h:Obs U} {r:Nat} (n:Ok F wa βa u) (c:Below F.B F.w0 wb) (f:∀ b,b<F.w0.heap.size->¬ F.K b->wb.heap[b]? =F.w0.heap[b]?) (p:F.B<=r) (s:F.w0.heap.size<=r) (hr:r<wb.heap.size) (k:Ok (F.shut wb (·=r)) w' β h) (o:Obj):
  Ok F (w'.putObj r o) ⟨β.v,F.M,β.lp⟩ h/\Sh w' β h (w'.putObj r o) ⟨β.v,F.M,β.lp⟩ h:=by
 have g:β.M r:=by rw [k.Meq];exact .inr rfl
 have i:∀ b,F.M b->β.M b:=λb a=>by rw [k.Meq];exact .inl a
 have q:∀ id o b,look id h=some o->Has (β id) b->b≠r:=λid o b j l e=>k.Mo id o b j l (by rw [e];exact g);have m:Sh w' β h (w'.putObj r o) ⟨β.v,F.M,β.lp⟩ h:=⟨λid o hl=>⟨hl,rfl,rfl⟩,by simp,λb _ s=>World.putObj_heap_other (λe=>s (.inl (by rw [e];exact g))),λb _ hl=>hl.imp (i b) (λh=>h)⟩;refine ⟨⟨(c.trans k.bel).trans (W3 w' p),by have:=k.hB;have h1:F.B<=w'.heap.size:=this;simpa using h1,λid o' hl=>m.o hl (λb a=>World.putObj_heap_other (q id o' b hl a)) (k.obj id o' hl),k.dis,λb a t=>?_,λid o' b j l=>?_,λid o' b j l hm=>k.Mo id o' b j l (i b hm),λb a=>n.Mlt b (by rw [n.Meq];exact a),rfl,k.fix,k.nmg,n.glo⟩,m⟩
 .rw [World.putObj_heap_other (by omega),<-f b a t];refine k.frm b (Nat.lt_of_lt_of_le a c.size) ?_;rintro ⟨d|d,_⟩
  .exact t d
  .omega
 .rcases k.own id o' b j l with d|d
  .exact d.1
  .right;have d:wb.heap.size<=b:=d;have:=c.size;omega
theorem Later.leave {F F1:Fr} {ds ds1:List Deferred} (x:Later (U:=U) F ds F1 ds1) {G:Fence} {P:Program} {fn:Func} {tmps:Array Value} {R:Ending->World->Prop} {u:FrameMode} (e:u≠.run):∀ {w':World} {β':Nm} {h':Obs U},Ok F1 w' β' h'->
  (∀ w'' β'',Ok F w'' β'' h'->Sh w' β' h' w'' β'' h'->LeavesInM G 0 P fn tmps R ds u w'')->LeavesInM G 0 P fn tmps R ds1 u w':=by
 induction x with
 |refl=>intro w' β' h' k a;exact a w' β' k ⟨λid o hl=>⟨hl,rfl,rfl⟩,Nat.le_refl _,λ_ _ _=>rfl,λ_ _ h=>h⟩
 |step F1 ds1 w0 wa β0 h0 r y c d hf b f hr g ih=>intro w' β' h' k a;obtain ⟨_,_,i⟩:=ba1 c d hf k;obtain ⟨j,n⟩:=i r rfl hr;obtain ⟨l,sh1⟩:=bv7 c d hf b f hr k (.deferred none);refine ⟨e,.inl ⟨r,_,rfl,run_takeDeferred (j.trans g),?_⟩⟩;exact ih l (λw'' β'' m sh2=>a w'' β'' m (sh1.trans sh2))
end
end Go.VT
end
section
namespace Go.VT
noncomputable section
open Go.RowKit
variable {U:Univ} {E:Env U} {F:Fr} {n:Nat} {β:Nm} {s:St U} {a:Act} {tmps:Array Value} {w:World} {h:Obs U}
theorem aE8 {Y:Fr} (V:E.Fits) (W:E.Sound Y) (hm:E.P.follows .mixedOrders=true) {f:FuncId} {fn:Func} (hf:E.P.funcs[f]? =some fn) {k:Con U} {xs:Dens U.T k.params} (L:Nat->St U->Ann U) (h:vc E L fn k xs) (H:k.yl=E.yl):
  bg2 Y (runF E.P f) E.G k xs:=by
 intro F X β w us vs m q K hnm r x d;unfold vc at h;split at h
 case h_2=>exact h.elim
 rename_i b hb;simp only [co7] at h;split at h
 case isFalse=>exact h.elim
 rename_i c;simp only [cn7] at c;have I:=cp7 c.1.2;have h:=ab0 h (aE6 K x);have hvl:=P7 d;have J:(fen E.P none).fn f:=by show (E.P.funcs[f]?).isSome=true;rw [hf];rfl
 refine callsIn_of_wp_marks hf hb J ?_;have M:(vs.toArray++Array.replicate (fn.ntmps-vs.toArray.size) undef).size=fn.ntmps:=by simp;omega
 have a:∀ t p,look t (St.init k (A7 U k.params xs)).σ=some p->PRel w β (E3 (A7 U k.params xs) k.oin) (St.init k (A7 U k.params xs)).σ p ((vs.toArray++Array.replicate (fn.ntmps-vs.toArray.size) undef).getD t undef)/\p.plain=true:=by
  intro t p hl;obtain ⟨v,h2,h3,h4⟩:=bG2 (σ:=(St.init k (A7 U k.params xs)).σ) d x hl;refine ⟨?_,h4⟩;have N:t<vs.length:=(cn9.1 h2).1;have:(vs.toArray++Array.replicate (fn.ntmps-vs.toArray.size) undef).getD t undef=v:=by rw [Array.getD_eq_getD_getElem?,Array.getElem?_append_left (by simpa using N)];simp [h2]
  rw [this];exact h3
 have R:Rel F fn.ntmps β (St.init k (A7 U k.params xs)) (vs.toArray++Array.replicate (fn.ntmps-vs.toArray.size) undef) w:=⟨K,M,λt p hl=>(a t p hl).1⟩;have Z:OptIn (λ_=>False) (St.init k (A7 U k.params xs)).σ:=by intro t gs p hl;have:=(a t _ hl).2;simp [PV.plain] at this
 --what comes at the end
 have i:bq9 F fn.ntmps [] (λe s=>match e with
   | .exit _=>Bad 3002 0
   | .panic v=>bD0 k xs v
   |_=>post E.P fn k xs s) (bodyPostM (fen E.P none) 0 E.P fn (λe w'=>match e with
   | .returned v=>(∀ b,k.bad=some b->(b xs).1=false)/\∃ β' rs,Ok F w' β' (E3 (A7 U k.tys (k.fn xs)) k.oout)/\aa2 k.res rs v/\
     CsRel w' β' (E3 (A7 U k.tys (k.fn xs)) k.oout) (k.rout.map (iC (A7 U k.tys (k.fn xs)) oid (λ_=>0))) rs
   | .panicked ch=>∃ b u,k.bad=some b/\(b xs).1=true/\ch=[{ v:=u,recovered:=false }]/\an7 (b xs).2 u/\Below F.B w w'/\∀ b,b<w.heap.size->¬ F.K b->w'.heap[b]? =w.heap[b]?
   | .outgrown=>False)):=by
  intro F1 way e s' β' a' w' O g R' hO' j;have l:post E.P fn k xs s'->LeavesInM (fen E.P none) 0 E.P fn a'.tmps (λe w'=>match e with
   | .returned v=>(∀ b,k.bad=some b->(b xs).1=false)/\∃ β' rs,Ok F w' β' (E3 (A7 U k.tys (k.fn xs)) k.oout)/\aa2 k.res rs v/\
     CsRel w' β' (E3 (A7 U k.tys (k.fn xs)) k.oout) (k.rout.map (iC (A7 U k.tys (k.fn xs)) oid (λ_=>0))) rs
   | .panicked ch=>∃ b u,k.bad=some b/\(b xs).1=true/\ch=[{ v:=u,recovered:=false }]/\an7 (b xs).2 u/\Below F.B w w'/\∀ b,b<w.heap.size->¬ F.K b->w'.heap[b]? =w.heap[b]?
   | .outgrown=>False) a'.defers .returning w':=by
   intro g;refine j.leave (by simp) R'.ok (λw'' β'' D sh2=>?_);have R2:Rel F fn.ntmps β'' s' a'.tmps w'':=⟨D,R'.sz,λt p hl=>sh2.p (R'.tmp t p hl)⟩;obtain ⟨v,y,n⟩:=bv4 (E:=E) g R2 r;exact ⟨v,y,n⟩
  cases way with
  |exit id=>exact g.elim
  |normal=>have o:e=.normal:=O;subst o;exact l g
  |ret=>have o:e=.ret:=O;subst o;exact l g
  |panic pv=>
   obtain ⟨u,Q,rfl⟩:=O;refine j.leave (by simp) R'.ok (λw'' β'' D sh2=>?_);simp only [bD0] at g;split at g
   .exact g.elim
   .rename_i bb S;have:=aM3 g.2;refine ⟨bb,u,S,g.1,rfl,by rw [this];exact Q,?_,?_⟩
    .have:=D.bel;rw [m] at this;exact this
    .intro blk z hK;have:=D.frm blk (by rw [m];exact z) hK;rw [m] at this;exact this
 rw [H] at X;cases A:noRF b with
 |false=>
  rw [A] at c;have C:E.yl=[]:=by simpa using c.2
  exact bG7 V W C hm _ L b 0 _ _ c.1.1 h F _ { tmps:=vs.toArray++Array.replicate (fn.ntmps-vs.toArray.size) undef,defers:=[] } w q R Z _ i
 |true=>exact J2 (ro:=none) V W X q hm _ L b 0 _ _ c.1.1 A h _ { tmps:=vs.toArray++Array.replicate (fn.ntmps-vs.toArray.size) undef,defers:=[] } w R Z _ (λway e s' β' a' w' h1 h2 h3 h4 h5=>i F way e s' β' a' w' h1 h2 h3 h4 (by rw [h5];exact .refl))
theorem ah3 {Y:Fr} (b:E.Fits) (c:E.Sound Y) (hm:E.P.follows .mixedOrders=true) {f:FuncId} {fn:Func} (hf:E.P.funcs[f]? =some fn) (d:(fn.name=="runtime.NumGoroutine")=false) {k:Con U}
  (L:Dens U.T k.params->Nat->St U->Ann U) (h:∀ xs,holds (k.pre.map λp=>p xs)->vc E (L xs) fn k xs) (e:fn.body.isNone=false) (a:k.yl=E.yl):ab9 Y E.P E.G f k:=
 ⟨⟨fn,hf,d,e⟩,λxs g=>aE8 b c hm hf (L xs) (h xs g) a⟩
def Con.below (k:Con U) (m:Dens U.T k.params->Nat) (N:Nat):Con U:={ k with pre:=some λys=>holds (k.pre.map λp=>p ys)/\m ys<N }
def Env.set (E:Env U) (f:FuncId) (k:Con U):Env U:={ E with con:=λg=>bif Nat.beq g f then [k] else E.con g }
theorem ba4 {Y:Fr} (n:E.Fits) (c:E.Sound Y) (hm:E.P.follows .mixedOrders=true) {f:FuncId} {fn:Func} (hf:E.P.funcs[f]? =some fn) (o:(fn.name=="runtime.NumGoroutine")=false) {k:Con U}
  (m:Dens U.T k.params->Nat) (L:Dens U.T k.params->Nat->St U->Ann U) (h:∀ xs,holds (k.pre.map λp=>p xs)->vc (E.set f (k.below m (m xs))) (L xs) fn k xs) (q:fn.body.isNone=false) (e:k.yl=E.yl):ab9 Y E.P E.G f k:=by
 have d:Enters E.P f:=⟨fn,hf,o,q⟩;refine ⟨d,?_⟩;have key:∀ N xs,m xs<N->holds (k.pre.map λp=>p xs)->bg2 Y (runF E.P f) E.G k xs:=by
  intro N
  induction N with
  |zero=>intro xs j;omega
  |succ N ih=>
   intro xs j i;refine aE8 (E:=E.set f (k.below m (m xs))) ⟨n.code⟩ ⟨λg k' a=>?_,c.tab,c.inv,c.y,c.it⟩ hm hf (L xs) (h xs i) e;simp only [Env.set] at a;revert a;cases b:Nat.beq g f with
   |false=>intro a;exact c.con g k' a
   |true=>intro a;have b:=cn5 b;subst b;simp only [cond_true,co5] at a;subst a;exact ⟨d,λys l=>ih ys (Nat.lt_of_lt_of_le l.2 (Nat.le_of_lt_succ j)) l.1⟩
 exact λxs i=>key (m xs+1) xs (Nat.lt_succ_self _) i
end
end Go.VT
end
section
namespace Go.VT
noncomputable section
variable {U:Univ}
def zOk:Datum U->Value->Bool
 |⟨.int k,n⟩,.int k' m=>decide (k=k')&&decide ((n:Int)=m)
 |⟨.bool,b⟩,.bool c=>(b:Bool)==c
 |⟨.slice _ _,l⟩,.slice none 0 0=>List.isEmpty l
 |_,_=>false
theorem cc0 {d:Datum U} {v:Value} (h:zOk d v=true) (w:World) (M:Nat->Prop):Rep U w M d v:=by
 unfold zOk at h;split at h
 .rename_i k n k' m;simp only [cn7,cp6] at h;obtain ⟨rfl,rfl⟩:=h;exact .int _ _
 .simp only [beq_iff_eq] at h;subst h;exact .bool _
 .rename_i e t l;have:l=[]:=by simpa using h
  subst this;exact .nil _ _ _ _
 .cases h
def zsOk:List (Datum U)->List Value->Bool
 |[],_=>true
 |d::ds,v::vs=>zOk d v&&zsOk ds vs
 |_,_=>false
theorem br1:∀ {ds:List (Datum U)} {vs:List Value},zsOk ds vs=true->∀ (j:Nat) (d:Datum U),ds[j]? =some d->∃ u,vs[j]? =some u/\zOk d u=true
 |[],_,_,j,d,a=>by simp at a
 |_::_,[],h,_,_,_=>by simp [zsOk] at h
 |x::ds,v::vs,h,j,d,a=>by
  simp only [zsOk,cn7] at h
  match j,a with
  |0,a=>simp only [co2,cn4] at a;subst a;exact ⟨v,rfl,h.1⟩
  |j+1,a=>exact br1 h.2 j d (by simpa using a)
def bG8 (P:Program) (e:TypeId) (t:Ty):Bool:=
 match P.info? e with
 |some i=>match i.zero with
  |some z=>Nat.beq i.size (szOf U t)&&Nat.beq z.cells.size i.size&&Nat.blt 0 (szOf U t)&&Nat.blt 0 i.bytes&&z.cells.toList.all (·.oneCell')&&zsOk (B1 U t (dfl U t)) z.cells.toList
  |none=>false
 |none=>false
theorem bv8 {P:Program} {e:TypeId} {t:Ty} (h:bG8 (U:=U) P e t=true):∃ i z,P.info? e=some i/\i.size=szOf U t/\i.zero=some z/\z.cells.size=i.size/\0<szOf U t/\0<i.bytes/\(∀ u∈z.cells.toList,u.oneCell'=true)/\
  ∀ (j:Nat) (d:Datum U),(B1 U t (dfl U t))[j]? =some d->∃ u,z.cells[j]? =some u/\∀ (w:World) (M:Nat->Prop),Rep U w M d u:=by
 unfold bG8 at h;split at h
 .rename_i i b;split at h
  .rename_i z a;simp only [cn7] at h;obtain ⟨⟨⟨⟨⟨h1,h2⟩,h3⟩,h4⟩,c⟩,f⟩:=h;refine ⟨i,z,b,cn5 h1,a,cn5 h2,cp7 h3,cp7 h4,cq4.1 c,λj d g=>?_⟩;obtain ⟨u,k,a⟩:=br1 f j d g;exact ⟨u,by rw [<-Array.getElem?_toList];exact k,λw M=>cc0 a w M⟩
  .cases h
 .cases h
def aR9 (l:List (TypeId×Ty)) (e:TypeId):Option Ty:=look e l
theorem bh7 {P:Program} {l:List (TypeId×Ty)} {con:FuncId->List (Con U)} {G:List (Nat×Glob)} {tab:List FuncId->Int->List (Con U)} {inv:Nat->String->List (Con U)} {yl:List (Nat×Nat)} {Y:Option (Con U)} {it:FuncId->List (Con U×Con U×List (Nat×Nat))} {mg:Bool} {dp:List (TypeId×List Nat)} (h:l.all (λx=>bG8 (U:=U) P x.1 x.2)=true):(⟨P,aR9 l,con,G,tab,inv,yl,Y,it,mg,dp⟩:Env U).Fits:=by
 refine ⟨λe t c=>bv8 ?_⟩;have:∀ {l:List (TypeId×Ty)},l.all (λx=>bG8 (U:=U) P x.1 x.2)=true->look e l=some t->bG8 (U:=U) P e t=true:=by
  intro l
  induction l with
  |nil=>intro _ h;simp [look] at h
  |cons x r ih=>
   intro a hl;obtain ⟨j,y⟩:=x;simp only [List.all_cons,cn7] at a;simp only [look] at hl;split at hl
   .rename_i b;have b:=cn5 b;subst b;simp only [cn4] at hl;subst hl;exact a.1
   .exact ih a.2 hl
 exact this h c
def ao7:List (FuncId×Con U)->FuncId->List (Con U)
 |[],_=>[]
 |(g,k)::r,f=>bif Nat.beq g f then k::ao7 r f else ao7 r f
theorem W4 {Y:Fr} {P:Program} {G:List (Nat×Glob)}:∀ {l:List (FuncId×Con U)},(∀ x∈l,ab9 Y P G x.1 x.2)->∀ f k,k∈ao7 l f->ab9 Y P G f k
 |[],_,f,k,a=>by simp [ao7] at a
 |(g,y)::r,h,f,k,a=>by
  have more:k∈ao7 r f->ab9 Y P G f k:=W4 (l:=r) (λx c=>h x (by simp [c])) f k;simp only [ao7] at a;revert a;cases b:Nat.beq g f with
  |false=>intro a;exact more a
  |true=>
   intro a;have b:=cn5 b;subst b;simp only [cond_true,List.mem_cons] at a;rcases a with a|a
   .subst a;exact h (g,k) (by simp)
   .exact more a
def ab1:Nat->Nat->List CPat
 |_,0=>[]
 |i,n+1=>.d i::ab1 (i+1) n
def bG9:List Bool->Nat->Nat->List CPat
 |[],_,_=>[]
 |true::r,i,j=>.row j::bG9 r (i+1) (j+1)
 |false::r,i,j=>.d i::bG9 r (i+1) j
def br2:List Bool->Nat->List OPat
 |[],_=>[]
 |true::r,i=>.row i::br2 r (i+1)
 |false::r,i=>br2 r (i+1)
def Con.flat (args:List (Bool×Nat)) (params:List Ty) (res:List (Bool×Nat)) (tys:List Ty) (own:List Bool) (pre:Option (Dens U.T params->Prop)) (fn:Dens U.T params->Dens U.T tys):Con U:=
 ⟨args,params,ab1 0 params.length,[],pre,none,res,tys,bG9 own 0 0,br2 own 0,fn,[],[],[]⟩
def St.intAt (s:St U) (j:Nat):Int:=match look j s.σ with
 |some (.one (.d ⟨.int _,x⟩))=>x
 |_=>0
theorem av3:∀ {n i j:Nat},j<n->(ab1 i n)[j]? =some (CPat.d (i+j))
 |0,_,_,h=>absurd h (Nat.not_lt_zero _)
 |n+1,i,0,_=>rfl
 |n+1,i,j+1,h=>by rw [ab1,List.getElem?_cons_succ,av3 (by omega)];congr 2;omega
theorem ae0:∀ {n i:Nat},(ab1 i n).length=n
 |0,_=>rfl
 |n+1,i=>by rw [ab1,cp0,ae0]
end
end Go.VT
end
