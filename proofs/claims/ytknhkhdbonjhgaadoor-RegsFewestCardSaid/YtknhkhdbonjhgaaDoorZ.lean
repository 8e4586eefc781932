/-
RegsFewest returns true for any numbers l and n, in whatever memory and on every schedule: no way of keeping at most so many registers at hand has fewer loads than the allocation, all ways tried, for the function that l makes, of at most six instructions and eight registers.
-/
import Derived.Test.YtknhkhdbonjhgaaDoorV5
import Derived.Test.YtknhkhdbonjhgaaDoorCards
import Derived.Test.YtknhkhdbonjhgaaDoorTie
import Derived.SevenTiedAt
set_option linter.unusedVariables false
set_option linter.unusedSimpArgs false
set_option linter.unnecessarySimpa false
set_option maxRecDepth 100000
noncomputable section
section
namespace Go.Rg
open Go Go.VT
def inM (names:List Int) (m:Nat) (x:Int):Prop:=x∈names/\m.testBit (D5 names x).toNat=true
theorem bY5 {names:List Int} {x y:Int} (a:x∈names) (b:y∈names) (h:(D5 names x).toNat=(D5 names y).toNat):x=y:=by rw [<-aJ6 a,<-aJ6 b,h]
theorem mask_bit (names:List Int) (i:Nat):∀ (l:List Int) (s:Nat),(l.foldl (λs x=>s|||2 ^ (D5 names x).toNat) s).testBit i=(s.testBit i||l.any λx=>decide ((D5 names x).toNat=i))
 |[],s=>by simp
 |x::r,s=>by rw [List.foldl_cons,mask_bit names i r,Nat.testBit_or,Nat.testBit_two_pow,List.any_cons,Bool.or_assoc]
theorem ay1 {names l:List Int} (h:∀ x∈l,x∈names) (x:Int):inM names (F9 names l) x<->x∈l:=by
 unfold inM F9;rw [mask_bit];simp only [Nat.zero_testBit,Bool.false_or,List.any_eq_true,cB2];constructor
 .rintro ⟨a,y,b,c⟩;rw [<-bY5 (h y b) a c];exact b
 .exact λa=>⟨h x a,x,a,rfl⟩
theorem bK1 {names l m:List Int} (h:∀ x,x∈l<->x∈m):F9 names l=F9 names m:=by apply Nat.eq_of_testBit_eq;intro i;unfold F9;rw [mask_bit,mask_bit];congr 1;rw [Bool.eq_iff_iff,List.any_eq_true,List.any_eq_true];exact ⟨λ⟨x,a,b⟩=>⟨x,(h x).1 a,b⟩,λ⟨x,a,b⟩=>⟨x,(h x).2 a,b⟩⟩
section
variable {names:List Int}
theorem aN8 (b:names.Nodup) {i:Nat} (a:i<names.length):names.getD i 0∈names/\(D5 names (names.getD i 0)).toNat=i:=by
 have h:names[i]? =some (names.getD i 0):=by rw [cA4,cz2 a];rfl
 rw [bk7 b h];exact ⟨E7 a 0,by omega⟩
theorem bu3 {m i:Nat} (hm:m<2 ^ names.length) (a:names.length<=i):m.testBit i=false:=Nat.testBit_lt_two_pow (Nat.lt_of_lt_of_le hm (Nat.pow_le_pow_right (by omega) a))
def lst (names:List Int) (m:Nat):List Int:=((List.range names.length).filter λi=>m.testBit i).map λi=>names.getD i 0
theorem bu4 (c:names.Nodup) {m:Nat} {x:Int}:x∈lst names m<->inM names m x:=by
 unfold lst inM;rw [List.mem_map];constructor
 .rintro ⟨i,a,rfl⟩;rw [List.mem_filter,List.mem_range] at a;obtain ⟨h1,h2⟩:=aN8 c a.1;exact ⟨h1,by rw [h2];exact a.2⟩
 .rintro ⟨b,d⟩;refine ⟨(D5 names x).toNat,List.mem_filter.2 ⟨?_,d⟩,aJ6 b⟩;have h1:=aX5 (l:=names) (n:=x);have h2:=ah7.2 b;rw [List.mem_range];omega
theorem bl9 (b:names.Nodup) (m:Nat):(lst names m).Nodup:=by unfold lst;rw [List.nodup_iff_pairwise_ne,List.pairwise_map];refine List.Pairwise.imp_of_mem ?_ (List.nodup_iff_pairwise_ne.1 (List.nodup_range.filter _));intro i j c d a e;rw [List.mem_filter,List.mem_range] at c d;have h1:=(aN8 b c.1).2;have h2:=(aN8 b d.1).2;rw [e,h2] at h1;exact a h1.symm
theorem au9 (s:Nat):∀ k,aa5 s k=((List.range k).filter λi=>s.testBit i).length
 |0=>rfl
 |k+1=>by rw [ae8,au9 s k,List.range_succ,List.filter_append,cB1];cases h:s.testBit k<;>simp [h]
theorem bA9 (a:names.length<=8) {m:Nat} (hm:m<2 ^ names.length):Y2 m=(lst names m).length:=by
 have h:∀ j,aa5 m (names.length+j)=aa5 m names.length:=by
  intro j
  induction j with
  |zero=>rfl
  |succ j ih=>rw [<-Nat.add_assoc,ae8,ih,bu3 hm (by omega)];rfl
 have h1:=h (20-names.length);rw [show names.length+(20-names.length)=20 from by omega] at h1;unfold Y2 lst;rw [h1,au9,cC1]
theorem bB0 (a:names.Nodup) (d:names.length<=8) {m:Nat} (hm:m<2 ^ names.length) {k:Nat}:Size (inM names m) k<->Y2 m<=k:=by
 rw [bA9 d hm];constructor
 .exact λh=>h _ (bl9 a m) λx b=>(bu4 a).1 b
 .intro h l hl c;have:=ae5 l (lst names m) hl λx b=>(bu4 a).2 (c x b);omega
theorem bm0 (d:names.Nodup) (f:names.length<=8) {q:List Int} (g:q.Nodup) (b:∀ x∈q,x∈names) {old:Nat} (i:old<2 ^ names.length):Y2 (andN (F9 names q) old)=M8 q (inM names old):=by
 classical
 have hm:=aN6 names b;rw [bA9 f (bu0 hm)];have e:M8 q (inM names old)=(q.filter λx=>decide (¬ inM names old x)).length:=by unfold M8;congr
 have key:∀ x,x∈lst names (andN (F9 names q) old)<->x∈q/\¬ inM names old x:=by
  intro x;rw [bu4 d];have h1:=ay1 b x;unfold inM at h1 |-;rw [U7];constructor
  .rintro ⟨a,c⟩;rw [cz3,Bool.not_eq_true'] at c;exact ⟨h1.1 ⟨a,c.1⟩,λh=>by rw [c.2] at h;exact absurd h.2 (by simp)⟩
  .rintro ⟨a,c⟩;obtain ⟨h2,h3⟩:=h1.2 a;refine ⟨h2,?_⟩;rw [h3,Bool.true_and,Bool.not_eq_true',Bool.eq_false_iff];exact λh=>c ⟨h2,h⟩
 have j:=ae5 _ (q.filter λx=>decide (¬ inM names old x)) (bl9 d _) λx a=>by obtain ⟨h1,h2⟩:=(key x).1 a;exact List.mem_filter.2 ⟨h1,decide_eq_true h2⟩
 have k:=ae5 _ (lst names (andN (F9 names q) old)) (g.filter λx=>decide (¬ inM names old x)) λx a=>by rw [List.mem_filter,cB2] at a;exact (key x).2 a
 omega
theorem cj1 {cost:List Int} {batch:Nat} {price:Int} {held:Nat} {old:Nat} (h1:cost.getD old 0<far) (h2:andN held (old|||batch)=0):∀ n,old<n->rowM cost batch price held n<=cost.getD old 0+price*Y2 (andN batch old)
 |0,h=>absurd h (by omega)
 |n+1,h=>by
  rw [aD7];by_cases a:old=n
  .subst a;unfold bt7;rw [decide_eq_true h1,h2];simp only [Bool.true_and,beq_self_eq_true,cond_true];omega
  .have ih:=cj1 (batch:=batch) (price:=price) (held:=held) h1 h2 n (by omega);unfold bt7;cases decide (cost.getD n 0<far)&&(andN held (n|||batch)==0) with
   |false=>exact ih
   |true=>rw [cond_true];omega
theorem bu5 {cost:List Int} {batch:Nat} {price:Int} {held:Nat}:∀ n,rowM cost batch price held n<far->∃ old,old<n/\cost.getD old 0<far/\andN held (old|||batch)=0/\rowM cost batch price held n=cost.getD old 0+price*Y2 (andN batch old)
 |0,h=>absurd h (show ¬ (1048576:Int)<1048576 by decide)
 |n+1,h=>by
  rw [aD7] at h |-;unfold bt7 at h |-;cases hc:decide (cost.getD n 0<far)&&(andN held (n|||batch)==0) with
  |false=>rw [hc,cond_false] at h;obtain ⟨old,h1,h2⟩:=bu5 n h;exact ⟨old,by omega,h2⟩
  |true=>
   rw [hc,cond_true] at h;rw [cond_true];rw [cz3,cB2,beq_iff_eq] at hc;by_cases a:rowM cost batch price held n<=cost.getD n 0+price*Y2 (andN batch n)
   .rw [Int.min_eq_left a] at h |-;obtain ⟨old,h1,h2⟩:=bu5 n h;exact ⟨old,by omega,h2⟩
   .rw [Int.min_eq_right (by omega)];exact ⟨n,by omega,hc.1,hc.2,rfl⟩
def dpB (names:List Int) (k:Int) (bs:Bts) (c:List Int):List Int:=bs.foldl (λc p=>H8 c (F9 names p.2) k (bif p.1 then 1 else 0)) c
theorem bB1 (k:Int):∀ (code:List Ins) (c:List Int),code.foldl (aa6 names k) c=dpB names k (bts code) c
 |[],_=>rfl
 |x::r,c=>by show r.foldl (aa6 names k) (aa6 names k c x)=dpB names k (bts r) (H8 (H8 c (F9 names (B0 x.from_)) k 1) (F9 names x.to) k 0);rw [bK1 (names:=names) (λy=>L4 (l:=x.from_)),<-bB1 k r];rfl
structure NamedB (names:List Int) (bs:Bts):Prop where
 nodup:∀ p∈bs,p.2.Nodup
 mem:∀ p∈bs,∀ x∈p.2,x∈names
theorem cj2 (o:names.Nodup) (r:names.length<=8) {ks:Int} (y:0<=ks):∀ (bs:Bts) {c:List Int},NamedB names bs->bl6 names.length c->∀ m,m<2 ^ names.length->(dpB names ks bs c).getD m 0<far->
  ∃ k,k<2 ^ names.length/\c.getD k 0<far/\∃ w:Nat,Way ks.toNat bs (inM names k) w/\(dpB names ks bs c).getD m 0=c.getD k 0+w
 |[],c,_,_,m,hm,h=>⟨m,hm,h,0,.nil _,by show c.getD m 0=_;omega⟩
 |(b,q)::bs,c,l,s,m,hm,h=>by
  have z:q.Nodup:=l.nodup (b,q) (by simp);have d:∀ x∈q,x∈names:=l.mem (b,q) (by simp);have f:(bif b then (1:Int) else 0)=0\/(bif b then (1:Int) else 0)=1:=by cases b<;>simp
  obtain ⟨t,g,h1,w,A,n⟩:=cj2 o r y bs (c:=H8 c (F9 names q) ks (bif b then 1 else 0)) ⟨λp f=>l.nodup p (by simp [f]),λp f=>l.mem p (by simp [f])⟩ (Y3 s _ _ f) m hm h;rw [ay0 (by rw [s.1];exact g)] at h1 n;unfold entM at h1 n;cases a:okM (F9 names q) ks t with
  |false=>rw [a,cond_false] at h1;exact absurd h1 (by decide)
  |true=>
   rw [a,cond_true] at h1 n;obtain ⟨old,u,v,i,j⟩:=bu5 _ h1;rw [s.1] at u;unfold okM at a;rw [cz3,beq_iff_eq,cB2] at a;refine ⟨old,u,v,_,.cons (b:=b) (T:=inM names t) (λx e=>?_) (λx e=>?_) ((bB0 o r g).2 (by omega)) A,?_⟩
   .refine ⟨d x e,?_⟩;have h2:=((ay1 d x).2 e).2;rw [<-a.1,Nat.testBit_and,cz3] at h2;exact h2.1
   .have h2:(andN t (old|||F9 names q)).testBit (D5 names x).toNat=false:=by rw [i];simp
    rw [U7,e.2,Bool.true_and,Bool.not_eq_false',Nat.testBit_or,Bool.or_eq_true] at h2;rcases h2 with h2|h2
    .exact .inl ⟨e.1,h2⟩
    .exact .inr ((ay1 d x).1 ⟨e.1,h2⟩)
   .show (dpB names ks bs (H8 c (F9 names q) ks (bif b then 1 else 0))).getD m 0=_;rw [n,j,bm0 o r z d u];cases b
    .simp only [cond_false];omega
    .simp only [cond_true];omega
theorem cx6 (n:names.Nodup) (z:names.length<=8) {ks:Int} (N:0<=ks):∀ (bs:Bts) {c:List Int} {w:Nat},NamedB names bs->bl6 names.length c->∀ a,a<2 ^ names.length->Way ks.toNat bs (inM names a) w->c.getD a 0+w<far->
  ∃ m,m<2 ^ names.length/\(dpB names ks bs c).getD m 0<=c.getD a 0+w
 |[],c,w,_,_,a,hm,J,h=>⟨a,hm,by show c.getD a 0<=_;omega⟩
 |(b,q)::bs,c,w,y,A,a,hm,J,h=>by
  classical
  have O:q.Nodup:=y.nodup (b,q) (by simp);have d:∀ x∈q,x∈names:=y.mem (b,q) (by simp);have o:(bif b then (1:Int) else 0)=0\/(bif b then (1:Int) else 0)=1:=by cases b<;>simp
  cases J with
  |@cons _ _ _ _ T w' h1 h2 h3 h4=>
   have B:∀ x,T x->x∈names:=λx g=>(h2 x g).elim (λh=>h.1) (d x);have r:∀ x∈names.filter (λx=>decide (T x)),x∈names:=λx g=>(List.mem_filter.1 g).1;have s:∀ x,inM names (F9 names (names.filter λx=>decide (T x))) x<->T x:=by intro x;rw [ay1 r,List.mem_filter,cB2];exact ⟨λh=>h.2,λh=>⟨B x h,h⟩⟩
   have e:=aN6 names r;obtain ⟨f,t⟩:∃ f,F9 names (names.filter λx=>decide (T x))=f:=⟨_,rfl⟩;rw [t] at s e;obtain ⟨Q,P,u⟩:=h4.mono (S':=inM names f) λx g=>(s x).2 g;have C:okM (F9 names q) ks f=true:=by
    unfold okM;rw [cz3,beq_iff_eq,cB2];refine ⟨Nat.eq_of_testBit_eq λi=>?_,?_⟩
    .rw [Nat.testBit_and];cases j:(F9 names q).testBit i with
     |false=>simp
     |true=>
      have D:i<names.length:=by refine Classical.byContradiction λE=>?_;rw [bu3 (aN6 names d) (by omega)] at j;cases j
      obtain ⟨F,k⟩:=aN8 n D;have G:names.getD i 0∈q:=(ay1 d _).1 ⟨F,by rw [k];exact j⟩;have l:=((s _).2 (h1 _ G)).2;rw [k] at l;rw [l];rfl
    .have:=(bB0 n z e).1 (h3.sub λx g=>(s x).1 g);omega
   have v:andN f (a|||F9 names q)=0:=by
    apply Nat.eq_of_testBit_eq;intro i;rw [U7,Nat.zero_testBit];cases j:f.testBit i with
    |false=>rfl
    |true=>
     have D:i<names.length:=by refine Classical.byContradiction λE=>?_;rw [bu3 e (by omega)] at j;cases j
     obtain ⟨F,k⟩:=aN8 n D;have G:T (names.getD i 0):=(s _).1 ⟨F,by rw [k];exact j⟩;rw [Nat.testBit_or];rcases h2 _ G with l|l
     .have:=l.2;rw [k] at this;rw [this];rfl
     .have:=((ay1 d _).2 l).2;rw [k] at this;rw [this];simp
   have K:(0:Int)<=w':=by omega
   have H:(H8 c (F9 names q) ks (bif b then 1 else 0)).getD f 0<=c.getD a 0+(bif b then 1 else 0)*Y2 (andN (F9 names q) a):=by rw [ay0 (by rw [A.1];exact e)];unfold entM;rw [C,cond_true];refine cj1 ?_ v _ (by rw [A.1];exact hm);omega
   rw [bm0 n z O d hm] at H;have L:(bif b then (1:Int) else 0)*(M8 q (inM names a):Int)=((bif b then M8 q (inM names a) else 0:Nat):Int):=by cases b<;>simp
   obtain ⟨m,I,M⟩:=cx6 n z N bs (c:=H8 c (F9 names q) ks (bif b then 1 else 0)) ⟨λp o=>y.nodup p (by simp [o]),λp o=>y.mem p (by simp [o])⟩ (Y3 A _ _ o) f e u (by omega);refine ⟨m,I,?_⟩;show (dpB names ks bs (H8 c (F9 names q) ks (bif b then 1 else 0))).getD m 0<=_;omega
theorem cj3:∀ (l:List Int) (a:Int),l.foldl min a<=a/\∀ x∈l,l.foldl min a<=x
 |[],a=>⟨Int.le_refl _,by simp⟩
 |y::r,a=>by
  obtain ⟨h1,h2⟩:=cj3 r (min a y);rw [List.foldl_cons];refine ⟨by omega,λx b=>?_⟩;rcases List.mem_cons.1 b with rfl|b
  .omega
  .exact h2 x b
theorem bY6:∀ (l:List Int) (a:Int),l.foldl min a=a\/l.foldl min a∈l
 |[],a=>.inl rfl
 |y::r,a=>by
  rw [List.foldl_cons];rcases bY6 r (min a y) with h|h
  .rw [h,Int.min_def];split
   .exact .inl rfl
   .exact .inr (by simp)
  .exact .inr (List.mem_cons_of_mem _ h)
end
theorem ct8 {b:List Ins} {p:Bool×List Int} (h:p∈bts b):∃ x∈b,p.2=B0 x.from_\/p.2=x.to:=by
 induction b with
 |nil=>simp [bts] at h
 |cons x r ih=>
  simp only [bts,List.mem_cons] at h;rcases h with rfl|rfl|h
  .exact ⟨x,by simp,.inl rfl⟩
  .exact ⟨x,by simp,.inr rfl⟩
  .obtain ⟨y,a,h⟩:=ih h;exact ⟨y,by simp [a],h⟩
theorem bB2 {a:Int} {b:List Ins} {c:List Int} (C:Checked a b c):(E6 a b).Nodup/\∀ x∈b,(∀ n∈x.from_,n∈E6 a b)/\∀ n∈x.to,n∈E6 a b:=by
 have hr:=cx4 C;refine ⟨?_,λx f=>⟨λn d=>?_,λn d=>?_⟩⟩
 .unfold E6;rw [List.nodup_append];refine ⟨?_,E5.1 C.once,λu g v i e=>?_⟩
  .unfold iota List.Nodup;rw [List.pairwise_map];exact (List.nodup_iff_pairwise_ne.1 List.nodup_range).imp λh e=>h (Int.ofNat.inj e)
  .subst e;rw [aD6] at g;have:=C.new u i;have:=C.pos;omega
 .unfold E6;rw [cB7,aD6];rcases (hr x f).2 n d with h|h
  .have:=(C.fromR x f n d).1;exact .inl ⟨this,by omega⟩
  .exact .inr h
 .unfold E6;rw [cB7];exact .inr (aK9.2 ⟨x,f,d⟩)
theorem bY7 {a:Int} {b:List Ins} {c:List Int} {ks:Int} (F:Fit a b c ks) (H:(E6 a b).length<=8) (I:(stA a b c ks b.length).code.length<=5790):ae7 (E6 a b) ks b=L6 1 (stA a b c ks b.length).code:=by
 have C:=F.made.chk;obtain ⟨J,k⟩:=bB2 C;have P:=F.ks1;have K:NamedB (E6 a b) (bts b):=⟨bl4 C,λp Q x d=>by
  obtain ⟨y,L,h|h⟩:=ct8 Q
  .rw [h] at d;exact (k y L).1 x (L4.1 d)
  .rw [h] at d;exact (k y L).2 x d⟩
 obtain ⟨w1,M⟩:=bA8 C F.few b.length 0 (by omega);rw [List.drop_zero] at w1 M;have hz:L6 1 (stA a b c ks 0).code=0:=rfl;have l:∀ x,¬ InS (stA a b c ks 0).holds ks x:=λx ⟨q,_,hm⟩=>by simp [stA,runA,G9,mget] at hm
 have n:=cj0 (E6 a b).length;have o:=Nat.two_pow_pos (E6 a b).length;have e:I0 (E6 a b) ks b=dpB (E6 a b) ks (bts b) (aO6 (2 ^ (E6 a b).length)):=bB1 ks b _;have v:(aO6 (2 ^ (E6 a b).length)).getD 0 0=0:=rfl;have r:=(bb3 (E6 a b) ks b).1;have R:=bz1 1 (stA a b c ks b.length).code;obtain ⟨cst,s,he⟩:=M;obtain ⟨c1,S,f⟩:=s.mono (S':=inM (E6 a b) 0) λx d=>absurd d (l x);have N:far=1048576:=rfl;obtain ⟨m,hm,z⟩:=cx6 J H (by omega) (bts b) K n 0 o f (by omega);rw [<-e] at z;have A:(I0 (E6 a b) ks b).getD m 0∈I0 (E6 a b) ks b:=E7 (by rw [r];exact hm) 0;obtain ⟨_,t⟩:=cj3 (I0 (E6 a b) ks b) far;have T:=t _ A;unfold ae7;rcases bY6 (I0 (E6 a b) ks b) far with h|h
 .omega
 .obtain ⟨j,O,B⟩:=List.mem_iff_getElem.1 h;have hg:(I0 (E6 a b) ks b).getD j 0=(I0 (E6 a b) ks b).foldl min far:=by rw [cA4,cz2 O];exact B
  have D:(dpB (E6 a b) ks (bts b) (aO6 (2 ^ (E6 a b).length))).getD j 0<far:=by rw [<-e,hg];omega
  obtain ⟨E,U,V,w,W,G⟩:=cj2 J H (by omega) (bts b) K n j (by rw [<-r];exact O) D;have u:E=0:=by
   refine Classical.byContradiction λX=>?_;obtain ⟨i,rfl⟩:∃ i,E=i+1:=⟨E-1,by omega⟩;have:(aO6 (2 ^ (E6 a b).length)).getD (i+1) 0=far:=by show ((0:Int)::List.replicate (2 ^ (E6 a b).length-1) far).getD (i+1) 0=far;rw [List.getD_cons_succ,cA4,List.getElem?_replicate,if_pos (by omega)];rfl
   omega
  subst u;rw [v,<-e,hg] at G;obtain ⟨Y,Z,g⟩:=W.mono (S':=InS (stA a b c ks 0).holds ks) λx d=>by have:=d.2;simp at this
  have:=w1 Y g;omega
end Go.Rg
end
section
namespace Go.Rg
open Go Go.VT
theorem bb4 {a:Int} {b:List Ins} (h:F6 a [] b=true) (k:Nat):F6 a [] (b.take k)=true:=by rw [<-List.take_append_drop k b,K5,cz3] at h;exact h.1
theorem bY8 {a:Int} {b:List Ins} {c:List Int} (M:Made a b c) (k:Nat):Made a (b.take k) (if k=b.length then c else []):=by
 have C:=M.chk;by_cases i:k=b.length
 .subst i;rw [cB8,if_pos rfl];exact M
 .rw [if_neg i];have j:wr b=wr (b.take k)++wr (b.drop k):=by rw [<-M5,List.take_append_drop]
  have d:∀ {x},x∈b.take k->x∈b:=λh=>List.mem_of_mem_take h;have f:∀ {n},n∈wr (b.take k)->n∈wr b:=λh=>by rw [j];exact List.mem_append_left _ h
  refine ⟨⟨?_,C.pos,C.few,by simp,λx e=>C.toR x (d e),λx e=>C.fromR x (d e),?_,λn g=>C.new n (f g),bb4 C.there k,by simp⟩,M.par,λx e=>M.froms x (d e),λx e=>M.tos x (d e),λx e=>M.bod x (d e),by simp,λn g=>M.regs n (f g)⟩
  .rw [cB9];have:=C.len;omega
  .have h:=E5.1 C.once;rw [j,List.nodup_append] at h;exact E5.2 h.1
theorem bY9 {a:Int} {b:List Ins} {c d:List Int} {ks:Int} (F:Fit a b c ks):∃ c',B8 ⟨a,b,c,d⟩ ks=(c',0)/\(ap1 c').1=L6 1 (stA a b c ks b.length).code/\(stA a b c ks b.length).code.length<=5790:=by
 have hl:bj5 ⟨a,b,c,d⟩ ks=stA a b c ks b.length:=by show runA _ _ _ _ b 0 _=runA _ _ _ _ (b.take b.length) 0 _;rw [cB8]
 have h1:=F.ks1;have h2:=F.ks2;obtain ⟨c',g,_,_,_,_,_,_,e⟩:=bJ8 (d:=d) F;have hc:=aT0 (d:=d) F.made.chk;have hf:=F.few;have h:B8 ⟨a,b,c,d⟩ ks=(⟨a,ks,(bj5 ⟨a,b,c,d⟩ ks).ocells,(bj5 ⟨a,b,c,d⟩ ks).code,c.map (outA (bj5 ⟨a,b,c,d⟩ ks) ks)⟩,0):=by unfold B8;rw [if_neg (by rw [hc];simp),if_neg (by omega),if_neg (by show ¬ b.all (fewX ks)=false;rw [hf];simp)]
 rw [h] at g;have f:c'=_:=(congrArg (·.1) g).symm;rw [f] at e;refine ⟨_,h,by rw [hl];rfl,?_⟩;rw [<-hl];exact e
theorem cx7 (l:List Int) (n:Int):vc (EV [(25,cBuilt),(27,cSlots),(15,cAlloc),(17,cCount),(26,cNames),(28,cFewest),(14,cSlotted)]) (lFew l) Go.Proofs.Tryd.f5 cLaw2 (l,n,()):=by
 rw [cx5 l n];obtain ⟨M,f⟩:=made l (m:=6) (by omega);have i:(M7 l 6).code.length<=6:=by omega
 obtain ⟨b,w⟩:∃ b,(M7 l 6).code=b:=⟨_,rfl⟩;obtain ⟨c,hc⟩:∃ c,(M7 l 6).out=c:=⟨_,rfl⟩;obtain ⟨a,y⟩:∃ a,parB l=a:=⟨_,rfl⟩;simp only [w,hc,y] at M i |-;clear w hc y f;have z:=M.par;simp only [true_and];intro hs;refine ⟨⟨(b,c,()),rfl,rfl,b.length,Nat.le_refl _,by rw [cB8],by rw [if_pos rfl]⟩,?_⟩;rintro ⟨b',c',⟨⟩⟩;dsimp only;rintro ⟨k,K,rfl,rfl⟩;have M':=bY8 M k;have o:(b.take k).length=k:=by rw [cB9];omega
 have p:∀ x∈b.take k,x.to.length<=4000:=λx C=>by have:=M'.tos x C;omega
 have q:∀ j,j<=k->(b.take k).take j=b.take j:=λj D=>by rw [List.take_take,Nat.min_eq_left D]
 obtain ⟨B,hB⟩:∃ B,b.take k=B:=⟨_,rfl⟩;obtain ⟨O,E⟩:∃ O,(if k=b.length then c else [])=O:=⟨_,rfl⟩;simp only [hB,E] at*
 have g:(0<=a/\a<=4000)/\B.length<=4000/\∀ x∈B,x.to.length<=4000:=⟨by omega,by omega,p⟩;have r:(E6 a B).length=a.toNat+(wr B).length:=by unfold E6;rw [cB1,Y1]
 refine ⟨g,λh=>?_,λh=>?_⟩
 .have h:=cA0 h;have G:0<k:=by
   refine Nat.pos_of_ne_zero λh0=>?_;subst h0;have s:B=[]:=List.length_eq_zero_iff.1 o;rw [r,s] at h;simp [wr] at h;omega
  have H:IntKind.i64.wrap ((B.length:Int)-1)=((k-1:Nat):Int):=by rw [F8 (by omega) (by omega)];omega
  rw [H,cz4];have I:B.take (k-1)=b.take (k-1):=q _ (by omega);refine ⟨⟨by omega,by omega⟩,(B.take (k-1),[],()),rfl,rfl,⟨k-1,by omega,I,by rw [if_neg (by omega)]⟩,?_⟩;dsimp only;rw [cB9];omega
 .have h:=cz9 h;obtain ⟨F,J⟩:=bW6 (d:=[]) M' (by omega) n (k:=3) (by omega) (by omega);have e:=bt3 M';have hM:=M'.out;have A:(E6 a B).length<=8:=by omega
  obtain ⟨_,t⟩:=bB2 M'.chk;obtain ⟨cd,h1,h2,h3⟩:=bY9 (d:=[]) F;have u:=bY7 F A h3;have v:(⟨cd.params,cd.slots,cd.cells,cd.code,cd.out⟩:RCode)=cd:=rfl;simp only [h1,v,h2,u];refine ⟨⟨e.2,by omega⟩,⟨e.2,e.1,by omega⟩,λ_=>g,λ_=>⟨A,t⟩,?_⟩;simp
theorem bK2:C8 prog RG 5 cLaw2:=E3 (A7 bs6 (A7 bs7 (A7 aM4 (A7 aJ9 (A7 bl8 (A7 bl7 (A7 ba4 B7))))))) (λp=>lFew p.1) (by kernel_rfl) (by kernel_rfl) (by kernel_rfl) λ(l,n,()) _=>cx7 l n
end Go.Rg
end
section
namespace Go.Proofs.YtknhkhdbonjhgaaDoor
open Go.ChangeShapes Go.WideShapes Go.ChangeAt Go.RowKit Go.VT
abbrev ay2:List ArgT:=[(23,false,[Go.Rg.ints]),(3,false,[Go.Rg.i64])]
set_option maxRecDepth 100000 in
theorem bb5 (os:Os) (started:os.Started) (H:Type) (enc:TypeId×Value->H):
  ReturnsInHanded {} Tryd.checked os 5 .any (λw args=>(Rows.regsFewestSpec.pre enc Tryd.prog Tryd.f5 [] false w args/\laidMetH Tryd.prog bJ1 w)/\sizedMet enc Tryd.prog Tryd.f5 (OpenSpec.ofChange Rows.regsFewestSpec) false w args)
   (Rows.regsFewestSpec.post enc Tryd.prog Tryd.f5 false true false false):=by
 refine returnsInHanded_of_change_and (C:=Tryd.checked) (X:=λw _=>laidMetH Tryd.prog bJ1 w) (λ_ _ _ F h=>h.of_heap F) own started (by kernel_rfl) Tryd.func5
  (ChangeSpec.witness_shaped (enc:=enc) (C:=Tryd.checked) (os:=os) (X:=λw _=>laidMetH Tryd.prog bJ1 w) false (World.doorLaid Tryd.prog 600 os) #[.slice none 0 0,.int .i64 0] 8 rfl (World.shaped_of_RefB (by kernel_rfl) (by kernel_rfl)) (by kernel_rfl) (by kernel_rfl) (by kernel_rfl) (cf8 os _)) ?_
 intro W base args ds gs ah6 d z _ l G _;have i:∀ (j:Nat) t v,Tryd.f5.params[j]? =some t->args[j]? =some v->Value.okWide Tryd.prog W .any base t v:=d;have m:=z;obtain ⟨p,q,o,B,rfl,I,J⟩:=z;have s:DataW.TrodAll enc Tryd.prog W 0 (λ_=>true) true Tryd.f5.params.toList args.toList ds p:=o;have f:Tryd.f5.params.toList=ay2.map (·.1):=by rw [Tryd.params5];rfl
 obtain ⟨rfl,rfl⟩:gs=[]/\q=[]:=by
  cases gs with
  |nil=>exact ⟨rfl,B⟩
  |cons g r=>exact absurd B (by intro h;cases h)
 have c:∀ n∈DataW.weightsEach Tryd.prog Tryd.f5.params.toList ds,n<=reachBytes:=by intro n K;have h1:(DataW.weightsEach Tryd.prog (Tryd.f5.params.toList++[]) (ds++[])).all (·<=reachBytes)=true:=l;rw [List.append_nil,List.append_nil] at h1;simpa using cC0.1 h1 n K
 rw [f] at s c;obtain ⟨xs,us,hr,L⟩:=by5 cr8 (A:=ay2) (λa D=>by
  simp only [List.mem_cons,List.not_mem_nil,or_false] at D;rcases D with rfl|rfl
  .exact cg0
  .exact cr9) (λj t v E M=>i j t v (by rw [<-f] at E;simpa using E) (by simpa using M)) s c
 obtain ⟨u,x,rfl⟩:∃ u x,ds=[u,x]:=by
  have k:=aM6 s
  match ds,k with
  |[u,x],_=>exact ⟨_,_,rfl⟩
 have b:=bP4 (pre:=none) (A:=ay2) (w:=W) Go.Rg.bK2 (cr7 G) hr L trivial;rw [Array.toArray_toList] at b;refine b.mono λe W' ⟨N,O⟩=>⟨_,N,cg1 rfl m O (by kernel_rfl) rfl (λt y=>?_)⟩;rw [f] at y;simp only [List.map_cons,List.map_nil,List.mem_cons,List.not_mem_nil,or_false] at y;rcases y with rfl|rfl<;>exact ⟨by kernel_rfl,cA0 (by kernel_rfl)⟩
theorem bm1:Rows.RegsFewestSaid:=
 OpenClaim.holds_of_wide 5 Tryd.f5 rfl rfl rfl rfl rfl rfl rfl ⟨rfl,rfl,rfl,rfl,rfl⟩ rfl rfl rfl rfl rfl (by kernel_rfl) Tryd.func5 (by kernel_rfl)
  (cA0 (by kernel_rfl)) (by unfold Func.isWrapper;first|(rw [if_pos (by decide+kernel)];kernel_rfl)|(rw [if_neg (by decide+kernel)];exact ⟨rfl,rfl⟩))
  (λos started H enc _=>bb5 os started H enc)
theorem fewest_card:Rows.RegsFewestCardSaid:=
 Claim7.holds_tied_plain_at .later [] [.data,.data] true (true,"168ab8e7f67d43304005f9eb622602b7a6af205c051abe541b21ac4f05ca28a5") false
  bm1 (λ_ h=>by cases h) (by kernel_rfl) (λ_ h=>by cases h) regsFewest_row_tie rfl ⟨rfl,rfl⟩ (by kernel_rfl) rfl
  (λf fn hf b=>by
   obtain rfl:f=5:=Option.some.inj ((show Tryd.prog.funcNamed "sheafworks/sheafworkslaw23.RegsFewest"=some 5 by kernel_rfl).symm.trans hf) |>.symm;obtain rfl:fn=Tryd.f5:=(Option.some.inj (Tryd.func5.symm.trans b)).symm;exact ⟨by kernel_rfl,λj t c=>by
    rw [Tryd.params5] at c;have hm:t∈[23,3]:=by simpa using Array.mem_of_getElem? c
    have a:([23,3].all λu=>!Tryd.prog.wantsStandIn u)=true:=by kernel_rfl
    exact (show Tryd.prog.wantsStandIn t=false by simpa using cC0.1 a t hm)⟩)
  (by kernel_rfl)
end Go.Proofs.YtknhkhdbonjhgaaDoor
end
