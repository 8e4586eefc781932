/-
What the last text of this claim uses: VtO, VtP, VtPa, VtPb, VtPc, VtPd, VtQ, VtDo, VtMp, VtCp, VtIt, VtMs, VtR.
-/
import Derived.Test.YtknhkhdbonjhgaaDoorV1
import Derived.Maps.AppendAt
import Derived.Defers
import Derived.Laws.Slices
import Derived.Laws.MakeOwn
import Derived.MapKept
import Derived.OrdersIn
import Derived.RangeFuncCalls
set_option linter.unusedVariables false
set_option linter.unusedSimpArgs false
set_option maxRecDepth 100000
noncomputable section
section
namespace Go.VT
noncomputable section
open Go.RowKit
variable {U:Univ} {E:Env U} {F:Fr} {n:Nat} {β:Nm} {s:St U} {ρ:Operand->Value} {tmps:Array Value} {w:World} {o:Oper} {e:Eff U} {h:Obs U}
theorem Rep.one {M:Nat->Prop} {d:Datum U} {v:Value} (r:Rep U w M d v):v.oneCell'=true:=by cases r<;>rfl
theorem ag6 {t:Ty} {l m:List (den U.T t)} {xs ys:List Value} (g:xs.length=l.length*szOf U t) (r:Els w β h t l xs) (q:Els w β h t m ys):Els w β h t (l++m) (xs++ys):=by
 intro i x a j d b;have n:j<szOf U t:=by
  rw [<-B0 U t x];by_cases c:j<(B1 U t x).length
  .exact c
  .rw [List.getElem?_eq_none (by omega)] at b;cases b
 by_cases hl:i<l.length
 .rw [cp4 hl] at a;obtain ⟨u,e,hr⟩:=r i x a j d b;have f:i*szOf U t+j<xs.length:=by
   rw [g];have:(i+1)*szOf U t<=l.length*szOf U t:=Nat.mul_le_mul_right _ hl;rw [Nat.add_mul,Nat.one_mul] at this;omega
  exact ⟨u,by rw [cp4 f];exact e,hr⟩
 .rw [cp3 (by omega)] at a;obtain ⟨u,e,hr⟩:=q _ x a j d b;refine ⟨u,?_,hr⟩;have k:l.length*szOf U t<=i*szOf U t:=Nat.mul_le_mul_right _ (by omega);rw [cp3 (by omega),<-e,g,Nat.sub_mul];congr 1;omega
theorem aK3 {t:Ty} (b:0<szOf U t) {e:TypeId} {m:List (den U.T t)} {v:Value} (r:Rep U w (Live β h) ⟨.slice e t,m⟩ v):
  (m=[]/\∃ A c,v=.slice A 0 c)\/∃ (a:Addr) (c:Nat) (ys:List Value),v=.slice (some a) m.length c/\¬ Live β h a.block/\ys.length=m.length*szOf U t/\(∀ (j:Nat) (u:Value),ys[j]? =some u->w.cell? (a.add j)=some u)/\
   (∀ u∈ys,u.oneCell'=true)/\Els w β h t m ys/\m.length<=most:=by
 cases r with
 |nil _ _ A c=>exact .inl ⟨rfl,A,c,rfl⟩
 |slice _ _ _ g q cap f h0 hc hm hM hg hcell hr=>
  refine .inr ⟨⟨g,q,none⟩,cap,(List.range (m.length*szOf U t)).map (λk=>f (k / szOf U t) (k % szOf U t)),rfl,hM,by simp,λj u o=>?_,λu o=>?_,λi x s j d y=>?_,hm⟩
  .simp only [co9,co1] at o;obtain ⟨k,n,rfl⟩:=o;have l:j<m.length*szOf U t:=by
    by_cases l:j<m.length*szOf U t
    .exact l
    .rw [List.getElem?_eq_none (by simp;omega)] at n;cases n
   rw [List.getElem?_range l] at n;simp only [cn4] at n;subst n;rw [Addr.add_lit];have:=hcell (j / szOf U t) (by rw [Nat.div_lt_iff_lt_mul b];exact l) (j % szOf U t) (Nat.mod_lt _ b);rw [<-this];congr 2;rw [Nat.add_assoc,Nat.mul_comm,Nat.div_add_mod]
  .simp only [List.mem_map,List.mem_range] at o;obtain ⟨k,n,rfl⟩:=o;have p:k / szOf U t<m.length:=by rw [Nat.div_lt_iff_lt_mul b];exact n
   have l:k % szOf U t<(B1 U t m[k / szOf U t]).length:=by rw [B0];exact Nat.mod_lt _ b
   exact (hr _ _ (cn6 p) _ _ (cn6 l)).one
  .have l:j<szOf U t:=by
    rw [<-B0 U t x];by_cases z:j<(B1 U t x).length
    .exact z
    .rw [List.getElem?_eq_none (by omega)] at y;cases y
   have p:i<m.length:=by
    by_cases p:i<m.length
    .exact p
    .rw [List.getElem?_eq_none (by omega)] at s;cases s
   have B:i*szOf U t+j<m.length*szOf U t:=by have:(i+1)*szOf U t<=m.length*szOf U t:=Nat.mul_le_mul_right _ p;rw [Nat.add_mul,Nat.one_mul] at this;omega
   refine ⟨f i j,?_,hr i x s j d y⟩;simp only [co9,List.getElem?_range B,Option.map_some,cn4];congr 1
   .rw [Nat.mul_comm,Nat.mul_add_div b,Nat.div_eq_of_lt l,Nat.add_zero]
   .rw [Nat.mul_comm,Nat.mul_add_mod,Nat.mod_eq_of_lt l]
theorem V7 {P:Program} {t ty e:TypeId} {i:TypeInfo} (a:P.underlying t=some (.slice e)) (b:P.info? e=some i) (A:Option Addr) (k cap:Nat) (d:k<=cap) (c:Nat) (w:World):
  (Builtin.append_ #[t,t] ty #[.slice A k cap,.slice none 0 c]).run P w=.ok (.slice A k cap) w:=by
 cases A<;>simp [Builtin.append_,run_underlying a,sizeOf,typeInfo,b,Builtin.lenOf,d,Builtin.firstCells,storeCells]
theorem ab8 {P:Program} {t ty e:TypeId} {i:TypeInfo} {z:Value} (E:P.underlying t=some (.slice e)) (G:P.info? e=some i) (N:i.zero=some z) (r:z.cells.size=i.size) (H:0<i.size)
  (hB:F.B<=w.heap.size) {v:Value} {k:Nat} {xs:List Value} (l:Owns w F.B e i.size v k xs) (a:Addr) (m c:Nat) (ys:List Value) (h:ys.length=m*i.size) (p:∀ (j:Nat) (u:Value),ys[j]? =some u->w.cell? (a.add j)=some u) (s:∀ u∈ys,u.oneCell'=true)
  (q:k+m<=maxLen) (hl:(k+m)*i.bytes<=140737488355328):
  ∃ v' w',(Builtin.append_ #[t,t] ty #[v,.slice (some a) m c]).run P w=.ok v' w'/\Owns w' F.B e i.size v' (k+m) (xs++ys)/\w.grownBy w' v.ownBlock/\(v'.ownBlock=v.ownBlock\/v'.ownBlock=some w.heap.size):=by
 obtain ⟨o,l⟩:=l;have f:(xs++ys).length=(k+m)*i.size:=by rw [cp5,o,h,Nat.add_mul]
 rcases l with ⟨rfl,rfl⟩|⟨g,cap,cur,rfl,hg,I,Q,x,J,y⟩
 .have R:xs=[]:=List.eq_nil_of_length_eq_zero (by simpa using o);subst R;obtain ⟨v',w',h1,h2,h3,_,S⟩:=run_append_own_at (P:=P) w F.B t ty e i z i.size i.bytes E G N rfl rfl r H (.slice none 0 0) 0 [] (World.ownsRow_nil w F.B e i.size) a m c ys h p s q hl hB;exact ⟨v',w',h1,Owns.of h2,h3,S⟩
 .by_cases d:k+m<=cap
  .have A:(k+m)*i.size<=cap*i.size:=Nat.mul_le_mul_right _ d;have C:k*i.size+ys.length<=cur.size:=by rw [h,<-Nat.add_mul];omega
   refine ⟨_,_,run_append_room (P:=P) w t ty e i E G g k cap cur I a m c ys h p s d C,⟨f,.inr ⟨g,cap,_,rfl,hg,setRow_heap w g cur _ e _ I,d,x,?_,?_⟩⟩,⟨rfl,rfl,rfl,by simp,λb _ K=>setRow_other w g b _ (λL=>K (by simp [Value.ownBlock,L]))⟩,.inl rfl⟩
   .simp only [List.size_toArray,cp5,cq3,List.length_drop,Array.length_toList];omega
   .rw [y,<-f];exact List.take_left
  .have D:∀ (j:Nat) (u:Value),xs[j]? =some u->w.cell? ((⟨g,0,none⟩:Addr).add j)=some u:=by
    intro j u T;rw [Addr.add_lit,Nat.zero_add];exact Owns.cells (B:=F.B) (e:=e) (size:=i.size) (n:=k) ⟨o,.inr ⟨g,cap,cur,rfl,hg,I,Q,x,J,y⟩⟩ rfl j u T
   have O:k+m<=9223372036854775807:=by simp only [maxLen] at q;omega
   have M:=grownCap_ge w (k+m) cap e;have A:=grownCap_le_maxLen w (k+m) cap e q;refine ⟨_,_,run_append_grow (P:=P) w t ty e i z E G N ⟨g,0,none⟩ k cap xs o D a m c ys h p (by omega) (by omega) (growslice_fits (by omega) hl),⟨f,.inr ⟨w.heap.size,_,_,rfl,hB,heap_alloc_new w.drew _,M,A,?_,?_⟩⟩,⟨rfl,rfl,rfl,by simp,λb K _=>(heap_alloc_old w.drew _ K)⟩,.inr rfl⟩
   .simp only [Array.size_append,List.size_toArray,size_zeroCells,r,o,h,<-Nat.add_mul];refine Nat.le_of_eq ?_;congr 1;omega
   .simp only [Array.toList_append,cq0];rw [<-cq0,<-f];exact List.take_left
theorem ag7 {P:Program} {t ty e:TypeId} {i:TypeInfo} {z:Value} {c:Ty} (D:P.underlying t=some (.slice e)) (E:P.info? e=some i) (H:i.zero=some z) (hs:i.size=szOf U c) (p:z.cells.size=i.size) (g:0<szOf U c) (q:0<i.bytes)
  (hB:F.B<=w.heap.size) {v:Value} {l m:List (den U.T c)} {xs:List Value} (b:Owns w F.B e (szOf U c) v l.length xs) {x:Value} (r:Rep U w (Live β h) ⟨.slice e c,m⟩ x) (hl:(l.length+m.length)*i.bytes<=most):
  ∃ v' w' ys,(Builtin.append_ #[t,t] ty #[v,x]).run P w=.ok v' w'/\Owns w' F.B e (szOf U c) v' (l++m).length (xs++ys)/\w.grownBy w' v.ownBlock/\(v'.ownBlock=v.ownBlock\/v'.ownBlock=some w.heap.size)/\
   (∀ u∈ys,u.oneCell'=true)/\Els w β h c m ys:=by
 have G:l.length+m.length<=most:=Nat.le_trans (Nat.le_mul_of_pos_right _ q) hl;have some_:∀ (a:Addr) (cap:Nat) (ys:List Value),x=.slice (some a) m.length cap->ys.length=m.length*szOf U c->(∀ (j:Nat) (u:Value),ys[j]? =some u->w.cell? (a.add j)=some u)->(∀ u∈ys,u.oneCell'=true)->Els w β h c m ys->(∃ v' w' ys,(Builtin.append_ #[t,t] ty #[v,x]).run P w=.ok v' w'/\Owns w' F.B e (szOf U c) v' (l++m).length (xs++ys)/\w.grownBy w' v.ownBlock/\(v'.ownBlock=v.ownBlock\/v'.ownBlock=some w.heap.size)/\
   (∀ u∈ys,u.oneCell'=true)/\Els w β h c m ys):=by
  intro a cap ys o d k f n;rw [<-hs] at b d g |-;obtain ⟨v',w',h1,h2,h3,I⟩:=ab8 (P:=P) (ty:=ty) D E H p g hB b a m.length cap ys d k f (by simp only [most,maxLen] at*;omega) (by simp only [most] at hl;omega);exact ⟨v',w',ys,by rw [o];exact h1,by rw [cp5];exact h2,h3,I,f,n⟩
 rcases aK3 g r with ⟨rfl,A,cap,o⟩|⟨a,cap,ys,o,_,d,k,f,n,_⟩
 .cases A with
  |none=>obtain ⟨⟨A',cap',J,s⟩,_⟩:=b.form;refine ⟨v,w,[],?_,by simpa using b,⟨rfl,rfl,rfl,Nat.le_refl _,λ_ _ _=>rfl⟩,.inl rfl,by simp,λi y C=>by simp at C⟩;rw [o,J];exact V7 D E A' l.length cap' s cap w
  |some a=>exact some_ a cap [] o (by simp) (by simp) (by simp) (λi y C=>by simp at C)
 .exact some_ a cap ys o d k f n
theorem ad8 {W:World} {e:TypeId} {k m:Nat} {v:Value} {xs:List Value} (a:Owns W F.B e k v m xs):v.oneCell'=true:=by rcases a.2 with ⟨h,_⟩|⟨_,_,_,h,_⟩<;>rw [h]<;>rfl
theorem Q0 {W:World} {e:TypeId} {k m:Nat} {v:Value} {xs:List Value} (a:Owns W F.B e k v m xs):D5 v=v.ownBlock:=by rcases a.2 with ⟨h,_⟩|⟨_,_,_,h,_⟩<;>rw [h]<;>rfl
theorem aB0 (k:Ok F w β h) {id fid:Nat} (hf:look fid h=none) (O:id≠fid) {e:TypeId} {t:Ty} {m:List Nat} {l:List (den U.T t)} {ver iv:Nat} (hl:look id h=some (.dp (.rows e t m l ver iv true none))) {i:Int} {j:Nat} (h0:0<=i) (h1:i<(l.length:Int)) (hm:m.any (Nat.beq j)=true)
  {e':TypeId} {t':Ty} {l':List (den U.T t')} (hd:I9 t l i j=some ⟨.slice e' t',l'⟩) {a:Array Value} (hN:β id=.tuple a) {v:Value} (hg:a[1+(i.toNat*szOf U t+j)]? =some v)
  {w':World} (g:w.grownBy w' v.ownBlock) {v':Value} (P:v'.ownBlock=v.ownBlock\/v'.ownBlock=some w.heap.size) {zs:List Value} {J:List (den U.T t')} (G:Owns w' F.B e' (szOf U t') v' J.length zs) (hlm:J.length<=most) (h1c:∀ u∈zs,u.oneCell'=true) (hel:Els w β h t' J zs):
  ∃ β',β' fid=v'/\After F w β h w' β' (upds h [(id,.dp (.rows e t m l ver (iv+1) true (some (i,j)))),(fid,.row e' t' J 0 true)]):=by
 have Q:DRel F.B w β h (.rows e t m l ver iv true none) (β id):=k.obj id _ hl;obtain ⟨⟨ys,y1,_⟩,_⟩:=ag0 Q h0 h1 hm hd hN hg;obtain ⟨root,xs,ns,I,k1,k2,k3,k4,k5,k6,k7⟩:=Q;have hi:i.toNat<l.length:=by omega
 have hcj:(B1 U t l[i.toNat])[j]? =some ⟨.slice e' t',l'⟩:=by
  have:=hd;unfold I9 at this
  rwa [P1 hi] at this
 have hjs:=aa1 hcj;have D:ns[i.toNat*szOf U t+j]? =some v:=by rw [I] at hN;have:=G1 hN;subst this;rw [Nat.add_comm 1] at hg;simpa using hg
 have K:=(cn9.1 D).1;have R:=Q0 y1;have S:=Q0 G;have hnu:D5 undef=none:=rfl
 let N2:Value:=.tuple (root::ns.set (i.toNat*szOf U t+j) undef).toArray
 let β':Nm:=⟨λq=>if q=id then N2 else if q=fid then v' else β q,β.M,β.lp⟩
 have hβid:β' id=N2:=by simp [β']
 have hβf:β' fid=v':=by simp [β',Ne.symm O]
 have C:∀ (p:Nat) (n:Value) (b:Nat),(ns.set (i.toNat*szOf U t+j) undef)[p]? =some n->D5 n=some b->ns[p]? =some n/\p≠i.toNat*szOf U t+j:=by
  intro p n b V f;rw [cp9] at V;split at V
  .simp only [if_pos K,cn4] at V;rw [<-V,hnu] at f;cases f
  .rename_i y;exact ⟨V,λL=>y L.symm⟩
 have W:∀ b,Has N2 b->Has (β id) b/\D5 v≠some b:=by
  intro b f;rw [I];rcases C3.1 f with h3|⟨p,n,h3,h4⟩
  .exact ⟨C3.2 (.inl h3),λh5=>k7 _ v b D h5 h3⟩
  .obtain ⟨h5,X⟩:=C p n b h3 h4;exact ⟨C3.2 (.inr ⟨p,n,h5,h4⟩),λh7=>X (k6 p _ n v b h5 D h4 h7)⟩
 have Y:∀ b,D5 v=some b->Has (β id) b:=λb f=>by rw [I];exact C3.2 (.inr ⟨_,v,D,f⟩)
 have A:∀ b,b<w.heap.size->D5 v≠some b->w'.heap[b]? =w.heap[b]? :=λb f hn=>g.block b f (λy=>hn (by rw [R];exact y.symm));have Z:∀ b,Has v' b->D5 v=some b\/b=w.heap.size:=by
  intro b f;have f:=G.has' f;rw [S] at f;rcases P with X|X
  .left;rw [R,<-X];exact f
  .right;rw [X] at f;simpa using f.symm
 have s:∀ {q:Nat} {o:Ob U},(q,o)∈[(id,Ob.dp (.rows e t m l ver (iv+1) true (some (i,j)))),(fid,Ob.row e' t' J 0 true)]->(q=id/\o=.dp (.rows e t m l ver (iv+1) true (some (i,j))))\/(q=fid/\o=.row e' t' J 0 true):=by intro q o z;simpa using z
 refine ⟨β',hβf,P2 k (by simpa using O) ?_ g.os g.tape g.output g.size ?_ rfl ?_ rfl ?_ ?_ ?_ ?_ ?_⟩
 .intro q o ob z x;rcases s z with ⟨rfl,rfl⟩|⟨rfl,rfl⟩
  .rw [hl] at x;simp only [cn4] at x;subst x;rfl
  .rw [hf] at x;cases x
 .intro b f hn;exact A b f (λy=>hn id (.dp (.rows e t m l ver (iv+1) true (some (i,j)))) _ (by simp) hl (Y b y))
 .intro q z;have h2:q≠id:=λy=>z (.dp (.rows e t m l ver (iv+1) true (some (i,j)))) (by simp [y]);have h3:q≠fid:=λy=>z (.row e' t' J 0 true) (by simp [y]);simp [β',h2,h3]
 .intro q o b z f;rcases s z with ⟨rfl,rfl⟩|⟨rfl,rfl⟩
  .rw [hβid] at f;exact .inl ⟨q,.dp (.rows e t m l ver (iv+1) true (some (i,j))),_,by simp,hl,(W b f).1⟩
  .rw [hβf] at f;rcases Z b f with h3|h3
   .exact .inl ⟨id,.dp (.rows e t m l ver (iv+1) true (some (i,j))),_,by simp,hl,Y b h3⟩
   .right;omega
 .intro q o q' o' b z hq' f E;have no:∀ b,Has N2 b->Has v' b->False:=by
   intro b f E;obtain ⟨h2,h3⟩:=W b f;rcases Z b E with h4|h4
   .exact h3 h4
   .have:=((k.obj id _ hl).blk h2).2;omega
  rcases s z with ⟨rfl,rfl⟩|⟨rfl,rfl⟩<;>rcases s hq' with ⟨rfl,rfl⟩|⟨rfl,rfl⟩
  .rfl
  .rw [hβid] at f;rw [hβf] at E;exact (no b f E).elim
  .rw [hβf] at f;rw [hβid] at E;exact (no b E f).elim
  .rfl
 .intro q o ob z x;rcases s z with ⟨rfl,rfl⟩|⟨rfl,rfl⟩
  .rw [hl] at x;simp only [cn4] at x;subst x;rw [hβid,I];intro c v hv;exact bD9 rfl c v hv
  .rw [hf] at x;cases x
 .intro q o z;rcases s z with ⟨rfl,rfl⟩|⟨rfl,rfl⟩<;>rfl
 .intro xx q o z;rcases s z with ⟨rfl,rfl⟩|⟨rfl,rfl⟩
  .suffices key:DRel F.B w' β' (upds h [(q,.dp (.rows e t m l ver (iv+1) true (some (i,j)))),(fid,.row e' t' J 0 true)]) (.rows e t m l ver (iv+1) true (some (i,j))) N2 by
    rw [<-hβid] at key;exact key
   refine ⟨root,xs,_,rfl,k1.kept (λb f=>A b (k1.lt f).2 (λy=>k7 _ v b D y f)),k2,k3,by rw [List.length_set];exact k4,λi' x' hx' j' d hj=>?_,λp q a c b ha hc H hcb=>?_,λp a b ha H=>?_⟩
   .obtain ⟨u,n,a1,a2,a3⟩:=k5 i' x' hx' j' d hj;have hjs':=aa1 hj;by_cases hs:i'*szOf U t+j'=i.toNat*szOf U t+j
    .obtain ⟨rfl,rfl⟩:=an6 hjs' hjs hs;exact ⟨u,undef,a1,by rw [cp9,if_pos rfl,if_pos K],λ_=>⟨λ_=>rfl,λy=>absurd ⟨i,rfl,rfl⟩ y⟩,λhm2=>by rw [hm] at hm2;cases hm2⟩
    .refine ⟨u,n,a1,by rw [cp9,if_neg (λy=>hs y.symm)];exact a2,λhm=>⟨?_,λ_=>?_⟩,λhm=>⟨(a3.2 hm).1,xx.rep (a3.2 hm).2⟩⟩
     .rintro ⟨hi2,N,L⟩;simp only [cn4,co6] at N;exact absurd (by rw [<-L,<-N.1,<-N.2]) hs
     .obtain ⟨r1,e2,t2,l3,r2,r3⟩:=(a3.1 hm).2 (by rintro ⟨_,y,_⟩;cases y);refine ⟨r1,e2,t2,l3,r2,r3.map (λd v r=>xx.rep r) (λb f=>A b ?_ (λy=>hs (k6 _ _ n v b a2 D (by rw [r1];exact f) y)))⟩;obtain ⟨zs,z1,_⟩:=r3;exact (z1.lt f).2
   .exact k6 p q a c b (C p a b ha H).1 (C q c b hc hcb).1 H hcb
   .exact k7 p a b (C p a b ha H).1 H
  .exact ⟨zs,by rw [hβf];exact G,hlm,h1c,Els.ext xx hel⟩
theorem Does.append (hE:E.Fits) (R:Rel F n β s tmps w) {c:Call} {x y:Operand} (hop:o.op=.call c) (hc:c.callee=.builtin .append) (hx:c.args.toList=[x,y]) {ty el:TypeId} {ts:List TypeId} (hts:c.argTypes.toList=ty::ts) (T:c.argTypes=#[ty,ty]) (hu:E.P.underlying ty=some (.slice el)) {t:Ty} (hcd:E.code el=some t)
  {a v:PV U} (r:PRel w β s.h s.σ a (ρ x)) (q:PRel w β s.h s.σ v (ρ y)) {ids:List Nat} (C:am2 E (sub s.h ids) o.dst el t a v=some e)
  (G:e.Obl) (hf:look (B3 o.dst 0) s.h=none\/((∀ p,a≠.one (.lit p))/\∀ id v i j,a≠.one (.dc id (.inn v i j)))):Does E.P F β s ρ w o e:=by
 obtain ⟨i,z,hi,hsz,hz,hzs,V,Q,hz1c,_⟩:=hE.code _ _ hcd;have W:N5 E.P el=i.bytes:=by simp [N5,Program.bytesOf,hi]
 have L:c.args.map ρ=#[ρ x,ρ y]:=by apply Array.toList_inj.1;simp [hx]
 unfold am2 at C;split at C
 .rename_i cy;split at C
  .rename_i d u hd;split at C
   .rename_i m hm;have hdm:=Datum.as_eq hm;subst hdm;obtain ⟨hfz,_⟩:=J9 hd;have A1:=H8 R.ok hfz;have X:=aj9 R.ok hd q.inv.2 hfz (λ_ hx=>hx);split at C
    .rename_i id ver;split at C
     .rename_i e' t' l ver' lv hl;split at C
      .rename_i M;simp only [cn7] at M;have Y:=cn5 M.1.1;have hlv:lv=true:=M.1.2;subst hlv;split at C
       .rename_i l2 N;have N:=Datum.as_eq N;cases N;split at C
        .rename_i H;simp only [cn4] at C;subst C;have hl:=C1 hl;obtain ⟨_,_,_,_,_,N,hle,hv⟩:=r.inv.2;rw [hl] at N;simp only [cn4,Ob.row.injEq] at N;have hxv:=hv (Y.trans N.2.2.2.1);have Z:∀ ob,(id,ob)∉u:=λob hm=>by
          have:=cq4.1 H _ hm;simp at this
         have hl1:look id (upds s.h u)=some (.row el t l2 ver' true):=by rw [B6 Z];exact hl
         obtain ⟨xs,D,hmost,h1c,hel⟩:=A1.obj id _ hl1;rw [W] at G;obtain ⟨v',w',ys,I,f,A,J,hy1,hye⟩:=ag7 (P:=E.P) (ty:=o.type) (c:=t) hu hi hz hsz hzs V Q A1.hB D X G;have K:(l2++m).length<=most:=by rw [cp5];exact Nat.le_trans (Nat.le_mul_of_pos_right _ Q) G
         have A2:After F w β (upds s.h u) w' (upd1 β id v') (write id (.row el t (l2++m) (ver+1) true) (upds s.h u)):=by
          refine J0 A1.ok hl1 rfl A.os A.tape A.output A.size (λb S hn=>A.block b S (λhh=>hn ?_)) rfl (λj hj=>ag3 β v' hj) rfl (λh=>by simp [Ob.oth] at h) (λb S=>?_) (λ_ _ h5=>by cases h5) (λe2 t2 l2 v2 lv2 h5=>?_) (λxx=>?_)
          .exact D.has (by rw [Q0 D];exact hh.symm)
          .rw [C2] at S;have S:=f.has' S;rw [Q0 f] at S;rcases J with O|O
           .left;exact D.has (by rw [Q0 D,<-O];exact S)
           .right;rw [O] at S;simp at S;omega
          .cases h5;exact ⟨_,_,_,rfl,by omega,λhh=>by omega⟩
          .refine ⟨xs++ys,by rw [C2];exact f,K,λu hu=>?_,Els.ext xx (ag6 D.1 hel hye)⟩;rcases cq1.1 hu with O|O
           .exact h1c u O
           .exact hy1 u O
         refine ⟨v',w',upd1 β id v',.inl ?_,?_,?_⟩
         .refine H3 hop hc ?_;rw [L,hxv,T];simp [builtin,I]
         .dsimp only;rw [C6];exact A1.trans A2
         .dsimp only;rw [C6];exact ad7 (A9 _ _ _) (C2 _ _ _) (ad8 f) _
        .cases C
       .cases C
      .cases C
     .cases C
    .simp only [cn4] at C;subst C;have hf:=hf.resolve_right (λh=>h.1 _ rfl);have hxv:ρ x=.slice none 0 0:=r.inv.2;rw [W] at G;have G:List.length m*i.bytes<=most:=G;obtain ⟨v',w',ys,I,f,A,J,hy1,hye⟩:=ag7 (P:=E.P) (ty:=o.type) (c:=t) hu hi hz hsz hzs V Q A1.hB (Owns.of (World.ownsRow_nil w F.B el (szOf U t))) (l:=[]) X (by simpa using G);have K:m.length<=most:=Nat.le_trans (Nat.le_mul_of_pos_right _ Q) G;have hnone:=hfz.none hf;have A2:After F w β (upds s.h u) w' (upd1 β (B3 o.dst 0) v') (write (B3 o.dst 0) (.row el t m 0 true) (upds s.h u)):=by
      refine Q8 A1.ok ((Below.refl _ _).grown A (Nat.le_refl _) (λk hk=>by simp [Value.ownBlock] at hk)) hnone (.inl rfl) (λg hg=>?_) (λxx=>?_)
      .have hg:=f.has' hg;rw [Q0 f] at hg;rcases J with O|O
       .rw [O] at hg;simp [Value.ownBlock] at hg
       .rw [O] at hg;simp at hg;omega
      .exact ⟨ys,by rw [C2];exact f,K,hy1,Els.ext xx hye⟩
     refine ⟨v',w',upd1 β (B3 o.dst 0) v',.inl ?_,?_,?_⟩
     .refine H3 hop hc ?_;rw [L,hxv,T];simp [builtin,I]
     .dsimp only;rw [C6];exact A1.trans A2
     .dsimp only;rw [C6];exact ad7 (A9 _ _ _) (C2 _ _ _) (ad8 f) _
    ·--an S1 slice
     rename_i id v0 i j;have hf:=hf.resolve_right (λh=>h.2 _ _ _ _ rfl);split at C
     case h_2=>cases C
     rename_i e2 t2 m2 l2 ver iv hl;split at C
     case h_2=>cases C
     rename_i e' t' l' hd;split at C
     case isFalse=>cases C
     rename_i S;simp only [cn7] at S;have Y:=cn5 S.1;split at C
     case h_2=>cases C
     rename_i l3 hl3;have hl3:=Datum.as_eq hl3;cases hl3;split at C
     case isFalse=>cases C
     rename_i H;simp only [cn7,Bool.not_eq_true'] at H;have hne:id≠B3 o.dst 0:=λhh=>by have:=H.2;rw [hh,Nat.beq_refl] at this;cases this
     simp only [cn4] at C;subst C;have hl:=C1 hl;have Z:∀ ob,(id,ob)∉u:=λob hm=>by have:=cq4.1 H.1 _ hm;simp at this
     have hl1:look id (upds s.h u)=some (.dp (.rows e2 t2 m2 l2 ver iv true none)):=by rw [B6 Z];exact hl
     obtain ⟨D',hl',hv⟩:=r.inv.2;rw [hl] at hl';simp only [cn4,Ob.dp.injEq] at hl';subst hl';obtain ⟨h0,h1,hm,vs,hN,hg⟩:=hv.2 Y;obtain ⟨⟨xs,D,hmost,h1c,hel⟩,_⟩:=ag0 (show DRel F.B w β (upds s.h u) (.rows e2 t2 m2 l2 ver iv true none) (β id) from A1.obj id _ hl1) h0 h1 hm hd hN hg;rw [W] at G;obtain ⟨v',w',ys,I,f,A,J,hy1,hye⟩:=ag7 (P:=E.P) (ty:=o.type) (c:=t) hu hi hz hsz hzs V Q A1.hB D X G;have K:(l3++m).length<=most:=by rw [cp5];exact Nat.le_trans (Nat.le_mul_of_pos_right _ Q) G
     obtain ⟨β',hβf,A2⟩:=aB0 A1.ok (hfz.none hf) hne hl1 h0 h1 hm hd hN hg A J f K (λu hu=>by
      rcases cq1.1 hu with O|O
      .exact h1c u O
      .exact hy1 u O) (ag6 D.1 hel hye)
     refine ⟨v',w',β',.inl ?_,?_,?_⟩
     .refine H3 hop hc ?_;rw [L,T];simp [builtin,I]
     .dsimp only;rw [C6];exact A1.trans A2
     .dsimp only;rw [C6];exact ad7 (by show look _ (write _ _ _)=_;exact A9 _ _ _) hβf (ad8 f) _
    .cases C
   .cases C
  .cases C
 .cases C
def I8:List (Bool×Nat)->List Value->List Value->Prop
 |[],cs,vs=>cs=[]/\vs=[]
 |(true,n)::gs,cs,vs=>∃ a r v' vs',cs=a++r/\a.length=n/\v'=.agg a.toArray/\vs=v'::vs'/\I8 gs r vs'
 |(false,n)::gs,cs,vs=>∃ c r vs',cs=c::r/\n=1/\vs=c::vs'/\I8 gs r vs'
def aa2 (gs:List (Bool×Nat)) (cs:List Value) (v:Value):Prop:=
 match gs with
 |[g]=>I8 [g] cs [v]
 |_=>∃ vs:List Value,v=.tuple vs.toArray/\I8 gs cs vs
def Enters (P:Program) (f:FuncId):Prop:=∃ fn,P.funcs[f]? =some fn/\(fn.name=="runtime.NumGoroutine")=false/\fn.body.isNone=false
theorem Enters.run {P:Program} {f:FuncId} (h:Enters P f) (args:Array Value) (w:World):(callFunc f args).run P w=.ok (.enter f args) w:=by
 obtain ⟨fn,h1,h2,h3⟩:=h;have a:¬ fn.name="runtime.NumGoroutine":=by simpa using h2
 have b:¬ fn.body=none:=by intro h;rw [h] at h3;simp at h3
 simp [callFunc,h1,a,b]
theorem N9 {σ:List (Nat×PV U)}:∀ {gs:List (Bool×Nat)} {ps:List (PV U)} {cs:List (Cell U)} {vs:List Value},F3 gs ps=some cs->vs.length=ps.length->
  (∀ (j:Nat) (p:PV U) (v:Value),ps[j]? =some p->vs[j]? =some v->PRel w β h σ p v)->∃ us,I8 gs us vs/\CsRel w β h cs us
 |[],[],cs,vs,hf,hl,_=>by
  simp only [F3,cn4] at hf;subst hf;have:vs=[]:=by simpa using hl
  subst this;exact ⟨[],⟨rfl,rfl⟩,rfl,by simp,λj c v hc=>by simp at hc⟩
 |[],_::_,_,_,hf,_,_=>by simp [F3] at hf
 |(true,k)::gs,ps,cs,vs,hf,hl,hr=>by
  match ps,hf,hl,hr with
  | .agg ds::ps,hf,hl,hr=>
   simp only [F3] at hf;split at hf
   .rename_i l;have l:=cn5 l;simp only [co1] at hf;obtain ⟨cs',d,rfl⟩:=hf
    match vs,hl,hr with
    |v::vs,hl,hr=>
     obtain ⟨as,g,e⟩:=hr 0 _ _ rfl rfl;obtain ⟨us,m,hc⟩:=N9 (σ:=σ) (vs:=vs) d (by simpa using hl) (λj p v n g=>hr (j+1) p v (by simpa using n) (by simpa using g));have o:as.length=k:=by rw [<-l];exact e.1
     refine ⟨as++us,⟨as,us,v,vs,rfl,o,g,rfl,m⟩,by simp [e.1,hc.1],λu f=>?_,λj c u b a=>?_⟩
     .rcases cq1.1 f with h1|h1
      .exact e.2.1 u h1
      .exact hc.2.1 u h1
     .have h0:as.length=ds.length:=e.1;by_cases q:j<ds.length
      .rw [cp4 q] at b;rw [cp4 (by omega)] at a;exact e.2.2 j c u b a
      .rw [cp3 (by omega)] at b;rw [cp3 (by omega),h0] at a;exact hc.2.2 _ c u b a
   .cases hf
  |[],hf,_,_=>simp [F3] at hf
  | .un::ps,hf,_,_=>simp [F3] at hf
  | .one _::ps,hf,_,_=>simp [F3] at hf
  | .tup _::ps,hf,_,_=>simp [F3] at hf
  | .opt _ _::ps,hf,_,_=>simp [F3] at hf
 |(false,k)::gs,ps,cs,vs,hf,hl,hr=>by
  match k,ps,hf,hl,hr with
  |1,.one c::ps,hf,hl,hr=>
   simp only [F3,co1] at hf;obtain ⟨cs',d,rfl⟩:=hf
   match vs,hl,hr with
   |v::vs,hl,hr=>
    have e:=hr 0 _ _ rfl rfl;have i:=CsRel.inv e;obtain ⟨us,m,hc⟩:=N9 (σ:=σ) (vs:=vs) d (by simpa using hl) (λj p v n g=>hr (j+1) p v (by simpa using n) (by simpa using g));refine ⟨v::us,⟨v,us,vs,rfl,rfl,rfl,m⟩,by simp [hc.1],λu f=>?_,λj c' u b a=>?_⟩
    .rcases List.mem_cons.1 f with h1|h1
     .subst h1;exact i.1
     .exact hc.2.1 u h1
    .match j,b,a with
     |0,b,a=>simp at b a;subst b;subst a;exact i.2
     |j+1,b,a=>exact hc.2.2 j c' u (by simpa using b) (by simpa using a)
  |0,.one _::_,hf,_,_=>simp [F3] at hf
  |(_+2),.one _::_,hf,_,_=>simp [F3] at hf
  |_,[],hf,_,_=>simp [F3] at hf
  |_,.un::ps,hf,_,_=>simp [F3] at hf
  |_,.agg _::ps,hf,_,_=>simp [F3] at hf
  |_,.tup _::ps,hf,_,_=>simp [F3] at hf
  |_,.opt _ _::ps,hf,_,_=>simp [F3] at hf
theorem P3 {σ:List (Nat×PV U)}:∀ {gs:List (Bool×Nat)} {cs:List (Cell U)} {us vs:List Value},I8 gs us vs->CsRel w β h cs us->
  vs.length=gs.length/\∀ (j:Nat) (x:Bool×List (Cell U)) (v:Value),(D0 gs cs)[j]? =some x->vs[j]? =some v->VRel w β h x v
 |[],cs,us,vs,e,hc=>by obtain ⟨rfl,rfl⟩:=e;exact ⟨rfl,λj x v b=>by simp [D0] at b⟩
 |(true,k)::gs,cs,us,vs,e,hc=>by
  obtain ⟨a,r,v',vs',rfl,f,g,rfl,hr⟩:=e;subst f;obtain ⟨hl,i⟩:=P3 (σ:=σ) hr (show CsRel w β h (cs.drop a.length) r by
   have:=hc.drop a.length
   rwa [List.drop_left] at this)
  refine ⟨by simp [hl],λj x v b d=>?_⟩
  match j,b,d with
  |0,b,d=>
   simp only [D0,co2,cn4] at b d;subst b;subst d;refine ⟨a,g,?_⟩;have:=hc.take a.length
   rwa [List.take_left] at this
  |j+1,b,d=>exact i j x v (by simpa [D0] using b) (by simpa using d)
 |(false,k)::gs,cs,us,vs,e,hc=>by
  obtain ⟨c,r,vs',rfl,rfl,rfl,hr⟩:=e;obtain ⟨hl,i⟩:=P3 (σ:=σ) hr (show CsRel w β h (cs.drop 1) r from hc.drop 1);refine ⟨by simp [hl],λj x v b d=>?_⟩
  match j,b,d with
  |0,b,d=>simp only [D0,co2,cn4] at b d;subst b;subst d;exact hc.take 1
  |j+1,b,d=>exact i j x v (by simpa [D0] using b) (by simpa using d)
theorem J1 {α:Type}:∀ (gs:List (Bool×Nat)) (cs:List α),(D0 gs cs).length=gs.length
 |[],_=>rfl
 |(b,n)::gs,cs=>by simp [D0,J1 gs]
theorem bg0 (dst:Option Tmp) (j:Nat):B3 dst j=B3 dst 0+j:=by cases dst<;>simp [B3]
theorem bE0 {σ:List (Nat×PV U)} {b:Bool} {g:List (Cell U)} {v:Value} (r:VRel w β h (b,g) v) {p:PV U} (a:az5 b g=some p):PRel w β h σ p v:=by
 cases b with
 |true=>simp only [az5,if_true,cn4] at a;subst a;exact r
 |false=>
  simp only [az5,Bool.false_eq_true,if_false] at a;split at a
  .simp only [cn4] at a;subst a;exact r
  .cases a
theorem Y5 {α:Type} {k j:Nat} {a:α}:∀ {l:List (Nat×α)},look k (l++[(j,a)])=match look k l with
  |some x=>some x
  |none=>if j=k then some a else none
 |[]=>by
  by_cases h:j=k
  .subst h;simp [look]
  .simp [look,N0 h,h]
 |(i,b)::l=>by
  by_cases h:i=k
  .subst h;simp [look]
  .simp only [List.cons_append,look,N0 h,Bool.false_eq_true,if_false];exact Y5 (l:=l)
theorem aa3 {α:Type} {k:Nat} {a:α}:∀ {l:List (Nat×α)},look k l=some a->(k,a)∈l
 |[],h=>by simp [look] at h
 |(i,b)::l,h=>by
  simp only [look] at h;split at h
  .rename_i c;have:=cn5 c;subst this;simp only [cn4] at h;subst h;simp
  .simp [aa3 h]
structure Mt.Le (m m':Mt U):Prop where
 ι:∀ j id,look j m.ι=some id->look j m'.ι=some id
 ds:∀ k x,look k m.ds=some x->look k m'.ds=some x
 u:∀ x,x∈m.u->x∈m'.u
theorem Mt.Le.refl (m:Mt U):m.Le m:=⟨λ_ _ h=>h,λ_ _ h=>h,λ_ h=>h⟩
theorem Mt.Le.trans {a b c:Mt U} (x:a.Le b) (y:b.Le c):a.Le c:=⟨λj id h=>y.ι j id (x.ι j id h),λk d h=>y.ds k d (x.ds k d h),λz h=>y.u z (x.u z h)⟩
def Mt.Inj (m:Mt U):Prop:=∀ j j' id,look j m.ι=some id->look j' m.ι=some id->j=j'
theorem P4 {j id:Nat} {m m':Mt U} (c:aP6 j id m=some m'):m.Le m'/\look j m'.ι=some id/\(m.Inj->m'.Inj)/\m'.u=m.u:=by
 unfold aP6 at c;split at c
 .rename_i id' hl;revert c;cases hc:Nat.beq id' id with
  |false=>intro c;cases c
  |true=>intro c;simp only [cond_true,cn4] at c;subst c;have:=cn5 hc;subst this;exact ⟨Mt.Le.refl _,hl,id,rfl⟩
 .rename_i hl;revert c;cases hc:m.ι.any (λx=>Nat.beq x.2 id) with
  |true=>intro c;cases c
  |false=>
   intro c;simp only [cond_false,cn4] at c;subst c;have d:∀ i,look i m.ι≠some id:=by intro i b;have h1:=List.any_eq_false.1 hc _ (aa3 b);simp at h1
   refine ⟨⟨λi id' b=>?_,λ_ _ h=>h,λ_ h=>h⟩,?_,λg i i' id' b a=>?_,rfl⟩
   .dsimp only;rw [Y5,b]
   .dsimp only;rw [Y5,hl];simp
   .dsimp only at b a;rw [Y5] at b a;cases h1:look i m.ι with
    |some x=>
     rw [h1] at b;simp only [cn4] at b;subst b;cases h2:look i' m.ι with
     |some y=>rw [h2] at a;simp only [cn4] at a;subst a;exact g i i' _ h1 h2
     |none=>
      rw [h2] at a;simp only at a;split at a
      .simp only [cn4] at a;subst a;exact absurd h1 (d i)
      .cases a
    |none=>
     rw [h1] at b;simp only at b;split at b
     .rename_i f;simp only [cn4] at b;subst b;cases h2:look i' m.ι with
      |some y=>rw [h2] at a;simp only [cn4] at a;subst a;exact absurd h2 (d i')
      |none=>
       rw [h2] at a;simp only at a;split at a
       .rename_i e;rw [<-f,<-e]
       .cases a
     .cases b
theorem aB1:∀ {js ids:List Nat} {m m':Mt U},az8 js ids m=some m'->m.Le m'/\ids.length=js.length/\(∀ (i j id:Nat),js[i]? =some j->ids[i]? =some id->look j m'.ι=some id)/\(m.Inj->m'.Inj)/\m'.u=m.u
 |[],[],m,m',h=>by simp only [az8,cn4] at h;subst h;exact ⟨Mt.Le.refl _,rfl,λi j id h=>by simp at h,id,rfl⟩
 |[],_::_,_,_,h=>by simp [az8] at h
 |_::_,[],_,_,h=>by simp [az8] at h
 |j::js,id::ids,m,m',h=>by
  simp only [az8] at h;split at h
  .rename_i q h1;obtain ⟨d,e,f,g⟩:=P4 h1;obtain ⟨c,k,l,n,o⟩:=aB1 h;refine ⟨d.trans c,by simp [k],λi j' id' b a=>?_,λp=>n (f p),o.trans g⟩
   match i,b,a with
   |0,b,a=>simp only [co2,cn4] at b a;subst b;subst a;exact c.ι _ _ e
   |i+1,b,a=>exact l i j' id' (by simpa using b) (by simpa using a)
  .cases h
theorem T4 {k:Nat} {x:Datum U} {m m':Mt U} (h:aW0 k x m=some m'):m.Le m'/\look k m'.ds=some x/\(m.Inj->m'.Inj)/\m'.u=m.u:=by
 unfold aW0 at h;split at h
 .cases h
 .rename_i hl;simp only [cn4] at h;subst h;refine ⟨⟨λ_ _ h=>h,λi y a=>?_,λ_ h=>h⟩,?_,id,rfl⟩
  .dsimp only;rw [Y5,a]
  .dsimp only;rw [Y5,hl];simp
def CMatch (h g:Obs U) (tys:List Ty) (m:Mt U):CPat->Cell U->Prop
 | .un,_=>True
 | .d k,c=>∃ t x u,tys[k]? =some t/\asD g t c=some (x,u)/\look k m.ds=some x/\∀ y∈u,y∈m.u
 | .row j,c=>∃ id e t l ver,c=.row id ver/\look id h=some (.row e t l ver true)/\look j m.ι=some id
 | .ptr j off,c=>∃ id,c=.ptr id off/\look j m.ι=some id
 | .map j,c=>∃ id,c=.map id/\look j m.ι=some id
 | .clo f js,c=>∃ ids,c=.clo f ids/\ids.length=js.length/\∀ (i j id:Nat),js[i]? =some j->ids[i]? =some id->look j m.ι=some id
 | .yld j,c=>∃ id,c=.yld id/\look j m.ι=some id
 | .fn f,c=>c=.lit (.func (.func f) #[] #[])
 | .nil,c=>c=.lit (.slice none 0 0)
 | .dp j,c=>∃ id e t ms l ver iv,c=.dc id (.self ver)/\look id h=some (.dp (.rows e t ms l ver iv true none))/\look j m.ι=some id
 | .ms j,c=>∃ id kt e t l ver iv,c=.dc id (.self ver)/\look id h=some (.dp (.maps kt e t l ver iv true none))/\look j m.ι=some id
theorem CMatch.le {g:Obs U} {tys:List Ty} {m m':Mt U} (x:m.Le m') {p:CPat} {c:Cell U} (r:CMatch h g tys m p c):CMatch h g tys m' p c:=by
 cases p with
 |un=>trivial
 |d k=>obtain ⟨t,y,u,h1,h2,h3,h4⟩:=r;exact ⟨t,y,u,h1,h2,x.ds _ _ h3,λz b=>x.u z (h4 z b)⟩
 |row j=>obtain ⟨id,e,t,l,ver,h1,h2,h3⟩:=r;exact ⟨id,e,t,l,ver,h1,h2,x.ι _ _ h3⟩
 |ptr j off=>obtain ⟨id,h1,h2⟩:=r;exact ⟨id,h1,x.ι _ _ h2⟩
 |map j=>obtain ⟨id,h1,h2⟩:=r;exact ⟨id,h1,x.ι _ _ h2⟩
 |clo f js=>obtain ⟨ids,h1,h2,h3⟩:=r;exact ⟨ids,h1,h2,λi j id n a=>x.ι _ _ (h3 i j id n a)⟩
 |yld j=>obtain ⟨id,h1,h2⟩:=r;exact ⟨id,h1,x.ι _ _ h2⟩
 |fn f=>exact r
 |nil=>exact r
 |dp j=>obtain ⟨id,e,t,ms,l,ver,iv,h1,h2,h3⟩:=r;exact ⟨id,e,t,ms,l,ver,iv,h1,h2,x.ι _ _ h3⟩
 |ms j=>obtain ⟨id,kt,e,t,l,ver,iv,h1,h2,h3⟩:=r;exact ⟨id,kt,e,t,l,ver,iv,h1,h2,x.ι _ _ h3⟩
theorem cb1 {g:Obs U} (hg:∀ id o,look id g=some o->look id h=some o) {tys:List Ty} {p:CPat} {c:Cell U} {m m':Mt U} (hm:mC g tys p c m=some m') (hf:Freezes h m.u):
  m.Le m'/\Freezes h m'.u/\(m.Inj->m'.Inj)/\CMatch h g tys m' p c:=by
 cases p with
 |un=>simp only [mC,cn4] at hm;subst hm;exact ⟨Mt.Le.refl _,hf,id,trivial⟩
 |d k=>
  simp only [mC] at hm;split at hm
  .rename_i t A;split at hm
   .rename_i x u z;obtain ⟨i,q,r,s⟩:=T4 hm;obtain ⟨B,_⟩:=V6 hg z;refine ⟨⟨i.ι,i.ds,λy w=>i.u y (cq1.2 (.inl w))⟩,?_,r,t,x,u,A,z,q,λy w=>i.u y (cq1.2 (.inr w))⟩;rw [s];intro id o hm;rcases cq1.1 hm with h1|h1
    .exact hf id o h1
    .exact B id o h1
   .cases hm
  .cases hm
 |row j=>
  simp only [mC] at hm;split at hm
  .rename_i id ver;split at hm
   .rename_i e t l ver' lv hl;revert hm;cases hc:(Nat.beq ver ver'&&lv) with
    |false=>intro hm;cases hm
    |true=>intro hm;simp only [cn7] at hc;have h1:=cn5 hc.1;have h2:=hc.2;subst h1;subst h2;obtain ⟨i,q,r,s⟩:=P4 hm;exact ⟨i,by rw [s];exact hf,r,id,e,t,l,ver,rfl,hg _ _ hl,q⟩
   .cases hm
  .cases hm
 |ptr j off=>
  simp only [mC] at hm;split at hm
  .rename_i id off';revert hm;cases hc:Nat.beq off off' with
   |false=>intro hm;cases hm
   |true=>intro hm;have h1:=cn5 hc;subst h1;obtain ⟨i,q,r,s⟩:=P4 hm;exact ⟨i,by rw [s];exact hf,r,id,rfl,q⟩
  .cases hm
 |map j=>
  simp only [mC] at hm;split at hm
  .rename_i id;obtain ⟨i,q,r,s⟩:=P4 hm;exact ⟨i,by rw [s];exact hf,r,id,rfl,q⟩
  .cases hm
 |clo f js=>
  simp only [mC] at hm;split at hm
  .rename_i f' ids;revert hm;cases hc:Nat.beq f f' with
   |false=>intro hm;cases hm
   |true=>intro hm;have h1:=cn5 hc;subst h1;obtain ⟨i,q,r,s,C⟩:=aB1 hm;exact ⟨i,by rw [C];exact hf,s,ids,rfl,q,r⟩
  .cases hm
 |yld j=>
  simp only [mC] at hm;split at hm
  .rename_i id;obtain ⟨i,q,r,s⟩:=P4 hm;exact ⟨i,by rw [s];exact hf,r,id,rfl,q⟩
  .cases hm
 |fn f=>
  simp only [mC] at hm;split at hm
  .rename_i f' a b;revert hm;cases hc:(Nat.beq f f'&&(Nat.beq a.size 0&&Nat.beq b.size 0)) with
   |false=>intro hm;cases hm
   |true=>intro hm;simp only [cn7] at hc;simp only [cond_true,cn4] at hm;subst hm;have h1:=cn5 hc.1;have h2:=Array.eq_empty_of_size_eq_zero (cn5 hc.2.1);have h3:=Array.eq_empty_of_size_eq_zero (cn5 hc.2.2);subst h1;subst h2;subst h3;exact ⟨Mt.Le.refl _,hf,id,rfl⟩
  .cases hm
 |nil=>
  simp only [mC] at hm;split at hm
  .rename_i n c';revert hm;cases hc:(Nat.beq n 0&&Nat.beq c' 0) with
   |false=>intro hm;cases hm
   |true=>intro hm;simp only [cn7] at hc;simp only [cond_true,cn4] at hm;subst hm;have h1:=cn5 hc.1;have h2:=cn5 hc.2;subst h1;subst h2;exact ⟨Mt.Le.refl _,hf,id,rfl⟩
  .cases hm
 |dp j=>
  simp only [mC] at hm;split at hm
  .rename_i id v;split at hm
   .rename_i e t ms l ver iv hl;revert hm;cases hc:Nat.beq v ver with
    |false=>intro hm;cases hm
    |true=>intro hm;have h1:=cn5 hc;subst h1;obtain ⟨i,q,r,s⟩:=P4 hm;exact ⟨i,by rw [s];exact hf,r,id,_,_,_,_,_,_,rfl,hg _ _ hl,q⟩
   .cases hm
  .cases hm
 |ms j=>
  simp only [mC] at hm;split at hm
  .rename_i id v;split at hm
   .rename_i kt e t l ver iv hl;revert hm;cases hc:Nat.beq v ver with
    |false=>intro hm;cases hm
    |true=>intro hm;have h1:=cn5 hc;subst h1;obtain ⟨i,q,r,s⟩:=P4 hm;exact ⟨i,by rw [s];exact hf,r,id,_,_,_,_,_,_,rfl,hg _ _ hl,q⟩
   .cases hm
  .cases hm
theorem ay6 {g:Obs U} (hg:∀ id o,look id g=some o->look id h=some o) {tys:List Ty}:∀ {ps:List CPat} {cs:List (Cell U)} {m m':Mt U},mCs g tys ps cs m=some m'->Freezes h m.u->
  m.Le m'/\Freezes h m'.u/\(m.Inj->m'.Inj)/\cs.length=ps.length/\∀ (i:Nat) (p:CPat) (c:Cell U),ps[i]? =some p->cs[i]? =some c->CMatch h g tys m' p c
 |[],[],m,m',hm,hf=>by simp only [mCs,cn4] at hm;subst hm;exact ⟨Mt.Le.refl _,hf,id,rfl,λi p c h=>by simp at h⟩
 |[],_::_,_,_,hm,_=>by simp [mCs] at hm
 |_::_,[],_,_,hm,_=>by simp [mCs] at hm
 |p::ps,c::cs,m,m',hm,hf=>by
  simp only [mCs] at hm;split at hm
  .rename_i w h1;obtain ⟨f,j,k,l⟩:=cb1 hg h1 hf;obtain ⟨e,n,r,s,t⟩:=ay6 hg hm j;refine ⟨f.trans e,n,λv=>r (k v),by simp [s],λi q d a b=>?_⟩
   match i,a,b with
   |0,a,b=>simp only [co2,cn4] at a b;subst a;subst b;exact l.le e
   |i+1,a,b=>exact t i q d (by simpa using a) (by simpa using b)
  .cases hm
def OMatch (h g:Obs U) (tys:List Ty) (m:Mt U):OPat->Ob U->Prop
 | .box e ps,o=>∃ cs,o=.box e cs/\cs.length=ps.length/\∀ (i:Nat) (p:CPat) (c:Cell U),ps[i]? =some p->cs[i]? =some c->CMatch h g tys m p c
 | .row k,o=>∃ e t l ver,o=.row e t l ver true/\tys[k]? =some (.slice e t)/\look k m.ds=some ⟨.slice e t,l⟩
 | .map k,o=>∃ kt vt l,o=.map kt vt l/\tys[k]? =some (.map kt vt)/\look k m.ds=some ⟨.map kt vt,l⟩
 | .loop k,o=>∃ st,o=.loop st/\tys[k]? =some (.int .i64)/\look k m.ds=some ⟨.int .i64,st⟩
 | .dp k ms,o=>∃ e t l ver iv,o=.dp (.rows e t ms l ver iv true none)/\tys[k]? =some (.slice e t)/\look k m.ds=some ⟨.slice e t,l⟩
 | .ms k,o=>∃ kt e t l ver iv,o=.dp (.maps kt e t l ver iv true none)/\tys[k]? =some (.map kt (.slice e t))/\look k m.ds=some ⟨.map kt (.slice e t),l⟩
theorem OMatch.le {g:Obs U} {tys:List Ty} {m m':Mt U} (x:m.Le m') {p:OPat} {o:Ob U} (r:OMatch h g tys m p o):OMatch h g tys m' p o:=by
 cases p with
 |box e ps=>obtain ⟨cs,h1,h2,h3⟩:=r;exact ⟨cs,h1,h2,λi p c a hc=>(h3 i p c a hc).le x⟩
 |row k=>obtain ⟨e,t,l,ver,h1,h2,h3⟩:=r;exact ⟨e,t,l,ver,h1,h2,x.ds _ _ h3⟩
 |map k=>obtain ⟨e,t,l,h1,h2,h3⟩:=r;exact ⟨e,t,l,h1,h2,x.ds _ _ h3⟩
 |loop k=>obtain ⟨st,h1,h2,h3⟩:=r;exact ⟨st,h1,h2,x.ds _ _ h3⟩
 |dp k ms=>obtain ⟨e,t,l,ver,iv,h1,h2,h3⟩:=r;exact ⟨e,t,l,ver,iv,h1,h2,x.ds _ _ h3⟩
 |ms k=>obtain ⟨kt,e,t,l,ver,iv,h1,h2,h3⟩:=r;exact ⟨kt,e,t,l,ver,iv,h1,h2,x.ds _ _ h3⟩
theorem cb2 {g:Obs U} (hg:∀ id o,look id g=some o->look id h=some o) {tys:List Ty} {p:OPat} {o:Ob U} {m m':Mt U} (hm:mO g tys p o m=some m') (hf:Freezes h m.u):
  m.Le m'/\Freezes h m'.u/\(m.Inj->m'.Inj)/\OMatch h g tys m' p o:=by
 cases p with
 |box e ps=>
  simp only [mO] at hm;split at hm
  .rename_i e' cs;revert hm;cases hc:Nat.beq e e' with
   |false=>intro hm;cases hm
   |true=>intro hm;have h1:=cn5 hc;subst h1;obtain ⟨a,b,c,d,f⟩:=ay6 hg hm hf;exact ⟨a,b,c,cs,rfl,d,f⟩
  .cases hm
 |row k=>
  simp only [mO] at hm;split at hm
  .rename_i e t l ver lv;revert hm;cases hc:(lv&&tys[k]? ==some (.slice e t)) with
   |false=>intro hm;cases hm
   |true=>intro hm;simp only [cn7,beq_iff_eq] at hc;obtain ⟨h1,h2⟩:=hc;subst h1;obtain ⟨a,b,c,d⟩:=T4 hm;exact ⟨a,by rw [d];exact hf,c,e,t,l,ver,rfl,h2,b⟩
  .cases hm
 |map k=>
  simp only [mO] at hm;split at hm
  .rename_i e t l;revert hm;cases hc:(tys[k]? ==some (.map e t)) with
   |false=>intro hm;cases hm
   |true=>intro hm;simp only [beq_iff_eq] at hc;obtain ⟨a,b,c,d⟩:=T4 hm;exact ⟨a,by rw [d];exact hf,c,e,t,l,rfl,hc,b⟩
  .cases hm
 |loop k=>
  simp only [mO] at hm;split at hm
  .rename_i st;revert hm;cases hc:(tys[k]? ==some (.int .i64)) with
   |false=>intro hm;cases hm
   |true=>intro hm;simp only [beq_iff_eq] at hc;obtain ⟨a,b,c,d⟩:=T4 hm;exact ⟨a,by rw [d];exact hf,c,st,rfl,hc,b⟩
  .cases hm
 |dp k ms=>
  simp only [mO] at hm;split at hm
  .rename_i e t ms' l ver iv;revert hm;cases hc:(tys[k]? ==some (.slice e t)&&(ms==ms')) with
   |false=>intro hm;cases hm
   |true=>intro hm;simp only [cn7,beq_iff_eq] at hc;obtain ⟨h1,rfl⟩:=hc;obtain ⟨a,b,c,d⟩:=T4 hm;exact ⟨a,by rw [d];exact hf,c,e,t,l,ver,iv,rfl,h1,b⟩
  .cases hm
 |ms k=>
  simp only [mO] at hm;split at hm
  .rename_i kt e t l ver iv;revert hm;cases hc:(tys[k]? ==some (.map kt (.slice e t))) with
   |false=>intro hm;cases hm
   |true=>intro hm;simp only [beq_iff_eq] at hc;obtain ⟨a,b,c,d⟩:=T4 hm;exact ⟨a,by rw [d];exact hf,c,kt,e,t,l,ver,iv,rfl,hc,b⟩
  .cases hm
theorem aR0 {g:Obs U} (hg:∀ id o,look id g=some o->look id h=some o) {tys:List Ty}:∀ {os:List OPat} {j:Nat} {m m':Mt U},mOs g tys j os m=some m'->Freezes h m.u->
  m.Le m'/\Freezes h m'.u/\(m.Inj->m'.Inj)/\∀ (i:Nat) (p:OPat),os[i]? =some p->∃ id o,look (j+i) m'.ι=some id/\look id g=some o/\look id h=some o/\OMatch h g tys m' p o
 |[],j,m,m',hm,hf=>by simp only [mOs,cn4] at hm;subst hm;exact ⟨Mt.Le.refl _,hf,id,λi p h=>by simp at h⟩
 |p::os,j,m,m',hm,hf=>by
  simp only [mOs] at hm;split at hm
  .rename_i id b;split at hm
   .rename_i o d;split at hm
    .rename_i z h1;obtain ⟨e,f,k,l⟩:=cb2 hg h1 hf;obtain ⟨c,n,r,s⟩:=aR0 hg hm f;refine ⟨e.trans c,n,λt=>r (k t),λi q a=>?_⟩
     match i,a with
     |0,a=>simp only [co2,cn4] at a;subst a;exact ⟨id,o,c.ι _ _ (e.ι _ _ (by simpa using b)),d,hg _ _ d,l.le c⟩
     |i+1,a=>obtain ⟨id',o',v,w,x,y⟩:=s i q (by simpa using a);exact ⟨id',o',by rw [show j+(i+1)=j+1+i by omega];exact v,w,x,y⟩
    .cases hm
   .cases hm
  .cases hm
theorem ak1 {α:Type} {l:List (Nat×α)}:∀ {c k:Nat} {xs:List α},aJ8 l k c=some xs->xs.length=c/\∀ i,i<c->xs[i]? =look (k+i) l
 |0,k,xs,h=>by simp only [aJ8,cn4] at h;subst h;exact ⟨rfl,λi a=>by omega⟩
 |c+1,k,xs,h=>by
  simp only [aJ8] at h;split at h
  .rename_i x b;simp only [co1] at h;obtain ⟨ys,d,rfl⟩:=h;obtain ⟨h1,h2⟩:=ak1 d;refine ⟨by simp [h1],λi a=>?_⟩
   match i with
   |0=>simp [b]
   |i+1=>rw [List.getElem?_cons_succ,h2 i (by omega)];congr 1;omega
  .cases h
theorem aB2 {ts:List Ty} {c:Dens U.T ts} {k:Nat} {d:Datum U}:(A7 U ts c)[k]? =some d->ts[k]? =some d.1:=by
 induction ts generalizing k with
 |nil=>intro h;simp [A7] at h
 |cons t ts ih=>
  intro h
  match k,h with
  |0,h=>simp only [A7,co2,cn4] at h;subst h;rfl
  |k+1,h=>simpa using ih (c:=c.2) (by simpa [A7] using h)
theorem aR1 {ds:List (Datum U)} {ι vr:Nat->Nat}:∀ {os:List OPat} {j0:Nat},(∀ i i',j0<=i->i<j0+os.length->j0<=i'->i'<j0+os.length->ι i=ι i'->i=i')->
  (∀ (i:Nat) (p:OPat),os[i]? =some p->look (ι (j0+i)) (iOs ds ι vr j0 os)=some (iO ds ι vr (j0+i) p))/\
  (∀ id o,look id (iOs ds ι vr j0 os)=some o->∃ i p,os[i]? =some p/\id=ι (j0+i)/\o=iO ds ι vr (j0+i) p)
 |[],j0,_=>⟨λi p h=>by simp at h,λid o h=>by simp [iOs,look] at h⟩
 |p::os,j0,k=>by
  obtain ⟨h1,h2⟩:=aR1 (ds:=ds) (ι:=ι) (vr:=vr) (os:=os) (j0:=j0+1) (λi i' a b c d e=>k i i' (by omega) (by simp;omega) (by omega) (by simp;omega) e);refine ⟨λi q f=>?_,λid o h=>?_⟩
  .match i,f with
   |0,f=>simp only [co2,cn4] at f;subst f;simp [iOs,look]
   |i+1,f=>
    have l:i<os.length:=by
     have:os[i]? =some q:=by simpa using f
     exact (cn9.1 this).1
    have g:¬ ι j0=ι (j0+(i+1)):=by intro e;have:=k j0 (j0+(i+1)) (Nat.le_refl _) (by simp) (by omega) (by simp;omega) e;omega
    simp only [iOs,look,N0 g,Bool.false_eq_true,if_false];rw [show j0+(i+1)=j0+1+i by omega];exact h1 i q (by simpa using f)
  .simp only [iOs,look] at h;split at h
   .rename_i j;have j:=cn5 j;simp only [cn4] at h;exact ⟨0,p,rfl,j.symm,h.symm⟩
   .obtain ⟨i,q,m,n,r⟩:=h2 id o h;exact ⟨i+1,q,by simpa using m,by rw [n];congr 1;omega,by rw [r];congr 1;omega⟩
theorem bg1 {ds:List (Datum U)} {ι vr:Nat->Nat} {id:Nat} {o:Ob U}:∀ {os:List OPat} {j0:Nat},(id,o)∈iOs ds ι vr j0 os->∃ i p,os[i]? =some p/\id=ι (j0+i)/\o=iO ds ι vr (j0+i) p
 |[],_,h=>by simp [iOs] at h
 |p::os,j0,h=>by
  simp only [iOs,List.mem_cons,co6] at h;rcases h with ⟨h1,h2⟩|h
  .exact ⟨0,p,rfl,h1,h2⟩
  .obtain ⟨i,q,a,b,c⟩:=bg1 h;exact ⟨i+1,q,by simpa using a,by rw [b];congr 1;omega,by rw [c];congr 1;omega⟩
theorem S0 {i j:Nat} (h:oid i=oid j):i=j:=by simp only [oid] at h;omega
theorem bE1 {ds:List (Datum U)} {ι vr:Nat->Nat} {j:Nat} {p:OPat}:(iO ds ι vr j p).live=true:=by cases p<;>simp only [iO]<;>(try split)<;>rfl
end
end Go.VT
end
section
namespace Go.VT
noncomputable section
open Go.RowKit
variable {U:Univ} {E:Env U} {F:Fr} {n:Nat} {β:Nm} {s:St U} {ρ:Operand->Value} {tmps:Array Value} {w:World} {o:Oper} {e:Eff U} {h:Obs U}
def ιOf (m:Mt U) (j:Nat):Nat:=(look j m.ι).getD 0
def S1 (β:Nm) (m:Mt U) (M:Nat->Prop):Nm:=⟨λid=>β (ιOf m (id-1000000)),M,λid=>β.lp (ιOf m (id-1000000))⟩
def E3 (ds:List (Datum U)) (os:List OPat):Obs U:=iOs ds oid (λ_=>0) 0 os
theorem D3 {ds:List (Datum U)} {os:List OPat} {j:Nat} {p:OPat} (a:os[j]? =some p):look (oid j) (E3 ds os)=some (iO ds oid (λ_=>0) j p):=by
 have:=(aR1 (ds:=ds) (ι:=oid) (vr:=λ_=>0) (os:=os) (j0:=0) (λi i' _ _ _ _ e=>S0 e)).1 j p a
 rwa [Nat.zero_add] at this
theorem G2 {ds:List (Datum U)} {os:List OPat} {id:Nat} {o:Ob U} (hl:look id (E3 ds os)=some o):∃ j p,os[j]? =some p/\id=oid j/\o=iO ds oid (λ_=>0) j p:=by obtain ⟨i,p,h1,h2,h3⟩:=(aR1 (ds:=ds) (ι:=oid) (vr:=λ_=>0) (os:=os) (j0:=0) (λi i' _ _ _ _ e=>S0 e)).2 id o hl;rw [Nat.zero_add] at h2 h3;exact ⟨i,p,h1,h2,h3⟩
structure Matched (F:Fr) (w:World) (β:Nm) (h g:Obs U) (tys:List Ty) (os:List OPat) (ds:List (Datum U)) (m:Mt U):Prop where
 k:Ok F w β h
 hg:∀ id o,look id g=some o->look id h=some o
 hf:Freezes h m.u
 inj:m.Inj
 lt:∀ j id,look j m.ι=some id->j<os.length
 obs:∀ (i:Nat) (p:OPat),os[i]? =some p->∃ id o,look i m.ι=some id/\look id h=some o/\OMatch h g tys m p o
 dj:∀ j id,look j m.ι=some id->∀ o,(id,o)∉m.u
 dat:∀ (k:Nat) (x:Datum U) (t:Ty),tys[k]? =some t->look k m.ds=some x->ds[k]? =some x
section
variable {g:Obs U} {tys:List Ty} {os:List OPat} {ds:List (Datum U)} {m:Mt U}
theorem H4 {M:Nat->Prop} {j id:Nat} (a:look j m.ι=some id):S1 β m M (oid j)=β id:=by simp [S1,oid,ιOf,a]
theorem ay7 {M:Nat->Prop} {j id:Nat} (a:look j m.ι=some id):(S1 β m M).lp (oid j)=β.lp id:=by simp [S1,oid,ιOf,a]
theorem Matched.keep (G:Matched F w β h g tys os ds m) {j id:Nat} (a:look j m.ι=some id):look id (upds h m.u)=look id h:=B6 (G.dj j id a)
theorem Matched.at_ (G:Matched F w β h g tys os ds m) {j id:Nat} (b:look j m.ι=some id):∃ p o,os[j]? =some p/\look id h=some o/\OMatch h g tys m p o:=by have a:=G.lt j id b;obtain ⟨id',o,h1,h2,h3⟩:=G.obs j os[j] (cn6 a);rw [b] at h1;simp only [cn4] at h1;subst h1;exact ⟨os[j],o,cn6 a,h2,h3⟩
theorem OMatch.live {p:OPat} {o:Ob U} (r:OMatch h g tys m p o):o.live=true:=by
 cases p with
 |box e ps=>obtain ⟨cs,rfl,_⟩:=r;rfl
 |row k=>obtain ⟨e,t,l,ver,rfl,_⟩:=r;rfl
 |map k=>obtain ⟨e,t,l,rfl,_⟩:=r;rfl
 |loop k=>obtain ⟨st,rfl,_⟩:=r;rfl
 |dp k ms=>obtain ⟨e,t,l,ver,iv,rfl,_⟩:=r;rfl
 |ms k=>obtain ⟨kt,e,t,l,ver,iv,rfl,_⟩:=r;rfl
theorem Matched.live (G:Matched F w β h g tys os ds m) {M:Nat->Prop} (hM:∀ b,M b->Live β (upds h m.u) b):∀ b,Live (S1 β m M) (E3 ds os) b->Live β (upds h m.u) b:=by
 rintro b (hm|⟨id,o,h1,h2,h3⟩)
 .exact hM b hm
 .obtain ⟨j,p,c,d,i⟩:=G2 h1;obtain ⟨id',o',a,e,f⟩:=G.obs j p c;rw [d,H4 a] at h3;exact .inr ⟨id',o',(G.keep a).trans e,f.live,h3⟩
theorem Matched.rep (G:Matched F w β h g tys os ds m) {M:Nat->Prop} (hM:∀ b,M b->Live β (upds h m.u) b) {d:Datum U} {v:Value} (r:Rep U w (Live β (upds h m.u)) d v):Rep U w (Live (S1 β m M) (E3 ds os)) d v:=
 r.mono (Nat.le_refl _) (λ_ _ _=>rfl) (λb _ a=>G.live hM b a)
theorem Matched.cell (G:Matched F w β h g tys os ds m) {M:Nat->Prop} (hM:∀ b,M b->Live β (upds h m.u) b) {p:CPat} {c:Cell U} {v:Value} (r:CMatch h g tys m p c) (hc:CRel w β h c v):
  CRel w (S1 β m M) (E3 ds os) (iC ds oid (λ_=>0) p) v:=by
 have A:=H8 G.k G.hf;have O:=A.ext.cell hc;cases p with
 |un=>trivial
 |d k=>obtain ⟨t,x,u,h1,h2,h3,h4⟩:=r;have z:=G.dat k x t h1 h3;simp only [iC,z];exact G.rep hM (ag1 G.k G.hg h2 hc G.hf h4)
 |row j=>
  obtain ⟨id,e,t,l,ver,rfl,h2,h3⟩:=r;obtain ⟨p,o,s,q,a⟩:=G.at_ h3;rw [h2] at q;simp only [cn4] at q;subst q;obtain ⟨e',t',l',ver',lv',n,y,C⟩:=hc;rw [h2] at n;simp only [cn4,Ob.row.injEq] at n;obtain ⟨rfl,rfl,_,rfl,_⟩:=n;have P:=C rfl;cases p with
  |row k=>obtain ⟨H,I,J,ver2,s1,s2,B⟩:=a;have z:=G.dat k _ _ s2 B;have hl:=D3 (ds:=ds) s;simp only [iO,z] at hl;exact ⟨_,_,_,_,_,hl,Nat.le_refl _,λ_=>by rw [P];exact (H4 h3).symm⟩
  |box e ps=>obtain ⟨cs,s1,_⟩:=a;cases s1
  |map k=>obtain ⟨_,_,_,s1,_⟩:=a;cases s1
  |loop k=>obtain ⟨_,s1,_⟩:=a;cases s1
  |dp k ms=>obtain ⟨_,_,_,_,_,s1,_⟩:=a;cases s1
  |ms k=>obtain ⟨_,_,_,_,_,_,s1,_⟩:=a;cases s1
 |ptr j off=>
  obtain ⟨id,rfl,h3⟩:=r;obtain ⟨p,o,s,q,a⟩:=G.at_ h3;obtain ⟨e,cs,b,n,y,C⟩:=hc;rw [q] at n;simp only [cn4] at n;subst n;cases p with
  |box e ps=>exact ⟨e,_,b,D3 s,(H4 h3).trans y,C⟩
  |row k=>obtain ⟨_,_,_,_,s1,_⟩:=a;cases s1
  |map k=>obtain ⟨_,_,_,s1,_⟩:=a;cases s1
  |loop k=>obtain ⟨_,s1,_⟩:=a;cases s1
  |dp k ms=>obtain ⟨_,_,_,_,_,s1,_⟩:=a;cases s1
  |ms k=>obtain ⟨_,_,_,_,_,_,s1,_⟩:=a;cases s1
 |map j=>
  obtain ⟨id,rfl,h3⟩:=r;obtain ⟨p,o,s,q,a⟩:=G.at_ h3;obtain ⟨kt,vt,l,n,y⟩:=hc;rw [q] at n;simp only [cn4] at n;subst n;cases p with
  |map k=>obtain ⟨H,I,J,s1,s2,B⟩:=a;have z:=G.dat k _ _ s2 B;have hl:=D3 (ds:=ds) s;simp only [iO,z] at hl;exact ⟨_,_,_,hl,by rw [y];exact (H4 h3).symm⟩
  |box e ps=>obtain ⟨cs,s1,_⟩:=a;cases s1
  |row k=>obtain ⟨_,_,_,_,s1,_⟩:=a;cases s1
  |loop k=>obtain ⟨_,s1,_⟩:=a;cases s1
  |dp k ms=>obtain ⟨_,_,_,_,_,s1,_⟩:=a;cases s1
  |ms k=>obtain ⟨_,_,_,_,_,_,s1,_⟩:=a;cases s1
 |clo f js=>
  obtain ⟨ids,rfl,h2,h3⟩:=r;obtain ⟨bs,n,y,C⟩:=hc;refine ⟨bs,n,by simp [y,h2],λi id' b L Q=>?_⟩;simp only [co9,co1] at L;obtain ⟨j,N,rfl⟩:=L;have K:i<ids.length:=by rw [h2];exact (cn9.1 N).1
  have E:=cn6 K;have h3:=h3 i j _ N E;obtain ⟨e,cs,s1,s2⟩:=C i _ b E Q;obtain ⟨p,o,s,q,a⟩:=G.at_ h3;rw [q] at s1;simp only [cn4] at s1;subst s1;cases p with
  |box e' ps=>exact ⟨e',_,D3 s,(H4 h3).trans s2⟩
  |row k=>obtain ⟨_,_,_,_,s1,_⟩:=a;cases s1
  |map k=>obtain ⟨_,_,_,s1,_⟩:=a;cases s1
  |loop k=>obtain ⟨_,s1,_⟩:=a;cases s1
  |dp k ms=>obtain ⟨_,_,_,_,_,s1,_⟩:=a;cases s1
  |ms k=>obtain ⟨_,_,_,_,_,_,s1,_⟩:=a;cases s1
 |yld j=>
  obtain ⟨id,rfl,h3⟩:=r;obtain ⟨p,o,s,q,a⟩:=G.at_ h3;obtain ⟨st,n,y⟩:=hc;rw [q] at n;simp only [cn4] at n;subst n;cases p with
  |loop k=>obtain ⟨st2,s1,s2,B⟩:=a;have z:=G.dat k _ _ s2 B;have hl:=D3 (ds:=ds) s;simp only [iO,z] at hl;exact ⟨_,hl,by rw [y];exact (H4 h3).symm⟩
  |box e ps=>obtain ⟨cs,s1,_⟩:=a;cases s1
  |row k=>obtain ⟨_,_,_,_,s1,_⟩:=a;cases s1
  |map k=>obtain ⟨_,_,_,s1,_⟩:=a;cases s1
  |dp k ms=>obtain ⟨_,_,_,_,_,s1,_⟩:=a;cases s1
  |ms k=>obtain ⟨_,_,_,_,_,_,s1,_⟩:=a;cases s1
 |fn f=>subst r;exact hc
 |nil=>subst r;exact hc
 |dp j=>
  obtain ⟨id,e,t,ms,l,ver,iv,rfl,h2,h3⟩:=r;obtain ⟨p,o,s,q,a⟩:=G.at_ h3;rw [h2] at q;simp only [cn4] at q;subst q;obtain ⟨D,n,y⟩:=hc;rw [h2] at n;simp only [cn4,Ob.dp.injEq] at n;subst n;cases p with
  |dp k ms'=>obtain ⟨H,I,J,ver2,iv2,s1,s2,B⟩:=a;cases s1;have z:=G.dat k _ _ s2 B;have hl:=D3 (ds:=ds) s;simp only [iO,z] at hl;exact ⟨_,hl,Nat.le_refl _,λ_=>by rw [H4 h3];exact y.2 rfl⟩
  |row k=>obtain ⟨_,_,_,_,s1,_⟩:=a;cases s1
  |box e ps=>obtain ⟨cs,s1,_⟩:=a;cases s1
  |map k=>obtain ⟨_,_,_,s1,_⟩:=a;cases s1
  |loop k=>obtain ⟨_,s1,_⟩:=a;cases s1
  |ms k=>obtain ⟨_,_,_,_,_,_,s1,_⟩:=a;cases s1
 |ms j=>
  obtain ⟨id,kt,e,t,l,ver,iv,rfl,h2,h3⟩:=r;obtain ⟨p,o,s,q,a⟩:=G.at_ h3;rw [h2] at q;simp only [cn4] at q;subst q;obtain ⟨D,n,y⟩:=hc;rw [h2] at n;simp only [cn4,Ob.dp.injEq] at n;subst n;cases p with
  |ms k=>obtain ⟨kt2,H,I,J,ver2,iv2,s1,s2,B⟩:=a;cases s1;have z:=G.dat k _ _ s2 B;have hl:=D3 (ds:=ds) s;simp only [iO,z] at hl;exact ⟨_,hl,Nat.le_refl _,λ_=>by rw [H4 h3];exact y.2 rfl⟩
  |row k=>obtain ⟨_,_,_,_,s1,_⟩:=a;cases s1
  |box e ps=>obtain ⟨cs,s1,_⟩:=a;cases s1
  |map k=>obtain ⟨_,_,_,s1,_⟩:=a;cases s1
  |loop k=>obtain ⟨_,s1,_⟩:=a;cases s1
  |dp k ms=>obtain ⟨_,_,_,_,_,s1,_⟩:=a;cases s1
theorem CsRel.of {β:Nm} {h:Obs U} {cs:List (Cell U)} {vs:List Value} (hl:vs.length=cs.length) (h1:∀ v∈vs,v.oneCell'=true) (hc:∀ (j:Nat) (c:Cell U) (v:Value),cs[j]? =some c->vs[j]? =some v->CRel w β h c v):CsRel w β h cs vs:=⟨hl,h1,hc⟩
theorem Matched.cells (G:Matched F w β h g tys os ds m) {M:Nat->Prop} (hM:∀ b,M b->Live β (upds h m.u) b) {ps:List CPat} {cs:List (Cell U)} (hl:cs.length=ps.length)
  (r:∀ (i:Nat) (p:CPat) (c:Cell U),ps[i]? =some p->cs[i]? =some c->CMatch h g tys m p c) {vs:List Value} (hc:CsRel w β h cs vs):CsRel w (S1 β m M) (E3 ds os) (ps.map (iC ds oid (λ_=>0))) vs:=by
 refine ⟨by rw [hc.1,hl];simp,hc.2.1,λj c v d f=>?_⟩;simp only [co9,co1] at d;obtain ⟨p,e,rfl⟩:=d;have a:j<cs.length:=by rw [hl];exact (cn9.1 e).1
 exact G.cell hM (r j p _ e (cn6 a)) (hc.2.2 j _ v (cn6 a) f)
theorem Matched.obj (G:Matched F w β h g tys os ds m) {M:Nat->Prop} (hM:∀ b,M b->Live β (upds h m.u) b) {j:Nat} {p:OPat} (I:os[j]? =some p):
  ORel F.B w (S1 β m M) (E3 ds os) (oid j) (iO ds oid (λ_=>0) j p):=by
 have A:=H8 G.k G.hf;obtain ⟨id,o,h1,h2,h3⟩:=G.obs j p I;have J:=G.k.obj id o h2;have a:=A.obj id o ((G.keep h1).trans h2);cases p with
 |box e ps=>obtain ⟨cs,rfl,c,f⟩:=h3;obtain ⟨b,vs,q,s,z,C⟩:=J;exact ⟨b,vs,(H4 h1).trans q,s,z,G.cells hM c f C⟩
 |row k=>obtain ⟨e,t,l,ver,rfl,c,f⟩:=h3;have n:=G.dat k _ _ c f;obtain ⟨xs,q,s,z,C⟩:=a;simp only [iO,n];refine ⟨xs,by rw [H4 h1];exact q,s,z,λi x D j' d E=>?_⟩;obtain ⟨u,K,hr⟩:=C i x D j' d E;exact ⟨u,K,G.rep hM hr⟩
 |map k=>obtain ⟨kt,vt,l,rfl,c,f⟩:=h3;have n:=G.dat k _ _ c f;obtain ⟨b,es,clock,q,s,z,C,L⟩:=a;simp only [iO,n];refine ⟨b,es,clock,(H4 h1).trans q,s,z,C,λi x y D N=>?_⟩;obtain ⟨s1,s2⟩:=L i x y D N;exact ⟨s1.mono (Nat.le_refl _) (λ_ _ _=>rfl) (λb _ H=>G.live hM b H),s2.mono (Nat.le_refl _) (λ_ _ _=>rfl) (λb _ H=>G.live hM b H)⟩
 |loop k=>obtain ⟨st,rfl,c,f⟩:=h3;have n:=G.dat k _ _ c f;obtain ⟨b,r,q,s,z,C⟩:=a;simp only [iO,n];exact ⟨b,r,(H4 h1).trans q,s,z,by rw [ay7 h1];exact C⟩
 |dp k ms=>obtain ⟨e,t,l,ver,iv,rfl,c,f⟩:=h3;have n:=G.dat k _ _ c f;simp only [iO,n];show DRel F.B w (S1 β m M) (E3 ds os) (.rows e t ms l 0 0 true none) (S1 β m M (oid j));rw [H4 h1];exact DRel.mapR (λd v r=>G.rep hM r) (λ_ _=>rfl) (show DRel F.B w β (upds h m.u) (.rows e t ms l ver iv true none) (β id) from a)
 |ms k=>obtain ⟨kt,e,t,l,ver,iv,rfl,c,f⟩:=h3;have n:=G.dat k _ _ c f;simp only [iO,n];show DRel F.B w (S1 β m M) (E3 ds os) (.maps kt e t l 0 0 true none) (S1 β m M (oid j));rw [H4 h1];exact DRel.mapM (λd v r=>G.rep hM r) (λ_ _=>rfl) (show DRel F.B w β (upds h m.u) (.maps kt e t l ver iv true none) (β id) from a)
theorem Matched.dis (G:Matched F w β h g tys os ds m) {M:Nat->Prop}:∀ id o id' o' b,look id (E3 ds os)=some o->look id' (E3 ds os)=some o'->Has (S1 β m M id) b->Has (S1 β m M id') b->id=id':=by intro id o id' o' b h1 h2 h3 h4;obtain ⟨j,p,n,f,x⟩:=G2 h1;obtain ⟨j',p',d,a,q⟩:=G2 h2;obtain ⟨i,r,l,s,y⟩:=G.obs j p n;obtain ⟨t,u,c,e,v⟩:=G.obs j' p' d;rw [f,H4 l] at h3;rw [a,H4 c] at h4;have:=G.k.dis i r t u b s e h3 h4;subst this;rw [f,a,G.inj j j' i l c]
def kb (β:Nm) (m:Mt U) (b:Nat):Prop:=∃ j id,look j m.ι=some id/\Has (β id) b
def nmOf (β:Nm) (h:Obs U) (m:Mt U) (id:Nat):Option (Value×Loop×(Int->Option Code)):=
 if 1000000<=id then match look (id-1000000) m.ι with
  |some i=>match look i h with
   |some o=>if o.isRow=true then none else some (β i,β.lp i)
   |none=>none
  |none=>none
 else none
def frOf (F:Fr) (w:World) (β:Nm) (h:Obs U) (m:Mt U):Fr:=⟨F.B,w,kb β m,λb=>Live β (upds h m.u) b/\¬ kb β m b,nmOf β h m,F.G⟩
theorem Matched.given (G:Matched F w β h g tys os ds m):Ok (frOf F w β h m) w (S1 β m (frOf F w β h m).M) (E3 ds os):=by
 have A:=H8 G.k G.hf;have hM:∀ b,(frOf F w β h m).M b->Live β (upds h m.u) b:=λb l=>l.1;have q:F.w0.heap.size<=w.heap.size:=G.k.bel.size;have s:∀ b,Live β (upds h m.u) b->b<w.heap.size:=by
  rintro b (hm|⟨id,ob,h1,h2,h3⟩)
  .exact Nat.lt_of_lt_of_le (G.k.Mlt b hm) q
  .exact ((A.obj id ob h1).blk h3).2
 refine ⟨Below.refl _ _,G.k.hB,λid o hl=>?_,G.dis,λ_ _ _=>rfl,λid o b hl l=>?_,λid o b hl l hm=>?_,λb hm=>s b hm.1,rfl,λid o v hl a=>?_,λid v a=>?_,λg' fs t=>?_⟩
 .obtain ⟨j,p,d,e,n⟩:=G2 hl;rw [e,n];exact G.obj hM d
 .obtain ⟨j,p,d,e,n⟩:=G2 hl;obtain ⟨i,x,c,r,y⟩:=G.obs j p d;rw [e,H4 c] at l;exact .inl ⟨j,i,c,l⟩
 .obtain ⟨j,p,d,e,n⟩:=G2 hl;obtain ⟨i,x,c,r,y⟩:=G.obs j p d;rw [e,H4 c] at l;exact hm.2 ⟨j,i,c,l⟩
 .obtain ⟨j,p,d,e,n⟩:=G2 hl;obtain ⟨i,x,c,r,y⟩:=G.obs j p d;subst e;simp only [frOf,nmOf,oid] at a;rw [if_pos (by omega),Nat.add_sub_cancel_left,c] at a;simp only [r] at a;split at a
  .cases a
  .simp only [cn4] at a;rw [<-a,H4 c,ay7 c];exact .inr rfl
 .simp only [frOf,nmOf] at a;split at a
  .assumption
  .cases a
 .obtain ⟨d,e,n⟩:=G.k.glo g' fs t;refine ⟨Nat.lt_of_lt_of_le d q,?_,λi f hf=>?_⟩
  .rintro ⟨j,id,c,r⟩;obtain ⟨p,o,s1,s2,z⟩:=G.at_ c;rcases G.k.own id o g' s2 r with h1|h1
   .exact e h1
   .omega
  .rw [<-n i f hf];exact World.cell?_of_block (G.k.frm g' d e)
end
end
end Go.VT
end
section
namespace Go.VT
noncomputable section
open Go.RowKit
variable {U:Univ} {E:Env U} {F:Fr} {n:Nat} {β:Nm} {s:St U} {ρ:Operand->Value} {tmps:Array Value} {w:World} {o:Oper} {e:Eff U} {h:Obs U}
def Says:Datum U->Value->Prop
 |⟨.int k,n⟩,v=>v=.int k n
 |⟨.bool,b⟩,v=>v=.bool b
 |_,_=>False
def an7 (p:PanV U) (u:Value):Prop:=
 ∃ vs:List Value,u=.iface p.t (aV4 p.agg vs)/\vs.length=p.ds.length/\(p.agg=false->vs.length=1)/\∀ (j:Nat) (d:Datum U) (v:Value),p.ds[j]? =some d->vs[j]? =some v->Says d v
def OPat.isRow:OPat->Bool
 | .row _=>true
 | .dp _ _=>true
 | .ms _=>true
 |_=>false
structure Within (Y F:Fr) (yl:List (Nat×Nat)):Prop where
 B:F.B=Y.B
 G:F.G=Y.G
 bel:Below Y.B Y.w0 F.w0
 frm:∀ b,b<Y.w0.heap.size->¬ Y.K b->F.w0.heap[b]? =Y.w0.heap[b]?
 K:∀ b,b<Y.w0.heap.size->F.K b->Y.K b
 M:∀ b,Y.M b->F.M b
 Mup:∀ b,b<Y.w0.heap.size->F.M b->Y.M b\/Y.K b
 nm:∀ j i v,(j,i)∈yl->Y.nm (oid j)=some v->F.nm (oid i)=some v
def O0 (Y F:Fr) (yl:List (Nat×Nat)):Prop:=yl≠[]->Within Y F yl
abbrev Runs:=List Value->World->(Ending->World->Prop)->Prop
def Runs.Mono (C:Runs):Prop:=∀ vs w R R',C vs w R->(∀ e w',R e w'->R' e w')->C vs w R'
def bY8 (F:Fr) (C:Runs) (G:List (Nat×Glob)) (k:Con U) (xs:Dens U.T k.params):Prop:=
 ∀ (β:Nm) (w:World) (us vs:List Value),F.w0=w->F.G=G->Ok F w β (E3 (A7 U k.params xs) k.oin)->
  (∀ j p,k.oin[j]? =some p->p.isRow=false->F.nm (oid j)=some (β (oid j),β.lp (oid j)))->(∀ id v,F.nm id=some v->∃ j,j<k.oin.length/\id=oid j)->
  CsRel w β (E3 (A7 U k.params xs) k.oin) (k.ain.map (iC (A7 U k.params xs) oid (λ_=>0))) us->I8 k.args us vs->
  C vs w λe w'=>match e with
   | .returned v=>(∀ b,k.bad=some b->(b xs).1=false)/\∃ β' rs,Ok F w' β' (E3 (A7 U k.tys (k.fn xs)) k.oout)/\aa2 k.res rs v/\
     CsRel w' β' (E3 (A7 U k.tys (k.fn xs)) k.oout) (k.rout.map (iC (A7 U k.tys (k.fn xs)) oid (λ_=>0))) rs
   | .panicked ch=>∃ b u,k.bad=some b/\(b xs).1=true/\ch=[{ v:=u,recovered:=false }]/\an7 (b xs).2 u/\Below F.B w w'/\∀ b,b<w.heap.size->¬ F.K b->w'.heap[b]? =w.heap[b]?
   | .outgrown=>False
def bg2 (Y:Fr) (C:Runs) (G:List (Nat×Glob)) (k:Con U) (xs:Dens U.T k.params):Prop:=∀ F:Fr,O0 Y F k.yl->bY8 F C G k xs
def GivesC (Y:Fr) (C:Runs) (G:List (Nat×Glob)) (k:Con U):Prop:=∀ xs:Dens U.T k.params,holds (k.pre.map λp=>p xs)->bg2 Y C G k xs
def fen (P:Program) (ro:Option Nat):Fence:={ fn:=λf=>(P.funcs[f]?).isSome=true,depth:=none,alive:=false,round:=ro }
def runF (P:Program) (f:FuncId):Runs:=λvs w R=>CallsIn (fen P none) 0 P f vs.toArray w R
def runY (P:Program):Runs:=λvs w R=>∃ (as:List Value) (b:Nat) (r:Loop),vs=as++[.func (.yield b) #[] #[]]/\w.heap[b]? =some (.loop r)/\as.length=r.params.size/\
 ∀ ro,RoundIn (fen P ro) 0 P b r.fn ((r.params.zip as.toArray).foldl (λtmps (t,a)=>tmps.setIfInBounds t a) r.tmps) r.assign r.body w R
def runI (P:Program) (name:String):Runs:=λvs w R=>∃ f as,(invoke (.fn (.method name) #[]) vs.toArray).run P w=.ok (.enter f as) w/\CallsIn (fen P none) 0 P f as w R
def ab9 (Y:Fr) (P:Program) (G:List (Nat×Glob)) (f:FuncId) (k:Con U):Prop:=Enters P f/\GivesC Y (runF P f) G k
def C5 (P:Program) (G:List (Nat×Glob)) (f:FuncId) (k:Con U):Prop:=∀ Y,ab9 Y P G f k
structure Env.Sound (Y:Fr) (E:Env U):Prop where
 con:∀ f k,k∈E.con f->ab9 Y E.P E.G f k
 tab:∀ fs (i:Int) f k,fs[i.toNat]? =some f->k∈E.tab fs i->ab9 Y E.P E.G f k
 inv:∀ i name k,k∈E.inv i name->GivesC Y (runI E.P name) E.G k
 y:∀ k,E.Y=some k->GivesC Y (runY E.P) E.G k
 it:∀ f k kY mp,(k,kY,mp)∈E.it f->∀ Y',GivesC Y' (runY E.P) E.G kY->ab9 Y' E.P E.G f k
theorem aB3 {P:Program} {f:FuncId}:Runs.Mono (runF P f):=λ_ _ _ _ h hr=>CallsIn.mono h hr
theorem bE2 {P:Program}:Runs.Mono (runY P):=by intro vs w R R' h hr;obtain ⟨as,b,r,h1,h2,h3,h4⟩:=h;exact ⟨as,b,r,h1,h2,h3,λro=>RoundIn.mono (h4 ro) hr⟩
theorem bE3 {P:Program} {name:String}:Runs.Mono (runI P name):=by intro vs w R R' h hr;obtain ⟨f,as,h1,h2⟩:=h;exact ⟨f,as,h1,CallsIn.mono h2 hr⟩
def outV {α:Type} (a:Nat->α) (b:Nat->α) (ι:Nat->Nat) (n:Nat) (id:Nat):α:=match (List.range n).find? (λj=>ι j==id) with
 |some j=>b (oid j)
 |none=>a id
theorem bE4 {α:Type} {a b:Nat->α} {ι:Nat->Nat} {n:Nat} (d:∀ i j,i<n->j<n->ι i=ι j->i=j) {j:Nat} (c:j<n):outV a b ι n (ι j)=b (oid j):=by
 unfold outV;cases hf:(List.range n).find? (λi=>ι i==ι j) with
 |none=>rw [List.find?_eq_none] at hf;exact absurd (hf j (List.mem_range.2 c)) (by simp)
 |some i=>have h1:=List.find?_some hf;have h2:=List.mem_range.1 (List.mem_of_find?_eq_some hf);have:=d i j h2 c (by simpa using h1);rw [this]
theorem bp2 {α:Type} {a b:Nat->α} {ι:Nat->Nat} {n id:Nat} (h:∀ j,j<n->ι j≠id):outV a b ι n id=a id:=by
 unfold outV;cases hf:(List.range n).find? (λi=>ι i==id) with
 |none=>rfl
 |some i=>have h1:=List.find?_some hf;have h2:=List.mem_range.1 (List.mem_of_find?_eq_some hf);exact absurd (by simpa using h1) (h i h2)
def cm7 (β β2:Nm) (ι:Nat->Nat) (n:Nat):Nm:=⟨outV β β2 ι n,β.M,outV β.lp β2.lp ι n⟩
theorem aK4 {id:Nat} {o:Ob U}:∀ {u h:Obs U},(u.map (·.1)).Nodup->(id,o)∈u->look id (upds h u)=some o
 |[],_,_,hm=>by simp at hm
 |(i,oi)::u,h,a,hm=>by
  simp only [List.map_cons,List.nodup_cons] at a;rcases List.mem_cons.1 hm with h1|h1
  .simp only [co6] at h1;obtain ⟨rfl,rfl⟩:=h1;show look id (upds (write id o h) u)=_;rw [B6 (λo' b=>a.1 (List.mem_map.2 ⟨_,b,rfl⟩)),A9]
  .exact aK4 (u:=u) (h:=write i oi h) a.2 h1
theorem bp3 {ds:List (Datum U)} {ι vr:Nat->Nat}:∀ {os:List OPat} {j0:Nat},(iOs ds ι vr j0 os).map (·.1)=(List.range' j0 os.length).map ι
 |[],j0=>rfl
 |p::os,j0=>by simp [iOs,bp3 (os:=os),List.range'_succ]
theorem bg3 {ds:List (Datum U)} {ι vr:Nat->Nat}:∀ {os:List OPat} {j0 i:Nat} {p:OPat},os[i]? =some p->(ι (j0+i),iO ds ι vr (j0+i) p)∈iOs ds ι vr j0 os
 |[],_,_,_,h=>by simp at h
 |q::os,j0,i,p,h=>by
  match i,h with
  |0,h=>simp only [co2,cn4] at h;subst h;simp [iOs]
  |i+1,h=>have:=bg3 (ds:=ds) (ι:=ι) (vr:=vr) (os:=os) (j0:=j0+1) (i:=i) (p:=p) (by simpa using h);rw [show j0+(i+1)=j0+1+i by omega];simp [iOs,this]
theorem aa4 {a b:List Ty}:∀ {ps qs:List OPat},at6 a b ps qs=true->∀ (i:Nat) (p:OPat),ps[i]? =some p->∃ q,qs[i]? =some q/\G3 a b p q=true
 |[],_,_,i,p,h=>by simp at h
 |_::_,[],h,_,_,_=>by simp [at6] at h
 |p::ps,q::qs,h,i,x,c=>by
  simp only [at6,cn7] at h
  match i,c with
  |0,c=>simp only [co2,cn4] at c;subst c;exact ⟨q,rfl,h.1⟩
  |i+1,c=>simpa using aa4 h.2 i x (by simpa using c)
theorem bQ9 {w:World} {β β2:Nm} {h h2:Obs U} {ds:List (Datum U)} {os:List OPat} {ι vr:Nat->Nat} (s:∀ b,Live β2 h2 b->Live β (E3 ds os) b)
  (hl:∀ (j:Nat) (p:OPat),os[j]? =some p->look (ι j) h2=some (iO ds ι vr j p)/\β2 (ι j)=β (oid j)) {p:CPat} {v:Value} (hc:CRel w β (E3 ds os) (iC ds oid (λ_=>0) p) v):
  CRel w β2 h2 (iC ds ι vr p) v:=by
 have u:∀ {d:Datum U} {v:Value},Rep U w (Live β (E3 ds os)) d v->Rep U w (Live β2 h2) d v:=λr=>r.mono (Nat.le_refl _) (λ_ _ _=>rfl) (λb _ z=>s b z);cases p with
 |un=>trivial
 |d k=>
  simp only [iC] at hc |-;split
  .rename_i x y;rw [y] at hc;exact u hc
  .trivial
 |row j=>
  obtain ⟨e,t,l,ver',lv,h1,q,h3⟩:=hc;obtain ⟨j',p,n,o,a⟩:=G2 h1;have:=S0 o;subst this;obtain ⟨g,m⟩:=hl j p n;cases p with
  |row k=>
   simp only [iO] at a g;split at a
   .rename_i e' t' l' c;rw [c] at g;simp only [Ob.row.injEq] at a;obtain ⟨rfl,rfl,_,rfl,_⟩:=a;exact ⟨_,_,_,_,_,g,Nat.le_refl _,λ_=>(h3 rfl).trans m.symm⟩
   .cases a
  |box e' ps=>simp [iO] at a
  |map k=>simp only [iO] at a;split at a<;>cases a
  |loop k=>simp only [iO] at a;split at a<;>cases a
  |dp k ms=>simp only [iO] at a;split at a<;>cases a
  |ms k=>simp only [iO] at a;split at a<;>cases a
 |ptr j off=>
  obtain ⟨e,cs,b,h1,q,h3⟩:=hc;obtain ⟨j',p,n,o,a⟩:=G2 h1;have:=S0 o;subst this;obtain ⟨g,m⟩:=hl j p n;have:∃ e' cs',iO ds ι vr j p=.box e' cs':=by
   cases p with
   |box e' ps=>exact ⟨_,_,rfl⟩
   |row k=>simp only [iO] at a |-;split<;>rename_i c<;>first|exact ⟨_,_,rfl⟩|(rw [c] at a;cases a)
   |map k=>simp only [iO] at a |-;split<;>rename_i c<;>first|exact ⟨_,_,rfl⟩|(rw [c] at a;cases a)
   |loop k=>simp only [iO] at a |-;split<;>rename_i c<;>first|exact ⟨_,_,rfl⟩|(rw [c] at a;cases a)
   |dp k ms=>simp only [iO] at a |-;split<;>rename_i c<;>first|exact ⟨_,_,rfl⟩|(rw [c] at a;cases a)
   |ms k=>simp only [iO] at a |-;split<;>rename_i c<;>first|exact ⟨_,_,rfl⟩|(rw [c] at a;cases a)
  obtain ⟨e',cs',y⟩:=this;exact ⟨e',cs',b,g.trans (by rw [y]),m.trans q,h3⟩
 |map j=>
  obtain ⟨kt,vt,l,h1,h3⟩:=hc;obtain ⟨j',p,n,o,a⟩:=G2 h1;have:=S0 o;subst this;obtain ⟨g,m⟩:=hl j p n;cases p with
  |map k=>
   simp only [iO] at a g;split at a
   .rename_i kt' vt' l' c;rw [c] at g;exact ⟨_,_,_,g,h3.trans m.symm⟩
   .cases a
  |box e' ps=>simp [iO] at a
  |row k=>simp only [iO] at a;split at a<;>cases a
  |loop k=>simp only [iO] at a;split at a<;>cases a
  |dp k ms=>simp only [iO] at a;split at a<;>cases a
  |ms k=>simp only [iO] at a;split at a<;>cases a
 |clo f js=>
  obtain ⟨bs,h1,q,h3⟩:=hc;refine ⟨bs,h1,by simpa using q,λi id b A z=>?_⟩;simp only [co9,co1] at A;obtain ⟨j,B,rfl⟩:=A;obtain ⟨e,cs,s1,s2⟩:=h3 i (oid j) b (by simp [B]) z;obtain ⟨j',p,n,o,a⟩:=G2 s1;have:=S0 o;subst this;obtain ⟨g,m⟩:=hl j p n;have:∃ e' cs',iO ds ι vr j p=.box e' cs':=by
   cases p with
   |box e' ps=>exact ⟨_,_,rfl⟩
   |row k=>simp only [iO] at a |-;split<;>rename_i c<;>first|exact ⟨_,_,rfl⟩|(rw [c] at a;cases a)
   |map k=>simp only [iO] at a |-;split<;>rename_i c<;>first|exact ⟨_,_,rfl⟩|(rw [c] at a;cases a)
   |loop k=>simp only [iO] at a |-;split<;>rename_i c<;>first|exact ⟨_,_,rfl⟩|(rw [c] at a;cases a)
   |dp k ms=>simp only [iO] at a |-;split<;>rename_i c<;>first|exact ⟨_,_,rfl⟩|(rw [c] at a;cases a)
   |ms k=>simp only [iO] at a |-;split<;>rename_i c<;>first|exact ⟨_,_,rfl⟩|(rw [c] at a;cases a)
  obtain ⟨e',cs',y⟩:=this;exact ⟨e',cs',g.trans (by rw [y]),m.trans s2⟩
 |yld j=>
  obtain ⟨st,h1,h3⟩:=hc;obtain ⟨j',p,n,o,a⟩:=G2 h1;have:=S0 o;subst this;obtain ⟨g,m⟩:=hl j p n;cases p with
  |loop k=>
   simp only [iO] at a g;split at a
   .rename_i x st' c;rw [c] at g;exact ⟨_,g,h3.trans m.symm⟩
   .cases a
  |box e' ps=>simp [iO] at a
  |row k=>simp only [iO] at a;split at a<;>cases a
  |map k=>simp only [iO] at a;split at a<;>cases a
  |dp k ms=>simp only [iO] at a;split at a<;>cases a
  |ms k=>simp only [iO] at a;split at a<;>cases a
 |fn f=>exact hc
 |nil=>exact hc
 |dp j=>
  obtain ⟨D,h1,h3⟩:=hc;obtain ⟨j',p,n,o,a⟩:=G2 h1;have:=S0 o;subst this;obtain ⟨g,m⟩:=hl j p n;cases p with
  |dp k ms=>
   simp only [iO] at a g;split at a
   .rename_i e t l c;rw [c] at g;simp only [Ob.dp.injEq] at a;subst a;refine ⟨_,g,Nat.le_refl _,λ_=>?_⟩;rw [m];exact h3.2 rfl
   .cases a
  |box e' ps=>simp [iO] at a
  |row k=>simp only [iO] at a;split at a<;>cases a
  |map k=>simp only [iO] at a;split at a<;>cases a
  |loop k=>simp only [iO] at a;split at a<;>cases a
  |ms k=>
   simp only [iO] at a g;split at a
   .rename_i kt e t l c;rw [c] at g;simp only [Ob.dp.injEq] at a;subst a;refine ⟨_,g,Nat.le_refl _,λ_=>?_⟩;rw [m];exact h3.2 rfl
   .cases a
 |ms j=>
  obtain ⟨D,h1,h3⟩:=hc;obtain ⟨j',p,n,o,a⟩:=G2 h1;have:=S0 o;subst this;obtain ⟨g,m⟩:=hl j p n;cases p with
  |dp k ms=>
   simp only [iO] at a g;split at a
   .rename_i e t l c;rw [c] at g;simp only [Ob.dp.injEq] at a;subst a;refine ⟨_,g,Nat.le_refl _,λ_=>?_⟩;rw [m];exact h3.2 rfl
   .cases a
  |ms k=>
   simp only [iO] at a g;split at a
   .rename_i kt e t l c;rw [c] at g;simp only [Ob.dp.injEq] at a;subst a;refine ⟨_,g,Nat.le_refl _,λ_=>?_⟩;rw [m];exact h3.2 rfl
   .cases a
  |box e' ps=>simp [iO] at a
  |row k=>simp only [iO] at a;split at a<;>cases a
  |map k=>simp only [iO] at a;split at a<;>cases a
  |loop k=>simp only [iO] at a;split at a<;>cases a
theorem aX5 {w:World} {β β2:Nm} {h h2:Obs U} {ds:List (Datum U)} {os:List OPat} {ι vr:Nat->Nat} (a:∀ b,Live β2 h2 b->Live β (E3 ds os) b)
  (hl:∀ (j:Nat) (p:OPat),os[j]? =some p->look (ι j) h2=some (iO ds ι vr j p)/\β2 (ι j)=β (oid j)) {ps:List CPat} {vs:List Value} (hc:CsRel w β (E3 ds os) (ps.map (iC ds oid (λ_=>0))) vs):
  CsRel w β2 h2 (ps.map (iC ds ι vr)) vs:=by
 refine ⟨by simpa using hc.1,hc.2.1,λj c v d e=>?_⟩;simp only [co9,co1] at d;obtain ⟨p,f,rfl⟩:=d;exact bQ9 (h:=h) a hl (hc.2.2 j _ v (by simp [f]) e)
theorem cb3 {B:Nat} {w:World} {β β2:Nm} {h2:Obs U} {ds:List (Datum U)} {os:List OPat} {ι vr:Nat->Nat} (c:∀ b,Live β2 h2 b->Live β (E3 ds os) b)
  (hl:∀ (j:Nat) (p:OPat),os[j]? =some p->look (ι j) h2=some (iO ds ι vr j p)/\β2 (ι j)=β (oid j)) {j:Nat} {p:OPat} (C:β2.lp (ι j)=β.lp (oid j)) (z:β2 (ι j)=β (oid j))
  (r:ORel B w β (E3 ds os) (oid j) (iO ds oid (λ_=>0) j p)):ORel B w β2 h2 (ι j) (iO ds ι vr j p):=by
 have m:∀ {d:Datum U} {v:Value},Rep U w (Live β (E3 ds os)) d v->Rep U w (Live β2 h2) d v:=λr=>r.mono (Nat.le_refl _) (λ_ _ _=>rfl) (λb _ A=>c b A);have a:∀ {e:TypeId} {ps:List CPat},ORel B w β (E3 ds os) (oid j) (.box e (ps.map (iC ds oid (λ_=>0))))->ORel B w β2 h2 (ι j) (.box e (ps.map (iC ds ι vr))):=by intro e ps r;obtain ⟨b,vs,n,o,q,s⟩:=r;exact ⟨b,vs,z.trans n,o,q,aX5 (h:=h2) c hl s⟩
 cases p with
 |box e ps=>exact a r
 |row k=>
  simp only [iO] at r |-;split
  .rename_i e t l f;rw [f] at r;obtain ⟨xs,n,o,q,s⟩:=r;refine ⟨xs,by rw [z];exact n,o,q,λi x D j' d E=>?_⟩;obtain ⟨u,F,hr⟩:=s i x D j' d E;exact ⟨u,F,m hr⟩
  .rename_i f;split at r
   .rename_i g;exact absurd g (f _ _ _)
   .exact a (ps:=[]) r
 |map k=>
  simp only [iO] at r |-;split
  .rename_i e t l f;rw [f] at r;obtain ⟨b,es,clock,n,o,q,s,G⟩:=r;refine ⟨b,es,clock,z.trans n,o,q,s,λi x y D H=>?_⟩;obtain ⟨s1,s2⟩:=G i x y D H;exact ⟨s1.mono (Nat.le_refl _) (λ_ _ _=>rfl) (λb _ A=>c b A),s2.mono (Nat.le_refl _) (λ_ _ _=>rfl) (λb _ A=>c b A)⟩
  .rename_i f;split at r
   .rename_i g;exact absurd g (f _ _ _)
   .exact a (ps:=[]) r
 |loop k=>
  simp only [iO] at r |-;split
  .rename_i e st f;rw [f] at r;obtain ⟨b,I,n,o,q,s⟩:=r;exact ⟨b,I,z.trans n,o,q,by rw [C];exact s⟩
  .rename_i f;split at r
   .rename_i g;exact absurd g (f _ _)
   .exact a (ps:=[]) r
 |dp k ms=>
  simp only [iO] at r |-;split
  .rename_i e t l f;rw [f] at r;show DRel B w β2 h2 (.rows e t ms l (vr j) (vr j) true none) (β2 (ι j));rw [z];exact DRel.mapR (λd v r=>m r) (λ_ _=>rfl) (show DRel B w β (E3 ds os) (.rows e t ms l 0 0 true none) (β (oid j)) from r)
  .rename_i f;split at r
   .rename_i g;exact absurd g (f _ _ _)
   .exact a (ps:=[]) r
 |ms k=>
  simp only [iO] at r |-;split
  .rename_i kt e t l f;rw [f] at r;show DRel B w β2 h2 (.maps kt e t l (vr j) (vr j) true none) (β2 (ι j));rw [z];exact DRel.mapM (λd v r=>m r) (λ_ _=>rfl) (show DRel B w β (E3 ds os) (.maps kt e t l 0 0 true none) (β (oid j)) from r)
  .rename_i f;split at r
   .rename_i g;exact absurd g (f _ _ _ _)
   .exact a (ps:=[]) r
end
end Go.VT
end
section
namespace Go.VT
noncomputable section
open Go.RowKit
variable {U:Univ} {E:Env U} {F:Fr} {n:Nat} {β:Nm} {s:St U} {ρ:Operand->Value} {tmps:Array Value} {w:World} {o:Oper} {e:Eff U} {h g:Obs U}
theorem aX6:∀ {l:List (Nat×Nat)},bt2 l=true->∀ {j j' id:Nat},look j l=some id->look j' l=some id->j=j'
 |[],_,_,_,_,h,_=>by simp [look] at h
 |(i,b)::r,c,j,j',id,h1,h2=>by
  simp only [bt2,cn7] at c;have a:∀ k,look k r=some b->False:=λk f=>by have:=cq4.1 c.1 _ (aa3 f);simp at this
  simp only [look] at h1 h2;split at h1
  .rename_i d;simp only [cn4] at h1;subst h1;split at h2
   .rename_i e;rw [<-cn5 d,<-cn5 e]
   .exact (a _ h2).elim
  .split at h2
   .simp only [cn4] at h2;subst h2;exact (a _ h1).elim
   .exact aX6 c.2 h1 h2
theorem aa5 (k:Ok F w β h) (hg:∀ id o,look id g=some o->look id h=some o) {K:Con U} {cs:List (Cell U)} {xs:Dens U.T K.params} {m:Mt U} (hm:am7 g K cs=some (xs,m)):
  Matched F w β h g K.params K.oin (A7 U K.params xs) m/\at6 K.params K.tys K.oin K.oout=true/\cs.length=K.ain.length/\(∀ (i:Nat) (p:CPat) (c:Cell U),K.ain[i]? =some p->cs[i]? =some c->CMatch h g K.params m p c)/\
  ∀ (i:Nat) (p:OPat),K.oin[i]? =some p->∃ id o,look i m.ι=some id/\look id g=some o/\look id h=some o/\OMatch h g K.params m p o:=by
 unfold am7 bC2 at hm;split at hm
 case h_2=>cases hm
 rename_i B h1;obtain ⟨e,h1⟩:bt2 K.gh=true/\mCs g K.params K.ain cs ⟨K.gh,[],[]⟩=some B:=by
  revert h1;cases bt2 K.gh with
  |false=>intro h1;cases h1
  |true=>intro h1;exact ⟨rfl,h1⟩
 split at hm
 case h_2=>cases hm
 rename_i a h2;revert hm;cases hc:((a.ι.all λx=>Nat.blt x.1 K.oin.length)&&at6 K.params K.tys K.oin K.oout&&!(X8 (a.ι.map (·.2)) (keys a.u))) with
 |false=>intro hm;cases hm
 |true=>
  intro hm;simp only [cond_true] at hm;simp only [cn7,Bool.not_eq_true'] at hc;obtain ⟨⟨C,D⟩,E⟩:=hc;split at hm
  case h_2=>cases hm
  rename_i ds f;split at hm
  case h_2=>cases hm
  rename_i ys l;simp only [cn4,co6] at hm;obtain ⟨rfl,rfl⟩:=hm;obtain ⟨X,G,H,I,J⟩:=ay6 hg h1 (λid o L=>by simp at L);obtain ⟨M,N,O,z⟩:=aR0 hg h2 G;have b:=al9 l;obtain ⟨Y,P⟩:=ak1 f;have n:∀ j id,look j a.ι=some id->j<K.oin.length:=λj id r=>cp7 (cq4.1 C _ (aa3 r));refine ⟨⟨k,hg,N,O (H (λj j' id s A=>aX6 e s A)),n,λi p d=>?_,λj id r o Q=>?_,λi x t R S=>?_⟩,D,I,λi p c d v=>(J i p c d v).le M,λi p d=>?_⟩
  .obtain ⟨id,o,s,A,V,W⟩:=z i p d;exact ⟨id,o,by simpa using s,V,W⟩
  .have:X8 (a.ι.map (·.2)) (keys a.u)=true:=by
    simp only [X8,List.any_eq_true];exact ⟨id,List.mem_map.2 ⟨_,aa3 r,rfl⟩,id,by simp only [keys,List.mem_map];exact ⟨_,Q,rfl⟩,Nat.beq_refl id⟩
   rw [E] at this;cases this
  .rw [<-b];have y:i<K.params.length:=(cn9.1 R).1;rw [P i y,Nat.zero_add];exact S
  .obtain ⟨id,o,q⟩:=z i p d;exact ⟨id,o,by simpa using q⟩
theorem aX7 {m:Mt U} {dst:Option Tmp} {n j id:Nat} (h:look j m.ι=some id):ac7 m dst n j=id:=by simp [ac7,h]
theorem ay8 {ds:List (Datum U)} {ι vr:Nat->Nat} {j:Nat} {p:OPat} (h:p.isRow=false):(iO ds ι vr j p).isRow=false:=by
 cases p with
 |box e ps=>rfl
 |row k=>cases h
 |map k=>
  simp only [iO];generalize ds[k]? =x;rcases x with _|⟨t,d⟩
  .rfl
  .cases t<;>rfl
 |loop k=>
  simp only [iO];generalize ds[k]? =x;rcases x with _|⟨t,d⟩
  .rfl
  .cases t<;>rfl
 |dp k ms=>cases h
 |ms k=>cases h
theorem bE5 {ds:List (Datum U)} {ι vr ι' vr':Nat->Nat} {j:Nat} {p:OPat} (h:(iO ds ι vr j p).isRow=false):(iO ds ι' vr' j p).isRow=false:=by
 cases p with
 |row k=>
  simp only [iO] at h |-;revert h;generalize ds[k]? =x;rcases x with _|⟨t,d⟩
  .exact λ_=>rfl
  .cases t<;>first|exact λ_=>rfl|(intro h;cases h)
 |dp k ms=>
  simp only [iO] at h |-;revert h;generalize ds[k]? =x;rcases x with _|⟨t,d⟩
  .exact λ_=>rfl
  .cases t<;>first|exact λ_=>rfl|(intro h;cases h)
 |ms k=>
  simp only [iO] at h |-;revert h;generalize ds[k]? =x;rcases x with _|⟨t,d⟩
  .exact λ_=>rfl
  .cases t with
   |map a b=>cases b<;>first|exact λ_=>rfl|(intro h;cases h)
   |_=>exact λ_=>rfl
 |box=>exact ay8 rfl
 |map=>exact ay8 rfl
 |loop=>exact ay8 rfl
set_option maxHeartbeats 2000000 in
theorem bu0 {tys:List Ty} {os oout:List OPat} {ds ds':List (Datum U)} {m:Mt U} (G:Matched F w β h g tys os ds m) {tys':List Ty} (hty:∀ (k:Nat) (d:Datum U),ds[k]? =some d->tys[k]? =some d.1) (T:∀ (k:Nat) (d:Datum U),ds'[k]? =some d->tys'[k]? =some d.1) (V:∀ (k:Nat) (t:Ty),tys'[k]? =some t->∃ d,ds'[k]? =some d)
  (hlike:at6 tys tys' os oout=true) (hgo:∀ (i:Nat) (p:OPat),os[i]? =some p->∃ id o,look i m.ι=some id/\look id g=some o/\look id h=some o/\OMatch h g tys m p o)
  {dst:Option Tmp} (W:∀ j,j<oout.length-os.length->look (B3 dst j) h=none/\B3 dst j<1000000)
  {w':World} {β2:Nm} (k2:Ok (frOf F w β h m) w' β2 (E3 ds' oout)):
  ∃ β3,After F w β h w' β3 (upds (upds h m.u) (iOs ds' (ac7 m dst os.length) (aI9 g m) 0 oout))/\
   ∀ (ps:List CPat) (vs:List Value),CsRel w' β2 (E3 ds' oout) (ps.map (iC ds' oid (λ_=>0))) vs->CsRel w' β3 (upds (upds h m.u) (iOs ds' (ac7 m dst os.length) (aI9 g m) 0 oout)) (ps.map (iC ds' (ac7 m dst os.length) (aI9 g m))) vs:=by
 have A1:=H8 G.k G.hf;have R:=A1.ok;have hlen:os.length<=oout.length:=by
  by_cases h0:os.length=0
  .omega
  .obtain ⟨q,hq,_⟩:=aa4 hlike (os.length-1) os[os.length-1] (cn6 (by omega));have:=(cn9.1 hq).1;omega
 generalize hι:ac7 m dst os.length=ι;generalize hvr:aI9 g m=vr;have hin:∀ j,j<os.length->∃ id o,look j m.ι=some id/\look id g=some o/\look id h=some o/\OMatch h g tys m os[j]! o/\ι j=id:=by intro j y;obtain ⟨id,o,J,E,H,q4⟩:=hgo j os[j] (cn6 y);exact ⟨id,o,J,E,H,by rw [getElem!_pos os j y];exact q4,by rw [<-hι];exact aX7 J⟩
 have N:∀ j,os.length<=j->ι j=B3 dst (j-os.length):=by
  intro j y;rw [<-hι];unfold ac7;split
  .rename_i id hid;have:=G.lt j id hid;omega
  .rfl
 have hI:∀ i j,i<oout.length->j<oout.length->ι i=ι j->i=j:=by
  intro i j hi y hij;by_cases h1:i<os.length<;>by_cases h2:j<os.length
  .obtain ⟨id,o,J,_,_,_,q5⟩:=hin i h1;obtain ⟨id',o',s,_,_,_,x⟩:=hin j h2;rw [q5,x] at hij;subst hij;exact G.inj i j id J s
  .obtain ⟨id,o,J,_,H,_,q5⟩:=hin i h1;rw [q5,N j (by omega)] at hij;have:=(W (j-os.length) (by omega)).1;rw [<-hij,H] at this;cases this
  .obtain ⟨id,o,J,_,H,_,q5⟩:=hin j h2;rw [q5,N i (by omega)] at hij;have:=(W (i-os.length) (by omega)).1;rw [hij,H] at this;cases this
  .rw [N i (by omega),N j (by omega)] at hij;have h3:∀ k,B3 dst k=B3 dst 0+k:=bg0 dst;rw [h3 (i-os.length),h3 (j-os.length)] at hij;omega
 have hnd:((iOs ds' ι vr 0 oout).map (·.1)).Nodup:=by rw [bp3];rw [List.nodup_iff_pairwise_ne,List.pairwise_map];have:(List.range' 0 oout.length).Pairwise (λa b=>a<b):=List.pairwise_lt_range';refine (List.Pairwise.imp_of_mem ?_ this);intro a b ha hb hab hh;have ha:=(List.mem_range'_1.1 ha).2;have hb:=(List.mem_range'_1.1 hb).2;have:=hI a b (by omega) (by omega) hh;omega
 generalize hh1:upds h m.u=h1 at*
 generalize hh3:upds h1 (iOs ds' ι vr 0 oout)=h3;have K:∀ (j:Nat) (p:OPat),oout[j]? =some p->look (ι j) h3=some (iO ds' ι vr j p):=by intro j p z;rw [<-hh3];have:=bg3 (ds:=ds') (ι:=ι) (vr:=vr) (os:=oout) (j0:=0) (i:=j) z;rw [Nat.zero_add] at this;exact aK4 hnd this
 have hold:∀ id,(∀ j,j<oout.length->ι j≠id)->look id h3=look id h1:=by intro id hid;rw [<-hh3];refine B6 (λo ho=>?_);obtain ⟨i,p,J,E,H⟩:=bg1 ho;exact hid i (cn9.1 J).1 (by rw [E,Nat.zero_add])
 have A:∀ id o,look id h3=some o->(∃ j p,j<oout.length/\oout[j]? =some p/\id=ι j/\o=iO ds' ι vr j p)\/((∀ j,j<oout.length->ι j≠id)/\look id h1=some o):=by
  intro id o hl;by_cases O:∃ j,j<oout.length/\ι j=id
  .obtain ⟨j,y,rfl⟩:=O;have:=K j oout[j] (cn6 y);rw [this] at hl;simp only [cn4] at hl;exact .inl ⟨j,oout[j],y,cn6 y,rfl,hl.symm⟩
  .have L:∀ j,j<oout.length->ι j≠id:=λj y hh=>O ⟨j,y,hh⟩;rw [hold id L] at hl;exact .inr ⟨L,hl⟩
 let β3:=cm7 β β2 ι oout.length
 have hβin:∀ j,j<oout.length->β3 (ι j)=β2 (oid j):=λj y=>bE4 hI y;have hlpin:∀ j,j<oout.length->β3.lp (ι j)=β2.lp (oid j):=λj y=>bE4 hI y;have hβout:∀ id,(∀ j,j<oout.length->ι j≠id)->β3 id=β id:=λid hid=>bp2 hid;have hlpout:∀ id,(∀ j,j<oout.length->ι j≠id)->β3.lp id=β.lp id:=λid hid=>bp2 hid;have hM3:β3.M=β.M:=rfl;have hkeep:∀ j id,look j m.ι=some id->look id h1=look id h:=λj id y=>by rw [<-hh1];exact G.keep y
 have hsz:w.heap.size<=w'.heap.size:=k2.bel.size;have hw0:F.w0.heap.size<=w.heap.size:=R.bel.size
 --the blocks that are given
 have hK:∀ b,kb β m b->∃ j id o,look j m.ι=some id/\look id h1=some o/\o.live=true/\Has (β id) b:=by rintro b ⟨j,id,J,E⟩;obtain ⟨p,o,s,n,r3⟩:=G.at_ J;exact ⟨j,id,o,J,(hkeep j id J).trans n,r3.live,E⟩
 have hKo:∀ b,kb β m b->Own β h1 b:=λb hb=>by obtain ⟨j,id,o,J,E,H,q4⟩:=hK b hb;exact ⟨id,o,E,H,q4⟩
 have hfrm:∀ b,b<w.heap.size->¬ kb β m b->w'.heap[b]? =w.heap[b]? :=k2.frm;have hM2:β2.M=λb=>Live β h1 b/\¬ kb β m b:=by have:=k2.Meq;simp only [frOf,hh1] at this;exact this
 have hno_old:∀ id o b,(∀ j,j<oout.length->ι j≠id)->look id h1=some o->Has (β id) b->¬ kb β m b:=by intro id o b hid hl hb hk;obtain ⟨j,id',o',J,E,H,q4⟩:=hK b hk;have:=R.dis id o id' o' b hl E hb q4;subst this;have y:=G.lt j _ J;obtain ⟨id2,o2,s,_,_,_,x⟩:=hin j y;rw [J] at s;simp only [cn4] at s;exact hid j (by omega) (x.trans s.symm)
 --objects that came in,and how they are
 have P:∀ j,j<os.length->∃ id o q,look j m.ι=some id/\ι j=id/\look id g=some o/\look id h1=some o/\OMatch h g tys m os[j]! o/\oout[j]? =some q/\G3 tys tys' os[j]! q=true:=by intro j y;obtain ⟨id,o,J,E,H,q4,q5⟩:=hin j y;obtain ⟨q,s,n⟩:=aa4 hlike j os[j] (cn6 y);exact ⟨id,o,q,J,q5,E,(hkeep j id J).trans H,q4,s,by rw [getElem!_pos os j y];exact n⟩
 have hfix:∀ j,j<os.length->∀ id o,look j m.ι=some id->look id h1=some o->o.isRow=false->∀ q,oout[j]? =some q->(iO ds' oid (λ_=>0) j q).isRow=false->β2 (oid j)=β id/\β2.lp (oid j)=β.lp id:=by
  intro j y id o h1' h2' h3' q hq hqr;have hnm:(frOf F w β h m).nm (oid j)=some (β id,β.lp id):=by simp only [frOf,nmOf,oid];rw [if_pos (by omega),Nat.add_sub_cancel_left,h1'];rw [hkeep j id h1'] at h2';simp only [h2',h3'];rfl
  have:=k2.fix (oid j) _ _ (D3 hq) hnm;rw [hqr] at this;rcases this with C|C
  .cases C
  .simp only [co6] at C;exact C
 have ext:Ext w β h1 w' β3 h3:=by
  refine ⟨hsz,λb hb hn=>hfrm b hb (λhk=>hn (hKo b hk)),?_,hM3,λid e cs hl=>?_,λid e t l ver lv hl=>?_,λid o hl ho=>?_,λid D hl=>?_⟩
  .rintro b hb ⟨id,o,J,E,H⟩;rcases A id o J with ⟨j,p,s,n,rfl,S⟩|⟨s,n⟩
   .rw [hβin j s] at H;rcases k2.own (oid j) _ b (D3 n) H with C|C
    .exact hKo b C
    .exact absurd hb (Nat.not_lt.2 C)
   .rw [hβout id s] at H;exact ⟨id,o,n,E,H⟩
  .by_cases O:∃ j,j<oout.length/\ι j=id
   .obtain ⟨j,y,rfl⟩:=O;by_cases Q:j<os.length
    .obtain ⟨id',o',q,s,n,r3,S,x,r6,r⟩:=P j Q;rw [n] at hl |-;rw [hl] at S;simp only [cn4] at S;subst S;obtain ⟨e2,ps2,hp2⟩:∃ e2 ps2,os[j]! =.box e2 ps2:=by
      cases z:os[j]! with
      |box e2 ps2=>exact ⟨_,_,rfl⟩
      |row k=>rw [z] at x;obtain ⟨_,_,_,_,s1,_⟩:=x;cases s1
      |map k=>rw [z] at x;obtain ⟨_,_,_,s1,_⟩:=x;cases s1
      |loop k=>rw [z] at x;obtain ⟨_,s1,_⟩:=x;cases s1
      |dp k ms=>rw [z] at x;obtain ⟨_,_,_,_,_,s1,_⟩:=x;cases s1
      |ms k=>rw [z] at x;obtain ⟨_,_,_,_,_,_,s1,_⟩:=x;cases s1
     rw [hp2] at x r;obtain ⟨cs2,s1,_⟩:=x;simp only [Ob.box.injEq] at s1;obtain ⟨rfl,rfl⟩:=s1;cases q with
     |box e3 ps3=>
      have he:=cn5 r;subst he;obtain ⟨f1,f2⟩:=hfix j Q id' _ s hl rfl _ r6 rfl;refine ⟨?_,ps3.map (iC ds' ι vr),?_⟩
      rotate_left
      .rw [<-n];exact K j _ r6
      .rw [<-f1,<-n];exact hβin j y
     |row k=>simp [G3] at r
     |map k=>simp [G3] at r
     |loop k=>simp [G3] at r
     |dp k ms=>simp [G3] at r
     |ms k=>simp [G3] at r
    .have:=(W (j-os.length) (by omega)).1;rw [N j (by omega)] at hl;rw [<-hh1,G.hf.none this] at hl;cases hl
   .have L:∀ j,j<oout.length->ι j≠id:=λj y hh=>O ⟨j,y,hh⟩;exact ⟨hβout id L,cs,(hold id L).trans hl⟩
  .by_cases O:∃ j,j<oout.length/\ι j=id
   .obtain ⟨j,y,rfl⟩:=O;by_cases Q:j<os.length
    .obtain ⟨id',o',q,s,n,r3,S,x,r6,r⟩:=P j Q;rw [n] at hl |-;rw [hl] at S;simp only [cn4] at S;subst S;obtain ⟨k2',hp2⟩:∃ k2,os[j]! =.row k2:=by
      cases z:os[j]! with
      |row k=>exact ⟨_,rfl⟩
      |box e2 ps2=>rw [z] at x;obtain ⟨_,s1,_⟩:=x;cases s1
      |map k=>rw [z] at x;obtain ⟨_,_,_,s1,_⟩:=x;cases s1
      |loop k=>rw [z] at x;obtain ⟨_,s1,_⟩:=x;cases s1
      |dp k ms=>rw [z] at x;obtain ⟨_,_,_,_,_,s1,_⟩:=x;cases s1
      |ms k=>rw [z] at x;obtain ⟨_,_,_,_,_,_,s1,_⟩:=x;cases s1
     rw [hp2] at x r;obtain ⟨e5,t5,l5,ver5,s1,s2,s3⟩:=x;simp only [Ob.row.injEq] at s1;obtain ⟨rfl,rfl,s4,rfl,rfl⟩:=s1;cases q with
     |row Y=>
      simp only [G3,beq_iff_eq] at r;rw [s2] at r;obtain ⟨d,hd⟩:=V Y _ r.symm;have f:=T Y d hd;rw [<-r] at f;simp only [cn4] at f;obtain ⟨d1,d2⟩:=d;simp only at f;subst f;have hver:vr j=ver+1:=by rw [<-hvr];simp [aI9,s,bQ1,r3]
      have X:=K j _ r6;simp only [iO,hd] at X;rw [n] at X;exact ⟨d2,vr j,true,X,by omega,λhh=>by omega⟩
     |box e3 ps3=>simp [G3] at r
     |map k=>simp [G3] at r
     |loop k=>simp [G3] at r
     |dp k ms=>simp [G3] at r
     |ms k=>simp [G3] at r
    .have:=(W (j-os.length) (by omega)).1;rw [N j (by omega)] at hl;rw [<-hh1,G.hf.none this] at hl;cases hl
   .have L:∀ j,j<oout.length->ι j≠id:=λj y hh=>O ⟨j,y,hh⟩;exact ⟨l,ver,lv,(hold id L).trans hl,Nat.le_refl _,λ_=>⟨hβout id L,rfl⟩⟩
  .by_cases O:∃ j,j<oout.length/\ι j=id
   .obtain ⟨j,y,rfl⟩:=O;by_cases Q:j<os.length
    .obtain ⟨id',o',q,s,n,r3,S,x,r6,r⟩:=P j Q;rw [n] at hl |-;rw [hl] at S;simp only [cn4] at S;subst S;have hres:∃ oo,look id' h3=some oo/\Ob.like o oo/\(iO ds' oid (λ_=>0) j q).isRow=false:=by
      rw [<-n,K j _ r6];cases z:os[j]! with
      |box e2 ps2=>rw [z] at x;obtain ⟨_,s1,_⟩:=x;rw [s1] at ho;simp [Ob.oth] at ho
      |row k=>rw [z] at x;obtain ⟨_,_,_,_,s1,_⟩:=x;rw [s1] at ho;simp [Ob.oth] at ho
      |map k=>
       rw [z] at x r;obtain ⟨kt,vt,l,s1,s2,s3⟩:=x;cases q with
       |map Y=>simp only [G3,beq_iff_eq] at r;rw [s2] at r;obtain ⟨d,hd⟩:=V Y _ r.symm;have f:=T Y d hd;rw [<-r] at f;simp only [cn4] at f;obtain ⟨d1,d2⟩:=d;simp only at f;subst f;subst s1;simp only [iO,hd];refine ⟨_,rfl,⟨rfl,rfl⟩,rfl⟩
       |box e3 ps3=>simp [G3] at r
       |row k=>simp [G3] at r
       |loop k=>simp [G3] at r
       |dp k ms=>simp [G3] at r
       |ms k=>simp [G3] at r
      |dp k ms=>rw [z] at x;obtain ⟨_,_,_,_,_,s1,_⟩:=x;rw [s1] at ho;simp [Ob.oth] at ho
      |ms k=>rw [z] at x;obtain ⟨_,_,_,_,_,_,s1,_⟩:=x;rw [s1] at ho;simp [Ob.oth] at ho
      |loop k=>
       rw [z] at x r;obtain ⟨st,s1,s2,s3⟩:=x;cases q with
       |loop Y=>
        subst s1;have hl0:=D3 (ds:=ds') r6;have hbad:ORel F.B w' β2 (E3 ds' oout) (oid j) _:=k2.obj (oid j) _ hl0;simp only [iO] at hbad |-;split
        .exact ⟨_,rfl,trivial,rfl⟩
        .rename_i hk;exfalso
         --a loop that is no loop any more cannot bear the loop's name
         split at hbad
         .rename_i hk2;exact absurd hk2 (hk _ _)
         .rename_i hk2;obtain ⟨b5,vs5,t1,t2,t3,_⟩:=hbad;have hrow:(iO ds' oid (λ_=>0) j (.loop Y)).isRow=false:=ay8 rfl;have:=(hfix j Q id' _ s hl rfl _ r6 hrow).1;rw [this] at t1;have ho1:=R.obj id' _ hl;obtain ⟨b6,r6',u1,u2,u3,u4⟩:=ho1;rw [u1] at t1;cases t1
       |box e3 ps3=>simp [G3] at r
       |row k=>simp [G3] at r
       |map k=>simp [G3] at r
       |dp k ms=>simp [G3] at r
       |ms k=>simp [G3] at r
     obtain ⟨oo,C,h6,h7⟩:=hres;have hor:o.isRow=false:=by cases o<;>simp_all [Ob.oth,Ob.isRow]
     obtain ⟨f1,f2⟩:=hfix j Q id' _ s hl hor _ r6 h7;exact ⟨by rw [<-f1,<-n];exact hβin j y,by rw [<-f2,<-n];exact hlpin j y,oo,C,h6⟩
    .have:=(W (j-os.length) (by omega)).1;rw [N j (by omega)] at hl;rw [<-hh1,G.hf.none this] at hl;cases hl
   .have L:∀ j,j<oout.length->ι j≠id:=λj y hh=>O ⟨j,y,hh⟩;exact ⟨hβout id L,hlpout id L,o,(hold id L).trans hl,Ob.like_refl ho⟩
  .by_cases O:∃ j,j<oout.length/\ι j=id
   .obtain ⟨j,y,rfl⟩:=O;by_cases Q:j<os.length
    .obtain ⟨id',o',q,s,n,r3,S,x,r6,r⟩:=P j Q;rw [n] at hl |-;rw [hl] at S;simp only [cn4] at S;subst S;rcases (show (∃ k2 ms2,os[j]! =.dp k2 ms2)\/∃ k2,os[j]! =.ms k2 by
      cases z:os[j]! with
      |dp k ms=>exact .inl ⟨_,_,rfl⟩
      |ms k=>exact .inr ⟨_,rfl⟩
      |box e2 ps2=>rw [z] at x;obtain ⟨_,s1,_⟩:=x;cases s1
      |row k=>rw [z] at x;obtain ⟨_,_,_,_,s1,_⟩:=x;cases s1
      |map k=>rw [z] at x;obtain ⟨_,_,_,s1,_⟩:=x;cases s1
      |loop k=>rw [z] at x;obtain ⟨_,s1,_⟩:=x;cases s1) with ⟨k2',ms2',hp2⟩|⟨k2',hp2⟩
     .rw [hp2] at x r;obtain ⟨e5,t5,l5,ver5,iv5,s1,s2,s3⟩:=x;simp only [Ob.dp.injEq] at s1;subst s1;cases q with
      |dp Y ms3=>
       simp only [G3,cn7,beq_iff_eq] at r;obtain ⟨r,rfl⟩:=r;rw [s2] at r;obtain ⟨d,hd⟩:=V Y _ r.symm;have f:=T Y d hd;rw [<-r] at f;simp only [cn4] at f;obtain ⟨d1,d2⟩:=d;simp only at f;subst f;have hver:vr j=Nat.max ver5 iv5+1:=by rw [<-hvr];simp [aI9,s,bQ1,r3]
       have hv1:ver5<=Nat.max ver5 iv5:=Nat.le_max_left _ _;have hv2:iv5<=Nat.max ver5 iv5:=Nat.le_max_right _ _;have X:=K j _ r6;simp only [iO,hd] at X;rw [n] at X;refine ⟨_,X,λc v Z=>?_⟩;cases c with
       |self v0=>exact ⟨by have:=Z.1;omega,λhh=>by have:=Z.1;omega⟩
       |elt v0 i off=>exact ⟨by have:=Z.1;omega,λhh=>by have:=Z.1;omega⟩
       |inn v0 i j=>exact ⟨by have:=Z.1;omega,λhh=>by have:=Z.1;omega⟩
       |iat v0 i j k off=>exact ⟨by have:=Z.1;omega,λhh=>by have:=Z.1;omega⟩
       |key=>exact Z
       |it=>exact Z
      |ms k=>simp [G3] at r
      |box e3 ps3=>simp [G3] at r
      |row k=>simp [G3] at r
      |map k=>simp [G3] at r
      |loop k=>simp [G3] at r
     .rw [hp2] at x r;obtain ⟨kt5,e5,t5,l5,ver5,iv5,s1,s2,s3⟩:=x;simp only [Ob.dp.injEq] at s1;subst s1;cases q with
      |ms Y=>
       simp only [G3,beq_iff_eq] at r;rw [s2] at r;obtain ⟨d,hd⟩:=V Y _ r.symm;have f:=T Y d hd;rw [<-r] at f;simp only [cn4] at f;obtain ⟨d1,d2⟩:=d;simp only at f;subst f;have hver:vr j=Nat.max ver5 iv5+1:=by rw [<-hvr];simp [aI9,s,bQ1,r3]
       have hv1:ver5<=Nat.max ver5 iv5:=Nat.le_max_left _ _;have hv2:iv5<=Nat.max ver5 iv5:=Nat.le_max_right _ _;have X:=K j _ r6;simp only [iO,hd] at X;rw [n] at X;refine ⟨_,X,λc v Z=>?_⟩;cases c with
       |self v0=>exact ⟨by have:=Z.1;omega,λhh=>by have:=Z.1;omega⟩
       |key v0 d=>exact ⟨by have:=Z.1;omega,λhh=>by have:=Z.1;omega⟩
       |elt=>exact Z
       |inn=>exact Z
       |iat=>exact Z
       |it=>exact Z
      |dp k ms=>simp [G3] at r
      |box e3 ps3=>simp [G3] at r
      |row k=>simp [G3] at r
      |map k=>simp [G3] at r
      |loop k=>simp [G3] at r
    .have:=(W (j-os.length) (by omega)).1;rw [N j (by omega)] at hl;rw [<-hh1,G.hf.none this] at hl;cases hl
   .have L:∀ j,j<oout.length->ι j≠id:=λj y hh=>O ⟨j,y,hh⟩;exact ⟨D,(hold id L).trans hl,λc v Z=>by rw [hβout id L];exact Z⟩
 have hLive:∀ b,Live β3 h3 b->Live β2 (E3 ds' oout) b:=by
  rintro b (hm|⟨id,o,J,E,H⟩)
  .left;rw [hM2];refine ⟨.inl hm,λhk=>?_⟩;obtain ⟨j,id,o,s,n,r3,S⟩:=hK b hk;exact R.Mo id o b n S hm
  .rcases A id o J with ⟨j,p,s,n,rfl,S⟩|⟨s,n⟩
   .right;rw [hβin j s] at H;exact ⟨oid j,_,D3 n,bE1,H⟩
   .left;rw [hβout id s] at H;rw [hM2];exact ⟨.inr ⟨id,o,n,E,H⟩,hno_old id o b s n H⟩
 have hcells:∀ (j:Nat) (p:OPat),oout[j]? =some p->look (ι j) h3=some (iO ds' ι vr j p)/\β3 (ι j)=β2 (oid j):=λj p z=>⟨K j p z,hβin j (cn9.1 z).1⟩;refine ⟨β3,A1.trans (Ext.after ext ⟨R.bel.trans k2.bel,k2.hB,λid o hl=>?_,λid o id' o' b J E H q4=>?_,λb hb hKb=>?_,λid o b J E=>?_,λid o b J E=>?_,λb hm=>R.Mlt b hm,R.Meq,λid o v J E=>?_,R.nmg,R.glo⟩),λps vs hc=>aX5 (h:=h3) hLive hcells hc⟩
 .rcases A id o hl with ⟨j,p,s,n,rfl,rfl⟩|⟨s,n⟩
  .exact cb3 hLive hcells (hlpin j s) (hβin j s) (k2.obj (oid j) _ (D3 n))
  .exact ext.o (hβout id s) (hlpout id s) (λb hb=>hfrm b ((R.obj id o n).blk hb).2 (hno_old id o b s n hb)) (R.obj id o n)
 .rcases A id o J with ⟨j,p,s,n,rfl,S⟩|⟨s,n⟩<;>rcases A id' o' E with ⟨j',p',r1',r2',rfl,r4'⟩|⟨r1',r2'⟩
  .rw [hβin j s] at H;rw [hβin j' r1'] at q4;rw [S0 (k2.dis _ _ _ _ b (D3 n) (D3 r2') H q4)]
  .rw [hβin j s] at H;rw [hβout id' r1'] at q4;exfalso;rcases k2.own (oid j) _ b (D3 n) H with C|C
   .exact hno_old id' o' b r1' r2' q4 C
   .have C:w.heap.size<=b:=C;have:=((R.obj id' o' r2').blk q4).2;omega
  .rw [hβout id s] at H;rw [hβin j' r1'] at q4;exfalso;rcases k2.own (oid j') _ b (D3 r2') q4 with C|C
   .exact hno_old id o b s n H C
   .have C:w.heap.size<=b:=C;have:=((R.obj id o n).blk H).2;omega
  .rw [hβout id s] at H;rw [hβout id' r1'] at q4;exact R.dis id o id' o' b n r2' H q4
 .by_cases hk:kb β m b
  .obtain ⟨j,id,o,s,n,r3,S⟩:=hK b hk;rcases R.own id o b n S with C|C
   .exact absurd C hKb
   .omega
  .rw [hfrm b (by omega) hk];exact R.frm b hb hKb
 .rcases A id o J with ⟨j,p,s,n,rfl,S⟩|⟨s,n⟩
  .rw [hβin j s] at E;rcases k2.own (oid j) _ b (D3 n) E with C|C
   .obtain ⟨j',id',o',s1,s2,s3,s4⟩:=hK b C;exact R.own id' o' b s2 s4
   .have C:w.heap.size<=b:=C;right;omega
  .rw [hβout id s] at E;exact R.own id o b n E
 .rcases A id o J with ⟨j,p,s,n,rfl,S⟩|⟨s,n⟩
  .rw [hβin j s] at E;rcases k2.own (oid j) _ b (D3 n) E with C|C
   .obtain ⟨j',id',o',s1,s2,s3,s4⟩:=hK b C;exact R.Mo id' o' b s2 s4
   .have C:w.heap.size<=b:=C;intro hm;have:=R.Mlt b hm;omega
  .rw [hβout id s] at E;exact R.Mo id o b n E
 .rcases A id o J with ⟨j,p,s,n,rfl,rfl⟩|⟨s,n⟩
  .by_cases Q:j<os.length
   .obtain ⟨id',o',q,s1,s2,s3,s4,s5,s6,I⟩:=P j Q;rw [n] at s6;simp only [cn4] at s6;subst s6;cases hro:(iO ds' ι vr j p).isRow with
    |true=>exact .inl rfl
    |false=>
     right;have hro2:(iO ds' oid (λ_=>0) j p).isRow=false:=bE5 hro;have hor:o'.isRow=false:=by
      cases z:os[j]! with
      |box e2 ps2=>rw [z] at s5;obtain ⟨_,t1,_⟩:=s5;rw [t1];rfl
      |row k=>
       exfalso;rw [z] at s5 I;obtain ⟨e5,t5,l5,ver5,t1,t2,t3⟩:=s5;cases p with
       |row Y=>simp only [G3,beq_iff_eq] at I;rw [t2] at I;obtain ⟨d,hd⟩:=V Y _ I.symm;have f:=T Y d hd;rw [<-I] at f;simp only [cn4] at f;obtain ⟨d1,d2⟩:=d;simp only at f;subst f;simp [iO,hd,Ob.isRow] at hro
       |box e3 ps3=>simp [G3] at I
       |map k=>simp [G3] at I
       |loop k=>simp [G3] at I
       |dp k ms=>simp [G3] at I
       |ms k=>simp [G3] at I
      |dp k ms=>
       exfalso;rw [z] at s5 I;obtain ⟨e5,t5,l5,ver5,iv5,t1,t2,t3⟩:=s5;cases p with
       |dp Y ms3=>simp only [G3,cn7,beq_iff_eq] at I;obtain ⟨I,_⟩:=I;rw [t2] at I;obtain ⟨d,hd⟩:=V Y _ I.symm;have f:=T Y d hd;rw [<-I] at f;simp only [cn4] at f;obtain ⟨d1,d2⟩:=d;simp only at f;subst f;simp [iO,hd,Ob.isRow] at hro
       |ms k=>simp [G3] at I
       |box e3 ps3=>simp [G3] at I
       |row k=>simp [G3] at I
       |map k=>simp [G3] at I
       |loop k=>simp [G3] at I
      |ms k=>
       exfalso;rw [z] at s5 I;obtain ⟨kt5,e5,t5,l5,ver5,iv5,t1,t2,t3⟩:=s5;cases p with
       |ms Y=>simp only [G3,beq_iff_eq] at I;rw [t2] at I;obtain ⟨d,hd⟩:=V Y _ I.symm;have f:=T Y d hd;rw [<-I] at f;simp only [cn4] at f;obtain ⟨d1,d2⟩:=d;simp only at f;subst f;simp [iO,hd,Ob.isRow] at hro
       |box e3 ps3=>simp [G3] at I
       |row k=>simp [G3] at I
       |map k=>simp [G3] at I
       |loop k=>simp [G3] at I
       |dp k ms=>simp [G3] at I
      |map k=>rw [z] at s5;obtain ⟨_,_,_,t1,_⟩:=s5;rw [t1];rfl
      |loop k=>rw [z] at s5;obtain ⟨_,t1,_⟩:=s5;rw [t1];rfl
     obtain ⟨f1,f2⟩:=hfix j Q id' _ s1 s4 hor _ n hro2;rw [hβin j s,hlpin j s,f1,f2];rw [s2] at E;rcases R.fix id' o' v s4 E with h6|h6
     .rw [hor] at h6;cases h6
     .exact h6
   .have C:=(W (j-os.length) (by omega)).2;rw [N j (by omega)] at E;have:=R.nmg _ v E;omega
  .rw [hβout id s,hlpout id s];exact R.fix id o v n E
theorem aX8 {σ:List (Nat×PV U)} {gs:List (Bool×Nat)} {cs:List (Cell U)} {p:PV U} (d:ca0 gs cs=some p) {us:List Value} {v:Value} (c:aa2 gs us v) (hc:CsRel w β h cs us):PRel w β h σ p v:=by
 unfold ca0 at d;split at d
 .rename_i b g hg;have e:gs.length=1:=by rw [<-J1 gs cs,hg];rfl
  match gs,e with
  |[a],_=>have h1:I8 [a] us [v]:=c;obtain ⟨_,h3⟩:=P3 (σ:=σ) h1 hc;exact bE0 (h3 0 (b,g) v (by rw [hg];rfl) rfl) d
 .rename_i f;simp only [cn4] at d;subst d;have i:∀ a,gs≠[a]:=by
   intro a j;obtain ⟨n,o⟩:=a;rw [j] at f;exact f _ _ rfl
  have k:∃ vs:List Value,v=.tuple vs.toArray/\I8 gs us vs:=by
   unfold aa2 at c;split at c
   .rename_i a;exact absurd rfl (i a)
   .exact c
  obtain ⟨vs,c,h4⟩:=k;obtain ⟨l,m⟩:=P3 (σ:=σ) h4 hc;exact ⟨vs,c,by rw [l,J1],m⟩
theorem bg4 {Y:Fr} {yl:List (Nat×Nat)} {k:Con U} {xs:Dens U.T k.params} {m:Mt U} (C:O0 Y F yl) (G:Matched F w β h g k.params k.oin (A7 U k.params xs) m) (e:ylOk g yl m k.yl=true):O0 Y (frOf F w β h m) k.yl:=by
 intro y;have K:=G.k;unfold ylOk at e;rw [cq4] at e;have d:∀ j i',(j,i')∈k.yl->∃ i o,look j yl=some i/\look i' m.ι=some (oid i)/\look (oid i) h=some o/\o.isRow=false:=by
  intro j i' hm;have h1:=e _ hm;simp only at h1;split at h1
  case h_2=>cases h1
  rename_i i D;rw [cn7] at h1;obtain ⟨h2,h3⟩:=h1;split at h2
  case h_2=>cases h2
  rename_i id z;split at h3
  case h_2=>cases h3
  rename_i o E;have h4:=cn5 h2;subst h4;exact ⟨i,o,D,z,G.hg _ _ E,by simpa using h3⟩
 have q:∀ {j i:Nat} {l:List (Nat×Nat)},look j l=some i->(j,i)∈l:=by
  intro j i l
  induction l with
  |nil=>intro hl;simp [look] at hl
  |cons x r ih=>
   obtain ⟨a,b⟩:=x;intro hl;simp only [look] at hl;split at hl
   .rename_i c;simp only [cn4] at hl;subst hl;rw [cn5 c];simp
   .exact List.mem_cons_of_mem _ (ih hl)
 have f:yl≠[]:=by obtain ⟨x,H⟩:∃ x,x∈k.yl:=List.exists_mem_of_ne_nil _ y;obtain ⟨i,o,h1,_⟩:=d x.1 x.2 H;intro h0;rw [h0] at h1;simp [look] at h1
 have W:=C f;have I:Y.w0.heap.size<=F.w0.heap.size:=W.bel.size;have s:∀ b,b<Y.w0.heap.size->Own β h b->Y.K b:=by
  rintro b c ⟨id,o,h1,_,h3⟩;rcases K.own id o b h1 h3 with n|n
  .exact W.K b c n
  .omega
 refine ⟨W.B,W.G,W.bel.trans (W.B▸K.bel),λb c t=>?_,λb c t=>?_,λb c=>?_,λb c hM=>?_,λj i' v hm J=>?_⟩
 .show w.heap[b]? =_;rw [<-W.frm b c t];exact K.frm b (by omega) (λh=>t (W.K b c h))
 .obtain ⟨j,id,h1,h2⟩:=t;obtain ⟨p,o,_,h4,_⟩:=G.at_ h1;rcases K.own id o b h4 h2 with n|n
  .exact W.K b c n
  .omega
 .have hM:=W.M b c;rw [<-K.Meq] at hM;refine ⟨.inl hM,?_⟩;rintro ⟨j,id,h1,h2⟩;obtain ⟨p,o,_,h4,_⟩:=G.at_ h1;exact K.Mo id o b h4 h2 hM
 .have A:=H8 G.k G.hf;rcases A.ext.live b (by have:=K.bel.size;omega) hM.1 with h1|h1
  .rw [K.Meq] at h1;exact W.Mup b c h1
  .exact .inr (s b c h1)
 .obtain ⟨i,o,h1,h2,h3,h4⟩:=d j i' hm;have n:=W.nm j i v (q h1) J;show nmOf β h m (oid i')=some v;have L:nmOf β h m (oid i')=some (β (oid i),β.lp (oid i)):=by
   unfold nmOf;have N:1000000<=oid i':=by unfold oid;omega
   have O:oid i'-1000000=i':=by unfold oid;omega
   simp only [N,if_true,O,h2,h3,h4,Bool.false_eq_true,if_false]
  rw [L];rcases K.fix _ _ _ h3 n with u|u
  .rw [h4] at u;cases u
  .rw [u]
def aB4 (F:Fr) (w:World) (β:Nm) (h g:Obs U) (C:Runs) (yl:List (Nat×Nat)) (k:Con U) (vs:List (PV U)):Prop:=
 ∀ xs m cs,F3 k.args vs=some cs->am7 g k cs=some (xs,m)->Matched F w β h g k.params k.oin (A7 U k.params xs) m->ylOk g yl m k.yl=true->holds (k.pre.map λp=>p xs)->bY8 (frOf F w β h m) C F.G k xs
theorem GivesC.calls {Y:Fr} {C:Runs} {yl:List (Nat×Nat)} (c:O0 Y F yl) {k:Con U} (a:GivesC Y C F.G k) {vs:List (PV U)}:aB4 F w β h g C yl k vs:=
 λxs m _ _ _ G b d=>a xs d _ (bg4 c G b)
theorem au2 {C:Runs} (x:C.Mono) {yl:List (Nat×Nat)} {k:Con U} {vs:List (PV U)} (y:aB4 F w β h g C yl k vs) (K:Ok F w β h) (hg:∀ id o,look id g=some o->look id h=some o) {dst:Option Tmp} {c:CallE U} (l:Z5 g yl dst k vs=some c) (R:c.e.Obl)
  (E:∀ id∈c.news,look id h=none/\id<1000000) {σ:List (Nat×PV U)} {us:List Value} (hl:us.length=vs.length) (r:∀ (j:Nat) (p:PV U) (v:Value),vs[j]? =some p->us[j]? =some v->PRel w β h σ p v):
  C us w λe w'=>match e with
   | .returned v=>(∀ b,c.pan=some b->b.1=false)/\∃ β',After F w β h w' β' (upds h c.e.upd)/\PRel w' β' (upds h c.e.upd) σ c.e.val v
   | .panicked ch=>∃ b u,c.pan=some b/\b.1=true/\ch=[{ v:=u,recovered:=false }]/\an7 b.2 u/\Below F.B w w'/\∀ blk,blk<w.heap.size->(∀ id∈keys c.e.upd,∀ o,look id h=some o->o.live=true->¬ Has (β id) blk)->w'.heap[blk]? =w.heap[blk]?
   | .outgrown=>False:=by
 unfold Z5 at l;split at l
 case h_2=>cases l
 rename_i cs H;split at l
 case h_2=>cases l
 rename_i xs m hm;split at l
 case h_2=>cases l
 rename_i v f;simp only [co7] at f;split at f
 case isFalse=>cases f
 rename_i S;simp only [cn4] at l;subst l;obtain ⟨G,a,I,T,J⟩:=aa5 K hg hm;obtain ⟨ys,z,V⟩:=N9 (w:=w) (β:=β) (h:=h) (σ:=σ) (vs:=us) H hl r;have n:=G.cells (M:=(frOf F w β h m).M) (λb W=>W.1) I T V;have s:=y xs m cs H hm G S R (S1 β m (frOf F w β h m).M) w ys us rfl rfl G.given (λj p hp d=>by
  obtain ⟨id,o,L,q2,X,N⟩:=J j p hp;simp only [frOf,nmOf,oid];rw [if_pos (by omega),Nat.add_sub_cancel_left,L];simp only [X];have Y:o.isRow=false:=by
   cases p with
   |box e ps=>obtain ⟨_,rfl,_⟩:=N;rfl
   |row k=>cases d
   |map k=>obtain ⟨_,_,_,rfl,_⟩:=N;rfl
   |loop k=>obtain ⟨_,rfl,_⟩:=N;rfl
   |dp k ms=>cases d
   |ms k=>cases d
  rw [if_neg (by rw [Y];simp)];have h1:=H4 (β:=β) (M:=(frOf F w β h m).M) L;have h2:=ay7 (β:=β) (M:=(frOf F w β h m).M) L;simp only [oid] at h1 h2;simp only [frOf] at h1 h2;rw [h1,h2]) (λid v f=>by
  simp only [frOf,nmOf] at f;split at f
  .rename_i hge;split at f
   .rename_i i hi;exact ⟨id-1000000,G.lt _ _ hi,by simp only [oid];omega⟩
   .cases f
  .cases f) n z
 refine x _ _ _ _ s (λen w' D=>?_);cases en with
 |outgrown=>exact D
 |returned u=>
  obtain ⟨W,β2,rs,k2,Z,hrs⟩:=D;obtain ⟨β3,A,hc⟩:=bu0 (dst:=dst) G (λ_ _ hd=>aB2 hd) (tys':=k.tys) (λ_ _ hd=>aB2 hd) (λj t O=>by
   have hjl:j<(A7 U k.tys (k.fn xs)).length:=by rw [F8];exact (cn9.1 O).1
   exact ⟨_,cn6 hjl⟩) a J (λj O=>E _ (List.mem_map.2 ⟨j,List.mem_range.2 O,rfl⟩)) k2
  refine ⟨λb P=>?_,β3,?_,?_⟩
  .simp only [co1] at P;obtain ⟨b',hb',rfl⟩:=P;exact W b' hb'
  .dsimp only;rw [C6];exact A
  .dsimp only;rw [C6];exact aX8 f Z (hc _ _ hrs)
 |panicked ch=>obtain ⟨b,u,L,q2,X,N,q5,q6⟩:=D;refine ⟨b xs,u,by simp [L],q2,X,N,q5,λblk Q hno=>q6 blk Q ?_⟩;rintro ⟨j,id,r1,r2⟩;obtain ⟨p0,o0,t1,t2,t3⟩:=G.at_ r1;refine hno id ?_ o0 t2 t3.live r2;have O:=G.lt j id r1;obtain ⟨q,s1,_⟩:=aa4 a j _ (cn6 O);have:=bg3 (ds:=A7 U k.tys (k.fn xs)) (ι:=ac7 m dst k.oin.length) (vr:=aI9 g m) (os:=k.oout) (j0:=0) s1;rw [Nat.zero_add,aX7 r1] at this;simp only [keys,List.map_append,cq1];exact .inr (List.mem_map.2 ⟨_,this,rfl⟩)
theorem ag8 {x y:Datum U} {q:Prop} (h:eqD x y q):x=y/\q:=by
 unfold eqD at h;split at h
 .rename_i v a;obtain ⟨rfl,b⟩:=h;exact ⟨Datum.as_eq a,b⟩
 .exact h.elim
theorem Q1 {b:Bool} {p:Prop} (h:bif b then p else False):b=true/\p:=by
 cases b with
 |true=>exact ⟨rfl,h⟩
 |false=>exact h.elim
theorem bE6 {x y:DC U} {q:Prop} (h:eqDC x y q):x=y/\q:=by
 unfold eqDC at h;split at h
 .obtain ⟨h1,a⟩:=Q1 h;rw [cn5 h1];exact ⟨rfl,a⟩
 .obtain ⟨h1,rfl,a⟩:=Q1 h;simp only [cn7] at h1;rw [cn5 h1.1,cn5 h1.2];exact ⟨rfl,a⟩
 .obtain ⟨h1,rfl,a⟩:=Q1 h;simp only [cn7] at h1;rw [cn5 h1.1,cn5 h1.2];exact ⟨rfl,a⟩
 .obtain ⟨h1,rfl,rfl,a⟩:=Q1 h;simp only [cn7] at h1;rw [cn5 h1.1.1,cn5 h1.1.2,cn5 h1.2];exact ⟨rfl,a⟩
 .obtain ⟨h1,a⟩:=Q1 h;rw [cn5 h1];exact ⟨rfl,a⟩
 .exact h.elim
theorem bg5 {x y:Deep U} {q:Prop} (h:bC3 x y q):x=y/\q:=by
 unfold bC3 at h;split at h
 .rename_i q e t m l ver iv lv e' t' m' l' ver' iv' lv';obtain ⟨h1,h2⟩:=Q1 h;simp only [cn7,beq_iff_eq] at h1;obtain ⟨⟨⟨rfl,h4⟩,a⟩,rfl⟩:=h1;have h4:=cn5 h4;have a:=cn5 a;subst h4;subst a;obtain ⟨b,c⟩:=ag8 (show eqD (U:=U) ⟨.slice e t,l⟩ ⟨.slice e' t',l'⟩ _ from h2);cases b;exact ⟨rfl,c⟩
 .rename_i q kt e t l ver iv lv kt' e' t' l' ver' iv' lv';obtain ⟨h1,h2⟩:=Q1 h;simp only [cn7,beq_iff_eq] at h1;obtain ⟨⟨h4,a⟩,rfl⟩:=h1;have h4:=cn5 h4;have a:=cn5 a;subst h4;subst a;obtain ⟨b,c⟩:=ag8 (show eqD (U:=U) ⟨.map kt (.slice e t),l⟩ ⟨.map kt' (.slice e' t'),l'⟩ _ from h2);cases b;exact ⟨rfl,c⟩
 .obtain ⟨h1,rfl,rfl,rfl,c⟩:=Q1 h;simp only [cn7,beq_iff_eq] at h1;obtain ⟨⟨h2,rfl⟩,rfl⟩:=h1;rw [cn5 h2];exact ⟨rfl,c⟩
 .exact h.elim
theorem bp4 {x y:Cell U} {q:Prop} (h:eqC x y q):x=y/\q:=by
 unfold eqC at h;split at h
 .exact ⟨rfl,h⟩
 .obtain ⟨rfl,c⟩:=ag8 h;exact ⟨rfl,c⟩
 .rename_i q' a b a' b';revert h;cases hc:(Nat.beq a a'&&Nat.beq b b') with
  |false=>intro h;exact False.elim h
  |true=>intro h;simp only [cn7] at hc;have h1:=cn5 hc.1;have h2:=cn5 hc.2;subst h1;subst h2;exact ⟨rfl,h⟩
 .rename_i q' a b a' b';revert h;cases hc:(Nat.beq a a'&&Nat.beq b b') with
  |false=>intro h;exact False.elim h
  |true=>intro h;simp only [cn7] at hc;have h1:=cn5 hc.1;have h2:=cn5 hc.2;subst h1;subst h2;exact ⟨rfl,h⟩
 .obtain ⟨rfl,rfl,c⟩:=h;exact ⟨rfl,c⟩
 .rename_i q' a a';revert h;cases hc:Nat.beq a a' with
  |false=>intro h;exact False.elim h
  |true=>intro h;have h1:=cn5 hc;subst h1;exact ⟨rfl,h⟩
 .exact ⟨rfl,h⟩
 .obtain ⟨rfl,c⟩:=h;exact ⟨rfl,c⟩
 .rename_i q' a a';revert h;cases hc:Nat.beq a a' with
  |false=>intro h;exact False.elim h
  |true=>intro h;have h1:=cn5 hc;subst h1;exact ⟨rfl,h⟩
 .rename_i q' a a';revert h;cases hc:Nat.beq a a' with
  |false=>intro h;exact False.elim h
  |true=>intro h;have h1:=cn5 hc;subst h1;exact ⟨rfl,h⟩
 .rename_i q' f a f' a';revert h;cases hc:(Nat.beq f f'&&(a==a')) with
  |false=>intro h;exact False.elim h
  |true=>intro h;simp only [cn7,beq_iff_eq] at hc;have h1:=cn5 hc.1;have h2:=hc.2;subst h1;subst h2;exact ⟨rfl,h⟩
 .obtain ⟨h1,c⟩:=Q1 h;simp only [cn7] at h1;rw [cn5 h1.1,cn5 h1.2];exact ⟨rfl,c⟩
 .obtain ⟨h1,h2⟩:=Q1 h;obtain ⟨rfl,c⟩:=bE6 h2;rw [cn5 h1];exact ⟨rfl,c⟩
 .exact h.elim
theorem an8 {q:Prop}:∀ {x y:List (Cell U)},eqCs x y q->x=y/\q
 |[],[],h=>⟨rfl,h⟩
 |[],_::_,h=>h.elim
 |_::_,[],h=>h.elim
 |x::r,y::r',h=>by obtain ⟨rfl,h2⟩:=bp4 (show eqC x y (eqCs r r' q) from h);obtain ⟨rfl,h3⟩:=an8 h2;exact ⟨rfl,h3⟩
theorem bp5 {x y:Ob U} {q:Prop} (h:eqO x y q):x=y/\q:=by
 unfold eqO at h;split at h
 .rename_i q e x e' y;revert h;cases hc:Nat.beq e e' with
  |false=>intro h;exact False.elim h
  |true=>intro h;have h1:=cn5 hc;subst h1;obtain ⟨rfl,a⟩:=an8 (show eqCs x y _ from h);exact ⟨rfl,a⟩
 .rename_i q e t l ver lv e' t' l' ver' lv';revert h;cases hc:(Nat.beq ver ver'&&(lv==lv')) with
  |false=>intro h;exact False.elim h
  |true=>intro h;simp only [cn7,beq_iff_eq] at hc;have h1:=cn5 hc.1;have h2:=hc.2;subst h1;subst h2;obtain ⟨b,a⟩:=ag8 (show eqD (U:=U) ⟨.slice e t,l⟩ ⟨.slice e' t',l'⟩ _ from h);cases b;exact ⟨rfl,a⟩
 .rename_i q k v l k' v' l';obtain ⟨b,a⟩:=ag8 (show eqD (U:=U) ⟨.map k v,l⟩ ⟨.map k' v',l'⟩ _ from h);cases b;exact ⟨rfl,a⟩
 .obtain ⟨rfl,a⟩:=h;exact ⟨rfl,a⟩
 .obtain ⟨rfl,a⟩:=bg5 h;exact ⟨rfl,a⟩
 .exact h.elim
theorem aK5 {id:Nat} {o:Ob U}:∀ {h:Obs U},look id h=some o->write id o h=h
 |[],hl=>by simp [look] at hl
 |(j,b)::r,hl=>by
  simp only [look] at hl;simp only [write];cases a:Nat.beq j id with
  |true=>rw [a] at hl;simp only [if_true,cn4] at hl;simp only [if_true];rw [hl,cn5 a]
  |false=>rw [a] at hl;simp only [Bool.false_eq_true,if_false] at hl |-;rw [aK5 hl]
theorem ay9 {g:Obs U} {ids:List Nat}:∀ {u:Obs U} {seen:List Nat} {r:Option Prop×Obs U},(∀ x∈(trim g ids u seen r).2,x∈r.2\/x∈u)/\∀ id∈keys u,id∈ids\/id∈keys (trim g ids u seen r).2
 |[],seen,r=>⟨λx b=>.inl b,λid a=>by simp [keys] at a⟩
 |(j,o)::u,seen,r=>by
  have c:∀ {seen:List Nat} {r:Option Prop×Obs U},∀ x∈r.2,x∈(trim g ids u seen r).2:=by
   intro seen r
   induction u generalizing seen r with
   |nil=>intro x b;exact b
   |cons y u ih=>
    intro x b;simp only [trim];split
    .exact ih (r:=(_,r.2)) x b
    .exact ih (r:=(_,r.2++[y])) x (cq1.2 (.inl b))
  simp only [trim];split
  .rename_i o' d;obtain ⟨h1,h2⟩:=ay9 (g:=g) (ids:=ids) (u:=u) (seen:=seen) (r:=(andO r.1 (eqO o' o True),r.2));refine ⟨λx b=>(h1 x b).imp (λh=>h) (λh=>List.mem_cons_of_mem _ h),λid a=>?_⟩;simp only [keys,List.map_cons,List.mem_cons] at a;rcases a with rfl|a
   .left;cases e:(ids.any (Nat.beq id)&&!(seen.any (Nat.beq id))) with
    |false=>rw [e] at d;cases d
    |true=>simp only [cn7,List.any_eq_true] at e;obtain ⟨⟨x,b,f⟩,_⟩:=e;rw [cn5 f];exact b
   .exact h2 id a
  .obtain ⟨h1,h2⟩:=ay9 (g:=g) (ids:=ids) (u:=u) (seen:=j::seen) (r:=(r.1,r.2++[(j,o)]));refine ⟨λx b=>?_,λid a=>?_⟩
   .rcases h1 x b with h|h
    .simp only [cq1,co5] at h;rcases h with h|h
     .exact .inl h
     .exact .inr (by simp [h])
    .exact .inr (List.mem_cons_of_mem _ h)
   .simp only [keys,List.map_cons,List.mem_cons] at a;rcases a with rfl|a
    .right;exact List.mem_map.2 ⟨(id,o),c (seen:=id::seen) (r:=(r.1,r.2++[(id,o)])) _ (by simp),rfl⟩
    .exact h2 id a
theorem aB5 {g h:Obs U} (hg:∀ id o,look id g=some o->look id h=some o) {ids:List Nat}:∀ {u:Obs U} {seen:List Nat} {r:Option Prop×Obs U},(∀ id∈keys r.2,id∈seen)->holds (trim g ids u seen r).1->
  holds r.1/\upds (upds h r.2) u=upds h (trim g ids u seen r).2
 |[],seen,r,hs,c=>⟨c,rfl⟩
 |(j,o)::u,seen,r,hs,c=>by
  simp only [trim] at c |-;split at c
  .rename_i o' a;obtain ⟨h1,h2⟩:=aB5 hg (u:=u) (seen:=seen) (r:=(andO r.1 (eqO o' o True),r.2)) hs c;cases d:(ids.any (Nat.beq j)&&!(seen.any (Nat.beq j))) with
   |false=>rw [d] at a;cases a
   |true=>
    rw [d] at a;simp only [cond_true] at a;have h3:holds r.1/\eqO o' o True:=by
     revert h1;cases r.1 with
     |none=>exact λh1=>⟨trivial,h1⟩
     |some p=>exact λh1=>h1
    have e:=(bp5 h3.2).1;subst e;refine ⟨h3.1,?_⟩;simp only [upds];rw [<-h2];congr 1;refine aK5 ?_;rw [B6]
    .exact hg _ _ a
    .intro f hm;have:=hs j (List.mem_map.2 ⟨_,hm,rfl⟩);simp only [cn7,Bool.not_eq_true',List.any_eq_false] at d;exact d.2 j this (Nat.beq_refl j)
  .rename_i a;obtain ⟨h1,h2⟩:=aB5 hg (u:=u) (seen:=j::seen) (r:=(r.1,r.2++[(j,o)])) (λid b=>by
    simp only [keys,List.map_append,List.map_cons,List.map_nil,cq1,co5] at b;rcases b with b|b
    .exact List.mem_cons_of_mem _ (hs id b)
    .simp [b]) c
   refine ⟨h1,?_⟩;rw [<-h2,C6];rfl
theorem bR0 {t:Ty} (a:scal t=true) {x:den U.T t} {v:Value} {w':World} {M M':Nat->Prop} (r:Rep U w M ⟨t,x⟩ v):Rep U w' M' ⟨t,x⟩ v:=by
 cases t with
 |int k=>cases r;exact .int _ _
 |bool=>cases r;exact .bool _
 |_=>cases a
theorem bR1 {C:Runs} (s:C.Mono) {yl:List (Nat×Nat)} {k:Con U} {vs:List (PV U)} (z:aB4 F w β h g C yl k vs) (K:Ok F w β h) (hg:∀ id o,look id g=some o->look id h=some o) {dst:Option Tmp} {c:CallE U} (f:Z5 g yl dst k vs=some c) (P:c.e.Obl) (E:ca1 k=true)
  {σ:List (Nat×PV U)} {us:List Value} (hl:us.length=vs.length) (r:∀ (j:Nat) (p:PV U) (v:Value),vs[j]? =some p->us[j]? =some v->PRel w β h σ p v):
  C us w λe w'=>match e with
   | .returned v=>After F w β h w' β h/\PRel w' β h σ c.e.val v
   | .panicked ch=>False
   | .outgrown=>False:=by
 simp only [ca1,cn7,List.isEmpty_iff,cq4,Option.isNone_iff_eq_none] at E;obtain ⟨⟨⟨⟨Y,l2⟩,l3⟩,l4⟩,l5⟩:=E;unfold Z5 at f;split at f
 case h_2=>cases f
 rename_i cs H;split at f
 case h_2=>cases f
 rename_i xs m hm;split at f
 case h_2=>cases f
 rename_i v a;simp only [co7] at a;split at a
 case isFalse=>cases a
 rename_i Q;simp only [cn4] at f;subst f;obtain ⟨G,R,I,S,hgo⟩:=aa5 K hg hm;obtain ⟨ys,A,T⟩:=N9 (w:=w) (β:=β) (h:=h) (σ:=σ) (vs:=us) H hl r;have l:=G.cells (M:=(frOf F w β h m).M) (λb Z=>Z.1) I S T;have n:=z xs m cs H hm G Q P (S1 β m (frOf F w β h m).M) w ys us rfl rfl G.given (λj p J hrow=>by rw [Y] at J;simp at J) (λid v a=>by
  simp only [frOf,nmOf] at a;split at a
  .rename_i hge;split at a
   .rename_i i hi;exact ⟨id-1000000,G.lt _ _ hi,by simp only [oid];omega⟩
   .cases a
  .cases a) l A
 refine s _ _ _ _ n (λen w' B=>?_);cases en with
 |outgrown=>exact B
 |panicked ch=>obtain ⟨b,u,q1,_⟩:=B;rw [l3] at q1;cases q1
 |returned u=>
  obtain ⟨Z,β2,rs,L,V,D⟩:=B;have N:∀ b,b<w.heap.size->w'.heap[b]? =w.heap[b]? :=λb W=>L.frm b W (by
   rintro ⟨j,id,h1,_⟩;have:=G.lt j id h1;rw [Y] at this;simp at this)
  have O:Below w.heap.size w w':=⟨L.bel.os,L.bel.tape,L.bel.output,L.bel.size,N⟩;refine ⟨ag2 (u:=[]) K O rfl (λ_ _ _=>rfl) (λ_ _ _=>rfl) (λ_ _ h=>by simp at h) (λ_ _ h=>by simp at h) (λ_ _ _ h=>by simp at h) (λ_ _ h=>by simp at h) (λ_ _ _ _ _ h=>by simp at h),aX8 a V ?_⟩;refine ⟨by simpa using D.1,D.2.1,λj x u hx hu=>?_⟩;simp only [co9,co1] at hx;obtain ⟨p,J,rfl⟩:=hx;have hd:=l5 p (List.mem_of_getElem? J);have hc:=D.2.2 j (iC (A7 U k.tys (k.fn xs)) oid (λ_=>0) p) u (by simp [J]) hu;cases p with
  |d q=>
   simp only [iC] at hc |-;split
   .rename_i y hy;rw [hy] at hc;have X:=aB2 hy;obtain ⟨t,y⟩:=y;exact bR0 (l4 t (List.mem_of_getElem? X)) hc
   .trivial
  |_=>cases hd
theorem aB6 {C:Runs} (d:C.Mono) {yl:List (Nat×Nat)} {k:Con U} {vs:List (PV U)} (f:aB4 F w β h g C yl k vs) (K:Ok F w β h) (hg:∀ id o,look id g=some o->look id h=some o) {dst:Option Tmp} {c:CallE U} (i:ac8 g yl dst k vs=some c) (t:c.e.Obl)
  (s:∀ id∈c.news,look id h=none/\id<1000000) {σ:List (Nat×PV U)} {us:List Value} (hl:us.length=vs.length) (r:∀ (j:Nat) (p:PV U) (v:Value),vs[j]? =some p->us[j]? =some v->PRel w β h σ p v):
  C us w λe w'=>match e with
   | .returned v=>(∀ b,c.pan=some b->b.1=false)/\∃ β',After F w β h w' β' (upds h c.e.upd)/\PRel w' β' (upds h c.e.upd) σ c.e.val v
   | .panicked ch=>∃ b u,c.pan=some b/\b.1=true/\ch=[{ v:=u,recovered:=false }]/\an7 b.2 u/\Below F.B w w'/\∀ blk,blk<w.heap.size->(∀ id∈keys c.e.upd++c.lost,∀ o,look id h=some o->o.live=true->¬ Has (β id) blk)->w'.heap[blk]? =w.heap[blk]?
   | .outgrown=>False:=by
 unfold ac8 at i;split at i
 case h_2=>cases i
 rename_i n x;split at i
 .rename_i y;simp only [co7] at i;split at i
  .rename_i z;simp only [cn4] at i;subst i;refine d _ _ _ _ (bR1 d f K hg x t z hl r) (λen w' a=>?_);cases en with
   |returned v=>exact ⟨λb J=>(by cases J),β,a.1,a.2⟩
   |panicked ch=>exact a.elim
   |outgrown=>exact a
  simp only [cn4] at i;subst i;refine d _ _ _ _ (au2 d f K hg x t s hl r) (λen w' a=>?_);cases en with
  |returned v=>exact a
  |panicked ch=>obtain ⟨b,u,A,D,E,G,H,I⟩:=a;exact ⟨b,u,A,D,E,G,H,λblk l q=>I blk l (λid m=>q id (cq1.2 (.inl m)))⟩
  |outgrown=>exact a
 .rename_i ids _;simp only [cn4] at i;subst i;obtain ⟨h1,h2⟩:=aB5 hg (ids:=n.lost) (u:=n.e.upd) (seen:=[]) (r:=(n.e.obl,[])) (λid m=>by simp [keys] at m) t;have h2:upds h n.e.upd=upds h (trim g n.lost n.e.upd [] (n.e.obl,[])).2:=h2;refine d _ _ _ _ (au2 d f K hg x h1 s hl r) (λen w' a=>?_);cases en with
  |returned v=>dsimp only at a |-;rw [h2] at a;exact a
  |panicked ch=>
   obtain ⟨b,u,A,D,E,G,H,I⟩:=a;refine ⟨b,u,A,D,E,G,H,λblk l q=>I blk l (λid m=>?_)⟩;rcases (ay9 (g:=g) (ids:=n.lost) (u:=n.e.upd) (seen:=[]) (r:=(n.e.obl,[]))).2 id m with h|h
   .exact q id (cq1.2 (.inr h))
   .exact q id (cq1.2 (.inl h))
  |outgrown=>exact a
end
end Go.VT
end
section
namespace Go.VT
noncomputable section
open Go.RowKit
variable {U:Univ} {E:Env U} {F:Fr} {n:Nat} {β:Nm} {s:St U} {ρ:Operand->Value} {tmps:Array Value} {w:World} {o:Oper} {e:Eff U} {h:Obs U}
theorem Rep.cut {M:Nat->Prop} {e:TypeId} {t:Ty} {l:List (den U.T t)} {A:Option Addr} {k c:Nat} (r:Rep U w M ⟨.slice e t,l⟩ (.slice A k c)) {a b:Nat} (p:a<=b) (s:b<=l.length):
  k=l.length/\(0<k->k<=c)/\Rep U w M ⟨.slice e t,(l.take b).drop a⟩ (sliced A a b c (szOf U t)):=by
 generalize n:Value.slice A k c=v at r;cases r with
 |nil=>
  simp only [Value.slice.injEq] at n;obtain ⟨rfl,rfl,rfl⟩:=n;have:b=0:=by simpa using s
  subst this;have:a=0:=by omega
  subst this;refine ⟨rfl,λC=>by omega,?_⟩;unfold sliced;exact .nil _ _ _ _
 |slice _ _ _ g q cap f h0 hc hm hM hg hcell hr=>
  simp only [Value.slice.injEq] at n;obtain ⟨rfl,rfl,rfl⟩:=n;refine ⟨rfl,λ_=>hc,?_⟩;have h:((l.take b).drop a).length=b-a:=by simp;omega
  unfold sliced;rcases Nat.eq_or_lt_of_le p with rfl|u
  .have:(l.take a).drop a=[]:=List.drop_eq_nil_of_le (by simp;omega);rw [this,Nat.sub_self];exact .nil _ _ _ _
  .rw [if_neg (by omega)];have m:Rep U w M ⟨.slice e t,(l.take b).drop a⟩ (.slice (some ⟨g,q+a*szOf U t,none⟩) ((l.take b).drop a).length (c-a)):=by
    refine .slice e t _ g (q+a*szOf U t) (c-a) (λi j=>f (i+a) j) (by omega) (by omega) (by omega) hM hg (λi y j z=>?_) (λi x o j d B=>?_)
    .rw [h] at y;have:=hcell (i+a) (by omega) j z;rw [<-this];congr 2;rw [Nat.add_mul];omega
    .rw [List.getElem?_drop,List.getElem?_take] at o;split at o
     .exact hr (i+a) x (by rw [Nat.add_comm];exact o) j d B
     .cases o
   rw [h] at m;have:(some (⟨g,q,none⟩:Addr)).map (λx=>x.add (a*szOf U t))=some ⟨g,q+a*szOf U t,none⟩:=by simp [Addr.add_lit]
   rw [this];exact m
theorem bp6 (b:E.Fits) {t e:TypeId} {c:Ty} (d:E.P.underlying t=some (.slice e)) (hc:E.code e=some c):E.P.elem t=e/\(sizeOf e).run E.P w=.ok (szOf U c) w:=by obtain ⟨i,z,f,a,_⟩:=b.code _ _ hc;exact ⟨by simp [Program.elem,d],by simp [sizeOf,typeInfo,f,a]⟩
theorem Does.slice (hE:E.Fits) (R:Rel F n β s tmps w) {t:TypeId} {x:Operand} {lo K:Option Operand} (C:o.op=.slice t x lo K none) {vs:List (PV U)} (hl:vs.length=(x::(lo.toList++K.toList)).length)
  (r:∀ (j:Nat) (p:PV U) (y:Operand),vs[j]? =some p->(x::(lo.toList++K.toList))[j]? =some y->PRel w β s.h s.σ p (ρ y)) {ids:List Nat} (g:ax8 E (sub s.h ids) t lo.isSome K.isSome vs=some e) (f:e.Obl):Does E.P F β s ρ w o e:=by
 unfold ax8 at g;split at g
 case h_2=>cases g
 rename_i el hu;split at g
 case h_2=>cases g
 rename_i c hc;obtain ⟨B,D⟩:=bp6 (w:=w) hE hu hc;have m:E.P.underlying t=some (.slice (E.P.elem t)):=by rw [B];exact hu
 split at g
 case h_2=>cases g
 rename_i x0 bs;split at g
 case h_2=>cases g
 rename_i d u hd;split at g
 case h_2=>cases g
 rename_i l0 M;have:=Datum.as_eq M;subst this;obtain ⟨l,X⟩:∃ l:List (den U.T c),l=l0:=⟨l0,rfl⟩;subst X;obtain ⟨N,_⟩:=J9 hd;have A:=H8 R.ok N;have i:=aj9 R.ok hd (r 0 _ _ rfl rfl).inv.2 N (λ_ hx=>hx);have H:∃ (A0:Option Addr) (Y G:Nat),ρ x=.slice A0 Y G:=by
  generalize L:ρ x=v at i;cases i with
  |nil=>exact ⟨_,_,_,rfl⟩
  |slice=>exact ⟨_,_,_,rfl⟩
 obtain ⟨A0,Y,G,L⟩:=H;rw [L] at i;have fin:∀ (a b:Nat) (p:PV U) (ob:Option Prop),a<=b->b<=l.length->(execOp ρ o).run E.P w=.ok (.value (sliced A0 a b G (szOf U c))) w->p=.one (.d ⟨.slice el c,(l.take b).drop a⟩)->
   Does E.P F β s ρ w o ⟨ob,p,u⟩:=by
  intro a b p ob O Q S hp;subst hp;obtain ⟨_,_,hr⟩:=i.cut O Q;exact ⟨_,w,β,.inl S,A,CsRel.one hr.one hr⟩
 have hk:=(i.cut (Nat.le_refl 0) (Nat.zero_le _)).1;have Z:=(i.cut (Nat.le_refl 0) (Nat.zero_le _)).2.1;have hkc':l.length<=G:=by
  rcases Nat.eq_zero_or_pos Y with h0|h0
  .omega
  .have:=Z h0;omega
 subst hk;split at g
 .rename_i q z;have h1:lo=none:=by simpa using q
  have h2:K=none:=by simpa using z
  subst h1;subst h2;simp only [cn4] at g;subst g;refine fin 0 l.length _ _ (Nat.zero_le _) (Nat.le_refl _) ?_ (by simp);simp [execOp,C,L,run_sliceAt_slice w t _ _ _ _ m,run_slice_all w t A0 l.length G m,B,D]
 .rename_i k V q z;obtain ⟨a,I⟩:∃ a:Int,a=V:=⟨V,rfl⟩;subst I;obtain ⟨lo',rfl⟩:=Option.isSome_iff_exists.1 q;have h2:K=none:=by simpa using z
  subst h2;simp only [cn4] at g;subst g;have f:0<=a/\a<=(l.length:Int):=f;have O:=(r 1 _ _ rfl rfl).int;refine fin a.toNat l.length _ _ (by omega) (Nat.le_refl _) ?_ (by simp);simp [execOp,C,L,O,run_sliceAt_slice w t _ _ _ _ m,run_slice_l w t A0 l.length G m k a f.1 f.2,B,D]
 .rename_i k W q z;obtain ⟨b,J⟩:∃ b:Int,b=W:=⟨W,rfl⟩;subst J;obtain ⟨hi',rfl⟩:=Option.isSome_iff_exists.1 z;have h2:lo=none:=by simpa using q
  subst h2;simp only [cn4] at g;subst g;have f:0<=b/\b<=(l.length:Int):=f;have Q:=(r 1 _ _ rfl rfl).int;refine fin 0 b.toNat _ _ (Nat.zero_le _) (by omega) ?_ (by simp);simp [execOp,C,L,Q,run_sliceAt_slice w t _ _ _ _ m,run_slice_h w t A0 l.length G m k b f.1 (by omega),B,D]
 .rename_i k V k' W q z;obtain ⟨a,I⟩:∃ a:Int,a=V:=⟨V,rfl⟩;subst I;obtain ⟨b,J⟩:∃ b:Int,b=W:=⟨W,rfl⟩;subst J;obtain ⟨lo',rfl⟩:=Option.isSome_iff_exists.1 q;obtain ⟨hi',rfl⟩:=Option.isSome_iff_exists.1 z;simp only [cn4] at g;subst g;have f:0<=a/\a<=b/\b<=(l.length:Int):=f;have O:=(r 1 _ _ rfl rfl).int;have Q:=(r 2 _ _ rfl rfl).int;refine fin a.toNat b.toNat _ _ (by omega) (by omega) ?_ rfl;simp [execOp,C,L,O,Q,run_sliceAt_slice w t _ _ _ _ m,run_slice_lh w t A0 l.length G m k k' a b f.1 f.2.1 (by omega),B,D]
 .cases g
theorem bu1 (Q:E.Fits) (hρ:∀ v,ρ (.const v)=v) {t:TypeId} {x y:Operand} (G:o.op=.makeSlice t x y) (b:az7 x y=true) {k:IntKind} {a:Int} (s:ρ x=.int k a)
  {el:TypeId} (g:E.P.underlying t=some (.slice el)) {c:Ty} (hc:E.code el=some c) (p:0<=a/\a*(N5 E.P el:Int)<=(most:Int)):
  ∃ (i:TypeInfo) (z:Value) (xs:List Value),E.P.info? el=some i/\i.zero=some z/\0<szOf U c/\a.toNat<=most/\(execOp ρ o).run E.P w=.ok (.value (.slice (some ⟨w.heap.size,0,none⟩) a.toNat a.toNat)) (w.alloc (.cells xs.toArray el))/\xs.length=a.toNat*szOf U c/\(∀ v∈xs,v.oneCell'=true)/\
   ∀ (q j:Nat) (d:Datum U),q<a.toNat->(B1 U c (dfl U c))[j]? =some d->∃ u,z.cells[j]? =some u/\xs[q*szOf U c+j]? =some u/\∀ (w:World) (M:Nat->Prop),Rep U w M d u:=by
 obtain ⟨i,z,H,f,O,r,h,I,A,J⟩:=Q.code _ _ hc;have B:N5 E.P el=i.bytes:=by simp [N5,Program.bytesOf,H]
 rw [B] at p;obtain ⟨m,rfl⟩:=co0 p.1;have K:∃ k',ρ y=.int k' (m:Int):=by
  unfold az7 at b;split at b
  .have:=cn5 b;subst this;exact ⟨k,s⟩
  .rename_i kx ax ky ay;simp only [beq_iff_eq] at b;subst b;rw [hρ] at s;simp only [Value.int.injEq] at s;exact ⟨ky,by rw [hρ,s.2]⟩
  .cases b
 obtain ⟨k',K⟩:=K;have hm:m*i.bytes<=most:=by have:=p.2;omega
 have C:m<=most:=Nat.le_trans (Nat.le_mul_of_pos_right _ I) hm;have l:=run_make (P:=E.P) w t el i z g H O k k' (m:Int) (m:Int) (by omega) (Int.le_refl _) (by
  have:((i.bytes*m:Nat):Int)<=281474976710656:=by rw [Nat.mul_comm];simp only [most] at hm;omega
  rwa [Int.natCast_mul] at this) (by simp only [most] at C;omega)
 simp only [cn8] at l |-;have e:∀ q,q<m*i.size->(madeCells z.cells (m*i.size))[q]? =some (z.cells[q % i.size]!):=by intro q D;simp [madeCells,D,r]
 refine ⟨i,z,(madeCells z.cells (m*i.size)).toList,H,O,h,C,by simp [execOp,G,s,K,l],by simp [madeCells,f],λv R=>?_,λq j d D S=>?_⟩
 .obtain ⟨q,D,rfl⟩:=List.mem_iff_getElem.1 R;have F:q<m*i.size:=by simpa [madeCells] using D
  have:=e q F;have n:q % i.size<z.cells.size:=by rw [r];exact Nat.mod_lt _ (by rw [f];exact h)
  rw [cp1 (by simpa [madeCells] using F)] at this;simp only [cn4] at this;rw [Array.getElem_toList,this,getElem!_pos z.cells _ n];exact A _ (Array.getElem_mem_toList n)
 .obtain ⟨u,g,hr⟩:=J j d S;have L:j<i.size:=by
   rw [<-r];by_cases L:j<z.cells.size
   .exact L
   .rw [Array.getElem?_eq_none (by omega)] at g;cases g
  refine ⟨u,g,?_,λw M=>hr w M⟩;have N:q*szOf U c+j<m*i.size:=by rw [<-f];have:(q+1)*i.size<=m*i.size:=Nat.mul_le_mul_right _ D;rw [Nat.add_mul,Nat.one_mul] at this;omega
  rw [Array.getElem?_toList,e _ N,<-f,Nat.mul_comm,Nat.mul_add_mod,Nat.mod_eq_of_lt L];rw [cp1 (by omega)] at g;simp only [cn4] at g;rw [getElem!_pos z.cells j (by omega),g]
theorem Does.make (hE:E.Fits) (R:Rel F n β s tmps w) (hρ:∀ v,ρ (.const v)=v) {t:TypeId} {x y:Operand} (S:o.op=.makeSlice t x y) (b:az7 x y=true) {v:PV U} (r:PRel w β s.h s.σ v (ρ x))
  (B:aP3 E o.dst t v=some e) (f:e.Obl) (hf:look (B3 o.dst 0) s.h=none):Does E.P F β s ρ w o e:=by
 unfold aP3 at B;split at B
 case h_2=>cases B
 rename_i k a0;obtain ⟨a,T⟩:∃ a:Int,a=a0:=⟨a0,rfl⟩;subst T;split at B
 case h_2=>cases B
 rename_i el H;split at B
 case h_2=>cases B
 rename_i c hc;simp only [cn4] at B;subst B;obtain ⟨i,z,hi,C,hz,I,K,V,L,W⟩:=hE.code _ _ hc;have M:N5 E.P el=i.bytes:=by simp [N5,Program.bytesOf,hi]
 have f:0<=a/\a*(N5 E.P el:Int)<=(most:Int):=f;rw [M] at f;obtain ⟨m,rfl⟩:=co0 f.1;have g:=r.int;have X:∃ k',ρ y=.int k' (m:Int):=by
  unfold az7 at b;split at b
  .have:=cn5 b;subst this;exact ⟨k,g⟩
  .rename_i kx ax ky ay;simp only [beq_iff_eq] at b;subst b;rw [hρ] at g;simp only [Value.int.injEq] at g;exact ⟨ky,by rw [hρ,g.2]⟩
  .cases b
 obtain ⟨k',X⟩:=X;have hm:m*i.bytes<=most:=by have:=f.2;omega
 have N:m<=most:=Nat.le_trans (Nat.le_mul_of_pos_right _ V) hm;have D:=run_make (P:=E.P) w t el i z H hi hz k k' (m:Int) (m:Int) (by omega) (Int.le_refl _) (by
  have:((i.bytes*m:Nat):Int)<=281474976710656:=by rw [Nat.mul_comm];simp only [most] at hm;omega
  rwa [Int.natCast_mul] at this) (by simp only [most] at N;omega)
 simp only [cn8] at D;have p:∀ q,q<m*i.size->(madeCells z.cells (m*i.size))[q]? =some (z.cells[q % i.size]!):=by intro q J;simp [madeCells,J,I]
 have A:=aX0 R.ok hf (e:=el) (t:=c) (l:=List.replicate m (dfl U c)) (xs:=(madeCells z.cells (m*i.size)).toList) (by simp [madeCells,C]) (by simpa using N) (λv hv=>by
   obtain ⟨q,J,rfl⟩:=List.mem_iff_getElem.1 hv;have O:q<m*i.size:=by simpa [madeCells] using J
   have:=p q O;have G:q % i.size<z.cells.size:=by rw [I];exact Nat.mod_lt _ (by rw [C];exact K)
   rw [cp1 (by simpa [madeCells] using O)] at this;simp only [cn4] at this;rw [Array.getElem_toList,this,getElem!_pos z.cells _ G];exact L _ (Array.getElem_mem_toList G)) (λq x g j d hd=>by
   have Q:q<m:=by
    by_cases J:q<m
    .exact J
    .rw [List.getElem?_eq_none (by simpa using Nat.le_of_not_lt J)] at g;cases g
   rw [cn6 (by simpa using Q)] at g;simp only [List.getElem_replicate,cn4] at g;subst g;obtain ⟨u,H,hr⟩:=W j d hd;have Y:j<i.size:=by
    rw [<-I];by_cases Y:j<z.cells.size
    .exact Y
    .rw [Array.getElem?_eq_none (by omega)] at H;cases H
   refine ⟨u,?_,hr _ _⟩;have Z:q*szOf U c+j<m*i.size:=by rw [<-C];have:(q+1)*i.size<=m*i.size:=Nat.mul_le_mul_right _ Q;rw [Nat.add_mul,Nat.one_mul] at this;omega
   rw [Array.getElem?_toList,p _ Z,<-C,Nat.mul_comm,Nat.mul_add_mod,Nat.mod_eq_of_lt Y];rw [cp1 (by omega)] at H;simp only [cn4] at H;rw [getElem!_pos z.cells j (by omega),H])
 simp only [List.length_replicate] at A;refine ⟨.slice (some ⟨w.heap.size,0,none⟩) m m,_,_,.inl ?_,A,ad7 (A9 _ _ _) (C2 _ _ _) rfl _⟩;simp [execOp,S,g,X,D]
theorem X6 {B:Nat} {id:Nat} {D:Deep U} {N:Value} (r:DRel B w β h D N) (a:β id=N):ORel B w β h id (.dp D):=by subst a;exact r
theorem Does.slice3 (hE:E.Fits) (R:Rel F n β s tmps w) {t:TypeId} {x hi mx:Operand} (hop:o.op=.slice t x none (some hi) (some mx)) {vs:List (PV U)} (hl:vs.length=[x,hi,mx].length)
  (r:∀ (j:Nat) (p:PV U) (y:Operand),vs[j]? =some p->[x,hi,mx][j]? =some y->PRel w β s.h s.σ p (ρ y)) {ids:List Nat} (i:am3 E (sub s.h ids) t vs=some e) (L:e.Obl):Does E.P F β s ρ w o e:=by
 unfold am3 at i;split at i
 case h_2=>cases i
 rename_i el hu;split at i
 case h_2=>cases i
 rename_i c hc;obtain ⟨M,hsz⟩:=bp6 (w:=w) hE hu hc;have N:E.P.underlying t=some (.slice (E.P.elem t)):=by rw [M];exact hu
 split at i
 case h_2=>cases i
 rename_i x0 k1 a0 k2 b0;obtain ⟨a,ha0⟩:∃ a:Int,a=a0:=⟨a0,rfl⟩;subst ha0;obtain ⟨b,hb0⟩:∃ b:Int,b=b0:=⟨b0,rfl⟩;subst hb0;have ha:=(r 1 _ _ rfl rfl).int;have hb:=(r 2 _ _ rfl rfl).int;have C:∀ (A0:Option Addr) (I D:Nat),ρ x=.slice A0 I D->0<=a->a<=b->b<=(D:Int)->(execOp ρ o).run E.P w=.ok (.value (sliced A0 0 a.toNat b.toNat (szOf U c))) w:=by intro A0 I D O h0 h1 h2;simp [execOp,hop,O,ha,hb,run_sliceAt_slice w t _ _ _ _ N,run_slice_hm w t A0 I D N k1 k2 a b h0 h1 h2,M,hsz]
 split at i
 ·--a row of the call's own
  rename_i id ver;split at i
  case h_2=>cases i
  rename_i e' t' l ver' G;split at i
  case isFalse=>cases i
  rename_i Q;simp only [cn7,beq_iff_eq] at Q;have S:=cn5 Q.1;simp only [cn4] at i;subst i;have G:=C1 G;obtain ⟨q1,q2⟩:a=(l.length:Int)/\b=(l.length:Int):=L;obtain ⟨_,_,_,_,_,J,_,H⟩:=(r 0 _ _ rfl rfl).inv.2;rw [G] at J;simp only [cn4,Ob.row.injEq] at J;have hx:=H (S.trans J.2.2.2.1);obtain ⟨xs,m,hm,h1c,V⟩:=R.obj id _ G;obtain ⟨v',hrv,k⟩:∃ v',(execOp ρ o).run E.P w=.ok (.value v') w/\Owns w F.B e' (szOf U t') v' l.length xs/\D5 v'=D5 (β id):=by
   rcases m.2 with ⟨h3,h4⟩|⟨g,cap,cur,h3,h4,W,h6,h7,h8,h9⟩
   .refine ⟨.slice none 0 0,?_,⟨m.1,.inl ⟨rfl,h4⟩⟩,by rw [h3]⟩;rw [C none 0 0 (by rw [hx,h3]) (by omega) (by omega) (by omega)];have h4':l.length=0:=h4;rw [q1,q2,h4'];rfl
   .refine ⟨.slice (some ⟨g,0,none⟩) l.length l.length,?_,⟨m.1,.inr ⟨g,l.length,cur,rfl,h4,W,Nat.le_refl _,by omega,Nat.le_trans (Nat.mul_le_mul_right _ h6) h8,h9⟩⟩,by rw [h3];rfl⟩;rw [C _ _ cap (by rw [hx,h3]) (by omega) (by omega) (by omega),q1,q2];simp [sliced,Addr.add_lit]
  have A:After F w β s.h w (upd1 β id v') (write id (.row e' t' l (ver+1) true) s.h):=by
   refine J0 R.ok G rfl rfl rfl rfl (Nat.le_refl _) (λ_ _ _=>rfl) rfl (λj hj=>ag3 β v' hj) rfl (λh=>by simp [Ob.oth] at h) (λbb X=>.inl ?_) (λ_ _ W=>by cases W) (λe2 t2 l2 v2 lv2 W=>?_) (λxx=>?_)
   .rw [C2] at X;refine m.has ?_;rw [<-k.2];exact k.1.has' X
   .cases W;exact ⟨_,_,_,rfl,by omega,λhh=>by omega⟩
   .exact ⟨xs,by rw [C2];exact k.1,hm,h1c,Els.ext xx V⟩
  refine ⟨v',w,upd1 β id v',.inl hrv,A,?_⟩;exact ad7 (A9 _ _ _) (C2 _ _ _) (ad8 k.1) _
 ·--data
  split at i
  case h_2=>cases i
  rename_i d u hd;split at i
  case h_2=>cases i
  rename_i l0 Y;have:=Datum.as_eq Y;subst this;obtain ⟨l,hl0⟩:∃ l:List (den U.T c),l=l0:=⟨l0,rfl⟩;subst hl0;simp only [cn4] at i;subst i;obtain ⟨h0,h1,h2⟩:0<=a/\a<=b/\b<=(l.length:Int):=L;obtain ⟨Z,_⟩:=J9 hd;have A:=H8 R.ok Z;have z:=aj9 R.ok hd (r 0 _ _ rfl rfl).inv.2 Z (λ_ hx=>hx);have K:∃ (A0:Option Addr) (I D:Nat),ρ x=.slice A0 I D:=by
   generalize O:ρ x=v at z;cases z with
   |nil=>exact ⟨_,_,_,rfl⟩
   |slice=>exact ⟨_,_,_,rfl⟩
  obtain ⟨A0,I,D,O⟩:=K;rw [O] at z;obtain ⟨hk,hkc,hr⟩:=z.cut (Nat.zero_le a.toNat) (by omega);have hc0:l.length<=D:=by
   rcases Nat.eq_zero_or_pos I with h3|h3
   .omega
   .have:=hkc h3;omega
  have hr2:Rep U w (Live β (upds s.h u)) ⟨.slice el c,l.take a.toNat⟩ (sliced A0 0 a.toNat b.toNat (szOf U c)):=by
   rw [List.drop_zero] at hr;unfold sliced at hr |-;rcases Nat.eq_zero_or_pos a.toNat with h3|h3
   .rw [h3,List.take_zero];exact .nil _ _ _ _
   .have hc1:¬ D=0:=by omega
    have hb1:¬ b.toNat=0:=by omega
    rw [if_neg hc1] at hr;rw [if_neg hb1];simp only [Nat.sub_zero] at hr |-;generalize hlt:l.take a.toNat=lt at hr;have hll:lt.length=a.toNat:=by rw [<-hlt];simp;omega
    generalize hAA:A0.map (λx=>x.add (0*szOf U c))=AA at hr;generalize H:Value.slice AA a.toNat D=vv at hr;cases hr with
    |nil=>simp at hll;omega
    |slice _ _ _ g q cap f p0 p1 p2 p3 p4 p5 p6=>simp only [Value.slice.injEq] at H;obtain ⟨rfl,_,rfl⟩:=H;rw [<-hll];exact .slice el c lt g q b.toNat f p0 (by omega) p2 p3 p4 p5 p6
  exact ⟨_,w,β,.inl (C A0 I D O h0 h1 (by omega)),A,CsRel.one hr2.one hr2⟩
theorem bR2 {c:Cell U} (h:bt0 c=true):c=.lit (.slice none 0 0):=by
 unfold bt0 at h;split at h
 .rfl
 .cases h
theorem aB7 {v:Value} (h:bt0 (T5 (U:=U) v)=true):v=.slice none 0 0:=by have h:=bR2 h;cases v<;>simp_all [T5]
def nsOf (sz:Nat) (m:List Nat) (xs:List Value):List Value:=xs.mapIdx λp u=>if m.any (Nat.beq (p % sz)) then u else undef
theorem bp7 {sz:Nat} {m:List Nat} {xs:List Value} {p:Nat} {u:Value} (h:xs[p]? =some u):(nsOf sz m xs)[p]? =some (if m.any (Nat.beq (p % sz)) then u else undef):=by simp [nsOf,List.getElem?_mapIdx,h]
theorem bp8 {sz:Nat} {m:List Nat} {xs:List Value} {p:Nat} {n:Value} (h:(nsOf sz m xs)[p]? =some n):∃ u,xs[p]? =some u/\n=(if m.any (Nat.beq (p % sz)) then u else undef):=by simp only [nsOf,List.getElem?_mapIdx,co1] at h;obtain ⟨u,a,b⟩:=h;exact ⟨u,a,b.symm⟩
theorem bR3 {sz i j:Nat} (h:j<sz):(i*sz+j) % sz=j:=by rw [Nat.mul_comm,Nat.mul_add_mod,Nat.mod_eq_of_lt h]
theorem Does.makeDp (hE:E.Fits) (R:Rel F n β s tmps w) (hρ:∀ v,ρ (.const v)=v) {t:TypeId} {x y:Operand} (X:o.op=.makeSlice t x y) (Y:az7 x y=true) {v:PV U} (r:PRel w β s.h s.σ v (ρ x))
  {el:TypeId} {m:List Nat} (f:dpOf E t=some (el,m)) (l:am4 E o.dst el m v=some e) (Z:e.Obl) (hf:look (B3 o.dst 0) s.h=none):Does E.P F β s ρ w o e:=by
 have M:E.P.underlying t=some (.slice el):=by
  unfold dpOf at f;split at f
  .rename_i e' M;simp only [co1,co6] at f;obtain ⟨_,_,rfl,_⟩:=f;exact M
  .cases f
 unfold am4 at l;split at l
 case h_2=>cases l
 rename_i k a0;obtain ⟨a,ha0⟩:∃ a:Int,a=a0:=⟨a0,rfl⟩;subst ha0;split at l
 case h_2=>cases l
 rename_i c hc;split at l
 case h_2=>cases l
 rename_i zs hzs;split at l
 case isFalse=>cases l
 rename_i N;simp only [cn4] at l;subst l;obtain ⟨i,z,xs,hi,hz,O,G,Q,H,hx1,hcell⟩:=bu1 (w:=w) hE hρ X Y r.int M hc Z;obtain ⟨i',z',I,J,rfl,_⟩:=ay4 hzs;rw [hi] at I;simp only [cn4] at I;subst I;rw [hz] at J;simp only [cn4] at J;subst J;have D:∀ (j:Nat) (u:Value),m.any (Nat.beq j)=true->z.cells[j]? =some u->u=.slice none 0 0:=by intro j u hm M;have:=cq4.1 N j (aA9.1 hm);simp only [co9,Array.getElem?_toList,M,Option.map_some] at this;exact aB7 this
 have hnb:D5 undef=none:=rfl;have C:∀ (p:Nat) (u:Value),xs[p]? =some u->m.any (Nat.beq (p % szOf U c))=true->u=.slice none 0 0:=by
  intro p u L hm;have S:=(cn9.1 L).1;rw [H] at S;have K:p / szOf U c<a.toNat:=by rw [Nat.div_lt_iff_lt_mul O];exact S
  have hj:p % szOf U c<(B1 U c (dfl U c)).length:=by rw [B0];exact Nat.mod_lt _ O
  obtain ⟨u',h1,h2,_⟩:=hcell _ _ _ K (cn6 hj);rw [show p / szOf U c*szOf U c+p % szOf U c=p by rw [Nat.mul_comm];exact Nat.div_add_mod _ _,L] at h2;simp only [cn4] at h2;subst h2;exact D _ _ hm h1
 have B:∀ (p:Nat) (q:Value),(nsOf (szOf U c) m xs)[p]? =some q->D5 q=none:=by
  intro p q K;obtain ⟨u,h1,h2⟩:=bp8 K;split at h2
  .rename_i hm;rw [h2,C p u h1 hm];rfl
  .rw [h2];rfl
 have A:After F w β s.h (w.alloc (.cells xs.toArray el)) (upd1 β (B3 o.dst 0) (.tuple ((.slice (some ⟨w.heap.size,0,none⟩) a.toNat a.toNat:Value)::nsOf (szOf U c) m xs).toArray)) (write (B3 o.dst 0) (.dp (.rows el c m (List.replicate a.toNat (dfl U c)) 0 0 true none)) s.h):=by
  refine Q8 R.ok (N8 _ _) hf (.inl rfl) (λg hg=>?_) (λxx=>?_)
  .rcases C3.1 hg with h1|⟨p,q,h1,h2⟩
   .have:w.heap.size=g:=by simpa [D5] using h1
    omega
   .rw [B p q h1] at h2;cases h2
  .refine X6 ?_ (C2 _ _ _);refine ⟨_,xs,_,rfl,?_,by simpa using G,hx1,by simp [nsOf],λq x W j d hd=>?_,λp q u v b L K T _=>?_,λp u b L T=>?_⟩
   .rw [List.length_replicate];refine ⟨H,.inr ⟨w.heap.size,a.toNat,xs.toArray,rfl,R.hB,heap_alloc_new w _,Nat.le_refl _,?_,by simp only [List.size_toArray];omega,?_⟩⟩
    .simp only [most,maxLen] at*;omega
    .rw [<-H];simp
   .have K:q<a.toNat:=by have:=(cn9.1 W).1;simpa using this
    rw [cn6 (by simpa using K)] at W;simp only [List.getElem_replicate,cn4] at W;subst W;have hj:=aa1 hd;obtain ⟨u,h1,h2,h3⟩:=hcell q j d K hd;have V:=bp7 (sz:=szOf U c) (m:=m) h2;rw [bR3 hj] at V;refine ⟨u,_,h2,V,λhm=>⟨(by rintro ⟨_,hh,_⟩;cases hh),λ_=>?_⟩,λhm=>⟨by rw [if_neg (by rw [hm];simp)],h3 _ _⟩⟩;rw [if_pos hm];have hun:=D j u hm h1;subst hun;have h4:=h3 w (Live β s.h);generalize hv:Value.slice none 0 0=vv at h4;cases h4 with
    |nil e t A c=>exact ⟨rfl,e,t,[],rfl,[],by rw [<-hv];exact Owns.of (World.ownsRow_nil _ _ _ _),by simp [most],by simp,λi y hy=>by simp at hy⟩
    |_=>cases hv
   .rw [B p u L] at T;cases T
   .rw [B p u L] at T;cases T
 exact ⟨_,_,_,.inl Q,A,CsRel.one rfl ⟨_,A9 _ _ _,Nat.le_refl _,λ_=>⟨_,C2 _ _ _,by simp⟩⟩⟩
theorem bY9 {e:TypeId} {t:Ty} {m m':List Nat} {l l':List (den U.T t)} {ver iv:Nat} {lv lv':Bool} {hole b:Option (Int×Nat)} {N N':Value} (c:DC U) (v:Value)
  (a:DCRel (.rows e t m l ver iv lv hole) N c v):DCRel (.rows e t m' l' (ver+1) (iv+1) lv' b) N' c v:=by
 cases c with
 |self v0=>exact ⟨Nat.le_succ_of_le a.1,λd=>by have:=a.1;omega⟩
 |elt v0 i off=>exact ⟨Nat.le_succ_of_le a.1,λd=>by have:=a.1;omega⟩
 |inn v0 i j=>exact ⟨Nat.le_succ_of_le a.1,λd=>by have:=a.1;omega⟩
 |iat v0 i j k off=>exact ⟨Nat.le_succ_of_le a.1,λd=>by have:=a.1;omega⟩
 |key=>exact a
 |it=>exact a
theorem Does.appendDp (hE:E.Fits) (R:Rel F n β s tmps w) {c:Call} {x y:Operand} (hop:o.op=.call c) (hc:c.callee=.builtin .append) (hx:c.args.toList=[x,y]) {ty el:TypeId} (hts2:c.argTypes=#[ty,ty]) (hu:E.P.underlying ty=some (.slice el)) {t:Ty} (hcd:E.code el=some t)
  {a v:PV U} (r:PRel w β s.h s.σ a (ρ x)) (q:PRel w β s.h s.σ v (ρ y)) {ids:List Nat} (W:Z2 E (sub s.h ids) el t a v=some e)
  (X:e.Obl):Does E.P F β s ρ w o e:=by
 obtain ⟨i,z,hi,hsz,hz,hzs,hpos,hby,hz1c,_⟩:=hE.code _ _ hcd;have hbyT:N5 E.P el=i.bytes:=by simp [N5,Program.bytesOf,hi]
 have L:c.args.map ρ=#[ρ x,ρ y]:=by apply Array.toList_inj.1;simp [hx]
 unfold Z2 at W;split at W
 case h_2=>cases W
 rename_i id v1 id2 v2;split at W
 case h_2=>cases W
 rename_i e1 t1 H l1 ver1 iv1 e2 t2 m2 l2 ver2 iv2 m I;split at W
 case isFalse=>cases W
 rename_i Y;simp only [cn7,Bool.not_eq_true',beq_iff_eq] at Y;obtain ⟨⟨⟨⟨⟨c1,c2⟩,c3⟩,rfl⟩,rfl⟩,rfl⟩:=Y;have hne:id≠id2:=λN=>by rw [N,Nat.beq_refl] at c3;cases c3
 split at W
 case h_2=>cases W
 rename_i la lb V f;have V:=Datum.as_eq V;cases V;have f:=Datum.as_eq f;cases f;simp only [cn4] at W;subst W;have m:=C1 m;have I:=C1 I;obtain ⟨D1,hd1,hv1⟩:=r.inv.2;rw [m] at hd1;simp only [cn4,Ob.dp.injEq] at hd1;subst hd1;obtain ⟨D2,hd2,hv2⟩:=q.inv.2;rw [I] at hd2;simp only [cn4,Ob.dp.injEq] at hd2;subst hd2;have o1:=R.obj id _ m;have o2:=R.obj id2 _ I;have s1:=ad6 (show DRel F.B w β s.h (.rows el t H la ver1 iv1 true none) (β id) from o1) (cn5 c1) hv1;have s2:=ad6 (show DRel F.B w β s.h (.rows el t H lb ver2 iv2 true none) (β id2) from o2) (cn5 c2) hv2;generalize hrx:ρ x=root1 at s1 L;generalize hry:ρ y=root2 at s2 L;obtain ⟨_,_,Z,_⟩:=s1;obtain ⟨_,_,hN2,_⟩:=s2;obtain ⟨root1',xs1,ns1,hN1',p1,p2,p3,p4,p5,p6,p7⟩:=o1;obtain ⟨root2',xs2,ns2,hN2',q1,q2,q3,q4,q5,q6,q7⟩:=o2;rw [hN1'] at Z;have Z:=congrArg Array.toList (G1 Z);simp only [List.cons.injEq] at Z;obtain ⟨rfl,_⟩:=Z;rw [hN2'] at hN2;have hN2:=congrArg Array.toList (G1 hN2);simp only [List.cons.injEq] at hN2;obtain ⟨rfl,_⟩:=hN2;rw [hbyT] at X;have X:(List.length la+List.length lb)*i.bytes<=most:=X;have hlen:(la++lb).length<=most:=by rw [cp5];exact Nat.le_trans (Nat.le_mul_of_pos_right _ hby) X
 have C:∃ v' w',(Builtin.append_ #[ty,ty] o.type #[root1,root2]).run E.P w=.ok v' w'/\Owns w' F.B el (szOf U t) v' (la.length+lb.length) (xs1++xs2)/\w.grownBy w' root1.ownBlock/\(v'.ownBlock=root1.ownBlock\/v'.ownBlock=some w.heap.size):=by
  rcases q1.2 with ⟨h3,h4⟩|⟨g,cap,cur,h3,h4,T,h6,h7,h8,h9⟩
  .obtain ⟨⟨A',cap',hv,hle⟩,_⟩:=p1.form;have hx2:xs2=[]:=List.eq_nil_of_length_eq_zero (by rw [q1.1,h4,Nat.zero_mul]);refine ⟨root1,w,?_,by rw [hx2,h4];simpa using p1,⟨rfl,rfl,rfl,Nat.le_refl _,λ_ _ _=>rfl⟩,.inl rfl⟩;rw [h3,hv];exact V7 hu hi A' la.length cap' hle 0 w
  .have hcells:=q1.cells (g:=g) (by rw [h3];rfl);rw [h3];rw [<-hsz] at p1 q1 |-;rw [<-hsz] at hpos;exact ab8 (P:=E.P) (ty:=o.type) hu hi hz hzs hpos R.hB p1 ⟨g,0,none⟩ lb.length cap xs2 q1.1 (λj u K=>by rw [Addr.add_lit,Nat.zero_add];exact hcells j u K) q3 (by rw [cp5] at hlen;simp only [most,maxLen] at*;omega) (by simp only [most] at X;omega)
 obtain ⟨v',w',hrun,O,D,hblk⟩:=C;have hvo:=Q0 p1;have hvo':=Q0 O
 let N1:Value:=.tuple (v'::(ns1++ns2)).toArray
 let N2:Value:=.tuple ((.slice none 0 0:Value)::[]).toArray
 let β':Nm:=⟨λj=>if j=id then N1 else if j=id2 then N2 else β j,β.M,β.lp⟩
 have hβ1:β' id=N1:=by simp [β']
 have hβ2:β' id2=N2:=by simp [β',Ne.symm hne]
 have hno2:∀ b,¬ Has N2 b:=by
  intro b f;rcases C3.1 f with h3|⟨p,n,h3,_⟩
  .simp [D5] at h3
  .simp at h3
 have hr1:∀ b,D5 root1=some b->Has (β id) b:=λb f=>by rw [hN1'];exact C3.2 (.inl f)
 have hn1:∀ (p:Nat) (n:Value) (b:Nat),ns1[p]? =some n->D5 n=some b->Has (β id) b:=λp n b hp f=>by rw [hN1'];exact C3.2 (.inr ⟨p,n,hp,f⟩)
 have Q:∀ (p:Nat) (n:Value) (b:Nat),ns2[p]? =some n->D5 n=some b->Has (β id2) b:=λp n b hp f=>by rw [hN2'];exact C3.2 (.inr ⟨p,n,hp,f⟩)
 have S:∀ b,Has (β id) b->¬ Has (β id2) b:=λb h3 h4=>hne (R.dis id _ id2 _ b m I h3 h4);have hlt1:∀ b,Has (β id) b->b<w.heap.size:=λb f=>((R.obj id _ m).blk f).2;have hlt2:∀ b,Has (β id2) b->b<w.heap.size:=λb f=>((R.obj id2 _ I).blk f).2;have hv'b:∀ b,D5 v'=some b->D5 root1=some b\/b=w.heap.size:=by
  intro b f;rw [hvo'] at f;rcases hblk with h6|h6
  .left;rw [hvo,<-h6];exact f
  .right;rw [h6] at f;simpa using f.symm
 have C:∀ (p:Nat) (n:Value),(ns1++ns2)[p]? =some n->(p<ns1.length/\ns1[p]? =some n)\/(ns1.length<=p/\ns2[p-ns1.length]? =some n):=by
  intro p n hp;by_cases h3:p<ns1.length
  .rw [cp4 h3] at hp;exact .inl ⟨h3,hp⟩
  .rw [cp3 (by omega)] at hp;exact .inr ⟨by omega,hp⟩
 have hkeep:∀ b,b<w.heap.size->D5 root1≠some b->w'.heap[b]? =w.heap[b]? :=λb f hn=>D.block b f (λN=>hn (by rw [hvo];exact N.symm));have G:∀ {j:Nat} {ob:Ob U},(j,ob)∈[(id2,Ob.dp (.rows el t H [] (ver2+1) (iv2+1) true none)),(id,Ob.dp (.rows el t H (la++lb) (ver1+1) (iv1+1) true none))]->(j=id2/\ob=.dp (.rows el t H [] (ver2+1) (iv2+1) true none))\/(j=id/\ob=.dp (.rows el t H (la++lb) (ver1+1) (iv1+1) true none)):=by intro j ob K;simpa using K
 have A:After F w β s.h w' β' (upds s.h [(id2,.dp (.rows el t H [] (ver2+1) (iv2+1) true none)),(id,.dp (.rows el t H (la++lb) (ver1+1) (iv1+1) true none))]):=by
  refine P2 R.ok (by simpa using Ne.symm hne) ?_ D.os D.tape D.output D.size ?_ rfl ?_ rfl ?_ ?_ ?_ ?_ ?_
  .intro j ob ob0 K l;rcases G K with ⟨rfl,rfl⟩|⟨rfl,rfl⟩
   .rw [I] at l;simp only [cn4] at l;subst l;rfl
   .rw [m] at l;simp only [cn4] at l;subst l;rfl
  .intro b f hn;exact hkeep b f (λN=>hn id (.dp (.rows el t H (la++lb) (ver1+1) (iv1+1) true none)) _ (by simp) m (hr1 b N))
  .intro j K;have h2:j≠id:=λN=>K (.dp (.rows el t H (la++lb) (ver1+1) (iv1+1) true none)) (by simp [N]);have h3:j≠id2:=λN=>K (.dp (.rows el t H [] (ver2+1) (iv2+1) true none)) (by simp [N]);simp [β',h2,h3]
  .intro j ob b K f;rcases G K with ⟨rfl,rfl⟩|⟨rfl,rfl⟩
   .rw [hβ2] at f;exact absurd f (hno2 b)
   .rw [hβ1] at f;rcases C3.1 f with h3|⟨p,n,h3,h4⟩
    .rcases hv'b b h3 with T|T
     .exact .inl ⟨j,.dp (.rows el t H (la++lb) (ver1+1) (iv1+1) true none),_,by simp,m,hr1 b T⟩
     .right;omega
    .rcases C p n h3 with ⟨_,T⟩|⟨_,T⟩
     .exact .inl ⟨j,.dp (.rows el t H (la++lb) (ver1+1) (iv1+1) true none),_,by simp,m,hn1 _ n b T h4⟩
     .exact .inl ⟨id2,.dp (.rows el t H [] (ver2+1) (iv2+1) true none),_,by simp,I,Q _ n b T h4⟩
  .intro j ob j' ob' b K hj' f hb';rcases G K with ⟨rfl,rfl⟩|⟨rfl,rfl⟩
   .rw [hβ2] at f;exact absurd f (hno2 b)
   .rcases G hj' with ⟨rfl,rfl⟩|⟨rfl,rfl⟩
    .rw [hβ2] at hb';exact absurd hb' (hno2 b)
    .rfl
  .intro j ob ob0 K l;rcases G K with ⟨rfl,rfl⟩|⟨rfl,rfl⟩
   .rw [I] at l;simp only [cn4] at l;subst l;exact λc v hv=>bY9 c v hv
   .rw [m] at l;simp only [cn4] at l;subst l;exact λc v hv=>bY9 c v hv
  .intro j ob K;rcases G K with ⟨rfl,rfl⟩|⟨rfl,rfl⟩<;>rfl
  .intro xx j ob K;rcases G K with ⟨rfl,rfl⟩|⟨rfl,rfl⟩
   .refine X6 ⟨.slice none 0 0,[],[],rfl,Owns.of (World.ownsRow_nil _ _ _ _),by simp [most],by simp,rfl,λi x hx=>by simp at hx,λp q a c b V=>by simp at V,λp a b V=>by simp at V⟩ hβ2
   .refine X6 ⟨v',xs1++xs2,ns1++ns2,rfl,by rw [cp5];exact O,hlen,λu hu=>?_,by simp [p4,q4],λk x hk jj d hd=>?_,λp q a c b V hc J hcb=>?_,λp a b V J hvb=>?_⟩ hβ1
    .rcases cq1.1 hu with h3|h3
     .exact p3 u h3
     .exact q3 u h3
    .have hjs:=aa1 hd;have conv:∀ {id0:Nat} {ns:List Value} {k0:Nat} {u n:Value},(∀ b,D5 n=some b->b<w.heap.size/\D5 root1≠some b)->InnR F.B w (Live β s.h) H none k0 jj d u n->InnR F.B w' (Live β' (upds s.h [(id2,.dp (.rows el t H [] (ver2+1) (iv2+1) true none)),(j,.dp (.rows el t H (la++lb) (ver1+1) (iv1+1) true none))])) H none k jj d u n:=by
      intro id0 ns k0 u n hn hI;refine ⟨λhm=>⟨(by rintro ⟨_,N,_⟩;cases N),λ_=>?_⟩,λhm=>⟨(hI.2 hm).1,xx.rep (hI.2 hm).2⟩⟩;obtain ⟨r1,e2,t2,l3,r2,r3⟩:=(hI.1 hm).2 (by rintro ⟨_,N,_⟩;cases N);exact ⟨r1,e2,t2,l3,r2,r3.map (λd v r=>xx.rep r) (λb f=>hkeep b (hn b (by rw [r1];exact f)).1 (hn b (by rw [r1];exact f)).2)⟩
     have hxl1:=p1.1;by_cases hk2:k<la.length
     .rw [cp4 hk2] at hk;obtain ⟨u,n,a1,a2,a3⟩:=p5 k x hk jj d hd;have hlt:k*szOf U t+jj<xs1.length:=(cn9.1 a1).1;refine ⟨u,n,by rw [cp4 hlt];exact a1,by rw [cp4 (by omega)];exact a2,conv (id0:=0) (ns:=[]) (λb f=>⟨hlt1 b (hn1 _ n b a2 f),p7 _ n b a2 f⟩) a3⟩
     .rw [cp3 (by omega)] at hk;obtain ⟨u,n,a1,a2,a3⟩:=q5 (k-la.length) x hk jj d hd;have hge:la.length*szOf U t<=k*szOf U t:=Nat.mul_le_mul_right _ (by omega);have hidx:k*szOf U t+jj-xs1.length=(k-la.length)*szOf U t+jj:=by rw [hxl1,Nat.sub_mul];omega
      refine ⟨u,n,by rw [cp3 (by omega),hidx];exact a1,by rw [cp3 (by omega),p4,hidx];exact a2,conv (id0:=0) (ns:=[]) (λb f=>⟨hlt2 b (Q _ n b a2 f),λN=>S b (hr1 b N) (Q _ n b a2 f)⟩) a3⟩
    .rcases C p a V with ⟨h3,h4⟩|⟨h3,h4⟩<;>rcases C q c hc with ⟨T,h6⟩|⟨T,h6⟩
     .exact p6 p q a c b h4 h6 J hcb
     .exact absurd (Q _ c b h6 hcb) (S b (hn1 _ a b h4 J))
     .exact absurd (Q _ a b h4 J) (S b (hn1 _ c b h6 hcb))
     .have:=q6 _ _ a c b h4 h6 J hcb;omega
    .rcases hv'b b hvb with T|T
     .rcases C p a V with ⟨_,h4⟩|⟨_,h4⟩
      .exact p7 _ a b h4 J T
      .exact S b (hr1 b T) (Q _ a b h4 J)
     .rcases C p a V with ⟨_,h4⟩|⟨_,h4⟩
      .have:=hlt1 b (hn1 _ a b h4 J);omega
      .have:=hlt2 b (Q _ a b h4 J);omega
 refine ⟨v',w',β',.inl ?_,A,?_⟩
 .refine H3 hop hc ?_;rw [L,hts2];simp [builtin,hrun]
 .refine CsRel.one (ad8 O) ⟨.rows el t H (la++lb) (ver1+1) (iv1+1) true none,?_,Nat.le_refl _,λ_=>⟨_,hβ1,by simp⟩⟩;show look id (write id _ (write id2 _ s.h))=_;exact A9 _ _ _
theorem bg6 {cs:List (Cell U)} (h:aP4 (ac6 cs)=true):∀ {j j' r a b:Nat},cs[j]? =some (.row r a)->cs[j']? =some (.row r b)->j=j':=by
 have mem:∀ {cs:List (Cell U)} {j r a:Nat},cs[j]? =some (.row r a)->r∈ac6 cs:=by
  intro cs
  induction cs with
  |nil=>intro j r a h;simp at h
  |cons c cs ih=>
   intro j r a h;cases j with
   |zero=>simp only [co2,cn4] at h;subst h;simp [ac6]
   |succ j=>have:=ih (j:=j) (by simpa using h);cases c<;>simp_all [ac6]
 induction cs with
 |nil=>intro j j' r a b h;simp at h
 |cons c cs ih=>
  intro j j' r a b h1 h2;have e:aP4 (ac6 cs)=true:=by cases c<;>simp_all [ac6,aP4]
  have d:∀ {k r a b:Nat},c=.row r a->cs[k]? =some (.row r b)->False:=by intro k r a b hc f;subst hc;simp only [ac6,aP4,cn7,Bool.not_eq_true'] at h;have:=mem f;have h3:(ac6 cs).any (Nat.beq r)=true:=aA9.2 this;rw [h.1] at h3;cases h3
  cases j with
  |zero=>
   cases j' with
   |zero=>rfl
   |succ j'=>exact (d (by simpa using h1) (by simpa using h2)).elim
  |succ j=>
   cases j' with
   |zero=>exact (d (by simpa using h2) (by simpa using h1)).elim
   |succ j'=>have:=ih e (j:=j) (j':=j') (r:=r) (a:=a) (b:=b) (by simpa using h1) (by simpa using h2);omega
theorem aB8:∀ {l:List Nat},aP4 l=true->l.Nodup
 |[],_=>List.nodup_nil
 |x::l,h=>by simp only [aP4,cn7,Bool.not_eq_true'] at h;refine List.nodup_cons.2 ⟨λhm=>?_,aB8 h.2⟩;have:=aA9.2 hm;rw [h.1] at this;cases this
theorem an9 (k:Ok F w β h) {ids:List Nat} {m:List Nat}:∀ {ts:List Ty} {j0:Nat} {cs:List (Cell U)} {ds:List (Datum U)} {u v:Obs U} {vs:List Value},N6 (sub h ids) m j0 ts cs=some (ds,u,v)->CsRel w β h cs vs->
  Freezes h u/\ds.length=cs.length/\(∀ r o,(r,o)∈v->∃ e t l vr,o=.row e t [] (vr+1) true/\look r h=some (.row e t l vr true))/\
  ∀ (j:Nat) (d:Datum U) (x:Value),ds[j]? =some d->vs[j]? =some x->
   (m.any (Nat.beq (j0+j))=true->∃ e t l,d=⟨.slice e t,l⟩/\((x=.slice none 0 0/\l=[])\/∃ r a vr,cs[j]? =some (.row r a)/\(r,.row e t [] (vr+1) true)∈v/\look r h=some (.row e t l vr true)/\x=β r))/\
   (m.any (Nat.beq (j0+j))=false->∀ u',Freezes h u'->(∀ y,y∈u->y∈u')->Rep U w (Live β (upds h u')) d x)
 |[],j0,[],ds,u,v,vs,b,hc=>by simp only [N6,cn4,co6] at b;obtain ⟨rfl,rfl,rfl⟩:=b;exact ⟨λ_ _ hm=>by simp at hm,rfl,λ_ _ hm=>by simp at hm,λj d x g=>by simp at g⟩
 |[],_,_::_,_,_,_,_,b,_=>by simp [N6] at b
 |_::_,_,[],_,_,_,_,b,_=>by simp [N6] at b
 |t::ts,j0,c::cs,ds,u,v,vs,b,hc=>by
  simp only [N6] at b;split at b
  case h_2=>cases b
  rename_i ds1 D R h1;obtain ⟨A,vs',rfl⟩:∃ A vs',vs=A::vs':=by
   have:=hc.1;cases vs with
   |nil=>simp at this
   |cons A vs'=>exact ⟨A,vs',rfl⟩
  have E:CsRel w β h cs vs':=⟨by simpa using hc.1,λv S=>hc.2.1 v (by simp [S]),λj c v h3 h4=>hc.2.2 (j+1) c v (by simpa using h3) (by simpa using h4)⟩;have q:=hc.2.2 0 c A rfl rfl;obtain ⟨G,H,I,T⟩:=an9 k (j0:=j0+1) h1 E;have tail:∀ (j:Nat) (d:Datum U) (x:Value) (J:Obs U),(∀ y,y∈R->y∈J)->(∀ y,y∈D->y∈D)->ds1[j]? =some d->vs'[j]? =some x->
    (m.any (Nat.beq (j0+(j+1)))=true->∃ e t l,d=⟨.slice e t,l⟩/\((x=.slice none 0 0/\l=[])\/∃ r a vr,(c::cs)[j+1]? =some (.row r a)/\(r,.row e t [] (vr+1) true)∈J/\look r h=some (.row e t l vr true)/\x=β r))/\
    (m.any (Nat.beq (j0+(j+1)))=false->∀ u',Freezes h u'->(∀ y,y∈D->y∈u')->Rep U w (Live β (upds h u')) d x):=by
   intro j d x J K _ g n;obtain ⟨L,M⟩:=T j d x g n;rw [show j0+(j+1)=j0+1+j by omega];refine ⟨λhm=>?_,M⟩;obtain ⟨e,t,l,V,W⟩:=L hm;refine ⟨e,t,l,V,W.imp id ?_⟩;rintro ⟨r,a,vr,X,N,Y⟩;exact ⟨r,a,vr,by simpa using X,K _ N,Y⟩
  split at b
  ·--a row
   rename_i f;split at b
   .rename_i r vr;split at b
    case h_2=>cases b
    rename_i e' t' l' vr' hl;split at b
    case isFalse=>cases b
    rename_i Q;simp only [cn7,beq_iff_eq] at Q;have B:=cn5 Q.1;simp only [cn4,co6] at b;obtain ⟨rfl,rfl,rfl⟩:=b;have hl:=C1 hl;obtain ⟨_,_,_,_,_,s,_,O⟩:=q;rw [hl] at s;simp only [cn4,Ob.row.injEq] at s;have P:=O (B.trans s.2.2.2.1);refine ⟨G,by simp [H],λN Z hm=>?_,λj d x g n=>?_⟩
    .rcases List.mem_cons.1 hm with p|p
     .simp only [co6] at p;obtain ⟨rfl,rfl⟩:=p;exact ⟨e',t',l',vr',rfl,hl⟩
     .exact I N Z p
    .cases j with
     |zero=>simp only [co2,cn4] at g n;subst g;subst n;exact ⟨λ_=>⟨e',t',l',rfl,.inr ⟨r,vr,vr',rfl,by simp,hl,P⟩⟩,λhm=>by rw [Nat.add_zero,f] at hm;cases hm⟩
     |succ j=>exact tail j d x _ (λy i=>by simp [i]) (λ_ i=>i) (by simpa using g) (by simpa using n)
   .split at b
    case h_2=>cases b
    rename_i e' t';simp only [cn4,co6] at b;obtain ⟨rfl,rfl,rfl⟩:=b;refine ⟨G,by simp [H],I,λj d x g n=>?_⟩;cases j with
    |zero=>simp only [co2,cn4] at g n;subst g;subst n;exact ⟨λ_=>⟨e',t',[],rfl,.inl ⟨q,rfl⟩⟩,λhm=>by rw [Nat.add_zero,f] at hm;cases hm⟩
    |succ j=>exact tail j d x _ (λ_ i=>i) (λ_ i=>i) (by simpa using g) (by simpa using n)
   .cases b
  .rename_i f;split at b
   case h_2=>cases b
   rename_i d0 u0 C;simp only [cn4,co6] at b;obtain ⟨rfl,rfl,rfl⟩:=b;obtain ⟨f0,_⟩:=J9 C;refine ⟨λid o hm=>?_,by simp [H],I,λj d x g n=>?_⟩
   .rcases cq1.1 hm with p|p
    .exact f0 id o p
    .exact G id o p
   .cases j with
    |zero=>simp only [co2,cn4] at g n;subst g;subst n;exact ⟨λhm=>by rw [Nat.add_zero] at hm;exact absurd hm f,λ_ u' hf z=>aj9 k C q hf (λy i=>z y (by simp [i]))⟩
    |succ j=>obtain ⟨L,M⟩:=tail j d x _ (λ_ i=>i) (λ_ i=>i) (by simpa using g) (by simpa using n);exact ⟨L,λhm u' hf z=>M hm u' hf (λy i=>z y (by simp [i]))⟩
theorem aR2 {a b:List Nat} (h:X8 a b=false) {x:Nat} (c:x∈a) (d:x∈b):False:=by
 have:X8 a b=true:=by simp only [X8,List.any_eq_true];exact ⟨x,c,x,d,Nat.beq_refl x⟩
 rw [h] at this;cases this
theorem Does.buildDp (hE:E.Fits) (R:Rel F n β s tmps w) {t:TypeId} {len:Nat} {parts:Array (Nat×Operand)} (hop:o.op=.buildSlice t len parts) {ps:List (Nat×PV U)} (r:an4 w β s.h s.σ ps (parts.toList.map λx=>(x.1,ρ x.2)))
  {el:TypeId} {m:List Nat} (H:dpOf E t=some (el,m)) {ids:List Nat} (I:af8 E (sub s.h ids) o.dst el m len ps=some e) (hf:look (B3 o.dst 0) s.h=none):Does E.P F β s ρ w o e:=by
 have hu:E.P.underlying t=some (.slice el):=by
  unfold dpOf at H;split at H
  .rename_i e' hu;simp only [co1,co6] at H;obtain ⟨_,_,rfl,_⟩:=H;exact hu
  .cases H
 unfold af8 at I;split at I
 case h_2=>cases I
 rename_i c cs hc;split at I
 case h_2=>cases I
 rename_i ds u v htr;split at I
 case h_2=>cases I
 rename_i x hx;split at I
 case isFalse=>cases I
 rename_i J;simp only [cn7,Bool.not_eq_true'] at J;obtain ⟨⟨⟨⟨hus,hro⟩,hkv⟩,huv⟩,hfr⟩:=J;simp only [cn4] at I;subst I;obtain ⟨i,z,hi,Y,hz,hzs,hpos,hby,hz1c,_⟩:=hE.code _ _ hc;have hmk:=am0 hx;have hdl:ds.length=szOf U c:=by rw [hmk,B0]
 have Q:cs.length=szOf U c:=by
  have:∀ {ts:List Ty} {j0:Nat} {cs:List (Cell U)} {ds:List (Datum U)} {u v:Obs U},N6 (sub s.h ids) m j0 ts cs=some (ds,u,v)->cs.length=ts.length:=by
   intro ts
   induction ts with
   |nil=>intro j0 cs ds u v h;cases cs with
    |nil=>rfl
    |cons=>simp [N6] at h
   |cons t ts ih=>intro j0 cs ds u v h;cases cs with
    |nil=>simp [N6] at h
    |cons c cs=>
     simp only [N6] at h;split at h
     .rename_i h1;simp [ih h1]
     .cases h
  rw [this htr];cases c<;>rfl
 --the cells
 have Z:aO7 (U:=U) (λi=>some (i*szOf U c,szOf U c)) (List.replicate (1*szOf U c) .un) [(0,.agg cs)]=some cs:=by
  have h1:Nat.beq cs.length (szOf U c)=true:=by rw [Q];exact Nat.beq_refl _
  have h2:Nat.ble (0*szOf U c+cs.length) (List.replicate (1*szOf U c) (Cell.un:Cell U)).length=true:=by rw [List.length_replicate,Q];exact Nat.ble_eq_true_of_le (by omega)
  simp only [aO7,S2,h1,h2,Bool.and_self,if_true];simp [D4,Q]
 obtain ⟨vs,h1,h2,h3⟩:=ay5 (w:=w) (β:=β) (h:=s.h) (σ:=s.σ) Z r.1 r.2 (vs:=(aA8 1 i z).toList) ⟨by simp [aA8,Y],λv hv=>by
   simp only [aA8,Array.toList_map,List.mem_map,Array.toList_range,List.mem_range] at hv;obtain ⟨x,hx,rfl⟩:=hv;have hne:¬ 1*i.size=0:=by omega
   simp only [if_neg hne];have hpos':0<z.cells.size:=by omega
   have hmod:x % z.cells.size<z.cells.size:=Nat.mod_lt x hpos';rw [getElem!_pos z.cells _ hmod];exact hz1c _ (by simp),λj c v hc _=>by
   rw [List.getElem?_replicate] at hc;split at hc
   .simp only [cn4] at hc;subst hc;trivial
   .cases hc⟩
 have hrun:(Instr.buildSlice t 1 (parts.map λx=>(x.1,ρ x.2))).run E.P w=.ok (.slice (some ⟨w.heap.size,0,none⟩) 1 1) (w.alloc (.cells vs.toArray el)):=by
  refine X5 hu hi hz 1 ?_ _ _ w ?_
  .have:=cp7 hus.2;rw [Y];omega
  .rw [Y];simpa using h1
 obtain ⟨f1,len1,hv,hel⟩:=an9 R.ok htr h2;have A1:=H8 R.ok f1;have hvl:vs.length=szOf U c:=by rw [h2.1,Q]
 have V:look (B3 o.dst 0) (upds s.h u)=none:=f1.none hf;have K:∀ f o0,(f,o0)∈v->f≠B3 o.dst 0:=by intro f o0 hm S;exact aR2 hfr (x:=f) (by simp [S]) (by simp only [keys,cq1,List.mem_map];exact .inr ⟨_,hm,rfl⟩)
 have hlr:∀ f,look f (upds s.h u)=look f s.h\/∃ o0,(f,o0)∈u:=by
  intro f;by_cases S:∃ o0,(f,o0)∈u
  .exact .inr S
  .exact .inl (B6 λo0 ho=>S ⟨o0,ho⟩)
 have g:∀ f o0,(f,o0)∈v->∃ e t l vr,o0=.row e t [] (vr+1) true/\look f (upds s.h u)=some (.row e t l vr true):=by
  intro f o0 hm;obtain ⟨e,t,l,vr,q1,L⟩:=hv f o0 hm;refine ⟨e,t,l,vr,q1,?_⟩;rcases hlr f with A|⟨o1,A⟩
  .rw [A];exact L
  .exact (aR2 huv (x:=f) (List.mem_map.2 ⟨_,A,rfl⟩) (List.mem_map.2 ⟨_,hm,rfl⟩)).elim
 let N:Value:=.tuple ((.slice (some ⟨w.heap.size,0,none⟩) 1 1:Value)::nsOf (szOf U c) m vs).toArray
 let β':Nm:=⟨λj=>open Classical in if j=B3 o.dst 0 then N else if (∃ o0,(j,o0)∈v) then .slice none 0 0 else β j,β.M,β.lp⟩
 have hβf:β' (B3 o.dst 0)=N:=by simp [β']
 have hβr:∀ j,j≠B3 o.dst 0->(∃ o0,(j,o0)∈v)->β' j=.slice none 0 0:=by intro j G hex;simp only [β'];rw [if_neg G,if_pos hex]
 have hnu:D5 undef=none:=rfl
 --the S1 slices
 have T:∀ (p:Nat) (q:Value) (b:Nat),(nsOf (szOf U c) m vs)[p]? =some q->D5 q=some b->∃ f a e t l vr,cs[p]? =some (.row f a)/\(f,.row e t [] (vr+1) true)∈v/\look f (upds s.h u)=some (.row e t l vr true)/\q=β f:=by
  intro p q b hp D;obtain ⟨y,W,hq⟩:=bp8 hp;have hpl:=(cn9.1 W).1;rw [hvl] at hpl;rw [Nat.mod_eq_of_lt hpl] at hq;split at hq
  .rename_i hm;subst hq;have hpd:p<ds.length:=by rw [hdl];exact hpl
   obtain ⟨k1,_⟩:=hel p _ _ (cn6 hpd) W;rw [Nat.zero_add] at k1;obtain ⟨e,t,l,q1,L⟩:=k1 hm;rcases L with ⟨q3,_⟩|⟨f,a,vr,q3,q4,q5,q6⟩
   .rw [q3] at D;simp [D5] at D
   .obtain ⟨e2,t2,l2,vr2,q7,q8⟩:=g f _ q4;cases q7;exact ⟨f,a,e,t,l2,vr,q3,q4,q8,q6⟩
  .rw [hq,hnu] at D;cases D
 have B:∀ {j:Nat} {ob:Ob U},(j,ob)∈v++[(B3 o.dst 0,Ob.dp (.rows el c m [x] 0 0 true none))]->(j,ob)∈v\/(j=B3 o.dst 0/\ob=.dp (.rows el c m [x] 0 0 true none)):=by
  intro j ob G;rcases cq1.1 G with A|A
  .exact .inl A
  .right;simpa using A
 have A2:After F w β (upds s.h u) (w.alloc (.cells vs.toArray el)) β' (upds (upds s.h u) (v++[(B3 o.dst 0,.dp (.rows el c m [x] 0 0 true none))])):=by
  refine P2 A1.ok ?_ ?_ rfl rfl rfl (by simp) ?_ rfl ?_ rfl ?_ ?_ ?_ ?_ ?_
  .rw [List.map_append,List.nodup_append];refine ⟨aB8 hkv,by simp,λa ha b D=>?_⟩;simp only [List.map_cons,List.map_nil,co5] at D;obtain ⟨⟨f,o0⟩,hm,rfl⟩:=List.mem_map.1 ha;rw [D];exact K f o0 hm
  .intro j ob ob0 G C;rcases B G with A|⟨rfl,rfl⟩
   .obtain ⟨e,t,l,vr,q1,L⟩:=g j ob A;rw [L] at C;simp only [cn4] at C;subst C;rfl
   .rw [V] at C;cases C
  .intro b D _;exact heap_alloc_old w _ D
  .intro j G;have h2:j≠B3 o.dst 0:=λS=>G (.dp (.rows el c m [x] 0 0 true none)) (by simp [S]);have h3:¬ ∃ o0,(j,o0)∈v:=λ⟨o0,ho⟩=>G o0 (by simp [ho]);simp only [β'];rw [if_neg h2,if_neg h3]
  .intro j ob b G D;rcases B G with A|⟨rfl,rfl⟩
   .rw [hβr j (K j ob A) ⟨ob,A⟩] at D;exact (U0 D).elim
   .rw [hβf] at D;rcases C3.1 D with h6|⟨p,q,h6,h7⟩
    .right;have:w.heap.size=b:=by simpa [D5] using h6
     omega
    .obtain ⟨f,a,e,t,l,vr,_,q4,q5,q6⟩:=T p q b h6 h7;refine .inl ⟨f,_,_,cq1.2 (.inl q4),q5,?_⟩;obtain ⟨ys,y1,_⟩:=A1.obj f _ q5;exact y1.has (by rw [<-q6];exact h7)
  .intro j ob j' ob' b G hj' D hb';rcases B G with A|⟨rfl,rfl⟩
   .rw [hβr j (K j ob A) ⟨ob,A⟩] at D;exact (U0 D).elim
   .rcases B hj' with h6|⟨rfl,rfl⟩
    .rw [hβr j' (K j' ob' h6) ⟨ob',h6⟩] at hb';exact (U0 hb').elim
    .rfl
  .intro j ob ob0 G C;rcases B G with A|⟨rfl,rfl⟩
   .obtain ⟨e,t,l,vr,rfl,L⟩:=g j ob A;rw [L] at C;simp only [cn4] at C;subst C;exact ⟨rfl,rfl,by omega,λS=>by omega⟩
   .rw [V] at C;cases C
  .intro j ob G;rcases B G with A|⟨rfl,rfl⟩
   .obtain ⟨e,t,l,vr,rfl,L⟩:=g j ob A;rfl
   .rfl
  .intro xx j ob G;rcases B G with A|⟨rfl,rfl⟩
   .obtain ⟨e,t,l,vr,rfl,L⟩:=g j ob A;exact ⟨[],by rw [hβr j (K j _ A) ⟨_,A⟩];exact Owns.of (World.ownsRow_nil _ _ _ _),by simp [most],by simp,λi y W=>by simp at W⟩
   .refine X6 ⟨_,vs,_,rfl,?_,by simp [most],h2.2.1,by simp [nsOf],λk y hk j d hd=>?_,λp q a cc b ha hcc O hcb=>?_,λp a b ha O=>?_⟩ hβf
    .refine ⟨by simpa using hvl,.inr ⟨w.heap.size,1,vs.toArray,rfl,R.hB,heap_alloc_new w _,Nat.le_refl _,by simp [maxLen],by simp only [List.size_toArray];omega,by simp only [cp8,Nat.one_mul];exact List.take_of_length_le (by omega)⟩⟩
    .cases k with
     |succ k=>simp at hk
     |zero=>
      simp only [co2,cn4] at hk;subst hk;have hjs:=aa1 hd;rw [<-hmk] at hd;have hvj:vs[j]? =some vs[j]:=cn6 (by omega);obtain ⟨k1,k2⟩:=hel j d _ hd hvj;rw [Nat.zero_add] at k1 k2;have X:=bp7 (sz:=szOf U c) (m:=m) hvj;rw [Nat.mod_eq_of_lt hjs] at X;rw [Nat.zero_mul,Nat.zero_add];refine ⟨_,_,hvj,X,λhm=>⟨(by rintro ⟨_,S,_⟩;cases S),λ_=>?_⟩,λhm=>⟨by rw [if_neg (by rw [hm];simp)],xx.rep (k2 hm u f1 (λ_ W=>W))⟩⟩;rw [if_pos hm];obtain ⟨e,t,l,q1,L⟩:=k1 hm;refine ⟨rfl,e,t,l,q1,?_⟩;rcases L with ⟨q3,rfl⟩|⟨f,a,vr,q3,q4,q5,q6⟩
      .rw [q3];exact ⟨[],Owns.of (World.ownsRow_nil _ _ _ _),by simp [most],by simp,λi y W=>by simp at W⟩
      .obtain ⟨e2,t2,l2,vr2,q7,q8⟩:=g f _ q4;cases q7;have hl2:l2=l:=by
        rcases hlr f with A|⟨o1,A⟩
        .rw [A,q5] at q8;simp only [cn4,Ob.row.injEq,heq_eq_eq,true_and,and_true] at q8;exact q8.symm
        .exact (aR2 huv (x:=f) (List.mem_map.2 ⟨_,A,rfl⟩) (List.mem_map.2 ⟨_,q4,rfl⟩)).elim
       subst hl2;rw [q6];exact RowC.map (λd v r=>xx.rep r) (λb D=>heap_alloc_old w _ (by
        obtain ⟨ys,y1,_⟩:=A1.obj f _ q8;exact (y1.lt D).2)) (A1.obj f _ q8)
    .obtain ⟨r1,a1,e1,t1,l1,vr1,w1,_,w3,w4⟩:=T p a b ha O;obtain ⟨r2,a2,e2,t2,l2,vr2,x1,_,x3,x4⟩:=T q cc b hcc hcb;obtain ⟨ys,y1,_⟩:=A1.obj r1 _ w3;obtain ⟨zs,z1,_⟩:=A1.obj r2 _ x3;have:=A1.dis r1 _ r2 _ b w3 x3 (y1.has (by rw [<-w4];exact O)) (z1.has (by rw [<-x4];exact hcb));subst this;exact bg6 hro w1 x1
    .intro D;have D:w.heap.size=b:=by simpa [D5] using D
     obtain ⟨r1,a1,e1,t1,l1,vr1,w1,_,w3,w4⟩:=T p a b ha O;obtain ⟨ys,y1,_⟩:=A1.obj r1 _ w3;have:=(y1.lt (by rw [<-w4];exact O)).2;omega
 refine ⟨.slice (some ⟨w.heap.size,0,none⟩) 1 1,w.alloc (.cells vs.toArray el),β',.inl ?_,?_,?_⟩
 .simp only [execOp,hop];simp only [Sem.run_bind,hrun];rfl
 .dsimp only;rw [C6];exact A1.trans A2
 .dsimp only;refine CsRel.one rfl ⟨.rows el c m [x] 0 0 true none,?_,Nat.le_refl _,λ_=>⟨_,hβf,by simp⟩⟩;rw [C6];have:upds (upds s.h u) (v++[(B3 o.dst 0,Ob.dp (.rows el c m [x] 0 0 true none))])=write (B3 o.dst 0) (Ob.dp (.rows el c m [x] 0 0 true none)) (upds (upds s.h u) v):=by rw [C6];rfl
  rw [this];exact A9 _ _ _
theorem V8 {P:Program} {K:TypeId} {kt:Ty} (h:L3 U P K kt=true):(∃ q,P.underlying K=some (.int q)/\kt=.int q)\/∃ i fs,P.underlying K=some (.struct fs)/\kt=.user i/\ac5 P K=some (U.fields i)/\P.stoodInHeld K=false:=by
 unfold L3 at h;split at h
 .rename_i q a;split at h
  .rename_i q';simp only [cp6] at h;subst h;exact .inl ⟨q,a,rfl⟩
  .cases h
 .rename_i fs a;split at h
  .rename_i i;split at h
   .rename_i ts b;simp only [cn7,beq_iff_eq,Bool.not_eq_true'] at h;exact .inr ⟨i,fs,a,rfl,by rw [b,h.1],h.2⟩
   .cases h
  .cases h
 .cases h
theorem M3 {P:Program}:∀ {fs:List Field} {k:Nat} {ts:List Ty},O9 P fs k=some ts->∀ t∈ts,Z1 t=true
 |[],_,ts,h,t,a=>by simp only [O9,cn4] at h;subst h;simp at a
 |f::fs,k,ts,h,t,a=>by
  simp only [O9] at h;split at h
  case h_2=>cases h
  split at h
  .split at h
   case isFalse=>cases h
   simp only [co1] at h;obtain ⟨ts',h1,rfl⟩:=h;rcases List.mem_cons.1 a with rfl|h2
   .rfl
   .exact M3 h1 t h2
  .split at h
   case isFalse=>cases h
   simp only [co1] at h;obtain ⟨ts',h1,rfl⟩:=h;rcases List.mem_cons.1 a with rfl|h2
   .rfl
   .exact M3 h1 t h2
  .cases h
theorem aK6:∀ {ts:List Ty} (hs:∀ t∈ts,Z1 t=true) (c d:Dens U.T ts),I7 ts (A7 U ts c) (A7 U ts d)=some (M6 (A7 U ts d) (A7 U ts c))
 |[],_,_,_=>rfl
 |t::ts,hs,c,d=>by
  have h1:=hs t (by simp);have ih:=aK6 (ts:=ts) (λt a=>hs t (by simp [a])) c.2 d.2;cases t with
  |int q=>simp only [A7,I7,if_true,ih,Option.map_some,M6];rw [show ((c.1:Int)==d.1)=(d.1==c.1) from BEq.comm]
  |bool=>simp only [A7,I7,ih,Option.map_some,M6];rw [show (c.1==d.1)=(d.1==c.1) from BEq.comm]
  |str=>cases h1
  |slice=>cases h1
  |user=>cases h1
  |map=>cases h1
  |ifc=>cases h1
theorem ar0:∀ {ts:List Ty} {c d:Dens U.T ts},M6 (A7 U ts c) (A7 U ts d)=true->A7 U ts c=A7 U ts d
 |[],_,_,_=>rfl
 |t::ts,c,d,h=>by
  cases t with
  |int q=>simp only [A7,M6,cn7,beq_iff_eq] at h |-;rw [h.1,ar0 h.2]
  |bool=>simp only [A7,M6,cn7,beq_iff_eq] at h |-;rw [h.1,ar0 h.2]
  |str=>simp [A7,M6] at h
  |slice=>simp [A7,M6] at h
  |user=>simp [A7,M6] at h
  |map=>simp [A7,M6] at h
  |ifc=>simp [A7,M6] at h
theorem VIs.int {M:Nat->Prop} {q:IntKind} {a:Int} {v:Value} (h:VIs (U:=U) w M (.int q) a v):v=.int q a:=by
 obtain ⟨vs,h1,h2,h3,h4⟩:=h
 match vs,h2 with
 |[u],_=>have:=h4 0 ⟨.int q,a⟩ u rfl rfl;cases this;exact h1
theorem VIs.mkInt {M:Nat->Prop} (q:IntKind) (a:Int):VIs (U:=U) w M (.int q) a (.int q a):=
 ⟨[.int q a],rfl,rfl,by simp [Value.oneCell'],λj d u b c=>by
  match j,b,c with
  |0,b,c=>simp only [B1,co2,cn4] at b c;subst b;subst c;exact Rep.int _ _
  |j+1,b,c=>simp [B1] at b⟩
theorem bp9 {β:Type} {q:IntKind} (a:Int) (y:β):∀ {l:List (Int×β)} {es:List MapEntry} (d:Nat),es.length=l.length->(∀ (i:Nat) (x:Int×β) (e:MapEntry),l[i]? =some x->es[i]? =some e->e.key=.int q x.1)->
  (Instr.findNow (.int q) (.int q a) es d=some none/\mget (λx y=>x==y) l a=none/\mput (λx y=>x==y) l a y=l++[(a,y)])\/
  ∃ j e x,es[j]? =some e/\l[j]? =some x/\x.1=a/\Instr.findNow (.int q) (.int q a) es d=some (some (d+j,e.val))/\mget (λx y=>x==y) l a=some x.2/\mput (λx y=>x==y) l a y=l.set j (a,y)
 |[],[],d,_,_=>.inl ⟨rfl,rfl,rfl⟩
 |[],_::_,_,hl,_=>by simp at hl
 |_::_,[],_,hl,_=>by simp at hl
 |(k,v)::l,e::es,d,hl,hr=>by
  have h:=hr 0 (k,v) e rfl rfl;have g:Instr.sameNow (.int q) (.int q a) e.key=some (a==k):=by rw [h];simp [Instr.sameNow]
  by_cases c:a=k
  .subst c;refine .inr ⟨0,e,(a,v),rfl,rfl,rfl,?_,?_,?_⟩
   .simp [Instr.findNow,g]
   .simp [mget]
   .simp [mput]
  .have b:(k==a)=false:=by simpa using (Ne.symm c)
   have f:(a==k)=false:=by simpa using c
   rcases bp9 a y (l:=l) (es:=es) (d+1) (by simpa using hl) (λi x e' m n=>hr (i+1) x e' (by simpa using m) (by simpa using n)) with ⟨h1,h2,h3⟩|⟨j,e',x,h1,h2,h3,h4,o,p⟩
   .refine .inl ⟨?_,?_,?_⟩
    .simp [Instr.findNow,g,f,h1]
    .simp [mget,b,h2]
    .simp [mput,b,h3]
   .refine .inr ⟨j+1,e',x,by simpa using h1,by simpa using h2,h3,?_,?_,?_⟩
    .simp only [Instr.findNow,g,f,h4];congr 3;omega
    .simp [mget,b,o]
    .simp [mput,b,p]
theorem VIs.agg {M:Nat->Prop} {i:Nat} {x:U.T i} {v:Value} (h:VIs (U:=U) w M (.user i) x v):∃ vs:List Value,v=.agg vs.toArray/\vs.length=(U.fields i).length/\∀ (j:Nat) (d:Datum U),(A7 U (U.fields i) (U.get i x))[j]? =some d->∃ u,vs[j]? =some u/\Rep U w M d u:=by
 obtain ⟨vs,h1,h2,h3,h4⟩:=h;refine ⟨vs,h1,h2,λj d b=>?_⟩;have a:j<vs.length:=by
  rw [h2];have:=(cn9.1 b).1
  rwa [F8] at this
 exact ⟨vs[j],cn6 a,h4 j d _ b (cn6 a)⟩
theorem aB9 {P:Program} {M:Nat->Prop} {b:Bool} {n:Nat}:∀ {fs:List Field} {k:Nat} {ts:List Ty} {ds:List (Datum U)} {xs:List Value},O9 P fs k=some ts->(ds.map (·.1))=ts->(∀ (j:Nat) (x:Datum U),ds[j]? =some x->∃ u,xs[k+j]? =some u/\Rep U w M x u)->
  (do for f in fs do if f.name≠"_" then Instr.checkKey b (n+1) f.type (←part f.type xs.toArray f.offset):Sem Unit).run P w=.ok () w
 |[],_,_,_,_,_,_,_=>by simp
 |f::fs,k,ts,ds,xs,c,a,t=>by
  simp only [O9] at c;split at c
  case h_2=>cases c
  rename_i td i l y;have go:∀ {d:TypeDesc} {ty:Ty} {ts':List Ty},td=d->((∃ q,d=.int q/\ty=.int q)\/(d=.bool/\ty=.bool))->(f.name !="_"&&Nat.beq f.offset k&&Nat.beq i.size 1)=true->O9 P fs (k+1)=some ts'->ts=ty::ts'->
    (do for f in (f::fs) do if f.name≠"_" then Instr.checkKey b (n+1) f.type (←part f.type xs.toArray f.offset):Sem Unit).run P w=.ok () w:=by
   intro d ty ts' A m hc p r;subst A;simp only [cn7,bne_iff_ne,ne_eq] at hc;obtain ⟨⟨g,e⟩,h⟩:=hc;have e:=cn5 e;have h:=cn5 h;rw [r] at a;cases ds with
   |nil=>simp at a
   |cons B ds=>
    simp only [List.map_cons,List.cons.injEq] at a;obtain ⟨u,v,o⟩:=t 0 _ rfl;rw [Nat.add_zero,<-e] at v;have C:=Y3 (w:=w) l (m.imp (λ⟨q,h1,_⟩=>⟨q,h1⟩) (λh1=>h1.1)) y h v;have ih:=aB9 (b:=b) (n:=n) p a.2 (λj z D=>by rw [Nat.add_assoc,Nat.add_comm 1];exact t (j+1) z (by simpa using D));have s:(Instr.checkKey b (n+1) f.type u).run P w=.ok () w:=by
     refine MapKept.run_checkKey l ?_ b n;obtain ⟨E,F⟩:=B;simp only at a;rcases m with ⟨q,h1,h2⟩|⟨h1,h2⟩
     .rw [h1];rw [h2] at a;obtain ⟨rfl,_⟩:=a;cases o;rfl
     .rw [h1];rw [h2] at a;obtain ⟨rfl,_⟩:=a;cases o;trivial
    simp only [List.forIn_cons,Sem.run_bind,Sem.run_ite,if_pos g,C,Result.andThen_ok,s,Sem.run_pure];simp only [Sem.run_bind,Sem.run_pure] at ih;exact ih
  split at c
  .rename_i q;split at c
   case isFalse=>cases c
   rename_i hc;simp only [co1] at c;obtain ⟨ts',h1,rfl⟩:=c;exact go rfl (.inl ⟨q,rfl,rfl⟩) hc h1 rfl
  .split at c
   case isFalse=>cases c
   rename_i hc;simp only [co1] at c;obtain ⟨ts',h1,rfl⟩:=c;exact go rfl (.inr ⟨rfl,rfl⟩) hc h1 rfl
  .cases c
theorem ag9:∀ {ts:List Ty} {c:Dens U.T ts},(A7 U ts c).map (·.1)=ts
 |[],_=>rfl
 |t::ts,c=>by simp [A7,ag9 (ts:=ts)]
theorem ao0 {P:Program} {M:Nat->Prop} {K:TypeId} {kt:Ty} (f:L3 U P K kt=true) {a:den U.T kt} {kv:Value} (e:VIs w M kt a kv) (b:Bool):(Instr.checkKey b 10000 K kv).run P w=.ok () w:=by
 rcases V8 f with ⟨q,c,rfl⟩|⟨i,fs,c,rfl,d,_⟩
 .rw [e.int];exact MapKept.run_checkKey c (by simp [MapKept.IsKey]) _ _
 .obtain ⟨vs,rfl,hl,hc⟩:=e.agg;unfold ac5 at d;rw [c] at d;simp only at d;have:=aB9 (w:=w) (b:=b) (n:=9998) (ds:=A7 U (U.fields i) (U.get i a)) d ag9 (λj x g=>by rw [Nat.zero_add];exact hc j x g);rw [show (10000:Nat)=9999+1 from rfl];unfold Instr.checkKey;simp only [Sem.run_bind,run_underlying c,Result.andThen_ok];rw [<-Array.forIn_toList];simp only [Sem.run_bind] at this;exact this
theorem bE7 {P:Program} {M:Nat->Prop} {K:TypeId} {i:Nat} (b:ac5 P K=some (U.fields i)) (hs:P.stoodInHeld K=false) {a x:U.T i} {kv xv:Value} (d:VIs (U:=U) w M (.user i) a kv) (e:VIs (U:=U) w M (.user i) x xv):(Op.equal K kv xv).run P w=.ok (E6 U (.user i) x a) w:=by
 obtain ⟨vs,rfl,hl,hc⟩:=d.agg;obtain ⟨us,rfl,f,c⟩:=e.agg;refine ad5 (M:=M) hs b (aK6 (λt g=>?_) _ _) hc c;unfold ac5 at b;split at b
 .exact M3 b t g
 .cases b
theorem bq0 {P:Program} {M:Nat->Prop} {K:TypeId} {kt:Ty} (r:L3 U P K kt=true) {a x:den U.T kt} {kv xv:Value} (n:VIs w M kt a kv) (o:VIs w M kt x xv) (h:E6 U kt x a=true):xv=kv:=by
 rcases V8 r with ⟨q,s,rfl⟩|⟨i,fs,s,rfl,k,_⟩
 .rw [n.int,o.int];have h:((x:Int)==a)=true:=h;simp only [beq_iff_eq] at h;rw [h]
 .have f:=ar0 (show M6 (A7 U (U.fields i) (U.get i x)) (A7 U (U.fields i) (U.get i a))=true from h);have e:∀ t∈U.fields i,Z1 t=true:=λt v=>by
   unfold ac5 at k;split at k
   .exact M3 k t v
   .cases k
  obtain ⟨vs,rfl,hl,hc⟩:=n.agg;obtain ⟨us,rfl,y,l⟩:=o.agg;congr 2;apply List.ext_getElem?;intro j;by_cases z:j<(U.fields i).length
  .have g:j<(A7 U (U.fields i) (U.get i a)).length:=by rw [F8];exact z
   obtain ⟨u,h1,h2⟩:=hc j _ (cn6 g);obtain ⟨u',h3,h4⟩:=l j _ (by rw [f];exact cn6 g);rw [h1,h3];have m:((A7 U (U.fields i) (U.get i a))[j]).1∈U.fields i:=by
    have A:=ag9 (U:=U) (c:=U.get i a);have p:((A7 U (U.fields i) (U.get i a)).map (·.1))[j]? =some ((A7 U (U.fields i) (U.get i a))[j]).1:=by rw [co9,cn6 g];rfl
    rw [A] at p;exact List.mem_of_getElem? p
   have b:=e _ m;generalize (A7 U (U.fields i) (U.get i a))[j]=d at h2 h4 b;obtain ⟨t,dd⟩:=d;cases t with
   |int q=>cases h2;cases h4;rfl
   |bool=>cases h2;cases h4;rfl
   |str=>cases b
   |slice=>cases b
   |user=>cases b
   |map=>cases b
   |ifc=>cases b
  .rw [List.getElem?_eq_none (by omega),List.getElem?_eq_none (by omega)]
theorem aC0:∀ {vs:List Value} {n:Nat},(∀ v∈vs,(∃ q a,v=.int q a)\/∃ b,v=.bool b)->((vs.zip vs).all λ(x,y)=>Instr.sameBits n x y)=true
 |[],_,_=>rfl
 |v::vs,n,h=>by
  simp only [List.zip_cons_cons,List.all_cons,cn7];refine ⟨?_,aC0 (λv c=>h v (by simp [c]))⟩;rcases h v (by simp) with ⟨q,a,rfl⟩|⟨b,rfl⟩
  .cases n<;>simp [Instr.sameBits]
  .cases n<;>simp [Instr.sameBits]
theorem aX9 {P:Program} {M:Nat->Prop} {K:TypeId} {kt:Ty} (s:L3 U P K kt=true) {a:den U.T kt} {kv:Value} (o:VIs w M kt a kv):(Instr.keyThatStays kv kv).run P w=.ok kv w:=by
 have x:Instr.sameBits 10000 kv kv=true:=by
  rcases V8 s with ⟨q,y,rfl⟩|⟨i,fs,y,rfl,k,_⟩
  .rw [o.int];simp [Instr.sameBits]
  .have f:∀ t∈U.fields i,Z1 t=true:=λt z=>by
    unfold ac5 at k;split at k
    .exact M3 k t z
    .cases k
   obtain ⟨vs,rfl,hl,hc⟩:=o.agg;have g:∀ v∈vs,(∃ q a,v=.int q a)\/∃ b,v=.bool b:=by
    intro v l;obtain ⟨j,p⟩:=List.mem_iff_getElem?.1 l;have A:=(cn9.1 p).1;have h:j<(A7 U (U.fields i) (U.get i a)).length:=by rw [F8];omega
    obtain ⟨u,h1,h2⟩:=hc j _ (cn6 h);rw [p] at h1;simp only [cn4] at h1;subst h1;have m:((A7 U (U.fields i) (U.get i a))[j]).1∈U.fields i:=by
     have B:=ag9 (U:=U) (c:=U.get i a);have r:((A7 U (U.fields i) (U.get i a)).map (·.1))[j]? =some ((A7 U (U.fields i) (U.get i a))[j]).1:=by rw [co9,cn6 h];rfl
     rw [B] at r;exact List.mem_of_getElem? r
    have e:=f _ m;generalize (A7 U (U.fields i) (U.get i a))[j]=d at h2 e;obtain ⟨t,dd⟩:=d;cases t with
    |int q=>cases h2;exact .inl ⟨_,_,rfl⟩
    |bool=>cases h2;exact .inr ⟨_,rfl⟩
    |str=>cases e
    |slice=>cases e
    |user=>cases e
    |map=>cases e
    |ifc=>cases e
   have:=aC0 (n:=9999) g;show Instr.sameBits (9999+1) _ _=true;simp only [Instr.sameBits,beq_self_eq_true,Bool.true_and];exact this
 simp [Instr.keyThatStays,x]
theorem aC1 {P:Program} {M:Nat->Prop} {K:TypeId} {i:Nat} (f:ac5 P K=some (U.fields i)) (hs:P.stoodInHeld K=false) {a:U.T i} {kv:Value} (g:VIs (U:=U) w M (.user i) a kv) {β:Type} (y:β):∀ {l:List (U.T i×β)} {es:List MapEntry} (d:Nat),es.length=l.length->
  (∀ (k:Nat) (x:U.T i×β) (e:MapEntry),l[k]? =some x->es[k]? =some e->VIs (U:=U) w M (.user i) x.1 e.key)->
  ((Instr.findAsking K kv es d).run P w=.ok none w/\mget (E6 U (.user i)) l a=none/\mput (E6 U (.user i)) l a y=l++[(a,y)])\/
  ∃ j e x,es[j]? =some e/\l[j]? =some x/\E6 U (.user i) x.1 a=true/\(Instr.findAsking K kv es d).run P w=.ok (some (d+j,e.val)) w/\mget (E6 U (.user i)) l a=some x.2/\mput (E6 U (.user i)) l a y=l.set j (a,y)
 |[],[],d,_,_=>.inl ⟨rfl,rfl,rfl⟩
 |[],_::_,_,hl,_=>by simp at hl
 |_::_,[],_,hl,_=>by simp at hl
 |(k,v)::l,e::es,d,hl,hr=>by
  have b:=bE7 f hs g (hr 0 (k,v) e rfl rfl);cases c:E6 U (.user i) k a with
  |true=>
   rw [c] at b;refine .inr ⟨0,e,(k,v),rfl,rfl,c,?_,?_,?_⟩
   .simp [Instr.findAsking,b]
   .simp [mget,c]
   .simp [mput,c]
  |false=>
   rw [c] at b;rcases aC1 f hs g y (l:=l) (es:=es) (d+1) (by simpa using hl) (λi x e' h m=>hr (i+1) x e' (by simpa using h) (by simpa using m)) with ⟨h1,h2,h3⟩|⟨j,e',x,h1,h2,h3,h4,n,o⟩
   .refine .inl ⟨?_,?_,?_⟩
    .simp [Instr.findAsking,b,h1]
    .simp [mget,c,h2]
    .simp [mput,c,h3]
   .refine .inr ⟨j+1,e',x,by simpa using h1,by simpa using h2,h3,?_,?_,?_⟩
    .simp only [Instr.findAsking,Sem.run_bind,b,Result.andThen_ok,Bool.false_eq_true,if_false,h4];rw [show d+1+j=d+(j+1) by omega]
    .simp [mget,c,n]
    .simp [mput,c,o]
theorem az0 {P:Program} {M:Nat->Prop} {K:TypeId} {kt:Ty} (p:L3 U P K kt=true) {a:den U.T kt} {kv:Value} (g:VIs w M kt a kv) {β:Type} (y:β) {l:List (den U.T kt×β)} {es:List MapEntry} (hl:es.length=l.length)
  (hr:∀ (k:Nat) (x:den U.T kt×β) (e:MapEntry),l[k]? =some x->es[k]? =some e->VIs w M kt x.1 e.key):
  ((Instr.findKey K kv es).run P w=.ok none w/\mget (E6 U kt) l a=none/\mput (E6 U kt) l a y=l++[(a,y)])\/
  ∃ j e x,es[j]? =some e/\l[j]? =some x/\E6 U kt x.1 a=true/\(Instr.findKey K kv es).run P w=.ok (some (j,e.val)) w/\mget (E6 U kt) l a=some x.2/\mput (E6 U kt) l a y=l.set j (a,y):=by
 rcases V8 p with ⟨q,b,rfl⟩|⟨i,fs,b,rfl,r,hs⟩
 .rw [g.int];rcases bp9 (q:=q) a y (l:=l) (es:=es) 0 hl (λi x e s t=>(hr i x e s t).int) with ⟨h,m,d⟩|⟨j,e,x,u,h,m,d,f4,v⟩
  .exact .inl ⟨MapKept.run_findKey b h,m,d⟩
  .refine .inr ⟨j,e,x,u,h,?_,?_,f4,v⟩
   .show ((x.1:Int)==a)=true;rw [m];simp
   .rw [Nat.zero_add] at d;exact MapKept.run_findKey b d
 .obtain ⟨vs,n,_⟩:=g.agg;cases es with
  |nil=>have o:l=[]:=List.eq_nil_of_length_eq_zero (by simpa using hl.symm);subst o;exact .inl ⟨MapKept.run_findKey b rfl,rfl,rfl⟩
  |cons f es=>
   have c:(Instr.findKey K kv (f::es)).run P w=(Instr.findAsking K kv (f::es) 0).run P w:=by
    have:Instr.findNow (.struct fs) kv (f::es) 0=none:=by rw [n];simp [Instr.findNow,Instr.sameNow]
    simp only [Instr.findKey,Sem.run_bind,run_underlying b,Result.andThen_ok,this]
   rw [c];rcases aC1 r hs g y (l:=l) (es:=f::es) 0 hl hr with h1|⟨j,e,x,h1,h2,h3,h4,z⟩
   .exact .inl h1
   .rw [Nat.zero_add] at h4;exact .inr ⟨j,e,x,h1,h2,h3,h4,z⟩
theorem Does.makeMap (R:Rel F n β s tmps w) {t:TypeId} (b:o.op=.makeMap t none) (a:af9 E o.dst t=some e) (hf:look (B3 o.dst 0) s.h=none) (c:B3 o.dst 0<1000000):Does E.P F β s ρ w o e:=by
 unfold af9 at a;split at a
 case h_2=>cases a
 rename_i K V f;split at a
 case h_2=>cases a
 rename_i kt j;split at a
 case h_2=>cases a
 rename_i vt k;revert a;cases hc:L3 U E.P K kt with
 |false=>intro a;cases a
 |true=>
  intro a;simp only [cond_true,cn4] at a;subst a;have A:=Q8 R.ok (w':=w.alloc (.map #[] 0)) (id:=B3 o.dst 0) (ob:=.map kt vt []) (v:=.map (some w.heap.size)) (N8 _ _) hf (.inr c) (λg hg=>by have:=bD4 hg;omega) (λx=>
   ⟨w.heap.size,#[],0,C2 _ _ _,R.hB,heap_alloc_new w _,⟨rfl,rfl,λi e a=>by simp at a⟩,λi y e d=>by simp at d⟩)
  refine ⟨.map (some w.heap.size),_,_,.inl ?_,A,CsRel.one rfl ⟨kt,vt,[],A9 _ _ _,(C2 _ _ _).symm⟩⟩;simp [execOp,b,Instr.makeMap,newObj];rfl
theorem ar1 {σ:List (Nat×PV U)} {vt:Ty} {x:den U.T vt} {p:PV U} (a:X9 vt ((B1 U vt x).map .d)=some p) {v:Value} (g:VIs w (Live β h) vt x v):PRel w β h σ p v/\VRel w β h (G7 vt,(B1 U vt x).map .d) v:=by
 obtain ⟨vs,h1,h2,h3,h4⟩:=g;have hl:vs.length=(B1 U vt x).length:=by rw [h2,B0]
 have hc:CsRel w β h ((B1 U vt x).map .d) vs:=CsRel.data hl h4;have one:G7 vt=false->(∃ c,(B1 U vt x).map .d=[c]/\p=.one c)->PRel w β h σ p v/\VRel w β h (G7 vt,(B1 U vt x).map .d) v:=by
  rintro f ⟨c,b,rfl⟩;rw [f];rw [b] at hc |-;have d:vs.length=1:=by rw [hc.1];rfl
  match vs,d with
  |[u],_=>rw [f] at h1;have h1:v=u:=h1;subst h1;exact ⟨hc,hc⟩
 cases vt with
 |user i=>simp only [X9,cn4] at a;subst a;exact ⟨⟨vs,h1,hc⟩,⟨vs,h1,hc⟩⟩
 |int k=>exact one rfl ⟨_,rfl,by simpa [X9,B1] using a.symm⟩
 |bool=>exact one rfl ⟨_,rfl,by simpa [X9,B1] using a.symm⟩
 |str=>exact one rfl ⟨_,rfl,by simpa [X9,B1] using a.symm⟩
 |slice e t=>exact one rfl ⟨_,rfl,by simpa [X9,B1] using a.symm⟩
 |map k v=>exact one rfl ⟨_,rfl,by simpa [X9,B1] using a.symm⟩
 |ifc i=>exact one rfl ⟨_,rfl,by simpa [X9,B1] using a.symm⟩
theorem bE8 (m:E.Fits) {V:TypeId} {vt:Ty} (hc:E.code V=some vt) (b:Q4 E.P V vt=true) (M:Nat->Prop):∃ z,(zeroValue V).run E.P w=.ok z w/\VIs w M vt (dfl U vt) z:=by
 obtain ⟨i,z,k,e,a,f,l,_,h1,hr⟩:=m.code _ _ hc;refine ⟨z,by simp [zeroValue,typeInfo,k,a],?_⟩;unfold Q4 at b;rw [k] at b;simp only [a] at b;have n:(match z with
  | .agg _=>G7 vt
  |_=>!(G7 vt))=true:=by
  revert b;cases z<;>exact id
 refine ⟨z.cells.toList,?_,by simp [f,e],h1,λj d u o c=>?_⟩
 .cases c:G7 vt with
  |true=>cases z<;>simp_all [Value.cells,aV4]
  |false=>cases z<;>simp_all [Value.cells,aV4]
 .obtain ⟨u',g,h⟩:=hr j d o;rw [Array.getElem?_toList,g] at c;simp only [cn4] at c;subst c;exact h _ _
theorem cb4 (k:Ok F w β h) {ids:List Nat} {vt:Ty} {p:PV U} {c:den U.T vt} {u:Obs U} (e:asE (sub h ids) vt p=some (c,u)) (a:bn8 vt p=true) {σ:List (Nat×PV U)} {v:Value} (r:PRel w β h σ p v):
  Freezes h u/\VIs w (Live β (upds h u)) vt c v:=by
 unfold asE at e;split at e
 case h_2=>cases e
 rename_i cs b;split at e
 case h_2=>cases e
 rename_i ds n f;split at e
 case h_2=>cases e
 rename_i x o;simp only [cn4,co6] at e;obtain ⟨rfl,rfl⟩:=e;obtain ⟨hf,hl⟩:=L4 f;refine ⟨hf,?_⟩;have g:=am0 o;have fin:∀ vs:List Value,v=aV4 (G7 vt) vs->CsRel w β h cs vs->VIs w (Live β (upds h n)) vt x v:=by intro vs i hc;refine ⟨vs,i,by rw [hc.1,<-hl,g,B0],hc.2.1,λj d y m q=>?_⟩;rw [<-g] at m;exact ag4 k hf f hc (λ_ h=>h) j d y m q
 cases p with
 |one c=>
  simp only [S2,cn4] at b;subst b;have l:G7 vt=false:=by simpa [bn8] using a
  exact fin [v] (by rw [l];rfl) r
 |agg cs'=>
  simp only [S2,cn4] at b;subst b;have l:G7 vt=true:=by simpa [bn8] using a
  obtain ⟨vs,i,hc⟩:=r;exact fin vs (by rw [l];exact i) hc
 |_=>simp [S2] at b
theorem ao1 {kt:Ty} {p:PV U} {k:den U.T kt} (a:bt1 kt p=some k) {σ:List (Nat×PV U)} {v:Value} (r:PRel w β h σ p v):VIs w (Live β h) kt k v:=by
 unfold bt1 at a;split at a
 .rename_i d;split at a
  .cases a
  .rename_i e;have e:G7 kt=false:=by simpa using e
   have b:=Datum.as_eq a;subst b;have hr:=r.inv;refine ⟨[v],by rw [e];rfl,(by cases kt<;>first|rfl|(cases e)),by simpa using hr.1,λj d u b c=>?_⟩;have hc:B1 U kt k=[⟨kt,k⟩]:=by cases kt<;>first|rfl|(cases e)
   rw [hc] at b;cases j with
   |zero=>simp only [co2,cn4] at b c;subst b;subst c;exact hr.2
   |succ j=>simp at b
 .rename_i cs;split at a
  case isFalse=>cases a
  rename_i e;split at a
  case h_2=>cases a
  rename_i ds f;obtain ⟨vs,g,hr⟩:=r;rw [ad4 f] at hr;have hc:=am0 a;refine ⟨vs,by rw [e];exact g,by rw [hr.1,cq5,hc,B0],hr.2.1,λj d u b c=>?_⟩;rw [<-hc] at b;exact hr.2.2 j (.d d) u (by simp [b]) c
 .cases a
theorem Does.lookup (W:E.Fits) (R:Rel F n β s tmps w) {t:TypeId} {x y:Operand} {ok:Bool} (A:o.op=.lookup t x y ok) {u v:PV U} (r:PRel w β s.h s.σ u (ρ x)) (q:PRel w β s.h s.σ v (ρ y))
  {ids:List Nat} (a:am5 E (sub s.h ids) t ok u v=some e):Does E.P F β s ρ w o e:=by
 unfold am5 at a;split at a
 case h_2=>cases a
 rename_i id;split at a
 case h_2=>cases a
 rename_i kt vt l hl;split at a
 case h_2=>cases a
 rename_i K V G;revert a;cases hc:(L3 U E.P K kt&&(E.code V==some vt&&Q4 E.P V vt)) with
 |false=>intro a;cases a
 |true=>
  intro a;simp only [cond_true] at a;simp only [cn7,beq_iff_eq] at hc;obtain ⟨Q,X,Y⟩:=hc;split at a
  case h_2=>cases a
  rename_i k Z;split at a
  case h_2=>cases a
  rename_i p hp;have g:=ao1 Z q;generalize B:ρ y=kv at g;have hl:=C1 hl;obtain ⟨b,es,clock,h1,h2,h3,⟨h4,_,_⟩,S⟩:=R.obj id _ hl;obtain ⟨_,_,_,hl2,I⟩:=r.inv.2;rw [h1] at I;obtain ⟨z,T,J⟩:=bE8 (w:=w) W X Y (Live β s.h);have f:(Instr.checkKey es.isEmpty 10000 K kv).run E.P w=.ok () w:=ao0 Q g _;have C:∃ val ok',(Instr.lookup t (.map (some b)) kv false).run E.P w=.ok val w/\(Instr.lookup t (.map (some b)) kv true).run E.P w=.ok (.tuple #[val,.bool ok']) w/\VIs w (Live β s.h) vt ((mget (E6 U kt) l k).getD (dfl U vt)) val/\ok'=(mget (E6 U kt) l k).isSome:=by
   rcases az0 (P:=E.P) Q g (dfl U vt) (l:=l) (es:=es.toList) (by simpa using h4) (λi x e m a=>(S i x e m (by simpa using a)).1) with ⟨H,L,M⟩|⟨j,e,x,f0,H,L,M,f4,f5⟩
   .refine ⟨z,false,?_,?_,?_,?_⟩
    .simp [Instr.lookup,run_underlying G,MapKept.run_getObj_map h3,f,H,T]
    .simp [Instr.lookup,run_underlying G,MapKept.run_getObj_map h3,f,H,T]
    .rw [L];exact J
    .rw [L];rfl
   .refine ⟨e.val,true,?_,?_,?_,?_⟩
    .simp [Instr.lookup,run_underlying G,MapKept.run_getObj_map h3,f,M]
    .simp [Instr.lookup,run_underlying G,MapKept.run_getObj_map h3,f,M]
    .rw [f4];exact (S j x e H (by simpa using f0)).2
    .rw [f4];rfl
  obtain ⟨val,ok',v1,v2,v3,v4⟩:=C;obtain ⟨N,p2⟩:=ar1 (σ:=s.σ) hp v3;cases ok with
  |false=>simp only [cn4] at a;subst a;refine Does.pure (n:=n) R rfl (v:=val) ?_ N;simp [execOp,A,I,B,v1]
  |true=>
   have D:(execOp ρ o).run E.P w=.ok (.value (.tuple #[val,.bool ok'])) w:=by simp [execOp,A,I,B,v2]
   have fin:∀ (b:Bool) (cs:List (Cell U)),VRel w β s.h (b,cs) val->Does E.P F β s ρ w o (F5 (.tup [(b,cs),(false,[.d ⟨.bool,(mget (E6 U kt) l k).isSome⟩])])):=by
    intro b cs O;refine Does.pure (n:=n) R rfl (v:=.tuple #[val,.bool ok']) D ⟨[val,.bool ok'],rfl,rfl,λj x u m d=>?_⟩
    match j,m,d with
    |0,m,d=>simp only [co2,cn4] at m d;subst m;subst d;exact O
    |1,m,d=>simp only [List.getElem?_cons_succ,co2,cn4] at m d;subst m;subst d;rw [v4];exact PRel.mkBool (σ:=s.σ) _
    |j+2,m,d=>simp at m
   simp only at a;split at a
   .rename_i c;simp only [cn4] at a;subst a;exact fin false [c] N
   .rename_i cs;simp only [cn4] at a;subst a;exact fin true cs N
   .cases a
theorem Does.mapPut (hE:E.Fits) (R:Rel F n β s tmps w) {t:TypeId} {x y z:Operand} (W:o.op=.mapUpdate t x y z) {u v p:PV U} (r:PRel w β s.h s.σ u (ρ x)) (q:PRel w β s.h s.σ v (ρ y)) (rz:PRel w β s.h s.σ p (ρ z))
  {ids:List Nat} (a:am6 E (sub s.h ids) t u v p=some e):Does E.P F β s ρ w o e:=by
 unfold am6 at a;split at a
 case h_2=>cases a
 rename_i id;split at a
 case h_2=>cases a
 rename_i kt vt l hl;split at a
 case h_2=>cases a
 rename_i K V hu;revert a;cases hc:(L3 U E.P K kt&&(E.code V==some vt&&Q4 E.P V vt)) with
 |false=>intro a;cases a
 |true=>
  intro a;simp only [cond_true] at a;simp only [cn7,beq_iff_eq] at hc;obtain ⟨S,c2,c3⟩:=hc;split at a
  case h_2=>cases a
  rename_i k hk;split at a
  case h_2=>cases a
  rename_i c u X;split at a
  case isFalse=>cases a
  rename_i g;simp only [cn7] at g;obtain ⟨g,D⟩:=g;simp only [cn4] at a;subst a;have m:=ao1 hk q;generalize Y:ρ y=kv at m;have hl:=C1 hl;obtain ⟨Z,A⟩:=cb4 R.ok X D rz;have A1:=H8 R.ok Z;have d:VIs w (Live β (upds s.h u)) kt k kv:=m.mono A1.ext.size A1.ext.heapL A1.ext.live;have M:look id (upds s.h u)=some (.map kt vt l):=by
   rw [B6 (λo' ho'=>by
    have:=cq4.1 g _ ho';simp at this)]
   exact hl
  obtain ⟨b,es,clock,h1,h2,h3,⟨h4,G,H⟩,B⟩:=A1.obj id _ M;obtain ⟨_,_,_,hl2,hv⟩:=r.inv.2;rw [h1] at hv;have C:(Instr.checkKey false 10000 K kv).run E.P w=.ok () w:=ao0 S d _;have N:∃ es' clock',(Instr.mapUpdate t (.map (some b)) kv (ρ z)).run E.P w=.ok () { w with heap:=w.heap.setIfInBounds b (.map es' clock') }/\(es'.size=(mput (E6 U kt) l k c).length/\clock'=es'.size/\∀ (i:Nat) (e:MapEntry),es'[i]? =some e->e.born=i)/\
    ∀ (i:Nat) (x:den U.T kt×den U.T vt) (e:MapEntry),(mput (E6 U kt) l k c)[i]? =some x->es'[i]? =some e->VIs w (Live β (upds s.h u)) kt x.1 e.key/\VIs w (Live β (upds s.h u)) vt x.2 e.val:=by
   rcases az0 (P:=E.P) S d c (l:=l) (es:=es.toList) (by simpa using h4) (λi x e f a=>(B i x e f (by simpa using a)).1) with ⟨f1,f2,f3⟩|⟨j,e,x,f0,f1,f2,f3,f4,f5⟩
   .rw [f3];refine ⟨es.push { key:=kv,val:=ρ z,born:=clock },clock+1,?_,⟨by simp [h4],by simp [G],λi e a=>?_⟩,λi x e f a=>?_⟩
    .simp [Instr.mapUpdate,run_underlying hu,MapKept.run_getObj_map h3,C,f1,MapKept.run_setObj_map _ h3]
    .rw [Array.getElem?_push] at a;split at a
     .rename_i L;simp only [cn4] at a;subst a;rw [L];exact G
     .exact H i e a
    .rcases Nat.lt_trichotomy i l.length with L|L|L
     .rw [cp4 L] at f;rw [Array.getElem?_push,if_neg (by omega)] at a;exact B i x e f a
     .rw [cp3 (by omega),L,Nat.sub_self] at f;simp only [co2,cn4] at f;subst f;rw [Array.getElem?_push,if_pos (by omega)] at a;simp only [cn4] at a;subst a;exact ⟨d,A⟩
     .rw [cp3 (by omega)] at f;have:i-l.length=(i-l.length-1)+1:=by omega
      rw [this] at f;simp at f
   .rw [f5];have I:=bq0 (P:=E.P) S d (B j x e f1 (by simpa using f0)).1 f2;have O:j<es.size:=by
     have:=(cn9.1 f0).1;simpa using this
    have hes:es[j]=e:=by
     have:es[j]? =some e:=by simpa using f0
     rw [cp1 O] at this;simpa using this
    refine ⟨es.modify j λe=>{ e with key:=kv,val:=ρ z },clock,?_,⟨by simp [h4],by simpa using G,λi e' a=>?_⟩,λi x' e' f a=>?_⟩
    .have hst:=aX9 (P:=E.P) (w:=w) S d;simp [Instr.mapUpdate,run_underlying hu,MapKept.run_getObj_map h3,C,f3,cp1 O,hes,I,hst,MapKept.run_setObj_map _ h3]
    .rw [Array.getElem?_modify] at a;split at a
     .simp only [co1] at a;obtain ⟨e0,he0,rfl⟩:=a;exact H i e0 he0
     .exact H i e' a
    .rw [cp9] at f;split at f
     .rename_i J;subst J;split at f
      .simp only [cn4] at f;subst f;rw [Array.getElem?_modify,if_pos rfl] at a;simp only [co1] at a;obtain ⟨e0,_,rfl⟩:=a;exact ⟨d,A⟩
      .cases f
     .rename_i J;rw [Array.getElem?_modify,if_neg J] at a;exact B i x' e' f a
  obtain ⟨es',clock',hr1,hr2,hr3⟩:=N;have hbl:b<w.heap.size:=(cp2.1 h3).1;have A2:After F w β (upds s.h u) { w with heap:=w.heap.setIfInBounds b (.map es' clock') } β (write id (.map kt vt (mput (E6 U kt) l k c)) (upds s.h u)):=by
   refine J0 A1.ok M rfl rfl rfl rfl (by simp) (λb' Q hn=>?_) rfl (λ_ _=>rfl) rfl (λ_=>⟨rfl,rfl,rfl⟩) (λb Q=>.inl Q) (λ_ _ B=>by cases B) (λ_ _ _ _ _ B=>by cases B) (λx=>?_)
   .have:b'≠b:=λhh=>hn (by rw [h1,hh];exact rfl);simp [Ne.symm this]
   .refine ⟨b,es',clock',h1,h2,by simp [hbl],hr2,λi y e' hy he'=>?_⟩;obtain ⟨q1,q2⟩:=hr3 i y e' hy he';exact ⟨q1.mono x.size x.heapL x.live,q2.mono x.size x.heapL x.live⟩
  refine ⟨undef,{ w with heap:=w.heap.setIfInBounds b (.map es' clock') },β,.inr ⟨?_,rfl⟩,?_,trivial⟩
  .simp [execOp,W,hv,Y,hr1]
  .dsimp only;rw [C6];exact A1.trans A2
theorem bZ0 {cs:List (Cell U)} {ds:List (Datum U)} (a:allD cs=some ds) {vs:List Value} (hc:CsRel w β h cs vs) (t:TypeId) (b:Bool) (c:b=false->vs.length=1) (σ:List (Nat×PV U)):PRel w β h σ (.one (.ifc t b ds)) (.iface t (aV4 b vs)):=by have:=ad4 a;subst this;refine CsRel.one rfl ⟨vs,rfl,by simpa using hc.1,c,hc.2.1,λj d u a e=>hc.2.2 j (.d d) u (by simp [a]) e⟩
theorem Does.iface (R:Rel F n β s tmps w) {t:TypeId} {x:Operand} (j:o.op=.makeInterface t x) {u:PV U} (r:PRel w β s.h s.σ u (ρ x)) (a:ay2 E t u=some e):Does E.P F β s ρ w o e:=by
 unfold ay2 at a;split at a
 .cases a
 .rename_i d i k;have f:∀ ms,d≠.interface ms:=λms l=>i ms l;have b:(execOp ρ o).run E.P w=.ok (.value (.iface t (ρ x))) w:=by
   have:(Instr.makeInterface t (ρ x)).run E.P w=.ok (.iface t (ρ x)) w:=by
    unfold Instr.makeInterface;simp only [Sem.run_bind,run_underlying k,Result.andThen_ok];cases d<;>first|rfl|exact absurd rfl (f _)
   simp [execOp,j,this]
  split at a
  .rename_i c;simp only [co1] at a;obtain ⟨ds,g,rfl⟩:=a;exact Does.pure (n:=n) R rfl (v:=.iface t (ρ x)) b (bZ0 (vs:=[ρ x]) g r t false (λ_=>rfl) _)
  .rename_i cs;simp only [co1] at a;obtain ⟨ds,g,rfl⟩:=a;obtain ⟨vs,m,hc⟩:=r;refine Does.pure (n:=n) R rfl (v:=.iface t (ρ x)) b ?_;rw [m];exact bZ0 (vs:=vs) g hc t true (λh=>by cases h) _
  .cases a
 .cases a
theorem aC2 {σ:List (Nat×PV U)}:∀ {vs:List (PV U)} {ids:List Nat},aV9 vs=some ids->∀ {us:List Value},us.length=vs.length->(∀ (j:Nat) (p:PV U) (v:Value),vs[j]? =some p->us[j]? =some v->PRel w β h σ p v)->
  ∃ bs:List Nat,us=bs.map (λb=>Value.pointer (some ⟨b,0,none⟩))/\bs.length=ids.length/\∀ (j id b:Nat),ids[j]? =some id->bs[j]? =some b->∃ e cs,look id h=some (.box e cs)/\β id=.pointer (some ⟨b,0,none⟩)
 |[],ids,hc,us,hl,hr=>by
  simp only [aV9,cn4] at hc;subst hc;have:us=[]:=by simpa using hl
  subst this;exact ⟨[],rfl,rfl,λj id b h=>by simp at h⟩
 |v::vs,ids,hc,us,hl,hr=>by
  match us,hl with
  |u::us,hl=>
   unfold aV9 at hc;split at hc
   .rename_i a;cases a
   .rename_i id off r a;simp only [List.cons.injEq] at a;obtain ⟨rfl,rfl⟩:=a;revert hc;cases g:Nat.beq off 0 with
    |false=>intro hc;cases hc
    |true=>
     intro hc;have g:=cn5 g;subst g;simp only [cond_true,co1] at hc;obtain ⟨ids',f,rfl⟩:=hc;obtain ⟨bs,h1,h2,h3⟩:=aC2 f (us:=us) (by simpa using hl) (λj p v i k=>hr (j+1) p v (by simpa using i) (by simpa using k));obtain ⟨e,cs,b,l,m,n⟩:=(hr 0 _ u rfl rfl).inv.2;refine ⟨b::bs,by simp [h1,n],by simp [h2],λj id' b' c d=>?_⟩
     match j,c,d with
     |0,c,d=>simp only [co2,cn4] at c d;subst c;subst d;exact ⟨e,cs,l,m⟩
     |j+1,c,d=>exact h3 j id' b' (by simpa using c) (by simpa using d)
   .cases hc
theorem Does.func (R:Rel F n β s tmps w) {f:Fn} {first cap:Array Operand} (k:o.op=.makeFunc f first cap) (hf:first.size=0) {vs:List (PV U)} (hl:vs.length=cap.toList.length) (r:∀ (j:Nat) (p:PV U) (x:Operand),vs[j]? =some p->cap.toList[j]? =some x->PRel w β s.h s.σ p (ρ x))
  (a:aP5 f vs=some e):Does E.P F β s ρ w o e:=by
 have c:=Array.eq_empty_of_size_eq_zero hf;unfold aP5 at a;split at a
 case h_2=>cases a
 rename_i fid;split at a
 case h_2=>cases a
 rename_i ids i;obtain ⟨bs,h1,h2,h3⟩:=aC2 (σ:=s.σ) i (us:=cap.toList.map ρ) (by simp [hl]) (λj p v m l=>by
  simp only [co9,co1] at l;obtain ⟨x,q,rfl⟩:=l;exact r j p x m q)
 have d:(execOp ρ o).run E.P w=.ok (.value (.func (.func fid) #[] (cap.map ρ))) w:=by simp [execOp,k,c,Instr.makeFunc]
 have g:cap.map ρ=(bs.map (λb=>Value.pointer (some ⟨b,0,none⟩))).toArray:=by apply Array.toList_inj.1;simp [<-h1]
 split at a
 .simp only [cn4] at a;subst a;have t:bs=[]:=by simpa using h2
  subst t;refine Does.pure (n:=n) R rfl d ?_;rw [g];exact CsRel.one rfl rfl
 .simp only [cn4] at a;subst a;refine Does.pure (n:=n) R rfl d ?_;rw [g];exact CsRel.one rfl ⟨bs,rfl,h2,h3⟩
theorem Does.bnd (R:Rel F n β s tmps w) {f:FuncId} {first cap:Array Operand} (i:o.op=.makeFunc (.func f) first cap) (hc:cap.size=0) {g:Operand->PV U} {id:Nat} (c:(first.toList++cap.toList).map g=[.one (.ptr id 0)]) (r:∀ x,PRel w β s.h s.σ (g x) (ρ x)):
  Does E.P F β s ρ w o (F5 (.one (.bnd f id))):=by
 have d:=Array.eq_empty_of_size_eq_zero hc;subst d;simp only [List.append_nil] at c;obtain ⟨x,j,hg⟩:∃ x,first.toList=[x]/\g x=.one (.ptr id 0):=by
  cases hf:first.toList with
  |nil=>rw [hf] at c;simp at c
  |cons x r=>rw [hf] at c;simp only [List.map_cons,List.cons.injEq,List.map_eq_nil_iff] at c;exact ⟨x,by rw [c.2],c.1⟩
 have a:first=#[x]:=by apply Array.toList_inj.1;simpa using j
 have hr:=r x;rw [hg] at hr;obtain ⟨e,cs,b,h1,h2,h3⟩:=hr.inv.2;refine Does.pure (n:=n) R rfl (v:=.func (.func f) #[.pointer (some ⟨b,0,none⟩)] #[]) ?_ (CsRel.one rfl ⟨e,cs,b,h1,h2,rfl⟩);simp [execOp,i,a,Instr.makeFunc,h3]
theorem Does.lenM (R:Rel F n β s tmps w) {c:Call} {x:Operand} (f:o.op=.call c) (hc:c.callee=.builtin .len) (g:c.args.toList=[x]) {t k' v':TypeId} {ts:List TypeId} (i:c.argTypes.toList=t::ts) (j:E.P.underlying t=some (.map k' v'))
  {u:PV U} (r:PRel w β s.h s.σ u (ρ x)) {ids:List Nat} (a:aP0 (sub s.h ids) u=some e):Does E.P F β s ρ w o e:=by
 have d:c.args.map ρ=#[ρ x]:=by apply Array.toList_inj.1;simp [g]
 have h0:c.argTypes[0]? =some t:=by rw [<-Array.getElem?_toList,i];rfl
 unfold aP0 at a;split at a
 case h_2=>cases a
 rename_i id;split at a
 case h_2=>cases a
 rename_i kt vt l hl;simp only [cn4] at a;subst a;have hl:=C1 hl;obtain ⟨_,_,_,k,m⟩:=r.inv.2;obtain ⟨b,es,clock,h1,h2,h3,⟨h4,_⟩,_⟩:=R.obj id _ hl;refine Does.pure (n:=n) R rfl (H3 f hc ?_) (PRel.mkInt _ _);rw [d,m,h1];simp [builtin,Builtin.len_,h0,run_underlying j,MapKept.run_getObj_map h3,goInt,h4]
theorem bR4 {t:Ty} {l:List (den U.T t)} {xs:List Value} (r:Els w β h t l xs) (k:Nat):Els w β h t (l.take k) (xs.take (k*szOf U t)):=by
 intro i x a j d c;rw [List.getElem?_take] at a;split at a
 .rename_i b;obtain ⟨u,e,hr⟩:=r i x a j d c;have f:j<szOf U t:=by
   rw [<-B0 U t x];exact (cn9.1 c).1
  refine ⟨u,?_,hr⟩;rw [List.getElem?_take,if_pos]
  .exact e
  .have:(i+1)*szOf U t<=k*szOf U t:=Nat.mul_le_mul_right _ b;rw [Nat.add_mul,Nat.one_mul] at this;omega
 .cases a
theorem bR5 {t:Ty} {l:List (den U.T t)} {xs:List Value} (r:Els w β h t l xs) (k:Nat):Els w β h t (l.drop k) (xs.drop (k*szOf U t)):=by intro i x a j d b;rw [List.getElem?_drop] at a;obtain ⟨u,c,hr⟩:=r (k+i) x a j d b;refine ⟨u,?_,hr⟩;rw [List.getElem?_drop,<-c];congr 1;rw [Nat.add_mul];omega
theorem bR6 {P:Program} (w:World) (dT sT ty elem:TypeId) {i:TypeInfo} (g dLen dCap:Nat) (a:Addr) (sLen sCap:Nat) (cur:Array Value) (t:TypeId) (cs:List Value)
  (k:P.underlying dT=some (.slice elem)) (l:P.info? elem=some i) (hg:w.heap[g]? =some (.cells cur t (0,0))) (h:cs.length=Nat.min sLen dLen*i.size)
  (c:∀ j v,cs[j]? =some v->w.cell? (a.add j)=some v) (d:cs.length<=cur.size) (h1:∀ v∈cs,v.oneCell'=true):
  (Builtin.copy_ #[dT,sT] ty #[.slice (some ⟨g,0,none⟩) dLen dCap,.slice (some a) sLen sCap]).run P w=.ok (goInt (Nat.min sLen dLen)) (w.setRow g (D4 cur.toList 0 cs).toArray):=by
 have hl:=run_loadCells_list (P:=P) w a cs c;have f:=run_storeCells_at P g 0 t cs 0 cur w hg (by simpa using d) h1;have e:∀ a b:Nat,Nat.min a b=min a b:=λ_ _=>rfl;simp only [e] at h;simp [Builtin.copy_,run_underlying k,Builtin.lenOf,Builtin.firstCells,sizeOf,typeInfo,l,e,<-h,hl,f,D4]
theorem bu2 {P:Program} (w:World) (dT sT ty elem:TypeId) {i:TypeInfo} (d a:Option Addr) (dLen dCap sLen sCap:Nat) (e:P.underlying dT=some (.slice elem)) (f:P.info? elem=some i) (g:min sLen dLen=0):
  (Builtin.copy_ #[dT,sT] ty #[.slice d dLen dCap,.slice a sLen sCap]).run P w=.ok (goInt 0) w:=by
 have c:∀ a b:Nat,Nat.min a b=min a b:=λ_ _=>rfl;cases a with
 |none=>cases d<;>simp [Builtin.copy_,run_underlying e,Builtin.lenOf,Builtin.firstCells,sizeOf,typeInfo,f,storeCells,c,g]
 |some a=>have hl:=run_loadCells_list (P:=P) w a [] (by simp);simp only [List.length_nil] at hl;cases d<;>simp [Builtin.copy_,run_underlying e,Builtin.lenOf,Builtin.firstCells,sizeOf,typeInfo,f,storeCells,c,g,hl]
theorem bE9 (hE:E.Fits) (R:Rel F n β s tmps w) {c:Call} {x y:Operand} (hop:o.op=.call c) (hc:c.callee=.builtin .copy) (hx:c.args.toList=[x,y]) {ty ty2 el:TypeId} (hts:c.argTypes.toList=[ty,ty2]) (hu:E.P.underlying ty=some (.slice el)) {t:Ty} (hcd:E.code el=some t)
  {u v:PV U} (r:PRel w β s.h s.σ u (ρ x)) (q:PRel w β s.h s.σ v (ρ y)) {ids:List Nat} (f:aP2 E (sub s.h ids) el t u v=some e):Does E.P F β s ρ w o e:=by
 obtain ⟨i,z,hi,hsz,hz,hzs,X,hby,_,_⟩:=hE.code _ _ hcd;have B:(c.args.map ρ)=#[ρ x,ρ y]:=by apply Array.toList_inj.1;simp [hx]
 have N:c.argTypes=#[ty,ty2]:=by apply Array.toList_inj.1;simpa using hts
 unfold aP2 at f;split at f
 case h_2=>cases f
 rename_i cy;split at f
 case h_2=>cases f
 rename_i d us hd;split at f
 case h_2=>cases f
 rename_i m hm;have:=Datum.as_eq hm;subst this;split at f
 case h_2=>cases f
 rename_i id ver;split at f
 case h_2=>cases f
 rename_i e' t' l0 ver' lv hl;split at f
 case isFalse=>cases f
 rename_i C;simp only [cn7,beq_iff_eq] at C;obtain ⟨⟨c1,Y⟩,c3⟩:=C;have c1:=cn5 c1;subst c1;subst Y;subst c3;split at f
 case h_2=>cases f
 rename_i l hll;have h0:=Datum.as_eq hll;cases h0;split at f
 case isFalse=>cases f
 rename_i Z;simp only [cn4] at f;subst f;obtain ⟨l,hl0⟩:∃ k:List (den U.T t),k=l:=⟨l,rfl⟩;obtain ⟨m,hm0⟩:∃ k:List (den U.T t),k=m:=⟨m,rfl⟩;subst hl0;subst hm0;obtain ⟨hfz,_⟩:=J9 hd;have A1:=H8 R.ok hfz;have G:=aj9 R.ok hd q.inv.2 hfz (λ_ hx=>hx);have hl:=C1 hl;have O:look id (upds s.h us)=some (.row el t l ver true):=by
  rw [B6 (λo' ho'=>by
   have:=cq4.1 Z _ ho';simp at this)]
  exact hl
 obtain ⟨_,_,_,_,_,Q,hle,K⟩:=r.inv.2;rw [hl] at Q;simp only [cn4,Ob.row.injEq] at Q;have hxv:=K Q.2.2.2.1;obtain ⟨xs,H,hmm,h1c,hel⟩:=A1.obj id _ O;have hnm:∀ a b:Nat,Nat.min a b=min a b:=λ_ _=>rfl;have fin:∀ (v2:Value) (w':World),(Builtin.copy_ c.argTypes o.type (c.args.map ρ)).run E.P w=.ok v2 w'->v2=.int .i64 ((min m.length l.length:Nat):Int)->After F w β (upds s.h us) w' β (write id (.row el t (m.take l.length++l.drop m.length) ver true) (upds s.h us))->
   Does E.P F β s ρ w o ⟨none,.one (.d ⟨.int .i64,(Nat.min (List.length m) (List.length l):Nat)⟩),us++[(id,.row el t (m.take l.length++l.drop m.length) ver true)]⟩:=by
  intro v2 w' p hv2 A2;refine ⟨v2,w',β,.inl ?_,?_,?_⟩
  .refine H3 hop hc ?_;simp [builtin,p]
  .dsimp only;rw [C6];exact A1.trans A2
  .rw [hv2];exact PRel.mkInt _ _
 have S:∃ A2 Y,ρ y=.slice A2 m.length Y:=by
  generalize hvy:ρ y=vy at G;cases G with
  |nil=>exact ⟨_,_,rfl⟩
  |slice=>exact ⟨_,_,rfl⟩
 have L:∃ A2 Y,ρ x=.slice A2 l.length Y:=by
  rw [hxv];rcases H.2 with ⟨h3,h4⟩|⟨g,cap,cur,h3,_⟩
  .exact ⟨none,0,by rw [h3,h4]⟩
  .exact ⟨_,_,h3⟩
 by_cases hz0:min m.length l.length=0
 .obtain ⟨Ay,cy2,hy⟩:=S;obtain ⟨Ax,cx2,hxx⟩:=L;have p:=bu2 (P:=E.P) w ty ty2 o.type el Ax Ay l.length cx2 m.length cy2 hu hi hz0;have V:m.take l.length++l.drop m.length=l:=by
   rcases Nat.eq_zero_or_pos m.length with h0|h0
   .have:m=[]:=List.length_eq_zero_iff.1 h0;subst this;simp
   .have h1:l.length=0:=by omega
    have:l=[]:=List.length_eq_zero_iff.1 h1;subst this;simp
  refine fin (goInt 0) w (by rw [B,N,hy,hxx];exact p) (by rw [hz0];rfl) ?_;rw [V];have I:∀ j,look j (write id (.row el t l ver true) (upds s.h us))=look j (upds s.h us):=by
   intro j;rw [A5];split
   .rename_i A;rw [A,O]
   .rfl
  have x:Ext w β (upds s.h us) w β (write id (.row el t l ver true) (upds s.h us)):=by refine ⟨Nat.le_refl _,λ_ _ _=>rfl,λb _ hb=>?_,rfl,λj e cs A=>⟨rfl,cs,by rw [I];exact A⟩,λj e t l ver lv A=>⟨l,ver,lv,by rw [I];exact A,Nat.le_refl _,λ_=>⟨rfl,rfl⟩⟩,λj o A ho=>⟨rfl,rfl,o,by rw [I];exact A,Ob.like_refl ho⟩,λj D A=>⟨D,by rw [I];exact A,λ_ _ h=>h⟩⟩;obtain ⟨j,oj,q1,q2,q3⟩:=hb;rw [I] at q1;exact ⟨j,oj,q1,q2,q3⟩
  have k:=A1.ok;exact x.after ⟨k.bel,k.hB,λj o A=>x.o rfl rfl (λ_ _=>rfl) (k.obj j o (by rw [<-I];exact A)),λj o j' o' b h1 h2=>k.dis j o j' o' b (by rw [<-I];exact h1) (by rw [<-I];exact h2),k.frm,λj o b h1=>k.own j o b (by rw [<-I];exact h1),λj o b h1=>k.Mo j o b (by rw [<-I];exact h1),k.Mlt,k.Meq,λj o v h1=>k.fix j o v (by rw [<-I];exact h1),k.nmg,k.glo⟩
 .have hml:0<m.length/\0<l.length:=by omega
  rcases aK3 X G with ⟨h0,_⟩|⟨a,cap2,ys,hyv,_,hyl,hyc,hy1,hye,_⟩
  .rw [h0] at hml;simp at hml
  .obtain ⟨g,cap,cur,h3,h4,W,h6,h7,h8,h9⟩:=an5 H (by omega);have hxs:=H.1;have hk:min m.length l.length*szOf U t<=ys.length:=by rw [hyl];exact Nat.mul_le_mul_right _ (Nat.min_le_left _ _)
   have M:(ys.take (min m.length l.length*szOf U t)).length=min m.length l.length*szOf U t:=by rw [cq3];omega
   have hkl:min m.length l.length*szOf U t<=xs.length:=by rw [hxs];exact Nat.mul_le_mul_right _ (Nat.min_le_right _ _)
   have hlc:l.length*szOf U t<=cap*szOf U t:=Nat.mul_le_mul_right _ h6;have p:=bR6 (P:=E.P) w ty ty2 o.type el g l.length cap a m.length cap2 cur el (ys.take (min m.length l.length*szOf U t)) hu hi W (by rw [M,hsz]) (λj v A=>by
    rw [List.getElem?_take] at A;split at A
    .exact hyc j v A
    .cases A) (by rw [M];omega) (λv K=>hy1 v (List.mem_of_mem_take K))
   have htk:m.take l.length=m.take (min m.length l.length):=by
    rcases Nat.le_total m.length l.length with h|h
    .rw [List.take_of_length_le h,List.take_of_length_le (by omega)]
    .rw [Nat.min_eq_right h]
   have hdk:l.drop m.length=l.drop (min m.length l.length):=by
    rcases Nat.le_total m.length l.length with h|h
    .rw [Nat.min_eq_left h]
    .rw [Nat.min_eq_right h,List.drop_eq_nil_of_le h,List.drop_eq_nil_of_le (Nat.le_refl _)]
   have J:(m.take l.length++l.drop m.length).length=l.length:=by simp;omega
   refine fin (goInt (Nat.min m.length l.length)) _ (by rw [B,N,hyv,hxv,h3];exact p) rfl ?_;refine J0 A1.ok O rfl rfl rfl rfl (by simp) (λb hb' hn=>setRow_other w g b _ (λhh=>hn (by rw [hh,h3];rfl))) rfl (λ_ _=>rfl) rfl (λh=>by simp [Ob.oth] at h) (λb hb'=>.inl hb') (λ_ _ W=>by cases W) (λe2 t2 l2 v2 lv2 W=>?_) (λx=>?_)
   .cases W;exact ⟨_,_,_,rfl,Nat.le_refl _,λ_=>⟨rfl,J⟩⟩
   .refine ⟨D4 xs 0 (ys.take (min m.length l.length*szOf U t)),?_,by rw [J];exact hmm,λv K=>?_,?_⟩
    .rw [h3,J];exact Y4 W h4 h6 h7 h8 h9 hxs (by omega)
    .simp only [D4,List.take_zero,List.nil_append,cq1] at K;rcases K with K|K
     .exact hy1 v (List.mem_of_mem_take K)
     .exact h1c v (List.mem_of_mem_drop K)
    .refine Els.ext x ?_;rw [htk,hdk];have:D4 xs 0 (ys.take (min m.length l.length*szOf U t))=ys.take (min m.length l.length*szOf U t)++xs.drop (min m.length l.length*szOf U t):=by
      simp only [D4,List.take_zero,List.nil_append,Nat.zero_add,M]
     rw [this];refine ag6 (by rw [M,cq3,Nat.min_eq_left (Nat.min_le_left _ _)]) (bR4 hye _) (bR5 hel _)
theorem Does.range (R:Rel F n β s tmps w) {t:TypeId} {x:Operand} (f:o.op=.range t x) {u:PV U} (r:PRel w β s.h s.σ u (ρ x)) {ids:List Nat} (a:ay0 E (sub s.h ids) o.dst t u=some e) (hf:look (B3 o.dst 0) s.h=none):Does E.P F β s ρ w o e:=by
 unfold ay0 at a;split at a
 case h_2=>cases a
 rename_i id;split at a
 case h_2=>cases a
 rename_i kt vt l hl;split at a
 case h_2=>cases a
 rename_i K V q;split at a
 case isTrue=>cases a
 rename_i d;have d:id≠B3 o.dst 0:=λi=>d (by rw [<-i];exact Nat.beq_refl id);simp only [cn4] at a;subst a;have hl:=C1 hl;obtain ⟨b,es,clock,h1,h2,h3,⟨h4,j,_⟩,z⟩:=R.obj id _ hl;obtain ⟨_,_,_,y,p⟩:=r.inv.2;rw [h1] at p;have k:clock=l.length:=by rw [j,h4]
 have A:=Q8 R.ok (w':=w.alloc (.mapIter (some b) clock #[] clock)) (id:=B3 o.dst 0) (ob:=.dp (.iter (some id) kt vt l.length [] 0)) (v:=.pointer (some ⟨w.heap.size,0,none⟩)) (N8 _ _) hf (.inl rfl) (λg hg=>by have:=bf8 hg;simp only at this;omega) (λxx=>
   X6 ⟨w.heap.size,b,clock,rfl,R.hB,by rw [heap_alloc_new w _,k],λi=>absurd rfl i,λm hm=>by cases hm;exact xx.cell (c:=.map id) ⟨kt,vt,l,hl,h1.symm⟩⟩ (C2 _ _ _))
 refine ⟨.pointer (some ⟨w.heap.size,0,none⟩),_,_,.inl ?_,A,CsRel.one rfl ⟨_,A9 _ _ _,rfl,(C2 _ _ _).symm⟩⟩;have hg:(getObj b).run E.P w=.ok (.map es clock) w:=by simp [getObj,Sem.run,h3]
 simp [execOp,f,p,Instr.range,run_underlying q,hg,newObj];rfl
theorem Does.entry (R:Rel F n β s tmps w) {x:Operand} (J:o.op=.entry x) {u:PV U} (r:PRel w β s.h s.σ u (ρ x)) {ids:List Nat} (d:ay1 (sub s.h ids) u=some e) (K:e.Obl):Does E.P F β s ρ w o e:=by
 unfold ay1 at d;split at d
 case h_2=>cases d
 rename_i id mid;split at d
 case h_2=>cases d
 rename_i mid' kt vt nn seen cur kt' vt' l hl i;split at d
 case isFalse=>cases d
 rename_i hb;simp only [cn7,beq_iff_eq] at hb;obtain ⟨⟨L,rfl⟩,rfl⟩:=hb;have L:=cn5 L;subst L;split at d
 case h_2=>cases d
 rename_i pk pv k m;split at d
 case h_2=>cases d
 rename_i kc vc M N;simp only [cn4] at d;subst d;obtain ⟨o1,O,o3⟩:l.length=nn/\seen.getLast? =some cur/\cur<nn:=K;have hl:=C1 hl;have i:=C1 i;obtain ⟨D,Q,S⟩:=r.inv.2;rw [hl] at Q;simp only [cn4,Ob.dp.injEq] at Q;subst Q;obtain ⟨_,S⟩:=S;have V:DRel F.B w β s.h (.iter (some mid) kt vt nn seen cur) (β id):=R.obj id _ hl;obtain ⟨rb,b,last,q1,q2,q3,q4,q5⟩:=V;obtain ⟨_,_,_,q6,W⟩:=q5 mid rfl;obtain ⟨b',es,clock,h1,h2,h3,⟨h4,X,G⟩,h5⟩:=R.obj mid _ i;rw [h1] at W;simp only [Value.map.injEq,cn4] at W;subst W;have Y:seen≠[]:=λhh=>by rw [hh] at O;cases O
 obtain ⟨_,q⟩:=q4 Y;have g:cur<es.size:=by omega
 have y:cur<l.length:=by omega
 have H:es[cur]? =some es[cur]:=cp1 g;have z:=G cur _ H;obtain ⟨e1,e2⟩:=h5 cur l[cur] es[cur] (cn6 y) H;have hk:(l.map (·.1)).getD cur (dfl U kt)=(l[cur]).1:=by simp [List.getD,cn6 y]
 have Z:(l.map (·.2)).getD cur (dfl U vt)=(l[cur]).2:=by simp [List.getD,cn6 y]
 rw [hk] at k;rw [Z] at m;obtain ⟨_,p2⟩:=ar1 (σ:=s.σ) k e1;obtain ⟨_,p4⟩:=ar1 (σ:=s.σ) m e2;have c:∀ {t:Ty} {x:den U.T t} {p:PV U} {cs:List (Cell U)},X9 t ((B1 U t x).map .d)=some p->S2 p=some cs->cs=(B1 U t x).map .d:=by intro t x p cs hp hc;cases t<;>simp_all [X9,S2,B1]<;>(subst hp;simpa using hc.symm)
 rw [c k M,c m N];have A:es.find? (λe=>e.born==cur)=some es[cur]:=by rw [Array.find?_eq_some_iff_getElem];refine ⟨by simp [z],cur,g,rfl,λj hj=>?_⟩;have:=G j es[j] (cp1 (by omega));simp [this];omega
 refine Does.pure (n:=n) R rfl (v:=.tuple #[es[cur].key,es[cur].val]) ?_ ⟨[es[cur].key,es[cur].val],rfl,rfl,λj x u f a=>?_⟩
 .have hg1:(getObj rb).run E.P w=.ok (.mapIter (some b) nn seen.toArray last) w:=by simp [getObj,Sem.run,q3]
  have hg2:(getObj b).run E.P w=.ok (.map es clock) w:=by simp [getObj,Sem.run,h3]
  have C:seen.toArray.back? =some cur:=by rw [<-O];simp
  have I:clock=last:=by rw [X,h4,o1,q]
  simp [execOp,J,S,q1,Instr.entry,hg1,hg2,C,I,A]
 .match j,f,a with
  |0,f,a=>simp only [co2,cn4] at f a;subst f;subst a;exact p2
  |1,f,a=>simp only [List.getElem?_cons_succ,co2,cn4] at f a;subst f;subst a;exact p4
  |j+2,f,a=>simp at f
theorem aY0 {P:Program} {M:Nat->Prop} {K:TypeId} {kt:Ty} (n:L3 U P K kt=true) {a:den U.T kt} {kv:Value} (o:VIs w M kt a kv) {γ:Type} (y:γ) {l:List (den U.T kt×γ)} {es:List MapEntry} (hl:es.length=l.length)
  (hr:∀ (k:Nat) (x:den U.T kt×γ) (e:MapEntry),l[k]? =some x->es[k]? =some e->VIs w M kt x.1 e.key):
  ((Instr.findKey K kv es).run P w=.ok none w/\midx kt l a=none/\mget (E6 U kt) l a=none/\mput (E6 U kt) l a y=l++[(a,y)])\/
  ∃ j e x,es[j]? =some e/\l[j]? =some x/\E6 U kt x.1 a=true/\(Instr.findKey K kv es).run P w=.ok (some (j,e.val)) w/\midx kt l a=some j/\mget (E6 U kt) l a=some x.2/\mput (E6 U kt) l a y=l.set j (a,y):=by
 have h1:=az0 n o y hl hr;have h2:=az0 (P:=P) n o (0:Nat) (l:=l.mapIdx λi x=>(x.1,i)) (es:=es) (by simpa using hl) (λi x e p s=>by
  simp only [List.getElem?_mapIdx,co1] at p;obtain ⟨q,h,rfl⟩:=p;exact hr i q e h s)
 rcases h1 with ⟨f,m,b⟩|⟨j,e,x,t,f,m,b,f4,u⟩
 .rcases h2 with ⟨c,g,_⟩|⟨v,z,A,B,c,g,d,r,_⟩
  .exact .inl ⟨f,g,m,b⟩
  .rw [f] at d;simp at d
 .rcases h2 with ⟨c,g,_⟩|⟨v,z,A,B,c,g,d,r,_⟩
  .rw [c] at b;simp at b
  .rw [b] at d;simp only [Result.ok.injEq,cn4,co6,and_true] at d;obtain ⟨rfl,_⟩:=d;simp only [List.getElem?_mapIdx,co1] at c;obtain ⟨q,_,rfl⟩:=c;exact .inr ⟨j,e,x,t,f,m,b,r,f4,u⟩
theorem aC3 {kt:Ty} {γ:Type} {k:den U.T kt}:∀ (l:List (den U.T kt×γ)) (f:Nat->Nat),mget (E6 U kt) (l.mapIdx λi x=>(x.1,f i)) k=(match mget (E6 U kt) (l.mapIdx λi x=>(x.1,i)) k with
  |some i=>some (f i)
  |none=>none)/\∀ i,mget (E6 U kt) (l.mapIdx λi x=>(x.1,i)) k=some i->∃ x,l[i]? =some x/\mget (E6 U kt) l k=some x.2
 |[],f=>by simp [mget]
 |(a,b)::r,f=>by
  simp only [List.mapIdx_cons,mget];have ih:=aC3 (k:=k) r;cases g:E6 U kt a k with
  |true=>exact ⟨rfl,λi c=>by simp only [cond_true,cn4] at c;subst c;exact ⟨(a,b),rfl,rfl⟩⟩
  |false=>
   simp only [cond_false];have h1:=(ih (λi=>f (i+1))).1;have h2:=(ih (λi=>i+1)).1;refine ⟨?_,λi c=>?_⟩
   .rw [h1,h2];cases mget (E6 U kt) (List.mapIdx (λi x=>(x.1,i)) r) k<;>rfl
   .rw [h2] at c;split at c
    .rename_i d h3;simp only [cn4] at c;subst c;obtain ⟨x,h4,e⟩:=(ih id).2 d h3;exact ⟨x,by simpa using h4,e⟩
    .cases c
theorem bR7 {kt:Ty} {γ:Type} {k:den U.T kt} {l:List (den U.T kt×γ)} {i:Nat} (h:midx kt l k=some i) {x:den U.T kt×γ} (a:l[i]? =some x):mget (E6 U kt) l k=some x.2:=by obtain ⟨y,h1,h2⟩:=(aC3 l id).2 i h;rw [a] at h1;simp only [cn4] at h1;rw [h2,h1]
theorem aY1 {kt:Ty} {γ:Type} {k:den U.T kt}:∀ {l:List (den U.T kt×γ)},midx kt l k=none->mget (E6 U kt) l k=none
 |[],_=>rfl
 |(a,b)::r,h=>by
  unfold midx at h;simp only [List.mapIdx_cons,mget] at h |-;cases c:E6 U kt a k with
  |true=>rw [c] at h;simp at h
  |false=>
   rw [c] at h;simp only [cond_false] at h |-;rw [(aC3 r (λi=>i+1)).1] at h;refine aY1 ?_;unfold midx;split at h
   .cases h
   .assumption
theorem bg7 {kt:Ty} {el:TypeId} {t:Ty} {l:List (den U.T kt×List (den U.T t))} {ver iv v0:Nat} {lv:Bool} {hole:Option (den U.T kt)} {N v:Value} {b:Nat} {ns:List Value} (c:N=.tuple ((.map (some b):Value)::ns).toArray)
  (d:DCRel (.maps kt el t l ver iv lv hole) N (.self v0) v) (a:v0=ver):v=.map (some b):=by
 obtain ⟨vs,h1,h2⟩:=d.2 a;rw [c] at h1;have:=G1 h1;subst this;simpa using h2.symm
theorem Does.lookupMs (hE:E.Fits) (R:Rel F n β s tmps w) {t:TypeId} {x y:Operand} (N:o.op=.lookup t x y false) {id v0:Nat} {v:PV U} (r:PRel w β s.h s.σ (.one (.dc id (.self v0))) (ρ x)) (q:PRel w β s.h s.σ v (ρ y))
  {ids:List Nat} (a:Z3 E (sub s.h ids) t id v0 v=some e):Does E.P F β s ρ w o e:=by
 unfold Z3 at a;split at a
 case h_2=>cases a
 rename_i kt el t' l ver iv hl;split at a
 case h_2=>cases a
 rename_i K V hu;revert a;generalize D:(Nat.beq v0 ver&&L3 U E.P K kt&&((E.code V==some (.slice el t')&&Q4 E.P V (.slice el t'))&&(match (Q3 E.P V:Option (List (Cell U))) with
    |some [z]=>bt0 z
    |_=>false)))=cc
 cases cc with
 |false=>intro a;cases a
 |true=>
  intro a;simp only [cond_true] at a;simp only [cn7,beq_iff_eq] at D;obtain ⟨⟨f,c1⟩,⟨c2,c3⟩,I⟩:=D;have f:=cn5 f;split at a
  case h_2=>cases a
  rename_i k hk;simp only [cn4] at a;subst a;have g:=ao1 hk q;generalize O:ρ y=kv at g;have hl:=C1 hl;have Q:=R.obj id _ hl;obtain ⟨D',S,hv⟩:=r.inv.2;rw [hl] at S;simp only [cn4,Ob.dp.injEq] at S;subst S;obtain ⟨b,es,clock,ns,hN,h1,h2,⟨h3,h3c,h3b⟩,h4,h5,h6,h7⟩:=Q;have J:=bg7 hN hv f;obtain ⟨z,W,X⟩:=bE8 (w:=w) hE c2 c3 (Live β s.h);have m:z=.slice none 0 0:=by
   split at I
   .rename_i zc Y;obtain ⟨i,L,hi,Z,p,_⟩:=ay4 Y;have hzz:z=L:=by
     have:(zeroValue V).run E.P w=.ok L w:=by simp [zeroValue,typeInfo,hi,Z]
     rw [this] at W;simpa using W.symm
    subst hzz;obtain ⟨vs,p1,p2,p3,p4⟩:=X;have hzf:∃ A c,z=.slice A 0 c:=by
     match vs,p2 with
     |[u],_=>
      have p1:z=u:=p1;subst p1;have hr:=p4 0 ⟨.slice el t',[]⟩ z rfl rfl;generalize hd:(⟨.slice el t',[]⟩:Datum U)=d at hr;cases hr with
      |nil=>exact ⟨_,_,rfl⟩
      |slice e2 t2 l2 _ _ _ _ h0=>cases hd;simp at h0
      |_=>cases hd
    obtain ⟨A,c,rfl⟩:=hzf;have p:[zc]=[T5 (.slice A 0 c)]:=p;simp only [List.cons.injEq,and_true] at p;rw [p] at I;exact aB7 I
   .cases I
  have B:(Instr.checkKey es.isEmpty 10000 K kv).run E.P w=.ok () w:=ao0 c1 g _;have C:=aY0 (P:=E.P) c1 g ([]:List (den U.T t')) (l:=l) (es:=es.toList) (by simpa using h3) (λi x en J hen=>by
   have hil:=(cn9.1 J).1;have hin:ns[i]? =some ns[i]:=cn6 (by omega);exact (h5 i x en _ J (by simpa using hen) hin).1)
  have G:∃ val,(Instr.lookup t (.map (some b)) kv false).run E.P w=.ok val w/\val.oneCell'=true/\((∃ i,midx kt l k=some i/\ns[i]? =some val)\/midx kt l k=none/\val=.slice none 0 0):=by
   rcases C with ⟨M,f2,f3,f4⟩|⟨j,en,xx,f0,M,f2,f3,f4,f5,f6⟩
   .refine ⟨z,?_,by rw [m];rfl,.inr ⟨f2,m⟩⟩;simp [Instr.lookup,run_underlying hu,MapKept.run_getObj_map h2,B,M,W]
   .have hjl:=(cn9.1 M).1;have H:ns[j]? =some ns[j]:=cn6 (by omega);obtain ⟨_,_,q3⟩:=h5 j xx en _ M (by simpa using f0) H;obtain ⟨r1,ys,r2,_⟩:=q3 (by rintro ⟨_,hh,_⟩;cases hh);refine ⟨en.val,?_,by rw [<-r1];exact ad8 r2,.inl ⟨j,f4,by rw [<-r1];exact H⟩⟩;simp [Instr.lookup,run_underlying hu,MapKept.run_getObj_map h2,B,f3]
  obtain ⟨val,L,v2,v3⟩:=G;refine Does.pure (n:=n) R rfl (v:=val) ?_ (CsRel.one v2 ⟨_,hl,Nat.le_refl _,λ_=>⟨k,_,rfl,hN,?_⟩⟩)
  .simp [execOp,N,J,O,L]
  .rcases v3 with ⟨i,h8,h9⟩|h8
   .refine .inl ⟨i,h8,?_⟩;rw [Nat.add_comm 1];simpa using h9
   .exact .inr h8
theorem bF0 {kt:Ty} {el:TypeId} {t:Ty} {l l':List (den U.T kt×List (den U.T t))} {ver iv:Nat} {lv lv':Bool} {hole b:Option (den U.T kt)} {root:Value} {ns ns':List Value} (c:DC U) (v:Value)
  (a:DCRel (.maps kt el t l ver iv lv hole) (.tuple (root::ns).toArray) c v):DCRel (.maps kt el t l' ver (iv+1) lv' b) (.tuple (root::ns').toArray) c v:=by
 cases c with
 |self v0=>refine ⟨a.1,λe=>?_⟩;obtain ⟨vs,h1,h2⟩:=a.2 e;have:=G1 h1;subst this;exact ⟨_,rfl,by simpa using h2⟩
 |key v0 d=>exact ⟨Nat.le_succ_of_le a.1,λe=>by have:=a.1;omega⟩
 |elt=>exact a
 |inn=>exact a
 |iat=>exact a
 |it=>exact a
theorem aC4 (k:Ok F w β h) {id fid:Nat} (hf:look fid h=none) (R:id≠fid) {kt:Ty} {el:TypeId} {t:Ty} {l:List (den U.T kt×List (den U.T t))} {ver iv:Nat} (hl:look id h=some (.dp (.maps kt el t l ver iv true none))) {key:den U.T kt}
  {v:Value} (hv:(∃ (i:Nat) (vs:Array Value),midx kt l key=some i/\β id=.tuple vs/\vs[1+i]? =some v)\/midx kt l key=none/\v=.slice none 0 0)
  {w':World} (e:w.grownBy w' v.ownBlock) {v':Value} (S:v'.ownBlock=v.ownBlock\/v'.ownBlock=some w.heap.size) {zs:List Value} {K:List (den U.T t)} (D:Owns w' F.B el (szOf U t) v' K.length zs) (hlm:K.length<=most) (h1c:∀ u∈zs,u.oneCell'=true) (hel:Els w β h t K zs):
  ∃ β',β' fid=v'/\After F w β h w' β' (upds h [(id,.dp (.maps kt el t l ver (iv+1) true (some key))),(fid,.row el t K 0 true)]):=by
 have hdr:DRel F.B w β h (.maps kt el t l ver iv true none) (β id):=k.obj id _ hl;obtain ⟨b,es,clock,ns,I,k1,k2,k3,k4,k5,k6,k7⟩:=hdr;have hnu:D5 undef=none:=rfl;have V:=Q0 D
 --the names that are left
 obtain ⟨ns2,hlen2,W,X,y,P⟩:∃ ns2:List Value,ns2.length=ns.length/\(∀ i:Nat,i<ns.length->(midx kt l key=some i/\ns2[i]? =some undef)\/(midx kt l key≠some i/\ns2[i]? =ns[i]?))/\D5 v=v.ownBlock/\
   (∀ (p:Nat) (n:Value) (b:Nat),ns2[p]? =some n->D5 n=some b->ns[p]? =some n/\D5 v≠some b)/\(∀ g,D5 v=some g->g≠b/\∃ p:Nat,ns[p]? =some v):=by
  rcases hv with ⟨i,vs,h1,h2,h3⟩|⟨h1,h2⟩
  .rw [I] at h2;have:=G1 h2;subst this;have E:ns[i]? =some v:=by
    rw [Nat.add_comm 1] at h3;simpa using h3
   have L:=(cn9.1 E).1;have hxl:l[i]? =some l[i]:=cn6 (by omega);have Y:es[i]? =some es[i]:=cp1 (by omega);obtain ⟨_,_,q3⟩:=k5 i _ _ v hxl Y E;obtain ⟨_,ys,y1,_⟩:=q3 (by rintro ⟨_,s,_⟩;cases s);refine ⟨ns.set i undef,by simp,λj hj=>?_,Q0 y1,λp n' g H hb=>?_,λg hg=>⟨λs=>k7 i v E (by rw [hg,s]),i,E⟩⟩
   .by_cases Q:i=j
    .subst Q;exact .inl ⟨h1,by rw [cp9,if_pos rfl,if_pos L]⟩
    .exact .inr ⟨λs=>Q (by rw [h1] at s;simpa using s),by rw [cp9,if_neg Q]⟩
   .rw [cp9] at H;split at H
    .simp only [if_pos L,cn4] at H;rw [<-H,hnu] at hb;cases hb
    .rename_i s;exact ⟨H,λhh2=>s (k6 i p v n' g E H hh2 hb)⟩
  .subst h2;exact ⟨ns,rfl,λi hi=>.inr ⟨by rw [h1];simp,rfl⟩,rfl,λp n' g H hb=>⟨H,by simp [D5]⟩,λg hg=>by simp [D5] at hg⟩
 let N2:Value:=.tuple ((.map (some b):Value)::ns2).toArray
 let β':Nm:=⟨λq=>if q=id then N2 else if q=fid then v' else β q,β.M,β.lp⟩
 have hβid:β' id=N2:=by simp [β']
 have hβf:β' fid=v':=by simp [β',Ne.symm R]
 have Z:∀ g,Has N2 g->Has (β id) g/\D5 v≠some g:=by
  intro g hg;rw [I];rcases C3.1 hg with h3|⟨p,n',h3,h4⟩
  .refine ⟨C3.2 (.inl h3),λh5=>?_⟩;simp only [D5,cn4] at h3;exact (P g h5).1 h3.symm
  .obtain ⟨h5,h6⟩:=y p n' g h3 h4;exact ⟨C3.2 (.inr ⟨p,n',h5,h4⟩),h6⟩
 have N:∀ g,D5 v=some g->Has (β id) g:=λg hg=>by obtain ⟨_,p,H⟩:=P g hg;rw [I];exact C3.2 (.inr ⟨p,v,H,hg⟩)
 have A:∀ g,g<w.heap.size->D5 v≠some g->w'.heap[g]? =w.heap[g]? :=λg hg J=>e.block g hg (λs=>J (by rw [X];exact s.symm));have hf':∀ g,Has v' g->D5 v=some g\/g=w.heap.size:=by
  intro g hg;have hg:=D.has' hg;rw [V] at hg;rcases S with h6|h6
  .left;rw [X,<-h6];exact hg
  .right;rw [h6] at hg;simpa using hg.symm
 have f:∀ {q:Nat} {o:Ob U},(q,o)∈[(id,Ob.dp (.maps kt el t l ver (iv+1) true (some key))),(fid,Ob.row el t K 0 true)]->(q=id/\o=.dp (.maps kt el t l ver (iv+1) true (some key)))\/(q=fid/\o=.row el t K 0 true):=by intro q o z;simpa using z
 refine ⟨β',hβf,P2 k (by simpa using R) ?_ e.os e.tape e.output e.size ?_ rfl ?_ rfl ?_ ?_ ?_ ?_ ?_⟩
 .intro q o ob z m;rcases f z with ⟨rfl,rfl⟩|⟨rfl,rfl⟩
  .rw [hl] at m;simp only [cn4] at m;subst m;rfl
  .rw [hf] at m;cases m
 .intro g hg J;exact A g hg (λs=>J id (.dp (.maps kt el t l ver (iv+1) true (some key))) _ (by simp) hl (N g s))
 .intro q z;have h2:q≠id:=λs=>z (.dp (.maps kt el t l ver (iv+1) true (some key))) (by simp [s]);have h3:q≠fid:=λs=>z (.row el t K 0 true) (by simp [s]);simp [β',h2,h3]
 .intro q o g z hg;rcases f z with ⟨rfl,rfl⟩|⟨rfl,rfl⟩
  .rw [hβid] at hg;exact .inl ⟨q,.dp (.maps kt el t l ver (iv+1) true (some key)),_,by simp,hl,(Z g hg).1⟩
  .rw [hβf] at hg;rcases hf' g hg with h3|h3
   .exact .inl ⟨id,.dp (.maps kt el t l ver (iv+1) true (some key)),_,by simp,hl,N g h3⟩
   .right;omega
 .intro q o q' o' g z hq' hg C;have no:∀ g,Has N2 g->Has v' g->False:=by
   intro g hg C;obtain ⟨h2,h3⟩:=Z g hg;rcases hf' g C with h4|h4
   .exact h3 h4
   .have:=((k.obj id _ hl).blk h2).2;omega
  rcases f z with ⟨rfl,rfl⟩|⟨rfl,rfl⟩<;>rcases f hq' with ⟨rfl,rfl⟩|⟨rfl,rfl⟩
  .rfl
  .rw [hβid] at hg;rw [hβf] at C;exact (no g hg C).elim
  .rw [hβf] at hg;rw [hβid] at C;exact (no g C hg).elim
  .rfl
 .intro q o ob z m;rcases f z with ⟨rfl,rfl⟩|⟨rfl,rfl⟩
  .rw [hl] at m;simp only [cn4] at m;subst m;rw [hβid,I];intro c v hv;exact bF0 c v hv
  .rw [hf] at m;cases m
 .intro q o z;rcases f z with ⟨rfl,rfl⟩|⟨rfl,rfl⟩<;>rfl
 .intro xx q o z;rcases f z with ⟨rfl,rfl⟩|⟨rfl,rfl⟩
  .suffices kk:DRel F.B w' β' (upds h [(q,.dp (.maps kt el t l ver (iv+1) true (some key))),(fid,.row el t K 0 true)]) (.maps kt el t l ver (iv+1) true (some key)) N2 by
    rw [<-hβid] at kk;exact kk
   refine ⟨b,es,clock,ns2,rfl,k1,?_,k3,by omega,λi x en n' hx hen J=>?_,λp q a c g ha hc G hcb=>?_,λp a ha G=>?_⟩
   .rw [A b (cp2.1 k2).1 (λs=>(P b s).1 rfl)];exact k2
   .have hil:=(cn9.1 hx).1;have hin:ns[i]? =some ns[i]:=cn6 (by omega);obtain ⟨q1,_,q3⟩:=k5 i x en _ hx hen hin;refine ⟨q1.by (λd v r=>xx.rep r),?_,λs=>?_⟩
    .rintro ⟨k',hk',hmi⟩;simp only [cn4] at hk';subst hk';rcases W i (by omega) with ⟨_,O⟩|⟨O,_⟩
     .rw [J] at O;simpa using O
     .exact absurd hmi O
    .rcases W i (by omega) with ⟨O,_⟩|⟨_,O⟩
     .exact absurd ⟨key,rfl,O⟩ s
     .have hn0:=J;rw [O,hin] at J;simp only [cn4] at J;obtain ⟨r1,r2⟩:=q3 (by rintro ⟨_,s,_⟩;cases s);rw [J] at r1 r2;refine ⟨r1,r2.map (λd v r=>xx.rep r) (λg hg=>A g ?_ (y i n' g hn0 hg).2)⟩;obtain ⟨zs,z1,_⟩:=r2;exact (z1.lt hg).2
   .exact k6 p q a c g (y p a g ha G).1 (y q c g hc hcb).1 G hcb
   .exact k7 p a (y p a b ha G).1 G
  .exact ⟨zs,by rw [hβf];exact D,hlm,h1c,Els.ext xx hel⟩
theorem Does.appendMs (hE:E.Fits) (R:Rel F n β s tmps w) {c:Call} {x y:Operand} (hop:o.op=.call c) (hc:c.callee=.builtin .append) (hx:c.args.toList=[x,y]) {ty el:TypeId} (J:c.argTypes=#[ty,ty]) (hu:E.P.underlying ty=some (.slice el)) {t:Ty} (hcd:E.code el=some t)
  {id v0:Nat} {dk:Datum U} {v:PV U} (r:PRel w β s.h s.σ (.one (.dc id (.key v0 dk))) (ρ x)) (q:PRel w β s.h s.σ v (ρ y)) {ids:List Nat} (a:Z4 E (sub s.h ids) o.dst el t id v0 dk v=some e)
  (A:e.Obl) (hf:look (B3 o.dst 0) s.h=none):Does E.P F β s ρ w o e:=by
 obtain ⟨i,z,hi,hsz,hz,hzs,K,L,hz1c,_⟩:=hE.code _ _ hcd;have M:N5 E.P el=i.bytes:=by simp [N5,Program.bytesOf,hi]
 have C:c.args.map ρ=#[ρ x,ρ y]:=by apply Array.toList_inj.1;simp [hx]
 unfold Z4 at a;split at a
 case h_2=>cases a
 rename_i cy;split at a
 case h_2=>cases a
 rename_i dm u hd;split at a
 case h_2=>cases a
 rename_i m hm;have hdm:=Datum.as_eq hm;subst hdm;obtain ⟨D,_⟩:=J9 hd;have A1:=H8 R.ok D;have N:=aj9 R.ok hd q.inv.2 D (λ_ hx=>hx);split at a
 case h_2=>cases a
 rename_i kt e' t' l ver iv hl;split at a
 case h_2=>cases a
 rename_i key f;have f:=Datum.as_eq f;subst f;revert a;cases G:(Nat.beq v0 iv&&(el==e')) with
 |false=>intro a;cases a
 |true=>
  intro a;simp only [cond_true] at a;simp only [cn7,beq_iff_eq] at G;have O:=cn5 G.1;split at a
  case h_2=>cases a
  rename_i Q d;have d:=Datum.as_eq d;simp only [Sigma.mk.injEq,Ty.slice.injEq] at d;obtain ⟨⟨_,rfl⟩,d⟩:=d;have S:(mget (E6 U kt) l key).getD []=Q:=eq_of_heq d;clear d;obtain rfl:=G.2;split at a
  case isFalse=>cases a
  rename_i g;simp only [cn7,Bool.not_eq_true'] at g;have hne:id≠B3 o.dst 0:=λhh=>by have:=g.2;rw [hh,Nat.beq_refl] at this;cases this
  simp only [cn4] at a;subst a;have hl:=C1 hl;have T:∀ ob,(id,ob)∉u:=λob hm=>by have:=cq4.1 g.1 _ hm;simp at this
  have V:look id (upds s.h u)=some (.dp (.maps kt el t' l ver iv true none)):=by rw [B6 T];exact hl
  obtain ⟨D',H,hv⟩:=r.inv.2;rw [hl] at H;simp only [cn4,Ob.dp.injEq] at H;subst H;obtain ⟨k',vs,W,hN,X⟩:=hv.2 O;simp only [Sigma.mk.injEq,heq_eq_eq,true_and] at W;subst W
  --the slice at the key
  have Y:RowC F.B w (Live β (upds s.h u)) el t' Q (ρ x):=by
   have ho:DRel F.B w β (upds s.h u) (.maps kt el t' l ver iv true none) (β id):=A1.obj id _ V;obtain ⟨b,es,clock,ns,hN',k1,k2,k3,k4,k5,k6,k7⟩:=ho;rcases X with ⟨j,h1,h2⟩|⟨h1,h2⟩
   .rw [hN'] at hN;have:=G1 hN;subst this;have Z:ns[j]? =some (ρ x):=by
     rw [Nat.add_comm 1] at h2;simpa using h2
    have hpl:=(cn9.1 Z).1;have hxl:l[j]? =some l[j]:=cn6 (by omega);obtain ⟨_,_,q3⟩:=k5 j _ es[j] _ hxl (cp1 (by omega)) Z;have h3:=(q3 (by rintro ⟨_,hh,_⟩;cases hh)).2;have:Q=l[j].2:=by rw [<-S,bR7 h1 hxl];rfl
    rw [this];exact h3
   .have:Q=[]:=by rw [<-S,aY1 h1];rfl
    rw [this,h2];exact ⟨[],Owns.of (World.ownsRow_nil _ _ _ _),by simp [most],by simp,λi y hy=>by simp at hy⟩
  obtain ⟨xs,p,hmost,h1c,hel⟩:=Y;rw [M] at A;obtain ⟨v',w',ys,hrun,k,I,hblk,hy1,hye⟩:=ag7 (P:=E.P) (ty:=o.type) (c:=t') hu hi hz hsz hzs K L A1.hB p N A;have hlen:(Q++m).length<=most:=by rw [cp5];exact Nat.le_trans (Nat.le_mul_of_pos_right _ L) A
  obtain ⟨β',hβf,A2⟩:=aC4 A1.ok (D.none hf) hne V (key:=key) (v:=ρ x) (by
    rcases X with ⟨j,h1,h2⟩|h1
    .exact .inl ⟨j,vs,h1,hN,h2⟩
    .exact .inr h1) I hblk k hlen (λu hu=>by
   rcases cq1.1 hu with h6|h6
   .exact h1c u h6
   .exact hy1 u h6) (ag6 p.1 hel hye)
  refine ⟨v',w',β',.inl ?_,?_,?_⟩
  .refine H3 hop hc ?_;rw [C,J];simp [builtin,hrun]
  .dsimp only;rw [C6];exact A1.trans A2
  .dsimp only;rw [C6];exact ad7 (by show look _ (write _ _ _)=_;exact A9 _ _ _) hβf (ad8 k) _
theorem bg8 (k:Ok F w β h) {id r:Nat} (V:r≠id) {kt:Ty} {el:TypeId} {t:Ty} {l:List (den U.T kt×List (den U.T t))} {ver iv vr:Nat} {key:den U.T kt} (hl:look id h=some (.dp (.maps kt el t l ver iv true (some key)))) {l':List (den U.T t)} (hr:look r h=some (.row el t l' vr true))
  {b:Nat} {es:Array MapEntry} {clock:Nat} {ns:List Value} (E:β id=.tuple ((.map (some b):Value)::ns).toArray) (K:w.heap[b]? =some (.map es clock)) {kv:Value} (hkv:VIs w (Live β h) kt key kv) {es':Array MapEntry} {clock':Nat} {H:List (den U.T kt×List (den U.T t))}
  (W:(midx kt l key=none/\H=l++[(key,l')]/\es'=es.push { key:=kv,val:=β r,born:=clock }/\clock'=clock+1)\/
   ∃ j,midx kt l key=some j/\j<l.length/\H=l.set j (key,l')/\es'=es.modify j (λe=>{ e with key:=kv,val:=β r })/\clock'=clock):
  ∃ β',After F w β h { w with heap:=w.heap.setIfInBounds b (.map es' clock') } β' (upds h [(r,.row el t [] (vr+1) true),(id,.dp (.maps kt el t H ver (iv+1) true none))]):=by
 have hdr:DRel F.B w β h (.maps kt el t l ver iv true (some key)) (β id):=k.obj id _ hl;have Q:RowC F.B w (Live β h) el t l' (β r):=k.obj r _ hr;obtain ⟨b2,es2,clock2,ns2,R,k1,k2,⟨k3,k3c,k3b⟩,k4,k5,k6,k7⟩:=hdr;rw [E] at R;have h9:=congrArg Array.toList (G1 R);simp only [List.cons.injEq,Value.map.injEq,cn4] at h9;obtain ⟨h9a,h9b⟩:=h9;subst b2;subst ns2;rw [K] at k2;simp only [cn4,Obj.map.injEq] at k2;obtain ⟨k2a,k2b⟩:=k2;subst es2;subst clock2;have hnu:D5 undef=none:=rfl;have A:∀ g,D5 (β r)=some g->Has (β r) g:=by obtain ⟨ys,y1,_⟩:=Q;exact λg hg=>y1.has hg
 have X:∀ g,Has (β r) g->¬ Has (β id) g:=λg hg hg2=>V (k.dis r _ id _ g hr hl hg hg2);have hbl:b<w.heap.size:=(cp2.1 K).1;have C:∀ g,g≠b->({ w with heap:=w.heap.setIfInBounds b (.map es' clock') }:World).heap[g]? =w.heap[g]? :=λg hg=>by simp [Ne.symm hg]
 --the parts,as they are then
 obtain ⟨ns3,hn3,O,P,hes',hck,Y⟩:∃ ns3:List Value,ns3.length=H.length/\
   (∀ (i:Nat) (x:den U.T kt×List (den U.T t)) (en:MapEntry) (n:Value),H[i]? =some x->es'[i]? =some en->ns3[i]? =some n->(x=(key,l')/\en.key=kv/\en.val=β r/\n=β r/\∀ m,ns[i]? =some m->D5 m=none)\/(l[i]? =some x/\es[i]? =some en/\ns[i]? =some n/\midx kt l key≠some i))/\
   (∀ (i:Nat) (n:Value),ns3[i]? =some n->(n=β r/\∀ Z n2,ns3[Z]? =some n2->Z=i\/ns[Z]? =some n2)\/ns[i]? =some n)/\es'.size=H.length/\clock'=es'.size/\∀ (i:Nat) (e:MapEntry),es'[i]? =some e->e.born=i:=by
  rcases W with ⟨h1,rfl,rfl,rfl⟩|⟨j,h1,hj,rfl,rfl,rfl⟩
  .refine ⟨ns++[β r],by simp [k4],λi x en n G f s=>?_,λi n s=>?_,by simp [k3],by simp [k3c],λi e L=>?_⟩
   .rcases Nat.lt_trichotomy i l.length with S|S|S
    .rw [cp4 S] at G;rw [cp4 (by omega)] at s;rw [Array.getElem?_push,if_neg (by omega)] at f;exact .inr ⟨G,f,s,by rw [h1];simp⟩
    .subst S;rw [cp3 (by omega),Nat.sub_self] at G;rw [cp3 (by omega),k4,Nat.sub_self] at s;rw [Array.getElem?_push,if_pos (by omega)] at f;simp only [co2,cn4] at G s f;subst G;subst s;subst f;exact .inl ⟨rfl,rfl,rfl,rfl,λm hm=>by rw [List.getElem?_eq_none (by omega)] at hm;cases hm⟩
    .rw [List.getElem?_eq_none (by simp;omega)] at G;cases G
   .by_cases S:i<ns.length
    .rw [cp4 S] at s;exact .inr s
    .have hi2:i<(ns++[β r]).length:=(cn9.1 s).1;have hi3:i=ns.length:=by simp at hi2;omega
     subst hi3;rw [cp3 (by omega),Nat.sub_self] at s;simp only [co2,cn4] at s;refine .inl ⟨s.symm,λZ n2 h2=>?_⟩;have hi4:Z<(ns++[β r]).length:=(cn9.1 h2).1;by_cases h5:Z<ns.length
     .rw [cp4 h5] at h2;exact .inr h2
     .simp at hi4;exact .inl (by omega)
   .rw [Array.getElem?_push] at L;split at L
    .rename_i S;simp only [cn4] at L;subst L;rw [S];exact k3c
    .exact k3b i e L
  .have hjn:j<ns.length:=by omega
   have hjl:l[j]? =some l[j]:=cn6 hj;refine ⟨ns.set j (β r),by simp [k4],λi x en n G f s=>?_,λi n s=>?_,by simp [k3],by simpa using k3c,λi e L=>?_⟩
   .rw [cp9] at G s;rw [Array.getElem?_modify] at f;by_cases N:j=i
    .subst N;simp only [if_pos,if_pos hj,if_pos hjn,cn4] at G s;subst G;subst s;rw [if_pos rfl] at f;simp only [co1] at f;obtain ⟨e0,he0,rfl⟩:=f;refine .inl ⟨rfl,rfl,rfl,rfl,λm hm=>?_⟩;rw [(k5 j _ e0 m hjl he0 hm).2.1 ⟨key,rfl,h1⟩];exact hnu
    .rw [if_neg N] at G s f;exact .inr ⟨G,f,s,by rw [h1];simpa using N⟩
   .rw [cp9] at s;split at s
    .rename_i N;subst N;simp only [cn4] at s;refine .inl ⟨s.symm,λZ n2 h2=>?_⟩;rw [cp9] at h2;split at h2
     .rename_i h3;exact .inl h3.symm
     .exact .inr h2
    .exact .inr s
   .rw [Array.getElem?_modify] at L;split at L
    .simp only [co1] at L;obtain ⟨e0,he0,rfl⟩:=L;exact k3b i e0 he0
    .exact k3b i e L
 let N2:Value:=.tuple ((.map (some b):Value)::ns3).toArray
 let β':Nm:=⟨λq=>if q=id then N2 else if q=r then .slice none 0 0 else β q,β.M,β.lp⟩
 have hβid:β' id=N2:=by simp [β']
 have hβr:β' r=.slice none 0 0:=by simp [β',V]
 have z:∀ {q:Nat} {o:Ob U},(q,o)∈[(r,Ob.row el t [] (vr+1) true),(id,Ob.dp (.maps kt el t H ver (iv+1) true none))]->(q=r/\o=.row el t [] (vr+1) true)\/(q=id/\o=.dp (.maps kt el t H ver (iv+1) true none)):=by intro q o D;simpa using D
 have hNb:Has (β id) b:=by rw [E];exact C3.2 (.inl rfl)
 refine ⟨β',P2 k (by simpa using V) ?_ rfl rfl rfl (by simp) ?_ rfl ?_ rfl ?_ ?_ ?_ ?_ ?_⟩
 .intro q o ob D u;rcases z D with ⟨rfl,rfl⟩|⟨rfl,rfl⟩
  .rw [hr] at u;simp only [cn4] at u;subst u;rfl
  .rw [hl] at u;simp only [cn4] at u;subst u;rfl
 .intro g hg s;exact C g (λI=>s id (.dp (.maps kt el t H ver (iv+1) true none)) _ (by simp) hl (by rw [I];exact hNb))
 .intro q D;have h2:q≠id:=λI=>D (.dp (.maps kt el t H ver (iv+1) true none)) (by simp [I]);have h3:q≠r:=λI=>D (.row el t [] (vr+1) true) (by simp [I]);simp [β',h2,h3]
 .intro q o g D hg;rcases z D with ⟨rfl,rfl⟩|⟨rfl,rfl⟩
  .rw [hβr] at hg;exact (U0 hg).elim
  .rw [hβid] at hg;left;rcases C3.1 hg with h3|⟨p,n',h3,h4⟩
   .exact ⟨q,.dp (.maps kt el t H ver (iv+1) true none),_,by simp,hl,by rw [E];exact C3.2 (.inl h3)⟩
   .rcases P p n' h3 with ⟨rfl,_⟩|h5
    .exact ⟨r,.row el t [] (vr+1) true,_,by simp,hr,A g h4⟩
    .exact ⟨q,.dp (.maps kt el t H ver (iv+1) true none),_,by simp,hl,by rw [E];exact C3.2 (.inr ⟨p,n',h5,h4⟩)⟩
 .intro q o q' o' g D hq' hg hg';rcases z D with ⟨rfl,rfl⟩|⟨rfl,rfl⟩<;>rcases z hq' with ⟨rfl,rfl⟩|⟨rfl,rfl⟩
  .rfl
  .rw [hβr] at hg;exact (U0 hg).elim
  .rw [hβr] at hg';exact (U0 hg').elim
  .rfl
 .intro q o ob D u;rcases z D with ⟨rfl,rfl⟩|⟨rfl,rfl⟩
  .rw [hr] at u;simp only [cn4] at u;subst u;exact ⟨rfl,rfl,by omega,λhh2=>by omega⟩
  .rw [hl] at u;simp only [cn4] at u;subst u;rw [hβid,E];intro c v hv;exact bF0 c v hv
 .intro q o D;rcases z D with ⟨rfl,rfl⟩|⟨rfl,rfl⟩<;>rfl
 .intro xx q o D;rcases z D with ⟨rfl,rfl⟩|⟨rfl,rfl⟩
  .exact ⟨[],by rw [hβr];exact Owns.of (World.ownsRow_nil _ _ _ _),by simp [most],by simp,λi y hy=>by simp at hy⟩
  .suffices kk:DRel F.B { w with heap:=w.heap.setIfInBounds b (.map es' clock') } β' (upds h [(r,.row el t [] (vr+1) true),(q,.dp (.maps kt el t H ver (iv+1) true none))]) (.maps kt el t H ver (iv+1) true none) N2 by
    rw [<-hβid] at kk;exact kk
   have hvb:∀ g,D5 (β r)=some g->g≠b:=λg hg I=>X g (A g hg) (by rw [I];exact hNb);refine ⟨b,es',clock',ns3,rfl,k1,by simp [hbl],⟨hes',hck,Y⟩,hn3,λi x en n' G f s=>?_,λp q2 a c g ha hc J hcb=>?_,λp a ha J=>?_⟩
   .rcases O i x en n' G f s with ⟨rfl,h1,h2,rfl,_⟩|⟨h1,h2,h3,h4⟩
    .refine ⟨?_,(by rintro ⟨_,I,_⟩;cases I),λ_=>⟨h2.symm,Q.map (λd v r=>xx.rep r) (λg hg=>C g (hvb g hg))⟩⟩;rw [h1];exact hkv.by (λd v r=>xx.rep r)
    .obtain ⟨q1,q2,q3⟩:=k5 i x en n' h1 h2 h3;refine ⟨q1.by (λd v r=>xx.rep r),(by rintro ⟨_,I,_⟩;cases I),λ_=>?_⟩;obtain ⟨r1,r2⟩:=q3 (by
      rintro ⟨k',hk',hm⟩;simp only [cn4] at hk';subst hk';exact h4 hm)
     exact ⟨r1,r2.map (λd v r=>xx.rep r) (λg hg=>C g (λI=>k7 i n' h3 (by rw [hg,I])))⟩
   .rcases P p a ha with ⟨rfl,h1⟩|h1
    .rcases h1 q2 c hc with h2|h2
     .exact h2.symm
     .exact (X g (A g J) (by rw [E];exact C3.2 (.inr ⟨q2,c,h2,hcb⟩))).elim
    .rcases P q2 c hc with ⟨rfl,h2⟩|h2
     .exact (X g (A g hcb) (by rw [E];exact C3.2 (.inr ⟨p,a,h1,J⟩))).elim
     .exact k6 p q2 a c g h1 h2 J hcb
   .rcases P p a ha with ⟨rfl,_⟩|h1
    .exact hvb b J rfl
    .exact k7 p a h1 J
theorem Does.putMs (hE:E.Fits) (R:Rel F n β s tmps w) {t:TypeId} {x y z:Operand} (T:o.op=.mapUpdate t x y z) {id v0:Nat} {v p:PV U} (r:PRel w β s.h s.σ (.one (.dc id (.self v0))) (ρ x)) (q:PRel w β s.h s.σ v (ρ y)) (rz:PRel w β s.h s.σ p (ρ z))
  {ids:List Nat} (c:ax9 E (sub s.h ids) t id v0 v p=some e) (B:e.Obl):Does E.P F β s ρ w o e:=by
 unfold ax9 at c;split at c
 case h_2=>cases c
 rename_i kt el t' l ver iv k' rid vr hl;split at c
 case h_2=>cases c
 rename_i e2 t2 l2 vr' hr;split at c
 case h_2=>cases c
 rename_i K V hu;revert c;cases J:(Nat.beq v0 ver&&L3 U E.P K kt&&(Nat.beq vr vr'&&!(Nat.beq rid id))) with
 |false=>intro c;cases c
 |true=>
  intro c;simp only [cond_true] at c;simp only [cn7,Bool.not_eq_true'] at J;obtain ⟨⟨d,O⟩,C,m⟩:=J;have d:=cn5 d;have C:=cn5 C;have m:rid≠id:=λhh=>by rw [hh,Nat.beq_refl] at m;cases m
  split at c
  case h_2=>cases c
  rename_i k f hk g;have g:=Datum.as_eq g;cases g;simp only [cn4] at c;subst c;have B:k'=k:=B;subst B;have a:=ao1 hk q;generalize W:ρ y=kv at a;have hl:=C1 hl;have hr:=C1 hr;have L:=R.obj id _ hl;obtain ⟨D',X,hv⟩:=r.inv.2;rw [hl] at X;simp only [cn4,Ob.dp.injEq] at X;subst X;obtain ⟨b,es,clock,ns,hN,h1,h2,⟨h3,h3c,h3b⟩,h4,h5,h6,h7⟩:=L;have Q:=bg7 hN hv d;have hz:ρ z=β rid:=by obtain ⟨_,_,_,_,_,D,_,Y⟩:=rz.inv.2;rw [hr] at D;simp only [cn4,Ob.row.injEq] at D;exact Y (C.trans D.2.2.2.1)
  have u:(Instr.checkKey false 10000 K kv).run E.P w=.ok () w:=ao0 O a _;have G:=aY0 (P:=E.P) O a f (l:=l) (es:=es.toList) (by simpa using h3) (λi x en Q Z=>by
   have hil:=(cn9.1 Q).1;have hin:ns[i]? =some ns[i]:=cn6 (by omega);exact (h5 i x en _ Q (by simpa using Z) hin).1)
  obtain ⟨es',clock',M,H⟩:∃ es' clock',(Instr.mapUpdate t (.map (some b)) kv (β rid)).run E.P w=.ok () { w with heap:=w.heap.setIfInBounds b (.map es' clock') }/\
    ((midx kt l k'=none/\mput (E6 U kt) l k' f=l++[(k',f)]/\es'=es.push { key:=kv,val:=β rid,born:=clock }/\clock'=clock+1)\/
   ∃ j,midx kt l k'=some j/\j<l.length/\mput (E6 U kt) l k' f=l.set j (k',f)/\es'=es.modify j (λe=>{ e with key:=kv,val:=β rid })/\clock'=clock):=by
   rcases G with ⟨S,f2,f3,f4⟩|⟨j,en,xx,f0,S,f2,f3,f4,f5,f6⟩
   .refine ⟨_,_,?_,.inl ⟨f2,f4,rfl,rfl⟩⟩;simp [Instr.mapUpdate,run_underlying hu,MapKept.run_getObj_map h2,u,S,MapKept.run_setObj_map _ h2]
   .have hjl:=(cn9.1 S).1;refine ⟨_,_,?_,.inr ⟨j,f4,hjl,f6,rfl,rfl⟩⟩;have hjn:ns[j]? =some ns[j]:=cn6 (by omega);have I:=bq0 (P:=E.P) O a (h5 j xx en _ S (by simpa using f0) hjn).1 f2;have N:j<es.size:=by omega
    have hes:es[j]=en:=by
     have:es[j]? =some en:=by simpa using f0
     rw [cp1 N] at this;simpa using this
    have hst:=aX9 (P:=E.P) (w:=w) O a;simp [Instr.mapUpdate,run_underlying hu,MapKept.run_getObj_map h2,u,f3,cp1 N,hes,I,hst,MapKept.run_setObj_map _ h2]
  obtain ⟨β',A⟩:=bg8 R.ok m hl hr hN h2 a H;refine ⟨undef,_,β',.inr ⟨?_,rfl⟩,A,trivial⟩;simp [execOp,T,Q,W,hz,M]
end
end Go.VT
end
section
namespace Go.VT
noncomputable section
open Go.RowKit
variable {U:Univ} {E:Env U} {F:Fr} {n:Nat} {β:Nm} {s:St U} {a:Act} {w:World} {o:Oper} {e:Eff U} {h:Obs U}
def Then (F:Fr) (w:World) (β:Nm) (s:St U) (e:Eff U) (a:Act) (o:Oper) (K:Act->World->Prop):Prop:=
 ∀ v w' β',After F w β s.h w' β' (upds s.h e.upd)->PRel w' β' (upds s.h e.upd) s.σ e.val v->K (a.put o.dst v) w'
theorem aC5 {ro:Option Nat} {P:Program} {f:FuncId} {args:Array Value} {w:World} {R:Ending->World->Prop} (h:CallsIn (fen P none) 0 P f args w R):CallsIn (fen P ro) 0 P f args w R:=h
theorem ad9 {P:Program} {ro:Option Nat} {q:Prop}:(fen P ro).depth.isSome=true->q:=λh=>by cases h
def ac0 (P:Program) (w:World) (a:Act) (o:Oper):Prop:=∀ f,o.about P w a.eval=some f->(P.funcs[f]?).isSome=true
theorem I4 {P:Program} (h:∀ c,o.op=.call c->∃ b,c.callee=.builtin b):ac0 P w a o:=by
 intro f hf;unfold Oper.about at hf;split at hf
 .rename_i c d;obtain ⟨b,e⟩:=h c d;simp [resolve,e,Target.leads] at hf
 .cases hf
theorem ar2 {ro:Option Nat} {P:Program} {K:Act->World->Prop} {Q:Exit->Act->World->Prop} (b:ac0 P w a o) (d:∀ c,o.op≠.defer c) (h:o.uponIn (fen P ro) 0 P a K Q ((execOp a.eval o).run P w)):o.wpIn (fen P ro) 0 P a w K Q:=by refine ⟨b,?_⟩;rw [Oper.semAt_eq _ _ _ d];exact h
theorem Does.wp' {ro:Option Nat} {P:Program} (d:Does P F β s a.eval w o e) (b:ac0 P w a o) (f:∀ c,o.op≠.defer c) {K:Act->World->Prop} {Q:Exit->Act->World->Prop} (g:Then F w β s e a o K):o.wpIn (fen P ro) 0 P a w K Q:=by
 obtain ⟨v,w',β',hr,A,p⟩:=d;refine ar2 b f ?_;rcases hr with hr|⟨hr,rfl⟩
 .rw [hr];exact g v w' β' A p
 .rw [hr];exact g _ w' β' A p
theorem ao2 {β:Nm} {σ:List (Nat×PV U)} {f:Operand->PV U} {ρ:Operand->Value} (hr:∀ x,PRel w β h σ (f x) (ρ x)) (ps:List (Nat×Operand)):
  an4 w β h σ ((ps.map (·.1)).zip ((ps.map (·.2)).map f)) (ps.map λx=>(x.1,ρ x.2)):=by
 refine ⟨by simp,λj p q a b=>?_⟩;simp only [co9,co1] at b;obtain ⟨x,c,rfl⟩:=b;have:((ps.map (·.1)).zip ((ps.map (·.2)).map f))[j]? =some (x.1,f x.2):=by rw [List.getElem?_zip_eq_some];simp [c]
 rw [this] at a;simp only [cn4] at a;subst a;exact ⟨rfl,hr _⟩
theorem cj7 {ro:Option Nat} (M:E.Fits) (Z:F.G=E.G) (R:Rel F n β s a.tmps w) {path:List (Nat×Bool)} (hc:CondG s.σ path)
  (g:act E (sub s.h (((I3 o.op).map (λx=>H5 path (ev s.σ x))).flatMap idsP)) o ((I3 o.op).map (λx=>H5 path (ev s.σ x)))=some e) (I:e.Obl)
  (A:∀ id∈Q5 E o ((I3 o.op).map (λx=>H5 path (ev s.σ x))),look id s.h=none/\id<1000000) {K:Act->World->Prop} {Q:Exit->Act->World->Prop} (H:Then F w β s e a o K):o.wpIn (fen E.P ro) 0 E.P a w K Q:=by
 have l:∀ c,o.op≠.defer c:=λc hc=>by simp [act,hc] at g
 have q:ac0 E.P w a o:=I4 λc hc=>by
  cases B:c.callee with
  |builtin b=>exact ⟨b,rfl⟩
  |value x=>simp [act,hc,B] at g
  |invoke x m=>simp [act,hc,B] at g
 have hr:∀ x,PRel w β s.h s.σ (H5 path (ev s.σ x)) (a.eval x):=λx=>T9 hc (S4 R x);have hρ:∀ v,a.eval (.const v)=v:=λ_=>rfl;generalize hids:((I3 o.op).map (λx=>H5 path (ev s.σ x))).flatMap idsP=ids at g;cases k:o.op with
 |move x=>simp only [act,k,I3,List.map,cn4] at g;subst g;exact (Does.move R (.inl k) (hr x)).wp' q l H
 |assign x=>simp only [act,k,I3,List.map,cn4] at g;subst g;exact (Does.move R (.inr k) (hr x)).wp' q l H
 |alloc t=>
  simp only [act,k,I3,List.map] at g;split at g
  .rename_i cs hz;simp only [cn4] at g;subst g;exact (Does.alloc R k hz (A _ (by simp [Q5,k])).1 (A _ (by simp [Q5,k])).2).wp' q l H
  .cases g
 |box t x=>
  simp only [act,k,I3,List.map] at g;split at g
  .rename_i cs hz;simp only [cn4] at g;subst g;exact (Does.box R k (hr x) hz (A _ (by simp [Q5,k])).1 (A _ (by simp [Q5,k])).2).wp' q l H
  .cases g
 |build t ps=>simp only [act,k,I3] at g;exact (Does.build R k (ao2 hr ps.toList) g).wp' q l H
 |buildSlice t len ps=>
  simp only [act,k,I3] at g;split at g
  .split at g
   .rename_i e' m U;exact (Does.buildDp M R k (ao2 hr ps.toList) U g (A _ (by simp [Q5,k])).1).wp' q l H
   .exact (Does.buildSlice M R k (ao2 hr ps.toList) g (A _ (by simp [Q5,k])).1).wp' q l H
  .exact (Does.buildData M R k (ao2 hr ps.toList) g).wp' q l H
 |load t x=>simp only [act,k,I3,List.map] at g;exact (Does.load Z R k (hr x) g I).wp' q l H
 |store t x y=>simp only [act,k,I3,List.map] at g;exact (Does.store R k (hr x) (hr y) g I).wp' q l H
 |nilCheck x=>
  simp only [act,k,I3,List.map] at g;have J:=hr x;split at g
  .rename_i id off C;simp only [cn4] at g;subst g;simp only [List.cons.injEq,and_true] at C;rw [C] at J;exact (Does.nilCheck R k (.inl ⟨_,_,rfl⟩) J).wp' q l H
  .rename_i cs off C;simp only [cn4] at g;subst g;simp only [List.cons.injEq,and_true] at C;rw [C] at J;exact (Does.nilCheck R k (.inr (.inl ⟨_,_,rfl⟩)) J).wp' q l H
  .rename_i id ver i off C;simp only [List.cons.injEq,and_true] at C;split at g
   .rename_i e' t' l' ver' lv' hl;split at g
    .rename_i S;have S:=cn5 S;subst S;simp only [cn4] at g;subst g;rw [C] at J;exact (Does.nilCheck R k (.inr (.inr ⟨_,_,_,_,rfl,_,_,_,_,C1 hl⟩)) J).wp' q l H
    .cases g
   .cases g
  .rename_i id c C;simp only [List.cons.injEq,and_true] at C;split at g
   case h_2=>cases g
   rename_i D hl;simp only [co1] at g;obtain ⟨c',ha,rfl⟩:=g;rw [C] at J;exact (Does.nilCheckDp R k (C1 hl) ha J).wp' q l H
  .cases g
 |binOp op t x y t'=>simp only [act,k,I3,List.map] at g;exact (Does.bin R k (hr x) (hr y) g I).wp' q l H
 |unOp op t x=>simp only [act,k,I3,List.map] at g;exact (Does.un R k (hr x) g).wp' q l H
 |convert t t' x=>
  simp only [act,k,I3,List.map] at g;split at g
  .rename_i d hd;exact (Does.conv R k (hr x) g ⟨_,hd⟩).wp' q l H
  .cases g
 |fieldAddr t x f=>simp only [act,k,I3,List.map] at g;exact (Does.fieldAddr R k (hr x) g).wp' q l H
 |field t x f=>simp only [act,k,I3,List.map] at g;exact (Does.field R k (hr x) g).wp' q l H
 |indexAddr t x y=>simp only [act,k,I3,List.map] at g;exact (Does.indexAddr R k (hr x) (hr y) g I).wp' q l H
 |extract x i=>simp only [act,k,I3,List.map] at g;exact (Does.extract R k (hr x) g).wp' q l H
 |slice t x lo X mx=>
  cases mx with
  |none=>simp only [act,k,I3,Option.toList_none,List.append_nil] at g;refine (Does.slice M R k (vs:=(x::(lo.toList++X.toList)).map (λx=>H5 path (ev s.σ x))) (by simp) (λj p y N W=>?_) g I).wp' q l H;simp only [co9,W,Option.map_some,cn4] at N;subst N;exact hr y
  |some mx=>
   cases lo with
   |some lo=>simp [act,k] at g
   |none=>
    cases X with
    |none=>simp [act,k] at g
    |some X=>simp only [act,k,I3,Option.isNone_none,Option.isSome_some,Bool.and_self,cond_true] at g;refine (Does.slice3 M R k (vs:=[x,X,mx].map (λx=>H5 path (ev s.σ x))) (by simp) (λj p y N W=>?_) g I).wp' q l H;simp only [co9,W,Option.map_some,cn4] at N;subst N;exact hr y
 |makeSlice t x y=>
  simp only [act,k,I3,List.map] at g;cases hs:az7 x y with
  |false=>rw [hs] at g;cases g
  |true=>
   rw [hs] at g;simp only [cond_true] at g;split at g
   .rename_i e' m U;exact (Does.makeDp M R hρ k hs (hr x) U g I (A _ (by simp [Q5,k])).1).wp' q l H
   .exact (Does.make M R hρ k hs (hr x) g I (A _ (by simp [Q5,k])).1).wp' q l H
 |call c=>
  cases B:c.callee with
  |value fo=>simp [act,k,B] at g
  |invoke x m=>simp [act,k,B] at g
  |builtin b=>
   simp only [act,k,I3,B] at g A;generalize u:c.args.toList=xs at g A;cases b with
   |len=>
    simp only at g
    match xs,u,g with
    |[x],u,g=>
     simp only [List.map] at g
     match L:c.argTypes.toList,g with
     |t::ts,g=>
      simp only at g;split at g
      .rename_i el T;exact (Does.len R k B u L T (hr x) g).wp' q l H
      .rename_i kk vv T;exact (Does.lenM R k B u L T (hr x) g).wp' q l H
      .cases g
     |[],g=>simp at g
    |[],_,g=>simp at g
    |_::_::_,_,g=>simp at g
   |min=>
    simp only at g
    match xs,u,g with
    |[x,y],u,g=>exact (Does.min R k B u (hr x) (hr y) g).wp' q l H
    |[],_,g=>simp at g
    |[_],_,g=>simp at g
    |_::_::_::_,_,g=>simp at g
   |max=>
    simp only at g
    match xs,u,g with
    |[x,y],u,g=>exact (Does.max R k B u (hr x) (hr y) g).wp' q l H
    |[x,y,z],u,g=>exact (Does.max3 R k B u (hr x) (hr y) (hr z) g).wp' q l H
    |[],_,g=>simp at g
    |[_],_,g=>simp at g
    |_::_::_::_::_,_,g=>simp at g
   |copy=>
    simp only at g
    match xs,u,g with
    |[x,y],u,g=>
     simp only [List.map] at g
     match L:c.argTypes.toList,g with
     |[st,st2],g=>
      simp only at g;split at g
      .rename_i el T;split at g
       .rename_i t O;exact (bE9 M R k B u L T O (hr x) (hr y) g).wp' q l H
       .cases g
      .cases g
     |[],g=>simp at g
     |[_],g=>simp at g
     |_::_::_::_,g=>simp at g
    |[],_,g=>simp at g
    |[_],_,g=>simp at g
    |_::_::_::_,_,g=>simp at g
   |append=>
    simp only at g
    match xs,u,g,A with
    |[x,y],u,g,A=>
     simp only [List.map] at g
     match L:c.argTypes.toList,g with
     |[st,st2],g=>
      simp only at g;cases S:Nat.beq st st2 with
      |false=>rw [S] at g;cases g
      |true=>
       rw [S] at g;have S:=cn5 S;subst S;simp only [cond_true] at g;split at g
       .rename_i el T;split at g
        .rename_i t O;split at g
         .rename_i id v0 C;have J:=hr x;rw [C] at J;exact (Does.appendDp M R k B u (by apply Array.toList_inj.1;exact L) T O J (hr y) g I).wp' q l H
         .rename_i id v0 d C;have J:=hr x;rw [C] at J;exact (Does.appendMs M R k B u (by apply Array.toList_inj.1;exact L) T O J (hr y) g I (A _ (by simp [Q5,k,B,List.map,C])).1).wp' q l H
         .refine (Does.append M R k B u L (by apply Array.toList_inj.1;exact L) T O (hr x) (hr y) g I ?_).wp' q l H;by_cases N:∃ p,H5 path (ev s.σ x)=.one (.lit p)
          .obtain ⟨p,N⟩:=N;left;exact (A _ (by simp [Q5,k,B,List.map,N])).1
          .by_cases Y:∃ id v i j,H5 path (ev s.σ x)=.one (.dc id (.inn v i j))
           .obtain ⟨id,v,i,j,Y⟩:=Y;left;exact (A _ (by simp [Q5,k,B,List.map,Y])).1
           .right;exact ⟨λp hp'=>N ⟨p,hp'⟩,λid v i j hq'=>Y ⟨id,v,i,j,hq'⟩⟩
        .cases g
       .cases g
     |[],g=>simp at g
     |[_],g=>simp at g
     |_::_::_::_,g=>simp at g
    |[],_,g,_=>simp at g
    |[_],_,g,_=>simp at g
    |_::_::_::_,_,g,_=>simp at g
   |_=>simp at g
 |makeMap t r=>
  cases r with
  |some _=>simp [act,k] at g
  |none=>simp only [act,k] at g;exact (Does.makeMap R k g (A _ (by simp [Q5,k])).1 (A _ (by simp [Q5,k])).2).wp' q l H
 |lookup t x y ok=>
  simp only [act,k,I3,List.map] at g;split at g
  .rename_i id v0 C;split at g
   .cases g
   .rename_i V;have V:ok=false:=by simpa using V
    subst V;have J:=hr x;rw [C] at J;exact (Does.lookupMs M R k J (hr y) g).wp' q l H
  .exact (Does.lookup M R k (hr x) (hr y) g).wp' q l H
 |mapUpdate t x y z=>
  simp only [act,k,I3,List.map] at g;split at g
  .rename_i id v0 C;have J:=hr x;rw [C] at J;exact (Does.putMs M R k J (hr y) (hr z) g I).wp' q l H
  .exact (Does.mapPut M R k (hr x) (hr y) (hr z) g).wp' q l H
 |makeInterface t x=>simp only [act,k,I3,List.map] at g;exact (Does.iface R k (hr x) g).wp' q l H
 |makeFunc f first cap=>
  simp only [act,k,I3] at g;cases hs:Nat.beq first.size 0 with
  |false=>
   rw [hs] at g;simp only [cond_false] at g;split at g
   case h_2=>cases g
   rename_i f0 hcs C;simp only [cn4] at g;subst g;exact (Does.bnd R k hcs C hr).wp' q l H
  |true=>rw [hs] at g;simp only [cond_true] at g;have hf0:=Array.eq_empty_of_size_eq_zero (cn5 hs);refine (Does.func R k (cn5 hs) (vs:=cap.toList.map (λx=>H5 path (ev s.σ x))) (by simp) (λj p y N W=>?_) (by rw [hf0] at g;simpa using g)).wp' q l H;simp only [co9,W,Option.map_some,cn4] at N;subst N;exact hr y
 |range t x=>simp only [act,k,I3,List.map] at g;exact (Does.range R k (hr x) g (A _ (by simp [Q5,k])).1).wp' q l H
 |entry x=>simp only [act,k,I3,List.map] at g;exact (Does.entry R k (hr x) g I).wp' q l H
 |_=>simp [act,k] at g
theorem bg9 {h:Obs U} {ids:List Nat} {vs:List (PV U)} (b:act E (sub h ids) o vs=some e) (s:∀ x∈e.upd,x.2.live=false):Freezes h e.upd:=by
  have none_:∀ {u:Obs U},u=[]->Freezes h u:=λy id ob hm=>by rw [y] at hm;simp at hm
  have last:∀ {u:Obs U} {id:Nat} {ob:Ob U},ob.live=true->(∀ x∈u++[(id,ob)],x.2.live=false)->False:=λhl g=>by have:=g _ (cq1.2 (.inr (co5.2 rfl)));simp [hl] at this
  have mapE:∀ {α:Type} {f:α->Eff U} {x:Option α},(∀ a,(f a).upd=[])->x.map f=some e->Freezes h e.upd:=by intro α f x hf q;simp only [co1] at q;obtain ⟨a,_,rfl⟩:=q;exact none_ (hf a)
  have fin:∀ {p:Option Prop} {v:PV U},some (⟨p,v,[]⟩:Eff U)=some e->Freezes h e.upd:=λg=>by simp only [cn4] at g;subst g;exact none_ rfl
  have fin1:∀ {p:Option Prop} {v:PV U} {u:Obs U} {id:Nat} {ob:Ob U},ob.live=true->some (⟨p,v,u++[(id,ob)]⟩:Eff U)=some e->Freezes h e.upd:=λhl g=>by simp only [cn4] at g;subst g;exact (last hl s).elim
  have fin2:∀ {p:Option Prop} {v:PV U} {id:Nat} {ob:Ob U},ob.live=true->some (⟨p,v,[(id,ob)]⟩:Eff U)=some e->Freezes h e.upd:=λhl g=>by simp only [cn4] at g;subst g;exact (last (u:=[]) hl s).elim
  have mapE2:∀ {α:Type} {f:α->Eff U} {x:Option α},x.map f=some e->(∀ a,(f a).upd=[])->Freezes h e.upd:=λq hf=>mapE hf q;have exl:∀ {x:Nat×Ob U},x∈e.upd->x.2.live=true->Freezes h e.upd:=λq hl=>by have:=s _ q;rw [hl] at this;cases this
  have fin3:∀ {p:Option Prop} {v:PV U} {u:Obs U} {x:Nat×Ob U},x∈u->x.2.live=true->some (⟨p,v,u⟩:Eff U)=some e->Freezes h e.upd:=λq hl g=>by simp only [cn4] at g;subst g;exact exl q hl
  have putl:∀ {id:Nat} {D:Deep U} {c:DC U} {vs:List (Cell U)} {p:Option Prop} {u:Obs U},D.put (sub h ids) id c vs=some (p,u)->∃ x∈u,x.2.live=true:=by
    intro id D c vs p u d;have lastl:∀ {u:Obs U} {id:Nat} {ob:Ob U},ob.live=true->∃ x∈u++[(id,ob)],x.2.live=true:=λhl=>⟨_,cq1.2 (.inr (co5.2 rfl)),hl⟩;have pe:∀ {e t m l ver iv i off vs p u},aV5 (U:=U) (sub h ids) id e t m l ver iv i off vs=some (p,u)->∃ x∈u,x.2.live=true:=by
      intro e t m l ver iv i off vs p u d;unfold aV5 at d
      repeat' split at d
      all_goals first
        | (simp only [cn4,co6] at d;obtain ⟨_,rfl⟩:=d;exact lastl rfl)
        | (cases d;done)
    have pi:∀ {e t m l ver iv hole i off c p u},aV6 (U:=U) (sub h ids) id e t m l ver iv hole i off c=some (p,u)->∃ x∈u,x.2.live=true:=by
      intro e t m l ver iv hole i off c p u d;unfold aV6 at d
      repeat' split at d
      all_goals first
        | (simp only [cn4,co6] at d;obtain ⟨_,rfl⟩:=d;exact lastl rfl)
        | (cases d;done)
    have pa:∀ {e t m l ver iv i j k off vs p u},aV7 (U:=U) (sub h ids) id e t m l ver iv i j k off vs=some (p,u)->∃ x∈u,x.2.live=true:=by
      intro e t m l ver iv i j k off vs p u d;unfold aV7 at d
      repeat' split at d
      all_goals first
        | (simp only [cn4,co6] at d;obtain ⟨_,rfl⟩:=d;exact lastl rfl)
        | (cases d;done)
    unfold Deep.put at d
    repeat' split at d
    all_goals first
      | exact pe d
      | exact pi d
      | exact pa d
      | (cases d;done)
  unfold act at b
  repeat' split at b
  all_goals first
    | exact fin b
    | exact fin2 rfl b
    | exact mapE2 b (λ_=>rfl)
    | (cases b;done)
    | (unfold ax5 at b;repeat' split at b)<;>first|exact fin b|(cases b;done)
    | (unfold S5 at b;repeat' split at b)<;>first|exact fin1 rfl b|(cases b;done)
    | (unfold V2 at b;repeat' split at b)<;>first|(rename R9 _ _ _ _=some _=>w;simp only [cn4] at b;subst b;exact ai8 w)|(cases b;done)
    | (unfold aO8 at b;repeat' split at b)<;>first|exact mapE (λ_=>rfl) b|exact fin b|(cases b;done)
    | (unfold bn4 at b;repeat' split at b)<;>first|exact fin b|(cases b;done)
    | (unfold bQ0 at b;repeat' split at b)<;>first|exact fin b|(cases b;done)
    | (unfold aO9 at b;repeat' split at b)<;>first|exact fin b|(cases b;done)
    | (unfold V3 at b;repeat' split at b)<;>first|exact fin b|exact mapE2 b (λ_=>rfl)|(cases b;done)
    | (unfold af8 at b;repeat' split at b)<;>first|(refine fin3 (cq1.2 (.inr (cq1.2 (.inr (co5.2 rfl))))) rfl b)|(cases b;done)
    | (unfold ay0 at b;repeat' split at b)<;>first|exact fin2 rfl b|(cases b;done)
    | (unfold ay1 at b;repeat' split at b)<;>first|exact fin b|(cases b;done)
    | exact mapE2 b (λ_=>rfl)
    | (unfold ax7 at b;repeat' split at b)<;>first|exact mapE (λ_=>rfl) b|(cases b;done)
    | (unfold V4 at b;repeat' split at b)<;>first|exact fin b|(cases b;done)
    | (unfold af7 at b;repeat' split at b)<;>first|exact mapE (λ_=>rfl) b|(cases b;done)
    | (unfold bn5 at b;repeat' split at b)<;>first|exact fin b|(cases b;done)
    | (unfold aP0 at b;repeat' split at b)<;>first|exact fin b|(cases b;done)
    | (unfold bn6 at b;repeat' split at b)<;>first|exact fin b|(cases b;done)
    | (unfold bn7 at b;repeat' split at b)<;>first|exact fin b|(cases b;done)
    | (unfold aP1 at b;repeat' split at b)<;>first|exact fin b|(cases b;done)
    | skip
  all_goals try simp only [co7] at b
  all_goals repeat' split at b
  all_goals first
    | exact fin b
    | exact fin2 rfl b
    | exact mapE2 b (λ_=>rfl)
    | (cases b;done)
    | (unfold ax6 at b
       repeat' split at b
       all_goals first
         | exact fin2 rfl b
         | (cases b;done)
         | (rename Deep.put _ _ _ _ _=some _=>r
            obtain ⟨x,q,hl⟩:=putl r;exact fin3 q hl b)
         | (refine fin1 ?_ b
            rename (_&&_&&_)=true=>n
            simp only [cn7] at n;exact n.1.2))
    | (unfold ax8 at b
       repeat' split at b
       all_goals first
         | (cases b;done)
         | (simp only [cn4] at b
            subst b;exact (J9 (by assumption)).1))
    | (unfold am3 at b
       repeat' split at b
       all_goals first
         | (cases b;done)
         | exact fin2 rfl b
         | (simp only [cn4] at b
            subst b;exact (J9 (by assumption)).1))
    | (unfold aP3 at b
       repeat' split at b
       all_goals first
         | exact fin2 rfl b
         | (cases b;done))
    | (unfold am4 at b
       repeat' split at b
       all_goals first
         | exact fin2 rfl b
         | (cases b;done))
    | (unfold af9 at b
       simp only [co7] at b
       repeat' split at b
       all_goals first
         | exact fin2 rfl b
         | (cases b;done))
    | (unfold am5 at b
       simp only [co7] at b
       repeat' split at b
       all_goals first
         | exact fin b
         | (cases b;done))
    | (unfold am6 at b
       simp only [co7] at b
       repeat' split at b
       all_goals first
         | exact fin1 rfl b
         | (cases b;done))
    | (unfold aP5 at b
       repeat' split at b
       all_goals first
         | exact fin b
         | (cases b;done))
    | (unfold ay2 at b
       repeat' split at b
       all_goals first
         | exact mapE (λ_=>rfl) b
         | (cases b;done))
    | (unfold aP2 at b
       repeat' split at b
       all_goals first
         | exact fin1 rfl b
         | (cases b;done))
    | (unfold Z2 at b
       repeat' split at b
       all_goals first
         | exact fin3 (List.mem_cons_self ..) rfl b
         | (cases b;done))
    | (unfold Z3 at b
       simp only [co7] at b
       repeat' split at b
       all_goals first
         | exact fin b
         | (cases b;done))
    | (unfold ax9 at b
       simp only [co7] at b
       repeat' split at b
       all_goals first
         | exact fin3 (List.mem_cons_self ..) rfl b
         | (cases b;done))
    | (unfold Z4 at b
       simp only [co7] at b
       repeat' split at b
       all_goals first
         | exact fin3 (cq1.2 (.inr (List.mem_cons_self ..))) rfl b
         | (cases b;done))
    | (unfold am2 at b
       repeat' split at b
       all_goals first
         | exact fin1 rfl b
         | exact fin3 (cq1.2 (.inr (List.mem_cons_self ..))) rfl b
         | (cases b;done))
end
end Go.VT
end
