/-
What the last text of this claim uses: RgM, RgN, RgO, RgP, RgEq6, RgQ, RgR, RgS, RgEq7, RgU, RgV, RgEq8, RgW, RgX, RgY, RgZ, RgEq9, RgAa, RgAb, RgEq10, RgAc, RgAd, RgBa, RgEq11, RgBb, RgBc, RgEq12, RgBd, RgBe, RgEq13, RgBf, RgBg, RgBh, RgEq14, RgBi, RgBj, RgEq15, RgBk, RgBl.
-/
import Derived.Test.YtknhkhdbonjhgaaDoorV4
set_option linter.unusedVariables false
set_option linter.unusedSimpArgs false
section
set_option maxRecDepth 100000
namespace Go.Rg
open Go Go.VT
theorem V5 (l:List Int) (i n:Int):∀ (m:Spans),mget eqI (K6 m l i) n=if n∈l then some ⟨i,-1⟩ else mget eqI m n:=by
 induction l with
 |nil=>intro m;simp [K6]
 |cons x r ih=>
  intro m
  rw [show K6 m (x::r) i=K6 (aq1 m x i) r i from rfl,ih,aq1,M9]
  by_cases h1:n∈r
  ·simp [h1]
  ·by_cases h2:x=n
   ·simp [h2]
   ·simp [h1,h2,Ne.symm h2]
theorem aq2 (l:List Int) (i n:Int):∀ (m:Spans),mget eqI (uses m l i) n=if n∈l then some ⟨(getS m n).first,i⟩ else mget eqI m n:=by
 induction l with
 |nil=>intro m;simp [uses]
 |cons x r ih=>
  intro m
  rw [show uses m (x::r) i=uses (useS m x i) r i from rfl,ih]
  have hg:mget eqI (useS m x i) n=if x=n then some ⟨(getS m x).first,i⟩ else mget eqI m n:=by rw [useS,M9]
  have hf:(getS (useS m x i) n).first=(getS m n).first:=by
   unfold getS
   rw [hg]
   by_cases h2:x=n
   ·subst h2;simp [getS]
   ·simp [h2]
  rw [hf,hg]
  by_cases h1:n∈r
  ·simp [h1]
  ·by_cases h2:x=n
   ·subst h2;simp [h1]
   ·simp [h1,h2,Ne.symm h2]
def K9 (n:Int):List Ins→Int→Int→Int
 |[],_,d=>d
 |x::r,i,d=>K9 n r (i+1) (if n∈x.from_ then i else d)
theorem af6 (n:Int):∀ (code:List Ins) (m:Spans) (i f d:Int),n∉wr code→mget eqI m n=some ⟨f,d⟩→mget eqI (I6 m code i) n=some ⟨f,K9 n code i d⟩
 |[],m,i,f,d,_,h=>h
 |x::r,m,i,f,d,hw,h=>by
  have hw':n∉x.to∧n∉wr r:=by simpa [wr] using hw
  simp only [I6,K9]
  have hg:getS m n=⟨f,d⟩:=by unfold getS;rw [h];rfl
  refine af6 n r _ (i+1) f _ hw'.2 ?_
  rw [V5,if_neg hw'.1,aq2,hg,h]
  split<;>rfl
theorem aj6 (n:Int):∀ (l:List Ins) (x:Ins) (r:List Ins) (m:Spans) (i:Int),n∈x.to→n∉wr r→mget eqI (I6 m (l++x::r) i) n=some ⟨i+l.length+1,K9 n r (i+l.length+1) (-1)⟩
 |[],x,r,m,i,h1,h2=>by
  simp only [List.nil_append,I6,List.length_nil]
  have:=af6 n r (K6 (uses m x.from_ i) x.to (i+1)) (i+1) (i+1) (-1) h2 (by rw [V5,if_pos h1])
  simpa using this
 |y::l,x,r,m,i,h1,h2=>by
  simp only [List.cons_append,I6,List.length_cons,Int.natCast_add]
  rw [aj6 n l x r _ (i+1) h1 h2]
  congr 2
  ·omega
  ·rw [show i+1+(l.length:Int)+1=i+((l.length:Int)+((1:Nat):Int))+1 by omega]
theorem aG3 (n:Int) (k:Nat):mget eqI (K6 [] (upto k) 0) n=if 0≤n∧n<k then some ⟨0,-1⟩ else none:=by
 rw [V5]
 have:n∈upto k↔0≤n∧n<k:=by
  unfold upto
  simp only [List.mem_map,List.mem_range]
  constructor
  ·rintro ⟨j,hj,rfl⟩;omega
  ·rintro ⟨h1,h2⟩;exact ⟨n.toNat,by omega,by omega⟩
 by_cases h:0≤n∧n<k
 ·rw [if_pos (this.2 h),if_pos h]
 ·rw [if_neg (fun h'=>h (this.1 h')),if_neg h];rfl
def fin (n:Int) (code:List Ins) (out:List Int) (i d:Int):Int:=if n∈out then i+code.length else K9 n code i d
theorem H0 (out:List Int):∀ code:List Ins,(B9 code out).length=code.length+1
 |[]=>rfl
 |x::r=>by simp [B9,H0 out r]
theorem by9 {x:Ins} {l:List Int} {n:Int}:n∈av9 x l↔n∈x.from_∨(n∈l∧n∉x.to):=by
 unfold av9
 rw [show (l.filter fun n=>!x.to.contains n).foldl J3 (C7 [] x.from_)=C7 (C7 [] x.from_) (l.filter fun n=>!x.to.contains n) from rfl,N6,N6]
 simp [List.mem_filter]
theorem bc1 (out:List Int) (code:List Ins):(B9 code out)[0]? =some ((B9 code out).headD []):=by
 cases code<;>rfl
theorem Z7 {x:Ins} {r:List Ins} {out:List Int} {n:Int}:n∈(B9 (x::r) out).headD []↔n∈x.from_∨(n∈(B9 r out).headD []∧n∉x.to):=by
 simp only [B9,List.headD_cons,by9]
def atL (code:List Ins) (out:List Int) (p:Nat):List Int:=(B9 code out).getD p []
theorem N3 (code:List Ins) (out:List Int):atL code out 0=(B9 code out).headD []:=by
 unfold atL
 rw [List.getD_eq_getElem?_getD,bc1]
 rfl
theorem ac1 (x:Ins) (r:List Ins) (out:List Int) (p:Nat):atL (x::r) out (p+1)=atL r out p:=by
 simp [atL,B9]
theorem ai6 (n:Int):∀ (code:List Ins) (i d:Int),d<i→d≤K9 n code i d∧K9 n code i d<i+code.length
 |[],i,d,h=>by simp [K9];omega
 |x::r,i,d,h=>by
  simp only [K9,List.length_cons,Int.natCast_add]
  have:=ai6 n r (i+1) (if n∈x.from_ then i else d) (by split<;>omega)
  split at this<;>rename_i hx<;>simp only [hx,if_true,if_false]<;>omega
theorem bc2 (n:Int) (out:List Int):∀ (code:List Ins) (p:Nat) (i d:Int),n∉wr code→p≤code.length→d<i→(n∈atL code out p↔i+p≤fin n code out i d)
 |[],0,i,d,_,_,hd=>by
  simp only [atL,B9,fin,K9,List.getD_cons_zero,N6,List.not_mem_nil,false_or,List.length_nil]
  split<;>rename_i h
  ·simp [h]
  ·simp [h];omega
 |[],p+1,i,d,_,h,_=>by simp at h
 |x::r,0,i,d,hw,_,hd=>by
  have hw':n∉x.to∧n∉wr r:=by simpa [wr] using hw
  rw [N3,Z7,←N3]
  have ih:=bc2 n out r 0 (i+1) (if n∈x.from_ then i else d) hw'.2 (Nat.zero_le _) (by split<;>omega)
  rw [ih]
  have hl:=ai6 n r (i+1) (if n∈x.from_ then i else d) (by split<;>omega)
  simp only [fin,K9,List.length_cons,Int.natCast_add,hw'.1,not_false_eq_true,and_true]
  by_cases ho:n∈out
  ·simp only [ho,if_true]
   by_cases hf:n∈x.from_
   ·simp [hf];omega
   ·simp [hf];omega
  ·simp only [ho,if_false]
   by_cases hf:n∈x.from_
   ·simp only [hf,if_true,true_or,true_iff] at hl ⊢
    omega
   ·simp only [hf,if_false,false_or] at hl ⊢
    have h3:∀ (q:List Ins) (j d:Int),d<j→K9 n q j d=d∨j≤K9 n q j d:=by
     intro q
     induction q with
     |nil=>intro j d _;exact .inl rfl
     |cons y q ih=>
      intro j d hd
      simp only [K9]
      rcases ih (j+1) (if n∈y.from_ then j else d) (by split<;>omega) with h|h
      ·split at h
       ·rename_i hy;right;simp only [hy,if_true];omega
       ·rename_i hy;left;simp only [hy,if_false];exact h
      ·right;omega
    have:=h3 r (i+1) d (by omega)
    omega
 |x::r,p+1,i,d,hw,hp,hd=>by
  have hw':n∉x.to∧n∉wr r:=by simpa [wr] using hw
  rw [ac1]
  have ih:=bc2 n out r p (i+1) (if n∈x.from_ then i else d) hw'.2 (by simpa using hp) (by split<;>omega)
  rw [ih]
  simp only [fin,K9,List.length_cons,Int.natCast_add]
  split<;>omega
theorem bK3 (n:Int) (out:List Int) (x:Ins) (r:List Ins) (hx:n∈x.to) (hxf:n∉x.from_):∀ (l:List Ins),(∀ y∈l,n∉y.from_)→∀ p:Nat,p≤l.length→n∉atL (l++x::r) out p
 |[],_,0,_=>by
  rw [List.nil_append,N3,Z7]
  simp [hx,hxf]
 |[],_,p+1,h=>by simp at h
 |y::l,hl,0,_=>by
  have ih:=bK3 n out x r hx hxf l (fun z hz=>hl z (by simp [hz])) 0 (Nat.zero_le _)
  rw [List.cons_append,N3,Z7,←N3]
  have:=hl y (by simp)
  simp [ih,this]
 |y::l,hl,p+1,h=>by
  rw [List.cons_append,ac1]
  exact bK3 n out x r hx hxf l (fun z hz=>hl z (by simp [hz])) p (by simpa using h)
theorem at0 (out:List Int) (r:List Ins):∀ (l:List Ins) (p:Nat),atL (l++r) out (l.length+p)=atL r out p
 |[],p=>by simp
 |x::l,p=>by
  rw [List.cons_append,List.length_cons,show l.length+1+p=(l.length+p)+1 by omega,ac1]
  exact at0 out r l p
structure Checked (a:Int) (b:List Ins) (c:List Int):Prop where
 len:b.length≤4000
 pos:0≤a
 few:a≤4000
 outR:∀ n∈c,0≤n∧n≤3999
 toR:∀ x∈b,∀ n∈x.to,0≤n∧n≤3999
 fromR:∀ x∈b,∀ n∈x.from_,0≤n∧n≤3999
 once:D5 (wr b)=true
 new:∀ n∈wr b,a≤n
 there:E0 a [] b=true
 outT:∀ n∈c,n<a∨n∈wr b
theorem K7 {n:Int}:G5 n=true↔0≤n∧n≤3999:=by simp [G5,lies]
theorem am5 {a:Int} {b:List Ins} {c d:List Int} (h:B0 ⟨a,b,c,d⟩=0):Checked a b c:=by
 simp only [B0] at h
 split at h
 ·cases h
 rename_i h1
 split at h
 ·cases h
 rename_i h2
 split at h
 ·cases h
 rename_i h3
 split at h
 ·cases h
 rename_i h4
 simp only [Bool.not_eq_true',Bool.not_eq_false,Bool.and_eq_true,List.all_eq_true,decide_eq_true_eq,lies] at h2 h3 h4
 obtain ⟨⟨h2a,h2b⟩,h2c⟩:=h2
 exact ⟨by omega,h2a.1,h2a.2,fun n hn=>K7.1 (h2b n hn),fun x hx n hn=>K7.1 ((h2c x hx).1 n hn),fun x hx n hn=>K7.1 ((h2c x hx).2 n hn),h3.1,h3.2,h4.1,fun n hn=>by
  have:=h4.2 n hn
  simpa [List.contains_iff_mem] using this⟩
theorem bc3 {b:List Ins} {n:Int}:n∈wr b↔∃ x∈b,n∈x.to:=by simp [wr,List.mem_flatMap]
theorem L7 (l r:List Ins):wr (l++r)=wr l++wr r:=by simp [wr]
theorem L0 (x:Ins) (r:List Ins):wr (x::r)=x.to++wr r:=by simp [wr]
theorem F8:∀ {l:List Int},D5 l=true↔l.Nodup
 |[]=>by simp [D5]
 |x::r=>by
  simp only [D5,Bool.and_eq_true,Bool.not_eq_true',F8 (l:=r),List.nodup_cons]
  rw [Bool.eq_false_iff,ne_eq,List.contains_iff_mem]
theorem X9 {a:Int}:∀ {l:List Ins} {x:Ins} {r:List Ins} {W:List Int},E0 a W (l++x::r)=true→∀ n∈x.from_,n<a∨n∈W++wr l:=by
 intro l x r W h n hn
 rw [P4] at h
 simp only [Bool.and_eq_true,E0,List.all_eq_true] at h
 have:=h.2.1 n hn
 simpa [List.contains_iff_mem] using this
theorem bU6 {b:List Ins} {n:Int} (h:n∈wr b):∃ l x r,b=l++x::r∧n∈x.to∧n∉wr l:=by
 induction b with
 |nil=>simp [wr] at h
 |cons y b ih=>
  by_cases hy:n∈y.to
  ·exact ⟨[],y,b,rfl,hy,by simp [wr]⟩
  ·rw [L0,List.mem_append] at h
   obtain ⟨l,x,r,h1,h2,h3⟩:=ih (h.resolve_left hy)
   refine ⟨y::l,x,r,by rw [h1];rfl,h2,?_⟩
   rw [L0,List.mem_append]
   rintro (h|h)
   ·exact hy h
   ·exact h3 h
theorem aT0 (m:Spans) (n:Int):mget eqI (m.map fun x=>(x.1,finS x.2)) n=(mget eqI m n).map finS:=by
 induction m with
 |nil=>rfl
 |cons x r ih=>
  obtain ⟨k,s⟩:=x
  simp only [List.map_cons,mget,eqI,Bool.cond_eq_ite,beq_iff_eq]
  split
  ·rfl
  ·exact ih
theorem aG4 (n:Int):∀ (code:List Ins) (m:Spans) (i:Int),n∉wr code→(∀ x∈code,n∉x.from_)→mget eqI m n=none→mget eqI (I6 m code i) n=none
 |[],m,i,_,_,h=>h
 |x::r,m,i,hw,hf,h=>by
  rw [L0,List.mem_append] at hw
  refine aG4 n r _ _ (fun h'=>hw (.inr h')) (fun y hy=>hf y (by simp [hy])) ?_
  rw [V5,if_neg (fun h'=>hw (.inl h')),aq2,if_neg (hf x (by simp)),h]
theorem aw4 (n:Int):∀ (code:List Ins) (i d:Int),(∀ x∈code,n∉x.from_)→K9 n code i d=d
 |[],_,_,_=>rfl
 |x::r,i,d,h=>by
  simp only [K9,if_neg (h x (by simp))]
  exact aw4 n r _ _ (fun y hy=>h y (by simp [hy]))
theorem bc4 {a:Int} {b:List Ins} {c:List Int} {n f l:Int} (h:mget eqI (L4 a b c) n=some ⟨f,l⟩) (hf:0≤f) (hl:l=-1∨0≤l) (p:Nat):X7 (A8 a b c) p n=true↔f≤p∧(p:Int)≤l:=by
 unfold X7 A8
 rw [aT0,h]
 simp only [Option.map_some,finS]
 rcases hl with hl|hl
 ·subst hl
  simp [P7,never]
  omega
 ·rw [if_neg (by omega)]
  simp [P7]
  omega
theorem bU7 {a:Int} {b:List Ins} {c:List Int} (C:Checked a b c) (n:Int) (p:Nat) (hp:p≤b.length):X7 (A8 a b c) p n=true↔n∈atL b c p:=by
 have huse:∀ (m:Spans),mget eqI (uses m c b.length) n=if n∈c then some ⟨(getS m n).first,(b.length:Int)⟩ else mget eqI m n:=fun m=>aq2 c _ n m
 by_cases hw:n∈wr b
 ·obtain ⟨l,x,r,hb,hx,hl⟩:=bU6 hw
  have hnd:=F8.1 C.once
  rw [hb,L7,L0] at hnd
  have hr:n∉wr r:=by
   intro h
   have h2:=(List.nodup_append.1 hnd).2.1
   exact (List.nodup_append.1 h2).2.2 n hx n h rfl
  have hge:¬ n<a:=by have:=C.new n hw;omega
  have hth:=C.there
  rw [hb] at hth
  have hxf:n∉x.from_:=fun h=>by
   rcases X9 hth n h with h1|h1
   ·exact hge h1
   ·exact hl (by simpa using h1)
  have hlf:∀ y∈l,n∉y.from_:=by
   intro y hy h
   obtain ⟨l1,l2,hl12⟩:=List.append_of_mem hy
   have hth':=hth
   rw [hl12,List.append_assoc,List.cons_append] at hth'
   rcases X9 hth' n h with h1|h1
   ·exact hge h1
   ·refine hl ?_
    rw [hl12,L7]
    exact List.mem_append_left _ (by simpa using h1)
  have hC:mget eqI (I6 (L3 a) b 0) n=some ⟨(l.length:Int)+1,K9 n r ((l.length:Int)+1) (-1)⟩:=by
   have:=aj6 n l x r (L3 a) 0 hx hr
   rw [hb]
   simpa using this
  have hlen:b.length=l.length+(r.length+1):=by rw [hb];simp
  have h1:mget eqI (L4 a b c) n=some ⟨(l.length:Int)+1,fin n r c ((l.length:Int)+1) (-1)⟩:=by
   unfold L4 fin
   rw [huse,hC]
   split
   ·simp only [getS,hC,Option.getD_some,Option.some.injEq,Span.mk.injEq,true_and]
    rw [hlen]
    omega
   ·rfl
  have hfin:fin n r c ((l.length:Int)+1) (-1)=-1∨0≤fin n r c ((l.length:Int)+1) (-1):=by
   unfold fin
   split
   ·right;omega
   ·have:=ai6 n r ((l.length:Int)+1) (-1) (by omega);omega
  rw [bc4 h1 (by omega) hfin p]
  by_cases hpl:p≤l.length
  ·have:=bK3 n c x r hx hxf l hlf p hpl
   rw [←hb] at this
   constructor
   ·intro h;omega
   ·intro h;exact absurd h this
  ·obtain ⟨q,hq⟩:∃ q,p=l.length+(q+1):=⟨p-l.length-1,by omega⟩
   have hA:=bc2 n c r q ((l.length:Int)+1) (-1) hr (by omega) (by omega)
   have:atL b c p=atL r c q:=by rw [hb,hq,at0,ac1]
   rw [this,hA,hq]
   constructor
   ·intro h;omega
   ·intro h;omega
 ·by_cases hpar:0≤n∧n<a
  ·have h0:mget eqI (L3 a) n=some ⟨0,-1⟩:=by
    unfold L3
    rw [aG3,if_pos ⟨hpar.1,by omega⟩]
   have hC:=af6 n b (L3 a) 0 0 (-1) hw h0
   have h1:mget eqI (L4 a b c) n=some ⟨0,fin n b c 0 (-1)⟩:=by
    unfold L4 fin
    rw [huse,hC]
    split
    ·simp only [getS,hC,Option.getD_some,Option.some.injEq,Span.mk.injEq,true_and]
     omega
    ·rfl
   have hfin:fin n b c 0 (-1)=-1∨0≤fin n b c 0 (-1):=by
    unfold fin
    split
    ·right;omega
    ·have:=ai6 n b 0 (-1) (by omega);omega
   rw [bc4 h1 (by omega) hfin p,bc2 n c b p 0 (-1) hw hp (by omega)]
   omega
  ·have hbf:∀ x∈b,n∉x.from_:=by
    intro x hx h
    have h1:=C.fromR x hx n h
    obtain ⟨l1,l2,hl12⟩:=List.append_of_mem hx
    have hth:=C.there
    rw [hl12] at hth
    rcases X9 hth n h with h2|h2
    ·omega
    ·refine hw ?_
     rw [hl12,L7]
     exact List.mem_append_left _ (by simpa using h2)
   have hco:n∉c:=fun h=>by
    have h1:=C.outR n h
    rcases C.outT n h with h2|h2
    ·omega
    ·exact hw h2
   have h0:mget eqI (L3 a) n=none:=by
    unfold L3
    rw [aG3,if_neg (by omega)]
   have h1:mget eqI (L4 a b c) n=none:=by
    unfold L4
    rw [huse,if_neg hco]
    exact aG4 n b _ _ hw hbf h0
   have hA:=bc2 n c b p 0 (-1) hw hp (by omega)
   rw [hA]
   unfold X7 A8
   rw [aT0,h1]
   simp only [Option.map_none,fin,if_neg hco,aw4 n b _ _ hbf]
   simp
   omega
theorem bU8 {n:Int} {k:Nat}:n∈upto k↔0≤n∧n<k:=by
 unfold upto
 simp only [List.mem_map,List.mem_range]
 constructor
 ·rintro ⟨j,hj,rfl⟩;omega
 ·rintro ⟨h1,h2⟩;exact ⟨n.toNat,by omega,by omega⟩
theorem bK4 (k:Nat):incr (upto k):=by
 unfold incr upto
 rw [List.pairwise_map]
 exact List.Pairwise.imp (fun h=>by omega) List.pairwise_lt_range
theorem ai7 (out:List Int):∀ (code:List Ins) (p:Nat),incr (atL code out p)
 |[],0=>by
  show incr (C7 [] out)
  exact S8 List.Pairwise.nil _
 |[],p+1=>by
  show incr (([C7 [] out]:List (List Int)).getD (p+1) [])
  simp [incr]
 |x::r,0=>by
  show incr (av9 x _)
  exact S8 (S8 List.Pairwise.nil _) _
 |x::r,p+1=>by
  rw [ac1]
  exact ai7 out r p
theorem aG5 {a:Int} {b:List Ins} {c:List Int} (C:Checked a b c) {n:Int} {p:Nat} (h:n∈atL b c p):0≤n∧n≤3999:=by
 have hf:=C.fromR
 have ho:=C.outR
 clear C
 induction b generalizing p with
 |nil=>
  cases p with
  |zero=>exact ho n (by simpa [atL,B9,N6] using h)
  |succ p=>simp [atL,B9] at h
 |cons x r ih=>
  cases p with
  |zero=>
   rw [N3,Z7,←N3] at h
   rcases h with h|h
   ·exact hf x (by simp) n h
   ·exact ih h.1 (fun y hy=>hf y (by simp [hy]))
  |succ p=>
   rw [ac1] at h
   exact ih h (fun y hy=>hf y (by simp [hy]))
theorem bU9 {a:Int} {b:List Ins} {c:List Int} (C:Checked a b c):Z5 (A8 a b c) b.length 4000=B9 b c:=by
 apply List.ext_getElem?
 intro p
 unfold Z5
 rw [List.getElem?_map]
 by_cases hp:p<b.length+1
 ·rw [List.getElem?_range hp,Option.map_some]
  have h1:(B9 b c)[p]? =some (atL b c p):=by
   unfold atL
   rw [List.getD_eq_getElem?_getD,List.getElem?_eq_getElem (by rw [H0];exact hp)]
   rfl
  rw [h1]
  congr 1
  refine bs0 (List.Pairwise.filter _ (bK4 4000)) (ai7 c b p) (fun n=>?_)
  rw [List.mem_filter,bU8,bU7 C n p (by omega)]
  constructor
  ·exact fun h=>h.2
  ·intro h
   have:=aG5 C h
   exact ⟨by omega,h⟩
 ·rw [List.getElem?_eq_none (by simp;omega),List.getElem?_eq_none (by rw [H0];omega)]
  rfl
theorem U3 (m:Spans) (L:Nat) (n q:Int):(P5 m L n q).length=L+1:=by simp [P5]
theorem bc5 (m:Spans) (L k:Nat):P5 m L k (getS m k).first=Z5 m L k:=by
 unfold P5 Z5
 apply List.map_congr_left
 intro p hp
 rw [if_neg,List.append_nil,Int.toNat_natCast]
 rintro ⟨h1,h2⟩
 unfold X7 at h2
 unfold getS at h1
 split at h2
 ·rename_i s hs
  rw [hs] at h1
  simp [P7] at h2 h1
  omega
 ·cases h2
theorem bz0 (m:Spans) (L k:Nat) (q:Int) (h:(mget eqI m k).isSome=false∨(getS m k).last<q):P5 m L k q=Z5 m L (k+1):=by
 unfold P5 Z5
 apply List.map_congr_left
 intro p hp
 rw [Int.toNat_natCast,aF8,List.filter_append]
 congr 1
 by_cases hl:X7 m p k=true
 ·have hlt:(p:Int)<q:=by
   have hl':=hl
   unfold X7 at hl'
   split at hl'
   ·rename_i s hs
    rcases h with h|h
    ·rw [hs] at h;cases h
    ·unfold getS at h
     rw [hs] at h
     simp [P7] at hl' h
     omega
   ·cases hl'
  rw [List.filter_cons_of_pos hl,List.filter_nil,if_pos ⟨hlt,hl⟩]
 ·rw [List.filter_cons_of_neg (by simpa using hl),List.filter_nil,if_neg (fun h'=>hl h'.2)]
theorem bk6 (m:Spans) (L k q:Nat) (hq:q≤L) (hl:X7 m q k=true):(P5 m L k q).set q ((P5 m L k q).getD q []++[(k:Int)])=P5 m L k ((q+1:Nat):Int):=by
 apply List.ext_getElem?
 intro p
 rw [List.getElem?_set,U3]
 by_cases hp:q=p
 ·subst hp
  rw [if_pos rfl,if_pos (by omega),List.getD_eq_getElem?_getD]
  unfold P5
  rw [List.getElem?_map,List.getElem?_map,List.getElem?_range (by omega)]
  simp only [Option.map_some,Option.getD_some,hl,and_true]
  rw [if_neg (by omega),if_pos (by omega),List.append_nil]
 ·rw [if_neg hp]
  unfold P5
  rw [List.getElem?_map,List.getElem?_map]
  by_cases hpl:p<L+1
  ·rw [List.getElem?_range hpl]
   simp only [Option.map_some]
   by_cases h1:(p:Int)<q
   ·simp only [h1,show (p:Int)<((q+1:Nat):Int) by omega,true_and]
   ·rw [if_neg (fun h=>h1 h.1),if_neg (fun h=>by have:=h.1;omega)]
  ·rw [List.getElem?_eq_none (by simp;omega)]
   rfl
theorem bk7 {a:Int} {b:List Ins} {c:List Int} {n:Int} {s:Span} (h:mget eqI (A8 a b c) n=some s):0≤s.first∧s.first≤b.length∧s.last≤b.length:=by
 have key:∀ (m:Spans),(∀ n s,mget eqI m n=some s→0≤s.first∧s.first≤(b.length:Int)∧s.last≤(b.length:Int))→∀ (l:List Int) (i:Int),0≤i→i≤b.length→(∀ n s,mget eqI (K6 m l i) n=some s→0≤s.first∧s.first≤(b.length:Int)∧s.last≤(b.length:Int))∧(∀ n s,mget eqI (uses m l i) n=some s→0≤s.first∧s.first≤(b.length:Int)∧s.last≤(b.length:Int)):=by
  intro m hm l i hi0 hi
  refine ⟨fun n s h=>?_,fun n s h=>?_⟩
  ·rw [V5] at h
   split at h
   ·cases h;exact ⟨hi0,hi,by dsimp only;omega⟩
   ·exact hm n s h
  ·rw [aq2] at h
   split at h
   ·simp only [Option.some.injEq] at h
    subst h
    cases hg:mget eqI m n with
    |none=>simp [getS,hg];omega
    |some s'=>
     have:=hm n s' hg
     simp [getS,hg];omega
   ·exact hm n s h
 have hC:∀ (code:List Ins) (m:Spans) (i:Int),0≤i→i+code.length≤b.length→(∀ n s,mget eqI m n=some s→0≤s.first∧s.first≤(b.length:Int)∧s.last≤(b.length:Int))→∀ n s,mget eqI (I6 m code i) n=some s→0≤s.first∧s.first≤(b.length:Int)∧s.last≤(b.length:Int):=by
  intro code
  induction code with
  |nil=>intro m i _ _ h;exact h
  |cons x r ih=>
   intro m i h0 h1 h2
   simp only [List.length_cons,Int.natCast_add] at h1
   exact ih _ (i+1) (by omega) (by omega) (key _ (key m h2 x.from_ i h0 (by omega)).2 x.to (i+1) (by omega) (by omega)).1
 have h0:∀ n s,mget eqI (L3 a) n=some s→0≤s.first∧s.first≤(b.length:Int)∧s.last≤(b.length:Int):=by
  intro n s h
  unfold L3 at h
  rw [aG3] at h
  split at h
  ·cases h;dsimp only;omega
  ·cases h
 have h1:∀ n s,mget eqI (L4 a b c) n=some s→0≤s.first∧s.first≤(b.length:Int)∧s.last≤(b.length:Int):=
  (key _ (hC b (L3 a) 0 (by omega) (by omega) h0) c b.length (by omega) (Int.le_refl _)).2
 unfold A8 at h
 rw [aT0] at h
 cases hs:mget eqI (L4 a b c) n with
 |none=>rw [hs] at h;cases h
 |some s'=>
  rw [hs] at h
  simp only [Option.map_some,Option.some.injEq] at h
  have:=h1 n s' hs
  subst h
  unfold finS
  split
  ·show 0≤(0:Int)∧(0:Int)≤_∧(-1:Int)≤_
   omega
  ·exact this
theorem bk8 (a:Int) (b:List Ins) (c:List Int) (n:Int):0≤(getS (A8 a b c) n).first∧(getS (A8 a b c) n).first≤b.length∧(getS (A8 a b c) n).last≤b.length:=by
 unfold getS
 cases h:mget eqI (A8 a b c) n with
 |none=>simp
 |some s=>exact bk7 h
theorem ce3 (a:Int) (b:List Ins) (c d:List Int):vc (EVd [(23,[0])] noIt [(41,cCheck),(51,cSpans),(69,cAt)]) (ce0 a b c) Go.Proofs.Tryd.f33 cLive (a,b,c,d,()):=by
 rw [ce1 a b c d]
 intro e0 e1 e2 e3 e4 e5 hb _ _
 have he3:e3=((G2 ⟨a,b,c,d⟩).1,(G2 ⟨a,b,c,d⟩).2,()):=rfl
 refine ⟨fun h=>?_,fun h=>?_⟩
 ·have h:B0 ⟨a,b,c,d⟩≠0:=by simpa [e0] using h
  rw [he3]
  unfold G2
  rw [if_pos h]
 have h:B0 ⟨a,b,c,d⟩=0:=by simpa [e0] using h
 have C:=am5 h
 have hlb:=C.len
 have he3:e3=(B9 b c,0,()):=by
  rw [he3]
  unfold G2
  rw [if_neg (by simpa using h)]
 have hw:e1=((b.length+1:Nat):Int):=J4 (by omega) (by omega)
 clear_value e3 e1
 subst he3 hw
 simp only [e0,e2,e4,e5,true_and,and_true,Bool.cond_self]
 refine ⟨⟨by omega,by omega⟩,C.few,⟨(0,List.replicate (b.length+1) [],()),rfl,by dsimp only;rw [Int.toNat_natCast],Int.le_refl _,by dsimp only;omega,?_⟩,?_⟩
 ·dsimp only
  apply List.ext_getElem?
  intro p
  unfold Z5
  rw [List.getElem?_map,List.getElem?_replicate]
  by_cases hp:p<b.length+1
  ·rw [if_pos hp,List.getElem?_range hp];rfl
  ·rw [if_neg hp,List.getElem?_eq_none (by simp;omega)];rfl
 rintro ⟨i,out,⟨⟩⟩ ⟨h0,h1,h2⟩
 dsimp only at h0 h1 h2 ⊢
 obtain ⟨k,rfl⟩:=Int.eq_ofNat_of_zero_le h0
 rw [Int.toNat_natCast] at h2
 subst h2
 have hS:(mget (fun x y=>x==y) (A8 a b c) (k:Int)).getD ⟨0,0⟩=getS (A8 a b c) k:=rfl
 rw [hS]
 have hB:=bk8 a b c k
 refine ⟨fun hlt=>⟨⟨((getS (A8 a b c) k).first,Z5 (A8 a b c) b.length k,()),rfl,rfl,hB.1,by dsimp only;omega,Int.le_refl _,(bc5 _ _ _).symm⟩,?_⟩,fun hge=>?_⟩
 ·have hlt:(k:Int)<4000:=of_decide_eq_true hlt
  rintro ⟨q,out,⟨⟩⟩ ⟨q0,q1,q2,q3⟩
  dsimp only at q0 q1 q2 q3 ⊢
  obtain ⟨j,rfl⟩:=Int.eq_ofNat_of_zero_le q0
  subst q3
  simp only [Int.toNat_natCast]
  refine ⟨fun hc=>?_,fun hc=>?_⟩
  ·simp only [Bool.and_eq_true,decide_eq_true_eq] at hc
   have hsp:P7 (getS (A8 a b c) k).first (getS (A8 a b c) k).last j=true:=by
    simp only [P7,Bool.and_eq_true,Bool.not_eq_true',Bool.and_eq_false_iff,decide_eq_false_iff_not,decide_eq_true_eq]
    omega
   have hla:X7 (A8 a b c) j k=true:=by
    unfold X7
    unfold getS at hsp
    have hsome:(mget eqI (A8 a b c) (k:Int)).isSome=true:=hc.1
    cases hm:mget eqI (A8 a b c) (k:Int) with
    |none=>rw [hm] at hsome;cases hsome
    |some s=>rw [hm] at hsp;exact hsp
   have hj:j≤b.length:=by omega
   have hlen:∀ x∈P5 (A8 a b c) b.length k j,x.length≤4001:=by
    intro x hx
    unfold P5 at hx
    obtain ⟨p,_,rfl⟩:=List.mem_map.1 hx
    rw [List.length_append,Int.toNat_natCast]
    have h3:((upto k).filter (X7 (A8 a b c) p)).length≤k:=by
     refine Nat.le_trans (List.length_filter_le _ _) ?_
     simp [upto]
    split<;>simp<;>omega
   refine ⟨fun _=>⟨⟨q0,by rw [U3];omega⟩,?_,q0,by rw [U3];omega⟩,((j+1:Nat),P5 (A8 a b c) b.length k ((j+1:Nat):Int),()),B4 (m:=b.length+1) (by omega) (by omega),?_,⟨by omega,by dsimp only;omega,by dsimp only;omega,rfl⟩,by dsimp only;omega⟩
   ·have:=hlen _ (G6 (l:=P5 (A8 a b c) b.length k j) (i:=j) (by rw [U3];omega) [])
    simp only [List.length_singleton]
    omega
   ·rw [hsp]
    exact bk6 _ _ _ _ hj hla
  ·refine ⟨((k+1:Nat),Z5 (A8 a b c) b.length (k+1),()),B4 (m:=4000) (by omega) (by omega),?_,⟨by omega,by dsimp only;omega,by rw [Int.toNat_natCast]⟩,by dsimp only;omega⟩
   refine bz0 _ _ _ _ ?_
   rw [Bool.and_eq_false_iff,decide_eq_false_iff_not] at hc
   rcases hc with hc|hc
   ·exact .inl hc
   ·exact .inr (by omega)
 ·have hk:k=4000:=by have:¬ (k:Int)<4000:=of_decide_eq_false hge;omega
  subst hk
  refine ⟨⟨by omega,Int.le_refl _,Int.le_refl _⟩,?_⟩
  rw [Int.toNat_natCast,List.take_length,bU9 C]
theorem at1:C5 prog RG 33 cLive:=br9 bH3 (A5 V4 (A5 aG2 (A5 bs2 B8))) (fun p=>ce0 p.1 p.2.1 p.2.2.1) (by kernel_rfl) (by kernel_rfl) (by kernel_rfl) fun (a,b,c,d,()) _=>ce3 a b c d
def bK5 (m:Int) (p:List Int×Ins):Int:=max m ((C7 p.1 p.2.to).length:Int)
def K1 (lv:List (List Int)) (code:List Ins) (k:Nat):Int:=((lv.tail.zip code).take k).foldl bK5 ((lv.headD []).length:Int)
def af7 (l m:List Int):Int:=(l.length:Int)+((m.filter fun n=>!l.contains n).length:Int)
noncomputable def bK6 (code:List Ins) (out:List Int):Nat→St RU→Ann RU:=fun k s=>match k with
 |0=>⟨[],[.slot 27,.slot 6],[i64,i64],fun p=>0≤p.1∧p.1≤code.length∧p.2.1=K1 (B9 code out) code p.1.toNat,fun p=>code.length-p.1.toNat,[]⟩
 |_=>⟨[],[.slot 41,.slot 9],[i64,i64],fun p=>0≤p.1∧p.1≤(code.getD (s.intAt 27).toNat ins0).to.length∧p.2.1=af7 (atL code out ((s.intAt 27).toNat+1)) ((code.getD (s.intAt 27).toNat ins0).to.take p.1.toNat),fun p=>(code.getD (s.intAt 27).toNat ins0).to.length-p.1.toNat,[]⟩
def V6 (x3 x4:List Int) (x5:List Ins):Bool:=decide (x3.length≤17592186044416)&&decide (x4.length≤17592186044416)&&decide (x5.length≤1599289640354)&&H5 x5
def getI (m:List (Int×Int)) (n:Int):Int:=(mget eqI m n).getD 0
def ax3 (s:List Int×List (Int×Int)) (n:Int):List Int×List (Int×Int):=(s.1++[(s.2.length:Int)],mput eqI s.2 n s.2.length)
def G3 (m:List (Int×Int)) (l:List Int):List Int×List (Int×Int):=l.foldl ax3 ([],m)
noncomputable def cOld:Con RU:=⟨[one,one],[i64,mapI],[.d 0,.ptr 0 0],[.box 84 [.map 1],.map 1],none,none,[one],[i64,mapI],[.d 0],[.box 84 [.map 1],.map 1],fun p=>(getI p.2.1 p.1,p.2),[0,1],[],[]⟩
noncomputable def cNew:Con RU:=⟨[one,one],[i64,mapI],[.d 0,.ptr 0 0],[.box 84 [.map 1],.map 1],none,none,[one],[i64,mapI],[.d 0],[.box 84 [.map 1],.map 1],fun p=>((p.2.1.length:Int),mput eqI p.2.1 p.1 p.2.1.length,()),[0],[],[]⟩
noncomputable def cCalledP:Con RU:=⟨[(true,5),one,one],[i64,i64,ints,ints,inss,mapI],[.d 0,.d 1,.d 2,.d 3,.d 4,.clo 74 [0],.clo 71 [0]],[.box 84 [.map 1],.map 5],some fun p=>V6 p.2.2.1 p.2.2.2.1 p.2.2.2.2.1=true,none,
 [(true,5)],[i64,i64,ints,ints,inss,mapI],[.d 0,.d 1,.d 2,.d 3,.d 4],[.box 84 [.map 1],.map 5],
 fun p=>(p.1,p.2.1,(G3 p.2.2.2.2.2.1 p.2.2.1).1,p.2.2.2.1.map (getI p.2.2.2.2.2.1),p.2.2.2.2.1,(G3 p.2.2.2.2.2.1 p.2.2.1).2,()),[0],[],[]⟩
noncomputable def aT1 (x1 x2:Int) (x3 x4:List Int) (x5:List Ins) (m:List (Int×Int)):Nat→St RU→Ann RU:=fun k s=>match k with
 |0=>⟨[],[.slot 20,.row 896],[i64,inss],fun p=>0≤p.1∧p.1≤x4.length∧p.2.1=[⟨x1,x2,x3,(x4.take p.1.toNat).map (getI m)++x4.drop p.1.toNat,x5⟩],fun p=>x4.length-p.1.toNat,[]⟩
 |_=>⟨[],[.slot 36,.row 896,.row 1000001],[i64,inss,mapI],fun p=>0≤p.1∧p.1≤x3.length∧p.2.1=[⟨x1,x2,(G3 m (x3.take p.1.toNat)).1++x3.drop p.1.toNat,x4.map (getI m),x5⟩]∧p.2.2.1=(G3 m (x3.take p.1.toNat)).2,fun p=>x3.length-p.1.toNat,[]⟩
end Go.Rg
end
section
set_option maxRecDepth 100000
open Go Go.VT
namespace Go.Rg
theorem bV0 (a:Int) (b:List Ins) (c d:List Int):vc (EV [(33,cLive),(61,cContains)]) (bK6 b c) Go.Proofs.Tryd.f29 cPress (a,b,c,d,())=(let e0:Bool:=(G2 (VFun.mk a b c d)).2 !=(0:Int);
 let e1:List (List Int):=(G2 (VFun.mk a b c d)).1;
 let e2:Int:=(G2 (VFun.mk a b c d)).2;
 let e3:Int:=(↑(List.length b):Int);
 let e4:Ins:=Ins.mk (0:Int) (0:Int) [] [] [];
 let e5:Int×Int×Unit:=((H6 (VFun.mk a b c d)).1,(H6 (VFun.mk a b c d)).2,());
 let e6:Int:=(↑(List.length e1):Int);
  Small RU (Sigma.mk (Ty.slice (52:Nat) (Ty.user (0:Nat))) b)→
  Small RU (Sigma.mk (Ty.slice (3:Nat) (Ty.int IntKind.i64)) c)→
  Small RU (Sigma.mk (Ty.slice (3:Nat) (Ty.int IntKind.i64)) d)→
  (e0=true→((0:Int),e2,())=e5)∧
  (e0=false→
  ((0:Int)≤(0:Int)∧(0:Int)<e6)∧
  (∃ (p:Int×Int×Unit),
  a=a∧
  b=b∧
  c=c∧
  d=d∧
  (0:Int)=(0:Int)∧
  (0:Int)=(0:Int)∧
  e1=e1∧
  e2=e2∧
  e0=e0∧
  b=b∧
  e3=e3∧
  (0:Int)=p.1∧
  (↑(List.length (List.getD e1 (0:Nat) [])):Int)=p.2.1∧
  a=a∧b=b∧c=c∧d=d∧(0:Int)≤p.1∧p.1≤e3∧p.2.1=K1 (B9 b c) b (Int.toNat p.1))∧
  ∀ (p:Int×Int×Unit),
 let e0_1:Bool:=decide (p.1<e3);
 let e1_1:Int:=(↑(List.length (List.getD b (Int.toNat p.1) e4).to):Int);
 let e2_1:Int:=p.2.1;
 let e3_1:Int:=IntKind.wrap IntKind.i64 (p.1+(1:Int));
 let e4_1:List Int:=(List.getD b (Int.toNat p.1) e4).to;
 let e5_1:Int:=p.1;
 let e6_1:Int:=(List.getD b (Int.toNat e5_1) e4).n;
 let e7:Int:=(List.getD b (Int.toNat e5_1) e4).op;
 let e8:List Int:=(List.getD b (Int.toNat e5_1) e4).from_;
 let e9:List Ins:=(List.getD b (Int.toNat e5_1) e4).body;
 let e10:Nat:=List.length (List.getD b (Int.toNat e5_1) ins0).to;
  (0:Int)≤e5_1∧e5_1≤e3∧e2_1=K1 (B9 b c) b (Int.toNat e5_1)→
  (e0_1=true→
  ((0:Int)≤e5_1∧e5_1<e3)∧
  ((0:Int)≤e3_1∧e3_1<e6)∧
  (∃ (p:Int×Int×Unit),
  a=a∧
  b=b∧
  c=c∧
  d=d∧
  (0:Int)=(0:Int)∧
  (0:Int)=(0:Int)∧
  e1=e1∧
  e2=e2∧
  e0=e0∧
  b=b∧
  e3=e3∧
  e5_1=e5_1∧
  e2_1=e2_1∧
  e0_1=e0_1∧
  e5_1=e5_1∧
  e4_1=e4_1∧
  e1_1=e1_1∧
  (0:Int)=p.1∧
  (↑(List.length (List.getD e1 (Int.toNat e3_1) [])):Int)=p.2.1∧
  a=a∧
  b=b∧
  c=c∧
  d=d∧
  e7=e7∧
  e6_1=e6_1∧
  e4_1=e4_1∧
  e8=e8∧
  e9=e9∧
  (0:Int)≤p.1∧
  p.1≤(↑e10:Int)∧
  p.2.1=
  af7 (atL b c (Int.toNat e5_1+(1:Nat)))
  (List.take (Int.toNat p.1) (List.getD b (Int.toNat e5_1) ins0).to))∧
  ∀ (p:Int×Int×Unit),
 let e0_2:Bool:=!List.contains (List.getD e1 (Int.toNat e3_1) []) (List.getD e4_1 (Int.toNat p.1) (0:Int));
 let e1_2:Int:=p.2.1;
 let e2_2:Int:=p.1;
 let e3_2:Bool:=decide (e2_2<e1_1);
 let e4:List Int:=atL b c (Int.toNat e5_1+(1:Nat));
  (0:Int)≤e2_2∧e2_2≤(↑e10:Int)∧e1_2=af7 e4 (List.take (Int.toNat e2_2) (List.getD b (Int.toNat e5_1) ins0).to)→
  (e3_2=true→
  ((0:Int)≤e2_2∧e2_2<e1_1)∧
  ((0:Int)≤e3_1∧e3_1<e6)∧
  ∃ (p':Int×Int×Unit),
  (bif e0_2 then a else a)=a∧
  (bif e0_2 then b else b)=b∧
  (bif e0_2 then c else c)=c∧
  (bif e0_2 then d else d)=d∧
  (bif e0_2 then (0:Int) else (0:Int))=(0:Int)∧
  (bif e0_2 then (0:Int) else (0:Int))=(0:Int)∧
  (bif e0_2 then e1 else e1)=e1∧
  (bif e0_2 then e2 else e2)=e2∧
  (bif e0_2 then e0 else e0)=e0∧
  (bif e0_2 then b else b)=b∧
  (bif e0_2 then e3 else e3)=e3∧
  (bif e0_2 then e5_1 else e5_1)=e5_1∧
  (bif e0_2 then e2_1 else e2_1)=e2_1∧
  (bif e0_2 then e0_1 else e0_1)=e0_1∧
  (bif e0_2 then e5_1 else e5_1)=e5_1∧
  (bif e0_2 then e4_1 else e4_1)=e4_1∧
  (bif e0_2 then e1_1 else e1_1)=e1_1∧
  IntKind.wrap IntKind.i64 ((bif e0_2 then e2_2 else e2_2)+(1:Int))=p'.1∧
  (bif e0_2 then IntKind.wrap IntKind.i64 (e1_2+(1:Int)) else e1_2)=p'.2.1∧
  (bif e0_2 then a else a)=a∧
  (bif e0_2 then b else b)=b∧
  (bif e0_2 then c else c)=c∧
  (bif e0_2 then d else d)=d∧
  (bif e0_2 then e7 else e7)=e7∧
  (bif e0_2 then e6_1 else e6_1)=e6_1∧
  (bif e0_2 then e4_1 else e4_1)=e4_1∧
  (bif e0_2 then e8 else e8)=e8∧
  (bif e0_2 then e9 else e9)=e9∧
  ((0:Int)≤p'.1∧
  p'.1≤(↑e10:Int)∧
  p'.2.1=af7 e4 (List.take (Int.toNat p'.1) (List.getD b (Int.toNat e5_1) ins0).to))∧
  e10-Int.toNat p'.1<e10-Int.toNat e2_2)∧
  (e3_2=false→
  ∃ (p':Int×Int×Unit),
  a=a∧
  b=b∧
  c=c∧
  d=d∧
  (0:Int)=(0:Int)∧
  (0:Int)=(0:Int)∧
  e1=e1∧
  e2=e2∧
  e0=e0∧
  b=b∧
  e3=e3∧
  e3_1=p'.1∧
  (if e1_2 >e2_1 then e1_2 else e2_1)=p'.2.1∧
  a=a∧
  b=b∧
  c=c∧
  d=d∧
  ((0:Int)≤p'.1∧p'.1≤e3∧p'.2.1=K1 (B9 b c) b (Int.toNat p'.1))∧
  List.length b-Int.toNat p'.1<List.length b-Int.toNat e5_1))∧
  (e0_1=false→(e2_1,(0:Int),())=e5))):=by kernel_rfl
theorem ck3 (n:Int) (m:List (Int×Int)):vc (EV []) noL Go.Proofs.Tryd.f71 cOld (n,m,())=((Option.getD (mget (fun (x y:Int)=>x==y) m n) (0:Int),m,())=(getI m n,m,())):=by kernel_rfl
theorem ck4 (n:Int) (m:List (Int×Int)):vc (EV []) noL Go.Proofs.Tryd.f74 cNew (n,m,())=(let e0:List (Int×Int):=mput (fun (x y:Int)=>x==y) m n (↑(List.length m):Int);
 (Option.getD (mget (fun (x y:Int)=>x==y) e0 n) (0:Int),e0,())=((↑(List.length m):Int),mput eqI m n (↑(List.length m):Int),())):=by kernel_rfl
theorem bz1 (x1 x2:Int) (x3 x4:List Int) (x5:List Ins) (m:List (Int×Int)):vc (EV [(96,cBody),(71,cOld),(74,cNew)]) (aT1 x1 x2 x3 x4 x5 m) Go.Proofs.Tryd.f73 cCalledP (x1,x2,x3,x4,x5,m,())=(let e0:Ins:=Ins.mk (0:Int) (0:Int) [] [] [];
 let e1:List Ins:=[Ins.mk x1 x2 x3 x4 x5];
 let e2:Int:=(↑(List.length x4):Int);
  Small RU (Sigma.mk (Ty.slice (3:Nat) (Ty.int IntKind.i64)) x3)→
  Small RU (Sigma.mk (Ty.slice (3:Nat) (Ty.int IntKind.i64)) x4)→
  Small RU (Sigma.mk (Ty.slice (52:Nat) (Ty.user (0:Nat))) x5)→
  (List.length e1≤(1599289640354:Nat)∧H5 e1=true)∧
  ((0:Int)≤(0:Int)∧(0:Int)<(↑(List.length e1):Int))∧
  (∃ (p:Int×List Ins×Unit),
  x1=x1∧
  x2=x2∧
  x3=x3∧
  x4=x4∧
  x5=x5∧
  (0:Int)=(0:Int)∧
  e2=e2∧
  (0:Int)=p.1∧
  m=m∧
  x1=x1∧
  x2=x2∧
  x3=x3∧
  x4=x4∧
  x5=x5∧
  (0:Int)=(0:Int)∧
  (0:Int)=(0:Int)∧
  e1=e1∧
  e1=p.2.1∧
  x1=x1∧
  x2=x2∧
  (0:Int)=(0:Int)∧
  (0:Int)=(0:Int)∧
  x5=x5∧
  (0:Int)≤p.1∧
  p.1≤e2∧p.2.1=[Ins.mk x1 x2 x3 (List.map (getI m) (List.take (Int.toNat p.1) x4)++List.drop (Int.toNat p.1) x4) x5])∧
  ∀ (p:Int×List Ins×Unit),
 let e0_1:Ins:=List.getD p.2.1 (0:Nat) e0;
 let e1_1:Bool:=decide (p.1<e2);
 let e2_1:Int:=p.1;
 let e3:List Ins:=p.2.1;
 let e4:Int:=(↑(List.length e0_1.to):Int);
  (0:Int)≤e2_1∧e2_1≤e2∧e3=[Ins.mk x1 x2 x3 (List.map (getI m) (List.take (Int.toNat e2_1) x4)++List.drop (Int.toNat e2_1) x4) x5]→
  (e1_1=true→
  ((0:Int)≤e2_1∧e2_1<(↑(List.length e0_1.from_):Int))∧
  (True∧m=m∧True)∧
  ((0:Int)≤e2_1∧e2_1<(↑(List.length e0_1.from_):Int))∧
  ∃ (p':Int×List Ins×Unit),
  x1=x1∧
  x2=x2∧
  x3=x3∧
  x4=x4∧
  x5=x5∧
  (0:Int)=(0:Int)∧
  e2=e2∧
  IntKind.wrap IntKind.i64 (e2_1+(1:Int))=p'.1∧
  m=m∧
  x1=x1∧
  x2=x2∧
  x3=x3∧
  x4=x4∧
  x5=x5∧
  (0:Int)=(0:Int)∧
  (0:Int)=(0:Int)∧
  e1=e1∧
  List.set e3 (0:Nat)
  (Ins.mk e0_1.op e0_1.n e0_1.to (List.set e0_1.from_ (Int.toNat e2_1) (getI m (List.getD e0_1.from_ (Int.toNat e2_1) (0:Int))))
  e0_1.body)=
  p'.2.1∧
  x1=x1∧
  x2=x2∧
  (0:Int)=(0:Int)∧
  (0:Int)=(0:Int)∧
  x5=x5∧
  ((0:Int)≤p'.1∧
  p'.1≤e2∧
  p'.2.1=
  [Ins.mk x1 x2 x3 (List.map (getI m) (List.take (Int.toNat p'.1) x4)++List.drop (Int.toNat p'.1) x4) x5])∧
  List.length x4-Int.toNat p'.1<List.length x4-Int.toNat e2_1)∧
  (e1_1=false→
  (∃ (p:Int×List Ins×List (Int×Int)×Unit),
  x1=x1∧
  x2=x2∧
  x3=x3∧
  x4=x4∧
  x5=x5∧
  (0:Int)=(0:Int)∧
  e2=e2∧
  e2_1=e2_1∧
  e1_1=e1_1∧
  (0:Int)=(0:Int)∧
  e4=e4∧
  (0:Int)=p.1∧
  m=p.2.2.1∧
  x1=x1∧
  x2=x2∧
  x3=x3∧
  x4=x4∧
  x5=x5∧
  (0:Int)=(0:Int)∧
  (0:Int)=(0:Int)∧
  e1=e1∧
  e3=p.2.1∧
  x1=x1∧
  x2=x2∧
  (0:Int)=(0:Int)∧
  (0:Int)=(0:Int)∧
  x5=x5∧
  (0:Int)≤p.1∧
  p.1≤(↑(List.length x3):Int)∧
  p.2.1=
  [Ins.mk x1 x2 ((G3 m (List.take (Int.toNat p.1) x3)).1++List.drop (Int.toNat p.1) x3)
  (List.map (getI m) x4) x5]∧
  p.2.2.1=(G3 m (List.take (Int.toNat p.1) x3)).2)∧
  ∀ (p:Int×List Ins×List (Int×Int)×Unit),
 let e0:Ins:=List.getD p.2.1 (0:Nat) e0;
 let e1_2:List (Int×Int):=p.2.2.1;
 let e2_2:Int:=p.1;
 let e3:List Ins:=p.2.1;
 let e4_1:Bool:=decide (e2_2<e4);
  (0:Int)≤e2_2∧
  e2_2≤(↑(List.length x3):Int)∧
  e3=[Ins.mk x1 x2 ((G3 m (List.take (Int.toNat e2_2) x3)).1++List.drop (Int.toNat e2_2) x3) (List.map (getI m) x4) x5]∧
  e1_2=(G3 m (List.take (Int.toNat e2_2) x3)).2→
  (e4_1=true→
  ((0:Int)≤e2_2∧e2_2<(↑(List.length e0.to):Int))∧
  True∧
  ((0:Int)≤e2_2∧e2_2<(↑(List.length e0.to):Int))∧
  ∃ (p':Int×List Ins×List (Int×Int)×Unit),
  x1=x1∧
  x2=x2∧
  x3=x3∧
  x4=x4∧
  x5=x5∧
  (0:Int)=(0:Int)∧
  e2=e2∧
  e2_1=e2_1∧
  e1_1=e1_1∧
  (0:Int)=(0:Int)∧
  e4=e4∧
  IntKind.wrap IntKind.i64 (e2_2+(1:Int))=p'.1∧
  mput eqI e1_2 (List.getD e0.to (Int.toNat e2_2) (0:Int)) (↑(List.length e1_2):Int)=p'.2.2.1∧
  x1=x1∧
  x2=x2∧
  x3=x3∧
  x4=x4∧
  x5=x5∧
  (0:Int)=(0:Int)∧
  (0:Int)=(0:Int)∧
  e1=e1∧
  List.set e3 (0:Nat)
  (Ins.mk e0.op e0.n (List.set e0.to (Int.toNat e2_2) (↑(List.length e1_2):Int)) e0.from_ e0.body)=
  p'.2.1∧
  x1=x1∧
  x2=x2∧
  (0:Int)=(0:Int)∧
  (0:Int)=(0:Int)∧
  x5=x5∧
  ((0:Int)≤p'.1∧
  p'.1≤(↑(List.length x3):Int)∧
  p'.2.1=
  [Ins.mk x1 x2
  ((G3 m (List.take (Int.toNat p'.1) x3)).1++List.drop (Int.toNat p'.1) x3)
  (List.map (getI m) x4) x5]∧
  p'.2.2.1=(G3 m (List.take (Int.toNat p'.1) x3)).2)∧
  List.length x3-Int.toNat p'.1<List.length x3-Int.toNat e2_2)∧
  (e4_1=false→(x1,x2,e0.to,e0.from_,x5,e1_2,())=(x1,x2,(G3 m x3).1,List.map (getI m) x4,x5,(G3 m x3).2,())))):=by kernel_rfl
end Go.Rg
end
section
set_option maxRecDepth 100000
namespace Go.Rg
open Go Go.VT
theorem aG6 {l:List Int} (h:incr l) (n:Int):(J3 l n).length=if n∈l then l.length else l.length+1:=by
 induction l with
 |nil=>simp [J3]
 |cons x r ih=>
  obtain ⟨h1,h2⟩:=List.pairwise_cons.1 h
  simp only [J3]
  by_cases hx:x=n
  ·simp [hx]
  ·rw [if_neg hx]
   by_cases hlt:n<x
   ·have:n∉x::r:=by
     intro hm
     rcases List.mem_cons.1 hm with hm|hm
     ·exact hx hm.symm
     ·have:=h1 n hm;omega
    simp [hlt,this]
   ·rw [if_neg hlt,List.length_cons,ih h2]
    have:(n∈x::r)=(n∈r):=by simp [Ne.symm hx]
    simp only [this,List.length_cons]
    split<;>omega
theorem bc6 {l:List Int} (h:incr l):∀ {m:List Int},m.Nodup→((C7 l m).length:Int)=af7 l m:=by
 intro m
 induction m generalizing l with
 |nil=>intro _;simp [C7,af7]
 |cons x r ih=>
  intro hn
  obtain ⟨hn1,hn2⟩:=List.nodup_cons.1 hn
  rw [show C7 l (x::r)=C7 (J3 l x) r from rfl,ih (aM4 h x) hn2]
  unfold af7
  have hf:(r.filter fun n=>!(J3 l x).contains n)=r.filter fun n=>!l.contains n:=by
   apply List.filter_congr
   intro y hy
   have:(J3 l x).contains y=l.contains y:=by
    rw [Bool.eq_iff_iff,List.contains_iff_mem,List.contains_iff_mem,aF2]
    constructor
    ·rintro (rfl|h)
     ·exact absurd hy hn1
     ·exact h
    ·exact .inr
   rw [this]
  rw [hf,aG6 h,List.filter_cons]
  by_cases hx:x∈l
  ·simp [hx]
  ·simp [hx];omega
theorem aN3 (b:List Ins) (c:List Int) {k:Nat} (h:k<b.length):K1 (B9 b c) b (k+1)=max (K1 (B9 b c) b k) ((C7 (atL b c (k+1)) (b.getD k ins0).to).length:Int):=by
 unfold K1
 have hlen:k<((B9 b c).tail.zip b).length:=by
  rw [List.length_zip,List.length_tail,H0];omega
 have hk:((B9 b c).tail.zip b).getD k ([],ins0)=(atL b c (k+1),b.getD k ins0):=by
  rw [List.getD_eq_getElem?_getD,List.getElem?_eq_getElem hlen]
  simp only [Option.getD_some,List.getElem_zip]
  unfold atL
  rw [List.getD_eq_getElem?_getD,List.getD_eq_getElem?_getD,List.getElem?_eq_getElem (by rw [H0];omega),List.getElem?_eq_getElem h]
  simp
 rw [A4 hlen ([],ins0),hk,List.foldl_append]
 rfl
theorem bs5 {a:Int} {b:List Ins} {c:List Int} (C:Checked a b c) {k:Nat} (h:k<b.length):(b.getD k ins0).to.Nodup:=by
 have h1:=F8.1 C.once
 have h2:=af5 h
 have h3:(wr (b.take (k+1))).Nodup:=by
  rw [←List.take_append_drop (k+1) b,L7] at h1
  exact (List.nodup_append.1 h1).1
 rw [h2] at h3
 exact (List.nodup_append.1 h3).2.1
theorem bz2 {l m:List Int} {j:Nat} (h:j<m.length):af7 l (m.take (j+1))=if !l.contains (m.getD j 0) then af7 l (m.take j)+1 else af7 l (m.take j):=by
 unfold af7
 rw [A4 h 0,List.filter_append,List.length_append,List.filter_cons]
 split<;>simp<;>omega
theorem bV1 (a:Int) (b:List Ins) (c d:List Int):vc (EV [(33,cLive),(61,cContains)]) (bK6 b c) Go.Proofs.Tryd.f29 cPress (a,b,c,d,()):=by
 rw [bV0 a b c d]
 intro e0 e1 e2 e3 e4 e5 e6 hb _ _
 have he5:e5=((H6 ⟨a,b,c,d⟩).1,(H6 ⟨a,b,c,d⟩).2,()):=rfl
 have he4:e4=ins0:=rfl
 have hl2:(G2 ⟨a,b,c,d⟩).2=B0 ⟨a,b,c,d⟩:=by
  unfold G2
  by_cases h:B0 ⟨a,b,c,d⟩=0
  ·rw [if_neg (by simpa using h),h]
  ·rw [if_pos h]
 refine ⟨fun h=>?_,fun h=>?_⟩
 ·have h:B0 ⟨a,b,c,d⟩≠0:=by simpa [e0,hl2] using h
  rw [he5]
  unfold H6
  rw [if_pos h]
  simp only [e2,hl2]
 have h:B0 ⟨a,b,c,d⟩=0:=by simpa [e0,hl2] using h
 have C:=am5 h
 have hlb:=C.len
 have he1:e1=B9 b c:=by
  show (G2 ⟨a,b,c,d⟩).1=_
  unfold G2
  rw [if_neg (by simpa using h)]
 have he5:e5=(K1 (B9 b c) b b.length,0,()):=by
  rw [he5]
  unfold H6
  rw [if_neg (by simpa using h)]
  unfold K1
  rw [List.take_of_length_le (by rw [List.length_zip];omega)]
  rfl
 have he6:e6=b.length+1:=by
  show ((List.length e1:Nat):Int)=_
  rw [he1,H0];rfl
 clear_value e5 e1 e6 e4
 subst he5 he1 he4 he6
 dsimp only [e3]
 simp only [true_and,and_true,Bool.cond_self]
 refine ⟨⟨Int.le_refl _,by omega⟩,⟨(0,_,()),rfl,rfl,Int.le_refl _,by dsimp only;omega,?_⟩,?_⟩
 ·show ((atL b c 0).length:Int)=K1 (B9 b c) b 0
  rw [N3]
  rfl
 rintro ⟨i,m,⟨⟩⟩ ⟨h0,h1,h2⟩
 dsimp only at h0 h1 h2 ⊢
 subst h2
 obtain ⟨k,rfl⟩:=Int.eq_ofNat_of_zero_le h0
 simp only [Int.toNat_natCast]
 refine ⟨fun hlt=>?_,fun hge=>?_⟩
 ·have hlt:(k:Int)<b.length:=of_decide_eq_true hlt
  have hw:IntKind.i64.wrap ((k:Int)+1)=((k+1:Nat):Int):=B4 (by omega) (by omega:b.length≤140737488355328)
  rw [hw]
  simp only [Int.toNat_natCast]
  have hto:(b.getD k ins0).to.length≤140737488355328:=as8 (b:=b) hb (by omega)
  have hat:(B9 b c).getD (k+1) []=atL b c (k+1):=rfl
  rw [hat]
  refine ⟨⟨h0,hlt⟩,⟨by omega,by omega⟩,⟨(0,_,()),rfl,rfl,Int.le_refl _,by dsimp only;omega,by simp [af7]⟩,?_⟩
  rintro ⟨q,n,⟨⟩⟩ ⟨q0,q1,q2⟩
  dsimp only at q0 q1 q2 ⊢
  obtain ⟨j,rfl⟩:=Int.eq_ofNat_of_zero_le q0
  subst q2
  simp only [Int.toNat_natCast]
  have hal:(atL b c (k+1)).length≤4000:=by
   have h3:=ai7 c b (k+1)
   have h4:((atL b c (k+1)).map Int.toNat).Nodup:=by
    rw [List.Nodup,List.pairwise_map]
    exact h3.imp_of_mem (fun {x y} hx hy hxy he=>by have:=aG5 C hx;have:=aG5 C hy;omega)
   have:=X8 4000 _ h4 (fun x hx=>by
    obtain ⟨y,hy,rfl⟩:=List.mem_map.1 hx
    have:=aG5 C hy
    omega)
   simpa using this
  refine ⟨fun hc=>?_,fun hc=>?_⟩
  ·have hc:(j:Int)<(b.getD k ins0).to.length:=of_decide_eq_true hc
   have hb2:af7 (atL b c (k+1)) ((b.getD k ins0).to.take j)≤4000+j:=by
    unfold af7
    have:=List.length_filter_le (fun n=>!(atL b c (k+1)).contains n) ((b.getD k ins0).to.take j)
    rw [List.length_take] at this
    omega
   have hb3:0≤af7 (atL b c (k+1)) ((b.getD k ins0).to.take j):=by unfold af7;omega
   refine ⟨⟨q0,hc⟩,⟨by omega,by omega⟩,((j+1:Nat),af7 (atL b c (k+1)) ((b.getD k ins0).to.take (j+1)),()),B4 (by omega) hto,?_,⟨by omega,by dsimp only;omega,by rw [Int.toNat_natCast]⟩,by dsimp only;omega⟩
   dsimp only
   rw [bz2 (by omega),J4 (by omega) (by omega)]
   cases (!(atL b c (k+1)).contains ((b.getD k ins0).to.getD j 0))<;>rfl
  ·have hj:j=(b.getD k ins0).to.length:=by have:¬ (j:Int)<(b.getD k ins0).to.length:=of_decide_eq_false hc;omega
   subst hj
   rw [List.take_length]
   refine ⟨((k+1:Nat),K1 (B9 b c) b (k+1),()),rfl,?_,⟨by omega,by dsimp only;omega,by rw [Int.toNat_natCast]⟩,by dsimp only;omega⟩
   dsimp only
   rw [aN3 b c (by omega),bc6 (ai7 c b (k+1)) (bs5 C (by omega))]
   split<;>omega
 ·have hk:k=b.length:=by have:¬ (k:Int)<b.length:=of_decide_eq_false hge;omega
  subst hk
  rfl
theorem aG7:C5 prog RG 29 cPress:=D8 (A5 at1 (A5 M8 B8)) (fun p=>bK6 p.2.1 p.2.2.1) (by kernel_rfl) (by kernel_rfl) (by kernel_rfl) fun (a,b,c,d,()) _=>bV1 a b c d
theorem bK7 (n:Int) (m:List (Int×Int)):Option.getD (mget (fun (x y:Int)=>x==y) m n) (0:Int)=getI m n:=rfl
theorem ck5 (n:Int) (m:List (Int×Int)):vc (EV []) noL Go.Proofs.Tryd.f71 cOld (n,m,()):=by
 rw [ck3 n m,bK7]
theorem bc7:C5 prog RG 71 cOld:=D8 B8 (fun _=>noL) (by kernel_rfl) (by kernel_rfl) (by kernel_rfl) fun (n,m,()) _=>ck5 n m
theorem ck6 (n:Int) (m:List (Int×Int)):vc (EV []) noL Go.Proofs.Tryd.f74 cNew (n,m,()):=by
 rw [ck4 n m]
 intro e0
 have he:e0=mput eqI m n m.length:=rfl
 clear_value e0
 subst he
 rw [bK7]
 unfold getI
 rw [M9,if_pos rfl]
 rfl
theorem bK8:C5 prog RG 74 cNew:=D8 B8 (fun _=>noL) (by kernel_rfl) (by kernel_rfl) (by kernel_rfl) fun (n,m,()) _=>ck6 n m
theorem am6 {A l:List Int} {i:Nat} (hA:A.length=i) (h:i<l.length):(A++l.drop i).getD i 0=l.getD i 0:=by
 rw [List.getD_eq_getElem?_getD,List.getD_eq_getElem?_getD,List.getElem?_append_right (by omega),hA,Nat.sub_self,List.getElem?_drop,Nat.add_zero]
theorem am7 {A l:List Int} {i:Nat} (hA:A.length=i) (h:i<l.length) (v:Int):(A++l.drop i).set i v=(A++[v])++l.drop (i+1):=by
 rw [List.set_append_right _ _ (by omega),hA,Nat.sub_self,List.drop_eq_getElem_cons h,List.set_cons_zero]
 simp
theorem Q8 {A l:List Int} {i:Nat} (hA:A.length=i) (h:i≤l.length):(A++l.drop i).length=l.length:=by
 rw [List.length_append,List.length_drop];omega
theorem bc8 (l:List Int):∀ (m:List (Int×Int)),(G3 m l).1.length=l.length:=by
 have key:∀ (l:List Int) (s:List Int×List (Int×Int)),(l.foldl ax3 s).1.length=s.1.length+l.length:=by
  intro l
  induction l with
  |nil=>intro s;simp
  |cons x r ih=>intro s;simp [ih,ax3];omega
 intro m
 rw [G3,key]
 simp
theorem bz3 (m:List (Int×Int)) (l:List Int) (x:Int):G3 m (l++[x])=ax3 (G3 m l) x:=by simp [G3]
theorem U5 {x3 x4:List Int} {x5:List Ins}:V6 x3 x4 x5=true↔(x3.length≤17592186044416∧x4.length≤17592186044416∧x5.length≤1599289640354)∧H5 x5=true:=by
 simp only [V6,Bool.and_eq_true,decide_eq_true_eq]
 constructor
 ·rintro ⟨⟨⟨h1,h2⟩,h3⟩,h4⟩;exact ⟨⟨h1,h2,h3⟩,h4⟩
 ·rintro ⟨⟨h1,h2,h3⟩,h4⟩;exact ⟨⟨⟨h1,h2⟩,h3⟩,h4⟩
theorem bz4 (x1 x2:Int) (x3 x4:List Int) (x5:List Ins) (m:List (Int×Int)) (hp:V6 x3 x4 x5=true):vc (EV [(96,cBody),(71,cOld),(74,cNew)]) (aT1 x1 x2 x3 x4 x5 m) Go.Proofs.Tryd.f73 cCalledP (x1,x2,x3,x4,x5,m,()):=by
 rw [bz1 x1 x2 x3 x4 x5 m]
 intro e0 e1 e2 hs3 hs4 _
 have hl3:x3.length≤140737488355328:=hs3.len
 have hl4:x4.length≤140737488355328:=hs4.len
 dsimp only [e0,e1,e2]
 simp only [true_and,and_true]
 refine ⟨⟨by simp,?_⟩,⟨by omega,by simp⟩,⟨(0,_,()),rfl,rfl,Int.le_refl _,by dsimp only;omega,by simp⟩,?_⟩
 ·simp only [H5,Bool.and_true]
  exact (P3 _).2 (U5.1 hp)
 rintro ⟨i,l,⟨⟩⟩ ⟨h0,h1,h2⟩
 dsimp only at h0 h1 h2 ⊢
 subst h2
 obtain ⟨k,rfl⟩:=Int.eq_ofNat_of_zero_le h0
 simp only [Int.toNat_natCast,List.getD_cons_zero,List.set_cons_zero]
 have hA:((x4.take k).map (getI m)).length=k:=by simp;omega
 refine ⟨fun hlt=>?_,fun hge=>?_⟩
 ·have hlt:(k:Int)<x4.length:=of_decide_eq_true hlt
  rw [Q8 hA (by omega),am6 hA (by omega),am7 hA (by omega)]
  refine ⟨⟨h0,hlt⟩,⟨h0,hlt⟩,((k+1:Nat),[⟨x1,x2,x3,(x4.take (k+1)).map (getI m)++x4.drop (k+1),x5⟩],()),B4 (by omega) hl4,?_,⟨by omega,by dsimp only;omega,by dsimp only;rw [Int.toNat_natCast]⟩,by dsimp only;omega⟩
  dsimp only
  rw [A4 (by omega) 0,List.map_append]
  rfl
 have hk:k=x4.length:=by have:¬ (k:Int)<x4.length:=of_decide_eq_false hge;omega
 subst hk
 simp only [List.take_length,List.drop_length,List.append_nil]
 clear h0 h1 hge hA
 refine ⟨⟨(0,_,m,()),rfl,rfl,rfl,Int.le_refl _,by dsimp only;omega,by simp [G3],by simp [G3]⟩,?_⟩
 rintro ⟨i,l,m2,⟨⟩⟩ ⟨h0,h1,h2,h3⟩
 dsimp only at h0 h1 h2 h3 ⊢
 subst h2 h3
 obtain ⟨k,rfl⟩:=Int.eq_ofNat_of_zero_le h0
 simp only [Int.toNat_natCast,List.getD_cons_zero,List.set_cons_zero]
 have hA:(G3 m (x3.take k)).1.length=k:=by rw [bc8,List.length_take];omega
 refine ⟨fun hlt=>?_,fun hge=>?_⟩
 ·have hlt:(k:Int)<x3.length:=of_decide_eq_true hlt
  rw [Q8 hA (by omega),am6 hA (by omega),am7 hA (by omega)]
  have hn:G3 m (x3.take (k+1))=ax3 (G3 m (x3.take k)) (x3.getD k 0):=by rw [A4 (by omega) 0,bz3]
  refine ⟨⟨h0,hlt⟩,⟨h0,hlt⟩,((k+1:Nat),[⟨x1,x2,(G3 m (x3.take (k+1))).1++x3.drop (k+1),x4.map (getI m),x5⟩],(G3 m (x3.take (k+1))).2,()),B4 (by omega) hl3,?_,?_,⟨by omega,by dsimp only;omega,by dsimp only;rw [Int.toNat_natCast],by dsimp only;rw [Int.toNat_natCast]⟩,by dsimp only;omega⟩
  ·dsimp only
   rw [hn]
   rfl
  ·dsimp only
   rw [hn]
   rfl
 ·have hk:k=x3.length:=by have:¬ (k:Int)<x3.length:=of_decide_eq_false hge;omega
  subst hk
  simp only [List.take_length,List.drop_length,List.append_nil]
theorem aT2:C5 prog RG 73 cCalledP:=D8 (A5 as7 (A5 bc7 (A5 bK8 B8))) (fun p=>aT1 p.1 p.2.1 p.2.2.1 p.2.2.2.1 p.2.2.2.2.1 p.2.2.2.2.2.1) (by kernel_rfl) (by kernel_rfl) (by kernel_rfl) fun (x1,x2,x3,x4,x5,m,()) hp=>bz4 x1 x2 x3 x4 x5 m hp
def idm (n:Nat):List (Int×Int):=(upto n).foldl (fun m k=>mput eqI m k k) []
def bK9 (m:List (Int×Int)) (x:Ins):Ins:=⟨x.op,x.n,(G3 m x.to).1,x.from_.map (getI m),x.body⟩
def L5 (m:List (Int×Int)) (l:List Ins):List (Int×Int):=l.foldl (fun m x=>(G3 m x.to).2) m
def T0:List (Int×Int)→List Ins→List Ins
 |_,[]=>[]
 |m,x::r=>bK9 m x::T0 (G3 m x.to).2 r
noncomputable def cPlain:Con RU:=con [(true,4)] X4 [(true,4),one] [i64,inss,ints,ints,i64] [false,false,false,false,false] (some fun p=>H5 p.2.1=true∧p.2.2.1.length≤17592186044416)
 fun p=>((E3 ⟨p.1,p.2.1,p.2.2.1,p.2.2.2.1⟩).1.params,(E3 ⟨p.1,p.2.1,p.2.2.1,p.2.2.2.1⟩).1.code,(E3 ⟨p.1,p.2.1,p.2.2.1,p.2.2.2.1⟩).1.out,(E3 ⟨p.1,p.2.1,p.2.2.1,p.2.2.2.1⟩).1.at_,(E3 ⟨p.1,p.2.1,p.2.2.1,p.2.2.2.1⟩).2,())
noncomputable def bL0 (params:Int) (code:List Ins) (out:List Int):Nat→St RU→Ann RU:=fun k s=>match k with
 |0=>⟨[],[.slot 22,.row 1216],[i64,mapI],fun p=>0≤p.1∧(p.1≤params∨p.1=0)∧p.2.1=idm p.1.toNat,fun p=>params.toNat-p.1.toNat,[]⟩
 |1=>⟨[],[.slot 39,.row 1216,.row 7],[i64,mapI,inss],fun p=>0≤p.1∧p.1≤code.length∧p.2.1=L5 (idm params.toNat) (code.take p.1.toNat)∧p.2.2.1=T0 (idm params.toNat) (code.take p.1.toNat),fun p=>code.length-p.1.toNat,[(.box 512 1,7,52,.user 0)]⟩
 |_=>⟨[],[.slot 56,.row 2176],[i64,ints],fun p=>0≤p.1∧p.1≤out.length∧p.2.1=(out.take p.1.toNat).map (getI (L5 (idm params.toNat) code))++out.drop p.1.toNat,fun p=>out.length-p.1.toNat,[]⟩
noncomputable def cRegs:Con RU:=con [one] [ints] [one] [.bool] [false] none fun p=>(p.1.all G5,())
noncomputable def ce4 (l:List Int):Nat→St RU→Ann RU:=fun _ _=>⟨[],[.slot 3],[i64],fun p=>0≤p.1∧p.1≤l.length∧(l.take p.1.toNat).all G5=true,fun p=>l.length-p.1.toNat,[]⟩
end Go.Rg
end
section
set_option maxRecDepth 100000
open Go Go.VT
namespace Go.Rg
theorem bV2 (a:Int) (b:List Ins) (c d:List Int):vc (EV [(41,cCheck),(72,cOwn),(71,cOld),(73,cCalledP)]) (bL0 a b c) Go.Proofs.Tryd.f39 cPlain (a,b,c,d,())=(let e0:Int×List Ins×List Int×List Int×Int×Unit:=
  ((E3 (VFun.mk a b c d)).1.params,(E3 (VFun.mk a b c d)).1.code,(E3 (VFun.mk a b c d)).1.out,(E3 (VFun.mk a b c d)).1.at_,(E3 (VFun.mk a b c d)).2,());
 let e1:Bool:=B0 (VFun.mk a b c d) !=(0:Int);
 let e2:Int:=(↑(List.length b):Int);
 let e3:Int:=(↑(List.length c):Int);
 let e4:Ins:=Ins.mk (0:Int) (0:Int) [] [] [];
  Small RU (Sigma.mk (Ty.slice (52:Nat) (Ty.user (0:Nat))) b)→
  Small RU (Sigma.mk (Ty.slice (3:Nat) (Ty.int IntKind.i64)) c)→
  Small RU (Sigma.mk (Ty.slice (3:Nat) (Ty.int IntKind.i64)) d)→
  (e1=true→((0:Int),[],[],[],B0 (VFun.mk a b c d),())=e0)∧
  (e1=false→
  (∃ (p:Int×List (Int×Int)×Unit),
  a=a∧
  b=b∧
  c=c∧
  d=d∧
  (0:Int)=(0:Int)∧
  B0 (VFun.mk a b c d)=B0 (VFun.mk a b c d)∧
  e1=e1∧
  a=a∧
  (0:Int)=p.1∧
  a=a∧b=b∧c=c∧d=d∧(0:Int)=(0:Int)∧[]=p.2.1∧(0:Int)≤p.1∧(p.1≤a∨p.1=(0:Int))∧p.2.1=idm (Int.toNat p.1))∧
  ∀ (p:Int×List (Int×Int)×Unit),
 let e0_1:Bool:=decide (p.1<a);
 let e1_1:Int:=p.1;
 let e2_1:List (Int×Int):=p.2.1;
  (0:Int)≤e1_1∧(e1_1≤a∨e1_1=(0:Int))∧e2_1=idm (Int.toNat e1_1)→
  (e0_1=true→
  ∃ (p':Int×List (Int×Int)×Unit),
  a=a∧
  b=b∧
  c=c∧
  d=d∧
  (0:Int)=(0:Int)∧
  B0 (VFun.mk a b c d)=B0 (VFun.mk a b c d)∧
  e1=e1∧
  a=a∧
  IntKind.wrap IntKind.i64 (e1_1+(1:Int))=p'.1∧
  a=a∧
  b=b∧
  c=c∧
  d=d∧
  (0:Int)=(0:Int)∧
  mput (fun (x y:Int)=>x==y) e2_1 e1_1 e1_1=p'.2.1∧
  ((0:Int)≤p'.1∧(p'.1≤a∨p'.1=(0:Int))∧p'.2.1=idm (Int.toNat p'.1))∧
  Int.toNat a-Int.toNat p'.1<Int.toNat a-Int.toNat e1_1)∧
  (e0_1=false→
  List.length c≤(17592186044416:Nat)∧
  (∃ (p:Int×List (Int×Int)×List Ins×Unit),
  a=a∧
  b=b∧
  c=c∧
  d=d∧
  (0:Int)=(0:Int)∧
  B0 (VFun.mk a b c d)=B0 (VFun.mk a b c d)∧
  e1=e1∧
  a=a∧
  e1_1=e1_1∧
  e0_1=e0_1∧
  b=b∧
  e2=e2∧
  (0:Int)=p.1∧
  a=a∧
  b=b∧
  c=c∧
  d=d∧
  (0:Int)=(0:Int)∧
  e2_1=p.2.1∧
  c=c∧
  a=a∧
  []=p.2.2.1∧
  (0:Int)≤p.1∧
  p.1≤e2∧
  p.2.1=L5 (idm (Int.toNat a)) (List.take (Int.toNat p.1) b)∧
  p.2.2.1=T0 (idm (Int.toNat a)) (List.take (Int.toNat p.1) b))∧
  ∀ (p:Int×List (Int×Int)×List Ins×Unit),
 let e0_2:List Ins:=p.2.2.1;
 let e1_2:List Ins:=
  [Ins.mk (List.getD b (Int.toNat p.1) e4).op (List.getD b (Int.toNat p.1) e4).n (G3 p.2.1 (List.getD b (Int.toNat p.1) e4).to).1
  (List.map (getI p.2.1) (List.getD b (Int.toNat p.1) e4).from_) (List.getD b (Int.toNat p.1) e4).body];
 let e2_2:Bool:=decide (p.1<e2);
 let e3_1:List (Int×Int):=p.2.1;
 let e4_1:Int:=p.1;
  (0:Int)≤e4_1∧e4_1≤e2∧e3_1=L5 (idm (Int.toNat a)) (List.take (Int.toNat e4_1) b)∧e0_2=T0 (idm (Int.toNat a)) (List.take (Int.toNat e4_1) b)→
  (e2_2=true→
  ((0:Int)≤e4_1∧e4_1<e2)∧
  (V6 (List.getD b (Int.toNat e4_1) e4).to (List.getD b (Int.toNat e4_1) e4).from_ (List.getD b (Int.toNat e4_1) e4).body=true∧True)∧
  (List.length e0_2+List.length e1_2)*(88:Nat)≤(140737488355328:Nat)∧
  ∃ (p':Int×List (Int×Int)×List Ins×Unit),
  a=a∧
  b=b∧
  c=c∧
  d=d∧
  (0:Int)=(0:Int)∧
  B0 (VFun.mk a b c d)=B0 (VFun.mk a b c d)∧
  e1=e1∧
  a=a∧
  e1_1=e1_1∧
  e0_1=e0_1∧
  b=b∧
  e2=e2∧
  IntKind.wrap IntKind.i64 (e4_1+(1:Int))=p'.1∧
  a=a∧
  b=b∧
  c=c∧
  d=d∧
  (0:Int)=(0:Int)∧
  (G3 e3_1 (List.getD b (Int.toNat e4_1) e4).to).2=p'.2.1∧
  c=c∧
  a=a∧
  e0_2++e1_2=p'.2.2.1∧
  ((0:Int)≤p'.1∧
  p'.1≤e2∧
  p'.2.1=L5 (idm (Int.toNat a)) (List.take (Int.toNat p'.1) b)∧
  p'.2.2.1=T0 (idm (Int.toNat a)) (List.take (Int.toNat p'.1) b))∧
  List.length b-Int.toNat p'.1<List.length b-Int.toNat e4_1)∧
  (e2_2=false→
  (∃ (p:Int×List Int×Unit),
  a=a∧
  b=b∧
  c=c∧
  d=d∧
  (0:Int)=(0:Int)∧
  B0 (VFun.mk a b c d)=B0 (VFun.mk a b c d)∧
  e1=e1∧
  a=a∧
  e1_1=e1_1∧
  e0_1=e0_1∧
  b=b∧
  e2=e2∧
  e4_1=e4_1∧
  e2_2=e2_2∧
  e3=e3∧
  (0:Int)=p.1∧
  a=a∧
  b=b∧
  c=c∧
  d=d∧
  (0:Int)=(0:Int)∧
  e3_1=e3_1∧
  c=p.2.1∧
  a=a∧
  e0_2=e0_2∧
  (0:Int)≤p.1∧
  p.1≤e3∧
  p.2.1=
  List.map (getI (L5 (idm (Int.toNat a)) b)) (List.take (Int.toNat p.1) c)++
  List.drop (Int.toNat p.1) c)∧
  ∀ (p:Int×List Int×Unit),
 let e0_3:List Int:=p.2.1;
 let e1_3:Int:=p.1;
 let e2_3:Bool:=decide (e1_3<e3);
  (0:Int)≤e1_3∧e1_3≤e3∧e0_3=List.map (getI (L5 (idm (Int.toNat a)) b)) (List.take (Int.toNat e1_3) c)++List.drop (Int.toNat e1_3) c→
  (e2_3=true→
  ((0:Int)≤e1_3∧e1_3<(↑(List.length e0_3):Int))∧
  (True∧e3_1=e3_1∧True)∧
  ((0:Int)≤e1_3∧e1_3<(↑(List.length e0_3):Int))∧
  ∃ (p':Int×List Int×Unit),
  a=a∧
  b=b∧
  c=c∧
  d=d∧
  (0:Int)=(0:Int)∧
  B0 (VFun.mk a b c d)=B0 (VFun.mk a b c d)∧
  e1=e1∧
  a=a∧
  e1_1=e1_1∧
  e0_1=e0_1∧
  b=b∧
  e2=e2∧
  e4_1=e4_1∧
  e2_2=e2_2∧
  e3=e3∧
  IntKind.wrap IntKind.i64 (e1_3+(1:Int))=p'.1∧
  a=a∧
  b=b∧
  c=c∧
  d=d∧
  (0:Int)=(0:Int)∧
  e3_1=e3_1∧
  List.set e0_3 (Int.toNat e1_3) (getI e3_1 (List.getD e0_3 (Int.toNat e1_3) (0:Int)))=p'.2.1∧
  a=a∧
  e0_2=e0_2∧
  ((0:Int)≤p'.1∧
  p'.1≤e3∧
  p'.2.1=
  List.map (getI (L5 (idm (Int.toNat a)) b)) (List.take (Int.toNat p'.1) c)++
  List.drop (Int.toNat p'.1) c)∧
  List.length c-Int.toNat p'.1<List.length c-Int.toNat e1_3)∧
  (e2_3=false→(a,e0_2,e0_3,[],(0:Int),())=e0))))):=by kernel_rfl
theorem ce5 (l:List Int):vc (EV [(31,cLies)]) (ce4 l) Go.Proofs.Tryd.f79 cRegs (l,())=(Small RU (Sigma.mk (Ty.slice (3:Nat) (Ty.int IntKind.i64)) l)→
  (∃ (p:Int×Unit),l=l∧(0:Int)=p.1∧(0:Int)≤p.1∧p.1≤(↑(List.length l):Int)∧List.all (List.take (Int.toNat p.1) l) G5=true)∧
  ∀ (p:Int×Unit),
 let e0:Bool:=decide (p.1<(↑(List.length l):Int));
 let e1:Bool:=!lies (List.getD l (Int.toNat p.1) (0:Int)) (0:Int) (3999:Int);
  (0:Int)≤p.1∧p.1≤(↑(List.length l):Int)∧List.all (List.take (Int.toNat p.1) l) G5=true→
  (e0=true→
  ((0:Int)≤p.1∧p.1<(↑(List.length l):Int))∧
  (e1=true→(false,())=(List.all l G5,()))∧
  (e1=false→
  ∃ (p':Int×Unit),
  l=l∧
  IntKind.wrap IntKind.i64 (p.1+(1:Int))=p'.1∧
  ((0:Int)≤p'.1∧p'.1≤(↑(List.length l):Int)∧List.all (List.take (Int.toNat p'.1) l) G5=true)∧
  List.length l-Int.toNat p'.1<List.length l-Int.toNat p.1))∧
  (e0=false→(true,())=(List.all l G5,()))):=by kernel_rfl
end Go.Rg
end
section
set_option maxRecDepth 100000
namespace Go.Rg
open Go Go.VT
theorem bk9 (m:List (Int×Int)) (l:List Ins) (x:Ins):L5 m (l++[x])=(G3 (L5 m l) x.to).2:=by simp [L5]
theorem aG8 (x:Ins):∀ (l:List Ins) (m:List (Int×Int)),T0 m (l++[x])=T0 m l++[bK9 (L5 m l) x]
 |[],m=>rfl
 |y::l,m=>by
  simp only [List.cons_append,T0,aG8 x l]
  rfl
theorem aq3:∀ (l:List Ins) (m:List (Int×Int)),(T0 m l).length=l.length
 |[],m=>rfl
 |y::l,m=>by simp [T0,aq3 l]
theorem aT3 (n:Nat):idm (n+1)=mput eqI (idm n) n n:=by
 unfold idm
 rw [aF8,List.foldl_append]
 rfl
structure Named (a:Int) (W:List Int) (m:List (Int×Int)):Prop where
 len:(m.length:Int)=a+W.length
 par:∀ n,0≤n→n<a→mget eqI m n=some n
 wr:∀ n∈W,mget eqI m n=some (a+D9 W n)
 out:∀ n,a≤n→n∉W→mget eqI m n=none
theorem bs6 {m:List (Int×Int)} {n v:Int} (h:mget eqI m n=none):(mput eqI m n v).length=m.length+1:=by
 induction m with
 |nil=>rfl
 |cons x r ih=>
  obtain ⟨k,w⟩:=x
  simp only [mget,eqI,Bool.cond_eq_ite,beq_iff_eq] at h
  split at h
  ·cases h
  ·rename_i hk
   simp only [mput,eqI,Bool.cond_eq_ite,beq_iff_eq,if_neg hk,List.length_cons]
   rw [show (mput (fun x y=>x==y) r n v).length=r.length+1 from ih h]
theorem Z8 {l r:List Int} {n:Int} (h:n∈l):D9 (l++r) n=D9 l n:=by
 induction l with
 |nil=>simp at h
 |cons x l ih=>
  simp only [List.cons_append,D9]
  by_cases hx:x=n
  ·simp [hx]
  ·rw [if_neg hx,if_neg hx,ih (by simpa [Ne.symm hx] using h)]
theorem Y1 {l r:List Int} {n:Int} (h:n∉l) (hr:n∈r):D9 (l++r) n=l.length+D9 r n:=by
 induction l with
 |nil=>simp
 |cons x l ih=>
  simp only [List.mem_cons,not_or] at h
  simp only [List.cons_append,D9,if_neg (Ne.symm h.1),ih h.2,List.length_cons,Int.natCast_add]
  have:=ba7.2 hr
  rw [if_neg (by omega)]
  omega
theorem bc9 {a:Int} (h:0≤a):Named a [] (idm a.toNat):=by
 have key:∀ k:Nat,(idm k).length=k∧(∀ n:Int,0≤n→n<k→mget eqI (idm k) n=some n)∧∀ n:Int,(k:Int)≤n→mget eqI (idm k) n=none:=by
  intro k
  induction k with
  |zero=>exact ⟨rfl,fun n h1 h2=>by omega,fun n _=>rfl⟩
  |succ k ih=>
   obtain ⟨h1,h2,h3⟩:=ih
   rw [aT3]
   refine ⟨by rw [bs6 (h3 k (Int.le_refl _)),h1],fun n h4 h5=>?_,fun n h4=>?_⟩
   ·rw [M9]
    split
    ·rename_i h6;rw [h6]
    ·exact h2 n h4 (by omega)
   ·rw [M9,if_neg (by omega)]
    exact h3 n (by omega)
 obtain ⟨h1,h2,h3⟩:=key a.toNat
 exact ⟨by rw [h1];simp;omega,fun n h4 h5=>h2 n h4 (by omega),fun n hn=>by simp at hn,fun n h4 _=>h3 n (by omega)⟩
theorem bd0 {a:Int} {W:List Int} {m:List (Int×Int)} (N:Named a W m) (ha:0≤a) {x:Int} (hx:x∉W) (hxa:a≤x):Named a (W++[x]) (mput eqI m x m.length):=by
 refine ⟨?_,fun n h1 h2=>?_,fun n hn=>?_,fun n h1 h2=>?_⟩
 ·rw [bs6 (N.out x hxa hx),List.length_append,List.length_singleton]
  have:=N.len
  omega
 ·rw [M9,if_neg (by omega)]
  exact N.par n h1 h2
 ·rw [M9]
  by_cases h:x=n
  ·subst h
   rw [if_pos rfl,Y1 hx (by simp)]
   have:=N.len
   simp [D9]
   omega
  ·rw [if_neg h]
   have hn':n∈W:=by simpa [Ne.symm h] using hn
   rw [Z8 hn']
   exact N.wr n hn'
 ·simp only [List.mem_append,List.mem_singleton,not_or] at h2
  rw [M9,if_neg (Ne.symm h2.2)]
  exact N.out n h1 h2.1
theorem am8 {a:Int} (ha:0≤a):∀ (l W:List Int) (m:List (Int×Int)),Named a W m→(W++l).Nodup→(∀ x∈l,a≤x)→Named a (W++l) (G3 m l).2∧(G3 m l).1=l.map fun n=>a+D9 (W++l) n:=by
 have key:∀ (l W:List Int) (s:List Int×List (Int×Int)),Named a W s.2→(W++l).Nodup→(∀ x∈l,a≤x)→Named a (W++l) (l.foldl ax3 s).2∧(l.foldl ax3 s).1=s.1++l.map fun n=>a+D9 (W++l) n:=by
  intro l
  induction l with
  |nil=>intro W s N _ _;simpa using N
  |cons x r ih=>
   intro W s N hn hl
   have hx:x∉W:=by
    intro h
    exact (List.nodup_append.1 hn).2.2 x h x (by simp) rfl
   have N':=bd0 N ha hx (hl x (by simp))
   have:=ih (W++[x]) (ax3 s x) N' (by rw [List.append_assoc];exact hn) (fun y hy=>hl y (by simp [hy]))
   rw [List.append_assoc] at this
   refine ⟨this.1,?_⟩
   rw [List.foldl_cons,this.2]
   simp only [ax3,List.singleton_append,List.map_cons,List.append_assoc]
   congr 1
   have h1:D9 (W++x::r) x=W.length:=by
    rw [Y1 hx (by simp)]
    simp [D9]
   rw [h1]
   have:=N.len
   rw [this]
 intro l W m N hn hl
 have:=key l W ([],m) N hn hl
 simpa [G3] using this
theorem af8 {a:Int} (ha:0≤a):∀ (l:List Ins) (W:List Int) (m:List (Int×Int)),Named a W m→(W++wr l).Nodup→(∀ x∈wr l,a≤x)→Named a (W++wr l) (L5 m l)
 |[],W,m,N,_,_=>by simpa [wr,L5] using N
 |x::r,W,m,N,hn,hl=>by
  rw [L0,←List.append_assoc] at hn ⊢
  have h1:=am8 ha x.to W m N (List.nodup_append.1 hn).1 (fun y hy=>hl y (by rw [L0];simp [hy]))
  exact af8 ha r (W++x.to) _ h1.1 hn (fun y hy=>hl y (by rw [L0];simp [hy]))
theorem at2 {a:Int} {W:List Int} {m:List (Int×Int)} (N:Named a W m) {n:Int} (h:(0≤n∧n<a)∨(a≤n∧n∈W)):getI m n=Q7 a W n:=by
 unfold getI Q7
 rcases h with h|h
 ·rw [N.par n h.1 h.2,if_pos h.2];rfl
 ·rw [N.wr n h.2,if_neg (by omega)];rfl
theorem aj7 {a:Int} {W V:List Int} {n:Int} (h:n<a∨n∈W):Q7 a (W++V) n=Q7 a W n:=by
 unfold Q7
 split
 ·rfl
 ·rename_i h1
  rw [Z8 (h.resolve_left h1)]
theorem aG9 {a:Int} (ha:0≤a):∀ (l:List Ins) (W V:List Int) (m:List (Int×Int)),Named a W m→(W++wr l).Nodup→(∀ x∈wr l,a≤x)→E0 a W l=true→(∀ x∈l,∀ n∈x.from_,0≤n)→(∀ x∈W,a≤x)→
  T0 m l=l.map fun x=>⟨x.op,x.n,x.to.map (Q7 a (W++wr l++V)),x.from_.map (Q7 a (W++wr l++V)),x.body⟩
 |[],_,_,_,_,_,_,_,_,_=>rfl
 |x::r,W,V,m,N,hn,hl,ht,hf,hW=>by
  have hn':=hn
  rw [L0,←List.append_assoc] at hn'
  have hlx:∀ y∈x.to,a≤y:=fun y hy=>hl y (by rw [L0];simp [hy])
  have h1:=am8 ha x.to W m N (List.nodup_append.1 hn').1 hlx
  simp only [E0,Bool.and_eq_true,List.all_eq_true] at ht
  have ih:=aG9 ha r (W++x.to) V _ h1.1 hn' (fun y hy=>hl y (by rw [L0];simp [hy])) ht.2 (fun y hy=>hf y (by simp [hy])) (fun y hy=>by
   rcases List.mem_append.1 hy with h|h
   ·exact hW y h
   ·exact hlx y h)
  have hw:W++wr (x::r)++V=W++x.to++wr r++V:=by rw [L0];simp
  simp only [T0,List.map_cons]
  rw [ih,hw]
  congr 1
  simp only [bK9,Ins.mk.injEq,true_and,and_true]
  constructor
  ·rw [h1.2]
   apply List.map_congr_left
   intro n hn
   rw [show W++x.to++wr r++V=(W++x.to)++(wr r++V) by simp,aj7 (.inr (by simp [hn]))]
   unfold Q7
   rw [if_neg (by have:=hlx n hn;omega)]
  ·apply List.map_congr_left
   intro n hn
   have ht1:=ht.1 n hn
   have h0:=hf x (by simp) n hn
   have hin:n<a∨n∈W:=by simpa [List.contains_iff_mem] using ht1
   rw [show W++x.to++wr r++V=W++(x.to++wr r++V) by simp,aj7 hin]
   refine at2 N ?_
   by_cases h2:n<a
   ·exact .inl ⟨h0,h2⟩
   ·exact .inr ⟨by omega,hin.resolve_left h2⟩
theorem bz5 {b:List Ins} (h:H5 b=true) {k:Nat} (hk:k<b.length):V6 (b.getD k ins0).to (b.getD k ins0).from_ (b.getD k ins0).body=true:=
 U5.2 ((P3 _).1 (bb4 h (G6 hk ins0)))
theorem bV3 (a:Int) (b:List Ins) (c d:List Int) (hp:H5 b=true∧c.length≤17592186044416):vc (EV [(41,cCheck),(72,cOwn),(71,cOld),(73,cCalledP)]) (bL0 a b c) Go.Proofs.Tryd.f39 cPlain (a,b,c,d,()):=by
 rw [bV2 a b c d]
 intro e0 e1 e2 e3 e4 hb hc _
 have hlc:c.length≤140737488355328:=hc.len
 have he0:e0=((E3 ⟨a,b,c,d⟩).1.params,(E3 ⟨a,b,c,d⟩).1.code,(E3 ⟨a,b,c,d⟩).1.out,(E3 ⟨a,b,c,d⟩).1.at_,(E3 ⟨a,b,c,d⟩).2,()):=rfl
 have he4:e4=ins0:=rfl
 refine ⟨fun h=>?_,fun h=>?_⟩
 ·have h:B0 ⟨a,b,c,d⟩≠0:=by simpa [e1] using h
  rw [he0]
  unfold E3
  rw [if_pos h]
  rfl
 have h:B0 ⟨a,b,c,d⟩=0:=by simpa [e1] using h
 have C:=am5 h
 have hlb:=C.len
 have N0:=bc9 C.pos
 have hnd:=F8.1 C.once
 have hpl:=aG9 C.pos b [] [] (idm a.toNat) N0 (by simpa using hnd) C.new C.there (fun x hx n hn=>(C.fromR x hx n hn).1) (fun x hx=>by simp at hx)
 have hM:=af8 C.pos b [] (idm a.toNat) N0 (by simpa using hnd) C.new
 rw [List.nil_append] at hM
 simp only [List.nil_append,List.append_nil] at hpl
 have he0:e0=(a,T0 (idm a.toNat) b,c.map (getI (L5 (idm a.toNat) b)),[],0,()):=by
  rw [he0]
  unfold E3
  rw [if_neg (by simpa using h)]
  have:c.map (getI (L5 (idm a.toNat) b))=c.map (Q7 a (wr b)):=by
   apply List.map_congr_left
   intro n hn
   refine at2 hM ?_
   have h1:=(C.outR n hn).1
   rcases C.outT n hn with h2|h2
   ·exact .inl ⟨h1,h2⟩
   ·exact .inr ⟨C.new n h2,h2⟩
  rw [this,hpl]
 clear_value e0 e4
 subst he0 he4
 dsimp only [e2,e3]
 simp only [true_and,and_true]
 refine ⟨⟨(0,[],()),rfl,rfl,Int.le_refl _,.inr rfl,rfl⟩,?_⟩
 rintro ⟨i,m,⟨⟩⟩ ⟨h0,h1,h2⟩
 dsimp only at h0 h1 h2 ⊢
 subst h2
 obtain ⟨k,rfl⟩:=Int.eq_ofNat_of_zero_le h0
 simp only [Int.toNat_natCast]
 refine ⟨fun hlt=>?_,fun hge=>?_⟩
 ·have hlt:(k:Int)<a:=of_decide_eq_true hlt
  have:=C.few
  refine ⟨((k+1:Nat),idm (k+1),()),by rw [J4 (by omega) (by omega)];rfl,?_,⟨by omega,.inl (by dsimp only;omega),by rw [Int.toNat_natCast]⟩,by dsimp only;omega⟩
  rw [aT3]
 have hk:k=a.toNat:=by have:¬ (k:Int)<a:=of_decide_eq_false hge;omega
 subst hk
 clear h0 h1 hge
 refine ⟨hp.2,⟨(0,idm a.toNat,[],()),rfl,rfl,rfl,Int.le_refl _,by dsimp only;omega,rfl,rfl⟩,?_⟩
 rintro ⟨i,m,out,⟨⟩⟩ ⟨h0,h1,h2,h3⟩
 dsimp only at h0 h1 h2 h3 ⊢
 subst h2 h3
 obtain ⟨k,rfl⟩:=Int.eq_ofNat_of_zero_le h0
 simp only [Int.toNat_natCast]
 refine ⟨fun hlt=>?_,fun hge=>?_⟩
 ·have hlt:(k:Int)<b.length:=of_decide_eq_true hlt
  refine ⟨⟨h0,hlt⟩,bz5 hp.1 (by omega),?_,((k+1:Nat),L5 (idm a.toNat) (b.take (k+1)),T0 (idm a.toNat) (b.take (k+1)),()),B4 (by omega) (by omega:b.length≤140737488355328),?_,?_,⟨by omega,by dsimp only;omega,by rw [Int.toNat_natCast],by rw [Int.toNat_natCast]⟩,by dsimp only;omega⟩
  ·rw [aq3,List.length_take,List.length_singleton];omega
  ·dsimp only
   rw [A4 (by omega) ins0,bk9]
  ·dsimp only
   rw [A4 (by omega) ins0,aG8]
   rfl
 have hk:k=b.length:=by have:¬ (k:Int)<b.length:=of_decide_eq_false hge;omega
 subst hk
 rw [List.take_length]
 clear h0 h1 hge
 refine ⟨⟨(0,c,()),rfl,rfl,Int.le_refl _,by dsimp only;omega,by simp⟩,?_⟩
 rintro ⟨i,l,⟨⟩⟩ ⟨h0,h1,h2⟩
 dsimp only at h0 h1 h2 ⊢
 subst h2
 obtain ⟨k,rfl⟩:=Int.eq_ofNat_of_zero_le h0
 simp only [Int.toNat_natCast]
 have hA:((c.take k).map (getI (L5 (idm a.toNat) b))).length=k:=by simp;omega
 refine ⟨fun hlt=>?_,fun hge=>?_⟩
 ·have hlt:(k:Int)<c.length:=of_decide_eq_true hlt
  rw [Q8 hA (by omega),am6 hA (by omega),am7 hA (by omega)]
  refine ⟨⟨h0,hlt⟩,⟨h0,hlt⟩,((k+1:Nat),(c.take (k+1)).map (getI (L5 (idm a.toNat) b))++c.drop (k+1),()),B4 (by omega) hlc,?_,⟨by omega,by dsimp only;omega,by dsimp only;rw [Int.toNat_natCast]⟩,by dsimp only;omega⟩
  dsimp only
  rw [A4 (by omega) 0,List.map_append]
  rfl
 ·have hk:k=c.length:=by have:¬ (k:Int)<c.length:=of_decide_eq_false hge;omega
  subst hk
  simp only [List.take_length,List.drop_length,List.append_nil]
theorem bl0:C5 prog RG 39 cPlain:=D8 (A5 V4 (A5 bb3 (A5 bc7 (A5 aT2 B8)))) (fun p=>bL0 p.1 p.2.1 p.2.2.1) (by kernel_rfl) (by kernel_rfl) (by kernel_rfl) fun (a,b,c,d,()) hp=>bV3 a b c d hp
noncomputable def cThere:Con RU:=con [one,one,one] [i64,ints,ints] [one] [.bool] [false] none fun p=>(p.2.2.1.all (fun n=>decide (n<p.1)||p.2.1.contains n),())
noncomputable def bL1 (a:Int) (W l:List Int):Nat→St RU→Ann RU:=fun _ _=>⟨[],[.slot 7],[i64],fun p=>0≤p.1∧p.1≤l.length∧((l.take p.1.toNat).all fun n=>decide (n<a)||W.contains n)=true,fun p=>l.length-p.1.toNat,[]⟩
def L8 (b:List Ins):Bool:=b.all fun x=>x.to.all G5&&x.from_.all G5
noncomputable def bl1 (a:Int) (b:List Ins) (c:List Int):Nat→St RU→Ann RU:=fun k s=>match k with
 |0=>⟨[],[.slot 4,.slot 3],[i64,.bool],fun p=>0≤p.1∧p.1≤b.length∧p.2.1=((lies a 0 4000&&c.all G5)&&L8 (b.take p.1.toNat)),fun p=>b.length-p.1.toNat,[]⟩
 |1=>⟨[5],[.slot 6,.row 3200],[i64,ints],fun p=>0≤p.1∧p.1≤b.length∧p.2.1=wr (b.take p.1.toNat)∧ok2 a [] (wr (b.take p.1.toNat))=true,fun p=>b.length-p.1.toNat,[]⟩
 |2=>⟨[5],[.slot 7,.row 3200],[i64,ints],fun p=>0≤p.1∧p.1≤(b.getD (s.intAt 6).toNat ins0).to.length∧p.2.1=wr (b.take (s.intAt 6).toNat)++(b.getD (s.intAt 6).toNat ins0).to.take p.1.toNat∧
   ok2 a [] (wr (b.take (s.intAt 6).toNat)++(b.getD (s.intAt 6).toNat ins0).to.take p.1.toNat)=true,fun p=>(b.getD (s.intAt 6).toNat ins0).to.length-p.1.toNat,[]⟩
 |_=>⟨[5],[.slot 9,.row 5888],[i64,ints],fun p=>0≤p.1∧p.1≤b.length∧p.2.1=wr (b.take p.1.toNat)∧E0 a [] (b.take p.1.toNat)=true,fun p=>b.length-p.1.toNat,[]⟩
noncomputable def cLivesR:Con RU:=con [(true,4)] X4 [one] [ba6] [false] (some fun p=>p.2.1.length≤4000∧p.2.2.1.length≤17592186044400∧(∀ x∈p.2.1,x.from_.length≤17592186044400)∧p.2.2.1.all G5=true∧L8 p.2.1=true) fun p=>(B9 p.2.1 p.2.2.1,())
noncomputable def bl2 (b:List Ins) (c:List Int):Nat→St RU→Ann RU:=fun k s=>match k with
 |0=>⟨[],[.slot 4,.row 704],[i64,ba6],fun p=>-1≤p.1∧p.1<b.length∧p.2.1=List.replicate (p.1+1).toNat []++B9 (b.drop (p.1+1).toNat) c,fun p=>(p.1+1).toNat,[]⟩
 |_=>⟨[],[.slot 6,.slot 5],[i64,ints],fun p=>0≤p.1∧p.1≤(atL b c ((s.intAt 4).toNat+1)).length∧
   p.2.1=(((atL b c ((s.intAt 4).toNat+1)).take p.1.toNat).filter fun n=>!(b.getD (s.intAt 4).toNat ins0).to.contains n).foldl J3 (C7 [] (b.getD (s.intAt 4).toNat ins0).from_),fun p=>(atL b c ((s.intAt 4).toNat+1)).length-p.1.toNat,[]⟩
end Go.Rg
end
section
set_option maxRecDepth 100000
open Go Go.VT
namespace Go.Rg
theorem bV4 (a:Int) (W l:List Int):vc (EV [(32,cWhere)]) (bL1 a W l) Go.Proofs.Tryd.f80 cThere (a,W,l,())=(let e0:Bool×Unit:=(List.all l fun (n:den RU.T i64)=>decide (n<a)||List.contains W n,());
 let e1:Int:=(↑(List.length l):Int);
  Small RU (Sigma.mk (Ty.slice (3:Nat) (Ty.int IntKind.i64)) W)→
  Small RU (Sigma.mk (Ty.slice (3:Nat) (Ty.int IntKind.i64)) l)→
  (∃ (p:Int×Unit),
  a=a∧W=W∧l=l∧(0:Int)=p.1∧(0:Int)≤p.1∧p.1≤e1∧(List.all (List.take (Int.toNat p.1) l) fun (n:Int)=>decide (n<a)||List.contains W n)=true)∧
  ∀ (p:Int×Unit),
 let e0_1:Bool:=decide (List.getD l (Int.toNat p.1) (0:Int)≥a)&&decide (D9 W (List.getD l (Int.toNat p.1) (0:Int))<(0:Int));
 let e1_1:Bool:=decide (p.1<e1);
  (0:Int)≤p.1∧p.1≤e1∧(List.all (List.take (Int.toNat p.1) l) fun (n:Int)=>decide (n<a)||List.contains W n)=true→
  (e1_1=true→
  ((0:Int)≤p.1∧p.1<e1)∧
  (decide (List.getD l (Int.toNat p.1) (0:Int)≥a)=true→(0:Int)≤p.1∧p.1<e1)∧
  (e0_1=true→(false,())=e0)∧
  (e0_1=false→
  ∃ (p':Int×Unit),
  a=a∧
  W=W∧
  l=l∧
  IntKind.wrap IntKind.i64 (p.1+(1:Int))=p'.1∧
  ((0:Int)≤p'.1∧p'.1≤e1∧(List.all (List.take (Int.toNat p'.1) l) fun (n:Int)=>decide (n<a)||List.contains W n)=true)∧
  List.length l-Int.toNat p'.1<List.length l-Int.toNat p.1))∧
  (e1_1=false→(true,())=e0)):=by kernel_rfl
theorem bL2 (a:Int) (b:List Ins) (c d:List Int):vc (EV [(31,cLies),(79,cRegs),(32,cWhere),(80,cThere)]) (bl1 a b c) Go.Proofs.Tryd.f42 cCheck (a,b,c,d,())=(let e0:Bool:=decide ((↑(List.length b):Int) >(4000:Int));
 let e1:Ins:=Ins.mk (0:Int) (0:Int) [] [] [];
 let e2:Int:=(↑(List.length b):Int);
 let e3:Int×Unit:=(B0 (VFun.mk a b c d),());
 let e4:Bool:=lies a (0:Int) (4000:Int)&&List.all c G5;
  Small RU (Sigma.mk (Ty.slice (52:Nat) (Ty.user (0:Nat))) b)→
  Small RU (Sigma.mk (Ty.slice (3:Nat) (Ty.int IntKind.i64)) c)→
  Small RU (Sigma.mk (Ty.slice (3:Nat) (Ty.int IntKind.i64)) d)→
  (e0=true→((3:Int),())=e3)∧
  (e0=false→
  (∃ (p:Int×Bool×Unit),
  a=a∧
  b=b∧
  c=c∧
  d=d∧
  (0:Int)=(0:Int)∧
  e0=e0∧(0:Int)=p.1∧e4=p.2.1∧a=a∧b=b∧c=c∧d=d∧(0:Int)≤p.1∧p.1≤e2∧p.2.1=(e4&&L8 (List.take (Int.toNat p.1) b)))∧
  ∀ (p:Int×Bool×Unit),
 let e0_1:Bool:=decide (p.1<e2);
 let e1_1:Bool:=p.2.1;
 let e2_1:Int:=p.1;
  (0:Int)≤e2_1∧e2_1≤e2∧e1_1=(e4&&L8 (List.take (Int.toNat e2_1) b))→
  (e0_1=true→
  (e1_1=true→(0:Int)≤e2_1∧e2_1<e2)∧
  ((e1_1&&List.all (List.getD b (Int.toNat e2_1) e1).to G5)=true→(0:Int)≤e2_1∧e2_1<e2)∧
  ∃ (p':Int×Bool×Unit),
  a=a∧
  b=b∧
  c=c∧
  d=d∧
  (0:Int)=(0:Int)∧
  e0=e0∧
  IntKind.wrap IntKind.i64 (e2_1+(1:Int))=p'.1∧
  (e1_1&&List.all (List.getD b (Int.toNat e2_1) e1).to G5&&List.all (List.getD b (Int.toNat e2_1) e1).from_ G5)=p'.2.1∧
  a=a∧
  b=b∧
  c=c∧
  d=d∧
  ((0:Int)≤p'.1∧p'.1≤e2∧p'.2.1=(e4&&L8 (List.take (Int.toNat p'.1) b)))∧
  List.length b-Int.toNat p'.1<List.length b-Int.toNat e2_1)∧
  (e0_1=false→
  ((!e1_1)=true→((2:Int),())=e3)∧
  ((!e1_1)=false→
  (∃ (p:Int×List Int×Unit),
  a=a∧
  b=b∧
  c=c∧
  d=d∧
  e0=e0∧
  e2_1=e2_1∧
  e1_1=e1_1∧
  e0_1=e0_1∧
  (!e1_1)=!e1_1∧
  (0:Int)=p.1∧
  a=a∧
  b=b∧
  c=c∧
  d=d∧
  []=p.2.1∧
  (0:Int)≤p.1∧p.1≤e2∧p.2.1=wr (List.take (Int.toNat p.1) b)∧ok2 a [] (wr (List.take (Int.toNat p.1) b))=true)∧
  ∀ (p:Int×List Int×Unit),
 let e0_2:Bool:=decide (p.1<e2);
 let e1_2:Int:=p.1;
 let e2_2:List Int:=p.2.1;
 let e3_1:List Int:=(List.getD b (Int.toNat e1_2) e1).to;
 let e4:Nat:=List.length (List.getD b (Int.toNat e1_2) ins0).to;
  (0:Int)≤e1_2∧e1_2≤e2∧e2_2=wr (List.take (Int.toNat e1_2) b)∧ok2 a [] (wr (List.take (Int.toNat e1_2) b))=true→
  (e0_2=true→
  (∃ (p:Int×List Int×Unit),
  a=a∧
  b=b∧
  c=c∧
  d=d∧
  e0=e0∧
  e2_1=e2_1∧
  e1_1=e1_1∧
  e0_1=e0_1∧
  (!e1_1)=!e1_1∧
  e1_2=e1_2∧
  e0_2=e0_2∧
  (0:Int)=p.1∧
  a=a∧
  b=b∧
  c=c∧
  d=d∧
  e2_2=p.2.1∧
  (0:Int)≤p.1∧
  p.1≤(↑e4:Int)∧
  p.2.1=wr (List.take (Int.toNat e1_2) b)++List.take (Int.toNat p.1) (List.getD b (Int.toNat e1_2) ins0).to∧
  ok2 a [] (wr (List.take (Int.toNat e1_2) b)++List.take (Int.toNat p.1) (List.getD b (Int.toNat e1_2) ins0).to)=
  true)∧
  ∀ (p:Int×List Int×Unit),
 let e0_3:Bool:=decide (List.getD e3_1 (Int.toNat p.1) (0:Int)<a)||decide (D9 p.2.1 (List.getD e3_1 (Int.toNat p.1) (0:Int))≥(0:Int));
 let e1:Bool:=decide (p.1<(↑(List.length e3_1):Int));
 let e2_3:List Int:=wr (List.take (Int.toNat e1_2) b)++List.take (Int.toNat p.1) (List.getD b (Int.toNat e1_2) ins0).to;
 let e3_2:List Int:=p.2.1;
 let e4_1:Int:=p.1;
 let e5:List Int:=[List.getD e3_1 (Int.toNat e4_1) (0:Int)];
  (0:Int)≤e4_1∧e4_1≤(↑e4:Int)∧e3_2=e2_3∧ok2 a [] e2_3=true→
  ((0:Int)≤e1_2∧e1_2<e2)∧
  (e1=true→
  ((0:Int)≤e1_2∧e1_2<e2)∧
  ((0:Int)≤e4_1∧e4_1<(↑(List.length e3_1):Int))∧
  (e0_3=true→((5:Int),())=e3)∧
  (e0_3=false→
  (List.length e3_2+List.length e5)*(8:Nat)≤(140737488355328:Nat)∧
  ∃ (p':Int×List Int×Unit),
  a=a∧
  b=b∧
  c=c∧
  d=d∧
  e0=e0∧
  e2_1=e2_1∧
  e1_1=e1_1∧
  e0_1=e0_1∧
  (!e1_1)=!e1_1∧
  e1_2=e1_2∧
  e0_2=e0_2∧
  IntKind.wrap IntKind.i64 (e4_1+(1:Int))=p'.1∧
  a=a∧
  b=b∧
  c=c∧
  d=d∧
  e3_2++e5=p'.2.1∧
  ((0:Int)≤p'.1∧
  p'.1≤(↑e4:Int)∧
  p'.2.1=
  wr (List.take (Int.toNat e1_2) b)++
  List.take (Int.toNat p'.1) (List.getD b (Int.toNat e1_2) ins0).to∧
  ok2 a []
  (wr (List.take (Int.toNat e1_2) b)++
  List.take (Int.toNat p'.1) (List.getD b (Int.toNat e1_2) ins0).to)=
  true)∧
  e4-Int.toNat p'.1<e4-Int.toNat e4_1))∧
  (e1=false→
  ∃ (p':Int×List Int×Unit),
  a=a∧
  b=b∧
  c=c∧
  d=d∧
  e0=e0∧
  e2_1=e2_1∧
  e1_1=e1_1∧
  e0_1=e0_1∧
  (!e1_1)=!e1_1∧
  IntKind.wrap IntKind.i64 (e1_2+(1:Int))=p'.1∧
  a=a∧
  b=b∧
  c=c∧
  d=d∧
  e3_2=p'.2.1∧
  ((0:Int)≤p'.1∧
  p'.1≤e2∧
  p'.2.1=wr (List.take (Int.toNat p'.1) b)∧ok2 a [] (wr (List.take (Int.toNat p'.1) b))=true)∧
  List.length b-Int.toNat p'.1<List.length b-Int.toNat e1_2))∧
  (e0_2=false→
  (∃ (p:Int×List Int×Unit),
  a=a∧
  b=b∧
  c=c∧
  d=d∧
  e0=e0∧
  e2_1=e2_1∧
  e1_1=e1_1∧
  e0_1=e0_1∧
  (!e1_1)=!e1_1∧
  e1_2=e1_2∧
  e0_2=e0_2∧
  (0:Int)=p.1∧
  a=a∧
  b=b∧
  c=c∧
  d=d∧
  e2_2=e2_2∧
  []=p.2.1∧
  (0:Int)≤p.1∧
  p.1≤e2∧p.2.1=wr (List.take (Int.toNat p.1) b)∧E0 a [] (List.take (Int.toNat p.1) b)=true)∧
  ∀ (p:Int×List Int×Unit),
 let e0_3:Bool:=!List.all c fun (n:den RU.T i64)=>decide (n<a)||List.contains p.2.1 n;
 let e1_3:Bool:=!List.all (List.getD b (Int.toNat p.1) e1).from_ fun (n:den RU.T i64)=>decide (n<a)||List.contains p.2.1 n;
 let e2_3:Bool:=decide (p.1<e2);
 let e3_2:Int:=p.1;
 let e4:List Int:=p.2.1;
  (0:Int)≤e3_2∧e3_2≤e2∧e4=wr (List.take (Int.toNat e3_2) b)∧E0 a [] (List.take (Int.toNat e3_2) b)=true→
  (e2_3=true→
  ((0:Int)≤e3_2∧e3_2<e2)∧
  (e1_3=true→((4:Int),())=e3)∧
  (e1_3=false→
  ((0:Int)≤e3_2∧e3_2<e2)∧
  (List.length e4+List.length (List.getD b (Int.toNat e3_2) e1).to)*(8:Nat)≤(140737488355328:Nat)∧
  ∃ (p':Int×List Int×Unit),
  a=a∧
  b=b∧
  c=c∧
  d=d∧
  e0=e0∧
  e2_1=e2_1∧
  e1_1=e1_1∧
  e0_1=e0_1∧
  (!e1_1)=!e1_1∧
  e1_2=e1_2∧
  e0_2=e0_2∧
  IntKind.wrap IntKind.i64 (e3_2+(1:Int))=p'.1∧
  a=a∧
  b=b∧
  c=c∧
  d=d∧
  e2_2=e2_2∧
  e4++(List.getD b (Int.toNat e3_2) e1).to=p'.2.1∧
  ((0:Int)≤p'.1∧
  p'.1≤e2∧
  p'.2.1=wr (List.take (Int.toNat p'.1) b)∧
  E0 a [] (List.take (Int.toNat p'.1) b)=true)∧
  List.length b-Int.toNat p'.1<List.length b-Int.toNat e3_2))∧
  (e2_3=false→(e0_3=true→((4:Int),())=e3)∧(e0_3=false→((0:Int),())=e3))))))):=by kernel_rfl
theorem bL3 (a:Int) (b:List Ins) (c d:List Int):vc (EV [(35,cUnion),(32,cWhere),(30,cPut)]) (bl2 b c) Go.Proofs.Tryd.f55 cLivesR (a,b,c,d,())=(let e0:Ins:=Ins.mk (0:Int) (0:Int) [] [] [];
 let e1:Int:=(↑(List.length b):Int);
 let e2:Int:=IntKind.wrap IntKind.i64 (e1+(1:Int));
  Small RU (Sigma.mk (Ty.slice (52:Nat) (Ty.user (0:Nat))) b)→
  Small RU (Sigma.mk (Ty.slice (3:Nat) (Ty.int IntKind.i64)) c)→
  Small RU (Sigma.mk (Ty.slice (3:Nat) (Ty.int IntKind.i64)) d)→
  ((0:Int)≤e2∧e2*(↑(24:Nat):Int)≤(↑(140737488355328:Nat):Int))∧
  List.length ([]:List Int)+List.length c≤(17592186044400:Nat)∧
  ((0:Int)≤e1∧e1<(↑(List.length (List.replicate (Int.toNat e2) ([]:List Int))):Int))∧
  (∃ (p:Int×List (List Int)×Unit),
  a=a∧
  b=b∧
  c=c∧
  d=d∧
  IntKind.wrap IntKind.i64 (e1-(1:Int))=p.1∧
  a=a∧
  b=b∧
  c=c∧
  d=d∧
  List.set (List.replicate (Int.toNat e2) ([]:List Int)) (Int.toNat e1) (C7 [] c)=p.2.1∧
  (-1:Int)≤p.1∧p.1<e1∧p.2.1=List.replicate (Int.toNat (p.1+(1:Int))) []++B9 (List.drop (Int.toNat (p.1+(1:Int))) b) c)∧
  ∀ (p:Int×List (List Int)×Unit),
 let e0_1:Bool:=decide (p.1≥(0:Int));
 let e1_1:List (List Int):=p.2.1;
 let e2:Int:=p.1;
 let e3:Int:=(↑(List.length (List.getD e1_1 (Int.toNat (IntKind.wrap IntKind.i64 (e2+(1:Int)))) [])):Int);
 let e4:Nat:=List.length (atL b c (Int.toNat e2+(1:Nat)));
 let e5:Nat:=Int.toNat (e2+(1:Int));
 let e6:Int:=IntKind.wrap IntKind.i64 (e2+(1:Int));
  (-1:Int)≤e2∧e2<e1∧e1_1=List.replicate e5 []++B9 (List.drop e5 b) c→
  (e0_1=true→
  ((0:Int)≤e2∧e2<e1)∧
  List.length ([]:List Int)+List.length (List.getD b (Int.toNat e2) e0).from_≤(17592186044400:Nat)∧
  (∃ (p:Int×List Int×Unit),
  a=a∧
  b=b∧
  c=c∧
  d=d∧
  e2=e2∧
  e0_1=e0_1∧
  (0:Int)=p.1∧
  C7 [] (List.getD b (Int.toNat e2) e0).from_=p.2.1∧
  a=a∧
  b=b∧
  c=c∧
  d=d∧
  e1_1=e1_1∧
  (0:Int)≤p.1∧
  p.1≤(↑e4:Int)∧
  p.2.1=
  List.foldl J3 (C7 [] (List.getD b (Int.toNat e2) ins0).from_)
  (List.filter (fun (n:Int)=>!List.contains (List.getD b (Int.toNat e2) ins0).to n)
  (List.take (Int.toNat p.1) (atL b c (Int.toNat e2+(1:Nat))))))∧
  ∀ (p:Int×List Int×Unit),
 let e0:Bool:=decide (D9 (List.getD b (Int.toNat e2) e0).to (List.getD (List.getD e1_1 (Int.toNat e6) []) (Int.toNat p.1) (0:Int))<(0:Int));
 let e1_2:Bool:=decide (p.1<e3);
 let e2_1:List Int:=p.2.1;
 let e3_1:Int:=p.1;
 let e4_1:List Int:=atL b c (Int.toNat e2+(1:Nat));
  (0:Int)≤e3_1∧
  e3_1≤(↑e4:Int)∧
  e2_1=
  List.foldl J3 (C7 [] (List.getD b (Int.toNat e2) ins0).from_)
  (List.filter (fun (n:Int)=>!List.contains (List.getD b (Int.toNat e2) ins0).to n) (List.take (Int.toNat e3_1) e4_1))→
  ((0:Int)≤e6∧e6<(↑(List.length e1_1):Int))∧
  (e1_2=true→
  ((0:Int)≤e2∧e2<e1)∧
  ((0:Int)≤e6∧e6<(↑(List.length e1_1):Int))∧
  ((0:Int)≤e3_1∧e3_1<e3)∧
  (e0=true→((0:Int)≤e6∧e6<(↑(List.length e1_1):Int))∧((0:Int)≤e3_1∧e3_1<e3)∧List.length e2_1≤(17592186044400:Nat))∧
  ∃ (p':Int×List Int×Unit),
  (bif e0 then a else a)=a∧
  (bif e0 then b else b)=b∧
  (bif e0 then c else c)=c∧
  (bif e0 then d else d)=d∧
  (bif e0 then e2 else e2)=e2∧
  (bif e0 then e0_1 else e0_1)=e0_1∧
  IntKind.wrap IntKind.i64 ((bif e0 then e3_1 else e3_1)+(1:Int))=p'.1∧
  (bif e0 then J3 e2_1 (List.getD (List.getD e1_1 (Int.toNat e6) []) (Int.toNat e3_1) (0:Int)) else e2_1)=p'.2.1∧
  (bif e0 then a else a)=a∧
  (bif e0 then b else b)=b∧
  (bif e0 then c else c)=c∧
  (bif e0 then d else d)=d∧
  (bif e0 then e1_1 else e1_1)=e1_1∧
  ((0:Int)≤p'.1∧
  p'.1≤(↑e4:Int)∧
  p'.2.1=
  List.foldl J3 (C7 [] (List.getD b (Int.toNat e2) ins0).from_)
  (List.filter (fun (n:Int)=>!List.contains (List.getD b (Int.toNat e2) ins0).to n)
  (List.take (Int.toNat p'.1) e4_1)))∧
  e4-Int.toNat p'.1<e4-Int.toNat e3_1)∧
  (e1_2=false→
  ((0:Int)≤e2∧e2<(↑(List.length e1_1):Int))∧
  ∃ (p':Int×List (List Int)×Unit),
  a=a∧
  b=b∧
  c=c∧
  d=d∧
  IntKind.wrap IntKind.i64 (e2-(1:Int))=p'.1∧
  a=a∧
  b=b∧
  c=c∧
  d=d∧
  List.set e1_1 (Int.toNat e2) e2_1=p'.2.1∧
  ((-1:Int)≤p'.1∧
  p'.1<e1∧
  p'.2.1=List.replicate (Int.toNat (p'.1+(1:Int))) []++B9 (List.drop (Int.toNat (p'.1+(1:Int))) b) c)∧
  Int.toNat (p'.1+(1:Int))<e5))∧
  (e0_1=false→(e1_1,())=(B9 b c,()))):=by kernel_rfl
end Go.Rg
end
section
set_option maxRecDepth 100000
namespace Go.Rg
open Go Go.VT
theorem bY3 {p:Int→Bool} {l:List Int} {k:Nat} (hk:k<l.length) (h:p (l.getD k 0)=false):l.all p=false:=by
 rw [Bool.eq_false_iff]
 intro ha
 have:=List.all_eq_true.1 ha _ (G6 hk 0)
 rw [h] at this
 cases this
theorem bs7 {p:Int→Bool} {l:List Int} {k:Nat} (hk:k<l.length) (h:(l.take k).all p=true) (h2:p (l.getD k 0)=true):(l.take (k+1)).all p=true:=by
 rw [A4 hk 0,List.all_append,h]
 simpa using h2
theorem ce6 (l:List Int):vc (EV [(31,cLies)]) (ce4 l) Go.Proofs.Tryd.f79 cRegs (l,()):=by
 rw [ce5 l]
 intro hs
 have hl:l.length≤140737488355328:=hs.len
 simp only [true_and,and_true]
 refine ⟨⟨(0,()),rfl,Int.le_refl _,by dsimp only;omega,by simp⟩,?_⟩
 rintro ⟨i,⟨⟩⟩
 dsimp only
 rintro ⟨h0,h1,h2⟩
 obtain ⟨k,rfl⟩:=Int.eq_ofNat_of_zero_le h0
 simp only [Int.toNat_natCast] at h2 ⊢
 refine ⟨fun hlt=>?_,fun hge=>?_⟩
 ·have hlt:(k:Int)<l.length:=of_decide_eq_true hlt
  refine ⟨⟨h0,hlt⟩,fun hb=>?_,fun hb=>⟨((k+1:Nat),()),B4 (by omega) hl,⟨by omega,by dsimp only;omega,?_⟩,by dsimp only;omega⟩⟩
  ·have:G5 (l.getD k 0)=false:=by simpa [G5] using hb
   rw [bY3 (by omega) this]
  ·dsimp only
   rw [Int.toNat_natCast]
   exact bs7 (by omega) h2 (by simpa [G5] using hb)
 ·have hk:k=l.length:=by have:¬ (k:Int)<l.length:=of_decide_eq_false hge;omega
  subst hk
  rw [List.take_length] at h2
  rw [h2]
theorem bz6:C5 prog RG 79 cRegs:=D8 (A5 aM5 B8) (fun p=>ce4 p.1) (by kernel_rfl) (by kernel_rfl) (by kernel_rfl) fun (l,()) _=>ce6 l
theorem bV5 (a:Int) (W l:List Int):vc (EV [(32,cWhere)]) (bL1 a W l) Go.Proofs.Tryd.f80 cThere (a,W,l,()):=by
 rw [bV4 a W l]
 intro e0 e1 _ hs
 have hl:l.length≤140737488355328:=hs.len
 have he0:e0=(l.all (fun n=>decide (n<a)||W.contains n),()):=rfl
 clear_value e0
 dsimp only [e1]
 simp only [true_and,and_true]
 refine ⟨⟨(0,()),rfl,Int.le_refl _,by dsimp only;omega,by simp⟩,?_⟩
 rintro ⟨i,⟨⟩⟩
 dsimp only
 rintro ⟨h0,h1,h2⟩
 obtain ⟨k,rfl⟩:=Int.eq_ofNat_of_zero_le h0
 simp only [Int.toNat_natCast] at h2 ⊢
 have hcond:(decide (l.getD k 0≥a)&&decide (D9 W (l.getD k 0)<0))=!(decide (l.getD k 0<a)||W.contains (l.getD k 0)):=by
  have h3:=R8 W (l.getD k 0)
  generalize l.getD k 0=x at h3 ⊢
  rw [←h3]
  by_cases c1:x<a<;>by_cases c2:D9 W x<0
  ·simp [c1,show ¬ a≤x by omega]
  ·simp [c1,show ¬ a≤x by omega]
  ·simp [c1,c2,show a≤x by omega]
  ·simp [c1,c2,show a≤x by omega];omega
 rw [hcond]
 refine ⟨fun hlt=>?_,fun hge=>?_⟩
 ·have hlt:(k:Int)<l.length:=of_decide_eq_true hlt
  refine ⟨⟨h0,hlt⟩,fun _=>⟨h0,hlt⟩,fun hb=>?_,fun hb=>⟨((k+1:Nat),()),B4 (by omega) hl,⟨by omega,by dsimp only;omega,?_⟩,by dsimp only;omega⟩⟩
  ·rw [he0,bY3 (p:=fun n=>decide (n<a)||W.contains n) (k:=k) (by omega) (Bool.not_eq_true' _▸hb)]
  ·dsimp only
   rw [Int.toNat_natCast]
   exact bs7 (p:=fun n=>decide (n<a)||W.contains n) (by omega) h2 (Bool.not_eq_false' _▸hb)
 ·have hk:k=l.length:=by have:¬ (k:Int)<l.length:=of_decide_eq_false hge;omega
  subst hk
  rw [List.take_length] at h2
  rw [he0,h2]
theorem bl3:C5 prog RG 80 cThere:=D8 (A5 al9 B8) (fun p=>bL1 p.1 p.2.1 p.2.2.1) (by kernel_rfl) (by kernel_rfl) (by kernel_rfl) fun (a,W,l,()) _=>bV5 a W l
theorem bs8 (a:Int) (n:Int):∀ (l W:List Int),ok2 a W (l++[n])=(ok2 a W l&&!((W.contains n||l.contains n)||decide (n<a)))
 |[],W=>by simp [ok2]
 |x::r,W=>by
  simp only [List.cons_append,ok2,bs8 a n r,List.contains_cons,Bool.and_assoc]
  congr 2
  by_cases h:n==x<;>simp [h]
theorem aN4 (a:Int):∀ (l r W:List Int),ok2 a W (l++r)=true→ok2 a W l=true
 |[],r,W,_=>rfl
 |x::l,r,W,h=>by
  simp only [List.cons_append,ok2,Bool.and_eq_true] at h ⊢
  exact ⟨h.1,aN4 a l r _ h.2⟩
theorem bL4 (a:Int) (l:List Int):ok2 a [] l=(D5 l&&l.all fun n=>decide (a≤n)):=by
 rw [bJ6,show l.all (fun n=>!([]:List Int).contains n)=true from List.all_eq_true.2 (fun _ _=>rfl),Bool.and_true]
theorem bd1 {b:List Ins} {k:Nat} (h:k<b.length):L8 (b.take (k+1))=(L8 (b.take k)&&((b.getD k ins0).to.all G5&&(b.getD k ins0).from_.all G5)):=by
 rw [A4 h ins0]
 simp [L8]
theorem bY4 {a:Int} {l:List Int} (h:ok2 a [] l=true) (hr:∀ n∈l,G5 n=true):l.length≤4000:=by
 rw [bL4,Bool.and_eq_true] at h
 have hn:=F8.1 h.1
 have h3:(l.map Int.toNat).Nodup:=by
  rw [List.Nodup,List.pairwise_map]
  exact hn.imp_of_mem (fun {x y} hx hy hxy he=>hxy (by have:=K7.1 (hr x hx);have:=K7.1 (hr y hy);omega))
 have:=X8 4000 _ h3 (fun j hj=>by
  obtain ⟨k,hk,rfl⟩:=List.mem_map.1 hj
  have:=K7.1 (hr k hk)
  omega)
 simpa using this
theorem bL5 (a:Int) (b:List Ins) (c d:List Int):vc (EV [(31,cLies),(79,cRegs),(32,cWhere),(80,cThere)]) (bl1 a b c) Go.Proofs.Tryd.f42 cCheck (a,b,c,d,()):=by
 rw [bL2 a b c d]
 intro e0 e1 e2 e3 e4 hb hc hd
 have hlb:b.length≤140737488355328:=hb.len
 have he3:e3=(B0 ⟨a,b,c,d⟩,()):=rfl
 have he1:e1=ins0:=rfl
 have he4:e4=(lies a 0 4000&&c.all G5):=rfl
 clear_value e1 e3 e4
 subst he1
 dsimp only [e2]
 simp only [true_and,and_true]
 refine ⟨fun h=>?_,fun h=>?_⟩
 ·have h:4000<b.length:=by have:=of_decide_eq_true h;omega
  rw [he3,aM8 h]
 have h:¬ 4000<b.length:=by have:¬ ((b.length:Int) >4000):=of_decide_eq_false h;omega
 refine ⟨⟨(0,e4,()),rfl,rfl,Int.le_refl _,by dsimp only;omega,by simp [L8]⟩,?_⟩
 rintro ⟨i,ok,⟨⟩⟩ ⟨h0,h1,h2⟩
 dsimp only at h0 h1 h2 ⊢
 subst h2
 obtain ⟨k,rfl⟩:=Int.eq_ofNat_of_zero_le h0
 simp only [Int.toNat_natCast]
 refine ⟨fun hlt=>?_,fun hge=>?_⟩
 ·have hlt:(k:Int)<b.length:=of_decide_eq_true hlt
  refine ⟨fun _=>⟨h0,hlt⟩,fun _=>⟨h0,hlt⟩,((k+1:Nat),e4&&L8 (b.take (k+1)),()),B4 (by omega) hlb,?_,⟨by omega,by dsimp only;omega,by rw [Int.toNat_natCast]⟩,by dsimp only;omega⟩
  dsimp only
  rw [bd1 (by omega)]
  simp only [Bool.and_assoc]
 have hk:k=b.length:=by have:¬ (k:Int)<b.length:=of_decide_eq_false hge;omega
 subst hk
 rw [List.take_length]
 clear h0 h1 hge
 refine ⟨fun hn=>?_,fun hy=>?_⟩
 ·rw [Bool.not_eq_true'] at hn
  rw [he3]
  simp only [B0]
  rw [if_neg h,if_pos (by rw [he4] at hn;unfold L8 at hn;rw [hn];rfl)]
 rw [Bool.not_eq_false',Bool.and_eq_true] at hy
 obtain ⟨hy1,hy2⟩:=hy
 rw [he4,Bool.and_eq_true] at hy1
 have hr:=aM9 (a:=a) (b:=b) (c:=c) (d:=d) h hy1.1 (R1:=true) (R2:=ok2 a [] (wr b)) (by rw [hy1.2,show (b.all fun x=>x.to.all G5&&x.from_.all G5)=true from hy2];rfl) (bL4 a (wr b))
 have hreg:∀ n∈wr b,G5 n=true:=by
  intro n hn
  obtain ⟨x,hx,hnx⟩:=bc3.1 hn
  have:=List.all_eq_true.1 hy2 x hx
  rw [Bool.and_eq_true] at this
  exact List.all_eq_true.1 this.1 n hnx
 have hregT:∀ k,∀ n∈wr (b.take k),G5 n=true:=fun k n hn=>hreg n (by
  rw [←List.take_append_drop k b,L7]
  exact List.mem_append_left _ hn)
 have hregX:∀ k,k<b.length→∀ j,∀ n∈wr (b.take k)++(b.getD k ins0).to.take j,G5 n=true:=fun k hk j n hn=>by
  rcases List.mem_append.1 hn with hn|hn
  ·exact hregT k n hn
  ·refine hregT (k+1) n ?_
   rw [af5 hk]
   exact List.mem_append_right _ (List.mem_of_mem_take hn)
 refine ⟨⟨(0,[],()),rfl,rfl,Int.le_refl _,by dsimp only;omega,by simp [wr],by simp [wr,ok2]⟩,?_⟩
 rintro ⟨i,W,⟨⟩⟩ ⟨h0,h1,h2,h3⟩
 dsimp only at h0 h1 h2 h3 ⊢
 subst h2
 obtain ⟨k,rfl⟩:=Int.eq_ofNat_of_zero_le h0
 simp only [Int.toNat_natCast] at h3 ⊢
 refine ⟨fun hlt=>?_,fun hge=>?_⟩
 ·have hlt:(k:Int)<b.length:=of_decide_eq_true hlt
  have hto:(b.getD k ins0).to.length≤140737488355328:=as8 hb (by omega)
  refine ⟨⟨(0,wr (b.take k),()),rfl,rfl,Int.le_refl _,by dsimp only;omega,by simp only [Int.toNat_zero,List.take_zero,List.append_nil],by simp only [Int.toNat_zero,List.take_zero,List.append_nil];exact h3⟩,?_⟩
  rintro ⟨q,V,⟨⟩⟩ ⟨q0,q1,q2,q3⟩
  dsimp only at q0 q1 q2 q3 ⊢
  subst q2
  obtain ⟨j,rfl⟩:=Int.eq_ofNat_of_zero_le q0
  simp only [Int.toNat_natCast] at q3 ⊢
  refine ⟨⟨h0,hlt⟩,fun hc=>?_,fun hc=>?_⟩
  ·have hc:(j:Int)<(b.getD k ins0).to.length:=of_decide_eq_true hc
   have hst:ok2 a [] (wr (b.take k)++(b.getD k ins0).to.take (j+1))=!(decide ((b.getD k ins0).to.getD j 0<a)||decide (D9 (wr (b.take k)++(b.getD k ins0).to.take j) ((b.getD k ins0).to.getD j 0)≥0)):=by
    rw [A4 (by omega) 0,←List.append_assoc,bs8,q3,R8,Bool.true_and,Bool.or_comm]
    rfl
   refine ⟨⟨h0,hlt⟩,⟨q0,hc⟩,fun hn=>?_,fun hy=>?_⟩
   ·have hf:ok2 a [] (wr (b.take k)++(b.getD k ins0).to.take (j+1))=false:=by rw [hst,hn];rfl
    have hf2:ok2 a [] (wr b)=false:=by
     rw [Bool.eq_false_iff]
     intro ht
     have h4:wr b=(wr (b.take k)++(b.getD k ins0).to.take (j+1))++((b.getD k ins0).to.drop (j+1)++wr (b.drop (k+1))):=by
      conv=>lhs;rw [←List.take_append_drop (k+1) b,L7,af5 (by omega)]
      rw [List.append_assoc,List.append_assoc,←List.append_assoc (List.take (j+1) _),List.take_append_drop]
     rw [h4] at ht
     have:=aN4 a _ _ _ ht
     rw [hf] at this
     cases this
    rw [he3,hr,hf2]
    rfl
   ·have ht:ok2 a [] (wr (b.take k)++(b.getD k ins0).to.take (j+1))=true:=by rw [hst,hy];rfl
    have hfew:=bY4 q3 (hregX k (by omega) j)
    refine ⟨by simp only [List.length_singleton];omega,((j+1:Nat),wr (b.take k)++(b.getD k ins0).to.take (j+1),()),B4 (by omega) hto,?_,⟨by omega,by dsimp only;omega,by rw [Int.toNat_natCast],by rw [Int.toNat_natCast];exact ht⟩,by dsimp only;omega⟩
    dsimp only
    rw [A4 (by omega) 0,List.append_assoc]
  ·have hj:j=(b.getD k ins0).to.length:=by have:¬ (j:Int)<(b.getD k ins0).to.length:=of_decide_eq_false hc;omega
   subst hj
   rw [List.take_length] at q3 ⊢
   refine ⟨((k+1:Nat),_,()),B4 (by omega) hlb,rfl,⟨by omega,by dsimp only;omega,?_,?_⟩,by dsimp only;omega⟩
   ·dsimp only
    rw [Int.toNat_natCast,af5 (by omega)]
   ·dsimp only
    rw [Int.toNat_natCast,af5 (by omega)]
    exact q3
 have hk:k=b.length:=by have:¬ (k:Int)<b.length:=of_decide_eq_false hge;omega
 subst hk
 rw [List.take_length] at h3
 clear h0 h1 hge
 rw [h3] at hr
 have hr:e3=(if (E0 a [] b&&c.all fun n=>decide (n<a)||(wr b).contains n)=false then 4 else 0,()):=by rw [he3,hr];rfl
 have hfew:=bY4 h3 hreg
 have hfewT:∀ k,(wr (b.take k)).length+(wr (b.drop k)).length≤4000:=fun k=>by
  rw [←List.take_append_drop k b,L7,List.length_append] at hfew
  exact hfew
 refine ⟨⟨(0,[],()),rfl,rfl,Int.le_refl _,by dsimp only;omega,by simp [wr],by simp [E0]⟩,?_⟩
 rintro ⟨i,W,⟨⟩⟩ ⟨h0,h1,h2,h4⟩
 dsimp only at h0 h1 h2 h4 ⊢
 subst h2
 obtain ⟨k,rfl⟩:=Int.eq_ofNat_of_zero_le h0
 simp only [Int.toNat_natCast] at h4 ⊢
 refine ⟨fun hlt=>?_,fun hge=>?_⟩
 ·have hlt:(k:Int)<b.length:=of_decide_eq_true hlt
  have hst:=aN0 (a:=a) (b:=b) (k:=k) (by omega)
  rw [h4,Bool.true_and] at hst
  refine ⟨⟨h0,hlt⟩,fun hn=>?_,fun hy=>?_⟩
  ·have hn:E0 a [] (b.take (k+1))=false:=by rw [hst];exact Bool.not_eq_true' _▸hn
   rw [hr,aN1 hn]
   rfl
  ·have hy:E0 a [] (b.take (k+1))=true:=by rw [hst];exact Bool.not_eq_false' _▸hy
   have h5:=hfewT (k+1)
   rw [af5 (by omega),List.length_append] at h5
   refine ⟨⟨h0,hlt⟩,by omega,((k+1:Nat),wr (b.take (k+1)),()),B4 (by omega) hlb,?_,⟨by omega,by dsimp only;omega,by rw [Int.toNat_natCast],by rw [Int.toNat_natCast];exact hy⟩,by dsimp only;omega⟩
   dsimp only
   rw [af5 (by omega)]
 ·have hk:k=b.length:=by have:¬ (k:Int)<b.length:=of_decide_eq_false hge;omega
  subst hk
  rw [List.take_length] at h4 ⊢
  refine ⟨fun hn=>?_,fun hy=>?_⟩
  ·have hn:(c.all fun n=>decide (n<a)||(wr b).contains n)=false:=Bool.not_eq_true' _▸hn
   rw [hr,h4,hn]
   rfl
  ·have hy:(c.all fun n=>decide (n<a)||(wr b).contains n)=true:=Bool.not_eq_false' _▸hy
   rw [hr,h4,hy]
   rfl
theorem af9:C5 prog RG 42 cCheck:=D8 (A5 aM5 (A5 bz6 (A5 al9 (A5 bl3 B8)))) (fun p=>bl1 p.1 p.2.1 p.2.2.1) (by kernel_rfl) (by kernel_rfl) (by kernel_rfl) fun (a,b,c,d,()) _=>bL5 a b c d
theorem bs9 {b:List Ins} {c:List Int} (hf:L8 b=true) (ho:c.all G5=true) {n:Int} {p:Nat} (h:n∈atL b c p):0≤n∧n≤3999:=by
 induction b generalizing p with
 |nil=>
  cases p with
  |zero=>exact K7.1 (List.all_eq_true.1 ho n (by simpa [atL,B9,N6] using h))
  |succ p=>simp [atL,B9] at h
 |cons x r ih=>
  simp only [L8,List.all_cons,Bool.and_eq_true] at hf
  have hr:L8 r=true:=hf.2
  cases p with
  |zero=>
   rw [N3,Z7,←N3] at h
   rcases h with h|h
   ·exact K7.1 (List.all_eq_true.1 hf.1.2 n h)
   ·exact ih hr h.1
  |succ p=>
   rw [ac1] at h
   exact ih hr h
theorem aT4 {l:List Int} (h:incr l) (hr:∀ n∈l,0≤n∧n≤3999):l.length≤4000:=by
 have h4:(l.map Int.toNat).Nodup:=by
  rw [List.Nodup,List.pairwise_map]
  exact h.imp_of_mem (fun {x y} hx hy hxy he=>by have:=hr x hx;have:=hr y hy;omega)
 have:=X8 4000 _ h4 (fun x hx=>by
  obtain ⟨y,hy,rfl⟩:=List.mem_map.1 hx
  have:=hr y hy
  omega)
 simpa using this
theorem bt0 (b:List Ins) (c:List Int) {k:Nat} (h:k≤b.length):atL b c k=(B9 (b.drop k) c).headD []:=by
 have h1:=at0 c (b.drop k) (b.take k) 0
 rw [List.take_append_drop,List.length_take,Nat.min_eq_left h,Nat.add_zero] at h1
 rw [h1,N3]
theorem bd2 (b:List Ins) (c:List Int) {k:Nat} (h:k<b.length):B9 (b.drop k) c=av9 (b.getD k ins0) (atL b c (k+1))::B9 (b.drop (k+1)) c:=by
 rw [List.drop_eq_getElem_cons h]
 simp only [B9]
 rw [←bt0 b c (k:=k+1) (by omega),List.getD_eq_getElem?_getD,List.getElem?_eq_getElem h]
 rfl
theorem bL6 {l:List Int} {j:Nat} (h:j<l.length) (to acc:List Int):((l.take (j+1)).filter fun n=>!to.contains n).foldl J3 acc=if to.contains (l.getD j 0) then ((l.take j).filter fun n=>!to.contains n).foldl J3 acc else J3 (((l.take j).filter fun n=>!to.contains n).foldl J3 acc) (l.getD j 0):=by
 rw [A4 h 0,List.filter_append,List.foldl_append,List.filter_cons]
 cases to.contains (l.getD j 0)<;>simp
theorem ce7 (n:Nat) (A:List (List Int)) (k:Nat):(List.replicate n []++A).getD (n+k) []=A.getD k []:=by
 rw [List.getD_eq_getElem?_getD,List.getD_eq_getElem?_getD,List.getElem?_append_right (by simp),List.length_replicate,Nat.add_sub_cancel_left]
theorem bL7 (n:Nat) (A:List (List Int)) (v:List Int):(List.replicate (n+1) []++A).set n v=List.replicate n []++v::A:=by
 rw [List.replicate_succ',List.append_assoc,List.set_append_right _ _ (by simp),List.length_replicate,Nat.sub_self]
 rfl
theorem bL8 (a:Int) (b:List Ins) (c d:List Int) (hp:b.length≤4000∧c.length≤17592186044400∧(∀ x∈b,x.from_.length≤17592186044400)∧c.all G5=true∧L8 b=true):vc (EV [(35,cUnion),(32,cWhere),(30,cPut)]) (bl2 b c) Go.Proofs.Tryd.f55 cLivesR (a,b,c,d,()):=by
 rw [bL3 a b c d]
 intro e0 e1 e2 _ _ _
 obtain ⟨hlb,hlc,hlf,hrc,hrb⟩:=hp
 have he0:e0=ins0:=rfl
 have he2:e2=((b.length+1:Nat):Int):=J4 (by omega) (by omega)
 clear_value e0 e2
 subst he0 he2
 dsimp only [e1]
 simp only [true_and,and_true,Bool.cond_self]
 have hw:IntKind.i64.wrap ((b.length:Int)-1)=(b.length:Int)-1:=J4 (by omega) (by omega)
 rw [hw,Int.toNat_natCast,Int.toNat_natCast]
 refine ⟨⟨by omega,by omega⟩,by simp only [List.length_nil];omega,⟨by omega,by rw [List.length_replicate];omega⟩,⟨((b.length:Int)-1,List.replicate b.length []++B9 (b.drop b.length) c,()),rfl,?_,by dsimp only;omega,by dsimp only;omega,?_⟩,?_⟩
 ·have:=bL7 b.length [] (C7 [] c)
  rw [List.append_nil] at this
  rw [this,List.drop_length]
  rfl
 ·dsimp only
  rw [show ((b.length:Int)-1+1).toNat=b.length by omega]
 rintro ⟨i,rows,⟨⟩⟩ ⟨h0,h1,h2⟩
 dsimp only at h0 h1 h2 ⊢
 subst h2
 refine ⟨fun hi=>?_,fun hi=>?_⟩
 ·have hi:i≥0:=of_decide_eq_true hi
  obtain ⟨k,rfl⟩:=Int.eq_ofNat_of_zero_le hi
  have hk:k<b.length:=by omega
  have hw1:IntKind.i64.wrap ((k:Int)+1)=((k+1:Nat):Int):=B4 hk (by omega)
  have hw2:IntKind.i64.wrap ((k:Int)-1)=(k:Int)-1:=J4 (by omega) (by omega)
  rw [hw1,hw2]
  simp only [Int.toNat_natCast,show ((k:Int)+1).toNat=k+1 by omega]
  have hrow:(List.replicate (k+1) []++B9 (b.drop (k+1)) c).getD (k+1) []=atL b c (k+1):=by
   have:=ce7 (k+1) (B9 (b.drop (k+1)) c) 0
   rw [Nat.add_zero] at this
   rw [this,bt0 b c (by omega)]
   cases B9 (b.drop (k+1)) c<;>rfl
  have hlen:(List.replicate (k+1) ([]:List Int)++B9 (b.drop (k+1)) c).length=b.length+1:=by
   rw [List.length_append,List.length_replicate,H0,List.length_drop];omega
  rw [hrow,hlen]
  have hat:(atL b c (k+1)).length≤4000:=aT4 (ai7 c b (k+1)) (fun n hn=>bs9 hrb hrc hn)
  refine ⟨⟨hi,h1⟩,by have:=hlf _ (G6 hk ins0);simp only [List.length_nil];omega,⟨(0,_,()),rfl,rfl,Int.le_refl _,by dsimp only;omega,by simp only [Int.toNat_zero,List.take_zero,List.filter_nil,List.foldl_nil];rfl⟩,?_⟩
  rintro ⟨q,l,⟨⟩⟩ ⟨q0,q1,q2⟩
  dsimp only at q0 q1 q2 ⊢
  subst q2
  obtain ⟨j,rfl⟩:=Int.eq_ofNat_of_zero_le q0
  simp only [Int.toNat_natCast]
  refine ⟨⟨by omega,by omega⟩,fun hc=>?_,fun hc=>?_⟩
  ·have hc:(j:Int)<(atL b c (k+1)).length:=of_decide_eq_true hc
   have hfew:((((atL b c (k+1)).take j).filter fun n=>!(b.getD k ins0).to.contains n).foldl J3 (C7 [] (b.getD k ins0).from_)).length≤4000:=by
    have hinc:incr ((((atL b c (k+1)).take j).filter fun n=>!(b.getD k ins0).to.contains n).foldl J3 (C7 [] (b.getD k ins0).from_)):=S8 (S8 List.Pairwise.nil _) _
    refine aT4 hinc (fun n hn=>?_)
    have hn:n∈C7 (C7 [] (b.getD k ins0).from_) (((atL b c (k+1)).take j).filter fun n=>!(b.getD k ins0).to.contains n):=hn
    rw [N6,N6] at hn
    rcases hn with (hn|hn)|hn
    ·simp at hn
    ·have:=List.all_eq_true.1 hrb _ (G6 hk ins0)
     rw [Bool.and_eq_true] at this
     exact K7.1 (List.all_eq_true.1 this.2 n hn)
    ·exact bs9 hrb hrc (List.mem_of_mem_take (List.mem_filter.1 hn).1)
   refine ⟨⟨hi,h1⟩,⟨by omega,by omega⟩,⟨q0,hc⟩,fun _=>⟨⟨by omega,by omega⟩,⟨q0,hc⟩,by omega⟩,((j+1:Nat),_,()),B4 (by omega) (by omega:(atL b c (k+1)).length≤140737488355328),rfl,⟨by omega,by dsimp only;omega,?_⟩,by dsimp only;omega⟩
   show (bif decide (D9 (b.getD k ins0).to ((atL b c (k+1)).getD j 0)<0) then J3 ((((atL b c (k+1)).take j).filter fun n=>!(b.getD k ins0).to.contains n).foldl J3 (C7 [] (b.getD k ins0).from_)) ((atL b c (k+1)).getD j 0) else (((atL b c (k+1)).take j).filter fun n=>!(b.getD k ins0).to.contains n).foldl J3 (C7 [] (b.getD k ins0).from_))=(((atL b c (k+1)).take (j+1)).filter fun n=>!(b.getD k ins0).to.contains n).foldl J3 (C7 [] (b.getD k ins0).from_)
   rw [bL6 (by omega),←R8]
   by_cases h5:D9 (b.getD k ins0).to ((atL b c (k+1)).getD j 0)<0
   ·rw [decide_eq_true h5,if_neg (by rw [decide_eq_true_eq];omega)]
    rfl
   ·rw [decide_eq_false h5,if_pos (by rw [decide_eq_true_eq];omega)]
    rfl
  ·have hj:j=(atL b c (k+1)).length:=by have:¬ (j:Int)<(atL b c (k+1)).length:=of_decide_eq_false hc;omega
   subst hj
   rw [List.take_length]
   refine ⟨⟨hi,by omega⟩,((k:Int)-1,List.replicate k []++B9 (b.drop k) c,()),rfl,?_,⟨by dsimp only;omega,by dsimp only;omega,?_⟩,by dsimp only;omega⟩
   ·dsimp only
    rw [bL7,bd2 b c hk]
    rfl
   ·dsimp only
    rw [show ((k:Int)-1+1).toNat=k by omega]
 ·have hi:¬ i≥0:=of_decide_eq_false hi
  rw [show (i+1).toNat=0 by omega]
  rfl
theorem bd3:C5 prog RG 55 cLivesR:=D8 (A5 aF4 (A5 al9 (A5 bb1 B8))) (fun p=>bl2 p.2.1 p.2.2.1) (by kernel_rfl) (by kernel_rfl) (by kernel_rfl) fun (a,b,c,d,()) hp=>bL8 a b c d hp
def L9 (b:List Ins):Bool:=b.all fun x=>decide (x.from_.length≤17592186044400)&&decide (x.to.length≤17592186044400)
noncomputable def cLiveR:Con RU:=con [(true,4)] X4 [one,one] [ba6,i64] [false,false] (some fun p=>p.2.2.1.length≤17592186044400∧L9 p.2.1=true) fun p=>((G2 ⟨p.1,p.2.1,p.2.2.1,p.2.2.2.1⟩).1,(G2 ⟨p.1,p.2.1,p.2.2.1,p.2.2.2.1⟩).2,())
noncomputable def cPressR:Con RU:=con [(true,4)] X4 [one,one] [i64,i64] [false,false] (some fun p=>p.2.2.1.length≤17592186044400∧L9 p.2.1=true) fun p=>((H6 ⟨p.1,p.2.1,p.2.2.1,p.2.2.2.1⟩).1,(H6 ⟨p.1,p.2.1,p.2.2.1,p.2.2.2.1⟩).2,())
noncomputable def bl4 (code:List Ins) (out:List Int):Nat→St RU→Ann RU:=fun _ _=>⟨[],[.slot 7,.slot 6],[i64,i64],fun p=>1≤p.1∧p.1≤code.length+1∧p.2.1=K1 (B9 code out) code (p.1-1).toNat,fun p=>code.length+1-p.1.toNat,[]⟩
end Go.Rg
end
section
set_option maxRecDepth 100000
open Go Go.VT
namespace Go.Rg
theorem bV6 (a:Int) (b:List Ins) (c d:List Int):vc (EV [(42,cCheck),(55,cLivesR)]) noL Go.Proofs.Tryd.f37 cLiveR (a,b,c,d,())=(let e0:List (List Int)×Int×Unit:=((G2 (VFun.mk a b c d)).1,(G2 (VFun.mk a b c d)).2,());
 let e1:Bool:=B0 (VFun.mk a b c d) !=(0:Int);
  Small RU (Sigma.mk (Ty.slice (52:Nat) (Ty.user (0:Nat))) b)→
  Small RU (Sigma.mk (Ty.slice (3:Nat) (Ty.int IntKind.i64)) c)→
  Small RU (Sigma.mk (Ty.slice (3:Nat) (Ty.int IntKind.i64)) d)→
  (e1=true→([],B0 (VFun.mk a b c d),())=e0)∧
  (e1=false→
  (List.length b≤(4000:Nat)∧
  List.length c≤(17592186044400:Nat)∧(∀ (x:Ins),List.Mem x b→List.length x.from_≤(17592186044400:Nat))∧List.all c G5=true∧L8 b=true)∧
  (B9 b c,(0:Int),())=e0)):=by kernel_rfl
theorem bL9 (a:Int) (b:List Ins) (c d:List Int):vc (EV [(37,cLiveR),(35,cUnion)]) (bl4 b c) Go.Proofs.Tryd.f38 cPressR (a,b,c,d,())=(let e0:Bool:=(G2 (VFun.mk a b c d)).2 !=(0:Int);
 let e1:List (List Int):=(G2 (VFun.mk a b c d)).1;
 let e2:Int×Int×Unit:=((H6 (VFun.mk a b c d)).1,(H6 (VFun.mk a b c d)).2,());
 let e3:Int:=(G2 (VFun.mk a b c d)).2;
 let e4:Ins:=Ins.mk (0:Int) (0:Int) [] [] [];
 let e5:Nat:=List.length b+(1:Nat);
 let e6:Int:=(↑(List.length e1):Int);
  Small RU (Sigma.mk (Ty.slice (52:Nat) (Ty.user (0:Nat))) b)→
  Small RU (Sigma.mk (Ty.slice (3:Nat) (Ty.int IntKind.i64)) c)→
  Small RU (Sigma.mk (Ty.slice (3:Nat) (Ty.int IntKind.i64)) d)→
  (List.length c≤(17592186044400:Nat)∧L9 b=true)∧
  (e0=true→((0:Int),e3,())=e2)∧
  (e0=false→
  ((0:Int)≤(0:Int)∧(0:Int)<e6)∧
  (∃ (p:Int×Int×Unit),
  a=a∧
  b=b∧
  c=c∧
  d=d∧
  (0:Int)=(0:Int)∧
  (0:Int)=(0:Int)∧
  e1=e1∧
  e3=e3∧
  e0=e0∧
  (1:Int)=p.1∧
  (↑(List.length (List.getD e1 (0:Nat) [])):Int)=p.2.1∧
  a=a∧
  b=b∧
  c=c∧d=d∧(1:Int)≤p.1∧p.1≤(↑(List.length b):Int)+(1:Int)∧p.2.1=K1 (B9 b c) b (Int.toNat (p.1-(1:Int))))∧
  ∀ (p:Int×Int×Unit),
 let e0_1:Int:=(↑(List.length (C7 (List.getD e1 (Int.toNat p.1) []) (List.getD b (Int.toNat (IntKind.wrap IntKind.i64 (p.1-(1:Int)))) e4).to)):Int);
 let e1_1:Int:=p.1;
 let e2_1:Bool:=decide (e1_1<e6);
 let e3_1:Int:=IntKind.wrap IntKind.i64 (e1_1-(1:Int));
 let e4_1:Int:=p.2.1;
 let e5_1:Int:=(↑(List.length b):Int)+(1:Int);
  (1:Int)≤e1_1∧e1_1≤e5_1∧e4_1=K1 (B9 b c) b (Int.toNat (e1_1-(1:Int)))→
  (e2_1=true→
  ((0:Int)≤e1_1∧e1_1<e6)∧
  ((0:Int)≤e3_1∧e3_1<(↑(List.length b):Int))∧
  List.length (List.getD e1 (Int.toNat e1_1) [])+List.length (List.getD b (Int.toNat e3_1) e4).to≤(17592186044400:Nat)∧
  ∃ (p':Int×Int×Unit),
  a=a∧
  b=b∧
  c=c∧
  d=d∧
  (0:Int)=(0:Int)∧
  (0:Int)=(0:Int)∧
  e1=e1∧
  e3=e3∧
  e0=e0∧
  IntKind.wrap IntKind.i64 (e1_1+(1:Int))=p'.1∧
  (if e0_1 >e4_1 then e0_1 else e4_1)=p'.2.1∧
  a=a∧
  b=b∧
  c=c∧
  d=d∧
  ((1:Int)≤p'.1∧p'.1≤e5_1∧p'.2.1=K1 (B9 b c) b (Int.toNat (p'.1-(1:Int))))∧
  e5-Int.toNat p'.1<e5-Int.toNat e1_1)∧
  (e2_1=false→(e4_1,(0:Int),())=e2))):=by kernel_rfl
end Go.Rg
end
section
set_option maxRecDepth 100000
namespace Go.Rg
open Go Go.VT
theorem bd4 {a:Int} {b:List Ins} {c:List Int} (C:Checked a b c):c.all G5=true∧L8 b=true:=by
 refine ⟨List.all_eq_true.2 fun n hn=>K7.2 (C.outR n hn),List.all_eq_true.2 fun x hx=>?_⟩
 rw [Bool.and_eq_true]
 exact ⟨List.all_eq_true.2 fun n hn=>K7.2 (C.toR x hx n hn),List.all_eq_true.2 fun n hn=>K7.2 (C.fromR x hx n hn)⟩
theorem bV7 (a:Int) (b:List Ins) (c d:List Int) (hp:c.length≤17592186044400∧L9 b=true):vc (EV [(42,cCheck),(55,cLivesR)]) noL Go.Proofs.Tryd.f37 cLiveR (a,b,c,d,()):=by
 rw [bV6 a b c d]
 intro e0 e1 _ _ _
 have he0:e0=((G2 ⟨a,b,c,d⟩).1,(G2 ⟨a,b,c,d⟩).2,()):=rfl
 refine ⟨fun h=>?_,fun h=>?_⟩
 ·have h:B0 ⟨a,b,c,d⟩≠0:=by simpa [e1] using h
  rw [he0]
  unfold G2
  rw [if_pos h]
 ·have h:B0 ⟨a,b,c,d⟩=0:=by simpa [e1] using h
  have C:=am5 h
  refine ⟨⟨C.len,hp.1,fun x hx=>?_,bd4 C⟩,?_⟩
  ·have:=List.all_eq_true.1 hp.2 x hx
   simp only [Bool.and_eq_true,decide_eq_true_eq] at this
   exact this.1
  ·rw [he0]
   unfold G2
   rw [if_neg (by simpa using h)]
theorem aH0:C5 prog RG 37 cLiveR:=D8 (A5 af9 (A5 bd3 B8)) (fun _=>noL) (by kernel_rfl) (by kernel_rfl) (by kernel_rfl) fun (a,b,c,d,()) hp=>bV7 a b c d hp
theorem bM0 (a:Int) (b:List Ins) (c d:List Int) (hp:c.length≤17592186044400∧L9 b=true):vc (EV [(37,cLiveR),(35,cUnion)]) (bl4 b c) Go.Proofs.Tryd.f38 cPressR (a,b,c,d,()):=by
 rw [bL9 a b c d]
 intro e0 e1 e2 e3 e4 e5 e6 hb _ _
 have he2:e2=((H6 ⟨a,b,c,d⟩).1,(H6 ⟨a,b,c,d⟩).2,()):=rfl
 have he4:e4=ins0:=rfl
 have hl2:(G2 ⟨a,b,c,d⟩).2=B0 ⟨a,b,c,d⟩:=by
  unfold G2
  by_cases h:B0 ⟨a,b,c,d⟩=0
  ·rw [if_neg (by simpa using h),h]
  ·rw [if_pos h]
 refine ⟨hp,fun h=>?_,fun h=>?_⟩
 ·have h:B0 ⟨a,b,c,d⟩≠0:=by simpa [e0,hl2] using h
  rw [he2]
  unfold H6
  rw [if_pos h]
  simp only [e3,hl2]
 have h:B0 ⟨a,b,c,d⟩=0:=by simpa [e0,hl2] using h
 have C:=am5 h
 have hlb:=C.len
 have he1:e1=B9 b c:=by
  show (G2 ⟨a,b,c,d⟩).1=_
  unfold G2
  rw [if_neg (by simpa using h)]
 have he2:e2=(K1 (B9 b c) b b.length,0,()):=by
  rw [he2]
  unfold H6
  rw [if_neg (by simpa using h)]
  unfold K1
  rw [List.take_of_length_le (by rw [List.length_zip];omega)]
  rfl
 have he6:e6=b.length+1:=by
  show ((List.length e1:Nat):Int)=_
  rw [he1,H0];rfl
 clear_value e2 e1 e6 e4
 subst he2 he1 he4 he6
 dsimp only [e5]
 simp only [true_and,and_true]
 refine ⟨⟨Int.le_refl _,by omega⟩,⟨(1,_,()),rfl,rfl,Int.le_refl _,by dsimp only;omega,?_⟩,?_⟩
 ·show ((atL b c 0).length:Int)=K1 (B9 b c) b 0
  rw [N3]
  rfl
 rintro ⟨i,m,⟨⟩⟩ ⟨h0,h1,h2⟩
 dsimp only at h0 h1 h2 ⊢
 subst h2
 obtain ⟨k,rfl⟩:∃ k:Nat,i=(k:Int)+1:=⟨(i-1).toNat,by omega⟩
 rw [show (k:Int)+1-1=(k:Int) by omega,show IntKind.i64.wrap (k:Int)=(k:Int) from J4 (by omega) (by omega)]
 simp only [Int.toNat_natCast,show ((k:Int)+1).toNat=k+1 by omega]
 refine ⟨fun hlt=>?_,fun hge=>?_⟩
 ·have hlt:(k:Int)+1<b.length+1:=of_decide_eq_true hlt
  have hk:k<b.length:=by omega
  have hat:(B9 b c).getD (k+1) []=atL b c (k+1):=rfl
  rw [hat]
  have hal:(atL b c (k+1)).length≤4000:=aT4 (ai7 c b (k+1)) (fun n hn=>aG5 C hn)
  have hto:(b.getD k ins0).to.length≤4000:=by
   have h3:(((b.getD k ins0).to).map Int.toNat).Nodup:=by
    rw [List.Nodup,List.pairwise_map]
    exact (bs5 C hk).imp_of_mem (fun {x y} hx hy hxy he=>hxy (by
     have:=C.toR _ (G6 hk ins0) x hx
     have:=C.toR _ (G6 hk ins0) y hy
     omega))
   have:=X8 4000 _ h3 (fun j hj=>by
    obtain ⟨q,hq,rfl⟩:=List.mem_map.1 hj
    have:=C.toR _ (G6 hk ins0) q hq
    omega)
   simpa using this
  refine ⟨⟨by omega,by omega⟩,⟨by omega,by omega⟩,by omega,((k:Int)+2,K1 (B9 b c) b (k+1),()),by rw [J4 (by omega) (by omega)];dsimp only;omega,?_,⟨by dsimp only;omega,by dsimp only;omega,by dsimp only;rw [show ((k:Int)+2-1).toNat=k+1 by omega]⟩,by dsimp only;omega⟩
  dsimp only
  rw [aN3 b c hk]
  split<;>omega
 ·have hk:k=b.length:=by have:¬ ((k:Int)+1<b.length+1):=of_decide_eq_false hge;omega
  subst hk
  rfl
theorem bd5:C5 prog RG 38 cPressR:=D8 (A5 aH0 (A5 aF4 B8)) (fun p=>bl4 p.2.1 p.2.2.1) (by kernel_rfl) (by kernel_rfl) (by kernel_rfl) fun (a,b,c,d,()) hp=>bM0 a b c d hp
noncomputable def cNamedR:Con RU:=⟨[one,one],[ints,mapI],[.d 0,.map 0],[.map 1],some fun p=>p.1.length≤17592186044400,none,[one],[ints,mapI],[.d 0],[.map 1],fun p=>(p.1.map (getI p.2.1),p.2),[0],[],[]⟩
noncomputable def bl5 (l:List Int) (m:List (Int×Int)):Nat→St RU→Ann RU:=fun _ _=>⟨[5],[.slot 6,.row 448],[i64,ints],fun p=>0≤p.1∧p.1≤l.length∧p.2.1=(l.take p.1.toNat).map (getI m),fun p=>l.length-p.1.toNat,[]⟩
def bM1 (s:List (Int×Int)×Int) (n:Int):List (Int×Int)×Int:=(mput eqI s.1 n s.2,s.2+1)
def H1 (s:List (Int×Int)×Int) (l:List Int):List (Int×Int)×Int:=l.foldl bM1 s
def E6 (s:List (Int×Int)×Int) (l:List Ins):List (Int×Int)×Int:=l.foldl (fun s x=>H1 s x.to) s
def N7:List (Int×Int)×Int→List Ins→List Ins
 |_,[]=>[]
 |s,x::r=>⟨x.op,x.n,x.to.map (getI (H1 s x.to).1),x.from_.map (getI s.1),x.body⟩::N7 (H1 s x.to) r
noncomputable def cPlainR:Con RU:=con [(true,4)] X4 [(true,4),one] [i64,inss,ints,ints,i64] [false,false,false,false,false] (some fun p=>p.2.2.1.length≤17592186044400∧L9 p.2.1=true)
 fun p=>((E3 ⟨p.1,p.2.1,p.2.2.1,p.2.2.2.1⟩).1.params,(E3 ⟨p.1,p.2.1,p.2.2.1,p.2.2.2.1⟩).1.code,(E3 ⟨p.1,p.2.1,p.2.2.1,p.2.2.2.1⟩).1.out,(E3 ⟨p.1,p.2.1,p.2.2.1,p.2.2.2.1⟩).1.at_,(E3 ⟨p.1,p.2.1,p.2.2.1,p.2.2.2.1⟩).2,())
noncomputable def bl6 (params:Int) (code:List Ins) (out:List Int):Nat→St RU→Ann RU:=fun k s=>match k with
 |0=>⟨[],[.slot 6,.row 1216],[i64,mapI],fun p=>0≤p.1∧(p.1≤params∨p.1=0)∧p.2.1=idm p.1.toNat,fun p=>params.toNat-p.1.toNat,[]⟩
 |1=>⟨[],[.slot 9,.slot 8,.row 1216,.row 7],[i64,i64,mapI,inss],fun p=>0≤p.1∧p.1≤code.length∧p.2.2.1=(E6 (idm params.toNat,params) (code.take p.1.toNat)).1∧p.2.1=(E6 (idm params.toNat,params) (code.take p.1.toNat)).2∧p.2.2.2.1=N7 (idm params.toNat,params) (code.take p.1.toNat),fun p=>code.length-p.1.toNat,[(.box 448 1,7,52,.user 0)]⟩
 |_=>⟨[],[.slot 12,.slot 8,.row 1216],[i64,i64,mapI],fun p=>0≤p.1∧p.1≤(code.getD (s.intAt 9).toNat ins0).to.length∧
   p.2.2.1=(H1 (E6 (idm params.toNat,params) (code.take (s.intAt 9).toNat)) ((code.getD (s.intAt 9).toNat ins0).to.take p.1.toNat)).1∧p.2.1=(H1 (E6 (idm params.toNat,params) (code.take (s.intAt 9).toNat)) ((code.getD (s.intAt 9).toNat ins0).to.take p.1.toNat)).2,fun p=>(code.getD (s.intAt 9).toNat ins0).to.length-p.1.toNat,[]⟩
end Go.Rg
end
section
set_option maxRecDepth 100000
open Go Go.VT
namespace Go.Rg
theorem bM2 (l:List Int) (m:List (Int×Int)):vc (EV []) (bl5 l m) Go.Proofs.Tryd.f75 cNamedR (l,m,())=(Small RU (Sigma.mk (Ty.slice (3:Nat) (Ty.int IntKind.i64)) l)→
  (∃ (p:Int×List Int×Unit),
  l=l∧(0:Int)=p.1∧m=m∧[]=p.2.1∧(0:Int)≤p.1∧p.1≤(↑(List.length l):Int)∧p.2.1=List.map (getI m) (List.take (Int.toNat p.1) l))∧
  ∀ (p:Int×List Int×Unit),
 let e0:Bool:=decide (p.1<(↑(List.length l):Int));
 let e1:List Int:=[Option.getD (mget (fun (x y:Int)=>x==y) m (List.getD l (Int.toNat p.1) (0:Int))) (0:Int)];
 let e2:List Int:=p.2.1;
 let e3:Int:=p.1;
  (0:Int)≤e3∧e3≤(↑(List.length l):Int)∧e2=List.map (getI m) (List.take (Int.toNat e3) l)→
  (e0=true→
  ((0:Int)≤e3∧e3<(↑(List.length l):Int))∧
  (List.length e2+List.length e1)*(8:Nat)≤(140737488355328:Nat)∧
  ∃ (p':Int×List Int×Unit),
  l=l∧
  IntKind.wrap IntKind.i64 (e3+(1:Int))=p'.1∧
  m=m∧
  e2++e1=p'.2.1∧
  ((0:Int)≤p'.1∧p'.1≤(↑(List.length l):Int)∧p'.2.1=List.map (getI m) (List.take (Int.toNat p'.1) l))∧
  List.length l-Int.toNat p'.1<List.length l-Int.toNat e3)∧
  (e0=false→(e2,m,())=(List.map (getI m) l,m,()))):=by kernel_rfl
theorem bM3 (a:Int) (b:List Ins) (c d:List Int):vc (EV [(42,cCheck),(75,cNamedR)]) (bl6 a b c) Go.Proofs.Tryd.f40 cPlainR (a,b,c,d,())=(let e0:Int×List Ins×List Int×List Int×Int×Unit:=
  ((E3 (VFun.mk a b c d)).1.params,(E3 (VFun.mk a b c d)).1.code,(E3 (VFun.mk a b c d)).1.out,(E3 (VFun.mk a b c d)).1.at_,(E3 (VFun.mk a b c d)).2,());
 let e1:Ins:=Ins.mk (0:Int) (0:Int) [] [] [];
 let e2:Bool:=B0 (VFun.mk a b c d) !=(0:Int);
 let e3:List (Int×Int)×Int:=(idm (Int.toNat a),a);
 let e4:Int:=(↑(List.length b):Int);
  Small RU (Sigma.mk (Ty.slice (52:Nat) (Ty.user (0:Nat))) b)→
  Small RU (Sigma.mk (Ty.slice (3:Nat) (Ty.int IntKind.i64)) c)→
  Small RU (Sigma.mk (Ty.slice (3:Nat) (Ty.int IntKind.i64)) d)→
  (e2=true→((0:Int),[],[],[],B0 (VFun.mk a b c d),())=e0)∧
  (e2=false→
  (∃ (p:Int×List (Int×Int)×Unit),
  a=a∧
  b=b∧
  c=c∧
  d=d∧
  (0:Int)=(0:Int)∧
  B0 (VFun.mk a b c d)=B0 (VFun.mk a b c d)∧
  e2=e2∧
  (0:Int)=p.1∧
  a=a∧b=b∧c=c∧d=d∧(0:Int)=(0:Int)∧[]=p.2.1∧(0:Int)≤p.1∧(p.1≤a∨p.1=(0:Int))∧p.2.1=idm (Int.toNat p.1))∧
  ∀ (p:Int×List (Int×Int)×Unit),
 let e0_1:Bool:=decide (p.1<a);
 let e1_1:Int:=p.1;
 let e2_1:List (Int×Int):=p.2.1;
  (0:Int)≤e1_1∧(e1_1≤a∨e1_1=(0:Int))∧e2_1=idm (Int.toNat e1_1)→
  (e0_1=true→
  ∃ (p':Int×List (Int×Int)×Unit),
  a=a∧
  b=b∧
  c=c∧
  d=d∧
  (0:Int)=(0:Int)∧
  B0 (VFun.mk a b c d)=B0 (VFun.mk a b c d)∧
  e2=e2∧
  IntKind.wrap IntKind.i64 (e1_1+(1:Int))=p'.1∧
  a=a∧
  b=b∧
  c=c∧
  d=d∧
  (0:Int)=(0:Int)∧
  mput (fun (x y:Int)=>x==y) e2_1 e1_1 e1_1=p'.2.1∧
  ((0:Int)≤p'.1∧(p'.1≤a∨p'.1=(0:Int))∧p'.2.1=idm (Int.toNat p'.1))∧
  Int.toNat a-Int.toNat p'.1<Int.toNat a-Int.toNat e1_1)∧
  (e0_1=false→
  (∃ (p:Int×Int×List (Int×Int)×List Ins×Unit),
  a=a∧
  b=b∧
  c=c∧
  d=d∧
  (0:Int)=(0:Int)∧
  B0 (VFun.mk a b c d)=B0 (VFun.mk a b c d)∧
  e2=e2∧
  e1_1=e1_1∧
  e0_1=e0_1∧
  (0:Int)=p.1∧
  a=p.2.1∧
  a=a∧
  b=b∧
  c=c∧
  d=d∧
  (0:Int)=(0:Int)∧
  e2_1=p.2.2.1∧
  a=a∧
  []=p.2.2.2.1∧
  (0:Int)≤p.1∧
  p.1≤e4∧
  p.2.2.1=(E6 e3 (List.take (Int.toNat p.1) b)).1∧
  p.2.1=(E6 e3 (List.take (Int.toNat p.1) b)).2∧p.2.2.2.1=N7 e3 (List.take (Int.toNat p.1) b))∧
  ∀ (p:Int×Int×List (Int×Int)×List Ins×Unit),
 let e0_2:List Ins:=p.2.2.2.1;
 let e1_2:List Int:=List.map (getI p.2.2.1) (List.getD b (Int.toNat p.1) e1).from_;
 let e2_2:List (Int×Int):=p.2.2.1;
 let e3_1:Bool:=decide (p.1<e4);
 let e4_1:List Int:=(List.getD b (Int.toNat p.1) e1).to;
 let e5:Int:=p.1;
 let e6:Int:=p.2.1;
 let e7:Int:=(List.getD b (Int.toNat e5) e1).op;
 let e8:Int:=(List.getD b (Int.toNat e5) e1).n;
 let e9:List Ins:=(List.getD b (Int.toNat e5) e1).body;
 let e10:Nat:=List.length (List.getD b (Int.toNat e5) ins0).to;
 let e11:List Int:=(List.getD b (Int.toNat e5) e1).from_;
 let e12:List (Int×Int)×Int:=E6 e3 (List.take (Int.toNat e5) b);
  (0:Int)≤e5∧e5≤e4∧e2_2=e12.1∧e6=e12.2∧e0_2=N7 e3 (List.take (Int.toNat e5) b)→
  (e3_1=true→
  ((0:Int)≤e5∧e5<e4)∧
  (List.length e11≤(17592186044400:Nat)∧e2_2=e2_2∧True)∧
  (∃ (p:Int×Int×List (Int×Int)×Unit),
  a=a∧
  b=b∧
  c=c∧
  d=d∧
  (0:Int)=(0:Int)∧
  B0 (VFun.mk a b c d)=B0 (VFun.mk a b c d)∧
  e2=e2∧
  e1_1=e1_1∧
  e0_1=e0_1∧
  e5=e5∧
  e3_1=e3_1∧
  e1_2=e1_2∧
  (0:Int)=p.1∧
  e6=p.2.1∧
  a=a∧
  b=b∧
  c=c∧
  d=d∧
  (0:Int)=(0:Int)∧
  e2_2=p.2.2.1∧
  a=a∧
  e0_2=e0_2∧
  e7=e7∧
  e8=e8∧
  e4_1=e4_1∧
  e11=e11∧
  e9=e9∧
  (0:Int)≤p.1∧
  p.1≤(↑e10:Int)∧
  p.2.2.1=(H1 e12 (List.take (Int.toNat p.1) (List.getD b (Int.toNat e5) ins0).to)).1∧
  p.2.1=(H1 e12 (List.take (Int.toNat p.1) (List.getD b (Int.toNat e5) ins0).to)).2)∧
  ∀ (p:Int×Int×List (Int×Int)×Unit),
 let e0:List (Int×Int):=p.2.2.1;
 let e1:Int:=p.2.1;
 let e2_3:Bool:=decide (p.1<(↑(List.length e4_1):Int));
 let e3_2:Int:=p.1;
 let e4_2:List Ins:=[Ins.mk e7 e8 (List.map (getI e0) e4_1) e1_2 e9];
  (0:Int)≤e3_2∧
  e3_2≤(↑e10:Int)∧
  e0=(H1 e12 (List.take (Int.toNat e3_2) (List.getD b (Int.toNat e5) ins0).to)).1∧
  e1=(H1 e12 (List.take (Int.toNat e3_2) (List.getD b (Int.toNat e5) ins0).to)).2→
  (e2_3=true→
  ((0:Int)≤e3_2∧e3_2<(↑(List.length e4_1):Int))∧
  ∃ (p':Int×Int×List (Int×Int)×Unit),
  a=a∧
  b=b∧
  c=c∧
  d=d∧
  (0:Int)=(0:Int)∧
  B0 (VFun.mk a b c d)=B0 (VFun.mk a b c d)∧
  e2=e2∧
  e1_1=e1_1∧
  e0_1=e0_1∧
  e5=e5∧
  e3_1=e3_1∧
  e1_2=e1_2∧
  IntKind.wrap IntKind.i64 (e3_2+(1:Int))=p'.1∧
  IntKind.wrap IntKind.i64 (e1+(1:Int))=p'.2.1∧
  a=a∧
  b=b∧
  c=c∧
  d=d∧
  (0:Int)=(0:Int)∧
  mput (fun (x y:Int)=>x==y) e0 (List.getD e4_1 (Int.toNat e3_2) (0:Int)) e1=p'.2.2.1∧
  a=a∧
  e0_2=e0_2∧
  e7=e7∧
  e8=e8∧
  e4_1=e4_1∧
  e11=e11∧
  e9=e9∧
  ((0:Int)≤p'.1∧
  p'.1≤(↑e10:Int)∧
  p'.2.2.1=
  (H1 e12 (List.take (Int.toNat p'.1) (List.getD b (Int.toNat e5) ins0).to)).1∧
  p'.2.1=
  (H1 e12 (List.take (Int.toNat p'.1) (List.getD b (Int.toNat e5) ins0).to)).2)∧
  e10-Int.toNat p'.1<e10-Int.toNat e3_2)∧
  (e2_3=false→
  (List.length e4_1≤(17592186044400:Nat)∧e0=e0∧True)∧
  (List.length e0_2+List.length e4_2)*(88:Nat)≤(140737488355328:Nat)∧
  ∃ (p':Int×Int×List (Int×Int)×List Ins×Unit),
  a=a∧
  b=b∧
  c=c∧
  d=d∧
  (0:Int)=(0:Int)∧
  B0 (VFun.mk a b c d)=B0 (VFun.mk a b c d)∧
  e2=e2∧
  e1_1=e1_1∧
  e0_1=e0_1∧
  IntKind.wrap IntKind.i64 (e5+(1:Int))=p'.1∧
  e1=p'.2.1∧
  a=a∧
  b=b∧
  c=c∧
  d=d∧
  (0:Int)=(0:Int)∧
  e0=p'.2.2.1∧
  a=a∧
  e0_2++e4_2=p'.2.2.2.1∧
  ((0:Int)≤p'.1∧
  p'.1≤e4∧
  p'.2.2.1=(E6 e3 (List.take (Int.toNat p'.1) b)).1∧
  p'.2.1=(E6 e3 (List.take (Int.toNat p'.1) b)).2∧
  p'.2.2.2.1=N7 e3 (List.take (Int.toNat p'.1) b))∧
  List.length b-Int.toNat p'.1<List.length b-Int.toNat e5))∧
  (e3_1=false→(List.length c≤(17592186044400:Nat)∧e2_2=e2_2∧True)∧(a,e0_2,List.map (getI e2_2) c,[],(0:Int),())=e0)))):=by kernel_rfl
end Go.Rg
end
section
set_option maxRecDepth 100000
namespace Go.Rg
open Go Go.VT
theorem bM4 (l:List Int) (m:List (Int×Int)) (hp:l.length≤17592186044400):vc (EV []) (bl5 l m) Go.Proofs.Tryd.f75 cNamedR (l,m,()):=by
 rw [bM2 l m]
 dsimp only
 intro hs
 simp only [true_and,and_true]
 refine ⟨⟨(0,[],()),rfl,rfl,Int.le_refl _,by dsimp only;omega,by simp⟩,?_⟩
 rintro ⟨i,out,⟨⟩⟩ ⟨h0,h1,h2⟩
 dsimp only at h0 h1 h2 ⊢
 subst h2
 obtain ⟨k,rfl⟩:=Int.eq_ofNat_of_zero_le h0
 simp only [Int.toNat_natCast]
 refine ⟨fun hlt=>?_,fun hge=>?_⟩
 ·have hlt:(k:Int)<l.length:=of_decide_eq_true hlt
  refine ⟨⟨h0,hlt⟩,by simp only [List.length_map,List.length_take,List.length_singleton];omega,((k+1:Nat),(l.take (k+1)).map (getI m),()),B4 (by omega) hs.len,?_,⟨by omega,by dsimp only;omega,by rw [Int.toNat_natCast]⟩,by dsimp only;omega⟩
  dsimp only
  rw [A4 (by omega) 0,List.map_append]
  rfl
 ·have hk:k=l.length:=by have:¬ (k:Int)<l.length:=of_decide_eq_false hge;omega
  subst hk
  rw [List.take_length]
theorem bd6:C5 prog RG 75 cNamedR:=D8 B8 (fun p=>bl5 p.1 p.2.1) (by kernel_rfl) (by kernel_rfl) (by kernel_rfl) fun (l,m,()) hp=>bM4 l m hp
theorem bd7 {a:Int} (ha:0≤a):∀ (l W:List Int) (m:List (Int×Int)) (o:List Int),Named a W m→(W++l).Nodup→(∀ x∈l,a≤x)→H1 (m,a+W.length) l=((l.foldl ax3 (o,m)).2,a+W.length+l.length)
 |[],W,m,o,_,_,_=>by simp [H1]
 |x::r,W,m,o,N,hn,hl=>by
  have hx:x∉W:=by
   intro h
   exact (List.nodup_append.1 hn).2.2 x h x (by simp) rfl
  have N':=bd0 N ha hx (hl x (by simp))
  have ih:=bd7 ha r (W++[x]) (mput eqI m x m.length) (o++[(m.length:Int)]) N' (by rw [List.append_assoc];exact hn) (fun y hy=>hl y (by simp [hy]))
  have hlen:=N.len
  rw [show H1 (m,a+W.length) (x::r)=H1 (mput eqI m x (a+W.length),a+W.length+1) r from rfl,←hlen]
  rw [List.length_append,List.length_singleton] at ih
  rw [show (m.length:Int)+1=a+((W.length+1:Nat):Int) by omega,ih]
  simp only [List.foldl_cons,ax3,List.length_cons]
  rw [show a+((W.length+1:Nat):Int)+(r.length:Int)=(m.length:Int)+((r.length+1:Nat):Int) by omega]
theorem aN5 {a:Int} (ha:0≤a):∀ (l:List Ins) (W:List Int) (m:List (Int×Int)),Named a W m→(W++wr l).Nodup→(∀ x∈wr l,a≤x)→
  N7 (m,a+W.length) l=T0 m l∧E6 (m,a+W.length) l=(L5 m l,a+W.length+(wr l).length)
 |[],W,m,_,_,_=>by simp [N7,T0,E6,L5,wr]
 |x::r,W,m,N,hn,hl=>by
  have hn':=hn
  rw [L0,←List.append_assoc] at hn'
  have hlx:∀ y∈x.to,a≤y:=fun y hy=>hl y (by rw [L0];simp [hy])
  have h1:=am8 ha x.to W m N (List.nodup_append.1 hn').1 hlx
  have h2:=bd7 ha x.to W m [] N (List.nodup_append.1 hn').1 hlx
  rw [show (x.to.foldl ax3 ([],m)).2=(G3 m x.to).2 from rfl] at h2
  have ih:=aN5 ha r (W++x.to) _ h1.1 hn' (fun y hy=>hl y (by rw [L0];simp [hy]))
  rw [List.length_append,Int.natCast_add,←Int.add_assoc] at ih
  have hto:x.to.map (getI (G3 m x.to).2)=(G3 m x.to).1:=by
   rw [h1.2]
   apply List.map_congr_left
   intro n hn
   unfold getI
   rw [h1.1.wr n (by simp [hn])]
   rfl
  constructor
  ·simp only [N7,T0,h2,ih.1,hto]
   rfl
  ·rw [show E6 (m,a+(W.length:Int)) (x::r)=E6 (H1 (m,a+W.length) x.to) r from rfl,h2,ih.2,L0,List.length_append]
   rw [show L5 m (x::r)=L5 (G3 m x.to).2 r from rfl]
   simp only [Prod.mk.injEq,true_and]
   omega
theorem aN6 (l:List Int):∀ s:List (Int×Int)×Int,(H1 s l).2=s.2+l.length:=by
 induction l with
 |nil=>intro s;simp [H1]
 |cons x r ih=>
  intro s
  rw [show H1 s (x::r)=H1 (bM1 s x) r from rfl,ih]
  simp only [bM1,List.length_cons]
  omega
theorem bl7 (l:List Ins):∀ s:List (Int×Int)×Int,(E6 s l).2=s.2+(wr l).length:=by
 induction l with
 |nil=>intro s;simp [E6,wr]
 |cons x r ih=>
  intro s
  rw [show E6 s (x::r)=E6 (H1 s x.to) r from rfl,ih,aN6,L0,List.length_append]
  omega
theorem bl8 (s:List (Int×Int)×Int) (l:List Int) (x:Int):H1 s (l++[x])=bM1 (H1 s l) x:=by simp [H1]
theorem bd8 (s:List (Int×Int)×Int) (l:List Ins) (x:Ins):E6 s (l++[x])=H1 (E6 s l) x.to:=by simp [E6]
theorem aw5 (x:Ins):∀ (l:List Ins) (s:List (Int×Int)×Int),N7 s (l++[x])=N7 s l++[⟨x.op,x.n,x.to.map (getI (H1 (E6 s l) x.to).1),x.from_.map (getI (E6 s l).1),x.body⟩]
 |[],s=>rfl
 |y::l,s=>by
  simp only [List.cons_append,N7,aw5 x l]
  rfl
theorem aj8:∀ (l:List Ins) (s:List (Int×Int)×Int),(N7 s l).length=l.length
 |[],s=>rfl
 |y::l,s=>by simp [N7,aj8 l]
theorem bM5 (a:Int) (b:List Ins) (c d:List Int) (hp:c.length≤17592186044400∧L9 b=true):vc (EV [(42,cCheck),(75,cNamedR)]) (bl6 a b c) Go.Proofs.Tryd.f40 cPlainR (a,b,c,d,()):=by
 rw [bM3 a b c d]
 intro e0 e1 e2 e3 e4 hb _ _
 have he0:e0=((E3 ⟨a,b,c,d⟩).1.params,(E3 ⟨a,b,c,d⟩).1.code,(E3 ⟨a,b,c,d⟩).1.out,(E3 ⟨a,b,c,d⟩).1.at_,(E3 ⟨a,b,c,d⟩).2,()):=rfl
 have he1:e1=ins0:=rfl
 refine ⟨fun h=>?_,fun h=>?_⟩
 ·have h:B0 ⟨a,b,c,d⟩≠0:=by simpa [e2] using h
  rw [he0]
  unfold E3
  rw [if_pos h]
  rfl
 have h:B0 ⟨a,b,c,d⟩=0:=by simpa [e2] using h
 have C:=am5 h
 have hlb:=C.len
 have hpos:=C.pos
 have hfew:=C.few
 have N0:=bc9 C.pos
 have hnd:=F8.1 C.once
 have hpl:=aG9 C.pos b [] [] (idm a.toNat) N0 (by simpa using hnd) C.new C.there (fun x hx n hn=>(C.fromR x hx n hn).1) (fun x hx=>by simp at hx)
 have hM:=af8 C.pos b [] (idm a.toNat) N0 (by simpa using hnd) C.new
 have hR:=aN5 C.pos b [] (idm a.toNat) N0 (by simpa using hnd) C.new
 rw [List.nil_append] at hM
 simp only [List.nil_append,List.append_nil] at hpl
 simp only [List.length_nil,Int.natCast_zero,Int.add_zero] at hR
 have hwr:(wr b).length≤4000:=by
  have h3:((wr b).map Int.toNat).Nodup:=by
   rw [List.Nodup,List.pairwise_map]
   exact hnd.imp_of_mem (fun {x y} hx hy hxy he=>hxy (by
    obtain ⟨u,hu,hxu⟩:=bc3.1 hx
    obtain ⟨v,hv,hyv⟩:=bc3.1 hy
    have:=C.toR u hu x hxu
    have:=C.toR v hv y hyv
    omega))
  have:=X8 4000 _ h3 (fun j hj=>by
   obtain ⟨q,hq,rfl⟩:=List.mem_map.1 hj
   obtain ⟨u,hu,hxu⟩:=bc3.1 hq
   have:=C.toR u hu q hxu
   omega)
  simpa using this
 have hwrT:∀ k,(wr (b.take k)).length≤4000:=fun k=>by
  have:(wr b).length=(wr (b.take k)).length+(wr (b.drop k)).length:=by
   rw [←List.length_append,←L7,List.take_append_drop]
  omega
 have he0:e0=(a,N7 (idm a.toNat,a) b,c.map (getI (E6 (idm a.toNat,a) b).1),[],0,()):=by
  rw [he0]
  unfold E3
  rw [if_neg (by simpa using h),hR.1,hR.2]
  have:c.map (getI (L5 (idm a.toNat) b))=c.map (Q7 a (wr b)):=by
   apply List.map_congr_left
   intro n hn
   refine at2 hM ?_
   have h1:=(C.outR n hn).1
   rcases C.outT n hn with h2|h2
   ·exact .inl ⟨h1,h2⟩
   ·exact .inr ⟨C.new n h2,h2⟩
  rw [this,hpl]
 have hfF:∀ k,k<b.length→(b.getD k ins0).from_.length≤17592186044400∧(b.getD k ins0).to.length≤17592186044400:=fun k hk=>by
  have:=List.all_eq_true.1 hp.2 _ (G6 hk ins0)
  simpa using this
 clear_value e0 e1
 subst he0 he1
 dsimp only [e3,e4]
 simp only [true_and,and_true]
 refine ⟨⟨(0,[],()),rfl,rfl,Int.le_refl _,.inr rfl,rfl⟩,?_⟩
 rintro ⟨i,m,⟨⟩⟩ ⟨h0,h1,h2⟩
 dsimp only at h0 h1 h2 ⊢
 subst h2
 obtain ⟨k,rfl⟩:=Int.eq_ofNat_of_zero_le h0
 simp only [Int.toNat_natCast]
 refine ⟨fun hlt=>?_,fun hge=>?_⟩
 ·have hlt:(k:Int)<a:=of_decide_eq_true hlt
  refine ⟨((k+1:Nat),idm (k+1),()),by rw [J4 (by omega) (by omega)];rfl,?_,⟨by omega,.inl (by dsimp only;omega),by rw [Int.toNat_natCast]⟩,by dsimp only;omega⟩
  rw [aT3]
 have hk:k=a.toNat:=by have:¬ (k:Int)<a:=of_decide_eq_false hge;omega
 subst hk
 clear h0 h1 hge
 refine ⟨⟨(0,a,idm a.toNat,[],()),rfl,rfl,rfl,rfl,Int.le_refl _,by dsimp only;omega,rfl,rfl,rfl⟩,?_⟩
 rintro ⟨i,nx,m,out,⟨⟩⟩ ⟨h0,h1,h2,h3,h4⟩
 dsimp only at h0 h1 h2 h3 h4 ⊢
 subst h2 h3 h4
 obtain ⟨k,rfl⟩:=Int.eq_ofNat_of_zero_le h0
 simp only [Int.toNat_natCast]
 refine ⟨fun hlt=>?_,fun hge=>?_⟩
 ·have hlt:(k:Int)<b.length:=of_decide_eq_true hlt
  have hff:=hfF k (by omega)
  have hto:(b.getD k ins0).to.length≤140737488355328:=by omega
  refine ⟨⟨h0,hlt⟩,hff.1,⟨(0,(E6 (idm a.toNat,a) (b.take k)).2,(E6 (idm a.toNat,a) (b.take k)).1,()),rfl,rfl,rfl,Int.le_refl _,by dsimp only;omega,rfl,rfl⟩,?_⟩
  rintro ⟨q,nx,m,⟨⟩⟩ ⟨q0,q1,q2,q3⟩
  dsimp only at q0 q1 q2 q3 ⊢
  subst q2 q3
  obtain ⟨j,rfl⟩:=Int.eq_ofNat_of_zero_le q0
  simp only [Int.toNat_natCast]
  refine ⟨fun hc=>?_,fun hc=>?_⟩
  ·have hc:(j:Int)<(b.getD k ins0).to.length:=of_decide_eq_true hc
   have hnx:(H1 (E6 (idm a.toNat,a) (b.take k)) ((b.getD k ins0).to.take j)).2=a+(wr (b.take k)).length+j:=by
    rw [aN6,bl7,List.length_take,Nat.min_eq_left (by omega)]
   have hw4:=hwrT k
   have hs:H1 (E6 (idm a.toNat,a) (b.take k)) ((b.getD k ins0).to.take (j+1))=bM1 (H1 (E6 (idm a.toNat,a) (b.take k)) ((b.getD k ins0).to.take j)) ((b.getD k ins0).to.getD j 0):=by
    rw [A4 (by omega) 0,bl8]
   refine ⟨⟨q0,hc⟩,((j+1:Nat),(H1 (E6 (idm a.toNat,a) (b.take k)) ((b.getD k ins0).to.take (j+1))).2,(H1 (E6 (idm a.toNat,a) (b.take k)) ((b.getD k ins0).to.take (j+1))).1,()),B4 (by omega) hto,?_,?_,⟨by omega,by dsimp only;omega,by rw [Int.toNat_natCast],by rw [Int.toNat_natCast]⟩,by dsimp only;omega⟩
   ·dsimp only
    rw [hs,J4 (by omega) (by omega)]
    rfl
   ·dsimp only
    rw [hs]
    rfl
  ·have hj:j=(b.getD k ins0).to.length:=by have:¬ (j:Int)<(b.getD k ins0).to.length:=of_decide_eq_false hc;omega
   subst hj
   rw [List.take_length]
   have hs:E6 (idm a.toNat,a) (b.take (k+1))=H1 (E6 (idm a.toNat,a) (b.take k)) (b.getD k ins0).to:=by
    rw [A4 (by omega) ins0,bd8]
   refine ⟨hff.2,by rw [aj8,List.length_take,List.length_singleton];omega,((k+1:Nat),(E6 (idm a.toNat,a) (b.take (k+1))).2,(E6 (idm a.toNat,a) (b.take (k+1))).1,N7 (idm a.toNat,a) (b.take (k+1)),()),B4 (by omega) (by omega:b.length≤140737488355328),?_,?_,?_,⟨by omega,by dsimp only;omega,by rw [Int.toNat_natCast],by rw [Int.toNat_natCast],by rw [Int.toNat_natCast]⟩,by dsimp only;omega⟩
   ·rw [hs]
   ·rw [hs]
   ·dsimp only
    rw [A4 (by omega) ins0,aw5]
 ·have hk:k=b.length:=by have:¬ (k:Int)<b.length:=of_decide_eq_false hge;omega
  subst hk
  rw [List.take_length]
  exact ⟨hp.1,rfl⟩
theorem bd9:C5 prog RG 40 cPlainR:=D8 (A5 af9 (A5 bd6 B8)) (fun p=>bl6 p.1 p.2.1 p.2.2.1) (by kernel_rfl) (by kernel_rfl) (by kernel_rfl) fun (a,b,c,d,()) hp=>bM5 a b c d hp
def H2 (n:Int) (l:List Int):Bool:=l.all fun x=>decide (0≤x)&&decide (x<n)
def aj1 (slots cells:Int) (x:RIns):Bool:=
 if x.kind=0 then H2 slots x.ins.from_&&H2 slots x.ins.to else if x.kind=1∨x.kind=2 then H2 slots [x.slot]&&H2 cells [x.cell] else false
def ac2 (slots cells:Int) (p:Place):Bool:=H2 (if p.cell then cells else slots) [p.n]
def K4 (c:RCode):Bool:=
 (H2 4001 [c.params]&&H2 65 [c.slots]&&decide (1≤c.slots)&&decide (c.params≤c.cells)&&decide (c.cells≤8000))&&c.code.all (aj1 c.slots c.cells)&&c.out.all (ac2 c.slots c.cells)
noncomputable def cShaped:Con RU:=con [(true,5)] bH5 [one] [.bool] [false] (some fun p=>-9223372036854775808≤p.2.1∧p.2.1<9223372036854775808) fun p=>(K4 ⟨p.1,p.2.1,p.2.2.1,p.2.2.2.1,p.2.2.2.2.1⟩,())
noncomputable def bl9 (slots cells:Int) (l:List RIns) (o:List Place):Nat→St RU→Ann RU:=fun k s=>match k with
 |0=>⟨[],[.slot 36],[i64],fun p=>0≤p.1∧p.1≤l.length∧(l.take p.1.toNat).all (aj1 slots cells)=true,fun p=>l.length-p.1.toNat,[]⟩
 |_=>⟨[],[.slot 83],[i64],fun p=>0≤p.1∧p.1≤o.length∧(o.take p.1.toNat).all (ac2 slots cells)=true,fun p=>o.length-p.1.toNat,[]⟩
end Go.Rg
end
section
set_option maxRecDepth 100000
open Go Go.VT
namespace Go.Rg
theorem bM6 (x1 x2 x3:Int) (l:List RIns) (o:List Place):vc (EV [(92,cIn)]) (bl9 x2 x3 l o) Go.Proofs.Tryd.f60 cShaped (x1,x2,x3,l,o,())=(
 let e0:Bool:=
  ((!List.all [x1] fun (n:den RU.T i64)=>decide ((0:Int)≤n)&&decide (n<(4001:Int)))||
  !List.all [IntKind.wrap IntKind.i64 (x2-(1:Int))] fun (n:den RU.T i64)=>decide ((0:Int)≤n)&&decide (n<(64:Int)))||
  decide (x3<x1)||
  decide (x3 >(8000:Int));
 let e1:Int:=(↑(List.length l):Int);
 let e2:RIns:=RIns.mk (0:Int) (0:Int) (0:Int) ins0;
 let e3:Int:=(↑(List.length o):Int);
 let e4:Place:=Place.mk false (0:Int);
  Small RU (Sigma.mk (Ty.slice (55:Nat) (Ty.user (1:Nat))) l)→
  Small RU (Sigma.mk (Ty.slice (59:Nat) (Ty.user (2:Nat))) o)→
  (e0=true→(false,())=(K4 (RCode.mk x1 x2 x3 l o),()))∧
  (e0=false→
  (∃ (p:Int×Unit),
  x1=x1∧
  x2=x2∧
  x3=x3∧
  l=l∧
  o=o∧
  e0=e0∧
  l=l∧
  e1=e1∧
  (0:Int)=p.1∧
  x1=x1∧x2=x2∧x3=x3∧l=l∧o=o∧[x1]=[x1]∧(0:Int)≤p.1∧p.1≤e1∧List.all (List.take (Int.toNat p.1) l) (aj1 x2 x3)=true)∧
  ∀ (p:Int×Unit),
 let e0_1:Bool:=
  (!List.all [bif (List.getD l (Int.toNat p.1) e2).kind==(1:Int) then (List.getD l (Int.toNat p.1) e2).slot else (List.getD l (Int.toNat p.1) e2).slot] fun (n:den RU.T i64)=>
  decide ((0:Int)≤n)&&decide (n<bif (List.getD l (Int.toNat p.1) e2).kind==(1:Int) then x2 else x2))||
  !List.all [bif (List.getD l (Int.toNat p.1) e2).kind==(1:Int) then (List.getD l (Int.toNat p.1) e2).cell else (List.getD l (Int.toNat p.1) e2).cell] fun (n:den RU.T i64)=>
  decide ((0:Int)≤n)&&decide (n<bif (List.getD l (Int.toNat p.1) e2).kind==(1:Int) then x3 else x3);
 let e1_1:Bool:=
  (!List.all (List.getD l (Int.toNat p.1) e2).ins.from_ fun (n:den RU.T i64)=>decide ((0:Int)≤n)&&decide (n<x2))||
  !List.all (List.getD l (Int.toNat p.1) e2).ins.to fun (n:den RU.T i64)=>decide ((0:Int)≤n)&&decide (n<x2);
 let e2_1:Bool:=(List.getD l (Int.toNat p.1) e2).kind==(1:Int);
 let e3_1:Bool:=decide (p.1<e1);
 let e4_1:Bool:=bif e2_1 then e2_1 else (List.getD l (Int.toNat p.1) e2).kind==(2:Int);
 let e5:Bool:=(List.getD l (Int.toNat p.1) e2).kind==(0:Int);
  (0:Int)≤p.1∧p.1≤e1∧List.all (List.take (Int.toNat p.1) l) (aj1 x2 x3)=true→
  (e3_1=true→
  ((0:Int)≤p.1∧p.1<e1)∧
  (e5=true→
  (e1_1=true→(false,())=(K4 (RCode.mk x1 x2 x3 l o),()))∧
  (e1_1=false→
  ∃ (p':Int×Unit),
  x1=x1∧
  x2=x2∧
  x3=x3∧
  l=l∧
  o=o∧
  e0=e0∧
  l=l∧
  e1=e1∧
  IntKind.wrap IntKind.i64 (p.1+(1:Int))=p'.1∧
  x1=x1∧
  x2=x2∧
  x3=x3∧
  l=l∧
  o=o∧
  [x1]=[x1]∧
  ((0:Int)≤p'.1∧p'.1≤e1∧List.all (List.take (Int.toNat p'.1) l) (aj1 x2 x3)=true)∧
  List.length l-Int.toNat p'.1<List.length l-Int.toNat p.1))∧
  (e5=false→
  (e4_1=true→
  (e0_1=true→(false,())=(K4 (RCode.mk x1 x2 x3 l o),()))∧
  (e0_1=false→
  ∃ (p':Int×Unit),
  (bif e2_1 then x1 else x1)=x1∧
  (bif e2_1 then x2 else x2)=x2∧
  (bif e2_1 then x3 else x3)=x3∧
  (bif e2_1 then l else l)=l∧
  (bif e2_1 then o else o)=o∧
  (bif e2_1 then e0 else e0)=e0∧
  (bif e2_1 then l else l)=l∧
  (bif e2_1 then e1 else e1)=e1∧
  IntKind.wrap IntKind.i64 ((bif e2_1 then p.1 else p.1)+(1:Int))=p'.1∧
  (bif e2_1 then x1 else x1)=x1∧
  (bif e2_1 then x2 else x2)=x2∧
  (bif e2_1 then x3 else x3)=x3∧
  (bif e2_1 then l else l)=l∧
  (bif e2_1 then o else o)=o∧
  (bif e2_1 then [x1] else [x1])=[x1]∧
  ((0:Int)≤p'.1∧p'.1≤e1∧List.all (List.take (Int.toNat p'.1) l) (aj1 x2 x3)=true)∧
  List.length l-Int.toNat p'.1<List.length l-Int.toNat p.1))∧
  (e4_1=false→(false,())=(K4 (RCode.mk x1 x2 x3 l o),()))))∧
  (e3_1=false→
  (∃ (p_1:Int×Unit),
  x1=x1∧
  x2=x2∧
  x3=x3∧
  l=l∧
  o=o∧
  e0=e0∧
  l=l∧
  e1=e1∧
  p.1=p.1∧
  e3_1=e3_1∧
  o=o∧
  e3=e3∧
  (0:Int)=p_1.1∧
  x1=x1∧
  x2=x2∧
  x3=x3∧l=l∧o=o∧[x1]=[x1]∧(0:Int)≤p_1.1∧p_1.1≤e3∧List.all (List.take (Int.toNat p_1.1) o) (ac2 x2 x3)=true)∧
  ∀ (p_1:Int×Unit),
 let e0_2:Bool:=
  !List.all [bif (List.getD o (Int.toNat p_1.1) e4).cell then (List.getD o (Int.toNat p_1.1) e4).n else (List.getD o (Int.toNat p_1.1) e4).n] fun (n:den RU.T i64)=>
  decide ((0:Int)≤n)&&decide (n<bif (List.getD o (Int.toNat p_1.1) e4).cell then x3 else x2);
 let e1_2:Bool:=(List.getD o (Int.toNat p_1.1) e4).cell;
 let e2:Bool:=decide (p_1.1<e3);
  (0:Int)≤p_1.1∧p_1.1≤e3∧List.all (List.take (Int.toNat p_1.1) o) (ac2 x2 x3)=true→
  (e2=true→
  ((0:Int)≤p_1.1∧p_1.1<e3)∧
  (e0_2=true→(false,())=(K4 (RCode.mk x1 x2 x3 l o),()))∧
  (e0_2=false→
  ∃ (p':Int×Unit),
  (bif e1_2 then x1 else x1)=x1∧
  (bif e1_2 then x2 else x2)=x2∧
  (bif e1_2 then x3 else x3)=x3∧
  (bif e1_2 then l else l)=l∧
  (bif e1_2 then o else o)=o∧
  (bif e1_2 then e0 else e0)=e0∧
  (bif e1_2 then l else l)=l∧
  (bif e1_2 then e1 else e1)=e1∧
  (bif e1_2 then p.1 else p.1)=p.1∧
  (bif e1_2 then e3_1 else e3_1)=e3_1∧
  (bif e1_2 then o else o)=o∧
  (bif e1_2 then e3 else e3)=e3∧
  IntKind.wrap IntKind.i64 ((bif e1_2 then p_1.1 else p_1.1)+(1:Int))=p'.1∧
  (bif e1_2 then x1 else x1)=x1∧
  (bif e1_2 then x2 else x2)=x2∧
  (bif e1_2 then x3 else x3)=x3∧
  (bif e1_2 then l else l)=l∧
  (bif e1_2 then o else o)=o∧
  (bif e1_2 then [x1] else [x1])=[x1]∧
  ((0:Int)≤p'.1∧p'.1≤e3∧List.all (List.take (Int.toNat p'.1) o) (ac2 x2 x3)=true)∧
  List.length o-Int.toNat p'.1<List.length o-Int.toNat p_1.1))∧
  (e2=false→(true,())=(K4 (RCode.mk x1 x2 x3 l o),()))))):=by kernel_rfl
end Go.Rg
end
section
set_option maxRecDepth 100000
namespace Go.Rg
open Go Go.VT
theorem bz7 (n:Int) (l:List Int):(l.all fun x=>decide (0≤x)&&decide (x<n))=H2 n l:=rfl
theorem aT5 {α:Type} {p:α→Bool} {l:List α} {k:Nat} (d:α) (hk:k<l.length) (h:p (l.getD k d)=false):l.all p=false:=by
 rw [Bool.eq_false_iff]
 intro ha
 have:=List.all_eq_true.1 ha _ (G6 hk d)
 rw [h] at this
 cases this
theorem aq4 {α:Type} {p:α→Bool} {l:List α} {k:Nat} (d:α) (hk:k<l.length) (h:(l.take k).all p=true) (h2:p (l.getD k d)=true):(l.take (k+1)).all p=true:=by
 rw [A4 hk d,List.all_append,h]
 simpa using h2
theorem bM7 (x1 x2 x3:Int) (l:List RIns) (o:List Place) (hp:-9223372036854775808≤x2∧x2<9223372036854775808):vc (EV [(92,cIn)]) (bl9 x2 x3 l o) Go.Proofs.Tryd.f60 cShaped (x1,x2,x3,l,o,()):=by
 rw [bM6 x1 x2 x3 l o]
 intro e0 e1 e2 e3 e4 hsl hso
 have hll:l.length≤140737488355328:=hsl.len
 have hlo:o.length≤140737488355328:=hso.len
 have he0:e0=!(H2 4001 [x1]&&H2 65 [x2]&&decide (1≤x2)&&decide (x1≤x3)&&decide (x3≤8000)):=by
  show (((!H2 4001 [x1])||!H2 64 [IntKind.i64.wrap (x2-1)])||decide (x3<x1)||decide (x3 >8000))=_
  have hw:H2 64 [IntKind.i64.wrap (x2-1)]=(H2 65 [x2]&&decide (1≤x2)):=by
   simp only [H2,List.all_cons,List.all_nil,Bool.and_true]
   by_cases h:x2=-9223372036854775808
   ·subst h;decide
   ·rw [J4 (by omega) (by omega),Bool.eq_iff_iff]
    simp
    omega
  have hx:decide (x3<x1)=!decide (x1≤x3):=by rw [Bool.eq_iff_iff];simp
  have hy:decide (x3 >8000)=!decide (x3≤8000):=by rw [Bool.eq_iff_iff];simp
  rw [hw,hx,hy]
  cases H2 4001 [x1]<;>cases H2 65 [x2]<;>cases decide (1≤x2)<;>cases decide (x1≤x3)<;>rfl
 have hS:K4 ⟨x1,x2,x3,l,o⟩=(!e0&&l.all (aj1 x2 x3)&&o.all (ac2 x2 x3)):=by
  rw [he0,Bool.not_not]
  rfl
 clear_value e0
 rw [hS]
 dsimp only [e1,e2,e3,e4]
 simp only [true_and,and_true,Bool.cond_self,bz7]
 refine ⟨fun h=>by rw [h];rfl,fun h=>?_⟩
 rw [h]
 simp only [Bool.not_false,Bool.true_and]
 refine ⟨⟨(0,()),rfl,Int.le_refl _,by dsimp only;omega,by simp⟩,?_⟩
 rintro ⟨i,⟨⟩⟩ ⟨h0,h1,h2⟩
 dsimp only at h0 h1 h2 ⊢
 obtain ⟨k,rfl⟩:=Int.eq_ofNat_of_zero_le h0
 simp only [Int.toNat_natCast] at h2 ⊢
 have hd:(⟨0,0,0,ins0⟩:RIns)=rins0:=rfl
 rw [hd]
 refine ⟨fun hlt=>?_,fun hge=>?_⟩
 ·have hlt:(k:Int)<l.length:=of_decide_eq_true hlt
  have no:aj1 x2 x3 (l.getD k rins0)=false→(false,())=(l.all (aj1 x2 x3)&&o.all (ac2 x2 x3),()):=fun hf=>by rw [aT5 rins0 (by omega) hf];rfl
  have yes:aj1 x2 x3 (l.getD k rins0)=true→∃ p':Int×Unit,IntKind.i64.wrap ((k:Int)+1)=p'.1∧(0≤p'.1∧p'.1≤(l.length:Int)∧(l.take p'.1.toNat).all (aj1 x2 x3)=true)∧l.length-p'.1.toNat<l.length-k:=fun ht=>
   ⟨((k+1:Nat),()),B4 (by omega) hll,⟨by omega,by dsimp only;omega,by dsimp only;rw [Int.toNat_natCast];exact aq4 rins0 (by omega) h2 ht⟩,by dsimp only;omega⟩
  generalize l.getD k rins0=x at no yes ⊢
  refine ⟨⟨h0,hlt⟩,fun hk=>?_,fun hk=>?_⟩
  ·have hk:x.kind=0:=eq_of_beq hk
   have hi:aj1 x2 x3 x=(H2 x2 x.ins.from_&&H2 x2 x.ins.to):=by simp only [aj1,if_pos hk]
   rw [hi] at no yes
   refine ⟨fun h3=>no ?_,fun h3=>yes ?_⟩
   ·revert h3;cases H2 x2 x.ins.from_<;>cases H2 x2 x.ins.to<;>simp
   ·revert h3;cases H2 x2 x.ins.from_<;>cases H2 x2 x.ins.to<;>simp
  ·have hk:¬ x.kind=0:=by simpa using hk
   refine ⟨fun h3=>?_,fun h3=>?_⟩
   ·have h3:x.kind=1∨x.kind=2:=by
     by_cases h4:x.kind=1
     ·exact .inl h4
     ·right
      rw [show (x.kind==1)=false from beq_eq_false_iff_ne.2 h4] at h3
      exact eq_of_beq h3
    have hi:aj1 x2 x3 x=(H2 x2 [x.slot]&&H2 x3 [x.cell]):=by simp only [aj1,if_neg hk,if_pos h3]
    rw [hi] at no yes
    refine ⟨fun h3=>no ?_,fun h3=>yes ?_⟩
    ·revert h3;cases H2 x2 [x.slot]<;>cases H2 x3 [x.cell]<;>simp
    ·revert h3;cases H2 x2 [x.slot]<;>cases H2 x3 [x.cell]<;>simp
   ·have h3:¬ (x.kind=1∨x.kind=2):=by
     rintro (h4|h4)
     ·rw [h4] at h3;cases h3
     ·rw [h4] at h3;cases h3
    exact no (by simp only [aj1,if_neg hk,if_neg h3])
 ·have hk:k=l.length:=by have:¬ (k:Int)<l.length:=of_decide_eq_false hge;omega
  subst hk
  rw [List.take_length] at h2
  rw [h2]
  simp only [Bool.true_and]
  refine ⟨⟨(0,()),rfl,Int.le_refl _,by dsimp only;omega,by simp⟩,?_⟩
  rintro ⟨i,⟨⟩⟩ ⟨i0,i1,i2⟩
  dsimp only at i0 i1 i2 ⊢
  obtain ⟨j,rfl⟩:=Int.eq_ofNat_of_zero_le i0
  simp only [Int.toNat_natCast] at i2 ⊢
  have hd:(⟨false,0⟩:Place)=place0:=rfl
  rw [hd]
  refine ⟨fun hlt=>?_,fun hge=>?_⟩
  ·have hlt:(j:Int)<o.length:=of_decide_eq_true hlt
   have hpl:∀ x:Place,H2 (bif x.cell then x3 else x2) [x.n]=ac2 x2 x3 x:=fun x=>by
    unfold ac2
    cases x.cell<;>rfl
   rw [hpl]
   refine ⟨⟨i0,hlt⟩,fun hf=>?_,fun ht=>⟨((j+1:Nat),()),B4 (by omega) hlo,⟨by omega,by dsimp only;omega,?_⟩,by dsimp only;omega⟩⟩
   ·rw [aT5 place0 (by omega) (Bool.not_eq_true' _▸hf)]
   ·dsimp only
    rw [Int.toNat_natCast]
    exact aq4 place0 (by omega) i2 (Bool.not_eq_false' _▸ht)
  ·have hj:j=o.length:=by have:¬ (j:Int)<o.length:=of_decide_eq_false hge;omega
   subst hj
   rw [List.take_length] at i2
   rw [i2]
theorem be0:C5 prog RG 60 cShaped:=D8 (A5 bT7 B8) (fun p=>bl9 p.2.1 p.2.2.1 p.2.2.2.1 p.2.2.2.2.1) (by kernel_rfl) (by kernel_rfl) (by kernel_rfl) fun (x1,x2,x3,l,o,()) hp=>bM7 x1 x2 x3 l o hp
abbrev Holds:=List (Place×Int)
noncomputable def getF (m:Holds) (n:Int):Int:=(mget eqP m ⟨false,n⟩).getD 0
noncomputable def cGetF:Con RU:=⟨[one,one],[i64,mapP],[.d 0,.ptr 0 0],[.box 83 [.map 1],.map 1],none,none,[one],[i64,mapP],[.d 0],[.box 83 [.map 1],.map 1],fun p=>(getF p.2.1 p.1,p.2),[0,1],[],[]⟩
noncomputable def cNewF:Con RU:=⟨[one,one,one],[i64,i64,mapP],[.d 0,.ptr 0 0,.ptr 1 0],[.box 3 [.d 1],.box 83 [.map 2],.map 2],some fun p=>0≤p.2.1∧p.2.1≤4611686018427387904,none,[one],[i64,i64,mapP],[.d 0],[.box 3 [.d 1],.box 83 [.map 2],.map 2],
 fun p=>(p.2.1,p.2.1+1,mput eqP p.2.2.1 ⟨false,p.1⟩ p.2.1,()),[1],[],[]⟩
noncomputable def bm0 (s:List Int×Int×Holds) (n:Int):List Int×Int×Holds:=(s.1++[s.2.1],s.2.1+1,mput eqP s.2.2 ⟨false,n⟩ s.2.1)
noncomputable def F4 (nx:Int) (m:Holds) (l:List Int):List Int×Int×Holds:=l.foldl bm0 ([],nx,m)
noncomputable def cCalledF:Con RU:=⟨[(true,5),one,one],[i64,i64,ints,ints,inss,i64,mapP],[.d 0,.d 1,.d 2,.d 3,.d 4,.clo 90 [0,1],.clo 91 [1]],[.box 3 [.d 5],.box 83 [.map 2],.map 6],some fun p=>V6 p.2.2.1 p.2.2.2.1 p.2.2.2.2.1=true∧0≤p.2.2.2.2.2.1∧p.2.2.2.2.2.1≤2305843009213693952,none,
 [(true,5)],[i64,i64,ints,ints,inss,i64,mapP],[.d 0,.d 1,.d 2,.d 3,.d 4],[.box 3 [.d 5],.box 83 [.map 2],.map 6],
 fun p=>(p.1,p.2.1,(F4 p.2.2.2.2.2.1 p.2.2.2.2.2.2.1 p.2.2.1).1,p.2.2.2.1.map (getF p.2.2.2.2.2.2.1),p.2.2.2.2.1,(F4 p.2.2.2.2.2.1 p.2.2.2.2.2.2.1 p.2.2.1).2.1,(F4 p.2.2.2.2.2.1 p.2.2.2.2.2.2.1 p.2.2.1).2.2,()),[1],[],[]⟩
noncomputable def aT6 (x1 x2:Int) (x3 x4:List Int) (x5:List Ins) (nx:Int) (m:Holds):Nat→St RU→Ann RU:=fun k s=>match k with
 |0=>⟨[],[.slot 20,.row 896],[i64,inss],fun p=>0≤p.1∧p.1≤x4.length∧p.2.1=[⟨x1,x2,x3,(x4.take p.1.toNat).map (getF m)++x4.drop p.1.toNat,x5⟩],fun p=>x4.length-p.1.toNat,[]⟩
 |_=>⟨[],[.slot 36,.row 896,.box 1000000 0,.row 1000002],[i64,inss,i64,mapP],fun p=>0≤p.1∧p.1≤x3.length∧p.2.1=[⟨x1,x2,(F4 nx m (x3.take p.1.toNat)).1++x3.drop p.1.toNat,x4.map (getF m),x5⟩]∧p.2.2.1=(F4 nx m (x3.take p.1.toNat)).2.1∧p.2.2.2.1=(F4 nx m (x3.take p.1.toNat)).2.2,fun p=>x3.length-p.1.toNat,[]⟩
end Go.Rg
end
section
set_option maxRecDepth 100000
open Go Go.VT
namespace Go.Rg
theorem ce8 (n:Int) (m:Holds):vc (EV []) noL Go.Proofs.Tryd.f91 cGetF (n,m,())=((Option.getD (mget (E7 RU (Ty.user (2:Nat))) m (Place.mk false n)) (0:Int),m,())=(getF m n,m,())):=by kernel_rfl
theorem ce9 (n nx:Int) (m:Holds):vc (EV []) noL Go.Proofs.Tryd.f90 cNewF (n,nx,m,())=(
 let e0:Int:=IntKind.wrap IntKind.i64 (nx+(1:Int));
  (IntKind.wrap IntKind.i64 (e0-(1:Int)),e0,mput (E7 RU (Ty.user (2:Nat))) m (Place.mk false n) nx,())=(nx,nx+(1:Int),mput eqP m (Place.mk false n) nx,())):=by kernel_rfl
theorem bz8 (x1 x2:Int) (x3 x4:List Int) (x5:List Ins) (nx:Int) (m:Holds):vc (EV [(96,cBody),(91,cGetF),(90,cNewF)]) (aT6 x1 x2 x3 x4 x5 nx m) Go.Proofs.Tryd.f73 cCalledF (x1,x2,x3,x4,x5,nx,m,())=(
 let e0:Ins:=Ins.mk (0:Int) (0:Int) [] [] [];
 let e1:List Ins:=[Ins.mk x1 x2 x3 x4 x5];
 let e2:Int:=(↑(List.length x4):Int);
  Small RU (Sigma.mk (Ty.slice (3:Nat) (Ty.int IntKind.i64)) x3)→
  Small RU (Sigma.mk (Ty.slice (3:Nat) (Ty.int IntKind.i64)) x4)→
  Small RU (Sigma.mk (Ty.slice (52:Nat) (Ty.user (0:Nat))) x5)→
  (List.length e1≤(1599289640354:Nat)∧H5 e1=true)∧
  ((0:Int)≤(0:Int)∧(0:Int)<(↑(List.length e1):Int))∧
  (∃ (p:Int×List Ins×Unit),
  x1=x1∧
  x2=x2∧
  x3=x3∧
  x4=x4∧
  x5=x5∧
  (0:Int)=(0:Int)∧
  e2=e2∧
  (0:Int)=p.1∧
  nx=nx∧
  m=m∧
  x1=x1∧
  x2=x2∧
  x3=x3∧
  x4=x4∧
  x5=x5∧
  (0:Int)=(0:Int)∧
  (0:Int)=(0:Int)∧
  e1=e1∧
  e1=p.2.1∧
  x1=x1∧
  x2=x2∧
  (0:Int)=(0:Int)∧
  (0:Int)=(0:Int)∧
  x5=x5∧
  (0:Int)≤p.1∧
  p.1≤e2∧p.2.1=[Ins.mk x1 x2 x3 (List.map (getF m) (List.take (Int.toNat p.1) x4)++List.drop (Int.toNat p.1) x4) x5])∧
  ∀ (p:Int×List Ins×Unit),
 let e0_1:Ins:=List.getD p.2.1 (0:Nat) e0;
 let e1_1:Bool:=decide (p.1<e2);
 let e2_1:Int:=p.1;
 let e3:List Ins:=p.2.1;
 let e4:Int:=(↑(List.length e0_1.to):Int);
  (0:Int)≤e2_1∧e2_1≤e2∧e3=[Ins.mk x1 x2 x3 (List.map (getF m) (List.take (Int.toNat e2_1) x4)++List.drop (Int.toNat e2_1) x4) x5]→
  (e1_1=true→
  ((0:Int)≤e2_1∧e2_1<(↑(List.length e0_1.from_):Int))∧
  (True∧m=m∧True)∧
  ((0:Int)≤e2_1∧e2_1<(↑(List.length e0_1.from_):Int))∧
  ∃ (p':Int×List Ins×Unit),
  x1=x1∧
  x2=x2∧
  x3=x3∧
  x4=x4∧
  x5=x5∧
  (0:Int)=(0:Int)∧
  e2=e2∧
  IntKind.wrap IntKind.i64 (e2_1+(1:Int))=p'.1∧
  nx=nx∧
  m=m∧
  x1=x1∧
  x2=x2∧
  x3=x3∧
  x4=x4∧
  x5=x5∧
  (0:Int)=(0:Int)∧
  (0:Int)=(0:Int)∧
  e1=e1∧
  List.set e3 (0:Nat)
  (Ins.mk e0_1.op e0_1.n e0_1.to (List.set e0_1.from_ (Int.toNat e2_1) (getF m (List.getD e0_1.from_ (Int.toNat e2_1) (0:Int))))
  e0_1.body)=
  p'.2.1∧
  x1=x1∧
  x2=x2∧
  (0:Int)=(0:Int)∧
  (0:Int)=(0:Int)∧
  x5=x5∧
  ((0:Int)≤p'.1∧
  p'.1≤e2∧
  p'.2.1=
  [Ins.mk x1 x2 x3 (List.map (getF m) (List.take (Int.toNat p'.1) x4)++List.drop (Int.toNat p'.1) x4) x5])∧
  List.length x4-Int.toNat p'.1<List.length x4-Int.toNat e2_1)∧
  (e1_1=false→
  (∃ (p:Int×List Ins×Int×List (Place×Int)×Unit),
  x1=x1∧
  x2=x2∧
  x3=x3∧
  x4=x4∧
  x5=x5∧
  (0:Int)=(0:Int)∧
  e2=e2∧
  e2_1=e2_1∧
  e1_1=e1_1∧
  (0:Int)=(0:Int)∧
  e4=e4∧
  (0:Int)=p.1∧
  nx=p.2.2.1∧
  m=p.2.2.2.1∧
  x1=x1∧
  x2=x2∧
  x3=x3∧
  x4=x4∧
  x5=x5∧
  (0:Int)=(0:Int)∧
  (0:Int)=(0:Int)∧
  e1=e1∧
  e3=p.2.1∧
  x1=x1∧
  x2=x2∧
  (0:Int)=(0:Int)∧
  (0:Int)=(0:Int)∧
  x5=x5∧
  (0:Int)≤p.1∧
  p.1≤(↑(List.length x3):Int)∧
  p.2.1=
  [Ins.mk x1 x2 ((F4 nx m (List.take (Int.toNat p.1) x3)).1++List.drop (Int.toNat p.1) x3)
  (List.map (getF m) x4) x5]∧
  p.2.2.1=(F4 nx m (List.take (Int.toNat p.1) x3)).2.1∧
  p.2.2.2.1=(F4 nx m (List.take (Int.toNat p.1) x3)).2.2)∧
  ∀ (p:Int×List Ins×Int×List (Place×Int)×Unit),
 let e0_2:Int:=p.2.2.1;
 let e1_2:Ins:=List.getD p.2.1 (0:Nat) e0;
 let e2_2:List (Place×Int):=p.2.2.2.1;
 let e3:Int:=p.1;
 let e4_1:List Ins:=p.2.1;
 let e5:Bool:=decide (e3<e4);
 let e6:Int×List (Place×Int):=(F4 nx m (List.take (Int.toNat e3) x3)).2;
  (0:Int)≤e3∧
  e3≤(↑(List.length x3):Int)∧
  e4_1=[Ins.mk x1 x2 ((F4 nx m (List.take (Int.toNat e3) x3)).1++List.drop (Int.toNat e3) x3) (List.map (getF m) x4) x5]∧e0_2=e6.1∧e2_2=e6.2→
  (e5=true→
  ((0:Int)≤e3∧e3<(↑(List.length e1_2.to):Int))∧
  (((0:Int)≤e0_2∧e0_2≤(4611686018427387904:Int))∧True)∧
  ((0:Int)≤e3∧e3<(↑(List.length e1_2.to):Int))∧
  ∃ (p':Int×List Ins×Int×List (Place×Int)×Unit),
  x1=x1∧
  x2=x2∧
  x3=x3∧
  x4=x4∧
  x5=x5∧
  (0:Int)=(0:Int)∧
  e2=e2∧
  e2_1=e2_1∧
  e1_1=e1_1∧
  (0:Int)=(0:Int)∧
  e4=e4∧
  IntKind.wrap IntKind.i64 (e3+(1:Int))=p'.1∧
  e0_2+(1:Int)=p'.2.2.1∧
  mput eqP e2_2 (Place.mk false (List.getD e1_2.to (Int.toNat e3) (0:Int))) e0_2=p'.2.2.2.1∧
  x1=x1∧
  x2=x2∧
  x3=x3∧
  x4=x4∧
  x5=x5∧
  (0:Int)=(0:Int)∧
  (0:Int)=(0:Int)∧
  e1=e1∧
  List.set e4_1 (0:Nat) (Ins.mk e1_2.op e1_2.n (List.set e1_2.to (Int.toNat e3) e0_2) e1_2.from_ e1_2.body)=
  p'.2.1∧
  x1=x1∧
  x2=x2∧
  (0:Int)=(0:Int)∧
  (0:Int)=(0:Int)∧
  x5=x5∧
  ((0:Int)≤p'.1∧
  p'.1≤(↑(List.length x3):Int)∧
  p'.2.1=
  [Ins.mk x1 x2
  ((F4 nx m (List.take (Int.toNat p'.1) x3)).1++List.drop (Int.toNat p'.1) x3)
  (List.map (getF m) x4) x5]∧
  p'.2.2.1=(F4 nx m (List.take (Int.toNat p'.1) x3)).2.1∧
  p'.2.2.2.1=(F4 nx m (List.take (Int.toNat p'.1) x3)).2.2)∧
  List.length x3-Int.toNat p'.1<List.length x3-Int.toNat e3)∧
  (e5=false→
  (x1,x2,e1_2.to,e1_2.from_,x5,e0_2,e2_2,())=(x1,x2,(F4 nx m x3).1,List.map (getF m) x4,x5,(F4 nx m x3).2.1,(F4 nx m x3).2.2,())))):=by kernel_rfl
end Go.Rg
end
section
set_option maxRecDepth 100000
namespace Go.Rg
open Go Go.VT
theorem cf0 (n:Int) (m:Holds):vc (EV []) noL Go.Proofs.Tryd.f91 cGetF (n,m,()):=by
 rw [ce8 n m]
 rfl
theorem bz9:C5 prog RG 91 cGetF:=D8 B8 (fun _=>noL) (by kernel_rfl) (by kernel_rfl) (by kernel_rfl) fun (n,m,()) _=>cf0 n m
theorem cf1 (n nx:Int) (m:Holds) (hp:0≤nx∧nx≤4611686018427387904):vc (EV []) noL Go.Proofs.Tryd.f90 cNewF (n,nx,m,()):=by
 rw [ce9 n nx m]
 dsimp only
 rw [J4 (n:=nx+1) (by omega) (by omega),show nx+1-1=nx by omega,J4 (by omega) (by omega)]
 rfl
theorem bA0:C5 prog RG 90 cNewF:=D8 B8 (fun _=>noL) (by kernel_rfl) (by kernel_rfl) (by kernel_rfl) fun (n,nx,m,()) hp=>cf1 n nx m hp
theorem bm1 (nx:Int) (m:Holds) (l:List Int) (x:Int):F4 nx m (l++[x])=bm0 (F4 nx m l) x:=by simp [F4]
theorem ac3 (nx:Int) (m:Holds) (l:List Int):(F4 nx m l).1.length=l.length∧(F4 nx m l).2.1=nx+l.length:=by
 have key:∀ (l:List Int) (s:List Int×Int×Holds),(l.foldl bm0 s).1.length=s.1.length+l.length∧(l.foldl bm0 s).2.1=s.2.1+l.length:=by
  intro l
  induction l with
  |nil=>intro s;simp
  |cons x r ih=>
   intro s
   have:=ih (bm0 s x)
   simp only [List.foldl_cons,List.length_cons,bm0,List.length_append,List.length_nil] at this ⊢
   omega
 have:=key l ([],nx,m)
 simpa [F4] using this
theorem bA1 (x1 x2:Int) (x3 x4:List Int) (x5:List Ins) (nx:Int) (m:Holds) (hp:V6 x3 x4 x5=true∧0≤nx∧nx≤2305843009213693952):vc (EV [(96,cBody),(91,cGetF),(90,cNewF)]) (aT6 x1 x2 x3 x4 x5 nx m) Go.Proofs.Tryd.f73 cCalledF (x1,x2,x3,x4,x5,nx,m,()):=by
 rw [bz8 x1 x2 x3 x4 x5 nx m]
 intro e0 e1 e2 hs3 hs4 _
 have hl3:x3.length≤140737488355328:=hs3.len
 have hl4:x4.length≤140737488355328:=hs4.len
 dsimp only [e0,e1,e2]
 simp only [true_and,and_true]
 refine ⟨⟨by simp,?_⟩,⟨by omega,by simp⟩,⟨(0,_,()),rfl,rfl,Int.le_refl _,by dsimp only;omega,by simp⟩,?_⟩
 ·simp only [H5,Bool.and_true]
  exact (P3 _).2 (U5.1 hp.1)
 rintro ⟨i,l,⟨⟩⟩ ⟨h0,h1,h2⟩
 dsimp only at h0 h1 h2 ⊢
 subst h2
 obtain ⟨k,rfl⟩:=Int.eq_ofNat_of_zero_le h0
 simp only [Int.toNat_natCast,List.getD_cons_zero,List.set_cons_zero]
 have hA:((x4.take k).map (getF m)).length=k:=by simp;omega
 refine ⟨fun hlt=>?_,fun hge=>?_⟩
 ·have hlt:(k:Int)<x4.length:=of_decide_eq_true hlt
  rw [Q8 hA (by omega),am6 hA (by omega),am7 hA (by omega)]
  refine ⟨⟨h0,hlt⟩,⟨h0,hlt⟩,((k+1:Nat),[⟨x1,x2,x3,(x4.take (k+1)).map (getF m)++x4.drop (k+1),x5⟩],()),B4 (by omega) hl4,?_,⟨by omega,by dsimp only;omega,by dsimp only;rw [Int.toNat_natCast]⟩,by dsimp only;omega⟩
  dsimp only
  rw [A4 (by omega) 0,List.map_append]
  rfl
 have hk:k=x4.length:=by have:¬ (k:Int)<x4.length:=of_decide_eq_false hge;omega
 subst hk
 simp only [List.take_length,List.drop_length,List.append_nil]
 clear h0 h1 hge hA
 refine ⟨⟨(0,_,nx,m,()),rfl,rfl,rfl,rfl,Int.le_refl _,by dsimp only;omega,by simp [F4],by simp [F4],by simp [F4]⟩,?_⟩
 rintro ⟨i,l,nx2,m2,⟨⟩⟩ ⟨h0,h1,h2,h3,h4⟩
 dsimp only at h0 h1 h2 h3 h4 ⊢
 subst h2 h3 h4
 obtain ⟨k,rfl⟩:=Int.eq_ofNat_of_zero_le h0
 simp only [Int.toNat_natCast,List.getD_cons_zero,List.set_cons_zero]
 have hN:=ac3 nx m (x3.take k)
 have hA:(F4 nx m (x3.take k)).1.length=k:=by rw [hN.1,List.length_take];omega
 have hB:(F4 nx m (x3.take k)).2.1=nx+k:=by rw [hN.2,List.length_take];omega
 refine ⟨fun hlt=>?_,fun hge=>?_⟩
 ·have hlt:(k:Int)<x3.length:=of_decide_eq_true hlt
  rw [Q8 hA (by omega),am6 hA (by omega),am7 hA (by omega)]
  have hn:F4 nx m (x3.take (k+1))=bm0 (F4 nx m (x3.take k)) (x3.getD k 0):=by rw [A4 (by omega) 0,bm1]
  refine ⟨⟨h0,hlt⟩,⟨by rw [hB];omega,by rw [hB];omega⟩,⟨h0,hlt⟩,((k+1:Nat),[⟨x1,x2,(F4 nx m (x3.take (k+1))).1++x3.drop (k+1),x4.map (getF m),x5⟩],(F4 nx m (x3.take (k+1))).2.1,(F4 nx m (x3.take (k+1))).2.2,()),B4 (by omega) hl3,?_,?_,?_,⟨by omega,by dsimp only;omega,by dsimp only;rw [Int.toNat_natCast],by dsimp only;rw [Int.toNat_natCast],by dsimp only;rw [Int.toNat_natCast]⟩,by dsimp only;omega⟩
  ·dsimp only;rw [hn];rfl
  ·dsimp only;rw [hn];rfl
  ·dsimp only;rw [hn];rfl
 ·have hk:k=x3.length:=by have:¬ (k:Int)<x3.length:=of_decide_eq_false hge;omega
  subst hk
  simp only [List.take_length,List.drop_length,List.append_nil]
theorem aT7:C5 prog RG 73 cCalledF:=D8 (A5 as7 (A5 bz9 (A5 bA0 B8))) (fun p=>aT6 p.1 p.2.1 p.2.2.1 p.2.2.2.1 p.2.2.2.2.1 p.2.2.2.2.2.1 p.2.2.2.2.2.2.1) (by kernel_rfl) (by kernel_rfl) (by kernel_rfl) fun (x1,x2,x3,x4,x5,nx,m,()) hp=>bA1 x1 x2 x3 x4 x5 nx m hp
abbrev SF:=Holds×List Ins×Int
noncomputable def K8 (s:SF) (x:RIns):SF×Bool:=
 bif x.kind==0 then
  (bif x.ins.from_.all (isP (s.1,())) then (((F4 s.2.2 s.1 x.ins.to).2.2,s.2.1++[⟨x.ins.op,x.ins.n,(F4 s.2.2 s.1 x.ins.to).1,x.ins.from_.map (getF s.1),x.ins.body⟩],(F4 s.2.2 s.1 x.ins.to).2.1),true) else (s,false))
 else match mget eqP s.1 (bif x.kind==2 then ⟨false,x.slot⟩ else ⟨true,x.cell⟩) with
  |none=>(s,false)
  |some n=>((mput eqP s.1 (bif x.kind==2 then ⟨true,x.cell⟩ else ⟨false,x.slot⟩) n,s.2),true)
noncomputable def J5:List RIns→SF→SF×Bool
 |[],s=>(s,true)
 |x::r,s=>bif (K8 s x).2 then J5 r (K8 s x).1 else (s,false)
noncomputable def T1 (m:Holds):List Place→List Int×Bool
 |[]=>([],true)
 |p::r=>match mget eqP m p with
  |none=>([],false)
  |some n=>(n::(T1 m r).1,(T1 m r).2)
noncomputable def R9 (n:Nat):Holds:=(List.range n).foldl (fun (m:Holds) (i:Nat)=>mput eqP m ⟨true,(i:Int)⟩ (i:Int)) []
noncomputable def G7 (a:Int):SF:=(R9 a.toNat,[],a)
noncomputable def C2 (c:RCode):VFun×Bool:=
 bif (J5 c.code (G7 c.params)).2 then (⟨c.params,(J5 c.code (G7 c.params)).1.2.1,(T1 (J5 c.code (G7 c.params)).1.1 c.out).1,[]⟩,(T1 (J5 c.code (G7 c.params)).1.1 c.out).2)
 else (⟨c.params,(J5 c.code (G7 c.params)).1.2.1,[],[]⟩,false)
def V7 (l:List RIns):Bool:=l.all fun x=>aI8 x.ins
noncomputable def cFollow:Con RU:=con [(true,5)] bH5 [(true,4),one] [i64,inss,ints,ints,.bool] [false,false,false,false,false] (some fun p=>0≤p.1∧p.1≤4000∧p.2.2.2.1.length≤16000∧V7 p.2.2.2.1=true∧p.2.2.2.2.1.length≤17592186044400) fun p=>
 ((C2 ⟨p.1,p.2.1,p.2.2.1,p.2.2.2.1,p.2.2.2.2.1⟩).1.params,(C2 ⟨p.1,p.2.1,p.2.2.1,p.2.2.2.1,p.2.2.2.2.1⟩).1.code,(C2 ⟨p.1,p.2.1,p.2.2.1,p.2.2.2.1,p.2.2.2.2.1⟩).1.out,(C2 ⟨p.1,p.2.1,p.2.2.1,p.2.2.2.1,p.2.2.2.2.1⟩).1.at_,(C2 ⟨p.1,p.2.1,p.2.2.1,p.2.2.2.1,p.2.2.2.2.1⟩).2,())
noncomputable def bm2 (a:Int) (code:List RIns) (out:List Place):Nat→St RU→Ann RU:=fun k s=>match k with
 |0=>⟨[],[.slot 21,.row 1152],[i64,mapP],fun p=>0≤p.1∧p.1≤a∧p.2.1=R9 p.1.toNat,fun p=>a.toNat-p.1.toNat,[]⟩
 |1=>⟨[],[.slot 37,.row 1152,.box 448 0,.row 900001],[i64,mapP,i64,inss],fun p=>0≤p.1∧p.1≤code.length∧J5 (code.take p.1.toNat) (G7 a)=((p.2.1,p.2.2.2.1,p.2.2.1),true),fun p=>code.length-p.1.toNat,[(.box 384 1,900001,52,.user 0)]⟩
 |_=>⟨[],[.slot 88,.row 900002],[i64,ints],fun p=>0≤p.1∧p.1≤out.length∧T1 (J5 code (G7 a)).1.1 (out.take p.1.toNat)=(p.2.1,true),fun p=>out.length-p.1.toNat,[(.box 384 2,900002,3,i64)]⟩
noncomputable def N8 (c:RCode):Int:=
 if 16000<c.code.length then 3 else if K4 c=false then 2 else if (c.code.all fun x=>x.kind !=0||D5 x.ins.to)=false then 5 else if (C2 c).2=false then 4 else 0
noncomputable def cValid:Con RU:=con [(true,5)] bH5 [one] [i64] [false] (some fun p=>-9223372036854775808≤p.2.1∧p.2.1<9223372036854775808∧V7 p.2.2.2.1=true∧p.2.2.2.2.1.length≤17592186044400) fun p=>(N8 ⟨p.1,p.2.1,p.2.2.1,p.2.2.2.1,p.2.2.2.2.1⟩,())
noncomputable def bM8 (code:List RIns):Nat→St RU→Ann RU:=fun k s=>match k with
 |0=>⟨[],[.slot 19],[i64],fun p=>0≤p.1∧p.1≤code.length∧((code.take p.1.toNat).all fun x=>x.kind !=0||D5 x.ins.to)=true,fun p=>code.length-p.1.toNat,[]⟩
 |_=>⟨[],[.slot 27],[i64],fun p=>0≤p.1∧p.1≤(code.getD (s.intAt 19).toNat rins0).ins.to.length∧((code.getD (s.intAt 19).toNat rins0).kind≠0∨D5 ((code.getD (s.intAt 19).toNat rins0).ins.to.take p.1.toNat)=true),fun p=>(code.getD (s.intAt 19).toNat rins0).ins.to.length-p.1.toNat,[]⟩
def I7 (a:Int) (l:List Ins):Int:=l.foldl (fun n x=>n+x.to.length) a
noncomputable def M4 (c:RCode):VFun×Int:=
 if N8 c≠0 then (bw5,N8 c) else if 4000<I7 c.params (C2 c).1.code∨4000<(C2 c).1.code.length then (bw5,9) else ((C2 c).1,0)
noncomputable def cBack:Con RU:=con [(true,5)] bH5 [(true,4),one] [i64,inss,ints,ints,i64] [false,false,false,false,false] (some fun p=>-9223372036854775808≤p.2.1∧p.2.1<9223372036854775808∧V7 p.2.2.2.1=true∧p.2.2.2.2.1.length≤17592186044400) fun p=>
 ((M4 ⟨p.1,p.2.1,p.2.2.1,p.2.2.2.1,p.2.2.2.2.1⟩).1.params,(M4 ⟨p.1,p.2.1,p.2.2.1,p.2.2.2.1,p.2.2.2.2.1⟩).1.code,(M4 ⟨p.1,p.2.1,p.2.2.1,p.2.2.2.1,p.2.2.2.2.1⟩).1.out,(M4 ⟨p.1,p.2.1,p.2.2.1,p.2.2.2.1,p.2.2.2.2.1⟩).1.at_,(M4 ⟨p.1,p.2.1,p.2.2.1,p.2.2.2.1,p.2.2.2.2.1⟩).2,())
noncomputable def cf2 (a:Int) (code:List Ins):Nat→St RU→Ann RU:=fun k s=>⟨[],[.slot 26,.slot 7],[i64,i64],fun p=>0≤p.1∧p.1≤code.length∧p.2.1=I7 a (code.take p.1.toNat),fun p=>code.length-p.1.toNat,[]⟩
end Go.Rg
end
section
set_option maxRecDepth 100000
open Go Go.VT
namespace Go.Rg
theorem bM9 (a b c:Int) (code:List RIns) (out:List Place):vc (EV [(78,cAll 89 tysP objP [0] isP),(73,cCalledF)]) (bm2 a code out) Go.Proofs.Tryd.f58 cFollow (a,b,c,code,out,())=(
 let e0:Int×List Ins×List Int×List Int×Bool×Unit:=
  ((C2 (RCode.mk a b c code out)).1.params,(C2 (RCode.mk a b c code out)).1.code,(C2 (RCode.mk a b c code out)).1.out,(C2 (RCode.mk a b c code out)).1.at_,
  (C2 (RCode.mk a b c code out)).2,());
 let e1:Int:=(↑(List.length code):Int);
 let e2:RIns:=RIns.mk (0:Int) (0:Int) (0:Int) ins0;
 let e3:Int:=(↑(List.length out):Int);
 let e4:Place:=Place.mk false (0:Int);
  Small RU (Sigma.mk (Ty.slice (55:Nat) (Ty.user (1:Nat))) code)→
  Small RU (Sigma.mk (Ty.slice (59:Nat) (Ty.user (2:Nat))) out)→
  (∃ (p:Int×List (Place×Int)×Unit),
  a=a∧
  b=b∧
  c=c∧
  code=code∧
  out=out∧
  false=false∧
  a=a∧
  (0:Int)=p.1∧
  a=a∧b=b∧c=c∧code=code∧out=out∧(0:Int)=(0:Int)∧[]=p.2.1∧(0:Int)≤p.1∧p.1≤a∧p.2.1=R9 (Int.toNat p.1))∧
  ∀ (p:Int×List (Place×Int)×Unit),
 let e0_1:Bool:=decide (p.1<a);
 let e1_1:Int:=p.1;
 let e2_1:List (Place×Int):=p.2.1;
  (0:Int)≤e1_1∧e1_1≤a∧e2_1=R9 (Int.toNat e1_1)→
  (e0_1=true→
  ∃ (p':Int×List (Place×Int)×Unit),
  a=a∧
  b=b∧
  c=c∧
  code=code∧
  out=out∧
  false=false∧
  a=a∧
  IntKind.wrap IntKind.i64 (e1_1+(1:Int))=p'.1∧
  a=a∧
  b=b∧
  c=c∧
  code=code∧
  out=out∧
  (0:Int)=(0:Int)∧
  mput (E7 RU (Ty.user (2:Nat))) e2_1 (Place.mk true e1_1) e1_1=p'.2.1∧
  ((0:Int)≤p'.1∧p'.1≤a∧p'.2.1=R9 (Int.toNat p'.1))∧Int.toNat a-Int.toNat p'.1<Int.toNat a-Int.toNat e1_1)∧
  (e0_1=false→
  (∃ (p:Int×List (Place×Int)×Int×List Ins×Unit),
  a=a∧
  b=b∧
  c=c∧
  code=code∧
  out=out∧
  a=a∧
  e1_1=e1_1∧
  e0_1=e0_1∧
  code=code∧
  e1=e1∧
  (0:Int)=p.1∧
  a=a∧
  b=b∧
  c=c∧
  code=code∧
  out=out∧
  (0:Int)=(0:Int)∧
  e2_1=p.2.1∧
  a=a∧
  a=p.2.2.1∧
  []=p.2.2.2.1∧
  (0:Int)≤p.1∧
  p.1≤e1∧J5 (List.take (Int.toNat p.1) code) (G7 a)=((p.2.1,p.2.2.2.1,p.2.2.1),true))∧
  ∀ (p:Int×List (Place×Int)×Int×List Ins×Unit),
 let e0_2:Bool:=(List.getD code (Int.toNat p.1) e2).kind==(2:Int);
 let e1_2:List Ins:=
  [Ins.mk (bif e0_2 then (List.getD code (Int.toNat p.1) e2).ins.op else (List.getD code (Int.toNat p.1) e2).ins.op)
  (bif e0_2 then (List.getD code (Int.toNat p.1) e2).ins.n else (List.getD code (Int.toNat p.1) e2).ins.n)
  (F4 (bif e0_2 then p.2.2.1 else p.2.2.1) (bif e0_2 then p.2.1 else p.2.1)
  (bif e0_2 then (List.getD code (Int.toNat p.1) e2).ins.to else (List.getD code (Int.toNat p.1) e2).ins.to)).1
  (List.map (getF (bif e0_2 then p.2.1 else p.2.1)) (bif e0_2 then (List.getD code (Int.toNat p.1) e2).ins.from_ else (List.getD code (Int.toNat p.1) e2).ins.from_))
  (bif e0_2 then (List.getD code (Int.toNat p.1) e2).ins.body else (List.getD code (Int.toNat p.1) e2).ins.body)];
 let e2_2:List Ins:=bif e0_2 then p.2.2.2.1 else p.2.2.2.1;
 let e3_1:List (Place×Int):=bif e0_2 then p.2.1 else p.2.1;
 let e4_1:Int:=bif e0_2 then p.2.2.1 else p.2.2.1;
 let e5:List Ins:=p.2.2.2.1;
 let e6:List (Place×Int):=p.2.1;
 let e7:Bool:=decide (p.1<e1);
 let e8:Int:=p.1;
 let e9:Int:=p.2.2.1;
 let e10:Bool:=
  !Option.isSome
  (mget (E7 RU (Ty.user (2:Nat))) e3_1
  (Place.mk (bif e0_2 then false else true) (bif e0_2 then (List.getD code (Int.toNat e8) e2).slot else (List.getD code (Int.toNat e8) e2).cell)));
 let e11:Int×List (Place×Int):=(F4 e4_1 e3_1 (bif e0_2 then (List.getD code (Int.toNat e8) e2).ins.to else (List.getD code (Int.toNat e8) e2).ins.to)).2;
 let e12:Bool:=!List.all (bif e0_2 then (List.getD code (Int.toNat e8) e2).ins.from_ else (List.getD code (Int.toNat e8) e2).ins.from_) (isP (e3_1,()));
 let e13:Bool:=(bif e0_2 then (List.getD code (Int.toNat e8) e2).kind else (List.getD code (Int.toNat e8) e2).kind) !=(0:Int);
 let e14:Ins:=(List.getD code (Int.toNat e8) e2).ins;
  (0:Int)≤e8∧e8≤e1∧J5 (List.take (Int.toNat e8) code) (G7 a)=((e6,e5,e9),true)→
  (e7=true→
  ((0:Int)≤e8∧e8<e1)∧
  (e13=true→
  (e10=true→(bif e0_2 then a else a,e2_2,[],[],false,())=e0)∧
  (e10=false→
  ∃ (p':Int×List (Place×Int)×Int×List Ins×Unit),
  (bif e0_2 then a else a)=a∧
  (bif e0_2 then b else b)=b∧
  (bif e0_2 then c else c)=c∧
  (bif e0_2 then code else code)=code∧
  (bif e0_2 then out else out)=out∧
  (bif e0_2 then a else a)=a∧
  (bif e0_2 then e1_1 else e1_1)=e1_1∧
  (bif e0_2 then e0_1 else e0_1)=e0_1∧
  (bif e0_2 then code else code)=code∧
  (bif e0_2 then e1 else e1)=e1∧
  IntKind.wrap IntKind.i64 ((bif e0_2 then e8 else e8)+(1:Int))=p'.1∧
  (bif e0_2 then a else a)=a∧
  (bif e0_2 then b else b)=b∧
  (bif e0_2 then c else c)=c∧
  (bif e0_2 then code else code)=code∧
  (bif e0_2 then out else out)=out∧
  (bif e0_2 then (0:Int) else (0:Int))=(0:Int)∧
  mput (E7 RU (Ty.user (2:Nat))) e3_1
  (Place.mk (bif e0_2 then true else false)
  (bif e0_2 then (List.getD code (Int.toNat e8) e2).cell else (List.getD code (Int.toNat e8) e2).slot))
  (Option.getD
  (mget (E7 RU (Ty.user (2:Nat))) e3_1
  (Place.mk (bif e0_2 then false else true)
  (bif e0_2 then (List.getD code (Int.toNat e8) e2).slot else (List.getD code (Int.toNat e8) e2).cell)))
  (0:Int))=
  p'.2.1∧
  (bif e0_2 then a else a)=a∧
  e4_1=p'.2.2.1∧
  e2_2=p'.2.2.2.1∧
  ((0:Int)≤p'.1∧
  p'.1≤e1∧
  J5 (List.take (Int.toNat p'.1) code) (G7 a)=((p'.2.1,p'.2.2.2.1,p'.2.2.1),true))∧
  List.length code-Int.toNat p'.1<List.length code-Int.toNat e8))∧
  (e13=false→
  (True∧e3_1=e3_1∧True)∧
  (e12=true→(bif e0_2 then a else a,e2_2,[],[],false,())=e0)∧
  (e12=false→
  ((V6 (bif e0_2 then e14.to else e14.to) (bif e0_2 then e14.from_ else e14.from_) (bif e0_2 then e14.body else e14.body)=true∧
  (0:Int)≤e4_1∧e4_1≤(2305843009213693952:Int))∧
  True)∧
  (List.length e2_2+List.length e1_2)*(88:Nat)≤(140737488355328:Nat)∧
  ∃ (p':Int×List (Place×Int)×Int×List Ins×Unit),
  (bif e0_2 then a else a)=a∧
  (bif e0_2 then b else b)=b∧
  (bif e0_2 then c else c)=c∧
  (bif e0_2 then code else code)=code∧
  (bif e0_2 then out else out)=out∧
  (bif e0_2 then a else a)=a∧
  (bif e0_2 then e1_1 else e1_1)=e1_1∧
  (bif e0_2 then e0_1 else e0_1)=e0_1∧
  (bif e0_2 then code else code)=code∧
  (bif e0_2 then e1 else e1)=e1∧
  IntKind.wrap IntKind.i64 ((bif e0_2 then e8 else e8)+(1:Int))=p'.1∧
  (bif e0_2 then a else a)=a∧
  (bif e0_2 then b else b)=b∧
  (bif e0_2 then c else c)=c∧
  (bif e0_2 then code else code)=code∧
  (bif e0_2 then out else out)=out∧
  (bif e0_2 then (0:Int) else (0:Int))=(0:Int)∧
  e11.2=p'.2.1∧
  (bif e0_2 then a else a)=a∧
  e11.1=p'.2.2.1∧
  e2_2++e1_2=p'.2.2.2.1∧
  ((0:Int)≤p'.1∧
  p'.1≤e1∧
  J5 (List.take (Int.toNat p'.1) code) (G7 a)=
  ((p'.2.1,p'.2.2.2.1,p'.2.2.1),true))∧
  List.length code-Int.toNat p'.1<List.length code-Int.toNat e8)))∧
  (e7=false→
  (∃ (p:Int×List Int×Unit),
  a=a∧
  b=b∧
  c=c∧
  code=code∧
  out=out∧
  a=a∧
  e1_1=e1_1∧
  e0_1=e0_1∧
  code=code∧
  e1=e1∧
  e8=e8∧
  e7=e7∧
  out=out∧
  e3=e3∧
  (0:Int)=p.1∧
  a=a∧
  b=b∧
  c=c∧
  code=code∧
  out=out∧
  (0:Int)=(0:Int)∧
  e6=e6∧
  a=a∧
  e9=e9∧
  e5=e5∧
  []=p.2.1∧
  (0:Int)≤p.1∧
  p.1≤e3∧T1 (J5 code (G7 a)).1.1 (List.take (Int.toNat p.1) out)=(p.2.1,true))∧
  ∀ (p:Int×List Int×Unit),
 let e0_3:List Int:=
  [Option.getD (mget (E7 RU (Ty.user (2:Nat))) e6 (Place.mk (List.getD out (Int.toNat p.1) e4).cell (List.getD out (Int.toNat p.1) e4).n)) (0:Int)];
 let e1_3:List Int:=p.2.1;
 let e2:Bool:=!Option.isSome (mget (E7 RU (Ty.user (2:Nat))) e6 (Place.mk (List.getD out (Int.toNat p.1) e4).cell (List.getD out (Int.toNat p.1) e4).n));
 let e3_2:Bool:=decide (p.1<e3);
 let e4:Int:=p.1;
 let e5_1:List (Place×Int):=(J5 code (G7 a)).1.1;
  (0:Int)≤e4∧e4≤e3∧T1 e5_1 (List.take (Int.toNat e4) out)=(e1_3,true)→
  (e3_2=true→
  ((0:Int)≤e4∧e4<e3)∧
  (e2=true→(a,e5,e1_3,[],false,())=e0)∧
  (e2=false→
  (List.length e1_3+List.length e0_3)*(8:Nat)≤(140737488355328:Nat)∧
  ∃ (p':Int×List Int×Unit),
  a=a∧
  b=b∧
  c=c∧
  code=code∧
  out=out∧
  a=a∧
  e1_1=e1_1∧
  e0_1=e0_1∧
  code=code∧
  e1=e1∧
  e8=e8∧
  e7=e7∧
  out=out∧
  e3=e3∧
  IntKind.wrap IntKind.i64 (e4+(1:Int))=p'.1∧
  a=a∧
  b=b∧
  c=c∧
  code=code∧
  out=out∧
  (0:Int)=(0:Int)∧
  e6=e6∧
  a=a∧
  e9=e9∧
  e5=e5∧
  e1_3++e0_3=p'.2.1∧
  ((0:Int)≤p'.1∧
  p'.1≤e3∧T1 e5_1 (List.take (Int.toNat p'.1) out)=(p'.2.1,true))∧
  List.length out-Int.toNat p'.1<List.length out-Int.toNat e4))∧
  (e3_2=false→(a,e5,e1_3,[],true,())=e0)))):=by kernel_rfl
theorem bV8 (a b c:Int) (code:List RIns) (out:List Place):vc (EV [(60,cShaped),(61,cContains),(58,cFollow)]) (bM8 code) Go.Proofs.Tryd.f22 cValid (a,b,c,code,out,())=(
 let e0:Bool:=decide ((↑(List.length code):Int) >(16000:Int));
 let e1:RIns:=RIns.mk (0:Int) (0:Int) (0:Int) ins0;
 let e2:Int×Unit:=(N8 (RCode.mk a b c code out),());
 let e3:Int:=(↑(List.length code):Int);
 let e4:Bool:=!K4 (RCode.mk a b c code out);
  Small RU (Sigma.mk (Ty.slice (55:Nat) (Ty.user (1:Nat))) code)→
  Small RU (Sigma.mk (Ty.slice (59:Nat) (Ty.user (2:Nat))) out)→
  (e0=true→((3:Int),())=e2)∧
  (e0=false→
  ((-9223372036854775808:Int)≤b∧b<(9223372036854775808:Int))∧
  (e4=true→((2:Int),())=e2)∧
  (e4=false→
  (∃ (p:Int×Unit),
  a=a∧
  b=b∧
  c=c∧
  code=code∧
  out=out∧
  e0=e0∧
  e4=e4∧
  code=code∧
  e3=e3∧
  (0:Int)=p.1∧
  a=a∧
  b=b∧
  c=c∧
  code=code∧
  out=out∧
  (0:Int)≤p.1∧p.1≤e3∧(List.all (List.take (Int.toNat p.1) code) fun (x:RIns)=>x.kind !=(0:Int)||D5 x.ins.to)=true)∧
  ∀ (p:Int×Unit),
 let e0_1:Bool:=decide (p.1<e3);
 let e1_1:Int:=(↑(List.length (List.getD code (Int.toNat p.1) e1).ins.to):Int);
 let e2_1:Ins:=(List.getD code (Int.toNat p.1) e1).ins;
 let e3_1:Nat:=List.length (List.getD code (Int.toNat p.1) rins0).ins.to;
 let e4_1:Int:=(List.getD code (Int.toNat p.1) e1).kind;
  (0:Int)≤p.1∧p.1≤e3∧(List.all (List.take (Int.toNat p.1) code) fun (x:RIns)=>x.kind !=(0:Int)||D5 x.ins.to)=true→
  (e0_1=true→
  ((0:Int)≤p.1∧p.1<e3)∧
  (∃ (p_1:Int×Unit),
  a=a∧
  b=b∧
  c=c∧
  code=code∧
  out=out∧
  e0=e0∧
  e4=e4∧
  code=code∧
  e3=e3∧
  p.1=p.1∧
  e0_1=e0_1∧
  e2_1.to=e2_1.to∧
  e1_1=e1_1∧
  (0:Int)=p_1.1∧
  a=a∧
  b=b∧
  c=c∧
  code=code∧
  out=out∧
  e4_1=e4_1∧
  (List.getD code (Int.toNat p.1) e1).slot=(List.getD code (Int.toNat p.1) e1).slot∧
  (List.getD code (Int.toNat p.1) e1).cell=(List.getD code (Int.toNat p.1) e1).cell∧
  e2_1.op=e2_1.op∧
  e2_1.n=e2_1.n∧
  e2_1.to=e2_1.to∧
  e2_1.from_=e2_1.from_∧
  e2_1.body=e2_1.body∧
  (0:Int)≤p_1.1∧
  p_1.1≤(↑e3_1:Int)∧
  ((List.getD code (Int.toNat p.1) rins0).kind≠(0:Int)∨
  D5 (List.take (Int.toNat p_1.1) (List.getD code (Int.toNat p.1) rins0).ins.to)=true))∧
  ∀ (p_1:Int×Unit),
 let e0_2:Bool:=e4_1==(0:Int)&&List.contains (List.take (Int.toNat p_1.1) e2_1.to) (List.getD e2_1.to (Int.toNat p_1.1) (0:Int));
 let e1_2:Bool:=decide (p_1.1<e1_1);
  (0:Int)≤p_1.1∧
  p_1.1≤(↑e3_1:Int)∧
  ((List.getD code (Int.toNat p.1) rins0).kind≠(0:Int)∨D5 (List.take (Int.toNat p_1.1) (List.getD code (Int.toNat p.1) rins0).ins.to)=true)→
  (e1_2=true→
  ((0:Int)≤p_1.1∧p_1.1<e1_1)∧
  ((e4_1==(0:Int))=true→(0:Int)≤p_1.1∧p_1.1≤e1_1)∧
  (e0_2=true→((5:Int),())=e2)∧
  (e0_2=false→
  ∃ (p':Int×Unit),
  a=a∧
  b=b∧
  c=c∧
  code=code∧
  out=out∧
  e0=e0∧
  e4=e4∧
  code=code∧
  e3=e3∧
  p.1=p.1∧
  e0_1=e0_1∧
  e2_1.to=e2_1.to∧
  e1_1=e1_1∧
  IntKind.wrap IntKind.i64 (p_1.1+(1:Int))=p'.1∧
  a=a∧
  b=b∧
  c=c∧
  code=code∧
  out=out∧
  e4_1=e4_1∧
  (List.getD code (Int.toNat p.1) e1).slot=(List.getD code (Int.toNat p.1) e1).slot∧
  (List.getD code (Int.toNat p.1) e1).cell=(List.getD code (Int.toNat p.1) e1).cell∧
  e2_1.op=e2_1.op∧
  e2_1.n=e2_1.n∧
  e2_1.to=e2_1.to∧
  e2_1.from_=e2_1.from_∧
  e2_1.body=e2_1.body∧
  ((0:Int)≤p'.1∧
  p'.1≤(↑e3_1:Int)∧
  ((List.getD code (Int.toNat p.1) rins0).kind≠(0:Int)∨
  D5 (List.take (Int.toNat p'.1) (List.getD code (Int.toNat p.1) rins0).ins.to)=
  true))∧
  e3_1-Int.toNat p'.1<e3_1-Int.toNat p_1.1))∧
  (e1_2=false→
  ∃ (p':Int×Unit),
  a=a∧
  b=b∧
  c=c∧
  code=code∧
  out=out∧
  e0=e0∧
  e4=e4∧
  code=code∧
  e3=e3∧
  IntKind.wrap IntKind.i64 (p.1+(1:Int))=p'.1∧
  a=a∧
  b=b∧
  c=c∧
  code=code∧
  out=out∧
  ((0:Int)≤p'.1∧
  p'.1≤e3∧
  (List.all (List.take (Int.toNat p'.1) code) fun (x:RIns)=>x.kind !=(0:Int)||D5 x.ins.to)=true)∧
  List.length code-Int.toNat p'.1<List.length code-Int.toNat p.1))∧
  (e0_1=false→
  ((0:Int)≤a∧a≤(4000:Int)∧List.length code≤(16000:Nat)∧V7 code=true∧List.length out≤(17592186044400:Nat))∧
  ((!(C2 (RCode.mk a b c code out)).2)=true→((4:Int),())=e2)∧((!(C2 (RCode.mk a b c code out)).2)=false→((0:Int),())=e2))))):=by kernel_rfl
theorem cf3 (a b c:Int) (code:List RIns) (out:List Place):vc (EV [(22,cValid),(58,cFollow)]) (cf2 a (C2 ⟨a,b,c,code,out⟩).1.code) Go.Proofs.Tryd.f20 cBack (a,b,c,code,out,())=(
 let e0:Int×List Ins×List Int×List Int×Int×Unit:=
  ((M4 (RCode.mk a b c code out)).1.params,(M4 (RCode.mk a b c code out)).1.code,(M4 (RCode.mk a b c code out)).1.out,(M4 (RCode.mk a b c code out)).1.at_,
  (M4 (RCode.mk a b c code out)).2,());
 let e1:Int:=(↑(List.length (C2 (RCode.mk a b c code out)).1.code):Int);
 let e2:List Ins:=(C2 (RCode.mk a b c code out)).1.code;
 let e3:Bool:=N8 (RCode.mk a b c code out) !=(0:Int);
 let e4:Int:=(C2 (RCode.mk a b c code out)).1.params;
 let e5:List Int:=(C2 (RCode.mk a b c code out)).1.at_;
 let e6:List Int:=(C2 (RCode.mk a b c code out)).1.out;
 let e7:Int:=N8 (RCode.mk a b c code out);
  Small RU (Sigma.mk (Ty.slice (55:Nat) (Ty.user (1:Nat))) code)→
  Small RU (Sigma.mk (Ty.slice (59:Nat) (Ty.user (2:Nat))) out)→
  ((-9223372036854775808:Int)≤b∧b<(9223372036854775808:Int)∧V7 code=true∧List.length out≤(17592186044400:Nat))∧
  (e3=true→((0:Int),[],[],[],e7,())=e0)∧
  (e3=false→
  ((0:Int)≤a∧a≤(4000:Int)∧List.length code≤(16000:Nat)∧V7 code=true∧List.length out≤(17592186044400:Nat))∧
  (∃ (p:Int×Int×Unit),
  a=a∧
  b=b∧
  c=c∧
  code=code∧
  out=out∧
  (0:Int)=(0:Int)∧
  e7=e7∧
  e3=e3∧
  e2=e2∧
  e1=e1∧
  (0:Int)=p.1∧
  e4=p.2.1∧
  a=a∧
  b=b∧
  c=c∧
  code=code∧
  out=out∧
  (0:Int)=(0:Int)∧
  e4=e4∧e2=e2∧e6=e6∧e5=e5∧(0:Int)≤p.1∧p.1≤e1∧p.2.1=I7 a (List.take (Int.toNat p.1) e2))∧
  ∀ (p:Int×Int×Unit),
 let e0_1:Bool:=decide (p.2.1 >(4000:Int))||decide (e1 >(4000:Int));
 let e1_1:Bool:=decide (p.1<e1);
 let e2_1:Int:=p.1;
  (0:Int)≤e2_1∧e2_1≤e1∧p.2.1=I7 a (List.take (Int.toNat e2_1) e2)→
  (e1_1=true→
  ((0:Int)≤e2_1∧e2_1<e1)∧
  ∃ (p':Int×Int×Unit),
  a=a∧
  b=b∧
  c=c∧
  code=code∧
  out=out∧
  (0:Int)=(0:Int)∧
  e7=e7∧
  e3=e3∧
  e2=e2∧
  e1=e1∧
  IntKind.wrap IntKind.i64 (e2_1+(1:Int))=p'.1∧
  IntKind.wrap IntKind.i64 (p.2.1+(↑(List.length (List.getD e2 (Int.toNat e2_1) (Ins.mk (0:Int) (0:Int) [] [] [])).to):Int))=p'.2.1∧
  a=a∧
  b=b∧
  c=c∧
  code=code∧
  out=out∧
  (0:Int)=(0:Int)∧
  e4=e4∧
  e2=e2∧
  e6=e6∧
  e5=e5∧
  ((0:Int)≤p'.1∧p'.1≤e1∧p'.2.1=I7 a (List.take (Int.toNat p'.1) e2))∧
  List.length e2-Int.toNat p'.1<List.length e2-Int.toNat e2_1)∧
  (e1_1=false→(e0_1=true→((0:Int),[],[],[],(9:Int),())=e0)∧(e0_1=false→(e4,e2,e6,e5,(0:Int),())=e0)))):=by kernel_rfl
end Go.Rg
end
section
set_option maxRecDepth 100000
namespace Go.Rg
open Go Go.VT
theorem be1 {s:SF} {x:RIns} (h:(K8 s x).2=false):K8 s x=(s,false):=by
 revert h
 unfold K8
 cases x.kind==0 with
 |true=>
  simp only [cond_true]
  cases x.ins.from_.all (isP (s.1,())) with
  |true=>intro h;cases h
  |false=>intro _;rfl
 |false=>
  simp only [cond_false]
  cases mget eqP s.1 (bif x.kind==2 then ⟨false,x.slot⟩ else ⟨true,x.cell⟩) with
  |none=>intro _;rfl
  |some n=>intro h;cases h
theorem bN0 (s:SF) (x:RIns):J5 [x] s=K8 s x:=by
 simp only [J5]
 cases h:(K8 s x).2 with
 |true=>simp only [cond_true];rw [←h]
 |false=>simp only [cond_false];exact (be1 h).symm
theorem aH1 (r:List RIns):∀ (l:List RIns) (s:SF),J5 (l++r) s=bif (J5 l s).2 then J5 r (J5 l s).1 else J5 l s
 |[],s=>rfl
 |x::l,s=>by
  simp only [List.cons_append,J5]
  cases (K8 s x).2 with
  |true=>simp only [cond_true];exact aH1 r l _
  |false=>rfl
theorem aN7 {l:List RIns} {k:Nat} {s s':SF} (hk:k<l.length) (h:J5 (l.take k) s=(s',true)):J5 (l.take (k+1)) s=K8 s' (l.getD k rins0):=by
 rw [A4 hk rins0,aH1,h]
 exact bN0 _ _
theorem bA2 {l:List RIns} {k:Nat} {s s':SF} (hk:k<l.length) (h:J5 (l.take k) s=(s',true)) (h2:(K8 s' (l.getD k rins0)).2=false):J5 l s=(s',false):=by
 have hs:=aN7 hk h
 rw [be1 h2] at hs
 conv=>lhs;rw [←List.take_append_drop (k+1) l]
 rw [aH1,hs]
 rfl
theorem bA3 (s:SF) (x:RIns) (hx:x.ins.to.length≤17592186044416):(K8 s x).1.2.1.length≤s.2.1.length+1∧s.2.2≤(K8 s x).1.2.2∧(K8 s x).1.2.2≤s.2.2+17592186044416:=by
 unfold K8
 cases x.kind==0 with
 |true=>
  simp only [cond_true]
  cases x.ins.from_.all (isP (s.1,())) with
  |true=>
   have:=(ac3 s.2.2 s.1 x.ins.to).2
   simp only [cond_true,List.length_append,List.length_cons,List.length_nil]
   omega
  |false=>simp only [cond_false];omega
 |false=>
  simp only [cond_false]
  cases mget eqP s.1 (bif x.kind==2 then ⟨false,x.slot⟩ else ⟨true,x.cell⟩) with
  |none=>simp only;omega
  |some n=>simp only;omega
theorem aH2:∀ (l:List RIns) (s:SF),V7 l=true→(J5 l s).1.2.1.length≤s.2.1.length+l.length∧s.2.2≤(J5 l s).1.2.2∧(J5 l s).1.2.2≤s.2.2+l.length*17592186044416
 |[],s,_=>by simp [J5]
 |x::r,s,h=>by
  simp only [V7,List.all_cons,Bool.and_eq_true] at h
  have h1:=bA3 s x ((P3 _).1 h.1).1.1
  have h2:=aH2 r (K8 s x).1 h.2
  simp only [J5]
  cases hs:(K8 s x).2 with
  |true=>simp only [cond_true,List.length_cons];omega
  |false=>simp only [cond_false,List.length_cons];omega
theorem aH3 (m:Holds) (r:List Place):∀ (l:List Place),T1 m (l++r)=bif (T1 m l).2 then ((T1 m l).1++(T1 m r).1,(T1 m r).2) else T1 m l
 |[]=>rfl
 |p::l=>by
  simp only [List.cons_append,T1]
  cases mget eqP m p with
  |none=>rfl
  |some n=>
   simp only [aH3 m r l]
   cases h:(T1 m l).2 with
   |true=>rfl
   |false=>simp only [cond_false,h]
theorem be2 (m:Holds):∀ (l:List Place),(T1 m l).1.length≤l.length
 |[]=>by simp [T1]
 |p::l=>by
  simp only [T1]
  split
  ·simp
  ·have:=be2 m l
   simp only [List.length_cons];omega
theorem aT8 (n:Nat):R9 (n+1)=mput eqP (R9 n) ⟨true,n⟩ n:=by
 simp [R9,List.range_succ]
theorem bN1 (a b c:Int) (code:List RIns) (out:List Place) (hp:0≤a∧a≤4000∧code.length≤16000∧V7 code=true∧out.length≤17592186044400):vc (EV [(78,cAll 89 tysP objP [0] isP),(73,cCalledF)]) (bm2 a code out) Go.Proofs.Tryd.f58 cFollow (a,b,c,code,out,()):=by
 rw [bM9 a b c code out]
 intro e0 e1 e2 e3 e4 hsl hso
 obtain ⟨hp1,hp2,hp3,hp4,hp5⟩:=hp
 have hd:e2=rins0:=rfl
 have hno:∀ s:SF,J5 code (G7 a)=(s,false)→e0=(a,s.2.1,[],[],false,()):=by
  intro s hs
  have:C2 ⟨a,b,c,code,out⟩=(⟨a,s.2.1,[],[]⟩,false):=by simp only [C2,hs];rfl
  simp only [e0,this]
 have hyes:∀ s:SF,J5 code (G7 a)=(s,true)→e0=(a,s.2.1,(T1 s.1 out).1,[],(T1 s.1 out).2,()):=by
  intro s hs
  have:C2 ⟨a,b,c,code,out⟩=(⟨a,s.2.1,(T1 s.1 out).1,[]⟩,(T1 s.1 out).2):=by simp only [C2,hs];rfl
  simp only [e0,this]
 clear_value e0
 rw [hd]
 clear_value e2
 dsimp only [e1,e3,e4]
 simp only [true_and,and_true,Bool.cond_self]
 refine ⟨⟨(0,[],()),rfl,rfl,Int.le_refl _,hp1,rfl⟩,?_⟩
 rintro ⟨i,m,⟨⟩⟩ ⟨h0,h1,h2⟩
 dsimp only at h0 h1 h2 ⊢
 obtain ⟨k,rfl⟩:=Int.eq_ofNat_of_zero_le h0
 simp only [Int.toNat_natCast] at h2 ⊢
 subst h2
 refine ⟨fun hlt=>?_,fun hge=>?_⟩
 ·have hlt:(k:Int)<a:=of_decide_eq_true hlt
  refine ⟨((k+1:Nat),R9 (k+1),()),?_,aT8 k |>.symm,⟨by omega,by dsimp only;omega,by dsimp only;rw [Int.toNat_natCast]⟩,by dsimp only;omega⟩
  rw [J4 (by omega) (by omega)];rfl
 have hk:a.toNat=k:=by have:¬ (k:Int)<a:=of_decide_eq_false hge;omega
 have hst:G7 a=(R9 k,[],a):=by unfold G7;rw [hk]
 clear h0 h1 hge
 refine ⟨⟨(0,_,a,[],()),rfl,rfl,rfl,rfl,Int.le_refl _,by dsimp only;omega,by simp only [Int.toNat_zero,List.take_zero,J5,hst];rfl⟩,?_⟩
 rintro ⟨i,m,nx,cd,⟨⟩⟩ ⟨h0,h1,h2⟩
 dsimp only at h0 h1 h2 ⊢
 obtain ⟨j,rfl⟩:=Int.eq_ofNat_of_zero_le h0
 simp only [Int.toNat_natCast,Bool.cond_self] at h2 ⊢
 have hjl:j≤code.length:=by omega
 have hb:=aH2 (code.take j) (G7 a) (by
  unfold V7 at hp4 ⊢
  exact List.all_eq_true.2 fun x hx=>List.all_eq_true.1 hp4 x (List.mem_of_mem_take hx))
 rw [h2] at hb
 simp only [G7,List.length_nil,List.length_take] at hb
 refine ⟨fun hlt=>?_,fun hge=>?_⟩
 ·have hlt:(j:Int)<code.length:=of_decide_eq_true hlt
  have hjc:j<code.length:=by omega
  have hstop:=fun h=>hno _ (bA2 hjc h2 h)
  have hstep:=aN7 hjc h2
  have hok:aI8 (code.getD j rins0).ins=true:=List.all_eq_true.1 hp4 _ (G6 hjc _)
  have next:∀ s:SF,K8 (m,cd,nx) (code.getD j rins0)=(s,true)→∃ p':Int×List (Place×Int)×Int×List Ins×Unit,IntKind.i64.wrap ((j:Int)+1)=p'.1∧s.1=p'.2.1∧s.2.2=p'.2.2.1∧s.2.1=p'.2.2.2.1∧
    (0≤p'.1∧p'.1≤(code.length:Int)∧J5 (code.take p'.1.toNat) (G7 a)=((p'.2.1,p'.2.2.2.1,p'.2.2.1),true))∧code.length-p'.1.toNat<code.length-j:=fun s hs=>
   ⟨((j+1:Nat),s.1,s.2.2,s.2.1,()),B4 hjc (by omega),rfl,rfl,rfl,⟨by omega,by dsimp only;omega,by dsimp only;rw [Int.toNat_natCast,hstep,hs]⟩,by dsimp only;omega⟩
  generalize code.getD j rins0=x at hstop hstep hok next ⊢
  refine ⟨⟨h0,hlt⟩,fun hk0=>?_,fun hk0=>?_⟩
  ·have hk0:(x.kind==0)=false:=by simpa [bne] using hk0
   have hpl:(Place.mk (bif x.kind==2 then false else true) (bif x.kind==2 then x.slot else x.cell))=(bif x.kind==2 then ⟨false,x.slot⟩ else ⟨true,x.cell⟩):=by cases x.kind==2<;>rfl
   have hpl2:(Place.mk (bif x.kind==2 then true else false) (bif x.kind==2 then x.cell else x.slot))=(bif x.kind==2 then ⟨true,x.cell⟩ else ⟨false,x.slot⟩):=by cases x.kind==2<;>rfl
   rw [hpl,hpl2]
   have hS:K8 (m,cd,nx) x=match mget eqP m (bif x.kind==2 then ⟨false,x.slot⟩ else ⟨true,x.cell⟩) with
     |none=>((m,cd,nx),false)
     |some n=>((mput eqP m (bif x.kind==2 then ⟨true,x.cell⟩ else ⟨false,x.slot⟩) n,cd,nx),true):=by
    simp only [K8,hk0,cond_false]
    try rfl
   generalize (bif x.kind==2 then (⟨false,x.slot⟩:Place) else ⟨true,x.cell⟩)=q at hS ⊢
   generalize (bif x.kind==2 then (⟨true,x.cell⟩:Place) else ⟨false,x.slot⟩)=q2 at hS ⊢
   show ((!(mget eqP m q).isSome)=true→_)∧((!(mget eqP m q).isSome)=false→_)
   cases hq:mget eqP m q with
   |none=>
    rw [hq] at hS
    refine ⟨fun _=>?_,fun h=>(by cases h)⟩
    exact (hstop (by rw [hS])).symm
   |some v=>
    rw [hq] at hS
    refine ⟨fun h=>(by cases h),fun _=>?_⟩
    have hq':mget (E7 RU (Ty.user 2)) m q=some v:=hq
    obtain ⟨p',q1,q2',q3,q4,q5⟩:=next _ hS
    exact ⟨p',q1,by rw [hq'];exact q2',q3,q4,q5⟩
  ·have hk0:(x.kind==0)=true:=by simpa [bne] using hk0
   have hS:K8 (m,cd,nx) x=bif x.ins.from_.all (isP (m,())) then (((F4 nx m x.ins.to).2.2,cd++[⟨x.ins.op,x.ins.n,(F4 nx m x.ins.to).1,x.ins.from_.map (getF m),x.ins.body⟩],(F4 nx m x.ins.to).2.1),true) else ((m,cd,nx),false):=by
    simp only [K8,hk0,cond_true]
   cases hq:x.ins.from_.all (isP (m,())) with
   |false=>
    rw [hq] at hS
    refine ⟨fun _=>(hstop (by rw [hS];rfl)).symm,fun h=>(by cases h)⟩
   |true=>
    rw [hq] at hS
    refine ⟨fun h=>(by cases h),fun _=>⟨⟨U5.2 ((P3 _).1 hok),by omega,?_⟩,?_,?_⟩⟩
    ·omega
    ·simp only [List.length_cons,List.length_nil];omega
    ·obtain ⟨p',q1,q2',q3,q4,q5⟩:=next _ hS
     exact ⟨p',q1,q2',q3,q4,q5⟩
 have hjj:j=code.length:=by have:¬ (j:Int)<code.length:=of_decide_eq_false hge;omega
 subst hjj
 rw [List.take_length] at h2
 rw [h2]
 have hyes:=hyes _ h2
 dsimp only at hyes ⊢
 clear h0 h1 hge hno h2
 refine ⟨⟨(0,[],()),rfl,rfl,Int.le_refl _,by dsimp only;omega,rfl⟩,?_⟩
 rintro ⟨i,l,⟨⟩⟩ ⟨h0,h1,h2⟩
 dsimp only at h0 h1 h2 ⊢
 obtain ⟨j,rfl⟩:=Int.eq_ofNat_of_zero_le h0
 simp only [Int.toNat_natCast] at h2 ⊢
 have hjl:j≤out.length:=by omega
 have hlen:=be2 m (out.take j)
 rw [h2,List.length_take] at hlen
 refine ⟨fun hlt=>?_,fun hge=>?_⟩
 ·have hlt:(j:Int)<out.length:=of_decide_eq_true hlt
  have hjc:j<out.length:=by omega
  have hcut:out=out.take j++(out.getD j ⟨false,0⟩::out.drop (j+1)):=by
   conv=>lhs;rw [←List.take_append_drop (j+1) out,A4 hjc ⟨false,0⟩]
   simp
  generalize hx:out.getD j ⟨false,0⟩=x at hcut ⊢
  obtain ⟨xc,xn⟩:=x
  refine ⟨⟨h0,hlt⟩,?_⟩
  show ((!(mget eqP m ⟨xc,xn⟩).isSome)=true→_)∧((!(mget eqP m ⟨xc,xn⟩).isSome)=false→_)
  cases hq:mget eqP m ⟨xc,xn⟩ with
  |none=>
   refine ⟨fun _=>?_,fun h=>(by cases h)⟩
   have:T1 m out=(l,false):=by
    rw [hcut,aH3,h2]
    simp only [cond_true,T1,hq,List.append_nil]
   rw [hyes,this]
  |some v=>
   refine ⟨fun h=>(by cases h),fun _=>⟨by simp only [List.length_cons,List.length_nil] at hlen ⊢;omega,((j+1:Nat),l++[v],()),B4 hjc (by omega),?_,⟨by omega,by dsimp only;omega,?_⟩,by dsimp only;omega⟩⟩
   ·have hq':mget (E7 RU (Ty.user 2)) m ⟨xc,xn⟩=some v:=hq
    rw [hq'];rfl
   ·dsimp only
    rw [Int.toNat_natCast,A4 hjc ⟨false,0⟩,hx,aH3,h2]
    simp only [cond_true,T1,hq]
 ·have hjj:j=out.length:=by have:¬ (j:Int)<out.length:=of_decide_eq_false hge;omega
  subst hjj
  rw [List.take_length] at h2
  rw [hyes,h2]
theorem aw6:C5 prog RG 58 cFollow:=D8 (A5 by1 (A5 aT7 B8)) (fun p=>bm2 p.1 p.2.2.2.1 p.2.2.2.2.1) (by kernel_rfl) (by kernel_rfl) (by kernel_rfl) fun (a,b,c,code,out,()) hp=>bN1 a b c code out hp
theorem at3 (a:Int) (l r:List Ins):I7 a (l++r)=I7 (I7 a l) r:=by simp [I7]
theorem aH4:∀ (l:List Ins) (a:Int),a≤I7 a l
 |[],a=>Int.le_refl _
 |x::r,a=>by
  have:=aH4 r (a+x.to.length)
  simp only [I7,List.foldl_cons] at this ⊢
  omega
theorem bm3 (l:List Ins) (k:Nat) (a:Int):I7 a (l.take k)≤I7 a l:=by
 conv=>rhs;rw [←List.take_append_drop k l]
 rw [at3]
 exact aH4 _ _
theorem bm4 {a:Int} {s:SF} (h:s.2.2=I7 a s.2.1) (x:RIns):(K8 s x).1.2.2=I7 a (K8 s x).1.2.1:=by
 unfold K8
 cases x.kind==0 with
 |true=>
  simp only [cond_true]
  cases x.ins.from_.all (isP (s.1,())) with
  |true=>
   have:=ac3 s.2.2 s.1 x.ins.to
   simp only [cond_true,at3,←h]
   simp only [I7,List.foldl_cons,List.foldl_nil]
   rw [this.2,this.1]
  |false=>exact h
 |false=>
  simp only [cond_false]
  cases mget eqP s.1 (bif x.kind==2 then ⟨false,x.slot⟩ else ⟨true,x.cell⟩) with
  |none=>exact h
  |some n=>exact h
theorem aN8 {a:Int}:∀ (l:List RIns) {s:SF},s.2.2=I7 a s.2.1→(J5 l s).1.2.2=I7 a (J5 l s).1.2.1
 |[],s,h=>h
 |x::r,s,h=>by
  simp only [J5]
  cases (K8 s x).2 with
  |true=>exact aN8 r (bm4 h x)
  |false=>exact h
theorem aq5 (c:RCode):(C2 c).1.params=c.params∧(C2 c).1.code=(J5 c.code (G7 c.params)).1.2.1:=by
 unfold C2
 cases (J5 c.code (G7 c.params)).2<;>exact ⟨rfl,rfl⟩
theorem aT9 {c:RCode} (h0:0≤c.params∧c.params≤4000) (hl:c.code.length≤16000) (hi:V7 c.code=true):(C2 c).1.code.length≤16000∧I7 c.params (C2 c).1.code≤281474976714656000∧((C2 c).2=true→I7 c.params (C2 c).1.code=(J5 c.code (G7 c.params)).1.2.2):=by
 rw [(aq5 c).2]
 have h1:=aH2 c.code (G7 c.params) hi
 have h2:=aN8 c.code (a:=c.params) (s:=G7 c.params) rfl
 simp only [G7,List.length_nil] at h1 h2 ⊢
 rw [←h2]
 refine ⟨by omega,by omega,fun _=>rfl⟩
theorem aU0 (l:List Int) (x:Int):D5 (l++[x])=(D5 l&&!l.contains x):=by
 rw [Bool.eq_iff_iff,F8,Bool.and_eq_true,F8,List.nodup_append]
 simp
 intro _
 exact ⟨fun h hx=>h x hx rfl,fun h a ha e=>h (e▸ha)⟩
theorem be3 {l r:List Int} (h:D5 l=false):D5 (l++r)=false:=by
 rw [Bool.eq_false_iff] at h ⊢
 intro hh
 exact h (F8.2 (List.nodup_append.1 (F8.1 hh)).1)
theorem bV9 (a b c:Int) (code:List RIns) (out:List Place) (hp:-9223372036854775808≤b∧b<9223372036854775808∧V7 code=true∧out.length≤17592186044400):vc (EV [(60,cShaped),(61,cContains),(58,cFollow)]) (bM8 code) Go.Proofs.Tryd.f22 cValid (a,b,c,code,out,()):=by
 rw [bV8 a b c code out]
 intro e0 e1 e2 e3 e4 hsl hso
 obtain ⟨hp1,hp2,hp3,hp4⟩:=hp
 have hd:e1=rins0:=rfl
 have he2:e2=(N8 ⟨a,b,c,code,out⟩,()):=rfl
 have he4:e4=!K4 ⟨a,b,c,code,out⟩:=rfl
 have he0:e0=decide ((16000:Int)<(code.length:Int)):=rfl
 simp only [N8] at he2
 clear_value e0 e1 e2 e4
 subst hd
 dsimp only [e3]
 simp only [true_and,and_true]
 have hins:∀ k,k<code.length→aI8 (code.getD k rins0).ins=true:=fun k hk=>List.all_eq_true.1 hp3 _ (G6 hk _)
 refine ⟨fun h=>?_,fun h=>⟨⟨hp1,hp2⟩,fun h2=>?_,fun h2=>?_⟩⟩
 ·rw [he0] at h
  have h:(16000:Int)<code.length:=of_decide_eq_true h
  rw [he2,if_pos (by omega)]
 ·rw [he0] at h
  have h:¬ (16000:Int)<code.length:=of_decide_eq_false h
  rw [he4,Bool.not_eq_true'] at h2
  rw [he2,if_neg (by omega),if_pos h2]
 rw [he0] at h
 have h:¬ (16000:Int)<code.length:=of_decide_eq_false h
 rw [he4,Bool.not_eq_false'] at h2
 rw [if_neg (by omega),h2,if_neg (by simp)] at he2
 refine ⟨⟨(0,()),rfl,Int.le_refl _,by dsimp only;omega,by simp⟩,?_⟩
 rintro ⟨i,⟨⟩⟩ ⟨h0,h1,h3⟩
 dsimp only at h0 h1 h3 ⊢
 obtain ⟨k,rfl⟩:=Int.eq_ofNat_of_zero_le h0
 simp only [Int.toNat_natCast] at h3 ⊢
 refine ⟨fun hlt=>?_,fun hge=>?_⟩
 ·have hlt:(k:Int)<code.length:=of_decide_eq_true hlt
  have hkc:k<code.length:=by omega
  have hx:=(P3 _).1 (hins k hkc)
  have no:(code.getD k rins0).kind=0→D5 (code.getD k rins0).ins.to=false→((5:Int),())=e2:=fun q1 q2=>by
   have:(code.all fun x=>x.kind !=0||D5 x.ins.to)=false:=aT5 rins0 hkc (by rw [q1,q2];rfl)
   rw [he2,this,if_pos rfl]
  have yes:((code.getD k rins0).kind≠0∨D5 (code.getD k rins0).ins.to=true)→∃ p':Int×Unit,IntKind.i64.wrap ((k:Int)+1)=p'.1∧(0≤p'.1∧p'.1≤(code.length:Int)∧((code.take p'.1.toNat).all fun x=>x.kind !=0||D5 x.ins.to)=true)∧code.length-p'.1.toNat<code.length-k:=fun q=>
   ⟨((k+1:Nat),()),B4 hkc (by omega),⟨by omega,by dsimp only;omega,by
    dsimp only;rw [Int.toNat_natCast]
    refine aq4 rins0 hkc h3 ?_
    rcases q with q|q
    ·exact (Bool.or_eq_true_iff ..).2 (.inl (bne_iff_ne.2 q))
    ·rw [q];simp⟩,by dsimp only;omega⟩
  obtain ⟨x,hxe⟩:∃ x,code.getD k rins0=x:=⟨_,rfl⟩
  simp only [hxe] at hx no yes ⊢
  refine ⟨⟨h0,hlt⟩,⟨(0,()),rfl,Int.le_refl _,by dsimp only;omega,.inr (by simp [D5])⟩,?_⟩
  rintro ⟨i,⟨⟩⟩ ⟨g0,g1,g2⟩
  dsimp only at g0 g1 g2 ⊢
  obtain ⟨j,rfl⟩:=Int.eq_ofNat_of_zero_le g0
  simp only [Int.toNat_natCast] at g2 ⊢
  refine ⟨fun glt=>?_,fun gge=>?_⟩
  ·have glt:(j:Int)<x.ins.to.length:=of_decide_eq_true glt
   have hjc:j<x.ins.to.length:=by omega
   have hsn:=aU0 (x.ins.to.take j) (x.ins.to.getD j 0)
   rw [←A4 hjc] at hsn
   refine ⟨⟨g0,glt⟩,fun _=>⟨g0,by omega⟩,fun hq=>?_,fun hq=>?_⟩
   ·simp only [Bool.and_eq_true,beq_iff_eq] at hq
    refine no hq.1 ?_
    rw [hq.2] at hsn
    have h5:D5 (x.ins.to.take (j+1))=false:=by rw [hsn];simp
    have:=be3 (r:=x.ins.to.drop (j+1)) h5
    rwa [List.take_append_drop] at this
   ·refine ⟨((j+1:Nat),()),B4 hjc (by have:=hx.1.1;omega),⟨by omega,by dsimp only;omega,?_⟩,by dsimp only;omega⟩
    dsimp only
    rw [Int.toNat_natCast]
    rcases g2 with g2|g2
    ·exact .inl g2
    ·by_cases hk:x.kind=0
     ·right
      simp only [hk,beq_self_eq_true,Bool.true_and] at hq
      rw [hsn,g2,hq];rfl
     ·exact .inl hk
  ·have hj:j=x.ins.to.length:=by have:¬ (j:Int)<x.ins.to.length:=of_decide_eq_false gge;omega
   subst hj
   rw [List.take_length] at g2
   exact yes g2
 ·have hk:k=code.length:=by have:¬ (k:Int)<code.length:=of_decide_eq_false hge;omega
  subst hk
  rw [List.take_length] at h3
  rw [h3,if_neg (by simp)] at he2
  have hsh:0≤a∧a≤4000:=by
   simp only [K4,H2,Bool.and_eq_true,List.all_cons,List.all_nil,decide_eq_true_eq] at h2
   omega
  refine ⟨⟨hsh.1,hsh.2,by omega,hp3,hp4⟩,fun q=>?_,fun q=>?_⟩
  ·rw [Bool.not_eq_true'] at q
   rw [he2,if_pos q]
  ·rw [Bool.not_eq_false'] at q
   rw [he2,q,if_neg (by simp)]
theorem aH5:C5 prog RG 22 cValid:=D8 (A5 be0 (A5 M8 (A5 aw6 B8))) (fun p=>bM8 p.2.2.2.1) (by kernel_rfl) (by kernel_rfl) (by kernel_rfl) fun (a,b,c,code,out,()) hp=>bV9 a b c code out hp
theorem be4 {c:RCode} (h:N8 c=0):c.code.length≤16000∧K4 c=true∧(c.code.all fun x=>x.kind !=0||D5 x.ins.to)=true∧(C2 c).2=true:=by
 unfold N8 at h
 split at h
 ·cases h
 ·split at h
  ·cases h
  ·split at h
   ·cases h
   ·split at h
    ·cases h
    ·rename_i h1 h2 h3 h4
     exact ⟨by omega,(Bool.not_eq_false _▸h2),(Bool.not_eq_false _▸h3),(Bool.not_eq_false _▸h4)⟩
theorem aU1 {c:RCode} (h:K4 c=true):0≤c.params∧c.params≤4000:=by
 simp only [K4,H2,Bool.and_eq_true,List.all_cons,List.all_nil,decide_eq_true_eq] at h
 omega
theorem cf4 (a b c:Int) (code:List RIns) (out:List Place) (hp:-9223372036854775808≤b∧b<9223372036854775808∧V7 code=true∧out.length≤17592186044400):vc (EV [(22,cValid),(58,cFollow)]) (cf2 a (C2 ⟨a,b,c,code,out⟩).1.code) Go.Proofs.Tryd.f20 cBack (a,b,c,code,out,()):=by
 rw [cf3 a b c code out]
 intro e0 e1 e2 e3 e4 e5 e6 e7 hsl hso
 have hb:e0=((M4 ⟨a,b,c,code,out⟩).1.params,(M4 ⟨a,b,c,code,out⟩).1.code,(M4 ⟨a,b,c,code,out⟩).1.out,(M4 ⟨a,b,c,code,out⟩).1.at_,(M4 ⟨a,b,c,code,out⟩).2,()):=rfl
 have he7:e7=N8 ⟨a,b,c,code,out⟩:=rfl
 have he3:e3=(e7 !=0):=rfl
 clear_value e0 e3
 dsimp only [e1,e2,e4,e5,e6]
 simp only [true_and,and_true]
 refine ⟨hp,fun h=>?_,fun h=>?_⟩
 ·have hne:N8 ⟨a,b,c,code,out⟩≠0:=by
   rw [←he7];rw [he3] at h;simpa using h
  have:M4 ⟨a,b,c,code,out⟩=(bw5,N8 ⟨a,b,c,code,out⟩):=by simp only [M4,if_pos hne]
  rw [hb,this,he7];rfl
 have hz:N8 ⟨a,b,c,code,out⟩=0:=by
  rw [←he7];rw [he3] at h;simpa using h
 obtain ⟨h1,h2,h3,h4⟩:=be4 hz
 have hpar:=aU1 h2
 have hm:=aT9 hpar h1 hp.2.2.1
 have hB:M4 ⟨a,b,c,code,out⟩=if 4000<I7 a (C2 ⟨a,b,c,code,out⟩).1.code∨4000<(C2 ⟨a,b,c,code,out⟩).1.code.length then (bw5,9) else ((C2 ⟨a,b,c,code,out⟩).1,0):=by simp only [M4,hz,ne_eq,not_true_eq_false,if_false]
 have hpa:=(aq5 ⟨a,b,c,code,out⟩).1
 rw [hB] at hb
 obtain ⟨f,hf⟩:∃ f,C2 ⟨a,b,c,code,out⟩=f:=⟨_,rfl⟩
 simp only [hf] at hb hm h4 hpa ⊢
 obtain ⟨⟨fa,fc,fo,ft⟩,fb⟩:=f
 dsimp only at hb hm h4 hpa ⊢
 subst hpa
 refine ⟨⟨hpar.1,hpar.2,h1,hp.2.2.1,hp.2.2.2⟩,⟨(0,fa,()),rfl,rfl,Int.le_refl _,by dsimp only;omega,by simp [I7]⟩,?_⟩
 rintro ⟨i,n,⟨⟩⟩ ⟨g0,g1,g2⟩
 dsimp only at g0 g1 g2 ⊢
 obtain ⟨k,rfl⟩:=Int.eq_ofNat_of_zero_le g0
 simp only [Int.toNat_natCast] at g2 ⊢
 subst g2
 refine ⟨fun hlt=>?_,fun hge=>?_⟩
 ·have hlt:(k:Int)<fc.length:=of_decide_eq_true hlt
  have hkc:k<fc.length:=by omega
  have hs:I7 fa (fc.take (k+1))=I7 fa (fc.take k)+((fc.getD k ins0).to.length:Int):=by
   rw [A4 hkc ins0,at3];rfl
  have hle:=bm3 fc (k+1) fa
  have hge:=aH4 (fc.take k) fa
  have hpar1:0≤fa:=hpar.1
  refine ⟨⟨g0,hlt⟩,((k+1:Nat),I7 fa (fc.take (k+1)),()),B4 hkc (by omega),?_,⟨by omega,by dsimp only;omega,by dsimp only;rw [Int.toNat_natCast]⟩,by dsimp only;omega⟩
  show IntKind.i64.wrap (I7 fa (fc.take k)+((fc.getD k ins0).to.length:Int))=_
  rw [←hs,J4 (by omega) (by omega)]
 ·have hk:k=fc.length:=by have:¬ (k:Int)<fc.length:=of_decide_eq_false hge;omega
  subst hk
  rw [List.take_length]
  refine ⟨fun q=>?_,fun q=>?_⟩
  ·simp only [Bool.or_eq_true,decide_eq_true_eq] at q
   have:4000<I7 fa fc∨4000<fc.length:=by omega
   rw [if_pos this] at hb
   exact hb.symm
  ·simp only [Bool.or_eq_false_iff,decide_eq_false_iff_not] at q
   have:¬ (4000<I7 fa fc∨4000<fc.length):=by omega
   rw [if_neg this] at hb
   exact hb.symm
theorem bA4:C5 prog RG 20 cBack:=D8 (A5 aH5 (A5 aw6 B8)) (fun p=>cf2 p.1 (C2 ⟨p.1,p.2.1,p.2.2.1,p.2.2.2.1,p.2.2.2.2.1⟩).1.code) (by kernel_rfl) (by kernel_rfl) (by kernel_rfl) fun (a,b,c,code,out,()) hp=>cf4 a b c code out hp
abbrev Reads:=List (Int×List Int)
abbrev mapR:Ty:=.map i64 ints
def getL (r:Reads) (n:Int):List Int:=(mget eqI r n).getD []
def aH6 (rd:Reads) (N reg from_:Int):Int:=((getL rd reg).find? (fun x=>decide (from_≤x))).getD N
def bN2:Place:=⟨true,-1⟩
noncomputable def aj9 (m:Holds) (reg:Int) (s:Nat):Bool:=decide (mget eqP m ⟨false,(s:Int)⟩=some reg)
noncomputable def E1 (m:Holds) (ks reg:Int):Place:=match (List.range ks.toNat).find? (aj9 m reg) with
 |some s=>⟨false,(s:Int)⟩
 |none=>bN2
def held0:Held:=⟨0,0,0⟩
def at4 (x y:Held):Bool:=decide (x.next >y.next)||(x.next==y.next&&decide (x.reg >y.reg))
def P6 (x y:Held):Held:=bif at4 y x then y else x
def M5 (l:List Held):Held:=l.tail.foldl P6 (l.headD held0)
structure AS where
 holds:Holds
 cells:List (Int×Int)
 ocells:Int
 code:List RIns
noncomputable def C9 (sp:Spans) (rd:Reads) (N:Int) (m:Holds) (place:Int) (stay:List Int):List Nat→List Held→Option Int×List Held
 |[],acc=>(none,acc)
 |s::r,acc=>match mget eqP m ⟨false,(s:Int)⟩ with
  |none=>(some (s:Int),acc)
  |some n=>bif stay.contains n then C9 sp rd N m place stay r acc else bif P7 (getS sp n).first (getS sp n).last place then C9 sp rd N m place stay r (acc++[⟨(s:Int),n,aH6 rd N n place⟩]) else (some (s:Int),acc)
noncomputable def M3 (sp:Spans) (rd:Reads) (ks N:Int) (m:Holds) (place:Int) (stay:List Int):Option Int×List Held:=C9 sp rd N m place stay (List.range ks.toNat) []
noncomputable def aw7 (sp:Spans) (rd:Reads) (ks N:Int) (m:Holds) (place:Int) (stay:List Int):Prop:=(M3 sp rd ks N m place stay).1=none→(M3 sp rd ks N m place stay).2≠[]
noncomputable def aU2 (s:AS) (x:Held):AS:=bif (mget eqI s.cells x.reg).isSome then s else ⟨s.holds,mput eqI s.cells x.reg s.ocells,s.ocells+1,s.code++[⟨2,x.slot,s.ocells,ins0⟩]⟩
noncomputable def G8 (sp:Spans) (rd:Reads) (ks N:Int) (s:AS) (place:Int) (stay:List Int):Int×AS:=
 match (M3 sp rd ks N s.holds place stay).1 with
 |some i=>(i,s)
 |none=>((M5 (M3 sp rd ks N s.holds place stay).2).slot,aU2 s (M5 (M3 sp rd ks N s.holds place stay).2))
def F5:List Int→List Int→List Int
 |_,[]=>[]
 |seen,x::r=>bif seen.contains x then F5 (seen++[x]) r else x::F5 (seen++[x]) r
def B6 (l:List Int):List Int:=F5 [] l
noncomputable def K5 (sp:Spans) (rd:Reads) (ks N i:Int) (fr:List Int) (s:AS) (n:Int):AS:=
 bif (E1 s.holds ks n).cell then
  (match G8 sp rd ks N s i fr with
  |(q,t)=>⟨mput eqP t.holds ⟨false,q⟩ n,t.cells,t.ocells,t.code++[⟨1,q,getI t.cells n,ins0⟩]⟩)
 else s
noncomputable def aw8 (sp:Spans) (rd:Reads) (ks N i:Int) (to:List Int) (s:AS) (n:Int):AS:=
 match G8 sp rd ks N s (i+1) to with
 |(q,t)=>⟨mput eqP t.holds ⟨false,q⟩ n,t.cells,t.ocells,t.code⟩
noncomputable def F3 (sp:Spans) (rd:Reads) (ks N i:Int) (fr:List Int) (s:AS) (l:List Int):AS:=l.foldl (K5 sp rd ks N i fr) s
noncomputable def Q9 (sp:Spans) (rd:Reads) (ks N i:Int) (to:List Int) (s:AS) (l:List Int):AS:=l.foldl (aw8 sp rd ks N i to) s
noncomputable def ac4 (m:Holds) (ks:Int) (l:List Int):List (Int×Int):=l.foldl (fun mm n=>mput eqI mm n (E1 m ks n).n) []
noncomputable def doOf (sp:Spans) (rd:Reads) (ks N i:Int) (x:Ins) (s:AS):AS:=
 match F3 sp rd ks N i (B6 x.from_) s (B6 x.from_) with
 |s1=>match Q9 sp rd ks N i x.to s1 x.to with
  |s2=>⟨s2.holds,s2.cells,s2.ocells,s2.code++[⟨0,0,0,⟨x.op,x.n,x.to.map (fun n=>(E1 s2.holds ks n).n),x.from_.map (getI (ac4 s1.holds ks (B6 x.from_))),x.body⟩⟩]⟩
noncomputable def doOk (sp:Spans) (rd:Reads) (ks N i:Int) (x:Ins) (s:AS):Prop:=
 (∀ k,k<(B6 x.from_).length→(E1 (F3 sp rd ks N i (B6 x.from_) s ((B6 x.from_).take k)).holds ks ((B6 x.from_).getD k 0)).cell=true→aw7 sp rd ks N (F3 sp rd ks N i (B6 x.from_) s ((B6 x.from_).take k)).holds i (B6 x.from_))∧
 (∀ k,k<x.to.length→aw7 sp rd ks N (Q9 sp rd ks N i x.to (F3 sp rd ks N i (B6 x.from_) s (B6 x.from_)) (x.to.take k)).holds (i+1) x.to)
def ag0 (rd:Reads):Prop:=∀ n,(getL rd n).Pairwise (·≤·)
abbrev tysA:List Ty:=[i64,inss,ints,ints,mapS,mapR,mapP,mapI,i64,i64,i64,aS1,aw0]
abbrev objA (j b:Nat):List OPat:=[.box 86 [.d b,.d (b+1),.d (b+2),.d (b+3),.map (j+1),.map (j+2),.map (j+3),.map (j+4),.d (b+8),.d (b+9),.d (b+10),.row (j+5),.row (j+6)],.map (b+4),.map (b+5),.map (b+6),.map (b+7),.row (b+11),.row (b+12)]
noncomputable def cIsNaN:Con RU:=con [one] [i64] [one] [.bool] [false] none fun p=>(false,())
noncomputable def cLess:Con RU:=con [one,one] [i64,i64] [one] [.bool] [false] none fun p=>(decide (p.1<p.2.1),())
noncomputable def cBin:Con RU:=⟨[one,one],[ints,i64],[.d 0,.d 1],[],some fun p=>p.1.Pairwise (·≤·),none,[one,one],[i64],[.d 0,.un],[],fun p=>(((p.1.takeWhile (fun x=>decide (x<p.2.1))).length:Int),()),[],[],[]⟩
noncomputable def lBin (l:List Int) (t:Int):Nat→St RU→Ann RU:=fun _ _=>⟨[],[.slot 7,.slot 8],[i64,i64],fun p=>0≤p.1∧p.1≤p.2.1∧p.2.1≤l.length∧(∀ x∈l.take p.1.toNat,x<t)∧(∀ x∈l.drop p.2.1.toNat,t≤x),fun p=>(p.2.1-p.1).toNat,[]⟩
noncomputable def cSlot:Con RU:=⟨[one,one],i64::tysA,[.ptr 0 0,.d 0],objA 0 1,some fun p=>p.2.2.2.2.2.2.2.2.2.2.1≤64,none,[(true,2)],.bool::i64::tysA,[.d 0,.d 1],objA 0 2,fun p=>((E1 p.2.2.2.2.2.2.2.1 p.2.2.2.2.2.2.2.2.2.2.1 p.1).cell,(E1 p.2.2.2.2.2.2.2.1 p.2.2.2.2.2.2.2.2.2.2.1 p.1).n,p.2),[],[],[]⟩
noncomputable def cf5 (ho:Holds) (ks reg:Int):Nat→St RU→Ann RU:=fun _ _=>⟨[],[.slot 14],[i64],fun p=>0≤p.1∧(p.1≤ks∨p.1=0)∧∀ s∈List.range p.1.toNat,aj9 ho reg s=false,fun p=>ks.toNat-p.1.toNat,[]⟩
noncomputable def cPutA:Con RU:=⟨[one,(true,8)],[i64,i64,i64,i64,i64,ints,ints,inss]++tysA,[.ptr 0 0,.d 0,.d 1,.d 2,.d 3,.d 4,.d 5,.d 6,.d 7],objA 0 8,some fun p=>p.2.2.2.2.2.2.2.2.2.2.2.2.2.2.2.2.2.2.2.1.length≤1000000000,none,[],tysA,[],objA 0 0,
 fun p=>match p with
  |(k,s,c,o,n,t,f,b,a0,a1,a2,a3,sp,rd,ho,ce,op,ks,oc,cd,ou,())=>(a0,a1,a2,a3,sp,rd,ho,ce,op,ks,oc,cd++[⟨k,s,c,⟨o,n,t,f,b⟩⟩],ou,()),[],[],[]⟩
noncomputable def cNext:Con RU:=⟨[one,one,one],i64::i64::tysA,[.ptr 0 0,.d 0,.d 1],objA 0 2,some fun p=>ag0 p.2.2.2.2.2.2.2.1,none,[one],i64::tysA,[.d 0],objA 0 1,fun p=>(aH6 p.2.2.2.2.2.2.2.1 p.2.2.2.1.length p.1 p.2.1,p.2.2),[],[],[]⟩
noncomputable def cBetter:Con RU:=con [(true,3),(true,3)] [i64,i64,i64,i64,i64,i64] [one] [.bool] [false] none fun p=>(at4 ⟨p.1,p.2.1,p.2.2.1⟩ ⟨p.2.2.2.1,p.2.2.2.2.1,p.2.2.2.2.2.1⟩,())
noncomputable def cBest:Con RU:=⟨[(true,1),one],[ci8],[.fn 102,.d 0],[],some fun p=>p.1≠[],none,[(true,3)],[i64,i64,i64],[.d 0,.d 1,.d 2],[],fun p=>((M5 p.1).slot,(M5 p.1).reg,(M5 p.1).next,()),[],[],[]⟩
noncomputable def cf6 (l:List Held):Nat→St RU→Ann RU:=fun _ _=>⟨[],[.slot 14,.box 320 0,.box 320 1,.box 320 2],[i64,i64,i64,i64],fun p=>0≤p.1∧p.1≤l.tail.length∧(⟨p.2.1,p.2.2.1,p.2.2.2.1⟩:Held)=(l.tail.take p.1.toNat).foldl P6 (l.headD held0),fun p=>l.tail.length-p.1.toNat,[]⟩
end Go.Rg
end
section
set_option maxRecDepth 100000
open Go Go.VT
namespace Go.Rg
theorem bW0 (a:Int):vc (EV []) noL Go.Proofs.Tryd.f110 cIsNaN (a,())=((a !=a,())=(false,())):=by kernel_rfl
theorem bN3 (a:Int):vc (EV []) noL Go.Proofs.Tryd.f111 cIsNaN (a,())=((a !=a,())=(false,())):=by kernel_rfl
theorem cf7 (a b:Int):vc (EV [(111,cIsNaN)]) noL Go.Proofs.Tryd.f109 cLess (a,b,())=(
 let e0:Bool:=decide (a<b);
  (false&&!false||e0,())=(e0,())):=by kernel_rfl
theorem ck7 (l:List Int) (t:Int):vc (EV [(109,cLess),(110,cIsNaN)]) (lBin l t) Go.Proofs.Tryd.f107 cBin (l,t,())=(
 let e0:Int:=(↑(List.length l):Int);
 let e1:Int:=(2:Int) ^ (1:Nat);
  Small RU (Sigma.mk (Ty.slice (3:Nat) (Ty.int IntKind.i64)) l)→
  (∃ (p:Int×Int×Unit),
  l=l∧
  t=t∧
  (0:Int)=(0:Int)∧
  false=false∧
  e0=e0∧
  (0:Int)=p.1∧
  e0=p.2.1∧
  (0:Int)≤p.1∧
  p.1≤p.2.1∧p.2.1≤e0∧(∀ (x:Int),List.Mem x (List.take (Int.toNat p.1) l)→x<t)∧∀ (x:Int),List.Mem x (List.drop (Int.toNat p.2.1) l)→t≤x)∧
  ∀ (p:Int×Int×Unit),
 let e0_1:Bool:=decide (List.getD l (Int.toNat (IntKind.wrap IntKind.i64 (Int.fdiv (IntKind.wrap IntKind.u64 (IntKind.wrap IntKind.i64 (p.1+p.2.1))) e1))) (0:Int)<t);
 let e1:Int:=IntKind.wrap IntKind.i64 (Int.fdiv (IntKind.wrap IntKind.u64 (IntKind.wrap IntKind.i64 (p.1+p.2.1))) e1);
 let e2:Bool:=decide (p.1<p.2.1);
 let e3:Int:=p.2.1;
 let e4:Int:=p.1;
  ((0:Int)≤e4∧e4≤e3∧e3≤e0∧(∀ (x:Int),List.Mem x (List.take (Int.toNat e4) l)→x<t)∧∀ (x:Int),List.Mem x (List.drop (Int.toNat e3) l)→t≤x)→
  (e2=true→
  (0:Int)≤(1:Int)∧
  ((0:Int)≤e1∧e1<e0)∧
  ∃ (p':Int×Int×Unit),
  (bif e0_1 then l else l)=l∧
  (bif e0_1 then t else t)=t∧
  (bif e0_1 then (0:Int) else (0:Int))=(0:Int)∧
  (bif e0_1 then false else false)=false∧
  (bif e0_1 then e0 else e0)=e0∧
  (bif e0_1 then IntKind.wrap IntKind.i64 (e1+(1:Int)) else e4)=p'.1∧
  (bif e0_1 then e3 else e1)=p'.2.1∧
  ((0:Int)≤p'.1∧
  p'.1≤p'.2.1∧
  p'.2.1≤e0∧(∀ (x:Int),List.Mem x (List.take (Int.toNat p'.1) l)→x<t)∧∀ (x:Int),List.Mem x (List.drop (Int.toNat p'.2.1) l)→t≤x)∧
  Int.toNat (p'.2.1-p'.1)<Int.toNat (e3-e4))∧
  (e2=false→
  (decide (e4<e0)=true→(0:Int)≤e4∧e4<e0)∧
  (decide (e4<e0)=true→(List.getD l (Int.toNat e4) (0:Int)==t)=false→(0:Int)≤e4∧e4<e0)∧
  (e4,())=((↑(List.length (List.takeWhile (fun (x:den RU.T i64)=>decide (x<t)) l)):Int),()))):=by kernel_rfl
theorem cf8 (reg a0:Int) (a1:List Ins) (a2 a3:List Int) (sp:Spans) (rd:Reads) (ho:Holds) (ce:List (Int×Int)) (op ks oc:Int) (cd:List RIns) (ou:List Place):vc (EV []) (cf5 ho ks reg) Go.Proofs.Tryd.f54 cSlot (reg,a0,a1,a2,a3,sp,rd,ho,ce,op,ks,oc,cd,ou,())=(
 let e0:Int×List Ins×List Int×List Int×List (Int×Span)×List (Int×List Int)×List (Place×Int)×List (Int×Int)×Int×Int×Int×List RIns×List Place×Unit:=
  (a0,a1,a2,a3,sp,rd,ho,ce,op,ks,oc,cd,ou,());
 let e1:Bool×Int×Int×List Ins×List Int×List Int×List (Int×Span)×List (Int×List Int)×List (Place×Int)×List (Int×Int)×Int×Int×Int×List RIns×List Place×Unit:=
  ((E1 ho ks reg).cell,(E1 ho ks reg).n,e0);
  Small RU (Sigma.mk (Ty.slice (52:Nat) (Ty.user (0:Nat))) a1)→
  Small RU (Sigma.mk (Ty.slice (3:Nat) (Ty.int IntKind.i64)) a2)→
  Small RU (Sigma.mk (Ty.slice (3:Nat) (Ty.int IntKind.i64)) a3)→
  Small RU (Sigma.mk (Ty.slice (55:Nat) (Ty.user (1:Nat))) cd)→
  Small RU (Sigma.mk (Ty.slice (59:Nat) (Ty.user (2:Nat))) ou)→
  (∃ (p:Int×Unit),
  reg=reg∧
  ks=ks∧
  (0:Int)=p.1∧
  a0=a0∧
  a1=a1∧
  a2=a2∧
  a3=a3∧
  op=op∧
  ks=ks∧
  oc=oc∧
  sp=sp∧
  rd=rd∧
  ho=ho∧
  ce=ce∧
  cd=cd∧
  ou=ou∧
  false=false∧
  (0:Int)=(0:Int)∧
  (0:Int)≤p.1∧(p.1≤ks∨p.1=(0:Int))∧∀ (s:Nat),List.Mem s (List.range (Int.toNat p.1))→aj9 ho reg s=false)∧
  ∀ (p:Int×Unit),
 let e0_1:Bool:=
  Option.isSome (mget (E7 RU (Ty.user (2:Nat))) ho (Place.mk false p.1))&&Option.getD (mget (E7 RU (Ty.user (2:Nat))) ho (Place.mk false p.1)) (0:Int)==reg;
 let e1_1:Bool:=decide (p.1<ks);
  ((0:Int)≤p.1∧(p.1≤ks∨p.1=(0:Int))∧∀ (s:Nat),List.Mem s (List.range (Int.toNat p.1))→aj9 ho reg s=false)→
  (e1_1=true→
  (e0_1=true→(false,p.1,e0)=e1)∧
  (e0_1=false→
  ∃ (p':Int×Unit),
  reg=reg∧
  ks=ks∧
  IntKind.wrap IntKind.i64 (p.1+(1:Int))=p'.1∧
  a0=a0∧
  a1=a1∧
  a2=a2∧
  a3=a3∧
  op=op∧
  ks=ks∧
  oc=oc∧
  sp=sp∧
  rd=rd∧
  ho=ho∧
  ce=ce∧
  cd=cd∧
  ou=ou∧
  false=false∧
  (0:Int)=(0:Int)∧
  ((0:Int)≤p'.1∧
  (p'.1≤ks∨p'.1=(0:Int))∧∀ (s:Nat),List.Mem s (List.range (Int.toNat p'.1))→aj9 ho reg s=false)∧
  Int.toNat ks-Int.toNat p'.1<Int.toNat ks-Int.toNat p.1))∧
  (e1_1=false→(true,(-1:Int),e0)=e1)):=by kernel_rfl
theorem cf9 (k s c o n:Int) (t f:List Int) (b:List Ins) (a0:Int) (a1:List Ins) (a2 a3:List Int) (sp:Spans) (rd:Reads) (ho:Holds) (ce:List (Int×Int)) (op ks oc:Int) (cd:List RIns) (ou:List Place):vc (EV []) noL Go.Proofs.Tryd.f85 cPutA (k,s,c,o,n,t,f,b,a0,a1,a2,a3,sp,rd,ho,ce,op,ks,oc,cd,ou,())=(
 let e0:List RIns:=[RIns.mk k s c (Ins.mk o n t f b)];
  Small RU (Sigma.mk (Ty.slice (3:Nat) (Ty.int IntKind.i64)) t)→
  Small RU (Sigma.mk (Ty.slice (3:Nat) (Ty.int IntKind.i64)) f)→
  Small RU (Sigma.mk (Ty.slice (52:Nat) (Ty.user (0:Nat))) b)→
  Small RU (Sigma.mk (Ty.slice (52:Nat) (Ty.user (0:Nat))) a1)→
  Small RU (Sigma.mk (Ty.slice (3:Nat) (Ty.int IntKind.i64)) a2)→
  Small RU (Sigma.mk (Ty.slice (3:Nat) (Ty.int IntKind.i64)) a3)→
  Small RU (Sigma.mk (Ty.slice (55:Nat) (Ty.user (1:Nat))) cd)→
  Small RU (Sigma.mk (Ty.slice (59:Nat) (Ty.user (2:Nat))) ou)→
  (List.length cd+List.length e0)*(112:Nat)≤(140737488355328:Nat)∧
  (a0,a1,a2,a3,sp,rd,ho,ce,op,ks,oc,cd++e0,ou,())=(a0,a1,a2,a3,sp,rd,ho,ce,op,ks,oc,cd++e0,ou,())):=by kernel_rfl
theorem cg0 (reg fr a0:Int) (a1:List Ins) (a2 a3:List Int) (sp:Spans) (rd:Reads) (ho:Holds) (ce:List (Int×Int)) (op ks oc:Int) (cd:List RIns) (ou:List Place):vc (EV [(107,cBin)]) noL Go.Proofs.Tryd.f100 cNext (reg,fr,a0,a1,a2,a3,sp,rd,ho,ce,op,ks,oc,cd,ou,())=(
 let e0:Int:=(↑(List.length (List.takeWhile (fun (x:den RU.T i64)=>decide (x<fr)) (Option.getD (mget (fun (x y:Int)=>x==y) rd reg) []))):Int);
 let e1:Int×List Ins×List Int×List Int×List (Int×Span)×List (Int×List Int)×List (Place×Int)×List (Int×Int)×Int×Int×Int×List RIns×List Place×Unit:=
  (a0,a1,a2,a3,sp,rd,ho,ce,op,ks,oc,cd,ou,());
 let e2:Int×Int×List Ins×List Int×List Int×List (Int×Span)×List (Int×List Int)×List (Place×Int)×List (Int×Int)×Int×Int×Int×List RIns×List Place×Unit:=
  (aH6 rd (↑(List.length a1):Int) reg fr,e1);
 let e3:List Int:=Option.getD (mget (fun (x y:Int)=>x==y) rd reg) [];
  Small RU (Sigma.mk (Ty.slice (52:Nat) (Ty.user (0:Nat))) a1)→
  Small RU (Sigma.mk (Ty.slice (3:Nat) (Ty.int IntKind.i64)) a2)→
  Small RU (Sigma.mk (Ty.slice (3:Nat) (Ty.int IntKind.i64)) a3)→
  Small RU (Sigma.mk (Ty.slice (55:Nat) (Ty.user (1:Nat))) cd)→
  Small RU (Sigma.mk (Ty.slice (59:Nat) (Ty.user (2:Nat))) ou)→
  List.Pairwise (fun (x1 x2:den RU.T i64)=>x1≤x2) e3∧
  ((e0==(↑(List.length e3):Int))=true→((↑(List.length a1):Int),e1)=e2)∧
  ((e0==(↑(List.length e3):Int))=false→((0:Int)≤e0∧e0<(↑(List.length e3):Int))∧(List.getD e3 (Int.toNat e0) (0:Int),e1)=e2)):=by kernel_rfl
theorem bN4 (a b c d e f:Int):vc (EV []) noL Go.Proofs.Tryd.f102 cBetter (a,b,c,d,e,f,())=((decide (c >f)||c==f&&decide (b >e),())=(at4 (Held.mk a b c) (Held.mk d e f),())):=by kernel_rfl
theorem cg1 (l:List Held):vc (EV [(102,cBetter)]) (cf6 l) Go.Proofs.Tryd.f101 cBest (l,())=(
 let e0:Int:=(↑(List.length (List.drop (1:Nat) l)):Int);
 let e1:Held:=List.getD l (0:Nat) (Held.mk (0:Int) (0:Int) (0:Int));
 let e2:List Held:=List.drop (1:Nat) l;
 let e3:Value:=Value.func (Fn.func (102:Nat)) #[] #[];
  Small RU (Sigma.mk (Ty.slice (131:Nat) (Ty.user (4:Nat))) l)→
  ((0:Int)≤(0:Int)∧(0:Int)<(↑(List.length l):Int))∧
  ((0:Int)≤(1:Int)∧(1:Int)≤(↑(List.length l):Int))∧
  (∃ (p:Int×Int×Int×Int×Unit),
  e3=e3∧
  l=l∧
  e2=e2∧
  e0=e0∧
  (0:Int)=p.1∧
  e3=e3∧
  (0:Int)=(0:Int)∧
  (0:Int)=(0:Int)∧
  (0:Int)=(0:Int)∧
  e1.slot=p.2.1∧
  e1.reg=p.2.2.1∧
  e1.next=p.2.2.2.1∧
  (0:Int)≤p.1∧
  p.1≤(↑(List.length (List.tail l)):Int)∧
  Held.mk p.2.1 p.2.2.1 p.2.2.2.1=List.foldl P6 (List.headD l held0) (List.take (Int.toNat p.1) (List.tail l)))∧
  ∀ (p:Int×Int×Int×Int×Unit),
 let e0_1:Bool:=
  at4
  (Held.mk (List.getD e2 (Int.toNat p.1) (Held.mk (0:Int) (0:Int) (0:Int))).slot (List.getD e2 (Int.toNat p.1) (Held.mk (0:Int) (0:Int) (0:Int))).reg
  (List.getD e2 (Int.toNat p.1) (Held.mk (0:Int) (0:Int) (0:Int))).next)
  (Held.mk p.2.1 p.2.2.1 p.2.2.2.1);
 let e1:Held:=List.getD e2 (Int.toNat p.1) (Held.mk (0:Int) (0:Int) (0:Int));
 let e2_1:Int:=p.1;
 let e3_1:Int:=p.2.2.2.1;
 let e4:Int:=p.2.2.1;
 let e5:Int:=p.2.1;
 let e6:Bool:=decide (e2_1<e0);
  (0:Int)≤e2_1∧e2_1≤(↑(List.length (List.tail l)):Int)∧Held.mk e5 e4 e3_1=List.foldl P6 (List.headD l held0) (List.take (Int.toNat e2_1) (List.tail l))→
  (e6=true→
  ((0:Int)≤e2_1∧e2_1<e0)∧
  ∃ (p':Int×Int×Int×Int×Unit),
  e3=e3∧
  (bif e0_1 then l else l)=l∧
  (bif e0_1 then e2 else e2)=e2∧
  (bif e0_1 then e0 else e0)=e0∧
  IntKind.wrap IntKind.i64 ((bif e0_1 then e2_1 else e2_1)+(1:Int))=p'.1∧
  e3=e3∧
  (bif e0_1 then (0:Int) else (0:Int))=(0:Int)∧
  (bif e0_1 then (0:Int) else (0:Int))=(0:Int)∧
  (bif e0_1 then (0:Int) else (0:Int))=(0:Int)∧
  (bif e0_1 then e1.slot else e5)=p'.2.1∧
  (bif e0_1 then e1.reg else e4)=p'.2.2.1∧
  (bif e0_1 then e1.next else e3_1)=p'.2.2.2.1∧
  ((0:Int)≤p'.1∧
  p'.1≤(↑(List.length (List.tail l)):Int)∧
  Held.mk p'.2.1 p'.2.2.1 p'.2.2.2.1=List.foldl P6 (List.headD l held0) (List.take (Int.toNat p'.1) (List.tail l)))∧
  List.length (List.tail l)-Int.toNat p'.1<List.length (List.tail l)-Int.toNat e2_1)∧
  (e6=false→(e5,e4,e3_1,())=((M5 l).slot,(M5 l).reg,(M5 l).next,()))):=by kernel_rfl
end Go.Rg
end
section
set_option maxRecDepth 100000
namespace Go.Rg
open Go Go.VT
theorem bm5:C5 prog RG 110 cIsNaN:=D8 B8 (fun _=>noL) (by kernel_rfl) (by kernel_rfl) (by kernel_rfl) fun (a,()) _=>(bW0 a).mpr (by rw [bne_self_eq_false])
theorem be5:C5 prog RG 111 cIsNaN:=D8 B8 (fun _=>noL) (by kernel_rfl) (by kernel_rfl) (by kernel_rfl) fun (a,()) _=>(bN3 a).mpr (by rw [bne_self_eq_false])
theorem bA5:C5 prog RG 109 cLess:=D8 (A5 be5 B8) (fun _=>noL) (by kernel_rfl) (by kernel_rfl) (by kernel_rfl) fun (a,b,()) _=>(cf7 a b).mpr (by dsimp only;rw [Bool.false_and,Bool.false_or])
theorem aU3 {l:List Int} {t:Int} {k:Nat} (hk:k≤l.length) (h1:∀ x∈l.take k,x<t) (h2:∀ x∈l.drop k,t≤x):l.takeWhile (fun x=>decide (x<t))=l.take k:=by
 induction l generalizing k with
 |nil=>simp
 |cons x r ih=>
  cases k with
  |zero=>
   have:=h2 x (by simp)
   rw [List.takeWhile_cons_of_neg (by simp;omega)]
   rfl
  |succ k=>
   have hx:=h1 x (by simp)
   rw [List.takeWhile_cons_of_pos (by simpa using hx),List.take_succ_cons,ih (by simpa using hk) (fun y hy=>h1 y (by simp [hy])) (fun y hy=>h2 y (by simpa using hy))]
theorem be6 {l:List Int} (h:l.Pairwise (·≤·)) {i j:Nat} (hij:i≤j) (hj:j<l.length):l.getD i 0≤l.getD j 0:=by
 rw [List.getD_eq_getElem?_getD,List.getD_eq_getElem?_getD,List.getElem?_eq_getElem (by omega),List.getElem?_eq_getElem hj]
 rcases Nat.lt_or_eq_of_le hij with h1|h1
 ·exact List.pairwise_iff_getElem.1 h i j (by omega) hj h1
 ·subst h1;exact Int.le_refl _
theorem aU4 {l:List Int} {k:Nat} {x:Int} (h:x∈l.take k):∃ i,i<k∧i<l.length∧x=l.getD i 0:=by
 obtain ⟨i,hi,rfl⟩:=List.mem_iff_getElem.1 h
 rw [List.length_take] at hi
 exact ⟨i,by omega,by omega,by rw [List.getElem_take,List.getD_eq_getElem?_getD,List.getElem?_eq_getElem (by omega)];rfl⟩
theorem aU5 {l:List Int} {k:Nat} {x:Int} (h:x∈l.drop k):∃ i,k≤i∧i<l.length∧x=l.getD i 0:=by
 obtain ⟨i,hi,rfl⟩:=List.mem_iff_getElem.1 h
 rw [List.length_drop] at hi
 exact ⟨k+i,by omega,by omega,by rw [List.getElem_drop,List.getD_eq_getElem?_getD,List.getElem?_eq_getElem (by omega)];rfl⟩
theorem ck8 (l:List Int) (t:Int) (hp:l.Pairwise (·≤·)):vc (EV [(109,cLess),(110,cIsNaN)]) (lBin l t) Go.Proofs.Tryd.f107 cBin (l,t,()):=by
 rw [ck7 l t]
 intro e0 e1 hs
 have hl:l.length≤140737488355328:=hs.len
 have he1:e1=2:=rfl
 dsimp only [e0]
 simp only [true_and,and_true,Bool.cond_self,he1]
 clear_value e1
 refine ⟨⟨(0,(l.length:Int),()),rfl,rfl,Int.le_refl _,by dsimp only;omega,Int.le_refl _,fun x hx=>?_,fun x hx=>?_⟩,?_⟩
 ·change x∈l.take 0 at hx;simp at hx
 ·dsimp only at hx;change x∈l.drop (l.length:Int).toNat at hx;simp at hx
 rintro ⟨i,j,⟨⟩⟩ ⟨h0,h1,h2,h3,h4⟩
 dsimp only at h0 h1 h2 h3 h4 ⊢
 have h3:∀ x∈l.take i.toNat,x<t:=h3
 have h4:∀ x∈l.drop j.toNat,t≤x:=h4
 obtain ⟨i,rfl⟩:=Int.eq_ofNat_of_zero_le h0
 obtain ⟨j,rfl⟩:=Int.eq_ofNat_of_zero_le (Int.le_trans h0 h1)
 simp only [Int.toNat_natCast] at h3 h4 ⊢
 refine ⟨fun hlt=>?_,fun hge=>?_⟩
 ·have hlt:(i:Int)<j:=of_decide_eq_true hlt
  have hm:IntKind.i64.wrap (Int.fdiv (IntKind.u64.wrap (IntKind.i64.wrap ((i:Int)+j))) 2)=((i+j) / 2:Nat):=by
   rw [J4 (n:=(i:Int)+j) (by omega) (by omega)]
   have hu:IntKind.u64.wrap ((i:Int)+j)=(i:Int)+j:=by
    simp only [IntKind.wrap,IntKind.bits,IntKind.signed,Bool.false_and,Bool.false_eq_true,if_false]
    omega
   rw [hu,Int.fdiv_eq_ediv_of_nonneg _ (by omega),J4 (by omega) (by omega)]
   omega
  rw [hm]
  have hmid:i≤(i+j) / 2∧(i+j) / 2<j:=by omega
  generalize (i+j) / 2=m at hmid ⊢
  simp only [Int.toNat_natCast]
  refine ⟨by omega,⟨by omega,by omega⟩,?_⟩
  cases hb:decide (l.getD m 0<t) with
  |true=>
   have hb:l.getD m 0<t:=of_decide_eq_true hb
   simp only [cond_true]
   refine ⟨((m+1:Nat),(j:Int),()),B4 (m:=l.length) (by omega) hl,rfl,⟨by omega,by dsimp only;omega,by dsimp only;omega,fun x hx=>?_,fun x hx=>h4 x hx⟩,by dsimp only;omega⟩
   have hx:x∈l.take ((m+1:Nat):Int).toNat:=hx
   rw [Int.toNat_natCast] at hx
   obtain ⟨q,hq1,hq2,rfl⟩:=aU4 hx
   have:=be6 hp (i:=q) (j:=m) (by omega) (by omega)
   omega
  |false=>
   have hb:¬ l.getD m 0<t:=of_decide_eq_false hb
   simp only [cond_false]
   refine ⟨((i:Int),(m:Int),()),rfl,rfl,⟨by omega,by dsimp only;omega,by dsimp only;omega,fun x hx=>h3 x hx,fun x hx=>?_⟩,by dsimp only;omega⟩
   have hx:x∈l.drop ((m:Nat):Int).toNat:=hx
   rw [Int.toNat_natCast] at hx
   obtain ⟨q,hq1,hq2,rfl⟩:=aU5 hx
   have:=be6 hp (i:=m) (j:=q) (by omega) (by omega)
   omega
 ·have hij:i=j:=by have:¬ (i:Int)<j:=of_decide_eq_false hge;omega
  subst hij
  refine ⟨fun q=>⟨h0,of_decide_eq_true q⟩,fun q _=>⟨h0,of_decide_eq_true q⟩,?_⟩
  have:=aU3 (by omega) h3 h4
  have h9:(List.takeWhile (fun (x:den RU.T i64)=>decide (x<t)) l).length=i:=by
   show (List.takeWhile (fun (x:Int)=>decide (x<t)) l).length=i
   rw [this,List.length_take];omega
  rw [h9]
theorem bN5:C5 prog RG 107 cBin:=D8 (A5 bA5 (A5 bm5 B8)) (fun p=>lBin p.1 p.2.1) (by kernel_rfl) (by kernel_rfl) (by kernel_rfl) fun (l,t,()) hp=>ck8 l t hp
theorem aN9 {m:Holds} {reg:Int} {s:Nat}:aj9 m reg s=true↔mget eqP m ⟨false,(s:Int)⟩=some reg:=by simp [aj9]
theorem bA6 {p:Nat→Bool} {n s:Nat} (h1:∀ x∈List.range s,p x=false) (hs:s<n) (h2:p s=true):(List.range n).find? p=some s:=by
 rw [List.find?_range_eq_some]
 exact ⟨h2,by simpa using hs,fun j hj=>by have:=h1 j (by simpa using hj);simp [this]⟩
theorem aH7 {p:Nat→Bool} {n:Nat} (h1:∀ x∈List.range n,p x=false):(List.range n).find? p=none:=by
 rw [List.find?_eq_none]
 intro x hx
 rw [h1 x hx]
 simp
theorem cg2 (reg a0:Int) (a1:List Ins) (a2 a3:List Int) (sp:Spans) (rd:Reads) (ho:Holds) (ce:List (Int×Int)) (op ks oc:Int) (cd:List RIns) (ou:List Place) (hp:ks≤64):vc (EV []) (cf5 ho ks reg) Go.Proofs.Tryd.f54 cSlot (reg,a0,a1,a2,a3,sp,rd,ho,ce,op,ks,oc,cd,ou,()):=by
 rw [cf8 reg a0 a1 a2 a3 sp rd ho ce op ks oc cd ou]
 intro e0 e1 _ _ _ _ _
 have he1:e1=((E1 ho ks reg).cell,(E1 ho ks reg).n,e0):=rfl
 clear_value e1 e0
 simp only [true_and,and_true]
 refine ⟨⟨(0,()),rfl,Int.le_refl _,.inr rfl,fun s hs=>?_⟩,?_⟩
 ·change s∈List.range 0 at hs;simp at hs
 rintro ⟨i,⟨⟩⟩ ⟨h0,h1,h2⟩
 dsimp only at h0 h1 h2 ⊢
 have h2:∀ s∈List.range i.toNat,aj9 ho reg s=false:=h2
 obtain ⟨i,rfl⟩:=Int.eq_ofNat_of_zero_le h0
 simp only [Int.toNat_natCast] at h2 ⊢
 have hb:((mget (E7 RU (Ty.user 2)) ho ⟨false,(i:Int)⟩).isSome&&(mget (E7 RU (Ty.user 2)) ho ⟨false,(i:Int)⟩).getD 0==reg)=aj9 ho reg i:=by
  show ((mget eqP ho ⟨false,(i:Int)⟩).isSome&&(mget eqP ho ⟨false,(i:Int)⟩).getD 0==reg)=decide (mget eqP ho ⟨false,(i:Int)⟩=some reg)
  cases mget eqP ho ⟨false,(i:Int)⟩ with
  |none=>rfl
  |some v=>rw [Bool.eq_iff_iff];simp
 rw [hb]
 refine ⟨fun hlt=>?_,fun hge=>?_⟩
 ·have hlt:(i:Int)<ks:=of_decide_eq_true hlt
  refine ⟨fun q=>?_,fun q=>?_⟩
  ·rw [he1,show E1 ho ks reg=⟨false,(i:Int)⟩ by unfold E1;rw [bA6 h2 (by omega) q]]
  ·refine ⟨((i+1:Nat),()),?_,⟨by omega,.inl (by dsimp only;omega),fun s hs=>?_⟩,by dsimp only;omega⟩
   ·rw [J4 (by omega) (by omega)];rfl
   ·have hs:s∈List.range ((i+1:Nat):Int).toNat:=hs
    rw [Int.toNat_natCast,List.range_succ,List.mem_append] at hs
    rcases hs with hs|hs
    ·exact h2 s hs
    ·simp only [List.mem_singleton] at hs
     rw [hs];exact q
 ·have hge:¬ (i:Int)<ks:=of_decide_eq_false hge
  have hk:List.range ks.toNat=List.range (min i ks.toNat):=by congr 1;omega
  have hn:(List.range ks.toNat).find? (aj9 ho reg)=none:=aH7 (fun x hx=>h2 x (by simp at hx ⊢;omega))
  rw [he1,show E1 ho ks reg=bN2 by unfold E1;rw [hn]]
  rfl
theorem at5:C5 prog RG 54 cSlot:=D8 B8 (fun p=>cf5 p.2.2.2.2.2.2.2.1 p.2.2.2.2.2.2.2.2.2.2.1 p.1) (by kernel_rfl) (by kernel_rfl) (by kernel_rfl) fun (reg,a0,a1,a2,a3,sp,rd,ho,ce,op,ks,oc,cd,ou,()) hp=>cg2 reg a0 a1 a2 a3 sp rd ho ce op ks oc cd ou hp
theorem aO0:C5 prog RG 85 cPutA:=D8 B8 (fun _=>noL) (by kernel_rfl) (by kernel_rfl) (by kernel_rfl) fun (k,s,c,o,n,t,f,b,a0,a1,a2,a3,sp,rd,ho,ce,op,ks,oc,cd,ou,()) hp=>(cf9 k s c o n t f b a0 a1 a2 a3 sp rd ho ce op ks oc cd ou).mpr (by
 have hp:cd.length≤1000000000:=hp
 intro e0 _ _ _ _ _ _ _ _
 exact ⟨by show (cd.length+1)*112≤_;omega,rfl⟩)
theorem be7 {t:Int}:∀ (l:List Int),l.find? (fun x=>decide (t≤x))=l[(l.takeWhile (fun x=>decide (x<t))).length]?
 |[]=>rfl
 |x::r=>by
  by_cases h:x<t
  ·rw [List.find?_cons_of_neg (by simpa using h),List.takeWhile_cons_of_pos (by simpa using h)]
   simp only [List.length_cons,List.getElem?_cons_succ]
   exact be7 r
  ·rw [List.find?_cons_of_pos (by simp;omega),List.takeWhile_cons_of_neg (by simpa using h)]
   rfl
theorem bA7:C5 prog RG 100 cNext:=D8 (A5 bN5 B8) (fun _=>noL) (by kernel_rfl) (by kernel_rfl) (by kernel_rfl) fun (reg,fr,a0,a1,a2,a3,sp,rd,ho,ce,op,ks,oc,cd,ou,()) hp=>(cg0 reg fr a0 a1 a2 a3 sp rd ho ce op ks oc cd ou).mpr (by
 have hp:ag0 rd:=hp
 intro e0 e1 e2 e3 _ _ _ _ _
 have he3:e3=getL rd reg:=rfl
 have he0:e0=((e3.takeWhile (fun x=>decide (x<fr))).length:Int):=rfl
 have he2:e2=(aH6 rd a1.length reg fr,e1):=rfl
 have hN:aH6 rd a1.length reg fr=(e3[(e3.takeWhile (fun x=>decide (x<fr))).length]?).getD a1.length:=by
  rw [←be7];rfl
 have hle:(e3.takeWhile (fun x=>decide (x<fr))).length≤e3.length:=(List.takeWhile_prefix _).length_le
 rw [hN] at he2
 clear_value e2 e1
 refine ⟨hp reg,fun q=>?_,fun q=>?_⟩
 ·rw [he0] at q
  have q:(e3.takeWhile (fun x=>decide (x<fr))).length=e3.length:=by have:=eq_of_beq q;omega
  rw [he2,List.getElem?_eq_none (by omega)]
  rfl
 ·rw [he0] at q ⊢
  have q:¬ (e3.takeWhile (fun x=>decide (x<fr))).length=e3.length:=by have:=beq_eq_false_iff_ne.1 q;omega
  refine ⟨by omega,?_⟩
  rw [he2,Int.toNat_natCast,List.getD_eq_getElem?_getD,List.getElem?_eq_getElem (by omega)]
  rfl)
theorem be8:C5 prog RG 102 cBetter:=D8 B8 (fun _=>noL) (by kernel_rfl) (by kernel_rfl) (by kernel_rfl) fun (a,b,c,d,e,f,()) _=>(bN4 a b c d e f).mpr rfl
theorem cg3 (l:List Held) (hp:l≠[]):vc (EV [(102,cBetter)]) (cf6 l) Go.Proofs.Tryd.f101 cBest (l,()):=by
 rw [cg1 l]
 intro e0 e1 e2 e3 hs
 have hl:l.length≤140737488355328:=hs.len
 have hpos:0<l.length:=by cases l with|nil=>exact absurd rfl hp|cons=>simp
 have he2:e2=l.tail:=List.drop_one
 have hlt:l.tail.length=l.length-1:=by simp
 have he1:e1=l.headD held0:=by
  show l.getD 0 held0=_
  cases l<;>rfl
 have he0:e0=(e2.length:Int):=rfl
 clear_value e0 e1 e2
 subst he0 he1 he2
 dsimp only [e3]
 simp only [true_and,and_true,Bool.cond_self]
 have hd:(⟨0,0,0⟩:Held)=held0:=rfl
 rw [hd]
 refine ⟨by omega,by omega,⟨(0,(l.headD held0).slot,(l.headD held0).reg,(l.headD held0).next,()),rfl,rfl,rfl,rfl,Int.le_refl _,by dsimp only;omega,rfl⟩,?_⟩
 rintro ⟨i,a,b,c,⟨⟩⟩ ⟨h0,h1,h2⟩
 dsimp only at h0 h1 h2 ⊢
 obtain ⟨k,rfl⟩:=Int.eq_ofNat_of_zero_le h0
 simp only [Int.toNat_natCast] at h2 ⊢
 refine ⟨fun hlt2=>?_,fun hge=>?_⟩
 ·have hlt2:(k:Int)<l.tail.length:=of_decide_eq_true hlt2
  have hn:(l.tail.take (k+1)).foldl P6 (l.headD held0)=P6 ⟨a,b,c⟩ (l.tail.getD k held0):=by
   rw [A4 (by omega) held0,List.foldl_append,←h2];rfl
  generalize l.tail.getD k held0=y at hn ⊢
  refine ⟨⟨h0,hlt2⟩,((k+1:Nat),(P6 ⟨a,b,c⟩ y).slot,(P6 ⟨a,b,c⟩ y).reg,(P6 ⟨a,b,c⟩ y).next,()),B4 (m:=l.length) (by omega) hl,?_,?_,?_,⟨by omega,by dsimp only;omega,by dsimp only;rw [Int.toNat_natCast,hn]⟩,by dsimp only;omega⟩
  all_goals
   show (bif at4 ⟨y.slot,y.reg,y.next⟩ ⟨a,b,c⟩ then _ else _)=_
   dsimp only [P6]
   rw [show (⟨y.slot,y.reg,y.next⟩:Held)=y from rfl]
   cases at4 y ⟨a,b,c⟩<;>rfl
 ·have hk:k=l.tail.length:=by have:¬ (k:Int)<l.tail.length:=of_decide_eq_false hge;omega
  subst hk
  rw [List.take_length] at h2
  rw [M5,←h2]
theorem bA8:C5 prog RG 101 cBest:=D8 (A5 be8 B8) (fun p=>cf6 p.1) (by kernel_rfl) (by kernel_rfl) (by kernel_rfl) fun (l,()) hp=>cg3 l hp
noncomputable def cRoom:Con RU:=⟨[one,one,one],i64::ints::tysA,[.ptr 0 0,.d 0,.d 1],objA 0 2,some fun p=>match p with
  |(pl,st,a0,a1,a2,a3,sp,rd,ho,ce,op,ks,oc,cd,ou,())=>ag0 rd∧aw7 sp rd ks a1.length ho pl st∧ks≤64∧0≤oc∧oc≤1000000000∧cd.length≤1000000000,
 none,[one],i64::tysA,[.d 0],objA 0 1,fun p=>match p with
  |(pl,st,a0,a1,a2,a3,sp,rd,ho,ce,op,ks,oc,cd,ou,())=>((G8 sp rd ks a1.length ⟨ho,ce,oc,cd⟩ pl st).1,a0,a1,a2,a3,sp,rd,(G8 sp rd ks a1.length ⟨ho,ce,oc,cd⟩ pl st).2.holds,(G8 sp rd ks a1.length ⟨ho,ce,oc,cd⟩ pl st).2.cells,op,ks,(G8 sp rd ks a1.length ⟨ho,ce,oc,cd⟩ pl st).2.ocells,(G8 sp rd ks a1.length ⟨ho,ce,oc,cd⟩ pl st).2.code,ou,()),[],[],[]⟩
noncomputable def cg4 (sp:Spans) (rd:Reads) (ks N:Int) (ho:Holds) (pl:Int) (st:List Int):Nat→St RU→Ann RU:=fun _ _=>⟨[8],[.slot 22,.row 900001],[i64,ci8],fun p=>0≤p.1∧(p.1≤ks∨p.1=0)∧C9 sp rd N ho pl st (List.range p.1.toNat) []=(none,p.2.1),fun p=>ks.toNat-p.1.toNat,[(.slot 8,900001,131,.user 4)]⟩
noncomputable def cGetA:Con RU:=⟨[one,one],i64::tysA,[.d 0,.ptr 0 0],.box 79 [.ptr 1 0]::objA 1 1,some fun p=>p.2.2.2.2.2.2.2.2.2.2.1≤64,none,[one],i64::tysA,[.d 0],.box 79 [.ptr 1 0]::objA 1 1,fun p=>((E1 p.2.2.2.2.2.2.2.1 p.2.2.2.2.2.2.2.2.2.2.1 p.1).n,p.2),[0],[],[]⟩
noncomputable def cCalledA:Con RU:=⟨[(true,5),one,one],aE9++tysA++[mapI],[.d 0,.d 1,.d 2,.d 3,.d 4,.clo 86 [0],.clo 87 [8]],.box 79 [.ptr 1 0]::objA 1 5++[.box 84 [.map 9],.map 18],some fun p=>match p with
  |(x1,x2,x3,x4,x5,a0,a1,a2,a3,sp,rd,ho,ce,op,ks,oc,cd,ou,sl,())=>V6 x3 x4 x5=true∧ks≤64,none,
 [(true,5)],aE9++tysA++[mapI],[.d 0,.d 1,.d 2,.d 3,.d 4],.box 79 [.ptr 1 0]::objA 1 5++[.box 84 [.map 9],.map 18],
 fun p=>match p with
  |(x1,x2,x3,x4,x5,a0,a1,a2,a3,sp,rd,ho,ce,op,ks,oc,cd,ou,sl,())=>(x1,x2,x3.map (fun n=>(E1 ho ks n).n),x4.map (getI sl),x5,a0,a1,a2,a3,sp,rd,ho,ce,op,ks,oc,cd,ou,sl,()),[0,8],[],[]⟩
noncomputable def aU6 (x1 x2:Int) (x3 x4:List Int) (x5:List Ins) (ho:Holds) (ks:Int) (sl:List (Int×Int)):Nat→St RU→Ann RU:=fun k s=>match k with
 |0=>⟨[],[.slot 20,.row 896],[i64,inss],fun p=>0≤p.1∧p.1≤x4.length∧p.2.1=[⟨x1,x2,x3,(x4.take p.1.toNat).map (getI sl)++x4.drop p.1.toNat,x5⟩],fun p=>x4.length-p.1.toNat,[]⟩
 |_=>⟨[],[.slot 36,.row 896],[i64,inss],fun p=>0≤p.1∧p.1≤x3.length∧p.2.1=[⟨x1,x2,(x3.take p.1.toNat).map (fun n=>(E1 ho ks n).n)++x3.drop p.1.toNat,x4.map (getI sl),x5⟩],fun p=>x3.length-p.1.toNat,[]⟩
noncomputable def cReads:Con RU:=⟨[(true,5)],aE9,[.d 0,.d 1,.d 2,.d 3,.d 4],[],none,none,[one],aE9,[.clo 83 [0]],[.box 52 [.d 0,.d 1,.d 2,.d 3,.d 4]],fun p=>p,[],[],[]⟩
noncomputable def aq6:Con RU:=⟨[one,one],[i64,i64,ints],[.d 0,.yld 0],[.loop 1,.box 23 [.row 2],.row 2],some fun p=>p.2.1=0∧p.2.2.1.length≤17592186044400,none,[one],[.bool,i64,ints],[.d 0],[.loop 1,.box 23 [.row 2],.row 2],fun p=>(true,0,p.2.2.1++[p.1],()),[],[(0,0),(1,1)],[(1,1000001)]⟩
noncomputable def aU7:Con RU:=⟨[one,one],[i64,ints,i64,i64,ints,ints,inss],[.yld 0,.ptr 3 0],[.loop 0,.box 23 [.row 2],.row 1,.box 52 [.d 2,.d 3,.d 4,.d 5,.d 6]],some fun p=>p.1=0∧p.2.1.length+p.2.2.2.2.2.1.length≤17592186044400,none,[],[i64,ints],[],[.loop 0,.box 23 [.row 2],.row 1,.box 52 [.un,.un,.un,.un,.un]],
 fun p=>(0,p.2.1++B6 p.2.2.2.2.2.1,()),[],[(0,0),(1,1)],[(1,384)]⟩
noncomputable def itDo:FuncId→List (Con RU×Con RU×List (Nat×Nat)):=fun f=>bif Nat.beq f 83 then [(aU7,aq6,[(0,0),(1,1),(2,2)])] else []
noncomputable def bm6 (fr:List Int) (r0:List Int):Nat→St RU→Ann RU:=fun _ _=>⟨[],[.slot 8,.row 1000000,.row 1000002],[i64,i64,ints],fun p=>0≤p.1∧p.1≤fr.length∧p.2.1=0∧p.2.2.1=r0++B6 (fr.take p.1.toNat),fun p=>fr.length-p.1.toNat,[]⟩
noncomputable def cDo:Con RU:=⟨[one,one,(true,5)],i64::aE9++tysA,[.ptr 0 0,.d 0,.d 1,.d 2,.d 3,.d 4,.d 5],objA 0 6,some fun p=>match p with
  |(i,x1,x2,x3,x4,x5,a0,a1,a2,a3,sp,rd,ho,ce,op,ks,oc,cd,ou,())=>V6 x3 x4 x5=true∧x4.length≤17592186044400∧(B6 x4).length≤64∧x3.length≤64∧ag0 rd∧doOk sp rd ks a1.length i ⟨x1,x2,x3,x4,x5⟩ ⟨ho,ce,oc,cd⟩∧ks≤64∧0≤i∧i≤1000000∧0≤oc∧oc≤100000000∧cd.length≤100000000,
 none,[],tysA,[],objA 0 0,fun p=>match p with
  |(i,x1,x2,x3,x4,x5,a0,a1,a2,a3,sp,rd,ho,ce,op,ks,oc,cd,ou,())=>(a0,a1,a2,a3,sp,rd,(doOf sp rd ks a1.length i ⟨x1,x2,x3,x4,x5⟩ ⟨ho,ce,oc,cd⟩).holds,(doOf sp rd ks a1.length i ⟨x1,x2,x3,x4,x5⟩ ⟨ho,ce,oc,cd⟩).cells,op,ks,(doOf sp rd ks a1.length i ⟨x1,x2,x3,x4,x5⟩ ⟨ho,ce,oc,cd⟩).ocells,(doOf sp rd ks a1.length i ⟨x1,x2,x3,x4,x5⟩ ⟨ho,ce,oc,cd⟩).code,ou,()),[],[],[]⟩
noncomputable def lDo (sp:Spans) (rd:Reads) (ks N i:Int) (x3 x4:List Int) (s0:AS):Nat→St RU→Ann RU:=fun k s=>match k with
 |0=>⟨[],[],[],fun _=>False,fun _=>0,[(.box 384 0,900001,3,i64)]⟩
 |1=>⟨[],[.slot 27,.row 1000003,.row 1000004,.box 1000000 10,.row 1000005],[i64,mapP,mapI,i64,aS1],fun p=>0≤p.1∧p.1≤(B6 x4).length∧F3 sp rd ks N i (B6 x4) s0 ((B6 x4).take p.1.toNat)=⟨p.2.1,p.2.2.1,p.2.2.2.1,p.2.2.2.2.1⟩,fun p=>(B6 x4).length-p.1.toNat,[(.cell 384 0,0,3,i64),(.row 25,0,3,i64)]⟩
 |2=>⟨[],[.slot 61,.row 3712],[i64,mapI],fun p=>0≤p.1∧p.1≤(B6 x4).length∧p.2.1=ac4 (F3 sp rd ks N i (B6 x4) s0 (B6 x4)).holds ks ((B6 x4).take p.1.toNat),fun p=>(B6 x4).length-p.1.toNat,[]⟩
 |_=>⟨[],[.slot 75,.row 1000003,.row 1000004,.box 1000000 10,.row 1000005],[i64,mapP,mapI,i64,aS1],fun p=>0≤p.1∧p.1≤x3.length∧Q9 sp rd ks N i x3 (F3 sp rd ks N i (B6 x4) s0 (B6 x4)) (x3.take p.1.toNat)=⟨p.2.1,p.2.2.1,p.2.2.2.1,p.2.2.2.2.1⟩,fun p=>x3.length-p.1.toNat,[]⟩
end Go.Rg
end
section
set_option maxRecDepth 100000
open Go Go.VT
namespace Go.Rg
theorem cg5 (pl:Int) (st:List Int) (a0:Int) (a1:List Ins) (a2 a3:List Int) (sp:Spans) (rd:Reads) (ho:Holds) (ce:List (Int×Int)) (op ks oc:Int) (cd:List RIns) (ou:List Place):vc (EV [(100,cNext),(61,cContains),(69,cAt),(101,cBest),(85,cPutA)]) (cg4 sp rd ks a1.length ho pl st) Go.Proofs.Tryd.f84 cRoom (pl,st,a0,a1,a2,a3,sp,rd,ho,ce,op,ks,oc,cd,ou,())=(
 let e0:Int×Int×List Ins×List Int×List Int×List (Int×Span)×List (Int×List Int)×List (Place×Int)×List (Int×Int)×Int×Int×Int×List RIns×List Place×Unit:=
  ((G8 sp rd ks (↑(List.length a1):Int) (AS.mk ho ce oc cd) pl st).1,a0,a1,a2,a3,sp,rd,(G8 sp rd ks (↑(List.length a1):Int) (AS.mk ho ce oc cd) pl st).2.holds,
  (G8 sp rd ks (↑(List.length a1):Int) (AS.mk ho ce oc cd) pl st).2.cells,op,ks,(G8 sp rd ks (↑(List.length a1):Int) (AS.mk ho ce oc cd) pl st).2.ocells,
  (G8 sp rd ks (↑(List.length a1):Int) (AS.mk ho ce oc cd) pl st).2.code,ou,());
 let e1:Int×List Ins×List Int×List Int×List (Int×Span)×List (Int×List Int)×List (Place×Int)×List (Int×Int)×Int×Int×Int×List RIns×List Place×Unit:=
  (a0,a1,a2,a3,sp,rd,ho,ce,op,ks,oc,cd,ou,());
  Small RU (Sigma.mk (Ty.slice (3:Nat) (Ty.int IntKind.i64)) st)→
  Small RU (Sigma.mk (Ty.slice (52:Nat) (Ty.user (0:Nat))) a1)→
  Small RU (Sigma.mk (Ty.slice (3:Nat) (Ty.int IntKind.i64)) a2)→
  Small RU (Sigma.mk (Ty.slice (3:Nat) (Ty.int IntKind.i64)) a3)→
  Small RU (Sigma.mk (Ty.slice (55:Nat) (Ty.user (1:Nat))) cd)→
  Small RU (Sigma.mk (Ty.slice (59:Nat) (Ty.user (2:Nat))) ou)→
  (∃ (p:Int×List Held×Unit),
  pl=pl∧
  st=st∧
  ks=ks∧
  (0:Int)=p.1∧
  a0=a0∧
  a1=a1∧
  a2=a2∧
  a3=a3∧
  op=op∧
  ks=ks∧
  oc=oc∧
  sp=sp∧
  rd=rd∧
  ho=ho∧
  ce=ce∧
  cd=cd∧
  ou=ou∧
  []=p.2.1∧
  (0:Int)≤p.1∧
  (p.1≤ks∨p.1=(0:Int))∧C9 sp rd (↑(List.length a1):Int) ho pl st (List.range (Int.toNat p.1)) []=(none,p.2.1))∧
  ∀ (p:Int×List Held×Unit),
 let e0_1:Bool:=!Option.isSome (mget (fun (x y:Int)=>x==y) ce (M5 p.2.1).reg);
 let e1_1:Bool:=
  !P7
  (Option.getD (mget (fun (x y:Int)=>x==y) sp (Option.getD (mget (E7 RU (Ty.user (2:Nat))) ho (Place.mk false p.1)) (0:Int))) (Span.mk (0:Int) (0:Int))).first
  (Option.getD (mget (fun (x y:Int)=>x==y) sp (Option.getD (mget (E7 RU (Ty.user (2:Nat))) ho (Place.mk false p.1)) (0:Int))) (Span.mk (0:Int) (0:Int))).last pl;
 let e2:List Held:=p.2.1;
 let e3:List Held:=
  [Held.mk p.1 (Option.getD (mget (E7 RU (Ty.user (2:Nat))) ho (Place.mk false p.1)) (0:Int))
  (aH6 rd (↑(List.length a1):Int) (Option.getD (mget (E7 RU (Ty.user (2:Nat))) ho (Place.mk false p.1)) (0:Int)) pl)];
 let e4:Int:=p.1;
 let e5:Bool:=List.contains st (Option.getD (mget (E7 RU (Ty.user (2:Nat))) ho (Place.mk false e4)) (0:Int));
 let e6:Bool:=decide (e4<ks);
 let e7:Bool:=!Option.isSome (mget (E7 RU (Ty.user (2:Nat))) ho (Place.mk false e4));
  (0:Int)≤e4∧(e4≤ks∨e4=(0:Int))∧C9 sp rd (↑(List.length a1):Int) ho pl st (List.range (Int.toNat e4)) []=(none,e2)→
  (e6=true→
  (e7=true→(e4,e1)=e0)∧
  (e7=false→
  (e5=true→
  ∃ (p':Int×List Held×Unit),
  pl=pl∧
  st=st∧
  ks=ks∧
  IntKind.wrap IntKind.i64 (e4+(1:Int))=p'.1∧
  a0=a0∧
  a1=a1∧
  a2=a2∧
  a3=a3∧
  op=op∧
  ks=ks∧
  oc=oc∧
  sp=sp∧
  rd=rd∧
  ho=ho∧
  ce=ce∧
  cd=cd∧
  ou=ou∧
  e2=p'.2.1∧
  ((0:Int)≤p'.1∧
  (p'.1≤ks∨p'.1=(0:Int))∧
  C9 sp rd (↑(List.length a1):Int) ho pl st (List.range (Int.toNat p'.1)) []=(none,p'.2.1))∧
  Int.toNat ks-Int.toNat p'.1<Int.toNat ks-Int.toNat e4)∧
  (e5=false→
  (e1_1=true→(e4,e1)=e0)∧
  (e1_1=false→
  (∀ (n:Int),List.Pairwise (fun (x1 x2:Int)=>x1≤x2) (getL rd n))∧
  (List.length e2+List.length e3)*(24:Nat)≤(140737488355328:Nat)∧
  ∃ (p':Int×List Held×Unit),
  pl=pl∧
  st=st∧
  ks=ks∧
  IntKind.wrap IntKind.i64 (e4+(1:Int))=p'.1∧
  a0=a0∧
  a1=a1∧
  a2=a2∧
  a3=a3∧
  op=op∧
  ks=ks∧
  oc=oc∧
  sp=sp∧
  rd=rd∧
  ho=ho∧
  ce=ce∧
  cd=cd∧
  ou=ou∧
  e2++e3=p'.2.1∧
  ((0:Int)≤p'.1∧
  (p'.1≤ks∨p'.1=(0:Int))∧
  C9 sp rd (↑(List.length a1):Int) ho pl st (List.range (Int.toNat p'.1)) []=(none,p'.2.1))∧
  Int.toNat ks-Int.toNat p'.1<Int.toNat ks-Int.toNat e4))))∧
  (e6=false→
  e2≠[]∧
  (e0_1=true→List.length cd≤(1000000000:Nat))∧
  (bif e0_1 then (M5 e2).slot else (M5 e2).slot,bif e0_1 then a0 else a0,bif e0_1 then a1 else a1,bif e0_1 then a2 else a2,bif e0_1 then a3 else a3,
  bif e0_1 then sp else sp,bif e0_1 then rd else rd,bif e0_1 then ho else ho,bif e0_1 then mput (fun (x y:Int)=>x==y) ce (M5 e2).reg oc else ce,
  bif e0_1 then op else op,bif e0_1 then ks else ks,bif e0_1 then IntKind.wrap IntKind.i64 (oc+(1:Int)) else oc,
  bif e0_1 then cd++[RIns.mk (2:Int) (M5 e2).slot oc (Ins.mk (0:Int) (0:Int) [] [] [])] else cd,bif e0_1 then ou else ou,())=
  e0)):=by kernel_rfl
theorem cg6 (n a0:Int) (a1:List Ins) (a2 a3:List Int) (sp:Spans) (rd:Reads) (ho:Holds) (ce:List (Int×Int)) (op ks oc:Int) (cd:List RIns) (ou:List Place):vc (EV [(54,cSlot)]) noL Go.Proofs.Tryd.f86 cGetA (n,a0,a1,a2,a3,sp,rd,ho,ce,op,ks,oc,cd,ou,())=(
 let e0:Int×Int×List Ins×List Int×List Int×List (Int×Span)×List (Int×List Int)×List (Place×Int)×List (Int×Int)×Int×Int×Int×List RIns×List Place×Unit:=
  ((E1 ho ks n).n,a0,a1,a2,a3,sp,rd,ho,ce,op,ks,oc,cd,ou,());
  Small RU (Sigma.mk (Ty.slice (52:Nat) (Ty.user (0:Nat))) a1)→
  Small RU (Sigma.mk (Ty.slice (3:Nat) (Ty.int IntKind.i64)) a2)→
  Small RU (Sigma.mk (Ty.slice (3:Nat) (Ty.int IntKind.i64)) a3)→
  Small RU (Sigma.mk (Ty.slice (55:Nat) (Ty.user (1:Nat))) cd)→Small RU (Sigma.mk (Ty.slice (59:Nat) (Ty.user (2:Nat))) ou)→ks≤(64:Int)∧e0=e0):=by kernel_rfl
theorem cg7 (n:Int) (m:List (Int×Int)):vc (EV []) noL Go.Proofs.Tryd.f87 cOld (n,m,())=((Option.getD (mget (fun (x y:Int)=>x==y) m n) (0:Int),m,())=(getI m n,m,())):=by kernel_rfl
theorem bA9 (x1 x2:Int) (x3 x4:List Int) (x5:List Ins) (a0:Int) (a1:List Ins) (a2 a3:List Int) (sp:Spans) (rd:Reads) (ho:Holds) (ce:List (Int×Int)) (op ks oc:Int) (cd:List RIns) (ou:List Place) (sl:List (Int×Int)):vc (EV [(96,cBody),(86,cGetA),(87,cOld)]) (aU6 x1 x2 x3 x4 x5 ho ks sl) Go.Proofs.Tryd.f73 cCalledA (x1,x2,x3,x4,x5,a0,a1,a2,a3,sp,rd,ho,ce,op,ks,oc,cd,ou,sl,())=(
 let e0:
  List Ins×
  Int×List Ins×List Int×List Int×List (Int×Span)×List (Int×List Int)×List (Place×Int)×List (Int×Int)×Int×Int×Int×List RIns×List Place×List (Int×Int)×Unit:=
  (x5,a0,a1,a2,a3,sp,rd,ho,ce,op,ks,oc,cd,ou,sl,());
 let e1:Ins:=Ins.mk (0:Int) (0:Int) [] [] [];
 let e2:List Ins:=[Ins.mk x1 x2 x3 x4 x5];
 let e3:Int:=(↑(List.length x4):Int);
  Small RU (Sigma.mk (Ty.slice (3:Nat) (Ty.int IntKind.i64)) x3)→
  Small RU (Sigma.mk (Ty.slice (3:Nat) (Ty.int IntKind.i64)) x4)→
  Small RU (Sigma.mk (Ty.slice (52:Nat) (Ty.user (0:Nat))) x5)→
  Small RU (Sigma.mk (Ty.slice (52:Nat) (Ty.user (0:Nat))) a1)→
  Small RU (Sigma.mk (Ty.slice (3:Nat) (Ty.int IntKind.i64)) a2)→
  Small RU (Sigma.mk (Ty.slice (3:Nat) (Ty.int IntKind.i64)) a3)→
  Small RU (Sigma.mk (Ty.slice (55:Nat) (Ty.user (1:Nat))) cd)→
  Small RU (Sigma.mk (Ty.slice (59:Nat) (Ty.user (2:Nat))) ou)→
  (List.length e2≤(1599289640354:Nat)∧H5 e2=true)∧
  ((0:Int)≤(0:Int)∧(0:Int)<(↑(List.length e2):Int))∧
  (∃ (p:Int×List Ins×Unit),
  x1=x1∧
  x2=x2∧
  x3=x3∧
  x4=x4∧
  x5=x5∧
  (0:Int)=(0:Int)∧
  e3=e3∧
  (0:Int)=p.1∧
  a0=a0∧
  a1=a1∧
  a2=a2∧
  a3=a3∧
  op=op∧
  ks=ks∧
  oc=oc∧
  sp=sp∧
  rd=rd∧
  ho=ho∧
  ce=ce∧
  cd=cd∧
  ou=ou∧
  sl=sl∧
  x1=x1∧
  x2=x2∧
  x3=x3∧
  x4=x4∧
  x5=x5∧
  (0:Int)=(0:Int)∧
  (0:Int)=(0:Int)∧
  e2=e2∧
  e2=p.2.1∧
  x1=x1∧
  x2=x2∧
  (0:Int)=(0:Int)∧
  (0:Int)=(0:Int)∧
  x5=x5∧
  (0:Int)≤p.1∧
  p.1≤e3∧
  p.2.1=
  [Ins.mk x1 x2 x3
  (List.map (getI sl) (List.take (Int.toNat p.1) x4)++List.drop (Int.toNat p.1) x4) x5])∧
  ∀ (p:Int×List Ins×Unit),
 let e0_1:Ins:=List.getD p.2.1 (0:Nat) e1;
 let e1_1:Bool:=decide (p.1<e3);
 let e2_1:Int:=p.1;
 let e3_1:List Ins:=p.2.1;
 let e4:Int:=(↑(List.length e0_1.to):Int);
  (0:Int)≤e2_1∧e2_1≤e3∧e3_1=[Ins.mk x1 x2 x3 (List.map (getI sl) (List.take (Int.toNat e2_1) x4)++List.drop (Int.toNat e2_1) x4) x5]→
  (e1_1=true→
  ((0:Int)≤e2_1∧e2_1<(↑(List.length e0_1.from_):Int))∧
  (True∧sl=sl∧True)∧
  ((0:Int)≤e2_1∧e2_1<(↑(List.length e0_1.from_):Int))∧
  ∃ (p':Int×List Ins×Unit),
  x1=x1∧
  x2=x2∧
  x3=x3∧
  x4=x4∧
  x5=x5∧
  (0:Int)=(0:Int)∧
  e3=e3∧
  IntKind.wrap IntKind.i64 (e2_1+(1:Int))=p'.1∧
  a0=a0∧
  a1=a1∧
  a2=a2∧
  a3=a3∧
  op=op∧
  ks=ks∧
  oc=oc∧
  sp=sp∧
  rd=rd∧
  ho=ho∧
  ce=ce∧
  cd=cd∧
  ou=ou∧
  sl=sl∧
  x1=x1∧
  x2=x2∧
  x3=x3∧
  x4=x4∧
  x5=x5∧
  (0:Int)=(0:Int)∧
  (0:Int)=(0:Int)∧
  e2=e2∧
  List.set e3_1 (0:Nat)
  (Ins.mk e0_1.op e0_1.n e0_1.to
  (List.set e0_1.from_ (Int.toNat e2_1)
  (getI sl (List.getD e0_1.from_ (Int.toNat e2_1) (0:Int))))
  e0_1.body)=
  p'.2.1∧
  x1=x1∧
  x2=x2∧
  (0:Int)=(0:Int)∧
  (0:Int)=(0:Int)∧
  x5=x5∧
  ((0:Int)≤p'.1∧
  p'.1≤e3∧
  p'.2.1=
  [Ins.mk x1 x2 x3
  (List.map (getI sl) (List.take (Int.toNat p'.1) x4)++
  List.drop (Int.toNat p'.1) x4)
  x5])∧
  List.length x4-Int.toNat p'.1<List.length x4-Int.toNat e2_1)∧
  (e1_1=false→
  (∃ (p:Int×List Ins×Unit),
  x1=x1∧
  x2=x2∧
  x3=x3∧
  x4=x4∧
  x5=x5∧
  (0:Int)=(0:Int)∧
  e3=e3∧
  e2_1=e2_1∧
  e1_1=e1_1∧
  (0:Int)=(0:Int)∧
  e4=e4∧
  (0:Int)=p.1∧
  a0=a0∧
  a1=a1∧
  a2=a2∧
  a3=a3∧
  op=op∧
  ks=ks∧
  oc=oc∧
  sp=sp∧
  rd=rd∧
  ho=ho∧
  ce=ce∧
  cd=cd∧
  ou=ou∧
  sl=sl∧
  x1=x1∧
  x2=x2∧
  x3=x3∧
  x4=x4∧
  x5=x5∧
  (0:Int)=(0:Int)∧
  (0:Int)=(0:Int)∧
  e2=e2∧
  e3_1=p.2.1∧
  x1=x1∧
  x2=x2∧
  (0:Int)=(0:Int)∧
  (0:Int)=(0:Int)∧
  x5=x5∧
  (0:Int)≤p.1∧
  p.1≤(↑(List.length x3):Int)∧
  p.2.1=
  [Ins.mk x1 x2
  (List.map (fun (n:Int)=>(E1 ho ks n).n)
  (List.take (Int.toNat p.1) x3)++
  List.drop (Int.toNat p.1) x3)
  (List.map (getI sl) x4) x5])∧
  ∀ (p:Int×List Ins×Unit),
 let e0_2:Ins:=List.getD p.2.1 (0:Nat) e1;
 let e1:Int:=p.1;
 let e2_2:Bool:=decide (e1<e4);
 let e3_2:List Ins:=p.2.1;
  (0:Int)≤e1∧
  e1≤(↑(List.length x3):Int)∧
  e3_2=[Ins.mk x1 x2 (List.map (fun (n:Int)=>(E1 ho ks n).n) (List.take (Int.toNat e1) x3)++List.drop (Int.toNat e1) x3) (List.map (getI sl) x4) x5]→
  (e2_2=true→
  ((0:Int)≤e1∧e1<(↑(List.length e0_2.to):Int))∧
  (ks≤(64:Int)∧True)∧
  ((0:Int)≤e1∧e1<(↑(List.length e0_2.to):Int))∧
  ∃ (p':Int×List Ins×Unit),
  x1=x1∧
  x2=x2∧
  x3=x3∧
  x4=x4∧
  x5=x5∧
  (0:Int)=(0:Int)∧
  e3=e3∧
  e2_1=e2_1∧
  e1_1=e1_1∧
  (0:Int)=(0:Int)∧
  e4=e4∧
  IntKind.wrap IntKind.i64 (e1+(1:Int))=p'.1∧
  a0=a0∧
  a1=a1∧
  a2=a2∧
  a3=a3∧
  op=op∧
  ks=ks∧
  oc=oc∧
  sp=sp∧
  rd=rd∧
  ho=ho∧
  ce=ce∧
  cd=cd∧
  ou=ou∧
  sl=sl∧
  x1=x1∧
  x2=x2∧
  x3=x3∧
  x4=x4∧
  x5=x5∧
  (0:Int)=(0:Int)∧
  (0:Int)=(0:Int)∧
  e2=e2∧
  List.set e3_2 (0:Nat)
  (Ins.mk e0_2.op e0_2.n
  (List.set e0_2.to (Int.toNat e1)
  (E1 ho ks (List.getD e0_2.to (Int.toNat e1) (0:Int))).n)
  e0_2.from_ e0_2.body)=
  p'.2.1∧
  x1=x1∧
  x2=x2∧
  (0:Int)=(0:Int)∧
  (0:Int)=(0:Int)∧
  x5=x5∧
  ((0:Int)≤p'.1∧
  p'.1≤(↑(List.length x3):Int)∧
  p'.2.1=
  [Ins.mk x1 x2
  (List.map (fun (n:Int)=>(E1 ho ks n).n)
  (List.take (Int.toNat p'.1) x3)++
  List.drop (Int.toNat p'.1) x3)
  (List.map (getI sl) x4) x5])∧
  List.length x3-Int.toNat p'.1<List.length x3-Int.toNat e1)∧
  (e2_2=false→(x1,x2,e0_2.to,e0_2.from_,e0)=(x1,x2,List.map (fun (n:Int)=>(E1 ho ks n).n) x3,List.map (getI sl) x4,e0)))):=by kernel_rfl
theorem bW1 (x1 x2:Int) (x3 x4:List Int) (x5:List Ins):vc (EV []) noL Go.Proofs.Tryd.f52 cReads (x1,x2,x3,x4,x5,())=(
 let e0:Int×Int×List Int×List Int×List Ins×Unit:=(x1,x2,x3,x4,x5,());
  Small RU (Sigma.mk (Ty.slice (3:Nat) (Ty.int IntKind.i64)) x3)→
  Small RU (Sigma.mk (Ty.slice (3:Nat) (Ty.int IntKind.i64)) x4)→Small RU (Sigma.mk (Ty.slice (52:Nat) (Ty.user (0:Nat))) x5)→e0=e0):=by kernel_rfl
theorem bN6 (st:Int) (r0:List Int) (x1 x2:Int) (x3 x4:List Int) (x5:List Ins):vc (EVy [(0,0),(1,1)] (some aq6) [(61,cContains)]) (bm6 x4 r0) Go.Proofs.Tryd.f83 aU7 (st,r0,x1,x2,x3,x4,x5,())=(
 let e0:Int×List Int×Unit:=((0:Int),r0++B6 x4,());
 let e1:Int:=(↑(List.length x4):Int);
  Small RU (Sigma.mk (Ty.slice (3:Nat) (Ty.int IntKind.i64)) r0)→
  Small RU (Sigma.mk (Ty.slice (3:Nat) (Ty.int IntKind.i64)) x3)→
  Small RU (Sigma.mk (Ty.slice (3:Nat) (Ty.int IntKind.i64)) x4)→
  Small RU (Sigma.mk (Ty.slice (52:Nat) (Ty.user (0:Nat))) x5)→
  (∃ (p:Int×Int×List Int×Unit),
  x4=x4∧
  e1=e1∧
  (0:Int)=p.1∧
  st=p.2.1∧
  r0=p.2.2.1∧
  x1=x1∧x2=x2∧x3=x3∧x4=x4∧x5=x5∧(0:Int)≤p.1∧p.1≤e1∧p.2.1=(0:Int)∧p.2.2.1=r0++B6 (List.take (Int.toNat p.1) x4))∧
  ∀ (p:Int×Int×List Int×Unit),
 let e0_1:List Int:=p.2.2.1;
 let e1_1:List Int:=e0_1++[List.getD x4 (Int.toNat p.1) (0:Int)];
 let e2:Bool:=List.contains (List.take (Int.toNat p.1) x4) (List.getD x4 (Int.toNat p.1) (0:Int));
 let e3:Int:=p.1;
 let e4:Int:=p.2.1;
 let e5:Bool:=decide (e3<e1);
  (0:Int)≤e3∧e3≤e1∧e4=(0:Int)∧e0_1=r0++B6 (List.take (Int.toNat e3) x4)→
  (e5=true→
  ((0:Int)≤e3∧e3<e1)∧
  ((0:Int)≤e3∧e3≤e1)∧
  (e2=true→
  ∃ (p':Int×Int×List Int×Unit),
  x4=x4∧
  e1=e1∧
  IntKind.wrap IntKind.i64 (e3+(1:Int))=p'.1∧
  e4=p'.2.1∧
  e0_1=p'.2.2.1∧
  x1=x1∧
  x2=x2∧
  x3=x3∧
  x4=x4∧
  x5=x5∧
  ((0:Int)≤p'.1∧p'.1≤e1∧p'.2.1=(0:Int)∧p'.2.2.1=r0++B6 (List.take (Int.toNat p'.1) x4))∧
  List.length x4-Int.toNat p'.1<List.length x4-Int.toNat e3)∧
  (e2=false→
  (e4=(0:Int)∧List.length e0_1≤(17592186044400:Nat))∧
  ((!true)=true→((0:Int),e1_1,())=e0)∧
  ((!true)=false→
  ∃ (p':Int×Int×List Int×Unit),
  x4=x4∧
  e1=e1∧
  IntKind.wrap IntKind.i64 (e3+(1:Int))=p'.1∧
  (0:Int)=p'.2.1∧
  e1_1=p'.2.2.1∧
  x1=x1∧
  x2=x2∧
  x3=x3∧
  x4=x4∧
  x5=x5∧
  ((0:Int)≤p'.1∧p'.1≤e1∧p'.2.1=(0:Int)∧p'.2.2.1=r0++B6 (List.take (Int.toNat p'.1) x4))∧
  List.length x4-Int.toNat p'.1<List.length x4-Int.toNat e3)))∧
  (e5=false→(e4,e0_1,())=e0)):=by kernel_rfl
theorem cm1 (i x1 x2:Int) (x3 x4:List Int) (x5:List Ins) (a0:Int) (a1:List Ins) (a2 a3:List Int) (sp:Spans) (rd:Reads) (ho:Holds) (ce:List (Int×Int)) (op ks oc:Int) (cd:List RIns) (ou:List Place):vc (EVd [] itDo [(52,cReads),(54,cSlot),(84,cRoom),(85,cPutA),(73,cCalledA)]) (lDo sp rd ks a1.length i x3 x4 ⟨ho,ce,oc,cd⟩) Go.Proofs.Tryd.f53 cDo (i,x1,x2,x3,x4,x5,a0,a1,a2,a3,sp,rd,ho,ce,op,ks,oc,cd,ou,())=(
 let e0:Int:=(↑(List.length ([]++B6 x4)):Int);
 let e1:List Int:=[]++B6 x4;
 let e2:AS:=doOf sp rd ks (↑(List.length a1):Int) i (Ins.mk x1 x2 x3 x4 x5) (AS.mk ho ce oc cd);
 let e3:Int:=(↑(List.length a1):Int);
 let e4:Int:=IntKind.wrap IntKind.i64 (i+(1:Int));
 let e5:Int:=(↑(List.length x3):Int);
 let e6:AS:=F3 sp rd ks e3 i (B6 x4) (AS.mk ho ce oc cd) (B6 x4);
  Small RU (Sigma.mk (Ty.slice (3:Nat) (Ty.int IntKind.i64)) x3)→
  Small RU (Sigma.mk (Ty.slice (3:Nat) (Ty.int IntKind.i64)) x4)→
  Small RU (Sigma.mk (Ty.slice (52:Nat) (Ty.user (0:Nat))) x5)→
  Small RU (Sigma.mk (Ty.slice (52:Nat) (Ty.user (0:Nat))) a1)→
  Small RU (Sigma.mk (Ty.slice (3:Nat) (Ty.int IntKind.i64)) a2)→
  Small RU (Sigma.mk (Ty.slice (3:Nat) (Ty.int IntKind.i64)) a3)→
  Small RU (Sigma.mk (Ty.slice (55:Nat) (Ty.user (1:Nat))) cd)→
  Small RU (Sigma.mk (Ty.slice (59:Nat) (Ty.user (2:Nat))) ou)→
  (∀ (xs:Int×Int×List Int×Unit),
 let e0:List Int:=xs.2.2.1;
  xs.2.1=(0:Int)∧List.length e0≤(17592186044400:Nat)→
  Small RU (Sigma.mk (Ty.slice (3:Nat) (Ty.int IntKind.i64)) e0)→
  xs.2.1=(0:Int)∧(List.length e0+List.length [xs.1])*(8:Nat)≤(140737488355328:Nat)∧(true,(0:Int),e0++[xs.1],())=aq6.fn xs)∧
  ((0:Int)=(0:Int)∧List.length ([]:List Int)+List.length x4≤(17592186044400:Nat))∧
  (0:Int)=(0:Int)∧
  (∃ (p:Int×List (Place×Int)×List (Int×Int)×Int×List RIns×Unit),
  i=i∧
  x1=x1∧
  x2=x2∧
  x3=x3∧
  x4=x4∧
  x5=x5∧
  e1=e1∧
  e0=e0∧
  (0:Int)=p.1∧
  a0=a0∧
  a1=a1∧
  a2=a2∧
  a3=a3∧
  op=op∧
  ks=ks∧
  oc=p.2.2.2.1∧
  sp=sp∧
  rd=rd∧
  ho=p.2.1∧
  ce=p.2.2.1∧
  cd=p.2.2.2.2.1∧
  ou=ou∧
  x1=x1∧
  x2=x2∧
  x3=x3∧
  x4=x4∧
  x5=x5∧
  e1=e1∧
  e1=e1∧
  (0:Int)≤p.1∧
  p.1≤(↑(List.length (B6 x4)):Int)∧
  F3 sp rd ks e3 i (B6 x4) (AS.mk ho ce oc cd) (List.take (Int.toNat p.1) (B6 x4))=
  AS.mk p.2.1 p.2.2.1 p.2.2.2.1 p.2.2.2.2.1)∧
  ∀ (p:Int×List (Place×Int)×List (Int×Int)×Int×List RIns×Unit),
 let e0_1:AS:=(G8 sp rd ks e3 (AS.mk p.2.1 p.2.2.1 p.2.2.2.1 p.2.2.2.2.1) i e1).2;
 let e1_1:Int:=p.2.2.2.1;
 let e2_1:List RIns:=p.2.2.2.2.1;
 let e3_1:List (Place×Int):=p.2.1;
 let e4_1:List (Int×Int):=p.2.2.1;
 let e5_1:Bool:=decide (p.1<e0);
 let e6_1:Int:=p.1;
 let e7:Bool:=
  !((E1 e3_1 ks (List.getD e1 (Int.toNat e6_1) (0:Int))).cell==true&&((E1 e3_1 ks (List.getD e1 (Int.toNat e6_1) (0:Int))).n==(-1:Int)&&true));
 let e8:Int:=(G8 sp rd ks e3 (AS.mk e3_1 e4_1 e1_1 e2_1) i e1).1;
 let e9:Int:=(↑(List.length (B6 x4)):Int);
  (0:Int)≤e6_1∧e6_1≤e9∧F3 sp rd ks e3 i (B6 x4) (AS.mk ho ce oc cd) (List.take (Int.toNat e6_1) (B6 x4))=AS.mk e3_1 e4_1 e1_1 e2_1→
  (e5_1=true→
  ((0:Int)≤e6_1∧e6_1<e0)∧
  ks≤(64:Int)∧
  (e7=true→
  ∃ (p':Int×List (Place×Int)×List (Int×Int)×Int×List RIns×Unit),
  i=i∧
  x1=x1∧
  x2=x2∧
  x3=x3∧
  x4=x4∧
  x5=x5∧
  e1=e1∧
  e0=e0∧
  IntKind.wrap IntKind.i64 (e6_1+(1:Int))=p'.1∧
  a0=a0∧
  a1=a1∧
  a2=a2∧
  a3=a3∧
  op=op∧
  ks=ks∧
  e1_1=p'.2.2.2.1∧
  sp=sp∧
  rd=rd∧
  e3_1=p'.2.1∧
  e4_1=p'.2.2.1∧
  e2_1=p'.2.2.2.2.1∧
  ou=ou∧
  x1=x1∧
  x2=x2∧
  x3=x3∧
  x4=x4∧
  x5=x5∧
  e1=e1∧
  e1=e1∧
  ((0:Int)≤p'.1∧
  p'.1≤e9∧
  F3 sp rd ks e3 i (B6 x4) (AS.mk ho ce oc cd)
  (List.take (Int.toNat p'.1) (B6 x4))=
  AS.mk p'.2.1 p'.2.2.1 p'.2.2.2.1 p'.2.2.2.2.1)∧
  List.length (B6 x4)-Int.toNat p'.1<List.length (B6 x4)-Int.toNat e6_1)∧
  (e7=false→
  ((∀ (n:Int),List.Pairwise (fun (x1 x2:Int)=>x1≤x2) (getL rd n))∧
  ((M3 sp rd ks e3 e3_1 i e1).1=none→(M3 sp rd ks e3 e3_1 i e1).2≠[])∧
  ks≤(64:Int)∧(0:Int)≤e1_1∧e1_1≤(1000000000:Int)∧List.length e2_1≤(1000000000:Nat))∧
  List.length e0_1.code≤(1000000000:Nat)∧
  ∃ (p':Int×List (Place×Int)×List (Int×Int)×Int×List RIns×Unit),
  i=i∧
  x1=x1∧
  x2=x2∧
  x3=x3∧
  x4=x4∧
  x5=x5∧
  e1=e1∧
  e0=e0∧
  IntKind.wrap IntKind.i64 (e6_1+(1:Int))=p'.1∧
  a0=a0∧
  a1=a1∧
  a2=a2∧
  a3=a3∧
  op=op∧
  ks=ks∧
  e0_1.ocells=p'.2.2.2.1∧
  sp=sp∧
  rd=rd∧
  mput (E7 RU (Ty.user (2:Nat))) e0_1.holds (Place.mk false e8) (List.getD e1 (Int.toNat e6_1) (0:Int))=
  p'.2.1∧
  e0_1.cells=p'.2.2.1∧
  e0_1.code++
  [RIns.mk (1:Int) e8
  (Option.getD (mget (fun (x y:Int)=>x==y) e0_1.cells (List.getD e1 (Int.toNat e6_1) (0:Int)))
  (0:Int))
  (Ins.mk (0:Int) (0:Int) [] [] [])]=
  p'.2.2.2.2.1∧
  ou=ou∧
  x1=x1∧
  x2=x2∧
  x3=x3∧
  x4=x4∧
  x5=x5∧
  e1=e1∧
  e1=e1∧
  ((0:Int)≤p'.1∧
  p'.1≤e9∧
  F3 sp rd ks e3 i (B6 x4) (AS.mk ho ce oc cd)
  (List.take (Int.toNat p'.1) (B6 x4))=
  AS.mk p'.2.1 p'.2.2.1 p'.2.2.2.1 p'.2.2.2.2.1)∧
  List.length (B6 x4)-Int.toNat p'.1<List.length (B6 x4)-Int.toNat e6_1))∧
  (e5_1=false→
  (∃ (p:Int×List (Int×Int)×Unit),
  i=i∧
  x1=x1∧
  x2=x2∧
  x3=x3∧
  x4=x4∧
  x5=x5∧
  e1=e1∧
  e0=e0∧
  e6_1=e6_1∧
  e5_1=e5_1∧
  e1=e1∧
  e0=e0∧
  (0:Int)=p.1∧
  a0=a0∧
  a1=a1∧
  a2=a2∧
  a3=a3∧
  op=op∧
  ks=ks∧
  e1_1=e1_1∧
  sp=sp∧
  rd=rd∧
  e3_1=e3_1∧
  e4_1=e4_1∧
  e2_1=e2_1∧
  ou=ou∧
  x1=x1∧
  x2=x2∧
  x3=x3∧
  x4=x4∧
  x5=x5∧
  e1=e1∧
  e1=e1∧
  []=p.2.1∧
  (0:Int)≤p.1∧
  p.1≤e9∧p.2.1=ac4 e6.holds ks (List.take (Int.toNat p.1) (B6 x4)))∧
  ∀ (p:Int×List (Int×Int)×Unit),
 let e0_2:Bool:=decide (p.1<e0);
 let e1_2:List (Int×Int):=p.2.1;
 let e2_2:Int:=p.1;
  (0:Int)≤e2_2∧e2_2≤e9∧e1_2=ac4 e6.holds ks (List.take (Int.toNat e2_2) (B6 x4))→
  (e0_2=true→
  ((0:Int)≤e2_2∧e2_2<e0)∧
  ks≤(64:Int)∧
  ∃ (p':Int×List (Int×Int)×Unit),
  i=i∧
  x1=x1∧
  x2=x2∧
  x3=x3∧
  x4=x4∧
  x5=x5∧
  e1=e1∧
  e0=e0∧
  e6_1=e6_1∧
  e5_1=e5_1∧
  e1=e1∧
  e0=e0∧
  IntKind.wrap IntKind.i64 (e2_2+(1:Int))=p'.1∧
  a0=a0∧
  a1=a1∧
  a2=a2∧
  a3=a3∧
  op=op∧
  ks=ks∧
  e1_1=e1_1∧
  sp=sp∧
  rd=rd∧
  e3_1=e3_1∧
  e4_1=e4_1∧
  e2_1=e2_1∧
  ou=ou∧
  x1=x1∧
  x2=x2∧
  x3=x3∧
  x4=x4∧
  x5=x5∧
  e1=e1∧
  e1=e1∧
  mput (fun (x y:Int)=>x==y) e1_2 (List.getD e1 (Int.toNat e2_2) (0:Int))
  (E1 e3_1 ks (List.getD e1 (Int.toNat e2_2) (0:Int))).n=
  p'.2.1∧
  ((0:Int)≤p'.1∧
  p'.1≤e9∧
  p'.2.1=ac4 e6.holds ks (List.take (Int.toNat p'.1) (B6 x4)))∧
  List.length (B6 x4)-Int.toNat p'.1<
  List.length (B6 x4)-Int.toNat e2_2)∧
  (e0_2=false→
  (∃ (p:Int×List (Place×Int)×List (Int×Int)×Int×List RIns×Unit),
  i=i∧
  x1=x1∧
  x2=x2∧
  x3=x3∧
  x4=x4∧
  x5=x5∧
  e1=e1∧
  e0=e0∧
  e6_1=e6_1∧
  e5_1=e5_1∧
  e1=e1∧
  e0=e0∧
  e2_2=e2_2∧
  e0_2=e0_2∧
  x3=x3∧
  e5=e5∧
  (0:Int)=p.1∧
  a0=a0∧
  a1=a1∧
  a2=a2∧
  a3=a3∧
  op=op∧
  ks=ks∧
  e1_1=p.2.2.2.1∧
  sp=sp∧
  rd=rd∧
  e3_1=p.2.1∧
  e4_1=p.2.2.1∧
  e2_1=p.2.2.2.2.1∧
  ou=ou∧
  x1=x1∧
  x2=x2∧
  x3=x3∧
  x4=x4∧
  x5=x5∧
  e1=e1∧
  e1=e1∧
  e1_2=e1_2∧
  (0:Int)≤p.1∧
  p.1≤e5∧
  Q9 sp rd ks e3 i x3 e6 (List.take (Int.toNat p.1) x3)=
  AS.mk p.2.1 p.2.2.1 p.2.2.2.1 p.2.2.2.2.1)∧
  ∀ (p:Int×List (Place×Int)×List (Int×Int)×Int×List RIns×Unit),
 let e0_3:AS:=(G8 sp rd ks e3 (AS.mk p.2.1 p.2.2.1 p.2.2.2.1 p.2.2.2.2.1) e4 x3).2;
 let e1_3:AS:=AS.mk p.2.1 p.2.2.1 p.2.2.2.1 p.2.2.2.2.1;
 let e2_3:Int:=p.2.2.2.1;
 let e3_2:List RIns:=p.2.2.2.2.1;
 let e4_2:List (Place×Int):=p.2.1;
 let e5_2:Int:=p.1;
 let e6_2:Bool:=decide (e5_2<e5);
  (0:Int)≤e5_2∧e5_2≤e5∧Q9 sp rd ks e3 i x3 e6 (List.take (Int.toNat e5_2) x3)=e1_3→
  (e6_2=true→
  ((0:Int)≤e5_2∧e5_2<e5)∧
  ((∀ (n:Int),List.Pairwise (fun (x1 x2:Int)=>x1≤x2) (getL rd n))∧
  ((M3 sp rd ks e3 e4_2 e4 x3).1=none→(M3 sp rd ks e3 e4_2 e4 x3).2≠[])∧
  ks≤(64:Int)∧(0:Int)≤e2_3∧e2_3≤(1000000000:Int)∧List.length e3_2≤(1000000000:Nat))∧
  ∃ (p':Int×List (Place×Int)×List (Int×Int)×Int×List RIns×Unit),
  i=i∧
  x1=x1∧
  x2=x2∧
  x3=x3∧
  x4=x4∧
  x5=x5∧
  e1=e1∧
  e0=e0∧
  e6_1=e6_1∧
  e5_1=e5_1∧
  e1=e1∧
  e0=e0∧
  e2_2=e2_2∧
  e0_2=e0_2∧
  x3=x3∧
  e5=e5∧
  IntKind.wrap IntKind.i64 (e5_2+(1:Int))=p'.1∧
  a0=a0∧
  a1=a1∧
  a2=a2∧
  a3=a3∧
  op=op∧
  ks=ks∧
  e0_3.ocells=p'.2.2.2.1∧
  sp=sp∧
  rd=rd∧
  mput (E7 RU (Ty.user (2:Nat))) e0_3.holds
  (Place.mk false (G8 sp rd ks e3 e1_3 e4 x3).1)
  (List.getD x3 (Int.toNat e5_2) (0:Int))=
  p'.2.1∧
  e0_3.cells=p'.2.2.1∧
  e0_3.code=p'.2.2.2.2.1∧
  ou=ou∧
  x1=x1∧
  x2=x2∧
  x3=x3∧
  x4=x4∧
  x5=x5∧
  e1=e1∧
  e1=e1∧
  e1_2=e1_2∧
  ((0:Int)≤p'.1∧
  p'.1≤e5∧
  Q9 sp rd ks e3 i x3 e6
  (List.take (Int.toNat p'.1) x3)=
  AS.mk p'.2.1 p'.2.2.1 p'.2.2.2.1
  p'.2.2.2.2.1)∧
  List.length x3-Int.toNat p'.1<
  List.length x3-Int.toNat e5_2)∧
  (e6_2=false→
  (((V6 x3 x4 x5=true∧ks≤(64:Int))∧True)∧True)∧
  List.length e3_2≤(1000000000:Nat)∧
  (a0,a1,a2,a3,sp,rd,e4_2,p.2.2.1,op,ks,e2_3,
  e3_2++
  [RIns.mk (0:Int) (0:Int) (0:Int) (Ins.mk x1 x2 (List.map (fun (n:Int)=>(E1 e4_2 ks n).n) x3) (List.map (getI e1_2) x4) x5)],
  ou,())=
  (a0,a1,a2,a3,sp,rd,e2.holds,e2.cells,op,ks,e2.ocells,e2.code,ou,()))))):=by kernel_rfl
end Go.Rg
end
section
set_option maxRecDepth 100000
namespace Go.Rg
open Go Go.VT
theorem Y2 (sp:Spans) (rd:Reads) (N:Int) (m:Holds) (pl:Int) (st:List Int) (r:List Nat):∀ (l:List Nat) (acc:List Held),C9 sp rd N m pl st (l++r) acc=match C9 sp rd N m pl st l acc with
  |(none,acc')=>C9 sp rd N m pl st r acc'
  |x=>x
 |[],acc=>rfl
 |s::l,acc=>by
  simp only [List.cons_append,C9]
  cases mget eqP m ⟨false,(s:Int)⟩ with
  |none=>rfl
  |some n=>
   simp only
   cases st.contains n with
   |true=>exact Y2 sp rd N m pl st r l acc
   |false=>
    simp only [cond_false]
    cases P7 (getS sp n).first (getS sp n).last pl with
    |true=>exact Y2 sp rd N m pl st r l _
    |false=>rfl
theorem ag1 (sp:Spans) (rd:Reads) (N:Int) (m:Holds) (pl:Int) (st:List Int):∀ (l:List Nat) (acc:List Held),(C9 sp rd N m pl st l acc).2.length≤acc.length+l.length
 |[],acc=>by simp [C9]
 |s::l,acc=>by
  simp only [C9]
  cases mget eqP m ⟨false,(s:Int)⟩ with
  |none=>simp
  |some n=>
   simp only
   cases st.contains n with
   |true=>have:=ag1 sp rd N m pl st l acc;simp only [cond_true,List.length_cons];omega
   |false=>
    simp only [cond_false]
    cases P7 (getS sp n).first (getS sp n).last pl with
    |true=>have:=ag1 sp rd N m pl st l (acc++[⟨(s:Int),n,aH6 rd N n pl⟩]);simp only [cond_true,List.length_cons,List.length_append,List.length_nil] at this ⊢;omega
    |false=>simp
theorem aq7 {sp:Spans} {rd:Reads} {N:Int} {m:Holds} {pl:Int} {st:List Int} {k:Nat} {acc:List Held} (h:C9 sp rd N m pl st (List.range k) []=(none,acc)):C9 sp rd N m pl st (List.range (k+1)) []=C9 sp rd N m pl st [k] acc:=by
 rw [List.range_succ,Y2,h]
theorem aU8 {sp:Spans} {rd:Reads} {N:Int} {m:Holds} {pl:Int} {st:List Int} {k n:Nat} {acc:List Held} (hk:k<n) (h:C9 sp rd N m pl st (List.range k) []=(none,acc)) {i:Int} (h2:C9 sp rd N m pl st [k] acc=(some i,acc)):C9 sp rd N m pl st (List.range n) []=(some i,acc):=by
 have:List.range n=List.range (k+1)++(List.range (n-(k+1))).map ((k+1)+·):=by
  rw [←List.range_add];congr 1;omega
 rw [this,Y2,aq7 h,h2]
theorem cg8 (pl:Int) (st:List Int) (a0:Int) (a1:List Ins) (a2 a3:List Int) (sp:Spans) (rd:Reads) (ho:Holds) (ce:List (Int×Int)) (op ks oc:Int) (cd:List RIns) (ou:List Place)
  (hp:ag0 rd∧aw7 sp rd ks a1.length ho pl st∧ks≤64∧0≤oc∧oc≤1000000000∧cd.length≤1000000000):vc (EV [(100,cNext),(61,cContains),(69,cAt),(101,cBest),(85,cPutA)]) (cg4 sp rd ks a1.length ho pl st) Go.Proofs.Tryd.f84 cRoom (pl,st,a0,a1,a2,a3,sp,rd,ho,ce,op,ks,oc,cd,ou,()):=by
 rw [cg5 pl st a0 a1 a2 a3 sp rd ho ce op ks oc cd ou]
 intro e0 e1 _ _ _ _ _ _
 obtain ⟨hp1,hp2,hp3,hp4,hp5,hp6⟩:=hp
 have he0:e0=((G8 sp rd ks a1.length ⟨ho,ce,oc,cd⟩ pl st).1,a0,a1,a2,a3,sp,rd,(G8 sp rd ks a1.length ⟨ho,ce,oc,cd⟩ pl st).2.holds,(G8 sp rd ks a1.length ⟨ho,ce,oc,cd⟩ pl st).2.cells,op,ks,(G8 sp rd ks a1.length ⟨ho,ce,oc,cd⟩ pl st).2.ocells,(G8 sp rd ks a1.length ⟨ho,ce,oc,cd⟩ pl st).2.code,ou,()):=rfl
 have he1:e1=(a0,a1,a2,a3,sp,rd,ho,ce,op,ks,oc,cd,ou,()):=rfl
 clear_value e0 e1
 generalize (a1.length:Int)=N at hp2 he0 ⊢
 simp only [true_and,and_true,Bool.cond_self]
 refine ⟨⟨(0,[],()),rfl,rfl,Int.le_refl _,.inr rfl,rfl⟩,?_⟩
 rintro ⟨i,l,⟨⟩⟩ ⟨h0,h1,h2⟩
 dsimp only at h0 h1 h2 ⊢
 obtain ⟨k,rfl⟩:=Int.eq_ofNat_of_zero_le h0
 simp only [Int.toNat_natCast] at h2 ⊢
 have hlen:=ag1 sp rd N ho pl st (List.range k) []
 rw [h2] at hlen
 simp only [List.length_nil,List.length_range,Nat.zero_add] at hlen
 refine ⟨fun hlt=>?_,fun hge=>?_⟩
 ·have hlt:(k:Int)<ks:=of_decide_eq_true hlt
  have stop:C9 sp rd N ho pl st [k] l=(some (k:Int),l)→((k:Int),e1)=e0:=fun h=>by
   have hr:(M3 sp rd ks N ho pl st)=(some (k:Int),l):=aU8 (by omega) h2 h
   have:G8 sp rd ks N ⟨ho,ce,oc,cd⟩ pl st=((k:Int),⟨ho,ce,oc,cd⟩):=by simp only [G8,hr]
   rw [he0,this,he1]
  have next:∀ l',C9 sp rd N ho pl st [k] l=(none,l')→∃ p':Int×List Held×Unit,IntKind.i64.wrap ((k:Int)+1)=p'.1∧l'=p'.2.1∧(0≤p'.1∧(p'.1≤ks∨p'.1=0)∧C9 sp rd N ho pl st (List.range p'.1.toNat) []=(none,p'.2.1))∧ks.toNat-p'.1.toNat<ks.toNat-k:=fun l' h=>
   ⟨((k+1:Nat),l',()),by rw [J4 (by omega) (by omega)];rfl,rfl,⟨by omega,.inl (by dsimp only;omega),by dsimp only;rw [Int.toNat_natCast,aq7 h2,h]⟩,by dsimp only;omega⟩
  show ((!(mget eqP ho ⟨false,(k:Int)⟩).isSome)=true→_)∧((!(mget eqP ho ⟨false,(k:Int)⟩).isSome)=false→_)
  cases hq:mget eqP ho ⟨false,(k:Int)⟩ with
  |none=>
   refine ⟨fun _=>stop ?_,fun h=>(by cases h)⟩
   simp only [C9,hq]
  |some n=>
   refine ⟨fun h=>(by cases h),fun _=>?_⟩
   have hq':mget (E7 RU (Ty.user 2)) ho ⟨false,(k:Int)⟩=some n:=hq
   simp only [hq',Option.getD_some]
   refine ⟨fun h=>?_,fun h=>⟨fun h3=>stop ?_,fun h3=>⟨hp1,?_,?_⟩⟩⟩
   ·exact next l (by simp only [C9,hq,h,cond_true])
   ·have h3:P7 (getS sp n).first (getS sp n).last pl=false:=by simpa [getS] using h3
    simp only [C9,hq,h,h3,cond_false]
   ·simp only [List.length_cons,List.length_nil];omega
   ·have h3:P7 (getS sp n).first (getS sp n).last pl=true:=by simpa [getS] using h3
    exact next _ (by simp only [C9,hq,h,h3,cond_false,cond_true])
 ·have hge:¬ (k:Int)<ks:=of_decide_eq_false hge
  have hr:M3 sp rd ks N ho pl st=(none,l):=by
   rw [←h2]
   show C9 sp rd N ho pl st (List.range ks.toNat) []=_
   congr 2
   omega
  have hne:l≠[]:=by
   have:=hp2
   unfold aw7 at this
   rw [hr] at this
   exact this rfl
  have hR:G8 sp rd ks N ⟨ho,ce,oc,cd⟩ pl st=((M5 l).slot,aU2 ⟨ho,ce,oc,cd⟩ (M5 l)):=by simp only [G8,hr]
  rw [hR] at he0
  refine ⟨hne,fun _=>hp6,?_⟩
  rw [he0]
  dsimp only [aU2]
  show (_,_,_,_,_,_,_,_,(bif !(mget eqI ce (M5 l).reg).isSome then mput eqI ce (M5 l).reg oc else ce),_,_,(bif !(mget eqI ce (M5 l).reg).isSome then IntKind.i64.wrap (oc+1) else oc),(bif !(mget eqI ce (M5 l).reg).isSome then cd++[⟨2,(M5 l).slot,oc,ins0⟩] else cd),_,_)=_
  rw [J4 (by omega) (by omega)]
  cases (mget eqI ce (M5 l).reg).isSome<;>rfl
theorem bB0:C5 prog RG 84 cRoom:=D8 (A5 bA7 (A5 M8 (A5 bs2 (A5 bA8 (A5 aO0 B8))))) (fun (pl,st,a0,a1,a2,a3,sp,rd,ho,ce,op,ks,oc,cd,ou,())=>cg4 sp rd ks a1.length ho pl st) (by kernel_rfl) (by kernel_rfl) (by kernel_rfl) fun (pl,st,a0,a1,a2,a3,sp,rd,ho,ce,op,ks,oc,cd,ou,()) hp=>cg8 pl st a0 a1 a2 a3 sp rd ho ce op ks oc cd ou hp
theorem bB1:C5 prog RG 86 cGetA:=D8 (A5 at5 B8) (fun _=>noL) (by kernel_rfl) (by kernel_rfl) (by kernel_rfl) fun (n,a0,a1,a2,a3,sp,rd,ho,ce,op,ks,oc,cd,ou,()) hp=>(cg6 n a0 a1 a2 a3 sp rd ho ce op ks oc cd ou).mpr (by
 have hp:ks≤64:=hp
 intros
 simp only [true_and,and_true]
 exact hp)
theorem bB2:C5 prog RG 87 cOld:=D8 B8 (fun _=>noL) (by kernel_rfl) (by kernel_rfl) (by kernel_rfl) fun (n,m,()) _=>(cg7 n m).mpr rfl
theorem bB3 (x1 x2:Int) (x3 x4:List Int) (x5:List Ins) (a0:Int) (a1:List Ins) (a2 a3:List Int) (sp:Spans) (rd:Reads) (ho:Holds) (ce:List (Int×Int)) (op ks oc:Int) (cd:List RIns) (ou:List Place) (sl:List (Int×Int)) (hp:V6 x3 x4 x5=true∧ks≤64):
  vc (EV [(96,cBody),(86,cGetA),(87,cOld)]) (aU6 x1 x2 x3 x4 x5 ho ks sl) Go.Proofs.Tryd.f73 cCalledA (x1,x2,x3,x4,x5,a0,a1,a2,a3,sp,rd,ho,ce,op,ks,oc,cd,ou,sl,()):=by
 rw [bA9 x1 x2 x3 x4 x5 a0 a1 a2 a3 sp rd ho ce op ks oc cd ou sl]
 intro e0 e1 e2 e3 hs3 hs4 _ _ _ _ _ _
 have hl3:x3.length≤140737488355328:=hs3.len
 have hl4:x4.length≤140737488355328:=hs4.len
 clear_value e0
 dsimp only [e1,e2,e3]
 simp only [true_and,and_true]
 refine ⟨⟨by simp,?_⟩,⟨by omega,by simp⟩,⟨(0,_,()),rfl,rfl,Int.le_refl _,by dsimp only;omega,by simp⟩,?_⟩
 ·simp only [H5,Bool.and_true]
  exact (P3 _).2 (U5.1 hp.1)
 rintro ⟨i,l,⟨⟩⟩ ⟨h0,h1,h2⟩
 dsimp only at h0 h1 h2 ⊢
 subst h2
 obtain ⟨k,rfl⟩:=Int.eq_ofNat_of_zero_le h0
 simp only [Int.toNat_natCast,List.getD_cons_zero,List.set_cons_zero]
 have hA:((x4.take k).map (getI sl)).length=k:=by simp;omega
 refine ⟨fun hlt=>?_,fun hge=>?_⟩
 ·have hlt:(k:Int)<x4.length:=of_decide_eq_true hlt
  rw [Q8 hA (by omega),am6 hA (by omega),am7 hA (by omega)]
  refine ⟨⟨h0,hlt⟩,⟨h0,hlt⟩,((k+1:Nat),[⟨x1,x2,x3,(x4.take (k+1)).map (getI sl)++x4.drop (k+1),x5⟩],()),B4 (by omega) hl4,?_,⟨by omega,by dsimp only;omega,by dsimp only;rw [Int.toNat_natCast]⟩,by dsimp only;omega⟩
  dsimp only
  rw [A4 (by omega) 0,List.map_append]
  rfl
 have hk:k=x4.length:=by have:¬ (k:Int)<x4.length:=of_decide_eq_false hge;omega
 subst hk
 simp only [List.take_length,List.drop_length,List.append_nil]
 clear h0 h1 hge hA
 refine ⟨⟨(0,_,()),rfl,rfl,Int.le_refl _,by dsimp only;omega,by simp⟩,?_⟩
 rintro ⟨i,l,⟨⟩⟩ ⟨h0,h1,h2⟩
 dsimp only at h0 h1 h2 ⊢
 subst h2
 obtain ⟨k,rfl⟩:=Int.eq_ofNat_of_zero_le h0
 simp only [Int.toNat_natCast,List.getD_cons_zero,List.set_cons_zero]
 have hA:((x3.take k).map (fun n=>(E1 ho ks n).n)).length=k:=by simp;omega
 refine ⟨fun hlt=>?_,fun hge=>?_⟩
 ·have hlt:(k:Int)<x3.length:=of_decide_eq_true hlt
  rw [Q8 hA (by omega),am6 hA (by omega),am7 hA (by omega)]
  refine ⟨⟨h0,hlt⟩,hp.2,⟨h0,hlt⟩,((k+1:Nat),[⟨x1,x2,(x3.take (k+1)).map (fun n=>(E1 ho ks n).n)++x3.drop (k+1),x4.map (getI sl),x5⟩],()),B4 (by omega) hl3,?_,⟨by omega,by dsimp only;omega,by dsimp only;rw [Int.toNat_natCast]⟩,by dsimp only;omega⟩
  dsimp only
  rw [A4 (by omega) 0,List.map_append]
  rfl
 ·have hk:k=x3.length:=by have:¬ (k:Int)<x3.length:=of_decide_eq_false hge;omega
  subst hk
  simp only [List.take_length,List.drop_length,List.append_nil]
theorem aU9:C5 prog RG 73 cCalledA:=D8 (A5 as7 (A5 bB1 (A5 bB2 B8))) (fun (x1,x2,x3,x4,x5,a0,a1,a2,a3,sp,rd,ho,ce,op,ks,oc,cd,ou,sl,())=>aU6 x1 x2 x3 x4 x5 ho ks sl) (by kernel_rfl) (by kernel_rfl) (by kernel_rfl) fun (x1,x2,x3,x4,x5,a0,a1,a2,a3,sp,rd,ho,ce,op,ks,oc,cd,ou,sl,()) hp=>bB3 x1 x2 x3 x4 x5 a0 a1 a2 a3 sp rd ho ce op ks oc cd ou sl hp
theorem ak0 (x:Int):∀ (l seen:List Int),F5 seen (l++[x])=F5 seen l++bif (seen++l).contains x then [] else [x]
 |[],seen=>by
  simp only [List.nil_append,F5,List.append_nil]
 |y::l,seen=>by
  have ih:=ak0 x l (seen++[y])
  rw [List.append_assoc,List.singleton_append] at ih
  simp only [List.cons_append,F5,ih]
  cases seen.contains y<;>rfl
theorem aO1 (l:List Int) (x:Int):B6 (l++[x])=bif l.contains x then B6 l else B6 l++[x]:=by
 unfold B6
 rw [ak0,List.nil_append]
 cases l.contains x<;>simp
theorem ag2 (l:List Int):(B6 l).length≤l.length:=by
 have key:∀ (l seen:List Int),(F5 seen l).length≤l.length:=by
  intro l
  induction l with
  |nil=>intro seen;simp [F5]
  |cons x r ih=>
   intro seen
   have:=ih (seen++[x])
   simp only [F5]
   cases seen.contains x with
   |true=>simp only [cond_true,List.length_cons];omega
   |false=>simp only [cond_false,List.length_cons];omega
 exact key l []
theorem aH8:C5 prog RG 52 cReads:=D8 B8 (fun _=>noL) (by kernel_rfl) (by kernel_rfl) (by kernel_rfl) fun (x1,x2,x3,x4,x5,()) _=>(bW1 x1 x2 x3 x4 x5).mpr (by intros;rfl)
theorem bN7 (s0:Int) (r0:List Int) (x1 x2:Int) (x3 x4:List Int) (x5:List Ins) (hp:s0=0∧r0.length+x4.length≤17592186044400):vc (EVy [(0,0),(1,1)] (some aq6) [(61,cContains)]) (bm6 x4 r0) Go.Proofs.Tryd.f83 aU7 (s0,r0,x1,x2,x3,x4,x5,()):=by
 rw [bN6 s0 r0 x1 x2 x3 x4 x5]
 intro e0 e1 _ _ hs4 _
 have hl4:x4.length≤140737488355328:=hs4.len
 have he0:e0=(0,r0++B6 x4,()):=rfl
 clear_value e0
 dsimp only [e1]
 simp only [true_and,and_true]
 refine ⟨⟨(0,0,r0,()),rfl,hp.1,rfl,Int.le_refl _,by dsimp only;omega,rfl,by simp [B6,F5]⟩,?_⟩
 rintro ⟨i,st,l,⟨⟩⟩ ⟨h0,h1,h2,h3⟩
 dsimp only at h0 h1 h2 h3 ⊢
 subst h2
 obtain ⟨k,rfl⟩:=Int.eq_ofNat_of_zero_le h0
 simp only [Int.toNat_natCast] at h3 ⊢
 subst h3
 refine ⟨fun hlt=>?_,fun hge=>?_⟩
 ·have hlt:(k:Int)<x4.length:=of_decide_eq_true hlt
  have hs:=aO1 (x4.take k) (x4.getD k 0)
  rw [←A4 (by omega)] at hs
  have hl:=ag2 (x4.take k)
  rw [List.length_take] at hl
  refine ⟨⟨h0,hlt⟩,⟨h0,by omega⟩,fun q=>?_,fun q=>⟨⟨trivial,by rw [List.length_append];omega⟩,fun h=>(by cases h),fun _=>?_⟩⟩
  ·rw [q] at hs
   exact ⟨((k+1:Nat),0,_,()),B4 (by omega) hl4,rfl,rfl,⟨by omega,by dsimp only;omega,rfl,by dsimp only;rw [Int.toNat_natCast,hs];rfl⟩,by dsimp only;omega⟩
  ·rw [q] at hs
   exact ⟨((k+1:Nat),0,_,()),B4 (by omega) hl4,rfl,rfl,⟨by omega,by dsimp only;omega,rfl,by dsimp only;rw [Int.toNat_natCast,hs,List.append_assoc];rfl⟩,by dsimp only;omega⟩
 ·have hk:k=x4.length:=by have:¬ (k:Int)<x4.length:=of_decide_eq_false hge;omega
  subst hk
  rw [he0,List.take_length]
theorem cg9:ItOk itDo:=by
 intro f k kY mp h Y' hY
 unfold itDo at h
 cases hf:Nat.beq f 83 with
 |false=>rw [hf] at h;cases h
 |true=>
  have hf:=Nat.eq_of_beq_eq_true hf
  subst hf
  simp only [Nat.beq_refl,cond_true,List.mem_cons,List.not_mem_nil,or_false,Prod.mk.injEq] at h
  obtain ⟨rfl,rfl,rfl⟩:=h
  exact ai4 (E:=EVy [(0,0),(1,1)] (some aq6) [(61,cContains)]) (bS1 _ _ _) ⟨X3 (fun x hx=>by rcases List.mem_cons.1 hx with rfl|hx;exact M8 _;cases hx),fun _ _ _ _ _ h=>(by cases h),fun _ _ _ h=>(by cases h),fun k hk=>by cases hk;exact hY,fun _ _ _ _ h=>(by cases h)⟩ bj0 Go.Proofs.Tryd.func83 (by kernel_rfl)
    (fun p=>bm6 p.2.2.2.2.2.1 p.2.1) (fun (st,r0,x1,x2,x3,x4,x5,()) hp=>bN7 st r0 x1 x2 x3 x4 x5 hp) (by kernel_rfl) rfl
theorem bN8 (s:AS) (x:Held):(aU2 s x).code.length≤s.code.length+1∧s.ocells≤(aU2 s x).ocells∧(aU2 s x).ocells≤s.ocells+1:=by
 unfold aU2
 cases (mget eqI s.cells x.reg).isSome with
 |true=>simp only [cond_true];omega
 |false=>simp only [cond_false,List.length_append,List.length_cons,List.length_nil];omega
theorem at6 (sp:Spans) (rd:Reads) (ks N:Int) (s:AS) (pl:Int) (st:List Int):(G8 sp rd ks N s pl st).2.code.length≤s.code.length+1∧s.ocells≤(G8 sp rd ks N s pl st).2.ocells∧(G8 sp rd ks N s pl st).2.ocells≤s.ocells+1:=by
 unfold G8
 split
 ·simp only;omega
 ·exact bN8 _ _
theorem be9 (sp:Spans) (rd:Reads) (ks N i:Int) (fr:List Int) (s:AS) (n:Int):(K5 sp rd ks N i fr s n).code.length≤s.code.length+2∧s.ocells≤(K5 sp rd ks N i fr s n).ocells∧(K5 sp rd ks N i fr s n).ocells≤s.ocells+1:=by
 unfold K5
 have:=at6 sp rd ks N s i fr
 cases (E1 s.holds ks n).cell with
 |true=>simp only [cond_true,List.length_append,List.length_cons,List.length_nil];omega
 |false=>simp only [cond_false];omega
theorem ac5 (sp:Spans) (rd:Reads) (ks N i:Int) (fr:List Int):∀ (l:List Int) (s:AS),(F3 sp rd ks N i fr s l).code.length≤s.code.length+2*l.length∧s.ocells≤(F3 sp rd ks N i fr s l).ocells∧(F3 sp rd ks N i fr s l).ocells≤s.ocells+l.length
 |[],s=>by simp [F3]
 |x::r,s=>by
  have h1:=ac5 sp rd ks N i fr r (K5 sp rd ks N i fr s x)
  have h2:=be9 sp rd ks N i fr s x
  simp only [F3,List.foldl_cons,List.length_cons] at h1 ⊢
  omega
theorem bB4 (sp:Spans) (rd:Reads) (ks N i:Int) (to:List Int) (s:AS) (n:Int):(aw8 sp rd ks N i to s n).code.length≤s.code.length+1∧s.ocells≤(aw8 sp rd ks N i to s n).ocells∧(aw8 sp rd ks N i to s n).ocells≤s.ocells+1:=by
 have:=at6 sp rd ks N s (i+1) to
 exact this
theorem aH9 (sp:Spans) (rd:Reads) (ks N i:Int) (to:List Int):∀ (l:List Int) (s:AS),(Q9 sp rd ks N i to s l).code.length≤s.code.length+l.length∧s.ocells≤(Q9 sp rd ks N i to s l).ocells∧(Q9 sp rd ks N i to s l).ocells≤s.ocells+l.length
 |[],s=>by simp [Q9]
 |x::r,s=>by
  have h1:=aH9 sp rd ks N i to r (aw8 sp rd ks N i to s x)
  have h2:=bB4 sp rd ks N i to s x
  simp only [Q9,List.foldl_cons,List.length_cons] at h1 ⊢
  omega
theorem bf0 (sp:Spans) (rd:Reads) (ks N i:Int) (fr:List Int) (s:AS) (l:List Int) (x:Int):F3 sp rd ks N i fr s (l++[x])=K5 sp rd ks N i fr (F3 sp rd ks N i fr s l) x:=by simp [F3]
theorem aO2 (sp:Spans) (rd:Reads) (ks N i:Int) (to:List Int) (s:AS) (l:List Int) (x:Int):Q9 sp rd ks N i to s (l++[x])=aw8 sp rd ks N i to (Q9 sp rd ks N i to s l) x:=by simp [Q9]
theorem bf1 (m:Holds) (ks n:Int):((E1 m ks n).cell==true&&((E1 m ks n).n==(-1:Int)))=(E1 m ks n).cell:=by
 unfold E1
 split
 ·rfl
 ·rfl
theorem cm2 (i x1 x2:Int) (x3 x4:List Int) (x5:List Ins) (a0:Int) (a1:List Ins) (a2 a3:List Int) (sp:Spans) (rd:Reads) (ho:Holds) (ce:List (Int×Int)) (op ks oc:Int) (cd:List RIns) (ou:List Place)
  (hp:V6 x3 x4 x5=true∧x4.length≤17592186044400∧(B6 x4).length≤64∧x3.length≤64∧ag0 rd∧doOk sp rd ks a1.length i ⟨x1,x2,x3,x4,x5⟩ ⟨ho,ce,oc,cd⟩∧ks≤64∧0≤i∧i≤1000000∧0≤oc∧oc≤100000000∧cd.length≤100000000):
  vc (EVd [] itDo [(52,cReads),(54,cSlot),(84,cRoom),(85,cPutA),(73,cCalledA)]) (lDo sp rd ks a1.length i x3 x4 ⟨ho,ce,oc,cd⟩) Go.Proofs.Tryd.f53 cDo (i,x1,x2,x3,x4,x5,a0,a1,a2,a3,sp,rd,ho,ce,op,ks,oc,cd,ou,()):=by
 rw [cm1 i x1 x2 x3 x4 x5 a0 a1 a2 a3 sp rd ho ce op ks oc cd ou]
 obtain ⟨hp1,hp2,hp3,hp4,hp5,hp6,hp7,hp8,hp9,hp10,hp11,hp12⟩:=hp
 intro e0 e1 e2 e3 e4 e5 e6 _ hs4 _ _ _ _ _ _
 have hl4:x4.length≤140737488355328:=hs4.len
 have hdl:=ag2 x4
 have he2:e2=doOf sp rd ks e3 i ⟨x1,x2,x3,x4,x5⟩ ⟨ho,ce,oc,cd⟩:=rfl
 have he4:e4=i+1:=J4 (by omega) (by omega)
 have he6:e6=F3 sp rd ks e3 i (B6 x4) ⟨ho,ce,oc,cd⟩ (B6 x4):=rfl
 have hL6:=ac5 sp rd ks e3 i (B6 x4) (B6 x4) ⟨ho,ce,oc,cd⟩
 rw [←he6] at hL6
 have hD:e2=⟨(Q9 sp rd ks e3 i x3 e6 x3).holds,(Q9 sp rd ks e3 i x3 e6 x3).cells,(Q9 sp rd ks e3 i x3 e6 x3).ocells,(Q9 sp rd ks e3 i x3 e6 x3).code++[⟨0,0,0,⟨x1,x2,x3.map (fun n=>(E1 (Q9 sp rd ks e3 i x3 e6 x3).holds ks n).n),x4.map (getI (ac4 e6.holds ks (B6 x4))),x5⟩⟩]⟩:=rfl
 obtain ⟨hok1,hok2⟩:=hp6
 change ∀ k,k<(B6 x4).length→(E1 (F3 sp rd ks e3 i (B6 x4) ⟨ho,ce,oc,cd⟩ ((B6 x4).take k)).holds ks ((B6 x4).getD k 0)).cell=true→aw7 sp rd ks e3 (F3 sp rd ks e3 i (B6 x4) ⟨ho,ce,oc,cd⟩ ((B6 x4).take k)).holds i (B6 x4) at hok1
 change ∀ k,k<x3.length→aw7 sp rd ks e3 (Q9 sp rd ks e3 i x3 e6 (x3.take k)).holds (i+1) x3 at hok2
 clear_value e2 e4 e6 e3
 subst he4
 dsimp only [e0,e1,e5]
 simp only [true_and,and_true,List.nil_append,Bool.and_true,bf1]
 refine ⟨?_,?_,⟨(0,ho,ce,oc,cd,()),rfl,rfl,rfl,rfl,rfl,Int.le_refl _,by dsimp only;omega,rfl⟩,?_⟩
 ·rintro ⟨n,st,l,⟨⟩⟩ ⟨h1,h2⟩ _
  dsimp only at h1 h2 ⊢
  exact ⟨h1,by simp only [List.length_cons,List.length_nil];omega,rfl⟩
 ·simp only [List.length_nil];omega
 rintro ⟨j,m,cc,c,q,⟨⟩⟩ ⟨h0,h1,h2⟩
 dsimp only at h0 h1 h2 ⊢
 obtain ⟨k,rfl⟩:=Int.eq_ofNat_of_zero_le h0
 simp only [Int.toNat_natCast] at h2 ⊢
 have hL:=ac5 sp rd ks e3 i (B6 x4) ((B6 x4).take k) ⟨ho,ce,oc,cd⟩
 rw [h2,List.length_take] at hL
 dsimp only at hL
 refine ⟨fun hlt=>?_,fun hge=>?_⟩
 ·have hlt:(k:Int)<(B6 x4).length:=of_decide_eq_true hlt
  have hkc:k<(B6 x4).length:=by omega
  have hok:=hok1 k hkc
  rw [h2] at hok
  have hstep:F3 sp rd ks e3 i (B6 x4) ⟨ho,ce,oc,cd⟩ ((B6 x4).take (k+1))=K5 sp rd ks e3 i (B6 x4) ⟨m,cc,c,q⟩ ((B6 x4).getD k 0):=by
   rw [A4 hkc 0,bf0,h2]
  generalize (B6 x4).getD k 0=n at hok hstep ⊢
  dsimp only at hok
  refine ⟨⟨h0,hlt⟩,hp7,fun hc=>?_,fun hc=>?_⟩
  ·have hc:(E1 m ks n).cell=false:=by simpa using hc
   have hS:K5 sp rd ks e3 i (B6 x4) ⟨m,cc,c,q⟩ n=⟨m,cc,c,q⟩:=by simp only [K5,hc,cond_false]
   exact ⟨((k+1:Nat),m,cc,c,q,()),B4 (m:=(B6 x4).length) hkc (by omega),rfl,rfl,rfl,rfl,⟨by omega,by dsimp only;omega,by dsimp only;rw [Int.toNat_natCast,hstep,hS]⟩,by dsimp only;omega⟩
  ·have hc:(E1 m ks n).cell=true:=by simpa using hc
   have hR:=at6 sp rd ks e3 ⟨m,cc,c,q⟩ i (B6 x4)
   dsimp only at hR
   refine ⟨⟨hp5,hok hc,hp7,by omega,by omega,by omega⟩,by omega,((k+1:Nat),_,_,_,_,()),B4 (m:=(B6 x4).length) hkc (by omega),rfl,rfl,rfl,rfl,⟨by omega,by dsimp only;omega,?_⟩,by dsimp only;omega⟩
   dsimp only
   rw [Int.toNat_natCast,hstep]
   simp only [K5,hc,cond_true]
   rfl
 have hk:k=(B6 x4).length:=by have:¬ (k:Int)<(B6 x4).length:=of_decide_eq_false hge;omega
 subst hk
 rw [List.take_length,←he6] at h2
 clear he6 hok1 h0 h1 hge hL
 subst h2
 dsimp only at hL6 hD hok2 ⊢
 refine ⟨⟨(0,[],()),rfl,rfl,Int.le_refl _,by dsimp only;omega,rfl⟩,?_⟩
 rintro ⟨j,sl,⟨⟩⟩ ⟨h0,h1,h2⟩
 dsimp only at h0 h1 h2 ⊢
 obtain ⟨k,rfl⟩:=Int.eq_ofNat_of_zero_le h0
 simp only [Int.toNat_natCast] at h2 ⊢
 refine ⟨fun hlt=>?_,fun hge=>?_⟩
 ·have hlt:(k:Int)<(B6 x4).length:=of_decide_eq_true hlt
  have hkc:k<(B6 x4).length:=by omega
  refine ⟨⟨h0,hlt⟩,hp7,((k+1:Nat),_,()),B4 (m:=(B6 x4).length) hkc (by omega),rfl,⟨by omega,by dsimp only;omega,?_⟩,by dsimp only;omega⟩
  dsimp only
  rw [Int.toNat_natCast,A4 hkc 0,h2]
  simp only [ac4,List.foldl_append,List.foldl_cons,List.foldl_nil]
 have hk:k=(B6 x4).length:=by have:¬ (k:Int)<(B6 x4).length:=of_decide_eq_false hge;omega
 subst hk
 rw [List.take_length] at h2
 subst h2
 clear h0 h1 hge
 refine ⟨⟨(0,m,cc,c,q,()),rfl,rfl,rfl,rfl,rfl,Int.le_refl _,by dsimp only;omega,rfl⟩,?_⟩
 rintro ⟨j,m2,cc2,c2,q2,⟨⟩⟩ ⟨h0,h1,h2⟩
 dsimp only at h0 h1 h2 ⊢
 obtain ⟨k,rfl⟩:=Int.eq_ofNat_of_zero_le h0
 simp only [Int.toNat_natCast] at h2 ⊢
 have hT:=aH9 sp rd ks e3 i x3 (x3.take k) ⟨m,cc,c,q⟩
 rw [h2,List.length_take] at hT
 dsimp only at hT
 refine ⟨fun hlt=>?_,fun hge=>?_⟩
 ·have hlt:(k:Int)<x3.length:=of_decide_eq_true hlt
  have hkc:k<x3.length:=by omega
  have hok:=hok2 k hkc
  rw [h2] at hok
  have hstep:Q9 sp rd ks e3 i x3 ⟨m,cc,c,q⟩ (x3.take (k+1))=aw8 sp rd ks e3 i x3 ⟨m2,cc2,c2,q2⟩ (x3.getD k 0):=by
   rw [A4 hkc 0,aO2,h2]
  refine ⟨⟨h0,hlt⟩,⟨hp5,hok,hp7,by omega,by omega,by omega⟩,((k+1:Nat),_,_,_,_,()),B4 (m:=x3.length) hkc (by omega),rfl,rfl,rfl,rfl,⟨by omega,by dsimp only;omega,?_⟩,by dsimp only;omega⟩
  dsimp only
  rw [Int.toNat_natCast,hstep]
  rfl
 ·have hk:k=x3.length:=by have:¬ (k:Int)<x3.length:=of_decide_eq_false hge;omega
  subst hk
  rw [List.take_length] at h2
  rw [h2] at hD
  refine ⟨⟨hp1,hp7⟩,by omega,?_⟩
  rw [hD]
theorem bW2:C5 prog RG 53 cDo:=br9 cg9 (A5 aH8 (A5 at5 (A5 bB0 (A5 aO0 (A5 aU9 B8))))) (fun (i,x1,x2,x3,x4,x5,a0,a1,a2,a3,sp,rd,ho,ce,op,ks,oc,cd,ou,())=>lDo sp rd ks a1.length i x3 x4 ⟨ho,ce,oc,cd⟩) (by kernel_rfl) (by kernel_rfl) (by kernel_rfl) fun (i,x1,x2,x3,x4,x5,a0,a1,a2,a3,sp,rd,ho,ce,op,ks,oc,cd,ou,()) hp=>cm2 i x1 x2 x3 x4 x5 a0 a1 a2 a3 sp rd ho ce op ks oc cd ou hp
end Go.Rg
end
