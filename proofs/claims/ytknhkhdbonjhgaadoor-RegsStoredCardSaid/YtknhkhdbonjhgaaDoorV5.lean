/-
What the last text of this claim uses: RgO, RgP, RgEq6, RgQ, RgR, RgU, RgY, RgZ, RgBa, RgEq11, RgBb, RgBc, RgEq12, RgBd, RgBe, RgEq13, RgBf, RgBg, RgBh, RgEq14, RgBi, RgBj, RgEq15, RgBk, RgBl, RgBm, RgBn, RgEq16, RgBo, RgBp, RgRow, RgEq17, RgEq18, RgBq, RgBr, RgEq19, RgBs, RgBu, RgBv, RgCa.
-/
import Derived.Test.YtknhkhdbonjhgaaDoorV4
import Derived.Test.YtknhkhdbonjhgaaDoorRows
import Derived.ProofKit
import Derived.LaidMore
import Derived.Stop.Joined
import Derived.ChangeSame
set_option linter.unusedVariables false
set_option linter.unusedSimpArgs false
set_option maxRecDepth 100000
noncomputable section
section
namespace Go.Rg
open Go Go.VT
theorem bV9 {n:Int} {k:Nat}:n∈upto k↔0≤n∧n<k:=by
 unfold upto
 simp only [List.mem_map,List.mem_range]
 constructor
 ·rintro ⟨j,hj,rfl⟩;omega
 ·rintro ⟨h1,h2⟩;exact ⟨n.toNat,by omega,by omega⟩
theorem bM6 (k:Nat):incr (upto k):=by
 unfold incr upto
 rw [List.pairwise_map]
 exact List.Pairwise.imp (fun h=>by omega) List.pairwise_lt_range
theorem aA9 (out:List Int):∀ (code:List Ins) (p:Nat),incr (atL code out p)
 |[],0=>by
  show incr (C6 [] out)
  exact ag3 List.Pairwise.nil _
 |[],p+1=>by
  show incr (([C6 [] out]:List (List Int)).getD (p+1) [])
  simp [incr]
 |x::r,0=>by
  show incr (ag2 x _)
  exact ag3 (ag3 List.Pairwise.nil _) _
 |x::r,p+1=>by
  rw [aj7]
  exact aA9 out r p
theorem aU6 {a:Int} {b:List Ins} {c:List Int} (C:Checked a b c) {n:Int} {p:Nat} (h:n∈atL b c p):0≤n∧n≤3999:=by
 have hf:=C.fromR
 have ho:=C.outR
 clear C
 induction b generalizing p with
 |nil=>
  cases p with
  |zero=>exact ho n (by simpa [atL,E0,M0] using h)
  |succ p=>simp [atL,E0] at h
 |cons x r ih=>
  cases p with
  |zero=>
   rw [V0,aj6,←V0] at h
   rcases h with h|h
   ·exact hf x (by simp) n h
   ·exact ih h.1 (fun y hy=>hf y (by simp [hy]))
  |succ p=>
   rw [aj7] at h
   exact ih h (fun y hy=>hf y (by simp [hy]))
theorem bW0 {a:Int} {b:List Ins} {c:List Int} (C:Checked a b c):aa6 (A6 a b c) b.length 4000=E0 b c:=by
 apply List.ext_getElem?
 intro p
 unfold aa6
 rw [cp9]
 by_cases hp:p<b.length+1
 ·rw [List.getElem?_range hp,Option.map_some]
  have h1:(E0 b c)[p]? =some (atL b c p):=by
   unfold atL
   rw [cp8,co6 (by rw [L1];exact hp)]
   rfl
  rw [h1]
  congr 1
  refine bt2 (List.Pairwise.filter _ (bM6 4000)) (aA9 c b p) (fun n=>?_)
  rw [List.mem_filter,bV9,bt8 C n p (by omega)]
  constructor
  ·exact fun h=>h.2
  ·intro h
   have:=aU6 C h
   exact ⟨by omega,h⟩
 ·rw [List.getElem?_eq_none (by simp;omega),List.getElem?_eq_none (by rw [L1];omega)]
  rfl
theorem V1 (m:Spans) (L:Nat) (n q:Int):(P4 m L n q).length=L+1:=by simp [P4]
theorem be2 (m:Spans) (L k:Nat):P4 m L k (getS m k).first=aa6 m L k:=by
 unfold P4 aa6
 apply List.map_congr_left
 intro p hp
 rw [if_neg,List.append_nil,co8]
 rintro ⟨h1,h2⟩
 unfold W5 at h2
 unfold getS at h1
 split at h2
 ·rename_i s hs
  rw [hs] at h1
  simp [H1] at h2 h1
  omega
 ·cases h2
theorem bA7 (m:Spans) (L k:Nat) (q:Int) (h:(mget eqI m k).isSome=false∨(getS m k).last<q):P4 m L k q=aa6 m L (k+1):=by
 unfold P4 aa6
 apply List.map_congr_left
 intro p hp
 rw [co8,bd4,List.filter_append]
 congr 1
 by_cases hl:W5 m p k=true
 ·have hlt:(p:Int)<q:=by
   have hl':=hl
   unfold W5 at hl'
   split at hl'
   ·rename_i s hs
    rcases h with h|h
    ·rw [hs] at h;cases h
    ·unfold getS at h
     rw [hs] at h
     simp [H1] at hl' h
     omega
   ·cases hl'
  rw [List.filter_cons_of_pos hl,List.filter_nil,if_pos ⟨hlt,hl⟩]
 ·rw [List.filter_cons_of_neg (by simpa using hl),List.filter_nil,if_neg (fun h'=>hl h'.2)]
theorem bm1 (m:Spans) (L k q:Nat) (hq:q≤L) (hl:W5 m q k=true):(P4 m L k q).set q ((P4 m L k q).getD q []++[(k:Int)])=P4 m L k ((q+1:Nat):Int):=by
 apply List.ext_getElem?
 intro p
 rw [cq9,V1]
 by_cases hp:q=p
 ·subst hp
  rw [if_pos rfl,if_pos (by omega),cp8]
  unfold P4
  rw [cp9,cp9,List.getElem?_range (by omega)]
  simp only [Option.map_some,Option.getD_some,hl,and_true]
  rw [if_neg (by omega),if_pos (by omega),List.append_nil]
 ·rw [if_neg hp]
  unfold P4
  rw [cp9,cp9]
  by_cases hpl:p<L+1
  ·rw [List.getElem?_range hpl]
   simp only [Option.map_some]
   by_cases h1:(p:Int)<q
   ·simp only [h1,show (p:Int)<((q+1:Nat):Int) by omega,true_and]
   ·rw [if_neg (fun h=>h1 h.1),if_neg (fun h=>by have:=h.1;omega)]
  ·rw [List.getElem?_eq_none (by simp;omega)]
   rfl
theorem bm2 {a:Int} {b:List Ins} {c:List Int} {n:Int} {s:Span} (h:mget eqI (A6 a b c) n=some s):0≤s.first∧s.first≤b.length∧s.last≤b.length:=by
 have key:∀ (m:Spans),(∀ n s,mget eqI m n=some s→0≤s.first∧s.first≤(b.length:Int)∧s.last≤(b.length:Int))→∀ (l:List Int) (i:Int),0≤i→i≤b.length→(∀ n s,mget eqI (L0 m l i) n=some s→0≤s.first∧s.first≤(b.length:Int)∧s.last≤(b.length:Int))∧(∀ n s,mget eqI (uses m l i) n=some s→0≤s.first∧s.first≤(b.length:Int)∧s.last≤(b.length:Int)):=by
  intro m hm l i hi0 hi
  refine ⟨fun n s h=>?_,fun n s h=>?_⟩
  ·rw [W6] at h
   split at h
   ·cases h;exact ⟨hi0,hi,by dsimp only;omega⟩
   ·exact hm n s h
  ·rw [ar2] at h
   split at h
   ·simp only [co4] at h
    subst h
    cases hg:mget eqI m n with
    |none=>simp [getS,hg];omega
    |some s'=>
     have:=hm n s' hg
     simp [getS,hg];omega
   ·exact hm n s h
 have hC:∀ (code:List Ins) (m:Spans) (i:Int),0≤i→i+code.length≤b.length→(∀ n s,mget eqI m n=some s→0≤s.first∧s.first≤(b.length:Int)∧s.last≤(b.length:Int))→∀ n s,mget eqI (J5 m code i) n=some s→0≤s.first∧s.first≤(b.length:Int)∧s.last≤(b.length:Int):=by
  intro code
  induction code with
  |nil=>intro m i _ _ h;exact h
  |cons x r ih=>
   intro m i h0 h1 h2
   simp only [cq0,Int.natCast_add] at h1
   exact ih _ (i+1) (by omega) (by omega) (key _ (key m h2 x.from_ i h0 (by omega)).2 x.to (i+1) (by omega) (by omega)).1
 have h0:∀ n s,mget eqI (L5 a) n=some s→0≤s.first∧s.first≤(b.length:Int)∧s.last≤(b.length:Int):=by
  intro n s h
  unfold L5 at h
  rw [aI2] at h
  split at h
  ·cases h;dsimp only;omega
  ·cases h
 have h1:∀ n s,mget eqI (L6 a b c) n=some s→0≤s.first∧s.first≤(b.length:Int)∧s.last≤(b.length:Int):=
  (key _ (hC b (L5 a) 0 (by omega) (by omega) h0) c b.length (by omega) (Int.le_refl _)).2
 unfold A6 at h
 rw [aU5] at h
 cases hs:mget eqI (L6 a b c) n with
 |none=>rw [hs] at h;cases h
 |some s'=>
  rw [hs] at h
  simp only [Option.map_some,co4] at h
  have:=h1 n s' hs
  subst h
  unfold finS
  split
  ·show 0≤(0:Int)∧(0:Int)≤_∧(-1:Int)≤_
   omega
  ·exact this
theorem bm3 (a:Int) (b:List Ins) (c:List Int) (n:Int):0≤(getS (A6 a b c) n).first∧(getS (A6 a b c) n).first≤b.length∧(getS (A6 a b c) n).last≤b.length:=by
 unfold getS
 cases h:mget eqI (A6 a b c) n with
 |none=>simp
 |some s=>exact bm2 h
theorem cf6 (a:Int) (b:List Ins) (c d:List Int):vc (EVd [(23,[0])] noIt [(41,cCheck),(51,cSpans),(69,cAt)]) (cf3 a b c) Go.Proofs.Tryd.f33 cLive (a,b,c,d,()):=by
 rw [cf4 a b c d]
 intro e0 e1 e2 e3 e4 e5 hb _ _
 have he3:e3=((P8 ⟨a,b,c,d⟩).1,(P8 ⟨a,b,c,d⟩).2,()):=rfl
 refine ⟨fun h=>?_,fun h=>?_⟩
 ·have h:E2 ⟨a,b,c,d⟩≠0:=by simpa [e0] using h
  rw [he3]
  unfold P8
  rw [if_pos h]
 have h:E2 ⟨a,b,c,d⟩=0:=by simpa [e0] using h
 have C:=bm0 h
 have hlb:=C.len
 have he3:e3=(E0 b c,0,()):=by
  rw [he3]
  unfold P8
  rw [if_neg (by simpa using h)]
 have hw:e1=((b.length+1:Nat):Int):=E9 (by omega) (by omega)
 clear_value e3 e1
 subst he3 hw
 simp only [e0,e2,e4,e5,true_and,and_true,Bool.cond_self]
 refine ⟨⟨by omega,by omega⟩,C.few,⟨(0,List.replicate (b.length+1) [],()),rfl,by dsimp only;rw [co8],Int.le_refl _,by dsimp only;omega,?_⟩,?_⟩
 ·dsimp only
  apply List.ext_getElem?
  intro p
  unfold aa6
  rw [cp9,List.getElem?_replicate]
  by_cases hp:p<b.length+1
  ·rw [if_pos hp,List.getElem?_range hp];rfl
  ·rw [if_neg hp,List.getElem?_eq_none (by simp;omega)];rfl
 rintro ⟨i,out,⟨⟩⟩ ⟨h0,h1,h2⟩
 dsimp only at h0 h1 h2 ⊢
 obtain ⟨k,rfl⟩:=cp0 h0
 rw [co8] at h2
 subst h2
 have hS:(mget (fun x y=>x==y) (A6 a b c) (k:Int)).getD ⟨0,0⟩=getS (A6 a b c) k:=rfl
 rw [hS]
 have hB:=bm3 a b c k
 refine ⟨fun hlt=>⟨⟨((getS (A6 a b c) k).first,aa6 (A6 a b c) b.length k,()),rfl,rfl,hB.1,by dsimp only;omega,Int.le_refl _,(be2 _ _ _).symm⟩,?_⟩,fun hge=>?_⟩
 ·have hlt:(k:Int)<4000:=cp4 hlt
  rintro ⟨q,out,⟨⟩⟩ ⟨q0,q1,q2,q3⟩
  dsimp only at q0 q1 q2 q3 ⊢
  obtain ⟨j,rfl⟩:=cp0 q0
  subst q3
  simp only [co8]
  refine ⟨fun hc=>?_,fun hc=>?_⟩
  ·simp only [co7,cq6] at hc
   have hsp:H1 (getS (A6 a b c) k).first (getS (A6 a b c) k).last j=true:=by
    simp only [H1,co7,Bool.not_eq_true',Bool.and_eq_false_iff,decide_eq_false_iff_not,cq6]
    omega
   have hla:W5 (A6 a b c) j k=true:=by
    unfold W5
    unfold getS at hsp
    have hsome:(mget eqI (A6 a b c) (k:Int)).isSome=true:=hc.1
    cases hm:mget eqI (A6 a b c) (k:Int) with
    |none=>rw [hm] at hsome;cases hsome
    |some s=>rw [hm] at hsp;exact hsp
   have hj:j≤b.length:=by omega
   have hlen:∀ x∈P4 (A6 a b c) b.length k j,x.length≤4001:=by
    intro x hx
    unfold P4 at hx
    obtain ⟨p,_,rfl⟩:=List.mem_map.1 hx
    rw [cq5,co8]
    have h3:((upto k).filter (W5 (A6 a b c) p)).length≤k:=by
     refine Nat.le_trans (List.length_filter_le _ _) ?_
     simp [upto]
    split<;>simp<;>omega
   refine ⟨fun _=>⟨⟨q0,by rw [V1];omega⟩,?_,q0,by rw [V1];omega⟩,((j+1:Nat),P4 (A6 a b c) b.length k ((j+1:Nat):Int),()),B6 (m:=b.length+1) (by omega) (by omega),?_,⟨by omega,by dsimp only;omega,by dsimp only;omega,rfl⟩,by dsimp only;omega⟩
   ·have:=hlen _ (G5 (l:=P4 (A6 a b c) b.length k j) (i:=j) (by rw [V1];omega) [])
    simp only [cq8]
    omega
   ·rw [hsp]
    exact bm1 _ _ _ _ hj hla
  ·refine ⟨((k+1:Nat),aa6 (A6 a b c) b.length (k+1),()),B6 (m:=4000) (by omega) (by omega),?_,⟨by omega,by dsimp only;omega,by rw [co8]⟩,by dsimp only;omega⟩
   refine bA7 _ _ _ _ ?_
   rw [Bool.and_eq_false_iff,decide_eq_false_iff_not] at hc
   rcases hc with hc|hc
   ·exact .inl hc
   ·exact .inr (by omega)
 ·have hk:k=4000:=by have:¬ (k:Int)<4000:=cp3 hge;omega
  subst hk
  refine ⟨⟨by omega,Int.le_refl _,Int.le_refl _⟩,?_⟩
  rw [co8,cr2,bW0 C]
theorem aO6:C8 prog RG 33 cLive:=bt1 bJ2 (A8 an7 (A8 aI1 (A8 bt4 B8))) (fun p=>cf3 p.1 p.2.1 p.2.2.1) (by kernel_rfl) (by kernel_rfl) (by kernel_rfl) fun (a,b,c,d,()) _=>cf6 a b c d
def bM7 (m:Int) (p:List Int×Ins):Int:=max m ((C6 p.1 p.2.to).length:Int)
def W7 (lv:List (List Int)) (code:List Ins) (k:Nat):Int:=((lv.tail.zip code).take k).foldl bM7 ((lv.headD []).length:Int)
def ag6 (l m:List Int):Int:=(l.length:Int)+((m.filter fun n=>!l.contains n).length:Int)
def bM8 (code:List Ins) (out:List Int):Nat→St RU→Ann RU:=fun k s=>match k with
 |0=>⟨[],[.slot 27,.slot 6],[i64,i64],fun p=>0≤p.1∧p.1≤code.length∧p.2.1=W7 (E0 code out) code p.1.toNat,fun p=>code.length-p.1.toNat,[]⟩
 |_=>⟨[],[.slot 41,.slot 9],[i64,i64],fun p=>0≤p.1∧p.1≤(code.getD (s.intAt 27).toNat ins0).to.length∧p.2.1=ag6 (atL code out ((s.intAt 27).toNat+1)) ((code.getD (s.intAt 27).toNat ins0).to.take p.1.toNat),fun p=>(code.getD (s.intAt 27).toNat ins0).to.length-p.1.toNat,[]⟩
def ag7 (x3 x4:List Int) (x5:List Ins):Bool:=decide (x3.length≤17592186044416)&&decide (x4.length≤17592186044416)&&decide (x5.length≤1599289640354)&&I7 x5
def getI (m:List (Int×Int)) (n:Int):Int:=(mget eqI m n).getD 0
def cOld:Con RU:=⟨[one,one],[i64,mapI],[.d 0,.ptr 0 0],[.box 84 [.map 1],.map 1],none,none,[one],[i64,mapI],[.d 0],[.box 84 [.map 1],.map 1],fun p=>(getI p.2.1 p.1,p.2),[0,1],[],[]⟩
theorem bW1 (a:Int) (b:List Ins) (c d:List Int):vc (EV [(33,cLive),(61,cContains)]) (bM8 b c) Go.Proofs.Tryd.f29 cPress (a,b,c,d,())=(let e0:Bool:=(P8 (VFun.mk a b c d)).2 !=(0:Int);
 let e1:List (List Int):=(P8 (VFun.mk a b c d)).1;
 let e2:Int:=(P8 (VFun.mk a b c d)).2;
 let e3:Int:=(↑(List.length b):Int);
 let e4:Ins:=Ins.mk (0:Int) (0:Int) [] [] [];
 let e5:Int×Int×Unit:=((W4 (VFun.mk a b c d)).1,(W4 (VFun.mk a b c d)).2,());
 let e6:Int:=(↑(List.length e1):Int);
  Small RU (Sigma.mk (Ty.slice (52:Nat) (Ty.user (0:Nat))) b)→
  Small RU (Sigma.mk (Ty.slice (3:Nat) (Ty.int IntKind.i64)) c)→
  Small RU (Sigma.mk (Ty.slice (3:Nat) (Ty.int IntKind.i64)) d)→
  (e0=true→((0:Int),e2,())=e5)∧
  (e0=false→
  ((0:Int)≤(0:Int)∧(0:Int)<e6)∧
  (∃ (p:Int×Int×Unit),
  a=a∧
  b=b∧
  c=c∧
  d=d∧
  (0:Int)=(0:Int)∧
  (0:Int)=(0:Int)∧
  e1=e1∧
  e2=e2∧
  e0=e0∧
  b=b∧
  e3=e3∧
  (0:Int)=p.1∧
  (↑(List.length (List.getD e1 (0:Nat) [])):Int)=p.2.1∧
  a=a∧b=b∧c=c∧d=d∧(0:Int)≤p.1∧p.1≤e3∧p.2.1=W7 (E0 b c) b (Int.toNat p.1))∧
  ∀ (p:Int×Int×Unit),
 let e0_1:Bool:=decide (p.1<e3);
 let e1_1:Int:=(↑(List.length (List.getD b (Int.toNat p.1) e4).to):Int);
 let e2_1:Int:=p.2.1;
 let e3_1:Int:=IntKind.i64.wrap (p.1+(1:Int));
 let e4_1:List Int:=(List.getD b (Int.toNat p.1) e4).to;
 let e5_1:Int:=p.1;
 let e6_1:Int:=(List.getD b (Int.toNat e5_1) e4).n;
 let e7:Int:=(List.getD b (Int.toNat e5_1) e4).op;
 let e8:List Int:=(List.getD b (Int.toNat e5_1) e4).from_;
 let e9:List Ins:=(List.getD b (Int.toNat e5_1) e4).body;
 let e10:Nat:=List.length (List.getD b (Int.toNat e5_1) ins0).to;
  (0:Int)≤e5_1∧e5_1≤e3∧e2_1=W7 (E0 b c) b (Int.toNat e5_1)→
  (e0_1=true→
  ((0:Int)≤e5_1∧e5_1<e3)∧
  ((0:Int)≤e3_1∧e3_1<e6)∧
  (∃ (p:Int×Int×Unit),
  a=a∧
  b=b∧
  c=c∧
  d=d∧
  (0:Int)=(0:Int)∧
  (0:Int)=(0:Int)∧
  e1=e1∧
  e2=e2∧
  e0=e0∧
  b=b∧
  e3=e3∧
  e5_1=e5_1∧
  e2_1=e2_1∧
  e0_1=e0_1∧
  e5_1=e5_1∧
  e4_1=e4_1∧
  e1_1=e1_1∧
  (0:Int)=p.1∧
  (↑(List.length (List.getD e1 (Int.toNat e3_1) [])):Int)=p.2.1∧
  a=a∧
  b=b∧
  c=c∧
  d=d∧
  e7=e7∧
  e6_1=e6_1∧
  e4_1=e4_1∧
  e8=e8∧
  e9=e9∧
  (0:Int)≤p.1∧
  p.1≤(↑e10:Int)∧
  p.2.1=
  ag6 (atL b c (Int.toNat e5_1+(1:Nat)))
  (List.take (Int.toNat p.1) (List.getD b (Int.toNat e5_1) ins0).to))∧
  ∀ (p:Int×Int×Unit),
 let e0_2:Bool:=!List.contains (List.getD e1 (Int.toNat e3_1) []) (List.getD e4_1 (Int.toNat p.1) (0:Int));
 let e1_2:Int:=p.2.1;
 let e2_2:Int:=p.1;
 let e3_2:Bool:=decide (e2_2<e1_1);
 let e4:List Int:=atL b c (Int.toNat e5_1+(1:Nat));
  (0:Int)≤e2_2∧e2_2≤(↑e10:Int)∧e1_2=ag6 e4 (List.take (Int.toNat e2_2) (List.getD b (Int.toNat e5_1) ins0).to)→
  (e3_2=true→
  ((0:Int)≤e2_2∧e2_2<e1_1)∧
  ((0:Int)≤e3_1∧e3_1<e6)∧
  ∃ (p':Int×Int×Unit),
  (bif e0_2 then a else a)=a∧
  (bif e0_2 then b else b)=b∧
  (bif e0_2 then c else c)=c∧
  (bif e0_2 then d else d)=d∧
  (bif e0_2 then (0:Int) else (0:Int))=(0:Int)∧
  (bif e0_2 then (0:Int) else (0:Int))=(0:Int)∧
  (bif e0_2 then e1 else e1)=e1∧
  (bif e0_2 then e2 else e2)=e2∧
  (bif e0_2 then e0 else e0)=e0∧
  (bif e0_2 then b else b)=b∧
  (bif e0_2 then e3 else e3)=e3∧
  (bif e0_2 then e5_1 else e5_1)=e5_1∧
  (bif e0_2 then e2_1 else e2_1)=e2_1∧
  (bif e0_2 then e0_1 else e0_1)=e0_1∧
  (bif e0_2 then e5_1 else e5_1)=e5_1∧
  (bif e0_2 then e4_1 else e4_1)=e4_1∧
  (bif e0_2 then e1_1 else e1_1)=e1_1∧
  IntKind.i64.wrap ((bif e0_2 then e2_2 else e2_2)+(1:Int))=p'.1∧
  (bif e0_2 then IntKind.i64.wrap (e1_2+(1:Int)) else e1_2)=p'.2.1∧
  (bif e0_2 then a else a)=a∧
  (bif e0_2 then b else b)=b∧
  (bif e0_2 then c else c)=c∧
  (bif e0_2 then d else d)=d∧
  (bif e0_2 then e7 else e7)=e7∧
  (bif e0_2 then e6_1 else e6_1)=e6_1∧
  (bif e0_2 then e4_1 else e4_1)=e4_1∧
  (bif e0_2 then e8 else e8)=e8∧
  (bif e0_2 then e9 else e9)=e9∧
  ((0:Int)≤p'.1∧
  p'.1≤(↑e10:Int)∧
  p'.2.1=ag6 e4 (List.take (Int.toNat p'.1) (List.getD b (Int.toNat e5_1) ins0).to))∧
  e10-Int.toNat p'.1<e10-Int.toNat e2_2)∧
  (e3_2=false→
  ∃ (p':Int×Int×Unit),
  a=a∧
  b=b∧
  c=c∧
  d=d∧
  (0:Int)=(0:Int)∧
  (0:Int)=(0:Int)∧
  e1=e1∧
  e2=e2∧
  e0=e0∧
  b=b∧
  e3=e3∧
  e3_1=p'.1∧
  (if e1_2 >e2_1 then e1_2 else e2_1)=p'.2.1∧
  a=a∧
  b=b∧
  c=c∧
  d=d∧
  ((0:Int)≤p'.1∧p'.1≤e3∧p'.2.1=W7 (E0 b c) b (Int.toNat p'.1))∧
  List.length b-Int.toNat p'.1<List.length b-Int.toNat e5_1))∧
  (e0_1=false→(e2_1,(0:Int),())=e5))):=by kernel_rfl
theorem aI4 {l:List Int} (h:incr l) (n:Int):(T1 l n).length=if n∈l then l.length else l.length+1:=by
 induction l with
 |nil=>simp [T1]
 |cons x r ih=>
  obtain ⟨h1,h2⟩:=List.pairwise_cons.1 h
  simp only [T1]
  by_cases hx:x=n
  ·simp [hx]
  ·rw [if_neg hx]
   by_cases hlt:n<x
   ·have:n∉x::r:=by
     intro hm
     rcases List.mem_cons.1 hm with hm|hm
     ·exact hx hm.symm
     ·have:=h1 n hm;omega
    simp [hlt,this]
   ·rw [if_neg hlt,cq0,ih h2]
    have:(n∈x::r)=(n∈r):=by simp [Ne.symm hx]
    simp only [this,cq0]
    split<;>omega
theorem be3 {l:List Int} (h:incr l):∀ {m:List Int},m.Nodup→((C6 l m).length:Int)=ag6 l m:=by
 intro m
 induction m generalizing l with
 |nil=>intro _;simp [C6,ag6]
 |cons x r ih=>
  intro hn
  obtain ⟨hn1,hn2⟩:=List.nodup_cons.1 hn
  rw [show C6 l (x::r)=C6 (T1 l x) r from rfl,ih (aO1 h x) hn2]
  unfold ag6
  have hf:(r.filter fun n=>!(T1 l x).contains n)=r.filter fun n=>!l.contains n:=by
   apply List.filter_congr
   intro y hy
   have:(T1 l x).contains y=l.contains y:=by
    rw [Bool.eq_iff_iff,List.contains_iff_mem,List.contains_iff_mem,aH2]
    constructor
    ·rintro (rfl|h)
     ·exact absurd hy hn1
     ·exact h
    ·exact .inr
   rw [this]
  rw [hf,aI4 h,List.filter_cons]
  by_cases hx:x∈l
  ·simp [hx]
  ·simp [hx];omega
theorem bA8 (b:List Ins) (c:List Int) {k:Nat} (h:k<b.length):W7 (E0 b c) b (k+1)=max (W7 (E0 b c) b k) ((C6 (atL b c (k+1)) (b.getD k ins0).to).length:Int):=by
 unfold W7
 have hlen:k<((E0 b c).tail.zip b).length:=by
  rw [List.length_zip,List.length_tail,L1];omega
 have hk:((E0 b c).tail.zip b).getD k ([],ins0)=(atL b c (k+1),b.getD k ins0):=by
  rw [cp8,co6 hlen]
  simp only [Option.getD_some,List.getElem_zip]
  unfold atL
  rw [cp8,cp8,co6 (by rw [L1];omega),co6 h]
  simp
 rw [A5 hlen ([],ins0),hk,List.foldl_append]
 rfl
theorem aU7 {a:Int} {b:List Ins} {c:List Int} (C:Checked a b c) {k:Nat} (h:k<b.length):(b.getD k ins0).to.Nodup:=by
 have h1:=G0.1 C.once
 have h2:=bL9 h
 have h3:(wr (b.take (k+1))).Nodup:=by
  rw [←List.take_append_drop (k+1) b,P5] at h1
  exact (List.nodup_append.1 h1).1
 rw [h2] at h3
 exact (List.nodup_append.1 h3).2.1
theorem bA9 {l m:List Int} {j:Nat} (h:j<m.length):ag6 l (m.take (j+1))=if !l.contains (m.getD j 0) then ag6 l (m.take j)+1 else ag6 l (m.take j):=by
 unfold ag6
 rw [A5 h 0,List.filter_append,cq5,List.filter_cons]
 split<;>simp<;>omega
theorem bW2 (a:Int) (b:List Ins) (c d:List Int):vc (EV [(33,cLive),(61,cContains)]) (bM8 b c) Go.Proofs.Tryd.f29 cPress (a,b,c,d,()):=by
 rw [bW1 a b c d]
 intro e0 e1 e2 e3 e4 e5 e6 hb _ _
 have he5:e5=((W4 ⟨a,b,c,d⟩).1,(W4 ⟨a,b,c,d⟩).2,()):=rfl
 have he4:e4=ins0:=rfl
 have hl2:(P8 ⟨a,b,c,d⟩).2=E2 ⟨a,b,c,d⟩:=by
  unfold P8
  by_cases h:E2 ⟨a,b,c,d⟩=0
  ·rw [if_neg (by simpa using h),h]
  ·rw [if_pos h]
 refine ⟨fun h=>?_,fun h=>?_⟩
 ·have h:E2 ⟨a,b,c,d⟩≠0:=by simpa [e0,hl2] using h
  rw [he5]
  unfold W4
  rw [if_pos h]
  simp only [e2,hl2]
 have h:E2 ⟨a,b,c,d⟩=0:=by simpa [e0,hl2] using h
 have C:=bm0 h
 have hlb:=C.len
 have he1:e1=E0 b c:=by
  show (P8 ⟨a,b,c,d⟩).1=_
  unfold P8
  rw [if_neg (by simpa using h)]
 have he5:e5=(W7 (E0 b c) b b.length,0,()):=by
  rw [he5]
  unfold W4
  rw [if_neg (by simpa using h)]
  unfold W7
  rw [List.take_of_length_le (by rw [List.length_zip];omega)]
  rfl
 have he6:e6=b.length+1:=by
  show ((List.length e1:Nat):Int)=_
  rw [he1,L1];rfl
 clear_value e5 e1 e6 e4
 subst he5 he1 he4 he6
 dsimp only [e3]
 simp only [true_and,and_true,Bool.cond_self]
 refine ⟨⟨Int.le_refl _,by omega⟩,⟨(0,_,()),rfl,rfl,Int.le_refl _,by dsimp only;omega,?_⟩,?_⟩
 ·show ((atL b c 0).length:Int)=W7 (E0 b c) b 0
  rw [V0]
  rfl
 rintro ⟨i,m,⟨⟩⟩ ⟨h0,h1,h2⟩
 dsimp only at h0 h1 h2 ⊢
 subst h2
 obtain ⟨k,rfl⟩:=cp0 h0
 simp only [co8]
 refine ⟨fun hlt=>?_,fun hge=>?_⟩
 ·have hlt:(k:Int)<b.length:=cp4 hlt
  have hw:IntKind.i64.wrap ((k:Int)+1)=((k+1:Nat):Int):=B6 (by omega) (by omega:b.length≤140737488355328)
  rw [hw]
  simp only [co8]
  have hto:(b.getD k ins0).to.length≤140737488355328:=aH5 (b:=b) hb (by omega)
  have hat:(E0 b c).getD (k+1) []=atL b c (k+1):=rfl
  rw [hat]
  refine ⟨⟨h0,hlt⟩,⟨by omega,by omega⟩,⟨(0,_,()),rfl,rfl,Int.le_refl _,by dsimp only;omega,by simp [ag6]⟩,?_⟩
  rintro ⟨q,n,⟨⟩⟩ ⟨q0,q1,q2⟩
  dsimp only at q0 q1 q2 ⊢
  obtain ⟨j,rfl⟩:=cp0 q0
  subst q2
  simp only [co8]
  have hal:(atL b c (k+1)).length≤4000:=by
   have h3:=aA9 c b (k+1)
   have h4:((atL b c (k+1)).map Int.toNat).Nodup:=by
    rw [List.Nodup,List.pairwise_map]
    exact h3.imp_of_mem (fun {x y} hx hy hxy he=>by have:=aU6 C hx;have:=aU6 C hy;omega)
   have:=aA8 4000 _ h4 (fun x hx=>by
    obtain ⟨y,hy,rfl⟩:=List.mem_map.1 hx
    have:=aU6 C hy
    omega)
   simpa using this
  refine ⟨fun hc=>?_,fun hc=>?_⟩
  ·have hc:(j:Int)<(b.getD k ins0).to.length:=cp4 hc
   have hb2:ag6 (atL b c (k+1)) ((b.getD k ins0).to.take j)≤4000+j:=by
    unfold ag6
    have:=List.length_filter_le (fun n=>!(atL b c (k+1)).contains n) ((b.getD k ins0).to.take j)
    rw [cr3] at this
    omega
   have hb3:0≤ag6 (atL b c (k+1)) ((b.getD k ins0).to.take j):=by unfold ag6;omega
   refine ⟨⟨q0,hc⟩,⟨by omega,by omega⟩,((j+1:Nat),ag6 (atL b c (k+1)) ((b.getD k ins0).to.take (j+1)),()),B6 (by omega) hto,?_,⟨by omega,by dsimp only;omega,by rw [co8]⟩,by dsimp only;omega⟩
   dsimp only
   rw [bA9 (by omega),E9 (by omega) (by omega)]
   cases (!(atL b c (k+1)).contains ((b.getD k ins0).to.getD j 0))<;>rfl
  ·have hj:j=(b.getD k ins0).to.length:=by have:¬ (j:Int)<(b.getD k ins0).to.length:=cp3 hc;omega
   subst hj
   rw [cr2]
   refine ⟨((k+1:Nat),W7 (E0 b c) b (k+1),()),rfl,?_,⟨by omega,by dsimp only;omega,by rw [co8]⟩,by dsimp only;omega⟩
   dsimp only
   rw [bA8 b c (by omega),be3 (aA9 c b (k+1)) (aU7 C (by omega))]
   split<;>omega
 ·have hk:k=b.length:=by have:¬ (k:Int)<b.length:=cp3 hge;omega
  subst hk
  rfl
theorem bm4:C8 prog RG 29 cPress:=E5 (A8 aO6 (A8 N0 B8)) (fun p=>bM8 p.2.1 p.2.2.1) (by kernel_rfl) (by kernel_rfl) (by kernel_rfl) fun (a,b,c,d,()) _=>bW2 a b c d
theorem aU8 {A l:List Int} {i:Nat} (hA:A.length=i) (h:i<l.length):(A++l.drop i).getD i 0=l.getD i 0:=by
 rw [cp8,cp8,cq3 (by omega),hA,Nat.sub_self,List.getElem?_drop,Nat.add_zero]
theorem aU9 {A l:List Int} {i:Nat} (hA:A.length=i) (h:i<l.length) (v:Int):(A++l.drop i).set i v=(A++[v])++l.drop (i+1):=by
 rw [List.set_append_right _ _ (by omega),hA,Nat.sub_self,List.drop_eq_getElem_cons h,List.set_cons_zero]
 simp
theorem aj9 {A l:List Int} {i:Nat} (hA:A.length=i) (h:i≤l.length):(A++l.drop i).length=l.length:=by
 rw [cq5,List.length_drop];omega
theorem ak0 {x3 x4:List Int} {x5:List Ins}:ag7 x3 x4 x5=true↔(x3.length≤17592186044416∧x4.length≤17592186044416∧x5.length≤1599289640354)∧I7 x5=true:=by
 simp only [ag7,co7,cq6]
 constructor
 ·rintro ⟨⟨⟨h1,h2⟩,h3⟩,h4⟩;exact ⟨⟨h1,h2,h3⟩,h4⟩
 ·rintro ⟨⟨h1,h2,h3⟩,h4⟩;exact ⟨⟨⟨h1,h2⟩,h3⟩,h4⟩
structure Named (a:Int) (W:List Int) (m:List (Int×Int)):Prop where
 len:(m.length:Int)=a+W.length
 par:∀ n,0≤n→n<a→mget eqI m n=some n
 wr:∀ n∈W,mget eqI m n=some (a+G4 W n)
 out:∀ n,a≤n→n∉W→mget eqI m n=none
theorem ad2 (b:List Ins) (c:List Int) {k:Nat} (h:k≤b.length):atL b c k=(E0 (b.drop k) c).headD []:=by
 have h1:=au7 c (b.drop k) (b.take k) 0
 rw [List.take_append_drop,cr3,Nat.min_eq_left h,Nat.add_zero] at h1
 rw [h1,V0]
theorem ag8 (b:List Ins) (c:List Int) {k:Nat} (h:k<b.length):E0 (b.drop k) c=ag2 (b.getD k ins0) (atL b c (k+1))::E0 (b.drop (k+1)) c:=by
 rw [List.drop_eq_getElem_cons h]
 simp only [E0]
 rw [←ad2 b c (k:=k+1) (by omega),cp8,co6 h]
 rfl
def R8 (b:List Ins):Bool:=b.all fun x=>decide (x.from_.length≤17592186044400)&&decide (x.to.length≤17592186044400)
def H3 (n:Int) (l:List Int):Bool:=l.all fun x=>decide (0≤x)&&decide (x<n)
def Z7 (slots cells:Int) (x:RIns):Bool:=
 if x.kind=0 then H3 slots x.ins.from_&&H3 slots x.ins.to else if x.kind=1∨x.kind=2 then H3 slots [x.slot]&&H3 cells [x.cell] else false
def U0 (slots cells:Int) (p:Place):Bool:=H3 (if p.cell then cells else slots) [p.n]
def I9 (c:RCode):Bool:=
 (H3 4001 [c.params]&&H3 65 [c.slots]&&decide (1≤c.slots)&&decide (c.params≤c.cells)&&decide (c.cells≤8000))&&c.code.all (Z7 c.slots c.cells)&&c.out.all (U0 c.slots c.cells)
def cShaped:Con RU:=con [(true,5)] bJ4 [one] [.bool] [false] (some fun p=>-9223372036854775808≤p.2.1∧p.2.1<9223372036854775808) fun p=>(I9 ⟨p.1,p.2.1,p.2.2.1,p.2.2.2.1,p.2.2.2.2.1⟩,())
def bm5 (slots cells:Int) (l:List RIns) (o:List Place):Nat→St RU→Ann RU:=fun k s=>match k with
 |0=>⟨[],[.slot 36],[i64],fun p=>0≤p.1∧p.1≤l.length∧(l.take p.1.toNat).all (Z7 slots cells)=true,fun p=>l.length-p.1.toNat,[]⟩
 |_=>⟨[],[.slot 83],[i64],fun p=>0≤p.1∧p.1≤o.length∧(o.take p.1.toNat).all (U0 slots cells)=true,fun p=>o.length-p.1.toNat,[]⟩
theorem bM9 (x1 x2 x3:Int) (l:List RIns) (o:List Place):vc (EV [(92,cIn)]) (bm5 x2 x3 l o) Go.Proofs.Tryd.f60 cShaped (x1,x2,x3,l,o,())=(
 let e0:Bool:=
  ((!List.all [x1] fun (n:den RU.T i64)=>decide ((0:Int)≤n)&&decide (n<(4001:Int)))||
  !List.all [IntKind.i64.wrap (x2-(1:Int))] fun (n:den RU.T i64)=>decide ((0:Int)≤n)&&decide (n<(64:Int)))||
  decide (x3<x1)||
  decide (x3 >(8000:Int));
 let e1:Int:=(↑(List.length l):Int);
 let e2:RIns:=RIns.mk (0:Int) (0:Int) (0:Int) ins0;
 let e3:Int:=(↑(List.length o):Int);
 let e4:Place:=Place.mk false (0:Int);
  Small RU (Sigma.mk (Ty.slice (55:Nat) (Ty.user (1:Nat))) l)→
  Small RU (Sigma.mk (Ty.slice (59:Nat) (Ty.user (2:Nat))) o)→
  (e0=true→(false,())=(I9 (RCode.mk x1 x2 x3 l o),()))∧
  (e0=false→
  (∃ (p:Int×Unit),
  x1=x1∧
  x2=x2∧
  x3=x3∧
  l=l∧
  o=o∧
  e0=e0∧
  l=l∧
  e1=e1∧
  (0:Int)=p.1∧
  x1=x1∧x2=x2∧x3=x3∧l=l∧o=o∧[x1]=[x1]∧(0:Int)≤p.1∧p.1≤e1∧List.all (List.take (Int.toNat p.1) l) (Z7 x2 x3)=true)∧
  ∀ (p:Int×Unit),
 let e0_1:Bool:=
  (!List.all [bif (List.getD l (Int.toNat p.1) e2).kind==(1:Int) then (List.getD l (Int.toNat p.1) e2).slot else (List.getD l (Int.toNat p.1) e2).slot] fun (n:den RU.T i64)=>
  decide ((0:Int)≤n)&&decide (n<bif (List.getD l (Int.toNat p.1) e2).kind==(1:Int) then x2 else x2))||
  !List.all [bif (List.getD l (Int.toNat p.1) e2).kind==(1:Int) then (List.getD l (Int.toNat p.1) e2).cell else (List.getD l (Int.toNat p.1) e2).cell] fun (n:den RU.T i64)=>
  decide ((0:Int)≤n)&&decide (n<bif (List.getD l (Int.toNat p.1) e2).kind==(1:Int) then x3 else x3);
 let e1_1:Bool:=
  (!List.all (List.getD l (Int.toNat p.1) e2).ins.from_ fun (n:den RU.T i64)=>decide ((0:Int)≤n)&&decide (n<x2))||
  !List.all (List.getD l (Int.toNat p.1) e2).ins.to fun (n:den RU.T i64)=>decide ((0:Int)≤n)&&decide (n<x2);
 let e2_1:Bool:=(List.getD l (Int.toNat p.1) e2).kind==(1:Int);
 let e3_1:Bool:=decide (p.1<e1);
 let e4_1:Bool:=bif e2_1 then e2_1 else (List.getD l (Int.toNat p.1) e2).kind==(2:Int);
 let e5:Bool:=(List.getD l (Int.toNat p.1) e2).kind==(0:Int);
  (0:Int)≤p.1∧p.1≤e1∧List.all (List.take (Int.toNat p.1) l) (Z7 x2 x3)=true→
  (e3_1=true→
  ((0:Int)≤p.1∧p.1<e1)∧
  (e5=true→
  (e1_1=true→(false,())=(I9 (RCode.mk x1 x2 x3 l o),()))∧
  (e1_1=false→
  ∃ (p':Int×Unit),
  x1=x1∧
  x2=x2∧
  x3=x3∧
  l=l∧
  o=o∧
  e0=e0∧
  l=l∧
  e1=e1∧
  IntKind.i64.wrap (p.1+(1:Int))=p'.1∧
  x1=x1∧
  x2=x2∧
  x3=x3∧
  l=l∧
  o=o∧
  [x1]=[x1]∧
  ((0:Int)≤p'.1∧p'.1≤e1∧List.all (List.take (Int.toNat p'.1) l) (Z7 x2 x3)=true)∧
  List.length l-Int.toNat p'.1<List.length l-Int.toNat p.1))∧
  (e5=false→
  (e4_1=true→
  (e0_1=true→(false,())=(I9 (RCode.mk x1 x2 x3 l o),()))∧
  (e0_1=false→
  ∃ (p':Int×Unit),
  (bif e2_1 then x1 else x1)=x1∧
  (bif e2_1 then x2 else x2)=x2∧
  (bif e2_1 then x3 else x3)=x3∧
  (bif e2_1 then l else l)=l∧
  (bif e2_1 then o else o)=o∧
  (bif e2_1 then e0 else e0)=e0∧
  (bif e2_1 then l else l)=l∧
  (bif e2_1 then e1 else e1)=e1∧
  IntKind.i64.wrap ((bif e2_1 then p.1 else p.1)+(1:Int))=p'.1∧
  (bif e2_1 then x1 else x1)=x1∧
  (bif e2_1 then x2 else x2)=x2∧
  (bif e2_1 then x3 else x3)=x3∧
  (bif e2_1 then l else l)=l∧
  (bif e2_1 then o else o)=o∧
  (bif e2_1 then [x1] else [x1])=[x1]∧
  ((0:Int)≤p'.1∧p'.1≤e1∧List.all (List.take (Int.toNat p'.1) l) (Z7 x2 x3)=true)∧
  List.length l-Int.toNat p'.1<List.length l-Int.toNat p.1))∧
  (e4_1=false→(false,())=(I9 (RCode.mk x1 x2 x3 l o),()))))∧
  (e3_1=false→
  (∃ (p_1:Int×Unit),
  x1=x1∧
  x2=x2∧
  x3=x3∧
  l=l∧
  o=o∧
  e0=e0∧
  l=l∧
  e1=e1∧
  p.1=p.1∧
  e3_1=e3_1∧
  o=o∧
  e3=e3∧
  (0:Int)=p_1.1∧
  x1=x1∧
  x2=x2∧
  x3=x3∧l=l∧o=o∧[x1]=[x1]∧(0:Int)≤p_1.1∧p_1.1≤e3∧List.all (List.take (Int.toNat p_1.1) o) (U0 x2 x3)=true)∧
  ∀ (p_1:Int×Unit),
 let e0_2:Bool:=
  !List.all [bif (List.getD o (Int.toNat p_1.1) e4).cell then (List.getD o (Int.toNat p_1.1) e4).n else (List.getD o (Int.toNat p_1.1) e4).n] fun (n:den RU.T i64)=>
  decide ((0:Int)≤n)&&decide (n<bif (List.getD o (Int.toNat p_1.1) e4).cell then x3 else x2);
 let e1_2:Bool:=(List.getD o (Int.toNat p_1.1) e4).cell;
 let e2:Bool:=decide (p_1.1<e3);
  (0:Int)≤p_1.1∧p_1.1≤e3∧List.all (List.take (Int.toNat p_1.1) o) (U0 x2 x3)=true→
  (e2=true→
  ((0:Int)≤p_1.1∧p_1.1<e3)∧
  (e0_2=true→(false,())=(I9 (RCode.mk x1 x2 x3 l o),()))∧
  (e0_2=false→
  ∃ (p':Int×Unit),
  (bif e1_2 then x1 else x1)=x1∧
  (bif e1_2 then x2 else x2)=x2∧
  (bif e1_2 then x3 else x3)=x3∧
  (bif e1_2 then l else l)=l∧
  (bif e1_2 then o else o)=o∧
  (bif e1_2 then e0 else e0)=e0∧
  (bif e1_2 then l else l)=l∧
  (bif e1_2 then e1 else e1)=e1∧
  (bif e1_2 then p.1 else p.1)=p.1∧
  (bif e1_2 then e3_1 else e3_1)=e3_1∧
  (bif e1_2 then o else o)=o∧
  (bif e1_2 then e3 else e3)=e3∧
  IntKind.i64.wrap ((bif e1_2 then p_1.1 else p_1.1)+(1:Int))=p'.1∧
  (bif e1_2 then x1 else x1)=x1∧
  (bif e1_2 then x2 else x2)=x2∧
  (bif e1_2 then x3 else x3)=x3∧
  (bif e1_2 then l else l)=l∧
  (bif e1_2 then o else o)=o∧
  (bif e1_2 then [x1] else [x1])=[x1]∧
  ((0:Int)≤p'.1∧p'.1≤e3∧List.all (List.take (Int.toNat p'.1) o) (U0 x2 x3)=true)∧
  List.length o-Int.toNat p'.1<List.length o-Int.toNat p_1.1))∧
  (e2=false→(true,())=(I9 (RCode.mk x1 x2 x3 l o),()))))):=by kernel_rfl
theorem bB0 (n:Int) (l:List Int):(l.all fun x=>decide (0≤x)&&decide (x<n))=H3 n l:=rfl
theorem aV0 {α:Type} {p:α→Bool} {l:List α} {k:Nat} (d:α) (hk:k<l.length) (h:p (l.getD k d)=false):l.all p=false:=by
 rw [Bool.eq_false_iff]
 intro ha
 have:=cr4.1 ha _ (G5 hk d)
 rw [h] at this
 cases this
theorem ar4 {α:Type} {p:α→Bool} {l:List α} {k:Nat} (d:α) (hk:k<l.length) (h:(l.take k).all p=true) (h2:p (l.getD k d)=true):(l.take (k+1)).all p=true:=by
 rw [A5 hk d,List.all_append,h]
 simpa using h2
theorem bN0 (x1 x2 x3:Int) (l:List RIns) (o:List Place) (hp:-9223372036854775808≤x2∧x2<9223372036854775808):vc (EV [(92,cIn)]) (bm5 x2 x3 l o) Go.Proofs.Tryd.f60 cShaped (x1,x2,x3,l,o,()):=by
 rw [bM9 x1 x2 x3 l o]
 intro e0 e1 e2 e3 e4 hsl hso
 have hll:l.length≤140737488355328:=hsl.len
 have hlo:o.length≤140737488355328:=hso.len
 have he0:e0=!(H3 4001 [x1]&&H3 65 [x2]&&decide (1≤x2)&&decide (x1≤x3)&&decide (x3≤8000)):=by
  show (((!H3 4001 [x1])||!H3 64 [IntKind.i64.wrap (x2-1)])||decide (x3<x1)||decide (x3 >8000))=_
  have hw:H3 64 [IntKind.i64.wrap (x2-1)]=(H3 65 [x2]&&decide (1≤x2)):=by
   simp only [H3,List.all_cons,List.all_nil,Bool.and_true]
   by_cases h:x2=-9223372036854775808
   ·subst h;decide
   ·rw [E9 (by omega) (by omega),Bool.eq_iff_iff]
    simp
    omega
  have hx:decide (x3<x1)=!decide (x1≤x3):=by rw [Bool.eq_iff_iff];simp
  have hy:decide (x3 >8000)=!decide (x3≤8000):=by rw [Bool.eq_iff_iff];simp
  rw [hw,hx,hy]
  cases H3 4001 [x1]<;>cases H3 65 [x2]<;>cases decide (1≤x2)<;>cases decide (x1≤x3)<;>rfl
 have hS:I9 ⟨x1,x2,x3,l,o⟩=(!e0&&l.all (Z7 x2 x3)&&o.all (U0 x2 x3)):=by
  rw [he0,Bool.not_not]
  rfl
 clear_value e0
 rw [hS]
 dsimp only [e1,e2,e3,e4]
 simp only [true_and,and_true,Bool.cond_self,bB0]
 refine ⟨fun h=>by rw [h];rfl,fun h=>?_⟩
 rw [h]
 simp only [Bool.not_false,Bool.true_and]
 refine ⟨⟨(0,()),rfl,Int.le_refl _,by dsimp only;omega,by simp⟩,?_⟩
 rintro ⟨i,⟨⟩⟩ ⟨h0,h1,h2⟩
 dsimp only at h0 h1 h2 ⊢
 obtain ⟨k,rfl⟩:=cp0 h0
 simp only [co8] at h2 ⊢
 have hd:(⟨0,0,0,ins0⟩:RIns)=rins0:=rfl
 rw [hd]
 refine ⟨fun hlt=>?_,fun hge=>?_⟩
 ·have hlt:(k:Int)<l.length:=cp4 hlt
  have no:Z7 x2 x3 (l.getD k rins0)=false→(false,())=(l.all (Z7 x2 x3)&&o.all (U0 x2 x3),()):=fun hf=>by rw [aV0 rins0 (by omega) hf];rfl
  have yes:Z7 x2 x3 (l.getD k rins0)=true→∃ p':Int×Unit,IntKind.i64.wrap ((k:Int)+1)=p'.1∧(0≤p'.1∧p'.1≤(l.length:Int)∧(l.take p'.1.toNat).all (Z7 x2 x3)=true)∧l.length-p'.1.toNat<l.length-k:=fun ht=>
   ⟨((k+1:Nat),()),B6 (by omega) hll,⟨by omega,by dsimp only;omega,by dsimp only;rw [co8];exact ar4 rins0 (by omega) h2 ht⟩,by dsimp only;omega⟩
  generalize l.getD k rins0=x at no yes ⊢
  refine ⟨⟨h0,hlt⟩,fun hk=>?_,fun hk=>?_⟩
  ·have hk:x.kind=0:=eq_of_beq hk
   have hi:Z7 x2 x3 x=(H3 x2 x.ins.from_&&H3 x2 x.ins.to):=by simp only [Z7,if_pos hk]
   rw [hi] at no yes
   refine ⟨fun h3=>no ?_,fun h3=>yes ?_⟩
   ·revert h3;cases H3 x2 x.ins.from_<;>cases H3 x2 x.ins.to<;>simp
   ·revert h3;cases H3 x2 x.ins.from_<;>cases H3 x2 x.ins.to<;>simp
  ·have hk:¬ x.kind=0:=by simpa using hk
   refine ⟨fun h3=>?_,fun h3=>?_⟩
   ·have h3:x.kind=1∨x.kind=2:=by
     by_cases h4:x.kind=1
     ·exact .inl h4
     ·right
      rw [show (x.kind==1)=false from beq_eq_false_iff_ne.2 h4] at h3
      exact eq_of_beq h3
    have hi:Z7 x2 x3 x=(H3 x2 [x.slot]&&H3 x3 [x.cell]):=by simp only [Z7,if_neg hk,if_pos h3]
    rw [hi] at no yes
    refine ⟨fun h3=>no ?_,fun h3=>yes ?_⟩
    ·revert h3;cases H3 x2 [x.slot]<;>cases H3 x3 [x.cell]<;>simp
    ·revert h3;cases H3 x2 [x.slot]<;>cases H3 x3 [x.cell]<;>simp
   ·have h3:¬ (x.kind=1∨x.kind=2):=by
     rintro (h4|h4)
     ·rw [h4] at h3;cases h3
     ·rw [h4] at h3;cases h3
    exact no (by simp only [Z7,if_neg hk,if_neg h3])
 ·have hk:k=l.length:=by have:¬ (k:Int)<l.length:=cp3 hge;omega
  subst hk
  rw [cr2] at h2
  rw [h2]
  simp only [Bool.true_and]
  refine ⟨⟨(0,()),rfl,Int.le_refl _,by dsimp only;omega,by simp⟩,?_⟩
  rintro ⟨i,⟨⟩⟩ ⟨i0,i1,i2⟩
  dsimp only at i0 i1 i2 ⊢
  obtain ⟨j,rfl⟩:=cp0 i0
  simp only [co8] at i2 ⊢
  have hd:(⟨false,0⟩:Place)=place0:=rfl
  rw [hd]
  refine ⟨fun hlt=>?_,fun hge=>?_⟩
  ·have hlt:(j:Int)<o.length:=cp4 hlt
   have hpl:∀ x:Place,H3 (bif x.cell then x3 else x2) [x.n]=U0 x2 x3 x:=fun x=>by
    unfold U0
    cases x.cell<;>rfl
   rw [hpl]
   refine ⟨⟨i0,hlt⟩,fun hf=>?_,fun ht=>⟨((j+1:Nat),()),B6 (by omega) hlo,⟨by omega,by dsimp only;omega,?_⟩,by dsimp only;omega⟩⟩
   ·rw [aV0 place0 (by omega) (Bool.not_eq_true' _▸hf)]
   ·dsimp only
    rw [co8]
    exact ar4 place0 (by omega) i2 (Bool.not_eq_false' _▸ht)
  ·have hj:j=o.length:=by have:¬ (j:Int)<o.length:=cp3 hge;omega
   subst hj
   rw [cr2] at i2
   rw [i2]
theorem be4:C8 prog RG 60 cShaped:=E5 (A8 bU9 B8) (fun p=>bm5 p.2.1 p.2.2.1 p.2.2.2.1 p.2.2.2.2.1) (by kernel_rfl) (by kernel_rfl) (by kernel_rfl) fun (x1,x2,x3,l,o,()) hp=>bN0 x1 x2 x3 l o hp
abbrev Holds:=List (Place×Int)
def getF (m:Holds) (n:Int):Int:=(mget eqP m ⟨false,n⟩).getD 0
def cGetF:Con RU:=⟨[one,one],[i64,mapP],[.d 0,.ptr 0 0],[.box 83 [.map 1],.map 1],none,none,[one],[i64,mapP],[.d 0],[.box 83 [.map 1],.map 1],fun p=>(getF p.2.1 p.1,p.2),[0,1],[],[]⟩
def cNewF:Con RU:=⟨[one,one,one],[i64,i64,mapP],[.d 0,.ptr 0 0,.ptr 1 0],[.box 3 [.d 1],.box 83 [.map 2],.map 2],some fun p=>0≤p.2.1∧p.2.1≤4611686018427387904,none,[one],[i64,i64,mapP],[.d 0],[.box 3 [.d 1],.box 83 [.map 2],.map 2],
 fun p=>(p.2.1,p.2.1+1,mput eqP p.2.2.1 ⟨false,p.1⟩ p.2.1,()),[1],[],[]⟩
def ak4 (s:List Int×Int×Holds) (n:Int):List Int×Int×Holds:=(s.1++[s.2.1],s.2.1+1,mput eqP s.2.2 ⟨false,n⟩ s.2.1)
def F5 (nx:Int) (m:Holds) (l:List Int):List Int×Int×Holds:=l.foldl ak4 ([],nx,m)
def cCalledF:Con RU:=⟨[(true,5),one,one],[i64,i64,ints,ints,inss,i64,mapP],[.d 0,.d 1,.d 2,.d 3,.d 4,.clo 90 [0,1],.clo 91 [1]],[.box 3 [.d 5],.box 83 [.map 2],.map 6],some fun p=>ag7 p.2.2.1 p.2.2.2.1 p.2.2.2.2.1=true∧0≤p.2.2.2.2.2.1∧p.2.2.2.2.2.1≤2305843009213693952,none,
 [(true,5)],[i64,i64,ints,ints,inss,i64,mapP],[.d 0,.d 1,.d 2,.d 3,.d 4],[.box 3 [.d 5],.box 83 [.map 2],.map 6],
 fun p=>(p.1,p.2.1,(F5 p.2.2.2.2.2.1 p.2.2.2.2.2.2.1 p.2.2.1).1,p.2.2.2.1.map (getF p.2.2.2.2.2.2.1),p.2.2.2.2.1,(F5 p.2.2.2.2.2.1 p.2.2.2.2.2.2.1 p.2.2.1).2.1,(F5 p.2.2.2.2.2.1 p.2.2.2.2.2.2.1 p.2.2.1).2.2,()),[1],[],[]⟩
def aV1 (x1 x2:Int) (x3 x4:List Int) (x5:List Ins) (nx:Int) (m:Holds):Nat→St RU→Ann RU:=fun k s=>match k with
 |0=>⟨[],[.slot 20,.row 896],[i64,inss],fun p=>0≤p.1∧p.1≤x4.length∧p.2.1=[⟨x1,x2,x3,(x4.take p.1.toNat).map (getF m)++x4.drop p.1.toNat,x5⟩],fun p=>x4.length-p.1.toNat,[]⟩
 |_=>⟨[],[.slot 36,.row 896,.box 1000000 0,.row 1000002],[i64,inss,i64,mapP],fun p=>0≤p.1∧p.1≤x3.length∧p.2.1=[⟨x1,x2,(F5 nx m (x3.take p.1.toNat)).1++x3.drop p.1.toNat,x4.map (getF m),x5⟩]∧p.2.2.1=(F5 nx m (x3.take p.1.toNat)).2.1∧p.2.2.2.1=(F5 nx m (x3.take p.1.toNat)).2.2,fun p=>x3.length-p.1.toNat,[]⟩
theorem cf7 (n:Int) (m:Holds):vc (EV []) noL Go.Proofs.Tryd.f91 cGetF (n,m,())=((Option.getD (mget (E7 RU (Ty.user (2:Nat))) m (Place.mk false n)) (0:Int),m,())=(getF m n,m,())):=by kernel_rfl
theorem cf8 (n nx:Int) (m:Holds):vc (EV []) noL Go.Proofs.Tryd.f90 cNewF (n,nx,m,())=(
 let e0:Int:=IntKind.i64.wrap (nx+(1:Int));
  (IntKind.i64.wrap (e0-(1:Int)),e0,mput (E7 RU (Ty.user (2:Nat))) m (Place.mk false n) nx,())=(nx,nx+(1:Int),mput eqP m (Place.mk false n) nx,())):=by kernel_rfl
theorem bB1 (x1 x2:Int) (x3 x4:List Int) (x5:List Ins) (nx:Int) (m:Holds):vc (EV [(96,cBody),(91,cGetF),(90,cNewF)]) (aV1 x1 x2 x3 x4 x5 nx m) Go.Proofs.Tryd.f73 cCalledF (x1,x2,x3,x4,x5,nx,m,())=(
 let e0:Ins:=Ins.mk (0:Int) (0:Int) [] [] [];
 let e1:List Ins:=[Ins.mk x1 x2 x3 x4 x5];
 let e2:Int:=(↑(List.length x4):Int);
  Small RU (Sigma.mk (Ty.slice (3:Nat) (Ty.int IntKind.i64)) x3)→
  Small RU (Sigma.mk (Ty.slice (3:Nat) (Ty.int IntKind.i64)) x4)→
  Small RU (Sigma.mk (Ty.slice (52:Nat) (Ty.user (0:Nat))) x5)→
  (List.length e1≤(1599289640354:Nat)∧I7 e1=true)∧
  ((0:Int)≤(0:Int)∧(0:Int)<(↑(List.length e1):Int))∧
  (∃ (p:Int×List Ins×Unit),
  x1=x1∧
  x2=x2∧
  x3=x3∧
  x4=x4∧
  x5=x5∧
  (0:Int)=(0:Int)∧
  e2=e2∧
  (0:Int)=p.1∧
  nx=nx∧
  m=m∧
  x1=x1∧
  x2=x2∧
  x3=x3∧
  x4=x4∧
  x5=x5∧
  (0:Int)=(0:Int)∧
  (0:Int)=(0:Int)∧
  e1=e1∧
  e1=p.2.1∧
  x1=x1∧
  x2=x2∧
  (0:Int)=(0:Int)∧
  (0:Int)=(0:Int)∧
  x5=x5∧
  (0:Int)≤p.1∧
  p.1≤e2∧p.2.1=[Ins.mk x1 x2 x3 (List.map (getF m) (List.take (Int.toNat p.1) x4)++List.drop (Int.toNat p.1) x4) x5])∧
  ∀ (p:Int×List Ins×Unit),
 let e0_1:Ins:=List.getD p.2.1 (0:Nat) e0;
 let e1_1:Bool:=decide (p.1<e2);
 let e2_1:Int:=p.1;
 let e3:List Ins:=p.2.1;
 let e4:Int:=(↑(List.length e0_1.to):Int);
  (0:Int)≤e2_1∧e2_1≤e2∧e3=[Ins.mk x1 x2 x3 (List.map (getF m) (List.take (Int.toNat e2_1) x4)++List.drop (Int.toNat e2_1) x4) x5]→
  (e1_1=true→
  ((0:Int)≤e2_1∧e2_1<(↑(List.length e0_1.from_):Int))∧
  (True∧m=m∧True)∧
  ((0:Int)≤e2_1∧e2_1<(↑(List.length e0_1.from_):Int))∧
  ∃ (p':Int×List Ins×Unit),
  x1=x1∧
  x2=x2∧
  x3=x3∧
  x4=x4∧
  x5=x5∧
  (0:Int)=(0:Int)∧
  e2=e2∧
  IntKind.i64.wrap (e2_1+(1:Int))=p'.1∧
  nx=nx∧
  m=m∧
  x1=x1∧
  x2=x2∧
  x3=x3∧
  x4=x4∧
  x5=x5∧
  (0:Int)=(0:Int)∧
  (0:Int)=(0:Int)∧
  e1=e1∧
  List.set e3 (0:Nat)
  (Ins.mk e0_1.op e0_1.n e0_1.to (List.set e0_1.from_ (Int.toNat e2_1) (getF m (List.getD e0_1.from_ (Int.toNat e2_1) (0:Int))))
  e0_1.body)=
  p'.2.1∧
  x1=x1∧
  x2=x2∧
  (0:Int)=(0:Int)∧
  (0:Int)=(0:Int)∧
  x5=x5∧
  ((0:Int)≤p'.1∧
  p'.1≤e2∧
  p'.2.1=
  [Ins.mk x1 x2 x3 (List.map (getF m) (List.take (Int.toNat p'.1) x4)++List.drop (Int.toNat p'.1) x4) x5])∧
  List.length x4-Int.toNat p'.1<List.length x4-Int.toNat e2_1)∧
  (e1_1=false→
  (∃ (p:Int×List Ins×Int×List (Place×Int)×Unit),
  x1=x1∧
  x2=x2∧
  x3=x3∧
  x4=x4∧
  x5=x5∧
  (0:Int)=(0:Int)∧
  e2=e2∧
  e2_1=e2_1∧
  e1_1=e1_1∧
  (0:Int)=(0:Int)∧
  e4=e4∧
  (0:Int)=p.1∧
  nx=p.2.2.1∧
  m=p.2.2.2.1∧
  x1=x1∧
  x2=x2∧
  x3=x3∧
  x4=x4∧
  x5=x5∧
  (0:Int)=(0:Int)∧
  (0:Int)=(0:Int)∧
  e1=e1∧
  e3=p.2.1∧
  x1=x1∧
  x2=x2∧
  (0:Int)=(0:Int)∧
  (0:Int)=(0:Int)∧
  x5=x5∧
  (0:Int)≤p.1∧
  p.1≤(↑(List.length x3):Int)∧
  p.2.1=
  [Ins.mk x1 x2 ((F5 nx m (List.take (Int.toNat p.1) x3)).1++List.drop (Int.toNat p.1) x3)
  (List.map (getF m) x4) x5]∧
  p.2.2.1=(F5 nx m (List.take (Int.toNat p.1) x3)).2.1∧
  p.2.2.2.1=(F5 nx m (List.take (Int.toNat p.1) x3)).2.2)∧
  ∀ (p:Int×List Ins×Int×List (Place×Int)×Unit),
 let e0_2:Int:=p.2.2.1;
 let e1_2:Ins:=List.getD p.2.1 (0:Nat) e0;
 let e2_2:List (Place×Int):=p.2.2.2.1;
 let e3:Int:=p.1;
 let e4_1:List Ins:=p.2.1;
 let e5:Bool:=decide (e3<e4);
 let e6:Int×List (Place×Int):=(F5 nx m (List.take (Int.toNat e3) x3)).2;
  (0:Int)≤e3∧
  e3≤(↑(List.length x3):Int)∧
  e4_1=[Ins.mk x1 x2 ((F5 nx m (List.take (Int.toNat e3) x3)).1++List.drop (Int.toNat e3) x3) (List.map (getF m) x4) x5]∧e0_2=e6.1∧e2_2=e6.2→
  (e5=true→
  ((0:Int)≤e3∧e3<(↑(List.length e1_2.to):Int))∧
  (((0:Int)≤e0_2∧e0_2≤(4611686018427387904:Int))∧True)∧
  ((0:Int)≤e3∧e3<(↑(List.length e1_2.to):Int))∧
  ∃ (p':Int×List Ins×Int×List (Place×Int)×Unit),
  x1=x1∧
  x2=x2∧
  x3=x3∧
  x4=x4∧
  x5=x5∧
  (0:Int)=(0:Int)∧
  e2=e2∧
  e2_1=e2_1∧
  e1_1=e1_1∧
  (0:Int)=(0:Int)∧
  e4=e4∧
  IntKind.i64.wrap (e3+(1:Int))=p'.1∧
  e0_2+(1:Int)=p'.2.2.1∧
  mput eqP e2_2 (Place.mk false (List.getD e1_2.to (Int.toNat e3) (0:Int))) e0_2=p'.2.2.2.1∧
  x1=x1∧
  x2=x2∧
  x3=x3∧
  x4=x4∧
  x5=x5∧
  (0:Int)=(0:Int)∧
  (0:Int)=(0:Int)∧
  e1=e1∧
  List.set e4_1 (0:Nat) (Ins.mk e1_2.op e1_2.n (List.set e1_2.to (Int.toNat e3) e0_2) e1_2.from_ e1_2.body)=
  p'.2.1∧
  x1=x1∧
  x2=x2∧
  (0:Int)=(0:Int)∧
  (0:Int)=(0:Int)∧
  x5=x5∧
  ((0:Int)≤p'.1∧
  p'.1≤(↑(List.length x3):Int)∧
  p'.2.1=
  [Ins.mk x1 x2
  ((F5 nx m (List.take (Int.toNat p'.1) x3)).1++List.drop (Int.toNat p'.1) x3)
  (List.map (getF m) x4) x5]∧
  p'.2.2.1=(F5 nx m (List.take (Int.toNat p'.1) x3)).2.1∧
  p'.2.2.2.1=(F5 nx m (List.take (Int.toNat p'.1) x3)).2.2)∧
  List.length x3-Int.toNat p'.1<List.length x3-Int.toNat e3)∧
  (e5=false→
  (x1,x2,e1_2.to,e1_2.from_,x5,e0_2,e2_2,())=(x1,x2,(F5 nx m x3).1,List.map (getF m) x4,x5,(F5 nx m x3).2.1,(F5 nx m x3).2.2,())))):=by kernel_rfl
theorem cf9 (n:Int) (m:Holds):vc (EV []) noL Go.Proofs.Tryd.f91 cGetF (n,m,()):=by
 rw [cf7 n m]
 rfl
theorem bB2:C8 prog RG 91 cGetF:=E5 B8 (fun _=>noL) (by kernel_rfl) (by kernel_rfl) (by kernel_rfl) fun (n,m,()) _=>cf9 n m
theorem cg0 (n nx:Int) (m:Holds) (hp:0≤nx∧nx≤4611686018427387904):vc (EV []) noL Go.Proofs.Tryd.f90 cNewF (n,nx,m,()):=by
 rw [cf8 n nx m]
 dsimp only
 rw [E9 (n:=nx+1) (by omega) (by omega),show nx+1-1=nx by omega,E9 (by omega) (by omega)]
 rfl
theorem bB3:C8 prog RG 90 cNewF:=E5 B8 (fun _=>noL) (by kernel_rfl) (by kernel_rfl) (by kernel_rfl) fun (n,nx,m,()) hp=>cg0 n nx m hp
theorem bm6 (nx:Int) (m:Holds) (l:List Int) (x:Int):F5 nx m (l++[x])=ak4 (F5 nx m l) x:=by simp [F5]
theorem V2 (nx:Int) (m:Holds) (l:List Int):(F5 nx m l).1.length=l.length∧(F5 nx m l).2.1=nx+l.length:=by
 have key:∀ (l:List Int) (s:List Int×Int×Holds),(l.foldl ak4 s).1.length=s.1.length+l.length∧(l.foldl ak4 s).2.1=s.2.1+l.length:=by
  intro l
  induction l with
  |nil=>intro s;simp
  |cons x r ih=>
   intro s
   have:=ih (ak4 s x)
   simp only [List.foldl_cons,cq0,ak4,cq5,List.length_nil] at this ⊢
   omega
 have:=key l ([],nx,m)
 simpa [F5] using this
theorem bB4 (x1 x2:Int) (x3 x4:List Int) (x5:List Ins) (nx:Int) (m:Holds) (hp:ag7 x3 x4 x5=true∧0≤nx∧nx≤2305843009213693952):vc (EV [(96,cBody),(91,cGetF),(90,cNewF)]) (aV1 x1 x2 x3 x4 x5 nx m) Go.Proofs.Tryd.f73 cCalledF (x1,x2,x3,x4,x5,nx,m,()):=by
 rw [bB1 x1 x2 x3 x4 x5 nx m]
 intro e0 e1 e2 hs3 hs4 _
 have hl3:x3.length≤140737488355328:=hs3.len
 have hl4:x4.length≤140737488355328:=hs4.len
 dsimp only [e0,e1,e2]
 simp only [true_and,and_true]
 refine ⟨⟨by simp,?_⟩,⟨by omega,by simp⟩,⟨(0,_,()),rfl,rfl,Int.le_refl _,by dsimp only;omega,by simp⟩,?_⟩
 ·simp only [I7,Bool.and_true]
  exact (N3 _).2 (ak0.1 hp.1)
 rintro ⟨i,l,⟨⟩⟩ ⟨h0,h1,h2⟩
 dsimp only at h0 h1 h2 ⊢
 subst h2
 obtain ⟨k,rfl⟩:=cp0 h0
 simp only [co8,List.getD_cons_zero,List.set_cons_zero]
 have hA:((x4.take k).map (getF m)).length=k:=by simp;omega
 refine ⟨fun hlt=>?_,fun hge=>?_⟩
 ·have hlt:(k:Int)<x4.length:=cp4 hlt
  rw [aj9 hA (by omega),aU8 hA (by omega),aU9 hA (by omega)]
  refine ⟨⟨h0,hlt⟩,⟨h0,hlt⟩,((k+1:Nat),[⟨x1,x2,x3,(x4.take (k+1)).map (getF m)++x4.drop (k+1),x5⟩],()),B6 (by omega) hl4,?_,⟨by omega,by dsimp only;omega,by dsimp only;rw [co8]⟩,by dsimp only;omega⟩
  dsimp only
  rw [A5 (by omega) 0,List.map_append]
  rfl
 have hk:k=x4.length:=by have:¬ (k:Int)<x4.length:=cp3 hge;omega
 subst hk
 simp only [cr2,List.drop_length,List.append_nil]
 clear h0 h1 hge hA
 refine ⟨⟨(0,_,nx,m,()),rfl,rfl,rfl,rfl,Int.le_refl _,by dsimp only;omega,by simp [F5],by simp [F5],by simp [F5]⟩,?_⟩
 rintro ⟨i,l,nx2,m2,⟨⟩⟩ ⟨h0,h1,h2,h3,h4⟩
 dsimp only at h0 h1 h2 h3 h4 ⊢
 subst h2 h3 h4
 obtain ⟨k,rfl⟩:=cp0 h0
 simp only [co8,List.getD_cons_zero,List.set_cons_zero]
 have hN:=V2 nx m (x3.take k)
 have hA:(F5 nx m (x3.take k)).1.length=k:=by rw [hN.1,cr3];omega
 have hB:(F5 nx m (x3.take k)).2.1=nx+k:=by rw [hN.2,cr3];omega
 refine ⟨fun hlt=>?_,fun hge=>?_⟩
 ·have hlt:(k:Int)<x3.length:=cp4 hlt
  rw [aj9 hA (by omega),aU8 hA (by omega),aU9 hA (by omega)]
  have hn:F5 nx m (x3.take (k+1))=ak4 (F5 nx m (x3.take k)) (x3.getD k 0):=by rw [A5 (by omega) 0,bm6]
  refine ⟨⟨h0,hlt⟩,⟨by rw [hB];omega,by rw [hB];omega⟩,⟨h0,hlt⟩,((k+1:Nat),[⟨x1,x2,(F5 nx m (x3.take (k+1))).1++x3.drop (k+1),x4.map (getF m),x5⟩],(F5 nx m (x3.take (k+1))).2.1,(F5 nx m (x3.take (k+1))).2.2,()),B6 (by omega) hl3,?_,?_,?_,⟨by omega,by dsimp only;omega,by dsimp only;rw [co8],by dsimp only;rw [co8],by dsimp only;rw [co8]⟩,by dsimp only;omega⟩
  ·dsimp only;rw [hn];rfl
  ·dsimp only;rw [hn];rfl
  ·dsimp only;rw [hn];rfl
 ·have hk:k=x3.length:=by have:¬ (k:Int)<x3.length:=cp3 hge;omega
  subst hk
  simp only [cr2,List.drop_length,List.append_nil]
theorem aV2:C8 prog RG 73 cCalledF:=E5 (A8 aO3 (A8 bB2 (A8 bB3 B8))) (fun p=>aV1 p.1 p.2.1 p.2.2.1 p.2.2.2.1 p.2.2.2.2.1 p.2.2.2.2.2.1 p.2.2.2.2.2.2.1) (by kernel_rfl) (by kernel_rfl) (by kernel_rfl) fun (x1,x2,x3,x4,x5,nx,m,()) hp=>bB4 x1 x2 x3 x4 x5 nx m hp
abbrev SF:=Holds×List Ins×Int
def I2 (s:SF) (x:RIns):SF×Bool:=
 bif x.kind==0 then
  (bif x.ins.from_.all (isP (s.1,())) then (((F5 s.2.2 s.1 x.ins.to).2.2,s.2.1++[⟨x.ins.op,x.ins.n,(F5 s.2.2 s.1 x.ins.to).1,x.ins.from_.map (getF s.1),x.ins.body⟩],(F5 s.2.2 s.1 x.ins.to).2.1),true) else (s,false))
 else match mget eqP s.1 (bif x.kind==2 then ⟨false,x.slot⟩ else ⟨true,x.cell⟩) with
  |none=>(s,false)
  |some n=>((mput eqP s.1 (bif x.kind==2 then ⟨true,x.cell⟩ else ⟨false,x.slot⟩) n,s.2),true)
def I4:List RIns→SF→SF×Bool
 |[],s=>(s,true)
 |x::r,s=>bif (I2 s x).2 then I4 r (I2 s x).1 else (s,false)
def P6 (m:Holds):List Place→List Int×Bool
 |[]=>([],true)
 |p::r=>match mget eqP m p with
  |none=>([],false)
  |some n=>(n::(P6 m r).1,(P6 m r).2)
def M7 (n:Nat):Holds:=(List.range n).foldl (fun (m:Holds) (i:Nat)=>mput eqP m ⟨true,(i:Int)⟩ (i:Int)) []
def G6 (a:Int):SF:=(M7 a.toNat,[],a)
def C0 (c:RCode):VFun×Bool:=
 bif (I4 c.code (G6 c.params)).2 then (⟨c.params,(I4 c.code (G6 c.params)).1.2.1,(P6 (I4 c.code (G6 c.params)).1.1 c.out).1,[]⟩,(P6 (I4 c.code (G6 c.params)).1.1 c.out).2)
 else (⟨c.params,(I4 c.code (G6 c.params)).1.2.1,[],[]⟩,false)
def P9 (l:List RIns):Bool:=l.all fun x=>au3 x.ins
def cFollow:Con RU:=con [(true,5)] bJ4 [(true,4),one] [i64,inss,ints,ints,.bool] [false,false,false,false,false] (some fun p=>0≤p.1∧p.1≤4000∧p.2.2.2.1.length≤16000∧P9 p.2.2.2.1=true∧p.2.2.2.2.1.length≤17592186044400) fun p=>
 ((C0 ⟨p.1,p.2.1,p.2.2.1,p.2.2.2.1,p.2.2.2.2.1⟩).1.params,(C0 ⟨p.1,p.2.1,p.2.2.1,p.2.2.2.1,p.2.2.2.2.1⟩).1.code,(C0 ⟨p.1,p.2.1,p.2.2.1,p.2.2.2.1,p.2.2.2.2.1⟩).1.out,(C0 ⟨p.1,p.2.1,p.2.2.1,p.2.2.2.1,p.2.2.2.2.1⟩).1.at_,(C0 ⟨p.1,p.2.1,p.2.2.1,p.2.2.2.1,p.2.2.2.2.1⟩).2,())
def bm7 (a:Int) (code:List RIns) (out:List Place):Nat→St RU→Ann RU:=fun k s=>match k with
 |0=>⟨[],[.slot 21,.row 1152],[i64,mapP],fun p=>0≤p.1∧p.1≤a∧p.2.1=M7 p.1.toNat,fun p=>a.toNat-p.1.toNat,[]⟩
 |1=>⟨[],[.slot 37,.row 1152,.box 448 0,.row 900001],[i64,mapP,i64,inss],fun p=>0≤p.1∧p.1≤code.length∧I4 (code.take p.1.toNat) (G6 a)=((p.2.1,p.2.2.2.1,p.2.2.1),true),fun p=>code.length-p.1.toNat,[(.box 384 1,900001,52,.user 0)]⟩
 |_=>⟨[],[.slot 88,.row 900002],[i64,ints],fun p=>0≤p.1∧p.1≤out.length∧P6 (I4 code (G6 a)).1.1 (out.take p.1.toNat)=(p.2.1,true),fun p=>out.length-p.1.toNat,[(.box 384 2,900002,3,i64)]⟩
def L3 (c:RCode):Int:=
 if 16000<c.code.length then 3 else if I9 c=false then 2 else if (c.code.all fun x=>x.kind !=0||D0 x.ins.to)=false then 5 else if (C0 c).2=false then 4 else 0
def cValid:Con RU:=con [(true,5)] bJ4 [one] [i64] [false] (some fun p=>-9223372036854775808≤p.2.1∧p.2.1<9223372036854775808∧P9 p.2.2.2.1=true∧p.2.2.2.2.1.length≤17592186044400) fun p=>(L3 ⟨p.1,p.2.1,p.2.2.1,p.2.2.2.1,p.2.2.2.2.1⟩,())
def bN1 (code:List RIns):Nat→St RU→Ann RU:=fun k s=>match k with
 |0=>⟨[],[.slot 19],[i64],fun p=>0≤p.1∧p.1≤code.length∧((code.take p.1.toNat).all fun x=>x.kind !=0||D0 x.ins.to)=true,fun p=>code.length-p.1.toNat,[]⟩
 |_=>⟨[],[.slot 27],[i64],fun p=>0≤p.1∧p.1≤(code.getD (s.intAt 19).toNat rins0).ins.to.length∧((code.getD (s.intAt 19).toNat rins0).kind≠0∨D0 ((code.getD (s.intAt 19).toNat rins0).ins.to.take p.1.toNat)=true),fun p=>(code.getD (s.intAt 19).toNat rins0).ins.to.length-p.1.toNat,[]⟩
def J0 (a:Int) (l:List Ins):Int:=l.foldl (fun n x=>n+x.to.length) a
def L7 (c:RCode):VFun×Int:=
 if L3 c≠0 then (bJ0,L3 c) else if 4000<J0 c.params (C0 c).1.code∨4000<(C0 c).1.code.length then (bJ0,9) else ((C0 c).1,0)
def cBack:Con RU:=con [(true,5)] bJ4 [(true,4),one] [i64,inss,ints,ints,i64] [false,false,false,false,false] (some fun p=>-9223372036854775808≤p.2.1∧p.2.1<9223372036854775808∧P9 p.2.2.2.1=true∧p.2.2.2.2.1.length≤17592186044400) fun p=>
 ((L7 ⟨p.1,p.2.1,p.2.2.1,p.2.2.2.1,p.2.2.2.2.1⟩).1.params,(L7 ⟨p.1,p.2.1,p.2.2.1,p.2.2.2.1,p.2.2.2.2.1⟩).1.code,(L7 ⟨p.1,p.2.1,p.2.2.1,p.2.2.2.1,p.2.2.2.2.1⟩).1.out,(L7 ⟨p.1,p.2.1,p.2.2.1,p.2.2.2.1,p.2.2.2.2.1⟩).1.at_,(L7 ⟨p.1,p.2.1,p.2.2.1,p.2.2.2.1,p.2.2.2.2.1⟩).2,())
def cg1 (a:Int) (code:List Ins):Nat→St RU→Ann RU:=fun k s=>⟨[],[.slot 26,.slot 7],[i64,i64],fun p=>0≤p.1∧p.1≤code.length∧p.2.1=J0 a (code.take p.1.toNat),fun p=>code.length-p.1.toNat,[]⟩
theorem bN2 (a b c:Int) (code:List RIns) (out:List Place):vc (EV [(78,cAll 89 tysP objP [0] isP),(73,cCalledF)]) (bm7 a code out) Go.Proofs.Tryd.f58 cFollow (a,b,c,code,out,())=(
 let e0:Int×List Ins×List Int×List Int×Bool×Unit:=
  ((C0 (RCode.mk a b c code out)).1.params,(C0 (RCode.mk a b c code out)).1.code,(C0 (RCode.mk a b c code out)).1.out,(C0 (RCode.mk a b c code out)).1.at_,
  (C0 (RCode.mk a b c code out)).2,());
 let e1:Int:=(↑(List.length code):Int);
 let e2:RIns:=RIns.mk (0:Int) (0:Int) (0:Int) ins0;
 let e3:Int:=(↑(List.length out):Int);
 let e4:Place:=Place.mk false (0:Int);
  Small RU (Sigma.mk (Ty.slice (55:Nat) (Ty.user (1:Nat))) code)→
  Small RU (Sigma.mk (Ty.slice (59:Nat) (Ty.user (2:Nat))) out)→
  (∃ (p:Int×List (Place×Int)×Unit),
  a=a∧
  b=b∧
  c=c∧
  code=code∧
  out=out∧
  false=false∧
  a=a∧
  (0:Int)=p.1∧
  a=a∧b=b∧c=c∧code=code∧out=out∧(0:Int)=(0:Int)∧[]=p.2.1∧(0:Int)≤p.1∧p.1≤a∧p.2.1=M7 (Int.toNat p.1))∧
  ∀ (p:Int×List (Place×Int)×Unit),
 let e0_1:Bool:=decide (p.1<a);
 let e1_1:Int:=p.1;
 let e2_1:List (Place×Int):=p.2.1;
  (0:Int)≤e1_1∧e1_1≤a∧e2_1=M7 (Int.toNat e1_1)→
  (e0_1=true→
  ∃ (p':Int×List (Place×Int)×Unit),
  a=a∧
  b=b∧
  c=c∧
  code=code∧
  out=out∧
  false=false∧
  a=a∧
  IntKind.i64.wrap (e1_1+(1:Int))=p'.1∧
  a=a∧
  b=b∧
  c=c∧
  code=code∧
  out=out∧
  (0:Int)=(0:Int)∧
  mput (E7 RU (Ty.user (2:Nat))) e2_1 (Place.mk true e1_1) e1_1=p'.2.1∧
  ((0:Int)≤p'.1∧p'.1≤a∧p'.2.1=M7 (Int.toNat p'.1))∧Int.toNat a-Int.toNat p'.1<Int.toNat a-Int.toNat e1_1)∧
  (e0_1=false→
  (∃ (p:Int×List (Place×Int)×Int×List Ins×Unit),
  a=a∧
  b=b∧
  c=c∧
  code=code∧
  out=out∧
  a=a∧
  e1_1=e1_1∧
  e0_1=e0_1∧
  code=code∧
  e1=e1∧
  (0:Int)=p.1∧
  a=a∧
  b=b∧
  c=c∧
  code=code∧
  out=out∧
  (0:Int)=(0:Int)∧
  e2_1=p.2.1∧
  a=a∧
  a=p.2.2.1∧
  []=p.2.2.2.1∧
  (0:Int)≤p.1∧
  p.1≤e1∧I4 (List.take (Int.toNat p.1) code) (G6 a)=((p.2.1,p.2.2.2.1,p.2.2.1),true))∧
  ∀ (p:Int×List (Place×Int)×Int×List Ins×Unit),
 let e0_2:Bool:=(List.getD code (Int.toNat p.1) e2).kind==(2:Int);
 let e1_2:List Ins:=
  [Ins.mk (bif e0_2 then (List.getD code (Int.toNat p.1) e2).ins.op else (List.getD code (Int.toNat p.1) e2).ins.op)
  (bif e0_2 then (List.getD code (Int.toNat p.1) e2).ins.n else (List.getD code (Int.toNat p.1) e2).ins.n)
  (F5 (bif e0_2 then p.2.2.1 else p.2.2.1) (bif e0_2 then p.2.1 else p.2.1)
  (bif e0_2 then (List.getD code (Int.toNat p.1) e2).ins.to else (List.getD code (Int.toNat p.1) e2).ins.to)).1
  (List.map (getF (bif e0_2 then p.2.1 else p.2.1)) (bif e0_2 then (List.getD code (Int.toNat p.1) e2).ins.from_ else (List.getD code (Int.toNat p.1) e2).ins.from_))
  (bif e0_2 then (List.getD code (Int.toNat p.1) e2).ins.body else (List.getD code (Int.toNat p.1) e2).ins.body)];
 let e2_2:List Ins:=bif e0_2 then p.2.2.2.1 else p.2.2.2.1;
 let e3_1:List (Place×Int):=bif e0_2 then p.2.1 else p.2.1;
 let e4_1:Int:=bif e0_2 then p.2.2.1 else p.2.2.1;
 let e5:List Ins:=p.2.2.2.1;
 let e6:List (Place×Int):=p.2.1;
 let e7:Bool:=decide (p.1<e1);
 let e8:Int:=p.1;
 let e9:Int:=p.2.2.1;
 let e10:Bool:=
  !Option.isSome
  (mget (E7 RU (Ty.user (2:Nat))) e3_1
  (Place.mk (bif e0_2 then false else true) (bif e0_2 then (List.getD code (Int.toNat e8) e2).slot else (List.getD code (Int.toNat e8) e2).cell)));
 let e11:Int×List (Place×Int):=(F5 e4_1 e3_1 (bif e0_2 then (List.getD code (Int.toNat e8) e2).ins.to else (List.getD code (Int.toNat e8) e2).ins.to)).2;
 let e12:Bool:=!List.all (bif e0_2 then (List.getD code (Int.toNat e8) e2).ins.from_ else (List.getD code (Int.toNat e8) e2).ins.from_) (isP (e3_1,()));
 let e13:Bool:=(bif e0_2 then (List.getD code (Int.toNat e8) e2).kind else (List.getD code (Int.toNat e8) e2).kind) !=(0:Int);
 let e14:Ins:=(List.getD code (Int.toNat e8) e2).ins;
  (0:Int)≤e8∧e8≤e1∧I4 (List.take (Int.toNat e8) code) (G6 a)=((e6,e5,e9),true)→
  (e7=true→
  ((0:Int)≤e8∧e8<e1)∧
  (e13=true→
  (e10=true→(bif e0_2 then a else a,e2_2,[],[],false,())=e0)∧
  (e10=false→
  ∃ (p':Int×List (Place×Int)×Int×List Ins×Unit),
  (bif e0_2 then a else a)=a∧
  (bif e0_2 then b else b)=b∧
  (bif e0_2 then c else c)=c∧
  (bif e0_2 then code else code)=code∧
  (bif e0_2 then out else out)=out∧
  (bif e0_2 then a else a)=a∧
  (bif e0_2 then e1_1 else e1_1)=e1_1∧
  (bif e0_2 then e0_1 else e0_1)=e0_1∧
  (bif e0_2 then code else code)=code∧
  (bif e0_2 then e1 else e1)=e1∧
  IntKind.i64.wrap ((bif e0_2 then e8 else e8)+(1:Int))=p'.1∧
  (bif e0_2 then a else a)=a∧
  (bif e0_2 then b else b)=b∧
  (bif e0_2 then c else c)=c∧
  (bif e0_2 then code else code)=code∧
  (bif e0_2 then out else out)=out∧
  (bif e0_2 then (0:Int) else (0:Int))=(0:Int)∧
  mput (E7 RU (Ty.user (2:Nat))) e3_1
  (Place.mk (bif e0_2 then true else false)
  (bif e0_2 then (List.getD code (Int.toNat e8) e2).cell else (List.getD code (Int.toNat e8) e2).slot))
  (Option.getD
  (mget (E7 RU (Ty.user (2:Nat))) e3_1
  (Place.mk (bif e0_2 then false else true)
  (bif e0_2 then (List.getD code (Int.toNat e8) e2).slot else (List.getD code (Int.toNat e8) e2).cell)))
  (0:Int))=
  p'.2.1∧
  (bif e0_2 then a else a)=a∧
  e4_1=p'.2.2.1∧
  e2_2=p'.2.2.2.1∧
  ((0:Int)≤p'.1∧
  p'.1≤e1∧
  I4 (List.take (Int.toNat p'.1) code) (G6 a)=((p'.2.1,p'.2.2.2.1,p'.2.2.1),true))∧
  List.length code-Int.toNat p'.1<List.length code-Int.toNat e8))∧
  (e13=false→
  (True∧e3_1=e3_1∧True)∧
  (e12=true→(bif e0_2 then a else a,e2_2,[],[],false,())=e0)∧
  (e12=false→
  ((ag7 (bif e0_2 then e14.to else e14.to) (bif e0_2 then e14.from_ else e14.from_) (bif e0_2 then e14.body else e14.body)=true∧
  (0:Int)≤e4_1∧e4_1≤(2305843009213693952:Int))∧
  True)∧
  (List.length e2_2+List.length e1_2)*(88:Nat)≤(140737488355328:Nat)∧
  ∃ (p':Int×List (Place×Int)×Int×List Ins×Unit),
  (bif e0_2 then a else a)=a∧
  (bif e0_2 then b else b)=b∧
  (bif e0_2 then c else c)=c∧
  (bif e0_2 then code else code)=code∧
  (bif e0_2 then out else out)=out∧
  (bif e0_2 then a else a)=a∧
  (bif e0_2 then e1_1 else e1_1)=e1_1∧
  (bif e0_2 then e0_1 else e0_1)=e0_1∧
  (bif e0_2 then code else code)=code∧
  (bif e0_2 then e1 else e1)=e1∧
  IntKind.i64.wrap ((bif e0_2 then e8 else e8)+(1:Int))=p'.1∧
  (bif e0_2 then a else a)=a∧
  (bif e0_2 then b else b)=b∧
  (bif e0_2 then c else c)=c∧
  (bif e0_2 then code else code)=code∧
  (bif e0_2 then out else out)=out∧
  (bif e0_2 then (0:Int) else (0:Int))=(0:Int)∧
  e11.2=p'.2.1∧
  (bif e0_2 then a else a)=a∧
  e11.1=p'.2.2.1∧
  e2_2++e1_2=p'.2.2.2.1∧
  ((0:Int)≤p'.1∧
  p'.1≤e1∧
  I4 (List.take (Int.toNat p'.1) code) (G6 a)=
  ((p'.2.1,p'.2.2.2.1,p'.2.2.1),true))∧
  List.length code-Int.toNat p'.1<List.length code-Int.toNat e8)))∧
  (e7=false→
  (∃ (p:Int×List Int×Unit),
  a=a∧
  b=b∧
  c=c∧
  code=code∧
  out=out∧
  a=a∧
  e1_1=e1_1∧
  e0_1=e0_1∧
  code=code∧
  e1=e1∧
  e8=e8∧
  e7=e7∧
  out=out∧
  e3=e3∧
  (0:Int)=p.1∧
  a=a∧
  b=b∧
  c=c∧
  code=code∧
  out=out∧
  (0:Int)=(0:Int)∧
  e6=e6∧
  a=a∧
  e9=e9∧
  e5=e5∧
  []=p.2.1∧
  (0:Int)≤p.1∧
  p.1≤e3∧P6 (I4 code (G6 a)).1.1 (List.take (Int.toNat p.1) out)=(p.2.1,true))∧
  ∀ (p:Int×List Int×Unit),
 let e0_3:List Int:=
  [Option.getD (mget (E7 RU (Ty.user (2:Nat))) e6 (Place.mk (List.getD out (Int.toNat p.1) e4).cell (List.getD out (Int.toNat p.1) e4).n)) (0:Int)];
 let e1_3:List Int:=p.2.1;
 let e2:Bool:=!Option.isSome (mget (E7 RU (Ty.user (2:Nat))) e6 (Place.mk (List.getD out (Int.toNat p.1) e4).cell (List.getD out (Int.toNat p.1) e4).n));
 let e3_2:Bool:=decide (p.1<e3);
 let e4:Int:=p.1;
 let e5_1:List (Place×Int):=(I4 code (G6 a)).1.1;
  (0:Int)≤e4∧e4≤e3∧P6 e5_1 (List.take (Int.toNat e4) out)=(e1_3,true)→
  (e3_2=true→
  ((0:Int)≤e4∧e4<e3)∧
  (e2=true→(a,e5,e1_3,[],false,())=e0)∧
  (e2=false→
  (List.length e1_3+List.length e0_3)*(8:Nat)≤(140737488355328:Nat)∧
  ∃ (p':Int×List Int×Unit),
  a=a∧
  b=b∧
  c=c∧
  code=code∧
  out=out∧
  a=a∧
  e1_1=e1_1∧
  e0_1=e0_1∧
  code=code∧
  e1=e1∧
  e8=e8∧
  e7=e7∧
  out=out∧
  e3=e3∧
  IntKind.i64.wrap (e4+(1:Int))=p'.1∧
  a=a∧
  b=b∧
  c=c∧
  code=code∧
  out=out∧
  (0:Int)=(0:Int)∧
  e6=e6∧
  a=a∧
  e9=e9∧
  e5=e5∧
  e1_3++e0_3=p'.2.1∧
  ((0:Int)≤p'.1∧
  p'.1≤e3∧P6 e5_1 (List.take (Int.toNat p'.1) out)=(p'.2.1,true))∧
  List.length out-Int.toNat p'.1<List.length out-Int.toNat e4))∧
  (e3_2=false→(a,e5,e1_3,[],true,())=e0)))):=by kernel_rfl
theorem bW3 (a b c:Int) (code:List RIns) (out:List Place):vc (EV [(60,cShaped),(61,cContains),(58,cFollow)]) (bN1 code) Go.Proofs.Tryd.f22 cValid (a,b,c,code,out,())=(
 let e0:Bool:=decide ((↑(List.length code):Int) >(16000:Int));
 let e1:RIns:=RIns.mk (0:Int) (0:Int) (0:Int) ins0;
 let e2:Int×Unit:=(L3 (RCode.mk a b c code out),());
 let e3:Int:=(↑(List.length code):Int);
 let e4:Bool:=!I9 (RCode.mk a b c code out);
  Small RU (Sigma.mk (Ty.slice (55:Nat) (Ty.user (1:Nat))) code)→
  Small RU (Sigma.mk (Ty.slice (59:Nat) (Ty.user (2:Nat))) out)→
  (e0=true→((3:Int),())=e2)∧
  (e0=false→
  ((-9223372036854775808:Int)≤b∧b<(9223372036854775808:Int))∧
  (e4=true→((2:Int),())=e2)∧
  (e4=false→
  (∃ (p:Int×Unit),
  a=a∧
  b=b∧
  c=c∧
  code=code∧
  out=out∧
  e0=e0∧
  e4=e4∧
  code=code∧
  e3=e3∧
  (0:Int)=p.1∧
  a=a∧
  b=b∧
  c=c∧
  code=code∧
  out=out∧
  (0:Int)≤p.1∧p.1≤e3∧(List.all (List.take (Int.toNat p.1) code) fun (x:RIns)=>x.kind !=(0:Int)||D0 x.ins.to)=true)∧
  ∀ (p:Int×Unit),
 let e0_1:Bool:=decide (p.1<e3);
 let e1_1:Int:=(↑(List.length (List.getD code (Int.toNat p.1) e1).ins.to):Int);
 let e2_1:Ins:=(List.getD code (Int.toNat p.1) e1).ins;
 let e3_1:Nat:=List.length (List.getD code (Int.toNat p.1) rins0).ins.to;
 let e4_1:Int:=(List.getD code (Int.toNat p.1) e1).kind;
  (0:Int)≤p.1∧p.1≤e3∧(List.all (List.take (Int.toNat p.1) code) fun (x:RIns)=>x.kind !=(0:Int)||D0 x.ins.to)=true→
  (e0_1=true→
  ((0:Int)≤p.1∧p.1<e3)∧
  (∃ (p_1:Int×Unit),
  a=a∧
  b=b∧
  c=c∧
  code=code∧
  out=out∧
  e0=e0∧
  e4=e4∧
  code=code∧
  e3=e3∧
  p.1=p.1∧
  e0_1=e0_1∧
  e2_1.to=e2_1.to∧
  e1_1=e1_1∧
  (0:Int)=p_1.1∧
  a=a∧
  b=b∧
  c=c∧
  code=code∧
  out=out∧
  e4_1=e4_1∧
  (List.getD code (Int.toNat p.1) e1).slot=(List.getD code (Int.toNat p.1) e1).slot∧
  (List.getD code (Int.toNat p.1) e1).cell=(List.getD code (Int.toNat p.1) e1).cell∧
  e2_1.op=e2_1.op∧
  e2_1.n=e2_1.n∧
  e2_1.to=e2_1.to∧
  e2_1.from_=e2_1.from_∧
  e2_1.body=e2_1.body∧
  (0:Int)≤p_1.1∧
  p_1.1≤(↑e3_1:Int)∧
  ((List.getD code (Int.toNat p.1) rins0).kind≠(0:Int)∨
  D0 (List.take (Int.toNat p_1.1) (List.getD code (Int.toNat p.1) rins0).ins.to)=true))∧
  ∀ (p_1:Int×Unit),
 let e0_2:Bool:=e4_1==(0:Int)&&List.contains (List.take (Int.toNat p_1.1) e2_1.to) (List.getD e2_1.to (Int.toNat p_1.1) (0:Int));
 let e1_2:Bool:=decide (p_1.1<e1_1);
  (0:Int)≤p_1.1∧
  p_1.1≤(↑e3_1:Int)∧
  ((List.getD code (Int.toNat p.1) rins0).kind≠(0:Int)∨D0 (List.take (Int.toNat p_1.1) (List.getD code (Int.toNat p.1) rins0).ins.to)=true)→
  (e1_2=true→
  ((0:Int)≤p_1.1∧p_1.1<e1_1)∧
  ((e4_1==(0:Int))=true→(0:Int)≤p_1.1∧p_1.1≤e1_1)∧
  (e0_2=true→((5:Int),())=e2)∧
  (e0_2=false→
  ∃ (p':Int×Unit),
  a=a∧
  b=b∧
  c=c∧
  code=code∧
  out=out∧
  e0=e0∧
  e4=e4∧
  code=code∧
  e3=e3∧
  p.1=p.1∧
  e0_1=e0_1∧
  e2_1.to=e2_1.to∧
  e1_1=e1_1∧
  IntKind.i64.wrap (p_1.1+(1:Int))=p'.1∧
  a=a∧
  b=b∧
  c=c∧
  code=code∧
  out=out∧
  e4_1=e4_1∧
  (List.getD code (Int.toNat p.1) e1).slot=(List.getD code (Int.toNat p.1) e1).slot∧
  (List.getD code (Int.toNat p.1) e1).cell=(List.getD code (Int.toNat p.1) e1).cell∧
  e2_1.op=e2_1.op∧
  e2_1.n=e2_1.n∧
  e2_1.to=e2_1.to∧
  e2_1.from_=e2_1.from_∧
  e2_1.body=e2_1.body∧
  ((0:Int)≤p'.1∧
  p'.1≤(↑e3_1:Int)∧
  ((List.getD code (Int.toNat p.1) rins0).kind≠(0:Int)∨
  D0 (List.take (Int.toNat p'.1) (List.getD code (Int.toNat p.1) rins0).ins.to)=
  true))∧
  e3_1-Int.toNat p'.1<e3_1-Int.toNat p_1.1))∧
  (e1_2=false→
  ∃ (p':Int×Unit),
  a=a∧
  b=b∧
  c=c∧
  code=code∧
  out=out∧
  e0=e0∧
  e4=e4∧
  code=code∧
  e3=e3∧
  IntKind.i64.wrap (p.1+(1:Int))=p'.1∧
  a=a∧
  b=b∧
  c=c∧
  code=code∧
  out=out∧
  ((0:Int)≤p'.1∧
  p'.1≤e3∧
  (List.all (List.take (Int.toNat p'.1) code) fun (x:RIns)=>x.kind !=(0:Int)||D0 x.ins.to)=true)∧
  List.length code-Int.toNat p'.1<List.length code-Int.toNat p.1))∧
  (e0_1=false→
  ((0:Int)≤a∧a≤(4000:Int)∧List.length code≤(16000:Nat)∧P9 code=true∧List.length out≤(17592186044400:Nat))∧
  ((!(C0 (RCode.mk a b c code out)).2)=true→((4:Int),())=e2)∧((!(C0 (RCode.mk a b c code out)).2)=false→((0:Int),())=e2))))):=by kernel_rfl
theorem cg2 (a b c:Int) (code:List RIns) (out:List Place):vc (EV [(22,cValid),(58,cFollow)]) (cg1 a (C0 ⟨a,b,c,code,out⟩).1.code) Go.Proofs.Tryd.f20 cBack (a,b,c,code,out,())=(
 let e0:Int×List Ins×List Int×List Int×Int×Unit:=
  ((L7 (RCode.mk a b c code out)).1.params,(L7 (RCode.mk a b c code out)).1.code,(L7 (RCode.mk a b c code out)).1.out,(L7 (RCode.mk a b c code out)).1.at_,
  (L7 (RCode.mk a b c code out)).2,());
 let e1:Int:=(↑(List.length (C0 (RCode.mk a b c code out)).1.code):Int);
 let e2:List Ins:=(C0 (RCode.mk a b c code out)).1.code;
 let e3:Bool:=L3 (RCode.mk a b c code out) !=(0:Int);
 let e4:Int:=(C0 (RCode.mk a b c code out)).1.params;
 let e5:List Int:=(C0 (RCode.mk a b c code out)).1.at_;
 let e6:List Int:=(C0 (RCode.mk a b c code out)).1.out;
 let e7:Int:=L3 (RCode.mk a b c code out);
  Small RU (Sigma.mk (Ty.slice (55:Nat) (Ty.user (1:Nat))) code)→
  Small RU (Sigma.mk (Ty.slice (59:Nat) (Ty.user (2:Nat))) out)→
  ((-9223372036854775808:Int)≤b∧b<(9223372036854775808:Int)∧P9 code=true∧List.length out≤(17592186044400:Nat))∧
  (e3=true→((0:Int),[],[],[],e7,())=e0)∧
  (e3=false→
  ((0:Int)≤a∧a≤(4000:Int)∧List.length code≤(16000:Nat)∧P9 code=true∧List.length out≤(17592186044400:Nat))∧
  (∃ (p:Int×Int×Unit),
  a=a∧
  b=b∧
  c=c∧
  code=code∧
  out=out∧
  (0:Int)=(0:Int)∧
  e7=e7∧
  e3=e3∧
  e2=e2∧
  e1=e1∧
  (0:Int)=p.1∧
  e4=p.2.1∧
  a=a∧
  b=b∧
  c=c∧
  code=code∧
  out=out∧
  (0:Int)=(0:Int)∧
  e4=e4∧e2=e2∧e6=e6∧e5=e5∧(0:Int)≤p.1∧p.1≤e1∧p.2.1=J0 a (List.take (Int.toNat p.1) e2))∧
  ∀ (p:Int×Int×Unit),
 let e0_1:Bool:=decide (p.2.1 >(4000:Int))||decide (e1 >(4000:Int));
 let e1_1:Bool:=decide (p.1<e1);
 let e2_1:Int:=p.1;
  (0:Int)≤e2_1∧e2_1≤e1∧p.2.1=J0 a (List.take (Int.toNat e2_1) e2)→
  (e1_1=true→
  ((0:Int)≤e2_1∧e2_1<e1)∧
  ∃ (p':Int×Int×Unit),
  a=a∧
  b=b∧
  c=c∧
  code=code∧
  out=out∧
  (0:Int)=(0:Int)∧
  e7=e7∧
  e3=e3∧
  e2=e2∧
  e1=e1∧
  IntKind.i64.wrap (e2_1+(1:Int))=p'.1∧
  IntKind.i64.wrap (p.2.1+(↑(List.length (List.getD e2 (Int.toNat e2_1) (Ins.mk (0:Int) (0:Int) [] [] [])).to):Int))=p'.2.1∧
  a=a∧
  b=b∧
  c=c∧
  code=code∧
  out=out∧
  (0:Int)=(0:Int)∧
  e4=e4∧
  e2=e2∧
  e6=e6∧
  e5=e5∧
  ((0:Int)≤p'.1∧p'.1≤e1∧p'.2.1=J0 a (List.take (Int.toNat p'.1) e2))∧
  List.length e2-Int.toNat p'.1<List.length e2-Int.toNat e2_1)∧
  (e1_1=false→(e0_1=true→((0:Int),[],[],[],(9:Int),())=e0)∧(e0_1=false→(e4,e2,e6,e5,(0:Int),())=e0)))):=by kernel_rfl
theorem be5 {s:SF} {x:RIns} (h:(I2 s x).2=false):I2 s x=(s,false):=by
 revert h
 unfold I2
 cases x.kind==0 with
 |true=>
  simp only [cond_true]
  cases x.ins.from_.all (isP (s.1,())) with
  |true=>intro h;cases h
  |false=>intro _;rfl
 |false=>
  simp only [cond_false]
  cases mget eqP s.1 (bif x.kind==2 then ⟨false,x.slot⟩ else ⟨true,x.cell⟩) with
  |none=>intro _;rfl
  |some n=>intro h;cases h
theorem be6 (s:SF) (x:RIns):I4 [x] s=I2 s x:=by
 simp only [I4]
 cases h:(I2 s x).2 with
 |true=>simp only [cond_true];rw [←h]
 |false=>simp only [cond_false];exact (be5 h).symm
theorem ar5 (r:List RIns):∀ (l:List RIns) (s:SF),I4 (l++r) s=bif (I4 l s).2 then I4 r (I4 l s).1 else I4 l s
 |[],s=>rfl
 |x::l,s=>by
  simp only [List.cons_append,I4]
  cases (I2 s x).2 with
  |true=>simp only [cond_true];exact ar5 r l _
  |false=>rfl
theorem aO7 {l:List RIns} {k:Nat} {s s':SF} (hk:k<l.length) (h:I4 (l.take k) s=(s',true)):I4 (l.take (k+1)) s=I2 s' (l.getD k rins0):=by
 rw [A5 hk rins0,ar5,h]
 exact be6 _ _
theorem bB5 {l:List RIns} {k:Nat} {s s':SF} (hk:k<l.length) (h:I4 (l.take k) s=(s',true)) (h2:(I2 s' (l.getD k rins0)).2=false):I4 l s=(s',false):=by
 have hs:=aO7 hk h
 rw [be5 h2] at hs
 conv=>lhs;rw [←List.take_append_drop (k+1) l]
 rw [ar5,hs]
 rfl
theorem bB6 (s:SF) (x:RIns) (hx:x.ins.to.length≤17592186044416):(I2 s x).1.2.1.length≤s.2.1.length+1∧s.2.2≤(I2 s x).1.2.2∧(I2 s x).1.2.2≤s.2.2+17592186044416:=by
 unfold I2
 cases x.kind==0 with
 |true=>
  simp only [cond_true]
  cases x.ins.from_.all (isP (s.1,())) with
  |true=>
   have:=(V2 s.2.2 s.1 x.ins.to).2
   simp only [cond_true,cq5,cq0,List.length_nil]
   omega
  |false=>simp only [cond_false];omega
 |false=>
  simp only [cond_false]
  cases mget eqP s.1 (bif x.kind==2 then ⟨false,x.slot⟩ else ⟨true,x.cell⟩) with
  |none=>simp only;omega
  |some n=>simp only;omega
theorem aI5:∀ (l:List RIns) (s:SF),P9 l=true→(I4 l s).1.2.1.length≤s.2.1.length+l.length∧s.2.2≤(I4 l s).1.2.2∧(I4 l s).1.2.2≤s.2.2+l.length*17592186044416
 |[],s,_=>by simp [I4]
 |x::r,s,h=>by
  simp only [P9,List.all_cons,co7] at h
  have h1:=bB6 s x ((N3 _).1 h.1).1.1
  have h2:=aI5 r (I2 s x).1 h.2
  simp only [I4]
  cases hs:(I2 s x).2 with
  |true=>simp only [cond_true,cq0];omega
  |false=>simp only [cond_false,cq0];omega
theorem aI6 (m:Holds) (r:List Place):∀ (l:List Place),P6 m (l++r)=bif (P6 m l).2 then ((P6 m l).1++(P6 m r).1,(P6 m r).2) else P6 m l
 |[]=>rfl
 |p::l=>by
  simp only [List.cons_append,P6]
  cases mget eqP m p with
  |none=>rfl
  |some n=>
   simp only [aI6 m r l]
   cases h:(P6 m l).2 with
   |true=>rfl
   |false=>simp only [cond_false,h]
theorem be7 (m:Holds):∀ (l:List Place),(P6 m l).1.length≤l.length
 |[]=>by simp [P6]
 |p::l=>by
  simp only [P6]
  split
  ·simp
  ·have:=be7 m l
   simp only [cq0];omega
theorem ar6 (n:Nat):M7 (n+1)=mput eqP (M7 n) ⟨true,n⟩ n:=by
 simp [M7,List.range_succ]
theorem bN3 (a b c:Int) (code:List RIns) (out:List Place) (hp:0≤a∧a≤4000∧code.length≤16000∧P9 code=true∧out.length≤17592186044400):vc (EV [(78,cAll 89 tysP objP [0] isP),(73,cCalledF)]) (bm7 a code out) Go.Proofs.Tryd.f58 cFollow (a,b,c,code,out,()):=by
 rw [bN2 a b c code out]
 intro e0 e1 e2 e3 e4 hsl hso
 obtain ⟨hp1,hp2,hp3,hp4,hp5⟩:=hp
 have hd:e2=rins0:=rfl
 have hno:∀ s:SF,I4 code (G6 a)=(s,false)→e0=(a,s.2.1,[],[],false,()):=by
  intro s hs
  have:C0 ⟨a,b,c,code,out⟩=(⟨a,s.2.1,[],[]⟩,false):=by simp only [C0,hs];rfl
  simp only [e0,this]
 have hyes:∀ s:SF,I4 code (G6 a)=(s,true)→e0=(a,s.2.1,(P6 s.1 out).1,[],(P6 s.1 out).2,()):=by
  intro s hs
  have:C0 ⟨a,b,c,code,out⟩=(⟨a,s.2.1,(P6 s.1 out).1,[]⟩,(P6 s.1 out).2):=by simp only [C0,hs];rfl
  simp only [e0,this]
 clear_value e0
 rw [hd]
 clear_value e2
 dsimp only [e1,e3,e4]
 simp only [true_and,and_true,Bool.cond_self]
 refine ⟨⟨(0,[],()),rfl,rfl,Int.le_refl _,hp1,rfl⟩,?_⟩
 rintro ⟨i,m,⟨⟩⟩ ⟨h0,h1,h2⟩
 dsimp only at h0 h1 h2 ⊢
 obtain ⟨k,rfl⟩:=cp0 h0
 simp only [co8] at h2 ⊢
 subst h2
 refine ⟨fun hlt=>?_,fun hge=>?_⟩
 ·have hlt:(k:Int)<a:=cp4 hlt
  refine ⟨((k+1:Nat),M7 (k+1),()),?_,ar6 k |>.symm,⟨by omega,by dsimp only;omega,by dsimp only;rw [co8]⟩,by dsimp only;omega⟩
  rw [E9 (by omega) (by omega)];rfl
 have hk:a.toNat=k:=by have:¬ (k:Int)<a:=cp3 hge;omega
 have hst:G6 a=(M7 k,[],a):=by unfold G6;rw [hk]
 clear h0 h1 hge
 refine ⟨⟨(0,_,a,[],()),rfl,rfl,rfl,rfl,Int.le_refl _,by dsimp only;omega,by simp only [Int.toNat_zero,List.take_zero,I4,hst];rfl⟩,?_⟩
 rintro ⟨i,m,nx,cd,⟨⟩⟩ ⟨h0,h1,h2⟩
 dsimp only at h0 h1 h2 ⊢
 obtain ⟨j,rfl⟩:=cp0 h0
 simp only [co8,Bool.cond_self] at h2 ⊢
 have hjl:j≤code.length:=by omega
 have hb:=aI5 (code.take j) (G6 a) (by
  unfold P9 at hp4 ⊢
  exact cr4.2 fun x hx=>cr4.1 hp4 x (List.mem_of_mem_take hx))
 rw [h2] at hb
 simp only [G6,List.length_nil,cr3] at hb
 refine ⟨fun hlt=>?_,fun hge=>?_⟩
 ·have hlt:(j:Int)<code.length:=cp4 hlt
  have hjc:j<code.length:=by omega
  have hstop:=fun h=>hno _ (bB5 hjc h2 h)
  have hstep:=aO7 hjc h2
  have hok:au3 (code.getD j rins0).ins=true:=cr4.1 hp4 _ (G5 hjc _)
  have next:∀ s:SF,I2 (m,cd,nx) (code.getD j rins0)=(s,true)→∃ p':Int×List (Place×Int)×Int×List Ins×Unit,IntKind.i64.wrap ((j:Int)+1)=p'.1∧s.1=p'.2.1∧s.2.2=p'.2.2.1∧s.2.1=p'.2.2.2.1∧
    (0≤p'.1∧p'.1≤(code.length:Int)∧I4 (code.take p'.1.toNat) (G6 a)=((p'.2.1,p'.2.2.2.1,p'.2.2.1),true))∧code.length-p'.1.toNat<code.length-j:=fun s hs=>
   ⟨((j+1:Nat),s.1,s.2.2,s.2.1,()),B6 hjc (by omega),rfl,rfl,rfl,⟨by omega,by dsimp only;omega,by dsimp only;rw [co8,hstep,hs]⟩,by dsimp only;omega⟩
  generalize code.getD j rins0=x at hstop hstep hok next ⊢
  refine ⟨⟨h0,hlt⟩,fun hk0=>?_,fun hk0=>?_⟩
  ·have hk0:(x.kind==0)=false:=by simpa [bne] using hk0
   have hpl:(Place.mk (bif x.kind==2 then false else true) (bif x.kind==2 then x.slot else x.cell))=(bif x.kind==2 then ⟨false,x.slot⟩ else ⟨true,x.cell⟩):=by cases x.kind==2<;>rfl
   have hpl2:(Place.mk (bif x.kind==2 then true else false) (bif x.kind==2 then x.cell else x.slot))=(bif x.kind==2 then ⟨true,x.cell⟩ else ⟨false,x.slot⟩):=by cases x.kind==2<;>rfl
   rw [hpl,hpl2]
   have hS:I2 (m,cd,nx) x=match mget eqP m (bif x.kind==2 then ⟨false,x.slot⟩ else ⟨true,x.cell⟩) with
     |none=>((m,cd,nx),false)
     |some n=>((mput eqP m (bif x.kind==2 then ⟨true,x.cell⟩ else ⟨false,x.slot⟩) n,cd,nx),true):=by
    simp only [I2,hk0,cond_false]
    try rfl
   generalize (bif x.kind==2 then (⟨false,x.slot⟩:Place) else ⟨true,x.cell⟩)=q at hS ⊢
   generalize (bif x.kind==2 then (⟨true,x.cell⟩:Place) else ⟨false,x.slot⟩)=q2 at hS ⊢
   show ((!(mget eqP m q).isSome)=true→_)∧((!(mget eqP m q).isSome)=false→_)
   cases hq:mget eqP m q with
   |none=>
    rw [hq] at hS
    refine ⟨fun _=>?_,fun h=>(by cases h)⟩
    exact (hstop (by rw [hS])).symm
   |some v=>
    rw [hq] at hS
    refine ⟨fun h=>(by cases h),fun _=>?_⟩
    have hq':mget (E7 RU (Ty.user 2)) m q=some v:=hq
    obtain ⟨p',q1,q2',q3,q4,q5⟩:=next _ hS
    exact ⟨p',q1,by rw [hq'];exact q2',q3,q4,q5⟩
  ·have hk0:(x.kind==0)=true:=by simpa [bne] using hk0
   have hS:I2 (m,cd,nx) x=bif x.ins.from_.all (isP (m,())) then (((F5 nx m x.ins.to).2.2,cd++[⟨x.ins.op,x.ins.n,(F5 nx m x.ins.to).1,x.ins.from_.map (getF m),x.ins.body⟩],(F5 nx m x.ins.to).2.1),true) else ((m,cd,nx),false):=by
    simp only [I2,hk0,cond_true]
   cases hq:x.ins.from_.all (isP (m,())) with
   |false=>
    rw [hq] at hS
    refine ⟨fun _=>(hstop (by rw [hS];rfl)).symm,fun h=>(by cases h)⟩
   |true=>
    rw [hq] at hS
    refine ⟨fun h=>(by cases h),fun _=>⟨⟨ak0.2 ((N3 _).1 hok),by omega,?_⟩,?_,?_⟩⟩
    ·omega
    ·simp only [cq0,List.length_nil];omega
    ·obtain ⟨p',q1,q2',q3,q4,q5⟩:=next _ hS
     exact ⟨p',q1,q2',q3,q4,q5⟩
 have hjj:j=code.length:=by have:¬ (j:Int)<code.length:=cp3 hge;omega
 subst hjj
 rw [cr2] at h2
 rw [h2]
 have hyes:=hyes _ h2
 dsimp only at hyes ⊢
 clear h0 h1 hge hno h2
 refine ⟨⟨(0,[],()),rfl,rfl,Int.le_refl _,by dsimp only;omega,rfl⟩,?_⟩
 rintro ⟨i,l,⟨⟩⟩ ⟨h0,h1,h2⟩
 dsimp only at h0 h1 h2 ⊢
 obtain ⟨j,rfl⟩:=cp0 h0
 simp only [co8] at h2 ⊢
 have hjl:j≤out.length:=by omega
 have hlen:=be7 m (out.take j)
 rw [h2,cr3] at hlen
 refine ⟨fun hlt=>?_,fun hge=>?_⟩
 ·have hlt:(j:Int)<out.length:=cp4 hlt
  have hjc:j<out.length:=by omega
  have hcut:out=out.take j++(out.getD j ⟨false,0⟩::out.drop (j+1)):=by
   conv=>lhs;rw [←List.take_append_drop (j+1) out,A5 hjc ⟨false,0⟩]
   simp
  generalize hx:out.getD j ⟨false,0⟩=x at hcut ⊢
  obtain ⟨xc,xn⟩:=x
  refine ⟨⟨h0,hlt⟩,?_⟩
  show ((!(mget eqP m ⟨xc,xn⟩).isSome)=true→_)∧((!(mget eqP m ⟨xc,xn⟩).isSome)=false→_)
  cases hq:mget eqP m ⟨xc,xn⟩ with
  |none=>
   refine ⟨fun _=>?_,fun h=>(by cases h)⟩
   have:P6 m out=(l,false):=by
    rw [hcut,aI6,h2]
    simp only [cond_true,P6,hq,List.append_nil]
   rw [hyes,this]
  |some v=>
   refine ⟨fun h=>(by cases h),fun _=>⟨by simp only [cq0,List.length_nil] at hlen ⊢;omega,((j+1:Nat),l++[v],()),B6 hjc (by omega),?_,⟨by omega,by dsimp only;omega,?_⟩,by dsimp only;omega⟩⟩
   ·have hq':mget (E7 RU (Ty.user 2)) m ⟨xc,xn⟩=some v:=hq
    rw [hq'];rfl
   ·dsimp only
    rw [co8,A5 hjc ⟨false,0⟩,hx,aI6,h2]
    simp only [cond_true,P6,hq]
 ·have hjj:j=out.length:=by have:¬ (j:Int)<out.length:=cp3 hge;omega
  subst hjj
  rw [cr2] at h2
  rw [hyes,h2]
theorem ay3:C8 prog RG 58 cFollow:=E5 (A8 bz5 (A8 aV2 B8)) (fun p=>bm7 p.1 p.2.2.2.1 p.2.2.2.2.1) (by kernel_rfl) (by kernel_rfl) (by kernel_rfl) fun (a,b,c,code,out,()) hp=>bN3 a b c code out hp
theorem au8 (a:Int) (l r:List Ins):J0 a (l++r)=J0 (J0 a l) r:=by simp [J0]
theorem aI7:∀ (l:List Ins) (a:Int),a≤J0 a l
 |[],a=>Int.le_refl _
 |x::r,a=>by
  have:=aI7 r (a+x.to.length)
  simp only [J0,List.foldl_cons] at this ⊢
  omega
theorem bm8 (l:List Ins) (k:Nat) (a:Int):J0 a (l.take k)≤J0 a l:=by
 conv=>rhs;rw [←List.take_append_drop k l]
 rw [au8]
 exact aI7 _ _
theorem bm9 {a:Int} {s:SF} (h:s.2.2=J0 a s.2.1) (x:RIns):(I2 s x).1.2.2=J0 a (I2 s x).1.2.1:=by
 unfold I2
 cases x.kind==0 with
 |true=>
  simp only [cond_true]
  cases x.ins.from_.all (isP (s.1,())) with
  |true=>
   have:=V2 s.2.2 s.1 x.ins.to
   simp only [cond_true,au8,←h]
   simp only [J0,List.foldl_cons,List.foldl_nil]
   rw [this.2,this.1]
  |false=>exact h
 |false=>
  simp only [cond_false]
  cases mget eqP s.1 (bif x.kind==2 then ⟨false,x.slot⟩ else ⟨true,x.cell⟩) with
  |none=>exact h
  |some n=>exact h
theorem aO8 {a:Int}:∀ (l:List RIns) {s:SF},s.2.2=J0 a s.2.1→(I4 l s).1.2.2=J0 a (I4 l s).1.2.1
 |[],s,h=>h
 |x::r,s,h=>by
  simp only [I4]
  cases (I2 s x).2 with
  |true=>exact aO8 r (bm9 h x)
  |false=>exact h
theorem ar7 (c:RCode):(C0 c).1.params=c.params∧(C0 c).1.code=(I4 c.code (G6 c.params)).1.2.1:=by
 unfold C0
 cases (I4 c.code (G6 c.params)).2<;>exact ⟨rfl,rfl⟩
theorem aV3 {c:RCode} (h0:0≤c.params∧c.params≤4000) (hl:c.code.length≤16000) (hi:P9 c.code=true):(C0 c).1.code.length≤16000∧J0 c.params (C0 c).1.code≤281474976714656000∧((C0 c).2=true→J0 c.params (C0 c).1.code=(I4 c.code (G6 c.params)).1.2.2):=by
 rw [(ar7 c).2]
 have h1:=aI5 c.code (G6 c.params) hi
 have h2:=aO8 c.code (a:=c.params) (s:=G6 c.params) rfl
 simp only [G6,List.length_nil] at h1 h2 ⊢
 rw [←h2]
 refine ⟨by omega,by omega,fun _=>rfl⟩
theorem aV4 (l:List Int) (x:Int):D0 (l++[x])=(D0 l&&!l.contains x):=by
 rw [Bool.eq_iff_iff,G0,co7,G0,List.nodup_append]
 simp
 intro _
 exact ⟨fun h hx=>h x hx rfl,fun h a ha e=>h (e▸ha)⟩
theorem be8 {l r:List Int} (h:D0 l=false):D0 (l++r)=false:=by
 rw [Bool.eq_false_iff] at h ⊢
 intro hh
 exact h (G0.2 (List.nodup_append.1 (G0.1 hh)).1)
theorem bW4 (a b c:Int) (code:List RIns) (out:List Place) (hp:-9223372036854775808≤b∧b<9223372036854775808∧P9 code=true∧out.length≤17592186044400):vc (EV [(60,cShaped),(61,cContains),(58,cFollow)]) (bN1 code) Go.Proofs.Tryd.f22 cValid (a,b,c,code,out,()):=by
 rw [bW3 a b c code out]
 intro e0 e1 e2 e3 e4 hsl hso
 obtain ⟨hp1,hp2,hp3,hp4⟩:=hp
 have hd:e1=rins0:=rfl
 have he2:e2=(L3 ⟨a,b,c,code,out⟩,()):=rfl
 have he4:e4=!I9 ⟨a,b,c,code,out⟩:=rfl
 have he0:e0=decide ((16000:Int)<(code.length:Int)):=rfl
 simp only [L3] at he2
 clear_value e0 e1 e2 e4
 subst hd
 dsimp only [e3]
 simp only [true_and,and_true]
 have hins:∀ k,k<code.length→au3 (code.getD k rins0).ins=true:=fun k hk=>cr4.1 hp3 _ (G5 hk _)
 refine ⟨fun h=>?_,fun h=>⟨⟨hp1,hp2⟩,fun h2=>?_,fun h2=>?_⟩⟩
 ·rw [he0] at h
  have h:(16000:Int)<code.length:=cp4 h
  rw [he2,if_pos (by omega)]
 ·rw [he0] at h
  have h:¬ (16000:Int)<code.length:=cp3 h
  rw [he4,Bool.not_eq_true'] at h2
  rw [he2,if_neg (by omega),if_pos h2]
 rw [he0] at h
 have h:¬ (16000:Int)<code.length:=cp3 h
 rw [he4,Bool.not_eq_false'] at h2
 rw [if_neg (by omega),h2,if_neg (by simp)] at he2
 refine ⟨⟨(0,()),rfl,Int.le_refl _,by dsimp only;omega,by simp⟩,?_⟩
 rintro ⟨i,⟨⟩⟩ ⟨h0,h1,h3⟩
 dsimp only at h0 h1 h3 ⊢
 obtain ⟨k,rfl⟩:=cp0 h0
 simp only [co8] at h3 ⊢
 refine ⟨fun hlt=>?_,fun hge=>?_⟩
 ·have hlt:(k:Int)<code.length:=cp4 hlt
  have hkc:k<code.length:=by omega
  have hx:=(N3 _).1 (hins k hkc)
  have no:(code.getD k rins0).kind=0→D0 (code.getD k rins0).ins.to=false→((5:Int),())=e2:=fun q1 q2=>by
   have:(code.all fun x=>x.kind !=0||D0 x.ins.to)=false:=aV0 rins0 hkc (by rw [q1,q2];rfl)
   rw [he2,this,if_pos rfl]
  have yes:((code.getD k rins0).kind≠0∨D0 (code.getD k rins0).ins.to=true)→∃ p':Int×Unit,IntKind.i64.wrap ((k:Int)+1)=p'.1∧(0≤p'.1∧p'.1≤(code.length:Int)∧((code.take p'.1.toNat).all fun x=>x.kind !=0||D0 x.ins.to)=true)∧code.length-p'.1.toNat<code.length-k:=fun q=>
   ⟨((k+1:Nat),()),B6 hkc (by omega),⟨by omega,by dsimp only;omega,by
    dsimp only;rw [co8]
    refine ar4 rins0 hkc h3 ?_
    rcases q with q|q
    ·exact (Bool.or_eq_true_iff ..).2 (.inl (bne_iff_ne.2 q))
    ·rw [q];simp⟩,by dsimp only;omega⟩
  obtain ⟨x,hxe⟩:∃ x,code.getD k rins0=x:=⟨_,rfl⟩
  simp only [hxe] at hx no yes ⊢
  refine ⟨⟨h0,hlt⟩,⟨(0,()),rfl,Int.le_refl _,by dsimp only;omega,.inr (by simp [D0])⟩,?_⟩
  rintro ⟨i,⟨⟩⟩ ⟨g0,g1,g2⟩
  dsimp only at g0 g1 g2 ⊢
  obtain ⟨j,rfl⟩:=cp0 g0
  simp only [co8] at g2 ⊢
  refine ⟨fun glt=>?_,fun gge=>?_⟩
  ·have glt:(j:Int)<x.ins.to.length:=cp4 glt
   have hjc:j<x.ins.to.length:=by omega
   have hsn:=aV4 (x.ins.to.take j) (x.ins.to.getD j 0)
   rw [←A5 hjc] at hsn
   refine ⟨⟨g0,glt⟩,fun _=>⟨g0,by omega⟩,fun hq=>?_,fun hq=>?_⟩
   ·simp only [co7,beq_iff_eq] at hq
    refine no hq.1 ?_
    rw [hq.2] at hsn
    have h5:D0 (x.ins.to.take (j+1))=false:=by rw [hsn];simp
    have:=be8 (r:=x.ins.to.drop (j+1)) h5
    rwa [List.take_append_drop] at this
   ·refine ⟨((j+1:Nat),()),B6 hjc (by have:=hx.1.1;omega),⟨by omega,by dsimp only;omega,?_⟩,by dsimp only;omega⟩
    dsimp only
    rw [co8]
    rcases g2 with g2|g2
    ·exact .inl g2
    ·by_cases hk:x.kind=0
     ·right
      simp only [hk,beq_self_eq_true,Bool.true_and] at hq
      rw [hsn,g2,hq];rfl
     ·exact .inl hk
  ·have hj:j=x.ins.to.length:=by have:¬ (j:Int)<x.ins.to.length:=cp3 gge;omega
   subst hj
   rw [cr2] at g2
   exact yes g2
 ·have hk:k=code.length:=by have:¬ (k:Int)<code.length:=cp3 hge;omega
  subst hk
  rw [cr2] at h3
  rw [h3,if_neg (by simp)] at he2
  have hsh:0≤a∧a≤4000:=by
   simp only [I9,H3,co7,List.all_cons,List.all_nil,cq6] at h2
   omega
  refine ⟨⟨hsh.1,hsh.2,by omega,hp3,hp4⟩,fun q=>?_,fun q=>?_⟩
  ·rw [Bool.not_eq_true'] at q
   rw [he2,if_pos q]
  ·rw [Bool.not_eq_false'] at q
   rw [he2,q,if_neg (by simp)]
theorem aI8:C8 prog RG 22 cValid:=E5 (A8 be4 (A8 N0 (A8 ay3 B8))) (fun p=>bN1 p.2.2.2.1) (by kernel_rfl) (by kernel_rfl) (by kernel_rfl) fun (a,b,c,code,out,()) hp=>bW4 a b c code out hp
theorem be9 {c:RCode} (h:L3 c=0):c.code.length≤16000∧I9 c=true∧(c.code.all fun x=>x.kind !=0||D0 x.ins.to)=true∧(C0 c).2=true:=by
 unfold L3 at h
 split at h
 ·cases h
 ·split at h
  ·cases h
  ·split at h
   ·cases h
   ·split at h
    ·cases h
    ·rename_i h1 h2 h3 h4
     exact ⟨by omega,(Bool.not_eq_false _▸h2),(Bool.not_eq_false _▸h3),(Bool.not_eq_false _▸h4)⟩
theorem aV5 {c:RCode} (h:I9 c=true):0≤c.params∧c.params≤4000:=by
 simp only [I9,H3,co7,List.all_cons,List.all_nil,cq6] at h
 omega
theorem cg3 (a b c:Int) (code:List RIns) (out:List Place) (hp:-9223372036854775808≤b∧b<9223372036854775808∧P9 code=true∧out.length≤17592186044400):vc (EV [(22,cValid),(58,cFollow)]) (cg1 a (C0 ⟨a,b,c,code,out⟩).1.code) Go.Proofs.Tryd.f20 cBack (a,b,c,code,out,()):=by
 rw [cg2 a b c code out]
 intro e0 e1 e2 e3 e4 e5 e6 e7 hsl hso
 have hb:e0=((L7 ⟨a,b,c,code,out⟩).1.params,(L7 ⟨a,b,c,code,out⟩).1.code,(L7 ⟨a,b,c,code,out⟩).1.out,(L7 ⟨a,b,c,code,out⟩).1.at_,(L7 ⟨a,b,c,code,out⟩).2,()):=rfl
 have he7:e7=L3 ⟨a,b,c,code,out⟩:=rfl
 have he3:e3=(e7 !=0):=rfl
 clear_value e0 e3
 dsimp only [e1,e2,e4,e5,e6]
 simp only [true_and,and_true]
 refine ⟨hp,fun h=>?_,fun h=>?_⟩
 ·have hne:L3 ⟨a,b,c,code,out⟩≠0:=by
   rw [←he7];rw [he3] at h;simpa using h
  have:L7 ⟨a,b,c,code,out⟩=(bJ0,L3 ⟨a,b,c,code,out⟩):=by simp only [L7,if_pos hne]
  rw [hb,this,he7];rfl
 have hz:L3 ⟨a,b,c,code,out⟩=0:=by
  rw [←he7];rw [he3] at h;simpa using h
 obtain ⟨h1,h2,h3,h4⟩:=be9 hz
 have hpar:=aV5 h2
 have hm:=aV3 hpar h1 hp.2.2.1
 have hB:L7 ⟨a,b,c,code,out⟩=if 4000<J0 a (C0 ⟨a,b,c,code,out⟩).1.code∨4000<(C0 ⟨a,b,c,code,out⟩).1.code.length then (bJ0,9) else ((C0 ⟨a,b,c,code,out⟩).1,0):=by simp only [L7,hz,ne_eq,not_true_eq_false,if_false]
 have hpa:=(ar7 ⟨a,b,c,code,out⟩).1
 rw [hB] at hb
 obtain ⟨f,hf⟩:∃ f,C0 ⟨a,b,c,code,out⟩=f:=⟨_,rfl⟩
 simp only [hf] at hb hm h4 hpa ⊢
 obtain ⟨⟨fa,fc,fo,ft⟩,fb⟩:=f
 dsimp only at hb hm h4 hpa ⊢
 subst hpa
 refine ⟨⟨hpar.1,hpar.2,h1,hp.2.2.1,hp.2.2.2⟩,⟨(0,fa,()),rfl,rfl,Int.le_refl _,by dsimp only;omega,by simp [J0]⟩,?_⟩
 rintro ⟨i,n,⟨⟩⟩ ⟨g0,g1,g2⟩
 dsimp only at g0 g1 g2 ⊢
 obtain ⟨k,rfl⟩:=cp0 g0
 simp only [co8] at g2 ⊢
 subst g2
 refine ⟨fun hlt=>?_,fun hge=>?_⟩
 ·have hlt:(k:Int)<fc.length:=cp4 hlt
  have hkc:k<fc.length:=by omega
  have hs:J0 fa (fc.take (k+1))=J0 fa (fc.take k)+((fc.getD k ins0).to.length:Int):=by
   rw [A5 hkc ins0,au8];rfl
  have hle:=bm8 fc (k+1) fa
  have hge:=aI7 (fc.take k) fa
  have hpar1:0≤fa:=hpar.1
  refine ⟨⟨g0,hlt⟩,((k+1:Nat),J0 fa (fc.take (k+1)),()),B6 hkc (by omega),?_,⟨by omega,by dsimp only;omega,by dsimp only;rw [co8]⟩,by dsimp only;omega⟩
  show IntKind.i64.wrap (J0 fa (fc.take k)+((fc.getD k ins0).to.length:Int))=_
  rw [←hs,E9 (by omega) (by omega)]
 ·have hk:k=fc.length:=by have:¬ (k:Int)<fc.length:=cp3 hge;omega
  subst hk
  rw [cr2]
  refine ⟨fun q=>?_,fun q=>?_⟩
  ·simp only [Bool.or_eq_true,cq6] at q
   have:4000<J0 fa fc∨4000<fc.length:=by omega
   rw [if_pos this] at hb
   exact hb.symm
  ·simp only [Bool.or_eq_false_iff,decide_eq_false_iff_not] at q
   have:¬ (4000<J0 fa fc∨4000<fc.length):=by omega
   rw [if_neg this] at hb
   exact hb.symm
theorem bB7:C8 prog RG 20 cBack:=E5 (A8 aI8 (A8 ay3 B8)) (fun p=>cg1 p.1 (C0 ⟨p.1,p.2.1,p.2.2.1,p.2.2.2.1,p.2.2.2.2.1⟩).1.code) (by kernel_rfl) (by kernel_rfl) (by kernel_rfl) fun (a,b,c,code,out,()) hp=>cg3 a b c code out hp
abbrev Reads:=List (Int×List Int)
abbrev mapR:Ty:=.map i64 ints
def getL (r:Reads) (n:Int):List Int:=(mget eqI r n).getD []
def aI9 (rd:Reads) (N reg from_:Int):Int:=((getL rd reg).find? (fun x=>decide (from_≤x))).getD N
def bN4:Place:=⟨true,-1⟩
def al2 (m:Holds) (reg:Int) (s:Nat):Bool:=decide (mget eqP m ⟨false,(s:Int)⟩=some reg)
def B9 (m:Holds) (ks reg:Int):Place:=match (List.range ks.toNat).find? (al2 m reg) with
 |some s=>⟨false,(s:Int)⟩
 |none=>bN4
def held0:Held:=⟨0,0,0⟩
def an8 (x y:Held):Bool:=decide (x.next >y.next)||(x.next==y.next&&decide (x.reg >y.reg))
def H9 (x y:Held):Held:=bif an8 y x then y else x
def K1 (l:List Held):Held:=l.tail.foldl H9 (l.headD held0)
structure AS where
 holds:Holds
 cells:List (Int×Int)
 ocells:Int
 code:List RIns
def C5 (sp:Spans) (rd:Reads) (N:Int) (m:Holds) (place:Int) (stay:List Int):List Nat→List Held→Option Int×List Held
 |[],acc=>(none,acc)
 |s::r,acc=>match mget eqP m ⟨false,(s:Int)⟩ with
  |none=>(some (s:Int),acc)
  |some n=>bif stay.contains n then C5 sp rd N m place stay r acc else bif H1 (getS sp n).first (getS sp n).last place then C5 sp rd N m place stay r (acc++[⟨(s:Int),n,aI9 rd N n place⟩]) else (some (s:Int),acc)
def K9 (sp:Spans) (rd:Reads) (ks N:Int) (m:Holds) (place:Int) (stay:List Int):Option Int×List Held:=C5 sp rd N m place stay (List.range ks.toNat) []
def Z0 (sp:Spans) (rd:Reads) (ks N:Int) (m:Holds) (place:Int) (stay:List Int):Prop:=(K9 sp rd ks N m place stay).1=none→(K9 sp rd ks N m place stay).2≠[]
def ad3 (s:AS) (x:Held):AS:=bif (mget eqI s.cells x.reg).isSome then s else ⟨s.holds,mput eqI s.cells x.reg s.ocells,s.ocells+1,s.code++[⟨2,x.slot,s.ocells,ins0⟩]⟩
def F6 (sp:Spans) (rd:Reads) (ks N:Int) (s:AS) (place:Int) (stay:List Int):Int×AS:=
 match (K9 sp rd ks N s.holds place stay).1 with
 |some i=>(i,s)
 |none=>((K1 (K9 sp rd ks N s.holds place stay).2).slot,ad3 s (K1 (K9 sp rd ks N s.holds place stay).2))
def G1:List Int→List Int→List Int
 |_,[]=>[]
 |seen,x::r=>bif seen.contains x then G1 (seen++[x]) r else x::G1 (seen++[x]) r
def B1 (l:List Int):List Int:=G1 [] l
def D4 (sp:Spans) (rd:Reads) (ks N i:Int) (fr:List Int) (s:AS) (n:Int):AS:=
 bif (B9 s.holds ks n).cell then
  (match F6 sp rd ks N s i fr with
  |(q,t)=>⟨mput eqP t.holds ⟨false,q⟩ n,t.cells,t.ocells,t.code++[⟨1,q,getI t.cells n,ins0⟩]⟩)
 else s
def M3 (sp:Spans) (rd:Reads) (ks N i:Int) (to:List Int) (s:AS) (n:Int):AS:=
 match F6 sp rd ks N s (i+1) to with
 |(q,t)=>⟨mput eqP t.holds ⟨false,q⟩ n,t.cells,t.ocells,t.code⟩
def D3 (sp:Spans) (rd:Reads) (ks N i:Int) (fr:List Int) (s:AS) (l:List Int):AS:=l.foldl (D4 sp rd ks N i fr) s
def G7 (sp:Spans) (rd:Reads) (ks N i:Int) (to:List Int) (s:AS) (l:List Int):AS:=l.foldl (M3 sp rd ks N i to) s
def J1 (m:Holds) (ks:Int) (l:List Int):List (Int×Int):=l.foldl (fun mm n=>mput eqI mm n (B9 m ks n).n) []
def doOf (sp:Spans) (rd:Reads) (ks N i:Int) (x:Ins) (s:AS):AS:=
 match D3 sp rd ks N i (B1 x.from_) s (B1 x.from_) with
 |s1=>match G7 sp rd ks N i x.to s1 x.to with
  |s2=>⟨s2.holds,s2.cells,s2.ocells,s2.code++[⟨0,0,0,⟨x.op,x.n,x.to.map (fun n=>(B9 s2.holds ks n).n),x.from_.map (getI (J1 s1.holds ks (B1 x.from_))),x.body⟩⟩]⟩
def doOk (sp:Spans) (rd:Reads) (ks N i:Int) (x:Ins) (s:AS):Prop:=
 (∀ k,k<(B1 x.from_).length→(B9 (D3 sp rd ks N i (B1 x.from_) s ((B1 x.from_).take k)).holds ks ((B1 x.from_).getD k 0)).cell=true→Z0 sp rd ks N (D3 sp rd ks N i (B1 x.from_) s ((B1 x.from_).take k)).holds i (B1 x.from_))∧
 (∀ k,k<x.to.length→Z0 sp rd ks N (G7 sp rd ks N i x.to (D3 sp rd ks N i (B1 x.from_) s (B1 x.from_)) (x.to.take k)).holds (i+1) x.to)
def ag9 (rd:Reads):Prop:=∀ n,(getL rd n).Pairwise (·≤·)
abbrev tysA:List Ty:=[i64,inss,ints,ints,mapS,mapR,mapP,mapI,i64,i64,i64,aT6,ax6]
abbrev objA (j b:Nat):List OPat:=[.box 86 [.d b,.d (b+1),.d (b+2),.d (b+3),.map (j+1),.map (j+2),.map (j+3),.map (j+4),.d (b+8),.d (b+9),.d (b+10),.row (j+5),.row (j+6)],.map (b+4),.map (b+5),.map (b+6),.map (b+7),.row (b+11),.row (b+12)]
def cIsNaN:Con RU:=con [one] [i64] [one] [.bool] [false] none fun p=>(false,())
def cLess:Con RU:=con [one,one] [i64,i64] [one] [.bool] [false] none fun p=>(decide (p.1<p.2.1),())
def cBin:Con RU:=⟨[one,one],[ints,i64],[.d 0,.d 1],[],some fun p=>p.1.Pairwise (·≤·),none,[one,one],[i64],[.d 0,.un],[],fun p=>(((p.1.takeWhile (fun x=>decide (x<p.2.1))).length:Int),()),[],[],[]⟩
def lBin (l:List Int) (t:Int):Nat→St RU→Ann RU:=fun _ _=>⟨[],[.slot 7,.slot 8],[i64,i64],fun p=>0≤p.1∧p.1≤p.2.1∧p.2.1≤l.length∧(∀ x∈l.take p.1.toNat,x<t)∧(∀ x∈l.drop p.2.1.toNat,t≤x),fun p=>(p.2.1-p.1).toNat,[]⟩
def cSlot:Con RU:=⟨[one,one],i64::tysA,[.ptr 0 0,.d 0],objA 0 1,some fun p=>p.2.2.2.2.2.2.2.2.2.2.1≤64,none,[(true,2)],.bool::i64::tysA,[.d 0,.d 1],objA 0 2,fun p=>((B9 p.2.2.2.2.2.2.2.1 p.2.2.2.2.2.2.2.2.2.2.1 p.1).cell,(B9 p.2.2.2.2.2.2.2.1 p.2.2.2.2.2.2.2.2.2.2.1 p.1).n,p.2),[],[],[]⟩
def cg4 (ho:Holds) (ks reg:Int):Nat→St RU→Ann RU:=fun _ _=>⟨[],[.slot 14],[i64],fun p=>0≤p.1∧(p.1≤ks∨p.1=0)∧∀ s∈List.range p.1.toNat,al2 ho reg s=false,fun p=>ks.toNat-p.1.toNat,[]⟩
def cPutA:Con RU:=⟨[one,(true,8)],[i64,i64,i64,i64,i64,ints,ints,inss]++tysA,[.ptr 0 0,.d 0,.d 1,.d 2,.d 3,.d 4,.d 5,.d 6,.d 7],objA 0 8,some fun p=>p.2.2.2.2.2.2.2.2.2.2.2.2.2.2.2.2.2.2.2.1.length≤1000000000,none,[],tysA,[],objA 0 0,
 fun p=>match p with
  |(k,s,c,o,n,t,f,b,a0,a1,a2,a3,sp,rd,ho,ce,op,ks,oc,cd,ou,())=>(a0,a1,a2,a3,sp,rd,ho,ce,op,ks,oc,cd++[⟨k,s,c,⟨o,n,t,f,b⟩⟩],ou,()),[],[],[]⟩
def cNext:Con RU:=⟨[one,one,one],i64::i64::tysA,[.ptr 0 0,.d 0,.d 1],objA 0 2,some fun p=>ag9 p.2.2.2.2.2.2.2.1,none,[one],i64::tysA,[.d 0],objA 0 1,fun p=>(aI9 p.2.2.2.2.2.2.2.1 p.2.2.2.1.length p.1 p.2.1,p.2.2),[],[],[]⟩
def cBetter:Con RU:=con [(true,3),(true,3)] [i64,i64,i64,i64,i64,i64] [one] [.bool] [false] none fun p=>(an8 ⟨p.1,p.2.1,p.2.2.1⟩ ⟨p.2.2.2.1,p.2.2.2.2.1,p.2.2.2.2.2.1⟩,())
def cBest:Con RU:=⟨[(true,1),one],[ck5],[.fn 102,.d 0],[],some fun p=>p.1≠[],none,[(true,3)],[i64,i64,i64],[.d 0,.d 1,.d 2],[],fun p=>((K1 p.1).slot,(K1 p.1).reg,(K1 p.1).next,()),[],[],[]⟩
def cg5 (l:List Held):Nat→St RU→Ann RU:=fun _ _=>⟨[],[.slot 14,.box 320 0,.box 320 1,.box 320 2],[i64,i64,i64,i64],fun p=>0≤p.1∧p.1≤l.tail.length∧(⟨p.2.1,p.2.2.1,p.2.2.2.1⟩:Held)=(l.tail.take p.1.toNat).foldl H9 (l.headD held0),fun p=>l.tail.length-p.1.toNat,[]⟩
theorem bW5 (a:Int):vc (EV []) noL Go.Proofs.Tryd.f110 cIsNaN (a,())=((a !=a,())=(false,())):=by kernel_rfl
theorem bN5 (a:Int):vc (EV []) noL Go.Proofs.Tryd.f111 cIsNaN (a,())=((a !=a,())=(false,())):=by kernel_rfl
theorem cg6 (a b:Int):vc (EV [(111,cIsNaN)]) noL Go.Proofs.Tryd.f109 cLess (a,b,())=(
 let e0:Bool:=decide (a<b);
  (false&&!false||e0,())=(e0,())):=by kernel_rfl
theorem cm0 (l:List Int) (t:Int):vc (EV [(109,cLess),(110,cIsNaN)]) (lBin l t) Go.Proofs.Tryd.f107 cBin (l,t,())=(
 let e0:Int:=(↑(List.length l):Int);
 let e1:Int:=(2:Int) ^ (1:Nat);
  Small RU (Sigma.mk (Ty.slice (3:Nat) (Ty.int IntKind.i64)) l)→
  (∃ (p:Int×Int×Unit),
  l=l∧
  t=t∧
  (0:Int)=(0:Int)∧
  false=false∧
  e0=e0∧
  (0:Int)=p.1∧
  e0=p.2.1∧
  (0:Int)≤p.1∧
  p.1≤p.2.1∧p.2.1≤e0∧(∀ (x:Int),List.Mem x (List.take (Int.toNat p.1) l)→x<t)∧∀ (x:Int),List.Mem x (List.drop (Int.toNat p.2.1) l)→t≤x)∧
  ∀ (p:Int×Int×Unit),
 let e0_1:Bool:=decide (List.getD l (Int.toNat (IntKind.i64.wrap (Int.fdiv (IntKind.wrap IntKind.u64 (IntKind.i64.wrap (p.1+p.2.1))) e1))) (0:Int)<t);
 let e1:Int:=IntKind.i64.wrap (Int.fdiv (IntKind.wrap IntKind.u64 (IntKind.i64.wrap (p.1+p.2.1))) e1);
 let e2:Bool:=decide (p.1<p.2.1);
 let e3:Int:=p.2.1;
 let e4:Int:=p.1;
  ((0:Int)≤e4∧e4≤e3∧e3≤e0∧(∀ (x:Int),List.Mem x (List.take (Int.toNat e4) l)→x<t)∧∀ (x:Int),List.Mem x (List.drop (Int.toNat e3) l)→t≤x)→
  (e2=true→
  (0:Int)≤(1:Int)∧
  ((0:Int)≤e1∧e1<e0)∧
  ∃ (p':Int×Int×Unit),
  (bif e0_1 then l else l)=l∧
  (bif e0_1 then t else t)=t∧
  (bif e0_1 then (0:Int) else (0:Int))=(0:Int)∧
  (bif e0_1 then false else false)=false∧
  (bif e0_1 then e0 else e0)=e0∧
  (bif e0_1 then IntKind.i64.wrap (e1+(1:Int)) else e4)=p'.1∧
  (bif e0_1 then e3 else e1)=p'.2.1∧
  ((0:Int)≤p'.1∧
  p'.1≤p'.2.1∧
  p'.2.1≤e0∧(∀ (x:Int),List.Mem x (List.take (Int.toNat p'.1) l)→x<t)∧∀ (x:Int),List.Mem x (List.drop (Int.toNat p'.2.1) l)→t≤x)∧
  Int.toNat (p'.2.1-p'.1)<Int.toNat (e3-e4))∧
  (e2=false→
  (decide (e4<e0)=true→(0:Int)≤e4∧e4<e0)∧
  (decide (e4<e0)=true→(List.getD l (Int.toNat e4) (0:Int)==t)=false→(0:Int)≤e4∧e4<e0)∧
  (e4,())=((↑(List.length (List.takeWhile (fun (x:den RU.T i64)=>decide (x<t)) l)):Int),()))):=by kernel_rfl
theorem cg7 (reg a0:Int) (a1:List Ins) (a2 a3:List Int) (sp:Spans) (rd:Reads) (ho:Holds) (ce:List (Int×Int)) (op ks oc:Int) (cd:List RIns) (ou:List Place):vc (EV []) (cg4 ho ks reg) Go.Proofs.Tryd.f54 cSlot (reg,a0,a1,a2,a3,sp,rd,ho,ce,op,ks,oc,cd,ou,())=(
 let e0:Int×List Ins×List Int×List Int×List (Int×Span)×List (Int×List Int)×List (Place×Int)×List (Int×Int)×Int×Int×Int×List RIns×List Place×Unit:=
  (a0,a1,a2,a3,sp,rd,ho,ce,op,ks,oc,cd,ou,());
 let e1:Bool×Int×Int×List Ins×List Int×List Int×List (Int×Span)×List (Int×List Int)×List (Place×Int)×List (Int×Int)×Int×Int×Int×List RIns×List Place×Unit:=
  ((B9 ho ks reg).cell,(B9 ho ks reg).n,e0);
  Small RU (Sigma.mk (Ty.slice (52:Nat) (Ty.user (0:Nat))) a1)→
  Small RU (Sigma.mk (Ty.slice (3:Nat) (Ty.int IntKind.i64)) a2)→
  Small RU (Sigma.mk (Ty.slice (3:Nat) (Ty.int IntKind.i64)) a3)→
  Small RU (Sigma.mk (Ty.slice (55:Nat) (Ty.user (1:Nat))) cd)→
  Small RU (Sigma.mk (Ty.slice (59:Nat) (Ty.user (2:Nat))) ou)→
  (∃ (p:Int×Unit),
  reg=reg∧
  ks=ks∧
  (0:Int)=p.1∧
  a0=a0∧
  a1=a1∧
  a2=a2∧
  a3=a3∧
  op=op∧
  ks=ks∧
  oc=oc∧
  sp=sp∧
  rd=rd∧
  ho=ho∧
  ce=ce∧
  cd=cd∧
  ou=ou∧
  false=false∧
  (0:Int)=(0:Int)∧
  (0:Int)≤p.1∧(p.1≤ks∨p.1=(0:Int))∧∀ (s:Nat),List.Mem s (List.range (Int.toNat p.1))→al2 ho reg s=false)∧
  ∀ (p:Int×Unit),
 let e0_1:Bool:=
  Option.isSome (mget (E7 RU (Ty.user (2:Nat))) ho (Place.mk false p.1))&&Option.getD (mget (E7 RU (Ty.user (2:Nat))) ho (Place.mk false p.1)) (0:Int)==reg;
 let e1_1:Bool:=decide (p.1<ks);
  ((0:Int)≤p.1∧(p.1≤ks∨p.1=(0:Int))∧∀ (s:Nat),List.Mem s (List.range (Int.toNat p.1))→al2 ho reg s=false)→
  (e1_1=true→
  (e0_1=true→(false,p.1,e0)=e1)∧
  (e0_1=false→
  ∃ (p':Int×Unit),
  reg=reg∧
  ks=ks∧
  IntKind.i64.wrap (p.1+(1:Int))=p'.1∧
  a0=a0∧
  a1=a1∧
  a2=a2∧
  a3=a3∧
  op=op∧
  ks=ks∧
  oc=oc∧
  sp=sp∧
  rd=rd∧
  ho=ho∧
  ce=ce∧
  cd=cd∧
  ou=ou∧
  false=false∧
  (0:Int)=(0:Int)∧
  ((0:Int)≤p'.1∧
  (p'.1≤ks∨p'.1=(0:Int))∧∀ (s:Nat),List.Mem s (List.range (Int.toNat p'.1))→al2 ho reg s=false)∧
  Int.toNat ks-Int.toNat p'.1<Int.toNat ks-Int.toNat p.1))∧
  (e1_1=false→(true,(-1:Int),e0)=e1)):=by kernel_rfl
theorem cg8 (k s c o n:Int) (t f:List Int) (b:List Ins) (a0:Int) (a1:List Ins) (a2 a3:List Int) (sp:Spans) (rd:Reads) (ho:Holds) (ce:List (Int×Int)) (op ks oc:Int) (cd:List RIns) (ou:List Place):vc (EV []) noL Go.Proofs.Tryd.f85 cPutA (k,s,c,o,n,t,f,b,a0,a1,a2,a3,sp,rd,ho,ce,op,ks,oc,cd,ou,())=(
 let e0:List RIns:=[RIns.mk k s c (Ins.mk o n t f b)];
  Small RU (Sigma.mk (Ty.slice (3:Nat) (Ty.int IntKind.i64)) t)→
  Small RU (Sigma.mk (Ty.slice (3:Nat) (Ty.int IntKind.i64)) f)→
  Small RU (Sigma.mk (Ty.slice (52:Nat) (Ty.user (0:Nat))) b)→
  Small RU (Sigma.mk (Ty.slice (52:Nat) (Ty.user (0:Nat))) a1)→
  Small RU (Sigma.mk (Ty.slice (3:Nat) (Ty.int IntKind.i64)) a2)→
  Small RU (Sigma.mk (Ty.slice (3:Nat) (Ty.int IntKind.i64)) a3)→
  Small RU (Sigma.mk (Ty.slice (55:Nat) (Ty.user (1:Nat))) cd)→
  Small RU (Sigma.mk (Ty.slice (59:Nat) (Ty.user (2:Nat))) ou)→
  (List.length cd+List.length e0)*(112:Nat)≤(140737488355328:Nat)∧
  (a0,a1,a2,a3,sp,rd,ho,ce,op,ks,oc,cd++e0,ou,())=(a0,a1,a2,a3,sp,rd,ho,ce,op,ks,oc,cd++e0,ou,())):=by kernel_rfl
theorem cg9 (reg fr a0:Int) (a1:List Ins) (a2 a3:List Int) (sp:Spans) (rd:Reads) (ho:Holds) (ce:List (Int×Int)) (op ks oc:Int) (cd:List RIns) (ou:List Place):vc (EV [(107,cBin)]) noL Go.Proofs.Tryd.f100 cNext (reg,fr,a0,a1,a2,a3,sp,rd,ho,ce,op,ks,oc,cd,ou,())=(
 let e0:Int:=(↑(List.length (List.takeWhile (fun (x:den RU.T i64)=>decide (x<fr)) (Option.getD (mget (fun (x y:Int)=>x==y) rd reg) []))):Int);
 let e1:Int×List Ins×List Int×List Int×List (Int×Span)×List (Int×List Int)×List (Place×Int)×List (Int×Int)×Int×Int×Int×List RIns×List Place×Unit:=
  (a0,a1,a2,a3,sp,rd,ho,ce,op,ks,oc,cd,ou,());
 let e2:Int×Int×List Ins×List Int×List Int×List (Int×Span)×List (Int×List Int)×List (Place×Int)×List (Int×Int)×Int×Int×Int×List RIns×List Place×Unit:=
  (aI9 rd (↑(List.length a1):Int) reg fr,e1);
 let e3:List Int:=Option.getD (mget (fun (x y:Int)=>x==y) rd reg) [];
  Small RU (Sigma.mk (Ty.slice (52:Nat) (Ty.user (0:Nat))) a1)→
  Small RU (Sigma.mk (Ty.slice (3:Nat) (Ty.int IntKind.i64)) a2)→
  Small RU (Sigma.mk (Ty.slice (3:Nat) (Ty.int IntKind.i64)) a3)→
  Small RU (Sigma.mk (Ty.slice (55:Nat) (Ty.user (1:Nat))) cd)→
  Small RU (Sigma.mk (Ty.slice (59:Nat) (Ty.user (2:Nat))) ou)→
  List.Pairwise (fun (x1 x2:den RU.T i64)=>x1≤x2) e3∧
  ((e0==(↑(List.length e3):Int))=true→((↑(List.length a1):Int),e1)=e2)∧
  ((e0==(↑(List.length e3):Int))=false→((0:Int)≤e0∧e0<(↑(List.length e3):Int))∧(List.getD e3 (Int.toNat e0) (0:Int),e1)=e2)):=by kernel_rfl
theorem bN6 (a b c d e f:Int):vc (EV []) noL Go.Proofs.Tryd.f102 cBetter (a,b,c,d,e,f,())=((decide (c >f)||c==f&&decide (b >e),())=(an8 (Held.mk a b c) (Held.mk d e f),())):=by kernel_rfl
theorem ch0 (l:List Held):vc (EV [(102,cBetter)]) (cg5 l) Go.Proofs.Tryd.f101 cBest (l,())=(
 let e0:Int:=(↑(List.length (List.drop (1:Nat) l)):Int);
 let e1:Held:=List.getD l (0:Nat) (Held.mk (0:Int) (0:Int) (0:Int));
 let e2:List Held:=List.drop (1:Nat) l;
 let e3:Value:=Value.func (Fn.func (102:Nat)) #[] #[];
  Small RU (Sigma.mk (Ty.slice (131:Nat) (Ty.user (4:Nat))) l)→
  ((0:Int)≤(0:Int)∧(0:Int)<(↑(List.length l):Int))∧
  ((0:Int)≤(1:Int)∧(1:Int)≤(↑(List.length l):Int))∧
  (∃ (p:Int×Int×Int×Int×Unit),
  e3=e3∧
  l=l∧
  e2=e2∧
  e0=e0∧
  (0:Int)=p.1∧
  e3=e3∧
  (0:Int)=(0:Int)∧
  (0:Int)=(0:Int)∧
  (0:Int)=(0:Int)∧
  e1.slot=p.2.1∧
  e1.reg=p.2.2.1∧
  e1.next=p.2.2.2.1∧
  (0:Int)≤p.1∧
  p.1≤(↑(List.length (List.tail l)):Int)∧
  Held.mk p.2.1 p.2.2.1 p.2.2.2.1=List.foldl H9 (List.headD l held0) (List.take (Int.toNat p.1) (List.tail l)))∧
  ∀ (p:Int×Int×Int×Int×Unit),
 let e0_1:Bool:=
  an8
  (Held.mk (List.getD e2 (Int.toNat p.1) (Held.mk (0:Int) (0:Int) (0:Int))).slot (List.getD e2 (Int.toNat p.1) (Held.mk (0:Int) (0:Int) (0:Int))).reg
  (List.getD e2 (Int.toNat p.1) (Held.mk (0:Int) (0:Int) (0:Int))).next)
  (Held.mk p.2.1 p.2.2.1 p.2.2.2.1);
 let e1:Held:=List.getD e2 (Int.toNat p.1) (Held.mk (0:Int) (0:Int) (0:Int));
 let e2_1:Int:=p.1;
 let e3_1:Int:=p.2.2.2.1;
 let e4:Int:=p.2.2.1;
 let e5:Int:=p.2.1;
 let e6:Bool:=decide (e2_1<e0);
  (0:Int)≤e2_1∧e2_1≤(↑(List.length (List.tail l)):Int)∧Held.mk e5 e4 e3_1=List.foldl H9 (List.headD l held0) (List.take (Int.toNat e2_1) (List.tail l))→
  (e6=true→
  ((0:Int)≤e2_1∧e2_1<e0)∧
  ∃ (p':Int×Int×Int×Int×Unit),
  e3=e3∧
  (bif e0_1 then l else l)=l∧
  (bif e0_1 then e2 else e2)=e2∧
  (bif e0_1 then e0 else e0)=e0∧
  IntKind.i64.wrap ((bif e0_1 then e2_1 else e2_1)+(1:Int))=p'.1∧
  e3=e3∧
  (bif e0_1 then (0:Int) else (0:Int))=(0:Int)∧
  (bif e0_1 then (0:Int) else (0:Int))=(0:Int)∧
  (bif e0_1 then (0:Int) else (0:Int))=(0:Int)∧
  (bif e0_1 then e1.slot else e5)=p'.2.1∧
  (bif e0_1 then e1.reg else e4)=p'.2.2.1∧
  (bif e0_1 then e1.next else e3_1)=p'.2.2.2.1∧
  ((0:Int)≤p'.1∧
  p'.1≤(↑(List.length (List.tail l)):Int)∧
  Held.mk p'.2.1 p'.2.2.1 p'.2.2.2.1=List.foldl H9 (List.headD l held0) (List.take (Int.toNat p'.1) (List.tail l)))∧
  List.length (List.tail l)-Int.toNat p'.1<List.length (List.tail l)-Int.toNat e2_1)∧
  (e6=false→(e5,e4,e3_1,())=((K1 l).slot,(K1 l).reg,(K1 l).next,()))):=by kernel_rfl
theorem bn0:C8 prog RG 110 cIsNaN:=E5 B8 (fun _=>noL) (by kernel_rfl) (by kernel_rfl) (by kernel_rfl) fun (a,()) _=>(bW5 a).mpr (by rw [bne_self_eq_false])
theorem bf0:C8 prog RG 111 cIsNaN:=E5 B8 (fun _=>noL) (by kernel_rfl) (by kernel_rfl) (by kernel_rfl) fun (a,()) _=>(bN5 a).mpr (by rw [bne_self_eq_false])
theorem bB8:C8 prog RG 109 cLess:=E5 (A8 bf0 B8) (fun _=>noL) (by kernel_rfl) (by kernel_rfl) (by kernel_rfl) fun (a,b,()) _=>(cg6 a b).mpr (by dsimp only;rw [Bool.false_and,Bool.false_or])
theorem aV6 {l:List Int} {t:Int} {k:Nat} (hk:k≤l.length) (h1:∀ x∈l.take k,x<t) (h2:∀ x∈l.drop k,t≤x):l.takeWhile (fun x=>decide (x<t))=l.take k:=by
 induction l generalizing k with
 |nil=>simp
 |cons x r ih=>
  cases k with
  |zero=>
   have:=h2 x (by simp)
   rw [List.takeWhile_cons_of_neg (by simp;omega)]
   rfl
  |succ k=>
   have hx:=h1 x (by simp)
   rw [List.takeWhile_cons_of_pos (by simpa using hx),List.take_succ_cons,ih (by simpa using hk) (fun y hy=>h1 y (by simp [hy])) (fun y hy=>h2 y (by simpa using hy))]
theorem bf1 {l:List Int} (h:l.Pairwise (·≤·)) {i j:Nat} (hij:i≤j) (hj:j<l.length):l.getD i 0≤l.getD j 0:=by
 rw [cp8,cp8,co6 (by omega),co6 hj]
 rcases Nat.lt_or_eq_of_le hij with h1|h1
 ·exact List.pairwise_iff_getElem.1 h i j (by omega) hj h1
 ·subst h1;exact Int.le_refl _
theorem aV7 {l:List Int} {k:Nat} {x:Int} (h:x∈l.take k):∃ i,i<k∧i<l.length∧x=l.getD i 0:=by
 obtain ⟨i,hi,rfl⟩:=List.mem_iff_getElem.1 h
 rw [cr3] at hi
 exact ⟨i,by omega,by omega,by rw [List.getElem_take,cp8,co6 (by omega)];rfl⟩
theorem aV8 {l:List Int} {k:Nat} {x:Int} (h:x∈l.drop k):∃ i,k≤i∧i<l.length∧x=l.getD i 0:=by
 obtain ⟨i,hi,rfl⟩:=List.mem_iff_getElem.1 h
 rw [List.length_drop] at hi
 exact ⟨k+i,by omega,by omega,by rw [List.getElem_drop,cp8,co6 (by omega)];rfl⟩
theorem cm1 (l:List Int) (t:Int) (hp:l.Pairwise (·≤·)):vc (EV [(109,cLess),(110,cIsNaN)]) (lBin l t) Go.Proofs.Tryd.f107 cBin (l,t,()):=by
 rw [cm0 l t]
 intro e0 e1 hs
 have hl:l.length≤140737488355328:=hs.len
 have he1:e1=2:=rfl
 dsimp only [e0]
 simp only [true_and,and_true,Bool.cond_self,he1]
 clear_value e1
 refine ⟨⟨(0,(l.length:Int),()),rfl,rfl,Int.le_refl _,by dsimp only;omega,Int.le_refl _,fun x hx=>?_,fun x hx=>?_⟩,?_⟩
 ·change x∈l.take 0 at hx;simp at hx
 ·dsimp only at hx;change x∈l.drop (l.length:Int).toNat at hx;simp at hx
 rintro ⟨i,j,⟨⟩⟩ ⟨h0,h1,h2,h3,h4⟩
 dsimp only at h0 h1 h2 h3 h4 ⊢
 have h3:∀ x∈l.take i.toNat,x<t:=h3
 have h4:∀ x∈l.drop j.toNat,t≤x:=h4
 obtain ⟨i,rfl⟩:=cp0 h0
 obtain ⟨j,rfl⟩:=cp0 (Int.le_trans h0 h1)
 simp only [co8] at h3 h4 ⊢
 refine ⟨fun hlt=>?_,fun hge=>?_⟩
 ·have hlt:(i:Int)<j:=cp4 hlt
  have hm:IntKind.i64.wrap (Int.fdiv (IntKind.u64.wrap (IntKind.i64.wrap ((i:Int)+j))) 2)=((i+j) / 2:Nat):=by
   rw [E9 (n:=(i:Int)+j) (by omega) (by omega)]
   have hu:IntKind.u64.wrap ((i:Int)+j)=(i:Int)+j:=by
    simp only [IntKind.wrap,IntKind.bits,IntKind.signed,Bool.false_and,Bool.false_eq_true,if_false]
    omega
   rw [hu,Int.fdiv_eq_ediv_of_nonneg _ (by omega),E9 (by omega) (by omega)]
   omega
  rw [hm]
  have hmid:i≤(i+j) / 2∧(i+j) / 2<j:=by omega
  generalize (i+j) / 2=m at hmid ⊢
  simp only [co8]
  refine ⟨by omega,⟨by omega,by omega⟩,?_⟩
  cases hb:decide (l.getD m 0<t) with
  |true=>
   have hb:l.getD m 0<t:=cp4 hb
   simp only [cond_true]
   refine ⟨((m+1:Nat),(j:Int),()),B6 (m:=l.length) (by omega) hl,rfl,⟨by omega,by dsimp only;omega,by dsimp only;omega,fun x hx=>?_,fun x hx=>h4 x hx⟩,by dsimp only;omega⟩
   have hx:x∈l.take ((m+1:Nat):Int).toNat:=hx
   rw [co8] at hx
   obtain ⟨q,hq1,hq2,rfl⟩:=aV7 hx
   have:=bf1 hp (i:=q) (j:=m) (by omega) (by omega)
   omega
  |false=>
   have hb:¬ l.getD m 0<t:=cp3 hb
   simp only [cond_false]
   refine ⟨((i:Int),(m:Int),()),rfl,rfl,⟨by omega,by dsimp only;omega,by dsimp only;omega,fun x hx=>h3 x hx,fun x hx=>?_⟩,by dsimp only;omega⟩
   have hx:x∈l.drop ((m:Nat):Int).toNat:=hx
   rw [co8] at hx
   obtain ⟨q,hq1,hq2,rfl⟩:=aV8 hx
   have:=bf1 hp (i:=m) (j:=q) (by omega) (by omega)
   omega
 ·have hij:i=j:=by have:¬ (i:Int)<j:=cp3 hge;omega
  subst hij
  refine ⟨fun q=>⟨h0,cp4 q⟩,fun q _=>⟨h0,cp4 q⟩,?_⟩
  have:=aV6 (by omega) h3 h4
  have h9:(List.takeWhile (fun (x:den RU.T i64)=>decide (x<t)) l).length=i:=by
   show (List.takeWhile (fun (x:Int)=>decide (x<t)) l).length=i
   rw [this,cr3];omega
  rw [h9]
theorem bN7:C8 prog RG 107 cBin:=E5 (A8 bB8 (A8 bn0 B8)) (fun p=>lBin p.1 p.2.1) (by kernel_rfl) (by kernel_rfl) (by kernel_rfl) fun (l,t,()) hp=>cm1 l t hp
theorem au9 {m:Holds} {reg:Int} {s:Nat}:al2 m reg s=true↔mget eqP m ⟨false,(s:Int)⟩=some reg:=by simp [al2]
theorem bB9 {p:Nat→Bool} {n s:Nat} (h1:∀ x∈List.range s,p x=false) (hs:s<n) (h2:p s=true):(List.range n).find? p=some s:=by
 rw [List.find?_range_eq_some]
 exact ⟨h2,by simpa using hs,fun j hj=>by have:=h1 j (by simpa using hj);simp [this]⟩
theorem aJ0 {p:Nat→Bool} {n:Nat} (h1:∀ x∈List.range n,p x=false):(List.range n).find? p=none:=by
 rw [List.find?_eq_none]
 intro x hx
 rw [h1 x hx]
 simp
theorem ch1 (reg a0:Int) (a1:List Ins) (a2 a3:List Int) (sp:Spans) (rd:Reads) (ho:Holds) (ce:List (Int×Int)) (op ks oc:Int) (cd:List RIns) (ou:List Place) (hp:ks≤64):vc (EV []) (cg4 ho ks reg) Go.Proofs.Tryd.f54 cSlot (reg,a0,a1,a2,a3,sp,rd,ho,ce,op,ks,oc,cd,ou,()):=by
 rw [cg7 reg a0 a1 a2 a3 sp rd ho ce op ks oc cd ou]
 intro e0 e1 _ _ _ _ _
 have he1:e1=((B9 ho ks reg).cell,(B9 ho ks reg).n,e0):=rfl
 clear_value e1 e0
 simp only [true_and,and_true]
 refine ⟨⟨(0,()),rfl,Int.le_refl _,.inr rfl,fun s hs=>?_⟩,?_⟩
 ·change s∈List.range 0 at hs;simp at hs
 rintro ⟨i,⟨⟩⟩ ⟨h0,h1,h2⟩
 dsimp only at h0 h1 h2 ⊢
 have h2:∀ s∈List.range i.toNat,al2 ho reg s=false:=h2
 obtain ⟨i,rfl⟩:=cp0 h0
 simp only [co8] at h2 ⊢
 have hb:((mget (E7 RU (Ty.user 2)) ho ⟨false,(i:Int)⟩).isSome&&(mget (E7 RU (Ty.user 2)) ho ⟨false,(i:Int)⟩).getD 0==reg)=al2 ho reg i:=by
  show ((mget eqP ho ⟨false,(i:Int)⟩).isSome&&(mget eqP ho ⟨false,(i:Int)⟩).getD 0==reg)=decide (mget eqP ho ⟨false,(i:Int)⟩=some reg)
  cases mget eqP ho ⟨false,(i:Int)⟩ with
  |none=>rfl
  |some v=>rw [Bool.eq_iff_iff];simp
 rw [hb]
 refine ⟨fun hlt=>?_,fun hge=>?_⟩
 ·have hlt:(i:Int)<ks:=cp4 hlt
  refine ⟨fun q=>?_,fun q=>?_⟩
  ·rw [he1,show B9 ho ks reg=⟨false,(i:Int)⟩ by unfold B9;rw [bB9 h2 (by omega) q]]
  ·refine ⟨((i+1:Nat),()),?_,⟨by omega,.inl (by dsimp only;omega),fun s hs=>?_⟩,by dsimp only;omega⟩
   ·rw [E9 (by omega) (by omega)];rfl
   ·have hs:s∈List.range ((i+1:Nat):Int).toNat:=hs
    rw [co8,List.range_succ,cr1] at hs
    rcases hs with hs|hs
    ·exact h2 s hs
    ·simp only [cp5] at hs
     rw [hs];exact q
 ·have hge:¬ (i:Int)<ks:=cp3 hge
  have hk:List.range ks.toNat=List.range (min i ks.toNat):=by congr 1;omega
  have hn:(List.range ks.toNat).find? (al2 ho reg)=none:=aJ0 (fun x hx=>h2 x (by simp at hx ⊢;omega))
  rw [he1,show B9 ho ks reg=bN4 by unfold B9;rw [hn]]
  rfl
theorem av0:C8 prog RG 54 cSlot:=E5 B8 (fun p=>cg4 p.2.2.2.2.2.2.2.1 p.2.2.2.2.2.2.2.2.2.2.1 p.1) (by kernel_rfl) (by kernel_rfl) (by kernel_rfl) fun (reg,a0,a1,a2,a3,sp,rd,ho,ce,op,ks,oc,cd,ou,()) hp=>ch1 reg a0 a1 a2 a3 sp rd ho ce op ks oc cd ou hp
theorem aO9:C8 prog RG 85 cPutA:=E5 B8 (fun _=>noL) (by kernel_rfl) (by kernel_rfl) (by kernel_rfl) fun (k,s,c,o,n,t,f,b,a0,a1,a2,a3,sp,rd,ho,ce,op,ks,oc,cd,ou,()) hp=>(cg8 k s c o n t f b a0 a1 a2 a3 sp rd ho ce op ks oc cd ou).mpr (by
 have hp:cd.length≤1000000000:=hp
 intro e0 _ _ _ _ _ _ _ _
 exact ⟨by show (cd.length+1)*112≤_;omega,rfl⟩)
theorem bf2 {t:Int}:∀ (l:List Int),l.find? (fun x=>decide (t≤x))=l[(l.takeWhile (fun x=>decide (x<t))).length]?
 |[]=>rfl
 |x::r=>by
  by_cases h:x<t
  ·rw [List.find?_cons_of_neg (by simpa using h),List.takeWhile_cons_of_pos (by simpa using h)]
   simp only [cq0,List.getElem?_cons_succ]
   exact bf2 r
  ·rw [List.find?_cons_of_pos (by simp;omega),List.takeWhile_cons_of_neg (by simpa using h)]
   rfl
theorem bC0:C8 prog RG 100 cNext:=E5 (A8 bN7 B8) (fun _=>noL) (by kernel_rfl) (by kernel_rfl) (by kernel_rfl) fun (reg,fr,a0,a1,a2,a3,sp,rd,ho,ce,op,ks,oc,cd,ou,()) hp=>(cg9 reg fr a0 a1 a2 a3 sp rd ho ce op ks oc cd ou).mpr (by
 have hp:ag9 rd:=hp
 intro e0 e1 e2 e3 _ _ _ _ _
 have he3:e3=getL rd reg:=rfl
 have he0:e0=((e3.takeWhile (fun x=>decide (x<fr))).length:Int):=rfl
 have he2:e2=(aI9 rd a1.length reg fr,e1):=rfl
 have hN:aI9 rd a1.length reg fr=(e3[(e3.takeWhile (fun x=>decide (x<fr))).length]?).getD a1.length:=by
  rw [←bf2];rfl
 have hle:(e3.takeWhile (fun x=>decide (x<fr))).length≤e3.length:=(List.takeWhile_prefix _).length_le
 rw [hN] at he2
 clear_value e2 e1
 refine ⟨hp reg,fun q=>?_,fun q=>?_⟩
 ·rw [he0] at q
  have q:(e3.takeWhile (fun x=>decide (x<fr))).length=e3.length:=by have:=eq_of_beq q;omega
  rw [he2,List.getElem?_eq_none (by omega)]
  rfl
 ·rw [he0] at q ⊢
  have q:¬ (e3.takeWhile (fun x=>decide (x<fr))).length=e3.length:=by have:=beq_eq_false_iff_ne.1 q;omega
  refine ⟨by omega,?_⟩
  rw [he2,co8,cp8,co6 (by omega)]
  rfl)
theorem bf3:C8 prog RG 102 cBetter:=E5 B8 (fun _=>noL) (by kernel_rfl) (by kernel_rfl) (by kernel_rfl) fun (a,b,c,d,e,f,()) _=>(bN6 a b c d e f).mpr rfl
theorem ch2 (l:List Held) (hp:l≠[]):vc (EV [(102,cBetter)]) (cg5 l) Go.Proofs.Tryd.f101 cBest (l,()):=by
 rw [ch0 l]
 intro e0 e1 e2 e3 hs
 have hl:l.length≤140737488355328:=hs.len
 have hpos:0<l.length:=by cases l with|nil=>exact absurd rfl hp|cons=>simp
 have he2:e2=l.tail:=List.drop_one
 have hlt:l.tail.length=l.length-1:=by simp
 have he1:e1=l.headD held0:=by
  show l.getD 0 held0=_
  cases l<;>rfl
 have he0:e0=(e2.length:Int):=rfl
 clear_value e0 e1 e2
 subst he0 he1 he2
 dsimp only [e3]
 simp only [true_and,and_true,Bool.cond_self]
 have hd:(⟨0,0,0⟩:Held)=held0:=rfl
 rw [hd]
 refine ⟨by omega,by omega,⟨(0,(l.headD held0).slot,(l.headD held0).reg,(l.headD held0).next,()),rfl,rfl,rfl,rfl,Int.le_refl _,by dsimp only;omega,rfl⟩,?_⟩
 rintro ⟨i,a,b,c,⟨⟩⟩ ⟨h0,h1,h2⟩
 dsimp only at h0 h1 h2 ⊢
 obtain ⟨k,rfl⟩:=cp0 h0
 simp only [co8] at h2 ⊢
 refine ⟨fun hlt2=>?_,fun hge=>?_⟩
 ·have hlt2:(k:Int)<l.tail.length:=cp4 hlt2
  have hn:(l.tail.take (k+1)).foldl H9 (l.headD held0)=H9 ⟨a,b,c⟩ (l.tail.getD k held0):=by
   rw [A5 (by omega) held0,List.foldl_append,←h2];rfl
  generalize l.tail.getD k held0=y at hn ⊢
  refine ⟨⟨h0,hlt2⟩,((k+1:Nat),(H9 ⟨a,b,c⟩ y).slot,(H9 ⟨a,b,c⟩ y).reg,(H9 ⟨a,b,c⟩ y).next,()),B6 (m:=l.length) (by omega) hl,?_,?_,?_,⟨by omega,by dsimp only;omega,by dsimp only;rw [co8,hn]⟩,by dsimp only;omega⟩
  all_goals
   show (bif an8 ⟨y.slot,y.reg,y.next⟩ ⟨a,b,c⟩ then _ else _)=_
   dsimp only [H9]
   rw [show (⟨y.slot,y.reg,y.next⟩:Held)=y from rfl]
   cases an8 y ⟨a,b,c⟩<;>rfl
 ·have hk:k=l.tail.length:=by have:¬ (k:Int)<l.tail.length:=cp3 hge;omega
  subst hk
  rw [cr2] at h2
  rw [K1,←h2]
theorem bC1:C8 prog RG 101 cBest:=E5 (A8 bf3 B8) (fun p=>cg5 p.1) (by kernel_rfl) (by kernel_rfl) (by kernel_rfl) fun (l,()) hp=>ch2 l hp
def cRoom:Con RU:=⟨[one,one,one],i64::ints::tysA,[.ptr 0 0,.d 0,.d 1],objA 0 2,some fun p=>match p with
  |(pl,st,a0,a1,a2,a3,sp,rd,ho,ce,op,ks,oc,cd,ou,())=>ag9 rd∧Z0 sp rd ks a1.length ho pl st∧ks≤64∧0≤oc∧oc≤1000000000∧cd.length≤1000000000,
 none,[one],i64::tysA,[.d 0],objA 0 1,fun p=>match p with
  |(pl,st,a0,a1,a2,a3,sp,rd,ho,ce,op,ks,oc,cd,ou,())=>((F6 sp rd ks a1.length ⟨ho,ce,oc,cd⟩ pl st).1,a0,a1,a2,a3,sp,rd,(F6 sp rd ks a1.length ⟨ho,ce,oc,cd⟩ pl st).2.holds,(F6 sp rd ks a1.length ⟨ho,ce,oc,cd⟩ pl st).2.cells,op,ks,(F6 sp rd ks a1.length ⟨ho,ce,oc,cd⟩ pl st).2.ocells,(F6 sp rd ks a1.length ⟨ho,ce,oc,cd⟩ pl st).2.code,ou,()),[],[],[]⟩
def ch3 (sp:Spans) (rd:Reads) (ks N:Int) (ho:Holds) (pl:Int) (st:List Int):Nat→St RU→Ann RU:=fun _ _=>⟨[8],[.slot 22,.row 900001],[i64,ck5],fun p=>0≤p.1∧(p.1≤ks∨p.1=0)∧C5 sp rd N ho pl st (List.range p.1.toNat) []=(none,p.2.1),fun p=>ks.toNat-p.1.toNat,[(.slot 8,900001,131,.user 4)]⟩
def cGetA:Con RU:=⟨[one,one],i64::tysA,[.d 0,.ptr 0 0],.box 79 [.ptr 1 0]::objA 1 1,some fun p=>p.2.2.2.2.2.2.2.2.2.2.1≤64,none,[one],i64::tysA,[.d 0],.box 79 [.ptr 1 0]::objA 1 1,fun p=>((B9 p.2.2.2.2.2.2.2.1 p.2.2.2.2.2.2.2.2.2.2.1 p.1).n,p.2),[0],[],[]⟩
def cCalledA:Con RU:=⟨[(true,5),one,one],ax7++tysA++[mapI],[.d 0,.d 1,.d 2,.d 3,.d 4,.clo 86 [0],.clo 87 [8]],.box 79 [.ptr 1 0]::objA 1 5++[.box 84 [.map 9],.map 18],some fun p=>match p with
  |(x1,x2,x3,x4,x5,a0,a1,a2,a3,sp,rd,ho,ce,op,ks,oc,cd,ou,sl,())=>ag7 x3 x4 x5=true∧ks≤64,none,
 [(true,5)],ax7++tysA++[mapI],[.d 0,.d 1,.d 2,.d 3,.d 4],.box 79 [.ptr 1 0]::objA 1 5++[.box 84 [.map 9],.map 18],
 fun p=>match p with
  |(x1,x2,x3,x4,x5,a0,a1,a2,a3,sp,rd,ho,ce,op,ks,oc,cd,ou,sl,())=>(x1,x2,x3.map (fun n=>(B9 ho ks n).n),x4.map (getI sl),x5,a0,a1,a2,a3,sp,rd,ho,ce,op,ks,oc,cd,ou,sl,()),[0,8],[],[]⟩
def aV9 (x1 x2:Int) (x3 x4:List Int) (x5:List Ins) (ho:Holds) (ks:Int) (sl:List (Int×Int)):Nat→St RU→Ann RU:=fun k s=>match k with
 |0=>⟨[],[.slot 20,.row 896],[i64,inss],fun p=>0≤p.1∧p.1≤x4.length∧p.2.1=[⟨x1,x2,x3,(x4.take p.1.toNat).map (getI sl)++x4.drop p.1.toNat,x5⟩],fun p=>x4.length-p.1.toNat,[]⟩
 |_=>⟨[],[.slot 36,.row 896],[i64,inss],fun p=>0≤p.1∧p.1≤x3.length∧p.2.1=[⟨x1,x2,(x3.take p.1.toNat).map (fun n=>(B9 ho ks n).n)++x3.drop p.1.toNat,x4.map (getI sl),x5⟩],fun p=>x3.length-p.1.toNat,[]⟩
def cReads:Con RU:=⟨[(true,5)],ax7,[.d 0,.d 1,.d 2,.d 3,.d 4],[],none,none,[one],ax7,[.clo 83 [0]],[.box 52 [.d 0,.d 1,.d 2,.d 3,.d 4]],fun p=>p,[],[],[]⟩
def ar8:Con RU:=⟨[one,one],[i64,i64,ints],[.d 0,.yld 0],[.loop 1,.box 23 [.row 2],.row 2],some fun p=>p.2.1=0∧p.2.2.1.length≤17592186044400,none,[one],[.bool,i64,ints],[.d 0],[.loop 1,.box 23 [.row 2],.row 2],fun p=>(true,0,p.2.2.1++[p.1],()),[],[(0,0),(1,1)],[(1,1000001)]⟩
def aW0:Con RU:=⟨[one,one],[i64,ints,i64,i64,ints,ints,inss],[.yld 0,.ptr 3 0],[.loop 0,.box 23 [.row 2],.row 1,.box 52 [.d 2,.d 3,.d 4,.d 5,.d 6]],some fun p=>p.1=0∧p.2.1.length+p.2.2.2.2.2.1.length≤17592186044400,none,[],[i64,ints],[],[.loop 0,.box 23 [.row 2],.row 1,.box 52 [.un,.un,.un,.un,.un]],
 fun p=>(0,p.2.1++B1 p.2.2.2.2.2.1,()),[],[(0,0),(1,1)],[(1,384)]⟩
def itDo:FuncId→List (Con RU×Con RU×List (Nat×Nat)):=fun f=>bif Nat.beq f 83 then [(aW0,ar8,[(0,0),(1,1),(2,2)])] else []
def bn1 (fr:List Int) (r0:List Int):Nat→St RU→Ann RU:=fun _ _=>⟨[],[.slot 8,.row 1000000,.row 1000002],[i64,i64,ints],fun p=>0≤p.1∧p.1≤fr.length∧p.2.1=0∧p.2.2.1=r0++B1 (fr.take p.1.toNat),fun p=>fr.length-p.1.toNat,[]⟩
def cDo:Con RU:=⟨[one,one,(true,5)],i64::ax7++tysA,[.ptr 0 0,.d 0,.d 1,.d 2,.d 3,.d 4,.d 5],objA 0 6,some fun p=>match p with
  |(i,x1,x2,x3,x4,x5,a0,a1,a2,a3,sp,rd,ho,ce,op,ks,oc,cd,ou,())=>ag7 x3 x4 x5=true∧x4.length≤17592186044400∧(B1 x4).length≤64∧x3.length≤64∧ag9 rd∧doOk sp rd ks a1.length i ⟨x1,x2,x3,x4,x5⟩ ⟨ho,ce,oc,cd⟩∧ks≤64∧0≤i∧i≤1000000∧0≤oc∧oc≤100000000∧cd.length≤100000000,
 none,[],tysA,[],objA 0 0,fun p=>match p with
  |(i,x1,x2,x3,x4,x5,a0,a1,a2,a3,sp,rd,ho,ce,op,ks,oc,cd,ou,())=>(a0,a1,a2,a3,sp,rd,(doOf sp rd ks a1.length i ⟨x1,x2,x3,x4,x5⟩ ⟨ho,ce,oc,cd⟩).holds,(doOf sp rd ks a1.length i ⟨x1,x2,x3,x4,x5⟩ ⟨ho,ce,oc,cd⟩).cells,op,ks,(doOf sp rd ks a1.length i ⟨x1,x2,x3,x4,x5⟩ ⟨ho,ce,oc,cd⟩).ocells,(doOf sp rd ks a1.length i ⟨x1,x2,x3,x4,x5⟩ ⟨ho,ce,oc,cd⟩).code,ou,()),[],[],[]⟩
def lDo (sp:Spans) (rd:Reads) (ks N i:Int) (x3 x4:List Int) (s0:AS):Nat→St RU→Ann RU:=fun k s=>match k with
 |0=>⟨[],[],[],fun _=>False,fun _=>0,[(.box 384 0,900001,3,i64)]⟩
 |1=>⟨[],[.slot 27,.row 1000003,.row 1000004,.box 1000000 10,.row 1000005],[i64,mapP,mapI,i64,aT6],fun p=>0≤p.1∧p.1≤(B1 x4).length∧D3 sp rd ks N i (B1 x4) s0 ((B1 x4).take p.1.toNat)=⟨p.2.1,p.2.2.1,p.2.2.2.1,p.2.2.2.2.1⟩,fun p=>(B1 x4).length-p.1.toNat,[(.cell 384 0,0,3,i64),(.row 25,0,3,i64)]⟩
 |2=>⟨[],[.slot 61,.row 3712],[i64,mapI],fun p=>0≤p.1∧p.1≤(B1 x4).length∧p.2.1=J1 (D3 sp rd ks N i (B1 x4) s0 (B1 x4)).holds ks ((B1 x4).take p.1.toNat),fun p=>(B1 x4).length-p.1.toNat,[]⟩
 |_=>⟨[],[.slot 75,.row 1000003,.row 1000004,.box 1000000 10,.row 1000005],[i64,mapP,mapI,i64,aT6],fun p=>0≤p.1∧p.1≤x3.length∧G7 sp rd ks N i x3 (D3 sp rd ks N i (B1 x4) s0 (B1 x4)) (x3.take p.1.toNat)=⟨p.2.1,p.2.2.1,p.2.2.2.1,p.2.2.2.2.1⟩,fun p=>x3.length-p.1.toNat,[]⟩
theorem ch4 (pl:Int) (st:List Int) (a0:Int) (a1:List Ins) (a2 a3:List Int) (sp:Spans) (rd:Reads) (ho:Holds) (ce:List (Int×Int)) (op ks oc:Int) (cd:List RIns) (ou:List Place):vc (EV [(100,cNext),(61,cContains),(69,cAt),(101,cBest),(85,cPutA)]) (ch3 sp rd ks a1.length ho pl st) Go.Proofs.Tryd.f84 cRoom (pl,st,a0,a1,a2,a3,sp,rd,ho,ce,op,ks,oc,cd,ou,())=(
 let e0:Int×Int×List Ins×List Int×List Int×List (Int×Span)×List (Int×List Int)×List (Place×Int)×List (Int×Int)×Int×Int×Int×List RIns×List Place×Unit:=
  ((F6 sp rd ks (↑(List.length a1):Int) (AS.mk ho ce oc cd) pl st).1,a0,a1,a2,a3,sp,rd,(F6 sp rd ks (↑(List.length a1):Int) (AS.mk ho ce oc cd) pl st).2.holds,
  (F6 sp rd ks (↑(List.length a1):Int) (AS.mk ho ce oc cd) pl st).2.cells,op,ks,(F6 sp rd ks (↑(List.length a1):Int) (AS.mk ho ce oc cd) pl st).2.ocells,
  (F6 sp rd ks (↑(List.length a1):Int) (AS.mk ho ce oc cd) pl st).2.code,ou,());
 let e1:Int×List Ins×List Int×List Int×List (Int×Span)×List (Int×List Int)×List (Place×Int)×List (Int×Int)×Int×Int×Int×List RIns×List Place×Unit:=
  (a0,a1,a2,a3,sp,rd,ho,ce,op,ks,oc,cd,ou,());
  Small RU (Sigma.mk (Ty.slice (3:Nat) (Ty.int IntKind.i64)) st)→
  Small RU (Sigma.mk (Ty.slice (52:Nat) (Ty.user (0:Nat))) a1)→
  Small RU (Sigma.mk (Ty.slice (3:Nat) (Ty.int IntKind.i64)) a2)→
  Small RU (Sigma.mk (Ty.slice (3:Nat) (Ty.int IntKind.i64)) a3)→
  Small RU (Sigma.mk (Ty.slice (55:Nat) (Ty.user (1:Nat))) cd)→
  Small RU (Sigma.mk (Ty.slice (59:Nat) (Ty.user (2:Nat))) ou)→
  (∃ (p:Int×List Held×Unit),
  pl=pl∧
  st=st∧
  ks=ks∧
  (0:Int)=p.1∧
  a0=a0∧
  a1=a1∧
  a2=a2∧
  a3=a3∧
  op=op∧
  ks=ks∧
  oc=oc∧
  sp=sp∧
  rd=rd∧
  ho=ho∧
  ce=ce∧
  cd=cd∧
  ou=ou∧
  []=p.2.1∧
  (0:Int)≤p.1∧
  (p.1≤ks∨p.1=(0:Int))∧C5 sp rd (↑(List.length a1):Int) ho pl st (List.range (Int.toNat p.1)) []=(none,p.2.1))∧
  ∀ (p:Int×List Held×Unit),
 let e0_1:Bool:=!Option.isSome (mget (fun (x y:Int)=>x==y) ce (K1 p.2.1).reg);
 let e1_1:Bool:=
  !H1
  (Option.getD (mget (fun (x y:Int)=>x==y) sp (Option.getD (mget (E7 RU (Ty.user (2:Nat))) ho (Place.mk false p.1)) (0:Int))) (Span.mk (0:Int) (0:Int))).first
  (Option.getD (mget (fun (x y:Int)=>x==y) sp (Option.getD (mget (E7 RU (Ty.user (2:Nat))) ho (Place.mk false p.1)) (0:Int))) (Span.mk (0:Int) (0:Int))).last pl;
 let e2:List Held:=p.2.1;
 let e3:List Held:=
  [Held.mk p.1 (Option.getD (mget (E7 RU (Ty.user (2:Nat))) ho (Place.mk false p.1)) (0:Int))
  (aI9 rd (↑(List.length a1):Int) (Option.getD (mget (E7 RU (Ty.user (2:Nat))) ho (Place.mk false p.1)) (0:Int)) pl)];
 let e4:Int:=p.1;
 let e5:Bool:=List.contains st (Option.getD (mget (E7 RU (Ty.user (2:Nat))) ho (Place.mk false e4)) (0:Int));
 let e6:Bool:=decide (e4<ks);
 let e7:Bool:=!Option.isSome (mget (E7 RU (Ty.user (2:Nat))) ho (Place.mk false e4));
  (0:Int)≤e4∧(e4≤ks∨e4=(0:Int))∧C5 sp rd (↑(List.length a1):Int) ho pl st (List.range (Int.toNat e4)) []=(none,e2)→
  (e6=true→
  (e7=true→(e4,e1)=e0)∧
  (e7=false→
  (e5=true→
  ∃ (p':Int×List Held×Unit),
  pl=pl∧
  st=st∧
  ks=ks∧
  IntKind.i64.wrap (e4+(1:Int))=p'.1∧
  a0=a0∧
  a1=a1∧
  a2=a2∧
  a3=a3∧
  op=op∧
  ks=ks∧
  oc=oc∧
  sp=sp∧
  rd=rd∧
  ho=ho∧
  ce=ce∧
  cd=cd∧
  ou=ou∧
  e2=p'.2.1∧
  ((0:Int)≤p'.1∧
  (p'.1≤ks∨p'.1=(0:Int))∧
  C5 sp rd (↑(List.length a1):Int) ho pl st (List.range (Int.toNat p'.1)) []=(none,p'.2.1))∧
  Int.toNat ks-Int.toNat p'.1<Int.toNat ks-Int.toNat e4)∧
  (e5=false→
  (e1_1=true→(e4,e1)=e0)∧
  (e1_1=false→
  (∀ (n:Int),List.Pairwise (fun (x1 x2:Int)=>x1≤x2) (getL rd n))∧
  (List.length e2+List.length e3)*(24:Nat)≤(140737488355328:Nat)∧
  ∃ (p':Int×List Held×Unit),
  pl=pl∧
  st=st∧
  ks=ks∧
  IntKind.i64.wrap (e4+(1:Int))=p'.1∧
  a0=a0∧
  a1=a1∧
  a2=a2∧
  a3=a3∧
  op=op∧
  ks=ks∧
  oc=oc∧
  sp=sp∧
  rd=rd∧
  ho=ho∧
  ce=ce∧
  cd=cd∧
  ou=ou∧
  e2++e3=p'.2.1∧
  ((0:Int)≤p'.1∧
  (p'.1≤ks∨p'.1=(0:Int))∧
  C5 sp rd (↑(List.length a1):Int) ho pl st (List.range (Int.toNat p'.1)) []=(none,p'.2.1))∧
  Int.toNat ks-Int.toNat p'.1<Int.toNat ks-Int.toNat e4))))∧
  (e6=false→
  e2≠[]∧
  (e0_1=true→List.length cd≤(1000000000:Nat))∧
  (bif e0_1 then (K1 e2).slot else (K1 e2).slot,bif e0_1 then a0 else a0,bif e0_1 then a1 else a1,bif e0_1 then a2 else a2,bif e0_1 then a3 else a3,
  bif e0_1 then sp else sp,bif e0_1 then rd else rd,bif e0_1 then ho else ho,bif e0_1 then mput (fun (x y:Int)=>x==y) ce (K1 e2).reg oc else ce,
  bif e0_1 then op else op,bif e0_1 then ks else ks,bif e0_1 then IntKind.i64.wrap (oc+(1:Int)) else oc,
  bif e0_1 then cd++[RIns.mk (2:Int) (K1 e2).slot oc (Ins.mk (0:Int) (0:Int) [] [] [])] else cd,bif e0_1 then ou else ou,())=
  e0)):=by kernel_rfl
theorem ch5 (n a0:Int) (a1:List Ins) (a2 a3:List Int) (sp:Spans) (rd:Reads) (ho:Holds) (ce:List (Int×Int)) (op ks oc:Int) (cd:List RIns) (ou:List Place):vc (EV [(54,cSlot)]) noL Go.Proofs.Tryd.f86 cGetA (n,a0,a1,a2,a3,sp,rd,ho,ce,op,ks,oc,cd,ou,())=(
 let e0:Int×Int×List Ins×List Int×List Int×List (Int×Span)×List (Int×List Int)×List (Place×Int)×List (Int×Int)×Int×Int×Int×List RIns×List Place×Unit:=
  ((B9 ho ks n).n,a0,a1,a2,a3,sp,rd,ho,ce,op,ks,oc,cd,ou,());
  Small RU (Sigma.mk (Ty.slice (52:Nat) (Ty.user (0:Nat))) a1)→
  Small RU (Sigma.mk (Ty.slice (3:Nat) (Ty.int IntKind.i64)) a2)→
  Small RU (Sigma.mk (Ty.slice (3:Nat) (Ty.int IntKind.i64)) a3)→
  Small RU (Sigma.mk (Ty.slice (55:Nat) (Ty.user (1:Nat))) cd)→Small RU (Sigma.mk (Ty.slice (59:Nat) (Ty.user (2:Nat))) ou)→ks≤(64:Int)∧e0=e0):=by kernel_rfl
theorem ch6 (n:Int) (m:List (Int×Int)):vc (EV []) noL Go.Proofs.Tryd.f87 cOld (n,m,())=((Option.getD (mget (fun (x y:Int)=>x==y) m n) (0:Int),m,())=(getI m n,m,())):=by kernel_rfl
theorem bC2 (x1 x2:Int) (x3 x4:List Int) (x5:List Ins) (a0:Int) (a1:List Ins) (a2 a3:List Int) (sp:Spans) (rd:Reads) (ho:Holds) (ce:List (Int×Int)) (op ks oc:Int) (cd:List RIns) (ou:List Place) (sl:List (Int×Int)):vc (EV [(96,cBody),(86,cGetA),(87,cOld)]) (aV9 x1 x2 x3 x4 x5 ho ks sl) Go.Proofs.Tryd.f73 cCalledA (x1,x2,x3,x4,x5,a0,a1,a2,a3,sp,rd,ho,ce,op,ks,oc,cd,ou,sl,())=(
 let e0:
  List Ins×
  Int×List Ins×List Int×List Int×List (Int×Span)×List (Int×List Int)×List (Place×Int)×List (Int×Int)×Int×Int×Int×List RIns×List Place×List (Int×Int)×Unit:=
  (x5,a0,a1,a2,a3,sp,rd,ho,ce,op,ks,oc,cd,ou,sl,());
 let e1:Ins:=Ins.mk (0:Int) (0:Int) [] [] [];
 let e2:List Ins:=[Ins.mk x1 x2 x3 x4 x5];
 let e3:Int:=(↑(List.length x4):Int);
  Small RU (Sigma.mk (Ty.slice (3:Nat) (Ty.int IntKind.i64)) x3)→
  Small RU (Sigma.mk (Ty.slice (3:Nat) (Ty.int IntKind.i64)) x4)→
  Small RU (Sigma.mk (Ty.slice (52:Nat) (Ty.user (0:Nat))) x5)→
  Small RU (Sigma.mk (Ty.slice (52:Nat) (Ty.user (0:Nat))) a1)→
  Small RU (Sigma.mk (Ty.slice (3:Nat) (Ty.int IntKind.i64)) a2)→
  Small RU (Sigma.mk (Ty.slice (3:Nat) (Ty.int IntKind.i64)) a3)→
  Small RU (Sigma.mk (Ty.slice (55:Nat) (Ty.user (1:Nat))) cd)→
  Small RU (Sigma.mk (Ty.slice (59:Nat) (Ty.user (2:Nat))) ou)→
  (List.length e2≤(1599289640354:Nat)∧I7 e2=true)∧
  ((0:Int)≤(0:Int)∧(0:Int)<(↑(List.length e2):Int))∧
  (∃ (p:Int×List Ins×Unit),
  x1=x1∧
  x2=x2∧
  x3=x3∧
  x4=x4∧
  x5=x5∧
  (0:Int)=(0:Int)∧
  e3=e3∧
  (0:Int)=p.1∧
  a0=a0∧
  a1=a1∧
  a2=a2∧
  a3=a3∧
  op=op∧
  ks=ks∧
  oc=oc∧
  sp=sp∧
  rd=rd∧
  ho=ho∧
  ce=ce∧
  cd=cd∧
  ou=ou∧
  sl=sl∧
  x1=x1∧
  x2=x2∧
  x3=x3∧
  x4=x4∧
  x5=x5∧
  (0:Int)=(0:Int)∧
  (0:Int)=(0:Int)∧
  e2=e2∧
  e2=p.2.1∧
  x1=x1∧
  x2=x2∧
  (0:Int)=(0:Int)∧
  (0:Int)=(0:Int)∧
  x5=x5∧
  (0:Int)≤p.1∧
  p.1≤e3∧
  p.2.1=
  [Ins.mk x1 x2 x3
  (List.map (getI sl) (List.take (Int.toNat p.1) x4)++List.drop (Int.toNat p.1) x4) x5])∧
  ∀ (p:Int×List Ins×Unit),
 let e0_1:Ins:=List.getD p.2.1 (0:Nat) e1;
 let e1_1:Bool:=decide (p.1<e3);
 let e2_1:Int:=p.1;
 let e3_1:List Ins:=p.2.1;
 let e4:Int:=(↑(List.length e0_1.to):Int);
  (0:Int)≤e2_1∧e2_1≤e3∧e3_1=[Ins.mk x1 x2 x3 (List.map (getI sl) (List.take (Int.toNat e2_1) x4)++List.drop (Int.toNat e2_1) x4) x5]→
  (e1_1=true→
  ((0:Int)≤e2_1∧e2_1<(↑(List.length e0_1.from_):Int))∧
  (True∧sl=sl∧True)∧
  ((0:Int)≤e2_1∧e2_1<(↑(List.length e0_1.from_):Int))∧
  ∃ (p':Int×List Ins×Unit),
  x1=x1∧
  x2=x2∧
  x3=x3∧
  x4=x4∧
  x5=x5∧
  (0:Int)=(0:Int)∧
  e3=e3∧
  IntKind.i64.wrap (e2_1+(1:Int))=p'.1∧
  a0=a0∧
  a1=a1∧
  a2=a2∧
  a3=a3∧
  op=op∧
  ks=ks∧
  oc=oc∧
  sp=sp∧
  rd=rd∧
  ho=ho∧
  ce=ce∧
  cd=cd∧
  ou=ou∧
  sl=sl∧
  x1=x1∧
  x2=x2∧
  x3=x3∧
  x4=x4∧
  x5=x5∧
  (0:Int)=(0:Int)∧
  (0:Int)=(0:Int)∧
  e2=e2∧
  List.set e3_1 (0:Nat)
  (Ins.mk e0_1.op e0_1.n e0_1.to
  (List.set e0_1.from_ (Int.toNat e2_1)
  (getI sl (List.getD e0_1.from_ (Int.toNat e2_1) (0:Int))))
  e0_1.body)=
  p'.2.1∧
  x1=x1∧
  x2=x2∧
  (0:Int)=(0:Int)∧
  (0:Int)=(0:Int)∧
  x5=x5∧
  ((0:Int)≤p'.1∧
  p'.1≤e3∧
  p'.2.1=
  [Ins.mk x1 x2 x3
  (List.map (getI sl) (List.take (Int.toNat p'.1) x4)++
  List.drop (Int.toNat p'.1) x4)
  x5])∧
  List.length x4-Int.toNat p'.1<List.length x4-Int.toNat e2_1)∧
  (e1_1=false→
  (∃ (p:Int×List Ins×Unit),
  x1=x1∧
  x2=x2∧
  x3=x3∧
  x4=x4∧
  x5=x5∧
  (0:Int)=(0:Int)∧
  e3=e3∧
  e2_1=e2_1∧
  e1_1=e1_1∧
  (0:Int)=(0:Int)∧
  e4=e4∧
  (0:Int)=p.1∧
  a0=a0∧
  a1=a1∧
  a2=a2∧
  a3=a3∧
  op=op∧
  ks=ks∧
  oc=oc∧
  sp=sp∧
  rd=rd∧
  ho=ho∧
  ce=ce∧
  cd=cd∧
  ou=ou∧
  sl=sl∧
  x1=x1∧
  x2=x2∧
  x3=x3∧
  x4=x4∧
  x5=x5∧
  (0:Int)=(0:Int)∧
  (0:Int)=(0:Int)∧
  e2=e2∧
  e3_1=p.2.1∧
  x1=x1∧
  x2=x2∧
  (0:Int)=(0:Int)∧
  (0:Int)=(0:Int)∧
  x5=x5∧
  (0:Int)≤p.1∧
  p.1≤(↑(List.length x3):Int)∧
  p.2.1=
  [Ins.mk x1 x2
  (List.map (fun (n:Int)=>(B9 ho ks n).n)
  (List.take (Int.toNat p.1) x3)++
  List.drop (Int.toNat p.1) x3)
  (List.map (getI sl) x4) x5])∧
  ∀ (p:Int×List Ins×Unit),
 let e0_2:Ins:=List.getD p.2.1 (0:Nat) e1;
 let e1:Int:=p.1;
 let e2_2:Bool:=decide (e1<e4);
 let e3_2:List Ins:=p.2.1;
  (0:Int)≤e1∧
  e1≤(↑(List.length x3):Int)∧
  e3_2=[Ins.mk x1 x2 (List.map (fun (n:Int)=>(B9 ho ks n).n) (List.take (Int.toNat e1) x3)++List.drop (Int.toNat e1) x3) (List.map (getI sl) x4) x5]→
  (e2_2=true→
  ((0:Int)≤e1∧e1<(↑(List.length e0_2.to):Int))∧
  (ks≤(64:Int)∧True)∧
  ((0:Int)≤e1∧e1<(↑(List.length e0_2.to):Int))∧
  ∃ (p':Int×List Ins×Unit),
  x1=x1∧
  x2=x2∧
  x3=x3∧
  x4=x4∧
  x5=x5∧
  (0:Int)=(0:Int)∧
  e3=e3∧
  e2_1=e2_1∧
  e1_1=e1_1∧
  (0:Int)=(0:Int)∧
  e4=e4∧
  IntKind.i64.wrap (e1+(1:Int))=p'.1∧
  a0=a0∧
  a1=a1∧
  a2=a2∧
  a3=a3∧
  op=op∧
  ks=ks∧
  oc=oc∧
  sp=sp∧
  rd=rd∧
  ho=ho∧
  ce=ce∧
  cd=cd∧
  ou=ou∧
  sl=sl∧
  x1=x1∧
  x2=x2∧
  x3=x3∧
  x4=x4∧
  x5=x5∧
  (0:Int)=(0:Int)∧
  (0:Int)=(0:Int)∧
  e2=e2∧
  List.set e3_2 (0:Nat)
  (Ins.mk e0_2.op e0_2.n
  (List.set e0_2.to (Int.toNat e1)
  (B9 ho ks (List.getD e0_2.to (Int.toNat e1) (0:Int))).n)
  e0_2.from_ e0_2.body)=
  p'.2.1∧
  x1=x1∧
  x2=x2∧
  (0:Int)=(0:Int)∧
  (0:Int)=(0:Int)∧
  x5=x5∧
  ((0:Int)≤p'.1∧
  p'.1≤(↑(List.length x3):Int)∧
  p'.2.1=
  [Ins.mk x1 x2
  (List.map (fun (n:Int)=>(B9 ho ks n).n)
  (List.take (Int.toNat p'.1) x3)++
  List.drop (Int.toNat p'.1) x3)
  (List.map (getI sl) x4) x5])∧
  List.length x3-Int.toNat p'.1<List.length x3-Int.toNat e1)∧
  (e2_2=false→(x1,x2,e0_2.to,e0_2.from_,e0)=(x1,x2,List.map (fun (n:Int)=>(B9 ho ks n).n) x3,List.map (getI sl) x4,e0)))):=by kernel_rfl
theorem bW6 (x1 x2:Int) (x3 x4:List Int) (x5:List Ins):vc (EV []) noL Go.Proofs.Tryd.f52 cReads (x1,x2,x3,x4,x5,())=(
 let e0:Int×Int×List Int×List Int×List Ins×Unit:=(x1,x2,x3,x4,x5,());
  Small RU (Sigma.mk (Ty.slice (3:Nat) (Ty.int IntKind.i64)) x3)→
  Small RU (Sigma.mk (Ty.slice (3:Nat) (Ty.int IntKind.i64)) x4)→Small RU (Sigma.mk (Ty.slice (52:Nat) (Ty.user (0:Nat))) x5)→e0=e0):=by kernel_rfl
theorem bN8 (st:Int) (r0:List Int) (x1 x2:Int) (x3 x4:List Int) (x5:List Ins):vc (EVy [(0,0),(1,1)] (some ar8) [(61,cContains)]) (bn1 x4 r0) Go.Proofs.Tryd.f83 aW0 (st,r0,x1,x2,x3,x4,x5,())=(
 let e0:Int×List Int×Unit:=((0:Int),r0++B1 x4,());
 let e1:Int:=(↑(List.length x4):Int);
  Small RU (Sigma.mk (Ty.slice (3:Nat) (Ty.int IntKind.i64)) r0)→
  Small RU (Sigma.mk (Ty.slice (3:Nat) (Ty.int IntKind.i64)) x3)→
  Small RU (Sigma.mk (Ty.slice (3:Nat) (Ty.int IntKind.i64)) x4)→
  Small RU (Sigma.mk (Ty.slice (52:Nat) (Ty.user (0:Nat))) x5)→
  (∃ (p:Int×Int×List Int×Unit),
  x4=x4∧
  e1=e1∧
  (0:Int)=p.1∧
  st=p.2.1∧
  r0=p.2.2.1∧
  x1=x1∧x2=x2∧x3=x3∧x4=x4∧x5=x5∧(0:Int)≤p.1∧p.1≤e1∧p.2.1=(0:Int)∧p.2.2.1=r0++B1 (List.take (Int.toNat p.1) x4))∧
  ∀ (p:Int×Int×List Int×Unit),
 let e0_1:List Int:=p.2.2.1;
 let e1_1:List Int:=e0_1++[List.getD x4 (Int.toNat p.1) (0:Int)];
 let e2:Bool:=List.contains (List.take (Int.toNat p.1) x4) (List.getD x4 (Int.toNat p.1) (0:Int));
 let e3:Int:=p.1;
 let e4:Int:=p.2.1;
 let e5:Bool:=decide (e3<e1);
  (0:Int)≤e3∧e3≤e1∧e4=(0:Int)∧e0_1=r0++B1 (List.take (Int.toNat e3) x4)→
  (e5=true→
  ((0:Int)≤e3∧e3<e1)∧
  ((0:Int)≤e3∧e3≤e1)∧
  (e2=true→
  ∃ (p':Int×Int×List Int×Unit),
  x4=x4∧
  e1=e1∧
  IntKind.i64.wrap (e3+(1:Int))=p'.1∧
  e4=p'.2.1∧
  e0_1=p'.2.2.1∧
  x1=x1∧
  x2=x2∧
  x3=x3∧
  x4=x4∧
  x5=x5∧
  ((0:Int)≤p'.1∧p'.1≤e1∧p'.2.1=(0:Int)∧p'.2.2.1=r0++B1 (List.take (Int.toNat p'.1) x4))∧
  List.length x4-Int.toNat p'.1<List.length x4-Int.toNat e3)∧
  (e2=false→
  (e4=(0:Int)∧List.length e0_1≤(17592186044400:Nat))∧
  ((!true)=true→((0:Int),e1_1,())=e0)∧
  ((!true)=false→
  ∃ (p':Int×Int×List Int×Unit),
  x4=x4∧
  e1=e1∧
  IntKind.i64.wrap (e3+(1:Int))=p'.1∧
  (0:Int)=p'.2.1∧
  e1_1=p'.2.2.1∧
  x1=x1∧
  x2=x2∧
  x3=x3∧
  x4=x4∧
  x5=x5∧
  ((0:Int)≤p'.1∧p'.1≤e1∧p'.2.1=(0:Int)∧p'.2.2.1=r0++B1 (List.take (Int.toNat p'.1) x4))∧
  List.length x4-Int.toNat p'.1<List.length x4-Int.toNat e3)))∧
  (e5=false→(e4,e0_1,())=e0)):=by kernel_rfl
theorem co0 (i x1 x2:Int) (x3 x4:List Int) (x5:List Ins) (a0:Int) (a1:List Ins) (a2 a3:List Int) (sp:Spans) (rd:Reads) (ho:Holds) (ce:List (Int×Int)) (op ks oc:Int) (cd:List RIns) (ou:List Place):vc (EVd [] itDo [(52,cReads),(54,cSlot),(84,cRoom),(85,cPutA),(73,cCalledA)]) (lDo sp rd ks a1.length i x3 x4 ⟨ho,ce,oc,cd⟩) Go.Proofs.Tryd.f53 cDo (i,x1,x2,x3,x4,x5,a0,a1,a2,a3,sp,rd,ho,ce,op,ks,oc,cd,ou,())=(
 let e0:Int:=(↑(List.length ([]++B1 x4)):Int);
 let e1:List Int:=[]++B1 x4;
 let e2:AS:=doOf sp rd ks (↑(List.length a1):Int) i (Ins.mk x1 x2 x3 x4 x5) (AS.mk ho ce oc cd);
 let e3:Int:=(↑(List.length a1):Int);
 let e4:Int:=IntKind.i64.wrap (i+(1:Int));
 let e5:Int:=(↑(List.length x3):Int);
 let e6:AS:=D3 sp rd ks e3 i (B1 x4) (AS.mk ho ce oc cd) (B1 x4);
  Small RU (Sigma.mk (Ty.slice (3:Nat) (Ty.int IntKind.i64)) x3)→
  Small RU (Sigma.mk (Ty.slice (3:Nat) (Ty.int IntKind.i64)) x4)→
  Small RU (Sigma.mk (Ty.slice (52:Nat) (Ty.user (0:Nat))) x5)→
  Small RU (Sigma.mk (Ty.slice (52:Nat) (Ty.user (0:Nat))) a1)→
  Small RU (Sigma.mk (Ty.slice (3:Nat) (Ty.int IntKind.i64)) a2)→
  Small RU (Sigma.mk (Ty.slice (3:Nat) (Ty.int IntKind.i64)) a3)→
  Small RU (Sigma.mk (Ty.slice (55:Nat) (Ty.user (1:Nat))) cd)→
  Small RU (Sigma.mk (Ty.slice (59:Nat) (Ty.user (2:Nat))) ou)→
  (∀ (xs:Int×Int×List Int×Unit),
 let e0:List Int:=xs.2.2.1;
  xs.2.1=(0:Int)∧List.length e0≤(17592186044400:Nat)→
  Small RU (Sigma.mk (Ty.slice (3:Nat) (Ty.int IntKind.i64)) e0)→
  xs.2.1=(0:Int)∧(List.length e0+List.length [xs.1])*(8:Nat)≤(140737488355328:Nat)∧(true,(0:Int),e0++[xs.1],())=ar8.fn xs)∧
  ((0:Int)=(0:Int)∧List.length ([]:List Int)+List.length x4≤(17592186044400:Nat))∧
  (0:Int)=(0:Int)∧
  (∃ (p:Int×List (Place×Int)×List (Int×Int)×Int×List RIns×Unit),
  i=i∧
  x1=x1∧
  x2=x2∧
  x3=x3∧
  x4=x4∧
  x5=x5∧
  e1=e1∧
  e0=e0∧
  (0:Int)=p.1∧
  a0=a0∧
  a1=a1∧
  a2=a2∧
  a3=a3∧
  op=op∧
  ks=ks∧
  oc=p.2.2.2.1∧
  sp=sp∧
  rd=rd∧
  ho=p.2.1∧
  ce=p.2.2.1∧
  cd=p.2.2.2.2.1∧
  ou=ou∧
  x1=x1∧
  x2=x2∧
  x3=x3∧
  x4=x4∧
  x5=x5∧
  e1=e1∧
  e1=e1∧
  (0:Int)≤p.1∧
  p.1≤(↑(List.length (B1 x4)):Int)∧
  D3 sp rd ks e3 i (B1 x4) (AS.mk ho ce oc cd) (List.take (Int.toNat p.1) (B1 x4))=
  AS.mk p.2.1 p.2.2.1 p.2.2.2.1 p.2.2.2.2.1)∧
  ∀ (p:Int×List (Place×Int)×List (Int×Int)×Int×List RIns×Unit),
 let e0_1:AS:=(F6 sp rd ks e3 (AS.mk p.2.1 p.2.2.1 p.2.2.2.1 p.2.2.2.2.1) i e1).2;
 let e1_1:Int:=p.2.2.2.1;
 let e2_1:List RIns:=p.2.2.2.2.1;
 let e3_1:List (Place×Int):=p.2.1;
 let e4_1:List (Int×Int):=p.2.2.1;
 let e5_1:Bool:=decide (p.1<e0);
 let e6_1:Int:=p.1;
 let e7:Bool:=
  !((B9 e3_1 ks (List.getD e1 (Int.toNat e6_1) (0:Int))).cell==true&&((B9 e3_1 ks (List.getD e1 (Int.toNat e6_1) (0:Int))).n==(-1:Int)&&true));
 let e8:Int:=(F6 sp rd ks e3 (AS.mk e3_1 e4_1 e1_1 e2_1) i e1).1;
 let e9:Int:=(↑(List.length (B1 x4)):Int);
  (0:Int)≤e6_1∧e6_1≤e9∧D3 sp rd ks e3 i (B1 x4) (AS.mk ho ce oc cd) (List.take (Int.toNat e6_1) (B1 x4))=AS.mk e3_1 e4_1 e1_1 e2_1→
  (e5_1=true→
  ((0:Int)≤e6_1∧e6_1<e0)∧
  ks≤(64:Int)∧
  (e7=true→
  ∃ (p':Int×List (Place×Int)×List (Int×Int)×Int×List RIns×Unit),
  i=i∧
  x1=x1∧
  x2=x2∧
  x3=x3∧
  x4=x4∧
  x5=x5∧
  e1=e1∧
  e0=e0∧
  IntKind.i64.wrap (e6_1+(1:Int))=p'.1∧
  a0=a0∧
  a1=a1∧
  a2=a2∧
  a3=a3∧
  op=op∧
  ks=ks∧
  e1_1=p'.2.2.2.1∧
  sp=sp∧
  rd=rd∧
  e3_1=p'.2.1∧
  e4_1=p'.2.2.1∧
  e2_1=p'.2.2.2.2.1∧
  ou=ou∧
  x1=x1∧
  x2=x2∧
  x3=x3∧
  x4=x4∧
  x5=x5∧
  e1=e1∧
  e1=e1∧
  ((0:Int)≤p'.1∧
  p'.1≤e9∧
  D3 sp rd ks e3 i (B1 x4) (AS.mk ho ce oc cd)
  (List.take (Int.toNat p'.1) (B1 x4))=
  AS.mk p'.2.1 p'.2.2.1 p'.2.2.2.1 p'.2.2.2.2.1)∧
  List.length (B1 x4)-Int.toNat p'.1<List.length (B1 x4)-Int.toNat e6_1)∧
  (e7=false→
  ((∀ (n:Int),List.Pairwise (fun (x1 x2:Int)=>x1≤x2) (getL rd n))∧
  ((K9 sp rd ks e3 e3_1 i e1).1=none→(K9 sp rd ks e3 e3_1 i e1).2≠[])∧
  ks≤(64:Int)∧(0:Int)≤e1_1∧e1_1≤(1000000000:Int)∧List.length e2_1≤(1000000000:Nat))∧
  List.length e0_1.code≤(1000000000:Nat)∧
  ∃ (p':Int×List (Place×Int)×List (Int×Int)×Int×List RIns×Unit),
  i=i∧
  x1=x1∧
  x2=x2∧
  x3=x3∧
  x4=x4∧
  x5=x5∧
  e1=e1∧
  e0=e0∧
  IntKind.i64.wrap (e6_1+(1:Int))=p'.1∧
  a0=a0∧
  a1=a1∧
  a2=a2∧
  a3=a3∧
  op=op∧
  ks=ks∧
  e0_1.ocells=p'.2.2.2.1∧
  sp=sp∧
  rd=rd∧
  mput (E7 RU (Ty.user (2:Nat))) e0_1.holds (Place.mk false e8) (List.getD e1 (Int.toNat e6_1) (0:Int))=
  p'.2.1∧
  e0_1.cells=p'.2.2.1∧
  e0_1.code++
  [RIns.mk (1:Int) e8
  (Option.getD (mget (fun (x y:Int)=>x==y) e0_1.cells (List.getD e1 (Int.toNat e6_1) (0:Int)))
  (0:Int))
  (Ins.mk (0:Int) (0:Int) [] [] [])]=
  p'.2.2.2.2.1∧
  ou=ou∧
  x1=x1∧
  x2=x2∧
  x3=x3∧
  x4=x4∧
  x5=x5∧
  e1=e1∧
  e1=e1∧
  ((0:Int)≤p'.1∧
  p'.1≤e9∧
  D3 sp rd ks e3 i (B1 x4) (AS.mk ho ce oc cd)
  (List.take (Int.toNat p'.1) (B1 x4))=
  AS.mk p'.2.1 p'.2.2.1 p'.2.2.2.1 p'.2.2.2.2.1)∧
  List.length (B1 x4)-Int.toNat p'.1<List.length (B1 x4)-Int.toNat e6_1))∧
  (e5_1=false→
  (∃ (p:Int×List (Int×Int)×Unit),
  i=i∧
  x1=x1∧
  x2=x2∧
  x3=x3∧
  x4=x4∧
  x5=x5∧
  e1=e1∧
  e0=e0∧
  e6_1=e6_1∧
  e5_1=e5_1∧
  e1=e1∧
  e0=e0∧
  (0:Int)=p.1∧
  a0=a0∧
  a1=a1∧
  a2=a2∧
  a3=a3∧
  op=op∧
  ks=ks∧
  e1_1=e1_1∧
  sp=sp∧
  rd=rd∧
  e3_1=e3_1∧
  e4_1=e4_1∧
  e2_1=e2_1∧
  ou=ou∧
  x1=x1∧
  x2=x2∧
  x3=x3∧
  x4=x4∧
  x5=x5∧
  e1=e1∧
  e1=e1∧
  []=p.2.1∧
  (0:Int)≤p.1∧
  p.1≤e9∧p.2.1=J1 e6.holds ks (List.take (Int.toNat p.1) (B1 x4)))∧
  ∀ (p:Int×List (Int×Int)×Unit),
 let e0_2:Bool:=decide (p.1<e0);
 let e1_2:List (Int×Int):=p.2.1;
 let e2_2:Int:=p.1;
  (0:Int)≤e2_2∧e2_2≤e9∧e1_2=J1 e6.holds ks (List.take (Int.toNat e2_2) (B1 x4))→
  (e0_2=true→
  ((0:Int)≤e2_2∧e2_2<e0)∧
  ks≤(64:Int)∧
  ∃ (p':Int×List (Int×Int)×Unit),
  i=i∧
  x1=x1∧
  x2=x2∧
  x3=x3∧
  x4=x4∧
  x5=x5∧
  e1=e1∧
  e0=e0∧
  e6_1=e6_1∧
  e5_1=e5_1∧
  e1=e1∧
  e0=e0∧
  IntKind.i64.wrap (e2_2+(1:Int))=p'.1∧
  a0=a0∧
  a1=a1∧
  a2=a2∧
  a3=a3∧
  op=op∧
  ks=ks∧
  e1_1=e1_1∧
  sp=sp∧
  rd=rd∧
  e3_1=e3_1∧
  e4_1=e4_1∧
  e2_1=e2_1∧
  ou=ou∧
  x1=x1∧
  x2=x2∧
  x3=x3∧
  x4=x4∧
  x5=x5∧
  e1=e1∧
  e1=e1∧
  mput (fun (x y:Int)=>x==y) e1_2 (List.getD e1 (Int.toNat e2_2) (0:Int))
  (B9 e3_1 ks (List.getD e1 (Int.toNat e2_2) (0:Int))).n=
  p'.2.1∧
  ((0:Int)≤p'.1∧
  p'.1≤e9∧
  p'.2.1=J1 e6.holds ks (List.take (Int.toNat p'.1) (B1 x4)))∧
  List.length (B1 x4)-Int.toNat p'.1<
  List.length (B1 x4)-Int.toNat e2_2)∧
  (e0_2=false→
  (∃ (p:Int×List (Place×Int)×List (Int×Int)×Int×List RIns×Unit),
  i=i∧
  x1=x1∧
  x2=x2∧
  x3=x3∧
  x4=x4∧
  x5=x5∧
  e1=e1∧
  e0=e0∧
  e6_1=e6_1∧
  e5_1=e5_1∧
  e1=e1∧
  e0=e0∧
  e2_2=e2_2∧
  e0_2=e0_2∧
  x3=x3∧
  e5=e5∧
  (0:Int)=p.1∧
  a0=a0∧
  a1=a1∧
  a2=a2∧
  a3=a3∧
  op=op∧
  ks=ks∧
  e1_1=p.2.2.2.1∧
  sp=sp∧
  rd=rd∧
  e3_1=p.2.1∧
  e4_1=p.2.2.1∧
  e2_1=p.2.2.2.2.1∧
  ou=ou∧
  x1=x1∧
  x2=x2∧
  x3=x3∧
  x4=x4∧
  x5=x5∧
  e1=e1∧
  e1=e1∧
  e1_2=e1_2∧
  (0:Int)≤p.1∧
  p.1≤e5∧
  G7 sp rd ks e3 i x3 e6 (List.take (Int.toNat p.1) x3)=
  AS.mk p.2.1 p.2.2.1 p.2.2.2.1 p.2.2.2.2.1)∧
  ∀ (p:Int×List (Place×Int)×List (Int×Int)×Int×List RIns×Unit),
 let e0_3:AS:=(F6 sp rd ks e3 (AS.mk p.2.1 p.2.2.1 p.2.2.2.1 p.2.2.2.2.1) e4 x3).2;
 let e1_3:AS:=AS.mk p.2.1 p.2.2.1 p.2.2.2.1 p.2.2.2.2.1;
 let e2_3:Int:=p.2.2.2.1;
 let e3_2:List RIns:=p.2.2.2.2.1;
 let e4_2:List (Place×Int):=p.2.1;
 let e5_2:Int:=p.1;
 let e6_2:Bool:=decide (e5_2<e5);
  (0:Int)≤e5_2∧e5_2≤e5∧G7 sp rd ks e3 i x3 e6 (List.take (Int.toNat e5_2) x3)=e1_3→
  (e6_2=true→
  ((0:Int)≤e5_2∧e5_2<e5)∧
  ((∀ (n:Int),List.Pairwise (fun (x1 x2:Int)=>x1≤x2) (getL rd n))∧
  ((K9 sp rd ks e3 e4_2 e4 x3).1=none→(K9 sp rd ks e3 e4_2 e4 x3).2≠[])∧
  ks≤(64:Int)∧(0:Int)≤e2_3∧e2_3≤(1000000000:Int)∧List.length e3_2≤(1000000000:Nat))∧
  ∃ (p':Int×List (Place×Int)×List (Int×Int)×Int×List RIns×Unit),
  i=i∧
  x1=x1∧
  x2=x2∧
  x3=x3∧
  x4=x4∧
  x5=x5∧
  e1=e1∧
  e0=e0∧
  e6_1=e6_1∧
  e5_1=e5_1∧
  e1=e1∧
  e0=e0∧
  e2_2=e2_2∧
  e0_2=e0_2∧
  x3=x3∧
  e5=e5∧
  IntKind.i64.wrap (e5_2+(1:Int))=p'.1∧
  a0=a0∧
  a1=a1∧
  a2=a2∧
  a3=a3∧
  op=op∧
  ks=ks∧
  e0_3.ocells=p'.2.2.2.1∧
  sp=sp∧
  rd=rd∧
  mput (E7 RU (Ty.user (2:Nat))) e0_3.holds
  (Place.mk false (F6 sp rd ks e3 e1_3 e4 x3).1)
  (List.getD x3 (Int.toNat e5_2) (0:Int))=
  p'.2.1∧
  e0_3.cells=p'.2.2.1∧
  e0_3.code=p'.2.2.2.2.1∧
  ou=ou∧
  x1=x1∧
  x2=x2∧
  x3=x3∧
  x4=x4∧
  x5=x5∧
  e1=e1∧
  e1=e1∧
  e1_2=e1_2∧
  ((0:Int)≤p'.1∧
  p'.1≤e5∧
  G7 sp rd ks e3 i x3 e6
  (List.take (Int.toNat p'.1) x3)=
  AS.mk p'.2.1 p'.2.2.1 p'.2.2.2.1
  p'.2.2.2.2.1)∧
  List.length x3-Int.toNat p'.1<
  List.length x3-Int.toNat e5_2)∧
  (e6_2=false→
  (((ag7 x3 x4 x5=true∧ks≤(64:Int))∧True)∧True)∧
  List.length e3_2≤(1000000000:Nat)∧
  (a0,a1,a2,a3,sp,rd,e4_2,p.2.2.1,op,ks,e2_3,
  e3_2++
  [RIns.mk (0:Int) (0:Int) (0:Int) (Ins.mk x1 x2 (List.map (fun (n:Int)=>(B9 e4_2 ks n).n) x3) (List.map (getI e1_2) x4) x5)],
  ou,())=
  (a0,a1,a2,a3,sp,rd,e2.holds,e2.cells,op,ks,e2.ocells,e2.code,ou,()))))):=by kernel_rfl
theorem Z1 (sp:Spans) (rd:Reads) (N:Int) (m:Holds) (pl:Int) (st:List Int) (r:List Nat):∀ (l:List Nat) (acc:List Held),C5 sp rd N m pl st (l++r) acc=match C5 sp rd N m pl st l acc with
  |(none,acc')=>C5 sp rd N m pl st r acc'
  |x=>x
 |[],acc=>rfl
 |s::l,acc=>by
  simp only [List.cons_append,C5]
  cases mget eqP m ⟨false,(s:Int)⟩ with
  |none=>rfl
  |some n=>
   simp only
   cases st.contains n with
   |true=>exact Z1 sp rd N m pl st r l acc
   |false=>
    simp only [cond_false]
    cases H1 (getS sp n).first (getS sp n).last pl with
    |true=>exact Z1 sp rd N m pl st r l _
    |false=>rfl
theorem ah0 (sp:Spans) (rd:Reads) (N:Int) (m:Holds) (pl:Int) (st:List Int):∀ (l:List Nat) (acc:List Held),(C5 sp rd N m pl st l acc).2.length≤acc.length+l.length
 |[],acc=>by simp [C5]
 |s::l,acc=>by
  simp only [C5]
  cases mget eqP m ⟨false,(s:Int)⟩ with
  |none=>simp
  |some n=>
   simp only
   cases st.contains n with
   |true=>have:=ah0 sp rd N m pl st l acc;simp only [cond_true,cq0];omega
   |false=>
    simp only [cond_false]
    cases H1 (getS sp n).first (getS sp n).last pl with
    |true=>have:=ah0 sp rd N m pl st l (acc++[⟨(s:Int),n,aI9 rd N n pl⟩]);simp only [cond_true,cq0,cq5,List.length_nil] at this ⊢;omega
    |false=>simp
theorem ar9 {sp:Spans} {rd:Reads} {N:Int} {m:Holds} {pl:Int} {st:List Int} {k:Nat} {acc:List Held} (h:C5 sp rd N m pl st (List.range k) []=(none,acc)):C5 sp rd N m pl st (List.range (k+1)) []=C5 sp rd N m pl st [k] acc:=by
 rw [List.range_succ,Z1,h]
theorem aW1 {sp:Spans} {rd:Reads} {N:Int} {m:Holds} {pl:Int} {st:List Int} {k n:Nat} {acc:List Held} (hk:k<n) (h:C5 sp rd N m pl st (List.range k) []=(none,acc)) {i:Int} (h2:C5 sp rd N m pl st [k] acc=(some i,acc)):C5 sp rd N m pl st (List.range n) []=(some i,acc):=by
 have:List.range n=List.range (k+1)++(List.range (n-(k+1))).map ((k+1)+·):=by
  rw [←List.range_add];congr 1;omega
 rw [this,Z1,ar9 h,h2]
theorem ch7 (pl:Int) (st:List Int) (a0:Int) (a1:List Ins) (a2 a3:List Int) (sp:Spans) (rd:Reads) (ho:Holds) (ce:List (Int×Int)) (op ks oc:Int) (cd:List RIns) (ou:List Place)
  (hp:ag9 rd∧Z0 sp rd ks a1.length ho pl st∧ks≤64∧0≤oc∧oc≤1000000000∧cd.length≤1000000000):vc (EV [(100,cNext),(61,cContains),(69,cAt),(101,cBest),(85,cPutA)]) (ch3 sp rd ks a1.length ho pl st) Go.Proofs.Tryd.f84 cRoom (pl,st,a0,a1,a2,a3,sp,rd,ho,ce,op,ks,oc,cd,ou,()):=by
 rw [ch4 pl st a0 a1 a2 a3 sp rd ho ce op ks oc cd ou]
 intro e0 e1 _ _ _ _ _ _
 obtain ⟨hp1,hp2,hp3,hp4,hp5,hp6⟩:=hp
 have he0:e0=((F6 sp rd ks a1.length ⟨ho,ce,oc,cd⟩ pl st).1,a0,a1,a2,a3,sp,rd,(F6 sp rd ks a1.length ⟨ho,ce,oc,cd⟩ pl st).2.holds,(F6 sp rd ks a1.length ⟨ho,ce,oc,cd⟩ pl st).2.cells,op,ks,(F6 sp rd ks a1.length ⟨ho,ce,oc,cd⟩ pl st).2.ocells,(F6 sp rd ks a1.length ⟨ho,ce,oc,cd⟩ pl st).2.code,ou,()):=rfl
 have he1:e1=(a0,a1,a2,a3,sp,rd,ho,ce,op,ks,oc,cd,ou,()):=rfl
 clear_value e0 e1
 generalize (a1.length:Int)=N at hp2 he0 ⊢
 simp only [true_and,and_true,Bool.cond_self]
 refine ⟨⟨(0,[],()),rfl,rfl,Int.le_refl _,.inr rfl,rfl⟩,?_⟩
 rintro ⟨i,l,⟨⟩⟩ ⟨h0,h1,h2⟩
 dsimp only at h0 h1 h2 ⊢
 obtain ⟨k,rfl⟩:=cp0 h0
 simp only [co8] at h2 ⊢
 have hlen:=ah0 sp rd N ho pl st (List.range k) []
 rw [h2] at hlen
 simp only [List.length_nil,List.length_range,Nat.zero_add] at hlen
 refine ⟨fun hlt=>?_,fun hge=>?_⟩
 ·have hlt:(k:Int)<ks:=cp4 hlt
  have stop:C5 sp rd N ho pl st [k] l=(some (k:Int),l)→((k:Int),e1)=e0:=fun h=>by
   have hr:(K9 sp rd ks N ho pl st)=(some (k:Int),l):=aW1 (by omega) h2 h
   have:F6 sp rd ks N ⟨ho,ce,oc,cd⟩ pl st=((k:Int),⟨ho,ce,oc,cd⟩):=by simp only [F6,hr]
   rw [he0,this,he1]
  have next:∀ l',C5 sp rd N ho pl st [k] l=(none,l')→∃ p':Int×List Held×Unit,IntKind.i64.wrap ((k:Int)+1)=p'.1∧l'=p'.2.1∧(0≤p'.1∧(p'.1≤ks∨p'.1=0)∧C5 sp rd N ho pl st (List.range p'.1.toNat) []=(none,p'.2.1))∧ks.toNat-p'.1.toNat<ks.toNat-k:=fun l' h=>
   ⟨((k+1:Nat),l',()),by rw [E9 (by omega) (by omega)];rfl,rfl,⟨by omega,.inl (by dsimp only;omega),by dsimp only;rw [co8,ar9 h2,h]⟩,by dsimp only;omega⟩
  show ((!(mget eqP ho ⟨false,(k:Int)⟩).isSome)=true→_)∧((!(mget eqP ho ⟨false,(k:Int)⟩).isSome)=false→_)
  cases hq:mget eqP ho ⟨false,(k:Int)⟩ with
  |none=>
   refine ⟨fun _=>stop ?_,fun h=>(by cases h)⟩
   simp only [C5,hq]
  |some n=>
   refine ⟨fun h=>(by cases h),fun _=>?_⟩
   have hq':mget (E7 RU (Ty.user 2)) ho ⟨false,(k:Int)⟩=some n:=hq
   simp only [hq',Option.getD_some]
   refine ⟨fun h=>?_,fun h=>⟨fun h3=>stop ?_,fun h3=>⟨hp1,?_,?_⟩⟩⟩
   ·exact next l (by simp only [C5,hq,h,cond_true])
   ·have h3:H1 (getS sp n).first (getS sp n).last pl=false:=by simpa [getS] using h3
    simp only [C5,hq,h,h3,cond_false]
   ·simp only [cq0,List.length_nil];omega
   ·have h3:H1 (getS sp n).first (getS sp n).last pl=true:=by simpa [getS] using h3
    exact next _ (by simp only [C5,hq,h,h3,cond_false,cond_true])
 ·have hge:¬ (k:Int)<ks:=cp3 hge
  have hr:K9 sp rd ks N ho pl st=(none,l):=by
   rw [←h2]
   show C5 sp rd N ho pl st (List.range ks.toNat) []=_
   congr 2
   omega
  have hne:l≠[]:=by
   have:=hp2
   unfold Z0 at this
   rw [hr] at this
   exact this rfl
  have hR:F6 sp rd ks N ⟨ho,ce,oc,cd⟩ pl st=((K1 l).slot,ad3 ⟨ho,ce,oc,cd⟩ (K1 l)):=by simp only [F6,hr]
  rw [hR] at he0
  refine ⟨hne,fun _=>hp6,?_⟩
  rw [he0]
  dsimp only [ad3]
  show (_,_,_,_,_,_,_,_,(bif !(mget eqI ce (K1 l).reg).isSome then mput eqI ce (K1 l).reg oc else ce),_,_,(bif !(mget eqI ce (K1 l).reg).isSome then IntKind.i64.wrap (oc+1) else oc),(bif !(mget eqI ce (K1 l).reg).isSome then cd++[⟨2,(K1 l).slot,oc,ins0⟩] else cd),_,_)=_
  rw [E9 (by omega) (by omega)]
  cases (mget eqI ce (K1 l).reg).isSome<;>rfl
theorem bC3:C8 prog RG 84 cRoom:=E5 (A8 bC0 (A8 N0 (A8 bt4 (A8 bC1 (A8 aO9 B8))))) (fun (pl,st,a0,a1,a2,a3,sp,rd,ho,ce,op,ks,oc,cd,ou,())=>ch3 sp rd ks a1.length ho pl st) (by kernel_rfl) (by kernel_rfl) (by kernel_rfl) fun (pl,st,a0,a1,a2,a3,sp,rd,ho,ce,op,ks,oc,cd,ou,()) hp=>ch7 pl st a0 a1 a2 a3 sp rd ho ce op ks oc cd ou hp
theorem bC4:C8 prog RG 86 cGetA:=E5 (A8 av0 B8) (fun _=>noL) (by kernel_rfl) (by kernel_rfl) (by kernel_rfl) fun (n,a0,a1,a2,a3,sp,rd,ho,ce,op,ks,oc,cd,ou,()) hp=>(ch5 n a0 a1 a2 a3 sp rd ho ce op ks oc cd ou).mpr (by
 have hp:ks≤64:=hp
 intros
 simp only [true_and,and_true]
 exact hp)
theorem bC5:C8 prog RG 87 cOld:=E5 B8 (fun _=>noL) (by kernel_rfl) (by kernel_rfl) (by kernel_rfl) fun (n,m,()) _=>(ch6 n m).mpr rfl
theorem bC6 (x1 x2:Int) (x3 x4:List Int) (x5:List Ins) (a0:Int) (a1:List Ins) (a2 a3:List Int) (sp:Spans) (rd:Reads) (ho:Holds) (ce:List (Int×Int)) (op ks oc:Int) (cd:List RIns) (ou:List Place) (sl:List (Int×Int)) (hp:ag7 x3 x4 x5=true∧ks≤64):
  vc (EV [(96,cBody),(86,cGetA),(87,cOld)]) (aV9 x1 x2 x3 x4 x5 ho ks sl) Go.Proofs.Tryd.f73 cCalledA (x1,x2,x3,x4,x5,a0,a1,a2,a3,sp,rd,ho,ce,op,ks,oc,cd,ou,sl,()):=by
 rw [bC2 x1 x2 x3 x4 x5 a0 a1 a2 a3 sp rd ho ce op ks oc cd ou sl]
 intro e0 e1 e2 e3 hs3 hs4 _ _ _ _ _ _
 have hl3:x3.length≤140737488355328:=hs3.len
 have hl4:x4.length≤140737488355328:=hs4.len
 clear_value e0
 dsimp only [e1,e2,e3]
 simp only [true_and,and_true]
 refine ⟨⟨by simp,?_⟩,⟨by omega,by simp⟩,⟨(0,_,()),rfl,rfl,Int.le_refl _,by dsimp only;omega,by simp⟩,?_⟩
 ·simp only [I7,Bool.and_true]
  exact (N3 _).2 (ak0.1 hp.1)
 rintro ⟨i,l,⟨⟩⟩ ⟨h0,h1,h2⟩
 dsimp only at h0 h1 h2 ⊢
 subst h2
 obtain ⟨k,rfl⟩:=cp0 h0
 simp only [co8,List.getD_cons_zero,List.set_cons_zero]
 have hA:((x4.take k).map (getI sl)).length=k:=by simp;omega
 refine ⟨fun hlt=>?_,fun hge=>?_⟩
 ·have hlt:(k:Int)<x4.length:=cp4 hlt
  rw [aj9 hA (by omega),aU8 hA (by omega),aU9 hA (by omega)]
  refine ⟨⟨h0,hlt⟩,⟨h0,hlt⟩,((k+1:Nat),[⟨x1,x2,x3,(x4.take (k+1)).map (getI sl)++x4.drop (k+1),x5⟩],()),B6 (by omega) hl4,?_,⟨by omega,by dsimp only;omega,by dsimp only;rw [co8]⟩,by dsimp only;omega⟩
  dsimp only
  rw [A5 (by omega) 0,List.map_append]
  rfl
 have hk:k=x4.length:=by have:¬ (k:Int)<x4.length:=cp3 hge;omega
 subst hk
 simp only [cr2,List.drop_length,List.append_nil]
 clear h0 h1 hge hA
 refine ⟨⟨(0,_,()),rfl,rfl,Int.le_refl _,by dsimp only;omega,by simp⟩,?_⟩
 rintro ⟨i,l,⟨⟩⟩ ⟨h0,h1,h2⟩
 dsimp only at h0 h1 h2 ⊢
 subst h2
 obtain ⟨k,rfl⟩:=cp0 h0
 simp only [co8,List.getD_cons_zero,List.set_cons_zero]
 have hA:((x3.take k).map (fun n=>(B9 ho ks n).n)).length=k:=by simp;omega
 refine ⟨fun hlt=>?_,fun hge=>?_⟩
 ·have hlt:(k:Int)<x3.length:=cp4 hlt
  rw [aj9 hA (by omega),aU8 hA (by omega),aU9 hA (by omega)]
  refine ⟨⟨h0,hlt⟩,hp.2,⟨h0,hlt⟩,((k+1:Nat),[⟨x1,x2,(x3.take (k+1)).map (fun n=>(B9 ho ks n).n)++x3.drop (k+1),x4.map (getI sl),x5⟩],()),B6 (by omega) hl3,?_,⟨by omega,by dsimp only;omega,by dsimp only;rw [co8]⟩,by dsimp only;omega⟩
  dsimp only
  rw [A5 (by omega) 0,List.map_append]
  rfl
 ·have hk:k=x3.length:=by have:¬ (k:Int)<x3.length:=cp3 hge;omega
  subst hk
  simp only [cr2,List.drop_length,List.append_nil]
theorem aW2:C8 prog RG 73 cCalledA:=E5 (A8 aO3 (A8 bC4 (A8 bC5 B8))) (fun (x1,x2,x3,x4,x5,a0,a1,a2,a3,sp,rd,ho,ce,op,ks,oc,cd,ou,sl,())=>aV9 x1 x2 x3 x4 x5 ho ks sl) (by kernel_rfl) (by kernel_rfl) (by kernel_rfl) fun (x1,x2,x3,x4,x5,a0,a1,a2,a3,sp,rd,ho,ce,op,ks,oc,cd,ou,sl,()) hp=>bC6 x1 x2 x3 x4 x5 a0 a1 a2 a3 sp rd ho ce op ks oc cd ou sl hp
theorem al3 (x:Int):∀ (l seen:List Int),G1 seen (l++[x])=G1 seen l++bif (seen++l).contains x then [] else [x]
 |[],seen=>by
  simp only [List.nil_append,G1,List.append_nil]
 |y::l,seen=>by
  have ih:=al3 x l (seen++[y])
  rw [cr0,List.singleton_append] at ih
  simp only [List.cons_append,G1,ih]
  cases seen.contains y<;>rfl
theorem aP0 (l:List Int) (x:Int):B1 (l++[x])=bif l.contains x then B1 l else B1 l++[x]:=by
 unfold B1
 rw [al3,List.nil_append]
 cases l.contains x<;>simp
theorem ah1 (l:List Int):(B1 l).length≤l.length:=by
 have key:∀ (l seen:List Int),(G1 seen l).length≤l.length:=by
  intro l
  induction l with
  |nil=>intro seen;simp [G1]
  |cons x r ih=>
   intro seen
   have:=ih (seen++[x])
   simp only [G1]
   cases seen.contains x with
   |true=>simp only [cond_true,cq0];omega
   |false=>simp only [cond_false,cq0];omega
 exact key l []
theorem aJ1:C8 prog RG 52 cReads:=E5 B8 (fun _=>noL) (by kernel_rfl) (by kernel_rfl) (by kernel_rfl) fun (x1,x2,x3,x4,x5,()) _=>(bW6 x1 x2 x3 x4 x5).mpr (by intros;rfl)
theorem bN9 (s0:Int) (r0:List Int) (x1 x2:Int) (x3 x4:List Int) (x5:List Ins) (hp:s0=0∧r0.length+x4.length≤17592186044400):vc (EVy [(0,0),(1,1)] (some ar8) [(61,cContains)]) (bn1 x4 r0) Go.Proofs.Tryd.f83 aW0 (s0,r0,x1,x2,x3,x4,x5,()):=by
 rw [bN8 s0 r0 x1 x2 x3 x4 x5]
 intro e0 e1 _ _ hs4 _
 have hl4:x4.length≤140737488355328:=hs4.len
 have he0:e0=(0,r0++B1 x4,()):=rfl
 clear_value e0
 dsimp only [e1]
 simp only [true_and,and_true]
 refine ⟨⟨(0,0,r0,()),rfl,hp.1,rfl,Int.le_refl _,by dsimp only;omega,rfl,by simp [B1,G1]⟩,?_⟩
 rintro ⟨i,st,l,⟨⟩⟩ ⟨h0,h1,h2,h3⟩
 dsimp only at h0 h1 h2 h3 ⊢
 subst h2
 obtain ⟨k,rfl⟩:=cp0 h0
 simp only [co8] at h3 ⊢
 subst h3
 refine ⟨fun hlt=>?_,fun hge=>?_⟩
 ·have hlt:(k:Int)<x4.length:=cp4 hlt
  have hs:=aP0 (x4.take k) (x4.getD k 0)
  rw [←A5 (by omega)] at hs
  have hl:=ah1 (x4.take k)
  rw [cr3] at hl
  refine ⟨⟨h0,hlt⟩,⟨h0,by omega⟩,fun q=>?_,fun q=>⟨⟨trivial,by rw [cq5];omega⟩,fun h=>(by cases h),fun _=>?_⟩⟩
  ·rw [q] at hs
   exact ⟨((k+1:Nat),0,_,()),B6 (by omega) hl4,rfl,rfl,⟨by omega,by dsimp only;omega,rfl,by dsimp only;rw [co8,hs];rfl⟩,by dsimp only;omega⟩
  ·rw [q] at hs
   exact ⟨((k+1:Nat),0,_,()),B6 (by omega) hl4,rfl,rfl,⟨by omega,by dsimp only;omega,rfl,by dsimp only;rw [co8,hs,cr0];rfl⟩,by dsimp only;omega⟩
 ·have hk:k=x4.length:=by have:¬ (k:Int)<x4.length:=cp3 hge;omega
  subst hk
  rw [he0,cr2]
theorem ch8:ItOk itDo:=by
 intro f k kY mp h Y' hY
 unfold itDo at h
 cases hf:Nat.beq f 83 with
 |false=>rw [hf] at h;cases h
 |true=>
  have hf:=co5 hf
  subst hf
  simp only [Nat.beq_refl,cond_true,List.mem_cons,List.not_mem_nil,or_false,cp6] at h
  obtain ⟨rfl,rfl,rfl⟩:=h
  exact aj5 (E:=EVy [(0,0),(1,1)] (some ar8) [(61,cContains)]) (bT3 _ _ _) ⟨Y7 (fun x hx=>by rcases List.mem_cons.1 hx with rfl|hx;exact N0 _;cases hx),fun _ _ _ _ _ h=>(by cases h),fun _ _ _ h=>(by cases h),fun k hk=>by cases hk;exact hY,fun _ _ _ _ h=>(by cases h)⟩ bk2 Go.Proofs.Tryd.func83 (by kernel_rfl)
    (fun p=>bn1 p.2.2.2.2.2.1 p.2.1) (fun (st,r0,x1,x2,x3,x4,x5,()) hp=>bN9 st r0 x1 x2 x3 x4 x5 hp) (by kernel_rfl) rfl
theorem bO0 (s:AS) (x:Held):(ad3 s x).code.length≤s.code.length+1∧s.ocells≤(ad3 s x).ocells∧(ad3 s x).ocells≤s.ocells+1:=by
 unfold ad3
 cases (mget eqI s.cells x.reg).isSome with
 |true=>simp only [cond_true];omega
 |false=>simp only [cond_false,cq5,cq0,List.length_nil];omega
theorem av1 (sp:Spans) (rd:Reads) (ks N:Int) (s:AS) (pl:Int) (st:List Int):(F6 sp rd ks N s pl st).2.code.length≤s.code.length+1∧s.ocells≤(F6 sp rd ks N s pl st).2.ocells∧(F6 sp rd ks N s pl st).2.ocells≤s.ocells+1:=by
 unfold F6
 split
 ·simp only;omega
 ·exact bO0 _ _
theorem bf4 (sp:Spans) (rd:Reads) (ks N i:Int) (fr:List Int) (s:AS) (n:Int):(D4 sp rd ks N i fr s n).code.length≤s.code.length+2∧s.ocells≤(D4 sp rd ks N i fr s n).ocells∧(D4 sp rd ks N i fr s n).ocells≤s.ocells+1:=by
 unfold D4
 have:=av1 sp rd ks N s i fr
 cases (B9 s.holds ks n).cell with
 |true=>simp only [cond_true,cq5,cq0,List.length_nil];omega
 |false=>simp only [cond_false];omega
theorem ad4 (sp:Spans) (rd:Reads) (ks N i:Int) (fr:List Int):∀ (l:List Int) (s:AS),(D3 sp rd ks N i fr s l).code.length≤s.code.length+2*l.length∧s.ocells≤(D3 sp rd ks N i fr s l).ocells∧(D3 sp rd ks N i fr s l).ocells≤s.ocells+l.length
 |[],s=>by simp [D3]
 |x::r,s=>by
  have h1:=ad4 sp rd ks N i fr r (D4 sp rd ks N i fr s x)
  have h2:=bf4 sp rd ks N i fr s x
  simp only [D3,List.foldl_cons,cq0] at h1 ⊢
  omega
theorem bC7 (sp:Spans) (rd:Reads) (ks N i:Int) (to:List Int) (s:AS) (n:Int):(M3 sp rd ks N i to s n).code.length≤s.code.length+1∧s.ocells≤(M3 sp rd ks N i to s n).ocells∧(M3 sp rd ks N i to s n).ocells≤s.ocells+1:=by
 have:=av1 sp rd ks N s (i+1) to
 exact this
theorem aJ2 (sp:Spans) (rd:Reads) (ks N i:Int) (to:List Int):∀ (l:List Int) (s:AS),(G7 sp rd ks N i to s l).code.length≤s.code.length+l.length∧s.ocells≤(G7 sp rd ks N i to s l).ocells∧(G7 sp rd ks N i to s l).ocells≤s.ocells+l.length
 |[],s=>by simp [G7]
 |x::r,s=>by
  have h1:=aJ2 sp rd ks N i to r (M3 sp rd ks N i to s x)
  have h2:=bC7 sp rd ks N i to s x
  simp only [G7,List.foldl_cons,cq0] at h1 ⊢
  omega
theorem bf5 (sp:Spans) (rd:Reads) (ks N i:Int) (fr:List Int) (s:AS) (l:List Int) (x:Int):D3 sp rd ks N i fr s (l++[x])=D4 sp rd ks N i fr (D3 sp rd ks N i fr s l) x:=by simp [D3]
theorem aP1 (sp:Spans) (rd:Reads) (ks N i:Int) (to:List Int) (s:AS) (l:List Int) (x:Int):G7 sp rd ks N i to s (l++[x])=M3 sp rd ks N i to (G7 sp rd ks N i to s l) x:=by simp [G7]
theorem bf6 (m:Holds) (ks n:Int):((B9 m ks n).cell==true&&((B9 m ks n).n==(-1:Int)))=(B9 m ks n).cell:=by
 unfold B9
 split
 ·rfl
 ·rfl
theorem co1 (i x1 x2:Int) (x3 x4:List Int) (x5:List Ins) (a0:Int) (a1:List Ins) (a2 a3:List Int) (sp:Spans) (rd:Reads) (ho:Holds) (ce:List (Int×Int)) (op ks oc:Int) (cd:List RIns) (ou:List Place)
  (hp:ag7 x3 x4 x5=true∧x4.length≤17592186044400∧(B1 x4).length≤64∧x3.length≤64∧ag9 rd∧doOk sp rd ks a1.length i ⟨x1,x2,x3,x4,x5⟩ ⟨ho,ce,oc,cd⟩∧ks≤64∧0≤i∧i≤1000000∧0≤oc∧oc≤100000000∧cd.length≤100000000):
  vc (EVd [] itDo [(52,cReads),(54,cSlot),(84,cRoom),(85,cPutA),(73,cCalledA)]) (lDo sp rd ks a1.length i x3 x4 ⟨ho,ce,oc,cd⟩) Go.Proofs.Tryd.f53 cDo (i,x1,x2,x3,x4,x5,a0,a1,a2,a3,sp,rd,ho,ce,op,ks,oc,cd,ou,()):=by
 rw [co0 i x1 x2 x3 x4 x5 a0 a1 a2 a3 sp rd ho ce op ks oc cd ou]
 obtain ⟨hp1,hp2,hp3,hp4,hp5,hp6,hp7,hp8,hp9,hp10,hp11,hp12⟩:=hp
 intro e0 e1 e2 e3 e4 e5 e6 _ hs4 _ _ _ _ _ _
 have hl4:x4.length≤140737488355328:=hs4.len
 have hdl:=ah1 x4
 have he2:e2=doOf sp rd ks e3 i ⟨x1,x2,x3,x4,x5⟩ ⟨ho,ce,oc,cd⟩:=rfl
 have he4:e4=i+1:=E9 (by omega) (by omega)
 have he6:e6=D3 sp rd ks e3 i (B1 x4) ⟨ho,ce,oc,cd⟩ (B1 x4):=rfl
 have hL6:=ad4 sp rd ks e3 i (B1 x4) (B1 x4) ⟨ho,ce,oc,cd⟩
 rw [←he6] at hL6
 have hD:e2=⟨(G7 sp rd ks e3 i x3 e6 x3).holds,(G7 sp rd ks e3 i x3 e6 x3).cells,(G7 sp rd ks e3 i x3 e6 x3).ocells,(G7 sp rd ks e3 i x3 e6 x3).code++[⟨0,0,0,⟨x1,x2,x3.map (fun n=>(B9 (G7 sp rd ks e3 i x3 e6 x3).holds ks n).n),x4.map (getI (J1 e6.holds ks (B1 x4))),x5⟩⟩]⟩:=rfl
 obtain ⟨hok1,hok2⟩:=hp6
 change ∀ k,k<(B1 x4).length→(B9 (D3 sp rd ks e3 i (B1 x4) ⟨ho,ce,oc,cd⟩ ((B1 x4).take k)).holds ks ((B1 x4).getD k 0)).cell=true→Z0 sp rd ks e3 (D3 sp rd ks e3 i (B1 x4) ⟨ho,ce,oc,cd⟩ ((B1 x4).take k)).holds i (B1 x4) at hok1
 change ∀ k,k<x3.length→Z0 sp rd ks e3 (G7 sp rd ks e3 i x3 e6 (x3.take k)).holds (i+1) x3 at hok2
 clear_value e2 e4 e6 e3
 subst he4
 dsimp only [e0,e1,e5]
 simp only [true_and,and_true,List.nil_append,Bool.and_true,bf6]
 refine ⟨?_,?_,⟨(0,ho,ce,oc,cd,()),rfl,rfl,rfl,rfl,rfl,Int.le_refl _,by dsimp only;omega,rfl⟩,?_⟩
 ·rintro ⟨n,st,l,⟨⟩⟩ ⟨h1,h2⟩ _
  dsimp only at h1 h2 ⊢
  exact ⟨h1,by simp only [cq0,List.length_nil];omega,rfl⟩
 ·simp only [List.length_nil];omega
 rintro ⟨j,m,cc,c,q,⟨⟩⟩ ⟨h0,h1,h2⟩
 dsimp only at h0 h1 h2 ⊢
 obtain ⟨k,rfl⟩:=cp0 h0
 simp only [co8] at h2 ⊢
 have hL:=ad4 sp rd ks e3 i (B1 x4) ((B1 x4).take k) ⟨ho,ce,oc,cd⟩
 rw [h2,cr3] at hL
 dsimp only at hL
 refine ⟨fun hlt=>?_,fun hge=>?_⟩
 ·have hlt:(k:Int)<(B1 x4).length:=cp4 hlt
  have hkc:k<(B1 x4).length:=by omega
  have hok:=hok1 k hkc
  rw [h2] at hok
  have hstep:D3 sp rd ks e3 i (B1 x4) ⟨ho,ce,oc,cd⟩ ((B1 x4).take (k+1))=D4 sp rd ks e3 i (B1 x4) ⟨m,cc,c,q⟩ ((B1 x4).getD k 0):=by
   rw [A5 hkc 0,bf5,h2]
  generalize (B1 x4).getD k 0=n at hok hstep ⊢
  dsimp only at hok
  refine ⟨⟨h0,hlt⟩,hp7,fun hc=>?_,fun hc=>?_⟩
  ·have hc:(B9 m ks n).cell=false:=by simpa using hc
   have hS:D4 sp rd ks e3 i (B1 x4) ⟨m,cc,c,q⟩ n=⟨m,cc,c,q⟩:=by simp only [D4,hc,cond_false]
   exact ⟨((k+1:Nat),m,cc,c,q,()),B6 (m:=(B1 x4).length) hkc (by omega),rfl,rfl,rfl,rfl,⟨by omega,by dsimp only;omega,by dsimp only;rw [co8,hstep,hS]⟩,by dsimp only;omega⟩
  ·have hc:(B9 m ks n).cell=true:=by simpa using hc
   have hR:=av1 sp rd ks e3 ⟨m,cc,c,q⟩ i (B1 x4)
   dsimp only at hR
   refine ⟨⟨hp5,hok hc,hp7,by omega,by omega,by omega⟩,by omega,((k+1:Nat),_,_,_,_,()),B6 (m:=(B1 x4).length) hkc (by omega),rfl,rfl,rfl,rfl,⟨by omega,by dsimp only;omega,?_⟩,by dsimp only;omega⟩
   dsimp only
   rw [co8,hstep]
   simp only [D4,hc,cond_true]
   rfl
 have hk:k=(B1 x4).length:=by have:¬ (k:Int)<(B1 x4).length:=cp3 hge;omega
 subst hk
 rw [cr2,←he6] at h2
 clear he6 hok1 h0 h1 hge hL
 subst h2
 dsimp only at hL6 hD hok2 ⊢
 refine ⟨⟨(0,[],()),rfl,rfl,Int.le_refl _,by dsimp only;omega,rfl⟩,?_⟩
 rintro ⟨j,sl,⟨⟩⟩ ⟨h0,h1,h2⟩
 dsimp only at h0 h1 h2 ⊢
 obtain ⟨k,rfl⟩:=cp0 h0
 simp only [co8] at h2 ⊢
 refine ⟨fun hlt=>?_,fun hge=>?_⟩
 ·have hlt:(k:Int)<(B1 x4).length:=cp4 hlt
  have hkc:k<(B1 x4).length:=by omega
  refine ⟨⟨h0,hlt⟩,hp7,((k+1:Nat),_,()),B6 (m:=(B1 x4).length) hkc (by omega),rfl,⟨by omega,by dsimp only;omega,?_⟩,by dsimp only;omega⟩
  dsimp only
  rw [co8,A5 hkc 0,h2]
  simp only [J1,List.foldl_append,List.foldl_cons,List.foldl_nil]
 have hk:k=(B1 x4).length:=by have:¬ (k:Int)<(B1 x4).length:=cp3 hge;omega
 subst hk
 rw [cr2] at h2
 subst h2
 clear h0 h1 hge
 refine ⟨⟨(0,m,cc,c,q,()),rfl,rfl,rfl,rfl,rfl,Int.le_refl _,by dsimp only;omega,rfl⟩,?_⟩
 rintro ⟨j,m2,cc2,c2,q2,⟨⟩⟩ ⟨h0,h1,h2⟩
 dsimp only at h0 h1 h2 ⊢
 obtain ⟨k,rfl⟩:=cp0 h0
 simp only [co8] at h2 ⊢
 have hT:=aJ2 sp rd ks e3 i x3 (x3.take k) ⟨m,cc,c,q⟩
 rw [h2,cr3] at hT
 dsimp only at hT
 refine ⟨fun hlt=>?_,fun hge=>?_⟩
 ·have hlt:(k:Int)<x3.length:=cp4 hlt
  have hkc:k<x3.length:=by omega
  have hok:=hok2 k hkc
  rw [h2] at hok
  have hstep:G7 sp rd ks e3 i x3 ⟨m,cc,c,q⟩ (x3.take (k+1))=M3 sp rd ks e3 i x3 ⟨m2,cc2,c2,q2⟩ (x3.getD k 0):=by
   rw [A5 hkc 0,aP1,h2]
  refine ⟨⟨h0,hlt⟩,⟨hp5,hok,hp7,by omega,by omega,by omega⟩,((k+1:Nat),_,_,_,_,()),B6 (m:=x3.length) hkc (by omega),rfl,rfl,rfl,rfl,⟨by omega,by dsimp only;omega,?_⟩,by dsimp only;omega⟩
  dsimp only
  rw [co8,hstep]
  rfl
 ·have hk:k=x3.length:=by have:¬ (k:Int)<x3.length:=cp3 hge;omega
  subst hk
  rw [cr2] at h2
  rw [h2] at hD
  refine ⟨⟨hp1,hp7⟩,by omega,?_⟩
  rw [hD]
theorem bW7:C8 prog RG 53 cDo:=bt1 ch8 (A8 aJ1 (A8 av0 (A8 bC3 (A8 aO9 (A8 aW2 B8))))) (fun (i,x1,x2,x3,x4,x5,a0,a1,a2,a3,sp,rd,ho,ce,op,ks,oc,cd,ou,())=>lDo sp rd ks a1.length i x3 x4 ⟨ho,ce,oc,cd⟩) (by kernel_rfl) (by kernel_rfl) (by kernel_rfl) fun (i,x1,x2,x3,x4,x5,a0,a1,a2,a3,sp,rd,ho,ce,op,ks,oc,cd,ou,()) hp=>co1 i x1 x2 x3 x4 x5 a0 a1 a2 a3 sp rd ho ce op ks oc cd ou hp
def G8 (m:Reads) (l:List Int) (i:Int):Reads:=l.foldl (fun m n=>mput eqI m n (getL m n++[i])) m
def N6:List Ins→Int→Reads→Reads
 |[],_,m=>m
 |x::r,i,m=>N6 r (i+1) (G8 m (B1 x.from_) i)
def H8 (code:List Ins):Reads:=N6 code 0 []
def Q0 (a:Nat):List (Int×Int):=(List.range a).foldl (fun (m:List (Int×Int)) (k:Nat)=>mput eqI m (k:Int) (k:Int)) []
def E8 (a:Int):AS:=⟨[],Q0 a.toNat,a,[]⟩
def runA (sp:Spans) (rd:Reads) (ks N:Int):List Ins→Int→AS→AS
 |[],_,s=>s
 |x::r,i,s=>runA sp rd ks N r (i+1) (doOf sp rd ks N i x s)
def fewX (ks:Int) (x:Ins):Bool:=decide (((B1 x.from_).length:Int)≤ks)&&decide ((x.to.length:Int)≤ks)
def outA (s:AS) (ks n:Int):Place:=bif (B9 s.holds ks n).cell then ⟨true,getI s.cells n⟩ else B9 s.holds ks n
def bO1 (f:VFun) (ks:Int):AS:=runA (A6 f.params f.code f.out) (H8 f.code) ks f.code.length f.code 0 (E8 f.params)
def A4 (f:VFun) (ks:Int):RCode×Int:=
 if E2 f≠0 then (aG6,E2 f) else if ks<1∨64<ks then (aG6,2) else if f.code.all (fewX ks)=false then (aG6,9)
 else (⟨f.params,ks,(bO1 f ks).ocells,(bO1 f ks).code,f.out.map (outA (bO1 f ks) ks)⟩,0)
theorem bt9 (sp:Spans) (rd:Reads) (ks N:Int) (r:List Ins):∀ (l:List Ins) (i:Int) (s:AS),runA sp rd ks N (l++r) i s=runA sp rd ks N r (i+l.length) (runA sp rd ks N l i s)
 |[],i,s=>by simp [runA]
 |x::l,i,s=>by
  simp only [List.cons_append,runA,bt9 sp rd ks N r l,cq0]
  congr 1
  omega
theorem as0 (sp:Spans) (rd:Reads) (ks N:Int) (l:List Ins) (x:Ins) (s:AS):runA sp rd ks N (l++[x]) 0 s=doOf sp rd ks N l.length x (runA sp rd ks N l 0 s):=by
 rw [bt9];simp [runA]
theorem ah2 {p q:Place}:eqP p q=true↔p=q:=by
 obtain ⟨c,n⟩:=p
 obtain ⟨c',n'⟩:=q
 show ((c==c')&&((n==n')&&true))=true↔_
 simp
theorem E4 {β:Type} (m:List (Place×β)) (k:Place) (v:β) (n:Place):mget eqP (mput eqP m k v) n=if k=n then some v else mget eqP m n:=by
 induction m with
 |nil=>
  show (bif eqP k n then some v else none)=_
  by_cases h:k=n
  ·rw [if_pos h,ah2.2 h];rfl
  ·have:eqP k n=false:=by rw [Bool.eq_false_iff];exact fun h2=>h (ah2.1 h2)
   rw [if_neg h,this];rfl
 |cons x r ih=>
  obtain ⟨k',v'⟩:=x
  show mget eqP (bif eqP k' k then (k,v)::r else (k',v')::mput eqP r k v) n=if k=n then some v else bif eqP k' n then some v' else mget eqP r n
  by_cases h:k'=k
  ·subst h
   rw [ah2.2 rfl]
   show (bif eqP k' n then some v else mget eqP r n)=_
   by_cases h1:k'=n
   ·rw [if_pos h1,ah2.2 h1];rfl
   ·have:eqP k' n=false:=by rw [Bool.eq_false_iff];exact fun h2=>h1 (ah2.1 h2)
    rw [if_neg h1,this];rfl
  ·have h2:eqP k' k=false:=by rw [Bool.eq_false_iff];exact fun h2=>h (ah2.1 h2)
   rw [h2]
   show (bif eqP k' n then some v' else mget eqP (mput eqP r k v) n)=_
   rw [ih]
   by_cases h1:k'=n
   ·subst h1
    rw [show eqP k' k'=true from ah2.2 rfl,cond_true,cond_true,if_neg (fun e=>h e.symm)]
   ·have:eqP k' n=false:=by rw [Bool.eq_false_iff];exact fun h2=>h1 (ah2.1 h2)
    rw [this];rfl
def bO2 (m:Holds) (ks n:Int):Prop:=∀ a:Nat,a<ks.toNat→mget eqP m ⟨false,(a:Int)⟩≠some n
structure Fine (P:Int→Prop) (ks:Int) (m:Holds):Prop where
 inj:∀ a b:Nat,a<ks.toNat→b<ks.toNat→∀ r,mget eqP m ⟨false,(a:Int)⟩=some r→mget eqP m ⟨false,(b:Int)⟩=some r→a=b
 reg:∀ a:Nat,a<ks.toNat→∀ r,mget eqP m ⟨false,(a:Int)⟩=some r→P r
theorem N7 {m:Holds} {ks n:Int}:(B9 m ks n).cell=true↔bO2 m ks n:=by
 unfold B9 bO2
 constructor
 ·intro h a ha hm
  split at h
  ·cases h
  ·rename_i hn
   rw [List.find?_eq_none] at hn
   exact hn a (by simpa using ha) (au9.2 hm)
 ·intro h
  split
  ·rename_i s hs
   have h1:=List.find?_some hs
   have h2:=List.mem_of_find?_eq_some hs
   exact (h s (by simpa using h2) (au9.1 h1)).elim
  ·rfl
theorem ah3 {m:Holds} {ks n:Int} (h:(B9 m ks n).cell=false):∃ a:Nat,a<ks.toNat∧B9 m ks n=⟨false,(a:Int)⟩∧mget eqP m ⟨false,(a:Int)⟩=some n:=by
 unfold B9 at h ⊢
 split at h
 ·rename_i s hs
  have h1:=List.find?_some hs
  have h2:=List.mem_of_find?_eq_some hs
  exact ⟨s,by simpa using h2,rfl,au9.1 h1⟩
 ·cases h
theorem aW3:∀ (l m:List Int),l.Nodup→(∀ x∈l,x∈m)→l.length≤m.length
 |[],_,_,_=>Nat.zero_le _
 |x::r,m,h,hs=>by
  obtain ⟨h1,h2⟩:=List.nodup_cons.1 h
  have hx:=hs x (by simp)
  have:=aW3 r (m.erase x) h2 (fun y hy=>(List.mem_erase_of_ne (fun e=>by subst e;exact h1 hy)).2 (hs y (by simp [hy])))
  rw [List.length_erase_of_mem hx] at this
  have:=List.length_pos_of_mem hx
  simp only [cq0]
  omega
theorem av2 (sp:Spans) (rd:Reads) (N:Int) (m:Holds) (pl:Int) (st:List Int):∀ (l:List Nat) (acc:List Held),C5 sp rd N m pl st l acc=(none,[])→acc=[]∧∀ s∈l,∃ n∈st,mget eqP m ⟨false,(s:Int)⟩=some n
 |[],acc,h=>by simp only [C5,cp6,true_and] at h;exact ⟨h,by simp⟩
 |s::r,acc,h=>by
  simp only [C5] at h
  cases hm:mget eqP m ⟨false,(s:Int)⟩ with
  |none=>rw [hm] at h;simp at h
  |some n=>
   rw [hm] at h
   simp only at h
   cases hc:st.contains n with
   |true=>
    rw [hc] at h
    obtain ⟨h1,h2⟩:=av2 sp rd N m pl st r acc h
    refine ⟨h1,fun x hx=>?_⟩
    rcases List.mem_cons.1 hx with rfl|hx
    ·exact ⟨n,by simpa [List.contains_iff_mem] using hc,hm⟩
    ·exact h2 x hx
   |false=>
    rw [hc] at h
    simp only [cond_false] at h
    cases hs:H1 (getS sp n).first (getS sp n).last pl with
    |true=>
     rw [hs] at h
     have:=(av2 sp rd N m pl st r _ h).1
     simp at this
    |false=>rw [hs] at h;simp at h
theorem as1 {P:Int→Prop} {ks:Int} {m:Holds} (F:Fine P ks m) {n:Int} (hn:bO2 m ks n) {st:List Int} (hs:n∈st) (hl:(st.length:Int)≤ks) (sp:Spans) (rd:Reads) (N pl:Int):Z0 sp rd ks N m pl st:=by
 intro h1 h2
 have h3:C5 sp rd N m pl st (List.range ks.toNat) []=(none,[]):=Prod.ext h1 h2
 obtain ⟨_,h4⟩:=av2 sp rd N m pl st _ _ h3
 let f:Nat→Int:=fun s=>(mget eqP m ⟨false,(s:Int)⟩).getD 0
 have hf:∀ s,s<ks.toNat→f s∈st∧mget eqP m ⟨false,(s:Int)⟩=some (f s):=by
  intro s hs
  obtain ⟨r,hr1,hr2⟩:=h4 s (by simpa using hs)
  have:f s=r:=by simp only [f,hr2,Option.getD_some]
  rw [this]
  exact ⟨hr1,hr2⟩
 have hnd:((List.range ks.toNat).map f).Nodup:=by
  rw [List.nodup_iff_pairwise_ne,List.pairwise_map]
  refine List.Pairwise.imp_of_mem ?_ (List.nodup_iff_pairwise_ne.1 List.nodup_range)
  intro a b ha hb hab heq
  refine hab (F.inj a b (by simpa using ha) (by simpa using hb) (f a) (hf a (by simpa using ha)).2 ?_)
  rw [heq]
  exact (hf b (by simpa using hb)).2
 have hle:=aW3 _ (st.erase n) hnd (fun x hx=>by
  obtain ⟨s,hs1,rfl⟩:=List.mem_map.1 hx
  have hs1:s<ks.toNat:=by simpa using hs1
  exact (List.mem_erase_of_ne (fun e=>hn s hs1 (by rw [(hf s hs1).2,e]))).2 (hf s hs1).1)
 rw [List.length_erase_of_mem hs,cr5,List.length_range] at hle
 have:=List.length_pos_of_mem hs
 omega
theorem Fine.put {P P':Int→Prop} {ks:Int} {m:Holds} (F:Fine P ks m) (hP:∀ r,P r→P' r) {n:Int} (hn:bO2 m ks n) (hp:P' n) (q:Int):Fine P' ks (mput eqP m ⟨false,q⟩ n):=by
 have hg:∀ (a:Nat),mget eqP (mput eqP m ⟨false,q⟩ n) ⟨false,(a:Int)⟩=if q=a then some n else mget eqP m ⟨false,(a:Int)⟩:=by
  intro a
  rw [E4]
  simp
 refine ⟨fun a b ha hb r h1 h2=>?_,fun a ha r h1=>?_⟩
 ·rw [hg] at h1 h2
  by_cases h3:q=a<;>by_cases h4:q=b
  ·omega
  ·rw [if_pos h3] at h1
   rw [if_neg h4] at h2
   simp only [co4] at h1
   subst h1
   exact (hn b hb h2).elim
  ·rw [if_neg h3] at h1
   rw [if_pos h4] at h2
   simp only [co4] at h2
   subst h2
   exact (hn a ha h1).elim
  ·rw [if_neg h3] at h1
   rw [if_neg h4] at h2
   exact F.inj a b ha hb r h1 h2
 ·rw [hg] at h1
  by_cases h3:q=a
  ·rw [if_pos h3] at h1
   simp only [co4] at h1
   subst h1;exact hp
  ·rw [if_neg h3] at h1
   exact hP r (F.reg a ha r h1)
theorem Fine.mono {P P':Int→Prop} {ks:Int} {m:Holds} (F:Fine P ks m) (hP:∀ r,P r→P' r):Fine P' ks m:=⟨F.inj,fun a ha r h=>hP r (F.reg a ha r h)⟩
theorem bn2 (s:AS) (x:Held):(ad3 s x).holds=s.holds:=by
 unfold ad3
 cases (mget eqI s.cells x.reg).isSome<;>rfl
theorem ay4 (sp:Spans) (rd:Reads) (ks N:Int) (s:AS) (pl:Int) (st:List Int):(F6 sp rd ks N s pl st).2.holds=s.holds:=by
 unfold F6
 split
 ·rfl
 ·exact bn2 _ _
theorem aK7 (sp:Spans) (rd:Reads) (ks N i:Int) (fr:List Int) (s:AS) (n:Int):((B9 s.holds ks n).cell=true∧(D4 sp rd ks N i fr s n).holds=mput eqP s.holds ⟨false,(F6 sp rd ks N s i fr).1⟩ n)∨((B9 s.holds ks n).cell=false∧D4 sp rd ks N i fr s n=s):=by
 unfold D4
 have:=ay4 sp rd ks N s i fr
 cases h:(B9 s.holds ks n).cell with
 |true=>exact .inl ⟨rfl,by simp only [cond_true];rw [this]⟩
 |false=>exact .inr ⟨rfl,rfl⟩
theorem V5 {P:Int→Prop} {sp:Spans} {rd:Reads} {ks N i:Int} {fr:List Int}:∀ (l:List Int) {s:AS},Fine P ks s.holds→(∀ n∈l,P n)→Fine P ks (D3 sp rd ks N i fr s l).holds
 |[],s,F,_=>F
 |n::r,s,F,h=>by
  refine V5 r (s:=D4 sp rd ks N i fr s n) ?_ (fun x hx=>h x (by simp [hx]))
  rcases aK7 sp rd ks N i fr s n with ⟨h1,h2⟩|⟨h1,h2⟩
  ·rw [h2];exact F.put (fun _ h=>h) (N7.1 h1) (h n (by simp)) _
  ·rw [h2];exact F
theorem bf7 (sp:Spans) (rd:Reads) (ks N i:Int) (to:List Int) (s:AS) (n:Int):(M3 sp rd ks N i to s n).holds=mput eqP s.holds ⟨false,(F6 sp rd ks N s (i+1) to).1⟩ n:=by
 have:=ay4 sp rd ks N s (i+1) to
 show mput eqP (F6 sp rd ks N s (i+1) to).2.holds ⟨false,(F6 sp rd ks N s (i+1) to).1⟩ n=_
 rw [this]
theorem aW4 {P:Int→Prop} {sp:Spans} {rd:Reads} {ks N i:Int} {to:List Int} {s:AS} (F:Fine P ks s.holds) (hn:to.Nodup) (hP:∀ n∈to,¬ P n):∀ (k:Nat),k≤to.length→Fine (fun r=>P r∨r∈to.take k) ks (G7 sp rd ks N i to s (to.take k)).holds∧(∀ n,k<to.length→n=to.getD k 0→bO2 (G7 sp rd ks N i to s (to.take k)).holds ks n):=by
 intro k
 induction k with
 |zero=>
  intro _
  refine ⟨F.mono fun r h=>.inl h,fun n hk hn2 a ha hm=>?_⟩
  have:=F.reg a ha n hm
  exact hP n (by rw [hn2];exact G5 hk 0) this
 |succ k ih=>
  intro hk
  obtain ⟨h1,h2⟩:=ih (by omega)
  have hF:Fine (fun r=>P r∨r∈to.take (k+1)) ks (G7 sp rd ks N i to s (to.take (k+1))).holds:=by
   rw [A5 (by omega) 0,aP1,bf7]
   refine h1.put (fun r h=>?_) (h2 _ (by omega) rfl) (.inr (by simp)) _
   rcases h with h|h
   ·exact .inl h
   ·exact .inr (by simp [h])
  refine ⟨hF,fun n hk2 hn2 a ha hm=>?_⟩
  rcases hF.reg a ha n hm with h3|h3
  ·exact hP n (by rw [hn2];exact G5 hk2 0) h3
  ·have hnd:=hn
   rw [←List.take_append_drop (k+1) to,List.nodup_append] at hnd
   refine hnd.2.2 n h3 n ?_ rfl
   rw [hn2,cp8,co6 hk2]
   exact List.mem_iff_getElem.2 ⟨0,by rw [List.length_drop];omega,by simp⟩
theorem as2 {l:List Int} {n:Int}:n∈B1 l↔n∈l:=by
 have key:∀ (l seen:List Int),(n∈G1 seen l→n∈l)∧(n∈l→n∈G1 seen l∨n∈seen):=by
  intro l
  induction l with
  |nil=>intro seen;simp [G1]
  |cons x r ih=>
   intro seen
   obtain ⟨h1,h2⟩:=ih (seen++[x])
   simp only [G1]
   cases hc:seen.contains x with
   |true=>
    have hc:x∈seen:=by simpa [List.contains_iff_mem] using hc
    refine ⟨fun h=>by simp [h1 h],fun h=>?_⟩
    simp only [List.mem_cons] at h
    rcases h with rfl|h
    ·exact .inr hc
    ·rcases h2 h with h3|h3
     ·exact .inl h3
     ·simp only [cr1,cp5] at h3
      rcases h3 with h3|rfl
      ·exact .inr h3
      ·exact .inr hc
   |false=>
    simp only [cond_false,List.mem_cons]
    refine ⟨fun h=>?_,fun h=>?_⟩
    ·rcases h with h|h
     ·exact .inl h
     ·exact .inr (h1 h)
    ·rcases h with rfl|h
     ·exact .inl (.inl rfl)
     ·rcases h2 h with h3|h3
      ·exact .inl (.inr h3)
      ·simp only [cr1,cp5] at h3
       rcases h3 with h3|rfl
       ·exact .inr h3
       ·exact .inl (.inl rfl)
 obtain ⟨h1,h2⟩:=key l []
 exact ⟨h1,fun h=>(h2 h).resolve_right (by simp)⟩
theorem aW5 {P:Int→Prop} {sp:Spans} {rd:Reads} {ks N i:Int} {x:Ins} {s:AS} (F:Fine P ks s.holds) (hfew:fewX ks x=true) (hf:∀ n∈x.from_,P n) (hn:x.to.Nodup) (hP:∀ n∈x.to,¬ P n):
  doOk sp rd ks N i x s∧Fine (fun r=>P r∨r∈x.to) ks (doOf sp rd ks N i x s).holds:=by
 simp only [fewX,co7,cq6] at hfew
 have hd:∀ n∈B1 x.from_,P n:=fun n hn=>hf n (as2.1 hn)
 have F1:=V5 (sp:=sp) (rd:=rd) (N:=N) (i:=i) (fr:=B1 x.from_) (B1 x.from_) F hd
 refine ⟨⟨fun k hk hc=>?_,fun k hk=>?_⟩,?_⟩
 ·have Fk:=V5 (sp:=sp) (rd:=rd) (N:=N) (i:=i) (fr:=B1 x.from_) ((B1 x.from_).take k) F (fun n hn=>hd n (List.mem_of_mem_take hn))
  exact as1 Fk (N7.1 hc) (G5 hk 0) hfew.1 sp rd N i
 ·obtain ⟨h1,h2⟩:=aW4 (sp:=sp) (rd:=rd) (N:=N) (i:=i) F1 hn hP k (by omega)
  exact as1 h1 (h2 _ hk rfl) (G5 hk 0) hfew.2 sp rd N (i+1)
 ·have:=(aW4 (sp:=sp) (rd:=rd) (N:=N) (i:=i) F1 hn hP x.to.length (Nat.le_refl _)).1
  rw [cr2] at this
  exact this
theorem bf8 {a:Int} {b:List Ins} {c:List Int} (C:Checked a b c) {ks:Int} (hfew:b.all (fewX ks)=true) (sp:Spans) (rd:Reads) (N:Int):∀ k,k≤b.length→Fine (fun r=>r<a∨r∈wr (b.take k)) ks (runA sp rd ks N (b.take k) 0 (E8 a)).holds∧(k<b.length→doOk sp rd ks N k (b.getD k ins0) (runA sp rd ks N (b.take k) 0 (E8 a))):=by
 have step:∀ k,k<b.length→Fine (fun r=>r<a∨r∈wr (b.take k)) ks (runA sp rd ks N (b.take k) 0 (E8 a)).holds→doOk sp rd ks N k (b.getD k ins0) (runA sp rd ks N (b.take k) 0 (E8 a))∧Fine (fun r=>(r<a∨r∈wr (b.take k))∨r∈(b.getD k ins0).to) ks (doOf sp rd ks N k (b.getD k ins0) (runA sp rd ks N (b.take k) 0 (E8 a))).holds:=by
  intro k hk F
  have hb:b=b.take k++b.getD k ins0::b.drop (k+1):=by
   conv=>lhs;rw [←List.take_append_drop (k+1) b,A5 hk ins0]
   simp
  have hmem:=G5 hk ins0
  refine aW5 F (cr4.1 hfew _ hmem) (fun n hn=>?_) ?_ (fun n hn=>?_)
  ·have:=C.there
   rw [hb] at this
   simpa using M2 this n hn
  ·have hnd:=G0.1 C.once
   rw [hb,P5,T9] at hnd
   exact (List.nodup_append.1 (List.nodup_append.1 hnd).2.1).1
  ·rintro (h|h)
   ·have:=C.new n (bt7.2 ⟨_,hmem,hn⟩);omega
   ·have hnd:=G0.1 C.once
    rw [hb,P5,T9] at hnd
    exact (List.nodup_append.1 hnd).2.2 n h n (List.mem_append_left _ hn) rfl
 intro k
 induction k with
 |zero=>
  intro _
  have F0:Fine (fun r=>r<a∨r∈wr (b.take 0)) ks (runA sp rd ks N (b.take 0) 0 (E8 a)).holds:=⟨fun x y _ _ r h=>by simp [runA,E8,mget] at h,fun x _ r h=>by simp [runA,E8,mget] at h⟩
  exact ⟨F0,fun hk=>(step 0 hk F0).1⟩
 |succ k ih=>
  intro hk
  obtain ⟨F,_⟩:=ih (by omega)
  have F1:=(step k (by omega) F).2
  have F2:Fine (fun r=>r<a∨r∈wr (b.take (k+1))) ks (runA sp rd ks N (b.take (k+1)) 0 (E8 a)).holds:=by
   rw [A5 (by omega) ins0,as0,cr3,Nat.min_eq_left (by omega)]
   refine F1.mono fun r h=>?_
   rw [P5,cr1]
   rcases h with (h|h)|h
   ·exact .inl h
   ·exact .inr (.inl h)
   ·exact .inr (.inr (by simpa [wr] using h))
  exact ⟨F2,fun hk=>(step (k+1) hk F2).1⟩
theorem bW8 (sp:Spans) (rd:Reads) (ks N i:Int) (x:Ins) (s:AS):(doOf sp rd ks N i x s).code.length≤s.code.length+2*(B1 x.from_).length+x.to.length+1∧s.ocells≤(doOf sp rd ks N i x s).ocells∧(doOf sp rd ks N i x s).ocells≤s.ocells+(B1 x.from_).length+x.to.length:=by
 have h1:=ad4 sp rd ks N i (B1 x.from_) (B1 x.from_) s
 have h2:=aJ2 sp rd ks N i x.to x.to (D3 sp rd ks N i (B1 x.from_) s (B1 x.from_))
 have hc:(doOf sp rd ks N i x s).code.length=(G7 sp rd ks N i x.to (D3 sp rd ks N i (B1 x.from_) s (B1 x.from_)) x.to).code.length+1:=by
  simp only [doOf,cq5,cq0,List.length_nil]
 have ho:(doOf sp rd ks N i x s).ocells=(G7 sp rd ks N i x.to (D3 sp rd ks N i (B1 x.from_) s (B1 x.from_)) x.to).ocells:=rfl
 rw [hc,ho]
 omega
theorem aW6 {ks:Int} (hks:ks≤64) (sp:Spans) (rd:Reads) (N:Int):∀ (l:List Ins) (i:Int) (s:AS),l.all (fewX ks)=true→(runA sp rd ks N l i s).code.length≤s.code.length+193*l.length∧s.ocells≤(runA sp rd ks N l i s).ocells∧(runA sp rd ks N l i s).ocells≤s.ocells+128*l.length
 |[],i,s,_=>by simp [runA]
 |x::r,i,s,h=>by
  simp only [List.all_cons,co7] at h
  have h1:=h.1
  simp only [fewX,co7,cq6] at h1
  have h2:=bW8 sp rd ks N i x s
  have h3:=aW6 hks sp rd N r (i+1) (doOf sp rd ks N i x s) h.2
  simp only [runA,cq0]
  omega
theorem bf9 (m:Reads) (k:Int) (l:List Int) (n:Int):getL (mput eqI m k l) n=if k=n then l else getL m n:=by
 unfold getL
 rw [I8]
 split<;>rfl
theorem ah4 (i:Int):∀ (l:List Int) (m:Reads),(∀ n,(getL m n).Pairwise (·≤·)∧∀ x∈getL m n,x≤i)→∀ n,(getL (G8 m l i) n).Pairwise (·≤·)∧∀ x∈getL (G8 m l i) n,x≤i
 |[],m,h,n=>h n
 |y::r,m,h,n=>by
  refine ah4 i r (mput eqI m y (getL m y++[i])) (fun k=>?_) n
  rw [bf9]
  split
  ·rename_i hy
   subst hy
   refine ⟨List.pairwise_append.2 ⟨(h y).1,by simp,fun a ha b hb=>?_⟩,fun x hx=>?_⟩
   ·simp only [cp5] at hb;subst hb;exact (h y).2 a ha
   ·simp only [cr1,cp5] at hx
    rcases hx with hx|rfl
    ·exact (h y).2 x hx
    ·exact Int.le_refl _
  ·exact h k
theorem al4:∀ (l:List Ins) (i:Int) (m:Reads),(∀ n,(getL m n).Pairwise (·≤·)∧∀ x∈getL m n,x≤i)→ag9 (N6 l i m)
 |[],i,m,h=>fun n=>(h n).1
 |x::r,i,m,h=>by
  refine al4 r (i+1) _ (fun n=>?_)
  obtain ⟨h1,h2⟩:=ah4 i (B1 x.from_) m h n
  exact ⟨h1,fun y hy=>by have:=h2 y hy;omega⟩
theorem aK8 (code:List Ins):ag9 (H8 code):=al4 code 0 [] (fun n=>by simp [getL,mget])
theorem ay5 (x:Ins):∀ (l:List Ins) (i:Int) (m:Reads),N6 (l++[x]) i m=G8 (N6 l i m) (B1 x.from_) (i+l.length)
 |[],i,m=>by simp [N6]
 |y::l,i,m=>by
  simp only [List.cons_append,N6,ay5 x l,cq0]
  congr 1
  omega
theorem aJ3 (k:Nat):Q0 (k+1)=mput eqI (Q0 k) k k:=by simp [Q0,List.range_succ]
abbrev tysR:List Ty:=[i64,inss,ints,ints,mapS,mapR,mapP,mapI,i64,i64,i64,i64,i64]
abbrev objR (b:Nat):List OPat:=[.box 79 [.ptr 2 0],.box 86 [.d b,.d (b+1),.d (b+2),.d (b+3),.map 4,.ms 3,.map 5,.map 6,.d (b+8),.d (b+9),.d (b+10),.nil,.nil],.ms (b+5),.map (b+4),.map (b+6),.map (b+7),.box 3 [.d (b+11)],.box 3 [.d (b+12)]]
abbrev ylR:List (Nat×Nat):=[(0,0),(1,1),(2,2),(4,4),(5,5),(6,6),(7,7),(8,8)]
def as3:Con RU:=⟨[one,one],i64::i64::tysR,[.d 0,.yld 0],.loop 1::objR 2,some fun p=>match p with
  |(n,st,a0,a1,a2,a3,sp,rd,ho,ce,op,ks,oc,i,many,())=>st=0∧(∀ n,(getL rd n).length≤1000001)∧0≤many∧many≤140737488356000,
 none,[one],.bool::i64::tysR,[.d 0],.loop 1::objR 2,fun p=>match p with
  |(n,st,a0,a1,a2,a3,sp,rd,ho,ce,op,ks,oc,i,many,())=>(true,0,a0,a1,a2,a3,sp,mput eqI rd n (getL rd n++[i]),ho,ce,op,ks,oc,i,many+1,()),[],ylR,[(1,1000001),(7,1000007),(8,1000008)]⟩
def aW7:Con RU:=⟨[one,one],i64::tysR++ax7,[.yld 0,.ptr 9 0],.loop 0::objR 1++[.box 52 [.d 14,.d 15,.d 16,.d 17,.d 18]],some fun p=>match p with
  |(st,a0,a1,a2,a3,sp,rd,ho,ce,op,ks,oc,i,many,x1,x2,x3,x4,x5,())=>st=0∧(∀ n,(getL rd n).length≤1000000)∧many=0,
 none,[],i64::tysR,[],.loop 0::objR 1++[.box 52 [.un,.un,.un,.un,.un]],fun p=>match p with
  |(st,a0,a1,a2,a3,sp,rd,ho,ce,op,ks,oc,i,many,x1,x2,x3,x4,x5,())=>(0,a0,a1,a2,a3,sp,G8 rd (B1 x4) i,ho,ce,op,ks,oc,i,many+(B1 x4).length,()),[],ylR,[(1,448),(7,512),(8,640)]⟩
def itAlloc:FuncId→List (Con RU×Con RU×List (Nat×Nat)):=fun f=>bif Nat.beq f 83 then [(aW7,as3,[(0,0),(1,1),(2,2),(3,3),(4,4),(5,5),(6,6),(7,7),(8,8)])] else []
def bn3 (fr:List Int) (rd:Reads) (i many:Int):Nat→St RU→Ann RU:=fun _ _=>⟨[],[.slot 8,.row 1000000,.row 1000003,.box 1000008 0],[i64,i64,mapR,i64],fun p=>0≤p.1∧p.1≤fr.length∧p.2.1=0∧p.2.2.1=G8 rd (B1 (fr.take p.1.toNat)) i∧p.2.2.2.1=many+(B1 (fr.take p.1.toNat)).length,fun p=>fr.length-p.1.toNat,[]⟩
def cAlloc:Con RU:=con [(true,4),one] [i64,inss,ints,ints,i64] [(true,5),one] [i64,i64,i64,aT6,ax6,i64] [false,false,false,false,false,false] (some fun p=>R8 p.2.1=true∧I7 p.2.1=true∧p.2.2.1.length≤8796093022200) fun p=>
 ((A4 ⟨p.1,p.2.1,p.2.2.1,p.2.2.2.1⟩ p.2.2.2.2.1).1.params,(A4 ⟨p.1,p.2.1,p.2.2.1,p.2.2.2.1⟩ p.2.2.2.2.1).1.slots,(A4 ⟨p.1,p.2.1,p.2.2.1,p.2.2.2.1⟩ p.2.2.2.2.1).1.cells,(A4 ⟨p.1,p.2.1,p.2.2.1,p.2.2.2.1⟩ p.2.2.2.2.1).1.code,(A4 ⟨p.1,p.2.1,p.2.2.1,p.2.2.2.1⟩ p.2.2.2.2.1).1.out,(A4 ⟨p.1,p.2.1,p.2.2.1,p.2.2.2.1⟩ p.2.2.2.2.1).2,())
def bO3 (a:Int) (b:List Ins) (c:List Int) (ks:Int):Nat→St RU→Ann RU:=fun k s=>match k with
 |0=>⟨[],[.slot 48,.row 2176],[i64,mapR],fun p=>0≤p.1∧p.1≤b.length∧p.2.1=N6 (b.take p.1.toNat) 0 []∧(b.take p.1.toNat).all (fewX ks)=true,fun p=>b.length-p.1.toNat,[(.seen 2176,0,0,.bool)]⟩
 |1=>⟨[],[],[],fun _=>False,fun _=>0,[]⟩
 |2=>⟨[],[.slot 86,.row 2304],[i64,mapI],fun p=>0≤p.1∧p.1≤a∧p.2.1=Q0 p.1.toNat,fun p=>a.toNat-p.1.toNat,[(.seen 2176,0,0,.bool)]⟩
 |3=>⟨[],[.slot 99,.row 2240,.row 2304,.box 2816 10,.row 900001],[i64,mapP,mapI,i64,aT6],fun p=>0≤p.1∧p.1≤b.length∧runA (A6 a b c) (H8 b) ks b.length (b.take p.1.toNat) 0 (E8 a)=⟨p.2.1,p.2.2.1,p.2.2.2.1,p.2.2.2.2.1⟩,fun p=>b.length-p.1.toNat,[(.box 2816 11,900001,55,.user 1),(.box 2816 12,900002,59,.user 2)]⟩
 |_=>⟨[],[.slot 112,.row 900002],[i64,ax6],fun p=>0≤p.1∧p.1≤c.length∧p.2.1=(c.take p.1.toNat).map (outA (runA (A6 a b c) (H8 b) ks b.length b 0 (E8 a)) ks),fun p=>c.length-p.1.toNat,[]⟩
theorem bO4 (st a0:Int) (a1:List Ins) (a2 a3:List Int) (sp:Spans) (rd:Reads) (ho:Holds) (ce:List (Int×Int)) (op ks oc i many x1 x2:Int) (x3 x4:List Int) (x5:List Ins):vc (EVy ylR (some as3) [(61,cContains)]) (bn3 x4 rd i many) Go.Proofs.Tryd.f83 aW7 (st,a0,a1,a2,a3,sp,rd,ho,ce,op,ks,oc,i,many,x1,x2,x3,x4,x5,())=(
 let e0:Int×Int×List Ins×List Int×List Int×List (Int×Span)×List (Int×List Int)×List (Place×Int)×List (Int×Int)×Int×Int×Int×Int×Int×Unit:=
  ((0:Int),a0,a1,a2,a3,sp,G8 rd (B1 x4) i,ho,ce,op,ks,oc,i,many+(↑(List.length (B1 x4)):Int),());
 let e1:Int:=(↑(List.length x4):Int);
  Small RU (Sigma.mk (Ty.slice (52:Nat) (Ty.user (0:Nat))) a1)→
  Small RU (Sigma.mk (Ty.slice (3:Nat) (Ty.int IntKind.i64)) a2)→
  Small RU (Sigma.mk (Ty.slice (3:Nat) (Ty.int IntKind.i64)) a3)→
  Small RU (Sigma.mk (Ty.slice (3:Nat) (Ty.int IntKind.i64)) x3)→
  Small RU (Sigma.mk (Ty.slice (3:Nat) (Ty.int IntKind.i64)) x4)→
  Small RU (Sigma.mk (Ty.slice (52:Nat) (Ty.user (0:Nat))) x5)→
  (∃ (p:Int×Int×List (Int×List Int)×Int×Unit),
  x4=x4∧
  e1=e1∧
  (0:Int)=p.1∧
  st=p.2.1∧
  a0=a0∧
  a1=a1∧
  a2=a2∧
  a3=a3∧
  op=op∧
  ks=ks∧
  oc=oc∧
  rd=p.2.2.1∧
  sp=sp∧
  ho=ho∧
  ce=ce∧
  i=i∧
  many=p.2.2.2.1∧
  x1=x1∧
  x2=x2∧
  x3=x3∧
  x4=x4∧
  x5=x5∧
  (0:Int)≤p.1∧
  p.1≤e1∧
  p.2.1=(0:Int)∧
  p.2.2.1=G8 rd (B1 (List.take (Int.toNat p.1) x4)) i∧
  p.2.2.2.1=many+(↑(List.length (B1 (List.take (Int.toNat p.1) x4))):Int))∧
  ∀ (p:Int×Int×List (Int×List Int)×Int×Unit),
 let e0_1:Int:=p.2.2.2.1;
 let e1_1:List (Int×List Int):=p.2.2.1;
 let e2:List (Int×List Int):=mput eqI e1_1 (List.getD x4 (Int.toNat p.1) (0:Int)) (getL e1_1 (List.getD x4 (Int.toNat p.1) (0:Int))++[i]);
 let e3:Int:=p.1;
 let e4:Int:=p.2.1;
 let e5:Bool:=decide (e3<e1);
 let e6:Bool:=List.contains (List.take (Int.toNat e3) x4) (List.getD x4 (Int.toNat e3) (0:Int));
 let e7:Int:=e0_1+(1:Int);
  (0:Int)≤e3∧e3≤e1∧e4=(0:Int)∧e1_1=G8 rd (B1 (List.take (Int.toNat e3) x4)) i∧e0_1=many+(↑(List.length (B1 (List.take (Int.toNat e3) x4))):Int)→
  (e5=true→
  ((0:Int)≤e3∧e3<e1)∧
  ((0:Int)≤e3∧e3≤e1)∧
  (e6=true→
  ∃ (p':Int×Int×List (Int×List Int)×Int×Unit),
  x4=x4∧
  e1=e1∧
  IntKind.i64.wrap (e3+(1:Int))=p'.1∧
  e4=p'.2.1∧
  a0=a0∧
  a1=a1∧
  a2=a2∧
  a3=a3∧
  op=op∧
  ks=ks∧
  oc=oc∧
  e1_1=p'.2.2.1∧
  sp=sp∧
  ho=ho∧
  ce=ce∧
  i=i∧
  e0_1=p'.2.2.2.1∧
  x1=x1∧
  x2=x2∧
  x3=x3∧
  x4=x4∧
  x5=x5∧
  ((0:Int)≤p'.1∧
  p'.1≤e1∧
  p'.2.1=(0:Int)∧
  p'.2.2.1=G8 rd (B1 (List.take (Int.toNat p'.1) x4)) i∧
  p'.2.2.2.1=many+(↑(List.length (B1 (List.take (Int.toNat p'.1) x4))):Int))∧
  List.length x4-Int.toNat p'.1<List.length x4-Int.toNat e3)∧
  (e6=false→
  (e4=(0:Int)∧(∀ (n:Int),List.length (getL e1_1 n)≤(1000001:Nat))∧(0:Int)≤e0_1∧e0_1≤(140737488356000:Int))∧
  ((!true)=true→((0:Int),a0,a1,a2,a3,sp,e2,ho,ce,op,ks,oc,i,e7,())=e0)∧
  ((!true)=false→
  ∃ (p':Int×Int×List (Int×List Int)×Int×Unit),
  x4=x4∧
  e1=e1∧
  IntKind.i64.wrap (e3+(1:Int))=p'.1∧
  (0:Int)=p'.2.1∧
  a0=a0∧
  a1=a1∧
  a2=a2∧
  a3=a3∧
  op=op∧
  ks=ks∧
  oc=oc∧
  e2=p'.2.2.1∧
  sp=sp∧
  ho=ho∧
  ce=ce∧
  i=i∧
  e7=p'.2.2.2.1∧
  x1=x1∧
  x2=x2∧
  x3=x3∧
  x4=x4∧
  x5=x5∧
  ((0:Int)≤p'.1∧
  p'.1≤e1∧
  p'.2.1=(0:Int)∧
  p'.2.2.1=G8 rd (B1 (List.take (Int.toNat p'.1) x4)) i∧
  p'.2.2.2.1=many+(↑(List.length (B1 (List.take (Int.toNat p'.1) x4))):Int))∧
  List.length x4-Int.toNat p'.1<List.length x4-Int.toNat e3)))∧
  (e5=false→(e4,a0,a1,a2,a3,sp,e1_1,ho,ce,op,ks,oc,i,e0_1,())=e0)):=by kernel_rfl
theorem bW9 (a:Int) (b:List Ins) (c d:List Int) (ks:Int):vc (EVd [] itAlloc [(41,cCheck),(51,cSpans),(52,cReads),(53,cDo),(54,cSlot)]) (bO3 a b c ks) Go.Proofs.Tryd.f15 cAlloc (a,b,c,d,ks,())=(
 let e0:Int×Int×Int×List RIns×List Place×Int×Unit:=
  ((A4 (VFun.mk a b c d) ks).1.params,(A4 (VFun.mk a b c d) ks).1.slots,(A4 (VFun.mk a b c d) ks).1.cells,(A4 (VFun.mk a b c d) ks).1.code,
  (A4 (VFun.mk a b c d) ks).1.out,(A4 (VFun.mk a b c d) ks).2,());
 let e1:Bool:=decide (ks<(1:Int))||decide (ks >(64:Int));
 let e2:Int:=(↑(List.length b):Int);
 let e3:Ins:=Ins.mk (0:Int) (0:Int) [] [] [];
 let e4:Bool:=E2 (VFun.mk a b c d) !=(0:Int);
 let e5:Int:=(↑(List.length c):Int);
 let e6:Int:=E2 (VFun.mk a b c d);
  Small RU (Sigma.mk (Ty.slice (52:Nat) (Ty.user (0:Nat))) b)→
  Small RU (Sigma.mk (Ty.slice (3:Nat) (Ty.int IntKind.i64)) c)→
  Small RU (Sigma.mk (Ty.slice (3:Nat) (Ty.int IntKind.i64)) d)→
  (e4=true→((0:Int),(0:Int),(0:Int),[],[],e6,())=e0)∧
  (e4=false→
  (e1=true→((0:Int),(0:Int),(0:Int),[],[],(2:Int),())=e0)∧
  (e1=false→
  a≤(4000:Int)∧
  (∃ (p:Int×List (Int×List Int)×Unit),
  a=a∧
  b=b∧
  c=c∧
  d=d∧
  ks=ks∧
  e6=e6∧
  e4=e4∧
  e1=e1∧
  a=a∧
  b=b∧
  c=c∧
  d=d∧
  b=b∧
  e2=e2∧
  (0:Int)=p.1∧
  a=a∧
  b=b∧
  c=c∧
  d=d∧
  (0:Int)=(0:Int)∧
  (0:Int)=(0:Int)∧
  (0:Int)=(0:Int)∧
  A6 a b c=A6 a b c∧
  []=p.2.1∧
  ([]:List (Place×Int))=[]∧
  ([]:List (Int×Int))=[]∧
  a=a∧
  b=b∧
  c=c∧
  d=d∧
  a=a∧
  ks=ks∧
  a=a∧
  (0:Int)≤p.1∧
  p.1≤e2∧
  p.2.1=N6 (List.take (Int.toNat p.1) b) (0:Int) []∧
  List.all (List.take (Int.toNat p.1) b) (fewX ks)=true)∧
  ∀ (p:Int×List (Int×List Int)×Unit),
 let e0_1:Bool:=
  decide ((0:Int)+(↑(List.length (B1 (List.getD b (Int.toNat p.1) e3).from_)):Int) >ks)||decide ((↑(List.length (List.getD b (Int.toNat p.1) e3).to):Int) >ks);
 let e1_1:List (Int×List Int):=p.2.1;
 let e2_1:Bool:=decide (p.1<e2);
 let e3_1:Int:=p.1;
  (0:Int)≤e3_1∧e3_1≤e2∧e1_1=N6 (List.take (Int.toNat e3_1) b) (0:Int) []∧List.all (List.take (Int.toNat e3_1) b) (fewX ks)=true→
  (e2_1=true→
  ((0:Int)≤e3_1∧e3_1<e2)∧
  (∀
  (xs:
  Int×
  Int×
  Int×List Ins×List Int×List Int×List (Int×Span)×List (Int×List Int)×List (Place×Int)×List (Int×Int)×Int×Int×Int×Int×Int×Unit),
 let e0:Int:=xs.2.2.2.2.2.2.2.2.2.2.2.2.2.1;
 let e1:Int×Int×Int×Unit:=xs.2.2.2.2.2.2.2.2.2.2.2.2;
 let e2:List Int:=Option.getD (mget (fun (x y:Int)=>x==y) xs.2.2.2.2.2.2.2.1 xs.1) [];
 let e3:Int×Int×Int×Int×Int×Unit:=xs.2.2.2.2.2.2.2.2.2.2;
 let e4:List (Place×Int)×List (Int×Int)×Int×Int×Int×Int×Int×Unit:=xs.2.2.2.2.2.2.2.2;
 let e5:List (Int×Span)×List (Int×List Int)×List (Place×Int)×List (Int×Int)×Int×Int×Int×Int×Int×Unit:=xs.2.2.2.2.2.2;
 let e6:List Int:=xs.2.2.2.2.2.1;
 let e7:List Int:=xs.2.2.2.2.1;
 let e8:List Ins:=xs.2.2.2.1;
 let e9:Int:=xs.1;
 let e10:
  Int×
  Int×List Ins×List Int×List Int×List (Int×Span)×List (Int×List Int)×List (Place×Int)×List (Int×Int)×Int×Int×Int×Int×Int×Unit:=
  xs.2;
  xs.2.1=(0:Int)∧
  (∀ (n:Int),List.length (getL xs.2.2.2.2.2.2.2.1 n)≤(1000001:Nat))∧
  (0:Int)≤xs.2.2.2.2.2.2.2.2.2.2.2.2.2.2.1∧xs.2.2.2.2.2.2.2.2.2.2.2.2.2.2.1≤(140737488356000:Int)→
  Small RU (Sigma.mk (Ty.slice (52:Nat) (Ty.user (0:Nat))) e8)→
  Small RU (Sigma.mk (Ty.slice (3:Nat) (Ty.int IntKind.i64)) e7)→
  Small RU (Sigma.mk (Ty.slice (3:Nat) (Ty.int IntKind.i64)) e6)→
  e10.1=(0:Int)∧
  (List.length e2+List.length [e0])*(8:Nat)≤(140737488355328:Nat)∧
  e9=e9∧
  (true,(0:Int),e10.2.1,e8,e7,e6,e5.1,mput (fun (x y:Int)=>x==y) e5.2.1 e9 (e2++[e0]),e4.1,e4.2.1,e3.1,e3.2.1,
  e1.1,e0,IntKind.i64.wrap (e1.2.2.1+(1:Int)),())=
  as3.fn xs)∧
  ((0:Int)=(0:Int)∧(∀ (n:Int),List.length (getL e1_1 n)≤(1000000:Nat))∧(0:Int)=(0:Int))∧
  (0:Int)=(0:Int)∧
  (e0_1=true→((0:Int),(0:Int),(0:Int),[],[],(9:Int),())=e0)∧
  (e0_1=false→
  ∃ (p':Int×List (Int×List Int)×Unit),
  a=a∧
  b=b∧
  c=c∧
  d=d∧
  ks=ks∧
  e6=e6∧
  e4=e4∧
  e1=e1∧
  a=a∧
  b=b∧
  c=c∧
  d=d∧
  b=b∧
  e2=e2∧
  IntKind.i64.wrap (e3_1+(1:Int))=p'.1∧
  a=a∧
  b=b∧
  c=c∧
  d=d∧
  (0:Int)=(0:Int)∧
  (0:Int)=(0:Int)∧
  (0:Int)=(0:Int)∧
  A6 a b c=A6 a b c∧
  G8 e1_1 (B1 (List.getD b (Int.toNat e3_1) e3).from_) e3_1=p'.2.1∧
  ([]:List (Place×Int))=[]∧
  ([]:List (Int×Int))=[]∧
  a=a∧
  b=b∧
  c=c∧
  d=d∧
  a=a∧
  ks=ks∧
  a=a∧
  ((0:Int)≤p'.1∧
  p'.1≤e2∧
  p'.2.1=N6 (List.take (Int.toNat p'.1) b) (0:Int) []∧
  List.all (List.take (Int.toNat p'.1) b) (fewX ks)=true)∧
  List.length b-Int.toNat p'.1<List.length b-Int.toNat e3_1))∧
  (e2_1=false→
  (∃ (p:Int×List (Int×Int)×Unit),
  a=a∧
  b=b∧
  c=c∧
  d=d∧
  ks=ks∧
  e6=e6∧
  e4=e4∧
  e1=e1∧
  a=a∧
  b=b∧
  c=c∧
  d=d∧
  b=b∧
  e2=e2∧
  e3_1=e3_1∧
  e2_1=e2_1∧
  a=a∧
  (0:Int)=p.1∧
  a=a∧
  b=b∧
  c=c∧
  d=d∧
  (0:Int)=(0:Int)∧
  (0:Int)=(0:Int)∧
  (0:Int)=(0:Int)∧
  A6 a b c=A6 a b c∧
  e1_1=e1_1∧
  ([]:List (Place×Int))=[]∧
  []=p.2.1∧
  a=a∧
  b=b∧
  c=c∧
  d=d∧a=a∧ks=ks∧a=a∧(0:Int)≤p.1∧p.1≤a∧p.2.1=Q0 (Int.toNat p.1))∧
  ∀ (p:Int×List (Int×Int)×Unit),
 let e0_2:Bool:=decide (p.1<a);
 let e1_2:Int:=p.1;
 let e2_2:List (Int×Int):=p.2.1;
  (0:Int)≤e1_2∧e1_2≤a∧e2_2=Q0 (Int.toNat e1_2)→
  (e0_2=true→
  ∃ (p':Int×List (Int×Int)×Unit),
  a=a∧
  b=b∧
  c=c∧
  d=d∧
  ks=ks∧
  e6=e6∧
  e4=e4∧
  e1=e1∧
  a=a∧
  b=b∧
  c=c∧
  d=d∧
  b=b∧
  e2=e2∧
  e3_1=e3_1∧
  e2_1=e2_1∧
  a=a∧
  IntKind.i64.wrap (e1_2+(1:Int))=p'.1∧
  a=a∧
  b=b∧
  c=c∧
  d=d∧
  (0:Int)=(0:Int)∧
  (0:Int)=(0:Int)∧
  (0:Int)=(0:Int)∧
  A6 a b c=A6 a b c∧
  e1_1=e1_1∧
  ([]:List (Place×Int))=[]∧
  mput (fun (x y:Int)=>x==y) e2_2 e1_2 e1_2=p'.2.1∧
  a=a∧
  b=b∧
  c=c∧
  d=d∧
  a=a∧
  ks=ks∧
  a=a∧
  ((0:Int)≤p'.1∧p'.1≤a∧p'.2.1=Q0 (Int.toNat p'.1))∧
  Int.toNat a-Int.toNat p'.1<Int.toNat a-Int.toNat e1_2)∧
  (e0_2=false→
  (∃ (p:Int×List (Place×Int)×List (Int×Int)×Int×List RIns×Unit),
  a=a∧
  b=b∧
  c=c∧
  d=d∧
  ks=ks∧
  e6=e6∧
  e4=e4∧
  e1=e1∧
  a=a∧
  b=b∧
  c=c∧
  d=d∧
  b=b∧
  e2=e2∧
  e3_1=e3_1∧
  e2_1=e2_1∧
  a=a∧
  e1_2=e1_2∧
  e0_2=e0_2∧
  b=b∧
  e2=e2∧
  (0:Int)=p.1∧
  a=a∧
  b=b∧
  c=c∧
  d=d∧
  (0:Int)=(0:Int)∧
  (0:Int)=(0:Int)∧
  (0:Int)=(0:Int)∧
  A6 a b c=A6 a b c∧
  e1_1=e1_1∧
  []=p.2.1∧
  e2_2=p.2.2.1∧
  a=a∧
  b=b∧
  c=c∧
  d=d∧
  a=a∧
  ks=ks∧
  a=p.2.2.2.1∧
  []=p.2.2.2.2.1∧
  ([]:List Place)=[]∧
  (0:Int)≤p.1∧
  p.1≤e2∧
  runA (A6 a b c) (H8 b) ks e2 (List.take (Int.toNat p.1) b)
  (0:Int) (E8 a)=
  AS.mk p.2.1 p.2.2.1 p.2.2.2.1
  p.2.2.2.2.1)∧
  ∀ (p:Int×List (Place×Int)×List (Int×Int)×Int×List RIns×Unit),
 let e0_3:AS:=AS.mk p.2.1 p.2.2.1 p.2.2.2.1 p.2.2.2.2.1;
 let e1_3:Int:=p.2.2.2.1;
 let e2_3:AS:=
  doOf (A6 a b c) e1_1 ks e2 p.1
  (Ins.mk (List.getD b (Int.toNat p.1) e3).op (List.getD b (Int.toNat p.1) e3).n (List.getD b (Int.toNat p.1) e3).to
  (List.getD b (Int.toNat p.1) e3).from_ (List.getD b (Int.toNat p.1) e3).body)
  e0_3;
 let e3_2:List RIns:=p.2.2.2.2.1;
 let e4_1:Int:=p.1;
 let e5_1:List (Int×Int):=p.2.2.1;
 let e6_1:List (Place×Int):=p.2.1;
 let e7:Bool:=decide (e4_1<e2);
 let e8:List Int:=B1 (List.getD b (Int.toNat e4_1) e3).from_;
 let e9:List Int:=(List.getD b (Int.toNat e4_1) e3).to;
 let e10:Int:=e4_1+(1:Int);
  (0:Int)≤e4_1∧e4_1≤e2∧runA (A6 a b c) (H8 b) ks e2 (List.take (Int.toNat e4_1) b) (0:Int) (E8 a)=e0_3→
  (e7=true→
  ((0:Int)≤e4_1∧e4_1<e2)∧
  (ag7 e9 (List.getD b (Int.toNat e4_1) e3).from_ (List.getD b (Int.toNat e4_1) e3).body=true∧
  List.length (List.getD b (Int.toNat e4_1) e3).from_≤(17592186044400:Nat)∧
  List.length e8≤(64:Nat)∧
  List.length e9≤(64:Nat)∧
  (∀ (n:Int),List.Pairwise (fun (x1 x2:Int)=>x1≤x2) (getL e1_1 n))∧
  ((∀ (k:Nat),
 let e0:Option Int×List Held:=
  K9 (A6 a b c) e1_1 ks e2 (D3 (A6 a b c) e1_1 ks e2 e4_1 e8 e0_3 (List.take k e8)).holds e4_1 e8;
  k<List.length e8→
  (B9 (D3 (A6 a b c) e1_1 ks e2 e4_1 e8 e0_3 (List.take k e8)).holds ks (List.getD e8 k (0:Int))).cell=true→
  e0.1=none→e0.2≠[])∧
  ∀ (k:Nat),
 let e0:Option Int×List Held:=
  K9 (A6 a b c) e1_1 ks e2
  (G7 (A6 a b c) e1_1 ks e2 e4_1 e9 (D3 (A6 a b c) e1_1 ks e2 e4_1 e8 e0_3 e8) (List.take k e9)).holds e10 e9;
  k<List.length e9→e0.1=none→e0.2≠[])∧
  ks≤(64:Int)∧
  (0:Int)≤e4_1∧e4_1≤(1000000:Int)∧(0:Int)≤e1_3∧e1_3≤(100000000:Int)∧List.length e3_2≤(100000000:Nat))∧
  ∃ (p':Int×List (Place×Int)×List (Int×Int)×Int×List RIns×Unit),
  a=a∧
  b=b∧
  c=c∧
  d=d∧
  ks=ks∧
  e6=e6∧
  e4=e4∧
  e1=e1∧
  a=a∧
  b=b∧
  c=c∧
  d=d∧
  b=b∧
  e2=e2∧
  e3_1=e3_1∧
  e2_1=e2_1∧
  a=a∧
  e1_2=e1_2∧
  e0_2=e0_2∧
  b=b∧
  e2=e2∧
  IntKind.i64.wrap e10=p'.1∧
  a=a∧
  b=b∧
  c=c∧
  d=d∧
  (0:Int)=(0:Int)∧
  (0:Int)=(0:Int)∧
  (0:Int)=(0:Int)∧
  A6 a b c=A6 a b c∧
  e1_1=e1_1∧
  e2_3.holds=p'.2.1∧
  e2_3.cells=p'.2.2.1∧
  a=a∧
  b=b∧
  c=c∧
  d=d∧
  a=a∧
  ks=ks∧
  e2_3.ocells=p'.2.2.2.1∧
  e2_3.code=p'.2.2.2.2.1∧
  ([]:List Place)=[]∧
  ((0:Int)≤p'.1∧
  p'.1≤e2∧
  runA (A6 a b c) (H8 b) ks e2
  (List.take (Int.toNat p'.1) b) (0:Int)
  (E8 a)=
  AS.mk p'.2.1 p'.2.2.1 p'.2.2.2.1
  p'.2.2.2.2.1)∧
  List.length b-Int.toNat p'.1<
  List.length b-Int.toNat e4_1)∧
  (e7=false→
  (∃ (p:Int×List Place×Unit),
  a=a∧
  b=b∧
  c=c∧
  d=d∧
  ks=ks∧
  e6=e6∧
  e4=e4∧
  e1=e1∧
  a=a∧
  b=b∧
  c=c∧
  d=d∧
  b=b∧
  e2=e2∧
  e3_1=e3_1∧
  e2_1=e2_1∧
  a=a∧
  e1_2=e1_2∧
  e0_2=e0_2∧
  b=b∧
  e2=e2∧
  e4_1=e4_1∧
  e7=e7∧
  c=c∧
  e5=e5∧
  (0:Int)=p.1∧
  a=a∧
  b=b∧
  c=c∧
  d=d∧
  (0:Int)=(0:Int)∧
  (0:Int)=(0:Int)∧
  (0:Int)=(0:Int)∧
  A6 a b c=A6 a b c∧
  e1_1=e1_1∧
  e6_1=e6_1∧
  e5_1=e5_1∧
  a=a∧
  b=b∧
  c=c∧
  d=d∧
  a=a∧
  ks=ks∧
  e1_3=e1_3∧
  e3_2=e3_2∧
  []=p.2.1∧
  (0:Int)≤p.1∧
  p.1≤e5∧
  p.2.1=
  List.map
  (outA
  (runA (A6 a b c) (H8 b) ks e2 b
  (0:Int) (E8 a))
  ks)
  (List.take (Int.toNat p.1) c))∧
  ∀ (p:Int×List Place×Unit),
 let e0_4:Bool:=
  (B9 e6_1 ks (List.getD c (Int.toNat p.1) (0:Int))).cell==true&&
  ((B9 e6_1 ks (List.getD c (Int.toNat p.1) (0:Int))).n==(-1:Int)&&true);
 let e1_4:List Place:=
  [Place.mk (bif e0_4 then true else (B9 e6_1 ks (List.getD c (Int.toNat p.1) (0:Int))).cell)
  (bif e0_4 then Option.getD (mget (fun (x y:Int)=>x==y) e5_1 (List.getD c (Int.toNat p.1) (0:Int))) (0:Int)
  else (B9 e6_1 ks (List.getD c (Int.toNat p.1) (0:Int))).n)];
 let e2_4:List Place:=p.2.1;
 let e3:Int:=p.1;
 let e4_2:Bool:=decide (e3<e5);
  (0:Int)≤e3∧e3≤e5∧e2_4=List.map (outA (runA (A6 a b c) (H8 b) ks e2 b (0:Int) (E8 a)) ks) (List.take (Int.toNat e3) c)→
  (e4_2=true→
  ((0:Int)≤e3∧e3<e5)∧
  ks≤(64:Int)∧
  (List.length (bif e0_4 then e2_4 else e2_4)+List.length e1_4)*(16:Nat)≤(140737488355328:Nat)∧
  ∃ (p':Int×List Place×Unit),
  (bif e0_4 then a else a)=a∧
  (bif e0_4 then b else b)=b∧
  (bif e0_4 then c else c)=c∧
  (bif e0_4 then d else d)=d∧
  (bif e0_4 then ks else ks)=ks∧
  (bif e0_4 then e6 else e6)=e6∧
  (bif e0_4 then e4 else e4)=e4∧
  (bif e0_4 then e1 else e1)=e1∧
  (bif e0_4 then a else a)=a∧
  (bif e0_4 then b else b)=b∧
  (bif e0_4 then c else c)=c∧
  (bif e0_4 then d else d)=d∧
  (bif e0_4 then b else b)=b∧
  (bif e0_4 then e2 else e2)=e2∧
  (bif e0_4 then e3_1 else e3_1)=e3_1∧
  (bif e0_4 then e2_1 else e2_1)=e2_1∧
  (bif e0_4 then a else a)=a∧
  (bif e0_4 then e1_2 else e1_2)=e1_2∧
  (bif e0_4 then e0_2 else e0_2)=e0_2∧
  (bif e0_4 then b else b)=b∧
  (bif e0_4 then e2 else e2)=e2∧
  (bif e0_4 then e4_1 else e4_1)=e4_1∧
  (bif e0_4 then e7 else e7)=e7∧
  (bif e0_4 then c else c)=c∧
  (bif e0_4 then e5 else e5)=e5∧
  IntKind.i64.wrap ((bif e0_4 then e3 else e3)+(1:Int))=p'.1∧
  (bif e0_4 then a else a)=a∧
  (bif e0_4 then b else b)=b∧
  (bif e0_4 then c else c)=c∧
  (bif e0_4 then d else d)=d∧
  (bif e0_4 then (0:Int) else (0:Int))=(0:Int)∧
  (bif e0_4 then (0:Int) else (0:Int))=(0:Int)∧
  (bif e0_4 then (0:Int) else (0:Int))=(0:Int)∧
  (bif e0_4 then A6 a b c else A6 a b c)=A6 a b c∧
  (bif e0_4 then e1_1 else e1_1)=e1_1∧
  (bif e0_4 then e6_1 else e6_1)=e6_1∧
  (bif e0_4 then e5_1 else e5_1)=e5_1∧
  (bif e0_4 then a else a)=a∧
  (bif e0_4 then b else b)=b∧
  (bif e0_4 then c else c)=c∧
  (bif e0_4 then d else d)=d∧
  (bif e0_4 then a else a)=a∧
  (bif e0_4 then ks else ks)=ks∧
  (bif e0_4 then e1_3 else e1_3)=e1_3∧
  (bif e0_4 then e3_2 else e3_2)=e3_2∧
  (bif e0_4 then e2_4 else e2_4)++e1_4=
  p'.2.1∧
  ((0:Int)≤p'.1∧
  p'.1≤e5∧
  p'.2.1=
  List.map
  (outA
  (runA (A6 a b c)
  (H8 b) ks e2 b (0:Int)
  (E8 a))
  ks)
  (List.take (Int.toNat p'.1)
  c))∧
  List.length c-Int.toNat p'.1<
  List.length c-Int.toNat e3)∧
  (e4_2=false→(a,ks,e1_3,e3_2,e2_4,(0:Int),())=e0))))))):=by kernel_rfl
theorem an9 (l:List Int):(B1 l).Nodup:=by
 have key:∀ (l seen:List Int),(G1 seen l).Nodup∧∀ x∈G1 seen l,x∉seen:=by
  intro l
  induction l with
  |nil=>intro seen;simp [G1]
  |cons y r ih=>
   intro seen
   obtain ⟨h1,h2⟩:=ih (seen++[y])
   simp only [G1]
   cases hc:seen.contains y with
   |true=>exact ⟨h1,fun x hx h=>h2 x hx (by simp [h])⟩
   |false=>
    have hc:y∉seen:=by rw [Bool.eq_false_iff,ne_eq,List.contains_iff_mem] at hc;exact hc
    simp only [cond_false]
    refine ⟨List.nodup_cons.2 ⟨fun h=>h2 y h (by simp),h1⟩,fun x hx h=>?_⟩
    rcases List.mem_cons.1 hx with rfl|hx
    ·exact hc h
    ·exact h2 x hx (by simp [h])
 exact (key l []).1
theorem aW8 (m:Reads) (l:List Int) (x i:Int):G8 m (l++[x]) i=mput eqI (G8 m l i) x (getL (G8 m l i) x++[i]):=by simp [G8]
theorem ah5 (i n:Int):∀ (l:List Int) (m:Reads),l.Nodup→(getL (G8 m l i) n).length≤(getL m n).length+(if n∈l then 1 else 0)
 |[],m,_=>by simp [G8]
 |y::r,m,h=>by
  obtain ⟨h1,h2⟩:=List.nodup_cons.1 h
  have:=ah5 i n r (mput eqI m y (getL m y++[i])) h2
  rw [bf9] at this
  show (getL (G8 (mput eqI m y (getL m y++[i])) r i) n).length≤_
  by_cases hy:y=n
  ·subst hy
   rw [if_pos rfl,if_neg h1] at this
   simp only [cq5,cq0,List.length_nil] at this
   rw [if_pos (by simp)]
   omega
  ·rw [if_neg hy] at this
   have hn:(n∈y::r)↔n∈r:=by simp [Ne.symm hy]
   simp only [hn]
   exact this
theorem aJ4 (n:Int):∀ (l:List Ins) (i:Int) (m:Reads),(getL (N6 l i m) n).length≤(getL m n).length+l.length
 |[],i,m=>by simp [N6]
 |x::r,i,m=>by
  have h1:=aJ4 n r (i+1) (G8 m (B1 x.from_) i)
  have h2:=ah5 i n (B1 x.from_) m (an9 _)
  simp only [N6,cq0]
  split at h2<;>omega
theorem bO5 (st a0:Int) (a1:List Ins) (a2 a3:List Int) (sp:Spans) (rd:Reads) (ho:Holds) (ce:List (Int×Int)) (op ks oc i many x1 x2:Int) (x3 x4:List Int) (x5:List Ins) (hp:st=0∧(∀ n,(getL rd n).length≤1000000)∧many=0):
  vc (EVy ylR (some as3) [(61,cContains)]) (bn3 x4 rd i many) Go.Proofs.Tryd.f83 aW7 (st,a0,a1,a2,a3,sp,rd,ho,ce,op,ks,oc,i,many,x1,x2,x3,x4,x5,()):=by
 rw [bO4 st a0 a1 a2 a3 sp rd ho ce op ks oc i many x1 x2 x3 x4 x5]
 intro e0 e1 _ _ _ _ hs4 _
 have hl4:x4.length≤140737488355328:=hs4.len
 have he0:e0=(0,a0,a1,a2,a3,sp,G8 rd (B1 x4) i,ho,ce,op,ks,oc,i,many+(B1 x4).length,()):=rfl
 clear_value e0
 dsimp only [e1]
 simp only [true_and,and_true]
 refine ⟨⟨(0,0,rd,many,()),rfl,hp.1,rfl,rfl,Int.le_refl _,by dsimp only;omega,rfl,rfl,by simp [B1,G1]⟩,?_⟩
 rintro ⟨j,s0,m,mm,⟨⟩⟩ ⟨h0,h1,h2,h3,h4⟩
 dsimp only at h0 h1 h2 h3 h4 ⊢
 obtain ⟨k,rfl⟩:=cp0 h0
 simp only [co8] at h3 h4 ⊢
 subst h2
 refine ⟨fun hlt=>?_,fun hge=>?_⟩
 ·have hlt:(k:Int)<x4.length:=cp4 hlt
  have hs:=aP0 (x4.take k) (x4.getD k 0)
  rw [←A5 (by omega)] at hs
  have hl:=ah1 (x4.take k)
  rw [cr3] at hl
  refine ⟨⟨h0,hlt⟩,⟨h0,by omega⟩,fun q=>?_,fun q=>⟨⟨rfl,fun n=>?_,by omega,by omega⟩,fun h=>(by cases h),fun _=>?_⟩⟩
  ·rw [q] at hs
   exact ⟨((k+1:Nat),0,m,mm,()),B6 (by omega) hl4,rfl,rfl,rfl,⟨by omega,by dsimp only;omega,rfl,by dsimp only;rw [co8,hs];exact h3,by dsimp only;rw [co8,hs];exact h4⟩,by dsimp only;omega⟩
  ·have h5:=ah5 i n (B1 (x4.take k)) rd (an9 _)
   have h6:=hp.2.1 n
   rw [h3]
   split at h5<;>omega
  ·rw [q,cond_false] at hs
   refine ⟨((k+1:Nat),0,_,_,()),B6 (by omega) hl4,rfl,rfl,rfl,⟨by omega,by dsimp only;omega,rfl,?_,?_⟩,by dsimp only;omega⟩
   ·dsimp only
    rw [co8,hs,aW8,←h3]
   ·dsimp only
    rw [co8,hs,cq5,h4]
    simp only [cq0,List.length_nil]
    omega
 ·have hk:k=x4.length:=by have:¬ (k:Int)<x4.length:=cp3 hge;omega
  subst hk
  rw [cr2] at h3 h4
  rw [he0,h3,h4]
theorem bC8:ItOk itAlloc:=by
 intro f k kY mp h Y' hY
 unfold itAlloc at h
 cases hf:Nat.beq f 83 with
 |false=>rw [hf] at h;cases h
 |true=>
  have hf:=co5 hf
  subst hf
  simp only [Nat.beq_refl,cond_true,List.mem_cons,List.not_mem_nil,or_false,cp6] at h
  obtain ⟨rfl,rfl,rfl⟩:=h
  exact aj5 (E:=EVy ylR (some as3) [(61,cContains)]) (bT3 _ _ _) ⟨Y7 (fun x hx=>by rcases List.mem_cons.1 hx with rfl|hx;exact N0 _;cases hx),fun _ _ _ _ _ h=>(by cases h),fun _ _ _ h=>(by cases h),fun k hk=>by cases hk;exact hY,fun _ _ _ _ h=>(by cases h)⟩ bk2 Go.Proofs.Tryd.func83 (by kernel_rfl)
    (fun (st,a0,a1,a2,a3,sp,rd,ho,ce,op,ks,oc,i,many,x1,x2,x3,x4,x5,())=>bn3 x4 rd i many) (fun (st,a0,a1,a2,a3,sp,rd,ho,ce,op,ks,oc,i,many,x1,x2,x3,x4,x5,()) hp=>bO5 st a0 a1 a2 a3 sp rd ho ce op ks oc i many x1 x2 x3 x4 x5 hp) (by kernel_rfl) rfl
theorem av3:∀ {l:List Ins},I7 l=true→∀ x∈l,au3 x=true
 |[],_,x,hx=>by simp at hx
 |y::r,h,x,hx=>by
  simp only [I7,co7] at h
  rcases List.mem_cons.1 hx with rfl|hx
  ·exact h.1
  ·exact av3 h.2 x hx
theorem bX0 (a:Int) (b:List Ins) (c d:List Int) (ks:Int) (hp:R8 b=true∧I7 b=true∧c.length≤8796093022200):vc (EVd [] itAlloc [(41,cCheck),(51,cSpans),(52,cReads),(53,cDo),(54,cSlot)]) (bO3 a b c ks) Go.Proofs.Tryd.f15 cAlloc (a,b,c,d,ks,()):=by
 rw [bW9 a b c d ks]
 intro e0 e1 e2 e3 e4 e5 e6 _ _ _
 obtain ⟨hp1,hp2,hp3⟩:=hp
 have he0:e0=((A4 ⟨a,b,c,d⟩ ks).1.params,(A4 ⟨a,b,c,d⟩ ks).1.slots,(A4 ⟨a,b,c,d⟩ ks).1.cells,(A4 ⟨a,b,c,d⟩ ks).1.code,(A4 ⟨a,b,c,d⟩ ks).1.out,(A4 ⟨a,b,c,d⟩ ks).2,()):=rfl
 have he6:e6=E2 ⟨a,b,c,d⟩:=rfl
 have he4:e4=(e6 !=0):=rfl
 have he1:e1=(decide (ks<1)||decide (ks >64)):=rfl
 have he3:e3=ins0:=rfl
 have hA:A4 ⟨a,b,c,d⟩ ks=if E2 ⟨a,b,c,d⟩≠0 then (aG6,E2 ⟨a,b,c,d⟩) else if ks<1∨64<ks then (aG6,2) else if b.all (fewX ks)=false then (aG6,9)
   else (⟨a,ks,(runA (A6 a b c) (H8 b) ks b.length b 0 (E8 a)).ocells,(runA (A6 a b c) (H8 b) ks b.length b 0 (E8 a)).code,c.map (outA (runA (A6 a b c) (H8 b) ks b.length b 0 (E8 a)) ks)⟩,0):=rfl
 rw [hA] at he0
 clear hA
 clear_value e0 e1 e3 e4
 subst he3
 have hne:e4=true→((0:Int),(0:Int),(0:Int),([]:List RIns),([]:List Place),e6,())=e0:=fun h=>by
  have:E2 ⟨a,b,c,d⟩≠0:=by rw [he4] at h;simpa [he6] using h
  rw [he0,if_pos this,←he6];rfl
 refine ⟨hne,fun h4=>⟨fun h=>?_,fun h=>?_⟩⟩
 ·have hz:¬ E2 ⟨a,b,c,d⟩≠0:=by rw [he4] at h4;simpa [he6] using h4
  have hk:ks<1∨64<ks:=by rw [he1] at h;simp only [Bool.or_eq_true,cq6] at h;omega
  rw [he0,if_neg hz,if_pos hk];rfl
 have hz:E2 ⟨a,b,c,d⟩=0:=by rw [he4] at h4;simpa [he6] using h4
 have hk:1≤ks∧ks≤64:=by rw [he1] at h;simp only [Bool.or_eq_false_iff,decide_eq_false_iff_not] at h;omega
 have C:=bm0 hz
 rw [if_neg (by rw [hz];simp),if_neg (by omega)] at he0
 clear hne hz he6
 clear_value e6
 clear he4 he1 h4 h
 have hlen:=C.len
 have hpos:=C.pos
 have hfew:=C.few
 dsimp only [e2,e5]
 simp only [true_and,and_true,Bool.cond_self,Bool.and_true,bf6]
 refine ⟨C.few,⟨(0,[],()),rfl,rfl,Int.le_refl _,by dsimp only;omega,rfl,rfl⟩,?_⟩
 rintro ⟨j,rd,⟨⟩⟩ ⟨h0,h1,h2,h3⟩
 dsimp only at h0 h1 h2 h3 ⊢
 obtain ⟨k,rfl⟩:=cp0 h0
 simp only [co8] at h2 h3 ⊢
 refine ⟨fun hlt=>?_,fun hge=>?_⟩
 ·have hlt:(k:Int)<b.length:=cp4 hlt
  have hkc:k<b.length:=by omega
  have hb:∀ x:Bool,fewX ks (b.getD k ins0)=x→b.all (fewX ks)=true→x=true:=fun x h1 h2=>by rw [←h1];exact cr4.1 h2 _ (G5 hkc _)
  have hstepR:N6 (b.take (k+1)) 0 []=G8 rd (B1 (b.getD k ins0).from_) k:=by
   rw [A5 hkc ins0,ay5,cr3,Nat.min_eq_left (by omega),←h2];simp
  have hstepA:fewX ks (b.getD k ins0)=true→(b.take (k+1)).all (fewX ks)=true:=fun h=>ar4 ins0 hkc h3 h
  have hstop:fewX ks (b.getD k ins0)=false→b.all (fewX ks)=false:=fun h=>aV0 ins0 hkc h
  obtain ⟨x,hxe⟩:∃ x,b.getD k ins0=x:=⟨_,rfl⟩
  simp only [hxe] at hb hstepR hstepA hstop ⊢
  have hdec:(decide ((0:Int)+((B1 x.from_).length:Int) >ks)||decide ((x.to.length:Int) >ks))=!fewX ks x:=by
   unfold fewX
   rw [Bool.eq_iff_iff]
   simp only [Bool.or_eq_true,cq6,Bool.not_eq_true',Bool.and_eq_false_iff,decide_eq_false_iff_not]
   omega
  rw [hdec]
  refine ⟨⟨h0,hlt⟩,?_,?_,fun q=>?_,fun q=>?_⟩
  ·rintro ⟨n,st,a0,a1,a2,a3,sp,rd2,ho,ce,op,ks2,oc,i,many,⟨⟩⟩ ⟨q1,q2,q3,q4⟩ _ _ _
   dsimp only at q1 q2 q3 q4 ⊢
   have q5:=q2 n
   refine ⟨q1,?_,?_⟩
   ·show ((getL rd2 n).length+1)*8≤_
    omega
   ·rw [E9 (by omega) (by omega)]
    rfl
  ·intro n
   have:=aJ4 n (b.take k) 0 []
   rw [←h2,cr3] at this
   have hg:(getL ([]:Reads) n).length=0:=rfl
   omega
  ·have q:fewX ks x=false:=by simpa using q
   rw [he0,if_pos (hstop q)];rfl
  ·have q:fewX ks x=true:=by simpa using q
   exact ⟨((k+1:Nat),_,()),B6 hkc (by omega),rfl,⟨by omega,by dsimp only;omega,by dsimp only;rw [co8,hstepR];rfl,by dsimp only;rw [co8];exact hstepA q⟩,by dsimp only;omega⟩
 have hkk:k=b.length:=by have:¬ (k:Int)<b.length:=cp3 hge;omega
 subst hkk
 rw [cr2] at h2 h3
 have hrd:rd=H8 b:=h2
 subst hrd
 clear h2 h0 h1 hge
 rw [if_neg (by rw [h3];simp)] at he0
 refine ⟨⟨(0,[],()),rfl,rfl,Int.le_refl _,hpos,rfl⟩,?_⟩
 rintro ⟨j,ce,⟨⟩⟩ ⟨h0,h1,h2⟩
 dsimp only at h0 h1 h2 ⊢
 obtain ⟨k,rfl⟩:=cp0 h0
 simp only [co8] at h2 ⊢
 subst h2
 refine ⟨fun hlt=>?_,fun hge=>?_⟩
 ·have hlt:(k:Int)<a:=cp4 hlt
  refine ⟨((k+1:Nat),Q0 (k+1),()),?_,(aJ3 k).symm,⟨by omega,by dsimp only;omega,by dsimp only;rw [co8]⟩,by dsimp only;omega⟩
  rw [E9 (by omega) (by omega)];rfl
 have hkk:(k:Int)=a:=by have:¬ (k:Int)<a:=cp3 hge;omega
 have hst:E8 a=⟨[],Q0 k,a,[]⟩:=by
  have:a.toNat=k:=by omega
  simp only [E8,this]
 clear h0 h1 hge
 refine ⟨⟨(0,[],Q0 k,a,[],()),rfl,rfl,rfl,rfl,rfl,Int.le_refl _,by dsimp only;omega,by simp only [Int.toNat_zero,List.take_zero,runA];exact hst⟩,?_⟩
 rintro ⟨j,m,cc,oc,q,⟨⟩⟩ ⟨h0,h1,h2⟩
 dsimp only at h0 h1 h2 ⊢
 obtain ⟨k2,rfl⟩:=cp0 h0
 simp only [co8] at h2 ⊢
 have hL:=aW6 hk.2 (A6 a b c) (H8 b) b.length (b.take k2) 0 (E8 a) (cr4.2 fun x hx=>cr4.1 h3 x (List.mem_of_mem_take hx))
 rw [h2,cr3] at hL
 simp only [E8,List.length_nil] at hL
 refine ⟨fun hlt=>?_,fun hge=>?_⟩
 ·have hlt:(k2:Int)<b.length:=cp4 hlt
  have hkc:k2<b.length:=by omega
  have hF:=(bf8 C h3 (A6 a b c) (H8 b) b.length k2 (by omega)).2 hkc
  rw [h2] at hF
  have hstep:runA (A6 a b c) (H8 b) ks b.length (b.take (k2+1)) 0 (E8 a)=doOf (A6 a b c) (H8 b) ks b.length k2 (b.getD k2 ins0) ⟨m,cc,oc,q⟩:=by
   rw [A5 hkc ins0,as0,cr3,Nat.min_eq_left (by omega),h2]
  have hmem:=G5 hkc ins0
  have hx1:=av3 hp2 _ hmem
  have hx2:=cr4.1 hp1 _ hmem
  have hx3:=cr4.1 h3 _ hmem
  generalize b.getD k2 ins0=x at hF hstep hx1 hx2 hx3 ⊢
  simp only [co7,cq6] at hx2
  simp only [fewX,co7,cq6] at hx3
  refine ⟨⟨h0,hlt⟩,⟨ak0.2 ((N3 x).1 hx1),hx2.1,by omega,by omega,aK8 b,hF,hk.2,by omega,by omega,by omega,by omega,by omega⟩,((k2+1:Nat),_,_,_,_,()),B6 hkc (by omega),rfl,rfl,rfl,rfl,⟨by omega,by dsimp only;omega,?_⟩,by dsimp only;omega⟩
  dsimp only
  rw [co8,hstep]
  rfl
 have hkk2:k2=b.length:=by have:¬ (k2:Int)<b.length:=cp3 hge;omega
 subst hkk2
 rw [cr2] at h2
 rw [h2] at he0 ⊢
 clear h0 h1 hge hL
 dsimp only at he0
 refine ⟨⟨(0,[],()),rfl,rfl,Int.le_refl _,by dsimp only;omega,rfl⟩,?_⟩
 rintro ⟨j,l,⟨⟩⟩ ⟨h0,h1,h4⟩
 dsimp only at h0 h1 h4 ⊢
 obtain ⟨k3,rfl⟩:=cp0 h0
 simp only [co8] at h4 ⊢
 subst h4
 refine ⟨fun hlt=>?_,fun hge=>?_⟩
 ·have hlt:(k3:Int)<c.length:=cp4 hlt
  have hkc:k3<c.length:=by omega
  refine ⟨⟨h0,hlt⟩,hk.2,?_,((k3+1:Nat),_,()),B6 hkc (by omega),rfl,⟨by omega,by dsimp only;omega,?_⟩,by dsimp only;omega⟩
  ·rw [cr5,cr3]
   simp only [cq0,List.length_nil]
   omega
  ·dsimp only
   rw [co8,A5 hkc 0,List.map_append]
   congr 1
   show _=[outA _ ks (c.getD k3 0)]
   generalize c.getD k3 0=n
   unfold outA
   dsimp only
   cases hc:(B9 m ks n).cell with
   |true=>rfl
   |false=>simp only [cond_false];rw [←hc]
 ·have hkk3:k3=c.length:=by have:¬ (k3:Int)<c.length:=cp3 hge;omega
  subst hkk3
  rw [cr2,he0]
theorem aJ5:C8 prog RG 15 cAlloc:=bt1 bC8 (A8 an7 (A8 aI1 (A8 aJ1 (A8 bW7 (A8 av0 B8))))) (fun p=>bO3 p.1 p.2.1 p.2.2.1 p.2.2.2.2.1) (by kernel_rfl) (by kernel_rfl) (by kernel_rfl) fun (a,b,c,d,ks,()) hp=>bX0 a b c d ks hp
def insI (to:Int) (fr:List Int):Ins:=⟨1,0,[to],fr,[]⟩
def J2:VFun:=⟨2,[insI 2 [0,1],insI 3 [2,0],insI 4 [3,1],insI 5 [4,2]],[5],[]⟩
def cIns:Con RU:=con [one,one] [i64,ints] [(true,5)] ax7 [false,false,false,false,false] none fun p=>(1,0,[p.1],p.2.1,[],())
def cFour:Con RU:=con [] [] [(true,4)] ax8 [false,false,false,false] none fun _=>(2,J2.code,[5],[],())
abbrev bO6:List Ty:=[i64,i64,i64,i64,i64,ints,ints,inss]
abbrev own8:List Bool:=[false,false,false,false,false,false,false,false]
def cLoadI:Con RU:=con [one,one] [i64,i64] [(true,8)] bO6 own8 none fun p=>(1,p.1,p.2.1,0,0,[],[],[],())
def cStoreI:Con RU:=con [one,one] [i64,i64] [(true,8)] bO6 own8 none fun p=>(2,p.1,p.2.1,0,0,[],[],[],())
def cDoI:Con RU:=con [one,one] [i64,ints] [(true,8)] bO6 own8 none fun p=>(0,0,0,1,0,[p.1],p.2.1,[],())
def bX1 (x y:RIns):Bool:=(x.kind==y.kind)&&((x.kind==0)&&insB x.ins y.ins||((x.kind !=0)&&(x.slot==y.slot)&&(x.cell==y.cell)))
def W8 (l m:List RIns) (k:Nat):Bool:=(decide (l.length=m.length))&&((l.zip m).take k).all fun p=>bX1 p.1 p.2
def bn4 (l m:List RIns):Bool:=W8 l m l.length
def cSame:Con RU:=con [one,one] [aT6,aT6] [one] [.bool] [false] none fun p=>(bn4 p.1 p.2.1,())
def ch9 (l m:List RIns):Nat→St RU→Ann RU:=fun _ _=>⟨[],[.slot 5,.slot 6],[.bool,i64],fun p=>0≤p.2.1∧p.2.1≤l.length∧p.1=W8 l m p.2.1.toNat,fun p=>l.length-p.2.1.toNat,[]⟩
def cSlotted:Con RU:=con [] [] [one] [.bool] [false] none fun _=>(true,())
end Go.Rg
end
section
namespace Go.Proofs.YtknhkhdbonjhgaaDoor
open Go.ChangeShapes Go.WideShapes Go.ChangeAt Go.RowKit Go.VT
theorem own:ownKnob Tryd.prog.godebug=none:=by kernel_rfl
theorem ci0:laidOutB Tryd.prog=true:=by kernel_rfl
theorem cm2:Tryd.prog.globalNamed "sheafworks/regs.never"=some 1:=by kernel_rfl
theorem bX2:Tryd.prog.globalNamed "sheafworks/regs.nowhere"=some 0:=by kernel_rfl
theorem cm3:(Tryd.prog.globals[1]?).map (·.type)=some 107:=by kernel_rfl
theorem bX3:(Tryd.prog.globals[0]?).map (·.type)=some 59:=by kernel_rfl
abbrev bC9:List (String×DataW Unit):=[("sheafworks/regs.never",Rows.laid_sheafworks_regs_never),("sheafworks/regs.nowhere",Rows.laid_sheafworks_regs_nowhere)]
theorem bX4 (os:Os) (args:Array Value):laidMetH Tryd.prog bC9 ((World.doorLaid Tryd.prog 600 os).forCall (fun _ _=>0) ⟨#[],args,[]⟩).memory:=
 laidMetH_of_parts3 (fuel:=8) (laidMet_of_run' 8 (by kernel_rfl) (by kernel_rfl)) (by kernel_rfl) (by kernel_rfl)
theorem aJ6:Tryd.prog.cellsOf 3=1:=by kernel_rfl
theorem cm4:Tryd.prog.cellsOf 4=1:=by kernel_rfl
theorem ci1:Tryd.prog.cellsOf 22=1:=by kernel_rfl
theorem bO7:Tryd.prog.cellsOf 23=1:=by kernel_rfl
theorem bn5:Tryd.prog.cellsOf 52=5:=by kernel_rfl
theorem ci2:Tryd.prog.cellsOf 59=2:=by kernel_rfl
theorem bX5:Tryd.prog.cellsOf 107=2:=by kernel_rfl
theorem cm5:Tryd.prog.bytesOf 3=8:=by kernel_rfl
theorem ci3:Tryd.prog.bytesOf 52=88:=by kernel_rfl
theorem aP2 {W:World} {g i:Nat} {v:Value} (h:W.cell? ⟨g,i,none⟩=some v):g<W.heap.size:=by
 unfold World.cell? at h
 cases hh:W.heap[g]? with
 |none=>simp [hh] at h
 |some ob=>exact (cq2.1 hh).1
theorem ci4 {W:World} (h:laidMetH Tryd.prog bC9 W):∀ g fs,(g,fs)∈Go.Rg.RG→g<W.heap.size∧∀ i f,fs.cell i=some f→W.cell? ⟨g,i,none⟩=some f:=by
 obtain ⟨ps,⟨g1,t1,cs1,fuel1,p1,q1,hg1,ht1,hv1,hd1,⟨g0,t0,cs0,fuel0,p0,q0,hg0,ht0,hv0,hd0,_⟩,_⟩,_⟩:laidMet Tryd.prog bC9 W:=h
 obtain rfl:=Option.some.inj (cm2.symm.trans hg1)
 obtain rfl:=Option.some.inj (bX2.symm.trans hg0)
 obtain rfl:=Option.some.inj (cm3.symm.trans ht1)
 obtain rfl:=Option.some.inj (bX3.symm.trans ht0)
 obtain ⟨a1,a2,n,hx,hl,hy1,hy2⟩:=trod_struct2 Tryd.underlying107 hd1
 obtain ⟨b1,b2,m,kx,kl,ky1,ky2⟩:=trod_struct2 Tryd.underlying59 hd0
 rw [bX5] at hl
 rw [ci2] at kl
 obtain ⟨u1,eu1,hu1⟩:=aN7 (cs:=cs1.toList) (j:=0) (by omega)
 obtain ⟨u2,eu2,hu2⟩:=aN7 (cs:=cs1.toList) (j:=1) (by omega)
 obtain ⟨w1,ew1,hw1⟩:=aN7 (cs:=cs0.toList) (j:=0) (by omega)
 obtain ⟨w2,ew2,hw2⟩:=aN7 (cs:=cs0.toList) (j:=1) (by omega)
 dsimp only at hy1 hy2 ky1 ky2
 rw [aJ6,hu1] at hy1
 rw [aJ6,hu2] at hy2
 rw [cm4,hw1] at ky1
 rw [aJ6,hw2] at ky2
 obtain ⟨n1,e1,f1,_⟩:=DataW.trod_int Tryd.underlying3 hy1
 obtain ⟨n2,e2,f2,_⟩:=DataW.trod_int Tryd.underlying3 hy2
 obtain ⟨m1,e3,f3⟩:=DataW.trod_bool Tryd.underlying4 ky1
 obtain ⟨m2,e4,f4,_⟩:=DataW.trod_int Tryd.underlying3 ky2
 rw [f1,f2] at hx
 rw [f3,f4] at kx
 simp only [Rows.laid_sheafworks_regs_never,cp6,DataW.agg.injEq,List.cons.injEq,DataW.lit.injEq,Lit.int.injEq,true_and,and_true] at hx
 simp only [Rows.laid_sheafworks_regs_nowhere,cp6,DataW.agg.injEq,List.cons.injEq,DataW.lit.injEq,Lit.int.injEq,Lit.bool.injEq,true_and,and_true] at kx
 simp only [List.cons.injEq,and_true] at e1 e2 e3 e4
 rw [e1,←hx.1.1] at eu1
 rw [e2,←hx.1.2] at eu2
 rw [e3,←kx.1.1] at ew1
 rw [e4,←kx.1.2] at ew2
 have c10:W.cell? ⟨1,0,none⟩=some (.int .i64 0):=by rw [World.var?_cell hg1 hv1 0];simpa using eu1
 have c11:W.cell? ⟨1,1,none⟩=some (.int .i64 (-1)):=by rw [World.var?_cell hg1 hv1 1];simpa using eu2
 have c00:W.cell? ⟨0,0,none⟩=some (.bool true):=by rw [World.var?_cell hg0 hv0 0];simpa using ew1
 have c01:W.cell? ⟨0,1,none⟩=some (.int .i64 (-1)):=by rw [World.var?_cell hg0 hv0 1];simpa using ew2
 intro g fs hm
 simp only [Go.Rg.RG,List.mem_cons,List.not_mem_nil,or_false,cp6] at hm
 rcases hm with ⟨rfl,rfl⟩|⟨rfl,rfl⟩
 ·refine ⟨aP2 c00,fun i f hf=>?_⟩
  match i,hf with
  |0,hf=>cases hf;exact c00
  |1,hf=>cases hf;exact c01
  |_+2,hf=>simp [Glob.cell] at hf
 ·refine ⟨aP2 c10,fun i f hf=>?_⟩
  match i,hf with
  |0,hf=>cases hf;exact c10
  |1,hf=>cases hf;exact c11
  |_+2,hf=>simp [Glob.cell] at hf
def readL:List (TypeId×Ty):=[(3,Go.Rg.i64),(4,.bool),(52,.user 0),(23,Go.Rg.ints),(22,Go.Rg.inss)]
theorem ci5:bs8 Tryd.prog Go.Rg.RU readL:=by
 intro t ty hm
 simp only [readL,List.mem_cons,cp6,List.not_mem_nil,or_false] at hm
 rcases hm with ⟨rfl,rfl⟩|⟨rfl,rfl⟩|⟨rfl,rfl⟩|⟨rfl,rfl⟩|⟨rfl,rfl⟩
 ·exact Tryd.underlying3
 ·exact Tryd.underlying4
 ·refine ⟨_,Tryd.underlying52,bn5,rfl,fun j f ty' hf hty=>?_⟩
  match j,hf,hty with
  |0,hf,hty=>cases hf;cases hty;exact ⟨rfl,aJ6,rfl,by simp [readL]⟩
  |1,hf,hty=>cases hf;cases hty;exact ⟨rfl,aJ6,rfl,by simp [readL]⟩
  |2,hf,hty=>cases hf;cases hty;exact ⟨rfl,bO7,rfl,by simp [readL]⟩
  |3,hf,hty=>cases hf;cases hty;exact ⟨rfl,bO7,rfl,by simp [readL]⟩
  |4,hf,hty=>cases hf;cases hty;exact ⟨rfl,ci1,rfl,by simp [readL]⟩
  |j+5,hf,hty=>simp [Go.Rg.RU] at hty
 ·exact ⟨Tryd.underlying23,aJ6,by rw [aJ6];decide,by rw [cm5];decide,by simp [readL]⟩
 ·exact ⟨Tryd.underlying22,bn5,by rw [bn5];decide,by rw [ci3];decide,by simp [readL]⟩
theorem ci6:bT2 Tryd.prog Go.Rg.RU readL 3 false [Go.Rg.i64]:=.inl ⟨rfl,_,rfl,rfl,by simp [readL]⟩
theorem bX6:bT2 Tryd.prog Go.Rg.RU readL 23 false [Go.Rg.ints]:=.inl ⟨rfl,_,rfl,rfl,by simp [readL]⟩
theorem as4 {H:Type} {enc:TypeId×Value→H} {W W':World} (hb:Below W.heap.size W W'):∀ {ts:List TypeId} {vs:List Value} {ds:List (DataW H)} {ps:List MemPlace},(∀ t∈ts,Tryd.prog.readableRec t=true∧t<Tryd.prog.types.size)→
  DataW.TrodAll enc Tryd.prog W 0 (fun _=>true) true ts vs ds ps→(∀ x∈ps,x.block<W.heap.size)→DataW.TrodAll enc Tryd.prog W' 0 (fun b=>decide (b<W.heap.size)) true ts vs ds ps
 |[],[],[],ps,_,h,_=>h
 |[],_::_,_,_,_,h,_=>h.elim
 |[],[],_::_,_,_,h,_=>h.elim
 |_::_,[],_,_,_,h,_=>h.elim
 |_::_,_::_,[],_,_,h,_=>h.elim
 |t::ts,v::vs,d::ds,ps,ht,h,hlt=>by
  obtain ⟨p,q,h1,h2,rfl⟩:=h
  exact ⟨p,q,Below.trod ci0 (ht t (by simp)).1 (ht t (by simp)).2 h1 hb (fun x hx=>hlt x (by simp [hx])),as4 hb (fun t' h'=>ht t' (by simp [h'])) h2 (fun x hx=>hlt x (by simp [hx])),rfl⟩
theorem bX7 {H:Type} {enc:TypeId×Value→H} {fn:Func} {s:ChangeSpec} (hs:s.vars=[]) {W W':World} {args:Array Value} {ds gs:List (DataW H)} {ag2:List MemPlace}
  (hW:DataW.Whole enc Tryd.prog fn.params.toList s.vars false W args.toList ds gs ag2) (hb:Below W.heap.size W W') (hres:fn.resultTypes=#[4])
  (hfn:s.fn H ds={ results:=[.lit (.bool true)],args:=ds }) (ht:∀ t∈fn.params.toList,Tryd.prog.readableRec t=true∧t<Tryd.prog.types.size):
  s.post enc Tryd.prog fn false true false false W args (.bool true) W':=by
 have hW':=hW
 obtain ⟨p,q,hA,hV,rfl,hfz,hnd⟩:=hW
 rw [hs] at hV
 obtain ⟨rfl,rfl⟩:gs=[]∧q=[]:=by
  cases gs with
  |nil=>exact ⟨rfl,hV⟩
  |cons g r=>exact absurd hV (by intro h;cases h)
 refine ⟨ds,[],p++[],[],p,[],hW',?_,?_,?_,hb.frame _,fun h=>by cases h⟩
 ·rw [List.append_nil,hfn,hres]
  exact trodAll_mk1 (shut_bool Tryd.underlying4 true)
 ·rw [List.append_nil,hfn]
  exact as4 hb ht hA (fun x hx=>hW'.lt x (by simp [hx]))
 ·rw [List.append_nil,hfn,hs]
  rfl
theorem aJ7 {H:Type} {enc:TypeId×Value→H} {P:Program} {w:World} {base:Nat} {sp:Nat→Bool} {held:Bool}:∀ {ts:List TypeId} {vs:List Value} {ds:List (DataW H)} {ps:List MemPlace},DataW.TrodAll enc P w base sp held ts vs ds ps→ds.length=ts.length
 |[],[],[],_,_=>rfl
 |[],_::_,_,_,h=>h.elim
 |[],[],_::_,_,h=>h.elim
 |_::_,[],_,_,h=>h.elim
 |_::_,_::_,[],_,h=>h.elim
 |t::ts,v::vs,d::ds,ps,h=>by
  obtain ⟨p,q,_,h2,_⟩:=h
  simp [aJ7 h2]
end Go.Proofs.YtknhkhdbonjhgaaDoor
end
section
namespace Go.Rg
open Go Go.VT
theorem cm6 (a:Int) (b:List Int):vc (EV []) noL Go.Proofs.Tryd.f46 cIns (a,b,())=(
 let e0:Int×Int×List Int×List Int×List Ins×Unit:=((1:Int),(0:Int),[a],b,[],());
  Small RU (Sigma.mk (Ty.slice (3:Nat) (Ty.int IntKind.i64)) b)→e0=e0):=by kernel_rfl
theorem bX8 (a b:Int):vc (EV []) noL Go.Proofs.Tryd.f47 cLoadI (a,b,())=(
 let e0:Int×Int×Int×Int×Int×List Int×List Int×List Ins×Unit:=((1:Int),a,b,(0:Int),(0:Int),[],[],[],());
  e0=e0):=by kernel_rfl
theorem bO8 (a b:Int):vc (EV []) noL Go.Proofs.Tryd.f48 cStoreI (a,b,())=(
 let e0:Int×Int×Int×Int×Int×List Int×List Int×List Ins×Unit:=((2:Int),a,b,(0:Int),(0:Int),[],[],[],());
  e0=e0):=by kernel_rfl
theorem cm7 (a:Int) (b:List Int):vc (EV [(46,cIns)]) noL Go.Proofs.Tryd.f49 cDoI (a,b,())=(
 let e0:Int×Int×Int×Int×Int×List Int×List Int×List Ins×Unit:=((0:Int),(0:Int),(0:Int),(1:Int),(0:Int),[a],b,[],());
  Small RU (Sigma.mk (Ty.slice (3:Nat) (Ty.int IntKind.i64)) b)→e0=e0):=by kernel_rfl
theorem ci7 (l m:List RIns):vc (EV [(57,cSameIns)]) (ch9 l m) Go.Proofs.Tryd.f45 cSame (l,m,())=(
 let e0:RIns:=RIns.mk (0:Int) (0:Int) (0:Int) ins0;
 let e1:Int:=(↑(List.length l):Int);
 let e2:Int:=(↑(List.length m):Int);
  Small RU (Sigma.mk (Ty.slice (55:Nat) (Ty.user (1:Nat))) l)→
  Small RU (Sigma.mk (Ty.slice (55:Nat) (Ty.user (1:Nat))) m)→
  (∃ (p:Bool×Int×Unit),l=l∧m=m∧false=false∧(e1==e2)=p.1∧(0:Int)=p.2.1∧(0:Int)≤p.2.1∧p.2.1≤e1∧p.1=W8 l m (Int.toNat p.2.1))∧
  ∀ (p:Bool×Int×Unit),
 let e0_1:Bool:=
  (List.getD l (Int.toNat p.2.1) e0).kind==(0:Int)&&
  insB
  (Ins.mk (List.getD l (Int.toNat p.2.1) e0).ins.op (List.getD l (Int.toNat p.2.1) e0).ins.n (List.getD l (Int.toNat p.2.1) e0).ins.to
  (List.getD l (Int.toNat p.2.1) e0).ins.from_ (List.getD l (Int.toNat p.2.1) e0).ins.body)
  (Ins.mk (List.getD m (Int.toNat p.2.1) e0).ins.op (List.getD m (Int.toNat p.2.1) e0).ins.n (List.getD m (Int.toNat p.2.1) e0).ins.to
  (List.getD m (Int.toNat p.2.1) e0).ins.from_ (List.getD m (Int.toNat p.2.1) e0).ins.body);
 let e1_1:Bool:=(List.getD l (Int.toNat p.2.1) e0).kind !=(0:Int)&&(List.getD l (Int.toNat p.2.1) e0).slot==(List.getD m (Int.toNat p.2.1) e0).slot;
 let e2_1:Bool:=p.1&&decide (p.2.1<e1);
 let e3:Int:=p.2.1;
 let e4:Bool:=(List.getD l (Int.toNat e3) e0).kind==(List.getD m (Int.toNat e3) e0).kind;
  (0:Int)≤e3∧e3≤e1∧p.1=W8 l m (Int.toNat e3)→
  (e2_1=true→
  ((0:Int)≤e3∧e3<e1)∧
  ((0:Int)≤e3∧e3<e2)∧
  (e4=true→(0:Int)≤e3∧e3<e1)∧
  (e4=true→((List.getD l (Int.toNat e3) e0).kind==(0:Int))=true→(0:Int)≤e3∧e3<e1)∧
  (e4=true→((List.getD l (Int.toNat e3) e0).kind==(0:Int))=true→(0:Int)≤e3∧e3<e2)∧
  (e4=true→e0_1=false→(0:Int)≤e3∧e3<e1)∧
  (e4=true→e0_1=false→((List.getD l (Int.toNat e3) e0).kind !=(0:Int))=true→(0:Int)≤e3∧e3<e1)∧
  (e4=true→e0_1=false→((List.getD l (Int.toNat e3) e0).kind !=(0:Int))=true→(0:Int)≤e3∧e3<e2)∧
  (e4=true→e0_1=false→e1_1=true→(0:Int)≤e3∧e3<e1)∧
  (e4=true→e0_1=false→e1_1=true→(0:Int)≤e3∧e3<e2)∧
  ∃ (p':Bool×Int×Unit),
  l=l∧
  m=m∧
  false=false∧
  (e4&&(e0_1||e1_1&&(List.getD l (Int.toNat e3) e0).cell==(List.getD m (Int.toNat e3) e0).cell))=p'.1∧
  IntKind.i64.wrap (e3+(1:Int))=p'.2.1∧
  ((0:Int)≤p'.2.1∧p'.2.1≤e1∧p'.1=W8 l m (Int.toNat p'.2.1))∧
  List.length l-Int.toNat p'.2.1<List.length l-Int.toNat e3)∧
  (e2_1=false→(p.1,())=(bn4 l m,()))):=by kernel_rfl
theorem ci8:vc (EV [(46,cIns)]) noL Go.Proofs.Tryd.f50 cFour ()=(
 let e0:List Int×List Int×Unit:=([(5:Int)],[],());
  ((2:Int),
  [Ins.mk (1:Int) (0:Int) [(2:Int)] [(0:Int),(1:Int)] [],Ins.mk (1:Int) (0:Int) [(3:Int)] [(2:Int),(0:Int)] [],
  Ins.mk (1:Int) (0:Int) [(4:Int)] [(3:Int),(1:Int)] [],Ins.mk (1:Int) (0:Int) [(5:Int)] [(4:Int),(2:Int)] []],
  e0)=
  ((2:Int),J2.code,e0)):=by kernel_rfl
theorem bD0:vc (EV [(50,cFour),(33,cLive),(29,cPress),(15,cAlloc),(20,cBack),(17,cCount),(41,cCheck),(22,cValid),(47,cLoadI),(48,cStoreI),(49,cDoI),(45,cSame),(43,cEqualLists),(24,cSameVec)]) noL Go.Proofs.Tryd.f14 cSlotted ()=(
 let e0:VFun:=
  (L7
  (RCode.mk (A4 (VFun.mk (2:Int) J2.code [(5:Int)] []) (2:Int)).1.params (A4 (VFun.mk (2:Int) J2.code [(5:Int)] []) (2:Int)).1.slots
  (A4 (VFun.mk (2:Int) J2.code [(5:Int)] []) (2:Int)).1.cells (A4 (VFun.mk (2:Int) J2.code [(5:Int)] []) (2:Int)).1.code
  (A4 (VFun.mk (2:Int) J2.code [(5:Int)] []) (2:Int)).1.out)).1;
 let e1:Bool:=
  (P8 (VFun.mk (2:Int) J2.code [(5:Int)] [])).2 !=(0:Int)||(W4 (VFun.mk (2:Int) J2.code [(5:Int)] [])).2 !=(0:Int)||
  (A4 (VFun.mk (2:Int) J2.code [(5:Int)] []) (3:Int)).2 !=(0:Int)||
  (A4 (VFun.mk (2:Int) J2.code [(5:Int)] []) (2:Int)).2 !=(0:Int)||
  (A4 (VFun.mk (2:Int) J2.code [(5:Int)] []) (1:Int)).2 !=(9:Int)||
  (L7
  (RCode.mk (A4 (VFun.mk (2:Int) J2.code [(5:Int)] []) (2:Int)).1.params (A4 (VFun.mk (2:Int) J2.code [(5:Int)] []) (2:Int)).1.slots
  (A4 (VFun.mk (2:Int) J2.code [(5:Int)] []) (2:Int)).1.cells (A4 (VFun.mk (2:Int) J2.code [(5:Int)] []) (2:Int)).1.code
  (A4 (VFun.mk (2:Int) J2.code [(5:Int)] []) (2:Int)).1.out)).2 !=
  (0:Int)||
  E2 (VFun.mk (2:Int) J2.code [(5:Int)] []) !=(0:Int)||
  L3
  (RCode.mk (A4 (VFun.mk (2:Int) J2.code [(5:Int)] []) (3:Int)).1.params (A4 (VFun.mk (2:Int) J2.code [(5:Int)] []) (3:Int)).1.slots
  (A4 (VFun.mk (2:Int) J2.code [(5:Int)] []) (3:Int)).1.cells (A4 (VFun.mk (2:Int) J2.code [(5:Int)] []) (3:Int)).1.code
  (A4 (VFun.mk (2:Int) J2.code [(5:Int)] []) (3:Int)).1.out) !=
  (0:Int);
 let e2:Bool:=
  decide
  ((P8 (VFun.mk (2:Int) J2.code [(5:Int)] [])).1=
  [[(0:Int),(1:Int)],[(0:Int),(1:Int),(2:Int)],[(1:Int),(2:Int),(3:Int)],[(2:Int),(4:Int)],[(5:Int)]])&&
  (W4 (VFun.mk (2:Int) J2.code [(5:Int)] [])).1==(3:Int)&&
  bn4 (A4 (VFun.mk (2:Int) J2.code [(5:Int)] []) (3:Int)).1.code
  [RIns.mk (1:Int) (0:Int) (0:Int) (Ins.mk (0:Int) (0:Int) [] [] []),RIns.mk (1:Int) (1:Int) (1:Int) (Ins.mk (0:Int) (0:Int) [] [] []),
  RIns.mk (0:Int) (0:Int) (0:Int) (Ins.mk (1:Int) (0:Int) [(2:Int)] [(0:Int),(1:Int)] []),
  RIns.mk (0:Int) (0:Int) (0:Int) (Ins.mk (1:Int) (0:Int) [(0:Int)] [(2:Int),(0:Int)] []),
  RIns.mk (0:Int) (0:Int) (0:Int) (Ins.mk (1:Int) (0:Int) [(0:Int)] [(0:Int),(1:Int)] []),
  RIns.mk (0:Int) (0:Int) (0:Int) (Ins.mk (1:Int) (0:Int) [(0:Int)] [(0:Int),(2:Int)] [])]&&
  bn4 (A4 (VFun.mk (2:Int) J2.code [(5:Int)] []) (2:Int)).1.code
  [RIns.mk (1:Int) (0:Int) (0:Int) (Ins.mk (0:Int) (0:Int) [] [] []),RIns.mk (1:Int) (1:Int) (1:Int) (Ins.mk (0:Int) (0:Int) [] [] []),
  RIns.mk (0:Int) (0:Int) (0:Int) (Ins.mk (1:Int) (0:Int) [(1:Int)] [(0:Int),(1:Int)] []),
  RIns.mk (0:Int) (0:Int) (0:Int) (Ins.mk (1:Int) (0:Int) [(0:Int)] [(1:Int),(0:Int)] []),RIns.mk (2:Int) (1:Int) (2:Int) (Ins.mk (0:Int) (0:Int) [] [] []),
  RIns.mk (1:Int) (1:Int) (1:Int) (Ins.mk (0:Int) (0:Int) [] [] []),RIns.mk (0:Int) (0:Int) (0:Int) (Ins.mk (1:Int) (0:Int) [(0:Int)] [(0:Int),(1:Int)] []),
  RIns.mk (1:Int) (1:Int) (2:Int) (Ins.mk (0:Int) (0:Int) [] [] []),RIns.mk (0:Int) (0:Int) (0:Int) (Ins.mk (1:Int) (0:Int) [(0:Int)] [(0:Int),(1:Int)] [])]&&
  (A4 (VFun.mk (2:Int) J2.code [(5:Int)] []) (2:Int)).1.slots==(2:Int)&&
  (A4 (VFun.mk (2:Int) J2.code [(5:Int)] []) (2:Int)).1.cells==(3:Int)&&
  (↑(List.length (A4 (VFun.mk (2:Int) J2.code [(5:Int)] []) (2:Int)).1.out):Int)==(1:Int);
 let e3:Int×Int:=
  aG8
  (RCode.mk (A4 (VFun.mk (2:Int) J2.code [(5:Int)] []) (2:Int)).1.params (A4 (VFun.mk (2:Int) J2.code [(5:Int)] []) (2:Int)).1.slots
  (A4 (VFun.mk (2:Int) J2.code [(5:Int)] []) (2:Int)).1.cells (A4 (VFun.mk (2:Int) J2.code [(5:Int)] []) (2:Int)).1.code
  (A4 (VFun.mk (2:Int) J2.code [(5:Int)] []) (2:Int)).1.out);
 let e4:RCode:=(A4 (VFun.mk (2:Int) J2.code [(5:Int)] []) (2:Int)).1;
 let e5:VFun:=VFun.mk (2:Int) J2.code [(5:Int)] [];
 let e6:RCode:=(A4 e5 (3:Int)).1;
  (R8 J2.code=true∧I7 J2.code=true∧List.length [(5:Int)]≤(8796093022200:Nat))∧
  (R8 J2.code=true∧I7 J2.code=true∧List.length [(5:Int)]≤(8796093022200:Nat))∧
  (R8 J2.code=true∧I7 J2.code=true∧List.length [(5:Int)]≤(8796093022200:Nat))∧
  ((-9223372036854775808:Int)≤e4.slots∧e4.slots<(9223372036854775808:Int)∧P9 e4.code=true∧List.length e4.out≤(17592186044400:Nat))∧
  (((P8 e5).2 !=(0:Int)||(W4 e5).2 !=(0:Int)||(A4 e5 (3:Int)).2 !=(0:Int)||(A4 e5 (2:Int)).2 !=(0:Int)||
  (A4 e5 (1:Int)).2 !=(9:Int)||
  (L7 (RCode.mk e4.params e4.slots e4.cells e4.code e4.out)).2 !=(0:Int)||
  E2 e5 !=(0:Int))=
  false→
  (-9223372036854775808:Int)≤e6.slots∧e6.slots<(9223372036854775808:Int)∧P9 e6.code=true∧List.length e6.out≤(17592186044400:Nat))∧
  (e1=true→(false,())=(true,()))∧
  (e1=false→
  (e2=true→(0:Int)≤(0:Int)∧(0:Int)<(↑(List.length e4.out):Int))∧
  (e2&&(false==false&&((↑(0:Nat):Int)==(0:Int)&&true))&&e3.1==(4:Int)&&e3.2==(1:Int)&&
  (decide (e0.params=(2:Int))&&X0 e0.code J2.code&&decide (e0.out=[(5:Int)])&&decide (e0.at_=[])),
  ())=
  (true,()))):=by kernel_rfl
theorem bg0:C8 prog RG 46 cIns:=E5 B8 (fun _=>noL) (by kernel_rfl) (by kernel_rfl) (by kernel_rfl) fun (a,b,()) _=>(cm6 a b).mpr (by intros;rfl)
theorem bn6:C8 prog RG 47 cLoadI:=E5 B8 (fun _=>noL) (by kernel_rfl) (by kernel_rfl) (by kernel_rfl) fun (a,b,()) _=>(bX8 a b).mpr rfl
theorem bg1:C8 prog RG 48 cStoreI:=E5 B8 (fun _=>noL) (by kernel_rfl) (by kernel_rfl) (by kernel_rfl) fun (a,b,()) _=>(bO8 a b).mpr rfl
theorem bO9:C8 prog RG 49 cDoI:=E5 (A8 bg0 B8) (fun _=>noL) (by kernel_rfl) (by kernel_rfl) (by kernel_rfl) fun (a,b,()) _=>(cm7 a b).mpr (by intros;rfl)
theorem bD1:C8 prog RG 50 cFour:=E5 (A8 bg0 B8) (fun _=>noL) (by kernel_rfl) (by kernel_rfl) (by kernel_rfl) fun () _=>ci8.mpr (by intros;rfl)
theorem bn7 {l m:List RIns} {k:Nat} (hl:k<l.length) (h:W8 l m k=true):W8 l m (k+1)=bX1 (l.getD k rins0) (m.getD k rins0):=by
 unfold W8 at h ⊢
 simp only [co7,cq6] at h
 obtain ⟨h1,h2⟩:=h
 have hz:k<(l.zip m).length:=by rw [List.length_zip];omega
 rw [A5 hz (rins0,rins0),List.all_append,h2,decide_eq_true h1]
 simp only [Bool.true_and,List.all_cons,List.all_nil,Bool.and_true]
 have hg:(l.zip m).getD k (rins0,rins0)=(l.getD k rins0,m.getD k rins0):=by
  rw [cp8,co6 hz,cp8,cp8,co6 hl,co6 (by omega)]
  simp [List.getElem_zip]
 rw [hg]
theorem bP0 {l m:List RIns} {k:Nat} (h:W8 l m k=false):bn4 l m=false:=by
 unfold bn4
 rw [Bool.eq_false_iff] at h ⊢
 intro h2
 refine h ?_
 unfold W8 at h2 ⊢
 simp only [co7,cq6,cr4] at h2 ⊢
 refine ⟨h2.1,fun x hx=>h2.2 x ?_⟩
 rw [List.take_of_length_le (by rw [List.length_zip];omega)]
 exact List.mem_of_mem_take hx
theorem bg2 (x:Ins):(⟨x.op,x.n,x.to,x.from_,x.body⟩:Ins)=x:=by cases x;rfl
theorem ci9 (l m:List RIns):vc (EV [(57,cSameIns)]) (ch9 l m) Go.Proofs.Tryd.f45 cSame (l,m,()):=by
 rw [ci7 l m]
 intro e0 e1 e2 hs _
 have hl:l.length≤140737488355328:=hs.len
 have hd:e0=rins0:=rfl
 clear_value e0
 subst hd
 dsimp only [e1,e2]
 simp only [true_and,and_true]
 refine ⟨⟨(W8 l m 0,0,()),?_,rfl,Int.le_refl _,by dsimp only;omega,rfl⟩,?_⟩
 ·dsimp only [W8]
  rw [List.take_zero,List.all_nil,Bool.and_true,Bool.eq_iff_iff]
  simp only [beq_iff_eq,cq6]
  omega
 rintro ⟨g,i,⟨⟩⟩ ⟨h0,h1,h2⟩
 dsimp only at h0 h1 h2 ⊢
 obtain ⟨k,rfl⟩:=cp0 h0
 simp only [co8] at h2 ⊢
 subst h2
 refine ⟨fun h=>?_,fun h=>?_⟩
 ·simp only [co7,cq6] at h
  obtain ⟨hg,hlt⟩:=h
  have hsucc:=bn7 (by omega) hg
  have hlm:l.length=m.length:=by
   unfold W8 at hg
   simp only [co7,cq6] at hg
   exact hg.1
  have hm:(k:Int)<m.length:=by omega
  refine ⟨⟨h0,hlt⟩,⟨h0,hm⟩,fun _=>⟨h0,hlt⟩,fun _ _=>⟨h0,hlt⟩,fun _ _=>⟨h0,hm⟩,fun _ _=>⟨h0,hlt⟩,fun _ _ _=>⟨h0,hlt⟩,fun _ _ _=>⟨h0,hm⟩,fun _ _ _=>⟨h0,hlt⟩,fun _ _ _=>⟨h0,hm⟩,(bX1 (l.getD k rins0) (m.getD k rins0),((k+1:Nat):Int),()),by dsimp only [bX1];rw [bg2,bg2],B6 (by omega) hl,⟨by dsimp only;omega,by dsimp only;omega,?_⟩,by dsimp only;omega⟩
  dsimp only
  rw [co8,hsucc]
 ·have key:W8 l m k=bn4 l m:=by
   cases hg:W8 l m k with
   |false=>exact (bP0 hg).symm
   |true=>
    rw [hg] at h
    simp only [Bool.true_and,decide_eq_false_iff_not] at h
    have hk:k=l.length:=by omega
    subst hk
    exact hg.symm
  rw [key]
theorem bD2:C8 prog RG 45 cSame:=E5 (A8 aT9 B8) (fun p=>ch9 p.1 p.2.1) (by kernel_rfl) (by kernel_rfl) (by kernel_rfl) fun (l,m,()) _=>ci9 l m
theorem aW9:C8 prog RG 14 cSlotted:=E5 (A8 bD1 (A8 aO6 (A8 bm4 (A8 aJ5 (A8 bB7 (A8 bl2 (A8 an7 (A8 aI8 (A8 bn6 (A8 bg1 (A8 bO9 (A8 bD2 (A8 ay8 (A8 aU0 B8)))))))))))))) (fun _=>noL) (by kernel_rfl) (by kernel_rfl) (by kernel_rfl) fun () _=>bD0.mpr (by
 refine ⟨by decide+kernel,by decide+kernel,by decide+kernel,by decide+kernel,fun _=>by decide+kernel,by decide+kernel,fun _=>⟨by decide+kernel,by decide+kernel⟩⟩)
def G2 (n b:Int):Int:=if b<1 then 0 else n % b
def cTurn:Con RU:=con [one,one] [i64,i64] [one] [i64] [false] (some fun p=>p.2.1≤4611686018427387904) fun p=>(G2 p.1 p.2.1,())
def X1 (l:List Int) (n:Int):Int:=if l=[] then 0 else l.getD (n % l.length).toNat 0
def cNth:Con RU:=con [one,one] [ints,i64] [one] [i64] [false] none fun p=>(X1 p.1 p.2.1,())
def cReadsL:Con RU:=con [(true,5)] ax7 [one] [ints] [false] (some fun p=>p.2.2.2.1.length≤17592186044400) fun p=>(C6 [] p.2.2.2.1,())
def iota (n:Nat):List Int:=(List.range n).map Int.ofNat
def bX9 (there:List Int) (c:Int) (k:Nat):Int:=X1 there (IntKind.i64.wrap (IntKind.i64.wrap (Int.tdiv c (1+5*(k:Int)))+k))
def N8 (there:List Int) (c:Int) (n:Nat):List Int:=(List.range n).map (bX9 there c)
def ah6 (there:List Int) (b c:Int):List Int:=if there=[] then [] else N8 there c (G2 b 4).toNat
def toK (p count:Int) (k:Nat):Int:=p+((count+k)*7+5) % 97
def P7 (p count:Int) (n:Nat):List Int:=(List.range n).map (toK p count)
def toN (d:Int):Nat:=1+(G2 d 5).toNat / 4
abbrev BS:=List Ins×List Int×Int
def bY0 (p:Int) (l:List Int) (i:Nat) (s:BS):BS:=
 (s.1++[⟨G2 (l.getD i 0) 15,G2 (l.getD i 0) 12,P7 p s.2.2 (toN (l.getD (i+3) 0)),ah6 s.2.1 (l.getD (i+1) 0) (l.getD (i+2) 0),[]⟩],
  s.2.1++P7 p s.2.2 (toN (l.getD (i+3) 0)),s.2.2+toN (l.getD (i+3) 0))
def parB (l:List Int):Int:=G2 (X1 l 0) 4
def runB (l:List Int):Nat→BS
 |0=>([],iota (parB l).toNat,0)
 |j+1=>bY0 (parB l) l (4*j+1) (runB l j)
def goB (l:List Int) (m:Int) (j:Nat):Bool:=decide (4*j+4<l.length)&&decide ((j:Int)<m)&&decide ((runB l j).2.2<90)
def endB (l:List Int) (m:Int):Nat:=((List.range 91).find? fun j=>!goB l m j).getD 0
def outB (there:List Int):List Int:=if there=[] then [] else [X1 there (there.length-1),X1 there (there.length-3)]
def C4 (l:List Int) (m:Int):VFun:=⟨parB l,(runB l (endB l m)).1,outB (runB l (endB l m)).2.1,[]⟩
def cBuilt:Con RU:=con [one,one] [ints,i64] [(true,4)] ax8 [false,false,false,false] none fun p=>(parB p.1,(C4 p.1 p.2.1).code,(C4 p.1 p.2.1).out,[],())
def bP1 (l:List Int) (m:Int):Nat→St RU→Ann RU:=fun n s=>match n with
 |0=>⟨[6],[.slot 7,.row 1216],[i64,ints],fun p=>0≤p.1∧p.1≤parB l∧p.2.1=iota p.1.toNat,fun p=>(parB l).toNat-p.1.toNat,[]⟩
 |1=>⟨[6],[.slot 8,.slot 9,.row 1216,.row 900001],[i64,i64,ints,inss],fun p=>∃ j:Nat,p.2.1=4*j+1∧j≤90∧(∀ i,i<j→goB l m i=true)∧(p.2.2.2.1,p.2.2.1,p.1)=runB l j,fun p=>400-p.2.1.toNat,[(.box 320 1,900001,52,.user 0)]⟩
 |2=>⟨[],[.slot 11,.row 900002],[i64,ints],fun p=>0≤p.1∧p.1≤G2 (l.getD ((s.intAt 9).toNat+1) 0) 4∧p.2.1=N8 (s.rowInts 1216) (l.getD ((s.intAt 9).toNat+2) 0) p.1.toNat∧(s.rowInts 1216=[]→p.1=0),fun p=>4-p.1.toNat,[(.box 640 3,900002,3,i64)]⟩
 |3=>⟨[],[.slot 12,.slot 8,.row 900003],[i64,i64,ints],fun p=>0≤p.1∧p.1≤toN (l.getD ((s.intAt 9).toNat+3) 0)∧p.2.1=s.intAt 8+p.1∧p.2.2.1=P7 (parB l) (s.intAt 8) p.1.toNat,fun p=>4-p.1.toNat,[(.box 640 2,900003,3,i64)]⟩
 |_=>⟨[],[.slot 14,.row 900004],[i64,ints],fun p=>0≤p.1∧p.1≤2∧p.2.1=(outB (s.rowInts 1216)).take p.1.toNat,fun p=>2-p.1.toNat,[(.box 320 2,900004,3,i64)]⟩
def N9 (l:List Ins):Int:=l.foldl (fun k x=>max (max k ((C6 [] x.from_).length:Int)) (x.to.length:Int)) 1
def O0 (f:VFun) (n more:Int):Int:=N9 f.code+G2 n more
def cSlots:Con RU:=con [(true,4),one,one] [i64,inss,ints,ints,i64,i64] [one] [i64] [false] (some fun p=>R8 p.2.1=true∧p.2.2.2.2.2.1≤1000) fun p=>(O0 ⟨p.1,p.2.1,p.2.2.1,p.2.2.2.1⟩ p.2.2.2.2.1 p.2.2.2.2.2.1,())
def bP2 (l:List Ins):Nat→St RU→Ann RU:=fun _ _=>⟨[],[.slot 7,.slot 8],[i64,i64],fun p=>0≤p.2.1∧p.2.1≤l.length∧p.1=N9 (l.take p.2.1.toNat),fun p=>l.length-p.2.1.toNat,[]⟩
theorem cj0 (n b:Int):vc (EV []) noL Go.Proofs.Tryd.f65 cTurn (n,b,())=(
 let e0:Bool:=decide (b<(1:Int));
 let e1:Bool:=decide (Int.tmod n b<(0:Int));
 let e2:Int×Unit:=(G2 n b,());
  (e0=true→((0:Int),())=e2)∧(e0=false→b≠(0:Int)∧(e1=true→(IntKind.i64.wrap (Int.tmod n b+b),())=e2)∧(e1=false→(Int.tmod n b,())=e2))):=by kernel_rfl
theorem cm8 (l:List Int) (n:Int):vc (EV [(65,cTurn)]) noL Go.Proofs.Tryd.f66 cNth (l,n,())=(
 let e0:Int:=(↑(List.length l):Int);
  Small RU (Sigma.mk (Ty.slice (3:Nat) (Ty.int IntKind.i64)) l)→
  ((e0==(0:Int))=true→((0:Int),())=(X1 l n,()))∧
  ((e0==(0:Int))=false→e0≤(4611686018427387904:Int)∧((0:Int)≤G2 n e0∧G2 n e0<e0)∧(List.getD l (Int.toNat (G2 n e0)) (0:Int),())=(X1 l n,()))):=by kernel_rfl
theorem bP3 (o n:Int) (t f:List Int) (b:List Ins):vc (EV [(35,cUnion)]) noL Go.Proofs.Tryd.f36 cReadsL (o,n,t,f,b,())=(Small RU (Sigma.mk (Ty.slice (3:Nat) (Ty.int IntKind.i64)) t)→
 Small RU (Sigma.mk (Ty.slice (3:Nat) (Ty.int IntKind.i64)) f)→
 Small RU (Sigma.mk (Ty.slice (52:Nat) (Ty.user (0:Nat))) b)→List.length ([]:List Int)+List.length f≤(17592186044400:Nat)∧(C6 [] f,())=(C6 [] f,())):=by kernel_rfl
theorem bY1 (a:Int) (b:List Ins) (c d:List Int) (n k:Int):vc (EV [(36,cReadsL),(65,cTurn)]) (bP2 b) Go.Proofs.Tryd.f27 cSlots (a,b,c,d,n,k,())=(
 let e0:Ins:=Ins.mk (0:Int) (0:Int) [] [] [];
  Small RU (Sigma.mk (Ty.slice (52:Nat) (Ty.user (0:Nat))) b)→
  Small RU (Sigma.mk (Ty.slice (3:Nat) (Ty.int IntKind.i64)) c)→
  Small RU (Sigma.mk (Ty.slice (3:Nat) (Ty.int IntKind.i64)) d)→
  (∃ (p:Int×Int×Unit),
  a=a∧
  b=b∧
  c=c∧
  d=d∧
  n=n∧
  k=k∧
  (0:Int)=(0:Int)∧
  (1:Int)=p.1∧
  (0:Int)=p.2.1∧a=a∧b=b∧c=c∧d=d∧(0:Int)≤p.2.1∧p.2.1≤(↑(List.length b):Int)∧p.1=N9 (List.take (Int.toNat p.2.1) b))∧
  ∀ (p:Int×Int×Unit),
 let e0_1:Bool:=decide (p.2.1<(↑(List.length b):Int));
 let e1:Int:=p.2.1;
  (0:Int)≤e1∧e1≤(↑(List.length b):Int)∧p.1=N9 (List.take (Int.toNat e1) b)→
  (e0_1=true→
  ((0:Int)≤e1∧e1<(↑(List.length b):Int))∧
  List.length (List.getD b (Int.toNat e1) e0).from_≤(17592186044400:Nat)∧
  ((0:Int)≤e1∧e1<(↑(List.length b):Int))∧
  ∃ (p':Int×Int×Unit),
  a=a∧
  b=b∧
  c=c∧
  d=d∧
  n=n∧
  k=k∧
  (0:Int)=(0:Int)∧
  max (max p.1 (↑(List.length (C6 [] (List.getD b (Int.toNat e1) e0).from_)):Int)) (↑(List.length (List.getD b (Int.toNat e1) e0).to):Int)=p'.1∧
  IntKind.i64.wrap (e1+(1:Int))=p'.2.1∧
  a=a∧
  b=b∧
  c=c∧
  d=d∧
  ((0:Int)≤p'.2.1∧p'.2.1≤(↑(List.length b):Int)∧p'.1=N9 (List.take (Int.toNat p'.2.1) b))∧
  List.length b-Int.toNat p'.2.1<List.length b-Int.toNat e1)∧
  (e0_1=false→k≤(4611686018427387904:Int)∧(IntKind.i64.wrap (p.1+G2 n k),())=(O0 (VFun.mk a b c d) n k,()))):=by kernel_rfl
theorem bY2 (l:List Int) (m:Int):vc (EV [(65,cTurn),(66,cNth)]) (bP1 l m) Go.Proofs.Tryd.f25 cBuilt (l,m,())=(
 let e0:Int:=G2 (X1 l (0:Int)) (4:Int);
 let e1:Int:=(↑(List.length l):Int);
  Small RU (Sigma.mk (Ty.slice (3:Nat) (Ty.int IntKind.i64)) l)→
  (4:Int)≤(4611686018427387904:Int)∧
  (∃ (p:Int×List Int×Unit),l=l∧m=m∧(0:Int)=p.1∧(0:Int)=(0:Int)∧e0=e0∧[]=p.2.1∧(0:Int)≤p.1∧p.1≤parB l∧p.2.1=iota (Int.toNat p.1))∧
  ∀ (p:Int×List Int×Unit),
 let e0_1:Bool:=decide (p.1<e0);
 let e1_1:Int:=p.1;
 let e2:List Int:=p.2.1;
  (0:Int)≤e1_1∧e1_1≤parB l∧e2=iota (Int.toNat e1_1)→
  (e0_1=true→
  (List.length e2+List.length [e1_1])*(8:Nat)≤(140737488355328:Nat)∧
  ∃ (p':Int×List Int×Unit),
  l=l∧
  m=m∧
  IntKind.i64.wrap (e1_1+(1:Int))=p'.1∧
  (0:Int)=(0:Int)∧
  e0=e0∧
  e2++[e1_1]=p'.2.1∧
  ((0:Int)≤p'.1∧p'.1≤parB l∧p'.2.1=iota (Int.toNat p'.1))∧Int.toNat (parB l)-Int.toNat p'.1<Int.toNat (parB l)-Int.toNat e1_1)∧
  (e0_1=false→
  (∃ (p:Int×Int×List Int×List Ins×Unit),
  l=l∧
  m=m∧
  e1_1=e1_1∧
  e0_1=e0_1∧
  (0:Int)=p.1∧
  (1:Int)=p.2.1∧
  (0:Int)=(0:Int)∧
  e0=e0∧
  e2=p.2.2.1∧
  []=p.2.2.2.1∧
  ∃ (j:Nat),
  p.2.1=(4:Int)*(↑j:Int)+(1:Int)∧
  j≤(90:Nat)∧(∀ (i:Nat),i<j→goB l m i=true)∧(p.2.2.2.1,p.2.2.1,p.1)=runB l j)∧
  ∀ (p:Int×Int×List Int×List Ins×Unit),
 let e0_2:Bool:=decide (IntKind.i64.wrap (p.2.1+(3:Int))<e1)&&decide ((↑(List.length p.2.2.2.1):Int)<m)&&decide (p.1<(90:Int));
 let e1_2:List Int:=p.2.2.1;
 let e2:List Ins:=p.2.2.2.1;
 let e3:Int:=p.2.1;
 let e4:Bool:=decide ((↑(List.length e1_2):Int) >(0:Int));
 let e5:Int:=p.1;
 let e6:Int:=G2 (List.getD l (Int.toNat (IntKind.i64.wrap (e3+(1:Int)))) (0:Int)) (4:Int);
 let e7:Int:=G2 (List.getD l (Int.toNat e3) (0:Int)) (12:Int);
 let e8:Int:=G2 (List.getD l (Int.toNat e3) (0:Int)) (15:Int);
 let e9:Int:=IntKind.i64.wrap (e3+(3:Int));
 let e10:Int:=IntKind.i64.wrap (e3+(2:Int));
 let e11:Int:=IntKind.i64.wrap ((↑(List.length e1_2):Int)-(1:Int));
 let e12:Int:=IntKind.i64.wrap (e3+(1:Int));
  (∃ (j:Nat),e3=(4:Int)*(↑j:Int)+(1:Int)∧j≤(90:Nat)∧(∀ (i:Nat),i<j→goB l m i=true)∧(e2,e1_2,e5)=runB l j)→
  (e0_2=true→
  ((0:Int)≤e3∧e3<e1)∧
  (15:Int)≤(4611686018427387904:Int)∧
  ((0:Int)≤e3∧e3<e1)∧
  (12:Int)≤(4611686018427387904:Int)∧
  (∃ (p:Int×List Int×Unit),
  l=l∧
  m=m∧
  e1_1=e1_1∧
  e0_1=e0_1∧
  e5=e5∧
  e3=e3∧
  e0_2=e0_2∧
  (0:Int)=p.1∧
  (0:Int)=(0:Int)∧
  e0=e0∧
  e1_2=e1_2∧
  e2=e2∧
  e8=e8∧
  e7=e7∧
  []=p.2.1∧
  (0:Int)≤p.1∧
  p.1≤G2 (List.getD l (Int.toNat e3+(1:Nat)) (0:Int)) (4:Int)∧
  p.2.1=N8 e1_2 (List.getD l (Int.toNat e3+(2:Nat)) (0:Int)) (Int.toNat p.1)∧(e1_2=[]→p.1=(0:Int)))∧
  ∀ (p:Int×List Int×Unit),
 let e0_3:Bool:=decide (p.1<e6)&&e4;
 let e1_3:List Int:=
  [X1 e1_2
  (IntKind.i64.wrap
  (IntKind.i64.wrap
  (Int.tdiv (List.getD l (Int.toNat e10) (0:Int)) (IntKind.i64.wrap ((1:Int)+IntKind.i64.wrap ((5:Int)*p.1))))+
  p.1))];
 let e2_1:List Int:=p.2.1;
 let e3_1:Int:=p.1;
 let e4:Int:=G2 (List.getD l (Int.toNat e3+(1:Nat)) (0:Int)) (4:Int);
 let e5_1:Int:=List.getD l (Int.toNat e3+(2:Nat)) (0:Int);
  (0:Int)≤e3_1∧e3_1≤e4∧e2_1=N8 e1_2 e5_1 (Int.toNat e3_1)∧(e1_2=[]→e3_1=(0:Int))→
  ((0:Int)≤e12∧e12<e1)∧
  (4:Int)≤(4611686018427387904:Int)∧
  (e0_3=true→
  ((0:Int)≤e10∧e10<e1)∧
  IntKind.i64.wrap ((1:Int)+IntKind.i64.wrap ((5:Int)*e3_1))≠(0:Int)∧
  (List.length e2_1+List.length e1_3)*(8:Nat)≤(140737488355328:Nat)∧
  ∃ (p':Int×List Int×Unit),
  l=l∧
  m=m∧
  e1_1=e1_1∧
  e0_1=e0_1∧
  e5=e5∧
  e3=e3∧
  e0_2=e0_2∧
  IntKind.i64.wrap (e3_1+(1:Int))=p'.1∧
  (0:Int)=(0:Int)∧
  e0=e0∧
  e1_2=e1_2∧
  e2=e2∧
  e8=e8∧
  e7=e7∧
  e2_1++e1_3=p'.2.1∧
  ((0:Int)≤p'.1∧
  p'.1≤e4∧p'.2.1=N8 e1_2 e5_1 (Int.toNat p'.1)∧(e1_2=[]→p'.1=(0:Int)))∧
  (4:Nat)-Int.toNat p'.1<(4:Nat)-Int.toNat e3_1)∧
  (e0_3=false→
  (∃ (p:Int×Int×List Int×Unit),
  l=l∧
  m=m∧
  e1_1=e1_1∧
  e0_1=e0_1∧
  e3=e3∧
  e0_2=e0_2∧
  e3_1=e3_1∧
  e0_3=e0_3∧
  (0:Int)=p.1∧
  e5=p.2.1∧
  (0:Int)=(0:Int)∧
  e0=e0∧
  e1_2=e1_2∧
  e2=e2∧
  e8=e8∧
  e7=e7∧
  e2_1=e2_1∧
  []=p.2.2.1∧
  (0:Int)≤p.1∧
  p.1≤(↑(toN (List.getD l (Int.toNat e3+(3:Nat)) (0:Int))):Int)∧
  p.2.1=e5+p.1∧p.2.2.1=P7 (parB l) e5 (Int.toNat p.1))∧
  ∀ (p:Int×Int×List Int×Unit),
 let e0_4:Bool:=
  decide
  (p.1<
  IntKind.i64.wrap ((1:Int)+IntKind.i64.wrap (Int.tdiv (G2 (List.getD l (Int.toNat e9) (0:Int)) (5:Int)) (4:Int))));
 let e1_4:List Int:=p.2.2.1;
 let e2_2:List Int:=
  [IntKind.i64.wrap (e0+Int.tmod (IntKind.i64.wrap (IntKind.i64.wrap (p.2.1*(7:Int))+(5:Int))) (97:Int))];
 let e3_2:Int:=p.1;
 let e4:Int:=p.2.1;
 let e5_2:Int:=(↑(toN (List.getD l (Int.toNat e3+(3:Nat)) (0:Int))):Int);
  (0:Int)≤e3_2∧e3_2≤e5_2∧e4=e5+e3_2∧e1_4=P7 (parB l) e5 (Int.toNat e3_2)→
  ((0:Int)≤e9∧e9<e1)∧
  (5:Int)≤(4611686018427387904:Int)∧
  (4:Int)≠(0:Int)∧
  (e0_4=true→
  (97:Int)≠(0:Int)∧
  (List.length e1_4+List.length e2_2)*(8:Nat)≤(140737488355328:Nat)∧
  ∃ (p':Int×Int×List Int×Unit),
  l=l∧
  m=m∧
  e1_1=e1_1∧
  e0_1=e0_1∧
  e3=e3∧
  e0_2=e0_2∧
  e3_1=e3_1∧
  e0_3=e0_3∧
  IntKind.i64.wrap (e3_2+(1:Int))=p'.1∧
  IntKind.i64.wrap (e4+(1:Int))=p'.2.1∧
  (0:Int)=(0:Int)∧
  e0=e0∧
  e1_2=e1_2∧
  e2=e2∧
  e8=e8∧
  e7=e7∧
  e2_1=e2_1∧
  e1_4++e2_2=p'.2.2.1∧
  ((0:Int)≤p'.1∧
  p'.1≤e5_2∧
  p'.2.1=e5+p'.1∧p'.2.2.1=P7 (parB l) e5 (Int.toNat p'.1))∧
  (4:Nat)-Int.toNat p'.1<(4:Nat)-Int.toNat e3_2)∧
  (e0_4=false→
  (List.length e1_2+List.length e1_4)*(8:Nat)≤(140737488355328:Nat)∧
  (List.length e2+List.length [Ins.mk e8 e7 e1_4 e2_1 []])*(88:Nat)≤(140737488355328:Nat)∧
  ∃ (p':Int×Int×List Int×List Ins×Unit),
  l=l∧
  m=m∧
  e1_1=e1_1∧
  e0_1=e0_1∧
  e4=p'.1∧
  IntKind.i64.wrap (e3+(4:Int))=p'.2.1∧
  (0:Int)=(0:Int)∧
  e0=e0∧
  e1_2++e1_4=p'.2.2.1∧
  e2++[Ins.mk e8 e7 e1_4 e2_1 []]=p'.2.2.2.1∧
  (∃ (j:Nat),
  p'.2.1=(4:Int)*(↑j:Int)+(1:Int)∧
  j≤(90:Nat)∧
  (∀ (i:Nat),i<j→goB l m i=true)∧(p'.2.2.2.1,p'.2.2.1,p'.1)=runB l j)∧
  (400:Nat)-Int.toNat p'.2.1<(400:Nat)-Int.toNat e3)))∧
  (e0_2=false→
  (∃ (p:Int×List Int×Unit),
  l=l∧
  m=m∧
  e1_1=e1_1∧
  e0_1=e0_1∧
  e5=e5∧
  e3=e3∧
  e0_2=e0_2∧
  (0:Int)=p.1∧
  (0:Int)=(0:Int)∧
  e0=e0∧e1_2=e1_2∧e2=e2∧[]=p.2.1∧(0:Int)≤p.1∧p.1≤(2:Int)∧p.2.1=List.take (Int.toNat p.1) (outB e1_2))∧
  ∀ (p:Int×List Int×Unit),
 let e0_3:Bool:=decide (p.1<(2:Int))&&e4;
 let e1:List Int:=[X1 e1_2 (IntKind.i64.wrap (e11-IntKind.i64.wrap ((2:Int)*p.1)))];
 let e2_1:List Int:=p.2.1;
 let e3_1:Int:=p.1;
  (0:Int)≤e3_1∧e3_1≤(2:Int)∧e2_1=List.take (Int.toNat e3_1) (outB e1_2)→
  (e0_3=true→
  (List.length e2_1+List.length e1)*(8:Nat)≤(140737488355328:Nat)∧
  ∃ (p':Int×List Int×Unit),
  l=l∧
  m=m∧
  e1_1=e1_1∧
  e0_1=e0_1∧
  e5=e5∧
  e3=e3∧
  e0_2=e0_2∧
  IntKind.i64.wrap (e3_1+(1:Int))=p'.1∧
  (0:Int)=(0:Int)∧
  e0=e0∧
  e1_2=e1_2∧
  e2=e2∧
  e2_1++e1=p'.2.1∧
  ((0:Int)≤p'.1∧p'.1≤(2:Int)∧p'.2.1=List.take (Int.toNat p'.1) (outB e1_2))∧
  (2:Nat)-Int.toNat p'.1<(2:Nat)-Int.toNat e3_1)∧
  (e0_3=false→(e0,e2,e2_1,([]:List Int),())=(parB l,(C4 l m).code,(C4 l m).out,([]:List Int),()))))):=by kernel_rfl
theorem bP4 {n b:Int} (hb:1≤b):(Int.tmod n b<0→Int.tmod n b+b=n % b)∧(¬ Int.tmod n b<0→Int.tmod n b=n % b)∧-b<Int.tmod n b:=by
 have h:=Int.tmod_eq_emod (a:=n) (b:=b)
 have h1:=Int.emod_nonneg n (b:=b) (by omega)
 have h2:=Int.emod_lt_of_pos n (b:=b) (by omega)
 split at h
 ·refine ⟨fun _=>by omega,fun _=>by omega,by omega⟩
 ·rename_i hc
  have h3:¬ n % b=0:=fun hh=>hc (.inr (Int.dvd_of_emod_eq_zero hh))
  refine ⟨fun _=>by omega,fun _=>by omega,by omega⟩
theorem cj1 (n b:Int) (hb:b≤4611686018427387904):vc (EV []) noL Go.Proofs.Tryd.f65 cTurn (n,b,()):=(cj0 n b).mpr (by
 intro e0 e1 e2
 refine ⟨fun h=>?_,fun h=>?_⟩
 ·have h:=cp4 h
  simp [e2,G2,h]
 ·have h:=cp3 h
  obtain ⟨h1,h2,h3⟩:=bP4 (n:=n) (b:=b) (by omega)
  have ht:G2 n b=n % b:=by unfold G2;rw [if_neg h]
  refine ⟨by omega,fun hc=>?_,fun hc=>?_⟩
  ·have hc:=cp4 hc
   simp only [e2]
   rw [ht,←h1 hc,E9 (by omega) (by omega)]
  ·have hc:=cp3 hc
   simp only [e2]
   rw [ht,←h2 hc])
theorem av4:C8 prog RG 65 cTurn:=E5 B8 (fun _=>noL) (by kernel_rfl) (by kernel_rfl) (by kernel_rfl) fun (n,b,()) hp=>cj1 n b hp
theorem T4 {n b:Int} (hb:1≤b):0≤G2 n b∧G2 n b<b:=by
 unfold G2
 rw [if_neg (by omega)]
 exact ⟨Int.emod_nonneg n (by omega),Int.emod_lt_of_pos n (by omega)⟩
theorem cm9 (l:List Int) (n:Int):vc (EV [(65,cTurn)]) noL Go.Proofs.Tryd.f66 cNth (l,n,()):=(cm8 l n).mpr (by
 intro e0 hs
 have hl:l.length≤140737488355328:=hs.len
 refine ⟨fun h=>?_,fun h=>?_⟩
 ·have h:(l.length:Int)=0:=by simpa [e0] using h
  have:l=[]:=List.length_eq_zero_iff.1 (by omega)
  rw [this];rfl
 ·have h:¬ (l.length:Int)=0:=by simpa [e0] using h
  have hne:l≠[]:=fun hh=>h (by rw [hh];rfl)
  have ht:=T4 (n:=n) (b:=(l.length:Int)) (by omega)
  refine ⟨by dsimp only [e0];omega,ht,?_⟩
  dsimp only [e0]
  unfold X1 G2
  rw [if_neg hne,if_neg (by omega)])
theorem bP5:C8 prog RG 66 cNth:=E5 (A8 av4 B8) (fun _=>noL) (by kernel_rfl) (by kernel_rfl) (by kernel_rfl) fun (l,n,()) _=>cm9 l n
theorem bg3:C8 prog RG 36 cReadsL:=E5 (A8 bk6 B8) (fun _=>noL) (by kernel_rfl) (by kernel_rfl) (by kernel_rfl) fun (o,n,t,f,b,()) hp=>(bP3 o n t f b).mpr (fun _ _ _=>⟨by simp only [List.length_nil,Nat.zero_add];exact hp,rfl⟩)
theorem aX0 (l:List Int):0≤parB l∧parB l<4:=T4 (by omega)
theorem bu0 (d:Int):1≤toN d∧toN d≤2:=by
 have:=T4 (n:=d) (b:=5) (by omega)
 unfold toN
 omega
theorem bg4 (k:Nat):iota (k+1)=iota k++[(k:Int)]:=by simp [iota,List.range_succ]
theorem W9 (k:Nat):(iota k).length=k:=by simp [iota]
theorem bD3 (p c:Int) (k:Nat):P7 p c (k+1)=P7 p c k++[toK p c k]:=by simp [P7,List.range_succ]
theorem Z2 (p c:Int) (k:Nat):(P7 p c k).length=k:=by simp [P7]
theorem bg5 (t:List Int) (c:Int) (k:Nat):N8 t c (k+1)=N8 t c k++[bX9 t c k]:=by simp [N8,List.range_succ]
theorem al5 (t:List Int) (c:Int) (k:Nat):(N8 t c k).length=k:=by simp [N8]
theorem aX1 (l:List Int):∀ j,(runB l j).1.length=j∧(runB l j).2.1.length≤3+2*j∧(j:Int)≤(runB l j).2.2∧(runB l j).2.2≤2*j
 |0=>by
  have:=aX0 l
  refine ⟨rfl,?_,Int.le_refl _,Int.le_refl _⟩
  show (iota _).length≤_
  rw [W9]
  omega
 |j+1=>by
  obtain ⟨h1,h2,h3,h4⟩:=aX1 l j
  have ht:=bu0 (l.getD (4*j+1+3) 0)
  refine ⟨?_,?_,?_,?_⟩
  ·show (_++[_]).length=_
   rw [cq5,h1];rfl
  ·show (_++P7 _ _ _).length≤_
   rw [cq5,Z2]
   omega
  ·show _≤(runB l j).2.2+_
   omega
  ·show (runB l j).2.2+_≤_
   omega
theorem cj2 {l:List Int} {m:Int} {j:Nat} (h1:j≤90) (h2:∀ i,i<j→goB l m i=true) (h3:goB l m j=false):endB l m=j:=by
 unfold endB
 have:(List.range 91).find? (fun j=>!goB l m j)=some j:=by
  rw [List.find?_eq_some_iff_getElem]
  refine ⟨by rw [h3];rfl,j,by simp;omega,by simp,fun i hi=>?_⟩
  simp only [List.getElem_range]
  rw [h2 i hi];rfl
 rw [this];rfl
theorem co2 (d:Int):IntKind.i64.wrap (1+IntKind.i64.wrap (Int.tdiv (G2 d 5) 4))=(toN d:Int):=by
 have h:=T4 (n:=d) (b:=5) (by omega)
 have h2:Int.tdiv (G2 d 5) 4=G2 d 5 / 4:=Int.tdiv_eq_ediv_of_nonneg h.1
 rw [h2,E9 (n:=G2 d 5 / 4) (by omega) (by omega),E9 (by omega) (by omega)]
 unfold toN
 omega
theorem co3 {p n:Int} (hp:0≤p∧p<4) (h0:0≤n) (h1:n≤1000):IntKind.i64.wrap (p+Int.tmod (IntKind.i64.wrap (IntKind.i64.wrap (n*7)+5)) 97)=p+(n*7+5) % 97:=by
 rw [E9 (n:=n*7) (by omega) (by omega),E9 (n:=n*7+5) (by omega) (by omega),Int.tmod_eq_emod_of_nonneg (by omega),E9 (by omega) (by omega)]
theorem cj3 (there:List Int) (c:Int) {k:Nat} (hk:k≤4):X1 there (IntKind.i64.wrap (IntKind.i64.wrap (Int.tdiv c (IntKind.i64.wrap (1+IntKind.i64.wrap (5*(k:Int)))))+k))=bX9 there c k:=by
 rw [E9 (n:=5*(k:Int)) (by omega) (by omega),E9 (n:=1+5*(k:Int)) (by omega) (by omega)]
 rfl
theorem bY3 (l:List Int) (m:Int):vc (EV [(65,cTurn),(66,cNth)]) (bP1 l m) Go.Proofs.Tryd.f25 cBuilt (l,m,()):=by
 rw [bY2 l m]
 intro e0 e1 hs
 have hl:l.length≤140737488355328:=hs.len
 have he0:e0=parB l:=rfl
 have he1:e1=(l.length:Int):=rfl
 clear_value e0 e1
 subst he0 he1
 have hp:=aX0 l
 simp only [true_and,and_true]
 refine ⟨by omega,⟨(0,[],()),rfl,rfl,Int.le_refl _,hp.1,rfl⟩,?_⟩
 rintro ⟨r,th,⟨⟩⟩
 dsimp only
 rintro ⟨h0,h1,rfl⟩
 obtain ⟨k,rfl⟩:=cp0 h0
 simp only [co8] at*
 refine ⟨fun hlt=>?_,fun hge=>?_⟩
 ·have hlt:=cp4 hlt
  refine ⟨by rw [W9];simp;omega,((k+1:Nat),iota (k+1),()),B6 (m:=4) (by omega) (by omega),(bg4 k).symm,⟨by dsimp only;omega,by dsimp only;omega,by dsimp only;rw [co8]⟩,by dsimp only;omega⟩
 have hge:=cp3 hge
 have hk:(k:Int)=parB l:=by omega
 have hk2:iota k=(runB l 0).2.1:=by show _=iota (parB l).toNat;rw [←hk,co8]
 refine ⟨⟨(0,1,iota k,[],()),rfl,rfl,rfl,rfl,0,rfl,by omega,fun i hi=>by omega,by rw [hk2];rfl⟩,?_⟩
 clear hge hk2
 rintro ⟨count,i,there,code,⟨⟩⟩
 dsimp only
 rintro ⟨j,rfl,hj,hgo,hrun⟩
 obtain ⟨h1',h2',h3',h4'⟩:=aX1 l j
 have hc:code=(runB l j).1:=congrArg (·.1) hrun
 have ht:there=(runB l j).2.1:=congrArg (·.2.1) hrun
 have hn:count=(runB l j).2.2:=congrArg (·.2.2) hrun
 clear hrun
 have hw3:IntKind.i64.wrap (4*(j:Int)+1+3)=((4*j+4:Nat):Int):=by rw [E9 (by omega) (by omega)];omega
 have hw2:IntKind.i64.wrap (4*(j:Int)+1+2)=((4*j+3:Nat):Int):=by rw [E9 (by omega) (by omega)];omega
 have hw1:IntKind.i64.wrap (4*(j:Int)+1+1)=((4*j+2:Nat):Int):=by rw [E9 (by omega) (by omega)];omega
 have hwn:(4*(j:Int)+1).toNat=4*j+1:=by omega
 have hlen:IntKind.i64.wrap ((there.length:Int)-1)=(there.length:Int)-1:=by rw [E9 (by rw [ht];omega) (by rw [ht];omega)]
 simp only [hw3,hw2,hw1,hwn,hlen,co8]
 have hgj:(decide (((4*j+4:Nat):Int)<(l.length:Int))&&decide ((code.length:Int)<m)&&decide (count<90))=goB l m j:=by
  unfold goB
  rw [hc,h1',hn]
  congr 2
  simp only [decide_eq_decide]
  omega
 rw [hgj]
 refine ⟨fun hg=>?_,fun hg=>?_⟩
 ·have hg':(4*j+4<l.length∧(j:Int)<m)∧(runB l j).2.2<90:=by simpa [goB] using hg
  obtain ⟨⟨g1,g2⟩,g3⟩:=hg'
  have hb4:=T4 (n:=l.getD (4*j+2) 0) (b:=4) (by omega)
  refine ⟨⟨by omega,by omega⟩,by omega,⟨by omega,by omega⟩,by omega,⟨(0,[],()),rfl,rfl,Int.le_refl _,hb4.1,rfl,fun _=>rfl⟩,?_⟩
  rintro ⟨q,fr,⟨⟩⟩
  dsimp only
  rintro ⟨q0,q1,rfl,hq⟩
  obtain ⟨q,rfl⟩:=cp0 q0
  have q1:(q:Int)≤G2 (l.getD (4*j+2) 0) 4:=q1
  have hf:=cj3 there (l.getD (4*j+3) 0) (k:=q) (by omega)
  simp only [co8,hf] at*
  refine ⟨⟨by omega,by omega⟩,by omega,fun h=>?_,fun h=>?_⟩
  ·simp only [co7,cq6] at h
   refine ⟨⟨by omega,by omega⟩,by rw [E9 (n:=5*(q:Int)) (by omega) (by omega),E9 (by omega) (by omega)];omega,by rw [al5];simp;omega,((q+1:Nat),N8 there (l.getD (4*j+3) 0) (q+1),()),B6 (m:=4) (by omega) (by omega),(bg5 _ _ _).symm,⟨by dsimp only;omega,?_,by dsimp only;rw [co8],fun hn=>?_⟩,by dsimp only;omega⟩
   ·show ((q+1:Nat):Int)≤G2 (l.getD (4*j+2) 0) 4
    omega
   ·rw [hn] at h;simp at h
  ·have hfr:N8 there (l.getD (4*j+3) 0) q=ah6 there (l.getD (4*j+2) 0) (l.getD (4*j+3) 0):=by
    unfold ah6
    simp only [Bool.and_eq_false_iff,decide_eq_false_iff_not] at h
    split
    ·rename_i hn
     have:=hq hn
     have:q=0:=by omega
     rw [this];rfl
    ·rename_i hn
     have hpos:0<there.length:=List.length_pos_iff.2 hn
     rw [show (G2 (l.getD (4*j+2) 0) 4).toNat=q from by omega]
   have hN:=bu0 (l.getD (4*j+4) 0)
   have hw:=co2 (l.getD (4*j+4) 0)
   refine ⟨⟨(0,count,[],()),rfl,rfl,rfl,Int.le_refl _,by dsimp only;omega,(Int.add_zero _).symm,rfl⟩,?_⟩
   rintro ⟨u,n2,to,⟨⟩⟩
   dsimp only
   rintro ⟨u0,u1,rfl,rfl⟩
   obtain ⟨u,rfl⟩:=cp0 u0
   have u1:(u:Int)≤(toN (l.getD (4*j+4) 0):Int):=u1
   have hk:=co3 hp (n:=count+(u:Int)) (by omega) (by omega)
   simp only [co8,hw,hk] at*
   refine ⟨⟨by omega,by omega⟩,by omega,by omega,fun h=>?_,fun h=>?_⟩
   ·have h:=cp4 h
    refine ⟨by omega,by rw [Z2];simp;omega,((u+1:Nat),count+((u+1:Nat):Int),P7 (parB l) count (u+1),()),B6 (m:=4) (by omega) (by omega),by rw [E9 (by omega) (by omega)];dsimp only;omega,(bD3 _ _ _).symm,⟨by dsimp only;omega,?_,rfl,by dsimp only;rw [co8]⟩,by dsimp only;omega⟩
    show ((u+1:Nat):Int)≤(toN (l.getD (4*j+4) 0):Int)
    omega
   ·have h:=cp3 h
    have hu:u=toN (l.getD (4*j+4) 0):=by omega
    have hstep:runB l (j+1)=(code++[⟨G2 (l.getD (4*j+1) 0) 15,G2 (l.getD (4*j+1) 0) 12,P7 (parB l) count u,N8 there (l.getD (4*j+3) 0) q,[]⟩],there++P7 (parB l) count u,count+u):=by
     rw [hfr,hu,hc,ht,hn]
     rfl
    refine ⟨by rw [ht,Z2];omega,by rw [hc,h1'];simp;omega,(count+u,((4*(j+1)+1:Nat):Int),there++P7 (parB l) count u,code++[⟨G2 (l.getD (4*j+1) 0) 15,G2 (l.getD (4*j+1) 0) 12,P7 (parB l) count u,N8 there (l.getD (4*j+3) 0) q,[]⟩],()),rfl,by rw [E9 (by omega) (by omega)];dsimp only;omega,rfl,rfl,⟨j+1,by dsimp only;omega,by omega,fun i hi=>?_,hstep.symm⟩,by dsimp only;omega⟩
    rcases Nat.lt_succ_iff_lt_or_eq.1 hi with hi|rfl
    ·exact hgo i hi
    ·exact hg
 ·have hend:=cj2 hj hgo hg
  refine ⟨⟨(0,[],()),rfl,rfl,Int.le_refl _,by dsimp only;omega,by dsimp only;rfl⟩,?_⟩
  rintro ⟨q,o,⟨⟩⟩
  dsimp only
  rintro ⟨q0,q1,rfl⟩
  obtain ⟨q,rfl⟩:=cp0 q0
  simp only [co8] at*
  refine ⟨fun h=>?_,fun h=>?_⟩
  ·simp only [co7,cq6] at h
   have hne:there≠[]:=by rintro hh;rw [hh] at h;simp at h
   have ho:outB there=[X1 there (there.length-1),X1 there (there.length-3)]:=if_neg hne
   have hq:q=0∨q=1:=by omega
   rw [ho]
   rcases hq with rfl|rfl
   ·refine ⟨by show (0+1)*8≤140737488355328;omega,(1,[X1 there (there.length-1)],()),rfl,?_,⟨by dsimp only;omega,by dsimp only;omega,rfl⟩,by dsimp only;omega⟩
    show []++[X1 there _]=_
    rw [E9 (n:=2*((0:Nat):Int)) (by omega) (by omega),E9 (by rw [ht];omega) (by rw [ht];omega),show ((there.length:Int)-1-2*((0:Nat):Int))=there.length-1 from by omega]
    rfl
   ·refine ⟨by show (1+1)*8≤140737488355328;omega,(2,[X1 there (there.length-1),X1 there (there.length-3)],()),rfl,?_,⟨by dsimp only;omega,by dsimp only;omega,rfl⟩,by dsimp only;omega⟩
    show [X1 there _]++[X1 there _]=_
    rw [E9 (n:=2*((1:Nat):Int)) (by omega) (by omega),E9 (n:=(there.length:Int)-1-2*((1:Nat):Int)) (by rw [ht];omega) (by rw [ht];omega)]
    rw [show ((there.length:Int)-1-2*((1:Nat):Int))=there.length-3 from by omega]
    rfl
  ·have hou:(outB there).take q=outB there:=by
    simp only [Bool.and_eq_false_iff,decide_eq_false_iff_not] at h
    apply List.take_of_length_le
    unfold outB
    split
    ·exact Nat.zero_le _
    ·rename_i hn
     have hpos:0<there.length:=List.length_pos_iff.2 hn
     show 2≤q
     omega
   rw [hou,hc,ht]
   show _=(parB l,(runB l (endB l m)).1,outB (runB l (endB l m)).2.1,[],())
   rw [hend]
theorem bn8:C8 prog RG 25 cBuilt:=E5 (A8 av4 (A8 bP5 B8)) (fun p=>bP1 p.1 p.2.1) (by kernel_rfl) (by kernel_rfl) (by kernel_rfl) fun (l,m,()) _=>bY3 l m
theorem bg6 (l:List Ins) (x:Ins):N9 (l++[x])=max (max (N9 l) ((C6 [] x.from_).length:Int)) (x.to.length:Int):=by simp [N9]
theorem aJ8 {N:Int}:∀ (l:List Ins) (a:Int),1≤a∧a≤N→(∀ x∈l,(x.from_.length:Int)≤N∧(x.to.length:Int)≤N)→1≤l.foldl (fun k x=>max (max k ((C6 [] x.from_).length:Int)) (x.to.length:Int)) a∧l.foldl (fun k x=>max (max k ((C6 [] x.from_).length:Int)) (x.to.length:Int)) a≤N
 |[],a,h,_=>h
 |x::r,a,h,hx=>by
  have h2:=hx x (by simp)
  have h3:=al0 [] x.from_
  simp only [List.length_nil,Nat.zero_add] at h3
  refine aJ8 r _ ⟨?_,?_⟩ (fun y hy=>hx y (by simp [hy]))
  ·dsimp only;omega
  ·dsimp only;omega
theorem aP3 {N:Int} (hN:1≤N) (l:List Ins) (h:∀ x∈l,(x.from_.length:Int)≤N∧(x.to.length:Int)≤N):1≤N9 l∧N9 l≤N:=aJ8 l 1 ⟨Int.le_refl _,hN⟩ h
theorem bY4 (a:Int) (b:List Ins) (c d:List Int) (n k:Int) (hp:R8 b=true∧k≤1000):vc (EV [(36,cReadsL),(65,cTurn)]) (bP2 b) Go.Proofs.Tryd.f27 cSlots (a,b,c,d,n,k,()):=by
 rw [bY1 a b c d n k]
 intro e0 hs _ _
 have hb:b.length≤140737488355328:=hs.len
 have hd:e0=ins0:=rfl
 clear_value e0
 subst hd
 simp only [true_and,and_true]
 obtain ⟨hp1,hp2⟩:=hp
 have hx:∀ x∈b,x.from_.length≤17592186044400∧x.to.length≤17592186044400:=by
  intro x hx
  unfold R8 at hp1
  have:=cr4.1 hp1 x hx
  simpa using this
 refine ⟨⟨(1,0,()),rfl,rfl,Int.le_refl _,by dsimp only;omega,rfl⟩,?_⟩
 rintro ⟨s,i,⟨⟩⟩
 dsimp only
 rintro ⟨h0,h1,rfl⟩
 obtain ⟨i,rfl⟩:=cp0 h0
 simp only [co8] at*
 refine ⟨fun h=>?_,fun h=>?_⟩
 ·have h:=cp4 h
  have hi:i<b.length:=by omega
  refine ⟨⟨by omega,by omega⟩,(hx _ (G5 hi _)).1,⟨by omega,by omega⟩,(N9 (b.take (i+1)),((i+1:Nat):Int),()),?_,B6 (by omega) hb,⟨by dsimp only;omega,by dsimp only;omega,by dsimp only;rw [co8]⟩,by dsimp only;omega⟩
  rw [A5 hi ins0,bg6]
 ·have h:=cp3 h
  refine ⟨by omega,?_⟩
  have hi:i=b.length:=by omega
  subst hi
  rw [cr2]
  have h5:=aP3 (N:=17592186044400) (by omega) b (fun x hm=>by have:=hx x hm;omega)
  have h6:0≤G2 n k∧G2 n k≤1000:=by
   by_cases hk:k<1
   ·unfold G2;rw [if_pos hk];omega
   ·have:=T4 (n:=n) (b:=k) (by omega);omega
  rw [E9 (by omega) (by omega)]
  rfl
theorem bn9:C8 prog RG 27 cSlots:=E5 (A8 bg3 (A8 av4 B8)) (fun p=>bP2 p.2.1) (by kernel_rfl) (by kernel_rfl) (by kernel_rfl) fun (a,b,c,d,n,k,()) hp=>bY4 a b c d n k hp
theorem aJ9 {l:List Int} (n:Int) (h:l≠[]):X1 l n∈l:=by
 have hp:0<l.length:=List.length_pos_iff.2 h
 unfold X1
 rw [if_neg h]
 have h1:=Int.emod_nonneg n (b:=(l.length:Int)) (by omega)
 have h2:=Int.emod_lt_of_pos n (b:=(l.length:Int)) (by omega)
 exact G5 (by omega) _
theorem aX2 {k:Nat} {x:Int}:x∈iota k↔0≤x∧x<k:=by
 simp only [iota,List.mem_map,List.mem_range]
 constructor
 ·rintro ⟨i,hi,rfl⟩
  simp only [Int.ofNat_eq_natCast]
  omega
 ·rintro ⟨h0,h1⟩
  exact ⟨x.toNat,by omega,by simp only [Int.ofNat_eq_natCast];omega⟩
theorem bP6 {p:Int} {c:Int} {k:Nat} {x:Int} (hc:0≤c) (h:x∈P7 p c k):p≤x∧x<p+97:=by
 simp only [P7,List.mem_map,List.mem_range,toK] at h
 obtain ⟨i,hi,rfl⟩:=h
 omega
theorem bP7 (p:Int) (c n:Nat):P7 p 0 (c+n)=P7 p 0 c++P7 p (c:Int) n:=by
 simp only [P7,List.range_add,List.map_append,List.map_map]
 congr 1
 apply List.map_congr_left
 intro k _
 simp only [Function.comp,toK]
 congr 3
 omega
theorem bo0 {p:Int} {n:Nat} (h:n≤97):(P7 p 0 n).Nodup:=by
 unfold P7
 unfold List.Nodup
 rw [List.pairwise_map]
 refine List.Pairwise.imp_of_mem (R:=fun a b=>a<b) ?_ List.pairwise_lt_range
 intro a b ha hb hab
 simp only [List.mem_range] at ha hb
 simp only [toK]
 omega
theorem bo1 (l:List Ins) (x:Ins):wr (l++[x])=wr l++x.to:=by simp [wr]
theorem bo2 {there:List Int} {b c x:Int} (h:x∈ah6 there b c):x∈there:=by
 unfold ah6 at h
 split at h
 ·simp at h
 ·rename_i hn
  simp only [N8,List.mem_map,bX9] at h
  obtain ⟨k,_,rfl⟩:=h
  exact aJ9 _ hn
theorem aK9 (there:List Int) (b c:Int):(ah6 there b c).length≤3:=by
 have:=T4 (n:=b) (b:=4) (by omega)
 unfold ah6
 split
 ·exact Nat.zero_le _
 ·rw [al5];omega
theorem bu1 {there:List Int} {x:Int} (h:x∈outB there):x∈there:=by
 unfold outB at h
 split at h
 ·simp at h
 ·rename_i hn
  simp only [List.mem_cons,List.not_mem_nil,or_false] at h
  rcases h with rfl|rfl
  ·exact aJ9 _ hn
  ·exact aJ9 _ hn
structure BuiltOk (p:Int) (s:BS) (n:Nat):Prop where
 cnt:s.2.2=n
 wrs:wr s.1=P7 p 0 n
 ther:s.2.1=iota p.toNat++wr s.1
 thr:F8 p [] s.1=true
 froms:∀ x∈s.1,x.from_.length≤3∧∀ y∈x.from_,y∈s.2.1
 tos:∀ x∈s.1,1≤x.to.length∧x.to.length≤2
 bod:∀ x∈s.1,x.body=[]
theorem bu2 (l:List Int):∀ j,∃ n,BuiltOk (parB l) (runB l j) n
 |0=>⟨0,rfl,rfl,by show _=_++[];rw [List.append_nil];rfl,rfl,fun x hx=>by simp [runB] at hx,fun x hx=>by simp [runB] at hx,fun x hx=>by simp [runB] at hx⟩
 |j+1=>by
  obtain ⟨n,h⟩:=bu2 l j
  have hp:=aX0 l
  obtain ⟨s,hs⟩:∃ s,runB l j=s:=⟨_,rfl⟩
  rw [hs] at h
  obtain ⟨d,hd⟩:∃ d,toN (l.getD (4*j+1+3) 0)=d:=⟨_,rfl⟩
  have ht:=bu0 (l.getD (4*j+1+3) 0)
  have e:runB l (j+1)=bY0 (parB l) l (4*j+1) s:=by show bY0 _ _ _ (runB l j)=_;rw [hs]
  rw [e]
  unfold bY0
  rw [hd] at*
  obtain ⟨fr,hfr⟩:∃ fr,ah6 s.2.1 (l.getD (4*j+1+1) 0) (l.getD (4*j+1+2) 0)=fr:=⟨_,rfl⟩
  have hfm:∀ y∈fr,y∈s.2.1:=fun y hy=>by rw [←hfr] at hy;exact bo2 hy
  have hfl:fr.length≤3:=by rw [←hfr];exact aK9 _ _ _
  rw [hfr]
  refine ⟨n+d,?_,?_,?_,?_,?_,?_,?_⟩
  ·show s.2.2+(d:Int)=_
   rw [h.cnt];omega
  ·show wr (s.1++[_])=_
   rw [bo1,h.wrs,bP7,h.cnt]
  ·show s.2.1++_=_++wr (s.1++[_])
   rw [bo1,h.ther,cr0]
  ·show F8 _ _ (s.1++[_])=true
   rw [M1,h.thr]
   simp only [Bool.true_and,F8,Bool.and_true,List.nil_append,cr4,Bool.or_eq_true,cq6,List.contains_iff_mem]
   intro y hy
   have:=hfm y hy
   rw [h.ther,cr1] at this
   rcases this with hi|hw
   ·have:=aX2.1 hi;left;omega
   ·exact .inr hw
  ·intro x hx
   rcases cr1.1 hx with hx|hx
   ·exact ⟨(h.froms x hx).1,fun y hy=>cr1.2 (.inl ((h.froms x hx).2 y hy))⟩
   ·rw [cp5] at hx
    subst hx
    exact ⟨hfl,fun y hy=>cr1.2 (.inl (hfm y hy))⟩
  ·intro x hx
   rcases cr1.1 hx with hx|hx
   ·exact h.tos x hx
   ·rw [cp5] at hx
    subst hx
    show 1≤(P7 _ _ d).length∧(P7 _ _ d).length≤2
    rw [Z2];exact ht
  ·intro x hx
   rcases cr1.1 hx with hx|hx
   ·exact h.bod x hx
   ·rw [cp5] at hx
    subst hx
    rfl
theorem bP8 (l:List Int) (m:Int):endB l m≤90∧∀ i,i<endB l m→goB l m i=true:=by
 unfold endB
 cases h:(List.range 91).find? fun j=>!goB l m j with
 |none=>exact ⟨by simp,fun i hi=>by simp at hi⟩
 |some j=>
  rw [List.find?_eq_some_iff_getElem] at h
  obtain ⟨_,k,hk,h1,h2⟩:=h
  simp only [List.length_range,List.getElem_range] at hk h1 h2
  subst h1
  refine ⟨by show k≤90;omega,fun i hi=>?_⟩
  have:=h2 i hi
  simpa using this
theorem cj4 {l:List Int} {m:Int} (hm:0≤m):(endB l m:Int)≤m:=by
 have h:=(bP8 l m).2
 by_cases h0:endB l m=0
 ·omega
 ·have h1:=h (endB l m-1) (by omega)
  unfold goB at h1
  simp only [co7,cq6] at h1
  omega
structure Made (a:Int) (b:List Ins) (c:List Int):Prop where
 chk:Checked a b c
 par:0≤a∧a≤3
 froms:∀ x∈b,x.from_.length≤3
 tos:∀ x∈b,1≤x.to.length∧x.to.length≤2
 bod:∀ x∈b,x.body=[]
 out:c.length≤2
 regs:∀ n∈wr b,n<100
theorem made (l:List Int) {m:Int} (hm:0≤m):Made (parB l) (C4 l m).code (C4 l m).out∧((C4 l m).code.length:Int)≤m:=by
 obtain ⟨n,h⟩:=bu2 l (endB l m)
 have hl:=aX1 l (endB l m)
 obtain ⟨hgo1,hgo2⟩:=bP8 l m
 have hp:=aX0 l
 have hn:n≤91:=by
  have h1:=h.cnt
  by_cases h0:endB l m=0
  ·rw [h0] at h1
   have:(0:Int)=n:=h1
   omega
  ·obtain ⟨k,hk⟩:∃ k,endB l m=k+1:=⟨endB l m-1,by omega⟩
   have h2:=hgo2 k (by omega)
   unfold goB at h2
   simp only [co7,cq6] at h2
   rw [hk] at h1
   have h3:(runB l k).2.2+(toN (l.getD (4*k+1+3) 0):Int)=n:=h1
   have:=bu0 (l.getD (4*k+1+3) 0)
   omega
 show Made (parB l) (runB l (endB l m)).1 (outB (runB l (endB l m)).2.1)∧((runB l (endB l m)).1.length:Int)≤m
 obtain ⟨s,hs⟩:∃ s,runB l (endB l m)=s:=⟨_,rfl⟩
 have hle:=cj4 (l:=l) hm
 rw [hs] at h hl ⊢
 have hwr:∀ x∈wr s.1,parB l≤x∧x<parB l+97:=fun x hx=>by rw [h.wrs] at hx;exact bP6 (Int.le_refl _) hx
 have hth:∀ x∈s.2.1,(0≤x∧x<parB l)∨x∈wr s.1:=by
  intro x hx
  rw [h.ther,cr1] at hx
  rcases hx with hx|hx
  ·have:=aX2.1 hx;left;omega
  ·exact .inr hx
 have hreg:∀ x∈s.2.1,0≤x∧x≤3999:=by
  intro x hx
  rcases hth x hx with hx|hx
  ·omega
  ·have:=hwr x hx;omega
 refine ⟨⟨⟨by omega,hp.1,by omega,fun x hx=>hreg x (bu1 hx),?_,fun x hx y hy=>hreg y ((h.froms x hx).2 y hy),?_,fun x hx=>(hwr x hx).1,h.thr,?_⟩,by omega,fun x hx=>(h.froms x hx).1,h.tos,h.bod,?_,fun x hx=>by have:=hwr x hx;omega⟩,by omega⟩
 ·intro x hx y hy
  have:=hwr y (List.mem_flatMap.2 ⟨x,hx,hy⟩)
  omega
 ·rw [G0,h.wrs]
  exact bo0 (by omega)
 ·intro x hx
  rcases hth x (bu1 hx) with hx|hx
  ·left;omega
  ·exact .inr hx
 ·unfold outB
  split<;>simp
theorem aP4 {a:Int} {b:List Ins} {c d:List Int} (h:Checked a b c):E2 ⟨a,b,c,d⟩=0:=by
 have e1:(lies a 0 4000&&c.all T2&&b.all fun x=>x.to.all T2&&x.from_.all T2)=true:=by
  simp only [co7,cr4,ar3,lies,cq6]
  exact ⟨⟨⟨h.pos,h.few⟩,h.outR⟩,fun x hx=>⟨h.toR x hx,h.fromR x hx⟩⟩
 have e2:(D0 (wr b)&&(wr b).all fun n=>decide (a≤n))=true:=by
  simp only [co7,cr4,cq6]
  exact ⟨h.once,h.new⟩
 have e3:(F8 a [] b&&c.all fun n=>decide (n<a)||(wr b).contains n)=true:=by
  simp only [co7,cr4,cq6,Bool.or_eq_true,List.contains_iff_mem]
  exact ⟨h.there,h.outT⟩
 simp only [E2,e1,e2,e3,if_neg (Nat.not_lt.2 h.len)]
 rfl
theorem aa8 (sp:Spans) (rd:Reads) (N:Int) (m:Holds) (pl:Int) (st:List Int):∀ (l:List Nat) (acc:List Held),
  (∀ i acc',C5 sp rd N m pl st l acc=(some i,acc')→∃ s∈l,i=(s:Int)∧∀ r,mget eqP m ⟨false,(s:Int)⟩=some r→r∉st∧H1 (getS sp r).first (getS sp r).last pl=false)∧
  (∀ acc',C5 sp rd N m pl st l acc=(none,acc')→∀ x∈acc',x∈acc∨∃ s∈l,x.slot=(s:Int)∧mget eqP m ⟨false,(s:Int)⟩=some x.reg∧x.reg∉st)
 |[],acc=>by
  refine ⟨fun i acc' h=>?_,fun acc' h x hx=>?_⟩
  ·simp [C5] at h
  ·simp only [C5,cp6,true_and] at h
   subst h
   exact .inl hx
 |s::r,acc=>by
  refine ⟨fun i acc' h=>?_,fun acc' h x hx=>?_⟩
  ·simp only [C5] at h
   cases hm:mget eqP m ⟨false,(s:Int)⟩ with
   |none=>
    rw [hm] at h
    simp only [cp6,co4] at h
    exact ⟨s,by simp,h.1.symm,fun r hr=>by rw [hm] at hr;cases hr⟩
   |some n=>
    rw [hm] at h
    simp only at h
    cases hc:st.contains n with
    |true=>
     rw [hc,cond_true] at h
     obtain ⟨s',h1,h2,h3⟩:=(aa8 sp rd N m pl st r acc).1 i acc' h
     exact ⟨s',by simp [h1],h2,h3⟩
    |false=>
     rw [hc,cond_false] at h
     have hns:n∉st:=fun hh=>by rw [List.contains_iff_mem.2 hh] at hc;cases hc
     cases hsp:H1 (getS sp n).first (getS sp n).last pl with
     |true=>
      rw [hsp,cond_true] at h
      obtain ⟨s',h1,h2,h3⟩:=(aa8 sp rd N m pl st r _).1 i acc' h
      exact ⟨s',by simp [h1],h2,h3⟩
     |false=>
      rw [hsp,cond_false] at h
      simp only [cp6,co4] at h
      refine ⟨s,by simp,h.1.symm,fun r hr=>?_⟩
      rw [hm] at hr
      cases hr
      exact ⟨hns,hsp⟩
  ·simp only [C5] at h
   cases hm:mget eqP m ⟨false,(s:Int)⟩ with
   |none=>rw [hm] at h;simp at h
   |some n=>
    rw [hm] at h
    simp only at h
    cases hc:st.contains n with
    |true=>
     rw [hc,cond_true] at h
     rcases (aa8 sp rd N m pl st r acc).2 acc' h x hx with h1|⟨s',h1,h2⟩
     ·exact .inl h1
     ·exact .inr ⟨s',by simp [h1],h2⟩
    |false=>
     rw [hc,cond_false] at h
     have hns:n∉st:=fun hh=>by rw [List.contains_iff_mem.2 hh] at hc;cases hc
     cases hsp:H1 (getS sp n).first (getS sp n).last pl with
     |true=>
      rw [hsp,cond_true] at h
      rcases (aa8 sp rd N m pl st r _).2 acc' h x hx with h1|⟨s',h1,h2⟩
      ·rcases cr1.1 h1 with h1|h1
       ·exact .inl h1
       ·rw [cp5] at h1
        subst h1
        exact .inr ⟨s,by simp,rfl,hm,hns⟩
      ·exact .inr ⟨s',by simp [h1],h2⟩
     |false=>rw [hsp,cond_false] at h;simp at h
theorem bu3 {l:List Held} (h:l≠[]):K1 l∈l:=by
 cases l with
 |nil=>exact absurd rfl h
 |cons x r=>
  show r.foldl H9 x∈x::r
  clear h
  induction r generalizing x with
  |nil=>simp
  |cons y r ih=>
   have h1:=ih (H9 x y)
   show r.foldl H9 (H9 x y)∈_
   have h2:H9 x y=x∨H9 x y=y:=by
    unfold H9
    cases an8 y x
    ·exact .inl rfl
    ·exact .inr rfl
   rcases List.mem_cons.1 h1 with h1|h1
   ·rw [h1]
    rcases h2 with h2|h2<;>rw [h2]<;>simp
   ·simp [h1]
def goodI (ks cells:Int) (x:RIns):Prop:=Z7 ks cells x=true∧(x.kind≠0∨D0 x.ins.to=true)∧au3 x.ins=true
theorem O3 {n:Int} {l:List Int}:H3 n l=true↔∀ x∈l,0≤x∧x<n:=by simp [H3]
theorem goodI.mono {ks c c':Int} {x:RIns} (h:goodI ks c x) (hc:c≤c'):goodI ks c' x:=by
 obtain ⟨h1,h2⟩:=h
 refine ⟨?_,h2⟩
 unfold Z7 at h1 ⊢
 split at h1
 ·rename_i h0;rw [if_pos h0];exact h1
 ·rename_i h0
  rw [if_neg h0]
  split at h1
  ·rename_i h3
   rw [if_pos h3]
   simp only [co7,O3,cp5,forall_eq] at h1 ⊢
   omega
  ·cases h1
structure Inv (Q3:SF) (T:List Int) (nm:Int→Int) (ks:Int) (S:AS) (m:Holds) (C:List Ins) (nx:Int):Prop where
 run:I4 S.code Q3=((m,C,nx),true)
 slot:∀ (q:Nat) (n:Int),q<ks.toNat→mget eqP S.holds ⟨false,(q:Int)⟩=some n→n∉T→mget eqP m ⟨false,(q:Int)⟩=some (nm n)
 cell:∀ n cl,mget eqI S.cells n=some cl→0≤cl∧cl<S.ocells∧mget eqP m ⟨true,cl⟩=some (nm n)
 good:∀ x∈S.code,goodI ks S.ocells x
 low:0≤S.ocells
theorem av5 {l:List RIns} {s s':SF} {x:RIns} (h:I4 l s=(s',true)):I4 (l++[x]) s=I2 s' x:=by
 rw [ar5,h]
 exact be6 _ _
theorem bu4 {sp:Spans} {rd:Reads} {ks N:Int} {S:AS} {pl:Int} {st T:List Int} {nm:Int→Int} {m:Holds} {C:List Ins} {nx:Int} {Q3:SF}
  (hT:∀ x∈T,x∈st) (hok:Z0 sp rd ks N S.holds pl st) (h:Inv Q3 T nm ks S m C nx):
  ∃ (q:Nat) (t:AS) (m':Holds),F6 sp rd ks N S pl st=((q:Int),t)∧q<ks.toNat∧t.holds=S.holds∧Inv Q3 T nm ks t m' C nx∧
   (∀ r,mget eqP S.holds ⟨false,(q:Int)⟩=some r→r∉st∧(H1 (getS sp r).first (getS sp r).last pl=false∨(mget eqI t.cells r).isSome=true))∧
   (∀ n cl,mget eqI S.cells n=some cl→mget eqI t.cells n=some cl)∧(∀ q:Int,mget eqP m' ⟨false,q⟩=mget eqP m ⟨false,q⟩):=by
 obtain ⟨o,hs,hsc⟩:∃ o hs,K9 sp rd ks N S.holds pl st=(o,hs):=⟨_,_,rfl⟩
 have hspec:=aa8 sp rd N S.holds pl st (List.range ks.toNat) []
 cases o with
 |some i=>
  obtain ⟨q,hq,rfl,hr⟩:=hspec.1 i hs hsc
  have hq:q<ks.toNat:=by simpa using hq
  refine ⟨q,S,m,by unfold F6;rw [hsc],hq,rfl,h,fun r hm=>⟨(hr r hm).1,.inl (hr r hm).2⟩,fun n cl hc=>hc,fun _=>rfl⟩
 |none=>
  have hne:hs≠[]:=by have:=hok (by rw [hsc]);rw [hsc] at this;exact this
  have hb:=hspec.2 hs hsc _ (bu3 hne)
  rcases hb with hb|⟨q,hq,hbs,hbm,hbr⟩
  ·simp at hb
  have hq:q<ks.toNat:=by simpa using hq
  have hroom:F6 sp rd ks N S pl st=((q:Int),ad3 S (K1 hs)):=by unfold F6;rw [hsc];simp only [hbs]
  obtain ⟨x,hx⟩:∃ x,K1 hs=x:=⟨_,rfl⟩
  rw [hx] at hbs hbm hbr hroom
  cases hcx:(mget eqI S.cells x.reg).isSome with
  |true=>
   have he:ad3 S x=S:=by unfold ad3;rw [hcx];rfl
   rw [he] at hroom
   exact ⟨q,S,m,hroom,hq,rfl,h,fun r hm=>by rw [hbm] at hm;cases hm;exact ⟨hbr,.inr hcx⟩,fun n cl hc=>hc,fun _=>rfl⟩
  |false=>
   have he:ad3 S x=⟨S.holds,mput eqI S.cells x.reg S.ocells,S.ocells+1,S.code++[⟨2,x.slot,S.ocells,ins0⟩]⟩:=by unfold ad3;rw [hcx];rfl
   rw [he,hbs] at hroom
   have hmq:=h.slot q x.reg hq hbm (fun hh=>hbr (hT _ hh))
   have hcn:mget eqI S.cells x.reg=none:=by cases hh:mget eqI S.cells x.reg with|none=>rfl|some _=>rw [hh] at hcx;cases hcx
   refine ⟨q,_,mput eqP m ⟨true,S.ocells⟩ (nm x.reg),hroom,hq,rfl,⟨?_,?_,?_,?_,?_⟩,?_,?_,fun q'=>by rw [E4,if_neg (by simp)]⟩
   ·rw [av5 h.run]
    show I2 (m,C,nx) _=_
    unfold I2
    have e1:((2:Int)==0)=false:=rfl
    have e2:((2:Int)==2)=true:=rfl
    simp only [e1,e2,cond_true,cond_false,hmq]
   ·intro q' n hq' hn hT'
    rw [E4,if_neg (by simp)]
    exact h.slot q' n hq' hn hT'
   ·intro n cl hc
    dsimp only at hc ⊢
    rw [I8] at hc
    rw [E4]
    by_cases hn:x.reg=n
    ·rw [if_pos hn] at hc
     cases hc
     rw [if_pos rfl,hn]
     exact ⟨h.low,by omega,rfl⟩
    ·rw [if_neg hn] at hc
     have:=h.cell n cl hc
     rw [if_neg (by simp only [Place.mk.injEq,true_and];omega)]
     exact ⟨this.1,by omega,this.2.2⟩
   ·intro y hy
    dsimp only at hy ⊢
    rcases cr1.1 hy with hy|hy
    ·exact (h.good y hy).mono (by omega)
    ·rw [cp5] at hy
     subst hy
     refine ⟨?_,.inl (by dsimp only;omega),show au3 ins0=true by decide⟩
     have:=h.low
     unfold Z7
     rw [if_neg (by dsimp only;omega),if_pos (.inr rfl)]
     simp only [co7,O3,cp5,forall_eq]
     omega
   ·have:=h.low
    dsimp only
    omega
   ·intro r hm
    rw [hbm] at hm
    cases hm
    refine ⟨hbr,.inr ?_⟩
    dsimp only
    rw [I8,if_pos rfl]
    rfl
   ·intro n cl hc
    dsimp only
    rw [I8]
    by_cases hn:x.reg=n
    ·rw [hn,hc] at hcn;cases hcn
    ·rw [if_neg hn];exact hc
end Go.Rg
end
