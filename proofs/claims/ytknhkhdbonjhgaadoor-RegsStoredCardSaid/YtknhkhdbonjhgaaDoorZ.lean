/-
RegsStored returns true for any numbers l and n, in whatever memory and on every schedule: in what is allocated of the function that l makes, no register is stored twice, and no parameter; each store goes to the next new cell; what is loaded is what the cell holds and is not in a slot already; each instruction has all that it reads at hand.
-/
import Derived.Test.YtknhkhdbonjhgaaDoorV5
import Derived.Test.YtknhkhdbonjhgaaDoorCards
import Derived.Test.YtknhkhdbonjhgaaDoorTie
import Derived.SevenTiedAt
set_option linter.unusedVariables false
set_option linter.unusedSimpArgs false
set_option linter.unnecessarySimpa false
set_option maxRecDepth 100000
noncomputable section
section
namespace Go.Rg
open Go Go.VT
def InS (m:Holds) (ks n:Int):Prop:=∃ q:Nat,q<ks.toNat∧mget eqP m ⟨false,(q:Int)⟩=some n
theorem aB0 {m:Holds} {ks n:Int} (h:InS m ks n):∃ a:Nat,a<ks.toNat∧B9 m ks n=⟨false,(a:Int)⟩∧mget eqP m ⟨false,(a:Int)⟩=some n:=by
 apply ah3
 cases hc:(B9 m ks n).cell with
 |false=>rfl
 |true=>
  obtain ⟨q,hq,hm⟩:=h
  exact absurd hm (N7.1 hc q hq)
def Av (ks:Int) (L:Int→Prop) (S:AS):Prop:=∀ n,L n→InS S.holds ks n∨(mget eqI S.cells n).isSome=true
theorem bu5 {ks n:Int} {L:Int→Prop} {S t:AS} {q:Nat} {c:List RIns} (hA:Av ks L S) (ht:t.holds=S.holds) (hc:∀ n cl,mget eqI S.cells n=some cl→mget eqI t.cells n=some cl)
  (hv:∀ r,mget eqP S.holds ⟨false,(q:Int)⟩=some r→¬ L r∨(mget eqI t.cells r).isSome=true):Av ks L ⟨mput eqP t.holds ⟨false,(q:Int)⟩ n,t.cells,t.ocells,c⟩:=by
 intro r hr
 rcases hA r hr with ⟨p,hp,hm⟩|hm
 ·by_cases hpq:p=q
  ·subst hpq
   rcases hv r hm with h|h
   ·exact absurd hr h
   ·exact .inr h
  ·refine .inl ⟨p,hp,?_⟩
   dsimp only
   rw [E4,if_neg (by simp only [Place.mk.injEq,true_and];omega),ht]
   exact hm
 ·right
  cases hh:mget eqI S.cells r with
  |none=>rw [hh] at hm;cases hm
  |some cl=>dsimp only;rw [hc r cl hh];rfl
theorem aX3 {ks n x:Int} {S t:AS} {q:Nat} (ht:t.holds=S.holds) (hv:∀ r,mget eqP S.holds ⟨false,(q:Int)⟩=some r→r≠x) (h:InS S.holds ks x):InS (mput eqP t.holds ⟨false,(q:Int)⟩ n) ks x:=by
 obtain ⟨p,hp,hm⟩:=h
 by_cases hpq:p=q
 ·subst hpq
  exact absurd rfl (hv x hm)
 ·refine ⟨p,hp,?_⟩
  rw [E4,if_neg (by simp only [Place.mk.injEq,true_and];omega),ht]
  exact hm
theorem bY5 {sp:Spans} {rd:Reads} {ks N i:Int} {fr:List Int} {S:AS} {n:Int} {P L:Int→Prop} {nm:Int→Int} {m:Holds} {C:List Ins} {nx:Int} {Q3:SF}
  (F:Fine P ks S.holds) (hfr:n∈fr) (hlen:(fr.length:Int)≤ks) (hdead:∀ r,H1 (getS sp r).first (getS sp r).last i=false→¬ L r) (hL:L n)
  (h:Inv Q3 [] nm ks S m C nx) (hA:Av ks L S):
  ∃ m',Inv Q3 [] nm ks (D4 sp rd ks N i fr S n) m' C nx∧Av ks L (D4 sp rd ks N i fr S n)∧InS (D4 sp rd ks N i fr S n).holds ks n∧(∀ x∈fr,InS S.holds ks x→InS (D4 sp rd ks N i fr S n).holds ks x):=by
 cases hc:(B9 S.holds ks n).cell with
 |false=>
  have he:D4 sp rd ks N i fr S n=S:=by unfold D4;rw [hc];rfl
  rw [he]
  obtain ⟨a,ha,_,hm⟩:=ah3 hc
  exact ⟨m,h,hA,⟨a,ha,hm⟩,fun _ _ h=>h⟩
 |true=>
  have hni:=N7.1 hc
  obtain ⟨q,t,m',hroom,hq,ht,hI,hv,hcs,hsl⟩:=bu4 (sp:=sp) (rd:=rd) (N:=N) (pl:=i) (st:=fr) (T:=[]) (by simp) (as1 F hni hfr hlen sp rd N i) h
  have he:D4 sp rd ks N i fr S n=⟨mput eqP t.holds ⟨false,(q:Int)⟩ n,t.cells,t.ocells,t.code++[⟨1,(q:Int),getI t.cells n,ins0⟩]⟩:=by
   unfold D4;rw [hc,hroom];rfl
  rw [he]
  obtain ⟨cl,hcl⟩:∃ cl,mget eqI S.cells n=some cl:=by
   rcases hA n hL with ⟨p,hp,hm⟩|hm
   ·exact absurd hm (hni p hp)
   ·exact Option.isSome_iff_exists.1 hm
  have hct:=hcs n cl hcl
  have hg:getI t.cells n=cl:=by unfold getI;rw [hct];rfl
  have hcm:=hI.cell n cl hct
  rw [hg]
  refine ⟨mput eqP m' ⟨false,(q:Int)⟩ (nm n),⟨?_,?_,?_,?_,hI.low⟩,?_,?_,?_⟩
  ·rw [av5 hI.run]
   have e1:((1:Int)==0)=false:=rfl
   have e2:((1:Int)==2)=false:=rfl
   unfold I2
   simp only [e1,e2,cond_false,hcm.2.2]
  ·intro q' r hq' hr _
   dsimp only at hr
   rw [E4] at hr ⊢
   by_cases hqq:(⟨false,(q:Int)⟩:Place)=⟨false,(q':Int)⟩
   ·rw [if_pos hqq] at hr ⊢
    cases hr;rfl
   ·rw [if_neg hqq] at hr ⊢
    exact hI.slot q' r hq' hr (by simp)
  ·intro r c' hr
   have:=hI.cell r c' hr
   rw [E4,if_neg (by simp)]
   exact this
  ·intro y hy
   dsimp only at hy
   rcases cr1.1 hy with hy|hy
   ·exact hI.good y hy
   ·rw [cp5] at hy
    subst hy
    refine ⟨?_,.inl (by dsimp only;omega),show au3 ins0=true by decide⟩
    unfold Z7
    rw [if_neg (by dsimp only;omega),if_pos (.inl rfl)]
    simp only [co7,O3,cp5,forall_eq]
    omega
  ·exact bu5 hA ht hcs (fun r hr=>(hv r hr).2.imp (hdead r) id)
  ·exact ⟨q,hq,by dsimp only;rw [E4,if_pos rfl]⟩
  ·intro x hx hi
   exact aX3 ht (fun r hr hh=>(hv r hr).1 (hh▸hx)) hi
theorem bg7 {sp:Spans} {rd:Reads} {ks N i:Int} {fr:List Int} {P L:Int→Prop} {nm:Int→Int} {C:List Ins} {nx:Int} {Q3:SF}
  (hlen:(fr.length:Int)≤ks) (hdead:∀ r,H1 (getS sp r).first (getS sp r).last i=false→¬ L r) (hL:∀ n∈fr,L n) (hP:∀ n∈fr,P n):
  ∀ (l:List Int) {S:AS} {m:Holds},(∀ n∈l,n∈fr)→Fine P ks S.holds→Inv Q3 [] nm ks S m C nx→Av ks L S→
  ∃ m',Inv Q3 [] nm ks (D3 sp rd ks N i fr S l) m' C nx∧Av ks L (D3 sp rd ks N i fr S l)∧(∀ x∈l,InS (D3 sp rd ks N i fr S l).holds ks x)∧(∀ x∈fr,InS S.holds ks x→InS (D3 sp rd ks N i fr S l).holds ks x)
 |[],S,m,_,_,h,hA=>⟨m,h,hA,by simp,fun _ _ h=>h⟩
 |n::r,S,m,hl,F,h,hA=>by
  have hn:=hl n (by simp)
  obtain ⟨m1,h1,h2,h3,h4⟩:=bY5 (sp:=sp) (rd:=rd) (N:=N) F hn hlen hdead (hL n hn) h hA
  have F1:Fine P ks (D4 sp rd ks N i fr S n).holds:=V5 (sp:=sp) (rd:=rd) (N:=N) (i:=i) (fr:=fr) [n] F (by simpa using hP n hn)
  obtain ⟨m2,g1,g2,g3,g4⟩:=bg7 hlen hdead hL hP r (fun x hx=>hl x (by simp [hx])) F1 h1 h2
  refine ⟨m2,g1,g2,fun x hx=>?_,fun x hx hi=>g4 x hx (h4 x hx hi)⟩
  rcases List.mem_cons.1 hx with rfl|hx
  ·exact g4 _ hn h3
  ·exact g3 x hx
theorem cn0 {sp:Spans} {rd:Reads} {ks N i:Int} {to:List Int} {S:AS} {n:Int} {L:Int→Prop} {nm:Int→Int} {m:Holds} {C:List Ins} {nx:Int} {Q3:SF}
  (hn:n∈to) (hok:Z0 sp rd ks N S.holds (i+1) to) (hdead:∀ r,H1 (getS sp r).first (getS sp r).last (i+1)=false→¬ L r)
  (h:Inv Q3 to nm ks S m C nx) (hA:Av ks L S):
  ∃ m',Inv Q3 to nm ks (M3 sp rd ks N i to S n) m' C nx∧Av ks L (M3 sp rd ks N i to S n)∧InS (M3 sp rd ks N i to S n).holds ks n∧(∀ x∈to,InS S.holds ks x→InS (M3 sp rd ks N i to S n).holds ks x)∧(∀ q:Int,mget eqP m' ⟨false,q⟩=mget eqP m ⟨false,q⟩):=by
 obtain ⟨q,t,m',hroom,hq,ht,hI,hv,hcs,hsl⟩:=bu4 (T:=to) (fun _ h=>h) hok h
 have he:M3 sp rd ks N i to S n=⟨mput eqP t.holds ⟨false,(q:Int)⟩ n,t.cells,t.ocells,t.code⟩:=by
  unfold M3;rw [hroom]
 rw [he]
 refine ⟨m',⟨hI.run,?_,hI.cell,hI.good,hI.low⟩,?_,?_,?_,hsl⟩
 ·intro q' r hq' hr hrt
  dsimp only at hr
  rw [E4] at hr
  by_cases hqq:(⟨false,(q:Int)⟩:Place)=⟨false,(q':Int)⟩
  ·rw [if_pos hqq] at hr
   cases hr
   exact absurd hn hrt
  ·rw [if_neg hqq] at hr
   exact hI.slot q' r hq' hr hrt
 ·exact bu5 hA ht hcs (fun r hr=>(hv r hr).2.imp (hdead r) id)
 ·exact ⟨q,hq,by dsimp only;rw [E4,if_pos rfl]⟩
 ·intro x hx hi
  exact aX3 ht (fun r hr hh=>(hv r hr).1 (hh▸hx)) hi
theorem aP5 (sp:Spans) (rd:Reads) (ks N i:Int) (to:List Int) (S:AS) (l:List Int) (n:Int):G7 sp rd ks N i to S (l++[n])=M3 sp rd ks N i to (G7 sp rd ks N i to S l) n:=by simp [G7]
theorem bP9 {sp:Spans} {rd:Reads} {ks N i:Int} {to:List Int} {S:AS} {L:Int→Prop} {nm:Int→Int} {m:Holds} {C:List Ins} {nx:Int} {Q3:SF}
  (hok:∀ k,k<to.length→Z0 sp rd ks N (G7 sp rd ks N i to S (to.take k)).holds (i+1) to) (hdead:∀ r,H1 (getS sp r).first (getS sp r).last (i+1)=false→¬ L r)
  (h:Inv Q3 to nm ks S m C nx) (hA:Av ks L S):∀ k,k≤to.length→
  ∃ m',Inv Q3 to nm ks (G7 sp rd ks N i to S (to.take k)) m' C nx∧Av ks L (G7 sp rd ks N i to S (to.take k))∧(∀ x∈to.take k,InS (G7 sp rd ks N i to S (to.take k)).holds ks x)∧(∀ q:Int,mget eqP m' ⟨false,q⟩=mget eqP m ⟨false,q⟩)
 |0,_=>⟨m,by simpa [G7] using h,by simpa [G7] using hA,by simp,fun _=>rfl⟩
 |k+1,hk=>by
  obtain ⟨m1,h1,h2,h3,h4⟩:=bP9 hok hdead h hA k (by omega)
  have hg:=G5 (l:=to) (i:=k) (by omega) 0
  obtain ⟨m2,g1,g2,g3,g4,g5⟩:=cn0 (n:=to.getD k 0) hg (hok k (by omega)) hdead h1 h2
  rw [A5 (by omega) 0,aP5]
  refine ⟨m2,g1,g2,fun x hx=>?_,fun q=>(g5 q).trans (h4 q)⟩
  rcases cr1.1 hx with hx|hx
  ·exact g4 x (List.mem_of_mem_take hx) (h3 x hx)
  ·rw [cp5] at hx
   subst hx
   exact g3
theorem bg8:∀ (l acc:List Int) (nx:Int) (m:Holds),l.Nodup→(l.foldl ak4 (acc,nx,m)).1=acc++(List.range l.length).map (fun j:Nat=>nx+(j:Int))∧
  (∀ (j:Nat) (x:Int),l[j]? =some x→mget eqP (l.foldl ak4 (acc,nx,m)).2.2 ⟨false,x⟩=some (nx+j))∧
  (∀ p:Place,p.cell=true∨p.n∉l→mget eqP (l.foldl ak4 (acc,nx,m)).2.2 p=mget eqP m p)
 |[],acc,nx,m,_=>by simp
 |x::r,acc,nx,m,h=>by
  obtain ⟨hx,hr⟩:=List.nodup_cons.1 h
  obtain ⟨h1,h2,h3⟩:=bg8 r (acc++[nx]) (nx+1) (mput eqP m ⟨false,x⟩ nx) hr
  refine ⟨?_,?_,?_⟩
  ·show (r.foldl ak4 (acc++[nx],nx+1,mput eqP m ⟨false,x⟩ nx)).1=_
   rw [h1,cq0,List.range_succ_eq_map,List.map_cons,List.map_map,cr0]
   congr 1
   simp only [List.singleton_append,List.cons.injEq]
   refine ⟨by omega,?_⟩
   apply List.map_congr_left
   intro j _
   simp only [Function.comp]
   omega
  ·intro j y hj
   show mget eqP (r.foldl ak4 (acc++[nx],nx+1,mput eqP m ⟨false,x⟩ nx)).2.2 _=_
   cases j with
   |zero=>
    simp only [cp2,co4] at hj
    subst hj
    rw [h3 _ (.inr hx),E4,if_pos rfl]
    congr 1
    omega
   |succ j=>
    rw [h2 j y (by simpa using hj)]
    congr 1
    omega
  ·intro p hp
   show mget eqP (r.foldl ak4 (acc++[nx],nx+1,mput eqP m ⟨false,x⟩ nx)).2.2 _=_
   rw [h3 p (hp.imp id fun hh hm=>hh (by simp [hm])),E4,if_neg]
   rintro rfl
   rcases hp with hp|hp
   ·cases hp
   ·exact hp (by simp)
theorem ay6 {m:Holds} {ks n:Int} {l:List Int} (h:n∈l):getI (J1 m ks l) n=(B9 m ks n).n:=by
 have key:∀ (l:List Int) (mm:List (Int×Int)),(n∈l∨mget eqI mm n=some (B9 m ks n).n)→mget eqI (l.foldl (fun mm n=>mput eqI mm n (B9 m ks n).n) mm) n=some (B9 m ks n).n:=by
  intro l
  induction l with
  |nil=>intro mm h;simpa using h
  |cons x r ih=>
   intro mm h
   rw [List.foldl_cons]
   apply ih
   rw [I8]
   by_cases hx:x=n
   ·right;rw [if_pos hx,hx]
   ·rw [if_neg hx]
    rcases h with h|h
    ·rcases List.mem_cons.1 h with h|h
     ·exact absurd h.symm hx
     ·exact .inl h
    ·exact .inr h
 unfold getI J1
 rw [key l [] (.inl h)]
 rfl
theorem cn1 {sp:Spans} {rd:Reads} {ks N i:Int} {x:Ins} {S:AS} {P Li Lj:Int→Prop} {nm:Int→Int} {m:Holds} {C:List Ins} {nx:Int} {Q3:SF}
  (F:Fine P ks S.holds) (hfew:fewX ks x=true) (hf:∀ n∈x.from_,P n) (hn:x.to.Nodup) (hP:∀ n∈x.to,¬ P n)
  (hd0:∀ r,H1 (getS sp r).first (getS sp r).last i=false→¬ Li r) (hd1:∀ r,H1 (getS sp r).first (getS sp r).last (i+1)=false→¬ Lj r)
  (hfl:∀ n∈x.from_,Li n) (hl:∀ n,Lj n→n∉x.to→Li n) (hnm:x.to.map nm=(List.range x.to.length).map (fun j:Nat=>nx+(j:Int))) (hx:au3 x=true)
  (h:Inv Q3 [] nm ks S m C nx) (hA:Av ks Li S):
  ∃ m',Inv Q3 [] nm ks (doOf sp rd ks N i x S) m' (C++[⟨x.op,x.n,x.to.map nm,x.from_.map nm,x.body⟩]) (nx+x.to.length)∧Av ks Lj (doOf sp rd ks N i x S):=by
 obtain ⟨hok,F3⟩:=aW5 (sp:=sp) (rd:=rd) (N:=N) (i:=i) F hfew hf hn hP
 have hfew2:=hfew
 simp only [fewX,co7,cq6] at hfew2
 have hmd:∀ n,n∈B1 x.from_↔n∈x.from_:=fun n=>as2
 obtain ⟨m1,h1,hA1,hin1,_⟩:=bg7 (sp:=sp) (rd:=rd) (N:=N) (i:=i) (fr:=B1 x.from_) hfew2.1 hd0 (fun n hh=>hfl n ((hmd n).1 hh)) (fun n hh=>hf n ((hmd n).1 hh)) (B1 x.from_) (fun _ h=>h) F h hA
 obtain ⟨S1,hS1⟩:∃ S1,D3 sp rd ks N i (B1 x.from_) S (B1 x.from_)=S1:=⟨_,rfl⟩
 have hok2:=hok.2
 have hdo:doOf sp rd ks N i x S=⟨(G7 sp rd ks N i x.to S1 x.to).holds,(G7 sp rd ks N i x.to S1 x.to).cells,(G7 sp rd ks N i x.to S1 x.to).ocells,(G7 sp rd ks N i x.to S1 x.to).code++[⟨0,0,0,⟨x.op,x.n,x.to.map (fun n=>(B9 (G7 sp rd ks N i x.to S1 x.to).holds ks n).n),x.from_.map (getI (J1 S1.holds ks (B1 x.from_))),x.body⟩⟩]⟩:=by
  rw [←hS1];rfl
 rw [hS1] at h1 hA1 hin1 hok2
 have h1':Inv Q3 x.to nm ks S1 m1 C nx:=⟨h1.run,fun q n hq hm _=>h1.slot q n hq hm (by simp),h1.cell,h1.good,h1.low⟩
 have hA1':Av ks (fun n=>Lj n∧n∉x.to) S1:=fun n hn=>hA1 n (hl n hn.1 hn.2)
 obtain ⟨m2,h2,hA2,hin2,hsl⟩:=bP9 hok2 (fun r hr hh=>hd1 r hr hh.1) h1' hA1' x.to.length (Nat.le_refl _)
 rw [cr2] at h2 hA2 hin2
 rw [hdo] at F3 ⊢
 obtain ⟨S2,hS2⟩:∃ S2,G7 sp rd ks N i x.to S1 x.to=S2:=⟨_,rfl⟩
 rw [hS2] at h2 hA2 hin2 F3 ⊢
 --where the registers that are read,and those that are written,lie
 have hfs:∀ n∈x.from_,∃ a:Nat,a<ks.toNat∧getI (J1 S1.holds ks (B1 x.from_)) n=(a:Int)∧mget eqP m2 ⟨false,(a:Int)⟩=some (nm n):=by
  intro n hn
  obtain ⟨a,ha,hs,hm⟩:=aB0 (hin1 n ((hmd n).2 hn))
  refine ⟨a,ha,by rw [ay6 ((hmd n).2 hn),hs],?_⟩
  rw [hsl]
  exact h1.slot a n ha hm (by simp)
 have hts:∀ n∈x.to,∃ a:Nat,a<ks.toNat∧(B9 S2.holds ks n).n=(a:Int)∧mget eqP S2.holds ⟨false,(a:Int)⟩=some n:=by
  intro n hn
  obtain ⟨a,ha,hs,hm⟩:=aB0 (hin2 n hn)
  exact ⟨a,ha,by rw [hs],hm⟩
 obtain ⟨tos,htos⟩:∃ tos,x.to.map (fun n=>(B9 S2.holds ks n).n)=tos:=⟨_,rfl⟩
 have htl:tos.length=x.to.length:=by rw [←htos,cr5]
 have htn:tos.Nodup:=by
  rw [←htos]
  unfold List.Nodup
  rw [List.pairwise_map]
  refine List.Pairwise.imp_of_mem ?_ hn
  intro p q hp hq hpq heq
  obtain ⟨a,ha,e1,m1'⟩:=hts p hp
  obtain ⟨b,hb,e2,m2'⟩:=hts q hq
  have hab:a=b:=by rw [e1,e2] at heq;omega
  subst hab
  rw [m1'] at m2'
  exact hpq (Option.some.inj m2')
 obtain ⟨n1,n2,n3⟩:=bg8 tos [] nx m2 htn
 have hlen:=V2 nx m2 tos
 have hfr:(x.from_.map (getI (J1 S1.holds ks (B1 x.from_)))).all (isP (m2,()))=true:=by
  rw [List.all_map,cr4]
  intro n hn
  obtain ⟨a,_,e,hm⟩:=hfs n hn
  simp only [Function.comp,isP,e,hm,Option.isSome_some]
 have hfm:(x.from_.map (getI (J1 S1.holds ks (B1 x.from_)))).map (getF m2)=x.from_.map nm:=by
  rw [List.map_map]
  apply List.map_congr_left
  intro n hn
  obtain ⟨a,_,e,hm⟩:=hfs n hn
  simp only [Function.comp,getF,e,hm,Option.getD_some]
 rw [htos]
 refine ⟨(F5 nx m2 tos).2.2,⟨?_,?_,?_,?_,h2.low⟩,?_⟩
 ·rw [av5 h2.run]
  unfold I2
  have e0:((0:Int)==0)=true:=rfl
  have e1:(F5 nx m2 tos).1=x.to.map nm:=by
   show (tos.foldl ak4 ([],nx,m2)).1=_
   rw [n1,hnm,htl,List.nil_append]
  simp only [e0,cond_true,hfr,hfm,e1,hlen.2,htl]
 ·intro q n hq hm _
  dsimp only at hm
  by_cases hnt:n∈x.to
  ·obtain ⟨j,hj⟩:=List.mem_iff_getElem?.1 hnt
   obtain ⟨a,ha,e,hma⟩:=hts n hnt
   have hqa:q=a:=F3.inj q a hq ha n hm hma
   subst hqa
   have hjt:tos[j]? =some (q:Int):=by rw [←htos,cp9,hj,Option.map_some,e]
   have hnj:nm n=nx+j:=by
    have h5:(x.to.map nm)[j]? =some (nm n):=by rw [cp9,hj];rfl
    rw [hnm,cp9,List.getElem?_range (co9.1 hj).1] at h5
    exact (Option.some.inj h5).symm
   rw [hnj]
   exact n2 j q hjt
  ·have hqt:(q:Int)∉tos:=by
    rw [←htos]
    intro hh
    obtain ⟨p,hp,he⟩:=List.mem_map.1 hh
    obtain ⟨a,ha,e,hma⟩:=hts p hp
    rw [e] at he
    have:a=q:=by omega
    subst this
    rw [hm] at hma
    exact hnt (Option.some.inj hma▸hp)
   have h6:=n3 ⟨false,(q:Int)⟩ (.inr hqt)
   show mget eqP (tos.foldl ak4 ([],nx,m2)).2.2 _=_
   rw [h6]
   exact h2.slot q n hq hm hnt
 ·intro n cl hc
  have h7:=h2.cell n cl hc
  have h6:=n3 ⟨true,cl⟩ (.inl rfl)
  refine ⟨h7.1,h7.2.1,?_⟩
  show mget eqP (tos.foldl ak4 ([],nx,m2)).2.2 _=_
  rw [h6]
  exact h7.2.2
 ·intro y hy
  dsimp only at hy
  rcases cr1.1 hy with hy|hy
  ·exact h2.good y hy
  ·rw [cp5] at hy
   subst hy
   refine ⟨?_,.inr (G0.2 htn),?_⟩
   ·unfold Z7
    rw [if_pos rfl,co7,O3,O3]
    refine ⟨fun z hz=>?_,fun z hz=>?_⟩
    ·obtain ⟨p,hp,rfl⟩:=List.mem_map.1 hz
     obtain ⟨a,ha,e,_⟩:=hfs p hp
     rw [e];omega
    ·rw [←htos] at hz
     obtain ⟨p,hp,rfl⟩:=List.mem_map.1 hz
     obtain ⟨a,ha,e,_⟩:=hts p hp
     rw [e];omega
   ·have h8:=(N3 x).1 hx
    rw [N3]
    dsimp only
    rw [htl,cr5]
    exact h8
 ·intro n hn
  by_cases hnt:n∈x.to
  ·exact .inl (hin2 n hnt)
  ·exact hA2 n ⟨hn,hnt⟩
theorem bQ0 {w:List Int} {m:Nat} {n:Int} (hw:w.Nodup) (h:w[m]? =some n):G4 w n=m:=by
 obtain ⟨hm,he⟩:=co9.1 h
 have hg:∀ i,(hi:i<w.length)→w.getD i 0=w[i]:=fun i hi=>by rw [cp8,co6 hi];rfl
 refine aA7 hm (fun i hi=>?_) (by rw [hg m hm,he])
 rw [hg i (by omega),←he]
 exact List.pairwise_iff_getElem.1 hw i m (by omega) hm hi
theorem bo3 {a:Int} {w:List Int} {m:Nat} {n:Int} (hw:w.Nodup) (h:w[m]? =some n) (hn:a≤n):R7 a w n=a+m:=by
 unfold R7
 rw [if_neg (by omega),bQ0 hw h]
theorem bo4 {b:List Ins} {k:Nat} (hk:k<b.length):b=b.take k++b.getD k ins0::b.drop (k+1):=by
 conv=>lhs;rw [←List.take_append_drop (k+1) b,A5 hk ins0]
 simp
theorem ah7 {b:List Ins} {k:Nat} (hk:k<b.length):wr (b.take (k+1))=wr (b.take k)++(b.getD k ins0).to:=by
 rw [A5 hk ins0,bo1]
theorem aP6 {a:Int} {b:List Ins} {c:List Int} (C:Checked a b c) (n:Int):∀ d k,k+d=b.length→n∈atL b c k→0≤n∧(n<a∨n∈wr (b.take k)):=by
 intro d
 induction d with
 |zero=>
  intro k hk hn
  have:k=b.length:=by omega
  subst this
  rw [ad2 b c (Nat.le_refl _),List.drop_length] at hn
  have hn:n∈C6 [] c:=hn
  rw [M0] at hn
  rcases hn with hn|hn
  ·simp at hn
  ·rw [cr2]
   exact ⟨(C.outR n hn).1,C.outT n hn⟩
 |succ d ih=>
  intro k hk hn
  have hlt:k<b.length:=by omega
  rw [ad2 b c (Nat.le_of_lt hlt),ag8 b c hlt] at hn
  have hn:n∈ag2 (b.getD k ins0) (atL b c (k+1)):=hn
  rw [V4] at hn
  rcases hn with hn|⟨hn,hnt⟩
  ·have h1:=C.there
   rw [bo4 hlt] at h1
   exact ⟨(C.fromR _ (G5 hlt ins0) n hn).1,by simpa using M2 h1 n hn⟩
  ·have h2:=ih (k+1) (by omega) hn
   rw [ah7 hlt,cr1] at h2
   exact ⟨h2.1,h2.2.imp id (fun h=>h.resolve_right hnt)⟩
theorem V6 (n:Nat) (r:Int):mget eqI (Q0 n) r=if 0≤r∧r<n then some r else none:=by
 induction n with
 |zero=>rw [if_neg (by omega)];rfl
 |succ n ih=>
  rw [aJ3,I8,ih]
  by_cases h:(n:Int)=r
  ·rw [if_pos h,if_pos (by omega),h]
  ·rw [if_neg h]
   by_cases h2:0≤r∧r<n
   ·rw [if_pos h2,if_pos (by omega)]
   ·rw [if_neg h2,if_neg (by omega)]
theorem bg9 (n:Nat) (r:Int):mget eqP (M7 n) ⟨true,r⟩=if 0≤r∧r<n then some r else none:=by
 induction n with
 |zero=>rw [if_neg (by omega)];rfl
 |succ n ih=>
  rw [ar6,E4,ih]
  by_cases h:(n:Int)=r
  ·rw [if_pos (by rw [h]),if_pos (by omega),h]
  ·rw [if_neg (by simp only [Place.mk.injEq,true_and];exact h)]
   by_cases h2:0≤r∧r<n
   ·rw [if_pos h2,if_pos (by omega)]
   ·rw [if_neg h2,if_neg (by omega)]
theorem aX4 {a:Int} {b:List Ins} {c:List Int} (C:Checked a b c) {k:Nat} (hk:k≤b.length) (r:Int) (h:H1 (getS (A6 a b c) r).first (getS (A6 a b c) r).last k=false):¬ r∈atL b c k:=by
 intro hh
 have h1:=(bt8 C r k hk).2 hh
 unfold W5 at h1
 unfold getS at h
 cases hm:mget eqI (A6 a b c) r with
 |none=>rw [hm] at h1;cases h1
 |some s=>rw [hm] at h1 h;simp only [Option.getD_some] at h;have h1:H1 s.first s.last k=true:=h1;rw [h] at h1;cases h1
def aK0 (a:Int) (w:List Int) (x:Ins):Ins:=⟨x.op,x.n,x.to.map (R7 a w),x.from_.map (R7 a w),x.body⟩
theorem cj5 {a:Int} {b:List Ins} {c:List Int} (C:Checked a b c) (hi:I7 b=true) {ks:Int} (hfew:b.all (fewX ks)=true) (rd:Reads) (N:Int):∀ k,k≤b.length→
  ∃ m,Inv (G6 a) [] (R7 a (wr b)) ks (runA (A6 a b c) rd ks N (b.take k) 0 (E8 a)) m ((b.take k).map (aK0 a (wr b))) (a+(wr (b.take k)).length)∧
   Av ks (fun n=>n∈atL b c k) (runA (A6 a b c) rd ks N (b.take k) 0 (E8 a)):=by
 intro k
 have hnd:=G0.1 C.once
 induction k with
 |zero=>
  intro _
  refine ⟨M7 a.toNat,⟨?_,?_,?_,?_,C.pos⟩,?_⟩
  ·show I4 [] (G6 a)=((M7 a.toNat,[],a+((0:Nat):Int)),true)
   rw [show a+((0:Nat):Int)=a from by omega]
   rfl
  ·intro q n _ h _
   simp [runA,E8,mget] at h
  ·intro n cl h
   have h:mget eqI (Q0 a.toNat) n=some cl:=h
   rw [V6] at h
   split at h
   ·rename_i hn
    cases h
    refine ⟨hn.1,?_,?_⟩
    ·show n<a
     have:=C.pos
     omega
    ·rw [bg9,if_pos hn]
     have:n<a:=by have:=C.pos;omega
     unfold R7
     rw [if_pos this]
   ·cases h
  ·intro x hx
   simp [runA,E8] at hx
  ·intro n hn
   right
   show (mget eqI (Q0 a.toNat) n).isSome=true
   have h1:=aP6 C n b.length 0 (by omega) hn
   have h2:n<a:=h1.2.resolve_right (by simp [wr])
   rw [V6,if_pos ⟨h1.1,by omega⟩]
   rfl
 |succ k ih=>
  intro hk
  have hlt:k<b.length:=by omega
  obtain ⟨m,h,hA⟩:=ih (by omega)
  obtain ⟨F,_⟩:=bf8 C hfew (A6 a b c) rd N k (by omega)
  have hmem:=G5 hlt ins0
  have hsp:=bo4 hlt
  obtain ⟨x,hx⟩:∃ x,b.getD k ins0=x:=⟨_,rfl⟩
  have hwt:=ah7 hlt
  have htn:=aU7 C hlt
  have hst:atL b c k=ag2 x (atL b c (k+1)):=by
   rw [←hx,ad2 b c (Nat.le_of_lt hlt),ag8 b c hlt];rfl
  rw [hx] at hmem hsp hwt htn
  have hwb:wr b=wr (b.take k)++(x.to++wr (b.drop (k+1))):=by
   conv=>lhs;rw [hsp]
   rw [P5,T9]
  have hnew:∀ n∈x.to,¬ (n<a∨n∈wr (b.take k)):=by
   rintro n hn (h1|h1)
   ·have:=C.new n (bt7.2 ⟨_,hmem,hn⟩);omega
   ·have h2:=hnd
    rw [hwb] at h2
    exact (List.nodup_append.1 h2).2.2 n h1 n (List.mem_append_left _ hn) rfl
  have hnm:x.to.map (R7 a (wr b))=(List.range x.to.length).map (fun j:Nat=>a+((wr (b.take k)).length:Int)+(j:Int)):=by
   apply List.ext_getElem?
   intro j
   rw [cp9,cp9]
   by_cases hj:j<x.to.length
   ·rw [co6 hj,List.getElem?_range hj]
    simp only [Option.map_some,co4]
    have hidx:(wr b)[(wr (b.take k)).length+j]? =some x.to[j]:=by
     rw [hwb,cq3 (by omega),show (wr (b.take k)).length+j-(wr (b.take k)).length=j from by omega,cq4 hj,co6 hj]
    rw [bo3 hnd hidx (C.new _ (bt7.2 ⟨x,hmem,List.getElem_mem hj⟩))]
    omega
   ·rw [List.getElem?_eq_none (by omega),List.getElem?_eq_none (by simp;omega)]
    rfl
  obtain ⟨m',h',hA'⟩:=cn1 (sp:=A6 a b c) (rd:=rd) (N:=N) (i:=(k:Int)) (x:=x) (Li:=fun n=>n∈atL b c k) (Lj:=fun n=>n∈atL b c (k+1)) F (cr4.1 hfew _ hmem)
   (fun n hn=>by
    have h1:=C.there
    rw [hsp] at h1
    simpa using M2 h1 n hn)
   htn hnew (fun r hr=>aX4 C (Nat.le_of_lt hlt) r hr) (fun r hr=>aX4 C (k:=k+1) hk r hr)
   (fun n hn=>by rw [hst,V4];exact .inl hn)
   (fun n hn hnt=>by rw [hst,V4];exact .inr ⟨hn,hnt⟩) hnm (av3 hi x hmem) h hA
  have hrun:runA (A6 a b c) rd ks N (b.take (k+1)) 0 (E8 a)=doOf (A6 a b c) rd ks N k x (runA (A6 a b c) rd ks N (b.take k) 0 (E8 a)):=by
   rw [A5 hlt ins0,as0,cr3,Nat.min_eq_left (by omega),hx]
  have hmap:(b.take (k+1)).map (aK0 a (wr b))=(b.take k).map (aK0 a (wr b))++[aK0 a (wr b) x]:=by
   rw [A5 hlt ins0,List.map_append,hx];rfl
  rw [hrun,hmap,hwt,cq5]
  refine ⟨m',?_,hA'⟩
  have e:a+(((wr (b.take k)).length+x.to.length:Nat):Int)=a+((wr (b.take k)).length:Int)+(x.to.length:Int):=by omega
  rw [e]
  exact h'
def cLaw2:Con RU:=con [one,one] [ints,i64] [one] [.bool] [false] none fun _=>(true,())
structure Fit (a:Int) (b:List Ins) (c:List Int) (ks:Int):Prop where
 made:Made a b c
 len:b.length≤30
 ks1:1≤ks
 ks2:ks≤64
 few:b.all (fewX ks)=true
 ok:I7 b=true
 frm:R8 b=true
theorem aP7:∀ {b:List Ins},(∀ x∈b,au3 x=true)→I7 b=true
 |[],_=>by simp [I7]
 |x::r,h=>by
  simp only [I7,co7]
  exact ⟨h x (by simp),aP7 fun y hy=>h y (by simp [hy])⟩
theorem bo5 {a:Int} {b:List Ins} {c:List Int} (M:Made a b c):I7 b=true∧R8 b=true:=by
 refine ⟨aP7 fun x hx=>?_,?_⟩
 ·rw [N3,M.bod x hx]
  have h1:=M.froms x hx
  have h2:=M.tos x hx
  exact ⟨⟨by omega,by omega,by simp⟩,by simp [I7]⟩
 ·unfold R8
  rw [cr4]
  intro x hx
  have h1:=M.froms x hx
  have h2:=M.tos x hx
  rw [co7,cq6,cq6]
  omega
theorem aK1:∀ (l:List Ins) (a:Int),a≤l.foldl (fun k x=>max (max k ((C6 [] x.from_).length:Int)) (x.to.length:Int)) a∧∀ x∈l,((C6 [] x.from_).length:Int)≤l.foldl (fun k x=>max (max k ((C6 [] x.from_).length:Int)) (x.to.length:Int)) a∧(x.to.length:Int)≤l.foldl (fun k x=>max (max k ((C6 [] x.from_).length:Int)) (x.to.length:Int)) a
 |[],a=>⟨Int.le_refl _,by simp⟩
 |y::r,a=>by
  obtain ⟨h1,h2⟩:=aK1 r (max (max a ((C6 [] y.from_).length:Int)) (y.to.length:Int))
  refine ⟨?_,fun x hx=>?_⟩
  ·rw [List.foldl_cons];omega
  ·rw [List.foldl_cons]
   rcases List.mem_cons.1 hx with rfl|hx
   ·omega
   ·exact h2 x hx
theorem bo6 (l:List Int):(B1 l).length≤(C6 [] l).length:=
 aW3 _ _ (an9 l) fun x hx=>M0.2 (.inr (as2.1 hx))
theorem cn2 {a:Int} {b:List Ins} {c:List Int} (M:Made a b c) (hl:b.length≤30) {ks:Int} (h1:N9 b≤ks) (h2:ks≤64):Fit a b c ks:=by
 have h3:=aK1 b 1
 refine ⟨M,hl,?_,h2,?_,(bo5 M).1,(bo5 M).2⟩
 ·have:=h3.1
  have h4:(1:Int)≤N9 b:=this
  omega
 ·rw [cr4]
  intro x hx
  obtain ⟨h5,h6⟩:=h3.2 x hx
  have h5:((C6 [] x.from_).length:Int)≤N9 b:=h5
  have h6:(x.to.length:Int)≤N9 b:=h6
  have h7:=bo6 x.from_
  unfold fewX
  rw [co7,cq6,cq6]
  omega
theorem bQ1 {a:Int} {b:List Ins} {c d:List Int} (M:Made a b c) (hl:b.length≤30) (n:Int) {k:Int} (hk:1≤k) (hk2:k≤60):Fit a b c (O0 ⟨a,b,c,d⟩ n k)∧O0 ⟨a,b,c,d⟩ n k≤2+k:=by
 have h1:=T4 (n:=n) hk
 have h2:=aP3 (N:=3) (by omega) b (fun x hx=>by
  have h3:=M.froms x hx
  have h4:=M.tos x hx
  omega)
 unfold O0
 dsimp only
 exact ⟨cn2 M hl (by omega) (by omega),by omega⟩
theorem bY6 (a:Int) (w:List Int) (b:List Ins):wr (b.map (aK0 a w))=(wr b).map (R7 a w):=by
 induction b with
 |nil=>rfl
 |cons x r ih=>rw [List.map_cons,T9,T9,ih,List.map_append];rfl
theorem bQ2 (a:Int) (l:List Ins):J0 a l=a+(wr l).length:=by
 have key:∀ (l:List Ins) (n:Int),l.foldl (fun n x=>n+(x.to.length:Int)) n=n+((wr l).length:Int):=by
  intro l
  induction l with
  |nil=>intro n;simp [wr]
  |cons x r ih=>
   intro n
   rw [List.foldl_cons,ih,T9,cq5]
   omega
 exact key l a
theorem cj6 {a:Int} {b:List Ins} {c:List Int} (M:Made a b c):(wr b).length≤2*b.length:=by
 have key:∀ l:List Ins,(∀ x∈l,x.to.length≤2)→(wr l).length≤2*l.length:=by
  intro l
  induction l with
  |nil=>intro _;simp [wr]
  |cons x r ih=>
   intro h
   have h1:=ih fun y hy=>h y (by simp [hy])
   have h2:=h x (by simp)
   rw [T9,cq5,cq0]
   omega
 exact key b fun x hx=>(M.tos x hx).2
theorem bD4 {a:Int} {b:List Ins} {c d:List Int} {ks:Int} (F:Fit a b c ks):
  ∃ c',A4 ⟨a,b,c,d⟩ ks=(c',0)∧c'.params=a∧c'.slots=ks∧L3 c'=0∧L7 c'=(⟨a,b.map (aK0 a (wr b)),c.map (R7 a (wr b)),[]⟩,0)∧P9 c'.code=true∧c'.out.length=c.length∧c'.code.length≤5790:=by
 have C:=F.made.chk
 obtain ⟨m,h,hA⟩:=cj5 C F.ok F.few (H8 b) b.length b.length (Nat.le_refl _)
 rw [cr2] at h hA
 have hlen:=aW6 F.ks2 (A6 a b c) (H8 b) b.length b 0 (E8 a) F.few
 obtain ⟨S,hS⟩:∃ S,runA (A6 a b c) (H8 b) ks b.length b 0 (E8 a)=S:=⟨_,rfl⟩
 rw [hS] at h hA hlen
 have e1:(E8 a).code.length=0:=rfl
 have e2:(E8 a).ocells=a:=rfl
 rw [e1,e2] at hlen
 have hbl:=F.len
 have hal:A4 ⟨a,b,c,d⟩ ks=(⟨a,ks,S.ocells,S.code,c.map (outA S ks)⟩,0):=by
  have hl:bO1 ⟨a,b,c,d⟩ ks=S:=hS
  have hk:=F.ks1
  have hk2:=F.ks2
  unfold A4
  rw [if_neg (by rw [aP4 C];simp),if_neg (by omega),if_neg (by show ¬ b.all (fewX ks)=false;rw [F.few];simp),hl]
 have hp:=F.made.par
 have hout:∀ n∈c,mget eqP m (outA S ks n)=some (R7 a (wr b) n)∧U0 ks S.ocells (outA S ks n)=true:=by
  intro n hn
  have hlive:n∈atL b c b.length:=by
   rw [ad2 b c (Nat.le_refl _),List.drop_length]
   show n∈C6 [] c
   exact M0.2 (.inr hn)
  unfold outA
  cases hc:(B9 S.holds ks n).cell with
  |true=>
   rw [cond_true]
   obtain ⟨cl,hcl⟩:∃ cl,mget eqI S.cells n=some cl:=by
    rcases hA n hlive with ⟨p,hp,hm⟩|hm
    ·exact absurd hm (N7.1 hc p hp)
    ·exact Option.isSome_iff_exists.1 hm
   have h3:=h.cell n cl hcl
   have hg:getI S.cells n=cl:=by unfold getI;rw [hcl];rfl
   rw [hg]
   refine ⟨h3.2.2,?_⟩
   unfold U0
   rw [O3]
   simp only [cp5,forall_eq,if_true]
   omega
  |false=>
   rw [cond_false]
   obtain ⟨q,hq,hs,hm⟩:=ah3 hc
   rw [hs]
   refine ⟨h.slot q n hq hm (by simp),?_⟩
   unfold U0
   rw [O3]
   simp only [cp5,forall_eq]
   rw [if_neg (by simp)]
   omega
 have houtF:P6 m (c.map (outA S ks))=(c.map (R7 a (wr b)),true):=by
  have key:∀ l:List Int,(∀ n∈l,n∈c)→P6 m (l.map (outA S ks))=(l.map (R7 a (wr b)),true):=by
   intro l
   induction l with
   |nil=>intro _;rfl
   |cons n r ih=>
    intro hl
    have h4:=(hout n (hl n (by simp))).1
    simp only [List.map_cons,P6,h4,ih fun x hx=>hl x (by simp [hx])]
  exact key c fun _ h=>h
 have hfol:C0 ⟨a,ks,S.ocells,S.code,c.map (outA S ks)⟩=(⟨a,b.map (aK0 a (wr b)),c.map (R7 a (wr b)),[]⟩,true):=by
  unfold C0
  simp only [h.run,houtF,cond_true]
 have hval:L3 ⟨a,ks,S.ocells,S.code,c.map (outA S ks)⟩=0:=by
  have hsh:I9 ⟨a,ks,S.ocells,S.code,c.map (outA S ks)⟩=true:=by
   have hk:=F.ks1
   have hk2:=F.ks2
   have hc:=C.few
   have hc0:=C.pos
   unfold I9
   simp only [co7,cq6,O3,cp5,forall_eq,cr4]
   refine ⟨⟨⟨⟨⟨⟨by omega,by omega⟩,by omega⟩,by omega⟩,by omega⟩,fun x hx=>(h.good x hx).1⟩,fun x hx=>?_⟩
   obtain ⟨n,hn,rfl⟩:=List.mem_map.1 hx
   exact (hout n hn).2
  have hdis:(S.code.all fun x=>x.kind !=0||D0 x.ins.to)=true:=by
   rw [cr4]
   intro x hx
   have:=(h.good x hx).2.1
   simpa using this
  unfold L3
  rw [if_neg (by dsimp only;omega),if_neg (by rw [hsh];simp),if_neg (by dsimp only;rw [hdis];simp),if_neg (by rw [hfol];simp)]
 refine ⟨_,hal,rfl,rfl,hval,?_,?_,by simp,by dsimp only;omega⟩
 ·unfold L7
  rw [if_neg (by rw [hval];simp),hfol]
  dsimp only
  have h5:=cj6 F.made
  rw [bQ2,bY6,cr5,cr5,if_neg (by omega)]
 ·unfold P9
  rw [cr4]
  exact fun x hx=>(h.good x hx).2.2
structure LS where
 held:List Int
 cells:List Int
 at_:Int
def ad5 (held:List Int):List (Int×Int)→List Int
 |[]=>held
 |(q,n)::r=>ad5 (held.set q.toNat n) r
def doL (ks:Int) (b:List Ins) (s:LS) (x:Ins):Bool:=
 decide (s.at_<b.length)&&decide (x.from_.length=(b.getD s.at_.toNat ins0).from_.length)&&decide (x.to.length=(b.getD s.at_.toNat ins0).to.length)&&
  ((x.from_.zip (b.getD s.at_.toNat ins0).from_).all fun p=>lies p.1 0 (ks-1)&&decide (s.held.getD p.1.toNat 0=p.2))&&x.to.all fun q=>lies q 0 (ks-1)
def ah8 (a ks:Int) (b:List Ins) (s:LS) (x:RIns):Option LS:=
 if x.kind≠0∧(lies x.slot 0 (ks-1)=false∨lies x.cell 0 s.cells.length=false) then none
 else if x.kind=1 then (if x.cell=s.cells.length∨0≤G4 s.held (s.cells.getD x.cell.toNat 0) then none else some ⟨s.held.set x.slot.toNat (s.cells.getD x.cell.toNat 0),s.cells,s.at_⟩)
 else if x.kind=2 then (if x.cell≠s.cells.length∨s.held.getD x.slot.toNat 0<a∨0≤G4 s.cells (s.held.getD x.slot.toNat 0) then none else some ⟨s.held,s.cells++[s.held.getD x.slot.toNat 0],s.at_⟩)
 else if doL ks b s x.ins=true then some ⟨ad5 s.held (x.ins.to.zip (b.getD s.at_.toNat ins0).to),s.cells,s.at_+1⟩ else none
def runL (a ks:Int) (b:List Ins):List RIns→LS→Option LS
 |[],s=>some s
 |x::r,s=>match ah8 a ks b s x with
  |some t=>runL a ks b r t
  |none=>none
def aa9 (a ks:Int):LS:=⟨List.replicate ks.toNat (-1),iota a.toNat,0⟩
theorem aX5 (a ks:Int) (b:List Ins) (r:List RIns):∀ (l:List RIns) (s:LS),runL a ks b (l++r) s=(runL a ks b l s).bind (runL a ks b r)
 |[],s=>rfl
 |x::l,s=>by
  simp only [List.cons_append,runL]
  cases ah8 a ks b s x with
  |none=>rfl
  |some t=>exact aX5 a ks b r l t
theorem as5 {a ks:Int} {b:List Ins} {l:List RIns} {s t:LS} {x:RIns} (h:runL a ks b l s=some t):runL a ks b (l++[x]) s=ah8 a ks b t x:=by
 rw [aX5,h]
 show runL a ks b [x] t=_
 simp only [runL]
 cases ah8 a ks b t x<;>rfl
structure InvL (a ks:Int) (b:List Ins) (T:List Int) (S:AS) (s:LS):Prop where
 run:runL a ks b S.code (aa9 a ks)=some s
 len:s.held.length=ks.toNat
 slot:∀ (q:Nat) (n:Int),q<ks.toNat→mget eqP S.holds ⟨false,(q:Int)⟩=some n→n∉T→s.held[q]? =some n
 back:T=[]→∀ (q:Nat) (n:Int),s.held[q]? =some n→n=-1∨mget eqP S.holds ⟨false,(q:Int)⟩=some n
 cell:∀ (n:Int) (cl:Int),mget eqI S.cells n=some cl→0≤cl∧s.cells[cl.toNat]? =some n
 celb:∀ (n:Int),n∈s.cells→(mget eqI S.cells n).isSome=true
 clen:(s.cells.length:Int)=S.ocells
 par:∀ n:Int,0≤n→n<a→(mget eqI S.cells n).isSome=true
theorem bh0 {sp:Spans} {rd:Reads} {a ks N:Int} {b:List Ins} {S:AS} {pl:Int} {st T:List Int} {s:LS} {P:Int→Prop}
  (hT:∀ x∈T,x∈st) (hok:Z0 sp rd ks N S.holds pl st) (F:Fine P ks S.holds) (hP:∀ n,P n→0≤n) (h:InvL a ks b T S s):
  ∃ (q:Nat) (t:AS) (s':LS),F6 sp rd ks N S pl st=((q:Int),t)∧q<ks.toNat∧t.holds=S.holds∧InvL a ks b T t s'∧s'.at_=s.at_∧s'.held=s.held∧
   (∀ r,mget eqP S.holds ⟨false,(q:Int)⟩=some r→r∉st∧(H1 (getS sp r).first (getS sp r).last pl=false∨(mget eqI t.cells r).isSome=true))∧
   (∀ n cl,mget eqI S.cells n=some cl→mget eqI t.cells n=some cl):=by
 obtain ⟨o,hs,hsc⟩:∃ o hs,K9 sp rd ks N S.holds pl st=(o,hs):=⟨_,_,rfl⟩
 have hspec:=aa8 sp rd N S.holds pl st (List.range ks.toNat) []
 cases o with
 |some i=>
  obtain ⟨q,hq,rfl,hr⟩:=hspec.1 i hs hsc
  have hq:q<ks.toNat:=by simpa using hq
  refine ⟨q,S,s,by unfold F6;rw [hsc],hq,rfl,h,rfl,rfl,fun r hm=>⟨(hr r hm).1,.inl (hr r hm).2⟩,fun n cl hc=>hc⟩
 |none=>
  have hne:hs≠[]:=by have:=hok (by rw [hsc]);rw [hsc] at this;exact this
  have hb:=hspec.2 hs hsc _ (bu3 hne)
  rcases hb with hb|⟨q,hq,hbs,hbm,hbr⟩
  ·simp at hb
  have hq:q<ks.toNat:=by simpa using hq
  have hroom:F6 sp rd ks N S pl st=((q:Int),ad3 S (K1 hs)):=by unfold F6;rw [hsc];simp only [hbs]
  obtain ⟨x,hx⟩:∃ x,K1 hs=x:=⟨_,rfl⟩
  rw [hx] at hbs hbm hbr hroom
  cases hcx:(mget eqI S.cells x.reg).isSome with
  |true=>
   have he:ad3 S x=S:=by unfold ad3;rw [hcx];rfl
   rw [he] at hroom
   exact ⟨q,S,s,hroom,hq,rfl,h,rfl,rfl,fun r hm=>by rw [hbm] at hm;cases hm;exact ⟨hbr,.inr hcx⟩,fun n cl hc=>hc⟩
  |false=>
   have he:ad3 S x=⟨S.holds,mput eqI S.cells x.reg S.ocells,S.ocells+1,S.code++[⟨2,x.slot,S.ocells,ins0⟩]⟩:=by unfold ad3;rw [hcx];rfl
   rw [he,hbs] at hroom
   have hmq:=h.slot q x.reg hq hbm (fun hh=>hbr (hT _ hh))
   have hcn:mget eqI S.cells x.reg=none:=by cases hh:mget eqI S.cells x.reg with|none=>rfl|some _=>rw [hh] at hcx;cases hcx
   have hge:¬ x.reg<a:=by
    intro hlt
    have:=h.par x.reg (hP _ (F.reg q hq _ hbm)) hlt
    rw [hcx] at this
    cases this
   have hnc:x.reg∉s.cells:=fun hh=>by have:=h.celb _ hh;rw [hcx] at this;cases this
   have hgd:s.held.getD q 0=x.reg:=by rw [cp8,hmq];rfl
   have hwh:¬ 0≤G4 s.cells x.reg:=fun hh=>hnc (aH1.1 hh)
   have hlen:=h.clen
   have hstep:ah8 a ks b s ⟨2,(q:Int),S.ocells,ins0⟩=some ⟨s.held,s.cells++[x.reg],s.at_⟩:=by
    unfold ah8
    have l1:lies (q:Int) 0 (ks-1)=true:=by unfold lies;rw [co7,cq6,cq6];omega
    have l2:lies S.ocells 0 s.cells.length=true:=by unfold lies;rw [co7,cq6,cq6];omega
    dsimp only
    rw [l1,l2,co8,hgd]
    rw [if_neg (by simp),if_neg (by omega),if_pos rfl,if_neg (by rintro (h1|h1|h1)<;>omega)]
   refine ⟨q,_,⟨s.held,s.cells++[x.reg],s.at_⟩,hroom,hq,rfl,⟨?_,h.len,h.slot,h.back,?_,?_,?_,?_⟩,rfl,rfl,?_,?_⟩
   ·rw [as5 h.run]
    exact hstep
   ·intro n cl hc
    dsimp only at hc ⊢
    rw [I8] at hc
    by_cases hn:x.reg=n
    ·rw [if_pos hn] at hc
     cases hc
     refine ⟨by omega,?_⟩
     rw [cq3 (by omega),show S.ocells.toNat-s.cells.length=0 from by omega,←hn]
     rfl
    ·rw [if_neg hn] at hc
     have h8:=h.cell n cl hc
     refine ⟨h8.1,?_⟩
     rw [cq4 (co9.1 h8.2).1]
     exact h8.2
   ·intro n hn
    dsimp only at hn ⊢
    rw [I8]
    by_cases hx:x.reg=n
    ·rw [if_pos hx];rfl
    ·rw [if_neg hx]
     rcases cr1.1 hn with hn|hn
     ·exact h.celb n hn
     ·rw [cp5] at hn
      exact absurd hn.symm hx
   ·dsimp only
    rw [cq5,cq8]
    omega
   ·intro n h0 h1
    dsimp only
    rw [I8]
    by_cases hx:x.reg=n
    ·rw [if_pos hx];rfl
    ·rw [if_neg hx];exact h.par n h0 h1
   ·intro r hm
    rw [hbm] at hm
    cases hm
    refine ⟨hbr,.inr ?_⟩
    dsimp only
    rw [I8,if_pos rfl]
    rfl
   ·intro n cl hc
    dsimp only
    rw [I8]
    by_cases hn:x.reg=n
    ·rw [hn,hc] at hcn;cases hcn
    ·rw [if_neg hn];exact hc
theorem aB1 {q:Nat} {ks:Int} (h:q<ks.toNat):lies (q:Int) 0 (ks-1)=true:=by
 unfold lies
 rw [co7,cq6,cq6]
 omega
theorem bQ3 {sp:Spans} {rd:Reads} {a ks N i:Int} {b:List Ins} {fr:List Int} {S:AS} {n:Int} {P L:Int→Prop} {s:LS}
  (F:Fine P ks S.holds) (hP:∀ n,P n→0≤n) (hPn:P n) (hfr:n∈fr) (hlen:(fr.length:Int)≤ks) (hdead:∀ r,H1 (getS sp r).first (getS sp r).last i=false→¬ L r) (hL:L n)
  (h:InvL a ks b [] S s) (hA:Av ks L S):
  ∃ s',InvL a ks b [] (D4 sp rd ks N i fr S n) s'∧s'.at_=s.at_∧Av ks L (D4 sp rd ks N i fr S n)∧InS (D4 sp rd ks N i fr S n).holds ks n∧(∀ x∈fr,InS S.holds ks x→InS (D4 sp rd ks N i fr S n).holds ks x):=by
 cases hc:(B9 S.holds ks n).cell with
 |false=>
  have he:D4 sp rd ks N i fr S n=S:=by unfold D4;rw [hc];rfl
  rw [he]
  obtain ⟨q,hq,_,hm⟩:=ah3 hc
  exact ⟨s,h,rfl,hA,⟨q,hq,hm⟩,fun _ _ h=>h⟩
 |true=>
  have hni:=N7.1 hc
  obtain ⟨q,t,s',hroom,hq,ht,hI,hat,hhe,hv,hcs⟩:=bh0 (sp:=sp) (rd:=rd) (N:=N) (pl:=i) (st:=fr) (T:=[]) (by simp) (as1 F hni hfr hlen sp rd N i) F hP h
  have he:D4 sp rd ks N i fr S n=⟨mput eqP t.holds ⟨false,(q:Int)⟩ n,t.cells,t.ocells,t.code++[⟨1,(q:Int),getI t.cells n,ins0⟩]⟩:=by
   unfold D4;rw [hc,hroom];rfl
  rw [he]
  obtain ⟨cl,hcl⟩:∃ cl,mget eqI S.cells n=some cl:=by
   rcases hA n hL with ⟨p,hp,hm⟩|hm
   ·exact absurd hm (hni p hp)
   ·exact Option.isSome_iff_exists.1 hm
  have hct:=hcs n cl hcl
  have hg:getI t.cells n=cl:=by unfold getI;rw [hct];rfl
  have hcm:=hI.cell n cl hct
  have hcll:=(co9.1 hcm.2).1
  have hgd:s'.cells.getD cl.toNat 0=n:=by rw [cp8,hcm.2];rfl
  have hnh:¬ 0≤G4 s'.held n:=by
   intro hh
   obtain ⟨p,hp⟩:=List.mem_iff_getElem?.1 (aH1.1 hh)
   have hpl:=(co9.1 hp).1
   rw [hI.len] at hpl
   rcases hI.back rfl p n hp with h1|h1
   ·have:=hP n hPn;omega
   ·rw [ht] at h1;exact hni p hpl h1
  have hstep:ah8 a ks b s' ⟨1,(q:Int),cl,ins0⟩=some ⟨s'.held.set q n,s'.cells,s'.at_⟩:=by
   unfold ah8
   have l2:lies cl 0 s'.cells.length=true:=by unfold lies;rw [co7,cq6,cq6];omega
   dsimp only
   rw [aB1 hq,l2,co8,hgd]
   rw [if_neg (by simp),if_pos rfl,if_neg (by rintro (h1|h1)<;>omega)]
  rw [hg]
  refine ⟨⟨s'.held.set q n,s'.cells,s'.at_⟩,⟨?_,?_,?_,?_,hI.cell,hI.celb,hI.clen,hI.par⟩,hat,?_,?_,?_⟩
  ·rw [as5 hI.run]
   exact hstep
  ·dsimp only
   rw [List.length_set]
   exact hI.len
  ·intro q' r hq' hr _
   dsimp only at hr ⊢
   rw [E4] at hr
   by_cases hqq:q=q'
   ·subst hqq
    rw [if_pos rfl] at hr
    cases hr
    rw [List.getElem?_set_self (by rw [hI.len];exact hq)]
   ·rw [if_neg (by simp only [Place.mk.injEq,true_and];omega)] at hr
    rw [List.getElem?_set_ne (by omega)]
    exact hI.slot q' r hq' hr (by simp)
  ·intro _ q' r hr
   dsimp only at hr ⊢
   rw [E4]
   by_cases hqq:q=q'
   ·subst hqq
    rw [List.getElem?_set_self (by rw [hI.len];exact hq)] at hr
    cases hr
    right
    rw [if_pos rfl]
   ·rw [List.getElem?_set_ne (by omega)] at hr
    rw [if_neg (by simp only [Place.mk.injEq,true_and];omega)]
    exact hI.back rfl q' r hr
  ·exact bu5 hA ht hcs (fun r hr=>(hv r hr).2.imp (hdead r) id)
  ·exact ⟨q,hq,by dsimp only;rw [E4,if_pos rfl]⟩
  ·intro x hx hi
   exact aX3 ht (fun r hr hh=>(hv r hr).1 (hh▸hx)) hi
theorem aP8 {sp:Spans} {rd:Reads} {a ks N i:Int} {b:List Ins} {fr:List Int} {P L:Int→Prop}
  (hlen:(fr.length:Int)≤ks) (hdead:∀ r,H1 (getS sp r).first (getS sp r).last i=false→¬ L r) (hL:∀ n∈fr,L n) (hPf:∀ n∈fr,P n) (hP:∀ n,P n→0≤n):
  ∀ (l:List Int) {S:AS} {s:LS},(∀ n∈l,n∈fr)→Fine P ks S.holds→InvL a ks b [] S s→Av ks L S→
  ∃ s',InvL a ks b [] (D3 sp rd ks N i fr S l) s'∧s'.at_=s.at_∧Av ks L (D3 sp rd ks N i fr S l)∧(∀ x∈l,InS (D3 sp rd ks N i fr S l).holds ks x)∧(∀ x∈fr,InS S.holds ks x→InS (D3 sp rd ks N i fr S l).holds ks x)
 |[],S,s,_,_,h,hA=>⟨s,h,rfl,hA,by simp,fun _ _ h=>h⟩
 |n::r,S,s,hl,F,h,hA=>by
  have hn:=hl n (by simp)
  obtain ⟨m1,h1,h1a,h2,h3,h4⟩:=bQ3 (sp:=sp) (rd:=rd) (N:=N) F hP (hPf n hn) hn hlen hdead (hL n hn) h hA
  have F1:Fine P ks (D4 sp rd ks N i fr S n).holds:=V5 (sp:=sp) (rd:=rd) (N:=N) (i:=i) (fr:=fr) [n] F (by simpa using hPf n hn)
  obtain ⟨m2,g1,g1a,g2,g3,g4⟩:=aP8 hlen hdead hL hPf hP r (fun x hx=>hl x (by simp [hx])) F1 h1 h2
  refine ⟨m2,g1,g1a.trans h1a,g2,fun x hx=>?_,fun x hx hi=>g4 x hx (h4 x hx hi)⟩
  rcases List.mem_cons.1 hx with rfl|hx
  ·exact g4 _ hn h3
  ·exact g3 x hx
theorem cj7 {sp:Spans} {rd:Reads} {a ks N i:Int} {b:List Ins} {to:List Int} {S:AS} {n:Int} {P L:Int→Prop} {s:LS}
  (F:Fine P ks S.holds) (hP:∀ n,P n→0≤n) (hn:n∈to) (hok:Z0 sp rd ks N S.holds (i+1) to) (hdead:∀ r,H1 (getS sp r).first (getS sp r).last (i+1)=false→¬ L r)
  (h:InvL a ks b to S s) (hA:Av ks L S):
  ∃ s',InvL a ks b to (M3 sp rd ks N i to S n) s'∧s'.at_=s.at_∧s'.held=s.held∧Av ks L (M3 sp rd ks N i to S n)∧InS (M3 sp rd ks N i to S n).holds ks n∧(∀ x∈to,InS S.holds ks x→InS (M3 sp rd ks N i to S n).holds ks x)∧
   (∀ q:Nat,mget eqP (M3 sp rd ks N i to S n).holds ⟨false,(q:Int)⟩=mget eqP S.holds ⟨false,(q:Int)⟩∨∃ r∈to,mget eqP (M3 sp rd ks N i to S n).holds ⟨false,(q:Int)⟩=some r):=by
 obtain ⟨q,t,s',hroom,hq,ht,hI,hat,hhe,hv,hcs⟩:=bh0 (T:=to) (fun _ h=>h) hok F hP h
 have he:M3 sp rd ks N i to S n=⟨mput eqP t.holds ⟨false,(q:Int)⟩ n,t.cells,t.ocells,t.code⟩:=by
  unfold M3;rw [hroom]
 rw [he]
 refine ⟨s',⟨hI.run,hI.len,?_,fun hh=>(by rw [hh] at hn;simp at hn),hI.cell,hI.celb,hI.clen,hI.par⟩,hat,hhe,?_,?_,?_,?_⟩
 ·intro q' r hq' hr hrt
  dsimp only at hr
  rw [E4] at hr
  by_cases hqq:(⟨false,(q:Int)⟩:Place)=⟨false,(q':Int)⟩
  ·rw [if_pos hqq] at hr
   cases hr
   exact absurd hn hrt
  ·rw [if_neg hqq] at hr
   exact hI.slot q' r hq' hr hrt
 ·exact bu5 hA ht hcs (fun r hr=>(hv r hr).2.imp (hdead r) id)
 ·exact ⟨q,hq,by dsimp only;rw [E4,if_pos rfl]⟩
 ·intro x hx hi
  exact aX3 ht (fun r hr hh=>(hv r hr).1 (hh▸hx)) hi
 ·intro q'
  dsimp only
  rw [E4]
  by_cases hqq:(⟨false,(q:Int)⟩:Place)=⟨false,(q':Int)⟩
  ·rw [if_pos hqq]
   exact .inr ⟨n,hn,rfl⟩
  ·rw [if_neg hqq,ht]
   exact .inl rfl
theorem bu6 {sp:Spans} {rd:Reads} {a ks N i:Int} {b:List Ins} {to:List Int} {S:AS} {P L:Int→Prop} {s:LS}
  (F:Fine P ks S.holds) (hnd:to.Nodup) (hnP:∀ n∈to,¬ P n) (hP:∀ n,P n→0≤n) (hto:∀ n∈to,0≤n)
  (hok:∀ k,k<to.length→Z0 sp rd ks N (G7 sp rd ks N i to S (to.take k)).holds (i+1) to) (hdead:∀ r,H1 (getS sp r).first (getS sp r).last (i+1)=false→¬ L r)
  (h:InvL a ks b to S s) (hA:Av ks L S):∀ k,k≤to.length→
  ∃ s',InvL a ks b to (G7 sp rd ks N i to S (to.take k)) s'∧s'.at_=s.at_∧s'.held=s.held∧Av ks L (G7 sp rd ks N i to S (to.take k))∧(∀ x∈to.take k,InS (G7 sp rd ks N i to S (to.take k)).holds ks x)∧
   (∀ q:Nat,mget eqP (G7 sp rd ks N i to S (to.take k)).holds ⟨false,(q:Int)⟩=mget eqP S.holds ⟨false,(q:Int)⟩∨∃ r∈to,mget eqP (G7 sp rd ks N i to S (to.take k)).holds ⟨false,(q:Int)⟩=some r)
 |0,_=>⟨s,by simpa [G7] using h,rfl,rfl,by simpa [G7] using hA,by simp,fun q=>.inl (by simp [G7])⟩
 |k+1,hk=>by
  obtain ⟨m1,h1,h1a,h1h,h2,h3,h4⟩:=bu6 F hnd hnP hP hto hok hdead h hA k (by omega)
  have hg:=G5 (l:=to) (i:=k) (by omega) 0
  have F1:=(aW4 (sp:=sp) (rd:=rd) (N:=N) (i:=i) F hnd hnP k (by omega)).1
  obtain ⟨m2,g1,g1a,g1h,g2,g3,g4,g5⟩:=cj7 (n:=to.getD k 0) F1 (fun n hn=>by
   rcases hn with hn|hn
   ·exact hP n hn
   ·exact hto n (List.mem_of_mem_take hn)) hg (hok k (by omega)) hdead h1 h2
  rw [A5 (by omega) 0,aP5]
  refine ⟨m2,g1,g1a.trans h1a,g1h.trans h1h,g2,fun x hx=>?_,fun q=>?_⟩
  ·rcases cr1.1 hx with hx|hx
   ·exact g4 x (List.mem_of_mem_take hx) (h3 x hx)
   ·rw [cp5] at hx
    subst hx
    exact g3
  ·rcases g5 q with g5|g5
   ·rw [g5];exact h4 q
   ·exact .inr g5
theorem T5:∀ (l:List (Int×Int)) (held:List Int),(ad5 held l).length=held.length
 |[],_=>rfl
 |(q,n)::r,held=>by
  show (ad5 (held.set q.toNat n) r).length=_
  rw [T5 r,List.length_set]
theorem bh1:∀ (qs:List Nat) (ns:List Int) (held:List Int),qs.Nodup→qs.length=ns.length→(∀ q∈qs,q<held.length)→
  (∀ (j:Nat) (q:Nat) (n:Int),qs[j]? =some q→ns[j]? =some n→(ad5 held ((qs.map fun q:Nat=>(q:Int)).zip ns))[q]? =some n)∧
  (∀ q:Nat,q∉qs→(ad5 held ((qs.map fun q:Nat=>(q:Int)).zip ns))[q]? =held[q]?)
 |[],[],held,_,_,_=>⟨fun j q n h=>by simp at h,fun q _=>rfl⟩
 |[],_::_,_,_,h,_=>by simp at h
 |_::_,[],_,_,h,_=>by simp at h
 |q0::qs,n0::ns,held,hnd,hl,hlt=>by
  obtain ⟨hq,hnd⟩:=List.nodup_cons.1 hnd
  have e:ad5 held (((q0::qs).map fun q:Nat=>(q:Int)).zip (n0::ns))=ad5 (held.set q0 n0) ((qs.map fun q:Nat=>(q:Int)).zip ns):=by
   show ad5 (held.set (q0:Int).toNat n0) _=_
   rw [co8]
   rfl
  rw [e]
  obtain ⟨h1,h2⟩:=bh1 qs ns (held.set q0 n0) hnd (by simpa using hl) (fun q hq=>by rw [List.length_set];exact hlt q (by simp [hq]))
  refine ⟨fun j q n hj hn=>?_,fun q hq'=>?_⟩
  ·cases j with
   |zero=>
    simp only [cp2,co4] at hj hn
    subst hj;subst hn
    rw [h2 q0 hq,List.getElem?_set_self (hlt q0 (by simp))]
   |succ j=>exact h1 j q n (by simpa using hj) (by simpa using hn)
  ·have hne:q≠q0:=fun hh=>hq' (by simp [hh])
   rw [h2 q (fun hh=>hq' (by simp [hh])),List.getElem?_set_ne (fun hh=>hne hh.symm)]
theorem cj8 {sp:Spans} {rd:Reads} {a ks N i:Int} {b:List Ins} {x:Ins} {S:AS} {P Li Lj:Int→Prop} {s:LS}
  (F:Fine P ks S.holds) (hPp:∀ n,P n→0≤n) (hto:∀ n∈x.to,0≤n) (hfew:fewX ks x=true) (hf:∀ n∈x.from_,P n) (hn:x.to.Nodup) (hP:∀ n∈x.to,¬ P n)
  (hd0:∀ r,H1 (getS sp r).first (getS sp r).last i=false→¬ Li r) (hd1:∀ r,H1 (getS sp r).first (getS sp r).last (i+1)=false→¬ Lj r)
  (hfl:∀ n∈x.from_,Li n) (hl:∀ n,Lj n→n∉x.to→Li n) (hat0:0≤s.at_) (hat:s.at_<b.length) (hx:b.getD s.at_.toNat ins0=x)
  (h:InvL a ks b [] S s) (hA:Av ks Li S):
  ∃ s',InvL a ks b [] (doOf sp rd ks N i x S) s'∧s'.at_=s.at_+1∧Av ks Lj (doOf sp rd ks N i x S):=by
 obtain ⟨hok,F3⟩:=aW5 (sp:=sp) (rd:=rd) (N:=N) (i:=i) F hfew hf hn hP
 have hfew2:=hfew
 simp only [fewX,co7,cq6] at hfew2
 have hmd:∀ n,n∈B1 x.from_↔n∈x.from_:=fun n=>as2
 obtain ⟨s1,h1,h1a,hA1,hin1,_⟩:=aP8 (sp:=sp) (rd:=rd) (N:=N) (i:=i) (fr:=B1 x.from_) hfew2.1 hd0 (fun n hh=>hfl n ((hmd n).1 hh)) (fun n hh=>hf n ((hmd n).1 hh)) hPp (B1 x.from_) (fun _ h=>h) F h hA
 have F1:Fine P ks (D3 sp rd ks N i (B1 x.from_) S (B1 x.from_)).holds:=V5 (B1 x.from_) F (fun n hh=>hf n ((hmd n).1 hh))
 obtain ⟨S1,hS1⟩:∃ S1,D3 sp rd ks N i (B1 x.from_) S (B1 x.from_)=S1:=⟨_,rfl⟩
 have hok2:=hok.2
 have hdo:doOf sp rd ks N i x S=⟨(G7 sp rd ks N i x.to S1 x.to).holds,(G7 sp rd ks N i x.to S1 x.to).cells,(G7 sp rd ks N i x.to S1 x.to).ocells,(G7 sp rd ks N i x.to S1 x.to).code++[⟨0,0,0,⟨x.op,x.n,x.to.map (fun n=>(B9 (G7 sp rd ks N i x.to S1 x.to).holds ks n).n),x.from_.map (getI (J1 S1.holds ks (B1 x.from_))),x.body⟩⟩]⟩:=by
  rw [←hS1];rfl
 rw [hS1] at h1 hA1 hin1 hok2 F1
 have h1':InvL a ks b x.to S1 s1:=⟨h1.run,h1.len,fun q n hq hm _=>h1.slot q n hq hm (by simp),fun _=>h1.back rfl,h1.cell,h1.celb,h1.clen,h1.par⟩
 have hA1':Av ks (fun n=>Lj n∧n∉x.to) S1:=fun n hn=>hA1 n (hl n hn.1 hn.2)
 obtain ⟨s2,h2,h2a,h2h,hA2,hin2,hun⟩:=bu6 F1 hn hP hPp hto hok2 (fun r hr hh=>hd1 r hr hh.1) h1' hA1' x.to.length (Nat.le_refl _)
 rw [cr2] at h2 hA2 hin2 hun
 rw [hdo] at F3 ⊢
 obtain ⟨S2,hS2⟩:∃ S2,G7 sp rd ks N i x.to S1 x.to=S2:=⟨_,rfl⟩
 rw [hS2] at h2 hA2 hin2 F3 hun ⊢
 have hfs:∀ n∈x.from_,∃ q:Nat,q<ks.toNat∧getI (J1 S1.holds ks (B1 x.from_)) n=(q:Int)∧s2.held[q]? =some n:=by
  intro n hn
  obtain ⟨q,hq,hs,hm⟩:=aB0 (hin1 n ((hmd n).2 hn))
  refine ⟨q,hq,by rw [ay6 ((hmd n).2 hn),hs],?_⟩
  rw [h2h]
  exact h1.slot q n hq hm (by simp)
 have hts:∀ n∈x.to,∃ q:Nat,q<ks.toNat∧(B9 S2.holds ks n).n=(q:Int)∧mget eqP S2.holds ⟨false,(q:Int)⟩=some n:=by
  intro n hn
  obtain ⟨q,hq,hs,hm⟩:=aB0 (hin2 n hn)
  exact ⟨q,hq,by rw [hs],hm⟩
 --the slots that are written,as ab6 numbers
 obtain ⟨qs,hqs⟩:∃ qs:List Nat,x.to.map (fun n=>(B9 S2.holds ks n).n.toNat)=qs:=⟨_,rfl⟩
 have htos:x.to.map (fun n=>(B9 S2.holds ks n).n)=qs.map fun q:Nat=>(q:Int):=by
  rw [←hqs,List.map_map]
  apply List.map_congr_left
  intro n hn
  obtain ⟨q,_,e,_⟩:=hts n hn
  simp only [Function.comp,e,co8]
 have hql:qs.length=x.to.length:=by rw [←hqs,cr5]
 have hqm:∀ (j:Nat) (q:Nat) (n:Int),qs[j]? =some q→x.to[j]? =some n→q<ks.toNat∧mget eqP S2.holds ⟨false,(q:Int)⟩=some n:=by
  intro j q n hj hn
  rw [←hqs,cp9,hn] at hj
  simp only [Option.map_some,co4] at hj
  obtain ⟨p,hp,e,hm⟩:=hts n (List.mem_of_getElem? hn)
  rw [e,co8] at hj
  subst hj
  exact ⟨hp,hm⟩
 have hqex:∀ q∈qs,∃ n∈x.to,q<ks.toNat∧mget eqP S2.holds ⟨false,(q:Int)⟩=some n:=by
  intro q hq
  rw [←hqs] at hq
  obtain ⟨n,hn,rfl⟩:=List.mem_map.1 hq
  obtain ⟨p,hp,e,hm⟩:=hts n hn
  rw [e,co8]
  exact ⟨n,hn,hp,hm⟩
 have hqn:qs.Nodup:=by
  rw [←hqs]
  unfold List.Nodup
  rw [List.pairwise_map]
  refine List.Pairwise.imp_of_mem ?_ hn
  intro p q hp hq hpq heq
  obtain ⟨u,hu,e1,m1'⟩:=hts p hp
  obtain ⟨v,hv,e2,m2'⟩:=hts q hq
  rw [e1,e2,co8,co8] at heq
  subst heq
  rw [m1'] at m2'
  exact hpq (Option.some.inj m2')
 have hlen2:=h2.len
 obtain ⟨g1,g2⟩:=bh1 qs x.to s2.held hqn hql (fun q hq=>by obtain ⟨n,_,hq',_⟩:=hqex q hq;rw [hlen2];exact hq')
 have hat2:s2.at_=s.at_:=h2a.trans h1a
 rw [htos]
 have hstep:ah8 a ks b s2 ⟨0,0,0,⟨x.op,x.n,qs.map fun q:Nat=>(q:Int),x.from_.map (getI (J1 S1.holds ks (B1 x.from_))),x.body⟩⟩=some ⟨ad5 s2.held ((qs.map fun q:Nat=>(q:Int)).zip x.to),s2.cells,s2.at_+1⟩:=by
  have hdl:doL ks b s2 ⟨x.op,x.n,qs.map fun q:Nat=>(q:Int),x.from_.map (getI (J1 S1.holds ks (B1 x.from_))),x.body⟩=true:=by
   unfold doL
   simp only [hat2,hx,co7,cq6,cr5,hql,cr4]
   refine ⟨⟨⟨⟨hat,trivial⟩,trivial⟩,fun p hp=>?_⟩,fun q hq=>?_⟩
   ·obtain ⟨j,hj⟩:=List.mem_iff_getElem?.1 hp
    rw [List.getElem?_zip_eq_some,cp9] at hj
    obtain ⟨hj1,hj2⟩:=hj
    rw [hj2] at hj1
    simp only [Option.map_some,co4] at hj1
    obtain ⟨q,hq,e,hh⟩:=hfs p.2 (List.mem_of_getElem? hj2)
    rw [←hj1,e,co8]
    exact ⟨aB1 hq,by rw [cp8,hh];rfl⟩
   ·obtain ⟨p,hp,rfl⟩:=List.mem_map.1 hq
    obtain ⟨n,_,hp',_⟩:=hqex p hp
    exact aB1 hp'
  unfold ah8
  rw [if_neg (by simp),if_neg (by simp),if_neg (by simp),if_pos hdl,hat2,hx]
 refine ⟨⟨ad5 s2.held ((qs.map fun q:Nat=>(q:Int)).zip x.to),s2.cells,s2.at_+1⟩,⟨?_,?_,?_,?_,h2.cell,h2.celb,h2.clen,h2.par⟩,by dsimp only;rw [hat2],?_⟩
 ·rw [as5 h2.run]
  exact hstep
 ·dsimp only
  rw [T5]
  exact hlen2
 ·intro q n hq hm _
  dsimp only at hm ⊢
  by_cases hqq:q∈qs
  ·obtain ⟨j,hj⟩:=List.mem_iff_getElem?.1 hqq
   have hjl:j<x.to.length:=by rw [←hql];exact (co9.1 hj).1
   have h9:=hqm j q _ hj (co6 hjl)
   rw [hm] at h9
   rw [g1 j q _ hj (co6 hjl),←Option.some.inj h9.2]
  ·rw [g2 q hqq]
   refine h2.slot q n hq hm fun hnt=>hqq ?_
   obtain ⟨p,hp,e,hmp⟩:=hts n hnt
   have:q=p:=F3.inj q p hq hp n hm hmp
   subst this
   rw [←hqs]
   exact List.mem_map.2 ⟨n,hnt,by rw [e,co8]⟩
 ·intro _ q n hr
  dsimp only at hr ⊢
  have hql2:=(co9.1 hr).1
  rw [T5,hlen2] at hql2
  by_cases hqq:q∈qs
  ·obtain ⟨j,hj⟩:=List.mem_iff_getElem?.1 hqq
   have hjl:j<x.to.length:=by rw [←hql];exact (co9.1 hj).1
   rw [g1 j q _ hj (co6 hjl)] at hr
   cases hr
   right
   exact (hqm j q _ hj (co6 hjl)).2
  ·rw [g2 q hqq,h2h] at hr
   rcases h1.back rfl q n hr with h9|h9
   ·exact .inl h9
   ·right
    rcases hun q with hu|⟨r,hr1,hr2⟩
    ·rw [hu];exact h9
    ·exfalso
     obtain ⟨p,hp,e,hmp⟩:=hts r hr1
     have:q=p:=F3.inj q p hql2 hp r hr2 hmp
     subst this
     refine hqq ?_
     rw [←hqs]
     exact List.mem_map.2 ⟨r,hr1,by rw [e,co8]⟩
 ·intro n hn
  by_cases hnt:n∈x.to
  ·exact .inl (hin2 n hnt)
  ·exact hA2 n ⟨hn,hnt⟩
theorem bY7 (n:Nat) (k:Nat):(iota n)[k]? =if k<n then some (k:Int) else none:=by
 unfold iota
 rw [cp9]
 by_cases h:k<n
 ·rw [List.getElem?_range h,if_pos h];rfl
 ·rw [List.getElem?_eq_none (by simp;omega),if_neg h];rfl
theorem bY8 {a:Int} {b:List Ins} {c:List Int} (C:Checked a b c) {ks:Int} (hfew:b.all (fewX ks)=true) (rd:Reads) (N:Int):∀ k,k≤b.length→
  ∃ s,InvL a ks b [] (runA (A6 a b c) rd ks N (b.take k) 0 (E8 a)) s∧s.at_=k∧Av ks (fun n=>n∈atL b c k) (runA (A6 a b c) rd ks N (b.take k) 0 (E8 a))∧
   Fine (fun r=>0≤r∧(r<a∨r∈wr (b.take k))) ks (runA (A6 a b c) rd ks N (b.take k) 0 (E8 a)).holds:=by
 intro k
 have hnd:=G0.1 C.once
 have hpos:=C.pos
 induction k with
 |zero=>
  intro _
  refine ⟨aa9 a ks,⟨rfl,by simp [aa9],?_,?_,?_,?_,?_,?_⟩,rfl,?_,?_⟩
  ·intro q n _ h _
   simp [runA,E8,mget] at h
  ·intro _ q n h
   left
   have h:(List.replicate ks.toNat (-1:Int))[q]? =some n:=h
   rw [List.getElem?_replicate] at h
   split at h
   ·exact (Option.some.inj h).symm
   ·cases h
  ·intro n cl h
   have h:mget eqI (Q0 a.toNat) n=some cl:=h
   rw [V6] at h
   split at h
   ·rename_i hn
    cases h
    refine ⟨hn.1,?_⟩
    show (iota a.toNat)[n.toNat]? =some n
    rw [bY7,if_pos (by omega)]
    congr 1
    omega
   ·cases h
  ·intro n hn
   have hn:n∈iota a.toNat:=hn
   rw [aX2] at hn
   show (mget eqI (Q0 a.toNat) n).isSome=true
   rw [V6,if_pos hn]
   rfl
  ·show ((iota a.toNat).length:Int)=a
   rw [W9]
   omega
  ·intro n h0 h1
   show (mget eqI (Q0 a.toNat) n).isSome=true
   rw [V6,if_pos ⟨h0,by omega⟩]
   rfl
  ·intro n hn
   right
   show (mget eqI (Q0 a.toNat) n).isSome=true
   have h1:=aP6 C n b.length 0 (by omega) hn
   have h2:n<a:=h1.2.resolve_right (by simp [wr])
   rw [V6,if_pos ⟨h1.1,by omega⟩]
   rfl
  ·exact ⟨fun x y _ _ r h=>by simp [runA,E8,mget] at h,fun x _ r h=>by simp [runA,E8,mget] at h⟩
 |succ k ih=>
  intro hk
  have hlt:k<b.length:=by omega
  obtain ⟨s,h,hat,hA,F⟩:=ih (by omega)
  have hmem:=G5 hlt ins0
  have hsp:=bo4 hlt
  obtain ⟨x,hx⟩:∃ x,b.getD k ins0=x:=⟨_,rfl⟩
  have hwt:=ah7 hlt
  have htn:=aU7 C hlt
  have hst:atL b c k=ag2 x (atL b c (k+1)):=by
   rw [←hx,ad2 b c (Nat.le_of_lt hlt),ag8 b c hlt];rfl
  rw [hx] at hmem hsp hwt htn
  have hwb:wr b=wr (b.take k)++(x.to++wr (b.drop (k+1))):=by
   conv=>lhs;rw [hsp]
   rw [P5,T9]
  have hnew:∀ n∈x.to,¬ (0≤n∧(n<a∨n∈wr (b.take k))):=by
   rintro n hn ⟨_,h1|h1⟩
   ·have:=C.new n (bt7.2 ⟨_,hmem,hn⟩);omega
   ·have h2:=hnd
    rw [hwb] at h2
    exact (List.nodup_append.1 h2).2.2 n h1 n (List.mem_append_left _ hn) rfl
  have hfrm:∀ n∈x.from_,0≤n∧(n<a∨n∈wr (b.take k)):=fun n hn=>by
   have h1:=C.there
   rw [hsp] at h1
   exact ⟨(C.fromR x hmem n hn).1,by simpa using M2 h1 n hn⟩
  have hf:=cr4.1 hfew _ hmem
  obtain ⟨s',h',hat',hA'⟩:=cj8 (sp:=A6 a b c) (rd:=rd) (N:=N) (i:=(k:Int)) (x:=x) (Li:=fun n=>n∈atL b c k) (Lj:=fun n=>n∈atL b c (k+1)) F (fun n hn=>hn.1) (fun n hn=>(C.toR x hmem n hn).1) hf hfrm
   htn hnew (fun r hr=>aX4 C (Nat.le_of_lt hlt) r hr) (fun r hr=>aX4 C (k:=k+1) hk r hr)
   (fun n hn=>by rw [hst,V4];exact .inl hn)
   (fun n hn hnt=>by rw [hst,V4];exact .inr ⟨hn,hnt⟩) (by rw [hat];omega) (by rw [hat];omega) (by rw [hat,co8];exact hx) h hA
  have F':=(aW5 (sp:=A6 a b c) (rd:=rd) (N:=N) (i:=(k:Int)) F hf hfrm htn hnew).2
  have hrun:runA (A6 a b c) rd ks N (b.take (k+1)) 0 (E8 a)=doOf (A6 a b c) rd ks N k x (runA (A6 a b c) rd ks N (b.take k) 0 (E8 a)):=by
   rw [A5 hlt ins0,as0,cr3,Nat.min_eq_left (by omega),hx]
  rw [hrun]
  refine ⟨s',h',by rw [hat',hat];omega,hA',F'.mono fun r hr=>?_⟩
  rw [hwt,cr1]
  rcases hr with hr|hr
  ·exact ⟨hr.1,hr.2.imp id .inl⟩
  ·exact ⟨(C.toR x hmem r hr).1,.inr (.inr hr)⟩
def bu7 (ks:Int) (s:LS) (p:Place) (n:Int):Bool:=
 if p.cell then lies p.n 0 (s.cells.length-1)&&decide (s.cells.getD p.n.toNat 0=n) else lies p.n 0 (ks-1)&&decide (s.held.getD p.n.toNat 0=n)
theorem bo7 {a:Int} {b:List Ins} {c d:List Int} {ks:Int} (F:Fit a b c ks):
  ∃ c' s,A4 ⟨a,b,c,d⟩ ks=(c',0)∧c'.params=a∧c'.slots=ks∧c'.out.length=c.length∧runL a ks b c'.code (aa9 a ks)=some s∧s.at_=b.length∧s.held.length=ks.toNat∧
   (s.cells.length:Int)=c'.cells∧(∀ p∈c'.out.zip c,bu7 ks s p.1 p.2=true)∧c'.code.length≤5790∧P9 c'.code=true:=by
 have C:=F.made.chk
 obtain ⟨s,h,hat,hA,_⟩:=bY8 C F.few (H8 b) b.length b.length (Nat.le_refl _)
 rw [cr2] at h hA
 obtain ⟨c',hal,_,_,_,_,hins,hol,hcl⟩:=bD4 (d:=d) F
 obtain ⟨S,hS⟩:∃ S,runA (A6 a b c) (H8 b) ks b.length b 0 (E8 a)=S:=⟨_,rfl⟩
 rw [hS] at h hA
 have hal2:A4 ⟨a,b,c,d⟩ ks=(⟨a,ks,S.ocells,S.code,c.map (outA S ks)⟩,0):=by
  have hl:bO1 ⟨a,b,c,d⟩ ks=S:=hS
  have hk:=F.ks1
  have hk2:=F.ks2
  unfold A4
  rw [if_neg (by rw [aP4 C];simp),if_neg (by omega),if_neg (by show ¬ b.all (fewX ks)=false;rw [F.few];simp),hl]
 rw [hal2] at hal
 have hc':c'=⟨a,ks,S.ocells,S.code,c.map (outA S ks)⟩:=(congrArg (·.1) hal).symm
 subst hc'
 refine ⟨_,s,hal2,rfl,rfl,hol,h.run,hat,h.len,h.clen,?_,hcl,hins⟩
 intro p hp
 obtain ⟨j,hj⟩:=List.mem_iff_getElem?.1 hp
 dsimp only at hj
 rw [List.getElem?_zip_eq_some,cp9] at hj
 obtain ⟨hj1,hj2⟩:=hj
 rw [hj2] at hj1
 simp only [Option.map_some,co4] at hj1
 obtain ⟨p1,n⟩:=p
 dsimp only at hj1 hj2 ⊢
 have hn:=List.mem_of_getElem? hj2
 subst hj1
 have hlive:n∈atL b c b.length:=by
  rw [ad2 b c (Nat.le_refl _),List.drop_length]
  show n∈C6 [] c
  exact M0.2 (.inr hn)
 unfold outA
 cases hc:(B9 S.holds ks n).cell with
 |true=>
  rw [cond_true]
  obtain ⟨cl,hcl⟩:∃ cl,mget eqI S.cells n=some cl:=by
   rcases hA n hlive with ⟨q,hq,hm⟩|hm
   ·exact absurd hm (N7.1 hc q hq)
   ·exact Option.isSome_iff_exists.1 hm
  have h3:=h.cell n cl hcl
  have h4:=(co9.1 h3.2).1
  have hg:getI S.cells n=cl:=by unfold getI;rw [hcl];rfl
  rw [hg]
  unfold bu7 lies
  simp only [if_true,co7,cq6]
  refine ⟨⟨h3.1,by omega⟩,?_⟩
  rw [cp8,h3.2];rfl
 |false=>
  rw [cond_false]
  obtain ⟨q,hq,hs,hm⟩:=ah3 hc
  rw [hs]
  unfold bu7
  rw [if_neg (by simp)]
  simp only [co7,cq6]
  refine ⟨aB1 hq,?_⟩
  rw [co8,cp8,h.slot q n hq hm (by simp)]
  rfl
def ksB (l:List Int) (n:Int):Int:=O0 ⟨parB l,(C4 l 30).code,(C4 l 30).out,[]⟩ n 5
def K4 (l:List Int) (n:Int):RCode:=(A4 ⟨parB l,(C4 l 30).code,(C4 l 30).out,[]⟩ (ksB l n)).1
def bo8 (l:List Int) (n:Int):Nat→St RU→Ann RU:=fun k s=>match k with
 |0=>⟨[],[.slot 11,.row 3584],[i64,ints],fun p=>0≤p.1∧p.1≤ksB l n∧p.2.1=List.replicate p.1.toNat (-1)++List.replicate ((ksB l n).toNat-p.1.toNat) 0,fun p=>(ksB l n).toNat-p.1.toNat,[]⟩
 |1=>⟨[10],[.slot 12,.row 3648],[i64,ints],fun p=>0≤p.1∧p.1≤parB l∧p.2.1=iota p.1.toNat,fun p=>(parB l).toNat-p.1.toNat,[]⟩
 |2=>⟨[10],[.slot 14,.slot 13,.row 3584,.row 3648],[i64,i64,ints,ints],fun p=>0≤p.1∧p.1≤(K4 l n).code.length∧runL (parB l) (ksB l n) (C4 l 30).code ((K4 l n).code.take p.1.toNat) (aa9 (parB l) (ksB l n))=some ⟨p.2.2.1,p.2.2.2.1,p.2.1⟩,fun p=>(K4 l n).code.length-p.1.toNat,[]⟩
 |3=>⟨[],[.slot 16],[i64],fun p=>0≤p.1∧p.1≤((K4 l n).code.getD (s.intAt 14).toNat rins0).ins.from_.length,fun p=>((K4 l n).code.getD (s.intAt 14).toNat rins0).ins.from_.length-p.1.toNat,[]⟩
 |4=>⟨[],[.slot 17,.row 3584],[i64,ints],fun p=>0≤p.1∧p.1≤((K4 l n).code.getD (s.intAt 14).toNat rins0).ins.to.length∧p.2.1=ad5 (s.rowInts 3584) ((((K4 l n).code.getD (s.intAt 14).toNat rins0).ins.to.zip ((C4 l 30).code.getD (s.intAt 13).toNat ins0).to).take p.1.toNat),fun p=>((K4 l n).code.getD (s.intAt 14).toNat rins0).ins.to.length-p.1.toNat,[]⟩
 |_=>⟨[],[.slot 18],[i64],fun p=>0≤p.1∧p.1≤(K4 l n).out.length,fun p=>(K4 l n).out.length-p.1.toNat,[]⟩
theorem bD5 (l:List Int) (n:Int):vc (EV [(25,cBuilt),(27,cSlots),(15,cAlloc),(31,cLies),(32,cWhere),(14,cSlotted)]) (bo8 l n) Go.Proofs.Tryd.f7 cLaw2 (l,n,())=(
 let e0:Bool:=
  (A4 (VFun.mk (parB l) (C4 l (30:Int)).code (C4 l (30:Int)).out []) (O0 (VFun.mk (parB l) (C4 l (30:Int)).code (C4 l (30:Int)).out []) n (5:Int))).2 !=
  (0:Int)||
  (A4 (VFun.mk (parB l) (C4 l (30:Int)).code (C4 l (30:Int)).out [])
  (O0 (VFun.mk (parB l) (C4 l (30:Int)).code (C4 l (30:Int)).out []) n (5:Int))).1.slots !=
  O0 (VFun.mk (parB l) (C4 l (30:Int)).code (C4 l (30:Int)).out []) n (5:Int)||
  (A4 (VFun.mk (parB l) (C4 l (30:Int)).code (C4 l (30:Int)).out [])
  (O0 (VFun.mk (parB l) (C4 l (30:Int)).code (C4 l (30:Int)).out []) n (5:Int))).1.params !=
  parB l||
  (↑(List.length
  (A4 (VFun.mk (parB l) (C4 l (30:Int)).code (C4 l (30:Int)).out [])
  (O0 (VFun.mk (parB l) (C4 l (30:Int)).code (C4 l (30:Int)).out []) n (5:Int))).1.out):
  Int) !=
  (↑(List.length (C4 l (30:Int)).out):Int);
 let e1:List RIns:=
  (A4 (VFun.mk (parB l) (C4 l (30:Int)).code (C4 l (30:Int)).out []) (O0 (VFun.mk (parB l) (C4 l (30:Int)).code (C4 l (30:Int)).out []) n (5:Int))).1.code;
 let e2:Int:=O0 (VFun.mk (parB l) (C4 l (30:Int)).code (C4 l (30:Int)).out []) n (5:Int);
 let e3:RIns:=RIns.mk (0:Int) (0:Int) (0:Int) ins0;
 let e4:List Place:=(A4 (VFun.mk (parB l) (C4 l (30:Int)).code (C4 l (30:Int)).out []) e2).1.out;
 let e5:List Ins:=(C4 l (30:Int)).code;
 let e6:Int:=IntKind.i64.wrap (e2-(1:Int));
 let e7:Ins:=Ins.mk (0:Int) (0:Int) [] [] [];
 let e8:Int:=(↑(List.length e5):Int);
 let e9:Int:=(A4 (VFun.mk (parB l) e5 (C4 l (30:Int)).out []) e2).1.cells;
 let e10:Int:=(↑(List.length e1):Int);
 let e11:List Int:=(C4 l (30:Int)).out;
 let e12:Nat:=List.length (K4 l n).code;
 let e13:Place:=Place.mk false (0:Int);
  Small RU (Sigma.mk (Ty.slice (3:Nat) (Ty.int IntKind.i64)) l)→
  (R8 e5=true∧(5:Int)≤(1000:Int))∧
  (R8 e5=true∧I7 e5=true∧List.length e11≤(8796093022200:Nat))∧
  (e0=true→(false,())=(true,()))∧
  (e0=false→
  ((0:Int)≤e2∧e2*(↑(8:Nat):Int)≤(↑(140737488355328:Nat):Int))∧
  (∃ (p:Int×List Int×Unit),
  l=l∧
  n=n∧
  false=false∧
  e2=e2∧
  (A4 (VFun.mk (parB l) e5 e11 []) e2).2=(A4 (VFun.mk (parB l) e5 e11 []) e2).2∧
  e0=e0∧
  (0:Int)=p.1∧
  parB l=parB l∧
  e5=e5∧
  e11=e11∧
  ([]:List Int)=[]∧
  (A4 (VFun.mk (parB l) e5 e11 []) e2).1.params=(A4 (VFun.mk (parB l) e5 e11 []) e2).1.params∧
  (A4 (VFun.mk (parB l) e5 e11 []) e2).1.slots=(A4 (VFun.mk (parB l) e5 e11 []) e2).1.slots∧
  e9=e9∧
  e1=e1∧
  e4=e4∧
  List.replicate (Int.toNat e2) (0:Int)=p.2.1∧
  ([]:List Int)=[]∧
  (0:Int)≤p.1∧
  p.1≤ksB l n∧p.2.1=List.replicate (Int.toNat p.1) (-1:Int)++List.replicate (Int.toNat (ksB l n)-Int.toNat p.1) (0:Int))∧
  ∀ (p:Int×List Int×Unit),
 let e0_1:Bool:=decide (p.1<e2);
 let e1_1:List Int:=p.2.1;
 let e2_1:Int:=p.1;
 let e3_1:Int:=(-1:Int);
  (0:Int)≤e2_1∧e2_1≤ksB l n∧e1_1=List.replicate (Int.toNat e2_1) e3_1++List.replicate (Int.toNat (ksB l n)-Int.toNat e2_1) (0:Int)→
  (e0_1=true→
  ((0:Int)≤e2_1∧e2_1<(↑(List.length e1_1):Int))∧
  ∃ (p':Int×List Int×Unit),
  l=l∧
  n=n∧
  false=false∧
  e2=e2∧
  (A4 (VFun.mk (parB l) e5 e11 []) e2).2=(A4 (VFun.mk (parB l) e5 e11 []) e2).2∧
  e0=e0∧
  IntKind.i64.wrap (e2_1+(1:Int))=p'.1∧
  parB l=parB l∧
  e5=e5∧
  e11=e11∧
  ([]:List Int)=[]∧
  (A4 (VFun.mk (parB l) e5 e11 []) e2).1.params=(A4 (VFun.mk (parB l) e5 e11 []) e2).1.params∧
  (A4 (VFun.mk (parB l) e5 e11 []) e2).1.slots=(A4 (VFun.mk (parB l) e5 e11 []) e2).1.slots∧
  e9=e9∧
  e1=e1∧
  e4=e4∧
  List.set e1_1 (Int.toNat e2_1) e3_1=p'.2.1∧
  ([]:List Int)=[]∧
  ((0:Int)≤p'.1∧
  p'.1≤ksB l n∧
  p'.2.1=List.replicate (Int.toNat p'.1) e3_1++List.replicate (Int.toNat (ksB l n)-Int.toNat p'.1) (0:Int))∧
  Int.toNat (ksB l n)-Int.toNat p'.1<Int.toNat (ksB l n)-Int.toNat e2_1)∧
  (e0_1=false→
  (∃ (p:Int×List Int×Unit),
  l=l∧
  n=n∧
  false=false∧
  e2=e2∧
  (A4 (VFun.mk (parB l) e5 e11 []) e2).2=(A4 (VFun.mk (parB l) e5 e11 []) e2).2∧
  e0=e0∧
  e2_1=e2_1∧
  e0_1=e0_1∧
  (0:Int)=p.1∧
  parB l=parB l∧
  e5=e5∧
  e11=e11∧
  ([]:List Int)=[]∧
  (A4 (VFun.mk (parB l) e5 e11 []) e2).1.params=(A4 (VFun.mk (parB l) e5 e11 []) e2).1.params∧
  (A4 (VFun.mk (parB l) e5 e11 []) e2).1.slots=(A4 (VFun.mk (parB l) e5 e11 []) e2).1.slots∧
  e9=e9∧e1=e1∧e4=e4∧e1_1=e1_1∧[]=p.2.1∧(0:Int)≤p.1∧p.1≤parB l∧p.2.1=iota (Int.toNat p.1))∧
  ∀ (p:Int×List Int×Unit),
 let e0_2:Bool:=decide (p.1<parB l);
 let e1_2:Int:=p.1;
 let e2_2:List Int:=p.2.1;
  (0:Int)≤e1_2∧e1_2≤parB l∧e2_2=iota (Int.toNat e1_2)→
  (e0_2=true→
  (List.length e2_2+List.length [e1_2])*(8:Nat)≤(140737488355328:Nat)∧
  ∃ (p':Int×List Int×Unit),
  l=l∧
  n=n∧
  false=false∧
  e2=e2∧
  (A4 (VFun.mk (parB l) e5 e11 []) e2).2=(A4 (VFun.mk (parB l) e5 e11 []) e2).2∧
  e0=e0∧
  e2_1=e2_1∧
  e0_1=e0_1∧
  IntKind.i64.wrap (e1_2+(1:Int))=p'.1∧
  parB l=parB l∧
  e5=e5∧
  e11=e11∧
  ([]:List Int)=[]∧
  (A4 (VFun.mk (parB l) e5 e11 []) e2).1.params=(A4 (VFun.mk (parB l) e5 e11 []) e2).1.params∧
  (A4 (VFun.mk (parB l) e5 e11 []) e2).1.slots=(A4 (VFun.mk (parB l) e5 e11 []) e2).1.slots∧
  e9=e9∧
  e1=e1∧
  e4=e4∧
  e1_1=e1_1∧
  e2_2++[e1_2]=p'.2.1∧
  ((0:Int)≤p'.1∧p'.1≤parB l∧p'.2.1=iota (Int.toNat p'.1))∧
  Int.toNat (parB l)-Int.toNat p'.1<Int.toNat (parB l)-Int.toNat e1_2)∧
  (e0_2=false→
  (∃ (p:Int×Int×List Int×List Int×Unit),
  l=l∧
  n=n∧
  e2=e2∧
  (A4 (VFun.mk (parB l) e5 e11 []) e2).2=(A4 (VFun.mk (parB l) e5 e11 []) e2).2∧
  e0=e0∧
  e2_1=e2_1∧
  e0_1=e0_1∧
  e1_2=e1_2∧
  e0_2=e0_2∧
  (0:Int)=p.1∧
  (0:Int)=p.2.1∧
  parB l=parB l∧
  e5=e5∧
  e11=e11∧
  ([]:List Int)=[]∧
  (A4 (VFun.mk (parB l) e5 e11 []) e2).1.params=(A4 (VFun.mk (parB l) e5 e11 []) e2).1.params∧
  (A4 (VFun.mk (parB l) e5 e11 []) e2).1.slots=(A4 (VFun.mk (parB l) e5 e11 []) e2).1.slots∧
  e9=e9∧
  e1=e1∧
  e4=e4∧
  e1_1=p.2.2.1∧
  e2_2=p.2.2.2.1∧
  (0:Int)≤p.1∧
  p.1≤(↑e12:Int)∧
  runL (parB l) (ksB l n) e5 (List.take (Int.toNat p.1) (K4 l n).code) (aa9 (parB l) (ksB l n))=
  some (LS.mk p.2.2.1 p.2.2.2.1 p.2.1))∧
  ∀ (p:Int×Int×List Int×List Int×Unit),
 let e0_3:Bool:=
  decide (p.2.1≥e8)||
  (↑(List.length (List.getD e1 (Int.toNat p.1) e3).ins.from_):Int) !=(↑(List.length (List.getD e5 (Int.toNat p.2.1) e7).from_):Int)||
  (↑(List.length (List.getD e1 (Int.toNat p.1) e3).ins.to):Int) !=(↑(List.length (List.getD e5 (Int.toNat p.2.1) e7).to):Int);
 let e1_3:Bool:=
  (List.getD e1 (Int.toNat p.1) e3).cell !=(↑(List.length p.2.2.2.1):Int)||
  decide (List.getD p.2.2.1 (Int.toNat (List.getD e1 (Int.toNat p.1) e3).slot) (0:Int)<parB l)||
  decide (G4 p.2.2.2.1 (List.getD p.2.2.1 (Int.toNat (List.getD e1 (Int.toNat p.1) e3).slot) (0:Int))≥(0:Int));
 let e2_3:Bool:=
  (List.getD e1 (Int.toNat p.1) e3).cell==(↑(List.length p.2.2.2.1):Int)||
  decide (G4 p.2.2.1 (List.getD p.2.2.2.1 (Int.toNat (List.getD e1 (Int.toNat p.1) e3).cell) (0:Int))≥(0:Int));
 let e3_2:Bool:=
  (List.getD e1 (Int.toNat p.1) e3).kind !=(0:Int)&&
  (!lies (List.getD e1 (Int.toNat p.1) e3).slot (0:Int) e6||
  !lies (List.getD e1 (Int.toNat p.1) e3).cell (0:Int) (↑(List.length p.2.2.2.1):Int));
 let e4_1:List Int:=p.2.2.1;
 let e5_1:List Int:=p.2.2.2.1;
 let e6_1:Int:=p.2.1;
 let e7_1:Bool:=decide (p.1<e10);
 let e8_1:Int:=(List.getD e1 (Int.toNat p.1) e3).cell;
 let e9_1:Int:=(↑(List.length (List.getD e1 (Int.toNat p.1) e3).ins.from_):Int);
 let e10_1:List Int:=(List.getD e1 (Int.toNat p.1) e3).ins.to;
 let e11_1:Bool:=(List.getD e1 (Int.toNat p.1) e3).kind==(1:Int);
 let e12_1:Bool:=(List.getD e1 (Int.toNat p.1) e3).kind==(2:Int);
 let e13_1:Int:=p.1;
 let e14:Int:=(↑(List.length e5_1):Int);
 let e15:Int:=(List.getD e1 (Int.toNat e13_1) e3).slot;
 let e16:Nat:=List.length (List.getD (K4 l n).code (Int.toNat e13_1) rins0).ins.from_;
 let e17:Nat:=List.length (List.getD (K4 l n).code (Int.toNat e13_1) rins0).ins.to;
 let e18:List Int:=(List.getD e1 (Int.toNat e13_1) e3).ins.from_;
 let e19:Bool:=decide (e6_1≥e8);
 let e20:Int:=IntKind.i64.wrap (e14-(1:Int));
 let e21:Ins:=(List.getD e1 (Int.toNat e13_1) e3).ins;
 let e22:List Int:=[List.getD e4_1 (Int.toNat e15) (0:Int)];
  (0:Int)≤e13_1∧
  e13_1≤(↑e12:Int)∧runL (parB l) (ksB l n) e5 (List.take (Int.toNat e13_1) (K4 l n).code) (aa9 (parB l) (ksB l n))=some (LS.mk e4_1 e5_1 e6_1)→
  (e7_1=true→
  ((0:Int)≤e13_1∧e13_1<e10)∧
  (e3_2=true→(false,())=(true,()))∧
  (e3_2=false→
  (e11_1=true→
  ((e8_1==e14)=false→(0:Int)≤e8_1∧e8_1<e14)∧
  (e2_3=true→(false,())=(true,()))∧
  (e2_3=false→
  ((0:Int)≤e8_1∧e8_1<e14)∧
  ((0:Int)≤e15∧e15<(↑(List.length e4_1):Int))∧
  ∃ (p':Int×Int×List Int×List Int×Unit),
  l=l∧
  n=n∧
  e2=e2∧
  (A4 (VFun.mk (parB l) e5 e11 []) e2).2=(A4 (VFun.mk (parB l) e5 e11 []) e2).2∧
  e0=e0∧
  e2_1=e2_1∧
  e0_1=e0_1∧
  e1_2=e1_2∧
  e0_2=e0_2∧
  IntKind.i64.wrap (e13_1+(1:Int))=p'.1∧
  e6_1=p'.2.1∧
  parB l=parB l∧
  e5=e5∧
  e11=e11∧
  ([]:List Int)=[]∧
  (A4 (VFun.mk (parB l) e5 e11 []) e2).1.params=
  (A4 (VFun.mk (parB l) e5 e11 []) e2).1.params∧
  (A4 (VFun.mk (parB l) e5 e11 []) e2).1.slots=
  (A4 (VFun.mk (parB l) e5 e11 []) e2).1.slots∧
  e9=e9∧
  e1=e1∧
  e4=e4∧
  List.set e4_1 (Int.toNat e15) (List.getD e5_1 (Int.toNat e8_1) (0:Int))=p'.2.2.1∧
  e5_1=p'.2.2.2.1∧
  ((0:Int)≤p'.1∧
  p'.1≤(↑e12:Int)∧
  runL (parB l) (ksB l n) e5 (List.take (Int.toNat p'.1) (K4 l n).code)
  (aa9 (parB l) (ksB l n))=
  some (LS.mk p'.2.2.1 p'.2.2.2.1 p'.2.1))∧
  e12-Int.toNat p'.1<e12-Int.toNat e13_1))∧
  (e11_1=false→
  (e12_1=true→
  ((e8_1 !=e14)=false→(0:Int)≤e15∧e15<(↑(List.length e4_1):Int))∧
  ((e8_1 !=e14||decide (List.getD e4_1 (Int.toNat e15) (0:Int)<parB l))=false→(0:Int)≤e15∧e15<(↑(List.length e4_1):Int))∧
  (e1_3=true→(false,())=(true,()))∧
  (e1_3=false→
  ((0:Int)≤e15∧e15<(↑(List.length e4_1):Int))∧
  (List.length e5_1+List.length e22)*(8:Nat)≤(140737488355328:Nat)∧
  ∃ (p':Int×Int×List Int×List Int×Unit),
  l=l∧
  n=n∧
  e2=e2∧
  (A4 (VFun.mk (parB l) e5 e11 []) e2).2=(A4 (VFun.mk (parB l) e5 e11 []) e2).2∧
  e0=e0∧
  e2_1=e2_1∧
  e0_1=e0_1∧
  e1_2=e1_2∧
  e0_2=e0_2∧
  IntKind.i64.wrap (e13_1+(1:Int))=p'.1∧
  e6_1=p'.2.1∧
  parB l=parB l∧
  e5=e5∧
  e11=e11∧
  ([]:List Int)=[]∧
  (A4 (VFun.mk (parB l) e5 e11 []) e2).1.params=
  (A4 (VFun.mk (parB l) e5 e11 []) e2).1.params∧
  (A4 (VFun.mk (parB l) e5 e11 []) e2).1.slots=
  (A4 (VFun.mk (parB l) e5 e11 []) e2).1.slots∧
  e9=e9∧
  e1=e1∧
  e4=e4∧
  e4_1=p'.2.2.1∧
  e5_1++e22=p'.2.2.2.1∧
  ((0:Int)≤p'.1∧
  p'.1≤(↑e12:Int)∧
  runL (parB l) (ksB l n) e5 (List.take (Int.toNat p'.1) (K4 l n).code)
  (aa9 (parB l) (ksB l n))=
  some (LS.mk p'.2.2.1 p'.2.2.2.1 p'.2.1))∧
  e12-Int.toNat p'.1<e12-Int.toNat e13_1))∧
  (e12_1=false→
  (e19=false→(0:Int)≤e6_1∧e6_1<e8)∧
  ((e19||e9_1 !=(↑(List.length (List.getD e5 (Int.toNat e6_1) e7).from_):Int))=false→(0:Int)≤e6_1∧e6_1<e8)∧
  (e0_3=true→(false,())=(true,()))∧
  (e0_3=false→
  (∃ (p:Int×Unit),
  l=l∧
  n=n∧
  e2=e2∧
  (A4 (VFun.mk (parB l) e5 e11 []) e2).2=(A4 (VFun.mk (parB l) e5 e11 []) e2).2∧
  e0=e0∧
  e2_1=e2_1∧
  e0_1=e0_1∧
  e1_2=e1_2∧
  e0_2=e0_2∧
  e13_1=e13_1∧
  e6_1=e6_1∧
  e7_1=e7_1∧
  e3_2=e3_2∧
  (List.getD e1 (Int.toNat e13_1) e3).kind=(List.getD e1 (Int.toNat e13_1) e3).kind∧
  e11_1=e11_1∧
  e12_1=e12_1∧
  e0_3=e0_3∧
  (0:Int)=p.1∧
  parB l=parB l∧
  e5=e5∧
  e11=e11∧
  ([]:List Int)=[]∧
  (A4 (VFun.mk (parB l) e5 e11 []) e2).1.params=
  (A4 (VFun.mk (parB l) e5 e11 []) e2).1.params∧
  (A4 (VFun.mk (parB l) e5 e11 []) e2).1.slots=
  (A4 (VFun.mk (parB l) e5 e11 []) e2).1.slots∧
  e9=e9∧
  e1=e1∧
  e4=e4∧
  e4_1=e4_1∧
  e5_1=e5_1∧
  (List.getD e1 (Int.toNat e13_1) e3).kind=
  (List.getD e1 (Int.toNat e13_1) e3).kind∧
  e15=e15∧
  e8_1=e8_1∧
  e21.op=e21.op∧
  e21.n=e21.n∧
  e10_1=e10_1∧
  e18=e18∧
  e21.body=e21.body∧
  (0:Int)≤p.1∧p.1≤(↑e16:Int))∧
  ∀ (p:Int×Unit),
 let e0_4:Bool:=decide (p.1<e9_1);
 let e1_4:Bool:=
  !lies (List.getD e18 (Int.toNat p.1) (0:Int)) (0:Int) e6||
  List.getD e4_1 (Int.toNat (List.getD e18 (Int.toNat p.1) (0:Int))) (0:Int) !=
  List.getD (List.getD e5 (Int.toNat e6_1) e7).from_ (Int.toNat p.1) (0:Int);
 let e2_4:Int:=List.getD e18 (Int.toNat p.1) (0:Int);
  (0:Int)≤p.1∧p.1≤(↑e16:Int)→
  (e0_4=true→
  ((0:Int)≤p.1∧p.1<e9_1)∧
  ((!lies e2_4 (0:Int) e6)=false→(0:Int)≤p.1∧p.1<e9_1)∧
  ((!lies e2_4 (0:Int) e6)=false→(0:Int)≤e2_4∧e2_4<(↑(List.length e4_1):Int))∧
  ((!lies e2_4 (0:Int) e6)=false→(0:Int)≤e6_1∧e6_1<e8)∧
  ((!lies e2_4 (0:Int) e6)=false→
  (0:Int)≤p.1∧p.1<(↑(List.length (List.getD e5 (Int.toNat e6_1) e7).from_):Int))∧
  (e1_4=true→(false,())=(true,()))∧
  (e1_4=false→
  ∃ (p':Int×Unit),
  l=l∧
  n=n∧
  e2=e2∧
  (A4 (VFun.mk (parB l) e5 e11 []) e2).2=(A4 (VFun.mk (parB l) e5 e11 []) e2).2∧
  e0=e0∧
  e2_1=e2_1∧
  e0_1=e0_1∧
  e1_2=e1_2∧
  e0_2=e0_2∧
  e13_1=e13_1∧
  e6_1=e6_1∧
  e7_1=e7_1∧
  e3_2=e3_2∧
  (List.getD e1 (Int.toNat e13_1) e3).kind=
  (List.getD e1 (Int.toNat e13_1) e3).kind∧
  e11_1=e11_1∧
  e12_1=e12_1∧
  e0_3=e0_3∧
  IntKind.i64.wrap (p.1+(1:Int))=p'.1∧
  parB l=parB l∧
  e5=e5∧
  e11=e11∧
  ([]:List Int)=[]∧
  (A4 (VFun.mk (parB l) e5 e11 []) e2).1.params=
  (A4 (VFun.mk (parB l) e5 e11 []) e2).1.params∧
  (A4 (VFun.mk (parB l) e5 e11 []) e2).1.slots=
  (A4 (VFun.mk (parB l) e5 e11 []) e2).1.slots∧
  e9=e9∧
  e1=e1∧
  e4=e4∧
  e4_1=e4_1∧
  e5_1=e5_1∧
  (List.getD e1 (Int.toNat e13_1) e3).kind=
  (List.getD e1 (Int.toNat e13_1) e3).kind∧
  e15=e15∧
  e8_1=e8_1∧
  e21.op=e21.op∧
  e21.n=e21.n∧
  e10_1=e10_1∧
  e18=e18∧
  e21.body=e21.body∧
  ((0:Int)≤p'.1∧
  p'.1≤(↑e16:Int))∧
  e16-Int.toNat p'.1<
  e16-Int.toNat p.1))∧
  (e0_4=false→
  (∃ (p_1:Int×List Int×Unit),
  l=l∧
  n=n∧
  e2=e2∧
  (A4 (VFun.mk (parB l) e5 e11 []) e2).2=(A4 (VFun.mk (parB l) e5 e11 []) e2).2∧
  e0=e0∧
  e2_1=e2_1∧
  e0_1=e0_1∧
  e1_2=e1_2∧
  e0_2=e0_2∧
  e13_1=e13_1∧
  e6_1=e6_1∧
  e7_1=e7_1∧
  e3_2=e3_2∧
  (List.getD e1 (Int.toNat e13_1) e3).kind=(List.getD e1 (Int.toNat e13_1) e3).kind∧
  e11_1=e11_1∧
  e12_1=e12_1∧
  e0_3=e0_3∧
  p.1=p.1∧
  e0_4=e0_4∧
  (0:Int)=p_1.1∧
  parB l=parB l∧
  e5=e5∧
  e11=e11∧
  ([]:List Int)=[]∧
  (A4 (VFun.mk (parB l) e5 e11 []) e2).1.params=
  (A4 (VFun.mk (parB l) e5 e11 []) e2).1.params∧
  (A4 (VFun.mk (parB l) e5 e11 []) e2).1.slots=
  (A4 (VFun.mk (parB l) e5 e11 []) e2).1.slots∧
  e9=e9∧
  e1=e1∧
  e4=e4∧
  e4_1=p_1.2.1∧
  e5_1=e5_1∧
  (List.getD e1 (Int.toNat e13_1) e3).kind=
  (List.getD e1 (Int.toNat e13_1) e3).kind∧
  e15=e15∧
  e8_1=e8_1∧
  e21.op=e21.op∧
  e21.n=e21.n∧
  e10_1=e10_1∧
  e18=e18∧
  e21.body=e21.body∧
  (0:Int)≤p_1.1∧
  p_1.1≤(↑e17:Int)∧
  p_1.2.1=
  ad5 e4_1
  (List.take (Int.toNat p_1.1)
  (List.zip
  (List.getD (K4 l n).code
  (Int.toNat e13_1)
  rins0).ins.to
  (List.getD e5 (Int.toNat e6_1)
  ins0).to)))∧
  ∀ (p_1:Int×List Int×Unit),
 let e0_5:Int:=List.getD e10_1 (Int.toNat p_1.1) (0:Int);
 let e1_5:Bool:=decide (p_1.1<(↑(List.length e10_1):Int));
 let e2_5:Int:=p_1.1;
 let e3_3:List Int:=p_1.2.1;
 let e4_2:List (Int×Int):=
  List.zip (List.getD (K4 l n).code (Int.toNat e13_1) rins0).ins.to (List.getD e5 (Int.toNat e6_1) ins0).to;
  (0:Int)≤e2_5∧e2_5≤(↑e17:Int)∧e3_3=ad5 e4_1 (List.take (Int.toNat e2_5) e4_2)→
  (e1_5=true→
  ((0:Int)≤e2_5∧e2_5<(↑(List.length e10_1):Int))∧
  ((!lies e0_5 (0:Int) e6)=true→(false,())=(true,()))∧
  ((!lies e0_5 (0:Int) e6)=false→
  ((0:Int)≤e2_5∧e2_5<(↑(List.length e10_1):Int))∧
  ((0:Int)≤e6_1∧e6_1<e8)∧
  ((0:Int)≤e2_5∧e2_5<(↑(List.length (List.getD e5 (Int.toNat e6_1) e7).to):Int))∧
  ((0:Int)≤e0_5∧e0_5<(↑(List.length e3_3):Int))∧
  ∃ (p':Int×List Int×Unit),
  l=l∧
  n=n∧
  e2=e2∧
  (A4 (VFun.mk (parB l) e5 e11 []) e2).2=
  (A4 (VFun.mk (parB l) e5 e11 []) e2).2∧
  e0=e0∧
  e2_1=e2_1∧
  e0_1=e0_1∧
  e1_2=e1_2∧
  e0_2=e0_2∧
  e13_1=e13_1∧
  e6_1=e6_1∧
  e7_1=e7_1∧
  e3_2=e3_2∧
  (List.getD e1 (Int.toNat e13_1) e3).kind=
  (List.getD e1 (Int.toNat e13_1) e3).kind∧
  e11_1=e11_1∧
  e12_1=e12_1∧
  e0_3=e0_3∧
  p.1=p.1∧
  e0_4=e0_4∧
  IntKind.i64.wrap (e2_5+(1:Int))=p'.1∧
  parB l=parB l∧
  e5=e5∧
  e11=e11∧
  ([]:List Int)=[]∧
  (A4 (VFun.mk (parB l) e5 e11 [])
  e2).1.params=
  (A4 (VFun.mk (parB l) e5 e11 [])
  e2).1.params∧
  (A4 (VFun.mk (parB l) e5 e11 [])
  e2).1.slots=
  (A4 (VFun.mk (parB l) e5 e11 [])
  e2).1.slots∧
  e9=e9∧
  e1=e1∧
  e4=e4∧
  List.set e3_3 (Int.toNat e0_5)
  (List.getD
  (List.getD e5 (Int.toNat e6_1)
  e7).to
  (Int.toNat e2_5) (0:Int))=
  p'.2.1∧
  e5_1=e5_1∧
  (List.getD e1 (Int.toNat e13_1)
  e3).kind=
  (List.getD e1 (Int.toNat e13_1)
  e3).kind∧
  e15=e15∧
  e8_1=e8_1∧
  e21.op=e21.op∧
  e21.n=e21.n∧
  e10_1=e10_1∧
  e18=e18∧
  e21.body=e21.body∧
  ((0:Int)≤p'.1∧
  p'.1≤
  (↑e17:Int)∧
  p'.2.1=
  ad5 e4_1
  (List.take
  (Int.toNat
  p'.1)
  e4_2))∧
  e17-
  Int.toNat
  p'.1<
  e17-
  Int.toNat
  e2_5))∧
  (e1_5=false→
  ∃ (p':Int×Int×List Int×List Int×Unit),
  l=l∧
  n=n∧
  e2=e2∧
  (A4 (VFun.mk (parB l) e5 e11 []) e2).2=(A4 (VFun.mk (parB l) e5 e11 []) e2).2∧
  e0=e0∧
  e2_1=e2_1∧
  e0_1=e0_1∧
  e1_2=e1_2∧
  e0_2=e0_2∧
  IntKind.i64.wrap (e13_1+(1:Int))=p'.1∧
  IntKind.i64.wrap (e6_1+(1:Int))=p'.2.1∧
  parB l=parB l∧
  e5=e5∧
  e11=e11∧
  ([]:List Int)=[]∧
  (A4 (VFun.mk (parB l) e5 e11 []) e2).1.params=
  (A4 (VFun.mk (parB l) e5 e11 []) e2).1.params∧
  (A4 (VFun.mk (parB l) e5 e11 []) e2).1.slots=
  (A4 (VFun.mk (parB l) e5 e11 []) e2).1.slots∧
  e9=e9∧
  e1=e1∧
  e4=e4∧
  e3_3=p'.2.2.1∧
  e5_1=p'.2.2.2.1∧
  ((0:Int)≤p'.1∧
  p'.1≤(↑e12:Int)∧
  runL (parB l) (ksB l n) e5
  (List.take (Int.toNat p'.1) (K4 l n).code)
  (aa9 (parB l) (ksB l n))=
  some (LS.mk p'.2.2.1 p'.2.2.2.1 p'.2.1))∧
  e12-Int.toNat p'.1<e12-Int.toNat e13_1)))))))∧
  (e7_1=false→
  (∃ (p:Int×Unit),
  l=l∧
  n=n∧
  e2=e2∧
  (A4 (VFun.mk (parB l) e5 e11 []) e2).2=(A4 (VFun.mk (parB l) e5 e11 []) e2).2∧
  e0=e0∧
  e2_1=e2_1∧
  e0_1=e0_1∧
  e1_2=e1_2∧
  e0_2=e0_2∧
  e13_1=e13_1∧
  e6_1=e6_1∧
  e7_1=e7_1∧
  (0:Int)=p.1∧
  parB l=parB l∧
  e5=e5∧
  e11=e11∧
  ([]:List Int)=[]∧
  (A4 (VFun.mk (parB l) e5 e11 []) e2).1.params=(A4 (VFun.mk (parB l) e5 e11 []) e2).1.params∧
  (A4 (VFun.mk (parB l) e5 e11 []) e2).1.slots=(A4 (VFun.mk (parB l) e5 e11 []) e2).1.slots∧
  e9=e9∧
  e1=e1∧
  e4=e4∧e4_1=e4_1∧e5_1=e5_1∧(0:Int)≤p.1∧p.1≤(↑(List.length (K4 l n).out):Int))∧
  ∀ (p:Int×Unit),
 let e0_4:Bool:=
  (List.getD e4 (Int.toNat p.1) e13).cell&&
  (!lies (List.getD e4 (Int.toNat p.1) e13).n (0:Int) e20||
  List.getD e5_1 (Int.toNat (List.getD e4 (Int.toNat p.1) e13).n) (0:Int) !=List.getD e11 (Int.toNat p.1) (0:Int))||
  !(List.getD e4 (Int.toNat p.1) e13).cell&&
  (!lies (List.getD e4 (Int.toNat p.1) e13).n (0:Int) e6||
  List.getD e4_1 (Int.toNat (List.getD e4 (Int.toNat p.1) e13).n) (0:Int) !=List.getD e11 (Int.toNat p.1) (0:Int));
 let e1_4:Int:=(List.getD e4 (Int.toNat p.1) e13).n;
 let e2_4:Bool:=decide (p.1<(↑(List.length e4):Int));
 let e3:Bool:=(List.getD e4 (Int.toNat p.1) e13).cell;
  (0:Int)≤p.1∧p.1≤(↑(List.length (K4 l n).out):Int)→
  (e2_4=true→
  ((0:Int)≤p.1∧p.1<(↑(List.length e4):Int))∧
  (e3=true→(!lies e1_4 (0:Int) e20)=false→(0:Int)≤e1_4∧e1_4<e14)∧
  (e3=true→(!lies e1_4 (0:Int) e20)=false→(0:Int)≤p.1∧p.1<(↑(List.length e11):Int))∧
  ((e3&&(!lies e1_4 (0:Int) e20||List.getD e5_1 (Int.toNat e1_4) (0:Int) !=List.getD e11 (Int.toNat p.1) (0:Int)))=false→
  (!e3)=true→(!lies e1_4 (0:Int) e6)=false→(0:Int)≤e1_4∧e1_4<(↑(List.length e4_1):Int))∧
  ((e3&&(!lies e1_4 (0:Int) e20||List.getD e5_1 (Int.toNat e1_4) (0:Int) !=List.getD e11 (Int.toNat p.1) (0:Int)))=false→
  (!e3)=true→(!lies e1_4 (0:Int) e6)=false→(0:Int)≤p.1∧p.1<(↑(List.length e11):Int))∧
  (e0_4=true→(false,())=(true,()))∧
  (e0_4=false→
  ∃ (p':Int×Unit),
  l=l∧
  n=n∧
  e2=e2∧
  (A4 (VFun.mk (parB l) e5 e11 []) e2).2=(A4 (VFun.mk (parB l) e5 e11 []) e2).2∧
  e0=e0∧
  e2_1=e2_1∧
  e0_1=e0_1∧
  e1_2=e1_2∧
  e0_2=e0_2∧
  e13_1=e13_1∧
  e6_1=e6_1∧
  e7_1=e7_1∧
  IntKind.i64.wrap (p.1+(1:Int))=p'.1∧
  parB l=parB l∧
  e5=e5∧
  e11=e11∧
  ([]:List Int)=[]∧
  (A4 (VFun.mk (parB l) e5 e11 []) e2).1.params=
  (A4 (VFun.mk (parB l) e5 e11 []) e2).1.params∧
  (A4 (VFun.mk (parB l) e5 e11 []) e2).1.slots=
  (A4 (VFun.mk (parB l) e5 e11 []) e2).1.slots∧
  e9=e9∧
  e1=e1∧
  e4=e4∧
  e4_1=e4_1∧
  e5_1=e5_1∧
  ((0:Int)≤p'.1∧p'.1≤(↑(List.length (K4 l n).out):Int))∧
  List.length (K4 l n).out-Int.toNat p'.1<
  List.length (K4 l n).out-Int.toNat p.1))∧
  (e2_4=false→(e6_1==e8&&e9==e14&&true,())=(true,()))))))):=by kernel_rfl
theorem bQ4 {a ks:Int} {b:List Ins} {l:List RIns} {s t:LS} (h:runL a ks b l s=some t) {k:Nat} (hk:k<l.length) {u:LS} (hu:runL a ks b (l.take k) s=some u):
  ∃ v,ah8 a ks b u (l.getD k rins0)=some v∧runL a ks b (l.take (k+1)) s=some v:=by
 have h1:runL a ks b (l.take (k+1)) s=ah8 a ks b u (l.getD k rins0):=by
  rw [A5 hk rins0,as5 hu]
 cases hv:ah8 a ks b u (l.getD k rins0) with
 |some v=>exact ⟨v,rfl,by rw [h1,hv]⟩
 |none=>
  exfalso
  rw [hv] at h1
  rw [←List.take_append_drop (k+1) l,aX5,h1] at h
  cases h
theorem bQ5 {a ks:Int} {b:List Ins} {s t:LS} {x:RIns} (h:ah8 a ks b s x=some t):t.held.length=s.held.length∧s.at_≤t.at_∧t.cells.length≤s.cells.length+1:=by
 unfold ah8 at h
 split at h
 ·cases h
 split at h
 ·split at h
  ·cases h
  ·cases h
   exact ⟨by simp,Int.le_refl _,by dsimp only;omega⟩
 split at h
 ·split at h
  ·cases h
  ·cases h
   exact ⟨rfl,Int.le_refl _,by simp⟩
 split at h
 ·cases h
  exact ⟨T5 _ _,by dsimp only;omega,by dsimp only;omega⟩
 ·cases h
theorem bu8 {a ks:Int} {b:List Ins}:∀ (l:List RIns) {s t:LS},runL a ks b l s=some t→t.held.length=s.held.length∧s.at_≤t.at_∧t.cells.length≤s.cells.length+l.length
 |[],s,t,h=>by cases h;exact ⟨rfl,Int.le_refl _,by simp⟩
 |x::r,s,t,h=>by
  simp only [runL] at h
  cases hs:ah8 a ks b s x with
  |none=>rw [hs] at h;cases h
  |some u=>
   rw [hs] at h
   have h1:=bQ5 hs
   have h2:=bu8 r h
   rw [cq0]
   omega
theorem as6 {n lo hi:Int}:lies n lo hi=true↔lo≤n∧n≤hi:=by
 unfold lies
 rw [co7,cq6,cq6]
theorem aP9 (q n:Int):∀ (l:List (Int×Int)) (held:List Int),ad5 held (l++[(q,n)])=(ad5 held l).set q.toNat n
 |[],_=>rfl
 |(q',n')::r,held=>aP9 q n r (held.set q'.toNat n')
theorem bu9 {α β:Type} {l:List α} {m:List β} {u:Nat} {d:α} {e:β} (h:u<l.length) (h2:u<m.length):(l.zip m).getD u (d,e)=(l.getD u d,m.getD u e):=by
 have h3:(l.zip m)[u]? =some (l[u],m[u]):=List.getElem?_zip_eq_some.2 ⟨co6 h,co6 h2⟩
 rw [cp8,cp8,cp8,h3,co6 h,co6 h2]
 rfl
theorem bD6 (l:List Int) (n:Int):vc (EV [(25,cBuilt),(27,cSlots),(15,cAlloc),(31,cLies),(32,cWhere),(14,cSlotted)]) (bo8 l n) Go.Proofs.Tryd.f7 cLaw2 (l,n,()):=by
 rw [bD5 l n]
 obtain ⟨M,hlen⟩:=made l (m:=30) (by omega)
 have hl30:(C4 l 30).code.length≤30:=by omega
 obtain ⟨F,hsl⟩:=bQ1 (d:=[]) M hl30 n (k:=5) (by omega) (by omega)
 obtain ⟨c',sF,h1,h2,h3,h4,h5,h6,h7,h8,h9,h10,h11⟩:=bo7 (d:=[]) F
 have hok:=bo5 M
 have hM:=M.out
 have hpar:=M.par
 have hk1:=F.ks1
 have hk2:=F.ks2
 have hka:ksB l n=O0 ⟨parB l,(C4 l 30).code,(C4 l 30).out,[]⟩ n 5:=rfl
 have hal:K4 l n=c':=by unfold K4;rw [hka,h1]
 simp only [hal,hka,h1]
 obtain ⟨ks,hks⟩:∃ ks,O0 ⟨parB l,(C4 l 30).code,(C4 l 30).out,[]⟩ n 5=ks:=⟨_,rfl⟩
 simp only [hks] at*
 obtain ⟨b,hb⟩:∃ b,(C4 l 30).code=b:=⟨_,rfl⟩
 obtain ⟨c,hc⟩:∃ c,(C4 l 30).out=c:=⟨_,rfl⟩
 obtain ⟨a,ha⟩:∃ a,parB l=a:=⟨_,rfl⟩
 simp only [hb,hc,ha] at*
 clear hal hka h1 hks hb hc ha
 obtain ⟨pa,sl,ce,code,out⟩:=c'
 dsimp only at h2 h3 h4 h5 h8 h9 h10 h11 ⊢
 subst h2 h3
 have hd:(⟨0,0,[],[],[]⟩:Ins)=ins0:=rfl
 have hd2:(⟨0,0,0,ins0⟩:RIns)=rins0:=rfl
 have hwk:IntKind.i64.wrap (sl-1)=sl-1:=E9 (by omega) (by omega)
 simp only [hd,hd2,hwk,true_and,and_true,Bool.cond_self,bne_self_eq_false,Bool.or_false,h4]
 intro hs
 refine ⟨⟨hok.2,by omega⟩,⟨hok.2,hok.1,by omega⟩,fun h=>(by cases h),fun _=>⟨⟨by omega,by omega⟩,⟨(0,List.replicate sl.toNat 0,()),rfl,rfl,Int.le_refl _,by dsimp only;omega,by simp⟩,?_⟩⟩
 rintro ⟨i,held,⟨⟩⟩
 dsimp only
 rintro ⟨i0,i1,rfl⟩
 obtain ⟨i,rfl⟩:=cp0 i0
 simp only [co8] at*
 refine ⟨fun h=>?_,fun h=>?_⟩
 ·have h:=cp4 h
  have hi:i<sl.toNat:=by omega
  refine ⟨⟨by omega,by rw [cq5,List.length_replicate,List.length_replicate];omega⟩,((i+1:Nat),List.replicate (i+1) (-1)++List.replicate (sl.toNat-(i+1)) 0,()),B6 (m:=64) (by omega) (by omega),?_,⟨by dsimp only;omega,by dsimp only;omega,by dsimp only;rw [co8]⟩,by dsimp only;omega⟩
  dsimp only
  obtain ⟨d,hd⟩:∃ d,sl.toNat-i=d+1:=⟨sl.toNat-i-1,by omega⟩
  rw [hd,List.replicate_succ,List.set_append_right _ _ (by simp),List.length_replicate,Nat.sub_self,List.set_cons_zero,List.replicate_succ',cr0,show sl.toNat-(i+1)=d from by omega]
  rfl
 have h:=cp3 h
 have hi:i=sl.toNat:=by omega
 subst hi
 have hrep:List.replicate sl.toNat (-1:Int)++List.replicate (sl.toNat-sl.toNat) 0=List.replicate sl.toNat (-1):=by simp
 simp only [hrep]
 clear h i0 i1 hrep
 refine ⟨⟨(0,[],()),rfl,rfl,Int.le_refl _,by dsimp only;omega,rfl⟩,?_⟩
 rintro ⟨r,ce0,⟨⟩⟩
 dsimp only
 rintro ⟨r0,r1,rfl⟩
 obtain ⟨r,rfl⟩:=cp0 r0
 simp only [co8] at*
 refine ⟨fun h=>?_,fun h=>?_⟩
 ·have h:=cp4 h
  refine ⟨by rw [W9];simp;omega,((r+1:Nat),iota (r+1),()),B6 (m:=4) (by omega) (by omega),(bg4 r).symm,⟨by dsimp only;omega,by dsimp only;omega,by dsimp only;rw [co8]⟩,by dsimp only;omega⟩
 have h:=cp3 h
 have hr:r=pa.toNat:=by omega
 subst hr
 clear h r0 r1
 refine ⟨⟨(0,0,List.replicate sl.toNat (-1),iota pa.toNat,()),rfl,rfl,rfl,rfl,Int.le_refl _,by dsimp only;omega,rfl⟩,?_⟩
 rintro ⟨i,at_,held,cells,⟨⟩⟩
 dsimp only
 rintro ⟨i0,i1,hrun⟩
 obtain ⟨i,rfl⟩:=cp0 i0
 simp only [co8] at*
 have hln:=bu8 _ hrun
 have hhl:held.length=sl.toNat:=by rw [hln.1];simp [aa9]
 have hat0:0≤at_:=hln.2.1
 have hcl:cells.length≤3+5790:=by
  have h12:=hln.2.2
  have h13:(aa9 pa sl).cells.length=pa.toNat:=W9 _
  rw [h13,cr3] at h12
  dsimp only at h12
  omega
 clear hln
 refine ⟨fun h=>?_,fun h=>?_⟩
 ·have h:=cp4 h
  have hi:i<code.length:=by omega
  obtain ⟨v,hv,hv2⟩:=bQ4 h5 hi hrun
  have hw:IntKind.i64.wrap ((i:Int)+1)=((i+1:Nat):Int):=B6 hi (by omega)
  obtain ⟨x,hx⟩:∃ x,code.getD i rins0=x:=⟨_,rfl⟩
  simp only [hx,hw] at*
  have hdone:∀ (at':Int) (held' cells':List Int),v=⟨held',cells',at'⟩→∃ p':Int×Int×List Int×List Int×Unit,((i+1:Nat):Int)=p'.1∧at'=p'.2.1∧held'=p'.2.2.1∧cells'=p'.2.2.2.1∧(0≤p'.1∧p'.1≤(code.length:Int)∧runL pa sl b (code.take p'.1.toNat) (aa9 pa sl)=some ⟨p'.2.2.1,p'.2.2.2.1,p'.2.1⟩)∧code.length-p'.1.toNat<code.length-i:=by
   intro at' held' cells' he
   refine ⟨(((i+1:Nat):Int),at',held',cells',()),rfl,rfl,rfl,rfl,⟨by dsimp only;omega,by dsimp only;omega,?_⟩,by dsimp only;omega⟩
   dsimp only
   rw [co8,hv2,he]
  unfold ah8 at hv
  split at hv
  ·cases hv
  rename_i hA
  dsimp only at hA hv
  have hA2:(x.kind !=0&&(!lies x.slot 0 (sl-1)||!lies x.cell 0 (cells.length:Int)))=false:=by
   cases hk:x.kind !=0 with
   |false=>rfl
   |true=>
    have hk:x.kind≠0:=by simpa using hk
    have h1:¬ (lies x.slot 0 (sl-1)=false∨lies x.cell 0 (cells.length:Int)=false):=fun hh=>hA ⟨hk,hh⟩
    simp only [not_or,Bool.not_eq_false] at h1
    rw [h1.1,h1.2]
    rfl
  have hA3:x.kind≠0→(0≤x.slot∧x.slot<sl)∧(0≤x.cell∧x.cell≤cells.length):=by
   intro hk
   have h1:¬ (lies x.slot 0 (sl-1)=false∨lies x.cell 0 (cells.length:Int)=false):=fun hh=>hA ⟨hk,hh⟩
   simp only [not_or,Bool.not_eq_false,as6] at h1
   omega
  rw [hA2]
  refine ⟨⟨by omega,by omega⟩,fun h=>(by cases h),fun _=>⟨fun hk1=>?_,fun hk1=>?_⟩⟩
  ·have hk1:x.kind=1:=by simpa using hk1
   rw [if_pos hk1] at hv
   split at hv
   ·cases hv
   rename_i hB
   simp only [not_or,Int.not_le] at hB
   have hA4:=hA3 (by omega)
   have hv:=Option.some.inj hv
   have e1:(x.cell==(cells.length:Int))=false:=by simpa using hB.1
   have e2:decide (G4 held (cells.getD x.cell.toNat 0)≥0)=false:=decide_eq_false (by omega)
   rw [e1,e2]
   refine ⟨fun _=>⟨by omega,by omega⟩,fun h=>(by cases h),fun _=>⟨⟨by omega,by omega⟩,⟨by omega,by omega⟩,hdone _ _ _ hv.symm⟩⟩
  ·have hk1:¬ x.kind=1:=by simpa using hk1
   rw [if_neg hk1] at hv
   refine ⟨fun hk2'=>?_,fun hk2'=>?_⟩
   ·have hk2':x.kind=2:=by simpa using hk2'
    rw [if_pos hk2'] at hv
    split at hv
    ·cases hv
    rename_i hB
    simp only [not_or,Int.not_le,Int.not_lt,Decidable.not_not] at hB
    have hA4:=hA3 (by omega)
    have hv:=Option.some.inj hv
    have e1:(x.cell !=(cells.length:Int))=false:=by simpa using hB.1
    have e2:decide (held.getD x.slot.toNat 0<pa)=false:=decide_eq_false (by omega)
    have e3:decide (G4 cells (held.getD x.slot.toNat 0)≥0)=false:=decide_eq_false (by omega)
    rw [e1,e2,e3]
    refine ⟨fun _=>⟨by omega,by omega⟩,fun _=>⟨by omega,by omega⟩,fun h=>(by cases h),fun _=>⟨⟨by omega,by omega⟩,by simp only [cq8];omega,hdone _ _ _ hv.symm⟩⟩
   ·have hk2':¬ x.kind=2:=by simpa using hk2'
    rw [if_neg hk2'] at hv
    split at hv
    ·rename_i hD
     have hv:=Option.some.inj hv
     unfold doL at hD
     simp only [co7,cq6,cr4] at hD
     obtain ⟨⟨⟨⟨d1,d2⟩,d3⟩,d4⟩,d5⟩:=hD
     have hmem:=G5 (l:=b) (i:=at_.toNat) (by omega) ins0
     have hf3:=M.froms _ hmem
     have ht3:=M.tos _ hmem
     obtain ⟨y,hy⟩:∃ y,b.getD at_.toNat ins0=y:=⟨_,rfl⟩
     simp only [hy] at*
     have e1:decide (at_≥(b.length:Int))=false:=by simp;omega
     have e2:((x.ins.from_.length:Int) !=(y.from_.length:Int))=false:=by simp;omega
     have e3:((x.ins.to.length:Int) !=(y.to.length:Int))=false:=by simp;omega
     have hat:0≤at_∧at_<(b.length:Int):=⟨hat0,d1⟩
     rw [e1,e2,e3]
     refine ⟨fun _=>hat,fun _=>hat,fun h=>(by cases h),fun _=>⟨⟨(0,()),rfl,Int.le_refl _,by dsimp only;omega⟩,?_⟩⟩
     rintro ⟨j,⟨⟩⟩
     dsimp only
     rintro ⟨j0,j1⟩
     obtain ⟨j,rfl⟩:=cp0 j0
     simp only [co8] at*
     refine ⟨fun h=>?_,fun h=>?_⟩
     ·have h:=cp4 h
      have hj:j<x.ins.from_.length:=by omega
      have hz:(x.ins.from_.getD j 0,y.from_.getD j 0)∈x.ins.from_.zip y.from_:=by
       rw [List.mem_iff_getElem?]
       refine ⟨j,?_⟩
       rw [List.getElem?_zip_eq_some,cp8,cp8,co6 hj,co6 (by omega)]
       exact ⟨rfl,rfl⟩
      obtain ⟨z1,z2⟩:=d4 _ hz
      dsimp only at z1 z2
      have z3:=as6.1 z1
      rw [z1,z2]
      have hb1:(0:Int)≤j∧(j:Int)<x.ins.from_.length:=⟨by omega,by omega⟩
      have hb2:(0:Int)≤j∧(j:Int)<y.from_.length:=⟨by omega,by omega⟩
      refine ⟨hb1,fun _=>hb1,fun _=>⟨by omega,by omega⟩,fun _=>hat,fun _=>hb2,fun h=>(by simp at h),fun _=>⟨((j+1:Nat),()),B6 (m:=4) (by omega) (by omega),⟨by dsimp only;omega,by dsimp only;omega⟩,by dsimp only;omega⟩⟩
     ·refine ⟨⟨(0,held,()),rfl,rfl,Int.le_refl _,by dsimp only;omega,rfl⟩,?_⟩
      rintro ⟨u,hd',⟨⟩⟩
      dsimp only
      rintro ⟨u0,u1,rfl⟩
      obtain ⟨u,rfl⟩:=cp0 u0
      simp only [co8] at*
      refine ⟨fun h=>?_,fun h=>?_⟩
      ·have h:=cp4 h
       have hu:u<x.ins.to.length:=by omega
       have hz:=G5 hu 0
       have z1:=d5 _ hz
       have z3:=as6.1 z1
       have hsn:ad5 held ((x.ins.to.zip y.to).take (u+1))=(ad5 held ((x.ins.to.zip y.to).take u)).set (x.ins.to.getD u 0).toNat (y.to.getD u 0):=by
        rw [A5 (by rw [List.length_zip];omega) (0,0),aP9,bu9 hu (by omega)]
       rw [z1]
       exact ⟨⟨by omega,by omega⟩,fun h=>(by simp at h),fun _=>⟨⟨by omega,by omega⟩,hat,⟨by omega,by omega⟩,⟨z3.1,by rw [T5,hhl];omega⟩,((u+1:Nat),_,()),B6 (m:=4) (by omega) (by omega),rfl,⟨by dsimp only;omega,by dsimp only;omega,by dsimp only;rw [co8,hsn]⟩,by dsimp only;omega⟩⟩
      ·have h:=cp3 h
       have hu:(x.ins.to.zip y.to).take u=x.ins.to.zip y.to:=List.take_of_length_le (by rw [List.length_zip];omega)
       rw [hu]
       refine hdone _ _ _ ?_
       rw [←hv,E9 (by omega) (by omega)]
    ·cases hv
 ·have h:=cp3 h
  have hi:code.take i=code:=List.take_of_length_le (by omega)
  rw [hi,h5] at hrun
  cases hrun
  dsimp only at h6 h7 h8 h9
  refine ⟨⟨(0,()),rfl,Int.le_refl _,by dsimp only;omega⟩,?_⟩
  rintro ⟨p,⟨⟩⟩
  dsimp only
  rintro ⟨p0,p1⟩
  obtain ⟨p,rfl⟩:=cp0 p0
  simp only [co8] at*
  refine ⟨fun h=>?_,fun h=>?_⟩
  ·have h:=cp4 h
   have hp:p<out.length:=by omega
   have hz:(out.getD p ⟨false,0⟩,c.getD p 0)∈out.zip c:=by
    rw [←bu9 hp (by omega)]
    exact G5 (by rw [List.length_zip];omega) _
   have hq:=h9 _ hz
   obtain ⟨o,ho⟩:∃ o,out.getD p ⟨false,0⟩=o:=⟨_,rfl⟩
   obtain ⟨m,hm⟩:∃ m,c.getD p 0=m:=⟨_,rfl⟩
   simp only [ho,hm] at*
   unfold bu7 at hq
   dsimp only at hq
   have hwc:IntKind.i64.wrap ((cells.length:Int)-1)=cells.length-1:=E9 (by omega) (by omega)
   have hb:(0:Int)≤p∧(p:Int)<c.length:=⟨by omega,by omega⟩
   have hfin:∃ p':Int×Unit,IntKind.i64.wrap ((p:Int)+1)=p'.1∧(0≤p'.1∧p'.1≤(c.length:Int))∧c.length-p'.1.toNat<c.length-p:=
    ⟨((p+1:Nat),()),B6 (m:=4) (by omega) (by omega),⟨by dsimp only;omega,by dsimp only;omega⟩,by dsimp only;omega⟩
   rw [hwc]
   cases hoc:o.cell with
   |true=>
    rw [if_pos hoc,co7,cq6] at hq
    have z3:=as6.1 hq.1
    rw [hq.1,hq.2]
    exact ⟨hb,fun _ _=>by omega,fun _ _=>hb,fun _ h=>(by cases h),fun _ h=>(by cases h),fun h=>(by simp at h),fun _=>hfin⟩
   |false=>
    rw [if_neg (by rw [hoc];simp),co7,cq6] at hq
    have z3:=as6.1 hq.1
    rw [hq.1,hq.2]
    exact ⟨hb,fun h=>(by cases h),fun h=>(by cases h),fun _ _ _=>by omega,fun _ _ _=>hb,fun h=>(by simp at h),fun _=>hfin⟩
  ·rw [h6,h8]
   simp
theorem bD7:C8 prog RG 7 cLaw2:=E5 (A8 bn8 (A8 bn9 (A8 aJ5 (A8 by1 (A8 bk5 (A8 aW9 B8)))))) (fun p=>bo8 p.1 p.2.1) (by kernel_rfl) (by kernel_rfl) (by kernel_rfl) fun (l,n,()) _=>bD6 l n
end Go.Rg
end
section
namespace Go.Proofs.YtknhkhdbonjhgaaDoor
open Go.ChangeShapes Go.WideShapes Go.ChangeAt Go.RowKit Go.VT
abbrev av6:List ArgT:=[(23,false,[Go.Rg.ints]),(3,false,[Go.Rg.i64])]
set_option maxRecDepth 100000 in
theorem aX6 (os:Os) (started:os.Started) (H:Type) (enc:TypeId×Value→H):
  ReturnsInHanded {} Tryd.checked os 7 .any (fun w args=>(Rows.regsStoredSpec.pre enc Tryd.prog Tryd.f7 [] false w args∧laidMetH Tryd.prog bC9 w)∧sizedMet enc Tryd.prog Tryd.f7 (OpenSpec.ofChange Rows.regsStoredSpec) false w args)
   (Rows.regsStoredSpec.post enc Tryd.prog Tryd.f7 false true false false):=by
 refine returnsInHanded_of_change_and (C:=Tryd.checked) (X:=fun w _=>laidMetH Tryd.prog bC9 w) (fun _ _ _ hh h=>h.of_heap hh) own started (by kernel_rfl) Tryd.func7
  (ChangeSpec.witness_shaped (enc:=enc) (C:=Tryd.checked) (os:=os) (X:=fun w _=>laidMetH Tryd.prog bC9 w) false (World.doorLaid Tryd.prog 600 os) #[.slice none 0 0,.int .i64 0] 8 rfl (World.shaped_of_RefB (by kernel_rfl) (by kernel_rfl)) (by kernel_rfl) (by kernel_rfl) (by kernel_rfl) (bX4 os _)) ?_
 intro W base args ds gs ag2 hval0 hW _ hsz hL _
 have hval:∀ (j:Nat) t v,Tryd.f7.params[j]? =some t→args[j]? =some v→Value.okWide Tryd.prog W .any base t v:=hval0
 have hW':=hW
 obtain ⟨p,q,hA0,hV,rfl,hfz,hnd⟩:=hW
 have hA:DataW.TrodAll enc Tryd.prog W 0 (fun _=>true) true Tryd.f7.params.toList args.toList ds p:=hA0
 have hps:Tryd.f7.params.toList=av6.map (·.1):=by rw [Tryd.params7];rfl
 obtain ⟨rfl,rfl⟩:gs=[]∧q=[]:=by
  cases gs with
  |nil=>exact ⟨rfl,hV⟩
  |cons g r=>exact absurd hV (by intro h;cases h)
 have hsz':∀ n∈DataW.weightsEach Tryd.prog Tryd.f7.params.toList ds,n≤reachBytes:=by
  intro n hn
  have h1:(DataW.weightsEach Tryd.prog (Tryd.f7.params.toList++[]) (ds++[])).all (·≤reachBytes)=true:=hsz
  rw [List.append_nil,List.append_nil] at h1
  simpa using cr4.1 h1 n hn
 rw [hps] at hA hsz'
 obtain ⟨xs,us,hr,hp⟩:=bs9 ci5 (A:=av6) (fun a ha=>by
  simp only [List.mem_cons,List.not_mem_nil,or_false] at ha
  rcases ha with rfl|rfl
  ·exact bX6
  ·exact ci6) (fun j t v hj hv=>hval j t v (by rw [←hps] at hj;simpa using hj) (by simpa using hv)) hA hsz'
 obtain ⟨d1,d2,rfl⟩:∃ d1 d2,ds=[d1,d2]:=by
  have hlen:=aJ7 hA
  match ds,hlen with
  |[d1,d2],_=>exact ⟨_,_,rfl⟩
 have hcall:=bI9 (pre:=none) (A:=av6) (w:=W) Go.Rg.bD7 (ci4 hL) hr hp trivial
 rw [Array.toArray_toList] at hcall
 refine hcall.mono fun e W' ⟨he,hb⟩=>⟨_,he,bX7 rfl hW' hb (by kernel_rfl) rfl (fun t ht=>?_)⟩
 rw [hps] at ht
 simp only [List.map_cons,List.map_nil,List.mem_cons,List.not_mem_nil,or_false] at ht
 rcases ht with rfl|rfl<;>exact ⟨by kernel_rfl,cp4 (by kernel_rfl)⟩
theorem bh2:Rows.RegsStoredSaid:=
 OpenClaim.holds_of_wide 7 Tryd.f7 rfl rfl rfl rfl rfl rfl rfl ⟨rfl,rfl,rfl,rfl,rfl⟩ rfl rfl rfl rfl rfl (by kernel_rfl) Tryd.func7 (by kernel_rfl)
  (cp4 (by kernel_rfl)) (by unfold Func.isWrapper;first|(rw [if_pos (by decide+kernel)];kernel_rfl)|(rw [if_neg (by decide+kernel)];exact ⟨rfl,rfl⟩))
  (fun os started H enc _=>aX6 os started H enc)
theorem stored_card:Rows.RegsStoredCardSaid:=
 Claim7.holds_tied_plain_at .later [] [.data,.data] true (true,"168ab8e7f67d43304005f9eb622602b7a6af205c051abe541b21ac4f05ca28a5") false
  bh2 (fun _ h=>by cases h) (by kernel_rfl) (fun _ h=>by cases h) regsStored_row_tie rfl ⟨rfl,rfl⟩ (by kernel_rfl) rfl
  (fun f fn hf hfn=>by
   obtain rfl:f=7:=Option.some.inj ((show Tryd.prog.funcNamed "sheafworks/sheafworkslaw23.RegsStored"=some 7 by kernel_rfl).symm.trans hf) |>.symm
   obtain rfl:fn=Tryd.f7:=(Option.some.inj (Tryd.func7.symm.trans hfn)).symm
   exact ⟨by kernel_rfl,fun j t ht=>by
    rw [Tryd.params7] at ht
    have hm:t∈[23,3]:=by simpa using Array.mem_of_getElem? ht
    have hall:([23,3].all fun u=>!Tryd.prog.wantsStandIn u)=true:=by kernel_rfl
    exact (show Tryd.prog.wantsStandIn t=false by simpa using cr4.1 hall t hm)⟩)
  (by kernel_rfl)
end Go.Proofs.YtknhkhdbonjhgaaDoor
end
