/-
RegsChecks: the card's statement, from the law's contract.
-/
import Derived.Test.YtknhkhdbonjhgaaDoorV5
import Derived.Test.YtknhkhdbonjhgaaDoorRows
import Derived.ProofKit
import Derived.LaidMore
import Derived.Stop.Joined
import Derived.ChangeSame
import Derived.Test.YtknhkhdbonjhgaaDoorCards
import Derived.Test.YtknhkhdbonjhgaaDoorTie
import Derived.SevenTiedAt
set_option linter.unusedVariables false
set_option linter.unusedSimpArgs false
section
set_option maxRecDepth 100000
namespace Go.Rg
open Go Go.VT
def F9 (m:Reads) (l:List Int) (i:Int):Reads:=l.foldl (fun m n=>mput eqI m n (getL m n++[i])) m
def N9:List Ins→Int→Reads→Reads
 |[],_,m=>m
 |x::r,i,m=>N9 r (i+1) (F9 m (B6 x.from_) i)
def L1 (code:List Ins):Reads:=N9 code 0 []
def ag3 (a:Nat):List (Int×Int):=(List.range a).foldl (fun (m:List (Int×Int)) (k:Nat)=>mput eqI m (k:Int) (k:Int)) []
def J8 (a:Int):AS:=⟨[],ag3 a.toNat,a,[]⟩
noncomputable def runA (sp:Spans) (rd:Reads) (ks N:Int):List Ins→Int→AS→AS
 |[],_,s=>s
 |x::r,i,s=>runA sp rd ks N r (i+1) (doOf sp rd ks N i x s)
def fewX (ks:Int) (x:Ins):Bool:=decide (((B6 x.from_).length:Int)≤ks)&&decide ((x.to.length:Int)≤ks)
noncomputable def outA (s:AS) (ks n:Int):Place:=bif (E1 s.holds ks n).cell then ⟨true,getI s.cells n⟩ else E1 s.holds ks n
noncomputable def ch0 (f:VFun) (ks:Int):AS:=runA (A8 f.params f.code f.out) (L1 f.code) ks f.code.length f.code 0 (J8 f.params)
noncomputable def C0 (f:VFun) (ks:Int):RCode×Int:=
 if B0 f≠0 then (aE6,B0 f) else if ks<1∨64<ks then (aE6,2) else if f.code.all (fewX ks)=false then (aE6,9)
 else (⟨f.params,ks,(ch0 f ks).ocells,(ch0 f ks).code,f.out.map (outA (ch0 f ks) ks)⟩,0)
theorem bt1 (sp:Spans) (rd:Reads) (ks N:Int) (r:List Ins):∀ (l:List Ins) (i:Int) (s:AS),runA sp rd ks N (l++r) i s=runA sp rd ks N r (i+l.length) (runA sp rd ks N l i s)
 |[],i,s=>by simp [runA]
 |x::l,i,s=>by
  simp only [List.cons_append,runA,bt1 sp rd ks N r l,List.length_cons]
  congr 1
  omega
theorem bf2 (sp:Spans) (rd:Reads) (ks N:Int) (l:List Ins) (x:Ins) (s:AS):runA sp rd ks N (l++[x]) 0 s=doOf sp rd ks N l.length x (runA sp rd ks N l 0 s):=by
 rw [bt1];simp [runA]
theorem ag4 {p q:Place}:eqP p q=true↔p=q:=by
 obtain ⟨c,n⟩:=p
 obtain ⟨c',n'⟩:=q
 show ((c==c')&&((n==n')&&true))=true↔_
 simp
theorem bB5 {β:Type} (m:List (Place×β)) (k:Place) (v:β) (n:Place):mget eqP (mput eqP m k v) n=if k=n then some v else mget eqP m n:=by
 induction m with
 |nil=>
  show (bif eqP k n then some v else none)=_
  by_cases h:k=n
  ·rw [if_pos h,ag4.2 h];rfl
  ·have:eqP k n=false:=by rw [Bool.eq_false_iff];exact fun h2=>h (ag4.1 h2)
   rw [if_neg h,this];rfl
 |cons x r ih=>
  obtain ⟨k',v'⟩:=x
  show mget eqP (bif eqP k' k then (k,v)::r else (k',v')::mput eqP r k v) n=if k=n then some v else bif eqP k' n then some v' else mget eqP r n
  by_cases h:k'=k
  ·subst h
   rw [ag4.2 rfl]
   show (bif eqP k' n then some v else mget eqP r n)=_
   by_cases h1:k'=n
   ·rw [if_pos h1,ag4.2 h1];rfl
   ·have:eqP k' n=false:=by rw [Bool.eq_false_iff];exact fun h2=>h1 (ag4.1 h2)
    rw [if_neg h1,this];rfl
  ·have h2:eqP k' k=false:=by rw [Bool.eq_false_iff];exact fun h2=>h (ag4.1 h2)
   rw [h2]
   show (bif eqP k' n then some v' else mget eqP (mput eqP r k v) n)=_
   rw [ih]
   by_cases h1:k'=n
   ·subst h1
    rw [show eqP k' k'=true from ag4.2 rfl,cond_true,cond_true,if_neg (fun e=>h e.symm)]
   ·have:eqP k' n=false:=by rw [Bool.eq_false_iff];exact fun h2=>h1 (ag4.1 h2)
    rw [this];rfl
def bN9 (m:Holds) (ks n:Int):Prop:=∀ a:Nat,a<ks.toNat→mget eqP m ⟨false,(a:Int)⟩≠some n
structure Fine (P:Int→Prop) (ks:Int) (m:Holds):Prop where
 inj:∀ a b:Nat,a<ks.toNat→b<ks.toNat→∀ r,mget eqP m ⟨false,(a:Int)⟩=some r→mget eqP m ⟨false,(b:Int)⟩=some r→a=b
 reg:∀ a:Nat,a<ks.toNat→∀ r,mget eqP m ⟨false,(a:Int)⟩=some r→P r
theorem aI0 {m:Holds} {ks n:Int}:(E1 m ks n).cell=true↔bN9 m ks n:=by
 unfold E1 bN9
 constructor
 ·intro h a ha hm
  split at h
  ·cases h
  ·rename_i hn
   rw [List.find?_eq_none] at hn
   exact hn a (by simpa using ha) (aN9.2 hm)
 ·intro h
  split
  ·rename_i s hs
   have h1:=List.find?_some hs
   have h2:=List.mem_of_find?_eq_some hs
   exact (h s (by simpa using h2) (aN9.1 h1)).elim
  ·rfl
theorem bt2:∀ (l m:List Int),l.Nodup→(∀ x∈l,x∈m)→l.length≤m.length
 |[],_,_,_=>Nat.zero_le _
 |x::r,m,h,hs=>by
  obtain ⟨h1,h2⟩:=List.nodup_cons.1 h
  have hx:=hs x (by simp)
  have:=bt2 r (m.erase x) h2 (fun y hy=>(List.mem_erase_of_ne (fun e=>by subst e;exact h1 hy)).2 (hs y (by simp [hy])))
  rw [List.length_erase_of_mem hx] at this
  have:=List.length_pos_of_mem hx
  simp only [List.length_cons]
  omega
theorem at7 (sp:Spans) (rd:Reads) (N:Int) (m:Holds) (pl:Int) (st:List Int):∀ (l:List Nat) (acc:List Held),C9 sp rd N m pl st l acc=(none,[])→acc=[]∧∀ s∈l,∃ n∈st,mget eqP m ⟨false,(s:Int)⟩=some n
 |[],acc,h=>by simp only [C9,Prod.mk.injEq,true_and] at h;exact ⟨h,by simp⟩
 |s::r,acc,h=>by
  simp only [C9] at h
  cases hm:mget eqP m ⟨false,(s:Int)⟩ with
  |none=>rw [hm] at h;simp at h
  |some n=>
   rw [hm] at h
   simp only at h
   cases hc:st.contains n with
   |true=>
    rw [hc] at h
    obtain ⟨h1,h2⟩:=at7 sp rd N m pl st r acc h
    refine ⟨h1,fun x hx=>?_⟩
    rcases List.mem_cons.1 hx with rfl|hx
    ·exact ⟨n,by simpa [List.contains_iff_mem] using hc,hm⟩
    ·exact h2 x hx
   |false=>
    rw [hc] at h
    simp only [cond_false] at h
    cases hs:P7 (getS sp n).first (getS sp n).last pl with
    |true=>
     rw [hs] at h
     have:=(at7 sp rd N m pl st r _ h).1
     simp at this
    |false=>rw [hs] at h;simp at h
theorem bf3 {P:Int→Prop} {ks:Int} {m:Holds} (F:Fine P ks m) {n:Int} (hn:bN9 m ks n) {st:List Int} (hs:n∈st) (hl:(st.length:Int)≤ks) (sp:Spans) (rd:Reads) (N pl:Int):aw7 sp rd ks N m pl st:=by
 intro h1 h2
 have h3:C9 sp rd N m pl st (List.range ks.toNat) []=(none,[]):=Prod.ext h1 h2
 obtain ⟨_,h4⟩:=at7 sp rd N m pl st _ _ h3
 let f:Nat→Int:=fun s=>(mget eqP m ⟨false,(s:Int)⟩).getD 0
 have hf:∀ s,s<ks.toNat→f s∈st∧mget eqP m ⟨false,(s:Int)⟩=some (f s):=by
  intro s hs
  obtain ⟨r,hr1,hr2⟩:=h4 s (by simpa using hs)
  have:f s=r:=by simp only [f,hr2,Option.getD_some]
  rw [this]
  exact ⟨hr1,hr2⟩
 have hnd:((List.range ks.toNat).map f).Nodup:=by
  rw [List.nodup_iff_pairwise_ne,List.pairwise_map]
  refine List.Pairwise.imp_of_mem ?_ (List.nodup_iff_pairwise_ne.1 List.nodup_range)
  intro a b ha hb hab heq
  refine hab (F.inj a b (by simpa using ha) (by simpa using hb) (f a) (hf a (by simpa using ha)).2 ?_)
  rw [heq]
  exact (hf b (by simpa using hb)).2
 have hle:=bt2 _ (st.erase n) hnd (fun x hx=>by
  obtain ⟨s,hs1,rfl⟩:=List.mem_map.1 hx
  have hs1:s<ks.toNat:=by simpa using hs1
  exact (List.mem_erase_of_ne (fun e=>hn s hs1 (by rw [(hf s hs1).2,e]))).2 (hf s hs1).1)
 rw [List.length_erase_of_mem hs,List.length_map,List.length_range] at hle
 have:=List.length_pos_of_mem hs
 omega
theorem Fine.put {P P':Int→Prop} {ks:Int} {m:Holds} (F:Fine P ks m) (hP:∀ r,P r→P' r) {n:Int} (hn:bN9 m ks n) (hp:P' n) (q:Int):Fine P' ks (mput eqP m ⟨false,q⟩ n):=by
 have hg:∀ (a:Nat),mget eqP (mput eqP m ⟨false,q⟩ n) ⟨false,(a:Int)⟩=if q=a then some n else mget eqP m ⟨false,(a:Int)⟩:=by
  intro a
  rw [bB5]
  simp
 refine ⟨fun a b ha hb r h1 h2=>?_,fun a ha r h1=>?_⟩
 ·rw [hg] at h1 h2
  by_cases h3:q=a<;>by_cases h4:q=b
  ·omega
  ·rw [if_pos h3] at h1
   rw [if_neg h4] at h2
   simp only [Option.some.injEq] at h1
   subst h1
   exact (hn b hb h2).elim
  ·rw [if_neg h3] at h1
   rw [if_pos h4] at h2
   simp only [Option.some.injEq] at h2
   subst h2
   exact (hn a ha h1).elim
  ·rw [if_neg h3] at h1
   rw [if_neg h4] at h2
   exact F.inj a b ha hb r h1 h2
 ·rw [hg] at h1
  by_cases h3:q=a
  ·rw [if_pos h3] at h1
   simp only [Option.some.injEq] at h1
   subst h1;exact hp
  ·rw [if_neg h3] at h1
   exact hP r (F.reg a ha r h1)
theorem Fine.mono {P P':Int→Prop} {ks:Int} {m:Holds} (F:Fine P ks m) (hP:∀ r,P r→P' r):Fine P' ks m:=⟨F.inj,fun a ha r h=>hP r (F.reg a ha r h)⟩
theorem bm7 (s:AS) (x:Held):(aU2 s x).holds=s.holds:=by
 unfold aU2
 cases (mget eqI s.cells x.reg).isSome<;>rfl
theorem aw9 (sp:Spans) (rd:Reads) (ks N:Int) (s:AS) (pl:Int) (st:List Int):(G8 sp rd ks N s pl st).2.holds=s.holds:=by
 unfold G8
 split
 ·rfl
 ·exact bm7 _ _
theorem aJ1 (sp:Spans) (rd:Reads) (ks N i:Int) (fr:List Int) (s:AS) (n:Int):((E1 s.holds ks n).cell=true∧(K5 sp rd ks N i fr s n).holds=mput eqP s.holds ⟨false,(G8 sp rd ks N s i fr).1⟩ n)∨((E1 s.holds ks n).cell=false∧K5 sp rd ks N i fr s n=s):=by
 unfold K5
 have:=aw9 sp rd ks N s i fr
 cases h:(E1 s.holds ks n).cell with
 |true=>exact .inl ⟨rfl,by simp only [cond_true];rw [this]⟩
 |false=>exact .inr ⟨rfl,rfl⟩
theorem at8 {P:Int→Prop} {sp:Spans} {rd:Reads} {ks N i:Int} {fr:List Int}:∀ (l:List Int) {s:AS},Fine P ks s.holds→(∀ n∈l,P n)→Fine P ks (F3 sp rd ks N i fr s l).holds
 |[],s,F,_=>F
 |n::r,s,F,h=>by
  refine at8 r (s:=K5 sp rd ks N i fr s n) ?_ (fun x hx=>h x (by simp [hx]))
  rcases aJ1 sp rd ks N i fr s n with ⟨h1,h2⟩|⟨h1,h2⟩
  ·rw [h2];exact F.put (fun _ h=>h) (aI0.1 h1) (h n (by simp)) _
  ·rw [h2];exact F
theorem bf4 (sp:Spans) (rd:Reads) (ks N i:Int) (to:List Int) (s:AS) (n:Int):(aw8 sp rd ks N i to s n).holds=mput eqP s.holds ⟨false,(G8 sp rd ks N s (i+1) to).1⟩ n:=by
 have:=aw9 sp rd ks N s (i+1) to
 show mput eqP (G8 sp rd ks N s (i+1) to).2.holds ⟨false,(G8 sp rd ks N s (i+1) to).1⟩ n=_
 rw [this]
theorem bt3 {P:Int→Prop} {sp:Spans} {rd:Reads} {ks N i:Int} {to:List Int} {s:AS} (F:Fine P ks s.holds) (hn:to.Nodup) (hP:∀ n∈to,¬ P n):∀ (k:Nat),k≤to.length→Fine (fun r=>P r∨r∈to.take k) ks (Q9 sp rd ks N i to s (to.take k)).holds∧(∀ n,k<to.length→n=to.getD k 0→bN9 (Q9 sp rd ks N i to s (to.take k)).holds ks n):=by
 intro k
 induction k with
 |zero=>
  intro _
  refine ⟨F.mono fun r h=>.inl h,fun n hk hn2 a ha hm=>?_⟩
  have:=F.reg a ha n hm
  exact hP n (by rw [hn2];exact G6 hk 0) this
 |succ k ih=>
  intro hk
  obtain ⟨h1,h2⟩:=ih (by omega)
  have hF:Fine (fun r=>P r∨r∈to.take (k+1)) ks (Q9 sp rd ks N i to s (to.take (k+1))).holds:=by
   rw [A4 (by omega) 0,aO2,bf4]
   refine h1.put (fun r h=>?_) (h2 _ (by omega) rfl) (.inr (by simp)) _
   rcases h with h|h
   ·exact .inl h
   ·exact .inr (by simp [h])
  refine ⟨hF,fun n hk2 hn2 a ha hm=>?_⟩
  rcases hF.reg a ha n hm with h3|h3
  ·exact hP n (by rw [hn2];exact G6 hk2 0) h3
  ·have hnd:=hn
   rw [←List.take_append_drop (k+1) to,List.nodup_append] at hnd
   refine hnd.2.2 n h3 n ?_ rfl
   rw [hn2,List.getD_eq_getElem?_getD,List.getElem?_eq_getElem hk2]
   exact List.mem_iff_getElem.2 ⟨0,by rw [List.length_drop];omega,by simp⟩
theorem bO0 {l:List Int} {n:Int}:n∈B6 l↔n∈l:=by
 have key:∀ (l seen:List Int),(n∈F5 seen l→n∈l)∧(n∈l→n∈F5 seen l∨n∈seen):=by
  intro l
  induction l with
  |nil=>intro seen;simp [F5]
  |cons x r ih=>
   intro seen
   obtain ⟨h1,h2⟩:=ih (seen++[x])
   simp only [F5]
   cases hc:seen.contains x with
   |true=>
    have hc:x∈seen:=by simpa [List.contains_iff_mem] using hc
    refine ⟨fun h=>by simp [h1 h],fun h=>?_⟩
    simp only [List.mem_cons] at h
    rcases h with rfl|h
    ·exact .inr hc
    ·rcases h2 h with h3|h3
     ·exact .inl h3
     ·simp only [List.mem_append,List.mem_singleton] at h3
      rcases h3 with h3|rfl
      ·exact .inr h3
      ·exact .inr hc
   |false=>
    simp only [cond_false,List.mem_cons]
    refine ⟨fun h=>?_,fun h=>?_⟩
    ·rcases h with h|h
     ·exact .inl h
     ·exact .inr (h1 h)
    ·rcases h with rfl|h
     ·exact .inl (.inl rfl)
     ·rcases h2 h with h3|h3
      ·exact .inl (.inr h3)
      ·simp only [List.mem_append,List.mem_singleton] at h3
       rcases h3 with h3|rfl
       ·exact .inr h3
       ·exact .inl (.inl rfl)
 obtain ⟨h1,h2⟩:=key l []
 exact ⟨h1,fun h=>(h2 h).resolve_right (by simp)⟩
theorem ch1 {P:Int→Prop} {sp:Spans} {rd:Reads} {ks N i:Int} {x:Ins} {s:AS} (F:Fine P ks s.holds) (hfew:fewX ks x=true) (hf:∀ n∈x.from_,P n) (hn:x.to.Nodup) (hP:∀ n∈x.to,¬ P n):
  doOk sp rd ks N i x s∧Fine (fun r=>P r∨r∈x.to) ks (doOf sp rd ks N i x s).holds:=by
 simp only [fewX,Bool.and_eq_true,decide_eq_true_eq] at hfew
 have hd:∀ n∈B6 x.from_,P n:=fun n hn=>hf n (bO0.1 hn)
 have F1:=at8 (sp:=sp) (rd:=rd) (N:=N) (i:=i) (fr:=B6 x.from_) (B6 x.from_) F hd
 refine ⟨⟨fun k hk hc=>?_,fun k hk=>?_⟩,?_⟩
 ·have Fk:=at8 (sp:=sp) (rd:=rd) (N:=N) (i:=i) (fr:=B6 x.from_) ((B6 x.from_).take k) F (fun n hn=>hd n (List.mem_of_mem_take hn))
  exact bf3 Fk (aI0.1 hc) (G6 hk 0) hfew.1 sp rd N i
 ·obtain ⟨h1,h2⟩:=bt3 (sp:=sp) (rd:=rd) (N:=N) (i:=i) F1 hn hP k (by omega)
  exact bf3 h1 (h2 _ hk rfl) (G6 hk 0) hfew.2 sp rd N (i+1)
 ·have:=(bt3 (sp:=sp) (rd:=rd) (N:=N) (i:=i) F1 hn hP x.to.length (Nat.le_refl _)).1
  rw [List.take_length] at this
  exact this
theorem bO1 {a:Int} {b:List Ins} {c:List Int} (C:Checked a b c) {ks:Int} (hfew:b.all (fewX ks)=true) (sp:Spans) (rd:Reads) (N:Int):∀ k,k≤b.length→Fine (fun r=>r<a∨r∈wr (b.take k)) ks (runA sp rd ks N (b.take k) 0 (J8 a)).holds∧(k<b.length→doOk sp rd ks N k (b.getD k ins0) (runA sp rd ks N (b.take k) 0 (J8 a))):=by
 have step:∀ k,k<b.length→Fine (fun r=>r<a∨r∈wr (b.take k)) ks (runA sp rd ks N (b.take k) 0 (J8 a)).holds→doOk sp rd ks N k (b.getD k ins0) (runA sp rd ks N (b.take k) 0 (J8 a))∧Fine (fun r=>(r<a∨r∈wr (b.take k))∨r∈(b.getD k ins0).to) ks (doOf sp rd ks N k (b.getD k ins0) (runA sp rd ks N (b.take k) 0 (J8 a))).holds:=by
  intro k hk F
  have hb:b=b.take k++b.getD k ins0::b.drop (k+1):=by
   conv=>lhs;rw [←List.take_append_drop (k+1) b,A4 hk ins0]
   simp
  have hmem:=G6 hk ins0
  refine ch1 F (List.all_eq_true.1 hfew _ hmem) (fun n hn=>?_) ?_ (fun n hn=>?_)
  ·have:=C.there
   rw [hb] at this
   simpa using X9 this n hn
  ·have hnd:=F8.1 C.once
   rw [hb,L7,L0] at hnd
   exact (List.nodup_append.1 (List.nodup_append.1 hnd).2.1).1
  ·rintro (h|h)
   ·have:=C.new n (bc3.2 ⟨_,hmem,hn⟩);omega
   ·have hnd:=F8.1 C.once
    rw [hb,L7,L0] at hnd
    exact (List.nodup_append.1 hnd).2.2 n h n (List.mem_append_left _ hn) rfl
 intro k
 induction k with
 |zero=>
  intro _
  have F0:Fine (fun r=>r<a∨r∈wr (b.take 0)) ks (runA sp rd ks N (b.take 0) 0 (J8 a)).holds:=⟨fun x y _ _ r h=>by simp [runA,J8,mget] at h,fun x _ r h=>by simp [runA,J8,mget] at h⟩
  exact ⟨F0,fun hk=>(step 0 hk F0).1⟩
 |succ k ih=>
  intro hk
  obtain ⟨F,_⟩:=ih (by omega)
  have F1:=(step k (by omega) F).2
  have F2:Fine (fun r=>r<a∨r∈wr (b.take (k+1))) ks (runA sp rd ks N (b.take (k+1)) 0 (J8 a)).holds:=by
   rw [A4 (by omega) ins0,bf2,List.length_take,Nat.min_eq_left (by omega)]
   refine F1.mono fun r h=>?_
   rw [L7,List.mem_append]
   rcases h with (h|h)|h
   ·exact .inl h
   ·exact .inr (.inl h)
   ·exact .inr (.inr (by simpa [wr] using h))
  exact ⟨F2,fun hk=>(step (k+1) hk F2).1⟩
theorem bW3 (sp:Spans) (rd:Reads) (ks N i:Int) (x:Ins) (s:AS):(doOf sp rd ks N i x s).code.length≤s.code.length+2*(B6 x.from_).length+x.to.length+1∧s.ocells≤(doOf sp rd ks N i x s).ocells∧(doOf sp rd ks N i x s).ocells≤s.ocells+(B6 x.from_).length+x.to.length:=by
 have h1:=ac5 sp rd ks N i (B6 x.from_) (B6 x.from_) s
 have h2:=aH9 sp rd ks N i x.to x.to (F3 sp rd ks N i (B6 x.from_) s (B6 x.from_))
 have hc:(doOf sp rd ks N i x s).code.length=(Q9 sp rd ks N i x.to (F3 sp rd ks N i (B6 x.from_) s (B6 x.from_)) x.to).code.length+1:=by
  simp only [doOf,List.length_append,List.length_cons,List.length_nil]
 have ho:(doOf sp rd ks N i x s).ocells=(Q9 sp rd ks N i x.to (F3 sp rd ks N i (B6 x.from_) s (B6 x.from_)) x.to).ocells:=rfl
 rw [hc,ho]
 omega
theorem bt4 {ks:Int} (hks:ks≤64) (sp:Spans) (rd:Reads) (N:Int):∀ (l:List Ins) (i:Int) (s:AS),l.all (fewX ks)=true→(runA sp rd ks N l i s).code.length≤s.code.length+193*l.length∧s.ocells≤(runA sp rd ks N l i s).ocells∧(runA sp rd ks N l i s).ocells≤s.ocells+128*l.length
 |[],i,s,_=>by simp [runA]
 |x::r,i,s,h=>by
  simp only [List.all_cons,Bool.and_eq_true] at h
  have h1:=h.1
  simp only [fewX,Bool.and_eq_true,decide_eq_true_eq] at h1
  have h2:=bW3 sp rd ks N i x s
  have h3:=bt4 hks sp rd N r (i+1) (doOf sp rd ks N i x s) h.2
  simp only [runA,List.length_cons]
  omega
theorem bf5 (m:Reads) (k:Int) (l:List Int) (n:Int):getL (mput eqI m k l) n=if k=n then l else getL m n:=by
 unfold getL
 rw [M9]
 split<;>rfl
theorem ag5 (i:Int):∀ (l:List Int) (m:Reads),(∀ n,(getL m n).Pairwise (·≤·)∧∀ x∈getL m n,x≤i)→∀ n,(getL (F9 m l i) n).Pairwise (·≤·)∧∀ x∈getL (F9 m l i) n,x≤i
 |[],m,h,n=>h n
 |y::r,m,h,n=>by
  refine ag5 i r (mput eqI m y (getL m y++[i])) (fun k=>?_) n
  rw [bf5]
  split
  ·rename_i hy
   subst hy
   refine ⟨List.pairwise_append.2 ⟨(h y).1,by simp,fun a ha b hb=>?_⟩,fun x hx=>?_⟩
   ·simp only [List.mem_singleton] at hb;subst hb;exact (h y).2 a ha
   ·simp only [List.mem_append,List.mem_singleton] at hx
    rcases hx with hx|rfl
    ·exact (h y).2 x hx
    ·exact Int.le_refl _
  ·exact h k
theorem ak1:∀ (l:List Ins) (i:Int) (m:Reads),(∀ n,(getL m n).Pairwise (·≤·)∧∀ x∈getL m n,x≤i)→ag0 (N9 l i m)
 |[],i,m,h=>fun n=>(h n).1
 |x::r,i,m,h=>by
  refine ak1 r (i+1) _ (fun n=>?_)
  obtain ⟨h1,h2⟩:=ag5 i (B6 x.from_) m h n
  exact ⟨h1,fun y hy=>by have:=h2 y hy;omega⟩
theorem aJ2 (code:List Ins):ag0 (L1 code):=ak1 code 0 [] (fun n=>by simp [getL,mget])
theorem ax0 (x:Ins):∀ (l:List Ins) (i:Int) (m:Reads),N9 (l++[x]) i m=F9 (N9 l i m) (B6 x.from_) (i+l.length)
 |[],i,m=>by simp [N9]
 |y::l,i,m=>by
  simp only [List.cons_append,N9,ax0 x l,List.length_cons]
  congr 1
  omega
theorem bm8 (k:Nat):ag3 (k+1)=mput eqI (ag3 k) k k:=by simp [ag3,List.range_succ]
abbrev tysR:List Ty:=[i64,inss,ints,ints,mapS,mapR,mapP,mapI,i64,i64,i64,i64,i64]
abbrev objR (b:Nat):List OPat:=[.box 79 [.ptr 2 0],.box 86 [.d b,.d (b+1),.d (b+2),.d (b+3),.map 4,.ms 3,.map 5,.map 6,.d (b+8),.d (b+9),.d (b+10),.nil,.nil],.ms (b+5),.map (b+4),.map (b+6),.map (b+7),.box 3 [.d (b+11)],.box 3 [.d (b+12)]]
abbrev ylR:List (Nat×Nat):=[(0,0),(1,1),(2,2),(4,4),(5,5),(6,6),(7,7),(8,8)]
noncomputable def aq8:Con RU:=⟨[one,one],i64::i64::tysR,[.d 0,.yld 0],.loop 1::objR 2,some fun p=>match p with
  |(n,st,a0,a1,a2,a3,sp,rd,ho,ce,op,ks,oc,i,many,())=>st=0∧(∀ n,(getL rd n).length≤1000001)∧0≤many∧many≤140737488356000,
 none,[one],.bool::i64::tysR,[.d 0],.loop 1::objR 2,fun p=>match p with
  |(n,st,a0,a1,a2,a3,sp,rd,ho,ce,op,ks,oc,i,many,())=>(true,0,a0,a1,a2,a3,sp,mput eqI rd n (getL rd n++[i]),ho,ce,op,ks,oc,i,many+1,()),[],ylR,[(1,1000001),(7,1000007),(8,1000008)]⟩
noncomputable def aV0:Con RU:=⟨[one,one],i64::tysR++aE9,[.yld 0,.ptr 9 0],.loop 0::objR 1++[.box 52 [.d 14,.d 15,.d 16,.d 17,.d 18]],some fun p=>match p with
  |(st,a0,a1,a2,a3,sp,rd,ho,ce,op,ks,oc,i,many,x1,x2,x3,x4,x5,())=>st=0∧(∀ n,(getL rd n).length≤1000000)∧many=0,
 none,[],i64::tysR,[],.loop 0::objR 1++[.box 52 [.un,.un,.un,.un,.un]],fun p=>match p with
  |(st,a0,a1,a2,a3,sp,rd,ho,ce,op,ks,oc,i,many,x1,x2,x3,x4,x5,())=>(0,a0,a1,a2,a3,sp,F9 rd (B6 x4) i,ho,ce,op,ks,oc,i,many+(B6 x4).length,()),[],ylR,[(1,448),(7,512),(8,640)]⟩
noncomputable def itAlloc:FuncId→List (Con RU×Con RU×List (Nat×Nat)):=fun f=>bif Nat.beq f 83 then [(aV0,aq8,[(0,0),(1,1),(2,2),(3,3),(4,4),(5,5),(6,6),(7,7),(8,8)])] else []
noncomputable def bm9 (fr:List Int) (rd:Reads) (i many:Int):Nat→St RU→Ann RU:=fun _ _=>⟨[],[.slot 8,.row 1000000,.row 1000003,.box 1000008 0],[i64,i64,mapR,i64],fun p=>0≤p.1∧p.1≤fr.length∧p.2.1=0∧p.2.2.1=F9 rd (B6 (fr.take p.1.toNat)) i∧p.2.2.2.1=many+(B6 (fr.take p.1.toNat)).length,fun p=>fr.length-p.1.toNat,[]⟩
noncomputable def cAlloc:Con RU:=con [(true,4),one] [i64,inss,ints,ints,i64] [(true,5),one] [i64,i64,i64,aS1,aw0,i64] [false,false,false,false,false,false] (some fun p=>L9 p.2.1=true∧H5 p.2.1=true∧p.2.2.1.length≤8796093022200) fun p=>
 ((C0 ⟨p.1,p.2.1,p.2.2.1,p.2.2.2.1⟩ p.2.2.2.2.1).1.params,(C0 ⟨p.1,p.2.1,p.2.2.1,p.2.2.2.1⟩ p.2.2.2.2.1).1.slots,(C0 ⟨p.1,p.2.1,p.2.2.1,p.2.2.2.1⟩ p.2.2.2.2.1).1.cells,(C0 ⟨p.1,p.2.1,p.2.2.1,p.2.2.2.1⟩ p.2.2.2.2.1).1.code,(C0 ⟨p.1,p.2.1,p.2.2.1,p.2.2.2.1⟩ p.2.2.2.2.1).1.out,(C0 ⟨p.1,p.2.1,p.2.2.1,p.2.2.2.1⟩ p.2.2.2.2.1).2,())
noncomputable def bO2 (a:Int) (b:List Ins) (c:List Int) (ks:Int):Nat→St RU→Ann RU:=fun k s=>match k with
 |0=>⟨[],[.slot 48,.row 2176],[i64,mapR],fun p=>0≤p.1∧p.1≤b.length∧p.2.1=N9 (b.take p.1.toNat) 0 []∧(b.take p.1.toNat).all (fewX ks)=true,fun p=>b.length-p.1.toNat,[(.seen 2176,0,0,.bool)]⟩
 |1=>⟨[],[],[],fun _=>False,fun _=>0,[]⟩
 |2=>⟨[],[.slot 86,.row 2304],[i64,mapI],fun p=>0≤p.1∧p.1≤a∧p.2.1=ag3 p.1.toNat,fun p=>a.toNat-p.1.toNat,[(.seen 2176,0,0,.bool)]⟩
 |3=>⟨[],[.slot 99,.row 2240,.row 2304,.box 2816 10,.row 900001],[i64,mapP,mapI,i64,aS1],fun p=>0≤p.1∧p.1≤b.length∧runA (A8 a b c) (L1 b) ks b.length (b.take p.1.toNat) 0 (J8 a)=⟨p.2.1,p.2.2.1,p.2.2.2.1,p.2.2.2.2.1⟩,fun p=>b.length-p.1.toNat,[(.box 2816 11,900001,55,.user 1),(.box 2816 12,900002,59,.user 2)]⟩
 |_=>⟨[],[.slot 112,.row 900002],[i64,aw0],fun p=>0≤p.1∧p.1≤c.length∧p.2.1=(c.take p.1.toNat).map (outA (runA (A8 a b c) (L1 b) ks b.length b 0 (J8 a)) ks),fun p=>c.length-p.1.toNat,[]⟩
end Go.Rg
end
section
set_option maxRecDepth 100000
open Go Go.VT
namespace Go.Rg
theorem bO3 (st a0:Int) (a1:List Ins) (a2 a3:List Int) (sp:Spans) (rd:Reads) (ho:Holds) (ce:List (Int×Int)) (op ks oc i many x1 x2:Int) (x3 x4:List Int) (x5:List Ins):vc (EVy ylR (some aq8) [(61,cContains)]) (bm9 x4 rd i many) Go.Proofs.Tryd.f83 aV0 (st,a0,a1,a2,a3,sp,rd,ho,ce,op,ks,oc,i,many,x1,x2,x3,x4,x5,())=(
 let e0:Int×Int×List Ins×List Int×List Int×List (Int×Span)×List (Int×List Int)×List (Place×Int)×List (Int×Int)×Int×Int×Int×Int×Int×Unit:=
  ((0:Int),a0,a1,a2,a3,sp,F9 rd (B6 x4) i,ho,ce,op,ks,oc,i,many+(↑(List.length (B6 x4)):Int),());
 let e1:Int:=(↑(List.length x4):Int);
  Small RU (Sigma.mk (Ty.slice (52:Nat) (Ty.user (0:Nat))) a1)→
  Small RU (Sigma.mk (Ty.slice (3:Nat) (Ty.int IntKind.i64)) a2)→
  Small RU (Sigma.mk (Ty.slice (3:Nat) (Ty.int IntKind.i64)) a3)→
  Small RU (Sigma.mk (Ty.slice (3:Nat) (Ty.int IntKind.i64)) x3)→
  Small RU (Sigma.mk (Ty.slice (3:Nat) (Ty.int IntKind.i64)) x4)→
  Small RU (Sigma.mk (Ty.slice (52:Nat) (Ty.user (0:Nat))) x5)→
  (∃ (p:Int×Int×List (Int×List Int)×Int×Unit),
  x4=x4∧
  e1=e1∧
  (0:Int)=p.1∧
  st=p.2.1∧
  a0=a0∧
  a1=a1∧
  a2=a2∧
  a3=a3∧
  op=op∧
  ks=ks∧
  oc=oc∧
  rd=p.2.2.1∧
  sp=sp∧
  ho=ho∧
  ce=ce∧
  i=i∧
  many=p.2.2.2.1∧
  x1=x1∧
  x2=x2∧
  x3=x3∧
  x4=x4∧
  x5=x5∧
  (0:Int)≤p.1∧
  p.1≤e1∧
  p.2.1=(0:Int)∧
  p.2.2.1=F9 rd (B6 (List.take (Int.toNat p.1) x4)) i∧
  p.2.2.2.1=many+(↑(List.length (B6 (List.take (Int.toNat p.1) x4))):Int))∧
  ∀ (p:Int×Int×List (Int×List Int)×Int×Unit),
 let e0_1:Int:=p.2.2.2.1;
 let e1_1:List (Int×List Int):=p.2.2.1;
 let e2:List (Int×List Int):=mput eqI e1_1 (List.getD x4 (Int.toNat p.1) (0:Int)) (getL e1_1 (List.getD x4 (Int.toNat p.1) (0:Int))++[i]);
 let e3:Int:=p.1;
 let e4:Int:=p.2.1;
 let e5:Bool:=decide (e3<e1);
 let e6:Bool:=List.contains (List.take (Int.toNat e3) x4) (List.getD x4 (Int.toNat e3) (0:Int));
 let e7:Int:=e0_1+(1:Int);
  (0:Int)≤e3∧e3≤e1∧e4=(0:Int)∧e1_1=F9 rd (B6 (List.take (Int.toNat e3) x4)) i∧e0_1=many+(↑(List.length (B6 (List.take (Int.toNat e3) x4))):Int)→
  (e5=true→
  ((0:Int)≤e3∧e3<e1)∧
  ((0:Int)≤e3∧e3≤e1)∧
  (e6=true→
  ∃ (p':Int×Int×List (Int×List Int)×Int×Unit),
  x4=x4∧
  e1=e1∧
  IntKind.wrap IntKind.i64 (e3+(1:Int))=p'.1∧
  e4=p'.2.1∧
  a0=a0∧
  a1=a1∧
  a2=a2∧
  a3=a3∧
  op=op∧
  ks=ks∧
  oc=oc∧
  e1_1=p'.2.2.1∧
  sp=sp∧
  ho=ho∧
  ce=ce∧
  i=i∧
  e0_1=p'.2.2.2.1∧
  x1=x1∧
  x2=x2∧
  x3=x3∧
  x4=x4∧
  x5=x5∧
  ((0:Int)≤p'.1∧
  p'.1≤e1∧
  p'.2.1=(0:Int)∧
  p'.2.2.1=F9 rd (B6 (List.take (Int.toNat p'.1) x4)) i∧
  p'.2.2.2.1=many+(↑(List.length (B6 (List.take (Int.toNat p'.1) x4))):Int))∧
  List.length x4-Int.toNat p'.1<List.length x4-Int.toNat e3)∧
  (e6=false→
  (e4=(0:Int)∧(∀ (n:Int),List.length (getL e1_1 n)≤(1000001:Nat))∧(0:Int)≤e0_1∧e0_1≤(140737488356000:Int))∧
  ((!true)=true→((0:Int),a0,a1,a2,a3,sp,e2,ho,ce,op,ks,oc,i,e7,())=e0)∧
  ((!true)=false→
  ∃ (p':Int×Int×List (Int×List Int)×Int×Unit),
  x4=x4∧
  e1=e1∧
  IntKind.wrap IntKind.i64 (e3+(1:Int))=p'.1∧
  (0:Int)=p'.2.1∧
  a0=a0∧
  a1=a1∧
  a2=a2∧
  a3=a3∧
  op=op∧
  ks=ks∧
  oc=oc∧
  e2=p'.2.2.1∧
  sp=sp∧
  ho=ho∧
  ce=ce∧
  i=i∧
  e7=p'.2.2.2.1∧
  x1=x1∧
  x2=x2∧
  x3=x3∧
  x4=x4∧
  x5=x5∧
  ((0:Int)≤p'.1∧
  p'.1≤e1∧
  p'.2.1=(0:Int)∧
  p'.2.2.1=F9 rd (B6 (List.take (Int.toNat p'.1) x4)) i∧
  p'.2.2.2.1=many+(↑(List.length (B6 (List.take (Int.toNat p'.1) x4))):Int))∧
  List.length x4-Int.toNat p'.1<List.length x4-Int.toNat e3)))∧
  (e5=false→(e4,a0,a1,a2,a3,sp,e1_1,ho,ce,op,ks,oc,i,e0_1,())=e0)):=by kernel_rfl
theorem bW4 (a:Int) (b:List Ins) (c d:List Int) (ks:Int):vc (EVd [] itAlloc [(41,cCheck),(51,cSpans),(52,cReads),(53,cDo),(54,cSlot)]) (bO2 a b c ks) Go.Proofs.Tryd.f15 cAlloc (a,b,c,d,ks,())=(
 let e0:Int×Int×Int×List RIns×List Place×Int×Unit:=
  ((C0 (VFun.mk a b c d) ks).1.params,(C0 (VFun.mk a b c d) ks).1.slots,(C0 (VFun.mk a b c d) ks).1.cells,(C0 (VFun.mk a b c d) ks).1.code,
  (C0 (VFun.mk a b c d) ks).1.out,(C0 (VFun.mk a b c d) ks).2,());
 let e1:Bool:=decide (ks<(1:Int))||decide (ks >(64:Int));
 let e2:Int:=(↑(List.length b):Int);
 let e3:Ins:=Ins.mk (0:Int) (0:Int) [] [] [];
 let e4:Bool:=B0 (VFun.mk a b c d) !=(0:Int);
 let e5:Int:=(↑(List.length c):Int);
 let e6:Int:=B0 (VFun.mk a b c d);
  Small RU (Sigma.mk (Ty.slice (52:Nat) (Ty.user (0:Nat))) b)→
  Small RU (Sigma.mk (Ty.slice (3:Nat) (Ty.int IntKind.i64)) c)→
  Small RU (Sigma.mk (Ty.slice (3:Nat) (Ty.int IntKind.i64)) d)→
  (e4=true→((0:Int),(0:Int),(0:Int),[],[],e6,())=e0)∧
  (e4=false→
  (e1=true→((0:Int),(0:Int),(0:Int),[],[],(2:Int),())=e0)∧
  (e1=false→
  a≤(4000:Int)∧
  (∃ (p:Int×List (Int×List Int)×Unit),
  a=a∧
  b=b∧
  c=c∧
  d=d∧
  ks=ks∧
  e6=e6∧
  e4=e4∧
  e1=e1∧
  a=a∧
  b=b∧
  c=c∧
  d=d∧
  b=b∧
  e2=e2∧
  (0:Int)=p.1∧
  a=a∧
  b=b∧
  c=c∧
  d=d∧
  (0:Int)=(0:Int)∧
  (0:Int)=(0:Int)∧
  (0:Int)=(0:Int)∧
  A8 a b c=A8 a b c∧
  []=p.2.1∧
  ([]:List (Place×Int))=[]∧
  ([]:List (Int×Int))=[]∧
  a=a∧
  b=b∧
  c=c∧
  d=d∧
  a=a∧
  ks=ks∧
  a=a∧
  (0:Int)≤p.1∧
  p.1≤e2∧
  p.2.1=N9 (List.take (Int.toNat p.1) b) (0:Int) []∧
  List.all (List.take (Int.toNat p.1) b) (fewX ks)=true)∧
  ∀ (p:Int×List (Int×List Int)×Unit),
 let e0_1:Bool:=
  decide ((0:Int)+(↑(List.length (B6 (List.getD b (Int.toNat p.1) e3).from_)):Int) >ks)||decide ((↑(List.length (List.getD b (Int.toNat p.1) e3).to):Int) >ks);
 let e1_1:List (Int×List Int):=p.2.1;
 let e2_1:Bool:=decide (p.1<e2);
 let e3_1:Int:=p.1;
  (0:Int)≤e3_1∧e3_1≤e2∧e1_1=N9 (List.take (Int.toNat e3_1) b) (0:Int) []∧List.all (List.take (Int.toNat e3_1) b) (fewX ks)=true→
  (e2_1=true→
  ((0:Int)≤e3_1∧e3_1<e2)∧
  (∀
  (xs:
  Int×
  Int×
  Int×List Ins×List Int×List Int×List (Int×Span)×List (Int×List Int)×List (Place×Int)×List (Int×Int)×Int×Int×Int×Int×Int×Unit),
 let e0:Int:=xs.2.2.2.2.2.2.2.2.2.2.2.2.2.1;
 let e1:Int×Int×Int×Unit:=xs.2.2.2.2.2.2.2.2.2.2.2.2;
 let e2:List Int:=Option.getD (mget (fun (x y:Int)=>x==y) xs.2.2.2.2.2.2.2.1 xs.1) [];
 let e3:Int×Int×Int×Int×Int×Unit:=xs.2.2.2.2.2.2.2.2.2.2;
 let e4:List (Place×Int)×List (Int×Int)×Int×Int×Int×Int×Int×Unit:=xs.2.2.2.2.2.2.2.2;
 let e5:List (Int×Span)×List (Int×List Int)×List (Place×Int)×List (Int×Int)×Int×Int×Int×Int×Int×Unit:=xs.2.2.2.2.2.2;
 let e6:List Int:=xs.2.2.2.2.2.1;
 let e7:List Int:=xs.2.2.2.2.1;
 let e8:List Ins:=xs.2.2.2.1;
 let e9:Int:=xs.1;
 let e10:
  Int×
  Int×List Ins×List Int×List Int×List (Int×Span)×List (Int×List Int)×List (Place×Int)×List (Int×Int)×Int×Int×Int×Int×Int×Unit:=
  xs.2;
  xs.2.1=(0:Int)∧
  (∀ (n:Int),List.length (getL xs.2.2.2.2.2.2.2.1 n)≤(1000001:Nat))∧
  (0:Int)≤xs.2.2.2.2.2.2.2.2.2.2.2.2.2.2.1∧xs.2.2.2.2.2.2.2.2.2.2.2.2.2.2.1≤(140737488356000:Int)→
  Small RU (Sigma.mk (Ty.slice (52:Nat) (Ty.user (0:Nat))) e8)→
  Small RU (Sigma.mk (Ty.slice (3:Nat) (Ty.int IntKind.i64)) e7)→
  Small RU (Sigma.mk (Ty.slice (3:Nat) (Ty.int IntKind.i64)) e6)→
  e10.1=(0:Int)∧
  (List.length e2+List.length [e0])*(8:Nat)≤(140737488355328:Nat)∧
  e9=e9∧
  (true,(0:Int),e10.2.1,e8,e7,e6,e5.1,mput (fun (x y:Int)=>x==y) e5.2.1 e9 (e2++[e0]),e4.1,e4.2.1,e3.1,e3.2.1,
  e1.1,e0,IntKind.wrap IntKind.i64 (e1.2.2.1+(1:Int)),())=
  aq8.fn xs)∧
  ((0:Int)=(0:Int)∧(∀ (n:Int),List.length (getL e1_1 n)≤(1000000:Nat))∧(0:Int)=(0:Int))∧
  (0:Int)=(0:Int)∧
  (e0_1=true→((0:Int),(0:Int),(0:Int),[],[],(9:Int),())=e0)∧
  (e0_1=false→
  ∃ (p':Int×List (Int×List Int)×Unit),
  a=a∧
  b=b∧
  c=c∧
  d=d∧
  ks=ks∧
  e6=e6∧
  e4=e4∧
  e1=e1∧
  a=a∧
  b=b∧
  c=c∧
  d=d∧
  b=b∧
  e2=e2∧
  IntKind.wrap IntKind.i64 (e3_1+(1:Int))=p'.1∧
  a=a∧
  b=b∧
  c=c∧
  d=d∧
  (0:Int)=(0:Int)∧
  (0:Int)=(0:Int)∧
  (0:Int)=(0:Int)∧
  A8 a b c=A8 a b c∧
  F9 e1_1 (B6 (List.getD b (Int.toNat e3_1) e3).from_) e3_1=p'.2.1∧
  ([]:List (Place×Int))=[]∧
  ([]:List (Int×Int))=[]∧
  a=a∧
  b=b∧
  c=c∧
  d=d∧
  a=a∧
  ks=ks∧
  a=a∧
  ((0:Int)≤p'.1∧
  p'.1≤e2∧
  p'.2.1=N9 (List.take (Int.toNat p'.1) b) (0:Int) []∧
  List.all (List.take (Int.toNat p'.1) b) (fewX ks)=true)∧
  List.length b-Int.toNat p'.1<List.length b-Int.toNat e3_1))∧
  (e2_1=false→
  (∃ (p:Int×List (Int×Int)×Unit),
  a=a∧
  b=b∧
  c=c∧
  d=d∧
  ks=ks∧
  e6=e6∧
  e4=e4∧
  e1=e1∧
  a=a∧
  b=b∧
  c=c∧
  d=d∧
  b=b∧
  e2=e2∧
  e3_1=e3_1∧
  e2_1=e2_1∧
  a=a∧
  (0:Int)=p.1∧
  a=a∧
  b=b∧
  c=c∧
  d=d∧
  (0:Int)=(0:Int)∧
  (0:Int)=(0:Int)∧
  (0:Int)=(0:Int)∧
  A8 a b c=A8 a b c∧
  e1_1=e1_1∧
  ([]:List (Place×Int))=[]∧
  []=p.2.1∧
  a=a∧
  b=b∧
  c=c∧
  d=d∧a=a∧ks=ks∧a=a∧(0:Int)≤p.1∧p.1≤a∧p.2.1=ag3 (Int.toNat p.1))∧
  ∀ (p:Int×List (Int×Int)×Unit),
 let e0_2:Bool:=decide (p.1<a);
 let e1_2:Int:=p.1;
 let e2_2:List (Int×Int):=p.2.1;
  (0:Int)≤e1_2∧e1_2≤a∧e2_2=ag3 (Int.toNat e1_2)→
  (e0_2=true→
  ∃ (p':Int×List (Int×Int)×Unit),
  a=a∧
  b=b∧
  c=c∧
  d=d∧
  ks=ks∧
  e6=e6∧
  e4=e4∧
  e1=e1∧
  a=a∧
  b=b∧
  c=c∧
  d=d∧
  b=b∧
  e2=e2∧
  e3_1=e3_1∧
  e2_1=e2_1∧
  a=a∧
  IntKind.wrap IntKind.i64 (e1_2+(1:Int))=p'.1∧
  a=a∧
  b=b∧
  c=c∧
  d=d∧
  (0:Int)=(0:Int)∧
  (0:Int)=(0:Int)∧
  (0:Int)=(0:Int)∧
  A8 a b c=A8 a b c∧
  e1_1=e1_1∧
  ([]:List (Place×Int))=[]∧
  mput (fun (x y:Int)=>x==y) e2_2 e1_2 e1_2=p'.2.1∧
  a=a∧
  b=b∧
  c=c∧
  d=d∧
  a=a∧
  ks=ks∧
  a=a∧
  ((0:Int)≤p'.1∧p'.1≤a∧p'.2.1=ag3 (Int.toNat p'.1))∧
  Int.toNat a-Int.toNat p'.1<Int.toNat a-Int.toNat e1_2)∧
  (e0_2=false→
  (∃ (p:Int×List (Place×Int)×List (Int×Int)×Int×List RIns×Unit),
  a=a∧
  b=b∧
  c=c∧
  d=d∧
  ks=ks∧
  e6=e6∧
  e4=e4∧
  e1=e1∧
  a=a∧
  b=b∧
  c=c∧
  d=d∧
  b=b∧
  e2=e2∧
  e3_1=e3_1∧
  e2_1=e2_1∧
  a=a∧
  e1_2=e1_2∧
  e0_2=e0_2∧
  b=b∧
  e2=e2∧
  (0:Int)=p.1∧
  a=a∧
  b=b∧
  c=c∧
  d=d∧
  (0:Int)=(0:Int)∧
  (0:Int)=(0:Int)∧
  (0:Int)=(0:Int)∧
  A8 a b c=A8 a b c∧
  e1_1=e1_1∧
  []=p.2.1∧
  e2_2=p.2.2.1∧
  a=a∧
  b=b∧
  c=c∧
  d=d∧
  a=a∧
  ks=ks∧
  a=p.2.2.2.1∧
  []=p.2.2.2.2.1∧
  ([]:List Place)=[]∧
  (0:Int)≤p.1∧
  p.1≤e2∧
  runA (A8 a b c) (L1 b) ks e2 (List.take (Int.toNat p.1) b)
  (0:Int) (J8 a)=
  AS.mk p.2.1 p.2.2.1 p.2.2.2.1
  p.2.2.2.2.1)∧
  ∀ (p:Int×List (Place×Int)×List (Int×Int)×Int×List RIns×Unit),
 let e0_3:AS:=AS.mk p.2.1 p.2.2.1 p.2.2.2.1 p.2.2.2.2.1;
 let e1_3:Int:=p.2.2.2.1;
 let e2_3:AS:=
  doOf (A8 a b c) e1_1 ks e2 p.1
  (Ins.mk (List.getD b (Int.toNat p.1) e3).op (List.getD b (Int.toNat p.1) e3).n (List.getD b (Int.toNat p.1) e3).to
  (List.getD b (Int.toNat p.1) e3).from_ (List.getD b (Int.toNat p.1) e3).body)
  e0_3;
 let e3_2:List RIns:=p.2.2.2.2.1;
 let e4_1:Int:=p.1;
 let e5_1:List (Int×Int):=p.2.2.1;
 let e6_1:List (Place×Int):=p.2.1;
 let e7:Bool:=decide (e4_1<e2);
 let e8:List Int:=B6 (List.getD b (Int.toNat e4_1) e3).from_;
 let e9:List Int:=(List.getD b (Int.toNat e4_1) e3).to;
 let e10:Int:=e4_1+(1:Int);
  (0:Int)≤e4_1∧e4_1≤e2∧runA (A8 a b c) (L1 b) ks e2 (List.take (Int.toNat e4_1) b) (0:Int) (J8 a)=e0_3→
  (e7=true→
  ((0:Int)≤e4_1∧e4_1<e2)∧
  (V6 e9 (List.getD b (Int.toNat e4_1) e3).from_ (List.getD b (Int.toNat e4_1) e3).body=true∧
  List.length (List.getD b (Int.toNat e4_1) e3).from_≤(17592186044400:Nat)∧
  List.length e8≤(64:Nat)∧
  List.length e9≤(64:Nat)∧
  (∀ (n:Int),List.Pairwise (fun (x1 x2:Int)=>x1≤x2) (getL e1_1 n))∧
  ((∀ (k:Nat),
 let e0:Option Int×List Held:=
  M3 (A8 a b c) e1_1 ks e2 (F3 (A8 a b c) e1_1 ks e2 e4_1 e8 e0_3 (List.take k e8)).holds e4_1 e8;
  k<List.length e8→
  (E1 (F3 (A8 a b c) e1_1 ks e2 e4_1 e8 e0_3 (List.take k e8)).holds ks (List.getD e8 k (0:Int))).cell=true→
  e0.1=none→e0.2≠[])∧
  ∀ (k:Nat),
 let e0:Option Int×List Held:=
  M3 (A8 a b c) e1_1 ks e2
  (Q9 (A8 a b c) e1_1 ks e2 e4_1 e9 (F3 (A8 a b c) e1_1 ks e2 e4_1 e8 e0_3 e8) (List.take k e9)).holds e10 e9;
  k<List.length e9→e0.1=none→e0.2≠[])∧
  ks≤(64:Int)∧
  (0:Int)≤e4_1∧e4_1≤(1000000:Int)∧(0:Int)≤e1_3∧e1_3≤(100000000:Int)∧List.length e3_2≤(100000000:Nat))∧
  ∃ (p':Int×List (Place×Int)×List (Int×Int)×Int×List RIns×Unit),
  a=a∧
  b=b∧
  c=c∧
  d=d∧
  ks=ks∧
  e6=e6∧
  e4=e4∧
  e1=e1∧
  a=a∧
  b=b∧
  c=c∧
  d=d∧
  b=b∧
  e2=e2∧
  e3_1=e3_1∧
  e2_1=e2_1∧
  a=a∧
  e1_2=e1_2∧
  e0_2=e0_2∧
  b=b∧
  e2=e2∧
  IntKind.wrap IntKind.i64 e10=p'.1∧
  a=a∧
  b=b∧
  c=c∧
  d=d∧
  (0:Int)=(0:Int)∧
  (0:Int)=(0:Int)∧
  (0:Int)=(0:Int)∧
  A8 a b c=A8 a b c∧
  e1_1=e1_1∧
  e2_3.holds=p'.2.1∧
  e2_3.cells=p'.2.2.1∧
  a=a∧
  b=b∧
  c=c∧
  d=d∧
  a=a∧
  ks=ks∧
  e2_3.ocells=p'.2.2.2.1∧
  e2_3.code=p'.2.2.2.2.1∧
  ([]:List Place)=[]∧
  ((0:Int)≤p'.1∧
  p'.1≤e2∧
  runA (A8 a b c) (L1 b) ks e2
  (List.take (Int.toNat p'.1) b) (0:Int)
  (J8 a)=
  AS.mk p'.2.1 p'.2.2.1 p'.2.2.2.1
  p'.2.2.2.2.1)∧
  List.length b-Int.toNat p'.1<
  List.length b-Int.toNat e4_1)∧
  (e7=false→
  (∃ (p:Int×List Place×Unit),
  a=a∧
  b=b∧
  c=c∧
  d=d∧
  ks=ks∧
  e6=e6∧
  e4=e4∧
  e1=e1∧
  a=a∧
  b=b∧
  c=c∧
  d=d∧
  b=b∧
  e2=e2∧
  e3_1=e3_1∧
  e2_1=e2_1∧
  a=a∧
  e1_2=e1_2∧
  e0_2=e0_2∧
  b=b∧
  e2=e2∧
  e4_1=e4_1∧
  e7=e7∧
  c=c∧
  e5=e5∧
  (0:Int)=p.1∧
  a=a∧
  b=b∧
  c=c∧
  d=d∧
  (0:Int)=(0:Int)∧
  (0:Int)=(0:Int)∧
  (0:Int)=(0:Int)∧
  A8 a b c=A8 a b c∧
  e1_1=e1_1∧
  e6_1=e6_1∧
  e5_1=e5_1∧
  a=a∧
  b=b∧
  c=c∧
  d=d∧
  a=a∧
  ks=ks∧
  e1_3=e1_3∧
  e3_2=e3_2∧
  []=p.2.1∧
  (0:Int)≤p.1∧
  p.1≤e5∧
  p.2.1=
  List.map
  (outA
  (runA (A8 a b c) (L1 b) ks e2 b
  (0:Int) (J8 a))
  ks)
  (List.take (Int.toNat p.1) c))∧
  ∀ (p:Int×List Place×Unit),
 let e0_4:Bool:=
  (E1 e6_1 ks (List.getD c (Int.toNat p.1) (0:Int))).cell==true&&
  ((E1 e6_1 ks (List.getD c (Int.toNat p.1) (0:Int))).n==(-1:Int)&&true);
 let e1_4:List Place:=
  [Place.mk (bif e0_4 then true else (E1 e6_1 ks (List.getD c (Int.toNat p.1) (0:Int))).cell)
  (bif e0_4 then Option.getD (mget (fun (x y:Int)=>x==y) e5_1 (List.getD c (Int.toNat p.1) (0:Int))) (0:Int)
  else (E1 e6_1 ks (List.getD c (Int.toNat p.1) (0:Int))).n)];
 let e2_4:List Place:=p.2.1;
 let e3:Int:=p.1;
 let e4_2:Bool:=decide (e3<e5);
  (0:Int)≤e3∧e3≤e5∧e2_4=List.map (outA (runA (A8 a b c) (L1 b) ks e2 b (0:Int) (J8 a)) ks) (List.take (Int.toNat e3) c)→
  (e4_2=true→
  ((0:Int)≤e3∧e3<e5)∧
  ks≤(64:Int)∧
  (List.length (bif e0_4 then e2_4 else e2_4)+List.length e1_4)*(16:Nat)≤(140737488355328:Nat)∧
  ∃ (p':Int×List Place×Unit),
  (bif e0_4 then a else a)=a∧
  (bif e0_4 then b else b)=b∧
  (bif e0_4 then c else c)=c∧
  (bif e0_4 then d else d)=d∧
  (bif e0_4 then ks else ks)=ks∧
  (bif e0_4 then e6 else e6)=e6∧
  (bif e0_4 then e4 else e4)=e4∧
  (bif e0_4 then e1 else e1)=e1∧
  (bif e0_4 then a else a)=a∧
  (bif e0_4 then b else b)=b∧
  (bif e0_4 then c else c)=c∧
  (bif e0_4 then d else d)=d∧
  (bif e0_4 then b else b)=b∧
  (bif e0_4 then e2 else e2)=e2∧
  (bif e0_4 then e3_1 else e3_1)=e3_1∧
  (bif e0_4 then e2_1 else e2_1)=e2_1∧
  (bif e0_4 then a else a)=a∧
  (bif e0_4 then e1_2 else e1_2)=e1_2∧
  (bif e0_4 then e0_2 else e0_2)=e0_2∧
  (bif e0_4 then b else b)=b∧
  (bif e0_4 then e2 else e2)=e2∧
  (bif e0_4 then e4_1 else e4_1)=e4_1∧
  (bif e0_4 then e7 else e7)=e7∧
  (bif e0_4 then c else c)=c∧
  (bif e0_4 then e5 else e5)=e5∧
  IntKind.wrap IntKind.i64 ((bif e0_4 then e3 else e3)+(1:Int))=p'.1∧
  (bif e0_4 then a else a)=a∧
  (bif e0_4 then b else b)=b∧
  (bif e0_4 then c else c)=c∧
  (bif e0_4 then d else d)=d∧
  (bif e0_4 then (0:Int) else (0:Int))=(0:Int)∧
  (bif e0_4 then (0:Int) else (0:Int))=(0:Int)∧
  (bif e0_4 then (0:Int) else (0:Int))=(0:Int)∧
  (bif e0_4 then A8 a b c else A8 a b c)=A8 a b c∧
  (bif e0_4 then e1_1 else e1_1)=e1_1∧
  (bif e0_4 then e6_1 else e6_1)=e6_1∧
  (bif e0_4 then e5_1 else e5_1)=e5_1∧
  (bif e0_4 then a else a)=a∧
  (bif e0_4 then b else b)=b∧
  (bif e0_4 then c else c)=c∧
  (bif e0_4 then d else d)=d∧
  (bif e0_4 then a else a)=a∧
  (bif e0_4 then ks else ks)=ks∧
  (bif e0_4 then e1_3 else e1_3)=e1_3∧
  (bif e0_4 then e3_2 else e3_2)=e3_2∧
  (bif e0_4 then e2_4 else e2_4)++e1_4=
  p'.2.1∧
  ((0:Int)≤p'.1∧
  p'.1≤e5∧
  p'.2.1=
  List.map
  (outA
  (runA (A8 a b c)
  (L1 b) ks e2 b (0:Int)
  (J8 a))
  ks)
  (List.take (Int.toNat p'.1)
  c))∧
  List.length c-Int.toNat p'.1<
  List.length c-Int.toNat e3)∧
  (e4_2=false→(a,ks,e1_3,e3_2,e2_4,(0:Int),())=e0))))))):=by kernel_rfl
end Go.Rg
end
section
set_option maxRecDepth 100000
namespace Go.Rg
open Go Go.VT
theorem aI1 (l:List Int):(B6 l).Nodup:=by
 have key:∀ (l seen:List Int),(F5 seen l).Nodup∧∀ x∈F5 seen l,x∉seen:=by
  intro l
  induction l with
  |nil=>intro seen;simp [F5]
  |cons y r ih=>
   intro seen
   obtain ⟨h1,h2⟩:=ih (seen++[y])
   simp only [F5]
   cases hc:seen.contains y with
   |true=>exact ⟨h1,fun x hx h=>h2 x hx (by simp [h])⟩
   |false=>
    have hc:y∉seen:=by rw [Bool.eq_false_iff,ne_eq,List.contains_iff_mem] at hc;exact hc
    simp only [cond_false]
    refine ⟨List.nodup_cons.2 ⟨fun h=>h2 y h (by simp),h1⟩,fun x hx h=>?_⟩
    rcases List.mem_cons.1 hx with rfl|hx
    ·exact hc h
    ·exact h2 x hx (by simp [h])
 exact (key l []).1
theorem aV1 (m:Reads) (l:List Int) (x i:Int):F9 m (l++[x]) i=mput eqI (F9 m l i) x (getL (F9 m l i) x++[i]):=by simp [F9]
theorem ag6 (i n:Int):∀ (l:List Int) (m:Reads),l.Nodup→(getL (F9 m l i) n).length≤(getL m n).length+(if n∈l then 1 else 0)
 |[],m,_=>by simp [F9]
 |y::r,m,h=>by
  obtain ⟨h1,h2⟩:=List.nodup_cons.1 h
  have:=ag6 i n r (mput eqI m y (getL m y++[i])) h2
  rw [bf5] at this
  show (getL (F9 (mput eqI m y (getL m y++[i])) r i) n).length≤_
  by_cases hy:y=n
  ·subst hy
   rw [if_pos rfl,if_neg h1] at this
   simp only [List.length_append,List.length_cons,List.length_nil] at this
   rw [if_pos (by simp)]
   omega
  ·rw [if_neg hy] at this
   have hn:(n∈y::r)↔n∈r:=by simp [Ne.symm hy]
   simp only [hn]
   exact this
theorem aI2 (n:Int):∀ (l:List Ins) (i:Int) (m:Reads),(getL (N9 l i m) n).length≤(getL m n).length+l.length
 |[],i,m=>by simp [N9]
 |x::r,i,m=>by
  have h1:=aI2 n r (i+1) (F9 m (B6 x.from_) i)
  have h2:=ag6 i n (B6 x.from_) m (aI1 _)
  simp only [N9,List.length_cons]
  split at h2<;>omega
theorem bO4 (st a0:Int) (a1:List Ins) (a2 a3:List Int) (sp:Spans) (rd:Reads) (ho:Holds) (ce:List (Int×Int)) (op ks oc i many x1 x2:Int) (x3 x4:List Int) (x5:List Ins) (hp:st=0∧(∀ n,(getL rd n).length≤1000000)∧many=0):
  vc (EVy ylR (some aq8) [(61,cContains)]) (bm9 x4 rd i many) Go.Proofs.Tryd.f83 aV0 (st,a0,a1,a2,a3,sp,rd,ho,ce,op,ks,oc,i,many,x1,x2,x3,x4,x5,()):=by
 rw [bO3 st a0 a1 a2 a3 sp rd ho ce op ks oc i many x1 x2 x3 x4 x5]
 intro e0 e1 _ _ _ _ hs4 _
 have hl4:x4.length≤140737488355328:=hs4.len
 have he0:e0=(0,a0,a1,a2,a3,sp,F9 rd (B6 x4) i,ho,ce,op,ks,oc,i,many+(B6 x4).length,()):=rfl
 clear_value e0
 dsimp only [e1]
 simp only [true_and,and_true]
 refine ⟨⟨(0,0,rd,many,()),rfl,hp.1,rfl,rfl,Int.le_refl _,by dsimp only;omega,rfl,rfl,by simp [B6,F5]⟩,?_⟩
 rintro ⟨j,s0,m,mm,⟨⟩⟩ ⟨h0,h1,h2,h3,h4⟩
 dsimp only at h0 h1 h2 h3 h4 ⊢
 obtain ⟨k,rfl⟩:=Int.eq_ofNat_of_zero_le h0
 simp only [Int.toNat_natCast] at h3 h4 ⊢
 subst h2
 refine ⟨fun hlt=>?_,fun hge=>?_⟩
 ·have hlt:(k:Int)<x4.length:=of_decide_eq_true hlt
  have hs:=aO1 (x4.take k) (x4.getD k 0)
  rw [←A4 (by omega)] at hs
  have hl:=ag2 (x4.take k)
  rw [List.length_take] at hl
  refine ⟨⟨h0,hlt⟩,⟨h0,by omega⟩,fun q=>?_,fun q=>⟨⟨rfl,fun n=>?_,by omega,by omega⟩,fun h=>(by cases h),fun _=>?_⟩⟩
  ·rw [q] at hs
   exact ⟨((k+1:Nat),0,m,mm,()),B4 (by omega) hl4,rfl,rfl,rfl,⟨by omega,by dsimp only;omega,rfl,by dsimp only;rw [Int.toNat_natCast,hs];exact h3,by dsimp only;rw [Int.toNat_natCast,hs];exact h4⟩,by dsimp only;omega⟩
  ·have h5:=ag6 i n (B6 (x4.take k)) rd (aI1 _)
   have h6:=hp.2.1 n
   rw [h3]
   split at h5<;>omega
  ·rw [q,cond_false] at hs
   refine ⟨((k+1:Nat),0,_,_,()),B4 (by omega) hl4,rfl,rfl,rfl,⟨by omega,by dsimp only;omega,rfl,?_,?_⟩,by dsimp only;omega⟩
   ·dsimp only
    rw [Int.toNat_natCast,hs,aV1,←h3]
   ·dsimp only
    rw [Int.toNat_natCast,hs,List.length_append,h4]
    simp only [List.length_cons,List.length_nil]
    omega
 ·have hk:k=x4.length:=by have:¬ (k:Int)<x4.length:=of_decide_eq_false hge;omega
  subst hk
  rw [List.take_length] at h3 h4
  rw [he0,h3,h4]
theorem bB6:ItOk itAlloc:=by
 intro f k kY mp h Y' hY
 unfold itAlloc at h
 cases hf:Nat.beq f 83 with
 |false=>rw [hf] at h;cases h
 |true=>
  have hf:=Nat.eq_of_beq_eq_true hf
  subst hf
  simp only [Nat.beq_refl,cond_true,List.mem_cons,List.not_mem_nil,or_false,Prod.mk.injEq] at h
  obtain ⟨rfl,rfl,rfl⟩:=h
  exact ai4 (E:=EVy ylR (some aq8) [(61,cContains)]) (bS1 _ _ _) ⟨X3 (fun x hx=>by rcases List.mem_cons.1 hx with rfl|hx;exact M8 _;cases hx),fun _ _ _ _ _ h=>(by cases h),fun _ _ _ h=>(by cases h),fun k hk=>by cases hk;exact hY,fun _ _ _ _ h=>(by cases h)⟩ bj0 Go.Proofs.Tryd.func83 (by kernel_rfl)
    (fun (st,a0,a1,a2,a3,sp,rd,ho,ce,op,ks,oc,i,many,x1,x2,x3,x4,x5,())=>bm9 x4 rd i many) (fun (st,a0,a1,a2,a3,sp,rd,ho,ce,op,ks,oc,i,many,x1,x2,x3,x4,x5,()) hp=>bO4 st a0 a1 a2 a3 sp rd ho ce op ks oc i many x1 x2 x3 x4 x5 hp) (by kernel_rfl) rfl
theorem aO3:∀ {l:List Ins},H5 l=true→∀ x∈l,aI8 x=true
 |[],_,x,hx=>by simp at hx
 |y::r,h,x,hx=>by
  simp only [H5,Bool.and_eq_true] at h
  rcases List.mem_cons.1 hx with rfl|hx
  ·exact h.1
  ·exact aO3 h.2 x hx
theorem bW5 (a:Int) (b:List Ins) (c d:List Int) (ks:Int) (hp:L9 b=true∧H5 b=true∧c.length≤8796093022200):vc (EVd [] itAlloc [(41,cCheck),(51,cSpans),(52,cReads),(53,cDo),(54,cSlot)]) (bO2 a b c ks) Go.Proofs.Tryd.f15 cAlloc (a,b,c,d,ks,()):=by
 rw [bW4 a b c d ks]
 intro e0 e1 e2 e3 e4 e5 e6 _ _ _
 obtain ⟨hp1,hp2,hp3⟩:=hp
 have he0:e0=((C0 ⟨a,b,c,d⟩ ks).1.params,(C0 ⟨a,b,c,d⟩ ks).1.slots,(C0 ⟨a,b,c,d⟩ ks).1.cells,(C0 ⟨a,b,c,d⟩ ks).1.code,(C0 ⟨a,b,c,d⟩ ks).1.out,(C0 ⟨a,b,c,d⟩ ks).2,()):=rfl
 have he6:e6=B0 ⟨a,b,c,d⟩:=rfl
 have he4:e4=(e6 !=0):=rfl
 have he1:e1=(decide (ks<1)||decide (ks >64)):=rfl
 have he3:e3=ins0:=rfl
 have hA:C0 ⟨a,b,c,d⟩ ks=if B0 ⟨a,b,c,d⟩≠0 then (aE6,B0 ⟨a,b,c,d⟩) else if ks<1∨64<ks then (aE6,2) else if b.all (fewX ks)=false then (aE6,9)
   else (⟨a,ks,(runA (A8 a b c) (L1 b) ks b.length b 0 (J8 a)).ocells,(runA (A8 a b c) (L1 b) ks b.length b 0 (J8 a)).code,c.map (outA (runA (A8 a b c) (L1 b) ks b.length b 0 (J8 a)) ks)⟩,0):=rfl
 rw [hA] at he0
 clear hA
 clear_value e0 e1 e3 e4
 subst he3
 have hne:e4=true→((0:Int),(0:Int),(0:Int),([]:List RIns),([]:List Place),e6,())=e0:=fun h=>by
  have:B0 ⟨a,b,c,d⟩≠0:=by rw [he4] at h;simpa [he6] using h
  rw [he0,if_pos this,←he6];rfl
 refine ⟨hne,fun h4=>⟨fun h=>?_,fun h=>?_⟩⟩
 ·have hz:¬ B0 ⟨a,b,c,d⟩≠0:=by rw [he4] at h4;simpa [he6] using h4
  have hk:ks<1∨64<ks:=by rw [he1] at h;simp only [Bool.or_eq_true,decide_eq_true_eq] at h;omega
  rw [he0,if_neg hz,if_pos hk];rfl
 have hz:B0 ⟨a,b,c,d⟩=0:=by rw [he4] at h4;simpa [he6] using h4
 have hk:1≤ks∧ks≤64:=by rw [he1] at h;simp only [Bool.or_eq_false_iff,decide_eq_false_iff_not] at h;omega
 have C:=am5 hz
 rw [if_neg (by rw [hz];simp),if_neg (by omega)] at he0
 clear hne hz he6
 clear_value e6
 clear he4 he1 h4 h
 have hlen:=C.len
 have hpos:=C.pos
 have hfew:=C.few
 dsimp only [e2,e5]
 simp only [true_and,and_true,Bool.cond_self,Bool.and_true,bf1]
 refine ⟨C.few,⟨(0,[],()),rfl,rfl,Int.le_refl _,by dsimp only;omega,rfl,rfl⟩,?_⟩
 rintro ⟨j,rd,⟨⟩⟩ ⟨h0,h1,h2,h3⟩
 dsimp only at h0 h1 h2 h3 ⊢
 obtain ⟨k,rfl⟩:=Int.eq_ofNat_of_zero_le h0
 simp only [Int.toNat_natCast] at h2 h3 ⊢
 refine ⟨fun hlt=>?_,fun hge=>?_⟩
 ·have hlt:(k:Int)<b.length:=of_decide_eq_true hlt
  have hkc:k<b.length:=by omega
  have hb:∀ x:Bool,fewX ks (b.getD k ins0)=x→b.all (fewX ks)=true→x=true:=fun x h1 h2=>by rw [←h1];exact List.all_eq_true.1 h2 _ (G6 hkc _)
  have hstepR:N9 (b.take (k+1)) 0 []=F9 rd (B6 (b.getD k ins0).from_) k:=by
   rw [A4 hkc ins0,ax0,List.length_take,Nat.min_eq_left (by omega),←h2];simp
  have hstepA:fewX ks (b.getD k ins0)=true→(b.take (k+1)).all (fewX ks)=true:=fun h=>aq4 ins0 hkc h3 h
  have hstop:fewX ks (b.getD k ins0)=false→b.all (fewX ks)=false:=fun h=>aT5 ins0 hkc h
  obtain ⟨x,hxe⟩:∃ x,b.getD k ins0=x:=⟨_,rfl⟩
  simp only [hxe] at hb hstepR hstepA hstop ⊢
  have hdec:(decide ((0:Int)+((B6 x.from_).length:Int) >ks)||decide ((x.to.length:Int) >ks))=!fewX ks x:=by
   unfold fewX
   rw [Bool.eq_iff_iff]
   simp only [Bool.or_eq_true,decide_eq_true_eq,Bool.not_eq_true',Bool.and_eq_false_iff,decide_eq_false_iff_not]
   omega
  rw [hdec]
  refine ⟨⟨h0,hlt⟩,?_,?_,fun q=>?_,fun q=>?_⟩
  ·rintro ⟨n,st,a0,a1,a2,a3,sp,rd2,ho,ce,op,ks2,oc,i,many,⟨⟩⟩ ⟨q1,q2,q3,q4⟩ _ _ _
   dsimp only at q1 q2 q3 q4 ⊢
   have q5:=q2 n
   refine ⟨q1,?_,?_⟩
   ·show ((getL rd2 n).length+1)*8≤_
    omega
   ·rw [J4 (by omega) (by omega)]
    rfl
  ·intro n
   have:=aI2 n (b.take k) 0 []
   rw [←h2,List.length_take] at this
   have hg:(getL ([]:Reads) n).length=0:=rfl
   omega
  ·have q:fewX ks x=false:=by simpa using q
   rw [he0,if_pos (hstop q)];rfl
  ·have q:fewX ks x=true:=by simpa using q
   exact ⟨((k+1:Nat),_,()),B4 hkc (by omega),rfl,⟨by omega,by dsimp only;omega,by dsimp only;rw [Int.toNat_natCast,hstepR];rfl,by dsimp only;rw [Int.toNat_natCast];exact hstepA q⟩,by dsimp only;omega⟩
 have hkk:k=b.length:=by have:¬ (k:Int)<b.length:=of_decide_eq_false hge;omega
 subst hkk
 rw [List.take_length] at h2 h3
 have hrd:rd=L1 b:=h2
 subst hrd
 clear h2 h0 h1 hge
 rw [if_neg (by rw [h3];simp)] at he0
 refine ⟨⟨(0,[],()),rfl,rfl,Int.le_refl _,hpos,rfl⟩,?_⟩
 rintro ⟨j,ce,⟨⟩⟩ ⟨h0,h1,h2⟩
 dsimp only at h0 h1 h2 ⊢
 obtain ⟨k,rfl⟩:=Int.eq_ofNat_of_zero_le h0
 simp only [Int.toNat_natCast] at h2 ⊢
 subst h2
 refine ⟨fun hlt=>?_,fun hge=>?_⟩
 ·have hlt:(k:Int)<a:=of_decide_eq_true hlt
  refine ⟨((k+1:Nat),ag3 (k+1),()),?_,(bm8 k).symm,⟨by omega,by dsimp only;omega,by dsimp only;rw [Int.toNat_natCast]⟩,by dsimp only;omega⟩
  rw [J4 (by omega) (by omega)];rfl
 have hkk:(k:Int)=a:=by have:¬ (k:Int)<a:=of_decide_eq_false hge;omega
 have hst:J8 a=⟨[],ag3 k,a,[]⟩:=by
  have:a.toNat=k:=by omega
  simp only [J8,this]
 clear h0 h1 hge
 refine ⟨⟨(0,[],ag3 k,a,[],()),rfl,rfl,rfl,rfl,rfl,Int.le_refl _,by dsimp only;omega,by simp only [Int.toNat_zero,List.take_zero,runA];exact hst⟩,?_⟩
 rintro ⟨j,m,cc,oc,q,⟨⟩⟩ ⟨h0,h1,h2⟩
 dsimp only at h0 h1 h2 ⊢
 obtain ⟨k2,rfl⟩:=Int.eq_ofNat_of_zero_le h0
 simp only [Int.toNat_natCast] at h2 ⊢
 have hL:=bt4 hk.2 (A8 a b c) (L1 b) b.length (b.take k2) 0 (J8 a) (List.all_eq_true.2 fun x hx=>List.all_eq_true.1 h3 x (List.mem_of_mem_take hx))
 rw [h2,List.length_take] at hL
 simp only [J8,List.length_nil] at hL
 refine ⟨fun hlt=>?_,fun hge=>?_⟩
 ·have hlt:(k2:Int)<b.length:=of_decide_eq_true hlt
  have hkc:k2<b.length:=by omega
  have hF:=(bO1 C h3 (A8 a b c) (L1 b) b.length k2 (by omega)).2 hkc
  rw [h2] at hF
  have hstep:runA (A8 a b c) (L1 b) ks b.length (b.take (k2+1)) 0 (J8 a)=doOf (A8 a b c) (L1 b) ks b.length k2 (b.getD k2 ins0) ⟨m,cc,oc,q⟩:=by
   rw [A4 hkc ins0,bf2,List.length_take,Nat.min_eq_left (by omega),h2]
  have hmem:=G6 hkc ins0
  have hx1:=aO3 hp2 _ hmem
  have hx2:=List.all_eq_true.1 hp1 _ hmem
  have hx3:=List.all_eq_true.1 h3 _ hmem
  generalize b.getD k2 ins0=x at hF hstep hx1 hx2 hx3 ⊢
  simp only [Bool.and_eq_true,decide_eq_true_eq] at hx2
  simp only [fewX,Bool.and_eq_true,decide_eq_true_eq] at hx3
  refine ⟨⟨h0,hlt⟩,⟨U5.2 ((P3 x).1 hx1),hx2.1,by omega,by omega,aJ2 b,hF,hk.2,by omega,by omega,by omega,by omega,by omega⟩,((k2+1:Nat),_,_,_,_,()),B4 hkc (by omega),rfl,rfl,rfl,rfl,⟨by omega,by dsimp only;omega,?_⟩,by dsimp only;omega⟩
  dsimp only
  rw [Int.toNat_natCast,hstep]
  rfl
 have hkk2:k2=b.length:=by have:¬ (k2:Int)<b.length:=of_decide_eq_false hge;omega
 subst hkk2
 rw [List.take_length] at h2
 rw [h2] at he0 ⊢
 clear h0 h1 hge hL
 dsimp only at he0
 refine ⟨⟨(0,[],()),rfl,rfl,Int.le_refl _,by dsimp only;omega,rfl⟩,?_⟩
 rintro ⟨j,l,⟨⟩⟩ ⟨h0,h1,h4⟩
 dsimp only at h0 h1 h4 ⊢
 obtain ⟨k3,rfl⟩:=Int.eq_ofNat_of_zero_le h0
 simp only [Int.toNat_natCast] at h4 ⊢
 subst h4
 refine ⟨fun hlt=>?_,fun hge=>?_⟩
 ·have hlt:(k3:Int)<c.length:=of_decide_eq_true hlt
  have hkc:k3<c.length:=by omega
  refine ⟨⟨h0,hlt⟩,hk.2,?_,((k3+1:Nat),_,()),B4 hkc (by omega),rfl,⟨by omega,by dsimp only;omega,?_⟩,by dsimp only;omega⟩
  ·rw [List.length_map,List.length_take]
   simp only [List.length_cons,List.length_nil]
   omega
  ·dsimp only
   rw [Int.toNat_natCast,A4 hkc 0,List.map_append]
   congr 1
   show _=[outA _ ks (c.getD k3 0)]
   generalize c.getD k3 0=n
   unfold outA
   dsimp only
   cases hc:(E1 m ks n).cell with
   |true=>rfl
   |false=>simp only [cond_false];rw [←hc]
 ·have hkk3:k3=c.length:=by have:¬ (k3:Int)<c.length:=of_decide_eq_false hge;omega
  subst hkk3
  rw [List.take_length,he0]
theorem bn0:C5 prog RG 15 cAlloc:=br9 bB6 (A5 V4 (A5 aG2 (A5 aH8 (A5 bW2 (A5 at5 B8))))) (fun p=>bO2 p.1 p.2.1 p.2.2.1 p.2.2.2.2.1) (by kernel_rfl) (by kernel_rfl) (by kernel_rfl) fun (a,b,c,d,ks,()) hp=>bW5 a b c d ks hp
def bigX (x:Ins):Bool:=decide (60<x.to.length)||decide (60<x.from_.length)
def bigF (f:VFun):Bool:=decide (60<f.code.length)||decide (60<f.out.length)||decide (100<f.params)
def aI3 (f:VFun):Bool:=bigF f||f.code.any bigX
noncomputable def cGreat:Con RU:=con [(true,4)] X4 [one] [.bool] [false] none fun p=>(aI3 ⟨p.1,p.2.1,p.2.2.1,p.2.2.2.1⟩,())
noncomputable def bO5 (a:Int) (b:List Ins) (c d:List Int):Nat→St RU→Ann RU:=fun _ _=>⟨[],[.slot 3,.slot 4],[.bool,i64],fun p=>0≤p.2.1∧p.2.1≤b.length∧p.1=(bigF ⟨a,b,c,d⟩||(b.take p.2.1.toNat).any bigX),fun p=>b.length-p.2.1.toNat,[]⟩
def insI (to:Int) (fr:List Int):Ins:=⟨1,0,[to],fr,[]⟩
def I1:VFun:=⟨2,[insI 2 [0,1],insI 3 [2,0],insI 4 [3,1],insI 5 [4,2]],[5],[]⟩
noncomputable def cIns:Con RU:=con [one,one] [i64,ints] [(true,5)] aE9 [false,false,false,false,false] none fun p=>(1,0,[p.1],p.2.1,[],())
noncomputable def cFour:Con RU:=con [] [] [(true,4)] X4 [false,false,false,false] none fun _=>(2,I1.code,[5],[],())
abbrev bO6:List Ty:=[i64,i64,i64,i64,i64,ints,ints,inss]
abbrev own8:List Bool:=[false,false,false,false,false,false,false,false]
noncomputable def cLoadI:Con RU:=con [one,one] [i64,i64] [(true,8)] bO6 own8 none fun p=>(1,p.1,p.2.1,0,0,[],[],[],())
noncomputable def cStoreI:Con RU:=con [one,one] [i64,i64] [(true,8)] bO6 own8 none fun p=>(2,p.1,p.2.1,0,0,[],[],[],())
noncomputable def cDoI:Con RU:=con [one,one] [i64,ints] [(true,8)] bO6 own8 none fun p=>(0,0,0,1,0,[p.1],p.2.1,[],())
def bW6 (x y:RIns):Bool:=(x.kind==y.kind)&&((x.kind==0)&&insB x.ins y.ins||((x.kind !=0)&&(x.slot==y.slot)&&(x.cell==y.cell)))
def V8 (l m:List RIns) (k:Nat):Bool:=(decide (l.length=m.length))&&((l.zip m).take k).all fun p=>bW6 p.1 p.2
def bn1 (l m:List RIns):Bool:=V8 l m l.length
noncomputable def cSame:Con RU:=con [one,one] [aS1,aS1] [one] [.bool] [false] none fun p=>(bn1 p.1 p.2.1,())
noncomputable def ch2 (l m:List RIns):Nat→St RU→Ann RU:=fun _ _=>⟨[],[.slot 5,.slot 6],[.bool,i64],fun p=>0≤p.2.1∧p.2.1≤l.length∧p.1=V8 l m p.2.1.toNat,fun p=>l.length-p.2.1.toNat,[]⟩
noncomputable def cSlotted:Con RU:=con [] [] [one] [.bool] [false] none fun _=>(true,())
def bO7 (b:List Ins) (c:List Int):Prop:=H5 b=true∧L9 b=true∧c.length≤17592186044400
noncomputable def cLawF:Con RU:=con [(true,4)] X4 [one] [.bool] [false] (some fun p=>bO7 p.2.1 p.2.2.1) fun _=>(true,())
end Go.Rg
end
section
namespace Go.Proofs.YtknhkhdbonjhgaaDoor
open Go.ChangeShapes Go.WideShapes Go.ChangeAt Go.RowKit Go.VT
theorem own:ownKnob Tryd.prog.godebug=none:=by kernel_rfl
theorem ch3:laidOutB Tryd.prog=true:=by kernel_rfl
theorem ck9:Tryd.prog.globalNamed "sheafworks/regs.never"=some 1:=by kernel_rfl
theorem bW7:Tryd.prog.globalNamed "sheafworks/regs.nowhere"=some 0:=by kernel_rfl
theorem cl0:(Tryd.prog.globals[1]?).map (·.type)=some 107:=by kernel_rfl
theorem bW8:(Tryd.prog.globals[0]?).map (·.type)=some 59:=by kernel_rfl
abbrev bB7:List (String×DataW Unit):=[("sheafworks/regs.never",Rows.laid_sheafworks_regs_never),("sheafworks/regs.nowhere",Rows.laid_sheafworks_regs_nowhere)]
theorem bW9 (os:Os) (args:Array Value):laidMetH Tryd.prog bB7 ((World.doorLaid Tryd.prog 600 os).forCall (fun _ _=>0) ⟨#[],args,[]⟩).memory:=
 laidMetH_of_parts3 (fuel:=8) (laidMet_of_run' 8 (by kernel_rfl) (by kernel_rfl)) (by kernel_rfl) (by kernel_rfl)
theorem ax1:Tryd.prog.cellsOf 3=1:=by kernel_rfl
theorem cl1:Tryd.prog.cellsOf 4=1:=by kernel_rfl
theorem bO8:Tryd.prog.cellsOf 22=1:=by kernel_rfl
theorem aV2:Tryd.prog.cellsOf 23=1:=by kernel_rfl
theorem ch4:Tryd.prog.cellsOf 25=4:=by kernel_rfl
theorem bn2:Tryd.prog.cellsOf 52=5:=by kernel_rfl
theorem ch5:Tryd.prog.cellsOf 59=2:=by kernel_rfl
theorem bX0:Tryd.prog.cellsOf 107=2:=by kernel_rfl
theorem bY5:Tryd.prog.bytesOf 3=8:=by kernel_rfl
theorem bO9:Tryd.prog.bytesOf 52=88:=by kernel_rfl
theorem aO4 {W:World} {g i:Nat} {v:Value} (h:W.cell? ⟨g,i,none⟩=some v):g<W.heap.size:=by
 unfold World.cell? at h
 cases hh:W.heap[g]? with
 |none=>simp [hh] at h
 |some ob=>exact (Array.getElem?_eq_some_iff.1 hh).1
theorem ch6 {W:World} (h:laidMetH Tryd.prog bB7 W):∀ g fs,(g,fs)∈Go.Rg.RG→g<W.heap.size∧∀ i f,fs.cell i=some f→W.cell? ⟨g,i,none⟩=some f:=by
 obtain ⟨ps,⟨g1,t1,cs1,fuel1,p1,q1,hg1,ht1,hv1,hd1,⟨g0,t0,cs0,fuel0,p0,q0,hg0,ht0,hv0,hd0,_⟩,_⟩,_⟩:laidMet Tryd.prog bB7 W:=h
 obtain rfl:=Option.some.inj (ck9.symm.trans hg1)
 obtain rfl:=Option.some.inj (bW7.symm.trans hg0)
 obtain rfl:=Option.some.inj (cl0.symm.trans ht1)
 obtain rfl:=Option.some.inj (bW8.symm.trans ht0)
 obtain ⟨a1,a2,n,hx,hl,hy1,hy2⟩:=trod_struct2 Tryd.underlying107 hd1
 obtain ⟨b1,b2,m,kx,kl,ky1,ky2⟩:=trod_struct2 Tryd.underlying59 hd0
 rw [bX0] at hl
 rw [ch5] at kl
 obtain ⟨u1,eu1,hu1⟩:=aM0 (cs:=cs1.toList) (j:=0) (by omega)
 obtain ⟨u2,eu2,hu2⟩:=aM0 (cs:=cs1.toList) (j:=1) (by omega)
 obtain ⟨w1,ew1,hw1⟩:=aM0 (cs:=cs0.toList) (j:=0) (by omega)
 obtain ⟨w2,ew2,hw2⟩:=aM0 (cs:=cs0.toList) (j:=1) (by omega)
 dsimp only at hy1 hy2 ky1 ky2
 rw [ax1,hu1] at hy1
 rw [ax1,hu2] at hy2
 rw [cl1,hw1] at ky1
 rw [ax1,hw2] at ky2
 obtain ⟨n1,e1,f1,_⟩:=DataW.trod_int Tryd.underlying3 hy1
 obtain ⟨n2,e2,f2,_⟩:=DataW.trod_int Tryd.underlying3 hy2
 obtain ⟨m1,e3,f3⟩:=DataW.trod_bool Tryd.underlying4 ky1
 obtain ⟨m2,e4,f4,_⟩:=DataW.trod_int Tryd.underlying3 ky2
 rw [f1,f2] at hx
 rw [f3,f4] at kx
 simp only [Rows.laid_sheafworks_regs_never,Prod.mk.injEq,DataW.agg.injEq,List.cons.injEq,DataW.lit.injEq,Lit.int.injEq,true_and,and_true] at hx
 simp only [Rows.laid_sheafworks_regs_nowhere,Prod.mk.injEq,DataW.agg.injEq,List.cons.injEq,DataW.lit.injEq,Lit.int.injEq,Lit.bool.injEq,true_and,and_true] at kx
 simp only [List.cons.injEq,and_true] at e1 e2 e3 e4
 rw [e1,←hx.1.1] at eu1
 rw [e2,←hx.1.2] at eu2
 rw [e3,←kx.1.1] at ew1
 rw [e4,←kx.1.2] at ew2
 have c10:W.cell? ⟨1,0,none⟩=some (.int .i64 0):=by rw [World.var?_cell hg1 hv1 0];simpa using eu1
 have c11:W.cell? ⟨1,1,none⟩=some (.int .i64 (-1)):=by rw [World.var?_cell hg1 hv1 1];simpa using eu2
 have c00:W.cell? ⟨0,0,none⟩=some (.bool true):=by rw [World.var?_cell hg0 hv0 0];simpa using ew1
 have c01:W.cell? ⟨0,1,none⟩=some (.int .i64 (-1)):=by rw [World.var?_cell hg0 hv0 1];simpa using ew2
 intro g fs hm
 simp only [Go.Rg.RG,List.mem_cons,List.not_mem_nil,or_false,Prod.mk.injEq] at hm
 rcases hm with ⟨rfl,rfl⟩|⟨rfl,rfl⟩
 ·refine ⟨aO4 c00,fun i f hf=>?_⟩
  match i,hf with
  |0,hf=>cases hf;exact c00
  |1,hf=>cases hf;exact c01
  |_+2,hf=>simp [Glob.cell] at hf
 ·refine ⟨aO4 c10,fun i f hf=>?_⟩
  match i,hf with
  |0,hf=>cases hf;exact c10
  |1,hf=>cases hf;exact c11
  |_+2,hf=>simp [Glob.cell] at hf
def readL:List (TypeId×Ty):=[(3,Go.Rg.i64),(4,.bool),(52,.user 0),(23,Go.Rg.ints),(22,Go.Rg.inss)]
theorem ch7:br6 Tryd.prog Go.Rg.RU readL:=by
 intro t ty hm
 simp only [readL,List.mem_cons,Prod.mk.injEq,List.not_mem_nil,or_false] at hm
 rcases hm with ⟨rfl,rfl⟩|⟨rfl,rfl⟩|⟨rfl,rfl⟩|⟨rfl,rfl⟩|⟨rfl,rfl⟩
 ·exact Tryd.underlying3
 ·exact Tryd.underlying4
 ·refine ⟨_,Tryd.underlying52,bn2,rfl,fun j f ty' hf hty=>?_⟩
  match j,hf,hty with
  |0,hf,hty=>cases hf;cases hty;exact ⟨rfl,ax1,rfl,by simp [readL]⟩
  |1,hf,hty=>cases hf;cases hty;exact ⟨rfl,ax1,rfl,by simp [readL]⟩
  |2,hf,hty=>cases hf;cases hty;exact ⟨rfl,aV2,rfl,by simp [readL]⟩
  |3,hf,hty=>cases hf;cases hty;exact ⟨rfl,aV2,rfl,by simp [readL]⟩
  |4,hf,hty=>cases hf;cases hty;exact ⟨rfl,bO8,rfl,by simp [readL]⟩
  |j+5,hf,hty=>simp [Go.Rg.RU] at hty
 ·exact ⟨Tryd.underlying23,ax1,by rw [ax1];decide,by rw [bY5];decide,by simp [readL]⟩
 ·exact ⟨Tryd.underlying22,bn2,by rw [bn2];decide,by rw [bO9];decide,by simp [readL]⟩
theorem ch8:ca8 Tryd.prog Go.Rg.RU readL 25 true [Go.Rg.i64,Go.Rg.inss,Go.Rg.ints,Go.Rg.ints]:=by
 refine .inr (.inl ⟨rfl,_,Tryd.underlying25,ch4,rfl,fun j f ty' hf hty=>?_⟩)
 match j,hf,hty with
 |0,hf,hty=>cases hf;cases hty;exact ⟨rfl,ax1,rfl,by simp [readL]⟩
 |1,hf,hty=>cases hf;cases hty;exact ⟨rfl,bO8,rfl,by simp [readL]⟩
 |2,hf,hty=>cases hf;cases hty;exact ⟨rfl,aV2,rfl,by simp [readL]⟩
 |3,hf,hty=>cases hf;cases hty;exact ⟨rfl,aV2,rfl,by simp [readL]⟩
 |j+4,hf,hty=>simp at hty
theorem Z9 {l:List Int} (h:Light Tryd.prog (U:=Go.Rg.RU) ⟨Go.Rg.ints,l⟩):l.length≤17592186043904:=by
 cases h with
 |slice e t l h hr=>
  rw [bY5] at h
  simp only [reachBytes] at h
  omega
theorem aO5 {l:List Go.Rg.Ins} (h:Light Tryd.prog (U:=Go.Rg.RU) ⟨Go.Rg.inss,l⟩):l.length≤1599289640354∧∀ x∈l,Light Tryd.prog (U:=Go.Rg.RU) ⟨Go.Rg.ints,x.to⟩∧Light Tryd.prog (U:=Go.Rg.RU) ⟨Go.Rg.ints,x.from_⟩∧Light Tryd.prog (U:=Go.Rg.RU) ⟨Go.Rg.inss,x.body⟩:=by
 cases h with
 |slice e t l h hr=>
  rw [bO9] at h
  simp only [reachBytes] at h
  have hl:(l:List Go.Rg.Ins).length≤1599289640354:=by
   have h':(l:List Go.Rg.Ins).length*88≤140737488351232:=h
   omega
  refine ⟨hl,fun x hx=>⟨?_,?_,?_⟩⟩
  ·exact hr x hx _ (.tail _ (.tail _ (.head _)))
  ·exact hr x hx _ (.tail _ (.tail _ (.tail _ (.head _))))
  ·exact hr x hx _ (.tail _ (.tail _ (.tail _ (.tail _ (.head _)))))
mutual
theorem bn3:∀ (x:Go.Rg.Ins),Light Tryd.prog (U:=Go.Rg.RU) ⟨Go.Rg.ints,x.to⟩→Light Tryd.prog (U:=Go.Rg.RU) ⟨Go.Rg.ints,x.from_⟩→Light Tryd.prog (U:=Go.Rg.RU) ⟨Go.Rg.inss,x.body⟩→Go.Rg.aI8 x=true
 |⟨o,n,t,f,b⟩,h1,h2,h3=>by
  have h5:t.length≤_:=Z9 h1
  have h6:f.length≤_:=Z9 h2
  have h4:=aO5 h3
  simp only [Go.Rg.aI8,Bool.and_eq_true,decide_eq_true_eq]
  exact ⟨⟨⟨by omega,by omega⟩,h4.1⟩,ag7 b h4.2⟩
theorem ag7:∀ (l:List Go.Rg.Ins),(∀ x∈l,Light Tryd.prog (U:=Go.Rg.RU) ⟨Go.Rg.ints,x.to⟩∧Light Tryd.prog (U:=Go.Rg.RU) ⟨Go.Rg.ints,x.from_⟩∧Light Tryd.prog (U:=Go.Rg.RU) ⟨Go.Rg.inss,x.body⟩)→Go.Rg.H5 l=true
 |[],_=>by simp [Go.Rg.H5]
 |x::r,h=>by
  simp only [Go.Rg.H5,Bool.and_eq_true]
  have hx:=h x (by simp)
  exact ⟨bn3 x hx.1 hx.2.1 hx.2.2,ag7 r (fun y hy=>h y (by simp [hy]))⟩
end
theorem bP0 {W:World} {a:Int} {b:List Go.Rg.Ins} {c d:List Int} {us:List Value} (h:Reps Tryd.prog Go.Rg.RU W (A7 Go.Rg.RU [Go.Rg.i64,Go.Rg.inss,Go.Rg.ints,Go.Rg.ints] (a,b,c,d,())) us):Go.Rg.bO7 b c:=by
 have hl:=h.light
 have hb:Light Tryd.prog (U:=Go.Rg.RU) ⟨Go.Rg.inss,b⟩:=hl _ (by simp [A7])
 have hc:Light Tryd.prog (U:=Go.Rg.RU) ⟨Go.Rg.ints,c⟩:=hl _ (by simp [A7])
 have hb2:=aO5 hb
 refine ⟨ag7 b hb2.2,?_,by have:=Z9 hc;omega⟩
 unfold Go.Rg.L9
 rw [List.all_eq_true]
 intro x hx
 have h1:=Z9 (hb2.2 x hx).1
 have h2:=Z9 (hb2.2 x hx).2.1
 rw [Bool.and_eq_true,decide_eq_true_eq,decide_eq_true_eq]
 omega
theorem aq9 {H:Type} {enc:TypeId×Value→H} {W W':World} (hb:Below W.heap.size W W'):∀ {ts:List TypeId} {vs:List Value} {ds:List (DataW H)} {ps:List MemPlace},(∀ t∈ts,Tryd.prog.readableRec t=true∧t<Tryd.prog.types.size)→
  DataW.TrodAll enc Tryd.prog W 0 (fun _=>true) true ts vs ds ps→(∀ x∈ps,x.block<W.heap.size)→DataW.TrodAll enc Tryd.prog W' 0 (fun b=>decide (b<W.heap.size)) true ts vs ds ps
 |[],[],[],ps,_,h,_=>h
 |[],_::_,_,_,_,h,_=>h.elim
 |[],[],_::_,_,_,h,_=>h.elim
 |_::_,[],_,_,_,h,_=>h.elim
 |_::_,_::_,[],_,_,h,_=>h.elim
 |t::ts,v::vs,d::ds,ps,ht,h,hlt=>by
  obtain ⟨p,q,h1,h2,rfl⟩:=h
  exact ⟨p,q,Below.trod ch3 (ht t (by simp)).1 (ht t (by simp)).2 h1 hb (fun x hx=>hlt x (by simp [hx])),aq9 hb (fun t' h'=>ht t' (by simp [h'])) h2 (fun x hx=>hlt x (by simp [hx])),rfl⟩
theorem bX1 {H:Type} {enc:TypeId×Value→H} {fn:Func} {s:ChangeSpec} (hs:s.vars=[]) {W W':World} {args:Array Value} {ds gs:List (DataW H)} {av9:List MemPlace}
  (hW:DataW.Whole enc Tryd.prog fn.params.toList s.vars false W args.toList ds gs av9) (hb:Below W.heap.size W W') (hres:fn.resultTypes=#[4])
  (hfn:s.fn H ds={ results:=[.lit (.bool true)],args:=ds }) (ht:∀ t∈fn.params.toList,Tryd.prog.readableRec t=true∧t<Tryd.prog.types.size):
  s.post enc Tryd.prog fn false true false false W args (.bool true) W':=by
 have hW':=hW
 obtain ⟨p,q,hA,hV,rfl,hfz,hnd⟩:=hW
 rw [hs] at hV
 obtain ⟨rfl,rfl⟩:gs=[]∧q=[]:=by
  cases gs with
  |nil=>exact ⟨rfl,hV⟩
  |cons g r=>exact absurd hV (by intro h;cases h)
 refine ⟨ds,[],p++[],[],p,[],hW',?_,?_,?_,hb.frame _,fun h=>by cases h⟩
 ·rw [List.append_nil,hfn,hres]
  exact trodAll_mk1 (shut_bool Tryd.underlying4 true)
 ·rw [List.append_nil,hfn]
  exact aq9 hb ht hA (fun x hx=>hW'.lt x (by simp [hx]))
 ·rw [List.append_nil,hfn,hs]
  rfl
theorem aI4 {H:Type} {enc:TypeId×Value→H} {P:Program} {w:World} {base:Nat} {sp:Nat→Bool} {held:Bool}:∀ {ts:List TypeId} {vs:List Value} {ds:List (DataW H)} {ps:List MemPlace},DataW.TrodAll enc P w base sp held ts vs ds ps→ds.length=ts.length
 |[],[],[],_,_=>rfl
 |[],_::_,_,_,h=>h.elim
 |[],[],_::_,_,h=>h.elim
 |_::_,[],_,_,h=>h.elim
 |_::_,_::_,[],_,h=>h.elim
 |t::ts,v::vs,d::ds,ps,h=>by
  obtain ⟨p,q,_,h2,_⟩:=h
  simp [aI4 h2]
end Go.Proofs.YtknhkhdbonjhgaaDoor
end
section
set_option maxRecDepth 100000
open Go Go.VT
namespace Go.Rg
theorem bX2 (a:Int) (b:List Ins) (c d:List Int):vc (EV []) (bO5 a b c d) Go.Proofs.Tryd.f13 cGreat (a,b,c,d,())=(
 let e0:Int:=(↑(List.length b):Int);
 let e1:Ins:=Ins.mk (0:Int) (0:Int) [] [] [];
  Small RU (Sigma.mk (Ty.slice (52:Nat) (Ty.user (0:Nat))) b)→
  Small RU (Sigma.mk (Ty.slice (3:Nat) (Ty.int IntKind.i64)) c)→
  Small RU (Sigma.mk (Ty.slice (3:Nat) (Ty.int IntKind.i64)) d)→
  (∃ (p:Bool×Int×Unit),
  a=a∧
  b=b∧
  c=c∧
  d=d∧
  false=false∧
  (decide (e0 >(60:Int))||decide ((↑(List.length c):Int) >(60:Int))||decide (a >(100:Int)))=p.1∧
  (0:Int)=p.2.1∧
  a=a∧b=b∧c=c∧d=d∧(0:Int)≤p.2.1∧p.2.1≤e0∧p.1=(bigF (VFun.mk a b c d)||List.any (List.take (Int.toNat p.2.1) b) bigX))∧
  ∀ (p:Bool×Int×Unit),
 let e0_1:Bool:=decide ((↑(List.length (List.getD b (Int.toNat p.2.1) e1).to):Int) >(60:Int));
 let e1_1:Bool:=decide (p.2.1<e0)&&!p.1;
 let e2:Int:=p.2.1;
  (0:Int)≤e2∧e2≤e0∧p.1=(bigF (VFun.mk a b c d)||List.any (List.take (Int.toNat e2) b) bigX)→
  (e1_1=true→
  ((0:Int)≤e2∧e2<e0)∧
  (e0_1=false→(0:Int)≤e2∧e2<e0)∧
  ∃ (p':Bool×Int×Unit),
  a=a∧
  b=b∧
  c=c∧
  d=d∧
  false=false∧
  (e0_1||decide ((↑(List.length (List.getD b (Int.toNat e2) e1).from_):Int) >(60:Int)))=p'.1∧
  IntKind.wrap IntKind.i64 (e2+(1:Int))=p'.2.1∧
  a=a∧
  b=b∧
  c=c∧
  d=d∧
  ((0:Int)≤p'.2.1∧p'.2.1≤e0∧p'.1=(bigF (VFun.mk a b c d)||List.any (List.take (Int.toNat p'.2.1) b) bigX))∧
  List.length b-Int.toNat p'.2.1<List.length b-Int.toNat e2)∧
  (e1_1=false→(p.1,())=(aI3 (VFun.mk a b c d),()))):=by kernel_rfl
theorem cl2 (a:Int) (b:List Int):vc (EV []) noL Go.Proofs.Tryd.f46 cIns (a,b,())=(
 let e0:Int×Int×List Int×List Int×List Ins×Unit:=((1:Int),(0:Int),[a],b,[],());
  Small RU (Sigma.mk (Ty.slice (3:Nat) (Ty.int IntKind.i64)) b)→e0=e0):=by kernel_rfl
theorem bX3 (a b:Int):vc (EV []) noL Go.Proofs.Tryd.f47 cLoadI (a,b,())=(
 let e0:Int×Int×Int×Int×Int×List Int×List Int×List Ins×Unit:=((1:Int),a,b,(0:Int),(0:Int),[],[],[],());
  e0=e0):=by kernel_rfl
theorem bP1 (a b:Int):vc (EV []) noL Go.Proofs.Tryd.f48 cStoreI (a,b,())=(
 let e0:Int×Int×Int×Int×Int×List Int×List Int×List Ins×Unit:=((2:Int),a,b,(0:Int),(0:Int),[],[],[],());
  e0=e0):=by kernel_rfl
theorem cl3 (a:Int) (b:List Int):vc (EV [(46,cIns)]) noL Go.Proofs.Tryd.f49 cDoI (a,b,())=(
 let e0:Int×Int×Int×Int×Int×List Int×List Int×List Ins×Unit:=((0:Int),(0:Int),(0:Int),(1:Int),(0:Int),[a],b,[],());
  Small RU (Sigma.mk (Ty.slice (3:Nat) (Ty.int IntKind.i64)) b)→e0=e0):=by kernel_rfl
theorem ch9 (l m:List RIns):vc (EV [(57,cSameIns)]) (ch2 l m) Go.Proofs.Tryd.f45 cSame (l,m,())=(
 let e0:RIns:=RIns.mk (0:Int) (0:Int) (0:Int) ins0;
 let e1:Int:=(↑(List.length l):Int);
 let e2:Int:=(↑(List.length m):Int);
  Small RU (Sigma.mk (Ty.slice (55:Nat) (Ty.user (1:Nat))) l)→
  Small RU (Sigma.mk (Ty.slice (55:Nat) (Ty.user (1:Nat))) m)→
  (∃ (p:Bool×Int×Unit),l=l∧m=m∧false=false∧(e1==e2)=p.1∧(0:Int)=p.2.1∧(0:Int)≤p.2.1∧p.2.1≤e1∧p.1=V8 l m (Int.toNat p.2.1))∧
  ∀ (p:Bool×Int×Unit),
 let e0_1:Bool:=
  (List.getD l (Int.toNat p.2.1) e0).kind==(0:Int)&&
  insB
  (Ins.mk (List.getD l (Int.toNat p.2.1) e0).ins.op (List.getD l (Int.toNat p.2.1) e0).ins.n (List.getD l (Int.toNat p.2.1) e0).ins.to
  (List.getD l (Int.toNat p.2.1) e0).ins.from_ (List.getD l (Int.toNat p.2.1) e0).ins.body)
  (Ins.mk (List.getD m (Int.toNat p.2.1) e0).ins.op (List.getD m (Int.toNat p.2.1) e0).ins.n (List.getD m (Int.toNat p.2.1) e0).ins.to
  (List.getD m (Int.toNat p.2.1) e0).ins.from_ (List.getD m (Int.toNat p.2.1) e0).ins.body);
 let e1_1:Bool:=(List.getD l (Int.toNat p.2.1) e0).kind !=(0:Int)&&(List.getD l (Int.toNat p.2.1) e0).slot==(List.getD m (Int.toNat p.2.1) e0).slot;
 let e2_1:Bool:=p.1&&decide (p.2.1<e1);
 let e3:Int:=p.2.1;
 let e4:Bool:=(List.getD l (Int.toNat e3) e0).kind==(List.getD m (Int.toNat e3) e0).kind;
  (0:Int)≤e3∧e3≤e1∧p.1=V8 l m (Int.toNat e3)→
  (e2_1=true→
  ((0:Int)≤e3∧e3<e1)∧
  ((0:Int)≤e3∧e3<e2)∧
  (e4=true→(0:Int)≤e3∧e3<e1)∧
  (e4=true→((List.getD l (Int.toNat e3) e0).kind==(0:Int))=true→(0:Int)≤e3∧e3<e1)∧
  (e4=true→((List.getD l (Int.toNat e3) e0).kind==(0:Int))=true→(0:Int)≤e3∧e3<e2)∧
  (e4=true→e0_1=false→(0:Int)≤e3∧e3<e1)∧
  (e4=true→e0_1=false→((List.getD l (Int.toNat e3) e0).kind !=(0:Int))=true→(0:Int)≤e3∧e3<e1)∧
  (e4=true→e0_1=false→((List.getD l (Int.toNat e3) e0).kind !=(0:Int))=true→(0:Int)≤e3∧e3<e2)∧
  (e4=true→e0_1=false→e1_1=true→(0:Int)≤e3∧e3<e1)∧
  (e4=true→e0_1=false→e1_1=true→(0:Int)≤e3∧e3<e2)∧
  ∃ (p':Bool×Int×Unit),
  l=l∧
  m=m∧
  false=false∧
  (e4&&(e0_1||e1_1&&(List.getD l (Int.toNat e3) e0).cell==(List.getD m (Int.toNat e3) e0).cell))=p'.1∧
  IntKind.wrap IntKind.i64 (e3+(1:Int))=p'.2.1∧
  ((0:Int)≤p'.2.1∧p'.2.1≤e1∧p'.1=V8 l m (Int.toNat p'.2.1))∧
  List.length l-Int.toNat p'.2.1<List.length l-Int.toNat e3)∧
  (e2_1=false→(p.1,())=(bn1 l m,()))):=by kernel_rfl
theorem bP2 (a:Int) (b:List Ins) (c d:List Int):vc (EV [(13,cGreat),(14,cSlotted),(33,cLive),(37,cLiveR),(29,cPress),(38,cPressR),(39,cPlain),(40,cPlainR),(41,cCheck),(42,cCheck),(43,cEqualLists),(24,cSameVec)]) noL Go.Proofs.Tryd.f9 cLawF (a,b,c,d,())=(
 let e0:VFun:=(E3 (VFun.mk a b c d)).1;
  Small RU (Sigma.mk (Ty.slice (52:Nat) (Ty.user (0:Nat))) b)→
  Small RU (Sigma.mk (Ty.slice (3:Nat) (Ty.int IntKind.i64)) c)→
  Small RU (Sigma.mk (Ty.slice (3:Nat) (Ty.int IntKind.i64)) d)→
  (aI3 (VFun.mk a b c d)=true→(true,())=(true,()))∧
  (aI3 (VFun.mk a b c d)=false→
  (List.length c≤(17592186044400:Nat)∧L9 b=true)∧
  (List.length c≤(17592186044400:Nat)∧L9 b=true)∧
  (H5 b=true∧List.length c≤(17592186044416:Nat))∧
  (List.length c≤(17592186044400:Nat)∧L9 b=true)∧
  (B0 (VFun.mk a b c d)==B0 (VFun.mk a b c d)&&(G2 (VFun.mk a b c d)).2==(G2 (VFun.mk a b c d)).2&&
  decide ((G2 (VFun.mk a b c d)).1=(G2 (VFun.mk a b c d)).1)&&
  (H6 (VFun.mk a b c d)).2==(H6 (VFun.mk a b c d)).2&&
  (H6 (VFun.mk a b c d)).1==(H6 (VFun.mk a b c d)).1&&
  (E3 (VFun.mk a b c d)).2==(E3 (VFun.mk a b c d)).2&&
  (decide (e0.params=e0.params)&&V3 e0.code e0.code&&decide (e0.out=e0.out)&&decide (e0.at_=e0.at_))&&
  true,
  ())=
  (true,()))):=by kernel_rfl
theorem ci0:vc (EV [(46,cIns)]) noL Go.Proofs.Tryd.f50 cFour ()=(
 let e0:List Int×List Int×Unit:=([(5:Int)],[],());
  ((2:Int),
  [Ins.mk (1:Int) (0:Int) [(2:Int)] [(0:Int),(1:Int)] [],Ins.mk (1:Int) (0:Int) [(3:Int)] [(2:Int),(0:Int)] [],
  Ins.mk (1:Int) (0:Int) [(4:Int)] [(3:Int),(1:Int)] [],Ins.mk (1:Int) (0:Int) [(5:Int)] [(4:Int),(2:Int)] []],
  e0)=
  ((2:Int),I1.code,e0)):=by kernel_rfl
theorem bB8:vc (EV [(50,cFour),(33,cLive),(29,cPress),(15,cAlloc),(20,cBack),(17,cCount),(41,cCheck),(22,cValid),(47,cLoadI),(48,cStoreI),(49,cDoI),(45,cSame),(43,cEqualLists),(24,cSameVec)]) noL Go.Proofs.Tryd.f14 cSlotted ()=(
 let e0:VFun:=
  (M4
  (RCode.mk (C0 (VFun.mk (2:Int) I1.code [(5:Int)] []) (2:Int)).1.params (C0 (VFun.mk (2:Int) I1.code [(5:Int)] []) (2:Int)).1.slots
  (C0 (VFun.mk (2:Int) I1.code [(5:Int)] []) (2:Int)).1.cells (C0 (VFun.mk (2:Int) I1.code [(5:Int)] []) (2:Int)).1.code
  (C0 (VFun.mk (2:Int) I1.code [(5:Int)] []) (2:Int)).1.out)).1;
 let e1:Bool:=
  (G2 (VFun.mk (2:Int) I1.code [(5:Int)] [])).2 !=(0:Int)||(H6 (VFun.mk (2:Int) I1.code [(5:Int)] [])).2 !=(0:Int)||
  (C0 (VFun.mk (2:Int) I1.code [(5:Int)] []) (3:Int)).2 !=(0:Int)||
  (C0 (VFun.mk (2:Int) I1.code [(5:Int)] []) (2:Int)).2 !=(0:Int)||
  (C0 (VFun.mk (2:Int) I1.code [(5:Int)] []) (1:Int)).2 !=(9:Int)||
  (M4
  (RCode.mk (C0 (VFun.mk (2:Int) I1.code [(5:Int)] []) (2:Int)).1.params (C0 (VFun.mk (2:Int) I1.code [(5:Int)] []) (2:Int)).1.slots
  (C0 (VFun.mk (2:Int) I1.code [(5:Int)] []) (2:Int)).1.cells (C0 (VFun.mk (2:Int) I1.code [(5:Int)] []) (2:Int)).1.code
  (C0 (VFun.mk (2:Int) I1.code [(5:Int)] []) (2:Int)).1.out)).2 !=
  (0:Int)||
  B0 (VFun.mk (2:Int) I1.code [(5:Int)] []) !=(0:Int)||
  N8
  (RCode.mk (C0 (VFun.mk (2:Int) I1.code [(5:Int)] []) (3:Int)).1.params (C0 (VFun.mk (2:Int) I1.code [(5:Int)] []) (3:Int)).1.slots
  (C0 (VFun.mk (2:Int) I1.code [(5:Int)] []) (3:Int)).1.cells (C0 (VFun.mk (2:Int) I1.code [(5:Int)] []) (3:Int)).1.code
  (C0 (VFun.mk (2:Int) I1.code [(5:Int)] []) (3:Int)).1.out) !=
  (0:Int);
 let e2:Bool:=
  decide
  ((G2 (VFun.mk (2:Int) I1.code [(5:Int)] [])).1=
  [[(0:Int),(1:Int)],[(0:Int),(1:Int),(2:Int)],[(1:Int),(2:Int),(3:Int)],[(2:Int),(4:Int)],[(5:Int)]])&&
  (H6 (VFun.mk (2:Int) I1.code [(5:Int)] [])).1==(3:Int)&&
  bn1 (C0 (VFun.mk (2:Int) I1.code [(5:Int)] []) (3:Int)).1.code
  [RIns.mk (1:Int) (0:Int) (0:Int) (Ins.mk (0:Int) (0:Int) [] [] []),RIns.mk (1:Int) (1:Int) (1:Int) (Ins.mk (0:Int) (0:Int) [] [] []),
  RIns.mk (0:Int) (0:Int) (0:Int) (Ins.mk (1:Int) (0:Int) [(2:Int)] [(0:Int),(1:Int)] []),
  RIns.mk (0:Int) (0:Int) (0:Int) (Ins.mk (1:Int) (0:Int) [(0:Int)] [(2:Int),(0:Int)] []),
  RIns.mk (0:Int) (0:Int) (0:Int) (Ins.mk (1:Int) (0:Int) [(0:Int)] [(0:Int),(1:Int)] []),
  RIns.mk (0:Int) (0:Int) (0:Int) (Ins.mk (1:Int) (0:Int) [(0:Int)] [(0:Int),(2:Int)] [])]&&
  bn1 (C0 (VFun.mk (2:Int) I1.code [(5:Int)] []) (2:Int)).1.code
  [RIns.mk (1:Int) (0:Int) (0:Int) (Ins.mk (0:Int) (0:Int) [] [] []),RIns.mk (1:Int) (1:Int) (1:Int) (Ins.mk (0:Int) (0:Int) [] [] []),
  RIns.mk (0:Int) (0:Int) (0:Int) (Ins.mk (1:Int) (0:Int) [(1:Int)] [(0:Int),(1:Int)] []),
  RIns.mk (0:Int) (0:Int) (0:Int) (Ins.mk (1:Int) (0:Int) [(0:Int)] [(1:Int),(0:Int)] []),RIns.mk (2:Int) (1:Int) (2:Int) (Ins.mk (0:Int) (0:Int) [] [] []),
  RIns.mk (1:Int) (1:Int) (1:Int) (Ins.mk (0:Int) (0:Int) [] [] []),RIns.mk (0:Int) (0:Int) (0:Int) (Ins.mk (1:Int) (0:Int) [(0:Int)] [(0:Int),(1:Int)] []),
  RIns.mk (1:Int) (1:Int) (2:Int) (Ins.mk (0:Int) (0:Int) [] [] []),RIns.mk (0:Int) (0:Int) (0:Int) (Ins.mk (1:Int) (0:Int) [(0:Int)] [(0:Int),(1:Int)] [])]&&
  (C0 (VFun.mk (2:Int) I1.code [(5:Int)] []) (2:Int)).1.slots==(2:Int)&&
  (C0 (VFun.mk (2:Int) I1.code [(5:Int)] []) (2:Int)).1.cells==(3:Int)&&
  (↑(List.length (C0 (VFun.mk (2:Int) I1.code [(5:Int)] []) (2:Int)).1.out):Int)==(1:Int);
 let e3:Int×Int:=
  aE8
  (RCode.mk (C0 (VFun.mk (2:Int) I1.code [(5:Int)] []) (2:Int)).1.params (C0 (VFun.mk (2:Int) I1.code [(5:Int)] []) (2:Int)).1.slots
  (C0 (VFun.mk (2:Int) I1.code [(5:Int)] []) (2:Int)).1.cells (C0 (VFun.mk (2:Int) I1.code [(5:Int)] []) (2:Int)).1.code
  (C0 (VFun.mk (2:Int) I1.code [(5:Int)] []) (2:Int)).1.out);
 let e4:RCode:=(C0 (VFun.mk (2:Int) I1.code [(5:Int)] []) (2:Int)).1;
 let e5:VFun:=VFun.mk (2:Int) I1.code [(5:Int)] [];
 let e6:RCode:=(C0 e5 (3:Int)).1;
  (L9 I1.code=true∧H5 I1.code=true∧List.length [(5:Int)]≤(8796093022200:Nat))∧
  (L9 I1.code=true∧H5 I1.code=true∧List.length [(5:Int)]≤(8796093022200:Nat))∧
  (L9 I1.code=true∧H5 I1.code=true∧List.length [(5:Int)]≤(8796093022200:Nat))∧
  ((-9223372036854775808:Int)≤e4.slots∧e4.slots<(9223372036854775808:Int)∧V7 e4.code=true∧List.length e4.out≤(17592186044400:Nat))∧
  (((G2 e5).2 !=(0:Int)||(H6 e5).2 !=(0:Int)||(C0 e5 (3:Int)).2 !=(0:Int)||(C0 e5 (2:Int)).2 !=(0:Int)||
  (C0 e5 (1:Int)).2 !=(9:Int)||
  (M4 (RCode.mk e4.params e4.slots e4.cells e4.code e4.out)).2 !=(0:Int)||
  B0 e5 !=(0:Int))=
  false→
  (-9223372036854775808:Int)≤e6.slots∧e6.slots<(9223372036854775808:Int)∧V7 e6.code=true∧List.length e6.out≤(17592186044400:Nat))∧
  (e1=true→(false,())=(true,()))∧
  (e1=false→
  (e2=true→(0:Int)≤(0:Int)∧(0:Int)<(↑(List.length e4.out):Int))∧
  (e2&&(false==false&&((↑(0:Nat):Int)==(0:Int)&&true))&&e3.1==(4:Int)&&e3.2==(1:Int)&&
  (decide (e0.params=(2:Int))&&V3 e0.code I1.code&&decide (e0.out=[(5:Int)])&&decide (e0.at_=[])),
  ())=
  (true,()))):=by kernel_rfl
end Go.Rg
end
section
set_option maxRecDepth 100000
namespace Go.Rg
open Go Go.VT
theorem bX4 (a:Int) (b:List Ins) (c d:List Int):vc (EV []) (bO5 a b c d) Go.Proofs.Tryd.f13 cGreat (a,b,c,d,()):=by
 rw [bX2 a b c d]
 intro e0 e1 hs _ _
 have hl:b.length≤140737488355328:=hs.len
 have hd:e1=ins0:=rfl
 clear_value e1
 subst hd
 dsimp only [e0]
 simp only [true_and,and_true]
 refine ⟨⟨(bigF ⟨a,b,c,d⟩,0,()),?_,rfl,Int.le_refl _,by dsimp only;omega,by simp⟩,?_⟩
 ·dsimp only [bigF]
  rw [Bool.eq_iff_iff]
  simp only [Bool.or_eq_true,decide_eq_true_eq]
  omega
 rintro ⟨g,i,⟨⟩⟩ ⟨h0,h1,h2⟩
 dsimp only at h0 h1 h2 ⊢
 obtain ⟨k,rfl⟩:=Int.eq_ofNat_of_zero_le h0
 simp only [Int.toNat_natCast] at h2 ⊢
 subst h2
 refine ⟨fun h=>?_,fun h=>?_⟩
 ·simp only [Bool.and_eq_true,decide_eq_true_eq,Bool.not_eq_true'] at h
  obtain ⟨hlt,hg⟩:=h
  refine ⟨⟨h0,hlt⟩,fun _=>⟨h0,hlt⟩,(bigX (b.getD k ins0),((k+1:Nat):Int),()),?_,B4 (by omega) hl,⟨by dsimp only;omega,by dsimp only;omega,?_⟩,by dsimp only;omega⟩
  ·dsimp only [bigX]
   rw [Bool.eq_iff_iff]
   simp only [Bool.or_eq_true,decide_eq_true_eq]
   omega
  ·dsimp only
   rw [Int.toNat_natCast,A4 (by omega) ins0,List.any_append,←Bool.or_assoc,hg,Bool.false_or]
   simp only [List.any_cons,List.any_nil,Bool.or_false]
 ·have key:(bigF ⟨a,b,c,d⟩||(b.take k).any bigX)=aI3 ⟨a,b,c,d⟩:=by
   show _=(bigF ⟨a,b,c,d⟩||b.any bigX)
   cases hg:(bigF ⟨a,b,c,d⟩||(b.take k).any bigX) with
   |true=>
    symm
    rw [Bool.or_eq_true] at hg ⊢
    rcases hg with hg|hg
    ·exact .inl hg
    ·right
     rw [List.any_eq_true] at hg ⊢
     obtain ⟨x,hx,hb⟩:=hg
     exact ⟨x,List.mem_of_mem_take hx,hb⟩
   |false=>
    rw [hg] at h
    simp only [Bool.not_false,Bool.and_true,decide_eq_false_iff_not] at h
    have hk:k=b.length:=by omega
    subst hk
    rw [List.take_length] at hg
    exact hg.symm
  rw [key]
theorem bn4:C5 prog RG 13 cGreat:=D8 B8 (fun p=>bO5 p.1 p.2.1 p.2.2.1 p.2.2.2.1) (by kernel_rfl) (by kernel_rfl) (by kernel_rfl) fun (a,b,c,d,()) _=>bX4 a b c d
theorem bf6:C5 prog RG 46 cIns:=D8 B8 (fun _=>noL) (by kernel_rfl) (by kernel_rfl) (by kernel_rfl) fun (a,b,()) _=>(cl2 a b).mpr (by intros;rfl)
theorem bn5:C5 prog RG 47 cLoadI:=D8 B8 (fun _=>noL) (by kernel_rfl) (by kernel_rfl) (by kernel_rfl) fun (a,b,()) _=>(bX3 a b).mpr rfl
theorem bf7:C5 prog RG 48 cStoreI:=D8 B8 (fun _=>noL) (by kernel_rfl) (by kernel_rfl) (by kernel_rfl) fun (a,b,()) _=>(bP1 a b).mpr rfl
theorem bP3:C5 prog RG 49 cDoI:=D8 (A5 bf6 B8) (fun _=>noL) (by kernel_rfl) (by kernel_rfl) (by kernel_rfl) fun (a,b,()) _=>(cl3 a b).mpr (by intros;rfl)
theorem bB9:C5 prog RG 50 cFour:=D8 (A5 bf6 B8) (fun _=>noL) (by kernel_rfl) (by kernel_rfl) (by kernel_rfl) fun () _=>ci0.mpr (by intros;rfl)
theorem bn6 {l m:List RIns} {k:Nat} (hl:k<l.length) (h:V8 l m k=true):V8 l m (k+1)=bW6 (l.getD k rins0) (m.getD k rins0):=by
 unfold V8 at h ⊢
 simp only [Bool.and_eq_true,decide_eq_true_eq] at h
 obtain ⟨h1,h2⟩:=h
 have hz:k<(l.zip m).length:=by rw [List.length_zip];omega
 rw [A4 hz (rins0,rins0),List.all_append,h2,decide_eq_true h1]
 simp only [Bool.true_and,List.all_cons,List.all_nil,Bool.and_true]
 have hg:(l.zip m).getD k (rins0,rins0)=(l.getD k rins0,m.getD k rins0):=by
  rw [List.getD_eq_getElem?_getD,List.getElem?_eq_getElem hz,List.getD_eq_getElem?_getD,List.getD_eq_getElem?_getD,List.getElem?_eq_getElem hl,List.getElem?_eq_getElem (by omega)]
  simp [List.getElem_zip]
 rw [hg]
theorem bP4 {l m:List RIns} {k:Nat} (h:V8 l m k=false):bn1 l m=false:=by
 unfold bn1
 rw [Bool.eq_false_iff] at h ⊢
 intro h2
 refine h ?_
 unfold V8 at h2 ⊢
 simp only [Bool.and_eq_true,decide_eq_true_eq,List.all_eq_true] at h2 ⊢
 refine ⟨h2.1,fun x hx=>h2.2 x ?_⟩
 rw [List.take_of_length_le (by rw [List.length_zip];omega)]
 exact List.mem_of_mem_take hx
theorem bf8 (x:Ins):(⟨x.op,x.n,x.to,x.from_,x.body⟩:Ins)=x:=by cases x;rfl
theorem ci1 (l m:List RIns):vc (EV [(57,cSameIns)]) (ch2 l m) Go.Proofs.Tryd.f45 cSame (l,m,()):=by
 rw [ch9 l m]
 intro e0 e1 e2 hs _
 have hl:l.length≤140737488355328:=hs.len
 have hd:e0=rins0:=rfl
 clear_value e0
 subst hd
 dsimp only [e1,e2]
 simp only [true_and,and_true]
 refine ⟨⟨(V8 l m 0,0,()),?_,rfl,Int.le_refl _,by dsimp only;omega,rfl⟩,?_⟩
 ·dsimp only [V8]
  rw [List.take_zero,List.all_nil,Bool.and_true,Bool.eq_iff_iff]
  simp only [beq_iff_eq,decide_eq_true_eq]
  omega
 rintro ⟨g,i,⟨⟩⟩ ⟨h0,h1,h2⟩
 dsimp only at h0 h1 h2 ⊢
 obtain ⟨k,rfl⟩:=Int.eq_ofNat_of_zero_le h0
 simp only [Int.toNat_natCast] at h2 ⊢
 subst h2
 refine ⟨fun h=>?_,fun h=>?_⟩
 ·simp only [Bool.and_eq_true,decide_eq_true_eq] at h
  obtain ⟨hg,hlt⟩:=h
  have hsucc:=bn6 (by omega) hg
  have hlm:l.length=m.length:=by
   unfold V8 at hg
   simp only [Bool.and_eq_true,decide_eq_true_eq] at hg
   exact hg.1
  have hm:(k:Int)<m.length:=by omega
  refine ⟨⟨h0,hlt⟩,⟨h0,hm⟩,fun _=>⟨h0,hlt⟩,fun _ _=>⟨h0,hlt⟩,fun _ _=>⟨h0,hm⟩,fun _ _=>⟨h0,hlt⟩,fun _ _ _=>⟨h0,hlt⟩,fun _ _ _=>⟨h0,hm⟩,fun _ _ _=>⟨h0,hlt⟩,fun _ _ _=>⟨h0,hm⟩,(bW6 (l.getD k rins0) (m.getD k rins0),((k+1:Nat):Int),()),by dsimp only [bW6];rw [bf8,bf8],B4 (by omega) hl,⟨by dsimp only;omega,by dsimp only;omega,?_⟩,by dsimp only;omega⟩
  dsimp only
  rw [Int.toNat_natCast,hsucc]
 ·have key:V8 l m k=bn1 l m:=by
   cases hg:V8 l m k with
   |false=>exact (bP4 hg).symm
   |true=>
    rw [hg] at h
    simp only [Bool.true_and,decide_eq_false_iff_not] at h
    have hk:k=l.length:=by omega
    subst hk
    exact hg.symm
  rw [key]
theorem bC0:C5 prog RG 45 cSame:=D8 (A5 aS5 B8) (fun p=>ch2 p.1 p.2.1) (by kernel_rfl) (by kernel_rfl) (by kernel_rfl) fun (l,m,()) _=>ci1 l m
theorem aV3:C5 prog RG 14 cSlotted:=D8 (A5 bB9 (A5 at1 (A5 aG7 (A5 bn0 (A5 bA4 (A5 bj8 (A5 V4 (A5 aH5 (A5 bn5 (A5 bf7 (A5 bP3 (A5 bC0 (A5 ad4 (A5 aq0 B8)))))))))))))) (fun _=>noL) (by kernel_rfl) (by kernel_rfl) (by kernel_rfl) fun () _=>bB8.mpr (by
 refine ⟨by decide+kernel,by decide+kernel,by decide+kernel,by decide+kernel,fun _=>by decide+kernel,by decide+kernel,fun _=>⟨by decide+kernel,by decide+kernel⟩⟩)
theorem bf9:C5 prog RG 9 cLawF:=D8 (A5 bn4 (A5 aV3 (A5 at1 (A5 aH0 (A5 aG7 (A5 bd5 (A5 bl0 (A5 bd9 (A5 V4 (A5 af9 (A5 ad4 (A5 aq0 B8)))))))))))) (fun _=>noL) (by kernel_rfl) (by kernel_rfl) (by kernel_rfl) fun (a,b,c,d,()) hp=>(bP2 a b c d).mpr (by
 obtain ⟨h1,h2,h3⟩:bO7 b c:=hp
 intro e0 _ _ _
 refine ⟨fun _=>rfl,fun _=>⟨⟨h3,h2⟩,⟨h3,h2⟩,⟨h1,by omega⟩,⟨h3,h2⟩,?_⟩⟩
 simp only [beq_self_eq_true,decide_true,Bool.true_and,ai5])
end Go.Rg
end
section
namespace Go.Proofs.YtknhkhdbonjhgaaDoor
open Go.ChangeShapes Go.WideShapes Go.ChangeAt Go.RowKit Go.VT
abbrev at9:List ArgT:=[(25,true,[Go.Rg.i64,Go.Rg.inss,Go.Rg.ints,Go.Rg.ints])]
set_option maxRecDepth 100000 in
theorem aV4 (os:Os) (started:os.Started) (H:Type) (enc:TypeId×Value→H):
  ReturnsInHanded {} Tryd.checked os 9 .any (fun w args=>(Rows.regsChecksSpec.pre enc Tryd.prog Tryd.f9 [] false w args∧laidMetH Tryd.prog bB7 w)∧sizedMet enc Tryd.prog Tryd.f9 (OpenSpec.ofChange Rows.regsChecksSpec) false w args)
   (Rows.regsChecksSpec.post enc Tryd.prog Tryd.f9 false true false false):=by
 refine returnsInHanded_of_change_and (C:=Tryd.checked) (X:=fun w _=>laidMetH Tryd.prog bB7 w) (fun _ _ _ hh h=>h.of_heap hh) own started (by kernel_rfl) Tryd.func9
  (ChangeSpec.witness_shaped (enc:=enc) (C:=Tryd.checked) (os:=os) (X:=fun w _=>laidMetH Tryd.prog bB7 w) false (World.doorLaid Tryd.prog 600 os) #[.agg #[.int .i64 0,.slice none 0 0,.slice none 0 0,.slice none 0 0]] 8 rfl (World.shaped_of_RefB (by kernel_rfl) (by kernel_rfl)) (by kernel_rfl) (by kernel_rfl) (by kernel_rfl) (bW9 os _)) ?_
 intro W base args ds gs av9 hval0 hW _ hsz hL _
 have hval:∀ (j:Nat) t v,Tryd.f9.params[j]? =some t→args[j]? =some v→Value.okWide Tryd.prog W .any base t v:=hval0
 have hW':=hW
 obtain ⟨p,q,hA0,hV,rfl,hfz,hnd⟩:=hW
 have hA:DataW.TrodAll enc Tryd.prog W 0 (fun _=>true) true Tryd.f9.params.toList args.toList ds p:=hA0
 have hps:Tryd.f9.params.toList=at9.map (·.1):=by rw [Tryd.params9];rfl
 obtain ⟨rfl,rfl⟩:gs=[]∧q=[]:=by
  cases gs with
  |nil=>exact ⟨rfl,hV⟩
  |cons g r=>exact absurd hV (by intro h;cases h)
 have hsz':∀ n∈DataW.weightsEach Tryd.prog Tryd.f9.params.toList ds,n≤reachBytes:=by
  intro n hn
  have h1:(DataW.weightsEach Tryd.prog (Tryd.f9.params.toList++[]) (ds++[])).all (·≤reachBytes)=true:=hsz
  rw [List.append_nil,List.append_nil] at h1
  simpa using List.all_eq_true.1 h1 n hn
 rw [hps] at hA hsz'
 obtain ⟨xs,us,hr,hp⟩:=br7 ch7 (A:=at9) (fun a ha=>by
  simp only [List.mem_cons,List.not_mem_nil,or_false] at ha
  rcases ha with rfl
  ·exact ch8) (fun j t v hj hv=>hval j t v (by rw [←hps] at hj;simpa using hj) (by simpa using hv)) hA hsz'
 obtain ⟨d1,rfl⟩:∃ d1,ds=[d1]:=by
  have hlen:=aI4 hA
  match ds,hlen with
  |[d1],_=>exact ⟨_,rfl⟩
 have hcall:=bH2 (pre:=_) (A:=at9) (w:=W) Go.Rg.bf9 (ch6 hL) hr hp (bP0 hr)
 rw [Array.toArray_toList] at hcall
 refine hcall.mono fun e W' ⟨he,hb⟩=>⟨_,he,bX1 rfl hW' hb (by kernel_rfl) rfl (fun t ht=>?_)⟩
 rw [hps] at ht
 simp only [List.map_cons,List.map_nil,List.mem_cons,List.not_mem_nil,or_false] at ht
 rcases ht with rfl<;>exact ⟨by kernel_rfl,of_decide_eq_true (by kernel_rfl)⟩
theorem bg0:Rows.RegsChecksSaid:=
 OpenClaim.holds_of_wide 9 Tryd.f9 rfl rfl rfl rfl rfl rfl rfl ⟨rfl,rfl,rfl,rfl,rfl⟩ rfl rfl rfl rfl rfl (by kernel_rfl) Tryd.func9 (by kernel_rfl)
  (of_decide_eq_true (by kernel_rfl)) (by unfold Func.isWrapper;first|(rw [if_pos (by decide+kernel)];kernel_rfl)|(rw [if_neg (by decide+kernel)];exact ⟨rfl,rfl⟩))
  (fun os started H enc _=>aV4 os started H enc)
theorem checks_card:Rows.RegsChecksCardSaid:=
 Claim7.holds_tied_plain_at .later [] [.data,.data] true (true,"168ab8e7f67d43304005f9eb622602b7a6af205c051abe541b21ac4f05ca28a5") false
  bg0 (fun _ h=>by cases h) (by kernel_rfl) (fun _ h=>by cases h) regsChecks_row_tie rfl ⟨rfl,rfl⟩ (by kernel_rfl) rfl
  (fun f fn hf hfn=>by
   obtain rfl:f=9:=Option.some.inj ((show Tryd.prog.funcNamed "sheafworks/sheafworkslaw23.RegsChecks"=some 9 by kernel_rfl).symm.trans hf) |>.symm
   obtain rfl:fn=Tryd.f9:=(Option.some.inj (Tryd.func9.symm.trans hfn)).symm
   exact ⟨by kernel_rfl,fun j t ht=>by
    rw [Tryd.params9] at ht
    have hm:t∈[25]:=by simpa using Array.mem_of_getElem? ht
    have hall:([25].all fun u=>!Tryd.prog.wantsStandIn u)=true:=by kernel_rfl
    exact (show Tryd.prog.wantsStandIn t=false by simpa using List.all_eq_true.1 hall t hm)⟩)
  (by kernel_rfl)
end Go.Proofs.YtknhkhdbonjhgaaDoor
end
