/-
What the last text of this claim uses: VtA, VtB, VtHo, VtC, VtD, VtE, VtF, VtG, VtH, VtI, VtJ, VtK, VtL, VtM.
-/
import Derived.Below
import Derived.Laws.AppendOwn
import Derived.Laws.Sem
import Derived.CallsIn
import Derived.OrdersIn
import Derived.Laws.Entries
import Derived.Laws.Cells
import Derived.Laws.CopyRow
import Derived.Laws.Tables
import Derived.WalkKit
import Derived.Laws.StructEq
import Derived.Laws.OwnMore
set_option linter.unusedVariables false
set_option linter.unusedSimpArgs false
set_option maxRecDepth 100000
noncomputable section
namespace Go
universe u v
theorem co4:type_of% @Option.some.injEq.{u}:=@Option.some.injEq
theorem co5:type_of% @Nat.eq_of_beq_eq_true:=@Nat.eq_of_beq_eq_true
theorem co6:type_of% @List.getElem?_eq_getElem.{u}:=@List.getElem?_eq_getElem
theorem co7:type_of% @Bool.and_eq_true:=@Bool.and_eq_true
theorem co8:type_of% @Int.toNat_natCast:=@Int.toNat_natCast
theorem co9:type_of% @List.getElem?_eq_some_iff.{u}:=@List.getElem?_eq_some_iff
theorem cp0:type_of% @Int.eq_ofNat_of_zero_le:=@Int.eq_ofNat_of_zero_le
theorem cp1:type_of% @Option.map_eq_some_iff.{u,v}:=@Option.map_eq_some_iff
theorem cp2:type_of% @List.getElem?_cons_zero.{u}:=@List.getElem?_cons_zero
theorem cp3:type_of% @of_decide_eq_false:=@of_decide_eq_false
theorem cp4:type_of% @of_decide_eq_true:=@of_decide_eq_true
theorem cp5:type_of% @List.mem_singleton.{u}:=@List.mem_singleton
theorem cp6:type_of% @Prod.mk.injEq.{u,v}:=@Prod.mk.injEq
theorem cp7:type_of% @Bool.cond_eq_ite.{u}:=@Bool.cond_eq_ite
theorem cp8:type_of% @List.getD_eq_getElem?_getD.{u}:=@List.getD_eq_getElem?_getD
theorem cp9:type_of% @List.getElem?_map.{u,v}:=@List.getElem?_map
theorem cq0:type_of% @List.length_cons.{u}:=@List.length_cons
theorem cq1:type_of% @Array.getElem?_eq_getElem.{u}:=@Array.getElem?_eq_getElem
theorem cq2:type_of% @Array.getElem?_eq_some_iff.{u}:=@Array.getElem?_eq_some_iff
theorem cq3:type_of% @List.getElem?_append_right.{u}:=@List.getElem?_append_right
theorem cq4:type_of% @List.getElem?_append_left.{u}:=@List.getElem?_append_left
theorem cq5:type_of% @List.length_append.{u}:=@List.length_append
theorem cq6:type_of% @decide_eq_true_eq:=@decide_eq_true_eq
theorem cq7:type_of% @Nat.le_of_ble_eq_true:=@Nat.le_of_ble_eq_true
theorem cq8:type_of% @List.length_singleton.{u}:=@List.length_singleton
theorem cq9:type_of% @List.getElem?_set.{u}:=@List.getElem?_set
theorem cr0:type_of% @List.append_assoc.{u}:=@List.append_assoc
theorem cr1:type_of% @List.mem_append.{u}:=@List.mem_append
theorem cr2:type_of% @List.take_length.{u}:=@List.take_length
theorem cr3:type_of% @List.length_take.{u}:=@List.length_take
theorem cr4:type_of% @List.all_eq_true.{u}:=@List.all_eq_true
theorem cr5:type_of% @List.length_map.{u,v}:=@List.length_map
end Go
section
namespace Go.VT
noncomputable section
inductive Ty where
 |int (k:IntKind)
 |bool
 |str
 |slice (e:TypeId) (t:Ty)
 |user (i:Nat)
 |map (k v:Ty)
 |ifc (i:Nat)
 deriving DecidableEq
abbrev den (T:Nat→Type):Ty→Type
 | .int _=>Int
 | .bool=>Bool
 | .str=>ByteArray
 | .slice _ t=>List (den T t)
 | .user i=>T i
 | .map k v=>List (den T k×den T v)
 | .ifc i=>T i
abbrev Dens (T:Nat→Type):List Ty→Type
 |[]=>Unit
 |t::ts=>den T t×Dens T ts
structure Univ where
 T:Nat→Type
 dflt:(i:Nat)→T i
 fields:Nat→List Ty
 get:(i:Nat)→T i→Dens T (fields i)
 put:(i:Nat)→Dens T (fields i)→T i
 get_put:∀ i c,get i (put i c)=c
 ifc:(i:Nat)→T i→Option (TypeId×Bool×List ((t:Ty)×den T t)):=fun _ _=>none
 mkIfc:(i:Nat)→TypeId→Bool→List ((t:Ty)×den T t)→Option (T i):=fun _ _ _ _=>none
 ifc_mk:∀ i t b ds x,mkIfc i t b ds=some x→ifc i x=some (t,b,ds):=by intros;contradiction
abbrev Datum (U:Univ):=(t:Ty)×den U.T t
def dfl (U:Univ):(t:Ty)→den U.T t
 | .int _=>(0:Int)
 | .bool=>false
 | .str=>ByteArray.empty
 | .slice _ _=>[]
 | .user i=>U.dflt i
 | .map _ _=>[]
 | .ifc i=>U.dflt i
def A9 (U:Univ):(ts:List Ty)→Dens U.T ts→List (Datum U)
 |[],_=>[]
 |t::ts,c=>⟨t,c.1⟩::A9 U ts c.2
def B4 (U:Univ):(t:Ty)→den U.T t→List (Datum U)
 | .user i,x=>A9 U (U.fields i) (U.get i x)
 | .int k,x=>[⟨.int k,x⟩]
 | .bool,x=>[⟨.bool,x⟩]
 | .str,x=>[⟨.str,x⟩]
 | .slice e t,x=>[⟨.slice e t,x⟩]
 | .map k v,x=>[⟨.map k v,x⟩]
 | .ifc i,x=>[⟨.ifc i,x⟩]
def szOf (U:Univ):Ty→Nat
 | .user i=>(U.fields i).length
 |_=>1
def most:Nat:=140737488355328
theorem G3 (U:Univ):∀ (ts:List Ty) (c:Dens U.T ts),(A9 U ts c).length=ts.length
 |[],_=>rfl
 |_::ts,c=>by simp [A9,G3 U ts c.2]
theorem B3 (U:Univ) (t:Ty) (x:den U.T t):(B4 U t x).length=szOf U t:=by
 cases t<;>simp [B4,szOf,G3]
def Datum.as {U:Univ} (t:Ty) (d:Datum U):Option (den U.T t):=
 if h:d.1=t then some (h▸d.2) else none
theorem Datum.as_eq {U:Univ} {t:Ty} {d:Datum U} {x:den U.T t} (h:d.as t=some x):d=⟨t,x⟩:=by
 obtain ⟨u,y⟩:=d
 unfold Datum.as at h
 split at h
 ·rename_i e
  simp only at e
  subst e
  simp only [co4] at h
  rw [h]
 ·cases h
def av7 (U:Univ):(ts:List Ty)→List (Datum U)→Option (Dens U.T ts)
 |[],[]=>some ()
 |t::ts,d::ds=>
  match d.as t with
  |some x=>match av7 U ts ds with
   |some c=>some (x,c)
   |none=>none
  |none=>none
 |_,_=>none
theorem ao0 {U:Univ}:∀ {ts:List Ty} {ds:List (Datum U)} {c:Dens U.T ts},av7 U ts ds=some c→ds=A9 U ts c
 |[],[],_,_=>rfl
 |[],_::_,_,h=>by simp [av7] at h
 |_::_,[],_,h=>by simp [av7] at h
 |t::ts,d::ds,c,h=>by
  simp only [av7] at h
  split at h
  ·rename_i x hx
   split at h
   ·rename_i c' hc
    simp only [co4] at h
    subst h
    simp only [A9]
    rw [Datum.as_eq hx,ao0 hc]
   ·cases h
  ·cases h
def mkE (U:Univ):(t:Ty)→List (Datum U)→Option (den U.T t)
 | .user i,ds=>(av7 U (U.fields i) ds).map (U.put i)
 | .int k,[d]=>d.as (.int k)
 | .bool,[d]=>d.as .bool
 | .str,[d]=>d.as .str
 | .slice e t,[d]=>d.as (.slice e t)
 | .map k v,[d]=>d.as (.map k v)
 | .ifc i,[d]=>d.as (.ifc i)
 |_,_=>none
theorem ao1 {U:Univ} {t:Ty} {ds:List (Datum U)} {x:den U.T t} (h:mkE U t ds=some x):ds=B4 U t x:=by
 cases t with
 |user i=>
  simp only [mkE,cp1] at h
  obtain ⟨c,hc,rfl⟩:=h
  simp only [B4,U.get_put]
  exact ao0 hc
 |int k=>
  match ds,h with
  |[d],h=>rw [Datum.as_eq (show d.as (.int k)=some x from h)];rfl
  |[],h=>simp [mkE] at h
  |_::_::_,h=>simp [mkE] at h
 |bool=>
  match ds,h with
  |[d],h=>rw [Datum.as_eq (show d.as .bool=some x from h)];rfl
  |[],h=>simp [mkE] at h
  |_::_::_,h=>simp [mkE] at h
 |str=>
  match ds,h with
  |[d],h=>rw [Datum.as_eq (show d.as .str=some x from h)];rfl
  |[],h=>simp [mkE] at h
  |_::_::_,h=>simp [mkE] at h
 |slice e t=>
  match ds,h with
  |[d],h=>rw [Datum.as_eq (show d.as (.slice e t)=some x from h)];rfl
  |[],h=>simp [mkE] at h
  |_::_::_,h=>simp [mkE] at h
 |map k v=>
  match ds,h with
  |[d],h=>rw [Datum.as_eq (show d.as (.map k v)=some x from h)];rfl
  |[],h=>simp [mkE] at h
  |_::_::_,h=>simp [mkE] at h
 |ifc i=>
  match ds,h with
  |[d],h=>rw [Datum.as_eq (show d.as (.ifc i)=some x from h)];rfl
  |[],h=>simp [mkE] at h
  |_::_::_,h=>simp [mkE] at h
def aX7:Bool→List Value→Value
 |true,vs=>.agg vs.toArray
 |false,v::_=>v
 |false,[]=>undef
inductive Rep (U:Univ) (w:World) (M:Nat→Prop):Datum U→Value→Prop where
 |int (k:IntKind) (n:Int):Rep U w M ⟨.int k,n⟩ (.int k n)
 |bool (b:Bool):Rep U w M ⟨.bool,b⟩ (.bool b)
 |str (s:ByteArray):Rep U w M ⟨.str,s⟩ (.string s)
 |nil (e:TypeId) (t:Ty) (A:Option Addr) (c:Nat):Rep U w M ⟨.slice e t,[]⟩ (.slice A 0 c)
 |slice (e:TypeId) (t:Ty) (l:List (den U.T t)) (g o c:Nat) (f:Nat→Nat→Value) (h0:0<l.length) (hc:l.length≤c) (hm:l.length≤most) (hM:¬ M g) (hg:g<w.heap.size)
   (hcell:∀ i,i<l.length→∀ j,j<szOf U t→w.cell? ⟨g,o+i*szOf U t+j,none⟩=some (f i j))
   (hr:∀ i (x:den U.T t),l[i]? =some x→∀ j d,(B4 U t x)[j]? =some d→Rep U w M d (f i j)):
   Rep U w M ⟨.slice e t,l⟩ (.slice (some ⟨g,o,none⟩) l.length c)
 |ifcNil (i:Nat) (x:U.T i) (h:U.ifc i x=none):Rep U w M ⟨.ifc i,x⟩ .nilIface
 |ifc (i:Nat) (x:U.T i) (t:TypeId) (b:Bool) (ds:List (Datum U)) (vs:List Value) (h:U.ifc i x=some (t,b,ds)) (hl:vs.length=ds.length) (hs:b=false→vs.length=1) (h1:∀ v∈vs,v.oneCell'=true)
   (hr:∀ (j:Nat) (d:Datum U) (v:Value),ds[j]? =some d→vs[j]? =some v→Rep U w M d v):Rep U w M ⟨.ifc i,x⟩ (.iface t (aX7 b vs))
theorem Rep.mono {U:Univ} {w w':World} {M M':Nat→Prop} (hs:w.heap.size≤w'.heap.size) (hw:∀ b,b<w.heap.size→¬ M b→w'.heap[b]? =w.heap[b]?) (hM:∀ b,b<w.heap.size→M' b→M b)
  {d:Datum U} {v:Value} (h:Rep U w M d v):Rep U w' M' d v:=by
 induction h with
 |int k n=>exact .int k n
 |bool b=>exact .bool b
 |str s=>exact .str s
 |nil e t A c=>exact .nil e t A c
 |ifcNil i x h=>exact .ifcNil i x h
 |ifc i x t b ds vs h hl hs h1 hr ih=>exact .ifc i x t b ds vs h hl hs h1 ih
 |slice e t l g o c f h0 hc hm hMg hg hcell hr ih=>
  refine .slice e t l g o c f h0 hc hm (fun h=>hMg (hM g hg h)) (by omega) (fun i hi j hj=>?_) (fun i x hx j d hd=>ih i x hx j d hd)
  rw [←hcell i hi j hj]
  exact World.cell?_of_block (hw g hg hMg)
def Small (U:Univ) (d:Datum U):Prop:=∃ (w:World) (M:Nat→Prop) (v:Value),Rep U w M d v
theorem Small.len {U:Univ} {e:TypeId} {t:Ty} {l:List (den U.T t)} (h:Small U ⟨.slice e t,l⟩):l.length≤most:=by
 obtain ⟨w,M,v,h⟩:=h
 cases h with
 |nil=>simp [most]
 |slice _ _ _ _ _ _ _ _ _ hm=>exact hm
theorem Small.elem {U:Univ} {e:TypeId} {t:Ty} {l:List (den U.T t)} (h:Small U ⟨.slice e t,l⟩) {i:Nat} {x:den U.T t} (hx:l[i]? =some x) {j:Nat} {d:Datum U} (hd:(B4 U t x)[j]? =some d):Small U d:=by
 obtain ⟨w,M,v,h⟩:=h
 cases h with
 |nil=>simp at hx
 |slice _ _ _ _ _ _ _ _ _ _ _ _ _ hr=>exact ⟨w,M,_,hr i x hx j d hd⟩
end
end Go.VT
end
section
namespace Go.VT
noncomputable section
inductive DC (U:Univ) where
 |self (ver:Nat)
 |elt (ver:Nat) (i:Int) (off:Nat)
 |inn (iv:Nat) (i:Int) (j:Nat)
 |iat (iv:Nat) (i:Int) (j:Nat) (k:Int) (off:Nat)
 |key (iv:Nat) (d:Datum U)
 |it (mid:Nat)
inductive Deep (U:Univ) where
 |rows (e:TypeId) (t:Ty) (m:List Nat) (l:List (den U.T t)) (ver iv:Nat) (live:Bool) (hole:Option (Int×Nat))
 |maps (kt:Ty) (e:TypeId) (t:Ty) (l:List (den U.T kt×List (den U.T t))) (ver iv:Nat) (live:Bool) (hole:Option (den U.T kt))
 |iter (mid:Option Nat) (kt vt:Ty) (n:Nat) (seen:List Nat) (cur:Nat)
def Deep.live {U:Univ}:Deep U→Bool
 | .rows _ _ _ _ _ _ l _=>l
 | .maps _ _ _ _ _ _ l _=>l
 | .iter .. =>true
inductive Cell (U:Univ) where
 |un
 |d (x:Datum U)
 |row (id ver:Nat)
 |ptr (id off:Nat)
 |elt (id ver:Nat) (i:Int) (off:Nat)
 |rd (cs:List (Datum U)) (off:Nat)
 |gl (g:Nat)
 |lit (v:Value)
 |map (id:Nat)
 |clo (f:FuncId) (ids:List Nat)
 |yld (id:Nat)
 |ifc (t:TypeId) (b:Bool) (ds:List (Datum U))
 |tab (g:Nat) (i:Int)
 |tabf (fs:List FuncId) (i:Int)
 |dc (id:Nat) (c:DC U)
 |bnd (f:FuncId) (id:Nat)
inductive PV (U:Univ) where
 |un
 |one (c:Cell U)
 |agg (cs:List (Cell U))
 |tup (vs:List (Bool×List (Cell U)))
 |opt (gs:List (Nat×Bool)) (p:PV U)
inductive Ob (U:Univ) where
 |box (e:TypeId) (cs:List (Cell U))
 |row (e:TypeId) (t:Ty) (l:List (den U.T t)) (ver:Nat) (live:Bool)
 |map (k v:Ty) (l:List (den U.T k×den U.T v))
 |loop (st:Int)
 |dp (D:Deep U)
def Ob.live {U:Univ}:Ob U→Bool
 | .row _ _ _ _ l=>l
 | .dp D=>D.live
 |_=>true
def Ob.isRow {U:Univ}:Ob U→Bool
 | .row .. =>true
 | .dp _=>true
 |_=>false
abbrev Obs (U:Univ):=List (Nat×Ob U)
def look {α:Type} (k:Nat):List (Nat×α)→Option α
 |[]=>none
 |(j,a)::r=>if Nat.beq j k then some a else look k r
def write {α:Type} (k:Nat) (a:α):List (Nat×α)→List (Nat×α)
 |[]=>[(k,a)]
 |(j,b)::r=>if Nat.beq j k then (k,a)::r else (j,b)::write k a r
structure PanV (U:Univ) where
 t:TypeId
 agg:Bool
 ds:List (Datum U)
inductive CPat where
 |un
 |d (k:Nat)
 |row (j:Nat)
 |ptr (j off:Nat)
 |map (j:Nat)
 |clo (f:FuncId) (js:List Nat)
 |yld (j:Nat)
 |fn (f:FuncId)
 |nil
 |dp (j:Nat)
 |ms (j:Nat)
inductive OPat where
 |box (e:TypeId) (cs:List CPat)
 |row (k:Nat)
 |map (k:Nat)
 |loop (k:Nat)
 |dp (k:Nat) (m:List Nat)
 |ms (k:Nat)
 deriving Inhabited
structure Con (U:Univ) where
 args:List (Bool×Nat)
 params:List Ty
 ain:List CPat
 oin:List OPat
 pre:Option (Dens U.T params→Prop)
 bad:Option (Dens U.T params→Bool×PanV U)
 res:List (Bool×Nat)
 tys:List Ty
 rout:List CPat
 oout:List OPat
 fn:Dens U.T params→Dens U.T tys
 kept:List Nat
 yl:List (Nat×Nat)
 gh:List (Nat×Nat)
structure Glob where
 fs:List FuncId
 vs:List Value
def Glob.cell (g:Glob) (i:Nat):Option Value:=match g.fs[i]? with
 |some f=>some (.func (.func f) #[] #[])
 |none=>g.vs[i]?
structure Env (U:Univ) where
 P:Program
 code:TypeId→Option Ty
 con:FuncId→List (Con U)
 G:List (Nat×Glob)
 tab:List FuncId→Int→List (Con U)
 inv:Nat→String→List (Con U)
 yl:List (Nat×Nat)
 Y:Option (Con U)
 it:FuncId→List (Con U×Con U×List (Nat×Nat))
 mg:Bool
 dp:List (TypeId×List Nat)
variable {U:Univ}
structure Eff (U:Univ) where
 obl:Option Prop
 val:PV U
 upd:Obs U
def holds:Option Prop→Prop
 |none=>True
 |some p=>p
def Eff.Obl (e:Eff U):Prop:=holds e.obl
def V7:Value→Cell U
 | .int k n=>.d ⟨.int k,n⟩
 | .bool b=>.d ⟨.bool,b⟩
 | .string s=>.d ⟨.str,s⟩
 |v=>.lit v
def ev (σ:List (Nat×PV U)):Operand→PV U
 | .tmp t=>(look t σ).getD .un
 | .const v=>match v with
  | .agg cs=>if cs.toList.all (·.oneCell') then .agg (cs.toList.map V7) else .un
  | .tuple _=>.un
  |v=>.one (V7 v)
 | .global g=>.one (.gl g)
 | .func f=>.one (.lit (.func (.func f) #[] #[]))
def PV.plain:PV U→Bool
 | .opt .. =>false
 |_=>true
def hasG (path:List (Nat×Bool)) (g:Nat×Bool):Bool:=path.any fun x=>Nat.beq x.1 g.1&&(x.2==g.2)
def I0 (path:List (Nat×Bool)):PV U→PV U
 | .opt gs p=>if gs.all (hasG path) then p else .un
 |p=>p
def ids1:Cell U→List Nat
 | .row id _=>[id]
 | .ptr id _=>[id]
 | .elt id _ _ _=>[id]
 | .map id=>[id]
 | .clo _ ids=>ids
 | .yld id=>[id]
 | .dc id c=>match c with
  | .it mid=>[id,mid]
  |_=>[id]
 | .bnd _ id=>[id]
 |_=>[]
def idsP:PV U→List Nat
 | .one c=>ids1 c
 | .agg cs=>cs.flatMap ids1
 | .tup vs=>vs.flatMap fun v=>v.2.flatMap ids1
 |_=>[]
def ae4 (P:Program) (t:TypeId):Option (Bool×Nat):=
 match P.info? t,P.underlying t with
 |some i,some d=>some ((match d with
   | .struct _=>true
   | .array _ _=>true
   |_=>false),i.size)
 |_,_=>none
def U1:PV U→Option (List (Cell U))
 | .one c=>some [c]
 | .agg cs=>some cs
 |_=>none
def aB2 (agg:Bool) (cs:List (Cell U)):Option (PV U):=
 if agg then some (.agg cs) else match cs with
  |[c]=>some (.one c)
  |_=>none
def aB3 (P:Program) (t:TypeId) (cs:List (Cell U)):Option (PV U):=
 match ae4 P t with
 |some (b,n)=>if Nat.beq (cs.take n).length n then aB2 b (cs.take n) else none
 |none=>none
def J7 (t:Ty) (l:List (den U.T t)) (i:Int) (j:Nat):Option (Datum U):=(B4 U t (l.getD i.toNat (dfl U t)))[j]?
def Deep.frozen:Deep U→Deep U
 | .rows e t m l ver iv _ hole=>.rows e t m l ver iv false hole
 | .maps kt e t l ver iv _ hole=>.maps kt e t l ver iv false hole
 |D=>D
def Deep.datum (D:Deep U) (c:DC U):Option (Datum U):=
 match D with
 | .rows e t m l ver iv _ none=>match c with
  | .self v=>if Nat.beq v ver then some ⟨.slice e t,l⟩ else none
  | .inn v i j=>if Nat.beq v iv then J7 t l i j else none
  |_=>none
 |_=>none
def S3 (id iv:Nat) (i:Int) (m:List Nat):Nat→List (Datum U)→List (Cell U)
 |_,[]=>[]
 |j,d::r=>(bif m.any (Nat.beq j) then .dc id (.inn iv i j) else .d d)::S3 id iv i m (j+1) r
def Deep.cells (D:Deep U) (id:Nat) (c:DC U):Option (List (Cell U)):=
 match D with
 | .rows e t m l ver iv _ none=>match c with
  | .elt v i off=>if Nat.beq v ver then some ((S3 id iv i m 0 (B4 U t (l.getD i.toNat (dfl U t)))).drop off) else none
  | .iat v i j k off=>if Nat.beq v iv then (match J7 t l i j with
   |some ⟨.slice _ t',l'⟩=>some (((B4 U t' (l'.getD k.toNat (dfl U t'))).drop off).map .d)
   |_=>none) else none
  |_=>none
 |_=>none
def asD (h:Obs U) (t:Ty):Cell U→Option (Datum U×Obs U)
 | .d x=>if x.1=t then some (x,[]) else none
 | .lit (.slice none 0 0)=>match t with
  | .slice e t'=>some (⟨.slice e t',[]⟩,[])
  |_=>none
 | .row id ver=>match look id h with
  |some (.row e t' l ver' _)=>if Nat.beq ver ver' then (if Ty.slice e t'=t then some (⟨.slice e t',l⟩,[(id,.row e t' l ver' false)]) else none) else none
  |_=>none
 | .ifc t' b ds=>match t with
  | .ifc i=>(U.mkIfc i t' b ds).map fun x=>(⟨.ifc i,x⟩,[])
  |_=>none
 | .dc id c=>match look id h with
  |some (.dp D)=>match D.datum c with
   |some x=>if x.1=t then some (x,[(id,.dp D.frozen)]) else none
   |none=>none
  |_=>none
 |_=>none
def allD:List (Cell U)→Option (List (Datum U))
 |[]=>some []
 | .d x::r=>(allD r).map (x::·)
 |_::_=>none
def asDs (h:Obs U):List Ty→List (Cell U)→Option (List (Datum U)×Obs U)
 |[],[]=>some ([],[])
 |t::ts,c::cs=>match asD h t c with
  |some (x,u)=>match asDs h ts cs with
   |some (xs,u')=>some (x::xs,u++u')
   |none=>none
  |none=>none
 |_,_=>none
def tysE (U:Univ):Ty→List Ty
 | .user i=>U.fields i
 |t=>[t]
def asE (h:Obs U) (t:Ty) (v:PV U):Option (den U.T t×Obs U):=
 match U1 v with
 |some cs=>match asDs h (tysE U t) cs with
  |some (ds,u)=>match mkE U t ds with
   |some x=>some (x,u)
   |none=>none
  |none=>none
 |none=>none
def bZ9 (op:BinOp) (k:IntKind) (x y:Int):Option (Option Prop×Datum U):=
 match op with
 | .add=>some (none,⟨.int k,k.wrap (x+y)⟩)
 | .sub=>some (none,⟨.int k,k.wrap (x-y)⟩)
 | .mul=>some (none,⟨.int k,k.wrap (x*y)⟩)
 | .quo=>some (some (y≠0),⟨.int k,k.wrap (x.tdiv y)⟩)
 | .rem=>some (some (y≠0),⟨.int k,x.tmod y⟩)
 | .eql=>some (none,⟨.bool,x==y⟩)
 | .neq=>some (none,⟨.bool,x !=y⟩)
 | .lss=>some (none,⟨.bool,decide (x<y)⟩)
 | .leq=>some (none,⟨.bool,decide (x≤y)⟩)
 | .gtr=>some (none,⟨.bool,decide (x >y)⟩)
 | .geq=>some (none,⟨.bool,decide (x≥y)⟩)
 | .shl=>some (some (0≤y),⟨.int k,k.wrap (x*2 ^ min y.toNat k.bits)⟩)
 | .shr=>some (some (0≤y),⟨.int k,x.fdiv (2 ^ min y.toNat k.bits)⟩)
 | .and=>some (none,⟨.int k,k.wrap (BitVec.ofInt k.bits x&&&BitVec.ofInt k.bits y).toNat⟩)
 | .or=>some (none,⟨.int k,k.wrap (BitVec.ofInt k.bits x|||BitVec.ofInt k.bits y).toNat⟩)
 | .xor=>some (none,⟨.int k,k.wrap (BitVec.ofInt k.bits x ^^^ BitVec.ofInt k.bits y).toNat⟩)
 | .andNot=>some (none,⟨.int k,k.wrap (BitVec.ofInt k.bits x&&&~~~ BitVec.ofInt k.bits y).toNat⟩)
def D7 {α:Type} (cs:List α) (off:Nat) (vs:List α):List α:=cs.take off++vs++cs.drop (off+vs.length)
def B5 (dst:Option Tmp) (j:Nat):Nat:=match dst with|some d=>64*d+j|none=>j
def ao2 (P:Program) (s:TypeId) (f:Nat):Option (Nat×TypeId):=
 match P.underlying s with
 |some (.struct fs)=>match fs.toList[f]? with
  |some x=>match P.info? x.type with
   |some i=>if Nat.beq i.size 0 then none else some (x.offset,x.type)
   |none=>none
  |none=>none
 |_=>none
def O5 (P:Program) (t:TypeId):Nat:=P.bytesOf t
def D5 {α:Type}:List (Bool×Nat)→List α→List (Bool×List α)
 |[],_=>[]
 |(b,n)::gs,cs=>(b,cs.take n)::D5 gs (cs.drop n)
def F7:List (Bool×Nat)→List (PV U)→Option (List (Cell U))
 |[],[]=>some []
 |(true,n)::gs,.agg cs::vs=>if Nat.beq cs.length n then (F7 gs vs).map (cs++·) else none
 |(false,1)::gs,.one c::vs=>(F7 gs vs).map (c::·)
 |_,_=>none
def bD8 (P:Program) (t:TypeId):Option (Nat→Option (Nat×Nat)):=
 match P.underlying t with
 |some (.array _ e)=>match P.info? e with
  |some ie=>some (fun i=>some (i*ie.size,ie.size))
  |none=>none
 |some (.struct fs)=>match fs.toList.mapM (fun f=>(P.info? f.type).map fun i=>(f.offset,i.size)) with
  |some ax6=>some (fun i=>ax6[i]?)
  |none=>none
 |_=>none
def aQ0 (place:Nat→Option (Nat×Nat)):List (Cell U)→List (Nat×PV U)→Option (List (Cell U))
 |cs,[]=>some cs
 |cs,(i,v)::r=>match place i with
  |some (off,size)=>match U1 v with
   |some vs=>if Nat.beq vs.length size&&Nat.ble (off+vs.length) cs.length then aQ0 place (D7 cs off vs) r else none
   |none=>none
  |none=>none
def S4 (P:Program) (t:TypeId):Option (List (Cell U)):=
 match P.info? t with
 |some i=>match i.zero with
  |some v=>if v.cells.toList.all (·.oneCell') then some (v.cells.toList.map V7) else none
  |none=>none
 |none=>none
def T6 (h:Obs U) (t:Ty):Nat→List (Cell U)→Option (List (den U.T t)×Obs U)
 |0,[]=>some ([],[])
 |0,_::_=>none
 |k+1,cs=>match asDs h (tysE U t) (cs.take (szOf U t)) with
  |some (ds,u)=>match mkE U t ds with
   |some x=>match T6 h t k (cs.drop (szOf U t)) with
    |some (xs,u')=>some (x::xs,u++u')
    |none=>none
   |none=>none
  |none=>none
def F9 (v:PV U):Eff U:=⟨none,v,[]⟩
def ay9 (E:Env U) (t:TypeId) (ps:List (Nat×PV U)):Option (Eff U):=
 match (S4 E.P t:Option (List (Cell U))) with
 |some cs=>match bD8 E.P t with
  |some pl=>match aQ0 pl cs ps with
   |some cs=>some (F9 (.agg cs))
   |none=>none
  |none=>none
 |none=>none
def U4 (E:Env U) (h:Obs U) (dst:Option Tmp) (t:TypeId) (len:Nat) (ps:List (Nat×PV U)):Option (Eff U):=
 match E.P.underlying t with
 |some (.slice e)=>match E.code e with
  |some c=>if Nat.ble (len*szOf U c) 1000000 then (match aQ0 (fun i=>some (i*szOf U c,szOf U c)) (List.replicate (len*szOf U c) .un) ps with
   |some cs=>match T6 h c len cs with
    |some (l,u)=>some ⟨none,.one (.row (B5 dst 0) 0),u++[(B5 dst 0,.row e c l 0 true)]⟩
    |none=>none
   |none=>none) else none
  |none=>none
 |_=>none
def X2 (E:Env U) (h:Obs U) (t:TypeId) (len:Nat) (ps:List (Nat×PV U)):Option (Eff U):=
 match E.P.underlying t with
 |some (.slice e)=>match E.code e with
  |some c=>if Nat.ble (len*szOf U c) 1000000 then (match aQ0 (fun i=>some (i*szOf U c,szOf U c)) (List.replicate (len*szOf U c) .un) ps with
   |some cs=>match T6 h c len cs with
    |some (l,u)=>some ⟨none,.one (.d ⟨.slice e c,l⟩),u⟩
    |none=>none
   |none=>none) else none
  |none=>none
 |_=>none
def aQ1 (E:Env U) (h:Obs U) (t:TypeId):PV U→Option (Eff U)
 | .one (.ptr id off)=>match look id h with
  |some (.box _ cs)=>(aB3 E.P t (cs.drop off)).map F9
  |_=>none
 | .one (.rd cs off)=>(aB3 E.P t ((cs.drop off).map .d)).map F9
 | .one (.tab g i)=>match look g E.G with
  |some gl=>match ae4 E.P t with
   |some (b,n)=>if !b&&Nat.beq n 1 then some ⟨some (0≤i∧i<gl.fs.length),.one (.tabf gl.fs i),[]⟩ else none
   |none=>none
  |none=>none
 | .one (.gl g)=>match look g E.G with
  |some gl=>if gl.fs.isEmpty&&gl.vs.all (·.oneCell') then (aB3 E.P t (gl.vs.map V7)).map F9 else none
  |none=>none
 | .one (.dc id c)=>match look id h with
  |some (.dp D)=>match D.cells id c with
   |some cs=>(aB3 E.P t cs).map F9
   |none=>none
  |_=>none
 | .one (.elt id ver i off)=>match look id h with
  |some (.row _ c l ver' _)=>if Nat.beq ver ver' then (aB3 E.P t (((B4 U c (l.getD i.toNat (dfl U c))).drop off).map .d)).map F9 else none
  |_=>none
 |_=>none
def aX8 (h:Obs U) (id:Nat) (e:TypeId) (t:Ty) (m:List Nat) (l:List (den U.T t)) (ver iv:Nat) (i:Int) (off:Nat) (vs:List (Cell U)):Option (Option Prop×Obs U):=
 if Nat.ble (off+vs.length) (szOf U t)&&m.all (fun j=>Nat.blt j off||Nat.ble (off+vs.length) j) then (match asDs h (((tysE U t).drop off).take vs.length) vs with
  |some (ds,u)=>match mkE U t (D7 (B4 U t (l.getD i.toNat (dfl U t))) off ds) with
   |some x=>if u.all (fun y=>!(Nat.beq y.1 id)) then some (none,u++[(id,.dp (.rows e t m (l.set i.toNat x) ver iv true none))]) else none
   |none=>none
  |none=>none) else none
def ca0 (h:Obs U) (id:Nat) (ty:Option Ty) (c:Cell U):Option (Datum U×Obs U):=
 match c with
 | .row r vr=>match look r h with
  |some (.row e' t' l' vr' true)=>if Nat.beq vr vr'&&!(Nat.beq r id) then some (⟨.slice e' t',l'⟩,[(r,.row e' t' [] (vr'+1) true)]) else none
  |_=>none
 | .lit (.slice none 0 0)=>match ty with
  |some (.slice e' t')=>some (⟨.slice e' t',[]⟩,[])
  |_=>none
 |_=>none
def aX9 (h:Obs U) (id:Nat) (e:TypeId) (t:Ty) (m:List Nat) (l:List (den U.T t)) (ver iv:Nat) (hole:Option (Int×Nat)) (i:Int) (off:Nat) (c:Cell U):Option (Option Prop×Obs U):=
 match ca0 h id ((tysE U t)[off]?) c with
 |some (d,u)=>if m.any (Nat.beq off)&&(tysE U t)[off]? ==some d.1 then (match mkE U t (D7 (B4 U t (l.getD i.toNat (dfl U t))) off [d]) with
  |some x=>match (match hole with
    |none=>some none
    |some (i',j)=>if Nat.beq j off then some (some (i'=i)) else none) with
   |some p=>some (p,u++[(id,.dp (.rows e t m (l.set i.toNat x) ver (iv+1) true none))])
   |none=>none
  |none=>none) else none
 |none=>none
def aY0 (h:Obs U) (id:Nat) (e:TypeId) (t:Ty) (m:List Nat) (l:List (den U.T t)) (ver iv:Nat) (i:Int) (j:Nat) (k:Int) (off:Nat) (vs:List (Cell U)):Option (Option Prop×Obs U):=
 match J7 t l i j with
 |some ⟨.slice e' t',l'⟩=>if Nat.ble (off+vs.length) (szOf U t') then (match asDs h (((tysE U t').drop off).take vs.length) vs with
  |some (ds,u)=>match mkE U t' (D7 (B4 U t' (l'.getD k.toNat (dfl U t'))) off ds) with
   |some x'=>match mkE U t (D7 (B4 U t (l.getD i.toNat (dfl U t))) j [⟨.slice e' t',l'.set k.toNat x'⟩]) with
    |some x=>if u.all (fun y=>!(Nat.beq y.1 id)) then some (none,u++[(id,.dp (.rows e t m (l.set i.toNat x) ver iv true none))]) else none
    |none=>none
   |none=>none
  |none=>none) else none
 |_=>none
def Deep.put (h:Obs U) (id:Nat) (D:Deep U) (c:DC U) (vs:List (Cell U)):Option (Option Prop×Obs U):=
 match D with
 | .rows e t m l ver iv true hole=>match c with
  | .elt v i off=>if Nat.beq v ver then (match vs,m.any (Nat.beq off) with
   |[c],true=>aX9 h id e t m l ver iv hole i off c
   |vs,_=>match hole with
    |none=>aX8 h id e t m l ver iv i off vs
    |some _=>none) else none
  | .iat v i j k off=>if Nat.beq v iv then (match hole with
   |none=>aY0 h id e t m l ver iv i j k off vs
   |some _=>none) else none
  |_=>none
 |_=>none
def az0 (E:Env U) (h:Obs U) (t:TypeId) (a v:PV U):Option (Eff U):=
 match U1 v with
 |some vs=>match ae4 E.P t with
  |some (_,n)=>if Nat.beq vs.length n then (match a with
   | .one (.ptr id off)=>match look id h with
    |some (.box e cs)=>if Nat.ble (off+n) cs.length then some ⟨none,.un,[(id,.box e (D7 cs off vs))]⟩ else none
    |_=>none
   | .one (.elt id ver i off)=>match look id h with
    |some (.row e c l ver' lv)=>if Nat.beq ver ver'&&lv&&Nat.ble (off+n) (szOf U c) then (match asDs h (((tysE U c).drop off).take n) vs with
      |some (ds,u)=>match mkE U c (D7 (B4 U c (l.getD i.toNat (dfl U c))) off ds) with
       |some x=>if u.all (fun y=>!(Nat.beq y.1 id)) then some ⟨none,.un,u++[(id,.row e c (l.set i.toNat x) ver lv)]⟩ else none
       |none=>none
      |none=>none) else none
    |_=>none
   | .one (.dc id c)=>match look id h with
    |some (.dp D)=>match D.put h id c vs with
     |some (p,u)=>some ⟨p,.un,u⟩
     |none=>none
    |_=>none
   |_=>none) else none
  |none=>none
 |none=>none
def ab0:Ty→Bool
 | .int _=>true
 | .bool=>true
 |_=>false
def Q1 (P:Program):List Field→Nat→Option (List Ty)
 |[],_=>some []
 |f::r,k=>match P.underlying f.type,P.info? f.type with
  |some d,some i=>match d with
   | .int q=>if f.name !="_"&&Nat.beq f.offset k&&Nat.beq i.size 1 then (Q1 P r (k+1)).map (.int q::·) else none
   | .bool=>if f.name !="_"&&Nat.beq f.offset k&&Nat.beq i.size 1 then (Q1 P r (k+1)).map (.bool::·) else none
   |_=>none
  |_,_=>none
def ae5 (P:Program) (t:TypeId):Option (List Ty):=
 match P.underlying t with
 |some (.struct fs)=>Q1 P fs.toList 0
 |_=>none
def J6:List Ty→List (Datum U)→List (Datum U)→Option Bool
 |[],[],[]=>some true
 | .int _::ts,⟨.int q,x⟩::ds,⟨.int q',y⟩::es=>if q=q' then (J6 ts ds es).map ((x==y)&&·) else none
 | .bool::ts,⟨.bool,x⟩::ds,⟨.bool,y⟩::es=>(J6 ts ds es).map ((x==y)&&·)
 |_,_,_=>none
def bo9 (E:Env U) (op:BinOp) (t:TypeId):PV U→PV U→Option (Eff U)
 | .one (.d ⟨.int k,a⟩),.one (.d ⟨.int k',b⟩)=>if k=k' then (match bZ9 op k a b with
  |some (p,d)=>some ⟨p,.one (.d d),[]⟩
  |none=>none) else none
 | .one (.d ⟨.bool,a⟩),.one (.d ⟨.bool,b⟩)=>match E.P.underlying t with
  |some .bool=>match op with
   | .eql=>some (F9 (.one (.d ⟨.bool,a==b⟩)))
   | .neq=>some (F9 (.one (.d ⟨.bool,a !=b⟩)))
   |_=>none
  |_=>none
 | .agg xs,.agg ys=>match E.P.stoodInHeld t,E.P.eqGuardType E.P.depth t,ae5 E.P t,allD xs,allD ys with
  |false,false,some ts,some ds,some es=>match J6 ts ds es with
   |some b=>match op with
    | .eql=>some (F9 (.one (.d ⟨.bool,b⟩)))
    | .neq=>some (F9 (.one (.d ⟨.bool,!b⟩)))
    |_=>none
   |none=>none
  |_,_,_,_,_=>none
 |_,_=>none
def bQ6 (op:UnOp):PV U→Option (Eff U)
 | .one (.d ⟨.bool,b⟩)=>match op with
  | .not=>some (F9 (.one (.d ⟨.bool,!b⟩)))
  |_=>none
 | .one (.d ⟨.int k,n⟩)=>match op with
  | .neg=>some (F9 (.one (.d ⟨.int k,k.wrap (0-n)⟩)))
  |_=>none
 |_=>none
def aQ2 (E:Env U) (t:TypeId):PV U→Option (Eff U)
 | .one (.d ⟨.int _,n⟩)=>match E.P.underlying t with
  |some (.int k)=>some (F9 (.one (.d ⟨.int k,k.wrap n⟩)))
  |_=>none
 |_=>none
def Deep.at_ (D:Deep U) (c:DC U) (k:Nat):Option (DC U):=
 match D with
 | .rows _ _ _ _ ver iv _ _=>match c with
  | .elt v i off=>if Nat.beq v ver then some (.elt v i (off+k)) else none
  | .iat v i j q off=>if Nat.beq v iv then some (.iat v i j q (off+k)) else none
  |_=>none
 |_=>none
def X3 (E:Env U) (h:Obs U) (s:TypeId) (f:Nat) (v:PV U):Option (Eff U):=
 match ao2 E.P s f with
 |some (off',_)=>match v with
  | .one (.ptr id off)=>some (F9 (.one (.ptr id (off+off'))))
  | .one (.rd cs off)=>some (F9 (.one (.rd cs (off+off'))))
  | .one (.elt id ver i off)=>match look id h with
   |some (.row _ _ _ ver' _)=>if Nat.beq ver ver' then some (F9 (.one (.elt id ver i (off+off')))) else none
   |_=>none
  | .one (.dc id c)=>match look id h with
   |some (.dp D)=>(D.at_ c off').map fun c=>F9 (.one (.dc id c))
   |_=>none
  |_=>none
 |none=>none
def az1 (E:Env U) (s:TypeId) (f:Nat):PV U→Option (Eff U)
 | .agg cs=>match ao2 E.P s f with
  |some (off,t)=>(aB3 E.P t (cs.drop off)).map F9
  |none=>none
 |_=>none
def aY1 (P:Program) (t:TypeId):Option Nat:=
 match P.underlying t with
 |some (.slice e)=>match P.info? e with
  |some i=>some i.size
  |none=>none
 |_=>none
def Deep.index (D:Deep U) (c:DC U) (z:Nat) (i:Int):Option (Prop×DC U):=
 match D with
 | .rows e t m l ver iv _ hole=>match c with
  | .self v=>if Nat.beq v ver&&Nat.beq z (szOf U t) then some ((0≤i∧i<l.length),.elt ver i 0) else none
  | .inn v i0 j=>match hole,J7 t l i0 j with
   |none,some ⟨.slice _ t',l'⟩=>if Nat.beq v iv&&Nat.beq z (szOf U t') then some ((0≤i∧i<l'.length),.iat iv i0 j i 0) else none
   |_,_=>none
  |_=>none
 |_=>none
def Deep.len (D:Deep U) (c:DC U):Option Nat:=
 match D with
 | .rows e t m l ver iv _ hole=>match c with
  | .self v=>if Nat.beq v ver then some l.length else none
  | .inn v i0 j=>match hole,J7 t l i0 j with
   |none,some ⟨.slice _ t',l'⟩=>if Nat.beq v iv then some l'.length else none
   |_,_=>none
  |_=>none
 |_=>none
def X4 (E:Env U) (h:Obs U) (ty:TypeId):PV U→PV U→Option (Eff U)
 | .one (.d ⟨.slice _ t,l⟩),.one (.d ⟨.int _,i⟩)=>match aY1 E.P ty with
  |some z=>if Nat.beq z (szOf U t) then some ⟨some (0≤i∧i<l.length),.one (.rd (B4 U t (l.getD i.toNat (dfl U t))) 0),[]⟩ else none
  |none=>none
 | .one (.row id ver),.one (.d ⟨.int _,i⟩)=>match look id h with
  |some (.row _ t l ver' _)=>match aY1 E.P ty with
   |some z=>if Nat.beq ver ver'&&Nat.beq z (szOf U t) then some ⟨some (0≤i∧i<l.length),.one (.elt id ver i 0),[]⟩ else none
   |none=>none
  |_=>none
 | .one (.gl g),.one (.d ⟨.int _,i⟩)=>match look g E.G with
  |some gl=>match E.P.underlying ty with
   |some (.array len el)=>match E.P.info? el with
    |some ie=>if Nat.beq len gl.fs.length&&Nat.beq ie.size 1 then some ⟨some (0≤i∧i<gl.fs.length),.one (.tab g i),[]⟩ else none
    |none=>none
   |_=>none
  |none=>none
 | .one (.dc id c),.one (.d ⟨.int _,i⟩)=>match look id h with
  |some (.dp D)=>match aY1 E.P ty with
   |some z=>match D.index c z i with
    |some (p,c)=>some ⟨some p,.one (.dc id c),[]⟩
    |none=>none
   |none=>none
  |_=>none
 | .one (.ptr id off),.one (.d ⟨.int _,i⟩)=>match E.P.underlying ty with
  |some (.array len el)=>match E.P.info? el with
   |some ie=>some ⟨some (0≤i∧i<(len:Int)),.one (.ptr id (off+i.toNat*ie.size)),[]⟩
   |none=>none
  |_=>none
 |_,_=>none
def ah9 (i:Nat):PV U→Option (Eff U)
 | .tup vs=>match vs[i]? with
  |some (b,cs)=>(aB2 b cs).map F9
  |none=>none
 |_=>none
def bp0 (h:Obs U):PV U→Option (Eff U)
 | .one (.d ⟨.slice _ _,l⟩)=>some (F9 (.one (.d ⟨.int .i64,(l.length:Int)⟩)))
 | .one (.lit (.slice none 0 0))=>some (F9 (.one (.d ⟨.int .i64,0⟩)))
 | .one (.row id ver)=>match look id h with
  |some (.row _ _ l ver' _)=>if Nat.beq ver ver' then some (F9 (.one (.d ⟨.int .i64,(l.length:Int)⟩))) else none
  |_=>none
 | .one (.dc id c)=>match look id h with
  |some (.dp D)=>match D.len c with
   |some k=>some (F9 (.one (.d ⟨.int .i64,(k:Int)⟩)))
   |none=>none
  |_=>none
 |_=>none
def aQ3 (h:Obs U):PV U→Option (Eff U)
 | .one (.map id)=>match look id h with
  |some (.map _ _ l)=>some (F9 (.one (.d ⟨.int .i64,(List.length l:Int)⟩)))
  |_=>none
 |_=>none
def bp1:PV U→PV U→Option (Eff U)
 | .one (.d ⟨.int k,a⟩),.one (.d ⟨.int k',b⟩)=>if k=k' then some (F9 (.one (.d ⟨.int k,if b<a then b else a⟩))) else none
 |_,_=>none
def bp2:PV U→PV U→Option (Eff U)
 | .one (.d ⟨.int k,a⟩),.one (.d ⟨.int k',b⟩)=>if k=k' then some (F9 (.one (.d ⟨.int k,if b >a then b else a⟩))) else none
 |_,_=>none
def aQ4:PV U→PV U→PV U→Option (Eff U)
 | .one (.d ⟨.int .i64,a⟩),.one (.d ⟨.int .i64,b⟩),.one (.d ⟨.int .i64,c⟩)=>some (F9 (.one (.d ⟨.int .i64,max (max a b) c⟩)))
 |_,_,_=>none
def ao3 (E:Env U) (h:Obs U) (dst:Option Tmp) (e:TypeId) (t:Ty) (s:PV U) (x:PV U):Option (Eff U):=
 match x with
 | .one x=>match asD h (.slice e t) x with
  |some (d,u)=>match d.as (.slice e t) with
   |some m=>match s with
    | .one (.row id ver)=>match look id h with
     |some (.row e' t' l ver' lv)=>if Nat.beq ver ver'&&lv&&(e==e') then (match Datum.as (U:=U) (.slice e t) ⟨.slice e' t',l⟩ with
      |some l=>if u.all (fun y=>!(Nat.beq y.1 id)) then some ⟨some ((List.length l+List.length m)*O5 E.P e≤most),.one (.row id (ver+1)),u++[(id,.row e t (l++m) (ver+1) true)]⟩ else none
      |none=>none) else none
     |_=>none
    | .one (.lit (.slice none 0 0))=>some ⟨some (List.length m*O5 E.P e≤most),.one (.row (B5 dst 0) 0),u++[(B5 dst 0,.row e t m 0 true)]⟩
    | .one (.dc id (.inn v i j))=>match look id h with
     |some (.dp (.rows e2 t2 m2 l2 ver iv true none))=>match J7 t2 l2 i j with
      |some ⟨.slice e' t',l'⟩=>if Nat.beq v iv&&(e==e') then (match Datum.as (U:=U) (.slice e t) ⟨.slice e' t',l'⟩ with
       |some l=>if u.all (fun y=>!(Nat.beq y.1 id))&&!(Nat.beq id (B5 dst 0)) then some ⟨some ((List.length l+List.length m)*O5 E.P e≤most),.one (.row (B5 dst 0) 0),u++[(id,.dp (.rows e2 t2 m2 l2 ver (iv+1) true (some (i,j)))),(B5 dst 0,.row e t (l++m) 0 true)]⟩ else none
       |none=>none) else none
      |_=>none
     |_=>none
    |_=>none
   |none=>none
  |none=>none
 |_=>none
def ab1 (E:Env U) (h:Obs U) (e:TypeId) (t:Ty) (s:PV U) (x:PV U):Option (Eff U):=
 match s,x with
 | .one (.dc id (.self v)),.one (.dc id2 (.self v2))=>match look id h,look id2 h with
  |some (.dp (.rows e1 t1 m1 l1 ver1 iv1 true none)),some (.dp (.rows e2 t2 m2 l2 ver2 iv2 true none))=>
   if Nat.beq v ver1&&Nat.beq v2 ver2&&!(Nat.beq id id2)&&(e==e1)&&(e==e2)&&(m1==m2) then (match Datum.as (U:=U) (.slice e t) ⟨.slice e1 t1,l1⟩,Datum.as (U:=U) (.slice e t) ⟨.slice e2 t2,l2⟩ with
    |some a,some b=>some ⟨some ((List.length a+List.length b)*O5 E.P e≤most),.one (.dc id (.self (ver1+1))),[(id2,.dp (.rows e t m1 [] (ver2+1) (iv2+1) true none)),(id,.dp (.rows e t m1 (a++b) (ver1+1) (iv1+1) true none))]⟩
    |_,_=>none) else none
  |_,_=>none
 |_,_=>none
def aQ5 (E:Env U) (h:Obs U) (e:TypeId) (t:Ty) (s:PV U) (x:PV U):Option (Eff U):=
 match x with
 | .one x=>match asD h (.slice e t) x with
  |some (d,u)=>match d.as (.slice e t) with
   |some m=>match s with
    | .one (.row id ver)=>match look id h with
     |some (.row e' t' l ver' lv)=>if Nat.beq ver ver'&&lv&&(e==e') then (match Datum.as (U:=U) (.slice e t) ⟨.slice e' t',l⟩ with
      |some l=>if u.all (fun y=>!(Nat.beq y.1 id)) then some ⟨none,.one (.d ⟨.int .i64,(Nat.min (List.length m) (List.length l):Nat)⟩),u++[(id,.row e t (List.take (List.length l) m++List.drop (List.length m) l) ver true)]⟩ else none
      |none=>none) else none
     |_=>none
    |_=>none
   |none=>none
  |none=>none
 |_=>none
def az2 (E:Env U) (h:Obs U) (t:TypeId) (lo hi:Bool) (vs:List (PV U)):Option (Eff U):=
 match E.P.underlying t with
 |some (.slice e)=>match E.code e with
  |some c=>match vs with
   | .one x::bs=>match asD h (.slice e c) x with
    |some (d,u)=>match d.as (.slice e c) with
     |some l=>match lo,hi,bs with
      |false,false,[]=>some ⟨none,.one (.d ⟨.slice e c,l⟩),u⟩
      |true,false,[.one (.d ⟨.int _,a⟩)]=>some ⟨some (0≤a∧a≤List.length l),.one (.d ⟨.slice e c,List.drop a.toNat l⟩),u⟩
      |false,true,[.one (.d ⟨.int _,b⟩)]=>some ⟨some (0≤b∧b≤List.length l),.one (.d ⟨.slice e c,List.take b.toNat l⟩),u⟩
      |true,true,[.one (.d ⟨.int _,a⟩),.one (.d ⟨.int _,b⟩)]=>some ⟨some (0≤a∧a≤b∧b≤List.length l),.one (.d ⟨.slice e c,List.drop a.toNat (List.take b.toNat l)⟩),u⟩
      |_,_,_=>none
     |none=>none
    |none=>none
   |_=>none
  |none=>none
 |_=>none
def Z8 (a b:List Nat):Bool:=a.any fun k=>b.any (Nat.beq k)
def keys (u:Obs U):List Nat:=u.map (·.1)
def ao4 (E:Env U) (h:Obs U) (t:TypeId) (vs:List (PV U)):Option (Eff U):=
 match E.P.underlying t with
 |some (.slice e)=>match E.code e with
  |some c=>match vs with
   |[.one x,.one (.d ⟨.int _,a⟩),.one (.d ⟨.int _,b⟩)]=>match x with
    | .row id ver=>match look id h with
     |some (.row e' t' l ver' true)=>if Nat.beq ver ver'&&(e==e') then some ⟨some (a=l.length∧b=l.length),.one (.row id (ver+1)),[(id,.row e' t' l (ver+1) true)]⟩ else none
     |_=>none
    |x=>match asD h (.slice e c) x with
     |some (d,u)=>match d.as (.slice e c) with
      |some l=>some ⟨some (0≤a∧a≤b∧b≤List.length l),.one (.d ⟨.slice e c,List.take a.toNat l⟩),u⟩
      |none=>none
     |none=>none
   |_=>none
  |none=>none
 |_=>none
def aB4:Operand→Operand→Bool
 | .tmp a,.tmp b=>Nat.beq a b
 | .const (.int _ a),.const (.int _ b)=>a==b
 |_,_=>false
def aQ6 (E:Env U) (dst:Option Tmp) (t:TypeId):PV U→Option (Eff U)
 | .one (.d ⟨.int _,a⟩)=>match E.P.underlying t with
  |some (.slice e)=>match E.code e with
   |some c=>some ⟨some (0≤a∧a*(O5 E.P e:Int)≤most),.one (.row (B5 dst 0) 0),[(B5 dst 0,.row e c (List.replicate a.toNat (dfl U c)) 0 true)]⟩
   |none=>none
  |_=>none
 |_=>none
def H4:Ty→Bool
 | .user _=>true
 |_=>false
def dpOf (E:Env U) (t:TypeId):Option (TypeId×List Nat):=
 match E.P.underlying t with
 |some (.slice e)=>(look e E.dp).map fun m=>(e,m)
 |_=>none
def bv0:Cell U→Bool
 | .lit (.slice none 0 0)=>true
 |_=>false
def ao5 (E:Env U) (dst:Option Tmp) (e:TypeId) (m:List Nat):PV U→Option (Eff U)
 | .one (.d ⟨.int _,a⟩)=>match E.code e with
  |some c=>match (S4 E.P e:Option (List (Cell U))) with
   |some zs=>if m.all (fun j=>match zs[j]? with
     |some z=>bv0 z
     |none=>false) then some ⟨some (0≤a∧a*(O5 E.P e:Int)≤most),.one (.dc (B5 dst 0) (.self 0)),[(B5 dst 0,.dp (.rows e c m (List.replicate a.toNat (dfl U c)) 0 0 true none))]⟩ else none
   |none=>none
  |none=>none
 |_=>none
def O6 (h:Obs U) (m:List Nat):Nat→List Ty→List (Cell U)→Option (List (Datum U)×Obs U×Obs U)
 |_,[],[]=>some ([],[],[])
 |j,t::ts,c::cs=>match O6 h m (j+1) ts cs with
  |some (ds,u,v)=>if m.any (Nat.beq j) then (match c with
    | .row r vr=>match look r h with
     |some (.row e' t' l' vr' true)=>if Nat.beq vr vr'&&t==.slice e' t' then some (⟨.slice e' t',l'⟩::ds,u,(r,Ob.row e' t' [] (vr'+1) true)::v) else none
     |_=>none
    | .lit (.slice none 0 0)=>match t with
     | .slice e' t'=>some (⟨.slice e' t',[]⟩::ds,u,v)
     |_=>none
    |_=>none) else (match asD h t c with
    |some (d,u')=>some (d::ds,u'++u,v)
    |none=>none)
  |none=>none
 |_,_,_=>none
def ae6:List (Cell U)→List Nat
 |[]=>[]
 | .row r _::cs=>r::ae6 cs
 |_::cs=>ae6 cs
def aQ7:List Nat→Bool
 |[]=>true
 |x::r=>!(r.any (Nat.beq x))&&aQ7 r
def ai0 (E:Env U) (h:Obs U) (dst:Option Tmp) (e:TypeId) (m:List Nat) (len:Nat) (ps:List (Nat×PV U)):Option (Eff U):=
 match E.code e,len,ps with
 |some c,1,[(0,.agg cs)]=>match O6 h m 0 (tysE U c) cs with
  |some (ds,u,v)=>match mkE U c ds with
   |some x=>if (H4 c&&Nat.ble (szOf U c) 1000000)&&aQ7 (ae6 cs)&&aQ7 (keys v)&&!(Z8 (keys u) (keys v))&&!(Z8 [B5 dst 0] (keys u++keys v)) then some ⟨none,.one (.dc (B5 dst 0) (.self 0)),u++(v++[(B5 dst 0,.dp (.rows e c m [x] 0 0 true none))])⟩ else none
   |none=>none
  |none=>none
 |_,_,_=>none
def N4:List (Datum U)→List (Datum U)→Bool
 |[],[]=>true
 |⟨.int _,x⟩::ds,⟨.int _,y⟩::es=>(x==y)&&N4 ds es
 |⟨.bool,x⟩::ds,⟨.bool,y⟩::es=>(x==y)&&N4 ds es
 |_,_=>false
def E7 (U:Univ):(t:Ty)→den U.T t→den U.T t→Bool
 | .int _,x,y=>x==y
 | .bool,x,y=>x==y
 | .user i,x,y=>N4 (A9 U (U.fields i) (U.get i x)) (A9 U (U.fields i) (U.get i y))
 |_,_,_=>false
def L8 (U:Univ) (P:Program) (K:TypeId) (kt:Ty):Bool:=
 match P.underlying K with
 |some (.int q)=>match kt with
  | .int q'=>decide (q=q')
  |_=>false
 |some (.struct _)=>match kt with
  | .user i=>match ae5 P K with
   |some ts=>(ts==U.fields i)&&!(P.stoodInHeld K)
   |none=>false
  |_=>false
 |_=>false
def Z9:Ty→List (Cell U)→Option (PV U)
 | .user _,cs=>some (.agg cs)
 |_,[c]=>some (.one c)
 |_,_=>none
def S5 (P:Program) (V:TypeId) (vt:Ty):Bool:=
 match P.info? V with
 |some i=>match i.zero with
  |some (.agg _)=>H4 vt
  |some _=>!(H4 vt)
  |none=>false
 |none=>false
def mget {α β:Type} (eq:α→α→Bool):List (α×β)→α→Option β
 |[],_=>none
 |(k,v)::r,x=>bif eq k x then some v else mget eq r x
def mput {α β:Type} (eq:α→α→Bool):List (α×β)→α→β→List (α×β)
 |[],x,y=>[(x,y)]
 |(k,v)::r,x,y=>bif eq k x then (x,y)::r else (k,v)::mput eq r x y
def ai1 (E:Env U) (dst:Option Tmp) (t:TypeId):Option (Eff U):=
 match E.P.underlying t with
 |some (.map K V)=>match E.code K with
  |some kt=>match E.code V with
   |some vt=>bif L8 U E.P K kt then some ⟨none,.one (.map (B5 dst 0)),[(B5 dst 0,.map kt vt [])]⟩ else none
   |none=>none
  |none=>none
 |_=>none
def bv1 (kt:Ty):PV U→Option (den U.T kt)
 | .one (.d x)=>if H4 kt then none else x.as kt
 | .agg cs=>if H4 kt then (match allD cs with
  |some ds=>mkE U kt ds
  |none=>none) else none
 |_=>none
def ao6 (E:Env U) (h:Obs U) (t:TypeId) (ok:Bool):PV U→PV U→Option (Eff U)
 | .one (.map id),x=>match look id h with
  |some (.map kt vt l)=>match E.P.underlying t with
   |some (.map K V)=>bif L8 U E.P K kt&&(E.code V==some vt&&S5 E.P V vt) then (match bv1 kt x with
    |some k=>match Z9 vt ((B4 U vt ((mget (E7 U kt) l k).getD (dfl U vt))).map .d) with
     |some v=>match ok with
      |false=>some (F9 v)
      |true=>match v with
       | .one c=>some (F9 (.tup [(false,[c]),(false,[.d ⟨.bool,(mget (E7 U kt) l k).isSome⟩])]))
       | .agg cs=>some (F9 (.tup [(true,cs),(false,[.d ⟨.bool,(mget (E7 U kt) l k).isSome⟩])]))
       |_=>none
     |none=>none
    |none=>none) else none
   |_=>none
  |_=>none
 |_,_=>none
def ab2 (E:Env U) (h:Obs U) (t:TypeId) (id v:Nat) (x:PV U):Option (Eff U):=
 match look id h with
 |some (.dp (.maps kt e t' _ ver iv true none))=>match E.P.underlying t with
  |some (.map K V)=>bif Nat.beq v ver&&L8 U E.P K kt&&((E.code V==some (.slice e t')&&S5 E.P V (.slice e t'))&&(match (S4 E.P V:Option (List (Cell U))) with
    |some [z]=>bv0 z
    |_=>false)) then (match bv1 kt x with
   |some k=>some (F9 (.one (.dc id (.key iv ⟨kt,k⟩))))
   |none=>none) else none
  |_=>none
 |_=>none
def ab3 (E:Env U) (h:Obs U) (dst:Option Tmp) (e:TypeId) (t:Ty) (id v:Nat) (d:Datum U) (x:PV U):Option (Eff U):=
 match x with
 | .one x=>match asD h (.slice e t) x with
  |some (dm,u)=>match dm.as (.slice e t) with
   |some m=>match look id h with
    |some (.dp (.maps kt e' t' l ver iv true none))=>match d.as kt with
     |some k=>bif Nat.beq v iv&&(e==e') then (match Datum.as (U:=U) (.slice e t) ⟨.slice e' t',(mget (E7 U kt) l k).getD []⟩ with
      |some l0=>if u.all (fun y=>!(Nat.beq y.1 id))&&!(Nat.beq id (B5 dst 0)) then some ⟨some ((List.length l0+List.length m)*O5 E.P e≤most),.one (.row (B5 dst 0) 0),u++[(id,.dp (.maps kt e' t' l ver (iv+1) true (some k))),(B5 dst 0,.row e t (l0++m) 0 true)]⟩ else none
      |none=>none) else none
     |none=>none
    |_=>none
   |none=>none
  |none=>none
 |_=>none
def az3 (E:Env U) (h:Obs U) (t:TypeId) (id v:Nat) (x y:PV U):Option (Eff U):=
 match look id h,y with
 |some (.dp (.maps kt e t' l ver iv true (some k'))),.one (.row r vr)=>match look r h with
  |some (.row e2 t2 l2 vr' true)=>match E.P.underlying t with
   |some (.map K V)=>bif Nat.beq v ver&&L8 U E.P K kt&&(Nat.beq vr vr'&&!(Nat.beq r id)) then (match bv1 kt x,Datum.as (U:=U) (.slice e t') ⟨.slice e2 t2,l2⟩ with
    |some k,some l2'=>some ⟨some (k'=k),.un,[(r,.row e2 t2 [] (vr'+1) true),(id,.dp (.maps kt e t' (mput (E7 U kt) l k l2') ver (iv+1) true none))]⟩
    |_,_=>none) else none
   |_=>none
  |_=>none
 |_,_=>none
def bp3 (vt:Ty):PV U→Bool
 | .one _=>!(H4 vt)
 | .agg _=>H4 vt
 |_=>false
def ao7 (E:Env U) (h:Obs U) (t:TypeId):PV U→PV U→PV U→Option (Eff U)
 | .one (.map id),x,y=>match look id h with
  |some (.map kt vt l)=>match E.P.underlying t with
   |some (.map K V)=>bif L8 U E.P K kt&&(E.code V==some vt&&S5 E.P V vt) then (match bv1 kt x with
    |some k=>match asE h vt y with
     |some (z,u)=>if u.all (fun y=>!(Nat.beq y.1 id))&&bp3 vt y then some ⟨none,.un,u++[(id,.map kt vt (mput (E7 U kt) l k z))]⟩ else none
     |none=>none
    |none=>none) else none
   |_=>none
  |_=>none
 |_,_,_=>none
def az4 (E:Env U) (h:Obs U) (dst:Option Tmp) (t:TypeId):PV U→Option (Eff U)
 | .one (.map id)=>match look id h with
  |some (.map kt vt l)=>match E.P.underlying t with
   |some (.map _ _)=>if Nat.beq id (B5 dst 0) then none else some ⟨none,.one (.dc (B5 dst 0) (.it id)),[(B5 dst 0,.dp (.iter (some id) kt vt l.length [] 0))]⟩
   |_=>none
  |_=>none
 |_=>none
def az5 (h:Obs U):PV U→Option (Eff U)
 | .one (.dc id (.it mid))=>match look id h,look mid h with
  |some (.dp (.iter (some mid') kt vt n seen cur)),some (.map kt' vt' l)=>if Nat.beq mid mid'&&kt==kt'&&vt==vt' then (match Z9 kt' ((B4 U kt' ((l.map (·.1)).getD cur (dfl U kt'))).map .d),Z9 vt' ((B4 U vt' ((l.map (·.2)).getD cur (dfl U vt'))).map .d) with
   |some k,some v=>match U1 k,U1 v with
    |some kc,some vc=>some ⟨some (l.length=n∧seen.getLast? =some cur∧cur<n),.tup [(H4 kt',kc),(H4 vt',vc)],[]⟩
    |_,_=>none
   |_,_=>none) else none
  |_,_=>none
 |_=>none
def aY2:List (PV U)→Option (List Nat)
 |[]=>some []
 | .one (.ptr id off)::r=>bif Nat.beq off 0 then (aY2 r).map (id::·) else none
 |_::_=>none
def aQ8 (f:Fn) (vs:List (PV U)):Option (Eff U):=
 match f with
 | .func f=>match aY2 vs with
  |some ids=>match ids with
   |[]=>some (F9 (.one (.lit (.func (.func f) #[] #[]))))
   |ids=>some (F9 (.one (.clo f ids)))
  |none=>none
 |_=>none
def az6 (E:Env U) (t:TypeId) (v:PV U):Option (Eff U):=
 match E.P.underlying t with
 |some (.interface _)=>none
 |some _=>match v with
  | .one c=>(allD [c]).map fun ds=>F9 (.one (.ifc t false ds))
  | .agg cs=>(allD cs).map fun ds=>F9 (.one (.ifc t true ds))
  |_=>none
 |none=>none
structure Mt (U:Univ) where
 ι:List (Nat×Nat)
 ds:List (Nat×Datum U)
 u:Obs U
def aQ9 (j id:Nat) (m:Mt U):Option (Mt U):=
 match look j m.ι with
 |some id'=>bif Nat.beq id' id then some m else none
 |none=>bif m.ι.any (fun x=>Nat.beq x.2 id) then none else some ⟨m.ι++[(j,id)],m.ds,m.u⟩
def aB5:List Nat→List Nat→Mt U→Option (Mt U)
 |[],[],m=>some m
 |j::js,id::ids,m=>match aQ9 j id m with
  |some m=>aB5 js ids m
  |none=>none
 |_,_,_=>none
def aY3 (k:Nat) (x:Datum U) (m:Mt U):Option (Mt U):=
 match look k m.ds with
 |some _=>none
 |none=>some ⟨m.ι,m.ds++[(k,x)],m.u⟩
def mC (h:Obs U) (tys:List Ty) (p:CPat) (c:Cell U) (m:Mt U):Option (Mt U):=
 match p with
 | .un=>some m
 | .d k=>match tys[k]? with
  |some t=>match asD h t c with
   |some (x,u)=>aY3 k x ⟨m.ι,m.ds,m.u++u⟩
   |none=>none
  |none=>none
 | .row j=>match c with
  | .row id ver=>match look id h with
   |some (.row _ _ _ ver' lv)=>bif Nat.beq ver ver'&&lv then aQ9 j id m else none
   |_=>none
  |_=>none
 | .ptr j off=>match c with
  | .ptr id off'=>bif Nat.beq off off' then aQ9 j id m else none
  |_=>none
 | .map j=>match c with
  | .map id=>aQ9 j id m
  |_=>none
 | .clo f js=>match c with
  | .clo f' ids=>bif Nat.beq f f' then aB5 js ids m else none
  |_=>none
 | .yld j=>match c with
  | .yld id=>aQ9 j id m
  |_=>none
 | .fn f=>match c with
  | .lit (.func (.func f') a b)=>bif Nat.beq f f'&&(Nat.beq a.size 0&&Nat.beq b.size 0) then some m else none
  |_=>none
 | .nil=>match c with
  | .lit (.slice none n c')=>bif Nat.beq n 0&&Nat.beq c' 0 then some m else none
  |_=>none
 | .dp j=>match c with
  | .dc id (.self v)=>match look id h with
   |some (.dp (.rows _ _ _ _ ver _ true none))=>bif Nat.beq v ver then aQ9 j id m else none
   |_=>none
  |_=>none
 | .ms j=>match c with
  | .dc id (.self v)=>match look id h with
   |some (.dp (.maps _ _ _ _ ver _ true none))=>bif Nat.beq v ver then aQ9 j id m else none
   |_=>none
  |_=>none
def mCs (h:Obs U) (tys:List Ty):List CPat→List (Cell U)→Mt U→Option (Mt U)
 |[],[],m=>some m
 |p::ps,c::cs,m=>match mC h tys p c m with
  |some m=>mCs h tys ps cs m
  |none=>none
 |_,_,_=>none
def mO (h:Obs U) (tys:List Ty) (p:OPat) (o:Ob U) (m:Mt U):Option (Mt U):=
 match p with
 | .box e cs=>match o with
  | .box e' cells=>bif Nat.beq e e' then mCs h tys cs cells m else none
  |_=>none
 | .row k=>match o with
  | .row e t l _ lv=>bif lv&&tys[k]? ==some (.slice e t) then aY3 k ⟨.slice e t,l⟩ m else none
  |_=>none
 | .map k=>match o with
  | .map kt vt l=>bif tys[k]? ==some (.map kt vt) then aY3 k ⟨.map kt vt,l⟩ m else none
  |_=>none
 | .loop k=>match o with
  | .loop st=>bif tys[k]? ==some (.int .i64) then aY3 k ⟨.int .i64,st⟩ m else none
  |_=>none
 | .dp k ms=>match o with
  | .dp (.rows e t ms' l _ _ true none)=>bif tys[k]? ==some (.slice e t)&&(ms==ms') then aY3 k ⟨.slice e t,l⟩ m else none
  |_=>none
 | .ms k=>match o with
  | .dp (.maps kt e t l _ _ true none)=>bif tys[k]? ==some (.map kt (.slice e t)) then aY3 k ⟨.map kt (.slice e t),l⟩ m else none
  |_=>none
def mOs (h:Obs U) (tys:List Ty):Nat→List OPat→Mt U→Option (Mt U)
 |_,[],m=>some m
 |j,p::r,m=>match look j m.ι with
  |some id=>match look id h with
   |some o=>match mO h tys p o m with
    |some m=>mOs h tys (j+1) r m
    |none=>none
   |none=>none
  |none=>none
def aL0 {α:Type} (l:List (Nat×α)):Nat→Nat→Option (List α)
 |_,0=>some []
 |k,c+1=>match look k l with
  |some x=>(aL0 l (k+1) c).map (x::·)
  |none=>none
def iC (ds:List (Datum U)) (ι vr:Nat→Nat):CPat→Cell U
 | .un=>.un
 | .d k=>match ds[k]? with
  |some x=>.d x
  |none=>.un
 | .row j=>.row (ι j) (vr j)
 | .ptr j off=>.ptr (ι j) off
 | .map j=>.map (ι j)
 | .clo f js=>.clo f (js.map ι)
 | .yld j=>.yld (ι j)
 | .fn f=>.lit (.func (.func f) #[] #[])
 | .nil=>.lit (.slice none 0 0)
 | .dp j=>.dc (ι j) (.self (vr j))
 | .ms j=>.dc (ι j) (.self (vr j))
def iO (ds:List (Datum U)) (ι vr:Nat→Nat) (j:Nat):OPat→Ob U
 | .box e cs=>.box e (cs.map (iC ds ι vr))
 | .row k=>match ds[k]? with
  |some ⟨.slice e t,l⟩=>.row e t l (vr j) true
  |_=>.box 0 []
 | .map k=>match ds[k]? with
  |some ⟨.map kt vt,l⟩=>.map kt vt l
  |_=>.box 0 []
 | .loop k=>match ds[k]? with
  |some ⟨.int _,st⟩=>.loop st
  |_=>.box 0 []
 | .dp k ms=>match ds[k]? with
  |some ⟨.slice e t,l⟩=>.dp (.rows e t ms l (vr j) (vr j) true none)
  |_=>.box 0 []
 | .ms k=>match ds[k]? with
  |some ⟨.map kt (.slice e t),l⟩=>.dp (.maps kt e t l (vr j) (vr j) true none)
  |_=>.box 0 []
def iOs (ds:List (Datum U)) (ι vr:Nat→Nat):Nat→List OPat→Obs U
 |_,[]=>[]
 |j,p::r=>(ι j,iO ds ι vr j p)::iOs ds ι vr (j+1) r
def oid (j:Nat):Nat:=1000000+j
def bQ7 (h:Obs U) (id:Nat):Nat:=match look id h with
 |some (.row _ _ _ v _)=>v+1
 |some (.dp (.rows _ _ _ _ v iv _ _))=>Nat.max v iv+1
 |some (.dp (.maps _ _ _ _ v iv _ _))=>Nat.max v iv+1
 |_=>0
def H2 (a b:List Ty):OPat→OPat→Bool
 | .box e _,.box e' _=>Nat.beq e e'
 | .row k,.row k'=>a[k]? ==b[k']?
 | .map k,.map k'=>a[k]? ==b[k']?
 | .loop _,.loop _=>true
 | .dp k ms,.dp k' ms'=>a[k]? ==b[k']? &&(ms==ms')
 | .ms k,.ms k'=>a[k]? ==b[k']?
 |_,_=>false
def av8 (a b:List Ty):List OPat→List OPat→Bool
 |[],_=>true
 |p::ps,q::qs=>H2 a b p q&&av8 a b ps qs
 |_::_,[]=>false
def bv2:List (Nat×Nat)→Bool
 |[]=>true
 |x::r=>r.all (fun y=>!(Nat.beq x.1 y.1)&&!(Nat.beq x.2 y.2))&&bv2 r
def bD9 (h:Obs U) (params tys:List Ty) (ain:List CPat) (oin oout:List OPat) (gh:List (Nat×Nat)) (cs:List (Cell U)):Option (Dens U.T params×Mt U):=
 match bif bv2 gh then mCs h params ain cs ⟨gh,[],[]⟩ else none with
 |some m=>match mOs h params 0 oin m with
  |some m=>bif (m.ι.all fun x=>Nat.blt x.1 oin.length)&&av8 params tys oin oout&&!(Z8 (m.ι.map (·.2)) (keys m.u)) then (match aL0 m.ds 0 params.length with
   |some ds=>match av7 U params ds with
    |some xs=>some (xs,m)
    |none=>none
   |none=>none) else none
  |none=>none
 |none=>none
def ao8 (h:Obs U) (k:Con U) (cs:List (Cell U)):Option (Dens U.T k.params×Mt U):=bD9 h k.params k.tys k.ain k.oin k.oout k.gh cs
def ae7 (m:Mt U) (dst:Option Tmp) (n j:Nat):Nat:=match look j m.ι with
 |some id=>id
 |none=>B5 dst (j-n)
def aK2 (h:Obs U) (m:Mt U) (j:Nat):Nat:=match look j m.ι with
 |some id=>bQ7 h id
 |none=>0
def ca1 (gs:List (Bool×Nat)) (rs:List (Cell U)):Option (PV U):=match D5 gs rs with
 |[(b,g)]=>aB2 b g
 |gs=>some (.tup gs)
structure CallE (U:Univ) where
 e:Eff U
 news:List Nat
 pan:Option (Bool×PanV U)
 lost:List Nat
def eqD (x y:Datum U) (q:Prop):Prop:=
 match x.as y.1 with
 |some v=>v=y.2∧q
 |none=>False
def eqDC:DC U→DC U→Prop→Prop
 | .self v,.self v',q=>bif Nat.beq v v' then q else False
 | .elt v i o,.elt v' i' o',q=>bif Nat.beq v v'&&Nat.beq o o' then i=i'∧q else False
 | .inn v i j,.inn v' i' j',q=>bif Nat.beq v v'&&Nat.beq j j' then i=i'∧q else False
 | .iat v i j k o,.iat v' i' j' k' o',q=>bif Nat.beq v v'&&Nat.beq j j'&&Nat.beq o o' then i=i'∧k=k'∧q else False
 | .it a,.it a',q=>bif Nat.beq a a' then q else False
 |_,_,_=>False
def bE0:Deep U→Deep U→Prop→Prop
 | .rows e t m l ver iv lv none,.rows e' t' m' l' ver' iv' lv' none,q=>bif (m==m')&&Nat.beq ver ver'&&Nat.beq iv iv'&&(lv==lv') then eqD ⟨.slice e t,l⟩ ⟨.slice e' t',l'⟩ q else False
 | .maps kt e t l ver iv lv none,.maps kt' e' t' l' ver' iv' lv' none,q=>bif Nat.beq ver ver'&&Nat.beq iv iv'&&(lv==lv') then eqD ⟨.map kt (.slice e t),l⟩ ⟨.map kt' (.slice e' t'),l'⟩ q else False
 | .iter (some a) k v n s c,.iter (some a') k' v' n' s' c',q=>bif Nat.beq a a'&&(k==k')&&(v==v') then n=n'∧s=s'∧c=c'∧q else False
 |_,_,_=>False
def eqC:Cell U→Cell U→Prop→Prop
 | .un,.un,q=>q
 | .d x,.d y,q=>eqD x y q
 | .row a b,.row a' b',q=>bif Nat.beq a a'&&Nat.beq b b' then q else False
 | .ptr a b,.ptr a' b',q=>bif Nat.beq a a'&&Nat.beq b b' then q else False
 | .rd cs o,.rd cs' o',q=>cs=cs'∧o=o'∧q
 | .gl a,.gl a',q=>bif Nat.beq a a' then q else False
 | .lit (.slice none 0 0),.lit (.slice none 0 0),q=>q
 | .lit a,.lit a',q=>a=a'∧q
 | .map a,.map a',q=>bif Nat.beq a a' then q else False
 | .yld a,.yld a',q=>bif Nat.beq a a' then q else False
 | .clo f a,.clo f' a',q=>bif Nat.beq f f'&&(a==a') then q else False
 | .bnd f a,.bnd f' a',q=>bif Nat.beq f f'&&Nat.beq a a' then q else False
 | .dc id c,.dc id' c',q=>bif Nat.beq id id' then eqDC c c' q else False
 |_,_,_=>False
def eqCs:List (Cell U)→List (Cell U)→Prop→Prop
 |[],[],q=>q
 |x::r,y::r',q=>eqC x y (eqCs r r' q)
 |_,_,_=>False
def eqO:Ob U→Ob U→Prop→Prop
 | .box e x,.box e' y,q=>bif Nat.beq e e' then eqCs x y q else False
 | .row e t l ver lv,.row e' t' l' ver' lv',q=>bif Nat.beq ver ver'&&(lv==lv') then eqD ⟨.slice e t,l⟩ ⟨.slice e' t',l'⟩ q else False
 | .map k v l,.map k' v' l',q=>eqD ⟨.map k v,l⟩ ⟨.map k' v',l'⟩ q
 | .loop st,.loop st',q=>st=st'∧q
 | .dp D,.dp D',q=>bE0 D D' q
 |_,_,_=>False
def andO:Option Prop→Prop→Option Prop
 |none,q=>some q
 |some p,q=>some (p∧q)
def trim (h:Obs U) (ids:List Nat):Obs U→List Nat→Option Prop×Obs U→Option Prop×Obs U
 |[],_,r=>r
 |(id,o)::u,seen,r=>match bif ids.any (Nat.beq id)&&!(seen.any (Nat.beq id)) then look id h else none with
  |some o'=>trim h ids u seen (andO r.1 (eqO o' o True),r.2)
  |none=>trim h ids u (id::seen) (r.1,r.2++[(id,o)])
def ylOk (h:Obs U) (yl:List (Nat×Nat)) (m:Mt U) (kl:List (Nat×Nat)):Bool:=
 kl.all fun x=>match look x.1 yl with
  |some i=>(match look x.2 m.ι with
   |some id=>Nat.beq id (oid i)
   |none=>false)&&(match look (oid i) h with
   |some o=>!o.isRow
   |none=>false)
  |none=>false
def ab4 (h:Obs U) (yl:List (Nat×Nat)) (dst:Option Tmp) (k:Con U) (vs:List (PV U)):Option (CallE U):=
 match F7 k.args vs with
 |some cs=>match ao8 h k cs with
  |some (xs,m)=>match bif ylOk h yl m k.yl then ca1 k.res (k.rout.map (iC (A9 U k.tys (k.fn xs)) (ae7 m dst k.oin.length) (aK2 h m))) else none with
   |some v=>some ⟨⟨k.pre.map (fun p=>p xs),v,m.u++iOs (A9 U k.tys (k.fn xs)) (ae7 m dst k.oin.length) (aK2 h m) 0 k.oout⟩,(List.range (k.oout.length-k.oin.length)).map (B5 dst),k.bad.map (fun b=>b xs),k.kept.map (ae7 m dst k.oin.length)⟩
   |none=>none
  |none=>none
 |none=>none
def scal:Ty→Bool
 | .int _=>true
 | .bool=>true
 |_=>false
def ca2 (k:Con U):Bool:=k.oin.isEmpty&&k.oout.isEmpty&&k.bad.isNone&&k.tys.all scal&&k.rout.all fun c=>match c with
 | .d _=>true
 |_=>false
def ae8 (h:Obs U) (yl:List (Nat×Nat)) (dst:Option Tmp) (k:Con U) (vs:List (PV U)):Option (CallE U):=
 match ab4 h yl dst k vs with
 |some c=>match c.lost with
  |[]=>bif ca2 k then some ⟨⟨c.e.obl,c.e.val,[]⟩,c.news,none,[]⟩ else some c
  |ids=>match trim h ids c.e.upd [] (c.e.obl,[]) with
   |r=>some ⟨⟨r.1,c.e.val,r.2⟩,c.news,c.pan,ids⟩
 |none=>none
def ae9 (h:Obs U) (yl:List (Nat×Nat)) (dst:Option Tmp) (vs:List (PV U)):List (Con U)→Option (CallE U)
 |[]=>none
 |k::r=>match ae8 h yl dst k vs with
  |some e=>some e
  |none=>ae9 h yl dst vs r
def ao9:PV U→Option (FuncId×List Nat)
 | .one (.lit (.func (.func f) a b))=>bif Nat.beq a.size 0&&Nat.beq b.size 0 then some (f,[]) else none
 | .one (.clo f ids)=>some (f,ids)
 |_=>none
def act (E:Env U) (h:Obs U) (o:Oper) (vs:List (PV U)):Option (Eff U):=
 match o.op with
 | .move _=>match vs with
  |[v]=>some (F9 v)
  |_=>none
 | .assign _=>match vs with
  |[v]=>some (F9 v)
  |_=>none
 | .alloc t=>match (S4 E.P t:Option (List (Cell U))) with
  |some cs=>some ⟨none,.one (.ptr (B5 o.dst 0) 0),[(B5 o.dst 0,.box t cs)]⟩
  |none=>none
 | .box t _=>match vs with
  |[v]=>match U1 v with
   |some cs=>some ⟨none,.one (.ptr (B5 o.dst 0) 0),[(B5 o.dst 0,.box t cs)]⟩
   |none=>none
  |_=>none
 | .build t parts=>ay9 E t ((parts.toList.map (·.1)).zip vs)
 | .buildSlice t len parts=>match o.guard with
  |none=>match dpOf E t with
   |some (e,m)=>ai0 E h o.dst e m len ((parts.toList.map (·.1)).zip vs)
   |none=>U4 E h o.dst t len ((parts.toList.map (·.1)).zip vs)
  |some _=>X2 E h t len ((parts.toList.map (·.1)).zip vs)
 | .load t _=>match vs with
  |[v]=>aQ1 E h t v
  |_=>none
 | .store t _ _=>match vs with
  |[a,v]=>az0 E h t a v
  |_=>none
 | .nilCheck _=>match vs with
  |[.one (.ptr id off)]=>some (F9 (.one (.ptr id off)))
  |[.one (.rd cs off)]=>some (F9 (.one (.rd cs off)))
  |[.one (.elt id ver i off)]=>match look id h with
   |some (.row _ _ _ ver' _)=>if Nat.beq ver ver' then some (F9 (.one (.elt id ver i off))) else none
   |_=>none
  |[.one (.dc id c)]=>match look id h with
   |some (.dp D)=>(D.at_ c 0).map fun c=>F9 (.one (.dc id c))
   |_=>none
  |_=>none
 | .binOp op t _ _ _=>match vs with
  |[x,y]=>bo9 E op t x y
  |_=>none
 | .unOp op _ _=>match vs with
  |[x]=>bQ6 op x
  |_=>none
 | .convert t0 t _=>match vs with
  |[x]=>match E.P.underlying t0 with
   |some _=>aQ2 E t x
   |none=>none
  |_=>none
 | .slice t _ lo hi mx=>match mx with
  |none=>az2 E h t lo.isSome hi.isSome vs
  |some _=>bif lo.isNone&&hi.isSome then ao4 E h t vs else none
 | .makeSlice t x y=>match vs with
  |[v,_]=>bif aB4 x y then (match dpOf E t with
   |some (e,m)=>ao5 E o.dst e m v
   |none=>aQ6 E o.dst t v) else none
  |_=>none
 | .fieldAddr s _ f=>match vs with
  |[x]=>X3 E h s f x
  |_=>none
 | .field s _ f=>match vs with
  |[x]=>az1 E s f x
  |_=>none
 | .indexAddr ty _ _=>match vs with
  |[x,i]=>X4 E h ty x i
  |_=>none
 | .extract _ i=>match vs with
  |[x]=>ah9 i x
  |_=>none
 | .makeMap t none=>ai1 E o.dst t
 | .lookup t _ _ ok=>match vs with
  |[m,k]=>match m with
   | .one (.dc id (.self v))=>if ok then none else ab2 E h t id v k
   |m=>ao6 E h t ok m k
  |_=>none
 | .mapUpdate t _ _ _=>match vs with
  |[m,k,v]=>match m with
   | .one (.dc id (.self v0))=>az3 E h t id v0 k v
   |m=>ao7 E h t m k v
  |_=>none
 | .range t _=>match vs with
  |[v]=>az4 E h o.dst t v
  |_=>none
 | .entry _=>match vs with
  |[v]=>az5 h v
  |_=>none
 | .makeFunc f first caps=>bif Nat.beq first.size 0 then aQ8 f vs else (match f,caps.size,vs with
  | .func f,0,[.one (.ptr id 0)]=>some (F9 (.one (.bnd f id)))
  |_,_,_=>none)
 | .makeInterface t _=>match vs with
  |[v]=>az6 E t v
  |_=>none
 | .call c=>match c.callee with
  | .builtin .len=>match vs with
   |[x]=>match c.argTypes.toList with
    |t::_=>match E.P.underlying t with
     |some (.slice _)=>bp0 h x
     |some (.map _ _)=>aQ3 h x
     |_=>none
    |[]=>none
   |_=>none
  | .builtin .min=>match vs with
   |[x,y]=>bp1 x y
   |_=>none
  | .builtin .max=>match vs with
   |[x,y]=>bp2 x y
   |[x,y,z]=>aQ4 x y z
   |_=>none
  | .builtin .copy=>match vs with
   |[s,x]=>match c.argTypes.toList with
    |[st,_]=>match E.P.underlying st with
     |some (.slice e)=>match E.code e with
      |some t=>aQ5 E h e t s x
      |none=>none
     |_=>none
    |_=>none
   |_=>none
  | .builtin .append=>match vs with
   |[s,x]=>match c.argTypes.toList with
    |[st,st2]=>bif Nat.beq st st2 then (match E.P.underlying st with
     |some (.slice e)=>match E.code e with
      |some t=>match s with
       | .one (.dc id (.self v))=>ab1 E h e t (.one (.dc id (.self v))) x
       | .one (.dc id (.key v d))=>ab3 E h o.dst e t id v d x
       |s=>ao3 E h o.dst e t s x
      |none=>none
     |_=>none) else none
    |_=>none
   |_=>none
  |_=>none
 |_=>none
end
end Go.VT
end
section
namespace Go.VT
noncomputable section
def X5 (o:Oper):Bool:=match o.op with
 | .call c=>match c.callee with
  | .builtin .append=>true
  |_=>false
 |_=>false
def bp4 (o:Oper):Option (Nat×Option TypeId):=match o.op with
 | .move (.tmp s)=>some (s,none)
 | .call c=>match c.callee with
  | .builtin .len=>match c.args.toList,c.argTypes.toList with
   |[.tmp s],[t]=>some (s,some t)
   |_,_=>none
  |_=>none
 |_=>none
def ap0 (o:Oper):List Nat:=match o.op with
 | .call c=>c.args.toList.flatMap fun x=>match x with
  | .tmp t=>[t]
  |_=>[]
 |_=>[]
def aR0 (P:Program) (t:TypeId):Bool:=match P.underlying t with
 |some (.slice _)=>true
 |_=>false
def bv3 (P:Program) (x y:Oper):Bool:=X5 x&&(match x.guard,y.guard with
 |none,none=>true
 |_,_=>false)&&(match x.dst,y.dst,bp4 y with
 |some dx,some dy,some (s,t)=>!(Nat.beq dx dy)&&!(Nat.beq s dx)&&(ap0 x).all (fun r=>!(Nat.beq r dy))&&(match t with
  |some t=>aR0 P t
  |none=>true)
 |_,_,_=>false)
def sink (P:Program) (x:Oper):List Oper→List Oper
 |[]=>[x]
 |y::r=>bif bv3 P x y then y::sink P x r else x::y::r
def ak1 (P:Program):List Oper→List Oper
 |[]=>[]
 |x::r=>bif X5 x then sink P x (ak1 P r) else x::ak1 P r
def I6 (ops:List Oper):Bool:=ops.all fun o=>o.guard.isNone
def bE1:List Oper→Bool
 |y::r=>match bp4 y with
  |some (_,some _)=>true
  |some (_,none)=>bE1 r
  |none=>false
 |[]=>false
def aY4:List Oper→Bool
 |x::r=>(X5 x&&bE1 r)||aY4 r
 |[]=>false
def wpL (G:Fence) (P:Program) (K:Act→World→Prop):List Oper→Act→World→Prop
 |[],a,w=>K a w
 |o::r,a,w=>o.wpIn G 0 P a w (wpL G P K r) (fun _ _ _=>False)
variable {G:Fence} {P:Program} {K:Act→World→Prop}
theorem aR1 {o:Oper} {l l':List Oper} (h:∀ a w,wpL G P K l a w→wpL G P K l' a w) {a:Act} {w:World} (hw:wpL G P K (o::l) a w):wpL G P K (o::l') a w:=
 Oper.wpIn_mono h hw
theorem bp5 {a:Act} {d t:Nat} {v:Value} (h:t≠d):(a.put (some d) v).eval (.tmp t)=a.eval (.tmp t):=by
 simp only [Act.put,Act.eval,Array.getD_eq_getD_getElem?,Array.getElem?_setIfInBounds]
 rw [if_neg (fun hh=>h hh.symm)]
theorem bQ8 {a:Act} {d d':Nat} {v v':Value} (h:d≠d'):(a.put (some d) v).put (some d') v'=(a.put (some d') v').put (some d) v:=by
 simp only [Act.put]
 rw [Array.setIfInBounds_comm v v' h]
theorem bE2 {x:Oper} (hx:X5 x=true) {a:Act} {w:World} {K:Act→World→Prop} (h:x.wpIn G 0 P a w K (fun _ _ _=>False)):
  ∃ v w',K (a.put x.dst v) w'∧∀ (a2:Act) (K2:Act→World→Prop),(∀ t∈ap0 x,a2.eval (.tmp t)=a.eval (.tmp t))→K2 (a2.put x.dst v) w'→x.wpIn G 0 P a2 w K2 (fun _ _ _=>False):=by
 unfold X5 at hx
 split at hx
 case h_2=>cases hx
 rename_i c hop
 split at hx
 case h_2=>cases hx
 rename_i hcal
 have hsem:∀ a:Act,x.semAt G.round a.eval=(do pure (.value (←Builtin.append_ c.argTypes x.type (c.args.map a.eval)))):=by
  intro a
  rw [Oper.semAt_eq _ _ _ (fun d=>by rw [hop];intro hh;cases hh)]
  simp only [execOp,hop,resolve,hcal,invoke,builtin]
  rfl
 have habout:∀ (a:Act) (w:World),x.about P w a.eval=none:=by
  intro a w
  simp [Oper.about,hop,resolve,hcal,Target.leads]
 obtain ⟨_,h⟩:=h
 rw [hsem] at h
 simp only [Sem.run_bind] at h
 cases hr:(Builtin.append_ c.argTypes x.type (c.args.map a.eval)).run P w with
 |halt e w'=>
  rw [hr] at h
  cases e<;>simp [Result.andThen,Oper.uponIn] at h
 |ok v w'=>
  rw [hr] at h
  refine ⟨v,w',by simpa [Result.andThen,Oper.uponIn] using h,fun a2 K2 hs hk=>⟨fun f hf=>(by rw [habout] at hf;cases hf),?_⟩⟩
  have hargs:c.args.map a2.eval=c.args.map a.eval:=by
   apply Array.map_congr_left
   intro y hy
   cases y with
   |tmp t=>exact hs t (by simp only [ap0,hop,List.mem_flatMap];exact ⟨.tmp t,by simpa using hy,by simp⟩)
   |const _=>rfl
   |global _=>rfl
   |func _=>rfl
  rw [hsem,hargs]
  simp only [Sem.run_bind,hr]
  simpa [Result.andThen,Oper.uponIn] using hk
theorem ca3 {y:Oper} {s:Nat} {t:Option TypeId} (hy:bp4 y=some (s,t)) (ht:∀ t',t=some t'→aR0 P t'=true) {a:Act} {w:World} {K:Act→World→Prop} (h:y.wpIn G 0 P a w K (fun _ _ _=>False)):
  ∃ v,K (a.put y.dst v) w∧∀ (a2:Act) (w2:World) (K2:Act→World→Prop),a2.eval (.tmp s)=a.eval (.tmp s)→K2 (a2.put y.dst v) w2→y.wpIn G 0 P a2 w2 K2 (fun _ _ _=>False):=by
 unfold bp4 at hy
 split at hy
 ·rename_i s' hop
  simp only [co4,cp6] at hy
  obtain ⟨rfl,rfl⟩:=hy
  have hsem:∀ a:Act,y.semAt G.round a.eval=pure (.value (a.eval (.tmp s'))):=by
   intro a
   rw [Oper.semAt_eq _ _ _ (fun d=>by rw [hop];intro hh;cases hh)]
   simp only [execOp,hop]
  have habout:∀ (a:Act) (w:World),y.about P w a.eval=none:=by
   intro a w
   simp [Oper.about,hop]
  obtain ⟨_,h⟩:=h
  rw [hsem] at h
  refine ⟨a.eval (.tmp s'),by simpa [Oper.uponIn] using h,fun a2 w2 K2 hs hk=>⟨fun f hf=>(by rw [habout] at hf;cases hf),?_⟩⟩
  rw [hsem,hs]
  simpa [Oper.uponIn] using hk
 ·rename_i c hop
  split at hy
  case h_2=>cases hy
  rename_i hcal
  split at hy
  case h_2=>cases hy
  rename_i s' t' hargs hts
  simp only [co4,cp6] at hy
  obtain ⟨rfl,rfl⟩:=hy
  have hsl:=ht t' rfl
  unfold aR0 at hsl
  split at hsl
  case h_2=>cases hsl
  rename_i el hu
  have hA:c.args=#[.tmp s']:=by rw [←Array.toList_inj];exact hargs
  have hT:c.argTypes=#[t']:=by rw [←Array.toList_inj];exact hts
  have hsem0:∀ a:Act,y.semAt G.round a.eval=(do pure (.value (←Builtin.len_ c.argTypes y.type (c.args.map a.eval)))):=by
   intro a
   rw [Oper.semAt_eq _ _ _ (fun d=>by rw [hop];intro hh;cases hh)]
   simp only [execOp,hop,resolve,hcal,invoke,builtin]
   rfl
  have hsem:∀ a:Act,y.semAt G.round a.eval=(do pure (.value (←Builtin.len_ #[t'] y.type #[a.eval (.tmp s')]))):=by
   intro a
   rw [hsem0,hA,hT]
   simp
  have habout:∀ (a:Act) (w:World),y.about P w a.eval=none:=by
   intro a w
   simp [Oper.about,hop,resolve,hcal,Target.leads]
  obtain ⟨_,h⟩:=h
  rw [hsem] at h
  simp only [Sem.run_bind] at h
  have hv:∃ A n c',a.eval (.tmp s')=.slice A n c':=by
   cases hval:a.eval (.tmp s')<;>first|exact ⟨_,_,_,rfl⟩|(rw [hval] at h;simp [Builtin.len_,run_underlying hu,Result.andThen,Oper.uponIn] at h)
  obtain ⟨A,n,c',hval⟩:=hv
  have hrun:∀ w,(Builtin.len_ #[t'] y.type #[.slice A n c']).run P w=.ok (goInt n) w:=by
   intro w
   simp [Builtin.len_,run_underlying hu]
  rw [hval,hrun] at h
  refine ⟨goInt n,by simpa [Result.andThen,Oper.uponIn] using h,fun a2 w2 K2 hs hk=>⟨fun f hf=>(by rw [habout] at hf;cases hf),?_⟩⟩
  rw [hsem,hs,hval]
  simp only [Sem.run_bind,hrun]
  simpa [Result.andThen,Oper.uponIn] using hk
 ·cases hy
theorem ca4 {x y:Oper} {r:List Oper} (hs:bv3 P x y=true) {a:Act} {w:World} (h:wpL G P K (y::x::r) a w):wpL G P K (x::y::r) a w:=by
 unfold bv3 at hs
 simp only [co7] at hs
 obtain ⟨⟨hx,_⟩,hs⟩:=hs
 split at hs
 case h_2=>cases hs
 rename_i dx dy s t hdx hdy hy
 simp only [co7,Bool.not_eq_true',cr4] at hs
 obtain ⟨⟨⟨h1,h2⟩,h3⟩,h4⟩:=hs
 have hne:dx≠dy:=fun hh=>by rw [hh,Nat.beq_refl] at h1;cases h1
 have hsd:s≠dx:=fun hh=>by rw [hh,Nat.beq_refl] at h2;cases h2
 have hrd:∀ q∈ap0 x,q≠dy:=fun q hq hh=>by have:=h3 q hq;rw [hh,Nat.beq_refl] at this;cases this
 have ht:∀ t',t=some t'→aR0 P t'=true:=fun t' hh=>by subst hh;exact h4
 obtain ⟨vy,hky,hay⟩:=ca3 hy ht (show y.wpIn G 0 P a w (wpL G P K (x::r)) _ from h)
 obtain ⟨vx,w',hkx,hax⟩:=bE2 hx (show x.wpIn G 0 P (a.put y.dst vy) w (wpL G P K r) _ from hky)
 rw [hdy,hdx] at hkx
 refine hax a _ (fun q hq=>by rw [hdy,bp5 (hrd q hq)]) ?_
 refine hay _ _ _ (by rw [hdx,bp5 hsd]) ?_
 rw [hdx,hdy,bQ8 hne]
 exact hkx
theorem bE3 {x:Oper}:∀ {l:List Oper} {a:Act} {w:World},wpL G P K (sink P x l) a w→wpL G P K (x::l) a w
 |[],a,w,h=>h
 |y::r,a,w,h=>by
  simp only [sink] at h
  cases hs:bv3 P x y with
  |false=>rw [hs] at h;exact h
  |true=>
   rw [hs] at h
   exact ca4 hs (aR1 (fun a w h=>bE3 h) h)
theorem aR2:∀ {l:List Oper} {a:Act} {w:World},wpL G P K (ak1 P l) a w→wpL G P K l a w
 |[],a,w,h=>h
 |x::r,a,w,h=>by
  simp only [ak1] at h
  cases hx:X5 x with
  |false=>rw [hx] at h;exact aR1 (fun a w h=>aR2 h) h
  |true=>rw [hx] at h;exact aR1 (fun a w h=>aR2 h) (bE3 h)
theorem bp6 {ops:Array Oper} (hg:I6 ops.toList=true):∀ (m k:Nat),k+m=ops.size→∀ {a:Act} {w:World},
  (wpOpsIn G 0 P ops (fun e a w=>match e with| .normal=>K a w|_=>False) (List.range' k m) a w↔wpL G P K (ops.toList.drop k) a w)
 |0,k,hk,a,w=>by
  rw [List.drop_eq_nil_of_le (by simp;omega)]
  rfl
 |m+1,k,hk,a,w=>by
  have hlt:k<ops.toList.length:=by simp;omega
  rw [List.drop_eq_getElem_cons hlt,List.range'_succ]
  have hgo:ops.toList[k].guard=none:=by
   have:=cr4.1 hg ops.toList[k] (List.getElem_mem hlt)
   simpa using this
  have hget:ops[k]? =some ops.toList[k]:=by simp
  have hwant:∀ y,Region.wanted ops.toList[k] y=true:=fun y=>by unfold Region.wanted;rw [hgo]
  simp only [wpOpsIn,hget,hwant,if_true,wpL]
  constructor
  ·intro h
   refine Oper.wpIn_mono (fun a w h=>(bp6 hg m (k+1) (by omega)).1 h) ?_
   refine ⟨h.1,?_⟩
   have h:=h.2
   generalize (ops.toList[k].semAt G.round a.eval).run P w=r at*
   cases r with
   |ok z w'=>cases z<;>simp only [Oper.uponIn] at h ⊢<;>first|exact h|exact ⟨h.1,CallsIn.mono h.2 (fun e w'' he=>by cases e<;>first|exact he|exact he.elim)⟩|exact ⟨h.1,RoundIn.mono h.2 (fun e w'' he=>by cases e<;>first|exact he|exact he.elim)⟩
   |halt z w'=>cases z<;>simp only [Oper.uponIn] at h ⊢<;>exact h
  ·intro h
   refine Oper.wpIn_mono (fun a w h=>(bp6 hg m (k+1) (by omega)).2 h) ?_
   refine ⟨h.1,?_⟩
   have h:=h.2
   generalize (ops.toList[k].semAt G.round a.eval).run P w=r at*
   cases r with
   |ok z w'=>cases z<;>simp only [Oper.uponIn] at h ⊢<;>first|exact h|exact ⟨h.1,CallsIn.mono h.2 (fun e w'' he=>by cases e<;>first|exact he|exact he.elim)⟩|exact ⟨h.1,RoundIn.mono h.2 (fun e w'' he=>by cases e<;>first|exact he|exact he.elim)⟩
   |halt z w'=>cases z<;>simp only [Oper.uponIn] at h ⊢<;>exact h
theorem ap1 {x:Oper} (hx:x.guard=none):∀ {l:List Oper},I6 l=true→I6 (sink P x l)=true
 |[],_=>by simp [sink,I6,hx]
 |y::r,h=>by
  simp only [I6,List.all_cons,co7] at h
  simp only [sink]
  cases bv3 P x y with
  |false=>simp only [cond_false,I6,List.all_cons,co7];exact ⟨by simp [hx],h.1,h.2⟩
  |true=>simp only [cond_true,I6,List.all_cons,co7];exact ⟨h.1,ap1 hx h.2⟩
theorem ak5:∀ {l:List Oper},I6 l=true→I6 (ak1 P l)=true
 |[],_=>rfl
 |x::r,h=>by
  simp only [I6,List.all_cons,co7] at h
  have hr:=ak5 (l:=r) h.2
  simp only [ak1]
  cases X5 x with
  |false=>simp only [cond_false,I6,List.all_cons,co7];exact ⟨h.1,hr⟩
  |true=>exact ap1 (by simpa using h.1) hr
end
end Go.VT
end
section
namespace Go.VT
noncomputable section
variable {U:Univ}
structure St (U:Univ) where
 σ:List (Nat×PV U)
 h:Obs U
def upds:Obs U→Obs U→Obs U
 |h,[]=>h
 |h,(id,o)::r=>upds (write id o h) r
def sub (h:Obs U):List Nat→Obs U
 |[]=>[]
 |id::r=>match look id h with
  |some o=>(id,o)::sub h r
  |none=>sub h r
def J3:Op→List Operand
 | .alloc _=>[]
 | .move x=>[x]
 | .assign x=>[x]
 | .box _ x=>[x]
 | .load _ x=>[x]
 | .nilCheck x=>[x]
 | .unOp _ _ x=>[x]
 | .convert _ _ x=>[x]
 | .fieldAddr _ x _=>[x]
 | .field _ x _=>[x]
 | .extract x _=>[x]
 | .build _ ps=>ps.toList.map (·.2)
 | .buildSlice _ _ ps=>ps.toList.map (·.2)
 | .store _ a v=>[a,v]
 | .binOp _ _ a v _=>[a,v]
 | .indexAddr _ a v=>[a,v]
 | .makeSlice _ a v=>[a,v]
 | .slice _ x lo hi mx=>x::(lo.toList++(hi.toList++mx.toList))
 | .lookup _ m k _=>[m,k]
 | .mapUpdate _ m k v=>[m,k,v]
 | .makeFunc _ first cs=>first.toList++cs.toList
 | .range _ x=>[x]
 | .entry x=>[x]
 | .makeInterface _ x=>[x]
 | .panic x=>[x]
 | .call c=>match c.callee with
  | .value x=>x::c.args.toList
  | .invoke x _=>x::c.args.toList
  |_=>c.args.toList
 |_=>[]
def putS (σ:List (Nat×PV U)) (d:Option Tmp) (v:PV U):List (Nat×PV U):=
 match d with
 |some d=>write d v σ
 |none=>σ
def V8 (ops:List Oper) (i:Nat):Option Nat:=(ops[i]?).bind (·.dst)
def O1 (σ:List (Nat×PV U)) (j:Nat):Option Bool:=
 match look j σ with
 |some (.one (.d ⟨.bool,b⟩))=>some b
 |some (.opt _ (.one (.d ⟨.bool,b⟩)))=>some b
 |_=>none
def I1 (σ:List (Nat×PV U)) (j:Nat):List (Nat×Bool):=
 match look j σ with
 |some (.opt gs _)=>gs
 |_=>[]
def hyps (σ:List (Nat×PV U)):List (Nat×Bool)→Prop→Prop
 |[],p=>p
 |(j,w)::r,p=>match O1 σ j with
  |some b=>b=w→hyps σ r p
  |none=>True
structure Wr (U:Univ) where
 obl:Option Prop
 dst:Option Tmp
 val:PV U
 upd:Obs U
 rds:List Nat
 ids:List Nat
 pan:Option (Bool×PanV U)
 fact:Option Prop
 lost:List Nat
def St.app (s:St U) (x:Wr U):St U:=⟨putS s.σ x.dst x.val,upds s.h x.upd⟩
def aa0:List Operand→List Nat
 |[]=>[]
 | .tmp t::r=>t::aa0 r
 |_::r=>aa0 r
def S6 (E:Env U) (o:Oper) (vs:List (PV U)):List Nat:=
 match o.op with
 | .alloc _=>[B5 o.dst 0]
 | .box .. =>[B5 o.dst 0]
 | .buildSlice .. =>[B5 o.dst 0]
 | .makeSlice .. =>[B5 o.dst 0]
 | .makeMap .. =>[B5 o.dst 0]
 | .range .. =>[B5 o.dst 0]
 | .call c=>match c.callee with
  | .builtin .append=>match vs with
   | .one (.lit _)::_=>[B5 o.dst 0]
   | .one (.dc _ (.inn ..))::_=>[B5 o.dst 0]
   | .one (.dc _ (.key ..))::_=>[B5 o.dst 0]
   |_=>[]
  |_=>[]
 |_=>[]
def bQ9 (c:Bool) (a b:Operand):PV U→PV U→Option (PV U)
 | .one (.d ⟨.bool,x⟩),.one (.d ⟨.bool,y⟩)=>match a,b with
  | .const (.bool true),_=>some (.one (.d ⟨.bool,c||y⟩))
  |_,.const (.bool false)=>some (.one (.d ⟨.bool,c&&x⟩))
  |_,_=>some (.one (.d ⟨.bool,bif c then x else y⟩))
 |_,_=>none
def bp7 (h:Obs U) (id:Nat):List Nat:=match look id h with
 |some (.box _ cs)=>cs.flatMap ids1
 |some (.dp (.iter mid ..))=>mid.toList
 |_=>[]
def as7 (h:Obs U):Nat→List Nat→List Nat→List Nat
 |0,_,seen=>seen
 |_+1,[],seen=>seen
 |f+1,id::r,seen=>bif seen.any (Nat.beq id) then as7 h f r seen else as7 h f (bp7 h id++r) (id::seen)
def aB6 (h:Obs U) (l:List Nat):Bool:=l.all fun id=>(look id h).isNone&&Nat.blt id 1000000
structure Val (U:Univ) where
 e:Eff U
 ids:List Nat
 pan:Option (Bool×PanV U)
 lost:List Nat
def af0 (E:Env U) (s:St U) (o:Oper) (path:List (Nat×Bool)):Option (Val U):=
 match (J3 o.op).map (fun x=>I0 path (ev s.σ x)) with
 |vs=>match act E (sub s.h (vs.flatMap idsP)) o vs with
  |some e=>bif e.val.plain&&aB6 s.h (S6 E o vs) then some ⟨e,vs.flatMap idsP++(S6 E o vs++keys e.upd),none,[]⟩ else none
  |none=>none
def H5 (E:Env U) (s:St U) (o:Oper) (vs:List (PV U)) (ks:List (Con U)):Option (Val U):=
 match as7 s.h 64 (vs.flatMap idsP++ks.flatMap fun k=>k.gh.map (·.2)) [] with
 |R=>match ae9 (sub s.h R) E.yl o.dst vs ks with
  |some c=>bif c.e.val.plain&&aB6 s.h c.news then some ⟨c.e,R++(c.news++keys c.e.upd),c.pan,c.lost⟩ else none
  |none=>none
def aR3 (path:List (Nat×Bool)) (ks:List (Con U)):List (Con U):=
 match path with
 |[]=>ks
 |_=>match ks.filter (fun k=>Nat.beq k.oout.length k.oin.length) with
  |[]=>ks
  |l=>l
theorem ab5 {path:List (Nat×Bool)} {ks:List (Con U)} {k:Con U} (h:k∈aR3 path ks):k∈ks:=by
 unfold aR3 at h
 split at h
 ·exact h
 ·split at h
  ·exact h
  ·rename_i l hl _
   exact (List.mem_filter.1 h).1
def al6 (E:Env U) (s:St U) (o:Oper) (path:List (Nat×Bool)):Option (Val U):=
 match o.op with
 | .pick (.tmp t) a b=>match I0 path (ev s.σ (.tmp t)) with
  | .one (.d ⟨.bool,c⟩)=>match bQ9 c a b (I0 (path++[(t,true)]) (ev s.σ a)) (I0 (path++[(t,false)]) (ev s.σ b)) with
   |some v=>some ⟨F9 v,[],none,[]⟩
   |none=>none
  |_=>none
 | .panic x=>match I0 path (ev s.σ x) with
  | .one (.ifc t b ds)=>bif ds.all (fun d=>ab0 d.1) then some ⟨F9 .un,[],some (true,⟨t,b,ds⟩),[]⟩ else none
  |_=>none
 | .call c=>match c.callee with
  | .value x=>match I0 path (ev s.σ x) with
   | .one (.tabf fs i)=>H5 E s o (c.args.toList.map (fun x=>I0 path (ev s.σ x))) (E.tab fs i)
   | .one (.yld id)=>H5 E s o (c.args.toList.map (fun x=>I0 path (ev s.σ x))++[.one (.yld id)]) E.Y.toList
   | .one (.bnd f id)=>H5 E s o (.one (.ptr id 0)::c.args.toList.map (fun x=>I0 path (ev s.σ x))) (aR3 path (E.con f))
   |p=>match ao9 p with
    |some (f,ids)=>H5 E s o (c.args.toList.map (fun x=>I0 path (ev s.σ x))++ids.map (fun id=>.one (.ptr id 0))) (aR3 path (E.con f))
    |none=>none
  | .invoke x name=>match (match path with
    |[]=>I0 [] (ev s.σ x)
    |_=>.un) with
   | .one (.d ⟨.ifc i,v⟩)=>H5 E s o (.one (.d ⟨.ifc i,v⟩)::c.args.toList.map (fun x=>I0 path (ev s.σ x))) (E.inv i name)
   |_=>none
  |_=>af0 E s o path
 |_=>af0 E s o path
def aR4:Op→List Nat
 | .pick c a b=>aa0 [c,a,b]
 |o=>aa0 (J3 o)
inductive Alt (U:Univ) where
 |one (x:Wr U)
 |two (x y:Wr U)
def allG (σ:List (Nat×PV U)) (path:List (Nat×Bool)):Bool:=path.all fun g=>match O1 σ g.1 with
 |some b=>b==g.2
 |none=>false
def as8 (E:Env U) (ops:List Oper) (o:Oper) (s:St U):Option (Alt U):=
 match o.guard with
 |none=>match al6 E s o [] with
  |some v=>some (.one ⟨v.e.obl,o.dst,v.e.val,v.e.upd,aR4 o.op,v.ids,v.pan,none,v.lost⟩)
  |none=>none
 |some (i,want)=>match V8 ops i with
  |some j=>match O1 s.σ j with
   |some b=>match al6 E s o (I1 s.σ j++[(j,want)]) with
    |some v=>bif v.e.upd.all (fun x=>!(x.2.live)) then some (.one ⟨v.e.obl.map (hyps s.σ (I1 s.σ j++[(j,want)])),o.dst,.opt (I1 s.σ j++[(j,want)]) v.e.val,v.e.upd,j::(I1 s.σ j).map (·.1)++aR4 o.op,v.ids,
       v.pan.map (fun x=>(allG s.σ (I1 s.σ j++[(j,want)])&&x.1,x.2)),none,v.lost⟩)
      else (match I1 s.σ j with
       |[]=>some (.two ⟨v.e.obl,o.dst,.opt [(j,want)] v.e.val,v.e.upd,j::aR4 o.op,v.ids,v.pan,some (b=want),v.lost⟩ ⟨none,o.dst,.opt [(j,want)] v.e.val,[],j::aR4 o.op,v.ids,none,some (b=!want),[]⟩)
       |_=>none)
    |none=>none
   |none=>none
  |none=>none
def bh3 (x:Wr U):List (List (Wr U)×St U)→List (List (Wr U)×St U)
 |[]=>[]
 |(xs,s)::r=>(x::xs,s)::bh3 x r
def av9 (E:Env U) (ops:List Oper):List Oper→St U→Option (List (List (Wr U)×St U))
 |[],s=>some [([],s)]
 |o::r,s=>match as8 E ops o s with
  |some (.one x)=>match av9 E ops r (s.app x) with
   |some l=>some (bh3 x l)
   |none=>none
  |some (.two x y)=>match av9 E ops r (s.app x) with
   |some l=>match av9 E ops r (s.app y) with
    |some l'=>some (bh3 x l++bh3 y l')
    |none=>none
   |none=>none
  |none=>none
def aB7:List (Nat×Bool)→Option Nat→Prop→Prop
 |[],_,q=>q
 |(i,b)::r,m,q=>match m with
  |none=>b=false→aB7 r m q
  |some m'=>bif Nat.testBit m' i then (b=false→aB7 r m q) else aB7 r m q
def obls (Qp:PanV U→Prop) (ms:Option (List Nat)):List (Wr U)→Nat→List (Nat×Bool)→Prop→Prop
 |[],_,ps,q=>aB7 ps none q
 |x::r,i,ps,q=>match x.pan with
  |none=>match x.obl with
   |none=>obls Qp ms r (i+1) ps q
   |some p=>aB7 ps (ms.map (·.getD i 0)) p∧obls Qp ms r (i+1) ps q
  |some (b,v)=>match x.obl with
   |none=>aB7 ps (ms.map (·.getD i 0)) (b=true→Qp v)∧obls Qp ms r (i+1) (ps++[(i,b)]) q
   |some p=>aB7 ps (ms.map (·.getD i 0)) p∧(aB7 ps (ms.map (·.getD i 0)) (b=true→Qp v)∧obls Qp ms r (i+1) (ps++[(i,b)]) q)
def aR5:List (Wr U)→Prop→Prop
 |[],q=>q
 |x::r,q=>match x.fact with
  |none=>aR5 r q
  |some p=>p→aR5 r q
def bR0 (f:List (Wr U)→St U→Prop):List (List (Wr U)×St U)→Prop
 |[]=>True
 |[(xs,s)]=>f xs s
 |(xs,s)::r=>f xs s∧bR0 f r
def ahead (pos:Nat→Nat) (dr:Bool):List Oper→Nat→Bool
 |[],_=>true
 |o::r,k=>(match o.guard with
  |none=>true
  |some (g,_)=>Nat.blt (pos g) (pos k))&&(!dr||o.after.toList.all fun e=>!(Region.binds .any e)||Nat.blt (pos e.on) (pos k))&&ahead pos dr r (k+1)
def bit (m k:Nat):Bool:=Nat.beq (Nat.land (Nat.shiftRight m k) 1) 1
def bp8 (m:Nat):List Oper→Nat→Option Nat
 |[],_=>none
 |o::r,k=>bif !(bit m k)&&(match o.guard with
  |none=>true
  |some (g,_)=>bit m g)&&o.after.toList.all (fun e=>!(Region.binds .any e)||bit m e.on) then some k else bp8 m r (k+1)
def ak6 (ops:List Oper):Nat→Nat→List Nat
 |0,_=>[]
 |f+1,m=>match bp8 m ops 0 with
  |some k=>k::ak6 ops f (Nat.lor m (2 ^ k))
  |none=>[]
def ay7 (k:Nat):List Nat→Nat
 |[]=>0
 |x::r=>bif Nat.beq x k then 0 else ay7 k r+1
def ab6 (d:Bool) (ops:List Oper):Bool:=ahead (fun k=>k) d ops 0
def aY5 (d:Bool) (ops:List Oper):List Nat:=bif ab6 d ops then List.range ops.length else ak6 ops ops.length 0
def V9 (d:Bool) (ops:List Oper) (k:Nat):Nat:=bif ab6 d ops then k else ay7 k (ak6 ops ops.length 0)
def al7 (ops:List Oper):List Nat→List Oper
 |[]=>[]
 |k::r=>match ops[k]? with
  |some o=>o::al7 ops r
  |none=>al7 ops r
def osOf (d:Bool) (ops:List Oper):List Oper:=bif ab6 d ops then ops else al7 ops (ak6 ops ops.length 0)
def okAt (n:Nat) (idx:List Nat):List Nat→Nat→Bool
 |[],_=>true
 |x::r,p=>Nat.blt x n&&Nat.beq (ay7 x idx) p&&okAt n idx r (p+1)
def cj9 (n:Nat) (idx:List Nat):Bool:=Nat.beq idx.length n&&okAt n idx idx 0&&(List.range n).all fun k=>Nat.blt (ay7 k idx) n
def aB8 (d:Bool) (ops:List Oper):Bool:=ab6 d ops||(d&&cj9 ops.length (ak6 ops ops.length 0)&&ahead (fun k=>ay7 k (ak6 ops ops.length 0)) d ops 0)
def mask (pos:Nat→Nat) (acc:List Nat) (o:Oper):Nat:=
 o.after.toList.foldl (fun m e=>bif Region.binds .any e then Nat.lor m (Nat.lor (2 ^ (pos e.on)) (acc.getD (pos e.on) 0)) else m) 0
def O4 (pos:Nat→Nat):List Oper→List Nat→List Nat
 |[],acc=>acc
 |o::r,acc=>O4 pos r (acc++[mask pos acc o])
def aR6 (d:Option Tmp) (l:List Nat):Bool:=match d with
 |some d=>l.any (Nat.beq d)
 |none=>false
def aK3 (x y:Wr U):Bool:=aR6 x.dst y.rds||aR6 y.dst x.rds||Z8 (keys x.upd) y.ids||Z8 (keys y.upd) x.ids
def aB9 (y:Wr U) (m:Nat):List (Wr U)→Nat→Bool
 |[],_=>true
 |x::r,i=>(!(aK3 x y)||Nat.testBit m i)&&aB9 y m r (i+1)
def aK4 (done:List (Wr U)):List (Wr U)→List Nat→Bool
 |y::ys,m::ms=>aB9 y m done 0&&aK4 (done++[y]) ys ms
 |[],[]=>true
 |_,_=>false
def ca5:PV U→PV U
 | .opt .. =>.un
 |p=>p
def St.cut (s:St U) (X:Nat):St U:=⟨(s.σ.filter fun x=>bit X x.1).map (fun x=>(x.1,ca5 x.2)),s.h⟩
inductive Bad (why where_:Nat):Prop
theorem Bad.elim {a b:Nat} {C:Prop} (h:Bad a b):C:=nomatch h
def aR7 (E:Env U) (ops:List Oper):List Oper→Nat→St U→Nat
 |[],i,_=>i
 |o::r,i,s=>match as8 E ops o s with
  |some (.one x)=>aR7 E ops r (i+1) (s.app x)
  |some (.two x _)=>aR7 E ops r (i+1) (s.app x)
  |none=>i
def W0 {α:Type} (l:List (Nat×α)):List Nat→List (Nat×α)
 |[]=>[]
 |k::r=>match look k l with
  |some v=>(k,v)::W0 l r
  |none=>W0 l r
def Deep.renew (h:Obs U) (D:Deep U) (c:DC U):Option (DC U):=
 match D with
 | .rows _ _ _ _ ver iv _ _=>match c with
  | .self v=>if Nat.beq v ver then some (.self 0) else none
  | .inn v i j=>if Nat.beq v iv then some (.inn 0 i j) else none
  |_=>none
 | .maps _ _ _ _ ver _ _ _=>match c with
  | .self v=>if Nat.beq v ver then some (.self 0) else none
  |_=>none
 | .iter .. =>match c with
  | .it mid=>match look mid h with
   |some (.map ..)=>some (.it mid)
   |_=>none
  |_=>none
def Deep.fresh (h:Obs U):Deep U→Deep U
 | .rows e t m l _ _ lv hole=>.rows e t m l 0 0 lv hole
 | .maps kt e t l _ _ lv hole=>.maps kt e t l 0 0 lv hole
 | .iter mid kt vt n seen cur=>.iter (match mid with
  |some m=>match look m h with
   |some (.map ..)=>some m
   |_=>none
  |none=>none) kt vt n seen cur
def L4 (h:Obs U):Cell U→Cell U
 | .row id ver=>match look id h with
  |some (.row _ _ _ ver' _)=>if Nat.beq ver ver' then .row id 0 else .un
  |_=>.un
 | .ptr id off=>match look id h with
  |some (.box _ _)=>.ptr id off
  |_=>.un
 | .elt .. =>.un
 | .map id=>match look id h with
  |some (.map ..)=>.map id
  |_=>.un
 | .yld id=>match look id h with
  |some (.loop ..)=>.yld id
  |_=>.un
 | .clo f ids=>bif ids.all (fun id=>match look id h with
  |some (.box _ _)=>true
  |_=>false) then .clo f ids else .un
 | .bnd f id=>match look id h with
  |some (.box _ _)=>.bnd f id
  |_=>.un
 | .dc id c=>match look id h with
  |some (.dp D)=>match D.renew h c with
   |some c=>.dc id c
   |none=>.un
  |_=>.un
 |c=>c
def aC0 (h:Obs U):PV U→PV U
 | .one c=>.one (L4 h c)
 | .agg cs=>.agg (cs.map (L4 h))
 | .tup vs=>.tup (vs.map fun v=>(v.1,v.2.map (L4 h)))
 |_=>.un
def U2 (h:Obs U):Ob U→Ob U
 | .box e cs=>.box e (cs.map (L4 h))
 | .row e t l _ live=>.row e t l 0 live
 | .dp D=>.dp (D.fresh h)
 |o=>o
def St.keep (s:St U) (ks hs:List Nat):St U:=
 match W0 s.h hs with
 |h=>⟨(W0 s.σ ks).map fun x=>(x.1,aC0 h x.2),h.map fun x=>(x.1,U2 h x.2)⟩
def as9 (ms:Option (List Nat)) (p q:Nat):Bool:=match ms with
 |none=>Nat.blt q p
 |some l=>Nat.testBit (l.getD p 0) q
def af1:List (Wr U)→Nat→List Nat
 |[],_=>[]
 |x::r,i=>match x.pan with
  |none=>af1 r (i+1)
  |some _=>i::af1 r (i+1)
def aY6 (ms:Option (List Nat)) (ps:List Nat):List (Wr U)→Nat→Nat→Bool
 |[],_,_=>false
 |x::r,i,j=>(aR6 x.dst [j]&&!(ps.all fun q=>Nat.beq i q||as9 ms i q))||aY6 ms ps r (i+1) j
def aR8 (ms:Option (List Nat)) (ps:List Nat):List (Wr U)→Nat→Nat→Bool
 |[],_,_=>false
 |x::r,i,j=>(Z8 (keys x.upd++x.lost) [j]&&!(ps.all fun q=>!(Nat.beq i q)&&as9 ms i q))||aR8 ms ps r (i+1) j
def St.gone (s:St U) (ms:Option (List Nat)) (xs:List (Wr U)):St U:=
 s.keep ((s.σ.map (·.1)).filter fun j=>!(aY6 ms (af1 xs 0) xs 0 j)) ((keys s.h).filter fun id=>!(aR8 ms (af1 xs 0) xs 0 id))
def region (E:Env U) (X:Nat) (id:Nat) (d:Bool) (ops:List Oper) (s:St U) (Qp:PanV U→St U→Prop) (Q:St U→Prop):Prop:=
 match av9 E ops (osOf d ops) s with
 |some ls=>bR0 (fun xs s'=>bif !d||aK4 [] xs (O4 (V9 d ops) (osOf d ops) []) then aR5 xs (obls (fun v=>Qp v (s.gone (bif d then some (O4 (V9 d ops) (osOf d ops) []) else none) xs)) (bif d then some (O4 (V9 d ops) (osOf d ops) []) else none) xs 0 [] (Q (s'.cut X))) else Bad id 1000) ls
 |none=>Bad id (aR7 E ops (osOf d ops) 0 s)
def bits:List Nat→Nat
 |[]=>0
 |t::r=>Nat.lor (2 ^ t) (bits r)
def bh4:List Nat→Nat→Nat
 |[],_=>0
 |t::r,wr=>bif bit wr t then bh4 r wr else Nat.lor (2 ^ t) (bh4 r wr)
def ck0:List Oper→Nat→Nat
 |[],_=>0
 |o::r,wr=>Nat.lor (bh4 (aR4 o.op) wr) (ck0 r (match o.dst with
  |some d=>Nat.lor (2 ^ d) wr
  |none=>wr))
def expo:Code→Nat
 | .region _ ops _=>ck0 ops.toList 0
 | .seq a b=>Nat.lor (expo a) (expo b)
 | .cond c a b=>Nat.lor (bits (aa0 [c])) (Nat.lor (expo a) (expo b))
 | .block _ a=>expo a
 | .scope a=>expo a
 | .loop a=>expo a
 | .rangeFunc g _ a c=>Nat.lor (bits (aa0 [g])) (Nat.lor (expo a) (expo c))
 |_=>0
def cn3 (f:Func) (b:Code):Nat:=Nat.lor (bits (f.results.toList.map fun x=>match x with
 | .tmp t=>t
 | .cell _ t=>t)) (expo b)
def al8 (N:Nat) (ds:List (Option Tmp)):Option Tmp→Bool
 |some d=>Nat.blt d N&&ds.all fun x=>match x with
  |some d'=>!(Nat.beq d d')
  |none=>true
 |none=>true
def O7 (N:Nat):List Oper→List (Option Tmp)→Bool
 |[],_=>true
 |o::r,ds=>al8 N ds o.dst&&O7 N r (ds++[o.dst])
def K6 (N:Nat):Code→Bool
 | .region _ ops d=>O7 N ops.toList []&&aB8 d ops.toList
 | .seq a b=>K6 N a&&K6 N b
 | .cond _ a b=>K6 N a&&K6 N b
 | .block _ a=>K6 N a
 | .scope a=>K6 N a
 | .loop a=>K6 N a
 | .rangeFunc _ ps a c=>ps.toList.all (fun t=>Nat.blt t N)&&K6 N a&&K6 N c
 |_=>true
def noRF:Code→Bool
 | .seq a b=>noRF a&&noRF b
 | .cond _ a b=>noRF a&&noRF b
 | .block _ a=>noRF a
 | .scope a=>noRF a
 | .loop a=>noRF a
 | .rangeFunc .. =>false
 |_=>true
def ab7:List Nat→Code→List Code
 |bs,.seq a b=>ab7 bs a++ab7 bs b
 |bs,.cond _ a b=>ab7 bs a++ab7 bs b
 |bs,.block id a=>ab7 (id::bs) a
 |bs,.scope a=>ab7 bs a
 |bs,.loop a=>ab7 bs a
 |bs,.exit id=>bif bs.any (Nat.beq id) then [] else [.exit id]
 |_,.ret=>[.ret]
 |_,_=>[]
inductive Way (U:Univ) where
 |normal
 |exit (id:Nat)
 |ret
 |panic (v:PanV U)
inductive Place where
 |slot (j:Nat)
 |cell (j c:Nat)
 |box (id c:Nat)
 |row (id:Nat)
 |deep (j:Nat) (m:List Nat)
 |seen (id:Nat)
structure Ann (U:Univ) where
 slots:List Nat
 at_:List Place
 tys:List Ty
 inv:Dens U.T tys→Prop
 μ:Dens U.T tys→Nat
 nils:List (Place×Nat×TypeId×Ty)
def bh5 (cs:List (Cell U)) (c:Nat) (d:Datum U):List (Cell U):=
 match cs,c with
 |[],_=>[]
 |_::r,0=>.d d::r
 |x::r,c+1=>x::bh5 r c d
def bR1 (s:St U) (p:Place) (d:Datum U):St U:=
 match p with
 | .slot j=>⟨write j (.one (.d d)) s.σ,s.h⟩
 | .cell j c=>match look j s.σ with
  |some (.agg cs)=>⟨write j (.agg (bh5 cs c d)) s.σ,s.h⟩
  |_=>s
 | .box id c=>match look id s.h with
  |some (.box e cs)=>⟨s.σ,write id (.box e (bh5 cs c d)) s.h⟩
  |_=>s
 | .row id=>match look id s.h,d with
  |some (.row _ _ _ ver lv),⟨.slice e t,l⟩=>⟨s.σ,write id (.row e t l ver lv) s.h⟩
  |some (.map ..),⟨.map kt vt,l⟩=>⟨s.σ,write id (.map kt vt l) s.h⟩
  |some (.loop ..),⟨.int _,st⟩=>⟨s.σ,write id (.loop st) s.h⟩
  |some (.dp (.rows _ _ m _ ver iv lv hole)),⟨.slice e t,l⟩=>⟨s.σ,write id (.dp (.rows e t m l ver iv lv hole)) s.h⟩
  |some (.dp (.maps _ _ _ _ ver iv lv none)),⟨.map kt (.slice e t),l⟩=>⟨s.σ,write id (.dp (.maps kt e t l ver iv lv none)) s.h⟩
  |_,_=>s
 | .seen id=>match look id s.h,d with
  |some (.dp (.iter mid kt vt n _ _)),⟨.slice _ (.int _),l⟩=>⟨s.σ,write id (.dp (.iter mid kt vt n (List.map Int.toNat l) ((List.map Int.toNat l).getLastD 0))) s.h⟩
  |_,_=>s
 | .deep .. =>s
def aw0:St U→List Place→List (Datum U)→St U
 |s,p::ps,d::ds=>aw0 (bR1 s p d) ps ds
 |s,_,_=>s
def ca6:List Oper→List Nat
 |[]=>[]
 |o::r=>match o.dst with
  |some d=>d::ca6 r
  |none=>ca6 r
def aY7:Code→List Nat
 | .region _ ops _=>ca6 ops.toList
 | .seq a b=>aY7 a++aY7 b
 | .cond _ a b=>aY7 a++aY7 b
 | .block _ a=>aY7 a
 | .scope a=>aY7 a
 | .loop a=>aY7 a
 |_=>[]
def cvK (id:Nat) (b:Option Nat):Cell U→Cell U
 | .map j=>match b with
  |none=>bif Nat.beq j id then .dc id (.self 0) else .map j
  |some _=>.map j
 | .dc j c=>match c with
  | .it m=>bif Nat.beq j id||Nat.beq m id then .un else .dc j (.it m)
  | .self v=>bif Nat.beq j id then (match b with
   |none=>.un
   |some ver=>bif Nat.beq v ver then .map id else .un) else .dc j (.self v)
  |c=>bif Nat.beq j id then .un else .dc j c
 |c=>c
def cvP (id:Nat) (b:Option Nat):PV U→PV U
 | .one c=>.one (cvK id b c)
 | .agg cs=>.agg (cs.map (cvK id b))
 | .tup vs=>.tup (vs.map fun v=>(v.1,v.2.map (cvK id b)))
 |_=>.un
def cvO (id:Nat) (b:Option Nat):Ob U→Ob U
 | .box e cs=>.box e (cs.map (cvK id b))
 | .dp (.iter (some m) kt vt n seen cur)=>.dp (.iter (bif Nat.beq m id then none else some m) kt vt n seen cur)
 |o=>o
def St.cvt (s:St U) (id:Nat) (b:Option Nat) (o:Ob U):St U:=⟨s.σ.map fun x=>(x.1,cvP id b x.2),s.h.map fun x=>(x.1,bif Nat.beq x.1 id then o else cvO id b x.2)⟩
def U5 (s:St U):Place×Nat×TypeId×Ty→St U
 |(.slot j,id,e,t)=>match look id s.h with
  |some _=>s
  |none=>match look j s.σ with
   |some (.one (.lit (.slice none 0 0)))=>⟨write j (.one (.row id 0)) s.σ,write id (.row e t [] 0 true) s.h⟩
   |_=>s
 |(.box b c,id,e,t)=>match look id s.h with
  |some _=>s
  |none=>match look b s.h with
   |some (.box be cs)=>match cs[c]? with
    |some (.lit (.slice none 0 0))=>⟨s.σ,write b (.box be (cs.set c (.row id 0))) (write id (.row e t [] 0 true) s.h)⟩
    |_=>s
   |_=>s
 |(.cell b c,_,e,t)=>match look b s.h with
  |some (.box be cs)=>match cs[c]? with
   |some cc=>match asD s.h (.slice e t) cc with
    |some (x,u)=>⟨s.σ,write b (.box be (cs.set c (.d x))) (upds s.h u)⟩
    |none=>s
   |none=>s
  |_=>s
 |(.row j,_,e,t)=>match look j s.σ with
  |some (.one c)=>match asD s.h (.slice e t) c with
   |some (x,u)=>⟨write j (.one (.d x)) s.σ,upds s.h u⟩
   |none=>s
  |_=>s
 |(.deep j m,id,e,t)=>match look id s.h with
  |some _=>s
  |none=>match look j s.σ with
   |some (.one (.lit (.slice none 0 0)))=>⟨write j (.one (.dc id (.self 0))) s.σ,write id (.dp (.rows e t m [] 0 0 true none)) s.h⟩
   |_=>s
 |(.seen id,_,_,_)=>match look id s.h with
  |some (.map kt (.slice e t) [])=>bif Nat.blt id 1000000 then s.cvt id none (.dp (.maps kt e t [] 0 0 true none)) else s
  |some (.dp (.maps kt e t l ver _ true none))=>bif Nat.blt id 1000000 then s.cvt id (some ver) (.map kt (.slice e t) l) else s
  |_=>s
def X6 (s:St U):List (Place×Nat×TypeId×Ty)→St U
 |[]=>s
 |x::r=>X6 (U5 s x) r
def aR9:List Place→List Nat
 |[]=>[]
 | .slot j::r=>j::aR9 r
 | .cell j _::r=>j::aR9 r
 |_::r=>aR9 r
def S7 (s:St U) (a:Code) (L:Ann U):List Nat:=
 match aY7 a with
 |ds=>((s.σ.map (·.1)).filter fun j=>!(ds.any (Nat.beq j)))++(aR9 L.at_++L.slots)
def eqTs:List (Bool×List (Cell U))→List (Bool×List (Cell U))→Prop→Prop
 |[],[],q=>q
 |(b,x)::r,(b',y)::r',q=>bif b==b' then eqCs x y (eqTs r r' q) else False
 |_,_,_=>False
def eqP:PV U→PV U→Prop→Prop
 | .un,.un,q=>q
 | .one x,.one y,q=>eqC x y q
 | .agg x,.agg y,q=>eqCs x y q
 | .tup x,.tup y,q=>eqTs x y q
 |_,_,_=>False
def eqL {α:Type} (f:α→α→Prop→Prop):List (Nat×α)→List (Nat×α)→Prop→Prop
 |[],[],q=>q
 |(k,x)::r,(k',y)::r',q=>bif Nat.beq k k' then f x y (eqL f r r' q) else False
 |_,_,_=>False
def eqSt (x y:St U) (q:Prop):Prop:=eqL eqP x.σ y.σ (eqL eqO x.h y.h q)
def ab8:Code→Nat
 | .seq a b=>ab8 a+ab8 b
 | .cond _ a b=>ab8 a+ab8 b
 | .block _ a=>ab8 a
 | .scope a=>ab8 a
 | .loop a=>ab8 a+1
 | .rangeFunc _ _ a c=>ab8 a+ab8 c+1
 |_=>0
def bh6 {α:Type} (l:List (Nat×α)):List Nat:=l.map (·.1)
def renC (rn:List (Nat×Nat)):Cell U→Cell U
 | .d x=>.d x
 | .ptr id off=>match look id rn with
  |some i=>.ptr (oid i) off
  |none=>.un
 | .map id=>match look id rn with
  |some i=>.map (oid i)
  |none=>.un
 | .lit v=>.lit v
 | .gl g=>.gl g
 | .bnd f id=>match look id rn with
  |some i=>.bnd f (oid i)
  |none=>.un
 | .tab g i=>.tab g i
 | .tabf fs i=>.tabf fs i
 |_=>.un
def renP (rn:List (Nat×Nat)):PV U→PV U
 | .one c=>.one (renC rn c)
 | .agg cs=>.agg (cs.map (renC rn))
 |_=>.un
def rnOf (kY:Con U) (m:Mt U):List (Nat×Nat)→List (Nat×Nat)
 |[]=>[]
 |(i,j)::r=>match kY.oin[i]?,look j m.ι with
  |some (.row _),_=>rnOf kY m r
  |some (.dp _ _),_=>rnOf kY m r
  |some (.ms _),_=>rnOf kY m r
  |some _,some id=>(id,i)::rnOf kY m r
  |_,_=>rnOf kY m r
def ca7:List OPat→Bool
 |[]=>true
 | .box _ cs::r=>cs.all (fun c=>match c with
  | .yld _=>false
  |_=>true)&&ca7 r
 |_::r=>ca7 r
def bE4:List Nat→List (Bool×List (Cell U))→List (Nat×PV U)→List (Nat×PV U)
 |t::ts,(b,cs)::r,σ=>bE4 ts r (write t (match b with
  |true=>.agg cs
  |false=>match cs with
   |[c]=>.one c
   |_=>.un) σ)
 |_,_,σ=>σ
def bY9:List CPat→Option Nat
 |[.yld j]=>some j
 |_::r=>bY9 r
 |[]=>none
def bE5 (ds:List (Datum U)) (os:List OPat) (j:Nat):Option Int:=match os[j]? with
 |some (.loop q)=>match ds[q]? with
  |some ⟨.int _,st⟩=>some st
  |_=>none
 |_=>none
def bE6 (kY:Con U) (rn:List (Nat×Nat)) (ps:List Nat) (jl:Nat) (σ:List (Nat×PV U)) (ds:List (Datum U)):St U:=
 match (⟨bE4 ps (D5 kY.args (kY.ain.map (iC ds oid (fun _=>0)))) (σ.map fun x=>(x.1,renP rn x.2)),iOs ds oid (fun _=>0) 0 kY.oin⟩:St U) with
 |s=>s.keep (bh6 s.σ) ((keys s.h).filter fun id=>!(Nat.beq id (oid jl)))
def eqDs:List (Datum U)→List (Datum U)→Prop→Prop
 |[],[],q=>q
 |x::r,y::r',q=>eqD x y (eqDs r r' q)
 |_,_,_=>False
def ca8 (a b:PanV U):Prop:=bif Nat.beq a.t b.t&&(a.agg==b.agg) then eqDs a.ds b.ds True else False
def bh7:Nat→Nat→List (Nat×Nat)
 |_,0=>[]
 |j,n+1=>(j,oid j)::bh7 (j+1) n
def aS0 (h:Obs U) (k:Con U) (cs:List (Cell U)):Option (Dens U.T k.tys×Mt U):=
 match mCs h k.tys k.rout cs ⟨bh7 0 k.oin.length,[],[]⟩ with
 |some m=>match mOs h k.tys 0 k.oout m with
  |some m=>bif (m.ι.all fun x=>Nat.blt x.1 k.oout.length)&&!(Z8 (m.ι.map (·.2)) (keys m.u)) then (match aL0 m.ds 0 k.tys.length with
   |some ds=>match av7 U k.tys ds with
    |some xs=>some (xs,m)
    |none=>none
   |none=>none) else none
  |none=>none
 |none=>none
def nil1 (k:Con U) (p:CPat) (c:Cell U) (id:Nat) (h:Obs U):Option (Cell U×Obs U):=
 match p,c with
 | .row j,.lit (.slice none 0 0)=>match k.oout[j]? with
  |some (.row q)=>match k.tys[q]? with
   |some (.slice e t)=>match look id h with
    |none=>some (.row id 0,write id (.row e t [] 0 true) h)
    |some _=>none
   |_=>none
  |_=>none
 | .dp j,.lit (.slice none 0 0)=>match k.oout[j]? with
  |some (.dp q m)=>match k.tys[q]? with
   |some (.slice e t)=>match look id h with
    |none=>some (.dc id (.self 0),write id (.dp (.rows e t m [] 0 0 true none)) h)
    |some _=>none
   |_=>none
  |_=>none
 |_,_=>none
def ap2 (k:Con U):List CPat→List (Cell U)→Nat→Obs U→List (Cell U)×Obs U
 |p::ps,c::cs,i,h=>match nil1 k p c i h with
  |some (c1,h1)=>match ap2 k ps cs (i+1) h1 with
   |(cs',h')=>(c1::cs',h')
  |none=>match ap2 k ps cs (i+1) h with
   |(cs',h')=>(c::cs',h')
 |[],cs,_,h=>(cs,h)
 |_::_,[],_,h=>([],h)
def bh8 (k:Con U) (xs:Dens U.T k.params) (h:Obs U) (cs:List (Cell U)):Prop:=
 match ap2 k k.rout cs 999000 h with
 |(cs,h)=>match aS0 h k cs with
  |some (r,_)=>match k.bad with
   |none=>r=k.fn xs
   |some b=>(b xs).1=false∧r=k.fn xs
  |none=>Bad 2002 0
def bE7 (k:Con U) (xs:Dens U.T k.params) (v:PanV U):Prop:=
 match k.bad with
 |none=>Bad 2005 0
 |some b=>(b xs).1=true∧ca8 (b xs).2 v
def aC1:List (Datum U)→Prop→Prop
 |[],q=>q
 |⟨.slice e t,l⟩::r,q=>Small U ⟨.slice e t,l⟩→aC1 r q
 |_::r,q=>aC1 r q
def datC:List CPat→List Nat
 |[]=>[]
 | .d k::r=>k::datC r
 |_::r=>datC r
def datO:List OPat→List Nat
 |[]=>[]
 | .box _ cs::r=>datC cs++datO r
 | .row k::r=>k::datO r
 | .dp k _::r=>k::datO r
 |_::r=>datO r
def aS1 (ds:List (Datum U)):List Nat→List (Datum U)
 |[]=>[]
 |k::r=>match ds[k]? with
  |some d=>d::aS1 ds r
  |none=>aS1 ds r
def aS2 (kY:Con U) (xs:Dens U.T kY.params) (jl:Nat) (jump:Option Code) (w:Way U) (s:St U):Prop:=
 bif (look (oid jl) s.h).isNone then (match w with
  | .normal=>bh8 kY xs (s.h++[(oid jl,.loop 0)]) [.d ⟨.bool,true⟩]
  | .ret=>match jump with
   |some .ret=>bh8 kY xs (s.h++[(oid jl,.loop 1)]) [.d ⟨.bool,false⟩]
   |_=>Bad 4010 0
  | .exit id=>match jump with
   |some (.exit id')=>bif Nat.beq id id' then bh8 kY xs (s.h++[(oid jl,.loop 1)]) [.d ⟨.bool,false⟩] else Bad 4011 0
   |_=>Bad 4011 1
  | .panic v=>bE7 kY xs v) else Bad 4012 0
def bp9 (jump:Option Code) (st:Int) (s:St U) (Q:Way U→St U→Prop):Prop:=
 match jump with
 |none=>st=0∧Q .normal s
 |some .ret=>(st=0→Q .normal s)∧(st≠0→st=1∧Q .ret s)
 |some (.exit id)=>(st=0→Q .normal s)∧(st≠0→st=1∧Q (.exit id) s)
 |some _=>Bad 4013 0
def St.less (s:St U) (ids:List Nat):St U:=s.keep (bh6 s.σ) ((keys s.h).filter fun id=>!(ids.any (Nat.beq id)))
structure RF (U:Univ) where
 k:Con U
 kY:Con U
 c:CallE U
 rn:List (Nat×Nat)
 jl:Nat
 jump:Option Code
def rfOf (E:Env U) (s:St U) (g:Operand) (ps:List Nat) (a c:Code) (lid:Nat):Option (RF U):=
 match ao9 (ev s.σ g) with
 |some (f,ids)=>match (E.it f).filter (fun x=>x.1.gh.all fun y=>(look y.2 s.h).isSome) with
  |(k,kY,mp)::_=>match as7 (write lid (.loop 0) s.h) 64 (lid::(ids++k.gh.map (·.2))) [] with
   |R=>match ae8 (sub (write lid (.loop 0) s.h) R) [] none { k with yl:=[] } (.one (.yld lid)::ids.map fun id=>.one (.ptr id 0)) with
    |some ce=>match F7 k.args (.one (.yld lid)::ids.map fun id=>.one (.ptr id 0)) with
     |some cs=>match ao8 (sub (write lid (.loop 0) s.h) R) k cs with
      |some (_,m)=>match bY9 kY.ain,ab7 [] c with
       |some jl,js=>bif (look lid s.h).isNone&&Nat.blt lid 1000000&&E.yl.isEmpty&&noRF a&&noRF c&&(ab7 [] a).isEmpty&&ce.news.isEmpty&&k.yl.all (fun x=>Nat.beq x.1 x.2)&&ca7 kY.oin&&Nat.beq kY.args.length (ps.length+1)&&Nat.blt jl kY.oin.length
         &&(mp.all fun x=>match kY.oin[x.1]? with
          |some (.row _)=>true
          |some (.ms _)=>true
          |some _=>(kY.yl.any fun y=>Nat.beq y.1 x.2&&Nat.beq y.2 x.1)&&(look x.2 m.ι).isSome
          |none=>false)&&(mp.any fun x=>Nat.beq x.1 jl&&(look x.2 m.ι==some lid))&&(match (D5 kY.args kY.ain)[ps.length]? with
          |some (false,[.yld j'])=>Nat.beq j' jl
          |_=>false)&&(kY.res==[(false,1)]) then (match js with
        |[]=>some ⟨k,kY,ce,rnOf kY m mp,jl,none⟩
        |[j]=>some ⟨k,kY,ce,rnOf kY m mp,jl,some j⟩
        |_=>none) else none
       |_,_=>none
      |none=>none
     |none=>none
    |none=>none
  |_=>none
 |none=>none
def bq0 (E:Env U) (s:St U):List Oper→Option (Nat×Nat×PV U×Bool×Prop)
 |[o1,o2]=>match o1.op,o1.dst,o1.guard,o2.op,o2.dst,o2.guard with
  | .move x,some j,none,.binOp op t (.tmp j') (.const (.slice none 0 0)) _,some p,none=>match (match op with
    | .eql=>some true
    | .neq=>some false
    |_=>none) with
   |some q=>bif Nat.beq j' j&&!(Nat.beq p j) then (match E.P.underlying t with
    |some (.slice _)=>match ev s.σ x with
     | .one (.d ⟨.slice e t',l⟩)=>some (j,p,.one (.d ⟨.slice e t',l⟩),q,l=[])
     |_=>none
    |_=>none) else none
   |none=>none
  |_,_,_,_,_,_=>none
 |_=>none
structure NextE (U:Univ) where
 j:Nat
 p:Nat
 id:Nat
 mid:Nat
 kt:Ty
 vt:Ty
 l:List (den U.T kt×den U.T vt)
 n:Nat
 seen:List Nat
def bq1 (s:St U):List Oper→Option (NextE U)
 |[o1,o2]=>match o1.op,o1.dst,o1.guard,o2.op,o2.dst,o2.guard with
  | .next x false,some j,none,.extract (.tmp j') 0,some p,none=>bif Nat.beq j' j&&!(Nat.beq p j) then (match ev s.σ x with
   | .one (.dc id (.it mid))=>match look id s.h,look mid s.h with
    |some (.dp (.iter (some mid') kt vt n seen _)),some (.map kt' vt' l)=>bif Nat.beq mid mid'&&(kt==kt'&&vt==vt') then some ⟨j,p,id,mid,kt',vt',l,n,seen⟩ else none
    |_,_=>none
   |_=>none) else none
  |_,_,_,_,_,_=>none
 |_=>none
def NextE.st (x:NextE U) (s:St U) (b:Bool) (h:Obs U):St U:=⟨write x.p (.one (.d ⟨.bool,b⟩)) (write x.j .un s.σ),h⟩
def NextE.wp (x:NextE U) (s:St U) (Q:St U→Prop):Prop:=
 List.length x.l=x.n∧(∀ i,i<x.n→i∉x.seen→Q (x.st s true (write x.id (.dp (.iter (some x.mid) x.kt x.vt x.n (x.seen++[i]) i)) s.h)))∧((∀ i,i<x.n→i∈x.seen)→Q (x.st s false s.h))
def aw1 (t:Bool) (x y:Datum U):Option (Datum U):=
 match x.as y.1 with
 |some v=>some ⟨y.1,bif t then v else y.2⟩
 |none=>none
def aL1 (t:Bool):Cell U→Cell U→Cell U
 | .d x,.d y=>match aw1 t x y with
  |some z=>.d z
  |none=>.un
 | .lit (.slice none 0 0),.lit (.slice none 0 0)=>.lit (.slice none 0 0)
 | .d ⟨.slice e y,l⟩,.lit (.slice none 0 0)=>.d ⟨.slice e y,bif t then l else []⟩
 | .lit (.slice none 0 0),.d ⟨.slice e y,l⟩=>.d ⟨.slice e y,bif t then [] else l⟩
 | .row a b,.row a' b'=>bif Nat.beq a a'&&Nat.beq b b' then .row a b else .un
 | .ptr a b,.ptr a' b'=>bif Nat.beq a a'&&Nat.beq b b' then .ptr a b else .un
 | .map a,.map a'=>bif Nat.beq a a' then .map a else .un
 | .gl a,.gl a'=>bif Nat.beq a a' then .gl a else .un
 | .yld a,.yld a'=>bif Nat.beq a a' then .yld a else .un
 | .clo f a,.clo f' a'=>bif Nat.beq f f'&&(a==a') then .clo f a else .un
 | .bnd f a,.bnd f' a'=>bif Nat.beq f f'&&Nat.beq a a' then .bnd f a else .un
 | .dc id (.self v),.dc id' (.self v')=>bif Nat.beq id id'&&Nat.beq v v' then .dc id (.self v) else .un
 | .lit (.func (.func f) a b),.lit (.func (.func f') a' b')=>bif Nat.beq f f'&&(Nat.beq a.size 0&&Nat.beq b.size 0&&(Nat.beq a'.size 0&&Nat.beq b'.size 0)) then .lit (.func (.func f) a b) else .un
 |_,_=>.un
def zipC (t:Bool):List (Cell U)→List (Cell U)→List (Cell U)
 |x::r,y::r'=>aL1 t x y::zipC t r r'
 |_,_=>[]
def ap3 (t:Bool):PV U→PV U→PV U
 | .one x,.one y=>.one (aL1 t x y)
 | .agg xs,.agg ys=>bif Nat.beq xs.length ys.length then .agg (zipC t xs ys) else .un
 |_,_=>.un
def aY8 (t:Bool):Ob U→Ob U→Option (Ob U)
 | .box e xs,.box e' ys=>bif Nat.beq e e'&&Nat.beq xs.length ys.length then some (.box e (zipC t xs ys)) else none
 | .row e y l v lv,.row e' y' l' v' lv'=>bif Nat.beq v v'&&(lv==lv') then (match aw1 t ⟨.slice e y,l⟩ ⟨.slice e' y',l'⟩ with
  |some ⟨.slice e2 y2,l2⟩=>some (.row e2 y2 l2 v lv)
  |_=>none) else none
 | .map k v l,.map k' v' l'=>match aw1 t ⟨.map k v,l⟩ ⟨.map k' v',l'⟩ with
  |some ⟨.map k2 v2,l2⟩=>some (.map k2 v2 l2)
  |_=>none
 | .loop st,.loop st'=>some (.loop (bif t then st else st'))
 | .dp (.rows e y m l v iv lv none),.dp (.rows e' y' m' l' v' iv' lv' none)=>bif (m==m'&&Nat.beq v v')&&(Nat.beq iv iv'&&(lv==lv')) then (match aw1 t ⟨.slice e y,l⟩ ⟨.slice e' y',l'⟩ with
  |some ⟨.slice e2 y2,l2⟩=>some (.dp (.rows e2 y2 m l2 v iv lv none))
  |_=>none) else none
 |_,_=>none
def aL2 (t:Bool):Obs U→Obs U→Option (Obs U)
 |[],[]=>some []
 |(k,x)::r,(k',y)::r'=>bif Nat.beq k k' then (match aY8 t x y with
  |some z=>match aL2 t r r' with
   |some q=>some ((k,z)::q)
   |none=>none
  |none=>none) else none
 |_,_=>none
def aY9 (t:Bool):List (Nat×PV U)→List (Nat×PV U)→List (Nat×PV U)
 |[],_=>[]
 |(k,x)::r,σ=>match look k σ with
  |some y=>(k,ap3 t x y)::aY9 t r σ
  |none=>aY9 t r σ
def St.merge (t:Bool) (ids:List Nat) (a b:St U):Option (St U):=
 match a.keep (bh6 a.σ) ids,b.keep (bh6 b.σ) ids with
 |a,b=>match aL2 t a.h b.h with
  |some h=>some ⟨aY9 t a.σ b.σ,h⟩
  |none=>none
def Q2:Code→Bool
 | .skip=>true
 | .region .. =>true
 | .seq a b=>Q2 a&&Q2 b
 | .cond _ a b=>Q2 a&&Q2 b
 | .scope a=>Q2 a
 | .block _ a=>Q2 a
 |_=>false
def bE8:Option Prop→Option Prop→Option Prop
 |none,q=>q
 |some p,none=>some p
 |some p,some q=>some (p∧q)
def impO (b:Prop):Option Prop→Option Prop
 |none=>none
 |some p=>some (b→p)
def at0:List (Wr U)→Option (Option Prop)
 |[]=>some none
 |x::r=>match x.pan,x.fact,at0 r with
  |none,none,some q=>some (bE8 x.obl q)
  |_,_,_=>none
def regS (E:Env U) (X:Nat) (d:Bool) (ops:List Oper) (s:St U):Option (Option Prop×St U):=
 match av9 E ops (osOf d ops) s with
 |some [(xs,s')]=>bif !d||aK4 [] xs (O4 (V9 d ops) (osOf d ops) []) then (match at0 xs with
  |some p=>some (p,s'.cut X)
  |none=>none) else none
 |_=>none
def runS (E:Env U) (X:Nat):Code→St U→Option (Option Prop×St U)
 | .skip,s=>some (none,s)
 | .region _ ops d,s=>match bif d then none else bq0 E s ops.toList with
  |some _=>none
  |none=>match bif d then none else bq1 s ops.toList with
  |some _=>none
  |none=>bif !d&&(I6 ops.toList&&aY4 ops.toList) then regS E X false (ak1 E.P ops.toList) s else regS E X d ops.toList s
 | .seq a b,s=>match runS E X a s with
  |some (p,s1)=>match runS E X b s1 with
   |some (q,s2)=>some (bE8 p q,s2)
   |none=>none
  |none=>none
 | .cond c a b,s=>match ev s.σ c with
  | .one (.d ⟨.bool,t⟩)=>match runS E X a s with
   |some (p,s1)=>match runS E X b s with
    |some (q,s2)=>match St.merge t (keys s.h) s1 s2 with
     |some m=>some (bE8 (impO (t=true) p) (impO (t=false) q),m)
     |none=>none
    |none=>none
   |none=>none
  |_=>none
 | .scope a,s=>runS E X a s
 | .block _ a,s=>runS E X a s
 |_,_=>none
def ca9:Option Prop→Prop→Prop
 |none,q=>q
 |some p,q=>p∧q
def wpc (E:Env U) (X:Nat) (L:Nat→St U→Ann U):Code→Nat→St U→(Way U→St U→Prop)→Prop
 | .skip,_,s,Q=>Q .normal s
 | .region id ops d,_,s,Q=>match bif d then none else bq0 E s ops.toList with
  |some (j,p,v,q,e)=>∀ b:Bool,(b=true→e)→Q .normal ⟨write p (.one (.d ⟨.bool,bif q then b else !b⟩)) (write j v s.σ),s.h⟩
  |none=>match bif d then none else bq1 s ops.toList with
  |some x=>x.wp s (Q .normal)
  |none=>bif !d&&(I6 ops.toList&&aY4 ops.toList) then region E X id false (ak1 E.P ops.toList) s (fun _ _=>False) (Q .normal) else region E X id d ops.toList s (fun v=>Q (.panic v)) (Q .normal)
 | .seq a b,n,s,Q=>wpc E X L a n s (fun e s'=>match e with
   | .normal=>wpc E X L b (n+ab8 a) s' Q
   |e=>Q e s')
 | .cond c a b,n,s,Q=>match bif E.mg&&Q2 (.cond c a b) then runS E X (.cond c a b) s else none with
  |some (p,s')=>ca9 p (Q .normal s')
  |none=>match ev s.σ c with
   | .one (.d ⟨.bool,t⟩)=>(t=true→wpc E X L a n s Q)∧(t=false→wpc E X L b (n+ab8 a) s Q)
   |_=>Bad 4000 n
 | .block id a,n,s,Q=>wpc E X L a n s (fun e s'=>match e with
   | .exit id'=>if Nat.beq id' id then Q .normal s' else Q (.exit id') s'
   |e=>Q e s')
 | .loop a,n,s,Q=>match L n s with
  |A=>match X6 s A.nils with
  |s=>match s.keep (S7 s a A) (keys s.h) with
  |s0=>(∃ p,eqSt s0 (aw0 s0 A.at_ (A9 U A.tys p)) (A.inv p))∧
   ∀ p,A.inv p→wpc E X L a (n+1) (aw0 s0 A.at_ (A9 U A.tys p)) (fun e s'=>match e with
    | .normal=>∃ p',eqSt (s'.keep (S7 s a A) (keys s.h)) (aw0 s0 A.at_ (A9 U A.tys p')) (A.inv p'∧A.μ p'<A.μ p)
    |e=>Q e s')
 | .exit id,_,s,Q=>Q (.exit id) s
 | .label _,_,s,Q=>Q .normal s
 | .scope a,n,s,Q=>wpc E X L a n s Q
 | .ret,_,s,Q=>Q .ret s
 | .rangeFunc g ps a c,n,s,Q=>match X6 s (L (n+(ab8 a+ab8 c)) s).nils with
  |s=>match rfOf E s g ps.toList a c (990000+n) with
  |some r=>(∀ xs:Dens U.T r.kY.params,holds (r.kY.pre.map fun p=>p xs)→aC1 (aS1 (A9 U r.kY.params xs) (datC r.kY.ain++datO r.kY.oin)) (match bE5 (A9 U r.kY.params xs) r.kY.oin r.jl with
    |some st=>st=0∧wpc E X L a n (bE6 r.kY r.rn ps.toList r.jl s.σ (A9 U r.kY.params xs)) (fun e s'=>match e with
     | .normal=>wpc E X L c (n+ab8 a) s' (aS2 r.kY xs r.jl r.jump)
     |_=>Bad 4014 n)
    |none=>Bad 4015 n))∧
   holds r.c.e.obl∧(match r.c.pan with
    |some (b,v)=>(b=true→Q (.panic v) ((⟨s.σ,write (990000+n) (.loop 0) s.h⟩:St U).less (keys r.c.e.upd++r.c.lost)))∧(b=false→(match look (990000+n) (upds (write (990000+n) (.loop 0) s.h) r.c.e.upd) with
     |some (.loop st)=>bp9 r.jump st ((⟨s.σ,upds (write (990000+n) (.loop 0) s.h) r.c.e.upd⟩:St U).less [990000+n]) Q
     |_=>Bad 4016 n))
    |none=>match look (990000+n) (upds (write (990000+n) (.loop 0) s.h) r.c.e.upd) with
     |some (.loop st)=>bp9 r.jump st ((⟨s.σ,upds (write (990000+n) (.loop 0) s.h) r.c.e.upd⟩:St U).less [990000+n]) Q
     |_=>Bad 4016 n)
  |none=>Bad 4017 n
 |_,n,_,_=>Bad 4001 n
def af2 (P:Program) (s:St U):List ResultVar→Option (List (PV U))
 |[]=>some []
 | .tmp t::r=>(af2 P s r).map (ev s.σ (.tmp t)::·)
 | .cell a t::r=>match ev s.σ (.tmp a) with
  | .one (.ptr id off)=>match look id s.h with
   |some (.box _ cs)=>match aB3 P t (cs.drop off) with
    |some v=>(af2 P s r).map (v::·)
    |none=>none
   |_=>none
  |_=>none
def Q3:List (Bool×List (Cell U))→Nat→List (Nat×PV U)
 |[],_=>[]
 |(b,cs)::r,i=>(i,match b with
  |true=>.agg cs
  |false=>match cs with
   |[c]=>.one c
   |_=>.un)::Q3 r (i+1)
def St.init (k:Con U) (ds:List (Datum U)):St U:=⟨Q3 (D5 k.args (k.ain.map (iC ds oid (fun _=>0)))) 0,iOs ds oid (fun _=>0) 0 k.oin⟩
def post (P:Program) (f:Func) (k:Con U) (xs:Dens U.T k.params) (s:St U):Prop:=
 match af2 P s f.results.toList with
 |some vs=>match F7 k.res vs with
  |some cs=>bh8 k xs s.h cs
  |none=>Bad 2001 0
 |none=>Bad 2000 0
def vc (E:Env U) (L:Nat→St U→Ann U) (f:Func) (k:Con U) (xs:Dens U.T k.params):Prop:=
 match f.body with
 |some b=>bif K6 f.ntmps b&&Nat.ble k.args.length f.ntmps&&(noRF b||E.yl.isEmpty) then aC1 (aS1 (A9 U k.params xs) (datC k.ain++datO k.oin)) (wpc E (cn3 f b) L b 0 (St.init k (A9 U k.params xs)) (fun e s=>match e with
   | .exit _=>Bad 3002 0
   | .panic v=>bE7 k xs v
   |_=>post E.P f k xs s)) else Bad 3001 0
 |none=>Bad 3000 0
end
end Go.VT
end
section
namespace Go.VT
noncomputable section
open Go.RowKit
variable {U:Univ}
def D8:Value→Option Nat
 | .pointer (some a)=>some a.block
 | .slice (some a) _ _=>some a.block
 | .map (some b)=>some b
 | .func (.yield l) _ _=>some l
 |_=>none
def Has:Value→Nat→Prop
 | .tuple vs,b=>∃ u∈vs.toList,D8 u=some b
 |v,b=>D8 v=some b
structure Nm where
 v:Nat→Value
 M:Nat→Prop
 lp:Nat→Loop×(Int→Option Code)
instance:CoeFun Nm (fun _=>Nat→Value):=⟨Nm.v⟩
structure Fr where
 B:Nat
 w0:World
 K:Nat→Prop
 M:Nat→Prop
 nm:Nat→Option (Value×Loop×(Int→Option Code))
 G:List (Nat×Glob)
def VIs (w:World) (M:Nat→Prop) (t:Ty) (x:den U.T t) (v:Value):Prop:=
 ∃ vs:List Value,v=aX7 (H4 t) vs∧vs.length=szOf U t∧(∀ u∈vs,u.oneCell'=true)∧∀ (j:Nat) (d:Datum U) (u:Value),(B4 U t x)[j]? =some d→vs[j]? =some u→Rep U w M d u
theorem VIs.mono {w w':World} {M M':Nat→Prop} (hs:w.heap.size≤w'.heap.size) (hw:∀ b,b<w.heap.size→¬ M b→w'.heap[b]? =w.heap[b]?) (hM:∀ b,b<w.heap.size→M' b→M b) {t:Ty} {x:den U.T t} {v:Value} (h:VIs w M t x v):VIs w' M' t x v:=by
 obtain ⟨vs,h1,h2,h3,h4⟩:=h
 exact ⟨vs,h1,h2,h3,fun j d u hd hu=>(h4 j d u hd hu).mono hs hw hM⟩
def Own (β:Nm) (h:Obs U) (b:Nat):Prop:=∃ id o,look id h=some o∧o.live=true∧Has (β id) b
def Owns (w:World) (B:Nat) (e:TypeId) (size:Nat) (v:Value) (n:Nat) (xs:List Value):Prop:=
 xs.length=n*size∧((v=.slice none 0 0∧n=0)∨
  ∃ g cap cur,v=.slice (some ⟨g,0,none⟩) n cap∧B≤g∧w.heap[g]? =some (.cells cur e (0,0))∧n≤cap∧cap≤maxLen∧cap*size≤cur.size∧cur.toList.take (n*size)=xs)
theorem Owns.of {w:World} {B:Nat} {e:TypeId} {size:Nat} {v:Value} {n:Nat} {xs:List Value} (h:w.ownsRow B e size v n xs):Owns w B e size v n xs:=by
 obtain ⟨h1,h2⟩:=h
 refine ⟨h1,?_⟩
 rcases h2 with h2|⟨g,cap,cur,q1,q2,q3,q4,q5,q6,q7⟩
 ·exact .inl h2
 ·exact .inr ⟨g,cap,cur,q1,q2,q3,q4,q5,Nat.le_of_eq q6.symm,q7⟩
theorem Owns.lt {w:World} {B:Nat} {e:TypeId} {size:Nat} {v:Value} {n:Nat} {xs:List Value} (h:Owns w B e size v n xs) {b:Nat} (hb:D8 v=some b):B≤b∧b<w.heap.size:=by
 rcases h.2 with ⟨h3,_⟩|⟨g,cap,cur,h3,hB,hg,_⟩
 ·rw [h3] at hb;simp [D8] at hb
 ·rw [h3] at hb
  simp only [D8,co4] at hb
  subst hb
  exact ⟨hB,(cq2.1 hg).1⟩
theorem Owns.kept {w w':World} {B:Nat} {e:TypeId} {size:Nat} {v:Value} {n:Nat} {xs:List Value} (h:Owns w B e size v n xs) (hb:∀ b,D8 v=some b→w'.heap[b]? =w.heap[b]?):Owns w' B e size v n xs:=by
 obtain ⟨h4,h5⟩:=h
 refine ⟨h4,?_⟩
 rcases h5 with h5|⟨g,cap,cur,hv,hg,hh,r⟩
 ·exact .inl h5
 ·exact .inr ⟨g,cap,cur,hv,hg,by rw [hb g (by rw [hv];rfl)];exact hh,r⟩
theorem Owns.cells {w:World} {B:Nat} {e:TypeId} {size:Nat} {v:Value} {n:Nat} {xs:List Value} (h:Owns w B e size v n xs) {g:Nat} (hg:D8 v=some g):∀ j u,xs[j]? =some u→w.cell? ⟨g,j,none⟩=some u:=by
 intro j u hu
 rcases h.2 with ⟨h3,_⟩|⟨g',cap,cur,h3,hB,hh,_,_,_,ht⟩
 ·rw [h3] at hg;simp [D8] at hg
 ·rw [h3] at hg
  simp only [D8,co4] at hg
  subst hg
  rw [←ht,List.getElem?_take] at hu
  split at hu
  ·have hc:cur[j]? =some u:=by simpa using hu
   simp [World.cell?,hh,hc]
  ·cases hu
theorem Owns.has {w:World} {B:Nat} {e:TypeId} {size:Nat} {v:Value} {n:Nat} {xs:List Value} (h:Owns w B e size v n xs) {b:Nat} (hb:D8 v=some b):Has v b:=by
 rcases h.2 with ⟨h3,_⟩|⟨_,_,_,h3,_⟩<;>rw [h3] at hb ⊢<;>exact hb
theorem Owns.has' {w:World} {B:Nat} {e:TypeId} {size:Nat} {v:Value} {n:Nat} {xs:List Value} (h:Owns w B e size v n xs) {b:Nat} (hb:Has v b):D8 v=some b:=by
 rcases h.2 with ⟨h3,_⟩|⟨_,_,_,h3,_⟩<;>rw [h3] at hb ⊢<;>exact hb
def RowC (B:Nat) (w:World) (L:Nat→Prop) (e:TypeId) (t:Ty) (l:List (den U.T t)) (v:Value):Prop:=
 ∃ xs:List Value,Owns w B e (szOf U t) v l.length xs∧l.length≤most∧(∀ v∈xs,v.oneCell'=true)∧
  ∀ (i:Nat) (x:den U.T t),l[i]? =some x→∀ (j:Nat) (d:Datum U),(B4 U t x)[j]? =some d→∃ u,xs[i*szOf U t+j]? =some u∧Rep U w L d u
theorem RowC.map {B:Nat} {w w':World} {L L':Nat→Prop} {e:TypeId} {t:Ty} {l:List (den U.T t)} {v:Value} (hrep:∀ d v,Rep U w L d v→Rep U w' L' d v) (hb:∀ b,D8 v=some b→w'.heap[b]? =w.heap[b]?) (r:RowC B w L e t l v):RowC B w' L' e t l v:=by
 obtain ⟨xs,h1,h2,h3,h4⟩:=r
 refine ⟨xs,h1.kept hb,h2,h3,fun i x hx j d hd=>?_⟩
 obtain ⟨u,hu,hr⟩:=h4 i x hx j d hd
 exact ⟨u,hu,hrep _ _ hr⟩
def midx (kt:Ty) {β:Type} (l:List (den U.T kt×β)) (k:den U.T kt):Option Nat:=mget (E7 U kt) (l.mapIdx fun i x=>(x.1,i)) k
def DCRel (D:Deep U) (N:Value) (c:DC U) (v:Value):Prop:=
 match D,c with
 | .rows e t m l ver iv lv hole,.self v0=>v0≤ver∧(v0=ver→∃ vs:Array Value,N=.tuple vs∧vs[0]? =some v)
 | .rows e t m l ver iv lv hole,.elt v0 i off=>v0≤ver∧(v0=ver→0≤i∧i<(l.length:Int)∧∃ (vs:Array Value) (g c:Nat),N=.tuple vs∧vs[0]? =some (.slice (some ⟨g,0,none⟩) l.length c)∧v=.pointer (some ⟨g,i.toNat*szOf U t+off,none⟩))
 | .rows e t m l ver iv lv hole,.inn v0 i j=>v0≤iv∧(v0=iv→0≤i∧i<(l.length:Int)∧m.any (Nat.beq j)=true∧∃ vs:Array Value,N=.tuple vs∧vs[1+(i.toNat*szOf U t+j)]? =some v)
 | .rows e t m l ver iv lv hole,.iat v0 i j k off=>v0≤iv∧(v0=iv→0≤i∧i<(l.length:Int)∧m.any (Nat.beq j)=true∧0≤k∧∃ (vs:Array Value) (g c:Nat) (e':TypeId) (t':Ty) (l':List (den U.T t')),N=.tuple vs∧vs[1+(i.toNat*szOf U t+j)]? =some (.slice (some ⟨g,0,none⟩) l'.length c)∧
   J7 t l i j=some ⟨.slice e' t',l'⟩∧k<(l'.length:Int)∧v=.pointer (some ⟨g,k.toNat*szOf U t'+off,none⟩))
 | .maps kt e t l ver iv lv hole,.self v0=>v0≤ver∧(v0=ver→∃ vs:Array Value,N=.tuple vs∧vs[0]? =some v)
 | .maps kt e t l ver iv lv hole,.key v0 d=>v0≤iv∧(v0=iv→∃ (k:den U.T kt) (vs:Array Value),d=⟨kt,k⟩∧N=.tuple vs∧((∃ i,midx kt l k=some i∧vs[1+i]? =some v)∨midx kt l k=none∧v=.slice none 0 0))
 | .iter mid kt vt n seen cur,.it mid'=>mid=some mid'∧v=N
 |_,_=>False
def Live (β:Nm) (h:Obs U) (b:Nat):Prop:=β.M b∨Own β h b
def CRel (w:World) (β:Nm) (h:Obs U):Cell U→Value→Prop
 | .un,_=>True
 | .d x,v=>Rep U w (Live β h) x v
 | .row id ver,v=>∃ e t l ver' lv,look id h=some (.row e t l ver' lv)∧ver≤ver'∧(ver=ver'→v=β id)
 | .ptr id off,v=>∃ e cs b,look id h=some (.box e cs)∧β id=.pointer (some ⟨b,0,none⟩)∧v=.pointer (some ⟨b,off,none⟩)
 | .elt id ver i off,v=>∃ e t l ver' lv,look id h=some (.row e t l ver' lv)∧ver≤ver'∧(ver=ver'→0≤i∧i<(l.length:Int)∧
   ∃ g c,β id=.slice (some ⟨g,0,none⟩) l.length c∧v=.pointer (some ⟨g,i.toNat*szOf U t+off,none⟩))
 | .rd cs off,v=>∃ g o,v=.pointer (some ⟨g,o+off,none⟩)∧¬ Live β h g∧g<w.heap.size∧
   ∀ (j:Nat) (d:Datum U),cs[j]? =some d→∃ u,w.cell? ⟨g,o+j,none⟩=some u∧Rep U w (Live β h) d u
 | .gl g,v=>v=.pointer (some ⟨g,0,none⟩)
 | .lit u,v=>v=u
 | .map id,v=>∃ kt vt l,look id h=some (.map kt vt l)∧v=β id
 | .clo f ids,v=>∃ bs:List Nat,v=.func (.func f) #[] (bs.map fun b=>Value.pointer (some ⟨b,0,none⟩)).toArray∧bs.length=ids.length∧
   ∀ (j id b:Nat),ids[j]? =some id→bs[j]? =some b→∃ e cs,look id h=some (.box e cs)∧β id=.pointer (some ⟨b,0,none⟩)
 | .yld id,v=>∃ st,look id h=some (.loop st)∧v=β id
 | .ifc t b ds,v=>∃ vs:List Value,v=.iface t (aX7 b vs)∧vs.length=ds.length∧(b=false→vs.length=1)∧(∀ u∈vs,u.oneCell'=true)∧∀ (j:Nat) (d:Datum U) (u:Value),ds[j]? =some d→vs[j]? =some u→Rep U w (Live β h) d u
 | .tab g i,v=>0≤i∧v=.pointer (some ⟨g,i.toNat,none⟩)
 | .tabf fs i,v=>∃ f,fs[i.toNat]? =some f∧v=.func (.func f) #[] #[]
 | .dc id c,v=>∃ D,look id h=some (.dp D)∧DCRel D (β id) c v
 | .bnd f id,v=>∃ e cs b,look id h=some (.box e cs)∧β id=.pointer (some ⟨b,0,none⟩)∧v=.func (.func f) #[.pointer (some ⟨b,0,none⟩)] #[]
def InnR (B:Nat) (w:World) (L:Nat→Prop) (m:List Nat) (hole:Option (Int×Nat)) (i j:Nat) (d:Datum U) (u n:Value):Prop:=
 (m.any (Nat.beq j)=true→((∃ hi:Int,hole=some (hi,j)∧hi.toNat=i)→n=undef)∧((¬ ∃ hi:Int,hole=some (hi,j)∧hi.toNat=i)→n=u∧∃ (e:TypeId) (t:Ty) (l:List (den U.T t)),d=⟨.slice e t,l⟩∧RowC B w L e t l u))∧
 (m.any (Nat.beq j)=false→n=undef∧Rep U w L d u)
def DRel (B:Nat) (w:World) (β:Nm) (h:Obs U) (D:Deep U) (N:Value):Prop:=
 match D with
 | .rows e t m l ver iv lv hole=>∃ (root:Value) (xs ns:List Value),N=.tuple (root::ns).toArray∧Owns w B e (szOf U t) root l.length xs∧l.length≤most∧(∀ v∈xs,v.oneCell'=true)∧ns.length=xs.length∧
   (∀ (i:Nat) (x:den U.T t),l[i]? =some x→∀ (j:Nat) (d:Datum U),(B4 U t x)[j]? =some d→∃ u n,xs[i*szOf U t+j]? =some u∧ns[i*szOf U t+j]? =some n∧InnR B w (Live β h) m hole i j d u n)∧
   (∀ (p q:Nat) (a c:Value) (b:Nat),ns[p]? =some a→ns[q]? =some c→D8 a=some b→D8 c=some b→p=q)∧(∀ (p:Nat) (a:Value) (b:Nat),ns[p]? =some a→D8 a=some b→D8 root≠some b)
 | .maps kt e t l ver iv lv hole=>∃ (b:Nat) (es:Array MapEntry) (clock:Nat) (ns:List Value),N=.tuple ((.map (some b):Value)::ns).toArray∧B≤b∧w.heap[b]? =some (.map es clock)∧(es.size=l.length∧clock=es.size∧∀ (i:Nat) (e:MapEntry),es[i]? =some e→e.born=i)∧ns.length=l.length∧
   (∀ (i:Nat) (x:den U.T kt×List (den U.T t)) (en:MapEntry) (n:Value),l[i]? =some x→es[i]? =some en→ns[i]? =some n→VIs w (Live β h) kt x.1 en.key∧((∃ k,hole=some k∧midx kt l k=some i)→n=undef)∧((¬ ∃ k,hole=some k∧midx kt l k=some i)→n=en.val∧RowC B w (Live β h) e t x.2 n))∧
   (∀ (p q:Nat) (a c:Value) (b:Nat),ns[p]? =some a→ns[q]? =some c→D8 a=some b→D8 c=some b→p=q)∧(∀ (p:Nat) (a:Value),ns[p]? =some a→D8 a≠some b)
 | .iter mid kt vt n seen cur=>∃ r b last,N=.pointer (some ⟨r,0,none⟩)∧B≤r∧w.heap[r]? =some (.mapIter (some b) n seen.toArray last)∧(seen≠[]→0<last∧last=n)∧∀ m,mid=some m→CRel w β h (.map m) (.map (some b))
theorem VIs.by {w w':World} {M M':Nat→Prop} (hrep:∀ d v,Rep U w M d v→Rep U w' M' d v) {t:Ty} {x:den U.T t} {v:Value} (h:VIs w M t x v):VIs w' M' t x v:=by
 obtain ⟨vs,h1,h2,h3,h4⟩:=h
 exact ⟨vs,h1,h2,h3,fun j d u hd hu=>hrep _ _ (h4 j d u hd hu)⟩
theorem DRel.mapM {B:Nat} {w w':World} {β β':Nm} {h h':Obs U} {kt:Ty} {e:TypeId} {t:Ty} {l:List (den U.T kt×List (den U.T t))} {ver iv ver' iv':Nat} {lv lv':Bool} {hole:Option (den U.T kt)} {N:Value}
  (hrep:∀ d v,Rep U w (Live β h) d v→Rep U w' (Live β' h') d v)
  (hb:∀ b,Has N b→w'.heap[b]? =w.heap[b]?) (r:DRel B w β h (.maps kt e t l ver iv lv hole) N):DRel B w' β' h' (.maps kt e t l ver' iv' lv' hole) N:=by
 obtain ⟨b,es,clock,ns,hN,h1,h2,h3,h4,h5,h6,h7⟩:=r
 subst hN
 refine ⟨b,es,clock,ns,rfl,h1,by rw [hb b ⟨.map (some b),by simp,rfl⟩];exact h2,h3,h4,fun i x en n hx hen hn=>?_,h6,h7⟩
 obtain ⟨q1,q2,q3⟩:=h5 i x en n hx hen hn
 refine ⟨q1.by hrep,q2,fun hh=>?_⟩
 obtain ⟨r1,r2⟩:=q3 hh
 refine ⟨r1,r2.map hrep (fun b hbb=>hb b ⟨n,?_,hbb⟩)⟩
 simp only [List.mem_cons]
 exact .inr (List.mem_of_getElem? hn)
theorem DRel.map {B:Nat} {w w':World} {β β':Nm} {h h':Obs U} {D:Deep U} {N:Value} (hrep:∀ d v,Rep U w (Live β h) d v→Rep U w' (Live β' h') d v) (hmap:∀ mid v,CRel w β h (.map mid) v→CRel w' β' h' (.map mid) v)
  (hb:∀ b,Has N b→w'.heap[b]? =w.heap[b]?) (r:DRel B w β h D N):DRel B w' β' h' D N:=by
 cases D with
 |rows e t m l ver iv lv hole=>
  obtain ⟨root,xs,ns,hN,h1,h2,h3,h4,h5,h6,h7⟩:=r
  subst hN
  refine ⟨root,xs,ns,rfl,h1.kept (fun b hbb=>hb b ⟨root,by simp,hbb⟩),h2,h3,h4,fun i x hx j d hd=>?_,h6,h7⟩
  obtain ⟨u,n,hu,hn,q1,q2⟩:=h5 i x hx j d hd
  refine ⟨u,n,hu,hn,fun hm=>⟨(q1 hm).1,fun hh=>?_⟩,fun hm=>⟨(q2 hm).1,hrep _ _ (q2 hm).2⟩⟩
  obtain ⟨r1,e',t',l',r2,r3⟩:=(q1 hm).2 hh
  refine ⟨r1,e',t',l',r2,r3.map hrep (fun b hbb=>hb b ⟨n,?_,by rw [r1];exact hbb⟩)⟩
  simp only [List.mem_cons]
  exact .inr (List.mem_of_getElem? hn)
 |maps kt e t l ver iv lv hole=>exact DRel.mapM hrep hb r
 |iter mid kt vt n seen cur=>
  obtain ⟨q,b,last,hN,h1,h2,h3,h4⟩:=r
  subst hN
  exact ⟨q,b,last,rfl,h1,by rw [hb q rfl];exact h2,h3,fun m hm=>hmap _ _ (h4 m hm)⟩
theorem DRel.mapR {B:Nat} {w w':World} {β β':Nm} {h h':Obs U} {e:TypeId} {t:Ty} {m:List Nat} {l:List (den U.T t)} {ver iv ver' iv':Nat} {lv lv':Bool} {hole:Option (Int×Nat)} {N:Value} (hrep:∀ d v,Rep U w (Live β h) d v→Rep U w' (Live β' h') d v)
  (hb:∀ b,Has N b→w'.heap[b]? =w.heap[b]?) (r:DRel B w β h (.rows e t m l ver iv lv hole) N):DRel B w' β' h' (.rows e t m l ver' iv' lv' hole) N:=by
 obtain ⟨root,xs,ns,hN,h1,h2,h3,h4,h5,h6,h7⟩:=r
 subst hN
 refine ⟨root,xs,ns,rfl,h1.kept (fun b hbb=>hb b ⟨root,by simp,hbb⟩),h2,h3,h4,fun i x hx j d hd=>?_,h6,h7⟩
 obtain ⟨u,n,hu,hn,q1,q2⟩:=h5 i x hx j d hd
 refine ⟨u,n,hu,hn,fun hm=>⟨(q1 hm).1,fun hh=>?_⟩,fun hm=>⟨(q2 hm).1,hrep _ _ (q2 hm).2⟩⟩
 obtain ⟨r1,e',t',l',r2,r3⟩:=(q1 hm).2 hh
 refine ⟨r1,e',t',l',r2,r3.map hrep (fun b hbb=>hb b ⟨n,?_,by rw [r1];exact hbb⟩)⟩
 simp only [List.mem_cons]
 exact .inr (List.mem_of_getElem? hn)
theorem DRel.blk {B:Nat} {w:World} {β:Nm} {h:Obs U} {D:Deep U} {N:Value} (r:DRel B w β h D N) {b:Nat} (hb:Has N b):B≤b∧b<w.heap.size:=by
 cases D with
 |rows e t m l ver iv lv hole=>
  obtain ⟨root,xs,ns,hN,h1,h2,h3,h4,h5,h6,h7⟩:=r
  subst hN
  obtain ⟨u,hu,hbb⟩:=hb
  simp only [List.mem_cons] at hu
  rcases hu with rfl|hu
  ·exact h1.lt hbb
  ·obtain ⟨p,hp⟩:=List.mem_iff_getElem?.1 hu
   have hpl:p<ns.length:=(co9.1 hp).1
   rw [h4,h1.1] at hpl
   have hsz:0<szOf U t:=by
    rcases Nat.eq_zero_or_pos (szOf U t) with h0|h0
    ·rw [h0,Nat.mul_zero] at hpl;omega
    ·exact h0
   have hi:p / szOf U t<l.length:=by rw [Nat.div_lt_iff_lt_mul hsz];exact hpl
   have hj:p % szOf U t<(B4 U t l[p / szOf U t]).length:=by rw [B3];exact Nat.mod_lt _ hsz
   obtain ⟨u',n,q1,q2,q3,q4⟩:=h5 _ _ (co6 hi) _ _ (co6 hj)
   have hpp:p / szOf U t*szOf U t+p % szOf U t=p:=by rw [Nat.mul_comm];exact Nat.div_add_mod _ _
   rw [hpp] at q2
   rw [hp] at q2
   simp only [co4] at q2
   subst q2
   have hnu:D8 undef=Option.none:=rfl
   cases hm:m.any (Nat.beq (p % szOf U t)) with
   |false=>rw [(q4 hm).1,hnu] at hbb;cases hbb
   |true=>
    by_cases hh:∃ hi:Int,hole=some (hi,p % szOf U t)∧hi.toNat=p / szOf U t
    ·rw [(q3 hm).1 hh,hnu] at hbb;cases hbb
    ·obtain ⟨r1,e',t',l',r2,ys,r3,_⟩:=(q3 hm).2 hh
     rw [r1] at hbb
     exact r3.lt hbb
 |maps kt e t l ver iv lv hole=>
  obtain ⟨b',es,clock,ns,hN,h1,h2,h3,h4,h5,h6,h7⟩:=r
  subst hN
  obtain ⟨u,hu,hbb⟩:=hb
  simp only [List.mem_cons] at hu
  rcases hu with rfl|hu
  ·simp only [D8,co4] at hbb
   subst hbb
   exact ⟨h1,(cq2.1 h2).1⟩
  ·obtain ⟨p,hp⟩:=List.mem_iff_getElem?.1 hu
   have hpl:p<l.length:=by rw [←h4];exact (co9.1 hp).1
   have hpe:p<es.size:=by omega
   obtain ⟨q1,q2,q3⟩:=h5 p _ _ _ (co6 hpl) (cq1 hpe) hp
   by_cases hh:∃ k,hole=some k∧midx kt l k=some p
   ·rw [q2 hh] at hbb
    cases hbb
   ·obtain ⟨_,ys,r3,_⟩:=q3 hh
    exact r3.lt hbb
 |iter mid kt vt n seen cur=>
  obtain ⟨q,b',last,hN,h1,h2,h3,h4⟩:=r
  subst hN
  have hb:some q=some b:=hb
  simp only [co4] at hb
  subst hb
  exact ⟨h1,(cq2.1 h2).1⟩
def CsRel (w:World) (β:Nm) (h:Obs U) (cs:List (Cell U)) (vs:List Value):Prop:=
 vs.length=cs.length∧(∀ v∈vs,v.oneCell'=true)∧∀ (j:Nat) (c:Cell U) (v:Value),cs[j]? =some c→vs[j]? =some v→CRel w β h c v
def VRel (w:World) (β:Nm) (h:Obs U) (x:Bool×List (Cell U)) (v:Value):Prop:=
 match x.1 with
 |true=>∃ vs:List Value,v=.agg vs.toArray∧CsRel w β h x.2 vs
 |false=>CsRel w β h x.2 [v]
def CondG (σ:List (Nat×PV U)) (gs:List (Nat×Bool)):Prop:=∀ g∈gs,O1 σ g.1=some g.2
def PRel (w:World) (β:Nm) (h:Obs U) (σ:List (Nat×PV U)):PV U→Value→Prop
 | .un,_=>True
 | .one c,v=>CsRel w β h [c] [v]
 | .agg cs,v=>VRel w β h (true,cs) v
 | .tup xs,v=>∃ vs:List Value,v=.tuple vs.toArray∧vs.length=xs.length∧∀ (j:Nat) (x:Bool×List (Cell U)) (u:Value),xs[j]? =some x→vs[j]? =some u→VRel w β h x u
 | .opt gs p,v=>(CondG σ gs→PRel w β h σ p v)∧(¬ CondG σ gs→v=undef)
def ORel (B:Nat) (w:World) (β:Nm) (h:Obs U) (id:Nat):Ob U→Prop
 | .box e cs=>∃ b vs,β id=.pointer (some ⟨b,0,none⟩)∧B≤b∧w.heap[b]? =some (.cells vs e (0,0))∧CsRel w β h cs vs.toList
 | .row e t l ver lv=>∃ xs:List Value,Owns w B e (szOf U t) (β id) l.length xs∧l.length≤most∧(∀ v∈xs,v.oneCell'=true)∧
   ∀ (i:Nat) (x:den U.T t),l[i]? =some x→∀ (j:Nat) (d:Datum U),(B4 U t x)[j]? =some d→∃ u,xs[i*szOf U t+j]? =some u∧Rep U w (Live β h) d u
 | .map kt vt l=>∃ b es clock,β id=.map (some b)∧B≤b∧w.heap[b]? =some (.map es clock)∧(es.size=l.length∧clock=es.size∧∀ (i:Nat) (e:MapEntry),es[i]? =some e→e.born=i)∧
   ∀ (i:Nat) (x:den U.T kt×den U.T vt) (e:MapEntry),l[i]? =some x→es[i]? =some e→VIs w (Live β h) kt x.1 e.key∧VIs w (Live β h) vt x.2 e.val
 | .loop st=>∃ b r,β id=.func (.yield b) #[] #[]∧B≤b∧w.heap[b]? =some (.loop r)∧r={ (β.lp id).1 with state:=if st=0 then .ready else .done,pending:=(β.lp id).2 st }
 | .dp D=>DRel B w β h D (β id)
structure Ok (F:Fr) (w:World) (β:Nm) (h:Obs U):Prop where
 bel:Below F.B F.w0 w
 hB:F.B≤w.heap.size
 obj:∀ id o,look id h=some o→ORel F.B w β h id o
 dis:∀ id o id' o' b,look id h=some o→look id' h=some o'→Has (β id) b→Has (β id') b→id=id'
 frm:∀ b,b<F.w0.heap.size→¬ F.K b→w.heap[b]? =F.w0.heap[b]?
 own:∀ id o b,look id h=some o→Has (β id) b→F.K b∨F.w0.heap.size≤b
 Mo:∀ id o b,look id h=some o→Has (β id) b→¬ β.M b
 Mlt:∀ b,β.M b→b<F.w0.heap.size
 Meq:β.M=F.M
 fix:∀ id o v,look id h=some o→F.nm id=some v→o.isRow=true∨(β id,β.lp id)=v
 nmg:∀ id v,F.nm id=some v→1000000≤id
 glo:∀ g fs,(g,fs)∈F.G→g<F.w0.heap.size∧¬ F.K g∧∀ i f,fs.cell i=some f→F.w0.cell? ⟨g,i,none⟩=some f
def Ob.like:Ob U→Ob U→Prop
 | .map k v _,.map k' v' _=>k=k'∧v=v'
 | .loop _,.loop _=>True
 |_,_=>False
def Ob.oth:Ob U→Bool
 | .map .. =>true
 | .loop _=>true
 |_=>false
structure Rel (F:Fr) (n:Nat) (β:Nm) (s:St U) (tmps:Array Value) (w:World):Prop extends Ok F w β s.h where
 sz:tmps.size=n
 tmp:∀ t p,look t s.σ=some p→PRel w β s.h s.σ p (tmps.getD t undef)
theorem O2 {k j:Nat} (e:¬ k=j):Nat.beq k j=false:=by
 cases h:Nat.beq k j
 ·rfl
 ·exact absurd (co5 h) e
theorem A7 {α:Type} (k j:Nat) (a:α):∀ l:List (Nat×α),look j (write k a l)=if j=k then some a else look j l
 |[]=>by
  by_cases e:k=j
  ·subst e;simp [write,look]
  ·simp [write,look,O2 e,Ne.symm e]
 |(i,b)::r=>by
  by_cases e:i=k
  ·subst e
   by_cases e':i=j
   ·subst e';simp [write,look]
   ·simp [write,look,O2 e',Ne.symm e']
  ·by_cases e':i=j
   ·subst e'
    simp [write,look,O2 e,e]
   ·simp only [write,O2 e,look,O2 e',Bool.false_eq_true,if_false]
    exact A7 k j a r
structure Ext (w:World) (β:Nm) (h:Obs U) (w':World) (β':Nm) (h':Obs U):Prop where
 size:w.heap.size≤w'.heap.size
 heap:∀ b,b<w.heap.size→¬ Own β h b→w'.heap[b]? =w.heap[b]?
 own:∀ b,b<w.heap.size→Own β' h' b→Own β h b
 M:β'.M=β.M
 box:∀ id e cs,look id h=some (.box e cs)→β' id=β id∧∃ cs',look id h'=some (.box e cs')
 row:∀ id e t l ver lv,look id h=some (.row e t l ver lv)→∃ l' ver' lv',look id h'=some (.row e t l' ver' lv')∧ver≤ver'∧(ver'=ver→β' id=β id∧l'.length=l.length)
 oth:∀ id o,look id h=some o→o.oth=true→β' id=β id∧β'.lp id=β.lp id∧∃ o',look id h'=some o'∧Ob.like o o'
 dp:∀ id D,look id h=some (.dp D)→∃ D',look id h'=some (.dp D')∧∀ c v,DCRel D (β id) c v→DCRel D' (β' id) c v
theorem Ext.live {w w':World} {β β':Nm} {h h':Obs U} (x:Ext w β h w' β' h') (b:Nat) (hb:b<w.heap.size) (hl:Live β' h' b):Live β h b:=
 hl.imp (fun hm=>by rw [←x.M];exact hm) (x.own b hb)
theorem Ext.heapL {w w':World} {β β':Nm} {h h':Obs U} (x:Ext w β h w' β' h') (b:Nat) (hb:b<w.heap.size) (hl:¬ Live β h b):w'.heap[b]? =w.heap[b]? :=
 x.heap b hb (fun ho=>hl (.inr ho))
theorem Ext.rep {w w':World} {β β':Nm} {h h':Obs U} (x:Ext w β h w' β' h') {d:Datum U} {v:Value} (r:Rep U w (Live β h) d v):Rep U w' (Live β' h') d v:=
 r.mono x.size x.heapL x.live
theorem Ext.cell {w w':World} {β β':Nm} {h h':Obs U} (x:Ext w β h w' β' h') {c:Cell U} {v:Value} (r:CRel w β h c v):CRel w' β' h' c v:=by
 cases c with
 |un=>trivial
 |d y=>exact x.rep r
 |row id ver=>
  obtain ⟨e,t,l,ver',lv,hl,hle,hv⟩:=r
  obtain ⟨l2,ver2,lv2,hl2,hle2,he⟩:=x.row id e t l ver' lv hl
  refine ⟨e,t,l2,ver2,lv2,hl2,by omega,fun hh=>?_⟩
  have h3:ver2=ver':=by omega
  rw [(he h3).1]
  exact hv (by omega)
 |ptr id off=>
  obtain ⟨e,cs,b,hl,hb,hv⟩:=r
  obtain ⟨h1,cs',h2⟩:=x.box id e cs hl
  exact ⟨e,cs',b,h2,h1.trans hb,hv⟩
 |elt id ver i off=>
  obtain ⟨e,t,l,ver',lv,hl,hle,hv⟩:=r
  obtain ⟨l2,ver2,lv2,hl2,hle2,he⟩:=x.row id e t l ver' lv hl
  refine ⟨e,t,l2,ver2,lv2,hl2,by omega,fun hh=>?_⟩
  have h3:ver2=ver':=by omega
  obtain ⟨h4,h5⟩:=he h3
  rw [h4,h5]
  exact hv (by omega)
 |rd cs off=>
  obtain ⟨g,o,hv,hM,hg,hc⟩:=r
  refine ⟨g,o,hv,fun hh=>hM (x.live g hg hh),by have:=x.size;omega,fun j d hd=>?_⟩
  obtain ⟨u,hu,hr⟩:=hc j d hd
  exact ⟨u,by rw [←hu];exact World.cell?_of_block (x.heapL g hg hM),x.rep hr⟩
 |gl g=>exact r
 |lit u=>exact r
 |map id=>
  obtain ⟨kt,vt,l,hl,hv⟩:=r
  obtain ⟨h1,_,o',h2,h3⟩:=x.oth id _ hl rfl
  cases o' with
  |map k v l'=>exact ⟨k,v,l',h2,hv.trans h1.symm⟩
  |_=>exact h3.elim
 |clo f ids=>
  obtain ⟨bs,hv,hl,hb⟩:=r
  refine ⟨bs,hv,hl,fun j id b hj hbj=>?_⟩
  obtain ⟨e,cs,q1,q2⟩:=hb j id b hj hbj
  obtain ⟨h1,cs',h2⟩:=x.box id e cs q1
  exact ⟨e,cs',h2,h1.trans q2⟩
 |yld id=>
  obtain ⟨st,hl,hv⟩:=r
  obtain ⟨h1,_,o',h2,h3⟩:=x.oth id _ hl rfl
  cases o' with
  |loop st'=>exact ⟨st',h2,hv.trans h1.symm⟩
  |_=>exact h3.elim
 |ifc t b ds=>
  obtain ⟨vs,q1,q2,q3,q4,q5⟩:=r
  exact ⟨vs,q1,q2,q3,q4,fun j d u hd hu=>x.rep (q5 j d u hd hu)⟩
 |tab g i=>exact r
 |tabf fs i=>exact r
 |dc id c=>
  obtain ⟨D,hl,hv⟩:=r
  obtain ⟨D',h1,h2⟩:=x.dp id D hl
  exact ⟨D',h1,h2 c v hv⟩
 |bnd f id=>
  obtain ⟨e,cs,b,hl,hb,hv⟩:=r
  obtain ⟨h1,cs',h2⟩:=x.box id e cs hl
  exact ⟨e,cs',b,h2,h1.trans hb,hv⟩
theorem Ext.cs {w w':World} {β β':Nm} {h h':Obs U} (x:Ext w β h w' β' h') {cs:List (Cell U)} {vs:List Value} (r:CsRel w β h cs vs):CsRel w' β' h' cs vs:=
 ⟨r.1,r.2.1,fun j c v hc hv=>x.cell (r.2.2 j c v hc hv)⟩
theorem Ext.v {w w':World} {β β':Nm} {h h':Obs U} (x:Ext w β h w' β' h') {y:Bool×List (Cell U)} {v:Value} (r:VRel w β h y v):VRel w' β' h' y v:=by
 obtain ⟨b,cs⟩:=y
 cases b with
 |true=>obtain ⟨vs,hv,hc⟩:=r;exact ⟨vs,hv,x.cs hc⟩
 |false=>exact x.cs r
theorem Ext.p {w w':World} {β β':Nm} {h h':Obs U} (x:Ext w β h w' β' h') {σ:List (Nat×PV U)} {p:PV U} {v:Value} (r:PRel w β h σ p v):PRel w' β' h' σ p v:=by
 induction p with
 |un=>trivial
 |one c=>exact x.cs r
 |agg cs=>exact x.v r
 |tup xs=>
  obtain ⟨vs,hv,hl,hh⟩:=r
  exact ⟨vs,hv,hl,fun j y u hy hu=>x.v (hh j y u hy hu)⟩
 |opt gs p ih=>exact ⟨fun hc=>ih (r.1 hc),r.2⟩
theorem PRel.any {w:World} {β:Nm} {h:Obs U} {σ σ':List (Nat×PV U)} {p:PV U} {v:Value} (hp:p.plain=true) (r:PRel w β h σ p v):PRel w β h σ' p v:=by
 cases p with
 |opt=>simp [PV.plain] at hp
 |un=>trivial
 |one c=>exact r
 |agg cs=>exact r
 |tup xs=>exact r
theorem Ext.o {B:Nat} {w w':World} {β β':Nm} {h h':Obs U} (x:Ext w β h w' β' h') {id:Nat} {o:Ob U} (hβ:β' id=β id) (hlp:β'.lp id=β.lp id)
  (hb:∀ b,Has (β id) b→w'.heap[b]? =w.heap[b]?) (r:ORel B w β h id o):ORel B w' β' h' id o:=by
 cases o with
 |box e cs=>
  obtain ⟨b,vs,h1,h2,h3,h4⟩:=r
  exact ⟨b,vs,hβ.trans h1,h2,by rw [hb b (by rw [h1];exact rfl)];exact h3,x.cs h4⟩
 |row e t l ver lv=>
  obtain ⟨xs,h1,h2,h2',h3⟩:=r
  refine ⟨xs,?_,h2,h2',fun i y hy j d hd=>?_⟩
  ·rw [hβ]
   exact h1.kept (fun b hbb=>hb b (h1.has hbb))
  ·obtain ⟨u,hu,hr⟩:=h3 i y hy j d hd
   exact ⟨u,hu,x.rep hr⟩
 |map kt vt l=>
  obtain ⟨b,es,clock,h1,h2,h3,h4,h5⟩:=r
  refine ⟨b,es,clock,hβ.trans h1,h2,by rw [hb b (by rw [h1];exact rfl)];exact h3,h4,fun i y e hy he=>?_⟩
  obtain ⟨q1,q2⟩:=h5 i y e hy he
  exact ⟨q1.mono x.size x.heapL x.live,q2.mono x.size x.heapL x.live⟩
 |loop st=>
  obtain ⟨b,r,h1,h2,h3,h4⟩:=r
  exact ⟨b,r,hβ.trans h1,h2,by rw [hb b (by rw [h1];exact rfl)];exact h3,by rw [hlp];exact h4⟩
 |dp D=>
  show DRel B w' β' h' D (β' id)
  rw [hβ]
  exact DRel.map (fun d v hr=>x.rep hr) (fun mid v hr=>x.cell hr) hb r
theorem Ob.like_refl {o:Ob U} (h:o.oth=true):Ob.like o o:=by
 cases o<;>simp_all [Ob.oth,Ob.like]
theorem Ext.refl (w:World) (β:Nm) (h:Obs U):Ext w β h w β h:=
 ⟨Nat.le_refl _,fun _ _ _=>rfl,fun _ _ h=>h,rfl,fun id e cs hl=>⟨rfl,cs,hl⟩,fun id e t l ver lv hl=>⟨l,ver,lv,hl,Nat.le_refl _,fun _=>⟨rfl,rfl⟩⟩,fun id o hl ho=>⟨rfl,rfl,o,hl,Ob.like_refl ho⟩,fun id D hl=>⟨D,hl,fun _ _ h=>h⟩⟩
structure After (F:Fr) (w:World) (β:Nm) (h:Obs U) (w':World) (β':Nm) (h':Obs U):Prop extends Ok F w' β' h' where
 ext:Ext w β h w' β' h'
theorem Rel.after {F:Fr} {n:Nat} {β:Nm} {s:St U} {tmps:Array Value} {w:World} (R:Rel F n β s tmps w):After F w β s.h w β s.h:=
 ⟨R.toOk,Ext.refl _ _ _⟩
def Does (P:Program) (F:Fr) (β:Nm) (s:St U) (ρ:Operand→Value) (w:World) (o:Oper) (e:Eff U):Prop:=
 ∃ v w' β',((execOp ρ o).run P w=.ok (.value v) w'∨((execOp ρ o).run P w=.ok .skip w'∧v=undef))∧
  After F w β s.h w' β' (upds s.h e.upd)∧PRel w' β' (upds s.h e.upd) s.σ e.val v
theorem CsRel.one {w:World} {β:Nm} {h:Obs U} {c:Cell U} {v:Value} (h1:v.oneCell'=true) (hc:CRel w β h c v):CsRel w β h [c] [v]:=
 ⟨rfl,by simpa using h1,fun j c' v' hc' hv'=>by
  match j with
  |0=>simp at hc' hv';subst hc';subst hv';exact hc
  |j+1=>simp at hc'⟩
theorem CsRel.inv {w:World} {β:Nm} {h:Obs U} {c:Cell U} {v:Value} (r:CsRel w β h [c] [v]):v.oneCell'=true∧CRel w β h c v:=
 ⟨r.2.1 v (by simp),r.2.2 0 c v rfl rfl⟩
theorem ab9 {w:World} {β:Nm} {h:Obs U} (v:Value):CRel w β h (V7 v) v:=by
 cases v<;>first|exact rfl|exact Rep.int _ _|exact Rep.bool _|exact Rep.str _
theorem U3 {F:Fr} {n:Nat} {β:Nm} {s:St U} {a:Act} {w:World} (R:Rel F n β s a.tmps w) (x:Operand):PRel w β s.h s.σ (ev s.σ x) (a.eval x):=by
 cases x with
 |tmp t=>
  simp only [ev,Act.eval]
  cases hl:look t s.σ with
  |none=>trivial
  |some p=>exact R.tmp t p hl
 |const v=>
  simp only [ev,Act.eval]
  cases v with
  |agg cs=>
   dsimp only
   split
   ·rename_i hall
    refine ⟨cs.toList,rfl,by simp,fun u hu=>by simpa using cr4.1 hall u hu,fun j c u hc hu=>?_⟩
    simp only [cp9,hu,Option.map_some,co4] at hc
    subst hc
    exact ab9 u
   ·trivial
  |tuple vs=>trivial
  |_=>exact CsRel.one rfl (ab9 _)
 |global g=>exact CsRel.one rfl rfl
 |func f=>exact CsRel.one rfl rfl
theorem bR2 {path:List (Nat×Bool)} {g:Nat×Bool} (h:hasG path g=true):g∈path:=by
 unfold hasG at h
 obtain ⟨x,hx,hh⟩:=List.any_eq_true.1 h
 simp only [co7,beq_iff_eq] at hh
 have h1:=co5 hh.1
 obtain ⟨x1,x2⟩:=x
 obtain ⟨g1,g2⟩:=g
 simp only at h1 hh
 rw [←h1,←hh.2]
 exact hx
theorem W1 {w:World} {β:Nm} {h:Obs U} {σ:List (Nat×PV U)} {path:List (Nat×Bool)} (hg:CondG σ path) {p:PV U} {v:Value} (r:PRel w β h σ p v):
  PRel w β h σ (I0 path p) v:=by
 cases p with
 |opt gs p=>
  show PRel w β h σ (if gs.all (hasG path) then p else .un) v
  split
  ·rename_i hc
   exact r.1 (fun g hgs=>hg g (bR2 (cr4.1 hc g hgs)))
  ·trivial
 |un=>exact r
 |one c=>exact r
 |agg cs=>exact r
 |tup xs=>exact r
theorem C1 {h:Obs U}:∀ {ids:List Nat} {id:Nat} {o:Ob U},look id (sub h ids)=some o→look id h=some o
 |[],id,o,hh=>by simp [sub,look] at hh
 |i::r,id,o,hh=>by
  unfold sub at hh
  split at hh
  ·rename_i o' ho
   simp only [look] at hh
   split at hh
   ·rename_i hb
    have:=co5 hb
    subst this
    simp only [co4] at hh
    subst hh
    exact ho
   ·exact C1 hh
  ·exact C1 hh
theorem Does.pure {P:Program} {F:Fr} {n:Nat} {β:Nm} {s:St U} {ρ:Operand→Value} {tmps:Array Value} {w:World} {o:Oper} {e:Eff U} (R:Rel F n β s tmps w) (hu:e.upd=[]) {v:Value}
  (hr:(execOp ρ o).run P w=.ok (.value v) w) (hv:PRel w β s.h s.σ e.val v):Does P F β s ρ w o e:=by
 refine ⟨v,w,β,.inl hr,?_,?_⟩
 ·rw [hu];exact R.after
 ·rw [hu];exact hv
theorem aZ0 {w:World} {β:Nm} {h:Obs U} {σ:List (Nat×PV U)} {b:Bool} {cs:List (Cell U)} {vs:List Value} {p:PV U} (hp:aB2 b cs=some p) (r:CsRel w β h cs vs):
  (b=true→PRel w β h σ p (.agg vs.toArray))∧(b=false→∃ v,vs=[v]∧PRel w β h σ p v):=by
 cases b with
 |true=>
  simp only [aB2,if_true,co4] at hp
  subst hp
  exact ⟨fun _=>⟨vs,rfl,r⟩,(fun h=>by cases h)⟩
 |false=>
  simp only [aB2,Bool.false_eq_true,if_false] at hp
  split at hp
  ·simp only [co4] at hp
   subst hp
   refine ⟨(fun h=>by cases h),fun _=>?_⟩
   have hl:=r.1
   match vs,hl with
   |[v],_=>exact ⟨v,rfl,r⟩
  ·cases hp
theorem aa1 {P:Program} {t:TypeId} {b:Bool} {n:Nat} (hs:ae4 P t=some (b,n)) (w:World) (g o:Nat) (vs:List Value) (hl:vs.length=n)
  (hc:∀ j v,vs[j]? =some v→w.cell? ⟨g,o+j,none⟩=some v):
  (b=true→(loadVar t ⟨g,o,none⟩).run P w=.ok (.agg vs.toArray) w)∧(b=false→∀ v,vs=[v]→(loadVar t ⟨g,o,none⟩).run P w=.ok v w):=by
 unfold ae4 at hs
 split at hs
 ·rename_i i d hi hd
  simp only [co4,cp6] at hs
  obtain ⟨hb,hn⟩:=hs
  have hag:(isAgg t).run P w=.ok b w:=by
   unfold isAgg
   simp only [Sem.run_bind,run_underlying hd,Result.andThen_ok]
   rw [←hb]
   cases d<;>rfl
  have hsz:(sizeOf t).run P w=.ok n w:=by
   simp [sizeOf,typeInfo,hi,hn]
  have hcells:(loadCells ⟨g,o,none⟩ n).run P w=.ok vs.toArray w:=by
   rw [←hl]
   refine run_loadCells_list w ⟨g,o,none⟩ vs (fun j v hv=>?_)
   rw [Addr.add_lit]
   exact hc j v hv
  constructor
  ·intro hbt
   subst hbt
   unfold loadVar
   simp only [Sem.run_bind,hag,Result.andThen_ok,if_true,hsz,hcells]
   rfl
  ·intro hbf v hv
   subst hbf
   subst hv
   unfold loadVar
   simp only [Sem.run_bind,hag,Result.andThen_ok,Bool.false_eq_true,if_false]
   have:=hc 0 v rfl
   simp only [Nat.add_zero] at this
   simp [load,Sem.run,this]
 ·cases hs
end
end Go.VT
end
section
namespace Go.VT
noncomputable section
open Go.RowKit
variable {U:Univ} {E:Env U} {F:Fr} {n:Nat} {β:Nm} {s:St U} {ρ:Operand→Value} {tmps:Array Value} {w:World} {o:Oper} {e:Eff U} {h:Obs U}
theorem Does.move (R:Rel F n β s tmps w) {x:Operand} (hop:o.op=.move x∨o.op=.assign x) {v:PV U} (r:PRel w β s.h s.σ v (ρ x)):Does E.P F β s ρ w o (F9 v):=by
 refine Does.pure (n:=n) R rfl (v:=ρ x) ?_ r
 rcases hop with hop|hop<;>simp [execOp,hop]
theorem CsRel.drop {w:World} {β:Nm} {h:Obs U} {cs:List (Cell U)} {vs:List Value} (r:CsRel w β h cs vs) (k:Nat):CsRel w β h (cs.drop k) (vs.drop k):=
 ⟨by simp [r.1],fun v hv=>r.2.1 v (List.mem_of_mem_drop hv),fun j c v hc hv=>by
  rw [List.getElem?_drop] at hc hv
  exact r.2.2 _ c v hc hv⟩
theorem CsRel.take {w:World} {β:Nm} {h:Obs U} {cs:List (Cell U)} {vs:List Value} (r:CsRel w β h cs vs) (k:Nat):CsRel w β h (cs.take k) (vs.take k):=
 ⟨by simp [r.1],fun v hv=>r.2.1 v (List.mem_of_mem_take hv),fun j c v hc hv=>by
  rw [List.getElem?_take] at hc hv
  split at hc
  ·rw [if_pos (by assumption)] at hv
   exact r.2.2 _ c v hc hv
  ·cases hc⟩
theorem aC2 {α:Type} {k:Nat} {a:α}:∀ {l:List (Nat×α)},look k l=some a→(k,a)∈l
 |[],h=>by simp [look] at h
 |(i,b)::l,h=>by
  simp only [look] at h
  split at h
  ·rename_i hb
   have:=co5 hb
   subst this
   simp only [co4] at h
   subst h
   simp
  ·simp [aC2 h]
theorem bE9 {t:TypeId} {cs:List (Cell U)} {p:PV U} (hp:aB3 E.P t cs=some p) {vs:List Value} (r:CsRel w β s.h cs vs) {g q:Nat}
  (hc:∀ (j:Nat) (v:Value),vs[j]? =some v→w.cell? ⟨g,q+j,none⟩=some v):
  ∃ v,(loadVar t ⟨g,q,none⟩).run E.P w=.ok v w∧PRel w β s.h s.σ p v:=by
 unfold aB3 at hp
 split at hp
 ·rename_i b k hs
  split at hp
  ·rename_i hk
   have hk:=co5 hk
   have hv:=aZ0 (σ:=s.σ) hp (r.take k)
   have hl:=aa1 (P:=E.P) hs w g q (vs.take k) (by rw [(r.take k).1];exact hk) (fun j v hj=>by
    rw [List.getElem?_take] at hj
    split at hj
    ·exact hc j v hj
    ·cases hj)
   cases b with
   |true=>exact ⟨_,hl.1 rfl,hv.1 rfl⟩
   |false=>
    obtain ⟨v,hv1,hv2⟩:=hv.2 rfl
    exact ⟨v,hl.2 rfl v hv1,hv2⟩
  ·cases hp
 ·cases hp
theorem CsRel.data {w:World} {β:Nm} {h:Obs U} {ds:List (Datum U)} {vs:List Value} (hl:vs.length=ds.length)
  (hr:∀ (j:Nat) (d:Datum U) (v:Value),ds[j]? =some d→vs[j]? =some v→Rep U w (Live β h) d v):CsRel w β h (ds.map .d) vs:=by
 refine ⟨by simp [hl],fun v hv=>?_,fun j c v hc hv=>?_⟩
 ·obtain ⟨j,hj,rfl⟩:=List.mem_iff_getElem.1 hv
  have hd:j<ds.length:=by omega
  have:=hr j ds[j] vs[j] (co6 hd) (co6 hj)
  generalize ds[j]=d at this
  generalize vs[j]=u at this
  cases this<;>rfl
 ·simp only [cp9,cp1] at hc
  obtain ⟨d,hd,rfl⟩:=hc
  exact hr j d v hd hv
theorem ap4 {id iv:Nat} {i:Int} {m:List Nat}:∀ {ds:List (Datum U)} {j0 j:Nat} {c:Cell U},(S3 id iv i m j0 ds)[j]? =some c→∃ d,ds[j]? =some d∧c=(bif m.any (Nat.beq (j0+j)) then .dc id (.inn iv i (j0+j)) else .d d)
 |[],j0,j,c,h=>by simp [S3] at h
 |d::ds,j0,0,c,h=>by
  simp only [S3,cp2,co4] at h
  exact ⟨d,rfl,h.symm⟩
 |d::ds,j0,j+1,c,h=>by
  simp only [S3,List.getElem?_cons_succ] at h
  obtain ⟨d',h1,h2⟩:=ap4 h
  exact ⟨d',by simpa using h1,by rw [h2,show j0+1+j=j0+(j+1) by omega]⟩
theorem ad6 {id iv:Nat} {i:Int} {m:List Nat}:∀ {ds:List (Datum U)} {j0:Nat},(S3 id iv i m j0 ds).length=ds.length
 |[],_=>rfl
 |d::ds,j0=>by simp [S3,ad6 (ds:=ds)]
theorem G9 {root:Value} {ns:List Value} {vs:Array Value} (h:Value.tuple (root::ns).toArray=.tuple vs):vs=(root::ns).toArray:=by
 simp only [Value.tuple.injEq] at h
 exact h.symm
theorem aC3 {B:Nat} {e:TypeId} {t:Ty} {m:List Nat} {l:List (den U.T t)} {ver iv:Nat} {lv:Bool} {hole:Option (Int×Nat)} {N:Value} (r:DRel B w β h (.rows e t m l ver iv lv hole) N) {i:Nat} (hi:i<l.length):
  ∃ root xs ns,N=.tuple (root::ns).toArray∧Owns w B e (szOf U t) root l.length xs∧(i+1)*szOf U t≤xs.length∧ns.length=xs.length∧(∀ v∈xs,v.oneCell'=true)∧
   ∀ (j:Nat) (d:Datum U),(B4 U t l[i])[j]? =some d→∃ u n,xs[i*szOf U t+j]? =some u∧ns[i*szOf U t+j]? =some n∧InnR B w (Live β h) m hole i j d u n:=by
 obtain ⟨root,xs,ns,hN,h1,h2,h3,h4,h5,h6,h7⟩:=r
 refine ⟨root,xs,ns,hN,h1,?_,h4,h3,fun j d hd=>h5 i _ (co6 hi) j d hd⟩
 rw [h1.1];exact Nat.mul_le_mul_right _ hi
theorem Q4 {α:Type} {l:List α} {i:Int} {d:α} (hi:i.toNat<l.length):l.getD i.toNat d=l[i.toNat]:=by simp [List.getD,co6 hi]
theorem ai2 {B:Nat} {e:TypeId} {t:Ty} {m:List Nat} {l:List (den U.T t)} {ver iv:Nat} {lv:Bool} {N:Value} (r:DRel B w β h (.rows e t m l ver iv lv none) N) {i:Int} (h0:0≤i) (hi:i<(l.length:Int)) {j:Nat} (hm:m.any (Nat.beq j)=true) {e':TypeId} {t':Ty} {l':List (den U.T t')}
  (hd:J7 t l i j=some ⟨.slice e' t',l'⟩) {vs:Array Value} (hN:N=.tuple vs) {v:Value} (hv:vs[1+(i.toNat*szOf U t+j)]? =some v):RowC B w (Live β h) e' t' l' v∧v.oneCell'=true:=by
 have hi':i.toNat<l.length:=by omega
 obtain ⟨root,xs,ns,hN',h1,h2,h4,h3,h5⟩:=aC3 r hi'
 rw [hN'] at hN
 have:=G9 hN
 subst this
 unfold J7 at hd
 rw [Q4 hi'] at hd
 obtain ⟨u,n,hu,hn,q1,_⟩:=h5 j _ hd
 obtain ⟨r1,e2,t2,l2,r2,r3⟩:=(q1 hm).2 (by rintro ⟨_,hh,_⟩;cases hh)
 cases r2
 have:v=n:=by
  rw [Nat.add_comm 1] at hv
  simp only [List.getElem?_toArray,List.getElem?_cons_succ] at hv
  rw [hn] at hv
  simpa using hv.symm
 rw [this,r1]
 exact ⟨r3,h3 u (List.mem_of_getElem? hu)⟩
theorem bq2 {vs:List Value} {g q:Nat} {xs:List Value} (hc:∀ (j:Nat) (u:Value),xs[j]? =some u→w.cell? ⟨g,j,none⟩=some u) {k sz off:Nat}:∀ (j:Nat) (v:Value),(((xs.drop (k*sz)).take sz).drop off)[j]? =some v→w.cell? ⟨g,k*sz+off+j,none⟩=some v:=by
 intro j v hj
 rw [List.getElem?_drop,List.getElem?_take] at hj
 split at hj
 ·rw [List.getElem?_drop] at hj
  rw [Nat.add_assoc]
  exact hc _ v hj
 ·cases hj
theorem bv4 {B:Nat} {id:Nat} {D:Deep U} (hl:look id h=some (.dp D)) (r:DRel B w β h D (β id)) {c:DC U} {cs:List (Cell U)} (hc:D.cells id c=some cs) {v:Value} (hv:DCRel D (β id) c v):
  ∃ g q vs,v=.pointer (some ⟨g,q,none⟩)∧CsRel w β h cs vs∧∀ (j:Nat) (u:Value),vs[j]? =some u→w.cell? ⟨g,q+j,none⟩=some u:=by
 cases D with
 |maps=>simp [Deep.cells] at hc
 |iter=>simp [Deep.cells] at hc
 |rows e t m l ver iv lv hole=>
  cases hole with
  |some _=>simp [Deep.cells] at hc
  |none=>
   cases c with
   |elt v0 i off=>
    simp only [Deep.cells] at hc
    split at hc
    case isFalse=>cases hc
    rename_i hver
    have hver:=co5 hver
    simp only [co4] at hc
    obtain ⟨_,hv⟩:=hv
    obtain ⟨h0,h1,vs,g,c,hN,hg,hx⟩:=hv hver
    have hi:i.toNat<l.length:=by omega
    obtain ⟨root,xs,ns,hN',k1,k2,k4,k3,k5⟩:=aC3 r hi
    rw [hN'] at hN
    have:=G9 hN
    subst this
    simp only [List.getElem?_toArray,cp2,co4] at hg
    subst hg
    rw [Q4 hi] at hc
    subst hc
    rw [Nat.add_mul,Nat.one_mul] at k2
    refine ⟨g,_,((xs.drop (i.toNat*szOf U t)).take (szOf U t)).drop off,hx,⟨by simp [ad6,B3];omega,fun u hu=>k3 u ?_,fun j c u hj hu=>?_⟩,bq2 (vs:=[]) (q:=0) (k1.cells rfl)⟩
    ·exact List.mem_of_mem_drop (List.mem_of_mem_take (List.mem_of_mem_drop hu))
    ·rw [List.getElem?_drop] at hj hu
     rw [List.getElem?_take] at hu
     split at hu
     case isFalse=>cases hu
     rw [List.getElem?_drop] at hu
     obtain ⟨d,hd,rfl⟩:=ap4 hj
     rw [Nat.zero_add]
     obtain ⟨u',n,q1,q2,q3,q4⟩:=k5 _ d hd
     rw [hu] at q1
     simp only [co4] at q1
     subst q1
     cases hm:m.any (Nat.beq (off+j)) with
     |false=>simp only [cond_false];exact (q4 hm).2
     |true=>
      simp only [cond_true]
      obtain ⟨r1,_⟩:=(q3 hm).2 (by rintro ⟨_,hh,_⟩;cases hh)
      refine ⟨_,hl,Nat.le_refl _,fun _=>⟨h0,h1,hm,_,hN',?_⟩⟩
      rw [Nat.add_comm 1]
      simp only [List.getElem?_toArray,List.getElem?_cons_succ]
      rw [q2,r1]
   |iat v0 i j k off=>
    simp only [Deep.cells] at hc
    split at hc
    case isFalse=>cases hc
    rename_i hver
    have hver:=co5 hver
    split at hc
    case h_2=>cases hc
    rename_i e1 t1 l1 hd1
    simp only [co4] at hc
    subst hc
    obtain ⟨_,hv⟩:=hv
    obtain ⟨h0,h1,hm,hk0,vs,g,c,e2,t2,l2,hN,hg,hd2,hk,hx⟩:=hv hver
    rw [hd1] at hd2
    cases hd2
    obtain ⟨⟨ys,y1,y2,y3,y4⟩,_⟩:=ai2 r h0 h1 hm hd1 hN hg
    have hkl:k.toNat<l1.length:=by omega
    have hyl:(k.toNat+1)*szOf U t1≤ys.length:=by rw [y1.1];exact Nat.mul_le_mul_right _ hkl
    rw [Nat.add_mul,Nat.one_mul] at hyl
    rw [Q4 hkl]
    refine ⟨g,_,((ys.drop (k.toNat*szOf U t1)).take (szOf U t1)).drop off,hx,CsRel.data (by simp [B3];omega) (fun j d u hj hu=>?_),bq2 (vs:=[]) (q:=0) (y1.cells rfl)⟩
    rw [List.getElem?_drop] at hj hu
    rw [List.getElem?_take] at hu
    split at hu
    case isFalse=>cases hu
    rw [List.getElem?_drop] at hu
    obtain ⟨u',q1,q2⟩:=y4 k.toNat _ (co6 hkl) _ d hj
    rw [hu] at q1
    simp only [co4] at q1
    subst q1
    exact q2
   |self=>simp [Deep.cells] at hc
   |inn=>simp [Deep.cells] at hc
   |key=>simp [Deep.cells] at hc
   |it=>simp [Deep.cells] at hc
theorem Does.load (hFG:F.G=E.G) (R:Rel F n β s tmps w) {t:TypeId} {x:Operand} (hop:o.op=.load t x) {v:PV U} (r:PRel w β s.h s.σ v (ρ x)) {ids:List Nat} (he:aQ1 E (sub s.h ids) t v=some e) (hob:e.Obl):
  Does E.P F β s ρ w o e:=by
 have fin:∀ (g q:Nat) (p:PV U) (vs:List Value) (cs:List (Cell U)),ρ x=.pointer (some ⟨g,q,none⟩)→aB3 E.P t cs=some p→CsRel w β s.h cs vs→
   (∀ (j:Nat) (v:Value),vs[j]? =some v→w.cell? ⟨g,q+j,none⟩=some v)→Does E.P F β s ρ w o (F9 p):=by
  intro g q p vs cs hx hp hr hc
  obtain ⟨u,hu,hq⟩:=bE9 (E:=E) hp hr hc
  refine Does.pure (n:=n) R rfl (v:=u) ?_ hq
  simp [execOp,hop,Instr.loadAt,Instr.sureAddr,hx,hu]
 unfold aQ1 at he
 split at he
 ·--a box
  rename_i id off
  split at he
  ·rename_i e' cs hl
   simp only [cp1] at he
   obtain ⟨p,hp,rfl⟩:=he
   obtain ⟨_,_,b,hl2,hb,hv⟩:=r.inv.2
   have hl:=C1 hl
   rw [hl] at hl2
   have ho:=R.obj id _ hl
   obtain ⟨b',vs,h1,h2,h3,h4⟩:=ho
   rw [hb] at h1
   simp only [Value.pointer.injEq,co4,Addr.mk.injEq,and_true] at h1
   subst h1
   refine fin b off p (vs.toList.drop off) (cs.drop off) hv hp (h4.drop off) (fun j v hj=>?_)
   rw [List.getElem?_drop] at hj
   simp only [World.cell?,h3]
   simpa using hj
  ·cases he
 ·--stable memory
  rename_i cs off
  simp only [cp1] at he
  obtain ⟨p,hp,rfl⟩:=he
  obtain ⟨g,q,hv,hM,hg,hc⟩:=r.inv.2
  have:∃ us:List Value,us.length=cs.length∧∀ (j:Nat) (d:Datum U) (u:Value),cs[j]? =some d→us[j]? =some u→w.cell? ⟨g,q+j,none⟩=some u∧Rep U w (Live β s.h) d u:=by
   refine ⟨(List.range cs.length).map (fun j=>(w.cell? ⟨g,q+j,none⟩).getD undef),by simp,fun j d u hd hu=>?_⟩
   obtain ⟨u',hu',hr⟩:=hc j d hd
   have hj:j<cs.length:=by
    by_cases hj:j<cs.length
    ·exact hj
    ·rw [List.getElem?_eq_none (by omega)] at hd;cases hd
   simp only [cp9,List.getElem?_range hj,Option.map_some,co4,hu',Option.getD_some] at hu
   subst hu
   exact ⟨hu',hr⟩
  obtain ⟨us,hus,hus2⟩:=this
  refine fin g (q+off) p (us.drop off) ((cs.drop off).map .d) hv hp ?_ (fun j v hj=>?_)
  ·refine CsRel.data (by simp [hus]) (fun j d v hd hv=>?_)
   rw [List.getElem?_drop] at hd hv
   exact (hus2 _ d v hd hv).2
  ·rw [List.getElem?_drop] at hj
   have hlt:off+j<us.length:=by
    by_cases hj':off+j<us.length
    ·exact hj'
    ·rw [List.getElem?_eq_none (by omega)] at hj;cases hj
   have:=(hus2 (off+j) _ v (co6 (by omega)) hj).1
   rw [Nat.add_assoc]
   exact this
 ·--a cell of a table
  rename_i g i
  split at he
  case h_2=>cases he
  rename_i fs hfs
  split at he
  case h_2=>cases he
  rename_i b k hsh
  split at he
  case isFalse=>cases he
  rename_i hc
  simp only [co7,Bool.not_eq_true'] at hc
  have hk:=co5 hc.2
  have hb:=hc.1
  subst hk;subst hb
  simp only [co4] at he
  subst he
  obtain ⟨h0,h1⟩:=hob
  obtain ⟨_,hv⟩:=r.inv.2
  obtain ⟨q1,q2,q3⟩:=R.glo g fs (by rw [hFG];exact aC2 hfs)
  have hil:i.toNat<fs.fs.length:=by omega
  have hcell:w.cell? ⟨g,i.toNat,none⟩=some (.func (.func fs.fs[i.toNat]) #[] #[]):=by
   rw [←q3 i.toNat _ (by unfold Glob.cell;rw [co6 hil])]
   exact World.cell?_of_block (R.frm g q1 q2)
  have hl:=aa1 (P:=E.P) hsh w g i.toNat [.func (.func fs.fs[i.toNat]) #[] #[]] rfl (fun j v hj=>by
   match j,hj with
   |0,hj=>
    simp only [cp2,co4] at hj
    subst hj
    exact hcell)
  refine Does.pure (n:=n) R rfl (v:=.func (.func fs.fs[i.toNat]) #[] #[]) ?_ (CsRel.one rfl ⟨_,co6 hil,rfl⟩)
  have hlv:=hl.2 rfl _ rfl
  simp [execOp,hop,Instr.loadAt,Instr.sureAddr,hv,hlv]
 ·--a global cell
  rename_i g
  split at he
  case h_2=>cases he
  rename_i gl hgl
  split at he
  case isFalse=>cases he
  rename_i hc
  simp only [co7,List.isEmpty_iff] at hc
  simp only [cp1] at he
  obtain ⟨p,hp,rfl⟩:=he
  have hv:ρ x=.pointer (some ⟨g,0,none⟩):=r.inv.2
  obtain ⟨q1,q2,q3⟩:=R.glo g gl (by rw [hFG];exact aC2 hgl)
  refine fin g 0 p gl.vs (gl.vs.map V7) hv hp ⟨by simp,fun v hv=>cr4.1 hc.2 v hv,fun j c v hj hv=>?_⟩ (fun j v hj=>?_)
  ·simp only [cp9,hv,Option.map_some,co4] at hj
   subst hj
   exact ab9 v
  ·rw [Nat.zero_add,←q3 j v (by unfold Glob.cell;rw [hc.1];simpa using hj)]
   exact World.cell?_of_block (R.frm g q1 q2)
 ·--a deep object
  rename_i id c
  split at he
  case h_2=>cases he
  rename_i D hl
  split at he
  case h_2=>cases he
  rename_i cs hcs
  simp only [cp1] at he
  obtain ⟨p,hp,rfl⟩:=he
  have hl:=C1 hl
  obtain ⟨D',hl2,hv⟩:=r.inv.2
  rw [hl] at hl2
  simp only [co4,Ob.dp.injEq] at hl2
  subst hl2
  obtain ⟨g,q,vs,hx,hr,hcell⟩:=bv4 hl (R.obj id _ hl) hcs hv
  exact fin g q p vs cs hx hp hr hcell
 ·--an element of a row
  rename_i id ver i off
  split at he
  ·rename_i e' c l ver' lv hl
   split at he
   ·rename_i hver
    have hver:=co5 hver
    simp only [cp1] at he
    obtain ⟨p,hp,rfl⟩:=he
    obtain ⟨_,_,_,_,_,hl2,_,hv⟩:=r.inv.2
    have hl:=C1 hl
    rw [hl] at hl2
    simp only [co4,Ob.row.injEq] at hl2
    obtain ⟨rfl,rfl,hll,rfl,rfl⟩:=hl2
    have hll:=eq_of_heq hll
    subst hll
    obtain ⟨h0,h1,g,cap,hβ,hx⟩:=hv hver
    obtain ⟨xs,ho,hm,h1c,hel⟩:=R.obj id _ hl
    have hi:i.toNat<l.length:=by omega
    have hgd:l.getD i.toNat (dfl U c)=l[i.toNat]:=by simp [List.getD,co6 hi]
    have hel':=hel i.toNat l[i.toNat] (co6 hi)
    have hlen:=B3 U c l[i.toNat]
    have hcells:∀ (j:Nat) (u:Value),xs[j]? =some u→w.cell? ⟨g,j,none⟩=some u:=by
     intro j u hu
     exact ho.cells (g:=g) (by rw [hβ];rfl) j u hu
    rw [hgd] at hp
    refine fin g (i.toNat*szOf U c+off) p (((xs.drop (i.toNat*szOf U c)).take (szOf U c)).drop off) (((B4 U c l[i.toNat]).drop off).map .d) hx hp ?_ (fun j v hj=>?_)
    ·have hxl:(i.toNat+1)*szOf U c≤xs.length:=by rw [ho.1];exact Nat.mul_le_mul_right _ hi
     rw [Nat.add_mul,Nat.one_mul] at hxl
     refine CsRel.data (by simp [hlen];omega) (fun j d v hd hv=>?_)
     rw [List.getElem?_drop] at hd hv
     obtain ⟨u,hu,hr⟩:=hel' _ d hd
     rw [List.getElem?_take] at hv
     split at hv
     ·rw [List.getElem?_drop] at hv
      rw [hu] at hv
      simp only [co4] at hv
      subst hv
      exact hr
     ·cases hv
    ·rw [List.getElem?_drop,List.getElem?_take] at hj
     split at hj
     ·rw [List.getElem?_drop] at hj
      rw [Nat.add_assoc]
      exact hcells _ v hj
     ·cases hj
   ·cases he
  ·cases he
 ·cases he
theorem PRel.d {σ:List (Nat×PV U)} {x:Datum U} {v:Value} (r:PRel w β h σ (.one (.d x)) v):Rep U w (Live β h) x v:=r.inv.2
theorem PRel.int {σ:List (Nat×PV U)} {k:IntKind} {a:Int} {v:Value} (r:PRel w β h σ (.one (.d ⟨.int k,a⟩)) v):v=.int k a:=by
 have:=r.d
 cases this
 rfl
theorem PRel.bool {σ:List (Nat×PV U)} {b:Bool} {v:Value} (r:PRel w β h σ (.one (.d ⟨.bool,b⟩)) v):v=.bool b:=by
 have:=r.d
 cases this
 rfl
theorem PRel.mkInt {σ:List (Nat×PV U)} (k:IntKind) (a:Int):PRel w β h σ (.one (.d ⟨.int k,a⟩)) (.int k a):=CsRel.one rfl (Rep.int _ _)
theorem PRel.mkBool {σ:List (Nat×PV U)} (b:Bool):PRel w β h σ (.one (.d ⟨.bool,b⟩)) (.bool b):=CsRel.one rfl (Rep.bool _)
theorem bF0 {op:BinOp} {k:IntKind} {a b:Int} {p:Option Prop} {d:Datum U} (ha:bZ9 op k a b=some (p,d)) (hp:holds p) (t:TypeId) (x y:Operand) (w:World) (P:Program):
  ∃ v,(do eqGuard op t x y (.int k a) (.int k b);binOp op t (.int k a) (.int k b)).run P w=.ok v w∧∀ (β:Nm) (h:Obs U) (σ:List (Nat×PV U)),PRel w β h σ (.one (.d d)) v:=by
 cases op<;>simp only [bZ9,co4,cp6,reduceCtorEq] at ha<;>obtain ⟨rfl,rfl⟩:=ha
 all_goals first
  |exact ⟨.int k (k.wrap (a+b)),by simp [eqGuard,binOp,Op.intArith],fun _ _ _=>PRel.mkInt _ _⟩
  |exact ⟨.int k (k.wrap (a-b)),by simp [eqGuard,binOp,Op.intArith],fun _ _ _=>PRel.mkInt _ _⟩
  |exact ⟨.int k (k.wrap (a*b)),by simp [eqGuard,binOp,Op.intArith],fun _ _ _=>PRel.mkInt _ _⟩
  |exact ⟨.int k (k.wrap (a.tdiv b)),by simp [eqGuard,binOp,Op.intDiv,show b≠0 from hp],fun _ _ _=>PRel.mkInt _ _⟩
  |exact ⟨.int k (a.tmod b),by simp [eqGuard,binOp,Op.intDiv,show b≠0 from hp],fun _ _ _=>PRel.mkInt _ _⟩
  |exact ⟨.bool (a==b),by simp [eqGuard,binOp,Op.intCmp],fun _ _ _=>PRel.mkBool _⟩
  |exact ⟨.bool (a !=b),by simp [eqGuard,binOp,Op.intCmp],fun _ _ _=>PRel.mkBool _⟩
  |exact ⟨.bool (decide (a<b)),by simp [eqGuard,binOp,Op.intCmp],fun _ _ _=>PRel.mkBool _⟩
  |exact ⟨.bool (decide (a≤b)),by simp [eqGuard,binOp,Op.intCmp],fun _ _ _=>PRel.mkBool _⟩
  |exact ⟨.bool (decide (a >b)),by simp [eqGuard,binOp,Op.intCmp],fun _ _ _=>PRel.mkBool _⟩
  |exact ⟨.bool (decide (a≥b)),by simp [eqGuard,binOp,Op.intCmp],fun _ _ _=>PRel.mkBool _⟩
  |exact ⟨.int k (k.wrap (a*2 ^ min b.toNat k.bits)),by simp [eqGuard,binOp,Op.shift,show ¬ b<0 from Int.not_lt.2 hp],fun _ _ _=>PRel.mkInt _ _⟩
  |exact ⟨.int k (a.fdiv (2 ^ min b.toNat k.bits)),by simp [eqGuard,binOp,Op.shift,show ¬ b<0 from Int.not_lt.2 hp],fun _ _ _=>PRel.mkInt _ _⟩
  |exact ⟨.int k (k.wrap (BitVec.ofInt k.bits a&&&BitVec.ofInt k.bits b).toNat),by simp only [eqGuard,binOp,Op.intBits];simp,fun _ _ _=>PRel.mkInt _ _⟩
  |exact ⟨.int k (k.wrap (BitVec.ofInt k.bits a|||BitVec.ofInt k.bits b).toNat),by simp only [eqGuard,binOp,Op.intBits];simp,fun _ _ _=>PRel.mkInt _ _⟩
  |exact ⟨.int k (k.wrap (BitVec.ofInt k.bits a ^^^ BitVec.ofInt k.bits b).toNat),by simp only [eqGuard,binOp,Op.intBits];simp,fun _ _ _=>PRel.mkInt _ _⟩
  |exact ⟨.int k (k.wrap (BitVec.ofInt k.bits a&&&~~~ BitVec.ofInt k.bits b).toNat),by simp only [eqGuard,binOp,Op.intBits];simp,fun _ _ _=>PRel.mkInt _ _⟩
theorem ad7 {P:Program} {t:TypeId} (hu:P.underlying t=some .bool) (d:Nat) (a b:Bool) (w:World):(Op.equalIn (d+1) t (.bool a) (.bool b)).run P w=.ok (a==b) w:=by
 simp only [Op.equalIn,Sem.run_bind,run_underlying hu,Result.andThen_ok]
 rfl
theorem bq3 {P:Program} {t:TypeId} {b:Bool} {k:Nat} (hs:ae4 P t=some (b,k)) (w:World) (cs:List Value) (off:Nat) (hl:((cs.drop off).take k).length=k):
  (b=true→(part t cs.toArray off).run P w=.ok (.agg ((cs.drop off).take k).toArray) w)∧(b=false→∀ v,(cs.drop off).take k=[v]→(part t cs.toArray off).run P w=.ok v w):=by
 unfold ae4 at hs
 split at hs
 ·rename_i i d hi hd
  simp only [co4,cp6] at hs
  obtain ⟨hb,hn⟩:=hs
  have hag:(isAgg t).run P w=.ok b w:=by
   unfold isAgg
   simp only [Sem.run_bind,run_underlying hd,Result.andThen_ok]
   rw [←hb]
   cases d<;>rfl
  have hsz:(sizeOf t).run P w=.ok k w:=by
   simp [sizeOf,typeInfo,hi,hn]
  constructor
  ·intro hbt
   subst hbt
   unfold part
   simp only [Sem.run_bind,hag,Result.andThen_ok,if_true,hsz]
   have:cs.toArray.extract off (off+k)=((cs.drop off).take k).toArray:=by
    simp [List.extract_toArray,List.extract_eq_take_drop]
   rw [this]
   rfl
  ·intro hbf v hv
   subst hbf
   unfold part
   simp only [Sem.run_bind,hag,Result.andThen_ok,Bool.false_eq_true,if_false]
   have:cs.toArray[off]? =some v:=by
    have h0:((cs.drop off).take k)[0]? =some v:=by rw [hv];rfl
    rw [List.getElem?_take] at h0
    split at h0
    ·rw [List.getElem?_drop] at h0
     simpa using h0
    ·cases h0
   simp [this]
 ·cases hs
theorem af3:∀ {cs:List (Cell U)} {ds:List (Datum U)},allD cs=some ds→cs=ds.map .d
 |[],ds,h=>by simp only [allD,co4] at h;subst h;rfl
 |c::cs,ds,h=>by
  cases c with
  |d x=>
   simp only [allD,cp1] at h
   obtain ⟨ys,hy,rfl⟩:=h
   simp [af3 hy]
  |_=>simp [allD] at h
theorem aa2 {P:Program} {t:TypeId} {off:Nat} {d:TypeDesc} {i:TypeInfo} (hd:P.underlying t=some d) (hn:(∃ q,d=.int q)∨d=.bool) (hi:P.info? t=some i) (hsz:i.size=1) {xs:List Value} {u:Value} (hu:xs[off]? =some u) (w:World):(part t xs.toArray off).run P w=.ok u w:=by
 have hd1:(xs.drop off).take 1=[u]:=by
  have:xs.drop off=u::xs.drop (off+1):=by
   obtain ⟨hlt,hx⟩:=co9.1 hu
   rw [←hx];exact (List.drop_eq_getElem_cons hlt)
  rw [this];rfl
 exact (bq3 (b:=false) (k:=1) (by rcases hn with ⟨q,rfl⟩|rfl<;>simp only [ae4,hi,hd,hsz]) w xs off (by rw [hd1];rfl)).2 rfl u hd1
theorem ak7 {P:Program} {M:Nat→Prop} (d:Nat):∀ {fs:List Field} {k:Nat} {ts:List Ty} {ds es:List (Datum U)} {b:Bool} {xs ys:List Value},Q1 P fs k=some ts→J6 ts ds es=some b→
  (∀ (j:Nat) (x:Datum U),ds[j]? =some x→∃ u,xs[k+j]? =some u∧Rep U w M x u)→(∀ (j:Nat) (x:Datum U),es[j]? =some x→∃ u,ys[k+j]? =some u∧Rep U w M x u)→
  (Op.eqFields (d+1) xs.toArray ys.toArray fs).run P w=.ok b w
 |[],k,ts,ds,es,b,xs,ys,hp,hb,_,_=>by
  simp only [Q1,co4] at hp
  subst hp
  cases ds with
  |nil=>
   cases es with
   |nil=>simp only [J6,co4] at hb;subst hb;simp [Op.eqFields]
   |cons=>simp [J6] at hb
  |cons=>simp [J6] at hb
 |f::fs,k,ts,ds,es,b,xs,ys,hp,hb,hx,hy=>by
  simp only [Q1] at hp
  split at hp
  case h_2=>cases hp
  rename_i td i htd hi
  have tail:∀ {ts':List Ty} {ds' es':List (Datum U)} {b':Bool} {x y:Datum U},Q1 P fs (k+1)=some ts'→J6 ts' ds' es'=some b'→(∀ (j:Nat) (z:Datum U),(x::ds')[j]? =some z→∃ u,xs[k+j]? =some u∧Rep U w M z u)→(∀ (j:Nat) (z:Datum U),(y::es')[j]? =some z→∃ u,ys[k+j]? =some u∧Rep U w M z u)→
    (Op.eqFields (d+1) xs.toArray ys.toArray fs).run P w=.ok b' w:=fun h1 h2 h3 h4=>ak7 d h1 h2 (fun j z hz=>by rw [Nat.add_assoc,Nat.add_comm 1];exact h3 (j+1) z (by simpa using hz)) (fun j z hz=>by rw [Nat.add_assoc,Nat.add_comm 1];exact h4 (j+1) z (by simpa using hz))
  split at hp
  ·--an integer
   rename_i q
   split at hp
   case isFalse=>cases hp
   rename_i hc
   simp only [co7,bne_iff_ne,ne_eq] at hc
   obtain ⟨⟨hname,hoff⟩,hsz⟩:=hc
   have hoff:=co5 hoff
   have hsz:=co5 hsz
   simp only [cp1] at hp
   obtain ⟨ts',hts,rfl⟩:=hp
   match ds,es,hb with
   |⟨.int q1,x⟩::ds',⟨.int q2,y⟩::es',hb=>
    simp only [J6] at hb
    split at hb
    case isFalse=>cases hb
    rename_i hq
    subst hq
    simp only [cp1] at hb
    obtain ⟨b',hb',rfl⟩:=hb
    have ht:=tail hts hb' hx hy
    obtain ⟨u,hu,hur⟩:=hx 0 _ rfl
    obtain ⟨v,hv,hvr⟩:=hy 0 _ rfl
    cases hur;cases hvr
    rw [Nat.add_zero,←hoff] at hu hv
    have p1:=aa2 (w:=w) htd (.inl ⟨_,rfl⟩) hi hsz hu
    have p2:=aa2 (w:=w) htd (.inl ⟨_,rfl⟩) hi hsz hv
    have hq:=run_equalIn_int (P:=P) w d f.type q1 q x y htd
    unfold Op.eqFields
    rw [if_pos hname]
    simp only [Sem.run_bind,p1,p2,hq,Result.andThen_ok]
    cases hxy:(x==y) with
    |false=>simp
    |true=>simpa using ht
   |[],_,hb=>simp [J6] at hb
   |⟨.bool,_⟩::_,_,hb=>simp [J6] at hb
   |⟨.str,_⟩::_,_,hb=>simp [J6] at hb
   |⟨.slice _ _,_⟩::_,_,hb=>simp [J6] at hb
   |⟨.user _,_⟩::_,_,hb=>simp [J6] at hb
   |⟨.map _ _,_⟩::_,_,hb=>simp [J6] at hb
   |⟨.ifc _,_⟩::_,_,hb=>simp [J6] at hb
   |⟨.int _,_⟩::_,[],hb=>simp [J6] at hb
   |⟨.int _,_⟩::_,⟨.bool,_⟩::_,hb=>simp [J6] at hb
   |⟨.int _,_⟩::_,⟨.str,_⟩::_,hb=>simp [J6] at hb
   |⟨.int _,_⟩::_,⟨.slice _ _,_⟩::_,hb=>simp [J6] at hb
   |⟨.int _,_⟩::_,⟨.user _,_⟩::_,hb=>simp [J6] at hb
   |⟨.int _,_⟩::_,⟨.map _ _,_⟩::_,hb=>simp [J6] at hb
   |⟨.int _,_⟩::_,⟨.ifc _,_⟩::_,hb=>simp [J6] at hb
  ·--a boolean
   split at hp
   case isFalse=>cases hp
   rename_i hc
   simp only [co7,bne_iff_ne,ne_eq] at hc
   obtain ⟨⟨hname,hoff⟩,hsz⟩:=hc
   have hoff:=co5 hoff
   have hsz:=co5 hsz
   simp only [cp1] at hp
   obtain ⟨ts',hts,rfl⟩:=hp
   match ds,es,hb with
   |⟨.bool,x⟩::ds',⟨.bool,y⟩::es',hb=>
    simp only [J6,cp1] at hb
    obtain ⟨b',hb',rfl⟩:=hb
    have ht:=tail hts hb' hx hy
    obtain ⟨u,hu,hur⟩:=hx 0 _ rfl
    obtain ⟨v,hv,hvr⟩:=hy 0 _ rfl
    cases hur;cases hvr
    rw [Nat.add_zero,←hoff] at hu hv
    have p1:=aa2 (w:=w) htd (.inr rfl) hi hsz hu
    have p2:=aa2 (w:=w) htd (.inr rfl) hi hsz hv
    have hq:=ad7 (P:=P) htd d x y w
    unfold Op.eqFields
    rw [if_pos hname]
    simp only [Sem.run_bind,p1,p2,hq,Result.andThen_ok]
    cases hxy:(x==y) with
    |false=>simp
    |true=>simpa using ht
   |[],_,hb=>simp [J6] at hb
   |⟨.int _,_⟩::_,_,hb=>simp [J6] at hb
   |⟨.str,_⟩::_,_,hb=>simp [J6] at hb
   |⟨.slice _ _,_⟩::_,_,hb=>simp [J6] at hb
   |⟨.user _,_⟩::_,_,hb=>simp [J6] at hb
   |⟨.map _ _,_⟩::_,_,hb=>simp [J6] at hb
   |⟨.ifc _,_⟩::_,_,hb=>simp [J6] at hb
   |⟨.bool,_⟩::_,[],hb=>simp [J6] at hb
   |⟨.bool,_⟩::_,⟨.int _,_⟩::_,hb=>simp [J6] at hb
   |⟨.bool,_⟩::_,⟨.str,_⟩::_,hb=>simp [J6] at hb
   |⟨.bool,_⟩::_,⟨.slice _ _,_⟩::_,hb=>simp [J6] at hb
   |⟨.bool,_⟩::_,⟨.user _,_⟩::_,hb=>simp [J6] at hb
   |⟨.bool,_⟩::_,⟨.map _ _,_⟩::_,hb=>simp [J6] at hb
   |⟨.bool,_⟩::_,⟨.ifc _,_⟩::_,hb=>simp [J6] at hb
  ·cases hp
theorem af4 {P:Program} {M:Nat→Prop} {t:TypeId} {ts:List Ty} {ds es:List (Datum U)} {b:Bool} {xs ys:List Value} (hs:P.stoodInHeld t=false) (hp:ae5 P t=some ts) (hb:J6 ts ds es=some b)
  (hx:∀ (j:Nat) (x:Datum U),ds[j]? =some x→∃ u,xs[j]? =some u∧Rep U w M x u) (hy:∀ (j:Nat) (x:Datum U),es[j]? =some x→∃ u,ys[j]? =some u∧Rep U w M x u):
  (Op.equalIn 10000 t (.agg xs.toArray) (.agg ys.toArray)).run P w=.ok b w:=by
 unfold ae5 at hp
 split at hp
 case h_2=>cases hp
 rename_i fs hu
 have hf:P.fieldsOf t=fs:=by simp [Program.fieldsOf,hu]
 rw [show (10000:Nat)=9999+1 from rfl,run_equalIn_struct (P:=P) w 9999 t _ _ (by rw [hf];exact hu) hs,hf]
 exact ak7 9998 hp hb (fun j x hj=>by rw [Nat.zero_add];exact hx j x hj) (fun j x hj=>by rw [Nat.zero_add];exact hy j x hj)
theorem bq4 {ds:List (Datum U)} {vs:List Value} (r:CsRel w β h (ds.map .d) vs):∀ (j:Nat) (x:Datum U),ds[j]? =some x→∃ u,vs[j]? =some u∧Rep U w (Live β h) x u:=by
 intro j x hj
 have hlt:j<vs.length:=by rw [r.1];simpa using (co9.1 hj).1
 exact ⟨vs[j],co6 hlt,r.2.2 j (.d x) _ (by simp [hj]) (co6 hlt)⟩
theorem Does.bin (R:Rel F n β s tmps w) {op:BinOp} {t t':TypeId} {x y:Operand} (hop:o.op=.binOp op t x y t') {u v:PV U} (r:PRel w β s.h s.σ u (ρ x)) (q:PRel w β s.h s.σ v (ρ y))
  (he:bo9 E op t u v=some e) (ho:e.Obl):Does E.P F β s ρ w o e:=by
 unfold bo9 at he
 split at he
 ·split at he
  ·rename_i k a k' b hk
   subst hk
   split at he
   ·rename_i p d ha
    simp only [co4] at he
    subst he
    obtain ⟨z,hz,hz2⟩:=bF0 ha ho t x y w E.P
    have hx:=r.int
    have hy:=q.int
    refine Does.pure (n:=n) R rfl (v:=z) ?_ (hz2 _ _ _)
    simp only [execOp,hop,hx,hy]
    have hz':=hz
    simp only [Sem.run_bind] at hz' ⊢
    rw [hz']
    rfl
   ·cases he
  ·cases he
 ·rename_i a b
  split at he
  ·rename_i hu
   have hx:=r.bool
   have hy:=q.bool
   have heq:(Op.equal t (.bool a) (.bool b)).run E.P w=.ok (a==b) w:=ad7 hu 9999 a b w
   split at he
   ·simp only [co4] at he
    subst he
    refine Does.pure (n:=n) R rfl (v:=.bool (a==b)) ?_ (PRel.mkBool _)
    simp [execOp,hop,hx,hy,eqGuard,binOp,heq]
   ·simp only [co4] at he
    subst he
    refine Does.pure (n:=n) R rfl (v:=.bool (a !=b)) ?_ (PRel.mkBool _)
    simp [execOp,hop,hx,hy,eqGuard,binOp,heq,bne]
   ·cases he
  ·cases he
 ·--structs
  rename_i xs ys
  split at he
  case h_2=>cases he
  rename_i ts ds es h1 h2 h3 h4 h5
  split at he
  case h_2=>cases he
  rename_i b hb
  obtain ⟨vs,hx,hxr⟩:=r
  obtain ⟨us,hy,hyr⟩:=q
  rw [af3 h4] at hxr
  rw [af3 h5] at hyr
  have heq:=af4 (w:=w) h1 h3 hb (bq4 hxr) (bq4 hyr)
  split at he
  ·simp only [co4] at he
   subst he
   refine Does.pure (n:=n) R rfl (v:=.bool b) ?_ (PRel.mkBool _)
   have g1:=run_eqGuard_agg (P:=E.P) w .eql t x y vs.toArray us.toArray h2
   have g2:=run_eql_struct (P:=E.P) w t vs.toArray us.toArray
   rw [heq] at g2
   simp [execOp,hop,hx,hy,g1,g2]
  ·simp only [co4] at he
   subst he
   refine Does.pure (n:=n) R rfl (v:=.bool (!b)) ?_ (PRel.mkBool _)
   have g1:=run_eqGuard_agg (P:=E.P) w .neq t x y vs.toArray us.toArray h2
   have g2:=run_neq_struct (P:=E.P) w t vs.toArray us.toArray
   rw [heq] at g2
   simp [execOp,hop,hx,hy,g1,g2]
  ·cases he
 ·cases he
theorem Does.un (R:Rel F n β s tmps w) {op:UnOp} {t:TypeId} {x:Operand} (hop:o.op=.unOp op t x) {u:PV U} (r:PRel w β s.h s.σ u (ρ x)) (he:bQ6 op u=some e):Does E.P F β s ρ w o e:=by
 unfold bQ6 at he
 split at he
 ·rename_i b
  have hx:=r.bool
  split at he
  ·simp only [co4] at he
   subst he
   refine Does.pure (n:=n) R rfl (v:=.bool !b) ?_ (PRel.mkBool _)
   simp [execOp,hop,hx,Op.unary]
  ·cases he
 ·rename_i k a
  have hx:=r.int
  split at he
  ·simp only [co4] at he
   subst he
   refine Does.pure (n:=n) R rfl (v:=.int k (k.wrap (0-a))) ?_ (PRel.mkInt _ _)
   simp [execOp,hop,hx,Op.unary,Op.intArith]
  ·cases he
 ·cases he
theorem Does.conv (R:Rel F n β s tmps w) {t t':TypeId} {x:Operand} (hop:o.op=.convert t' t x) {u:PV U} (r:PRel w β s.h s.σ u (ρ x)) (he:aQ2 E t u=some e) (ht:∃ d,E.P.underlying t'=some d):Does E.P F β s ρ w o e:=by
 unfold aQ2 at he
 split at he
 ·rename_i k a
  have hx:=r.int
  split at he
  ·rename_i k' hk
   simp only [co4] at he
   subst he
   obtain ⟨d,hd⟩:=ht
   refine Does.pure (n:=n) R rfl (v:=.int k' (k'.wrap a)) ?_ (PRel.mkInt _ _)
   simp [execOp,hop,hx,convert,run_underlying hk,run_underlying hd,Conv.intToInt]
  ·cases he
 ·cases he
theorem Does.nilCheck (R:Rel F n β s tmps w) {x:Operand} (hop:o.op=.nilCheck x) {c:Cell U} (hc:(∃ id off,c=.ptr id off)∨(∃ cs off,c=.rd cs off)∨(∃ id ver i off,c=.elt id ver i off∧∃ e t l lv,look id s.h=some (.row e t l ver lv)))
  (r:PRel w β s.h s.σ (.one c) (ρ x)):Does E.P F β s ρ w o (F9 (.one c)):=by
 have:∃ a,ρ x=.pointer (some a):=by
  rcases hc with ⟨id,off,rfl⟩|⟨cs,off,rfl⟩|⟨id,ver,i,off,rfl,e,t,l,lv,hl⟩
  ·obtain ⟨_,_,b,_,_,hv⟩:=r.inv.2;exact ⟨_,hv⟩
  ·obtain ⟨g,q,hv,_⟩:=r.inv.2;exact ⟨_,hv⟩
  ·obtain ⟨_,_,_,_,_,hl2,_,hv⟩:=r.inv.2
   rw [hl] at hl2
   simp only [co4,Ob.row.injEq] at hl2
   obtain ⟨_,_,g,c,_,hv⟩:=hv hl2.2.2.2.1
   exact ⟨_,hv⟩
 obtain ⟨a,ha⟩:=this
 refine Does.pure (n:=n) R rfl (v:=ρ x) ?_ r
 simp [execOp,hop,ha]
theorem bZ0 {D:Deep U} {N:Value} {c c':DC U} {k:Nat} (ha:D.at_ c k=some c') {v:Value} (r:DCRel D N c v):∃ g q,v=.pointer (some ⟨g,q,none⟩)∧DCRel D N c' (.pointer (some ⟨g,q+k,none⟩)):=by
 cases D with
 |maps=>simp [Deep.at_] at ha
 |iter=>simp [Deep.at_] at ha
 |rows e t m l ver iv lv hole=>
  cases c with
  |elt v0 i off=>
   simp only [Deep.at_] at ha
   split at ha
   case isFalse=>cases ha
   rename_i hv
   have hv:=co5 hv
   simp only [co4] at ha
   subst ha
   obtain ⟨q1,q2⟩:=r
   obtain ⟨h0,h1,vs,g,c,hN,hg,hx⟩:=q2 hv
   exact ⟨g,_,hx,q1,fun _=>⟨h0,h1,vs,g,c,hN,hg,by rw [Nat.add_assoc]⟩⟩
  |iat v0 i j q off=>
   simp only [Deep.at_] at ha
   split at ha
   case isFalse=>cases ha
   rename_i hv
   have hv:=co5 hv
   simp only [co4] at ha
   subst ha
   obtain ⟨q1,q2⟩:=r
   obtain ⟨h0,h1,hm,hq0,vs,g,c,e',t',l',hN,hg,hd,hq,hx⟩:=q2 hv
   exact ⟨g,_,hx,q1,fun _=>⟨h0,h1,hm,hq0,vs,g,c,e',t',l',hN,hg,hd,hq,by rw [Nat.add_assoc]⟩⟩
  |self=>simp [Deep.at_] at ha
  |inn=>simp [Deep.at_] at ha
  |key=>simp [Deep.at_] at ha
  |it=>simp [Deep.at_] at ha
theorem Does.nilCheckDp (R:Rel F n β s tmps w) {x:Operand} (hop:o.op=.nilCheck x) {id:Nat} {c c':DC U} {D:Deep U} (hl:look id s.h=some (.dp D)) (ha:D.at_ c 0=some c')
  (r:PRel w β s.h s.σ (.one (.dc id c)) (ρ x)):Does E.P F β s ρ w o (F9 (.one (.dc id c'))):=by
 obtain ⟨D',hl',hv⟩:=r.inv.2
 rw [hl] at hl'
 simp only [co4,Ob.dp.injEq] at hl'
 subst hl'
 obtain ⟨g,q,hx,hr⟩:=bZ0 ha hv
 rw [Nat.add_zero] at hr
 refine Does.pure (n:=n) R rfl (v:=ρ x) ?_ (by rw [hx];exact CsRel.one rfl ⟨D,hl,hr⟩)
 simp [execOp,hop,hx]
theorem ac0 {P:Program} {t:TypeId} {f off:Nat} {t':TypeId} (h:ao2 P t f=some (off,t')) (g q:Nat) (w:World):
  (Instr.fieldAt t (.pointer (some ⟨g,q,none⟩)) f).run P w=.ok (.pointer (some ⟨g,q+off,none⟩)) w:=by
 unfold ao2 at h
 split at h
 ·rename_i fs hu
  split at h
  ·rename_i x hx
   split at h
   ·rename_i i hi
    split at h
    ·cases h
    ·rename_i hz
     simp only [co4,cp6] at h
     obtain ⟨rfl,rfl⟩:=h
     have hx':fs[f]? =some x:=by simpa using hx
     have hz':¬ i.size=0:=fun h0=>hz (by rw [h0];rfl)
     simp [Instr.fieldAt,run_underlying hu,hx',Instr.sureAddr,fieldPlace,sizeOf,typeInfo,hi,hz',Addr.add_lit]
   ·cases h
  ·cases h
 ·cases h
theorem Does.fieldAddr (R:Rel F n β s tmps w) {t:TypeId} {f:Nat} {x:Operand} (hop:o.op=.fieldAddr t x f) {u:PV U} (r:PRel w β s.h s.σ u (ρ x)) {ids:List Nat} (he:X3 E (sub s.h ids) t f u=some e):Does E.P F β s ρ w o e:=by
 unfold X3 at he
 split at he
 ·rename_i off' t' ho
  split at he
  ·rename_i id off
   simp only [co4] at he
   subst he
   obtain ⟨e',cs,b,hl,hb,hv⟩:=r.inv.2
   refine Does.pure (n:=n) R rfl (v:=.pointer (some ⟨b,off+off',none⟩)) ?_ (CsRel.one rfl ⟨e',cs,b,hl,hb,rfl⟩)
   simp [execOp,hop,hv,ac0 ho]
  ·rename_i cs off
   simp only [co4] at he
   subst he
   obtain ⟨g,q,hv,hM,hg,hc⟩:=r.inv.2
   refine Does.pure (n:=n) R rfl (v:=.pointer (some ⟨g,q+off+off',none⟩)) ?_ (CsRel.one rfl ⟨g,q,by rw [Nat.add_assoc],hM,hg,hc⟩)
   simp [execOp,hop,hv,ac0 ho]
  ·rename_i id ver i off
   split at he
   ·rename_i a1 a2 a3 ver2 a5 hl2
    split at he
    ·rename_i hb
     have hb:=co5 hb
     simp only [co4] at he
     subst he
     obtain ⟨e',c,l,ver',lv,hl,hle,hv⟩:=r.inv.2
     have hl2:=C1 hl2
     rw [hl] at hl2
     simp only [co4,Ob.row.injEq] at hl2
     have hh:ver=ver':=hb.trans hl2.2.2.2.1.symm
     obtain ⟨h0,h1,g,cap,hβ,hx⟩:=hv hh
     refine Does.pure (n:=n) R rfl (v:=.pointer (some ⟨g,i.toNat*szOf U c+off+off',none⟩)) ?_ (CsRel.one rfl ⟨e',c,l,ver',lv,hl,hle,fun _=>⟨h0,h1,g,cap,hβ,by rw [Nat.add_assoc]⟩⟩)
     simp [execOp,hop,hx,ac0 ho]
    ·cases he
   ·cases he
  ·--a deep object
   rename_i id c
   split at he
   case h_2=>cases he
   rename_i D hl
   simp only [cp1] at he
   obtain ⟨c',ha,rfl⟩:=he
   have hl:=C1 hl
   obtain ⟨D',hl',hv⟩:=r.inv.2
   rw [hl] at hl'
   simp only [co4,Ob.dp.injEq] at hl'
   subst hl'
   obtain ⟨g,q,hx,hr⟩:=bZ0 ha hv
   refine Does.pure (n:=n) R rfl (v:=.pointer (some ⟨g,q+off',none⟩)) ?_ (CsRel.one rfl ⟨D,hl,hr⟩)
   simp [execOp,hop,hx,ac0 ho]
  ·cases he
 ·cases he
theorem Does.field (R:Rel F n β s tmps w) {t:TypeId} {f:Nat} {x:Operand} (hop:o.op=.field t x f) {u:PV U} (r:PRel w β s.h s.σ u (ρ x)) (he:az1 E t f u=some e):Does E.P F β s ρ w o e:=by
 unfold az1 at he
 split at he
 ·rename_i cs
  split at he
  ·rename_i off t' ho
   simp only [cp1] at he
   obtain ⟨p,hp,rfl⟩:=he
   obtain ⟨vs,hv,hr⟩:=r
   have hfield:∃ x0:Field,∃ fs,E.P.underlying t=some (.struct fs)∧fs[f]? =some x0∧x0.offset=off∧x0.type=t':=by
    unfold ao2 at ho
    split at ho
    ·rename_i fs hu
     split at ho
     ·rename_i x0 hx
      split at ho
      ·split at ho
       ·cases ho
       ·simp only [co4,cp6] at ho
        exact ⟨x0,fs,hu,by simpa using hx,ho.1,ho.2⟩
      ·cases ho
     ·cases ho
    ·cases ho
   obtain ⟨x0,fs,hu,hx,h1,h2⟩:=hfield
   unfold aB3 at hp
   split at hp
   ·rename_i b k hs
    split at hp
    ·rename_i hk
     have hk:=co5 hk
     have hv2:=aZ0 (σ:=s.σ) hp ((hr.drop off).take k)
     have hpart:=bq3 (P:=E.P) hs w vs off (by rw [((hr.drop off).take k).1];exact hk)
     have run:∀ v,(part t' vs.toArray off).run E.P w=.ok v w→(execOp ρ o).run E.P w=.ok (.value v) w:=by
      intro v hv3
      simp [execOp,hop,Instr.field,run_underlying hu,hx,asAgg,hv,h1,h2,hv3]
     cases b with
     |true=>exact Does.pure (n:=n) R rfl (run _ (hpart.1 rfl)) (hv2.1 rfl)
     |false=>
      obtain ⟨v,hv1,hv3⟩:=hv2.2 rfl
      exact Does.pure (n:=n) R rfl (run _ (hpart.2 rfl v hv1)) hv3
    ·cases hp
   ·cases hp
  ·cases he
 ·cases he
theorem Does.extract (R:Rel F n β s tmps w) {i:Nat} {x:Operand} (hop:o.op=.extract x i) {u:PV U} (r:PRel w β s.h s.σ u (ρ x)) (he:ah9 i u=some e):Does E.P F β s ρ w o e:=by
 unfold ah9 at he
 split at he
 ·rename_i xs
  split at he
  ·rename_i b cs hx
   simp only [cp1] at he
   obtain ⟨p,hp,rfl⟩:=he
   obtain ⟨vs,hv,hl,hr⟩:=r
   have hlt:i<vs.length:=by
    rw [hl]
    by_cases hlt:i<xs.length
    ·exact hlt
    ·rw [List.getElem?_eq_none (by omega)] at hx;cases hx
   have hvi:vs[i]? =some vs[i]:=co6 hlt
   have hrel:=hr i (b,cs) vs[i] hx hvi
   refine Does.pure (n:=n) R rfl (v:=vs[i]) ?_ ?_
   ·simp [execOp,hop,hv,Instr.extract,hvi]
   ·cases b with
    |true=>
     simp only [aB2,if_true,co4] at hp
     subst hp
     exact hrel
    |false=>
     simp only [aB2,Bool.false_eq_true,if_false] at hp
     split at hp
     ·simp only [co4] at hp
      subst hp
      exact hrel
     ·cases hp
  ·cases he
 ·cases he
theorem al9 {P:Program} {t:TypeId} {z:Nat} (h:aY1 P t=some z) (g q len cap:Nat) (k:IntKind) (i:Int) (h0:0≤i) (h1:i<(len:Int)) (w:World):
  (Instr.indexAt t (.slice (some ⟨g,q,none⟩) len cap) (.int k i)).run P w=.ok (.pointer (some ⟨g,q+i.toNat*z,none⟩)) w:=by
 unfold aY1 at h
 split at h
 ·rename_i e hu
  split at h
  ·rename_i i' hi
   simp only [co4] at h
   subst h
   simp [Instr.indexAt,asIntOf,run_underlying hu,sizeOf,typeInfo,hi,h0,h1,Addr.add_lit]
  ·cases h
 ·cases h
theorem bq5 {i:Int} {k:Nat} (h0:0≤i) (h1:i<(k:Int)):i.toNat<k:=by omega
theorem aC4 {i:Int} {k:Nat} (h0:0≤i) (h1:i<(k:Int)):¬ k=0:=by omega
theorem Owns.form {w:World} {B:Nat} {e:TypeId} {size:Nat} {v:Value} {n:Nat} {xs:List Value} (h:Owns w B e size v n xs):(∃ A cap,v=.slice A n cap∧n≤cap)∧(¬ n=0→∃ g cap,v=.slice (some ⟨g,0,none⟩) n cap):=by
 rcases h.2 with ⟨h3,h4⟩|⟨g,cap,cur,h3,_,_,h5,_⟩
 ·exact ⟨⟨none,0,by rw [h4];exact h3,by omega⟩,fun hh=>absurd h4 hh⟩
 ·exact ⟨⟨_,cap,h3,h5⟩,fun _=>⟨g,cap,h3⟩⟩
theorem af5 {B:Nat} {e:TypeId} {t:Ty} {m:List Nat} {l:List (den U.T t)} {ver iv:Nat} {lv:Bool} {hole:Option (Int×Nat)} {N:Value} (r:DRel B w β h (.rows e t m l ver iv lv hole) N) {v0:Nat} (hv0:v0=ver) {v:Value} (hv:DCRel (.rows e t m l ver iv lv hole) N (.self v0) v):
  ∃ xs ns,N=.tuple (v::ns).toArray∧Owns w B e (szOf U t) v l.length xs:=by
 obtain ⟨root,xs,ns,hN,h1,_⟩:=r
 obtain ⟨vs,hvs,hg⟩:=hv.2 hv0
 rw [hN] at hvs
 have:=G9 hvs
 subst this
 simp only [List.getElem?_toArray,cp2,co4] at hg
 subst hg
 exact ⟨xs,ns,hN,h1⟩
theorem bR3 {B:Nat} {D:Deep U} {N:Value} (r:DRel B w β h D N) {c:DC U} {k:Nat} (hc:D.len c=some k) {v:Value} (hv:DCRel D N c v):∃ A cap,v=.slice A k cap:=by
 cases D with
 |maps=>simp [Deep.len] at hc
 |iter=>simp [Deep.len] at hc
 |rows e t m l ver iv lv hole=>
  cases c with
  |self v0=>
   simp only [Deep.len] at hc
   split at hc
   case isFalse=>cases hc
   rename_i hb
   simp only [co4] at hc
   subst hc
   obtain ⟨xs,ns,_,ho⟩:=af5 r (co5 hb) hv
   obtain ⟨⟨A,cap,h1,_⟩,_⟩:=ho.form
   exact ⟨A,cap,h1⟩
  |inn v0 i j=>
   simp only [Deep.len] at hc
   split at hc
   case h_2=>cases hc
   rename_i e1 t1 l1 hd1
   split at hc
   case isFalse=>cases hc
   rename_i hb
   simp only [co4] at hc
   subst hc
   obtain ⟨h0,h1,hm,vs,hN,hg⟩:=hv.2 (co5 hb)
   obtain ⟨⟨ys,ho,_⟩,_⟩:=ai2 r h0 h1 hm hd1 hN hg
   obtain ⟨⟨A,cap,h1,_⟩,_⟩:=ho.form
   exact ⟨A,cap,h1⟩
  |elt=>simp [Deep.len] at hc
  |iat=>simp [Deep.len] at hc
  |key=>simp [Deep.len] at hc
  |it=>simp [Deep.len] at hc
theorem bv5 {B:Nat} {D:Deep U} {N:Value} (r:DRel B w β h D N) {c c':DC U} {z:Nat} {i:Int} {p:Prop} (hc:D.index c z i=some (p,c')) (hp:p) {v:Value} (hv:DCRel D N c v):
  ∃ g len cap,v=.slice (some ⟨g,0,none⟩) len cap∧0≤i∧i<(len:Int)∧DCRel D N c' (.pointer (some ⟨g,0+i.toNat*z,none⟩)):=by
 cases D with
 |maps=>simp [Deep.index] at hc
 |iter=>simp [Deep.index] at hc
 |rows e t m l ver iv lv hole=>
  cases c with
  |self v0=>
   simp only [Deep.index] at hc
   split at hc
   case isFalse=>cases hc
   rename_i hb
   simp only [co7] at hb
   have hz:=co5 hb.2
   have hver:=co5 hb.1
   simp only [co4,cp6] at hc
   obtain ⟨rfl,rfl⟩:=hc
   obtain ⟨h0,h1⟩:=hp
   obtain ⟨xs,ns,hN,ho⟩:=af5 r hver hv
   obtain ⟨g,cap,hx⟩:=ho.form.2 (aC4 h0 h1)
   exact ⟨g,l.length,cap,hx,h0,h1,Nat.le_refl _,fun _=>⟨h0,h1,_,g,cap,hN,by simp [hx],by rw [hz];simp⟩⟩
  |inn v0 i0 j=>
   simp only [Deep.index] at hc
   split at hc
   case h_2=>cases hc
   rename_i e1 t1 l1 hd1
   split at hc
   case isFalse=>cases hc
   rename_i hb
   simp only [co7] at hb
   have hz:=co5 hb.2
   have hver:=co5 hb.1
   simp only [co4,cp6] at hc
   obtain ⟨rfl,rfl⟩:=hc
   obtain ⟨h0,h1⟩:=hp
   obtain ⟨q0,q1,hm,vs,hN,hg⟩:=hv.2 hver
   obtain ⟨⟨ys,ho,_⟩,_⟩:=ai2 r q0 q1 hm hd1 hN hg
   obtain ⟨g,cap,hx⟩:=ho.form.2 (aC4 h0 h1)
   exact ⟨g,l1.length,cap,hx,h0,h1,Nat.le_refl _,fun _=>⟨q0,q1,hm,h0,vs,g,cap,e1,t1,l1,hN,by rw [hg,hx],hd1,h1,by rw [hz];simp⟩⟩
  |elt=>simp [Deep.index] at hc
  |iat=>simp [Deep.index] at hc
  |key=>simp [Deep.index] at hc
  |it=>simp [Deep.index] at hc
theorem Does.indexAddr (R:Rel F n β s tmps w) {t:TypeId} {x y:Operand} (hop:o.op=.indexAddr t x y) {u v:PV U} (r:PRel w β s.h s.σ u (ρ x)) (q:PRel w β s.h s.σ v (ρ y)) {ids:List Nat}
  (he:X4 E (sub s.h ids) t u v=some e) (ho:e.Obl):Does E.P F β s ρ w o e:=by
 unfold X4 at he
 split at he
 ·--data
  rename_i e' c l k i
  split at he
  ·rename_i z hz
   split at he
   ·rename_i hb
    have hb:=co5 hb
    simp only [co4] at he
    subst he
    obtain ⟨h0,h1⟩:=ho
    have hy:=q.int
    have hi:Int.toNat i<l.length:=bq5 h0 h1
    have hgd:l.getD i.toNat (dfl U c)=l[i.toNat]:=by simp [List.getD,co6 hi]
    have hx:=r.d
    generalize hvx:ρ x=vx at hx
    cases hx with
    |nil=>simp at hi
    |slice _ _ _ g q' cap f hpos hc hm hM hg hcell hr=>
     refine Does.pure (n:=n) R rfl (v:=.pointer (some ⟨g,q'+i.toNat*z,none⟩)) ?_ ?_
     ·simp [execOp,hop,hvx,hy,al9 hz g q' l.length cap k i h0 h1 w]
     ·refine CsRel.one rfl ⟨g,q'+i.toNat*z,rfl,hM,hg,fun j d hd=>?_⟩
      rw [hgd] at hd
      have hj:j<szOf U c:=by
       rw [←B3 U c l[i.toNat]]
       by_cases hj:j<(B4 U c l[i.toNat]).length
       ·exact hj
       ·rw [List.getElem?_eq_none (by omega)] at hd;cases hd
      rw [hb]
      exact ⟨f i.toNat j,hcell _ hi _ hj,hr i.toNat _ (co6 hi) j d hd⟩
   ·cases he
  ·cases he
 ·--a row of one's own
  rename_i id ver k i
  split at he
  ·rename_i e' c l ver' lv hl
   split at he
   ·rename_i z hz
    split at he
    ·rename_i hb
     simp only [co7] at hb
     have hver:=co5 hb.1
     have hzz:=co5 hb.2
     simp only [co4] at he
     subst he
     obtain ⟨h0,h1⟩:=ho
     have hy:=q.int
     have hl:=C1 hl
     obtain ⟨_,_,_,_,_,hl2,hle,hv⟩:=r.inv.2
     rw [hl] at hl2
     simp only [co4,Ob.row.injEq] at hl2
     have hx:=hv (hver.trans hl2.2.2.2.1)
     obtain ⟨xs,hown,hm,h1c,hel⟩:=R.obj id _ hl
     have hform:∃ g cap,β id=.slice (some ⟨g,0,none⟩) l.length cap:=by
      rcases hown.2 with ⟨_,h3⟩|⟨g,cap,cur,h3,_⟩
      ·exact absurd h3 (aC4 h0 h1)
      ·exact ⟨g,cap,h3⟩
     obtain ⟨g,cap,hβ⟩:=hform
     refine Does.pure (n:=n) R rfl (v:=.pointer (some ⟨g,0+i.toNat*z,none⟩)) ?_ ?_
     ·simp [execOp,hop,hx,hβ,hy,al9 hz g 0 l.length cap k i h0 h1 w]
     ·refine CsRel.one rfl ⟨e',c,l,ver',lv,hl,by omega,fun _=>⟨h0,h1,g,cap,hβ,by rw [hzz];simp⟩⟩
    ·cases he
   ·cases he
  ·cases he
 ·--a table of the program
  rename_i g k i
  split at he
  ·rename_i fs hfs
   split at he
   ·rename_i len el hu
    split at he
    ·rename_i ie hie
     split at he
     ·rename_i hb
      simp only [co7] at hb
      have hlen:=co5 hb.1
      have hsz:=co5 hb.2
      simp only [co4] at he
      subst he
      obtain ⟨h0,h1⟩:=ho
      have hy:=q.int
      have hx:ρ x=.pointer (some ⟨g,0,none⟩):=r.inv.2
      refine Does.pure (n:=n) R rfl (v:=.pointer (some ⟨g,i.toNat,none⟩)) ?_ ?_
      ·have h1':i<(len:Int):=by rw [hlen];exact h1
       simp [execOp,hop,hx,hy,Instr.indexAt,asIntOf,run_underlying hu,sizeOf,typeInfo,hie,h0,h1',Addr.add_lit,hsz,Instr.sureAddr]
      ·exact CsRel.one rfl ⟨h0,rfl⟩
     ·cases he
    ·cases he
   ·cases he
  ·cases he
 ·--a deep object
  rename_i id c k i
  split at he
  case h_2=>cases he
  rename_i D hl
  split at he
  case h_2=>cases he
  rename_i z hz
  split at he
  case h_2=>cases he
  rename_i p c' hc
  simp only [co4] at he
  subst he
  have hy:=q.int
  have hl:=C1 hl
  obtain ⟨D',hl',hv⟩:=r.inv.2
  rw [hl] at hl'
  simp only [co4,Ob.dp.injEq] at hl'
  subst hl'
  obtain ⟨g,len,cap,hx,h0,h1,hr⟩:=bv5 (R.obj id _ hl) hc ho hv
  refine Does.pure (n:=n) R rfl (v:=.pointer (some ⟨g,0+i.toNat*z,none⟩)) ?_ (CsRel.one rfl ⟨D,hl,hr⟩)
  simp [execOp,hop,hx,hy,al9 hz g 0 len cap k i h0 h1 w]
 ·--an array in a box
  rename_i id off k i
  split at he
  ·rename_i len el hu
   split at he
   ·rename_i ie hie
    simp only [co4] at he
    subst he
    obtain ⟨h0,h1⟩:=ho
    have hy:=q.int
    obtain ⟨e',cs,b,hl,hβ,hx⟩:=r.inv.2
    refine Does.pure (n:=n) R rfl (v:=.pointer (some ⟨b,off+i.toNat*ie.size,none⟩)) ?_ ?_
    ·simp [execOp,hop,hx,hy,Instr.indexAt,asIntOf,run_underlying hu,sizeOf,typeInfo,hie,h0,h1,Addr.add_lit,Instr.sureAddr]
    ·exact CsRel.one rfl ⟨e',cs,b,hl,hβ,rfl⟩
   ·cases he
  ·cases he
 ·cases he
theorem H6 {P:Program} {b:Builtin} {c:Call} (hop:o.op=.call c) (hc:c.callee=.builtin b) {r:Result Next} (h:(builtin b c.argTypes o.type (c.args.map fun| .const _=>true|_=>false) (c.args.map ρ)).run P w=r):
  (execOp ρ o).run P w=r:=by
 simp only [execOp,hop,resolve,hc]
 exact h
theorem cb0 {P:Program} {t:TypeId} {e:TypeId} (hu:P.underlying t=some (.slice e)) {ts:Array TypeId} (ht:ts[0]? =some t) (A:Option Addr) (k c:Nat) (ty:TypeId) (w:World):
  (Builtin.len_ ts ty #[.slice A k c]).run P w=.ok (.int .i64 (k:Int)) w:=by
 simp [Builtin.len_,ht,run_underlying hu,goInt]
theorem Does.len (R:Rel F n β s tmps w) {c:Call} {x:Operand} (hop:o.op=.call c) (hc:c.callee=.builtin .len) (hx:c.args.toList=[x]) {t e':TypeId} {ts:List TypeId} (ht:c.argTypes.toList=t::ts) (hu:E.P.underlying t=some (.slice e'))
  {u:PV U} (r:PRel w β s.h s.σ u (ρ x)) {ids:List Nat} (he:bp0 (sub s.h ids) u=some e):Does E.P F β s ρ w o e:=by
 have hargs:c.args.map ρ=#[ρ x]:=by
  apply Array.toList_inj.1
  simp [hx]
 have h0:c.argTypes[0]? =some t:=by
  rw [←Array.getElem?_toList,ht];rfl
 have fin:∀ (A:Option Addr) (k cap:Nat),ρ x=.slice A k cap→(execOp ρ o).run E.P w=.ok (.value (.int .i64 (k:Int))) w:=by
  intro A k cap hv
  refine H6 hop hc ?_
  rw [hargs,hv]
  simp [builtin,cb0 hu h0]
 unfold bp0 at he
 split at he
 ·rename_i e2 c2 l
  simp only [co4] at he
  subst he
  have hd:=r.d
  generalize hvx:ρ x=vx at hd
  cases hd with
  |nil=>exact Does.pure (n:=n) R rfl (fin _ _ _ hvx) (PRel.mkInt _ _)
  |slice=>exact Does.pure (n:=n) R rfl (fin _ _ _ hvx) (PRel.mkInt _ _)
 ·simp only [co4] at he
  subst he
  exact Does.pure (n:=n) R rfl (fin none 0 0 r.inv.2) (PRel.mkInt _ _)
 ·rename_i id ver
  split at he
  ·rename_i a1 a2 l ver2 a5 hl
   split at he
   ·rename_i hb
    have hb:=co5 hb
    simp only [co4] at he
    subst he
    have hl:=C1 hl
    obtain ⟨_,_,_,_,_,hl2,hle,hv⟩:=r.inv.2
    rw [hl] at hl2
    simp only [co4,Ob.row.injEq] at hl2
    have hx:=hv (hb.trans hl2.2.2.2.1)
    obtain ⟨xs,hown,hm,h1c,hel⟩:=R.obj id _ hl
    have:∃ A cap,β id=.slice A l.length cap:=by
     rcases hown.2 with ⟨h3,h4⟩|⟨g,cap,cur,h3,_⟩
     ·exact ⟨none,0,by rw [h4];exact h3⟩
     ·exact ⟨_,cap,h3⟩
    obtain ⟨A,cap,hβ⟩:=this
    exact Does.pure (n:=n) R rfl (fin A l.length cap (hx.trans hβ)) (PRel.mkInt _ _)
   ·cases he
  ·cases he
 ·rename_i id c
  split at he
  case h_2=>cases he
  rename_i D hl
  split at he
  case h_2=>cases he
  rename_i k hk
  simp only [co4] at he
  subst he
  have hl:=C1 hl
  obtain ⟨D',hl',hv⟩:=r.inv.2
  rw [hl] at hl'
  simp only [co4,Ob.dp.injEq] at hl'
  subst hl'
  obtain ⟨A,cap,hx⟩:=bR3 (R.obj id _ hl) hk hv
  exact Does.pure (n:=n) R rfl (fin A k cap hx) (PRel.mkInt _ _)
 ·cases he
theorem Does.min (R:Rel F n β s tmps w) {c:Call} {x y:Operand} (hop:o.op=.call c) (hc:c.callee=.builtin .min) (hx:c.args.toList=[x,y])
  {u v:PV U} (r:PRel w β s.h s.σ u (ρ x)) (q:PRel w β s.h s.σ v (ρ y)) (he:bp1 u v=some e):Does E.P F β s ρ w o e:=by
 have hargs:c.args.map ρ=#[ρ x,ρ y]:=by
  apply Array.toList_inj.1
  simp [hx]
 unfold bp1 at he
 split at he
 ·split at he
  ·rename_i k a k' b hk
   subst hk
   simp only [co4] at he
   subst he
   have h1:=r.int
   have h2:=q.int
   refine Does.pure (n:=n) R rfl (H6 hop hc ?_) (PRel.mkInt k (if (b:Int)<a then b else a))
   rw [hargs,h1,h2]
   simp [builtin,Builtin.min_,Builtin.min2]
  ·cases he
 ·cases he
theorem Does.max (R:Rel F n β s tmps w) {c:Call} {x y:Operand} (hop:o.op=.call c) (hc:c.callee=.builtin .max) (hx:c.args.toList=[x,y])
  {u v:PV U} (r:PRel w β s.h s.σ u (ρ x)) (q:PRel w β s.h s.σ v (ρ y)) (he:bp2 u v=some e):Does E.P F β s ρ w o e:=by
 have hargs:c.args.map ρ=#[ρ x,ρ y]:=by
  apply Array.toList_inj.1
  simp [hx]
 unfold bp2 at he
 split at he
 ·split at he
  ·rename_i k a k' b hk
   subst hk
   simp only [co4] at he
   subst he
   have h1:=r.int
   have h2:=q.int
   refine Does.pure (n:=n) R rfl (H6 hop hc ?_) (PRel.mkInt k (if (b:Int) >a then b else a))
   rw [hargs,h1,h2]
   simp [builtin,Builtin.max_,Builtin.max2]
  ·cases he
 ·cases he
theorem bZ1 (a b:Int):(if b >a then b else a)=max a b:=by split<;>omega
theorem Does.max3 (R:Rel F n β s tmps w) {c:Call} {x y z:Operand} (hop:o.op=.call c) (hc:c.callee=.builtin .max) (hx:c.args.toList=[x,y,z])
  {u v t:PV U} (r:PRel w β s.h s.σ u (ρ x)) (q:PRel w β s.h s.σ v (ρ y)) (q2:PRel w β s.h s.σ t (ρ z)) (he:aQ4 u v t=some e):Does E.P F β s ρ w o e:=by
 have hargs:c.args.map ρ=#[ρ x,ρ y,ρ z]:=by
  apply Array.toList_inj.1
  simp [hx]
 unfold aQ4 at he
 split at he
 ·rename_i a b d
  simp only [co4] at he
  subst he
  have h1:=r.int
  have h2:=q.int
  have h3:=q2.int
  refine Does.pure (n:=n) R rfl (H6 hop hc ?_) (PRel.mkInt .i64 (Max.max (Max.max (a:Int) b) d))
  rw [hargs,h1,h2,h3]
  have e1:(if (b:Int) >a then (b:Int) else a)=Max.max (a:Int) b:=bZ1 a b
  have e2:∀ m:Int,(if (d:Int) >m then (d:Int) else m)=Max.max m d:=fun m=>bZ1 m d
  simp [builtin,Builtin.max_,Builtin.max2,e1,e2]
 ·cases he
theorem Rel.ok (R:Rel F n β s tmps w):Ok F w β s.h:=R.toOk
theorem After.ok {w':World} {β':Nm} {h':Obs U} (A:After F w β h w' β' h'):Ok F w' β' h':=A.toOk
theorem Ok.after (k:Ok F w β h):After F w β h w β h:=⟨k,Ext.refl _ _ _⟩
theorem Ext.after {w':World} {β':Nm} {h':Obs U} (x:Ext w β h w' β' h') (k:Ok F w' β' h'):After F w β h w' β' h':=⟨k,x⟩
theorem Ext.trans {w1 w2:World} {β1 β2:Nm} {h1 h2:Obs U} (x:Ext w β h w1 β1 h1) (y:Ext w1 β1 h1 w2 β2 h2):Ext w β h w2 β2 h2 where
 size:=Nat.le_trans x.size y.size
 heap:=fun b hb hl=>by
  have h1:=x.heap b hb hl
  have hb1:b<w1.heap.size:=Nat.lt_of_lt_of_le hb x.size
  rw [y.heap b hb1 (fun hh=>hl (x.own b hb hh))]
  exact h1
 own:=fun b hb hl=>x.own b hb (y.own b (Nat.lt_of_lt_of_le hb x.size) hl)
 M:=y.M.trans x.M
 box:=fun id e cs hl=>by
  obtain ⟨h1,cs1,h2⟩:=x.box id e cs hl
  obtain ⟨h3,cs2,h4⟩:=y.box id e cs1 h2
  exact ⟨h3.trans h1,cs2,h4⟩
 row:=fun id e t l ver lv hl=>by
  obtain ⟨l1,ver1,lv1,h1,h2,h3⟩:=x.row id e t l ver lv hl
  obtain ⟨l2,ver2,lv2,h4,h5,h6⟩:=y.row id e t l1 ver1 lv1 h1
  refine ⟨l2,ver2,lv2,h4,by omega,fun hh=>?_⟩
  have e1:ver1=ver:=by omega
  obtain ⟨h7,h8⟩:=h3 e1
  obtain ⟨h9,h10⟩:=h6 (by omega)
  exact ⟨h9.trans h7,h10.trans h8⟩
 oth:=fun id o hl ho=>by
  obtain ⟨h1,h2,o1,h3,h4⟩:=x.oth id o hl ho
  have ho1:o1.oth=true:=by cases o<;>cases o1<;>simp_all [Ob.like,Ob.oth]
  obtain ⟨h5,h6,o2,h7,h8⟩:=y.oth id o1 h3 ho1
  refine ⟨h5.trans h1,h6.trans h2,o2,h7,?_⟩
  cases o<;>cases o1<;>cases o2<;>simp_all [Ob.like,Ob.oth]
 dp:=fun id D hl=>by
  obtain ⟨D1,h1,h2⟩:=x.dp id D hl
  obtain ⟨D2,h3,h4⟩:=y.dp id D1 h1
  exact ⟨D2,h3,fun c v hv=>h4 c v (h2 c v hv)⟩
theorem After.trans {w1 w2:World} {β1 β2:Nm} {h1 h2:Obs U} (x:After F w β h w1 β1 h1) (y:After F w1 β1 h1 w2 β2 h2):After F w β h w2 β2 h2:=
 (x.ext.trans y.ext).after y.ok
theorem C9 (h u v:Obs U):upds h (u++v)=upds (upds h u) v:=by
 induction u generalizing h with
 |nil=>rfl
 |cons x u ih=>obtain ⟨id,o⟩:=x;exact ih _
def Freezes (h u:Obs U):Prop:=∀ id o,(id,o)∈u→(∃ e t l ver lv,look id h=some (.row e t l ver lv)∧o=.row e t l ver false)∨(∃ D,look id h=some (.dp D)∧o=.dp D.frozen)
def Ob.frozen:Ob U→Ob U
 | .row e t l ver _=>.row e t l ver false
 | .dp D=>.dp D.frozen
 |o=>o
theorem Freezes.at_ {u:Obs U} (hf:Freezes h u) {id:Nat} {o:Ob U} (hm:(id,o)∈u):∃ o0,look id h=some o0∧o=o0.frozen∧o0.isRow=true:=by
 rcases hf id o hm with ⟨e,t,l,ver,lv,h1,h2⟩|⟨D,h1,h2⟩
 ·exact ⟨_,h1,h2,rfl⟩
 ·exact ⟨_,h1,h2,rfl⟩
theorem Freezes.of {u:Obs U} (hf:∀ id o,(id,o)∈u→∃ o0,look id h=some o0∧o=o0.frozen∧o0.isRow=true):Freezes h u:=by
 intro id o hm
 obtain ⟨o0,h1,h2,h3⟩:=hf id o hm
 cases o0 with
 |row e t l ver lv=>exact .inl ⟨e,t,l,ver,lv,h1,h2⟩
 |dp D=>exact .inr ⟨D,h1,h2⟩
 |box=>cases h3
 |map=>cases h3
 |loop=>cases h3
theorem Deep.frozen2 (D:Deep U):D.frozen.frozen=D.frozen:=by cases D<;>rfl
theorem Ob.frozen2 (o:Ob U):o.frozen.frozen=o.frozen:=by
 cases o with
 |dp D=>simp only [Ob.frozen,Deep.frozen2]
 |_=>rfl
theorem Ob.frozen_isRow (o:Ob U):o.frozen.isRow=o.isRow:=by cases o<;>rfl
theorem DCRel.frozen {D:Deep U} {N:Value} {c:DC U} {v:Value} (r:DCRel D N c v):DCRel D.frozen N c v:=by
 cases D with
 |rows e t m l ver iv lv hole=>cases c<;>exact r
 |maps=>cases c<;>exact r
 |iter=>exact r
theorem DRel.frozen {B:Nat} {D:Deep U} {N:Value} (r:DRel B w β h D N):DRel B w β h D.frozen N:=by
 cases D with
 |rows e t m l ver iv lv hole=>exact r
 |maps=>exact r
 |iter=>exact r
theorem ORel.frozen {B:Nat} {id:Nat} {o:Ob U} (r:ORel B w β h id o):ORel B w β h id o.frozen:=by
 cases o with
 |dp D=>exact DRel.frozen r
 |row=>exact r
 |box=>exact r
 |map=>exact r
 |loop=>exact r
theorem bv6 (k:Ok F w β h) {id:Nat} {o:Ob U} (hl:look id h=some o) (hrow:o.isRow=true):
  After F w β h w β (write id o.frozen h):=by
 have live:∀ b,Own β (write id o.frozen h) b→Own β h b:=by
  rintro b ⟨id',o',h1,h2,h3⟩
  rw [A7] at h1
  split at h1
  ·rename_i he
   subst he
   simp only [co4] at h1
   subst h1
   refine ⟨id',o,hl,?_,h3⟩
   cases o with
   |dp D=>cases D<;>first|exact rfl|(simp [Ob.frozen,Ob.live,Deep.frozen,Deep.live] at h2)
   |row=>simp [Ob.frozen,Ob.live] at h2
   |box=>cases hrow
   |map=>cases hrow
   |loop=>cases hrow
  ·exact ⟨id',o',h1,h2,h3⟩
 have ext:Ext w β h w β (write id o.frozen h):=by
  refine ⟨Nat.le_refl _,fun _ _ _=>rfl,fun b _=>live b,rfl,fun id' e' cs h1=>⟨rfl,cs,?_⟩,fun id' e' t' l' ver' lv' h1=>?_,fun id' o' h1 ho=>⟨rfl,rfl,o',?_,Ob.like_refl ho⟩,fun id' D h1=>?_⟩
  ·rw [A7]
   split
   ·rename_i he;subst he;rw [hl] at h1;simp only [co4] at h1;subst h1;cases hrow
   ·exact h1
  ·by_cases he:id'=id
   ·subst he
    rw [hl] at h1
    simp only [co4] at h1
    subst h1
    exact ⟨l',ver',false,by rw [A7,if_pos rfl];rfl,Nat.le_refl _,fun _=>⟨rfl,rfl⟩⟩
   ·exact ⟨l',ver',lv',by rw [A7,if_neg he];exact h1,Nat.le_refl _,fun _=>⟨rfl,rfl⟩⟩
  ·rw [A7]
   split
   ·rename_i he;subst he;rw [hl] at h1;simp only [co4] at h1;subst h1;cases o<;>simp_all [Ob.oth,Ob.isRow]
   ·exact h1
  ·by_cases he:id'=id
   ·subst he
    rw [hl] at h1
    simp only [co4] at h1
    subst h1
    exact ⟨D.frozen,by rw [A7,if_pos rfl];rfl,fun c v hv=>hv.frozen⟩
   ·exact ⟨D,by rw [A7,if_neg he];exact h1,fun _ _ hv=>hv⟩
 have get:∀ j oj,look j (write id o.frozen h)=some oj→∃ oj',look j h=some oj':=by
  intro j oj hj
  rw [A7] at hj
  split at hj
  ·rename_i he;subst he;exact ⟨_,hl⟩
  ·exact ⟨_,hj⟩
 refine ⟨⟨k.bel,k.hB,fun id' o' h1=>?_,fun id1 o1 id2 o2 b h1 h2 h3 h4=>?_,k.frm,fun id' o' b h1 h2=>?_,fun id' o' b h1 h2=>?_,k.Mlt,k.Meq,fun id' o' v h1 h2=>?_,k.nmg,k.glo⟩,ext⟩
 ·rw [A7] at h1
  split at h1
  ·rename_i he
   subst he
   simp only [co4] at h1
   subst h1
   exact (ext.o (id:=id') rfl rfl (fun _ _=>rfl) (k.obj id' _ hl)).frozen
  ·exact ext.o rfl rfl (fun _ _=>rfl) (k.obj id' o' h1)
 ·obtain ⟨o1',h1'⟩:=get _ _ h1
  obtain ⟨o2',h2'⟩:=get _ _ h2
  exact k.dis id1 o1' id2 o2' b h1' h2' h3 h4
 ·obtain ⟨o1',h1'⟩:=get _ _ h1
  exact k.own id' o1' b h1' h2
 ·obtain ⟨o1',h1'⟩:=get _ _ h1
  exact k.Mo id' o1' b h1' h2
 ·rw [A7] at h1
  split at h1
  ·simp only [co4] at h1
   subst h1
   exact .inl (by rw [Ob.frozen_isRow];exact hrow)
  ·exact k.fix id' o' v h1 h2
theorem aw2 {u:Obs U} {id:Nat} {o0 o:Ob U} (hl:look id h=some o0) (hf:Freezes h ((id,o)::u)):Freezes (write id o0.frozen h) u:=by
 refine Freezes.of fun id' o' hm=>?_
 obtain ⟨o1,h1,h2,h3⟩:=hf.at_ (id:=id') (o:=o') (by simp [hm])
 by_cases he:id'=id
 ·subst he
  rw [hl] at h1
  simp only [co4] at h1
  subst h1
  exact ⟨o0.frozen,by rw [A7,if_pos rfl],by rw [Ob.frozen2];exact h2,by rw [Ob.frozen_isRow];exact h3⟩
 ·exact ⟨o1,by rw [A7,if_neg he];exact h1,h2,h3⟩
theorem I3 (k:Ok F w β h) {u:Obs U} (hf:Freezes h u):After F w β h w β (upds h u):=by
 induction u generalizing h with
 |nil=>exact k.after
 |cons x u ih=>
  obtain ⟨id,o⟩:=x
  obtain ⟨o0,hl,rfl,hr⟩:=hf.at_ (id:=id) (o:=o) (by simp)
  have a1:=bv6 k hl hr
  exact a1.trans (ih a1.ok (aw2 hl hf))
theorem aw3 {u:Obs U} (hf:Freezes h u) {id:Nat} {o0:Ob U} (hl:look id h=some o0) (hm:∃ o,(id,o)∈u):
  look id (upds h u)=some o0.frozen:=by
 induction u generalizing h o0 with
 |nil=>obtain ⟨o,hm⟩:=hm;simp at hm
 |cons x u ih=>
  obtain ⟨id',o'⟩:=x
  obtain ⟨o1,hl',rfl,hr⟩:=hf.at_ (id:=id') (o:=o') (by simp)
  have hf':=aw2 hl' hf
  by_cases he:id=id'
  ·subst he
   rw [hl] at hl'
   simp only [co4] at hl'
   subst hl'
   by_cases hmu:∃ o,(id,o)∈u
   ·have:=ih hf' (o0:=o0.frozen) (by rw [A7,if_pos rfl]) hmu
    rw [Ob.frozen2] at this
    exact this
   ·have:∀ (v:Obs U) (g:Obs U),(¬ ∃ o,(id,o)∈v)→look id (upds g v)=look id g:=by
     intro v
     induction v with
     |nil=>intro g _;rfl
     |cons y v ihv=>
      intro g hn
      obtain ⟨idy,oy⟩:=y
      show look id (upds (write idy oy g) v)=_
      rw [ihv _ (fun ⟨o,ho⟩=>hn ⟨o,by simp [ho]⟩),A7,if_neg (fun hh=>hn ⟨oy,by subst hh;simp⟩)]
    show look id (upds _ u)=_
    rw [this u _ hmu,A7,if_pos rfl]
  ·obtain ⟨o,hm⟩:=hm
   have hm':(id,o)∈u:=by
    rcases List.mem_cons.1 hm with h1|h1
    ·simp only [cp6] at h1;exact absurd h1.1 he
    ·exact h1
   exact ih hf' (o0:=o0) (by rw [A7,if_neg he];exact hl) ⟨o,hm'⟩
theorem bh9 {u:Obs U} (hf:Freezes h u) {id:Nat} {e:TypeId} {t:Ty} {l:List (den U.T t)} {ver:Nat} {lv:Bool} (hl:look id h=some (.row e t l ver lv)) (hm:∃ o,(id,o)∈u):
  look id (upds h u)=some (.row e t l ver false):=aw3 hf hl hm
theorem X7 {g:Obs U} (hg:∀ id o,look id g=some o→look id h=some o) {t:Ty} {c:Cell U} {d:Datum U} {u:Obs U} (ha:asD g t c=some (d,u)):Freezes h u∧d.1=t:=by
 unfold asD at ha
 split at ha
 ·split at ha
  ·rename_i hx
   simp only [co4,cp6] at ha
   obtain ⟨rfl,rfl⟩:=ha
   exact ⟨fun _ _ hm=>by simp at hm,hx⟩
  ·cases ha
 ·split at ha
  ·simp only [co4,cp6] at ha
   obtain ⟨rfl,rfl⟩:=ha
   exact ⟨fun _ _ hm=>by simp at hm,rfl⟩
  ·cases ha
 ·split at ha
  ·rename_i id ver _ e t' l ver' lv hl
   split at ha
   ·rename_i hb
    split at ha
    ·rename_i ht
     simp only [co4,cp6] at ha
     obtain ⟨rfl,rfl⟩:=ha
     exact ⟨fun id' o' hm=>by
      simp only [cp5,cp6] at hm
      obtain ⟨rfl,rfl⟩:=hm
      exact .inl ⟨e,t',l,ver',lv,hg _ _ hl,rfl⟩,ht⟩
    ·cases ha
   ·cases ha
  ·cases ha
 ·split at ha
  ·simp only [cp1,cp6] at ha
   obtain ⟨x,hx,rfl,rfl⟩:=ha
   exact ⟨fun _ _ hm=>by simp at hm,rfl⟩
  ·cases ha
 ·split at ha
  case h_2=>cases ha
  rename_i D hl
  split at ha
  case h_2=>cases ha
  rename_i x hx
  split at ha
  case isFalse=>cases ha
  rename_i ht
  simp only [co4,cp6] at ha
  obtain ⟨rfl,rfl⟩:=ha
  exact ⟨fun id' o' hm=>by
   simp only [cp5,cp6] at hm
   obtain ⟨rfl,rfl⟩:=hm
   exact .inr ⟨D,hg _ _ hl,rfl⟩,ht⟩
 ·cases ha
theorem K7 {ids:List Nat} {t:Ty} {c:Cell U} {d:Datum U} {u:Obs U} (ha:asD (sub h ids) t c=some (d,u)):Freezes h u∧d.1=t:=X7 (fun _ _=>C1) ha
theorem az7 {B:Nat} {L:Nat→Prop} {e:TypeId} {t:Ty} {l:List (den U.T t)} {v:Value} (hno:∀ g,D8 v=some g→¬ L g) (r:RowC B w L e t l v):Rep U w L ⟨.slice e t,l⟩ v:=by
 obtain ⟨xs,hown,hm,h1c,hel⟩:=r
 rcases Nat.eq_zero_or_pos l.length with h0|h0
 ·have:l=[]:=List.length_eq_zero_iff.1 h0
  subst this
  rcases hown.2 with ⟨h3,_⟩|⟨g,cap,cur,h3,_⟩
  ·rw [h3];exact .nil _ _ _ _
  ·rw [h3];exact .nil _ _ _ _
 ·have hown':=hown
  rcases hown.2 with ⟨h3,h4⟩|⟨g,cap,cur,h3,hg,hh,hcap,_,_,_⟩
  ·omega
  ·have hcells:∀ (j:Nat) (y:Value),xs[j]? =some y→w.cell? ⟨g,j,none⟩=some y:=hown'.cells (g:=g) (by rw [h3];rfl)
   have hlive:¬ L g:=hno g (by rw [h3];rfl)
   rw [h3]
   have hglt:g<w.heap.size:=(cq2.1 hh).1
   refine .slice e t l g 0 cap (fun i j=>xs.getD (i*szOf U t+j) undef) h0 hcap hm hlive hglt (fun i hi j hj=>?_) (fun i x hx j d hd=>?_)
   ·have hlen:i*szOf U t+j<xs.length:=by
     rw [hown'.1]
     have:(i+1)*szOf U t≤l.length*szOf U t:=Nat.mul_le_mul_right _ hi
     rw [Nat.add_mul,Nat.one_mul] at this
     omega
    rw [Nat.zero_add]
    refine hcells _ _ ?_
    rw [co6 hlen]
    simp [List.getD,co6 hlen]
   ·obtain ⟨y,hy,hr⟩:=hel i x hx j d hd
    simp only [List.getD,hy,Option.getD_some]
    exact hr
theorem bR4 {B:Nat} {D:Deep U} {N:Value} (hno:∀ b,Has N b→¬ Live β h b) (r:DRel B w β h D.frozen N) {c:DC U} {x:Datum U} (hx:D.datum c=some x) {v:Value} (hv:DCRel D N c v):Rep U w (Live β h) x v:=by
 cases D with
 |maps=>simp [Deep.datum] at hx
 |iter=>simp [Deep.datum] at hx
 |rows e t m l ver iv lv hole=>
  cases hole with
  |some _=>simp [Deep.datum] at hx
  |none=>
   have T8:∀ (i:Nat) (y:den U.T t),l[i]? =some y→∀ (j:Nat) (d:Datum U),(B4 U t y)[j]? =some d→∀ (root:Value) (xs ns:List Value),N=.tuple (root::ns).toArray→∀ u n,ns[i*szOf U t+j]? =some n→InnR B w (Live β h) m none i j d u n→Rep U w (Live β h) d u:=by
    intro i y hy j d hd root xs ns hN u n hn q
    cases hm:m.any (Nat.beq j) with
    |false=>exact (q.2 hm).2
    |true=>
     obtain ⟨r1,e',t',l',rfl,r3⟩:=(q.1 hm).2 (by rintro ⟨_,hh,_⟩;cases hh)
     refine az7 (fun g hg=>hno g ?_) r3
     rw [hN]
     refine ⟨n,?_,by rw [r1];exact hg⟩
     simp only [List.mem_cons]
     exact .inr (List.mem_of_getElem? hn)
   cases c with
   |self v0=>
    simp only [Deep.datum] at hx
    split at hx
    case isFalse=>cases hx
    rename_i hb
    simp only [co4] at hx
    subst hx
    have hself:=af5 (h:=h) (w:=w) (β:=β) (B:=B) r (co5 hb) (DCRel.frozen hv)
    obtain ⟨root,xs,ns,hN,h1,h2,h3,h4,h5,h6,h7⟩:=r
    obtain ⟨xs',ns',hN',_⟩:=hself
    rw [hN] at hN'
    have:=G9 hN'
    have:=congrArg Array.toList this
    simp only [List.cons.injEq] at this
    obtain ⟨rfl,rfl⟩:=this
    refine az7 (fun g hg=>hno g ?_) ⟨xs,h1,h2,h3,fun i y hy j d hd=>?_⟩
    ·rw [hN];exact ⟨v,by simp,hg⟩
    ·obtain ⟨u,n,hu,hn,q⟩:=h5 i y hy j d hd
     exact ⟨u,hu,T8 i y hy j d hd v xs ns' hN u n hn q⟩
   |inn v0 i j=>
    simp only [Deep.datum] at hx
    split at hx
    case isFalse=>cases hx
    rename_i hb
    obtain ⟨h0,h1,hm,vs,hN,hg⟩:=hv.2 (co5 hb)
    have hi:i.toNat<l.length:=by omega
    obtain ⟨root,xs,ns,hN',k1,k2,k4,k3,k5⟩:=aC3 (B:=B) (lv:=false) (ver:=ver) (iv:=iv) r hi
    unfold J7 at hx
    rw [Q4 hi] at hx
    obtain ⟨u,n,hu,hn,q⟩:=k5 j x hx
    have hv2:v=n:=by
     rw [hN'] at hN
     have:=G9 hN
     subst this
     rw [Nat.add_comm 1] at hg
     simp only [List.getElem?_toArray,List.getElem?_cons_succ] at hg
     rw [hn] at hg
     simpa using hg.symm
    obtain ⟨r1,_⟩:=(q.1 hm).2 (by rintro ⟨_,hh,_⟩;cases hh)
    rw [hv2,r1]
    exact T8 _ _ (co6 hi) j x hx root xs ns hN' u n hn q
   |elt=>simp [Deep.datum] at hx
   |iat=>simp [Deep.datum] at hx
   |key=>simp [Deep.datum] at hx
   |it=>simp [Deep.datum] at hx
theorem ai3 (k:Ok F w β h) {g:Obs U} (hg:∀ id o,look id g=some o→look id h=some o) {t:Ty} {c:Cell U} {d:Datum U} {u:Obs U} (ha:asD g t c=some (d,u)) {v:Value} (r:CRel w β h c v) {u':Obs U}
  (hf:Freezes h u') (hu:∀ x,x∈u→x∈u'):Rep U w (Live β (upds h u')) d v:=by
 have A:=I3 k hf
 unfold asD at ha
 split at ha
 ·split at ha
  ·simp only [co4,cp6] at ha
   obtain ⟨rfl,rfl⟩:=ha
   exact A.ext.rep r
  ·cases ha
 ·split at ha
  ·simp only [co4,cp6] at ha
   obtain ⟨rfl,rfl⟩:=ha
   rw [show v=.slice none 0 0 from r]
   exact .nil _ _ _ _
  ·cases ha
 ·split at ha
  ·rename_i id ver _ e t' l ver' lv hl
   split at ha
   ·rename_i hb
    have hb:=co5 hb
    split at ha
    ·rename_i ht
     simp only [co4,cp6] at ha
     obtain ⟨rfl,rfl⟩:=ha
     have hl:=hg _ _ hl
     obtain ⟨_,_,_,_,_,hl2,hle,hv⟩:=r
     rw [hl] at hl2
     simp only [co4,Ob.row.injEq] at hl2
     have hx:=hv (hb.trans hl2.2.2.2.1)
     subst hx
     have hlook:=bh9 hf hl ⟨.row e t' l ver' false,hu _ (by simp)⟩
     obtain ⟨xs,hown,hm,h1c,hel⟩:=A.obj id _ hlook
     refine az7 (B:=F.B) (fun g hg=>?_) ⟨xs,hown,hm,h1c,hel⟩
     rintro (hM|⟨id2,o2,h5,h6,h7⟩)
     ·exact A.Mo id _ g hlook (hown.has hg) hM
     have:id2=id:=A.dis id2 o2 id _ g h5 hlook h7 (hown.has hg)
     subst this
     rw [hlook] at h5
     simp only [co4] at h5
     subst h5
     simp [Ob.live] at h6
    ·cases ha
   ·cases ha
  ·cases ha
 ·split at ha
  ·simp only [cp1,cp6] at ha
   obtain ⟨x,hx,rfl,rfl⟩:=ha
   obtain ⟨vs,q1,q2,q3,q4,q5⟩:=r
   rw [q1]
   exact .ifc _ _ _ _ _ vs (U.ifc_mk _ _ _ _ _ hx) q2 q3 q4 (fun j d u hd hu=>A.ext.rep (q5 j d u hd hu))
  ·cases ha
 ·split at ha
  case h_2=>cases ha
  rename_i id c _ D hl
  split at ha
  case h_2=>cases ha
  rename_i x hx
  split at ha
  case isFalse=>cases ha
  rename_i ht
  simp only [co4,cp6] at ha
  obtain ⟨rfl,rfl⟩:=ha
  have hl:=hg _ _ hl
  obtain ⟨D',hl',hv⟩:=r
  rw [hl] at hl'
  simp only [co4,Ob.dp.injEq] at hl'
  subst hl'
  have hlook:look id (upds h u')=some (.dp D.frozen):=aw3 hf hl ⟨.dp D.frozen,hu _ (by simp)⟩
  have hdr:DRel F.B w β (upds h u') D.frozen (β id):=A.obj id _ hlook
  have hno:∀ b,Has (β id) b→¬ Live β (upds h u') b:=by
   intro b hb
   rintro (hM|⟨id2,o2,h5,h6,h7⟩)
   ·exact A.Mo id _ b hlook hb hM
   have:id2=id:=A.dis id2 o2 id _ b h5 hlook h7 hb
   subst this
   rw [hlook] at h5
   simp only [co4] at h5
   subst h5
   cases D<;>simp [Ob.live,Deep.frozen,Deep.live,Deep.datum] at h6 hx
  exact bR4 hno hdr hx hv
 ·cases ha
theorem am0 (k:Ok F w β h) {ids:List Nat} {t:Ty} {c:Cell U} {d:Datum U} {u:Obs U} (ha:asD (sub h ids) t c=some (d,u)) {v:Value} (r:CRel w β h c v) {u':Obs U}
  (hf:Freezes h u') (hu:∀ x,x∈u→x∈u'):Rep U w (Live β (upds h u')) d v:=ai3 k (fun _ _=>C1) ha r hf hu
theorem B7 {id:Nat}:∀ {u h:Obs U},(∀ o,(id,o)∉u)→look id (upds h u)=look id h
 |[],h,_=>rfl
 |(j,oj)::u,h,hn=>by
  show look id (upds (write j oj h) u)=_
  rw [B7 (fun o ho=>hn o (by simp [ho])),A7,if_neg (fun hh=>hn oj (by subst hh;simp))]
theorem S8 {id:Nat} {o:Ob U}:∀ {u h:Obs U},look id (upds h u)=some o→(id,o)∈u∨look id h=some o
 |[],h,hh=>.inr hh
 |(j,oj)::u,h,hh=>by
  rcases S8 (u:=u) (h:=write j oj h) hh with h1|h1
  ·exact .inl (by simp [h1])
  ·rw [A7] at h1
   split at h1
   ·rename_i he
    simp only [co4] at h1
    subst h1
    subst he
    exact .inl (by simp)
   ·exact .inr h1
theorem bi0 {a:Addr} {b:Nat} (h:Has (.pointer (some a)) b):a.block=b:=by simpa [Has,D8] using h
theorem bF1 {a b:Nat} (h:Has (.map (some a)) b):a=b:=by simpa [Has,D8] using h
theorem bF2 {a b:Nat} (h:Has (.func (.yield a) #[] #[]) b):a=b:=by simpa [Has,D8] using h
theorem W2 {b:Nat} (h:Has (.slice none 0 0) b):False:=by simp [Has,D8] at h
theorem ORel.blk {id:Nat} {ob:Ob U} (r:ORel F.B w β h id ob) {b:Nat} (hb:Has (β id) b):F.B≤b∧b<w.heap.size:=by
 cases ob with
 |box e cs=>
  obtain ⟨b',vs,h1,h2,h3,_⟩:=r
  rw [h1] at hb
  have hb:=bi0 hb
  subst hb
  exact ⟨h2,(cq2.1 h3).1⟩
 |row e t l ver lv=>
  obtain ⟨xs,h1,_⟩:=r
  exact h1.lt (h1.has' hb)
 |map kt vt l=>
  obtain ⟨b',es,clock,h1,h2,h3,_⟩:=r
  rw [h1] at hb
  have hb:=bF1 hb
  subst hb
  exact ⟨h2,(cq2.1 h3).1⟩
 |loop st=>
  obtain ⟨b',r,h1,h2,h3,_⟩:=r
  rw [h1] at hb
  have hb:=bF2 hb
  subst hb
  exact ⟨h2,(cq2.1 h3).1⟩
 |dp D=>exact DRel.blk r hb
theorem bq6 {w':World} {β':Nm} {u:Obs U} (hb:Below w.heap.size w w') (hM:β'.M=β.M) (hβ:∀ id o,look id h=some o→β' id=β id) (hlp:∀ id o,look id h=some o→β'.lp id=β.lp id) (hf:∀ id o,(id,o)∈u→look id h=none)
  (hg:∀ id o g,(id,o)∈u→Has (β' id) g→w.heap.size≤g):Ext w β h w' β' (upds h u):=by
 have keep:∀ id o,look id h=some o→look id (upds h u)=some o:=by
  intro id o hl
  rw [B7 (fun o' ho'=>by rw [hf id o' ho'] at hl;cases hl)]
  exact hl
 refine ⟨hb.size,fun b hlt _=>hb.block b hlt,?_,hM,fun id e cs hl=>⟨hβ id _ hl,cs,keep id _ hl⟩,fun id e t l ver lv hl=>⟨l,ver,lv,keep id _ hl,Nat.le_refl _,fun _=>⟨hβ id _ hl,rfl⟩⟩,fun id o hl ho=>⟨hβ id _ hl,hlp id _ hl,o,keep id _ hl,Ob.like_refl ho⟩,fun id D hl=>⟨D,keep id _ hl,fun c v hv=>by rw [hβ id _ hl];exact hv⟩⟩
 rintro b hlt ⟨id,o,h1,h2,h3⟩
 rcases S8 h1 with h4|h4
 ·have:=hg id o b h4 h3
  omega
 ·exact ⟨id,o,h4,h2,by rw [←hβ id o h4];exact h3⟩
theorem ai4 (k:Ok F w β h) {w':World} {β':Nm} {u:Obs U} (hb:Below w.heap.size w w') (hM:β'.M=β.M) (hβ:∀ id o,look id h=some o→β' id=β id) (hlp:∀ id o,look id h=some o→β'.lp id=β.lp id) (hf:∀ id o,(id,o)∈u→look id h=none) (hn:∀ id o,(id,o)∈u→o.isRow=true∨id<1000000)
  (hg:∀ id o g,(id,o)∈u→Has (β' id) g→w.heap.size≤g)
  (ho:∀ id o,(id,o)∈u→look id (upds h u)=some o→ORel F.B w' β' (upds h u) id o)
  (hd:∀ id o id' o' g,(id,o)∈u→(id',o')∈u→Has (β' id) g→Has (β' id') g→id=id'):After F w β h w' β' (upds h u):=by
 have ext:=bq6 hb hM hβ hlp hf hg
 have hw0:F.w0.heap.size≤w.heap.size:=k.bel.size
 refine ⟨⟨k.bel.trans (hb.mono k.hB),Nat.le_trans k.hB hb.size,fun id o hl=>?_,fun id o id' o' g h1 h2 h3 h4=>?_,fun b hlt hK=>by rw [hb.block b (by omega)];exact k.frm b hlt hK,fun id o g h1 h2=>?_,fun id o g h1 h2=>?_,fun b hm=>k.Mlt b (by rw [←hM];exact hm),hM.trans k.Meq,fun id o v h1 h2=>?_,k.nmg,k.glo⟩,ext⟩
 ·rcases S8 hl with h1|h1
  ·exact ho id o h1 hl
  ·exact ext.o (hβ id o h1) (hlp id o h1) (fun b hbb=>hb.block b ((k.obj id o h1).blk hbb).2) (k.obj id o h1)
 ·rcases S8 h1 with h5|h5<;>rcases S8 h2 with h6|h6
  ·exact hd id o id' o' g h5 h6 h3 h4
  ·have:=hg id o g h5 h3
   rw [hβ id' o' h6] at h4
   have:=((k.obj id' o' h6).blk h4).2
   omega
  ·have:=hg id' o' g h6 h4
   rw [hβ id o h5] at h3
   have:=((k.obj id o h5).blk h3).2
   omega
  ·rw [hβ id o h5] at h3
   rw [hβ id' o' h6] at h4
   exact k.dis id o id' o' g h5 h6 h3 h4
 ·rcases S8 h1 with h5|h5
  ·have:=hg id o g h5 h2;right;omega
  ·rw [hβ id o h5] at h2;exact k.own id o g h5 h2
 ·rw [hM]
  rcases S8 h1 with h5|h5
  ·intro hm;have:=hg id o g h5 h2;have:=k.Mlt g hm;omega
  ·rw [hβ id o h5] at h2;exact k.Mo id o g h5 h2
 ·rcases S8 h1 with h5|h5
  ·rcases hn id o h5 with h6|h6
   ·exact .inl h6
   ·have:=k.nmg id v h2;omega
  ·rw [hβ id o h5,hlp id o h5];exact k.fix id o v h5 h2
theorem B0 {α:Type} (k:Nat) (a:α) (l:List (Nat×α)):look k (write k a l)=some a:=by rw [A7,if_pos rfl]
def upd1 (β:Nm) (id:Nat) (v:Value):Nm:=⟨fun j=>if j=id then v else β j,β.M,β.lp⟩
theorem C2 (β:Nm) (id:Nat) (v:Value):upd1 β id v id=v:=by simp [upd1]
theorem ai5 (β:Nm) {id j:Nat} (v:Value) (h:j≠id):upd1 β id v j=β j:=by simp [upd1,h]
theorem S9 (k:Ok F w β h) {w':World} {id:Nat} {ob:Ob U} {v:Value} (hb:Below w.heap.size w w') (hf:look id h=none) (hn:ob.isRow=true∨id<1000000) (hg:∀ g,Has v g→w.heap.size≤g)
  (ho:Ext w β h w' (upd1 β id v) (write id ob h)→ORel F.B w' (upd1 β id v) (write id ob h) id ob):After F w β h w' (upd1 β id v) (write id ob h):=by
 have hβ:∀ j o,look j h=some o→upd1 β id v j=β j:=fun j o hl=>ai5 β v (fun hh=>by subst hh;rw [hf] at hl;cases hl)
 have hf':∀ j o,(j,o)∈[(id,ob)]→look j h=none:=by
  intro j o hm
  simp only [cp5,cp6] at hm
  rw [hm.1];exact hf
 have hg':∀ j o g,(j,o)∈[(id,ob)]→Has (upd1 β id v j) g→w.heap.size≤g:=by
  intro j o g hm hh
  simp only [cp5,cp6] at hm
  rw [hm.1,C2] at hh
  exact hg g hh
 have hM':(upd1 β id v).M=β.M:=rfl
 refine ai4 k hb hM' hβ (fun _ _ _=>rfl) hf' (fun j o hm=>by
  simp only [cp5,cp6] at hm
  rw [hm.1,hm.2];exact hn) hg' (fun j o hm hl=>?_) (fun j o j' o' g hm hm' _ _=>?_)
 ·simp only [cp5,cp6] at hm
  obtain ⟨rfl,rfl⟩:=hm
  exact ho (bq6 hb hM' hβ (fun _ _ _=>rfl) hf' hg')
 ·simp only [cp5,cp6] at hm hm'
  rw [hm.1,hm'.1]
theorem O8 (w:World) (o:Obj):Below w.heap.size w (w.alloc o):=(Below.refl _ _).alloc (Nat.le_refl _) o
theorem aZ1 (k:Ok F w β h) {id:Nat} (hf:look id h=none) (hn:id<1000000) {e:TypeId} {cs:List (Cell U)} {vs:List Value} (r:CsRel w β h cs vs):
  After F w β h (w.alloc (.cells vs.toArray e)) (upd1 β id (.pointer (some ⟨w.heap.size,0,none⟩))) (write id (.box e cs) h):=by
 refine S9 k (O8 _ _) hf (.inr hn) (fun g hg=>?_) (fun x=>?_)
 ·have:=bi0 hg;simp only at this;omega
 ·refine ⟨w.heap.size,vs.toArray,C2 _ _ _,k.hB,heap_alloc_new w _,x.cs (by simpa using r)⟩
theorem bF3 {w':World} {β':Nm} {h':Obs U} {id:Nat} {e:TypeId} {cs:List (Cell U)} {b:Nat} (hl:look id h'=some (.box e cs)) (hβ:β' id=.pointer (some ⟨b,0,none⟩)) (σ:List (Nat×PV U)):
  PRel w' β' h' σ (.one (.ptr id 0)) (.pointer (some ⟨b,0,none⟩)):=CsRel.one rfl ⟨e,cs,b,hl,hβ,rfl⟩
theorem az8 {P:Program} {t:TypeId} {cs:List (Cell U)} (hz:S4 P t=some cs):∃ i v,P.info? t=some i∧i.zero=some v∧cs=v.cells.toList.map V7∧∀ u∈v.cells.toList,u.oneCell'=true:=by
 unfold S4 at hz
 split at hz
 ·rename_i i hi
  split at hz
  ·rename_i v hv
   split at hz
   ·rename_i hall
    simp only [co4] at hz
    exact ⟨i,v,hi,hv,hz.symm,cr4.1 hall⟩
   ·cases hz
  ·cases hz
 ·cases hz
theorem aL3 {vs:List Value} (h1:∀ v∈vs,v.oneCell'=true):CsRel w β h (vs.map V7) vs:=
 ⟨by simp,h1,fun j c v hc hv=>by
  simp only [cp9,hv,Option.map_some,co4] at hc
  subst hc
  exact ab9 v⟩
theorem Does.alloc (R:Rel F n β s tmps w) {t:TypeId} (hop:o.op=.alloc t) {cs:List (Cell U)} (hz:S4 E.P t=some cs) {id:Nat} (hf:look id s.h=none) (hn:id<1000000):
  Does E.P F β s ρ w o ⟨none,.one (.ptr id 0),[(id,.box t cs)]⟩:=by
 obtain ⟨i,v,hi,hv,rfl,hall⟩:=az8 hz
 have A:=aZ1 R.ok hf hn (e:=t) (aL3 (w:=w) (β:=β) (h:=s.h) hall)
 refine ⟨.pointer (some ⟨w.heap.size,0,none⟩),_,_,.inl ?_,A,bF3 (B0 _ _ _) (C2 _ _ _) _⟩
 simp [execOp,hop,Instr.alloc,zeroValue,typeInfo,hi,hv,newVar,newRow,newObj]
 rfl
theorem Does.box (R:Rel F n β s tmps w) {t:TypeId} {x:Operand} (hop:o.op=.box t x) {v:PV U} (r:PRel w β s.h s.σ v (ρ x)) {cs:List (Cell U)} (hc:U1 v=some cs) {id:Nat} (hf:look id s.h=none) (hn:id<1000000):
  Does E.P F β s ρ w o ⟨none,.one (.ptr id 0),[(id,.box t cs)]⟩:=by
 have hr:CsRel w β s.h cs (ρ x).cells.toList:=by
  unfold U1 at hc
  split at hc
  ·rename_i c
   simp only [co4] at hc
   subst hc
   have h1:=r.inv.1
   have hcell:(ρ x).cells=#[ρ x]:=by
    generalize ρ x=y at h1
    cases y<;>first|rfl|simp [Value.oneCell'] at h1
   rw [hcell]
   exact r
  ·rename_i cs'
   simp only [co4] at hc
   subst hc
   obtain ⟨vs,hv,hr⟩:=r
   rw [hv]
   exact hr
  ·cases hc
 have A:=aZ1 R.ok hf hn (e:=t) hr
 refine ⟨.pointer (some ⟨w.heap.size,0,none⟩),_,_,.inl ?_,A,bF3 (B0 _ _ _) (C2 _ _ _) _⟩
 simp [execOp,hop,Instr.box,newVar,newRow,newObj]
 rfl
theorem aL4 {σ:List (Nat×PV U)} {v:PV U} {u:Value} (r:PRel w β h σ v u) {cs:List (Cell U)} (hc:U1 v=some cs):CsRel w β h cs u.cells.toList:=by
 unfold U1 at hc
 split at hc
 ·rename_i c
  simp only [co4] at hc
  subst hc
  have h1:=r.inv.1
  have hcell:u.cells=#[u]:=by
   cases u<;>first|rfl|simp [Value.oneCell'] at h1
  rw [hcell]
  exact r
 ·rename_i cs'
  simp only [co4] at hc
  subst hc
  obtain ⟨vs,hv,hr⟩:=r
  rw [hv]
  exact hr
 ·cases hc
theorem CsRel.spl {cs cs':List (Cell U)} {vs vs':List Value} (r:CsRel w β h cs vs) (r':CsRel w β h cs' vs') (off:Nat):CsRel w β h (D7 cs off cs') (D7 vs off vs'):=by
 have app:∀ {a b:List (Cell U)} {x y:List Value},CsRel w β h a x→CsRel w β h b y→CsRel w β h (a++b) (x++y):=by
  intro a b x y h1 h2
  refine ⟨by simp [h1.1,h2.1],fun v hv=>?_,fun j c v hc hv=>?_⟩
  ·rcases cr1.1 hv with h3|h3
   ·exact h1.2.1 v h3
   ·exact h2.2.1 v h3
  ·have hl:=h1.1
   by_cases hj:j<a.length
   ·rw [cq4 hj] at hc
    rw [cq4 (by omega)] at hv
    exact h1.2.2 j c v hc hv
   ·rw [cq3 (by omega)] at hc
    rw [cq3 (by omega)] at hv
    rw [hl] at hv
    exact h2.2.2 _ c v hc hv
 unfold D7
 refine app (app (r.take off) r') ?_
 rw [r'.1]
 exact r.drop _
theorem bF4 (us:List Value):∀ (off:Nat) (vs:Array Value) (k:Nat),off+k+us.length≤vs.size→
  ((us.toArray.zipIdx k).foldl (fun cs (c,j)=>cs.setIfInBounds (off+j) c) vs).toList=vs.toList.take (off+k)++us++vs.toList.drop (off+k+us.length):=by
 induction us with
 |nil=>intro off vs k hl;rw [←Array.foldl_toList];simp
 |cons u us ih=>
  intro off vs k hl
  have e:((u::us).toArray.zipIdx k).foldl (fun cs (c,j)=>cs.setIfInBounds (off+j) c) vs=(us.toArray.zipIdx (k+1)).foldl (fun cs (c,j)=>cs.setIfInBounds (off+j) c) (vs.setIfInBounds (off+k) u):=by
   rw [←Array.foldl_toList,←Array.foldl_toList]
   simp [List.zipIdx_cons]
  rw [e,ih off _ (k+1) (by simp at hl ⊢;omega)]
  simp only [cq0] at hl ⊢
  have h1:(vs.setIfInBounds (off+k) u).toList=vs.toList.set (off+k) u:=by simp
  rw [h1]
  have hlen:off+k<vs.toList.length:=by simp;omega
  rw [show off+(k+1)=off+k+1 from by omega,List.take_succ_eq_append_getElem (by simp;omega)]
  rw [List.take_set_of_le (by omega),List.drop_set_of_lt (by omega)]
  simp [show off+k+1+us.length=off+k+(us.length+1) from by omega]
theorem az9 {place:Nat→Option (Nat×Nat)} {σ:List (Nat×PV U)}:∀ {ps:List (Nat×PV U)} {qs:List (Nat×Value)} {cs cs':List (Cell U)} {vs:List Value},
  aQ0 place cs ps=some cs'→ps.length=qs.length→(∀ (j:Nat) (p:Nat×PV U) (q:Nat×Value),ps[j]? =some p→qs[j]? =some q→p.1=q.1∧PRel w β h σ p.2 q.2)→CsRel w β h cs vs→
  ∃ vs':List Value,Instr.fill place vs.toArray qs=some vs'.toArray∧CsRel w β h cs' vs'∧vs'.length=vs.length:=by
 intro ps
 induction ps with
 |nil=>
  intro qs cs cs' vs hb hl hr hc
  have:qs=[]:=List.length_eq_zero_iff.1 (by simpa using hl.symm)
  subst this
  simp only [aQ0,co4] at hb
  subst hb
  exact ⟨vs,rfl,hc,rfl⟩
 |cons p ps ih=>
  intro qs cs cs' vs hb hl hr hc
  obtain ⟨f,v⟩:=p
  match qs,hl with
  |q::qs,hl=>
   obtain ⟨f',u⟩:=q
   obtain ⟨hff,hvu⟩:=hr 0 _ _ rfl rfl
   simp only at hff hvu
   subst hff
   simp only [aQ0] at hb
   split at hb
   ·rename_i off size hz1
    split at hb
    ·rename_i cs0 hcs0
     split at hb
     ·rename_i hcond
      simp only [co7] at hcond
      have hz3:=co5 hcond.1
      have h2:=cq7 hcond.2
      rw [←hc.1] at h2
      have hr0:=aL4 hvu hcs0
      have hsize:u.cells.size=cs0.length:=by have:=hr0.1;simpa using this
      have hstep:Instr.fill place vs.toArray ((f,u)::qs)=Instr.fill place (D7 vs off u.cells.toList).toArray qs:=by
       simp only [Instr.fill,hz1]
       rw [if_neg (by simp;omega)]
       congr 1
       apply Array.toList_inj.1
       have:=bF4 u.cells.toList off vs.toArray 0 (by simp;omega)
       simpa [D7] using this
      have hlen:(D7 vs off u.cells.toList).length=vs.length:=by
       simp only [D7,cq5,cr3,List.length_drop,Array.length_toList]
       omega
      obtain ⟨vs',h3,h4,h5⟩:=ih (qs:=qs) (cs:=D7 cs off cs0) (cs':=cs') (vs:=D7 vs off u.cells.toList) hb (by simpa using hl) (fun j p q hp' hq'=>hr (j+1) p q (by simpa using hp') (by simpa using hq')) (hc.spl hr0 off)
      exact ⟨vs',hstep.trans h3,h4,h5.trans hlen⟩
     ·cases hb
    ·cases hb
   ·cases hb
def ap5 (w:World) (β:Nm) (h:Obs U) (σ:List (Nat×PV U)) (ps:List (Nat×PV U)) (qs:List (Nat×Value)):Prop:=
 ps.length=qs.length∧∀ (j:Nat) (p:Nat×PV U) (q:Nat×Value),ps[j]? =some p→qs[j]? =some q→p.1=q.1∧PRel w β h σ p.2 q.2
theorem Does.build (R:Rel F n β s tmps w) {t:TypeId} {parts:Array (Nat×Operand)} (hop:o.op=.build t parts) {ps:List (Nat×PV U)} (r:ap5 w β s.h s.σ ps (parts.toList.map fun x=>(x.1,ρ x.2)))
  (he:ay9 E t ps=some e):Does E.P F β s ρ w o e:=by
 unfold ay9 at he
 split at he
 ·rename_i cs hz
  obtain ⟨i,v,hi,hv,rfl,hall⟩:=az8 hz
  split at he
  ·rename_i pl hpl
   split at he
   ·rename_i cs' hf
    simp only [co4] at he
    subst he
    obtain ⟨vs',h1,h2,h3⟩:=az9 hf r.1 r.2 (aL3 hall)
    refine Does.pure (n:=n) R rfl (v:=.agg vs'.toArray) ?_ ⟨vs',rfl,h2⟩
    have hq:(parts.map fun x=>(x.1,ρ x.2)).toList=parts.toList.map fun x=>(x.1,ρ x.2):=by simp
    have hbuilt:E.P.built t (parts.map fun x=>(x.1,ρ x.2)).toList=some vs'.toArray:=by
     rw [hq]
     unfold bD8 at hpl
     unfold Program.built
     split at hpl
     ·rename_i k e' hu
      split at hpl
      ·rename_i ie hie
       simp only [co4] at hpl
       subst hpl
       simp only [hi,hu,hv,hie]
       simpa using h1
      ·cases hpl
     ·rename_i fs hu
      split at hpl
      ·rename_i ax6 hp
       simp only [co4] at hpl
       subst hpl
       simp only [hi,hu,hv,hp]
       simpa using h1
      ·cases hpl
     ·cases hpl
    have:=run_build (P:=E.P) w t (parts.map fun x=>(x.1,ρ x.2)) _ hbuilt
    simp only [execOp,hop]
    simp only [Sem.run_bind,this]
    rfl
   ·cases he
  ·cases he
 ·cases he
theorem L9 {ids:List Nat}:∀ {ts:List Ty} {cs:List (Cell U)} {ds:List (Datum U)} {u:Obs U},asDs (sub h ids) ts cs=some (ds,u)→Freezes h u∧ds.length=cs.length
 |[],[],ds,u,ha=>by
  simp only [asDs,co4,cp6] at ha
  obtain ⟨rfl,rfl⟩:=ha
  exact ⟨fun _ _ hm=>by simp at hm,rfl⟩
 |[],_::_,_,_,ha=>by simp [asDs] at ha
 |_::_,[],_,_,ha=>by simp [asDs] at ha
 |t::ts,c::cs,ds,u,ha=>by
  simp only [asDs] at ha
  split at ha
  ·rename_i x u1 h1
   split at ha
   ·rename_i xs u2 h2
    simp only [co4,cp6] at ha
    obtain ⟨rfl,rfl⟩:=ha
    obtain ⟨h3,_⟩:=K7 h1
    obtain ⟨h5,h6⟩:=L9 h2
    refine ⟨fun id o hm=>?_,by simp [h6]⟩
    rcases cr1.1 hm with h7|h7
    ·exact h3 id o h7
    ·exact h5 id o h7
   ·cases ha
  ·cases ha
theorem ai6 (k:Ok F w β h) {ids:List Nat} {u':Obs U} (hf:Freezes h u'):∀ {ts:List Ty} {cs:List (Cell U)} {ds:List (Datum U)} {u:Obs U} {vs:List Value},asDs (sub h ids) ts cs=some (ds,u)→
  CsRel w β h cs vs→(∀ x,x∈u→x∈u')→∀ (j:Nat) (d:Datum U) (v:Value),ds[j]? =some d→vs[j]? =some v→Rep U w (Live β (upds h u')) d v
 |[],[],ds,u,vs,ha,_,_,j,d,v,hd,_=>by
  simp only [asDs,co4,cp6] at ha
  obtain ⟨rfl,rfl⟩:=ha
  simp at hd
 |[],_::_,_,_,_,ha,_,_,_,_,_,_,_=>by simp [asDs] at ha
 |_::_,[],_,_,_,ha,_,_,_,_,_,_,_=>by simp [asDs] at ha
 |t::ts,c::cs,ds,u,vs,ha,hc,hu,j,d,v,hd,hv=>by
  simp only [asDs] at ha
  split at ha
  ·rename_i x u1 h1
   split at ha
   ·rename_i xs u2 h2
    simp only [co4,cp6] at ha
    obtain ⟨rfl,rfl⟩:=ha
    match vs,hc,hv with
    |v0::vs,hc,hv=>
     match j,hd,hv with
     |0,hd,hv=>
      simp only [cp2,co4] at hd hv
      subst hd
      subst hv
      exact am0 k h1 (hc.2.2 0 _ _ rfl rfl) hf (fun x hx=>hu x (by simp [hx]))
     |j+1,hd,hv=>
      exact ai6 k hf h2 (vs:=vs) ⟨by simpa using hc.1,fun v hv=>hc.2.1 v (by simp [hv]),fun j c v h3 h4=>hc.2.2 (j+1) c v (by simpa using h3) (by simpa using h4)⟩ (fun x hx=>hu x (by simp [hx])) j d v (by simpa using hd) (by simpa using hv)
   ·cases ha
  ·cases ha
structure Env.Fits (E:Env U):Prop where
 code:∀ e t,E.code e=some t→∃ i z,E.P.info? e=some i∧i.size=szOf U t∧i.zero=some z∧z.cells.size=i.size∧0<szOf U t∧0<i.bytes∧(∀ u∈z.cells.toList,u.oneCell'=true)∧
  ∀ (j:Nat) (d:Datum U),(B4 U t (dfl U t))[j]? =some d→∃ u,z.cells[j]? =some u∧∀ (w:World) (M:Nat→Prop),Rep U w M d u
def Els (w:World) (β:Nm) (h:Obs U) (t:Ty) (l:List (den U.T t)) (xs:List Value):Prop:=
 ∀ (i:Nat) (x:den U.T t),l[i]? =some x→∀ (j:Nat) (d:Datum U),(B4 U t x)[j]? =some d→∃ u,xs[i*szOf U t+j]? =some u∧Rep U w (Live β h) d u
theorem Freezes.none {u:Obs U} (hf:Freezes h u) {id:Nat} (hn:look id h=none):look id (upds h u)=none:=by
 rw [B7 (fun o ho=>by obtain ⟨_,hl,_⟩:=hf.at_ ho;rw [hn] at hl;cases hl)]
 exact hn
theorem ak8 {ids:List Nat} {t:Ty}:∀ {m:Nat} {cs:List (Cell U)} {l:List (den U.T t)} {u:Obs U},T6 (sub h ids) t m cs=some (l,u)→Freezes h u
 |0,[],l,u,ha=>by
  simp only [T6,co4,cp6] at ha
  obtain ⟨rfl,rfl⟩:=ha
  exact fun _ _ hm=>by simp at hm
 |0,_::_,_,_,ha=>by simp [T6] at ha
 |m+1,cs,l,u,ha=>by
  unfold T6 at ha
  split at ha
  ·rename_i ds u1 h1
   split at ha
   ·split at ha
    ·rename_i xs u2 h2
     simp only [co4,cp6] at ha
     obtain ⟨_,rfl⟩:=ha
     intro id o hm
     rcases cr1.1 hm with hm|hm
     ·exact (L9 h1).1 id o hm
     ·exact ak8 h2 id o hm
    ·cases ha
   ·cases ha
  ·cases ha
theorem at1 (k:Ok F w β h) {ids:List Nat} {t:Ty}:∀ {m:Nat} {cs:List (Cell U)} {vs:List Value} {l:List (den U.T t)} {u:Obs U},T6 (sub h ids) t m cs=some (l,u)→CsRel w β h cs vs→
  Freezes h u∧l.length=m∧vs.length=m*szOf U t∧∀ u':Obs U,Freezes h u'→(∀ x,x∈u→x∈u')→Els w β (upds h u') t l vs
 |0,[],vs,l,u,ha,hc=>by
  simp only [T6,co4,cp6] at ha
  obtain ⟨rfl,rfl⟩:=ha
  refine ⟨fun _ _ hm=>by simp at hm,rfl,by have:=hc.1;simpa using this,fun u' _ _ i x hx=>by simp at hx⟩
 |0,_::_,_,_,_,ha,_=>by simp [T6] at ha
 |m+1,cs,vs,l,u,ha,hc=>by
  simp only [T6] at ha
  split at ha
  ·rename_i ds u1 h1
   split at ha
   ·rename_i x hx
    split at ha
    ·rename_i xs u2 h2
     simp only [co4,cp6] at ha
     obtain ⟨rfl,rfl⟩:=ha
     obtain ⟨f1,len1⟩:=L9 h1
     obtain ⟨f2,len2,len3,hel⟩:=at1 k h2 (hc.drop (szOf U t))
     have hds:=ao1 hx
     have hdl:ds.length=szOf U t:=by rw [hds,B3]
     have hct:(cs.take (szOf U t)).length=szOf U t:=by omega
     have hvl:szOf U t≤vs.length:=by
      rw [hc.1]
      rw [cr3] at hct
      omega
     refine ⟨fun id o hm=>?_,by simp [len2],?_,fun u' hf' hu'=>?_⟩
     ·rcases cr1.1 hm with h7|h7
      ·exact f1 id o h7
      ·exact f2 id o h7
     ·rw [List.length_drop] at len3
      rw [Nat.add_mul,Nat.one_mul]
      omega
     ·intro i y hy j d hd
      match i,hy with
      |0,hy=>
       simp only [cp2,co4] at hy
       subst hy
       rw [←hds] at hd
       have hj:j<ds.length:=by
        by_cases hj:j<ds.length
        ·exact hj
        ·rw [List.getElem?_eq_none (by omega)] at hd;cases hd
       have hvj:j<vs.length:=by omega
       refine ⟨vs[j],by rw [Nat.zero_mul,Nat.zero_add];exact co6 hvj,?_⟩
       refine ai6 k hf' h1 (hc.take (szOf U t)) (fun x hx=>hu' x (by simp [hx])) j d _ hd ?_
       rw [List.getElem?_take,if_pos (by omega)]
       exact co6 hvj
      |i+1,hy=>
       obtain ⟨v,hv,hr⟩:=hel u' hf' (fun x hx=>hu' x (by simp [hx])) i y (by simpa using hy) j d hd
       refine ⟨v,?_,hr⟩
       rw [List.getElem?_drop] at hv
       rw [←hv,Nat.add_mul,Nat.one_mul]
       congr 1
       omega
    ·cases ha
   ·cases ha
  ·cases ha
theorem Els.ext {w':World} {β':Nm} {h':Obs U} (x:Ext w β h w' β' h') {t:Ty} {l:List (den U.T t)} {xs:List Value} (r:Els w β h t l xs):Els w' β' h' t l xs:=by
 intro i y hy j d hd
 obtain ⟨u,hu,hr⟩:=r i y hy j d hd
 exact ⟨u,hu,x.rep hr⟩
theorem aZ2 (k:Ok F w β h) {id:Nat} (hf:look id h=none) {e:TypeId} {t:Ty} {l:List (den U.T t)} {xs:List Value} (hl:xs.length=l.length*szOf U t) (hm:l.length≤most) (h1:∀ v∈xs,v.oneCell'=true) (r:Els w β h t l xs):
  After F w β h (w.alloc (.cells xs.toArray e)) (upd1 β id (.slice (some ⟨w.heap.size,0,none⟩) l.length l.length)) (write id (.row e t l 0 true) h):=by
 refine S9 k (O8 _ _) hf (.inl rfl) (fun g hg=>?_) (fun x=>?_)
 ·have:w.heap.size=g:=by simpa [Has,D8] using hg
  omega
 ·refine ⟨xs,?_,hm,h1,Els.ext x r⟩
  refine ⟨hl,.inr ⟨w.heap.size,l.length,xs.toArray,C2 _ _ _,k.hB,heap_alloc_new w _,Nat.le_refl _,?_,by simp only [List.size_toArray];omega,?_⟩⟩
  ·simp only [most,maxLen] at*;omega
  ·rw [←hl];simp
theorem af6 {w':World} {β':Nm} {h':Obs U} {id:Nat} {e:TypeId} {t:Ty} {l:List (den U.T t)} {ver:Nat} {lv:Bool} {v:Value} (hl:look id h'=some (.row e t l ver lv)) (hβ:β' id=v) (h1:v.oneCell'=true) (σ:List (Nat×PV U)):
  PRel w' β' h' σ (.one (.row id ver)) v:=CsRel.one h1 ⟨e,t,l,ver,lv,hl,Nat.le_refl _,fun _=>hβ.symm⟩
def aC5 (len:Nat) (i:TypeInfo) (z:Value):Array Value:=
 (Array.range (len*i.size)).map (fun x=>(if len*i.size=0 then #[] else z.cells)[x % (if len*i.size=0 then #[] else z.cells).size]!)
theorem Z3 {P:Program} {t el:TypeId} {i:TypeInfo} {z:Value} (hu:P.underlying t=some (.slice el)) (hi:P.info? el=some i) (hz:i.zero=some z) (len:Nat) (h24:len*i.size≤2 ^ 24)
  (parts:Array (Nat×Value)) (cells:Array Value) (w:World) (hf:Instr.fill (fun j=>some (j*i.size,i.size)) (aC5 len i z) parts.toList=some cells):
  (Instr.buildSlice t len parts).run P w=.ok (.slice (some ⟨w.heap.size,0,none⟩) len len) (w.alloc (.cells cells el)):=by
 have h24':¬ len*i.size >2 ^ 24:=by omega
 unfold aC5 at hf
 by_cases h0:len*i.size=0
 ·rw [if_pos h0] at hf
  unfold Instr.buildSlice
  simp only [Sem.run_bind,run_underlying hu,Result.andThen_ok,sizeOf,typeInfo,hi,if_neg h24',if_pos h0]
  simp [hi,h0,h24',newRow,newObj]
  have hf2:Instr.fill (fun j=>some (j*i.size,i.size)) (Array.map (fun _=>(default:Value)) (Array.range 0)) parts.toList=some cells:=by
   rw [←hf,h0];simp
  simp only [hf2]
  rfl
 ·rw [if_neg h0] at hf
  unfold Instr.buildSlice
  simp only [Sem.run_bind,run_underlying hu,Result.andThen_ok,sizeOf,typeInfo,hi,if_neg h24',if_neg h0]
  simp [hi,h0,h24',newRow,newObj]
  have hzv:(zeroValue el).run P w=.ok z w:=by simp [zeroValue,typeInfo,hi,hz]
  simp only [hzv,Result.andThen_ok,hf]
  rfl
theorem Does.buildSlice (hE:E.Fits) (R:Rel F n β s tmps w) {t:TypeId} {len:Nat} {parts:Array (Nat×Operand)} (hop:o.op=.buildSlice t len parts) {ps:List (Nat×PV U)} (r:ap5 w β s.h s.σ ps (parts.toList.map fun x=>(x.1,ρ x.2)))
  {ids:List Nat} (he:U4 E (sub s.h ids) o.dst t len ps=some e) (hf:look (B5 o.dst 0) s.h=none):Does E.P F β s ρ w o e:=by
 unfold U4 at he
 split at he
 ·rename_i el hu
  split at he
  ·rename_i c hc
   obtain ⟨i,z,hi,hsz,hz,hzs,hpos,hby,hz1c,_⟩:=hE.code _ _ hc
   split at he
   ·rename_i hble
    have hble:=cq7 hble
    split at he
    ·rename_i cs hfill
     split at he
     ·rename_i l u hch
      simp only [co4] at he
      subst he
      --the cells
      have hzero:∃ zs:List Value,zs.length=len*szOf U c∧(∀ v∈zs,v.oneCell'=true)∧(∀ qs cells,Instr.fill (fun i=>some (i*szOf U c,szOf U c)) zs.toArray qs=some cells→qs=(parts.toList.map fun x=>(x.1,ρ x.2))→
        (Instr.buildSlice t len (parts.map fun x=>(x.1,ρ x.2))).run E.P w=.ok (.slice (some ⟨w.heap.size,0,none⟩) len len) (w.alloc (.cells cells el))):=by
       refine ⟨(aC5 len i z).toList,by simp [aC5,hsz],fun v hv=>?_,fun qs cells hfl hq=>?_⟩
       ·simp only [aC5,Array.toList_map,List.mem_map,Array.toList_range,List.mem_range] at hv
        obtain ⟨x,hx,rfl⟩:=hv
        have hne:¬ len*i.size=0:=by omega
        simp only [if_neg hne]
        have hpos':0<z.cells.size:=by omega
        have hmod:x % z.cells.size<z.cells.size:=Nat.mod_lt x hpos'
        rw [getElem!_pos z.cells _ hmod]
        exact hz1c _ (by simp)
       ·subst hq
        refine Z3 hu hi hz len (by rw [hsz];simp;omega) _ _ w ?_
        rw [hsz]
        simpa using hfl
      obtain ⟨zs,hzl,hz1,hrun⟩:=hzero
      obtain ⟨vs,h1,h2,h3⟩:=az9 (w:=w) (β:=β) (h:=s.h) (σ:=s.σ) hfill r.1 r.2 (vs:=zs) ⟨by simp [hzl],hz1,fun j c v hc _=>by
       rw [List.getElem?_replicate] at hc
       split at hc
       ·simp only [co4] at hc;subst hc;trivial
       ·cases hc⟩
      obtain ⟨f1,len1,len2,hel⟩:=at1 R.ok hch h2
      have A1:=I3 R.ok f1
      have hm:l.length≤most:=by
       rw [len1]
       simp only [most]
       have:len*1≤len*szOf U c:=Nat.mul_le_mul_left _ hpos
       omega
      have A2:=aZ2 A1.ok (Freezes.none f1 hf) (e:=el) (l:=l) (xs:=vs) (by rw [len2,len1]) hm h2.2.1 (hel u f1 (fun _ hx=>hx))
      have A:=A1.trans A2
      refine ⟨.slice (some ⟨w.heap.size,0,none⟩) len len,w.alloc (.cells vs.toArray el),upd1 β (B5 o.dst 0) (.slice (some ⟨w.heap.size,0,none⟩) l.length l.length),.inl ?_,?_,?_⟩
      ·have:=hrun _ _ h1 rfl
       simp only [execOp,hop]
       simp only [Sem.run_bind,this]
       rfl
      ·dsimp only
       rw [C9]
       exact A
      ·dsimp only
       rw [C9]
       exact af6 (B0 _ _ _) (by rw [C2,len1]) rfl _
     ·cases he
    ·cases he
   ·cases he
  ·cases he
 ·cases he
theorem Does.buildData (hE:E.Fits) (R:Rel F n β s tmps w) {t:TypeId} {len:Nat} {parts:Array (Nat×Operand)} (hop:o.op=.buildSlice t len parts) {ps:List (Nat×PV U)} (r:ap5 w β s.h s.σ ps (parts.toList.map fun x=>(x.1,ρ x.2)))
  {ids:List Nat} (he:X2 E (sub s.h ids) t len ps=some e):Does E.P F β s ρ w o e:=by
 unfold X2 at he
 split at he
 ·rename_i el hu
  split at he
  ·rename_i c hc
   obtain ⟨i,z,hi,hsz,hz,hzs,hpos,hby,hz1c,_⟩:=hE.code _ _ hc
   split at he
   ·rename_i hble
    have hble:=cq7 hble
    split at he
    ·rename_i cs hfill
     split at he
     ·rename_i l u hch
      simp only [co4] at he
      subst he
      have hzero:∃ zs:List Value,zs.length=len*szOf U c∧(∀ v∈zs,v.oneCell'=true)∧(∀ qs cells,Instr.fill (fun i=>some (i*szOf U c,szOf U c)) zs.toArray qs=some cells→qs=(parts.toList.map fun x=>(x.1,ρ x.2))→
        (Instr.buildSlice t len (parts.map fun x=>(x.1,ρ x.2))).run E.P w=.ok (.slice (some ⟨w.heap.size,0,none⟩) len len) (w.alloc (.cells cells el))):=by
       refine ⟨(aC5 len i z).toList,by simp [aC5,hsz],fun v hv=>?_,fun qs cells hfl hq=>?_⟩
       ·simp only [aC5,Array.toList_map,List.mem_map,Array.toList_range,List.mem_range] at hv
        obtain ⟨x,hx,rfl⟩:=hv
        have hne:¬ len*i.size=0:=by omega
        simp only [if_neg hne]
        have hpos':0<z.cells.size:=by omega
        have hmod:x % z.cells.size<z.cells.size:=Nat.mod_lt x hpos'
        rw [getElem!_pos z.cells _ hmod]
        exact hz1c _ (by simp)
       ·subst hq
        refine Z3 hu hi hz len (by rw [hsz];simp;omega) _ _ w ?_
        rw [hsz]
        simpa using hfl
      obtain ⟨zs,hzl,hz1,hrun⟩:=hzero
      obtain ⟨vs,h1,h2,h3⟩:=az9 (w:=w) (β:=β) (h:=s.h) (σ:=s.σ) hfill r.1 r.2 (vs:=zs) ⟨by simp [hzl],hz1,fun j c v hc _=>by
       rw [List.getElem?_replicate] at hc
       split at hc
       ·simp only [co4] at hc;subst hc;trivial
       ·cases hc⟩
      obtain ⟨f1,len1,len2,hel⟩:=at1 R.ok hch h2
      have hel:=hel u f1 (fun _ hx=>hx)
      have A1:=I3 R.ok f1
      have hm:l.length≤most:=by
       rw [len1]
       simp only [most]
       have:len*1≤len*szOf U c:=Nat.mul_le_mul_left _ hpos
       omega
      have A:=ai4 A1.ok (w':=w.alloc (.cells vs.toArray el)) (β':=β) (u:=[]) (O8 _ _) rfl (fun _ _ _=>rfl) (fun _ _ _=>rfl) (fun _ _ hx=>by simp at hx) (fun _ _ hx=>by simp at hx) (fun _ _ _ hx=>by simp at hx) (fun _ _ hx=>by simp at hx) (fun _ _ _ _ _ hx=>by simp at hx)
      have hlive:¬ Live β (upds s.h u) w.heap.size:=by
       rintro (hM|⟨id,o',h4,h5,h6⟩)
       ·have:=A1.ok.Mlt _ hM
        have:=A1.ok.bel.size
        omega
       ·have:=((A1.ok.obj id o' h4).blk h6).2
        omega
      refine ⟨.slice (some ⟨w.heap.size,0,none⟩) len len,w.alloc (.cells vs.toArray el),β,.inl ?_,A1.trans A,?_⟩
      ·have:=hrun _ _ h1 rfl
       simp only [execOp,hop]
       simp only [Sem.run_bind,this]
       rfl
      ·refine CsRel.one rfl ?_
       show Rep U _ (Live β (upds s.h u)) ⟨.slice el c,l⟩ _
       cases l with
       |nil=>
        simp only [List.length_nil] at len1
        subst len1
        exact .nil _ _ _ _
       |cons x0 l0=>
        rw [←len1]
        refine .slice el c (x0::l0) w.heap.size 0 _ (fun i j=>vs.getD (i*szOf U c+j) undef) (by simp) (Nat.le_refl _) hm hlive (by have:=(O8 w (.cells vs.toArray el)).size;have h9:=heap_alloc_new w (.cells vs.toArray el);exact (cq2.1 h9).1) (fun i hi j hj=>?_) (fun i x hx j d hd=>?_)
        ·have hlt:i*szOf U c+j<vs.length:=by
          rw [len2,←len1]
          have:(i+1)*szOf U c≤(x0::l0).length*szOf U c:=Nat.mul_le_mul_right _ hi
          rw [Nat.add_mul] at this
          omega
         unfold World.cell?
         simp only [heap_alloc_new w (.cells vs.toArray el)]
         simp [hlt]
        ·obtain ⟨u,hu1,hu2⟩:=hel i x hx j d hd
         have:vs.getD (i*szOf U c+j) undef=u:=by rw [cp8,hu1];rfl
         rw [this]
         exact A.ext.rep hu2
     ·cases he
    ·cases he
   ·cases he
  ·cases he
 ·cases he
end
end Go.VT
end
