/-
RegsKnown: the card's statement, from the law's contract.
-/
import Derived.Test.YtknhkhdbonjhgaaDoorV5
import Derived.Test.YtknhkhdbonjhgaaDoorCards
import Derived.Test.YtknhkhdbonjhgaaDoorTie
import Derived.SevenTiedAt
set_option linter.unusedVariables false
set_option linter.unusedSimpArgs false
set_option linter.unnecessarySimpa false
set_option maxRecDepth 100000
noncomputable section
section
namespace Go.Proofs.YtknhkhdbonjhgaaDoor
open Go.ChangeShapes Go.WideShapes Go.ChangeAt Go.RowKit Go.VT
abbrev aG6:List ArgT:=[]
set_option maxRecDepth 100000 in
theorem bc2 (os:Os) (started:os.Started) (H:Type) (enc:TypeId×Value→H):
  ReturnsInHanded {} Tryd.checked os 12 .any (fun w args=>(Rows.regsKnownSpec.pre enc Tryd.prog Tryd.f12 [] false w args∧laidMetH Tryd.prog bw7 w)∧sizedMet enc Tryd.prog Tryd.f12 (OpenSpec.ofChange Rows.regsKnownSpec) false w args)
   (Rows.regsKnownSpec.post enc Tryd.prog Tryd.f12 false true false false):=by
 refine returnsInHanded_of_change_and (C:=Tryd.checked) (X:=fun w _=>laidMetH Tryd.prog bw7 w) (fun _ _ _ hh h=>h.of_heap hh) own started (by kernel_rfl) Tryd.func12
  (ChangeSpec.witness_shaped (enc:=enc) (C:=Tryd.checked) (os:=os) (X:=fun w _=>laidMetH Tryd.prog bw7 w) false (World.doorLaid Tryd.prog 600 os) #[] 8 rfl (World.shaped_of_RefB (by kernel_rfl) (by kernel_rfl)) (by kernel_rfl) (by kernel_rfl) (by kernel_rfl) (bP7 os _)) ?_
 intro W base args ds gs aC6 hval0 hW _ hsz hL _
 have hval:∀ (j:Nat) t v,Tryd.f12.params[j]? =some t→args[j]? =some v→Value.okWide Tryd.prog W .any base t v:=hval0
 have hW':=hW
 obtain ⟨p,q,hA0,hV,rfl,hfz,hnd⟩:=hW
 have hA:DataW.TrodAll enc Tryd.prog W 0 (fun _=>true) true Tryd.f12.params.toList args.toList ds p:=hA0
 have hps:Tryd.f12.params.toList=aG6.map (·.1):=by rw [Tryd.params12];rfl
 obtain ⟨rfl,rfl⟩:gs=[]∧q=[]:=by
  cases gs with
  |nil=>exact ⟨rfl,hV⟩
  |cons g r=>exact absurd hV (by intro h;cases h)
 have hsz':∀ n∈DataW.weightsEach Tryd.prog Tryd.f12.params.toList ds,n≤reachBytes:=by
  intro n hn
  have h1:(DataW.weightsEach Tryd.prog (Tryd.f12.params.toList++[]) (ds++[])).all (·≤reachBytes)=true:=hsz
  rw [List.append_nil,List.append_nil] at h1
  simpa using ci0.1 h1 n hn
 rw [hps] at hA hsz'
 obtain ⟨xs,us,hr,hp⟩:=bm6 ca1 (A:=aG6) (fun a ha=>by
  simp at ha) (fun j t v hj hv=>hval j t v (by rw [←hps] at hj;simpa using hj) (by simpa using hv)) hA hsz'
 obtain rfl:ds=[]:=by
  have hlen:=aG2 hA
  match ds,hlen with
  |[],_=>rfl
 have hcall:=bC1 (pre:=none) (A:=aG6) (w:=W) Go.Rg.bJ1 (ca0 hL) hr hp trivial
 rw [Array.toArray_toList] at hcall
 refine hcall.mono fun e W' ⟨he,hb⟩=>⟨_,he,bP9 rfl hW' hb (by kernel_rfl) rfl (fun t ht=>?_)⟩
 rw [hps] at ht
 simp at ht
theorem bi5:Rows.RegsKnownSaid:=
 OpenClaim.holds_of_wide 12 Tryd.f12 rfl rfl rfl rfl rfl rfl rfl ⟨rfl,rfl,rfl,rfl,rfl⟩ rfl rfl rfl rfl rfl (by kernel_rfl) Tryd.func12 (by kernel_rfl)
  (cg0 (by kernel_rfl)) (by unfold Func.isWrapper;first|(rw [if_pos (by decide+kernel)];kernel_rfl)|(rw [if_neg (by decide+kernel)];exact ⟨rfl,rfl⟩))
  (fun os started H enc _=>bc2 os started H enc)
theorem known_card:Rows.RegsKnownCardSaid:=
 Claim7.holds_tied_plain_at .later [] [.data,.data] true (true,"168ab8e7f67d43304005f9eb622602b7a6af205c051abe541b21ac4f05ca28a5") false
  bi5 (fun _ h=>by cases h) (by kernel_rfl) (fun _ h=>by cases h) regsKnown_row_tie rfl ⟨rfl,rfl⟩ (by kernel_rfl) rfl
  (fun f fn hf hfn=>by
   obtain rfl:f=12:=Option.some.inj ((show Tryd.prog.funcNamed "sheafworks/sheafworkslaw23.RegsKnown"=some 12 by kernel_rfl).symm.trans hf) |>.symm
   obtain rfl:fn=Tryd.f12:=(Option.some.inj (Tryd.func12.symm.trans hfn)).symm
   exact ⟨by kernel_rfl,fun j t ht=>by
    rw [Tryd.params12] at ht
    simp at ht⟩)
  (by kernel_rfl)
end Go.Proofs.YtknhkhdbonjhgaaDoor
end
