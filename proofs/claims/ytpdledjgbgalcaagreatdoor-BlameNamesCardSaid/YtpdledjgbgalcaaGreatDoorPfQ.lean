/- Named devices and proofs: the law BlameNames holds for every input: it returns true and its arguments read as before; where the tables of package sha256 lie as the text of the program lays them (the card ties that). No other condition. -/
import Derived.Test.YtpdledjgbgalcaaGreatDoorPx
import Derived.Test.YtpdledjgbgalcaaGreatDoorPgQ
namespace Go.Proofs.YtpdledjgbgalcaaGreatDoor.blameNames
set_option maxRecDepth 100000
open Go.ChangeShapes Go.WideShapes Go.ChangeAt Go.RowKit Go.Proofs.Tryz
set_option linter.unusedVariables false
theorem own:ownKnob prog.godebug=none:=by kernel_rfl
theorem laidOut:laidOutB prog=true:=by kernel_rfl
theorem lifted (os:Os) (K:os.Started) (H:Type) (enc:TypeId × Value->H):
 ReturnsInHanded {} Tryz.checked os 6 .any (fun w args=>(Rows.blameNamesSpec.pre enc prog f6 [] false w args/\laidMetH prog laidTs w)/\sizedMet enc prog f6 (OpenSpec.ofChange Rows.blameNamesSpec) false w args)
  (Rows.blameNamesSpec.post enc prog f6 false true false false):=by
 refine returnsInHanded_of_change_and (C:=Tryz.checked) (X:=fun w _=>laidMetH prog laidTs w) (fun _ _ _ hh h=>h.of_heap hh) own K ybi func6
  (ChangeSpec.witness_shaped (enc:=enc) (C:=Tryz.checked) (os:=os) (X:=fun w _=>laidMetH prog laidTs w) false (World.doorLaid prog 400 os) #[.agg #[.slice none 0 0,.slice none 0 0,.slice none 0 0,.int .i64 0,.int .i64 0,.slice none 0 0,.slice none 0 0],.int .i64 0] 8 rfl (World.shaped_of_RefB ybi ybi) ybi ybi ybi (door_met os _)) ?_
 intro W base args ds gs aa J z _ L hL _;have T:(DataW.weightsEach prog (f6.params.toList++Rows.blameNamesSpec.plain.varTypes prog) (ds++gs)).all (· <=reachBytes)=true:=L;clear L;have G:∀(j:Nat) t v,f6.params[j]? =some t->args[j]? =some v->Value.okWide prog W .any base t v:=J;have ac:=z;obtain ⟨p,q',O,hV,rfl,am,aq⟩:=z;have hA:DataW.TrodAll enc prog W 0 (fun _=>true) true f6.params.toList args.toList ds p:=O;rw [params6] at hA G T;obtain ⟨v0,ar,d0,al,p0,q0,aj,rfl,rfl,h0,r0⟩:=trodAll_cons hA;obtain ⟨v1,ak,d1,ap,p1,q1,rfl,rfl,rfl,h1,r1⟩:=trodAll_cons r0;obtain ⟨rfl,rfl,rfl⟩:=trodAll_nil r1;obtain rfl:args=#[v0,v1]:=by cases args;simp_all
 obtain ⟨rfl,rfl⟩:=trodVars_none hV;have k0:=h0;have Y:=h1;have Z:∀x∈p0,x.block < W.heap.size:=by obtain ⟨m,N⟩:=k0;exact DataW.trod_lt m _ _ _ N
 have ai:∀x∈p1,x.block < W.heap.size:=by obtain ⟨m,N⟩:=Y;exact DataW.trod_lt m _ _ _ N
 have ag:∀m∈d0.weights prog 29,m<=reachBytes:=fun m N=>of_decide_eq_true (List.all_eq_true.1 T m (DataW.weights_mem_each (j:=0) rfl rfl m N));obtain ⟨x,es,vs,U,af,fks,rfl,ah,ae⟩:=w_viewS (G 0 29 v0 rfl rfl) h0 ag;obtain ⟨z1,rfl,rfl,rfl,ao⟩:=open_int underlying3 (G 1 3 v1 rfl rfl) h1;have hG:=glob_of_laid hL;clear O J;refine (lawNames_any x es vs U af fks z1 W.heap.size W hG ah nl ae).mono fun e W' ⟨he,M⟩=>?_;subst he;exact ⟨_,rfl,_,_,_,[],_,[],ac,trodAll_mk1 (shut_bool underlying4 _),(trodAll_cons_mk (Below.trod laidOut ybi (of_decide_eq_true ybi) k0 M Z) (trodAll_cons_mk (Below.trod laidOut ybi (of_decide_eq_true ybi) Y M ai) trodAll_mk0)),rfl,M.frame _,fun h=>by cases h⟩
theorem over:Rows.BlameNamesSaid:=over0 lifted
theorem proved:Rows.BlameNamesCardSaid:=
 Claim7.holds_tied_plain_at .later [] [.data,.data] true (true, "7e57fa1df068c5d389eb20bc42a3df8c84f9f7e0f2acddd367ad054c82902a08") false
  over (fun _ h=>by cases h) ybi (fun _ h=>by cases h) blameNames_row_tie rfl ⟨rfl,rfl⟩ ybi rfl
  (fun f K hf H=>by
    obtain rfl:f=6:=Option.some.inj ((show prog.funcNamed "kinkeep/kinkeeplaw45.BlameNames" =some 6 by kernel_rfl).symm.trans hf) |>.symm;obtain rfl:K=f6:=(Option.some.inj (func6.symm.trans H)).symm
    exact ⟨by kernel_rfl,fun j t ht=>by
     rw [params6] at ht;have J:t∈[29,3]:=by simpa using Array.mem_of_getElem? ht
     have G:([29,3].all fun u=> !prog.wantsStandIn u)=true:=by kernel_rfl
     exact (show prog.wantsStandIn t=false by simpa using List.all_eq_true.1 G t J)⟩)
  ybi
