/- Open accusations and accused devices: the law BlameOpen holds for every input: it returns true and its arguments read as before; where the tables of package sha256 lie as the text of the program lays them (the card ties that). No other condition. -/
import Derived.Test.YtpdledjgbgalcaaGreatDoorPy
import Derived.Test.YtpdledjgbgalcaaGreatDoorPgO
namespace Go.Proofs.YtpdledjgbgalcaaGreatDoor.blameOpen
set_option maxRecDepth 100000
open Go.ChangeShapes Go.WideShapes Go.ChangeAt Go.RowKit Go.Proofs.Tryz
set_option linter.unusedVariables false
theorem own:ownKnob prog.godebug=none:=by kernel_rfl
theorem laidOut:laidOutB prog=true:=by kernel_rfl
theorem lifted (os:Os) (K:os.Started) (H:Type) (enc:TypeId × Value->H):
 ReturnsInHanded {} Tryz.checked os 5 .any (fun w args=>(Rows.blameOpenSpec.pre enc prog f5 [] false w args/\laidMetH prog laidTs w)/\sizedMet enc prog f5 (OpenSpec.ofChange Rows.blameOpenSpec) false w args)
  (Rows.blameOpenSpec.post enc prog f5 false true false false):=by
 refine returnsInHanded_of_change_and (C:=Tryz.checked) (X:=fun w _=>laidMetH prog laidTs w) (fun _ _ _ hh h=>h.of_heap hh) own K ya9 func5
  (ChangeSpec.witness_shaped (enc:=enc) (C:=Tryz.checked) (os:=os) (X:=fun w _=>laidMetH prog laidTs w) false (World.doorLaid prog 400 os) #[.agg #[.slice none 0 0,.slice none 0 0,.slice none 0 0,.int .i64 0,.int .i64 0,.slice none 0 0,.slice none 0 0],.int .i64 0] 8 rfl (World.shaped_of_RefB ya9 ya9) ya9 ya9 ya9 (door_met os _)) ?_
 intro W base args z gs aj J Y _ L hL _;have T:(DataW.weightsEach prog (f5.params.toList++Rows.blameOpenSpec.plain.varTypes prog) (z++gs)).all (· <=reachBytes)=true:=L;clear L;have G:∀(j:Nat) t v,f5.params[j]? =some t->args[j]? =some v->Value.okWide prog W .any base t v:=J;have Z:=Y;obtain ⟨p,q',O,hV,rfl,aw,am⟩:=Y;have hA:DataW.TrodAll enc prog W 0 (fun _=>true) true f5.params.toList args.toList z p:=O;rw [params5] at hA G T;obtain ⟨v0,ap,d0,aq,p0,q0,ak,rfl,rfl,h0,r0⟩:=trodAll_cons hA;obtain ⟨v1,au,d1,ao,p1,q1,rfl,rfl,rfl,h1,r1⟩:=trodAll_cons r0;obtain ⟨rfl,rfl,rfl⟩:=trodAll_nil r1;obtain rfl:args=#[v0,v1]:=by cases args;simp_all
 obtain ⟨rfl,rfl⟩:=trodVars_none hV;have k0:=h0;have k1:=h1;have aa:∀x∈p0,x.block < W.heap.size:=by obtain ⟨m,N⟩:=k0;exact DataW.trod_lt m _ _ _ N
 have ai:∀x∈p1,x.block < W.heap.size:=by obtain ⟨m,N⟩:=k1;exact DataW.trod_lt m _ _ _ N
 have ah:∀m∈d0.weights prog 29,m<=reachBytes:=fun m N=>of_decide_eq_true (List.all_eq_true.1 T m (DataW.weights_mem_each (j:=0) rfl rfl m N));obtain ⟨x,es,vs,U,ac,ag,rfl,ae,af⟩:=w_viewS (G 0 29 v0 rfl rfl) h0 ah;obtain ⟨z1,rfl,rfl,rfl,ar⟩:=open_int underlying3 (G 1 3 v1 rfl rfl) h1;have hG:=glob_of_laid hL;clear O J;refine (lawOpen_any x es vs U ac ag z1 W.heap.size W hG ae nl af).mono fun e W' ⟨he,M⟩=>?_;subst he;exact ⟨_,rfl,_,_,_,[],_,[],Z,trodAll_mk1 (shut_bool underlying4 _),(trodAll_cons_mk (Below.trod laidOut ya9 (of_decide_eq_true ya9) k0 M aa) (trodAll_cons_mk (Below.trod laidOut ya9 (of_decide_eq_true ya9) k1 M ai) trodAll_mk0)),rfl,M.frame _,fun h=>by cases h⟩
theorem over:Rows.BlameOpenSaid:=over0 lifted
theorem proved:Rows.BlameOpenCardSaid:=
 Claim7.holds_tied_plain_at .later [] [.data,.data] true (true, "7e57fa1df068c5d389eb20bc42a3df8c84f9f7e0f2acddd367ad054c82902a08") false
  over (fun _ h=>by cases h) ya9 (fun _ h=>by cases h) blameOpen_row_tie rfl ⟨rfl,rfl⟩ ya9 rfl
  (fun f J hf H=>by
    obtain rfl:f=5:=Option.some.inj ((show prog.funcNamed "kinkeep/kinkeeplaw45.BlameOpen" =some 5 by kernel_rfl).symm.trans hf) |>.symm;obtain rfl:J=f5:=(Option.some.inj (func5.symm.trans H)).symm
    exact ⟨by kernel_rfl,fun j t ht=>by
     rw [params5] at ht;have K:t∈[29,3]:=by simpa using Array.mem_of_getElem? ht
     have G:([29,3].all fun u=> !prog.wantsStandIn u)=true:=by kernel_rfl
     exact (show prog.wantsStandIn t=false by simpa using List.all_eq_true.1 G t K)⟩)
  ya9
