/-
  Who forgot is named at its next meeting: the law holds for every input: it returns true and its arguments read as before; where package sha256's two tables lie as the program's text lays them (the card ties that). No other condition.
-/
import Derived.Test.YtpdledjgbgalcaaGreatDoorG3
import Derived.Test.YtpdledjgbgalcaaGreatDoorPu
import Derived.Test.YtpdledjgbgalcaaGreatDoorPc
import Derived.Test.YtpdledjgbgalcaaGreatDoorCards
import Derived.Test.YtpdledjgbgalcaaGreatDoorTie
import Derived.WalkKit
import Derived.ProofKit
import Derived.OpenShut
import Derived.ShutString
import Derived.ChangeOld
import Derived.Below
import Derived.SevenTiedAt
import Derived.ChangeMaps5
namespace Go.Proofs.YtpdledjgbgalcaaGreatDoor.blameForgets
set_option maxRecDepth 100000
open Go.ChangeShapes Go.WideShapes Go.ChangeAt Go.RowKit
set_option linter.unusedVariables false
theorem own:ownKnob Tryz.prog.godebug=none:=by kernel_rfl
theorem laidOut:laidOutB Tryz.prog=true:=by kernel_rfl
theorem lifted (os:Os) (started:os.Started) (H:Type) (enc:TypeId × Value→H):
 ReturnsInHanded {} Tryz.checked os 7 .any (fun w args=>(Rows.blameForgetsSpec.pre enc Tryz.prog Tryz.f7 [] false w args∧laidMetH Tryz.prog laidTs w)∧sizedMet enc Tryz.prog Tryz.f7 (OpenSpec.ofChange Rows.blameForgetsSpec) false w args)
  (Rows.blameForgetsSpec.post enc Tryz.prog Tryz.f7 false true false false):=by
 refine returnsInHanded_of_change_and (C:=Tryz.checked) (X:=fun w _=>laidMetH Tryz.prog laidTs w) (fun _ _ _ hh h=>h.of_heap hh) own started yaV Tryz.func7
  (ChangeSpec.witness_shaped (enc:=enc) (C:=Tryz.checked) (os:=os) (X:=fun w _=>laidMetH Tryz.prog laidTs w) false (World.doorLaid Tryz.prog 400 os) #[.slice none 0 0,.int .u8 0,.int .i64 0,.int .u8 0] 8 rfl (World.shaped_of_RefB yaV yaV) yaV yaV yaV (door_met os _)) ?_
 intro W base args ds gs before hval0 hW _ hsz0 hL _;have hsz:(DataW.weightsEach Tryz.prog (Tryz.f7.params.toList++Rows.blameForgetsSpec.plain.varTypes Tryz.prog) (ds++gs)).all (· ≤reachBytes)=true:=hsz0;clear hsz0;have hval:∀(j:Nat) t v,Tryz.f7.params[j]? =some t→args[j]? =some v→Value.okWide Tryz.prog W .any base t v:=hval0
 have hW':=hW;obtain ⟨p,q',hA0,hV,rfl,hfz,hnd⟩:=hW;have hA:DataW.TrodAll enc Tryz.prog W 0 (fun _=>true) true Tryz.f7.params.toList args.toList ds p:=hA0;rw [Tryz.params7] at hA hval hsz;obtain ⟨v0,vs0,d0,ds0,p0,q0,hargs,rfl,rfl,h0,r0⟩:=trodAll_cons hA;obtain ⟨v1,vs1,d1,ds1,p1,q1,rfl,rfl,rfl,h1,r1⟩:=trodAll_cons r0;obtain ⟨v2,vs2,d2,ds2,p2,q2,rfl,rfl,rfl,h2,r2⟩:=trodAll_cons r1;obtain ⟨v3,vs3,d3,ds3,p3,q3,rfl,rfl,rfl,h3,r3⟩:=trodAll_cons r2;obtain ⟨rfl,rfl,rfl⟩:=trodAll_nil r3;obtain rfl:args=#[v0,v1,v2,v3]:=by cases args;simp_all
 obtain ⟨rfl,rfl⟩:=trodVars_none hV;have k0:=h0;have k1:=h1;have k2:=h2;have k3:=h3;have lt0:∀x∈p0,x.block < W.heap.size:=by obtain ⟨m,hm⟩:=k0;exact DataW.trod_lt m _ _ _ hm
 have lt1:∀x∈p1,x.block < W.heap.size:=by obtain ⟨m,hm⟩:=k1;exact DataW.trod_lt m _ _ _ hm
 have lt2:∀x∈p2,x.block < W.heap.size:=by obtain ⟨m,hm⟩:=k2;exact DataW.trod_lt m _ _ _ hm
 have lt3:∀x∈p3,x.block < W.heap.size:=by obtain ⟨m,hm⟩:=k3;exact DataW.trod_lt m _ _ _ hm
 obtain ⟨A0,n0,c0,xs0,rfl,hc0,hx0,hb0⟩:=w_bytes (hval 0 40 v0 rfl rfl) h0;obtain ⟨z1,rfl,rfl,rfl,hz1⟩:=open_int Tryz.underlying5 (hval 1 5 v1 rfl rfl) h1;obtain ⟨z2,rfl,rfl,rfl,hz2⟩:=open_int Tryz.underlying3 (hval 2 3 v2 rfl rfl) h2;obtain ⟨z3,rfl,rfl,rfl,hz3⟩:=open_int Tryz.underlying5 (hval 3 5 v3 rfl rfl) h3;have hG:=glob_of_laid hL;clear hA0 hval0;obtain ⟨sr,rfl,hsr⟩:=u8_nat hz1;obtain ⟨more,rfl,hmo⟩:=u8_nat hz3;refine (lawForgets_any A0 n0 c0 sr more W.heap.size xs0 z2 W hG hx0 hb0 hc0 hsr hmo nl).mono fun e W' ⟨he,bel⟩=>?_
 subst he;exact ⟨_,rfl,_,_,_,[],_,[],hW',trodAll_mk1 (shut_bool Tryz.underlying4 _),(trodAll_cons_mk (Below.trod laidOut yaV (of_decide_eq_true yaV) k0 bel lt0) (trodAll_cons_mk (Below.trod laidOut yaV (of_decide_eq_true yaV) k1 bel lt1) (trodAll_cons_mk (Below.trod laidOut yaV (of_decide_eq_true yaV) k2 bel lt2) (trodAll_cons_mk (Below.trod laidOut yaV (of_decide_eq_true yaV) k3 bel lt3) trodAll_mk0)))),rfl,bel.frame _,fun h=>by cases h⟩
theorem over:Rows.BlameForgetsSaid:=
 OpenClaim.holds_of_wide 7 Tryz.f7 rfl rfl rfl rfl rfl rfl rfl ⟨rfl,rfl,rfl,rfl,rfl⟩ rfl rfl rfl rfl rfl yaV Tryz.func7 yaV
  (of_decide_eq_true yaV) (by unfold Func.isWrapper;first |(rw [if_pos (by decide+kernel)];kernel_rfl) |(rw [if_neg (by decide+kernel)];exact ⟨rfl,rfl⟩))
  (fun os started H enc _=>lifted os started H enc)
theorem proved:Rows.BlameForgetsCardSaid:=
 Claim7.holds_tied_plain_at .later [] [.data,.data] true (true, "7e57fa1df068c5d389eb20bc42a3df8c84f9f7e0f2acddd367ad054c82902a08") false
  over (fun _ h=>by cases h) yaV (fun _ h=>by cases h) blameForgets_row_tie rfl ⟨rfl,rfl⟩ yaV rfl
  (fun f fn hf hfn=>by
    obtain rfl:f=7:=Option.some.inj ((show Tryz.prog.funcNamed "kinkeep/kinkeeplaw45.BlameForgets" =some 7 by kernel_rfl).symm.trans hf) |>.symm;obtain rfl:fn=Tryz.f7:=(Option.some.inj (Tryz.func7.symm.trans hfn)).symm
    exact ⟨by kernel_rfl,fun j t ht=>by
     rw [Tryz.params7] at ht;have hm:t∈[40,5,3,5]:=by simpa using Array.mem_of_getElem? ht
     have hall:([40,5,3,5].all fun u=> !Tryz.prog.wantsStandIn u)=true:=by kernel_rfl
     exact (show Tryz.prog.wantsStandIn t=false by simpa using List.all_eq_true.1 hall t hm)⟩)
  yaV
