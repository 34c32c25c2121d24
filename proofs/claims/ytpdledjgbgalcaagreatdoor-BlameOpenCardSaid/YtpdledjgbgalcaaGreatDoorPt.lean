import Derived.Test.YtpdledjgbgalcaaGreatDoorPs
import Derived.Test.YtpdledjgbgalcaaGreatDoorT3
namespace Go.Proofs.YtpdledjgbgalcaaGreatDoor
set_option maxRecDepth 100000
set_option maxHeartbeats 8000000
open Go.RowKit Go.Lib Go.Proofs.Tryz
set_option linter.unusedVariables false
set_option linter.unusedSimpArgs false
theorem left_anyZ (g:Nat) (A:Option Addr) (n c p:Nat) (G er:Int) (w:World) (hr:Rd w g A n c p G er) (hp:p<=n) (hn:n<=1000000):
 Calls prog 83 #[.pointer (some ⟨g,0,none⟩)] w fun e H=>e= .returned (.int .i64 ((n:Int) - p))/\∃m,H=w.drewN m:=by
 have h0:=zz w g 0 _ _ _ hr;have h1:=zz w g 1 _ _ _ hr;simp at h0 h1;have J:IntKind.i64.wrap ((n:Int) - p)=(n:Int) - p:=by rw [IntWalk.i64_in _ om]
 clear hr;go_enter func83,ntmps83;go_wp2;go_quiet (fail);go_wp2;go_ret;exact ⟨rfl,_,rfl⟩
theorem ycA {H:Func} {a b c:Tmp} (h:H.results=#[.tmp a,.tmp b,.tmp c]) (G:Array Value) (P:Program) (w:World):
 (results H G).run P w= .ok (.tuple #[G.getD a undef,G.getD b undef,G.getD c undef]) w:=by
 simp [results,h]
theorem encV_pos (xs:List Int):0 < (encV xs).length:=by
 have h0:∀n,0 < (enc n).length:=fun n=>by
  unfold enc encF
  split<;>simp
 unfold encV;rw [List.length_append];have:=h0 (nrm xs).length;omega
abbrev entryV (k:Int) (A:Option Addr) (n c:Nat):Value:= .agg #[.int .i64 0,.int .i64 0,.int .i64 k,.int .i64 0,.slice A n c,.string ⟨#[]⟩]
theorem dmeet_enc (q:Nat) (xs:List Int) (A:Option Addr) (n c B:Nat) (w:World) (H:Sl fB w B A n ((q:Int)::encV xs)) (hc:n<=c) (T:B<=w.heap.size) (hv:ybs xs=true) (hq:q<=11):
 Calls prog 35 #[entryV 9 A n c] w fun e J=>∃A' n' c',e= .returned (.tuple #[.int .i64 (q:Int),.slice A' n' c',.int .i64 0])/\n'<=c'/\Sl I J J.heap.size A' n' (nrm xs)/\Below w.heap.size w J:=by
 have ag:Byt ((q:Int)::encV xs):=Byt.app (xs:=[(q:Int)]) (fun x H=>by rw [List.mem_singleton.1 H];omega) (encV_byt xs);have ao:n=(encV xs).length+1:=by rw [<-H.1];rfl
 have aB:=encV_len xs hv;have ak:=encV_pos xs;obtain ⟨b,G,rfl,au⟩:=H.at0 om;have M:Below w.heap.size w (w.alloc (.cells #[.int .i64 0,.int .i64 0,.int .i64 9,.int .i64 0,.slice (some ⟨b,G,none⟩) n c,.string ⟨#[]⟩] 55)):=bl;have HB1:=lh M;have HX:=lh H;have HN:=lh (ydp (some ⟨b,G,none⟩) n c ((q:Int)::encV xs) _ ((H.up M T).more' (lT T M.size)) om)
 have HU:Hid (∀g K c1 W,Rd W g K n c1 0 0 0->Sl fB W g K n ((q:Int)::encV xs)->Calls prog 82 #[.pointer (some ⟨g,0,none⟩)] W fun e J=>e= .returned (.int .u64 (q:Int))/\Rd J g K n c1 1 0 0/\But (fun k=>k=g) W J):=fun g K c1 W hr hs=>by
  refine (yd3 g K n c1 0 0 _ W hr hs ag om om).mono ?_;rintro e J ⟨h1,h2,h3⟩;rw [numF_small om] at h1 h2;exact ⟨h1,h2,h3⟩
 have HD:Hid (∀W,Sl fB W W.heap.size (some ⟨b,G+1,none⟩) (n - 1) (encV xs)->Calls prog 84 #[.slice (some ⟨b,G+1,none⟩) (n - 1) (c - 1)] W (Slc2 I (nrm xs) 0 W)):=fun W hs=>by
  have h:=decode_any (some ⟨b,G+1,none⟩) (n - 1) (c - 1) (encV xs) W hs om (encV_byt xs);unfold DecPost at h;rw [decV_enc xs hv] at h;exact h.mono fun _ _ ⟨A,n,c,h1,h2,h3,h4⟩=>⟨A,n,c,h1,h2,h3.1,h4⟩
 obtain ⟨iB,aD,_,ay,_⟩:=info_parts Tryz.infoB
 have aH:∀W,(Instr.slice 40 (.slice (some ⟨b,G,none⟩) n c) (some (.int .i64 1)) none none).run prog W= .ok (.slice (some ⟨b,G+1,none⟩) (n - 1) (c - 1)) W:=fun W=>by
  rw [ybv (P:=prog) 40 5 iB underlying40 aD ay (some ⟨b,G,none⟩) n c .i64 1 1 rfl om hc W,if_neg om];rfl
 have aA:Hid (∀W,Below w.heap.size w W->Sl fB W W.heap.size (some ⟨b,G+1,none⟩) (n - 1) (encV xs)):=fun W hb=>by
  refine ⟨by omega,fun _=>⟨b,G+1,rfl,Nat.lt_of_lt_of_le (Nat.lt_of_lt_of_le au T) hb.size,fun k x hk=>?_⟩⟩;obtain ⟨b',aF,e,_,ax⟩:=(H.up hb T).2 (by rw [H.1];omega);cases e
  have:=ax (k+1) x hk;rw [show G+1+k=G+(k+1) by omega];exact this
 have aG:¬(12:Int)<=(q:Int):=by omega
 have aK:IntKind.i64.wrap ((n:Int) - ((n:Int) - 1))=1:=by rw [IntWalk.i64_in _ om];omega
 have aJ:IntKind.i64.wrap (q:Int)=(q:Int):=IntWalk.i64_in _ om;have aI:n<=131:=by omega
 have aw:1<=n:=by omega
 clear H M ag ao aB ak hv T;go_enter func35,ntmps35
 go_upto_region 5 with (first
  |(go_at_call 81;(with_reducible refine HN.out.mono ?_);rintro e w2 ⟨g,K,c1,rfl,aa,U,ae,O,_⟩
    have aE:=lh aa;have aj:=lh U;have Z:=lh ae;have ac:Hid (Below w.heap.size w w2):=HB1.out.trans (O.mono sI);have ah:Hid (w2.heap[w.heap.size]? =some (.cells #[.int .i64 0,.int .i64 0,.int .i64 9,.int .i64 0,.slice (some ⟨b,G,none⟩) n c,.string ⟨#[]⟩] 55 (0,0))):=(O.block _ sI).trans (zy w _)
    clear aa U ae O)
  |(go_at_call 82;(with_reducible refine (HU.out g K c1 w2 aE.out aj.out).mono ?_);rintro e L ⟨rfl,ai,N⟩
    have aq:=lh ai;have az:Hid (Below w.heap.size w L):=ac.out.trans (N.below ac.out.size (fun i hi=>by have:=Z.out;simp at this;omega));have ap:Hid (L.heap[w.heap.size]? =some (.cells #[.int .i64 0,.int .i64 0,.int .i64 9,.int .i64 0,.slice (some ⟨b,G,none⟩) n c,.string ⟨#[]⟩] 55 (0,0))):=(N.block _ (lb ah.out) (by have:=Z.out;simp at this;omega)).trans ah.out
    clear ai N))
 have e4:=zz L w.heap.size 4 _ _ _ ap.out;simp at e4;have aC:Hid (∀a,Calls prog 83 #[.pointer (some ⟨g,0,none⟩)] (L.drewN a) fun e J=>e= .returned (.int .i64 ((n:Int) - 1))/\∃m,J=(L.drewN a).drewN m):=fun a=>left_anyZ g K n c1 1 0 0 (L.drewN a) aq.out aw om;go_quiet ((go_at_call 83;with_reducible exact Calls.quiet_of (aC.out _)));generalize hW:World.drewN L _=W4;replace e4:W4.cell? ⟨w.heap.size,4,none⟩=some (.slice (some ⟨b,G,none⟩) n c):=by rw [<-hW];exact e4
 have Y:Hid (Below w.heap.size w W4):=by show Below ..;rw [<-hW];exact ybd az.out _
 clear hW
 go_wp2_with (first
  |(go_at_call 84;(with_reducible refine (HD.out _ (aA.out _ Y.out)).mono ?_);rintro e w5 ⟨A5,n5,c5,rfl,am,z,af⟩
    have HS5:=lh z;have ar:=lh af
    clear z af))
 refine bodyPost_ret (ycA rfl _ _ _) rfl ⟨A5,n5,c5,rfl,am,HS5.out,bt Y.out ar.out⟩
def dmV (bs:List Int):Option (Int × List Int):=if (rU bs (0,0)).2.2=0/\(rU bs (0,0)).1 < 12 then (decV (bs.drop (rU bs (0,0)).2.1)).map (fun v=>((rU bs (0,0)).1,v)) else none
def DMPost (bs:List Int) (w:World) (e:Ending) (w':World):Prop:=
 (∃q v A n c,dmV bs=some (q,v)/\e= .returned (.tuple #[.int .i64 q,.slice A n c,.int .i64 0])/\(Sl I w' w'.heap.size A n v/\∀t,A=some t->w.heap.size<=t.block)/\Below w.heap.size w w')
 ∨(dmV bs=none/\e= .returned (.tuple #[.int .i64 0,.slice none 0 0,.int .i64 3])/\Below w.heap.size w w')
theorem dmt_no (dv sq k dy:Int) (pr:ByteArray) (A:Option Addr) (n c:Nat) (w:World) (H:k≠9):
 Calls prog 35 #[.agg #[.int .i64 dv,.int .i64 sq,.int .i64 k,.int .i64 dy,.slice A n c,.string pr]] w fun e G=>e= .returned (.tuple #[.int .i64 0,.slice none 0 0,.int .i64 1])/\Below w.heap.size w G:=by
 have J:(k != 9)=true:=by simp [H]
 go_enter func35,ntmps35;go_wp2;refine bodyPost_ret (ycA rfl _ _ _) rfl ⟨rfl,bl⟩
theorem left_anyR (g:Nat) (A:Option Addr) (n c:Nat) (bs:List Int) (s:RS) (w:World) (hr:RdS g A n c bs s w) (hp:s.1<=n) (hn:n<=1000000):
 Calls prog 83 #[.pointer (some ⟨g,0,none⟩)] w fun e H=>e= .returned (.int .i64 ((n:Int) - s.1))/\∃m,H=w.drewN m:=by
 obtain ⟨⟨G,h1⟩,_⟩:=hr;exact left_anyZ g A n c s.1 G s.2 w h1 hp hn
theorem RdS.drewN {g:Nat} {A:Option Addr} {n c:Nat} {bs:List Int} {s:RS} {w:World} (h:RdS g A n c bs s w) (m:Nat):RdS g A n c bs s (w.drewN m):=h
theorem dmt_any (dv sq dy:Int) (pr:ByteArray) (A:Option Addr) (n c B:Nat) (bs:List Int) (w:World) (hx:Sl fB w B A n bs) (hB:B<=w.heap.size) (hk:RK bs n c):
 Calls prog 35 #[.agg #[.int .i64 dv,.int .i64 sq,.int .i64 9,.int .i64 dy,.slice A n c,.string pr]] w (DMPost bs w):=by
 have hl:bs.length=n:=hx.1;have ae:(rU bs (0,0)).2.1<=n:=rU_le hl (Nat.zero_le _);have aC:=ycU bs (0,0);have hn:=hk.2.1;have au:=hk.2.2
 have U:(rU bs (0,0)).2.2≠0->(rU bs (0,0)).2.1=0:=fun h=>by
  unfold rU at h ⊢;unfold rV at h ⊢;simp only [if_true] at h ⊢
  split at h
  ·exact absurd rfl h
  ·next e=>rw [if_neg e]
 have M:(rU bs (0,0)).2.2=0->0 < (rU bs (0,0)).2.1:=fun h=>by
  obtain ⟨_,m,_,_,h1,_⟩:=rU_only hk.1 h;have:0 < (enc m).length:=by unfold enc encF;split<;>simp
  rw [h1];omega
 obtain ⟨G,O⟩:∃G:World,G=w.alloc (.cells #[.int .i64 dv,.int .i64 sq,.int .i64 9,.int .i64 dy,.slice A n c,.string pr] 55):=⟨_,rfl⟩
 have K:Below w.heap.size w G:=by rw [O];exact bl
 have ai:G.heap[w.heap.size]? =some (.cells #[.int .i64 dv,.int .i64 sq,.int .i64 9,.int .i64 dy,.slice A n c,.string pr] 55 (0,0)):=by rw [O];exact zy w _
 have ao:G.heap.size=w.heap.size+1:=by rw [O];simp
 have ac:=lh (yb9 A n c bs G ((hx.up K hB).more' (lT hB K.size)) hn);have HU:Hid (∀g Y c1 V,n<=c1->RdS g Y n c1 bs (0,0) V->Calls prog 82 #[.pointer (some ⟨g,0,none⟩)] V (RPost g Y n c1 bs (.int .u64 (rU bs (0,0)).1) (rU bs (0,0)).2 V)):=fun g Y c1 V hc h=>ru_any g Y n c1 bs _ V h ⟨hk.1,hn,hc⟩ (Nat.zero_le _)
 have ah:Hid (∀V,Below G.heap.size G V->V.cell? ⟨w.heap.size,4,none⟩=some (.slice A n c)):=fun V hb=>by
  rw [cell_of_row V _ _ _ _ _ ((hb.block _ om).trans ai)];rfl
 have k2:G.cell? ⟨w.heap.size,2,none⟩=some (.int .i64 9):=by rw [cell_of_row G _ _ _ _ _ ai];rfl
 have k4:=ah.out G bR;have L:Hid (dmV bs=if (rU bs (0,0)).2.2=0/\(rU bs (0,0)).1 < 12 then (decV (bs.drop (rU bs (0,0)).2.1)).map (fun v=>((rU bs (0,0)).1,v)) else none):=rfl
 have aa:Hid (∀p J,p<=n->(if c=p then A else A.map (·.add p))=J->∀V,Below G.heap.size G V->Calls prog 84 #[.slice J (n - p) (c - p)] V (DecPost (bs.drop p) V)):=fun p J hp hA V hb=>by
  have h1:=((hx.up K hB).up hb (lT hB K.size)).part (c:=c) p (n - p) om au;rw [List.take_of_length_le yaY,hA] at h1;exact decode_any J (n - p) (c - p) (bs.drop p) V (h1.more' (lT (lT hB K.size) hb.size)) om (fun b hb=>hk.1 b (List.mem_of_mem_drop hb))
 obtain ⟨iB,aw,_,ar,_⟩:=info_parts Tryz.infoB
 have Z:Hid (∀(p:Nat) J,p<=n->(if c=p then A else A.map (·.add p))=J->∀W,(Instr.slice 40 (.slice A n c) (some (.int .i64 (p:Int))) none none).run prog W= .ok (.slice J (n - p) (c - p)) W):=fun p J hp hA W=>by
  rw [ybv (P:=prog) 40 5 iB underlying40 aw ar A n c .i64 p p rfl hp au W,hA]
 have HB1:=lh K;have HS1:=lh ao;have HWE:=lh O;unfold DMPost;generalize rU bs (0,0)=R1 at*;obtain ⟨z,p,er⟩:=R1;dsimp only at ae aC U M HU L ⊢;clear O K ai ao hx hB hk hl aw ar;go_enter func35,ntmps35;go_upto_region 3 with fail
 rw [<-HWE.out]
 go_upto_region 5 with (first
  |(go_at_call 81;(with_reducible refine ac.out.mono ?_);rintro e V2 ⟨g,Y,c1,rfl,r0,x0,ax,ap,aq,aD⟩;(have R2:Hid (RdS g Y n c1 bs (0,0) V2):=⟨⟨_,r0⟩,x0⟩);(have B2:=lh ap);(have az:=lh aq);(have aB:=lh ax);clear r0 x0 ax ap aq aD)
  |(go_at_call 82;(with_reducible refine (HU.out g Y c1 V2 az.out R2.out).mono ?_);rintro e V3 ⟨rfl,r,bb⟩;(have R3:=lh r);(have B3:=lh (B2.out.trans (bb.below B2.out.size (fun i hi=>by subst hi;exact aB.out))));clear r bb))
 clear k2 k4;have e4:=ah.out V3 B3.out;have aE:Hid (∀a,Calls prog 83 #[.pointer (some ⟨g,0,none⟩)] (V3.drewN a) fun e w'=>e= .returned (.int .i64 ((n:Int) - p))/\∃m,w'=(V3.drewN a).drewN m):=fun a=>left_anyR g Y n c1 bs _ (V3.drewN a) (R3.out.drewN a) ae hn;have aJ:IntKind.i64.wrap ((n:Int) - ((n:Int) - p))=p:=by rw [IntWalk.i64_in _ om];omega
 go_quiet ((go_at_call 83;with_reducible exact Calls.quiet_of (aE.out _)))
 generalize hW:World.drewN V3 _=V4;have af:Hid (Below G.heap.size G V4):=by show Below ..;rw [<-hW];exact ybd B3.out _
 have HBW:Hid (Below w.heap.size w V4):=bt HB1.out af.out;replace e4:V4.cell? ⟨w.heap.size,4,none⟩=some (.slice A n c):=ah.out V4 af.out;clear hW
 by_cases aj:er=0
 ·subst aj;have aF:=M rfl;have aI:((p:Int)==0)=false:=by simp;omega
  by_cases hz:z < 12
  ·have H:Hid (dmV bs=(decV (bs.drop p)).map (fun v=>(z,v))):=by show _=_;rw [L.out,if_pos ⟨rfl,hz⟩]
   have aA:¬(12:Int)<=z:=by omega
   have aH:IntKind.i64.wrap z=z:=IntWalk.i64_in _ om;obtain ⟨J,ak⟩:∃J,(if c=p then A else A.map (·.add p))=J:=⟨_,rfl⟩
   have aG:=Z.out p J ae ak;have HD:=lh (aa.out p J ae ak V4 af.out);clear ak Z aa L HU ac U M;unfold DecPost at HD;obtain ⟨ay,am⟩:=gx (decV (bs.drop p));rw [am] at HD H;clear am
   cases ay with
   |none=>
    go_wp2_with (go_at_call 84;(refine HD.out.mono ?_);rintro e V5 ⟨A5,n5,c5,rfl,ag,N,T⟩;(have B5:=lh (bt HBW.out T));clear N T ag)
    refine bodyPost_ret (ycA rfl _ _ _) rfl (.inr ⟨by rw [H.out];rfl,rfl,B5.out⟩)
   |some v=>
    go_wp2_with (go_at_call 84;(refine HD.out.mono ?_);rintro e V5 ⟨A5,n5,c5,rfl,ag,N,T⟩;(have S5:=lh N.1);(have F5:Hid (∀t,A5=some t->w.heap.size<=t.block):=fun t ht=>lT HBW.out.size (N.2 t ht));(have B5:=lh (bt HBW.out T));clear N T ag)
    refine bodyPost_ret (ycA rfl _ _ _) rfl (.inl ⟨z,v,A5,n5,c5,by rw [H.out];rfl,rfl,⟨S5.out,F5.out⟩,B5.out⟩)
  ·have H:Hid (dmV bs=none):=by show _=_;rw [L.out,if_neg (fun h=>hz h.2)]
   have aA:(12:Int)<=z:=by omega
   clear Z aa L HU ac U M;go_wp2;refine bodyPost_ret (ycA rfl _ _ _) rfl (.inr ⟨H.out,rfl,HBW.out⟩)
 ·have H:Hid (dmV bs=none):=by show _=_;rw [L.out,if_neg (fun h=>aj h.1)]
  obtain rfl:p=0:=U aj;clear Z aa L HU ac U M;go_wp2;refine bodyPost_ret (ycA rfl _ _ _) rfl (.inr ⟨H.out,rfl,HBW.out⟩)
structure Ac where
 er:Int
 d:Int
 q:Int
 R:Rcp
 st:ByteArray
 ix:Int
 no:ByteArray
 an:ByteArray
 ps:List ByteArray
 qs:List ByteArray
 rs:List ByteArray
abbrev rHd (R:Rcp) (pa pb pc:Hd):Rcp:=⟨R.hd,R.vt,R.s,R.ix,R.sz,R.dy,R.sr,R.ct,R.pl,R.rt,pa,R.si,pb,pc⟩
def h0:Hd:=⟨none,0,0⟩
def acF (k d q:Int) (bs:List Int):Ac:=
 if k=6 then (if numB d q=true then (if okT bs=true then ⟨0,d,q,rcV (dT1 bs).1 h0 h0 h0,(dT2 bs).1.1,(dT2 bs).1.2,(dT3 bs).1,(dT4 bs).1,(rc5 (dT1 bs).1).1,(rc9 (dT1 bs).1).1,(rcA (dT1 bs).1).1⟩ else ⟨3,0,0,zRcp,⟨#[]⟩,0,⟨#[]⟩,⟨#[]⟩,[],[],[]⟩) else ⟨3,0,0,zRcp,⟨#[]⟩,0,⟨#[]⟩,⟨#[]⟩,[],[],[]⟩) else ⟨1,0,0,zRcp,⟨#[]⟩,0,⟨#[]⟩,⟨#[]⟩,[],[],[]⟩
structure Aq where
 er:Int
 d:Int
 q:Int
 st:ByteArray
 ix:Int
 xs:List Int
 ys:List ByteArray
def aqF (k:Int) (bs:List Int):Aq:=
 if k=7 then (if okA bs=true then ⟨0,(dA1 bs).1,(dA2 bs).1,(dA3 bs).1.1,(dA3 bs).1.2,(dA4 bs).1,(dA6 bs).1⟩ else ⟨3,0,0,⟨#[]⟩,0,[],[]⟩) else ⟨1,0,0,⟨#[]⟩,0,[],[]⟩
def mtD (k:Int) (bs:List Int):MtX:=if k=9 then (match dmV bs with |some (q,v)=>⟨0,q,v⟩ |none=>⟨3,0,[]⟩) else ⟨1,0,[]⟩
theorem Sl.nilT (w:World) (B:Nat):Sl fT w B none 0 []:=⟨rfl,fun h=>absurd h sI⟩
theorem Sl.nilI (w:World) (B:Nat):Sl I w B none 0 []:=⟨rfl,fun h=>absurd h sI⟩
def aqX (e:EnR):AqX:=⟨(aqF e.k e.bs).er,(aqF e.k e.bs).d,(aqF e.k e.bs).q,⟨(aqF e.k e.bs).st,(aqF e.k e.bs).ix,(aqF e.k e.bs).xs,(aqF e.k e.bs).ys⟩⟩
def mtX (e:EnR):MtX:=mtD e.k e.bs
def acX (e:EnR):Ac:=acF e.k e.dv e.sq e.bs
theorem aqF_int (k:Int) (bs:List Int):int64 (aqF k bs).d/\int64 (aqF k bs).q:=by
 have h1:0<=(dA1 bs).1/\(dA1 bs).1<=((11:Nat):Int):=rN_range;have h2:0<=(dA2 bs).1/\(dA2 bs).1<=((1099511627776:Nat):Int):=rN_range;unfold aqF int64
 split
 ·split
  ·dsimp only;omega
  ·exact ⟨by decide,by decide⟩
 ·exact ⟨by decide,by decide⟩
def AcP (a:Ac) (w:World) (e:Ending) (w':World):Prop:=
 ∃pa pb pc:Hd,e= .returned (.tuple #[.agg (cA a.d a.q (rHd a.R pa pb pc) a.st a.ix a.no a.an),.int .i64 a.er])/\RcO w' w.heap.size (rHd a.R pa pb pc) a.ps a.qs a.rs/\Below w.heap.size w w'
theorem AcP.zero {er:Int} {w G:World} {e:Ending} (J:e= .returned (.tuple #[.agg zA,.int .i64 er])) (H:Below w.heap.size w G):AcP ⟨er,0,0,zRcp,⟨#[]⟩,0,⟨#[]⟩,⟨#[]⟩,[],[],[]⟩ w e G:=
 ⟨⟨none,0,0⟩,⟨none,0,0⟩,⟨none,0,0⟩,J,⟨Own.nil,Own.nil,Own.nil⟩,H⟩
theorem AqP.zero {er:Int} {w H:World} {e:Ending} (K:e= .returned (.tuple #[.int .i64 0,.int .i64 0,.agg zPc,.int .i64 er])) (J:Below w.heap.size w H):AqP ⟨er,0,0,⟨⟨#[]⟩,0,[],[]⟩⟩ w e H:=
 ⟨⟨none,0,0⟩,⟨none,0,0⟩,K,⟨⟨rfl,fun h=>absurd h sI⟩,fun _ h=>by cases h⟩,⟨Sl.nilT _ _,fun _ h=>by cases h⟩,⟨Nat.le_refl _,Nat.le_refl _⟩,J⟩
section
variable (e:EnR) (B:Nat) (w:World) (hx:EnOk w B e) (hB:B<=w.heap.size) (hn:e.bd.n<=1000000)
include hx hB hn
theorem aq_any:Calls prog 103 #[.agg (fEn e).toArray] w (AqP (aqX e) w):=by
 obtain ⟨dv,sq,k,dy,bd,pr,bs⟩:=e;unfold aqX aqF
 by_cases G:k=7
 ·subst G;refine (dacq_any dv sq dy pr bd.a bd.n bd.c B bs w hx.1 hB hn hx.2.1).mono ?_;rintro e M (⟨h1,p,h2,H,K,J,N,G,L⟩ |⟨h1,h2,H⟩)
  ·simp only [if_true,h1];rw [<-h2,<-H];exact ⟨p.d,p.q,K,⟨J.1,G⟩,⟨J.2.1,L⟩,J.2.2,N⟩
  ·simp only [if_true,h1];exact AqP.zero h2 H
 ·refine (dacq_no dv sq k dy pr bd.a bd.n bd.c w G).mono ?_;rintro e M ⟨h2,H⟩;simp only [if_neg G];exact AqP.zero h2 H
theorem mt_any:Calls prog 35 #[.agg (fEn e).toArray] w (MtP (mtX e) w):=by
 obtain ⟨dv,sq,k,dy,bd,pr,bs⟩:=e;unfold mtX mtD
 by_cases H:k=9
 ·subst H;refine (dmt_any dv sq dy pr bd.a bd.n bd.c B bs w hx.1 hB ⟨hx.2.1,hn,hx.2.2.1⟩).mono ?_;rintro e K (⟨q,v,A,n,c,h1,h2,G,J⟩ |⟨h1,h2,G⟩)
  ·simp only [if_true,h1];exact ⟨⟨A,n,c⟩,h2,G,J⟩
  ·simp only [if_true,h1];exact ⟨⟨none,0,0⟩,h2,⟨Sl.nilI _ _,fun _ h=>by cases h⟩,G⟩
 ·refine (dmt_no dv sq k dy pr bd.a bd.n bd.c w H).mono ?_;rintro e K ⟨h2,G⟩;simp only [if_neg H];exact ⟨⟨none,0,0⟩,h2,⟨Sl.nilI _ _,fun _ h=>by cases h⟩,G⟩
theorem ac_any:Calls prog 105 #[.agg (fEn e).toArray] w (AcP (acX e) w):=by
 obtain ⟨dv,sq,k,dy,bd,pr,bs⟩:=e;unfold acX acF
 by_cases J:k=6
 ·subst J
  by_cases H:numB dv sq=true
  ·refine (dacc_any dv sq dy pr bd.a bd.n bd.c B bs w H hx.1 hB hn hx.2.1).mono ?_;rintro e K (⟨h1,pa,pb,pc,h2,G,L⟩ |⟨h1,h2,G⟩)
   ·simp only [if_true,H,h1];exact ⟨pa,pb,pc,h2,G,L⟩
   ·simp only [if_true,H,h1];exact AcP.zero h2 G
  ·refine (dacc_num dv sq dy pr bd.a bd.n bd.c w (by rw [Bool.not_eq_true] at H;exact H)).mono ?_;rintro e K ⟨h2,G⟩;simp only [if_true,if_neg H];exact AcP.zero h2 G
 ·refine (dacc_no dv sq k dy pr bd.a bd.n bd.c w J).mono ?_;rintro e K ⟨h2,G⟩;simp only [if_neg J];exact AcP.zero h2 G
end
theorem numF_er (bs:List Int):∀(k G i p:Nat),(numF bs k G i p).2.1=0∨(numF bs k G i p).2.1=3
 |0,_,_,_=> .inr rfl
 |k+1,G,i,p=>by
  rw [numF]
  cases bs[p]? with
  |none=>exact .inr rfl
  |some b=>
   simp only
   split
   ·exact numF_er bs k _ _ _
   ·split
    ·exact .inr rfl
    ·exact .inl rfl
theorem ydL {bs:List Int} {p:Nat} {v:Int} {q:Nat} (h:numF bs 10 0 0 p=(v,0,q)):nmF bs p=(v,q,true):=by unfold nmF;rw [h];rfl
theorem nmF_not {bs:List Int} {p:Nat} (h:(numF bs 10 0 0 p).2.1≠0):nmF bs p=(0,0,false):=by unfold nmF;rw [if_neg h]
theorem numF_two (bs:List Int) (p:Nat):(∃v q,0<=v/\numF bs 10 0 0 p=(v,0,q))∨(numF bs 10 0 0 p).2.1=3:=by
 rcases numF_er bs 10 0 0 p with h |h
 ·exact .inl ⟨(numF bs 10 0 0 p).1,(numF bs 10 0 0 p).2.2,ybQ bs 10 0 0 p,by rw [<-h]⟩
 ·exact .inr h
theorem rV_er {α:Type} {s:RS} {z:α} {N:α × Int × Nat} (h:s.2≠0):rV s z N=(z,s):=by unfold rV;rw [if_neg h]
theorem rV_bad {α:Type} {s:RS} {z:α} {N:α × Int × Nat} {e:Int} (h:s.2=0) (h2:N.2.1=e) (h3:e≠0):rV s z N=(z,s.1,e):=by unfold rV;rw [if_pos h,h2,if_neg h3]
theorem rV_yes {α:Type} {s:RS} {z:α} {N:α × Int × Nat} {v:α} {q:Nat} (h:s.2=0) (h2:N=(v,0,q)):rV s z N=(v,q,0):=by unfold rV;rw [if_pos h,h2];rfl
section
variable (g:Nat) (A:Option Addr) (n c:Nat) (bs:List Int) (s:RS) (w:World) (hr:RfS g A n c bs s w) (hk:RK bs n c) (hp:s.1<=n)
include hr hk hp
theorem rfu_any:Calls prog 112 #[.pointer (some ⟨g,0,none⟩),.int .i64 1,.int .i64 0] w (ybB g A n c bs (.agg (rv 1 (rU bs s).1 0 ⟨#[]⟩ 0)) (rU bs s).2 w):=by
 unfold rU
 by_cases G:s.2=0
 ·rcases numF_two bs s.1 with ⟨v,q,K,h⟩ |h
  ·rw [rV_yes G h];exact rd52_ok v 0 ⟨#[]⟩ q 0 1 0 de g A n c bs s w hr G rfl (fun V J H=>rd1_ok A n c s.1 g 0 bs V J hk.1 H hp hk.2.1 hk.2.2 v q (ydL h))
  ·rw [rV_bad G h de];exact ycJ 0 0 ⟨#[]⟩ s.1 3 1 0 de g A n c bs s w hr G de (fun V J H=>rd1_no A n c s.1 g 0 bs V J hk.1 H hp hk.2.1 hk.2.2 (nmF_not (by rw [h];decide)))
 ·rw [rV_er G];exact yec 1 0 de g A n c bs s w hr G
theorem yde:Calls prog 112 #[.pointer (some ⟨g,0,none⟩),.int .i64 6,.int .i64 0] w (ybB g A n c bs (.agg (rv 6 0 0 (rS bs s).1 0)) (rS bs s).2 w):=by
 have hl:bs.length=n:=hr.2.1;unfold rS
 by_cases G:s.2=0
 ·by_cases h:bs.length < s.1+32
  ·have e:tkF bs 32 s.1=(baNo,3,s.1):=by rw [tkF_eq,if_pos h]
   rw [rV_bad G (by rw [e]) (by decide:(3:Int)≠0)];exact ycJ 0 0 ⟨#[]⟩ s.1 3 6 0 de g A n c bs s w hr G de (fun V J H=>rd6_no A n c s.1 g 0 bs V J hk.1 H hp hk.2.1 hk.2.2 om)
  ·have e:tkF bs 32 s.1=(baOf ((bs.drop s.1).take 32),0,s.1+32):=by rw [tkF_eq,if_neg h]
   rw [rV_yes G e];exact rd52_ok 0 0 _ (s.1+32) 0 6 0 de g A n c bs s w hr G rfl (fun V J H=>rd6_ok A n c s.1 g 0 bs V J hk.1 H hp hk.2.1 hk.2.2 om)
 ·rw [rV_er G];exact yec 6 0 de g A n c bs s w hr G
theorem rfc_any (m:Nat) (M:m<=1000000):Calls prog 112 #[.pointer (some ⟨g,0,none⟩),.int .i64 7,.int .i64 m] w (ybB g A n c bs (.agg (rv 7 0 (rC bs m s).1 ⟨#[]⟩ m)) (rC bs m s).2 w):=by
 unfold rC;have H:0<=(m:Int)/\(m:Int)<=1000000:=by omega
 by_cases G:s.2=0
 ·rcases numF_two bs s.1 with ⟨v,q,N,h⟩ |h
  ·obtain ⟨v,rfl⟩:∃v':Nat,v=v':=⟨v.toNat,by omega⟩
   by_cases K:(m:Int) < v
   ·have e:limF m (numF bs 10 0 0 s.1)=(0,2,q):=by rw [h];unfold limF;rw [if_pos rfl,if_pos K]
    rw [rV_bad G (by rw [e]) (by decide:(2:Int)≠0)];exact ycJ 0 0 ⟨#[]⟩ s.1 2 7 m de g A n c bs s w hr G de (fun V L J=>rd7_big A n c s.1 g m bs V L hk.1 J hp hk.2.1 hk.2.2 H v q (ydL h) K)
   ·have e:limF m (numF bs 10 0 0 s.1)=((v:Int),0,q):=by rw [h];unfold limF;rw [if_pos rfl,if_neg K]
    rw [rV_yes G e];exact rd52_ok 0 v ⟨#[]⟩ q 0 7 m de g A n c bs s w hr G rfl (fun V L J=>rd7_ok A n c s.1 g m bs V L hk.1 J hp hk.2.1 hk.2.2 H v q (ydL h) om)
  ·have e:(limF m (numF bs 10 0 0 s.1)).2.1=3:=by unfold limF;rw [if_neg (by rw [h];decide)];exact h
   rw [rV_bad G e de];exact ycJ 0 0 ⟨#[]⟩ s.1 3 7 m de g A n c bs s w hr G de (fun V L J=>rd7_no A n c s.1 g m bs V L hk.1 J hp hk.2.1 hk.2.2 H (nmF_not (by rw [h];decide)))
 ·rw [rV_er G];exact yec 7 m de g A n c bs s w hr G
theorem rft_any (m:Nat) (O:m<=1000000):Calls prog 112 #[.pointer (some ⟨g,0,none⟩),.int .i64 4,.int .i64 m] w (ybB g A n c bs (.agg (rv 4 0 0 (rT bs m s).1 m)) (rT bs m s).2 w):=by
 have hl:bs.length=n:=hr.2.1;unfold rT;have K:0<=(m:Int)/\(m:Int)<=1000000:=by omega
 by_cases G:s.2=0
 ·rcases numF_two bs s.1 with ⟨v,q,T,h⟩ |h
  ·obtain ⟨v,rfl⟩:∃v':Nat,v=v':=⟨v.toNat,by omega⟩
   have N:q<=n:=by have:=yda bs 10 0 0 s.1 om;rw [h] at this;dsimp only at this;omega
   by_cases M:(m:Int) < v
   ·have e:blkF bs m s.1=(baNo,2,q):=by rw [blkF_eq,h];unfold limF;simp [M]
    rw [rV_bad G (by rw [e]) (by decide:(2:Int)≠0)];exact ycJ 0 0 ⟨#[]⟩ s.1 2 4 m de g A n c bs s w hr G de (fun V J H=>rd4_big A n c s.1 g m bs V J hk.1 H hp hk.2.1 hk.2.2 K v q (ydL h) M)
   ·have L:blkF bs m s.1=tkF bs v q:=by rw [blkF_eq,h];unfold limF;simp [M]
    by_cases hs:bs.length < q+v
    ·have e:blkF bs m s.1=(baNo,3,q):=by rw [L,tkF_eq,if_pos hs]
     rw [rV_bad G (by rw [e]) (by decide:(3:Int)≠0)];exact ycJ 0 0 ⟨#[]⟩ s.1 3 4 m de g A n c bs s w hr G de (fun V J H=>rd4_short A n c s.1 g m bs V J hk.1 H hp hk.2.1 hk.2.2 K v q (ydL h) om N om)
    ·have e:blkF bs m s.1=(baOf ((bs.drop q).take v),0,q+v):=by rw [L,tkF_eq,if_neg hs]
     rw [rV_yes G e];exact rd52_ok 0 0 _ (q+v) 0 4 m de g A n c bs s w hr G rfl (fun V J H=>rd4_ok A n c s.1 g m bs V J hk.1 H hp hk.2.1 hk.2.2 K v q (ydL h) om N om)
  ·have e:(blkF bs m s.1).2.1=3:=by
    have L:(limF m (numF bs 10 0 0 s.1)).2.1=3:=by unfold limF;rw [if_neg (by rw [h];decide)];exact h
    rw [blkF_eq,if_neg (by rw [L];decide)];exact L
   rw [rV_bad G e de];exact ycJ 0 0 ⟨#[]⟩ s.1 3 4 m de g A n c bs s w hr G de (fun V J H=>rd4_no A n c s.1 g m bs V J hk.1 H hp hk.2.1 hk.2.2 K (nmF_not (by rw [h];decide)))
 ·rw [rV_er G];exact yec 4 m de g A n c bs s w hr G
end
def rI2 (bs:List Int) (s:RS):Int × RS:=(if (1099511627776:Int) < (rU bs s).1 then -1 else (rU bs s).1,(rU bs s).2)
theorem ycB {bs:List Int} {s:RS} {n:Nat} (hl:bs.length=n) (h:s.1<=n):(rI2 bs s).2.1<=n:=rU_le hl h
theorem fld1 (k u n:Int) (s:ByteArray) (m:Int) (w:World):(Instr.field 188 (.agg (rv k u n s m)) 1).run prog w= .ok (.int .u64 u) w:=by kernel_rfl
theorem fld2 (k u n:Int) (s:ByteArray) (m:Int) (w:World):(Instr.field 188 (.agg (rv k u n s m)) 2).run prog w= .ok (.int .i64 n) w:=by kernel_rfl
theorem fld4 (k u n:Int) (s:ByteArray) (m:Int) (w:World):(Instr.field 188 (.agg (rv k u n s m)) 4).run prog w= .ok (.string s) w:=by kernel_rfl
theorem ybS (g:Nat) (A:Option Addr) (n c:Nat) (bs:List Int) (s:RS) (w:World) (hr:RfS g A n c bs s w) (N:RK bs n c) (hp:s.1<=n):
 Calls prog 113 #[.pointer (some ⟨g,0,none⟩)] w (ybB g A n c bs (.int .i64 (rI2 bs s).1) (rI2 bs s).2 w):=by
 have HC:=lh (rfu_any g A n c bs s w hr N hp);have H:=ycU bs s;unfold rI2;obtain ⟨z,O,M⟩:∃z O,rU bs s=(z,O):=⟨_,_,rfl⟩
 rw [M] at HC H ⊢;dsimp only at H ⊢;have T:=fun w=>fld1 1 z 0 ⟨#[]⟩ 0 w;clear hr M N hp
 by_cases L:(1099511627776:Int) < z
 ·rw [if_pos L];go_enter func113,ntmps113;go_wp2_with (go_at_call 112;(with_reducible refine HC.out.mono ?_);rintro e w1 ⟨rfl,r1,G⟩;have K:=lh r1;have J:=lh G;clear r1 G);go_ret;exact ⟨rfl,K.out,J.out⟩
 ·rw [if_neg L];go_enter func113,ntmps113;go_wp2_with (go_at_call 112;(with_reducible refine HC.out.mono ?_);rintro e w1 ⟨rfl,r1,G⟩;have K:=lh r1;have J:=lh G;clear r1 G);go_ret;exact ⟨by first |rfl |exact ret_int (show wrap64 z=z by unfold wrap64;omega),K.out,J.out⟩
def rEnd (bs:List Int) (s:RS):Int:=if s.2=0/\s.1 < bs.length then 3 else s.2
theorem yct {bs:List Int} {s:RS}:rEnd bs s=0↔(s.2=0/\¬s.1 < bs.length):=by
 unfold rEnd
 split
 ·next h=>exact ⟨fun h2=>absurd h2 de,fun h2=>absurd h.2 h2.2⟩
 ·next h=>exact ⟨fun h2=>⟨h2,fun G=>h ⟨h2,G⟩⟩,fun h2=>h2.1⟩
theorem ydM (g:Nat) (A:Option Addr) (n c:Nat) (bs:List Int) (s:RS) (w:World) (hr:RfS g A n c bs s w) (hn:n<=1000000) (hp:s.1<=n):
 Calls prog 114 #[.pointer (some ⟨g,0,none⟩)] w fun e K=>e= .returned (.tuple #[.int .i64 s.1,.int .i64 (rEnd bs s)])/\Below w.heap.size w K:=by
 have hl:bs.length=n:=hr.2.1;obtain ⟨⟨M,G⟩,_⟩:=hr;have c0:w.cell? ⟨g,0,none⟩=some (.slice A n c):=by rw [cell_of_row w _ _ _ _ _ G];rfl
 have c1:w.cell? ⟨g,1,none⟩=some (.int .i64 s.1):=by rw [cell_of_row w _ _ _ _ _ G];rfl
 have c3:w.cell? ⟨g,3,none⟩=some (.int .i64 s.2):=by rw [cell_of_row w _ _ _ _ _ G];rfl
 clear G;unfold rEnd;rw [hl];clear hl;obtain ⟨p,er⟩:=s;dsimp only at hp c1 c3 ⊢
 by_cases H:er=0
 ·subst H
  by_cases hlt:p < n
  ·rw [if_pos ⟨rfl,hlt⟩];have J:(p:Int) < (n:Int):=by omega
   go_enter func114,ntmps114;go_wp2;go_quiet (fail);go_wp2;go_ret2;exact ⟨rfl,below_drewN bR _⟩
  ·rw [if_neg (fun h=>hlt h.2)];have J:¬(p:Int) < (n:Int):=by omega
   go_enter func114,ntmps114;go_wp2;go_quiet (fail);go_wp2;go_quiet (fail);go_wp2;go_ret2;exact ⟨rfl,below_drewN (below_drewN bR _) _⟩
 ·rw [if_neg (fun h=>H h.1)];have L:(er==0)=false:=by simp [H]
  go_enter func114,ntmps114;go_wp2;go_quiet (fail);go_wp2;go_quiet (fail);go_wp2;go_ret2;exact ⟨rfl,below_drewN (below_drewN bR _) _⟩
theorem rS_er {bs:List Int} {s:RS} (h:s.2≠0):rS bs s=(baNo,s):=rV_er h
theorem rSums_er {bs:List Int} {G:RS} {j:Nat} (h:(rSums bs j G).2.2≠0):∀i,(rSums bs (j+i) G).2=(rSums bs j G).2
 |0=>rfl
 |i+1=>by
  have H:=rSums_er h i;show (rS bs (rSums bs (j+i) G).2).2=_;rw [H,rS_er h]
def RfLPost (g:Nat) (A:Option Addr) (n c:Nat) (bs:List Int) (L:List ByteArray × RS) (w:World) (e:Ending) (w':World):Prop:=
 ∃A5 k5 c5 ys,e= .returned (.slice A5 k5 c5)/\Own fT 9 w' w.heap.size (.slice A5 k5 c5) ys/\(L.2.2=0->ys=L.1)/\RfS g A n c bs L.2 w'/\But (fun k=>k=g) w w'
theorem RfS.up {g:Nat} {A:Option Addr} {n c:Nat} {bs:List Int} {s:RS} {w H:World} {B:Nat} (h:RfS g A n c bs s w) (G:Below B w H) (J:g < B):RfS g A n c bs s H:=by
 obtain ⟨⟨K,h1⟩,h2⟩:=h;exact ⟨⟨K,(G.block _ J).trans h1⟩,h2.up G (Nat.le_of_lt J)⟩
theorem rsl_any (g:Nat) (A:Option Addr) (n c:Nat) (bs:List Int) (s:RS) (m:Nat) (hm:m<=1000) (w:World) (hr:RfS g A n c bs s w) (K:RK bs n c) (hp:s.1<=n):
 Calls prog 115 #[.pointer (some ⟨g,0,none⟩),.int .i64 m] w (RfLPost g A n c bs (rL bs m s) w):=by
 have hl:bs.length=n:=hr.2.1;have ae:=hr.lt;have HC:=lh (fun W (h:RfS g A n c bs s W)=>rfc_any g A n c bs s W h K hp m om);have T:=rC_le (m:=m) hl hp;have N:=yds (bs:=bs) (m:=m) (s:=s);unfold rL;obtain ⟨z,G,hz⟩:∃z s',rC bs m s=(z,s'):=⟨_,_,rfl⟩
 rw [hz] at HC T N ⊢;obtain ⟨k,rfl⟩:∃k:Nat,z=k:=⟨z.toNat,by have:=N.1;dsimp only at this;omega⟩
 have aK:k<=1000:=by have h:=N.2;dsimp only at h;omega
 dsimp only;rw [Int.toNat_natCast];have HS:Hid (∀j W,RfS g A n c bs (rSums bs j G).2 W->Calls prog 112 #[.pointer (some ⟨g,0,none⟩),.int .i64 6,.int .i64 0] W (ybB g A n c bs (.agg (rv 6 0 0 (rS bs (rSums bs j G).2).1 0)) (rS bs (rSums bs j G).2).2 W)):=fun j W h=>yde g A n c bs _ W h K (ydr hl j T);have HGL:=lh ae;obtain ⟨W1,M⟩:∃W1:World,W1=w.alloc (.cells #[] 9):=⟨_,rfl⟩
 have Y:Below w.heap.size w W1:=by rw [M];exact bl
 have ay:=lh (hr.on Y);have HB1:=lh Y;have af:Hid (Own fT 9 W1 w.heap.size (.slice (some ⟨w.heap.size,0,none⟩) 0 0) []):=by show Own _ _ _ _ _ _;rw [M];exact World.ownsRow_lit w #[] 0 nl ya5 rfl
 have HWE:=lh M;obtain ⟨i0,hi,aa,ai,aj⟩:=info_parts Tryz.infoS;have HI:=lh hi;have au:=lh aa;have aC:=lh ai;have aD:=lh aj;have aA:=fun w=>fld2 7 0 (k:Int) ⟨#[]⟩ (m:Int) w;clear hr K hz hp hl T N hi aa ai aj ae hm Y M;go_enter func115,ntmps115;go_upto_region 2 with fail
 rw [<-HWE.out];go_wp2_with (go_at_call 112;(with_reducible refine (HC.out _ ay.out).mono ?_);rintro e w2 ⟨rfl,r2,b2⟩;have R2:=lh r2;have am:But (fun k=>k=g) w w2:=(But.of_below (p:=fun k=>k=g) HB1.out).trans b2 (fun i hi=> .inl hi);have ap:=lh am;have aw:Hid (Own fT 9 w2 w.heap.size (.slice (some ⟨w.heap.size,0,none⟩) 0 0) []):=af.out.butG b2 (fun k K e=>by have h1:=(ol af.out k K).1;have h3:=HGL.out;omega);clear r2 b2 am)
 go_loopw [5,7] (fun u i wr=>∃(j:Nat),j<=k/\i= .int .i64 j/\Hid (Own fT 9 wr w.heap.size u (rSums bs j G).1)/\Hid (RfS g A n c bs (rSums bs j G).2 wr)/\Hid (But (fun k=>k=g) w wr)) (fun _ i _=>k - (intOf i).toNat)
 case atStart=>exact ⟨0,by omega,rfl,aw,R2,ap⟩
 case round=>
  obtain ⟨j,hj,rfl,L,R,HB⟩:=hrel;obtain ⟨⟨pv,hg⟩,_⟩:=R.out;have c3:wr.cell? ⟨g,3,none⟩=some (.int .i64 (rSums bs j G).2.2):=by rw [cell_of_row wr _ _ _ _ _ hg];rfl
  clear hg;have aE:Hid (w.heap.size<=wr.heap.size):=HB.out.size
  by_cases hlt:j < k
  ·have aJ:(j:Int) < (k:Int):=by omega
   by_cases J:(rSums bs j G).2.2=0
   ·have ac:=lh (HS.out j wr R.out);have O:Hid (rSums bs (j+1) G=((rSums bs j G).1++[(rS bs (rSums bs j G).2).1],(rS bs (rSums bs j G).2).2)):=rfl;have ah:Hid ((rSums bs j G).1.length=j):=ycd bs j G;rw [J] at c3;generalize (rS bs (rSums bs j G).2).1=x at ac O;have aq:Hid (((rSums bs j G).1.length+1)*16<=140737488355328):=by show _<=_;rw [ah.out];omega
    have ax:Hid ((rSums bs j G).1.length+1<=maxLen):=by show _<=_;rw [ah.out];unfold maxLen;omega
    have aH:=fun w=>fld4 6 0 0 x 0 w;clear J aA
    go_wp2_with (first
     |((go_at_call 112;(with_reducible refine ac.out.mono ?_);rintro e Z ⟨rfl,r3,b3⟩);(have R3:=lh r3);(have ag:Hid (But (fun k=>k=g) w Z):=HB.out.trans b3 (fun i hi=> .inl hi));(have ao:Hid (Own fT 9 Z w.heap.size u5 (rSums bs j G).1):=L.out.butG b3 (fun k K e=>by have h1:=(ol L.out k K).1;have h3:=HGL.out;omega));(have ak:Hid (w.heap.size<=Z.heap.size):=ag.out.size);clear r3 b3 c3)
     |((with_reducible refine ybk (o:=⟨some 30,_,_,_,_,_⟩) rfl (.tmp 25) (.tmp 29) 24 rfl 9 i0 (.string ⟨#[]⟩) 16 underlying24 HI.out au.out aC.out aD.out rfl _ (rSums bs j G).1 w.heap.size rfl ao.out x 1 rfl fT1 aq.out ax.out ak.out ?_);intro v1 w4 ar az aI))
    have H:Below w.heap.size Z w4:=ybe az.out (fun k K=>(ol ao.out k K).1) ak.out;go_roundw;case rel=>exact ⟨j+1,by omega,by go_num,by rw [O.out];exact ar,by rw [O.out];exact R3.out.up H HGL.out,ag.out.trans (show But (fun k=>w.heap.size<=k) Z w4 from ⟨H.os,H.tape,H.output,H.size,fun i hi aF=>H.block i om⟩) (fun i hi=> .inr hi)⟩
    case measure=>simp [intOf];omega
   ·have aG:((rSums bs j G).2.2==0)=false:=by simp [J]
    have HE:Hid ((rSums bs k G).2=(rSums bs j G).2):=by
     have:=rSums_er J (k - j);rw [show j+(k - j)=k by omega] at this;exact this
    obtain ⟨A5,c5,U,_,_,_⟩:=L.out.shape;have aB:Hid ((rSums bs k G).2.2≠0):=by show _≠_;rw [HE.out];exact J
    rw [U] at L;subst U;clear J;go_wp2;go_ret;exact ⟨A5,_,c5,(rSums bs j G).1,rfl,L.out,fun h=>absurd h aB.out,by rw [HE.out];exact R.out,HB.out⟩
  ·obtain rfl:j=k:=by omega
   obtain ⟨A5,c5,U,_,_,_⟩:=L.out.shape;rw [U] at L;subst U;go_wp2;go_ret;exact ⟨A5,_,c5,(rSums bs j G).1,rfl,L.out,fun _=>rfl,R.out,HB.out⟩
theorem rSums_ok {bs:List Int} {s:RS}:∀ {k:Nat},(rSums bs k s).2.2=0->s.2=0
 |0,h=>h
 |k+1,h=>rSums_ok (k:=k) (rV_ok (show (rV (rSums bs k s).2 baNo (tkF bs 32 (rSums bs k s).2.1)).2.2=0 from h)).1
theorem rL_ok {bs:List Int} {m:Nat} {s:RS} (h:(rL bs m s).2.2=0):s.2=0:=(rV_ok (show (rV s 0 (limF m (numF bs 10 0 0 s.1))).2.2=0 from rSums_ok h)).1
theorem ycC {bs:List Int} {s:RS} (h:(rI2 bs s).2.2=0):s.2=0:=(rV_ok (show (rV s 0 (numF bs 10 0 0 s.1)).2.2=0 from h)).1
theorem rL_len {bs:List Int} {m:Nat} {s:RS} (hm:m<=1000000):(rL bs m s).1.length<=1000000:=by
 unfold rL;rw [ycd];have:=(yds (bs:=bs) (m:=m) (s:=s)).2;omega
