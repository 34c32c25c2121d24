/- Plainly: what the law of forgetful devices sees in its views. Plainly: who is accused and named in the law's views. What the views of the law Forgets answer, plainly. -/
import Derived.Test.YtpdledjgbgalcaaGreatDoorPqa
import Derived.Test.YtpdledjgbgalcaaGreatDoorPs
import Derived.Test.YtpdledjgbgalcaaGreatDoorPu
namespace Go.Proofs.YtpdledjgbgalcaaGreatDoor
open Go.RowKit Go.Lib
set_option linter.unusedVariables false
set_option linter.unusedSimpArgs false
def acA (st:ByteArray) (n sr:Nat):Ac:=⟨0,1,3,rcS st n sr (lfF st n sr) nH nH nH,st,0,txF 110,txF 97,[],ptF st n sr,[]⟩
theorem acX_enA {st:ByteArray} {n sr:Nat} (hst:st.size=32) (h1:1≤n) (h2:n≤65536) (h3:sr≤255) (bd:Hd):acX (enA st n sr bd)=acA st n sr:=by
 have hv:=rcS_ok hst h1 h2 h3 nH nH nH;obtain ⟨g0,g1,g2,g3,g4⟩:=encAc_read (st:=st) (ix:=0) (no:=txF 110) (an:=txF 97) hv hst om (ybT om) (ybT om);obtain ⟨k0,k1,k2,k3,k4⟩:=encRc_read hv;unfold acX enA acF;dsimp only;unfold bsA;rw [if_pos rfl,if_pos de,if_pos g0,g1,g2,g3,g4,k1,k2,k3,k4]
 rfl
theorem sgn_ok (st:ByteArray) (n sr:Nat):sgR 2 (btS (lfF st n sr) 1) 0 (ptF st n sr) []=pkF (sdF sr):=by
 unfold sgR pkF ptF prF
 show leafS (sB (pubF 2 (dgF 2 (sB (btS (lfF st n sr) 1))) (sgnF (dgF 2 (sB (btS (lfF st n sr) 1))) (strF (sedF (sdF sr) 0) 133) 133)))=_
 have h:=pub_sgn (ds:=dgF 2 (sB (btS (lfF st n sr) 1))) (ss:=strF (sedF (sdF sr) 0) 133) (fun d hd=>by have:=dgF_rng 2 _ d hd;simpa using this) (by rw [dg2_len,ybS]);rw [ybS] at h;rw [h]
theorem cn_ok {st:ByteArray} {n sr:Nat} (hst:st.size=32) (h1:1≤n) (h2:n≤65536) (h3:sr≤255) (wr:Hd):cnF (pksF sr) 2 0 [vtA wr] (acA st n sr)=true:=by
 have hv:=rcS_ok hst h1 h2 h3 (nHd []) (nHd (ptF st n sr)) (nHd []);have hR:rHd (rcS st n sr (lfF st n sr) nH nH nH) (nHd []) (nHd (ptF st n sr)) (nHd [])=rcS st n sr (lfF st n sr) (nHd []) (nHd (ptF st n sr)) (nHd []):=rfl;unfold cnF acA;dsimp only;rw [hR];unfold cnB;have e1:numB 1 3=true:=by decide
 have e2:tkB st 0 (txF 110) (txF 97)=true:=by
  unfold tkB idB;rw [ybT om,ybT om];simp [hst]
 have e3:fiV (rcS st n sr (lfF st n sr) (nHd []) (nHd (ptF st n sr)) (nHd [])).vt [vtA wr]=some (vtA wr):=rfl;rw [e1,e2,e3]
 have e4:rvB ((pksF sr).getD 2 ⟨#[]⟩) 2 0 (rcS st n sr (lfF st n sr) (nHd []) (nHd (ptF st n sr)) (nHd [])) [] (ptF st n sr) []=true:=by
  unfold rvB;rw [hv]
  have f1:mvB (leafS (encS (rcS st n sr (lfF st n sr) (nHd []) (nHd (ptF st n sr)) (nHd [])))) 0 1 [] (lfF st n sr)=true:=by
   unfold mvB;simp [upF]
   rfl
  have f2:sgF 2 0 0 133 0=true:=by decide
  have f3:=sgn_ok st n sr
  show (true&&(mvB (leafS (encS (rcS st n sr (lfF st n sr) (nHd []) (nHd (ptF st n sr)) (nHd [])))) 0 1 [] (lfF st n sr)&&(sgF 2 0 0 (ptF st n sr).length 0&&decide (sgR 2 (btS (lfF st n sr) 1) 0 (ptF st n sr) []=pkF (sdF sr)))))=true
  rw [f1,ptF_len,f2,f3];simp
 show (true&&(true&&(decide (st=st)&&(decide ((0:Int)=0)&&wvB (pksF sr) 2 0 (vtA wr) 1 (rcS st n sr (lfF st n sr) (nHd []) (nHd (ptF st n sr)) (nHd [])) [] (ptF st n sr) []))))=true
 unfold wvB;have e5:(rcS st n sr (lfF st n sr) (nHd []) (nHd (ptF st n sr)) (nHd [])).hd.toNat=2:=rfl;rw [e5,e4];simp [vtA,rcS,pksF]
theorem dmV_enc {q:Nat} {xs:List Int} (hv:ya5 xs=true) (hq:q≤11):dmV ((q:Int)::encV xs)=some ((q:Int),nrm xs):=by
 have h1:rU ((q:Int)::encV xs) (0,0)=((q:Int),1,0):=by
  unfold rU;simp [rV,numF_small (show q < 128 by omega)]
 unfold dmV;rw [h1];dsimp only;rw [if_pos ⟨rfl,by omega⟩]
 show (decV (encV xs)).map _=_
 rw [decV_enc xs hv]
 rfl
def enM (q:Nat) (xs:List Int) (bd:Hd):EnR:=⟨2,1,9,0,bd,⟨#[]⟩,(q:Int)::encV xs⟩
theorem mtX_enM {q:Nat} {xs:List Int} (hv:ya5 xs=true) (hq:q≤11) (bd:Hd):mtX (enM q xs bd)=⟨0,q,nrm xs⟩:=by
 unfold mtX mtD enM;dsimp only;rw [if_pos rfl,dmV_enc hv hq]
def enC (dv sq:Int) (st:ByteArray) (xs:List Int) (bd:Hd):EnR:=⟨dv,sq,7,0,bd,⟨#[]⟩,encA 1 3 st 0 xs [st]⟩
theorem cg_one {x:Vw} {l:List EnR} {vs:List VtR} {pubs drs:List ByteArray} {ae:EnR} {ac:Ac} (hu:UnE (ae::l)) (hk:ae.k=6) (ha:acX ae=ac) (he:ac.er=0) (hl:∀e∈l,e.k≠6) {t:Bool} (ht:opV x (ae::l) vs pubs drs ac=t):
 frE (ae::l)=ae::l∧cgL (opV x (ae::l) vs pubs drs) (ae::l)=if t=true then [(ac,ae)] else []:=by
 have h1:frE (ae::l)=ae::l:=by
  have:=frE_app (es:=[]) hu (fun e _ b hb=>by cases hb)
  simpa [frE_nil] using this
 refine ⟨h1,?_⟩
 have h2:∀op:Ac→Bool,l.filterMap (cgE op)=[]:=fun op=>by
  rw [List.filterMap_eq_nil_iff];intro e he';unfold cgE;rw [if_neg (fun g=>hl e he' g.1)]
 unfold cgL;rw [List.filterMap_cons,h2];unfold cgE;rw [ha,ht]
 cases t
 ·simp
 ·simp [hk,he]
theorem aq_own {xs:List Int} {st:ByteArray} {sr:Nat} (hst:leafS xs=st) (h1:1≤xs.length) (h2:xs.length≤200):aqB (rcS st xs.length sr (lfF st xs.length sr) nH nH nH) st 0 xs [st]=true:=by
 have hs:st.size=32:=by rw [←hst];exact ybI _
 have e1:blkU (xs.length+1) xs=[leafS xs]:=by
  cases xs with
  |nil=>simp at h1
  |cons z zs=>
   rw [blkU]
   have:∀k,blkU k ([]:List Int)=[]:=fun k=>by cases k<;>rfl
   have h3:(z::zs).length≤512:=by omega
   rw [if_neg sI,List.take_of_length_le h3,List.drop_of_length_le h3,this]
 have e2:∀y:ByteArray,rootF 256 [y]=y:=fun y=>rfl
 unfold aqB vrB al32;rw [e1,e2,e2,hst];simp [rcS,hs];omega
theorem op_open {x:Vw} {l:List EnR} {wr bd:Hd} {drs:List ByteArray} {st:ByteArray} {n sr:Nat} (hx:x.b=2∧x.h=0) (hst:st.size=32) (h1:1≤n) (h2:n≤65536) (h3:sr≤255) (hf:frE (enA st n sr bd::l)=enA st n sr bd::l) (hd:drs=[]) (hp:l.filterMap (fun e=>pcE aqX e 1 3 2)=[]):
 opV x (enA st n sr bd::l) [vtA wr] (pksF sr) drs (acA st n sr)=true:=by
 subst hd;unfold opV opF;rw [hf,hx.1,hx.2,cn_ok hst h1 h2 h3 wr]
 have e1:pcsE aqX (enA st n sr bd::l) (acA st n sr).d (acA st n sr).q (acA st n sr).R.hd=[]:=by
  show pcsE aqX (enA st n sr bd::l) 1 3 2=[]
  unfold pcsE;rw [List.filterMap_cons,hp];unfold pcE;rw [if_neg (fun g=>absurd g.1 (show ¬((6:Int)=7) by decide))]
 rw [e1]
 rfl
theorem op_shown {x:Vw} {l:List EnR} {vs:List VtR} {pubs drs:List ByteArray} {st:ByteArray} {xs:List Int} {sr:Nat} {bd:Hd} (hst:leafS xs=st) (h1:1≤xs.length) (h2:xs.length≤200) (hf:frE (enA st xs.length sr bd::l)=enA st xs.length sr bd::l) (hp:(⟨st,0,xs,[st]⟩:PcX)∈l.filterMap (fun e=>pcE aqX e 1 3 2)):
 opV x (enA st xs.length sr bd::l) vs pubs drs (acA st xs.length sr)=false:=by
 unfold opV opF opB;rw [hf]
 have e1:(pcsE aqX (enA st xs.length sr bd::l) (acA st xs.length sr).d (acA st xs.length sr).q (acA st xs.length sr).R.hd).any (fun p=>aqB (acA st xs.length sr).R p.st p.ix p.xs p.ys)=true:=by
  rw [List.any_eq_true];refine ⟨⟨st,0,xs,[st]⟩,?_,aq_own hst h1 h2⟩
  show _∈pcsE aqX (enA st xs.length sr bd::l) 1 3 2
  unfold pcsE;rw [List.filterMap_cons];unfold pcE at hp ⊢;rw [if_neg (fun g=>absurd g.1 (show ¬((6:Int)=7) by decide))];exact hp
 rw [e1];simp
theorem op_dropped {x:Vw} {es:List EnR} {vs:List VtR} {pubs:List ByteArray} {st:ByteArray} {n sr:Nat}:opV x es vs pubs [st] (acA st n sr)=false:=by
 unfold opV opF opB drB;simp [acA,rcS]
theorem pcE_M (q:Nat) (xs:List Int) (bd:Hd) (d s y:Int):pcE aqX (enM q xs bd) d s y=none:=by
 unfold pcE;rw [if_neg (fun g=>absurd g.1 (show ¬((9:Int)=7) by decide))]
theorem aqX_C {dv sq:Int} {xs:List Int} {st:ByteArray} {bd:Hd} (sr:Nat) (hst:leafS xs=st) (h1:1≤xs.length) (h2:xs.length≤200):aqX (enC dv sq st xs bd)=⟨0,1,3,⟨st,0,xs,[st]⟩⟩:=by
 have h:=aqX_enc (dv:=dv) (sq:=sq) (dy:=0) (d:=1) (q:=3) (bd:=bd) (pr:=⟨#[]⟩) (by decide:numB 1 3=true) (aq_own (sr:=sr) hst h1 h2);exact h
theorem pcE_C {xs:List Int} {st:ByteArray} {bd:Hd} (sq:Int) (sr:Nat) (hst:leafS xs=st) (h1:1≤xs.length) (h2:xs.length≤200):pcE aqX (enC 2 sq st xs bd) 1 3 2=some ⟨st,0,xs,[st]⟩∧pcE aqX (enC 1 sq st xs bd) 1 3 2=none:=by
 unfold pcE;rw [aqX_C sr hst h1 h2,aqX_C sr hst h1 h2];refine ⟨by simp [enC],by simp [enC]⟩
theorem mts_one {l r:List EnR} {q:Nat} {xs:List Int} {bd:Hd} (hv:ya5 xs=true) (hq:q≤11) (hl:∀e∈l,e.k≠9) (hr:∀e∈r,e.k≠9):mtsE mtX (l++enM q xs bd::r) 2=[(enM q xs bd,nrm xs)]:=by
 have h0:∀l:List EnR,(∀e∈l,e.k≠9)→l.filterMap (fun e=>mtE mtX e 2)=[]:=fun l hl=>by
  rw [List.filterMap_eq_nil_iff];intro e he;unfold mtE;rw [if_neg (fun g=>hl e he g.1)]
 unfold mtsE;rw [List.filterMap_append,h0 l hl,List.filterMap_cons,h0 r hr];unfold mtE;rw [mtX_enM hv hq];simp [enM]
theorem ak_of {e:EnR} {v:List Int} (t:Bool) (h:cvB v 1 3=t):akF [(e,v)] 1 3=if t=true then some e else none:=by
 unfold akF
 cases t
 ·simp [h]
 ·simp [h]
theorem cv_met (more:Nat) (hm:more≤255):cvB (nrm [0,3+(more:Int)]) 1 3=true∧ya5 [0,3+(more:Int)]=true:=by
 have h1:¬(3+(more:Int)=0):=by omega
 have h2:nrm [0,3+(more:Int)]=[0,3+(more:Int)]:=by
  unfold nrm;simp [nlen,h1]
 have h3:ya5 [0,3+(more:Int)]=true:=by
  simp [ya5,inR];omega
 refine ⟨?_,h3⟩;rw [h2];unfold cvB;rw [h3];simp [devB,gv];omega
theorem ydQ:cvB (nrm [9,2]) 1 3=false∧ya5 [9,2]=true:=by decide
theorem hdL_two:hdL (fun d=>decide (2=d))=[2]:=by decide
theorem hdL_nil:hdL (fun _=>false)=[]:=by decide
theorem hd_one (st:ByteArray) (n sr:Nat):hdL (hdB [acA st n sr])=[2]∧hdL (hdB [])=[]:=by
 refine ⟨?_,by decide⟩
 have:hdB [acA st n sr]=fun d=>decide (2=d):=by funext d;simp [hdB,acA,rcS]
 rw [this];exact hdL_two
theorem nm_one (st:ByteArray) (n sr:Nat) (ml:Int→List (EnR × List Int)) (t:Bool) (h:(akF (ml 2) 1 3).isSome=t):hdL (nmB [] ml [acA st n sr])=(if t=true then [2] else [])∧hdL (nmB [] ml [])=[]:=by
 refine ⟨?_,?_⟩
 ·have:nmB [] ml [acA st n sr]=fun d=>decide (2=d)&&t:=by
   funext d
   show (fkB [] d||apB ml [acA st n sr] d)=_
   unfold apB;simp [fkB]
   show (decide (2=d)&&(akF (ml 2) 1 3).isSome)=_
   rw [h]
  rw [this]
  cases t
  ·simp;exact hdL_nil
  ·simp;exact hdL_two
 ·have:nmB [] ml []=fun _=>false:=by funext d;simp [nmB,fkB,apB]
  rw [this];exact hdL_nil
theorem sees {x:Vw} {l:List EnR} {wr bd:Hd} {drs:List ByteArray} {st:ByteArray} {n sr:Nat} (hst:st.size=32) (h1:1≤n) (h2:n≤65536) (h3:sr≤255) (hu:UnE (enA st n sr bd::l)) (hl:∀e∈l,e.k≠6) {t:Bool} (ht:frE (enA st n sr bd::l)=enA st n sr bd::l→opV x (enA st n sr bd::l) [vtA wr] (pksF sr) drs (acA st n sr)=t):
 frE (enA st n sr bd::l)=enA st n sr bd::l∧cgL (opV x (enA st n sr bd::l) [vtA wr] (pksF sr) drs) (frE (enA st n sr bd::l))=(if t=true then [(acA st n sr,enA st n sr bd)] else [])∧opnV x (enA st n sr bd::l) [vtA wr] (pksF sr) drs=(if t=true then [acA st n sr] else []):=by
 have hf:frE (enA st n sr bd::l)=enA st n sr bd::l:=by
  have:=frE_app (es:=[]) hu (fun e _ b hb=>by cases hb)
  simpa [frE_nil] using this
 have h:=(cg_one (x:=x) (vs:=[vtA wr]) (pubs:=pksF sr) (drs:=drs) hu rfl (acX_enA hst h1 h2 h3 bd) rfl hl (ht hf)).2;refine ⟨hf,by rw [hf];exact h,?_⟩;unfold opnV;rw [hf,h]
 cases t<;>rfl
theorem mts_none {l:List EnR} (hl:∀e∈l,e.k≠9):mtsE mtX l 2=[]:=by
 unfold mtsE
 have h0:l.filterMap (fun e=>mtE mtX e 2)=[]:=by
  rw [List.filterMap_eq_nil_iff];intro e he;unfold mtE;rw [if_neg (fun g=>hl e he g.1)]
 rw [h0]
section
variable {x:Vw} {wr bd:Hd} {st:ByteArray} {n sr:Nat}
theorem see_v (hb:x.b=2∧x.h=0) (hst:st.size=32) (h1:1≤n) (h2:n≤65536) (h3:sr≤255):
 hdL (hdB (opnV x [enA st n sr bd] [vtA wr] (pksF sr) []))=[2]∧hdL (nmB [] (mtsE mtX (frE [enA st n sr bd])) (opnV x [enA st n sr bd] [vtA wr] (pksF sr) []))=[]:=by
 obtain ⟨hf,_,ho⟩:=sees (x:=x) (l:=[]) (wr:=wr) (bd:=bd) (drs:=[]) (t:=true) hst h1 h2 h3 (by unfold UnE;simp) (fun e he=>by cases he) (fun hf=>op_open hb hst h1 h2 h3 hf rfl rfl);rw [ho,hf,if_pos rfl];refine ⟨(hd_one st n sr).1,?_⟩
 have:=(nm_one st n sr (mtsE mtX [enA st n sr bd]) false (by rw [mts_none (fun e he=>by rw [List.mem_singleton.1 he];show ¬((6:Int)=9);decide)];rfl)).1
 simpa using this
theorem see_early (hb:x.b=2∧x.h=0) (hst:st.size=32) (h1:1≤n) (h2:n≤65536) (h3:sr≤255) {pr:Nat} (hp:pr≤11) (b:Hd):
 hdL (nmB [] (mtsE mtX (frE [enA st n sr bd,enM pr [9,2] b])) (opnV x [enA st n sr bd,enM pr [9,2] b] [vtA wr] (pksF sr) []))=[]:=by
 obtain ⟨hf,_,ho⟩:=sees (x:=x) (l:=[enM pr [9,2] b]) (wr:=wr) (bd:=bd) (drs:=[]) (t:=true) hst h1 h2 h3 (by unfold UnE;simp [enA,enM]) (fun e he=>by rw [List.mem_singleton.1 he];show ¬((9:Int)=6);decide) (fun hf=>op_open hb hst h1 h2 h3 hf rfl (by simp [pcE_M]));rw [ho,hf,if_pos rfl];have hm:mtsE mtX [enA st n sr bd,enM pr [9,2] b] 2=[(enM pr [9,2] b,nrm [9,2])]:=mts_one (l:=[enA st n sr bd]) (r:=[]) ydQ.2 hp (fun e he=>by rw [List.mem_singleton.1 he];show ¬((6:Int)=9);decide) (fun e he=>by cases he)
 have:=(nm_one st n sr (mtsE mtX [enA st n sr bd,enM pr [9,2] b]) false (by rw [hm,ak_of false ydQ.1];rfl)).1
 simpa using this
theorem see_other (hb:x.b=2∧x.h=0) {xs:List Int} (hx:leafS xs=st) (hl:xs.length=n) (hst:st.size=32) (h1:1≤n) (h2:n≤200) (h3:sr≤255) {pr more:Nat} (hp:pr≤11) (hm:more≤255) (b c:Hd):
 hdL (nmB [] (mtsE mtX (frE [enA st n sr bd,enM pr [0,3+(more:Int)] b,enC 1 4 st xs c])) (opnV x [enA st n sr bd,enM pr [0,3+(more:Int)] b,enC 1 4 st xs c] [vtA wr] (pksF sr) []))=[2]:=by
 obtain ⟨hf,_,ho⟩:=sees (x:=x) (l:=[enM pr [0,3+(more:Int)] b,enC 1 4 st xs c]) (wr:=wr) (bd:=bd) (drs:=[]) (t:=true) hst h1 om h3 (by unfold UnE;simp [enA,enM,enC]) (fun e he=>by
  simp only [List.mem_cons,List.not_mem_nil,or_false] at he;rcases he with rfl |rfl
  ·show ¬((9:Int)=6);decide
  ·show ¬((7:Int)=6);decide) (fun hf=>op_open hb hst h1 om h3 hf rfl (by simp [pcE_M,(pcE_C (xs:=xs) (bd:=c) 4 sr hx om om).2]))
 rw [ho,hf,if_pos rfl];have hv:=cv_met more hm;have hmm:mtsE mtX [enA st n sr bd,enM pr [0,3+(more:Int)] b,enC 1 4 st xs c] 2=[(enM pr [0,3+(more:Int)] b,nrm [0,3+(more:Int)])]:=mts_one (l:=[enA st n sr bd]) (r:=[enC 1 4 st xs c]) hv.2 hp (fun e he=>by rw [List.mem_singleton.1 he];show ¬((6:Int)=9);decide) (fun e he=>by rw [List.mem_singleton.1 he];show ¬((7:Int)=9);decide)
 have:=(nm_one st n sr (mtsE mtX [enA st n sr bd,enM pr [0,3+(more:Int)] b,enC 1 4 st xs c]) true (by rw [hmm,ak_of true hv.1];rfl)).1
 simpa using this
theorem see_shown {xs:List Int} (hx:leafS xs=st) (hl:xs.length=n) (hst:st.size=32) (h1:1≤n) (h2:n≤200) (h3:sr≤255) (m:EnR) (hm:m.k=9∧m.dv=2∧m.sq=1) (c:Hd) (ml:Int→List (EnR × List Int)):
 hdL (nmB [] ml (opnV x [enA st n sr bd,m,enC 2 2 st xs c] [vtA wr] (pksF sr) []))=[]∧hdL (hdB (opnV x [enA st n sr bd,m,enC 2 2 st xs c] [vtA wr] (pksF sr) []))=[]:=by
 obtain ⟨hf,_,ho⟩:=sees (x:=x) (l:=[m,enC 2 2 st xs c]) (wr:=wr) (bd:=bd) (drs:=[]) (t:=false) hst h1 om h3 (by unfold UnE;simp [enA,enC,hm.1,hm.2.1,hm.2.2]) (fun e he=>by
  simp only [List.mem_cons,List.not_mem_nil,or_false] at he;rcases he with rfl |rfl
  ·rw [hm.1];decide
  ·show ¬((7:Int)=6);decide) (fun hf=>by
  have h:=op_shown (x:=x) (l:=[m,enC 2 2 st xs c]) (vs:=[vtA wr]) (pubs:=pksF sr) (drs:=[]) (sr:=sr) (bd:=bd) hx om om;rw [hl] at h
  exact h hf (by rw [List.mem_filterMap];exact ⟨enC 2 2 st xs c,by simp,(pcE_C 2 sr hx om om).1⟩))
 rw [ho,if_neg de];exact ⟨(nm_one st n sr ml _ rfl).2,(hd_one st n sr).2⟩
theorem see_dropped (hst:st.size=32) (h1:1≤n) (h2:n≤65536) (h3:sr≤255) (m:EnR) (hm:m.k=9∧m.dv=2∧m.sq=1):
 hdL (hdB (opnV x [enA st n sr bd,m] [vtA wr] (pksF sr) [st]))=[]:=by
 obtain ⟨hf,_,ho⟩:=sees (x:=x) (l:=[m]) (wr:=wr) (bd:=bd) (drs:=[st]) (t:=false) hst h1 h2 h3 (by unfold UnE;simp [enA,hm.1,hm.2.1,hm.2.2]) (fun e he=>by rw [List.mem_singleton.1 he,hm.1];decide) (fun hf=>op_dropped);rw [ho,if_neg de];exact (hd_one st n sr).2
end
theorem run_litI2 {t e:TypeId} {i:TypeInfo} (ht:Tryz.prog.underlying t=some (.slice e)) (hi:Tryz.prog.info? e=some i) (hz:i.zero=some (.int .i64 0)) (hs:i.size=1) (j k:Int) (w:World):
 (Instr.buildSlice t 2 #[(0,.int .i64 j),(1,.int .i64 k)]).run Tryz.prog w= .ok (.slice (some ⟨w.heap.size,0,none⟩) 2 2) (w.alloc (.cells #[.int .i64 j,.int .i64 k] e)):=by
 have hc:∀v:Value,v.oneCell'=true→v.cells=#[v]:=fun v hv=>by cases v<;>first |rfl |(simp [Value.oneCell'] at hv)
 have hf:Instr.fill (fun i=>some (i,1)) #[Value.int .i64 0,Value.int .i64 0] [(0,.int .i64 j),(1,.int .i64 k)]=some #[.int .i64 j,.int .i64 k]:=by
  simp [Instr.fill,hc (.int .i64 j) rfl,hc (.int .i64 k) rfl]
 have hr:(Array.range 2).map ((Value.int .i64 0).cells[· % (Value.int .i64 0).cells.size]!)=#[Value.int .i64 0,Value.int .i64 0]:=by
  rw [hc (.int .i64 0) rfl];refine Array.ext sI (fun i h1 h2=>?_);simp only [Array.getElem_map];rw [show (#[Value.int .i64 0]:Array Value).size=1 from rfl,Nat.mod_one];have h3:i=0∨i=1:=by simp at h2;omega
  rcases h3 with rfl |rfl<;>rfl
 simp [Instr.buildSlice,run_underlying ht,sizeOf,typeInfo,zeroValue,hi,hz,hs,hr,hf,newRow]
theorem step_litI2 {w:World} {ops:Array Oper} {o:Oper} {a:Act} {K:Act→World→Prop} {Q:Exit→Act→World→Prop} {E:Prop} (hgd:o.guard=none) (t e:TypeId) {x y:Operand} (ho:o.op= .buildSlice t 2 #[(0,x),(1,y)]) (i:TypeInfo) (ht:Tryz.prog.underlying t=some (.slice e)) (hi:Tryz.prog.info? e=some i) (hz:i.zero=some (.int .i64 0)) (hs:i.size=1) (j k:Int) (hx:a.eval x= .int .i64 j) (hy:a.eval y= .int .i64 k)
 (h:∀g w',Hid (Sl I w' w'.heap.size (some ⟨g,0,none⟩) 2 [j,k])→Hid (Below w.heap.size w w')→K (a.put o.dst (.slice (some ⟨g,0,none⟩) 2 2)) w'):if Region.wanted o (yielded ops a.tmps)=true then Oper.wp Tryz.prog o a w K Q else E:=by
 have hw:Region.wanted o (yielded ops a.tmps)=true:=by simp [Region.wanted,hgd]
 rw [if_pos hw];have hrun:=run_litI2 ht hi hz hs j k w;unfold Oper.wp;simp [execOp,ho,hx,hy,hrun,Result.andThen];have hg:(w.alloc (.cells #[.int .i64 j,.int .i64 k] e)).heap[w.heap.size]? =some (.cells #[.int .i64 j,.int .i64 k] e (0,0)):=heap_alloc_new w _;exact h _ _ ⟨rfl,SL.of_block (t:=e) (fr:=(0,0)) (xs:=([j,k]:List Int)) hg (lt_of_block hg)⟩ bl
theorem wpList_litI {ops:Array Oper} {rest:List Oper} {op:Oper} {a:Act} {w:World} {Q:Exit→Act→World→Prop} (hw:Region.wanted op (yielded ops a.tmps)=true) (t e:TypeId) {y:Operand} (ho:op.op= .buildSlice t 1 #[(0,y)]) (i:TypeInfo) (z:Value) (ht:Tryz.prog.underlying t=some (.slice e)) (hi:Tryz.prog.info? e=some i) (hz:i.zero=some z) (hs:i.size=1) (hzs:z.cells.size=1) (k:Int) (hy:a.eval y= .int .i64 k)
 (h:∀g w',Hid (Sl I w' w'.heap.size (some ⟨g,0,none⟩) 1 [k])→Hid (Below w.heap.size w w')→wpList Tryz.prog ops Q rest (a.put op.dst (.slice (some ⟨g,0,none⟩) 1 1)) w'):wpList Tryz.prog ops Q (op::rest) a w:=by
 refine BigFrame.wpList_want hw fun K hK=>?_
 have hrun:=yb1 ht hi hz hs hzs om om (.int .i64 k) rfl w;unfold Oper.wp;simp [execOp,ho,hy,hrun,Result.andThen];have hg:(w.alloc (.cells #[.int .i64 k] e)).heap[w.heap.size]? =some (.cells #[.int .i64 k] e (0,0)):=heap_alloc_new w _;exact hK _ _ (h _ _ ⟨rfl,SL.of_block (t:=e) (fr:=(0,0)) (xs:=([k]:List Int)) hg (lt_of_block hg)⟩ bl)
