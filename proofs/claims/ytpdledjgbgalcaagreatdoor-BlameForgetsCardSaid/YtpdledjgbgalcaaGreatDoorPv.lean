/- The charges of a judge; blame.Open. The library's iterators at this program: maps.Keys and slices.Sorted at int keys (laid by the kit's tools). A set of devices as a map; its keys, sorted; blame.Accused. -/
import Derived.Test.YtpdledjgbgalcaaGreatDoorJ9
import Derived.Shelf.SlIterI.Nil
import Derived.Test.YtpdledjgbgalcaaGreatDoorProg
namespace Go.Proofs.YtpdledjgbgalcaaGreatDoor
set_option maxRecDepth 100000
set_option maxHeartbeats 16000000
open Go.RowKit Go.Lib
set_option linter.unusedVariables false
set_option linter.unusedSimpArgs false
theorem ydm {es:List EnR} {e:EnR} (h:e∈frE es):e∈es:=by
 have key:∀(l acc:List EnR),e∈l.foldl putE acc→e∈acc∨e∈l:=by
  intro l
  induction l with
  |nil=>intro acc h;exact .inl h
  |cons a t ih=>
   intro acc h;rcases ih _ h with h |h
   ·rcases putE_mem h with h |h
    ·exact .inl h
    ·exact .inr (h▸List.mem_cons_self)
   ·exact .inr (List.mem_cons_of_mem _ h)
 rcases key es [] h with h |h
 ·cases h
 ·exact h
theorem ycd (es:List EnR):(frE es).length≤es.length:=by
 have:=ydk es es.length
 rwa [List.take_length] at this
theorem VwIn.more {w:World} {B B':Nat} {x:Vw} {es:List EnR} {vs:List VtR} {pubs drs:List ByteArray} {fks:List Int} (h:VwIn w B x es vs pubs drs fks) (hB:B≤B'):VwIn w B' x es vs pubs drs fks:=
 ⟨⟨h.E.1.more hB,fun e he=>⟨(h.E.2 e he).1.more' hB,(h.E.2 e he).2⟩⟩,⟨h.V.1.more hB,fun v hv=>⟨(h.V.2 v hv).1.more' hB,(h.V.2 v hv).2⟩⟩,h.P.more' hB,h.D.more' hB,h.F.more' hB,h.cs⟩
def VwOk (x:Vw) (es:List EnR):Prop:=x.E.n≤1000∧(x.V.n≤1000∧x.P.n≤1000∧x.D.n≤1000)∧∀e∈es,e.bd.n≤1000000
def opV (x:Vw) (es:List EnR) (vs:List VtR) (pubs drs:List ByteArray):Ac→Bool:=opF drs (pcsE aqX (frE es)) (cnF pubs x.b x.h vs)
theorem pcsE_len (l:List EnR) (d q y:Int):(pcsE aqX l d q y).length≤l.length:=List.length_filterMap_le _ _
theorem ydn (lab:Nat→Rl) (s k kS kM:Nat) (x:Vw) (es:List EnR) (vs:List VtR) (pubs drs:List ByteArray) (fks:List Int) (A:Option Addr) (n c:Nat) (mN mS mM:Lit→Value) (mts:Int→List (EnR × List Int)) (B:Nat) (w:World) (hG:Glob w)
 (hJ:JSt w lab s k kS kM x (frE es) A n c mN mS mM (hasE (frE es)) (pcsE aqX (frE es)) mts) (hV:VwIn w B x es vs pubs drs fks) (hB:B≤w.heap.size) (hk:VwOk x es):
 Calls Tryz.prog 51 #[.pointer (some ⟨s+3,0,none⟩)] w (CgP (opV x es vs pubs drs) (frE es) w):=by
 have hel:es.length=x.E.n:=hV.E.1.1;have hfl:=ycd es;refine charges_any (opV x es vs pubs drs) lab s k kS kM x (frE es) A n c mN mS mM (hasE (frE es)) (pcsE aqX (frE es)) mts B w hJ (fun e he=>⟨hV.E.2 e (ydm he),hk.2.2 e (ydm he)⟩) hB (by have:=hk.1;omega) (fun V hb e he r hr ho=>?_);obtain ⟨b,ho⟩:=ho;have hi:=ho.rcIn;obtain ⟨i1,i2,i3⟩:=acF_int e.k e.dv e.sq e.bs;have hr2:r.a=acF e.k e.dv e.sq e.bs:=hr
 have h0:=jopen_any x es vs pubs drs fks lab s k kS kM (frE es) A n c mN mS mM (hasE (frE es)) (pcsE aqX (frE es)) mts r.a.d r.a.q r.R r.a.st r.a.ix r.a.no r.a.an r.a.ps r.a.qs r.a.rs V.heap.size V (hG.on hb) (hJ.on hb) ((hV.up hb hB).more (Nat.le_trans hB hb.size)) hi.1 nl hk.2.1 hi.2 (by rw [hr2];exact i1) (by rw [hr2];exact i2) (by show int64 r.a.R.hd;rw [hr2];exact i3)
  (pcsE_ok (fun e he=>⟨(hV.E.2 e (ydm he)).2.1,by have h1:=(hV.E.2 e (ydm he)).1.1;have h2:=hk.2.2 e (ydm he);omega⟩)) (by have h1:=pcsE_len (frE es) r.a.d r.a.q r.R.hd;have h2:=hk.1;omega)
 have h5:cnF pubs x.b x.h vs r.a=cnB pubs x.b x.h vs r.a.d r.a.q r.R r.a.st r.a.ix r.a.no r.a.an r.a.ps r.a.qs r.a.rs:=cnB_hd _ _ _ _ _ _ _ _ _ _ _ _ _ _ hi.1.2.1.1 hi.1.2.2.1;unfold opV opF;rw [h5];exact h0
theorem judge_of (x:Vw) (es:List EnR) (vs:List VtR) (pubs drs:List ByteArray) (fks:List Int) (B:Nat) (w:World) (hV:VwIn w B x es vs pubs drs fks) (hB:B≤w.heap.size) (hk:VwOk x es):
 Calls Tryz.prog 50 #[.agg (cVw x)] w (JdP aqX mtX x es w):=
 judge_any aqX mtX x es B w hV.E hB hk.1 (fun e he _=>⟨fun V hb=>aq_any e B V ((hV.E.2 e he).up hb hB) (Nat.le_trans hB hb.size) (hk.2.2 e he),aqF_int e.k e.bs⟩)
  (fun e he _ V hb=>mt_any e B V ((hV.E.2 e he).up hb hB) (Nat.le_trans hB hb.size) (hk.2.2 e he))
def OpR1 (al:List Ac) (w:World) (b:Nat) (wr:World) (v:Value):Prop:=
 Below w.heap.size w wr∧∃rs:List AcR,OwnN fAr 20 39 wr w.heap.size v rs∧(∀r∈rs,ArO wr b r)∧rs.map (·.a)=al
def OpP (al:List Ac) (w:World) (e:Ending) (w':World):Prop:=∃v,e= .returned v∧OpR1 al w w.heap.size w' v
def opnV (x:Vw) (es:List EnR) (vs:List VtR) (pubs drs:List ByteArray):List Ac:=(cgL (opV x es vs pubs drs) (frE es)).map (·.1)
abbrev zCg:Array Value:=#[.int .i64 0,.int .i64 0,.int .i64 0,.int .i64 0,.string ⟨#[]⟩,.int .i64 0,.int .i64 0,.int .i64 0,.int .i64 0,.int .i64 0,.int .i64 0,.string ⟨#[]⟩,.slice none 0 0,.int .i64 0,.slice none 0 0,.slice none 0 0,.string ⟨#[]⟩,.int .i64 0,.string ⟨#[]⟩,.string ⟨#[]⟩,.int .i64 0,.int .i64 0,.int .i64 0,.int .i64 0,.slice none 0 0,.string ⟨#[]⟩]
theorem rangeCg {w:World} {b:Nat} {t:TypeId} {c:CgR} (h:w.heap[b]? =some (.cells (fCg c).toArray t (0,0))):w.rangeAt b 0 (fAr c.r):=fun j v hv=>by
 rw [Nat.zero_add,cell_of_row w b j _ _ _ h,List.getElem?_toArray,List.getElem?_append_left (List.getElem?_eq_some_iff.1 hv).1];exact hv
theorem fCg_all (c:CgR):((fCg c).toArray).all (·.oneCell')=true:=by
 rw [Array.all_eq_true'];intro u hu;exact fCg_one c u (by simpa using hu)
theorem sizeCg (c:CgR):(Tryz.prog.info? 109).map (·.size)=some (fCg c).toArray.size:=by kernel_rfl
theorem sizeCgL (c:CgR):(Tryz.prog.info? 109).map (·.size)=some (fCg c).length:=by kernel_rfl
theorem sizeArL (r:AcR):(Tryz.prog.info? 39).map (·.size)=some (fAr r).length:=by kernel_rfl
theorem open_any (x:Vw) (es:List EnR) (vs:List VtR) (pubs drs:List ByteArray) (fks:List Int) (B:Nat) (w:World) (hG:Glob w) (hV:VwIn w B x es vs pubs drs fks) (hB:B≤w.heap.size) (hk:VwOk x es):
 Calls Tryz.prog 17 #[.agg (cVw x)] w (OpP (opnV x es vs pubs drs) w):=by
 obtain ⟨W1,hW1⟩:∃W1:World,W1=w.alloc (.cells (cVw x) 29):=⟨_,rfl⟩
 have hb1:Below w.heap.size w W1:=by rw [hW1];exact bl
 have hga:W1.heap[w.heap.size]? =some (.cells (cVw x) 29 (0,0)):=by rw [hW1];exact heap_alloc_new w _
 obtain ⟨v0,v1,v2,v3,v4,v5,v6⟩:=ybE hga;have HJU:=lh (judge_of x es vs pubs drs fks B W1 (hV.up hb1 hB) (Nat.le_trans hB hb1.size) hk)
 have HCH:Hid (∀V lab k kS kM A n c mN mS mM,Below W1.heap.size W1 V→JSt V lab W1.heap.size k kS kM x (frE es) A n c mN mS mM (hasE (frE es)) (pcsE aqX (frE es)) (mtsE mtX (frE es))→Calls Tryz.prog 51 #[.pointer (some ⟨W1.heap.size+3,0,none⟩)] V (CgP (opV x es vs pubs drs) (frE es) V)):=fun V lab k kS kM A n c mN mS mM hb hJ=>by
  have h1:Below w.heap.size w V:=hb1.trans (hb.mono hb1.size);exact ydn lab _ k kS kM x es vs pubs drs fks A n c mN mS mM _ B V (hG.on h1) hJ (hV.up h1 hB) (Nat.le_trans hB h1.size) hk
 obtain ⟨i0,z0,hi0,hi1,hi2,hi3,hi4⟩:=ybt Tryz.infoAr;have HI0:=lh hi0;have HI1:=lh hi1;have HI2:=lh hi2;have HI3:=lh hi3;have HI4:=lh hi4;have HB1:=lh hb1;have HWE:=lh hW1;obtain ⟨cl,hcl⟩:∃l,cgL (opV x es vs pubs drs) (frE es)=l:=⟨_,rfl⟩
 have HLN:Hid (cl.length≤1000):=by
  show _≤_
  rw [←hcl];have h1:=cgL_len (opV x es vs pubs drs) (frE es);have h2:=ycd es;have h3:es.length=x.E.n:=hV.E.1.1;have h4:=hk.1;omega
 have HCE:=lh hcl;unfold opnV;rw [hcl];clear hG hV hB hk hb1 hga hi0 hi1 hi2 hi3 hi4 hW1 hcl;go_enter Tryz.func17,Tryz.ntmps17
 go_upto_region 2 with fail
 rw [←HWE.out]
 go_wp2_with (first
  |(go_at_call 50;(with_reducible refine HJU.out.mono ?_);rintro e V2 ⟨rfl,hb2,lab,k,kS,kM,A,n,c,mN,mS,mM,hJ⟩;(have HC2:=lh (HCH.out V2 lab k kS kM A n c mN mS mM hb2 hJ));(have HB2:=lh hb2);clear hb2 hJ)
  |(go_at_call 51;(with_reducible refine HC2.out.mono ?_);rintro e V3 ⟨v,rfl,hb3,cs,ho,hr,hm⟩;(obtain ⟨CA,cc,hv,hc,hps,hlo⟩:=OwnN.shape fCg_len ho);subst hv;(have HPS:=lh hps);(have HRR:=lh hr);(have HMM:Hid (cs.map (fun c=>(c.r.a,c.e))=cl):=hm.trans HCE.out);(have HB3:Hid (Below W1.heap.size W1 V3):=HB2.out.trans (hb3.mono HB2.out.size));(have HS2:Hid (W1.heap.size≤V2.heap.size):=HB2.out.size);(have HCL:Hid (cs.length=cl.length):=by (show _=_;rw [←HMM.out];simp));clear hb3 ho hr hm hc hps hlo))
 clear v0 v1 v2 v3 v4 v5 v6;have HB0:Hid (Below w.heap.size w V3):=HB1.out.trans (HB3.out.mono HB1.out.size);have HR0:Hid (Below V3.heap.size V3 V3):=Below.refl _ _;have hlen:cs.length≤1000:=by have h1:=HLN.out;have h2:=HCL.out;omega
 have HS3:Hid (w.heap.size≤V2.heap.size):=Nat.le_trans HB1.out.size HS2.out
 go_loopw [3,10] (fun v i wr=>∃k:Nat,k≤cs.length∧i= .int .i64 k∧Hid (OpR1 ((cl.take k).map (·.1)) V3 w.heap.size wr v)) (fun _ i _=>cs.length - (intOf i).toNat)
 case atStart=>exact ⟨0,Nat.zero_le _,rfl,HR0.out,[],OwnN.nil,(fun _ h=>by cases h),rfl⟩
 case round=>
  clear HR0;obtain ⟨k,hk,rfl,HR⟩:=hrel;have HBr:Hid (Below V3.heap.size V3 wr):=HR.out.1
  by_cases hlt:k < cs.length
  ·obtain ⟨b,off,c1,rfl,hbB,hc1,hat⟩:=(HPS.out.up HBr.out nl).at_ hlt
   have hkI:(k:Int) < (cs.length:Int):=by omega
   have HG:=lh hc1;have HRA:Hid (wr.rangeAt b (off+k*26) (fCg c1)):=fun j v hv=>by rw [Nat.add_assoc];exact hat j v hv
   have HNO:Hid (ArO wr w.heap.size c1.r):=RcO.low ((HRR.out c1 (List.mem_of_getElem? hc1)).on HBr.out) HS3.out;have HGN:Hid ((wr.alloc (.cells zCg 109)).heap[wr.heap.size]? =some (.cells zCg 109 (0,0))):=heap_alloc_new wr _;obtain ⟨hbw,rs,hr1,hr2,hr3⟩:=HR.out
   have hrl:rs.length≤k:=by
    have h1:rs.length=((cl.take k).map (·.1)).length:=by rw [←hr3];simp
    simp at h1;omega
   have HK1:Hid ((rs.length+1)*248≤140737488355328):=by show _≤_;omega
   have HK2:Hid (rs.length+1≤maxLen):=by show _≤_;unfold maxLen;omega
   have HR1:=lh hr1;have HR2:=lh hr2;have HR3:=lh hr3;have HBW:=lh hbw;clear hat hc1 hr1 hr2 hr3 hbw hrl HR
   go_upto_region 5 with (first
    |(with_reducible refine wpList_load_mid rfl 109 (.tmp 12) rfl b (off+k*26) rfl (fCg c1) _ HRA.out Tryz.underlying109 rfl (sizeCgL c1) ?_)
    |((with_reducible refine yaZ (o:=⟨none,_,_,_,_,_⟩) rfl 109 (.tmp 5) (.tmp 13) rfl wr.heap.size 109 _ _ rfl rfl HGN.out (sizeCg c1) rfl (fCg_all c1) ?_);intro W4 HG4 HB4n;(have HB4:Hid (Below wr.heap.size wr W4):=((Below.refl _ wr).alloc nl (.cells zCg 109)).trans (HB4n.out.below sI (fun i hi=>by subst hi;omega)))))
   have HRC:=lh (rangeCg HG4.out);have HR1b:=lh (HR1.out.on HB4.out);have HNO4:=lh (HNO.out.on HB4.out);have HBW4:=lh (HBW.out.trans (HB4.out.mono HBW.out.size))
   go_wp2_with (first
    |(with_reducible refine wpList_load_mid rfl 39 (.tmp 15) rfl wr.heap.size 0 rfl (fAr c1.r) _ HRC.out Tryz.underlying39 rfl (sizeArL c1.r) ?_)
    |(with_reducible refine ybf (o:=⟨some 17,_,_,_,_,_⟩) rfl 56 (.tmp 16) rfl 39 i0 z0 20 Tryz.underlying56 HI0.out HI1.out HI2.out HI4.out om om (fAr c1.r).toArray rfl rfl ?_)
    |((with_reducible refine ybP (o:=⟨some 18,_,_,_,_,_⟩) (f:=fAr) fAr_len om rfl (.tmp 14) (.tmp 17) 56 rfl 39 i0 z0 248 Tryz.underlying56 HI0.out HI1.out HI2.out HI3.out HI4.out u3 rs V3.heap.size rfl HR1b.out c1.r 1 rfl fAr_one HK1.out HK2.out HBW4.out.size ?_);intro v6 W6 HO6 HG6 HV6))
   go_roundw
   case rel=>exact ⟨k+1,by omega,by go_num,OwnN.below HR1b.out HBW4.out nl HBW4.out.size HG6.out,rs++[c1.r],HO6.out,(fun r hr=>by
    rcases List.mem_append.1 hr with h |h
    ·exact ArO.grown ((HR2.out r h).on HB4.out) HR1b.out HG6.out de
    ·obtain rfl:r=c1.r:=by simpa using h
     exact ArO.grown HNO4.out HR1b.out HG6.out de),by
    have h1:cl[k]? =some (c1.r.a,c1.e):=by rw [←HMM.out,List.getElem?_map,HG.out];rfl
    rw [List.take_add_one,h1,List.map_append,List.map_append,HR3.out]
    rfl⟩
   case measure=>simp [intOf];omega
  ·obtain rfl:k=cs.length:=by omega
   rw [List.take_of_length_le (by have:=HCL.out;omega)] at HR
   go_wp2_with fail
   go_ret;obtain ⟨hbw,rs,hr1,hr2,hr3⟩:=HR.out;exact ⟨_,rfl,HB0.out.trans (hbw.mono HB0.out.size),rs,World.ownsRow.mono hr1 HB0.out.size,hr2,hr3⟩
open Go.Shelf
def Tryz.keysA_ren:Go.Shelf.Ren:=⟨fun |7=>54 |10=>110 |n=>n,fun |23=>111 |26=>3 |3=>4 |28=>114 |0=>0 |27=>113 |33=>181 |4=>4 |n=>n,fun |n=>n⟩
theorem Tryz.keysA:Go.Proofs.SlLaysZI.n7 Tryz.prog Tryz.keysA_ren:={
 mixed:=by kernel_rfl
 f7:=⟨Tryz.f54.name,by decide,Tryz.func54.trans (congrArg some yaV)⟩
 f10:=⟨Tryz.f110.name,by decide,Tryz.func110.trans (congrArg some yaV)⟩
 t0:=Tryz.underlying0
 a0:=Tryz.isAgg0
 z0:=Tryz.sizeOf0
 v0:=Tryz.zeroValue0
 t4:=Tryz.underlying4
 a4:=Tryz.isAgg4
 z4:=Tryz.sizeOf4
 v4:=Tryz.zeroValue4
 t23:=Tryz.underlying111
 a23:=Tryz.isAgg111
 z23:=Tryz.sizeOf111
 v23:=Tryz.zeroValue111
 t26:=Tryz.underlying3
 a26:=Tryz.isAgg3
 z26:=Tryz.sizeOf3
 v26:=Tryz.zeroValue3
 t27:=Tryz.underlying113
 a27:=Tryz.isAgg113
 z27:=Tryz.sizeOf113
 v27:=Tryz.zeroValue113
 t28:=Tryz.underlying114
 a28:=Tryz.isAgg114
 z28:=Tryz.sizeOf114
 v28:=Tryz.zeroValue114
 t33:=Tryz.underlying181
 a33:=Tryz.isAgg181
 z33:=Tryz.sizeOf181
 v33:=Tryz.zeroValue181}
def Tryz.sortedA_ren:Go.Shelf.Ren:=⟨fun |6=>53 |8=>108 |9=>109 |11=>175 |13=>177 |12=>176 |23=>229 |24=>230 |14=>220 |15=>221 |16=>222 |17=>223 |18=>224 |19=>225 |20=>226 |21=>227 |22=>228 |25=>254 |26=>255 |27=>256 |28=>257 |29=>258 |30=>259 |31=>269 |n=>n,fun |26=>3 |28=>114 |24=>27 |0=>0 |3=>3 |37=>247 |48=>250 |50=>93 |4=>4 |40=>284 |39=>283 |45=>287 |5=>5 |9=>9 |51=>310 |55=>279 |57=>321 |58=>317 |33=>181 |n=>n,fun |n=>n⟩
theorem Tryz.sortedA:Go.Proofs.SlLaysZI.n6 Tryz.prog Tryz.sortedA_ren:={
 mixed:=by kernel_rfl
 f6:=⟨Tryz.f53.name,by decide,Tryz.func53.trans (congrArg some yaV)⟩
 f8:=⟨Tryz.f108.name,by decide,Tryz.func108.trans (congrArg some yaV)⟩
 f11:=⟨Tryz.f175.name,by decide,Tryz.func175.trans (congrArg some yaV)⟩
 t0:=Tryz.underlying0
 a0:=Tryz.isAgg0
 z0:=Tryz.sizeOf0
 v0:=Tryz.zeroValue0
 t24:=Tryz.underlying27
 a24:=Tryz.isAgg27
 z24:=Tryz.sizeOf27
 v24:=Tryz.zeroValue27
 t26:=Tryz.underlying3
 a26:=Tryz.isAgg3
 z26:=Tryz.sizeOf3
 v26:=Tryz.zeroValue3
 t28:=Tryz.underlying114
 a28:=Tryz.isAgg114
 z28:=Tryz.sizeOf114
 v28:=Tryz.zeroValue114
 i26:=by kernel_rfl}
open Go.RowKit Go.Lib Go.Maps Go.Sort Go.Shelf
def MapS (w:World) (b n:Nat) (S:Int→Bool):Prop:=∃D:DataW Value,w.ownsMap Tryz.prog 3 RV b n D∧∀x,Maps.has D (.int .i64 x)=S x
theorem MapS.made (w:World):MapS (w.alloc (.map #[] 0)) w.heap.size 0 (fun _=>false):=⟨_,World.ownsMap_made w Tryz.prog _ _,fun _=>rfl⟩
theorem MapS.block {w w':World} {b n:Nat} {S:Int→Bool} (h:MapS w b n S) (hb:w'.heap[b]? =w.heap[b]?):MapS w' b n S:=by
 obtain ⟨D,⟨es,ck,h1,h2⟩,h3⟩:=h;exact ⟨D,⟨es,ck,hb.trans h1,h2⟩,h3⟩
theorem MapS.lt {w:World} {b n:Nat} {S:Int→Bool} (h:MapS w b n S):b < w.heap.size:=by
 obtain ⟨D,h1,_⟩:=h;exact h1.lt
theorem MapS.on {w w':World} {b n:Nat} {S:Int→Bool} (h:MapS w b n S) (hb:Below w.heap.size w w'):MapS w' b n S:=h.block (hb.block _ h.lt)
theorem MapS.mono {w:World} {b n n':Nat} {S:Int→Bool} (h:MapS w b n S) (hn:n≤n'):MapS w b n' S:=by
 obtain ⟨D,h1,h2⟩:=h;exact ⟨D,h1.mono hn,h2⟩
theorem MapS.store {w:World} {b n:Nat} {S:Int→Bool} (h:MapS w b n S) (hn:n < maxLen) {d:Int} (hd:int64 d) (v:Value):
 ∃w',(Instr.mapUpdate 111 (.map (some b)) (.int .i64 d) v).run Tryz.prog w= .ok () w'∧MapS w' b (n+1) (fun x=>S x||decide (x=d))∧w.grownBy w' (some b):=by
 obtain ⟨D,h1,h2⟩:=h;obtain ⟨w',r1,r2,r3⟩:=h1.update (Maps.int_keyed Tryz.underlying3) Tryz.underlying111 hn (kI_of hd) (show RV v=some (.held v,[]) from rfl);refine ⟨w',r1,⟨_,r2,fun x=>?_⟩,r3⟩
 by_cases hx:x=d
 ·subst hx
  rw [Maps.has_put_same h1.isMap ((Maps.int_keyed Tryz.underlying3).key (kI_of hd))];simp
 ·rw [Maps.has_put_other (fun e=>hx (by injection e)),h2 x]
  simp [hx]
theorem sorts_in (m:Nat):AnyZI.SortsIn Tryz.prog Tryz.sortedA_ren Fence.wide m:=
 ⟨fun blk off cap ss W hH hblk hsz=>callsIn_wide.2 (Tryz.slices_Sort_int blk off cap ss W hH hblk hsz),fun p cap W=>callsIn_wide.2 (Tryz.slices_Sort_int_none p cap W)⟩
def NwI (l:List Int) (w:World) (base:Nat) (w0:World) (e:Ending) (w':World):Prop:=∃v,e= .returned v∧Own I 3 w' base v l∧Below w0.heap.size w0 w'
theorem keys_any (b:Nat) (w:World):Calls Tryz.prog 54 #[.map (some b)] w fun e w'=>e= .returned (.func (.func 110) #[] #[.pointer (some ⟨w.heap.size,0,none⟩)])∧w'=w.alloc (.cells #[.map (some b)] 111):=
 (callsIn_wide (n:=6)).1 (AnyZI.keys_in Tryz.keysA Fence.wide 6 trivial rfl (some b) w)
theorem sorted_any (b n:Nat) (S:Int→Bool) (l:List Int) (w:World) (hS:MapS w b n S) (hn:n≤1000) (hp:l.Pairwise (· < ·)) (hm:∀x,x∈l↔S x=true):
 Calls Tryz.prog 53 #[.func (.func 110) #[] #[.pointer (some ⟨w.heap.size,0,none⟩)]] (w.alloc (.cells #[.map (some b)] 111)) (NwI l w w.heap.size w):=by
 obtain ⟨D,hown,hhas⟩:=hS;have hbl:=hown.lt;have hsz:=hown.size_le;refine (callsIn_wide (n:=5)).1 ?_
 have hseq:SeqGives Fence.wide 2 Tryz.prog 110 #[.pointer (some ⟨w.heap.size,0,none⟩)] encZ (fun ss=>ss.Perm (intKeys D)) (Maps.size D) (w.alloc (.cells #[.map (some b)] 111)):=
  AnyZI.keys_gives (ρ:=Tryz.keysA_ren) {Tryz.keysA with} Fence.wide _ trivial rfl om w.heap.size b n D _ sI sI (by
   obtain ⟨es,clock,hb,Ft,hs,hD⟩:=hown
   exact ⟨es,clock,(Below.heap_alloc _ _ b hbl).trans hb,Ft,hs,hD⟩)
 have cS:=AnyZI.sorted_in Tryz.sortedA Fence.wide 5 trivial trivial trivial trivial rfl om (sorts_in _) (enters_of Tryz.func109 yaV rfl) 110 #[.pointer (some ⟨w.heap.size,0,none⟩)] trivial (enters_of Tryz.func110 yaV rfl) _ _ yaS om _ hseq;refine cS.mono ?_;rintro e w' ⟨v,ss,rfl,hperm,hrow,_,hb⟩
 have hl:l.Perm (intKeys D):=by
  have hc:CollectedI D (fun _=>false) l:=⟨hp.imp (fun h=>Int.ne_of_lt h),fun x=>by rw [hm x,hhas x];simp⟩;exact hc.perm hown (Maps.int_keyed Tryz.underlying3) Tryz.underlying3 (fun _=>rfl)
 have hsort:ss.mergeSort (fun x y=>decide (x≤y))=l:=by
  have h1:=mergeSort_of_perm_i (hperm.trans hl.symm);have h2:l.mergeSort leI=l:=List.mergeSort_of_pairwise (hp.imp (fun h=>decide_eq_true (Int.le_of_lt h)));exact h1.trans h2
 rw [hsort] at hrow;have hlen:ss.length=l.length:=(hperm.trans hl.symm).length_eq;rw [hlen] at hrow;exact ⟨v,rfl,ownsRow_base_a hrow sI,((Below.refl _ w).alloc nl _).trans (hb.mono sI)⟩
def hdB (al:List Ac) (d:Int):Bool:=al.any fun a=>decide (a.R.hd=d)
def hdL (S:Int→Bool):List Int:=((List.range 12).map Int.ofNat).filter S
theorem hdL_sorted (S:Int→Bool):(hdL S).Pairwise (· < ·):=by
 refine List.Pairwise.filter _ (List.pairwise_map.2 ((List.pairwise_lt_range).imp fun h=>Int.ofNat_lt.2 h))
theorem hdL_mem {S:Int→Bool} (h:∀x,S x=true→0≤x∧x≤11) (x:Int):x∈hdL S↔S x=true:=by
 unfold hdL;rw [List.mem_filter,List.mem_map]
 constructor
 ·exact fun g=>g.2
 ·intro g
  obtain ⟨h1,h2⟩:=h x g;exact ⟨⟨x.toNat,List.mem_range.2 om,by show (x.toNat:Int)=x;omega⟩,g⟩
theorem acF_hd {k d q:Int} {bs:List Int} (h6:k=6) (h0:(acF k d q bs).er=0):(0≤(acF k d q bs).R.hd∧(acF k d q bs).R.hd≤11)∧numB (acF k d q bs).d (acF k d q bs).q=true:=by
 unfold acF at h0 ⊢;rw [if_pos h6] at h0 ⊢
 split at h0
 ·next h1=>
  split at h0
  ·next h2=>
   rw [if_pos h1,if_pos h2];unfold okT at h2;rw [Bool.and_eq_true] at h2;have h3:=h2.2;unfold okR at h3;rw [Bool.and_eq_true] at h3;exact ⟨(ybD h3.2).1,h1⟩
  ·exact absurd h0 de
 ·exact absurd h0 de
theorem cgL_ok {op:Ac→Bool} {l:List EnR}:∀p∈cgL op l,((0≤p.1.R.hd∧p.1.R.hd≤11)∧numB p.1.d p.1.q=true)∧op p.1=true:=fun p hp=>by
 obtain ⟨e,he,h⟩:=List.mem_filterMap.1 hp;unfold cgE at h
 split at h
 ·next g=>
  injection h with h;subst h;exact ⟨acF_hd g.1 g.2.1,g.2.2⟩
 ·cases h
theorem opnV_hd {x:Vw} {es:List EnR} {vs:List VtR} {pubs drs:List ByteArray} {d:Int} (h:hdB (opnV x es vs pubs drs) d=true):0≤d∧d≤11:=by
 obtain ⟨a,ha,h1⟩:=List.any_eq_true.1 h;obtain ⟨p,hp,rfl⟩:=List.mem_map.1 ha
 have:=(cgL_ok p hp).1.1
 rw [of_decide_eq_true h1] at this;exact this
theorem sizeAr (r:AcR):(Tryz.prog.info? 39).map (·.size)=some ((fAr r).toArray).size:=by kernel_rfl
theorem fAr_all (r:AcR):((fAr r).toArray).all (·.oneCell')=true:=by
 rw [Array.all_eq_true'];intro u hu;exact fAr_one r u (by simpa using hu)
theorem ycN (x:Vw) (es:List EnR) (vs:List VtR) (pubs drs:List ByteArray) (fks:List Int) (B:Nat) (w:World) (hG:Glob w) (hV:VwIn w B x es vs pubs drs fks) (hB:B≤w.heap.size) (hk:VwOk x es):
 Calls Tryz.prog 19 #[.agg (cVw x)] w (NwI (hdL (hdB (opnV x es vs pubs drs))) w w.heap.size w):=by
 obtain ⟨W1,hW1⟩:∃W1:World,W1=(w.alloc (.cells (cVw x) 29)).alloc (.map #[] 0):=⟨_,rfl⟩
 have hb1:Below w.heap.size w W1:=by rw [hW1];exact bl.alloc sI _
 have hga:W1.heap[w.heap.size]? =some (.cells (cVw x) 29 (0,0)):=by rw [hW1];exact (Below.heap_alloc _ _ _ sI).trans (heap_alloc_new w _)
 have hm1:MapS W1 (w.heap.size+1) 0 (fun _=>false):=by
  have:=MapS.made (w.alloc (.cells (cVw x) 29))
  rw [hW1];simpa using this
 obtain ⟨v0,v1,v2,v3,v4,v5,v6⟩:=ybE hga;have HOP:=lh (open_any x es vs pubs drs fks B W1 (hG.on hb1) (hV.up hb1 hB) (Nat.le_trans hB hb1.size) hk);obtain ⟨al,hal⟩:∃l,opnV x es vs pubs drs=l:=⟨_,rfl⟩
 have HHD:Hid (∀d,hdB al d=true→0≤d∧d≤11):=fun d h=>opnV_hd (by rw [hal];exact h)
 have HLN:Hid (al.length≤1000):=by
  show _≤_
  rw [←hal];have h1:=cgL_len (opV x es vs pubs drs) (frE es);have h2:=ycd es;have h3:es.length=x.E.n:=hV.E.1.1;have h4:=hk.1;unfold opnV;simp;omega
 rw [hal] at HOP ⊢;have HB1:=lh hb1;have HWE:=lh hW1;have HM1:=lh hm1;have hmm:= @run_makeMap Tryz.prog;clear hG hV hB hk hb1 hga hW1 hal hm1;go_enter Tryz.func19,Tryz.ntmps19
 go_upto_region 2 with fail
 clear hmm;rw [←HWE.out]
 go_wp2_with (go_at_call 17;(with_reducible refine HOP.out.mono ?_);rintro e V3 ⟨v,rfl,hb3,rs,ho,hr,hm⟩;(obtain ⟨CA,cc,hv,hc,hps,hlo⟩:=OwnN.shape fAr_len ho);subst hv;(have HPS:=lh hps);(have HLO:=lh hlo);(have HMM:=lh hm);(have HB3:=lh hb3);(have HCL:Hid (rs.length=al.length):=by (show _=_;rw [←HMM.out];simp));(have HM3:=lh (HM1.out.on hb3));clear hb3 ho hr hm hc hps hlo)
 clear v0 v1 v2 v3 v4 v5 v6;have HB0:Hid (Below w.heap.size w V3):=HB1.out.trans (HB3.out.mono HB1.out.size);have hlen:rs.length≤1000:=by have h1:=HLN.out;have h2:=HCL.out;omega
 have HS1:Hid (w.heap.size+1 < W1.heap.size):=HM1.out.lt
 go_loopw [10] (fun i wr=>∃k:Nat,k≤rs.length∧i= .int .i64 k∧Hid (But (fun i=>i=w.heap.size+1) V3 wr)∧Hid (MapS wr (w.heap.size+1) k (hdB (al.take k)))) (fun i _=>rs.length - (intOf i).toNat)
 case atStart=>exact ⟨0,Nat.zero_le _,rfl,But.refl _ _,HM3.out⟩
 case round=>
  clear HM3;obtain ⟨k,hk,rfl,HBr,HR⟩:=hrel
  by_cases hlt:k < rs.length
  ·obtain ⟨b,off,r,rfl,hbB,hr1,hat⟩:=HPS.out.at_ hlt
   have hkI:(k:Int) < (rs.length:Int):=by omega
   have HG:=lh hr1;have HAL:Hid (al[k]? =some r.a):=by show _=_;rw [←HMM.out,List.getElem?_map,hr1];rfl
   have hblk:wr.heap[b]? =V3.heap[b]? :=HBr.out.block b hbB (by have h1:W1.heap.size≤b:=HLO.out b rfl;have h2:=HS1.out;omega);have HRA:Hid (wr.rangeAt b (off+k*20) (fAr r)):=fun j v hv=>by rw [Nat.add_assoc];exact (World.cell?_of_block hblk).trans (hat j v hv)
   have HGN:Hid ((wr.alloc (.cells zA 39)).heap[wr.heap.size]? =some (.cells zA 39 (0,0))):=heap_alloc_new wr _
   have HTK:Hid (hdB (al.take (k+1))=fun x=>hdB (al.take k) x||decide (x=r.a.R.hd)):=by
    show _=_
    funext x
    unfold hdB;rw [List.take_add_one,HAL.out,List.any_append];simp [eq_comm]
   have HHR:Hid (int64 r.a.R.hd):=by
    have h1:=HHD.out r.a.R.hd (List.any_eq_true.2 ⟨r.a,List.mem_of_getElem? HAL.out,by simp⟩);exact ⟨Int.le_trans de h1.1,Int.le_trans h1.2 de⟩
   clear hat hr1 hblk
   go_upto_region 5 with (first
    |(with_reducible refine wpList_load_mid rfl 39 (.tmp 12) rfl b (off+k*20) rfl (fAr r) _ HRA.out Tryz.underlying39 rfl (sizeArL r) ?_)
    |((with_reducible refine yaZ (o:=⟨none,_,_,_,_,_⟩) rfl 39 (.tmp 5) (.tmp 13) rfl wr.heap.size 39 _ _ rfl rfl HGN.out (sizeAr r) rfl (fAr_all r) ?_);intro W4 HG4 HB4n;(have HB4:Hid (Below wr.heap.size wr W4):=((Below.refl _ wr).alloc nl (.cells zA 39)).trans (HB4n.out.below sI (fun i hi=>by subst hi;omega)))))
   obtain ⟨z0,z1,z2,z3,z4,z5⟩:=ycm HG4.out;obtain ⟨W5,r5,hm5,hg5⟩:=(HR.out.on HB4.out).store yaS HHR.out (.bool true);have HM5:=lh hm5;have HG5:=lh hg5;clear hm5 hg5
   go_wp2_with fail
   go_roundw
   case rel=>exact ⟨k+1,by omega,by go_num,(HBr.out.trans (But.of_below (p:=fun _=>False) HB4.out) (fun i hi=>hi.elim)).trans (q:=fun i=>i=w.heap.size+1) ⟨HG5.out.os,HG5.out.tape,HG5.out.output,HG5.out.size,fun i hi hne=>HG5.out.block i hi (fun e=>hne (by injection e))⟩ (fun i hi=> .inl hi),by rw [HTK.out];exact HM5.out⟩
   case measure=>simp [intOf];omega
  ·obtain rfl:k=rs.length:=by omega
   rw [List.take_of_length_le (by have:=HCL.out;omega)] at HR;have HSO:=lh (sorted_any (w.heap.size+1) rs.length (hdB al) (hdL (hdB al)) wr HR.out hlen (hdL_sorted _) (hdL_mem HHD.out));have HBw:Hid (Below w.heap.size w wr):=HB0.out.trans (HBr.out.below HB0.out.size (fun i hi=>by subst hi;omega))
   go_wp2_with (first
    |(go_at_call 54;(with_reducible refine (keys_any _ _).mono ?_);rintro e w5 ⟨rfl,rfl⟩)
    |(go_at_call 53;(with_reducible refine HSO.out.mono ?_);rintro e w6 ⟨v,rfl,hv,hb6⟩;(have HV:=lh hv);(have HB6:=lh hb6);clear hv hb6))
   go_ret;exact ⟨v,rfl,World.ownsRow.mono HV.out HBw.out.size,HBw.out.trans (HB6.out.mono HBw.out.size)⟩
