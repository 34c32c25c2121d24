import Derived.Test.YtpdledjgbgalcaaGreatDoorT6
namespace Go.Proofs.YtpdledjgbgalcaaGreatDoor
set_option maxRecDepth 100000
set_option maxHeartbeats 16000000
open Go.RowKit Go.Lib Go.Proofs.Tryz
set_option linter.unusedVariables false
set_option linter.unusedSimpArgs false
theorem sl_bytesRow {w:World} {b:Nat} {t:TypeId} {fr:Nat × Nat} {s:ByteArray} {cap B:Nat} (h:w.heap[b]? =some (.cells (bytesRow s cap) t fr)) (J:b < B):Sl fB w B (some ⟨b,0,none⟩) s.size (sB s):=
 ⟨ybI s,fun _=>⟨b,0,rfl,J,fun k x G=>by
     rw [Nat.zero_add,cell_of_row w b k _ _ _ h];unfold sB at G;rw [List.getElem?_map,Array.getElem?_toList] at G
     have H:k < s.data.size:=by
      rcases Nat.lt_or_ge k s.data.size with c |c
      ·exact c
      ·rw [Array.getElem?_eq_none c] at G;cases G
     rw [Array.getElem?_eq_getElem H] at G;cases G
     exact bytesRow_at s cap k H⟩⟩
theorem wpList_conv_sb {w:World} {ops:Array Oper} {G:List Oper} {o:Oper} {a:Act} {Q:Exit->Act->World->Prop} (H:o.guard=none) (x:Operand) (L:o.op= .convert 9 40 x) (s:ByteArray) (J:a.eval x= .string s)
 (h:∀A c W,Hid (Sl fB W W.heap.size A s.size (sB s))->Hid (s.size<=c)->Hid (Below w.heap.size w W)->wpList prog ops Q G (a.put o.dst (.slice A s.size c)) W):wpList prog ops Q (o::G) a w:=by
 refine wpList_plain H fun _ K=>?_;unfold Oper.wp execOp;simp only [L,J,Sem.run_bind,run_bytes_of_string (P:=prog) w 9 40 5 s underlying9 underlying40 underlying5,Result.andThen_ok];refine K _ _ (h _ _ _ (sl_bytesRow (zy w.drew _) sI) (grownCap_ge w s.size 0 _) ?_);exact (Below.drew bR).alloc nl _
def setAll:Array Value->Nat->List Value->Array Value
 |cs,_,[]=>cs
 |cs,k,v::vs=>setAll (cs.setIfInBounds k v) (k+1) vs
theorem ydA (g:Nat) (t:TypeId):∀(vs:List Value) (o:Nat) (w:World) (G:Array Value),w.heap[g]? =some (.cells G t (0,0))->(w.setCells g o vs).heap[g]? =some (.cells (setAll G o vs) t (0,0))/\But (fun k=>k=g) w (w.setCells g o vs)
 | [],_,w,G,hg=>⟨hg,But.refl _ _⟩
 |v::vs,o,w,G,hg=>by
  have h1:=heap_setCell_same w g o _ _ v hg;have H:But (fun k=>k=g) w (w.setCell ⟨g,o,none⟩ v):=But.setCell (p:=fun k=>k=g) (x:=⟨g,o,none⟩) (But.refl _ _) (.inl rfl) _;have h2:=ydA g t vs (o+1) (w.setCell ⟨g,o,none⟩ v) _ h1;exact ⟨h2.1,H.trans h2.2 (fun i hi=> .inl hi)⟩
theorem ydZ {P:Program} {w:World} {ops:Array Oper} {G:List Oper} {o:Oper} {a:Act} {Q:Exit->Act->World->Prop} (K:o.guard=none) (H:TypeId) (x y:Operand) (N:o.op= .store H x y)
 (b:Nat) (t:TypeId) (k:Nat) (cs vs:Array Value) (L:a.eval x= .pointer (some ⟨b,k,none⟩)) (M:a.eval y= .agg vs) (J:w.heap[b]? =some (.cells cs t (0,0))) (O:k+vs.size<=cs.size) (hi:(P.info? H).map (·.size)=some vs.size)
 (h1:vs.all (·.oneCell')=true)
 (h:∀w',Hid (w'.heap[b]? =some (.cells (setAll cs k vs.toList) t (0,0)))->Hid (But (fun k=>k=b) w w')->wpList P ops Q G (a.put o.dst undef) w'):wpList P ops Q (o::G) a w:=by
 refine wpList_store_mid K H x y N b k vs L M ?_ hi h1 ?_
 ·intro j hj;refine ⟨?_,frozen_of_row w b _ _ _ J⟩;rw [cell_of_row w b _ _ _ _ J,Array.getElem?_eq_getElem om];rfl
 ·have e:=ydA b t vs.toList k w cs J;exact h _ e.1 e.2
theorem Tryz.sizeRA:(prog.info? 50).map (·.size)=some 20:=by kernel_rfl
theorem yed (d q:Int) (r:Rcp) (st:ByteArray) (ix:Int) (no an:ByteArray):(prog.info? 50).map (·.size)=some (cA d q r st ix no an).size:=Tryz.sizeRA
theorem yca:(prog.info? 50).map (·.size)=some zA.size:=Tryz.sizeRA
theorem sizeALR (d q:Int) (R:Rcp) (st:ByteArray) (ix:Int) (no an:ByteArray):(prog.info? 50).map (·.size)=some (cA d q R st ix no an).toList.length:=Tryz.sizeRA
theorem Tryz.sizeTk:(prog.info? 37).map (·.size)=some 4:=by kernel_rfl
theorem sizeTkL (st:ByteArray) (ix:Int) (no an:ByteArray):(prog.info? 37).map (·.size)=some ([.string st,.int .i64 ix,.string no,.string an]:List Value).length:=Tryz.sizeTk
theorem cA_lt {d q:Int} {r:Rcp} {st:ByteArray} {ix:Int} {no an:ByteArray} {k:Nat} (h:k < 20):k < (cA d q r st ix no an).size:=h
theorem cA_rc {d q:Int} {r r':Rcp} {st:ByteArray} {ix:Int} {no an:ByteArray}:2+(cR r').size<=(cA d q r st ix no an).size:=by show 2+14<=20;decide
theorem rangeTk {w:World} {b:Nat} {t:TypeId} {d q:Int} {R:Rcp} {st:ByteArray} {ix:Int} {no an:ByteArray} (h:w.heap[b]? =some (.cells (cA d q R st ix no an) t (0,0))):w.rangeAt b 16 [.string st,.int .i64 ix,.string no,.string an]:=fun j v G=>by
 rw [cell_of_row w b _ _ _ _ h];rcases j with _ |_ |_ |_ |j
 ·exact G
 ·exact G
 ·exact G
 ·exact G
 ·cases G
theorem setAll_cA (d q:Int) (R:Rcp) (st:ByteArray) (ix:Int) (no an:ByteArray):setAll (cA d q zRcp st ix no an) 2 (cR R).toList=cA d q R st ix no an:=by kernel_rfl
theorem ybH {P:Program} {ops:Array Oper} {G:List Oper} {op:Oper} {a:Act} {w:World} {Q:Exit->Act->World->Prop} (L:Region.wanted op (yielded ops a.tmps)=true) (H:TypeId) (x:Operand) (O:op.op= .load H x)
 (b o:Nat) (J:a.eval x= .pointer (some ⟨b,o,none⟩)) (cs:List Value) (d:TypeDesc) (N:w.rangeAt b o cs)
 (K:P.underlying H=some d) (hd:d.isRow=true) (hi:(P.info? H).map (·.size)=some cs.length)
 (h:wpList P ops Q G (a.put op.dst (.agg cs.toArray)) w):wpList P ops Q (op::G) a w:=
 BigFrame.wpList_want L fun _ M=>wp_load_mid H x O b o J cs d N K hd hi (M _ _ h)
def acP22:Array (Nat × Operand):=#[(0,.tmp 19),(1,.tmp 21)]
theorem acB22 (a:Act) (d q:Int) (h0:a.eval (.tmp 19)= .int .i64 d) (h1:a.eval (.tmp 21)= .int .i64 q):prog.built 50 (acP22.map fun (i,x)=>(i,a.eval x)).toList=some (cA d q zRcp ⟨#[]⟩ 0 ⟨#[]⟩ ⟨#[]⟩):=by
 rw [Array.toList_map];show prog.built 50 [(0,a.eval (.tmp 19)),(1,a.eval (.tmp 21))]=_;rw [h0,h1]
 kernel_rfl
theorem racc_no (dv sq k dy:Int) (pr:ByteArray) (A:Option Addr) (n c:Nat) (w:World) (K:k≠6):
 Calls prog 56 #[.agg #[.int .i64 dv,.int .i64 sq,.int .i64 k,.int .i64 dy,.slice A n c,.string pr]] w fun e J=>e= .returned (.tuple #[.agg zA,.int .i64 1])/\Below w.heap.size w J:=by
 have L:(k != 6)=true:=by simp [K]
 obtain ⟨H,G⟩:∃H:World,H=(w.alloc (.cells #[.int .i64 dv,.int .i64 sq,.int .i64 k,.int .i64 dy,.slice A n c,.string pr] 55)).alloc (.cells zA 50):=⟨_,rfl⟩
 have HB1:Hid (Below w.heap.size w H):=by show Below _ _ _;rw [G];exact bl.alloc sI _
 have HG3:Hid (H.heap[w.heap.size+1]? =some (.cells zA 50 (0,0))):=by
  show _=_;rw [G];have:=zy (w.alloc (.cells #[.int .i64 dv,.int .i64 sq,.int .i64 k,.int .i64 dy,.slice A n c,.string pr] 55)) (.cells zA 50);simpa using this
 have HWE:=lh G;clear G;go_enter func56,ntmps56
 go_wp2_with (first
  |((with_reducible refine ybc (o:=⟨none,_,_,_,_,_⟩) rfl 50 (.tmp 2) (.tmp 13) rfl (w.heap.size+1) 50 _ _ rfl rfl ya0 yca rfl ydx ?_);intro M HG7 HB7))
 rw [<-HWE.out] at HB7;refine bodyPost_ret (ybr rfl _ _ _ _ _ _ _ rfl HG7.out underlying50 rfl yca) rfl ⟨rfl,HB1.out.trans (HB7.out.below HB1.out.size (fun i hi=>by subst hi;omega))⟩
def ry1 (bs:List Int):ByteArray × RS:=rT bs 65536 (0,0)
def ry2 (bs:List Int):ByteArray × RS:=rS bs (ry1 bs).2
def ry3 (bs:List Int):Int × RS:=rI2 bs (ry2 bs).2
def ry4 (bs:List Int):ByteArray × RS:=rS bs (ry3 bs).2
def ry5 (bs:List Int):ByteArray × RS:=rS bs (ry4 bs).2
def okY (bs:List Int):Bool:=decide (rEnd bs (ry5 bs).2=0)&&(okX (sB (ry1 bs).1)&&tkB (ry2 bs).1 (ry3 bs).1 (ry4 bs).1 (ry5 bs).1)
def RAPost (d q:Int) (bs:List Int) (w:World) (e:Ending) (w':World):Prop:=
 (((okY bs&&numB d q)=true)/\∃R:Rcp,e= .returned (.tuple #[.agg (cA d q R (ry2 bs).1 (ry3 bs).1 (ry4 bs).1 (ry5 bs).1),.int .i64 0])/\R=rxV (sB (ry1 bs).1) R.pa R.pb R.pc/\RcO w' w.heap.size R (rxA (sB (ry1 bs).1)).1 (rxD (sB (ry1 bs).1)).1 (rxE (sB (ry1 bs).1)).1/\Below w.heap.size w w')
 ∨((okY bs&&numB d q)=false/\e= .returned (.tuple #[.agg zA,.int .i64 3])/\Below w.heap.size w w')
theorem rT_len {bs:List Int} {m:Nat} {s:RS} (J:∀b∈bs,0<=b/\b < 256):(rT bs m s).1.size<=bs.length:=by
 have G:∀k p,(tkF bs k p).1.size<=bs.length:=fun k p=>by
  rw [tkF_eq]
  split
  ·show 0<=_;omega
  ·have h1:=ybI (baOf ((bs.drop p).take k));rw [ybC (fun b H=>J b (List.mem_of_mem_drop (List.mem_of_mem_take H)))] at h1;rw [List.length_take,List.length_drop] at h1;show (baOf ((bs.drop p).take k)).size<=_;omega
 unfold rT rV
 split
 ·split
  ·rw [blkF_eq]
   split
   ·exact G _ _
   ·show 0<=_;omega
  ·show 0<=_;omega
 ·show 0<=_;omega
theorem racc_any (dv sq dy:Int) (pr:ByteArray) (A:Option Addr) (n c B:Nat) (bs:List Int) (w:World) (hx:Sl fB w B A n bs) (hB:B<=w.heap.size) (Z:RK bs n c):
 Calls prog 56 #[.agg #[.int .i64 dv,.int .i64 sq,.int .i64 6,.int .i64 dy,.slice A n c,.string pr]] w (RAPost dv sq bs w):=by
 have hl:bs.length=n:=hx.1;have aE:(0,(0:Int)).1<=n:=Nat.zero_le _;have aX:(ry1 bs).2.1<=n:=rT_le hl aE;have aC:(ry2 bs).2.1<=n:=rS_le hl aX;have aG:(ry3 bs).2.1<=n:=ycB hl aC;have aD:(ry4 bs).2.1<=n:=rS_le hl aG;have bp:(ry5 bs).2.1<=n:=rS_le hl aD;obtain ⟨L,aa⟩:∃L:World,L=(w.alloc (.cells #[.int .i64 dv,.int .i64 sq,.int .i64 6,.int .i64 dy,.slice A n c,.string pr] 55)).alloc (.cells zA 50):=⟨_,rfl⟩
 have bq:Below w.heap.size w L:=by rw [aa];exact bl.alloc sI _
 have ay:L.heap.size=w.heap.size+1+1:=by rw [aa];simp
 have ah:L.heap[w.heap.size]? =some (.cells #[.int .i64 dv,.int .i64 sq,.int .i64 6,.int .i64 dy,.slice A n c,.string pr] 55 (0,0)):=by rw [aa,Below.heap_alloc _ _ _ sI];exact zy w _
 have aS:L.heap[w.heap.size+1]? =some (.cells zA 50 (0,0)):=by
  rw [aa];have:=zy (w.alloc (.cells #[.int .i64 dv,.int .i64 sq,.int .i64 6,.int .i64 dy,.slice A n c,.string pr] 55)) (.cells zA 50);simpa using this
 obtain ⟨H,ae⟩:∃H:World,H=L.alloc (.cells #[.slice A n c,.int .i64 0,.int .i64 0,.int .i64 0] 184):=⟨_,rfl⟩
 have ar:Below L.heap.size L H:=by rw [ae];exact bl
 have aZ:Below w.heap.size w H:=bt bq ar;have a9:H.heap.size=w.heap.size+1+1+1:=by rw [ae];simp [ay]
 obtain ⟨g,aA⟩:∃g,g=L.heap.size:=⟨_,rfl⟩
 have bh:g=w.heap.size+1+1:=aA.trans ay;have bu:H.heap[g]? =some (.cells #[.slice A n c,.int .i64 0,.int .i64 0,.int .i64 0] 184 (0,0)):=by rw [ae,aA];exact zy L _
 have bc:RfS g A n c bs (0,0) H:=⟨⟨0,bu⟩,(hx.up aZ hB).more' om⟩
 have HA:Hid (∀a,A=some a->0 < n->a.block < w.heap.size):=fun a ha h0=>by
  obtain ⟨b,bF,e,hlt,_⟩:=hx.2 om;rw [ha] at e;cases e
  exact Nat.lt_of_lt_of_le hlt hB
 have k4:L.cell? ⟨w.heap.size,4,none⟩=some (.slice A n c):=by rw [cell_of_row L _ _ _ _ _ ah];rfl
 have k2:L.cell? ⟨w.heap.size,2,none⟩=some (.int .i64 6):=by rw [cell_of_row L _ _ _ _ _ ah];rfl
 have ax:=(ar.block _ (lb ah)).trans ah;have bj:Hid (H.cell? ⟨w.heap.size,0,none⟩=some (.int .i64 dv)/\H.cell? ⟨w.heap.size,1,none⟩=some (.int .i64 sq)):=⟨by rw [cell_of_row H _ _ _ _ _ ax];rfl,by rw [cell_of_row H _ _ _ _ _ ax];rfl⟩;have am:Hid (H.heap[w.heap.size+1]? =some (.cells zA 50 (0,0))):=(ar.block _ (lb aS)).trans aS;have HGE:=lh bh;have bn:=lh aA;have ba:=lh bc;have a3:=lh aZ;have bm:=lh a9;have HS1:=lh ay;have HWE:=lh aa;have aP:=lh ae;have aK:=lh ax;have H1:Hid (∀V,RfS g A n c bs (0,0) V->Calls prog 112 #[.pointer (some ⟨g,0,none⟩),.int .i64 4,.int .i64 65536] V (ybB g A n c bs (.agg (rv 4 0 0 (ry1 bs).1 65536)) (ry1 bs).2 V)):=fun V h=>rft_any g A n c bs (0,0) V h Z aE 65536 de;have H2:Hid (∀V,RfS g A n c bs (ry1 bs).2 V->Calls prog 112 #[.pointer (some ⟨g,0,none⟩),.int .i64 6,.int .i64 0] V (ybB g A n c bs (.agg (rv 6 0 0 (ry2 bs).1 0)) (ry2 bs).2 V)):=fun V h=>yde g A n c bs _ V h Z aX;have H4:Hid (∀V,RfS g A n c bs (ry3 bs).2 V->Calls prog 112 #[.pointer (some ⟨g,0,none⟩),.int .i64 6,.int .i64 0] V (ybB g A n c bs (.agg (rv 6 0 0 (ry4 bs).1 0)) (ry4 bs).2 V)):=fun V h=>yde g A n c bs _ V h Z aG;have H5:Hid (∀V,RfS g A n c bs (ry4 bs).2 V->Calls prog 112 #[.pointer (some ⟨g,0,none⟩),.int .i64 6,.int .i64 0] V (ybB g A n c bs (.agg (rv 6 0 0 (ry5 bs).1 0)) (ry5 bs).2 V)):=fun V h=>yde g A n c bs _ V h Z aD;have H3:Hid (∀V,RfS g A n c bs (ry2 bs).2 V->Calls prog 113 #[.pointer (some ⟨g,0,none⟩)] V (ybB g A n c bs (.int .i64 (ry3 bs).1) (ry3 bs).2 V)):=fun V h=>ybS g A n c bs _ V h Z aC;have aB:Hid (∀V,RfS g A n c bs (ry5 bs).2 V->Calls prog 114 #[.pointer (some ⟨g,0,none⟩)] V fun e w'=>e= .returned (.tuple #[.int .i64 (ry5 bs).2.1,.int .i64 (rEnd bs (ry5 bs).2)])/\Below V.heap.size V w'):=fun V h=>ydM g A n c bs _ V h Z.2.1 bp;have N:Hid (okY bs=(decide (rEnd bs (ry5 bs).2=0)&&(okX (sB (ry1 bs).1)&&tkB (ry2 bs).1 (ry3 bs).1 (ry4 bs).1 (ry5 bs).1))):=rfl;have a7:Hid ((ry1 bs).1.size<=1000000):=by show _<=_;have h1:(ry1 bs).1.size<=bs.length:=rT_len Z.1;have:=Z.2.1;omega
 unfold RAPost;generalize ry1 bs=R1 at*;generalize ry2 bs=R2 at*;generalize ry3 bs=R3 at*;generalize ry4 bs=R4 at*;generalize ry5 bs=R5 at*;obtain ⟨bd,s1⟩:=R1;obtain ⟨st,s2⟩:=R2;obtain ⟨ix,s3⟩:=R3;obtain ⟨no,s4⟩:=R4;obtain ⟨an,s5⟩:=R5;dsimp only at H1 H2 H3 H4 H5 aB N a7 ⊢;obtain ⟨er,a5⟩:=gx (rEnd bs s5);rw [a5] at aB N;have be:Hid (∀V A' c',bd.size<=c'->Sl fB V V.heap.size A' bd.size (sB bd)->Calls prog 111 #[.slice A' bd.size c'] V (RRPost (sB bd) V)):=fun V A' c' hc hs=>rrcp_any A' bd.size c' V.heap.size (sB bd) V hs nl ⟨ycw bd,a7.out,hc⟩;have bz:=fun V=>fld4 4 0 0 bd 65536 V;have bD:=fun V=>fld4 6 0 0 st 0 V;have bA:=fun V=>fld4 6 0 0 no 0 V;have bx:=fun V=>fld4 6 0 0 an 0 V;clear a5 hx hB hl Z aE aX aC aG aD bp bq ay ah aS aa ae ar aZ a9 bh aA bu bc ax;go_enter func56,ntmps56;go_upto_region 3 with fail
 rw [<-HWE.out];go_upto_region 4 with fail
 rw [<-aP.out,<-bn.out];obtain ⟨k0,k1⟩:=bj.out;clear k4 k2
 go_upto_region 5 with (first
  |(with_reducible refine ybi (o:=⟨some 22,_,_,_,_,_⟩) rfl 50 acP22 ya9 (cA dv sq zRcp ⟨#[]⟩ 0 ⟨#[]⟩ ⟨#[]⟩) (acB22 _ dv sq rfl rfl) ?_)
  |((with_reducible refine ybc (o:=⟨none,_,_,_,_,_⟩) rfl 50 (.tmp 5) (.tmp 22) rfl H.heap.size 50 zA (cA dv sq zRcp ⟨#[]⟩ 0 ⟨#[]⟩ ⟨#[]⟩) ya9 rfl (zy H _) (yed _ _ _ _ _ _ _) ya9 (ydV _ _ _ _ _ _ _) ?_);intro V3 HG3 aF))
 obtain ⟨a,ha⟩:∃a,a=H.heap.size:=⟨_,rfl⟩
 rw [<-ha] at HG3 aF;have a4:a=w.heap.size+1+1+1:=ha.trans bm.out;have a2:Below H.heap.size H (H.alloc (.cells zA 50)):=bl;have ai:Below H.heap.size H V3:=a2.trans (aF.out.below sI (fun i hi=>by subst hi;omega));have D3:Hid (DF 50 V3 V3 g A n c bs (0,0) a (cA dv sq zRcp ⟨#[]⟩ 0 ⟨#[]⟩ ⟨#[]⟩)):=⟨ba.out.on ai,HG3.out,But.refl _ _,by have:=HGE.out;omega,fun h0 x hx e=>by have:=HA.out x hx h0;omega⟩;have ak:Hid (Below w.heap.size w V3):=bt a3.out ai;have ap:Hid (V3.heap[w.heap.size+1]? =some (.cells zA 50 (0,0))):=(ai.block _ (lb am.out)).trans am.out;have a0:Hid (V3.heap[w.heap.size]? =some (.cells #[.int .i64 dv,.int .i64 sq,.int .i64 6,.int .i64 dy,.slice A n c,.string pr] 55 (0,0))):=(ai.block _ (lb aK.out)).trans aK.out;have HAE:=lh a4;rw [<-ha];clear ha a4 a2 ai HG3 aF k0 k1 bj ba HS1 bm HWE aP bn a3 am aK
 go_upto_region 6 with (first
  |(go_at_call 112;(with_reducible refine (H1.out _ D3.out.rd).mono ?_);rintro e V4 ⟨rfl,r,G⟩;(have D4:=lh (D3.out.read r G));clear r G D3)
  |((with_reducible refine wpList_conv_sb (o:=⟨some 27,_,_,_,_,_⟩) rfl (.tmp 26) rfl bd rfl ?_);intro Ab cb V5 bg bo a8;(have D5:=lh (D4.out.keep a8.out));(have aw:=lh (be.out V5 Ab cb bo.out bg.out));clear bg bo a8 D4)
  |(go_at_call 111;(with_reducible refine aw.out.mono ?_);rintro e V6 ⟨R,rfl,bk,aM⟩;(have D6:=lh (D5.out.keep bk));(have ag:Hid (okX (sB bd)=true->R=rxV (sB bd) R.pa R.pb R.pc/\RcO V6 (a+1) R (rxA (sB bd)).1 (rxD (sB bd)).1 (rxE (sB bd)).1):=fun h=>⟨(aM h).1,(aM h).2.low (lb D5.out.pc)⟩);clear bk aM D5))
 obtain ⟨J,az⟩:∃J:World,J=V6.alloc (.cells (cR R) tR):=⟨_,rfl⟩
 have aJ:Below V6.heap.size V6 J:=by rw [az];exact bl
 have bi:J.heap[V6.heap.size]? =some (.cells (cR R) tR (0,0)):=by rw [az];exact zy V6 _
 have d7:=D6.out.keep aJ;have D7:Hid (DF 50 J J g A n c bs s1 a (cA dv sq zRcp ⟨#[]⟩ 0 ⟨#[]⟩ ⟨#[]⟩)):=⟨d7.rd,d7.pc,But.refl _ _,d7.gb,d7.ab⟩;have ao:Hid (okX (sB bd)=true->R=rxV (sB bd) R.pa R.pb R.pc/\RcO J (a+1) R (rxA (sB bd)).1 (rxD (sB bd)).1 (rxE (sB bd)).1):=fun h=>⟨(ag.out h).1,(ag.out h).2.on aJ⟩;have ac:Hid (But (fun k=>k=g∨k=a) V3 J):=d7.but;have aj:Hid (Below w.heap.size w J):=ak.out.trans (ac.out.below ak.out.size (fun i hi=>by have:=HGE.out;have:=HAE.out;rcases hi with rfl |rfl<;>omega));have aq:Hid (J.heap[w.heap.size+1]? =some (.cells zA 50 (0,0))):=(ac.out.block _ (lb ap.out) yaW).trans ap.out;have aO:Hid (J.heap[w.heap.size]? =some (.cells #[.int .i64 dv,.int .i64 sq,.int .i64 6,.int .i64 dy,.slice A n c,.string pr] 55 (0,0))):=(ac.out.block _ (lb a0.out) yaW).trans a0.out;have HG7:=lh bi;have bE:Hid (a < V6.heap.size):=lb D6.out.pc;rw [<-az];clear az aJ bi d7 D6 ag ac ak ap a0 bz H1 be aw
 go_upto_region 10 with (first
  |(with_reducible refine wpList_load_mid (op:=⟨some 31,_,_,_,_,_⟩) rfl tR (.tmp 6) rfl V6.heap.size 0 rfl (cR R).toList _ (yb3 HG7.out) underlying35 rfl (ybJ R) ?_)
  |((with_reducible refine ydZ (o:=⟨none,_,_,_,_,_⟩) rfl tR (.tmp 32) (.tmp 31) rfl a 50 2 (cA dv sq zRcp ⟨#[]⟩ 0 ⟨#[]⟩ ⟨#[]⟩) (cR R) ya9 ya9 D7.out.pc cA_rc (ycW R) (cR_one R) ?_);intro V8 a6 T;(have Y:Hid (V8.heap[a]? =some (.cells (cA dv sq R ⟨#[]⟩ 0 ⟨#[]⟩ ⟨#[]⟩) 50 (0,0))):=(by rw [<-setAll_cA];exact a6.out:_=_));clear a6;(have D8:Hid (DF 50 J V8 g A n c bs s1 a (cA dv sq R ⟨#[]⟩ 0 ⟨#[]⟩ ⟨#[]⟩)):=D7.out.set Y.out T.out);clear Y T D7)
  |(go_at_call 112;(with_reducible refine (H2.out _ D8.out.rd).mono ?_);rintro e V9 ⟨rfl,r,G⟩;(have D9:=lh (D8.out.read r G));clear r G D8)
  |(go_at_call 113;(with_reducible refine (H3.out _ D9.out.rd).mono ?_);rintro e bI ⟨rfl,r,G⟩;(have aW:=lh (D9.out.read r G));clear r G D9)
  |((with_reducible refine yce (o:=⟨none,_,_,_,_,_⟩) rfl 31 (.tmp 40) (.tmp 38) rfl a 50 16 (cA dv sq R ⟨#[]⟩ 0 ⟨#[]⟩ ⟨#[]⟩) (.string st) (.int .i64 ix) ya9 rfl aW.out.pc (cA_lt de) Tryz.sizePid ya9 ?_);intro bw Y T;(have aI:Hid (DF 50 J bw g A n c bs s3 a (cA dv sq R st ix ⟨#[]⟩ ⟨#[]⟩)):=aW.out.set Y.out T.out);clear Y T aW)
  |(go_at_call 112;(with_reducible refine (H4.out _ aI.out.rd).mono ?_);rintro e bG ⟨rfl,r,G⟩;(have aV:=lh (aI.out.read r G));clear r G aI)
  |(go_at_call 112;(with_reducible refine (H5.out _ aV.out.rd).mono ?_);rintro e bH ⟨rfl,r,G⟩;(have a1:=lh (aV.out.read r G));clear r G aV)
  |((with_reducible refine ybf (o:=⟨none,_,_,_,_,_⟩) rfl 9 (.tmp 48) (.tmp 43) rfl a 50 18 (cA dv sq R st ix ⟨#[]⟩ ⟨#[]⟩) (.string no) ya9 rfl a1.out.pc (cA_lt de) Tryz.sizeStr ya9 ?_);intro bB Y T;(have aQ:Hid (DF 50 J bB g A n c bs s5 a (cA dv sq R st ix no ⟨#[]⟩)):=a1.out.set Y.out T.out);clear Y T a1)
  |((with_reducible refine ybf (o:=⟨none,_,_,_,_,_⟩) rfl 9 (.tmp 50) (.tmp 46) rfl a 50 19 (cA dv sq R st ix no ⟨#[]⟩) (.string an) ya9 rfl aQ.out.pc (cA_lt de) Tryz.sizeStr ya9 ?_);intro bC Y T;(have aT:Hid (DF 50 J bC g A n c bs s5 a (cA dv sq R st ix no an)):=aQ.out.set Y.out T.out);clear Y T aQ)
  |(go_at_call 114;(with_reducible refine (aB.out _ aT.out.rd).mono ?_);rintro e VE ⟨rfl,G⟩;(have DE:=lh (aT.out.keep G));clear G aT))
 have M:Hid (VE.heap[a]? =some (.cells (cA dv sq R st ix no an) 50 (0,0))):=DE.out.pc;have U:Hid (VE.heap[w.heap.size+1]? =some (.cells zA 50 (0,0))):=(DE.out.but.block _ (lb aq.out) yaW).trans aq.out;have aL:VE.heap[w.heap.size]? =some (.cells #[.int .i64 dv,.int .i64 sq,.int .i64 6,.int .i64 dy,.slice A n c,.string pr] 55 (0,0)):=(DE.out.but.block _ (lb aO.out) yaW).trans aO.out;have K:Hid (Below w.heap.size w VE):=aj.out.trans (DE.out.but.below aj.out.size (fun i hi=>by have:=HGE.out;have:=HAE.out;rcases hi with rfl |rfl<;>omega));have ac:Hid (But (fun k=>k=g∨k=a) J VE):=DE.out.but
 have aU:Hid (∀V,Below VE.heap.size VE V->V.cell? ⟨w.heap.size,0,none⟩=some (.int .i64 dv)/\V.cell? ⟨w.heap.size,1,none⟩=some (.int .i64 sq)):=fun V T=>by
  have q:=(T.block _ (lb aL)).trans aL;exact ⟨by rw [cell_of_row V _ _ _ _ _ q];rfl,by rw [cell_of_row V _ _ _ _ _ q];rfl⟩
 have au:=lh (fun V=>token_any st ix no an V);have aH:=lh (fun V=>entry_any dv sq V);obtain ⟨tk,br⟩:=gx (tkB st ix no an);rw [br] at au N;obtain ⟨nb,aR⟩:=gx (numB dv sq);rw [aR] at aH;have W:=lh aR;obtain ⟨ox,bf⟩:=gx (okX (sB bd));rw [bf] at N ao ⊢;clear br aR bf aL DE aO aj aq HG7 bE H2 H3 H4 H5 aB bD bA bx
 by_cases aN:er=0
 ·have bv:(er != 0)=false:=by simp [aN]
  cases ox with
  |false=>
   go_wp2_with (first
    |((with_reducible refine ybc (o:=⟨none,_,_,_,_,_⟩) rfl 50 (.tmp 2) (.tmp 76) rfl (w.heap.size+1) 50 zA zA rfl rfl U.out yca rfl ydx ?_);intro z HG7 HB7))
   have O:Below w.heap.size w z:=K.out.trans (HB7.out.below K.out.size (fun i hi=>by subst hi;omega));refine bodyPost_ret (ybr rfl _ _ _ _ _ _ _ rfl HG7.out underlying50 rfl yca) rfl (.inr ⟨by rw [N.out,W.out];simp_all,rfl,O⟩)
  |true=>
   cases tk with
   |false=>
    go_wp2_with (first
     |(with_reducible refine ybH (op:=⟨some 64,_,_,_,_,_⟩) ya9 37 (.tmp 63) ya9 a 16 ya9 [.string st,.int .i64 ix,.string no,.string an] _ (rangeTk M.out) underlying37 rfl (sizeTkL _ _ _ _) ?_)
     |(go_at_call 46;(with_reducible refine (au.out _).mono ?_);rintro e VT ⟨rfl,G⟩;(obtain ⟨q0,q1⟩:=aU.out VT G);(have af:=lh ((G.block _ (lb U.out)).trans U.out));(have aY:=lh ((G.block _ (lb M.out)).trans M.out));(have BT:=lh G);clear G)
     |((with_reducible refine ybc (o:=⟨none,_,_,_,_,_⟩) rfl 50 (.tmp 2) (.tmp 76) rfl (w.heap.size+1) 50 zA zA rfl rfl af.out yca rfl ydx ?_);intro z HG7 HB7))
    have O:Below w.heap.size w z:=(bt K.out BT.out).trans (HB7.out.below (lT K.out.size BT.out.size) (fun i hi=>by subst hi;omega));refine bodyPost_ret (ybr rfl _ _ _ _ _ _ _ rfl HG7.out underlying50 rfl yca) rfl (.inr ⟨by rw [N.out,W.out];simp_all,rfl,O⟩)
   |true=>
    cases nb with
    |false=>
     go_wp2_with (first
      |(with_reducible refine ybH (op:=⟨some 64,_,_,_,_,_⟩) ya9 37 (.tmp 63) ya9 a 16 ya9 [.string st,.int .i64 ix,.string no,.string an] _ (rangeTk M.out) underlying37 rfl (sizeTkL _ _ _ _) ?_)
      |(go_at_call 46;(with_reducible refine (au.out _).mono ?_);rintro e VT ⟨rfl,G⟩;(obtain ⟨q0,q1⟩:=aU.out VT G);(have af:=lh ((G.block _ (lb U.out)).trans U.out));(have aY:=lh ((G.block _ (lb M.out)).trans M.out));(have BT:=lh G);clear G)
      |(go_at_call 44;(with_reducible refine (aH.out _).mono ?_);rintro e VN ⟨rfl,rfl⟩)
      |((with_reducible refine ybc (o:=⟨none,_,_,_,_,_⟩) rfl 50 (.tmp 2) (.tmp 76) rfl (w.heap.size+1) 50 zA zA rfl rfl af.out yca rfl ydx ?_);intro z HG7 HB7))
     have O:Below w.heap.size w z:=(bt K.out BT.out).trans (HB7.out.below (lT K.out.size BT.out.size) (fun i hi=>by subst hi;omega));refine bodyPost_ret (ybr rfl _ _ _ _ _ _ _ rfl HG7.out underlying50 rfl yca) rfl (.inr ⟨by rw [N.out,W.out];simp_all,rfl,O⟩)
    |true=>
     obtain ⟨hR,hO⟩:=ao.out rfl;have aw:=lh hR;have ag:=lh hO;clear hR hO ao
     go_wp2_with (first
      |(with_reducible refine ybH (op:=⟨some 64,_,_,_,_,_⟩) ya9 37 (.tmp 63) ya9 a 16 ya9 [.string st,.int .i64 ix,.string no,.string an] _ (rangeTk M.out) underlying37 rfl (sizeTkL _ _ _ _) ?_)
      |(go_at_call 46;(with_reducible refine (au.out _).mono ?_);rintro e VT ⟨rfl,G⟩;(obtain ⟨q0,q1⟩:=aU.out VT G);(have af:=lh ((G.block _ (lb U.out)).trans U.out));(have aY:=lh ((G.block _ (lb M.out)).trans M.out));(have BT:=lh G);clear G)
      |(go_at_call 44;(with_reducible refine (aH.out _).mono ?_);rintro e VN ⟨rfl,rfl⟩)
      |(with_reducible refine wpList_load_mid (op:=⟨some 77,_,_,_,_,_⟩) rfl 50 (.tmp 5) rfl a 0 rfl (cA dv sq R st ix no an).toList _ (yc7 aY.out) underlying50 rfl (sizeALR _ _ _ _ _ _ _) ?_)
      |((with_reducible refine ybc (o:=⟨none,_,_,_,_,_⟩) rfl 50 (.tmp 2) (.tmp 77) rfl (w.heap.size+1) 50 zA (cA dv sq R st ix no an) rfl ya9 af.out (yed _ _ _ _ _ _ _) ya9 (ydV _ _ _ _ _ _ _) ?_);intro z HG7 HB7))
     have O:Below w.heap.size w z:=(bt K.out BT.out).trans (HB7.out.below (lT K.out.size BT.out.size) (fun i hi=>by subst hi;omega));have h1:But (fun k=>k=g∨k=a∨k=w.heap.size+1) J VE:=(But.refl _ _).trans ac.out (fun i hi=> .inl (by rcases hi with h |h;exact .inl h;exact .inr (.inl h)));have h2:But (fun k=>k=g∨k=a∨k=w.heap.size+1) J VT:=h1.trans (But.of_below (p:=fun k=>k=g∨k=a∨k=w.heap.size+1) BT.out) (fun i hi=> .inl hi);have h3:But (fun k=>k=g∨k=a∨k=w.heap.size+1) J z:=h2.trans HB7.out (fun i hi=> .inl (.inr (.inr hi)));refine bodyPost_ret (ybr rfl _ _ _ _ _ _ _ rfl HG7.out underlying50 rfl (yed _ _ _ _ _ _ _)) rfl (.inl ⟨by rw [N.out,W.out];simp [aN],R,rfl,aw.out,(ag.out.but h3 (fun k Z hl e=>by have:=HGE.out;have:=HAE.out;omega)).low (by have:=HAE.out;omega),O⟩)
 ·have bv:(er != 0)=true:=by simp [aN]
  go_wp2_with (first
   |((with_reducible refine ybc (o:=⟨none,_,_,_,_,_⟩) rfl 50 (.tmp 2) (.tmp 76) rfl (w.heap.size+1) 50 zA zA rfl rfl U.out yca rfl ydx ?_);intro z HG7 HB7))
  have O:Below w.heap.size w z:=K.out.trans (HB7.out.below K.out.size (fun i hi=>by subst hi;omega));refine bodyPost_ret (ybr rfl _ _ _ _ _ _ _ rfl HG7.out underlying50 rfl yca) rfl (.inr ⟨by rw [N.out,W.out];simp_all,rfl,O⟩)
