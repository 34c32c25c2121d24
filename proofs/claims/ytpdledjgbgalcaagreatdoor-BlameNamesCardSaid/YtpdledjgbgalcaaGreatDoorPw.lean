import Derived.Test.YtpdledjgbgalcaaGreatDoorT6
namespace Go.Proofs.YtpdledjgbgalcaaGreatDoor
set_option maxRecDepth 100000
set_option maxHeartbeats 16000000
open Go.RowKit Go.Lib Go.Proofs.Tryz
set_option linter.unusedVariables false
set_option linter.unusedSimpArgs false
theorem sl_bytesRow {w:World} {b:Nat} {t:TypeId} {fr:Nat × Nat} {s:ByteArray} {cap B:Nat} (h:w.heap[b]? =some (.cells (bytesRow s cap) t fr)) (J:b < B):Sl fB w B (some ⟨b,0,none⟩) s.size (sB s):=
 ⟨ybS s,fun _=>⟨b,0,rfl,J,fun k x G=>by
     rw [Nat.zero_add,cell_of_row w b k _ _ _ h];unfold sB at G;rw [List.getElem?_map,Array.getElem?_toList] at G
     have H:k < s.data.size:=by
      rcases Nat.lt_or_ge k s.data.size with c |c
      ·exact c
      ·rw [Array.getElem?_eq_none c] at G;cases G
     rw [Array.getElem?_eq_getElem H] at G;cases G
     exact bytesRow_at s cap k H⟩⟩
theorem wpList_conv_sb {w:World} {ops:Array Oper} {G:List Oper} {o:Oper} {a:Act} {Q:Exit->Act->World->Prop} (H:o.guard=none) (x:Operand) (J:o.op= .convert 9 40 x) (s:ByteArray) (L:a.eval x= .string s)
 (h:∀A c W,Hid (Sl fB W W.heap.size A s.size (sB s))->Hid (s.size<=c)->Hid (Below w.heap.size w W)->wpList prog ops Q G (a.put o.dst (.slice A s.size c)) W):wpList prog ops Q (o::G) a w:=by
 refine wpList_plain H fun _ K=>?_;unfold Oper.wp execOp;simp only [J,L,Sem.run_bind,run_bytes_of_string (P:=prog) w 9 40 5 s underlying9 underlying40 underlying5,Result.andThen_ok];refine K _ _ (h _ _ _ (sl_bytesRow (zy w.drew _) sI) (grownCap_ge w s.size 0 _) ?_);exact (Below.drew bR).alloc nl _
def setAll:Array Value->Nat->List Value->Array Value
 |cs,_,[]=>cs
 |cs,k,v::vs=>setAll (cs.setIfInBounds k v) (k+1) vs
theorem ydO (g:Nat) (t:TypeId):∀(vs:List Value) (o:Nat) (w:World) (G:Array Value),w.heap[g]? =some (.cells G t (0,0))->(w.setCells g o vs).heap[g]? =some (.cells (setAll G o vs) t (0,0))/\But (fun k=>k=g) w (w.setCells g o vs)
 | [],_,w,G,hg=>⟨hg,But.refl _ _⟩
 |v::vs,o,w,G,hg=>by
  have h1:=heap_setCell_same w g o _ _ v hg;have H:But (fun k=>k=g) w (w.setCell ⟨g,o,none⟩ v):=But.setCell (p:=fun k=>k=g) (x:=⟨g,o,none⟩) (But.refl _ _) (.inl rfl) _;have h2:=ydO g t vs (o+1) (w.setCell ⟨g,o,none⟩ v) _ h1;exact ⟨h2.1,H.trans h2.2 (fun i hi=> .inl hi)⟩
theorem yea {P:Program} {w:World} {ops:Array Oper} {G:List Oper} {o:Oper} {a:Act} {Q:Exit->Act->World->Prop} (K:o.guard=none) (H:TypeId) (x y:Operand) (L:o.op= .store H x y)
 (b:Nat) (t:TypeId) (k:Nat) (cs vs:Array Value) (N:a.eval x= .pointer (some ⟨b,k,none⟩)) (M:a.eval y= .agg vs) (J:w.heap[b]? =some (.cells cs t (0,0))) (O:k+vs.size<=cs.size) (hi:(P.info? H).map (·.size)=some vs.size)
 (h1:vs.all (·.oneCell')=true)
 (h:∀w',Hid (w'.heap[b]? =some (.cells (setAll cs k vs.toList) t (0,0)))->Hid (But (fun k=>k=b) w w')->wpList P ops Q G (a.put o.dst undef) w'):wpList P ops Q (o::G) a w:=by
 refine wpList_store_mid K H x y L b k vs N M ?_ hi h1 ?_
 ·intro j hj;refine ⟨?_,frozen_of_row w b _ _ _ J⟩;rw [cell_of_row w b _ _ _ _ J,Array.getElem?_eq_getElem om];rfl
 ·have e:=ydO b t vs.toList k w cs J;exact h _ e.1 e.2
theorem Tryz.sizeRA:(prog.info? 50).map (·.size)=some 20:=by kernel_rfl
theorem yeq (d q:Int) (r:Rcp) (st:ByteArray) (ix:Int) (no an:ByteArray):(prog.info? 50).map (·.size)=some (cA d q r st ix no an).size:=Tryz.sizeRA
theorem ycj:(prog.info? 50).map (·.size)=some zA.size:=Tryz.sizeRA
theorem sizeALR (d q:Int) (R:Rcp) (st:ByteArray) (ix:Int) (no an:ByteArray):(prog.info? 50).map (·.size)=some (cA d q R st ix no an).toList.length:=Tryz.sizeRA
theorem Tryz.sizeTk:(prog.info? 37).map (·.size)=some 4:=by kernel_rfl
theorem sizeTkL (st:ByteArray) (ix:Int) (no an:ByteArray):(prog.info? 37).map (·.size)=some ([.string st,.int .i64 ix,.string no,.string an]:List Value).length:=Tryz.sizeTk
theorem cA_lt {d q:Int} {r:Rcp} {st:ByteArray} {ix:Int} {no an:ByteArray} {k:Nat} (h:k < 20):k < (cA d q r st ix no an).size:=h
theorem cA_rc {d q:Int} {r r':Rcp} {st:ByteArray} {ix:Int} {no an:ByteArray}:2+(cR r').size<=(cA d q r st ix no an).size:=by show 2+14<=20;decide
theorem rangeTk {w:World} {b:Nat} {t:TypeId} {d q:Int} {R:Rcp} {st:ByteArray} {ix:Int} {no an:ByteArray} (h:w.heap[b]? =some (.cells (cA d q R st ix no an) t (0,0))):w.rangeAt b 16 [.string st,.int .i64 ix,.string no,.string an]:=fun j v G=>by
 rw [cell_of_row w b _ _ _ _ h];rcases j with _ |_ |_ |_ |j
 ·exact G
 ·exact G
 ·exact G
 ·exact G
 ·cases G
theorem setAll_cA (d q:Int) (R:Rcp) (st:ByteArray) (ix:Int) (no an:ByteArray):setAll (cA d q zRcp st ix no an) 2 (cR R).toList=cA d q R st ix no an:=by kernel_rfl
theorem ybP {P:Program} {ops:Array Oper} {G:List Oper} {op:Oper} {a:Act} {w:World} {Q:Exit->Act->World->Prop} (J:Region.wanted op (yielded ops a.tmps)=true) (H:TypeId) (x:Operand) (K:op.op= .load H x)
 (b o:Nat) (O:a.eval x= .pointer (some ⟨b,o,none⟩)) (cs:List Value) (d:TypeDesc) (N:w.rangeAt b o cs)
 (M:P.underlying H=some d) (hd:d.isRow=true) (hi:(P.info? H).map (·.size)=some cs.length)
 (h:wpList P ops Q G (a.put op.dst (.agg cs.toArray)) w):wpList P ops Q (op::G) a w:=
 BigFrame.wpList_want J fun _ L=>wp_load_mid H x K b o O cs d N M hd hi (L _ _ h)
def acP22:Array (Nat × Operand):=#[(0,.tmp 19),(1,.tmp 21)]
theorem acB22 (a:Act) (d q:Int) (h0:a.eval (.tmp 19)= .int .i64 d) (h1:a.eval (.tmp 21)= .int .i64 q):prog.built 50 (acP22.map fun (i,x)=>(i,a.eval x)).toList=some (cA d q zRcp ⟨#[]⟩ 0 ⟨#[]⟩ ⟨#[]⟩):=by
 rw [Array.toList_map];show prog.built 50 [(0,a.eval (.tmp 19)),(1,a.eval (.tmp 21))]=_;rw [h0,h1]
 kernel_rfl
theorem racc_no (dv sq k dy:Int) (pr:ByteArray) (A:Option Addr) (n c:Nat) (w:World) (J:k≠6):
 Calls prog 56 #[.agg #[.int .i64 dv,.int .i64 sq,.int .i64 k,.int .i64 dy,.slice A n c,.string pr]] w fun e K=>e= .returned (.tuple #[.agg zA,.int .i64 1])/\Below w.heap.size w K:=by
 have L:(k != 6)=true:=by simp [J]
 obtain ⟨H,G⟩:∃H:World,H=(w.alloc (.cells #[.int .i64 dv,.int .i64 sq,.int .i64 k,.int .i64 dy,.slice A n c,.string pr] 55)).alloc (.cells zA 50):=⟨_,rfl⟩
 have HB1:Hid (Below w.heap.size w H):=by show Below _ _ _;rw [G];exact bl.alloc sI _
 have HG3:Hid (H.heap[w.heap.size+1]? =some (.cells zA 50 (0,0))):=by
  show _=_;rw [G];have:=zy (w.alloc (.cells #[.int .i64 dv,.int .i64 sq,.int .i64 k,.int .i64 dy,.slice A n c,.string pr] 55)) (.cells zA 50);simpa using this
 have HWE:=lh G;clear G;go_enter func56,ntmps56
 go_wp2_with (first
  |((with_reducible refine ybk (o:=⟨none,_,_,_,_,_⟩) rfl 50 (.tmp 2) (.tmp 13) rfl (w.heap.size+1) 50 _ _ rfl rfl ya7 ycj rfl ydL ?_);intro M HG7 HB7))
 rw [<-HWE.out] at HB7;refine bodyPost_ret (ybB rfl _ _ _ _ _ _ _ rfl HG7.out underlying50 rfl ycj) rfl ⟨rfl,HB1.out.trans (HB7.out.below HB1.out.size (fun i hi=>by subst hi;omega))⟩
def ry1 (bs:List Int):ByteArray × RS:=rT bs 65536 (0,0)
def ry2 (bs:List Int):ByteArray × RS:=rS bs (ry1 bs).2
def ry3 (bs:List Int):Int × RS:=rI2 bs (ry2 bs).2
def ry4 (bs:List Int):ByteArray × RS:=rS bs (ry3 bs).2
def ry5 (bs:List Int):ByteArray × RS:=rS bs (ry4 bs).2
def okY (bs:List Int):Bool:=decide (rEnd bs (ry5 bs).2=0)&&(okX (sB (ry1 bs).1)&&tkB (ry2 bs).1 (ry3 bs).1 (ry4 bs).1 (ry5 bs).1)
def RAPost (d q:Int) (bs:List Int) (w:World) (e:Ending) (w':World):Prop:=
 (((okY bs&&numB d q)=true)/\∃R:Rcp,e= .returned (.tuple #[.agg (cA d q R (ry2 bs).1 (ry3 bs).1 (ry4 bs).1 (ry5 bs).1),.int .i64 0])/\R=rxV (sB (ry1 bs).1) R.pa R.pb R.pc/\RcO w' w.heap.size R (rxA (sB (ry1 bs).1)).1 (rxD (sB (ry1 bs).1)).1 (rxE (sB (ry1 bs).1)).1/\Below w.heap.size w w')
 ∨((okY bs&&numB d q)=false/\e= .returned (.tuple #[.agg zA,.int .i64 3])/\Below w.heap.size w w')
theorem rT_len {bs:List Int} {m:Nat} {s:RS} (J:∀b∈bs,0<=b/\b < 256):(rT bs m s).1.size<=bs.length:=by
 have G:∀k p,(tkF bs k p).1.size<=bs.length:=fun k p=>by
  rw [tkF_eq]
  split
  ·show 0<=_;omega
  ·have h1:=ybS (baOf ((bs.drop p).take k));rw [ybL (fun b H=>J b (List.mem_of_mem_drop (List.mem_of_mem_take H)))] at h1;rw [List.length_take,List.length_drop] at h1;show (baOf ((bs.drop p).take k)).size<=_;omega
 unfold rT rV
 split
 ·split
  ·rw [blkF_eq]
   split
   ·exact G _ _
   ·show 0<=_;omega
  ·show 0<=_;omega
 ·show 0<=_;omega
theorem racc_any (dv sq dy:Int) (pr:ByteArray) (A:Option Addr) (n c B:Nat) (bs:List Int) (w:World) (hx:Sl fB w B A n bs) (hB:B<=w.heap.size) (Z:RK bs n c):
 Calls prog 56 #[.agg #[.int .i64 dv,.int .i64 sq,.int .i64 6,.int .i64 dy,.slice A n c,.string pr]] w (RAPost dv sq bs w):=by
 have hl:bs.length=n:=hx.1;have aY:(0,(0:Int)).1<=n:=Nat.zero_le _;have aU:(ry1 bs).2.1<=n:=rT_le hl aY;have aP:(ry2 bs).2.1<=n:=rS_le hl aU;have aB:(ry3 bs).2.1<=n:=ycn hl aP;have aC:(ry4 bs).2.1<=n:=rS_le hl aB;have bu:(ry5 bs).2.1<=n:=rS_le hl aC;obtain ⟨L,ac⟩:∃L:World,L=(w.alloc (.cells #[.int .i64 dv,.int .i64 sq,.int .i64 6,.int .i64 dy,.slice A n c,.string pr] 55)).alloc (.cells zA 50):=⟨_,rfl⟩
 have bw:Below w.heap.size w L:=by rw [ac];exact bl.alloc sI _
 have ax:L.heap.size=w.heap.size+1+1:=by rw [ac];simp
 have ai:L.heap[w.heap.size]? =some (.cells #[.int .i64 dv,.int .i64 sq,.int .i64 6,.int .i64 dy,.slice A n c,.string pr] 55 (0,0)):=by rw [ac,Below.heap_alloc _ _ _ sI];exact zy w _
 have aW:L.heap[w.heap.size+1]? =some (.cells zA 50 (0,0)):=by
  rw [ac];have:=zy (w.alloc (.cells #[.int .i64 dv,.int .i64 sq,.int .i64 6,.int .i64 dy,.slice A n c,.string pr] 55)) (.cells zA 50);simpa using this
 obtain ⟨H,af⟩:∃H:World,H=L.alloc (.cells #[.slice A n c,.int .i64 0,.int .i64 0,.int .i64 0] 184):=⟨_,rfl⟩
 have aw:Below L.heap.size L H:=by rw [af];exact bl
 have aH:Below w.heap.size w H:=bt bw aw;have a3:H.heap.size=w.heap.size+1+1+1:=by rw [af];simp [ax]
 obtain ⟨g,az⟩:∃g,g=L.heap.size:=⟨_,rfl⟩
 have a6:g=w.heap.size+1+1:=az.trans ax;have bo:H.heap[g]? =some (.cells #[.slice A n c,.int .i64 0,.int .i64 0,.int .i64 0] 184 (0,0)):=by rw [af,az];exact zy L _
 have bk:RfS g A n c bs (0,0) H:=⟨⟨0,bo⟩,(hx.up aH hB).more' om⟩
 have HA:Hid (∀a,A=some a->0 < n->a.block < w.heap.size):=fun a ha h0=>by
  obtain ⟨b,bI,e,hlt,_⟩:=hx.2 om;rw [ha] at e;cases e
  exact Nat.lt_of_lt_of_le hlt hB
 have k4:L.cell? ⟨w.heap.size,4,none⟩=some (.slice A n c):=by rw [cell_of_row L _ _ _ _ _ ai];rfl
 have k2:L.cell? ⟨w.heap.size,2,none⟩=some (.int .i64 6):=by rw [cell_of_row L _ _ _ _ _ ai];rfl
 have au:=(aw.block _ (lb ai)).trans ai;have bj:Hid (H.cell? ⟨w.heap.size,0,none⟩=some (.int .i64 dv)/\H.cell? ⟨w.heap.size,1,none⟩=some (.int .i64 sq)):=⟨by rw [cell_of_row H _ _ _ _ _ au];rfl,by rw [cell_of_row H _ _ _ _ _ au];rfl⟩;have ao:Hid (H.heap[w.heap.size+1]? =some (.cells zA 50 (0,0))):=(aw.block _ (lb aW)).trans aW;have HGE:=lh a6;have a9:=lh az;have a1:=lh bk;have bg:=lh aH;have a7:=lh a3;have HS1:=lh ax;have HWE:=lh ac;have aE:=lh af;have aX:=lh au;have H1:Hid (∀V,RfS g A n c bs (0,0) V->Calls prog 112 #[.pointer (some ⟨g,0,none⟩),.int .i64 4,.int .i64 65536] V (ybG g A n c bs (.agg (rv 4 0 0 (ry1 bs).1 65536)) (ry1 bs).2 V)):=fun V h=>rft_any g A n c bs (0,0) V h Z aY 65536 de;have H2:Hid (∀V,RfS g A n c bs (ry1 bs).2 V->Calls prog 112 #[.pointer (some ⟨g,0,none⟩),.int .i64 6,.int .i64 0] V (ybG g A n c bs (.agg (rv 6 0 0 (ry2 bs).1 0)) (ry2 bs).2 V)):=fun V h=>ydq g A n c bs _ V h Z aU;have H4:Hid (∀V,RfS g A n c bs (ry3 bs).2 V->Calls prog 112 #[.pointer (some ⟨g,0,none⟩),.int .i64 6,.int .i64 0] V (ybG g A n c bs (.agg (rv 6 0 0 (ry4 bs).1 0)) (ry4 bs).2 V)):=fun V h=>ydq g A n c bs _ V h Z aB;have H5:Hid (∀V,RfS g A n c bs (ry4 bs).2 V->Calls prog 112 #[.pointer (some ⟨g,0,none⟩),.int .i64 6,.int .i64 0] V (ybG g A n c bs (.agg (rv 6 0 0 (ry5 bs).1 0)) (ry5 bs).2 V)):=fun V h=>ydq g A n c bs _ V h Z aC;have H3:Hid (∀V,RfS g A n c bs (ry2 bs).2 V->Calls prog 113 #[.pointer (some ⟨g,0,none⟩)] V (ybG g A n c bs (.int .i64 (ry3 bs).1) (ry3 bs).2 V)):=fun V h=>ybW g A n c bs _ V h Z aP;have ar:Hid (∀V,RfS g A n c bs (ry5 bs).2 V->Calls prog 114 #[.pointer (some ⟨g,0,none⟩)] V fun e w'=>e= .returned (.tuple #[.int .i64 (ry5 bs).2.1,.int .i64 (rEnd bs (ry5 bs).2)])/\Below V.heap.size V w'):=fun V h=>ydf g A n c bs _ V h Z.2.1 bu;have M:Hid (okY bs=(decide (rEnd bs (ry5 bs).2=0)&&(okX (sB (ry1 bs).1)&&tkB (ry2 bs).1 (ry3 bs).1 (ry4 bs).1 (ry5 bs).1))):=rfl;have be:Hid ((ry1 bs).1.size<=1000000):=by show _<=_;have h1:(ry1 bs).1.size<=bs.length:=rT_len Z.1;have:=Z.2.1;omega
 unfold RAPost;generalize ry1 bs=R1 at*;generalize ry2 bs=R2 at*;generalize ry3 bs=R3 at*;generalize ry4 bs=R4 at*;generalize ry5 bs=R5 at*;obtain ⟨bd,s1⟩:=R1;obtain ⟨st,s2⟩:=R2;obtain ⟨ix,s3⟩:=R3;obtain ⟨no,s4⟩:=R4;obtain ⟨an,s5⟩:=R5;dsimp only at H1 H2 H3 H4 H5 ar M be ⊢;obtain ⟨er,bp⟩:=gX (rEnd bs s5);rw [bp] at ar M;have bf:Hid (∀V A' c',bd.size<=c'->Sl fB V V.heap.size A' bd.size (sB bd)->Calls prog 111 #[.slice A' bd.size c'] V (RRPost (sB bd) V)):=fun V A' c' hc hs=>rrcp_any A' bd.size c' V.heap.size (sB bd) V hs nl ⟨ycR bd,be.out,hc⟩;have bG:=fun V=>fld4 4 0 0 bd 65536 V;have bD:=fun V=>fld4 6 0 0 st 0 V;have bB:=fun V=>fld4 6 0 0 no 0 V;have bA:=fun V=>fld4 6 0 0 an 0 V;clear bp hx hB hl Z aY aU aP aB aC bu bw ax ai aW ac af aw aH a3 a6 az bo bk au;go_enter func56,ntmps56;go_upto_region 3 with fail
 rw [<-HWE.out];go_upto_region 4 with fail
 rw [<-aE.out,<-a9.out];obtain ⟨k0,k1⟩:=bj.out;clear k4 k2
 go_upto_region 5 with (first
  |(with_reducible refine ybq (o:=⟨some 22,_,_,_,_,_⟩) rfl 50 acP22 ybi (cA dv sq zRcp ⟨#[]⟩ 0 ⟨#[]⟩ ⟨#[]⟩) (acB22 _ dv sq rfl rfl) ?_)
  |((with_reducible refine ybk (o:=⟨none,_,_,_,_,_⟩) rfl 50 (.tmp 5) (.tmp 22) rfl H.heap.size 50 zA (cA dv sq zRcp ⟨#[]⟩ 0 ⟨#[]⟩ ⟨#[]⟩) ybi rfl (zy H _) (yeq _ _ _ _ _ _ _) ybi (yd6 _ _ _ _ _ _ _) ?_);intro V3 HG3 aN))
 obtain ⟨a,ha⟩:∃a,a=H.heap.size:=⟨_,rfl⟩
 rw [<-ha] at HG3 aN;have bm:a=w.heap.size+1+1+1:=ha.trans a7.out;have a5:Below H.heap.size H (H.alloc (.cells zA 50)):=bl;have ah:Below H.heap.size H V3:=a5.trans (aN.out.below sI (fun i hi=>by subst hi;omega));have D3:Hid (DF 50 V3 V3 g A n c bs (0,0) a (cA dv sq zRcp ⟨#[]⟩ 0 ⟨#[]⟩ ⟨#[]⟩)):=⟨a1.out.on ah,HG3.out,But.refl _ _,by have:=HGE.out;omega,fun h0 x hx e=>by have:=HA.out x hx h0;omega⟩;have ap:Hid (Below w.heap.size w V3):=bt bg.out ah;have al:Hid (V3.heap[w.heap.size+1]? =some (.cells zA 50 (0,0))):=(ah.block _ (lb ao.out)).trans ao.out;have aQ:Hid (V3.heap[w.heap.size]? =some (.cells #[.int .i64 dv,.int .i64 sq,.int .i64 6,.int .i64 dy,.slice A n c,.string pr] 55 (0,0))):=(ah.block _ (lb aX.out)).trans aX.out;have HAE:=lh bm;rw [<-ha];clear ha bm a5 ah HG3 aN k0 k1 bj a1 HS1 a7 HWE aE a9 bg ao aX
 go_upto_region 6 with (first
  |(go_at_call 112;(with_reducible refine (H1.out _ D3.out.rd).mono ?_);rintro e V4 ⟨rfl,r,G⟩;(have D4:=lh (D3.out.read r G));clear r G D3)
  |((with_reducible refine wpList_conv_sb (o:=⟨some 27,_,_,_,_,_⟩) rfl (.tmp 26) rfl bd rfl ?_);intro Ab cb V5 a8 bq bh;(have D5:=lh (D4.out.keep bh.out));(have aA:=lh (bf.out V5 Ab cb bq.out a8.out));clear a8 bq bh D4)
  |(go_at_call 111;(with_reducible refine aA.out.mono ?_);rintro e V6 ⟨R,rfl,a2,aF⟩;(have D6:=lh (D5.out.keep a2));(have ag:Hid (okX (sB bd)=true->R=rxV (sB bd) R.pa R.pb R.pc/\RcO V6 (a+1) R (rxA (sB bd)).1 (rxD (sB bd)).1 (rxE (sB bd)).1):=fun h=>⟨(aF h).1,(aF h).2.low (lb D5.out.pc)⟩);clear a2 aF D5))
 obtain ⟨J,ay⟩:∃J:World,J=V6.alloc (.cells (cR R) tR):=⟨_,rfl⟩
 have aO:Below V6.heap.size V6 J:=by rw [ay];exact bl
 have bi:J.heap[V6.heap.size]? =some (.cells (cR R) tR (0,0)):=by rw [ay];exact zy V6 _
 have d7:=D6.out.keep aO;have D7:Hid (DF 50 J J g A n c bs s1 a (cA dv sq zRcp ⟨#[]⟩ 0 ⟨#[]⟩ ⟨#[]⟩)):=⟨d7.rd,d7.pc,But.refl _ _,d7.gb,d7.ab⟩;have am:Hid (okX (sB bd)=true->R=rxV (sB bd) R.pa R.pb R.pc/\RcO J (a+1) R (rxA (sB bd)).1 (rxD (sB bd)).1 (rxE (sB bd)).1):=fun h=>⟨(ag.out h).1,(ag.out h).2.on aO⟩;have aa:Hid (But (fun k=>k=g∨k=a) V3 J):=d7.but;have ak:Hid (Below w.heap.size w J):=ap.out.trans (aa.out.below ap.out.size (fun i hi=>by have:=HGE.out;have:=HAE.out;rcases hi with rfl |rfl<;>omega));have aj:Hid (J.heap[w.heap.size+1]? =some (.cells zA 50 (0,0))):=(aa.out.block _ (lb al.out) ya3).trans al.out;have aR:Hid (J.heap[w.heap.size]? =some (.cells #[.int .i64 dv,.int .i64 sq,.int .i64 6,.int .i64 dy,.slice A n c,.string pr] 55 (0,0))):=(aa.out.block _ (lb aQ.out) ya3).trans aQ.out;have HG7:=lh bi;have bz:Hid (a < V6.heap.size):=lb D6.out.pc;rw [<-ay];clear ay aO bi d7 D6 ag aa ap al aQ bG H1 bf aA
 go_upto_region 10 with (first
  |(with_reducible refine wpList_load_mid (op:=⟨some 31,_,_,_,_,_⟩) rfl tR (.tmp 6) rfl V6.heap.size 0 rfl (cR R).toList _ (ycc HG7.out) underlying35 rfl (ybT R) ?_)
  |((with_reducible refine yea (o:=⟨none,_,_,_,_,_⟩) rfl tR (.tmp 32) (.tmp 31) rfl a 50 2 (cA dv sq zRcp ⟨#[]⟩ 0 ⟨#[]⟩ ⟨#[]⟩) (cR R) ybi ybi D7.out.pc cA_rc (yc4 R) (cR_one R) ?_);intro V8 a4 T;(have W:Hid (V8.heap[a]? =some (.cells (cA dv sq R ⟨#[]⟩ 0 ⟨#[]⟩ ⟨#[]⟩) 50 (0,0))):=(by rw [<-setAll_cA];exact a4.out:_=_));clear a4;(have D8:Hid (DF 50 J V8 g A n c bs s1 a (cA dv sq R ⟨#[]⟩ 0 ⟨#[]⟩ ⟨#[]⟩)):=D7.out.set W.out T.out);clear W T D7)
  |(go_at_call 112;(with_reducible refine (H2.out _ D8.out.rd).mono ?_);rintro e V9 ⟨rfl,r,G⟩;(have D9:=lh (D8.out.read r G));clear r G D8)
  |(go_at_call 113;(with_reducible refine (H3.out _ D9.out.rd).mono ?_);rintro e bJ ⟨rfl,r,G⟩;(have a0:=lh (D9.out.read r G));clear r G D9)
  |((with_reducible refine ycm (o:=⟨none,_,_,_,_,_⟩) rfl 31 (.tmp 40) (.tmp 38) rfl a 50 16 (cA dv sq R ⟨#[]⟩ 0 ⟨#[]⟩ ⟨#[]⟩) (.string st) (.int .i64 ix) ybi rfl a0.out.pc (cA_lt de) Tryz.sizePid ybi ?_);intro bC W T;(have aK:Hid (DF 50 J bC g A n c bs s3 a (cA dv sq R st ix ⟨#[]⟩ ⟨#[]⟩)):=a0.out.set W.out T.out);clear W T a0)
  |(go_at_call 112;(with_reducible refine (H4.out _ aK.out.rd).mono ?_);rintro e bH ⟨rfl,r,G⟩;(have aD:=lh (aK.out.read r G));clear r G aK)
  |(go_at_call 112;(with_reducible refine (H5.out _ aD.out.rd).mono ?_);rintro e bK ⟨rfl,r,G⟩;(have aG:=lh (aD.out.read r G));clear r G aD)
  |((with_reducible refine ybn (o:=⟨none,_,_,_,_,_⟩) rfl 9 (.tmp 48) (.tmp 43) rfl a 50 18 (cA dv sq R st ix ⟨#[]⟩ ⟨#[]⟩) (.string no) ybi rfl aG.out.pc (cA_lt de) Tryz.sizeStr ybi ?_);intro bE W T;(have aV:Hid (DF 50 J bE g A n c bs s5 a (cA dv sq R st ix no ⟨#[]⟩)):=aG.out.set W.out T.out);clear W T aG)
  |((with_reducible refine ybn (o:=⟨none,_,_,_,_,_⟩) rfl 9 (.tmp 50) (.tmp 46) rfl a 50 19 (cA dv sq R st ix no ⟨#[]⟩) (.string an) ybi rfl aV.out.pc (cA_lt de) Tryz.sizeStr ybi ?_);intro bF W T;(have aZ:Hid (DF 50 J bF g A n c bs s5 a (cA dv sq R st ix no an)):=aV.out.set W.out T.out);clear W T aV)
  |(go_at_call 114;(with_reducible refine (ar.out _ aZ.out.rd).mono ?_);rintro e VE ⟨rfl,G⟩;(have DE:=lh (aZ.out.keep G));clear G aZ))
 have O:Hid (VE.heap[a]? =some (.cells (cA dv sq R st ix no an) 50 (0,0))):=DE.out.pc;have U:Hid (VE.heap[w.heap.size+1]? =some (.cells zA 50 (0,0))):=(DE.out.but.block _ (lb aj.out) ya3).trans aj.out;have aM:VE.heap[w.heap.size]? =some (.cells #[.int .i64 dv,.int .i64 sq,.int .i64 6,.int .i64 dy,.slice A n c,.string pr] 55 (0,0)):=(DE.out.but.block _ (lb aR.out) ya3).trans aR.out;have K:Hid (Below w.heap.size w VE):=ak.out.trans (DE.out.but.below ak.out.size (fun i hi=>by have:=HGE.out;have:=HAE.out;rcases hi with rfl |rfl<;>omega));have aa:Hid (But (fun k=>k=g∨k=a) J VE):=DE.out.but
 have aS:Hid (∀V,Below VE.heap.size VE V->V.cell? ⟨w.heap.size,0,none⟩=some (.int .i64 dv)/\V.cell? ⟨w.heap.size,1,none⟩=some (.int .i64 sq)):=fun V T=>by
  have q:=(T.block _ (lb aM)).trans aM;exact ⟨by rw [cell_of_row V _ _ _ _ _ q];rfl,by rw [cell_of_row V _ _ _ _ _ q];rfl⟩
 have aq:=lh (fun V=>token_any st ix no an V);have aT:=lh (fun V=>ydF dv sq V);obtain ⟨tk,br⟩:=gX (tkB st ix no an);rw [br] at aq M;obtain ⟨nb,aJ⟩:=gX (numB dv sq);rw [aJ] at aT;have Y:=lh aJ;obtain ⟨ox,bv⟩:=gX (okX (sB bd));rw [bv] at M am ⊢;clear br aJ bv aM DE aR ak aj HG7 bz H2 H3 H4 H5 ar bD bB bA
 by_cases aL:er=0
 ·have bx:(er != 0)=false:=by simp [aL]
  cases ox with
  |false=>
   go_wp2_with (first
    |((with_reducible refine ybk (o:=⟨none,_,_,_,_,_⟩) rfl 50 (.tmp 2) (.tmp 76) rfl (w.heap.size+1) 50 zA zA rfl rfl U.out ycj rfl ydL ?_);intro z HG7 HB7))
   have N:Below w.heap.size w z:=K.out.trans (HB7.out.below K.out.size (fun i hi=>by subst hi;omega));refine bodyPost_ret (ybB rfl _ _ _ _ _ _ _ rfl HG7.out underlying50 rfl ycj) rfl (.inr ⟨by rw [M.out,Y.out];simp_all,rfl,N⟩)
  |true=>
   cases tk with
   |false=>
    go_wp2_with (first
     |(with_reducible refine ybP (op:=⟨some 64,_,_,_,_,_⟩) ybi 37 (.tmp 63) ybi a 16 ybi [.string st,.int .i64 ix,.string no,.string an] _ (rangeTk O.out) underlying37 rfl (sizeTkL _ _ _ _) ?_)
     |(go_at_call 46;(with_reducible refine (aq.out _).mono ?_);rintro e VT ⟨rfl,G⟩;(obtain ⟨q0,q1⟩:=aS.out VT G);(have ae:=lh ((G.block _ (lb U.out)).trans U.out));(have aI:=lh ((G.block _ (lb O.out)).trans O.out));(have BT:=lh G);clear G)
     |((with_reducible refine ybk (o:=⟨none,_,_,_,_,_⟩) rfl 50 (.tmp 2) (.tmp 76) rfl (w.heap.size+1) 50 zA zA rfl rfl ae.out ycj rfl ydL ?_);intro z HG7 HB7))
    have N:Below w.heap.size w z:=(bt K.out BT.out).trans (HB7.out.below (lT K.out.size BT.out.size) (fun i hi=>by subst hi;omega));refine bodyPost_ret (ybB rfl _ _ _ _ _ _ _ rfl HG7.out underlying50 rfl ycj) rfl (.inr ⟨by rw [M.out,Y.out];simp_all,rfl,N⟩)
   |true=>
    cases nb with
    |false=>
     go_wp2_with (first
      |(with_reducible refine ybP (op:=⟨some 64,_,_,_,_,_⟩) ybi 37 (.tmp 63) ybi a 16 ybi [.string st,.int .i64 ix,.string no,.string an] _ (rangeTk O.out) underlying37 rfl (sizeTkL _ _ _ _) ?_)
      |(go_at_call 46;(with_reducible refine (aq.out _).mono ?_);rintro e VT ⟨rfl,G⟩;(obtain ⟨q0,q1⟩:=aS.out VT G);(have ae:=lh ((G.block _ (lb U.out)).trans U.out));(have aI:=lh ((G.block _ (lb O.out)).trans O.out));(have BT:=lh G);clear G)
      |(go_at_call 44;(with_reducible refine (aT.out _).mono ?_);rintro e VN ⟨rfl,rfl⟩)
      |((with_reducible refine ybk (o:=⟨none,_,_,_,_,_⟩) rfl 50 (.tmp 2) (.tmp 76) rfl (w.heap.size+1) 50 zA zA rfl rfl ae.out ycj rfl ydL ?_);intro z HG7 HB7))
     have N:Below w.heap.size w z:=(bt K.out BT.out).trans (HB7.out.below (lT K.out.size BT.out.size) (fun i hi=>by subst hi;omega));refine bodyPost_ret (ybB rfl _ _ _ _ _ _ _ rfl HG7.out underlying50 rfl ycj) rfl (.inr ⟨by rw [M.out,Y.out];simp_all,rfl,N⟩)
    |true=>
     obtain ⟨hR,hO⟩:=am.out rfl;have aA:=lh hR;have ag:=lh hO;clear hR hO am
     go_wp2_with (first
      |(with_reducible refine ybP (op:=⟨some 64,_,_,_,_,_⟩) ybi 37 (.tmp 63) ybi a 16 ybi [.string st,.int .i64 ix,.string no,.string an] _ (rangeTk O.out) underlying37 rfl (sizeTkL _ _ _ _) ?_)
      |(go_at_call 46;(with_reducible refine (aq.out _).mono ?_);rintro e VT ⟨rfl,G⟩;(obtain ⟨q0,q1⟩:=aS.out VT G);(have ae:=lh ((G.block _ (lb U.out)).trans U.out));(have aI:=lh ((G.block _ (lb O.out)).trans O.out));(have BT:=lh G);clear G)
      |(go_at_call 44;(with_reducible refine (aT.out _).mono ?_);rintro e VN ⟨rfl,rfl⟩)
      |(with_reducible refine wpList_load_mid (op:=⟨some 77,_,_,_,_,_⟩) rfl 50 (.tmp 5) rfl a 0 rfl (cA dv sq R st ix no an).toList _ (ydi aI.out) underlying50 rfl (sizeALR _ _ _ _ _ _ _) ?_)
      |((with_reducible refine ybk (o:=⟨none,_,_,_,_,_⟩) rfl 50 (.tmp 2) (.tmp 77) rfl (w.heap.size+1) 50 zA (cA dv sq R st ix no an) rfl ybi ae.out (yeq _ _ _ _ _ _ _) ybi (yd6 _ _ _ _ _ _ _) ?_);intro z HG7 HB7))
     have N:Below w.heap.size w z:=(bt K.out BT.out).trans (HB7.out.below (lT K.out.size BT.out.size) (fun i hi=>by subst hi;omega));have h1:But (fun k=>k=g∨k=a∨k=w.heap.size+1) J VE:=(But.refl _ _).trans aa.out (fun i hi=> .inl (by rcases hi with h |h;exact .inl h;exact .inr (.inl h)));have h2:But (fun k=>k=g∨k=a∨k=w.heap.size+1) J VT:=h1.trans (But.of_below (p:=fun k=>k=g∨k=a∨k=w.heap.size+1) BT.out) (fun i hi=> .inl hi);have h3:But (fun k=>k=g∨k=a∨k=w.heap.size+1) J z:=h2.trans HB7.out (fun i hi=> .inl (.inr (.inr hi)));refine bodyPost_ret (ybB rfl _ _ _ _ _ _ _ rfl HG7.out underlying50 rfl (yeq _ _ _ _ _ _ _)) rfl (.inl ⟨by rw [M.out,Y.out];simp [aL],R,rfl,aA.out,(ag.out.but h3 (fun k Z hl e=>by have:=HGE.out;have:=HAE.out;omega)).low (by have:=HAE.out;omega),N⟩)
 ·have bx:(er != 0)=true:=by simp [aL]
  go_wp2_with (first
   |((with_reducible refine ybk (o:=⟨none,_,_,_,_,_⟩) rfl 50 (.tmp 2) (.tmp 76) rfl (w.heap.size+1) 50 zA zA rfl rfl U.out ycj rfl ydL ?_);intro z HG7 HB7))
  have N:Below w.heap.size w z:=K.out.trans (HB7.out.below K.out.size (fun i hi=>by subst hi;omega));refine bodyPost_ret (ybB rfl _ _ _ _ _ _ _ rfl HG7.out underlying50 rfl ycj) rfl (.inr ⟨by rw [M.out,Y.out];simp_all,rfl,N⟩)
theorem Tryz.sizeBs:(prog.info? 40).map (·.size)=some 1:=by kernel_rfl
theorem wpList_conv_sb2 {w:World} {ops:Array Oper} {G:List Oper} {o:Oper} {a:Act} {Q:Exit->Act->World->Prop} (H:o.guard=none) (x:Operand) (J:o.op= .convert 9 40 x) (s:ByteArray) (L:a.eval x= .string s)
 (h:∀c W,Hid (Sl fB W W.heap.size (some ⟨w.heap.size,0,none⟩) s.size (sB s))->Hid (s.size<=c)->Hid (Below w.heap.size w W)->wpList prog ops Q G (a.put o.dst (.slice (some ⟨w.heap.size,0,none⟩) s.size c)) W):wpList prog ops Q (o::G) a w:=by
 refine wpList_plain H fun _ K=>?_;unfold Oper.wp execOp;simp only [J,L,Sem.run_bind,run_bytes_of_string (P:=prog) w 9 40 5 s underlying9 underlying40 underlying5,Result.andThen_ok];refine K _ _ (h _ _ (sl_bytesRow (zy w.drew _) sI) (grownCap_ge w s.size 0 _) ?_);exact (Below.drew bR).alloc nl _
def rz1 (bs:List Int):Int × RS:=rI2 bs (0,0)
def rz2 (bs:List Int):Int × RS:=rI2 bs (rz1 bs).2
def rz3 (bs:List Int):ByteArray × RS:=rS bs (rz2 bs).2
def rz4 (bs:List Int):Int × RS:=rI2 bs (rz3 bs).2
def rz5 (bs:List Int):ByteArray × RS:=rT bs 65536 (rz4 bs).2
def rz6 (bs:List Int):List ByteArray × RS:=rL bs 16 (rz5 bs).2
def okZ (bs:List Int):Bool:=decide (rEnd bs (rz6 bs).2=0)&&(numB (rz1 bs).1 (rz2 bs).1&&shL (rz3 bs).1 (rz4 bs).1 (sB (rz5 bs).1) (rz6 bs).1)
def RQPost (bs:List Int) (w:World) (e:Ending) (w':World):Prop:=
 (okZ bs=true/\∃p:Pc,p.s=(rz3 bs).1/\p.ix=(rz4 bs).1/\e= .returned (.tuple #[.int .i64 (rz1 bs).1,.int .i64 (rz2 bs).1,.agg (cPc p),.int .i64 0])/\PcIn w' w'.heap.size p (sB (rz5 bs).1) (rz6 bs).1/\Below w.heap.size w w')
 ∨(okZ bs=false/\e= .returned (.tuple #[.int .i64 0,.int .i64 0,.agg zPc,.int .i64 3])/\Below w.heap.size w w')
theorem Sl.butq {f:Int->Value} {w G:World} {p:Nat->Prop} {b n:Nat} {xs:List Int} (h:Sl f w w.heap.size (some ⟨b,0,none⟩) n xs) (H:But p w G) (hp:¬p b):Sl f G G.heap.size (some ⟨b,0,none⟩) n xs:=
 ⟨h.1,fun hn=>by
   obtain ⟨L,K,e,hlt,J⟩:=h.2 hn;cases e
   exact ⟨_,_,rfl,Nat.lt_of_lt_of_le hlt H.size,J.keep (H.block _ hlt hp)⟩⟩
theorem range4 {w:World} {b:Nat} {t:TypeId} {p:Pc} (h:w.heap[b]? =some (.cells (cPc p) t (0,0))):w.rangeAt b 0 (cPc p).toList:=fun j v G=>by
 rw [Nat.zero_add,cell_of_row w b j _ _ _ h,<-Array.getElem?_toList];exact G
theorem size4L (p:Pc):(prog.info? 42).map (·.size)=some (cPc p).toList.length:=Tryz.sizePiece
theorem racq_no (dv sq k dy:Int) (pr:ByteArray) (A:Option Addr) (n c:Nat) (w:World) (J:k≠7):
 Calls prog 57 #[.agg #[.int .i64 dv,.int .i64 sq,.int .i64 k,.int .i64 dy,.slice A n c,.string pr]] w fun e K=>e= .returned (.tuple #[.int .i64 0,.int .i64 0,.agg zPc,.int .i64 1])/\Below w.heap.size w K:=by
 have L:(k != 7)=true:=by simp [J]
 obtain ⟨H,G⟩:∃H:World,H=(w.alloc (.cells #[.int .i64 dv,.int .i64 sq,.int .i64 k,.int .i64 dy,.slice A n c,.string pr] 55)).alloc (.cells zPc 42):=⟨_,rfl⟩
 have HB1:Hid (Below w.heap.size w H):=by show Below _ _ _;rw [G];exact bl.alloc sI _
 have HG3:Hid (H.heap[w.heap.size+1]? =some (.cells zPc 42 (0,0))):=by
  show _=_;rw [G];have:=zy (w.alloc (.cells #[.int .i64 dv,.int .i64 sq,.int .i64 k,.int .i64 dy,.slice A n c,.string pr] 55)) (.cells zPc 42);simpa using this
 have HWE:=lh G;clear G;go_enter func57,ntmps57
 go_wp2_with (first
  |((with_reducible refine ybk (o:=⟨none,_,_,_,_,_⟩) rfl 42 (.tmp 4) (.tmp 15) rfl (w.heap.size+1) 42 zPc zPc rfl rfl ya7 yb7 rfl ybi ?_);intro M HG7 HB7))
 rw [<-HWE.out] at HB7;refine bodyPost_ret (ybM rfl _ _ _ _ _ _ _ rfl HG7.out underlying42 rfl yb7) rfl ⟨rfl,HB1.out.trans (HB7.out.below HB1.out.size (fun i hi=>by subst hi;omega))⟩
theorem racq_any (dv sq dy:Int) (pr:ByteArray) (A:Option Addr) (n c B:Nat) (bs:List Int) (w:World) (hx:Sl fB w B A n bs) (hB:B<=w.heap.size) (N:RK bs n c):
 Calls prog 57 #[.agg #[.int .i64 dv,.int .i64 sq,.int .i64 7,.int .i64 dy,.slice A n c,.string pr]] w (RQPost bs w):=by
 have hl:bs.length=n:=hx.1;have aX:(0,(0:Int)).1<=n:=Nat.zero_le _;have aT:(rz1 bs).2.1<=n:=ycn hl aX;have aQ:(rz2 bs).2.1<=n:=ycn hl aT;have az:(rz3 bs).2.1<=n:=rS_le hl aQ;have aA:(rz4 bs).2.1<=n:=ycn hl az;have aU:(rz5 bs).2.1<=n:=rT_le hl aA;have a9:(rz6 bs).2.1<=n:=rL_le hl aU;obtain ⟨H,Z⟩:∃H:World,H=(w.alloc (.cells #[.int .i64 dv,.int .i64 sq,.int .i64 7,.int .i64 dy,.slice A n c,.string pr] 55)).alloc (.cells zPc 42):=⟨_,rfl⟩
 have bo:Below w.heap.size w H:=by rw [Z];exact bl.alloc sI _
 have be:H.heap.size=w.heap.size+1+1:=by rw [Z];simp
 have aS:H.heap[w.heap.size]? =some (.cells #[.int .i64 dv,.int .i64 sq,.int .i64 7,.int .i64 dy,.slice A n c,.string pr] 55 (0,0)):=by rw [Z,Below.heap_alloc _ _ _ sI];exact zy w _
 have aW:H.heap[w.heap.size+1]? =some (.cells zPc 42 (0,0)):=by
  rw [Z];have:=zy (w.alloc (.cells #[.int .i64 dv,.int .i64 sq,.int .i64 7,.int .i64 dy,.slice A n c,.string pr] 55)) (.cells zPc 42);simpa using this
 obtain ⟨W2,am⟩:∃W2:World,W2=H.alloc (.cells #[.slice A n c,.int .i64 0,.int .i64 0,.int .i64 0] 184):=⟨_,rfl⟩
 have aO:Below H.heap.size H W2:=by rw [am];exact bl
 have aH:Below w.heap.size w W2:=bt bo aO;obtain ⟨g,ax⟩:∃g,g=H.heap.size:=⟨_,rfl⟩
 have a1:g=w.heap.size+1+1:=ax.trans be;have bg:W2.heap[g]? =some (.cells #[.slice A n c,.int .i64 0,.int .i64 0,.int .i64 0] 184 (0,0)):=by rw [am,ax];exact zy H _
 have bf:RfS g A n c bs (0,0) W2:=⟨⟨0,bg⟩,(hx.up aH hB).more' om⟩
 have HA:Hid (∀a,A=some a->0 < n->a.block < w.heap.size):=fun a ha h0=>by
  obtain ⟨b,bF,e,hlt,_⟩:=hx.2 om;rw [ha] at e;cases e
  exact Nat.lt_of_lt_of_le hlt hB
 have k4:H.cell? ⟨w.heap.size,4,none⟩=some (.slice A n c):=by rw [cell_of_row H _ _ _ _ _ aS];rfl
 have k2:H.cell? ⟨w.heap.size,2,none⟩=some (.int .i64 7):=by rw [cell_of_row H _ _ _ _ _ aS];rfl
 have ag:Hid (W2.heap[w.heap.size+1]? =some (.cells zPc 42 (0,0))):=(aO.block _ (lb aW)).trans aW;have HGE:=lh a1;have a3:=lh ax;have a0:=lh bf;have aG:=lh aH;have HWE:=lh Z;have aC:=lh am;have H1:Hid (∀V,RfS g A n c bs (0,0) V->Calls prog 113 #[.pointer (some ⟨g,0,none⟩)] V (ybG g A n c bs (.int .i64 (rz1 bs).1) (rz1 bs).2 V)):=fun V h=>ybW g A n c bs _ V h N aX;have H2:Hid (∀V,RfS g A n c bs (rz1 bs).2 V->Calls prog 113 #[.pointer (some ⟨g,0,none⟩)] V (ybG g A n c bs (.int .i64 (rz2 bs).1) (rz2 bs).2 V)):=fun V h=>ybW g A n c bs _ V h N aT;have H3:Hid (∀V,RfS g A n c bs (rz2 bs).2 V->Calls prog 112 #[.pointer (some ⟨g,0,none⟩),.int .i64 6,.int .i64 0] V (ybG g A n c bs (.agg (rv 6 0 0 (rz3 bs).1 0)) (rz3 bs).2 V)):=fun V h=>ydq g A n c bs _ V h N aQ;have H4:Hid (∀V,RfS g A n c bs (rz3 bs).2 V->Calls prog 113 #[.pointer (some ⟨g,0,none⟩)] V (ybG g A n c bs (.int .i64 (rz4 bs).1) (rz4 bs).2 V)):=fun V h=>ybW g A n c bs _ V h N az;have H5:Hid (∀V,RfS g A n c bs (rz4 bs).2 V->Calls prog 112 #[.pointer (some ⟨g,0,none⟩),.int .i64 4,.int .i64 65536] V (ybG g A n c bs (.agg (rv 4 0 0 (rz5 bs).1 65536)) (rz5 bs).2 V)):=fun V h=>rft_any g A n c bs _ V h N aA 65536 de;have H6:Hid (∀V,RfS g A n c bs (rz5 bs).2 V->Calls prog 115 #[.pointer (some ⟨g,0,none⟩),.int .i64 16] V (RfLPost g A n c bs (rz6 bs) V)):=fun V h=>rsl_any g A n c bs _ 16 de V h N aU;have aj:Hid (∀V,RfS g A n c bs (rz6 bs).2 V->Calls prog 114 #[.pointer (some ⟨g,0,none⟩)] V fun e w'=>e= .returned (.tuple #[.int .i64 (rz6 bs).2.1,.int .i64 (rEnd bs (rz6 bs).2)])/\Below V.heap.size V w'):=fun V h=>ydf g A n c bs _ V h N.2.1 a9;have L:Hid (okZ bs=(decide (rEnd bs (rz6 bs).2=0)&&(numB (rz1 bs).1 (rz2 bs).1&&shL (rz3 bs).1 (rz4 bs).1 (sB (rz5 bs).1) (rz6 bs).1))):=rfl;have aD:Hid (rEnd bs (rz6 bs).2=0->(rz6 bs).2.2=0):=fun h=>(yca.1 h).1;have a4:Hid ((rz6 bs).1.length<=1000000):=rL_len de;unfold RQPost;generalize rz1 bs=R1 at*;generalize rz2 bs=R2 at*;generalize rz3 bs=R3 at*;generalize rz4 bs=R4 at*;generalize rz5 bs=R5 at*;generalize rz6 bs=R6 at*;obtain ⟨z1,s1⟩:=R1;obtain ⟨z2,s2⟩:=R2;obtain ⟨st,s3⟩:=R3;obtain ⟨ix,s4⟩:=R4;obtain ⟨bd,s5⟩:=R5;obtain ⟨qs,s6⟩:=R6;dsimp only at H1 H2 H3 H4 H5 H6 aj L aD a4 ⊢;obtain ⟨er,bh⟩:=gX (rEnd bs s6);rw [bh] at aj L aD;have bv:=fun V=>fld4 6 0 0 st 0 V;have bw:=fun V=>fld4 4 0 0 bd 65536 V;clear bh hx hB hl N aX aT aQ az aA aU a9 bo be aS aW Z am aO aH a1 ax bg bf;go_enter func57,ntmps57;go_upto_region 3 with fail
 rw [<-HWE.out];go_upto_region 4 with fail
 rw [<-aC.out,<-a3.out];clear k4 k2
 go_upto_region 6 with (first
  |(go_at_call 113;(with_reducible refine (H1.out _ a0.out).mono ?_);rintro e V3 ⟨rfl,r,G⟩;(have R3:=lh r);(have B3:=lh G);clear r G)
  |(go_at_call 113;(with_reducible refine (H2.out _ R3.out).mono ?_);rintro e V4 ⟨rfl,r,G⟩;(have R4:=lh r);(have B4:=lh (B3.out.trans G (fun i hi=> .inl hi)));clear r G)
  |(go_at_call 112;(with_reducible refine (H3.out _ R4.out).mono ?_);rintro e V5 ⟨rfl,r,G⟩;(have R5:=lh r);(have B5:=lh (B4.out.trans G (fun i hi=> .inl hi)));clear r G)
  |(go_at_call 113;(with_reducible refine (H4.out _ R5.out).mono ?_);rintro e V6 ⟨rfl,r,G⟩;(have R6:=lh r);(have B6:=lh (B5.out.trans G (fun i hi=> .inl hi)));clear r G))
 obtain ⟨a,ha⟩:∃a,a=V6.heap.size:=⟨_,rfl⟩
 obtain ⟨W,aw⟩:∃W:World,W=V6.alloc (.cells #[.string st,.int .i64 ix,.slice none 0 0,.slice none 0 0] 42):=⟨_,rfl⟩
 have ap:Below V6.heap.size V6 W:=by rw [aw];exact bl
 have ae:W.heap[a]? =some (.cells #[.string st,.int .i64 ix,.slice none 0 0,.slice none 0 0] 42 (0,0)):=by rw [aw,ha];exact zy V6 _
 have a5:g < a:=by rw [ha];exact R6.out.lt
 have D7:Hid (DF 42 W W g A n c bs s4 a #[.string st,.int .i64 ix,.slice none 0 0,.slice none 0 0]):=⟨R6.out.on ap,ae,But.refl _ _,by omega,fun h0 x hx e=>by have:=HA.out x hx h0;have:=HGE.out;omega⟩
 have HB7:Hid (Below w.heap.size w W):=by
  have h1:Below w.heap.size w V6:=aG.out.trans (B6.out.below aG.out.size (fun i hi=>by subst hi;have:=HGE.out;omega));exact bt h1 ap
 have af:Hid (W.heap[w.heap.size+1]? =some (.cells zPc 42 (0,0))):=by
  have h2:=(B6.out.block _ (lb ag.out) (by have:=HGE.out;omega)).trans ag.out;exact (ap.block _ (lb h2)).trans h2
 have Y:=lh a5;rw [<-aw,<-ha];clear ha aw ap ae a5 R3 R4 R5 R6 B3 B4 B5 B6 H1 H2 H3 H4 bv a0 aG ag HWE aC a3
 go_upto_region 9 with (first
  |(go_at_call 112;(with_reducible refine (H5.out _ D7.out.rd).mono ?_);rintro e V8 ⟨rfl,r,G⟩;(have D8:=lh (D7.out.read r G));clear r G D7)
  |((with_reducible refine wpList_conv_sb2 (o:=⟨some 34,_,_,_,_,_⟩) rfl (.tmp 33) rfl bd rfl ?_);intro cb V9 aE bj a7;(obtain ⟨J,aV⟩:∃J,J=V8.heap.size:=⟨_,rfl⟩);(rw [<-aV] at aE ⊢);(have ai:Hid (a < J):=(by show _ < _;rw [aV];exact lb D8.out.pc));(have D9:=lh (D8.out.keep a7.out));(have bi:Hid (Sl fB V9 V9.heap.size (some ⟨J,0,none⟩) bd.size (sB bd)):=aE);(have a2:Hid (bd.size<=cb):=bj);clear aE bj a7 aV D8)
  |((with_reducible refine ybn (o:=⟨none,_,_,_,_,_⟩) rfl 40 (.tmp 35) (.tmp 34) rfl a 42 2 #[.string st,.int .i64 ix,.slice none 0 0,.slice none 0 0] (.slice (some ⟨J,0,none⟩) bd.size cb) ybi rfl D9.out.pc (lt_rf de) Tryz.sizeBs ybi ?_);intro aM hg hb;(have aJ:Hid (Sl fB aM aM.heap.size (some ⟨J,0,none⟩) bd.size (sB bd)):=bi.out.butq hb.out (fun e=>by have:=ai.out;omega));(have ay:Hid (DF 42 W aM g A n c bs s5 a #[.string st,.int .i64 ix,.slice (some ⟨J,0,none⟩) bd.size cb,.slice none 0 0]):=D9.out.set hg.out hb.out);clear hg hb D9 bi)
  |(go_at_call 115;(with_reducible refine (H6.out _ ay.out.rd).mono ?_);rintro e aI ⟨Aq,nq,cq,T,rfl,ho,hy,r,G⟩;(have aP:Hid (Sl fB aI aI.heap.size (some ⟨J,0,none⟩) bd.size (sB bd)):=aJ.out.butq G (fun e=>by have:=ai.out;have:=Y.out;omega));(have aK:=lh (ay.out.read r G));(have aY:Hid (Own fT 9 aI (a+1) (.slice Aq nq cq) T):=World.ownsRow.mono ho (lb ay.out.pc));(have bu:=lh hy);clear ho hy r G ay aJ)
  |((with_reducible refine ybn (o:=⟨none,_,_,_,_,_⟩) rfl 24 (.tmp 38) (.tmp 37) rfl a 42 3 #[.string st,.int .i64 ix,.slice (some ⟨J,0,none⟩) bd.size cb,.slice none 0 0] (.slice Aq nq cq) ybi rfl aK.out.pc (lt_rf de) Tryz.sizeLs ybi ?_);intro ah hg hb;(have aF:Hid (Sl fB ah ah.heap.size (some ⟨J,0,none⟩) bd.size (sB bd)):=aP.out.butq hb.out (fun e=>by have:=ai.out;omega));(have aR:Hid (Own fT 9 ah (a+1) (.slice Aq nq cq) T):=aY.out.butG hb.out (fun k N e=>by have h1:=(ol aY.out k N).1;omega));(have aB:Hid (DF 42 W ah g A n c bs s6 a #[.string st,.int .i64 ix,.slice (some ⟨J,0,none⟩) bd.size cb,.slice Aq nq cq]):=aK.out.set hg.out hb.out);clear hg hb aK aP aY)
  |(go_at_call 114;(with_reducible refine (aj.out _ aB.out.rd).mono ?_);rintro e VE ⟨rfl,G⟩;(have bk:=lh ((aF.out.up G nl).more' G.size));(have aq:=lh (aR.out.on G));(have DE:=lh (aB.out.keep G));clear G aB aF aR))
 obtain ⟨p,hp⟩:∃p:Pc,p=⟨st,ix,⟨some ⟨J,0,none⟩,bd.size,cb⟩,⟨Aq,nq,cq⟩⟩:=⟨_,rfl⟩
 have aa:Hid (VE.heap[a]? =some (.cells (cPc p) 42 (0,0))):=by show _=_;rw [hp];exact DE.out.pc
 have z:Hid (VE.heap[w.heap.size+1]? =some (.cells zPc 42 (0,0))):=(DE.out.but.block _ (lb af.out) (by have:=HGE.out;have:=Y.out;omega)).trans af.out;have M:Hid (Below w.heap.size w VE):=HB7.out.trans (DE.out.but.below HB7.out.size (fun i hi=>by have:=HGE.out;have:=Y.out;rcases hi with rfl |rfl<;>omega))
 have ak:nq<=cq/\T.length=nq:=by
  obtain ⟨A',c',hv,h1,_,_⟩:=aq.out.shape;injection hv with e1 e2 e3;subst e3;exact ⟨by omega,e2.symm⟩
 have a8:Hid (PcIn VE VE.heap.size p (sB bd) T):=by show PcIn _ _ _ _ _;rw [hp];exact ⟨bk.out,aq.out.slH,a2.out,ak.1⟩
 have bC:Hid (p.d=⟨some ⟨J,0,none⟩,bd.size,cb⟩/\p.q=⟨Aq,nq,cq⟩):=by rw [hp];exact ⟨rfl,rfl⟩
 have bD:Hid (nq<=cq):=ak.1;have al:Hid (p.s=st/\p.ix=ix):=by rw [hp];exact ⟨rfl,rfl⟩
 have bE:Hid (p.q.n=T.length):=by show _=_;rw [hp];exact ak.2.symm
 have aN:Hid (shB p T=shL st ix (sB bd) T):=by show _=_;rw [shL_eq a8.out,al.out.1,al.out.2]
 have bz:Hid (a≠w.heap.size+1):=by show _≠_;have:=HGE.out;have:=Y.out;omega
 have au:=lh (fun V=>ydF z1 z2 V);obtain ⟨nb,a6⟩:=gX (numB z1 z2);rw [a6] at au L;clear a6 hp ak DE HB7 af H5 H6 aj bw
 by_cases ao:er=0
 ·have bp:(er != 0)=false:=by simp [ao]
  have bA:T=qs:=bu.out (aD.out ao);subst bA
  cases nb with
  |false=>
   go_wp2_with (first
    |(go_at_call 44;(with_reducible refine (au.out _).mono ?_);rintro e VN ⟨rfl,rfl⟩)
    |((with_reducible refine ybk (o:=⟨none,_,_,_,_,_⟩) rfl 42 (.tmp 4) (.tmp 57) rfl (w.heap.size+1) 42 zPc zPc rfl rfl z.out yb7 rfl ybi ?_);intro U HG7 HB7))
   have O:Below w.heap.size w U:=M.out.trans (HB7.out.below M.out.size (fun i hi=>by subst hi;omega));refine bodyPost_ret (ybM rfl _ _ _ _ _ _ _ rfl HG7.out underlying42 rfl yb7) rfl (.inr ⟨by rw [L.out];simp_all,rfl,O⟩)
  |true=>
   have ar:=lh (shaped_any p (sB bd) T VE.heap.size VE a8.out nl (by rw [bE.out];exact a4.out));rw [aN.out] at ar;obtain ⟨sh,bm⟩:=gX (shL st ix (sB bd) T);rw [bm] at ar L;clear bm aN
   cases sh with
   |false=>
    go_wp2_with (first
     |(go_at_call 44;(with_reducible refine (au.out _).mono ?_);rintro e VN ⟨rfl,rfl⟩)
     |(with_reducible refine ybP (op:=⟨some 53,_,_,_,_,_⟩) ybi 42 (.tmp 9) ybi a 0 ybi (cPc p).toList _ (range4 aa.out) underlying42 rfl (size4L p) ?_)
     |(go_at_call 116;(with_reducible refine ar.out.mono ?_);rintro e VT ⟨rfl,G⟩;(have aL:=lh ((G.block _ (lb z.out)).trans z.out));(have ac:=lh ((G.block _ (lb aa.out)).trans aa.out));(have BT:=lh G);clear G)
     |((with_reducible refine ybk (o:=⟨none,_,_,_,_,_⟩) rfl 42 (.tmp 4) (.tmp 57) rfl (w.heap.size+1) 42 zPc zPc rfl rfl aL.out yb7 rfl ybi ?_);intro U HG7 HB7))
    have O:Below w.heap.size w U:=(bt M.out BT.out).trans (HB7.out.below (lT M.out.size BT.out.size) (fun i hi=>by subst hi;omega));refine bodyPost_ret (ybM rfl _ _ _ _ _ _ _ rfl HG7.out underlying42 rfl yb7) rfl (.inr ⟨by rw [L.out];simp_all,rfl,O⟩)
   |true=>
    go_upto_region 11 with (first
     |(go_at_call 44;(with_reducible refine (au.out _).mono ?_);rintro e VN ⟨rfl,rfl⟩)
     |(with_reducible refine ybP (op:=⟨some 53,_,_,_,_,_⟩) ybi 42 (.tmp 9) ybi a 0 ybi (cPc p).toList _ (range4 aa.out) underlying42 rfl (size4L p) ?_)
     |(go_at_call 116;(with_reducible refine ar.out.mono ?_);rintro e VT ⟨rfl,G⟩;(have aL:=lh ((G.block _ (lb z.out)).trans z.out));(have ac:=lh ((G.block _ (lb aa.out)).trans aa.out));(have BT:=lh G);clear G))
    refine rH (S:=(fun w'=>w'.heap[a]? =some (.cells (cPc p) 42 (0,0)))) ybi (by first |exact HG7.out.2 |exact ac.out) (fun aZ=>?_)
    (iterate 2 refine tkA ?_)
    refine tkH (i:=2) (v:=_) (y:=(yieldsIf_load_mid (by rfl) 42 (.tmp 9) rfl a 0 (by rfl) (cPc p).toList _ (fun _ h=>range4 h) underlying42 rfl (size4L p))) (h:=?_)
    try simp only [pt]
    (iterate 2 refine tkA ?_)
    refine rd1 5 (fun K hK=>?_)
    (refine ybu rfl 42 (.tmp 4) (.tmp 60) rfl (w.heap.size+1) 42 zPc (cPc p) ybi ybi aL.out (yek p) rfl (pc4_one p) ?_);intro U ae HB7;(have HG7:Hid (U.heap[w.heap.size+1]? =some (.cells (cPc p) 42 (0,0))/\U.heap[a]? =some (.cells (cPc p) 42 (0,0))):=⟨ae.out,(HB7.out.block a (lb ac.out) bz.out).trans ac.out⟩);clear ae
    refine hK.out _ _ (by first |exact HG7.out.2 |exact ac.out) (fun br=>?_);clear hK K aZ
    try simp only [pt]
    refine tkY 6 ?_;refine wpAnyH_done ybi ?_ _;go_wp2_with fail;have HBW:But (fun k=>k=w.heap.size+1) VT U:=⟨HB7.out.os,HB7.out.tape,HB7.out.output,HB7.out.size,HB7.out.block⟩;have O:Below w.heap.size w U:=(bt M.out BT.out).trans (HBW.below (lT M.out.size BT.out.size) (fun i hi=>by subst hi;omega));refine bodyPost_ret (ybM rfl _ _ _ _ _ _ _ rfl HG7.out.1 underlying42 rfl (yek p)) rfl (.inl ⟨by rw [L.out];simp [ao],p,al.out.1,al.out.2,rfl,?_,O⟩);have bx:=((bk.out.up BT.out nl).more' BT.out.size).butq HBW (fun e=>by have:=ai.out;have:=Y.out;have:=HGE.out;omega);have bB:=(aq.out.on BT.out).butG HBW (fun k N e=>by have h1:=(ol aq.out k N).1;have:=Y.out;have:=HGE.out;omega);obtain ⟨q1,q2⟩:=bC.out;show PcIn _ _ _ _ _;unfold PcIn;rw [q1,q2];exact ⟨bx,bB.slH,a2.out,bD.out⟩
 ·have bp:(er != 0)=true:=by simp [ao]
  go_wp2_with (first
   |((with_reducible refine ybk (o:=⟨none,_,_,_,_,_⟩) rfl 42 (.tmp 4) (.tmp 57) rfl (w.heap.size+1) 42 zPc zPc rfl rfl z.out yb7 rfl ybi ?_);intro U HG7 HB7))
  have O:Below w.heap.size w U:=M.out.trans (HB7.out.below M.out.size (fun i hi=>by subst hi;omega));refine bodyPost_ret (ybM rfl _ _ _ _ _ _ _ rfl HG7.out underlying42 rfl yb7) rfl (.inr ⟨by rw [L.out];simp_all,rfl,O⟩)
