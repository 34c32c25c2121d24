import Derived.Test.YtpdledjgbgalcaaGreatDoorPa
namespace Go.Proofs.YtpdledjgbgalcaaGreatDoor
set_option maxRecDepth 100000
set_option maxHeartbeats 8000000
open Go.RowKit Go.Proofs.Tryz
set_option linter.unusedVariables false
set_option linter.unusedSimpArgs false
def Byt (xs:List Int):Prop:=∀x∈xs,0<=x/\x < 256
theorem Byt.app {xs ys:List Int} (h:Byt xs) (k:Byt ys):Byt (xs++ys):=fun x hx=>by
 rcases List.mem_append.1 hx with h' |h'
 ·exact h x h'
 ·exact k x h'
theorem Byt.take {xs:List Int} (h:Byt xs) (n:Nat):Byt (xs.take n):=fun x hx=>h x (List.mem_of_mem_take hx)
theorem Byt.drop {xs:List Int} (h:Byt xs) (n:Nat):Byt (xs.drop n):=fun x hx=>h x (List.mem_of_mem_drop hx)
def hashN (bs:List Int):Nat->W8
 |0=>hTab
 |k+1=>blk (hashN bs k) ((bs.drop (64*k)).take 64)
theorem yeg (bs:List Int):∀k,W8ok (hashN bs k)
 |0=>hTab_ok
 |k+1=>W8ok.blk ..
theorem ydx (bs xs:List Int):∀k,64*k<=bs.length->hashN (bs++xs) k=hashN bs k
 |0,_=>rfl
 |k+1,h=>by
  simp only [hashN];rw [ydx bs xs k om,List.drop_append_of_le_length om,List.take_append_of_le_length ya6]
def St (w:World) (g:Nat) (bs:List Int):Prop:=
 ∃buf:List Int,buf.length=64/\Byt buf/\Byt bs/\w.heap[g]? =some (oSt (hashN bs (bs.length / 64)) buf bs.length)/\buf.take (bs.length % 64)=bs.drop (64*(bs.length / 64))
theorem St.but {w G:World} {g:Nat} {bs:List Int} {p:Nat->Prop} (h:St w g bs) (L:But p w G) (hp:¬p g):St G g bs:=by
 obtain ⟨buf,h1,h2,K,H,J⟩:=h;exact ⟨buf,h1,h2,K,(L.block g (lb H) hp).trans H,J⟩
theorem st_n {w:World} {g:Nat} {v:W8} {buf:List Int} {n:Int} (h:w.heap[g]? =some (oSt v buf n)) (hl:buf.length=64):w.cell? ⟨g,72,none⟩=some (.int .i64 n):=by
 rw [cell_of_row w g 72 _ _ _ h];show (((v.list.map U32++(buf.map fB++[Value.int .i64 n]))).toArray)[72]? =_;rw [List.getElem?_toArray,List.getElem?_append_right (by simp [W8.list]),List.getElem?_append_right (by simp [W8.list,hl])];simp [W8.list,hl]
theorem st_set_n {w:World} {g:Nat} {v:W8} {buf:List Int} {n m:Int} (h:w.heap[g]? =some (oSt v buf n)) (hl:buf.length=64):(w.setCell ⟨g,72,none⟩ (.int .i64 m)).heap[g]? =some (oSt v buf m):=by
 rw [setCell_blk h];show some (Obj.cells ((v.list.map U32++(buf.map fB++[Value.int .i64 n])).toArray.setIfInBounds 72 (.int .i64 m)) _ _)=some (Obj.cells (v.list.map U32++(buf.map fB++[Value.int .i64 m])).toArray _ _);rw [List.setIfInBounds_toArray,List.set_append_right _ _ (by simp [W8.list]),List.set_append_right _ _ (by simp [W8.list,hl])];simp [W8.list,hl]
theorem ydy (v:W8) (buf ys:List Int) (n:Int) (u:Nat) (H:u+ys.length<=buf.length):splice (v.list.map U32++(buf.map fB++[Value.int .i64 n])) (8+u) (ys.map fB)=v.list.map U32++((buf.take u++(ys++buf.drop (u+ys.length))).map fB++[Value.int .i64 n]):=by
 have G:(v.list.map U32).length=8:=rfl;unfold splice;rw [List.take_append,List.drop_append,G,List.take_of_length_le (by rw [G];omega),List.drop_eq_nil_of_le (by rw [G];omega),List.nil_append,show 8+u - 8=u by omega,List.length_map,show 8+u+ys.length - 8=u+ys.length by omega,List.take_append_of_le_length (by rw [List.length_map];omega),List.drop_append_of_le_length (by rw [List.length_map];omega)];simp [List.map_take,List.map_drop,List.append_assoc]
theorem st_buf {w:World} {g B:Nat} {v:W8} {buf:List Int} {n:Int} (h:w.heap[g]? =some (oSt v buf n)) (hl:buf.length=64) (H:g < B):Sl fB w B (some ⟨g,8,none⟩) 64 buf:=⟨hl,fun _=>⟨g,8,rfl,H,fun k x G=>by
 have J:=(List.getElem?_eq_some_iff.1 G).1;rw [cell_of_row w g (8+k) _ _ _ h];show ((v.list.map U32++(buf.map fB++[Value.int .i64 n])).toArray)[8+k]? =_;rw [List.getElem?_toArray,List.getElem?_append_right (by simp [W8.list]),List.getElem?_append_left (by simp [W8.list];omega)]
 simp [W8.list,G]⟩⟩
theorem yb5 {P:Program} {w:World} {ops:Array Oper} {G:List Oper} {o:Oper} {a:Act} {Q:Exit->Act->World->Prop} (J:o.guard=none) (d s:Operand) (H K:TypeId)
 (M:o.op= .call {callee:= .builtin .copy,args:=#[d,s],argTypes:=#[H,K]}) (elem:TypeId) (hu:P.underlying H=some (.slice elem)) (hsz:(P.info? elem).map (·.size)=some 1)
 (dp sp:Option Addr) (dLen dCap sLen sCap:Nat) (hd:a.eval d= .slice dp dLen dCap) (hs:a.eval s= .slice sp sLen sCap)
 (g off:Nat) (cur:List Value) (t:TypeId) (hg:w.heap[g]? =some (.cells cur.toArray t (0,0))) (cs:List Value) (hn:cs.length=Nat.min sLen dLen)
 (hpos:0 < cs.length->dp=some ⟨g,off,none⟩/\∃ad,sp=some ad/\∀j v,cs[j]? =some v->w.cell? (ad.add j)=some v)
 (hfit:off+cs.length<=cur.length) (h1:∀v∈cs,v.oneCell'=true)
 (h:∀w',Hid (w'.heap[g]? =some (.cells (splice cur off cs).toArray t (0,0)))->Hid (But (fun k=>k=g) w w')->wpList P ops Q G (a.put o.dst (goInt cs.length)) w'):
 wpList P ops Q (o::G) a w:=by
 by_cases h0:cs.length=0
 ·obtain rfl:cs=[]:=List.eq_nil_of_length_eq_zero h0;refine wpList_copy_nothing J d s H K M elem hu hsz dp sp dLen dCap sLen sCap hd hs (by simpa using hn.symm) ?_;exact h w (show _=_ by simpa [splice] using hg) (But.refl _ _)
 ·obtain ⟨rfl,ad,rfl,L⟩:=hpos om;refine wpList_copy_own J d s H K M elem hu hsz g off dLen dCap ad sLen sCap hd hs cur.toArray t hg cs hn L (by simpa using hfit) h1 ?_;exact h _ (show _=_ by simpa [splice] using setRow_heap w g _ _ t _ hg) ⟨rfl,rfl,rfl,by simp [World.setRow],fun k O N=>setRow_other w g k _ N⟩
theorem ybF {P:Program} (t e:Nat) (i:TypeInfo) (ht:P.underlying t=some (.slice e)) (hi:P.info? e=some i) (hs:i.size=1) (A:Option Addr) (n c:Nat) (G:IntKind) (h:Int) (m:Nat) (H:h=m) (h2:m<=n) (J:n<=c) (w:World):
 (Instr.slice t (.slice A n c) (some (.int G h)) none none).run P w= .ok (.slice (if c=m then A else A.map (·.add m)) (n - m) (c - m)) w:=by
 subst H;simp [Instr.slice,run_underlying ht,Instr.sliceBounds,run_sliceBound w G (m:Int) n _ om om,sizeOf,typeInfo,hi,hs]
theorem ydz {P:Program} (t e n:Nat) (i:TypeInfo) (ht:P.underlying t=some (.array n e)) (hi:P.info? e=some i) (hs:i.size=1) (g G:Nat) (H:IntKind) (h:Int) (m:Nat) (J:h=m) (h2:m < n) (w:World):
 (Instr.sliceAt t (.pointer (some ⟨g,G,none⟩)) (some (.int H h)) none none).run P w= .ok (.slice (some ⟨g,G+m,none⟩) (n - m) (n - m)) w:=by
 subst J;simp [Instr.sliceAt,run_underlying ht,Instr.sureAddr,Instr.sliceBounds,run_sliceBound w H (m:Int) n _ om om,sizeOf,typeInfo,hi,hs,Addr.add];rw [if_neg om]
 split
 ·rename_i h0;rw [h0,Nat.add_zero]
 ·rfl
theorem ycd {P:Program} (t e n:Nat) (i:TypeInfo) (ht:P.underlying t=some (.array n e)) (hi:P.info? e=some i) (g G:Nat) (w:World):
 (Instr.sliceAt t (.pointer (some ⟨g,G,none⟩)) none none none).run P w= .ok (.slice (some ⟨g,G,none⟩) n n) w:=by
 simp [Instr.sliceAt,run_underlying ht,Instr.sureAddr,Instr.sliceBounds,sizeOf,typeInfo,hi,Addr.add]
theorem app_drop_eq {bs xs:List Int} {p:Nat} (h:(bs.length+p) % 64=0):(bs++xs).drop (64*((bs.length+p) / 64))=xs.drop p:=by
 rw [show 64*((bs.length+p) / 64)=bs.length+p by omega,List.drop_append,List.drop_eq_nil_of_le om,List.nil_append,show bs.length+p - bs.length=p by omega]
theorem step_block {bs xs:List Int} {p:Nat} (h:(bs.length+p) % 64=0):blk (hashN (bs++xs) ((bs.length+p) / 64)) ((xs.drop p).take 64)=hashN (bs++xs) ((bs.length+(p+64)) / 64):=by
 rw [show (bs.length+(p+64)) / 64=(bs.length+p) / 64+1 by omega];show _=blk _ _;rw [app_drop_eq h]
theorem fill_block {bs xs buf:List Int} (L:bs.length % 64≠0) (hn:64 - bs.length % 64<=xs.length) (H:buf.length=64) (ht:buf.take (bs.length % 64)=bs.drop (64*(bs.length / 64))):
 blk (hashN bs (bs.length / 64)) (buf.take (bs.length % 64)++(xs.take (64 - bs.length % 64)++buf.drop (bs.length % 64+(xs.take (64 - bs.length % 64)).length)))=hashN (bs++xs) ((bs.length+(64 - bs.length % 64)) / 64):=by
 rw [show (bs.length+(64 - bs.length % 64)) / 64=bs.length / 64+1 by omega,<-ydx bs xs _ om];show _=blk _ _;have G:(buf.take (bs.length % 64)).length=bs.length % 64:=by rw [List.length_take,H];omega
 have J:buf.drop (bs.length % 64+(xs.take (64 - bs.length % 64)).length)=[]:=List.drop_eq_nil_of_le (by rw [List.length_take,H];omega)
 have K:((bs++xs).drop (64*(bs.length / 64))).take 64=buf.take (bs.length % 64)++xs.take (64 - bs.length % 64):=by
  rw [List.drop_append_of_le_length om,<-ht,List.take_append,G,List.take_of_length_le om]
 rw [J,K,List.append_nil]
theorem early_St {w:World} {g:Nat} {bs xs buf:List Int} (J:buf.length=64) (G:Byt buf) (K:Byt bs) (H:Byt xs) (ht:buf.take (bs.length % 64)=bs.drop (64*(bs.length / 64))) (hn:bs.length % 64+xs.length < 64)
 (L:w.heap[g]? =some (oSt (hashN bs (bs.length / 64)) (buf.take (bs.length % 64)++(xs++buf.drop (bs.length % 64+xs.length))) ((bs.length+xs.length:Nat):Int))):St w g (bs++xs):=by
 refine ⟨buf.take (bs.length % 64)++(xs++buf.drop (bs.length % 64+xs.length)),?_,?_,K.app H,?_,?_⟩
 ·simp [J];omega
 ·exact (G.take _).app (H.app (G.drop _))
 ·rw [List.length_append,show (bs.length+xs.length) / 64=bs.length / 64 by omega,ydx _ _ _ om];exact L
 ·rw [List.length_append,show (bs.length+xs.length) / 64=bs.length / 64 by omega,show (bs.length+xs.length) % 64=bs.length % 64+xs.length by omega,List.drop_append_of_le_length om,<-ht,<-List.append_assoc,List.take_append_of_le_length (by simp [J];omega),List.take_of_length_le (by simp [J];omega)]
theorem last_St {w:World} {g p:Nat} {bs xs buf:List Int} (K:buf.length=64) (G:Byt buf) (J:Byt bs) (H:Byt xs) (hp:(bs.length+p) % 64=0) (M:p<=xs.length) (hn:xs.length - p < 64)
 (L:w.heap[g]? =some (oSt (hashN (bs++xs) ((bs.length+p) / 64)) (buf.take 0++(xs.drop p++buf.drop (0+(xs.drop p).length))) ((bs.length+xs.length:Nat):Int))):St w g (bs++xs):=by
 refine ⟨buf.take 0++(xs.drop p++buf.drop (0+(xs.drop p).length)),?_,?_,J.app H,?_,?_⟩
 ·simp [K];omega
 ·exact (G.take _).app ((H.drop _).app (G.drop _))
 ·rw [List.length_append,show (bs.length+xs.length) / 64=(bs.length+p) / 64 by omega];exact L
 ·rw [List.length_append,show (bs.length+xs.length) / 64=(bs.length+p) / 64 by omega,show (bs.length+xs.length) % 64=(xs.drop p).length by rw [List.length_drop];omega,app_drop_eq hp,List.take_zero,List.nil_append,List.take_left'];rfl
def ycu:Value->Nat
 | .slice _ n _=>n
 |_=>0
theorem ycB {A:Option Addr} {g m c:Nat} (h:∀a,A=some a->a.block≠g) {a:Addr} (ha:(if c=m then A else A.map (·.add m))=some a):a.block≠g:=by
 split at ha
 ·exact h a ha
 ·rcases A with _ |x
  ·simp at ha
  ·simp only [Option.map_some,Option.some.injEq] at ha;subst ha;rw [show (x.add m).block=x.block by unfold Addr.add;split<;>rfl];exact h _ rfl
def WrP (g n B:Nat) (bs xs:List Int) (w:World) (x:Value) (wr:World):Prop:=
 ∃(p r c':Nat) (A':Option Addr) (buf':List Int),p<=n/\r=n - p/\(bs.length+p) % 64=0/\x= .slice A' r c'/\r<=c'/\Hid (Sl fB wr B A' r (xs.drop p))/\Hid (∀a,A'=some a->a.block≠g)/\Hid (buf'.length=64)/\Hid (Byt buf')/\
  Hid (wr.heap[g]? =some (oSt (hashN (bs++xs) ((bs.length+p) / 64)) buf' ((bs.length+n:Nat):Int)))/\Hid (But (fun k=>k=g) w wr)
theorem Tryz.sizeB:(prog.info? 5).map (·.size)=some 1:=by kernel_rfl
theorem ycV (g:Nat) (bs xs:List Int) (A:Option Addr) (n c B:Nat) (w:World) (hS:St w g bs) (hx:Sl fB w B A n xs) (hc:n<=c) (hB:B<=w.heap.size) (aY:Byt xs) (hA:∀a,A=some a->a.block≠g) (hl:bs.length+xs.length<=1099511627776) (hk:KTab w) (aZ:1 < w.heap.size) (am:g≠1):
 Calls prog 199 #[.pointer (some ⟨g,0,none⟩),.slice A n c] w fun e w'=>e= .returned (.tuple #[])/\St w' g (bs++xs)/\But (fun k=>k=g) w w':=by
 obtain ⟨buf,aL,aT,aR,hg,a0⟩:=hS;obtain ⟨aJ,a1⟩:=hx;obtain ⟨L,hL⟩:∃L,L=bs.length:=⟨_,rfl⟩
 have a3:=st_n hg aL;rw [<-hL] at a3;have bg:=frozen_of_row w g 72 _ _ hg;have HG:=lh hg;have aI:=lh a1;have ao:=lh aY;have aQ:=lh aR;have aC:=lh aT;have T:=lh aL;have aS:=lh a0;have HK:=lh hk;have al:=lh aZ;have HA:=lh hA;have K:Hid (L=bs.length):=hL;have HXN:Hid (xs.length=n):=aJ;rw [<-hL,aJ] at hl;clear hg a1 aY aR aT aL a0 hk aZ hA hL aJ;go_enter func199,ntmps199
 by_cases hu:L % 64=0
 ·
  go_upto_region 7 with fail
  generalize hW:w.setCell _ _=W
  have aE:Hid (WrP g n B bs xs w (.slice A n c) W):=by
   have hb:But (fun k=>k=g) w W:=by rw [<-hW];exact But.setCell (p:=fun k=>k=g) (x:=⟨g,72,none⟩) (But.refl _ _) (.inl rfl) _
   refine ⟨0,n,c,A,buf,by omega,by omega,by rw [<-K.out];omega,rfl,hc,⟨HXN.out,aI.out.but hb hB HA.out⟩,HA,T,aC,?_,hb⟩;show _=_;rw [Nat.add_zero,ydx _ _ _ om,<-hW,Int.natCast_add,<-K.out];have h1:=st_set_n (m:=(L:Int)+n) HG.out T.out;rw [<-K.out] at h1;exact h1
  have bf:=lh hW;clear hW
  go_loopw [1] (fun x wr=>WrP g n B bs xs w x wr) (fun x _=>ycu x)
  case atStart=>exact aE.out
  case round=>
   obtain ⟨p,r,c',A',H,aP,hr,hp,rfl,aN,O,aw,J,ai,ar,N⟩:=hrel;have ap:Hid (B<=wr.heap.size):=lT hB N.out.size;have ay:Hid (KTab wr):=fun i x hx=>(cB (w:=w) (N.out.block 1 al.out (Ne.symm am))).trans (HK.out i x hx);have aq:Hid (1 < wr.heap.size):=Nat.lt_of_lt_of_le al.out N.out.size;obtain ⟨iB,Z,_,aA,_⟩:=info_parts Tryz.infoB
   by_cases a6:64<=r
   ·obtain ⟨b,au,rfl,_⟩:=O.out.2 (by rw [O.out.1];omega);have aO:=fun W=>ybR (P:=prog) 40 5 iB underlying40 Z (some ⟨b,au,none⟩) r c' .i64 64 64 rfl om W;have aH:64<=(r:Int):=by omega
    have HC:=lh (ydl g (hashN (bs++xs) ((bs.length+p) / 64)) H ((bs.length+n:Nat):Int) (some ⟨b,au,none⟩) c' B ((xs.drop p).take 64) wr ar.out ⟨by rw [List.length_take,O.out.1];omega,O.out.2.take_ 64⟩ ap.out ((ao.out.drop p).take 64) om ay.out aq.out am (yeg _ _));have HR:=lh hr;clear hr
    go_wp2_with (first
     |(go_at_call 242;(refine HC.out.mono ?_);rintro e w6 ⟨rfl,aa,HB6⟩
       have aj:=lh aa;have U:=lh HB6
       clear aa HB6))
    refine ⟨?rel,?measure⟩
    case rel=>
     have hr:=HR.out;refine ⟨p+64,r - 64,c' - 64,_,H,by omega,by omega,by omega,rfl,by omega,⟨by rw [List.length_drop,HXN.out];omega,?_⟩,?_,J,ai,?_,N.out.trans U.out (fun i hi=> .inl hi)⟩
     ·have h1:=(O.out.2.cut (n:=64) (cap:=c') (by rw [O.out.1];exact aN)).but U.out ap.out (fun a ha=>ycB aw.out ha);rw [List.drop_drop] at h1;exact h1
     ·exact fun a ha=>ycB aw.out ha
     ·show _=_;have h1:=aj.out;rw [step_block hp] at h1;exact h1
    case measure=>
     show r - 64 < r;omega
   ·have aH:¬64<=(r:Int):=by omega
    have aO:=fun W=>ycd (P:=prog) 300 5 64 iB underlying300 Z g 8 W;obtain ⟨cs,G⟩:∃cs,cs=(xs.drop p).map fB:=⟨_,rfl⟩
    have HCL:Hid ((xs.drop p).length=r):=O.out.1;have M:Hid (cs.length=Nat.min r 64):=by show _=min _ _;rw [G,List.length_map,HCL.out];omega
    have af:Hid (0 < cs.length->∃ad,A'=some ad/\∀j v,cs[j]? =some v->wr.cell? (ad.add j)=some v):=fun h=>by
     rw [G] at h ⊢;exact O.out.2.cells h
    have aM:Hid (wr.heap[g]? =some (.cells ((hashN (bs++xs) ((bs.length+p) / 64)).list.map U32++(H.map fB++[Value.int .i64 ((bs.length+n:Nat):Int)])).toArray 302 (0,0))):=ar.out
    have ah:Hid (8+0+cs.length<=((hashN (bs++xs) ((bs.length+p) / 64)).list.map U32++(H.map fB++[Value.int .i64 ((bs.length+n:Nat):Int)])).length):=by
     show _<=_;rw [M.out,List.length_append,List.length_append,List.length_map,List.length_map,J.out];show 8+0+min r 64<=8+(64+1);omega
    have ae:Hid (∀v∈cs,v.oneCell'=true):=by
     intro v hv;rw [G] at hv;obtain ⟨y,_,rfl⟩:=List.mem_map.1 hv;rfl
    have HCS:=lh G;clear G
    go_wp2_with (first
     |(with_reducible refine yb5 (o:=⟨_,_,_,_,_,_⟩) rfl (.tmp 54) (.tmp 55) 40 40 rfl 5 underlying40 Tryz.sizeB _ _ _ _ _ _ rfl rfl g (8+0) _ 302 aM.out cs M.out (fun h=>⟨rfl,af.out h⟩) ah.out ae.out ?_;intro W2 ac ag))
    go_end0
    refine ⟨rfl,?_,N.out.trans ag.out (fun i hi=> .inl hi)⟩;have h2:=ac.out;rw [HCS.out,ydy _ _ _ _ _ (by rw [J.out,HCL.out];omega)] at h2;exact last_St J.out ai.out aQ.out ao.out hp (by rw [HXN.out];exact aP) (by rw [HXN.out];omega) (by rw [HXN.out];exact h2)
 ·
  go_upto_region 3 with fail
  obtain ⟨u,ak⟩:∃u,u=L % 64:=⟨_,rfl⟩
  have bb:(L:Int) % 64=(u:Int):=by omega
  obtain ⟨iB,Z,_,aA,_⟩:=info_parts Tryz.infoB;have aD:u < 64:=by omega
  have a5:0 < u:=by omega
  have a4:=fun W=>ydz (P:=prog) 300 5 64 iB underlying300 Z aA g 8 .i64 (u:Int) u rfl aD W;generalize hW:w.setCell _ _=W
  have aW:Hid (W.heap[g]? =some (.cells ((hashN bs (bs.length / 64)).list.map U32++(buf.map fB++[Value.int .i64 ((L:Int)+n)])).toArray 302 (0,0))):=by
   show _=_;rw [<-hW];exact st_set_n HG.out T.out
  have HBW:Hid (But (fun k=>k=g) w W):=by
   show But _ _ _;rw [<-hW];exact But.setCell (p:=fun k=>k=g) (x:=⟨g,72,none⟩) (But.refl _ _) (.inl rfl) _
  have aU:Hid (SL fB W B A xs):=aI.out.but HBW.out hB HA.out;have HW:=lh hW;have aB:=lh ak;clear hW ak
  by_cases be:u+n < 64
  ·
   obtain ⟨cs,G⟩:∃cs,cs=(xs.take n).map fB:=⟨_,rfl⟩
   have HCL:Hid ((xs.take n).length=n):=by show _=_;rw [List.length_take,HXN.out];omega
   have ax:Hid (cs.length=n):=by show _=_;rw [G,List.length_map,HCL.out]
   have M:Hid (cs.length=Nat.min n (64 - u)):=by show _=min _ _;rw [ax.out];omega
   have af:Hid (0 < cs.length->∃ad,A=some ad/\∀j v,cs[j]? =some v->W.cell? (ad.add j)=some v):=fun h=>by
    rw [G] at h ⊢;exact (aU.out.take_ n).cells h
   have ah:Hid (8+u+cs.length<=((hashN bs (bs.length / 64)).list.map U32++(buf.map fB++[Value.int .i64 ((L:Int)+n)])).length):=by
    show _<=_;rw [M.out,List.length_append,List.length_append,List.length_map,List.length_map,T.out];show 8+u+min n (64 - u)<=8+(64+1);omega
   have ae:Hid (∀v∈cs,v.oneCell'=true):=by
    intro v hv;rw [G] at hv;obtain ⟨y,_,rfl⟩:=List.mem_map.1 hv;rfl
   have HCS:=lh G;clear G
   go_wp2_with (first
    |(with_reducible refine yb5 (o:=⟨some 28,_,_,_,_,_⟩) rfl (.tmp 26) (.tmp 27) 40 40 rfl 5 underlying40 Tryz.sizeB _ _ _ _ _ _ rfl rfl g (8+u) _ 302 aW.out cs M.out (fun h=>⟨rfl,af.out h⟩) ah.out ae.out ?_;intro W2 ac ag;rw [ax.out]))
   all_goals refine bodyPost_ret (results_none rfl _ _ _) rfl ?_
   all_goals
    refine ⟨rfl,?_,HBW.out.trans ag.out (fun i hi=> .inl hi)⟩;have h2:=ac.out;rw [HCS.out,ydy _ _ _ _ _ (by rw [T.out,HCL.out];omega),K.out,<-Int.natCast_add,<-HXN.out,List.take_length,aB.out,K.out] at h2;exact early_St T.out aC.out aQ.out ao.out aS.out (by rw [<-K.out,HXN.out,<-aB.out];exact be) h2
  ·
   obtain ⟨m,hm⟩:∃m,m=64 - u:=⟨_,rfl⟩
   have aK:m<=n:=by omega
   obtain ⟨cs,G⟩:∃cs,cs=(xs.take m).map fB:=⟨_,rfl⟩
   have HCL:Hid ((xs.take m).length=m):=by show _=_;rw [List.length_take,HXN.out];omega
   have ax:Hid (cs.length=m):=by show _=_;rw [G,List.length_map,HCL.out]
   have M:Hid (cs.length=Nat.min n (64 - u)):=by show _=min _ _;rw [ax.out];omega
   have af:Hid (0 < cs.length->∃ad,A=some ad/\∀j v,cs[j]? =some v->W.cell? (ad.add j)=some v):=fun h=>by
    rw [G] at h ⊢;exact (aU.out.take_ m).cells h
   have ah:Hid (8+u+cs.length<=((hashN bs (bs.length / 64)).list.map U32++(buf.map fB++[Value.int .i64 ((L:Int)+n)])).length):=by
    show _<=_;rw [M.out,List.length_append,List.length_append,List.length_map,List.length_map,T.out];show 8+u+min n (64 - u)<=8+(64+1);omega
   have ae:Hid (∀v∈cs,v.oneCell'=true):=by
    intro v hv;rw [G] at hv;obtain ⟨y,_,rfl⟩:=List.mem_map.1 hv;rfl
   have HCS:=lh G;clear G;have a9:(u:Int)+(m:Int)=64:=by omega
   have HM:=lh hm;clear hm;obtain ⟨A2,aF⟩:∃A2,A2=if c=m then A else A.map (·.add m):=⟨_,rfl⟩
   have aV:=fun W=>ybF (P:=prog) 40 5 iB underlying40 Z aA A n c .i64 (m:Int) m rfl aK hc W;rw [<-aF] at aV;have aX:=lh aF;clear aF;have a7:=fun W=>ycd (P:=prog) 300 5 64 iB underlying300 Z g 8 W
   go_upto_region 6 with (first
    |(with_reducible refine yb5 (o:=⟨some 28,_,_,_,_,_⟩) rfl (.tmp 26) (.tmp 27) 40 40 rfl 5 underlying40 Tryz.sizeB _ _ _ _ _ _ rfl rfl g (8+u) _ 302 aW.out cs M.out (fun h=>⟨rfl,af.out h⟩) ah.out ae.out ?_;intro W2 ac ag;rw [ax.out]))
   obtain ⟨z,Y⟩:∃b,b=buf.take u++(xs.take m++buf.drop (u+(xs.take m).length)):=⟨_,rfl⟩
   have a2:Hid (z.length=64):=by show _=_;rw [Y];have hm:=HM.out;rw [List.length_append,List.length_append,List.length_take,List.length_drop,T.out,HCL.out];omega
   have HB7:Hid (Byt z):=by show Byt _;rw [Y];exact (aC.out.take _).app ((ao.out.take _).app (aC.out.drop _))
   have HG7:Hid (W2.heap[g]? =some (oSt (hashN bs (bs.length / 64)) z ((L:Int)+n))):=by
    have h2:=ac.out;rw [HCS.out,ydy _ _ _ _ _ (by rw [T.out,HCL.out];omega),<-Y] at h2;exact h2
   have az:Hid (But (fun k=>k=g) w W2):=HBW.out.trans ag.out (fun i hi=> .inl hi);have ay:Hid (KTab W2):=fun i x hx=>(cB (w:=w) (az.out.block 1 al.out (Ne.symm am))).trans (HK.out i x hx);have aq:Hid (1 < W2.heap.size):=Nat.lt_of_lt_of_le al.out az.out.size;have HC:=lh (ydl g (hashN bs (bs.length / 64)) z ((L:Int)+n) (some ⟨g,8,none⟩) 64 W2.heap.size z W2 HG7.out (st_buf HG7.out a2.out (lb HG7.out)) nl HB7.out nl ay.out aq.out am (yeg _ _));have a8:=lh Y;clear Y ac;have hm:=HM.out;have ak:=aB.out;clear hm ak
   go_upto_region 7 with (first
    |(go_at_call 242;(refine HC.out.mono ?_);rintro e w6 ⟨rfl,aa,HB6⟩
      have aj:=lh aa;have U:=lh HB6
      clear aa HB6))
   have hm:=HM.out;have ak:=aB.out;have aG:Hid (But (fun k=>k=g) w w6):=az.out.trans U.out (fun i hi=> .inl hi)
   have aE:Hid (WrP g n B bs xs w (.slice A2 (n - m) (c - m)) w6):=by
    refine ⟨m,n - m,c - m,A2,z,aK,rfl,by rw [<-K.out];omega,rfl,by omega,⟨by rw [List.length_drop,HXN.out],?_⟩,?_,a2,HB7,?_,aG.out⟩
    ·rw [aX.out];exact (aI.out.cut (by rw [HXN.out];exact hc)).but aG.out hB (fun a ha=>ycB HA.out ha)
    ·intro a ha;rw [aX.out] at ha;exact ycB HA.out ha
    ·have h6:=aj.out;have hf:=fill_block (bs:=bs) (xs:=xs) (buf:=buf) (by rw [<-K.out];exact hu) (by rw [<-K.out,HXN.out];omega) T.out aS.out;rw [<-K.out,<-ak,<-hm] at hf;show _=_;rw [<-K.out,<-hf,a8.out.symm,Int.natCast_add];rw [<-K.out] at h6;exact h6
   clear hm ak a9 aV a7 aK a5 aD bb a4
   go_loopw [1] (fun x wr=>WrP g n B bs xs w x wr) (fun x _=>ycu x)
   case atStart=>exact aE.out
   case round=>
    obtain ⟨p,r,c',A',H,aP,hr,hp,rfl,aN,O,aw,J,ai,ar,N⟩:=hrel;have ap:Hid (B<=wr.heap.size):=lT hB N.out.size;have ay:Hid (KTab wr):=fun i x hx=>(cB (w:=w) (N.out.block 1 al.out (Ne.symm am))).trans (HK.out i x hx);have aq:Hid (1 < wr.heap.size):=Nat.lt_of_lt_of_le al.out N.out.size;obtain ⟨iB,Z,_,aA,_⟩:=info_parts Tryz.infoB
    by_cases a6:64<=r
    ·obtain ⟨b,au,rfl,_⟩:=O.out.2 (by rw [O.out.1];omega);have aO:=fun W=>ybR (P:=prog) 40 5 iB underlying40 Z (some ⟨b,au,none⟩) r c' .i64 64 64 rfl om W;have aH:64<=(r:Int):=by omega
     have HC:=lh (ydl g (hashN (bs++xs) ((bs.length+p) / 64)) H ((bs.length+n:Nat):Int) (some ⟨b,au,none⟩) c' B ((xs.drop p).take 64) wr ar.out ⟨by rw [List.length_take,O.out.1];omega,O.out.2.take_ 64⟩ ap.out ((ao.out.drop p).take 64) om ay.out aq.out am (yeg _ _));have HR:=lh hr;clear hr
     go_wp2_with (first
      |(go_at_call 242;(refine HC.out.mono ?_);rintro e w6 ⟨rfl,aa,HB6⟩
        have aj:=lh aa;have U:=lh HB6
        clear aa HB6))
     refine ⟨?rel,?measure⟩
     case rel=>
      have hr:=HR.out;refine ⟨p+64,r - 64,c' - 64,_,H,by omega,by omega,by omega,rfl,by omega,⟨by rw [List.length_drop,HXN.out];omega,?_⟩,?_,J,ai,?_,N.out.trans U.out (fun i hi=> .inl hi)⟩
      ·have h1:=(O.out.2.cut (n:=64) (cap:=c') (by rw [O.out.1];exact aN)).but U.out ap.out (fun a ha=>ycB aw.out ha);rw [List.drop_drop] at h1;exact h1
      ·exact fun a ha=>ycB aw.out ha
      ·show _=_;have h1:=aj.out;rw [step_block hp] at h1;exact h1
     case measure=>
      show r - 64 < r;omega
    ·have aH:¬64<=(r:Int):=by omega
     have aO:=fun W=>ycd (P:=prog) 300 5 64 iB underlying300 Z g 8 W;obtain ⟨cs,G⟩:∃cs,cs=(xs.drop p).map fB:=⟨_,rfl⟩
     have HCL:Hid ((xs.drop p).length=r):=O.out.1;have M:Hid (cs.length=Nat.min r 64):=by show _=min _ _;rw [G,List.length_map,HCL.out];omega
     have af:Hid (0 < cs.length->∃ad,A'=some ad/\∀j v,cs[j]? =some v->wr.cell? (ad.add j)=some v):=fun h=>by
      rw [G] at h ⊢;exact O.out.2.cells h
     have aM:Hid (wr.heap[g]? =some (.cells ((hashN (bs++xs) ((bs.length+p) / 64)).list.map U32++(H.map fB++[Value.int .i64 ((bs.length+n:Nat):Int)])).toArray 302 (0,0))):=ar.out
     have ah:Hid (8+0+cs.length<=((hashN (bs++xs) ((bs.length+p) / 64)).list.map U32++(H.map fB++[Value.int .i64 ((bs.length+n:Nat):Int)])).length):=by
      show _<=_;rw [M.out,List.length_append,List.length_append,List.length_map,List.length_map,J.out];show 8+0+min r 64<=8+(64+1);omega
     have ae:Hid (∀v∈cs,v.oneCell'=true):=by
      intro v hv;rw [G] at hv;obtain ⟨y,_,rfl⟩:=List.mem_map.1 hv;rfl
     have HCS:=lh G;clear G
     go_wp2_with (first
      |(with_reducible refine yb5 (o:=⟨_,_,_,_,_,_⟩) rfl (.tmp 54) (.tmp 55) 40 40 rfl 5 underlying40 Tryz.sizeB _ _ _ _ _ _ rfl rfl g (8+0) _ 302 aM.out cs M.out (fun h=>⟨rfl,af.out h⟩) ah.out ae.out ?_;intro W2 ac ag))
     go_end0
     refine ⟨rfl,?_,N.out.trans ag.out (fun i hi=> .inl hi)⟩;have h2:=ac.out;rw [HCS.out,ydy _ _ _ _ _ (by rw [J.out,HCL.out];omega)] at h2;exact last_St J.out ai.out aQ.out ao.out hp (by rw [HXN.out];exact aP) (by rw [HXN.out];omega) (by rw [HXN.out];exact h2)
def zN (L:Nat):Nat:=(119 - L % 64) % 64
def be8 (n:Nat):List Int:=(List.range 8).map fun i=>((n / 2 ^ (56 - 8*i) % 256:Nat):Int)
def padB (L:Nat):List Int:=(128::List.replicate (zN L) 0)++be8 (8*L)
theorem be8_len (n:Nat):(be8 n).length=8:=by simp [be8]
theorem padB_len (L:Nat):(padB L).length=zN L+9:=by simp [padB,be8_len]
theorem padB_64 (L:Nat):(L+(padB L).length) % 64=0:=by rw [padB_len];unfold zN;omega
theorem zN_lt (L:Nat):zN L < 64:=Nat.mod_lt _ om
theorem be8_byt (n:Nat):Byt (be8 n):=fun x hx=>by
 obtain ⟨i,_,rfl⟩:=List.mem_map.1 hx;omega
theorem padB_byt (L:Nat):Byt (padB L):=by
 refine Byt.app ?_ (be8_byt _);intro x hx;rcases List.mem_cons.1 hx with rfl |h
 ·omega
 ·rw [(List.mem_replicate.1 h).2];omega
def w4 (x:Int):List Int:=[x / 16777216 % 256,x / 65536 % 256,x / 256 % 256,x % 256]
def wB (l:List Int):List Int:=l.flatMap w4
theorem wB_byt (l:List Int):Byt (wB l):=fun y hy=>by
 obtain ⟨x,_,h⟩:=List.mem_flatMap.1 hy;simp only [w4,List.mem_cons,List.not_mem_nil,or_false] at h;rcases h with rfl |rfl |rfl |rfl<;>omega
theorem wB_len:∀l:List Int,(wB l).length=4*l.length
 | []=>rfl
 |x::l=>by
  have:=wB_len l;unfold wB at this ⊢;rw [List.flatMap_cons,List.length_append,this];simp [w4];omega
def shaB (bs:List Int):List Int:=wB (hashN (bs++padB bs.length) ((bs.length+(padB bs.length).length) / 64)).list
theorem ycJ (bs:List Int):Byt (shaB bs):=wB_byt _
theorem ycv (bs:List Int):(shaB bs).length=32:=by unfold shaB;rw [wB_len];rfl
theorem yd2 {v:W8} {buf:List Int} {n:Int} (h:buf.length=64):(ycI v buf n).size=73:=by
 show ((v.list.map U32++(buf.map fB++[Value.int .i64 n])).toArray).size=73;simp [W8.list,h]
theorem stCells_one {v:W8} {buf:List Int} {n:Int}:(ycI v buf n).all (·.oneCell')=true:=by
 rw [Array.all_eq_true'];intro x H;have G:x∈v.list.map U32++(buf.map fB++[Value.int .i64 n]):=by simpa [ycI] using H
 rcases List.mem_append.1 G with h |h
 ·obtain ⟨y,_,rfl⟩:=List.mem_map.1 h;rfl
 ·rcases List.mem_append.1 h with h |h
  ·obtain ⟨y,_,rfl⟩:=List.mem_map.1 h;rfl
  ·rw [List.mem_singleton.1 h];rfl
theorem St.grown {w G:World} {g:Nat} {bs:List Int} {row:Option Nat} (h:St w g bs) (L:w.grownBy G row) (hr:row≠some g):St G g bs:=by
 obtain ⟨buf,h1,h2,K,H,J⟩:=h;exact ⟨buf,h1,h2,K,(L.block g (lb H) (fun e=>hr e.symm)).trans H,J⟩
theorem Tryz.sizeSt:(prog.info? 302).map (·.size)=some 73:=by kernel_rfl
theorem be8_snoc (n:Nat) {j:Nat} (hj:j < 8):(be8 n).take (j+1)=(be8 n).take j++[((n / 2 ^ (56 - 8*j) % 256:Nat):Int)]:=
 yby (by rw [be8,List.getElem?_map,List.getElem?_range hj];rfl)
theorem own_far {w:World} {g:Nat} {e:TypeId} {A:Option Addr} {n c:Nat} {xs:List Int} (h:Own fB e w (g+1) (.slice A n c) xs) {a:Addr} (ha:A=some a):a.block≠g:=by
 subst ha;have:=(ol h a.block rfl).1;omega
theorem own_ne {w:World} {g:Nat} {e:TypeId} {v:Value} {xs:List Int} (h:Own fB e w (g+1) v xs):v.ownBlock≠some g:=fun hv=>by
 have:=(ol h g hv).1;omega
def PadP (g:Nat) (w:World) (bs xs:List Int) (v:Value) (wr:World):Prop:=
 Hid (Own fB 5 wr (g+1) v xs)/\Hid (St wr g bs)/\Hid (Below w.heap.size w wr)
theorem sum_any (g:Nat) (bs:List Int) (w:World) (hS:St w g bs) (hl:bs.length<=549755813888) (hk:KTab w) (aX:1 < w.heap.size):
 Calls prog 200 #[.pointer (some ⟨g,0,none⟩)] w fun e w'=>e= .returned (.string (baOf (shaB bs)))/\Below w.heap.size w w':=by
 obtain ⟨buf,ac,aJ,aH,hg,aY⟩:=hS;obtain ⟨L,hL⟩:∃L,L=bs.length:=⟨_,rfl⟩
 have aI:=st_n hg ac;rw [<-hL] at aI;have bA:=frozen_of_row w g 72 _ _ hg;obtain ⟨i0,hi,aN,aZ,aU⟩:=info_parts Tryz.infoB;have HI:=lh hi;have am:=lh aN;have ao:=lh aZ;have aj:=lh aU;have HG:=lh hg;have aC:Hid ((prog.info? 302).map (·.size)=some (ycI (hashN bs (bs.length / 64)) buf bs.length).size):=by show _=_;rw [yd2 ac];exact Tryz.sizeSt
 have HS1:Hid ((ycI (hashN bs (bs.length / 64)) buf bs.length).size=73):=yd2 ac;obtain ⟨Z,ae⟩:∃Z,Z=ycI (hashN bs (bs.length / 64)) buf bs.length:=⟨_,rfl⟩
 have a9:Hid (Z.all (·.oneCell')=true):=by show _=_;rw [ae];exact stCells_one
 have a8:Hid (w.heap[g]? =some (.cells Z 302 (0,0))):=by show _=_;rw [ae];exact hg
 rw [<-ae] at aC HS1;have bm:Hid (St (w.alloc (.cells Z 302)) w.heap.size bs):=⟨buf,ac,aJ,aH,by rw [ae];exact zy w _,aY⟩;have HK:=lh hk;have aq:=lh aX;have aP:Hid (L=bs.length):=hL;have HGL:=lh (lb hg);have bz:L<=549755813888:=by rw [hL];exact hl
 clear hi aN aZ aU hg ac aJ aH aY ae hk aX hL hl HG;go_enter func200,ntmps200
 go_upto_region 3 with (first
  |(with_reducible refine wpList_load_row (o:=⟨some 12,_,_,_,_,_⟩) rfl 302 (.tmp 11) rfl g rfl 302 Z (0,0) _ a8.out underlying302 rfl aC.out ?_)
  |(with_reducible refine ybr (o:=⟨none,_,_,_,_,_⟩) rfl 302 (.tmp 3) (.tmp 12) rfl 302 _ Z rfl rfl aC.out (HS1.out.symm▸rfl) a9.out ?_))
 have a7:Hid (PadP w.heap.size w bs (128::List.replicate 0 0) (.slice (some ⟨w.heap.size+1,0,none⟩) 1 1) ((w.alloc (.cells Z 302)).alloc (.cells #[.int .u8 128] 5))):=by
  refine ⟨?_,?_,?_⟩
  ·have h:=World.ownsRow_lit (base:=w.heap.size+1) (e:=5) (size:=1) (w.alloc (.cells Z 302)) #[.int .u8 128] 1 sI ybd rfl;rw [World.size_alloc] at h;exact h
  ·exact bm.out.but ((But.refl (fun _=>False) _).alloc _) (fun h=>h)
  ·exact bl.alloc sI _
 go_loopw [4] (fun v wr=>∃k,k<=zN L/\Hid (PadP w.heap.size w bs (128::List.replicate k 0) v wr)) (fun v _=>zN L+1 - ycu v)
 case atStart=>exact ⟨0,by omega,a7⟩
 case round=>
  obtain ⟨k,bB,HP⟩:=hrel;have G:=HP.out.1;have HS:=HP.out.2.1;have HB:=HP.out.2.2;have a2:wr.cell? ⟨g,72,none⟩=some (.int .i64 L):=(HB.out.cell (p:=⟨g,72,none⟩) HGL.out).trans aI;have af:=zN_lt L;obtain ⟨A1,c1,aw,bo,bh,_⟩:=G.out.shape;obtain ⟨l1,ah⟩:∃l,l=(128::List.replicate k (0:Int)).length:=⟨_,rfl⟩
  have ar:l1=k+1:=by rw [ah];simp
  rw [<-ah] at aw;have Y:=lh ar;have a4:=lh ah;clear ah bh bo ar;have T:Hid (((128::List.replicate k (0:Int)).length+1)*1<=140737488355328):=by show _<=_;simp;omega
  have U:Hid ((128::List.replicate k (0:Int)).length+1<=maxLen):=by show _<=_;unfold maxLen;simp;omega
  have M:Hid (w.heap.size+1<=wr.heap.size):=by
   show _<=_;obtain ⟨_,_,_,_,h,_⟩:=HS.out;exact lb h
  by_cases az:k=zN L
  ·
   have aD:((L:Int)+(l1:Int)) % 64=56:=by have:=Y.out;have h0:zN L=(119 - L % 64) % 64:=rfl;omega
   have bp:(l1:Int)<=65:=by have:=Y.out;omega
   subst aw;have aL:Hid (PadP w.heap.size w bs (128::List.replicate (zN L) 0) (.slice A1 l1 c1) wr):=by show PadP ..;rw [<-az];exact HP.out
   clear HP G HS T U a4 Y az;go_upto_region 7 with fail
   have aM:Hid (PadP w.heap.size w bs ((128::List.replicate (zN L) 0)++(be8 (8*L)).take 0) (.slice A1 l1 c1) wr):=by show PadP ..;rw [List.take_zero,List.append_nil];exact aL.out
   clear HB a2 M aD
   go_loopw [4,6] (fun v i wr=>∃j:Nat,j<=8/\i= .int .i64 (56 - 8*(j:Int))/\Hid (PadP w.heap.size w bs ((128::List.replicate (zN L) 0)++(be8 (8*L)).take j) v wr)) (fun _ i _=>(intOf i+8).toNat)
   case atStart=>exact ⟨0,by omega,rfl,aM⟩
   case round=>
    obtain ⟨j,hj,rfl,HP⟩:=hrel;have G:=HP.out.1;have HS:=HP.out.2.1;have HB:=HP.out.2.2;obtain ⟨A3,c3,aB,ak,ap,_⟩:=G.out.shape
    have al:((128::List.replicate (zN L) (0:Int))++(be8 (8*L)).take j).length=zN L+1+j:=by
     rw [List.length_append,List.length_cons,List.length_replicate,List.length_take,be8_len];omega
    obtain ⟨ys,aA⟩:∃ys,ys=(128::List.replicate (zN L) (0:Int))++(be8 (8*L)).take j:=⟨_,rfl⟩
    rw [<-aA] at G aB al ap ak;rw [al] at aB ak;have ai:=lh al;have aQ:=lh aA;have be:=lh ap
    have M:Hid (w.heap.size+1<=wr.heap.size):=by
     show _<=_;obtain ⟨_,_,_,_,h,_⟩:=HS.out;exact lb h
    subst aB;clear ap aA aM aL al
    by_cases aa:j < 8
    ·
     obtain ⟨s,hs⟩:∃s:Nat,s=56 - 8*j:=⟨_,rfl⟩
     have aK:(56 - 8*(j:Int))=(s:Int):=by omega
     have bq:s<=56:=by omega
     have aE:=lh hs;rw [aK];have T:Hid ((ys.length+1)*1<=140737488355328):=by show _<=_;rw [ai.out];omega
     have U:Hid (ys.length+1<=maxLen):=by show _<=_;rw [ai.out];unfold maxLen;omega
     clear hs aK
     have HT:Hid ((be8 (8*L)).take j++[(L:Int)*8 / 2 ^ s % 256]=(be8 (8*L)).take (j+1)):=by
      show _=_;rw [be8_snoc _ aa,aE.out]
      congr 2
      rw [Int.mul_comm];simp
     go_wp2_with (first
      |(at_builtin;(with_reducible refine ybw (o:=⟨some 42,_,_,_,_,_⟩) rfl (.tmp 36) (.tmp 41) 40 rfl 5 i0 (.int .u8 0) 1 underlying40 HI.out am.out ao.out aj.out rfl _ ys (w.heap.size+1) rfl G.out ((L:Int)*8 / 2 ^ s % 256) 1 rfl fB1 T.out U.out M.out ?_);intro v1 w1 O N aW))
     go_roundw
     case rel=>
      refine ⟨j+1,by omega,?_,?_,?_,?_⟩
      ·have:=aE.out;refine congrArg (Value.int .i64) ?_;omega
      ·have h:=O.out;rw [aQ.out,List.append_assoc,HT.out] at h;exact h
      ·exact HS.out.grown N.out (own_ne G.out)
      ·exact HB.out.trans (ybm N.out (fun j hj=>lT (Nat.le_succ _) (ol G.out j hj).1) HB.out.size)
     case measure=>
      have:=aE.out;simp [intOf];omega
    ·
     obtain rfl:j=8:=by omega
     have aV:Hid (ys=padB L):=by
      show _=_;rw [aQ.out,List.take_of_length_le (by rw [be8_len];exact Nat.le_refl _)];rfl
     have bf:Hid (KTab wr):=fun i x hx=>(HB.out.cell (p:=⟨1,i,none⟩) aq.out).trans (HK.out i x hx);have a1:Hid (1 < wr.heap.size):=Nat.lt_of_lt_of_le aq.out HB.out.size;have HC:=lh (ycV w.heap.size bs ys A3 (zN L+1+8) c3 wr.heap.size wr HS.out ⟨ai.out,be.out⟩ ak nl (by rw [aV.out];exact padB_byt L) (fun a ha=>own_far G.out ha) (by have:=zN_lt L;rw [ai.out,<-aP.out];omega) bf.out a1.out (Nat.ne_of_gt aq.out));clear ak hj
     go_upto_region 13 with (first
      |(go_at_call 199
        go_loud (
        refine HC.out.mono ?_;rintro e J ⟨rfl,aO,aR⟩;have br:=lh aO;have a6:Hid (Below w.heap.size w J):=HB.out.trans (aR.below HB.out.size (fun i hi=>Nat.le_of_eq hi.symm));obtain ⟨bu,_,_,_,aF,_⟩:=aO;obtain ⟨d0,d1,d2,d3,d4,d5,d6,d7⟩:=st_cells aF;obtain ⟨V,hV⟩:∃V,V=hashN (bs++ys) ((bs++ys).length / 64):=⟨_,rfl⟩
        rw [<-hV] at d0 d1 d2 d3 d4 d5 d6 d7;have HV:=lh hV;have K:Hid (w.heap.size < J.heap.size):=lb aF;obtain ⟨va,vb,vc,vd,ve,vf,vg,vh⟩:=V
        clear aF hV aR))
      |(at_make
        go_loud (
        refine wpList_make_own J (o:=⟨some 45,_,_,_,_,_⟩) rfl _ _ 40 rfl J.heap.size 5 i0 (.int .u8 0) 1 underlying40 HI.out am.out ao.out _ _ 32 32 rfl rfl rfl (by rw [aj.out];decide) ybd nl ?_;intro W3 aT aS;have bj:Hid (Own fB 5 W3 J.heap.size (.slice (some ⟨J.heap.size,0,none⟩) 0 32) []):=aT;have H:Hid (Below J.heap.size J W3):=ybm aS (fun k hk=>by cases hk) nl;replace d0:=(H.out.cell (p:=⟨w.heap.size,0,none⟩) K.out).trans d0;replace d1:=(H.out.cell (p:=⟨w.heap.size,1,none⟩) K.out).trans d1;replace d2:=(H.out.cell (p:=⟨w.heap.size,2,none⟩) K.out).trans d2;replace d3:=(H.out.cell (p:=⟨w.heap.size,3,none⟩) K.out).trans d3;replace d4:=(H.out.cell (p:=⟨w.heap.size,4,none⟩) K.out).trans d4;replace d5:=(H.out.cell (p:=⟨w.heap.size,5,none⟩) K.out).trans d5;replace d6:=(H.out.cell (p:=⟨w.heap.size,6,none⟩) K.out).trans d6;replace d7:=(H.out.cell (p:=⟨w.heap.size,7,none⟩) K.out).trans d7
        clear aT aS)))
     clear aa d0 d1 d2 d3 d4 d5 d6 d7
     go_loopw [7,48] (fun v i wr=>∃j:Nat,j<=8/\i= .int .i64 j/\Hid (Own fB 5 wr J.heap.size v (wB ([va,vb,vc,vd,ve,vf,vg,vh].take j)))/\Hid (Below J.heap.size J wr)) (fun _ i _=>8 - (intOf i).toNat)
     case atStart=>exact ⟨0,by omega,rfl,bj,H⟩
     case round=>
      obtain ⟨j,hj,rfl,G,HB⟩:=hrel;obtain ⟨A5,c5,ay,bi,ax,_⟩:=G.out.shape;obtain ⟨z,ag⟩:∃z,z=wB ([va,vb,vc,vd,ve,vf,vg,vh].take j):=⟨_,rfl⟩
      rw [<-ag] at G ay ax;have af:z.length=4*j:=by rw [ag,wB_len,List.length_take];show 4*min j 8=_;omega
      rw [af] at ay;subst ay;have a0:=lh ag;have au:=lh af;have HS5:=lh ax;clear ag af ax bi
      by_cases aa:j < 8
      ·obtain ⟨x,hx⟩:=ybQ (xs:=[va,vb,vc,vd,ve,vf,vg,vh]) (k:=j) aa
       have aG:(#[U32 va,U32 vb,U32 vc,U32 vd,U32 ve,U32 vf,U32 vg,U32 vh]:Array Value)[j]? =some (U32 x):=by
        have:=congrArg (Option.map U32) hx;rw [<-List.getElem?_map] at this;rw [List.getElem?_toArray];exact this
       obtain ⟨iU,bk,_,bb,_⟩:=info_parts Tryz.infoU;have bv:=fun W=>ydw (P:=prog) 251 250 8 iU _ underlying251 underlying250 rfl bk bb #[U32 va,U32 vb,U32 vc,U32 vd,U32 ve,U32 vf,U32 vg,U32 vh] .i64 j (U32 x) aa aG W;have bw:(j:Int) < 8:=by omega
       have a5:Hid (Sl fB (wr.alloc (.cells #[.int .u8 (x / 16777216 % 256),.int .u8 (x / 65536 % 256),.int .u8 (x / 256 % 256),.int .u8 (x % 256)] 5)) (wr.heap.size+1) (some ⟨wr.heap.size,0,none⟩) 4 (w4 x)):=⟨rfl,SL.of_block (t:=5) (fr:=(0,0)) (zy wr _) (Nat.lt_succ_self _)⟩
       have a3:Hid (wB ([va,vb,vc,vd,ve,vf,vg,vh].take (j+1))=z++w4 x):=by
        show _=_;rw [yby hx,a0.out];unfold wB;rw [List.flatMap_append];simp
       have T:Hid ((z.length+(w4 x).length)*1<=140737488355328):=by show _<=_;rw [au.out];show (4*j+4)*1<=_;omega
       have U:Hid (z.length+(w4 x).length<=maxLen):=by show _<=_;rw [au.out];show 4*j+4<=_;unfold maxLen;omega
       have M:Hid (J.heap.size<=(wr.alloc (.cells #[.int .u8 (x / 16777216 % 256),.int .u8 (x / 65536 % 256),.int .u8 (x / 256 % 256),.int .u8 (x % 256)] 5)).heap.size):=lT HB.out.size sI;clear aG hx
       go_wp2_with (first
        |(at_builtin;(with_reducible refine ybE (o:=⟨some 64,_,_,_,_,_⟩) rfl (.tmp 51) (.tmp 63) 40 rfl 5 i0 (.int .u8 0) 1 underlying40 HI.out am.out ao.out aj.out rfl _ z J.heap.size rfl (G.out.alloc _) _ 4 4 (wr.heap.size+1) (w4 x) rfl a5.out fB1 T.out U.out M.out ?_);intro v1 w1 O N aW))
       go_roundw
       case rel=>
        refine ⟨j+1,by omega,by go_num,?_,?_⟩
        ·show Own ..
         rw [a3.out];exact O.out
        ·exact (HB.out.alloc HB.out.size _).trans (ybm N.out (fun j hj=>(ol G.out j hj).1) M.out)
       case measure=>simp [intOf];omega
      ·obtain rfl:j=8:=by omega
       have bx:=yb1 (P:=prog) 40 5 9 underlying40 underlying5 underlying9 wr wr.heap.size A5 (4*8) c5 z ⟨au.out,HS5.out⟩;go_wp2;go_ret;refine ⟨?_,bt a6.out HB.out⟩
       have he:shaB bs=z:=by
        rw [a0.out];unfold shaB;rw [aV.out] at HV;rw [<-List.length_append,<-aP.out,<-HV.out];rfl
       rw [he];rfl
  ·
   have aD:¬((L:Int)+(l1:Int)) % 64=56:=by have:=Y.out;have h0:zN L=(119 - L % 64) % 64:=rfl;omega
   have bp:(l1:Int)<=65:=by have:=Y.out;omega
   subst aw
   go_wp2_with (first
    |(at_builtin;(with_reducible refine ybw (o:=⟨some 25,_,_,_,_,_⟩) rfl (.tmp 23) (.tmp 24) 40 rfl 5 i0 (.int .u8 0) 1 underlying40 HI.out am.out ao.out aj.out rfl _ (128::List.replicate k 0) (w.heap.size+1) rfl G.out (0) 1 rfl fB1 T.out U.out M.out ?_);intro v1 w1 O N aW))
   go_roundw
   case rel=>
    refine ⟨k+1,by omega,?_,?_,?_⟩
    ·have h:=O.out;rw [List.cons_append,<-List.replicate_succ'] at h;exact h
    ·exact HS.out.grown N.out (own_ne G.out)
    ·exact HB.out.trans (ybm N.out (fun j hj=>lT (Nat.le_succ _) (ol G.out j hj).1) HB.out.size)
   case measure=>
    obtain ⟨A2,c2,bg,_⟩:=O.out.shape;have ar:=Y.out;rw [bg];show zN L+1 - ((128::List.replicate k (0:Int))++[0]).length < zN L+1 - l1;rw [List.length_append,List.length_cons,List.length_replicate];simp only [List.length_cons,List.length_nil];omega
theorem ybk {P:Program} {w:World} {ops:Array Oper} {H:List Oper} {o:Oper} {a:Act} {Q:Exit->Act->World->Prop} (K:o.guard=none) (J:TypeId) (x y:Operand) (N:o.op= .store J x y)
 (g:Nat) (t:TypeId) (G cells:Array Value) (T:a.eval x= .pointer (some ⟨g,0,none⟩)) (O:a.eval y= .agg cells) (L:w.heap[g]? =some (.cells G t (0,0))) (hi:(P.info? J).map (·.size)=some cells.size)
 (hs:G.size=cells.size) (h1:cells.all (·.oneCell')=true)
 (h:∀w',Hid (w'.heap[g]? =some (.cells cells t (0,0)))->Hid (But (fun k=>k=g) w w')->wpList P ops Q H (a.put o.dst undef) w'):wpList P ops Q (o::H) a w:=by
 refine wpList_store_row K J x y N g cells T O t G L hi hs h1 ?_;exact h _ (setRow_heap w g _ _ t _ L) ⟨rfl,rfl,rfl,by simp [World.setRow],fun k _ M=>setRow_other w g k cells M⟩
theorem u32_one (l:List Int):((l.map U32).toArray).all (·.oneCell')=true:=by
 rw [Array.all_eq_true'];intro x hx;have hx':x∈l.map U32:=by simpa using hx
 obtain ⟨y,_,rfl⟩:=List.mem_map.1 hx';rfl
theorem Tryz.size8:(prog.info? 251).map (·.size)=some 8:=by kernel_rfl
theorem ybq {P:Program} {ops:Array Oper} {H:List Oper} {o:Oper} {a:Act} {w:World} {Q:Exit->Act->World->Prop} (J:o.guard=none) (t:TypeId) (G:Array (Nat × Operand)) (K:o.op= .build t G) (cells:Array Value)
 (hf:P.built t (G.map fun (i,x)=>(i,a.eval x)).toList=some cells)
 (h:wpList P ops Q H (a.put o.dst (.agg cells)) w):wpList P ops Q (o::H) a w:=
 wpList_build J t G K (by rw [hf];rfl) (by rw [hf];exact h)
def kParts:Array (Nat × Operand):=(kTab.zipIdx.map fun (x,i)=>(i,Operand.const (U32 x))).toArray
def kArr:Array Value:=(kTab.map U32).toArray
theorem kBuilt (a:Act):prog.built 293 (kParts.map fun (i,x)=>(i,a.eval x)).toList=some kArr:=by kernel_rfl
theorem kArr_size:(prog.info? 293).map (·.size)=some kArr.size:=by kernel_rfl
theorem kArr_one:kArr.all (·.oneCell')=true:=u32_one _
theorem constants_any (w:World):Calls prog 234 #[] w fun e G=>e= .returned (.agg kArr)/\Below w.heap.size w G:=by
 go_enter func234,ntmps234
 go_wp2_with (first
  |(with_reducible refine ybq (o:=⟨some 1,_,_,_,_,_⟩) rfl 293 kParts ybi kArr (kBuilt _) ?_)
  |(with_reducible refine ybr (o:=⟨none,_,_,_,_,_⟩) rfl 293 (.tmp 0) (.tmp 1) rfl 293 _ kArr rfl rfl kArr_size ybi kArr_one ?_))
 exact bodyPost_ret (results_cell_row rfl _ _ _ _ _ _ _ rfl (zy w _) underlying293 rfl kArr_size) rfl ⟨rfl,bl⟩
def vArr (v:W8):Array Value:=(v.list.map U32).toArray
theorem karr_cell {w:World} {g i:Nat} {t:TypeId} {fr:Nat × Nat} {x:Int} (h:w.heap[g]? =some (.cells kArr t fr)) (G:kTab[i]? =some x):w.cell? ⟨g,i,none⟩=some (U32 x):=by
 rw [cell_of_row w g i _ _ _ h];unfold kArr;rw [List.getElem?_toArray,List.getElem?_map,G];rfl
theorem ybD {w:World} {g i:Nat} {t:TypeId} {fr:Nat × Nat} {x:Int} {v:W8} (h:w.heap[g]? =some (.cells (vArr v) t fr)) (G:v.list[i]? =some x):w.cell? ⟨g,i,none⟩=some (U32 x):=by
 rw [cell_of_row w g i _ _ _ h];unfold vArr;rw [List.getElem?_toArray,List.getElem?_map,G];rfl
def RwP (g:Nat) (bs:List Int) (lo hi:Nat) (W:World) (i:Value) (wr:World):Prop:=
 ∃t:Nat,lo<=t/\t<=hi/\i= .int .i64 t/\Hid (wr.heap[g]? =some (.cells ((zw bs t).map U32++[]).toArray 293 (0,0)))/\Hid (But (fun k=>k=g) W wr)
def RrP (g:Nat) (bs:List Int) (v:W8) (W:World) (i:Value) (wr:World):Prop:=
 ∃(t:Nat) (r:W8),t<=64/\r=rnds (sch bs 64) v t/\i= .int .i64 t/\Hid (wr.heap[g]? =some (.cells (vArr r) 251 (0,0)))/\Hid (But (fun k=>k=g) W wr)
def RsP (g:Nat) (v r:W8) (W:World) (i:Value) (wr:World):Prop:=
 ∃j:Nat,j<=8/\i= .int .i64 j/\Hid (wr.heap[g]? =some (.cells (((addW v r).list.take j++r.list.drop j).map U32++[]).toArray 251 (0,0)))/\Hid (But (fun k=>k=g) W wr)
theorem yeh (v:W8):(vArr v).all (·.oneCell')=true:=u32_one _
theorem ycp (v:W8):(prog.info? 251).map (·.size)=some (vArr v).size:=Tryz.size8
theorem arr8_one (a b c d e f g h:Int):(#[U32 a,U32 b,U32 c,U32 d,U32 e,U32 f,U32 g,U32 h]:Array Value).all (·.oneCell')=true:=u32_one [a,b,c,d,e,f,g,h]
theorem vArr_sz (v:W8) (a b c d e f g h:Int):(vArr v).size=(#[U32 a,U32 b,U32 c,U32 d,U32 e,U32 f,U32 g,U32 h]:Array Value).size:=rfl
theorem arr8_size (a b c d e f g h:Int):(prog.info? 251).map (·.size)=some (#[U32 a,U32 b,U32 c,U32 d,U32 e,U32 f,U32 g,U32 h]:Array Value).size:=Tryz.size8
theorem sum_setr (v r:W8) {j:Nat} {x y:Int} (hj:j < 8) (H:r.list[j]? =some x) (G:v.list[j]? =some y):((addW v r).list.take j++r.list.drop j).set j ((x+y) % 4294967296)=(addW v r).list.take (j+1)++r.list.drop (j+1):=by
 rw [Int.add_comm];obtain ⟨a,b,c,d,e,f,g,h⟩:=v;obtain ⟨a',N,L,K,O,M,T,J⟩:=r;rcases j with _ |_ |_ |_ |_ |_ |_ |_ |j
 all_goals first
  |(injection H with H;injection G with G;subst H G;rfl)
  |omega
def zParts:Array (Nat × Operand):=#[]
def zArr:Array Value:=((zw [] 0).map U32++[]).toArray
theorem zBuilt (a:Act):prog.built 293 (zParts.map fun (i,x)=>(i,a.eval x)).toList=some zArr:=by kernel_rfl
theorem zArr_size:(prog.info? 293).map (·.size)=some zArr.size:=by kernel_rfl
theorem zArr_one:zArr.all (·.oneCell')=true:=by kernel_rfl
theorem rblock_any (v:W8) (A:Option Addr) (c B:Nat) (bs:List Int) (w:World) (hv:W8ok v) (hb:Sl fB w B A 64 bs) (hB:B<=w.heap.size) (hr:Byt bs):
 Calls prog 182 #[.agg (vArr v),.slice A 64 c] w fun e w'=>e= .returned (.agg (vArr (blk v bs)))/\Below w.heap.size w w':=by
 obtain ⟨b,bG,_,rfl,bA,_,_⟩:=hb.2.at_ (k:=0) (by rw [hb.1];omega);have a7:=lh hb;have HR:=lh hr;have aX:Hid (b < w.heap.size):=Nat.lt_of_lt_of_le bA hB;have bC:=lh hv;clear hb hr hv;go_enter func182,ntmps182
 go_upto_region 2 with (first
  |(go_at_call 234;(refine (constants_any _).mono ?_);rintro e w1 ⟨rfl,aB⟩
    have HB1:=lh aB
    clear aB)
  |(with_reducible refine ybr (o:=⟨none,_,_,_,_,_⟩) rfl 293 (.tmp 5) (.tmp 22) rfl 293 _ kArr rfl rfl kArr_size ybi kArr_one ?_))
 obtain ⟨gk,ai⟩:∃n,n=w1.heap.size:=⟨_,rfl⟩
 have aL:Hid (w.heap.size+1 < gk):=by
  show _ < _;rw [ai];have:=HB1.out.size;simp at this;omega
 have bu:Hid (Below w.heap.size w w1):=(bl.alloc sI _).trans (HB1.out.mono ybh);have br:Hid (w1.heap[w.heap.size]? =some (.cells (vArr v) 251 (0,0))):=(HB1.out.block w.heap.size ybh).trans ((zx _ _ _ sI).trans (zy w _));have bp:Hid (w1.heap[w.heap.size+1]? =some (.cells #[U32 0,U32 0,U32 0,U32 0,U32 0,U32 0,U32 0,U32 0] 251 (0,0))):=(HB1.out.block (w.heap.size+1) sI).trans (heap_alloc2_new w _ _);generalize aK:w1.alloc (.cells kArr 293)=W0;rw [<-ai];obtain ⟨J,aR⟩:∃n,n=W0.heap.size:=⟨_,rfl⟩
 have aq:Hid (J=gk+1):=by show _=_;rw [aR,<-aK,ai];simp
 have aZ:Hid (Below gk w1 W0):=by show Below ..;rw [<-aK,ai];exact bl
 have bm:Hid (W0.heap[gk]? =some (.cells kArr 293 (0,0))):=by show _=_;rw [<-aK,ai];exact zy w1 _
 have bO:=lh ai;have aD:=lh aR;clear aK ai aR
 go_upto_region 4 with (first
  |(with_reducible refine ybq (o:=⟨some 23,_,_,_,_,_⟩) rfl 293 zParts ybi zArr (zBuilt _) ?_)
  |(with_reducible refine ybr (o:=⟨none,_,_,_,_,_⟩) rfl 293 (.tmp 6) (.tmp 23) rfl 293 _ zArr rfl rfl zArr_size ybi zArr_one ?_))
 rw [<-aD.out];generalize a0:W0.alloc (.cells zArr 293)=W1;have aJ:Hid (Below J W0 W1):=by show Below ..;rw [<-a0,aD.out];exact bl
 have bL:Hid (W1.heap[J]? =some (.cells ((zw bs 0).map U32++[]).toArray 293 (0,0))):=by show _=_;rw [<-a0,aD.out];exact zy W0 _
 have aG:Hid (W1.heap[gk]? =some (.cells kArr 293 (0,0))):=(aJ.out.block gk (by have:=aq.out;omega)).trans bm.out;have N:Hid (w.heap.size+2 < J):=by have:=aL.out;have:=aq.out;show _ < _;omega
 have HBW:Hid (Below w.heap.size w W1):=bu.out.trans ((aZ.out.mono (by have:=aL.out;omega)).trans (aJ.out.mono (by have:=N.out;omega)));have aC:Hid (W1.heap[w.heap.size]? =some (.cells (vArr v) 251 (0,0))):=((aJ.out.block _ (by have:=N.out;omega)).trans (aZ.out.block _ (by have:=aL.out;omega))).trans br.out;have aF:Hid (W1.heap[w.heap.size+1]? =some (.cells #[U32 0,U32 0,U32 0,U32 0,U32 0,U32 0,U32 0,U32 0] 251 (0,0))):=((aJ.out.block _ (by have:=N.out;omega)).trans (aZ.out.block _ (by have:=aL.out;omega))).trans bp.out;clear a0 br bp bm
 go_loopw [7] (fun i wr=>RwP J bs 0 16 W1 i wr) (fun i _=>16 - (intOf i).toNat)
 case atStart=>exact ⟨0,by omega,by omega,rfl,bL,But.refl _ _⟩
 case round=>
  obtain ⟨t,bB,ht,rfl,M,H⟩:=hrel
  by_cases aS:t < 16
  ·
   have ax:∀k,k < 64->wr.cell? ⟨b,bG+k,none⟩=some (fB (bs.getD k 0))/\0<=bs.getD k 0/\bs.getD k 0 < 256:=fun k hk=>by
    obtain ⟨x,hx⟩:=ybQ (xs:=bs) (k:=k) (by rw [a7.out.1];exact hk);obtain ⟨b',bN,e,_,bE⟩:=a7.out.2 (by rw [a7.out.1];omega);cases e
    rw [ybA hx];exact ⟨(cB (w:=w) ((H.out.block b (Nat.lt_of_lt_of_le aX.out HBW.out.size) (fun e=>by have:=aX.out;have:=N.out;omega)).trans (HBW.out.block b aX.out))).trans (bE k x hx),HR.out x (List.mem_of_getElem? hx)⟩
   have af:=ax (4*t) om;have aj:=ax (4*t+1) om;have aO:=ax (4*t+2) om;have aV:=ax (4*t+3) om
   have HT:Hid (∀y0 y1 y2 y3:Int,bs.getD (4*t) 0=y0->bs.getD (4*t+1) 0=y1->bs.getD (4*t+2) 0=y2->bs.getD (4*t+3) 0=y3->(zw bs t).set t (word4 y0 y1 y2 y3)=zw bs (t+1)):=by
    rintro y0 y1 y2 y3 rfl rfl rfl rfl;have h9:=zw_set (bs:=bs) (t:=t) om;rw [if_pos aS] at h9;exact h9
   obtain ⟨y0,a2⟩:=gX (bs.getD (4*t) 0);obtain ⟨y1,aQ⟩:=gX (bs.getD (4*t+1) 0);obtain ⟨y2,aW⟩:=gX (bs.getD (4*t+2) 0);obtain ⟨y3,a4⟩:=gX (bs.getD (4*t+3) 0);have aU:=lh (HT.out y0 y1 y2 y3 a2 aQ aW a4);rw [a2] at af;rw [aQ] at aj;rw [aW] at aO;rw [a4] at aV;obtain ⟨q0,bh⟩:∃q,q=4*t:=⟨_,rfl⟩
   obtain ⟨q1,bo⟩:∃q,q=4*t+1:=⟨_,rfl⟩
   obtain ⟨q2,bi⟩:∃q,q=4*t+2:=⟨_,rfl⟩
   obtain ⟨q3,bb⟩:∃q,q=4*t+3:=⟨_,rfl⟩
   rw [<-bh] at af;rw [<-bo] at aj;rw [<-bi] at aO;rw [<-bb] at aV;obtain ⟨c0,l0,u0⟩:=af;obtain ⟨c1,l1,u1⟩:=aj;obtain ⟨c2,l2,u2⟩:=aO;obtain ⟨c3,l3,u3⟩:=aV;have m0:IntKind.i64.wrap (4*(t:Int))=(q0:Int):=by rw [IntWalk.i64_in _ om];omega
   have m1:IntKind.i64.wrap ((q0:Int)+1)=(q1:Int):=by rw [IntWalk.i64_in _ om];omega
   have m2:IntKind.i64.wrap ((q0:Int)+2)=(q2:Int):=by rw [IntWalk.i64_in _ om];omega
   have m3:IntKind.i64.wrap ((q0:Int)+3)=(q3:Int):=by rw [IntWalk.i64_in _ om];omega
   have g0:(q0:Int) < 64:=by omega
   have g1:(q1:Int) < 64:=by omega
   have g2:(q2:Int) < 64:=by omega
   have g3:(q3:Int) < 64:=by omega
   have bQ:(t:Int) < 64:=by omega
   have bY:(t:Int) < 16:=by omega
   obtain ⟨z,hz⟩:=ybQ (xs:=zw bs t) (k:=t) (by rw [zw_len om];omega);have aw:=ybz M.out hz;have bx:=frozen_of_row wr J t _ _ M.out;clear ax a2 aQ aW a4 hz HT bh bo bi bb;go_wp2
   go_still_tail 35,ybi
   repeat still_step
   try refine wpStill_nil ?_
   change wpList _ _ _ _ _ wr.drew
   go_wp2;refine ⟨?rel,?measure⟩
   case rel=>exact ⟨t+1,by omega,by omega,by go_num,by
    show _=_;rw [<-aU.out]
    exact ydQ (w:=wr.drew) M.out (by rw [zw_len om];omega),(H.out.drewN 1).setCell (.inl rfl) _⟩
   case measure=>simp [intOf];omega
  ·
   obtain rfl:t=16:=by omega
   go_wp2
   go_loopw [8] (fun i wr=>RwP J bs 16 64 W1 i wr) (fun i _=>64 - (intOf i).toNat)
   case atStart=>exact ⟨16,by omega,by omega,rfl,M,H⟩
   case round=>
    obtain ⟨t,bB,ht,rfl,M,H⟩:=hrel
    by_cases hlt:t < 64
    ·
     have aS:¬t < 16:=by omega
     obtain ⟨p2,e2⟩:∃p,p=t - 2:=⟨_,rfl⟩
     obtain ⟨p7,e7⟩:∃p,p=t - 7:=⟨_,rfl⟩
     obtain ⟨ac,a9⟩:∃p,p=t - 15:=⟨_,rfl⟩
     obtain ⟨ah,bf⟩:∃p,p=t - 16:=⟨_,rfl⟩
     have ag:=ybz M.out (ydh (bs:=bs) (t:=t) (i:=p2) om);have aA:=ybz M.out (ydh (bs:=bs) (t:=t) (i:=p7) om);have az:=ybz M.out (ydh (bs:=bs) (t:=t) (i:=ac) om);have au:=ybz M.out (ydh (bs:=bs) (t:=t) (i:=ah) om)
     have HT:Hid (∀y14 y9 y1 y0:Int,(sch bs t).getD p2 0=y14->(sch bs t).getD p7 0=y9->(sch bs t).getD ac 0=y1->(sch bs t).getD ah 0=y0->(zw bs t).set t (ad (ad (ad (sgB y14) y9) (sgA y1)) y0)=zw bs (t+1)):=by
      rintro _ _ _ _ rfl rfl rfl rfl;have h9:=zw_set (bs:=bs) hlt;rw [if_neg aS] at h9;subst e2 e7 a9 bf;exact h9
     have ar:=yc9 bs t p2;have l1:=yc9 bs t ac;obtain ⟨ae,aE⟩:=gX ((sch bs t).getD p2 0);obtain ⟨x9,a1⟩:=gX ((sch bs t).getD p7 0);obtain ⟨x1,aj⟩:=gX ((sch bs t).getD ac 0);obtain ⟨x0,af⟩:=gX ((sch bs t).getD ah 0);have aU:=lh (HT.out ae x9 x1 x0 aE a1 aj af);rw [aE] at ag ar;rw [a1] at aA;rw [aj] at az l1;rw [af] at au;have w2:IntKind.i64.wrap ((t:Int) - 2)=(p2:Int):=by rw [IntWalk.i64_in _ om];omega
     have w7:IntKind.i64.wrap ((t:Int) - 7)=(p7:Int):=by rw [IntWalk.i64_in _ om];omega
     have bV:IntKind.i64.wrap ((t:Int) - 15)=(ac:Int):=by rw [IntWalk.i64_in _ om];omega
     have bZ:IntKind.i64.wrap ((t:Int) - 16)=(ah:Int):=by rw [IntWalk.i64_in _ om];omega
     have q2:(p2:Int) < 64:=by omega
     have q7:(p7:Int) < 64:=by omega
     have bX:(ac:Int) < 64:=by omega
     have bU:(ah:Int) < 64:=by omega
     have qt:(t:Int) < 64:=by omega
     clear e2 e7 a9 bf;obtain ⟨z,hz⟩:=ybQ (xs:=zw bs t) (k:=t) ya9;have aw:=ybz M.out hz;clear aE a1 aj af HT hz;go_upto_region 10 with fail
     go_quiet (first |(go_at_call 235;with_reducible exact Calls.quiet_of (ych x1 7 7 _ rfl de de l1.1 l1.2)) |(go_at_call 235;with_reducible exact Calls.quiet_of (ych x1 18 18 _ rfl de de l1.1 l1.2)))
     generalize G:World.drewN wr _=W2;replace ag:W2.cell? ⟨J,p2,none⟩=some (U32 ae):=by rw [<-G];exact ag
     replace aA:W2.cell? ⟨J,p7,none⟩=some (U32 x9):=by rw [<-G];exact aA
     replace az:W2.cell? ⟨J,ac,none⟩=some (U32 x1):=by rw [<-G];exact az
     replace au:W2.cell? ⟨J,ah,none⟩=some (U32 x0):=by rw [<-G];exact au
     replace aw:W2.cell? ⟨J,t,none⟩=some (U32 z):=by rw [<-G];exact aw
     replace M:Hid (W2.heap[J]? =some (.cells ((zw bs t).map U32++[]).toArray 293 (0,0))):=by show _=_;rw [<-G];exact M.out
     replace H:Hid (But (fun k=>k=J) W1 W2):=by show But ..;rw [<-G];exact H.out.drewN _
     clear G;go_upto_region 11 with fail
     go_quiet (first |(go_at_call 235;with_reducible exact Calls.quiet_of (ych ae 17 17 _ rfl de de ar.1 ar.2)) |(go_at_call 235;with_reducible exact Calls.quiet_of (ych ae 19 19 _ rfl de de ar.1 ar.2)))
     generalize G:World.drewN W2 _=W3;replace ag:W3.cell? ⟨J,p2,none⟩=some (U32 ae):=by rw [<-G];exact ag
     replace aA:W3.cell? ⟨J,p7,none⟩=some (U32 x9):=by rw [<-G];exact aA
     replace az:W3.cell? ⟨J,ac,none⟩=some (U32 x1):=by rw [<-G];exact az
     replace au:W3.cell? ⟨J,ah,none⟩=some (U32 x0):=by rw [<-G];exact au
     replace aw:W3.cell? ⟨J,t,none⟩=some (U32 z):=by rw [<-G];exact aw
     replace M:Hid (W3.heap[J]? =some (.cells ((zw bs t).map U32++[]).toArray 293 (0,0))):=by show _=_;rw [<-G];exact M.out
     replace H:Hid (But (fun k=>k=J) W1 W3):=by show But ..;rw [<-G];exact H.out.drewN _
     clear G;have bx:=frozen_of_row W3 J t _ _ M.out;go_upto_region 12 with fail
     go_still_tail 15,ybi
     repeat still_step
     try refine wpStill_nil ?_
     change wpList _ _ _ _ _ W3.drew
     go_wp2;refine ⟨⟨_,_,_,_,_,_,_,_,_,_,_,_,_,_,_,_,_,_,_,_,_,_,_,_,_,_,_,_,_,_,_,_,_,_,_,_,_,_,_,_,_,_,_,_,_,_,_,_,_,_,_,_,_,_,_,_,?rel,rfl⟩,?measure⟩
     case rel=>exact ⟨t+1,by omega,by omega,by go_num,by
      show _=_;rw [<-aU.out,show ad (ad (ad (sgB ae) x9) (sgA x1)) x0=(sgB ae+x9+sgA x1+x0) % 4294967296 by unfold ad;omega]
      exact ydQ (w:=W3) (x:=(sgB ae+x9+sgA x1+x0) % 4294967296) M.out ya9,(H.out.setCell (.inl rfl) _).drewN 1⟩
     case measure=>
      show 64 - ((t:Int)+1).toNat < 64 - (t:Int).toNat;omega
    ·
     obtain rfl:t=64:=by omega
     have aN:=M;have aM:Hid (wr.heap[w.heap.size]? =some (.cells (vArr v) 251 (0,0))):=(H.out.block _ (lb aC.out) (by have:=N.out;omega)).trans aC.out;have aa:Hid (wr.heap[w.heap.size+1]? =some (.cells #[U32 0,U32 0,U32 0,U32 0,U32 0,U32 0,U32 0,U32 0] 251 (0,0))):=(H.out.block _ (lb aF.out) (by have:=N.out;omega)).trans aF.out;have a5:Hid (wr.heap[gk]? =some (.cells kArr 293 (0,0))):=(H.out.block _ (lb aG.out) (by have:=aq.out;omega)).trans aG.out;have HBr:Hid (Below w.heap.size w wr):=HBW.out.trans (H.out.below HBW.out.size (fun i hi=>by have:=N.out;omega));obtain ⟨gv,Y⟩:∃n,n=wr.heap.size:=⟨_,rfl⟩
     go_upto_region 14 with (first
      |(with_reducible refine wpList_load_row (o:=⟨some 116,_,_,_,_,_⟩) rfl 251 (.tmp 2) rfl w.heap.size rfl 251 (vArr v) (0,0) _ aM.out underlying251 rfl (ycp v) ?_)
      |(with_reducible refine ybr (o:=⟨none,_,_,_,_,_⟩) rfl 251 (.tmp 11) (.tmp 116) rfl 251 _ (vArr v) rfl rfl (ycp v) rfl (yeh v) ?_))
     rw [<-Y];generalize aY:wr.alloc (.cells (vArr v) 251)=W2;have am:Hid (Below gv wr W2):=by show Below ..;rw [<-aY,Y];exact bl
     have bI:Hid (W2.heap[gv]? =some (.cells (vArr v) 251 (0,0))):=by show _=_;rw [<-aY,Y];exact zy wr _
     have be:Hid (W2.heap[J]? =some (.cells ((zw bs 64).map U32++[]).toArray 293 (0,0))):=(am.out.block J (by rw [Y];exact lb aN.out)).trans aN.out;have bj:Hid (W2.heap[gk]? =some (.cells kArr 293 (0,0))):=(am.out.block gk (by rw [Y];exact lb a5.out)).trans a5.out;have bq:Hid (W2.heap[w.heap.size]? =some (.cells (vArr v) 251 (0,0))):=(am.out.block _ (by rw [Y];exact lb aM.out)).trans aM.out;have bg:Hid (W2.heap[w.heap.size+1]? =some (.cells #[U32 0,U32 0,U32 0,U32 0,U32 0,U32 0,U32 0,U32 0] 251 (0,0))):=(am.out.block _ (by rw [Y];exact lb aa.out)).trans aa.out;have ak:Hid (J < gv):=by show _ < _;rw [Y];exact lb aN.out
     have a6:Hid (Below w.heap.size w W2):=HBr.out.trans (am.out.mono (by have:=ak.out;have:=N.out;omega));have bP:=lh Y;clear aY Y aM aa a5 aN am aC aF aG;go_wp2
     go_loopw [12] (fun i wr=>RrP gv bs v W2 i wr) (fun i _=>64 - (intOf i).toNat)
     case atStart=>exact ⟨0,v,by omega,rfl,rfl,bI,But.refl _ _⟩
     case round=>
      obtain ⟨t,r,ht,aa,rfl,W,H⟩:=hrel
      by_cases hlt:t < 64
      ·
       have a8:Hid (W8ok r):=by rw [aa];exact bC.out.rnds _ _
       have ap:=a8.out.e;have al:=a8.out.a;obtain ⟨xk,aT⟩:=ybQ (xs:=kTab) (k:=t) hlt;obtain ⟨U,a3⟩:=gX ((sch bs 64).getD t 0);have ay:=karr_cell ((H.out.block gk (lb bj.out) (by have:=aq.out;have:=ak.out;omega)).trans bj.out) aT;have ao:=ybz ((H.out.block J (lb be.out) (by have:=ak.out;omega)).trans be.out) (ydh (bs:=bs) (t:=64) (i:=t) om);rw [a3] at ao
       have bF:Hid (rnds (sch bs 64) v (t+1)=rnd r xk U):=by
        show _=_;rw [rnds,<-aa,a3,ybA aT]
       have HA:=lh (rnd_a r xk U);have HE:=lh (rnd_e r xk U);clear aa a3 aT;obtain ⟨L,rb,Z,rd,K,O,T,rh⟩:=r;have v0:=ybD W.out (i:=0) rfl;have v1:=ybD W.out (i:=1) rfl;have v2:=ybD W.out (i:=2) rfl;have v3:=ybD W.out (i:=3) rfl;have v4:=ybD W.out (i:=4) rfl;have v5:=ybD W.out (i:=5) rfl;have v6:=ybD W.out (i:=6) rfl;have v7:=ybD W.out (i:=7) rfl;have hq:(t:Int) < 64:=by omega
       go_upto_region 17 with fail
       go_quiet (fail)
       generalize G:World.drewN wr _=W3;replace v0:W3.cell? ⟨gv,0,none⟩=some (U32 L):=by rw [<-G];exact v0
       replace v1:W3.cell? ⟨gv,1,none⟩=some (U32 rb):=by rw [<-G];exact v1
       replace v2:W3.cell? ⟨gv,2,none⟩=some (U32 Z):=by rw [<-G];exact v2
       replace v3:W3.cell? ⟨gv,3,none⟩=some (U32 rd):=by rw [<-G];exact v3
       replace v4:W3.cell? ⟨gv,4,none⟩=some (U32 K):=by rw [<-G];exact v4
       replace v5:W3.cell? ⟨gv,5,none⟩=some (U32 O):=by rw [<-G];exact v5
       replace v6:W3.cell? ⟨gv,6,none⟩=some (U32 T):=by rw [<-G];exact v6
       replace v7:W3.cell? ⟨gv,7,none⟩=some (U32 rh):=by rw [<-G];exact v7
       replace ay:W3.cell? ⟨gk,t,none⟩=some (U32 xk):=by rw [<-G];exact ay
       replace ao:W3.cell? ⟨J,t,none⟩=some (U32 U):=by rw [<-G];exact ao
       replace W:Hid (W3.heap[gv]? =some (.cells (vArr ⟨L,rb,Z,rd,K,O,T,rh⟩) 251 (0,0))):=by show _=_;rw [<-G];exact W.out
       replace H:Hid (But (fun k=>k=gv) W2 W3):=by show But ..;rw [<-G];exact H.out.drewN _
       clear G;go_upto_region 18 with fail
       go_quiet (first |(go_at_call 235;with_reducible exact Calls.quiet_of (ych K 6 6 _ rfl de de ap.1 ap.2)) |(go_at_call 235;with_reducible exact Calls.quiet_of (ych K 11 11 _ rfl de de ap.1 ap.2)) |(go_at_call 235;with_reducible exact Calls.quiet_of (ych K 25 25 _ rfl de de ap.1 ap.2)))
       generalize G:World.drewN W3 _=W4;replace v0:W4.cell? ⟨gv,0,none⟩=some (U32 L):=by rw [<-G];exact v0
       replace v1:W4.cell? ⟨gv,1,none⟩=some (U32 rb):=by rw [<-G];exact v1
       replace v2:W4.cell? ⟨gv,2,none⟩=some (U32 Z):=by rw [<-G];exact v2
       replace v3:W4.cell? ⟨gv,3,none⟩=some (U32 rd):=by rw [<-G];exact v3
       replace v4:W4.cell? ⟨gv,4,none⟩=some (U32 K):=by rw [<-G];exact v4
       replace v5:W4.cell? ⟨gv,5,none⟩=some (U32 O):=by rw [<-G];exact v5
       replace v6:W4.cell? ⟨gv,6,none⟩=some (U32 T):=by rw [<-G];exact v6
       replace v7:W4.cell? ⟨gv,7,none⟩=some (U32 rh):=by rw [<-G];exact v7
       replace ay:W4.cell? ⟨gk,t,none⟩=some (U32 xk):=by rw [<-G];exact ay
       replace ao:W4.cell? ⟨J,t,none⟩=some (U32 U):=by rw [<-G];exact ao
       replace W:Hid (W4.heap[gv]? =some (.cells (vArr ⟨L,rb,Z,rd,K,O,T,rh⟩) 251 (0,0))):=by show _=_;rw [<-G];exact W.out
       replace H:Hid (But (fun k=>k=gv) W2 W4):=by show But ..;rw [<-G];exact H.out.drewN _
       clear G;go_upto_region 19 with fail
       go_upto_region 20 with (first
        |(go_at_call 235;(with_reducible (refine (ych L 2 2 _ rfl de de al.1 al.2).mono ?_));rintro e w6 ⟨rfl,n6,rfl⟩)
        |(go_at_call 235;(with_reducible (refine (ych L 13 13 _ rfl de de al.1 al.2).mono ?_));rintro e w6 ⟨rfl,n6,rfl⟩)
        |(go_at_call 235;(with_reducible (refine (ych L 22 22 _ rfl de de al.1 al.2).mono ?_));rintro e w6 ⟨rfl,n6,rfl⟩))
       generalize hT:(HMod.hMod (HAdd.hAdd _ U) 4294967296:Int)=t1;generalize hS:(HMod.hMod (HAdd.hAdd (bits BinOp.xor IntKind.u32 (bits BinOp.xor IntKind.u32 (ror 2 L) _) _) _) 4294967296:Int)=t2;generalize G:World.drewN W4 _=W5;have HT:=lh hT;have HS:=lh hS;clear hT hS;replace v3:W5.cell? ⟨gv,3,none⟩=some (U32 rd):=by rw [<-G];exact v3
       replace W:Hid (W5.heap[gv]? =some (.cells (vArr ⟨L,rb,Z,rd,K,O,T,rh⟩) 251 (0,0))):=by show _=_;rw [<-G];exact W.out
       replace H:Hid (But (fun k=>k=gv) W2 W5):=by show But ..;rw [<-G];exact H.out.drewN _
       clear G v0 v1 v2 v4 v5 v6 v7 ay ao
       go_upto_region 16 with (first
        |((with_reducible refine ybk (o:=⟨none,_,_,_,_,_⟩) rfl 251 (.tmp 11) (.tmp 194) rfl gv 251 _ _ rfl rfl W.out (arr8_size _ _ _ _ _ _ _ _) (vArr_sz _ _ _ _ _ _ _ _ _) (arr8_one _ _ _ _ _ _ _ _) ?_);intro W6 bz HB6))
       go_wp
       refine ⟨⟨t+1,rnds (sch bs 64) v (t+1),by omega,rfl,by go_num,?_,H.out.trans HB6.out (fun i hi=> .inl hi)⟩,by simp [intOf];omega⟩;show _=_;rw [bF.out];have e0:IntKind.u32.max=(4294967295:Int):=by decide
       have bk:=HT.out;rw [e0] at bk;have e1:t1=(rh+sgC K+chX K O T+xk+U) % 4294967296:=bk.symm;have e2:t2=(sgD L+majX L rb Z) % 4294967296:=HS.out.symm
       have ea:(rnd ⟨L,rb,Z,rd,K,O,T,rh⟩ xk U).a=(t1+t2) % 4294967296:=by
        rw [HA.out,e1,e2];show ((rh+sgC K+chX K O T+xk+U)+(sgD L+majX L rb Z)) % 4294967296=((rh+sgC K+chX K O T+xk+U) % 4294967296+(sgD L+majX L rb Z) % 4294967296) % 4294967296;omega
       have ee:(rnd ⟨L,rb,Z,rd,K,O,T,rh⟩ xk U).e=(rd+t1) % 4294967296:=by
        rw [HE.out,e1];show (rd+(rh+sgC K+chX K O T+xk+U)) % 4294967296=(rd+(rh+sgC K+chX K O T+xk+U) % 4294967296) % 4294967296;omega
       have he:vArr (rnd ⟨L,rb,Z,rd,K,O,T,rh⟩ xk U)=#[U32 ((t1+t2) % 4294967296),U32 L,U32 rb,U32 Z,U32 ((rd+t1) % 4294967296),U32 K,U32 O,U32 T]:=by
        show #[U32 (rnd ⟨L,rb,Z,rd,K,O,T,rh⟩ xk U).a,U32 L,U32 rb,U32 Z,U32 (rnd ⟨L,rb,Z,rd,K,O,T,rh⟩ xk U).e,U32 K,U32 O,U32 T]=_;rw [ea,ee]
       rw [he];exact bz.out
      ·
       obtain rfl:t=64:=by omega
       have bv:Hid (r=rnds (sch bs 64) v 64):=aa;clear aa;go_wp2
       go_loopw [21] (fun i wr=>RsP gv v r W2 i wr) (fun i _=>8 - (intOf i).toNat)
       case atStart=>exact ⟨0,by omega,rfl,W.out,H⟩
       case round=>
        obtain ⟨j,hj,rfl,aH,aI⟩:=hrel;have bH:Hid (wr.heap[w.heap.size]? =some (.cells (vArr v) 251 (0,0))):=(aI.out.block _ (lb bq.out) (by have:=N.out;have:=ak.out;omega)).trans bq.out;have bw:Hid (wr.heap[w.heap.size+1]? =some (.cells #[U32 0,U32 0,U32 0,U32 0,U32 0,U32 0,U32 0,U32 0] 251 (0,0))):=(aI.out.block _ (lb bg.out) (by have:=N.out;have:=ak.out;omega)).trans bg.out
        by_cases aP:j < 8
        ·
         obtain ⟨y,hy⟩:=ybQ (xs:=v.list) (k:=j) aP;obtain ⟨x,hx⟩:=ybQ (xs:=r.list) (k:=j) aP;have bW:=ybD bH.out hy
         have bJ:j < (((addW v r).list.take j++r.list.drop j)).length:=by
          rw [List.length_append,List.length_take,List.length_drop];show j < min j 8+(8 - j);omega
         have bT:=ybz aH.out (x:=x) (by rw [List.getElem?_append_right (by rw [List.length_take];show min j 8<=j;omega),List.length_take,List.getElem?_drop];show r.list[j+(j - min j 8)]? =_;rw [show j+(j - min j 8)=j by omega];exact hx);have bS:=frozen_of_row wr gv j _ _ aH.out;have b0:(j:Int) < 8:=by omega
         have bM:=lh (sum_setr v r aP hx hy);clear hy hx;go_upto_region 24 with fail
         go_still_tail 8,ybi
         repeat still_step
         try refine wpStill_nil ?_
         change wpList _ _ _ _ _ wr.drew
         go_upto_region 23 with fail
         go_wp
         refine ⟨⟨_,_,_,_,_,_,_,_,_,_,_,_,_,⟨j+1,by omega,by go_num,?_,(aI.out.setCell (.inl rfl) _).drewN 1⟩,rfl⟩,?_⟩
         ·show _=_;rw [<-bM.out];exact ydQ (w:=wr) (x:=(x+y) % 4294967296) aH.out bJ
         ·show 8 - ((j:Int)+1).toNat < 8 - (j:Int).toNat;omega
        ·
         obtain rfl:j=8:=by omega
         have bK:Hid (wr.heap[gv]? =some (.cells (vArr (addW v r)) 251 (0,0))):=aH.out
         go_wp2_with (first
          |(with_reducible refine wpList_load_row (o:=⟨some 207,_,_,_,_,_⟩) rfl 251 (.tmp 11) rfl gv rfl 251 (vArr (addW v r)) (0,0) _ bK.out underlying251 rfl (ycp _) ?_)
          |((with_reducible refine ybk (o:=⟨none,_,_,_,_,_⟩) rfl 251 (.tmp 4) (.tmp 207) rfl (w.heap.size+1) 251 _ (vArr (addW v r)) rfl rfl bw.out (ycp _) (vArr_sz (addW v r) _ _ _ _ _ _ _ _).symm (yeh _) ?_);intro W7 bD HB7))
         have he:blk v bs=addW v r:=by unfold blk;rw [bv.out]
         refine bodyPost_ret (results_cell_row rfl _ _ _ _ _ _ _ rfl bD.out underlying251 rfl (ycp _)) rfl ⟨by rw [he],?_⟩;have aB:=a6.out.trans (aI.out.below a6.out.size (fun i hi=>by have:=ak.out;have:=N.out;omega));exact aB.trans (HB7.out.below aB.size (fun i hi=>by omega))
