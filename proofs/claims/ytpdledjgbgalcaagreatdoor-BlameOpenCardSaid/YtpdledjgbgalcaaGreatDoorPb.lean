import Derived.Test.YtpdledjgbgalcaaGreatDoorPa
namespace Go.Proofs.YtpdledjgbgalcaaGreatDoor
set_option maxRecDepth 100000
set_option maxHeartbeats 8000000
open Go.RowKit Go.Proofs.Tryz
set_option linter.unusedVariables false
set_option linter.unusedSimpArgs false
def Byt (xs:List Int):Prop:=∀x∈xs,0<=x/\x < 256
theorem Byt.app {xs ys:List Int} (h:Byt xs) (k:Byt ys):Byt (xs++ys):=fun x hx=>by
 rcases List.mem_append.1 hx with h' |h'
 ·exact h x h'
 ·exact k x h'
theorem Byt.take {xs:List Int} (h:Byt xs) (n:Nat):Byt (xs.take n):=fun x hx=>h x (List.mem_of_mem_take hx)
theorem Byt.drop {xs:List Int} (h:Byt xs) (n:Nat):Byt (xs.drop n):=fun x hx=>h x (List.mem_of_mem_drop hx)
def hashN (bs:List Int):Nat->W8
 |0=>hTab
 |k+1=>blk (hashN bs k) ((bs.drop (64*k)).take 64)
theorem yd0 (bs:List Int):∀k,W8ok (hashN bs k)
 |0=>hTab_ok
 |k+1=>W8ok.blk ..
theorem ydi (bs xs:List Int):∀k,64*k<=bs.length->hashN (bs++xs) k=hashN bs k
 |0,_=>rfl
 |k+1,h=>by
  simp only [hashN];rw [ydi bs xs k om,List.drop_append_of_le_length om,List.take_append_of_le_length yaY]
def St (w:World) (g:Nat) (bs:List Int):Prop:=
 ∃buf:List Int,buf.length=64/\Byt buf/\Byt bs/\w.heap[g]? =some (oSt (hashN bs (bs.length / 64)) buf bs.length)/\buf.take (bs.length % 64)=bs.drop (64*(bs.length / 64))
theorem St.but {w H:World} {g:Nat} {bs:List Int} {p:Nat->Prop} (h:St w g bs) (K:But p w H) (hp:¬p g):St H g bs:=by
 obtain ⟨buf,h1,h2,L,G,J⟩:=h;exact ⟨buf,h1,h2,L,(K.block g (lb G) hp).trans G,J⟩
theorem st_n {w:World} {g:Nat} {v:W8} {buf:List Int} {n:Int} (h:w.heap[g]? =some (oSt v buf n)) (hl:buf.length=64):w.cell? ⟨g,72,none⟩=some (.int .i64 n):=by
 rw [cell_of_row w g 72 _ _ _ h];show (((v.list.map U32++(buf.map fB++[Value.int .i64 n]))).toArray)[72]? =_;rw [List.getElem?_toArray,List.getElem?_append_right (by simp [W8.list]),List.getElem?_append_right (by simp [W8.list,hl])];simp [W8.list,hl]
theorem st_set_n {w:World} {g:Nat} {v:W8} {buf:List Int} {n m:Int} (h:w.heap[g]? =some (oSt v buf n)) (hl:buf.length=64):(w.setCell ⟨g,72,none⟩ (.int .i64 m)).heap[g]? =some (oSt v buf m):=by
 rw [setCell_blk h];show some (Obj.cells ((v.list.map U32++(buf.map fB++[Value.int .i64 n])).toArray.setIfInBounds 72 (.int .i64 m)) _ _)=some (Obj.cells (v.list.map U32++(buf.map fB++[Value.int .i64 m])).toArray _ _);rw [List.setIfInBounds_toArray,List.set_append_right _ _ (by simp [W8.list]),List.set_append_right _ _ (by simp [W8.list,hl])];simp [W8.list,hl]
theorem ydj (v:W8) (buf ys:List Int) (n:Int) (u:Nat) (H:u+ys.length<=buf.length):splice (v.list.map U32++(buf.map fB++[Value.int .i64 n])) (8+u) (ys.map fB)=v.list.map U32++((buf.take u++(ys++buf.drop (u+ys.length))).map fB++[Value.int .i64 n]):=by
 have G:(v.list.map U32).length=8:=rfl;unfold splice;rw [List.take_append,List.drop_append,G,List.take_of_length_le (by rw [G];omega),List.drop_eq_nil_of_le (by rw [G];omega),List.nil_append,show 8+u - 8=u by omega,List.length_map,show 8+u+ys.length - 8=u+ys.length by omega,List.take_append_of_le_length (by rw [List.length_map];omega),List.drop_append_of_le_length (by rw [List.length_map];omega)];simp [List.map_take,List.map_drop,List.append_assoc]
theorem st_buf {w:World} {g B:Nat} {v:W8} {buf:List Int} {n:Int} (h:w.heap[g]? =some (oSt v buf n)) (hl:buf.length=64) (H:g < B):Sl fB w B (some ⟨g,8,none⟩) 64 buf:=⟨hl,fun _=>⟨g,8,rfl,H,fun k x G=>by
 have J:=(List.getElem?_eq_some_iff.1 G).1;rw [cell_of_row w g (8+k) _ _ _ h];show ((v.list.map U32++(buf.map fB++[Value.int .i64 n])).toArray)[8+k]? =_;rw [List.getElem?_toArray,List.getElem?_append_right (by simp [W8.list]),List.getElem?_append_left (by simp [W8.list];omega)]
 simp [W8.list,G]⟩⟩
theorem ybY {P:Program} {w:World} {ops:Array Oper} {G:List Oper} {o:Oper} {a:Act} {Q:Exit->Act->World->Prop} (J:o.guard=none) (d s:Operand) (H K:TypeId)
 (N:o.op= .call {callee:= .builtin .copy,args:=#[d,s],argTypes:=#[H,K]}) (elem:TypeId) (hu:P.underlying H=some (.slice elem)) (hsz:(P.info? elem).map (·.size)=some 1)
 (dp sp:Option Addr) (dLen dCap sLen sCap:Nat) (hd:a.eval d= .slice dp dLen dCap) (hs:a.eval s= .slice sp sLen sCap)
 (g off:Nat) (cur:List Value) (t:TypeId) (hg:w.heap[g]? =some (.cells cur.toArray t (0,0))) (cs:List Value) (hn:cs.length=Nat.min sLen dLen)
 (hpos:0 < cs.length->dp=some ⟨g,off,none⟩/\∃ad,sp=some ad/\∀j v,cs[j]? =some v->w.cell? (ad.add j)=some v)
 (hfit:off+cs.length<=cur.length) (h1:∀v∈cs,v.oneCell'=true)
 (h:∀w',Hid (w'.heap[g]? =some (.cells (splice cur off cs).toArray t (0,0)))->Hid (But (fun k=>k=g) w w')->wpList P ops Q G (a.put o.dst (goInt cs.length)) w'):
 wpList P ops Q (o::G) a w:=by
 by_cases h0:cs.length=0
 ·obtain rfl:cs=[]:=List.eq_nil_of_length_eq_zero h0;refine wpList_copy_nothing J d s H K N elem hu hsz dp sp dLen dCap sLen sCap hd hs (by simpa using hn.symm) ?_;exact h w (show _=_ by simpa [splice] using hg) (But.refl _ _)
 ·obtain ⟨rfl,ad,rfl,L⟩:=hpos om;refine wpList_copy_own J d s H K N elem hu hsz g off dLen dCap ad sLen sCap hd hs cur.toArray t hg cs hn L (by simpa using hfit) h1 ?_;exact h _ (show _=_ by simpa [splice] using setRow_heap w g _ _ t _ hg) ⟨rfl,rfl,rfl,by simp [World.setRow],fun k O M=>setRow_other w g k _ M⟩
theorem ybv {P:Program} (t e:Nat) (i:TypeInfo) (ht:P.underlying t=some (.slice e)) (hi:P.info? e=some i) (hs:i.size=1) (A:Option Addr) (n c:Nat) (G:IntKind) (h:Int) (m:Nat) (H:h=m) (h2:m<=n) (J:n<=c) (w:World):
 (Instr.slice t (.slice A n c) (some (.int G h)) none none).run P w= .ok (.slice (if c=m then A else A.map (·.add m)) (n - m) (c - m)) w:=by
 subst H;simp [Instr.slice,run_underlying ht,Instr.sliceBounds,run_sliceBound w G (m:Int) n _ om om,sizeOf,typeInfo,hi,hs]
theorem ydk {P:Program} (t e n:Nat) (i:TypeInfo) (ht:P.underlying t=some (.array n e)) (hi:P.info? e=some i) (hs:i.size=1) (g G:Nat) (H:IntKind) (h:Int) (m:Nat) (J:h=m) (h2:m < n) (w:World):
 (Instr.sliceAt t (.pointer (some ⟨g,G,none⟩)) (some (.int H h)) none none).run P w= .ok (.slice (some ⟨g,G+m,none⟩) (n - m) (n - m)) w:=by
 subst J;simp [Instr.sliceAt,run_underlying ht,Instr.sureAddr,Instr.sliceBounds,run_sliceBound w H (m:Int) n _ om om,sizeOf,typeInfo,hi,hs,Addr.add];rw [if_neg om]
 split
 ·rename_i h0;rw [h0,Nat.add_zero]
 ·rfl
theorem yb4 {P:Program} (t e n:Nat) (i:TypeInfo) (ht:P.underlying t=some (.array n e)) (hi:P.info? e=some i) (g G:Nat) (w:World):
 (Instr.sliceAt t (.pointer (some ⟨g,G,none⟩)) none none none).run P w= .ok (.slice (some ⟨g,G,none⟩) n n) w:=by
 simp [Instr.sliceAt,run_underlying ht,Instr.sureAddr,Instr.sliceBounds,sizeOf,typeInfo,hi,Addr.add]
theorem app_drop_eq {bs xs:List Int} {p:Nat} (h:(bs.length+p) % 64=0):(bs++xs).drop (64*((bs.length+p) / 64))=xs.drop p:=by
 rw [show 64*((bs.length+p) / 64)=bs.length+p by omega,List.drop_append,List.drop_eq_nil_of_le om,List.nil_append,show bs.length+p - bs.length=p by omega]
theorem step_block {bs xs:List Int} {p:Nat} (h:(bs.length+p) % 64=0):blk (hashN (bs++xs) ((bs.length+p) / 64)) ((xs.drop p).take 64)=hashN (bs++xs) ((bs.length+(p+64)) / 64):=by
 rw [show (bs.length+(p+64)) / 64=(bs.length+p) / 64+1 by omega];show _=blk _ _;rw [app_drop_eq h]
theorem fill_block {bs xs buf:List Int} (L:bs.length % 64≠0) (hn:64 - bs.length % 64<=xs.length) (H:buf.length=64) (ht:buf.take (bs.length % 64)=bs.drop (64*(bs.length / 64))):
 blk (hashN bs (bs.length / 64)) (buf.take (bs.length % 64)++(xs.take (64 - bs.length % 64)++buf.drop (bs.length % 64+(xs.take (64 - bs.length % 64)).length)))=hashN (bs++xs) ((bs.length+(64 - bs.length % 64)) / 64):=by
 rw [show (bs.length+(64 - bs.length % 64)) / 64=bs.length / 64+1 by omega,<-ydi bs xs _ om];show _=blk _ _;have G:(buf.take (bs.length % 64)).length=bs.length % 64:=by rw [List.length_take,H];omega
 have J:buf.drop (bs.length % 64+(xs.take (64 - bs.length % 64)).length)=[]:=List.drop_eq_nil_of_le (by rw [List.length_take,H];omega)
 have K:((bs++xs).drop (64*(bs.length / 64))).take 64=buf.take (bs.length % 64)++xs.take (64 - bs.length % 64):=by
  rw [List.drop_append_of_le_length om,<-ht,List.take_append,G,List.take_of_length_le om]
 rw [J,K,List.append_nil]
theorem early_St {w:World} {g:Nat} {bs xs buf:List Int} (J:buf.length=64) (G:Byt buf) (K:Byt bs) (H:Byt xs) (ht:buf.take (bs.length % 64)=bs.drop (64*(bs.length / 64))) (hn:bs.length % 64+xs.length < 64)
 (L:w.heap[g]? =some (oSt (hashN bs (bs.length / 64)) (buf.take (bs.length % 64)++(xs++buf.drop (bs.length % 64+xs.length))) ((bs.length+xs.length:Nat):Int))):St w g (bs++xs):=by
 refine ⟨buf.take (bs.length % 64)++(xs++buf.drop (bs.length % 64+xs.length)),?_,?_,K.app H,?_,?_⟩
 ·simp [J];omega
 ·exact (G.take _).app (H.app (G.drop _))
 ·rw [List.length_append,show (bs.length+xs.length) / 64=bs.length / 64 by omega,ydi _ _ _ om];exact L
 ·rw [List.length_append,show (bs.length+xs.length) / 64=bs.length / 64 by omega,show (bs.length+xs.length) % 64=bs.length % 64+xs.length by omega,List.drop_append_of_le_length om,<-ht,<-List.append_assoc,List.take_append_of_le_length (by simp [J];omega),List.take_of_length_le (by simp [J];omega)]
theorem last_St {w:World} {g p:Nat} {bs xs buf:List Int} (L:buf.length=64) (G:Byt buf) (J:Byt bs) (H:Byt xs) (hp:(bs.length+p) % 64=0) (M:p<=xs.length) (hn:xs.length - p < 64)
 (K:w.heap[g]? =some (oSt (hashN (bs++xs) ((bs.length+p) / 64)) (buf.take 0++(xs.drop p++buf.drop (0+(xs.drop p).length))) ((bs.length+xs.length:Nat):Int))):St w g (bs++xs):=by
 refine ⟨buf.take 0++(xs.drop p++buf.drop (0+(xs.drop p).length)),?_,?_,J.app H,?_,?_⟩
 ·simp [L];omega
 ·exact (G.take _).app ((H.drop _).app (G.drop _))
 ·rw [List.length_append,show (bs.length+xs.length) / 64=(bs.length+p) / 64 by omega];exact K
 ·rw [List.length_append,show (bs.length+xs.length) / 64=(bs.length+p) / 64 by omega,show (bs.length+xs.length) % 64=(xs.drop p).length by rw [List.length_drop];omega,app_drop_eq hp,List.take_zero,List.nil_append,List.take_left'];rfl
def ycp:Value->Nat
 | .slice _ n _=>n
 |_=>0
theorem ycx {A:Option Addr} {g m c:Nat} (h:∀a,A=some a->a.block≠g) {a:Addr} (ha:(if c=m then A else A.map (·.add m))=some a):a.block≠g:=by
 split at ha
 ·exact h a ha
 ·rcases A with _ |x
  ·simp at ha
  ·simp only [Option.map_some,Option.some.injEq] at ha;subst ha;rw [show (x.add m).block=x.block by unfold Addr.add;split<;>rfl];exact h _ rfl
def WrP (g n B:Nat) (bs xs:List Int) (w:World) (x:Value) (wr:World):Prop:=
 ∃(p r c':Nat) (A':Option Addr) (buf':List Int),p<=n/\r=n - p/\(bs.length+p) % 64=0/\x= .slice A' r c'/\r<=c'/\Hid (Sl fB wr B A' r (xs.drop p))/\Hid (∀a,A'=some a->a.block≠g)/\Hid (buf'.length=64)/\Hid (Byt buf')/\
  Hid (wr.heap[g]? =some (oSt (hashN (bs++xs) ((bs.length+p) / 64)) buf' ((bs.length+n:Nat):Int)))/\Hid (But (fun k=>k=g) w wr)
theorem Tryz.sizeB:(prog.info? 5).map (·.size)=some 1:=by kernel_rfl
theorem ycM (g:Nat) (bs xs:List Int) (A:Option Addr) (n c B:Nat) (w:World) (hS:St w g bs) (hx:Sl fB w B A n xs) (hc:n<=c) (hB:B<=w.heap.size) (aU:Byt xs) (hA:∀a,A=some a->a.block≠g) (hl:bs.length+xs.length<=1099511627776) (hk:KTab w) (a3:1 < w.heap.size) (ao:g≠1):
 Calls prog 199 #[.pointer (some ⟨g,0,none⟩),.slice A n c] w fun e w'=>e= .returned (.tuple #[])/\St w' g (bs++xs)/\But (fun k=>k=g) w w':=by
 obtain ⟨buf,aI,a1,aV,hg,a4⟩:=hS;obtain ⟨aG,aZ⟩:=hx;obtain ⟨L,hL⟩:∃L,L=bs.length:=⟨_,rfl⟩
 have ba:=st_n hg aI;rw [<-hL] at ba;have bf:=frozen_of_row w g 72 _ _ hg;have HG:=lh hg;have aR:=lh aZ;have aq:=lh aU;have aS:=lh aV;have aC:=lh a1;have T:=lh aI;have aW:=lh a4;have HK:=lh hk;have ap:=lh a3;have HA:=lh hA;have K:Hid (L=bs.length):=hL;have HXN:Hid (xs.length=n):=aG;rw [<-hL,aG] at hl;clear hg aZ aU aV a1 aI a4 hk a3 hA hL aG;go_enter func199,ntmps199
 by_cases hu:L % 64=0
 ·
  go_upto_region 7 with fail
  generalize hW:w.setCell _ _=W
  have aO:Hid (WrP g n B bs xs w (.slice A n c) W):=by
   have hb:But (fun k=>k=g) w W:=by rw [<-hW];exact But.setCell (p:=fun k=>k=g) (x:=⟨g,72,none⟩) (But.refl _ _) (.inl rfl) _
   refine ⟨0,n,c,A,buf,by omega,by omega,by rw [<-K.out];omega,rfl,hc,⟨HXN.out,aR.out.but hb hB HA.out⟩,HA,T,aC,?_,hb⟩;show _=_;rw [Nat.add_zero,ydi _ _ _ om,<-hW,Int.natCast_add,<-K.out];have h1:=st_set_n (m:=(L:Int)+n) HG.out T.out;rw [<-K.out] at h1;exact h1
  have bg:=lh hW;clear hW
  go_loopw [1] (fun x wr=>WrP g n B bs xs w x wr) (fun x _=>ycp x)
  case atStart=>exact aO.out
  case round=>
   obtain ⟨p,r,c',A',J,aL,hr,hp,rfl,aK,M,ax,H,am,az,N⟩:=hrel;have ay:Hid (B<=wr.heap.size):=lT hB N.out.size;have aA:Hid (KTab wr):=fun i x hx=>(cB (w:=w) (N.out.block 1 ap.out (Ne.symm ao))).trans (HK.out i x hx);have au:Hid (1 < wr.heap.size):=Nat.lt_of_lt_of_le ap.out N.out.size;obtain ⟨iB,Z,_,aD,_⟩:=info_parts Tryz.infoB
   by_cases bb:64<=r
   ·obtain ⟨b,ar,rfl,_⟩:=M.out.2 (by rw [M.out.1];omega);have aP:=fun W=>ybW (P:=prog) 40 5 iB underlying40 Z (some ⟨b,ar,none⟩) r c' .i64 64 64 rfl om W;have aN:64<=(r:Int):=by omega
    have HC:=lh (yc9 g (hashN (bs++xs) ((bs.length+p) / 64)) J ((bs.length+n:Nat):Int) (some ⟨b,ar,none⟩) c' B ((xs.drop p).take 64) wr az.out ⟨by rw [List.length_take,M.out.1];omega,M.out.2.take_ 64⟩ ay.out ((aq.out.drop p).take 64) om aA.out au.out ao (yd0 _ _));have HR:=lh hr;clear hr
    go_wp2_with (first
     |(go_at_call 242;(refine HC.out.mono ?_);rintro e w6 ⟨rfl,aa,HB6⟩
       have af:=lh aa;have U:=lh HB6
       clear aa HB6))
    refine ⟨?rel,?measure⟩
    case rel=>
     have hr:=HR.out;refine ⟨p+64,r - 64,c' - 64,_,J,by omega,by omega,by omega,rfl,by omega,⟨by rw [List.length_drop,HXN.out];omega,?_⟩,?_,H,am,?_,N.out.trans U.out (fun i hi=> .inl hi)⟩
     ·have h1:=(M.out.2.cut (n:=64) (cap:=c') (by rw [M.out.1];exact aK)).but U.out ay.out (fun a ha=>ycx ax.out ha);rw [List.drop_drop] at h1;exact h1
     ·exact fun a ha=>ycx ax.out ha
     ·show _=_;have h1:=af.out;rw [step_block hp] at h1;exact h1
    case measure=>
     show r - 64 < r;omega
   ·have aN:¬64<=(r:Int):=by omega
    have aP:=fun W=>yb4 (P:=prog) 300 5 64 iB underlying300 Z g 8 W;obtain ⟨cs,G⟩:∃cs,cs=(xs.drop p).map fB:=⟨_,rfl⟩
    have HCL:Hid ((xs.drop p).length=r):=M.out.1;have O:Hid (cs.length=Nat.min r 64):=by show _=min _ _;rw [G,List.length_map,HCL.out];omega
    have aj:Hid (0 < cs.length->∃ad,A'=some ad/\∀j v,cs[j]? =some v->wr.cell? (ad.add j)=some v):=fun h=>by
     rw [G] at h ⊢;exact M.out.2.cells h
    have aQ:Hid (wr.heap[g]? =some (.cells ((hashN (bs++xs) ((bs.length+p) / 64)).list.map U32++(J.map fB++[Value.int .i64 ((bs.length+n:Nat):Int)])).toArray 302 (0,0))):=az.out
    have ai:Hid (8+0+cs.length<=((hashN (bs++xs) ((bs.length+p) / 64)).list.map U32++(J.map fB++[Value.int .i64 ((bs.length+n:Nat):Int)])).length):=by
     show _<=_;rw [O.out,List.length_append,List.length_append,List.length_map,List.length_map,H.out];show 8+0+min r 64<=8+(64+1);omega
    have ah:Hid (∀v∈cs,v.oneCell'=true):=by
     intro v hv;rw [G] at hv;obtain ⟨y,_,rfl⟩:=List.mem_map.1 hv;rfl
    have ag:=lh G;clear G
    go_wp2_with (first
     |(with_reducible refine ybY (o:=⟨_,_,_,_,_,_⟩) rfl (.tmp 54) (.tmp 55) 40 40 rfl 5 underlying40 Tryz.sizeB _ _ _ _ _ _ rfl rfl g (8+0) _ 302 aQ.out cs O.out (fun h=>⟨rfl,aj.out h⟩) ai.out ah.out ?_;intro W2 ac ae))
    go_end0
    refine ⟨rfl,?_,N.out.trans ae.out (fun i hi=> .inl hi)⟩;have h2:=ac.out;rw [ag.out,ydj _ _ _ _ _ (by rw [H.out,HCL.out];omega)] at h2;exact last_St H.out am.out aS.out aq.out hp (by rw [HXN.out];exact aL) (by rw [HXN.out];omega) (by rw [HXN.out];exact h2)
 ·
  go_upto_region 3 with fail
  obtain ⟨u,ak⟩:∃u,u=L % 64:=⟨_,rfl⟩
  have a8:(L:Int) % 64=(u:Int):=by omega
  obtain ⟨iB,Z,_,aD,_⟩:=info_parts Tryz.infoB;have aF:u < 64:=by omega
  have bc:0 < u:=by omega
  have a7:=fun W=>ydk (P:=prog) 300 5 64 iB underlying300 Z aD g 8 .i64 (u:Int) u rfl aF W;generalize hW:w.setCell _ _=W
  have a2:Hid (W.heap[g]? =some (.cells ((hashN bs (bs.length / 64)).list.map U32++(buf.map fB++[Value.int .i64 ((L:Int)+n)])).toArray 302 (0,0))):=by
   show _=_;rw [<-hW];exact st_set_n HG.out T.out
  have HBW:Hid (But (fun k=>k=g) w W):=by
   show But _ _ _;rw [<-hW];exact But.setCell (p:=fun k=>k=g) (x:=⟨g,72,none⟩) (But.refl _ _) (.inl rfl) _
  have aT:Hid (SL fB W B A xs):=aR.out.but HBW.out hB HA.out;have HW:=lh hW;have aE:=lh ak;clear hW ak
  by_cases be:u+n < 64
  ·
   obtain ⟨cs,G⟩:∃cs,cs=(xs.take n).map fB:=⟨_,rfl⟩
   have HCL:Hid ((xs.take n).length=n):=by show _=_;rw [List.length_take,HXN.out];omega
   have aw:Hid (cs.length=n):=by show _=_;rw [G,List.length_map,HCL.out]
   have O:Hid (cs.length=Nat.min n (64 - u)):=by show _=min _ _;rw [aw.out];omega
   have aj:Hid (0 < cs.length->∃ad,A=some ad/\∀j v,cs[j]? =some v->W.cell? (ad.add j)=some v):=fun h=>by
    rw [G] at h ⊢;exact (aT.out.take_ n).cells h
   have ai:Hid (8+u+cs.length<=((hashN bs (bs.length / 64)).list.map U32++(buf.map fB++[Value.int .i64 ((L:Int)+n)])).length):=by
    show _<=_;rw [O.out,List.length_append,List.length_append,List.length_map,List.length_map,T.out];show 8+u+min n (64 - u)<=8+(64+1);omega
   have ah:Hid (∀v∈cs,v.oneCell'=true):=by
    intro v hv;rw [G] at hv;obtain ⟨y,_,rfl⟩:=List.mem_map.1 hv;rfl
   have ag:=lh G;clear G
   go_wp2_with (first
    |(with_reducible refine ybY (o:=⟨some 28,_,_,_,_,_⟩) rfl (.tmp 26) (.tmp 27) 40 40 rfl 5 underlying40 Tryz.sizeB _ _ _ _ _ _ rfl rfl g (8+u) _ 302 a2.out cs O.out (fun h=>⟨rfl,aj.out h⟩) ai.out ah.out ?_;intro W2 ac ae;rw [aw.out]))
   all_goals refine bodyPost_ret (results_none rfl _ _ _) rfl ?_
   all_goals
    refine ⟨rfl,?_,HBW.out.trans ae.out (fun i hi=> .inl hi)⟩;have h2:=ac.out;rw [ag.out,ydj _ _ _ _ _ (by rw [T.out,HCL.out];omega),K.out,<-Int.natCast_add,<-HXN.out,List.take_length,aE.out,K.out] at h2;exact early_St T.out aC.out aS.out aq.out aW.out (by rw [<-K.out,HXN.out,<-aE.out];exact be) h2
  ·
   obtain ⟨m,hm⟩:∃m,m=64 - u:=⟨_,rfl⟩
   have aM:m<=n:=by omega
   obtain ⟨cs,G⟩:∃cs,cs=(xs.take m).map fB:=⟨_,rfl⟩
   have HCL:Hid ((xs.take m).length=m):=by show _=_;rw [List.length_take,HXN.out];omega
   have aw:Hid (cs.length=m):=by show _=_;rw [G,List.length_map,HCL.out]
   have O:Hid (cs.length=Nat.min n (64 - u)):=by show _=min _ _;rw [aw.out];omega
   have aj:Hid (0 < cs.length->∃ad,A=some ad/\∀j v,cs[j]? =some v->W.cell? (ad.add j)=some v):=fun h=>by
    rw [G] at h ⊢;exact (aT.out.take_ m).cells h
   have ai:Hid (8+u+cs.length<=((hashN bs (bs.length / 64)).list.map U32++(buf.map fB++[Value.int .i64 ((L:Int)+n)])).length):=by
    show _<=_;rw [O.out,List.length_append,List.length_append,List.length_map,List.length_map,T.out];show 8+u+min n (64 - u)<=8+(64+1);omega
   have ah:Hid (∀v∈cs,v.oneCell'=true):=by
    intro v hv;rw [G] at hv;obtain ⟨y,_,rfl⟩:=List.mem_map.1 hv;rfl
   have ag:=lh G;clear G;have a6:(u:Int)+(m:Int)=64:=by omega
   have HM:=lh hm;clear hm;obtain ⟨A2,aH⟩:∃A2,A2=if c=m then A else A.map (·.add m):=⟨_,rfl⟩
   have aY:=fun W=>ybv (P:=prog) 40 5 iB underlying40 Z aD A n c .i64 (m:Int) m rfl aM hc W;rw [<-aH] at aY;have a0:=lh aH;clear aH;have a9:=fun W=>yb4 (P:=prog) 300 5 64 iB underlying300 Z g 8 W
   go_upto_region 6 with (first
    |(with_reducible refine ybY (o:=⟨some 28,_,_,_,_,_⟩) rfl (.tmp 26) (.tmp 27) 40 40 rfl 5 underlying40 Tryz.sizeB _ _ _ _ _ _ rfl rfl g (8+u) _ 302 a2.out cs O.out (fun h=>⟨rfl,aj.out h⟩) ai.out ah.out ?_;intro W2 ac ae;rw [aw.out]))
   obtain ⟨z,Y⟩:∃b,b=buf.take u++(xs.take m++buf.drop (u+(xs.take m).length)):=⟨_,rfl⟩
   have aX:Hid (z.length=64):=by show _=_;rw [Y];have hm:=HM.out;rw [List.length_append,List.length_append,List.length_take,List.length_drop,T.out,HCL.out];omega
   have HB7:Hid (Byt z):=by show Byt _;rw [Y];exact (aC.out.take _).app ((aq.out.take _).app (aC.out.drop _))
   have HG7:Hid (W2.heap[g]? =some (oSt (hashN bs (bs.length / 64)) z ((L:Int)+n))):=by
    have h2:=ac.out;rw [ag.out,ydj _ _ _ _ _ (by rw [T.out,HCL.out];omega),<-Y] at h2;exact h2
   have aB:Hid (But (fun k=>k=g) w W2):=HBW.out.trans ae.out (fun i hi=> .inl hi);have aA:Hid (KTab W2):=fun i x hx=>(cB (w:=w) (aB.out.block 1 ap.out (Ne.symm ao))).trans (HK.out i x hx);have au:Hid (1 < W2.heap.size):=Nat.lt_of_lt_of_le ap.out aB.out.size;have HC:=lh (yc9 g (hashN bs (bs.length / 64)) z ((L:Int)+n) (some ⟨g,8,none⟩) 64 W2.heap.size z W2 HG7.out (st_buf HG7.out aX.out (lb HG7.out)) nl HB7.out nl aA.out au.out ao (yd0 _ _));have a5:=lh Y;clear Y ac;have hm:=HM.out;have ak:=aE.out;clear hm ak
   go_upto_region 7 with (first
    |(go_at_call 242;(refine HC.out.mono ?_);rintro e w6 ⟨rfl,aa,HB6⟩
      have af:=lh aa;have U:=lh HB6
      clear aa HB6))
   have hm:=HM.out;have ak:=aE.out;have aJ:Hid (But (fun k=>k=g) w w6):=aB.out.trans U.out (fun i hi=> .inl hi)
   have aO:Hid (WrP g n B bs xs w (.slice A2 (n - m) (c - m)) w6):=by
    refine ⟨m,n - m,c - m,A2,z,aM,rfl,by rw [<-K.out];omega,rfl,by omega,⟨by rw [List.length_drop,HXN.out],?_⟩,?_,aX,HB7,?_,aJ.out⟩
    ·rw [a0.out];exact (aR.out.cut (by rw [HXN.out];exact hc)).but aJ.out hB (fun a ha=>ycx HA.out ha)
    ·intro a ha;rw [a0.out] at ha;exact ycx HA.out ha
    ·have h6:=af.out;have hf:=fill_block (bs:=bs) (xs:=xs) (buf:=buf) (by rw [<-K.out];exact hu) (by rw [<-K.out,HXN.out];omega) T.out aW.out;rw [<-K.out,<-ak,<-hm] at hf;show _=_;rw [<-K.out,<-hf,a5.out.symm,Int.natCast_add];rw [<-K.out] at h6;exact h6
   clear hm ak a6 aY a9 aM bc aF a8 a7
   go_loopw [1] (fun x wr=>WrP g n B bs xs w x wr) (fun x _=>ycp x)
   case atStart=>exact aO.out
   case round=>
    obtain ⟨p,r,c',A',J,aL,hr,hp,rfl,aK,M,ax,H,am,az,N⟩:=hrel;have ay:Hid (B<=wr.heap.size):=lT hB N.out.size;have aA:Hid (KTab wr):=fun i x hx=>(cB (w:=w) (N.out.block 1 ap.out (Ne.symm ao))).trans (HK.out i x hx);have au:Hid (1 < wr.heap.size):=Nat.lt_of_lt_of_le ap.out N.out.size;obtain ⟨iB,Z,_,aD,_⟩:=info_parts Tryz.infoB
    by_cases bb:64<=r
    ·obtain ⟨b,ar,rfl,_⟩:=M.out.2 (by rw [M.out.1];omega);have aP:=fun W=>ybW (P:=prog) 40 5 iB underlying40 Z (some ⟨b,ar,none⟩) r c' .i64 64 64 rfl om W;have aN:64<=(r:Int):=by omega
     have HC:=lh (yc9 g (hashN (bs++xs) ((bs.length+p) / 64)) J ((bs.length+n:Nat):Int) (some ⟨b,ar,none⟩) c' B ((xs.drop p).take 64) wr az.out ⟨by rw [List.length_take,M.out.1];omega,M.out.2.take_ 64⟩ ay.out ((aq.out.drop p).take 64) om aA.out au.out ao (yd0 _ _));have HR:=lh hr;clear hr
     go_wp2_with (first
      |(go_at_call 242;(refine HC.out.mono ?_);rintro e w6 ⟨rfl,aa,HB6⟩
        have af:=lh aa;have U:=lh HB6
        clear aa HB6))
     refine ⟨?rel,?measure⟩
     case rel=>
      have hr:=HR.out;refine ⟨p+64,r - 64,c' - 64,_,J,by omega,by omega,by omega,rfl,by omega,⟨by rw [List.length_drop,HXN.out];omega,?_⟩,?_,H,am,?_,N.out.trans U.out (fun i hi=> .inl hi)⟩
      ·have h1:=(M.out.2.cut (n:=64) (cap:=c') (by rw [M.out.1];exact aK)).but U.out ay.out (fun a ha=>ycx ax.out ha);rw [List.drop_drop] at h1;exact h1
      ·exact fun a ha=>ycx ax.out ha
      ·show _=_;have h1:=af.out;rw [step_block hp] at h1;exact h1
     case measure=>
      show r - 64 < r;omega
    ·have aN:¬64<=(r:Int):=by omega
     have aP:=fun W=>yb4 (P:=prog) 300 5 64 iB underlying300 Z g 8 W;obtain ⟨cs,G⟩:∃cs,cs=(xs.drop p).map fB:=⟨_,rfl⟩
     have HCL:Hid ((xs.drop p).length=r):=M.out.1;have O:Hid (cs.length=Nat.min r 64):=by show _=min _ _;rw [G,List.length_map,HCL.out];omega
     have aj:Hid (0 < cs.length->∃ad,A'=some ad/\∀j v,cs[j]? =some v->wr.cell? (ad.add j)=some v):=fun h=>by
      rw [G] at h ⊢;exact M.out.2.cells h
     have aQ:Hid (wr.heap[g]? =some (.cells ((hashN (bs++xs) ((bs.length+p) / 64)).list.map U32++(J.map fB++[Value.int .i64 ((bs.length+n:Nat):Int)])).toArray 302 (0,0))):=az.out
     have ai:Hid (8+0+cs.length<=((hashN (bs++xs) ((bs.length+p) / 64)).list.map U32++(J.map fB++[Value.int .i64 ((bs.length+n:Nat):Int)])).length):=by
      show _<=_;rw [O.out,List.length_append,List.length_append,List.length_map,List.length_map,H.out];show 8+0+min r 64<=8+(64+1);omega
     have ah:Hid (∀v∈cs,v.oneCell'=true):=by
      intro v hv;rw [G] at hv;obtain ⟨y,_,rfl⟩:=List.mem_map.1 hv;rfl
     have ag:=lh G;clear G
     go_wp2_with (first
      |(with_reducible refine ybY (o:=⟨_,_,_,_,_,_⟩) rfl (.tmp 54) (.tmp 55) 40 40 rfl 5 underlying40 Tryz.sizeB _ _ _ _ _ _ rfl rfl g (8+0) _ 302 aQ.out cs O.out (fun h=>⟨rfl,aj.out h⟩) ai.out ah.out ?_;intro W2 ac ae))
     go_end0
     refine ⟨rfl,?_,N.out.trans ae.out (fun i hi=> .inl hi)⟩;have h2:=ac.out;rw [ag.out,ydj _ _ _ _ _ (by rw [H.out,HCL.out];omega)] at h2;exact last_St H.out am.out aS.out aq.out hp (by rw [HXN.out];exact aL) (by rw [HXN.out];omega) (by rw [HXN.out];exact h2)
def zN (L:Nat):Nat:=(119 - L % 64) % 64
def be8 (n:Nat):List Int:=(List.range 8).map fun i=>((n / 2 ^ (56 - 8*i) % 256:Nat):Int)
def padB (L:Nat):List Int:=(128::List.replicate (zN L) 0)++be8 (8*L)
theorem be8_len (n:Nat):(be8 n).length=8:=by simp [be8]
theorem padB_len (L:Nat):(padB L).length=zN L+9:=by simp [padB,be8_len]
theorem padB_64 (L:Nat):(L+(padB L).length) % 64=0:=by rw [padB_len];unfold zN;omega
theorem zN_lt (L:Nat):zN L < 64:=Nat.mod_lt _ om
theorem be8_byt (n:Nat):Byt (be8 n):=fun x hx=>by
 obtain ⟨i,_,rfl⟩:=List.mem_map.1 hx;omega
theorem padB_byt (L:Nat):Byt (padB L):=by
 refine Byt.app ?_ (be8_byt _);intro x hx;rcases List.mem_cons.1 hx with rfl |h
 ·omega
 ·rw [(List.mem_replicate.1 h).2];omega
def w4 (x:Int):List Int:=[x / 16777216 % 256,x / 65536 % 256,x / 256 % 256,x % 256]
def wB (l:List Int):List Int:=l.flatMap w4
theorem wB_byt (l:List Int):Byt (wB l):=fun y hy=>by
 obtain ⟨x,_,h⟩:=List.mem_flatMap.1 hy;simp only [w4,List.mem_cons,List.not_mem_nil,or_false] at h;rcases h with rfl |rfl |rfl |rfl<;>omega
theorem wB_len:∀l:List Int,(wB l).length=4*l.length
 | []=>rfl
 |x::l=>by
  have:=wB_len l;unfold wB at this ⊢;rw [List.flatMap_cons,List.length_append,this];simp [w4];omega
def shaB (bs:List Int):List Int:=wB (hashN (bs++padB bs.length) ((bs.length+(padB bs.length).length) / 64)).list
theorem ycG (bs:List Int):Byt (shaB bs):=wB_byt _
theorem ycq (bs:List Int):(shaB bs).length=32:=by unfold shaB;rw [wB_len];rfl
theorem ydR {v:W8} {buf:List Int} {n:Int} (h:buf.length=64):(ycF v buf n).size=73:=by
 show ((v.list.map U32++(buf.map fB++[Value.int .i64 n])).toArray).size=73;simp [W8.list,h]
theorem stCells_one {v:W8} {buf:List Int} {n:Int}:(ycF v buf n).all (·.oneCell')=true:=by
 rw [Array.all_eq_true'];intro x H;have G:x∈v.list.map U32++(buf.map fB++[Value.int .i64 n]):=by simpa [ycF] using H
 rcases List.mem_append.1 G with h |h
 ·obtain ⟨y,_,rfl⟩:=List.mem_map.1 h;rfl
 ·rcases List.mem_append.1 h with h |h
  ·obtain ⟨y,_,rfl⟩:=List.mem_map.1 h;rfl
  ·rw [List.mem_singleton.1 h];rfl
theorem St.grown {w H:World} {g:Nat} {bs:List Int} {row:Option Nat} (h:St w g bs) (K:w.grownBy H row) (hr:row≠some g):St H g bs:=by
 obtain ⟨buf,h1,h2,L,G,J⟩:=h;exact ⟨buf,h1,h2,L,(K.block g (lb G) (fun e=>hr e.symm)).trans G,J⟩
theorem Tryz.sizeSt:(prog.info? 302).map (·.size)=some 73:=by kernel_rfl
theorem be8_snoc (n:Nat) {j:Nat} (hj:j < 8):(be8 n).take (j+1)=(be8 n).take j++[((n / 2 ^ (56 - 8*j) % 256:Nat):Int)]:=
 ybq (by rw [be8,List.getElem?_map,List.getElem?_range hj];rfl)
theorem own_far {w:World} {g:Nat} {e:TypeId} {A:Option Addr} {n c:Nat} {xs:List Int} (h:Own fB e w (g+1) (.slice A n c) xs) {a:Addr} (ha:A=some a):a.block≠g:=by
 subst ha;have:=(ol h a.block rfl).1;omega
theorem own_ne {w:World} {g:Nat} {e:TypeId} {v:Value} {xs:List Int} (h:Own fB e w (g+1) v xs):v.ownBlock≠some g:=fun hv=>by
 have:=(ol h g hv).1;omega
def PadP (g:Nat) (w:World) (bs xs:List Int) (v:Value) (wr:World):Prop:=
 Hid (Own fB 5 wr (g+1) v xs)/\Hid (St wr g bs)/\Hid (Below w.heap.size w wr)
theorem sum_any (g:Nat) (bs:List Int) (w:World) (hS:St w g bs) (hl:bs.length<=549755813888) (hk:KTab w) (aY:1 < w.heap.size):
 Calls prog 200 #[.pointer (some ⟨g,0,none⟩)] w fun e w'=>e= .returned (.string (baOf (shaB bs)))/\Below w.heap.size w w':=by
 obtain ⟨buf,aa,aU,aJ,hg,a1⟩:=hS;obtain ⟨L,hL⟩:∃L,L=bs.length:=⟨_,rfl⟩
 have aP:=st_n hg aa;rw [<-hL] at aP;have bw:=frozen_of_row w g 72 _ _ hg;obtain ⟨i0,hi,aW,aR,aT⟩:=info_parts Tryz.infoB;have HI:=lh hi;have ai:=lh aW;have aj:=lh aR;have ak:=lh aT;have HG:=lh hg;have ax:Hid ((prog.info? 302).map (·.size)=some (ycF (hashN bs (bs.length / 64)) buf bs.length).size):=by show _=_;rw [ydR aa];exact Tryz.sizeSt
 have HS1:Hid ((ycF (hashN bs (bs.length / 64)) buf bs.length).size=73):=ydR aa;obtain ⟨Z,ae⟩:∃Z,Z=ycF (hashN bs (bs.length / 64)) buf bs.length:=⟨_,rfl⟩
 have a6:Hid (Z.all (·.oneCell')=true):=by show _=_;rw [ae];exact stCells_one
 have bh:Hid (w.heap[g]? =some (.cells Z 302 (0,0))):=by show _=_;rw [ae];exact hg
 rw [<-ae] at ax HS1;have bb:Hid (St (w.alloc (.cells Z 302)) w.heap.size bs):=⟨buf,aa,aU,aJ,by rw [ae];exact zy w _,a1⟩;have HK:=lh hk;have aF:=lh aY;have aO:Hid (L=bs.length):=hL;have HGL:=lh (lb hg);have bx:L<=549755813888:=by rw [hL];exact hl
 clear hi aW aR aT hg aa aU aJ a1 ae hk aY hL hl HG;go_enter func200,ntmps200
 go_upto_region 3 with (first
  |(with_reducible refine wpList_load_row (o:=⟨some 12,_,_,_,_,_⟩) rfl 302 (.tmp 11) rfl g rfl 302 Z (0,0) _ bh.out underlying302 rfl ax.out ?_)
  |(with_reducible refine ybl (o:=⟨none,_,_,_,_,_⟩) rfl 302 (.tmp 3) (.tmp 12) rfl 302 _ Z rfl rfl ax.out (HS1.out.symm▸rfl) a6.out ?_))
 have bc:Hid (PadP w.heap.size w bs (128::List.replicate 0 0) (.slice (some ⟨w.heap.size+1,0,none⟩) 1 1) ((w.alloc (.cells Z 302)).alloc (.cells #[.int .u8 128] 5))):=by
  refine ⟨?_,?_,?_⟩
  ·have h:=World.ownsRow_lit (base:=w.heap.size+1) (e:=5) (size:=1) (w.alloc (.cells Z 302)) #[.int .u8 128] 1 sI ya5 rfl;rw [World.size_alloc] at h;exact h
  ·exact bb.out.but ((But.refl (fun _=>False) _).alloc _) (fun h=>h)
  ·exact bl.alloc sI _
 go_loopw [4] (fun v wr=>∃k,k<=zN L/\Hid (PadP w.heap.size w bs (128::List.replicate k 0) v wr)) (fun v _=>zN L+1 - ycp v)
 case atStart=>exact ⟨0,by omega,bc⟩
 case round=>
  obtain ⟨k,bz,HP⟩:=hrel;have G:=HP.out.1;have HS:=HP.out.2.1;have HB:=HP.out.2.2;have a3:wr.cell? ⟨g,72,none⟩=some (.int .i64 L):=(HB.out.cell (p:=⟨g,72,none⟩) HGL.out).trans aP;have ag:=zN_lt L;obtain ⟨A1,c1,ay,bk,bf,_⟩:=G.out.shape;obtain ⟨l1,af⟩:∃l,l=(128::List.replicate k (0:Int)).length:=⟨_,rfl⟩
  have aA:l1=k+1:=by rw [af];simp
  rw [<-af] at ay;have T:=lh aA;have a5:=lh af;clear af bf bk aA;have U:Hid (((128::List.replicate k (0:Int)).length+1)*1<=140737488355328):=by show _<=_;simp;omega
  have Y:Hid ((128::List.replicate k (0:Int)).length+1<=maxLen):=by show _<=_;unfold maxLen;simp;omega
  have M:Hid (w.heap.size+1<=wr.heap.size):=by
   show _<=_;obtain ⟨_,_,_,_,h,_⟩:=HS.out;exact lb h
  by_cases ar:k=zN L
  ·
   have au:((L:Int)+(l1:Int)) % 64=56:=by have:=T.out;have h0:zN L=(119 - L % 64) % 64:=rfl;omega
   have bm:(l1:Int)<=65:=by have:=T.out;omega
   subst ay;have aX:Hid (PadP w.heap.size w bs (128::List.replicate (zN L) 0) (.slice A1 l1 c1) wr):=by show PadP ..;rw [<-ar];exact HP.out
   clear HP G HS U Y a5 T ar;go_upto_region 7 with fail
   have aK:Hid (PadP w.heap.size w bs ((128::List.replicate (zN L) 0)++(be8 (8*L)).take 0) (.slice A1 l1 c1) wr):=by show PadP ..;rw [List.take_zero,List.append_nil];exact aX.out
   clear HB a3 M au
   go_loopw [4,6] (fun v i wr=>∃j:Nat,j<=8/\i= .int .i64 (56 - 8*(j:Int))/\Hid (PadP w.heap.size w bs ((128::List.replicate (zN L) 0)++(be8 (8*L)).take j) v wr)) (fun _ i _=>(intOf i+8).toNat)
   case atStart=>exact ⟨0,by omega,rfl,aK⟩
   case round=>
    obtain ⟨j,hj,rfl,HP⟩:=hrel;have G:=HP.out.1;have HS:=HP.out.2.1;have HB:=HP.out.2.2;obtain ⟨A3,c3,aD,am,aw,_⟩:=G.out.shape
    have ap:((128::List.replicate (zN L) (0:Int))++(be8 (8*L)).take j).length=zN L+1+j:=by
     rw [List.length_append,List.length_cons,List.length_replicate,List.length_take,be8_len];omega
    obtain ⟨ys,aE⟩:∃ys,ys=(128::List.replicate (zN L) (0:Int))++(be8 (8*L)).take j:=⟨_,rfl⟩
    rw [<-aE] at G aD ap aw am;rw [ap] at aD am;have ao:=lh ap;have aN:=lh aE;have a7:=lh aw
    have M:Hid (w.heap.size+1<=wr.heap.size):=by
     show _<=_;obtain ⟨_,_,_,_,h,_⟩:=HS.out;exact lb h
    subst aD;clear aw aE aK aX ap
    by_cases ac:j < 8
    ·
     obtain ⟨s,hs⟩:∃s:Nat,s=56 - 8*j:=⟨_,rfl⟩
     have aI:(56 - 8*(j:Int))=(s:Int):=by omega
     have bp:s<=56:=by omega
     have aG:=lh hs;rw [aI];have U:Hid ((ys.length+1)*1<=140737488355328):=by show _<=_;rw [ao.out];omega
     have Y:Hid (ys.length+1<=maxLen):=by show _<=_;rw [ao.out];unfold maxLen;omega
     clear hs aI
     have HT:Hid ((be8 (8*L)).take j++[(L:Int)*8 / 2 ^ s % 256]=(be8 (8*L)).take (j+1)):=by
      show _=_;rw [be8_snoc _ ac,aG.out]
      congr 2
      rw [Int.mul_comm];simp
     go_wp2_with (first
      |(at_builtin;(with_reducible refine ybk (o:=⟨some 42,_,_,_,_,_⟩) rfl (.tmp 36) (.tmp 41) 40 rfl 5 i0 (.int .u8 0) 1 underlying40 HI.out ai.out aj.out ak.out rfl _ ys (w.heap.size+1) rfl G.out ((L:Int)*8 / 2 ^ s % 256) 1 rfl fB1 U.out Y.out M.out ?_);intro v1 w1 O N aM))
     go_roundw
     case rel=>
      refine ⟨j+1,by omega,?_,?_,?_,?_⟩
      ·have:=aG.out;refine congrArg (Value.int .i64) ?_;omega
      ·have h:=O.out;rw [aN.out,List.append_assoc,HT.out] at h;exact h
      ·exact HS.out.grown N.out (own_ne G.out)
      ·exact HB.out.trans (ybe N.out (fun j hj=>lT (Nat.le_succ _) (ol G.out j hj).1) HB.out.size)
     case measure=>
      have:=aG.out;simp [intOf];omega
    ·
     obtain rfl:j=8:=by omega
     have aL:Hid (ys=padB L):=by
      show _=_;rw [aN.out,List.take_of_length_le (by rw [be8_len];exact Nat.le_refl _)];rfl
     have bi:Hid (KTab wr):=fun i x hx=>(HB.out.cell (p:=⟨1,i,none⟩) aF.out).trans (HK.out i x hx);have a4:Hid (1 < wr.heap.size):=Nat.lt_of_lt_of_le aF.out HB.out.size;have HC:=lh (ycM w.heap.size bs ys A3 (zN L+1+8) c3 wr.heap.size wr HS.out ⟨ao.out,a7.out⟩ am nl (by rw [aL.out];exact padB_byt L) (fun a ha=>own_far G.out ha) (by have:=zN_lt L;rw [ao.out,<-aO.out];omega) bi.out a4.out (Nat.ne_of_gt aF.out));clear am hj
     go_upto_region 13 with (first
      |(go_at_call 199
        go_loud (
        refine HC.out.mono ?_;rintro e J ⟨rfl,aV,aH⟩;have bo:=lh aV;have ba:Hid (Below w.heap.size w J):=HB.out.trans (aH.below HB.out.size (fun i hi=>Nat.le_of_eq hi.symm));obtain ⟨bq,_,_,_,aq,_⟩:=aV;obtain ⟨d0,d1,d2,d3,d4,d5,d6,d7⟩:=st_cells aq;obtain ⟨V,hV⟩:∃V,V=hashN (bs++ys) ((bs++ys).length / 64):=⟨_,rfl⟩
        rw [<-hV] at d0 d1 d2 d3 d4 d5 d6 d7;have HV:=lh hV;have K:Hid (w.heap.size < J.heap.size):=lb aq;obtain ⟨va,vb,vc,vd,ve,vf,vg,vh⟩:=V
        clear aq hV aH))
      |(at_make
        go_loud (
        refine wpList_make_own J (o:=⟨some 45,_,_,_,_,_⟩) rfl _ _ 40 rfl J.heap.size 5 i0 (.int .u8 0) 1 underlying40 HI.out ai.out aj.out _ _ 32 32 rfl rfl rfl (by rw [ak.out];decide) ya5 nl ?_;intro W3 aQ aS;have bn:Hid (Own fB 5 W3 J.heap.size (.slice (some ⟨J.heap.size,0,none⟩) 0 32) []):=aQ;have H:Hid (Below J.heap.size J W3):=ybe aS (fun k hk=>by cases hk) nl;replace d0:=(H.out.cell (p:=⟨w.heap.size,0,none⟩) K.out).trans d0;replace d1:=(H.out.cell (p:=⟨w.heap.size,1,none⟩) K.out).trans d1;replace d2:=(H.out.cell (p:=⟨w.heap.size,2,none⟩) K.out).trans d2;replace d3:=(H.out.cell (p:=⟨w.heap.size,3,none⟩) K.out).trans d3;replace d4:=(H.out.cell (p:=⟨w.heap.size,4,none⟩) K.out).trans d4;replace d5:=(H.out.cell (p:=⟨w.heap.size,5,none⟩) K.out).trans d5;replace d6:=(H.out.cell (p:=⟨w.heap.size,6,none⟩) K.out).trans d6;replace d7:=(H.out.cell (p:=⟨w.heap.size,7,none⟩) K.out).trans d7
        clear aQ aS)))
     clear ac d0 d1 d2 d3 d4 d5 d6 d7
     go_loopw [7,48] (fun v i wr=>∃j:Nat,j<=8/\i= .int .i64 j/\Hid (Own fB 5 wr J.heap.size v (wB ([va,vb,vc,vd,ve,vf,vg,vh].take j)))/\Hid (Below J.heap.size J wr)) (fun _ i _=>8 - (intOf i).toNat)
     case atStart=>exact ⟨0,by omega,rfl,bn,H⟩
     case round=>
      obtain ⟨j,hj,rfl,G,HB⟩:=hrel;obtain ⟨A5,c5,aB,a9,az,_⟩:=G.out.shape;obtain ⟨z,ah⟩:∃z,z=wB ([va,vb,vc,vd,ve,vf,vg,vh].take j):=⟨_,rfl⟩
      rw [<-ah] at G aB az;have ag:z.length=4*j:=by rw [ah,wB_len,List.length_take];show 4*min j 8=_;omega
      rw [ag] at aB;subst aB;have aZ:=lh ah;have aC:=lh ag;have HS5:=lh az;clear ah ag az a9
      by_cases ac:j < 8
      ·obtain ⟨x,hx⟩:=ybM (xs:=[va,vb,vc,vd,ve,vf,vg,vh]) (k:=j) ac
       have a0:(#[U32 va,U32 vb,U32 vc,U32 vd,U32 ve,U32 vf,U32 vg,U32 vh]:Array Value)[j]? =some (U32 x):=by
        have:=congrArg (Option.map U32) hx;rw [<-List.getElem?_map] at this;rw [List.getElem?_toArray];exact this
       obtain ⟨iU,bj,_,be,_⟩:=info_parts Tryz.infoU;have bv:=fun W=>ydh (P:=prog) 251 250 8 iU _ underlying251 underlying250 rfl bj be #[U32 va,U32 vb,U32 vc,U32 vd,U32 ve,U32 vf,U32 vg,U32 vh] .i64 j (U32 x) ac a0 W;have br:(j:Int) < 8:=by omega
       have bg:Hid (Sl fB (wr.alloc (.cells #[.int .u8 (x / 16777216 % 256),.int .u8 (x / 65536 % 256),.int .u8 (x / 256 % 256),.int .u8 (x % 256)] 5)) (wr.heap.size+1) (some ⟨wr.heap.size,0,none⟩) 4 (w4 x)):=⟨rfl,SL.of_block (t:=5) (fr:=(0,0)) (zy wr _) (Nat.lt_succ_self _)⟩
       have a2:Hid (wB ([va,vb,vc,vd,ve,vf,vg,vh].take (j+1))=z++w4 x):=by
        show _=_;rw [ybq hx,aZ.out];unfold wB;rw [List.flatMap_append];simp
       have U:Hid ((z.length+(w4 x).length)*1<=140737488355328):=by show _<=_;rw [aC.out];show (4*j+4)*1<=_;omega
       have Y:Hid (z.length+(w4 x).length<=maxLen):=by show _<=_;rw [aC.out];show 4*j+4<=_;unfold maxLen;omega
       have M:Hid (J.heap.size<=(wr.alloc (.cells #[.int .u8 (x / 16777216 % 256),.int .u8 (x / 65536 % 256),.int .u8 (x / 256 % 256),.int .u8 (x % 256)] 5)).heap.size):=lT HB.out.size sI;clear a0 hx
       go_wp2_with (first
        |(at_builtin;(with_reducible refine ybD (o:=⟨some 64,_,_,_,_,_⟩) rfl (.tmp 51) (.tmp 63) 40 rfl 5 i0 (.int .u8 0) 1 underlying40 HI.out ai.out aj.out ak.out rfl _ z J.heap.size rfl (G.out.alloc _) _ 4 4 (wr.heap.size+1) (w4 x) rfl bg.out fB1 U.out Y.out M.out ?_);intro v1 w1 O N aM))
       go_roundw
       case rel=>
        refine ⟨j+1,by omega,by go_num,?_,?_⟩
        ·show Own ..
         rw [a2.out];exact O.out
        ·exact (HB.out.alloc HB.out.size _).trans (ybe N.out (fun j hj=>(ol G.out j hj).1) M.out)
       case measure=>simp [intOf];omega
      ·obtain rfl:j=8:=by omega
       have bu:=ybU (P:=prog) 40 5 9 underlying40 underlying5 underlying9 wr wr.heap.size A5 (4*8) c5 z ⟨aC.out,HS5.out⟩;go_wp2;go_ret;refine ⟨?_,bt ba.out HB.out⟩
       have he:shaB bs=z:=by
        rw [aZ.out];unfold shaB;rw [aL.out] at HV;rw [<-List.length_append,<-aO.out,<-HV.out];rfl
       rw [he];rfl
  ·
   have au:¬((L:Int)+(l1:Int)) % 64=56:=by have:=T.out;have h0:zN L=(119 - L % 64) % 64:=rfl;omega
   have bm:(l1:Int)<=65:=by have:=T.out;omega
   subst ay
   go_wp2_with (first
    |(at_builtin;(with_reducible refine ybk (o:=⟨some 25,_,_,_,_,_⟩) rfl (.tmp 23) (.tmp 24) 40 rfl 5 i0 (.int .u8 0) 1 underlying40 HI.out ai.out aj.out ak.out rfl _ (128::List.replicate k 0) (w.heap.size+1) rfl G.out (0) 1 rfl fB1 U.out Y.out M.out ?_);intro v1 w1 O N aM))
   go_roundw
   case rel=>
    refine ⟨k+1,by omega,?_,?_,?_⟩
    ·have h:=O.out;rw [List.cons_append,<-List.replicate_succ'] at h;exact h
    ·exact HS.out.grown N.out (own_ne G.out)
    ·exact HB.out.trans (ybe N.out (fun j hj=>lT (Nat.le_succ _) (ol G.out j hj).1) HB.out.size)
   case measure=>
    obtain ⟨A2,c2,a8,_⟩:=O.out.shape;have aA:=T.out;rw [a8];show zN L+1 - ((128::List.replicate k (0:Int))++[0]).length < zN L+1 - l1;rw [List.length_append,List.length_cons,List.length_replicate];simp only [List.length_cons,List.length_nil];omega
