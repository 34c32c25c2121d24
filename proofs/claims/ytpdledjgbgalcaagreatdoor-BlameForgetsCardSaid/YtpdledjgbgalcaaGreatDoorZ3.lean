/- SHA-256 of the program: sums of bytes, plainly; copies into a state; the state's Write. -/
import Derived.Test.YtpdledjgbgalcaaGreatDoorPa
import Derived.Laws.CopyOwn
namespace Go.Proofs.YtpdledjgbgalcaaGreatDoor
set_option maxRecDepth 100000
set_option maxHeartbeats 8000000
open Go.RowKit
set_option linter.unusedVariables false
set_option linter.unusedSimpArgs false
def Byt (xs:List Int):Prop:=∀x∈xs,0≤x∧x < 256
theorem Byt.app {xs ys:List Int} (h:Byt xs) (k:Byt ys):Byt (xs++ys):=fun x hx=>by
 rcases List.mem_append.1 hx with h' |h'
 ·exact h x h'
 ·exact k x h'
theorem Byt.take {xs:List Int} (h:Byt xs) (n:Nat):Byt (xs.take n):=fun x hx=>h x (List.mem_of_mem_take hx)
theorem Byt.drop {xs:List Int} (h:Byt xs) (n:Nat):Byt (xs.drop n):=fun x hx=>h x (List.mem_of_mem_drop hx)
def hashN (bs:List Int):Nat→W8
 |0=>hTab
 |k+1=>blk (hashN bs k) ((bs.drop (64*k)).take 64)
theorem ydB (bs:List Int):∀k,W8ok (hashN bs k)
 |0=>hTab_ok
 |k+1=>W8ok.blk ..
theorem ycR (bs xs:List Int):∀k,64*k≤bs.length→hashN (bs++xs) k=hashN bs k
 |0,_=>rfl
 |k+1,h=>by
  simp only [hashN];rw [ycR bs xs k om,List.drop_append_of_le_length om,List.take_append_of_le_length yaN]
def St (w:World) (g:Nat) (bs:List Int):Prop:=
 ∃buf:List Int,buf.length=64∧Byt buf∧Byt bs∧w.heap[g]? =some (oSt (hashN bs (bs.length / 64)) buf bs.length)∧buf.take (bs.length % 64)=bs.drop (64*(bs.length / 64))
theorem St.but {w w':World} {g:Nat} {bs:List Int} {p:Nat→Prop} (h:St w g bs) (hb:But p w w') (hp:¬p g):St w' g bs:=by
 obtain ⟨buf,h1,h2,h3,h4,h5⟩:=h;exact ⟨buf,h1,h2,h3,(hb.block g (lt_of_block h4) hp).trans h4,h5⟩
theorem st_n {w:World} {g:Nat} {v:W8} {buf:List Int} {n:Int} (h:w.heap[g]? =some (oSt v buf n)) (hl:buf.length=64):w.cell? ⟨g,72,none⟩=some (.int .i64 n):=by
 rw [cell_of_row w g 72 _ _ _ h]
 show (((v.list.map U32++(buf.map fB++[Value.int .i64 n]))).toArray)[72]? =_
 rw [List.getElem?_toArray,List.getElem?_append_right (by simp [W8.list]),List.getElem?_append_right (by simp [W8.list,hl])];simp [W8.list,hl]
theorem st_set_n {w:World} {g:Nat} {v:W8} {buf:List Int} {n m:Int} (h:w.heap[g]? =some (oSt v buf n)) (hl:buf.length=64):(w.setCell ⟨g,72,none⟩ (.int .i64 m)).heap[g]? =some (oSt v buf m):=by
 rw [setCell_blk h]
 show some (Obj.cells ((v.list.map U32++(buf.map fB++[Value.int .i64 n])).toArray.setIfInBounds 72 (.int .i64 m)) _ _)=some (Obj.cells (v.list.map U32++(buf.map fB++[Value.int .i64 m])).toArray _ _)
 rw [List.setIfInBounds_toArray,List.set_append_right _ _ (by simp [W8.list]),List.set_append_right _ _ (by simp [W8.list,hl])];simp [W8.list,hl]
theorem ycS (v:W8) (buf ys:List Int) (n:Int) (u:Nat) (hu:u+ys.length≤buf.length):splice (v.list.map U32++(buf.map fB++[Value.int .i64 n])) (8+u) (ys.map fB)=v.list.map U32++((buf.take u++(ys++buf.drop (u+ys.length))).map fB++[Value.int .i64 n]):=by
 have h8:(v.list.map U32).length=8:=rfl;unfold splice;rw [List.take_append,List.drop_append,h8,List.take_of_length_le (by rw [h8];omega),List.drop_eq_nil_of_le (by rw [h8];omega),List.nil_append,show 8+u - 8=u by omega,List.length_map,show 8+u+ys.length - 8=u+ys.length by omega,List.take_append_of_le_length (by rw [List.length_map];omega),List.drop_append_of_le_length (by rw [List.length_map];omega)];simp [List.map_take,List.map_drop,List.append_assoc]
theorem st_buf {w:World} {g B:Nat} {v:W8} {buf:List Int} {n:Int} (h:w.heap[g]? =some (oSt v buf n)) (hl:buf.length=64) (hB:g < B):Sl fB w B (some ⟨g,8,none⟩) 64 buf:=⟨hl,fun _=>⟨g,8,rfl,hB,fun k x hx=>by
 have hk:=(List.getElem?_eq_some_iff.1 hx).1;rw [cell_of_row w g (8+k) _ _ _ h]
 show ((v.list.map U32++(buf.map fB++[Value.int .i64 n])).toArray)[8+k]? =_
 rw [List.getElem?_toArray,List.getElem?_append_right (by simp [W8.list]),List.getElem?_append_left (by simp [W8.list];omega)]
 simp [W8.list,hx]⟩⟩
theorem ybz {P:Program} {w:World} {ops:Array Oper} {rest:List Oper} {o:Oper} {a:Act} {Q:Exit→Act→World→Prop} (hgd:o.guard=none) (d s:Operand) (dT sT:TypeId)
 (ho:o.op= .call {callee:= .builtin .copy,args:=#[d,s],argTypes:=#[dT,sT]}) (elem:TypeId) (hu:P.underlying dT=some (.slice elem)) (hsz:(P.info? elem).map (·.size)=some 1)
 (dp sp:Option Addr) (dLen dCap sLen sCap:Nat) (hd:a.eval d= .slice dp dLen dCap) (hs:a.eval s= .slice sp sLen sCap)
 (g off:Nat) (cur:List Value) (t:TypeId) (hg:w.heap[g]? =some (.cells cur.toArray t (0,0))) (cs:List Value) (hn:cs.length=Nat.min sLen dLen)
 (hpos:0 < cs.length→dp=some ⟨g,off,none⟩∧∃ad,sp=some ad∧∀j v,cs[j]? =some v→w.cell? (ad.add j)=some v)
 (hfit:off+cs.length≤cur.length) (h1:∀v∈cs,v.oneCell'=true)
 (h:∀w',Hid (w'.heap[g]? =some (.cells (splice cur off cs).toArray t (0,0)))→Hid (But (fun k=>k=g) w w')→wpList P ops Q rest (a.put o.dst (goInt cs.length)) w'):
 wpList P ops Q (o::rest) a w:=by
 by_cases h0:cs.length=0
 ·obtain rfl:cs=[]:=List.eq_nil_of_length_eq_zero h0
  refine wpList_copy_nothing hgd d s dT sT ho elem hu hsz dp sp dLen dCap sLen sCap hd hs (by simpa using hn.symm) ?_;exact h w (show _=_ by simpa [splice] using hg) (But.refl _ _)
 ·obtain ⟨rfl,ad,rfl,hsrc⟩:=hpos om
  refine wpList_copy_own hgd d s dT sT ho elem hu hsz g off dLen dCap ad sLen sCap hd hs cur.toArray t hg cs hn hsrc (by simpa using hfit) h1 ?_;exact h _ (show _=_ by simpa [splice] using setRow_heap w g _ _ t _ hg) ⟨rfl,rfl,rfl,by simp [World.setRow],fun k hk hne=>setRow_other w g k _ hne⟩
theorem ybk {P:Program} (t e:Nat) (i:TypeInfo) (ht:P.underlying t=some (.slice e)) (hi:P.info? e=some i) (hs:i.size=1) (A:Option Addr) (n c:Nat) (kh:IntKind) (h:Int) (m:Nat) (hm:h=m) (h2:m≤n) (hc:n≤c) (w:World):
 (Instr.slice t (.slice A n c) (some (.int kh h)) none none).run P w= .ok (.slice (if c=m then A else A.map (·.add m)) (n - m) (c - m)) w:=by
 subst hm;simp [Instr.slice,run_underlying ht,Instr.sliceBounds,run_sliceBound w kh (m:Int) n _ om om,sizeOf,typeInfo,hi,hs]
theorem ycT {P:Program} (t e n:Nat) (i:TypeInfo) (ht:P.underlying t=some (.array n e)) (hi:P.info? e=some i) (hs:i.size=1) (g off:Nat) (kh:IntKind) (h:Int) (m:Nat) (hm:h=m) (h2:m < n) (w:World):
 (Instr.sliceAt t (.pointer (some ⟨g,off,none⟩)) (some (.int kh h)) none none).run P w= .ok (.slice (some ⟨g,off+m,none⟩) (n - m) (n - m)) w:=by
 subst hm;simp [Instr.sliceAt,run_underlying ht,Instr.sureAddr,Instr.sliceBounds,run_sliceBound w kh (m:Int) n _ om om,sizeOf,typeInfo,hi,hs,Addr.add];rw [if_neg om]
 split
 ·rename_i h0;rw [h0,Nat.add_zero]
 ·rfl
theorem ybH {P:Program} (t e n:Nat) (i:TypeInfo) (ht:P.underlying t=some (.array n e)) (hi:P.info? e=some i) (g off:Nat) (w:World):
 (Instr.sliceAt t (.pointer (some ⟨g,off,none⟩)) none none none).run P w= .ok (.slice (some ⟨g,off,none⟩) n n) w:=by
 simp [Instr.sliceAt,run_underlying ht,Instr.sureAddr,Instr.sliceBounds,sizeOf,typeInfo,hi,Addr.add]
theorem app_drop_eq {bs xs:List Int} {p:Nat} (h:(bs.length+p) % 64=0):(bs++xs).drop (64*((bs.length+p) / 64))=xs.drop p:=by
 rw [show 64*((bs.length+p) / 64)=bs.length+p by omega,List.drop_append,List.drop_eq_nil_of_le om,List.nil_append,show bs.length+p - bs.length=p by omega]
theorem step_block {bs xs:List Int} {p:Nat} (h:(bs.length+p) % 64=0):blk (hashN (bs++xs) ((bs.length+p) / 64)) ((xs.drop p).take 64)=hashN (bs++xs) ((bs.length+(p+64)) / 64):=by
 rw [show (bs.length+(p+64)) / 64=(bs.length+p) / 64+1 by omega]
 show _=blk _ _
 rw [app_drop_eq h]
theorem fill_block {bs xs buf:List Int} (hu:bs.length % 64≠0) (hn:64 - bs.length % 64≤xs.length) (hb:buf.length=64) (ht:buf.take (bs.length % 64)=bs.drop (64*(bs.length / 64))):
 blk (hashN bs (bs.length / 64)) (buf.take (bs.length % 64)++(xs.take (64 - bs.length % 64)++buf.drop (bs.length % 64+(xs.take (64 - bs.length % 64)).length)))=hashN (bs++xs) ((bs.length+(64 - bs.length % 64)) / 64):=by
 rw [show (bs.length+(64 - bs.length % 64)) / 64=bs.length / 64+1 by omega,←ycR bs xs _ om]
 show _=blk _ _
 have hlen:(buf.take (bs.length % 64)).length=bs.length % 64:=by rw [List.length_take,hb];omega
 have e1:buf.drop (bs.length % 64+(xs.take (64 - bs.length % 64)).length)=[]:=List.drop_eq_nil_of_le (by rw [List.length_take,hb];omega)
 have e2:((bs++xs).drop (64*(bs.length / 64))).take 64=buf.take (bs.length % 64)++xs.take (64 - bs.length % 64):=by
  rw [List.drop_append_of_le_length om,←ht,List.take_append,hlen,List.take_of_length_le om]
 rw [e1,e2,List.append_nil]
theorem early_St {w:World} {g:Nat} {bs xs buf:List Int} (hb:buf.length=64) (hbb:Byt buf) (hbs:Byt bs) (hxb:Byt xs) (ht:buf.take (bs.length % 64)=bs.drop (64*(bs.length / 64))) (hn:bs.length % 64+xs.length < 64)
 (hg:w.heap[g]? =some (oSt (hashN bs (bs.length / 64)) (buf.take (bs.length % 64)++(xs++buf.drop (bs.length % 64+xs.length))) ((bs.length+xs.length:Nat):Int))):St w g (bs++xs):=by
 refine ⟨buf.take (bs.length % 64)++(xs++buf.drop (bs.length % 64+xs.length)),?_,?_,hbs.app hxb,?_,?_⟩
 ·simp [hb];omega
 ·exact (hbb.take _).app (hxb.app (hbb.drop _))
 ·rw [List.length_append,show (bs.length+xs.length) / 64=bs.length / 64 by omega,ycR _ _ _ om];exact hg
 ·rw [List.length_append,show (bs.length+xs.length) / 64=bs.length / 64 by omega,show (bs.length+xs.length) % 64=bs.length % 64+xs.length by omega,List.drop_append_of_le_length om,←ht,←List.append_assoc,List.take_append_of_le_length (by simp [hb];omega),List.take_of_length_le (by simp [hb];omega)]
theorem last_St {w:World} {g p:Nat} {bs xs buf:List Int} (hb:buf.length=64) (hbb:Byt buf) (hbs:Byt bs) (hxb:Byt xs) (hp:(bs.length+p) % 64=0) (hpn:p≤xs.length) (hn:xs.length - p < 64)
 (hg:w.heap[g]? =some (oSt (hashN (bs++xs) ((bs.length+p) / 64)) (buf.take 0++(xs.drop p++buf.drop (0+(xs.drop p).length))) ((bs.length+xs.length:Nat):Int))):St w g (bs++xs):=by
 refine ⟨buf.take 0++(xs.drop p++buf.drop (0+(xs.drop p).length)),?_,?_,hbs.app hxb,?_,?_⟩
 ·simp [hb];omega
 ·exact (hbb.take _).app ((hxb.drop _).app (hbb.drop _))
 ·rw [List.length_append,show (bs.length+xs.length) / 64=(bs.length+p) / 64 by omega];exact hg
 ·rw [List.length_append,show (bs.length+xs.length) / 64=(bs.length+p) / 64 by omega,show (bs.length+xs.length) % 64=(xs.drop p).length by rw [List.length_drop];omega,app_drop_eq hp,List.take_zero,List.nil_append,List.take_left']
  rfl
def ycf:Value→Nat
 | .slice _ n _=>n
 |_=>0
theorem yb8 {A:Option Addr} {g m c:Nat} (h:∀a,A=some a→a.block≠g) {a:Addr} (ha:(if c=m then A else A.map (·.add m))=some a):a.block≠g:=by
 split at ha
 ·exact h a ha
 ·rcases A with _ |x
  ·simp at ha
  ·simp only [Option.map_some,Option.some.injEq] at ha
   subst ha;rw [show (x.add m).block=x.block by unfold Addr.add;split<;>rfl];exact h _ rfl
def WrP (g n B:Nat) (bs xs:List Int) (w:World) (x:Value) (wr:World):Prop:=
 ∃(p r c':Nat) (A':Option Addr) (buf':List Int),p≤n∧r=n - p∧(bs.length+p) % 64=0∧x= .slice A' r c'∧r≤c'∧Hid (Sl fB wr B A' r (xs.drop p))∧Hid (∀a,A'=some a→a.block≠g)∧Hid (buf'.length=64)∧Hid (Byt buf')∧
  Hid (wr.heap[g]? =some (oSt (hashN (bs++xs) ((bs.length+p) / 64)) buf' ((bs.length+n:Nat):Int)))∧Hid (But (fun k=>k=g) w wr)
theorem Tryz.sizeB:(Tryz.prog.info? 5).map (·.size)=some 1:=by kernel_rfl
theorem yco (g:Nat) (bs xs:List Int) (A:Option Addr) (n c B:Nat) (w:World) (hS:St w g bs) (hx:Sl fB w B A n xs) (hc:n≤c) (hB:B≤w.heap.size) (hxb:Byt xs) (hA:∀a,A=some a→a.block≠g) (hl:bs.length+xs.length≤1099511627776) (hk:KTab w) (hk1:1 < w.heap.size) (hg1:g≠1):
 Calls Tryz.prog 199 #[.pointer (some ⟨g,0,none⟩),.slice A n c] w fun e w'=>e= .returned (.tuple #[])∧St w' g (bs++xs)∧But (fun k=>k=g) w w':=by
 obtain ⟨buf,hbl,hbb,hbs,hg,htk⟩:=hS;obtain ⟨hxn,hxs⟩:=hx;obtain ⟨L,hL⟩:∃L,L=bs.length:=⟨_,rfl⟩
 have hcn:=st_n hg hbl;rw [←hL] at hcn;have hfn:=frozen_of_row w g 72 _ _ hg;have HG:=lh hg;have HXS:=lh hxs;have HXB:=lh hxb;have HBS:=lh hbs;have HBB:=lh hbb;have HBL:=lh hbl;have HTK:=lh htk;have HK:=lh hk;have HK1:=lh hk1;have HA:=lh hA;have HLe:Hid (L=bs.length):=hL;have HXN:Hid (xs.length=n):=hxn;rw [←hL,hxn] at hl;clear hg hxs hxb hbs hbb hbl htk hk hk1 hA hL hxn;go_enter Tryz.func199,Tryz.ntmps199
 by_cases hu:L % 64=0
 ·
  go_upto_region 7 with fail
  generalize hW:w.setCell _ _=W
  have HW7:Hid (WrP g n B bs xs w (.slice A n c) W):=by
   have hb:But (fun k=>k=g) w W:=by rw [←hW];exact But.setCell (p:=fun k=>k=g) (x:=⟨g,72,none⟩) (But.refl _ _) (.inl rfl) _
   refine ⟨0,n,c,A,buf,by omega,by omega,by rw [←HLe.out];omega,rfl,hc,⟨HXN.out,HXS.out.but hb hB HA.out⟩,HA,HBL,HBB,?_,hb⟩
   show _=_
   rw [Nat.add_zero,ycR _ _ _ om,←hW,Int.natCast_add,←HLe.out];have h1:=st_set_n (m:=(L:Int)+n) HG.out HBL.out;rw [←HLe.out] at h1;exact h1
  have HWW:=lh hW;clear hW
  go_loopw [1] (fun x wr=>WrP g n B bs xs w x wr) (fun x _=>ycf x)
  case atStart=>exact HW7.out
  case round=>
   obtain ⟨p,r,c',A',buf',hpn,hr,hp,rfl,hrc,HX,HA',HBL',HBB',HG',HB'⟩:=hrel;have HBs:Hid (B≤wr.heap.size):=Nat.le_trans hB HB'.out.size;have HKr:Hid (KTab wr):=fun i x hx=>(World.cell?_of_block (w:=w) (HB'.out.block 1 HK1.out (Ne.symm hg1))).trans (HK.out i x hx)
   have HKs:Hid (1 < wr.heap.size):=Nat.lt_of_lt_of_le HK1.out HB'.out.size;obtain ⟨iB,hB0,_,hB1,_⟩:=info_parts Tryz.infoB
   by_cases h64:64≤r
   ·obtain ⟨b,off,rfl,_⟩:=HX.out.2 (by rw [HX.out.1];omega)
    have hs1:=fun W=>ybs (P:=Tryz.prog) 40 5 iB Tryz.underlying40 hB0 (some ⟨b,off,none⟩) r c' .i64 64 64 rfl om W
    have hrI:64≤(r:Int):=by omega
    have HC:=lh (ycK g (hashN (bs++xs) ((bs.length+p) / 64)) buf' ((bs.length+n:Nat):Int) (some ⟨b,off,none⟩) c' B ((xs.drop p).take 64) wr HG'.out ⟨by rw [List.length_take,HX.out.1];omega,HX.out.2.take_ 64⟩ HBs.out ((HXB.out.drop p).take 64) om HKr.out HKs.out hg1 (ydB _ _));have HR:=lh hr;clear hr
    go_wp2_with (first
     |(go_at_call 242;(refine HC.out.mono ?_);rintro e w6 ⟨rfl,HG6,HB6⟩
       have HG6':=lh HG6;have HB6':=lh HB6
       clear HG6 HB6))
    refine ⟨?rel,?measure⟩
    case rel=>
     have hr:=HR.out;refine ⟨p+64,r - 64,c' - 64,_,buf',by omega,by omega,by omega,rfl,by omega,⟨by rw [List.length_drop,HXN.out];omega,?_⟩,?_,HBL',HBB',?_,HB'.out.trans HB6'.out (fun i hi=> .inl hi)⟩
     ·have h1:=(HX.out.2.cut (n:=64) (cap:=c') (by rw [HX.out.1];exact hrc)).but HB6'.out HBs.out (fun a ha=>yb8 HA'.out ha)
      rw [List.drop_drop] at h1;exact h1
     ·exact fun a ha=>yb8 HA'.out ha
     ·show _=_
      have h1:=HG6'.out;rw [step_block hp] at h1;exact h1
    case measure=>
     show r - 64 < r
     omega
   ·have hrI:¬64≤(r:Int):=by omega
    have hs1:=fun W=>ybH (P:=Tryz.prog) 300 5 64 iB Tryz.underlying300 hB0 g 8 W
    obtain ⟨cs,hcs⟩:∃cs,cs=(xs.drop p).map fB:=⟨_,rfl⟩
    have HCL:Hid ((xs.drop p).length=r):=HX.out.1;have HCN:Hid (cs.length=Nat.min r 64):=by show _=min _ _;rw [hcs,List.length_map,HCL.out];omega
    have HCP:Hid (0 < cs.length→∃ad,A'=some ad∧∀j v,cs[j]? =some v→wr.cell? (ad.add j)=some v):=fun h=>by
     rw [hcs] at h ⊢;exact HX.out.2.cells h
    have HGc:Hid (wr.heap[g]? =some (.cells ((hashN (bs++xs) ((bs.length+p) / 64)).list.map U32++(buf'.map fB++[Value.int .i64 ((bs.length+n:Nat):Int)])).toArray 302 (0,0))):=HG'.out
    have HCF:Hid (8+0+cs.length≤((hashN (bs++xs) ((bs.length+p) / 64)).list.map U32++(buf'.map fB++[Value.int .i64 ((bs.length+n:Nat):Int)])).length):=by
     show _≤_
     rw [HCN.out,List.length_append,List.length_append,List.length_map,List.length_map,HBL'.out];show 8+0+min r 64≤8+(64+1);omega
    have HC1:Hid (∀v∈cs,v.oneCell'=true):=by
     intro v hv;rw [hcs] at hv;obtain ⟨y,_,rfl⟩:=List.mem_map.1 hv;rfl
    have HCS:=lh hcs;clear hcs
    go_wp2_with (first
     |(with_reducible refine ybz (o:=⟨_,_,_,_,_,_⟩) rfl (.tmp 54) (.tmp 55) 40 40 rfl 5 Tryz.underlying40 Tryz.sizeB _ _ _ _ _ _ rfl rfl g (8+0) _ 302 HGc.out cs HCN.out (fun h=>⟨rfl,HCP.out h⟩) HCF.out HC1.out ?_;intro W2 HG2 HB2))
    go_end0
    refine ⟨rfl,?_,HB'.out.trans HB2.out (fun i hi=> .inl hi)⟩;have h2:=HG2.out;rw [HCS.out,ycS _ _ _ _ _ (by rw [HBL'.out,HCL.out];omega)] at h2;exact last_St HBL'.out HBB'.out HBS.out HXB.out hp (by rw [HXN.out];exact hpn) (by rw [HXN.out];omega) (by rw [HXN.out];exact h2)
 ·
  go_upto_region 3 with fail
  obtain ⟨u,hue⟩:∃u,u=L % 64:=⟨_,rfl⟩
  have huI:(L:Int) % 64=(u:Int):=by omega
  obtain ⟨iB,hB0,_,hB1,_⟩:=info_parts Tryz.infoB;have hu64:u < 64:=by omega
  have hu0:0 < u:=by omega
  have hsl:=fun W=>ycT (P:=Tryz.prog) 300 5 64 iB Tryz.underlying300 hB0 hB1 g 8 .i64 (u:Int) u rfl hu64 W
  generalize hW:w.setCell _ _=W
  have HGW:Hid (W.heap[g]? =some (.cells ((hashN bs (bs.length / 64)).list.map U32++(buf.map fB++[Value.int .i64 ((L:Int)+n)])).toArray 302 (0,0))):=by
   show _=_
   rw [←hW];exact st_set_n HG.out HBL.out
  have HBW:Hid (But (fun k=>k=g) w W):=by
   show But _ _ _
   rw [←hW];exact But.setCell (p:=fun k=>k=g) (x:=⟨g,72,none⟩) (But.refl _ _) (.inl rfl) _
  have HXW:Hid (SL fB W B A xs):=HXS.out.but HBW.out hB HA.out;have HW:=lh hW;have HUE:=lh hue;clear hW hue
  by_cases hun:u+n < 64
  ·
   obtain ⟨cs,hcs⟩:∃cs,cs=(xs.take n).map fB:=⟨_,rfl⟩
   have HCL:Hid ((xs.take n).length=n):=by show _=_;rw [List.length_take,HXN.out];omega
   have HCM:Hid (cs.length=n):=by show _=_;rw [hcs,List.length_map,HCL.out]
   have HCN:Hid (cs.length=Nat.min n (64 - u)):=by show _=min _ _;rw [HCM.out];omega
   have HCP:Hid (0 < cs.length→∃ad,A=some ad∧∀j v,cs[j]? =some v→W.cell? (ad.add j)=some v):=fun h=>by
    rw [hcs] at h ⊢;exact (HXW.out.take_ n).cells h
   have HCF:Hid (8+u+cs.length≤((hashN bs (bs.length / 64)).list.map U32++(buf.map fB++[Value.int .i64 ((L:Int)+n)])).length):=by
    show _≤_
    rw [HCN.out,List.length_append,List.length_append,List.length_map,List.length_map,HBL.out];show 8+u+min n (64 - u)≤8+(64+1);omega
   have HC1:Hid (∀v∈cs,v.oneCell'=true):=by
    intro v hv;rw [hcs] at hv;obtain ⟨y,_,rfl⟩:=List.mem_map.1 hv;rfl
   have HCS:=lh hcs;clear hcs
   go_wp2_with (first
    |(with_reducible refine ybz (o:=⟨some 28,_,_,_,_,_⟩) rfl (.tmp 26) (.tmp 27) 40 40 rfl 5 Tryz.underlying40 Tryz.sizeB _ _ _ _ _ _ rfl rfl g (8+u) _ 302 HGW.out cs HCN.out (fun h=>⟨rfl,HCP.out h⟩) HCF.out HC1.out ?_;intro W2 HG2 HB2;rw [HCM.out]))
   all_goals refine bodyPost_ret (results_none rfl _ _ _) rfl ?_
   all_goals
    refine ⟨rfl,?_,HBW.out.trans HB2.out (fun i hi=> .inl hi)⟩;have h2:=HG2.out;rw [HCS.out,ycS _ _ _ _ _ (by rw [HBL.out,HCL.out];omega),HLe.out,←Int.natCast_add,←HXN.out,List.take_length,HUE.out,HLe.out] at h2;exact early_St HBL.out HBB.out HBS.out HXB.out HTK.out (by rw [←HLe.out,HXN.out,←HUE.out];exact hun) h2
  ·
   obtain ⟨m,hm⟩:∃m,m=64 - u:=⟨_,rfl⟩
   have hmn:m≤n:=by omega
   obtain ⟨cs,hcs⟩:∃cs,cs=(xs.take m).map fB:=⟨_,rfl⟩
   have HCL:Hid ((xs.take m).length=m):=by show _=_;rw [List.length_take,HXN.out];omega
   have HCM:Hid (cs.length=m):=by show _=_;rw [hcs,List.length_map,HCL.out]
   have HCN:Hid (cs.length=Nat.min n (64 - u)):=by show _=min _ _;rw [HCM.out];omega
   have HCP:Hid (0 < cs.length→∃ad,A=some ad∧∀j v,cs[j]? =some v→W.cell? (ad.add j)=some v):=fun h=>by
    rw [hcs] at h ⊢;exact (HXW.out.take_ m).cells h
   have HCF:Hid (8+u+cs.length≤((hashN bs (bs.length / 64)).list.map U32++(buf.map fB++[Value.int .i64 ((L:Int)+n)])).length):=by
    show _≤_
    rw [HCN.out,List.length_append,List.length_append,List.length_map,List.length_map,HBL.out];show 8+u+min n (64 - u)≤8+(64+1);omega
   have HC1:Hid (∀v∈cs,v.oneCell'=true):=by
    intro v hv;rw [hcs] at hv;obtain ⟨y,_,rfl⟩:=List.mem_map.1 hv;rfl
   have HCS:=lh hcs;clear hcs;have hum:(u:Int)+(m:Int)=64:=by omega
   have HM:=lh hm;clear hm;obtain ⟨A2,hA2⟩:∃A2,A2=if c=m then A else A.map (·.add m):=⟨_,rfl⟩
   have hs2:=fun W=>ybk (P:=Tryz.prog) 40 5 iB Tryz.underlying40 hB0 hB1 A n c .i64 (m:Int) m rfl hmn hc W
   rw [←hA2] at hs2;have HA2:=lh hA2;clear hA2;have hsa:=fun W=>ybH (P:=Tryz.prog) 300 5 64 iB Tryz.underlying300 hB0 g 8 W
   go_upto_region 6 with (first
    |(with_reducible refine ybz (o:=⟨some 28,_,_,_,_,_⟩) rfl (.tmp 26) (.tmp 27) 40 40 rfl 5 Tryz.underlying40 Tryz.sizeB _ _ _ _ _ _ rfl rfl g (8+u) _ 302 HGW.out cs HCN.out (fun h=>⟨rfl,HCP.out h⟩) HCF.out HC1.out ?_;intro W2 HG2 HB2;rw [HCM.out]))
   obtain ⟨buf7,hbuf7⟩:∃b,b=buf.take u++(xs.take m++buf.drop (u+(xs.take m).length)):=⟨_,rfl⟩
   have HL7:Hid (buf7.length=64):=by show _=_;rw [hbuf7];have hm:=HM.out;rw [List.length_append,List.length_append,List.length_take,List.length_drop,HBL.out,HCL.out];omega
   have HB7:Hid (Byt buf7):=by show Byt _;rw [hbuf7];exact (HBB.out.take _).app ((HXB.out.take _).app (HBB.out.drop _))
   have HG7:Hid (W2.heap[g]? =some (oSt (hashN bs (bs.length / 64)) buf7 ((L:Int)+n))):=by
    have h2:=HG2.out;rw [HCS.out,ycS _ _ _ _ _ (by rw [HBL.out,HCL.out];omega),←hbuf7] at h2;exact h2
   have HBW2:Hid (But (fun k=>k=g) w W2):=HBW.out.trans HB2.out (fun i hi=> .inl hi);have HKr:Hid (KTab W2):=fun i x hx=>(World.cell?_of_block (w:=w) (HBW2.out.block 1 HK1.out (Ne.symm hg1))).trans (HK.out i x hx)
   have HKs:Hid (1 < W2.heap.size):=Nat.lt_of_lt_of_le HK1.out HBW2.out.size;have HC:=lh (ycK g (hashN bs (bs.length / 64)) buf7 ((L:Int)+n) (some ⟨g,8,none⟩) 64 W2.heap.size buf7 W2 HG7.out (st_buf HG7.out HL7.out (lt_of_block HG7.out)) nl HB7.out nl HKr.out HKs.out hg1 (ydB _ _));have HBF:=lh hbuf7;clear hbuf7 HG2;have hm:=HM.out;have hue:=HUE.out;clear hm hue
   go_upto_region 7 with (first
    |(go_at_call 242;(refine HC.out.mono ?_);rintro e w6 ⟨rfl,HG6,HB6⟩
      have HG6':=lh HG6;have HB6':=lh HB6
      clear HG6 HB6))
   have hm:=HM.out;have hue:=HUE.out;have HB67:Hid (But (fun k=>k=g) w w6):=HBW2.out.trans HB6'.out (fun i hi=> .inl hi)
   have HW7:Hid (WrP g n B bs xs w (.slice A2 (n - m) (c - m)) w6):=by
    refine ⟨m,n - m,c - m,A2,buf7,hmn,rfl,by rw [←HLe.out];omega,rfl,by omega,⟨by rw [List.length_drop,HXN.out],?_⟩,?_,HL7,HB7,?_,HB67.out⟩
    ·rw [HA2.out]
     exact (HXS.out.cut (by rw [HXN.out];exact hc)).but HB67.out hB (fun a ha=>yb8 HA.out ha)
    ·intro a ha
     rw [HA2.out] at ha;exact yb8 HA.out ha
    ·have h6:=HG6'.out
     have hf:=fill_block (bs:=bs) (xs:=xs) (buf:=buf) (by rw [←HLe.out];exact hu) (by rw [←HLe.out,HXN.out];omega) HBL.out HTK.out;rw [←HLe.out,←hue,←hm] at hf
     show _=_
     rw [←HLe.out,←hf,HBF.out.symm,Int.natCast_add];rw [←HLe.out] at h6;exact h6
   clear hm hue hum hs2 hsa hmn hu0 hu64 huI hsl
   go_loopw [1] (fun x wr=>WrP g n B bs xs w x wr) (fun x _=>ycf x)
   case atStart=>exact HW7.out
   case round=>
    obtain ⟨p,r,c',A',buf',hpn,hr,hp,rfl,hrc,HX,HA',HBL',HBB',HG',HB'⟩:=hrel;have HBs:Hid (B≤wr.heap.size):=Nat.le_trans hB HB'.out.size;have HKr:Hid (KTab wr):=fun i x hx=>(World.cell?_of_block (w:=w) (HB'.out.block 1 HK1.out (Ne.symm hg1))).trans (HK.out i x hx)
    have HKs:Hid (1 < wr.heap.size):=Nat.lt_of_lt_of_le HK1.out HB'.out.size;obtain ⟨iB,hB0,_,hB1,_⟩:=info_parts Tryz.infoB
    by_cases h64:64≤r
    ·obtain ⟨b,off,rfl,_⟩:=HX.out.2 (by rw [HX.out.1];omega)
     have hs1:=fun W=>ybs (P:=Tryz.prog) 40 5 iB Tryz.underlying40 hB0 (some ⟨b,off,none⟩) r c' .i64 64 64 rfl om W
     have hrI:64≤(r:Int):=by omega
     have HC:=lh (ycK g (hashN (bs++xs) ((bs.length+p) / 64)) buf' ((bs.length+n:Nat):Int) (some ⟨b,off,none⟩) c' B ((xs.drop p).take 64) wr HG'.out ⟨by rw [List.length_take,HX.out.1];omega,HX.out.2.take_ 64⟩ HBs.out ((HXB.out.drop p).take 64) om HKr.out HKs.out hg1 (ydB _ _));have HR:=lh hr;clear hr
     go_wp2_with (first
      |(go_at_call 242;(refine HC.out.mono ?_);rintro e w6 ⟨rfl,HG6,HB6⟩
        have HG6':=lh HG6;have HB6':=lh HB6
        clear HG6 HB6))
     refine ⟨?rel,?measure⟩
     case rel=>
      have hr:=HR.out;refine ⟨p+64,r - 64,c' - 64,_,buf',by omega,by omega,by omega,rfl,by omega,⟨by rw [List.length_drop,HXN.out];omega,?_⟩,?_,HBL',HBB',?_,HB'.out.trans HB6'.out (fun i hi=> .inl hi)⟩
      ·have h1:=(HX.out.2.cut (n:=64) (cap:=c') (by rw [HX.out.1];exact hrc)).but HB6'.out HBs.out (fun a ha=>yb8 HA'.out ha)
       rw [List.drop_drop] at h1;exact h1
      ·exact fun a ha=>yb8 HA'.out ha
      ·show _=_
       have h1:=HG6'.out;rw [step_block hp] at h1;exact h1
     case measure=>
      show r - 64 < r
      omega
    ·have hrI:¬64≤(r:Int):=by omega
     have hs1:=fun W=>ybH (P:=Tryz.prog) 300 5 64 iB Tryz.underlying300 hB0 g 8 W
     obtain ⟨cs,hcs⟩:∃cs,cs=(xs.drop p).map fB:=⟨_,rfl⟩
     have HCL:Hid ((xs.drop p).length=r):=HX.out.1;have HCN:Hid (cs.length=Nat.min r 64):=by show _=min _ _;rw [hcs,List.length_map,HCL.out];omega
     have HCP:Hid (0 < cs.length→∃ad,A'=some ad∧∀j v,cs[j]? =some v→wr.cell? (ad.add j)=some v):=fun h=>by
      rw [hcs] at h ⊢;exact HX.out.2.cells h
     have HGc:Hid (wr.heap[g]? =some (.cells ((hashN (bs++xs) ((bs.length+p) / 64)).list.map U32++(buf'.map fB++[Value.int .i64 ((bs.length+n:Nat):Int)])).toArray 302 (0,0))):=HG'.out
     have HCF:Hid (8+0+cs.length≤((hashN (bs++xs) ((bs.length+p) / 64)).list.map U32++(buf'.map fB++[Value.int .i64 ((bs.length+n:Nat):Int)])).length):=by
      show _≤_
      rw [HCN.out,List.length_append,List.length_append,List.length_map,List.length_map,HBL'.out];show 8+0+min r 64≤8+(64+1);omega
     have HC1:Hid (∀v∈cs,v.oneCell'=true):=by
      intro v hv;rw [hcs] at hv;obtain ⟨y,_,rfl⟩:=List.mem_map.1 hv;rfl
     have HCS:=lh hcs;clear hcs
     go_wp2_with (first
      |(with_reducible refine ybz (o:=⟨_,_,_,_,_,_⟩) rfl (.tmp 54) (.tmp 55) 40 40 rfl 5 Tryz.underlying40 Tryz.sizeB _ _ _ _ _ _ rfl rfl g (8+0) _ 302 HGc.out cs HCN.out (fun h=>⟨rfl,HCP.out h⟩) HCF.out HC1.out ?_;intro W2 HG2 HB2))
     go_end0
     refine ⟨rfl,?_,HB'.out.trans HB2.out (fun i hi=> .inl hi)⟩;have h2:=HG2.out;rw [HCS.out,ycS _ _ _ _ _ (by rw [HBL'.out,HCL.out];omega)] at h2;exact last_St HBL'.out HBB'.out HBS.out HXB.out hp (by rw [HXN.out];exact hpn) (by rw [HXN.out];omega) (by rw [HXN.out];exact h2)
