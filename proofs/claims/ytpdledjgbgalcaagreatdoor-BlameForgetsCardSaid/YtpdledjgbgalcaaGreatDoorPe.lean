/- sha256.Join, the reference's Join, Node, both. split, both. Digits of a digest, plainly. Meetings: EncodeMeet, DecodeMeet; the reference's Entry, EncodeMeet. wire.AppendUint and sha256.Sum, any bytes. One-time signatures: parameters. -/
import Derived.Test.YtpdledjgbgalcaaGreatDoorPd
import Derived.Laws.IdiomStrings
import Derived.Test.YtpdledjgbgalcaaGreatDoorMh
import Derived.OwnWalk
namespace Go.Proofs.YtpdledjgbgalcaaGreatDoor
set_option maxRecDepth 100000
set_option maxHeartbeats 4000000
open Go.RowKit Go.Lib
set_option linter.unusedVariables false
set_option linter.unusedSimpArgs false
theorem yds {w:World} {b:Nat} {t:TypeId} {fr:Nat × Nat} {s:ByteArray} {cap B:Nat} (h:w.heap[b]? =some (.cells (bytesRow s cap) t fr)) (hb:b < B):Sl fB w B (some ⟨b,0,none⟩) s.size (sB s):=
 ⟨ya9 s,fun _=>⟨b,0,rfl,hb,fun k x hx=>by
     rw [Nat.zero_add,cell_of_row w b k _ _ _ h];unfold sB at hx;rw [List.getElem?_map,Array.getElem?_toList] at hx
     have hk:k < s.data.size:=by
      rcases Nat.lt_or_ge k s.data.size with c |c
      ·exact c
      ·rw [Array.getElem?_eq_none c] at hx;cases hx
     rw [Array.getElem?_eq_getElem hk] at hx
     cases hx
     exact bytesRow_at s cap k hk⟩⟩
theorem ybm {w:World} {ops:Array Oper} {rest:List Oper} {o:Oper} {a:Act} {Q:Exit→Act→World→Prop} (hgd:o.guard=none) (x:Operand) (ho:o.op= .convert 9 40 x) (s:ByteArray) (hx:a.eval x= .string s)
 (h:∀c W,Hid (Sl fB W W.heap.size (some ⟨w.heap.size,0,none⟩) s.size (sB s))→Hid (s.size≤c)→Hid (Below w.heap.size w W)→wpList Tryz.prog ops Q rest (a.put o.dst (.slice (some ⟨w.heap.size,0,none⟩) s.size c)) W):wpList Tryz.prog ops Q (o::rest) a w:=by
 refine wpList_plain hgd fun _ hK=>?_
 unfold Oper.wp execOp;simp only [ho,hx,Sem.run_bind,run_bytes_of_string (P:=Tryz.prog) w 9 40 5 s Tryz.underlying9 Tryz.underlying40 Tryz.underlying5,Result.andThen_ok];refine hK _ _ (h _ _ (yds (heap_alloc_new w.drew _) sI) (grownCap_ge w s.size 0 _) ?_);exact (Below.drew br).alloc nl _
def jnL (ps:List ByteArray):List Int:=ps.flatMap sB
theorem ydH (ps:List ByteArray) (x:ByteArray):jnL (ps++[x])=jnL ps++sB x:=by simp [jnL]
theorem ycp (ps:List ByteArray):Byt (jnL ps):=fun x hx=>by
 obtain ⟨s,_,h2⟩:=List.mem_flatMap.1 hx;exact ybr s x h2
theorem jnL_take_le (ps:List ByteArray) (k:Nat):(jnL (ps.take k)).length≤(jnL ps).length:=by
 have h:jnL ps=jnL (ps.take k)++jnL (ps.drop k):=by
  unfold jnL;rw [←List.flatMap_append,List.take_append_drop]
 rw [h,List.length_append];omega
theorem mjoin_any (A:Option Addr) (n c B:Nat) (ps:List ByteArray) (w:World) (hG:Glob w) (hx:Sl fT w B A n ps) (hB:B≤w.heap.size) (hn:n≤1000000) (hl:(jnL ps).length≤549755813887):
 Calls Tryz.prog 209 #[.slice A n c] w fun e w'=>e= .returned (.string (baOf (shaB (jnL ps))))∧Below w.heap.size w w':=by
 have HC0:=lh (stNew_any w hG);have HX:=lh hx;have HXN:Hid (ps.length=n):=hx.1;have HBB:=lh hB;have HL:=lh hl
 have H2:Hid (∀w1 bs x cb W,St W w.heap.size bs→Below w.heap.size w W→w.heap.size < w1→Sl fB W W.heap.size (some ⟨w1,0,none⟩) x.size (sB x)→x.size≤cb→(bs++sB x).length≤549755813887→Calls Tryz.prog 199 #[.pointer (some ⟨w.heap.size,0,none⟩),.slice (some ⟨w1,0,none⟩) x.size cb] W fun e w'=>e= .returned (.tuple #[])∧St w' w.heap.size (bs++sB x)∧But (fun k=>k=w.heap.size) W w'):=fun w1 bs x cb W hs hb hlt hsl hc hln=>
  yco w.heap.size bs (sB x) _ x.size cb W.heap.size W hs hsl hc nl (ybr x) (fun a ha=>by injection ha with ha;subst ha;exact Nat.ne_of_gt hlt) (by rw [List.length_append] at hln;omega) (hG.on hb).1 (hG.on hb).2.2 (Nat.ne_of_gt hG.2.2)
 have H3:Hid (∀W,St W w.heap.size (jnL ps)→Below w.heap.size w W→Calls Tryz.prog 200 #[.pointer (some ⟨w.heap.size,0,none⟩)] W fun e w'=>e= .returned (.string (baOf (shaB (jnL ps))))∧Below W.heap.size W w'):=fun W h2 hb=>
  sum_any w.heap.size (jnL ps) W h2 om (hG.on hb).1 (hG.on hb).2.2
 clear hG hx hB hl;go_enter Tryz.func209,Tryz.ntmps209
 go_wp2_with (go_at_call 198;(with_reducible refine HC0.out.mono ?_);rintro e w0 ⟨rfl,hw0⟩;subst hw0)
 go_loopw [9] (fun i wr=>∃k:Nat,k≤n∧i= .int .i64 k∧Hid (St wr w.heap.size (jnL (ps.take k)))∧Hid (Below w.heap.size w wr)∧Hid (w.heap.size < wr.heap.size)) (fun i _=>n - (intOf i).toNat)
 case atStart=>exact ⟨0,by omega,rfl,newSt_St w,bl,by show _ < _;simp⟩
 case round=>
  obtain ⟨k,hk,rfl,HS,HR,HLT⟩:=hrel
  by_cases hlt:k < n
  ·obtain ⟨b1,o1,x,rfl,_,hg,hc⟩:=(HX.out.up HR.out HBB.out).2.at_ (k:=k) yaR
   have hkI:(k:Int) < (n:Int):=by omega
   have hk0:(0:Int)≤(k:Int):=by omega
   have HT:Hid (jnL (ps.take (k+1))=jnL (ps.take k)++sB x):=by show _=_;rw [yba hg,ydH]
   have HLE:Hid ((jnL (ps.take k)++sB x).length≤549755813887):=by show _≤_;rw [←HT.out];exact Nat.le_trans (jnL_take_le ps (k+1)) HL.out
   clear hg
   go_wp2_with (first
    |((with_reducible refine ybm (o:=⟨some 15,_,_,_,_,_⟩) rfl (.tmp 14) rfl x rfl ?_);intro cb W1 hsl hcb hbl;(have HW1:Hid (Below w.heap.size w W1):=HR.out.trans (hbl.out.mono HR.out.size));(have HC1:=lh (H2.out _ (jnL (ps.take k)) x cb W1 (HS.out.but (But.of_below (p:=fun _=>False) hbl.out) (fun h=>h)) HW1.out HLT.out hsl.out hcb.out HLE.out));(have HZ1:Hid (wr.heap.size≤W1.heap.size):=hbl.out.size);clear hsl hcb hbl)
    |(go_at_call 199;(with_reducible refine HC1.out.mono ?_);rintro e W2 ⟨rfl,hs2,hb2⟩;(have HS2:=lh hs2);(have HW2:Hid (Below w.heap.size w W2):=HW1.out.trans (hb2.below HW1.out.size (fun i hi=>Nat.le_of_eq hi.symm)));(have HLT2:Hid (w.heap.size < W2.heap.size):=Nat.lt_of_lt_of_le (Nat.lt_of_lt_of_le HLT.out HZ1.out) hb2.size);clear hs2 hb2))
   go_roundw
   case rel=>exact ⟨k+1,by omega,by go_num,by rw [HT.out];exact HS2,HW2,HLT2⟩
   case measure=>simp [intOf];omega
  ·obtain rfl:k=n:=by omega
   have HE:Hid (jnL (ps.take k)=jnL ps):=by show _=_;rw [List.take_of_length_le yaM]
   rw [HE.out] at HS
   go_wp2_with (go_at_call 200;(with_reducible refine (H3.out _ HS.out HR.out).mono ?_);rintro e w3 ⟨rfl,hb3⟩;have HB3:=lh hb3;clear hb3)
   go_ret;exact ⟨rfl,HR.out.trans (HB3.out.mono HR.out.size)⟩
theorem sB_app (a b:ByteArray):sB (a++b)=sB a++sB b:=by
 unfold sB;rw [ByteArray.data_append,Array.toList_append,List.map_append]
theorem ba_eqU {a b:ByteArray} (h:sB a=sB b):a=b:=by
 obtain ⟨⟨x⟩⟩:=a;obtain ⟨⟨y⟩⟩:=b;unfold sB at h;simp only at h
 congr 2
 exact List.map_inj_right (f:=fun b:UInt8=>(b.toNat:Int)) (fun u v huv=>by
  have:u.toNat=v.toNat:=by omega
  exact UInt8.toNat_inj.1 this) |>.1 h
theorem baOf_snoc (ps:List ByteArray) (x:ByteArray):baOf (jnL ps)++x=baOf (jnL (ps++[x])):=by
 apply ba_eqU;rw [sB_app,ybi (ycp _),ybi (ycp _),ydH]
theorem baOf_lenU (ps:List ByteArray):(baOf (jnL ps)).size=(jnL ps).length:=by rw [←ya9,ybi (ycp _)]
theorem rjoin_any (A:Option Addr) (n c B:Nat) (ps:List ByteArray) (w:World) (hx:Sl fT w B A n ps) (hB:B≤w.heap.size) (hn:n≤1000000) (hl:(jnL ps).length≤1000000):
 Calls Tryz.prog 183 #[.slice A n c] w fun e w'=>e= .returned (.string (baOf (shaB (jnL ps))))∧Below w.heap.size w w':=by
 have HX:=lh hx;have HXN:Hid (ps.length=n):=hx.1;have HBB:=lh hB;have HL:=lh hl
 have H3:Hid (∀W A' c',Sl fB W W.heap.size A' (baOf (jnL ps)).size (sB (baOf (jnL ps)))→Calls Tryz.prog 123 #[.slice A' (baOf (jnL ps)).size c'] W fun e w'=>e= .returned (.string (baOf (shaB (jnL ps))))∧Below W.heap.size W w'):=fun W A' c' h=>by
  rw [ybi (ycp _)] at h;exact ycg A' _ c' W.heap.size (jnL ps) W h nl (by rw [baOf_lenU];omega) (ycp _)
 clear hx hB hl;go_enter Tryz.func183,Tryz.ntmps183;go_wp2
 go_loopw [3,8] (fun u i wr=>∃k:Nat,k≤n∧i= .int .i64 k∧Hid (u= .string (baOf (jnL (ps.take k))))∧Hid (Below w.heap.size w wr)) (fun _ i _=>n - (intOf i).toNat)
 case atStart=>exact ⟨0,by omega,rfl,by show _=_;rfl,Below.refl _ _⟩
 case round=>
  obtain ⟨k,hk,rfl,HU,HR⟩:=hrel
  by_cases hlt:k < n
  ·obtain ⟨b1,o1,x,rfl,_,hg,hc⟩:=(HX.out.up HR.out HBB.out).2.at_ (k:=k) yaR
   have hkI:(k:Int) < (n:Int):=by omega
   have hk0:(0:Int)≤(k:Int):=by omega
   have HT:Hid (baOf (jnL (ps.take k))++x=baOf (jnL (ps.take (k+1)))):=by show _=_;rw [yba hg,baOf_snoc]
   have hsz:¬9223372036854775807 < (baOf (jnL (ps.take k))).size+x.size:=by
    have h1:=Nat.le_trans (jnL_take_le ps (k+1)) HL.out;rw [yba hg,ydH,List.length_append,ya9] at h1;rw [baOf_lenU];omega
   obtain rfl:=HU.out;clear hg;generalize baOf (jnL (ps.take k))=acc at HT hsz;go_wp2
   go_roundw
   case rel=>exact ⟨k+1,by omega,by go_num,by show _=_;rw [←HT.out],HR⟩
   case measure=>simp [intOf];omega
  ·obtain rfl:k=n:=by omega
   have HE:Hid (jnL (ps.take k)=jnL ps):=by show _=_;rw [List.take_of_length_le yaM]
   rw [HE.out] at HU;obtain rfl:=HU.out
   go_wp2_with (first
    |((with_reducible refine ybm (o:=⟨some 17,_,_,_,_,_⟩) rfl (.tmp 16) rfl (baOf (jnL ps)) rfl ?_);intro cb W1 hsl hcb hbl;(have HW1:Hid (Below w.heap.size w W1):=HR.out.trans (hbl.out.mono HR.out.size));(have HC1:=lh (H3.out W1 _ cb hsl.out));clear hsl hcb hbl)
    |(go_at_call 123;(with_reducible refine HC1.out.mono ?_);rintro e W2 ⟨rfl,hb2⟩;(have HW2:Hid (Below w.heap.size w W2):=HW1.out.trans (hb2.mono HW1.out.size));clear hb2))
   go_ret;exact ⟨rfl,HW2.out⟩
def ndS (a b:ByteArray):ByteArray:=baOf (shaB (jnL [⟨#[1]⟩,a,b]))
theorem nd_sl (w:World) (a b:ByteArray):Sl fT (w.alloc (.cells #[.string ⟨#[1]⟩,.string a,.string b] 9)) (w.alloc (.cells #[.string ⟨#[1]⟩,.string a,.string b] 9)).heap.size (some ⟨w.heap.size,0,none⟩) 3 [⟨#[1]⟩,a,b]:=
 ⟨rfl,SL.of_block (t:=9) (fr:=(0,0)) (heap_alloc_new w _) sI⟩
theorem jn3 (a b:ByteArray):(jnL [⟨#[1]⟩,a,b]).length=1+a.size+b.size:=by
 unfold jnL;simp only [List.flatMap_cons,List.flatMap_nil,List.length_append,List.length_nil,ya9]
 show 1+(a.size+(b.size+0))=_
 omega
theorem ycq (a b:ByteArray) (w:World) (hG:Glob w) (ha:a.size≤400000) (hb:b.size≤400000):
 Calls Tryz.prog 168 #[.string a,.string b] w fun e w'=>e= .returned (.string (ndS a b))∧Below w.heap.size w w':=by
 have hbl:Below w.heap.size w (w.alloc (.cells #[.string ⟨#[1]⟩,.string a,.string b] 9)):=bl;have HJ:=lh (mjoin_any _ 3 3 _ _ _ (hG.on hbl) (nd_sl w a b) nl de (by rw [jn3];omega));have HB:=lh hbl;clear hG hbl;go_enter Tryz.func168,Tryz.ntmps168
 go_wp2_with (go_at_call 209;(with_reducible refine HJ.out.mono ?_);rintro e W2 ⟨rfl,hb2⟩;have HB2:=lh hb2;clear hb2)
 go_ret;exact ⟨rfl,HB.out.trans (HB2.out.mono HB.out.size)⟩
theorem rnode_any (a b:ByteArray) (w:World) (ha:a.size≤400000) (hb:b.size≤400000):
 Calls Tryz.prog 125 #[.string a,.string b] w fun e w'=>e= .returned (.string (ndS a b))∧Below w.heap.size w w':=by
 have hbl:Below w.heap.size w (w.alloc (.cells #[.string ⟨#[1]⟩,.string a,.string b] 9)):=bl;have HJ:=lh (rjoin_any _ 3 3 _ _ _ (nd_sl w a b) nl de (by rw [jn3];omega));have HB:=lh hbl;clear hbl;go_enter Tryz.func125,Tryz.ntmps125
 go_wp2_with (go_at_call 183;(with_reducible refine HJ.out.mono ?_);rintro e W2 ⟨rfl,hb2⟩;have HB2:=lh hb2;clear hb2)
 go_ret;exact ⟨rfl,HB.out.trans (HB2.out.mono HB.out.size)⟩
theorem ydI (a b:ByteArray):(ndS a b).size=32:=by
 unfold ndS;rw [←ya9,ybi (ybN _),ybA]
theorem len64_any (x:Nat) (hx:x < 256) (w:World):Calls Tryz.prog 230 #[.int .u64 x] w fun e w'=>e= .returned (.int .i64 (bitLen x))∧w=w':=by
 have h1:¬(4294967296:Int)≤(x:Int):=by omega
 have h2:¬(65536:Int)≤(x:Int):=by omega
 have h3:¬(256:Int)≤(x:Int):=by omega
 have hw:IntKind.u8.wrap (x:Int)=x:=by unfold IntKind.wrap;simp [IntKind.bits,IntKind.signed];omega
 go_enter Tryz.func230,Tryz.ntmps230;go_wp2;go_ret;refine ⟨?_,rfl⟩
 have ht:∀(s:ByteArray) (h:x < s.size),s[x]=s.data.getD x 0:=fun s h=>by
  show s.data[x]=_
  rw [Array.getD,dif_pos (show x < s.data.size from h)]
  rfl
 rw [ht];clear ht h1 h2 h3 hw;refine congrArg (fun z:Int=>Ending.returned (Value.int .i64 z)) (?_:_=((bitLen x:Nat):Int));obtain ⟨a,rfl⟩:∃a:Fin 256,a.val=x:=⟨⟨x,hx⟩,rfl⟩
 clear hx
 revert a
 decide+kernel
theorem len_any (x:Nat) (hx:x < 256) (w:World):Calls Tryz.prog 177 #[.int .u64 x] w fun e w'=>e= .returned (.int .i64 (bitLen x))∧w=w':=by
 have HL:=lh (len64_any x hx w);go_enter Tryz.func177,Tryz.ntmps177
 go_wp2_with (go_at_call 230;(with_reducible refine HL.out.mono ?_);rintro e w1 ⟨rfl,rfl⟩)
 go_ret;exact ⟨rfl,rfl⟩
def spl (n:Nat):Nat:=2 ^ (bitLen (n - 1) - 1)
theorem ycr {n:Nat} (h1:2≤n) (h2:n≤256):1≤bitLen (n - 1)∧bitLen (n - 1)≤8∧1≤spl n∧spl n < n∧n≤2*spl n:=by
 have hall:∀a:Fin 257,2≤a.val→1≤bitLen (a.val - 1)∧bitLen (a.val - 1)≤8∧1≤spl a.val∧spl a.val < a.val∧a.val≤2*spl a.val:=by decide+kernel
 exact hall ⟨n,by omega⟩ h1
theorem msplit_any (n:Nat) (h1:2≤n) (h2:n≤256) (w:World):Calls Tryz.prog 167 #[.int .i64 n] w fun e w'=>e= .returned (.int .i64 (spl n))∧w=w':=by
 obtain ⟨f1,f2,_⟩:=ycr h1 h2;obtain ⟨m,rfl⟩:∃m,n=m+1:=⟨n - 1,by omega⟩
 have hw:IntKind.u64.wrap (m:Int)=m:=by unfold IntKind.wrap;simp [IntKind.bits,IntKind.signed];omega
 have HL:=lh (len_any m om w);have hm:((m+1:Nat):Int) - 1=m:=by omega
 have hs:spl (m+1)=2 ^ (bitLen m - 1):=rfl;rw [Nat.add_sub_cancel] at f1 f2;rw [hs];obtain ⟨L,hL⟩:∃L,bitLen m=L:=⟨_,rfl⟩
 rw [hL] at f1 f2 HL ⊢;clear hs hL;have hcases:L=1∨L=2∨L=3∨L=4∨L=5∨L=6∨L=7∨L=8:=by omega
 rcases hcases with rfl |rfl |rfl |rfl |rfl |rfl |rfl |rfl
 all_goals
  go_enter Tryz.func167,Tryz.ntmps167
  go_wp2_with (go_at_call 177;(with_reducible refine HL.out.mono ?_);rintro e w1 ⟨rfl,rfl⟩)
  go_ret;exact ⟨by first |rfl |decide,rfl⟩
theorem rsplit_any (n:Nat) (h1:2≤n) (h2:n≤256) (w:World):Calls Tryz.prog 124 #[.int .i64 n] w fun e w'=>e= .returned (.int .i64 (spl n))∧w=w':=by
 obtain ⟨f1,f2,_,f4,f5⟩:=ycr h1 h2;have hs:spl n=2 ^ (bitLen (n - 1) - 1):=rfl;obtain ⟨l,hl⟩:∃l,bitLen (n - 1) - 1=l:=⟨_,rfl⟩
 rw [hl] at hs;have hl7:l≤7:=by omega
 rw [hs] at f4 f5 ⊢;obtain ⟨sp,hb⟩:∃sp,2 ^ l=sp:=⟨_,rfl⟩
 rw [hb] at f4 f5 ⊢;have HBE:Hid (2 ^ l=sp∧sp < n∧n≤2*sp):=⟨hb,f4,f5⟩;clear hs hl f1 f2 hb f4 f5;go_enter Tryz.func124,Tryz.ntmps124;go_wp2
 go_loopw [3] (fun i wr=>∃j:Nat,j≤l∧i= .int .i64 ((2 ^ j:Nat):Int)∧w=wr) (fun i _=>n - (intOf i).toNat)
 case atStart=>exact ⟨0,by omega,rfl,rfl⟩
 case round=>
  obtain ⟨j,hj,rfl,rfl⟩:=hrel;obtain ⟨_,f4,f5⟩:=HBE.out;have hpj:2 ^ j≤sp:=by rw [←HBE.out.1];exact Nat.pow_le_pow_right de hj
  have hp1:1≤2 ^ j:=Nat.one_le_two_pow;have hsucc:2 ^ (j+1)=2 ^ j*2:=Nat.pow_succ 2 j
  by_cases hlt:j < l
  ·have hp2:2 ^ (j+1)≤2 ^ l:=Nat.pow_le_pow_right de hlt
   obtain ⟨a,ha⟩:∃a,2 ^ j=a:=⟨_,rfl⟩
   rw [ha] at hpj hp1 hsucc ⊢;clear ha
   generalize 2 ^ l=b at*
   have hc:(a:Int) < (n:Int) - (a:Int):=by omega
   go_wp2
   go_roundw
   case rel=>exact ⟨j+1,by omega,by rw [hsucc];go_num,by first |rfl |trivial⟩
   case measure=>simp [intOf];omega
  ·obtain rfl:j=l:=by omega
   have hab:2 ^ j=sp:=HBE.out.1;clear hsucc hpj HBE;rw [hab] at hp1 ⊢;clear hab;have hc:¬(sp:Int) < (n:Int) - (sp:Int):=by omega
   go_wp2;go_ret;exact ⟨rfl,rfl⟩
def perB (b:Nat):Nat:=8 / b
def dig (b:Nat) (xs:List Int) (i:Nat):Nat:=(xs.getD (i / perB b) 0).toNat / 2 ^ (8 - b*(i % perB b+1)) % 2 ^ b
def digs (b:Nat) (xs:List Int) (n:Nat):List Int:=(List.range n).map fun i=>(dig b xs i:Int)
theorem yb9 (b:Nat) (xs:List Int) (n:Nat):digs b xs (n+1)=digs b xs n++[(dig b xs n:Int)]:=by
 unfold digs;rw [List.range_succ,List.map_append];rfl
theorem ybj (b:Nat) (xs:List Int) (n:Nat):(digs b xs n).length=n:=by simp [digs]
theorem dig_lt (b:Nat) (xs:List Int) (i:Nat):dig b xs i < 2 ^ b:=Nat.mod_lt _ (Nat.two_pow_pos b)
def cks (b:Nat) (xs:List Int):Nat→Nat
 |0=>0
 |n+1=>cks b xs n+(2 ^ b - 1 - dig b xs n)
theorem cks_le (b:Nat) (xs:List Int):∀n,cks b xs n≤n*(2 ^ b - 1)
 |0=>by simp [cks]
 |n+1=>by
  have:=cks_le b xs n
  rw [cks,Nat.succ_mul];omega
def cdig (b c k j:Nat):Nat:=k / 2 ^ (b*(c - 1 - j)) % 2 ^ b
def cdigs (b c k n:Nat):List Int:=(List.range n).map fun j=>(cdig b c k j:Int)
theorem ybV (b c k n:Nat):cdigs b c k (n+1)=cdigs b c k n++[(cdig b c k n:Int)]:=by
 unfold cdigs;rw [List.range_succ,List.map_append];rfl
theorem ybY (b c k n:Nat):(cdigs b c k n).length=n:=by simp [cdigs]
theorem cdig_lt (b c k j:Nat):cdig b c k j < 2 ^ b:=Nat.mod_lt _ (Nat.two_pow_pos b)
def mN (b:Nat):Nat:=256 / b
def cN (b:Nat):Nat:=if b=1 then 9 else if b=2 then 5 else 3
def dgF (b:Nat) (xs:List Int):List Int:=digs b xs (mN b)++cdigs b (cN b) (cks b xs (mN b)) (cN b)
theorem dgF_len (b:Nat) (xs:List Int):(dgF b xs).length=mN b+cN b:=by
 unfold dgF;rw [List.length_append,ybj,ybY]
theorem dgF_rng (b:Nat) (xs:List Int):∀d∈dgF b xs,0≤d∧d≤2 ^ b - 1:=by
 intro d hd;have hp:((2 ^ b:Nat):Int)=2 ^ b:=by simp
 unfold dgF digs cdigs at hd;rw [List.mem_append] at hd;rcases hd with hd |hd
 ·obtain ⟨i,_,rfl⟩:=List.mem_map.1 hd
  have:=dig_lt b xs i
  omega
 ·obtain ⟨i,_,rfl⟩:=List.mem_map.1 hd
  have:=cdig_lt b (cN b) (cks b xs (mN b)) i
  omega
def bitN (xs:List Int) (i:Nat):Nat:=(xs.getD (i / 8) 0).toNat / 2 ^ (7 - i % 8) % 2
def rdg (b:Nat) (xs:List Int) (i:Nat):Nat→Nat
 |0=>0
 |k+1=>2*rdg b xs i k+bitN xs (i*b+k)
theorem rdg_eq (b:Nat) (xs:List Int) (i:Nat) (hb:b=1∨b=2∨b=4) (hx:∀x∈xs,0≤x∧x < 256):rdg b xs i b=dig b xs i:=by
 have hz:∀q,(xs.getD q 0).toNat < 256:=fun q=>by
  rw [List.getD_eq_getElem?_getD]
  cases h:xs[q]? with
  |none=>simp
  |some x=>
   have:=hx x (List.mem_of_getElem? h)
   simp;omega
 rcases hb with rfl |rfl |rfl
 ·have q:=hz (i / 8)
  unfold dig perB;simp only [rdg,bitN];have e1:(i*1+0) / 8=i / 8:=by omega
  have e2:(i*1+0) % 8=i % 8:=by omega
  rw [e1,e2];have e3:8 - 1*(i % (8 / 1)+1)=7 - i % 8:=by omega
  rw [e3];simp
 ·have q:=hz (i / 4)
  unfold dig perB;simp only [rdg,bitN];have e1:(i*2+0) / 8=i / 4:=by omega
  have e2:(i*2+0) % 8=2*(i % 4):=by omega
  have e3:(i*2+1) / 8=i / 4:=by omega
  have e4:(i*2+1) % 8=2*(i % 4)+1:=by omega
  rw [e1,e2,e3,e4]
  show 2*(2*0+_)+_=(xs.getD (i / 4) 0).toNat / 2 ^ (8 - 2*(i % 4+1)) % 4
  have h4:i % 4 < 4:=Nat.mod_lt _ de
  generalize (xs.getD (i / 4) 0).toNat=x at*
  generalize i % 4=j at*
  have:j=0∨j=1∨j=2∨j=3:=by omega
  rcases this with rfl |rfl |rfl |rfl<;>(simp only [Nat.reduceMul,Nat.reduceAdd,Nat.reduceSub,Nat.reducePow];omega)
 ·have q:=hz (i / 2)
  unfold dig perB;simp only [rdg,bitN];have e1:(i*4+0) / 8=i / 2:=by omega
  have e2:(i*4+0) % 8=4*(i % 2):=by omega
  have e3:(i*4+1) / 8=i / 2:=by omega
  have e4:(i*4+1) % 8=4*(i % 2)+1:=by omega
  have e5:(i*4+2) / 8=i / 2:=by omega
  have e6:(i*4+2) % 8=4*(i % 2)+2:=by omega
  have e7:(i*4+3) / 8=i / 2:=by omega
  have e8:(i*4+3) % 8=4*(i % 2)+3:=by omega
  rw [e1,e2,e3,e4,e5,e6,e7,e8]
  show 2*(2*(2*(2*0+_)+_)+_)+_=(xs.getD (i / 2) 0).toNat / 2 ^ (8 - 4*(i % 2+1)) % 16
  have h4:i % 2 < 2:=Nat.mod_lt _ de
  generalize (xs.getD (i / 2) 0).toNat=x at*
  generalize i % 2=j at*
  have:j=0∨j=1:=by omega
  rcases this with rfl |rfl<;>(simp only [Nat.reduceMul,Nat.reduceAdd,Nat.reduceSub,Nat.reducePow];omega)
def chF (c f:Nat):Nat→ByteArray→ByteArray
 |0,x=>x
 |k+1,x=>baOf (shaB (sB "chain".toUTF8++enc c++enc (f+k)++sB (chF c f k x)))
theorem ycZ (c f:Nat) (x:ByteArray) (hx:x.size=32):∀k,(chF c f k x).size=32
 |0=>hx
 |k+1=>by
  rw [chF,←ya9,ybi (ybN _),ybA]
def endsF (b:Nat) (ds:List Int) (ps:List ByteArray) (n:Nat):List ByteArray:=
 (List.range n).map fun i=>chF i (ds.getD i 0).toNat (2 ^ b - 1 - (ds.getD i 0).toNat) (ps.getD i ⟨#[]⟩)
theorem endsF_succ (b:Nat) (ds:List Int) (ps:List ByteArray) (n:Nat):endsF b ds ps (n+1)=endsF b ds ps n++[chF n (ds.getD n 0).toNat (2 ^ b - 1 - (ds.getD n 0).toNat) (ps.getD n ⟨#[]⟩)]:=by
 unfold endsF;rw [List.range_succ,List.map_append];rfl
theorem ycs (b:Nat) (ds:List Int) (ps:List ByteArray) (n:Nat):(endsF b ds ps n).length=n:=by simp [endsF]
def pubF (b:Nat) (ds:List Int) (ps:List ByteArray):ByteArray:=baOf (shaB (sB "public".toUTF8++jnL (endsF b ds ps ps.length)))
def clF:ByteArray→Nat→List ByteArray→ByteArray
 |x,_,[]=>x
 |x,i,p::ps=>clF (if i % 2=0 then ndS x p else ndS p x) (i / 2) ps
def upF:Nat→ByteArray→Nat→Nat→List ByteArray→ByteArray × Bool
 |k,x,i,n,ps=>
  if n=1 then (x,decide (ps.length=0))
  else if ps.length=0 then (⟨#[]⟩,false)
  else match k with
   |0=>(⟨#[]⟩,false)
   |k+1=>
    if i < spl n then (ndS (upF k x i (spl n) ps.dropLast).1 (ps.getLastD ⟨#[]⟩),(upF k x i (spl n) ps.dropLast).2)
    else (ndS (ps.getLastD ⟨#[]⟩) (upF k x (i - spl n) (n - spl n) ps.dropLast).1,(upF k x (i - spl n) (n - spl n) ps.dropLast).2)
def inB (p:Int):Bool:=decide (0≤p∧p≤11)
theorem ybu (x a b:Int) (w:World):Calls Tryz.prog 42 #[.int .i64 x,.int .i64 a,.int .i64 b] w fun e w'=>e= .returned (.bool (decide (a≤x∧x≤b)))∧w=w':=by
 by_cases h1:a≤x
 ·by_cases h2:x≤b
  ·go_enter Tryz.func42,Tryz.ntmps42
   go_wp2;go_ret;exact ⟨ya2 (by simp [h1,h2]),rfl⟩
  ·go_enter Tryz.func42,Tryz.ntmps42
   go_wp2;go_ret;exact ⟨ya2 (by simp [h1,h2]),rfl⟩
 ·go_enter Tryz.func42,Tryz.ntmps42
  go_wp2;go_ret
  exact ⟨ya2 (by have:¬a≤x:=by omega
                 simp [this]),rfl⟩
theorem apU_any (n:Nat) (w:World) (hn:n < 18446744073709551616):
 Calls Tryz.prog 70 #[.slice none 0 0,.int .u64 n] w fun e w'=>∃v,e= .returned v∧Own fB 5 w' w.heap.size v (enc n)∧Below w.heap.size w w':=by
 obtain ⟨i0,hi,hz0,hz1,hz2⟩:=info_parts Tryz.infoB;have HI:=lh hi;have HZ0:=lh hz0;have HZ1:=lh hz1;have HZ2:=lh hz2
 have HC:Hid (∀v W,Own fB 5 W w.heap.size v []→Below w.heap.size w W→Calls Tryz.prog 135 #[v,.int .u64 n] W fun e w'=>∃v',e= .returned v'∧Own fB 5 w' w.heap.size v' (enc n)∧Below w.heap.size w w'):=fun v W hO hb=>
  (yb7 v [] n W w.heap.size hO hb.size hn sI).mono (fun e w' ⟨v',h1,h2,h3,_⟩=>⟨v',h1,h2,hb.trans (h3.below hb.size (fun i hi=>(World.ownsRow.lt hO i hi).1))⟩)
 clear hi hz0 hz1 hz2;go_enter Tryz.func70,Tryz.ntmps70
 go_wp2_with (first
  |(at_make
    refine wpList_make_own w (o:=⟨some 8,_,_,_,_,_⟩) rfl _ _ 40 rfl w.heap.size 5 i0 (.int .u8 0) 1 Tryz.underlying40 HI.out HZ0.out HZ1.out _ _ 10 10 rfl rfl rfl (by rw [HZ2.out];decide) yaS nl ?_;intro w1 hO1 hG1;have HO1:Hid (Own fB 5 w1 w.heap.size (.slice (some ⟨w.heap.size,0,none⟩) 0 10) []):=hO1;have HB1:Hid (Below w.heap.size w w1):=yaY hG1 (fun k hk=>by cases hk) nl;have HS1:Hid (w.heap.size≤w1.heap.size):=HB1.out.size
    clear hO1 hG1)
  |(go_at_call 135;(with_reducible refine (HC.out _ w1 HO1.out HB1.out).mono ?_);rintro e w3 ⟨v3,rfl,ho,hb⟩))
 go_ret;exact ⟨_,rfl,ho,hb⟩
theorem yc0 (xs:List Int) (h:ya5 xs=true):(encV xs).length≤130:=by
 unfold encV;have h1:=ya1 (nrm xs).length;have h2:=encL_len (nrm xs);have h3:=nrm_len xs;have h4:=ycX h;rw [List.length_append];omega
theorem encV_byt (xs:List Int):Byt (encV xs):=by
 unfold encV;refine Byt.app (ya7 _) ?_;intro b hb;obtain ⟨x,_,h⟩:=List.mem_flatMap.1 hb;exact ya7 _ b h
theorem enc_small {p:Nat} (h:p < 128):enc p=[(p:Int)]:=by simp [enc,encF,h]
theorem numF_small {p:Nat} (h:p < 128) (bs:List Int):numF ((p:Int)::bs) 10 0 0 0=((p:Int),0,1):=by
 have h1:¬(128:Int)≤(p:Int):=by omega
 have h2:(p:Int) % 128=p:=by omega
 simp [numF,h1,h2]
def MeetPost (p:Int) (xs:List Int) (w:World) (e:Ending) (w':World):Prop:=
 ((inB p&&ya5 xs)=true∧Slc2 fB (p::encV xs) 0 w e w')∨((inB p&&ya5 xs)=false∧e= .returned (.tuple #[.slice none 0 0,.int .i64 1])∧Below w.heap.size w w')
theorem emeet_any (p:Int) (A:Option Addr) (n:Nat) (xs:List Int) (c:Nat) (w:World) (B:Nat) (hx:Sl I w B A n xs) (hB:B≤w.heap.size) (hl:n≤1000000):
 Calls Tryz.prog 31 #[.int .i64 p,.slice A n c] w (MeetPost p xs w):=by
 obtain ⟨i0,hi,hz0,hz1,hz2⟩:=info_parts Tryz.infoB;have HI:=lh hi;have HZ0:=lh hz0;have HZ1:=lh hz1;have HZ2:=lh hz2;have HC:=lh (encode_any A n xs c w B hx hB hl);have HW:=lh (fun W=>ybu p 0 11 W);clear hi hz0 hz1 hz2 hx
 by_cases hp:0≤p∧p≤11
 ·obtain ⟨q,rfl⟩:∃q:Nat,p=(q:Int):=⟨p.toNat,by omega⟩
  have hd:decide ((0:Int)≤(q:Int)∧(q:Int)≤11)=true:=decide_eq_true hp;have hq:q < 128:=by omega
  have HIn:Hid (inB (q:Int)=true):=hd;have HQ:Hid (enc q=[(q:Int)]):=enc_small hq;rw [hd] at HW;have hqI:(q:Int) % 18446744073709551616=(q:Int):=by omega
  have HAU:=lh (fun W=>apU_any q W om);clear hp hd;go_enter Tryz.func31,Tryz.ntmps31
  go_upto_region 4 with (first
   |(go_at_call 42;(with_reducible refine (HW.out _).mono ?_);rintro e w1 ⟨rfl,rfl⟩)
   |(go_at_call 69;(with_reducible refine HC.out.mono ?_)
     rintro e w1 (⟨hv,A1,n1,c1,rfl,hc1,hs1,hb1⟩ |⟨hv,A1,n1,c1,rfl,hc1,hs1,hb1⟩)))
  ·have HV:=lh hv
   have HB1:=lh hb1;have HS1:=lh hs1;have hbl:=yc0 xs hv;have HLe:Hid ((encV xs).length=n1):=hs1.1;clear hv hb1 hs1
   go_wp2_with (first
    |(go_at_call 70;(with_reducible refine (HAU.out _).mono ?_);rintro e w2 ⟨v2,rfl,ho2,hb2⟩
      have HO2:=lh ho2;have HB2:=lh hb2;have HS2:Hid (Sl fB w2 w1.heap.size A1 n1 (encV xs)):=HS1.out.up hb2 nl;have HL1:Hid (((enc q).length+(encV xs).length)*1≤140737488355328):=by show _≤_;have:=ya1 q;omega
      have HL2:Hid ((enc q).length+(encV xs).length≤maxLen):=by show _≤_;have:=ya1 q;unfold maxLen;omega
      have HSz:Hid (w1.heap.size≤w2.heap.size):=hb2.size
      clear ho2 hb2)
    |(at_builtin;(with_reducible refine ya8 (o:=⟨some 22,_,_,_,_,_⟩) rfl (.tmp 20) (.tmp 21) 40 rfl 5 i0 (.int .u8 0) 1 Tryz.underlying40 HI.out HZ0.out HZ1.out HZ2.out rfl _ (enc q) w1.heap.size rfl HO2.out _ _ _ w1.heap.size (encV xs) rfl HS2.out fB1 HL1.out HL2.out HSz.out ?_);intro v3 w3 HO3 HG3 HV3
      have HB3:Hid (Below w1.heap.size w1 w3):=HB2.out.trans (yaY HG3.out (fun j hj=>(World.ownsRow.lt HO2.out j hj).1) HSz.out)))
   go_ret2;obtain ⟨A3,c3,hv3,hc3,hs3,_⟩:=HO3.out.shape;refine .inl ⟨by rw [HIn.out,HV.out];rfl,A3,(enc q++encV xs).length,c3,by rw [←hv3];rfl,hc3,⟨by rw [HQ.out];rfl,?_⟩,HB1.out.trans (HB3.out.mono HB1.out.size)⟩;rw [HQ.out] at hs3;exact hs3
  ·have HV:=lh hv
   have HB1:=lh hb1;clear hv hb1 hs1;go_wp2;go_ret2;exact .inr ⟨by rw [HV.out,Bool.and_false],rfl,HB1.out⟩
 ·have hd:decide ((0:Int)≤p∧p≤11)=false:=decide_eq_false hp
  have HIn:Hid (inB p=false):=hd;rw [hd] at HW;clear hp hd HC;go_enter Tryz.func31,Tryz.ntmps31
  go_wp2_with (first
   |(go_at_call 42;(with_reducible refine (HW.out _).mono ?_);rintro e w1 ⟨rfl,rfl⟩))
  go_ret2;exact .inr ⟨by rw [HIn.out];rfl,rfl,Below.refl _ _⟩
theorem apG_any (A:Option Addr) (m c B:Nat) (xs:List Int) (n:Nat) (w:World) (hx:Sl fB w B A m xs) (hB:B≤w.heap.size) (hm:m≤1000) (hn:n < 18446744073709551616):
 Calls Tryz.prog 70 #[.slice A m c,.int .u64 n] w fun e w'=>∃v,e= .returned v∧Own fB 5 w' w.heap.size v (xs++enc n)∧Below w.heap.size w w':=by
 obtain ⟨i0,hi,hz0,hz1,hz2⟩:=info_parts Tryz.infoB;have HI:=lh hi;have HZ0:=lh hz0;have HZ1:=lh hz1;have HZ2:=lh hz2;have hxl:xs.length=m:=hx.1
 have HC:Hid (∀v W,Own fB 5 W w.heap.size v xs→Below w.heap.size w W→Calls Tryz.prog 135 #[v,.int .u64 n] W fun e w'=>∃v',e= .returned v'∧Own fB 5 w' w.heap.size v' (xs++enc n)∧Below w.heap.size w w'):=fun v W hO hb=>
  (yb7 v xs n W w.heap.size hO hb.size hn om).mono (fun e w' ⟨v',h1,h2,h3,_⟩=>⟨v',h1,h2,hb.trans (h3.below hb.size (fun i hi=>(World.ownsRow.lt hO i hi).1))⟩)
 have HX:=lh (fun W (hb:Below w.heap.size w W)=>hx.up hb hB);have HL1:Hid (((([]:List Int)).length+xs.length)*1≤140737488355328):=by show _≤_;simp;omega
 have HL2:Hid ((([]:List Int)).length+xs.length≤maxLen):=by show _≤_;simp;unfold maxLen;omega
 have HM:Hid ((m:Int)+10=((m+10:Nat):Int)):=by show _=_;omega
 have HM2:Hid (i0.bytes*(m+10)≤281474976710656):=by show _≤_;rw [hz2];omega
 have HM3:Hid (m+10≤maxLen):=by show _≤_;unfold maxLen;omega
 have hmI:¬(9223372036854775807:Int) < (m:Int)+10:=by omega
 clear hi hz0 hz1 hz2 hx hxl hB;go_enter Tryz.func70,Tryz.ntmps70
 go_wp2_with (first
  |(at_make;(refine wpList_make_own w (o:=⟨some 8,_,_,_,_,_⟩) rfl _ _ 40 rfl w.heap.size 5 i0 (.int .u8 0) 1 Tryz.underlying40 HI.out HZ0.out HZ1.out _ _ _ (m+10) rfl rfl HM.out HM2.out HM3.out nl ?_);intro w1 hO1 hG1;(have HO1:Hid (Own fB 5 w1 w.heap.size (.slice (some ⟨w.heap.size,0,none⟩) 0 (m+10:Nat)) []):=hO1);(have HB1:Hid (Below w.heap.size w w1):=yaY hG1 (fun k hk=>by cases hk) nl);(have HS1:Hid (w.heap.size≤w1.heap.size):=HB1.out.size);clear hO1 hG1)
  |(at_builtin;(with_reducible refine ya8 (o:=⟨some 10,_,_,_,_,_⟩) rfl (.tmp 8) (.tmp 9) 40 rfl 5 i0 (.int .u8 0) 1 Tryz.underlying40 HI.out HZ0.out HZ1.out HZ2.out rfl _ ([]:List Int) w.heap.size rfl HO1.out A m c B xs rfl (HX.out w1 HB1.out) fB1 HL1.out HL2.out HS1.out ?_);intro v2 w2 HO2 HG2 HV2;(have HB2:Hid (Below w.heap.size w w2):=HB1.out.trans (yaY HG2.out (fun j hj=>(World.ownsRow.lt HO1.out j hj).1) HS1.out));(have HO2':Hid (Own fB 5 w2 w.heap.size v2 xs):=HO2.out))
  |(go_at_call 135;(with_reducible refine (HC.out _ w2 HO2'.out HB2.out).mono ?_);rintro e w3 ⟨v3,rfl,ho,hb⟩))
 go_ret;exact ⟨_,rfl,ho,hb⟩
theorem ssum_any (A:Option Addr) (n c B:Nat) (xs:List Int) (w:World) (hG:Glob w) (hx:Sl fB w B A n xs) (hc:n≤c) (hB:B≤w.heap.size) (hl:n≤549755813887) (hxb:Byt xs) (hA:∀a,A=some a→a.block < w.heap.size):
 Calls Tryz.prog 154 #[.slice A n c] w fun e w'=>e= .returned (.string (baOf (shaB xs)))∧Below w.heap.size w w':=by
 have HC0:=lh (stNew_any w hG);have HXB:=lh hxb;have hb0:Below w.heap.size w (w.alloc newSt):=bl
 have H2:Hid (Calls Tryz.prog 199 #[.pointer (some ⟨w.heap.size,0,none⟩),.slice A n c] (w.alloc newSt) fun e w'=>e= .returned (.tuple #[])∧St w' w.heap.size xs∧But (fun k=>k=w.heap.size) (w.alloc newSt) w'):=
  yco w.heap.size [] xs A n c B (w.alloc newSt) (newSt_St w) (hx.up hb0 hB) hc (Nat.le_trans hB hb0.size) hxb (fun a ha=>Nat.ne_of_lt (hA a ha)) (by rw [hx.1];simp;omega) (hG.on hb0).1 (hG.on hb0).2.2 (Nat.ne_of_gt hG.2.2)
 have H3:Hid (∀w2,St w2 w.heap.size xs→Below w.heap.size w w2→Calls Tryz.prog 200 #[.pointer (some ⟨w.heap.size,0,none⟩)] w2 fun e w'=>e= .returned (.string (baOf (shaB xs)))∧Below w2.heap.size w2 w'):=fun w2 h2 hb=>
  sum_any w.heap.size xs w2 h2 (by rw [hx.1];omega) (hG.on hb).1 (hG.on hb).2.2
 have HB0:=lh hb0;clear hG hx hxb hA hb0;go_enter Tryz.func154,Tryz.ntmps154
 go_wp2_with (first
  |(go_at_call 198;(with_reducible refine HC0.out.mono ?_);rintro e w0 ⟨rfl,hw0⟩;subst hw0)
  |(go_at_call 199;(with_reducible refine H2.out.mono ?_);rintro e w2 ⟨rfl,hs2,hb2⟩;(have HS2:=lh hs2);(have HB2:Hid (Below w.heap.size w w2):=HB0.out.trans (hb2.below HB0.out.size (fun i hi=>Nat.le_of_eq hi.symm)));clear hs2 hb2)
  |(go_at_call 200;(with_reducible refine (H3.out w2 HS2.out HB2.out).mono ?_);rintro e w3 ⟨rfl,hb3⟩;(have HB3:=lh hb3);clear hb3))
 go_ret;exact ⟨rfl,HB2.out.trans (HB3.out.mono HB2.out.size)⟩
def BitN (b:Int) (β:Nat):Prop:=(b=1∧β=1)∨(b=2∧β=2)∨(b=4∧β=4)
abbrev cPm (b:Int):Array Value:=#[.int .i64 b,.int .i64 32]
def lsF (β:Nat):Int:=if β=1 then 1 else if β=2 then 3 else 15
def cNI (β:Nat):Int:=if β=1 then 9 else if β=2 then 5 else 3
def mNI (β:Nat):Int:=if β=1 then 256 else if β=2 then 128 else 64
theorem yct (b:Int) (β:Nat) (hb:BitN b β) (w:World):Calls Tryz.prog 245 #[.agg (cPm b)] w fun e w'=>e= .returned (.int .i64 (lsF β))∧Below w.heap.size w w':=by
 have HB:Hid (Below w.heap.size w (w.alloc (.cells (cPm b) 268))):=bl;rcases hb with ⟨rfl,rfl⟩ |⟨rfl,rfl⟩ |⟨rfl,rfl⟩
 all_goals
  go_enter Tryz.func245,Tryz.ntmps245;go_wp2;go_ret;exact ⟨rfl,HB.out⟩
theorem ydf (b:Int) (β:Nat) (hb:BitN b β) (w:World):Calls Tryz.prog 263 #[.agg (cPm b)] w fun e w'=>e= .returned (.bool true)∧Below w.heap.size w w':=by
 have HB:Hid (Below w.heap.size w (w.alloc (.cells (cPm b) 268))):=bl;have i0:∀w,(Instr.index 324 (.agg #[.int .i64 1,.int .i64 2,.int .i64 4,.int .i64 8]) (.int .i64 0)).run Tryz.prog w= .ok (.int .i64 1) w:=fun _=>by kernel_rfl
 have i1:∀w,(Instr.index 324 (.agg #[.int .i64 1,.int .i64 2,.int .i64 4,.int .i64 8]) (.int .i64 1)).run Tryz.prog w= .ok (.int .i64 2) w:=fun _=>by kernel_rfl
 have i2:∀w,(Instr.index 324 (.agg #[.int .i64 1,.int .i64 2,.int .i64 4,.int .i64 8]) (.int .i64 2)).run Tryz.prog w= .ok (.int .i64 4) w:=fun _=>by kernel_rfl
 rcases hb with ⟨rfl,rfl⟩ |⟨rfl,rfl⟩ |⟨rfl,rfl⟩
 all_goals
  go_enter Tryz.func263,Tryz.ntmps263;go_wp2;refine wp_loop_rounds 3 ?_;rw [rounds_succ];go_wp2
  (try rw [rounds_succ])
  go_wp2
  (try rw [rounds_succ])
  go_wp2;go_ret;exact ⟨rfl,HB.out⟩
theorem ydg (b:Int) (β:Nat) (hb:BitN b β) (w:World):Calls Tryz.prog 264 #[.agg (cPm b)] w fun e w'=>e= .returned (.tuple #[.int .i64 (mNI β),.int .i64 (cNI β)])∧Below w.heap.size w w':=by
 have HB:Hid (Below w.heap.size w (w.alloc (.cells (cPm b) 268))):=bl;have HL:=lh (fun W=>yct b β hb W);have hs:(w.alloc (.cells (cPm b) 268)).heap.size=w.heap.size+1:=by simp
 have HC:Hid (∀V,Below (w.heap.size+1) (w.alloc (.cells (cPm b) 268)) V→V.cell? ⟨w.heap.size,0,none⟩=some (.int .i64 b)∧V.cell? ⟨w.heap.size,1,none⟩=some (.int .i64 32)):=fun V hv=>by
  have q:=(hv.block w.heap.size (Nat.lt_succ_self _)).trans (heap_alloc_new w _);refine ⟨?_,?_⟩<;>(rw [cell_of_row V _ _ _ _ _ q];rfl)
 have HS:=lh hs;rcases hb with ⟨rfl,rfl⟩ |⟨rfl,rfl⟩ |⟨rfl,rfl⟩
 all_goals
  clear hs
  first |rw [show lsF 1=1 from rfl] at HL |rw [show lsF 2=3 from rfl] at HL |rw [show lsF 4=15 from rfl] at HL
  go_enter Tryz.func264,Tryz.ntmps264
  go_wp2_with (go_at_call 245;(with_reducible refine (HL.out _).mono ?_);rintro e W1 ⟨rfl,hb1⟩;(have HB1:Hid (Below (w.heap.size+1) (w.alloc (.cells (cPm _) 268)) W1):=HS.out▸hb1);(have hc:=HC.out W1 HB1.out);obtain ⟨c0,c1⟩:=hc;clear hb1)
  refine wp_loop_rounds 10 ?_
  repeat (rw [rounds_succ];go_wp2)
  go_ret2;exact ⟨rfl,HB.out.trans (HB1.out.mono (Nat.le_succ _))⟩
