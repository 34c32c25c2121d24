/- sha256.Join, the reference's Join, Node, both. split, both. Digits of a digest, plainly. -/
import Derived.Test.YtpdledjgbgalcaaGreatDoorPd
import Derived.Laws.IdiomStrings
namespace Go.Proofs.YtpdledjgbgalcaaGreatDoor
set_option maxRecDepth 100000
set_option maxHeartbeats 4000000
open Go.RowKit Go.Lib
set_option linter.unusedVariables false
set_option linter.unusedSimpArgs false
theorem sl_bytesRowU {w:World} {b:Nat} {t:TypeId} {fr:Nat × Nat} {s:ByteArray} {cap B:Nat} (h:w.heap[b]? =some (.cells (bytesRow s cap) t fr)) (hb:b < B):Sl fB w B (some ⟨b,0,none⟩) s.size (sB s):=
 ⟨sB_len s,fun _=>⟨b,0,rfl,hb,fun k x hx=>by
   rw [Nat.zero_add,cell_of_row w b k _ _ _ h]
   unfold sB at hx
   rw [List.getElem?_map,Array.getElem?_toList] at hx
   have hk:k < s.data.size:=by
    rcases Nat.lt_or_ge k s.data.size with c |c
    ·exact c
    ·rw [Array.getElem?_eq_none c] at hx;cases hx
   rw [Array.getElem?_eq_getElem hk] at hx
   cases hx
   exact bytesRow_at s cap k hk⟩⟩
theorem wpList_conv_sbU {w:World} {ops:Array Oper} {rest:List Oper} {o:Oper} {a:Act} {Q:Exit→Act→World→Prop} (hgd:o.guard=none) (x:Operand) (ho:o.op= .convert 9 40 x) (s:ByteArray) (hx:a.eval x= .string s)
 (h:∀c W,Hid (Sl fB W W.heap.size (some ⟨w.heap.size,0,none⟩) s.size (sB s))→Hid (s.size≤c)→Hid (Below w.heap.size w W)→wpList Tryz.prog ops Q rest (a.put o.dst (.slice (some ⟨w.heap.size,0,none⟩) s.size c)) W):wpList Tryz.prog ops Q (o::rest) a w:=by
 refine wpList_plain hgd fun _ hK=>?_
 unfold Oper.wp execOp
 simp only [ho,hx,Sem.run_bind,run_bytes_of_string (P:=Tryz.prog) w 9 40 5 s Tryz.underlying9 Tryz.underlying40 Tryz.underlying5,Result.andThen_ok]
 refine hK _ _ (h _ _ (sl_bytesRowU (heap_alloc_new w.drew _) (by simp)) (grownCap_ge w s.size 0 _) ?_)
 exact (Below.drew (Below.refl _ _)).alloc (Nat.le_refl _) _
def jnL (ps:List ByteArray):List Int:=ps.flatMap sB
theorem jnL_snoc (ps:List ByteArray) (x:ByteArray):jnL (ps++[x])=jnL ps++sB x:=by simp [jnL]
theorem jnL_take_le (ps:List ByteArray) (k:Nat):(jnL (ps.take k)).length≤(jnL ps).length:=by
 have h:jnL ps=jnL (ps.take k)++jnL (ps.drop k):=by
  unfold jnL
  rw [←List.flatMap_append,List.take_append_drop]
 rw [h,List.length_append]
 omega
theorem mjoin_any (A:Option Addr) (n c B:Nat) (ps:List ByteArray) (w:World) (hG:Glob w) (hx:Sl fT w B A n ps) (hB:B≤w.heap.size) (hn:n≤1000000) (hl:(jnL ps).length≤549755813887):
 Calls Tryz.prog 209 #[.slice A n c] w fun e w'=>e= .returned (.string (baOf (shaB (jnL ps))))∧Below w.heap.size w w':=by
 have HC0:=Lib.hid (stNew_any w hG)
 have HX:=Lib.hid hx
 have HXN:Hid (ps.length=n):=hx.1
 have HBB:=Lib.hid hB
 have HL:=Lib.hid hl
 have H2:Hid (∀w1 bs x cb W,St W w.heap.size bs→Below w.heap.size w W→w.heap.size < w1→Sl fB W W.heap.size (some ⟨w1,0,none⟩) x.size (sB x)→x.size≤cb→(bs++sB x).length≤549755813887→Calls Tryz.prog 199 #[.pointer (some ⟨w.heap.size,0,none⟩),.slice (some ⟨w1,0,none⟩) x.size cb] W fun e w'=>e= .returned (.tuple #[])∧St w' w.heap.size (bs++sB x)∧But (fun k=>k=w.heap.size) W w'):=fun w1 bs x cb W hs hb hlt hsl hc hln=>
  write_any w.heap.size bs (sB x) _ x.size cb W.heap.size W hs hsl hc (Nat.le_refl _) (sB_rng x) (fun a ha=>by injection ha with ha;subst ha;exact Nat.ne_of_gt hlt) (by rw [List.length_append] at hln;omega) (hG.on hb).1 (hG.on hb).2.2 (Nat.ne_of_gt hG.2.2)
 have H3:Hid (∀W,St W w.heap.size (jnL ps)→Below w.heap.size w W→Calls Tryz.prog 200 #[.pointer (some ⟨w.heap.size,0,none⟩)] W fun e w'=>e= .returned (.string (baOf (shaB (jnL ps))))∧Below W.heap.size W w'):=fun W h2 hb=>
  sum_any w.heap.size (jnL ps) W h2 (by omega) (hG.on hb).1 (hG.on hb).2.2
 clear hG hx hB hl
 go_enter Tryz.func209,Tryz.ntmps209
 go_wp2_with (go_at_call 198;(with_reducible refine HC0.out.mono ?_);rintro e w0 ⟨rfl,hw0⟩;subst hw0)
 go_loopw [9] (fun i wr=>∃k:Nat,k≤n∧i= .int .i64 k∧Hid (St wr w.heap.size (jnL (ps.take k)))∧Hid (Below w.heap.size w wr)∧Hid (w.heap.size < wr.heap.size)) (fun i _=>n - (intOf i).toNat)
 case atStart=>exact ⟨0,by omega,rfl,newSt_St w,(Below.refl _ _).alloc (Nat.le_refl _) _,by show _ < _;simp⟩
 case round=>
  obtain ⟨k,hk,rfl,HS,HR,HLT⟩:=hrel
  by_cases hlt:k < n
  ·obtain ⟨b1,o1,x,rfl,_,hg,hc⟩:=(HX.out.up HR.out HBB.out).2.at_ (k:=k) (by rw [HXN.out];exact hlt)
   have hkI:(k:Int) < (n:Int):=by omega
   have hk0:(0:Int)≤(k:Int):=by omega
   have HT:Hid (jnL (ps.take (k+1))=jnL (ps.take k)++sB x):=by show _=_;rw [take_snoc hg,jnL_snoc]
   have HLE:Hid ((jnL (ps.take k)++sB x).length≤549755813887):=by show _≤_;rw [←HT.out];exact Nat.le_trans (jnL_take_le ps (k+1)) HL.out
   clear hg
   go_wp2_with (first
    |((with_reducible refine wpList_conv_sbU (o:=⟨some 15,_,_,_,_,_⟩) rfl (.tmp 14) rfl x rfl ?_);intro cb W1 hsl hcb hbl;(have HW1:Hid (Below w.heap.size w W1):=HR.out.trans (hbl.out.mono HR.out.size));(have HC1:=Lib.hid (H2.out _ (jnL (ps.take k)) x cb W1 (HS.out.but (But.of_below (p:=fun _=>False) hbl.out) (fun h=>h)) HW1.out HLT.out hsl.out hcb.out HLE.out));(have HZ1:Hid (wr.heap.size≤W1.heap.size):=hbl.out.size);clear hsl hcb hbl)
    |(go_at_call 199;(with_reducible refine HC1.out.mono ?_);rintro e W2 ⟨rfl,hs2,hb2⟩;(have HS2:=Lib.hid hs2);(have HW2:Hid (Below w.heap.size w W2):=HW1.out.trans (hb2.below HW1.out.size (fun i hi=>Nat.le_of_eq hi.symm)));(have HLT2:Hid (w.heap.size < W2.heap.size):=Nat.lt_of_lt_of_le (Nat.lt_of_lt_of_le HLT.out HZ1.out) hb2.size);clear hs2 hb2))
   go_roundw
   case rel=>exact ⟨k+1,by omega,by go_num,by rw [HT.out];exact HS2,HW2,HLT2⟩
   case measure=>simp [intOf];omega
  ·obtain rfl:k=n:=by omega
   have HE:Hid (jnL (ps.take k)=jnL ps):=by show _=_;rw [List.take_of_length_le (by rw [HXN.out];exact Nat.le_refl _)]
   rw [HE.out] at HS
   go_wp2_with (go_at_call 200;(with_reducible refine (H3.out _ HS.out HR.out).mono ?_);rintro e w3 ⟨rfl,hb3⟩;have HB3:=Lib.hid hb3;clear hb3)
   go_ret
   exact ⟨rfl,HR.out.trans (HB3.out.mono HR.out.size)⟩
def ndS (a b:ByteArray):ByteArray:=baOf (shaB (jnL [⟨#[1]⟩,a,b]))
theorem nd_sl (w:World) (a b:ByteArray):Sl fT (w.alloc (.cells #[.string ⟨#[1]⟩,.string a,.string b] 9)) (w.alloc (.cells #[.string ⟨#[1]⟩,.string a,.string b] 9)).heap.size (some ⟨w.heap.size,0,none⟩) 3 [⟨#[1]⟩,a,b]:=
 ⟨rfl,SL.of_block (t:=9) (fr:=(0,0)) (heap_alloc_new w _) (by simp)⟩
theorem jn3 (a b:ByteArray):(jnL [⟨#[1]⟩,a,b]).length=1+a.size+b.size:=by
 unfold jnL
 simp only [List.flatMap_cons,List.flatMap_nil,List.length_append,List.length_nil,sB_len]
 show 1+(a.size+(b.size+0))=_
 omega
theorem mnode_any (a b:ByteArray) (w:World) (hG:Glob w) (ha:a.size≤400000) (hb:b.size≤400000):
 Calls Tryz.prog 168 #[.string a,.string b] w fun e w'=>e= .returned (.string (ndS a b))∧Below w.heap.size w w':=by
 have hbl:Below w.heap.size w (w.alloc (.cells #[.string ⟨#[1]⟩,.string a,.string b] 9)):=(Below.refl _ _).alloc (Nat.le_refl _) _
 have HJ:=Lib.hid (mjoin_any _ 3 3 _ _ _ (hG.on hbl) (nd_sl w a b) (Nat.le_refl _) (by decide) (by rw [jn3];omega))
 have HB:=Lib.hid hbl
 clear hG hbl
 go_enter Tryz.func168,Tryz.ntmps168
 go_wp2_with (go_at_call 209;(with_reducible refine HJ.out.mono ?_);rintro e W2 ⟨rfl,hb2⟩;have HB2:=Lib.hid hb2;clear hb2)
 go_ret
 exact ⟨rfl,HB.out.trans (HB2.out.mono HB.out.size)⟩
theorem ndS_size (a b:ByteArray):(ndS a b).size=32:=by
 unfold ndS
 rw [←sB_len,baOf_sB (shaB_byt _),shaB_len]
theorem len64_any (x:Nat) (hx:x < 256) (w:World):Calls Tryz.prog 230 #[.int .u64 x] w fun e w'=>e= .returned (.int .i64 (bitLen x))∧w=w':=by
 have h1:¬(4294967296:Int)≤(x:Int):=by omega
 have h2:¬(65536:Int)≤(x:Int):=by omega
 have h3:¬(256:Int)≤(x:Int):=by omega
 have hw:IntKind.u8.wrap (x:Int)=x:=by unfold IntKind.wrap;simp [IntKind.bits,IntKind.signed];omega
 go_enter Tryz.func230,Tryz.ntmps230
 go_wp2
 go_ret
 refine ⟨?_,rfl⟩
 have ht:∀(s:ByteArray) (h:x < s.size),s[x]=s.data.getD x 0:=fun s h=>by
  show s.data[x]=_
  rw [Array.getD,dif_pos (show x < s.data.size from h)]
  rfl
 rw [ht]
 clear ht h1 h2 h3 hw
 refine congrArg (fun z:Int=>Ending.returned (Value.int .i64 z)) (?_:_=((bitLen x:Nat):Int))
 obtain ⟨a,rfl⟩:∃a:Fin 256,a.val=x:=⟨⟨x,hx⟩,rfl⟩
 clear hx
 revert a
 decide+kernel
theorem len_any (x:Nat) (hx:x < 256) (w:World):Calls Tryz.prog 177 #[.int .u64 x] w fun e w'=>e= .returned (.int .i64 (bitLen x))∧w=w':=by
 have HL:=Lib.hid (len64_any x hx w)
 go_enter Tryz.func177,Tryz.ntmps177
 go_wp2_with (go_at_call 230;(with_reducible refine HL.out.mono ?_);rintro e w1 ⟨rfl,rfl⟩)
 go_ret
 exact ⟨rfl,rfl⟩
def spl (n:Nat):Nat:=2 ^ (bitLen (n - 1) - 1)
theorem spl_facts {n:Nat} (h1:2≤n) (h2:n≤256):1≤bitLen (n - 1)∧bitLen (n - 1)≤8∧1≤spl n∧spl n < n∧n≤2*spl n:=by
 have hall:∀a:Fin 257,2≤a.val→1≤bitLen (a.val - 1)∧bitLen (a.val - 1)≤8∧1≤spl a.val∧spl a.val < a.val∧a.val≤2*spl a.val:=by decide+kernel
 exact hall ⟨n,by omega⟩ h1
theorem msplit_any (n:Nat) (h1:2≤n) (h2:n≤256) (w:World):Calls Tryz.prog 167 #[.int .i64 n] w fun e w'=>e= .returned (.int .i64 (spl n))∧w=w':=by
 obtain ⟨f1,f2,_⟩:=spl_facts h1 h2
 obtain ⟨m,rfl⟩:∃m,n=m+1:=⟨n - 1,by omega⟩
 have hw:IntKind.u64.wrap (m:Int)=m:=by unfold IntKind.wrap;simp [IntKind.bits,IntKind.signed];omega
 have HL:=Lib.hid (len_any m (by omega) w)
 have hm:((m+1:Nat):Int) - 1=m:=by omega
 have hs:spl (m+1)=2 ^ (bitLen m - 1):=rfl
 rw [Nat.add_sub_cancel] at f1 f2
 rw [hs]
 obtain ⟨L,hL⟩:∃L,bitLen m=L:=⟨_,rfl⟩
 rw [hL] at f1 f2 HL ⊢
 clear hs hL
 have hcases:L=1∨L=2∨L=3∨L=4∨L=5∨L=6∨L=7∨L=8:=by omega
 rcases hcases with rfl |rfl |rfl |rfl |rfl |rfl |rfl |rfl
 all_goals
  go_enter Tryz.func167,Tryz.ntmps167
  go_wp2_with (go_at_call 177;(with_reducible refine HL.out.mono ?_);rintro e w1 ⟨rfl,rfl⟩)
  go_ret
  exact ⟨by first |rfl |decide,rfl⟩
def perB (b:Nat):Nat:=8 / b
def dig (b:Nat) (xs:List Int) (i:Nat):Nat:=(xs.getD (i / perB b) 0).toNat / 2 ^ (8 - b*(i % perB b+1)) % 2 ^ b
def digs (b:Nat) (xs:List Int) (n:Nat):List Int:=(List.range n).map fun i=>(dig b xs i:Int)
theorem digs_succ (b:Nat) (xs:List Int) (n:Nat):digs b xs (n+1)=digs b xs n++[(dig b xs n:Int)]:=by
 unfold digs;rw [List.range_succ,List.map_append];rfl
theorem digs_len (b:Nat) (xs:List Int) (n:Nat):(digs b xs n).length=n:=by simp [digs]
theorem dig_lt (b:Nat) (xs:List Int) (i:Nat):dig b xs i < 2 ^ b:=Nat.mod_lt _ (Nat.two_pow_pos b)
def cks (b:Nat) (xs:List Int):Nat→Nat
 |0=>0
 |n+1=>cks b xs n+(2 ^ b - 1 - dig b xs n)
theorem cks_le (b:Nat) (xs:List Int):∀n,cks b xs n≤n*(2 ^ b - 1)
 |0=>by simp [cks]
 |n+1=>by
  have:=cks_le b xs n
  rw [cks,Nat.succ_mul]
  omega
def cdig (b c k j:Nat):Nat:=k / 2 ^ (b*(c - 1 - j)) % 2 ^ b
def cdigs (b c k n:Nat):List Int:=(List.range n).map fun j=>(cdig b c k j:Int)
theorem cdigs_succ (b c k n:Nat):cdigs b c k (n+1)=cdigs b c k n++[(cdig b c k n:Int)]:=by
 unfold cdigs;rw [List.range_succ,List.map_append];rfl
theorem cdigs_len (b c k n:Nat):(cdigs b c k n).length=n:=by simp [cdigs]
theorem cdig_lt (b c k j:Nat):cdig b c k j < 2 ^ b:=Nat.mod_lt _ (Nat.two_pow_pos b)
def mN (b:Nat):Nat:=256 / b
def cN (b:Nat):Nat:=if b=1 then 9 else if b=2 then 5 else 3
def dgF (b:Nat) (xs:List Int):List Int:=digs b xs (mN b)++cdigs b (cN b) (cks b xs (mN b)) (cN b)
theorem dgF_len (b:Nat) (xs:List Int):(dgF b xs).length=mN b+cN b:=by
 unfold dgF;rw [List.length_append,digs_len,cdigs_len]
theorem dgF_rng (b:Nat) (xs:List Int):∀d∈dgF b xs,0≤d∧d≤2 ^ b - 1:=by
 intro d hd
 have hp:((2 ^ b:Nat):Int)=2 ^ b:=by simp
 unfold dgF digs cdigs at hd
 rw [List.mem_append] at hd
 rcases hd with hd |hd
 ·obtain ⟨i,_,rfl⟩:=List.mem_map.1 hd
  have:=dig_lt b xs i
  omega
 ·obtain ⟨i,_,rfl⟩:=List.mem_map.1 hd
  have:=cdig_lt b (cN b) (cks b xs (mN b)) i
  omega
def chF (c f:Nat):Nat→ByteArray→ByteArray
 |0,x=>x
 |k+1,x=>baOf (shaB (sB "chain".toUTF8++enc c++enc (f+k)++sB (chF c f k x)))
theorem chF_size (c f:Nat) (x:ByteArray) (hx:x.size=32):∀k,(chF c f k x).size=32
 |0=>hx
 |k+1=>by
  rw [chF,←sB_len,baOf_sB (shaB_byt _),shaB_len]
def endsF (b:Nat) (ds:List Int) (ps:List ByteArray) (n:Nat):List ByteArray:=
 (List.range n).map fun i=>chF i (ds.getD i 0).toNat (2 ^ b - 1 - (ds.getD i 0).toNat) (ps.getD i ⟨#[]⟩)
theorem endsF_succ (b:Nat) (ds:List Int) (ps:List ByteArray) (n:Nat):endsF b ds ps (n+1)=endsF b ds ps n++[chF n (ds.getD n 0).toNat (2 ^ b - 1 - (ds.getD n 0).toNat) (ps.getD n ⟨#[]⟩)]:=by
 unfold endsF;rw [List.range_succ,List.map_append];rfl
theorem endsF_len (b:Nat) (ds:List Int) (ps:List ByteArray) (n:Nat):(endsF b ds ps n).length=n:=by simp [endsF]
def pubF (b:Nat) (ds:List Int) (ps:List ByteArray):ByteArray:=baOf (shaB (sB "public".toUTF8++jnL (endsF b ds ps ps.length)))
def clF:ByteArray→Nat→List ByteArray→ByteArray
 |x,_,[]=>x
 |x,i,p::ps=>clF (if i % 2=0 then ndS x p else ndS p x) (i / 2) ps
def upF:Nat→ByteArray→Nat→Nat→List ByteArray→ByteArray × Bool
 |k,x,i,n,ps=>
  if n=1 then (x,decide (ps.length=0))
  else if ps.length=0 then (⟨#[]⟩,false)
  else match k with
   |0=>(⟨#[]⟩,false)
   |k+1=>
    if i < spl n then (ndS (upF k x i (spl n) ps.dropLast).1 (ps.getLastD ⟨#[]⟩),(upF k x i (spl n) ps.dropLast).2)
    else (ndS (ps.getLastD ⟨#[]⟩) (upF k x (i - spl n) (n - spl n) ps.dropLast).1,(upF k x (i - spl n) (n - spl n) ps.dropLast).2)
