/- receipt.Decode. -/
import Derived.Test.YtpdledjgbgalcaaGreatDoorPi
import Derived.Test.YtpdledjgbgalcaaGreatDoorSv
namespace Go.Proofs.YtpdledjgbgalcaaGreatDoor
set_option maxRecDepth 100000
set_option maxHeartbeats 16000000
open Go.RowKit Go.Lib
set_option linter.unusedVariables false
set_option linter.unusedSimpArgs false
abbrev cR (r:Rcp):Array Value:=#[.int .i64 r.hd,.int .i64 r.vt,.string r.s,.int .i64 r.ix,.int .i64 r.sz,.int .i64 r.dy,.int .i64 r.sr,.int .i64 r.ct,.int .i64 r.pl,.string r.rt,.slice r.pa.a r.pa.n r.pa.c,.int .i64 r.si,.slice r.pb.a r.pb.n r.pb.c,.slice r.pc.a r.pc.n r.pc.c]
abbrev zR:Array Value:=#[.int .i64 0,.int .i64 0,.string ⟨#[]⟩,.int .i64 0,.int .i64 0,.int .i64 0,.int .i64 0,.int .i64 0,.int .i64 0,.string ⟨#[]⟩,.slice none 0 0,.int .i64 0,.slice none 0 0,.slice none 0 0]
abbrev tR:TypeId:=35
theorem Tryz.sizeRc:(Tryz.prog.info? 35).map (·.size)=some 14:=by kernel_rfl
theorem cR_size (r:Rcp):(Tryz.prog.info? 35).map (·.size)=some (cR r).size:=Tryz.sizeRc
theorem zR_size:(Tryz.prog.info? 35).map (·.size)=some zR.size:=Tryz.sizeRc
theorem cR_one (r:Rcp):(cR r).all (·.oneCell')=true:=by
 rw [Array.all_eq_true'];intro x hx;simp only [cR,List.mem_toArray,List.mem_cons,List.not_mem_nil,or_false] at hx;rcases hx with rfl |rfl |rfl |rfl |rfl |rfl |rfl |rfl |rfl |rfl |rfl |rfl |rfl |rfl<;>rfl
theorem zR_one:zR.all (·.oneCell')=true:=by
 rw [Array.all_eq_true'];intro x hx;simp only [zR,List.mem_toArray,List.mem_cons,List.not_mem_nil,or_false] at hx;rcases hx with rfl |rfl |rfl |rfl |rfl |rfl |rfl |rfl |rfl |rfl |rfl |rfl |rfl |rfl<;>rfl
abbrev zM (bs:List Int) (s:RS):Int × RS:=rN 0 1099511627776 bs s
def rc1 (bs:List Int):Int × RS:=zM bs (0,0)
def rc2 (bs:List Int):Int × RS:=zM bs (rc1 bs).2
def rc3 (bs:List Int):ByteArray × RS:=rS bs (rc2 bs).2
def ri1 (bs:List Int):Int × RS:=zM bs (rc3 bs).2
def ri2 (bs:List Int):Int × RS:=zM bs (ri1 bs).2
def ri3 (bs:List Int):Int × RS:=zM bs (ri2 bs).2
def ri4 (bs:List Int):Int × RS:=zM bs (ri3 bs).2
def ri5 (bs:List Int):Int × RS:=zM bs (ri4 bs).2
def ri6 (bs:List Int):Int × RS:=zM bs (ri5 bs).2
def rc5 (bs:List Int):List ByteArray × RS:=rL bs 8 (ri6 bs).2
def rc7 (bs:List Int):ByteArray × RS:=rS bs (rc5 bs).2
def rc8 (bs:List Int):Int × RS:=zM bs (rc7 bs).2
def rc9 (bs:List Int):List ByteArray × RS:=rL bs 300 (rc8 bs).2
def rcA (bs:List Int):List ByteArray × RS:=rL bs 8 (rc9 bs).2
def rcV (bs:List Int) (pa pb pc:Hd):Rcp:=⟨(rc1 bs).1,(rc2 bs).1,(rc3 bs).1,(ri1 bs).1,(ri2 bs).1,(ri3 bs).1,(ri4 bs).1,(ri5 bs).1,(ri6 bs).1,(rc7 bs).1,pa,(rc8 bs).1,pb,pc⟩
def okR (bs:List Int):Bool:=decide ((rcA bs).2.2=0∧¬(rcA bs).2.1 < bs.length)&&vaB (rcV bs ⟨none,0,0⟩ ⟨none,0,0⟩ ⟨none,0,0⟩) (rc5 bs).1 (rc9 bs).1 (rcA bs).1
theorem Own.slH {α:Type} {f:α→Value} {w:World} {base:Nat} {e:TypeId} {A:Option Addr} {n c:Nat} {xs:List α} (h:Own f e w base (.slice A n c) xs):Sl f w w.heap.size A n xs:=by
 obtain ⟨A',c',hv,_,hs,_⟩:=h.shape;injection hv with h1 h2 h3;subst h1;exact ⟨h2.symm,hs⟩
def RcO (w:World) (base:Nat) (r:Rcp) (ps qs rs:List ByteArray):Prop:=Own fT 9 w base (.slice r.pa.a r.pa.n r.pa.c) ps∧Own fT 9 w base (.slice r.pb.a r.pb.n r.pb.c) qs∧Own fT 9 w base (.slice r.pc.a r.pc.n r.pc.c) rs
theorem RcO.rcIn {w:World} {base:Nat} {r:Rcp} {ps qs rs:List ByteArray} (h:RcO w base r ps qs rs):RcIn w w.heap.size r ps qs rs:=⟨h.1.slH,h.2.1.slH,h.2.2.slH⟩
theorem RcO.but {w w':World} {base:Nat} {r:Rcp} {ps qs rs:List ByteArray} {p:Nat→Prop} (h:RcO w base r ps qs rs) (hb:But p w w') (hp:∀k,base≤k→k < w.heap.size→¬p k):RcO w' base r ps qs rs:=
 ⟨h.1.butG hb fun k hk=>hp k (World.ownsRow.lt h.1 k hk).1 (World.ownsRow.lt h.1 k hk).2,h.2.1.butG hb fun k hk=>hp k (World.ownsRow.lt h.2.1 k hk).1 (World.ownsRow.lt h.2.1 k hk).2,h.2.2.butG hb fun k hk=>hp k (World.ownsRow.lt h.2.2 k hk).1 (World.ownsRow.lt h.2.2 k hk).2⟩
theorem RcO.on {w w':World} {base:Nat} {r:Rcp} {ps qs rs:List ByteArray} (h:RcO w base r ps qs rs) (hb:Below w.heap.size w w'):RcO w' base r ps qs rs:=⟨h.1.on hb,h.2.1.on hb,h.2.2.on hb⟩
theorem RcO.low {w:World} {base base':Nat} {r:Rcp} {ps qs rs:List ByteArray} (h:RcO w base r ps qs rs) (hb:base'≤base):RcO w base' r ps qs rs:=⟨World.ownsRow.mono h.1 hb,World.ownsRow.mono h.2.1 hb,World.ownsRow.mono h.2.2 hb⟩
def RDPost (bs:List Int) (w:World) (e:Ending) (w':World):Prop:=
 (okR bs=true∧∃pa pb pc,e= .returned (.tuple #[.agg (cR (rcV bs pa pb pc)),.int .i64 0])∧RcO w' w.heap.size (rcV bs pa pb pc) (rc5 bs).1 (rc9 bs).1 (rcA bs).1∧Below w.heap.size w w')
 ∨(okR bs=false∧e= .returned (.tuple #[.agg zR,.int .i64 3])∧Below w.heap.size w w')
theorem ybq {P:Program} {fn:Func} {p d:Tmp} {ty:TypeId} (h:fn.results=#[.cell p ty,.tmp d]) (tmps:Array Value) (w:World) (g:Nat) (t:TypeId) (cs:Array Value) (fr:Nat × Nat) (dd:TypeDesc)
 (hp:tmps.getD p undef= .pointer (some ⟨g,0,none⟩)) (hg:w.heap[g]? =some (.cells cs t fr))
 (hu:P.underlying ty=some dd) (hd:(match dd with | .struct _ | .array _ _=>true |_=>false)=true) (hi:(P.info? ty).map (·.size)=some cs.size):
 (results fn tmps).run P w= .ok (.tuple #[.agg cs,tmps.getD d undef]) w:=by
 have hp':tmps[p]?.getD undef= .pointer (some ⟨g,0,none⟩):=by simpa using hp
 simp [results,h,hp',asAddr,run_loadVar_row w g t ty cs fr dd hg hu hd hi]
structure DT (t:TypeId) (V0 V:World) (g:Nat) (A1:Option Addr) (n c1:Nat) (bs:List Int) (s:RS) (b:Nat) (cs:Array Value):Prop where
 rd:RdS g A1 n c1 bs s V
 pc:V.heap[b]? =some (.cells cs t (0,0))
 but:But (fun k=>k=g∨k=b) V0 V
 gb:b≠g
 ab:∀a,A1=some a→a.block≠b
theorem DT.read {t:TypeId} {V0 V V':World} {g:Nat} {A1:Option Addr} {n c1:Nat} {bs:List Int} {s s':RS} {b:Nat} {cs:Array Value} (h:DT t V0 V g A1 n c1 bs s b cs) (hr:RdS g A1 n c1 bs s' V') (hb:But (fun k=>k=g) V V'):DT t V0 V' g A1 n c1 bs s' b cs:=
 ⟨hr,(hb.block _ (lt_of_block h.pc) h.gb).trans h.pc,h.but.trans hb (fun i hi=> .inl (.inl hi)),h.gb,h.ab⟩
theorem DT.set {t:TypeId} {V0 V V':World} {g:Nat} {A1:Option Addr} {n c1:Nat} {bs:List Int} {s:RS} {b:Nat} {cs cs':Array Value} (h:DT t V0 V g A1 n c1 bs s b cs) (hp:V'.heap[b]? =some (.cells cs' t (0,0))) (hb:But (fun k=>k=b) V V'):DT t V0 V' g A1 n c1 bs s b cs':=
 ⟨h.rd.but2 hb (fun e=>h.gb e.symm) (fun a ha e=>h.ab a ha e),hp,h.but.trans hb (fun i hi=> .inl (.inr hi)),h.gb,h.ab⟩
theorem DT.cell {t:TypeId} {V0 V:World} {g:Nat} {A1:Option Addr} {n c1:Nat} {bs:List Int} {s:RS} {b:Nat} {cs:Array Value} (h:DT t V0 V g A1 n c1 bs s b cs) (i:Nat) (v:Value):DT t V0 (V.setCell ⟨b,i,none⟩ v) g A1 n c1 bs s b (cs.setIfInBounds i v):=
 h.set (heap_setCell_same V b i _ _ v h.pc) (But.setCell (p:=fun k=>k=b) (x:=⟨b,i,none⟩) (But.refl _ _) (.inl rfl) _)
theorem DT.base {t:TypeId} {V0 V:World} {g:Nat} {A1:Option Addr} {n c1:Nat} {bs:List Int} {s:RS} {b:Nat} {cs:Array Value} (h:DT t V0 V g A1 n c1 bs s b cs):DT t V V g A1 n c1 bs s b cs:=⟨h.rd,h.pc,But.refl _ _,h.gb,h.ab⟩
theorem DT.keep {t:TypeId} {V0 V V':World} {g:Nat} {A1:Option Addr} {n c1:Nat} {bs:List Int} {s:RS} {b:Nat} {cs:Array Value} (h:DT t V0 V g A1 n c1 bs s b cs) (hb:Below V.heap.size V V'):DT t V0 V' g A1 n c1 bs s b cs:=
 ⟨h.rd.on hb,(hb.block _ (lt_of_block h.pc)).trans h.pc,h.but.trans (But.of_below (p:=fun k=>k=g∨k=b) hb) (fun i hi=> .inl hi),h.gb,h.ab⟩
theorem Own.lowG {α:Type} {f:α→Value} {w:World} {base base':Nat} {e:TypeId} {v:Value} {xs:List α} (h:Own f e w base v xs) (hb:base'≤base):Own f e w base' v xs:=World.ownsRow.mono h hb
theorem ybe {w:World} {b:Nat} {t:TypeId} {r:Rcp} (h:w.heap[b]? =some (.cells (cR r) t (0,0))):w.cell? ⟨b,0,none⟩=some (.int .i64 r.hd)∧w.cell? ⟨b,1,none⟩=some (.int .i64 r.vt)∧w.cell? ⟨b,2,none⟩=some (.string r.s)∧w.cell? ⟨b,3,none⟩=some (.int .i64 r.ix)∧w.cell? ⟨b,4,none⟩=some (.int .i64 r.sz)∧w.cell? ⟨b,5,none⟩=some (.int .i64 r.dy)∧w.cell? ⟨b,6,none⟩=some (.int .i64 r.sr)∧w.cell? ⟨b,7,none⟩=some (.int .i64 r.ct)∧w.cell? ⟨b,8,none⟩=some (.int .i64 r.pl)∧w.cell? ⟨b,9,none⟩=some (.string r.rt)∧w.cell? ⟨b,10,none⟩=some (.slice r.pa.a r.pa.n r.pa.c)∧w.cell? ⟨b,11,none⟩=some (.int .i64 r.si)∧w.cell? ⟨b,12,none⟩=some (.slice r.pb.a r.pb.n r.pb.c)∧w.cell? ⟨b,13,none⟩=some (.slice r.pc.a r.pc.n r.pc.c):=by
 refine ⟨?_,?_,?_,?_,?_,?_,?_,?_,?_,?_,?_,?_,?_,?_⟩<;>(rw [cell_of_row w b _ _ _ _ h];rfl)
def stp (k:Nat) (a0 a1 a2 a3 a4 a5 a6:Prop):Prop:=match k with |0=>a0 |1=>a1 |2=>a2 |3=>a3 |4=>a4 |5=>a5 |_=>a6
theorem rdec_any (A:Option Addr) (n c B:Nat) (bs:List Int) (w:World) (hx:Sl fB w B A n bs) (hB:B≤w.heap.size) (hn:n≤1000000) (hbr:∀b∈bs,0≤b∧b < 256):
 Calls Tryz.prog 174 #[.slice A n c] w (RDPost bs w):=by
 have hl:bs.length=n:=hx.1;have hp0:(0,(0:Int)).1≤n:=Nat.zero_le _;have hp_rc1:(rc1 bs).2.1≤n:=rN_le hl hp0;have hp_rc2:(rc2 bs).2.1≤n:=rN_le hl hp_rc1;have hp_rc3:(rc3 bs).2.1≤n:=rS_le hl hp_rc2;have hp_ri1:(ri1 bs).2.1≤n:=rN_le hl hp_rc3;have hp_ri2:(ri2 bs).2.1≤n:=rN_le hl hp_ri1;have hp_ri3:(ri3 bs).2.1≤n:=rN_le hl hp_ri2;have hp_ri4:(ri4 bs).2.1≤n:=rN_le hl hp_ri3;have hp_ri5:(ri5 bs).2.1≤n:=rN_le hl hp_ri4;have hp_ri6:(ri6 bs).2.1≤n:=rN_le hl hp_ri5;have hp_rc5:(rc5 bs).2.1≤n:=rL_le hl hp_ri6;have hp_rc7:(rc7 bs).2.1≤n:=rS_le hl hp_rc5;have hp_rc8:(rc8 bs).2.1≤n:=rN_le hl hp_rc7;have hp_rc9:(rc9 bs).2.1≤n:=rL_le hl hp_rc8;have hp_rcA:(rcA bs).2.1≤n:=rL_le hl hp_rc9;obtain ⟨W1,hW1⟩:∃W1:World,W1=(w.alloc (.cells zR tR)).alloc (.cells zR tR):=⟨_,rfl⟩
 have hb1:Below w.heap.size w W1:=by rw [hW1];exact bl.alloc sI _
 have hs1:W1.heap.size=w.heap.size+1+1:=by rw [hW1];simp
 have hg2:W1.heap[w.heap.size]? =some (.cells zR tR (0,0)):=by rw [hW1,Below.heap_alloc _ _ _ sI];exact heap_alloc_new w _
 have hg3:W1.heap[w.heap.size+1]? =some (.cells zR tR (0,0)):=by
  rw [hW1]
  have:=heap_alloc_new (w.alloc (.cells zR tR)) (.cells zR tR)
  simpa using this
 have HNR:=lh (ybO A n c bs W1 ((hx.up hb1 hB).more' (Nat.le_trans hB hb1.size)) hn);have HB1:=lh hb1;have HS1:=lh hs1;have HG2:=lh hg2;have HG3:=lh hg3;have HWE:=lh hW1;rw [hW1] at HNR;have HR1:Hid (∀g A1 c1 V,n≤c1→RdS g A1 n c1 bs (0,0) V→Calls Tryz.prog 218 #[.pointer (some ⟨g,0,none⟩)] V (RPost g A1 n c1 bs (.int .i64 (rc1 bs).1) (rc1 bs).2 V)):=fun g A1 c1 V hc h=>yc3 g A1 n c1 bs (0,0) V h ⟨hbr,hn,hc⟩ hp0
 have HR2:Hid (∀g A1 c1 V,n≤c1→RdS g A1 n c1 bs (rc1 bs).2 V→Calls Tryz.prog 218 #[.pointer (some ⟨g,0,none⟩)] V (RPost g A1 n c1 bs (.int .i64 (rc2 bs).1) (rc2 bs).2 V)):=fun g A1 c1 V hc h=>yc3 g A1 n c1 bs (rc1 bs).2 V h ⟨hbr,hn,hc⟩ hp_rc1
 have HR3:Hid (∀g A1 c1 V,n≤c1→RdS g A1 n c1 bs (rc2 bs).2 V→Calls Tryz.prog 172 #[.pointer (some ⟨g,0,none⟩)] V (RPost g A1 n c1 bs (.string (rc3 bs).1) (rc3 bs).2 V)):=fun g A1 c1 V hc h=>rs_any g A1 n c1 bs (rc2 bs).2 V h ⟨hbr,hn,hc⟩ hp_rc2
 have HP1:Hid (∀g A1 c1 V,n≤c1→RdS g A1 n c1 bs (rc3 bs).2 V→Calls Tryz.prog 218 #[.pointer (some ⟨g,0,none⟩)] V (RPost g A1 n c1 bs (.int .i64 (ri1 bs).1) (ri1 bs).2 V)):=fun g A1 c1 V hc h=>yc3 g A1 n c1 bs (rc3 bs).2 V h ⟨hbr,hn,hc⟩ hp_rc3
 have HP2:Hid (∀g A1 c1 V,n≤c1→RdS g A1 n c1 bs (ri1 bs).2 V→Calls Tryz.prog 218 #[.pointer (some ⟨g,0,none⟩)] V (RPost g A1 n c1 bs (.int .i64 (ri2 bs).1) (ri2 bs).2 V)):=fun g A1 c1 V hc h=>yc3 g A1 n c1 bs (ri1 bs).2 V h ⟨hbr,hn,hc⟩ hp_ri1
 have HP3:Hid (∀g A1 c1 V,n≤c1→RdS g A1 n c1 bs (ri2 bs).2 V→Calls Tryz.prog 218 #[.pointer (some ⟨g,0,none⟩)] V (RPost g A1 n c1 bs (.int .i64 (ri3 bs).1) (ri3 bs).2 V)):=fun g A1 c1 V hc h=>yc3 g A1 n c1 bs (ri2 bs).2 V h ⟨hbr,hn,hc⟩ hp_ri2
 have HP4:Hid (∀g A1 c1 V,n≤c1→RdS g A1 n c1 bs (ri3 bs).2 V→Calls Tryz.prog 218 #[.pointer (some ⟨g,0,none⟩)] V (RPost g A1 n c1 bs (.int .i64 (ri4 bs).1) (ri4 bs).2 V)):=fun g A1 c1 V hc h=>yc3 g A1 n c1 bs (ri3 bs).2 V h ⟨hbr,hn,hc⟩ hp_ri3
 have HP5:Hid (∀g A1 c1 V,n≤c1→RdS g A1 n c1 bs (ri4 bs).2 V→Calls Tryz.prog 218 #[.pointer (some ⟨g,0,none⟩)] V (RPost g A1 n c1 bs (.int .i64 (ri5 bs).1) (ri5 bs).2 V)):=fun g A1 c1 V hc h=>yc3 g A1 n c1 bs (ri4 bs).2 V h ⟨hbr,hn,hc⟩ hp_ri4
 have HP6:Hid (∀g A1 c1 V,n≤c1→RdS g A1 n c1 bs (ri5 bs).2 V→Calls Tryz.prog 218 #[.pointer (some ⟨g,0,none⟩)] V (RPost g A1 n c1 bs (.int .i64 (ri6 bs).1) (ri6 bs).2 V)):=fun g A1 c1 V hc h=>yc3 g A1 n c1 bs (ri5 bs).2 V h ⟨hbr,hn,hc⟩ hp_ri5
 have HR5:Hid (∀g A1 c1 V,n≤c1→RdS g A1 n c1 bs (ri6 bs).2 V→Calls Tryz.prog 219 #[.pointer (some ⟨g,0,none⟩),.int .i64 8] V (RLPost g A1 n c1 bs (rc5 bs).1 (rc5 bs).2 V)):=fun g A1 c1 V hc h=>rl_any g A1 n c1 bs (ri6 bs).2 8 de V h ⟨hbr,hn,hc⟩ hp_ri6
 have HR7:Hid (∀g A1 c1 V,n≤c1→RdS g A1 n c1 bs (rc5 bs).2 V→Calls Tryz.prog 172 #[.pointer (some ⟨g,0,none⟩)] V (RPost g A1 n c1 bs (.string (rc7 bs).1) (rc7 bs).2 V)):=fun g A1 c1 V hc h=>rs_any g A1 n c1 bs (rc5 bs).2 V h ⟨hbr,hn,hc⟩ hp_rc5
 have HR8:Hid (∀g A1 c1 V,n≤c1→RdS g A1 n c1 bs (rc7 bs).2 V→Calls Tryz.prog 218 #[.pointer (some ⟨g,0,none⟩)] V (RPost g A1 n c1 bs (.int .i64 (rc8 bs).1) (rc8 bs).2 V)):=fun g A1 c1 V hc h=>yc3 g A1 n c1 bs (rc7 bs).2 V h ⟨hbr,hn,hc⟩ hp_rc7
 have HR9:Hid (∀g A1 c1 V,n≤c1→RdS g A1 n c1 bs (rc8 bs).2 V→Calls Tryz.prog 219 #[.pointer (some ⟨g,0,none⟩),.int .i64 300] V (RLPost g A1 n c1 bs (rc9 bs).1 (rc9 bs).2 V)):=fun g A1 c1 V hc h=>rl_any g A1 n c1 bs (rc8 bs).2 300 de V h ⟨hbr,hn,hc⟩ hp_rc8
 have HRA:Hid (∀g A1 c1 V,n≤c1→RdS g A1 n c1 bs (rc9 bs).2 V→Calls Tryz.prog 219 #[.pointer (some ⟨g,0,none⟩),.int .i64 8] V (RLPost g A1 n c1 bs (rcA bs).1 (rcA bs).2 V)):=fun g A1 c1 V hc h=>rl_any g A1 n c1 bs (rc9 bs).2 8 de V h ⟨hbr,hn,hc⟩ hp_rc9
 have HOK:Hid (okR bs=(decide ((rcA bs).2.2=0∧¬(rcA bs).2.1 < n)&&vaB (rcV bs ⟨none,0,0⟩ ⟨none,0,0⟩ ⟨none,0,0⟩) (rc5 bs).1 (rc9 bs).1 (rcA bs).1)):=by show okR bs=_;unfold okR;rw [hl]
 unfold RDPost;unfold rcV at HOK ⊢
 generalize rc1 bs=R1 at*
 generalize rc2 bs=R2 at*
 generalize rc3 bs=R3 at*
 generalize ri1 bs=P1 at*
 generalize ri2 bs=P2 at*
 generalize ri3 bs=P3 at*
 generalize ri4 bs=P4 at*
 generalize ri5 bs=P5 at*
 generalize ri6 bs=P6 at*
 generalize rc5 bs=R5 at*
 generalize rc7 bs=R7 at*
 generalize rc8 bs=R8 at*
 generalize rc9 bs=R9 at*
 generalize rcA bs=RA at*
 obtain ⟨d1,s1⟩:=R1;obtain ⟨d2,s2⟩:=R2;obtain ⟨st,s3⟩:=R3;obtain ⟨ix,q1⟩:=P1;obtain ⟨sz,q2⟩:=P2;obtain ⟨dy,q3⟩:=P3;obtain ⟨sr,q4⟩:=P4;obtain ⟨ct,q5⟩:=P5;obtain ⟨pl,q6⟩:=P6;obtain ⟨ps,s5⟩:=R5;obtain ⟨rt,s7⟩:=R7;obtain ⟨si,s8⟩:=R8;obtain ⟨qs,s9⟩:=R9;obtain ⟨rs,sA⟩:=RA;dsimp only at HR1 HR2 HR3 HP1 HP2 HP3 HP4 HP5 HP6 HR5 HR7 HR8 HR9 HRA HOK ⊢;clear hx hB hbr hl hp0 hb1 hs1 hg2 hg3 hW1 hp_rc1 hp_rc2 hp_rc3 hp_ri1 hp_ri2 hp_ri3 hp_ri4 hp_ri5 hp_ri6 hp_rc5 hp_rc7 hp_rc8 hp_rc9 hp_rcA;go_enter Tryz.func174,Tryz.ntmps174
 go_wp2_with (first
  |(go_at_call 81;(with_reducible refine HNR.out.mono ?_);rintro e V0 ⟨g,A1,c1,rfl,r0,x0,hg0,hb0,hc0,hA0⟩
    rw [←HWE.out] at hg0 hb0 hA0;have D0:Hid (DT tR V0 V0 g A1 n c1 bs (0,0) (w.heap.size+1) zR):=⟨⟨⟨_,r0⟩,x0⟩,(hb0.block _ (lt_of_block HG3.out)).trans HG3.out,But.refl _ _,by have:=HS1.out;omega,fun a ha=>by have:=(hA0 a ha).1;have:=HS1.out;omega⟩;have HC1:=lh hc0;have HG0:=lh hg0;have HB0:Hid (Below w.heap.size w V0):=HB1.out.trans (hb0.mono HB1.out.size);have HZ0:Hid (V0.heap[w.heap.size]? =some (.cells zR tR (0,0))):=(hb0.block _ (lt_of_block HG2.out)).trans HG2.out
    clear r0 x0 hg0 hb0 hc0 hA0)
  |(go_at_call 218;(with_reducible refine (HR1.out g A1 c1 _ HC1.out D0.out.rd).mono ?_);rintro e V1 ⟨rfl,r,b⟩
    have D1:=lh (D0.out.read r b)
    clear r b)
  |(go_at_call 218;(with_reducible refine (HR2.out g A1 c1 _ HC1.out D1.out.rd).mono ?_);rintro e V2 ⟨rfl,r,b⟩
    have d2x:=D1.out.read r b;have y0:=cell_of_row V2 (w.heap.size+1) 0 _ _ _ d2x.pc;have y1:=cell_of_row V2 (w.heap.size+1) 1 _ _ _ d2x.pc;have z0:=frozen_of_row V2 (w.heap.size+1) 0 _ _ d2x.pc;have z1:=frozen_of_row V2 (w.heap.size+1) 1 _ _ d2x.pc;simp at y0 y1;have D2:=lh ((d2x.cell 0 (.int .i64 d1)).cell 1 (.int .i64 d2))
    clear r b d2x)
  |(go_at_call 172;(with_reducible refine (HR3.out g A1 c1 _ HC1.out D2.out.rd).mono ?_);rintro e V3 ⟨rfl,r,b⟩
    clear y0 y1 z0 z1;have d3x:=D2.out.read r b;have y2:=cell_of_row V3 (w.heap.size+1) 2 _ _ _ d3x.pc;have z2:=frozen_of_row V3 (w.heap.size+1) 2 _ _ d3x.pc;simp at y2;have D3:Hid (DT tR V0 (V3.setCell ⟨w.heap.size+1,2,none⟩ (.string st)) g A1 n c1 bs s3 (w.heap.size+1) #[.int .i64 d1,.int .i64 d2,.string st,.int .i64 0,.int .i64 0,.int .i64 0,.int .i64 0,.int .i64 0,.int .i64 0,.string ⟨#[]⟩,.slice none 0 0,.int .i64 0,.slice none 0 0,.slice none 0 0]):=d3x.cell 2 (.string st)
    clear r b d3x))
 clear y2 z2 D1 D2 HNR HR1 HR2 HR3;obtain ⟨V4,hV4⟩:∃V:World,V=V3.setCell ⟨w.heap.size+1,2,none⟩ (.string st):=⟨_,rfl⟩
 have hs43:V4.heap.size=V3.heap.size:=by rw [hV4];simp
 rw [←hV4] at D3 ⊢;clear hV4;obtain ⟨V5,hV5⟩:∃V:World,V=V4.alloc (.cells #[.pointer (some ⟨w.heap.size+1,3,none⟩),.pointer (some ⟨w.heap.size+1,4,none⟩),.pointer (some ⟨w.heap.size+1,5,none⟩),.pointer (some ⟨w.heap.size+1,6,none⟩),.pointer (some ⟨w.heap.size+1,7,none⟩),.pointer (some ⟨w.heap.size+1,8,none⟩)] 279):=⟨_,rfl⟩
 obtain ⟨pb,hpb'⟩:∃pb,pb=V3.heap.size:=⟨_,rfl⟩
 have hpb:pb=V4.heap.size:=hpb'.trans hs43.symm;have h45:Below V4.heap.size V4 V5:=by rw [hV5];exact bl
 have HPT:Hid (V5.heap[pb]? =some (.cells #[.pointer (some ⟨w.heap.size+1,3,none⟩),.pointer (some ⟨w.heap.size+1,4,none⟩),.pointer (some ⟨w.heap.size+1,5,none⟩),.pointer (some ⟨w.heap.size+1,6,none⟩),.pointer (some ⟨w.heap.size+1,7,none⟩),.pointer (some ⟨w.heap.size+1,8,none⟩)] 279 (0,0))):=by show _=_;rw [hV5,hpb];exact heap_alloc_new V4 _
 have D5:Hid (DT tR V5 V5 g A1 n c1 bs s3 (w.heap.size+1) #[.int .i64 d1,.int .i64 d2,.string st,.int .i64 0,.int .i64 0,.int .i64 0,.int .i64 0,.int .i64 0,.int .i64 0,.string ⟨#[]⟩,.slice none 0 0,.int .i64 0,.slice none 0 0,.slice none 0 0]):=(D3.out.keep h45).base
 have HBd:Hid (Below w.heap.size w V5):=by
  have h1:Below w.heap.size w V4:=HB0.out.trans (D3.out.but.below HB0.out.size (fun i hi=>by have h2:=HG0.out;have h3:=HS1.out;rcases hi with rfl |rfl<;>omega));exact h1.trans (h45.mono h1.size)
 have HZ5:Hid (V5.heap[w.heap.size]? =some (.cells zR tR (0,0))):=(h45.block _ (by have h1:=lt_of_block D3.out.pc;omega)).trans ((D3.out.but.block _ (lt_of_block HZ0.out) (by have h2:=HG0.out;have h3:=HS1.out;omega)).trans HZ0.out)
 have HPG:Hid (g < pb∧w.heap.size+1 < pb):=by
  have h1:=D3.out.rd.lt;have h2:=lt_of_block D3.out.pc
  show _∧_
  omega
 have HGW:Hid (w.heap.size+1+1≤g):=by show _≤_;have h2:=HG0.out;have h3:=HS1.out;omega
 have HVW:Hid (w.heap.size < V5.heap.size):=by show _ < _;have h1:=D5.out.rd.lt;have h2:=HGW.out;omega
 rw [←hpb'];rw [←hV5];clear hV5 hpb hpb' hs43 h45 D3 HB0 HZ0 D0 HG2 HG3
 go_loopw [31] (fun i wr=>∃k:Nat,k≤6∧i= .int .i64 k∧Hid (stp k (DT tR V5 wr g A1 n c1 bs s3 (w.heap.size+1) #[.int .i64 d1,.int .i64 d2,.string st,.int .i64 0,.int .i64 0,.int .i64 0,.int .i64 0,.int .i64 0,.int .i64 0,.string ⟨#[]⟩,.slice none 0 0,.int .i64 0,.slice none 0 0,.slice none 0 0]) (DT tR V5 wr g A1 n c1 bs q1 (w.heap.size+1) #[.int .i64 d1,.int .i64 d2,.string st,.int .i64 ix,.int .i64 0,.int .i64 0,.int .i64 0,.int .i64 0,.int .i64 0,.string ⟨#[]⟩,.slice none 0 0,.int .i64 0,.slice none 0 0,.slice none 0 0]) (DT tR V5 wr g A1 n c1 bs q2 (w.heap.size+1) #[.int .i64 d1,.int .i64 d2,.string st,.int .i64 ix,.int .i64 sz,.int .i64 0,.int .i64 0,.int .i64 0,.int .i64 0,.string ⟨#[]⟩,.slice none 0 0,.int .i64 0,.slice none 0 0,.slice none 0 0]) (DT tR V5 wr g A1 n c1 bs q3 (w.heap.size+1) #[.int .i64 d1,.int .i64 d2,.string st,.int .i64 ix,.int .i64 sz,.int .i64 dy,.int .i64 0,.int .i64 0,.int .i64 0,.string ⟨#[]⟩,.slice none 0 0,.int .i64 0,.slice none 0 0,.slice none 0 0]) (DT tR V5 wr g A1 n c1 bs q4 (w.heap.size+1) #[.int .i64 d1,.int .i64 d2,.string st,.int .i64 ix,.int .i64 sz,.int .i64 dy,.int .i64 sr,.int .i64 0,.int .i64 0,.string ⟨#[]⟩,.slice none 0 0,.int .i64 0,.slice none 0 0,.slice none 0 0]) (DT tR V5 wr g A1 n c1 bs q5 (w.heap.size+1) #[.int .i64 d1,.int .i64 d2,.string st,.int .i64 ix,.int .i64 sz,.int .i64 dy,.int .i64 sr,.int .i64 ct,.int .i64 0,.string ⟨#[]⟩,.slice none 0 0,.int .i64 0,.slice none 0 0,.slice none 0 0]) (DT tR V5 wr g A1 n c1 bs q6 (w.heap.size+1) #[.int .i64 d1,.int .i64 d2,.string st,.int .i64 ix,.int .i64 sz,.int .i64 dy,.int .i64 sr,.int .i64 ct,.int .i64 pl,.string ⟨#[]⟩,.slice none 0 0,.int .i64 0,.slice none 0 0,.slice none 0 0]))) (fun i _=>6 - (intOf i).toNat)
 case atStart=>exact ⟨0,by omega,rfl,D5⟩
 case round=>
  obtain ⟨k,hk,rfl,HD⟩:=hrel;rcases (show k=0∨k=1∨k=2∨k=3∨k=4∨k=5∨k=6 by omega) with rfl |rfl |rfl |rfl |rfl |rfl |rfl
  ·
   have D:Hid (DT tR V5 wr g A1 n c1 bs s3 (w.heap.size+1) #[.int .i64 d1,.int .i64 d2,.string st,.int .i64 0,.int .i64 0,.int .i64 0,.int .i64 0,.int .i64 0,.int .i64 0,.string ⟨#[]⟩,.slice none 0 0,.int .i64 0,.slice none 0 0,.slice none 0 0]):=HD
   have yp:wr.cell? ⟨pb,0,none⟩=some (.pointer (some ⟨w.heap.size+1,3,none⟩)):=by
    have hq:=(D.out.but.block pb (lt_of_block HPT.out) yaT).trans HPT.out;rw [cell_of_row wr pb 0 _ _ _ hq];rfl
   clear HD
   go_wp2_with (first
    |(go_at_call 218;(with_reducible refine (HP1.out g A1 c1 _ HC1.out D.out.rd).mono ?_);rintro e V6 ⟨rfl,r,b⟩
      have dx:=D.out.read r b;have y:=cell_of_row V6 (w.heap.size+1) 3 _ _ _ dx.pc;have z:=frozen_of_row V6 (w.heap.size+1) 3 _ _ dx.pc;simp at y;have D6:=lh (dx.cell 3 (.int .i64 ix))
      clear r b dx))
   refine ⟨?rel,?measure⟩
   case rel=>exact ⟨1,by omega,rfl,(show DT tR V5 _ g A1 n c1 bs q1 (w.heap.size+1) #[.int .i64 d1,.int .i64 d2,.string st,.int .i64 ix,.int .i64 0,.int .i64 0,.int .i64 0,.int .i64 0,.int .i64 0,.string ⟨#[]⟩,.slice none 0 0,.int .i64 0,.slice none 0 0,.slice none 0 0] from D6.out)⟩
   case measure=>simp [intOf]
  ·
   have D:Hid (DT tR V5 wr g A1 n c1 bs q1 (w.heap.size+1) #[.int .i64 d1,.int .i64 d2,.string st,.int .i64 ix,.int .i64 0,.int .i64 0,.int .i64 0,.int .i64 0,.int .i64 0,.string ⟨#[]⟩,.slice none 0 0,.int .i64 0,.slice none 0 0,.slice none 0 0]):=HD
   have yp:wr.cell? ⟨pb,1,none⟩=some (.pointer (some ⟨w.heap.size+1,4,none⟩)):=by
    have hq:=(D.out.but.block pb (lt_of_block HPT.out) yaT).trans HPT.out;rw [cell_of_row wr pb 1 _ _ _ hq];rfl
   clear HD
   go_wp2_with (first
    |(go_at_call 218;(with_reducible refine (HP2.out g A1 c1 _ HC1.out D.out.rd).mono ?_);rintro e V6 ⟨rfl,r,b⟩
      have dx:=D.out.read r b;have y:=cell_of_row V6 (w.heap.size+1) 4 _ _ _ dx.pc;have z:=frozen_of_row V6 (w.heap.size+1) 4 _ _ dx.pc;simp at y;have D6:=lh (dx.cell 4 (.int .i64 sz))
      clear r b dx))
   refine ⟨?rel,?measure⟩
   case rel=>exact ⟨2,by omega,rfl,(show DT tR V5 _ g A1 n c1 bs q2 (w.heap.size+1) #[.int .i64 d1,.int .i64 d2,.string st,.int .i64 ix,.int .i64 sz,.int .i64 0,.int .i64 0,.int .i64 0,.int .i64 0,.string ⟨#[]⟩,.slice none 0 0,.int .i64 0,.slice none 0 0,.slice none 0 0] from D6.out)⟩
   case measure=>simp [intOf]
  ·
   have D:Hid (DT tR V5 wr g A1 n c1 bs q2 (w.heap.size+1) #[.int .i64 d1,.int .i64 d2,.string st,.int .i64 ix,.int .i64 sz,.int .i64 0,.int .i64 0,.int .i64 0,.int .i64 0,.string ⟨#[]⟩,.slice none 0 0,.int .i64 0,.slice none 0 0,.slice none 0 0]):=HD
   have yp:wr.cell? ⟨pb,2,none⟩=some (.pointer (some ⟨w.heap.size+1,5,none⟩)):=by
    have hq:=(D.out.but.block pb (lt_of_block HPT.out) yaT).trans HPT.out;rw [cell_of_row wr pb 2 _ _ _ hq];rfl
   clear HD
   go_wp2_with (first
    |(go_at_call 218;(with_reducible refine (HP3.out g A1 c1 _ HC1.out D.out.rd).mono ?_);rintro e V6 ⟨rfl,r,b⟩
      have dx:=D.out.read r b;have y:=cell_of_row V6 (w.heap.size+1) 5 _ _ _ dx.pc;have z:=frozen_of_row V6 (w.heap.size+1) 5 _ _ dx.pc;simp at y;have D6:=lh (dx.cell 5 (.int .i64 dy))
      clear r b dx))
   refine ⟨?rel,?measure⟩
   case rel=>exact ⟨3,by omega,rfl,(show DT tR V5 _ g A1 n c1 bs q3 (w.heap.size+1) #[.int .i64 d1,.int .i64 d2,.string st,.int .i64 ix,.int .i64 sz,.int .i64 dy,.int .i64 0,.int .i64 0,.int .i64 0,.string ⟨#[]⟩,.slice none 0 0,.int .i64 0,.slice none 0 0,.slice none 0 0] from D6.out)⟩
   case measure=>simp [intOf]
  ·
   have D:Hid (DT tR V5 wr g A1 n c1 bs q3 (w.heap.size+1) #[.int .i64 d1,.int .i64 d2,.string st,.int .i64 ix,.int .i64 sz,.int .i64 dy,.int .i64 0,.int .i64 0,.int .i64 0,.string ⟨#[]⟩,.slice none 0 0,.int .i64 0,.slice none 0 0,.slice none 0 0]):=HD
   have yp:wr.cell? ⟨pb,3,none⟩=some (.pointer (some ⟨w.heap.size+1,6,none⟩)):=by
    have hq:=(D.out.but.block pb (lt_of_block HPT.out) yaT).trans HPT.out;rw [cell_of_row wr pb 3 _ _ _ hq];rfl
   clear HD
   go_wp2_with (first
    |(go_at_call 218;(with_reducible refine (HP4.out g A1 c1 _ HC1.out D.out.rd).mono ?_);rintro e V6 ⟨rfl,r,b⟩
      have dx:=D.out.read r b;have y:=cell_of_row V6 (w.heap.size+1) 6 _ _ _ dx.pc;have z:=frozen_of_row V6 (w.heap.size+1) 6 _ _ dx.pc;simp at y;have D6:=lh (dx.cell 6 (.int .i64 sr))
      clear r b dx))
   refine ⟨?rel,?measure⟩
   case rel=>exact ⟨4,by omega,rfl,(show DT tR V5 _ g A1 n c1 bs q4 (w.heap.size+1) #[.int .i64 d1,.int .i64 d2,.string st,.int .i64 ix,.int .i64 sz,.int .i64 dy,.int .i64 sr,.int .i64 0,.int .i64 0,.string ⟨#[]⟩,.slice none 0 0,.int .i64 0,.slice none 0 0,.slice none 0 0] from D6.out)⟩
   case measure=>simp [intOf]
  ·
   have D:Hid (DT tR V5 wr g A1 n c1 bs q4 (w.heap.size+1) #[.int .i64 d1,.int .i64 d2,.string st,.int .i64 ix,.int .i64 sz,.int .i64 dy,.int .i64 sr,.int .i64 0,.int .i64 0,.string ⟨#[]⟩,.slice none 0 0,.int .i64 0,.slice none 0 0,.slice none 0 0]):=HD
   have yp:wr.cell? ⟨pb,4,none⟩=some (.pointer (some ⟨w.heap.size+1,7,none⟩)):=by
    have hq:=(D.out.but.block pb (lt_of_block HPT.out) yaT).trans HPT.out;rw [cell_of_row wr pb 4 _ _ _ hq];rfl
   clear HD
   go_wp2_with (first
    |(go_at_call 218;(with_reducible refine (HP5.out g A1 c1 _ HC1.out D.out.rd).mono ?_);rintro e V6 ⟨rfl,r,b⟩
      have dx:=D.out.read r b;have y:=cell_of_row V6 (w.heap.size+1) 7 _ _ _ dx.pc;have z:=frozen_of_row V6 (w.heap.size+1) 7 _ _ dx.pc;simp at y;have D6:=lh (dx.cell 7 (.int .i64 ct))
      clear r b dx))
   refine ⟨?rel,?measure⟩
   case rel=>exact ⟨5,by omega,rfl,(show DT tR V5 _ g A1 n c1 bs q5 (w.heap.size+1) #[.int .i64 d1,.int .i64 d2,.string st,.int .i64 ix,.int .i64 sz,.int .i64 dy,.int .i64 sr,.int .i64 ct,.int .i64 0,.string ⟨#[]⟩,.slice none 0 0,.int .i64 0,.slice none 0 0,.slice none 0 0] from D6.out)⟩
   case measure=>simp [intOf]
  ·
   have D:Hid (DT tR V5 wr g A1 n c1 bs q5 (w.heap.size+1) #[.int .i64 d1,.int .i64 d2,.string st,.int .i64 ix,.int .i64 sz,.int .i64 dy,.int .i64 sr,.int .i64 ct,.int .i64 0,.string ⟨#[]⟩,.slice none 0 0,.int .i64 0,.slice none 0 0,.slice none 0 0]):=HD
   have yp:wr.cell? ⟨pb,5,none⟩=some (.pointer (some ⟨w.heap.size+1,8,none⟩)):=by
    have hq:=(D.out.but.block pb (lt_of_block HPT.out) yaT).trans HPT.out;rw [cell_of_row wr pb 5 _ _ _ hq];rfl
   clear HD
   go_wp2_with (first
    |(go_at_call 218;(with_reducible refine (HP6.out g A1 c1 _ HC1.out D.out.rd).mono ?_);rintro e V6 ⟨rfl,r,b⟩
      have dx:=D.out.read r b;have y:=cell_of_row V6 (w.heap.size+1) 8 _ _ _ dx.pc;have z:=frozen_of_row V6 (w.heap.size+1) 8 _ _ dx.pc;simp at y;have D6:=lh (dx.cell 8 (.int .i64 pl))
      clear r b dx))
   refine ⟨?rel,?measure⟩
   case rel=>exact ⟨6,by omega,rfl,(show DT tR V5 _ g A1 n c1 bs q6 (w.heap.size+1) #[.int .i64 d1,.int .i64 d2,.string st,.int .i64 ix,.int .i64 sz,.int .i64 dy,.int .i64 sr,.int .i64 ct,.int .i64 pl,.string ⟨#[]⟩,.slice none 0 0,.int .i64 0,.slice none 0 0,.slice none 0 0] from D6.out)⟩
   case measure=>simp [intOf]
  ·have D:Hid (DT tR V5 wr g A1 n c1 bs q6 (w.heap.size+1) #[.int .i64 d1,.int .i64 d2,.string st,.int .i64 ix,.int .i64 sz,.int .i64 dy,.int .i64 sr,.int .i64 ct,.int .i64 pl,.string ⟨#[]⟩,.slice none 0 0,.int .i64 0,.slice none 0 0,.slice none 0 0]):=HD
   clear HD HP1 HP2 HP3 HP4 HP5 HP6 D5
   have HOB:Hid (∀(V V':World) (v:Value) (xs:List ByteArray),V5.heap.size≤V.heap.size→Own fT 9 V V5.heap.size v xs→But (fun k=>k=g∨k=w.heap.size+1) V V'→Own fT 9 V' V5.heap.size v xs):=fun V V' v xs hs ho hb=>ho.butG hb (fun k hk e=>by
    have h1:=(World.ownsRow.lt ho k hk).1;have h2:=HPG.out;have h3:=lt_of_block HPT.out
    rcases e with rfl |rfl<;>omega)
   have HgB:Hid (∀V V':World,But (fun k=>k=g) V V'→But (fun k=>k=g∨k=w.heap.size+1) V V'):=fun V V' h=>h.mono (fun i hi=> .inl (.inl hi))
   have HbB:Hid (∀(V:World) (i:Nat) (v:Value),But (fun k=>k=g∨k=w.heap.size+1) V (V.setCell ⟨w.heap.size+1,i,none⟩ v)):=fun V i v=>But.setCell (p:=fun k=>k=g∨k=w.heap.size+1) (x:=⟨w.heap.size+1,i,none⟩) (But.refl _ _) (.inl (.inr rfl)) v
   have HD5:Hid (V5.heap.size≤wr.heap.size):=D.out.but.size
   go_upto_region 15 with (first
    |(go_at_call 219;(with_reducible refine (HR5.out g A1 c1 _ HC1.out D.out.rd).mono ?_);rintro e Va ⟨a1,n1,m1,rfl,ho,r,b⟩
      have dx:=D.out.read r b;have y:=cell_of_row Va (w.heap.size+1) 10 _ _ _ dx.pc;have z:=frozen_of_row Va (w.heap.size+1) 10 _ _ dx.pc;simp at y;have Da:Hid (DT tR V5 (Va.setCell ⟨w.heap.size+1,10,none⟩ (.slice a1 n1 m1)) g A1 n c1 bs s5 (w.heap.size+1) #[.int .i64 d1,.int .i64 d2,.string st,.int .i64 ix,.int .i64 sz,.int .i64 dy,.int .i64 sr,.int .i64 ct,.int .i64 pl,.string ⟨#[]⟩,.slice a1 n1 m1,.int .i64 0,.slice none 0 0,.slice none 0 0]):=dx.cell 10 (.slice a1 n1 m1);have Oa:=lh (HOB.out _ _ _ _ (Nat.le_trans HD5.out b.size) (ho.lowG HD5.out) (HbB.out Va 10 (.slice a1 n1 m1)))
      clear r b dx ho)
    |(go_at_call 172;(with_reducible refine (HR7.out g A1 c1 _ HC1.out Da.out.rd).mono ?_);rintro e Vb ⟨rfl,r,b⟩
      clear y z;have dx:=Da.out.read r b;have y:=cell_of_row Vb (w.heap.size+1) 9 _ _ _ dx.pc;have z:=frozen_of_row Vb (w.heap.size+1) 9 _ _ dx.pc;simp at y;have Db:Hid (DT tR V5 (Vb.setCell ⟨w.heap.size+1,9,none⟩ (.string rt)) g A1 n c1 bs s7 (w.heap.size+1) #[.int .i64 d1,.int .i64 d2,.string st,.int .i64 ix,.int .i64 sz,.int .i64 dy,.int .i64 sr,.int .i64 ct,.int .i64 pl,.string rt,.slice a1 n1 m1,.int .i64 0,.slice none 0 0,.slice none 0 0]):=dx.cell 9 (.string rt);have Ob:=lh (HOB.out _ _ _ _ dx.but.size (HOB.out _ _ _ _ Da.out.but.size Oa.out (HgB.out _ _ b)) (HbB.out Vb 9 (.string rt)))
      clear r b dx)
    |(go_at_call 218;(with_reducible refine (HR8.out g A1 c1 _ HC1.out Db.out.rd).mono ?_);rintro e Vc ⟨rfl,r,b⟩
      clear y z;have dx:=Db.out.read r b;have y:=cell_of_row Vc (w.heap.size+1) 11 _ _ _ dx.pc;have z:=frozen_of_row Vc (w.heap.size+1) 11 _ _ dx.pc;simp at y;have Dc:Hid (DT tR V5 (Vc.setCell ⟨w.heap.size+1,11,none⟩ (.int .i64 si)) g A1 n c1 bs s8 (w.heap.size+1) #[.int .i64 d1,.int .i64 d2,.string st,.int .i64 ix,.int .i64 sz,.int .i64 dy,.int .i64 sr,.int .i64 ct,.int .i64 pl,.string rt,.slice a1 n1 m1,.int .i64 si,.slice none 0 0,.slice none 0 0]):=dx.cell 11 (.int .i64 si);have Oc:=lh (HOB.out _ _ _ _ dx.but.size (HOB.out _ _ _ _ Db.out.but.size Ob.out (HgB.out _ _ b)) (HbB.out Vc 11 (.int .i64 si)))
      clear r b dx)
    |(go_at_call 219;(with_reducible refine (HR9.out g A1 c1 _ HC1.out Dc.out.rd).mono ?_);rintro e Vd ⟨a2,n2,m2,rfl,ho,r,b⟩
      clear y z;have dx:=Dc.out.read r b;have y:=cell_of_row Vd (w.heap.size+1) 12 _ _ _ dx.pc;have z:=frozen_of_row Vd (w.heap.size+1) 12 _ _ dx.pc;simp at y;have Dd:Hid (DT tR V5 (Vd.setCell ⟨w.heap.size+1,12,none⟩ (.slice a2 n2 m2)) g A1 n c1 bs s9 (w.heap.size+1) #[.int .i64 d1,.int .i64 d2,.string st,.int .i64 ix,.int .i64 sz,.int .i64 dy,.int .i64 sr,.int .i64 ct,.int .i64 pl,.string rt,.slice a1 n1 m1,.int .i64 si,.slice a2 n2 m2,.slice none 0 0]):=dx.cell 12 (.slice a2 n2 m2);have Od:=lh (HOB.out _ _ _ _ dx.but.size (HOB.out _ _ _ _ Dc.out.but.size Oc.out (HgB.out _ _ b)) (HbB.out Vd 12 (.slice a2 n2 m2)));have Qd:=lh (HOB.out _ _ _ _ dx.but.size (ho.lowG Dc.out.but.size) (HbB.out Vd 12 (.slice a2 n2 m2)))
      clear r b dx ho)
    |(go_at_call 219;(with_reducible refine (HRA.out g A1 c1 _ HC1.out Dd.out.rd).mono ?_);rintro e Ve ⟨a3,n3,m3,rfl,ho,r,b⟩
      clear y z;have dx:=Dd.out.read r b;have y:=cell_of_row Ve (w.heap.size+1) 13 _ _ _ dx.pc;have z:=frozen_of_row Ve (w.heap.size+1) 13 _ _ dx.pc;simp at y;have De:Hid (DT tR V5 (Ve.setCell ⟨w.heap.size+1,13,none⟩ (.slice a3 n3 m3)) g A1 n c1 bs sA (w.heap.size+1) (cR ⟨d1,d2,st,ix,sz,dy,sr,ct,pl,rt,⟨a1,n1,m1⟩,si,⟨a2,n2,m2⟩,⟨a3,n3,m3⟩⟩)):=dx.cell 13 (.slice a3 n3 m3);have Oe:=lh (HOB.out _ _ _ _ dx.but.size (HOB.out _ _ _ _ Dd.out.but.size Od.out (HgB.out _ _ b)) (HbB.out Ve 13 (.slice a3 n3 m3)));have Qe:=lh (HOB.out _ _ _ _ dx.but.size (HOB.out _ _ _ _ Dd.out.but.size Qd.out (HgB.out _ _ b)) (HbB.out Ve 13 (.slice a3 n3 m3)));have Se:=lh (HOB.out _ _ _ _ dx.but.size (ho.lowG Dd.out.but.size) (HbB.out Ve 13 (.slice a3 n3 m3)))
      clear r b dx ho))
   clear y z Da Db Dc Dd Oa Ob Oc Od Qd D HR5 HR7 HR8 HR9 HRA HOB HgB HbB;obtain ⟨VE,hVE⟩:∃V:World,V=Ve.setCell ⟨w.heap.size+1,13,none⟩ (.slice a3 n3 m3):=⟨_,rfl⟩
   rw [←hVE] at De Oe Qe Se ⊢;clear hVE;obtain ⟨r,hr⟩:∃r:Rcp,r=⟨d1,d2,st,ix,sz,dy,sr,ct,pl,rt,⟨a1,n1,m1⟩,si,⟨a2,n2,m2⟩,⟨a3,n3,m3⟩⟩:=⟨_,rfl⟩
   have HPI:Hid (RcIn VE VE.heap.size r ps qs rs):=by
    show RcIn _ _ _ _ _ _
    rw [hr];exact ⟨Oe.out.slH,Qe.out.slH,Se.out.slH⟩
   have HVR:Hid (vaB ⟨d1,d2,st,ix,sz,dy,sr,ct,pl,rt,⟨none,0,0⟩,si,⟨none,0,0⟩,⟨none,0,0⟩⟩ ps qs rs=vaB r ps qs rs):=by show _=_;rw [hr];rfl
   rw [HVR.out] at HOK;rw [←hr] at De;obtain ⟨⟨pv,hrd⟩,hsl⟩:=De.out.rd;have HEN:=lh (ydF g A1 n c1 _ pv _ VE hrd);have HBV:Hid (Below w.heap.size w VE):=HBd.out.trans (De.out.but.below HBd.out.size (fun i hi=>by have h2:=HGW.out;rcases hi with rfl |rfl<;>omega));have HZE:Hid (VE.heap[w.heap.size]? =some (.cells zR tR (0,0))):=(De.out.but.block _ (lt_of_block HZ5.out) (by have h2:=HGW.out;omega)).trans HZ5.out;have HPC:=lh De.out.pc;obtain ⟨p6,e6⟩:=sA;dsimp only at HEN HOK;obtain ⟨z,hz⟩:∃z:Int,(if e6=0 then (if p6 < n then 3 else 0) else e6)=z:=⟨_,rfl⟩
   rw [hz] at HEN;have HRE:=lh hr;have HVA:Hid (∀V,Below VE.heap.size VE V→Calls Tryz.prog 87 #[.agg (cR r)] V fun e w'=>e= .returned (.bool (vaB r ps qs rs))∧Below V.heap.size V w'):=fun V hb=>valid_any r ps qs rs VE.heap.size V (HPI.out.up hb nl) hb.size
   clear De hrd hsl hr HPG HPT HZ5 HBd HD5
   by_cases hz0:z=0
   ·subst hz0
    have hd6:decide (e6=0∧¬p6 < n)=true:=by
     by_cases h1:e6=0
     ·rw [if_pos h1] at hz
      by_cases h2:p6 < n
      ·rw [if_pos h2] at hz;cases hz
      ·exact decide_eq_true ⟨h1,h2⟩
     ·rw [if_neg h1] at hz;exact absurd hz h1
    rw [hd6,Bool.true_and] at HOK;clear hz hd6
    cases hsh:vaB r ps qs rs
    ·rw [hsh] at HOK HVA
     clear hsh HVR
     go_wp2_with (first
      |(go_at_call 142;(with_reducible refine HEN.out.mono ?_);rintro e w8 ⟨rfl,b8⟩
        have B8:=lh b8;have p8:=(b8.block _ (lt_of_block HPC.out)).trans HPC.out;obtain ⟨k0,k1,k2,k3,k4,k5,k6,k7,k8,k9,k10,k11,k12,k13⟩:=ybe p8;have Z8:=lh ((b8.block _ (lt_of_block HZE.out)).trans HZE.out)
        clear b8 p8)
      |(go_at_call 87;(with_reducible refine (HVA.out _ B8.out).mono ?_);rintro e w9 ⟨rfl,b9⟩
        clear k0 k1 k2 k3 k4 k5 k6 k7 k8 k9 k10 k11 k12 k13;have Z9:=lh ((b9.block _ (lt_of_block Z8.out)).trans Z8.out);have B9:Hid (Below VE.heap.size VE w9):=B8.out.trans (b9.mono B8.out.size)
        clear b9)
      |((with_reducible refine yaZ (o:=⟨none,_,_,_,_,_⟩) rfl 35 (.tmp 2) (.tmp 70) rfl w.heap.size 35 _ _ rfl rfl Z9.out zR_size rfl zR_one ?_);intro W7 HG7 HB7))
     refine bodyPost_ret (ybq rfl _ _ _ _ _ _ _ rfl HG7.out Tryz.underlying35 rfl zR_size) rfl (.inr ⟨HOK.out,rfl,?_⟩);have h1:=HBV.out.trans (B9.out.mono HBV.out.size);exact h1.trans (HB7.out.below h1.size (fun i hi=>by subst hi;omega))
    ·rw [hsh] at HOK HVA
     clear hsh HVR
     go_wp2_with (first
      |(go_at_call 142;(with_reducible refine HEN.out.mono ?_);rintro e w8 ⟨rfl,b8⟩
        have B8:=lh b8;have p8:=(b8.block _ (lt_of_block HPC.out)).trans HPC.out;obtain ⟨k0,k1,k2,k3,k4,k5,k6,k7,k8,k9,k10,k11,k12,k13⟩:=ybe p8;have Z8:=lh ((b8.block _ (lt_of_block HZE.out)).trans HZE.out);have P8:=lh p8
        clear b8 p8)
      |(go_at_call 87;(with_reducible refine (HVA.out _ B8.out).mono ?_);rintro e w9 ⟨rfl,b9⟩
        clear k0 k1 k2 k3 k4 k5 k6 k7 k8 k9 k10 k11 k12 k13;have p9:=(b9.block _ (lt_of_block P8.out)).trans P8.out;obtain ⟨k0,k1,k2,k3,k4,k5,k6,k7,k8,k9,k10,k11,k12,k13⟩:=ybe p9;have Z9:=lh ((b9.block _ (lt_of_block Z8.out)).trans Z8.out);have B9:Hid (Below VE.heap.size VE w9):=B8.out.trans (b9.mono B8.out.size)
        clear b9 p9)
      |((with_reducible refine yaZ (o:=⟨none,_,_,_,_,_⟩) rfl 35 (.tmp 2) (.tmp 71) rfl w.heap.size 35 _ _ rfl rfl Z9.out (cR_size r) rfl (cR_one r) ?_);intro W7 HG7 HB7))
     refine bodyPost_ret (ybq rfl _ _ _ _ _ _ _ rfl HG7.out Tryz.underlying35 rfl (cR_size r)) rfl (.inl ⟨HOK.out,⟨a1,n1,m1⟩,⟨a2,n2,m2⟩,⟨a3,n3,m3⟩,by rw [←HRE.out];rfl,?_,?_⟩)
     ·have hne:∀(v:Value) (xs:List ByteArray),Own fT 9 VE V5.heap.size v xs→Own fT 9 W7 V5.heap.size v xs:=fun v xs ho=>(ho.on B9.out).butG HB7.out (fun k hk e=>by
       have h1:=(World.ownsRow.lt ho k hk).1;have h2:=HVW.out
       omega)
      exact ⟨(hne _ _ Oe.out).lowG (Nat.le_of_lt HVW.out),(hne _ _ Qe.out).lowG (Nat.le_of_lt HVW.out),(hne _ _ Se.out).lowG (Nat.le_of_lt HVW.out)⟩
     ·have h1:=HBV.out.trans (B9.out.mono HBV.out.size)
      exact h1.trans (HB7.out.below h1.size (fun i hi=>by subst hi;omega))
   ·have hd6:decide (e6=0∧¬p6 < n)=false:=by
     by_cases h1:e6=0
     ·rw [if_pos h1] at hz
      by_cases h2:p6 < n
      ·exact decide_eq_false (fun h=>h.2 h2)
      ·rw [if_neg h2] at hz;exact absurd hz.symm hz0
     ·exact decide_eq_false (fun h=>h1 h.1)
    rw [hd6,Bool.false_and] at HOK;have hzb:(z != 0)=true:=by simp [hz0]
    clear hz hd6 hz0 HVR HPI HVA
    go_wp2_with (first
     |(go_at_call 142;(with_reducible refine HEN.out.mono ?_);rintro e w8 ⟨rfl,b8⟩
       have B8:=lh b8;have Z8:=lh ((b8.block _ (lt_of_block HZE.out)).trans HZE.out)
       clear b8)
     |((with_reducible refine yaZ (o:=⟨none,_,_,_,_,_⟩) rfl 35 (.tmp 2) (.tmp 70) rfl w.heap.size 35 _ _ rfl rfl Z8.out zR_size rfl zR_one ?_);intro W7 HG7 HB7))
    refine bodyPost_ret (ybq rfl _ _ _ _ _ _ _ rfl HG7.out Tryz.underlying35 rfl zR_size) rfl (.inr ⟨HOK.out,rfl,?_⟩);have h1:=HBV.out.trans (B8.out.mono HBV.out.size);exact h1.trans (HB7.out.below h1.size (fun i hi=>by subst hi;omega))
