/- The leaf of a receipt, the digest of a batch. The reference of receipts: number, sum, list, signed. The reference's leaf of a receipt, digest of a batch. -/
import Derived.Test.YtpdledjgbgalcaaGreatDoorPk
import Derived.Test.YtpdledjgbgalcaaGreatDoorPp
import Derived.Test.YtpdledjgbgalcaaGreatDoorMr
namespace Go.Proofs.YtpdledjgbgalcaaGreatDoor
set_option maxRecDepth 100000
set_option maxHeartbeats 8000000
open Go.RowKit Go.Lib
set_option linter.unusedVariables false
set_option linter.unusedSimpArgs false
def encS (r:Rcp):List Int:=encSg r.hd.toNat r.vt.toNat r.s r.ix.toNat r.sz.toNat r.dy.toNat r.sr.toNat
theorem yck {a b:List Int} (ha:Byt a) (hb:Byt b):Byt (a++b):=fun x hx=>by
 rcases List.mem_append.1 hx with h |h
 ·exact ha x h
 ·exact hb x h
theorem encSg_byt (hd vt ix sz dy sr:Nat) (s:ByteArray):Byt (encSg hd vt s ix sz dy sr):=
 yck (ya7 hd) (yck (ya7 vt) (yck (ybr s) (yck (ya7 ix) (yck (ya7 sz) (yck (ya7 dy) (ya7 sr))))))
theorem encSg_pos (hd vt ix sz dy sr:Nat) (s:ByteArray) (hs:s.size=32):0 < (encSg hd vt s ix sz dy sr).length:=by
 unfold encSg;simp only [List.length_append,ya9,hs];omega
theorem leaf_any (r:Rcp) (ps qs rs:List ByteArray) (w:World) (hG:Glob w) (hv:vaB r ps qs rs=true):
 Calls Tryz.prog 89 #[.agg (cR r)] w fun e w'=>e= .returned (.string (leafS (encS r)))∧Below w.heap.size w w':=by
 obtain ⟨W1,hW1⟩:∃W1:World,W1=w.alloc (.cells (cR r) tR):=⟨_,rfl⟩
 have hb1:Below w.heap.size w W1:=by rw [hW1];exact bl
 have hs1:W1.heap.size=w.heap.size+1:=by rw [hW1];simp
 have hc1:W1.heap[w.heap.size]? =some (.cells (cR r) tR (0,0)):=by rw [hW1];exact heap_alloc_new w _
 have HWE:=lh hW1;obtain ⟨y0,y1,y2,y3,y4,y5,y6,_⟩:=ybD hv;obtain ⟨hd,vt,s,ix,sz,dy,sr,ct,pl,rt,pa,si,pb,pc⟩:=r;dsimp only at y0 y1 y2 y3 y4 y5 y6;obtain ⟨hd,rfl⟩:∃k:Nat,hd=k:=⟨hd.toNat,by omega⟩
 obtain ⟨vt,rfl⟩:∃k:Nat,vt=k:=⟨vt.toNat,by omega⟩
 obtain ⟨ix,rfl⟩:∃k:Nat,ix=k:=⟨ix.toNat,by omega⟩
 obtain ⟨sz,rfl⟩:∃k:Nat,sz=k:=⟨sz.toNat,by omega⟩
 obtain ⟨dy,rfl⟩:∃k:Nat,dy=k:=⟨dy.toNat,by omega⟩
 obtain ⟨sr,rfl⟩:∃k:Nat,sr=k:=⟨sr.toNat,by omega⟩
 obtain ⟨W3,hW3⟩:∃W3:World,W3=W1.alloc (.cells #[.slice none 0 0,.int .i64 0] 217):=⟨_,rfl⟩
 have h23:Below W1.heap.size W1 W3:=by rw [hW3];exact bl
 have h03:Below w.heap.size w W3:=hb1.trans (h23.mono hb1.size);have hc3:W3.heap[w.heap.size]? =some (.cells (cR ⟨hd,vt,s,ix,sz,dy,sr,ct,pl,rt,pa,si,pb,pc⟩) tR (0,0)):=(h23.block _ om).trans hc1;have h0:Wc W1.heap.size (W1.heap.size+1) (.slice none 0 0) W3 [] W3:=by rw [hW3];exact Wc.start (Wr.new W1)
 have hst:=h0.step (P:=Tryz.prog) (fun v' hv' _=>wsigned_any W1.heap.size (W1.heap.size+1) v' _ hd vt ix sz dy sr s rt ct pl si pa pb pc W3 hv' y2 om sI);have HC0:=lh hst;have HR3:=lh (ycH hc3);have HW3:=lh hW3;have HS1:=lh hs1;have hsl:=yc7 hd vt ix sz dy sr s y2;have hsp:=encSg_pos hd vt ix sz dy sr s y2
 have HBW:Hid (∀bs V,Wc W1.heap.size (W1.heap.size+1) (.slice none 0 0) W3 bs V→Below w.heap.size w V):=fun bs V h=>by
  obtain ⟨v1,_,hb,_⟩:=h
  exact h03.trans (hb.below h03.size (fun i hi=>by
   rcases hi with rfl |hi
   ·omega
   ·cases hi))
 have HLF:Hid (∀(V:World) A' n' c',Below w.heap.size w V→Sl fB V V.heap.size A' n' (encSg hd vt s ix sz dy sr)→n'≤c'→Calls Tryz.prog 151 #[.slice A' n' c'] V fun e w'=>e= .returned (.string (leafS (encS ⟨hd,vt,s,ix,sz,dy,sr,ct,pl,rt,pa,si,pb,pc⟩)))∧Below V.heap.size V w'):=fun V A' n' c' hb hs hc=>
  ycU A' n' c' V.heap.size _ V (hG.on hb) hs hc nl (by have:=hs.1;omega) (encSg_byt _ _ _ _ _ _ _) (own_hA hs (by have:=hs.1;omega))
 have HDN:Hid (∀V,Wc W1.heap.size (W1.heap.size+1) (.slice none 0 0) W3 ([]++encSg hd vt s ix sz dy sr) V→Calls Tryz.prog 78 #[.pointer (some ⟨W1.heap.size,0,none⟩)] V (Slc2 fB ([]++encSg hd vt s ix sz dy sr) 0 V)):=fun V h=>by
  obtain ⟨v9,hw9,_,_⟩:=h;exact ycP _ _ v9 _ V hw9 (by rw [List.nil_append];omega)
 clear hv y0 y1 y2 y3 y4 y5 y6 hW1 hb1 hs1 hc1 hW3 h23 h03 hc3 h0 hst hsl hsp hG;go_enter Tryz.func89,Tryz.ntmps89
 go_upto_region 1 with fail
 rw [←HWE.out]
 go_wp2_with fail
 refine (ybR W1).mono ?_;rintro e V1 ⟨rfl,hV1⟩;rw [←HW3.out] at hV1;subst hV1
 go_wp2_with (first
  |(with_reducible refine wpList_load_mid (op:=⟨some 8,_,_,_,_,_⟩) rfl tR (.tmp 1) rfl w.heap.size 0 rfl (cR ⟨hd,vt,s,ix,sz,dy,sr,ct,pl,rt,pa,si,pb,pc⟩).toList _ HR3.out Tryz.underlying35 rfl (ycl ⟨hd,vt,s,ix,sz,dy,sr,ct,pl,rt,pa,si,pb,pc⟩) ?_)
  |(go_at_call 150;(with_reducible refine HC0.out.mono ?_)))
 rintro e V2 ⟨rfl,h2⟩;have HD:=lh (HDN.out V2 h2);have HB2:=lh (HBW.out _ V2 h2);clear h2
 go_wp2_with fail
 refine HD.out.mono ?_;rintro e VX ⟨A9,n9,c9,rfl,q1,q2,q3⟩;have HB3:=lh (HB2.out.trans (q3.mono HB2.out.size));have HL9:=lh (HLF.out VX A9 n9 c9 HB3.out q2 q1);clear q1 q2 q3
 go_wp2_with (go_at_call 151;(with_reducible refine HL9.out.mono ?_);rintro e w9 ⟨rfl,hb9⟩;(have HB9:=lh (HB3.out.trans (hb9.mono HB3.out.size)));clear hb9)
 go_ret;exact ⟨rfl,HB9.out⟩
def encB (rt:ByteArray) (ct:Nat):List Int:=((enc 8++[114,101,99,101,105,112,116,115])++sB rt)++enc ct
theorem encB_len (rt:ByteArray) (ct:Nat) (h:rt.size=32):(encB rt ct).length≤60∧32≤(encB rt ct).length:=by
 unfold encB;simp only [List.length_append,ya9,h];have h1:=ya1 8;have h2:=ya1 ct;simp only [List.length_cons,List.length_nil];omega
theorem encB_byt (rt:ByteArray) (ct:Nat):Byt (encB rt ct):=
 yck (yck (yck (ya7 8) (by
    intro z hz
    (rcases List.mem_cons.1 hz with rfl |hz; ·omega);(rcases List.mem_cons.1 hz with rfl |hz; ·omega);(rcases List.mem_cons.1 hz with rfl |hz; ·omega);(rcases List.mem_cons.1 hz with rfl |hz; ·omega);(rcases List.mem_cons.1 hz with rfl |hz; ·omega);(rcases List.mem_cons.1 hz with rfl |hz; ·omega);(rcases List.mem_cons.1 hz with rfl |hz; ·omega);(rcases List.mem_cons.1 hz with rfl |hz; ·omega);cases hz)) (ybr rt)) (ya7 ct)
def btS (rt:ByteArray) (ct:Nat):ByteArray:=baOf (shaB (encB rt ct))
theorem btS_size (rt:ByteArray) (ct:Nat):(btS rt ct).size=32:=by unfold btS;rw [←ya9,ybi (ybN _),ybA]
theorem batch_any (rt:ByteArray) (ct:Nat) (w:World) (hG:Glob w) (hrt:rt.size=32) (hct:ct≤256):
 Calls Tryz.prog 91 #[.string rt,.int .i64 ct] w fun e w'=>e= .returned (.string (btS rt ct))∧Below w.heap.size w w':=by
 obtain ⟨W3,hW3⟩:∃W3:World,W3=w.alloc (.cells #[.slice none 0 0,.int .i64 0] 217):=⟨_,rfl⟩
 have h03:Below w.heap.size w W3:=by rw [hW3];exact bl
 have h0:Wc w.heap.size (w.heap.size+1) (.slice none 0 0) W3 [] W3:=by rw [hW3];exact Wc.start (Wr.new w)
 have HW3:=lh hW3
 have HBW:Hid (∀bs V,Wc w.heap.size (w.heap.size+1) (.slice none 0 0) W3 bs V→Below w.heap.size w V):=fun bs V h=>by
  obtain ⟨v1,_,hb,_⟩:=h
  exact h03.trans (hb.below h03.size (fun i hi=>by
   rcases hi with rfl |hi
   ·omega
   ·cases hi))
 have H1:=lh (h0.step (P:=Tryz.prog) (fun v' hv' _=>wtext_any w.heap.size (w.heap.size+1) v' _ ⟨#[114,101,99,101,105,112,116,115]⟩ W3 hv' de sI));have hl8:=ya1 8;have hlc:=ya1 ct
 have HST2:Hid (∀V,Wc w.heap.size (w.heap.size+1) (.slice none 0 0) W3 ([]++(enc 8++[114,101,99,101,105,112,116,115])) V→Calls Tryz.prog 77 #[.pointer (some ⟨w.heap.size,0,none⟩),.string rt] V fun e w'=>e= .returned (.tuple #[])∧Wc w.heap.size (w.heap.size+1) (.slice none 0 0) W3 (([]++(enc 8++[114,101,99,101,105,112,116,115]))++sB rt) w'):=fun V h=>
  h.step (P:=Tryz.prog) (fun v' hv' _=>ydA w.heap.size (w.heap.size+1) v' _ rt V hv' hrt (by simp only [List.length_append,List.length_nil,List.length_cons];omega))
 have HST3:Hid (∀V,Wc w.heap.size (w.heap.size+1) (.slice none 0 0) W3 (([]++(enc 8++[114,101,99,101,105,112,116,115]))++sB rt) V→Calls Tryz.prog 73 #[.pointer (some ⟨w.heap.size,0,none⟩),.int .u64 ct] V fun e w'=>e= .returned (.tuple #[])∧Wc w.heap.size (w.heap.size+1) (.slice none 0 0) W3 ((([]++(enc 8++[114,101,99,101,105,112,116,115]))++sB rt)++enc ct) w'):=fun V h=>
  h.step (P:=Tryz.prog) (fun v' hv' _=>ybp w.heap.size (w.heap.size+1) v' _ ct V hv' om (by simp only [List.length_append,List.length_nil,List.length_cons,ya9,hrt];omega))
 have HDN:Hid (∀V,Wc w.heap.size (w.heap.size+1) (.slice none 0 0) W3 ((([]++(enc 8++[114,101,99,101,105,112,116,115]))++sB rt)++enc ct) V→Calls Tryz.prog 78 #[.pointer (some ⟨w.heap.size,0,none⟩)] V (Slc2 fB (encB rt ct) 0 V)):=fun V h=>by
  obtain ⟨v9,hw9,_,_⟩:=h;have h9:Wr V w.heap.size (w.heap.size+1) v9 (encB rt ct):=hw9;exact ycP _ _ v9 _ V h9 (by have:=encB_len rt ct hrt;omega)
 have HSU:Hid (∀(V:World) A' n' c',Below w.heap.size w V→Sl fB V V.heap.size A' n' (encB rt ct)→n'≤c'→Calls Tryz.prog 154 #[.slice A' n' c'] V fun e w'=>e= .returned (.string (btS rt ct))∧Below V.heap.size V w'):=fun V A' n' c' hb hs hc=>by
  have hl:=encB_len rt ct hrt;exact ssum_any A' n' c' V.heap.size _ V (hG.on hb) hs hc nl (by have:=hs.1;omega) (encB_byt rt ct) (own_hA hs (by have:=hs.1;omega))
 have hwc:(ct:Int) % 18446744073709551616=ct:=by omega
 clear hG hW3 h03 h0 hl8 hlc hrt;go_enter Tryz.func91,Tryz.ntmps91
 go_wp2_with fail
 refine (ybR w).mono ?_;rintro e V1 ⟨rfl,hV1⟩;rw [←HW3.out] at hV1;subst hV1
 go_wp2_with fail
 refine H1.out.mono ?_;rintro e V2 ⟨rfl,h2⟩;have HD2:=lh (HST2.out V2 h2);clear h2
 go_wp2_with fail
 refine HD2.out.mono ?_;rintro e V3 ⟨rfl,h3⟩;have HD3:=lh (HST3.out V3 h3);clear h3
 go_wp2_with fail
 refine HD3.out.mono ?_;rintro e V4 ⟨rfl,h4⟩;have HD4:=lh (HDN.out V4 h4);have HB4:=lh (HBW.out _ V4 h4);clear h4
 go_wp2_with fail
 refine HD4.out.mono ?_;rintro e VX ⟨A9,n9,c9,rfl,q1,q2,q3⟩;have HB3:=lh (HB4.out.trans (q3.mono HB4.out.size));have HL9:=lh (HSU.out VX A9 n9 c9 HB3.out q2 q1);clear q1 q2 q3
 go_wp2_with (go_at_call 154;(with_reducible refine HL9.out.mono ?_);rintro e w9 ⟨rfl,hb9⟩;(have HB9:=lh (HB3.out.trans (hb9.mono HB3.out.size)));clear hb9)
 go_ret;exact ⟨rfl,HB9.out⟩
theorem ybl (n:Int) (w:World) (h0:0≤n) (h1:n≤9223372036854775807):
 Calls Tryz.prog 164 #[.int .i64 n] w fun e w'=>e= .returned (aVl (vN n))∧Below w.heap.size w w':=by
 have hw:n % 18446744073709551616=n:=by omega
 go_enter Tryz.func164,Tryz.ntmps164
 go_wp2_with (refine ya3 (o:=⟨none,.store 188 (.tmp 2) (.tmp 5),_,_,_,_⟩) rfl 188 (.tmp 2) (.tmp 5) rfl 188 _ (fVl (vN n)).toArray rfl rfl Tryz.sizeVl rfl (fVl_all _) ?_)
 exact bodyPost_ret (results_cell_row rfl _ _ _ _ (fVl (vN n)).toArray _ _ rfl (heap_alloc_new w _) Tryz.underlying188 rfl Tryz.sizeVl) rfl ⟨rfl,bl⟩
theorem yc9 (s:ByteArray) (w:World):
 Calls Tryz.prog 163 #[.string s] w fun e w'=>e= .returned (aVl (vS s))∧Below w.heap.size w w':=by
 go_enter Tryz.func163,Tryz.ntmps163
 go_wp2_with (refine ya3 (o:=⟨none,.store 188 (.tmp 2) (.tmp 4),_,_,_,_⟩) rfl 188 (.tmp 2) (.tmp 4) rfl 188 _ (fVl (vS s)).toArray rfl rfl Tryz.sizeVl rfl (fVl_all _) ?_)
 exact bodyPost_ret (results_cell_row rfl _ _ _ _ (fVl (vS s)).toArray _ _ rfl (heap_alloc_new w _) Tryz.underlying188 rfl Tryz.sizeVl) rfl ⟨rfl,bl⟩
def vlL (ys:List ByteArray):List Vl:=vC ys.length::ys.map vS
def vlG (hd vt:Nat) (s:ByteArray) (ix sz dy sr:Nat):List Vl:=[vN hd,vN vt,vS s,vN ix,vN sz,vN dy,vN sr]
theorem flat_L (ys:List ByteArray):(vlL ys).flatMap encR=encLs ys:=by
 unfold vlL encLs;rw [List.flatMap_cons,encR_C,List.flatMap_map];rfl
theorem flat_G (hd vt:Nat) (s:ByteArray) (ix sz dy sr:Nat):(vlG hd vt s ix sz dy sr).flatMap encR=encSg hd vt s ix sz dy sr:=by
 unfold vlG encSg;simp only [List.flatMap_cons,List.flatMap_nil,encR_N,encR_S,List.append_nil,Int.toNat_natCast]
theorem slist_any (A:Option Addr) (n c B:Nat) (ys:List ByteArray) (w:World) (hx:Sl fT w B A n ys) (hB:B≤w.heap.size) (hn:n≤1000):
 Calls Tryz.prog 189 #[.slice A n c] w fun e w'=>∃u,e= .returned u∧VA w w' u (vlL ys):=by
 have HX:=lh hx;have HXN:Hid (ys.length=n):=hx.1;have HBB:=lh hB;have HVA0:Hid (VA w _ _ [vC n]):=VA.start (Below.refl _ w) (cs:=#[.int .i64 7,.int .u64 0,.int .i64 n,.bool false,.string ⟨#[]⟩,.int .i64 0]) (m:=1) rfl rfl de;clear hx hB;go_enter Tryz.func189,Tryz.ntmps189
 go_wp2_with fail
 go_loopw [3,4] (fun u i wr=>∃(k:Nat),k≤n∧i= .int .i64 k∧Hid (VA w wr u ([vC n]++(ys.take k).map vS))) (fun _ i _=>n - (intOf i).toNat)
 case atStart=>exact ⟨0,by omega,rfl,by show VA _ _ _ _;rw [List.take_zero,List.map_nil,List.append_nil];exact HVA0.out⟩
 case round=>
  obtain ⟨k,hk,rfl,HVA⟩:=hrel
  by_cases hlt:k < n
  ·obtain ⟨b,off,x,hax,_,hxk,hxc⟩:=(HX.out.up HVA.out.2 HBB.out).2.at_ (k:=k) yaR
   subst hax;have hkI:(k:Int) < (n:Int):=by omega
   have HTK:Hid (([vC n]++(ys.take k).map vS)++[vS x]=[vC n]++(ys.take (k+1)).map vS):=by show _=_;rw [yba hxk,List.map_append,List.append_assoc];rfl
   have HL:Hid (([vC n]++(ys.take k).map vS).length+[vS x].length≤200000):=by show _≤_;simp only [List.length_append,List.length_map,List.length_take,List.length_cons,List.length_nil];omega
   clear hxk
   go_wp2_with fail
   refine (yc9 x _).mono ?_;rintro e W6 ⟨rfl,b6⟩;have HVA:=lh (HVA.out.on b6);clear b6 hxc
   go_wp2_with (at_builtin;(refine yci (o:=⟨some 22,_,_,_,_,_⟩) rfl (.tmp 15) (.tmp 21) rfl (HVA.out.alloc _) (by rfl) [vS x] ⟨_,_,1,1,(by rfl),ydK rfl rfl⟩ HL.out ?_);intro u1 W7 HVA)
   rw [HTK.out] at HVA
   go_roundw
   case rel=>exact ⟨k+1,by omega,by go_num,HVA⟩
   case measure=>simp [intOf];omega
  ·obtain rfl:k=n:=by omega
   have hV:=HVA.out;rw [List.take_of_length_le yaM] at hV;have e:[vC k]++ys.map vS=vlL ys:=by unfold vlL;rw [HXN.out];rfl
   rw [e] at hV;have HV:=lh hV;clear hV HVA HVA0;go_wp2;go_ret;exact ⟨_,rfl,HV.out⟩
theorem ssigned_any (hd vt ix sz dy sr:Nat) (s rt:ByteArray) (ct pl si:Int) (pa pb pc:Hd) (w:World) (hN:hd≤1099511627776∧vt≤1099511627776∧ix≤1099511627776∧sz≤1099511627776∧dy≤1099511627776∧sr≤1099511627776):
 Calls Tryz.prog 188 #[.agg #[.int .i64 (hd:Int),.int .i64 (vt:Int),.string s,.int .i64 (ix:Int),.int .i64 (sz:Int),.int .i64 (dy:Int),.int .i64 (sr:Int),.int .i64 ct,.int .i64 pl,.string rt,.slice pa.a pa.n pa.c,.int .i64 si,.slice pb.a pb.n pb.c,.slice pc.a pc.n pc.c]] w fun e w'=>∃u,e= .returned u∧VA w w' u (vlG hd vt s ix sz dy sr):=by
 obtain ⟨W1,hW1⟩:∃W1:World,W1=w.alloc (.cells #[.int .i64 (hd:Int),.int .i64 (vt:Int),.string s,.int .i64 (ix:Int),.int .i64 (sz:Int),.int .i64 (dy:Int),.int .i64 (sr:Int),.int .i64 ct,.int .i64 pl,.string rt,.slice pa.a pa.n pa.c,.int .i64 si,.slice pb.a pb.n pb.c,.slice pc.a pc.n pc.c] 35):=⟨_,rfl⟩
 have hb1:Below w.heap.size w W1:=by rw [hW1];exact bl
 have hs1:W1.heap.size=w.heap.size+1:=by rw [hW1];simp
 have hcp:W1.heap[w.heap.size]? =some (.cells #[.int .i64 (hd:Int),.int .i64 (vt:Int),.string s,.int .i64 (ix:Int),.int .i64 (sz:Int),.int .i64 (dy:Int),.int .i64 (sr:Int),.int .i64 ct,.int .i64 pl,.string rt,.slice pa.a pa.n pa.c,.int .i64 si,.slice pb.a pb.n pb.c,.slice pc.a pc.n pc.c] 35 (0,0)):=by rw [hW1];exact heap_alloc_new w _
 have HCB:Hid (∀V,Below W1.heap.size W1 V→V.cell? ⟨w.heap.size,0,none⟩=some (.int .i64 (hd:Int))∧V.cell? ⟨w.heap.size,1,none⟩=some (.int .i64 (vt:Int))∧V.cell? ⟨w.heap.size,2,none⟩=some (.string s)∧V.cell? ⟨w.heap.size,3,none⟩=some (.int .i64 (ix:Int))∧V.cell? ⟨w.heap.size,4,none⟩=some (.int .i64 (sz:Int))∧V.cell? ⟨w.heap.size,5,none⟩=some (.int .i64 (dy:Int))∧V.cell? ⟨w.heap.size,6,none⟩=some (.int .i64 (sr:Int))):=fun V hb=>by
  have h:=(hb.block w.heap.size om).trans hcp;refine ⟨?_,?_,?_,?_,?_,?_,?_⟩<;>(rw [cell_of_row V _ _ _ _ _ h];rfl)
 obtain ⟨n0,n1,n2,n3,n4,n5⟩:=hN;have Hhd:Hid (0≤(hd:Int)∧(hd:Int)≤9223372036854775807):=by show _∧_;omega
 have Hvt:Hid (0≤(vt:Int)∧(vt:Int)≤9223372036854775807):=by show _∧_;omega
 have Hix:Hid (0≤(ix:Int)∧(ix:Int)≤9223372036854775807):=by show _∧_;omega
 have Hsz:Hid (0≤(sz:Int)∧(sz:Int)≤9223372036854775807):=by show _∧_;omega
 have Hdy:Hid (0≤(dy:Int)∧(dy:Int)≤9223372036854775807):=by show _∧_;omega
 have Hsr:Hid (0≤(sr:Int)∧(sr:Int)≤9223372036854775807):=by show _∧_;omega
 have HB1:=lh hb1;have HWE:=lh hW1;have HB:Hid (Below W1.heap.size W1 W1):=Below.refl _ _;clear hb1 hs1 hcp hW1 n0 n1 n2 n3 n4 n5;go_enter Tryz.func188,Tryz.ntmps188
 go_upto_region 1 with fail
 rw [←HWE.out];have hc0:=HCB.out _ HB.out
 go_region_held3 (fun w'=>w'.cell? ⟨w.heap.size,0,none⟩=some (.int .i64 (hd:Int))∧w'.cell? ⟨w.heap.size,1,none⟩=some (.int .i64 (vt:Int))∧w'.cell? ⟨w.heap.size,2,none⟩=some (.string s)∧w'.cell? ⟨w.heap.size,3,none⟩=some (.int .i64 (ix:Int))∧w'.cell? ⟨w.heap.size,4,none⟩=some (.int .i64 (sz:Int))∧w'.cell? ⟨w.heap.size,5,none⟩=some (.int .i64 (dy:Int))∧w'.cell? ⟨w.heap.size,6,none⟩=some (.int .i64 (sr:Int))) (first |exact HCB.out _ HB.out |go_keep) (first
  |(go_at_call 164;(with_reducible (refine (ybl (hd:Int) _ (Hhd.out).1 (Hhd.out).2).mono ?_));rintro e W6 ⟨rfl,b6⟩;(have HB:=lh (HB.out.trans (Below.mono (Below.trans yaG b6) HB.out.size)));clear b6)
  |(go_at_call 164;(with_reducible (refine (ybl (vt:Int) _ (Hvt.out).1 (Hvt.out).2).mono ?_));rintro e W6 ⟨rfl,b6⟩;(have HB:=lh (HB.out.trans (Below.mono (Below.trans yaG b6) HB.out.size)));clear b6)
  |(go_at_call 164;(with_reducible (refine (ybl (ix:Int) _ (Hix.out).1 (Hix.out).2).mono ?_));rintro e W6 ⟨rfl,b6⟩;(have HB:=lh (HB.out.trans (Below.mono (Below.trans yaG b6) HB.out.size)));clear b6)
  |(go_at_call 164;(with_reducible (refine (ybl (sz:Int) _ (Hsz.out).1 (Hsz.out).2).mono ?_));rintro e W6 ⟨rfl,b6⟩;(have HB:=lh (HB.out.trans (Below.mono (Below.trans yaG b6) HB.out.size)));clear b6)
  |(go_at_call 164;(with_reducible (refine (ybl (dy:Int) _ (Hdy.out).1 (Hdy.out).2).mono ?_));rintro e W6 ⟨rfl,b6⟩;(have HB:=lh (HB.out.trans (Below.mono (Below.trans yaG b6) HB.out.size)));clear b6)
  |(go_at_call 164;(with_reducible (refine (ybl (sr:Int) _ (Hsr.out).1 (Hsr.out).2).mono ?_));rintro e W6 ⟨rfl,b6⟩;(have HB:=lh (HB.out.trans (Below.mono (Below.trans yaG b6) HB.out.size)));clear b6)
  |(go_at_call 163;(with_reducible (refine (yc9 s _).mono ?_));rintro e W6 ⟨rfl,b6⟩;(have HB:=lh (HB.out.trans (Below.mono (Below.trans yaG b6) HB.out.size)));clear b6))
 go_wp2_with fail
 clear hc0;have HVA0:Hid (VA w _ _ (vlG hd vt s ix sz dy sr)):=VA.start (HB1.out.trans (HB.out.mono HB1.out.size)) (cs:=#[.int .i64 1,.int .u64 hd,.int .i64 0,.bool false,.string ⟨#[]⟩,.int .i64 0,.int .i64 1,.int .u64 vt,.int .i64 0,.bool false,.string ⟨#[]⟩,.int .i64 0,.int .i64 6,.int .u64 0,.int .i64 0,.bool false,.string s,.int .i64 0,.int .i64 1,.int .u64 ix,.int .i64 0,.bool false,.string ⟨#[]⟩,.int .i64 0,.int .i64 1,.int .u64 sz,.int .i64 0,.bool false,.string ⟨#[]⟩,.int .i64 0,.int .i64 1,.int .u64 dy,.int .i64 0,.bool false,.string ⟨#[]⟩,.int .i64 0,.int .i64 1,.int .u64 sr,.int .i64 0,.bool false,.string ⟨#[]⟩,.int .i64 0]) (m:=7) rfl rfl de;go_ret;exact ⟨_,rfl,HVA0.out⟩
theorem vlOk_G {hd vt ix sz dy sr:Nat} {s:ByteArray} (hs:s.size=32) (h:hd≤11∧vt≤11∧ix≤15∧sz≤65536∧dy≤999999∧sr≤1099511627776):∀x∈vlG hd vt s ix sz dy sr,VlOk x:=fun x hx=>by
 obtain ⟨h0,h1,h2,h3,h4,h5⟩:=h;unfold vlG at hx;simp only [List.mem_cons,List.not_mem_nil,or_false] at hx;rcases hx with rfl |rfl |rfl |rfl |rfl |rfl |rfl
 ·exact ybQ ⟨by omega,by omega⟩
 ·exact ybQ ⟨by omega,by omega⟩
 ·exact ydt hs
 ·exact ybQ ⟨by omega,by omega⟩
 ·exact ybQ ⟨by omega,by omega⟩
 ·exact ybQ ⟨by omega,by omega⟩
 ·exact ybQ ⟨by omega,by omega⟩
def vT (s:ByteArray):Vl:=⟨5,0,0,false,s,0⟩
abbrev rcT:ByteArray:=⟨#[114,101,99,101,105,112,116,115]⟩
theorem rbatch_any (rt:ByteArray) (ct:Nat) (w:World) (hrt:rt.size=32) (hct:ct≤256):
 Calls Tryz.prog 98 #[.string rt,.int .i64 ct] w fun e w'=>e= .returned (.string (btS rt ct))∧Below w.heap.size w w':=by
 have HS:=lh (fun W=>yc9 rt W);have HN:=lh (fun W=>ybl (ct:Int) W om om)
 have hfl:[vT rcT,vS rt,vN ct].flatMap encR=encB rt ct:=by
  show (enc 8++[114,101,99,101,105,112,116,115])++(sB rt++(enc ct++[]))=_
  unfold encB;rw [List.append_nil,List.append_assoc,List.append_assoc];simp only [List.append_assoc]
 have hok:∀x∈[vT rcT,vS rt,vN ct],VlOk x:=fun x hx=>by
  simp only [List.mem_cons,List.not_mem_nil,or_false] at hx;rcases hx with rfl |rfl |rfl
  ·exact .inr (.inr (.inl ⟨rfl,by decide⟩))
  ·exact ydt hrt
  ·exact ybQ ⟨by omega,by omega⟩
 have hln:=encB_len rt ct hrt
 have HEN:Hid (∀V A c,SlN fVl 6 V V.heap.size A 3 [vT rcT,vS rt,vN ct]→Calls Tryz.prog 128 #[.slice A 3 c] V fun e w'=>∃v,e= .returned (.tuple #[v,.int .i64 0])∧Own fB 5 w' V.heap.size v (encB rt ct)∧Below V.heap.size V w'):=fun V A c h=>by
  have:=ych _ A 3 c V h hok (by rw [hfl];omega) om
  rw [hfl] at this;exact this
 have HSU:Hid (∀(V:World) A' n' c',Sl fB V V.heap.size A' n' (encB rt ct)→Calls Tryz.prog 123 #[.slice A' n' c'] V fun e w'=>e= .returned (.string (btS rt ct))∧Below V.heap.size V w'):=fun V A' n' c' hs=>
  ycg A' n' c' V.heap.size _ V hs nl (by have:=hs.1;omega) (encB_byt rt ct)
 clear hfl hok hln hrt hct;go_enter Tryz.func98,Tryz.ntmps98
 go_wp2_with (first
  |(go_at_call 163;(with_reducible refine (HS.out _).mono ?_);rintro e w1 ⟨rfl,b1⟩;(have HB1:=lh b1);clear b1)
  |(go_at_call 164;(with_reducible refine (HN.out _).mono ?_);rintro e w2 ⟨rfl,b2⟩;(have HB2:=lh (HB1.out.trans (b2.mono HB1.out.size)));clear b2;(have HCE:=lh (HEN.out (w2.alloc (.cells #[.int .i64 5,.int .u64 0,.int .i64 0,.bool false,.string ⟨#[114,101,99,101,105,112,116,115]⟩,.int .i64 0,.int .i64 (vS rt).kind,.int .u64 (vS rt).u,.int .i64 (vS rt).n,.bool (vS rt).b,.string (vS rt).s,.int .i64 (vS rt).most,.int .i64 (vN ct).kind,.int .u64 (vN ct).u,.int .i64 (vN ct).n,.bool (vN ct).b,.string (vN ct).s,.int .i64 (vN ct).most] tVl)) (some ⟨w2.heap.size,0,none⟩) 3 (SlN.of_rows (xs:=[vT rcT,vS rt,vN ct]) fVl_len (heap_alloc_new _ _) rfl sI rfl))))
  |(go_at_call 128;(with_reducible refine HCE.out.mono ?_);rintro e w9 ⟨v9,rfl,ho9,hb9⟩;(obtain ⟨A9,c9,hv9,hc9,hs9,_⟩:=ho9.shape);(obtain ⟨N9,hN9⟩:∃N,(encB rt ct).length=N:=⟨_,rfl⟩);(rw [hN9] at hv9);(have HSS:=lh (HSU.out w9 A9 N9 c9 ⟨hN9,hs9⟩));(have HB9:Hid (Below w.heap.size w w9):=(HB2.out.alloc HB2.out.size _).trans (hb9.mono (by have:=HB2.out.size;simp;omega)));subst hv9;clear ho9 hb9 hN9 hc9 hs9)
  |(go_at_call 123;(with_reducible refine HSS.out.mono ?_);rintro e w10 ⟨rfl,hb10⟩;(have HB10:=lh (HB9.out.trans (hb10.mono HB9.out.size)));clear hb10))
 go_ret;exact ⟨rfl,HB10.out⟩
