/- The reference of receipts: Encode. The reference: EncodeAccusation. -/
import Derived.Test.YtpdledjgbgalcaaGreatDoorPq
import Derived.Test.YtpdledjgbgalcaaGreatDoorMr
import Derived.Test.YtpdledjgbgalcaaGreatDoorPp
namespace Go.Proofs.YtpdledjgbgalcaaGreatDoor
set_option maxRecDepth 100000
set_option maxHeartbeats 16000000
open Go.RowKit Go.Lib
set_option linter.unusedVariables false
set_option linter.unusedSimpArgs false
theorem VA.from {w w1 W:World} {u:Value} {acc:List Vl} (h:VA w1 W u acc) (hb:Below w.heap.size w w1):VA w W u acc:=⟨World.ownsRow.mono h.1 hb.size,hb.trans (h.2.mono hb.size)⟩
def vlR (r:Rcp) (ps qs rs:List ByteArray):List Vl:=vlG r.hd.toNat r.vt.toNat r.s r.ix.toNat r.sz.toNat r.dy.toNat r.sr.toNat++[vN r.ct.toNat,vN r.pl.toNat]++vlL ps++[vS r.rt,vN r.si.toNat]++vlL qs++vlL rs
theorem flat_R (r:Rcp) (ps qs rs:List ByteArray):(vlR r ps qs rs).flatMap encR=encRc r ps qs rs:=by
 unfold vlR encRc;simp only [List.flatMap_append,flat_G,flat_L,List.flatMap_cons,List.flatMap_nil,encR_N,encR_S,List.append_nil,List.append_assoc,Int.toNat_natCast]
theorem vlOk_L {ys:List ByteArray} (hn:ys.length≤100000) (h:∀z∈ys,z.size=32):∀x∈vlL ys,VlOk x:=fun x hx=>by
 unfold vlL at hx;rcases List.mem_cons.1 hx with rfl |hx
 ·exact vlOk_C hn
 ·obtain ⟨z,hz,rfl⟩:=List.mem_map.1 hx
  exact ydt (h z hz)
theorem vlOk_R {r:Rcp} {ps qs rs:List ByteArray} (h:vaB r ps qs rs=true):∀x∈vlR r ps qs rs,VlOk x:=fun x hx=>by
 obtain ⟨y0,y1,y2,y3,y4,y5,y6,y7,y8,y9,⟨y10,y11⟩,⟨y12,y13⟩,⟨y14,y15⟩,y16⟩:=ybD h;unfold vlR vlG at hx;simp only [List.mem_append,List.mem_cons,List.not_mem_nil,or_false] at hx;rcases hx with (((((rfl |rfl |rfl |rfl |rfl |rfl |rfl) |(rfl |rfl)) |hx) |(rfl |rfl)) |hx) |hx
 ·exact ybQ ⟨by omega,by omega⟩
 ·exact ybQ ⟨by omega,by omega⟩
 ·exact ydt y2
 ·exact ybQ ⟨by omega,by omega⟩
 ·exact ybQ ⟨by omega,by omega⟩
 ·exact ybQ ⟨by omega,by omega⟩
 ·exact ybQ ⟨by omega,by omega⟩
 ·exact ybQ ⟨by omega,by omega⟩
 ·exact ybQ ⟨by omega,by omega⟩
 ·exact vlOk_L om y11 x hx
 ·exact ydt y9
 ·exact ybQ ⟨by omega,by omega⟩
 ·exact vlOk_L om y15 x hx
 ·exact vlOk_L om y13 x hx
theorem senc_any (r:Rcp) (ps qs rs:List ByteArray) (B:Nat) (w:World) (hx:RcIn w B r ps qs rs) (hB:B≤w.heap.size) (hv:vaB r ps qs rs=true):
 Calls Tryz.prog 130 #[.agg (cR r)] w (Slc fB (encRc r ps qs rs) w):=by
 have HOK:=lh (vlOk_R hv);have HFE:=lh (flat_R r ps qs rs);have HLE:=lh (yc8 hv);obtain ⟨y0,y1,y2,y3,y4,y5,y6,y7,y8,y9,⟨y10,y11⟩,⟨y12,y13⟩,⟨y14,y15⟩,y16⟩:=ybD hv;obtain ⟨hd,vt,s,ix,sz,dy,sr,ct,pl,rt,pa,si,pb,pc⟩:=r;dsimp only at y0 y1 y2 y3 y4 y5 y6 y7 y8 y9 y16;obtain ⟨hd,rfl⟩:∃k:Nat,hd=k:=⟨hd.toNat,by omega⟩
 obtain ⟨vt,rfl⟩:∃k:Nat,vt=k:=⟨vt.toNat,by omega⟩
 obtain ⟨ix,rfl⟩:∃k:Nat,ix=k:=⟨ix.toNat,by omega⟩
 obtain ⟨sz,rfl⟩:∃k:Nat,sz=k:=⟨sz.toNat,by omega⟩
 obtain ⟨dy,rfl⟩:∃k:Nat,dy=k:=⟨dy.toNat,by omega⟩
 obtain ⟨sr,rfl⟩:∃k:Nat,sr=k:=⟨sr.toNat,by omega⟩
 obtain ⟨ct,rfl⟩:∃k:Nat,ct=k:=⟨ct.toNat,by omega⟩
 obtain ⟨pl,rfl⟩:∃k:Nat,pl=k:=⟨pl.toNat,by omega⟩
 obtain ⟨si,rfl⟩:∃k:Nat,si=k:=⟨si.toNat,by omega⟩
 obtain ⟨W1,hW1⟩:∃W1:World,W1=w.alloc (.cells #[.int .i64 (hd:Int),.int .i64 (vt:Int),.string s,.int .i64 (ix:Int),.int .i64 (sz:Int),.int .i64 (dy:Int),.int .i64 (sr:Int),.int .i64 (ct:Int),.int .i64 (pl:Int),.string rt,.slice pa.a pa.n pa.c,.int .i64 (si:Int),.slice pb.a pb.n pb.c,.slice pc.a pc.n pc.c] 35):=⟨_,rfl⟩
 have hb1:Below w.heap.size w W1:=by rw [hW1];exact bl
 have hs1:W1.heap.size=w.heap.size+1:=by rw [hW1];simp
 have hcp:W1.heap[w.heap.size]? =some (.cells #[.int .i64 (hd:Int),.int .i64 (vt:Int),.string s,.int .i64 (ix:Int),.int .i64 (sz:Int),.int .i64 (dy:Int),.int .i64 (sr:Int),.int .i64 (ct:Int),.int .i64 (pl:Int),.string rt,.slice pa.a pa.n pa.c,.int .i64 (si:Int),.slice pb.a pb.n pb.c,.slice pc.a pc.n pc.c] 35 (0,0)):=by rw [hW1];exact heap_alloc_new w _
 have HCB:Hid (∀V,Below W1.heap.size W1 V→V.cell? ⟨w.heap.size,0,none⟩=some (.int .i64 (hd:Int))∧V.cell? ⟨w.heap.size,1,none⟩=some (.int .i64 (vt:Int))∧V.cell? ⟨w.heap.size,2,none⟩=some (.string s)∧V.cell? ⟨w.heap.size,3,none⟩=some (.int .i64 (ix:Int))∧V.cell? ⟨w.heap.size,4,none⟩=some (.int .i64 (sz:Int))∧V.cell? ⟨w.heap.size,5,none⟩=some (.int .i64 (dy:Int))∧V.cell? ⟨w.heap.size,6,none⟩=some (.int .i64 (sr:Int))∧V.cell? ⟨w.heap.size,7,none⟩=some (.int .i64 (ct:Int))∧V.cell? ⟨w.heap.size,8,none⟩=some (.int .i64 (pl:Int))∧V.cell? ⟨w.heap.size,9,none⟩=some (.string rt)∧V.cell? ⟨w.heap.size,10,none⟩=some (.slice pa.a pa.n pa.c)∧V.cell? ⟨w.heap.size,11,none⟩=some (.int .i64 (si:Int))∧V.cell? ⟨w.heap.size,12,none⟩=some (.slice pb.a pb.n pb.c)∧V.cell? ⟨w.heap.size,13,none⟩=some (.slice pc.a pc.n pc.c)):=fun V hb=>by
  have h:=(hb.block w.heap.size om).trans hcp;refine ⟨?_,?_,?_,?_,?_,?_,?_,?_,?_,?_,?_,?_,?_,?_⟩<;>(rw [cell_of_row V _ _ _ _ _ h];rfl)
 have HSG:Hid (∀V,Below W1.heap.size W1 V→Calls Tryz.prog 188 #[.agg #[.int .i64 (hd:Int),.int .i64 (vt:Int),.string s,.int .i64 (ix:Int),.int .i64 (sz:Int),.int .i64 (dy:Int),.int .i64 (sr:Int),.int .i64 (ct:Int),.int .i64 (pl:Int),.string rt,.slice pa.a pa.n pa.c,.int .i64 (si:Int),.slice pb.a pb.n pb.c,.slice pc.a pc.n pc.c]] V fun e w'=>∃u,e= .returned u∧VA W1 w' u (vlG hd vt s ix sz dy sr)):=fun V hb=>(ssigned_any hd vt ix sz dy sr s rt ct pl si pa pb pc V om).mono (fun e w' ⟨u,h1,h2⟩=>⟨u,h1,h2.from hb⟩)
 have HLI:Hid (∀(V:World) (A:Option Addr) (n c:Nat) (ys:List ByteArray),Below W1.heap.size W1 V→Sl fT w B A n ys→n≤1000→Calls Tryz.prog 189 #[.slice A n c] V fun e w'=>∃A' m c',e= .returned (.slice A' m c')∧SlN fVl 6 w' w'.heap.size A' m (vlL ys)∧Below V.heap.size V w'):=fun V A n c ys hb hy hn=>(slist_any A n c B ys V (hy.up (hb1.trans (hb.mono hb1.size)) hB) (Nat.le_trans hB (Nat.le_trans hb1.size hb.size)) hn).mono (fun e w' ⟨u,h1,h2⟩=>by
  obtain ⟨A',c',hu,_,hrow⟩:=h2.row
  exact ⟨A',_,c',by rw [h1,hu],hrow,h2.2⟩)
 have HXa:Hid (Sl fT w B pa.a pa.n ps):=hx.1;have HXb:Hid (Sl fT w B pb.a pb.n qs):=hx.2.1;have HXc:Hid (Sl fT w B pc.a pc.n rs):=hx.2.2;have p1:pa.n≤8:=by have:=hx.1.1;dsimp only at this;omega
 have p2:pb.n≤300:=by have:=hx.2.1.1;dsimp only at this;omega
 have p3:pc.n≤8:=by have:=hx.2.2.1;dsimp only at this;omega
 have HL1:Hid (ps.length≤8):=y10;have Hp1:Hid (pa.n≤1000):=by show _≤_;omega
 have Hp2:Hid (pb.n≤1000):=by show _≤_;omega
 have Hp3:Hid (pc.n≤1000):=by show _≤_;omega
 have HL2:Hid (rs.length≤8):=y12;have HL3:Hid (qs.length≤300):=y14;have Hct:Hid (0≤(ct:Int)∧(ct:Int)≤9223372036854775807):=by show _∧_;omega
 have Hpl:Hid (0≤(pl:Int)∧(pl:Int)≤9223372036854775807):=by show _∧_;omega
 have Hsi:Hid (0≤(si:Int)∧(si:Int)≤9223372036854775807):=by show _∧_;omega
 have HB1:=lh hb1;have HWE:=lh hW1;have HB:Hid (Below W1.heap.size W1 W1):=Below.refl _ _;have HA1:Hid ((vlG hd vt s ix sz dy sr).length+([vN ct,vN pl]:List Vl).length≤200000):=by show _≤_;have:=HL1.out;have:=HL2.out;have:=HL3.out;simp only [vlG,vlL,List.length_append,List.length_cons,List.length_nil,List.length_map];omega
 have HA2:Hid ((vlG hd vt s ix sz dy sr++[vN ct,vN pl]).length+(vlL ps).length≤200000):=by show _≤_;have:=HL1.out;have:=HL2.out;have:=HL3.out;simp only [vlG,vlL,List.length_append,List.length_cons,List.length_nil,List.length_map];omega
 have HA3:Hid (((vlG hd vt s ix sz dy sr++[vN ct,vN pl])++vlL ps).length+([vS rt,vN si]:List Vl).length≤200000):=by show _≤_;have:=HL1.out;have:=HL2.out;have:=HL3.out;simp only [vlG,vlL,List.length_append,List.length_cons,List.length_nil,List.length_map];omega
 have HA4:Hid ((((vlG hd vt s ix sz dy sr++[vN ct,vN pl])++vlL ps)++[vS rt,vN si]).length+(vlL qs).length≤200000):=by show _≤_;have:=HL1.out;have:=HL2.out;have:=HL3.out;simp only [vlG,vlL,List.length_append,List.length_cons,List.length_nil,List.length_map];omega
 have HA5:Hid (((((vlG hd vt s ix sz dy sr++[vN ct,vN pl])++vlL ps)++[vS rt,vN si])++vlL qs).length+(vlL rs).length≤200000):=by show _≤_;have:=HL1.out;have:=HL2.out;have:=HL3.out;simp only [vlG,vlL,List.length_append,List.length_cons,List.length_nil,List.length_map];omega
 clear hb1 hs1 hcp hW1 hx hB hv y0 y1 y2 y3 y4 y5 y6 y7 y8 y9 y10 y11 y12 y13 y14 y15 y16
 show Calls Tryz.prog 130 #[.agg #[.int .i64 (hd:Int),.int .i64 (vt:Int),.string s,.int .i64 (ix:Int),.int .i64 (sz:Int),.int .i64 (dy:Int),.int .i64 (sr:Int),.int .i64 (ct:Int),.int .i64 (pl:Int),.string rt,.slice pa.a pa.n pa.c,.int .i64 (si:Int),.slice pb.a pb.n pb.c,.slice pc.a pc.n pc.c]] w _
 go_enter Tryz.func130,Tryz.ntmps130
 go_upto_region 1 with fail
 rw [←HWE.out];obtain ⟨k0,k1,k2,k3,k4,k5,k6,k7,k8,k9,k10,k11,k12,k13⟩:=HCB.out _ HB.out
 go_region_held3 (fun w'=>w'.cell? ⟨w.heap.size,0,none⟩=some (.int .i64 (hd:Int))∧w'.cell? ⟨w.heap.size,1,none⟩=some (.int .i64 (vt:Int))∧w'.cell? ⟨w.heap.size,2,none⟩=some (.string s)∧w'.cell? ⟨w.heap.size,3,none⟩=some (.int .i64 (ix:Int))∧w'.cell? ⟨w.heap.size,4,none⟩=some (.int .i64 (sz:Int))∧w'.cell? ⟨w.heap.size,5,none⟩=some (.int .i64 (dy:Int))∧w'.cell? ⟨w.heap.size,6,none⟩=some (.int .i64 (sr:Int))∧w'.cell? ⟨w.heap.size,7,none⟩=some (.int .i64 (ct:Int))∧w'.cell? ⟨w.heap.size,8,none⟩=some (.int .i64 (pl:Int))∧w'.cell? ⟨w.heap.size,9,none⟩=some (.string rt)∧w'.cell? ⟨w.heap.size,10,none⟩=some (.slice pa.a pa.n pa.c)∧w'.cell? ⟨w.heap.size,11,none⟩=some (.int .i64 (si:Int))∧w'.cell? ⟨w.heap.size,12,none⟩=some (.slice pb.a pb.n pb.c)∧w'.cell? ⟨w.heap.size,13,none⟩=some (.slice pc.a pc.n pc.c)) (first |exact HCB.out _ HVA.out.2 |exact HCB.out _ HB.out |go_keep) (first
  |(go_at_call 188;(refine (HSG.out _ ?_).mono ?_);(exact (by repeat (first |exact HB.out |refine Below.drew ?_ |refine ya0 ?_ _)));rintro e W6 ⟨u6,rfl,hva⟩;(have HVA:=lh hva);clear hva)
  |(go_at_call 164;(with_reducible (refine (ybl (ct:Int) _ Hct.out.1 Hct.out.2).mono ?_));rintro e W6 ⟨rfl,b6⟩;(have HVA:=lh (HVA.out.on (Below.trans yaG b6)));clear b6)
  |(go_at_call 164;(with_reducible (refine (ybl (pl:Int) _ Hpl.out.1 Hpl.out.2).mono ?_));rintro e W6 ⟨rfl,b6⟩;(have HVA:=lh (HVA.out.on (Below.trans yaG b6)));clear b6)
  |((refine step_vapp (by rfl) (.tmp 7) (.tmp 14) (by rfl) yam (by rfl) [vN ct,vN pl] ⟨_,_,2,2,(by rfl),ydK rfl rfl⟩ HA1.out ?_);(intro u1 W7 HVA)))
 clear k0 k1 k2 k3 k4 k5 k6 k7 k8 k9 k10 k11 k12 k13;have HQ:=lh HVA.out.2;obtain ⟨k0,k1,k2,k3,k4,k5,k6,k7,k8,k9,k10,k11,k12,k13⟩:=HCB.out _ HQ.out
 go_upto_region 3 with (first
  |(go_at_call 189;(with_reducible refine (HLI.out _ _ _ _ ps HQ.out HXa.out Hp1.out).mono ?_);rintro e W8 ⟨A8,m8,c8,rfl,hs8,b8⟩
    have HVA:=lh (HVA.out.on b8);have HS8:=lh hs8
    clear hs8 b8)
  |(at_builtin;(refine yci (o:=⟨some 20,_,_,_,_,_⟩) rfl (.tmp 16) (.tmp 19) rfl HVA.out (by rfl) (vlL ps) ⟨_,A8,m8,c8,(by rfl),HS8.out⟩ HA2.out ?_);intro u2 W9 HVA))
 clear k0 k1 k2 k3 k4 k5 k6 k7 k8 k9 k10 k11 k12 k13;obtain ⟨k0,k1,k2,k3,k4,k5,k6,k7,k8,k9,k10,k11,k12,k13⟩:=HCB.out _ HVA.out.2
 go_region_held3 (fun w'=>w'.cell? ⟨w.heap.size,0,none⟩=some (.int .i64 (hd:Int))∧w'.cell? ⟨w.heap.size,1,none⟩=some (.int .i64 (vt:Int))∧w'.cell? ⟨w.heap.size,2,none⟩=some (.string s)∧w'.cell? ⟨w.heap.size,3,none⟩=some (.int .i64 (ix:Int))∧w'.cell? ⟨w.heap.size,4,none⟩=some (.int .i64 (sz:Int))∧w'.cell? ⟨w.heap.size,5,none⟩=some (.int .i64 (dy:Int))∧w'.cell? ⟨w.heap.size,6,none⟩=some (.int .i64 (sr:Int))∧w'.cell? ⟨w.heap.size,7,none⟩=some (.int .i64 (ct:Int))∧w'.cell? ⟨w.heap.size,8,none⟩=some (.int .i64 (pl:Int))∧w'.cell? ⟨w.heap.size,9,none⟩=some (.string rt)∧w'.cell? ⟨w.heap.size,10,none⟩=some (.slice pa.a pa.n pa.c)∧w'.cell? ⟨w.heap.size,11,none⟩=some (.int .i64 (si:Int))∧w'.cell? ⟨w.heap.size,12,none⟩=some (.slice pb.a pb.n pb.c)∧w'.cell? ⟨w.heap.size,13,none⟩=some (.slice pc.a pc.n pc.c)) (first |exact HCB.out _ HVA.out.2 |exact HCB.out _ HB.out |go_keep) (first
  |(go_at_call 163;(with_reducible (refine (yc9 rt _).mono ?_));rintro e W6 ⟨rfl,b6⟩;(have HVA:=lh (HVA.out.on (Below.trans yaG b6)));clear b6)
  |(go_at_call 164;(with_reducible (refine (ybl (si:Int) _ Hsi.out.1 Hsi.out.2).mono ?_));rintro e W6 ⟨rfl,b6⟩;(have HVA:=lh (HVA.out.on (Below.trans yaG b6)));clear b6)
  |((refine step_vapp (by rfl) (.tmp 21) (.tmp 29) (by rfl) yam (by rfl) [vS rt,vN si] ⟨_,_,2,2,(by rfl),ydK rfl rfl⟩ HA3.out ?_);(intro u1 W7 HVA)))
 clear k0 k1 k2 k3 k4 k5 k6 k7 k8 k9 k10 k11 k12 k13;have HQ:=lh HVA.out.2;obtain ⟨k0,k1,k2,k3,k4,k5,k6,k7,k8,k9,k10,k11,k12,k13⟩:=HCB.out _ HQ.out
 go_upto_region 5 with (first
  |(go_at_call 189;(with_reducible refine (HLI.out _ _ _ _ qs HQ.out HXb.out Hp2.out).mono ?_);rintro e WA ⟨AA,mA,cA',rfl,hsA,bA⟩
    have HVA:=lh (HVA.out.on bA);have HSA:=lh hsA
    clear hsA bA)
  |(at_builtin;(refine yci (o:=⟨some 36,_,_,_,_,_⟩) rfl (.tmp 31) (.tmp 35) rfl HVA.out (by rfl) (vlL qs) ⟨_,AA,mA,cA',(by rfl),HSA.out⟩ HA4.out ?_);intro u4 WB HVA))
 clear k0 k1 k2 k3 k4 k5 k6 k7 k8 k9 k10 k11 k12 k13;have HQ:=lh HVA.out.2;obtain ⟨k0,k1,k2,k3,k4,k5,k6,k7,k8,k9,k10,k11,k12,k13⟩:=HCB.out _ HQ.out;have HRE:Hid ((((((vlG hd vt s ix sz dy sr++[vN ct,vN pl])++vlL ps)++[vS rt,vN si])++vlL qs)++vlL rs)=vlR ⟨(hd:Int),(vt:Int),s,(ix:Int),(sz:Int),(dy:Int),(sr:Int),(ct:Int),(pl:Int),rt,pa,(si:Int),pb,pc⟩ ps qs rs):=by show _=_;unfold vlR;simp only [Int.toNat_natCast]
 go_wp2_with (first
  |(go_at_call 189;(with_reducible refine (HLI.out _ _ _ _ rs HQ.out HXc.out Hp3.out).mono ?_);rintro e WC ⟨AC,mC,cC,rfl,hsC,bC⟩
    have HVA:=lh (HVA.out.on bC);have HSC:=lh hsC
    clear hsC bC)
  |(at_builtin;(refine yci (o:=⟨some 43,_,_,_,_,_⟩) rfl (.tmp 38) (.tmp 42) rfl HVA.out (by rfl) (vlL rs) ⟨_,AC,mC,cC,(by rfl),HSC.out⟩ HA5.out ?_);intro u5 WD HVA5))
 rw [HRE.out] at HVA5;obtain ⟨Af,cf,hu,hcf,hrow⟩:=HVA5.out.row;obtain ⟨N,hN⟩:∃N,(vlR ⟨(hd:Int),(vt:Int),s,(ix:Int),(sz:Int),(dy:Int),(sr:Int),(ct:Int),(pl:Int),rt,pa,(si:Int),pb,pc⟩ ps qs rs).length=N:=⟨_,rfl⟩
 have hNl:N≤100000:=by
  rw [←hN];have h1:=HL1.out;have h2:=HL2.out;have h3:=HL3.out;simp only [vlR,vlG,vlL,List.length_append,List.length_cons,List.length_nil,List.length_map];omega
 rw [hN] at hu hrow;have HCE:=lh (ych _ Af N cf WD hrow HOK.out (by rw [HFE.out];exact Nat.le_trans HLE.out de) hNl);rw [HFE.out] at HCE;have HBV:Hid (Below w.heap.size w WD):=HB1.out.trans (HVA5.out.2.mono HB1.out.size);subst hu;clear hrow hN HVA5 HVA k0 k1 k2 k3 k4 k5 k6 k7 k8 k9 k10 k11 k12 k13
 go_wp2_with fail
 refine HCE.out.mono ?_;rintro e w9 ⟨v9,rfl,ho9,hb9⟩;obtain ⟨A9,c9,hv9,hc9,hs9,_⟩:=ho9.shape;obtain ⟨N9,hN9⟩:∃N,(encRc ⟨(hd:Int),(vt:Int),s,(ix:Int),(sz:Int),(dy:Int),(sr:Int),(ct:Int),(pl:Int),rt,pa,(si:Int),pb,pc⟩ ps qs rs).length=N:=⟨_,rfl⟩
 rw [hN9] at hv9 hc9;have HS9:Hid (Sl fB w9 w9.heap.size A9 N9 (encRc ⟨(hd:Int),(vt:Int),s,(ix:Int),(sz:Int),(dy:Int),(sr:Int),(ct:Int),(pl:Int),rt,pa,(si:Int),pb,pc⟩ ps qs rs)):=⟨hN9,hs9⟩;have HB9:=lh hb9;have HC9:=lh hc9;subst hv9;clear ho9 hs9 hb9 hN9 hc9
 go_wp2_with fail
 go_ret;exact ⟨A9,N9,c9,rfl,HC9.out,HS9.out,HBV.out.trans (HB9.out.mono HBV.out.size)⟩
theorem encRc_byt (r:Rcp) (ps qs rs:List ByteArray):Byt (encRc r ps qs rs):=by
 have hL:∀ys:List ByteArray,Byt (encLs ys):=fun ys=>by
  unfold encLs;refine Byt.app (ya7 _) ?_;intro b hb;obtain ⟨x,_,h⟩:=List.mem_flatMap.1 hb;exact ybr x b h
 unfold encRc encSg;exact Byt.app (Byt.app (ya7 _) (Byt.app (ya7 _) (Byt.app (ybr _) (Byt.app (ya7 _) (Byt.app (ya7 _) (Byt.app (ya7 _) (ya7 _))))))) (Byt.app (ya7 _) (Byt.app (ya7 _) (Byt.app (hL _) (Byt.app (ybr _) (Byt.app (ya7 _) (Byt.app (hL _) (hL _)))))))
theorem reac_any (r:Rcp) (ps qs rs:List ByteArray) (st:ByteArray) (ix:Nat) (no an:ByteArray) (B:Nat) (w:World) (hx:RcIn w B r ps qs rs) (hB:B≤w.heap.size) (hv:vaB r ps qs rs=true) (h1:st.size=32) (h2:ix≤15) (h3:no.size=32) (h4:an.size=32):
 Calls Tryz.prog 67 #[.agg (cR r),.agg #[.string st,.int .i64 (ix:Int),.string no,.string an]] w (Slc fB (encAc r ps qs rs st ix no an) w):=by
 have hlr:=yc8 hv;obtain ⟨L,hL⟩:∃L,L=encRc r ps qs rs:=⟨_,rfl⟩
 have HFE:Hid (([vB (baOf L),vS st,vN ix,vS no,vS an]:List Vl).flatMap encR=encAc r ps qs rs st ix no an):=by
  show _=_
  have hb:∀b∈L,0≤b∧b < 256:=by rw [hL];exact encRc_byt r ps qs rs
  unfold encAc;rw [←hL];simp only [List.flatMap_cons,List.flatMap_nil,encR_B,encR_S,encR_N,baOf_size,ybi hb,List.append_nil,List.append_assoc,Int.toNat_natCast]
 rw [←hL] at hlr
 have HOK:Hid (∀x∈([vB (baOf L),vS st,vN ix,vS no,vS an]:List Vl),VlOk x):=fun x hx'=>by
  simp only [List.mem_cons,List.not_mem_nil,or_false] at hx';rcases hx' with rfl |rfl |rfl |rfl |rfl
  ·exact vlOk_B (by rw [baOf_size];omega)
  ·exact ydt h1
  ·exact ybQ ⟨by omega,by omega⟩
  ·exact ydt h3
  ·exact ydt h4
 have HLE:Hid ((([vB (baOf L),vS st,vN ix,vS no,vS an]:List Vl).flatMap encR).length≤1048576):=by
  show _≤_
  rw [HFE.out];unfold encAc;rw [←hL];have e1:=ya1 L.length;have e2:=ya1 ix;have e3:=ya9 st;have e4:=ya9 no;have e5:=ya9 an;simp only [List.length_append];omega
 obtain ⟨W1,hW1⟩:∃W1:World,W1=(w.alloc (.cells (cR r) tR)).alloc (.cells #[.string st,.int .i64 (ix:Int),.string no,.string an] 37):=⟨_,rfl⟩
 have hb1:Below w.heap.size w W1:=by rw [hW1];exact bl.alloc sI _
 have hc1:W1.heap[w.heap.size]? =some (.cells (cR r) tR (0,0)):=by rw [hW1,Below.heap_alloc _ _ _ sI];exact heap_alloc_new w _
 have hc2:W1.heap[w.heap.size+1]? =some (.cells #[.string st,.int .i64 (ix:Int),.string no,.string an] 37 (0,0)):=by
  rw [hW1]
  have:=heap_alloc_new (w.alloc (.cells (cR r) tR)) (.cells #[.string st,.int .i64 (ix:Int),.string no,.string an] 37)
  simpa using this
 have HCB:Hid (∀V,Below W1.heap.size W1 V→V.cell? ⟨w.heap.size,0,none⟩=some (.int .i64 r.hd)∧V.cell? ⟨w.heap.size,1,none⟩=some (.int .i64 r.vt)∧V.cell? ⟨w.heap.size,2,none⟩=some (.string r.s)∧V.cell? ⟨w.heap.size,3,none⟩=some (.int .i64 r.ix)∧V.cell? ⟨w.heap.size,4,none⟩=some (.int .i64 r.sz)∧V.cell? ⟨w.heap.size,5,none⟩=some (.int .i64 r.dy)∧V.cell? ⟨w.heap.size,6,none⟩=some (.int .i64 r.sr)∧V.cell? ⟨w.heap.size,7,none⟩=some (.int .i64 r.ct)∧V.cell? ⟨w.heap.size,8,none⟩=some (.int .i64 r.pl)∧V.cell? ⟨w.heap.size,9,none⟩=some (.string r.rt)∧V.cell? ⟨w.heap.size,10,none⟩=some (.slice r.pa.a r.pa.n r.pa.c)∧V.cell? ⟨w.heap.size,11,none⟩=some (.int .i64 r.si)∧V.cell? ⟨w.heap.size,12,none⟩=some (.slice r.pb.a r.pb.n r.pb.c)∧V.cell? ⟨w.heap.size,13,none⟩=some (.slice r.pc.a r.pc.n r.pc.c)∧V.cell? ⟨w.heap.size+1,0,none⟩=some (.string st)∧V.cell? ⟨w.heap.size+1,1,none⟩=some (.int .i64 (ix:Int))∧V.cell? ⟨w.heap.size+1,2,none⟩=some (.string no)∧V.cell? ⟨w.heap.size+1,3,none⟩=some (.string an)):=fun V hb=>by
  have q1:=(hb.block _ (lt_of_block hc1)).trans hc1;have q2:=(hb.block _ (lt_of_block hc2)).trans hc2;refine ⟨?_,?_,?_,?_,?_,?_,?_,?_,?_,?_,?_,?_,?_,?_,?_,?_,?_,?_⟩
  all_goals first
   |(rw [cell_of_row V _ _ _ _ _ q1];rfl)
   |(rw [cell_of_row V _ _ _ _ _ q2];rfl)
 have HSE:Hid (∀V,Below W1.heap.size W1 V→Calls Tryz.prog 130 #[.agg #[.int .i64 r.hd,.int .i64 r.vt,.string r.s,.int .i64 r.ix,.int .i64 r.sz,.int .i64 r.dy,.int .i64 r.sr,.int .i64 r.ct,.int .i64 r.pl,.string r.rt,.slice r.pa.a r.pa.n r.pa.c,.int .i64 r.si,.slice r.pb.a r.pb.n r.pb.c,.slice r.pc.a r.pc.n r.pc.c]] V (Slc fB L V)):=fun V hb=>by
  have:=senc_any r ps qs rs B V (hx.up (hb1.trans (hb.mono hb1.size)) hB) (Nat.le_trans hB (Nat.le_trans hb1.size hb.size)) hv
  rw [hL];exact this
 have Hix:Hid (0≤(ix:Int)∧(ix:Int)≤9223372036854775807):=by show _∧_;omega
 have HB1:=lh hb1;have HWE:=lh hW1;have HB:Hid (Below W1.heap.size W1 W1):=Below.refl _ _;clear hb1 hc1 hc2 hW1 hx hB hv h1 h2 h3 h4 hL hlr
 show Calls Tryz.prog 67 #[.agg #[.int .i64 r.hd,.int .i64 r.vt,.string r.s,.int .i64 r.ix,.int .i64 r.sz,.int .i64 r.dy,.int .i64 r.sr,.int .i64 r.ct,.int .i64 r.pl,.string r.rt,.slice r.pa.a r.pa.n r.pa.c,.int .i64 r.si,.slice r.pb.a r.pb.n r.pb.c,.slice r.pc.a r.pc.n r.pc.c],.agg #[.string st,.int .i64 (ix:Int),.string no,.string an]] w _
 go_enter Tryz.func67,Tryz.ntmps67
 go_upto_region 1 with fail
 rw [←HWE.out];obtain ⟨k0,k1,k2,k3,k4,k5,k6,k7,k8,k9,k10,k11,k12,k13,k14,k15,k16,k17⟩:=HCB.out _ HB.out
 go_region_held3 (fun w'=>w'.cell? ⟨w.heap.size,0,none⟩=some (.int .i64 r.hd)∧w'.cell? ⟨w.heap.size,1,none⟩=some (.int .i64 r.vt)∧w'.cell? ⟨w.heap.size,2,none⟩=some (.string r.s)∧w'.cell? ⟨w.heap.size,3,none⟩=some (.int .i64 r.ix)∧w'.cell? ⟨w.heap.size,4,none⟩=some (.int .i64 r.sz)∧w'.cell? ⟨w.heap.size,5,none⟩=some (.int .i64 r.dy)∧w'.cell? ⟨w.heap.size,6,none⟩=some (.int .i64 r.sr)∧w'.cell? ⟨w.heap.size,7,none⟩=some (.int .i64 r.ct)∧w'.cell? ⟨w.heap.size,8,none⟩=some (.int .i64 r.pl)∧w'.cell? ⟨w.heap.size,9,none⟩=some (.string r.rt)∧w'.cell? ⟨w.heap.size,10,none⟩=some (.slice r.pa.a r.pa.n r.pa.c)∧w'.cell? ⟨w.heap.size,11,none⟩=some (.int .i64 r.si)∧w'.cell? ⟨w.heap.size,12,none⟩=some (.slice r.pb.a r.pb.n r.pb.c)∧w'.cell? ⟨w.heap.size,13,none⟩=some (.slice r.pc.a r.pc.n r.pc.c)∧w'.cell? ⟨w.heap.size+1,0,none⟩=some (.string st)∧w'.cell? ⟨w.heap.size+1,1,none⟩=some (.int .i64 (ix:Int))∧w'.cell? ⟨w.heap.size+1,2,none⟩=some (.string no)∧w'.cell? ⟨w.heap.size+1,3,none⟩=some (.string an)) (first |exact HCB.out _ HB.out |exact HCB.out _ HB9.out |go_keep) (first
  |(go_at_call 130;(refine (HSE.out _ ?_).mono ?_);(exact (by repeat (first |exact HB.out |refine Below.drew ?_ |refine ya0 ?_ _)));rintro e W5 ⟨A5,n5,c5,rfl,hc5,hs5,b6⟩;(have HS5:=lh hs5);(have HB:=lh (HB.out.trans (Below.mono (Below.trans yaG b6) HB.out.size)));clear b6;clear hc5 hs5)
  |(go_at_call 129;(refine (rbytes_any A5 n5 c5 W5.heap.size L _ ?_ ?_).mono ?_);(exact HS5.out);(exact Nat.le_refl _);rintro e W6 ⟨rfl,b6⟩;(have HB:=lh (HB.out.trans (Below.mono (Below.trans yaG b6) HB.out.size)));clear b6)
  |(go_at_call 131;(with_reducible (refine (rsumv_any st _).mono ?_));rintro e W6 ⟨rfl,b6⟩;(have HB:=lh (HB.out.trans (Below.mono (Below.trans yaG b6) HB.out.size)));clear b6)
  |(go_at_call 132;(with_reducible (refine (rnumber_any (ix:Int) _ Hix.out.1 Hix.out.2).mono ?_));rintro e W6 ⟨rfl,b6⟩;(have HB:=lh (HB.out.trans (Below.mono (Below.trans yaG b6) HB.out.size)));clear b6)
  |(go_at_call 131;(with_reducible (refine (rsumv_any no _).mono ?_));rintro e W6 ⟨rfl,b6⟩;(have HB:=lh (HB.out.trans (Below.mono (Below.trans yaG b6) HB.out.size)));clear b6)
  |(go_at_call 131;(with_reducible (refine (rsumv_any an _).mono ?_));rintro e W6 ⟨rfl,b6⟩;(have HB:=lh (HB.out.trans (Below.mono (Below.trans yaG b6) HB.out.size)));clear b6)
  |(go_at_call 128;(refine (ych [vB (baOf L),vS st,vN ix,vS no,vS an] _ 5 5 _ ((ydK rfl rfl).more sI) HOK.out HLE.out de).mono ?_);rintro e W9 ⟨v9,rfl,ho9,b9⟩;(have HO9:=lh ho9);(have HB9:Hid (Below W1.heap.size W1 W9):=(HB.out.alloc HB.out.size _).trans (b9.mono (HB.out.alloc HB.out.size _).size));clear ho9 b9))
 clear k0 k1 k2 k3 k4 k5 k6 k7 k8 k9 k10 k11 k12 k13 k14 k15 k16 k17;rw [HFE.out] at HO9;obtain ⟨A9,c9,hv9,hc9,hs9,_⟩:=HO9.out.shape;obtain ⟨N9,hN9⟩:∃N,(encAc r ps qs rs st ix no an).length=N:=⟨_,rfl⟩
 rw [hN9] at hv9 hc9;have HS9:Hid (Sl fB W9 W9.heap.size A9 N9 (encAc r ps qs rs st ix no an)):=⟨hN9,hs9⟩;have HC9:=lh hc9;subst hv9;clear hs9 hN9 hc9 HO9
 go_wp2_with fail
 go_ret;exact ⟨A9,N9,c9,rfl,HC9.out,HS9.out,HB1.out.trans (HB9.out.mono HB1.out.size)⟩
