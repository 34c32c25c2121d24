/- Receipts verified, both. -/
import Derived.Test.YtpdledjgbgalcaaGreatDoorPk
import Derived.Test.YtpdledjgbgalcaaGreatDoorPq
import Derived.Test.YtpdledjgbgalcaaGreatDoorSv
import Derived.Test.YtpdledjgbgalcaaGreatDoorPp
import Derived.Deep.Onto
namespace Go.Proofs.YtpdledjgbgalcaaGreatDoor
set_option maxRecDepth 100000
set_option maxHeartbeats 16000000
open Go.RowKit Go.Lib
set_option linter.unusedVariables false
set_option linter.unusedSimpArgs false
def rvB (pub:ByteArray) (b h:Int) (r:Rcp) (ps qs rs:List ByteArray):Bool:=
 vaB r ps qs rs&&(mvB (leafS (encS r)) r.pl.toNat r.ct.toNat ps r.rt&&(sgF b h r.si.toNat r.pb.n r.pc.n&&decide (sgR b (btS r.rt r.ct.toNat) r.si.toNat qs rs=pub)))
theorem rc_nat9 {r:Rcp} {ps qs rs:List ByteArray} (hv:vaB r ps qs rs=true):∃hd vt ix sz dy sr ct pl si:Nat,r=⟨hd,vt,r.s,ix,sz,dy,sr,ct,pl,r.rt,r.pa,si,r.pb,r.pc⟩∧r.rt.size=32∧pl < ct∧ct≤256∧si < 256∧(ps.length≤8∧∀s∈ps,s.size=32)∧(rs.length≤8∧∀s∈rs,s.size=32)∧(qs.length≤300∧∀s∈qs,s.size=32):=by
 obtain ⟨y0,y1,y2,y3,y4,y5,y6,y7,y8,y9,y10,y12,y14,y16⟩:=ybD hv;obtain ⟨hd,vt,s,ix,sz,dy,sr,ct,pl,rt,pa,si,pb,pc⟩:=r;dsimp only at y0 y1 y2 y3 y4 y5 y6 y7 y8 y9 y16 ⊢;refine ⟨hd.toNat,vt.toNat,ix.toNat,sz.toNat,dy.toNat,sr.toNat,ct.toNat,pl.toNat,si.toNat,?_,y9,by omega,by omega,by omega,y10,y12,y14⟩
 congr 1<;>omega
theorem two_of {w:World} {a:Nat} {t:TypeId} {b h:Int} (q:w.heap[a]? =some (.cells (cSc b h) t (0,0))):w.cell? ⟨a,0,none⟩=some (.int .i64 b)∧w.cell? ⟨a,1,none⟩=some (.int .i64 h):=by
 refine ⟨?_,?_⟩<;>(rw [cell_of_row w _ _ _ _ _ q];rfl)
theorem rcverify_any (pub:ByteArray) (b h:Int) (r:Rcp) (ps qs rs:List ByteArray) (B:Nat) (w:World) (hG:Glob w) (hx:RcIn w B r ps qs rs) (hB:B≤w.heap.size) (hpa:r.pa.n≤r.pa.c):
 Calls Tryz.prog 43 #[.string pub,.agg (cSc b h),.agg (cR r)] w fun e w'=>e= .returned (.bool (rvB pub b h r ps qs rs))∧Below w.heap.size w w':=by
 have HF:Hid (rvB pub b h r ps qs rs=(vaB r ps qs rs&&(mvB (leafS (encS r)) r.pl.toNat r.ct.toNat ps r.rt&&(sgF b h r.si.toNat r.pb.n r.pc.n&&decide (sgR b (btS r.rt r.ct.toNat) r.si.toNat qs rs=pub))))):=rfl;obtain ⟨W1,hW1⟩:∃W1:World,W1=(w.alloc (.cells (cSc b h) 26)).alloc (.cells (cR r) tR):=⟨_,rfl⟩
 have hsz:W1.heap.size=w.heap.size+2:=by rw [hW1];simp
 have hge:W1.heap[w.heap.size]? =some (.cells (cSc b h) 26 (0,0)):=by
  rw [hW1];exact (Below.heap_alloc _ _ _ sI).trans (heap_alloc_new w _)
 have hge2:W1.heap[w.heap.size+1]? =some (.cells (cR r) tR (0,0)):=by
  rw [hW1]
  have:=heap_alloc_new (w.alloc (.cells (cSc b h) 26)) (.cells (cR r) tR)
  simpa using this
 have HC:Hid (∀V,Below (w.heap.size+2) W1 V→V.heap[w.heap.size]? =some (.cells (cSc b h) 26 (0,0))∧V.heap[w.heap.size+1]? =some (.cells (cR r) tR (0,0))):=fun V hv=>⟨(hv.block _ om).trans hge,(hv.block _ om).trans hge2⟩
 have HB:Hid (Below w.heap.size w W1):=by
  show Below ..
  rw [hW1];exact bl.alloc sI _
 have HS:=lh hsz;have HWE:=lh hW1;have HB1:Hid (Below (w.heap.size+2) W1 W1):=Below.refl _ _
 have HX:Hid (∀V,Below (w.heap.size+2) W1 V→RcIn V B r ps qs rs∧B≤V.heap.size∧Below w.heap.size w V):=fun V hv=>by
  have hb:Below w.heap.size w V:=HB.out.trans (hv.mono (Nat.le_add_right _ 2));exact ⟨hx.up hb hB,Nat.le_trans hB hb.size,hb⟩
 clear hge hge2 hsz hW1;have HV:Hid (∀V,Below (w.heap.size+2) W1 V→Calls Tryz.prog 87 #[.agg (cR r)] V fun e w'=>e= .returned (.bool (vaB r ps qs rs))∧Below V.heap.size V w'):=fun V hv=>valid_any r ps qs rs B V (HX.out V hv).1 (HX.out V hv).2.1
 cases hv:vaB r ps qs rs with
 |false=>
  rw [hv] at HV HF;rw [Bool.false_and] at HF;clear hx hB hv hpa hG;go_enter Tryz.func43,Tryz.ntmps43
  go_upto_region 1 with fail
  rw [←HWE.out]
  go_wp2_with fail
  refine wp_region_held_drew (S:=(fun w'=>w'.heap[w.heap.size]? =some (.cells (cSc b h) 26 (0,0))∧w'.heap[w.heap.size+1]? =some (.cells (cR r) tR (0,0)))) yaV yaf (fun hHeld=>?_);refine tkH (i:=0) (v:=_) (y:=(yieldsIf_load_mid (by rfl) tR (.tmp 5) rfl (w.heap.size+1) 0 (by rfl) (cR r).toList _ (fun _ h=>ycH h.2) Tryz.underlying35 rfl (ycl r))) (h:=?_)
  try simp only [pt]
  refine rd1 1 (fun K hK=>?_)
  (go_simp;go_at_call 87;(with_reducible refine (HV.out _ yax).mono ?_);rintro e w4 ⟨rfl,hb4⟩;(have HBx:Hid (Below (w.heap.size+2) W1 w4):=Below.trans (B:=w.heap.size+2) yax (Below.mono hb4 (HS.out▸yaL)));clear hb4;go_wp2_with fail)
  refine hK.out _ _ yaf (fun hHeldpA1=>?_);clear hK K hHeld
  try simp only [pt]
  refine tkY 2 ?_;refine tkN 3 ?_;refine tkN 4 ?_;refine tkN 5 ?_;refine tkN 6 ?_;refine tkN 7 ?_;refine tkN 8 ?_;refine tkN 9 ?_;refine tkN 10 ?_;refine tkN 11 ?_;refine tkN 12 ?_;refine tkN 13 ?_;refine tkY 14 ?_;refine tkY 15 ?_;refine tkN 16 ?_;refine tkN 17 ?_;refine tkN 18 ?_;refine tkN 19 ?_;refine tkN 20 ?_;refine tkN 21 ?_;refine tkN 22 ?_;refine tkN 23 ?_;refine tkN 24 ?_;refine tkN 25 ?_;refine tkY 26 ?_;refine tkY 27 ?_;refine wpAnyH_done yaV ?_ _
  go_wp2_with fail
  go_ret;exact ⟨by rw [HF.out];rfl,HB.out.trans (HBx.out.mono (Nat.le_add_right _ 2))⟩
 |true=>
  rw [hv] at HV HF;rw [Bool.true_and] at HF;obtain ⟨hd,vt,ix,sz,dy,sr,ct,pl,si,hr,g1,g2,g3,g4,⟨g5,g6⟩,⟨g7,g8⟩,⟨g9,g10⟩⟩:=rc_nat9 hv;have hvv:=hv;obtain ⟨hd0,vt0,s,ix0,sz0,dy0,sr0,ct0,pl0,rt,pa,si0,pb,pc⟩:=r;injection hr with e1 e2 _ e4 e5 e6 e7 e8 e9 _ _ e12 _ _;subst e1 e2 e4 e5 e6 e7 e8 e9 e12;dsimp only at g1 hpa HF;rw [Int.toNat_natCast,Int.toNat_natCast,Int.toNat_natCast] at HF;have p1:pa.n≤8:=by have:=(hx.1).1;dsimp only at this;omega
  have p2:pb.n≤300:=by have:=(hx.2.1).1;dsimp only at this;omega
  have p3:pc.n≤8:=by have:=(hx.2.2).1;dsimp only at this;omega
  obtain ⟨lf,hlf⟩:∃z,leafS (encS ⟨hd,vt,s,ix,sz,dy,sr,ct,pl,rt,pa,si,pb,pc⟩)=z:=⟨_,rfl⟩
  have hlf32:lf.size=32:=by rw [←hlf];exact ycL _
  obtain ⟨dg,hdg⟩:∃z,btS rt ct=z:=⟨_,rfl⟩
  have hdg32:dg.size=32:=by rw [←hdg];exact btS_size _ _
  rw [hlf,hdg] at HF;have HL:Hid (∀V,Below (w.heap.size+2) W1 V→Calls Tryz.prog 89 #[.agg (cR ⟨hd,vt,s,ix,sz,dy,sr,ct,pl,rt,pa,si,pb,pc⟩)] V fun e w'=>e= .returned (.string lf)∧Below V.heap.size V w'):=fun V hb=>hlf▸leaf_any ⟨hd,vt,s,ix,sz,dy,sr,ct,pl,rt,pa,si,pb,pc⟩ ps qs rs V (hG.on (HX.out V hb).2.2) hvv
  have HM:Hid (∀V,Below (w.heap.size+2) W1 V→Calls Tryz.prog 88 #[.string lf,.int .i64 pl,.int .i64 ct,.slice pa.a pa.n pa.c,.string rt] V fun e w'=>e= .returned (.bool (mvB lf pl ct ps rt))∧Below V.heap.size V w'):=fun V hb=>mverify_any lf pl ct pa.a pa.n pa.c B ps rt V (hG.on (HX.out V hb).2.2) hlf32 g1 g2 g3 (HX.out V hb).1.1 (HX.out V hb).2.1 hpa p1 g6
  have HD:Hid (∀V,Below (w.heap.size+2) W1 V→Calls Tryz.prog 91 #[.string rt,.int .i64 ct] V fun e w'=>e= .returned (.string dg)∧Below V.heap.size V w'):=fun V hb=>hdg▸batch_any rt ct V (hG.on (HX.out V hb).2.2) g1 g3
  have HG:Hid (∀V,Below (w.heap.size+2) W1 V→Calls Tryz.prog 90 #[.agg (cSc b h),.string pub,.string dg,.agg (cSg si pb.a pb.n pb.c pc.a pc.n pc.c)] V fun e w'=>e= .returned (.bool (sgF b h si pb.n pc.n&&decide (sgR b dg si qs rs=pub)))∧Below V.heap.size V w'):=fun V hb=>sgverify_any b h dg hdg32 si g4 pb.a pc.a pb.n pc.n pb.c pc.c B qs rs V (hG.on (HX.out V hb).2.2) (HX.out V hb).1.2.1 (HX.out V hb).1.2.2 (HX.out V hb).2.1 p2 p3 g10 g8 pub
  clear hx hB hv hvv hpa hG hlf hdg g1 g2 g3 g4 g5 g6 g7 g8 g9 g10 hlf32 hdg32
  cases hm:mvB lf pl ct ps rt with
  |false=>
   rw [hm] at HM HF;rw [Bool.false_and] at HF;clear hm;go_enter Tryz.func43,Tryz.ntmps43
   go_upto_region 1 with fail
   rw [←HWE.out]
   go_wp2_with fail
   refine wp_region_held_drew (S:=(fun w'=>w'.heap[w.heap.size]? =some (.cells (cSc b h) 26 (0,0))∧w'.heap[w.heap.size+1]? =some (.cells (cR ⟨hd,vt,s,ix,sz,dy,sr,ct,pl,rt,pa,si,pb,pc⟩) tR (0,0)))) yaV yaf (fun hHeld=>?_);refine tkH (i:=0) (v:=_) (y:=(yieldsIf_load_mid (by rfl) tR (.tmp 5) rfl (w.heap.size+1) 0 (by rfl) (cR ⟨hd,vt,s,ix,sz,dy,sr,ct,pl,rt,pa,si,pb,pc⟩).toList _ (fun _ h=>ycH h.2) Tryz.underlying35 rfl (ycl ⟨hd,vt,s,ix,sz,dy,sr,ct,pl,rt,pa,si,pb,pc⟩))) (h:=?_)
   try simp only [pt]
   refine rd1 1 (fun K hK=>?_)
   (go_simp;go_at_call 87;(with_reducible refine (HV.out _ yax).mono ?_);rintro e w4 ⟨rfl,hb4⟩;(have HBx:Hid (Below (w.heap.size+2) W1 w4):=Below.trans (B:=w.heap.size+2) yax (Below.mono hb4 (HS.out▸yaL)));clear hb4;go_wp2_with fail)
   refine hK.out _ _ yaf (fun hHeldpB1=>?_);clear hK K hHeld
   try simp only [pt]
   refine tkY 2 ?_;refine tkH (i:=3) (v:=_) (y:=(yieldsIf_load_mid (by rfl) tR (.tmp 5) rfl (w.heap.size+1) 0 (by rfl) (cR ⟨hd,vt,s,ix,sz,dy,sr,ct,pl,rt,pa,si,pb,pc⟩).toList _ (fun _ h=>ycH h.2) Tryz.underlying35 rfl (ycl ⟨hd,vt,s,ix,sz,dy,sr,ct,pl,rt,pa,si,pb,pc⟩))) (h:=?_)
   try simp only [pt]
   refine tkY 5 ?_;refine tkH (i:=6) (v:=?pB5v) (y:=(Or.inl ⟨by rfl,?pB5y⟩)) (h:=?pB5r)
   case pB5y=>(intro w hSw;(try dsimp only at hSw);(obtain ⟨k0,k1,k2,k3,k4,k5,k6,k7,k8,k9,k10,k11,k12,k13⟩:=ybe hSw.2);go_simp;try (with_reducible rfl))
   try simp only [pt]
   refine tkY 7 ?_;refine tkH (i:=8) (v:=?pB7v) (y:=(Or.inl ⟨by rfl,?pB7y⟩)) (h:=?pB7r)
   case pB7y=>(intro w hSw;(try dsimp only at hSw);(obtain ⟨k0,k1,k2,k3,k4,k5,k6,k7,k8,k9,k10,k11,k12,k13⟩:=ybe hSw.2);go_simp;try (with_reducible rfl))
   try simp only [pt]
   refine tkY 9 ?_;refine tkH (i:=10) (v:=?pB9v) (y:=(Or.inl ⟨by rfl,?pB9y⟩)) (h:=?pB9r)
   case pB9y=>(intro w hSw;(try dsimp only at hSw);(obtain ⟨k0,k1,k2,k3,k4,k5,k6,k7,k8,k9,k10,k11,k12,k13⟩:=ybe hSw.2);go_simp;try (with_reducible rfl))
   try simp only [pt]
   refine tkY 11 ?_;refine tkH (i:=12) (v:=?pB11v) (y:=(Or.inl ⟨by rfl,?pB11y⟩)) (h:=?pB11r)
   case pB11y=>(intro w hSw;(try dsimp only at hSw);(obtain ⟨k0,k1,k2,k3,k4,k5,k6,k7,k8,k9,k10,k11,k12,k13⟩:=ybe hSw.2);go_simp;try (with_reducible rfl))
   try simp only [pt]
   refine rd1 4 (fun K hK=>?_)
   (go_simp;go_at_call 89;(with_reducible refine (HL.out _ yax).mono ?_);rintro e w5 ⟨rfl,hb5⟩;(have HBx:Hid (Below (w.heap.size+2) W1 w5):=Below.trans (B:=w.heap.size+2) yax (Below.mono hb5 (HS.out▸yaL)));clear hb5;go_wp2_with fail)
   refine hK.out _ _ yaf (fun hHeldpB12=>?_);clear hK K hHeldpB1
   try simp only [pt]
   refine rd1 13 (fun K hK=>?_)
   (go_simp;go_at_call 88;(with_reducible refine (HM.out _ yax).mono ?_);rintro e w6 ⟨rfl,hb6⟩;(have HBx:Hid (Below (w.heap.size+2) W1 w6):=Below.trans (B:=w.heap.size+2) yax (Below.mono hb6 (HS.out▸yaL)));clear hb6;go_wp2_with fail)
   refine hK.out _ _ yaf (fun hHeldpB13=>?_);clear hK K hHeldpB12
   try simp only [pt]
   refine tkY 14 ?_;refine tkY 15 ?_;refine tkN 16 ?_;refine tkN 17 ?_;refine tkN 18 ?_;refine tkN 19 ?_;refine tkN 20 ?_;refine tkN 21 ?_;refine tkN 22 ?_;refine tkN 23 ?_;refine tkN 24 ?_;refine tkN 25 ?_;refine tkY 26 ?_;refine tkY 27 ?_;refine wpAnyH_done yaV ?_ _
   go_wp2_with fail
   go_ret;exact ⟨by rw [HF.out];rfl,HB.out.trans (HBx.out.mono (Nat.le_add_right _ 2))⟩
  |true=>
   rw [hm] at HM HF;rw [Bool.true_and] at HF;clear hm;go_enter Tryz.func43,Tryz.ntmps43
   go_upto_region 1 with fail
   rw [←HWE.out]
   go_wp2_with fail
   refine wp_region_held_drew (S:=(fun w'=>w'.heap[w.heap.size]? =some (.cells (cSc b h) 26 (0,0))∧w'.heap[w.heap.size+1]? =some (.cells (cR ⟨hd,vt,s,ix,sz,dy,sr,ct,pl,rt,pa,si,pb,pc⟩) tR (0,0)))) yaV yaf (fun hHeld=>?_);refine tkH (i:=0) (v:=_) (y:=(yieldsIf_load_mid (by rfl) tR (.tmp 5) rfl (w.heap.size+1) 0 (by rfl) (cR ⟨hd,vt,s,ix,sz,dy,sr,ct,pl,rt,pa,si,pb,pc⟩).toList _ (fun _ h=>ycH h.2) Tryz.underlying35 rfl (ycl ⟨hd,vt,s,ix,sz,dy,sr,ct,pl,rt,pa,si,pb,pc⟩))) (h:=?_)
   try simp only [pt]
   refine rd1 1 (fun K hK=>?_)
   (go_simp;go_at_call 87;(with_reducible refine (HV.out _ yax).mono ?_);rintro e w4 ⟨rfl,hb4⟩;(have HBx:Hid (Below (w.heap.size+2) W1 w4):=Below.trans (B:=w.heap.size+2) yax (Below.mono hb4 (HS.out▸yaL)));clear hb4;go_wp2_with fail)
   refine hK.out _ _ yaf (fun hHeldpC1=>?_);clear hK K hHeld
   try simp only [pt]
   refine tkY 2 ?_;refine tkH (i:=3) (v:=_) (y:=(yieldsIf_load_mid (by rfl) tR (.tmp 5) rfl (w.heap.size+1) 0 (by rfl) (cR ⟨hd,vt,s,ix,sz,dy,sr,ct,pl,rt,pa,si,pb,pc⟩).toList _ (fun _ h=>ycH h.2) Tryz.underlying35 rfl (ycl ⟨hd,vt,s,ix,sz,dy,sr,ct,pl,rt,pa,si,pb,pc⟩))) (h:=?_)
   try simp only [pt]
   refine tkY 5 ?_;refine tkH (i:=6) (v:=?pC5v) (y:=(Or.inl ⟨by rfl,?pC5y⟩)) (h:=?pC5r)
   case pC5y=>(intro w hSw;(try dsimp only at hSw);(obtain ⟨k0,k1,k2,k3,k4,k5,k6,k7,k8,k9,k10,k11,k12,k13⟩:=ybe hSw.2);go_simp;try (with_reducible rfl))
   try simp only [pt]
   refine tkY 7 ?_;refine tkH (i:=8) (v:=?pC7v) (y:=(Or.inl ⟨by rfl,?pC7y⟩)) (h:=?pC7r)
   case pC7y=>(intro w hSw;(try dsimp only at hSw);(obtain ⟨k0,k1,k2,k3,k4,k5,k6,k7,k8,k9,k10,k11,k12,k13⟩:=ybe hSw.2);go_simp;try (with_reducible rfl))
   try simp only [pt]
   refine tkY 9 ?_;refine tkH (i:=10) (v:=?pC9v) (y:=(Or.inl ⟨by rfl,?pC9y⟩)) (h:=?pC9r)
   case pC9y=>(intro w hSw;(try dsimp only at hSw);(obtain ⟨k0,k1,k2,k3,k4,k5,k6,k7,k8,k9,k10,k11,k12,k13⟩:=ybe hSw.2);go_simp;try (with_reducible rfl))
   try simp only [pt]
   refine tkY 11 ?_;refine tkH (i:=12) (v:=?pC11v) (y:=(Or.inl ⟨by rfl,?pC11y⟩)) (h:=?pC11r)
   case pC11y=>(intro w hSw;(try dsimp only at hSw);(obtain ⟨k0,k1,k2,k3,k4,k5,k6,k7,k8,k9,k10,k11,k12,k13⟩:=ybe hSw.2);go_simp;try (with_reducible rfl))
   try simp only [pt]
   refine rd1 4 (fun K hK=>?_)
   (go_simp;go_at_call 89;(with_reducible refine (HL.out _ yax).mono ?_);rintro e w5 ⟨rfl,hb5⟩;(have HBx:Hid (Below (w.heap.size+2) W1 w5):=Below.trans (B:=w.heap.size+2) yax (Below.mono hb5 (HS.out▸yaL)));clear hb5;go_wp2_with fail)
   refine hK.out _ _ yaf (fun hHeldpC12=>?_);clear hK K hHeldpC1
   try simp only [pt]
   refine rd1 13 (fun K hK=>?_)
   (go_simp;go_at_call 88;(with_reducible refine (HM.out _ yax).mono ?_);rintro e w6 ⟨rfl,hb6⟩;(have HBx:Hid (Below (w.heap.size+2) W1 w6):=Below.trans (B:=w.heap.size+2) yax (Below.mono hb6 (HS.out▸yaL)));clear hb6;go_wp2_with fail)
   refine hK.out _ _ yaf (fun hHeldpC13=>?_);clear hK K hHeldpC12
   try simp only [pt]
   refine tkY 14 ?_;refine tkY 15 ?_;refine tkH (i:=16) (v:=?pC16v) (y:=(Or.inl ⟨by rfl,?pC16y⟩)) (h:=?pC16r)
   case pC16y=>(intro w hSw;(try dsimp only at hSw);(obtain ⟨k0,k1⟩:=two_of hSw.1);go_simp;try (with_reducible rfl))
   try simp only [pt]
   refine tkY 17 ?_;refine tkY 18 ?_;refine tkH (i:=19) (v:=?pC19v) (y:=(Or.inl ⟨by rfl,?pC19y⟩)) (h:=?pC19r)
   case pC19y=>(intro w hSw;(try dsimp only at hSw);(obtain ⟨k0,k1,k2,k3,k4,k5,k6,k7,k8,k9,k10,k11,k12,k13⟩:=ybe hSw.2);go_simp;try (with_reducible rfl))
   try simp only [pt]
   refine tkY 20 ?_;refine tkH (i:=21) (v:=?pC21v) (y:=(Or.inl ⟨by rfl,?pC21y⟩)) (h:=?pC21r)
   case pC21y=>(intro w hSw;(try dsimp only at hSw);(obtain ⟨k0,k1,k2,k3,k4,k5,k6,k7,k8,k9,k10,k11,k12,k13⟩:=ybe hSw.2);go_simp;try (with_reducible rfl))
   try simp only [pt]
   refine tkY 23 ?_;refine tkH (i:=24) (v:=?pC23v) (y:=(Or.inl ⟨by rfl,?pC23y⟩)) (h:=?pC23r)
   case pC23y=>(intro w hSw;(try dsimp only at hSw);(obtain ⟨k0,k1,k2,k3,k4,k5,k6,k7,k8,k9,k10,k11,k12,k13⟩:=ybe hSw.2);go_simp;try (with_reducible rfl))
   try simp only [pt]
   refine rd1 22 (fun K hK=>?_)
   (go_simp;go_at_call 91;(with_reducible refine (HD.out _ yax).mono ?_);rintro e w7 ⟨rfl,hb7⟩;(have HBx:Hid (Below (w.heap.size+2) W1 w7):=Below.trans (B:=w.heap.size+2) yax (Below.mono hb7 (HS.out▸yaL)));clear hb7;go_wp2_with fail)
   refine hK.out _ _ yaf (fun hHeldpC24=>?_);clear hK K hHeldpC13
   try simp only [pt]
   refine rd1 25 (fun K hK=>?_)
   (go_simp;go_at_call 90;(with_reducible refine (HG.out _ yax).mono ?_);rintro e w8 ⟨rfl,hb8⟩;(have HBx:Hid (Below (w.heap.size+2) W1 w8):=Below.trans (B:=w.heap.size+2) yax (Below.mono hb8 (HS.out▸yaL)));clear hb8;go_wp2_with fail)
   refine hK.out _ _ yaf (fun hHeldpC25=>?_);clear hK K hHeldpC24
   try simp only [pt]
   refine tkY 26 ?_;refine tkY 27 ?_;refine wpAnyH_done yaV ?_ _
   go_wp2_with fail
   go_ret;exact ⟨by rw [HF.out];rfl,HB.out.trans (HBx.out.mono (Nat.le_add_right _ 2))⟩
