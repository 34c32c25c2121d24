import Derived.Test.YtpdledjgbgalcaaGreatDoorPr
namespace Go.Proofs.YtpdledjgbgalcaaGreatDoor
set_option maxRecDepth 100000
set_option maxHeartbeats 16000000
open Go.RowKit Go.Lib Go.Proofs.Tryz
set_option linter.unusedVariables false
set_option linter.unusedSimpArgs false
def rvB (pub:ByteArray) (b h:Int) (r:Rcp) (ps qs rs:List ByteArray):Bool:=
 vaB r ps qs rs&&(mvB (leafS (encS r)) r.pl.toNat r.ct.toNat ps r.rt&&(sgF b h r.si.toNat r.pb.n r.pc.n&&decide (sgR b (btS r.rt r.ct.toNat) r.si.toNat qs rs=pub)))
theorem rc_nat9 {r:Rcp} {ps qs rs:List ByteArray} (z:vaB r ps qs rs=true):∃hd vt ix sz dy sr ct pl si:Nat,r=⟨hd,vt,r.s,ix,sz,dy,sr,ct,pl,r.rt,r.pa,si,r.pb,r.pc⟩/\r.rt.size=32/\pl < ct/\ct<=256/\si < 256/\(ps.length<=8/\∀s∈ps,s.size=32)/\(rs.length<=8/\∀s∈rs,s.size=32)/\(qs.length<=300/\∀s∈qs,s.size=32):=by
 obtain ⟨U,T,Z,y3,M,O,W,N,Y,L,K,G,J,H⟩:=yb2 z;obtain ⟨hd,vt,s,ix,sz,dy,sr,ct,pl,rt,pa,si,pb,pc⟩:=r;dsimp only at U T Z y3 M O W N Y L H ⊢;refine ⟨hd.toNat,vt.toNat,ix.toNat,sz.toNat,dy.toNat,sr.toNat,ct.toNat,pl.toNat,si.toNat,?_,L,by omega,by omega,by omega,K,G,J⟩
 congr 1<;>omega
theorem two_of {w:World} {a:Nat} {t:TypeId} {b h:Int} (q:w.heap[a]? =some (.cells (cSc b h) t (0,0))):w.cell? ⟨a,0,none⟩=some (.int .i64 b)/\w.cell? ⟨a,1,none⟩=some (.int .i64 h):=by
 refine ⟨?_,?_⟩<;>(rw [cell_of_row w _ _ _ _ _ q];rfl)
theorem rcverify_any (aa:ByteArray) (b h:Int) (r:Rcp) (ps qs rs:List ByteArray) (B:Nat) (w:World) (hG:Glob w) (hx:RcIn w B r ps qs rs) (hB:B<=w.heap.size) (au:r.pa.n<=r.pa.c):
 Calls prog 43 #[.string aa,.agg (cSc b h),.agg (cR r)] w fun e J=>e= .returned (.bool (rvB aa b h r ps qs rs))/\Below w.heap.size w J:=by
 have HF:Hid (rvB aa b h r ps qs rs=(vaB r ps qs rs&&(mvB (leafS (encS r)) r.pl.toNat r.ct.toNat ps r.rt&&(sgF b h r.si.toNat r.pb.n r.pc.n&&decide (sgR b (btS r.rt r.ct.toNat) r.si.toNat qs rs=aa))))):=rfl;obtain ⟨H,ac⟩:∃H:World,H=(w.alloc (.cells (cSc b h) 26)).alloc (.cells (cR r) tR):=⟨_,rfl⟩
 have aA:H.heap.size=w.heap.size+2:=by rw [ac];simp
 have aB:H.heap[w.heap.size]? =some (.cells (cSc b h) 26 (0,0)):=by
  rw [ac];exact (zx _ _ _ sI).trans (zy w _)
 have aw:H.heap[w.heap.size+1]? =some (.cells (cR r) tR (0,0)):=by
  rw [ac];have:=zy (w.alloc (.cells (cSc b h) 26)) (.cells (cR r) tR);simpa using this
 have HC:Hid (∀V,Below (w.heap.size+2) H V->V.heap[w.heap.size]? =some (.cells (cSc b h) 26 (0,0))/\V.heap[w.heap.size+1]? =some (.cells (cR r) tR (0,0))):=fun V U=>⟨(U.block _ om).trans aB,(U.block _ om).trans aw⟩
 have HB:Hid (Below w.heap.size w H):=by
  show Below ..
  rw [ac];exact bl.alloc sI _
 have HS:=lh aA;have HWE:=lh ac;have HB1:Hid (Below (w.heap.size+2) H H):=Below.refl _ _
 have Z:Hid (∀V,Below (w.heap.size+2) H V->RcIn V B r ps qs rs/\B<=V.heap.size/\Below w.heap.size w V):=fun V U=>by
  have L:Below w.heap.size w V:=HB.out.trans (U.mono (Nat.le_add_right _ 2));exact ⟨hx.up L hB,Nat.le_trans hB L.size,L⟩
 clear aB aw aA ac;have HV:Hid (∀V,Below (w.heap.size+2) H V->Calls prog 87 #[.agg (cR r)] V fun e J=>e= .returned (.bool (vaB r ps qs rs))/\Below V.heap.size V J):=fun V U=>valid_any r ps qs rs B V (Z.out V U).1 (Z.out V U).2.1
 cases U:vaB r ps qs rs with
 |false=>
  rw [U] at HV HF;rw [Bool.false_and] at HF;clear hx hB U au hG;go_enter func43,ntmps43;go_upto_region 1 with fail
  rw [<-HWE.out];go_wp2_with fail;refine rH (S:=(fun J=>J.heap[w.heap.size]? =some (.cells (cSc b h) 26 (0,0))/\J.heap[w.heap.size+1]? =some (.cells (cR r) tR (0,0)))) ya9 yam (fun W=>?_);refine tkH (i:=0) (v:=_) (y:=(yieldsIf_load_mid (by rfl) tR (.tmp 5) rfl (w.heap.size+1) 0 (by rfl) (cR r).toList _ (fun _ h=>yb3 h.2) underlying35 rfl (ybJ r))) (h:=?_)
  try simp only [pt]
  refine rd1 1 (fun K G=>?_)
  (go_simp;go_at_call 87;(with_reducible refine (HV.out _ yaD).mono ?_);rintro e w4 ⟨rfl,Y⟩;(have HBx:Hid (Below (w.heap.size+2) H w4):=Below.trans (B:=w.heap.size+2) yaD (Below.mono Y (HS.out▸yaU)));clear Y;go_wp2_with fail)
  refine G.out _ _ yam (fun aF=>?_);clear G K W
  try simp only [pt]
  refine tkY 2 ?_;refine tkN 3 ?_;refine tkN 4 ?_;refine tkN 5 ?_;refine tkN 6 ?_;refine tkN 7 ?_;refine tkN 8 ?_;refine tkN 9 ?_;refine tkN 10 ?_;refine tkN 11 ?_;refine tkN 12 ?_;refine tkN 13 ?_
  (iterate 2 refine tkA ?_)
  refine tkN 16 ?_;refine tkN 17 ?_;refine tkN 18 ?_;refine tkN 19 ?_;refine tkN 20 ?_;refine tkN 21 ?_;refine tkN 22 ?_;refine tkN 23 ?_;refine tkN 24 ?_;refine tkN 25 ?_
  (iterate 2 refine tkA ?_)
  refine wpAnyH_done ya9 ?_ _;go_wp2_with fail;go_ret;exact ⟨by rw [HF.out];rfl,HB.out.trans (HBx.out.mono (Nat.le_add_right _ 2))⟩
 |true=>
  rw [U] at HV HF;rw [Bool.true_and] at HF;obtain ⟨hd,vt,ix,sz,dy,sr,ct,pl,si,hr,g1,g2,g3,g4,⟨g5,g6⟩,⟨g7,g8⟩,⟨g9,az⟩⟩:=rc_nat9 U;have ax:=U;obtain ⟨aL,aO,s,aN,aM,aK,aI,aH,aG,rt,pa,aJ,pb,pc⟩:=r;injection hr with e1 e2 _ e4 e5 e6 e7 e8 e9 _ _ e12 _ _;subst e1 e2 e4 e5 e6 e7 e8 e9 e12;dsimp only at g1 au HF;rw [Int.toNat_natCast,Int.toNat_natCast,Int.toNat_natCast] at HF;have p1:pa.n<=8:=by have:=(hx.1).1;dsimp only at this;omega
  have p2:pb.n<=300:=by have:=(hx.2.1).1;dsimp only at this;omega
  have p3:pc.n<=8:=by have:=(hx.2.2).1;dsimp only at this;omega
  obtain ⟨lf,ar⟩:=gx (leafS (encS ⟨hd,vt,s,ix,sz,dy,sr,ct,pl,rt,pa,si,pb,pc⟩));have ap:lf.size=32:=by rw [<-ar];exact ycn _
  obtain ⟨dg,ao⟩:=gx (btS rt ct);have aq:dg.size=32:=by rw [<-ao];exact btS_size _ _
  rw [ar,ao] at HF;have HL:Hid (∀V,Below (w.heap.size+2) H V->Calls prog 89 #[.agg (cR ⟨hd,vt,s,ix,sz,dy,sr,ct,pl,rt,pa,si,pb,pc⟩)] V fun e J=>e= .returned (.string lf)/\Below V.heap.size V J):=fun V L=>ar▸leaf_any ⟨hd,vt,s,ix,sz,dy,sr,ct,pl,rt,pa,si,pb,pc⟩ ps qs rs V (hG.on (Z.out V L).2.2) ax;have HM:Hid (∀V,Below (w.heap.size+2) H V->Calls prog 88 #[.string lf,.int .i64 pl,.int .i64 ct,.slice pa.a pa.n pa.c,.string rt] V fun e J=>e= .returned (.bool (mvB lf pl ct ps rt))/\Below V.heap.size V J):=fun V L=>mverify_any lf pl ct pa.a pa.n pa.c B ps rt V (hG.on (Z.out V L).2.2) ap g1 g2 g3 (Z.out V L).1.1 (Z.out V L).2.1 au p1 g6;have HD:Hid (∀V,Below (w.heap.size+2) H V->Calls prog 91 #[.string rt,.int .i64 ct] V fun e J=>e= .returned (.string dg)/\Below V.heap.size V J):=fun V L=>ao▸batch_any rt ct V (hG.on (Z.out V L).2.2) g1 g3;have HG:Hid (∀V,Below (w.heap.size+2) H V->Calls prog 90 #[.agg (cSc b h),.string aa,.string dg,.agg (cSg si pb.a pb.n pb.c pc.a pc.n pc.c)] V fun e J=>e= .returned (.bool (sgF b h si pb.n pc.n&&decide (sgR b dg si qs rs=aa)))/\Below V.heap.size V J):=fun V L=>sgverify_any b h dg aq si g4 pb.a pc.a pb.n pc.n pb.c pc.c B qs rs V (hG.on (Z.out V L).2.2) (Z.out V L).1.2.1 (Z.out V L).1.2.2 (Z.out V L).2.1 p2 p3 az g8 aa;clear hx hB U ax au hG ar ao g1 g2 g3 g4 g5 g6 g7 g8 g9 az ap aq
  cases hm:mvB lf pl ct ps rt with
  |false=>
   rw [hm] at HM HF;rw [Bool.false_and] at HF;clear hm;go_enter func43,ntmps43;go_upto_region 1 with fail
   rw [<-HWE.out];go_wp2_with fail;refine rH (S:=(fun J=>J.heap[w.heap.size]? =some (.cells (cSc b h) 26 (0,0))/\J.heap[w.heap.size+1]? =some (.cells (cR ⟨hd,vt,s,ix,sz,dy,sr,ct,pl,rt,pa,si,pb,pc⟩) tR (0,0)))) ya9 yam (fun W=>?_);refine tkH (i:=0) (v:=_) (y:=(yieldsIf_load_mid (by rfl) tR (.tmp 5) rfl (w.heap.size+1) 0 (by rfl) (cR ⟨hd,vt,s,ix,sz,dy,sr,ct,pl,rt,pa,si,pb,pc⟩).toList _ (fun _ h=>yb3 h.2) underlying35 rfl (ybJ ⟨hd,vt,s,ix,sz,dy,sr,ct,pl,rt,pa,si,pb,pc⟩))) (h:=?_)
   try simp only [pt]
   refine rd1 1 (fun K G=>?_)
   (go_simp;go_at_call 87;(with_reducible refine (HV.out _ yaD).mono ?_);rintro e w4 ⟨rfl,Y⟩;(have HBx:Hid (Below (w.heap.size+2) H w4):=Below.trans (B:=w.heap.size+2) yaD (Below.mono Y (HS.out▸yaU)));clear Y;go_wp2_with fail)
   refine G.out _ _ yam (fun ak=>?_);clear G K W
   try simp only [pt]
   refine tkY 2 ?_;refine tkH (i:=3) (v:=_) (y:=(yieldsIf_load_mid (by rfl) tR (.tmp 5) rfl (w.heap.size+1) 0 (by rfl) (cR ⟨hd,vt,s,ix,sz,dy,sr,ct,pl,rt,pa,si,pb,pc⟩).toList _ (fun _ h=>yb3 h.2) underlying35 rfl (ybJ ⟨hd,vt,s,ix,sz,dy,sr,ct,pl,rt,pa,si,pb,pc⟩))) (h:=?_)
   try simp only [pt]
   refine tkY 5 ?_;refine tkH (i:=6) (v:=?pB5v) (y:=(Or.inl ⟨by rfl,?pB5y⟩)) (h:=?pB5r);case pB5y=>(intro w hSw;(try dsimp only at hSw);(obtain ⟨k0,z,k2,k3,k4,k5,k6,k7,k8,k9,T,M,O,N⟩:=ybj hSw.2);go_simp;try (with_reducible rfl))
   try simp only [pt]
   refine tkY 7 ?_;refine tkH (i:=8) (v:=?pB7v) (y:=(Or.inl ⟨by rfl,?pB7y⟩)) (h:=?pB7r);case pB7y=>(intro w hSw;(try dsimp only at hSw);(obtain ⟨k0,z,k2,k3,k4,k5,k6,k7,k8,k9,T,M,O,N⟩:=ybj hSw.2);go_simp;try (with_reducible rfl))
   try simp only [pt]
   refine tkY 9 ?_;refine tkH (i:=10) (v:=?pB9v) (y:=(Or.inl ⟨by rfl,?pB9y⟩)) (h:=?pB9r);case pB9y=>(intro w hSw;(try dsimp only at hSw);(obtain ⟨k0,z,k2,k3,k4,k5,k6,k7,k8,k9,T,M,O,N⟩:=ybj hSw.2);go_simp;try (with_reducible rfl))
   try simp only [pt]
   refine tkY 11 ?_;refine tkH (i:=12) (v:=?pB11v) (y:=(Or.inl ⟨by rfl,?pB11y⟩)) (h:=?pB11r);case pB11y=>(intro w hSw;(try dsimp only at hSw);(obtain ⟨k0,z,k2,k3,k4,k5,k6,k7,k8,k9,T,M,O,N⟩:=ybj hSw.2);go_simp;try (with_reducible rfl))
   try simp only [pt]
   refine rd1 4 (fun K G=>?_)
   (go_simp;go_at_call 89;(with_reducible refine (HL.out _ yaD).mono ?_);rintro e w5 ⟨rfl,af⟩;(have HBx:Hid (Below (w.heap.size+2) H w5):=Below.trans (B:=w.heap.size+2) yaD (Below.mono af (HS.out▸yaU)));clear af;go_wp2_with fail)
   refine G.out _ _ yam (fun ag=>?_);clear G K ak
   try simp only [pt]
   refine rd1 13 (fun K G=>?_)
   (go_simp;go_at_call 88;(with_reducible refine (HM.out _ yaD).mono ?_);rintro e w6 ⟨rfl,ah⟩;(have HBx:Hid (Below (w.heap.size+2) H w6):=Below.trans (B:=w.heap.size+2) yaD (Below.mono ah (HS.out▸yaU)));clear ah;go_wp2_with fail)
   refine G.out _ _ yam (fun ay=>?_);clear G K ag
   try simp only [pt]
   refine tkY 14 ?_;refine tkY 15 ?_;refine tkN 16 ?_;refine tkN 17 ?_;refine tkN 18 ?_;refine tkN 19 ?_;refine tkN 20 ?_;refine tkN 21 ?_;refine tkN 22 ?_;refine tkN 23 ?_;refine tkN 24 ?_;refine tkN 25 ?_;refine tkY 26 ?_;refine tkY 27 ?_;refine wpAnyH_done ya9 ?_ _;go_wp2_with fail;go_ret;exact ⟨by rw [HF.out];rfl,HB.out.trans (HBx.out.mono (Nat.le_add_right _ 2))⟩
  |true=>
   rw [hm] at HM HF;rw [Bool.true_and] at HF;clear hm;go_enter func43,ntmps43;go_upto_region 1 with fail
   rw [<-HWE.out];go_wp2_with fail;refine rH (S:=(fun J=>J.heap[w.heap.size]? =some (.cells (cSc b h) 26 (0,0))/\J.heap[w.heap.size+1]? =some (.cells (cR ⟨hd,vt,s,ix,sz,dy,sr,ct,pl,rt,pa,si,pb,pc⟩) tR (0,0)))) ya9 yam (fun W=>?_);refine tkH (i:=0) (v:=_) (y:=(yieldsIf_load_mid (by rfl) tR (.tmp 5) rfl (w.heap.size+1) 0 (by rfl) (cR ⟨hd,vt,s,ix,sz,dy,sr,ct,pl,rt,pa,si,pb,pc⟩).toList _ (fun _ h=>yb3 h.2) underlying35 rfl (ybJ ⟨hd,vt,s,ix,sz,dy,sr,ct,pl,rt,pa,si,pb,pc⟩))) (h:=?_)
   try simp only [pt]
   refine rd1 1 (fun K G=>?_)
   (go_simp;go_at_call 87;(with_reducible refine (HV.out _ yaD).mono ?_);rintro e w4 ⟨rfl,Y⟩;(have HBx:Hid (Below (w.heap.size+2) H w4):=Below.trans (B:=w.heap.size+2) yaD (Below.mono Y (HS.out▸yaU)));clear Y;go_wp2_with fail)
   refine G.out _ _ yam (fun am=>?_);clear G K W
   try simp only [pt]
   refine tkY 2 ?_;refine tkH (i:=3) (v:=_) (y:=(yieldsIf_load_mid (by rfl) tR (.tmp 5) rfl (w.heap.size+1) 0 (by rfl) (cR ⟨hd,vt,s,ix,sz,dy,sr,ct,pl,rt,pa,si,pb,pc⟩).toList _ (fun _ h=>yb3 h.2) underlying35 rfl (ybJ ⟨hd,vt,s,ix,sz,dy,sr,ct,pl,rt,pa,si,pb,pc⟩))) (h:=?_)
   try simp only [pt]
   refine tkY 5 ?_;refine tkH (i:=6) (v:=?pC5v) (y:=(Or.inl ⟨by rfl,?pC5y⟩)) (h:=?pC5r);case pC5y=>(intro w hSw;(try dsimp only at hSw);(obtain ⟨k0,z,k2,k3,k4,k5,k6,k7,k8,k9,T,M,O,N⟩:=ybj hSw.2);go_simp;try (with_reducible rfl))
   try simp only [pt]
   refine tkY 7 ?_;refine tkH (i:=8) (v:=?pC7v) (y:=(Or.inl ⟨by rfl,?pC7y⟩)) (h:=?pC7r);case pC7y=>(intro w hSw;(try dsimp only at hSw);(obtain ⟨k0,z,k2,k3,k4,k5,k6,k7,k8,k9,T,M,O,N⟩:=ybj hSw.2);go_simp;try (with_reducible rfl))
   try simp only [pt]
   refine tkY 9 ?_;refine tkH (i:=10) (v:=?pC9v) (y:=(Or.inl ⟨by rfl,?pC9y⟩)) (h:=?pC9r);case pC9y=>(intro w hSw;(try dsimp only at hSw);(obtain ⟨k0,z,k2,k3,k4,k5,k6,k7,k8,k9,T,M,O,N⟩:=ybj hSw.2);go_simp;try (with_reducible rfl))
   try simp only [pt]
   refine tkY 11 ?_;refine tkH (i:=12) (v:=?pC11v) (y:=(Or.inl ⟨by rfl,?pC11y⟩)) (h:=?pC11r);case pC11y=>(intro w hSw;(try dsimp only at hSw);(obtain ⟨k0,z,k2,k3,k4,k5,k6,k7,k8,k9,T,M,O,N⟩:=ybj hSw.2);go_simp;try (with_reducible rfl))
   try simp only [pt]
   refine rd1 4 (fun K G=>?_)
   (go_simp;go_at_call 89;(with_reducible refine (HL.out _ yaD).mono ?_);rintro e w5 ⟨rfl,af⟩;(have HBx:Hid (Below (w.heap.size+2) H w5):=Below.trans (B:=w.heap.size+2) yaD (Below.mono af (HS.out▸yaU)));clear af;go_wp2_with fail)
   refine G.out _ _ yam (fun ae=>?_);clear G K am
   try simp only [pt]
   refine rd1 13 (fun K G=>?_)
   (go_simp;go_at_call 88;(with_reducible refine (HM.out _ yaD).mono ?_);rintro e w6 ⟨rfl,ah⟩;(have HBx:Hid (Below (w.heap.size+2) H w6):=Below.trans (B:=w.heap.size+2) yaD (Below.mono ah (HS.out▸yaU)));clear ah;go_wp2_with fail)
   refine G.out _ _ yam (fun ai=>?_);clear G K ae
   try simp only [pt]
   refine tkY 14 ?_;refine tkY 15 ?_;refine tkH (i:=16) (v:=?pC16v) (y:=(Or.inl ⟨by rfl,?pC16y⟩)) (h:=?pC16r);case pC16y=>(intro w hSw;(try dsimp only at hSw);(obtain ⟨k0,z⟩:=two_of hSw.1);go_simp;try (with_reducible rfl))
   try simp only [pt]
   refine tkY 17 ?_;refine tkY 18 ?_;refine tkH (i:=19) (v:=?pC19v) (y:=(Or.inl ⟨by rfl,?pC19y⟩)) (h:=?pC19r);case pC19y=>(intro w hSw;(try dsimp only at hSw);(obtain ⟨k0,z,k2,k3,k4,k5,k6,k7,k8,k9,T,M,O,N⟩:=ybj hSw.2);go_simp;try (with_reducible rfl))
   try simp only [pt]
   refine tkY 20 ?_;refine tkH (i:=21) (v:=?pC21v) (y:=(Or.inl ⟨by rfl,?pC21y⟩)) (h:=?pC21r);case pC21y=>(intro w hSw;(try dsimp only at hSw);(obtain ⟨k0,z,k2,k3,k4,k5,k6,k7,k8,k9,T,M,O,N⟩:=ybj hSw.2);go_simp;try (with_reducible rfl))
   try simp only [pt]
   refine tkY 23 ?_;refine tkH (i:=24) (v:=?pC23v) (y:=(Or.inl ⟨by rfl,?pC23y⟩)) (h:=?pC23r);case pC23y=>(intro w hSw;(try dsimp only at hSw);(obtain ⟨k0,z,k2,k3,k4,k5,k6,k7,k8,k9,T,M,O,N⟩:=ybj hSw.2);go_simp;try (with_reducible rfl))
   try simp only [pt]
   refine rd1 22 (fun K G=>?_)
   (go_simp;go_at_call 91;(with_reducible refine (HD.out _ yaD).mono ?_);rintro e w7 ⟨rfl,aD⟩;(have HBx:Hid (Below (w.heap.size+2) H w7):=Below.trans (B:=w.heap.size+2) yaD (Below.mono aD (HS.out▸yaU)));clear aD;go_wp2_with fail)
   refine G.out _ _ yam (fun aj=>?_);clear G K ai
   try simp only [pt]
   refine rd1 25 (fun K G=>?_)
   (go_simp;go_at_call 90;(with_reducible refine (HG.out _ yaD).mono ?_);rintro e w8 ⟨rfl,aC⟩;(have HBx:Hid (Below (w.heap.size+2) H w8):=Below.trans (B:=w.heap.size+2) yaD (Below.mono aC (HS.out▸yaU)));clear aC;go_wp2_with fail)
   refine G.out _ _ yam (fun aE=>?_);clear G K aj
   try simp only [pt]
   refine tkY 26 ?_;refine tkY 27 ?_;refine wpAnyH_done ya9 ?_ _;go_wp2_with fail;go_ret;exact ⟨by rw [HF.out];rfl,HB.out.trans (HBx.out.mono (Nat.le_add_right _ 2))⟩
theorem rgverify_any (aq:ByteArray) (b h:Int) (r:Rcp) (ps qs rs:List ByteArray) (B:Nat) (w:World) (hx:RcIn w B r ps qs rs) (hB:B<=w.heap.size) (ar:r.pa.n<=r.pa.c) (ai:r.pa.n<=1000000) (am:r.pb.n<=1000000) (aj:r.pc.n<=1000000):
 Calls prog 47 #[.string aq,.agg (cSc b h),.agg (cR r)] w fun e J=>e= .returned (.bool (rvB aq b h r ps qs rs))/\Below w.heap.size w J:=by
 have HF:Hid (rvB aq b h r ps qs rs=(vaB r ps qs rs&&(mvB (leafS (encS r)) r.pl.toNat r.ct.toNat ps r.rt&&(sgF b h r.si.toNat r.pb.n r.pc.n&&decide (sgR b (btS r.rt r.ct.toNat) r.si.toNat qs rs=aq))))):=rfl;obtain ⟨H,aa⟩:∃H:World,H=(w.alloc (.cells (cSc b h) 26)).alloc (.cells (cR r) tR):=⟨_,rfl⟩
 have aG:H.heap.size=w.heap.size+2:=by rw [aa];simp
 have aI:H.heap[w.heap.size]? =some (.cells (cSc b h) 26 (0,0)):=by
  rw [aa];exact (zx _ _ _ sI).trans (zy w _)
 have ay:H.heap[w.heap.size+1]? =some (.cells (cR r) tR (0,0)):=by
  rw [aa];have:=zy (w.alloc (.cells (cSc b h) 26)) (.cells (cR r) tR);simpa using this
 have HC:Hid (∀V,Below (w.heap.size+2) H V->V.heap[w.heap.size]? =some (.cells (cSc b h) 26 (0,0))/\V.heap[w.heap.size+1]? =some (.cells (cR r) tR (0,0))):=fun V U=>⟨(U.block _ om).trans aI,(U.block _ om).trans ay⟩
 have HB:Hid (Below w.heap.size w H):=by
  show Below ..
  rw [aa];exact bl.alloc sI _
 have HS:=lh aG;have HWE:=lh aa;have HB1:Hid (Below (w.heap.size+2) H H):=Below.refl _ _
 have HX:Hid (∀V,Below (w.heap.size+2) H V->RcIn V B r ps qs rs/\B<=V.heap.size/\Below w.heap.size w V):=fun V U=>by
  have Y:Below w.heap.size w V:=HB.out.trans (U.mono (Nat.le_add_right _ 2));exact ⟨hx.up Y hB,Nat.le_trans hB Y.size,Y⟩
 clear aI ay aG aa;have HV:Hid (∀V,Below (w.heap.size+2) H V->Calls prog 45 #[.agg (cR r)] V fun e J=>e= .returned (.bool (vaB r ps qs rs))/\Below V.heap.size V J):=fun V U=>ydc r ps qs rs B V (HX.out V U).1 (HX.out V U).2.1 ai am aj
 cases U:vaB r ps qs rs with
 |false=>
  rw [U] at HV HF;rw [Bool.false_and] at HF;clear hx hB U ar ai am aj;go_enter func47,ntmps47;go_upto_region 1 with fail
  rw [<-HWE.out];go_wp2_with fail;refine rH (S:=(fun J=>J.heap[w.heap.size]? =some (.cells (cSc b h) 26 (0,0))/\J.heap[w.heap.size+1]? =some (.cells (cR r) tR (0,0)))) ya9 yam (fun L=>?_);refine tkH (i:=0) (v:=_) (y:=(yieldsIf_load_mid (by rfl) tR (.tmp 5) rfl (w.heap.size+1) 0 (by rfl) (cR r).toList _ (fun _ h=>yb3 h.2) underlying35 rfl (ybJ r))) (h:=?_)
  try simp only [pt]
  refine rd1 1 (fun K G=>?_)
  (go_simp;go_at_call 45;(with_reducible refine (HV.out _ yaD).mono ?_);rintro e w4 ⟨rfl,W⟩;(have HBx:Hid (Below (w.heap.size+2) H w4):=Below.trans (B:=w.heap.size+2) yaD (Below.mono W (HS.out▸yaU)));clear W;go_wp2_with fail)
  refine G.out _ _ yam (fun aK=>?_);clear G K L
  try simp only [pt]
  (iterate 2 refine tkA ?_)
  refine tkN 4 ?_;refine tkN 5 ?_;refine tkN 6 ?_;refine tkN 7 ?_;refine tkN 8 ?_;refine tkN 9 ?_;refine tkN 10 ?_;refine tkN 11 ?_;refine tkN 12 ?_;refine tkN 13 ?_;refine tkN 14 ?_;refine tkN 15 ?_;refine tkY 16 ?_;refine wpAnyH_done ya9 ?_ _;go_wp2_with fail;go_ret;exact ⟨by rw [HF.out];rfl,HB.out.trans (HBx.out.mono (Nat.le_add_right _ 2))⟩
 |true=>
  rw [U] at HV HF;rw [Bool.true_and] at HF;obtain ⟨hd,vt,ix,sz,dy,sr,ct,pl,si,hr,g1,g2,g3,g4,⟨g5,g6⟩,⟨g7,g8⟩,⟨g9,aH⟩⟩:=rc_nat9 U;have aD:=U;obtain ⟨aP,aV,s,aU,aT,aM,aR,aW,aO,rt,pa,aS,pb,pc⟩:=r;injection hr with e1 e2 _ e4 e5 e6 e7 e8 e9 _ _ e12 _ _;subst e1 e2 e4 e5 e6 e7 e8 e9 e12;dsimp only at g1 ar HF;rw [Int.toNat_natCast,Int.toNat_natCast,Int.toNat_natCast] at HF;have p1:pa.n<=8:=by have:=(hx.1).1;dsimp only at this;omega
  have p2:pb.n<=300:=by have:=(hx.2.1).1;dsimp only at this;omega
  have p3:pc.n<=8:=by have:=(hx.2.2).1;dsimp only at this;omega
  obtain ⟨lf,ax⟩:=gx (leafS (encS ⟨hd,vt,s,ix,sz,dy,sr,ct,pl,rt,pa,si,pb,pc⟩));have ap:lf.size=32:=by rw [<-ax];exact ycn _
  obtain ⟨dg,aw⟩:=gx (btS rt ct);have au:dg.size=32:=by rw [<-aw];exact btS_size _ _
  rw [ax,aw] at HF;have HL:Hid (∀V,Below (w.heap.size+2) H V->Calls prog 96 #[.agg (cR ⟨hd,vt,s,ix,sz,dy,sr,ct,pl,rt,pa,si,pb,pc⟩)] V fun e J=>e= .returned (.string lf)/\Below V.heap.size V J):=fun V Y=>ax▸rcleaf_any ⟨hd,vt,s,ix,sz,dy,sr,ct,pl,rt,pa,si,pb,pc⟩ ps qs rs V aD;have HM:Hid (∀V,Below (w.heap.size+2) H V->Calls prog 95 #[.string lf,.int .i64 pl,.int .i64 ct,.slice pa.a pa.n pa.c,.string rt] V fun e J=>e= .returned (.bool (mvB lf pl ct ps rt))/\Below V.heap.size V J):=fun V Y=>rverify_any lf pl ct pa.a pa.n pa.c B ps rt V ap g1 g2 g3 (HX.out V Y).1.1 (HX.out V Y).2.1 ar p1 g6;have HD:Hid (∀V,Below (w.heap.size+2) H V->Calls prog 98 #[.string rt,.int .i64 ct] V fun e J=>e= .returned (.string dg)/\Below V.heap.size V J):=fun V Y=>aw▸rbatch_any rt ct V g1 g3;have HG:Hid (∀V,Below (w.heap.size+2) H V->Calls prog 97 #[.agg (cSc b h),.string dg,.agg (cSg si pb.a pb.n pb.c pc.a pc.n pc.c)] V fun e J=>∃r er,e= .returned (.tuple #[.string r,.int .i64 er])/\(er=0/\sgF b h si pb.n pc.n=true/\r=sgR b dg si qs rs∨er=1/\sgF b h si pb.n pc.n=false)/\Below V.heap.size V J):=fun V Y=>rgroot_any b h dg au si g4 pb.a pc.a pb.n pc.n pb.c pc.c B qs rs V (HX.out V Y).1.2.1 (HX.out V Y).1.2.2 (HX.out V Y).2.1 p2 p3 aH g8;clear hx hB U aD ar ax aw g1 g2 g3 g4 g5 g6 g7 g8 g9 aH ap au ai am aj
  cases hm:mvB lf pl ct ps rt with
  |false=>
   rw [hm] at HM HF;rw [Bool.false_and] at HF;clear hm;go_enter func47,ntmps47;go_upto_region 1 with fail
   rw [<-HWE.out];go_wp2_with fail;refine rH (S:=(fun J=>J.heap[w.heap.size]? =some (.cells (cSc b h) 26 (0,0))/\J.heap[w.heap.size+1]? =some (.cells (cR ⟨hd,vt,s,ix,sz,dy,sr,ct,pl,rt,pa,si,pb,pc⟩) tR (0,0)))) ya9 yam (fun L=>?_);refine tkH (i:=0) (v:=_) (y:=(yieldsIf_load_mid (by rfl) tR (.tmp 5) rfl (w.heap.size+1) 0 (by rfl) (cR ⟨hd,vt,s,ix,sz,dy,sr,ct,pl,rt,pa,si,pb,pc⟩).toList _ (fun _ h=>yb3 h.2) underlying35 rfl (ybJ ⟨hd,vt,s,ix,sz,dy,sr,ct,pl,rt,pa,si,pb,pc⟩))) (h:=?_)
   try simp only [pt]
   refine rd1 1 (fun K G=>?_)
   (go_simp;go_at_call 45;(with_reducible refine (HV.out _ yaD).mono ?_);rintro e w4 ⟨rfl,W⟩;(have HBx:Hid (Below (w.heap.size+2) H w4):=Below.trans (B:=w.heap.size+2) yaD (Below.mono W (HS.out▸yaU)));clear W;go_wp2_with fail)
   refine G.out _ _ yam (fun ao=>?_);clear G K L
   try simp only [pt]
   (iterate 2 refine tkA ?_)
   refine tkH (i:=4) (v:=_) (y:=(yieldsIf_load_mid (by rfl) tR (.tmp 5) rfl (w.heap.size+1) 0 (by rfl) (cR ⟨hd,vt,s,ix,sz,dy,sr,ct,pl,rt,pa,si,pb,pc⟩).toList _ (fun _ h=>yb3 h.2) underlying35 rfl (ybJ ⟨hd,vt,s,ix,sz,dy,sr,ct,pl,rt,pa,si,pb,pc⟩))) (h:=?_)
   try simp only [pt]
   refine tkY 6 ?_;refine tkH (i:=7) (v:=?gB6v) (y:=(Or.inl ⟨by rfl,?gB6y⟩)) (h:=?gB6r);case gB6y=>(intro w hSw;(try dsimp only at hSw);(obtain ⟨z,Z,k2,k3,k4,k5,k6,k7,k8,k9,T,M,O,N⟩:=ybj hSw.2);go_simp;try (with_reducible rfl))
   try simp only [pt]
   refine tkY 8 ?_;refine tkH (i:=9) (v:=?gB8v) (y:=(Or.inl ⟨by rfl,?gB8y⟩)) (h:=?gB8r);case gB8y=>(intro w hSw;(try dsimp only at hSw);(obtain ⟨z,Z,k2,k3,k4,k5,k6,k7,k8,k9,T,M,O,N⟩:=ybj hSw.2);go_simp;try (with_reducible rfl))
   try simp only [pt]
   refine tkY 10 ?_;refine tkH (i:=11) (v:=?gB10v) (y:=(Or.inl ⟨by rfl,?gB10y⟩)) (h:=?gB10r);case gB10y=>(intro w hSw;(try dsimp only at hSw);(obtain ⟨z,Z,k2,k3,k4,k5,k6,k7,k8,k9,T,M,O,N⟩:=ybj hSw.2);go_simp;try (with_reducible rfl))
   try simp only [pt]
   refine tkY 12 ?_;refine tkH (i:=13) (v:=?gB12v) (y:=(Or.inl ⟨by rfl,?gB12y⟩)) (h:=?gB12r);case gB12y=>(intro w hSw;(try dsimp only at hSw);(obtain ⟨z,Z,k2,k3,k4,k5,k6,k7,k8,k9,T,M,O,N⟩:=ybj hSw.2);go_simp;try (with_reducible rfl))
   try simp only [pt]
   refine rd1 5 (fun K G=>?_)
   (go_simp;go_at_call 96;(with_reducible refine (HL.out _ yaD).mono ?_);rintro e w5 ⟨rfl,ac⟩;(have HBx:Hid (Below (w.heap.size+2) H w5):=Below.trans (B:=w.heap.size+2) yaD (Below.mono ac (HS.out▸yaU)));clear ac;go_wp2_with fail)
   refine G.out _ _ yam (fun ag=>?_);clear G K ao
   try simp only [pt]
   refine rd1 14 (fun K G=>?_)
   (go_simp;go_at_call 95;(with_reducible refine (HM.out _ yaD).mono ?_);rintro e w6 ⟨rfl,af⟩;(have HBx:Hid (Below (w.heap.size+2) H w6):=Below.trans (B:=w.heap.size+2) yaD (Below.mono af (HS.out▸yaU)));clear af;go_wp2_with fail)
   refine G.out _ _ yam (fun aE=>?_);clear G K ag
   try simp only [pt]
   refine tkY 15 ?_;refine tkY 16 ?_;refine wpAnyH_done ya9 ?_ _;go_wp2_with fail;go_ret;exact ⟨by rw [HF.out];rfl,HB.out.trans (HBx.out.mono (Nat.le_add_right _ 2))⟩
  |true=>
   rw [hm] at HM HF;rw [Bool.true_and] at HF;clear hm;go_enter func47,ntmps47;go_upto_region 1 with fail
   rw [<-HWE.out];go_wp2_with fail;refine rH (S:=(fun J=>J.heap[w.heap.size]? =some (.cells (cSc b h) 26 (0,0))/\J.heap[w.heap.size+1]? =some (.cells (cR ⟨hd,vt,s,ix,sz,dy,sr,ct,pl,rt,pa,si,pb,pc⟩) tR (0,0)))) ya9 yam (fun L=>?_);refine tkH (i:=0) (v:=_) (y:=(yieldsIf_load_mid (by rfl) tR (.tmp 5) rfl (w.heap.size+1) 0 (by rfl) (cR ⟨hd,vt,s,ix,sz,dy,sr,ct,pl,rt,pa,si,pb,pc⟩).toList _ (fun _ h=>yb3 h.2) underlying35 rfl (ybJ ⟨hd,vt,s,ix,sz,dy,sr,ct,pl,rt,pa,si,pb,pc⟩))) (h:=?_)
   try simp only [pt]
   refine rd1 1 (fun K G=>?_)
   (go_simp;go_at_call 45;(with_reducible refine (HV.out _ yaD).mono ?_);rintro e w4 ⟨rfl,W⟩;(have HBx:Hid (Below (w.heap.size+2) H w4):=Below.trans (B:=w.heap.size+2) yaD (Below.mono W (HS.out▸yaU)));clear W;go_wp2_with fail)
   refine G.out _ _ yam (fun ak=>?_);clear G K L
   try simp only [pt]
   (iterate 2 refine tkA ?_)
   refine tkH (i:=4) (v:=_) (y:=(yieldsIf_load_mid (by rfl) tR (.tmp 5) rfl (w.heap.size+1) 0 (by rfl) (cR ⟨hd,vt,s,ix,sz,dy,sr,ct,pl,rt,pa,si,pb,pc⟩).toList _ (fun _ h=>yb3 h.2) underlying35 rfl (ybJ ⟨hd,vt,s,ix,sz,dy,sr,ct,pl,rt,pa,si,pb,pc⟩))) (h:=?_)
   try simp only [pt]
   refine tkY 6 ?_;refine tkH (i:=7) (v:=?gC6v) (y:=(Or.inl ⟨by rfl,?gC6y⟩)) (h:=?gC6r);case gC6y=>(intro w hSw;(try dsimp only at hSw);(obtain ⟨z,Z,k2,k3,k4,k5,k6,k7,k8,k9,T,M,O,N⟩:=ybj hSw.2);go_simp;try (with_reducible rfl))
   try simp only [pt]
   refine tkY 8 ?_;refine tkH (i:=9) (v:=?gC8v) (y:=(Or.inl ⟨by rfl,?gC8y⟩)) (h:=?gC8r);case gC8y=>(intro w hSw;(try dsimp only at hSw);(obtain ⟨z,Z,k2,k3,k4,k5,k6,k7,k8,k9,T,M,O,N⟩:=ybj hSw.2);go_simp;try (with_reducible rfl))
   try simp only [pt]
   refine tkY 10 ?_;refine tkH (i:=11) (v:=?gC10v) (y:=(Or.inl ⟨by rfl,?gC10y⟩)) (h:=?gC10r);case gC10y=>(intro w hSw;(try dsimp only at hSw);(obtain ⟨z,Z,k2,k3,k4,k5,k6,k7,k8,k9,T,M,O,N⟩:=ybj hSw.2);go_simp;try (with_reducible rfl))
   try simp only [pt]
   refine tkY 12 ?_;refine tkH (i:=13) (v:=?gC12v) (y:=(Or.inl ⟨by rfl,?gC12y⟩)) (h:=?gC12r);case gC12y=>(intro w hSw;(try dsimp only at hSw);(obtain ⟨z,Z,k2,k3,k4,k5,k6,k7,k8,k9,T,M,O,N⟩:=ybj hSw.2);go_simp;try (with_reducible rfl))
   try simp only [pt]
   refine rd1 5 (fun K G=>?_)
   (go_simp;go_at_call 96;(with_reducible refine (HL.out _ yaD).mono ?_);rintro e w5 ⟨rfl,ac⟩;(have HBx:Hid (Below (w.heap.size+2) H w5):=Below.trans (B:=w.heap.size+2) yaD (Below.mono ac (HS.out▸yaU)));clear ac;go_wp2_with fail)
   refine G.out _ _ yam (fun ae=>?_);clear G K ak
   try simp only [pt]
   refine rd1 14 (fun K G=>?_)
   (go_simp;go_at_call 95;(with_reducible refine (HM.out _ yaD).mono ?_);rintro e w6 ⟨rfl,af⟩;(have HBx:Hid (Below (w.heap.size+2) H w6):=Below.trans (B:=w.heap.size+2) yaD (Below.mono af (HS.out▸yaU)));clear af;go_wp2_with fail)
   refine G.out _ _ yam (fun aA=>?_);clear G K ae
   try simp only [pt]
   refine tkY 15 ?_;refine tkY 16 ?_;refine wpAnyH_done ya9 ?_ _;go_wp2_with fail;refine rH (S:=(fun J=>J.heap[w.heap.size]? =some (.cells (cSc b h) 26 (0,0))/\J.heap[w.heap.size+1]? =some (.cells (cR ⟨hd,vt,s,ix,sz,dy,sr,ct,pl,rt,pa,si,pb,pc⟩) tR (0,0)))) ya9 yam (fun L=>?_);refine tkH (i:=0) (v:=?gg0v) (y:=(Or.inl ⟨by rfl,?gg0y⟩)) (h:=?gg0r);case gg0y=>(intro w hSw;(try dsimp only at hSw);(obtain ⟨z,Z⟩:=two_of hSw.1);go_simp;try (with_reducible rfl))
   try simp only [pt]
   refine tkY 1 ?_;refine tkH (i:=2) (v:=?gg2v) (y:=(Or.inl ⟨by rfl,?gg2y⟩)) (h:=?gg2r);case gg2y=>(intro w hSw;(try dsimp only at hSw);(obtain ⟨z,Z,k2,k3,k4,k5,k6,k7,k8,k9,T,M,O,N⟩:=ybj hSw.2);go_simp;try (with_reducible rfl))
   try simp only [pt]
   refine tkY 3 ?_;refine tkH (i:=4) (v:=?gg4v) (y:=(Or.inl ⟨by rfl,?gg4y⟩)) (h:=?gg4r);case gg4y=>(intro w hSw;(try dsimp only at hSw);(obtain ⟨z,Z,k2,k3,k4,k5,k6,k7,k8,k9,T,M,O,N⟩:=ybj hSw.2);go_simp;try (with_reducible rfl))
   try simp only [pt]
   refine tkY 6 ?_;refine tkH (i:=7) (v:=?gg6v) (y:=(Or.inl ⟨by rfl,?gg6y⟩)) (h:=?gg6r);case gg6y=>(intro w hSw;(try dsimp only at hSw);(obtain ⟨z,Z,k2,k3,k4,k5,k6,k7,k8,k9,T,M,O,N⟩:=ybj hSw.2);go_simp;try (with_reducible rfl))
   try simp only [pt]
   refine rd1 5 (fun K G=>?_)
   (go_simp;go_at_call 98;(with_reducible refine (HD.out _ yaD).mono ?_);rintro e w7 ⟨rfl,aC⟩;(have HBx:Hid (Below (w.heap.size+2) H w7):=Below.trans (B:=w.heap.size+2) yaD (Below.mono aC (HS.out▸yaU)));clear aC;go_wp2_with fail)
   refine G.out _ _ yam (fun ah=>?_);clear G K L
   try simp only [pt]
   refine rd1 8 (fun K G=>?_)
   (go_simp;go_at_call 97;(with_reducible refine (HG.out _ yaD).mono ?_);rintro e w8 ⟨aQ,aN,rfl,az,aB⟩;(have HBx:Hid (Below (w.heap.size+2) H w8):=HBx.out.trans (Below.mono aB (HS.out▸HBx.out.size)));(have aF:=lh az);clear aB az;go_wp2_with fail)
   refine G.out _ _ yam (fun aJ=>?_);clear G K ah
   try simp only [pt]
   refine tkY 9 ?_;refine tkY 10 ?_;refine tkY 11 ?_;refine tkY 12 ?_;refine tkY 13 ?_;refine wpAnyH_done ya9 ?_ _;rcases aF.out with ⟨rfl,hf,rfl⟩ |⟨rfl,hf⟩
   all_goals
    have aL:=lh hf;clear hf aF;go_wp2_with fail;go_ret;exact ⟨by rw [HF.out,aL.out];first |rfl |(rw [beqN];rfl),HB.out.trans (HBx.out.mono (Nat.le_add_right _ 2))⟩
