import Derived.Test.YtpdledjgbgalcaaGreatDoorPr
namespace Go.Proofs.YtpdledjgbgalcaaGreatDoor
set_option maxRecDepth 100000
set_option maxHeartbeats 16000000
open Go.RowKit Go.Lib Go.Proofs.Tryz
set_option linter.unusedVariables false
set_option linter.unusedSimpArgs false
theorem But.setCells (b:Nat):∀(vs:List Value) (f:Nat) (w:World),But (fun k=>k=b) w (w.setCells b f vs)
 | [],f,w=>But.refl _ _
 |v::r,f,w=>(But.setCell (p:=fun k=>k=b) (x:=⟨b,f,none⟩) (But.refl _ _) (.inl rfl) v).trans (But.setCells b r (f+1) _) (fun i hi=> .inl hi)
section
variable {α:Type} {f:α->List Value} {s:Nat} {e:TypeId} {w:World} {base gb n c:Nat} {xs:List α}
theorem OwnN.len_ (h:OwnN f s e w base (.slice (some ⟨gb,0,none⟩) n c) xs):n=xs.length:=by
 rcases h.2 with ⟨h',_⟩ |⟨g',cap',cur,h',_⟩
 ·cases h'
 ·simp at h';exact h'.2.1
theorem OwnN.there (hs:∀x,(f x).length=s) (h:OwnN f s e w base (.slice (some ⟨gb,0,none⟩) n c) xs):w.there gb 0 (n*s):=fun j hj=>by
 obtain rfl:=h.len_;rw [Nat.zero_add];refine ⟨?_,World.ownsRow.frozenAt h j⟩;rw [World.ownsRow.cellAt h j hj,List.getElem?_eq_getElem (by rw [ycG hs];exact hj)];rfl
theorem OwnN.cut (hs:∀x,(f x).length=s) (h:OwnN f s e w base (.slice (some ⟨gb,0,none⟩) n c) xs) {k:Nat} (M:k<=n):OwnN f s e w base (.slice (some ⟨gb,0,none⟩) k c) (xs.take k):=by
 obtain rfl:=h.len_;have G:(xs.take k).length=k:=by simp;omega
 unfold OwnN World.ownsRow;rw [G];refine ⟨by rw [ycG hs,G],?_⟩;rcases h.2 with ⟨H,_⟩ |⟨Y,U,J,H,h1,h2,W,O,T,L⟩
 ·cases H
 ·simp at H;obtain ⟨rfl,rfl⟩:=H;refine .inr ⟨gb,c,J,rfl,h1,h2,by omega,O,T,?_⟩;have K:(J.toList.take (xs.length*s)).take (k*s)=(xs.flatMap f).take (k*s):=by rw [L]
  rw [List.take_take,Nat.min_eq_left (Nat.mul_le_mul_right _ M)] at K;rw [K];have N:xs.flatMap f=(xs.take k).flatMap f++(xs.drop k).flatMap f:=by rw [<-List.flatMap_append,List.take_append_drop]
  rw [N,List.take_append_of_le_length (by rw [ycG hs,G];exact Nat.le_refl _),List.take_of_length_le (by rw [ycG hs,G];exact Nat.le_refl _)]
end
theorem But.grownBy {g:Nat} {w w':World} (h:But (fun k=>k=g) w w'):w.grownBy w' (some g):=⟨h.os,h.tape,h.output,h.size,fun k hk hne=>h.block k hk (fun e=>hne (by rw [e]))⟩
def DlR (d:Int) (rs:List AcR) (g n c base:Nat) (w:World) (wr:World) (i j:Nat):Prop:=
 But (fun k=>k=g) w wr/\∃ys,OwnN fAr 20 39 wr base (.slice (some ⟨g,0,none⟩) n c) ys/\ys.take i=(rs.take j).filter (fun r=>decide (r.a.R.hd=d))/\ys.drop j=rs.drop j
theorem DlR.row {d:Int} {rs:List AcR} {g n c base:Nat} {w wr:World} {i j:Nat} (h:DlR d rs g n c base w wr i j) (hj:j < n):∃r,rs[j]? =some r/\wr.rangeAt g (j*20) (fAr r):=by
 obtain ⟨_,ys,J,_,hd⟩:=h;obtain rfl:=J.len_;refine ⟨ys[j],?_,?_⟩
 ·have h1:(ys.drop j)[0]? =(rs.drop j)[0]? :=by rw [hd]
  rw [List.getElem?_drop,List.getElem?_drop,Nat.add_zero] at h1;rw [<-h1,List.getElem?_eq_getElem hj]
 ·obtain ⟨A,N,e,_,hs,_⟩:=OwnN.shape ydX J;injection e with e1 e2 e3;subst e1;obtain ⟨b,M,x,G,T,H,K⟩:=hs.at_ hj;have O:=(hs.2 om);injection G with G;injection G with G e6 _;subst G e6;rw [List.getElem?_eq_getElem hj] at H;injection H with H;subst H;intro k v L
  have:=K k v L;rwa [Nat.zero_add] at this
theorem yc6 (d:Int) (w:World):Calls prog 233 #[.int .i64 d] w fun e G=>e= .returned (.bool (devB d))/\w=G:=by
 by_cases h:0<=d
 ·go_enter func233,ntmps233;go_wp2;go_ret;exact ⟨ybo (by simp [h,devB]),rfl⟩
 ·have hd:devB d=false:=by simp [devB,h]
  go_enter func233,ntmps233;go_wp2;go_ret;exact ⟨rfl,rfl⟩
theorem vget_any (A:Option Addr) (n:Nat) (xs:List Int) (c:Nat) (w:World) (B:Nat) (hx:Sl I w B A n xs) (U:B<=w.heap.size) (hl:n<=1000000) (d:Int):
 Calls prog 179 #[.slice A n c,.int .i64 d] w fun e L=>e= .returned (.int .i64 (if ybt xs&&devB d then gv xs d else 0))/\Below w.heap.size w L:=by
 have Y:=lh hx;clear hx;obtain ⟨J,H⟩:∃p,p=pd xs:=⟨_,rfl⟩
 have c1:Hid (∀W,Sl I W B A n xs->B<=W.heap.size->Calls prog 133 #[.slice A n c] W fun e L=>e= .returned (.tuple #[.agg (av J),.bool (ybt xs)])/\Below W.heap.size W L):=fun W h hb=>by rw [H];exact padded_any A n xs c W B h hb hl
 have T:Hid ((prog.info? 212).map (·.size)=some (av J).size):=H▸pd_size57 xs;have O:Hid (Z12.toArray.size=(av J).size):=H▸pd_sizeZ xs;have L1:Hid (J.length=12):=H▸pd_len xs;have z:=lh H;clear H
 by_cases N:ybt xs=true
 ·by_cases hd:devB d=true
  ·have Z:0<=d/\d < 12:=by simpa [devB] using hd
   obtain ⟨k,rfl⟩:∃k:Nat,d=k:=⟨d.toNat,by omega⟩
   obtain ⟨x,M⟩:=ybQ (xs:=J) (k:=k) (by rw [L1.out];omega);have HR:Hid ((if ybt xs&&devB (k:Int) then gv xs k else 0)=x):=by show _=_;rw [N,hd];simp only [Bool.and_self,if_true];rw [gv_nat,<-pad_getD,<-pd_yes N,<-z.out,ybA M]
   have hc:∀W:World,W.heap[W.heap.size]? =none:=fun W=>by simp
   have ac:k < 12:=by omega
   rw [HR.out];go_enter func179,ntmps179;go_wp2_with fail;refine (c1.out _ Y.out U).mono ?_;rintro e w1 ⟨rfl,G⟩;have HB1:=lh G;have K:=G.size;clear G;have aa:=At.zero (f:=I) (At.of_block (zy w1 (.cells (av J) 212))) M;clear M hc Z
   go_wp2_with (first
    |(with_reducible refine ybr (o:=⟨none,.store 212 (.tmp 5) (.tmp 10),_,_,_,_⟩) rfl 212 (.tmp 5) (.tmp 10) rfl 212 Z12.toArray (av J) rfl rfl T.out O.out (av_one _) ?_)
    |(go_at_call 233;refine (yc6 _ _).mono ?_;rintro e L ⟨rfl,rfl⟩))
   go_ret;exact ⟨rfl,HB1.out.alloc K _⟩
  ·have af:devB d=false:=by simpa using hd
   clear hd;go_enter func179,ntmps179;go_wp2_with fail;refine (c1.out _ Y.out U).mono ?_;rintro e w1 ⟨rfl,G⟩;have HB1:=lh G;have K:=G.size;clear G
   go_wp2_with (first
    |(with_reducible refine ybr (o:=⟨none,.store 212 (.tmp 5) (.tmp 10),_,_,_,_⟩) rfl 212 (.tmp 5) (.tmp 10) rfl 212 Z12.toArray (av J) rfl rfl T.out O.out (av_one _) ?_)
    |(go_at_call 233;refine (yc6 _ _).mono ?_;rintro e L ⟨rfl,rfl⟩))
   all_goals (go_ret;exact ⟨rfl,HB1.out.alloc K _⟩)
 ·have ae:ybt xs=false:=by simpa using N
  clear N;go_enter func179,ntmps179;go_wp2_with fail;refine (c1.out _ Y.out U).mono ?_;rintro e w1 ⟨rfl,G⟩;have HB1:=lh G;have K:=G.size;clear G
  go_wp2_with (first
   |(with_reducible refine ybr (o:=⟨none,.store 212 (.tmp 5) (.tmp 10),_,_,_,_⟩) rfl 212 (.tmp 5) (.tmp 10) rfl 212 Z12.toArray (av J) rfl rfl T.out O.out (av_one _) ?_))
  all_goals (go_ret;exact ⟨rfl,HB1.out.alloc K _⟩)
theorem vcovers_any (A:Option Addr) (n:Nat) (xs:List Int) (c:Nat) (w:World) (B:Nat) (J:Sl I w B A n xs) (H:B<=w.heap.size) (hl:n<=1000000) (d s:Int):
 Calls prog 118 #[.slice A n c,.int .i64 d,.int .i64 s] w fun e G=>e= .returned (.bool (decide (1<=s)&&decide (s<=if ybt xs&&devB d then gv xs d else 0)))/\Below w.heap.size w G:=by
 obtain ⟨r,hr⟩:∃r,r=if ybt xs&&devB d then gv xs d else 0:=⟨_,rfl⟩
 have c1:Hid (Calls prog 179 #[.slice A n c,.int .i64 d] w fun e G=>e= .returned (.int .i64 r)/\Below w.heap.size w G):=by rw [hr];exact vget_any A n xs c w B J H hl d
 rw [<-hr];clear hr
 by_cases h1:1<=s
 ·go_enter func118,ntmps118;go_wp2_with (go_at_call 179;refine c1.out.mono ?_;rintro e G ⟨rfl,K⟩);go_ret;exact ⟨ybo (by simp [h1]),K⟩
 ·go_enter func118,ntmps118;go_wp2_with fail;go_ret;exact ⟨ybo ybh,Below.refl _ _⟩
theorem yco {P:Program} {w:World} {J:Func} {p u:Tmp} {H:TypeId} (hr:J.results=#[.cell p H,.tmp u]) {G:Array Value} {g:Nat} {t:TypeId} {cs:Array Value} {fr:Nat × Nat} {fs}
 (hp:G.getD p undef= .pointer (some ⟨g,0,none⟩)) (L:w.heap[g]? =some (.cells cs t fr)) (K:P.underlying H=some (.struct fs)) (hi:(P.info? H).map (·.size)=some cs.size):
 (results J G).run P w= .ok (.tuple #[.agg cs,G.getD u undef]) w:=by
 rw [results_cell_tmp hr,hp];simp [asAddr,Result.andThen,run_loadVar_row w g t H cs fr _ L K rfl hi]
def cvB (v:List Int) (d s:Int):Bool:=decide (1<=s)&&decide (s<=if ybt v&&devB d then gv v d else 0)
def akF (ml:List (EnR × List Int)) (d s:Int):Option EnR:=(ml.find? fun m=>cvB m.2 d s).map (·.1)
theorem akF_none {ml:List (EnR × List Int)} {d s:Int} (h:∀(j:Nat) (m:EnR × List Int),ml[j]? =some m->cvB m.2 d s=false):akF ml d s=none:=by
 unfold akF;rw [List.find?_eq_none.2]
 ·rfl
 ·intro m G;obtain ⟨j,hj⟩:=List.getElem?_of_mem G;rw [h j m hj]
  decide
theorem akF_some:∀ {ml:List (EnR × List Int)} {d s:Int} {k:Nat} {m:EnR × List Int},(∀(j:Nat) (m:EnR × List Int),j < k->ml[j]? =some m->cvB m.2 d s=false)->ml[k]? =some m->cvB m.2 d s=true->akF ml d s=some m.1
 | [],d,s,k,m,_,h,_=>by simp at h
 |a::l,d,s,0,m,_,h,hc=>by
  obtain rfl:a=m:=by simpa using h
  unfold akF;rw [List.find?_cons,hc];rfl
 |a::l,d,s,k+1,m,hn,h,hc=>by
  have G:=akF_some (ml:=l) (d:=d) (s:=s) (k:=k) (fun j m hj H=>hn (j+1) m om (by simpa using H)) (by simpa using h) hc;unfold akF at G ⊢;rw [List.find?_cons,hn 0 a om sI];exact G
abbrev zEn:Array Value:=#[.int .i64 0,.int .i64 0,.int .i64 0,.int .i64 0,.slice none 0 0,.string ⟨#[]⟩]
abbrev zMt:Array Value:=#[.int .i64 0,.int .i64 0,.int .i64 0,.int .i64 0,.slice none 0 0,.string ⟨#[]⟩,.slice none 0 0]
def akC:Option EnR->Array Value
 |some e=>(fEn e).toArray
 |none=>zEn
theorem ydr (e:EnR):(prog.info? 55).map (·.size)=some (fEn e).toArray.size:=by kernel_rfl
theorem sizeEnL (e:EnR):(prog.info? 55).map (·.size)=some (fEn e).length:=by kernel_rfl
theorem sizeEnZ:(prog.info? 55).map (·.size)=some zEn.size:=by kernel_rfl
theorem zEn_all:zEn.all (·.oneCell')=true:=by kernel_rfl
theorem sizeMtA (m:MtR):(prog.info? 176).map (·.size)=some (fMt m).toArray.size:=by kernel_rfl
theorem sizeMtL (m:MtR):(prog.info? 176).map (·.size)=some (fMt m).length:=by kernel_rfl
theorem rangeMt {w:World} {b:Nat} {t:TypeId} {m:MtR} (h:w.heap[b]? =some (.cells (fMt m).toArray t (0,0))):w.rangeAt b 0 (fEn m.e):=fun j v G=>by
 rw [Nat.zero_add,cell_of_row w b j _ _ _ h,List.getElem?_toArray,List.getElem?_append_left (List.getElem?_eq_some_iff.1 G).1];exact G
theorem ack_any (aH:Nat->Rl) (s k kS kM:Nat) (x:Vw) (l:List EnR) (A:Option Addr) (n c:Nat) (mN mS mM:Lit->Value) (aN:Int->Int->Bool) (aD:Int->Int->Int->List PcX) (J:Int->List (EnR × List Int)) (d q:Int) (R:Rcp) (st:ByteArray) (tx:Int) (no an:ByteArray) (w:World)
 (hJ:JSt w aH s k kS kM x l A n c mN mS mM aN aD J) (hh:int64 R.hd) (hml:(J R.hd).length<=1000) (ak:∀m∈J R.hd,m.2.length<=1000000):
 Calls prog 60 #[.pointer (some ⟨s+3,0,none⟩),.agg (cA d q R st tx no an)] w fun e w'=>e= .returned (.tuple #[.agg (akC (akF (J R.hd) d q)),.bool (akF (J R.hd) d q).isSome])/\Below w.heap.size w w':=by
 obtain ⟨G,O⟩:∃G:World,G=(w.alloc (.cells (cA d q R st tx no an) 39)).alloc (.cells zEn 55):=⟨_,rfl⟩
 have ah:Below w.heap.size w G:=by rw [O];exact bl.alloc sI _
 have ae:G.heap[w.heap.size]? =some (.cells (cA d q R st tx no an) 39 (0,0)):=by rw [O];exact (zx _ _ _ sI).trans (zy w _)
 have z:G.heap[w.heap.size+1]? =some (.cells zEn 55 (0,0)):=by rw [O];have:=zy (w.alloc (.cells (cA d q R st tx no an) 39)) (.cells zEn 55);simpa using this
 have Z:=hJ.on ah;have HC:Hid (∀V,Below G.heap.size G V->V.heap[w.heap.size]? =some (.cells (cA d q R st tx no an) 39 (0,0))/\V.heap[w.heap.size+1]? =some (.cells zEn 55 (0,0))):=fun V N=>⟨(N.block _ (lb ae)).trans ae,(N.block _ (lb z)).trans z⟩;obtain ⟨K,Y,ao,aF,au⟩:=Z.mtr R.hd hh;obtain ⟨PA,aC,ar,ay,ax,_⟩:=OwnN.shape fMt_len ao;have aq:Hid ((J R.hd).length=K.length):=by show _=_;rw [<-Y];simp
 have aJ:Hid (K.length<=1000):=by show _<=_;rw [<-aq.out];exact hml
 have HPG:Hid (∀(j:Nat) (p:MtR),K[j]? =some p->(J R.hd)[j]? =some (p.e,p.v)):=fun j p h=>by rw [<-Y,List.getElem?_map,h];rfl
 have am:Hid (∀V,Below G.heap.size G V->(Instr.lookup 166 (.map (some (s+2))) (.int .i64 R.hd) false).run prog V= .ok (.slice PA K.length aC) V):=fun V N=>by
  rw [<-ar];exact (Z.on N).mtm.look (Maps.int_keyed underlying3) underlying166 (Mee.zero V) (kI_of hh)
 have aI:Hid (∀V,Below G.heap.size G V->∀p∈K,Calls prog 118 #[.slice p.h.a p.h.n p.h.c,.int .i64 d,.int .i64 q] V fun e w'=>e= .returned (.bool (cvB p.v d q))/\Below V.heap.size V w'):=fun V N p hp=>by
  obtain ⟨g1,_⟩:=au p hp;have g2:=ak (p.e,p.v) (by rw [<-Y];exact List.mem_map_of_mem (f:=fun m:MtR=>(m.e,m.v)) hp);have g3:p.v.length=p.h.n:=g1.1;exact vcovers_any p.h.a p.h.n p.v p.h.c V G.heap.size (g1.up N nl) N.size (by rw [<-g3];exact g2) d q
 have aB:=lh ax;have HB1:=lh ah;have HWE:=lh O;have ac:Hid (Below G.heap.size G G):=Below.refl _ _;obtain ⟨z0,z1,z2,z3,z4,z5⟩:=ybC (HC.out G ac.out).1;have v9:=cj9 Z.jd;have aK:=fun a=>am.out (G.drewN a) (ybl ac.out _);generalize J R.hd=ml at*;clear hJ hh hml ak ah ae z Z Y ao aF au ar ay ax O;go_enter func60,ntmps60;go_upto_region 1 with fail
 rw [<-HWE.out];go_quiet (fail);generalize hW:World.drewN G _=W2;have aw:Hid (Below G.heap.size G W2):=by show Below ..;rw [<-hW];exact ybl ac.out _
 clear z0 z1 z2 z3 z4 z5 v9 hW aK am HWE;have M:Hid (∀(j:Nat) (m:EnR × List Int),j < 0->ml[j]? =some m->cvB m.2 d q=false):=fun j p hj=>absurd hj om;go_wp2_with fail
 go_loopw [17] (fun i wr=>∃k:Nat,k<=K.length/\i= .int .i64 k/\Hid (∀(j:Nat) (m:EnR × List Int),j < k->ml[j]? =some m->cvB m.2 d q=false)/\Hid (Below G.heap.size G wr)) (fun i _=>K.length - (intOf i).toNat)
 case atStart=>exact ⟨0,Nat.zero_le _,rfl,M,aw⟩
 case round=>
  clear M aw;obtain ⟨k,hk,rfl,M,HBr⟩:=hrel;have aO:=aJ.out
  by_cases hlt:k < K.length
  ·obtain ⟨b,ap,p,rfl,aQ,hp,al⟩:=(aB.out.up HBr.out nl).at_ hlt;have aP:(k:Int) < (K.length:Int):=by omega
   have aL:Hid (wr.rangeAt b (ap+k*7) (fMt p)):=fun j v hv=>by rw [Nat.add_assoc];exact al j v hv
   have HP:=lh hp;have U:=lh (fun V N=>aI.out V N p (List.mem_of_getElem? hp));have aG:Hid ((wr.alloc (.cells zMt 176)).heap[wr.heap.size]? =some (.cells zMt 176 (0,0))):=zy wr _;clear al hp
   go_upto_region 4 with (first
    |(with_reducible refine wpList_load_mid rfl 176 (.tmp 19) rfl b (ap+k*7) rfl (fMt p) _ aL.out underlying176 rfl (sizeMtL p) ?_)
    |((with_reducible refine ybk (o:=⟨none,_,_,_,_,_⟩) rfl 176 (.tmp 7) (.tmp 20) rfl wr.heap.size 176 _ _ rfl rfl aG.out (sizeMtA p) rfl (all_oneCell_toArray (fMt_one p)) ?_);intro W4 ai az;(have aM:Hid (Below wr.heap.size wr W4):=((Below.refl _ wr).alloc nl (.cells zMt 176)).trans (az.out.below sI (fun i hi=>by subst hi;exact Nat.le_refl _)))))
   have H:Hid (Below G.heap.size G W4):=bt HBr.out aM.out;have y6:W4.cell? ⟨wr.heap.size,6,none⟩=some (.slice p.h.a p.h.n p.h.c):=by rw [cell_of_row W4 _ _ _ _ _ ai.out];rfl
   obtain ⟨z0,z1,z2,z3,z4,z5⟩:=ybC (HC.out W4 H.out).1;obtain ⟨cv,ag⟩:=gX (cvB p.v d q);rw [ag] at U;have aj:=lh ag;clear ag
   cases cv with
   |true=>
    have af:Hid (akF ml d q=some p.e):=akF_some M.out (HPG.out _ _ HP.out) aj.out;go_upto_region 5 with (go_at_call 118;(with_reducible refine (U.out _ H.out).mono ?_);rintro e W5 ⟨rfl,L⟩;(have T:Hid (Below G.heap.size G W5):=H.out.trans (Below.mono L H.out.size));(have aA:=lh L);clear L)
    have aE:Hid (W5.rangeAt wr.heap.size 0 (fEn p.e)):=rangeMt ((aA.out.block _ (lb ai.out)).trans ai.out)
    go_wp2_with (first
     |(with_reducible refine wpList_load_mid rfl 55 (.tmp 28) rfl wr.heap.size 0 rfl (fEn p.e) _ aE.out underlying55 rfl (sizeEnL p.e) ?_)
     |((with_reducible refine ybk (o:=⟨none,_,_,_,_,_⟩) rfl 55 (.tmp 4) (.tmp 29) rfl (w.heap.size+1) 55 _ _ rfl rfl (HC.out W5 T.out).2 (ydr p.e) rfl (all_oneCell_toArray (ydV p.e)) ?_);intro W6 aa W))
    go_goals
    exact bodyPost_ret (yco rfl rfl aa.out underlying55 (ydr p.e)) rfl ⟨by rw [af.out];rfl,(bt HB1.out T.out).trans (W.out.below (lT HB1.out.size T.out.size) (fun i hi=>by subst hi;exact Nat.le_succ _))⟩
   |false=>
    go_wp2_with (go_at_call 118;(with_reducible refine (U.out _ H.out).mono ?_);rintro e W5 ⟨rfl,L⟩;(have T:Hid (Below G.heap.size G W5):=H.out.trans (Below.mono L H.out.size));clear L)
    go_roundw
    case rel=>exact ⟨k+1,by omega,by go_num,fun j r hj hr=>by
     by_cases h:j < k
     ·exact M.out j r h hr
     ·obtain rfl:j=k:=by omega
      rw [HPG.out _ _ HP.out] at hr;injection hr with hr
      rw [<-hr];exact aj.out,T.out⟩
    case measure=>simp [intOf];omega
  ·obtain rfl:k=K.length:=by omega
   have af:Hid (akF ml d q=none):=akF_none (fun j m h=>M.out j m (by rw [<-aq.out];exact (List.getElem?_eq_some_iff.1 h).1) h)
   go_wp2_with (first
    |(with_reducible refine ybq (o:=⟨some 31,_,_,_,_,_⟩) rfl 55 #[] rfl zEn ybi ?_)
    |((with_reducible refine ybk (o:=⟨none,_,_,_,_,_⟩) rfl 55 (.tmp 4) (.tmp 31) rfl (w.heap.size+1) 55 _ zEn rfl rfl (HC.out wr HBr.out).2 sizeEnZ rfl zEn_all ?_);intro W6 aa W))
   go_goals
   exact bodyPost_ret (yco rfl rfl aa.out underlying55 sizeEnZ) rfl ⟨by rw [af.out];rfl,(bt HB1.out HBr.out).trans (W.out.below (lT HB1.out.size HBr.out.size) (fun i hi=>by subst hi;exact Nat.le_succ _))⟩
theorem decV_valid {bs v:List Int} (h:decV bs=some v):ybt v=true:=by
 unfold decV at h
 split at h
 ·next g=>
  injection h with h;rw [<-h];exact g.2.2.1
 ·cases h
theorem mtX_len (e:EnR):(mtX e).v.length<=12:=by
 unfold mtX mtD
 split
 ·split
  ·next q v h=>
   unfold dmV at h
   split at h
   ·obtain ⟨G,h1,h2⟩:=Option.map_eq_some_iff.1 h;injection h2 with h3 h4;subst h4
    have:=decV_valid h1;simp [ybt] at this;exact this.2
   ·cases h
  ·exact Nat.zero_le _
 ·exact Nat.zero_le _
theorem mtsE_ok {l:List EnR} {y:Int}:(∀m∈mtsE mtX l y,m.2.length<=1000000/\m.1∈l)/\(mtsE mtX l y).length<=l.length:=by
 refine ⟨fun m H=>?_,List.length_filterMap_le _ _⟩;obtain ⟨e,G,h⟩:=List.mem_filterMap.1 H;unfold mtE at h
 split at h
 ·injection h with h
  subst h;exact ⟨lT (mtX_len e) de,G⟩
 ·cases h
def fkB (fks:List Int) (d:Int):Bool:=fks.any fun f=>decide (f=d)&&devB f
def apB (ml:Int->List (EnR × List Int)) (al:List Ac) (d:Int):Bool:=al.any fun a=>decide (a.R.hd=d)&&(akF (ml a.R.hd) a.d a.q).isSome
def nmB (fks:List Int) (ml:Int->List (EnR × List Int)) (al:List Ac) (d:Int):Bool:=fkB fks d||apB ml al d
theorem fkB_hd {fks:List Int} {d:Int} (h:fkB fks d=true):0<=d/\d<=11:=by
 obtain ⟨f,_,h1⟩:=List.any_eq_true.1 h;simp [devB] at h1;omega
theorem nmB_step {fks:List Int} {ml:Int->List (EnR × List Int)} {cl:List (Ac × EnR)} {j:Nat} {p:Ac × EnR} (h:cl[j]? =some p) (d:Int):
 nmB fks ml ((cl.take (j+1)).map (·.1)) d=(nmB fks ml ((cl.take j).map (·.1)) d||(decide (p.1.R.hd=d)&&(akF (ml p.1.R.hd) p.1.d p.1.q).isSome)):=by
 unfold nmB apB;rw [List.take_add_one,h,List.map_append,List.any_append];simp [Bool.or_assoc]
theorem nmB_hd {fks:List Int} {ml:Int->List (EnR × List Int)} {G:List Ac} (h:∀a∈G,0<=a.R.hd/\a.R.hd<=11) (d:Int) (hd:nmB fks ml G d=true):0<=d/\d<=11:=by
 unfold nmB at hd;rcases Bool.or_eq_true _ _▸hd with h1 |h1
 ·exact fkB_hd h1
 ·obtain ⟨a,ha,h2⟩:=List.any_eq_true.1 h1;rw [Bool.and_eq_true] at h2;rw [<-of_decide_eq_true h2.1];exact h a ha
theorem ackE_any (H:Nat->Rl) (s k M L:Nat) (x:Vw) (G:List EnR) (A:Option Addr) (n c:Nat) (mN J K:Lit->Value) (W:G.length<=1000) (r:AcR) (w:World)
 (U:JSt w H s k M L x (frE G) A n c mN J K (hasE (frE G)) (pcsE aqX (frE G)) (mtsE mtX (frE G))) (T:int64 r.a.R.hd):
 Calls prog 60 #[.pointer (some ⟨s+3,0,none⟩),.agg (cAr r)] w fun e O=>e= .returned (.tuple #[.agg (akC (akF (mtsE mtX (frE G) r.a.R.hd) r.a.d r.a.q)),.bool (akF (mtsE mtX (frE G) r.a.R.hd) r.a.d r.a.q).isSome])/\Below w.heap.size w O:=
 ack_any H s k M L x (frE G) A n c mN J K _ _ _ r.a.d r.a.q r.R r.a.st r.a.ix r.a.no r.a.an w U T (by have h1:=(mtsE_ok (l:=frE G) (y:=r.a.R.hd)).2;have h2:=yb3 G;show (mtsE mtX (frE G) r.a.R.hd).length<=1000;omega) (fun m N=>(mtsE_ok.1 m N).1)
theorem sizeAk (o:Option EnR):(prog.info? 55).map (·.size)=some (akC o).size:=by cases o<;>kernel_rfl
theorem sizeAk6 (o:Option EnR):zEn.size=(akC o).size:=by cases o<;>rfl
theorem akC_all (o:Option EnR):(akC o).all (·.oneCell')=true:=by
 cases o with
 |none=>exact zEn_all
 |some e=>exact all_oneCell_toArray (ydV e)
theorem named_any (x:Vw) (G:List EnR) (vs:List VtR) (J L:List ByteArray) (fks:List Int) (B:Nat) (w:World) (hG:Glob w) (hV:VwIn w B x G vs J L fks) (hB:B<=w.heap.size) (hk:VwOk x G) (bv:x.F.n<=500) (bB:x.E.n<=400):
 Calls prog 24 #[.agg (cVw x)] w (NwI (hdL (nmB fks (mtsE mtX (frE G)) (opnV x G vs J L))) w w.heap.size w):=by
 obtain ⟨K,ac⟩:∃K:World,K=(w.alloc (.cells (cVw x) 29)).alloc (.map #[] 0):=⟨_,rfl⟩
 have aD:Below w.heap.size w K:=by rw [ac];exact bl.alloc sI _
 have aa:K.heap[w.heap.size]? =some (.cells (cVw x) 29 (0,0)):=by rw [ac];exact (zx _ _ _ sI).trans (zy w _)
 have a2:MapS K (w.heap.size+1) 0 (fun _=>false):=by
  have:=MapS.made (w.alloc (.cells (cVw x) 29));rw [ac];simpa using this
 have aH:Hid (∀V,Below w.heap.size w V->Calls prog 50 #[.agg (cVw x)] V (JdP aqX mtX x G V)):=fun V Y=>judge_of x G vs J L fks B V (hV.up Y hB) (lT hB Y.size) hk
 have aM:Hid (∀V H s k T M A n c mN N O,Below w.heap.size w V->JSt V H s k T M x (frE G) A n c mN N O (hasE (frE G)) (pcsE aqX (frE G)) (mtsE mtX (frE G))->Calls prog 51 #[.pointer (some ⟨s+3,0,none⟩)] V (CgP (opV x G vs J L) (frE G) V)):=fun V H s k T M A n c mN N O h1 hJ=>
  charges_of H _ k T M x G vs J L fks A n c mN N O _ B V (hG.on h1) hJ (hV.up h1 hB) (lT hB h1.size) hk
 have bq:G.length=x.E.n:=hV.E.1.1
 have aC:Hid (∀V,Below K.heap.size K V∨But (fun i=>i=w.heap.size+1) K V->V.heap[w.heap.size]? =some (.cells (cVw x) 29 (0,0))):=fun V Y=>by
  have hlt:=lb aa;rcases Y with Y |Y
  ·exact (Y.block _ hlt).trans aa
  ·exact (Y.block _ hlt om).trans aa
 have z:Hid (fks.length=x.F.n):=hV.F.1;have aJ:SL I K B x.F.a fks:=(hV.up aD hB).F.2;have az:=lh aJ;have a1:Hid (B<=w.heap.size):=hB;have bH:Hid (G.length<=400):=by show _<=_;omega
 have bb:Hid (∀V H s k T M A n c mN N O,JSt V H s k T M x (frE G) A n c mN N O (hasE (frE G)) (pcsE aqX (frE G)) (mtsE mtX (frE G))->∀r:AcR,int64 r.a.R.hd->Calls prog 60 #[.pointer (some ⟨s+3,0,none⟩),.agg (cAr r)] V fun e w'=>e= .returned (.tuple #[.agg (akC (akF (mtsE mtX (frE G) r.a.R.hd) r.a.d r.a.q)),.bool (akF (mtsE mtX (frE G) r.a.R.hd) r.a.d r.a.q).isSome])/\Below V.heap.size V w'):=fun V H s k T M A n c mN N O hJ r hh=>
  ackE_any H s k T M x G A n c mN N O om r V hJ hh
 obtain ⟨cl,ag⟩:=gX (cgL (opV x G vs J L) (frE G));have aF:Hid (∀p∈cl,0<=p.1.R.hd/\p.1.R.hd<=11):=fun p hp=>(cgL_ok p (by rw [ag];exact hp)).1.1
 have HLN:Hid (cl.length<=400):=by
  show _<=_;rw [<-ag];have h1:=ydZ (opV x G vs J L) (frE G);have h2:=yb3 G;omega
 have bi:=lh ag;unfold opnV;rw [ag];have HB1:=lh aD;have HWE:=lh ac;have a6:=lh a2;have bw:= @run_makeMap prog;obtain ⟨v0,v1,v2,v3,v4,v5,v6⟩:=ybv aa;obtain ⟨fn,a5⟩:=gX (x.F.n);obtain ⟨FA,aE⟩:=gX (x.F.a);rw [a5] at z v6 bv;rw [aE] at az v6;clear hG hV hB hk bB aD aa ac ag a2 bq aJ a5 aE;go_enter func24,ntmps24;go_upto_region 2 with fail
 clear bw;rw [<-HWE.out];have Z:Hid (But (fun i=>i=w.heap.size+1) K K):=But.refl _ _;go_upto_region 3 with fail
 clear v0 v1 v2 v3 v4 v5 v6
 go_loopw [15] (fun i wr=>∃k:Nat,k<=fn/\i= .int .i64 k/\Hid (But (fun i=>i=w.heap.size+1) K wr)/\Hid (MapS wr (w.heap.size+1) k (fkB (fks.take k)))) (fun i _=>fn - (intOf i).toNat)
 case atStart=>exact ⟨0,Nat.zero_le _,rfl,Z,a6⟩
 case round=>
  clear a6 Z;obtain ⟨k,hk,rfl,HB,HR⟩:=hrel
  by_cases hlt:k < fn
  ·obtain ⟨f,hf⟩:∃f,fks[k]? =some f:=⟨_,List.getElem?_eq_getElem (by rw [z.out];exact hlt)⟩
   have bI:(k:Int) < (fn:Int):=by omega
   obtain ⟨b,aj,rfl,bK,af⟩:=az.out (by rw [z.out];omega);have aT:wr.heap[b]? =K.heap[b]? :=HB.out.block b (by have h1:=a1.out;have h2:=HB1.out.size;omega) (by have h1:=a1.out;omega);have bE:wr.cell? ⟨b,aj+k,none⟩=some (.int .i64 f):=(cB aT).trans (af k f hf)
   have aS:Hid (∀d,fkB (fks.take (k+1)) d=(fkB (fks.take k) d||(decide (f=d)&&devB f))):=fun d=>by
    unfold fkB;rw [List.take_add_one,hf,List.any_append];simp
   clear af aT hf
   by_cases hd:0<=f/\f<=11
   ·have ae:devB f=true:=by simp [devB];omega
    have aA:Hid ((fun d=>fkB (fks.take k) d||decide (d=f))=fkB (fks.take (k+1))):=by
     show _=_
     funext d
     rw [aS.out d,ae,Bool.and_true];simp only [eq_comm]
    have bu:Hid (int64 f):=⟨Int.le_trans de hd.1,Int.le_trans hd.2 de⟩;have bo:decide (0<=f/\f<=11)=true:=decide_eq_true hd;clear hd ae;obtain ⟨W5,r5,aK,a7⟩:=HR.out.store ybd bu.out (.bool true);have bf:=lh aK;have HG5:=lh a7;clear aK a7;go_wp2_with (go_at_call 42;(with_reducible refine (ybZ f 0 11 _).mono ?_);rintro e w' ⟨rfl,rfl⟩);go_roundw;case rel=>exact ⟨k+1,by omega,by go_num,HB.out.trans (q:=fun i=>i=w.heap.size+1) ⟨HG5.out.os,HG5.out.tape,HG5.out.output,HG5.out.size,fun i hi ao=>HG5.out.block i hi (fun e=>ao (by injection e))⟩ (fun i hi=> .inl hi),by have h:=bf.out;rw [aA.out] at h;exact h⟩
    case measure=>simp [intOf];omega
   ·have ae:devB f=false:=by simp [devB];omega
    have aA:Hid (fkB (fks.take k)=fkB (fks.take (k+1))):=by
     show _=_
     funext d
     rw [aS.out d,ae,Bool.and_false,Bool.or_false]
    have bo:decide (0<=f/\f<=11)=false:=decide_eq_false hd;clear hd ae;go_wp2_with (go_at_call 42;(with_reducible refine (ybZ f 0 11 _).mono ?_);rintro e w' ⟨rfl,rfl⟩);go_roundw;case rel=>exact ⟨k+1,by omega,by go_num,HB.out,by have h:=HR.out.mono (Nat.le_succ k);rw [aA.out] at h;exact h⟩
    case measure=>simp [intOf];omega
  ·obtain rfl:k=fn:=by omega
   obtain ⟨W,br⟩:∃W,W=wr:=⟨_,rfl⟩
   subst br;rw [List.take_of_length_le (by rw [z.out];exact Nat.le_refl _)] at HR;have am:Hid (Below w.heap.size w W):=HB1.out.trans (HB.out.below HB1.out.size (fun i hi=>by subst hi;omega));have ay:=lh (aH.out W am.out);obtain ⟨v0,v1,v2,v3,v4,v5,v6⟩:=ybv (aC.out W (.inr HB.out));clear az aH z aC hlt
   go_upto_region 10 with (first
    |(go_at_call 50;(with_reducible refine ay.out.mono ?_);rintro e V2 ⟨rfl,aq,H,jk,T,M,A,n,c,mN,N,O,hJ⟩;(have aQ:=lh (aM.out V2 H W.heap.size jk T M A n c mN N O (bt am.out aq) hJ));(have ak:=lh aq);(have aO:=lh hJ);clear aq hJ)
    |(go_at_call 51;(with_reducible refine aQ.out.mono ?_);rintro e V3 ⟨v,rfl,al,cs,ho,hr,hm⟩;(obtain ⟨CA,cc,hv,hc,aR,aL⟩:=OwnN.shape fCg_len ho);subst hv;(have bm:=lh aR);(have bk:=lh aL);(have HMM:Hid (cs.map (fun c=>(c.r.a,c.e))=cl):=hm.trans bi.out);(have bx:=lh (aO.out.on al));(have a4:=lh (((HR.out.on ak.out).on al)));(have aV:Hid (Below w.heap.size w V3):=am.out.trans ((bt ak.out al).mono am.out.size));(have bh:Hid (W.heap.size<=V2.heap.size):=ak.out.size);(have HCL:Hid (cs.length=cl.length):=by (show _=_;rw [<-HMM.out];simp));clear al ho hr hm hc aR aL))
   clear v0 v1 v2 v3 v4 v5 v6;have aG:Hid (w.heap.size+1 < W.heap.size):=HR.out.lt;have Z:Hid (But (fun i=>i=w.heap.size+1) V3 V3):=But.refl _ _;have a8:cs.length<=400:=by have h1:=HLN.out;have h2:=HCL.out;omega
   have aw:Hid (MapS V3 (w.heap.size+1) (k+0) (nmB fks (mtsE mtX (frE G)) ((cl.take 0).map (·.1)))):=by
    have h:=a4.out;have e:nmB fks (mtsE mtX (frE G)) ((cl.take 0).map (·.1))=fkB fks:=by funext d;simp [nmB,apB]
    rw [e];exact h
   clear ay aQ aO aM ak a4 HR HB
   go_loopw [29] (fun i wr=>∃j:Nat,j<=cs.length/\i= .int .i64 j/\Hid (But (fun i=>i=w.heap.size+1) V3 wr)/\Hid (MapS wr (w.heap.size+1) (k+j) (nmB fks (mtsE mtX (frE G)) ((cl.take j).map (·.1))))) (fun i _=>cs.length - (intOf i).toNat)
   case atStart=>exact ⟨0,Nat.zero_le _,rfl,Z,aw⟩
   case round=>
    clear aw Z;obtain ⟨j,hj,rfl,HBr,HR⟩:=hrel
    by_cases hlt:j < cs.length
    ·obtain ⟨b,aj,c1,rfl,bg,aP,af⟩:=bm.out.at_ hlt;have bG:(j:Int) < (cs.length:Int):=by omega
     have ai:cl[j]? =some (c1.r.a,c1.e):=by rw [<-HMM.out,List.getElem?_map,aP];rfl
     have a0:=lh (nmB_step (fks:=fks) (ml:=mtsE mtX (frE G)) ai);have ar:wr.heap[b]? =V3.heap[b]? :=HBr.out.block b bg (by have h1:=bk.out b rfl;have h2:=aG.out;have h3:=bh.out;omega);have bD:Hid (wr.rangeAt b (aj+j*26) (fCg c1)):=fun i v hv=>by rw [Nat.add_assoc];exact (cB ar).trans (af i v hv)
     have bA:Hid ((wr.alloc (.cells zCg 109)).heap[wr.heap.size]? =some (.cells zCg 109 (0,0))):=zy wr _;have aN:=lh (bx.out.under (HBr.out.mono (fun i hi=> .inl (by have h2:=aG.out;omega))))
     have aX:Hid (int64 c1.r.a.R.hd):=by
      have h1:=aF.out _ (List.mem_of_getElem? ai);exact ⟨Int.le_trans de h1.1,Int.le_trans h1.2 de⟩
     clear af aP ar ai
     go_upto_region 12 with (first
      |(with_reducible refine wpList_load_mid rfl 109 (.tmp 31) rfl b (aj+j*26) rfl (fCg c1) _ bD.out underlying109 rfl (sizeCgL c1) ?_)
      |((with_reducible refine ybk (o:=⟨none,_,_,_,_,_⟩) rfl 109 (.tmp 8) (.tmp 32) rfl wr.heap.size 109 _ _ rfl rfl bA.out (sizeCg c1) rfl (fCg_all c1) ?_);intro W4 au a9;(have aY:Hid (Below wr.heap.size wr W4):=((Below.refl _ wr).alloc nl (.cells zCg 109)).trans (a9.out.below sI (fun i hi=>by subst hi;exact Nat.le_refl _)))))
     have bj:=lh (rangeCg au.out);have ap:=lh (bb.out W4 H W.heap.size jk T M A n c mN N O (aN.out.on aY.out) c1.r aX.out);obtain ⟨o,ho⟩:=gX (akF (mtsE mtX (frE G) c1.r.a.R.hd) c1.r.a.d c1.r.a.q);have ah:Hid (∀d,nmB fks (mtsE mtX (frE G)) ((cl.take (j+1)).map (·.1)) d=(nmB fks (mtsE mtX (frE G)) ((cl.take j).map (·.1)) d||(decide (c1.r.a.R.hd=d)&&o.isSome))):=fun d=>by rw [a0.out d,ho]
     rw [ho] at ap;obtain ⟨fb,aZ⟩:=gX (o.isSome);rw [aZ] at ap ah;clear aN a0 ho aZ
     go_upto_region 13 with (first
      |(with_reducible refine wpList_load_mid rfl 39 (.tmp 35) rfl wr.heap.size 0 rfl (fAr c1.r) _ bj.out underlying39 rfl (sizeArL c1.r) ?_)
      |(go_at_call 60;(with_reducible refine ap.out.mono ?_);rintro e W5 ⟨rfl,a3⟩;(have bz:=lh a3);(have HGE:Hid ((W5.alloc (.cells zEn 55)).heap[W5.heap.size]? =some (.cells zEn 55 (0,0))):=zy W5 _);clear a3)
      |((with_reducible refine ybk (o:=⟨none,_,_,_,_,_⟩) rfl 55 (.tmp 9) (.tmp 38) rfl W5.heap.size 55 _ _ rfl rfl HGE.out (sizeAk o) (sizeAk6 o) (akC_all o) ?_);intro W6 bF be;(have HB6:Hid (Below W5.heap.size W5 W6):=((Below.refl _ W5).alloc nl (.cells zEn 55)).trans (be.out.below sI (fun i hi=>by subst hi;exact Nat.le_refl _)))))
     have ax:Hid (Below W4.heap.size W4 W6):=bt bz.out HB6.out;have U:Hid (Below wr.heap.size wr W6):=bt aY.out ax.out;have bJ:W6.cell? ⟨wr.heap.size,2,none⟩=some (.int .i64 c1.r.a.R.hd):=by rw [World.cell?_of_block (ax.out.block _ (lb au.out)),cell_of_row W4 _ _ _ _ _ au.out];rfl
     cases fb with
     |true=>
      obtain ⟨W7,r7,aI,aU⟩:=(HR.out.on U.out).store (by have h1:=a8;unfold maxLen;omega) aX.out (.bool true);have bp:=lh aI;have HG7:=lh aU;clear aI aU;go_wp2_with fail;go_roundw
      case rel=>exact ⟨j+1,by omega,by go_num,(HBr.out.trans (But.of_below (p:=fun _=>False) U.out) (fun i hi=>hi.elim)).trans (q:=fun i=>i=w.heap.size+1) ⟨HG7.out.os,HG7.out.tape,HG7.out.output,HG7.out.size,fun i hi ao=>HG7.out.block i hi (fun e=>ao (by injection e))⟩ (fun i hi=> .inl hi),by
       have h:=bp.out
       have e:(fun d=>nmB fks (mtsE mtX (frE G)) ((cl.take j).map (·.1)) d||decide (d=c1.r.a.R.hd))=nmB fks (mtsE mtX (frE G)) ((cl.take (j+1)).map (·.1)):=by
        funext d
        rw [ah.out d,Bool.and_true];simp only [eq_comm]
       rw [e] at h
       exact h⟩
      case measure=>simp [intOf];omega
     |false=>
      go_wp2_with fail
      go_roundw
      case rel=>exact ⟨j+1,by omega,by go_num,HBr.out.trans (But.of_below (p:=fun _=>False) U.out) (fun i hi=>hi.elim),by
       have h:=(HR.out.on U.out).mono (Nat.le_succ _)
       have e:nmB fks (mtsE mtX (frE G)) ((cl.take j).map (·.1))=nmB fks (mtsE mtX (frE G)) ((cl.take (j+1)).map (·.1)):=by
        funext d
        rw [ah.out d,Bool.and_false,Bool.or_false]
       rw [e] at h
       exact h⟩
      case measure=>simp [intOf];omega
    ·obtain rfl:j=cs.length:=by omega
     rw [List.take_of_length_le (by have:=HCL.out;omega)] at HR;have bC:=lh (sorted_any (w.heap.size+1) (k+cs.length) (nmB fks (mtsE mtX (frE G)) (cl.map (·.1))) (hdL (nmB fks (mtsE mtX (frE G)) (cl.map (·.1)))) wr HR.out om (hdL_sorted _) (hdL_mem (nmB_hd (fun a ha=>by obtain ⟨p,hp,rfl⟩:=List.mem_map.1 ha;exact aF.out p hp))));have aB:Hid (Below w.heap.size w wr):=aV.out.trans (HBr.out.below aV.out.size (fun i hi=>by subst hi;omega))
     go_wp2_with (first
      |(go_at_call 54;(with_reducible refine (keys_any _ _).mono ?_);rintro e w5 ⟨rfl,rfl⟩)
      |(go_at_call 53;(with_reducible refine bC.out.mono ?_);rintro e w6 ⟨v,rfl,hv,aW⟩;(have HV:=lh hv);(have HB6:=lh aW);clear hv aW))
     go_ret;exact ⟨v,rfl,World.ownsRow.mono HV.out aB.out.size,bt aB.out HB6.out⟩
