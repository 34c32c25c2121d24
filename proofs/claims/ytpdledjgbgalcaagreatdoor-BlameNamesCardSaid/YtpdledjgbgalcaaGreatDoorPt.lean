import Derived.Test.YtpdledjgbgalcaaGreatDoorPu
import Derived.Great.Walk
namespace Go.Proofs.YtpdledjgbgalcaaGreatDoor
set_option maxRecDepth 100000
set_option maxHeartbeats 32000000
open Go.RowKit Go.Lib Go.Proofs.Tryz
set_option linter.unusedVariables false
set_option linter.unusedSimpArgs false
def rkB (hd d q:Int) (e:EnR):Bool:=decide ((mtX e).er=0)&&(decide (e.dv=hd)&&decide (q<=gv (mtX e).v d))
def rkF (l:List EnR) (hd d q:Int):Option EnR:=l.find? (rkB hd d q)
theorem rkF_none {l:List EnR} {hd d q:Int} (h:∀(j:Nat) (m:EnR),l[j]? =some m->rkB hd d q m=false):rkF l hd d q=none:=by
 unfold rkF;rw [List.find?_eq_none.2];intro m G;obtain ⟨j,hj⟩:=List.getElem?_of_mem G;rw [h j m hj]
 decide
theorem rkF_some:∀ {l:List EnR} {hd d q:Int} {k:Nat} {m:EnR},(∀(j:Nat) (m:EnR),j < k->l[j]? =some m->rkB hd d q m=false)->l[k]? =some m->rkB hd d q m=true->rkF l hd d q=some m
 | [],hd,d,q,k,m,_,h,_=>by simp at h
 |a::l,hd,d,q,0,m,_,h,hc=>by
  obtain rfl:a=m:=by simpa using h
  unfold rkF;rw [List.find?_cons,hc]
 |a::l,hd,d,q,k+1,m,hn,h,hc=>by
  have G:=rkF_some (l:=l) (hd:=hd) (d:=d) (q:=q) (k:=k) (fun j m hj H=>hn (j+1) m om (by simpa using H)) (by simpa using h) hc;unfold rkF at G ⊢;rw [List.find?_cons,hn 0 a om sI];exact G
theorem rkF_mem {l:List EnR} {hd d q:Int} {m:EnR} (h:rkF l hd d q=some m):m∈l:=List.mem_of_find?_eq_some h
theorem mtX_ok {e:EnR} (h:(mtX e).er=0):e.k=9/\ybt (mtX e).v=true:=by
 unfold mtX mtD at h ⊢
 by_cases H:e.k=9
 ·refine ⟨H,?_⟩;rw [if_pos H] at h ⊢
  revert h
  cases G:dmV e.bs with
  |none=>intro h;exact absurd h de
  |some p=>
   obtain ⟨q,v⟩:=p;intro _;show ybt v=true;unfold dmV at G
   split at G
   ·obtain ⟨J,h1,h2⟩:=Option.map_eq_some_iff.1 G;injection h2 with h3 h4;subst h4;exact decV_valid h1
   ·cases G
 ·rw [if_neg H] at h;exact absurd h de
theorem rk_ak {hd d q:Int} (hn:numB d q=true):∀l:List EnR,rkF l hd d q=akF (mtsE mtX l hd) d q:=by
 have L:1<=q:=by simp [numB] at hn;omega
 have J:devB d=true:=by simp [numB] at hn;simp [devB];omega
 intro l
 induction l with
 |nil=>rfl
 |cons e l ih=>
  unfold rkF at ih ⊢;rw [List.find?_cons]
  have hml:mtsE mtX (e::l) hd=(mtE mtX e hd).toList++mtsE mtX l hd:=by
   unfold mtsE;rw [List.filterMap_cons];cases mtE mtX e hd<;>rfl
  rw [hml]
  by_cases h0:(mtX e).er=0
  ·obtain ⟨K,M⟩:=mtX_ok h0
   by_cases h1:e.dv=hd
   ·have G:mtE mtX e hd=some (e,(mtX e).v):=by unfold mtE;rw [if_pos ⟨K,h0,h1.symm⟩]
    rw [G]
    have H:cvB (mtX e).v d q=rkB hd d q e:=by
     unfold cvB rkB;rw [M,J];simp [L,h0,h1]
    unfold akF at ih ⊢;show _=(List.find? _ ((e,(mtX e).v)::mtsE mtX l hd)).map _;rw [List.find?_cons,H]
    cases rkB hd d q e with
    |true=>rfl
    |false=>exact ih
   ·have G:mtE mtX e hd=none:=by unfold mtE;rw [if_neg (fun g=>h1 g.2.2.symm)]
    have hr:rkB hd d q e=false:=by simp [rkB,h1]
    rw [G,hr];exact ih
  ·have G:mtE mtX e hd=none:=by unfold mtE;rw [if_neg (fun g=>h0 g.2.1)]
   have hr:rkB hd d q e=false:=by simp [rkB,h0]
   rw [G,hr];exact ih
theorem any_mem {α:Type} {f g:α->Bool}:∀ {l:List α},(∀x∈l,f x=g x)->l.any f=l.any g
 | [],_=>rfl
 |a::l,h=>by rw [List.any_cons,List.any_cons,h a List.mem_cons_self,any_mem (fun x G=>h x (List.mem_cons_of_mem _ G))]
def rnB (fks:List Int) (l:List EnR) (al:List Ac) (d:Int):Bool:=fks.any (fun f=>decide (f=d))||al.any (fun a=>(rkF l a.R.hd a.d a.q).isSome&&decide (a.R.hd=d))
def rnL (S:Int->Bool) (d:Nat):List Int:=((List.range d).map Int.ofNat).filter S
theorem rnL_yes {S:Int->Bool} {d:Nat} (h:S (d:Int)=true):rnL S (d+1)=rnL S d++[(d:Int)]:=by
 unfold rnL;rw [List.range_succ,List.map_append,List.filter_append]
 congr 1
 exact List.filter_cons_of_pos h
theorem rnL_no {S:Int->Bool} {d:Nat} (h:S (d:Int)=false):rnL S (d+1)=rnL S d:=by
 unfold rnL;rw [List.range_succ,List.map_append,List.filter_append];have:List.filter S (List.map Int.ofNat [d])=[]:=List.filter_cons_of_neg (by rw [show S (Int.ofNat d)=false from h];decide);rw [this,List.append_nil]
theorem rnL_len (S:Int->Bool) (d:Nat):(rnL S d).length<=d:=by
 unfold rnL;exact lT (List.length_filter_le _ _) sI
theorem rn_nm {fks:List Int} {l:List EnR} {G:List Ac} (h:∀a∈G,numB a.d a.q=true):rnL (rnB fks l G) 12=hdL (nmB fks (mtsE mtX l) G):=by
 unfold rnL hdL;refine List.filter_congr fun d hd=>?_;obtain ⟨i,hi,rfl⟩:=List.mem_map.1 hd;have J:=List.mem_range.1 hi;unfold rnB nmB fkB apB;have H:devB (Int.ofNat i)=true:=by simp [devB];omega
 congr 1
 ·refine any_mem fun f hf=>?_
  by_cases e:f=Int.ofNat i
  ·rw [e,H];simp
  ·rw [decide_eq_false e];rfl
 ·refine any_mem fun a ha=>?_;rw [rk_ak (h a ha),Bool.and_comm]
def pfF (ml:Int->List (EnR × List Int)) (dev:Int):List (Ac × EnR)->Option (EnR × EnR)
 | []=>none
 |p::l=>if p.1.R.hd=dev then (match akF (ml p.1.R.hd) p.1.d p.1.q with |some m=>some (p.2,m) |none=>pfF ml dev l) else pfF ml dev l
def pfB (ml:Int->List (EnR × List Int)) (dev:Int) (p:Ac × EnR):Bool:=decide (p.1.R.hd=dev)&&(akF (ml p.1.R.hd) p.1.d p.1.q).isSome
theorem pfF_none {ml:Int->List (EnR × List Int)} {dev:Int}:∀ {cl:List (Ac × EnR)},(∀(j:Nat) p,cl[j]? =some p->pfB ml dev p=false)->pfF ml dev cl=none
 | [],_=>rfl
 |p::l,h=>by
  have G:=pfF_none (ml:=ml) (dev:=dev) (cl:=l) (fun j q J=>h (j+1) q (by simpa using J));have h0:=h 0 p sI;unfold pfF;unfold pfB at h0
  by_cases h1:p.1.R.hd=dev
  ·rw [if_pos h1]
   cases H:akF (ml p.1.R.hd) p.1.d p.1.q with
   |none=>exact G
   |some m=>rw [H] at h0;simp [h1] at h0
  ·rw [if_neg h1];exact G
theorem pfF_some {ml:Int->List (EnR × List Int)} {dev:Int}:∀ {cl:List (Ac × EnR)} {k:Nat} {p:Ac × EnR} {m:EnR},(∀(j:Nat) q,j < k->cl[j]? =some q->pfB ml dev q=false)->cl[k]? =some p->p.1.R.hd=dev->akF (ml p.1.R.hd) p.1.d p.1.q=some m->pfF ml dev cl=some (p.2,m)
 | [],k,p,m,_,h,_,_=>by simp at h
 |a::l,0,p,m,_,h,h1,h2=>by
  obtain rfl:a=p:=by simpa using h
  unfold pfF;rw [if_pos h1,h2]
 |a::l,k+1,p,m,hn,h,h1,h2=>by
  have H:=pfF_some (ml:=ml) (dev:=dev) (cl:=l) (k:=k) (fun j q hj K=>hn (j+1) q om (by simpa using K)) (by simpa using h) h1 h2;have h0:=hn 0 a om sI;unfold pfF;unfold pfB at h0
  by_cases G:a.1.R.hd=dev
  ·rw [if_pos G]
   cases J:akF (ml a.1.R.hd) a.1.d a.1.q with
   |none=>exact H
   |some m=>rw [J] at h0;simp [G] at h0
  ·rw [if_neg G];exact H
theorem cgL_ent {op:Ac->Bool} {l:List EnR}:∀p∈cgL op l,p.2∈l/\p.2.k=6/\p.1.d=p.2.dv/\p.1.q=p.2.sq:=fun p hp=>by
 obtain ⟨e,G,h⟩:=List.mem_filterMap.1 hp;unfold cgE at h
 split at h
 ·next g=>
  injection h with h;subst h;refine ⟨G,g.1,?_⟩;have h0:=g.2.1
  show (acX e).d=e.dv/\(acX e).q=e.sq;unfold acX acF at h0 ⊢;rw [if_pos g.1] at h0 ⊢
  split at h0
  ·next h1=>
   split at h0
   ·next h2=>
    rw [if_pos h1,if_pos h2];exact ⟨rfl,rfl⟩
   ·exact absurd h0 de
  ·exact absurd h0 de
 ·cases h
theorem mtX_pos {e:EnR} (h:(mtX e).er=0):0 < e.bs.length:=by
 cases H:e.bs with
 |nil=>
  exfalso;unfold mtX mtD at h;rw [H] at h
  by_cases G:e.k=9
  ·rw [if_pos G] at h;exact absurd h (by decide+kernel)
  ·rw [if_neg G] at h;exact absurd h de
 |cons b bs=>simp
theorem acX_pos {e:EnR} (h:(acX e).er=0):0 < e.bs.length:=by
 cases G:e.bs with
 |nil=>
  exfalso;unfold acX acF at h;rw [G,show okT []=false by decide+kernel] at h
  split at h
  ·split at h
   ·rw [if_neg Bool.false_ne_true] at h;exact absurd h de
   ·exact absurd h de
  ·exact absurd h de
 |cons b bs=>simp
theorem cgL_pos {op:Ac->Bool} {l:List EnR}:∀p∈cgL op l,p.2∈l/\0 < p.2.bs.length:=fun p hp=>by
 obtain ⟨e,G,h⟩:=List.mem_filterMap.1 hp;unfold cgE at h
 split at h
 ·next g=>
  injection h with h;subst h;exact ⟨G,acX_pos g.2.1⟩
 ·cases h
theorem akF_pos {l:List EnR} {hd d q:Int} {m:EnR} (h:akF (mtsE mtX l hd) d q=some m):m∈l/\0 < m.bs.length:=by
 unfold akF at h;obtain ⟨p,h1,rfl⟩:=Option.map_eq_some_iff.1 h;obtain ⟨e,G,h2⟩:=List.mem_filterMap.1 (List.mem_of_find?_eq_some h1);unfold mtE at h2
 split at h2
 ·next g=>
  injection h2 with h2;subst h2;exact ⟨G,mtX_pos g.2.1⟩
 ·cases h2
theorem Tryz.infoRA:(prog.info? 50).map (fun i=>(i.zero.map (·.cells.size),i.size,i.bytes))=some (some 20,20,248):=by kernel_rfl
theorem sizeArR (r:AcR):(prog.info? 50).map (·.size)=some (fAr r).length:=by kernel_rfl
theorem ownNN_apart {α β:Type} {f:α->List Value} {O:β->List Value} {s L:Nat} {w:World} {base base':Nat} {e K:TypeId} {v J:Value} {xs:List α} {ys:List β} (h:OwnN f s e w base v xs) (M:OwnN O L K w base' J ys) (H:e≠K):v.ownBlock=none∨v.ownBlock≠J.ownBlock:=by
 rcases h.2 with ⟨rfl,h0⟩ |⟨g,cap,Z,rfl,h1,W,h2⟩
 ·exact .inl rfl
 ·right
  rcases M.2 with ⟨rfl,h0⟩ |⟨Y,T,U,rfl,aa,G,z⟩
  ·intro e;cases e
  ·intro e;have N:g=Y:=by injection e
   subst N;rw [W] at G;injection G with G;injection G with _ ht _;exact H ht
def OqR (al:List Ac) (base:Nat) (W1:World) (vE:Value) (l:List EnR) (wr:World) (v:Value):Prop:=
 Below base W1 wr/\OwnN fEn 6 55 wr base vE l/\∃rs:List AcR,OwnN fAr 20 50 wr base v rs/\(∀r∈rs,ArO wr base r)/\rs.map (·.a)=al
theorem OqR.on {J:List Ac} {base:Nat} {L wr H:World} {K v:Value} {l:List EnR} (h:OqR J base L K l wr v) (G:Below wr.heap.size wr H) (O:base<=wr.heap.size):OqR J base L K l H v:=by
 obtain ⟨h1,h2,rs,T,M,N⟩:=h;exact ⟨h1.trans (G.mono O),h2.on G,rs,T.on G,fun r hr=>(M r hr).on G,N⟩
theorem cg_er {op:Ac->Bool} {l:List EnR} {k:Nat} {e:EnR} (h:l[k]? =some e) (hn:¬((acX e).er=0/\op (acX e)=true)):(cgL op (l.take (k+1))).map (·.1)=(cgL op (l.take k)).map (·.1):=by
 rw [ydg h];unfold cgE;rw [if_neg (fun g=>hn ⟨g.2.1,g.2.2⟩)];simp
theorem acX_six {e:EnR} (h:(acX e).er=0):e.k=6:=by
 unfold acX acF at h
 by_cases h6:e.k=6
 ·exact h6
 ·rw [if_neg h6] at h;exact absurd h de
theorem cg_yes {op:Ac->Bool} {l:List EnR} {k:Nat} {e:EnR} (h:l[k]? =some e) (h0:(acX e).er=0) (h1:op (acX e)=true):(cgL op (l.take (k+1))).map (·.1)=(cgL op (l.take k)).map (·.1)++[acX e]:=by
 rw [ydg h];unfold cgE;rw [if_pos ⟨acX_six h0,h0,h1⟩];simp
theorem aqX_seven {e:EnR} (h:(aqX e).er=0):e.k=7:=by
 unfold aqX aqF at h
 by_cases h7:e.k=7
 ·exact h7
 ·rw [if_neg h7] at h;exact absurd h de
theorem pcs_take {l:List EnR} {m:Nat} {e:EnR} (h:l[m]? =some e) (d q y:Int):pcsE aqX (l.take (m+1)) d q y=pcsE aqX (l.take m) d q y++(pcE aqX e d q y).toList:=by
 unfold pcsE;rw [List.take_add_one,h,List.filterMap_append];cases h:pcE aqX e d q y<;>simp [h]
def acqd (a:Ac) (l:List EnR):Bool:=(pcsE aqX l a.d a.q a.R.hd).any fun p=>aqB a.R p.st p.ix p.xs p.ys
theorem acqd_no {a:Ac} {l:List EnR} {m:Nat} {e:EnR} (h:l[m]? =some e) (hn:¬((aqX e).er=0/\e.dv=a.R.hd/\(aqX e).d=a.d/\(aqX e).q=a.q/\aqB a.R (aqX e).x.st (aqX e).x.ix (aqX e).x.xs (aqX e).x.ys=true)):acqd a (l.take (m+1))=acqd a (l.take m):=by
 unfold acqd;rw [pcs_take h,List.any_append]
 have:((pcE aqX e a.d a.q a.R.hd).toList.any fun p=>aqB a.R p.st p.ix p.xs p.ys)=false:=by
  unfold pcE
  split
  ·next g=>
   simp only [Option.toList_some,List.any_cons,List.any_nil,Bool.or_false];rw [<-Bool.not_eq_true];exact fun G=>hn ⟨g.2.1,g.2.2.2.2.symm,g.2.2.1.symm,g.2.2.2.1.symm,G⟩
  ·rfl
 rw [this,Bool.or_false]
theorem acqd_yes {a:Ac} {l:List EnR} {m:Nat} {e:EnR} (h:l[m]? =some e) (h1:(aqX e).er=0) (h2:e.dv=a.R.hd) (J:(aqX e).d=a.d) (H:(aqX e).q=a.q) (G:aqB a.R (aqX e).x.st (aqX e).x.ix (aqX e).x.xs (aqX e).x.ys=true):acqd a (l.take (m+1))=true:=by
 unfold acqd;rw [pcs_take h,List.any_append]
 have:((pcE aqX e a.d a.q a.R.hd).toList.any fun p=>aqB a.R p.st p.ix p.xs p.ys)=true:=by
  unfold pcE;rw [if_pos ⟨aqX_seven h1,h1,J.symm,H.symm,h2.symm⟩];simpa using G
 rw [this,Bool.or_true]
theorem opV_eq (x:Vw) (J:List EnR) (vs:List VtR) (G H:List ByteArray) (a:Ac):opV x J vs G H a=(cnF G x.b x.h vs a&&(!drB H a.R.s&& !acqd a (frE J))):=by
 unfold opV opF opB acqd;cases cnF G x.b x.h vs a<;>simp
theorem drB_take {G:List ByteArray} {m:Nat} {y:ByteArray} (h:G[m]? =some y) (s:ByteArray):drB (G.take (m+1)) s=(drB (G.take m) s||decide (y=s)):=by
 unfold drB;rw [List.take_add_one,h,List.any_append];simp
theorem rangeRow {w:World} {b:Nat} {t:TypeId} {cs:Array Value} (h:w.heap[b]? =some (.cells cs t (0,0))):w.rangeAt b 0 cs.toList:=fun j v G=>by
 rw [Nat.zero_add,cell_of_row w b j _ _ _ h];simpa using G
theorem sizePcL (s:ByteArray) (ix:Int) (A:Option Addr) (n c:Nat) (A':Option Addr) (m c':Nat):(prog.info? 42).map (·.size)=some (cPi s ix A n c A' m c').toList.length:=by kernel_rfl
theorem ropen_any (x:Vw) (O:List EnR) (vs:List VtR) (G L:List ByteArray) (fks:List Int) (B:Nat) (w:World) (hV:VwIn w B x O vs G L fks) (hB:B<=w.heap.size) (hk:VwOk x O) (bh:∀e∈O,e.bd.n<=65536):
 Calls prog 21 #[.agg (cVw x)] w fun e w'=>∃v,e= .returned v/\Below w.heap.size w w'/\∃rs:List AcR,OwnN fAr 20 50 w' w.heap.size v rs/\(∀r∈rs,ArO w' w.heap.size r)/\rs.map (·.a)=opnV x O vs G L:=by
 have bX:(w.alloc (.cells (cVw x) 48)).heap.size=w.heap.size+1:=by simp
 obtain ⟨W1,al⟩:∃W:World,W=(w.alloc (.cells (cVw x) 48)).alloc (.cells #[] 50):=⟨_,rfl⟩
 have aC:Below w.heap.size w W1:=by rw [al];exact bl.alloc sI _
 have aJ:W1.heap[w.heap.size]? =some (.cells (cVw x) 48 (0,0)):=by rw [al];exact (zx _ _ _ sI).trans (zy w _)
 have bO:OwnN fAr 20 50 W1 (w.heap.size+1) (.slice (some ⟨w.heap.size+1,0,none⟩) 0 0) []:=by
  rw [al,<-bX];exact World.ownsRow_made _ #[] 0 nl (Nat.zero_le _) sI
 have ap:w.heap.size+1<=W1.heap.size:=by rw [al];simp
 obtain ⟨l,hl⟩:=gX (frE O);have a6:=entries_any x O B W1 (hV.E.1.up aC hB) (lT hB aC.size) hk.1;rw [hl] at a6;have aG:l.length<=1000:=by rw [<-hl];have h1:=yb3 O;have h2:O.length=x.E.n:=hV.E.1.1;have h3:=hk.1;omega
 have HL:Hid (∀e∈l,EnOk w B e/\e.bd.n<=65536):=fun e he=>by rw [<-hl] at he;exact ⟨hV.E.2 e (yce he),bh e (yce he)⟩
 have cj:=lh hl;have HLN:=lh aG;have az:=lh a6;have cD:=lh al;have HB1:=lh aC;have cV:=lh aJ;have bj:=lh bO;have HS1:=lh ap;have bq:Hid (∀V,Below w.heap.size w V->VwIn V V.heap.size x O vs G L fks):=fun V M=>(hV.up M hB).more (lT hB M.size);have aO:=lh hB;have aQ:=lh hk;obtain ⟨i0,z0,bQ,bu,be,b1,bB⟩:=ycP Tryz.infoRA;have bW:=lh bQ;have bk:=lh bu;have bK:=lh be;have cz:=lh b1;have bb:=lh bB;have b9:Hid (∀V,Below (w.heap.size+1) W1 V->V.heap[w.heap.size]? =some (.cells (cVw x) 48 (0,0))):=fun V M=>(M.block _ (Nat.lt_succ_self _)).trans aJ;have HBW:Hid (∀V,Below (w.heap.size+1) W1 V->Below w.heap.size w V):=fun V M=>aC.trans (M.mono (Nat.le_succ _));have bN:Hid (∀V,Below (w.heap.size+1) W1 V->w.heap.size+1<=V.heap.size):=fun V M=>lT ap M.size;have bm:Hid (∀a,opV x O vs G L a=(cnF G x.b x.h vs a&&(!drB L a.R.s&& !acqd a l))):=fun a=>by rw [<-hl];exact opV_eq ..
 obtain ⟨v0,v1,v2,v3,v4,v5,v6⟩:=ybv aJ;clear hV hB hk bh bX al aC aJ bO ap hl a6 bQ bu be b1 bB;go_enter func21,ntmps21;go_upto_region 2 with fail
 rw [<-cD.out];go_wp2_with (go_at_call 55;(with_reducible refine az.out.mono ?_);rintro e w2 ⟨vE,rfl,ho,hb⟩;(obtain ⟨Ae,ce,M,cK,_,_⟩:=OwnN.shape ycz ho);subst M;(have bA:Hid (OwnN fEn 6 55 w2 (w.heap.size+1) (.slice Ae l.length ce) l):=World.ownsRow.mono ho HS1.out);(have bF:Hid (Below (w.heap.size+1) W1 w2):=hb.mono HS1.out);(have b0:Hid (OwnN fAr 20 50 w2 (w.heap.size+1) (.slice (some ⟨w.heap.size+1,0,none⟩) 0 0) []):=OwnN.on bj.out hb);clear ho hb cK);clear v0 v1 v2 v3 v4 v5 v6
 go_loopw [3,5] (fun v i wr=>∃k:Nat,k<=l.length/\i= .int .i64 k/\Hid (OqR ((cgL (opV x O vs G L) (l.take k)).map (·.1)) (w.heap.size+1) W1 (.slice Ae l.length ce) l wr v)) (fun _ i _=>l.length - (intOf i).toNat)
 case atStart=>exact ⟨0,Nat.zero_le _,rfl,bF.out,bA.out,[],b0.out,(fun _ h=>by cases h),rfl⟩
 case round=>
  clear bA bF b0 az bj;obtain ⟨k,hk,rfl,HR⟩:=hrel
  by_cases hlt:k < l.length
  ·have cC:(k:Int) < (l.length:Int):=by omega
   obtain ⟨z,cx⟩:∃z:World,z=wr:=⟨_,rfl⟩
   subst cx;have HBr:Hid (Below (w.heap.size+1) W1 z):=HR.out.1;have aY:=lh (HBW.out _ HBr.out);have aA:=lh (bN.out _ HBr.out)
   have aU:Hid (∀V,Below z.heap.size z V->∀m,m < l.length->∃b Y e',Ae=some ⟨b,Y,none⟩/\l[m]? =some e'/\V.rangeAt b (Y+m*6) (fEn e')):=fun V M m hm=>by
    obtain ⟨A',c',cF,_,cq,_⟩:=OwnN.shape ycz (OwnN.on HR.out.2.1 M);injection cF with e1 _ _;subst e1;obtain ⟨b,Y,e',h1,_,h3,h4⟩:=cq.at_ hm;exact ⟨b,Y,e',h1,h3,fun j v M=>by rw [Nat.add_assoc];exact h4 j v M⟩
   obtain ⟨b,Y,⟨dv,sq,ek,dy,bd,pr,bs⟩,rfl,he,hr⟩:=aU.out z bR k hlt;have ck:=lh hr;have HGE:=lh he;have az:=lh (HL.out _ (List.mem_of_getElem? he));obtain ⟨a,ha⟩:∃a:Ac,acX ⟨dv,sq,ek,dy,bd,pr,bs⟩=a:=⟨_,rfl⟩
   have ca:Hid (Calls prog 56 #[.agg (fEn ⟨dv,sq,ek,dy,bd,pr,bs⟩).toArray] z (AcP a z)):=by
    have h:=rac_f ⟨dv,sq,ek,dy,bd,pr,bs⟩ B z (az.out.1.up aY.out aO.out) (lT aO.out aY.out.size) az.out.2;rw [ha] at h;exact h
   have HAE:=lh ha;clear he hr ha
   go_upto_region 7 with (first
    |(with_reducible refine wpList_load_mid rfl 55 (.tmp 27) rfl b (Y+k*6) rfl (fEn ⟨dv,sq,ek,dy,bd,pr,bs⟩) _ ck.out underlying55 rfl (sizeEnK _) ?_)
    |(go_at_call 56;(with_reducible refine ca.out.mono ?_);rintro e W3 ⟨pa,pb,pc,rfl,ho,bJ⟩;(have cI:Hid (ArO W3 z.heap.size ⟨a,pa,pb,pc⟩):=ho);(have cw:=lh bJ);(have cH:Hid ((W3.alloc (.cells zA 50)).heap[W3.heap.size]? =some (.cells zA 50 (0,0))):=zy W3 _);clear ho bJ)
    |((with_reducible refine ybk (o:=⟨none,_,_,_,_,_⟩) rfl 50 (.tmp 6) (.tmp 30) rfl W3.heap.size 50 _ _ rfl rfl cH.out (yeq a.d a.q (rHd a.R pa pb pc) a.st a.ix a.no a.an) rfl (yd6 a.d a.q (rHd a.R pa pb pc) a.st a.ix a.no a.an) ?_);intro N aX b5;(have aT:Hid (Below W3.heap.size W3 N):=((Below.refl _ W3).alloc nl (.cells zA 50)).trans (b5.out.below sI (fun i hi=>by subst hi;omega)));(have bP:Hid (Below z.heap.size z N):=bt cw.out aT.out)))
   have bH:Hid (ArO N z.heap.size ⟨a,pa,pb,pc⟩):=RcO.on cI.out aT.out;have ax:Hid (∀V,Below N.heap.size N V->V.heap[W3.heap.size]? =some (.cells (cA a.d a.q (rHd a.R pa pb pc) a.st a.ix a.no a.an) 50 (0,0))):=fun V M=>(M.block _ (lb aX.out)).trans aX.out;have aq:Hid (∀V,Below N.heap.size N V->Below z.heap.size z V):=fun V M=>bt bP.out M;have bC:Hid (∀V,Below N.heap.size N V->V.heap[w.heap.size]? =some (.cells (cVw x) 48 (0,0))):=fun V M=>b9.out _ (HBr.out.trans ((aq.out V M).mono aA.out));have aD:Hid (∀V,Below N.heap.size N V->OqR ((cgL (opV x O vs G L) (l.take k)).map (·.1)) (w.heap.size+1) W1 (.slice (some ⟨b,Y,none⟩) l.length ce) l V u3):=fun V M=>HR.out.on (aq.out V M) aA.out;obtain ⟨v0,v1,v2,v3,v4,v5,v6⟩:=ybv (bC.out _ bR)
   by_cases h0:a.er=0
   ·have cu:=lh h0;have hi:=bH.out.rcIn;have aG:=acF_len (k:=ek) (d:=dv) (q:=sq) (bs:=bs) (acX_six (e:=⟨dv,sq,ek,dy,bd,pr,bs⟩) (by rw [HAE.out];exact h0)) (by rw [show acF ek dv sq bs=a from HAE.out];exact h0);rw [show acF ek dv sq bs=a from HAE.out] at aG;have bp:pa.n<=1000000:=by have h1:a.ps.length=pa.n:=hi.1.1.1;omega
    have bL:pb.n<=1000000:=by have h1:a.qs.length=pb.n:=hi.1.2.1.1;omega
    have bE:pc.n<=1000000:=by have h1:a.rs.length=pc.n:=hi.1.2.2.1;omega
    obtain ⟨cb,a2⟩:=gX (cnF G x.b x.h vs a)
    have bV:Hid (Calls prog 13 #[.agg (cVw x),.agg (cA a.d a.q (rHd a.R pa pb pc) a.st a.ix a.no a.an)] N fun e w'=>e= .returned (.bool cb)/\Below N.heap.size N w'):=by
     have bx:=bq.out _ (bt aY.out bP.out);have h1:=rcounts_any x G vs a.d a.q (rHd a.R pa pb pc) a.st a.ix a.no a.an a.ps a.qs a.rs N.heap.size N bx.V bx.P hi.1 nl aQ.out.2.1.1 aQ.out.2.1.2.1 hi.2 bp bL bE;have h5:cnF G x.b x.h vs a=cnB G x.b x.h vs a.d a.q (rHd a.R pa pb pc) a.st a.ix a.no a.an a.ps a.qs a.rs:=cnB_hd _ _ _ _ _ _ _ _ _ _ _ _ _ _ hi.1.2.1.1 hi.1.2.2.1;rw [<-h5,a2] at h1;exact h1
    have bw:=lh a2;have bZ:=lh (ydi aX.out);clear hi a2 aG bp bL bE
    cases cb with
    |true=>
     go_upto_region 8 with (first
      |(with_reducible refine yb0 (op:=⟨some 36,_,_,_,_,_⟩) ybi 50 (.tmp 6) rfl W3.heap.size 0 rfl (cA a.d a.q (rHd a.R pa pb pc) a.st a.ix a.no a.an).toList _ bZ.out underlying50 rfl (sizeALR _ _ _ _ _ _ _) ?_)
      |(go_at_call 13;(with_reducible refine bV.out.mono ?_);rintro e W5 ⟨rfl,aB⟩;(have a5:=lh aB);clear aB))
     clear v0 v1 v2 v3 v4 v5 v6;go_upto_region 10 with fail
     go_loopw [8,9] (fun f j wr=>∃m:Nat,m<=x.D.n/\j= .int .i64 m/\f= .bool (!drB (L.take m) a.R.s)/\Hid (Below N.heap.size N wr)) (fun _ j _=>x.D.n - (intOf j).toNat)
     case atStart=>exact ⟨0,Nat.zero_le _,rfl,rfl,a5⟩
     case round=>
      obtain ⟨m,hm,rfl,rfl,Z⟩:=hrel;have cO:x.D.n<=1000:=aQ.out.2.1.2.2;obtain ⟨v0,v1,v2,v3,v4,v5,v6⟩:=ybv (bC.out _ Z.out);obtain ⟨z0,z1,z2,z3,z4,z5⟩:=ybC (ax.out _ Z.out);have aH:=(bq.out _ (HBW.out _ (HBr.out.trans ((aq.out _ Z.out).mono aA.out)))).D;have bG:L.length=x.D.n:=aH.1
      by_cases cP:m < x.D.n
      ·have aZ:(m:Int) < (x.D.n:Int):=by omega
       obtain ⟨b2,b6,y,bv,_,hy,cU⟩:=aH.2.at_ (k:=m) om;have HT:=lh (drB_take hy a.R.s);rw [bv] at v5;clear aH hy bv
       cases ak:drB (L.take m) a.R.s with
       |true=>
        rw [ak] at HT;go_wp2_with fail;go_quiet (fail);go_wp2_with fail;go_roundw;case rel=>exact ⟨m+1,by omega,by go_num,by rw [HT.out];rfl,ybl Z.out _⟩
        case measure=>simp [intOf];omega
       |false=>
        rw [ak] at HT
        by_cases aK:y=a.R.s
        ·subst aK;go_wp2_with fail;go_quiet (fail);go_wp2_with fail;go_roundw;case rel=>exact ⟨m+1,by omega,by go_num,by rw [HT.out];simp,ybl Z.out _⟩
         case measure=>simp [intOf];omega
        ·have e1:¬y.toList=a.R.s.toList:=fun h=>aK (by have:=beqD y a.R.s;rw [decide_eq_false aK] at this;simp [h] at this);have e2:(y.toList==a.R.s.toList)=false:=by simp [e1]
         have e3:(y.toList != a.R.s.toList)=true:=by simp [e1]
         have e4:decide (y.toList=a.R.s.toList)=false:=by simp [e1]
         go_wp2_with fail
         go_quiet (fail)
         go_wp2_with fail
         go_roundw
         case rel=>exact ⟨m+1,by omega,by go_num,by rw [HT.out];simp [aK],ybl Z.out _⟩
         case measure=>simp [intOf];omega
      ·obtain rfl:m=x.D.n:=by omega
       have aZ:¬(x.D.n:Int) < (x.D.n:Int):=by omega
       have bS:L.take x.D.n=L:=by rw [<-bG,List.take_length]
       rw [bS];obtain ⟨db,ak⟩:=gX (drB L a.R.s);rw [ak];have cr:=lh ak;clear bS ak aH bG;go_upto_region 14 with fail
       clear v0 v1 v2 v3 v4 v5 v6 z0 z1 z2 z3 z4 z5
       go_loopw [8,10] (fun f j wr=>∃m:Nat,m<=l.length/\j= .int .i64 m/\f= .bool (!db&& !acqd a (l.take m))/\Hid (Below N.heap.size N wr)) (fun _ j _=>l.length - (intOf j).toNat)
       case atStart=>exact ⟨0,Nat.zero_le _,rfl,by cases db<;>rfl,Z⟩
       case round=>
        clear Z;obtain ⟨m,hm,rfl,rfl,Z⟩:=hrel
        by_cases hml:m < l.length
        ·have aZ:(m:Int) < (l.length:Int):=by omega
         obtain ⟨b2,b6,⟨U,aw,ai,am,ae,ar,aa⟩,af,aP,a8⟩:=aU.out _ (aq.out _ Z.out) m hml;injection af with af;injection af with hA1 hA2 _;subst hA1 hA2;have ah:=lh aP;have cm:=lh a8;obtain ⟨y,hy⟩:=gX (aqX ⟨U,aw,ai,am,ae,ar,aa⟩)
         have cG:Hid (Calls prog 57 #[.agg (fEn ⟨U,aw,ai,am,ae,ar,aa⟩).toArray] wr (RqP y wr)):=by
          have aj:=HL.out _ (List.mem_of_getElem? aP);have ao:=HBW.out _ (HBr.out.trans ((aq.out _ Z.out).mono aA.out));have h:=raq_f ⟨U,aw,ai,am,ae,ar,aa⟩ B wr (aj.1.up ao aO.out) (lT aO.out ao.size) aj.2;rw [hy] at h;exact h
         have a0:Hid (y.x.xs.length<=1000000/\y.x.ys.length<=1000000/\Byt y.x.xs):=by
          have aj:=HL.out _ (List.mem_of_getElem? aP);have h1:=aqX_ok (e:=⟨U,aw,ai,am,ae,ar,aa⟩) aj.1.2.1 (by have h1:aa.length=ae.n:=aj.1.1.1;have h2:ae.n<=65536:=aj.2;show aa.length<=1000000;omega);rw [hy] at h1;exact h1
         have HY:=lh hy;clear aP a8 hy
         go_upto_region 17 with (first
          |(with_reducible refine wpList_load_mid rfl 55 (.tmp 69) rfl b (Y+m*6) rfl (fEn ⟨U,aw,ai,am,ae,ar,aa⟩) _ cm.out underlying55 rfl (sizeEnK _) ?_)
          |(go_at_call 57;(with_reducible refine cG.out.mono ?_);rintro e W7 ⟨J,H,rfl,ap,bi,bT,bY⟩;(have a9:=lh ap);(have bU:=lh bi);(have bI:=lh bT);(have HB7:=lh bY);clear ap bi bT bY))
         obtain ⟨W8,aM⟩:∃W:World,W=W7.alloc (.cells (cPi y.x.st y.x.ix J.a J.n J.c H.a H.n H.c) 42):=⟨_,rfl⟩
         have b4:W8.heap[W7.heap.size]? =some (.cells (cPi y.x.st y.x.ix J.a J.n J.c H.a H.n H.c) 42 (0,0)):=by rw [aM];exact zy W7 _
         have br:=lh b4;have a4:Hid (Below W7.heap.size W7 W8):=by show Below ..;rw [aM];exact bl
         have cv:Hid (Below wr.heap.size wr W8):=bt HB7.out a4.out;rw [<-aM];clear aM b4;have ac:Hid (Below N.heap.size N W8):=bt Z.out cv.out
         have aW:Hid (∀V,Below W8.heap.size W8 V->V.cell? ⟨b,Y+m*6,none⟩=some (.int .i64 U)):=fun V M=>by
          obtain ⟨b3,cM,e3,af,bD,cp⟩:=aU.out _ (aq.out _ (bt ac.out M)) m hml;injection af with af;injection af with hA1 hA2 _;subst hA1 hA2;rw [ah.out] at bD;obtain rfl:⟨U,aw,ai,am,ae,ar,aa⟩=e3:=Option.some.inj bD;exact cp 0 _ rfl
         obtain ⟨z0,z1,z2,z3,z4,z5⟩:=ybC (ax.out _ ac.out);have x0:=aW.out _ bR
         by_cases g1:y.er=0
         ·by_cases g2:U=a.R.hd
          ·by_cases g3:y.d=a.d
           ·by_cases g4:y.q=a.q
            ·
             have bM:Hid (∀V,Below W8.heap.size W8 V->V.heap[W7.heap.size]? =some (.cells (cPi y.x.st y.x.ix J.a J.n J.c H.a H.n H.c) 42 (0,0))):=fun V M=>(M.block _ (lb br.out)).trans br.out;have aF:Hid (Below W8.heap.size W8 W8.drew):=bR.drew;have b7:Hid (Below N.heap.size N W8.drew):=ac.out.drew;obtain ⟨ab,a3⟩:=gX (aqB a.R y.x.st y.x.ix y.x.xs y.x.ys)
             have cd:Hid (∀V,Below W8.heap.size W8 V->Calls prog 16 #[.agg (cA a.d a.q (rHd a.R pa pb pc) a.st a.ix a.no a.an),.agg (cPi y.x.st y.x.ix J.a J.n J.c H.a H.n H.c)] V fun e w'=>e= .returned (.bool ab)/\Below V.heap.size V w'):=fun V M=>by
              have aL:=bt a4.out M;have h1:=racquits_any a.d a.q (rHd a.R pa pb pc) a.st a.ix a.no a.an y.x.st y.x.ix J.a H.a J.n J.c H.n H.c V.heap.size y.x.xs y.x.ys V bI.out.1 bI.out.2 ((a9.out.up aL nl).more' aL.size) ((bU.out.up aL nl).more' aL.size) nl (by have h2:=a9.out.1;have h3:=a0.out.1;omega) (by have h2:=bU.out.1;have h3:=a0.out.2.1;omega) a0.out.2.2;rw [show aqB (rHd a.R pa pb pc) y.x.st y.x.ix y.x.xs y.x.ys=ab from a3] at h1;exact h1
             have bf:=lh a3;clear a3;refine rH (S:=(fun w'=>w'.heap[W3.heap.size]? =some (.cells (cA a.d a.q (rHd a.R pa pb pc) a.st a.ix a.no a.an) 50 (0,0))/\w'.heap[W7.heap.size]? =some (.cells (cPi y.x.st y.x.ix J.a J.n J.c H.a H.n H.c) 42 (0,0))/\w'.cell? ⟨b,Y+m*6,none⟩=some (.int .i64 U))) ybi (by exact ⟨ax.out _ b7.out,bM.out _ aF.out,aW.out _ aF.out⟩) (fun a7=>?_)
             (iterate 7 refine tkA ?_)
             refine tkH (i:=7) (v:=_) (y:=(Or.inl ⟨by rfl,by (intro w hSw;(try dsimp only at hSw);obtain ⟨z0,z1,z2,z3,z4,z5⟩:=ybC hSw.1;have x0:=hSw.2.2;go_simp;try (with_reducible rfl))⟩)) (h:=?_)
             try simp only [pt]
             (iterate 2 refine tkA ?_)
             refine tkH (i:=10) (v:=_) (y:=(Or.inl ⟨by rfl,by (intro w hSw;(try dsimp only at hSw);obtain ⟨z0,z1,z2,z3,z4,z5⟩:=ybC hSw.1;have x0:=hSw.2.2;go_simp;try (with_reducible rfl))⟩)) (h:=?_)
             try simp only [pt]
             (iterate 5 refine tkA ?_)
             refine tkH (i:=16) (v:=_) (y:=(Or.inl ⟨by rfl,by (intro w hSw;(try dsimp only at hSw);obtain ⟨z0,z1,z2,z3,z4,z5⟩:=ybC hSw.1;have x0:=hSw.2.2;go_simp;try (with_reducible rfl))⟩)) (h:=?_)
             try simp only [pt]
             (iterate 5 refine tkA ?_)
             refine tkH (i:=22) (v:=_) (y:=(Or.inl ⟨by rfl,by (intro w hSw;(try dsimp only at hSw);obtain ⟨z0,z1,z2,z3,z4,z5⟩:=ybC hSw.1;have x0:=hSw.2.2;go_simp;try (with_reducible rfl))⟩)) (h:=?_)
             try simp only [pt]
             (iterate 3 refine tkA ?_)
             refine tkH (i:=26) (v:=_) (y:=(yieldsIf_load_mid (by rfl) 50 (.tmp 6) rfl W3.heap.size 0 (by rfl) (cA a.d a.q (rHd a.R pa pb pc) a.st a.ix a.no a.an).toList _ (fun _ h=>ydi h.1) underlying50 rfl (sizeALR _ _ _ _ _ _ _))) (h:=?_)
             try simp only [pt]
             refine tkH (i:=27) (v:=_) (y:=(yieldsIf_load_mid (by rfl) 42 (.tmp 13) rfl W7.heap.size 0 (by rfl) (cPi y.x.st y.x.ix J.a J.n J.c H.a H.n H.c).toList _ (fun _ h=>rangeRow h.2.1) underlying42 rfl (sizePcL y.x.st y.x.ix J.a J.n J.c H.a H.n H.c))) (h:=?_)
             try simp only [pt]
             refine rd1 28 (fun K hK=>?_)
             (go_simp;go_at_call 16;(with_reducible refine (cd.out _ aF.out).mono ?_);rintro e W9 ⟨rfl,bz⟩;(have HB9:Hid (Below W8.heap.size W8 W9):=bt aF.out bz);(have a1:Hid (Below N.heap.size N W9):=bt ac.out HB9.out);clear bz;go_wp2_with fail)
             refine hK.out _ _ (by exact ⟨ax.out _ a1.out,bM.out _ HB9.out,aW.out _ HB9.out⟩) (fun b8=>?_);clear hK K a7
             try simp only [pt]
             refine tkY 29 ?_;refine wpAnyH_done ybi ?_ _
             cases ab with
             |true=>
              have T:Hid (acqd a (l.take (m+1))=true):=acqd_yes ah.out (by rw [HY.out];exact g1) g2 (by rw [HY.out];exact g3) (by rw [HY.out];exact g4) (by rw [HY.out];exact bf.out);go_wp2_with fail;go_roundw;case rel=>exact ⟨m+1,by omega,by go_num,by rw [T.out];simp,a1⟩
              case measure=>simp [intOf];omega
             |false=>
              have T:=lh (acqd_no (a:=a) ah.out (fun g=>by have h:=g.2.2.2.2;rw [HY.out,bf.out] at h;cases h));go_wp2_with fail;go_roundw;case rel=>exact ⟨m+1,by omega,by go_num,by rw [T.out],a1⟩
              case measure=>simp [intOf];omega
            ·
             have T:=lh (acqd_no (a:=a) ah.out (fun g=>g4 (by have h:=g.2.2.2.1;rw [HY.out] at h;exact h)));have k4:(y.q==a.q)=false:=by simp [g4]
             have j4:decide (y.q=a.q)=false:=by simp [g4]
             go_quiet (fail)
             go_wp2_with fail
             go_roundw
             case rel=>exact ⟨m+1,by omega,by go_num,by rw [T.out],ybl ac.out _⟩
             case measure=>simp [intOf];omega
           ·
            have T:=lh (acqd_no (a:=a) ah.out (fun g=>g3 (by have h:=g.2.2.1;rw [HY.out] at h;exact h)));have k3:(y.d==a.d)=false:=by simp [g3]
            have j3:decide (y.d=a.d)=false:=by simp [g3]
            go_quiet (fail)
            go_wp2_with fail
            go_roundw
            case rel=>exact ⟨m+1,by omega,by go_num,by rw [T.out],ybl ac.out _⟩
            case measure=>simp [intOf];omega
          ·
           have T:=lh (acqd_no (a:=a) ah.out (fun g=>g2 g.2.1));have k2:(U==a.R.hd)=false:=by simp [g2]
           have j2:decide (U=a.R.hd)=false:=by simp [g2]
           go_quiet (fail)
           go_wp2_with fail
           go_roundw
           case rel=>exact ⟨m+1,by omega,by go_num,by rw [T.out],ybl ac.out _⟩
           case measure=>simp [intOf];omega
         ·
          have T:=lh (acqd_no (a:=a) ah.out (fun g=>g1 (by have h:=g.1;rw [HY.out] at h;exact h)));have k1:(y.er==0)=false:=by simp [g1]
          have j1:decide (y.er=0)=false:=by simp [g1]
          go_quiet (fail)
          go_wp2_with fail
          go_roundw
          case rel=>exact ⟨m+1,by omega,by go_num,by rw [T.out],ybl ac.out _⟩
          case measure=>simp [intOf];omega
        ·
         obtain rfl:m=l.length:=by omega
         have aZ:¬(l.length:Int) < (l.length:Int):=by omega
         rw [List.take_length];have aV:=aD.out _ Z.out;have au:opV x O vs G L a=(!db&& !acqd a l):=by rw [bm.out,bw.out,cr.out];rfl
         cases aI:(!db&& !acqd a l) with
         |false=>
          rw [aI] at au;have ag:=lh (cg_er (op:=opV x O vs G L) HGE.out (fun g=>by have h1:=g.2;rw [HAE.out,au] at h1;cases h1));have ci:=lh aV;clear aV au aI;go_wp2_with fail;go_roundw;case rel=>exact ⟨k+1,by omega,by go_num,by rw [ag.out];exact ci.out⟩
          case measure=>simp [intOf];omega
         |true=>
          rw [aI] at au
          have ag:Hid ((cgL (opV x O vs G L) (l.take (k+1))).map (·.1)=(cgL (opV x O vs G L) (l.take k)).map (·.1)++[a]):=by
           have h1:=cg_yes (op:=opV x O vs G L) HGE.out (by rw [HAE.out];exact cu.out) (by rw [HAE.out];exact au);rw [HAE.out] at h1;exact h1
          obtain ⟨ao,h2,rs,aS,aR,aE⟩:=aV
          have cL:rs.length<=k:=by
           have h1:rs.length=((cgL (opV x O vs G L) (l.take k)).map (·.1)).length:=by rw [<-aE];simp
           rw [List.length_map] at h1;have h2:=ydZ (opV x O vs G L) (l.take k);have h3:(l.take k).length<=k:=List.length_take_le _ _;omega
          have cf:Hid ((rs.length+1)*248<=140737488355328):=by show _<=_;omega
          have cy:Hid (rs.length+1<=maxLen):=by show _<=_;unfold maxLen;omega
          have ay:=lh aS;have co:=lh aR;have cn:=lh aE;have bo:=lh h2;have cE:=lh ao;have bg:=lh (bN.out _ ao);have cg:=lh (ydi (ax.out _ Z.out));have cc:Hid (ArO wr (w.heap.size+1) ⟨a,pa,pb,pc⟩):=RcO.low (bH.out.on Z.out) aA.out;clear aS aR aE h2 ao cL au aI
          go_wp2_with (first
           |(with_reducible refine wpList_load_mid rfl 50 (.tmp 6) rfl W3.heap.size 0 rfl (cA a.d a.q (rHd a.R pa pb pc) a.st a.ix a.no a.an).toList _ cg.out underlying50 rfl (sizeALR _ _ _ _ _ _ _) ?_)
           |(with_reducible refine ycb (o:=⟨some 109,_,_,_,_,_⟩) rfl 62 (.tmp 108) rfl 50 i0 z0 20 underlying62 bW.out bk.out bK.out bb.out om om (cA a.d a.q (rHd a.R pa pb pc) a.st a.ix a.no a.an) rfl rfl ?_)
           |((with_reducible refine yct (o:=⟨some 110,_,_,_,_,_⟩) (f:=fAr) ydX om rfl (.tmp 107) (.tmp 109) 62 rfl 50 i0 z0 248 underlying62 bW.out bk.out bK.out cz.out bb.out u3 rs (w.heap.size+1) rfl ay.out ⟨a,pa,pb,pc⟩ 1 rfl fAr_one cf.out cy.out bg.out ?_);intro v9 W9 ch aN cS))
          go_roundw
          case rel=>exact ⟨k+1,by omega,by go_num,OwnN.below ay.out cE.out nl bg.out aN.out,World.ownsRow.kept bo.out aN.out (ownNN_apart bo.out ay.out de),rs++[⟨a,pa,pb,pc⟩],ch.out,(fun r hr=>by
           rcases List.mem_append.1 hr with h |h
           ·exact ArO.grown (co.out r h) ay.out aN.out de
           ·obtain rfl:r=⟨a,pa,pb,pc⟩:=by simpa using h
            exact ArO.grown cc.out ay.out aN.out de),by rw [ag.out,List.map_append,cn.out];rfl⟩
          case measure=>simp [intOf];omega
    |false=>
     have ag:=lh (cg_er (op:=opV x O vs G L) HGE.out (fun g=>by have h1:=g.2;rw [HAE.out,bm.out,bw.out] at h1;cases h1))
     go_wp2_with (first
      |(with_reducible refine yb0 (op:=⟨some 36,_,_,_,_,_⟩) ybi 50 (.tmp 6) rfl W3.heap.size 0 rfl (cA a.d a.q (rHd a.R pa pb pc) a.st a.ix a.no a.an).toList _ bZ.out underlying50 rfl (sizeALR _ _ _ _ _ _ _) ?_)
      |(go_at_call 13;(with_reducible refine bV.out.mono ?_);rintro e W5 ⟨rfl,aB⟩;(have a5:=lh aB);clear aB))
     go_roundw
     case rel=>exact ⟨k+1,by omega,by go_num,by rw [ag.out];exact aD.out _ a5.out⟩
     case measure=>simp [intOf];omega
   ·
    have ag:=lh (cg_er (op:=opV x O vs G L) HGE.out (fun g=>by rw [HAE.out] at g;exact h0 g.1));have cQ:(a.er==0)=false:=by simp [h0]
    have cT:(a.er != 0)=true:=by simp [h0]
    clear h0;go_wp2_with fail;go_roundw;case rel=>exact ⟨k+1,by omega,by go_num,by rw [ag.out];exact aD.out _ bR⟩
    case measure=>simp [intOf];omega
  ·obtain rfl:k=l.length:=by omega
   have cC:¬(l.length:Int) < (l.length:Int):=by omega
   rw [List.take_length] at HR;go_wp2_with fail;go_ret;obtain ⟨h1,h2,rs,h3,h4,h5⟩:=HR.out;refine ⟨_,rfl,HBW.out _ h1,rs,World.ownsRow.mono h3 (Nat.le_succ _),fun r hr=>RcO.low (h4 r hr) (Nat.le_succ _),?_⟩;rw [h5];unfold opnV;rw [cj.out]
theorem sizeVwR (x:Vw):(prog.info? 48).map (·.size)=some (cVw x).size:=by kernel_rfl
theorem viewOf_any (x:Vw) (w:World):Calls prog 14 #[.agg (cVw x)] w fun e W=>e= .returned (.agg (cVw x))/\Below w.heap.size w W:=by
 obtain ⟨H,G⟩:∃H:World,H=(w.alloc (.cells (cVw x) 29)).alloc (.cells zVw 48):=⟨_,rfl⟩
 have L:H.heap.size=w.heap.size+2:=by rw [G];simp
 have M:Below w.heap.size w H:=by rw [G];exact bl.alloc sI _
 have J:H.heap[w.heap.size]? =some (.cells (cVw x) 29 (0,0)):=by rw [G];exact (zx _ _ _ sI).trans (zy w _)
 have K:H.heap[w.heap.size+1]? =some (.cells zVw 48 (0,0)):=by rw [G];have:=zy (w.alloc (.cells (cVw x) 29)) (.cells zVw 48);simpa using this
 obtain ⟨v0,v1,v2,Z,v4,v5,z⟩:=ybv J;have O:=lh K;have HB1:=lh M;have T:=lh G;have Y:=lh L;clear G M J K L;go_enter func14,ntmps14;go_upto_region 1 with fail
 rw [<-T.out];go_wp2_with ((with_reducible refine ybk (o:=⟨none,_,_,_,_,_⟩) rfl 48 (.tmp 2) (.tmp 3) rfl (w.heap.size+1) 48 _ _ rfl rfl O.out (sizeVwR x) rfl (cVw_all x) ?_);intro W4 U N);refine bodyPost_ret (results_cell_row rfl _ _ _ _ _ _ _ rfl U.out underlying48 rfl (sizeVwR x)) rfl ⟨rfl,HB1.out.trans (N.out.below HB1.out.size (fun i hi=>by subst hi;exact Nat.le_succ _))⟩
theorem mtF_X {k:Int} {bs:List Int} (H:∀b∈bs,0<=b/\b < 256):mtF k bs=⟨(mtD k bs).er,(mtD k bs).q,(mtD k bs).v⟩:=by
 unfold mtF mtD
 by_cases G:k=9
 ·rw [if_pos G,if_pos G]
  rcases meet_eq H with ⟨h1,h2⟩ |⟨h1,h2⟩
  ·rw [if_pos h1,h2]
  ·rw [if_neg (by rw [h1];decide),h2]
 ·rw [if_neg G,if_neg G]
def RmP (y:MtX) (w:World) (e:Ending) (w':World):Prop:=
 ∃A n c,e= .returned (.tuple #[.int .i64 y.q,.slice A n c,.int .i64 y.er])/\Sl I w' w'.heap.size A n y.v/\n<=1000000/\Below w.heap.size w w'
theorem rmt_f (e:EnR) (B:Nat) (w:World) (G:EnOk w B e) (J:B<=w.heap.size) (hn:e.bd.n<=65536):Calls prog 62 #[.agg (fEn e).toArray] w (RmP (mtX e) w):=by
 obtain ⟨dv,sq,k,dy,bd,pr,bs⟩:=e;have H:RK bs bd.n bd.c:=⟨G.2.1,by have h2:bd.n<=65536:=hn;omega,G.2.2.1⟩;have h:=rmt_u k dv sq dy pr bd.a bd.n bd.c B bs w G.1 J H;rw [mtF_X H.1] at h;exact h
theorem rack_any (x:Vw) (L:List EnR) (vs:List VtR) (aD aO:List ByteArray) (fks:List Int) (d q:Int) (R:Rcp) (st:ByteArray) (tx:Int) (no an:ByteArray) (B:Nat) (w:World) (hV:VwIn w B x L vs aD aO fks) (hB:B<=w.heap.size) (hk:VwOk x L) (au:∀e∈L,e.bd.n<=65536):
 Calls prog 27 #[.agg (cVw x),.agg (cA d q R st tx no an)] w fun e w'=>e= .returned (.tuple #[.agg (akC (rkF (frE L) R.hd d q)),.bool (rkF (frE L) R.hd d q).isSome])/\Below w.heap.size w w':=by
 obtain ⟨G,K⟩:∃G:World,G=((w.alloc (.cells (cVw x) 48)).alloc (.cells (cA d q R st tx no an) 50)).alloc (.cells zEn 55):=⟨_,rfl⟩
 have ac:Below w.heap.size w G:=by rw [K];exact (bl.alloc sI _).alloc (by first |(simp;done) |(simp;omega)) _
 have aa:G.heap[w.heap.size]? =some (.cells (cVw x) 48 (0,0)):=by rw [K];exact (zx _ _ _ ybh).trans ((zx _ _ _ sI).trans (zy w _))
 have ai:G.heap[w.heap.size+1]? =some (.cells (cA d q R st tx no an) 50 (0,0)):=by rw [K];refine (zx _ _ _ sI).trans ?_;have:=zy (w.alloc (.cells (cVw x) 48)) (.cells (cA d q R st tx no an) 50);simpa using this
 have am:G.heap[w.heap.size+2]? =some (.cells zEn 55 (0,0)):=by rw [K];have:=zy ((w.alloc (.cells (cVw x) 48)).alloc (.cells (cA d q R st tx no an) 50)) (.cells zEn 55);simpa using this
 have HC:Hid (∀V,Below G.heap.size G V->V.heap[w.heap.size]? =some (.cells (cVw x) 48 (0,0))/\V.heap[w.heap.size+1]? =some (.cells (cA d q R st tx no an) 50 (0,0))/\V.heap[w.heap.size+2]? =some (.cells zEn 55 (0,0))):=fun V hb=>⟨(hb.block _ (lb aa)).trans aa,(hb.block _ (lb ai)).trans ai,(hb.block _ (lb am)).trans am⟩;obtain ⟨l,hl⟩:=gX (frE L);have ao:=entries_any x L B G (hV.E.1.up ac hB) (lT hB ac.size) hk.1;rw [hl] at ao;have HL:Hid (∀e∈l,EnOk w B e/\e.bd.n<=65536):=fun e M=>by rw [<-hl] at M;exact ⟨hV.E.2 e (yce M),au e (yce M)⟩
 have HLN:Hid (l.length<=1000):=by show _<=_;rw [<-hl];have h1:=yb3 L;have h2:L.length=x.E.n:=hV.E.1.1;have h3:=hk.1;omega
 have ax:=lh ao;have HWE:=lh K;have HB1:=lh ac;have aC:=lh hB;rw [hl];obtain ⟨v0,v1,v2,v3,v4,v5,v6⟩:=ybv aa;clear hV hB hk au K ac aa ai am hl ao;go_enter func27,ntmps27;go_upto_region 1 with fail
 rw [<-HWE.out];go_wp2_with (go_at_call 55;(with_reducible refine ax.out.mono ?_);rintro e W ⟨vE,rfl,ho,hb⟩;(obtain ⟨Ae,ce,T,aT,_,_⟩:=OwnN.shape ycz ho);subst T;(have aI:=lh ho);(have aK:=lh hb);clear ho hb aT);clear v0 v1 v2 v3 v4 v5 v6 ax;have ar:Hid (∀(j:Nat) (m:EnR),j < 0->l[j]? =some m->rkB R.hd d q m=false):=fun j p hj=>absurd hj om;have aq:Hid (Below W.heap.size W W):=Below.refl _ _
 go_loopw [7] (fun i wr=>∃k:Nat,k<=l.length/\i= .int .i64 k/\Hid (∀(j:Nat) (m:EnR),j < k->l[j]? =some m->rkB R.hd d q m=false)/\Hid (Below W.heap.size W wr)) (fun i _=>l.length - (intOf i).toNat)
 case atStart=>exact ⟨0,Nat.zero_le _,rfl,ar,aq⟩
 case round=>
  clear ar aq;obtain ⟨k,hk,rfl,HN,HBr⟩:=hrel;have Y:Hid (Below G.heap.size G wr):=bt aK.out HBr.out;have Z:Hid (Below w.heap.size w wr):=bt HB1.out Y.out
  have ah:Hid (∀V,Below wr.heap.size wr V->∀m,m < l.length->∃b H e',Ae=some ⟨b,H,none⟩/\l[m]? =some e'/\V.rangeAt b (H+m*6) (fEn e')):=fun V T m hm=>by
   obtain ⟨A',c',aQ,_,aM,_⟩:=OwnN.shape ycz (OwnN.on (OwnN.on aI.out HBr.out) T);injection aQ with e1 _ _;subst e1;obtain ⟨b,H,e',h1,_,h3,h4⟩:=aM.at_ hm;exact ⟨b,H,e',h1,h3,fun j v T=>by rw [Nat.add_assoc];exact h4 j v T⟩
  by_cases hlt:k < l.length
  ·have aN:(k:Int) < (l.length:Int):=by omega
   have aV:=HLN.out;obtain ⟨b,H,⟨dv,sq,J,dy,bd,pr,bs⟩,rfl,M,hr⟩:=ah.out wr bR k hlt
   have ap:Hid (∀V,Below wr.heap.size wr V->V.rangeAt b (H+k*6) (fEn ⟨dv,sq,J,dy,bd,pr,bs⟩)):=fun V T=>by
    obtain ⟨b3,aU,e3,ag,az,aL⟩:=ah.out V T k hlt;injection ag with ag;injection ag with hA1 hA2 _;subst hA1 hA2;rw [M] at az;obtain rfl:(⟨dv,sq,J,dy,bd,pr,bs⟩:EnR)=e3:=Option.some.inj az;exact aL
   obtain ⟨y,hy⟩:=gX (mtX ⟨dv,sq,J,dy,bd,pr,bs⟩)
   have aP:Hid (Calls prog 62 #[.agg (fEn ⟨dv,sq,J,dy,bd,pr,bs⟩).toArray] wr (RmP y wr)):=by
    have aw:=HL.out _ (List.mem_of_getElem? M);have h:=rmt_f ⟨dv,sq,J,dy,bd,pr,bs⟩ B wr (aw.1.up Z.out aC.out) (lT aC.out Z.out.size) aw.2;rw [hy] at h;exact h
   have HGE:=lh M;have HY:=lh hy;have aH:=lh hr;clear M hr hy ah
   go_upto_region 6 with (first
    |(with_reducible refine wpList_load_mid rfl 55 (.tmp 22) rfl b (H+k*6) rfl (fEn ⟨dv,sq,J,dy,bd,pr,bs⟩) _ aH.out underlying55 rfl (sizeEnK _) ?_)
    |(go_at_call 62;(with_reducible refine aP.out.mono ?_);rintro e W3 ⟨mA,mn,mc,rfl,hs,aA,aB⟩;(have aJ:=lh hs);(have aF:=lh aA);(have z:=lh aB);clear hs aA aB))
   have aE:Hid (Below G.heap.size G W3):=bt Y.out z.out;have al:Hid (∀r,Below W.heap.size W (W3.drewN r)):=fun r=>ybl (bt HBr.out z.out) r;obtain ⟨z0,z1,z2,z3,z4,z5⟩:=ybC (HC.out W3 aE.out).2.1;have x0:W3.cell? ⟨b,H+k*6,none⟩=some (.int .i64 dv):=ap.out W3 z.out 0 _ rfl;have ay:Hid (∀r,Calls prog 63 #[.slice mA mn mc,.int .i64 d] (W3.drewN r) fun e w'=>e= .returned (.int .i64 (gv y.v d))/\W3.drewN r=w'):=fun r=>rget_any mA mn y.v mc d _ W3.heap.size (aJ.out.up (ybl bR r) nl) aF.out
   have ak:Hid (rkB R.hd d q ⟨dv,sq,J,dy,bd,pr,bs⟩=false->∀(j:Nat) (m:EnR),j < k+1->l[j]? =some m->rkB R.hd d q m=false):=fun h j m hj hm=>by
    by_cases aG:j < k
    ·exact HN.out j m aG hm
    ·obtain rfl:j=k:=by omega
     rw [HGE.out] at hm;obtain rfl:(⟨dv,sq,J,dy,bd,pr,bs⟩:EnR)=m:=Option.some.inj hm;exact h
   by_cases g1:y.er=0
   ·by_cases g2:dv=R.hd
    ·by_cases g3:q<=gv y.v d
     ·have aj:Hid (rkF l R.hd d q=some ⟨dv,sq,J,dy,bd,pr,bs⟩):=rkF_some HN.out HGE.out (by unfold rkB;rw [HY.out];simp [g1,g2,g3]);have j3:decide (q<=gv y.v d)=true:=decide_eq_true g3;go_quiet ((go_at_call 63;with_reducible exact Calls.quiet_of_same (same_of (ay.out _))));generalize hW:World.drewN W3 _=W5;have aR:Hid (Below W3.heap.size W3 W5):=by show Below ..;rw [<-hW];exact ybl bR _
      have af:Hid (Below wr.heap.size wr W5):=bt z.out aR.out;have O:Hid (Below G.heap.size G W5):=bt Y.out af.out;have aS:=lh (ap.out W5 af.out);clear hW z0 z1 z2 z3 z4 z5 x0 g1 g2 g3 j3
      go_wp2_with (first
       |(with_reducible refine wpList_load_mid rfl 55 (.tmp 52) rfl b (H+k*6) rfl (fEn ⟨dv,sq,J,dy,bd,pr,bs⟩) _ aS.out underlying55 rfl (sizeEnK _) ?_)
       |((with_reducible refine ybk (o:=⟨none,_,_,_,_,_⟩) rfl 55 (.tmp 4) (.tmp 53) rfl (w.heap.size+2) 55 _ _ rfl rfl (HC.out W5 O.out).2.2 (ydr ⟨dv,sq,J,dy,bd,pr,bs⟩) rfl (all_oneCell_toArray (ydV ⟨dv,sq,J,dy,bd,pr,bs⟩)) ?_);intro W6 ae U))
      go_goals
      exact bodyPost_ret (yco rfl rfl ae.out underlying55 (ydr ⟨dv,sq,J,dy,bd,pr,bs⟩)) rfl ⟨by rw [aj.out];rfl,(bt HB1.out O.out).trans (U.out.below (lT HB1.out.size O.out.size) (fun i hi=>by subst hi;exact Nat.le_add_right _ 2))⟩
     ·have N:=lh (ak.out (by unfold rkB;rw [HY.out];simp [g1,g2,g3]));have j3:decide (q<=gv y.v d)=false:=decide_eq_false g3;go_quiet ((go_at_call 63;with_reducible exact Calls.quiet_of_same (same_of (ay.out _))));go_wp2_with fail;go_roundw;case rel=>exact ⟨k+1,by omega,by go_num,N,al.out _⟩
      case measure=>simp [intOf];omega
    ·have N:=lh (ak.out (by unfold rkB;rw [HY.out];simp [g1,g2]));have k2:(dv==R.hd)=false:=by simp [g2]
     have j2:decide (dv=R.hd)=false:=by simp [g2]
     go_quiet (fail)
     go_wp2_with fail
     go_roundw
     case rel=>exact ⟨k+1,by omega,by go_num,N,al.out _⟩
     case measure=>simp [intOf];omega
   ·have N:=lh (ak.out (by unfold rkB;rw [HY.out];simp [g1]));have k1:(y.er==0)=false:=by simp [g1]
    have j1:decide (y.er=0)=false:=by simp [g1]
    go_quiet (fail)
    go_wp2_with fail
    go_roundw
    case rel=>exact ⟨k+1,by omega,by go_num,N,al.out _⟩
    case measure=>simp [intOf];omega
  ·obtain rfl:k=l.length:=by omega
   have aN:¬(l.length:Int) < (l.length:Int):=by omega
   have aj:Hid (rkF l R.hd d q=none):=rkF_none (fun j m h=>HN.out j m (List.getElem?_eq_some_iff.1 h).1 h)
   go_wp2_with (first
    |(with_reducible refine ybq (o:=⟨some 54,_,_,_,_,_⟩) rfl 55 #[] rfl zEn ybi ?_)
    |((with_reducible refine ybk (o:=⟨none,_,_,_,_,_⟩) rfl 55 (.tmp 4) (.tmp 54) rfl (w.heap.size+2) 55 _ zEn rfl rfl (HC.out wr Y.out).2.2 sizeEnZ rfl zEn_all ?_);intro W6 ae U))
   go_goals
   exact bodyPost_ret (yco rfl rfl ae.out underlying55 sizeEnZ) rfl ⟨by rw [aj.out];rfl,Z.out.trans (U.out.below Z.out.size (fun i hi=>by subst hi;exact Nat.le_add_right _ 2))⟩
theorem enAllF (e:EnR):((fEn e).toArray).all (·.oneCell')=true:=by kernel_rfl
theorem Sl.off6 {w V:World} {A:Option Addr} {n g:Nat} {xs:List Int} {e:EnR} {t:TypeId} (h:Sl fB w w.heap.size A n xs) (O:w.heap[g]? =some (.cells (fEn e).toArray t (0,0))) (K:But (fun i=>i=g) w V):Sl fB V V.heap.size A n xs:=⟨h.1,fun hn=>by
 obtain ⟨b,G,N,hlt,L⟩:=h.2 hn
 have J:b≠g:=by
  rintro rfl;obtain ⟨z,H,rfl⟩:∃z H,xs=z::H:=by cases xs with |nil=>simp at hn |cons z H=>exact ⟨z,H,rfl⟩
  have h1:=L 0 z rfl;rw [cell_of_row w b (G+0) _ _ _ O] at h1
  match G,h1 with
  |0,h=>simp at h
  |1,h=>simp at h
  |2,h=>simp at h
  |3,h=>simp at h
  |4,h=>simp at h
  |5,h=>simp at h
  |k+6,h=>simp at h
 exact ⟨b,G,N,Nat.lt_of_lt_of_le hlt K.size,fun i z T=>(cB (K.block b hlt J)).trans (L i z T)⟩⟩
theorem Sl.off6z {w V:World} {A:Option Addr} {n g:Nat} {xs:List Int} {t:TypeId} (h:Sl fB w w.heap.size A n xs) (G:w.heap[g]? =some (.cells zEn t (0,0))) (H:But (fun i=>i=g) w V):Sl fB V V.heap.size A n xs:=h.off6 (e:=⟨0,0,0,0,⟨none,0,0⟩,⟨#[]⟩,[]⟩) G H
theorem bclone_any (A:Option Addr) (n c B:Nat) (xs:List Int) (w:World) (G:Sl fB w B A n xs) (hB:B<=w.heap.size) (h0:0 < n) (hn:n<=1000000):Calls prog 119 #[.slice A n c] w fun e W=>∃J H,e= .returned (.slice J n H)/\n<=H/\Sl fB W W.heap.size J n xs/\Below w.heap.size w W:=by
 obtain ⟨i0,hi,L,M,N⟩:=info_parts Tryz.infoB;have HI:=lh hi;have ae:=lh L;have af:=lh M;have z:=lh N;obtain ⟨b,O,rfl,ag,_⟩:=G.2 (by have:=G.1;omega);have T:Hid (Own fB 5 (w.alloc (.cells #[] 5)) w.heap.size (.slice (some ⟨w.heap.size,0,none⟩) 0 0) []):=World.ownsRow_lit w #[] 0 nl ybd rfl;have K:Hid (Below w.heap.size w (w.alloc (.cells #[] 5))):=bl;have Z:Hid (Sl fB (w.alloc (.cells #[] 5)) B (some ⟨b,O,none⟩) n xs):=G.up K.out hB;have HXN:Hid (xs.length=n):=G.1;have ac:Hid ((([]:List Int).length+xs.length)*1<=140737488355328):=by show _<=_;rw [G.1];simp;omega
 have Y:Hid (([]:List Int).length+xs.length<=maxLen):=by show _<=_;rw [G.1];unfold maxLen;simp;omega
 have U:Hid (w.heap.size<=(w.alloc (.cells #[] 5)).heap.size):=by show _<=_;simp
 have aj:=Lib.run_eql_slice_nil (P:=prog) w 40 5 (some ⟨b,O,none⟩) n c 0 0 underlying40;clear hi L M N G hB ag h0 hn;go_enter func119,ntmps119;go_wp2_with (at_builtin;(with_reducible refine ybE (o:=⟨some 7,_,_,_,_,_⟩) rfl (.tmp 5) (.tmp 6) 40 rfl 5 i0 (.int .u8 0) 1 underlying40 HI.out ae.out af.out z.out rfl _ [] w.heap.size rfl T.out _ _ _ B xs rfl Z.out fB1 ac.out Y.out U.out ?_);intro v1 w1 aa ah ak);have ai:Below w.heap.size w w1:=K.out.trans (ybm ah.out (fun j hj=>(ol T.out j hj).1) U.out);obtain ⟨J,H,hv,hc,hs,_⟩:=aa.out.shape;rw [List.nil_append] at hs;rw [List.nil_append,HXN.out] at hv hc;subst hv;go_ret;exact ⟨J,H,rfl,hc,⟨HXN.out,hs⟩,ai⟩
theorem eclone_any (e:EnR) (B:Nat) (w:World) (hx:Sl fB w B e.bd.a e.bd.n e.bs) (hB:B<=w.heap.size) (h0:0 < e.bd.n) (hn:e.bd.n<=1000000):Calls prog 61 #[.agg (fEn e).toArray] w fun r w'=>∃G H,r= .returned (.agg (fEn {e with bd:=⟨G,e.bd.n,H⟩}).toArray)/\e.bd.n<=H/\Sl fB w' w'.heap.size G e.bd.n e.bs/\Below w.heap.size w w':=by
 obtain ⟨dv,sq,k,dy,⟨ba,bn,bc⟩,pr,bs⟩:=e;dsimp only at hx h0 hn ⊢;obtain ⟨K,J⟩:∃K:World,K=(w.alloc (.cells #[.int .i64 dv,.int .i64 sq,.int .i64 k,.int .i64 dy,.slice ba bn bc,.string pr] 55)).alloc (.cells zEn 55):=⟨_,rfl⟩
 have HB:Hid (Below w.heap.size w K):=by show Below ..;rw [J];exact bl.alloc sI _
 have af:K.heap.size=w.heap.size+2:=by rw [J];simp
 have N:K.heap[w.heap.size]? =some (.cells #[.int .i64 dv,.int .i64 sq,.int .i64 k,.int .i64 dy,.slice ba bn bc,.string pr] 55 (0,0)):=by rw [J];exact (zx _ _ _ sI).trans (zy w _)
 have ae:K.heap[w.heap.size+1]? =some (.cells zEn 55 (0,0)):=by rw [J];have:=zy (w.alloc (.cells #[.int .i64 dv,.int .i64 sq,.int .i64 k,.int .i64 dy,.slice ba bn bc,.string pr] 55)) (.cells zEn 55);simpa using this
 have HGE:=lh N;have T:=lh ae;have HS:=lh af;have HWE:=lh J;have HCL:=lh (bclone_any ba bn bc B bs K (hx.up HB.out hB) (lT hB HB.out.size) h0 hn);have y4:K.cell? ⟨w.heap.size,4,none⟩=some (.slice ba bn bc):=by rw [cell_of_row K _ _ _ _ _ N];rfl
 clear N ae af J hx hB h0 hn;go_enter func61,ntmps61;go_upto_region 1 with fail
 rw [<-HWE.out];go_upto_region 2 with (go_at_call 119;(with_reducible refine HCL.out.mono ?_);rintro e w3 ⟨G,H,rfl,ac,aa,z⟩;(have L:=lh z);(have ai:=lh ac);(have aj:=lh aa);(have HGE3:=lh ((z.block _ (lb HGE.out)).trans HGE.out));(have z4:w3.cell? ⟨w.heap.size,4,none⟩=some (.slice ba bn bc):=by rw [cell_of_row w3 _ _ _ _ _ HGE3.out];rfl);(have f4:=frozen_of_row w3 w.heap.size 4 _ _ HGE3.out);clear y4 z ac aa)
 obtain ⟨Z,M⟩:∃W:World,W=w3.setCell ⟨w.heap.size,4,none⟩ (.slice G bn H):=⟨_,rfl⟩
 have ag:Z.heap[w.heap.size]? =some (.cells #[.int .i64 dv,.int .i64 sq,.int .i64 k,.int .i64 dy,.slice G bn H,.string pr] 55 (0,0)):=by rw [M];exact heap_setCell_same w3 _ 4 _ _ _ HGE3.out
 have U:But (fun i=>i=w.heap.size) w3 Z:=by rw [M];exact But.setCell (p:=fun i=>i=w.heap.size) (x:=⟨w.heap.size,4,none⟩) (But.refl _ _) (.inl rfl) _
 have HG5:=lh ag;have O:=lh U;have Y:Hid (Z.heap[w.heap.size+1]? =some (.cells zEn 55 (0,0))):=(U.block _ (Nat.lt_of_lt_of_le (lb T.out) L.out.size) om).trans ((L.out.block _ (lb T.out)).trans T.out);rw [<-M];clear M ag U z4 f4
 go_wp2_with (first
  |(with_reducible refine wpList_load_row (o:=⟨some 7,_,_,_,_,_⟩) rfl 55 (.tmp 1) rfl w.heap.size rfl 55 #[.int .i64 dv,.int .i64 sq,.int .i64 k,.int .i64 dy,.slice G bn H,.string pr] _ _ HG5.out underlying55 rfl (ydr ⟨dv,sq,k,dy,⟨G,bn,H⟩,pr,bs⟩) ?_)
  |((with_reducible refine ybk (o:=⟨none,_,_,_,_,_⟩) rfl 55 (.tmp 2) (.tmp 7) rfl (w.heap.size+1) 55 zEn #[.int .i64 dv,.int .i64 sq,.int .i64 k,.int .i64 dy,.slice G bn H,.string pr] rfl rfl Y.out (ydr ⟨dv,sq,k,dy,⟨G,bn,H⟩,pr,bs⟩) rfl (enAllF ⟨dv,sq,k,dy,⟨G,bn,H⟩,pr,bs⟩) ?_);intro w6 ah HB6))
 refine bodyPost_ret (results_cell_row rfl _ _ _ _ _ _ _ rfl ah.out underlying55 rfl (ydr ⟨dv,sq,k,dy,⟨G,bn,H⟩,pr,bs⟩)) rfl ⟨G,H,rfl,ai.out,?_,?_⟩
 ·have h1:Sl fB Z Z.heap.size G bn bs:=aj.out.off6 (e:=⟨dv,sq,k,dy,⟨ba,bn,bc⟩,pr,bs⟩) HGE3.out O.out;exact h1.off6z Y.out HB6.out
 ·have h2:=HS.out;have h3:=L.out.size;have h5:=O.out.size;exact HB.out.trans ((L.out.mono HB.out.size).trans ((O.out.below om (fun i hi=>by subst hi;exact Nat.le_refl _)).trans (HB6.out.below om (fun i hi=>by subst hi;omega))))
theorem sameEntry_eq (e:EnR) (M L:Hd) (B:Nat) (w:World) (h1:Sl fB w B M.a M.n e.bs) (h2:Sl fB w B L.a L.n e.bs) (W:B<=w.heap.size):Calls prog 28 #[.agg (fEn {e with bd:=M}).toArray,.agg (fEn {e with bd:=L}).toArray] w fun r Y=>r= .returned (.bool true)/\Below w.heap.size w Y:=by
 obtain ⟨dv,sq,k,dy,bd,pr,bs⟩:=e;obtain ⟨N,T,c1⟩:=M;obtain ⟨O,U,c2⟩:=L;dsimp only at h1 h2 ⊢;obtain ⟨G,K⟩:∃G:World,G=(w.alloc (.cells #[.int .i64 dv,.int .i64 sq,.int .i64 k,.int .i64 dy,.slice N T c1,.string pr] 55)).alloc (.cells #[.int .i64 dv,.int .i64 sq,.int .i64 k,.int .i64 dy,.slice O U c2,.string pr] 55):=⟨_,rfl⟩
 have HB:Hid (Below w.heap.size w G):=by show Below ..;rw [K];exact bl.alloc sI _
 have H:G.heap[w.heap.size]? =some (.cells #[.int .i64 dv,.int .i64 sq,.int .i64 k,.int .i64 dy,.slice N T c1,.string pr] 55 (0,0)):=by rw [K];exact (zx _ _ _ sI).trans (zy w _)
 have J:G.heap[w.heap.size+1]? =some (.cells #[.int .i64 dv,.int .i64 sq,.int .i64 k,.int .i64 dy,.slice O U c2,.string pr] 55 (0,0)):=by rw [K];have:=zy (w.alloc (.cells #[.int .i64 dv,.int .i64 sq,.int .i64 k,.int .i64 dy,.slice N T c1,.string pr] 55)) (.cells #[.int .i64 dv,.int .i64 sq,.int .i64 k,.int .i64 dy,.slice O U c2,.string pr] 55);simpa using this
 have x0:G.cell? ⟨w.heap.size,0,none⟩=some (.int .i64 dv):=by rw [cell_of_row G _ _ _ _ _ H];rfl
 have x1:G.cell? ⟨w.heap.size,1,none⟩=some (.int .i64 sq):=by rw [cell_of_row G _ _ _ _ _ H];rfl
 have x2:G.cell? ⟨w.heap.size,2,none⟩=some (.int .i64 k):=by rw [cell_of_row G _ _ _ _ _ H];rfl
 have x3:G.cell? ⟨w.heap.size,3,none⟩=some (.int .i64 dy):=by rw [cell_of_row G _ _ _ _ _ H];rfl
 have x4:G.cell? ⟨w.heap.size,4,none⟩=some (.slice N T c1):=by rw [cell_of_row G _ _ _ _ _ H];rfl
 have x5:G.cell? ⟨w.heap.size,5,none⟩=some (.string pr):=by rw [cell_of_row G _ _ _ _ _ H];rfl
 have y0:G.cell? ⟨w.heap.size+1,0,none⟩=some (.int .i64 dv):=by rw [cell_of_row G _ _ _ _ _ J];rfl
 have y1:G.cell? ⟨w.heap.size+1,1,none⟩=some (.int .i64 sq):=by rw [cell_of_row G _ _ _ _ _ J];rfl
 have y2:G.cell? ⟨w.heap.size+1,2,none⟩=some (.int .i64 k):=by rw [cell_of_row G _ _ _ _ _ J];rfl
 have y3:G.cell? ⟨w.heap.size+1,3,none⟩=some (.int .i64 dy):=by rw [cell_of_row G _ _ _ _ _ J];rfl
 have y4:G.cell? ⟨w.heap.size+1,4,none⟩=some (.slice O U c2):=by rw [cell_of_row G _ _ _ _ _ J];rfl
 have y5:G.cell? ⟨w.heap.size+1,5,none⟩=some (.string pr):=by rw [cell_of_row G _ _ _ _ _ J];rfl
 have z:=ydn (c:=c1) (h1.up HB.out W);have Z:=ydn (c:=c2) (h2.up HB.out W);have HWE:=lh K;clear H J K h1 h2 W;go_enter func28,ntmps28;go_upto_region 1 with fail
 rw [<-HWE.out];go_wp2;go_ret;exact ⟨rfl,HB.out⟩
