/- Plainly: what further acquittals of a device leave open of the accusations against it. -/
import Derived.Test.YtpdledjgbgalcaaGreatDoorPu
import Derived.Test.YtpdledjgbgalcaaGreatDoorJN
namespace Go.Proofs.YtpdledjgbgalcaaGreatDoor
open Go.RowKit Go.Lib
set_option linter.unusedVariables false
set_option linter.unusedSimpArgs false
def aqP (a:Ac) (p:PcX):Bool:=aqB a.R p.st p.ix p.xs p.ys
def AqFor (dev:Int) (j:Nat) (a:Ac) (e:EnR):Prop:=(e.k=7∧e.dv=dev∧e.sq=1000+j)∧((aqX e).er=0∧(aqX e).d=a.d∧(aqX e).q=a.q)∧aqP a (aqX e).x=true
def AqM (dev:Int):Nat→List Ac→List (Option EnR)→Prop
 |_,[],[]=>True
 |j,a::al,o::ms=>(∀e,o=some e→AqFor dev j a e)∧AqM dev (j+1) al ms
 |_,_,_=>False
def acqs (ms:List (Option EnR)):List EnR:=ms.filterMap id
theorem AqM.len {dev:Int}:∀ {j:Nat} {al:List Ac} {ms:List (Option EnR)},AqM dev j al ms→ms.length=al.length
 |_,[],[],_=>rfl
 |_,a::al,o::ms,h=>by rw [List.length_cons,List.length_cons,AqM.len h.2]
 |_,[],o::ms,h=>h.elim
 |_,a::al,[],h=>h.elim
theorem AqM.snoc {dev:Int}:∀ {j:Nat} {al:List Ac} {ms:List (Option EnR)} {a:Ac} {o:Option EnR},AqM dev j al ms→(∀e,o=some e→AqFor dev (j+al.length) a e)→AqM dev j (al++[a]) (ms++[o])
 |j,[],[],a,o,_,h=>⟨h,trivial⟩
 |j,b::al,p::ms,a,o,h,g=>⟨h.1,AqM.snoc h.2 (by rw [List.length_cons] at g;rwa [show j+1+al.length=j+(al.length+1) by omega])⟩
 |_,[],o::ms,_,_,h,_=>h.elim
 |_,a::al,[],_,_,h,_=>h.elim
theorem acqs_snoc (ms:List (Option EnR)) (o:Option EnR):acqs (ms++[o])=acqs ms++o.toList:=by
 unfold acqs
 rw [List.filterMap_append]
 cases o<;>rfl
theorem AqM.mem {dev:Int}:∀ {j:Nat} {al:List Ac} {ms:List (Option EnR)},AqM dev j al ms→∀e∈acqs ms,∃(i:Nat) (a:Ac),j≤i∧(a,some e)∈al.zip ms∧AqFor dev i a e
 |_,[],[],_,e,h=>by cases h
 |j,a::al,o::ms,h,e,he=>by
  cases o with
  |none=>
   obtain ⟨i,b,h1,h2,h3⟩:=AqM.mem h.2 e he
   exact ⟨i,b,by omega,List.mem_cons_of_mem _ h2,h3⟩
  |some e'=>
   rcases List.mem_cons.1 (show e∈e'::acqs ms from he) with rfl |he
   ·exact ⟨j,a,Nat.le_refl _,List.mem_cons_self,h.1 _ rfl⟩
   ·obtain ⟨i,b,h1,h2,h3⟩:=AqM.mem h.2 e he
    exact ⟨i,b,by omega,List.mem_cons_of_mem _ h2,h3⟩
 |_,[],o::ms,h,_,_=>h.elim
 |_,a::al,[],h,_,_=>h.elim
theorem AqM.un {dev:Int}:∀ {j:Nat} {al:List Ac} {ms:List (Option EnR)},AqM dev j al ms→UnE (acqs ms)
 |_,[],[],_=>List.Pairwise.nil
 |j,a::al,o::ms,h=>by
  cases o with
  |none=>exact (AqM.un (al:=al) (ms:=ms) h.2:)
  |some e'=>
   refine List.Pairwise.cons (fun e he hc=>?_) (AqM.un h.2)
   obtain ⟨i,b,h1,_,h3⟩:=AqM.mem h.2 e he
   have h4:=(h.1 _ rfl).1.2.2
   have h5:=h3.1.2.2
   have h6:=hc.2
   omega
 |_,[],o::ms,h=>h.elim
 |_,a::al,[],h=>h.elim
theorem frE_app {es l:List EnR} (hu:UnE l) (hn:∀e∈l,∀b∈es,¬(b.dv=e.dv∧b.sq=e.sq)):frE (es++l)=frE es++l:=by
 have key:∀(l acc:List EnR),UnE l→(∀e∈l,∀b∈acc,¬(b.dv=e.dv∧b.sq=e.sq))→l.foldl putE acc=acc++l:=by
  intro l
  induction l with
  |nil=>intro acc _ _;simp
  |cons e t ih=>
   intro acc hu hn
   obtain ⟨h1,h2⟩:=List.pairwise_cons.1 hu
   have h3:hasE acc e.dv e.sq=false:=by
    cases h4:hasE acc e.dv e.sq with
    |false=>rfl
    |true=>
     obtain ⟨b,hb,h5⟩:=List.any_eq_true.1 h4
     simp at h5
     exact absurd h5 (hn e List.mem_cons_self b hb)
   rw [List.foldl_cons,putE_no h3,ih _ h2 (fun e' he' b hb=>?_),List.append_assoc,List.singleton_append]
   rcases List.mem_append.1 hb with hb |hb
   ·exact hn e' (List.mem_cons_of_mem _ he') b hb
   ·obtain rfl:b=e:=by simpa using hb
    exact h1 e' he'
 unfold frE
 rw [List.foldl_append]
 exact key l _ hu (fun e he b hb=>hn e he b (frE_mem hb))
theorem cgL_none {op:Ac→Bool} {l:List EnR} (h:∀e∈l,e.k=7):cgL op l=[]:=by
 unfold cgL
 rw [List.filterMap_eq_nil_iff]
 intro e he
 unfold cgE
 rw [if_neg (fun g=>by have:=g.1;rw [h e he] at this;exact absurd this (by decide))]
theorem pw_eq {α:Type} {K:α→α→Prop} (hs:∀a b,K a b→K b a) {l:List α} (h:l.Pairwise fun a b=>¬K a b) {a b:α} (ha:a∈l) (hb:b∈l) (hk:K a b):a=b:=by
 induction l with
 |nil=>cases ha
 |cons c t ih=>
  obtain ⟨h1,h2⟩:=List.pairwise_cons.1 h
  rcases List.mem_cons.1 ha with ea |ha'<;>rcases List.mem_cons.1 hb with eb |hb'
  ·rw [ea,eb]
  ·exact absurd (ea▸hk) (h1 _ hb')
  ·exact absurd (hs _ _ (eb▸hk)) (h1 _ ha')
  ·exact ih h2 ha' hb'
theorem count_mask {P:Ac→Bool}:∀ {al:List Ac} {ms:List (Option EnR)},ms.length=al.length→(∀p∈al.zip ms,P p.1=p.2.isSome)→(al.filter fun a=> !P a).length+(acqs ms).length=al.length
 | [],[],_,_=>rfl
 |a::al,o::ms,hl,h=>by
  have ih:=count_mask (P:=P) (al:=al) (ms:=ms) (by simpa using hl) (fun p hp=>h p (List.mem_cons_of_mem _ hp))
  have h1:=h (a,o) List.mem_cons_self
  cases o with
  |none=>
   have h2:P a=false:=h1
   have h3:acqs (none::ms)=acqs ms:=rfl
   rw [List.filter_cons_of_pos (by rw [h2];rfl),h3,List.length_cons,List.length_cons]
   omega
  |some e=>
   have h2:P a=true:=h1
   have h3:acqs (some e::ms)=e::acqs ms:=rfl
   rw [List.filter_cons_of_neg (by rw [h2];decide),h3,List.length_cons,List.length_cons]
   omega
 | [],o::ms,hl,_=>by simp at hl
 |a::al,[],hl,_=>by simp at hl
theorem pcsE_app (l m:List EnR) (d q y:Int):pcsE aqX (l++m) d q y=pcsE aqX l d q y++pcsE aqX m d q y:=List.filterMap_append
def shwB (l:List EnR) (a:Ac):Bool:=(pcsE aqX l a.d a.q a.R.hd).any (aqP a)
theorem opF_app (drs:List ByteArray) (l m:List EnR) (cn:Ac→Bool) (a:Ac):opF drs (pcsE aqX (l++m)) cn a=(opF drs (pcsE aqX l) cn a&& !shwB m a):=by
 unfold opF opB shwB aqP
 rw [pcsE_app,List.any_append]
 cases drB drs a.R.s<;>cases (pcsE aqX l a.d a.q a.R.hd).any (fun p=>aqB a.R p.st p.ix p.xs p.ys)<;>cases (pcsE aqX m a.d a.q a.R.hd).any (fun p=>aqB a.R p.st p.ix p.xs p.ys)<;>cases cn a<;>rfl
theorem opnV_mem {x:Vw} {es:List EnR} {vs:List VtR} {pubs drs:List ByteArray} {a:Ac} (h:a∈opnV x es vs pubs drs):opV x es vs pubs drs a=true∧numB a.d a.q=true:=by
 obtain ⟨p,hp,rfl⟩:=List.mem_map.1 h
 exact ⟨(cgL_ok p hp).2,(cgL_ok p hp).1.2⟩
theorem honest_left {x y:Vw} {es:List EnR} {vs:List VtR} {pubs drs:List ByteArray} {dev:Int} {ms:List (Option EnR)} (hy:y.b=x.b∧y.h=x.h)
 (hm:AqM dev 0 ((opnV x es vs pubs drs).filter fun a=>decide (a.R.hd=dev)) ms) (hf:∀e∈es,¬(e.dv=dev∧1000≤e.sq)):
 ((opnV y (es++acqs ms) vs pubs drs).filter fun a=>decide (a.R.hd=dev)).length+(acqs ms).length=((opnV x es vs pubs drs).filter fun a=>decide (a.R.hd=dev)).length:=by
 have hk7:∀e∈acqs ms,e.k=7:=fun e he=>by obtain ⟨_,_,_,_,h⟩:=hm.mem e he;exact h.1.1
 have hfr:frE (es++acqs ms)=frE es++acqs ms:=frE_app hm.un (fun e he b hb hc=>by
  obtain ⟨i,_,_,_,h⟩:=hm.mem e he
  obtain ⟨⟨_,h2,h3⟩,_⟩:=h
  exact hf b hb ⟨hc.1.trans h2,by rw [hc.2,h3];omega⟩)
 have hop:∀a,opV y (es++acqs ms) vs pubs drs a=(opV x es vs pubs drs a&& !shwB (acqs ms) a):=fun a=>by
  unfold opV
  rw [hfr,hy.1,hy.2]
  exact opF_app _ _ _ _ _
 have h1:opnV y (es++acqs ms) vs pubs drs=(opnV x es vs pubs drs).filter (opV y (es++acqs ms) vs pubs drs):=by
  have h2:=cgL_filter (op:=opV x es vs pubs drs) (op':=opV y (es++acqs ms) vs pubs drs) (fun a h=>by rw [hop a,Bool.and_eq_true] at h;exact h.1) (frE es)
  unfold opnV
  rw [←h2,hfr]
  unfold cgL
  rw [List.filterMap_append]
  have h3:=cgL_none (op:=opV y (es++acqs ms) vs pubs drs) hk7
  unfold cgL at h3
  rw [h3,List.append_nil]
 rw [h1,List.filter_filter]
 have h4:(opnV x es vs pubs drs).filter (fun a=>decide (a.R.hd=dev)&&opV y (es++acqs ms) vs pubs drs a)=((opnV x es vs pubs drs).filter fun a=>decide (a.R.hd=dev)).filter (fun a=> !shwB (acqs ms) a):=by
  rw [List.filter_filter]
  refine List.filter_congr (fun a ha=>?_)
  rw [hop a,(opnV_mem ha).1,Bool.true_and,Bool.and_comm]
 rw [h4]
 obtain ⟨al,hal⟩:∃al,(opnV x es vs pubs drs).filter (fun a=>decide (a.R.hd=dev))=al:=⟨_,rfl⟩
 have hun:al.Pairwise fun a b=>¬(a.d=b.d∧a.q=b.q):=by
  rw [←hal]
  exact (cgL_un (frE_un es)).filter _
 have hdv:∀a∈al,a.R.hd=dev:=fun a ha=>by rw [←hal] at ha;exact of_decide_eq_true (List.mem_filter.1 ha).2
 rw [hal] at hm ⊢
 have hz1:(al.zip ms).map Prod.fst=al:=List.map_fst_zip (Nat.le_of_eq hm.len.symm)
 have hzp:(al.zip ms).Pairwise fun p q=>¬(p.1.d=q.1.d∧p.1.q=q.1.q):=by
  rw [←hz1,List.pairwise_map] at hun
  exact hun
 refine count_mask hm.len (fun p hp=>?_)
 obtain ⟨a,o⟩:=p
 have ha:a∈al:=(List.of_mem_zip hp).1
 cases o with
 |some e=>
  have he:e∈acqs ms:=List.mem_filterMap.2 ⟨some e,(List.of_mem_zip hp).2,rfl⟩
  obtain ⟨i,b,_,hb,h5⟩:=hm.mem e he
  have h6:AqFor dev i a e:=by
   obtain ⟨h7,⟨h8,h9,h10⟩,h11⟩:=h5
   have key:∀ {j:Nat} {al:List Ac} {ms:List (Option EnR)},AqM dev j al ms→∀ {a:Ac} {e:EnR},(a,some e)∈al.zip ms→∃i,AqFor dev i a e:=by
    intro j al
    induction al generalizing j with
    |nil=>intro ms _ a e h;simp at h
    |cons b al ih=>
     intro ms h a e hz
     cases ms with
     |nil=>simp at hz
     |cons o ms=>
      rcases List.mem_cons.1 hz with hz |hz
      ·injection hz with h1 h2
       subst h1
       exact ⟨j,h.1 _ h2.symm⟩
      ·exact ih h.2 hz
   obtain ⟨i',g7,⟨g8,g9,g10⟩,g11⟩:=key hm hp
   exact ⟨h7,⟨g8,g9,g10⟩,g11⟩
  show shwB (acqs ms) a=true
  refine List.any_eq_true.2 ⟨(aqX e).x,List.mem_filterMap.2 ⟨e,he,?_⟩,h6.2.2⟩
  unfold pcE
  rw [if_pos ⟨h6.1.1,h6.2.1.1,h6.2.1.2.1.symm,h6.2.1.2.2.symm,(hdv a ha).trans h6.1.2.1.symm⟩]
 |none=>
  show shwB (acqs ms) a=false
  cases hs:shwB (acqs ms) a with
  |false=>rfl
  |true=>
   obtain ⟨q,hq,_⟩:=List.any_eq_true.1 hs
   obtain ⟨e,he,h5⟩:=List.mem_filterMap.1 hq
   unfold pcE at h5
   split at h5
   ·next g=>
    obtain ⟨i,b,_,hb,h6⟩:=hm.mem e he
    have h7:=pw_eq (K:=fun p q:Ac × Option EnR=>p.1.d=q.1.d∧p.1.q=q.1.q) (fun _ _ h=>⟨h.1.symm,h.2.symm⟩) hzp hp hb ⟨g.2.2.1.trans h6.2.1.2.1,g.2.2.2.1.trans h6.2.1.2.2⟩
    injection h7 with _ h8
    cases h8
   ·cases h5
theorem honest_free {al:List Ac} {dev:Int} (h:(al.filter fun a=>decide (a.R.hd=dev))=[]):hdB al dev=false∧∀fks ml,nmB fks ml al dev=fkB fks dev:=by
 have h1:∀a∈al,¬a.R.hd=dev:=fun a ha hc=>by
  have:=List.filter_eq_nil_iff.1 h a ha
  exact this (decide_eq_true hc)
 refine ⟨?_,fun fks ml=>?_⟩
 ·unfold hdB
  rw [List.any_eq_false]
  intro a ha
  rw [decide_eq_false (h1 a ha)]
  decide
 ·unfold nmB
  have:apB ml al dev=false:=by
   unfold apB
   rw [List.any_eq_false]
   intro a ha
   rw [decide_eq_false (h1 a ha)]
   simp
  rw [this,Bool.or_false]
