import Derived.Test.YtpdledjgbgalcaaGreatDoorMc
namespace Go.Proofs.YtpdledjgbgalcaaGreatDoor
set_option maxRecDepth 100000
set_option maxHeartbeats 8000000
open Go.RowKit Go.Proofs.Tryz
set_option linter.unusedVariables false
set_option linter.unusedSimpArgs false
theorem ycH (n:Nat) (w:World) (hn:n < 18446744073709551616):
 Calls prog 79 #[.int .u64 n] w fun e w'=>∃v,e= .returned v/\Own fB 5 w' w.heap.size v (enc n)/\Below w.heap.size w w':=by
 obtain ⟨i0,hi,N,Y,z⟩:=info_parts Tryz.infoB;have HI:=lh hi;have O:=lh N;have U:=lh Y;have Z:=lh z;clear hi N Y z;have ac:Hid (n < 128 ^ 10):=by show _ < _;omega
 have HN:Hid (n < 18446744073709551616):=hn;clear hn;have ah:Hid (Own fB 5 (w.alloc (.cells #[] 5)) w.heap.size (.slice (some ⟨w.heap.size,0,none⟩) 0 0) []):=World.ownsRow_lit w #[] 0 nl ya5 rfl;have ag:Hid (Below w.heap.size w (w.alloc (.cells #[] 5))):=bl;go_enter func79,ntmps79;go_wp2
 go_loopw [0,3] (fun i u wr=>∃(k m:Nat) (out:List Int),i= .int .u64 m/\Hid (m < 128 ^ k)/\Hid (m < 18446744073709551616)/\0 < k/\k<=10/\out.length+k<=10/\Hid (out++encF k m=enc n)/\Hid (Own fB 5 wr w.heap.size u out)/\Hid (Below w.heap.size w wr)) (fun i _ _=>(intOf i).toNat)
 case atStart=>exact ⟨10,n,[],rfl,ac,HN,by omega,by omega,by simp,by show _=_;rfl,ah,ag⟩
 case round=>
  obtain ⟨k,m,out,rfl,HM,ai,ar,hk,ak,HE,K,HB⟩:=hrel;have L:Hid ((out.length+1)*1<=140737488355328):=by show _<=_;omega
  have T:Hid (out.length+1<=maxLen):=by show _<=_;unfold maxLen;omega
  have HS:Hid (w.heap.size<=wr.heap.size):=HB.out.size;have M:Hid (∀W V,Own fB 5 wr w.heap.size V out->wr.grownBy W V.ownBlock->Below w.heap.size w W):=fun W V ho hg=>HB.out.trans (ybe hg (fun k hk=>(ol ho k hk).1) HS.out);obtain ⟨k,rfl⟩:∃k',k=k'+1:=⟨k - 1,by omega⟩
  have ap:=ai.out
  by_cases au:128<=m
  ·have aa:Hid (m / 128 < 128 ^ k):=by show _ < _;have:=HM.out;rw [Nat.pow_succ] at this;omega
   have aj:Hid (m / 128 < 18446744073709551616):=by show _ < _;omega
   have af:0 < k:=by
    have:=aa.out
    rcases k with _ |k
    ·rw [Nat.pow_zero] at this;omega
    ·omega
   have J:Hid ((out++[(m:Int) % 128+128])++encF k (m / 128)=enc n):=by
    show _=_;rw [<-HE.out,encF,if_neg om,List.append_assoc]
    congr 1
   have am:(m:Int).tmod 128=(m:Int) % 128:=Int.tmod_eq_emod_of_nonneg om;have aq:(m:Int) % 128 % 256=(m:Int) % 128:=by omega
   have ao:((m:Int) % 128+128) % 256=(m:Int) % 128+128:=by omega
   go_wp2_with (with_reducible refine ybk (o:=⟨some 13,_,_,_,_,_⟩) rfl (.tmp 7) (.tmp 12) 40 rfl 5 i0 (.int .u8 0) 1 underlying40 HI.out O.out U.out Z.out rfl _ out w.heap.size rfl K.out ((m:Int) % 128+128) 1 rfl fB1 L.out T.out HS.out ?_;intro v1 w1 G H ae)
   go_roundw
   case rel=>exact ⟨k,m / 128,out++[(m:Int) % 128+128],by first |rfl |go_num,aa,aj,af,by omega,by rw [List.length_append];simp only [List.length_cons,List.length_nil];omega,J,G,M.out _ _ K.out H.out⟩
   case measure=>simp [intOf];omega
  ·have aw:(m:Int) % 256=m:=by omega
   have J:Hid (out++[(m:Int)]=enc n):=by
    show _=_;rw [<-HE.out,encF,if_pos om]
   go_wp2_with (with_reducible refine ybk (o:=⟨some 20,_,_,_,_,_⟩) rfl (.tmp 16) (.tmp 19) 40 rfl 5 i0 (.int .u8 0) 1 underlying40 HI.out O.out U.out Z.out rfl _ out w.heap.size rfl K.out (m:Int) 1 rfl fB1 L.out T.out HS.out ?_;intro v1 w1 G H ae)
   go_ret;exact ⟨v1,rfl,by rw [<-J.out];exact G.out,M.out _ _ K.out H.out⟩
open Go.RowKit Go.Lib
structure Vl where
 kind:Int
 u:Int
 n:Int
 b:Bool
 s:ByteArray
 most:Int
instance:Inhabited Vl:=⟨⟨0,0,0,false,⟨#[]⟩,0⟩⟩
abbrev fVl (x:Vl):List Value:=[.int .i64 x.kind,.int .u64 x.u,.int .i64 x.n,.bool x.b,.string x.s,.int .i64 x.most]
abbrev aVl (x:Vl):Value:= .agg (fVl x).toArray
theorem fVl_len:∀x,(fVl x).length=6:=fun _=>rfl
theorem fVl_one:∀x,∀u∈fVl x,u.oneCell'=true:=fun x u hu=>by
 simp only [fVl,List.mem_cons,List.not_mem_nil,or_false] at hu;rcases hu with rfl |rfl |rfl |rfl |rfl |rfl<;>rfl
theorem fVl_all (x:Vl):(fVl x).toArray.all (·.oneCell')=true:=by
 rw [Array.all_eq_true'];intro u hu;exact fVl_one x u (by simpa using hu)
theorem Tryz.sizeVl:(prog.info? 188).map (·.size)=some 6:=by kernel_rfl
def vN (x:Int):Vl:=⟨1,x,0,false,⟨#[]⟩,0⟩
def vS (s:ByteArray):Vl:=⟨6,0,0,false,s,0⟩
def encR (x:Vl):List Int:=if x.kind=1 then enc x.u.toNat else if x.kind=4∨x.kind=5 then enc x.s.size++sB x.s else if x.kind=6 then sB x.s else enc x.n.toNat
def VlOk (x:Vl):Prop:=(x.kind=1/\0<=x.u/\x.u < 18446744073709551616)∨(x.kind=4/\x.s.size<=1048576)∨(x.kind=5/\x.s.size<=1048576)∨(x.kind=6/\x.s.size=32)∨(x.kind=7/\0<=x.n/\x.n<=100000)
theorem encR_N (x:Int):encR (vN x)=enc x.toNat:=rfl
theorem encR_S (s:ByteArray):encR (vS s)=sB s:=rfl
theorem vlOk_N {x:Int} (h:0<=x/\x < 18446744073709551616):VlOk (vN x):= .inl ⟨rfl,h.1,h.2⟩
theorem vlOk_S {s:ByteArray} (h:s.size=32):VlOk (vS s):= .inr (.inr (.inr (.inl ⟨rfl,h⟩)))
theorem flat_at {α:Type} {f:α->List Value} {s:Nat} (hs:∀x,(f x).length=s):∀(xs:List α) (k:Nat) (y:α) (j:Nat) (u:Value),xs[k]? =some y->(f y)[j]? =some u->(xs.flatMap f)[k*s+j]? =some u
 |x::l,0,y,j,u,hy,hu=>by
  simp at hy;subst hy;have hj:j < s:=by have:=(List.getElem?_eq_some_iff.1 hu).1;rw [hs] at this;exact this
  rw [List.flatMap_cons,List.getElem?_append_left (by rw [hs];omega),Nat.zero_mul,Nat.zero_add];exact hu
 |x::l,k+1,y,j,u,hy,hu=>by
  rw [List.flatMap_cons,List.getElem?_append_right (by rw [hs,Nat.succ_mul];omega),hs,show (k+1)*s+j - s=k*s+j by rw [Nat.succ_mul];omega];exact flat_at hs l k y j u (by simpa using hy) hu
 | [],_,_,_,_,hy,_=>by simp at hy
theorem SlN.of_rows {α:Type} {f:α->List Value} {s:Nat} (hs:∀x,(f x).length=s) {w:World} {g B:Nat} {t:TypeId} {fr:Nat × Nat} {xs:List α} {cs:Array Value} (h:w.heap[g]? =some (.cells cs t fr)) (J:cs.toList=xs.flatMap f) (K:g < B) {n:Nat} (hn:xs.length=n):SlN f s w B (some ⟨g,0,none⟩) n xs:=
 ⟨hn,fun _=>⟨g,0,rfl,K,fun k y H j u G=>by
   rw [cell_of_row _ _ _ _ _ _ h,Nat.zero_add,<-Array.getElem?_toList,J]
   exact flat_at hs xs k y j u H G⟩⟩
theorem six {w:World} {b G m:Nat} {x:Vl} (h:∀(j:Nat) (v:Value),(fVl x)[j]? =some v->w.cell? ⟨b,G+(m+j),none⟩=some v):w.cell? ⟨b,G+m,none⟩=some (.int .i64 x.kind)/\w.cell? ⟨b,G+m+1,none⟩=some (.int .u64 x.u)/\w.cell? ⟨b,G+m+2,none⟩=some (.int .i64 x.n)/\w.cell? ⟨b,G+m+3,none⟩=some (.bool x.b)/\w.cell? ⟨b,G+m+4,none⟩=some (.string x.s)/\w.cell? ⟨b,G+m+5,none⟩=some (.int .i64 x.most):=
 ⟨h 0 _ rfl,h 1 _ rfl,h 2 _ rfl,h 3 _ rfl,h 4 _ rfl,h 5 _ rfl⟩
theorem take_flat {xs:List Vl} {k:Nat} {x:Vl} (h:xs[k]? =some x):(xs.take (k+1)).flatMap encR=(xs.take k).flatMap encR++encR x:=by
 rw [List.take_add_one,h,List.flatMap_append];simp
theorem step_appR {P:Program} {w:World} {α:Type} {f:α->Value} {ops:Array Oper} {o:Oper} {a:Act} {K:Act->World->Prop} {Q:Exit->Act->World->Prop} {E:Prop} (J:o.guard=none) (sl x:Operand) (t:TypeId)
 (O:o.op= .call {callee:= .builtin .append,args:=#[sl,x],argTypes:=#[t,t]})
 (e:TypeId) (i:TypeInfo) (z:Value) (bytes:Nat) (ht:P.underlying t=some (.slice e)) (hi:P.info? e=some i) (hz:i.zero=some z)
 (hsize:i.size=1) (hby:i.bytes=bytes) (hzs:z.cells.size=1) (v:Value) (xs:List α) (base:Nat) (hsl:a.eval sl=v) (hown:Own f e w base v xs)
 (A:Option Addr) (m c B:Nat) (ys:List α) (hx:a.eval x= .slice A m c) (hr:Sl f w B A m ys) (h1:∀y,(f y).oneCell'=true) (hbytes:(xs.length+ys.length)*bytes<=140737488355328) (hmax:xs.length+ys.length<=maxLen) (hbase:base<=w.heap.size)
 (h:∀G H,Hid (Own f e H base G (xs++ys))->Hid (w.grownBy H v.ownBlock)->Hid (G.ownBlock=v.ownBlock∨G.ownBlock=some w.heap.size)->K (a.put o.dst G) H):
 if Region.wanted o (yielded ops a.tmps)=true then Oper.wp P o a w K Q else E:=by
 have L:Region.wanted o (yielded ops a.tmps)=true:=by simp [Region.wanted,J]
 rw [if_pos L];exact wp_app sl x t O e i z bytes ht hi hz hsize hby hzs v xs base hsl hown A m c B ys hx hr h1 hbytes hmax hbase fun G H h2 N M=>h G H h2 N M
theorem step_strO {P:Program} {w:World} {ops:Array Oper} {o:Oper} {a:Act} {K:Act->World->Prop} {Q:Exit->Act->World->Prop} {E:Prop} (J:o.guard=none) (sl x:Operand) (t u:TypeId)
 (O:o.op= .call {callee:= .builtin .append,args:=#[sl,x],argTypes:=#[t,u]})
 (e:TypeId) (i:TypeInfo) (ht:P.underlying t=some (.slice e)) (hu:P.underlying u=some .string) (hi:P.info? e=some i) (hz:i.zero=some (.int .u8 0)) (hsize:i.size=1) (hby:i.bytes=1)
 (v:Value) (xs:List Int) (base:Nat) (hs:a.eval sl=v) (hown:Own fB e w base v xs) (s:ByteArray) (hx:a.eval x= .string s) (hl:xs.length+s.size<=140737488355328) (hbase:base<=w.heap.size)
 (h:∀G H,Hid (Own fB e H base G (xs++sB s))->Hid (w.grownBy H v.ownBlock)->Hid (G.ownBlock=v.ownBlock∨G.ownBlock=some w.heap.size)->K (a.put o.dst G) H):
 if Region.wanted o (yielded ops a.tmps)=true then Oper.wp P o a w K Q else E:=by
 have L:Region.wanted o (yielded ops a.tmps)=true:=by simp [Region.wanted,J]
 rw [if_pos L];exact wp_app_str sl x t u O e i ht hu hi hz hsize hby v xs base hs hown s hx hl hbase fun G H h2 N M=>h G H h2 N M
theorem yd8 {w G:World} {row:Option Nat} (H:w.grownBy G row) {b o:Nat} {v:Value} (K:w.cell? ⟨b,o,none⟩=some v) (J:b < w.heap.size) (hr:∀k,row=some k->k≠b):G.cell? ⟨b,o,none⟩=some v:=
 (cB (w:=w) (by exact H.block b J (fun e=>hr b e.symm rfl))).trans K
theorem ne_own {u G:Value} {n m:Nat} (K:G.ownBlock=u.ownBlock∨G.ownBlock=some m) (J:∀k,u.ownBlock=some k->k≠n) (h:n < m):∀k,G.ownBlock=some k->k≠n:=fun k H=>by
 rcases K with h1 |h1
 ·exact J k (by rw [<-h1];exact H)
 ·rw [h1] at H;have:=Option.some.inj H;omega
theorem rencode_any (xs:List Vl) (A:Option Addr) (n c:Nat) (w:World) (hx:SlN fVl 6 w w.heap.size A n xs) (aC:∀x∈xs,VlOk x) (hl:(xs.flatMap encR).length<=1048576) (hn:n<=100000):
 Calls prog 128 #[.slice A n c] w fun e w'=>∃v,e= .returned (.tuple #[v,.int .i64 0])/\Own fB 5 w' w.heap.size v (xs.flatMap encR)/\Below w.heap.size w w':=by
 obtain ⟨i0,hi,aK,aG,aI⟩:=info_parts Tryz.infoB;have HI:=lh hi;have Z:=lh aK;have ac:=lh aG;have ae:=lh aI;have HX:=lh hx;have aN:=lh aC;have HL:=lh hl;have aH:Hid (Own fB 5 (w.alloc (.cells #[] 5)) w.heap.size (.slice (some ⟨w.heap.size,0,none⟩) 0 0) []):=World.ownsRow_lit w #[] 0 nl ya5 rfl;have aB:Hid (Below w.heap.size w (w.alloc (.cells #[] 5))):=bl;clear hi aK aG aI hx aC hl;go_enter func128,ntmps128;go_wp2_with fail
 go_loopw [4,5] (fun u i wr=>∃k:Nat,k<=n/\i= .int .i64 k/\Hid (Own fB 5 wr w.heap.size u ((xs.take k).flatMap encR))/\Hid (Below w.heap.size w wr)) (fun _ i _=>n - (intOf i).toNat)
 case atStart=>exact ⟨0,Nat.zero_le _,rfl,by show Own _ _ _ _ _ _;simpa using aH.out,aB⟩
 case round=>
  obtain ⟨k,hk,rfl,HO,HB⟩:=hrel
  by_cases hlt:k < n
  ·have aF:=HX.out.up HB.out nl;obtain ⟨b,aV,x,rfl,aW,ax,ar⟩:=aF.at_ hlt;obtain ⟨c0,c1,c2,c3,c4,c5⟩:=six ar;have aQ:=lh (aN.out x (List.mem_of_getElem? ax));have ai:=lh (take_flat ax)
   have T:Hid (((xs.take k).flatMap encR).length<=1048576):=by
    show _<=_;have h1:(xs.flatMap encR).length=((xs.take k).flatMap encR).length+((xs.drop k).flatMap encR).length:=by rw [<-List.length_append,<-List.flatMap_append,List.take_append_drop]
    have:=HL.out;omega
   clear aF ax ar;obtain ⟨xk,xu,xn,xb,G,xm⟩:=x;dsimp only at c0 c1 c2 c3 c4 c5;rcases aQ.out with ⟨h,h1,h2⟩ |⟨h,h1⟩ |⟨h,h1⟩ |⟨h,h1⟩ |⟨h,h1,h2⟩
   ·
    dsimp only at h h1 h2;subst h;obtain ⟨z,rfl⟩:∃z:Nat,xu=z:=⟨xu.toNat,by omega⟩
    have W:Hid ((((xs.take k).flatMap encR).length+(enc z).length)*1<=140737488355328):=by show _<=_;have:=T.out;have:=ybm z;omega
    have af:Hid (((xs.take k).flatMap encR).length+(enc z).length<=maxLen):=by show _<=_;have:=T.out;have:=ybm z;unfold maxLen;omega
    go_wp2_with fail
    refine (ycH z _ om).mono ?_;rintro e H ⟨v6,rfl,U,Y⟩;obtain ⟨A6,c6,rfl,_,O,_⟩:=U.shape;have aa:Hid (Sl fB H H.heap.size A6 (enc z).length (enc z)):=⟨rfl,O⟩;have HB6:Hid (Below wr.heap.size wr H):=Below.trans yaC (Y.mono sI);have L:=lh (HO.out.on HB6.out);have J:Hid (w.heap.size<=H.heap.size):=lT HB.out.size HB6.out.size;clear O U;go_wp2_with (at_builtin;refine ybD (o:=⟨some 26,_,_,_,_,_⟩) rfl (.tmp 22) (.tmp 25) 40 rfl 5 i0 (.int .u8 0) 1 underlying40 HI.out Z.out ac.out ae.out rfl _ ((xs.take k).flatMap encR) w.heap.size (by rfl) L.out A6 (enc z).length c6 H.heap.size (enc z) (by rfl) aa.out fB1 W.out af.out J.out ?_;intro v1 w1 M K ah);go_roundw;case rel=>exact ⟨k+1,by omega,by go_num,by show Own _ _ _ _ _ _;rw [ai.out];exact M.out,L.out.below (bt HB.out HB6.out) nl J.out K.out⟩
    case measure=>simp [intOf];omega
   ·
    dsimp only at h h1;subst h;have az:Hid (G.size < 18446744073709551616):=by show _ < _;omega
    have aD:IntKind.u64.wrap (G.size:Int)=G.size:=IntWalk.u64_in _ om;have W:Hid ((((xs.take k).flatMap encR).length+(enc G.size).length)*1<=140737488355328):=by show _<=_;have:=T.out;have:=ybm G.size;omega
    have af:Hid (((xs.take k).flatMap encR).length+(enc G.size).length<=maxLen):=by show _<=_;have:=T.out;have:=ybm G.size;unfold maxLen;omega
    have aw:Hid (((xs.take k).flatMap encR++enc G.size).length+G.size<=140737488355328):=by show _<=_;rw [List.length_append];have:=T.out;have:=ybm G.size;omega
    have aq:Hid ((wr.alloc (.cells #[.int .i64 4,.int .u64 xu,.int .i64 xn,.bool xb,.string G,.int .i64 xm] 188)).cell? ⟨wr.heap.size,4,none⟩=some (.string G)):=by show _=_;rw [cell_of_row _ _ 4 _ _ _ (zy wr _)];rfl
    have ak:Hid (∀k',u4.ownBlock=some k'->k'≠wr.heap.size):=fun k' au=>Nat.ne_of_lt (ol HO.out k' au).2;have aM:=World.new_ne wr;go_wp2_with fail
    go_region_held3 (fun w'=>w'.cell? ⟨wr.heap.size,4,none⟩=some (.string G)) (first |exact aA.out |exact am.out |exact aj.out |exact aq.out |go_keep) (first
     |(go_at_call 79;(refine (ycH G.size _ az.out).mono ?_);(rintro e H ⟨v6,rfl,U,Y⟩);(obtain ⟨A6,c6,rfl,_,O,_⟩:=U.shape);(have aa:Hid (Sl fB H H.heap.size A6 (enc G.size).length (enc G.size)):=⟨rfl,O⟩);(have HB6:Hid (Below wr.heap.size wr H):=Below.trans yaC (Y.mono sI));(have L:=lh (HO.out.on HB6.out));(have J:Hid (w.heap.size<=H.heap.size):=lT HB.out.size HB6.out.size);(have ag:Hid (wr.heap.size < H.heap.size):=Nat.lt_of_lt_of_le sI Y.size);(have aj:Hid (H.cell? ⟨wr.heap.size,4,none⟩=some (.string G)):=(Y.cell (p:=⟨wr.heap.size,4,none⟩) sI).trans aq.out);clear U O Y)
     |(refine step_appR (by rfl) (.tmp 48) (.tmp 53) 40 (by rfl) 5 i0 (.int .u8 0) 1 underlying40 HI.out Z.out ac.out ae.out rfl u4 ((xs.take k).flatMap encR) w.heap.size (by rfl) L.out A6 (enc G.size).length c6 H.heap.size (enc G.size) (by rfl) aa.out fB1 W.out af.out J.out ?_;(intro v1 w1 M K ah);(have am:Hid (w1.cell? ⟨wr.heap.size,4,none⟩=some (.string G)):=yd8 K.out aj.out ag.out ak.out);(have ap:Hid (w.heap.size<=w1.heap.size):=lT J.out K.out.size))
     |(refine step_strO (by rfl) (.tmp 54) (.tmp 56) 40 9 (by rfl) 5 i0 underlying40 underlying9 HI.out Z.out ac.out ae.out v1 ((xs.take k).flatMap encR++enc G.size) w.heap.size (by rfl) M.out G (by rfl) aw.out ap.out ?_;(intro v2 w2 ay ao aR);(have aA:Hid (w2.cell? ⟨wr.heap.size,4,none⟩=some (.string G)):=yd8 ao.out am.out (Nat.lt_of_lt_of_le ag.out K.out.size) (ne_own ah.out ak.out ag.out))))
    go_wp2_with fail
    go_roundw
    case rel=>exact ⟨k+1,by omega,by go_num,by show Own _ _ _ _ _ _;rw [ai.out];have h9:=ay.out;rw [List.append_assoc] at h9;exact h9,M.out.below (L.out.below (bt HB.out HB6.out) nl J.out K.out) nl ap.out ao.out⟩
    case measure=>simp [intOf];omega
   ·
    dsimp only at h h1;subst h;have az:Hid (G.size < 18446744073709551616):=by show _ < _;omega
    have aD:IntKind.u64.wrap (G.size:Int)=G.size:=IntWalk.u64_in _ om;have W:Hid ((((xs.take k).flatMap encR).length+(enc G.size).length)*1<=140737488355328):=by show _<=_;have:=T.out;have:=ybm G.size;omega
    have af:Hid (((xs.take k).flatMap encR).length+(enc G.size).length<=maxLen):=by show _<=_;have:=T.out;have:=ybm G.size;unfold maxLen;omega
    have aw:Hid (((xs.take k).flatMap encR++enc G.size).length+G.size<=140737488355328):=by show _<=_;rw [List.length_append];have:=T.out;have:=ybm G.size;omega
    have aq:Hid ((wr.alloc (.cells #[.int .i64 5,.int .u64 xu,.int .i64 xn,.bool xb,.string G,.int .i64 xm] 188)).cell? ⟨wr.heap.size,4,none⟩=some (.string G)):=by show _=_;rw [cell_of_row _ _ 4 _ _ _ (zy wr _)];rfl
    have ak:Hid (∀k',u4.ownBlock=some k'->k'≠wr.heap.size):=fun k' au=>Nat.ne_of_lt (ol HO.out k' au).2;have aM:=World.new_ne wr;go_wp2_with fail
    go_region_held3 (fun w'=>w'.cell? ⟨wr.heap.size,4,none⟩=some (.string G)) (first |exact aA.out |exact am.out |exact aj.out |exact aq.out |go_keep) (first
     |(go_at_call 79;(refine (ycH G.size _ az.out).mono ?_);(rintro e H ⟨v6,rfl,U,Y⟩);(obtain ⟨A6,c6,rfl,_,O,_⟩:=U.shape);(have aa:Hid (Sl fB H H.heap.size A6 (enc G.size).length (enc G.size)):=⟨rfl,O⟩);(have HB6:Hid (Below wr.heap.size wr H):=Below.trans yaC (Y.mono sI));(have L:=lh (HO.out.on HB6.out));(have J:Hid (w.heap.size<=H.heap.size):=lT HB.out.size HB6.out.size);(have ag:Hid (wr.heap.size < H.heap.size):=Nat.lt_of_lt_of_le sI Y.size);(have aj:Hid (H.cell? ⟨wr.heap.size,4,none⟩=some (.string G)):=(Y.cell (p:=⟨wr.heap.size,4,none⟩) sI).trans aq.out);clear U O Y)
     |(refine step_appR (by rfl) (.tmp 48) (.tmp 53) 40 (by rfl) 5 i0 (.int .u8 0) 1 underlying40 HI.out Z.out ac.out ae.out rfl u4 ((xs.take k).flatMap encR) w.heap.size (by rfl) L.out A6 (enc G.size).length c6 H.heap.size (enc G.size) (by rfl) aa.out fB1 W.out af.out J.out ?_;(intro v1 w1 M K ah);(have am:Hid (w1.cell? ⟨wr.heap.size,4,none⟩=some (.string G)):=yd8 K.out aj.out ag.out ak.out);(have ap:Hid (w.heap.size<=w1.heap.size):=lT J.out K.out.size))
     |(refine step_strO (by rfl) (.tmp 54) (.tmp 56) 40 9 (by rfl) 5 i0 underlying40 underlying9 HI.out Z.out ac.out ae.out v1 ((xs.take k).flatMap encR++enc G.size) w.heap.size (by rfl) M.out G (by rfl) aw.out ap.out ?_;(intro v2 w2 ay ao aR);(have aA:Hid (w2.cell? ⟨wr.heap.size,4,none⟩=some (.string G)):=yd8 ao.out am.out (Nat.lt_of_lt_of_le ag.out K.out.size) (ne_own ah.out ak.out ag.out))))
    go_wp2_with fail
    go_roundw
    case rel=>exact ⟨k+1,by omega,by go_num,by show Own _ _ _ _ _ _;rw [ai.out];have h9:=ay.out;rw [List.append_assoc] at h9;exact h9,M.out.below (L.out.below (bt HB.out HB6.out) nl J.out K.out) nl ap.out ao.out⟩
    case measure=>simp [intOf];omega
   ·
    dsimp only at h h1;subst h;have aP:(G.size:Int)=32:=by omega
    have aU:((G.size:Int)==32)=true:=by simp [aP]
    have W:Hid (((xs.take k).flatMap encR).length+G.size<=140737488355328):=by show _<=_;have:=T.out;omega
    have aJ:Hid (∀o,Below wr.heap.size wr (wr.alloc o)):=fun o=>bR.alloc nl o;have J:Hid (∀o,w.heap.size<=(wr.alloc o).heap.size):=fun o=>lT HB.out.size (aJ.out o).size;have L:Hid (∀o,Own fB 5 (wr.alloc o) w.heap.size _ _):=fun o=>HO.out.alloc o;go_wp2_with (at_builtin;refine yb6 (o:=⟨some 67,_,_,_,_,_⟩) rfl (.tmp 64) (.tmp 66) 40 9 rfl 5 i0 underlying40 underlying9 HI.out Z.out ac.out ae.out _ ((xs.take k).flatMap encR) w.heap.size (by rfl) (L.out _) G (by rfl) W.out (J.out _) ?_;intro v1 w1 M K ah);go_roundw;case rel=>exact ⟨k+1,by omega,by go_num,by show Own _ _ _ _ _ _;rw [ai.out];exact M.out,(L.out _).below (HB.out.trans ((aJ.out _).mono HB.out.size)) nl (J.out _) K.out⟩
    case measure=>simp [intOf];omega
   ·
    dsimp only at h h1 h2;subst h;obtain ⟨z,rfl⟩:∃z:Nat,xn=z:=⟨xn.toNat,by omega⟩
    have aS:¬(z:Int) < 0:=by omega
    have aT:decide ((z:Int) < 0)=false:=decide_eq_false aS;have aD:(z:Int) % 18446744073709551616=z:=by omega
    have W:Hid ((((xs.take k).flatMap encR).length+(enc z).length)*1<=140737488355328):=by show _<=_;have:=T.out;have:=ybm z;omega
    have af:Hid (((xs.take k).flatMap encR).length+(enc z).length<=maxLen):=by show _<=_;have:=T.out;have:=ybm z;unfold maxLen;omega
    go_wp2_with fail
    refine (ycH z _ om).mono ?_;rintro e H ⟨v6,rfl,U,Y⟩;obtain ⟨A6,c6,rfl,_,O,_⟩:=U.shape;have aa:Hid (Sl fB H H.heap.size A6 (enc z).length (enc z)):=⟨rfl,O⟩;have HB6:Hid (Below wr.heap.size wr H):=Below.trans yaC (Y.mono sI);have L:=lh (HO.out.on HB6.out);have J:Hid (w.heap.size<=H.heap.size):=lT HB.out.size HB6.out.size;clear O U;go_wp2_with (at_builtin;refine ybD (o:=⟨some 78,_,_,_,_,_⟩) rfl (.tmp 73) (.tmp 77) 40 rfl 5 i0 (.int .u8 0) 1 underlying40 HI.out Z.out ac.out ae.out rfl _ ((xs.take k).flatMap encR) w.heap.size (by rfl) L.out A6 (enc z).length c6 H.heap.size (enc z) (by rfl) aa.out fB1 W.out af.out J.out ?_;intro v1 w1 M K ah);go_roundw;case rel=>exact ⟨k+1,by omega,by go_num,by show Own _ _ _ _ _ _;rw [ai.out];exact M.out,L.out.below (bt HB.out HB6.out) nl J.out K.out⟩
    case measure=>simp [intOf];omega
  ·obtain rfl:k=n:=by omega
   have aY:=HX.out.1;have aE:=lh (show Own fB 5 wr w.heap.size _ (xs.flatMap encR) by have h9:=HO.out;rwa [List.take_of_length_le om] at h9);obtain ⟨A4,c4,aL,_,_,_⟩:=aE.out.shape;obtain ⟨N,hN⟩:=gx ((xs.flatMap encR).length);have aO:¬1048576 < (N:Int):=by have:=HL.out;omega
   have aX:decide (1048576 < (N:Int))=false:=decide_eq_false aO;rw [hN] at aL;subst aL;clear HO aH aB hN;go_wp2_with fail;go_ret2;exact ⟨_,rfl,aE.out,HB.out⟩
abbrev tVl:TypeId:=188
def VA (w W:World) (u:Value) (acc:List Vl):Prop:=OwnN fVl 6 tVl W w.heap.size u acc/\Below w.heap.size w W
section
variable {w W W':World} {u u':Value} {acc acc':List Vl}
theorem VA.on (h:VA w W u acc) (hb:Below W.heap.size W W'):VA w W' u acc:=⟨h.1.on hb,bt h.2 hb⟩
theorem VA.alloc (h:VA w W u acc) (o:Obj):VA w (W.alloc o) u acc:=h.on (bR.alloc nl o)
theorem VA.drew (h:VA w W u acc):VA w W.drew u acc:=h.on bR.drew
theorem VA.drewN (h:VA w W u acc) (n:Nat):VA w (W.drewN n) u acc:=h.on ⟨rfl,rfl,rfl,Nat.le_refl _,fun _ _=>rfl⟩
theorem VA.app (h:VA w W u acc) (ho:OwnN fVl 6 tVl W' w.heap.size u' acc') (hg:W.grownBy W' u.ownBlock):VA w W' u' acc':=
 ⟨ho,h.2.grown hg h.2.size fun k hk=>(ol h.1 k hk).1⟩
theorem VA.start (H:Below w.heap.size w W) {cs:Array Value} {ys:List Vl} {m:Nat} (K:cs.toList=ys.flatMap fVl) (J:ys.length=m) (L:m<=100):
 VA w (W.alloc (.cells cs tVl)) (.slice (some ⟨W.heap.size,0,none⟩) m m) ys:=by
 have h1:cs.size=m*6:=by rw [<-Array.length_toList,K,ycg fVl_len,J]
 have h2:=World.ownsRow_lit (base:=w.heap.size) (e:=tVl) W cs m H.size ya5 h1;have G:Below W.heap.size W (W.alloc (.cells cs tVl)):=bl;refine ⟨?_,bt H G⟩;unfold OwnN;rw [J,<-K];exact h2
theorem VA.row (h:VA w W u acc):∃A c,u= .slice A acc.length c/\acc.length<=c/\SlN fVl 6 W W.heap.size A acc.length acc:=by
 obtain ⟨A,c,h1,hc,h2,_⟩:=h.1.shape fVl_len;exact ⟨A,c,h1,hc,h2⟩
end
section
variable {w:World} {u:Value} {acc:List Vl}
end
def hor:List Int->Int
 | []=>0
 |b::t=>(hor t*128+b % 128) % 18446744073709551616
theorem hor_rng (l:List Int):0<=hor l/\hor l < 18446744073709551616:=by
 cases l with
 |nil=>exact ⟨by decide,by decide⟩
 |cons b t=>unfold hor;omega
theorem hor_enc:∀(k n:Nat),n < 128 ^ k->n < 18446744073709551616->hor (encF k n)=n
 |0,n,h,_=>by simp at h;subst h;rfl
 |k+1,n,h,h2=>by
  have hd:n / 128 < 128 ^ k:=by rw [Nat.pow_succ] at h;omega
  have G:=hor_enc k (n / 128) hd om;rw [encF]
  split
  ·simp only [hor];omega
  ·simp only [hor,G];omega
theorem enc_shape:∀(k n:Nat),n < 128 ^ k->0 < k->∃L,(encF k n).length=L+1/\L < k/\(∃x,(encF k n)[L]? =some x/\x < 128)/\∀i,i < L->∃x,(encF k n)[i]? =some x/\128<=x
 |0,n,_,h=>absurd h om
 |k+1,n,h,_=>by
  have hd:n / 128 < 128 ^ k:=by rw [Nat.pow_succ] at h;omega
  rw [encF]
  split
  ·exact ⟨0,rfl,by omega,⟨(n:Int),rfl,by omega⟩,fun i hi=>absurd hi om⟩
  ·have G:0 < k:=by
    rcases k with _ |k
    ·rw [Nat.pow_zero] at hd;omega
    ·omega
   obtain ⟨L,h1,h2,⟨x,H,J⟩,K⟩:=enc_shape k (n / 128) hd G;refine ⟨L+1,by rw [List.length_cons,h1],by omega,⟨x,H,J⟩,fun i hi=>?_⟩
   cases i with
   |zero=>exact ⟨_,rfl,by omega⟩
   |succ i=>exact K i om
theorem enc_shape10 {n:Nat} (h:n < 18446744073709551616):∃L,(enc n).length=L+1/\L < 10/\(∃x,(enc n)[L]? =some x/\x < 128)/\∀i,i < L->∃x,(enc n)[i]? =some x/\128<=x:=enc_shape 10 n om om
section
variable {bs:List Int} {p j:Nat}
theorem at_len (hj:∀i,i < j->∀x,bs[p+i]? =some x->128<=x) {x:Int} (G:bs[p+j]? =some x) (hl:x < 128) {n:Nat} (hn:n < 18446744073709551616) (h:AtL bs p (enc n)):(enc n).length=j+1:=by
 obtain ⟨L,h1,h2,⟨y,K,M⟩,H⟩:=enc_shape10 hn;rcases Nat.lt_trichotomy L j with c |c |c
 ·have:=hj L c y (by rw [h L om,K]);omega
 ·omega
 ·obtain ⟨z,J,N⟩:=H j c;have:=h j om;rw [G,J] at this;cases this
  omega
theorem at_no (hj:∀i,i < j->∀x,bs[p+i]? =some x->128<=x) (J:10<=j∨bs.length<=p+j) {n:Nat} (hn:n < 18446744073709551616) (h:AtL bs p (enc n)):False:=by
 obtain ⟨L,h1,h2,⟨y,G,H⟩,K⟩:=enc_shape10 hn;rcases Nat.lt_or_ge L j with c |c
 ·have:=hj L c y (by rw [h L om,G]);omega
 ·have:=h.fits om;omega
def segL (bs:List Int) (p j:Nat):List Int:=(bs.drop p).take j
theorem seg_len (h:p+j<=bs.length):(segL bs p j).length=j:=by unfold segL;rw [List.length_take,List.length_drop];omega
theorem seg_at {i:Nat} (hi:i < j):(segL bs p j)[i]? =bs[p+i]? :=by unfold segL;rw [List.getElem?_take,if_pos hi,List.getElem?_drop]
theorem seg_drop {m:Nat} {x:Int} (J:m < j) (G:bs[p+m]? =some x):(segL bs p j).drop m=x::(segL bs p j).drop (m+1):=by
 have h1:(segL bs p j)[m]? =some x:=by rw [seg_at J];exact G
 obtain ⟨h2,H⟩:=List.getElem?_eq_some_iff.1 h1;rw [List.drop_eq_getElem_cons h2,H]
theorem seg_all (h:p+j<=bs.length):(segL bs p j).drop j=[]:=by rw [List.drop_eq_nil_iff,seg_len h];exact Nat.le_refl _
theorem seg_of {xs:List Int} (h:AtL bs p xs) (hl:xs.length=j):segL bs p j=xs:=by unfold segL;rw [<-hl];exact h.cut
theorem at_seg {V:Nat} (hj:∀i,i < j->∀x,bs[p+i]? =some x->128<=x) {x:Int} (G:bs[p+j]? =some x) (hl:x < 128) (J:hor (segL bs p (j+1))=V) {n:Nat} (hn:n < 18446744073709551616) (h:AtL bs p (enc n)):enc V=segL bs p (j+1):=by
 have h1:=at_len hj G hl hn h;have h2:=seg_of h h1;have H:hor (enc n)=n:=hor_enc 10 n om hn;rw [h2,H] at J;rw [h2]
 congr 1
 omega
def nmF (bs:List Int) (p:Nat):Int × Nat × Bool:=if (numF bs 10 0 0 p).2.1=0 then ((numF bs 10 0 0 p).1,(numF bs 10 0 0 p).2.2,true) else (0,0,false)
theorem nmF_at {n:Nat} (hn:n < 18446744073709551616) (h:AtL bs p (enc n)):nmF bs p=((n:Int),p+(enc n).length,true):=by
 unfold nmF;rw [num_rt h hn];rfl
theorem nmF_no (H:∀b∈bs,0<=b/\b < 256) (h:∀n,n < 18446744073709551616->AtL bs p (enc n)->False):nmF bs p=(0,0,false):=by
 unfold nmF
 split
 ·next e=>
  obtain ⟨n,_,h2,_,G⟩:=num_only H (show numF bs 10 0 0 p=((numF bs 10 0 0 p).1,0,(numF bs 10 0 0 p).2.2) by rw [<-e]);exact absurd G (h n h2)
 ·rfl
theorem nmF_seg {V:Nat} (H:p+(j+1)<=bs.length) (J:V < 18446744073709551616) (G:enc V=segL bs p (j+1)):nmF bs p=((V:Int),p+(j+1),true):=by
 have hl:(enc V).length=j+1:=by rw [G];exact seg_len H
 rw [nmF_at J (fun i hi=>by rw [G];exact (seg_at om).symm),hl]
end
theorem ydq (A:Option Addr) (n c p B:Nat) (bs:List Int) (w:World) (hx:Sl fB w B A n bs) (hb:∀b∈bs,0<=b/\b < 256) (hB:B<=w.heap.size) (hp:p<=n) (hn:n<=1000000):
 Calls prog 231 #[.slice A n c,.int .i64 p] w fun e w'=>e= .returned (.tuple #[.int .u64 (nmF bs p).1,.int .i64 (nmF bs p).2.1,.bool (nmF bs p).2.2])/\Below w.heap.size w w':=by
 have HX:=lh hx;have J:=lh hb;have HLN:Hid (bs.length=n):=hx.1;have af:=lh hB;clear hx hb hB;go_enter func231,ntmps231;go_wp2
 go_loopw [7] (fun i wr=>∃j:Nat,j<=10/\i= .int .i64 ((j:Int)+1)/\p+j<=n/\Hid (∀i,i < j->∀x,bs[p+i]? =some x->128<=x)/\Hid (Below w.heap.size w wr)) (fun i _=>11 - (intOf i).toNat)
 case atStart=>exact ⟨0,by omega,rfl,by omega,fun i hi=>absurd hi om,Below.refl _ _⟩
 case round=>
  obtain ⟨j,hj,rfl,aC,HJ,HR⟩:=hrel;have aa:((p:Int)+((j:Int)+1))=((p+j+1:Nat):Int):=by omega
  by_cases ax:j < 10
  ·by_cases aw:p+j=n
   ·have HF:Hid (nmF bs p=(0,0,false)):=nmF_no J.out fun m h1 h2=>at_no HJ.out (.inr ya8) h1 h2;have U:¬((p+j+1:Nat):Int)<=(n:Int):=by omega
    have M:(j:Int)+1<=10:=by omega
    go_wp2
    go_ret3
    rw [HF.out];exact ⟨rfl,HR.out⟩
   ·obtain ⟨b1,o1,x,rfl,_,hg,hc⟩:=(HX.out.up HR.out af.out).2.at_ (k:=p+j) ya8;have aG:=J.out x (List.mem_of_getElem? hg);have U:((p+j+1:Nat):Int)<=(n:Int):=by omega
    have M:(j:Int)+1<=10:=by omega
    have ae:((p+j+1:Nat):Int) - 1=((p+j:Nat):Int):=by omega
    by_cases au:128<=x
    ·have ao:Hid (∀i,i < j+1->∀x,bs[p+i]? =some x->128<=x):=fun i hi y hy=>by
      rcases Nat.lt_or_ge i j with c |c
      ·exact HJ.out i c y hy
      ·obtain rfl:i=j:=by omega
       rw [hg] at hy;cases hy;exact au
     clear hg;go_wp2;go_roundw;case rel=>exact ⟨j+1,by omega,by go_num,by omega,ao,HR.out⟩
     case measure=>simp [intOf];omega
    ·obtain ⟨V,hV⟩:∃V:Nat,hor (segL bs p (j+1))=V:=⟨(hor (segL bs p (j+1))).toNat,by have:=(hor_rng (segL bs p (j+1))).1;omega⟩
     have ai:V < 18446744073709551616:=by have:=(hor_rng (segL bs p (j+1))).2;omega
     have HV:Hid (hor (segL bs p (j+1))=V):=hV;have am:Hid (∀m,m < 18446744073709551616->AtL bs p (enc m)->enc V=segL bs p (j+1)):=fun m h1 h2=>at_seg HJ.out hg om hV h1 h2;have Y:Hid (p+(j+1)<=bs.length):=by show _<=_;rw [HLN.out];omega
     clear hV hg;go_wp2
     go_loopw [8,9] (fun v i wq=>∃(m:Nat) (q:Int),m<=j+1/\i= .int .i64 q/\q=(m:Int) - 1/\Hid (v= .int .u64 (hor ((segL bs p (j+1)).drop m)))/\Hid (Below w.heap.size w wq)) (fun _ i _=>((intOf i)+1).toNat)
     case atStart=>exact ⟨j+1,_,by omega,by go_num,by omega,by show _=_;rw [seg_all Y.out];rfl,HR⟩
     case round=>
      rename_i wq _ _
      obtain ⟨m,q,hm,rfl,hq,ac,HQ⟩:=hrel
      by_cases aj:m=0
      ·subst aj;obtain rfl:q= -1:=by omega
       clear hq;obtain rfl:=ac.out.trans (by rw [List.drop_zero,HV.out]);obtain ⟨L6,N⟩:∃L6,Hid ((enc V).length=L6):=⟨_,rfl⟩
       by_cases hL:L6=j+1
       ·subst hL;clear aa U M ae hc;go_wp2_with (go_at_call 79;(refine (ycH V _ ai).mono ?_);(rintro e H ⟨v6,rfl,O,b6⟩);(obtain ⟨A6,c6,rfl,_,K,_⟩:=O.shape);(have T:Hid (Sl fB H H.heap.size A6 (enc V).length (enc V)):=⟨rfl,K⟩);(have L:Hid (Below w.heap.size w H):=bt HQ.out b6);(have ak:Hid (w.heap.size<=H.heap.size):=L.out.size);(rw [N.out] at T ⊢);clear O K b6)
        go_loopw [11] (fun i wq=>∃k:Nat,k<=j+1/\i= .int .i64 k/\Hid (∀i,i < k->(enc V)[i]? =bs[p+i]?)/\Hid (Below H.heap.size H wq)) (fun i _=>j+1 - (intOf i).toNat)
        case atStart=>exact ⟨0,by omega,rfl,fun i hi=>absurd hi om,Below.refl _ _⟩
        case round=>
         obtain ⟨k,hk,rfl,HK,ah⟩:=hrel;have ag:=lh (L.out.trans (ah.out.mono ak.out))
         by_cases aK:k < j+1
         ·obtain ⟨b2,o2,y,e2,_,G,ar⟩:=(HX.out.up ag.out af.out).2.at_ (k:=p+k) ya8;cases e2
          obtain ⟨b3,o3,y',rfl,_,W,aF⟩:=(T.out.up ah.out nl).2.at_ (k:=k) (by rw [N.out];omega);have aJ:(k:Int) < (j:Int)+1:=by omega
          have aD:(0:Int)<=(k:Int):=by omega
          have aL:(p:Int)+(k:Int) < (n:Int):=by omega
          have ay:(0:Int)<=(p:Int)+(k:Int):=by omega
          have aI:((p:Int)+(k:Int)).toNat=p+k:=by omega
          by_cases Z:y'=y
          ·subst Z
           have ap:Hid (∀i,i < k+1->(enc V)[i]? =bs[p+i]?):=fun i hi=>by
            rcases Nat.lt_or_ge i k with c |c
            ·exact HK.out i c
            ·obtain rfl:i=k:=by omega
             rw [G,W]
           clear G W;go_wp2;go_quiet (fail);go_wp2;go_roundw;case rel=>exact ⟨k+1,by omega,by go_num,ap,below_drewN ah.out _⟩
           case measure=>simp [intOf];omega
          ·have HF:Hid (nmF bs p=(0,0,false)):=nmF_no J.out fun m h1 h2=>Z (by
            have e:=am.out m h1 h2;have e4:(segL bs p (j+1))[k]? =some y:=by rw [seg_at om];exact G
            rw [<-e,W] at e4
            exact Option.some.inj e4)
           have aE:(y'==y)=false:=by simp [Z]
           clear G W Z;go_wp2;go_quiet (fail);go_wp2
           go_ret3
           rw [HF.out];exact ⟨rfl,below_drewN ag.out _⟩
         ·obtain rfl:k=j+1:=by omega
          have HE:Hid (enc V=segL bs p (j+1)):=by
           apply List.ext_getElem?;intro i;rcases Nat.lt_or_ge i (j+1) with c |c
           ·rw [HK.out i c,seg_at c]
           ·rw [List.getElem?_eq_none (by rw [N.out];exact c),List.getElem?_eq_none (by rw [seg_len Y.out];exact c)]
          have HF:Hid (nmF bs p=((V:Int),p+(j+1),true)):=nmF_seg Y.out ai HE.out;go_wp2
          go_ret3
          rw [HF.out];exact ⟨rfl,ag.out⟩
       ·have aB:¬((L6:Int)=(j:Int)+1):=by omega
        have HF:Hid (nmF bs p=(0,0,false)):=nmF_no J.out fun m h1 h2=>hL (by
         have:=am.out m h1 h2;rw [<-N.out,this]
         exact seg_len Y.out)
        clear aa U M ae hc hL;go_wp2_with (go_at_call 79;(refine (ycH V _ ai).mono ?_);(rintro e H ⟨v6,rfl,O,b6⟩);(obtain ⟨A6,c6,rfl,_,K,_⟩:=O.shape);(have T:Hid (Sl fB H H.heap.size A6 (enc V).length (enc V)):=⟨rfl,K⟩);(have L:Hid (Below w.heap.size w H):=bt HQ.out b6);(have ak:Hid (w.heap.size<=H.heap.size):=L.out.size);(rw [N.out] at T ⊢);clear O K b6)
        go_ret3
        rw [HF.out];exact ⟨rfl,L.out⟩
      ·obtain ⟨m,rfl⟩:∃k,m=k+1:=⟨m - 1,by omega⟩
       obtain rfl:q=(m:Int):=by omega
       clear hq aa U M ae hc;obtain ⟨b2,o2,y,e2,_,G,ar⟩:=(HX.out.up HQ.out af.out).2.at_ (k:=p+m) ya8;cases e2
       have aH:=J.out y (List.mem_of_getElem? G);obtain ⟨z,hz⟩:=gx (hor ((segL bs p (j+1)).drop (m+1)));have aq:=hor_rng ((segL bs p (j+1)).drop (m+1));rw [hz] at aq
       have HS:Hid (hor ((segL bs p (j+1)).drop m)=(z*128+y % 128) % 18446744073709551616):=by
        show _=_;rw [seg_drop om G,hor,hz]
       rw [hz] at ac;obtain rfl:=ac.out;have az:(0:Int)<=(m:Int):=by omega
       have aA:y.tmod 128=y % 128:=Int.tmod_eq_emod_of_nonneg om;clear G hz aj;go_wp2;go_roundw
       case rel=>
        refine ⟨m,_,by omega,rfl,rfl,?_,HQ⟩;show _=_;rw [HS.out,IntKind.wrap_u64,IntKind.wrap_u64]
        congr 1
        omega
       case measure=>simp [intOf]
  ·have HF:Hid (nmF bs p=(0,0,false)):=nmF_no J.out fun m h1 h2=>at_no HJ.out (.inl om) h1 h2;have M:¬(j:Int)+1<=10:=by omega
   go_wp2
   go_ret3
   rw [HF.out];exact ⟨rfl,HR.out⟩
