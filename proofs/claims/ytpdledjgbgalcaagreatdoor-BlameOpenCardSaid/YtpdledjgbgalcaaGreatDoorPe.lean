import Derived.Test.YtpdledjgbgalcaaGreatDoorRows
import Derived.Test.YtpdledjgbgalcaaGreatDoorPa
import Derived.Test.YtpdledjgbgalcaaGreatDoorMb
namespace Go.Proofs.YtpdledjgbgalcaaGreatDoor
set_option maxRecDepth 20000
set_option maxHeartbeats 1000000
open Go.RowKit Go.Proofs.Tryz
set_option linter.unusedVariables false
set_option linter.unusedSimpArgs false
def inR (x:Int):Bool:=decide (0<=x)&&decide (x<=1099511627776)
def ybs (xs:List Int):Bool:=xs.all inR&&decide (xs.length<=12)
theorem inR_neg {x:Int} (h:x < 0):inR x=false:=by simp [inR];omega
theorem inR_big {x:Int} (h:1099511627776 < x):inR x=false:=by simp [inR];omega
theorem inR_ok {x:Int} (h:0<=x) (h':x<=1099511627776):inR x=true:=by simp [inR,h,h']
theorem all_false_of {α:Type} {p:α->Bool} {xs:List α} {k:Nat} {x:α} (h:xs[k]? =some x) (hn:p x=false):xs.all p=false:=by
 rw [List.all_eq_false];exact ⟨x,List.mem_of_getElem? h,by simp [hn]⟩
theorem isNaN_any (a:Int) (w:World):Calls prog 259 #[.int .i64 a] w fun e w'=>e= .returned (.bool false)/\w=w':=by
 go_enter func259,ntmps259;go_wp2;go_ret;exact ⟨ybg sI,rfl⟩
theorem less_any (a b:Int) (w:World):Calls prog 226 #[.int .i64 a,.int .i64 b] w fun e G=>e= .returned (.bool (decide (a < b)))/\w=G:=by
 go_enter func226,ntmps226;go_wp2_with (go_at_call 259;refine (isNaN_any _ _).mono ?_;rintro e G ⟨rfl,rfl⟩);go_ret;exact ⟨rfl,rfl⟩
theorem bad_any (a:Int) (w:World):Calls prog 196 #[.int .i64 a] w fun e G=>e= .returned (.bool (!inR a))/\w=G:=by
 by_cases h0:a < 0
 ·have HF:=lh (inR_neg h0);go_enter func196,ntmps196;go_wp2;go_ret;exact ⟨ybg (by simp [HF.out]),rfl⟩
 ·by_cases h1:(1099511627776:Int) < a
  ·have HF:=lh (inR_big h1);go_enter func196,ntmps196;go_wp2;go_ret;exact ⟨ybg (by simp [HF.out]),rfl⟩
  ·have H:=lh (inR_ok (x:=a) om om);go_enter func196,ntmps196;go_wp2;go_ret;exact ⟨ybg (by simp [H.out]),rfl⟩
def IdxPost (xs:List Int) (w:World) (e:Ending) (w':World):Prop:=∃r:Int,e= .returned (.int .i64 r)/\decide (0<=r)= !(xs.all inR)/\w=w'
theorem index_any (A:Option Addr) (xs:List Int) (c:Nat) (w:World) (B:Nat) (L:SL I w B A xs) (hl:xs.length<=4611686018427387904):
 Calls prog 241 #[.slice A xs.length c,.func (.func 196) #[] #[]] w (IdxPost xs w):=by
 go_enter func241,ntmps241;go_wp2
 go_loop [8] (fun i=>∃k:Nat,k<=xs.length/\i= .int .i64 k/\(xs.take k).all inR=true) (fun i=>xs.length - (intOf i).toNat)
 case atStart=>exact ⟨0,Nat.zero_le _,rfl,by simp⟩
 case round=>
  obtain ⟨k,T,rfl,G⟩:=hrel;have H:=lh G;clear G
  by_cases hlt:k < xs.length
  ·obtain ⟨b,O,x,rfl,_,J,N⟩:=L.at_ hlt;have K:=lh J;clear J
   by_cases h0:inR x=true
   ·go_wp2_with (go_at_call 196;refine (bad_any _ _).mono ?_;rintro e M ⟨rfl,rfl⟩)
    go_round
    case rel=>exact ⟨k+1,by omega,by go_num,by rw [ybq K.out,List.all_append,H.out];simp [h0]⟩
    case measure=>simp [intOf];omega
   ·have h1:inR x=false:=by simpa using h0
    clear h0
    have HF:Hid (xs.all inR=false):=by
     exact all_false_of K.out h1
    go_wp2_with (go_at_call 196;refine (bad_any _ _).mono ?_;rintro e M ⟨rfl,rfl⟩)
    go_ret;exact ⟨_,rfl,by rw [HF.out];simp,rfl⟩
  ·go_wp2;go_ret;exact ⟨_,rfl,by have h1:=H.out;rw [List.take_of_length_le om] at h1;rw [h1];simp,rfl⟩
theorem contains_any (A:Option Addr) (xs:List Int) (c:Nat) (w:World) (B:Nat) (H:SL I w B A xs) (hl:xs.length<=4611686018427387904):
 Calls prog 195 #[.slice A xs.length c,.func (.func 196) #[] #[]] w fun e G=>e= .returned (.bool (!(xs.all inR)))/\w=G:=by
 go_enter func195,ntmps195;go_wp2_with (go_at_call 241;refine (index_any _ _ _ _ B H hl).mono ?_;rintro e G ⟨r,rfl,hr,rfl⟩;have HR:=lh hr;clear hr);go_ret;exact ⟨ybg HR.out,rfl⟩
theorem ydC (A:Option Addr) (xs:List Int) (c:Nat) (w:World) (B:Nat) (H:SL I w B A xs) (hl:xs.length<=4611686018427387904):
 Calls prog 143 #[.slice A xs.length c] w fun e G=>e= .returned (.bool (ybs xs))/\w=G:=by
 by_cases h:xs.length<=12
 ·go_enter func143,ntmps143;go_wp2_with (go_at_call 195;refine (contains_any _ _ _ _ B H hl).mono ?_;rintro e G ⟨rfl,rfl⟩);go_ret;exact ⟨ybg (by simp [ybs,h]),rfl⟩
 ·go_enter func143,ntmps143;go_wp2;go_ret;exact ⟨ybg (by simp [ybs];omega),rfl⟩
def av (x:List Int):Array Value:=(x.map I).toArray
theorem av_get {x:List Int} {k:Nat} (h:k < x.length):(av x)[k]? =some (.int .i64 (x.getD k 0)):=by simp [av,h]
theorem av_size (x:List Int):(av x).size=x.length:=by simp [av]
def Row12 (w:World) (g:Nat) (x:List Int):Prop:=∀k,k < 12->w.cell? ⟨g,k,none⟩=some (.int .i64 (x.getD k 0))
theorem Row12.of_block {w:World} {g:Nat} {x:List Int} {fr:Nat × Nat} {t:TypeId} (G:x.length=12) (h:w.heap[g]? =some (.cells (av x) t fr)):Row12 w g x:=fun k H=>by
 rw [cell_of_row w g k _ _ _ h,av_get om]
theorem Tryz.size3:(prog.info? 3).map (·.size)=some 1:=by kernel_rfl
theorem Tryz.size57:(prog.info? 212).map (·.size)=some 12:=by kernel_rfl
theorem Tryz.info3:(prog.info? 3).map (fun i=>(i.zero,i.size,i.bytes))=some (some (.int .i64 0),1,8):=by kernel_rfl
abbrev Z12:List Value:=[.int .i64 0,.int .i64 0,.int .i64 0,.int .i64 0,.int .i64 0,.int .i64 0,.int .i64 0,.int .i64 0,.int .i64 0,.int .i64 0,.int .i64 0,.int .i64 0]
def pad (xs:List Int):List Int:=xs++List.replicate (12 - xs.length) 0
theorem pad_len {xs:List Int} (h:xs.length<=12):(pad xs).length=12:=by simp [pad];omega
theorem splice_pad {xs:List Int} (G:xs.length<=12):splice Z12 0 (xs.map I)=(pad xs).map I:=by
 have e:splice Z12 0 (xs.map I)=xs.map I++Z12.drop xs.length:=by simp only [splice,List.take_zero,List.nil_append,Nat.zero_add,List.length_map]
 rw [e,show Z12=List.replicate 12 (Value.int .i64 0) from rfl,List.drop_replicate];simp [pad]
theorem av_one (xs:List Int):(av xs).all (·.oneCell')=true:=all_oneCell_toArray fun v hv=>by obtain ⟨y,_,rfl⟩:=List.mem_map.1 hv;rfl
theorem I_one (xs:List Int):∀v∈xs.map I,v.oneCell'=true:=fun v hv=>by obtain ⟨y,_,rfl⟩:=List.mem_map.1 hv;rfl
theorem padded_yes (A:Option Addr) (n:Nat) (xs:List Int) (c:Nat) (w:World) (B:Nat) (K:Sl I w B A n xs) (T:B<=w.heap.size) (Z:ybs xs=true):
 Calls prog 133 #[.slice A n c] w fun e U=>e= .returned (.tuple #[.agg (av (pad xs)),.bool true])/\Below w.heap.size w U:=by
 obtain ⟨rfl,K⟩:=K;have hl:xs.length<=12:=by simp [ybs] at Z;exact Z.2
 have G:Below w.heap.size w ((w.alloc (.cells Z12.toArray 212)).alloc (.cells Z12.toArray 212)):=bl.alloc sI _;have HX:=lh (K.up G T);have H:=lh G;have HC:=lh (splice_pad hl);have L:Hid ((prog.info? 212).map (·.size)=some (av (pad xs)).size):=by show _=_;rw [av_size,pad_len hl];exact Tryz.size57
 have O:Hid (Z12.toArray.size=(av (pad xs)).size):=by show _=_;rw [av_size,pad_len hl];rfl
 have z:Hid ((xs.map I).length=Nat.min xs.length 12):=by show _=min _ _;simp;omega
 have HF:Hid (0+(xs.map I).length<=Z12.length):=by show _<=_;simp;omega
 have HP:Hid (0 < (xs.map I).length->∃ad,A=some ad/\∀j v,(xs.map I)[j]? =some v->((w.alloc (.cells Z12.toArray 212)).alloc (.cells Z12.toArray 212)).cell? (ad.add j)=some v):=
  fun h=>(K.up G T).cells h
 clear G;go_enter func133,ntmps133
 go_wp2_with (first
  |(go_at_call 143;refine (ydC _ _ _ _ B HX.out om).mono ?_;rintro e U ⟨rfl,rfl⟩)
  |(with_reducible refine wpList_copy_splice (o:=⟨some 11,_,_,_,_,_⟩) rfl (.tmp 9) (.tmp 10) 27 27 rfl 3 underlying27 Tryz.size3 _ _ _ _ _ _ rfl rfl (w.heap.size+1) 0 Z12 212 (heap_alloc2_new _ _ _) (xs.map I) z.out (fun h=>⟨rfl,HP.out h⟩) HF.out (I_one xs) (w.heap.size+1) _ bR nl ?_
    intro w1 Y J;have M:Hid (w1.heap[w.heap.size+1]? =some (.cells (av (pad xs)) 212 (0,0))):=by have h:=Y.out;rw [HC.out] at h;exact h
    have N:Hid (w1.heap[w.heap.size]? =some (.cells Z12.toArray 212 (0,0))):=(J.block w.heap.size om).trans (heap_alloc2_old w _ _);have HB1:Hid (Below w.heap.size w w1):=H.out.trans (J.mono om)
    clear Y J)
  |(with_reducible refine wpList_load_row (o:=⟨some 12,_,_,_,_,_⟩) rfl 212 (.tmp 4) rfl (w.heap.size+1) rfl 212 (av (pad xs)) (0,0) _ M.out underlying212 rfl L.out ?_)
  |(with_reducible refine ydW (o:=⟨none,_,_,_,_,_⟩) rfl 212 (.tmp 2) (.tmp 12) rfl w.heap.size 212 _ (av (pad xs)) rfl rfl N.out L.out O.out (av_one _) w.heap.size _ HB1.out nl ?_
    intro w2 W H _))
 go_goals
 exact bodyPost_ret (ydQ rfl rfl W.out underlying212 L.out) rfl ⟨rfl,H⟩
theorem padded_no (A:Option Addr) (n:Nat) (xs:List Int) (c:Nat) (w:World) (B:Nat) (H:Sl I w B A n xs) (K:B<=w.heap.size) (hl:n<=4611686018427387904) (M:ybs xs=false):
 Calls prog 133 #[.slice A n c] w fun e J=>e= .returned (.tuple #[.agg Z12.toArray,.bool false])/\Below w.heap.size w J:=by
 obtain ⟨rfl,H⟩:=H;have G:Below w.heap.size w ((w.alloc (.cells Z12.toArray 212)).alloc (.cells Z12.toArray 212)):=bl.alloc sI _;have L:=lh (H.up G K);clear G;go_enter func133,ntmps133;go_wp2_with (go_at_call 143;refine (ydC _ _ _ _ B L.out hl).mono ?_;rintro e J ⟨rfl,rfl⟩);exact bodyPost_ret (ydQ rfl rfl (heap_alloc2_old w _ _) underlying212 Tryz.size57) rfl ⟨rfl,bl.alloc sI _⟩
abbrev Z0:List Int:=[0,0,0,0,0,0,0,0,0,0,0,0]
def pd (xs:List Int):List Int:=if ybs xs=true then pad xs else Z0
theorem pd_len (xs:List Int):(pd xs).length=12:=by
 unfold pd;split
 ·rename_i h;exact pad_len (by simp [ybs] at h;exact h.2)
 ·rfl
theorem pd_size57 (xs:List Int):(prog.info? 212).map (·.size)=some (av (pd xs)).size:=by rw [av_size,pd_len];exact Tryz.size57
theorem pd_sizeZ (xs:List Int):Z12.toArray.size=(av (pd xs)).size:=by rw [av_size,pd_len];rfl
theorem padded_any (A:Option Addr) (n:Nat) (xs:List Int) (c:Nat) (w:World) (B:Nat) (G:Sl I w B A n xs) (H:B<=w.heap.size) (hl:n<=1000000):
 Calls prog 133 #[.slice A n c] w fun e K=>e= .returned (.tuple #[.agg (av (pd xs)),.bool (ybs xs)])/\Below w.heap.size w K:=by
 by_cases h:ybs xs=true
 ·rw [pd,if_pos h,h];exact padded_yes A n xs c w B G H h
 ·have J:ybs xs=false:=by simpa using h
  rw [pd,if_neg h,J];exact padded_no A n xs c w B G H om J
theorem clone_any (b G n:Nat) (xs:List Int) (c:Nat) (w:World) (B:Nat) (L:Sl I w B (some ⟨b,G,none⟩) n xs) (hB:B<=w.heap.size) (hl:n<=1000000):
 Calls prog 190 #[.slice (some ⟨b,G,none⟩) n c] w (Slc I xs w):=by
 obtain ⟨rfl,L⟩:=L;have J:Below w.heap.size w (w.alloc (.cells #[] 3)):=bl;have HX:=lh (L.up J hB);have HO:Hid (Own I 3 (w.alloc (.cells #[] 3)) w.heap.size (.slice (some ⟨w.heap.size,0,none⟩) 0 0) []):=World.ownsRow_lit w #[] 0 nl ya5 rfl;have H:=lh J;clear J;have M:Hid ((([]:List Int).length+xs.length)*8<=140737488355328):=by show _<=_;simp;omega
 have O:Hid (([]:List Int).length+xs.length<=maxLen):=by show _<=_;simp [maxLen];omega
 have aa:=Lib.run_eql_slice_nil (P:=prog) w 27 3 (some ⟨b,G,none⟩) xs.length c 0 0 underlying27;obtain ⟨i0,hi,N,Y,z⟩:=info_parts Tryz.info3;go_enter func190,ntmps190;go_wp2_with (with_reducible refine ybD (o:=⟨some 7,_,_,_,_,_⟩) rfl (.tmp 5) (.tmp 6) 27 rfl 3 i0 (.int .i64 0) 8 underlying27 hi N Y z rfl (.slice (some ⟨w.heap.size,0,none⟩) 0 0) [] w.heap.size rfl HO.out _ _ _ B xs rfl HX.out.sl I1 M.out O.out H.out.size ?_;intro v1 w1 U W _);have K:=U.out;rw [List.nil_append] at K;obtain ⟨A',c',rfl,T,Z,_⟩:=K.shape;go_ret;exact ⟨A',_,c',rfl,T,Z.sl,H.out.trans (ybe W.out (by simp [Value.ownBlock]) H.out.size)⟩
def nlen (x:List Int):Nat->Nat
 |0=>0
 |n+1=>if x.getD n 0=0 then nlen x n else n+1
def nrm (x:List Int):List Int:=x.take (nlen x x.length)
theorem nlen_le (x:List Int) (n:Nat):nlen x n<=n:=by
 induction n with
 |zero=>exact Nat.le_refl _
 |succ n ih=>unfold nlen;split<;>omega
theorem normal_any (x:List Int) (w:World) (O:x.length=12):
 Calls prog 134 #[.agg (av x)] w (Slc I (nrm x) w):=by
 have W:Hid (At I (w.alloc (.cells (av x) 212)) w.heap.size 0 x):=At.of_block (zy w _);have HB:Hid (Below w.heap.size w (w.alloc (.cells (av x) 212))):=bl;have J:=lh O;clear O;obtain ⟨Y,hi,Z,M,T⟩:=info_parts Tryz.info3;clear Z M T;go_enter func134,ntmps134;go_wp2
 go_loop [3] (fun i=>∃n:Nat,n<=12/\i= .int .i64 n/\nlen x n=nlen x 12) (fun i=>(intOf i).toNat)
 case atStart=>exact ⟨12,Nat.le_refl _,rfl,rfl⟩
 case round=>
  obtain ⟨n,hn,rfl,K⟩:=hrel;have HN:=lh K;clear K
  by_cases H:0 < n/\x.getD (n - 1) 0=0
  ·obtain ⟨m,rfl⟩:∃m,n=m+1:=⟨n - 1,by omega⟩
   have G:x[m]? =some 0:=by
    obtain ⟨z,G⟩:=ybM (xs:=x) (k:=m) (by rw [J.out];omega);have:=H.2;rw [Nat.add_sub_cancel,ybw G] at this;rw [G,this]
   have hc:=W.out.zero G
   have aa:Hid (nlen x m=nlen x 12):=by
    rw [<-HN.out];show _=nlen x (m+1);rw [nlen,ybw G,if_pos rfl]
   clear H G;go_wp2;go_round;case rel=>exact ⟨m,by omega,by go_num,aa.out⟩
   case measure=>simp [intOf]
  ·have HE:Hid (nrm x=x.take n):=by
    show nrm x=_;rw [nrm,J.out,<-HN.out]
    cases n with
    |zero=>rfl
    |succ m=>rw [nlen,if_neg (fun h=>H ⟨by omega,by simpa using h⟩)]
   have L:Hid (Sl I (w.alloc (.cells (av x) 212)) (w.heap.size+1) (some ⟨w.heap.size,0,none⟩) n (x.take n)):=
    ⟨by rw [List.length_take,J.out];omega,(SL.of_block (zy w _) (Nat.lt_succ_self _)).take_ n⟩
   by_cases h0:n=0
   ·subst h0;clear H;have U:=ydg (P:=prog) 212 3 12 Y underlying212 hi w.heap.size 0 .i64 0 0 rfl hn (w.alloc (.cells (av x) 212));go_wp2_with (go_at_call 190;refine (clone_any _ _ _ (x.take 0) _ _ _ L.out sI om).mono ?_;rintro e w' ⟨A,r,c,rfl,h1,h2,N⟩);go_ret;exact ⟨A,r,c,rfl,h1,by rw [HE.out];exact h2,HB.out.trans (N.mono sI)⟩
   ·obtain ⟨m,rfl⟩:∃m,n=m+1:=⟨n - 1,by omega⟩
    obtain ⟨z,G⟩:=ybM (xs:=x) (k:=m) (by rw [J.out];omega);have hc:=W.out.zero G
    have M:(z==0)=false:=by
     have:¬z=0:=fun e=>H ⟨by omega,by rw [Nat.add_sub_cancel,ybw G,e]⟩;simpa using this
    have U:=ydg (P:=prog) 212 3 12 Y underlying212 hi w.heap.size 0 .i64 ((m:Int)+1) (m+1) om hn (w.alloc (.cells (av x) 212));clear H h0 G;go_wp2_with (go_at_call 190;refine (clone_any _ _ _ (x.take (m+1)) _ _ _ L.out sI om).mono ?_;rintro e w' ⟨A,r,c,rfl,h1,h2,N⟩);go_ret;exact ⟨A,r,c,rfl,h1,by rw [HE.out];exact h2,HB.out.trans (N.mono sI)⟩
def gv (xs:List Int) (d:Int):Int:=if d < 0 then 0 else xs.getD d.toNat 0
theorem ints_any (A U:Option Addr) (n T:Nat) (xs ys:List Int) (c Z:Nat) (w:World) (B:Nat) (J:Sl I w B A n xs) (K:Sl I w B U T ys) (hl:n<=1000000) (ah:T<=1000000):
 Calls prog 23 #[.slice A n c,.slice U T Z] w fun e w'=>e= .returned (.bool (decide (xs=ys)))/\∃r,w'=w.drewN r:=by
 obtain ⟨rfl,J⟩:=J;obtain ⟨rfl,K⟩:=K;have z:=lh J;have Y:=lh K;clear J K
 by_cases H:xs.length=ys.length
 ·have HE:=lh H;have hd:((xs.length:Int) != (ys.length:Int))=false:=by simp;omega
  have af:xs.length<=ys.length:=by omega
  clear H;go_enter func23,ntmps23;go_wp2
  go_loopw [5] (fun i wr=>∃k:Nat,k<=xs.length/\i= .int .i64 k/\Hid (xs.take k=ys.take k)/\Hid (∃r,wr=w.drewN r)) (fun i _=>xs.length - (intOf i).toNat)
  case atStart=>exact ⟨0,by omega,rfl,by show _=_;simp,⟨0,rfl⟩⟩
  case round=>
   obtain ⟨k,hk,rfl,W,HR⟩:=hrel;obtain ⟨r,hr⟩:=HR.out;subst hr;clear HR
   by_cases hlt:k < xs.length
   ·obtain ⟨b,ae,x,rfl,_,O,hc⟩:=z.out.at_ (k:=k) om;obtain ⟨b',aa,y,rfl,_,M,ag⟩:=Y.out.at_ (k:=k) om;have ac:k < ys.length:=by omega
    have N:=lh O;have L:=lh M;clear O M
    by_cases G:x=y
    ·subst G;have hb:(x != x)=false:=by simp
     go_wp2;go_quiet (fail);go_wp2;go_roundw;case rel=>exact ⟨k+1,by omega,by go_num,by show _=_;rw [ybq N.out,ybq L.out,W.out],_,rfl⟩
     case measure=>simp [intOf];omega
    ·have hb:(x != y)=true:=by simpa using G
     have HF:Hid (decide (xs=ys)=false):=by
      show _=_;simp only [decide_eq_false_iff_not];rintro rfl;have:=N.out.symm.trans L.out;simp at this;exact G this
     clear G;go_wp2;go_quiet (fail);go_wp2;go_ret;exact ⟨ybg HF.out.symm,_,World.drewN_drewN _ _ _⟩
   ·have HF:Hid (decide (xs=ys)=true):=by
     show _=_;have:=W.out;rw [List.take_of_length_le om,List.take_of_length_le (by have:=HE.out;omega)] at this;simpa using this
    go_wp2;go_ret;exact ⟨ybg HF.out.symm,_,rfl⟩
 ·have HF:Hid (decide (xs=ys)=false):=by
   show _=_;simp only [decide_eq_false_iff_not];rintro rfl;exact H rfl
  have hd:((xs.length:Int) != (ys.length:Int))=true:=by simp;omega
  clear H;go_enter func23,ntmps23;go_wp2;go_ret;exact ⟨ybg HF.out.symm,0,rfl⟩
theorem nlen_pad (xs:List Int):∀m,xs.length+m<=(pad xs).length->nlen (pad xs) (xs.length+m)=nlen xs xs.length:=by
 have G:∀k,(pad xs).getD k 0=xs.getD k 0:=by
  intro k;simp only [pad,List.getD_eq_getElem?_getD,List.getElem?_append]
  split
  ·rfl
  ·rename_i h
   rw [List.getElem?_eq_none (l:=xs) om];simp only [List.getElem?_replicate]
   split<;>rfl
 have hn:∀k,nlen (pad xs) k=nlen xs k:=by
  intro k
  induction k with
  |zero=>rfl
  |succ k ih=>rw [nlen,nlen,G,ih]
 intro m
 induction m with
 |zero=>intro _;rw [Nat.add_zero,hn]
 |succ m ih=>
  intro h;rw [<-Nat.add_assoc,nlen,if_pos,ih om];rw [G,List.getD_eq_getElem?_getD,List.getElem?_eq_none om];rfl
theorem nrm_pad {xs:List Int} (h:xs.length<=12):nrm (pad xs)=nrm xs:=by
 have h1:=nlen_pad xs (12 - xs.length) (by rw [pad_len h];omega);have h2:xs.length+(12 - xs.length)=12:=by omega
 rw [h2] at h1;rw [nrm,nrm,pad_len h,h1,pad,List.take_append_of_le_length (nlen_le _ _)]
theorem pd_yes {xs:List Int} (h:ybs xs=true):pd xs=pad xs:=if_pos h
theorem valid_len {xs:List Int} (h:ybs xs=true):xs.length<=12:=by simp [ybs] at h;exact h.2
theorem inR_getD {x:List Int} (h:x.all inR=true) (k:Nat):0<=x.getD k 0/\x.getD k 0<=1099511627776:=by
 rcases Nat.lt_or_ge k x.length with G |G
 ·obtain ⟨z,H⟩:=ybM G;rw [ybw H];have:=List.all_eq_true.1 h z (List.mem_of_getElem? H);simpa [inR] using this
 ·rw [List.getD_eq_getElem?_getD,List.getElem?_eq_none G];decide
theorem pad_inR {xs:List Int} (h:ybs xs=true):(pad xs).all inR=true:=by
 simp only [ybs,Bool.and_eq_true] at h;rw [pad,List.all_append,h.1,Bool.true_and,List.all_eq_true];intro z G;rw [List.eq_of_mem_replicate G];rfl
theorem getD_out {x:List Int} {k:Nat} (h:x.length<=k):x.getD k 0=0:=by rw [List.getD_eq_getElem?_getD,List.getElem?_eq_none h];rfl
theorem nlen_congr {x y:List Int} (h:∀j,x.getD j 0=y.getD j 0) (n:Nat):nlen x n=nlen y n:=by
 induction n with
 |zero=>rfl
 |succ n ih=>rw [nlen,nlen,h,ih]
theorem nlen_out (x:List Int) (m:Nat):nlen x (x.length+m)=nlen x x.length:=by
 induction m with
 |zero=>rfl
 |succ m ih=>rw [<-Nat.add_assoc,nlen,if_pos (getD_out om),ih]
theorem nlen_len (x:List Int) (n:Nat):nlen x n<=x.length:=by
 rcases Nat.lt_or_ge x.length n with h |h
 ·obtain ⟨m,rfl⟩:∃m,n=x.length+m:=⟨n - x.length,by omega⟩
  rw [nlen_out];exact nlen_le _ _
 ·exact lT (nlen_le _ _) h
theorem take_congr {x y:List Int} (h:∀j,x.getD j 0=y.getD j 0) {n:Nat} (H:n<=x.length) (J:n<=y.length):x.take n=y.take n:=by
 apply List.ext_getElem?;intro j;rw [List.getElem?_take,List.getElem?_take]
 split
 ·rename_i hj
  obtain ⟨a,ha⟩:=ybM (xs:=x) (k:=j) om;obtain ⟨b,G⟩:=ybM (xs:=y) (k:=j) om;have:=h j;rw [ybw ha,ybw G] at this;rw [ha,G,this]
 ·rfl
theorem nrm_congr {x y:List Int} (h:∀j,x.getD j 0=y.getD j 0):nrm x=nrm y:=by
 have e:nlen x x.length=nlen y y.length:=by
  have h1:=nlen_out x y.length;have h2:=nlen_out y x.length;rw [<-h1,<-h2,nlen_congr h,Nat.add_comm]
 rw [nrm,nrm,e];exact take_congr h (by rw [<-e];exact nlen_len _ _) (nlen_len _ _)
theorem nlen_zero {x:List Int} {n j:Nat} (h1:nlen x n<=j) (h2:j < n):x.getD j 0=0:=by
 induction n with
 |zero=>omega
 |succ n ih=>
  rw [nlen] at h1
  split at h1
  ·rename_i h0
   by_cases hj:j=n
   ·rw [hj,h0]
   ·exact ih h1 om
  ·omega
theorem nrm_getD (x:List Int) (j:Nat):(nrm x).getD j 0=x.getD j 0:=by
 rw [nrm,List.getD_eq_getElem?_getD,List.getElem?_take]
 split
 ·rw [List.getD_eq_getElem?_getD]
 ·rename_i h
  rcases Nat.lt_or_ge j x.length with hj |hj
  ·rw [nlen_zero (x:=x) (n:=x.length) om hj];rfl
  ·rw [getD_out hj];rfl
theorem nrm_nrm (x:List Int):nrm (nrm x)=nrm x:=nrm_congr (nrm_getD x)
theorem valid_of_getD {x:List Int} (hl:x.length<=12) (h:∀j,0<=x.getD j 0/\x.getD j 0<=1099511627776):ybs x=true:=by
 simp only [ybs,Bool.and_eq_true,decide_eq_true_eq];refine ⟨List.all_eq_true.2 fun z G=>?_,hl⟩;obtain ⟨j,hj,rfl⟩:=List.mem_iff_getElem.1 G;have:=h j;rw [ybw (List.getElem?_eq_getElem hj)] at this;simp [inR,this]
theorem valid_getD {x:List Int} (h:ybs x=true) (k:Nat):0<=x.getD k 0/\x.getD k 0<=1099511627776:=inR_getD (by simp only [ybs,Bool.and_eq_true] at h;exact h.1) k
def encL (xs:List Int):List Int:=xs.flatMap fun x=>enc x.toNat
def encV (xs:List Int):List Int:=enc (nrm xs).length++encL (nrm xs)
theorem encL_len (xs:List Int):(encL xs).length<=10*xs.length:=by
 induction xs with
 |nil=>simp [encL]
 |cons x xs ih=>
  have:=ybm x.toNat;simp only [encL,List.flatMap_cons,List.length_append,List.length_cons] at ih ⊢;omega
theorem encL_snoc (xs:List Int) (x:Int):encL (xs++[x])=encL xs++enc x.toNat:=by simp [encL]
theorem nrm_inR {xs:List Int} (h:xs.all inR=true):(nrm xs).all inR=true:=by
 rw [List.all_eq_true] at h ⊢;exact fun z hz=>h z (List.mem_of_mem_take hz)
theorem nrm_len (xs:List Int):(nrm xs).length<=xs.length:=by rw [nrm,List.length_take];omega
def EncPost (xs:List Int) (w:World) (e:Ending) (w':World):Prop:=
 (ybs xs=true/\Slc2 fB (encV xs) 0 w e w')∨(ybs xs=false/\Slc2 fB ([]:List Int) 1 w e w')
theorem encode_any (A:Option Addr) (n:Nat) (xs:List Int) (c:Nat) (w:World) (B:Nat) (hx:Sl I w B A n xs) (hB:B<=w.heap.size) (hl:n<=1000000):
 Calls prog 69 #[.slice A n c] w (EncPost xs w):=by
 have HX:=lh hx;clear hx;obtain ⟨G,L⟩:∃p,p=pd xs:=⟨_,rfl⟩
 have c1:Hid (∀W,Sl I W B A n xs->B<=W.heap.size->Calls prog 133 #[.slice A n c] W fun e w'=>e= .returned (.tuple #[.agg (av G),.bool (ybs xs)])/\Below W.heap.size W w'):=fun W h hb=>by rw [L];exact padded_any A n xs c W B h hb hl
 have S1:Hid ((prog.info? 212).map (·.size)=some (av G).size):=L▸pd_size57 xs;have T1:Hid (Z12.toArray.size=(av G).size):=L▸pd_sizeZ xs;have L1:Hid (G.length=12):=L▸pd_len xs;have ag:=lh L;clear L
 by_cases N:ybs xs=true
 ·have HN:Hid (nrm G=nrm xs):=by show _=_;rw [ag.out,pd_yes N,nrm_pad (valid_len N)]
  have aj:Hid ((nrm G).all inR=true):=nrm_inR (by rw [ag.out,pd_yes N];exact pad_inR N);have ao:Hid ((nrm G).length<=12):=by show _<=_;have:=nrm_len G;have:=L1.out;omega
  have HV:=lh N;go_enter func69,ntmps69;go_wp2_with fail;refine (c1.out _ HX.out hB).mono ?_;rintro e w1 ⟨rfl,K⟩;have HB1:=lh K;have T:=K.size;clear K
  go_wp2_with (first
   |(with_reducible refine ybl (o:=⟨none,.store 212 (.tmp 4) (.tmp 13),_,_,_,_⟩) rfl 212 (.tmp 4) (.tmp 13) rfl 212 Z12.toArray (av G) rfl rfl S1.out T1.out (av_one _) ?_)
   |(with_reducible refine wpList_load_row (o:=⟨some 17,_,_,_,_,_⟩) rfl 212 (.tmp 4) rfl w1.heap.size rfl 212 (av G) (0,0) _ (zy w1 _) underlying212 rfl S1.out ?_)
   |(go_at_call 134;refine (normal_any _ _ L1.out).mono ?_;rintro e H ⟨A2,J,c2,rfl,h1,h2,z⟩
     have H2:=lh h2;have ac:Hid (Below w.heap.size w H):=(HB1.out.alloc T _).trans (z.mono yba);have aq:=ac.out.size;have ax:J<=12:=by rw [<-h2.1];exact ao.out
     have U:Hid ((nrm G).length=J):=h2.1
     clear h2 z)
   |(go_at_call 72;refine (ycE _).mono ?_;rintro e w3 ⟨rfl,rfl⟩)
   |(go_at_call 76;refine (wcount_any H.heap.size (H.heap.size+1) _ [] J _ (Wr.new H) om sI).mono ?_;rintro e w4 ⟨v4,rfl,Z,ah,ap⟩
     have HW4:Hid (Wr w4 H.heap.size (H.heap.size+1) v4 (enc J)):=by have h:=Z;rw [List.nil_append] at h;exact h
     have aa:Hid (Below H.heap.size H w4):=bl.trans (ah.below sI fun i hi=>by
      rcases hi with rfl |hi
      ·exact Nat.le_refl _
      ·simp [Value.ownBlock] at hi)
     clear Z ah ap))
  go_loopw [26] (fun i wr=>∃(k:Nat) (v:Value),k<=J/\i= .int .i64 k/\Hid (Wr wr H.heap.size (H.heap.size+1) v (enc J++encL ((nrm G).take k)))/\Hid (Below H.heap.size H wr)) (fun i _=>J - (intOf i).toNat)
  case atStart=>exact ⟨0,v4,by omega,rfl,by show Wr _ _ _ _ _;rw [List.take_zero];simp only [encL,List.flatMap_nil,List.append_nil];exact HW4.out,aa⟩
  case round=>
   obtain ⟨k,v,hk,rfl,HW,M⟩:=hrel;clear HW4 aa
   have az:(enc J++encL ((nrm G).take k)).length<=130:=by
    have h1:=ybm J;have h2:=encL_len ((nrm G).take k);rw [List.length_append];rw [List.length_take] at h2;omega
   by_cases hlt:k < J
   ·obtain ⟨b,ay,x,rfl,_,Y,hc⟩:=SL.at_ (H2.out.up M.out nl).2 (k:=k) (by rw [U.out];exact hlt);have ae:=List.all_eq_true.1 aj.out x (List.mem_of_getElem? Y);simp only [inR,Bool.and_eq_true,decide_eq_true_eq] at ae;obtain ⟨m,rfl⟩:∃m:Nat,x=m:=⟨x.toNat,by omega⟩
    have hm:m<=1099511627776:=by omega
    have HT:Hid (enc J++encL ((nrm G).take (k+1))=(enc J++encL ((nrm G).take k))++enc m):=by
     show _=_;rw [ybq Y,encL_snoc,Int.toNat_natCast,List.append_assoc]
    have HC:=lh (ybX H.heap.size (H.heap.size+1) v _ m wr HW.out om om);have au:=HW;clear Y ae
    go_wp2_with (first
     |(go_at_call 73;refine HC.out.mono ?_;rintro e w5 ⟨v5,rfl,O,af,aw⟩
       have am:=lh O
       have ai:Hid (Below H.heap.size wr w5):=af.below M.out.size fun i hi=>by
        rcases hi with rfl |hi
        ·exact Nat.le_refl _
        ·have:=(ol au.out.2.1 i hi).1;omega
       clear O af aw))
    go_roundw
    case rel=>exact ⟨k+1,v5,by omega,by go_num,by show Wr _ _ _ _ _;rw [HT.out];exact am.out,M.out.trans ai.out⟩
    case measure=>simp [intOf];omega
   ·obtain rfl:k=J:=by omega
    have HD:=lh (wdone_any H.heap.size (H.heap.size+1) v _ wr HW.out om)
    have ar:Hid (enc k++encL ((nrm G).take k)=encV xs):=by
     show _=_;rw [List.take_of_length_le (by have:=U.out;omega),encV,<-HN.out,U.out]
    go_wp2_with (go_at_call 78;refine HD.out.mono ?_;rintro e w6 ⟨A6,n6,c6,rfl,h1,h2,z⟩)
    go_ret2;exact .inl ⟨HV.out,A6,n6,c6,rfl,h1,by rw [<-ar.out];exact h2,ac.out.trans ((M.out.mono aq).trans (z.mono (by have:=M.out.size;omega)))⟩
 ·have ak:ybs xs=false:=by simpa using N
  have HF:=lh ak;clear N;go_enter func69,ntmps69;go_wp2_with fail;refine (c1.out _ HX.out hB).mono ?_;rintro e w1 ⟨rfl,K⟩;have HB1:=lh K;have T:=K.size;clear K;go_wp2_with (with_reducible refine ybl (o:=⟨none,.store 212 (.tmp 4) (.tmp 13),_,_,_,_⟩) rfl 212 (.tmp 4) (.tmp 13) rfl 212 Z12.toArray (av G) rfl rfl S1.out T1.out (av_one _) ?_)
  all_goals (go_ret2;exact .inr ⟨HF.out,none,0,0,rfl,Nat.le_refl _,⟨rfl,SL.nil⟩,HB1.out.alloc T _⟩)
def decT (bs:List Int) (p0:Nat) (e0:Int):Nat->List Int × Nat × Int
 |0=>([],p0,e0)
 |k+1=>
  let s:=decT bs p0 e0 k
  if s.2.2=0 then
   (if (numF bs 10 0 0 s.2.1).2.1=0 then (s.1++[IntKind.i64.wrap (numF bs 10 0 0 s.2.1).1],(numF bs 10 0 0 s.2.1).2.2,0)
    else (s.1++[0],s.2.1,(numF bs 10 0 0 s.2.1).2.1))
  else (s.1++[0],s.2.1,s.2.2)
theorem decT_len (bs:List Int) (p0:Nat) (G:Int) (k:Nat):(decT bs p0 G k).1.length=k:=by
 induction k with
 |zero=>rfl
 |succ k ih=>
  rw [decT]
  split
  ·split
   ·simp [ih]
   ·simp [ih]
  ·simp [ih]
def decN (bs:List Int):Int × Int × Nat:=limF 12 (numF bs 10 0 0 0)
def decE (bs:List Int):List Int × Nat × Int:=decT bs (if (decN bs).2.1=0 then (decN bs).2.2 else 0) (decN bs).2.1 (if (decN bs).2.1=0 then (decN bs).1.toNat else 0)
def decV (bs:List Int):Option (List Int):=
 if (decE bs).2.2=0/\¬(decE bs).2.1 < bs.length/\ybs (decE bs).1=true/\nrm (decE bs).1=(decE bs).1 then some (decE bs).1 else none
theorem OwnI.but {w M:World} {base:Nat} {e:TypeId} {v:Value} {bs:List Int} {p:Nat->Prop} (h:Own I e w base v bs) (N:But p w M) (O:∀k,base<=k->¬p k):Own I e M base v bs:=
 ⟨h.1,by
   rcases h.2 with hn |⟨J,cap,L,rfl,H,G,K⟩
   ·exact .inl hn
   ·exact .inr ⟨J,cap,L,rfl,H,(N.block J (lb G) (O J H)).trans G,K⟩⟩
theorem ruint_any' (g:Nat) (A:Option Addr) (n c p:Nat) (H er:Int) (bs:List Int) (w:World) (hr:Rd w g A n c p H er) (M:Sl fB w g A n bs) (L:∀b∈bs,0<=b/\b < 256) (hp:p<=n) (hn:n<=1000000):
 Calls prog 82 #[.pointer (some ⟨g,0,none⟩)] w fun e G=>∃(z K:Int),e= .returned (.int .u64 z)/\0<=z/\z < 18446744073709551616/\
  (∀xs:List Int,(if er=0 then (if (numF bs 10 0 0 p).2.1=0 then (xs++[IntKind.i64.wrap (numF bs 10 0 0 p).1],(numF bs 10 0 0 p).2.2,0) else (xs++[0],p,(numF bs 10 0 0 p).2.1)) else (xs++[0],p,er))=(xs++[IntKind.i64.wrap z],(if er=0 then (if (numF bs 10 0 0 p).2.1=0 then (numF bs 10 0 0 p).2.2 else p) else p),(if er=0 then (numF bs 10 0 0 p).2.1 else er)))/\
  Rd G g A n c (if er=0 then (if (numF bs 10 0 0 p).2.1=0 then (numF bs 10 0 0 p).2.2 else p) else p) K (if er=0 then (numF bs 10 0 0 p).2.1 else er)/\But (fun k=>k=g) w G:=by
 by_cases J:er=0
 ·subst J;refine (yd3 g A n c p H bs w hr M L hp hn).mono ?_;rintro e G ⟨rfl,h1,h2⟩
  by_cases h0:(numF bs 10 0 0 p).2.1=0
  ·simp only [h0,if_true] at h1 ⊢;refine ⟨_,_,rfl,ybQ _ _ _ _ _,?_,fun xs=>rfl,h1,h2⟩;obtain ⟨k,N,_,_,_,_,O⟩:=numF_only bs L 10 0 0 p _ _ rfl (show numF bs 10 0 0 p=((numF bs 10 0 0 p).1,0,(numF bs 10 0 0 p).2.2) by rw [<-h0]);rw [N];simp only [Nat.pow_zero,Nat.mul_one,Nat.zero_add] at O ⊢;omega
  ·simp only [h0,if_true,if_false] at h1 ⊢;exact ⟨0,_,rfl,by omega,by omega,fun xs=>rfl,h1,h2⟩
 ·refine (ruint_err g A n c p H er w hr J).mono ?_;rintro e G ⟨rfl,h1,h2⟩;simp only [J,if_false];exact ⟨0,H,rfl,by omega,by omega,fun xs=>rfl,h1,But.of_below h2⟩
theorem enc_mid {bs pre G post:List Int} (h:bs=pre++(G++post)) (j:Nat) (hj:j < G.length):bs[pre.length+j]? =G[j]? :=by
 rw [h,List.getElem?_append_right om,Nat.add_sub_cancel_left,List.getElem?_append_left hj]
theorem encL_app (xs ys:List Int):encL (xs++ys)=encL xs++encL ys:=by simp [encL]
theorem decT_enc (bs xs pre:List Int) (H:∀x∈xs,0<=x/\x<=1099511627776) (J:bs=pre++encL xs):∀k,k<=xs.length->
 decT bs pre.length 0 k=(xs.take k,pre.length+(encL (xs.take k)).length,0)
 |0,_=>by simp [decT,encL]
 |k+1,hk=>by
  obtain ⟨x,G⟩:=ybM (xs:=xs) (k:=k) om;obtain ⟨h0,h1⟩:=H x (List.mem_of_getElem? G)
  have hs:xs=xs.take k++([x]++xs.drop (k+1)):=by
   have h:=(List.take_append_drop (k+1) xs).symm;rw [ybq G,List.append_assoc] at h;exact h
  have L:bs=(pre++encL (xs.take k))++(enc x.toNat++encL (xs.drop (k+1))):=by
   rw [J]
   conv=>lhs;rw [hs,encL_app,encL_app]
   simp [encL]
  have hn:=yd5 bs 10 x.toNat 0 0 (pre.length+(encL (xs.take k)).length) om om om (fun j hj=>by
   have:=enc_mid L j hj
   rwa [List.length_append] at this) (.inl rfl) om
  simp only [Nat.sub_zero,Nat.pow_zero,Nat.mul_one,Nat.zero_add] at hn;have K:IntKind.i64.wrap ((x.toNat:Nat):Int)=x:=by rw [IntWalk.i64_in _ om];omega
  rw [decT,decT_enc bs xs pre H J k om];simp only [if_true,hn,K];rw [ybq G,encL_snoc,List.length_append];simp only [enc];rw [Nat.add_assoc]
theorem valid_in {xs:List Int} (h:ybs xs=true):∀x∈xs,0<=x/\x<=1099511627776:=fun x G=>by
 obtain ⟨k,H,rfl⟩:=List.getElem_of_mem G;have:=valid_getD h k;rwa [ybw (List.getElem?_eq_getElem H)] at this
theorem decV_enc (xs:List Int) (G:ybs xs=true):decV (encV xs)=some (nrm xs):=by
 have hl:(nrm xs).length<=12:=lT (nrm_len xs) (valid_len G);have J:∀x∈nrm xs,0<=x/\x<=1099511627776:=fun x K=>valid_in G x (List.mem_of_mem_take K)
 have hn:=yd5 (encV xs) 10 (nrm xs).length 0 0 0 om om om (fun j hj=>by
  have:=enc_mid (bs:=encV xs) (pre:=[]) rfl j hj
  simpa [enc] using this) (.inl rfl) om
 simp only [Nat.sub_zero,Nat.pow_zero,Nat.mul_one,Nat.zero_add] at hn
 have M:decN (encV xs)=(((nrm xs).length:Int),0,(enc (nrm xs).length).length):=by
  unfold decN;rw [hn,limF];simp only [if_true];rw [if_neg om];rfl
 have L:decE (encV xs)=(nrm xs,(enc (nrm xs).length).length+(encL (nrm xs)).length,0):=by
  rw [decE,M];simp only [if_true,Int.toNat_natCast];rw [decT_enc (encV xs) (nrm xs) (enc (nrm xs).length) J rfl _ nl,List.take_length]
 have H:ybs (nrm xs)=true:=valid_of_getD hl (fun j=>by rw [nrm_getD];exact valid_getD G j);rw [decV,L];simp only [];rw [if_pos ⟨trivial,by rw [encV,List.length_append];omega,H,nrm_nrm xs⟩]
def DecPost (bs:List Int) (w:World) (e:Ending) (w':World):Prop:=match decV bs with
 |some v=>∃A n c,e= .returned (.tuple #[.slice A n c,.int .i64 0])/\n<=c/\(Sl I w' w'.heap.size A n v/\∀t,A=some t->w.heap.size<=t.block)/\Below w.heap.size w w'
 |none=>Slc2 I ([]:List Int) 3 w e w'
theorem vvalid_n (A:Option Addr) (n:Nat) (xs:List Int) (c:Nat) (w:World) (B:Nat) (G:Sl I w B A n xs) (hl:n<=1000000):
 Calls prog 143 #[.slice A n c] w fun e H=>e= .returned (.bool (ybs xs))/\w=H:=by
 obtain ⟨rfl,G⟩:=G;exact ydC A xs c w B G om
theorem Sl.butgY {f:Int->Value} {w G:World} {g n:Nat} {A:Option Addr} {xs:List Int} (h:Sl f w g A n xs) (J:But (fun k=>k=g) w G) (L:g<=w.heap.size):Sl f G g A n xs:=⟨h.1,fun hn=>by
 obtain ⟨b,H,e,hlt,K⟩:=h.2 hn
 exact ⟨b,H,e,hlt,K.keep (J.block b om om)⟩⟩
theorem numF_leY (bs:List Int):∀(k G i p:Nat),p<=bs.length->(numF bs k G i p).2.2<=bs.length
 |0,_,_,_,h=>h
 |k+1,G,i,p,h=>by
  rw [numF]
  cases H:bs[p]? with
  |none=>exact h
  |some b=>
   have hp:=(List.getElem?_eq_some_iff.1 H).1;simp only []
   split
   ·exact numF_leY bs k _ _ _ hp
   ·split
    ·exact hp
    ·exact hp
theorem limF_placeY (m:Nat) (N:Int × Int × Nat):(limF m N).2.2=N.2.2:=by
 unfold limF
 split
 ·split<;>rfl
 ·rfl
theorem decT_le (bs:List Int) (p0:Nat) (H:Int) (hp:p0<=bs.length):∀k,(decT bs p0 H k).2.1<=bs.length
 |0=>hp
 |k+1=>by
  have G:=decT_le bs p0 H hp k;rw [decT]
  split
  ·split
   ·exact numF_leY bs _ _ _ _ G
   ·exact G
  ·exact G
theorem nrm_last {v:List Int} {m:Nat} (hl:v.length=m+1):nrm v=v↔v.getD m 0≠0:=by
 rw [nrm,hl,nlen]
 by_cases h:v.getD m 0=0
 ·rw [if_pos h];refine ⟨fun G=>?_,fun hn=>absurd h hn⟩;have:=congrArg List.length G;rw [List.length_take] at this;have:=nlen_le v m;omega
 ·rw [if_neg h,<-hl,List.take_length];exact ⟨fun _=>h,fun _=>rfl⟩
theorem decN_bd (bs:List Int):∃G:Nat,(if (decN bs).2.1=0 then (decN bs).1 else 0)=(G:Int)/\(if (decN bs).2.1=0 then (decN bs).1.toNat else 0)=G/\G<=12:=by
 have h0:=ybQ bs 10 0 0 0;unfold decN;generalize numF bs 10 0 0 0=N at*;unfold limF
 by_cases H:N.2.1=0
 ·simp only [H,if_true]
  by_cases hl:((12:Nat):Int) < N.1
  ·simp only [hl,if_true];exact ⟨0,rfl,rfl,by omega⟩
  ·simp only [hl,if_false,if_true];exact ⟨N.1.toNat,by omega,rfl,by omega⟩
 ·simp only [H,if_false];exact ⟨0,rfl,rfl,by omega⟩
theorem dec_none {bs:List Int} {vs:List Int} {ps:Nat} {es:Int} (h:decE bs=(vs,ps,es)) (hc:¬(es=0/\¬ps < bs.length/\ybs vs=true/\nrm vs=vs)):decV bs=none:=by
 rw [decV,h,if_neg hc]
theorem dec_some {bs:List Int} {vs:List Int} {ps:Nat} {es:Int} (h:decE bs=(vs,ps,es)) (hc:es=0/\¬ps < bs.length/\ybs vs=true/\nrm vs=vs):decV bs=some vs:=by
 rw [decV,h,if_pos hc]
theorem DecPost.no {bs:List Int} {w G:World} {e:Ending} (h:decV bs=none) (J:e= .returned (.tuple #[.slice none 0 0,.int .i64 3])) (H:Below w.heap.size w G):DecPost bs w e G:=by
 unfold DecPost;rw [h];exact ⟨none,0,0,J,Nat.le_refl _,⟨rfl,SL.nil⟩,H⟩
theorem DecPost.yes {bs vs:List Int} {w G:World} {e:Ending} {A:Option Addr} {n c:Nat} (h:decV bs=some vs) (J:e= .returned (.tuple #[.slice A n c,.int .i64 0])) (K:n<=c) (hs:Sl I G G.heap.size A n vs) (hf:∀t,A=some t->w.heap.size<=t.block) (H:Below w.heap.size w G):DecPost bs w e G:=by
 unfold DecPost;rw [h];exact ⟨A,n,c,J,K,⟨hs,hf⟩,H⟩
theorem decode_any (A:Option Addr) (n c:Nat) (bs:List Int) (w:World) (hx:Sl fB w w.heap.size A n bs) (hn:n<=1000000) (hb:∀b∈bs,0<=b/\b < 256):
 Calls prog 84 #[.slice A n c] w (DecPost bs w):=by
 have HC:=lh (ydp A n c bs w hx hn);have aF:=lh hb;have HLN:Hid (bs.length=n):=hx.1;clear hx hb;obtain ⟨i0,hi,H,az,aR⟩:=info_parts Tryz.info3;have HI:=lh hi;have a2:=lh H;have a4:=lh az;have a5:=lh aR;clear hi H az aR;go_enter func84,ntmps84;go_wp2_with fail;refine HC.out.mono ?_;rintro e w1 ⟨g,A1,c1,rfl,aA,aT,bh,aW⟩;have a3:=lh aA;have aK:=lh aT;have HB1:=lh aW.1;have aN:g < w1.heap.size:=lb aA;clear aA aT aW;go_wp2_with fail;refine (rcount_ok g A1 n c1 0 12 0 bs w1 a3.out aK.out aF.out om hn om).mono ?_;rintro e w2 ⟨he,am,ao⟩;have aY:=lh ao;obtain ⟨N0,T⟩:=gx (decN bs);have bm:=lh T;have ac:limF 12 (numF bs 10 0 0 0)=N0:=T;rw [ac] at he am;obtain ⟨aa,ae,aj,aX⟩:=decN_bd bs;obtain ⟨p0,ah⟩:∃p0:Nat,(if N0.2.1=0 then N0.2.2 else 0)=p0:=⟨_,rfl⟩
 have HPL:Hid (p0<=bs.length):=by
  show p0<=_;rw [<-ah,<-ac,limF_placeY]
  split
  ·exact numF_leY bs _ _ _ _ (Nat.zero_le _)
  ·exact Nat.zero_le _
 have L:Hid (decE bs=decT bs p0 N0.2.1 aa):=by
  show decE bs=_;unfold decE;rw [aj,T,ah]
 rw [T] at ae;clear T ac aj;rw [ae] at he;rw [ah] at am;have aG:=lh am;have bc:Hid (Sl fB w2 g A1 n bs):=aK.out.butgY ao (Nat.le_of_lt aN);have bi:=ao.size;clear am ao;subst he;obtain ⟨J,aJ⟩:=gx (N0.2.1);rw [aJ] at aG L;clear aJ ae ah;go_wp2
 go_loopw [5,12] (fun u i wr=>∃(j:Nat) (pv:Int),j<=aa/\i= .int .i64 j/\Hid (Own I 3 wr w1.heap.size u (decT bs p0 J j).1)/\Hid (Rd wr g A1 n c1 (decT bs p0 J j).2.1 pv (decT bs p0 J j).2.2)/\Hid (Sl fB wr g A1 n bs)/\Hid (But (fun k=>k=g∨w1.heap.size<=k) w1 wr)/\Hid ((decT bs p0 J j).2.1<=n)) (fun _ i _=>aa - (intOf i).toNat)
 case atStart=>exact ⟨0,0,by omega,rfl,Own.nil,aG.out,bc.out,aY.out.mono fun i hi=> .inl (.inl hi),by show p0<=n;have:=HPL.out;have:=HLN.out;omega⟩
 case round=>
  obtain ⟨j,pv,hj,rfl,HO,ak,aS,aq,au⟩:=hrel
  by_cases hlt:j < aa
  ·have a7:Hid (((decT bs p0 J j).1.length+1)*8<=140737488355328):=by show _<=_;rw [decT_len];omega
   have a8:Hid ((decT bs p0 J j).1.length+1<=maxLen):=by show _<=_;rw [decT_len];unfold maxLen;omega
   go_wp2_with fail
   refine (ruint_any' g A1 n c1 _ pv _ bs wr ak.out aS.out aF.out au.out hn).mono ?_;rintro e w4 ⟨z,a0,rfl,H,az,aQ,aC,ai⟩;have ba:=lh aC;have a1:=lh (aQ (decT bs p0 J j).1);have aU:Hid (Own I 3 w4 w1.heap.size u5 (decT bs p0 J j).1):=OwnI.but HO.out ai (fun k hk=>by omega);have bk:=ai.size;have bf:=aq.out.size;have aO:=lh ai;clear aQ aC ai;go_wp2_with (with_reducible refine ybk (o:=⟨some 19,_,_,_,_,_⟩) rfl (.tmp 14) (.tmp 18) 27 rfl 3 i0 (.int .i64 0) 8 underlying27 HI.out a2.out a4.out a5.out rfl u5 (decT bs p0 J j).1 w1.heap.size rfl aU.out (wrap64 z) 1 rfl I1 a7.out a8.out om ?_;intro v5 w5 bb HG5 bg);have K:Below w1.heap.size w4 w5:=Own.below aU.out bR om om HG5.out;have a9:Hid (decT bs p0 J (j+1)=((decT bs p0 J j).1++[IntKind.i64.wrap z],_,_)):=a1.out;go_roundw
   case rel=>
    have aH:=a9.out;refine ⟨j+1,a0,by omega,by go_num,?_,?_,?_,?_,?_⟩
    ·show Own _ _ _ _ _ _;rw [aH];have:=bb.out;rwa [<-IntWalk.i64_left] at this
    ·show Rd _ _ _ _ _ _ _ _;rw [aH];exact (K.block g aN).trans ba.out
    ·exact (aS.out.butgY aO.out om).up K om
    ·exact (aq.out.trans aO.out (fun i hi=> .inl (.inl hi))).trans (q:=fun k=>w1.heap.size<=k) ⟨K.os,K.tape,K.output,K.size,fun k _ hk=>K.block k om⟩ (fun i hi=> .inl (.inr hi))
    ·show _<=_;have:=decT_le bs p0 J HPL.out (j+1);have:=HLN.out;omega
   case measure=>simp [intOf];omega
  ·obtain rfl:j=aa:=by omega
   obtain ⟨vs,ps,es,hS⟩:∃vs ps es,decT bs p0 J j=(vs,ps,es):=⟨_,_,_,rfl⟩
   have hl:=decT_len bs p0 J j;rw [hS] at hl HO ak au L;simp only [] at hl HO ak au
   have N:Hid (Below w.heap.size w wr):=HB1.out.trans (aq.out.below HB1.out.size fun i hi=>(by
    have:=HB1.out.size
    rcases hi with h |h<;>omega))
   have U:=N.out.size;have M:=lh (yd4 g A1 n c1 ps pv es wr ak.out);obtain ⟨A5,c5,ay,ax,aP,_⟩:=HO.out.shape;rw [hl] at ay ax;have aM:=lh ax
   have aL:Hid (∀t,A5=some t->w.heap.size<=t.block):=fun t ht=>by
    have h1:=(ol HO.out t.block (by rw [ay,ht];rfl)).1;have h2:=HB1.out.size;omega
   clear ax;have HS5:Hid (Sl I wr wr.heap.size A5 j vs):=⟨hl,aP⟩;have ap:Hid (vs.length=j):=hl;obtain ⟨z,hz⟩:∃z:Int,(if es=0 then (if ps < n then 3 else 0) else es)=z:=⟨_,rfl⟩
   rw [hz] at M;have HZ:=lh hz;clear hz hS aP hl hlt;subst ay
   by_cases H:z=0
   ·have a6:(z != 0)=false:=by simp [H]
    have ag:Hid (es=0/\¬ps < bs.length):=by
     have h1:=HZ.out;rw [H] at h1;refine ⟨?_,?_⟩
     ·rcases Int.decEq es 0 with h |h
      ·rw [if_neg h] at h1;exact absurd h1 h
      ·exact h
     ·intro h;rw [HLN.out] at h
      split at h1
      ·omega
      ·contradiction
    have bj:j<=12:=aX;clear H;have Y:Hid (∀W,Below wr.heap.size wr W->Calls prog 143 #[.slice A5 j c5] W fun e w'=>e= .returned (.bool (ybs vs))/\W=w'):=fun W hb=>vvalid_n A5 j vs c5 W wr.heap.size (HS5.out.up hb nl) om;obtain ⟨vb,ar⟩:=gx (ybs vs);rw [ar] at Y;have aw:=lh ar;clear ar;rcases vb with _ |_
    ·have Z:Hid (decV bs=none):=dec_none L.out (fun hc=>by have:=aw.out;rw [hc.2.2.1] at this;cases this);go_wp2_with fail;refine M.out.mono ?_;rintro e w6 ⟨rfl,G⟩;have HB6:=lh G;clear G;go_wp2_with fail;refine (Y.out _ HB6.out).mono ?_;rintro e w7 ⟨rfl,rfl⟩;go_wp2_with fail;go_ret2;exact DecPost.no Z.out rfl (N.out.trans (HB6.out.mono U))
    ·rcases j with _ |m
     ·have af:Hid (decV bs=some vs):=dec_some L.out ⟨ag.out.1,ag.out.2,aw.out,by
       have:=ap.out;obtain rfl:vs=[]:=List.eq_nil_of_length_eq_zero this
       rfl⟩
      go_wp2_with fail
      refine M.out.mono ?_;rintro e w6 ⟨rfl,G⟩;have HB6:=lh G;clear G;go_wp2_with fail;refine (Y.out _ HB6.out).mono ?_;rintro e w7 ⟨rfl,rfl⟩;go_wp2_with fail;go_ret2;exact DecPost.yes af.out rfl aM.out (HS5.out.up HB6.out nl |>.more' HB6.out.size) aL.out (N.out.trans (HB6.out.mono U))
     ·obtain ⟨b5,o5,x,rfl,aB,aE,aI⟩:=HS5.out.2.at_ (k:=m) (by have:=ap.out;omega);have aV:=lh aE;have aD:=lh aI;clear aE aI
      by_cases O:x=0
      ·have Z:Hid (decV bs=none):=dec_none L.out (fun hc=>by
        have:=(nrm_last ap.out).1 hc.2.2.2;rw [ybw aV.out] at this
        exact this O)
       have aZ:(x==0)=true:=by simp [O]
       clear O;go_wp2_with fail;refine M.out.mono ?_;rintro e w6 ⟨rfl,G⟩;have be:w6.cell? ⟨b5,o5+m,none⟩=some (I x):=(G.cell (p:=⟨b5,o5+m,none⟩) aB).trans aD.out;have HB6:=lh G;clear G;go_wp2_with fail;refine (Y.out _ HB6.out).mono ?_;rintro e w7 ⟨rfl,rfl⟩;go_wp2_with fail;go_ret2;exact DecPost.no Z.out rfl (N.out.trans (HB6.out.mono U))
      ·have af:Hid (decV bs=some vs):=dec_some L.out ⟨ag.out.1,ag.out.2,aw.out,(nrm_last ap.out).2 (by rw [ybw aV.out];exact O)⟩;have aZ:(x==0)=false:=by simp [O]
       clear O;go_wp2_with fail;refine M.out.mono ?_;rintro e w6 ⟨rfl,G⟩;have be:w6.cell? ⟨b5,o5+m,none⟩=some (I x):=(G.cell (p:=⟨b5,o5+m,none⟩) aB).trans aD.out;have HB6:=lh G;clear G;go_wp2_with fail;refine (Y.out _ HB6.out).mono ?_;rintro e w7 ⟨rfl,rfl⟩;go_wp2_with fail;go_ret2;exact DecPost.yes af.out rfl aM.out (HS5.out.up HB6.out nl |>.more' HB6.out.size) aL.out (N.out.trans (HB6.out.mono U))
   ·have a6:(z != 0)=true:=by simp [H]
    have Z:Hid (decV bs=none):=dec_none L.out (fun hc=>H (by rw [<-HZ.out,if_pos hc.1,if_neg (by rw [<-HLN.out];exact hc.2.1)]));clear H;go_wp2_with fail;refine M.out.mono ?_;rintro e w6 ⟨rfl,G⟩;have HB6:=lh G;clear G;go_wp2_with fail;go_ret2;exact DecPost.no Z.out rfl (N.out.trans (HB6.out.mono U))
