import Derived.Test.YtpdledjgbgalcaaGreatDoorRows
import Derived.Test.YtpdledjgbgalcaaGreatDoorMa
namespace Go.Proofs.YtpdledjgbgalcaaGreatDoor
open Go.RowKit Go.Proofs.Tryz
set_option linter.unusedVariables false
set_option linter.unusedSimpArgs false
def inR (x:Int):Bool:=decide (0<=x)&&decide (x<=1099511627776)
def ybt (xs:List Int):Bool:=xs.all inR&&decide (xs.length<=12)
def devB (d:Int):Bool:=decide (0<=d)&&decide (d < 12)
theorem inR_neg {x:Int} (h:x < 0):inR x=false:=by simp [inR];omega
theorem inR_big {x:Int} (h:1099511627776 < x):inR x=false:=by simp [inR];omega
theorem inR_ok {x:Int} (h:0<=x) (h':x<=1099511627776):inR x=true:=by simp [inR,h,h']
theorem yd1 {α:Type} {p:α->Bool} {xs:List α} {k:Nat} {x:α} (h:xs[k]? =some x) (hn:p x=false):xs.all p=false:=by
 rw [List.all_eq_false];exact ⟨x,List.mem_of_getElem? h,by simp [hn]⟩
theorem ydu {xs:List Int} {k:Nat} {x:Int} (h:xs[k]? =some x) (hn:inR x=false):ybt xs=false:=by
 simp [ybt,yd1 h hn]
theorem rvalid_any (A:Option Addr) (xs:List Int) (c:Nat) (w:World) (B:Nat) (M:SL I w B A xs) (hl:xs.length<=4611686018427387904):
 Calls prog 120 #[.slice A xs.length c] w fun e L=>e= .returned (.bool (ybt xs))/\w=L:=by
 go_enter func120,ntmps120;go_wp2
 go_loop [3] (fun i=>∃k:Nat,k<=xs.length/\i= .int .i64 k/\(xs.take k).all inR=true) (fun i=>xs.length - (intOf i).toNat)
 case atStart=>exact ⟨0,Nat.zero_le _,rfl,by simp⟩
 case round=>
  obtain ⟨k,U,rfl,G⟩:=hrel;have H:=lh G;clear G
  by_cases hlt:k < xs.length
  ·obtain ⟨b,O,x,rfl,_,J,T⟩:=M.at_ hlt;have K:=lh J;clear J
   by_cases h0:x < 0
   ·have HF:=lh (ydu K.out (inR_neg h0));go_wp2;go_ret;exact ⟨ybo HF.out.symm,rfl⟩
   ·by_cases h1:(1099511627776:Int) < x
    ·have HF:=lh (ydu K.out (inR_big h1));go_wp2;go_ret;exact ⟨ybo HF.out.symm,rfl⟩
    ·have N:=lh (inR_ok (x:=x) om om);go_wp2;go_round;case rel=>exact ⟨k+1,by omega,by go_num,by rw [yby K.out,List.all_append,H.out];simp [N.out]⟩
     case measure=>simp [intOf];omega
  ·go_wp2;go_ret;exact ⟨ybo (by have h1:=H.out;rw [List.take_of_length_le om] at h1;simp [ybt,h1];omega),rfl⟩
theorem isNaN_any (a:Int) (w:World):Calls prog 259 #[.int .i64 a] w fun e w'=>e= .returned (.bool false)/\w=w':=by
 go_enter func259,ntmps259;go_wp2;go_ret;exact ⟨ybo sI,rfl⟩
theorem less_any (a b:Int) (w:World):Calls prog 226 #[.int .i64 a,.int .i64 b] w fun e G=>e= .returned (.bool (decide (a < b)))/\w=G:=by
 go_enter func226,ntmps226;go_wp2_with (go_at_call 259;refine (isNaN_any _ _).mono ?_;rintro e G ⟨rfl,rfl⟩);go_ret;exact ⟨rfl,rfl⟩
theorem bad_any (a:Int) (w:World):Calls prog 196 #[.int .i64 a] w fun e G=>e= .returned (.bool (!inR a))/\w=G:=by
 by_cases h0:a < 0
 ·have HF:=lh (inR_neg h0);go_enter func196,ntmps196;go_wp2;go_ret;exact ⟨ybo (by simp [HF.out]),rfl⟩
 ·by_cases h1:(1099511627776:Int) < a
  ·have HF:=lh (inR_big h1);go_enter func196,ntmps196;go_wp2;go_ret;exact ⟨ybo (by simp [HF.out]),rfl⟩
  ·have H:=lh (inR_ok (x:=a) om om);go_enter func196,ntmps196;go_wp2;go_ret;exact ⟨ybo (by simp [H.out]),rfl⟩
def IdxPost (xs:List Int) (w:World) (e:Ending) (w':World):Prop:=∃r:Int,e= .returned (.int .i64 r)/\decide (0<=r)= !(xs.all inR)/\w=w'
theorem index_any (A:Option Addr) (xs:List Int) (c:Nat) (w:World) (B:Nat) (M:SL I w B A xs) (hl:xs.length<=4611686018427387904):
 Calls prog 241 #[.slice A xs.length c,.func (.func 196) #[] #[]] w (IdxPost xs w):=by
 go_enter func241,ntmps241;go_wp2
 go_loop [8] (fun i=>∃k:Nat,k<=xs.length/\i= .int .i64 k/\(xs.take k).all inR=true) (fun i=>xs.length - (intOf i).toNat)
 case atStart=>exact ⟨0,Nat.zero_le _,rfl,by simp⟩
 case round=>
  obtain ⟨k,T,rfl,G⟩:=hrel;have H:=lh G;clear G
  by_cases hlt:k < xs.length
  ·obtain ⟨b,N,x,rfl,_,J,O⟩:=M.at_ hlt;have K:=lh J;clear J
   by_cases h0:inR x=true
   ·go_wp2_with (go_at_call 196;refine (bad_any _ _).mono ?_;rintro e L ⟨rfl,rfl⟩)
    go_round
    case rel=>exact ⟨k+1,by omega,by go_num,by rw [yby K.out,List.all_append,H.out];simp [h0]⟩
    case measure=>simp [intOf];omega
   ·have h1:inR x=false:=by simpa using h0
    clear h0
    have HF:Hid (xs.all inR=false):=by
     exact yd1 K.out h1
    go_wp2_with (go_at_call 196;refine (bad_any _ _).mono ?_;rintro e L ⟨rfl,rfl⟩)
    go_ret;exact ⟨_,rfl,by rw [HF.out];simp,rfl⟩
  ·go_wp2;go_ret;exact ⟨_,rfl,by have h1:=H.out;rw [List.take_of_length_le om] at h1;rw [h1];simp,rfl⟩
theorem contains_any (A:Option Addr) (xs:List Int) (c:Nat) (w:World) (B:Nat) (H:SL I w B A xs) (hl:xs.length<=4611686018427387904):
 Calls prog 195 #[.slice A xs.length c,.func (.func 196) #[] #[]] w fun e G=>e= .returned (.bool (!(xs.all inR)))/\w=G:=by
 go_enter func195,ntmps195;go_wp2_with (go_at_call 241;refine (index_any _ _ _ _ B H hl).mono ?_;rintro e G ⟨r,rfl,hr,rfl⟩;have HR:=lh hr;clear hr);go_ret;exact ⟨ybo HR.out,rfl⟩
theorem ydP (A:Option Addr) (xs:List Int) (c:Nat) (w:World) (B:Nat) (H:SL I w B A xs) (hl:xs.length<=4611686018427387904):
 Calls prog 143 #[.slice A xs.length c] w fun e G=>e= .returned (.bool (ybt xs))/\w=G:=by
 by_cases h:xs.length<=12
 ·go_enter func143,ntmps143;go_wp2_with (go_at_call 195;refine (contains_any _ _ _ _ B H hl).mono ?_;rintro e G ⟨rfl,rfl⟩);go_ret;exact ⟨ybo (by simp [ybt,h]),rfl⟩
 ·go_enter func143,ntmps143;go_wp2;go_ret;exact ⟨ybo (by simp [ybt];omega),rfl⟩
def av (x:List Int):Array Value:=(x.map I).toArray
theorem av_get {x:List Int} {k:Nat} (h:k < x.length):(av x)[k]? =some (.int .i64 (x.getD k 0)):=by simp [av,h]
theorem av_size (x:List Int):(av x).size=x.length:=by simp [av]
def Row12 (w:World) (g:Nat) (x:List Int):Prop:=∀k,k < 12->w.cell? ⟨g,k,none⟩=some (.int .i64 (x.getD k 0))
theorem Row12.of_block {w:World} {g:Nat} {x:List Int} {fr:Nat × Nat} {t:TypeId} (H:x.length=12) (h:w.heap[g]? =some (.cells (av x) t fr)):Row12 w g x:=fun k G=>by
 rw [cell_of_row w g k _ _ _ h,av_get om]
theorem Tryz.size3:(prog.info? 3).map (·.size)=some 1:=by kernel_rfl
theorem Tryz.size57:(prog.info? 212).map (·.size)=some 12:=by kernel_rfl
theorem Tryz.info3:(prog.info? 3).map (fun i=>(i.zero,i.size,i.bytes))=some (some (.int .i64 0),1,8):=by kernel_rfl
abbrev Z12:List Value:=[.int .i64 0,.int .i64 0,.int .i64 0,.int .i64 0,.int .i64 0,.int .i64 0,.int .i64 0,.int .i64 0,.int .i64 0,.int .i64 0,.int .i64 0,.int .i64 0]
def pad (xs:List Int):List Int:=xs++List.replicate (12 - xs.length) 0
theorem pad_len {xs:List Int} (h:xs.length<=12):(pad xs).length=12:=by simp [pad];omega
theorem splice_pad {xs:List Int} (G:xs.length<=12):splice Z12 0 (xs.map I)=(pad xs).map I:=by
 have e:splice Z12 0 (xs.map I)=xs.map I++Z12.drop xs.length:=by simp only [splice,List.take_zero,List.nil_append,Nat.zero_add,List.length_map]
 rw [e,show Z12=List.replicate 12 (Value.int .i64 0) from rfl,List.drop_replicate];simp [pad]
theorem av_one (xs:List Int):(av xs).all (·.oneCell')=true:=all_oneCell_toArray fun v hv=>by obtain ⟨y,_,rfl⟩:=List.mem_map.1 hv;rfl
theorem I_one (xs:List Int):∀v∈xs.map I,v.oneCell'=true:=fun v hv=>by obtain ⟨y,_,rfl⟩:=List.mem_map.1 hv;rfl
theorem padded_yes (A:Option Addr) (n:Nat) (xs:List Int) (c:Nat) (w:World) (B:Nat) (K:Sl I w B A n xs) (Z:B<=w.heap.size) (U:ybt xs=true):
 Calls prog 133 #[.slice A n c] w fun e T=>e= .returned (.tuple #[.agg (av (pad xs)),.bool true])/\Below w.heap.size w T:=by
 obtain ⟨rfl,K⟩:=K;have hl:xs.length<=12:=by simp [ybt] at U;exact U.2
 have G:Below w.heap.size w ((w.alloc (.cells Z12.toArray 212)).alloc (.cells Z12.toArray 212)):=bl.alloc sI _;have HX:=lh (K.up G Z);have J:=lh G;have HC:=lh (splice_pad hl);have L:Hid ((prog.info? 212).map (·.size)=some (av (pad xs)).size):=by show _=_;rw [av_size,pad_len hl];exact Tryz.size57
 have N:Hid (Z12.toArray.size=(av (pad xs)).size):=by show _=_;rw [av_size,pad_len hl];rfl
 have z:Hid ((xs.map I).length=Nat.min xs.length 12):=by show _=min _ _;simp;omega
 have HF:Hid (0+(xs.map I).length<=Z12.length):=by show _<=_;simp;omega
 have HP:Hid (0 < (xs.map I).length->∃ad,A=some ad/\∀j v,(xs.map I)[j]? =some v->((w.alloc (.cells Z12.toArray 212)).alloc (.cells Z12.toArray 212)).cell? (ad.add j)=some v):=
  fun h=>(K.up G Z).cells h
 clear G;go_enter func133,ntmps133
 go_wp2_with (first
  |(go_at_call 143;refine (ydP _ _ _ _ B HX.out om).mono ?_;rintro e T ⟨rfl,rfl⟩)
  |(with_reducible refine wpList_copy_splice (o:=⟨some 11,_,_,_,_,_⟩) rfl (.tmp 9) (.tmp 10) 27 27 rfl 3 underlying27 Tryz.size3 _ _ _ _ _ _ rfl rfl (w.heap.size+1) 0 Z12 212 (heap_alloc2_new _ _ _) (xs.map I) z.out (fun h=>⟨rfl,HP.out h⟩) HF.out (I_one xs) (w.heap.size+1) _ bR nl ?_
    intro w1 M H;have W:Hid (w1.heap[w.heap.size+1]? =some (.cells (av (pad xs)) 212 (0,0))):=by have h:=M.out;rw [HC.out] at h;exact h
    have O:Hid (w1.heap[w.heap.size]? =some (.cells Z12.toArray 212 (0,0))):=(H.block w.heap.size om).trans (heap_alloc2_old w _ _);have HB1:Hid (Below w.heap.size w w1):=J.out.trans (H.mono om)
    clear M H)
  |(with_reducible refine wpList_load_row (o:=⟨some 12,_,_,_,_,_⟩) rfl 212 (.tmp 4) rfl (w.heap.size+1) rfl 212 (av (pad xs)) (0,0) _ W.out underlying212 rfl L.out ?_)
  |(with_reducible refine yd7 (o:=⟨none,_,_,_,_,_⟩) rfl 212 (.tmp 2) (.tmp 12) rfl w.heap.size 212 _ (av (pad xs)) rfl rfl O.out L.out N.out (av_one _) w.heap.size _ HB1.out nl ?_
    intro w2 Y J _))
 go_goals
 exact bodyPost_ret (yd0 rfl rfl Y.out underlying212 L.out) rfl ⟨rfl,J⟩
theorem padded_no (A:Option Addr) (n:Nat) (xs:List Int) (c:Nat) (w:World) (B:Nat) (H:Sl I w B A n xs) (K:B<=w.heap.size) (hl:n<=4611686018427387904) (M:ybt xs=false):
 Calls prog 133 #[.slice A n c] w fun e J=>e= .returned (.tuple #[.agg Z12.toArray,.bool false])/\Below w.heap.size w J:=by
 obtain ⟨rfl,H⟩:=H;have G:Below w.heap.size w ((w.alloc (.cells Z12.toArray 212)).alloc (.cells Z12.toArray 212)):=bl.alloc sI _;have L:=lh (H.up G K);clear G;go_enter func133,ntmps133;go_wp2_with (go_at_call 143;refine (ydP _ _ _ _ B L.out hl).mono ?_;rintro e J ⟨rfl,rfl⟩);exact bodyPost_ret (yd0 rfl rfl (heap_alloc2_old w _ _) underlying212 Tryz.size57) rfl ⟨rfl,bl.alloc sI _⟩
abbrev Z0:List Int:=[0,0,0,0,0,0,0,0,0,0,0,0]
def pd (xs:List Int):List Int:=if ybt xs=true then pad xs else Z0
theorem pd_len (xs:List Int):(pd xs).length=12:=by
 unfold pd;split
 ·rename_i h;exact pad_len (by simp [ybt] at h;exact h.2)
 ·rfl
theorem pd_size57 (xs:List Int):(prog.info? 212).map (·.size)=some (av (pd xs)).size:=by rw [av_size,pd_len];exact Tryz.size57
theorem pd_sizeZ (xs:List Int):Z12.toArray.size=(av (pd xs)).size:=by rw [av_size,pd_len];rfl
theorem padded_any (A:Option Addr) (n:Nat) (xs:List Int) (c:Nat) (w:World) (B:Nat) (H:Sl I w B A n xs) (G:B<=w.heap.size) (hl:n<=1000000):
 Calls prog 133 #[.slice A n c] w fun e K=>e= .returned (.tuple #[.agg (av (pd xs)),.bool (ybt xs)])/\Below w.heap.size w K:=by
 by_cases h:ybt xs=true
 ·rw [pd,if_pos h,h];exact padded_yes A n xs c w B H G h
 ·have J:ybt xs=false:=by simpa using h
  rw [pd,if_neg h,J];exact padded_no A n xs c w B H G om J
theorem clone_any (b G n:Nat) (xs:List Int) (c:Nat) (w:World) (B:Nat) (L:Sl I w B (some ⟨b,G,none⟩) n xs) (hB:B<=w.heap.size) (hl:n<=1000000):
 Calls prog 190 #[.slice (some ⟨b,G,none⟩) n c] w (Slc I xs w):=by
 obtain ⟨rfl,L⟩:=L;have J:Below w.heap.size w (w.alloc (.cells #[] 3)):=bl;have HX:=lh (L.up J hB);have HO:Hid (Own I 3 (w.alloc (.cells #[] 3)) w.heap.size (.slice (some ⟨w.heap.size,0,none⟩) 0 0) []):=World.ownsRow_lit w #[] 0 nl ybd rfl;have H:=lh J;clear J;have Z:Hid ((([]:List Int).length+xs.length)*8<=140737488355328):=by show _<=_;simp;omega
 have O:Hid (([]:List Int).length+xs.length<=maxLen):=by show _<=_;simp [maxLen];omega
 have aa:=Lib.run_eql_slice_nil (P:=prog) w 27 3 (some ⟨b,G,none⟩) xs.length c 0 0 underlying27;obtain ⟨i0,hi,N,U,W⟩:=info_parts Tryz.info3;go_enter func190,ntmps190;go_wp2_with (with_reducible refine ybE (o:=⟨some 7,_,_,_,_,_⟩) rfl (.tmp 5) (.tmp 6) 27 rfl 3 i0 (.int .i64 0) 8 underlying27 hi N U W rfl (.slice (some ⟨w.heap.size,0,none⟩) 0 0) [] w.heap.size rfl HO.out _ _ _ B xs rfl HX.out.sl I1 Z.out O.out H.out.size ?_;intro v1 w1 Y z _);have K:=Y.out;rw [List.nil_append] at K;obtain ⟨A',c',rfl,T,M,_⟩:=K.shape;go_ret;exact ⟨A',_,c',rfl,T,M.sl,H.out.trans (ybm z.out (by simp [Value.ownBlock]) H.out.size)⟩
def nlen (x:List Int):Nat->Nat
 |0=>0
 |n+1=>if x.getD n 0=0 then nlen x n else n+1
def nrm (x:List Int):List Int:=x.take (nlen x x.length)
theorem nlen_le (x:List Int) (n:Nat):nlen x n<=n:=by
 induction n with
 |zero=>exact Nat.le_refl _
 |succ n ih=>unfold nlen;split<;>omega
theorem normal_any (x:List Int) (w:World) (hx:x.length=12):
 Calls prog 134 #[.agg (av x)] w (Slc I (nrm x) w):=by
 have HA:Hid (At I (w.alloc (.cells (av x) 212)) w.heap.size 0 x):=At.of_block (zy w _);have HB:Hid (Below w.heap.size w (w.alloc (.cells (av x) 212))):=bl;have J:=lh hx;clear hx;obtain ⟨O,hi,Y,M,T⟩:=info_parts Tryz.info3;clear Y M T;go_enter func134,ntmps134;go_wp2
 go_loop [3] (fun i=>∃n:Nat,n<=12/\i= .int .i64 n/\nlen x n=nlen x 12) (fun i=>(intOf i).toNat)
 case atStart=>exact ⟨12,Nat.le_refl _,rfl,rfl⟩
 case round=>
  obtain ⟨n,hn,rfl,L⟩:=hrel;have Z:=lh L;clear L
  by_cases H:0 < n/\x.getD (n - 1) 0=0
  ·obtain ⟨m,rfl⟩:∃m,n=m+1:=⟨n - 1,by omega⟩
   have G:x[m]? =some 0:=by
    obtain ⟨z,G⟩:=ybQ (xs:=x) (k:=m) (by rw [J.out];omega);have:=H.2;rw [Nat.add_sub_cancel,ybA G] at this;rw [G,this]
   have hc:=HA.out.zero G
   have W:Hid (nlen x m=nlen x 12):=by
    rw [<-Z.out];show _=nlen x (m+1);rw [nlen,ybA G,if_pos rfl]
   clear H G;go_wp2;go_round;case rel=>exact ⟨m,by omega,by go_num,W.out⟩
   case measure=>simp [intOf]
  ·have HE:Hid (nrm x=x.take n):=by
    show nrm x=_;rw [nrm,J.out,<-Z.out]
    cases n with
    |zero=>rfl
    |succ m=>rw [nlen,if_neg (fun h=>H ⟨by omega,by simpa using h⟩)]
   have K:Hid (Sl I (w.alloc (.cells (av x) 212)) (w.heap.size+1) (some ⟨w.heap.size,0,none⟩) n (x.take n)):=
    ⟨by rw [List.length_take,J.out];omega,(SL.of_block (zy w _) (Nat.lt_succ_self _)).take_ n⟩
   by_cases h0:n=0
   ·subst h0;clear H;have U:=yds (P:=prog) 212 3 12 O underlying212 hi w.heap.size 0 .i64 0 0 rfl hn (w.alloc (.cells (av x) 212));go_wp2_with (go_at_call 190;refine (clone_any _ _ _ (x.take 0) _ _ _ K.out sI om).mono ?_;rintro e w' ⟨A,r,c,rfl,h1,h2,N⟩);go_ret;exact ⟨A,r,c,rfl,h1,by rw [HE.out];exact h2,HB.out.trans (N.mono sI)⟩
   ·obtain ⟨m,rfl⟩:∃m,n=m+1:=⟨n - 1,by omega⟩
    obtain ⟨z,G⟩:=ybQ (xs:=x) (k:=m) (by rw [J.out];omega);have hc:=HA.out.zero G
    have M:(z==0)=false:=by
     have:¬z=0:=fun e=>H ⟨by omega,by rw [Nat.add_sub_cancel,ybA G,e]⟩;simpa using this
    have U:=yds (P:=prog) 212 3 12 O underlying212 hi w.heap.size 0 .i64 ((m:Int)+1) (m+1) om hn (w.alloc (.cells (av x) 212));clear H h0 G;go_wp2_with (go_at_call 190;refine (clone_any _ _ _ (x.take (m+1)) _ _ _ K.out sI om).mono ?_;rintro e w' ⟨A,r,c,rfl,h1,h2,N⟩);go_ret;exact ⟨A,r,c,rfl,h1,by rw [HE.out];exact h2,HB.out.trans (N.mono sI)⟩
def gv (xs:List Int) (d:Int):Int:=if d < 0 then 0 else xs.getD d.toNat 0
theorem gv_nat (xs:List Int) (k:Nat):gv xs k=xs.getD k 0:=by rw [gv,if_neg om,Int.toNat_natCast]
theorem gv_out {xs:List Int} {d:Int} (h:d < 0∨(xs.length:Int)<=d):gv xs d=0:=by
 unfold gv;split
 ·rfl
 ·rw [List.getD_eq_getElem?_getD,List.getElem?_eq_none om];rfl
theorem rget_any (A:Option Addr) (n:Nat) (xs:List Int) (c:Nat) (d:Int) (w:World) (B:Nat) (J:Sl I w B A n xs) (hl:n<=1000000):
 Calls prog 63 #[.slice A n c,.int .i64 d] w fun e K=>e= .returned (.int .i64 (gv xs d))/\w=K:=by
 obtain ⟨rfl,J⟩:=J
 by_cases h0:d < 0
 ·have G:=lh (gv_out (xs:=xs) (.inl h0));go_enter func63,ntmps63;go_wp2;go_ret;exact ⟨ycQ G.out.symm,rfl⟩
 ·by_cases h1:(xs.length:Int)<=d
  ·have G:=lh (gv_out (xs:=xs) (.inr h1));go_enter func63,ntmps63;go_wp2;go_ret;exact ⟨ycQ G.out.symm,rfl⟩
  ·obtain ⟨k,rfl⟩:∃k:Nat,d=k:=⟨d.toNat,by omega⟩
   obtain ⟨b,L,x,rfl,_,H,M⟩:=J.at_ (k:=k) om;have G:Hid (gv xs k=x):=by show _=_;rw [gv_nat,ybA H]
   clear H;go_enter func63,ntmps63;go_wp2;go_ret;exact ⟨ycQ G.out.symm,rfl⟩
theorem rnormal_any (A:Option Addr) (n:Nat) (xs:List Int) (c:Nat) (w:World) (B:Nat) (W:Sl I w B A n xs) (hB:B<=w.heap.size) (hl:n<=1000000) (al:n<=c):
 Calls prog 121 #[.slice A n c] w (Slc I (nrm xs) w):=by
 obtain ⟨rfl,W⟩:=W;have HX:=lh W;clear W;obtain ⟨U,hi,J,N,ae⟩:=info_parts Tryz.info3;have Y:=lh hi;have ah:=lh J;have ai:=lh N;have ac:=lh ae;clear hi J N ae;go_enter func121,ntmps121;go_wp2
 go_loop [3] (fun i=>∃m:Nat,m<=xs.length/\i= .int .i64 m/\Hid (nlen xs m=nlen xs xs.length)) (fun i=>(intOf i).toNat)
 case atStart=>exact ⟨xs.length,Nat.le_refl _,rfl,rfl⟩
 case round=>
  obtain ⟨n,hn,rfl,HN⟩:=hrel
  by_cases H:0 < n/\xs.getD (n - 1) 0=0
  ·obtain ⟨m,rfl⟩:∃m,n=m+1:=⟨n - 1,by omega⟩
   obtain ⟨b,af,z,rfl,_,K,hc⟩:=HX.out.at_ (k:=m) om;have J:z=0:=by have:=H.2;rwa [Nat.add_sub_cancel,ybA K] at this
   subst J
   have aj:Hid (nlen xs m=nlen xs xs.length):=by
    rw [<-HN.out];show _=nlen xs (m+1);rw [nlen,ybA K,if_pos rfl]
   clear H K;go_wp2;go_round;case rel=>exact ⟨m,by omega,by go_num,aj⟩
   case measure=>simp [intOf]
  ·have HE:Hid (nrm xs=xs.take n):=by
    show nrm xs=_;rw [nrm,<-HN.out]
    cases n with
    |zero=>rfl
    |succ m=>rw [nlen,if_neg (fun h=>H ⟨by omega,by simpa using h⟩)]
   have G:Hid (Below w.heap.size w (w.alloc (.cells #[] 3))):=bl;have aa:Hid (Sl I (w.alloc (.cells #[] 3)) B A n (xs.take n)):=⟨by rw [List.length_take];omega,(HX.out.take_ n).up G.out hB⟩;have HO:Hid (Own I 3 (w.alloc (.cells #[] 3)) w.heap.size (.slice (some ⟨w.heap.size,0,none⟩) 0 0) []):=World.ownsRow_lit w #[] 0 nl ybd rfl;have ag:Hid ((([]:List Int).length+(xs.take n).length)*8<=140737488355328):=by show _<=_;simp;omega
   have Z:Hid (([]:List Int).length+(xs.take n).length<=maxLen):=by show _<=_;simp [maxLen];omega
   by_cases h0:n=0
   ·subst h0;clear H;have ak:=ybR (P:=prog) 27 3 U underlying27 Y.out A xs.length c .i64 0 0 rfl om (w.alloc (.cells #[] 3));go_wp2_with (with_reducible refine ybE (o:=⟨some 22,_,_,_,_,_⟩) rfl (.tmp 18) (.tmp 21) 27 rfl 3 U (.int .i64 0) 8 underlying27 Y.out ah.out ai.out ac.out rfl (.slice (some ⟨w.heap.size,0,none⟩) 0 0) [] w.heap.size rfl HO.out _ _ _ B (xs.take 0) rfl aa.out I1 ag.out Z.out G.out.size ?_;intro v1 w1 O T _);obtain ⟨A',c',rfl,M,L,_⟩:=O.out.shape;go_ret;exact ⟨A',_,c',rfl,M,by rw [HE.out];exact L.sl,G.out.trans (ybm T.out (by simp [Value.ownBlock]) G.out.size)⟩
   ·obtain ⟨m,rfl⟩:∃m,n=m+1:=⟨n - 1,by omega⟩
    obtain ⟨b,af,z,rfl,_,K,hc⟩:=HX.out.at_ (k:=m) om
    have N:(z==0)=false:=by
     have:¬z=0:=fun e=>H ⟨by omega,by rw [Nat.add_sub_cancel,ybA K,e]⟩;simpa using this
    clear H h0 K;have ak:=ybR (P:=prog) 27 3 U underlying27 Y.out (some ⟨b,af,none⟩) xs.length c .i64 ((m:Int)+1) (m+1) om om (w.alloc (.cells #[] 3));go_wp2_with (with_reducible refine ybE (o:=⟨some 22,_,_,_,_,_⟩) rfl (.tmp 18) (.tmp 21) 27 rfl 3 U (.int .i64 0) 8 underlying27 Y.out ah.out ai.out ac.out rfl (.slice (some ⟨w.heap.size,0,none⟩) 0 0) [] w.heap.size rfl HO.out _ _ _ B (xs.take (m+1)) rfl aa.out I1 ag.out Z.out G.out.size ?_;intro v1 w1 O T _);obtain ⟨A',c',rfl,M,L,_⟩:=O.out.shape;go_ret;exact ⟨A',_,c',rfl,M,by rw [HE.out];exact L.sl,G.out.trans (ybm T.out (by simp [Value.ownBlock]) G.out.size)⟩
theorem ints_any (A U:Option Addr) (n T:Nat) (xs ys:List Int) (c z:Nat) (w:World) (B:Nat) (J:Sl I w B A n xs) (H:Sl I w B U T ys) (hl:n<=1000000) (ag:T<=1000000):
 Calls prog 23 #[.slice A n c,.slice U T z] w fun e Y=>e= .returned (.bool (decide (xs=ys)))/\∃r,Y=w.drewN r:=by
 obtain ⟨rfl,J⟩:=J;obtain ⟨rfl,H⟩:=H;have HX:=lh J;have HY:=lh H;clear J H
 by_cases K:xs.length=ys.length
 ·have HE:=lh K;have hd:((xs.length:Int) != (ys.length:Int))=false:=by simp;omega
  have ac:xs.length<=ys.length:=by omega
  clear K;go_enter func23,ntmps23;go_wp2
  go_loopw [5] (fun i wr=>∃k:Nat,k<=xs.length/\i= .int .i64 k/\Hid (xs.take k=ys.take k)/\Hid (∃r,wr=w.drewN r)) (fun i _=>xs.length - (intOf i).toNat)
  case atStart=>exact ⟨0,by omega,rfl,by show _=_;simp,⟨0,rfl⟩⟩
  case round=>
   obtain ⟨k,hk,rfl,W,HR⟩:=hrel;obtain ⟨r,hr⟩:=HR.out;subst hr;clear HR
   by_cases hlt:k < xs.length
   ·obtain ⟨b,af,x,rfl,_,N,hc⟩:=HX.out.at_ (k:=k) om;obtain ⟨b',Z,y,rfl,_,O,ae⟩:=HY.out.at_ (k:=k) om;have aa:k < ys.length:=by omega
    have L:=lh N;have M:=lh O;clear N O
    by_cases G:x=y
    ·subst G;have hb:(x != x)=false:=by simp
     go_wp2;go_quiet (fail);go_wp2;go_roundw;case rel=>exact ⟨k+1,by omega,by go_num,by show _=_;rw [yby L.out,yby M.out,W.out],_,rfl⟩
     case measure=>simp [intOf];omega
    ·have hb:(x != y)=true:=by simpa using G
     have HF:Hid (decide (xs=ys)=false):=by
      show _=_;simp only [decide_eq_false_iff_not];rintro rfl;have:=L.out.symm.trans M.out;simp at this;exact G this
     clear G;go_wp2;go_quiet (fail);go_wp2;go_ret;exact ⟨ybo HF.out.symm,_,World.drewN_drewN _ _ _⟩
   ·have HF:Hid (decide (xs=ys)=true):=by
     show _=_;have:=W.out;rw [List.take_of_length_le om,List.take_of_length_le (by have:=HE.out;omega)] at this;simpa using this
    go_wp2;go_ret;exact ⟨ybo HF.out.symm,_,rfl⟩
 ·have HF:Hid (decide (xs=ys)=false):=by
   show _=_;simp only [decide_eq_false_iff_not];rintro rfl;exact K rfl
  have hd:((xs.length:Int) != (ys.length:Int))=true:=by simp;omega
  clear K;go_enter func23,ntmps23;go_wp2;go_ret;exact ⟨ybo HF.out.symm,0,rfl⟩
theorem nlen_pad (xs:List Int):∀m,xs.length+m<=(pad xs).length->nlen (pad xs) (xs.length+m)=nlen xs xs.length:=by
 have G:∀k,(pad xs).getD k 0=xs.getD k 0:=by
  intro k;simp only [pad,List.getD_eq_getElem?_getD,List.getElem?_append]
  split
  ·rfl
  ·rename_i h
   rw [List.getElem?_eq_none (l:=xs) om];simp only [List.getElem?_replicate]
   split<;>rfl
 have hn:∀k,nlen (pad xs) k=nlen xs k:=by
  intro k
  induction k with
  |zero=>rfl
  |succ k ih=>rw [nlen,nlen,G,ih]
 intro m
 induction m with
 |zero=>intro _;rw [Nat.add_zero,hn]
 |succ m ih=>
  intro h;rw [<-Nat.add_assoc,nlen,if_pos,ih om];rw [G,List.getD_eq_getElem?_getD,List.getElem?_eq_none om];rfl
theorem nrm_pad {xs:List Int} (h:xs.length<=12):nrm (pad xs)=nrm xs:=by
 have h1:=nlen_pad xs (12 - xs.length) (by rw [pad_len h];omega);have h2:xs.length+(12 - xs.length)=12:=by omega
 rw [h2] at h1;rw [nrm,nrm,pad_len h,h1,pad,List.take_append_of_le_length (nlen_le _ _)]
theorem pad_getD (xs:List Int) (k:Nat):(pad xs).getD k 0=xs.getD k 0:=by
 simp only [pad,List.getD_eq_getElem?_getD,List.getElem?_append]
 split
 ·rfl
 ·rename_i h
  rw [List.getElem?_eq_none (l:=xs) om];simp only [List.getElem?_replicate]
  split<;>rfl
theorem pd_yes {xs:List Int} (h:ybt xs=true):pd xs=pad xs:=if_pos h
theorem ydv {xs:List Int} (h:ybt xs=true):xs.length<=12:=by simp [ybt] at h;exact h.2
theorem inR_getD {x:List Int} (h:x.all inR=true) (k:Nat):0<=x.getD k 0/\x.getD k 0<=1099511627776:=by
 rcases Nat.lt_or_ge k x.length with G |G
 ·obtain ⟨z,H⟩:=ybQ G;rw [ybA H];have:=List.all_eq_true.1 h z (List.mem_of_getElem? H);simpa [inR] using this
 ·rw [List.getD_eq_getElem?_getD,List.getElem?_eq_none G];decide
theorem pad_inR {xs:List Int} (h:ybt xs=true):(pad xs).all inR=true:=by
 simp only [ybt,Bool.and_eq_true] at h;rw [pad,List.all_append,h.1,Bool.true_and,List.all_eq_true];intro z G;rw [List.eq_of_mem_replicate G];rfl
theorem getD_out {x:List Int} {k:Nat} (h:x.length<=k):x.getD k 0=0:=by rw [List.getD_eq_getElem?_getD,List.getElem?_eq_none h];rfl
theorem nlen_congr {x y:List Int} (h:∀j,x.getD j 0=y.getD j 0) (n:Nat):nlen x n=nlen y n:=by
 induction n with
 |zero=>rfl
 |succ n ih=>rw [nlen,nlen,h,ih]
theorem nlen_out (x:List Int) (m:Nat):nlen x (x.length+m)=nlen x x.length:=by
 induction m with
 |zero=>rfl
 |succ m ih=>rw [<-Nat.add_assoc,nlen,if_pos (getD_out om),ih]
theorem nlen_len (x:List Int) (n:Nat):nlen x n<=x.length:=by
 rcases Nat.lt_or_ge x.length n with h |h
 ·obtain ⟨m,rfl⟩:∃m,n=x.length+m:=⟨n - x.length,by omega⟩
  rw [nlen_out];exact nlen_le _ _
 ·exact lT (nlen_le _ _) h
theorem take_congr {x y:List Int} (h:∀j,x.getD j 0=y.getD j 0) {n:Nat} (J:n<=x.length) (H:n<=y.length):x.take n=y.take n:=by
 apply List.ext_getElem?;intro j;rw [List.getElem?_take,List.getElem?_take]
 split
 ·rename_i hj
  obtain ⟨a,ha⟩:=ybQ (xs:=x) (k:=j) om;obtain ⟨b,G⟩:=ybQ (xs:=y) (k:=j) om;have:=h j;rw [ybA ha,ybA G] at this;rw [ha,G,this]
 ·rfl
theorem nrm_congr {x y:List Int} (h:∀j,x.getD j 0=y.getD j 0):nrm x=nrm y:=by
 have e:nlen x x.length=nlen y y.length:=by
  have h1:=nlen_out x y.length;have h2:=nlen_out y x.length;rw [<-h1,<-h2,nlen_congr h,Nat.add_comm]
 rw [nrm,nrm,e];exact take_congr h (by rw [<-e];exact nlen_len _ _) (nlen_len _ _)
theorem nlen_zero {x:List Int} {n j:Nat} (h1:nlen x n<=j) (h2:j < n):x.getD j 0=0:=by
 induction n with
 |zero=>omega
 |succ n ih=>
  rw [nlen] at h1
  split at h1
  ·rename_i h0
   by_cases hj:j=n
   ·rw [hj,h0]
   ·exact ih h1 om
  ·omega
theorem nrm_getD (x:List Int) (j:Nat):(nrm x).getD j 0=x.getD j 0:=by
 rw [nrm,List.getD_eq_getElem?_getD,List.getElem?_take]
 split
 ·rw [List.getD_eq_getElem?_getD]
 ·rename_i h
  rcases Nat.lt_or_ge j x.length with hj |hj
  ·rw [nlen_zero (x:=x) (n:=x.length) om hj];rfl
  ·rw [getD_out hj];rfl
theorem nrm_nrm (x:List Int):nrm (nrm x)=nrm x:=nrm_congr (nrm_getD x)
theorem valid_of_getD {x:List Int} (hl:x.length<=12) (h:∀j,0<=x.getD j 0/\x.getD j 0<=1099511627776):ybt x=true:=by
 simp only [ybt,Bool.and_eq_true,decide_eq_true_eq];refine ⟨List.all_eq_true.2 fun z G=>?_,hl⟩;obtain ⟨j,hj,rfl⟩:=List.mem_iff_getElem.1 G;have:=h j;rw [ybA (List.getElem?_eq_getElem hj)] at this;simp [inR,this]
theorem valid_getD {x:List Int} (h:ybt x=true) (k:Nat):0<=x.getD k 0/\x.getD k 0<=1099511627776:=inR_getD (by simp only [ybt,Bool.and_eq_true] at h;exact h.1) k
