/- The smallest contracts. Arrays of 12 numbers; the functions on them. Vectors: padded, normal, Clone. Normal forms: (vector).normal, slices.Clone, padded where it says no. The reference: Get, Covers, Normal, Join, Common, Ints. Vectors, plainly. -/
import Derived.Test.YtpdledjgbgalcaaGreatDoorRows
import Derived.Test.YtpdledjgbgalcaaGreatDoorMa
import Derived.StillTailTactics
namespace Go.Proofs.YtpdledjgbgalcaaGreatDoor
open Go.RowKit
set_option linter.unusedVariables false
set_option linter.unusedSimpArgs false
def inR (x:Int):Bool:=decide (0≤x)&&decide (x≤1099511627776)
def ya5 (xs:List Int):Bool:=xs.all inR&&decide (xs.length≤12)
def devB (d:Int):Bool:=decide (0≤d)&&decide (d < 12)
theorem inR_neg {x:Int} (h:x < 0):inR x=false:=by simp [inR];omega
theorem inR_big {x:Int} (h:1099511627776 < x):inR x=false:=by simp [inR];omega
theorem inR_ok {x:Int} (h:0≤x) (h':x≤1099511627776):inR x=true:=by simp [inR,h,h']
theorem ydr {α:Type} {p:α→Bool} {xs:List α} {k:Nat} {x:α} (h:xs[k]? =some x) (hn:p x=false):xs.all p=false:=by
 rw [List.all_eq_false];exact ⟨x,List.mem_of_getElem? h,by simp [hn]⟩
theorem ycW {xs:List Int} {k:Nat} {x:Int} (h:xs[k]? =some x) (hn:inR x=false):ya5 xs=false:=by
 simp [ya5,ydr h hn]
theorem rvalid_any (A:Option Addr) (xs:List Int) (c:Nat) (w:World) (B:Nat) (hx:SL I w B A xs) (hl:xs.length≤4611686018427387904):
 Calls Tryz.prog 120 #[.slice A xs.length c] w fun e w'=>e= .returned (.bool (ya5 xs))∧w=w':=by
 go_enter Tryz.func120,Tryz.ntmps120;go_wp2
 go_loop [3] (fun i=>∃k:Nat,k≤xs.length∧i= .int .i64 k∧(xs.take k).all inR=true) (fun i=>xs.length - (intOf i).toNat)
 case atStart=>exact ⟨0,Nat.zero_le _,rfl,by simp⟩
 case round=>
  obtain ⟨k,hk,rfl,hall⟩:=hrel;have Hall:=lh hall;clear hall
  by_cases hlt:k < xs.length
  ·obtain ⟨b,off,x,rfl,_,hxk,hck⟩:=hx.at_ hlt
   have Hx:=lh hxk;clear hxk
   by_cases h0:x < 0
   ·have HF:=lh (ycW Hx.out (inR_neg h0))
    go_wp2;go_ret;exact ⟨ya2 HF.out.symm,rfl⟩
   ·by_cases h1:(1099511627776:Int) < x
    ·have HF:=lh (ycW Hx.out (inR_big h1))
     go_wp2;go_ret;exact ⟨ya2 HF.out.symm,rfl⟩
    ·have HT:=lh (inR_ok (x:=x) om om)
     go_wp2
     go_round
     case rel=>exact ⟨k+1,by omega,by go_num,by rw [yba Hx.out,List.all_append,Hall.out];simp [HT.out]⟩
     case measure=>simp [intOf];omega
  ·go_wp2
   go_ret;exact ⟨ya2 (by have h1:=Hall.out;rw [List.take_of_length_le om] at h1;simp [ya5,h1];omega),rfl⟩
theorem bad_any (a:Int) (w:World):Calls Tryz.prog 196 #[.int .i64 a] w fun e w'=>e= .returned (.bool (!inR a))∧w=w':=by
 by_cases h0:a < 0
 ·have HF:=lh (inR_neg h0)
  go_enter Tryz.func196,Tryz.ntmps196;go_wp2;go_ret;exact ⟨ya2 (by simp [HF.out]),rfl⟩
 ·by_cases h1:(1099511627776:Int) < a
  ·have HF:=lh (inR_big h1)
   go_enter Tryz.func196,Tryz.ntmps196;go_wp2;go_ret;exact ⟨ya2 (by simp [HF.out]),rfl⟩
  ·have HT:=lh (inR_ok (x:=a) om om)
   go_enter Tryz.func196,Tryz.ntmps196;go_wp2;go_ret;exact ⟨ya2 (by simp [HT.out]),rfl⟩
def IdxPost (xs:List Int) (w:World) (e:Ending) (w':World):Prop:=∃r:Int,e= .returned (.int .i64 r)∧decide (0≤r)= !(xs.all inR)∧w=w'
theorem index_any (A:Option Addr) (xs:List Int) (c:Nat) (w:World) (B:Nat) (hx:SL I w B A xs) (hl:xs.length≤4611686018427387904):
 Calls Tryz.prog 241 #[.slice A xs.length c,.func (.func 196) #[] #[]] w (IdxPost xs w):=by
 go_enter Tryz.func241,Tryz.ntmps241;go_wp2
 go_loop [8] (fun i=>∃k:Nat,k≤xs.length∧i= .int .i64 k∧(xs.take k).all inR=true) (fun i=>xs.length - (intOf i).toNat)
 case atStart=>exact ⟨0,Nat.zero_le _,rfl,by simp⟩
 case round=>
  obtain ⟨k,hk,rfl,hall⟩:=hrel;have Hall:=lh hall;clear hall
  by_cases hlt:k < xs.length
  ·obtain ⟨b,off,x,rfl,_,hxk,hck⟩:=hx.at_ hlt
   have Hx:=lh hxk;clear hxk
   by_cases h0:inR x=true
   ·go_wp2_with (go_at_call 196;refine (bad_any _ _).mono ?_;rintro e w' ⟨rfl,rfl⟩)
    go_round
    case rel=>exact ⟨k+1,by omega,by go_num,by rw [yba Hx.out,List.all_append,Hall.out];simp [h0]⟩
    case measure=>simp [intOf];omega
   ·have h1:inR x=false:=by simpa using h0
    clear h0
    have HF:Hid (xs.all inR=false):=by
     exact ydr Hx.out h1
    go_wp2_with (go_at_call 196;refine (bad_any _ _).mono ?_;rintro e w' ⟨rfl,rfl⟩)
    go_ret;exact ⟨_,rfl,by rw [HF.out];simp,rfl⟩
  ·go_wp2
   go_ret;exact ⟨_,rfl,by have h1:=Hall.out;rw [List.take_of_length_le om] at h1;rw [h1];simp,rfl⟩
theorem contains_any (A:Option Addr) (xs:List Int) (c:Nat) (w:World) (B:Nat) (hx:SL I w B A xs) (hl:xs.length≤4611686018427387904):
 Calls Tryz.prog 195 #[.slice A xs.length c,.func (.func 196) #[] #[]] w fun e w'=>e= .returned (.bool (!(xs.all inR)))∧w=w':=by
 go_enter Tryz.func195,Tryz.ntmps195
 go_wp2_with (go_at_call 241;refine (index_any _ _ _ _ B hx hl).mono ?_;rintro e w' ⟨r,rfl,hr,rfl⟩;have HR:=lh hr;clear hr)
 go_ret;exact ⟨ya2 HR.out,rfl⟩
theorem yde (A:Option Addr) (xs:List Int) (c:Nat) (w:World) (B:Nat) (hx:SL I w B A xs) (hl:xs.length≤4611686018427387904):
 Calls Tryz.prog 143 #[.slice A xs.length c] w fun e w'=>e= .returned (.bool (ya5 xs))∧w=w':=by
 by_cases h:xs.length≤12
 ·go_enter Tryz.func143,Tryz.ntmps143
  go_wp2_with (go_at_call 195;refine (contains_any _ _ _ _ B hx hl).mono ?_;rintro e w' ⟨rfl,rfl⟩)
  go_ret;exact ⟨ya2 (by simp [ya5,h]),rfl⟩
 ·go_enter Tryz.func143,Tryz.ntmps143
  go_wp2;go_ret;exact ⟨ya2 (by simp [ya5];omega),rfl⟩
def av (x:List Int):Array Value:=(x.map I).toArray
theorem av_get {x:List Int} {k:Nat} (h:k < x.length):(av x)[k]? =some (.int .i64 (x.getD k 0)):=by simp [av,h]
theorem av_size (x:List Int):(av x).size=x.length:=by simp [av]
def Row12 (w:World) (g:Nat) (x:List Int):Prop:=∀k,k < 12→w.cell? ⟨g,k,none⟩=some (.int .i64 (x.getD k 0))
theorem Row12.of_block {w:World} {g:Nat} {x:List Int} {fr:Nat × Nat} {t:TypeId} (hx:x.length=12) (h:w.heap[g]? =some (.cells (av x) t fr)):Row12 w g x:=fun k hk=>by
 rw [cell_of_row w g k _ _ _ h,av_get om]
theorem Tryz.size3:(Tryz.prog.info? 3).map (·.size)=some 1:=by kernel_rfl
theorem Tryz.size57:(Tryz.prog.info? 212).map (·.size)=some 12:=by kernel_rfl
theorem Tryz.info3:(Tryz.prog.info? 3).map (fun i=>(i.zero,i.size,i.bytes))=some (some (.int .i64 0),1,8):=by kernel_rfl
abbrev Z12:List Value:=[.int .i64 0,.int .i64 0,.int .i64 0,.int .i64 0,.int .i64 0,.int .i64 0,.int .i64 0,.int .i64 0,.int .i64 0,.int .i64 0,.int .i64 0,.int .i64 0]
def pad (xs:List Int):List Int:=xs++List.replicate (12 - xs.length) 0
theorem pad_len {xs:List Int} (h:xs.length≤12):(pad xs).length=12:=by simp [pad];omega
theorem splice_pad {xs:List Int} (_h:xs.length≤12):splice Z12 0 (xs.map I)=(pad xs).map I:=by
 have e:splice Z12 0 (xs.map I)=xs.map I++Z12.drop xs.length:=by simp only [splice,List.take_zero,List.nil_append,Nat.zero_add,List.length_map]
 rw [e,show Z12=List.replicate 12 (Value.int .i64 0) from rfl,List.drop_replicate];simp [pad]
theorem av_one (xs:List Int):(av xs).all (·.oneCell')=true:=all_oneCell_toArray fun v hv=>by obtain ⟨y,_,rfl⟩:=List.mem_map.1 hv;rfl
theorem I_one (xs:List Int):∀v∈xs.map I,v.oneCell'=true:=fun v hv=>by obtain ⟨y,_,rfl⟩:=List.mem_map.1 hv;rfl
theorem padded_yes (A:Option Addr) (n:Nat) (xs:List Int) (c:Nat) (w:World) (B:Nat) (hx:Sl I w B A n xs) (hB:B≤w.heap.size) (hv:ya5 xs=true):
 Calls Tryz.prog 133 #[.slice A n c] w fun e w'=>e= .returned (.tuple #[.agg (av (pad xs)),.bool true])∧Below w.heap.size w w':=by
 obtain ⟨rfl,hx⟩:=hx;have hl:xs.length≤12:=by simp [ya5] at hv;exact hv.2
 have hb2:Below w.heap.size w ((w.alloc (.cells Z12.toArray 212)).alloc (.cells Z12.toArray 212)):=bl.alloc sI _;have HX:=lh (hx.up hb2 hB);have HB2:=lh hb2;have HC:=lh (splice_pad hl);have HS:Hid ((Tryz.prog.info? 212).map (·.size)=some (av (pad xs)).size):=by show _=_;rw [av_size,pad_len hl];exact Tryz.size57
 have HS2:Hid (Z12.toArray.size=(av (pad xs)).size):=by show _=_;rw [av_size,pad_len hl];rfl
 have HM:Hid ((xs.map I).length=Nat.min xs.length 12):=by show _=min _ _;simp;omega
 have HF:Hid (0+(xs.map I).length≤Z12.length):=by show _≤_;simp;omega
 have HP:Hid (0 < (xs.map I).length→∃ad,A=some ad∧∀j v,(xs.map I)[j]? =some v→((w.alloc (.cells Z12.toArray 212)).alloc (.cells Z12.toArray 212)).cell? (ad.add j)=some v):=
  fun h=>(hx.up hb2 hB).cells h
 clear hb2;go_enter Tryz.func133,Tryz.ntmps133
 go_wp2_with (first
  |(go_at_call 143;refine (yde _ _ _ _ B HX.out om).mono ?_;rintro e w' ⟨rfl,rfl⟩)
  |(with_reducible refine wpList_copy_splice (o:=⟨some 11,_,_,_,_,_⟩) rfl (.tmp 9) (.tmp 10) 27 27 rfl 3 Tryz.underlying27 Tryz.size3 _ _ _ _ _ _ rfl rfl (w.heap.size+1) 0 Z12 212 (heap_alloc2_new _ _ _) (xs.map I) HM.out (fun h=>⟨rfl,HP.out h⟩) HF.out (I_one xs) (w.heap.size+1) _ br nl ?_
    intro w1 HG hb1;have HG1:Hid (w1.heap[w.heap.size+1]? =some (.cells (av (pad xs)) 212 (0,0))):=by have h:=HG.out;rw [HC.out] at h;exact h
    have HR1:Hid (w1.heap[w.heap.size]? =some (.cells Z12.toArray 212 (0,0))):=(hb1.block w.heap.size om).trans (heap_alloc2_old w _ _);have HB1:Hid (Below w.heap.size w w1):=HB2.out.trans (hb1.mono om)
    clear HG hb1)
  |(with_reducible refine wpList_load_row (o:=⟨some 12,_,_,_,_,_⟩) rfl 212 (.tmp 4) rfl (w.heap.size+1) rfl 212 (av (pad xs)) (0,0) _ HG1.out Tryz.underlying212 rfl HS.out ?_)
  |(with_reducible refine ydx (o:=⟨none,_,_,_,_,_⟩) rfl 212 (.tmp 2) (.tmp 12) rfl w.heap.size 212 _ (av (pad xs)) rfl rfl HR1.out HS.out HS2.out (av_one _) w.heap.size _ HB1.out nl ?_
    intro w2 HG2 HB2 _))
 go_goals
 exact bodyPost_ret (ydp rfl rfl HG2.out Tryz.underlying212 HS.out) rfl ⟨rfl,HB2⟩
theorem padded_no (A:Option Addr) (n:Nat) (xs:List Int) (c:Nat) (w:World) (B:Nat) (hx:Sl I w B A n xs) (hB:B≤w.heap.size) (hl:n≤4611686018427387904) (hv:ya5 xs=false):
 Calls Tryz.prog 133 #[.slice A n c] w fun e w'=>e= .returned (.tuple #[.agg Z12.toArray,.bool false])∧Below w.heap.size w w':=by
 obtain ⟨rfl,hx⟩:=hx;have hb2:Below w.heap.size w ((w.alloc (.cells Z12.toArray 212)).alloc (.cells Z12.toArray 212)):=bl.alloc sI _;have HX:=lh (hx.up hb2 hB);clear hb2;go_enter Tryz.func133,Tryz.ntmps133
 go_wp2_with (go_at_call 143;refine (yde _ _ _ _ B HX.out hl).mono ?_;rintro e w' ⟨rfl,rfl⟩)
 exact bodyPost_ret (ydp rfl rfl (heap_alloc2_old w _ _) Tryz.underlying212 Tryz.size57) rfl ⟨rfl,bl.alloc sI _⟩
abbrev Z0:List Int:=[0,0,0,0,0,0,0,0,0,0,0,0]
def pd (xs:List Int):List Int:=if ya5 xs=true then pad xs else Z0
theorem pd_len (xs:List Int):(pd xs).length=12:=by
 unfold pd;split
 ·rename_i h;exact pad_len (by simp [ya5] at h;exact h.2)
 ·rfl
theorem pd_size57 (xs:List Int):(Tryz.prog.info? 212).map (·.size)=some (av (pd xs)).size:=by rw [av_size,pd_len];exact Tryz.size57
theorem pd_sizeZ (xs:List Int):Z12.toArray.size=(av (pd xs)).size:=by rw [av_size,pd_len];rfl
theorem padded_any (A:Option Addr) (n:Nat) (xs:List Int) (c:Nat) (w:World) (B:Nat) (hx:Sl I w B A n xs) (hB:B≤w.heap.size) (hl:n≤1000000):
 Calls Tryz.prog 133 #[.slice A n c] w fun e w'=>e= .returned (.tuple #[.agg (av (pd xs)),.bool (ya5 xs)])∧Below w.heap.size w w':=by
 by_cases h:ya5 xs=true
 ·rw [pd,if_pos h,h];exact padded_yes A n xs c w B hx hB h
 ·have h':ya5 xs=false:=by simpa using h
  rw [pd,if_neg h,h'];exact padded_no A n xs c w B hx hB om h'
theorem clone_any (b off n:Nat) (xs:List Int) (c:Nat) (w:World) (B:Nat) (hx:Sl I w B (some ⟨b,off,none⟩) n xs) (hB:B≤w.heap.size) (hl:n≤1000000):
 Calls Tryz.prog 190 #[.slice (some ⟨b,off,none⟩) n c] w (Slc I xs w):=by
 obtain ⟨rfl,hx⟩:=hx;have hb2:Below w.heap.size w (w.alloc (.cells #[] 3)):=bl;have HX:=lh (hx.up hb2 hB);have HO:Hid (Own I 3 (w.alloc (.cells #[] 3)) w.heap.size (.slice (some ⟨w.heap.size,0,none⟩) 0 0) []):=World.ownsRow_lit w #[] 0 nl yaS rfl;have HB2:=lh hb2;clear hb2;have HL1:Hid ((([]:List Int).length+xs.length)*8≤140737488355328):=by show _≤_;simp;omega
 have HL2:Hid (([]:List Int).length+xs.length≤maxLen):=by show _≤_;simp [maxLen];omega
 have hnil:=Lib.run_eql_slice_nil (P:=Tryz.prog) w 27 3 (some ⟨b,off,none⟩) xs.length c 0 0 Tryz.underlying27;obtain ⟨i0,hi,hz0,hz1,hz2⟩:=info_parts Tryz.info3;go_enter Tryz.func190,Tryz.ntmps190
 go_wp2_with (with_reducible refine ya8 (o:=⟨some 7,_,_,_,_,_⟩) rfl (.tmp 5) (.tmp 6) 27 rfl 3 i0 (.int .i64 0) 8 Tryz.underlying27 hi hz0 hz1 hz2 rfl (.slice (some ⟨w.heap.size,0,none⟩) 0 0) [] w.heap.size rfl HO.out _ _ _ B xs rfl HX.out.sl I1 HL1.out HL2.out HB2.out.size ?_;intro v1 w1 HO1 HG1 _)
 have HO2:=HO1.out;rw [List.nil_append] at HO2;obtain ⟨A',c',rfl,hc',hs',_⟩:=HO2.shape;go_ret;exact ⟨A',_,c',rfl,hc',hs'.sl,HB2.out.trans (yaY HG1.out (by simp [Value.ownBlock]) HB2.out.size)⟩
def nlen (x:List Int):Nat→Nat
 |0=>0
 |n+1=>if x.getD n 0=0 then nlen x n else n+1
def nrm (x:List Int):List Int:=x.take (nlen x x.length)
theorem nlen_le (x:List Int) (n:Nat):nlen x n≤n:=by
 induction n with
 |zero=>exact Nat.le_refl _
 |succ n ih=>unfold nlen;split<;>omega
theorem normal_any (x:List Int) (w:World) (hx:x.length=12):
 Calls Tryz.prog 134 #[.agg (av x)] w (Slc I (nrm x) w):=by
 have HA:Hid (At I (w.alloc (.cells (av x) 212)) w.heap.size 0 x):=At.of_block (heap_alloc_new w _);have HB:Hid (Below w.heap.size w (w.alloc (.cells (av x) 212))):=bl;have HX:=lh hx;clear hx;obtain ⟨i0,hi,hz0,hz1,hz2⟩:=info_parts Tryz.info3;clear hz0 hz1 hz2;go_enter Tryz.func134,Tryz.ntmps134;go_wp2
 go_loop [3] (fun i=>∃n:Nat,n≤12∧i= .int .i64 n∧nlen x n=nlen x 12) (fun i=>(intOf i).toNat)
 case atStart=>exact ⟨12,Nat.le_refl _,rfl,rfl⟩
 case round=>
  obtain ⟨n,hn,rfl,hnl⟩:=hrel;have HN:=lh hnl;clear hnl
  by_cases hgo:0 < n∧x.getD (n - 1) 0=0
  ·obtain ⟨m,rfl⟩:∃m,n=m+1:=⟨n - 1,by omega⟩
   have hz:x[m]? =some 0:=by
    obtain ⟨z,hz⟩:=ybn (xs:=x) (k:=m) (by rw [HX.out];omega)
    have:=hgo.2
    rw [Nat.add_sub_cancel,ybg hz] at this;rw [hz,this]
   have hc:=HA.out.zero hz
   have HN2:Hid (nlen x m=nlen x 12):=by
    rw [←HN.out];show _=nlen x (m+1);rw [nlen,ybg hz,if_pos rfl]
   clear hgo hz;go_wp2
   go_round
   case rel=>exact ⟨m,by omega,by go_num,HN2.out⟩
   case measure=>simp [intOf]
  ·have HE:Hid (nrm x=x.take n):=by
    show nrm x=_
    rw [nrm,HX.out,←HN.out]
    cases n with
    |zero=>rfl
    |succ m=>rw [nlen,if_neg (fun h=>hgo ⟨by omega,by simpa using h⟩)]
   have HSL:Hid (Sl I (w.alloc (.cells (av x) 212)) (w.heap.size+1) (some ⟨w.heap.size,0,none⟩) n (x.take n)):=
    ⟨by rw [List.length_take,HX.out];omega,(SL.of_block (heap_alloc_new w _) (Nat.lt_succ_self _)).take_ n⟩
   by_cases h0:n=0
   ·subst h0
    clear hgo;have hsl:=ycO (P:=Tryz.prog) 212 3 12 i0 Tryz.underlying212 hi w.heap.size 0 .i64 0 0 rfl hn (w.alloc (.cells (av x) 212))
    go_wp2_with (go_at_call 190;refine (clone_any _ _ _ (x.take 0) _ _ _ HSL.out sI om).mono ?_;rintro e w' ⟨A,r,c,rfl,h1,h2,h3⟩)
    go_ret;exact ⟨A,r,c,rfl,h1,by rw [HE.out];exact h2,HB.out.trans (h3.mono sI)⟩
   ·obtain ⟨m,rfl⟩:∃m,n=m+1:=⟨n - 1,by omega⟩
    obtain ⟨z,hz⟩:=ybn (xs:=x) (k:=m) (by rw [HX.out];omega);have hc:=HA.out.zero hz
    have hz1:(z==0)=false:=by
     have:¬z=0:=fun e=>hgo ⟨by omega,by rw [Nat.add_sub_cancel,ybg hz,e]⟩
     simpa using this
    have hsl:=ycO (P:=Tryz.prog) 212 3 12 i0 Tryz.underlying212 hi w.heap.size 0 .i64 ((m:Int)+1) (m+1) om hn (w.alloc (.cells (av x) 212));clear hgo h0 hz
    go_wp2_with (go_at_call 190;refine (clone_any _ _ _ (x.take (m+1)) _ _ _ HSL.out sI om).mono ?_;rintro e w' ⟨A,r,c,rfl,h1,h2,h3⟩)
    go_ret;exact ⟨A,r,c,rfl,h1,by rw [HE.out];exact h2,HB.out.trans (h3.mono sI)⟩
def gv (xs:List Int) (d:Int):Int:=if d < 0 then 0 else xs.getD d.toNat 0
theorem gv_nat (xs:List Int) (k:Nat):gv xs k=xs.getD k 0:=by rw [gv,if_neg om,Int.toNat_natCast]
theorem rnormal_any (A:Option Addr) (n:Nat) (xs:List Int) (c:Nat) (w:World) (B:Nat) (hx:Sl I w B A n xs) (hB:B≤w.heap.size) (hl:n≤1000000) (hcap:n≤c):
 Calls Tryz.prog 121 #[.slice A n c] w (Slc I (nrm xs) w):=by
 obtain ⟨rfl,hx⟩:=hx;have HX:=lh hx;clear hx;obtain ⟨i0,hi,hz0,hz1,hz2⟩:=info_parts Tryz.info3;have HI:=lh hi;have HZ0:=lh hz0;have HZ1:=lh hz1;have HZ2:=lh hz2;clear hi hz0 hz1 hz2;go_enter Tryz.func121,Tryz.ntmps121;go_wp2
 go_loop [3] (fun i=>∃m:Nat,m≤xs.length∧i= .int .i64 m∧Hid (nlen xs m=nlen xs xs.length)) (fun i=>(intOf i).toNat)
 case atStart=>exact ⟨xs.length,Nat.le_refl _,rfl,rfl⟩
 case round=>
  obtain ⟨n,hn,rfl,HN⟩:=hrel
  by_cases hgo:0 < n∧xs.getD (n - 1) 0=0
  ·obtain ⟨m,rfl⟩:∃m,n=m+1:=⟨n - 1,by omega⟩
   obtain ⟨b,off,z,rfl,_,hz,hc⟩:=HX.out.at_ (k:=m) om;have hz0:z=0:=by have:=hgo.2;rwa [Nat.add_sub_cancel,ybg hz] at this
   subst hz0
   have HN2:Hid (nlen xs m=nlen xs xs.length):=by
    rw [←HN.out];show _=nlen xs (m+1);rw [nlen,ybg hz,if_pos rfl]
   clear hgo hz;go_wp2
   go_round
   case rel=>exact ⟨m,by omega,by go_num,HN2⟩
   case measure=>simp [intOf]
  ·have HE:Hid (nrm xs=xs.take n):=by
    show nrm xs=_
    rw [nrm,←HN.out]
    cases n with
    |zero=>rfl
    |succ m=>rw [nlen,if_neg (fun h=>hgo ⟨by omega,by simpa using h⟩)]
   have HB2:Hid (Below w.heap.size w (w.alloc (.cells #[] 3))):=bl;have HSL:Hid (Sl I (w.alloc (.cells #[] 3)) B A n (xs.take n)):=⟨by rw [List.length_take];omega,(HX.out.take_ n).up HB2.out hB⟩;have HO:Hid (Own I 3 (w.alloc (.cells #[] 3)) w.heap.size (.slice (some ⟨w.heap.size,0,none⟩) 0 0) []):=World.ownsRow_lit w #[] 0 nl yaS rfl;have HL1:Hid ((([]:List Int).length+(xs.take n).length)*8≤140737488355328):=by show _≤_;simp;omega
   have HL2:Hid (([]:List Int).length+(xs.take n).length≤maxLen):=by show _≤_;simp [maxLen];omega
   by_cases h0:n=0
   ·subst h0
    clear hgo;have hsl:=ybs (P:=Tryz.prog) 27 3 i0 Tryz.underlying27 HI.out A xs.length c .i64 0 0 rfl om (w.alloc (.cells #[] 3))
    go_wp2_with (with_reducible refine ya8 (o:=⟨some 22,_,_,_,_,_⟩) rfl (.tmp 18) (.tmp 21) 27 rfl 3 i0 (.int .i64 0) 8 Tryz.underlying27 HI.out HZ0.out HZ1.out HZ2.out rfl (.slice (some ⟨w.heap.size,0,none⟩) 0 0) [] w.heap.size rfl HO.out _ _ _ B (xs.take 0) rfl HSL.out I1 HL1.out HL2.out HB2.out.size ?_;intro v1 w1 HO1 HG1 _)
    obtain ⟨A',c',rfl,hc',hs',_⟩:=HO1.out.shape;go_ret;exact ⟨A',_,c',rfl,hc',by rw [HE.out];exact hs'.sl,HB2.out.trans (yaY HG1.out (by simp [Value.ownBlock]) HB2.out.size)⟩
   ·obtain ⟨m,rfl⟩:∃m,n=m+1:=⟨n - 1,by omega⟩
    obtain ⟨b,off,z,rfl,_,hz,hc⟩:=HX.out.at_ (k:=m) om
    have hz1:(z==0)=false:=by
     have:¬z=0:=fun e=>hgo ⟨by omega,by rw [Nat.add_sub_cancel,ybg hz,e]⟩
     simpa using this
    clear hgo h0 hz;have hsl:=ybs (P:=Tryz.prog) 27 3 i0 Tryz.underlying27 HI.out (some ⟨b,off,none⟩) xs.length c .i64 ((m:Int)+1) (m+1) om om (w.alloc (.cells #[] 3))
    go_wp2_with (with_reducible refine ya8 (o:=⟨some 22,_,_,_,_,_⟩) rfl (.tmp 18) (.tmp 21) 27 rfl 3 i0 (.int .i64 0) 8 Tryz.underlying27 HI.out HZ0.out HZ1.out HZ2.out rfl (.slice (some ⟨w.heap.size,0,none⟩) 0 0) [] w.heap.size rfl HO.out _ _ _ B (xs.take (m+1)) rfl HSL.out I1 HL1.out HL2.out HB2.out.size ?_;intro v1 w1 HO1 HG1 _)
    obtain ⟨A',c',rfl,hc',hs',_⟩:=HO1.out.shape;go_ret;exact ⟨A',_,c',rfl,hc',by rw [HE.out];exact hs'.sl,HB2.out.trans (yaY HG1.out (by simp [Value.ownBlock]) HB2.out.size)⟩
theorem ints_any (A A':Option Addr) (n n':Nat) (xs ys:List Int) (c c':Nat) (w:World) (B:Nat) (hx:Sl I w B A n xs) (hy:Sl I w B A' n' ys) (hl:n≤1000000) (hl':n'≤1000000):
 Calls Tryz.prog 23 #[.slice A n c,.slice A' n' c'] w fun e w'=>e= .returned (.bool (decide (xs=ys)))∧∃r,w'=w.drewN r:=by
 obtain ⟨rfl,hx⟩:=hx;obtain ⟨rfl,hy⟩:=hy;have HX:=lh hx;have HY:=lh hy;clear hx hy
 by_cases he:xs.length=ys.length
 ·have HE:=lh he
  have hd:((xs.length:Int) != (ys.length:Int))=false:=by simp;omega
  have hl2:xs.length≤ys.length:=by omega
  clear he;go_enter Tryz.func23,Tryz.ntmps23;go_wp2
  go_loopw [5] (fun i wr=>∃k:Nat,k≤xs.length∧i= .int .i64 k∧Hid (xs.take k=ys.take k)∧Hid (∃r,wr=w.drewN r)) (fun i _=>xs.length - (intOf i).toNat)
  case atStart=>exact ⟨0,by omega,rfl,by show _=_;simp,⟨0,rfl⟩⟩
  case round=>
   obtain ⟨k,hk,rfl,HT,HR⟩:=hrel;obtain ⟨r,hr⟩:=HR.out;subst hr;clear HR
   by_cases hlt:k < xs.length
   ·obtain ⟨b,off,x,rfl,_,hxk,hc⟩:=HX.out.at_ (k:=k) om
    obtain ⟨b',off',y,rfl,_,hyk,hc'⟩:=HY.out.at_ (k:=k) om;have hlt':k < ys.length:=by omega
    have HXk:=lh hxk;have HYk:=lh hyk;clear hxk hyk
    by_cases hne:x=y
    ·subst hne
     have hb:(x != x)=false:=by simp
     go_wp2
     go_quiet (fail)
     go_wp2
     go_roundw
     case rel=>exact ⟨k+1,by omega,by go_num,by show _=_;rw [yba HXk.out,yba HYk.out,HT.out],_,rfl⟩
     case measure=>simp [intOf];omega
    ·have hb:(x != y)=true:=by simpa using hne
     have HF:Hid (decide (xs=ys)=false):=by
      show _=_
      simp only [decide_eq_false_iff_not];rintro rfl
      have:=HXk.out.symm.trans HYk.out
      simp at this;exact hne this
     clear hne;go_wp2
     go_quiet (fail)
     go_wp2;go_ret;exact ⟨ya2 HF.out.symm,_,World.drewN_drewN _ _ _⟩
   ·have HF:Hid (decide (xs=ys)=true):=by
     show _=_
     have:=HT.out
     rw [List.take_of_length_le om,List.take_of_length_le (by have:=HE.out;omega)] at this;simpa using this
    go_wp2;go_ret;exact ⟨ya2 HF.out.symm,_,rfl⟩
 ·have HF:Hid (decide (xs=ys)=false):=by
   show _=_
   simp only [decide_eq_false_iff_not];rintro rfl;exact he rfl
  have hd:((xs.length:Int) != (ys.length:Int))=true:=by simp;omega
  clear he;go_enter Tryz.func23,Tryz.ntmps23;go_wp2;go_ret;exact ⟨ya2 HF.out.symm,0,rfl⟩
theorem nlen_pad (xs:List Int):∀m,xs.length+m≤(pad xs).length→nlen (pad xs) (xs.length+m)=nlen xs xs.length:=by
 have hg:∀k,(pad xs).getD k 0=xs.getD k 0:=by
  intro k;simp only [pad,List.getD_eq_getElem?_getD,List.getElem?_append]
  split
  ·rfl
  ·rename_i h
   rw [List.getElem?_eq_none (l:=xs) om];simp only [List.getElem?_replicate]
   split<;>rfl
 have hn:∀k,nlen (pad xs) k=nlen xs k:=by
  intro k
  induction k with
  |zero=>rfl
  |succ k ih=>rw [nlen,nlen,hg,ih]
 intro m
 induction m with
 |zero=>intro _;rw [Nat.add_zero,hn]
 |succ m ih=>
  intro h;rw [←Nat.add_assoc,nlen,if_pos,ih om];rw [hg,List.getD_eq_getElem?_getD,List.getElem?_eq_none om];rfl
theorem nrm_pad {xs:List Int} (h:xs.length≤12):nrm (pad xs)=nrm xs:=by
 have h1:=nlen_pad xs (12 - xs.length) (by rw [pad_len h];omega);have h2:xs.length+(12 - xs.length)=12:=by omega
 rw [h2] at h1;rw [nrm,nrm,pad_len h,h1,pad,List.take_append_of_le_length (nlen_le _ _)]
theorem pad_getD (xs:List Int) (k:Nat):(pad xs).getD k 0=xs.getD k 0:=by
 simp only [pad,List.getD_eq_getElem?_getD,List.getElem?_append]
 split
 ·rfl
 ·rename_i h
  rw [List.getElem?_eq_none (l:=xs) om];simp only [List.getElem?_replicate]
  split<;>rfl
theorem pd_yes {xs:List Int} (h:ya5 xs=true):pd xs=pad xs:=if_pos h
theorem ycX {xs:List Int} (h:ya5 xs=true):xs.length≤12:=by simp [ya5] at h;exact h.2
theorem inR_getD {x:List Int} (h:x.all inR=true) (k:Nat):0≤x.getD k 0∧x.getD k 0≤1099511627776:=by
 rcases Nat.lt_or_ge k x.length with hk |hk
 ·obtain ⟨z,hz⟩:=ybn hk
  rw [ybg hz]
  have:=List.all_eq_true.1 h z (List.mem_of_getElem? hz)
  simpa [inR] using this
 ·rw [List.getD_eq_getElem?_getD,List.getElem?_eq_none hk];decide
theorem pad_inR {xs:List Int} (h:ya5 xs=true):(pad xs).all inR=true:=by
 simp only [ya5,Bool.and_eq_true] at h;rw [pad,List.all_append,h.1,Bool.true_and,List.all_eq_true];intro z hz;rw [List.eq_of_mem_replicate hz];rfl
theorem getD_out {x:List Int} {k:Nat} (h:x.length≤k):x.getD k 0=0:=by rw [List.getD_eq_getElem?_getD,List.getElem?_eq_none h];rfl
theorem nlen_congr {x y:List Int} (h:∀j,x.getD j 0=y.getD j 0) (n:Nat):nlen x n=nlen y n:=by
 induction n with
 |zero=>rfl
 |succ n ih=>rw [nlen,nlen,h,ih]
theorem nlen_out (x:List Int) (m:Nat):nlen x (x.length+m)=nlen x x.length:=by
 induction m with
 |zero=>rfl
 |succ m ih=>rw [←Nat.add_assoc,nlen,if_pos (getD_out om),ih]
theorem nlen_len (x:List Int) (n:Nat):nlen x n≤x.length:=by
 rcases Nat.lt_or_ge x.length n with h |h
 ·obtain ⟨m,rfl⟩:∃m,n=x.length+m:=⟨n - x.length,by omega⟩
  rw [nlen_out];exact nlen_le _ _
 ·exact Nat.le_trans (nlen_le _ _) h
theorem take_congr {x y:List Int} (h:∀j,x.getD j 0=y.getD j 0) {n:Nat} (hx:n≤x.length) (hy:n≤y.length):x.take n=y.take n:=by
 apply List.ext_getElem?;intro j;rw [List.getElem?_take,List.getElem?_take]
 split
 ·rename_i hj
  obtain ⟨a,ha⟩:=ybn (xs:=x) (k:=j) om;obtain ⟨b,hb⟩:=ybn (xs:=y) (k:=j) om
  have:=h j
  rw [ybg ha,ybg hb] at this;rw [ha,hb,this]
 ·rfl
theorem nrm_congr {x y:List Int} (h:∀j,x.getD j 0=y.getD j 0):nrm x=nrm y:=by
 have e:nlen x x.length=nlen y y.length:=by
  have h1:=nlen_out x y.length;have h2:=nlen_out y x.length;rw [←h1,←h2,nlen_congr h,Nat.add_comm]
 rw [nrm,nrm,e];exact take_congr h (by rw [←e];exact nlen_len _ _) (nlen_len _ _)
theorem nlen_zero {x:List Int} {n j:Nat} (h1:nlen x n≤j) (h2:j < n):x.getD j 0=0:=by
 induction n with
 |zero=>omega
 |succ n ih=>
  rw [nlen] at h1
  split at h1
  ·rename_i h0
   by_cases hj:j=n
   ·rw [hj,h0]
   ·exact ih h1 om
  ·omega
theorem nrm_getD (x:List Int) (j:Nat):(nrm x).getD j 0=x.getD j 0:=by
 rw [nrm,List.getD_eq_getElem?_getD,List.getElem?_take]
 split
 ·rw [List.getD_eq_getElem?_getD]
 ·rename_i h
  rcases Nat.lt_or_ge j x.length with hj |hj
  ·rw [nlen_zero (x:=x) (n:=x.length) om hj];rfl
  ·rw [getD_out hj];rfl
theorem nrm_nrm (x:List Int):nrm (nrm x)=nrm x:=nrm_congr (nrm_getD x)
theorem valid_of_getD {x:List Int} (hl:x.length≤12) (h:∀j,0≤x.getD j 0∧x.getD j 0≤1099511627776):ya5 x=true:=by
 simp only [ya5,Bool.and_eq_true,decide_eq_true_eq];refine ⟨List.all_eq_true.2 fun z hz=>?_,hl⟩;obtain ⟨j,hj,rfl⟩:=List.mem_iff_getElem.1 hz
 have:=h j
 rw [ybg (List.getElem?_eq_getElem hj)] at this;simp [inR,this]
theorem valid_getD {x:List Int} (h:ya5 x=true) (k:Nat):0≤x.getD k 0∧x.getD k 0≤1099511627776:=inR_getD (by simp only [ya5,Bool.and_eq_true] at h;exact h.1) k
