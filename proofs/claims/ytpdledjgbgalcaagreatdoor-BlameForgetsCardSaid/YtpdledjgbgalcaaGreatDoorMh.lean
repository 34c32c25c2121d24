/- Encode. The reference: Uint, Encode. Decode: what it computes. Decode: the walk. Decode, the plain law: what was encoded is decoded to the normal form, and only encodings of normal vectors are decoded. Decode: the walk. -/
import Derived.Test.YtpdledjgbgalcaaGreatDoorMy
import Derived.Test.YtpdledjgbgalcaaGreatDoorMa
import Derived.Test.YtpdledjgbgalcaaGreatDoorPa
import Derived.Test.YtpdledjgbgalcaaGreatDoorMb
namespace Go.Proofs.YtpdledjgbgalcaaGreatDoor
set_option maxRecDepth 20000
set_option maxHeartbeats 1000000
open Go.RowKit
set_option linter.unusedVariables false
set_option linter.unusedSimpArgs false
def encL (xs:List Int):List Int:=xs.flatMap fun x=>enc x.toNat
def encV (xs:List Int):List Int:=enc (nrm xs).length++encL (nrm xs)
theorem encL_len (xs:List Int):(encL xs).length≤10*xs.length:=by
 induction xs with
 |nil=>simp [encL]
 |cons x xs ih=>
  have:=ya1 x.toNat
  simp only [encL,List.flatMap_cons,List.length_append,List.length_cons] at ih ⊢;omega
theorem encL_snoc (xs:List Int) (x:Int):encL (xs++[x])=encL xs++enc x.toNat:=by simp [encL]
theorem nrm_inR {xs:List Int} (h:xs.all inR=true):(nrm xs).all inR=true:=by
 rw [List.all_eq_true] at h ⊢;exact fun z hz=>h z (List.mem_of_mem_take hz)
theorem nrm_len (xs:List Int):(nrm xs).length≤xs.length:=by rw [nrm,List.length_take];omega
def EncPost (xs:List Int) (w:World) (e:Ending) (w':World):Prop:=
 (ya5 xs=true∧Slc2 fB (encV xs) 0 w e w')∨(ya5 xs=false∧Slc2 fB ([]:List Int) 1 w e w')
theorem encode_any (A:Option Addr) (n:Nat) (xs:List Int) (c:Nat) (w:World) (B:Nat) (hx:Sl I w B A n xs) (hB:B≤w.heap.size) (hl:n≤1000000):
 Calls Tryz.prog 69 #[.slice A n c] w (EncPost xs w):=by
 have HX:=lh hx;clear hx;obtain ⟨px,hpx⟩:∃p,p=pd xs:=⟨_,rfl⟩
 have c1:Hid (∀W,Sl I W B A n xs→B≤W.heap.size→Calls Tryz.prog 133 #[.slice A n c] W fun e w'=>e= .returned (.tuple #[.agg (av px),.bool (ya5 xs)])∧Below W.heap.size W w'):=fun W h hb=>by rw [hpx];exact padded_any A n xs c W B h hb hl
 have S1:Hid ((Tryz.prog.info? 212).map (·.size)=some (av px).size):=hpx▸pd_size57 xs;have T1:Hid (Z12.toArray.size=(av px).size):=hpx▸pd_sizeZ xs;have L1:Hid (px.length=12):=hpx▸pd_len xs;have HPX:=lh hpx;clear hpx
 by_cases hv:ya5 xs=true
 ·have HN:Hid (nrm px=nrm xs):=by show _=_;rw [HPX.out,pd_yes hv,nrm_pad (ycX hv)]
  have HNR:Hid ((nrm px).all inR=true):=nrm_inR (by rw [HPX.out,pd_yes hv];exact pad_inR hv);have HNL:Hid ((nrm px).length≤12):=by show _≤_;have:=nrm_len px;have:=L1.out;omega
  have HV:=lh hv;go_enter Tryz.func69,Tryz.ntmps69
  go_wp2_with fail
  refine (c1.out _ HX.out hB).mono ?_;rintro e w1 ⟨rfl,hb1⟩;have HB1:=lh hb1;have hs1:=hb1.size;clear hb1
  go_wp2_with (first
   |(with_reducible refine ya3 (o:=⟨none,.store 212 (.tmp 4) (.tmp 13),_,_,_,_⟩) rfl 212 (.tmp 4) (.tmp 13) rfl 212 Z12.toArray (av px) rfl rfl S1.out T1.out (av_one _) ?_)
   |(with_reducible refine wpList_load_row (o:=⟨some 17,_,_,_,_,_⟩) rfl 212 (.tmp 4) rfl w1.heap.size rfl 212 (av px) (0,0) _ (heap_alloc_new w1 _) Tryz.underlying212 rfl S1.out ?_)
   |(go_at_call 134;refine (normal_any _ _ L1.out).mono ?_;rintro e w2 ⟨A2,n2,c2,rfl,h1,h2,h3⟩
     have H2:=lh h2;have HB2:Hid (Below w.heap.size w w2):=(HB1.out.alloc hs1 _).trans (h3.mono yaW);have hs2:=HB2.out.size;have hn2:n2≤12:=by rw [←h2.1];exact HNL.out
     have HL2:Hid ((nrm px).length=n2):=h2.1
     clear h2 h3)
   |(go_at_call 72;refine (ybR _).mono ?_;rintro e w3 ⟨rfl,rfl⟩)
   |(go_at_call 76;refine (wcount_any w2.heap.size (w2.heap.size+1) _ [] n2 _ (Wr.new w2) om sI).mono ?_;rintro e w4 ⟨v4,rfl,hwr4,hb4,hn4⟩
     have HW4:Hid (Wr w4 w2.heap.size (w2.heap.size+1) v4 (enc n2)):=by have h:=hwr4;rw [List.nil_append] at h;exact h
     have HB4:Hid (Below w2.heap.size w2 w4):=bl.trans (hb4.below sI fun i hi=>by
      rcases hi with rfl |hi
      ·exact Nat.le_refl _
      ·simp [Value.ownBlock] at hi)
     clear hwr4 hb4 hn4))
  go_loopw [26] (fun i wr=>∃(k:Nat) (v:Value),k≤n2∧i= .int .i64 k∧Hid (Wr wr w2.heap.size (w2.heap.size+1) v (enc n2++encL ((nrm px).take k)))∧Hid (Below w2.heap.size w2 wr)) (fun i _=>n2 - (intOf i).toNat)
  case atStart=>exact ⟨0,v4,by omega,rfl,by show Wr _ _ _ _ _;rw [List.take_zero];simp only [encL,List.flatMap_nil,List.append_nil];exact HW4.out,HB4⟩
  case round=>
   obtain ⟨k,v,hk,rfl,HW,HBk⟩:=hrel;clear HW4 HB4
   have hbl:(enc n2++encL ((nrm px).take k)).length≤130:=by
    have h1:=ya1 n2;have h2:=encL_len ((nrm px).take k);rw [List.length_append];rw [List.length_take] at h2;omega
   by_cases hlt:k < n2
   ·obtain ⟨b,off,x,rfl,_,hxk,hc⟩:=SL.at_ (H2.out.up HBk.out nl).2 (k:=k) (by rw [HL2.out];exact hlt)
    have hxr:=List.all_eq_true.1 HNR.out x (List.mem_of_getElem? hxk);simp only [inR,Bool.and_eq_true,decide_eq_true_eq] at hxr;obtain ⟨m,rfl⟩:∃m:Nat,x=m:=⟨x.toNat,by omega⟩
    have hm:m≤1099511627776:=by omega
    have HT:Hid (enc n2++encL ((nrm px).take (k+1))=(enc n2++encL ((nrm px).take k))++enc m):=by
     show _=_
     rw [yba hxk,encL_snoc,Int.toNat_natCast,List.append_assoc]
    have HC:=lh (ybp w2.heap.size (w2.heap.size+1) v _ m wr HW.out om om);have HWN:=HW;clear hxk hxr
    go_wp2_with (first
     |(go_at_call 73;refine HC.out.mono ?_;rintro e w5 ⟨v5,rfl,hwr5,hb5,hn5⟩
       have HW5:=lh hwr5
       have HB5:Hid (Below w2.heap.size wr w5):=hb5.below HBk.out.size fun i hi=>by
        rcases hi with rfl |hi
        ·exact Nat.le_refl _
        ·have:=(World.ownsRow.lt HWN.out.2.1 i hi).1;omega
       clear hwr5 hb5 hn5))
    go_roundw
    case rel=>exact ⟨k+1,v5,by omega,by go_num,by show Wr _ _ _ _ _;rw [HT.out];exact HW5.out,HBk.out.trans HB5.out⟩
    case measure=>simp [intOf];omega
   ·obtain rfl:k=n2:=by omega
    have HD:=lh (ycP w2.heap.size (w2.heap.size+1) v _ wr HW.out om)
    have HTT:Hid (enc k++encL ((nrm px).take k)=encV xs):=by
     show _=_
     rw [List.take_of_length_le (by have:=HL2.out;omega),encV,←HN.out,HL2.out]
    go_wp2_with (go_at_call 78;refine HD.out.mono ?_;rintro e w6 ⟨A6,n6,c6,rfl,h1,h2,h3⟩)
    go_ret2;exact .inl ⟨HV.out,A6,n6,c6,rfl,h1,by rw [←HTT.out];exact h2,HB2.out.trans ((HBk.out.mono hs2).trans (h3.mono (by have:=HBk.out.size;omega)))⟩
 ·have hv':ya5 xs=false:=by simpa using hv
  have HF:=lh hv';clear hv;go_enter Tryz.func69,Tryz.ntmps69
  go_wp2_with fail
  refine (c1.out _ HX.out hB).mono ?_;rintro e w1 ⟨rfl,hb1⟩;have HB1:=lh hb1;have hs1:=hb1.size;clear hb1
  go_wp2_with (with_reducible refine ya3 (o:=⟨none,.store 212 (.tmp 4) (.tmp 13),_,_,_,_⟩) rfl 212 (.tmp 4) (.tmp 13) rfl 212 Z12.toArray (av px) rfl rfl S1.out T1.out (av_one _) ?_)
  all_goals (go_ret2;exact .inr ⟨HF.out,none,0,0,rfl,Nat.le_refl _,⟨rfl,SL.nil⟩,HB1.out.alloc hs1 _⟩)
def OwnB (bs:List Int) (w:World) (e:Ending) (w':World):Prop:=∃v,e= .returned v∧Own fB 5 w' w.heap.size v bs∧Below w.heap.size w w'
theorem ruint_any (n:Nat) (w:World) (hn:n≤1099511627776):Calls Tryz.prog 138 #[.int .i64 n] w (OwnB (enc n) w):=by
 obtain ⟨i0,hi,hz0,hz1,hz2⟩:=info_parts Tryz.infoB;have HI:=lh hi;have HZ0:=lh hz0;have HZ1:=lh hz1;have HZ2:=lh hz2;clear hi hz0 hz1 hz2;have HO0:Hid (Own fB 5 (w.alloc (.cells #[] 5)) w.heap.size (.slice (some ⟨w.heap.size,0,none⟩) 0 0) []):=World.ownsRow_lit w #[] 0 nl yaS rfl;have HB0:Hid (Below w.heap.size w (w.alloc (.cells #[] 5))):=bl;go_enter Tryz.func138,Tryz.ntmps138;go_wp2
 go_loopw [0,3] (fun i u wr=>∃(k m:Nat) (out:List Int),i= .int .i64 m∧m≤1099511627776∧Hid (m < 128 ^ k)∧0 < k∧k≤10∧out.length+k≤10∧Hid (out++encF k m=enc n)∧Hid (Own fB 5 wr w.heap.size u out)∧Hid (Below w.heap.size w wr)) (fun i _ _=>(intOf i).toNat)
 case atStart=>exact ⟨10,n,[],rfl,hn,by show _ < _;omega,by omega,by omega,by simp,rfl,HO0,HB0⟩
 case round=>
  obtain ⟨k,m,out,rfl,hm,HM,hk1,hk,hol,HE,HO,HB⟩:=hrel;clear HO0 HB0;have HL1:Hid ((out.length+1)*1≤140737488355328):=by show _≤_;omega
  have HL2:Hid (out.length+1≤maxLen):=by show _≤_;unfold maxLen;omega
  obtain ⟨k,rfl⟩:∃k',k=k'+1:=⟨k - 1,by omega⟩
  by_cases hge:128≤m
  ·have hmm:((m:Int) % 128+128) % 256=(m:Int) % 128+128:=by omega
   have HM2:Hid (m / 128 < 128 ^ k):=by show _ < _;have:=HM.out;rw [Nat.pow_succ] at this;omega
   have hk0:0 < k:=by
    have:=HM2.out
    rcases k with _ |k
    ·rw [Nat.pow_zero] at this;omega
    ·omega
   have HE2:Hid ((out++[(m:Int) % 128+128])++encF k (m / 128)=enc n):=by
    show _=_
    rw [←HE.out,encF,if_neg om,List.append_assoc]
    congr 1
   go_wp2_with (with_reducible refine ya4 (o:=⟨some 13,_,_,_,_,_⟩) rfl (.tmp 7) (.tmp 12) 40 rfl 5 i0 (.int .u8 0) 1 Tryz.underlying40 HI.out HZ0.out HZ1.out HZ2.out rfl _ out w.heap.size rfl HO.out ((m:Int) % 128+128) 1 rfl fB1 HL1.out HL2.out HB.out.size ?_;intro v1 w1 HO1 HG1 _)
   go_roundw
   case rel=>exact ⟨k,m / 128,out++[(m:Int) % 128+128],by first |rfl |go_num,by omega,HM2,hk0,by omega,by rw [List.length_append];simp only [List.length_cons,List.length_nil];omega,HE2,HO1,HO.out.below HB.out nl HB.out.size HG1.out⟩
   case measure=>simp [intOf];omega
  ·have hmm:(m:Int) % 256=m:=by omega
   have HE2:Hid (out++[(m:Int)]=enc n):=by
    show _=_
    rw [←HE.out,encF,if_pos om]
   go_wp2_with (with_reducible refine ya4 (o:=⟨some 20,_,_,_,_,_⟩) rfl (.tmp 16) (.tmp 19) 40 rfl 5 i0 (.int .u8 0) 1 Tryz.underlying40 HI.out HZ0.out HZ1.out HZ2.out rfl _ out w.heap.size rfl HO.out (m:Int) 1 rfl fB1 HL1.out HL2.out HB.out.size ?_;intro v1 w1 HO1 HG1 _)
   go_ret;exact ⟨v1,rfl,by rw [←HE2.out];exact HO1.out,HO.out.below HB.out nl HB.out.size HG1.out⟩
theorem rencodeY_any (A:Option Addr) (n:Nat) (xs:List Int) (c:Nat) (w:World) (B:Nat) (hx:Sl I w B A n xs) (hB:B≤w.heap.size) (hl:n≤1000000) (hcap:n≤c) (hv:ya5 xs=true):
 Calls Tryz.prog 80 #[.slice A n c] w (Slc fB (encV xs) w):=by
 have HNR:Hid ((nrm xs).all inR=true):=nrm_inR (by simp only [ya5,Bool.and_eq_true] at hv;exact hv.1);have HNL:Hid ((nrm xs).length≤12):=by show _≤_;have:=nrm_len xs;have:=ycX hv;omega
 have HC:=lh (rnormal_any A n xs c w B hx hB hl hcap);clear hx hv;obtain ⟨i0,hi,hz0,hz1,hz2⟩:=info_parts Tryz.infoB;have HI:=lh hi;have HZ0:=lh hz0;have HZ1:=lh hz1;have HZ2:=lh hz2;clear hi hz0 hz1 hz2;go_enter Tryz.func80,Tryz.ntmps80
 go_wp2_with fail
 refine HC.out.mono ?_;rintro e w2 ⟨A2,n2,c2,rfl,h1,h2,h3⟩;have H2:=lh h2;have HB2:=lh h3;have hs2:=h3.size;have hn2:n2≤12:=by rw [←h2.1];exact HNL.out
 have HL2:Hid ((nrm xs).length=n2):=h2.1;clear h2 h3
 go_wp2_with fail
 refine (ruint_any n2 _ om).mono ?_;rintro e w3 ⟨v3,rfl,ho3,hb3⟩;have HO3:Hid (Own fB 5 w3 w2.heap.size v3 (enc n2++encL ((nrm xs).take 0))):=by show Own _ _ _ _ _ _;rw [List.take_zero];simp only [encL,List.flatMap_nil,List.append_nil];exact ho3
 have HB3:=lh hb3;clear ho3 hb3;go_wp2
 go_loopw [4,5] (fun u i wr=>∃(k:Nat),k≤n2∧i= .int .i64 k∧Hid (Own fB 5 wr w2.heap.size u (enc n2++encL ((nrm xs).take k)))∧Hid (Below w2.heap.size w2 wr)) (fun _ i _=>n2 - (intOf i).toNat)
 case atStart=>exact ⟨0,by omega,rfl,HO3,HB3⟩
 case round=>
  obtain ⟨k,hk,rfl,HO,HBk⟩:=hrel;clear HO3 HB3
  have hbl:(enc n2++encL ((nrm xs).take k)).length≤130:=by
   have h1:=ya1 n2;have h2:=encL_len ((nrm xs).take k);rw [List.length_append];rw [List.length_take] at h2;omega
  by_cases hlt:k < n2
  ·obtain ⟨b,off,x,rfl,_,hxk,hc⟩:=SL.at_ (H2.out.up HBk.out nl).2 (k:=k) (by rw [HL2.out];exact hlt)
   have hxr:=List.all_eq_true.1 HNR.out x (List.mem_of_getElem? hxk);simp only [inR,Bool.and_eq_true,decide_eq_true_eq] at hxr;obtain ⟨m,rfl⟩:∃m:Nat,x=m:=⟨x.toNat,by omega⟩
   have hm:m≤1099511627776:=by omega
   have HT:Hid (enc n2++encL ((nrm xs).take (k+1))=(enc n2++encL ((nrm xs).take k))++enc m):=by
    show _=_
    rw [yba hxk,encL_snoc,Int.toNat_natCast,List.append_assoc]
   clear hxk hxr
   go_wp2_with fail
   refine (ruint_any m _ hm).mono ?_;rintro e w5 ⟨v5,rfl,ho5,hb5⟩;obtain ⟨A5,c5,hv5,_,hs5,_⟩:=ho5.shape;obtain ⟨l5,hl5⟩:∃l,(enc m).length=l:=⟨_,rfl⟩
   rw [hl5] at hv5;have hel:=ya1 m;have HS5:Hid (Sl fB w5 w5.heap.size A5 l5 (enc m)):=⟨hl5,hs5⟩;have HO5:Hid (Own fB 5 w5 w2.heap.size u4 (enc n2++encL ((nrm xs).take k))):=HO.out.on hb5;have HB5:Hid (Below w2.heap.size w2 w5):=HBk.out.trans (hb5.mono HBk.out.size);have HL1:Hid (((enc n2++encL ((nrm xs).take k)).length+(enc m).length)*1≤140737488355328):=by show _≤_;omega
   have HL3:Hid ((enc n2++encL ((nrm xs).take k)).length+(enc m).length≤maxLen):=by show _≤_;unfold maxLen;omega
   clear ho5 hb5 hs5 hl5;subst hv5
   go_wp2_with (with_reducible refine ya8 (o:=⟨some 23,_,_,_,_,_⟩) rfl (.tmp 17) (.tmp 22) 40 rfl 5 i0 (.int .u8 0) 1 Tryz.underlying40 HI.out HZ0.out HZ1.out HZ2.out rfl u4 (enc n2++encL ((nrm xs).take k)) w2.heap.size rfl HO5.out _ _ _ w5.heap.size (enc m) rfl HS5.out fB1 HL1.out HL3.out HB5.out.size ?_;intro v6 w6 HO6 HG6 _)
   go_roundw
   case rel=>exact ⟨k+1,by omega,by go_num,by show Own _ _ _ _ _ _;rw [HT.out];exact HO6.out,HO5.out.below HB5.out nl HB5.out.size HG6.out⟩
   case measure=>simp [intOf];omega
  ·obtain rfl:k=n2:=by omega
   have HTT:Hid (enc k++encL ((nrm xs).take k)=encV xs):=by
    show _=_
    rw [List.take_of_length_le (by have:=HL2.out;omega),encV,HL2.out]
   obtain ⟨A1,c1,hv1,hc1,hs1,_⟩:=HO.out.shape;obtain ⟨l1,hl1⟩:∃l,(enc k++encL ((nrm xs).take k)).length=l:=⟨_,rfl⟩
   have HS1:Hid (Sl fB wr wr.heap.size A1 l1 (enc k++encL ((nrm xs).take k))):=⟨hl1,hs1⟩;rw [hl1] at hv1 hc1;clear hl1 hs1;subst hv1;go_wp2;go_ret;exact ⟨A1,l1,c1,rfl,hc1,by rw [←HTT.out];exact HS1.out,HB2.out.trans (HBk.out.mono hs2)⟩
def decT (bs:List Int) (p0:Nat) (e0:Int):Nat→List Int × Nat × Int
 |0=>([],p0,e0)
 |k+1=>
  let s:=decT bs p0 e0 k
  if s.2.2=0 then
   (if (numF bs 10 0 0 s.2.1).2.1=0 then (s.1++[IntKind.i64.wrap (numF bs 10 0 0 s.2.1).1],(numF bs 10 0 0 s.2.1).2.2,0)
    else (s.1++[0],s.2.1,(numF bs 10 0 0 s.2.1).2.1))
  else (s.1++[0],s.2.1,s.2.2)
theorem decT_len (bs:List Int) (p0:Nat) (e0:Int) (k:Nat):(decT bs p0 e0 k).1.length=k:=by
 induction k with
 |zero=>rfl
 |succ k ih=>
  rw [decT]
  split
  ·split
   ·simp [ih]
   ·simp [ih]
  ·simp [ih]
def decN (bs:List Int):Int × Int × Nat:=limF 12 (numF bs 10 0 0 0)
def decE (bs:List Int):List Int × Nat × Int:=decT bs (if (decN bs).2.1=0 then (decN bs).2.2 else 0) (decN bs).2.1 (if (decN bs).2.1=0 then (decN bs).1.toNat else 0)
def decV (bs:List Int):Option (List Int):=
 if (decE bs).2.2=0∧¬(decE bs).2.1 < bs.length∧ya5 (decE bs).1=true∧nrm (decE bs).1=(decE bs).1 then some (decE bs).1 else none
theorem OwnI.but {w w':World} {base:Nat} {e:TypeId} {v:Value} {bs:List Int} {p:Nat→Prop} (h:Own I e w base v bs) (hb:But p w w') (hv:∀k,base≤k→¬p k):Own I e w' base v bs:=
 ⟨h.1,by
   rcases h.2 with hn |⟨g',cap,cur,rfl,hbg,hgg,rest⟩
   ·exact .inl hn
   ·exact .inr ⟨g',cap,cur,rfl,hbg,(hb.block g' (lt_of_block hgg) (hv g' hbg)).trans hgg,rest⟩⟩
theorem ruint_any' (g:Nat) (A:Option Addr) (n c p:Nat) (pv er:Int) (bs:List Int) (w:World) (hr:Rd w g A n c p pv er) (hx:Sl fB w g A n bs) (hb:∀b∈bs,0≤b∧b < 256) (hp:p≤n) (hn:n≤1000000):
 Calls Tryz.prog 82 #[.pointer (some ⟨g,0,none⟩)] w fun e w'=>∃(z pv':Int),e= .returned (.int .u64 z)∧0≤z∧z < 18446744073709551616∧
  (∀xs:List Int,(if er=0 then (if (numF bs 10 0 0 p).2.1=0 then (xs++[IntKind.i64.wrap (numF bs 10 0 0 p).1],(numF bs 10 0 0 p).2.2,0) else (xs++[0],p,(numF bs 10 0 0 p).2.1)) else (xs++[0],p,er))=(xs++[IntKind.i64.wrap z],(if er=0 then (if (numF bs 10 0 0 p).2.1=0 then (numF bs 10 0 0 p).2.2 else p) else p),(if er=0 then (numF bs 10 0 0 p).2.1 else er)))∧
  Rd w' g A n c (if er=0 then (if (numF bs 10 0 0 p).2.1=0 then (numF bs 10 0 0 p).2.2 else p) else p) pv' (if er=0 then (numF bs 10 0 0 p).2.1 else er)∧But (fun k=>k=g) w w':=by
 by_cases he:er=0
 ·subst he
  refine (ydE g A n c p pv bs w hr hx hb hp hn).mono ?_;rintro e w' ⟨rfl,h1,h2⟩
  by_cases h0:(numF bs 10 0 0 p).2.1=0
  ·simp only [h0,if_true] at h1 ⊢
   refine ⟨_,_,rfl,ybJ _ _ _ _ _,?_,fun xs=>rfl,h1,h2⟩;obtain ⟨k,e1,_,_,_,_,h6⟩:=numF_only bs hb 10 0 0 p _ _ rfl (show numF bs 10 0 0 p=((numF bs 10 0 0 p).1,0,(numF bs 10 0 0 p).2.2) by rw [←h0]);rw [e1];simp only [Nat.pow_zero,Nat.mul_one,Nat.zero_add] at h6 ⊢;omega
  ·simp only [h0,if_true,if_false] at h1 ⊢
   exact ⟨0,_,rfl,by omega,by omega,fun xs=>rfl,h1,h2⟩
 ·refine (ruint_err g A n c p pv er w hr he).mono ?_
  rintro e w' ⟨rfl,h1,h2⟩;simp only [he,if_false];exact ⟨0,pv,rfl,by omega,by omega,fun xs=>rfl,h1,But.of_below h2⟩
theorem enc_mid {bs pre mid post:List Int} (h:bs=pre++(mid++post)) (j:Nat) (hj:j < mid.length):bs[pre.length+j]? =mid[j]? :=by
 rw [h,List.getElem?_append_right om,Nat.add_sub_cancel_left,List.getElem?_append_left hj]
theorem encL_app (xs ys:List Int):encL (xs++ys)=encL xs++encL ys:=by simp [encL]
theorem decT_enc (bs xs pre:List Int) (hx:∀x∈xs,0≤x∧x≤1099511627776) (hb:bs=pre++encL xs):∀k,k≤xs.length→
 decT bs pre.length 0 k=(xs.take k,pre.length+(encL (xs.take k)).length,0)
 |0,_=>by simp [decT,encL]
 |k+1,hk=>by
  obtain ⟨x,hxk⟩:=ybn (xs:=xs) (k:=k) om;obtain ⟨h0,h1⟩:=hx x (List.mem_of_getElem? hxk)
  have hs:xs=xs.take k++([x]++xs.drop (k+1)):=by
   have h:=(List.take_append_drop (k+1) xs).symm;rw [yba hxk,List.append_assoc] at h;exact h
  have hm:bs=(pre++encL (xs.take k))++(enc x.toNat++encL (xs.drop (k+1))):=by
   rw [hb]
   conv=>lhs;rw [hs,encL_app,encL_app]
   simp [encL]
  have hn:=ydG bs 10 x.toNat 0 0 (pre.length+(encL (xs.take k)).length) om om om (fun j hj=>by
   have:=enc_mid hm j hj
   rwa [List.length_append] at this) (.inl rfl) om
  simp only [Nat.sub_zero,Nat.pow_zero,Nat.mul_one,Nat.zero_add] at hn;have hw:IntKind.i64.wrap ((x.toNat:Nat):Int)=x:=by rw [IntWalk.i64_in _ om];omega
  rw [decT,decT_enc bs xs pre hx hb k om];simp only [if_true,hn,hw];rw [yba hxk,encL_snoc,List.length_append];simp only [enc];rw [Nat.add_assoc]
theorem decT_err (bs:List Int) (p0:Nat) (e0:Int) (h:e0≠0):∀k,(decT bs p0 e0 k).2.2=e0
 |0=>rfl
 |k+1=>by
  rw [decT];simp only [decT_err bs p0 e0 h k,h,if_false]
theorem valid_in {xs:List Int} (h:ya5 xs=true):∀x∈xs,0≤x∧x≤1099511627776:=fun x hx=>by
 obtain ⟨k,hk,rfl⟩:=List.getElem_of_mem hx
 have:=valid_getD h k
 rwa [ybg (List.getElem?_eq_getElem hk)] at this
theorem decV_enc (xs:List Int) (hv:ya5 xs=true):decV (encV xs)=some (nrm xs):=by
 have hl:(nrm xs).length≤12:=Nat.le_trans (nrm_len xs) (ycX hv);have hin:∀x∈nrm xs,0≤x∧x≤1099511627776:=fun x hx=>valid_in hv x (List.mem_of_mem_take hx)
 have hn:=ydG (encV xs) 10 (nrm xs).length 0 0 0 om om om (fun j hj=>by
  have:=enc_mid (bs:=encV xs) (pre:=[]) rfl j hj
  simpa [enc] using this) (.inl rfl) om
 simp only [Nat.sub_zero,Nat.pow_zero,Nat.mul_one,Nat.zero_add] at hn
 have hN:decN (encV xs)=(((nrm xs).length:Int),0,(enc (nrm xs).length).length):=by
  unfold decN;rw [hn,limF];simp only [if_true];rw [if_neg om]
  rfl
 have hE:decE (encV xs)=(nrm xs,(enc (nrm xs).length).length+(encL (nrm xs)).length,0):=by
  rw [decE,hN];simp only [if_true,Int.toNat_natCast];rw [decT_enc (encV xs) (nrm xs) (enc (nrm xs).length) hin rfl _ nl,List.take_length]
 have hvn:ya5 (nrm xs)=true:=valid_of_getD hl (fun j=>by rw [nrm_getD];exact valid_getD hv j);rw [decV,hE];simp only [];rw [if_pos ⟨trivial,by rw [encV,List.length_append];omega,hvn,nrm_nrm xs⟩]
def DecPost (bs:List Int) (w:World) (e:Ending) (w':World):Prop:=match decV bs with
 |some v=>∃A n c,e= .returned (.tuple #[.slice A n c,.int .i64 0])∧n≤c∧(Sl I w' w'.heap.size A n v∧∀t,A=some t→w.heap.size≤t.block)∧Below w.heap.size w w'
 |none=>Slc2 I ([]:List Int) 3 w e w'
theorem vvalid_n (A:Option Addr) (n:Nat) (xs:List Int) (c:Nat) (w:World) (B:Nat) (hx:Sl I w B A n xs) (hl:n≤1000000):
 Calls Tryz.prog 143 #[.slice A n c] w fun e w'=>e= .returned (.bool (ya5 xs))∧w=w':=by
 obtain ⟨rfl,hx⟩:=hx;exact yde A xs c w B hx om
theorem Sl.butgY {f:Int→Value} {w w':World} {g n:Nat} {A:Option Addr} {xs:List Int} (h:Sl f w g A n xs) (hb:But (fun k=>k=g) w w') (hg:g≤w.heap.size):Sl f w' g A n xs:=⟨h.1,fun hn=>by
 obtain ⟨b,off,e,hlt,hc⟩:=h.2 hn
 exact ⟨b,off,e,hlt,hc.keep (hb.block b om om)⟩⟩
theorem numF_leY (bs:List Int):∀(k acc i p:Nat),p≤bs.length→(numF bs k acc i p).2.2≤bs.length
 |0,_,_,_,h=>h
 |k+1,acc,i,p,h=>by
  rw [numF]
  cases hx:bs[p]? with
  |none=>exact h
  |some b=>
   have hp:=(List.getElem?_eq_some_iff.1 hx).1;simp only []
   split
   ·exact numF_leY bs k _ _ _ hp
   ·split
    ·exact hp
    ·exact hp
theorem limF_placeY (m:Nat) (N:Int × Int × Nat):(limF m N).2.2=N.2.2:=by
 unfold limF
 split
 ·split<;>rfl
 ·rfl
theorem decT_le (bs:List Int) (p0:Nat) (e0:Int) (hp:p0≤bs.length):∀k,(decT bs p0 e0 k).2.1≤bs.length
 |0=>hp
 |k+1=>by
  have ih:=decT_le bs p0 e0 hp k;rw [decT]
  split
  ·split
   ·exact numF_leY bs _ _ _ _ ih
   ·exact ih
  ·exact ih
theorem nrm_last {v:List Int} {m:Nat} (hl:v.length=m+1):nrm v=v↔v.getD m 0≠0:=by
 rw [nrm,hl,nlen]
 by_cases h:v.getD m 0=0
 ·rw [if_pos h]
  refine ⟨fun he=>?_,fun hn=>absurd h hn⟩
  have:=congrArg List.length he
  rw [List.length_take] at this
  have:=nlen_le v m
  omega
 ·rw [if_neg h,←hl,List.take_length]
  exact ⟨fun _=>h,fun _=>rfl⟩
theorem decN_bd (bs:List Int):∃cnt:Nat,(if (decN bs).2.1=0 then (decN bs).1 else 0)=(cnt:Int)∧(if (decN bs).2.1=0 then (decN bs).1.toNat else 0)=cnt∧cnt≤12:=by
 have h0:=ybJ bs 10 0 0 0;unfold decN
 generalize numF bs 10 0 0 0=N at*
 unfold limF
 by_cases he:N.2.1=0
 ·simp only [he,if_true]
  by_cases hl:((12:Nat):Int) < N.1
  ·simp only [hl,if_true]
   exact ⟨0,rfl,rfl,by omega⟩
  ·simp only [hl,if_false,if_true]
   exact ⟨N.1.toNat,by omega,rfl,by omega⟩
 ·simp only [he,if_false]
  exact ⟨0,rfl,rfl,by omega⟩
theorem dec_none {bs:List Int} {vs:List Int} {ps:Nat} {es:Int} (h:decE bs=(vs,ps,es)) (hc:¬(es=0∧¬ps < bs.length∧ya5 vs=true∧nrm vs=vs)):decV bs=none:=by
 rw [decV,h,if_neg hc]
theorem dec_some {bs:List Int} {vs:List Int} {ps:Nat} {es:Int} (h:decE bs=(vs,ps,es)) (hc:es=0∧¬ps < bs.length∧ya5 vs=true∧nrm vs=vs):decV bs=some vs:=by
 rw [decV,h,if_pos hc]
theorem DecPost.no {bs:List Int} {w w':World} {e:Ending} (h:decV bs=none) (he:e= .returned (.tuple #[.slice none 0 0,.int .i64 3])) (hb:Below w.heap.size w w'):DecPost bs w e w':=by
 unfold DecPost;rw [h];exact ⟨none,0,0,he,Nat.le_refl _,⟨rfl,SL.nil⟩,hb⟩
theorem DecPost.yes {bs vs:List Int} {w w':World} {e:Ending} {A:Option Addr} {n c:Nat} (h:decV bs=some vs) (he:e= .returned (.tuple #[.slice A n c,.int .i64 0])) (hc:n≤c) (hs:Sl I w' w'.heap.size A n vs) (hf:∀t,A=some t→w.heap.size≤t.block) (hb:Below w.heap.size w w'):DecPost bs w e w':=by
 unfold DecPost;rw [h];exact ⟨A,n,c,he,hc,⟨hs,hf⟩,hb⟩
theorem decode_any (A:Option Addr) (n c:Nat) (bs:List Int) (w:World) (hx:Sl fB w w.heap.size A n bs) (hn:n≤1000000) (hb:∀b∈bs,0≤b∧b < 256):
 Calls Tryz.prog 84 #[.slice A n c] w (DecPost bs w):=by
 have HC:=lh (ycY A n c bs w hx hn);have HBY:=lh hb;have HLN:Hid (bs.length=n):=hx.1;clear hx hb;obtain ⟨i0,hi,hz0,hz1,hz2⟩:=info_parts Tryz.info3;have HI:=lh hi;have HZ0:=lh hz0;have HZ1:=lh hz1;have HZ2:=lh hz2;clear hi hz0 hz1 hz2;go_enter Tryz.func84,Tryz.ntmps84
 go_wp2_with fail
 refine HC.out.mono ?_;rintro e w1 ⟨g,A1,c1,rfl,hr1,hx1,hgw,hb1⟩;have HR1:=lh hr1;have HX1:=lh hx1;have HB1:=lh hb1.1;have hg1:g < w1.heap.size:=lt_of_block hr1;clear hr1 hx1 hb1
 go_wp2_with fail
 refine (rcount_ok g A1 n c1 0 12 0 bs w1 HR1.out HX1.out HBY.out om hn om).mono ?_;rintro e w2 ⟨he,hr2,hb2⟩;have HB2:=lh hb2;obtain ⟨N0,hN0⟩:∃N0,decN bs=N0:=⟨_,rfl⟩
 have HN0:=lh hN0;have hN0':limF 12 (numF bs 10 0 0 0)=N0:=hN0;rw [hN0'] at he hr2;obtain ⟨cnt,hcnt,hcnt',hc12⟩:=decN_bd bs;obtain ⟨p0,hp0⟩:∃p0:Nat,(if N0.2.1=0 then N0.2.2 else 0)=p0:=⟨_,rfl⟩
 have HPL:Hid (p0≤bs.length):=by
  show p0≤_
  rw [←hp0,←hN0',limF_placeY]
  split
  ·exact numF_leY bs _ _ _ _ (Nat.zero_le _)
  ·exact Nat.zero_le _
 have HDE:Hid (decE bs=decT bs p0 N0.2.1 cnt):=by
  show decE bs=_
  unfold decE;rw [hcnt',hN0,hp0]
 rw [hN0] at hcnt;clear hN0 hN0' hcnt';rw [hcnt] at he;rw [hp0] at hr2;have HR2:=lh hr2;have HX2:Hid (Sl fB w2 g A1 n bs):=HX1.out.butgY hb2 (Nat.le_of_lt hg1);have hs2:=hb2.size;clear hr2 hb2;subst he;obtain ⟨e0,he0⟩:∃e0,N0.2.1=e0:=⟨_,rfl⟩
 rw [he0] at HR2 HDE;clear he0 hcnt hp0;go_wp2
 go_loopw [5,12] (fun u i wr=>∃(j:Nat) (pv:Int),j≤cnt∧i= .int .i64 j∧Hid (Own I 3 wr w1.heap.size u (decT bs p0 e0 j).1)∧Hid (Rd wr g A1 n c1 (decT bs p0 e0 j).2.1 pv (decT bs p0 e0 j).2.2)∧Hid (Sl fB wr g A1 n bs)∧Hid (But (fun k=>k=g∨w1.heap.size≤k) w1 wr)∧Hid ((decT bs p0 e0 j).2.1≤n)) (fun _ i _=>cnt - (intOf i).toNat)
 case atStart=>exact ⟨0,0,by omega,rfl,Own.nil,HR2.out,HX2.out,HB2.out.mono fun i hi=> .inl (.inl hi),by show p0≤n;have:=HPL.out;have:=HLN.out;omega⟩
 case round=>
  obtain ⟨j,pv,hj,rfl,HO,HRj,HXj,HBj,HPj⟩:=hrel
  by_cases hlt:j < cnt
  ·have HL1:Hid (((decT bs p0 e0 j).1.length+1)*8≤140737488355328):=by show _≤_;rw [decT_len];omega
   have HL2:Hid ((decT bs p0 e0 j).1.length+1≤maxLen):=by show _≤_;rw [decT_len];unfold maxLen;omega
   go_wp2_with fail
   refine (ruint_any' g A1 n c1 _ pv _ bs wr HRj.out HXj.out HBY.out HPj.out hn).mono ?_;rintro e w4 ⟨z,pv',rfl,hz0,hz1,hst,hr4,hb4⟩;have HR4:=lh hr4;have HST:=lh (hst (decT bs p0 e0 j).1);have HO4:Hid (Own I 3 w4 w1.heap.size u5 (decT bs p0 e0 j).1):=OwnI.but HO.out hb4 (fun k hk=>by omega);have hs4:=hb4.size;have hsj:=HBj.out.size;have HB4:=lh hb4;clear hst hr4 hb4
   go_wp2_with (with_reducible refine ya4 (o:=⟨some 19,_,_,_,_,_⟩) rfl (.tmp 14) (.tmp 18) 27 rfl 3 i0 (.int .i64 0) 8 Tryz.underlying27 HI.out HZ0.out HZ1.out HZ2.out rfl u5 (decT bs p0 e0 j).1 w1.heap.size rfl HO4.out (wrap64 z) 1 rfl I1 HL1.out HL2.out om ?_;intro v5 w5 HO5 HG5 HV5)
   have hB5:Below w1.heap.size w4 w5:=Own.below HO4.out br om om HG5.out;have HE1:Hid (decT bs p0 e0 (j+1)=((decT bs p0 e0 j).1++[IntKind.i64.wrap z],_,_)):=HST.out
   go_roundw
   case rel=>
    have HE2:=HE1.out;refine ⟨j+1,pv',by omega,by go_num,?_,?_,?_,?_,?_⟩
    ·show Own _ _ _ _ _ _
     rw [HE2]
     have:=HO5.out
     rwa [←IntWalk.i64_left] at this
    ·show Rd _ _ _ _ _ _ _ _
     rw [HE2];exact (hB5.block g hg1).trans HR4.out
    ·exact (HXj.out.butgY HB4.out om).up hB5 om
    ·exact (HBj.out.trans HB4.out (fun i hi=> .inl (.inl hi))).trans (q:=fun k=>w1.heap.size≤k) ⟨hB5.os,hB5.tape,hB5.output,hB5.size,fun k _ hk=>hB5.block k om⟩ (fun i hi=> .inl (.inr hi))
    ·show _≤_
     have:=decT_le bs p0 e0 HPL.out (j+1)
     have:=HLN.out
     omega
   case measure=>simp [intOf];omega
  ·obtain rfl:j=cnt:=by omega
   obtain ⟨vs,ps,es,hS⟩:∃vs ps es,decT bs p0 e0 j=(vs,ps,es):=⟨_,_,_,rfl⟩
   have hl:=decT_len bs p0 e0 j;rw [hS] at hl HO HRj HPj HDE;simp only [] at hl HO HRj HPj
   have HBw:Hid (Below w.heap.size w wr):=HB1.out.trans (HBj.out.below HB1.out.size fun i hi=>(by
    have:=HB1.out.size
    rcases hi with h |h<;>omega))
   have hbs:=HBw.out.size;have HEC:=lh (ydF g A1 n c1 ps pv es wr HRj.out);obtain ⟨A5,c5,hu5,hc5,hs5,_⟩:=HO.out.shape;rw [hl] at hu5 hc5;have HC5:=lh hc5
   have HFR:Hid (∀t,A5=some t→w.heap.size≤t.block):=fun t ht=>by
    have h1:=(World.ownsRow.lt HO.out t.block (by rw [hu5,ht];rfl)).1;have h2:=HB1.out.size;omega
   clear hc5;have HS5:Hid (Sl I wr wr.heap.size A5 j vs):=⟨hl,hs5⟩;have HVL:Hid (vs.length=j):=hl;obtain ⟨z,hz⟩:∃z:Int,(if es=0 then (if ps < n then 3 else 0) else es)=z:=⟨_,rfl⟩
   rw [hz] at HEC;have HZ:=lh hz;clear hz hS hs5 hl hlt;subst hu5
   by_cases hz0:z=0
   ·have hzb:(z != 0)=false:=by simp [hz0]
    have HCE:Hid (es=0∧¬ps < bs.length):=by
     have h1:=HZ.out;rw [hz0] at h1;refine ⟨?_,?_⟩
     ·rcases Int.decEq es 0 with h |h
      ·rw [if_neg h] at h1;exact absurd h1 h
      ·exact h
     ·intro h
      rw [HLN.out] at h
      split at h1
      ·omega
      ·contradiction
    have hj1:j≤12:=hc12;clear hz0;have HVC:Hid (∀W,Below wr.heap.size wr W→Calls Tryz.prog 143 #[.slice A5 j c5] W fun e w'=>e= .returned (.bool (ya5 vs))∧W=w'):=fun W hb=>vvalid_n A5 j vs c5 W wr.heap.size (HS5.out.up hb nl) om
    obtain ⟨vb,hvb⟩:∃vb,ya5 vs=vb:=⟨_,rfl⟩
    rw [hvb] at HVC;have HVB:=lh hvb;clear hvb;rcases vb with _ |_
    ·have HNO:Hid (decV bs=none):=dec_none HDE.out (fun hc=>by have:=HVB.out;rw [hc.2.2.1] at this;cases this)
     go_wp2_with fail
     refine HEC.out.mono ?_;rintro e w6 ⟨rfl,hb6⟩;have HB6:=lh hb6;clear hb6
     go_wp2_with fail
     refine (HVC.out _ HB6.out).mono ?_;rintro e w7 ⟨rfl,rfl⟩
     go_wp2_with fail
     go_ret2;exact DecPost.no HNO.out rfl (HBw.out.trans (HB6.out.mono hbs))
    ·rcases j with _ |m
     ·have HYES:Hid (decV bs=some vs):=dec_some HDE.out ⟨HCE.out.1,HCE.out.2,HVB.out,by
       have:=HVL.out
       obtain rfl:vs=[]:=List.eq_nil_of_length_eq_zero this
       rfl⟩
      go_wp2_with fail
      refine HEC.out.mono ?_;rintro e w6 ⟨rfl,hb6⟩;have HB6:=lh hb6;clear hb6
      go_wp2_with fail
      refine (HVC.out _ HB6.out).mono ?_;rintro e w7 ⟨rfl,rfl⟩
      go_wp2_with fail
      go_ret2;exact DecPost.yes HYES.out rfl HC5.out (HS5.out.up HB6.out nl |>.more' HB6.out.size) HFR.out (HBw.out.trans (HB6.out.mono hbs))
     ·obtain ⟨b5,o5,x,rfl,hb5,hx5,hcw⟩:=HS5.out.2.at_ (k:=m) (by have:=HVL.out;omega)
      have HX5:=lh hx5;have HCW:=lh hcw;clear hx5 hcw
      by_cases hx0:x=0
      ·have HNO:Hid (decV bs=none):=dec_none HDE.out (fun hc=>by
        have:=(nrm_last HVL.out).1 hc.2.2.2
        rw [ybg HX5.out] at this
        exact this hx0)
       have hxb:(x==0)=true:=by simp [hx0]
       clear hx0
       go_wp2_with fail
       refine HEC.out.mono ?_;rintro e w6 ⟨rfl,hb6⟩;have hc6:w6.cell? ⟨b5,o5+m,none⟩=some (I x):=(hb6.cell (p:=⟨b5,o5+m,none⟩) hb5).trans HCW.out;have HB6:=lh hb6;clear hb6
       go_wp2_with fail
       refine (HVC.out _ HB6.out).mono ?_;rintro e w7 ⟨rfl,rfl⟩
       go_wp2_with fail
       go_ret2;exact DecPost.no HNO.out rfl (HBw.out.trans (HB6.out.mono hbs))
      ·have HYES:Hid (decV bs=some vs):=dec_some HDE.out ⟨HCE.out.1,HCE.out.2,HVB.out,(nrm_last HVL.out).2 (by rw [ybg HX5.out];exact hx0)⟩
       have hxb:(x==0)=false:=by simp [hx0]
       clear hx0
       go_wp2_with fail
       refine HEC.out.mono ?_;rintro e w6 ⟨rfl,hb6⟩;have hc6:w6.cell? ⟨b5,o5+m,none⟩=some (I x):=(hb6.cell (p:=⟨b5,o5+m,none⟩) hb5).trans HCW.out;have HB6:=lh hb6;clear hb6
       go_wp2_with fail
       refine (HVC.out _ HB6.out).mono ?_;rintro e w7 ⟨rfl,rfl⟩
       go_wp2_with fail
       go_ret2;exact DecPost.yes HYES.out rfl HC5.out (HS5.out.up HB6.out nl |>.more' HB6.out.size) HFR.out (HBw.out.trans (HB6.out.mono hbs))
   ·have hzb:(z != 0)=true:=by simp [hz0]
    have HNO:Hid (decV bs=none):=dec_none HDE.out (fun hc=>hz0 (by rw [←HZ.out,if_pos hc.1,if_neg (by rw [←HLN.out];exact hc.2.1)]));clear hz0
    go_wp2_with fail
    refine HEC.out.mono ?_;rintro e w6 ⟨rfl,hb6⟩;have HB6:=lh hb6;clear hb6
    go_wp2_with fail
    go_ret2;exact DecPost.no HNO.out rfl (HBw.out.trans (HB6.out.mono hbs))
