/- wire.Reader: number. wire.Reader: what readValue defers. wire.Reader: limited. wire.Reader: readValue. wire.Reader: Uint, Count. wire.Reader: NewReader, End. Plain facts on encodings of numbers: what number reads of them. -/
import Derived.Test.YtpdledjgbgalcaaGreatDoorMa
import Derived.Laws.Bits64b
import Derived.Defers
import Derived.Deep.RegionHeld3
import Derived.Laws.ResultCell
namespace Go.Proofs.YtpdledjgbgalcaaGreatDoor
set_option maxRecDepth 20000
set_option maxHeartbeats 1000000
open Go.RowKit
set_option linter.unusedVariables false
set_option linter.unusedSimpArgs false
theorem and127 (b:Int) (h0:0≤b) (h1:b < 256):bits .and .u8 b 127=b % 128:=by
 have hall:∀a:Fin 256,bits .and .u8 ((a.val:Nat):Int) 127=((a.val % 128:Nat):Int):=by decide+kernel
 have:=hall ⟨b.toNat,by omega⟩
 have e:((b.toNat:Nat):Int)=b:=by omega
 simp only at this;rw [e] at this;rw [this];omega
theorem orsh (acc j:Nat) (x:Int) (hj:j < 10) (hacc:acc < 128 ^ j) (hx1:j < 9∨x % 128≤1):bits .or .u64 (acc:Int) (IntKind.u64.wrap (x % 128*2 ^ (7*j)))=((acc+(x % 128).toNat*128 ^ j:Nat):Int):=by
 obtain ⟨m,hm⟩:∃m:Nat,x % 128=m:=⟨(x % 128).toNat,by omega⟩
 have hm128:m < 128:=by omega
 have hp:(128:Nat) ^ j=2 ^ (7*j):=by rw [Nat.pow_mul]
 have hfit:m*128 ^ j < 18446744073709551616:=by
  rcases hx1 with h |h
  ·have h1:128 ^ j≤128 ^ 8:=Nat.pow_le_pow_right om om
   have h2:m*128 ^ j≤127*128 ^ 8:=Nat.mul_le_mul om h1;omega
  ·have h1:128 ^ j≤128 ^ 9:=Nat.pow_le_pow_right om om
   have h2:m*128 ^ j≤1*128 ^ 9:=Nat.mul_le_mul om h1;omega
 have hacc2:acc < 18446744073709551616:=by
  have h1:128 ^ j≤128 ^ 9:=Nat.pow_le_pow_right om om;omega
 have e1:x % 128*2 ^ (7*j)=((m*128 ^ j:Nat):Int):=by rw [hm,hp,Int.natCast_mul,Int.natCast_pow];rfl
 rw [e1,IntKind.wrap_u64,Int.emod_eq_of_lt om om,bits_or_u64_nat _ _ hacc2 hfit,hm,Int.toNat_natCast]
 congr 1
 rw [Nat.or_comm,Nat.mul_comm m,hp,←Nat.two_pow_add_eq_or_of_lt (by rw [←hp];exact hacc)];omega
theorem accn (acc j m:Nat) (hacc:acc < 128 ^ j) (hm:m < 128):acc+m*128 ^ j < 128 ^ (j+1):=by
 have h1:m*128 ^ j≤127*128 ^ j:=Nat.mul_le_mul_right _ om;rw [Nat.pow_succ];omega
def numF (bs:List Int):Nat→Nat→Nat→Nat→Int × Int × Nat
 |0,_,_,p=>(0,3,p)
 |k+1,acc,i,p=>
  match bs[p]? with
  |none=>(0,3,p)
  |some b=>if 128≤b then numF bs k (acc+(b % 128).toNat*128 ^ i) (i+1) (p+1) else if (0 < i∧b=0)∨(i=9∧1 < b) then (0,3,p+1) else ((acc+b.toNat*128 ^ i:Nat),0,p+1)
def Rd (w:World) (g:Nat) (A:Option Addr) (n c:Nat) (p:Nat) (pv er:Int):Prop:=w.heap[g]? =some (.cells #[.slice A n c,.int .i64 p,.int .i64 pv,.int .i64 er] 220 (0,0))
theorem number_any (g:Nat) (A:Option Addr) (n c p:Nat) (pv er:Int) (bs:List Int) (w:World) (hr:Rd w g A n c p pv er) (hx:Sl fB w g A n bs) (hb:∀b∈bs,0≤b∧b < 256) (hp:p≤n) (hn:n≤1000000):
 Calls Tryz.prog 140 #[.pointer (some ⟨g,0,none⟩)] w fun e w'=>e= .returned (.tuple #[.int .u64 (numF bs 10 0 0 p).1,.int .i64 (numF bs 10 0 0 p).2.1])∧Rd w' g A n c (numF bs 10 0 0 p).2.2 pv er∧But (fun k=>k=g) w w':=by
 have HR:=lh hr;have HX:=lh hx;have HBY:=lh hb;have HLN:Hid (bs.length=n):=hx.1;clear hr hx hb;go_enter Tryz.func140,Tryz.ntmps140;go_wp2
 go_loopw [2,6] (fun u i wr=>∃(j acc:Nat) (av:Int),j≤10∧i= .int .i64 j∧u= .int .u64 av∧(j < 10→av=acc∧acc < 128 ^ j)∧p+j≤n∧Hid (Rd wr g A n c (p+j) pv er)∧Hid (numF bs (10 - j) acc j (p+j)=numF bs 10 0 0 p)∧Hid (But (fun k=>k=g) w wr)) (fun _ i _=>10 - (intOf i).toNat)
 case atStart=>exact ⟨0,0,0,by omega,rfl,rfl,fun _=>⟨rfl,by simp⟩,by omega,HR,rfl,But.refl _ _⟩
 case round=>
  obtain ⟨j,acc,av,hj,rfl,rfl,hav,hpj,HRj,HE,HBj⟩:=hrel
  by_cases hj10:j < 10
  ·obtain ⟨rfl,hacc⟩:=hav hj10
   have hc0:=cell_of_row wr g 0 _ _ _ HRj.out;have hc1:=cell_of_row wr g 1 _ _ _ HRj.out;simp at hc0 hc1;obtain ⟨k,hk⟩:∃k,10 - j=k+1:=⟨9 - j,by omega⟩
   by_cases hend:p+j=n
   ·have hnone:bs[p+j]? =none:=List.getElem?_eq_none (by rw [HLN.out];omega)
    have HF:Hid (numF bs 10 0 0 p=(0,3,p+j)):=by show _=_;rw [←HE.out,hk,numF,hnone]
    clear hnone;have hq1:(((p+j:Nat):Int)==(n:Int))=true:=by simp;omega
    go_wp2
    go_quiet (fail)
    go_wp2;go_ret2;rw [HF.out];exact ⟨rfl,HRj.out,HBj.out.drewN _⟩
   ·have hq1:(((p+j:Nat):Int)==(n:Int))=false:=by simp;omega
    obtain ⟨bb,off,x0,rfl,hbB,_,_⟩:=SL.at_ HX.out.2 (k:=p+j) (by rw [HLN.out];omega);obtain ⟨b2,off2,x,e2,_,hxk,hcx⟩:=SL.at_ (HX.out.2.but HBj.out (by have:=lt_of_block HR.out;omega) (fun a ha=>by cases ha;show ¬bb=g;omega)) (k:=p+j) (by rw [HLN.out];omega)
    cases e2
    have hxr:=HBY.out x (List.mem_of_getElem? hxk);obtain ⟨hx0,hx1⟩:=hxr;have hand:=and127 x hx0 hx1;have hf1:=frozen_of_row wr g 1 _ _ HRj.out
    have HRn:Hid (∀q,Rd ((wr.drewN q).setCell ⟨g,1,none⟩ (.int .i64 ((p:Int)+j+1))) g (some ⟨bb,off,none⟩) n c (p+j+1) pv er):=fun q=>by
     show _=_
     rw [show ((p+j+1:Nat):Int)=(p:Int)+j+1 by omega];exact heap_setCell_same (wr.drewN q) _ _ _ _ _ HRj.out
    by_cases hge:128≤x
    ·have HE2:Hid (numF bs (10 - (j+1)) (acc+(x % 128).toNat*128 ^ j) (j+1) (p+(j+1))=numF bs 10 0 0 p):=by
      show _=_
      rw [←HE.out,hk,numF,hxk];simp only [];rw [if_pos hge,show 10 - (j+1)=k by omega]
      rfl
     obtain ⟨v,hv⟩:∃v,bits .or .u64 (acc:Int) (IntKind.u64.wrap (x % 128*2 ^ (7*j)))=v:=⟨_,rfl⟩
     have HV:Hid (j+1 < 10→v=((acc+(x % 128).toNat*128 ^ j:Nat):Int)∧acc+(x % 128).toNat*128 ^ j < 128 ^ (j+1)):=fun h=>⟨by rw [←hv,orsh acc j x hj10 hacc (.inl om)],accn acc j _ hacc om⟩
     clear hxk;go_wp2
     go_quiet (fail)
     go_wp2
     go_quiet (fail)
     go_wp2
     go_roundw
     case rel=>exact ⟨j+1,acc+(x % 128).toNat*128 ^ j,v,by omega,by go_num,rfl,HV.out,by omega,HRn.out _,HE2,(HBj.out.drewN _).setCell (.inl rfl) _⟩
     case measure=>simp [intOf];omega
    ·have hxm:(x % 128).toNat=x.toNat:=by omega
     have HS:Hid (numF bs 10 0 0 p=if (0 < j∧x=0)∨(j=9∧1 < x) then (0,3,p+j+1) else (((acc+x.toNat*128 ^ j:Nat):Int),0,p+j+1)):=by
      show _=_
      rw [←HE.out,hk,numF,hxk];simp only [];rw [if_neg hge]
     clear hxk
     by_cases hj0:(0:Int) < j
     ·by_cases hxz:x=0
      ·obtain ⟨v,hv⟩:∃v,bits .or .u64 (acc:Int) (IntKind.u64.wrap (x % 128*2 ^ (7*j)))=v:=⟨_,rfl⟩
       have hxb:(x==0)=true:=by simp [hxz]
       have HF:Hid (numF bs 10 0 0 p=(0,3,p+j+1)):=by show _=_;rw [HS.out,if_pos (.inl ⟨by omega,hxz⟩)]
       clear hxz;go_wp2
       go_quiet (fail)
       go_wp2
       go_quiet (fail)
       go_wp2;go_ret2;rw [HF.out];exact ⟨rfl,HRn.out _,(HBj.out.drewN _).setCell (.inl rfl) _⟩
      ·have hxb:(x==0)=false:=by simp [hxz]
       by_cases hj9:j=9
       ·have hjb:((j:Int)==9)=true:=by simp;omega
        by_cases hxo:1 < x
        ·obtain ⟨v,hv⟩:∃v,bits .or .u64 (acc:Int) (IntKind.u64.wrap (x % 128*2 ^ (7*j)))=v:=⟨_,rfl⟩
         have HF:Hid (numF bs 10 0 0 p=(0,3,p+j+1)):=by show _=_;rw [HS.out,if_pos (.inr ⟨hj9,hxo⟩)]
         clear hj9;go_wp2
         go_quiet (fail)
         go_wp2
         go_quiet (fail)
         go_wp2;go_ret2;rw [HF.out];exact ⟨rfl,HRn.out _,(HBj.out.drewN _).setCell (.inl rfl) _⟩
        ·have _u:True:=trivial
         obtain ⟨v,hv⟩:∃v,bits .or .u64 (acc:Int) (IntKind.u64.wrap (x % 128*2 ^ (7*j)))=v:=⟨_,rfl⟩
         have HF:Hid (numF bs 10 0 0 p=(v,0,p+j+1)):=by show _=_;rw [HS.out,if_neg om,←hv,orsh acc j x hj10 hacc (.inr om),hxm]
         clear hj9;go_wp2
         go_quiet (fail)
         go_wp2
         go_quiet (fail)
         go_wp2;go_ret2;rw [HF.out];exact ⟨rfl,HRn.out _,(HBj.out.drewN _).setCell (.inl rfl) _⟩
       ·have hjb:((j:Int)==9)=false:=by simp;omega
        obtain ⟨v,hv⟩:∃v,bits .or .u64 (acc:Int) (IntKind.u64.wrap (x % 128*2 ^ (7*j)))=v:=⟨_,rfl⟩
        have HF:Hid (numF bs 10 0 0 p=(v,0,p+j+1)):=by show _=_;rw [HS.out,if_neg om,←hv,orsh acc j x hj10 hacc (.inl om),hxm]
        go_wp2
        go_quiet (fail)
        go_wp2
        go_quiet (fail)
        go_wp2;go_ret2;rw [HF.out];exact ⟨rfl,HRn.out _,(HBj.out.drewN _).setCell (.inl rfl) _⟩
     ·have hjb:((j:Int)==9)=false:=by simp;omega
      obtain ⟨v,hv⟩:∃v,bits .or .u64 (acc:Int) (IntKind.u64.wrap (x % 128*2 ^ (7*j)))=v:=⟨_,rfl⟩
      have HF:Hid (numF bs 10 0 0 p=(v,0,p+j+1)):=by show _=_;rw [HS.out,if_neg om,←hv,orsh acc j x hj10 hacc (.inl om),hxm]
      go_wp2
      go_quiet (fail)
      go_wp2
      go_quiet (fail)
      go_wp2;go_ret2;rw [HF.out];exact ⟨rfl,HRn.out _,(HBj.out.drewN _).setCell (.inl rfl) _⟩
  ·obtain rfl:j=10:=by omega
   have HF:Hid (numF bs 10 0 0 p=(0,3,p+10)):=by show _=_;rw [←HE.out];rfl
   go_wp2;go_ret2;rw [HF.out];exact ⟨rfl,HRj.out,HBj.out⟩
theorem closed_68 (s rb rs g:Nat) (A:Option Addr) (n c p:Nat) (st:Nat) (pv er v:Int) (w:World) (hs:w.heap[s]? =some (.cells #[.int .i64 st] 3 (0,0))) (hrb:w.heap[rb]? =some (.cells #[.pointer (some ⟨g,0,none⟩)] 144 (0,0))) (hrs:w.heap[rs]? =some (.cells #[.int .i64 v] 3 (0,0))) (hr:Rd w g A n c p pv er) (h1:g < rb) (h2:rb < rs) (h3:rs < s):
 CallsD Tryz.prog 240 #[.pointer (some ⟨s,0,none⟩),.pointer (some ⟨rb,0,none⟩),.pointer (some ⟨rs,0,none⟩)] .returning w fun e u' w'=>u'= .returning∧(e= .returned (.tuple #[])∧Hid (Rd w' g A n c (if er=0 then p else st) st er)∧Hid (w'.heap[rs]? =some (.cells #[.int .i64 (if er=0 then v else 0)] 3 (0,0)))∧Hid (But (fun k=>k=g∨k=rs) w w')):=by
 have HR:=lh hr;have HS:=lh hs;have HRB:=lh hrb;have HRS:=lh hrs;have c1:=cell_of_row w g 1 _ _ _ hr;have c2:=cell_of_row w g 2 _ _ _ hr;have c3:=cell_of_row w g 3 _ _ _ hr;have cs:=cell_of_row w s 0 _ _ _ hs;have cb:=cell_of_row w rb 0 _ _ _ hrb;have cr:=cell_of_row w rs 0 _ _ _ hrs;have f1:=frozen_of_row w g 1 _ _ hr;have f2:=frozen_of_row w g 2 _ _ hr;have fr:=frozen_of_row w rs 0 _ _ hrs;simp at c1 c2 c3 cs cb cr;have n1:¬g=rb:=by omega
 have n2:¬g=rs:=by omega
 have n3:¬g=s:=by omega
 have n4:¬rb=rs:=by omega
 have n5:¬rs=s:=by omega
 have n6:¬rb=s:=by omega
 have HG2:Hid (Rd (w.setCell ⟨g,2,none⟩ (.int .i64 st)) g A n c p st er):=heap_setCell_same w _ 2 _ _ (.int .i64 st) hr;have HG21:Hid (Rd ((w.setCell ⟨g,2,none⟩ (.int .i64 st)).setCell ⟨g,1,none⟩ (.int .i64 st)) g A n c st st er):=heap_setCell_same _ _ 1 _ _ (.int .i64 st) HG2.out;have HN2:Hid ((w.setCell ⟨g,2,none⟩ (.int .i64 st)).heap[rs]? =some (.cells #[.int .i64 v] 3 (0,0))):=(heap_setCell_other w _ _ _ (fun e=>n2 e.symm)).trans hrs;have HN21:Hid (((w.setCell ⟨g,2,none⟩ (.int .i64 st)).setCell ⟨g,1,none⟩ (.int .i64 st)).heap[rs]? =some (.cells #[.int .i64 v] 3 (0,0))):=(heap_setCell_other _ _ _ _ (fun e=>n2 e.symm)).trans HN2.out;have HRR:Hid (Rd (((w.setCell ⟨g,2,none⟩ (.int .i64 st)).setCell ⟨g,1,none⟩ (.int .i64 st)).setCell ⟨rs,0,none⟩ (.int .i64 0)) g A n c st st er):=(heap_setCell_other _ _ _ _ n2).trans HG21.out;have HRV:Hid ((((w.setCell ⟨g,2,none⟩ (.int .i64 st)).setCell ⟨g,1,none⟩ (.int .i64 st)).setCell ⟨rs,0,none⟩ (.int .i64 0)).heap[rs]? =some (.cells #[.int .i64 0] 3 (0,0))):=heap_setCell_same _ _ 0 _ _ (.int .i64 0) HN21.out;have HB:Hid (But (fun k=>k=g∨k=rs) w (w.setCell ⟨g,2,none⟩ (.int .i64 st))):=(But.refl _ _).setCell (.inl (.inl rfl)) _;have HB3:Hid (But (fun k=>k=g∨k=rs) w (((w.setCell ⟨g,2,none⟩ (.int .i64 st)).setCell ⟨g,1,none⟩ (.int .i64 st)).setCell ⟨rs,0,none⟩ (.int .i64 0))):=(HB.out.setCell (.inl (.inl rfl)) _).setCell (.inl (.inr rfl)) _;clear hs hrb hrs hr h1 h2 h3
 by_cases he:er=0
 ·have heb:(er != 0)=false:=by simp [he]
  have H1:Hid ((if er=0 then p else st)=p):=if_pos he;have H2:Hid ((if er=0 then v else 0)=v):=if_pos he;rw [H1.out,H2.out];clear he
  go_enter_d Tryz.func240,Tryz.ntmps240
  go_wp2
  go_end0
  exact ⟨rfl,HG2,HN2,HB⟩
 ·have heb:(er != 0)=true:=by simp [he]
  have H1:Hid ((if er=0 then p else st)=st):=if_neg he;have H2:Hid ((if er=0 then v else 0)=0):=if_neg he;rw [H1.out,H2.out];clear he
  go_enter_d Tryz.func240,Tryz.ntmps240
  go_wp2
  go_end0
  exact ⟨rfl,HRR,HRV,HB3⟩
theorem closed_69 (s rb rs g:Nat) (A:Option Addr) (n c p:Nat) (st:Nat) (pv er v:Int) (w:World) (hs:w.heap[s]? =some (.cells #[.int .i64 st] 3 (0,0))) (hrb:w.heap[rb]? =some (.cells #[.pointer (some ⟨g,0,none⟩)] 144 (0,0))) (hrs:w.heap[rs]? =some (.cells #[.int .u64 v] 93 (0,0))) (hr:Rd w g A n c p pv er) (h1:g < rb) (h2:rb < rs) (h3:rs < s):
 CallsD Tryz.prog 191 #[.pointer (some ⟨s,0,none⟩),.pointer (some ⟨rb,0,none⟩),.pointer (some ⟨rs,0,none⟩)] .returning w fun e u' w'=>u'= .returning∧(e= .returned (.tuple #[])∧Hid (Rd w' g A n c (if er=0 then p else st) st er)∧Hid (w'.heap[rs]? =some (.cells #[.int .u64 (if er=0 then v else 0)] 93 (0,0)))∧Hid (But (fun k=>k=g∨k=rs) w w')):=by
 have HR:=lh hr;have HS:=lh hs;have HRB:=lh hrb;have HRS:=lh hrs;have c1:=cell_of_row w g 1 _ _ _ hr;have c2:=cell_of_row w g 2 _ _ _ hr;have c3:=cell_of_row w g 3 _ _ _ hr;have cs:=cell_of_row w s 0 _ _ _ hs;have cb:=cell_of_row w rb 0 _ _ _ hrb;have cr:=cell_of_row w rs 0 _ _ _ hrs;have f1:=frozen_of_row w g 1 _ _ hr;have f2:=frozen_of_row w g 2 _ _ hr;have fr:=frozen_of_row w rs 0 _ _ hrs;simp at c1 c2 c3 cs cb cr;have n1:¬g=rb:=by omega
 have n2:¬g=rs:=by omega
 have n3:¬g=s:=by omega
 have n4:¬rb=rs:=by omega
 have n5:¬rs=s:=by omega
 have n6:¬rb=s:=by omega
 have HG2:Hid (Rd (w.setCell ⟨g,2,none⟩ (.int .i64 st)) g A n c p st er):=heap_setCell_same w _ 2 _ _ (.int .i64 st) hr;have HG21:Hid (Rd ((w.setCell ⟨g,2,none⟩ (.int .i64 st)).setCell ⟨g,1,none⟩ (.int .i64 st)) g A n c st st er):=heap_setCell_same _ _ 1 _ _ (.int .i64 st) HG2.out;have HN2:Hid ((w.setCell ⟨g,2,none⟩ (.int .i64 st)).heap[rs]? =some (.cells #[.int .u64 v] 93 (0,0))):=(heap_setCell_other w _ _ _ (fun e=>n2 e.symm)).trans hrs;have HN21:Hid (((w.setCell ⟨g,2,none⟩ (.int .i64 st)).setCell ⟨g,1,none⟩ (.int .i64 st)).heap[rs]? =some (.cells #[.int .u64 v] 93 (0,0))):=(heap_setCell_other _ _ _ _ (fun e=>n2 e.symm)).trans HN2.out;have HRR:Hid (Rd (((w.setCell ⟨g,2,none⟩ (.int .i64 st)).setCell ⟨g,1,none⟩ (.int .i64 st)).setCell ⟨rs,0,none⟩ (.int .u64 0)) g A n c st st er):=(heap_setCell_other _ _ _ _ n2).trans HG21.out;have HRV:Hid ((((w.setCell ⟨g,2,none⟩ (.int .i64 st)).setCell ⟨g,1,none⟩ (.int .i64 st)).setCell ⟨rs,0,none⟩ (.int .u64 0)).heap[rs]? =some (.cells #[.int .u64 0] 93 (0,0))):=heap_setCell_same _ _ 0 _ _ (.int .u64 0) HN21.out;have HB:Hid (But (fun k=>k=g∨k=rs) w (w.setCell ⟨g,2,none⟩ (.int .i64 st))):=(But.refl _ _).setCell (.inl (.inl rfl)) _;have HB3:Hid (But (fun k=>k=g∨k=rs) w (((w.setCell ⟨g,2,none⟩ (.int .i64 st)).setCell ⟨g,1,none⟩ (.int .i64 st)).setCell ⟨rs,0,none⟩ (.int .u64 0))):=(HB.out.setCell (.inl (.inl rfl)) _).setCell (.inl (.inr rfl)) _;clear hs hrb hrs hr h1 h2 h3
 by_cases he:er=0
 ·have heb:(er != 0)=false:=by simp [he]
  have H1:Hid ((if er=0 then p else st)=p):=if_pos he;have H2:Hid ((if er=0 then v else 0)=v):=if_pos he;rw [H1.out,H2.out];clear he
  go_enter_d Tryz.func191,Tryz.ntmps191
  go_wp2
  go_end0
  exact ⟨rfl,HG2,HN2,HB⟩
 ·have heb:(er != 0)=true:=by simp [he]
  have H1:Hid ((if er=0 then p else st)=st):=if_neg he;have H2:Hid ((if er=0 then v else 0)=0):=if_neg he;rw [H1.out,H2.out];clear he
  go_enter_d Tryz.func191,Tryz.ntmps191
  go_wp2
  go_end0
  exact ⟨rfl,HRR,HRV,HB3⟩
theorem ybJ (bs:List Int) (k acc i p:Nat):0≤(numF bs k acc i p).1:=by
 induction k generalizing acc i p with
 |zero=>simp [numF]
 |succ k ih=>
  rw [numF]
  split
  ·simp
  ·split
   ·exact ih _ _ _
   ·split
    ·simp
    ·show (0:Int)≤((_:Nat):Int)
     omega
def limF (m:Nat) (N:Int × Int × Nat):Int × Int × Nat:=if N.2.1=0 then (if (m:Int) < N.1 then (0,2,N.2.2) else (N.1,0,N.2.2)) else (0,N.2.1,N.2.2)
theorem limited_any (g:Nat) (A:Option Addr) (n c p m:Nat) (pv er0:Int) (bs:List Int) (w:World) (hr:Rd w g A n c p pv er0) (hx:Sl fB w g A n bs) (hb:∀b∈bs,0≤b∧b < 256) (hp:p≤n) (hn:n≤1000000) (hm:m≤1000000):
 Calls Tryz.prog 194 #[.pointer (some ⟨g,0,none⟩),.int .i64 m] w fun e w'=>e= .returned (.tuple #[.int .i64 (limF m (numF bs 10 0 0 p)).1,.int .i64 (limF m (numF bs 10 0 0 p)).2.1])∧Rd w' g A n c (limF m (numF bs 10 0 0 p)).2.2 pv er0∧But (fun k=>k=g) w w':=by
 have HC:=lh (number_any g A n c p pv er0 bs w hr hx hb hp hn);have hv0:=ybJ bs 10 0 0 p;obtain ⟨v,er,p',hN⟩:∃v er p',numF bs 10 0 0 p=(v,er,p'):=⟨_,_,_,rfl⟩
 rw [hN] at HC hv0 ⊢;clear hr hx hb hN;simp only at hv0
 by_cases he:er=0
 ·subst he
  by_cases hlt:(m:Int) < v
  ·have HL:Hid (limF m (v,0,p')=(0,2,p')):=by show _=_;simp [limF,hlt]
   rw [HL.out];go_enter Tryz.func194,Tryz.ntmps194
   go_wp2_with (go_at_call 140;refine HC.out.mono ?_;rintro e w1 ⟨rfl,h1,h2⟩)
   go_ret2;exact ⟨rfl,h1,h2⟩
  ·have HL:Hid (limF m (v,0,p')=(v,0,p')):=by show _=_;simp [limF,hlt]
   rw [HL.out];go_enter Tryz.func194,Tryz.ntmps194
   go_wp2_with (go_at_call 140;refine HC.out.mono ?_;rintro e w1 ⟨rfl,h1,h2⟩)
   go_ret2;exact ⟨rfl,h1,h2⟩
 ·have HL:Hid (limF m (v,er,p')=(0,er,p')):=by show _=_;simp [limF,he]
  have heb:(er != 0)=true:=by simp [he]
  rw [HL.out];go_enter Tryz.func194,Tryz.ntmps194
  go_wp2_with (go_at_call 140;refine HC.out.mono ?_;rintro e w1 ⟨rfl,h1,h2⟩)
  go_ret2;exact ⟨rfl,h1,h2⟩
theorem limc_any (a b g:Nat) (A:Option Addr) (n c p m:Nat) (pv er0:Int) (bs:List Int) (w:World) (ha:w.heap[a]? =some (.cells #[.pointer (some ⟨g,0,none⟩)] 144 (0,0))) (hbk:w.heap[b]? =some (.cells #[.int .i64 m] 3 (0,0))) (hr:Rd w g A n c p pv er0) (hx:Sl fB w g A n bs) (hb:∀b∈bs,0≤b∧b < 256) (hp:p≤n) (hn:n≤1000000) (hm:m≤1000000):
 Calls Tryz.prog 193 #[.pointer (some ⟨a,0,none⟩),.pointer (some ⟨b,0,none⟩)] w fun e w'=>e= .returned (.tuple #[.int .i64 (limF m (numF bs 10 0 0 p)).1,.int .i64 (limF m (numF bs 10 0 0 p)).2.1])∧Rd w' g A n c (limF m (numF bs 10 0 0 p)).2.2 pv er0∧But (fun k=>k=g) w w':=by
 have HC:=lh (limited_any g A n c p m pv er0 bs w hr hx hb hp hn hm);obtain ⟨v,er,p',hN⟩:∃v er p',limF m (numF bs 10 0 0 p)=(v,er,p'):=⟨_,_,_,rfl⟩
 rw [hN] at HC ⊢;have ca:=cell_of_row w a 0 _ _ _ ha;have cb:=cell_of_row w b 0 _ _ _ hbk;simp at ca cb;clear hr hx hb hN ha hbk;go_enter Tryz.func193,Tryz.ntmps193
 go_wp2_with (go_at_call 194;refine HC.out.mono ?_;rintro e w1 ⟨rfl,h1,h2⟩)
 go_ret2;exact ⟨rfl,h1,h2⟩
def RP (kd:IntKind) (g:Nat) (A:Option Addr) (n c p:Nat) (v er:Int) (p':Nat) (w:World) (e:Ending) (w':World):Prop:=
 e= .returned (.int kd (if er=0 then v else 0))∧Rd w' g A n c (if er=0 then p' else p) p er∧But (fun k=>k=g) w w'
theorem read65 (g:Nat) (A:Option Addr) (n c p:Nat) (pv:Int) (bs:List Int) (w:World) (hr:Rd w g A n c p pv 0) (hx:Sl fB w g A n bs) (hb:∀b∈bs,0≤b∧b < 256) (hp:p≤n) (hn:n≤1000000):
 Calls Tryz.prog 139 #[.pointer (some ⟨g,0,none⟩),.func (.func 140) #[.pointer (some ⟨g,0,none⟩)] #[]] w (RP .u64 g A n c p (numF bs 10 0 0 p).1 (numF bs 10 0 0 p).2.1 (numF bs 10 0 0 p).2.2 w):=by
 have HR:=lh hr;have hgw:g < w.heap.size:=lt_of_block hr;have hmf:∀(fn:Fn) (first cap:Array Value) (w:World),(Instr.makeFunc fn first cap).run Tryz.prog w= .ok (.func fn first cap) w:=fun _ _ _ _=>rfl
 have c1:=cell_of_row w g 1 _ _ _ hr;have c3:=cell_of_row w g 3 _ _ _ hr;have f3:=frozen_of_row w g 3 _ _ hr;simp at c1 c3;obtain ⟨v,er,p',hN⟩:∃v er p',numF bs 10 0 0 p=(v,er,p'):=⟨_,_,_,rfl⟩
 have cN:Hid (∀W,Rd W g A n c p pv 0→Sl fB W g A n bs→Calls Tryz.prog 140 #[.pointer (some ⟨g,0,none⟩)] W fun e w'=>e= .returned (.tuple #[.int .u64 v,.int .i64 er])∧Rd w' g A n c p' pv 0∧But (fun k=>k=g) W w'):=fun W h1 h2=>by
  have:=number_any g A n c p pv 0 bs W h1 h2 hb hp hn
  rw [hN] at this;exact this
 rw [hN];have HX:=lh hx;clear hr hx hb hN
 go_enter_defers Tryz.func139,Tryz.ntmps139
 go_wp2;obtain ⟨W3,hW3⟩:∃W3:World,W3=((w.alloc (.cells #[.pointer (some ⟨g,0,none⟩)] 144)).alloc (.cells #[.int .u64 0] 93)).alloc (.cells #[.int .i64 p] 3):=⟨_,rfl⟩
 rw [←hW3];have HB3:Hid (Below w.heap.size w W3):=by rw [hW3];exact (bl.alloc sI _).alloc yaW _
 have hs3:W3.heap.size=w.heap.size+1+1+1:=by rw [hW3];simp
 have HA3:Hid (W3.heap[w.heap.size]? =some (.cells #[.pointer (some ⟨g,0,none⟩)] 144 (0,0))):=by
  show _=_
  rw [hW3,Below.heap_alloc _ _ _ yaW,Below.heap_alloc _ _ _ sI];exact heap_alloc_new w _
 have HC3:Hid (W3.heap[w.heap.size+1]? =some (.cells #[.int .u64 0] 93 (0,0))):=by
  show _=_
  rw [hW3,Below.heap_alloc _ _ _ sI]
  have:=heap_alloc_new (w.alloc (.cells #[.pointer (some ⟨g,0,none⟩)] 144)) (.cells #[.int .u64 0] 93)
  simpa using this
 have HD3:Hid (W3.heap[w.heap.size+1+1]? =some (.cells #[.int .i64 p] 3 (0,0))):=by
  show _=_
  rw [hW3]
  have:=heap_alloc_new ((w.alloc (.cells #[.pointer (some ⟨g,0,none⟩)] 144)).alloc (.cells #[.int .u64 0] 93)) (.cells #[.int .i64 p] 3)
  simpa using this
 have HR3:Hid (Rd W3 g A n c p pv 0):=(HB3.out.block g hgw).trans HR.out;have HX3:Hid (Sl fB W3 g A n bs):=HX.out.up HB3.out (Nat.le_of_lt hgw);have cA:=cell_of_row W3 w.heap.size 0 _ _ _ HA3.out;simp at cA;clear hW3 c1 c3 f3;have hne1:¬g=w.heap.size:=by omega
 have hne2:¬w.heap.size=g:=by omega
 have hne3:¬g=w.heap.size+1:=by omega
 have hne4:¬w.heap.size+1=g:=by omega
 go_region_held3 (fun w'=>w'.cell? ⟨w.heap.size,0,none⟩=some (.pointer (some ⟨g,0,none⟩))) (first |go_keep |exact cA5) (first |(go_at_call 140;(refine (cN.out W3.drew HR3.out HX3.out).mono ?_);(rintro e w5 ⟨rfl,hR5,hb5⟩);(have HR5:=lh hR5);(have HB5:Hid (But (fun k=>k=g) W3 w5):=⟨hb5.os,hb5.tape,hb5.output,hb5.size,hb5.block⟩);(have HA5:Hid (w5.heap[w.heap.size]? =some (.cells #[.pointer (some ⟨g,0,none⟩)] 144 (0,0))):=(hb5.block w.heap.size yaO om).trans HA3.out);(have HC5:Hid (w5.heap[w.heap.size+1]? =some (.cells #[.int .u64 0] 93 (0,0))):=(hb5.block (w.heap.size+1) yaO om).trans HC3.out);(have cA5:=cell_of_row w5 w.heap.size 0 _ _ _ HA5.out);(simp at cA5);(have cC5:=cell_of_row w5 (w.heap.size+1) 0 _ _ _ HC5.out);(have cG5:=cell_of_row w5 g 3 _ _ _ hR5);(simp at cC5 cG5);(have f5r:=frozen_of_row w5 (w.heap.size+1) 0 _ _ HC5.out);(have f5g:=frozen_of_row w5 g 3 _ _ hR5);(clear hb5 hR5)))
 go_wp2;have HD5:Hid (w5.heap[w.heap.size+1+1]? =some (.cells #[.int .i64 p] 3 (0,0))):=(HB5.out.block (w.heap.size+1+1) om om).trans HD3.out;obtain ⟨WD,hWD⟩:∃WD:World,WD=((w5.setCell ⟨w.heap.size+1,0,none⟩ (.int .u64 v)).setCell ⟨g,3,none⟩ (.int .i64 er)).setCell ⟨w.heap.size+1,0,none⟩ (.int .u64 v):=⟨_,rfl⟩
 rw [←hWD]
 have o1:∀k,k≠w.heap.size+1→k≠g→WD.heap[k]? =w5.heap[k]? :=fun k h1 h2=>by
  rw [hWD];exact (heap_setCell_other _ _ _ _ h1).trans ((heap_setCell_other _ _ _ _ h2).trans (heap_setCell_other _ _ _ _ h1))
 have HAD:WD.heap[w.heap.size]? =some (.cells #[.pointer (some ⟨g,0,none⟩)] 144 (0,0)):=(o1 _ om om).trans HA5.out;have HDD:WD.heap[w.heap.size+1+1]? =some (.cells #[.int .i64 p] 3 (0,0)):=(o1 _ om om).trans HD5.out;have hR6:Rd (w5.setCell ⟨w.heap.size+1,0,none⟩ (.int .u64 v)) g A n c p' pv 0:=(heap_setCell_other _ _ _ _ hne3).trans HR5.out;have hR7:Rd ((w5.setCell ⟨w.heap.size+1,0,none⟩ (.int .u64 v)).setCell ⟨g,3,none⟩ (.int .i64 er)) g A n c p' pv er:=heap_setCell_same _ _ 3 _ _ (.int .i64 er) hR6;have hR8:Rd WD g A n c p' pv er:=by rw [hWD];exact (heap_setCell_other _ _ _ _ hne3).trans hR7
 have hC6:(w5.setCell ⟨w.heap.size+1,0,none⟩ (.int .u64 v)).heap[w.heap.size+1]? =some (.cells #[.int .u64 v] 93 (0,0)):=heap_setCell_same _ _ 0 _ _ (.int .u64 v) HC5.out
 have hC8:WD.heap[w.heap.size+1]? =some (.cells #[.int .u64 v] 93 (0,0)):=by
  rw [hWD];exact heap_setCell_same _ _ 0 _ _ (.int .u64 v) ((heap_setCell_other _ _ _ _ hne4).trans hC6)
 have HBD:Hid (But (fun k=>k=g) w WD):=by
  have h1:But (fun k=>k=g) w w5:=(But.of_below (p:=fun k=>k=g) HB3.out).trans (q:=fun k=>k=g) HB5.out (fun i hi=> .inl hi);rw [hWD];exact ((h1.setCell (.inr yaP) _).setCell (.inl rfl) _).setCell (.inr yaP) _
 clear hWD;refine leaves_cons (f:=191) (args:=#[.pointer (some ⟨w.heap.size+1+1,0,none⟩),.pointer (some ⟨w.heap.size,0,none⟩),.pointer (some ⟨w.heap.size+1,0,none⟩)]) sI (by simp [go_sem]) ?_;refine (closed_69 _ _ _ g A n c p' p pv er v _ HDD HAD hC8 hR8 hgw om om).mono ?_;rintro e u' w9 ⟨rfl,rfl,hR9,hC9,hB9⟩;have hC9':=cell_of_row w9 (w.heap.size+1) 0 _ _ _ hC9.out;have hfin:RP .u64 g A n c p v er p' w (.returned (.int .u64 (if er=0 then v else 0))) w9:=⟨rfl,hR9.out,HBD.out.trans hB9.out (fun i hi=>by rcases hi with rfl |rfl;exact .inl rfl;exact .inr om)⟩;refine ⟨.int .u64 (if er=0 then v else 0),?_,hfin⟩;obtain ⟨z,hz⟩:∃z:Int,(if er=0 then v else 0)=z:=⟨_,rfl⟩
 rw [hz] at hC9' ⊢;simp at hC9';simp [results,go_sem,hC9']
 done
theorem read62 (a b m g:Nat) (A:Option Addr) (n c p:Nat) (pv:Int) (bs:List Int) (w:World) (ha:w.heap[a]? =some (.cells #[.pointer (some ⟨g,0,none⟩)] 144 (0,0))) (hbk:w.heap[b]? =some (.cells #[.int .i64 m] 3 (0,0))) (hm:m≤1000000) (hr:Rd w g A n c p pv 0) (hx:Sl fB w g A n bs) (hb:∀b∈bs,0≤b∧b < 256) (hp:p≤n) (hn:n≤1000000):
 Calls Tryz.prog 192 #[.pointer (some ⟨g,0,none⟩),.func (.func 193) #[] #[.pointer (some ⟨a,0,none⟩),.pointer (some ⟨b,0,none⟩)]] w (RP .i64 g A n c p (limF m (numF bs 10 0 0 p)).1 (limF m (numF bs 10 0 0 p)).2.1 (limF m (numF bs 10 0 0 p)).2.2 w):=by
 have HR:=lh hr;have hgw:g < w.heap.size:=lt_of_block hr;have hmf:∀(fn:Fn) (first cap:Array Value) (w:World),(Instr.makeFunc fn first cap).run Tryz.prog w= .ok (.func fn first cap) w:=fun _ _ _ _=>rfl
 have c1:=cell_of_row w g 1 _ _ _ hr;have c3:=cell_of_row w g 3 _ _ _ hr;have f3:=frozen_of_row w g 3 _ _ hr;simp at c1 c3;obtain ⟨v,er,p',hN⟩:∃v er p',limF m (numF bs 10 0 0 p)=(v,er,p'):=⟨_,_,_,rfl⟩
 have cN:Hid (∀W,Rd W g A n c p pv 0→Sl fB W g A n bs→W.heap[a]? =some (.cells #[.pointer (some ⟨g,0,none⟩)] 144 (0,0))→W.heap[b]? =some (.cells #[.int .i64 m] 3 (0,0))→Calls Tryz.prog 193 #[.pointer (some ⟨a,0,none⟩),.pointer (some ⟨b,0,none⟩)] W fun e w'=>e= .returned (.tuple #[.int .i64 v,.int .i64 er])∧Rd w' g A n c p' pv 0∧But (fun k=>k=g) W w'):=fun W h1 h2 h3 h4=>by
  have:=limc_any a b g A n c p m pv 0 bs W h3 h4 h1 h2 hb hp hn hm
  rw [hN] at this;exact this
 rw [hN];have HX:=lh hx;have HAA:=lh ha;have HBB:=lh hbk;clear hr hx hb hN ha hbk
 go_enter_defers Tryz.func192,Tryz.ntmps192
 go_wp2;obtain ⟨W3,hW3⟩:∃W3:World,W3=((w.alloc (.cells #[.pointer (some ⟨g,0,none⟩)] 144)).alloc (.cells #[.int .i64 0] 3)).alloc (.cells #[.int .i64 p] 3):=⟨_,rfl⟩
 rw [←hW3];have HB3:Hid (Below w.heap.size w W3):=by rw [hW3];exact (bl.alloc sI _).alloc yaW _
 have hs3:W3.heap.size=w.heap.size+1+1+1:=by rw [hW3];simp
 have HA3:Hid (W3.heap[w.heap.size]? =some (.cells #[.pointer (some ⟨g,0,none⟩)] 144 (0,0))):=by
  show _=_
  rw [hW3,Below.heap_alloc _ _ _ yaW,Below.heap_alloc _ _ _ sI];exact heap_alloc_new w _
 have HC3:Hid (W3.heap[w.heap.size+1]? =some (.cells #[.int .i64 0] 3 (0,0))):=by
  show _=_
  rw [hW3,Below.heap_alloc _ _ _ sI]
  have:=heap_alloc_new (w.alloc (.cells #[.pointer (some ⟨g,0,none⟩)] 144)) (.cells #[.int .i64 0] 3)
  simpa using this
 have HD3:Hid (W3.heap[w.heap.size+1+1]? =some (.cells #[.int .i64 p] 3 (0,0))):=by
  show _=_
  rw [hW3]
  have:=heap_alloc_new ((w.alloc (.cells #[.pointer (some ⟨g,0,none⟩)] 144)).alloc (.cells #[.int .i64 0] 3)) (.cells #[.int .i64 p] 3)
  simpa using this
 have HR3:Hid (Rd W3 g A n c p pv 0):=(HB3.out.block g hgw).trans HR.out;have HX3:Hid (Sl fB W3 g A n bs):=HX.out.up HB3.out (Nat.le_of_lt hgw);have HAA3:Hid (W3.heap[a]? =some (.cells #[.pointer (some ⟨g,0,none⟩)] 144 (0,0))):=(HB3.out.block a (lt_of_block HAA.out)).trans HAA.out;have HBB3:Hid (W3.heap[b]? =some (.cells #[.int .i64 m] 3 (0,0))):=(HB3.out.block b (lt_of_block HBB.out)).trans HBB.out;have cA:=cell_of_row W3 w.heap.size 0 _ _ _ HA3.out;simp at cA;clear hW3 c1 c3 f3;have hne1:¬g=w.heap.size:=by omega
 have hne2:¬w.heap.size=g:=by omega
 have hne3:¬g=w.heap.size+1:=by omega
 have hne4:¬w.heap.size+1=g:=by omega
 go_region_held3 (fun w'=>w'.cell? ⟨w.heap.size,0,none⟩=some (.pointer (some ⟨g,0,none⟩))) (first |go_keep |exact cA5) (first |(go_at_call 193;(refine (cN.out W3.drew HR3.out HX3.out HAA3.out HBB3.out).mono ?_);(rintro e w5 ⟨rfl,hR5,hb5⟩);(have HR5:=lh hR5);(have HB5:Hid (But (fun k=>k=g) W3 w5):=⟨hb5.os,hb5.tape,hb5.output,hb5.size,hb5.block⟩);(have HA5:Hid (w5.heap[w.heap.size]? =some (.cells #[.pointer (some ⟨g,0,none⟩)] 144 (0,0))):=(hb5.block w.heap.size yaO om).trans HA3.out);(have HC5:Hid (w5.heap[w.heap.size+1]? =some (.cells #[.int .i64 0] 3 (0,0))):=(hb5.block (w.heap.size+1) yaO om).trans HC3.out);(have cA5:=cell_of_row w5 w.heap.size 0 _ _ _ HA5.out);(simp at cA5);(have cC5:=cell_of_row w5 (w.heap.size+1) 0 _ _ _ HC5.out);(have cG5:=cell_of_row w5 g 3 _ _ _ hR5);(simp at cC5 cG5);(have f5r:=frozen_of_row w5 (w.heap.size+1) 0 _ _ HC5.out);(have f5g:=frozen_of_row w5 g 3 _ _ hR5);(clear hb5 hR5)))
 go_wp2;have HD5:Hid (w5.heap[w.heap.size+1+1]? =some (.cells #[.int .i64 p] 3 (0,0))):=(HB5.out.block (w.heap.size+1+1) om om).trans HD3.out;obtain ⟨WD,hWD⟩:∃WD:World,WD=((w5.setCell ⟨w.heap.size+1,0,none⟩ (.int .i64 v)).setCell ⟨g,3,none⟩ (.int .i64 er)).setCell ⟨w.heap.size+1,0,none⟩ (.int .i64 v):=⟨_,rfl⟩
 rw [←hWD]
 have o1:∀k,k≠w.heap.size+1→k≠g→WD.heap[k]? =w5.heap[k]? :=fun k h1 h2=>by
  rw [hWD];exact (heap_setCell_other _ _ _ _ h1).trans ((heap_setCell_other _ _ _ _ h2).trans (heap_setCell_other _ _ _ _ h1))
 have HAD:WD.heap[w.heap.size]? =some (.cells #[.pointer (some ⟨g,0,none⟩)] 144 (0,0)):=(o1 _ om om).trans HA5.out;have HDD:WD.heap[w.heap.size+1+1]? =some (.cells #[.int .i64 p] 3 (0,0)):=(o1 _ om om).trans HD5.out;have hR6:Rd (w5.setCell ⟨w.heap.size+1,0,none⟩ (.int .i64 v)) g A n c p' pv 0:=(heap_setCell_other _ _ _ _ hne3).trans HR5.out;have hR7:Rd ((w5.setCell ⟨w.heap.size+1,0,none⟩ (.int .i64 v)).setCell ⟨g,3,none⟩ (.int .i64 er)) g A n c p' pv er:=heap_setCell_same _ _ 3 _ _ (.int .i64 er) hR6;have hR8:Rd WD g A n c p' pv er:=by rw [hWD];exact (heap_setCell_other _ _ _ _ hne3).trans hR7
 have hC6:(w5.setCell ⟨w.heap.size+1,0,none⟩ (.int .i64 v)).heap[w.heap.size+1]? =some (.cells #[.int .i64 v] 3 (0,0)):=heap_setCell_same _ _ 0 _ _ (.int .i64 v) HC5.out
 have hC8:WD.heap[w.heap.size+1]? =some (.cells #[.int .i64 v] 3 (0,0)):=by
  rw [hWD];exact heap_setCell_same _ _ 0 _ _ (.int .i64 v) ((heap_setCell_other _ _ _ _ hne4).trans hC6)
 have HBD:Hid (But (fun k=>k=g) w WD):=by
  have h1:But (fun k=>k=g) w w5:=(But.of_below (p:=fun k=>k=g) HB3.out).trans (q:=fun k=>k=g) HB5.out (fun i hi=> .inl hi);rw [hWD];exact ((h1.setCell (.inr yaP) _).setCell (.inl rfl) _).setCell (.inr yaP) _
 clear hWD;refine leaves_cons (f:=240) (args:=#[.pointer (some ⟨w.heap.size+1+1,0,none⟩),.pointer (some ⟨w.heap.size,0,none⟩),.pointer (some ⟨w.heap.size+1,0,none⟩)]) sI (by simp [go_sem]) ?_;refine (closed_68 _ _ _ g A n c p' p pv er v _ HDD HAD hC8 hR8 hgw om om).mono ?_;rintro e u' w9 ⟨rfl,rfl,hR9,hC9,hB9⟩;have hC9':=cell_of_row w9 (w.heap.size+1) 0 _ _ _ hC9.out;have hfin:RP .i64 g A n c p v er p' w (.returned (.int .i64 (if er=0 then v else 0))) w9:=⟨rfl,hR9.out,HBD.out.trans hB9.out (fun i hi=>by rcases hi with rfl |rfl;exact .inl rfl;exact .inr om)⟩;refine ⟨.int .i64 (if er=0 then v else 0),?_,hfin⟩;obtain ⟨z,hz⟩:∃z:Int,(if er=0 then v else 0)=z:=⟨_,rfl⟩
 rw [hz] at hC9' ⊢;simp at hC9';simp [results,go_sem,hC9']
 done
theorem read65_err (g:Nat) (A:Option Addr) (n c p:Nat) (pv er:Int) (w:World) (hr:Rd w g A n c p pv er) (he:er≠0):
 Calls Tryz.prog 139 #[.pointer (some ⟨g,0,none⟩),.func (.func 140) #[.pointer (some ⟨g,0,none⟩)] #[]] w fun e w'=>e= .returned (.int .u64 0)∧Rd w' g A n c p pv er∧Below w.heap.size w w':=by
 have heb:(er != 0)=true:=by simp [he]
 have c3:=cell_of_row w g 3 _ _ _ hr;simp at c3;have HR:=lh hr;have hgw:g < w.heap.size:=lt_of_block hr;clear hr he
 go_enter_defers Tryz.func139,Tryz.ntmps139
 go_wp2;obtain ⟨W2,hW2⟩:∃W2:World,W2=(w.alloc (.cells #[.pointer (some ⟨g,0,none⟩)] 144)).alloc (.cells #[.int .u64 0] 93):=⟨_,rfl⟩
 have hb2:Below w.heap.size w W2:=by rw [hW2];exact bl.alloc sI _
 have hc2:W2.heap[w.heap.size+1]? =some (.cells #[.int .u64 0] 93 (0,0)):=by
  rw [hW2]
  have:=heap_alloc_new (w.alloc (.cells #[.pointer (some ⟨g,0,none⟩)] 144)) (.cells #[.int .u64 0] 93)
  simpa using this
 rw [←hW2];have hd9:=cell_of_row _ (w.heap.size+1) 0 _ _ _ hc2;simp at hd9;refine ⟨.int .u64 0,?_,rfl,(hb2.block g hgw).trans HR.out,hb2⟩;simp [results,go_sem,hd9]
theorem ydE (g:Nat) (A:Option Addr) (n c p:Nat) (pv:Int) (bs:List Int) (w:World) (hr:Rd w g A n c p pv 0) (hx:Sl fB w g A n bs) (hb:∀b∈bs,0≤b∧b < 256) (hp:p≤n) (hn:n≤1000000):
 Calls Tryz.prog 82 #[.pointer (some ⟨g,0,none⟩)] w (RP .u64 g A n c p (numF bs 10 0 0 p).1 (numF bs 10 0 0 p).2.1 (numF bs 10 0 0 p).2.2 w):=by
 have HC:=lh (read65 g A n c p pv bs w hr hx hb hp hn);have hmf:∀(fn:Fn) (first cap:Array Value) (w:World),(Instr.makeFunc fn first cap).run Tryz.prog w= .ok (.func fn first cap) w:=fun _ _ _ _=>rfl
 obtain ⟨v,er,p',hN⟩:∃v er p',numF bs 10 0 0 p=(v,er,p'):=⟨_,_,_,rfl⟩
 rw [hN] at HC ⊢;clear hr hx hb hN;go_enter Tryz.func82,Tryz.ntmps82
 go_wp2_with (go_at_call 139;refine HC.out.mono ?_;rintro e w1 ⟨he,h1,h2⟩;have H1:=lh h1;have H2:=lh h2;obtain ⟨z,hz⟩:∃z,(if er=0 then v else 0)=z:=⟨_,rfl⟩;rw [hz] at he;have HZ:=lh hz;clear hz h1 h2;subst he)
 go_ret;exact ⟨by rw [HZ.out];rfl,H1.out,H2.out⟩
theorem ruint_err (g:Nat) (A:Option Addr) (n c p:Nat) (pv er:Int) (w:World) (hr:Rd w g A n c p pv er) (he:er≠0):
 Calls Tryz.prog 82 #[.pointer (some ⟨g,0,none⟩)] w fun e w'=>e= .returned (.int .u64 0)∧Rd w' g A n c p pv er∧Below w.heap.size w w':=by
 have HC:=lh (read65_err g A n c p pv er w hr he);have hmf:∀(fn:Fn) (first cap:Array Value) (w:World),(Instr.makeFunc fn first cap).run Tryz.prog w= .ok (.func fn first cap) w:=fun _ _ _ _=>rfl
 clear hr he;go_enter Tryz.func82,Tryz.ntmps82
 go_wp2_with (go_at_call 139;refine HC.out.mono ?_;rintro e w1 ⟨rfl,h1,h2⟩)
 go_ret;exact ⟨rfl,h1,h2⟩
theorem rcount_ok (g:Nat) (A:Option Addr) (n c p m:Nat) (pv:Int) (bs:List Int) (w:World) (hr:Rd w g A n c p pv 0) (hx:Sl fB w g A n bs) (hb:∀b∈bs,0≤b∧b < 256) (hp:p≤n) (hn:n≤1000000) (hm:m≤1000000):
 Calls Tryz.prog 141 #[.pointer (some ⟨g,0,none⟩),.int .i64 m] w (RP .i64 g A n c p (limF m (numF bs 10 0 0 p)).1 (limF m (numF bs 10 0 0 p)).2.1 (limF m (numF bs 10 0 0 p)).2.2 w):=by
 have hmf:∀(fn:Fn) (first cap:Array Value) (w:World),(Instr.makeFunc fn first cap).run Tryz.prog w= .ok (.func fn first cap) w:=fun _ _ _ _=>rfl
 obtain ⟨W2,hW2⟩:∃W2:World,W2=(w.alloc (.cells #[.pointer (some ⟨g,0,none⟩)] 144)).alloc (.cells #[.int .i64 m] 3):=⟨_,rfl⟩
 have hgw:g < w.heap.size:=lt_of_block hr;have hb2:Below w.heap.size w W2:=by rw [hW2];exact bl.alloc sI _
 have hA2:W2.heap[w.heap.size]? =some (.cells #[.pointer (some ⟨g,0,none⟩)] 144 (0,0)):=by
  rw [hW2,Below.heap_alloc _ _ _ sI];exact heap_alloc_new w _
 have hB2:W2.heap[w.heap.size+1]? =some (.cells #[.int .i64 m] 3 (0,0)):=by
  rw [hW2]
  have:=heap_alloc_new (w.alloc (.cells #[.pointer (some ⟨g,0,none⟩)] 144)) (.cells #[.int .i64 m] 3)
  simpa using this
 have HC:=lh (read62 w.heap.size (w.heap.size+1) m g A n c p pv bs W2 hA2 hB2 hm ((hb2.block g hgw).trans hr) (hx.up hb2 (Nat.le_of_lt hgw)) hb hp hn);have HB2:=lh hb2;rw [hW2] at HC HB2;obtain ⟨v,er,p',hN⟩:∃v er p',limF m (numF bs 10 0 0 p)=(v,er,p'):=⟨_,_,_,rfl⟩
 rw [hN] at HC ⊢;clear hr hx hb hN hA2 hB2 hb2 hW2;go_enter Tryz.func141,Tryz.ntmps141
 go_wp2_with (go_at_call 192;refine HC.out.mono ?_;rintro e w1 ⟨he,h1,h2⟩;have H1:=lh h1;have H2:=lh h2;obtain ⟨z,hz⟩:∃z,(if er=0 then v else 0)=z:=⟨_,rfl⟩;rw [hz] at he;have HZ:=lh hz;clear hz h1 h2;subst he)
 go_ret;exact ⟨by rw [HZ.out];rfl,H1.out,(But.of_below (p:=fun k=>k=g) HB2.out).trans (q:=fun k=>k=g) H2.out (fun i hi=> .inl hi)⟩
theorem Sl.on {α:Type} {f:α→Value} {w w':World} {A:Option Addr} {n:Nat} {xs:List α} (h:Sl f w w.heap.size A n xs) (hb:Below w.heap.size w w'):Sl f w' w'.heap.size A n xs:=(h.up hb nl).more' hb.size
theorem ydF (g:Nat) (A:Option Addr) (n c p:Nat) (pv er:Int) (w:World) (hr:Rd w g A n c p pv er):
 Calls Tryz.prog 142 #[.pointer (some ⟨g,0,none⟩)] w fun e w'=>e= .returned (.tuple #[.int .i64 p,.int .i64 (if er=0 then (if p < n then 3 else 0) else er)])∧Below w.heap.size w w':=by
 have c0:=cell_of_row w g 0 _ _ _ hr;have c1:=cell_of_row w g 1 _ _ _ hr;have c3:=cell_of_row w g 3 _ _ _ hr;simp at c0 c1 c3;clear hr;obtain ⟨z,hz⟩:∃z:Int,(if er=0 then (if p < n then 3 else 0) else er)=z:=⟨_,rfl⟩
 rw [hz]
 by_cases he:er=0
 ·have heb:(er != 0)=false:=by simp [he]
  rw [if_pos he] at hz;clear he
  by_cases hlt:p < n
  ·rw [if_pos hlt] at hz
   subst hz;go_enter Tryz.func142,Tryz.ntmps142;go_wp2
   go_quiet (fail)
   go_wp2;go_ret2;exact ⟨rfl,below_drewN br _⟩
  ·rw [if_neg hlt] at hz
   subst hz;go_enter Tryz.func142,Tryz.ntmps142;go_wp2
   go_quiet (fail)
   go_wp2;go_ret2;exact ⟨rfl,below_drewN br _⟩
 ·have heb:(er != 0)=true:=by simp [he]
  rw [if_neg he] at hz;clear he;subst hz;go_enter Tryz.func142,Tryz.ntmps142;go_wp2
  go_quiet (fail)
  go_wp2;go_ret2;exact ⟨rfl,below_drewN br _⟩
def NewRd (n:Nat) (bs:List Int) (w:World) (e:Ending) (w':World):Prop:=
 ∃g A1 c1,e= .returned (.pointer (some ⟨g,0,none⟩))∧Rd w' g A1 n c1 0 0 0∧Sl fB w' g A1 n bs∧w.heap.size≤g∧Below w.heap.size w w'∧n≤c1
theorem ycY (A:Option Addr) (n c:Nat) (bs:List Int) (w:World) (hx:Sl fB w w.heap.size A n bs) (hn:n≤1000000):
 Calls Tryz.prog 81 #[.slice A n c] w (NewRd n bs w):=by
 obtain ⟨i0,hi,hz0,hz1,hz2⟩:=info_parts Tryz.infoB;have HI:=lh hi;have HZ0:=lh hz0;have HZ1:=lh hz1;have HZ2:=lh hz2;clear hi hz0 hz1 hz2;have HO0:Hid (Own fB 5 (w.alloc (.cells #[] 5)) w.heap.size (.slice (some ⟨w.heap.size,0,none⟩) 0 0) []):=World.ownsRow_lit w #[] 0 nl yaS rfl;have HB0:Hid (Below w.heap.size w (w.alloc (.cells #[] 5))):=bl;have HS0:Hid (Sl fB (w.alloc (.cells #[] 5)) (w.alloc (.cells #[] 5)).heap.size A n bs):=hx.on HB0.out;have HL1:Hid ((([]:List Int).length+bs.length)*1≤140737488355328):=by show _≤_;rw [hx.1];simp;omega
 have HL3:Hid (([]:List Int).length+bs.length≤maxLen):=by show _≤_;rw [hx.1];unfold maxLen;simp;omega
 have HLN:Hid (bs.length=n):=hx.1;clear hx;go_enter Tryz.func81,Tryz.ntmps81
 go_wp2_with (refine ya8 (o:=⟨some 5,_,_,_,_,_⟩) rfl (.tmp 3) (.tmp 4) 40 rfl 5 i0 (.int .u8 0) 1 Tryz.underlying40 HI.out HZ0.out HZ1.out HZ2.out rfl (.slice (some ⟨w.heap.size,0,none⟩) 0 0) ([]:List Int) w.heap.size rfl HO0.out A n c (w.alloc (.cells #[] 5)).heap.size bs rfl HS0.out fB1 HL1.out HL3.out HB0.out.size ?_;intro v6 w6 HO6 HG6 _;obtain ⟨A6,c6,hv6,hc6,hs6,_⟩:=HO6.out.shape;have HS6:Hid (Sl fB w6 w6.heap.size A6 n bs):=⟨HLN.out,hs6⟩;have HB6:Hid (Below w.heap.size w w6):=HO0.out.below HB0.out nl HB0.out.size HG6.out;rw [List.nil_append,HLN.out] at hv6;(have HC6:Hid (n≤c6):=Nat.le_trans (Nat.le_of_eq HLN.out.symm) hc6);clear hc6 hs6;subst hv6)
 go_ret;have hb7:Below w.heap.size w (w6.alloc (.cells #[.slice A6 n c6,.int .i64 0,.int .i64 0,.int .i64 0] 220)):=HB6.out.alloc HB6.out.size _;exact ⟨w6.heap.size,A6,c6,rfl,heap_alloc_new w6 _,HS6.out.up bl nl,HB6.out.size,hb7,HC6.out⟩
theorem split128 (n P:Nat):n % 128*P+n / 128*(P*128)=n*P:=by
 have h:=Nat.div_add_mod n 128;have e:n*P=(128*(n / 128)+n % 128)*P:=by rw [h]
 rw [e,Nat.add_mul,Nat.mul_comm 128 (n / 128),Nat.mul_assoc,Nat.mul_comm 128 P];omega
theorem ydG (bs:List Int):∀(k n i acc p:Nat),n < 128 ^ k→0 < k→i < 10→(∀j,j < (encF k n).length→bs[p+j]? =(encF k n)[j]?)→(i=0∨0 < n)→n*128 ^ i < 18446744073709551616→
 numF bs (10 - i) acc i p=(((acc+n*128 ^ i:Nat):Int),0,p+(encF k n).length)
 |0,_,_,_,_,_,h,_,_,_,_=>absurd h om
 |k+1,n,i,acc,p,hn,_,hi,hb,h0,hfit=>by
  obtain ⟨m,hm⟩:∃m,10 - i=m+1:=⟨9 - i,by omega⟩
  by_cases hlt:n < 128
  ·have he:encF (k+1) n=[(n:Int)]:=by rw [encF,if_pos hlt]
   rw [he] at hb ⊢;have h1:=hb 0 sI;simp only [Nat.add_zero,List.getElem?_cons_zero] at h1;rw [hm,numF,h1];simp only [];rw [if_neg om,if_neg,Int.toNat_natCast]
   ·rfl
   ·intro hbad
    rcases hbad with ⟨h2,h3⟩ |⟨h2,h3⟩
    ·omega
    ·subst h2
     have:2*128 ^ 9≤n*128 ^ 9:=Nat.mul_le_mul_right _ om
     omega
  ·have he:encF (k+1) n=((n % 128+128:Nat):Int)::encF k (n / 128):=by rw [encF,if_neg hlt]
   rw [he] at hb ⊢;have h1:=hb 0 sI;simp only [Nat.add_zero,List.getElem?_cons_zero] at h1
   have hk:0 < k:=by
    rcases k with _ |k
    ·simp at hn;omega
    ·omega
   have hd:n / 128 < 128 ^ k:=by rw [Nat.pow_succ] at hn;omega
   have hs:=split128 n (128 ^ i)
   have hi9:i < 9:=by
    rcases Nat.lt_or_ge i 9 with h |h
    ·exact h
    ·obtain rfl:i=9:=by omega
     have:128*128 ^ 9≤n*128 ^ 9:=Nat.mul_le_mul_right _ om
     omega
   have ih:=ydG bs k (n / 128) (i+1) (acc+n % 128*128 ^ i) (p+1) hd hk om (fun j hj=>by
    have:=hb (j+1) yaW
    rw [List.getElem?_cons_succ] at this
    rw [←this];congr 1;omega) (.inr om) (by rw [Nat.pow_succ];omega)
   rw [hm,numF,h1];simp only [];have e1:(((n % 128+128:Nat):Int) % 128).toNat=n % 128:=by omega
   rw [if_pos om,e1,show m=10 - (i+1) by omega,ih,List.length_cons,Nat.pow_succ];simp only [Prod.mk.injEq,true_and];refine ⟨?_,by omega⟩
   congr 1
   omega
theorem numF_only (bs:List Int) (hb:∀b∈bs,0≤b∧b < 256):∀(k acc i p p':Nat) (v:Int),k+i=10→numF bs k acc i p=(v,0,p')→
 ∃n:Nat,v=((acc+n*128 ^ i:Nat):Int)∧p'=p+(encF k n).length∧(∀j,j < (encF k n).length→bs[p+j]? =(encF k n)[j]?)∧n < 128 ^ k∧(i=0∨0 < n)∧n*128 ^ i < 18446744073709551616
 |0,acc,i,p,p',v,_,h=>by simp [numF] at h
 |k+1,acc,i,p,p',v,hki,h=>by
  rw [numF] at h
  cases hx:bs[p]? with
  |none=>rw [hx] at h;simp at h
  |some b=>
   rw [hx] at h;simp only [] at h;obtain ⟨h0,h1⟩:=hb b (List.mem_of_getElem? hx)
   by_cases hge:128≤b
   ·rw [if_pos hge] at h
    obtain ⟨n,e1,e2,e3,e4,e5,e6⟩:=numF_only bs hb k _ _ _ p' v om h;obtain ⟨m,hm⟩:∃m:Nat,b=m:=⟨b.toNat,by omega⟩
    subst hm;have em:((m:Int) % 128).toNat=m % 128:=by omega
    rw [em] at e1;have hn0:0 < n:=by omega
    have hq:(n*128+m % 128) / 128=n:=by omega
    have hr:(n*128+m % 128) % 128=m % 128:=by omega
    have hs:=split128 (n*128+m % 128) (128 ^ i);rw [hq,hr] at hs
    have he:encF (k+1) (n*128+m % 128)=((m:Nat):Int)::encF k n:=by
     rw [encF,if_neg om,hq,hr]
     congr 1
     omega
    rw [Nat.pow_succ] at e1 e6
    have hi9:i < 9:=by
     rcases Nat.lt_or_ge i 9 with h |h
     ·exact h
     ·obtain rfl:i=9:=by omega
      have:1*(128 ^ 9*128)≤n*(128 ^ 9*128):=Nat.mul_le_mul_right _ om
      omega
    have hfit:(n*128+m % 128)*128 ^ i < 18446744073709551616:=by
     rw [←hs];have hP:128 ^ i≤128 ^ 8:=Nat.pow_le_pow_right om om
     have h1:m % 128*128 ^ i+128 ^ i≤128 ^ i*128:=by
      have:m % 128*128 ^ i≤127*128 ^ i:=Nat.mul_le_mul_right _ om
      omega
     have h2:128 ^ i*128 ∣ 18446744073709551616:=by
      have e:18446744073709551616=128 ^ i*128*2 ^ (64 - 7*(i+1)):=by
       have e7:(128:Nat) ^ i*128=2 ^ (7*(i+1)):=by rw [←Nat.pow_succ,Nat.pow_mul]
       rw [e7,←Nat.pow_add,show 7*(i+1)+(64 - 7*(i+1))=64 by omega]
      exact ⟨_,e⟩
     obtain ⟨c,hc⟩:=h2;have hPp:0 < 128 ^ i:=Nat.pow_pos om;rw [hc] at e6
     have h3:n < c:=by
      rcases Nat.lt_or_ge n c with h |h
      ·exact h
      ·have:c*(128 ^ i*128)≤n*(128 ^ i*128):=Nat.mul_le_mul_right _ h
       rw [Nat.mul_comm c] at this;omega
     have h4:(n+1)*(128 ^ i*128)≤c*(128 ^ i*128):=Nat.mul_le_mul_right _ h3;rw [Nat.mul_comm c,←hc,Nat.add_mul,Nat.one_mul] at h4;omega
    refine ⟨n*128+m % 128,?_,?_,?_,?_,.inr om,hfit⟩
    ·rw [e1,←hs];congr 1;omega
    ·rw [he,e2,List.length_cons];omega
    ·rw [he]
     intro j hj;rcases j with _ |j
     ·simpa using hx
     ·rw [List.getElem?_cons_succ,←e3 j (by simpa using hj)];congr 1;omega
    ·rw [Nat.pow_succ];omega
   ·rw [if_neg hge] at h
    split at h
    ·simp at h
    ·rename_i hok
     simp only [Prod.mk.injEq,true_and] at h;obtain ⟨e1,e2⟩:=h;obtain ⟨m,hm⟩:∃m:Nat,b=m:=⟨b.toNat,by omega⟩
     subst hm;have he:encF (k+1) m=[(m:Int)]:=by rw [encF,if_pos om]
     refine ⟨m,by rw [←e1,Int.toNat_natCast],by rw [he];exact e2.symm,?_,?_,?_,?_⟩
     ·rw [he]
      intro j hj;obtain rfl:j=0:=by simpa using hj
      simpa using hx
     ·have:128 ^ 1≤128 ^ (k+1):=Nat.pow_le_pow_right om om
      omega
     ·rcases Nat.eq_zero_or_pos i with h |h
      ·exact .inl h
      ·right
       rcases Nat.eq_zero_or_pos m with h2 |h2
       ·exact absurd (.inl ⟨h,by omega⟩) hok
       ·exact h2
     ·rcases Nat.lt_or_ge i 9 with h |h
      ·have h8:128 ^ i≤128 ^ 8:=Nat.pow_le_pow_right om om
       have:m*128 ^ i≤127*128 ^ 8:=Nat.mul_le_mul om h8
       omega
      ·obtain rfl:i=9:=by omega
       have hm1:m≤1:=by
        rcases Nat.lt_or_ge 1 m with h2 |h2
        ·exact absurd (.inr ⟨rfl,by omega⟩) hok
        ·exact h2
       have:m*128 ^ 9≤1*128 ^ 9:=Nat.mul_le_mul_right _ hm1
       omega
