import Derived.Test.YtpdledjgbgalcaaGreatDoorMa
namespace Go.Proofs.YtpdledjgbgalcaaGreatDoor
set_option maxRecDepth 20000
set_option maxHeartbeats 1000000
open Go.RowKit Go.Proofs.Tryz
set_option linter.unusedVariables false
set_option linter.unusedSimpArgs false
theorem and127 (b:Int) (h0:0<=b) (h1:b < 256):bits .and .u8 b 127=b % 128:=by
 have G:∀a:Fin 256,bits .and .u8 ((a.val:Nat):Int) 127=((a.val % 128:Nat):Int):=by decide+kernel
 have:=G ⟨b.toNat,by omega⟩;have e:((b.toNat:Nat):Int)=b:=by omega
 simp only at this;rw [e] at this;rw [this];omega
theorem orsh (G j:Nat) (x:Int) (hj:j < 10) (K:G < 128 ^ j) (M:j < 9∨x % 128<=1):bits .or .u64 (G:Int) (IntKind.u64.wrap (x % 128*2 ^ (7*j)))=((G+(x % 128).toNat*128 ^ j:Nat):Int):=by
 obtain ⟨m,L⟩:∃m:Nat,x % 128=m:=⟨(x % 128).toNat,by omega⟩
 have N:m < 128:=by omega
 have hp:(128:Nat) ^ j=2 ^ (7*j):=by rw [Nat.pow_mul]
 have J:m*128 ^ j < 18446744073709551616:=by
  rcases M with h |h
  ·have h1:128 ^ j<=128 ^ 8:=Nat.pow_le_pow_right om om;have h2:m*128 ^ j<=127*128 ^ 8:=Nat.mul_le_mul om h1;omega
  ·have h1:128 ^ j<=128 ^ 9:=Nat.pow_le_pow_right om om;have h2:m*128 ^ j<=1*128 ^ 9:=Nat.mul_le_mul om h1;omega
 have H:G < 18446744073709551616:=by
  have h1:128 ^ j<=128 ^ 9:=Nat.pow_le_pow_right om om;omega
 have O:x % 128*2 ^ (7*j)=((m*128 ^ j:Nat):Int):=by rw [L,hp,Int.natCast_mul,Int.natCast_pow];rfl
 rw [O,IntKind.wrap_u64,Int.emod_eq_of_lt om om,bits_or_u64_nat _ _ H J,L,Int.toNat_natCast]
 congr 1
 rw [Nat.or_comm,Nat.mul_comm m,hp,<-Nat.two_pow_add_eq_or_of_lt (by rw [<-hp];exact K)];omega
theorem accn (acc j m:Nat) (hacc:acc < 128 ^ j) (hm:m < 128):acc+m*128 ^ j < 128 ^ (j+1):=by
 have h1:m*128 ^ j<=127*128 ^ j:=Nat.mul_le_mul_right _ om;rw [Nat.pow_succ];omega
def numF (bs:List Int):Nat->Nat->Nat->Nat->Int × Int × Nat
 |0,_,_,p=>(0,3,p)
 |k+1,acc,i,p=>
  match bs[p]? with
  |none=>(0,3,p)
  |some b=>if 128<=b then numF bs k (acc+(b % 128).toNat*128 ^ i) (i+1) (p+1) else if (0 < i/\b=0)∨(i=9/\1 < b) then (0,3,p+1) else ((acc+b.toNat*128 ^ i:Nat),0,p+1)
def Rd (w:World) (g:Nat) (A:Option Addr) (n c:Nat) (p:Nat) (pv er:Int):Prop:=w.heap[g]? =some (.cells #[.slice A n c,.int .i64 p,.int .i64 pv,.int .i64 er] 220 (0,0))
theorem number_any (g:Nat) (A:Option Addr) (n c p:Nat) (z er:Int) (bs:List Int) (w:World) (hr:Rd w g A n c p z er) (hx:Sl fB w g A n bs) (hb:∀b∈bs,0<=b/\b < 256) (hp:p<=n) (hn:n<=1000000):
 Calls prog 140 #[.pointer (some ⟨g,0,none⟩)] w fun e w'=>e= .returned (.tuple #[.int .u64 (numF bs 10 0 0 p).1,.int .i64 (numF bs 10 0 0 p).2.1])/\Rd w' g A n c (numF bs 10 0 0 p).2.2 z er/\But (fun k=>k=g) w w':=by
 have HR:=lh hr;have HX:=lh hx;have ah:=lh hb;have HLN:Hid (bs.length=n):=hx.1;clear hr hx hb;go_enter func140,ntmps140;go_wp2
 go_loopw [2,6] (fun u i wr=>∃(j G:Nat) (av:Int),j<=10/\i= .int .i64 j/\u= .int .u64 av/\(j < 10->av=G/\G < 128 ^ j)/\p+j<=n/\Hid (Rd wr g A n c (p+j) z er)/\Hid (numF bs (10 - j) G j (p+j)=numF bs 10 0 0 p)/\Hid (But (fun k=>k=g) w wr)) (fun _ i _=>10 - (intOf i).toNat)
 case atStart=>exact ⟨0,0,0,by omega,rfl,rfl,fun _=>⟨rfl,by simp⟩,by omega,HR,rfl,But.refl _ _⟩
 case round=>
  obtain ⟨j,G,av,hj,rfl,rfl,ag,ay,L,HE,H⟩:=hrel
  by_cases K:j < 10
  ·obtain ⟨rfl,J⟩:=ag K;have af:=zz wr g 0 _ _ _ L.out;have aq:=zz wr g 1 _ _ _ L.out;simp at af aq;obtain ⟨k,hk⟩:∃k,10 - j=k+1:=⟨9 - j,by omega⟩
   by_cases ar:p+j=n
   ·have T:bs[p+j]? =none:=List.getElem?_eq_none ybg;have HF:Hid (numF bs 10 0 0 p=(0,3,p+j)):=by show _=_;rw [<-HE.out,hk,numF,T]
    clear T;have ae:(((p+j:Nat):Int)==(n:Int))=true:=by simp;omega
    go_wp2;go_quiet (fail);go_wp2;go_ret2;rw [HF.out];exact ⟨rfl,L.out,H.out.drewN _⟩
   ·have ae:(((p+j:Nat):Int)==(n:Int))=false:=by simp;omega
    obtain ⟨bb,am,x0,rfl,aA,_,_⟩:=SL.at_ HX.out.2 (k:=p+j) ybg;obtain ⟨b2,aw,x,e2,_,O,ax⟩:=SL.at_ (HX.out.2.but H.out (by have:=lb HR.out;omega) (fun a ha=>by cases ha;show ¬bb=g;omega)) (k:=p+j) ybg;cases e2
    have ai:=ah.out x (List.mem_of_getElem? O);obtain ⟨ap,aj⟩:=ai;have au:=and127 x ap aj;have aB:=frozen_of_row wr g 1 _ _ L.out
    have M:Hid (∀q,Rd ((wr.drewN q).setCell ⟨g,1,none⟩ (.int .i64 ((p:Int)+j+1))) g (some ⟨bb,am,none⟩) n c (p+j+1) z er):=fun q=>by
     show _=_;rw [show ((p+j+1:Nat):Int)=(p:Int)+j+1 by omega];exact heap_setCell_same (wr.drewN q) _ _ _ _ _ L.out
    by_cases aa:128<=x
    ·have ak:Hid (numF bs (10 - (j+1)) (G+(x % 128).toNat*128 ^ j) (j+1) (p+(j+1))=numF bs 10 0 0 p):=by
      show _=_;rw [<-HE.out,hk,numF,O];simp only [];rw [if_pos aa,show 10 - (j+1)=k by omega];rfl
     obtain ⟨v,N⟩:=gX (bits .or .u64 (G:Int) (IntKind.u64.wrap (x % 128*2 ^ (7*j))));have HV:Hid (j+1 < 10->v=((G+(x % 128).toNat*128 ^ j:Nat):Int)/\G+(x % 128).toNat*128 ^ j < 128 ^ (j+1)):=fun h=>⟨by rw [<-N,orsh G j x K J (.inl om)],accn G j _ J om⟩;clear O;go_wp2;go_quiet (fail);go_wp2;go_quiet (fail);go_wp2;go_roundw;case rel=>exact ⟨j+1,G+(x % 128).toNat*128 ^ j,v,by omega,by go_num,rfl,HV.out,by omega,M.out _,ak,(H.out.drewN _).setCell (.inl rfl) _⟩
     case measure=>simp [intOf];omega
    ·have Z:(x % 128).toNat=x.toNat:=by omega
     have Y:Hid (numF bs 10 0 0 p=if (0 < j/\x=0)∨(j=9/\1 < x) then (0,3,p+j+1) else (((G+x.toNat*128 ^ j:Nat):Int),0,p+j+1)):=by
      show _=_;rw [<-HE.out,hk,numF,O];simp only [];rw [if_neg aa]
     clear O
     by_cases az:(0:Int) < j
     ·by_cases U:x=0
      ·obtain ⟨v,N⟩:=gX (bits .or .u64 (G:Int) (IntKind.u64.wrap (x % 128*2 ^ (7*j))));have al:(x==0)=true:=by simp [U]
       have HF:Hid (numF bs 10 0 0 p=(0,3,p+j+1)):=by show _=_;rw [Y.out,if_pos (.inl ⟨by omega,U⟩)]
       clear U;go_wp2;go_quiet (fail);go_wp2;go_quiet (fail);go_wp2;go_ret2;rw [HF.out];exact ⟨rfl,M.out _,(H.out.drewN _).setCell (.inl rfl) _⟩
      ·have al:(x==0)=false:=by simp [U]
       by_cases W:j=9
       ·have ac:((j:Int)==9)=true:=by simp;omega
        by_cases ao:1 < x
        ·obtain ⟨v,N⟩:=gX (bits .or .u64 (G:Int) (IntKind.u64.wrap (x % 128*2 ^ (7*j))));have HF:Hid (numF bs 10 0 0 p=(0,3,p+j+1)):=by show _=_;rw [Y.out,if_pos (.inr ⟨W,ao⟩)]
         clear W;go_wp2;go_quiet (fail);go_wp2;go_quiet (fail);go_wp2;go_ret2;rw [HF.out];exact ⟨rfl,M.out _,(H.out.drewN _).setCell (.inl rfl) _⟩
        ·have _u:True:=trivial;obtain ⟨v,N⟩:=gX (bits .or .u64 (G:Int) (IntKind.u64.wrap (x % 128*2 ^ (7*j))));have HF:Hid (numF bs 10 0 0 p=(v,0,p+j+1)):=by show _=_;rw [Y.out,if_neg om,<-N,orsh G j x K J (.inr om),Z]
         clear W;go_wp2;go_quiet (fail);go_wp2;go_quiet (fail);go_wp2;go_ret2;rw [HF.out];exact ⟨rfl,M.out _,(H.out.drewN _).setCell (.inl rfl) _⟩
       ·have ac:((j:Int)==9)=false:=by simp;omega
        obtain ⟨v,N⟩:=gX (bits .or .u64 (G:Int) (IntKind.u64.wrap (x % 128*2 ^ (7*j))));have HF:Hid (numF bs 10 0 0 p=(v,0,p+j+1)):=by show _=_;rw [Y.out,if_neg om,<-N,orsh G j x K J (.inl om),Z]
        go_wp2;go_quiet (fail);go_wp2;go_quiet (fail);go_wp2;go_ret2;rw [HF.out];exact ⟨rfl,M.out _,(H.out.drewN _).setCell (.inl rfl) _⟩
     ·have ac:((j:Int)==9)=false:=by simp;omega
      obtain ⟨v,N⟩:=gX (bits .or .u64 (G:Int) (IntKind.u64.wrap (x % 128*2 ^ (7*j))));have HF:Hid (numF bs 10 0 0 p=(v,0,p+j+1)):=by show _=_;rw [Y.out,if_neg om,<-N,orsh G j x K J (.inl om),Z]
      go_wp2;go_quiet (fail);go_wp2;go_quiet (fail);go_wp2;go_ret2;rw [HF.out];exact ⟨rfl,M.out _,(H.out.drewN _).setCell (.inl rfl) _⟩
  ·obtain rfl:j=10:=by omega
   have HF:Hid (numF bs 10 0 0 p=(0,3,p+10)):=by show _=_;rw [<-HE.out];rfl
   go_wp2;go_ret2;rw [HF.out];exact ⟨rfl,L.out,H.out⟩
theorem closed_68 (s H rs g:Nat) (A:Option Addr) (n c p:Nat) (st:Nat) (pv er v:Int) (w:World) (hs:w.heap[s]? =some (.cells #[.int .i64 st] 3 (0,0))) (K:w.heap[H]? =some (.cells #[.pointer (some ⟨g,0,none⟩)] 144 (0,0))) (G:w.heap[rs]? =some (.cells #[.int .i64 v] 3 (0,0))) (hr:Rd w g A n c p pv er) (h1:g < H) (h2:H < rs) (h3:rs < s):
 CallsD prog 240 #[.pointer (some ⟨s,0,none⟩),.pointer (some ⟨H,0,none⟩),.pointer (some ⟨rs,0,none⟩)] .returning w fun e u' N=>u'= .returning/\(e= .returned (.tuple #[])/\Hid (Rd N g A n c (if er=0 then p else st) st er)/\Hid (N.heap[rs]? =some (.cells #[.int .i64 (if er=0 then v else 0)] 3 (0,0)))/\Hid (But (fun k=>k=g∨k=rs) w N)):=by
 have HR:=lh hr;have HS:=lh hs;have ae:=lh K;have af:=lh G;have c1:=zz w g 1 _ _ _ hr;have c2:=zz w g 2 _ _ _ hr;have c3:=zz w g 3 _ _ _ hr;have cs:=zz w s 0 _ _ _ hs;have cb:=zz w H 0 _ _ _ K;have cr:=zz w rs 0 _ _ _ G;have f1:=frozen_of_row w g 1 _ _ hr;have f2:=frozen_of_row w g 2 _ _ hr;have fr:=frozen_of_row w rs 0 _ _ G;simp at c1 c2 c3 cs cb cr;have n1:¬g=H:=by omega
 have Y:¬g=rs:=by omega
 have n3:¬g=s:=by omega
 have n4:¬H=rs:=by omega
 have n5:¬rs=s:=by omega
 have n6:¬H=s:=by omega
 have M:Hid (Rd (w.setCell ⟨g,2,none⟩ (.int .i64 st)) g A n c p st er):=heap_setCell_same w _ 2 _ _ (.int .i64 st) hr;have U:Hid (Rd ((w.setCell ⟨g,2,none⟩ (.int .i64 st)).setCell ⟨g,1,none⟩ (.int .i64 st)) g A n c st st er):=heap_setCell_same _ _ 1 _ _ (.int .i64 st) M.out;have L:Hid ((w.setCell ⟨g,2,none⟩ (.int .i64 st)).heap[rs]? =some (.cells #[.int .i64 v] 3 (0,0))):=(heap_setCell_other w _ _ _ (fun e=>Y e.symm)).trans G;have W:Hid (((w.setCell ⟨g,2,none⟩ (.int .i64 st)).setCell ⟨g,1,none⟩ (.int .i64 st)).heap[rs]? =some (.cells #[.int .i64 v] 3 (0,0))):=(heap_setCell_other _ _ _ _ (fun e=>Y e.symm)).trans L.out;have aa:Hid (Rd (((w.setCell ⟨g,2,none⟩ (.int .i64 st)).setCell ⟨g,1,none⟩ (.int .i64 st)).setCell ⟨rs,0,none⟩ (.int .i64 0)) g A n c st st er):=(heap_setCell_other _ _ _ _ Y).trans U.out;have ac:Hid ((((w.setCell ⟨g,2,none⟩ (.int .i64 st)).setCell ⟨g,1,none⟩ (.int .i64 st)).setCell ⟨rs,0,none⟩ (.int .i64 0)).heap[rs]? =some (.cells #[.int .i64 0] 3 (0,0))):=heap_setCell_same _ _ 0 _ _ (.int .i64 0) W.out;have HB:Hid (But (fun k=>k=g∨k=rs) w (w.setCell ⟨g,2,none⟩ (.int .i64 st))):=(But.refl _ _).setCell (.inl (.inl rfl)) _;have z:Hid (But (fun k=>k=g∨k=rs) w (((w.setCell ⟨g,2,none⟩ (.int .i64 st)).setCell ⟨g,1,none⟩ (.int .i64 st)).setCell ⟨rs,0,none⟩ (.int .i64 0))):=(HB.out.setCell (.inl (.inl rfl)) _).setCell (.inl (.inr rfl)) _;clear hs K G hr h1 h2 h3
 by_cases J:er=0
 ·have Z:(er != 0)=false:=by simp [J]
  have O:Hid ((if er=0 then p else st)=p):=if_pos J;have T:Hid ((if er=0 then v else 0)=v):=if_pos J;rw [O.out,T.out];clear J
  go_enter_d func240,ntmps240
  go_wp2
  go_end0
  exact ⟨rfl,M,L,HB⟩
 ·have Z:(er != 0)=true:=by simp [J]
  have O:Hid ((if er=0 then p else st)=st):=if_neg J;have T:Hid ((if er=0 then v else 0)=0):=if_neg J;rw [O.out,T.out];clear J
  go_enter_d func240,ntmps240
  go_wp2
  go_end0
  exact ⟨rfl,aa,ac,z⟩
theorem closed_69 (s H rs g:Nat) (A:Option Addr) (n c p:Nat) (st:Nat) (pv er v:Int) (w:World) (hs:w.heap[s]? =some (.cells #[.int .i64 st] 3 (0,0))) (K:w.heap[H]? =some (.cells #[.pointer (some ⟨g,0,none⟩)] 144 (0,0))) (G:w.heap[rs]? =some (.cells #[.int .u64 v] 93 (0,0))) (hr:Rd w g A n c p pv er) (h1:g < H) (h2:H < rs) (h3:rs < s):
 CallsD prog 191 #[.pointer (some ⟨s,0,none⟩),.pointer (some ⟨H,0,none⟩),.pointer (some ⟨rs,0,none⟩)] .returning w fun e u' N=>u'= .returning/\(e= .returned (.tuple #[])/\Hid (Rd N g A n c (if er=0 then p else st) st er)/\Hid (N.heap[rs]? =some (.cells #[.int .u64 (if er=0 then v else 0)] 93 (0,0)))/\Hid (But (fun k=>k=g∨k=rs) w N)):=by
 have HR:=lh hr;have HS:=lh hs;have ae:=lh K;have af:=lh G;have c1:=zz w g 1 _ _ _ hr;have c2:=zz w g 2 _ _ _ hr;have c3:=zz w g 3 _ _ _ hr;have cs:=zz w s 0 _ _ _ hs;have cb:=zz w H 0 _ _ _ K;have cr:=zz w rs 0 _ _ _ G;have f1:=frozen_of_row w g 1 _ _ hr;have f2:=frozen_of_row w g 2 _ _ hr;have fr:=frozen_of_row w rs 0 _ _ G;simp at c1 c2 c3 cs cb cr;have n1:¬g=H:=by omega
 have Y:¬g=rs:=by omega
 have n3:¬g=s:=by omega
 have n4:¬H=rs:=by omega
 have n5:¬rs=s:=by omega
 have n6:¬H=s:=by omega
 have M:Hid (Rd (w.setCell ⟨g,2,none⟩ (.int .i64 st)) g A n c p st er):=heap_setCell_same w _ 2 _ _ (.int .i64 st) hr;have U:Hid (Rd ((w.setCell ⟨g,2,none⟩ (.int .i64 st)).setCell ⟨g,1,none⟩ (.int .i64 st)) g A n c st st er):=heap_setCell_same _ _ 1 _ _ (.int .i64 st) M.out;have L:Hid ((w.setCell ⟨g,2,none⟩ (.int .i64 st)).heap[rs]? =some (.cells #[.int .u64 v] 93 (0,0))):=(heap_setCell_other w _ _ _ (fun e=>Y e.symm)).trans G;have W:Hid (((w.setCell ⟨g,2,none⟩ (.int .i64 st)).setCell ⟨g,1,none⟩ (.int .i64 st)).heap[rs]? =some (.cells #[.int .u64 v] 93 (0,0))):=(heap_setCell_other _ _ _ _ (fun e=>Y e.symm)).trans L.out;have aa:Hid (Rd (((w.setCell ⟨g,2,none⟩ (.int .i64 st)).setCell ⟨g,1,none⟩ (.int .i64 st)).setCell ⟨rs,0,none⟩ (.int .u64 0)) g A n c st st er):=(heap_setCell_other _ _ _ _ Y).trans U.out;have ac:Hid ((((w.setCell ⟨g,2,none⟩ (.int .i64 st)).setCell ⟨g,1,none⟩ (.int .i64 st)).setCell ⟨rs,0,none⟩ (.int .u64 0)).heap[rs]? =some (.cells #[.int .u64 0] 93 (0,0))):=heap_setCell_same _ _ 0 _ _ (.int .u64 0) W.out;have HB:Hid (But (fun k=>k=g∨k=rs) w (w.setCell ⟨g,2,none⟩ (.int .i64 st))):=(But.refl _ _).setCell (.inl (.inl rfl)) _;have z:Hid (But (fun k=>k=g∨k=rs) w (((w.setCell ⟨g,2,none⟩ (.int .i64 st)).setCell ⟨g,1,none⟩ (.int .i64 st)).setCell ⟨rs,0,none⟩ (.int .u64 0))):=(HB.out.setCell (.inl (.inl rfl)) _).setCell (.inl (.inr rfl)) _;clear hs K G hr h1 h2 h3
 by_cases J:er=0
 ·have Z:(er != 0)=false:=by simp [J]
  have O:Hid ((if er=0 then p else st)=p):=if_pos J;have T:Hid ((if er=0 then v else 0)=v):=if_pos J;rw [O.out,T.out];clear J
  go_enter_d func191,ntmps191
  go_wp2
  go_end0
  exact ⟨rfl,M,L,HB⟩
 ·have Z:(er != 0)=true:=by simp [J]
  have O:Hid ((if er=0 then p else st)=st):=if_neg J;have T:Hid ((if er=0 then v else 0)=0):=if_neg J;rw [O.out,T.out];clear J
  go_enter_d func191,ntmps191
  go_wp2
  go_end0
  exact ⟨rfl,aa,ac,z⟩
theorem ybY (bs:List Int) (k G i p:Nat):0<=(numF bs k G i p).1:=by
 induction k generalizing G i p with
 |zero=>simp [numF]
 |succ k ih=>
  rw [numF]
  split
  ·simp
  ·split
   ·exact ih _ _ _
   ·split
    ·simp
    ·show (0:Int)<=((_:Nat):Int);omega
def limF (m:Nat) (N:Int × Int × Nat):Int × Int × Nat:=if N.2.1=0 then (if (m:Int) < N.1 then (0,2,N.2.2) else (N.1,0,N.2.2)) else (0,N.2.1,N.2.2)
theorem limited_any (g:Nat) (A:Option Addr) (n c p m:Nat) (M H:Int) (bs:List Int) (w:World) (hr:Rd w g A n c p M H) (U:Sl fB w g A n bs) (O:∀b∈bs,0<=b/\b < 256) (hp:p<=n) (hn:n<=1000000) (Y:m<=1000000):
 Calls prog 194 #[.pointer (some ⟨g,0,none⟩),.int .i64 m] w fun e N=>e= .returned (.tuple #[.int .i64 (limF m (numF bs 10 0 0 p)).1,.int .i64 (limF m (numF bs 10 0 0 p)).2.1])/\Rd N g A n c (limF m (numF bs 10 0 0 p)).2.2 M H/\But (fun k=>k=g) w N:=by
 have HC:=lh (number_any g A n c p M H bs w hr U O hp hn);have K:=ybY bs 10 0 0 p;obtain ⟨v,er,G,T⟩:∃v er G,numF bs 10 0 0 p=(v,er,G):=⟨_,_,_,rfl⟩
 rw [T] at HC K ⊢;clear hr U O T;simp only at K
 by_cases L:er=0
 ·subst L
  by_cases hlt:(m:Int) < v
  ·have J:Hid (limF m (v,0,G)=(0,2,G)):=by show _=_;simp [limF,hlt]
   rw [J.out];go_enter func194,ntmps194;go_wp2_with (go_at_call 140;refine HC.out.mono ?_;rintro e w1 ⟨rfl,h1,h2⟩);go_ret2;exact ⟨rfl,h1,h2⟩
  ·have J:Hid (limF m (v,0,G)=(v,0,G)):=by show _=_;simp [limF,hlt]
   rw [J.out];go_enter func194,ntmps194;go_wp2_with (go_at_call 140;refine HC.out.mono ?_;rintro e w1 ⟨rfl,h1,h2⟩);go_ret2;exact ⟨rfl,h1,h2⟩
 ·have J:Hid (limF m (v,er,G)=(0,er,G)):=by show _=_;simp [limF,L]
  have W:(er != 0)=true:=by simp [L]
  rw [J.out];go_enter func194,ntmps194;go_wp2_with (go_at_call 140;refine HC.out.mono ?_;rintro e w1 ⟨rfl,h1,h2⟩);go_ret2;exact ⟨rfl,h1,h2⟩
theorem limc_any (a b g:Nat) (A:Option Addr) (n c p m:Nat) (J G:Int) (bs:List Int) (w:World) (ha:w.heap[a]? =some (.cells #[.pointer (some ⟨g,0,none⟩)] 144 (0,0))) (H:w.heap[b]? =some (.cells #[.int .i64 m] 3 (0,0))) (hr:Rd w g A n c p J G) (O:Sl fB w g A n bs) (M:∀b∈bs,0<=b/\b < 256) (hp:p<=n) (hn:n<=1000000) (U:m<=1000000):
 Calls prog 193 #[.pointer (some ⟨a,0,none⟩),.pointer (some ⟨b,0,none⟩)] w fun e K=>e= .returned (.tuple #[.int .i64 (limF m (numF bs 10 0 0 p)).1,.int .i64 (limF m (numF bs 10 0 0 p)).2.1])/\Rd K g A n c (limF m (numF bs 10 0 0 p)).2.2 J G/\But (fun k=>k=g) w K:=by
 have HC:=lh (limited_any g A n c p m J G bs w hr O M hp hn U);obtain ⟨v,er,L,N⟩:∃v er L,limF m (numF bs 10 0 0 p)=(v,er,L):=⟨_,_,_,rfl⟩
 rw [N] at HC ⊢;have W:=zz w a 0 _ _ _ ha;have T:=zz w b 0 _ _ _ H;simp at W T;clear hr O M N ha H;go_enter func193,ntmps193;go_wp2_with (go_at_call 194;refine HC.out.mono ?_;rintro e w1 ⟨rfl,h1,h2⟩);go_ret2;exact ⟨rfl,h1,h2⟩
def RP (kd:IntKind) (g:Nat) (A:Option Addr) (n c p:Nat) (v er:Int) (p':Nat) (w:World) (e:Ending) (w':World):Prop:=
 e= .returned (.int kd (if er=0 then v else 0))/\Rd w' g A n c (if er=0 then p' else p) p er/\But (fun k=>k=g) w w'
theorem read65 (g:Nat) (A:Option Addr) (n c p:Nat) (L:Int) (bs:List Int) (w:World) (hr:Rd w g A n c p L 0) (hx:Sl fB w g A n bs) (hb:∀b∈bs,0<=b/\b < 256) (hp:p<=n) (hn:n<=1000000):
 Calls prog 139 #[.pointer (some ⟨g,0,none⟩),.func (.func 140) #[.pointer (some ⟨g,0,none⟩)] #[]] w (RP .u64 g A n c p (numF bs 10 0 0 p).1 (numF bs 10 0 0 p).2.1 (numF bs 10 0 0 p).2.2 w):=by
 have HR:=lh hr;have U:g < w.heap.size:=lb hr;have aK:∀(fn:Fn) (first cap:Array Value) (w:World),(Instr.makeFunc fn first cap).run prog w= .ok (.func fn first cap) w:=fun _ _ _ _=>rfl;have c1:=zz w g 1 _ _ _ hr;have c3:=zz w g 3 _ _ _ hr;have f3:=frozen_of_row w g 3 _ _ hr;simp at c1 c3;obtain ⟨v,er,N,hN⟩:∃v er N,numF bs 10 0 0 p=(v,er,N):=⟨_,_,_,rfl⟩
 have cN:Hid (∀W,Rd W g A n c p L 0->Sl fB W g A n bs->Calls prog 140 #[.pointer (some ⟨g,0,none⟩)] W fun e w'=>e= .returned (.tuple #[.int .u64 v,.int .i64 er])/\Rd w' g A n c N L 0/\But (fun k=>k=g) W w'):=fun W h1 h2=>by
  have:=number_any g A n c p L 0 bs W h1 h2 hb hp hn;rw [hN] at this;exact this
 rw [hN];have HX:=lh hx;clear hr hx hb hN
 go_enter_defers func139,ntmps139
 go_wp2;obtain ⟨W3,J⟩:∃W3:World,W3=((w.alloc (.cells #[.pointer (some ⟨g,0,none⟩)] 144)).alloc (.cells #[.int .u64 0] 93)).alloc (.cells #[.int .i64 p] 3):=⟨_,rfl⟩
 rw [<-J];have Y:Hid (Below w.heap.size w W3):=by rw [J];exact (bl.alloc sI _).alloc ybh _
 have aJ:W3.heap.size=w.heap.size+1+1+1:=by rw [J];simp
 have ac:Hid (W3.heap[w.heap.size]? =some (.cells #[.pointer (some ⟨g,0,none⟩)] 144 (0,0))):=by
  show _=_;rw [J,Below.heap_alloc _ _ _ ybh,Below.heap_alloc _ _ _ sI];exact zy w _
 have ay:Hid (W3.heap[w.heap.size+1]? =some (.cells #[.int .u64 0] 93 (0,0))):=by
  show _=_;rw [J,Below.heap_alloc _ _ _ sI];have:=zy (w.alloc (.cells #[.pointer (some ⟨g,0,none⟩)] 144)) (.cells #[.int .u64 0] 93);simpa using this
 have aj:Hid (W3.heap[w.heap.size+1+1]? =some (.cells #[.int .i64 p] 3 (0,0))):=by
  show _=_;rw [J];have:=zy ((w.alloc (.cells #[.pointer (some ⟨g,0,none⟩)] 144)).alloc (.cells #[.int .u64 0] 93)) (.cells #[.int .i64 p] 3);simpa using this
 have ao:Hid (Rd W3 g A n c p L 0):=(Y.out.block g U).trans HR.out;have ak:Hid (Sl fB W3 g A n bs):=HX.out.up Y.out (Nat.le_of_lt U);have cA:=zz W3 w.heap.size 0 _ _ _ ac.out;simp at cA;clear J c1 c3 f3;have aH:¬g=w.heap.size:=by omega
 have aG:¬w.heap.size=g:=by omega
 have aa:¬g=w.heap.size+1:=by omega
 have ai:¬w.heap.size+1=g:=by omega
 go_region_held3 (fun w'=>w'.cell? ⟨w.heap.size,0,none⟩=some (.pointer (some ⟨g,0,none⟩))) (first |go_keep |exact ag) (first |(go_at_call 140;(refine (cN.out W3.drew ao.out ak.out).mono ?_);(rintro e G ⟨rfl,T,H⟩);(have au:=lh T);(have ae:Hid (But (fun k=>k=g) W3 G):=⟨H.os,H.tape,H.output,H.size,H.block⟩);(have af:Hid (G.heap[w.heap.size]? =some (.cells #[.pointer (some ⟨g,0,none⟩)] 144 (0,0))):=(H.block w.heap.size ya5 om).trans ac.out);(have Z:Hid (G.heap[w.heap.size+1]? =some (.cells #[.int .u64 0] 93 (0,0))):=(H.block (w.heap.size+1) ya5 om).trans ay.out);(have ag:=zz G w.heap.size 0 _ _ _ af.out);(simp at ag);(have al:=zz G (w.heap.size+1) 0 _ _ _ Z.out);(have ax:=zz G g 3 _ _ _ T);(simp at al ax);(have aI:=frozen_of_row G (w.heap.size+1) 0 _ _ Z.out);(have aL:=frozen_of_row G g 3 _ _ T);(clear H T)))
 go_wp2;have ap:Hid (G.heap[w.heap.size+1+1]? =some (.cells #[.int .i64 p] 3 (0,0))):=(ae.out.block (w.heap.size+1+1) om om).trans aj.out;obtain ⟨M,K⟩:∃M:World,M=((G.setCell ⟨w.heap.size+1,0,none⟩ (.int .u64 v)).setCell ⟨g,3,none⟩ (.int .i64 er)).setCell ⟨w.heap.size+1,0,none⟩ (.int .u64 v):=⟨_,rfl⟩
 rw [<-K]
 have o1:∀k,k≠w.heap.size+1->k≠g->M.heap[k]? =G.heap[k]? :=fun k h1 h2=>by
  rw [K];exact (heap_setCell_other _ _ _ _ h1).trans ((heap_setCell_other _ _ _ _ h2).trans (heap_setCell_other _ _ _ _ h1))
 have aw:M.heap[w.heap.size]? =some (.cells #[.pointer (some ⟨g,0,none⟩)] 144 (0,0)):=(o1 _ om om).trans af.out;have aq:M.heap[w.heap.size+1+1]? =some (.cells #[.int .i64 p] 3 (0,0)):=(o1 _ om om).trans ap.out;have ar:Rd (G.setCell ⟨w.heap.size+1,0,none⟩ (.int .u64 v)) g A n c N L 0:=(heap_setCell_other _ _ _ _ aa).trans au.out;have aE:Rd ((G.setCell ⟨w.heap.size+1,0,none⟩ (.int .u64 v)).setCell ⟨g,3,none⟩ (.int .i64 er)) g A n c N L er:=heap_setCell_same _ _ 3 _ _ (.int .i64 er) ar;have aA:Rd M g A n c N L er:=by rw [K];exact (heap_setCell_other _ _ _ _ aa).trans aE
 have aC:(G.setCell ⟨w.heap.size+1,0,none⟩ (.int .u64 v)).heap[w.heap.size+1]? =some (.cells #[.int .u64 v] 93 (0,0)):=heap_setCell_same _ _ 0 _ _ (.int .u64 v) Z.out
 have aD:M.heap[w.heap.size+1]? =some (.cells #[.int .u64 v] 93 (0,0)):=by
  rw [K];exact heap_setCell_same _ _ 0 _ _ (.int .u64 v) ((heap_setCell_other _ _ _ _ ai).trans aC)
 have am:Hid (But (fun k=>k=g) w M):=by
  have h1:But (fun k=>k=g) w G:=(But.of_below (p:=fun k=>k=g) Y.out).trans (q:=fun k=>k=g) ae.out (fun i hi=> .inl hi);rw [K];exact ((h1.setCell (.inr ya8) _).setCell (.inl rfl) _).setCell (.inr ya8) _
 clear K;refine leaves_cons (f:=191) (args:=#[.pointer (some ⟨w.heap.size+1+1,0,none⟩),.pointer (some ⟨w.heap.size,0,none⟩),.pointer (some ⟨w.heap.size+1,0,none⟩)]) sI (by simp [go_sem]) ?_;refine (closed_69 _ _ _ g A n c N p L er v _ aq aw aD aA U om om).mono ?_;rintro e u' w9 ⟨rfl,rfl,az,aB,aF⟩;have O:=zz w9 (w.heap.size+1) 0 _ _ _ aB.out;have ah:RP .u64 g A n c p v er N w (.returned (.int .u64 (if er=0 then v else 0))) w9:=⟨rfl,az.out,am.out.trans aF.out (fun i hi=>by rcases hi with rfl |rfl;exact .inl rfl;exact .inr om)⟩;refine ⟨.int .u64 (if er=0 then v else 0),?_,ah⟩;obtain ⟨z,hz⟩:∃z:Int,(if er=0 then v else 0)=z:=⟨_,rfl⟩
 rw [hz] at O ⊢;simp at O;simp [results,go_sem,O]
 done
theorem read62 (a b m g:Nat) (A:Option Addr) (n c p:Nat) (L:Int) (bs:List Int) (w:World) (ha:w.heap[a]? =some (.cells #[.pointer (some ⟨g,0,none⟩)] 144 (0,0))) (ai:w.heap[b]? =some (.cells #[.int .i64 m] 3 (0,0))) (hm:m<=1000000) (hr:Rd w g A n c p L 0) (hx:Sl fB w g A n bs) (hb:∀b∈bs,0<=b/\b < 256) (hp:p<=n) (hn:n<=1000000):
 Calls prog 192 #[.pointer (some ⟨g,0,none⟩),.func (.func 193) #[] #[.pointer (some ⟨a,0,none⟩),.pointer (some ⟨b,0,none⟩)]] w (RP .i64 g A n c p (limF m (numF bs 10 0 0 p)).1 (limF m (numF bs 10 0 0 p)).2.1 (limF m (numF bs 10 0 0 p)).2.2 w):=by
 have HR:=lh hr;have Y:g < w.heap.size:=lb hr;have aP:∀(fn:Fn) (first cap:Array Value) (w:World),(Instr.makeFunc fn first cap).run prog w= .ok (.func fn first cap) w:=fun _ _ _ _=>rfl;have c1:=zz w g 1 _ _ _ hr;have c3:=zz w g 3 _ _ _ hr;have f3:=frozen_of_row w g 3 _ _ hr;simp at c1 c3;obtain ⟨v,er,O,hN⟩:∃v er O,limF m (numF bs 10 0 0 p)=(v,er,O):=⟨_,_,_,rfl⟩
 have cN:Hid (∀W,Rd W g A n c p L 0->Sl fB W g A n bs->W.heap[a]? =some (.cells #[.pointer (some ⟨g,0,none⟩)] 144 (0,0))->W.heap[b]? =some (.cells #[.int .i64 m] 3 (0,0))->Calls prog 193 #[.pointer (some ⟨a,0,none⟩),.pointer (some ⟨b,0,none⟩)] W fun e w'=>e= .returned (.tuple #[.int .i64 v,.int .i64 er])/\Rd w' g A n c O L 0/\But (fun k=>k=g) W w'):=fun W h1 h2 h3 h4=>by
  have:=limc_any a b g A n c p m L 0 bs W h3 h4 h1 h2 hb hp hn hm;rw [hN] at this;exact this
 rw [hN];have HX:=lh hx;have ac:=lh ha;have ah:=lh ai;clear hr hx hb hN ha ai
 go_enter_defers func192,ntmps192
 go_wp2;obtain ⟨W3,J⟩:∃W3:World,W3=((w.alloc (.cells #[.pointer (some ⟨g,0,none⟩)] 144)).alloc (.cells #[.int .i64 0] 3)).alloc (.cells #[.int .i64 p] 3):=⟨_,rfl⟩
 rw [<-J];have M:Hid (Below w.heap.size w W3):=by rw [J];exact (bl.alloc sI _).alloc ybh _
 have aO:W3.heap.size=w.heap.size+1+1+1:=by rw [J];simp
 have ae:Hid (W3.heap[w.heap.size]? =some (.cells #[.pointer (some ⟨g,0,none⟩)] 144 (0,0))):=by
  show _=_;rw [J,Below.heap_alloc _ _ _ ybh,Below.heap_alloc _ _ _ sI];exact zy w _
 have aC:Hid (W3.heap[w.heap.size+1]? =some (.cells #[.int .i64 0] 3 (0,0))):=by
  show _=_;rw [J,Below.heap_alloc _ _ _ sI];have:=zy (w.alloc (.cells #[.pointer (some ⟨g,0,none⟩)] 144)) (.cells #[.int .i64 0] 3);simpa using this
 have ap:Hid (W3.heap[w.heap.size+1+1]? =some (.cells #[.int .i64 p] 3 (0,0))):=by
  show _=_;rw [J];have:=zy ((w.alloc (.cells #[.pointer (some ⟨g,0,none⟩)] 144)).alloc (.cells #[.int .i64 0] 3)) (.cells #[.int .i64 p] 3);simpa using this
 have aw:Hid (Rd W3 g A n c p L 0):=(M.out.block g Y).trans HR.out;have aq:Hid (Sl fB W3 g A n bs):=HX.out.up M.out (Nat.le_of_lt Y);have ak:Hid (W3.heap[a]? =some (.cells #[.pointer (some ⟨g,0,none⟩)] 144 (0,0))):=(M.out.block a (lb ac.out)).trans ac.out;have ao:Hid (W3.heap[b]? =some (.cells #[.int .i64 m] 3 (0,0))):=(M.out.block b (lb ah.out)).trans ah.out;have cA:=zz W3 w.heap.size 0 _ _ _ ae.out;simp at cA;clear J c1 c3 f3;have aM:¬g=w.heap.size:=by omega
 have aL:¬w.heap.size=g:=by omega
 have Z:¬g=w.heap.size+1:=by omega
 have am:¬w.heap.size+1=g:=by omega
 go_region_held3 (fun w'=>w'.cell? ⟨w.heap.size,0,none⟩=some (.pointer (some ⟨g,0,none⟩))) (first |go_keep |exact af) (first |(go_at_call 193;(refine (cN.out W3.drew aw.out aq.out ak.out ao.out).mono ?_);(rintro e G ⟨rfl,U,H⟩);(have az:=lh U);(have ag:Hid (But (fun k=>k=g) W3 G):=⟨H.os,H.tape,H.output,H.size,H.block⟩);(have aj:Hid (G.heap[w.heap.size]? =some (.cells #[.pointer (some ⟨g,0,none⟩)] 144 (0,0))):=(H.block w.heap.size ya5 om).trans ae.out);(have aa:Hid (G.heap[w.heap.size+1]? =some (.cells #[.int .i64 0] 3 (0,0))):=(H.block (w.heap.size+1) ya5 om).trans aC.out);(have af:=zz G w.heap.size 0 _ _ _ aj.out);(simp at af);(have ar:=zz G (w.heap.size+1) 0 _ _ _ aa.out);(have aB:=zz G g 3 _ _ _ U);(simp at ar aB);(have aN:=frozen_of_row G (w.heap.size+1) 0 _ _ aa.out);(have aQ:=frozen_of_row G g 3 _ _ U);(clear H U)))
 go_wp2;have aK:Hid (G.heap[w.heap.size+1+1]? =some (.cells #[.int .i64 p] 3 (0,0))):=(ag.out.block (w.heap.size+1+1) om om).trans ap.out;obtain ⟨N,K⟩:∃N:World,N=((G.setCell ⟨w.heap.size+1,0,none⟩ (.int .i64 v)).setCell ⟨g,3,none⟩ (.int .i64 er)).setCell ⟨w.heap.size+1,0,none⟩ (.int .i64 v):=⟨_,rfl⟩
 rw [<-K]
 have o1:∀k,k≠w.heap.size+1->k≠g->N.heap[k]? =G.heap[k]? :=fun k h1 h2=>by
  rw [K];exact (heap_setCell_other _ _ _ _ h1).trans ((heap_setCell_other _ _ _ _ h2).trans (heap_setCell_other _ _ _ _ h1))
 have aA:N.heap[w.heap.size]? =some (.cells #[.pointer (some ⟨g,0,none⟩)] 144 (0,0)):=(o1 _ om om).trans aj.out;have ax:N.heap[w.heap.size+1+1]? =some (.cells #[.int .i64 p] 3 (0,0)):=(o1 _ om om).trans aK.out;have ay:Rd (G.setCell ⟨w.heap.size+1,0,none⟩ (.int .i64 v)) g A n c O L 0:=(heap_setCell_other _ _ _ _ Z).trans az.out;have aI:Rd ((G.setCell ⟨w.heap.size+1,0,none⟩ (.int .i64 v)).setCell ⟨g,3,none⟩ (.int .i64 er)) g A n c O L er:=heap_setCell_same _ _ 3 _ _ (.int .i64 er) ay;have aE:Rd N g A n c O L er:=by rw [K];exact (heap_setCell_other _ _ _ _ Z).trans aI
 have aG:(G.setCell ⟨w.heap.size+1,0,none⟩ (.int .i64 v)).heap[w.heap.size+1]? =some (.cells #[.int .i64 v] 3 (0,0)):=heap_setCell_same _ _ 0 _ _ (.int .i64 v) aa.out
 have aH:N.heap[w.heap.size+1]? =some (.cells #[.int .i64 v] 3 (0,0)):=by
  rw [K];exact heap_setCell_same _ _ 0 _ _ (.int .i64 v) ((heap_setCell_other _ _ _ _ am).trans aG)
 have au:Hid (But (fun k=>k=g) w N):=by
  have h1:But (fun k=>k=g) w G:=(But.of_below (p:=fun k=>k=g) M.out).trans (q:=fun k=>k=g) ag.out (fun i hi=> .inl hi);rw [K];exact ((h1.setCell (.inr ya8) _).setCell (.inl rfl) _).setCell (.inr ya8) _
 clear K;refine leaves_cons (f:=240) (args:=#[.pointer (some ⟨w.heap.size+1+1,0,none⟩),.pointer (some ⟨w.heap.size,0,none⟩),.pointer (some ⟨w.heap.size+1,0,none⟩)]) sI (by simp [go_sem]) ?_;refine (closed_68 _ _ _ g A n c O p L er v _ ax aA aH aE Y om om).mono ?_;rintro e u' w9 ⟨rfl,rfl,aD,aF,aJ⟩;have T:=zz w9 (w.heap.size+1) 0 _ _ _ aF.out;have al:RP .i64 g A n c p v er O w (.returned (.int .i64 (if er=0 then v else 0))) w9:=⟨rfl,aD.out,au.out.trans aJ.out (fun i hi=>by rcases hi with rfl |rfl;exact .inl rfl;exact .inr om)⟩;refine ⟨.int .i64 (if er=0 then v else 0),?_,al⟩;obtain ⟨z,hz⟩:∃z:Int,(if er=0 then v else 0)=z:=⟨_,rfl⟩
 rw [hz] at T ⊢;simp at T;simp [results,go_sem,T]
 done
theorem read65_err (g:Nat) (A:Option Addr) (n c p:Nat) (O er:Int) (w:World) (hr:Rd w g A n c p O er) (M:er≠0):
 Calls prog 139 #[.pointer (some ⟨g,0,none⟩),.func (.func 140) #[.pointer (some ⟨g,0,none⟩)] #[]] w fun e L=>e= .returned (.int .u64 0)/\Rd L g A n c p O er/\Below w.heap.size w L:=by
 have U:(er != 0)=true:=by simp [M]
 have c3:=zz w g 3 _ _ _ hr;simp at c3;have HR:=lh hr;have T:g < w.heap.size:=lb hr;clear hr M
 go_enter_defers func139,ntmps139
 go_wp2;obtain ⟨H,G⟩:∃H:World,H=(w.alloc (.cells #[.pointer (some ⟨g,0,none⟩)] 144)).alloc (.cells #[.int .u64 0] 93):=⟨_,rfl⟩
 have J:Below w.heap.size w H:=by rw [G];exact bl.alloc sI _
 have N:H.heap[w.heap.size+1]? =some (.cells #[.int .u64 0] 93 (0,0)):=by
  rw [G];have:=zy (w.alloc (.cells #[.pointer (some ⟨g,0,none⟩)] 144)) (.cells #[.int .u64 0] 93);simpa using this
 rw [<-G];have K:=zz _ (w.heap.size+1) 0 _ _ _ N;simp at K;refine ⟨.int .u64 0,?_,rfl,(J.block g T).trans HR.out,J⟩;simp [results,go_sem,K]
theorem yeb (g:Nat) (A:Option Addr) (n c p:Nat) (N:Int) (bs:List Int) (w:World) (hr:Rd w g A n c p N 0) (H:Sl fB w g A n bs) (L:∀b∈bs,0<=b/\b < 256) (hp:p<=n) (hn:n<=1000000):
 Calls prog 82 #[.pointer (some ⟨g,0,none⟩)] w (RP .u64 g A n c p (numF bs 10 0 0 p).1 (numF bs 10 0 0 p).2.1 (numF bs 10 0 0 p).2.2 w):=by
 have HC:=lh (read65 g A n c p N bs w hr H L hp hn);have W:∀(fn:Fn) (first cap:Array Value) (w:World),(Instr.makeFunc fn first cap).run prog w= .ok (.func fn first cap) w:=fun _ _ _ _=>rfl;obtain ⟨v,er,K,M⟩:∃v er K,numF bs 10 0 0 p=(v,er,K):=⟨_,_,_,rfl⟩
 rw [M] at HC ⊢;clear hr H L M;go_enter func82,ntmps82;go_wp2_with (go_at_call 139;refine HC.out.mono ?_;rintro e w1 ⟨J,h1,h2⟩;have T:=lh h1;have O:=lh h2;obtain ⟨z,G⟩:=gX ((if er=0 then v else 0));rw [G] at J;have U:=lh G;clear G h1 h2;subst J);go_ret;exact ⟨by rw [U.out];rfl,T.out,O.out⟩
theorem ruint_err (g:Nat) (A:Option Addr) (n c p:Nat) (G er:Int) (w:World) (hr:Rd w g A n c p G er) (J:er≠0):
 Calls prog 82 #[.pointer (some ⟨g,0,none⟩)] w fun e H=>e= .returned (.int .u64 0)/\Rd H g A n c p G er/\Below w.heap.size w H:=by
 have HC:=lh (read65_err g A n c p G er w hr J);have K:∀(fn:Fn) (first cap:Array Value) (w:World),(Instr.makeFunc fn first cap).run prog w= .ok (.func fn first cap) w:=fun _ _ _ _=>rfl;clear hr J;go_enter func82,ntmps82;go_wp2_with (go_at_call 139;refine HC.out.mono ?_;rintro e w1 ⟨rfl,h1,h2⟩);go_ret;exact ⟨rfl,h1,h2⟩
theorem rcount_ok (g:Nat) (A:Option Addr) (n c p m:Nat) (U:Int) (bs:List Int) (w:World) (hr:Rd w g A n c p U 0) (W:Sl fB w g A n bs) (T:∀b∈bs,0<=b/\b < 256) (hp:p<=n) (hn:n<=1000000) (hm:m<=1000000):
 Calls prog 141 #[.pointer (some ⟨g,0,none⟩),.int .i64 m] w (RP .i64 g A n c p (limF m (numF bs 10 0 0 p)).1 (limF m (numF bs 10 0 0 p)).2.1 (limF m (numF bs 10 0 0 p)).2.2 w):=by
 have aa:∀(fn:Fn) (first cap:Array Value) (w:World),(Instr.makeFunc fn first cap).run prog w= .ok (.func fn first cap) w:=fun _ _ _ _=>rfl;obtain ⟨J,G⟩:∃J:World,J=(w.alloc (.cells #[.pointer (some ⟨g,0,none⟩)] 144)).alloc (.cells #[.int .i64 m] 3):=⟨_,rfl⟩
 have K:g < w.heap.size:=lb hr;have H:Below w.heap.size w J:=by rw [G];exact bl.alloc sI _
 have M:J.heap[w.heap.size]? =some (.cells #[.pointer (some ⟨g,0,none⟩)] 144 (0,0)):=by
  rw [G,Below.heap_alloc _ _ _ sI];exact zy w _
 have L:J.heap[w.heap.size+1]? =some (.cells #[.int .i64 m] 3 (0,0)):=by
  rw [G];have:=zy (w.alloc (.cells #[.pointer (some ⟨g,0,none⟩)] 144)) (.cells #[.int .i64 m] 3);simpa using this
 have HC:=lh (read62 w.heap.size (w.heap.size+1) m g A n c p U bs J M L hm ((H.block g K).trans hr) (W.up H (Nat.le_of_lt K)) T hp hn);have N:=lh H;rw [G] at HC N;obtain ⟨v,er,Z,hN⟩:∃v er Z,limF m (numF bs 10 0 0 p)=(v,er,Z):=⟨_,_,_,rfl⟩
 rw [hN] at HC ⊢;clear hr W T hN M L H G;go_enter func141,ntmps141;go_wp2_with (go_at_call 192;refine HC.out.mono ?_;rintro e w1 ⟨Y,h1,h2⟩;have H1:=lh h1;have H2:=lh h2;obtain ⟨z,O⟩:=gX ((if er=0 then v else 0));rw [O] at Y;have HZ:=lh O;clear O h1 h2;subst Y);go_ret;exact ⟨by rw [HZ.out];rfl,H1.out,(But.of_below (p:=fun k=>k=g) N.out).trans (q:=fun k=>k=g) H2.out (fun i hi=> .inl hi)⟩
theorem Sl.on {α:Type} {f:α->Value} {w w':World} {A:Option Addr} {n:Nat} {xs:List α} (h:Sl f w w.heap.size A n xs) (hb:Below w.heap.size w w'):Sl f w' w'.heap.size A n xs:=(h.up hb nl).more' hb.size
theorem yec (g:Nat) (A:Option Addr) (n c p:Nat) (L er:Int) (w:World) (hr:Rd w g A n c p L er):
 Calls prog 142 #[.pointer (some ⟨g,0,none⟩)] w fun e K=>e= .returned (.tuple #[.int .i64 p,.int .i64 (if er=0 then (if p < n then 3 else 0) else er)])/\Below w.heap.size w K:=by
 have c0:=zz w g 0 _ _ _ hr;have c1:=zz w g 1 _ _ _ hr;have c3:=zz w g 3 _ _ _ hr;simp at c0 c1 c3;clear hr;obtain ⟨z,G⟩:∃z:Int,(if er=0 then (if p < n then 3 else 0) else er)=z:=⟨_,rfl⟩
 rw [G]
 by_cases H:er=0
 ·have J:(er != 0)=false:=by simp [H]
  rw [if_pos H] at G;clear H
  by_cases hlt:p < n
  ·rw [if_pos hlt] at G;subst G;go_enter func142,ntmps142;go_wp2;go_quiet (fail);go_wp2;go_ret2;exact ⟨rfl,below_drewN bR _⟩
  ·rw [if_neg hlt] at G;subst G;go_enter func142,ntmps142;go_wp2;go_quiet (fail);go_wp2;go_ret2;exact ⟨rfl,below_drewN bR _⟩
 ·have J:(er != 0)=true:=by simp [H]
  rw [if_neg H] at G;clear H;subst G;go_enter func142,ntmps142;go_wp2;go_quiet (fail);go_wp2;go_ret2;exact ⟨rfl,below_drewN bR _⟩
def NewRd (n:Nat) (bs:List Int) (w:World) (e:Ending) (w':World):Prop:=
 ∃g A1 c1,e= .returned (.pointer (some ⟨g,0,none⟩))/\Rd w' g A1 n c1 0 0 0/\Sl fB w' g A1 n bs/\w.heap.size<=g/\Below w.heap.size w w'/\n<=c1
theorem ydt (A:Option Addr) (n c:Nat) (bs:List Int) (w:World) (J:Sl fB w w.heap.size A n bs) (hn:n<=1000000):
 Calls prog 81 #[.slice A n c] w (NewRd n bs w):=by
 obtain ⟨i0,hi,K,L,M⟩:=info_parts Tryz.infoB;have HI:=lh hi;have ai:=lh K;have aj:=lh L;have ac:=lh M;clear hi K L M;have O:Hid (Own fB 5 (w.alloc (.cells #[] 5)) w.heap.size (.slice (some ⟨w.heap.size,0,none⟩) 0 0) []):=World.ownsRow_lit w #[] 0 nl ybd rfl;have G:Hid (Below w.heap.size w (w.alloc (.cells #[] 5))):=bl;have ag:Hid (Sl fB (w.alloc (.cells #[] 5)) (w.alloc (.cells #[] 5)).heap.size A n bs):=J.on G.out;have ah:Hid ((([]:List Int).length+bs.length)*1<=140737488355328):=by show _<=_;rw [J.1];simp;omega
 have Z:Hid (([]:List Int).length+bs.length<=maxLen):=by show _<=_;rw [J.1];unfold maxLen;simp;omega
 have HLN:Hid (bs.length=n):=J.1;clear J;go_enter func81,ntmps81;go_wp2_with (refine ybE (o:=⟨some 5,_,_,_,_,_⟩) rfl (.tmp 3) (.tmp 4) 40 rfl 5 i0 (.int .u8 0) 1 underlying40 HI.out ai.out aj.out ac.out rfl (.slice (some ⟨w.heap.size,0,none⟩) 0 0) ([]:List Int) w.heap.size rfl O.out A n c (w.alloc (.cells #[] 5)).heap.size bs rfl ag.out fB1 ah.out Z.out G.out.size ?_;intro v6 H af z _;obtain ⟨W,Y,T,U,N,_⟩:=af.out.shape;have ae:Hid (Sl fB H H.heap.size W n bs):=⟨HLN.out,N⟩;have HB6:Hid (Below w.heap.size w H):=O.out.below G.out nl G.out.size z.out;rw [List.nil_append,HLN.out] at T;(have aa:Hid (n<=Y):=lT (Nat.le_of_eq HLN.out.symm) U);clear U N;subst T);go_ret;have ak:Below w.heap.size w (H.alloc (.cells #[.slice W n Y,.int .i64 0,.int .i64 0,.int .i64 0] 220)):=HB6.out.alloc HB6.out.size _;exact ⟨H.heap.size,W,Y,rfl,heap_alloc_new H _,ae.out.up bl nl,HB6.out.size,ak,aa.out⟩
theorem split128 (n P:Nat):n % 128*P+n / 128*(P*128)=n*P:=by
 have h:=Nat.div_add_mod n 128;have e:n*P=(128*(n / 128)+n % 128)*P:=by rw [h]
 rw [e,Nat.add_mul,Nat.mul_comm 128 (n / 128),Nat.mul_assoc,Nat.mul_comm 128 P];omega
theorem yed (bs:List Int):∀(k n i G p:Nat),n < 128 ^ k->0 < k->i < 10->(∀j,j < (encF k n).length->bs[p+j]? =(encF k n)[j]?)->(i=0∨0 < n)->n*128 ^ i < 18446744073709551616->
 numF bs (10 - i) G i p=(((G+n*128 ^ i:Nat):Int),0,p+(encF k n).length)
 |0,_,_,_,_,_,h,_,_,_,_=>absurd h om
 |k+1,n,i,G,p,hn,_,hi,hb,h0,hfit=>by
  obtain ⟨m,K⟩:∃m,10 - i=m+1:=⟨9 - i,by omega⟩
  by_cases hlt:n < 128
  ·have H:encF (k+1) n=[(n:Int)]:=by rw [encF,if_pos hlt]
   rw [H] at hb ⊢;have h1:=hb 0 sI;simp only [Nat.add_zero,List.getElem?_cons_zero] at h1;rw [K,numF,h1];simp only [];rw [if_neg om,if_neg,Int.toNat_natCast]
   ·rfl
   ·intro J
    rcases J with ⟨h2,O⟩ |⟨h2,O⟩
    ·omega
    ·subst h2;have:2*128 ^ 9<=n*128 ^ 9:=Nat.mul_le_mul_right _ om;omega
  ·have H:encF (k+1) n=((n % 128+128:Nat):Int)::encF k (n / 128):=by rw [encF,if_neg hlt]
   rw [H] at hb ⊢;have h1:=hb 0 sI;simp only [Nat.add_zero,List.getElem?_cons_zero] at h1
   have L:0 < k:=by
    rcases k with _ |k
    ·simp at hn;omega
    ·omega
   have hd:n / 128 < 128 ^ k:=by rw [Nat.pow_succ] at hn;omega
   have hs:=split128 n (128 ^ i)
   have T:i < 9:=by
    rcases Nat.lt_or_ge i 9 with h |h
    ·exact h
    ·obtain rfl:i=9:=by omega
     have:128*128 ^ 9<=n*128 ^ 9:=Nat.mul_le_mul_right _ om;omega
   have N:=yed bs k (n / 128) (i+1) (G+n % 128*128 ^ i) (p+1) hd L om (fun j hj=>by
    have:=hb (j+1) ybh;rw [List.getElem?_cons_succ] at this
    rw [<-this];congr 1;omega) (.inr om) (by rw [Nat.pow_succ];omega)
   rw [K,numF,h1];simp only [];have M:(((n % 128+128:Nat):Int) % 128).toNat=n % 128:=by omega
   rw [if_pos om,M,show m=10 - (i+1) by omega,N,List.length_cons,Nat.pow_succ];simp only [Prod.mk.injEq,true_and];refine ⟨?_,by omega⟩
   congr 1
   omega
theorem ycS (bs:List Int) (U:∀b∈bs,0<=b/\b < 256):∀(k G i p L:Nat) (v:Int),k+i=10->numF bs k G i p=(v,0,L)->
 ∃n:Nat,v=((G+n*128 ^ i:Nat):Int)/\L=p+(encF k n).length/\(∀j,j < (encF k n).length->bs[p+j]? =(encF k n)[j]?)/\n < 128 ^ k/\(i=0∨0 < n)/\n*128 ^ i < 18446744073709551616
 |0,G,i,p,L,v,_,h=>by simp [numF] at h
 |k+1,G,i,p,L,v,hki,h=>by
  rw [numF] at h
  cases H:bs[p]? with
  |none=>rw [H] at h;simp at h
  |some b=>
   rw [H] at h;simp only [] at h;obtain ⟨h0,h1⟩:=U b (List.mem_of_getElem? H)
   by_cases M:128<=b
   ·rw [if_pos M] at h;obtain ⟨n,J,N,e3,e4,e5,Y⟩:=ycS bs U k _ _ _ L v om h;obtain ⟨m,T⟩:∃m:Nat,b=m:=⟨b.toNat,by omega⟩
    subst T;have em:((m:Int) % 128).toNat=m % 128:=by omega
    rw [em] at J;have ac:0 < n:=by omega
    have W:(n*128+m % 128) / 128=n:=by omega
    have hr:(n*128+m % 128) % 128=m % 128:=by omega
    have hs:=split128 (n*128+m % 128) (128 ^ i);rw [W,hr] at hs
    have K:encF (k+1) (n*128+m % 128)=((m:Nat):Int)::encF k n:=by
     rw [encF,if_neg om,W,hr]
     congr 1
     omega
    rw [Nat.pow_succ] at J Y
    have ae:i < 9:=by
     rcases Nat.lt_or_ge i 9 with h |h
     ·exact h
     ·obtain rfl:i=9:=by omega
      have:1*(128 ^ 9*128)<=n*(128 ^ 9*128):=Nat.mul_le_mul_right _ om;omega
    have O:(n*128+m % 128)*128 ^ i < 18446744073709551616:=by
     rw [<-hs];have hP:128 ^ i<=128 ^ 8:=Nat.pow_le_pow_right om om
     have h1:m % 128*128 ^ i+128 ^ i<=128 ^ i*128:=by
      have:m % 128*128 ^ i<=127*128 ^ i:=Nat.mul_le_mul_right _ om;omega
     have h2:128 ^ i*128 ∣ 18446744073709551616:=by
      have e:18446744073709551616=128 ^ i*128*2 ^ (64 - 7*(i+1)):=by
       have e7:(128:Nat) ^ i*128=2 ^ (7*(i+1)):=by rw [<-Nat.pow_succ,Nat.pow_mul]
       rw [e7,<-Nat.pow_add,show 7*(i+1)+(64 - 7*(i+1))=64 by omega]
      exact ⟨_,e⟩
     obtain ⟨c,z⟩:=h2;have aa:0 < 128 ^ i:=Nat.pow_pos om;rw [z] at Y
     have h3:n < c:=by
      rcases Nat.lt_or_ge n c with h |h
      ·exact h
      ·have:c*(128 ^ i*128)<=n*(128 ^ i*128):=Nat.mul_le_mul_right _ h;rw [Nat.mul_comm c] at this;omega
     have h4:(n+1)*(128 ^ i*128)<=c*(128 ^ i*128):=Nat.mul_le_mul_right _ h3;rw [Nat.mul_comm c,<-z,Nat.add_mul,Nat.one_mul] at h4;omega
    refine ⟨n*128+m % 128,?_,?_,?_,?_,.inr om,O⟩
    ·rw [J,<-hs];congr 1;omega
    ·rw [K,N,List.length_cons];omega
    ·rw [K];intro j hj;rcases j with _ |j
     ·simpa using H
     ·rw [List.getElem?_cons_succ,<-e3 j (by simpa using hj)];congr 1;omega
    ·rw [Nat.pow_succ];omega
   ·rw [if_neg M] at h
    split at h
    ·simp at h
    ·rename_i hok
     simp only [Prod.mk.injEq,true_and] at h;obtain ⟨J,N⟩:=h;obtain ⟨m,T⟩:∃m:Nat,b=m:=⟨b.toNat,by omega⟩
     subst T;have K:encF (k+1) m=[(m:Int)]:=by rw [encF,if_pos om]
     refine ⟨m,by rw [<-J,Int.toNat_natCast],by rw [K];exact N.symm,?_,?_,?_,?_⟩
     ·rw [K];intro j hj;obtain rfl:j=0:=by simpa using hj
      simpa using H
     ·have:128 ^ 1<=128 ^ (k+1):=Nat.pow_le_pow_right om om;omega
     ·rcases Nat.eq_zero_or_pos i with h |h
      ·exact .inl h
      ·right
       rcases Nat.eq_zero_or_pos m with h2 |h2
       ·exact absurd (.inl ⟨h,by omega⟩) hok
       ·exact h2
     ·rcases Nat.lt_or_ge i 9 with h |h
      ·have h8:128 ^ i<=128 ^ 8:=Nat.pow_le_pow_right om om;have:m*128 ^ i<=127*128 ^ 8:=Nat.mul_le_mul om h8;omega
      ·obtain rfl:i=9:=by omega
       have Z:m<=1:=by
        rcases Nat.lt_or_ge 1 m with h2 |h2
        ·exact absurd (.inr ⟨rfl,by omega⟩) hok
        ·exact h2
       have:m*128 ^ 9<=1*128 ^ 9:=Nat.mul_le_mul_right _ Z;omega
