/- Several texts in one file: contracts of the program's functions and what follows from them. -/
import Derived.Test.YteohpagjkaaboaaGreatG5
import Derived.Shelf.Slices.Reverse
import Derived.Ground.Names2Prog
import Derived.Shelf.Slices.Cells
import Derived.Shelf.Slices.Empties
set_option linter.unusedSimpArgs false
set_option linter.unusedVariables false
set_option linter.unusedSectionVars false
set_option linter.unnecessarySimpa false
set_option maxRecDepth 100000
set_option maxHeartbeats 8000000
namespace Go.Proofs.YteohpagjkaaboaaGreat
open Go.Proofs.Tryz
open Go.RowKit
theorem Zyp (zs:List Int)(x:Int)(i:Nat):Zvr zs x i=bub zs i (Zfp zs x-i).toNat:=rfl
theorem Zvs (zs:List Int)(i d:Nat):(bub zs i (d+1)).2=((i+d:Nat):Int)::(bub (Zqp zs ((i+d:Nat):Int)) i d).2:=rfl
def Zjn (a b:List Int)(w:World)(e:Ending)(w':World):Prop :=
 ∃ v,e=.returned (.tuple #[v,.int .i64 (Zd1 a b)])/\OwnI w' w.heap.size v (Zex a b)/\Below w.heap.size w w'
theorem Zf3 {a b r:List Int}{w w':World}{v:Value}{E:Int}(hE:Zd1 a b=E)(hr:Zex a b=r)(hs:OwnI w' w.heap.size v r)(hb:Below w.heap.size w w') :
 Zjn a b w (.returned (.tuple #[v,.int .i64 E])) w':=⟨v,by rw[hE],by rw[hr];exact hs,hb⟩
def metB (zs:List Int)(k:Nat)(v:Int):Bool:=decide (∃ j,j<k/\at0 zs j=v)
theorem Zw6 (zs:List Int)(v:Int):metB zs 0 v=false:=by simp[metB]
theorem Zpy (zs:List Int)(k:Nat):metB zs (k+1) (at0 zs k)=true:=by simp only[metB,decide_eq_true_eq];exact⟨k,by omega,rfl⟩
theorem Zjw (zs:List Int)(k:Nat)(v:Int)(h:at0 zs k≠v):metB zs (k+1) v=metB zs k v:=by
 simp only[metB,decide_eq_decide];constructor
 .
  rintro⟨j,hj,he⟩;refine⟨j,?_,he⟩
  by_cases e:j=k
  . subst e;exact(h he).elim
  . omega
 . rintro⟨j,hj,he⟩;exact⟨j,by omega,he⟩
theorem Zw5 {zs:List Int}{k:Nat}{v:Int}(h:metB zs k v=true):∃ j,j<k/\at0 zs j=v:=by simpa [metB] using h
theorem Zt6 {zs:List Int}{k:Nat}{v:Int}(h:metB zs k v=false):∀ j,j<k->at0 zs j≠v:=by
 intro j hj he;have:metB zs k v=true:=by simp only[metB,decide_eq_true_eq];exact⟨j,hj,he⟩
 rw[h] at this;cases this
def Marks (w:World)(g:Nat)(zs:List Int)(k base:Nat):Prop :=
 ∃ cur,w.heap[g]?=some (.cells cur 228 (0,0))/\cur.size=64/\∀ u,u<64->cur[u]?=some (.bool (metB zs k ((base+u:Nat):Int)))
theorem Marks.cell {w:World}{g:Nat}{zs:List Int}{k base:Nat}(h:Marks w g zs k base)(u:Nat)(hu:u<64):w.cell? ⟨g,u,none⟩=some (.bool (metB zs k ((base+u:Nat):Int))):=by
 obtain⟨cur,h1,h2,h3⟩:=h;simp only[World.cell?,h1];exact h3 u hu
theorem Marks.frozen {w:World}{g:Nat}{zs:List Int}{k base:Nat}(h:Marks w g zs k base)(u:Nat):w.frozen? ⟨g,u,none⟩=false:=by
 obtain⟨cur,h1,h2,h3⟩:=h;simp[World.frozen?,h1]
theorem Marks.step_out {w:World}{g:Nat}{zs:List Int}{k base:Nat}(h:Marks w g zs k base)(hx:¬ ((base:Int)<=at0 zs k/\at0 zs k<base+64)):Marks w g zs (k+1) base:=by
 obtain⟨cur,h1,h2,h3⟩:=h;exact⟨cur,h1,h2,fun u hu=>by rw[Zjw _ _ _ (by omega)];exact h3 u hu⟩
theorem Marks.step_in {w:World}{g:Nat}{zs:List Int}{k base u:Nat}(h:Marks w g zs k base)(hx:at0 zs k=((base+u:Nat):Int))(hu:u<64) :
 Marks (w.setCell ⟨g,u,none⟩ (.bool true)) g zs (k+1) base:=by
 obtain⟨cur,h1,h2,h3⟩:=h;refine⟨cur.setIfInBounds u (.bool true),?_,by simpa using h2,fun v hv=>?_⟩
 . simp[World.setCell,Array.getElem?_modify,h1]
 .
  by_cases e:v=u
  . subst e;rw[Array.getElem?_setIfInBounds_self_of_lt (by omega),<- hx,Zpy]
  . rw[Array.getElem?_setIfInBounds_ne (by omega),Zjw _ _ _ (by omega)];exact h3 v hv
theorem Zw4 (w:World)(zs:List Int)(base:Nat)(cs:List Value)(hcs:cs=List.replicate 64 (.bool false)):Marks (w.alloc (.cells cs.toArray 228)) w.heap.size zs 0 base :=
 ⟨_,heap_alloc_new w _,by simp[hcs],fun u hu=>by rw[Zw6,List.getElem?_toArray,hcs,List.getElem?_replicate,if_pos hu]⟩
def Zkr (zs:List Int)(B:Nat):Prop :=
 1<=B->(∀ j,j<zs.length->0<=at0 zs j/\at0 zs j<zs.length)/\∀ i,i<zs.length->∀ l,l<i->at0 zs l=at0 zs i->(B:Int)<=at0 zs i
def Zkq (zs:List Int)(B k:Nat):Prop :=
 (∀ j,j<k->0<=at0 zs j/\at0 zs j<zs.length)/\(∀ i,i<k->∀ l,l<i->at0 zs l=at0 zs i->¬ ((B:Int)<=at0 zs i/\at0 zs i<(B:Int)+64))
theorem Zqi (zs:List Int):Zkr zs 0:=fun h=>by omega
theorem Zqg (zs:List Int)(B:Nat):Zkq zs B 0:=⟨by omega,by omega⟩
theorem Zgw {zs:List Int}{B k:Nat}(h:Zkq zs B k)(h1:0<=at0 zs k)(h2:at0 zs k<zs.length)
 (h3:¬ ((B:Int)<=at0 zs k/\at0 zs k<(B:Int)+64)\/metB zs k (at0 zs k)=false):Zkq zs B (k+1):=by
 refine⟨fun j hj=>?_,fun i hi l hl he=>?_⟩
 .
  by_cases e:j=k
  . subst e;exact⟨h1,h2⟩
  . exact h.1 j (by omega)
 .
  by_cases e:i=k
  .
   subst e;rcases h3 with h3|h3
   . exact h3
   . exact(Zt6 h3 l hl he).elim
  . exact h.2 i (by omega) l hl he
theorem Zqh {zs:List Int}{B:Nat}(h:Zkr zs B)(hi:Zkq zs B zs.length):Zkr zs (B+64):=by
 refine fun _=>⟨hi.1,fun i g0 l hl he=>?_⟩
 have h2:=hi.2 i g0 l hl he;have h3:=(hi.1 i g0).1
 by_cases hB:1<=B
 . have:=(h hB).2 i g0 l hl he;omega
 . omega
theorem Zqf {zs:List Int}{B:Nat}(h:Zkr zs B)(hB:zs.length<=B):Zew zs=true:=by
 rw[Zm6]
 by_cases h0:1<=B
 . obtain⟨h1,h2⟩:=h h0;exact⟨h1,fun i hi k hk he=>by have:=h2 i hi k hk he;have:=(h1 i hi).2;omega⟩
 . exact⟨by omega,by omega⟩
theorem Zgv {zs:List Int}{k:Nat}(hk:k<zs.length)(h:¬ (0<=at0 zs k/\at0 zs k<zs.length)):Zew zs=false:=Zjz fun hh=>h (hh.1 k hk)
theorem Zn8 {zs:List Int}{k:Nat}(hk:k<zs.length)(h:metB zs k (at0 zs k)=true):Zew zs=false:=by
 obtain⟨j,hj,he⟩:=Zw5 h;exact Zjz fun hh=>hh.2 k hk j hj he
theorem Zco (a:Option Addr)(c:Nat)(zs:List Int)(w:World)(h:Zay w a zs)(hlen:zs.length<1000000) :
 Calls prog 160 #[.slice a zs.length c] w fun e w'=>e=.returned (.bool (Zew zs))/\Below w.heap.size w w':=by
 obtain⟨hl,hc⟩:=h;have gi:Hid (∀ k,k<zs.length->∃ b off,a=some ⟨b,off,none⟩/\b<w.heap.size/\w.cell? ⟨b,off+k,none⟩=some (.int .i64 (at0 zs k))):=fun k hk=>by
  obtain⟨b,off,h1,h2⟩:=hc k hk;exact⟨b,off,h1,Zab h2,h2⟩
 clear hc
 go_enter func160,ntmps160
 go_wp2
 go_loopw [3] (fun s3 wr=>∃ B:Nat,s3=.int .i64 B/\B<=zs.length+63/\Zkr zs B/\Below w.heap.size w wr/\w.heap.size<=wr.heap.size) (fun i _=>zs.length+64-(intOf i).toNat)
 case atStart=>exact⟨0,rfl,by omega,Zqi zs,Below.refl _ _,Nat.le_refl _⟩
 case round =>
  obtain⟨B,rfl,hB,hrel,ga,gb⟩:=hrel;have HR:=Hd hrel;clear hrel
  by_cases gn:B<zs.length
  .
   go_wp2
   obtain⟨wo,rfl⟩:∃ wo:World,wo=wr:=⟨_,rfl⟩
   go_loopw [16] (fun i wi=>∃ k:Nat,k<=zs.length/\i=.int .i64 k/\Zkq zs B k/\Marks wi wo.heap.size zs k B/\Below w.heap.size w wi/\w.heap.size<=wi.heap.size) (fun i _=>zs.length-(intOf i).toNat)
   case atStart=>exact⟨0,by omega,rfl,Zqg zs B,Zw4 _ _ _ _ rfl,ga.alloc gb _,by simp;omega⟩
   case round =>
    obtain⟨k,hk,rfl,gc,hm,g0,g3⟩:=hrel;have g5:=Hd gc;have HM:=Hd hm;clear gc hm
    by_cases g4:k<zs.length
    .
     obtain⟨b,off,rfl,gh,ge⟩:=gi.out k g4;have gl:=(g0.cell (p:=⟨b,off+k,none⟩) gh).trans ge;clear ge
     by_cases hx:0<=at0 zs k/\at0 zs k<zs.length
     .
      obtain⟨g7,g6⟩:=hx
      by_cases g1:(B:Int)<=at0 zs k/\at0 zs k<(B:Int)+64
      .
       obtain⟨gk,gj⟩:=g1;have g8:((at0 zs k).toNat-B)<64:=by omega
       have g9:at0 zs k=((B+((at0 zs k).toNat-B):Nat):Int):=by omega
       have gf:=HM.out.cell _ g8;have gr:=HM.out.frozen ((at0 zs k).toNat-B);rw[<- g9] at gf;have HU:=Hd g9
       generalize gd:metB zs k (at0 zs k)=mb at gf
       have gg:=Hd gd;clear gd g9;cases mb
       .
        go_wp2
        go_roundw
        case rel=>exact⟨k+1,by omega,by go_num,Zgw g5.out g7 g6 (.inr gg.out),HM.out.step_in HU.out g8,g0.setCell gb _,by simp;omega⟩
        case measure=>simp[intOf];omega
       .
        go_wp2
        go_ret;exact⟨Zd0 (Zn8 g4 gg.out).symm,g0⟩
      .
       have HW:=Hd g1
       by_cases go:at0 zs k<(B:Int)
       .
        clear g1
        go_wp2
        go_roundw
        case rel=>exact⟨k+1,by omega,by go_num,Zgw g5.out g7 g6 (.inl HW.out),HM.out.step_out HW.out,g0,g3⟩
        case measure=>simp[intOf];omega
       .
        have gp:(B:Int)+64<=at0 zs k:=by omega
        clear g1
        go_wp2
        go_roundw
        case rel=>exact⟨k+1,by omega,by go_num,Zgw g5.out g7 g6 (.inl HW.out),HM.out.step_out HW.out,g0,g3⟩
        case measure=>simp[intOf];omega
     .
      have HX:=Hd hx
      by_cases gm:at0 zs k<0
      .
       clear hx
       go_wp2
       go_ret;exact⟨Zd0 (Zgv g4 HX.out).symm,g0⟩
      .
       have gq:(zs.length:Int)<=at0 zs k:=by omega
       clear hx
       go_wp2
       go_ret;exact⟨Zd0 (Zgv g4 HX.out).symm,g0⟩
    .
     obtain rfl:k=zs.length:=by omega
     go_wp2
     go_roundw
     case rel=>exact⟨B+64,by go_num,by omega,Zqh HR.out g5.out,g0,g3⟩
     case measure=>simp[intOf];omega
  .
   go_wp2
   go_ret;exact⟨Zd0 (Zqf HR.out (by omega)).symm,ga⟩
theorem Zl1 {ops:Array Oper}{rest:List Oper}{o:Oper}{a:Act}{Q:Exit->Act->World->Prop}{wr:World}(hgd:o.guard=none)(d s:Operand)
 (ho:o.op=.call { callee:=.builtin .copy,args:=#[d,s],argTypes:=#[22,22] })
 (base g:Nat) (w0:World) (zs:List Int) (xs:List Value) (ao:Option Addr) (c:Nat) (hd:a.eval d=.slice (some ⟨g,0,none⟩) zs.length zs.length) (hs:a.eval s=.slice ao zs.length c)
 (hown:wr.ownsRow base 3 1 (.slice (some ⟨g,0,none⟩) zs.length zs.length) zs.length xs) (hzs:Zay wr ao zs) (hb:Below base w0 wr)
 (h:∀ v' w',OwnI w' base (.slice (some ⟨g,0,none⟩) zs.length zs.length) zs->Below base w0 w'->base<=w'.heap.size->wpList prog ops Q rest (a.put o.dst v') w') :
 wpList prog ops Q (o::rest) a wr:=by
 obtain⟨g9,hx⟩:=hown;rcases hx with ⟨hv,_⟩|⟨g',cap,cur,hv,g2,hg,ga,g5,g1,g8⟩
 . cases hv
 .
  simp only[Value.slice.injEq,Option.some.injEq,Addr.mk.injEq,and_true,true_and] at hv;obtain⟨rfl,rfl⟩:=hv;refine wpList_copy_splice (w:=wr) hgd d s 22 22 ho 3 underlying22 (by obtain⟨i,hi,_,g4,_⟩:=info_parts Zi9;rw[hi];simp[g4])
   _ _ _ _ _ _ hd hs g 0 cur.toList 3 (by simpa using hg) (Zbi zs) (by simp[Zbi]) ?_ (by simp[Zbi,g1]) (ints_oneCell .i64 zs) base w0 hb g2 ?_
  .
   intro hp;rw[Zgl] at hp;obtain⟨b,off,rfl,_⟩:=hzs.cells 0 hp;refine⟨rfl,_,rfl,fun j v hj=>?_⟩;have g0:j<zs.length:=by
    rcases Nat.lt_or_ge j zs.length with h'|h'
    . exact h'
    . simp[Zbi,List.getElem?_eq_none h'] at hj
   obtain⟨b',off',g7,hc⟩:=hzs.cells j g0;cases g7;simp[Zbi,getElem?_at0 g0] at hj;subst hj;have g3:(⟨b,off,none⟩:Addr).add j=⟨b,off+j,none⟩:=by unfold Addr.add;split<;>simp_all
   rw[g3];exact hc
  .
   intro w' hh g6;refine h _ w' ⟨by simp[Zbi],.inr ⟨g,_,(Zbi zs).toArray,rfl,g2,?_,Nat.le_refl _,g5,by simp[Zbi],by simp[Zbi,List.take_of_length_le]⟩⟩ g6 ?_
   .
    have:=hh.out;rw[this];have hl:cur.toList.length=zs.length:=by simp[g1]
    simp[splice,Zbi,List.drop_eq_nil_of_le,hl]
   . have h1:=hh.out;have:=(Array.getElem?_eq_some_iff.1 h1).1;omega
theorem Zoz (a:Option Addr)(c:Nat)(zs:List Int)(w:World)(h:Zay w a zs)(hlen:zs.length<1000000) :
 Calls prog 161 #[.slice a zs.length c] w fun e w'=>∃ g,e=.returned (.slice (some ⟨g,0,none⟩) zs.length zs.length)/\OwnI w' w.heap.size (.slice (some ⟨g,0,none⟩) zs.length zs.length) zs/\Below w.heap.size w w':=by
 obtain⟨i,hi,hz,g3,g4⟩:=info_parts Zi9;have HI:=Hd h;clear h
 go_enter func161,ntmps161
 go_wp2_with (first
  | (at_make;refine wpList_make_full _ rfl _ _ 22 rfl w.heap.size 3 i (.int .i64 0) 1 underlying22 hi hz g3 .i64 .i64 _ _ zs.length rfl rfl rfl rfl (by rw[g4];omega) (by unfold maxLen;omega) (Nat.le_refl _) ?_;intro w1 g1 g2)
  | (with_reducible refine Zl1 rfl (.tmp 7) (.tmp 8) rfl w.heap.size w.heap.size w zs _ a c rfl rfl (by exact g1) (HI.out.keep (Zda g2) (by simp)) ((Below.refl _ _).grown g2 (Nat.le_refl _) (by simp)) ?_;intro v2 w2 g0 g5 g6))
 go_ret;exact⟨_,rfl,g0,g5⟩
theorem Zwp (a:Option Addr)(c:Nat)(zs:List Int)(x:Int)(w:World)(h:Zay w a zs) :
 Calls prog 162 #[.slice a zs.length c,.int .i64 x] w fun e w'=>e=.returned (.int .i64 (Zfp zs x))/\∃ n,w'=w.drewN n:=by
 obtain⟨hl,hc⟩:=h;have HC:=Hd hc;clear hc
 go_enter func162,ntmps162
 go_wp2
 go_loop [8] (fun i=>∃ k:Nat,k<=zs.length/\i=.int .i64 k/\∀ j,j<k->at0 zs j≠x) (fun i=>zs.length-(intOf i).toNat)
 case atStart=>exact⟨0,Nat.zero_le _,rfl,by omega⟩
 case round =>
  obtain⟨k,hk,rfl,hrel⟩:=hrel;have HR:=Hd hrel;clear hrel
  by_cases g1:k<zs.length
  .
   obtain⟨b,off,rfl,g2⟩:=HC.out k g1
   by_cases hx:at0 zs k=x
   .
    have H1:(x == at0 zs k)=true:=by simpa using hx.symm
    have HX:=Hd hx;clear hx
    go_wp2
    go_ret;exact⟨Zrt (Zp5 g1 HX.out HR.out).symm,0,rfl⟩
   .
    have H1:(x == at0 zs k)=false:=by simpa using(fun e=>hx e.symm)
    go_wp2
    go_round
    case rel=>exact⟨k+1,by omega,by go_num,fun j hj=>by
     by_cases e:j=k
     . subst e;exact hx
     . exact HR.out j (by omega)⟩
    case measure=>simp[intOf];omega
  .
   go_wp2
   go_ret;exact⟨Zrt (Zrq (fun j hj=>HR.out j (by omega))).symm,0,rfl⟩
theorem OwnI.len {w:World}{base n c:Nat}{a:Option Addr}{zs:List Int}(h:OwnI w base (.slice a n c) zs):n=zs.length:=by
 rcases h.2 with ⟨hv,h0⟩|⟨g,cap,cur,hv,_⟩
 . simp only[Value.slice.injEq] at hv;omega
 . simp only[Value.slice.injEq] at hv;omega
theorem OwnI.intsAt {w:World}{base n c:Nat}{a:Option Addr}{zs:List Int}(h:OwnI w base (.slice a n c) zs)(hl:zs.length<=9223372036854775807):Zay w a zs:=by
 obtain rfl:=h.len;exact Zho hl h
theorem Zzc {a:Option Addr}{n c:Nat}{zs:List Int}{x:Int}{w:World}(hn:n=zs.length)(h:Zay w a zs) :
 Calls prog 162 #[.slice a n c,.int .i64 x] w fun e w'=>e=.returned (.int .i64 (Zfp zs x))/\∃ n,w'=w.drewN n:=by
 subst hn;exact Zwp a c zs x w h
theorem Zn3 (va vb:Value)(xs ys:List Int)(w:World)(h:SliceIs w va xs)(h':SliceIs w vb ys)(hlen:xs.length<=1000)(hlen':ys.length<=1000) :
 Calls prog 150 #[va,vb] w (Zjn xs ys w):=by
 obtain⟨a,c,rfl,ha,gR⟩:=h;obtain⟨b,c',rfl,hb,gQ⟩:=h';have HA:=Hd ha;have HB:=Hd hb;clear ha hb gR gQ
 by_cases hr:Zew xs=true
 .
  by_cases g1:Zew ys=true
  .
   by_cases hl:xs.length=ys.length
   .
    have HE:Hid (Zd1 xs ys=0):=by unfold Zd1;rw[if_pos ⟨hr,g1⟩,if_pos hl];rfl
    have HF:Hid (Zex xs ys=Zi0 xs ys 0):=by unfold Zex;rw[if_pos ⟨hr,g1,hl⟩];rfl
    have HR:=Hd hr;have g8:=Hd g1;have H3:((xs.length:Int) != ys.length)=false:=by simp[hl]
    clear hr g1 hl
    go_enter func150,ntmps150
    go_wp2_with fail;refine(Zco _ _ xs _ HA.out (by omega)).mono ?_;rintro e w1 ⟨rfl,g0⟩;rw[HR.out];go_wp2_with fail;refine(Zco _ _ ys _ (HB.out.below g0) (by omega)).mono ?_;rintro e w2 ⟨rfl,g7⟩;rw[g8.out];have g4:Below w.heap.size w w2:=g0.trans (g7.mono g0.size);go_wp2_with fail;refine(Zoz _ _ xs _ (HA.out.below g4) (by omega)).mono ?_;rintro e w3 ⟨g,rfl,gb,gl⟩;have ga:=g4.size;have hg:w2.heap.size<=g:=(gb.lt g rfl).1;have h3:Below w.heap.size w w3:=g4.trans (gl.mono ga);have gL:w2.heap.size<=w3.heap.size:=gl.size;go_wp2_with fail
    go_loopw [6,30] (fun s6 s30 wr=>∃ (k:Nat) (cur out:List Int),k<=ys.length/\s30=.int .i64 k/\OwnI wr w2.heap.size (.slice (some ⟨g,0,none⟩) xs.length xs.length) cur/\cur.length=xs.length/\OwnI wr w2.heap.size s6 out/\s6.ownBlock≠some g/\out.length<=k*1000/\out++Zi0 cur (ys.drop k) k=Zi0 xs ys 0/\w2.heap.size<=wr.heap.size/\Below w2.heap.size w2 wr) (fun _ s30 _=>ys.length-(intOf s30).toNat)
    case atStart=>exact⟨0,xs,[],by omega,rfl,gb,rfl,Zkk _ _,by simp[Value.ownBlock],by simp,by simp,gL,gl⟩
    case round =>
     obtain⟨k,cur,out,hk,rfl,gj,gv,ge,gs,hd,gq,gK,g9⟩:=hrel;have gz:=Hd gq;have gm:=Hd gv;have gZ:=Hd gs;have h5:cur.length<=1000:=by omega
     clear gq gv gs;have h1:=Hd (HB.out.below (g4.trans (g9.mono ga)))
     by_cases gt:k<ys.length
     .
      obtain⟨bb,off,rfl,h2⟩:=h1.out.cells k gt;have h0:=Hd (Zrw cur ys k gt);have HCI:=Hd (gj.intsAt (by omega));go_wp2_with fail;refine(Zzc gm.out.symm (HCI.out.drewN 0)).mono ?_;rintro e w' ⟨rfl,n,rfl⟩;have gr:=Zxn cur (at0 ys k);have hp2:=Zxo cur (at0 ys k);have gE:=Hd (Zyp cur (at0 ys k) k)
      generalize Zfp cur (at0 ys k)=p at gr hp2 gE ⊢
      go_wp2_with fail;have gO:p<xs.length\/p<=0:=by have:=gm.out;omega
      obtain⟨N,F,HN⟩:∃ (N F:List Int),Hid (N=(bub cur k (p-k).toNat).1/\F=out++(bub cur k (p-k).toNat).2):=⟨_,_,rfl,rfl⟩
      go_loopw [6,10] (fun s6 s10 wi=>∃ (d:Nat) (c1 o1:List Int) (q:Int),s10=.int .i64 q/\-1<=q/\q<=1000/\(q<xs.length\/q<=0)/\(q<=k->d=0)/\(k<q->q=k+d)/\OwnI wi w2.heap.size (.slice (some ⟨g,0,none⟩) xs.length xs.length) c1/\c1.length=xs.length/\OwnI wi w2.heap.size s6 o1/\s6.ownBlock≠some g/\o1.length+d<=(k+1)*1000/\N=(bub c1 k d).1/\F=o1++(bub c1 k d).2/\w2.heap.size<=wi.heap.size/\Below w2.heap.size w2 wi) (fun _ s10 _=>(intOf s10+1).toNat)
      case atStart=>exact⟨(p-k).toNat,cur,out,p,rfl,gr,by omega,gO,by omega,by omega,gj.drewN n,gm.out,ge.drewN n,gZ.out,by omega,HN.out.1,HN.out.2,gK,Zak g9 n⟩
      case round =>
       obtain⟨d,c1,o1,q,rfl,hc,h9,gN,gi,gu,g3,gk,g6,gf,h4,hN,hF,gd,gc⟩:=hrel;have gB:=Hd hN;have gD:=Hd hF;have gn:=Hd gk;have g5:=Hd gf;have h6:c1.length<=1000:=by omega
       clear hN hF gk gf
       by_cases h8:(k:Int)<q
       .
        obtain⟨d,rfl⟩:∃ l,d=l+1:=⟨d-1,by omega⟩;have gM:q=(k:Int)+d+1:=by omega
        subst gM;have gS:k+d+1<xs.length:=by omega
        have gH:k+d+1<c1.length:=by rw[gn.out];exact gS
        clear gi gu gN;have h7:IntKind.i64.wrap ((k:Int)+d+1-1)=((k+d:Nat):Int):=by rw[IntWalk.i64_in _ (by omega)];omega
        have q0:=g3.cell (k+d) (by omega);have q1:=g3.cell (k+d+1) (by omega);have p0:=g3.frozen (k+d);have p1:=g3.frozen (k+d+1);have t0:((k:Int)+d).toNat=k+d:=by omega
        have t1:((k:Int)+d+1).toNat=k+d+1:=by omega
        go_wp2_with fail
        go_region
        have gX:=Hd (Yag (zs:=c1) (k:=k+d) gH);have gU:=((g3.stored (k+d) (at0 c1 (k+d+1))).stored (k+d+1) (at0 c1 (k+d))).drewN 1;have gP:=((g6.setCell_other (a:=⟨g,k+d,none⟩) g5.out (.int .i64 (at0 c1 (k+d+1)))).setCell_other (a:=⟨g,k+d+1,none⟩) g5.out (.int .i64 (at0 c1 (k+d)))).drewN 1;have gV:=Zak ((gc.setCell (p:=⟨g,k+d,none⟩) hg (.int .i64 (at0 c1 (k+d+1)))).setCell (p:=⟨g,k+d+1,none⟩) hg (.int .i64 (at0 c1 (k+d)))) 1;have gT:=(g3.lt g rfl).2;go_wp2_with (at_builtin;go_loud (refine Zdn _ rfl _ _ rfl w2.heap.size w2 _ o1 _ rfl rfl (by rfl) (by simp) gP (by omega) (by simpa using gd) gV ?_);intro v2 w4 go gp gF gg);have gw:=gU.keep gg.keep (fun x hx gJ=>by cases hx;exact g5.out gJ.symm);rw[<- gX.out] at gw;have gG:=gg.ne g5.out (by simpa using gT);go_roundw
        case rel=>exact⟨d,Zqp c1 ((k+d:Nat):Int),o1++[((k+d:Nat):Int)],((k+d:Nat):Int),by go_num,by omega,by omega,by omega,by omega,by omega,gw,by rw[Zqq];exact gn.out,go,gG,by simp;omega,gB.out,by rw[gD.out,Zvs];simp,gF,gp⟩
        case measure=>simp[intOf];omega
       .
        obtain rfl:=gi (by omega);have gY:=Hd g6;have gx:N=c1:=gB.out;have gy:F=o1:=by rw[gD.out];simp[bub]
        have gA:=Hd gx;have gC:=Hd gy;clear gx gy gi gu g6
        go_wp2
        go_roundw
        case rel=>exact⟨k+1,N,F,by omega,by go_num,by rw[gA.out];exact g3,by rw[gA.out];exact gn.out,by rw[gC.out];exact gY.out,g5.out,by rw[gC.out];omega,by
         rw[HN.out.1,HN.out.2,<- gz.out,h0.out,gE.out];simp,gd,gc⟩
        case measure=>simp[intOf];omega
     .
      obtain rfl:k=ys.length:=by omega
      have gh:Zi0 xs ys 0=out:=by rw[<- gz.out];simp[Zi0]
      have gI:=Hd gh;clear gh
      go_wp2
      go_ret2
      exact Zf3 HE.out (HF.out.trans gI.out) (ge.lower ga) (g4.trans (g9.mono ga))
   .
    have HE:Hid (Zd1 xs ys=3):=by unfold Zd1;rw[if_pos ⟨hr,g1⟩,if_neg hl];rfl
    have HF:Hid (Zex xs ys=[]):=by unfold Zex;rw[if_neg (fun hh=>hl hh.2.2)];rfl
    have HR:=Hd hr;have g8:=Hd g1;have H3:((xs.length:Int) != ys.length)=true:=by simp;omega
    clear hr g1 hl
    go_enter func150,ntmps150
    go_wp2_with fail;refine(Zco _ _ xs _ HA.out (by omega)).mono ?_;rintro e w1 ⟨rfl,g0⟩;rw[HR.out];go_wp2_with fail;refine(Zco _ _ ys _ (HB.out.below g0) (by omega)).mono ?_;rintro e w2 ⟨rfl,g7⟩;rw[g8.out];go_wp2_with fail
    go_ret2
    exact Zf3 HE.out HF.out (Zkk _ _) (g0.trans (g7.mono g0.size))
  .
   have HE:Hid (Zd1 xs ys=1):=by unfold Zd1;rw[if_neg (fun hh=>g1 hh.2)];rfl
   have HF:Hid (Zex xs ys=[]):=by unfold Zex;rw[if_neg (fun hh=>g1 hh.2.1)];rfl
   have g2:Zew ys=false:=by simpa using g1
   have HR:=Hd hr;have g8:=Hd g2;clear hr g1 g2
   go_enter func150,ntmps150
   go_wp2_with fail;refine(Zco _ _ xs _ HA.out (by omega)).mono ?_;rintro e w1 ⟨rfl,g0⟩;rw[HR.out];go_wp2_with fail;refine(Zco _ _ ys _ (HB.out.below g0) (by omega)).mono ?_;rintro e w2 ⟨rfl,g7⟩;rw[g8.out];go_wp2_with fail
   go_ret2
   exact Zf3 HE.out HF.out (Zkk _ _) (g0.trans (g7.mono g0.size))
 .
  have HE:Hid (Zd1 xs ys=1):=by unfold Zd1;rw[if_neg (fun hh=>hr hh.1)];rfl
  have HF:Hid (Zex xs ys=[]):=by unfold Zex;rw[if_neg (fun hh=>hr hh.1)];rfl
  have g2:Zew xs=false:=by simpa using hr
  have HR:=Hd g2;clear hr g2
  go_enter func150,ntmps150
  go_wp2_with fail;refine(Zco _ _ xs _ HA.out (by omega)).mono ?_;rintro e w1 ⟨rfl,g0⟩;rw[HR.out];go_wp2_with fail
  go_ret2
  exact Zf3 HE.out HF.out (Zkk _ _) g0
end Go.Proofs.YteohpagjkaaboaaGreat
namespace Go.Proofs
open Go.Shelf
def Tryz.lays112_ren : Go.Shelf.Ren:=⟨fun | 112=>163 | n=>n, fun | 28=>22 | 3=>3 | 4=>4 | 0=>0 | n=>n, fun | n=>n⟩
theorem Tryz.lays112 : Go.Proofs.Lays.n112 Tryz.prog Tryz.lays112_ren:={
 mixed:=by kernel_rfl
 f112:=Tryz.func163.trans (congrArg some (by kernel_rfl))
 t0:=Tryz.underlying0
 a0:=Tryz.isAgg0
 z0:=Tryz.sizeOf0
 v0:=Tryz.zeroValue0
 t3:=Tryz.underlying3
 a3:=Tryz.isAgg3
 z3:=Tryz.sizeOf3
 v3:=Tryz.zeroValue3
 t4:=Tryz.underlying4
 a4:=Tryz.isAgg4
 z4:=Tryz.sizeOf4
 v4:=Tryz.zeroValue4
 t28:=Tryz.underlying22
 a28:=Tryz.isAgg22
 z28:=Tryz.sizeOf22
 v28:=Tryz.zeroValue22 }
theorem Tryz.slices_Reverse_int_cells (b off n c : Nat) (zs : List Int) (w : World) (hz : n ≤ zs.length) (hbig : n ≤ 9223372036854775807) (hc : ∀ j, j < zs.length → w.cell? ⟨b, off + j, none⟩ = some (.int .i64 (zs.getD j 0))) (hf : ∀ j, j < n → w.frozen? ⟨b, off + j, none⟩ = false) :
   Calls Tryz.prog 163 #[.slice (some ⟨b, off, none⟩) n c] w fun e w'=>e = .returned (.tuple #[]) ∧ ∃ q, w' = (w.drewN q).setCells b off ((zs.take n).reverse.map (Value.int .i64)):=Any.slices_Reverse_int_cells Tryz.lays112 b off n c zs w hz hbig hc hf
end Go.Proofs
namespace Go.Proofs.YteohpagjkaaboaaGreat
open Go.Proofs.Tryz
open Go.RowKit
theorem Zl2 {B g:Nat}{a:World}(hg:B<=g)(ys:List Value):∀ (w:World) (o:Nat),Below B a w->Below B a (w.setCells g o ys):=by
 induction ys with
 | nil=>intro w o h;exact h
 | cons y ys ih=>intro w o h;exact ih _ _ (h.setCell hg _)
theorem OwnI.setCells {base g n c:Nat}(ys:List Int):∀ (w:World) (o:Nat) (zs:List Int),OwnI w base (.slice (some ⟨g,0,none⟩) n c) zs->o+ys.length<=zs.length ->
 OwnI (w.setCells g o (Zbi ys)) base (.slice (some ⟨g,0,none⟩) n c) (zs.take o++ys++zs.drop (o+ys.length)):=by
 induction ys with
 | nil=>intro w o zs h _;simpa [Zbi,World.setCells] using h
 | cons y ys ih =>
   intro w o zs h hl;simp only[List.length_cons] at hl;have h1:=ih (w.setCell ⟨g,o,none⟩ (.int .i64 y)) (o+1) (zs.set o y) (h.stored o y) (by simp;omega);have e:(zs.set o y).take (o+1)++ys++(zs.set o y).drop (o+1+ys.length)=zs.take o++(y::ys)++zs.drop (o+(y::ys).length):=by
    have e1:(zs.set o y).take (o+1)=zs.take o++[y]:=by
     rw[List.set_eq_take_append_cons_drop,if_pos (by omega),List.take_append];simp;have:min o zs.length=o:=by omega
     rw[this];simp
     exact List.take_of_length_le (by simp;omega)
    have e2:(zs.set o y).drop (o+1+ys.length)=zs.drop (o+1+ys.length):=by
     rw[List.drop_set];rw[if_pos (by omega)]
    rw[e1,e2];simp[Nat.add_assoc,Nat.add_comm 1 ys.length]
   rw[e] at h1;exact h1
theorem Zp4 (a:Option Addr)(c:Nat)(zs:List Int)(w:World)(h:Zay w a zs)(hlen:zs.length<1000000) :
 Calls prog 151 #[.slice a zs.length c] w fun e w'=>∃ v,e=.returned v/\SliceIs w' v zs.reverse/\Below w.heap.size w w':=by
 have HI:=Hd h;clear h
 go_enter func151,ntmps151
 go_wp2_with fail;refine(Zoz _ _ zs _ HI.out hlen).mono ?_;rintro e w1 ⟨g,rfl,g0,g3⟩;have hg:w.heap.size<=g:=(g0.lt g rfl).1;go_wp2_with fail;refine(Tryz.slices_Reverse_int_cells g 0 zs.length zs.length zs w1 (Nat.le_refl _) (by omega) (fun j hj=>by rw[Nat.zero_add];exact g0.cell j hj) (fun j hj=>by rw[Nat.zero_add];exact g0.frozen j)).mono ?_;rintro e w2 ⟨rfl,q,g1⟩;have h2:=OwnI.setCells zs.reverse (w1.drewN q) 0 zs (g0.drewN q) (by simp);have e:zs.drop (0+zs.reverse.length)=[]:=List.drop_of_length_le (by simp);rw[e,List.take_zero,List.nil_append,List.append_nil] at h2;have g2:Below w.heap.size w ((w1.drewN q).setCells g 0 (Zbi zs.reverse)):=Zl2 hg _ _ _ (Zak g3 _);rw[List.take_length] at g1
 change w2=(w1.drewN q).setCells g 0 (Zbi zs.reverse) at g1
 rw[<- g1] at h2 g2;clear g1;go_wp2_with fail;go_ret;exact⟨_,rfl,h2.sliceIs (by simp;omega),g2⟩
open Go.RowKit
abbrev KF:Law:=fun _ _ _ _ _ _ _=>False
section
variable {K:Law}{n:Nat}{Od:List Nat->Prop}{room:Nat}{w0 w w':World}{mb:Nat}{fs:List (Int×BF)}{nx:Int}{o o':Own}{m m':ManD}{V V':Nat->BF}
theorem SatE.full (h:SatE KF n Od room w0 mb fs nx w o m V):SatE K n Od room w0 mb fs nx w o m V:=by
 obtain⟨s,hs⟩:=h.is;exact⟨⟨s,hs.mono fun _ _ _ _ _ e=>e.elim⟩,h.lt,h.ok,h.vars,h.od,h.room,h.next,h.hs,h.chg⟩
theorem SatE.cleared {s:ManW}{w1:World}(h:SatE K n Od room w0 mb fs nx w o m V)(g1:Zca (fun _ _ _ _ _=>False) o w1 mb m s)(g2:Chg (· = .entries) o o w w1)(g3:Zaj o w1):SatE KF n Od room w0 mb fs nx w1 o m V :=
 ⟨⟨s,g1⟩,g3,h.ok,h.vars,h.od,h.room,h.next,h.hs,h.chg.lower (ChgX.of_chg g2.any NoB) (fun _ e=>e.elim)⟩
structure HapS (n room:Nat)(w0:World)(mb:Nat)(fs:List (Int×BF))(nx:Int)(o:Own)(w:World)(m:ManD)(o':Own)(w':World)(m':ManD)(V':Nat->BF):Prop where
 sat:SatE KF n (fun _=>True) room w0 mb fs nx w' o' m' V'
 waits:m'.waits=m.waits
 calls:m'.calls=m.calls
 chg:Chg (fun _=>True) o o' w w'
 many:m'.d.pool.many<=m.d.pool.many\/m'.d.pool.many<=fs.length*2^n
theorem HapS.trans {o'':Own}{w'':World}{m'':ManD}{V'':Nat->BF}(h:HapS n room w0 mb fs nx o w m o' w' m' V')(h':HapS n room w0 mb fs nx o' w' m' o'' w'' m'' V''):HapS n room w0 mb fs nx o w m o'' w'' m'' V'' :=
 ⟨h'.sat,h'.waits.trans h.waits,h'.calls.trans h.calls,h.chg.trans h'.chg,by
  rcases h'.many with h1|h1
  . exact h.many.imp (fun h2=>Nat.le_trans h1 h2) (fun h2=>Nat.le_trans h1 h2)
  . exact .inr h1⟩
theorem Zwm {s:ManW}(h:SatE KF n (fun _=>True) room w0 mb fs nx w o m V)(hs:Zca (fun _ _ _ _ _=>False) o w mb m s)(hn:nx<=549755813888)(z:Int) :
 Calls prog 118 #[.pointer (some ⟨s.sb,0,none⟩),.int .i64 z] w fun e w'=>∃ q:Int,e=.returned (.int .i64 q)/\∃ o' m' V',HapS n room w0 mb fs nx o w m o' w' m' V':=by
 by_cases hz:z<0\/(n:Int)-1<=z
 . refine(Zok hs.store h.ok.store.small z (by rw[h.vars];exact hz)).mono ?_;rintro e w' ⟨rfl,rfl⟩;exact⟨2,rfl,o,m,V,h,rfl,rfl,Chg.refl _ _ _,.inl (Nat.le_refl _)⟩
 .
  obtain⟨k,rfl⟩:∃ k:Nat,z=k:=⟨z.toNat,by omega⟩;refine(Zx6 h hs (Chg.refl _ _ _) h.lt (by omega) hn).mono ?_;rintro e w' ⟨o',m',V',hm⟩;obtain⟨d0,cr,hw⟩:=hm.way;rcases hw with ⟨e1,e2,_⟩|⟨e1,so⟩
  . exact⟨7,e1,o',m',V',hm.sat,hm.waits,hm.calls,hm.chg,.inr (hm.sat.few (by rw[e2];exact cr.dead))⟩
  . exact⟨0,e1,o',m',V',hm.sat,hm.waits,hm.calls,hm.chg,.inr (hm.sat.few so.dead)⟩
theorem Ztr {s:ManW}(h:SatE KF n (fun _=>True) room w0 mb fs nx w o m V)(hs:Zca (fun _ _ _ _ _=>False) o w mb m s) :
 Calls prog 137 #[.pointer (some ⟨s.sb,0,none⟩)] w fun e w'=>∃ q:Int,e=.returned (.int .i64 q)/\∃ o' m' V',HapS n room w0 mb fs nx o w m o' w' m' V':=by
 refine(Zhy hs.store h.lt h.ok.store).mono ?_;rintro e w' ⟨rfl,o',d',st,lt,cr,ch⟩;have g0:SatE KF n (fun _=>True) room w0 mb fs nx w' o' { m with d:=d' } V:=⟨⟨s,hs.setStore h.lt st ch⟩,lt,⟨cr.ok h.ok.store,Zgk h.ok.handles h.ok.store cr⟩,by dsimp only;rw[cr.vars];exact h.vars,trivial,by dsimp only;rw[cr.room];exact h.room,h.next,h.hs,h.chg.lower (ChgX.of_chg ch.any NoB) (fun _ e=>e.elim)⟩;exact⟨_,rfl,o',{ m with d:=d' },V,g0,rfl,rfl,ch.any,.inr (g0.few cr.dead)⟩
theorem Zrp {base:Nat}{v:Value}{zs:List Int}(h:OwnI w base v zs):zs.length<=9223372036854775807:=by
 rcases h.2 with ⟨_,h0⟩|⟨g,cap,cur,_,_,_,h1,h2,_⟩
 . omega
 . unfold maxLen at h2;omega
theorem Zay.chg {R:Role->Prop}{a:Option Addr}{zs:List Int}(h:Zay w a zs)(hc:Chg R o o' w w')(hn:∀ x,a=some x->o x.block=none):Zay w' a zs :=
 ⟨h.len,fun k hk=>by
  obtain⟨b,off,rfl,hc1⟩:=h.cells k hk;exact⟨b,off,rfl,hc.cell (p:=⟨b,off+k,none⟩) hc1 (hn ⟨b,off,none⟩ rfl)⟩⟩
theorem Zfl (hn:nx<=549755813888)(ev:Ev):HapG K n (fun _=>True) room w0 mb fs nx ev:=by
 intro o W m V h;obtain⟨P,hP⟩:∃ P:Ending->World->Prop,P=fun x w'=>x=.returned (.tuple #[]) /\
  ∃ o' m' V',SatE K n (fun _=>True) room w0 mb fs nx w' o' m' V'/\m'.waits=m.waits/\m'.calls=m.calls/\(m'.d.pool.many<=m.d.pool.many\/m'.d.pool.many<=fs.length*2^n)/\ChgX NoB o o' W w':=⟨_,rfl⟩
 rw[<- hP];obtain⟨W1,g7⟩:∃ W1,W1=W.alloc (.cells #[.int .i64 ev.after,.int .i64 ev.kind,.int .i64 ev.level] 52):=⟨_,rfl⟩;have gg:Below W.heap.size W W1:=by rw[g7];exact Zad W _
 obtain⟨bx,g0⟩:∃ q,q=W.heap.size:=⟨_,rfl⟩;have gz:Hid (Box o W1 bx (.cells #[.int .i64 ev.after,.int .i64 ev.kind,.int .i64 ev.level] 52 (0,0))):=Hd ⟨by rw[g7,g0];exact heap_alloc_new W _,h.lt.none (by rw[g0];exact Nat.le_refl _)⟩;have h1:=h.below gg
 have HP:Hid (∀ o' w' m' V',HapS n room w0 mb fs nx o W1 m o' w' m' V'->P (.returned (.tuple #[])) w'):=Hd (by
  intro o' w' m' V' hh;rw[hP];exact⟨rfl,o',m',V',hh.sat.full,hh.waits,hh.calls,hh.many,(ChgX.of_below gg o NoB).trans (ChgX.of_chg hh.chg NoB) (fun _ _ e=>e)⟩)
 obtain⟨s,hs⟩:=h1.is;obtain⟨c0,c1,c2,c3,c4,c5,f0⟩:=cells6 hs.blk;have gy:=Hd (wclear h1 hs (fun _ _ _ _ _=>False));have H1:=Hd h1;obtain⟨kd,gq⟩:∃ z,z=ev.kind:=⟨_,rfl⟩;obtain⟨lv,go⟩:∃ z,z=ev.level:=⟨_,rfl⟩;obtain⟨af,gu⟩:∃ z,z=ev.after:=⟨_,rfl⟩;have HN:=Hd hn;unfold evA;rw[<- gq,<- go,<- gu] at gz g7 ⊢;have HW:=Hd g7;have HX:=Hd g0;clear h h1 hs hP gg g0 gq go gu hn g7
 go_enter func121,ntmps121
 go_upto_region 1 with fail;rw[<- HW.out,<- HX.out];go_wp2_with fail;refine gy.out.mono ?_;rintro x w1 ⟨rfl,g1,g2,g3⟩;have g4:=Hd (H1.out.cleared g1 g2 g3);have HB2:=Hd (gz.out.chg g2);have HG:=Hd g1;have gj:Hid (Chg (fun _=>True) o o W1 w1):=Hd g2.any;have b1:w1.cell? ⟨bx,1,none⟩=some (.int .i64 kd):=HB2.out.cell 1;have b2:w1.cell? ⟨bx,2,none⟩=some (.int .i64 lv):=HB2.out.cell 2;clear c0 c1 c2 c3 c4 c5 f0 gy g1 g2 g3;obtain⟨c0,c1,c2,c3,c4,c5,f0⟩:=cells6 HG.out.blk
 by_cases k1:kd=1
 . subst k1;have HC:=Hd (Ztr g4.out HG.out);go_wp2_with fail;refine HC.out.mono ?_;rintro x w2 ⟨q,rfl,o',m',V',hh⟩;have HF:=Hd (HP.out o' w2 m' V' ⟨hh.sat,hh.waits,hh.calls,gj.out.trans hh.chg,hh.many⟩);clear hh;go_wp2_with fail;refine bodyPost_end (results_none rfl _ _ _) rfl ?_;exact HF.out
 .
  have e1:(kd == 1)=false:=by simp[k1]
  by_cases k2:kd=2
  .
   subst k2;clear k1 e1;have HC:=Hd (Zwm (g4.out.below (Zaf w1 1)) (HG.out.below g4.out.lt (Zaf w1 1)) HN.out lv);go_upto_region 13 with fail;refine Zap (fun W:World=>W=w1.drew) true 6 [(0,false),(1,false),(2,false),(3,false),(4,false),(5,false),(6,true)] (by kernel_rfl) (by kernel_rfl) rfl ?_;simp only[planned,Zde]
   iterate 6
    refine Zaq rfl ?_;apply Exists.intro;refine⟨fun w' hw=>?_,?_⟩
    . subst hw;go_simp;rfl
    simp only[Zai]
   refine Zdq rfl (by go_simp) (HC.out.mono (R':=fun e w'=>∃ v,e=.returned v/\∃ o' m' V',HapS n room w0 mb fs nx o w1.drew m o' w' m' V') (fun e w' h=>by obtain⟨q,e1,h2⟩:=h;exact⟨_,e1,h2⟩)) ?_;rintro v w2 ⟨o',m',V',hh⟩;simp only[Zai];refine Zbw ?_;have HF:=Hd (HP.out o' w2 m' V' ⟨hh.sat,hh.waits,hh.calls,gj.out.trans ((Chg.of_below (Zaf w1 1) _ _).trans hh.chg),hh.many⟩);clear hh;go_wp2_with fail;refine bodyPost_end (results_none rfl _ _ _) rfl ?_;exact HF.out
  .
   have e2:(kd == 2)=false:=by simp[k2]
   clear k1 k2;have gb:m.d.vars.length<=64:=g4.out.ok.store.small;have HO:=Hd (Zhs HG.out.store g4.out.lt gb);go_wp2_with fail;refine HO.out.mono ?_;rintro x w2 ⟨v,rfl,g8,gt⟩;obtain⟨zs,ga⟩:∃ zs,zs=m.d.vars.map Int.ofNat:=⟨_,rfl⟩;have gA:zs.length<=64:=by rw[ga,List.length_map];exact gb
   rw[<- ga] at g8;obtain⟨a,c,rfl,ha,gn⟩:=g8.sliceIs (by omega);have HT:=Hd (Zp4 a c zs w2 ha (by omega));have gD:Hid (SliceIs w2 (.slice a zs.length c) zs):=Hd ⟨a,c,rfl,ha,gn⟩;have g9:=Hd gt;have gI:=Hd gA;clear g8 gt ga ha gn gb c0 c1 c2 c3 c4 c5 f0 b1 b2 HO;go_wp2_with fail;refine HT.out.mono ?_;rintro x w3 ⟨vt,rfl,gB,gf⟩;obtain⟨at',ct',gl,q1,q2⟩:=gB;rw[List.length_reverse] at gl;subst gl;have gv:=Hd (Zn3 (.slice a zs.length c) (.slice at' zs.length ct') zs zs.reverse w3 (gD.out.below gf) ⟨at',ct',by rw[List.length_reverse],q1,q2⟩ (by omega) (by simp;omega));have gk:=Hd gf;clear gf HT q1 q2;go_wp2_with fail;refine gv.out.mono ?_;rintro x w4 ⟨vr,rfl,g6,gs⟩;obtain⟨rs,gm⟩:∃ rs,rs=Zex zs zs.reverse:=⟨_,rfl⟩;obtain⟨er,gr⟩:∃ z,z=Zd1 zs zs.reverse:=⟨_,rfl⟩;rw[<- gm] at g6;rw[<- gr];have g0:Below w1.heap.size w1 w4:=g9.out.trans ((gk.out.trans (gs.mono gk.out.size)).mono g9.out.size);have gd:=g6.lt;have gC:rs.length<=9223372036854775807:=Zrp g6;obtain⟨ar,cr,rfl,hi,_⟩:=g6.sliceIs gC
   have gi:Hid (∃ o' m' V',HapS n room w0 mb fs nx o w1 m o' w4 m' V'/\Zay w4 ar rs/\(∀ x,ar=some x->o' x.block=none)):=Hd ⟨o,m,V,(⟨g4.out.below g0,rfl,rfl,Chg.of_below g0 _ _,.inl (Nat.le_refl _)⟩:HapS n room w0 mb fs nx o w1 m o w4 m V),hi,fun x hx=>by
    subst hx;refine g4.out.lt.none ?_;have h1:=(gd _ rfl).1;have h2:=g9.out.size;have h3:=gk.out.size;omega⟩
   clear gr gm g6 gs g0 gd hi gv;go_wp2_with fail
   go_loopw [30] (fun s30 wr=>∃ j:Nat,j<=rs.length/\s30=.int .i64 j/\Hid (∃ o' m' V',HapS n room w0 mb fs nx o w1 m o' wr m' V'/\Zay wr ar rs/\(∀ x,ar=some x->o' x.block=none))) (fun s30 _=>rs.length-(intOf s30).toNat)
   case atStart=>exact⟨0,Nat.zero_le _,rfl,gi⟩
   case round =>
    obtain⟨j,hj,rfl,HH⟩:=hrel;obtain⟨oj,mj,Vj,hh,hi,gc⟩:=HH.out
    by_cases gp:j<rs.length
    .
     obtain⟨b,off,rfl,g5⟩:=hi.cells j gp;obtain⟨s',hs'⟩:=hh.sat.is;obtain⟨c0,c1,c2,c3,c4,c5,f0⟩:=cells6 hs'.blk;have gH:(j:Int)<rs.length:=by omega
     obtain⟨z,hz⟩:∃ z,z=at0 rs j:=⟨_,rfl⟩;rw[<- hz] at g5;have HC:=Hd (Zwm hh.sat hs' HN.out z);have gF:=Hd hh;have gE:=Hd hi;have gw:=Hd gc;have ge:b<wr.heap.size:=Zab g5;have gG:=Hd ge;have gx:=Hd gp;clear hh hi gc hs' HH gi hz ge;go_wp2_with fail;refine HC.out.mono ?_;rintro x w5 ⟨q,rfl,o5,m5,V5,h5⟩;have gh:=Hd (And.intro (gF.out.trans h5) (And.intro (gE.out.chg h5.chg gw.out) (fun x (hx:some _=some x)=>h5.chg.alien' (by cases hx;exact gG.out) (gw.out x hx))));clear h5 c0 c1 c2 c3 c4 c5 f0 g5;go_wp2_with fail;go_roundw
     case rel=>exact⟨j+1,Nat.succ_le_of_lt gx.out,by go_num,Hd ⟨_,_,_,gh.out.1,gh.out.2.1,gh.out.2.2⟩⟩
     case measure =>
      have:=gx.out;simp[intOf];omega
    .
     obtain rfl:j=rs.length:=by omega
     have HF:=Hd (HP.out oj wr mj Vj ⟨hh.sat,hh.waits,hh.calls,gj.out.trans hh.chg,hh.many⟩);clear hh hi gc HH gi;go_wp2_with fail;refine bodyPost_end (results_none rfl _ _ _) rfl ?_;exact HF.out
end
open Go.RowKit
section
variable {K:Law}{n:Nat}{Od:List Nat->Prop}{room:Nat}{w0 w w':World}{mb:Nat}{fs:List (Int×BF)}{nx:Int}{o o':Own}{m m':ManD}{V V':Nat->BF}
structure NewH (K:Law)(n:Nat)(Od:List Nat->Prop)(room:Nat)(w0:World)(mb:Nat)(fs:List (Int×BF))(nx:Int)(o:Own)(w:World)(m:ManD)(V:Nat->BF)(F:BF)(o':Own)(w':World)(m':ManD):Prop where
 sat:SatE K n Od room w0 mb (fs++[(nx,F)]) (nx+1) w' o' m' V
 waits:m'.waits=m.waits
 calls:m'.calls=m.calls
 nodes:Zaa m'.d=Zaa m.d
 vars:m'.d.vars=m.d.vars
 many:m'.d.pool.many=m.d.pool.many
 chg:Chg (fun _=>True) o o' w w'
theorem Zrh (hK:Zb4 K)(h:SatE K n Od room w0 mb fs nx w o m V)(hn:nx<549755813888){k:Int}{F:BF}(hk:(k,F)∈fs) :
 Calls prog 73 #[.pointer (some ⟨mb,0,none⟩),.int .i64 k] w fun x w'=>x=.returned (.tuple #[.int .i64 nx,.int .i64 0])/\∃ o' m',NewH K n Od room w0 mb fs nx o w m V F o' w' m':=by
 obtain⟨f,hf,rfl⟩:=h.find hk;obtain⟨s,hs⟩:=h.is;obtain⟨c0,c1,c2,c3,c4,c5,f0⟩:=cells6 hs.blk;have hl:=Ze7 hs h.ok.handles.nodup hf;have hnx:=h.next
 have HG:=Hd (Znr hK h.is h.lt h.ok f (h.ok.handles.ok _ hf) (by rw[hnx];omega));have H:=Hd h;rw[hnx] at HG;clear hs h hf hk hnx
 go_enter func73,ntmps73
 go_wp2_with fail;refine HG.out.mono ?_;rintro x w1 ⟨rfl,o',m',hg⟩;have HQ:Hid (NewH K n Od room w0 mb fs nx o w m V (ef V f) o' w1 m'):=Hd ⟨H.out.gave hg,hg.waits,hg.calls,hg.nodes,hg.vars,hg.many,hg.chg⟩;clear hg;go_wp2_with fail
 go_ret2
 exact⟨rfl,_,_,HQ.out⟩
theorem Ycn {N:Nat->Option BN}{e:Nat}(h:okE N e):okE N (enot e):=by
 unfold okE at h ⊢;rw[Zfk];exact h
theorem Zt3 (hK:Zb4 K)(h:SatE K n Od room w0 mb fs nx w o m V)(hn:nx<549755813888){k:Int}{F:BF}(hk:(k,F)∈fs) :
 Calls prog 76 #[.pointer (some ⟨mb,0,none⟩),.int .i64 k] w fun x w'=>x=.returned (.tuple #[.int .i64 nx,.int .i64 0])/\∃ o' m',NewH K n Od room w0 mb fs nx o w m V (fun ρ => !F ρ) o' w' m':=by
 obtain⟨f,hf,rfl⟩:=h.find hk;obtain⟨s,hs⟩:=h.is;obtain⟨c0,c1,c2,c3,c4,c5,f0⟩:=cells6 hs.blk;have hl:=Ze7 hs h.ok.handles.nodup hf;have hnx:=h.next
 have g0:=h.ok.handles.ok _ hf;have g1:f<eMax:=by
  obtain⟨s2,h2⟩:=hs.store;have:=h2.edge_lt g0;unfold eMax;omega
 have HG:=Hd (Znr hK h.is h.lt h.ok (enot f) (Ycn g0) (by rw[hnx];omega));have g2:=Hd (Zny f w g1);have H:=Hd h;rw[hnx] at HG;clear hs h hf hk hnx g0 g1
 go_enter func76,ntmps76
 go_wp2_with fail;refine g2.out.mono ?_;rintro x w1 ⟨rfl,rfl⟩;go_wp2_with fail;refine HG.out.mono ?_;rintro x w1 ⟨rfl,o',m',hg⟩
 have HQ:Hid (NewH K n Od room w0 mb fs nx o w m V (fun ρ => !ef V f ρ) o' w1 m'):=Hd (by
  have e:(fun ρ => !ef V f ρ)=ef V (enot f):=by funext ρ;rw[Zh1]
  rw[e];exact⟨H.out.gave hg,hg.waits,hg.calls,hg.nodes,hg.vars,hg.many,hg.chg⟩)
 clear hg;go_wp2_with fail
 go_ret2
 exact⟨rfl,_,_,HQ.out⟩
theorem SatE.nofind (h:SatE K n Od room w0 mb fs nx w o m V){k:Int}(hk:∀ p∈fs,p.1≠k):∀ f,(k,f)∉m.hs:=by
 intro f hf;refine hk (k,ef V f) ?_ rfl;rw[<- h.hs];exact List.mem_map.2 ⟨(k,f),hf,rfl⟩
theorem Zlb (h:SatE K n Od room w0 mb fs nx w o m V){k:Int}{F:BF}(hk:(k,F)∈fs) :
 Calls prog 13 #[.pointer (some ⟨mb,0,none⟩),.int .i64 k] w fun x w'=>x=.returned (.bool true)/\w=w':=by
 obtain⟨f,hf,rfl⟩:=h.find hk;obtain⟨s,hs⟩:=h.is;obtain⟨c0,c1,c2,c3,c4,c5,f0⟩:=cells6 hs.blk;have hl:=Ze7 hs h.ok.handles.nodup hf;clear hs h hf hk
 go_enter func13,ntmps13
 go_wp2_with fail;go_ret;exact⟨rfl,rfl⟩
theorem Zzj (h:SatE K n Od room w0 mb fs nx w o m V){k:Int}(hk:∀ p∈fs,p.1≠k) :
 Calls prog 13 #[.pointer (some ⟨mb,0,none⟩),.int .i64 k] w fun x w'=>x=.returned (.bool false)/\w=w':=by
 have g0:=h.nofind hk;obtain⟨s,hs⟩:=h.is;obtain⟨c0,c1,c2,c3,c4,c5,f0⟩:=cells6 hs.blk;have hl:=Yci hs g0;clear hs h g0 hk
 go_enter func13,ntmps13
 go_wp2_with fail;go_ret;exact⟨rfl,rfl⟩
end
open Go.RowKit
def delK {α:Type}(k:Int)(l:List (Int×α)):List (Int×α):=l.filter fun p=>decide (p.1≠k)
theorem Zk3 {α:Type}{k:Int}{l:List (Int×α)}(h:∀ p∈l,p.1≠k):delK k l=l:=by
 unfold delK;rw[List.filter_eq_self];intro p hp;simp[h p hp]
theorem Zf1 {α:Type}{x:Int×α}{l:List (Int×α)}(h:((x::l).map Prod.fst).Nodup):∀ p∈l,p.1≠x.1:=by
 intro p hp e;rw[List.map_cons,List.nodup_cons] at h;exact h.1 (List.mem_map.2 ⟨p,hp,e⟩)
theorem Zjp {α:Type}{x:Int×α}{l:List (Int×α)}(h:((x::l).map Prod.fst).Nodup):delK x.1 (x::l)=l:=by
 have h1:=Zk3 (Zf1 h);unfold delK at h1 ⊢;rw[List.filter_cons_of_neg (by simp),h1]
theorem Zjq {α:Type}{k:Int}{x:Int×α}{l:List (Int×α)}(h:x.1≠k):delK k (x::l)=x::delK k l:=by
 unfold delK;rw[List.filter_cons_of_pos (by simp[h])]
theorem Zik {α:Type}{k:Int}:∀ (l:List (Int×α)) (j:Nat) (hj:j<l.length),(l.map Prod.fst).Nodup->l[j].1=k->l.eraseIdx j=delK k l
 | x::l,0,_,hn,hk=>by
   have e:x.1=k:=hk;subst e;rw[Zjp hn];rfl
 | x::l,j+1,hj,hn,hk=>by
   have hj':j<l.length:=by simpa using hj
   have g0:l[j].1=k:=by simpa using hk
   have hx:x.1≠k:=by
    intro e;exact Zf1 hn l[j] (List.getElem_mem hj') (g0.trans e.symm)
   have g1:(l.map Prod.fst).Nodup:=by rw[List.map_cons,List.nodup_cons] at hn;exact hn.2
   rw[Zjq hx,List.eraseIdx_cons_succ,Zik l j hj' g1 g0]
theorem Zsa {α β:Type}(k:Int)(l:List (Int×α))(g:Int×α->Int×β)(hg:∀ p,(g p).1=p.1):(delK k l).map g=delK k (l.map g):=by
 unfold delK;rw[List.filter_map];congr 1;refine List.filter_congr fun p _=>?_
 simp[hg]
theorem Ybv {k:Int}{l:List (Int×Value)}(hn:(l.map Prod.fst).Nodup){v:Value}(hk:(k,v)∈l):delL k l=delK k l:=by
 unfold delL;cases e:Zdd k l 0 with
 | none =>
   have h1:=Zdm hn hk;unfold getL at h1;rw[e] at h1;cases h1
 | some p =>
   obtain⟨j,u⟩:=p;have h2:=Zc8 e;obtain⟨q,h3,h4⟩:=h2;have hq:j=q:=by omega
   subst hq;obtain⟨h5,h6⟩:=List.getElem?_eq_some_iff.1 h4;exact Zik l j h5 hn (by rw[h6])
theorem Zkh {α:Type}{k:Int}{l:List (Int×α)}{p:Int×α}:p∈delK k l↔p∈l/\p.1≠k:=by
 unfold delK;rw[List.mem_filter];simp
theorem Zss {k:Int}{f:Nat}(h1:1<k):∀ (hs:List (Int×Nat)),(hs.map Prod.fst).Nodup->(k,f)∈hs->∀ i,Zcb hs i=Zcb (delK k hs) i+(if f/2=i then 1 else 0)
 | [],_,h,_=>by cases h
 | x::l,hn,hm,i=>by
   have hn':(l.map Prod.fst).Nodup:=by rw[List.map_cons,List.nodup_cons] at hn;exact hn.2
   by_cases e:x.1=k
   .
    have hx:x=(k,f):=by
     rcases List.mem_cons.1 hm with h|h
     . exact h.symm
     . exact((Zf1 hn _ h) e.symm).elim
    subst hx;rw[Zjp hn];unfold Zcb
    by_cases e2:f/2=i
    . rw[List.filter_cons_of_pos (by simp[h1,e2]),List.length_cons,if_pos e2]
    . rw[List.filter_cons_of_neg (by simp[e2]),if_neg e2];rfl
   .
    have g0:(k,f)∈l:=by
     rcases List.mem_cons.1 hm with h|h
     . rw[<- h] at e;exact(e rfl).elim
     . exact h
    have ih:=Zss h1 l hn' g0 i;rw[Zjq e];unfold Zcb at ih ⊢
    by_cases e3:(decide (1<x.1)&&x.2/2 == i)=true
    . rw[List.filter_cons_of_pos (p:=fun p:Int×Nat=>decide (1<p.1)&&p.2/2 == i) e3,List.filter_cons_of_pos (p:=fun p:Int×Nat=>decide (1<p.1)&&p.2/2 == i) e3,List.length_cons,List.length_cons];omega
    . rw[List.filter_cons_of_neg (p:=fun p:Int×Nat=>decide (1<p.1)&&p.2/2 == i) e3,List.filter_cons_of_neg (p:=fun p:Int×Nat=>decide (1<p.1)&&p.2/2 == i) e3];exact ih
theorem Zpg {m:ManD}{d':Zae}{k:Int}{f:Nat}(h:Zcf m)(r:Zga m.d d' f (-1))(hk:(k,f)∈m.hs)(h1:1<k)(h0:Zaa m.d 0=none):Zcf { m with d:=d',hs:=delK k m.hs }:=by
 have g1:∀ {p:Int×Nat},p∈delK k m.hs->p∈m.hs:=fun hp=>(Zkh.1 hp).1
 refine⟨?_,Zkh.2 ⟨h.zero,by dsimp only;omega⟩,Zkh.2 ⟨h.one,by dsimp only;omega⟩,fun p hp=>h.lt p (g1 hp),h.next,fun p hp=>?_,?_,fun i b hb=>?_⟩
 . exact h.nodup.sublist ((List.filter_sublist).map _)
 .
  show okE (Zaa d') p.2
  rw[r.nodes];exact h.ok p (g1 hp)
 .
  have h2:(delK k m.hs).length<=m.hs.length:=List.length_filter_le _ _;have h3:=h.len
  show ((delK k m.hs).length:Int)<=m.next
  omega
 .
  have g0:Zaa m.d i=some b:=by
   have:Zaa d' i=some b:=hb;rw[r.nodes] at this;exact this
  have hi:i≠0:=by rintro rfl;rw[h0] at g0;cases g0
  show Za1 d' i=(Zcb (delK k m.hs) i:Int)
  rw[r.ext i hi,h.refs i b g0,Zss h1 m.hs h.nodup hk i];unfold toE;split<;>(simp;try omega)
section
variable {K:Law}{n:Nat}{Od:List Nat->Prop}{room:Nat}{w0 w w':World}{mb:Nat}{fs:List (Int×BF)}{nx:Int}{o o':Own}{m m':ManD}{V V':Nat->BF}
theorem Zql {sb:Nat}(h:Zaw o w sb m.d)(hlt:Zaj o w)(hk:Ztc m V){k:Int}{f:Nat}(hf:(k,f)∈m.hs)(h1:1<k)(hn:m.next<549755813888) :
 Calls prog 119 #[.pointer (some ⟨sb,0,none⟩),.int .i64 f] w fun x w'=>x=.returned (.int .i64 0)/\∃ d',Zaw o w' sb d'/\Zaj o w'/\Zga m.d d' f (-1)/\Chg Zas o o w w':=by
 have g0:∀ y b,Zaa m.d y=some b->Za1 m.d y<1099511627776:=fun y b _=>by have:=Ya2 hk.handles y;omega
 have g1:=hk.handles.ok _ hf;obtain⟨s,h⟩:=h;have g2:=h.edge_lt g1;rcases g1 with h0|⟨b,hb⟩
 . refine(Zmc h hlt hk.store.live f (by unfold eMax;omega) h0).mono ?_;rintro e w' ⟨d',h1,h2,h3,h4,h5⟩;exact⟨h1,d',⟨s,h2⟩,h3,h4,h5⟩
 .
  have g4:=h.pool.top;have g3:=h.pool.room;refine(Zmb h hlt hk.store.live (Yay hk.store) f (b:=b) hb g0 ?_ (fun y c hc=>?_)).mono ?_
  . have h2:=hk.handles.refs (enode f) b hb;have h3:0<Zcb m.hs (f/2):=Zst hf h1;have h4:Za1 m.d (enode f)=(Zcb m.hs (f/2):Int):=h2;omega
  . have h1:=hk.store.live.cnt.le hc;have h2:=g0 y c hc;omega
  . rintro e w' ⟨d',h1,h2,h3,h4,h5⟩;exact⟨h1,d',⟨s,h2⟩,h3,h4,h5⟩
end
open Go.RowKit
def Zhk {α:Type}(l:List (Int×α))(ks:List Int):List (Int×α):=ks.foldl (fun l k=>if 1<k then delK k l else l) l
theorem Zmo {α:Type}{l:List (Int×α)}{ks:List Int}{j:Nat}(hj:j<ks.length):Zhk l (ks.take (j+1))=if 1<at0 ks j then delK (at0 ks j) (Zhk l (ks.take j)) else Zhk l (ks.take j):=by
 unfold Zhk;rw[List.take_succ_eq_append_getElem hj,List.foldl_append,Zcl hj];rfl
section
variable {K:Law}{n:Nat}{Od:List Nat->Prop}{room:Nat}{w0 w w':World}{mb:Nat}{fs:List (Int×BF)}{nx:Int}{o o':Own}{m m':ManD}{V V':Nat->BF}
structure Zj2 (K:Law)(n:Nat)(Od:List Nat->Prop)(room:Nat)(w0:World)(mb:Nat)(fs:List (Int×BF))(nx:Int)(o:Own)(w:World)(m:ManD)(V:Nat->BF)(o':Own)(w':World)(m':ManD):Prop where
 sat:SatE K n Od room w0 mb fs nx w' o' m' V
 waits:m'.waits=m.waits
 calls:m'.calls=m.calls
 nodes:Zaa m'.d=Zaa m.d
 many:m'.d.pool.many=m.d.pool.many
 chg:Chg (fun _=>True) o o' w w'
theorem Zj2.trans {fs' fs'':List (Int×BF)}{o'':Own}{w'':World}{m'':ManD}(h:Zj2 K n Od room w0 mb fs' nx o w m V o' w' m')(h':Zj2 K n Od room w0 mb fs'' nx o' w' m' V o'' w'' m''):Zj2 K n Od room w0 mb fs'' nx o w m V o'' w'' m'' :=
 ⟨h'.sat,h'.waits.trans h.waits,h'.calls.trans h.calls,h'.nodes.trans h.nodes,h'.many.trans h.many,h.chg.trans h'.chg⟩
theorem Zy0 (hK:Zb4 K)(h:SatE K n Od room w0 mb fs nx w o m V){k:Int}{f:Nat}(hf:(k,f)∈m.hs)(h1:1<k){s:ManW}(hs:Zca (K m.d V) o w mb m s){w1:World}{d':Zae}(hst:Zaw o w1 s.sb d')(hl1:Zaj o w1)(hr:Zga m.d d' f (-1))(hc1:Chg Zas o o w w1) :
 Zca (K m.d V) o w1 mb { m with d:=d' } s/\∃ w2,(Builtin.delete_ #[83,3] 0 #[.map (some s.hb),.int .i64 k]).run prog w1=.ok (.tuple #[]) w2/\Zj2 K n Od room w0 mb (delK k fs) nx o w m V o w2 { m with d:=d',hs:=delK k m.hs }:=by
 have g0:=hs.setStore h.lt hst hc1;refine⟨g0,?_⟩;obtain⟨w2,g3,g5,g1⟩:=g0.map.delete kI underlying83 k 0;refine⟨w2,g3,?_⟩;have he:delL k (encH m.hs)=encH (delK k m.hs):=by
  rw[Ybv (Zeq h.ok.handles.nodup) (v:=.int .i64 (f:Nat)) (List.mem_map.2 ⟨(k,f),hf,rfl⟩)];exact(Zsa k m.hs (fun p=>(p.1,Value.int .i64 (p.2:Nat))) (fun _=>rfl)).symm
 have g4:Zci w2 s.hb (Value.int .i64) (encH (delK k m.hs)):=by rw[<- he];exact g5
 have g7:=g0.setMap hl1 g4 g1;have g6:Zaj o w2:=hl1.mono g1.size;have g2:Chg (fun _=>True) o o w w2:=hc1.any.grown g1 (fun g hg=>by cases hg;exact⟨_,g0.ownh,trivial⟩);refine⟨⟨⟨s,g7.mono fun op a b c r q=>hK.same _ _ _ _ _ _ _ _ hr.vars hr.level hr.nodes q⟩,g6,⟨hr.ok h.ok.store,Zpg h.ok.handles hr hf h1 h.ok.store.dag.none0⟩,?_,?_,?_,h.next,?_,h.chg.lower (ChgX.of_chg g2 NoB) (fun _ e=>e.elim)⟩,rfl,rfl,hr.nodes,hr.many,g2⟩
 .
  show d'.vars.length=n
  rw[hr.vars];exact h.vars
 .
  show Od d'.vars
  rw[hr.vars];exact h.od
 .
  show d'.pool.room=room
  rw[hr.room];exact h.room
 .
  show (delK k m.hs).map (fun p=>(p.1,ef V p.2))=delK k fs
  rw[Zsa k m.hs (fun p=>(p.1,ef V p.2)) (fun _=>rfl),h.hs]
theorem Zri (hK:Zb4 K)(h:SatE K n Od room w0 mb fs nx w o m V)(hn:nx<549755813888){a:Option Addr}{c:Nat}{ks:List Int}(hks:Zay w a ks)(hno:∀ x,a=some x->o x.block=none)
 (hin:∀ j,j<ks.length->∃ F,(at0 ks j,F)∈Zhk fs (ks.take j)) :
 Calls prog 77 #[.pointer (some ⟨mb,0,none⟩),.slice a ks.length c] w fun x w'=>x=.returned (.int .i64 0)/\∃ o' m',Zj2 K n Od room w0 mb (Zhk fs ks) nx o w m V o' w' m':=by
 have gj:=hks.len;have g5:Hid (∃ o' m',Zj2 K n Od room w0 mb (Zhk fs (ks.take 0)) nx o w m V o' w m'/\Zay w a ks/\(∀ x,a=some x->o' x.block=none)):=Hd ⟨o,m,⟨h,rfl,rfl,rfl,rfl,Chg.refl _ _ _⟩,hks,hno⟩;have gg:=Hd hin;have HN:=Hd hn;have gf:=Hd hK;clear h hn hks hno hin hK
 go_enter func77,ntmps77
 go_wp2_with fail
 go_loopw [13] (fun s13 wr=>∃ j:Nat,j<=ks.length/\s13=.int .i64 j/\Hid (∃ o' m',Zj2 K n Od room w0 mb (Zhk fs (ks.take j)) nx o w m V o' wr m'/\Zay wr a ks/\(∀ x,a=some x->o' x.block=none))) (fun s13 _=>ks.length-(intOf s13).toNat)
 case atStart=>exact⟨0,Nat.zero_le _,rfl,g5⟩
 case round =>
  obtain⟨j,hj,rfl,HH⟩:=hrel;obtain⟨oj,mj,hh,hi,hno⟩:=HH.out
  by_cases g6:j<ks.length
  .
   obtain⟨b,off,rfl,g3⟩:=hi.cells j g6;obtain⟨s,hs⟩:=hh.sat.is;obtain⟨c0,c1,c2,c3,c4,c5,f0⟩:=cells6 hs.blk;have gk:(j:Int)<ks.length:=by omega
   obtain⟨z,hz⟩:∃ z,z=at0 ks j:=⟨_,rfl⟩;obtain⟨F,hF⟩:=gg.out j g6;rw[<- hz] at hF g3;obtain⟨f,hf,gb⟩:=hh.sat.find hF;have hl:=Ze7 hs hh.sat.ok.handles.nodup hf;have g8:=Hd hh;have ge:=Hd hi;have g7:=Hd hno;have gh:Hid (b<wr.heap.size):=Hd (Zab g3);have g2:=Hd g6;have HZ:=Hd hz;have HS:=Hd hs;have HF:=Hd hf
   by_cases h1:z>1
   .
    have HD:=Hd (Zql hs.store hh.sat.lt hh.sat.ok hf h1 (by rw[hh.sat.next];exact HN.out));have H1:=Hd h1;clear hh hi hno hs HH g5 hz hF hf gb;go_wp2_with fail;refine HD.out.mono ?_;rintro x w1 ⟨rfl,d',g9,ga,hr,gc⟩;obtain⟨gd,w2,gi,g4⟩:=Zy0 gf.out g8.out.sat HF.out H1.out HS.out g9 ga hr gc;obtain⟨e0,e1,e2,e3,e4,e5,g0⟩:=cells6 gd.blk
    have g1:Hid (Zj2 K n Od room w0 mb (Zhk fs (ks.take (j+1))) nx o w m V oj w2 { mj with d:=d',hs:=delK z mj.hs }/\Zay w2 (some ⟨b,off,none⟩) ks/\(∀ x,some (⟨b,off,none⟩:Addr)=some x->oj x.block=none)):=Hd ⟨by
     rw[Zmo g2.out,<- HZ.out,if_pos H1.out];exact g8.out.trans g4,ge.out.chg g4.chg g7.out,fun x hx=>g4.chg.alien' (by cases hx;exact gh.out) (g7.out x hx)⟩
    clear gd g9 ga hr gc g4 c0 c1 c2 c3 c4 c5 f0 g3 hl;go_wp2_with fail;go_roundw
    case rel=>exact⟨j+1,Nat.succ_le_of_lt g2.out,by go_num,Hd ⟨_,_,g1.out.1,g1.out.2.1,g1.out.2.2⟩⟩
    case measure =>
     have:=g2.out;simp[intOf];omega
   .
    have g1:Hid (Zj2 K n Od room w0 mb (Zhk fs (ks.take (j+1))) nx o w m V oj wr mj/\Zay wr (some ⟨b,off,none⟩) ks/\(∀ x,some (⟨b,off,none⟩:Addr)=some x->oj x.block=none)):=Hd ⟨by
     rw[Zmo g2.out,<- HZ.out,if_neg h1];exact g8.out,ge.out,g7.out⟩
    clear hh hi hno hs HH g5 hz hF hf gb;go_wp2_with fail;go_roundw
    case rel=>exact⟨j+1,Nat.succ_le_of_lt g2.out,by go_num,Hd ⟨_,_,g1.out.1,g1.out.2.1,g1.out.2.2⟩⟩
    case measure =>
     have:=g2.out;simp[intOf];omega
  .
   obtain rfl:j=ks.length:=by omega
   have HF:Hid (∃ o' m',Zj2 K n Od room w0 mb (Zhk fs ks) nx o w m V o' wr m'):=Hd ⟨oj,mj,by rw[List.take_length] at hh;exact hh⟩;clear hh hi hno HH g5;go_wp2_with fail;go_ret;exact⟨rfl,HF.out⟩
end
open Go.RowKit
section
variable {K:Law}{n:Nat}{Od:List Nat->Prop}{room:Nat}{w0 w w':World}{mb:Nat}{fs:List (Int×BF)}{nx:Int}{o o':Own}{m m':ManD}{V V':Nat->BF}
structure Swapped (K:Law)(n room:Nat)(w0:World)(mb:Nat)(fs:List (Int×BF))(nx:Int)(k:Nat)(o:Own)(w:World)(m:ManD)(o':Own)(w':World)(m':ManD)(V':Nat->BF):Prop where
 sat:SatE K n (fun l=>l=(Zeo m.d k).vars) room w0 mb fs nx w' o' m' V'
 waits:m'.waits=m.waits
 calls:m'.calls=m.calls
 dead:m'.d.dead=0
 chg:Chg (fun _=>True) o o' w w'
theorem Zt5 (h:SatE K n Od room w0 mb fs nx w o m V){k:Nat}(hk1:k+1<n)(hn:nx<=549755813888)(hr:3*(fs.length*2^n)<=room) :
 Calls prog 72 #[.pointer (some ⟨mb,0,none⟩),.int .i64 k] w fun e w'=>e=.returned (.int .i64 0)/\∃ o' m' V',Swapped K n room w0 mb fs nx k o w m o' w' m' V':=by
 refine(Zrm h hk1 hn).mono ?_;rintro e w' ⟨o',m',V',hm⟩;obtain⟨d0,cr,⟨rfl,e1,e2,g0⟩|⟨rfl,so⟩⟩:=hm.way
 . exfalso;have h1:=hm.sat.few (by rw[e1];exact cr.dead);have h2:=hm.sat.room;rw[e1] at h1 h2;omega
 . refine⟨rfl,o',m',V',⟨hm.sat.withOd ?_,hm.waits,hm.calls,so.dead,hm.chg⟩⟩;rw[so.vars];unfold Zeo;dsimp only;rw[cr.vars]
theorem Zlc (h:SatE K n Od room w0 mb fs nx w o m V){k l:Int}{F G:BF}(hk:(k,F)∈fs)(hl:(l,G)∈fs) :
 Calls prog 28 #[.pointer (some ⟨mb,0,none⟩),.int .i64 k,.int .i64 l] w fun x w'=>∃ b:Bool,x=.returned (.tuple #[.bool b,.int .i64 0])/\(b=true↔F=G)/\w=w':=by
 obtain⟨f,hf,rfl⟩:=h.find hk;obtain⟨g,hg,rfl⟩:=h.find hl;refine(Zz6 h.is h.ok.handles.nodup hf hg).mono ?_;rintro x w' ⟨rfl,rfl⟩;refine⟨_,rfl,?_,rfl⟩;rw[beq_iff_eq];exact⟨fun e=>by rw[e],fun e=>h.ok.store.dag.canon (h.ok.handles.ok _ hf) (h.ok.handles.ok _ hg) e⟩
end
open Go.RowKit
theorem Zpw {α:Type}{p:Int×α}:∀ {ks:List Int} {l:List (Int×α)},p∈l->p.1∉ks->p∈Zhk l ks
 | [],l,h,_=>h
 | k::ks,l,h,hn=>by
   show p∈Zhk (if 1<k then delK k l else l) ks
   simp only[List.mem_cons,not_or] at hn;refine Zpw ?_ hn.2;split
   . exact Zkh.2 ⟨h,hn.1⟩
   . exact h
theorem Zyx {α:Type}{l r:List (Int×α)}{p:Int×α}(h:((l++p::r).map Prod.fst).Nodup):delK p.1 (l++p::r)=l++r:=by
 rw[List.map_append,List.map_cons,List.nodup_append] at h;obtain⟨h1,h2,h3⟩:=h;have hl:∀ q∈l,q.1≠p.1:=fun q hq e=>h3 q.1 (List.mem_map.2 ⟨q,hq,rfl⟩) p.1 (List.mem_cons_self ..) e
 have hr:∀ q∈r,q.1≠p.1:=fun q hq e=>(List.nodup_cons.1 h2).1 (List.mem_map.2 ⟨q,hq,e⟩)
 have e1:delK p.1 (l++p::r)=delK p.1 l++delK p.1 r:=by
  unfold delK;rw[List.filter_append,List.filter_cons];simp
 rw[e1,Zk3 hl,Zk3 hr]
theorem Zo9 {α:Type}:∀ (hs l r:List (Int×α)),((l++(hs++r)).map Prod.fst).Nodup->(∀ p∈hs,1<p.1)->Zhk (l++(hs++r)) (hs.map Prod.fst)=l++r
 | [],l,r,_,_=>rfl
 | p::hs,l,r,hn,h1=>by
   show Zhk (if 1<p.1 then delK p.1 (l++(p::(hs++r))) else l++(p::(hs++r))) (hs.map Prod.fst)=_
   have hn':((l++p::(hs++r)).map Prod.fst).Nodup:=hn;rw[if_pos (h1 p (List.mem_cons_self ..)),Zyx hn'];refine Zo9 hs l r ?_ (fun q hq=>h1 q (List.mem_cons_of_mem _ hq));have:=hn;rw[List.map_append,List.nodup_append] at this ⊢;obtain⟨q1,q2,q3⟩:=this;exact⟨q1,(List.nodup_cons.1 q2).2,fun x hx y hy=>q3 x hx y (List.mem_cons_of_mem _ hy)⟩
section
variable {K:Law}{n:Nat}{Od:List Nat->Prop}{room:Nat}{w0 w w':World}{mb:Nat}{fs:List (Int×BF)}{nx:Int}{o o':Own}{m m':ManD}{V V':Nat->BF}
theorem SatE.fst (h:SatE K n Od room w0 mb fs nx w o m V):fs.map Prod.fst=m.hs.map Prod.fst:=by rw[<- h.hs,List.map_map];rfl
theorem SatE.nodup (h:SatE K n Od room w0 mb fs nx w o m V):(fs.map Prod.fst).Nodup:=by rw[h.fst];exact h.ok.handles.nodup
theorem SatE.range (h:SatE K n Od room w0 mb fs nx w o m V):∀ p∈fs,0<=p.1/\p.1<nx:=by
 intro p hp;rw[<- h.hs] at hp;obtain⟨q,hq,rfl⟩:=List.mem_map.1 hp;rw[<- h.next];exact h.ok.handles.lt q hq
structure B2 (fs:List (Int×BF)):Prop where
 zero:(0,fun _=>false)∈fs
 one:(1,fun _=>true)∈fs
theorem B2.app {fs:List (Int×BF)}(h:B2 fs)(hs:List (Int×BF)):B2 (fs++hs):=⟨List.mem_append_left _ h.zero,List.mem_append_left _ h.one⟩
theorem SatE.gt {hs:List (Int×BF)}(h:SatE K n Od room w0 mb (fs++hs) nx w o m V)(hb:B2 fs):∀ p∈hs,1<p.1:=by
 intro p hp;have h1:=(h.range p (List.mem_append_right _ hp)).1;have h2:=h.nodup;rw[List.map_append,List.nodup_append] at h2;have h3:=fun k hk=>h2.2.2 k hk p.1 (List.mem_map.2 ⟨p,hp,rfl⟩)
 have h4:=h3 0 (List.mem_map.2 ⟨_,hb.zero,rfl⟩);have h5:=h3 1 (List.mem_map.2 ⟨_,hb.one,rfl⟩);omega
theorem Zrj (hK:Zb4 K){hs r:List (Int×BF)}(h:SatE K n Od room w0 mb (fs++(hs++r)) nx w o m V)(hb:B2 fs)(hn:nx<549755813888){a:Option Addr}{c:Nat}(hks:Zay w a (hs.map Prod.fst))(hno:∀ x,a=some x->o x.block=none) :
 Calls prog 77 #[.pointer (some ⟨mb,0,none⟩),.slice a hs.length c] w fun x w'=>x=.returned (.int .i64 0)/\∃ o' m',Zj2 K n Od room w0 mb (fs++r) nx o w m V o' w' m':=by
 have g0:=h.nodup;have g3:=h.gt hb;have e:Zhk (fs++(hs++r)) (hs.map Prod.fst)=fs++r:=Zo9 hs fs r g0 (fun p hp=>g3 p (List.mem_append_left _ hp));have:=Zri hK h hn (c:=c) hks hno fun j hj=>by
  have g1:j<hs.length:=by simpa using hj
  have e1:at0 (hs.map Prod.fst) j=hs[j].1:=by rw[Zcl hj];simp
  refine⟨hs[j].2,?_⟩;rw[e1];refine Zpw (List.mem_append_right _ (List.mem_append_left _ (List.getElem_mem g1))) ?_;rw[List.map_append,List.nodup_append,List.map_append,List.nodup_append] at g0;have hh:=g0.2.1.1;intro hc;obtain⟨i,hi,e2⟩:=List.getElem_of_mem hc;have g2:i<j:=by simp at hi;omega
  rw[List.getElem_take] at e2;exact(List.pairwise_iff_getElem.1 hh) i j (by simp;omega) hj g2 (by rw[e2];simp)
 rw[e,List.length_map] at this;exact this
theorem Zp2 {ws0:List Ev}{lim:Option Nat}{k:Nat}{F:BF}{x:Ending}(hp:Zjm K n Od room w0 mb fs nx ws0 lim k F o w x w')(hk:k<=2^n)(hr:(fs.length+1)*2^n<=room) :
 ∃ o' m' V',ChgX NoB o o' w w'/\m'.waits <:+ ws0/\x=.returned (.tuple #[.int .i64 nx,.int .i64 0])/\SatE K n Od room w0 mb (fs++[(nx,F)]) (nx+1) w' o' m' V':=by
 obtain⟨o',m',V',h1,h2,⟨h3,_,h4⟩|⟨_,_,_,m0,⟨W,oo,VV,hs⟩,h5,h6⟩⟩:=hp
 . exact⟨o',m',V',h1,h2,h3,h4⟩
 . exfalso;have:=hs.few h5;rw[Nat.add_mul] at hr;omega
theorem Zm0 {M k:Nat}{F:BF}{x:Ending}(hp:Zjm K n Od room w0 mb fs nx [] (some M) k F o w x w') :
 ∃ o' m' V',ChgX NoB o o' w w'/\(m'.waits=[]/\m'.d.pool.many<=M+k)/\x=.returned (.tuple #[.int .i64 nx,.int .i64 0])/\SatE K n Od room w0 mb (fs++[(nx,F)]) (nx+1) w' o' m' V':=by
 obtain⟨o',m',V',h1,h2,⟨h3,h5,h4⟩|⟨_,h,_⟩⟩:=hp
 . exact⟨o',m',V',h1,⟨by simpa using h2,h5 M rfl⟩,h3,h4⟩
 . cases h
end
open Go.RowKit
def cntT:Nat->(Nat->Bool)->Nat
 | 0,_=>0
 | k+1,f=>cntT k f+(if f k then 1 else 0)
theorem Zfj (k:Nat)(f:Nat->Bool):cntT (k+1) f=cntT k f+(if f k then 1 else 0):=rfl
theorem Zv0 (f:Nat->Bool):∀ k,cntT k f<=k
 | 0=>Nat.le_refl _
 | k+1=>by
   have:=Zv0 f k;rw[Zfj];split<;>omega
def opB (op:Int)(n:Nat)(f:Nat->Bool):Bool :=
 if op=1 then true else if op=4 then decide (cntT n f=0) else if op=5 then decide (cntT n f=n) else if op=6 then decide (0<cntT n f) else if op=7 then decide (cntT n f%2=1)
 else if op=8 then (!f 0||f 1) else if op=9 then decide (cntT n f≠1) else if op=10 then iteB (f 0) (f 1) (f 2) else false
def fnT:ExT->BF
 | .nil=>fun _=>false
 | .mk op v n kid=>fun ρ=>if op=3 then ρ v.toNat else opB op n fun i=>fnT (kid i) ρ
def notF (F:BF):BF:=fun ρ => !F ρ
def Zpo (op:Int)(F G:BF):BF :=
 if op=5 then Zcw F G (fun _=>false) else if op=6 then Zcw F (fun _=>true) G else if op=8 then Zcw F G (fun _=>true) else if op=7 then Zcw F (notF G) G else Zcw F G (notF G)
def accT (op:Int)(kid:Nat->ExT):Nat->BF
 | 0=>fun _=>decide (op=5)
 | k+1=>Zpo op (accT op kid k) (fnT (kid k))
theorem Yav (kid:Nat->ExT)(ρ:Nat->Bool):∀ k,accT 5 kid k ρ=decide (cntT k (fun i=>fnT (kid i) ρ)=k)
 | 0=>rfl
 | k+1=>by
   have h1:accT 5 kid (k+1) ρ=iteB (accT 5 kid k ρ) (fnT (kid k) ρ) false:=rfl;have h2:=Zv0 (fun i=>fnT (kid i) ρ) k;rw[h1,Yav kid ρ k,Zfj];unfold iteB;cases hf:fnT (kid k) ρ
   .
    have:(cntT k fun i=>fnT (kid i) ρ)+0≠k+1:=by omega
    simp only[Bool.false_eq_true,if_false,decide_eq_false this];split<;>rfl
   . simp
theorem Yaw (kid:Nat->ExT)(ρ:Nat->Bool):∀ k,accT 6 kid k ρ=decide (0<cntT k (fun i=>fnT (kid i) ρ))
 | 0=>rfl
 | k+1=>by
   have h1:accT 6 kid (k+1) ρ=iteB (accT 6 kid k ρ) true (fnT (kid k) ρ):=rfl;rw[h1,Yaw kid ρ k,Zfj];unfold iteB;cases hf:fnT (kid k) ρ<;>simp
theorem Yax (kid:Nat->ExT)(ρ:Nat->Bool):∀ k,accT 7 kid k ρ=decide (cntT k (fun i=>fnT (kid i) ρ)%2=1)
 | 0=>rfl
 | k+1=>by
   have h1:accT 7 kid (k+1) ρ=iteB (accT 7 kid k ρ) (!(fnT (kid k) ρ)) (fnT (kid k) ρ):=rfl;rw[h1,Yax kid ρ k,Zfj];unfold iteB;rcases Nat.mod_two_eq_zero_or_one (cntT k fun i=>fnT (kid i) ρ) with e|e
   . cases hf:fnT (kid k) ρ<;>simp[e]<;>omega
   . cases hf:fnT (kid k) ρ<;>simp[e]<;>omega
theorem Yb2 {op:Int}(h:op=5\/op=6\/op=7)(v:Int)(n:Nat)(kid:Nat->ExT):fnT (.mk op v n kid)=accT op kid n:=by
 funext ρ;rcases h with rfl|rfl|rfl
 . rw[Yav];rfl
 . rw[Yaw];rfl
 . rw[Yax];rfl
theorem Zr7 (f:Nat->Bool):cntT 1 f=if f 0 then 1 else 0:=by rw[Zfj];exact Nat.zero_add _
theorem Zyr (f:Nat->Bool):cntT 2 f=(if f 0 then 1 else 0)+(if f 1 then 1 else 0):=by rw[Zfj,Zr7]
theorem Yb4 (v:Int)(kid:Nat->ExT):fnT (.mk 4 v 1 kid)=notF (fnT (kid 0)):=by
 funext ρ
 show decide (cntT 1 (fun i=>fnT (kid i) ρ)=0) = !(fnT (kid 0) ρ)
 rw[Bool.eq_iff_iff,decide_eq_true_iff,Zr7];cases fnT (kid 0) ρ<;>simp
theorem Yb3 (v:Int)(kid:Nat->ExT):fnT (.mk 10 v 3 kid)=Zcw (fnT (kid 0)) (fnT (kid 1)) (fnT (kid 2)):=rfl
theorem Zy4 {op:Int}(h:op=8\/op=9)(v:Int)(kid:Nat->ExT):fnT (.mk op v 2 kid)=Zpo op (fnT (kid 0)) (fnT (kid 1)):=by
 funext ρ;rcases h with rfl|rfl
 .
  show (!fnT (kid 0) ρ||fnT (kid 1) ρ)=iteB (fnT (kid 0) ρ) (fnT (kid 1) ρ) true
  unfold iteB;cases fnT (kid 0) ρ<;>simp
 .
  show decide (cntT 2 (fun i=>fnT (kid i) ρ)≠1)=iteB (fnT (kid 0) ρ) (fnT (kid 1) ρ) (!fnT (kid 1) ρ)
  rw[Bool.eq_iff_iff,decide_eq_true_iff,Zyr];unfold iteB;cases fnT (kid 0) ρ<;>cases fnT (kid 1) ρ<;>simp
theorem Zpf {op:Int}(h:op=1\/op=2)(v:Int)(n:Nat)(kid:Nat->ExT):fnT (.mk op v n kid)=fun _=>decide (op=1):=by
 rcases h with rfl|rfl<;>rfl
theorem Yb5 (v:Nat)(n:Nat)(kid:Nat->ExT):fnT (.mk 3 v n kid)=varF v:=by
 funext ρ;rfl
def DepF (n:Nat)(F:BF):Prop:=∀ ρ ρ':Nat->Bool,(∀ i,i<n->ρ i=ρ' i)->F ρ=F ρ'
theorem Zpx {f:Nat->List Int}{i:Nat}{x:Int}:∀ {n:Nat},i<n->x∈f i->x∈Zhl n f
 | 0,h,_=>by omega
 | k+1,h,hx=>by
   unfold Zhl;rcases Nat.lt_or_ge i k with h'|h'
   . exact List.mem_append_left _ (Zpx h' hx)
   .
    obtain rfl:i=k:=by omega
    exact List.mem_append_right _ hx
theorem Ybr (n:Nat)(ρ:Nat->Bool):∃ i,i<2^n/\∀ v,v<n->bitB i v=ρ v:=by
 induction n with
 | zero=>exact⟨0,by simp,fun v hv=>by omega⟩
 | succ n ih =>
   obtain⟨i,hi,hb⟩:=ih;have hp:0<2^n:=Nat.pow_pos (by omega);refine⟨i+(if ρ n then 2^n else 0),by rw[Nat.pow_succ];split<;>omega,fun v hv=>?_⟩;rcases Nat.lt_or_ge v n with h|h
   .
    rw[<- hb v h];unfold bitB;split
    .
     obtain⟨k,rfl⟩:∃ k,n=v+(k+1):=⟨n-v-1,by omega⟩;have e1:(2:Nat)^(v+(k+1))=2^v*(2*2^k):=by rw[Nat.pow_add,Nat.pow_succ];ac_rfl
     rw[e1,Nat.add_mul_div_left _ _ (Nat.pow_pos (by omega)),Nat.add_mul_mod_self_left]
    . rw[Nat.add_zero]
   .
    obtain rfl:v=n:=by omega
    unfold bitB;cases hr:ρ v with
    | true =>
      rw[if_pos rfl,Nat.add_div_right _ hp,Nat.div_eq_of_lt hi];rfl
    | false =>
      rw[if_neg (by simp),Nat.add_zero,Nat.div_eq_of_lt hi];rfl
theorem Zon {n:Nat}{F G:BF}(hF:DepF n F)(hG:DepF n G)(h:tabB n F=tabB n G):F=G:=by
 funext ρ;obtain⟨i,hi,hb⟩:=Ybr n ρ;have e:∀ v,v<n->ρ v=Zcv (Zcy i n) v:=fun v hv=>by rw[Zi7,hb v hv];simp[hv]
 rw[hF ρ _ e,hG ρ _ e,<- Zdc (F:=F) hi,<- Zdc (F:=G) hi,h]
open Go.RowKit
theorem Zry {n:Nat}{f:Nat->Nat}(h1:∀ i,i<n->f i<n)(h2:∀ i j,i<n->j<n->f i=f j->i=j){j:Nat}(hj:j<n):∃ i,i<n/\f i=j:=by
 by_cases h:∃ i,i<n/\f i=j
 . exact h
 exfalso;have g0:∀ i,i<n->f i≠j:=fun i hi e=>h ⟨i,hi,e⟩
 have g1:(j::(List.range n).map f).Nodup:=by
  refine List.nodup_cons.2 ⟨?_,?_⟩
  . intro hm;obtain⟨i,hi,e⟩:=List.mem_map.1 hm;exact g0 i (List.mem_range.1 hi) e
  . refine List.pairwise_map.2 (List.nodup_range.imp_of_mem ?_);intro a b ha hb g2 e;exact g2 (h2 a b (List.mem_range.1 ha) (List.mem_range.1 hb) e)
 have:=Zis n _ g1 (fun x hx=>by
  rcases List.mem_cons.1 hx with rfl|hx
  . exact hj
  . obtain⟨i,hi,rfl⟩:=List.mem_map.1 hx;exact h1 i (List.mem_range.1 hi))
 simp at this;omega
theorem Zge {zs:List Int}{v:Int}{i:Nat}:∀ {j:Nat},i<=j->j<=zs.length->cntP zs v i<=cntP zs v j
 | 0,h,_=>by
   obtain rfl:i=0:=by omega
   exact Nat.le_refl _
 | j+1,h,hj=>by
   rcases Nat.lt_or_ge i (j+1) with h'|h'
   .
    have:=Zge (zs:=zs) (v:=v) (show i<=j by omega) (by omega)
    by_cases e:at0 zs j=v
    . rw[Zg2 (by omega) e];omega
    . rw[Zvz (by omega) e];omega
   .
    obtain rfl:i=j+1:=by omega
    exact Nat.le_refl _
structure Ybk (zs:List Int)(n:Nat):Prop where
 len:zs.length=n
 lt:∀ i,i<n->∃ v:Nat,v<n/\at0 zs i=(v:Nat)
 inj:∀ i j,i<n->j<n->at0 zs i=at0 zs j->i=j
theorem Zzw {zs:List Int}{n:Nat}(h:Zgt zs n=true):Ybk zs n:=by
 unfold Zgt at h;rw[decide_eq_true_eq] at h;obtain⟨h1,h2⟩:=h;have g2:zs.length=n:=by omega
 subst g2;have hp:∀ v:Nat,v<zs.length->∃ p,p<zs.length/\at0 zs p=(v:Nat):=by
  intro v hv;have e:=h2 v hv;unfold cntP at e;rw[List.take_length] at e;have hm:0<(zs.filter (fun z=>decide (z=(v:Int)))).length:=by omega
  obtain⟨z,hz⟩:=List.length_pos_iff_exists_mem.1 hm;obtain⟨q1,q2⟩:=List.mem_filter.1 hz;obtain⟨i,hi,e2⟩:=List.getElem_of_mem q1;refine⟨i,hi,?_⟩;rw[Zcl hi,e2];simpa using q2
 have g0:∀ i,i<zs.length->∃ v,v<zs.length/\at0 zs i=(v:Nat):=by
  have hc:∃ f:Nat->Nat,∀ v,v<zs.length->f v<zs.length/\at0 zs (f v)=(v:Nat):=by
   refine⟨fun v=>if hv:v<zs.length then Classical.choose (hp v hv) else 0,fun v hv=>?_⟩;dsimp only;rw[dif_pos hv];exact Classical.choose_spec (hp v hv)
  obtain⟨f,hf⟩:=hc;intro i hi
  obtain⟨v,hv,e⟩:=Zry (n:=zs.length) (f:=f) (fun v hv=>(hf v hv).1) (fun a b ha hb e=>by
   have e1:=(hf a ha).2;have e2:=(hf b hb).2;rw[e,e2] at e1;omega) hi
  exact⟨v,hv,by rw[<- e];exact(hf v hv).2⟩
 refine⟨rfl,g0,fun i j hi hj e=>?_⟩;obtain⟨v,hv,ei⟩:=g0 i hi;have ec:=h2 v hv;have ej:at0 zs j=(v:Nat):=by rw[<- e];exact ei
 rcases Nat.lt_trichotomy i j with g1|rfl|g1
 . have a1:=Zg2 hi ei;have a2:=Zg2 hj ej;have a3:=Zge (zs:=zs) (v:=(v:Nat)) (show i+1<=j by omega) (by omega);have a4:=Zge (zs:=zs) (v:=(v:Nat)) (show j+1<=zs.length by omega) (Nat.le_refl _);omega
 . rfl
 . have a1:=Zg2 hi ei;have a2:=Zg2 hj ej;have a3:=Zge (zs:=zs) (v:=(v:Nat)) (show j+1<=i by omega) (by omega);have a4:=Zge (zs:=zs) (v:=(v:Nat)) (show i+1<=zs.length by omega) (Nat.le_refl _);omega
theorem Zvm {l:List Nat}{i:Nat}(hi:i<l.length):at0 (l.map Int.ofNat) i=(l.getD i 0:Nat):=by
 rw[Zcl (by simpa using hi)];simp[List.getD,hi]
theorem Zal.mem {d:Zae}{V:Nat->BF}(h:Zal d V){v:Nat}(hv:v<d.vars.length):∃ i,i<d.vars.length/\d.vars.getD i 0=v:=⟨levN d v,h.dag.lt v hv,h.inv v hv⟩
theorem Zal.inj {d:Zae}{V:Nat->BF}(h:Zal d V){i j:Nat}(hi:i<d.vars.length)(hj:j<d.vars.length)(e:d.vars.getD i 0=d.vars.getD j 0):i=j:=by
 have a:=(h.vlt i hi).2;have b:=(h.vlt j hj).2;rw[e,b] at a;exact a.symm
def exL (l:List Nat)(k:Nat):List Nat:=(l.set k (l.getD (k+1) 0)).set (k+1) (l.getD k 0)
theorem Zy3 {l:List Nat}{k:Nat}(h:k+1<l.length):(exL l k).getD k 0=l.getD (k+1) 0:=by
 unfold exL;simp[List.getD,List.getElem?_set,h,show k<l.length by omega]
theorem Yde {l:List Nat}{k i:Nat}(h1:i≠k)(h2:i≠k+1):(exL l k).getD i 0=l.getD i 0:=by
 unfold exL;simp only[List.getD,List.getElem?_set];rw[if_neg (fun e=>h2 e.symm),if_neg (fun e=>h1 e.symm)]
theorem Zye (d:Zae)(k:Nat):(Zeo d k).vars=exL d.vars k:=rfl
open Go.RowKit
structure LawT (K:Law)(n:Nat)(Od:List Nat->Prop)(room:Nat)(w0:World)(mb:Nat)(fs:List (Int×BF))(nx:Int)(Wt:List Ev->Int->Prop)(hl hx:List (Int×BF))(W:World)(o:Own)(m:ManD)(V:Nat->BF)(vl vx:Value):Prop where
 sat:SatE K n Od room w0 mb fs nx W o m V
 b2:B2 fs
 st:Wt m.waits m.calls
 l:LawL W o w0.heap.size vl (hl.map Prod.fst)
 x:LawX W o w0.heap.size vx (hx.map fun p=>tabB n p.2)
section
variable {K:Law}{n:Nat}{Od:List Nat->Prop}{room:Nat}{w0:World}{mb:Nat}{fs:List (Int×BF)}{nx:Int}{Wt:List Ev->Int->Prop}{hl hx hs:List (Int×BF)}{W W' w:World}{o o':Own}{m m':ManD}{V V':Nat->BF}{vl vx v' v:Value}{p:Int×BF}
theorem LawT.below (h:LawT K n Od room w0 mb fs nx Wt hl hx W o m V vl vx)(hb:Below W.heap.size W W'):LawT K n Od room w0 mb fs nx Wt hl hx W' o m V vl vx :=
 ⟨h.sat.below hb,h.b2,h.st,h.l.chg (Zb0 hb o),h.x.chg (Zb0 hb o)⟩
theorem LawT.below0 (h:LawT K n Od room w0 mb fs nx Wt hl hx W o m V vl vx):Below w0.heap.size w0 W:=h.sat.chg.below0
theorem LawT.go {Od':List Nat->Prop}{fs':List (Int×BF)}{nx':Int}{Wt':List Ev->Int->Prop}(h:LawT K n Od room w0 mb fs nx Wt hl hx W o m V vl vx)(hs:SatE K n Od' room w0 mb fs' nx' W' o' m' V')(hb:B2 fs')(ht:Wt' m'.waits m'.calls)(hc:ChgX NoB o o' W W') :
 LawT K n Od' room w0 mb fs' nx' Wt' hl hx W' o' m' V' vl vx:=⟨hs,hb,ht,h.l.chg hc,h.x.chg hc⟩
theorem LawT.withOd {Od':List Nat->Prop}(h:LawT K n Od room w0 mb fs nx Wt hl hx W o m V vl vx)(hO:Od' m.d.vars):LawT K n Od' room w0 mb fs nx Wt hl hx W o m V vl vx:=⟨h.sat.withOd hO,h.b2,h.st,h.l,h.x⟩
theorem LawT.withSt {Wt':List Ev->Int->Prop}(h:LawT K n Od room w0 mb fs nx Wt hl hx W o m V vl vx)(hO:Wt' m.waits m.calls):LawT K n Od room w0 mb fs nx Wt' hl hx W o m V vl vx:=⟨h.sat,h.b2,hO,h.l,h.x⟩
theorem LawT.appL (h:LawT K n Od room w0 mb fs nx Wt hl hx W o m V vl vx)(hown:OwnC 3 W' w0.heap.size v' (Zbi (hl.map Prod.fst)++[.int .i64 p.1]))(e1:W'.os=W.os)(e2:W'.tape=W.tape)(e3:W'.output=W.output)(e4:W.heap.size<=W'.heap.size)(hk:Zdt vl v' W W') :
 LawT K n Od room w0 mb fs nx Wt (hl++[p]) hx W' o m V v' vx:=by
 have hw:=Zs8 e1 e2 e3 e4 hk;refine⟨h.sat.other hw (fun k _ hk=>⟨(h.l.own.lt k hk).1,h.l.no k hk⟩),h.b2,h.st,?_,h.x.typ hw (by decide) (by decide) h.l.own.typed⟩;rw[List.map_append];exact h.l.app h.sat.lt hown hk
theorem LawT.appX {bs:List Bool}(h:LawT K n Od room w0 mb fs nx Wt hl hx W o m V vl vx)(hb:LawB W o w0.heap.size v bs)(hbs:bs=tabB n p.2){rs:List Value}(hrs:rs.length=hx.length)(hrow:OwnC 34 W w0.heap.size vx rs)(hall:∀ i v,rs[i]?=some v->LawB W o w0.heap.size v ((hx.map fun p=>tabB n p.2).getD i []))
 (hown:OwnC 34 W' w0.heap.size v' (rs++[v])) (e1:W'.os=W.os) (e2:W'.tape=W.tape) (e3:W'.output=W.output) (e4:W.heap.size<=W'.heap.size) (hk:Zdt vx v' W W'):LawT K n Od room w0 mb fs nx Wt hl (hx++[p]) W' o m V vl v':=by
 have hw:=Zs8 e1 e2 e3 e4 hk;refine⟨h.sat.other hw (fun k _ hk=>⟨(hrow.lt k hk).1,h.x.no k hk⟩),h.b2,h.st,h.l.typ hw (by decide) hrow.typed,?_⟩;rw[List.map_append];have:=h.x.app h.sat.lt (by simp[hrs]) hall hw hrow.typed hb hown hk;rw[hbs] at this;exact this
theorem LawT.row (h:LawT K n Od room w0 mb fs nx Wt hs hs W o m V vl vx)(hsub:∀ p∈hs,p∈fs)(hsm:hs.length<=1000) :
 LawR (fun g=>w0.heap.size<=g/\g<W.heap.size/\o g=none/\∃ cur,W.heap[g]?=some (.cells cur 4 (0,0))) n fs W vl vx hs:=Ycg h.l h.x hsub hsm
structure LawF (W:World)(o:Own)(v:Value)(bs:List Bool):Prop where
 is:Zbu W v bs
 no:∀ k,v.ownBlock=some k->k<W.heap.size/\o k=none/\∃ cur,W.heap[k]?=some (.cells cur 4 (0,0))
theorem LawF.chg {bs:List Bool}(h:LawF W o v bs)(hc:ChgX NoB o o' W W'):LawF W' o' v bs :=
 ⟨h.is.same fun k hk=>hc.block k (h.no k hk).1 (h.no k hk).2.1 (fun e=>e),fun k hk=>by
  obtain⟨h1,h2,cur,h3⟩:=h.no k hk;exact⟨Nat.lt_of_lt_of_le h1 hc.size,hc.none' h1 h2,cur,(hc.block k h1 h2 (fun e=>e)).trans h3⟩⟩
theorem LawF.tab {F:BF}(h:LawF W o v (tabB n F)):∃ a c,v=.slice a (2^n) c/\Zbp W a (tabB n F):=by
 obtain⟨a,c,e,h1,_⟩:=h.is;rw[Zar] at e;exact⟨a,c,e,h1⟩
theorem Zuj (n:Nat)(F G H:BF)(au av aw:Option Addr)(cu cv cw:Nat)(w:World)(h1:Zbp w au (tabB n F))(h2:Zbp w av (tabB n G))(h3:Zbp w aw (tabB n H)) :
 Calls prog 89 #[.slice au (2^n) cu,.slice av (2^n) cv,.slice aw (2^n) cw] w fun x w'=>∃ g,x=.returned (.slice (some ⟨g,0,none⟩) (2^n) (2^n))/\OwnB w' w.heap.size (.slice (some ⟨g,0,none⟩) (2^n) (2^n)) (tabB n (Zcw F G H))/\Below w.heap.size w w':=by
 have:=Zui (tabB n F) (tabB n G) (tabB n H) (by simp[Zar]) (by simp[Zar]) au av aw cu cv cw w h1 h2 h3;rw[Zar] at this;rw[show iteL (tabB n F) (tabB n G) (tabB n H)=tabB n (Zcw F G H) from Zze n F G H] at this;exact this
end
open Go.RowKit
theorem Zes (W:World)(zs:List Int)(hl:zs.length<=1000000):Zay (W.alloc (.cells (Zbi zs).toArray 3)) (some ⟨W.heap.size,0,none⟩) zs :=
 ⟨by omega,fun k hk=>⟨W.heap.size,0,rfl,by
  rw[Nat.zero_add,cell_of_row _ _ k _ _ _ (heap_alloc_new _ _)];simp[Zbi,Zcl hk,hk]⟩⟩
section
variable {K:Law}{n:Nat}{Od:List Nat->Prop}{room:Nat}{w0 w w':World}{mb:Nat}{fs:List (Int×BF)}{nx:Int}{o o':Own}{m m':ManD}{V V':Nat->BF}
def Goes (K:Law)(n:Nat)(Od:List Nat->Prop)(room:Nat)(w0:World)(mb:Nat)(fs:List (Int×BF))(nx:Int)(Wt:List Ev->Int->Nat->Prop)(o:Own)(w w':World):Prop :=
 ∃ o' m' V',ChgX NoB o o' w w'/\Wt m'.waits m'.calls m'.d.pool.many/\SatE K n Od room w0 mb fs nx w' o' m' V'
def NoW (M:Nat)(ws:List Ev)(_:Int)(k:Nat):Prop:=ws=[]/\k<=M
abbrev W2 (Wt:List Ev->Int->Prop):List Ev->Int->Nat->Prop:=fun ws c _=>Wt ws c
theorem Goes.more {M M':Nat}(h:Goes K n Od room w0 mb fs nx (NoW M) o w w')(hm:M<=M'):Goes K n Od room w0 mb fs nx (NoW M') o w w':=by
 obtain⟨o',m',V',h1,h2,h3⟩:=h;exact⟨o',m',V',h1,⟨h2.1,Nat.le_trans h2.2 hm⟩,h3⟩
theorem Goes.below {Wt:List Ev->Int->Nat->Prop}{w'':World}(h:Goes K n Od room w0 mb fs nx Wt o w w')(hb:Below w'.heap.size w' w''):Goes K n Od room w0 mb fs nx Wt o w w'':=by
 obtain⟨o',m',V',h1,h2,h3⟩:=h;exact⟨o',m',V',h1.trans (Zb0 hb o') (fun _ _ e=>e),h2,h3.below hb⟩
theorem Zwt (hK:Zb4 K){M:Nat}(h:Goes K n Od room w0 mb fs nx (NoW M) o w w')(hn:nx<549755813888)(hr:M+(2^n-1)<=room){kf kg kh:Int}{F G H:BF}(hf:(kf,F)∈fs)(hg:(kg,G)∈fs)(hh:(kh,H)∈fs) :
 Calls prog 8 #[.pointer (some ⟨mb,0,none⟩),.int .i64 kf,.int .i64 kg,.int .i64 kh] w' fun x w''=>x=.returned (.tuple #[.int .i64 nx,.int .i64 0])/\Goes K n Od room w0 mb (fs++[(nx,Zcw F G H)]) (nx+1) (NoW (M+(2^n-1))) o w w'':=by
 obtain⟨o',m',V',h1,h2,h3⟩:=h;refine(Zmv hK h3 [] (by rw[h2.1];exact List.suffix_refl _) (some M) (fun _ e=>by cases e;exact⟨rfl,hr⟩) (fun _ e=>by cases e;exact h2.2) (by simp) (by omega) hf hg hh).mono ?_;rintro x w'' hp;obtain⟨o2,m2,V2,q1,q2,q3,q4⟩:=Zm0 hp;exact⟨q3,o2,m2,V2,h1.trans q1 (fun _ _ e=>e),q2,q4⟩
theorem Ydz (hK:Zb4 K){M:Nat}(h:Goes K n Od room w0 mb fs nx (NoW M) o w w')(hn:nx<549755813888)(hr:M+1<=room){v:Nat}(hv:v<n) :
 Calls prog 23 #[.pointer (some ⟨mb,0,none⟩),.int .i64 v] w' fun x w''=>x=.returned (.tuple #[.int .i64 nx,.int .i64 0])/\Goes K n Od room w0 mb (fs++[(nx,varF v)]) (nx+1) (NoW (M+1)) o w w'':=by
 obtain⟨o',m',V',h1,h2,h3⟩:=h;refine(Zmw hK h3 [] (by rw[h2.1];exact List.suffix_refl _) (some M) (fun _ e=>by cases e;exact⟨rfl,hr⟩) (fun _ e=>by cases e;exact h2.2) (by simp) (by omega) v hv).mono ?_;rintro x w'' hp;obtain⟨o2,m2,V2,q1,q2,q3,q4⟩:=Zm0 hp;exact⟨q3,o2,m2,V2,h1.trans q1 (fun _ _ e=>e),q2,q4⟩
theorem Ya6 (hK:Zb4 K){Wt:List Ev->Int->Nat->Prop}(h:Goes K n Od room w0 mb fs nx Wt o w w')(hn:nx<549755813888){k:Int}{F:BF}(hf:(k,F)∈fs) :
 Calls prog 76 #[.pointer (some ⟨mb,0,none⟩),.int .i64 k] w' fun x w''=>x=.returned (.tuple #[.int .i64 nx,.int .i64 0])/\Goes K n Od room w0 mb (fs++[(nx,notF F)]) (nx+1) Wt o w w'':=by
 obtain⟨o',m',V',h1,h2,h3⟩:=h;refine(Zt3 hK h3 hn hf).mono ?_;rintro x w'' ⟨rfl,o2,m2,q⟩;exact⟨rfl,o2,m2,V',h1.trans (ChgX.of_chg q.chg NoB) (fun _ _ e=>e),by rw[q.waits,q.calls,q.many];exact h2,q.sat⟩
theorem Znk (hK:Zb4 K){Wt:List Ev->Int->Nat->Prop}(h:Goes K n Od room w0 mb fs nx Wt o w w')(hn:nx<549755813888){k:Int}{F:BF}(hf:(k,F)∈fs) :
 Calls prog 73 #[.pointer (some ⟨mb,0,none⟩),.int .i64 k] w' fun x w''=>x=.returned (.tuple #[.int .i64 nx,.int .i64 0])/\Goes K n Od room w0 mb (fs++[(nx,F)]) (nx+1) Wt o w w'':=by
 obtain⟨o',m',V',h1,h2,h3⟩:=h;refine(Zrh hK h3 hn hf).mono ?_;rintro x w'' ⟨rfl,o2,m2,q⟩;exact⟨rfl,o2,m2,V',h1.trans (ChgX.of_chg q.chg NoB) (fun _ _ e=>e),by rw[q.waits,q.calls,q.many];exact h2,q.sat⟩
theorem Znl (hK:Zb4 K){Wt:List Ev->Int->Nat->Prop}{hs r:List (Int×BF)}(h:Goes K n Od room w0 mb (fs++(hs++r)) nx Wt o w w')(hb:B2 fs)(hn:nx<549755813888)(hl:hs.length<=1000){T:World}(hT:T=w'.alloc (.cells (Zbi (hs.map Prod.fst)).toArray 3)) :
 Calls prog 77 #[.pointer (some ⟨mb,0,none⟩),.slice (some ⟨w'.heap.size,0,none⟩) hs.length hs.length] T fun x w''=>x=.returned (.int .i64 0)/\Goes K n Od room w0 mb (fs++r) nx Wt o w w'':=by
 obtain⟨o',m',V',h1,h2,h3⟩:=h;subst hT;have g0:=Zad w' (.cells (Zbi (hs.map Prod.fst)).toArray 3);refine(Zrj hK (h3.below g0) hb hn (Zes w' (hs.map Prod.fst) (by simp;omega)) (fun x hx=>by cases hx;exact h3.lt.none (Nat.le_refl _))).mono ?_;rintro x w'' ⟨rfl,o2,m2,q⟩;exact⟨rfl,o2,m2,V',(h1.trans (Zb0 g0 o') (fun _ _ e=>e)).trans (ChgX.of_chg q.chg NoB) (fun _ _ e=>e),by rw[q.waits,q.calls,q.many];exact h2,q.sat⟩
theorem Zsg (hK:Zb4 K){a b:Int}{F G:BF}{M:Nat}(h:Goes K n Od room w0 mb (fs++[(a,F),(b,G)]) nx (NoW M) o w w')(hb:B2 fs)(hn:nx+2<549755813888)(hr:M+(2^n-1)<=room){op:Int}(h5:5<=op)(h9:op<=9) :
 Calls prog 75 #[.pointer (some ⟨mb,0,none⟩),.int .i64 op,.int .i64 a,.int .i64 b] w' fun x w''=>∃ k:Int,x=.returned (.tuple #[.int .i64 k,.bool true])/\k<=nx+1/\Goes K n Od room w0 mb (fs++[(k,Zpo op F G)]) (k+1) (NoW (M+(2^n-1))) o w w'':=by
 obtain⟨M',ga⟩:∃ M',M'=M+(2^n-1):=⟨_,rfl⟩;have g5:Hid (∀ c d e A B C,(c,A)∈fs++[(a,F),(b,G)]->(d,B)∈fs++[(a,F),(b,G)]->(e,C)∈fs++[(a,F),(b,G)]->Calls prog 8 #[.pointer (some ⟨mb,0,none⟩),.int .i64 c,.int .i64 d,.int .i64 e] w' fun x w''=>x=.returned (.tuple #[.int .i64 nx,.int .i64 0])/\Goes K n Od room w0 mb (fs++[(a,F),(b,G)]++[(nx,Zcw A B C)]) (nx+1) (NoW (M+(2^n-1))) o w w'') :=
  Hd fun c d e A B C h1 h2 h3=>Zwt hK h (by omega) hr h1 h2 h3
 have g6:=Hd (Ya6 hK h (by omega) (k:=b) (F:=G) (by simp))
 have g0:Hid (∀ W,Goes K n Od room w0 mb (fs++[(a,F),(b,G)]++[(nx,notF G)]) (nx+1) (NoW M) o w W->∀ c d e A B C,(c,A)∈fs++[(a,F),(b,G)]++[(nx,notF G)]->(d,B)∈fs++[(a,F),(b,G)]++[(nx,notF G)]->(e,C)∈fs++[(a,F),(b,G)]++[(nx,notF G)] ->
  Calls prog 8 #[.pointer (some ⟨mb,0,none⟩),.int .i64 c,.int .i64 d,.int .i64 e] W fun x w''=>x=.returned (.tuple #[.int .i64 (nx+1),.int .i64 0])/\Goes K n Od room w0 mb (fs++[(a,F),(b,G)]++[(nx,notF G)]++[(nx+1,Zcw A B C)]) (nx+1+1) (NoW (M+(2^n-1))) o w w'') :=
  Hd fun W hW c d e A B C h1 h2 h3=>Zwt hK hW (by omega) hr h1 h2 h3
 have g7:Hid (∀ W H T,Goes K n Od room w0 mb (fs++[(a,F),(b,G)]++[(nx,notF G)]++[(nx+1,H)]) (nx+1+1) (NoW M') o w W->T=W.alloc (.cells #[.int .i64 nx] 3)->Calls prog 77 #[.pointer (some ⟨mb,0,none⟩),.slice (some ⟨W.heap.size,0,none⟩) 1 1] T fun x w''=>x=.returned (.int .i64 0)/\Goes K n Od room w0 mb (fs++[(a,F),(b,G)]++[(nx+1,H)]) (nx+1+1) (NoW M') o w w'') :=
  Hd fun W H T hW hT=>Znl hK (hs:=[(nx,notF G)]) (r:=[(nx+1,H)]) (by rw[List.append_assoc] at hW;exact hW) (hb.app _) (by omega) (by simp) hT
 have g8:Hid (∀ W k H T,k+1<549755813888->Goes K n Od room w0 mb (fs++[(a,F),(b,G)]++[(k,H)]) (k+1) (NoW M') o w W->T=W.alloc (.cells #[.int .i64 a,.int .i64 b] 3)->Calls prog 77 #[.pointer (some ⟨mb,0,none⟩),.slice (some ⟨W.heap.size,0,none⟩) 2 2] T fun x w''=>x=.returned (.int .i64 0)/\Goes K n Od room w0 mb (fs++[(k,H)]) (k+1) (NoW M') o w w'') :=
  Hd fun W k H T hk hW hT=>Znl hK (hs:=[(a,F),(b,G)]) (r:=[(k,H)]) (by rw[List.append_assoc] at hW;exact hW) hb (by omega) (by simp) hT
 have m0:(0,fun _=>false)∈fs++[(a,F),(b,G)]:=List.mem_append_left _ hb.zero;have m1:(1,fun _=>true)∈fs++[(a,F),(b,G)]:=List.mem_append_left _ hb.one;have ma:(a,F)∈fs++[(a,F),(b,G)]:=by simp
 have mb':(b,G)∈fs++[(a,F),(b,G)]:=by simp
 have pa:(a,F)∈fs++[(a,F),(b,G)]++[(nx,notF G)]:=by simp
 have pb:(b,G)∈fs++[(a,F),(b,G)]++[(nx,notF G)]:=by simp
 have pn:(nx,notF G)∈fs++[(a,F),(b,G)]++[(nx,notF G)]:=by simp
 rw[<- ga] at g5 g0 ⊢;clear h hb hr hK ga;rcases(show op=5\/op=6\/op=7\/op=8\/op=9 by omega) with rfl|rfl|rfl|rfl|rfl
 .
  have HI:=Hd (g5.out a b 0 _ _ _ ma mb' m0);clear g5 g0 g6 g7
  go_enter func75,ntmps75
  go_wp2_with fail;refine HI.out.mono ?_;rintro x w1 ⟨rfl,g1⟩;have HD:=Hd (g8.out w1 nx _ _ (by omega) g1 rfl);clear g1 HI;go_wp2_with fail;refine HD.out.mono ?_;rintro x w2 ⟨rfl,g2⟩;have HG:=Hd g2;clear g2 HD;go_wp2_with fail
  go_ret2
  exact⟨nx,rfl,by omega,HG.out⟩
 .
  have HI:=Hd (g5.out a 1 b _ _ _ ma m1 mb');clear g5 g0 g6 g7
  go_enter func75,ntmps75
  go_wp2_with fail;refine HI.out.mono ?_;rintro x w1 ⟨rfl,g1⟩;have HD:=Hd (g8.out w1 nx _ _ (by omega) g1 rfl);clear g1 HI;go_wp2_with fail;refine HD.out.mono ?_;rintro x w2 ⟨rfl,g2⟩;have HG:=Hd g2;clear g2 HD;go_wp2_with fail
  go_ret2
  exact⟨nx,rfl,by omega,HG.out⟩
 .
  clear g5
  go_enter func75,ntmps75
  go_wp2_with fail;refine g6.out.mono ?_;rintro x w1 ⟨rfl,g1⟩;have HI:=Hd (g0.out w1 g1 a nx b _ _ _ pa pn pb);clear g1 g6 g0;go_wp2_with fail;refine HI.out.mono ?_;rintro x w2 ⟨rfl,g2⟩;have g9:=Hd (g7.out w2 _ _ g2 rfl);clear g2 HI g7;go_wp2_with fail;refine g9.out.mono ?_;rintro x w3 ⟨rfl,g3⟩;have HD:=Hd (g8.out w3 (nx+1) _ _ (by omega) g3 rfl);clear g3 g9;go_wp2_with fail;refine HD.out.mono ?_;rintro x w4 ⟨rfl,g4⟩;have HG:=Hd g4;clear g4 HD;go_wp2_with fail
  go_ret2
  exact⟨nx+1,rfl,by omega,HG.out⟩
 .
  have HI:=Hd (g5.out a b 1 _ _ _ ma mb' m1);clear g5 g0 g6 g7
  go_enter func75,ntmps75
  go_wp2_with fail;refine HI.out.mono ?_;rintro x w1 ⟨rfl,g1⟩;have HD:=Hd (g8.out w1 nx _ _ (by omega) g1 rfl);clear g1 HI;go_wp2_with fail;refine HD.out.mono ?_;rintro x w2 ⟨rfl,g2⟩;have HG:=Hd g2;clear g2 HD;go_wp2_with fail
  go_ret2
  exact⟨nx,rfl,by omega,HG.out⟩
 .
  clear g5
  go_enter func75,ntmps75
  go_wp2_with fail;refine g6.out.mono ?_;rintro x w1 ⟨rfl,g1⟩;have HI:=Hd (g0.out w1 g1 a b nx _ _ _ pa pb pn);clear g1 g6 g0;go_wp2_with fail;refine HI.out.mono ?_;rintro x w2 ⟨rfl,g2⟩;have g9:=Hd (g7.out w2 _ _ g2 rfl);clear g2 HI g7;go_wp2_with fail;refine g9.out.mono ?_;rintro x w3 ⟨rfl,g3⟩;have HD:=Hd (g8.out w3 (nx+1) _ _ (by omega) g3 rfl);clear g3 g9;go_wp2_with fail;refine HD.out.mono ?_;rintro x w4 ⟨rfl,g4⟩;have HG:=Hd g4;clear g4 HD;go_wp2_with fail
  go_ret2
  exact⟨nx+1,rfl,by omega,HG.out⟩
end
open Go.RowKit
section
variable {K:Law}{n:Nat}{room:Nat}{w0:World}{mb:Nat}{fs hs:List (Int×BF)}{nx:Int}{W w w':World}{o o':Own}{m m':ManD}{V V':Nat->BF}{vl vx:Value}{ws0:List Ev}
theorem Zey {n:Nat}(h:n<=16):2^n<=1000000:=Nat.le_trans (Nat.pow_le_pow_right (by omega) h) (by decide)
abbrev SufW (ws0:List Ev):List Ev->Int->Prop:=fun ws _=>ws <:+ ws0
theorem Ydk (hK:Zb4 K)(h:SatE K n (fun _=>True) room w0 mb fs nx w o m V)(hw:m.waits <:+ ws0)(hn:nx<=549755813888)(hr:(fs.length+1)*2^n<=room){kf kg kh:Int}{F G H:BF}(hf:(kf,F)∈fs)(hg:(kg,G)∈fs)(hh:(kh,H)∈fs) :
 Calls prog 8 #[.pointer (some ⟨mb,0,none⟩),.int .i64 kf,.int .i64 kg,.int .i64 kh] w fun x w''=>x=.returned (.tuple #[.int .i64 nx,.int .i64 0])/\Goes K n (fun _=>True) room w0 mb (fs++[(nx,Zcw F G H)]) (nx+1) (W2 (SufW ws0)) o w w'':=by
 refine(Zmv hK h ws0 hw none (fun _ e=>by cases e) (fun _ e=>by cases e) (fun ev _=>Zfl hn ev) (by omega) hf hg hh).mono ?_;rintro x w'' hp;obtain⟨o2,m2,V2,q1,q2,q3,q4⟩:=Zp2 hp (Nat.sub_le _ _) hr;exact⟨q3,o2,m2,V2,q1,q2,q4⟩
end
open Go.RowKit
theorem Ziw (bx bz:List Bool)(hlen:bz.length=bx.length)(ax az:Option Addr)(cx cz:Nat)(w:World)(h1:Zbp w ax bx)(h2:Zbp w az bz) :
 Calls prog 130 #[.slice ax bx.length cx,.slice az bx.length cz] w fun x w'=>x=.returned (.bool (decide (bx=bz)))/\Below w.heap.size w w':=by
 have H1:=Hd h1;have H2:=Hd h2;have hl:=h1.len;have g7:=Hd hlen;obtain⟨L,hL⟩:∃ L,L=bx.length:=⟨_,rfl⟩;have HL:=Hd hL;rw[<- hL] at hl ⊢;clear h1 h2 hL hlen
 go_enter func130,ntmps130
 go_wp2_with fail
 go_loopw [4,5] (fun s4 s5 wr=>∃ j:Nat,j<=L/\s5=.int .i64 j/\Hid (Below w.heap.size w wr)/\Hid (∀ q,q<j->bx.getD q false=bz.getD q false)) (fun _ s5 _=>L-(intOf s5).toNat)
 case atStart=>exact⟨0,Nat.zero_le _,rfl,Hd (Below.refl _ _),Hd fun q hq=>by omega⟩
 case round =>
  obtain⟨j,hj,rfl,HB,HQ⟩:=hrel
  by_cases g4:j<L
  .
   obtain⟨b1,of1,rfl,c1⟩:=(H1.out.below HB.out).cells j (by rw[<- HL.out];exact g4);obtain⟨b2,of2,rfl,c2⟩:=(H2.out.below HB.out).cells j (by rw[g7.out,<- HL.out];exact g4);have g2:=Hd (HB.out.trans ((Zaf wr 1).mono HB.out.size));have g9:(j:Int)<(L:Int):=by omega
   obtain⟨y1,g1⟩:∃ y,y=bx.getD j false:=⟨_,rfl⟩;obtain⟨y2,g0⟩:∃ y,y=bz.getD j false:=⟨_,rfl⟩;rw[<- g1] at c1;rw[<- g0] at c2;have g5:Hid (y1=y2->∀ q,q<j+1->bx.getD q false=bz.getD q false):=Hd fun e q hq=>by
    rcases Nat.lt_or_ge q j with h|h
    . exact HQ.out q h
    .
     obtain rfl:q=j:=by omega
     rw[<- g1,<- g0,e]
   have g6:Hid (y1≠y2->bx≠bz):=Hd fun g8 e=>g8 (by rw[g1,g0,e])
   clear g1 g0;go_upto_region 6 with fail;refine Zap (fun W:World=>W.cell? ⟨b1,of1+j,none⟩=some (.bool y1)/\W.cell? ⟨b2,of2+j,none⟩=some (.bool y2)) false 9
    [(0,false),(1,false),(2,false),(3,false),(4,false),(5,false),(6,false),(7,false),(8,false)] (by kernel_rfl) (by kernel_rfl) ⟨c1,c2⟩ ?_
   simp only[planned,Zde]
   iterate 9
    refine Zaq rfl ?_;apply Exists.intro;refine⟨fun w' hw=>?_,?_⟩
    . obtain⟨h1,h2⟩:=hw;go_simp;rfl
    simp only[Zai]
   refine Zeg ?_;clear c1 c2;cases y1<;>cases y2
   .
    have g3:=Hd (g5.out rfl);go_wp2_with fail;go_roundw
    case rel=>exact⟨j+1,by omega,by go_num,g2,g3⟩
    case measure=>simp[intOf];omega
   . have HF:Hid (Ending.returned (.bool false)=.returned (.bool (decide (bx=bz)))):=Hd (by rw[decide_eq_false (g6.out (by simp))]);go_wp2_with fail;go_ret;exact⟨HF.out,g2.out⟩
   . have HF:Hid (Ending.returned (.bool false)=.returned (.bool (decide (bx=bz)))):=Hd (by rw[decide_eq_false (g6.out (by simp))]);go_wp2_with fail;go_ret;exact⟨HF.out,g2.out⟩
   .
    have g3:=Hd (g5.out rfl);go_wp2_with fail;go_roundw
    case rel=>exact⟨j+1,by omega,by go_num,g2,g3⟩
    case measure=>simp[intOf];omega
  .
   have HF:Hid (Ending.returned (.bool true)=.returned (.bool (decide (bx=bz)))):=Hd (by
    rw[decide_eq_true];refine List.ext_getElem g7.out.symm fun i h1 h2=>?_
    have:=HQ.out i (by have:=HL.out;omega);simpa [List.getD,h1,h2] using this)
   have g9:¬ (j:Int)<(L:Int):=by omega
   go_wp2_with fail;go_ret;exact⟨HF.out,HB.out⟩
open Go.RowKit
def cofF (F:BF)(v:Nat)(b:Bool):BF:=fun ρ=>F fun u=>if u=v then b else ρ u
theorem Zvp {u v x r:Nat}(hu:u<v):bitB (2^v*x+r) u=bitB r u:=by
 obtain⟨k,rfl⟩:∃ k,v=u+(k+1):=⟨v-u-1,by omega⟩;unfold bitB;have e1:(2:Nat)^(u+(k+1))*x=2^u*(2*(2^k*x)):=by rw[Nat.pow_add,Nat.pow_succ];ac_rfl
 rw[e1,Nat.mul_add_div (Nat.pow_pos (by omega)),Nat.mul_add_mod]
theorem Yaz {v q c r:Nat}(hr:r<2^v)(hc:c<2):bitB (2^v*(2*q+c)+r) v=decide (c=1):=by
 unfold bitB;rw[Nat.mul_add_div (Nat.pow_pos (by omega)),Nat.div_eq_of_lt hr,Nat.add_zero,Nat.mul_add_mod,Nat.mod_eq_of_lt hc]
theorem Zr5 {u v q c r:Nat}(hr:r<2^v)(hc:c<2)(hu:v<u):bitB (2^v*(2*q+c)+r) u=decide (q/2^(u-v-1)%2=1):=by
 obtain⟨k,rfl⟩:∃ k,u=v+(k+1):=⟨u-v-1,by omega⟩;unfold bitB;have e1:(2:Nat)^(v+(k+1))=2^v*(2*2^k):=by rw[Nat.pow_add,Nat.pow_succ];ac_rfl
 have e2:v+(k+1)-v-1=k:=by omega
 rw[e1,e2,<- Nat.div_div_eq_div_mul,Nat.mul_add_div (Nat.pow_pos (by omega)),Nat.div_eq_of_lt hr,Nat.add_zero,<- Nat.div_div_eq_div_mul];have e3:(2*q+c)/2=q:=by omega
 rw[e3]
def cofI (j v:Nat)(b:Bool):Nat:=if bitB j v && !b then j-2^v else if !bitB j v&&b then j+2^v else j
theorem Yae (j v:Nat):∃ q c r,r<2^v/\c<2/\j=2^v*(2*q+c)+r:=by
 have h:=Nat.div_add_mod j (2^v);refine⟨j/2^v/2,j/2^v%2,j%2^v,Nat.mod_lt _ (Nat.pow_pos (by omega)),by omega,?_⟩;have e:2*(j/2^v/2)+j/2^v%2=j/2^v:=by omega
 rw[e];exact h.symm
theorem Zo1 (j v:Nat)(b:Bool):∀ u,bitB (cofI j v b) u=if u=v then b else bitB j u:=by
 obtain⟨q,c,r,hr,hc,rfl⟩:=Yae j v;have g1:=Yaz (q:=q) hr hc;have key:∃ c':Nat,c'<2/\decide (c'=1)=b/\cofI (2^v*(2*q+c)+r) v b=2^v*(2*q+c')+r:=by
  unfold cofI;rw[g1];have h2:2^v*(2*q+1)=2^v*(2*q+0)+2^v:=by simp[Nat.mul_add]
  rcases(by omega:c=0\/c=1) with rfl|rfl
  .
   cases b with
   | false=>exact⟨0,by omega,rfl,by simp⟩
   | true=>exact⟨1,by omega,rfl,by simp only[Nat.zero_ne_one,decide_false,Bool.not_true,Bool.and_self,Bool.not_false,Bool.false_eq_true,if_false,if_true];omega⟩
  .
   cases b with
   | true=>exact⟨1,by omega,rfl,by simp⟩
   | false=>exact⟨0,by omega,rfl,by simp only[decide_true,Bool.not_false,Bool.and_self,if_true];omega⟩
 obtain⟨c',g0,hb,e⟩:=key;intro u;rw[e];rcases Nat.lt_trichotomy u v with h|rfl|h
 . rw[if_neg (by omega),Zvp h,Zvp h]
 . rw[if_pos rfl,Yaz hr g0,hb]
 . rw[if_neg (by omega),Zr5 hr g0 h,Zr5 hr hc h]
theorem Ybq {n i:Nat}(h:∀ u,n<=u->bitB i u=false):i<2^n:=by
 rcases Nat.lt_or_ge i (2^n) with h'|h'
 . exact h'
 .
  exfalso;have hz:∀ k,i/2^n≠0->(∀ u,n<=u->bitB i u=false)->i/2^n<2^k->False:=by
   intro k
   induction k with
   | zero=>intro h1 _ h2;simp at h2;omega
   | succ k ih =>
     intro h1 h2 h3;refine ih h1 h2 ?_;have hb:=h2 (n+k) (by omega);unfold bitB at hb;rw[decide_eq_false_iff_not] at hb;have e:i/2^(n+k)=i/2^n/2^k:=by rw[Nat.pow_add,Nat.div_div_eq_div_mul]
     rw[e] at hb;have h4:i/2^n/2^k<2:=by
      rw[Nat.div_lt_iff_lt_mul (Nat.pow_pos (by omega))];rw[Nat.pow_succ,Nat.mul_comm] at h3;exact h3
     have h5:i/2^n/2^k=0:=by
      generalize i/2^n/2^k=X at hb h4
      omega
     exact(Nat.div_eq_zero_iff_lt (Nat.pow_pos (by omega))).1 h5
  have h0:i/2^n≠0:=by
   intro e;have:=(Nat.div_eq_zero_iff_lt (Nat.pow_pos (by omega))).1 e;omega
  exact hz (i/2^n) h0 h (Nat.lt_two_pow_self)
theorem Zq3 {n j v:Nat}{b:Bool}(hj:j<2^n)(hv:v<n):cofI j v b<2^n:=by
 refine Ybq fun u hu=>?_
 rw[Zo1,if_neg (by omega)];unfold bitB;rw[decide_eq_false_iff_not,Nat.div_eq_of_lt (Nat.lt_of_lt_of_le hj (Nat.pow_le_pow_right (by omega) hu))];omega
theorem Zv1 {n:Nat}{F:BF}{j v:Nat}{b:Bool}(hj:j<2^n)(hv:v<n):(tabB n F).getD (cofI j v b) false=cofF F v b (Zcv (Zcy j n)):=by
 rw[Zdc (Zq3 hj hv)];unfold cofF;congr 1;funext u;rw[Zi7,Zo1,Zi7]
 by_cases e:u=v
 . subst e;simp[hv]
 . rw[if_neg e,if_neg e]
open Go.RowKit
theorem Zuh (n:Nat)(F:BF)(v:Nat)(b:Bool)(hn:n<=16)(hv:v<n)(au:Option Addr)(cu:Nat)(w:World)(h1:Zbp w au (tabB n F)) :
 Calls prog 103 #[.slice au (2^n) cu,.int .i64 v,.bool b] w fun x w'=>∃ g,x=.returned (.slice (some ⟨g,0,none⟩) (2^n) (2^n))/\Zbu w' (.slice (some ⟨g,0,none⟩) (2^n) (2^n)) (tabB n (cofF F v b))/\Below w.heap.size w w':=by
 have H1:=Hd h1;have ge:2^n<=1000000:=Zey hn;have gi:2^v<=1000000:=Zey (by omega);have gn:Hid (∀ i,i<=1048576->∀ W,Calls prog 49 #[.int .i64 (i:Nat),.int .i64 (v:Nat)] W fun x w'=>x=.returned (.bool (bitB i v))/\W=w'):=Hd fun i hi W=>Zlx i v hi (by omega) W
 obtain⟨G,hG⟩:∃ G:Nat->Bool,G=fun i=>cofF F v b (Zcv (Zcy i n)):=⟨_,rfl⟩
 have HT:Hid (tabB n (cofF F v b)=(List.range (2^n)).map G):=Hd (by rw[hG];rfl);have gg:Hid (∀ j,j<2^n->cofI j v b<2^n/\(tabB n F).getD (cofI j v b) false=G j):=Hd fun j hj=>⟨Zq3 hj hv,by rw[hG];exact Zv1 hj hv⟩
 have gf:Hid ((tabB n F).length=2^n):=Hd (Zar n F);rw[HT.out];obtain⟨L,hL⟩:∃ L,L=2^n:=⟨_,rfl⟩;obtain⟨p,hp⟩:∃ p,p=2^v:=⟨_,rfl⟩;have gh:Hid (∀ W,Calls prog 98 #[.int .i64 (v:Nat)] W fun x w'=>x=.returned (.int .i64 (p:Nat))/\W=w'):=Hd fun W=>by rw[hp];exact Znh v (by omega) W
 have HCI:Hid (∀ j,cofI j v b=if bitB j v && !b then j-p else if !bitB j v&&b then j+p else j):=Hd fun j=>by rw[hp];rfl
 have gp:Hid (∀ j,bitB j v=true->p<=j):=Hd fun j hj=>by
  rcases Nat.lt_or_ge j p with h|h
  . unfold bitB at hj;rw[<- hp,Nat.div_eq_of_lt h] at hj;simp at hj
  . exact h
 rw[<- hL] at ge gg gf ⊢;rw[<- hp] at gi;clear hL hp h1 hG HT
 go_enter func103,ntmps103
 go_wp2_with (at_make;refine Zc3 Zdh rfl _ _ rfl w.heap.size w _ L rfl rfl rfl (by omega) (Nat.le_refl _) (Below.refl _ _) ?_;intro g w1 g6 gd hs1 g1 gm gl;clear gl)
 go_loopw [8,9] (fun s8 s9 wr=>∃ j:Nat,j<=L/\s8=.int .i64 j/\Hid (OwnB wr w.heap.size (.slice (some ⟨g,0,none⟩) L L) (((List.range L).map G).take j++(List.replicate L false).drop j))/\Hid (Below w.heap.size w wr)) (fun s8 _ _=>L-(intOf s8).toNat)
 case atStart=>exact⟨0,by omega,rfl,Hd (by unfold OwnB;simpa [Zbj] using g6),Hd gd⟩
 case round =>
  clear g6 gd;obtain⟨j,hj,rfl,g3,g5⟩:=hrel
  by_cases ga:j<L
  .
   have gk:j<((List.range L).map G).length:=by simp;exact ga
   obtain⟨gb,g9⟩:=gg.out j ga;have g0:=HCI.out j;have g4:=gp.out j;obtain⟨kk,gc⟩:∃ kk,kk=cofI j v b:=⟨_,rfl⟩;rw[<- gc] at gb g9 g0;obtain⟨b1,of1,e1,c1⟩:=(H1.out.below g5.out).cells kk (by rw[gf.out];exact gb);rw[g9] at c1;have q0:=g3.out.cellB j (by simp;omega);have p0:=g3.out.frozen j;subst e1;obtain⟨y,hy⟩:∃ y,y=G j:=⟨_,rfl⟩;rw[<- hy] at c1;have go:Hid (((List.range L).map G)[j]=y):=Hd (by rw[hy];simp);obtain⟨t,ht⟩:∃ t,t=bitB j v:=⟨_,rfl⟩;rw[<- ht] at g0 g4;have g2:Hid (∀ W,Calls prog 49 #[.int .i64 (j:Nat),.int .i64 (v:Nat)] W fun x w'=>x=.returned (.bool t)/\W=w'):=Hd fun W=>by rw[ht];exact gn.out j (by omega) W
   have gr:(kk:Int)<(L:Int):=by omega
   have g7:Hid (OwnB (wr.setCell ⟨g,j,none⟩ (.bool y)) w.heap.size (.slice (some ⟨g,0,none⟩) L L) (((List.range L).map G).take (j+1)++(List.replicate L false).drop (j+1))):=Hd (by
    rw[<- Zdx (by simp;omega) gk go.out];exact g3.out.setB j y)
   have g8:Hid (Below w.heap.size w (wr.setCell ⟨g,j,none⟩ (.bool y))):=Hd (g5.out.setCell gm _);clear g9 hy ht gc g3 H1;cases t<;>cases b
   .
    have g1:kk=j:=by simpa using g0
    subst g1;clear g0 g4;go_wp2_with fail;refine(g2.out _).mono ?_;rintro x w2 ⟨rfl,rfl⟩;go_wp2_with fail;refine(g2.out _).mono ?_;rintro x w2 ⟨rfl,rfl⟩;go_wp2_with fail;go_roundw
    case rel=>exact⟨kk+1,by omega,by go_num,g7,g8⟩
    case measure=>simp[intOf];omega
   .
    have g1:kk=j+p:=by simpa using g0
    have gj:(j:Int)+(p:Int)=(kk:Nat):=by omega
    clear g0 g4 g1;go_wp2_with fail;refine(g2.out _).mono ?_;rintro x w2 ⟨rfl,rfl⟩;go_wp2_with fail;refine(g2.out _).mono ?_;rintro x w2 ⟨rfl,rfl⟩;go_wp2_with fail;refine(gh.out _).mono ?_;rintro x w2 ⟨rfl,rfl⟩;go_wp2_with fail;go_roundw
    case rel=>exact⟨j+1,by omega,by go_num,g7,g8⟩
    case measure=>simp[intOf];omega
   .
    have g1:kk=j-p:=by simpa using g0
    have:=g4 rfl;have gj:(j:Int)-(p:Int)=(kk:Nat):=by omega
    clear g0 g4 g1;go_wp2_with fail;refine(g2.out _).mono ?_;rintro x w2 ⟨rfl,rfl⟩;go_wp2_with fail;refine(gh.out _).mono ?_;rintro x w2 ⟨rfl,rfl⟩;go_wp2_with fail;refine(g2.out _).mono ?_;rintro x w2 ⟨rfl,rfl⟩;go_wp2_with fail;go_roundw
    case rel=>exact⟨j+1,by omega,by go_num,g7,g8⟩
    case measure=>simp[intOf];omega
   .
    have g1:kk=j:=by simpa using g0
    subst g1;clear g0 g4;go_wp2_with fail;refine(g2.out _).mono ?_;rintro x w2 ⟨rfl,rfl⟩;go_wp2_with fail;refine(g2.out _).mono ?_;rintro x w2 ⟨rfl,rfl⟩;go_wp2_with fail;go_roundw
    case rel=>exact⟨kk+1,by omega,by go_num,g7,g8⟩
    case measure=>simp[intOf];omega
  .
   obtain rfl:j=L:=by omega
   have gq:((List.range j).map G).length=j:=by simp
   have HF:Hid (Zbu wr (.slice (some ⟨g,0,none⟩) j j) ((List.range j).map G)):=Hd (by
    have h:=g3.out;rw[List.take_of_length_le (by omega),List.drop_of_length_le (by simp),List.append_nil] at h;exact OwnC.boolsIs h (by simp;exact ge))
   go_wp2_with fail;go_ret;exact⟨g,rfl,HF.out,g5.out⟩
def Zcu (n:Nat)(F:BF)(v:Nat):Bool := !decide (tabB n (cofF F v false)=tabB n (cofF F v true))
theorem Zqd (n:Nat)(F:BF)(v:Nat)(hn:n<=16)(hv:v<n)(au:Option Addr)(cu:Nat)(w:World)(h1:Zbp w au (tabB n F)) :
 Calls prog 131 #[.slice au (2^n) cu,.int .i64 v] w fun x w'=>x=.returned (.bool (Zcu n F v))/\Below w.heap.size w w':=by
 have HC:Hid (∀ b W,Below w.heap.size w W->Calls prog 103 #[.slice au (2^n) cu,.int .i64 (v:Nat),.bool b] W fun x w'=>∃ g,x=.returned (.slice (some ⟨g,0,none⟩) (2^n) (2^n))/\Zbu w' (.slice (some ⟨g,0,none⟩) (2^n) (2^n)) (tabB n (cofF F v b))/\Below W.heap.size W w') :=
  Hd fun b W hb=>Zuh n F v b hn hv au cu W (h1.below hb)
 have g3:Hid (∀ (a1 a2:Nat) W,Zbu W (.slice (some ⟨a1,0,none⟩) (2^n) (2^n)) (tabB n (cofF F v false))->Zbu W (.slice (some ⟨a2,0,none⟩) (2^n) (2^n)) (tabB n (cofF F v true))->Calls prog 130 #[.slice (some ⟨a1,0,none⟩) (2^n) (2^n),.slice (some ⟨a2,0,none⟩) (2^n) (2^n)] W fun x w'=>x=.returned (.bool (decide (tabB n (cofF F v false)=tabB n (cofF F v true))))/\Below W.heap.size W w'):=Hd fun a1 a2 W q1 q2=>by
  obtain⟨b1,d1,e1,k1,_⟩:=q1;obtain⟨b2,d2,e2,k2,_⟩:=q2;injection e1 with e1
  injection e2 with e2
  subst e1 e2;have:=Ziw (tabB n (cofF F v false)) (tabB n (cofF F v true)) (by simp[Zar]) _ _ (2^n) (2^n) W k1 k2;rw[Zar] at this;exact this
 unfold Zcu;obtain⟨L,hL⟩:∃ L,L=2^n:=⟨_,rfl⟩;rw[<- hL] at HC g3 ⊢;obtain⟨d,hd⟩:∃ d,d=decide (tabB n (cofF F v false)=tabB n (cofF F v true)):=⟨_,rfl⟩;rw[<- hd] at g3 ⊢;clear h1 hL hd
 go_enter func131,ntmps131
 go_wp2_with fail;refine(HC.out false w (Below.refl _ _)).mono ?_;rintro x w1 ⟨g1,rfl,k1,g6⟩;have K1:=Hd k1;have g4:=Hd g6;clear k1 g6;go_wp2_with fail;refine(HC.out true w1 g4.out).mono ?_;rintro x w2 ⟨g2,rfl,k2,g0⟩;have HS:=Hd (g3.out g1 g2 w2 (K1.out.below g0) k2);have HB2:=Hd (g4.out.trans (g0.mono g4.out.size));clear k2 g0 K1;go_wp2_with fail;refine HS.out.mono ?_;rintro x w3 ⟨rfl,g5⟩;have g7:=Hd (HB2.out.trans (g5.mono HB2.out.size));clear g5 HS;go_wp2_with fail;go_ret;exact⟨rfl,g7.out⟩
def topR (n:Nat)(F:BF):List Nat->Int
 | []=>-1
 | v::l=>if Zcu n F v then (v:Nat) else topR n F l
theorem Zul (n:Nat)(F:BF)(l:List Nat)(hl:l.length<=64)(hlt:∀ v∈l,v<n)(hn:n<=16)(au al:Option Addr)(cu cl:Nat)(w:World)(h1:Zbp w au (tabB n F))(h2:Zay w al (l.map Int.ofNat)) :
 Calls prog 102 #[.slice au (2^n) cu,.slice al l.length cl] w fun x w'=>x=.returned (.int .i64 (topR n F l))/\Below w.heap.size w w':=by
 have HH:Hid (∀ v W,v<n->Below w.heap.size w W->Calls prog 131 #[.slice au (2^n) cu,.int .i64 (v:Nat)] W fun x w'=>x=.returned (.bool (Zcu n F v))/\Below W.heap.size W w'):=Hd fun v W hv hb=>Zqd n F v hn hv au cu W (h1.below hb)
 have H2:=Hd h2;have g6:=Hd hlt;obtain⟨N,hN⟩:∃ N,N=topR n F l:=⟨_,rfl⟩;have HN:Hid (topR n F (l.drop 0)=N):=Hd hN.symm;rw[<- hN];obtain⟨L,hL⟩:∃ L,L=2^n:=⟨_,rfl⟩;rw[<- hL] at HH ⊢;clear h1 h2 hlt hN hL
 go_enter func102,ntmps102
 go_wp2_with fail
 go_loopw [4,5] (fun s4 s5 wr=>∃ i:Nat,i<=l.length/\s5=.int .i64 i/\Hid (Below w.heap.size w wr)/\Hid (topR n F (l.drop i)=N)) (fun _ s5 _=>l.length-(intOf s5).toNat)
 case atStart=>exact⟨0,Nat.zero_le _,rfl,Hd (Below.refl _ _),HN⟩
 case round =>
  obtain⟨i,hi,rfl,HB,g3⟩:=hrel
  by_cases hlt:i<l.length
  .
   have g4:(i:Int)<(l.length:Int):=by omega
   obtain⟨b,off,rfl,c0⟩:=(H2.out.below HB.out).cells i (by simpa using hlt);rw[Zvm hlt] at c0;have HV:Hid (l.drop i=l.getD i 0::l.drop (i+1)):=Hd (by rw[List.drop_eq_getElem_cons hlt];simp[List.getD,hlt]);have g2:l.getD i 0<n:=g6.out _ (by simp[List.getD,hlt]);obtain⟨v,hv⟩:∃ v,v=l.getD i 0:=⟨_,rfl⟩;rw[<- hv] at c0 HV g2;have HC:=Hd (HH.out v wr g2 HB.out);obtain⟨t,ht⟩:∃ t,t=Zcu n F v:=⟨_,rfl⟩;rw[<- ht] at HC;have g1:Hid (N=if t then (v:Int) else topR n F (l.drop (i+1))):=Hd (by rw[<- g3.out,HV.out,ht];rfl);clear hv ht;cases t with
   | true =>
     go_wp2_with fail;refine HC.out.mono ?_;rintro x w2 ⟨rfl,g0⟩;have c1:=(g0.cell (p:=⟨b,off+i,none⟩) (Zab c0)).trans c0;have HB2:=Hd (HB.out.trans (g0.mono HB.out.size));have HF:Hid (Ending.returned (.int .i64 (v:Nat))=.returned (.int .i64 N)):=Hd (by rw[g1.out];rfl);clear g0 c0 HC g1;go_wp2_with fail;go_ret;exact⟨HF.out,HB2.out⟩
   | false =>
     go_wp2_with fail;refine HC.out.mono ?_;rintro x w2 ⟨rfl,g0⟩;have HB2:=Hd (HB.out.trans (g0.mono HB.out.size));have g5:Hid (topR n F (l.drop (i+1))=N):=Hd (by rw[g1.out];rfl);clear g0 c0 HC g1;go_wp2_with fail;go_roundw
     case rel=>exact⟨i+1,by omega,by go_num,HB2,g5⟩
     case measure=>simp[intOf];omega
  .
   have g4:¬ (i:Int)<(l.length:Int):=by omega
   have HF:Hid (Ending.returned (.int .i64 (-1))=.returned (.int .i64 N)):=Hd (by
    rw[<- g3.out,List.drop_eq_nil_of_le (by omega)];rfl)
   go_wp2_with fail;go_ret;exact⟨HF.out,HB.out⟩
open Go.RowKit
theorem Zr1 {n:Nat}{F:BF}:∀ (l:List Nat) (k:Nat),k<l.length->Zcu n F (l.getD k 0)=true->(∀ j,j<k->Zcu n F (l.getD j 0)=false)->topR n F l=(l.getD k 0:Nat)
 | [],k,hk,_,_=>by simp at hk
 | v::l,0,_,h,_=>by
   show (if Zcu n F v then ((v:Nat):Int) else topR n F l)=(v:Nat)
   have h':Zcu n F v=true:=h;rw[h',if_pos rfl]
 | v::l,k+1,hk,h,hj=>by
   show (if Zcu n F v then ((v:Nat):Int) else topR n F l)=_
   have h0:Zcu n F v=false:=hj 0 (by omega);rw[h0];have:=Zr1 l k (by simpa using hk) (by simpa using h) (fun j hjk=>by simpa using hj (j+1) (by omega));simpa using this
section
variable {d:Zae}{V:Nat->BF}
theorem Zal.dep (h:Zal d V){f:Nat}(hf:okE (Zaa d) f):DepF d.vars.length (ef V f):=fun ρ ρ' hr=>h.dag.indep _ f (Nat.le_refl _) hf ρ ρ' fun v hv _=>hr v hv
theorem Zif {n:Nat}{F:BF}(h:DepF n F)(v:Nat)(b:Bool):DepF n (cofF F v b):=fun ρ ρ' hr=>h _ _ fun u hu=>by
 show (if u=v then b else ρ u)=if u=v then b else ρ' u
 rw[hr u hu]
theorem Zek (F:BF)(v:Nat)(b:Bool)(ρ:Nat->Bool):cofF F v b ρ=F (upd ρ v b):=rfl
theorem Zin {n:Nat}{F:BF}(h:DepF n F)(v:Nat):Zcu n F v=true↔cofF F v false≠cofF F v true:=by
 unfold Zcu;rw[Bool.not_eq_true',decide_eq_false_iff_not];exact⟨fun h1 e=>h1 (by rw[e]),fun h1 e=>h1 (Zon (Zif h v _) (Zif h v _) e)⟩
theorem Zy9 (h:Zal d V){f v:Nat}(hf:okE (Zaa d) f)(hl:levN d v<lvE d.vars.length (levN d) (Zaa d) f):Zcu d.vars.length (ef V f) v=false:=by
 rw[<- Bool.not_eq_true,Zin (h.dep hf)];intro g0;refine g0 ?_;funext ρ;rw[Zek,Zek,h.dag.indep_var hf hl,h.dag.indep_var hf hl]
theorem Zsc (V:Nat->BF)(f:Nat)(ρ:Nat->Bool):ef V f ρ=(if f%2=0 then V (f/2) ρ else !V (f/2) ρ):=by
 unfold ef;split<;>simp_all
theorem Yak (h:Zal d V){f:Nat}{b:BN}(hb:Zaa d (f/2)=some b):topR d.vars.length (ef V f) d.vars=(b.v:Nat)/\b.v<d.vars.length:=by
 have hf:okE (Zaa d) f:=.inr ⟨b,hb⟩;have g1:=h.dag.var _ _ hb;have g2:=h.dag.lt _ g1;have g3:lvE d.vars.length (levN d) (Zaa d) f=levN d b.v:=by unfold lvE;rw[hb]
 refine⟨?_,g1⟩;have g0:=h.inv b.v g1;rw[Zr1 d.vars (levN d b.v) g2 ?_ ?_,g0]
 .
  rw[g0,Zin (h.dep hf)];intro he;have hc:ef V b.hi=ef V b.lo:=by
   funext ρ;have h1:=h.dag.cofs hb ρ;have h2:ef V f (upd ρ b.v false)=ef V f (upd ρ b.v true):=congrFun he ρ;rw[Zsc,Zsc,h1.1,h1.2] at h2;split at h2
   . exact h2.symm
   . have:=congrArg not h2;simpa using this.symm
  have:=h.dag.canon (h.dag.okHi _ _ hb) (h.dag.okLo _ _ hb) hc;exact h.dag.ne _ _ hb this.symm
 . intro j hj;have h1:=h.vlt j (by omega);exact Zy9 h hf (by rw[g3,h1.2];exact hj)
end
open Go.RowKit
section
variable {d:Zae}{V:Nat->BF}
theorem Yaj {f:Nat}{top least:Int}(h:TopS d [f] top least):(top = -1/\Zaa d (f/2)=none)\/∃ b,Zaa d (f/2)=some b/\top=(b.v:Nat):=by
 rcases h with ⟨h1,_,h3⟩|⟨v,h1,_,_,⟨e,he,b,hb,hv⟩,_⟩
 . exact .inl ⟨h1,h3 f (by simp)⟩
 . simp only[List.mem_singleton] at he;subst he;exact .inr ⟨b,hb,by rw[h1,hv]⟩
end
open Go.RowKit
def Ind (F:BF)(v:Nat):Prop:=∀ b,cofF F v b=F
def SatF (C:BF):Prop:=∃ ρ,C ρ=true
def Dp (l:List Nat)(F:BF):Prop:=∀ ρ ρ':Nat->Bool,(∀ u∈l,ρ u=ρ' u)->F ρ=F ρ'
open Classical in
noncomputable def conB (C:BF)(v:Nat)(x:Bool):Bool:=if SatF (cofF C v x) then x else !x
noncomputable def constrF:List Nat->BF->BF->BF
 | [],F,_=>F
 | v::l,F,C=>fun ρ=>constrF l (cofF F v (conB C v (ρ v))) (cofF C v (conB C v (ρ v))) ρ
theorem Zky (F:BF)(v:Nat)(b c:Bool):cofF (cofF F v b) v c=cofF F v b:=by
 funext ρ;unfold cofF;congr 1;funext u
 by_cases h:u=v<;>simp[h]
theorem Zo0 (F:BF){u v:Nat}(h:u≠v)(a b:Bool):cofF (cofF F u a) v b=cofF (cofF F v b) u a:=by
 funext ρ;unfold cofF;congr 1;funext x;dsimp only
 by_cases h1:x=u
 .
  have h2:¬ x=v:=fun e=>h (h1.symm.trans e)
  simp only[if_pos h1,if_neg h2]
 .
  by_cases h2:x=v
  . simp only[if_neg h1,if_pos h2]
  . simp only[if_neg h1,if_neg h2]
theorem Zkx (F:BF)(v:Nat)(ρ:Nat->Bool):cofF F v (ρ v) ρ=F ρ:=by
 unfold cofF;congr 1;funext u
 by_cases h:u=v
 . rw[if_pos h,h]
 . rw[if_neg h]
theorem Zdv {F:BF}{v:Nat}{ρ:Nat->Bool}{b:Bool}(h:ρ v=b):cofF F v b ρ=F ρ:=by rw[<- h,Zkx]
theorem Ind.cof {F:BF}{u:Nat}(h:Ind F u)(v:Nat)(b:Bool):Ind (cofF F v b) u:=fun c=>by
 by_cases e:u=v
 . subst e;exact Zky F u b c
 . rw[Zo0 F (fun h=>e h.symm),h c]
theorem Znt (F:BF)(v:Nat)(b:Bool):Ind (cofF F v b) v:=fun c=>Zky F v b c
theorem Ind.at {F:BF}{v:Nat}(h:Ind F v)(ρ:Nat->Bool)(b:Bool):F (upd ρ v b)=F ρ:=by
 have:=congrFun (h b) ρ
 rwa [Zek] at this
theorem Ind.of {F:BF}{v:Nat}(h:∀ ρ b,F (upd ρ v b)=F ρ):Ind F v:=fun b=>by
 funext ρ;rw[Zek];exact h ρ b
theorem Zwo {F:BF}{v:Nat}(h:cofF F v false=cofF F v true):Ind F v:=fun b=>by
 funext ρ;have e:cofF F v b=cofF F v (ρ v):=by
  cases b<;>cases ρ v<;>simp[h]
 rw[e,Zkx]
theorem Zru {C:BF}(h:SatF C)(v:Nat)(b:Bool):SatF (cofF C v b)\/SatF (cofF C v (!b)):=by
 obtain⟨ρ,hρ⟩:=h
 by_cases e:ρ v=b
 . exact .inl ⟨ρ,by rw[Zdv e];exact hρ⟩
 .
  have:ρ v = !b:=by cases hb:b<;>cases hr:ρ v<;>simp_all
  exact .inr ⟨ρ,by rw[Zdv this];exact hρ⟩
theorem Zr8 {C:BF}(h:SatF C)(v:Nat)(x:Bool):SatF (cofF C v (conB C v x)):=by
 unfold conB
 by_cases e:SatF (cofF C v x)
 . rw[if_pos e];exact e
 . rw[if_neg e];exact(Zru h v x).resolve_left e
theorem Zkc {C:BF}{v:Nat}{x:Bool}(h:SatF (cofF C v x)):conB C v x=x:=if_pos h
theorem Zys {C:BF}{v:Nat}{x:Bool}(h:¬ SatF (cofF C v x)):conB C v x = !x:=if_neg h
theorem Zk0 {l:List Nat}{F C:BF}{v:Nat}(hF:Ind F v)(hC:Ind C v):constrF (v::l) F C=constrF l F C:=by
 funext ρ
 show constrF l (cofF F v _) (cofF C v _) ρ=_
 rw[hF,hC]
theorem Zmm {l:List Nat}{F C:BF}{v:Nat}(b:Bool)(hs:SatF C)(h:¬ SatF (cofF C v (!b))):constrF (v::l) F C=constrF l (cofF F v b) (cofF C v b):=by
 have hb:SatF (cofF C v b):=(Zru hs v b).resolve_right h;have e:∀ x,conB C v x=b:=fun x=>by
  by_cases e:x=b
  . rw[e];exact Zkc hb
  .
   have:x = !b:=by cases x<;>cases b<;>simp_all
   subst this;rw[Zys h];simp
 funext ρ
 show constrF l (cofF F v _) (cofF C v _) ρ=_
 rw[e]
theorem Zq5 {l:List Nat}{F C:BF}{v:Nat}(h0:SatF (cofF C v false))(h1:SatF (cofF C v true)):constrF (v::l) F C=iteF v (constrF l (cofF F v true) (cofF C v true)) (constrF l (cofF F v false) (cofF C v false)):=by
 funext ρ
 show constrF l (cofF F v _) (cofF C v _) ρ=if ρ v then _ else _
 cases hv:ρ v with
 | true=>rw[Zkc h1];rfl
 | false=>rw[Zkc h0];rfl
theorem Zg4:∀ (l:List Nat) {F C:BF} {u:Nat},Ind F u->Ind C u->Ind (constrF l F C) u
 | [],F,C,u,hF,_=>hF
 | v::l,F,C,u,hF,hC=>by
   refine Ind.of fun ρ b=>?_
   show constrF l (cofF F v (conB C v (upd ρ u b v))) (cofF C v (conB C v (upd ρ u b v))) (upd ρ u b)=constrF l (cofF F v (conB C v (ρ v))) (cofF C v (conB C v (ρ v))) ρ
   by_cases e:v=u
   . subst e;rw[hF,hC,hF,hC];exact(Zg4 l hF hC).at ρ b
   . rw[Zgz ρ b e];exact(Zg4 l (hF.cof v _) (hC.cof v _)).at ρ b
theorem Zgg:∀ (l:List Nat) {F C:BF} {ρ:Nat->Bool},C ρ=true->constrF l F C ρ=F ρ
 | [],F,C,ρ,_=>rfl
 | v::l,F,C,ρ,h=>by
   have hs:SatF (cofF C v (ρ v)):=⟨ρ,by rw[Zkx];exact h⟩
   show constrF l (cofF F v (conB C v (ρ v))) (cofF C v (conB C v (ρ v))) ρ=_
   rw[Zkc hs,Zgg l (by rw[Zkx];exact h),Zkx]
theorem Dp.cof {l:List Nat}{F:BF}{v:Nat}(h:Dp (v::l) F)(b:Bool):Dp l (cofF F v b):=fun ρ ρ' he=>h _ _ fun u hu=>by
 by_cases e:u=v
 . simp[e]
 .
  rw[if_neg e,if_neg e];rcases List.mem_cons.1 hu with h1|h1
  . exact absurd h1 e
  . exact he u h1
theorem Zo4 {l:List Nat}{F C:BF}(h:∀ ρ ρ',F ρ=F ρ'):constrF l F C=F:=by
 induction l generalizing F C with
 | nil=>rfl
 | cons v l ih =>
   have e:∀ b,cofF F v b=F:=fun b=>by funext ρ;exact h _ _
   funext ρ
   show constrF l (cofF F v _) (cofF C v _) ρ=_
   rw[e,ih h]
theorem Zq7 {l:List Nat}{F C:BF}(h:∀ ρ,C ρ=true):constrF l F C=F:=by
 funext ρ;exact Zgg l (h ρ)
theorem Zg5:∀ (p:List Nat) {l:List Nat} {F C:BF},(∀ u∈p,Ind F u/\Ind C u)->constrF (p++l) F C=constrF l F C
 | [],l,F,C,_=>rfl
 | v::p,l,F,C,h=>by
   obtain⟨h1,h2⟩:=h v (List.mem_cons_self ..);rw[List.cons_append,Zk0 h1 h2];exact Zg5 p fun u hu=>h u (List.mem_cons_of_mem _ hu)
theorem Yc7 {n:Nat}{F:BF}{l:List Nat}(h:DepF n F)(hl:∀ v,v<n->v∈l):Dp l F:=fun ρ ρ' he=>h ρ ρ' fun v hv=>he v (hl v hv)
def Zic (F C R:BF):Prop:=(∀ ρ,C ρ=true->R ρ=F ρ)/\∀ u,Ind F u->Ind R u
theorem Zm5 (F C:BF):Zic F C F:=⟨fun _ _=>rfl,fun _ h=>h⟩
theorem Zxy {F C R:BF}{v:Nat}(b:Bool)(hs:¬ SatF (cofF C v (!b)))(h:Zic (cofF F v b) (cofF C v b) R):Zic F C R:=by
 refine⟨fun ρ hc=>?_,fun u hu=>h.2 u (hu.cof v b)⟩;have e:ρ v=b:=by
  by_cases e:ρ v=b
  . exact e
  .
   exfalso;have:ρ v = !b:=by cases hb:b<;>cases hr:ρ v<;>simp_all
   exact hs ⟨ρ,by rw[Zdv this];exact hc⟩
 rw[h.1 ρ (by rw[Zdv e];exact hc),Zdv e]
theorem Zup {F C R0 R1:BF}{v:Nat}(hne:cofF F v false≠cofF F v true)(h0:Zic (cofF F v false) (cofF C v false) R0)(h1:Zic (cofF F v true) (cofF C v true) R1):Zic F C (iteF v R1 R0):=by
 refine⟨fun ρ hc=>?_,fun u hu=>Ind.of fun ρ b=>?_⟩
 .
  show (if ρ v then R1 ρ else R0 ρ)=F ρ
  cases hv:ρ v with
  | true=>rw[if_pos rfl,h1.1 ρ (by rw[Zdv hv];exact hc),Zdv hv]
  | false=>rw[if_neg (by simp),h0.1 ρ (by rw[Zdv hv];exact hc),Zdv hv]
 .
  have e:v≠u:=fun e=>by subst e;exact hne (by rw[hu,hu])
  show (if upd ρ u b v then R1 (upd ρ u b) else R0 (upd ρ u b))=if ρ v then R1 ρ else R0 ρ
  rw[Zgz ρ b e,(h1.2 u (hu.cof v _)).at,(h0.2 u (hu.cof v _)).at]
theorem Zuq {F C N R:BF}{v:Nat}(he:cofF F v false=cofF F v true)(hN:∀ ρ,N ρ=(cofF C v false ρ||cofF C v true ρ))(h:Zic (cofF F v false) N R):Zic F C R:=by
 have hi:=Zwo he;rw[hi] at h;refine⟨fun ρ hc=>h.1 ρ ?_,h.2⟩;rw[hN,Bool.or_eq_true];cases hv:ρ v with
 | true=>exact .inr (by rw[Zdv hv];exact hc)
 | false=>exact .inl (by rw[Zdv hv];exact hc)
theorem Zpv {d:Zae}{V:Nat->BF}(h:Zal d V){r L:Nat}(hr:okE (Zaa d) r)(hL:L<d.vars.length)(hi:∀ u,u<d.vars.length->levN d u<=L->Ind (ef V r) u):L<lvE d.vars.length (levN d) (Zaa d) r:=by
 rcases Nat.lt_or_ge L (lvE d.vars.length (levN d) (Zaa d) r) with c|c
 . exact c
 .
  exfalso;unfold lvE at c;cases hb:Zaa d (r/2) with
  | none=>rw[hb] at c;dsimp only at c;omega
  | some b =>
    rw[hb] at c;have hv:=h.dag.var _ _ hb;have g0:lvE d.vars.length (levN d) (Zaa d) r=levN d b.v:=by unfold lvE;rw[hb]
    obtain⟨q1,_,q3,_,q5⟩:=Zdl h hr hv (by rw[g0];exact Nat.le_refl _);have e:ef V (cofs d r b.v).1=ef V r:=by
     funext ρ;rw[<- (hi b.v hv c).at ρ false,q5,Zfb,h.dag.indep_var q1 q3];rfl
    rw[h.dag.canon q1 hr e,g0] at q3;omega
theorem Znj {d:Zae}{V:Nat->BF}(h:Zal d V){f v:Nat}(hf:okE (Zaa d) f)(hv:v<d.vars.length)(hl:levN d v<=lvE d.vars.length (levN d) (Zaa d) f) :
 ef V (cofs d f v).1=cofF (ef V f) v false/\ef V (cofs d f v).2=cofF (ef V f) v true:=by
 obtain⟨q1,q2,q3,q4,q5⟩:=Zdl h hf hv hl;constructor
 . funext ρ;rw[Zek,q5,Zfb,h.dag.indep_var q1 q3];rfl
 . funext ρ;rw[Zek,q5,Zfb,h.dag.indep_var q2 q4];rfl
theorem Zfm {d:Zae}{V:Nat->BF}(h:Zal d V){f u:Nat}(hf:okE (Zaa d) f)(hl:levN d u<lvE d.vars.length (levN d) (Zaa d) f):Ind (ef V f) u:=Ind.of fun ρ b=>h.dag.indep_var hf hl ρ b
open Go.RowKit
structure AtC (K:Law)(k:Nat)(o:Own)(w:World)(mb:Nat)(m:ManD)(V:Nat->BF)(o':Own)(w':World)(m':ManD)(V':Nat->BF):Prop where
 st:Step K o w mb m V o' w' m' V'
 waits:m'.waits=m.waits
 many:m'.d.pool.many<=m.d.pool.many+k
def Zko (K:Law)(k:Nat)(o:Own)(w:World)(mb:Nat)(m:ManD)(V:Nat->BF)(er:Int)(evt:Bool)(ev:Ev)(w':World):Prop :=
 ∃ o' m' V',Step K o w mb m V o' w' m' V'/\((er=7/\evt=false/\ev=ev0/\m'.waits=m.waits/\m'.d.pool.many=m'.d.pool.room/\m'.d.pool.many+1<=m.d.pool.many+k)\/(er=0/\evt=true/\m.waits=ev::m'.waits))
def Zbr (K:Law)(k:Nat)(o:Own)(w:World)(mb:Nat)(m:ManD)(V:Nat->BF)(A:Zae->(Nat->BF)->Nat->Prop)(e:Ending)(w':World):Prop :=
 (∃ r o' m' V',e=.returned (.int .i64 (r:Nat))/\AtC K k o w mb m V o' w' m' V'/\okE (Zaa m'.d) r/\A m'.d V' r)\/(∃ er evt ev,e=Zbg er evt ev/\Zko K k o w mb m V er evt ev w')
section
variable {K:Law}{n k k1 k2:Nat}{Od:List Nat->Prop}{room:Nat}{w0 w w' w1 w2:World}{mb:Nat}{fs:List (Int×BF)}{nx:Int}{o o' o1 o2:Own}{m m' m1 m2:ManD}{V V' V1 V2:Nat->BF}{xb:Nat}
theorem AtC.refl (h:Zcg (K m.d V) o w mb m)(hl:Zaj o w)(hk:Zal m.d V):AtC K 0 o w mb m V o w m V:=⟨⟨h,hl,Chg.refl _ _ _,hk,Ext.refl _ _,rfl,rfl⟩,rfl,Nat.le_refl _⟩
theorem AtC.trans (h:AtC K k1 o w mb m V o1 w1 m1 V1)(h':AtC K k2 o1 w1 mb m1 V1 o2 w2 m2 V2):AtC K (k1+k2) o w mb m V o2 w2 m2 V2 :=
 ⟨h.st.trans h'.st,h'.waits.trans h.waits,by have:=h.many;have:=h'.many;omega⟩
theorem AtC.mono (h:AtC K k1 o w mb m V o1 w1 m1 V1)(hk:k1<=k2):AtC K k2 o w mb m V o1 w1 m1 V1:=⟨h.st,h.waits,Nat.le_trans h.many (by omega)⟩
theorem AtC.below (h:AtC K k o w mb m V o1 w1 m1 V1)(hb:Below w1.heap.size w1 w2):AtC K k o w mb m V o1 w2 m1 V1:=⟨h.st.below hb,h.waits,h.many⟩
theorem AtC.vars (h:AtC K k o w mb m V o1 w1 m1 V1)(hv:m.d.vars.length=n):m1.d.vars.length=n:=by rw[h.st.ext.vars];exact hv
theorem Zko.after {er:Int}{evt:Bool}{ev:Ev}(h:AtC K k1 o w mb m V o1 w1 m1 V1)(h':Zko K k2 o1 w1 mb m1 V1 er evt ev w2)(hk:k1+k2<=k):Zko K k o w mb m V er evt ev w2:=by
 obtain⟨o2,m2,V2,st,⟨a1,a2,a3,a4,a5,a6⟩|⟨a1,a2,a3⟩⟩:=h'
 . have:=h.many;exact⟨o2,m2,V2,h.st.trans st,.inl ⟨a1,a2,a3,a4.trans h.waits,a5,by omega⟩⟩
 . exact⟨o2,m2,V2,h.st.trans st,.inr ⟨a1,a2,by rw[<- h.waits];exact a3⟩⟩
theorem Zv6 (hK:Zb4 K)(h:Zcg (K m.d V) o w mb m)(hlt:Zaj o w)(hx:Zce o w xb mb)(hk:Zal m.d V)(v lo hi:Nat)(hv:v<m.d.vars.length)(hlo:okE (Zaa m.d) lo)(hhi:okE (Zaa m.d) hi)
 (hgl:levN m.d v<lvE m.d.vars.length (levN m.d) (Zaa m.d) lo) (hgh:levN m.d v<lvE m.d.vars.length (levN m.d) (Zaa m.d) hi) :
 Calls prog 60 #[.pointer (some ⟨xb,0,none⟩),.int .i64 v,.int .i64 lo,.int .i64 hi] w (Zbr K 1 o w mb m V fun d V' r=>ef V' r=iteF v (ef V hi) (ef V lo)/\levN m.d v<=lvE m.d.vars.length (levN d) (Zaa d) r):=by
 refine(Zk2 hK h hlt hx hk v lo hi hlo hhi).mono ?_;rintro e w' ⟨o',m',V',st,⟨ev,h1,_,_,_,_,rfl⟩|⟨h1,_,_,(⟨er,g0,hd,_,rfl⟩|⟨_,_,r,rfl,h2,h3,h4,h5⟩)⟩⟩
 . exact .inr ⟨0,true,ev,rfl,o',m',V',st,.inr ⟨rfl,rfl,h1⟩⟩
 .
  rcases g0 with ⟨_,h⟩|⟨_,_,_,h⟩|⟨rfl,h⟩
  . exact(h ⟨by omega,by omega⟩).elim
  . simp only[Int.toNat_natCast] at h;omega
  . exact .inr ⟨7,false,ev0,rfl,o',m',V',st,.inl ⟨rfl,rfl,rfl,h1,by rw[hd];exact h,by rw[hd];omega⟩⟩
 . exact .inl ⟨r,o',m',V',rfl,⟨st,h1,h5⟩,h2,h3,h4⟩
theorem Zyv (hK:Zb4 K)(h:Zcg (K m.d V) o w mb m)(hlt:Zaj o w)(hx:Zce o w xb mb)(hk:Zal m.d V)(v:Nat)(hv:v<m.d.vars.length) :
 Calls prog 60 #[.pointer (some ⟨xb,0,none⟩),.int .i64 v,.int .i64 (1:Nat),.int .i64 (0:Nat)] w (Zbr K 1 o w mb m V fun _ V' r=>ef V' r=varF v):=by
 have g0:=hk.dag.lt v hv;refine(Zv6 hK h hlt hx hk v 1 0 hv (.inl rfl) (.inl rfl) (by rw[Zgn hk rfl];exact g0) (by rw[Zgn hk rfl];exact g0)).mono ?_;rintro e w' (⟨r,o',m',V',rfl,h1,h2,h3,_⟩|h)
 .
  refine .inl ⟨r,o',m',V',rfl,h1,h2,?_⟩
  show ef V' r=varF v
  rw[h3];funext ρ;simp only[iteF,varF,Zh2 hk.dag.one,Zk4 hk.dag.one];cases ρ v<;>rfl
 . exact .inr h
theorem Zii (hK:Zb4 K)(h:Zcg (K m.d V) o w mb m)(hlt:Zaj o w)(hx:Zce o w xb mb)(hk:Zal m.d V)(hn:m.d.vars.length=n)(f g e:Nat)(hf:okE (Zaa m.d) f)(hg:okE (Zaa m.d) g)(he:okE (Zaa m.d) e) :
 Calls prog 37 #[.pointer (some ⟨xb,0,none⟩),.int .i64 f,.int .i64 g,.int .i64 e] w (Zbr K (2^n-1) o w mb m V fun _ V' r=>ef V' r=Zcw (ef V f) (ef V g) (ef V e)):=by
 have hp2:0<2^n:=Nat.pow_pos (by omega);refine(Zmn hK n o w xb mb m V f g e h hlt hx hk hf hg he (by omega)).mono ?_;rintro x w' ⟨o',m',V',st,⟨r,rfl,h1,h2,h3⟩|⟨rfl,h2,h3,h4⟩|⟨ev,rfl,h1⟩⟩
 .
  refine .inl ⟨r,o',m',V',rfl,⟨st,h2,by omega⟩,h1.okR,?_⟩
  show ef V' r=Zcw (ef V f) (ef V g) (ef V e)
  funext ρ;rw[h1.val ρ,st.ext.ef hf,st.ext.ef hg,st.ext.ef he];rfl
 . exact .inr ⟨7,false,ev0,rfl,o',m',V',st,.inl ⟨rfl,rfl,rfl,h2,h3,by omega⟩⟩
 . exact .inr ⟨0,true,ev,rfl,o',m',V',st,.inr ⟨rfl,rfl,h1⟩⟩
theorem Ydr {C:Nat->Prop}{B:World->Prop}{gop:Nat}{lop:Array Value}{F:BF}(ws0:List Ev)(lim:Option Nat)(hlim:Zqx ws0 lim k room)(hhap:∀ ev∈ws0,HapG K n Od room w0 mb fs nx ev)
 (hB:∀ W W',B W->(∀ c,C c->W'.heap[c]?=W.heap[c]?)->B W')
 (hop:∀ (o:Own) (W:World) (m:ManD) (V:Nat->BF) (xb:Nat),SatE K n Od room w0 mb fs nx W o m V->B W->(∀ k,C k->k<W.heap.size/\o k=none)->Zce o W xb mb->¬ C xb->Calls prog gop (#[.pointer (some ⟨xb,0,none⟩)]++lop) W (Zbr K k o W mb m V fun _ V' r=>ef V' r=F)) :
 OpG K n Od room w0 mb fs nx C B (StL ws0 lim) gop lop (QF ws0 lim k F) (EL (SatX K n Od room w0 mb fs nx) k ws0 lim):=by
 intro o W m V xb g3 hb hC g0 g5 hnx;refine(hop o W m V xb g3 hb hC g5 hnx).mono ?_;have g2:∀ {o':Own} {w':World} {m':ManD} {V':Nat->BF},Step K o W mb m V o' w' m' V'->B w':=fun st=>hB _ _ hb fun c hc=>st.chg.alien (hC c hc).1 (hC c hc).2
 rintro e w' (⟨r,o',m',V',rfl,h1,h2,h3⟩|⟨er,evt,ev,rfl,o',m',V',st,⟨rfl,rfl,rfl,a4,a5,a6⟩|⟨rfl,rfl,a3⟩⟩)
 . exact⟨o',m',V',h1.st.toX _,g2 h1.st,.inl ⟨r,rfl,h2,h3,by rw[h1.waits];exact g0.1,fun M e=>by have:=g0.2 M e;have:=h1.many;omega⟩⟩
 . have g4:lim=none:=Znv (m':=m') hlim g0.2 (by rw[<- a5];omega) (by rw[st.ext.room];exact g3.room);exact⟨o',m',V',st.toX _,g2 st,.inr (.inl ⟨7,rfl,by omega,a4,⟨by unfold Zid;rw[a4];exact g0.1,by subst g4;exact fun M e=>by cases e⟩,g4,rfl,⟨_,_,_,g3⟩,a5,a6,by rw[a4];exact g0.1⟩)⟩
 . have g1:m.waits <:+ ws0:=g0.1;rw[a3] at g1;exact⟨o',m',V',st.toX _,g2 st,.inr (.inr ⟨ev,rfl,a3,fun _ _ _ _ _ e _ _=>⟨by unfold Zid;rw[e];exact(List.suffix_cons ev m'.waits).trans g1,Zw1 hlim g1⟩,hhap ev (g1.subset (List.mem_cons_self ..))⟩)⟩
end
open Go.RowKit
theorem Zm4 (bu:List Bool)(au:Option Addr)(cu:Nat)(w:World)(h1:Zbp w au bu) :
 Calls prog 39 #[.slice au bu.length cu] w fun x w'=>∃ g,x=.returned (.slice (some ⟨g,0,none⟩) bu.length bu.length)/\OwnB w' w.heap.size (.slice (some ⟨g,0,none⟩) bu.length bu.length) (bu.map (!·))/\Below w.heap.size w w':=by
 have g7:=h1.len;obtain⟨L,hL⟩:∃ L,L=bu.length:=⟨_,rfl⟩;have H1:=Hd h1;have g1:=Hd hL;rw[<- hL] at g7 ⊢;clear hL h1
 go_enter func39,ntmps39
 go_wp2_with (at_make;refine Zc3 Zdh rfl _ _ rfl w.heap.size w _ L rfl rfl rfl (by omega) (Nat.le_refl _) (Below.refl _ _) ?_;intro g w1 g3 g6 hs1 gf gd gc;clear gc)
 go_loopw [4] (fun s4 wr=>∃ j:Nat,j<=L/\s4=.int .i64 j/\OwnB wr w.heap.size (.slice (some ⟨g,0,none⟩) L L) ((bu.map (!·)).take j++(List.replicate L false).drop j)/\Below w.heap.size w wr) (fun s4 _=>L-(intOf s4).toNat)
 case atStart=>exact⟨0,by omega,rfl,by unfold OwnB;simpa [Zbj] using g3,g6⟩
 case round =>
  clear g3 g6;obtain⟨j,hj,rfl,g0,g2⟩:=hrel
  by_cases g5:j<L
  .
   have ga:j<(bu.map (!·)).length:=by simp[<- g1.out];exact g5
   obtain⟨b1,of1,e1,c1⟩:=(H1.out.below g2).cells j (by rw[<- g1.out];exact g5);have q0:=g0.cellB j (by have:=g1.out;simp;omega);have p0:=g0.frozen j;subst e1;have g8:=Hd g0;have g9:=Hd g2;obtain⟨y1,g4⟩:∃ y,y=bu.getD j false:=⟨_,rfl⟩;rw[<- g4] at c1
   have HY:Hid ((bu.map (!·))[j] = !y1):=Hd (by
    have gb:j<bu.length:=by rw[<- g1.out];exact g5
    rw[g4];simp[gb])
   clear g0 g2 g4 H1;go_wp2_with fail;go_roundw
   case rel =>
    refine⟨j+1,by omega,by go_num,?_,g9.out.setCell gd _⟩;rw[<- Zdx (by have:=g1.out;simp;omega) ga HY.out];exact g8.out.setB j _
   case measure=>simp[intOf];omega
  .
   obtain rfl:j=L:=by omega
   have ge:(bu.map (!·)).length=j:=by simp[<- g1.out]
   go_wp2_with fail;go_ret;refine⟨g,rfl,?_,g2⟩;rw[List.take_of_length_le (by omega),List.drop_of_length_le (by simp),List.append_nil] at g0;exact g0
open Go.RowKit
theorem Ya5 (n:Nat)(F:BF):(tabB n F).map (fun b => !b)=tabB n (notF F):=by
 unfold tabB;rw[List.map_map];rfl
theorem Zuk (n:Nat)(F:BF)(au:Option Addr)(cu:Nat)(w:World)(h1:Zbp w au (tabB n F)) :
 Calls prog 39 #[.slice au (2^n) cu] w fun x w'=>∃ g,x=.returned (.slice (some ⟨g,0,none⟩) (2^n) (2^n))/\Zbu w' (.slice (some ⟨g,0,none⟩) (2^n) (2^n)) (tabB n (notF F))/\Below w.heap.size w w':=by
 have:=Zm4 (tabB n F) au cu w h1;rw[Zar] at this;refine this.mono ?_;rintro x w' ⟨g,rfl,h2,h3⟩;rw[Ya5] at h2;exact⟨g,rfl,h2.boolsIs (by have:=h1.len;rw[Zar] at this ⊢;exact this),h3⟩
theorem Zqc (b:Bool)(n:Nat)(hn:n<=16)(w:World):Calls prog 34 #[.bool b,.int .i64 n] w fun x w'=>∃ g,x=.returned (.slice (some ⟨g,0,none⟩) (2^n) (2^n))/\OwnB w' w.heap.size (.slice (some ⟨g,0,none⟩) (2^n) (2^n)) (tabB n (fun _=>b))/\Below w.heap.size w w':=by
 have:=Zjy b n hn w;rw[Zen] at this;exact this
open Go.RowKit
theorem tabs16 {n:Nat}(h:n<=16):2^n<=1000000:=Nat.le_trans (Nat.pow_le_pow_right (by omega) h) (by decide)
def andF (F G:BF):BF:=Zcw F G fun _=>false
def orF (F G:BF):BF:=Zcw F (fun _=>true) G
def xorF (F G:BF):BF:=Zcw F (notF G) G
def impF (F G:BF):BF:=Zcw F G fun _=>true
def iffF (F G:BF):BF:=Zcw F G (notF G)
def Zwc (F G:BF):BF:=Zcw F (notF G) fun _=>false
theorem Ya7 (F G:BF):notF (andF (notF F) (notF G))=orF F G:=by
 funext ρ
 show (!iteB (!F ρ) (!G ρ) false)=iteB (F ρ) true (G ρ)
 cases F ρ<;>cases G ρ<;>rfl
theorem Ycc (F G:BF):orF (notF F) G=impF F G:=by
 funext ρ
 show iteB (!F ρ) true (G ρ)=iteB (F ρ) (G ρ) true
 cases F ρ<;>cases G ρ<;>rfl
theorem Ycb (F G:BF):notF (xorF F G)=iffF F G:=by
 funext ρ
 show (!iteB (F ρ) (!G ρ) (G ρ))=iteB (F ρ) (G ρ) (!G ρ)
 cases F ρ<;>cases G ρ<;>rfl
theorem Zyy (F G:BF):andF F (notF G)=Zwc F G:=rfl
def TabA (n:Nat)(W:World)(v:Value)(F:BF):Prop:=∃ a c,v=.slice a (2^n) c/\Zbp W a (tabB n F)
theorem TabA.below {n:Nat}{W W':World}{v:Value}{F:BF}(h:TabA n W v F)(hb:Below W.heap.size W W'):TabA n W' v F:=by
 obtain⟨a,c,e,h1⟩:=h;exact⟨a,c,e,h1.below hb⟩
theorem TabA.is {n:Nat}{W:World}{v:Value}{F:BF}(h:Zbu W v (tabB n F)):TabA n W v F:=by
 obtain⟨a,c,e,h1,_⟩:=h;rw[Zar] at e;exact⟨a,c,e,h1⟩
section
variable {n:Nat}{F G H:BF}{u v x y z:Value}{w:World}
def RefT (n:Nat)(F:BF)(w:World)(e:Ending)(w':World):Prop:=∃ v,e=.returned v/\Zbu w' v (tabB n F)/\Below w.heap.size w w'
theorem Zfe (hn:n<=16)(h:TabA n w x F):Calls prog 39 #[x] w (RefT n (notF F) w):=by
 obtain⟨a,c,rfl,h1⟩:=h;refine(Zuk n F a c w h1).mono ?_;rintro e w' ⟨g,rfl,h2,h3⟩;exact⟨_,rfl,h2,h3⟩
theorem Zxu (hn:n<=16)(h1:TabA n w x F)(h2:TabA n w y G)(h3:TabA n w z H):Calls prog 89 #[x,y,z] w (RefT n (Zcw F G H) w):=by
 obtain⟨a,c,rfl,k1⟩:=h1;obtain⟨a2,c2,rfl,k2⟩:=h2;obtain⟨a3,c3,rfl,k3⟩:=h3;refine(Zuj n F G H a a2 a3 c c2 c3 w k1 k2 k3).mono ?_;rintro e w' ⟨g,rfl,h4,h5⟩;exact⟨_,rfl,h4.boolsIs (by rw[Zar];exact tabs16 hn),h5⟩
theorem Zum (hn:n<=16)(h:TabA n w x F):Calls prog 90 #[x] w (RefT n (fun _=>false) w):=by
 obtain⟨a,c,rfl,h1⟩:=h;have hL:=tabs16 hn;obtain⟨L,g1⟩:∃ L,L=2^n:=⟨_,rfl⟩;have HL:=Hd g1;rw[<- g1] at hL ⊢;clear h1 g1
 go_enter func90,ntmps90
 go_wp2_with (at_make;refine Zc3 Zdh rfl _ _ rfl w.heap.size w _ L rfl rfl rfl (by omega) (Nat.le_refl _) (Below.refl _ _) ?_;intro g w1 g0 g2 hs1 g3 g5 g4;clear g4)
 have HF:Hid (RefT n (fun _=>false) w (.returned (.slice (some ⟨g,0,none⟩) L L)) w1):=Hd ⟨_,rfl,by
  have hw:OwnB w1 w.heap.size (.slice (some ⟨g,0,none⟩) L L) (List.replicate L false):=by unfold OwnB;simpa [Zbj] using g0
  rw[<- Zen,<- HL.out];exact hw.boolsIs (by simp;omega),g2⟩
 clear g0 g2 hs1 g3 g5;go_wp2_with fail;go_ret;exact HF.out
theorem Zrs (hn:n<=16)(h1:TabA n w x F)(h2:TabA n w y G):Calls prog 40 #[x,y] w (RefT n (andF F G) w):=by
 have HC:=Hd (Zum (w:=w) hn h1);have HI:Hid (∀ W z,Below w.heap.size w W->TabA n W z (fun _=>false)->Calls prog 89 #[x,y,z] W (RefT n (andF F G) W)):=Hd fun W z hb hz=>Zxu hn (h1.below hb) (h2.below hb) hz
 clear h1 h2
 go_enter func40,ntmps40
 go_wp2_with fail;refine HC.out.mono ?_;rintro e w1 ⟨z,rfl,hz,g0⟩;have g2:=Hd (HI.out w1 z g0 (.is hz));have g3:=Hd g0;clear hz g0 HC HI;go_wp2_with fail;refine g2.out.mono ?_;rintro e w2 ⟨v,rfl,hv,g1⟩;have HF:Hid (RefT n (andF F G) w (.returned v) w2):=Hd ⟨v,rfl,hv,g3.out.trans (g1.mono g3.out.size)⟩;clear hv g1 g2;go_wp2_with fail;go_ret;exact HF.out
theorem Ydw (hn:n<=16)(h1:TabA n w x F)(h2:TabA n w y G):Calls prog 9 #[x,y] w (RefT n (orF F G) w):=by
 have ga:=Hd (Zfe (w:=w) hn h1);have g9:Hid (∀ W,Below w.heap.size w W->Calls prog 39 #[y] W (RefT n (notF G) W)):=Hd fun W hb=>Zfe hn (h2.below hb)
 clear h1 h2
 go_enter func9,ntmps9
 go_wp2_with fail;refine ga.out.mono ?_;rintro e w1 ⟨u1,rfl,g5,g1⟩;have gd:=Hd g5;have gc:=Hd g1;have HN:=Hd (g9.out w1 g1);clear g5 g1 ga g9;go_wp2_with fail;refine HN.out.mono ?_;rintro e w2 ⟨u2,rfl,g4,g0⟩;have HA:=Hd (Zrs hn ((TabA.is gd.out).below g0) (TabA.is g4));have HB2:=Hd (gc.out.trans (g0.mono gc.out.size));clear g4 g0 HN;go_wp2_with fail;refine HA.out.mono ?_;rintro e w3 ⟨u3,rfl,g3,g7⟩;have g8:=Hd (Zfe hn (TabA.is g3));have gb:=Hd (HB2.out.trans (g7.mono HB2.out.size));clear g3 g7 HA;go_wp2_with fail;refine g8.out.mono ?_;rintro e w4 ⟨u4,rfl,g2,g6⟩;have HF:Hid (RefT n (orF F G) w (.returned u4) w4):=Hd ⟨u4,rfl,by rw[<- Ya7];exact g2,gb.out.trans (g6.mono gb.out.size)⟩;clear g2 g6 g8;go_wp2_with fail;go_ret;exact HF.out
theorem Ycr (hn:n<=16)(h1:TabA n w x F)(h2:TabA n w y G):Calls prog 97 #[x,y] w (RefT n (xorF F G) w):=by
 have g2:=Hd (Zfe (w:=w) hn h2);have HI:Hid (∀ W z,Below w.heap.size w W->TabA n W z (notF G)->Calls prog 89 #[x,z,y] W (RefT n (xorF F G) W)):=Hd fun W z hb hz=>Zxu hn (h1.below hb) hz (h2.below hb)
 clear h1 h2
 go_enter func97,ntmps97
 go_wp2_with fail;refine g2.out.mono ?_;rintro e w1 ⟨z,rfl,hz,g0⟩;have g3:=Hd (HI.out w1 z g0 (.is hz));have g4:=Hd g0;clear hz g0 g2 HI;go_wp2_with fail;refine g3.out.mono ?_;rintro e w2 ⟨v,rfl,hv,g1⟩;have HF:Hid (RefT n (xorF F G) w (.returned v) w2):=Hd ⟨v,rfl,hv,g4.out.trans (g1.mono g4.out.size)⟩;clear hv g1 g3;go_wp2_with fail;go_ret;exact HF.out
theorem Zxt (hn:n<=16)(op:Nat)(hop:op<3)(h1:TabA n w x F)(h2:TabA n w y G):Calls prog 48 #[.int .i64 op,x,y] w (RefT n (if op=0 then impF F G else if op=1 then iffF F G else Zwc F G) w):=by
 have HX:=Hd h1;have HY:=Hd h2;clear h1 h2;rcases(show op=0\/op=1\/op=2 by omega) with rfl|rfl|rfl
 .
  have g2:=Hd (Zfe (w:=w) hn HX.out)
  go_enter func48,ntmps48
  go_wp2_with fail;refine g2.out.mono ?_;rintro e w1 ⟨z,rfl,hz,g0⟩;have g3:=Hd (Ydw hn (TabA.is hz) (HY.out.below g0));have g4:=Hd g0;clear hz g0 g2;go_wp2_with fail;refine g3.out.mono ?_;rintro e w2 ⟨v,rfl,hv,g1⟩;have HF:Hid (RefT n (impF F G) w (.returned v) w2):=Hd ⟨v,rfl,by rw[<- Ycc];exact hv,g4.out.trans (g1.mono g4.out.size)⟩;clear hv g1 g3;go_wp2_with fail;go_ret;exact HF.out
 .
  have g2:=Hd (Ycr (w:=w) hn HX.out HY.out)
  go_enter func48,ntmps48
  go_wp2_with fail;refine g2.out.mono ?_;rintro e w1 ⟨z,rfl,hz,g0⟩;have g3:=Hd (Zfe hn (TabA.is hz));have g4:=Hd g0;clear hz g0 g2;go_wp2_with fail;refine g3.out.mono ?_;rintro e w2 ⟨v,rfl,hv,g1⟩;have HF:Hid (RefT n (iffF F G) w (.returned v) w2):=Hd ⟨v,rfl,by rw[<- Ycb];exact hv,g4.out.trans (g1.mono g4.out.size)⟩;clear hv g1 g3;go_wp2_with fail;go_ret;exact HF.out
 .
  have g2:=Hd (Zfe (w:=w) hn HY.out)
  go_enter func48,ntmps48
  go_wp2_with fail;refine g2.out.mono ?_;rintro e w1 ⟨z,rfl,hz,g0⟩;have g3:=Hd (Zrs hn (HX.out.below g0) (TabA.is hz));have g4:=Hd g0;clear hz g0 g2;go_wp2_with fail;refine g3.out.mono ?_;rintro e w2 ⟨v,rfl,hv,g1⟩;have HF:Hid (RefT n (Zwc F G) w (.returned v) w2):=Hd ⟨v,rfl,by rw[<- Zyy];exact hv,g4.out.trans (g1.mono g4.out.size)⟩;clear hv g1 g3;go_wp2_with fail;go_ret;exact HF.out
end
open Go.RowKit
theorem Zra (V:Nat->BF)(e:Nat):ef V (enot e)=notF (ef V e):=funext fun ρ=>Zh1 V e ρ
def Zqz (K:Law)(n:Nat)(g:Nat)(G:BF->BF->BF):Prop:=∀ (o:Own) (w:World) (xb mb:Nat) (m:ManD) (V:Nat->BF) (a b:Nat),Zcg (K m.d V) o w mb m->Zaj o w->Zce o w xb mb->Zal m.d V->m.d.vars.length=n->okE (Zaa m.d) a->okE (Zaa m.d) b ->
 Calls prog g #[.pointer (some ⟨xb,0,none⟩),.int .i64 a,.int .i64 b] w (Zbr K (2^n-1) o w mb m V fun _ V' r=>ef V' r=G (ef V a) (ef V b))
section
variable {K:Law}{n:Nat}
theorem Zg6 {o:Own}{w:World}{mb:Nat}{m:ManD}{V:Nat->BF}(h:Zcg (K m.d V) o w mb m){e:Nat}(he:okE (Zaa m.d) e):e<eMax:=by
 obtain⟨s,hs⟩:=h;obtain⟨s2,h2⟩:=hs.store;have:=h2.edge_lt he;unfold eMax;omega
theorem Yds (hK:Zb4 K):Zqz K n 62 andF:=by
 intro o w xb mb m V a b h g0 hx hk hn ha hb;have hI:=Zii hK h g0 hx hk hn a b 1 ha hb (.inl rfl);have e:Zcw (ef V a) (ef V b) (ef V 1)=andF (ef V a) (ef V b):=by
  rw[hk.dag.ef1];rfl
 rw[e] at hI;have HI:=Hd hI;clear hI e h g0 hx hk hn ha hb hK
 go_enter func62,ntmps62
 go_wp2_with fail;refine HI.out.mono ?_;rintro e w' (⟨r,o',m',V',rfl,h⟩|⟨er,evt,ev,rfl,h⟩)
 . have HR:=Hd h;clear h HI;go_wp2_with fail;go_ret;exact .inl ⟨r,o',m',V',rfl,HR.out⟩
 . have HR:=Hd h;clear h HI;unfold Zbg;go_wp2_with fail;exact⟨rfl,.inr ⟨er,evt,ev,rfl,HR.out⟩⟩
theorem Ydt (hK:Zb4 K):Zqz K n 92 impF:=by
 intro o w xb mb m V a b h g0 hx hk hn ha hb;have hI:=Zii hK h g0 hx hk hn a b 0 ha hb (.inl rfl);have e:Zcw (ef V a) (ef V b) (ef V 0)=impF (ef V a) (ef V b):=by
  rw[hk.dag.ef0];rfl
 rw[e] at hI;have HI:=Hd hI;clear hI e h g0 hx hk hn ha hb hK
 go_enter func92,ntmps92
 go_wp2_with fail;refine HI.out.mono ?_;rintro e w' (⟨r,o',m',V',rfl,h⟩|⟨er,evt,ev,rfl,h⟩)
 . have HR:=Hd h;clear h HI;go_wp2_with fail;go_ret;exact .inl ⟨r,o',m',V',rfl,HR.out⟩
 . have HR:=Hd h;clear h HI;unfold Zbg;go_wp2_with fail;exact⟨rfl,.inr ⟨er,evt,ev,rfl,HR.out⟩⟩
end
open Go.RowKit
theorem Zpc (args:Array Value)(w:World):(callFunc 112 args).run prog w=.ok (.enter 112 args) w:=enters_of func112 (by kernel_rfl) rfl args w
section
variable {K:Law}{n:Nat}{Od:List Nat->Prop}{room:Nat}{w0 w:World}{mb xb:Nat}{fs:List (Int×BF)}{nx:Int}{o:Own}{m:ManD}{V:Nat->BF}
def Zim (G:BF->BF->BF)(C:BF)(Fs:List BF):BF:=Fs.foldl G C
theorem Ztq (G:BF->BF->BF)(C:BF){Fs:List BF}{i:Nat}(hi:i<Fs.length):Zim G C (Fs.take (i+1))=G (Zim G C (Fs.take i)) Fs[i]:=by
 unfold Zim;rw[List.take_succ_eq_append_getElem hi,List.foldl_append];rfl
structure BoF (b1 bl bf:Nat)(e0:Nat)(a:Option Addr)(c:Nat)(ks:List Int)(g:Nat)(W:World):Prop where
 e:W.cell? ⟨b1,0,none⟩=some (.int .i64 e0)
 l:W.cell? ⟨bl,0,none⟩=some (.slice a ks.length c)
 f:W.cell? ⟨bf,0,none⟩=some (.func (.func g) #[] #[])
 z:Zay W a ks
theorem Yb6 {g:Nat}{G:BF->BF->BF}(hG:Zqz K n g G)(eg:∀ args w,(callFunc g args).run prog w=.ok (.enter g args) w){b1 bl bf e0 c:Nat}{a:Option Addr}{ks:List Int}{Fs:List BF}(he0:e0/2=0)(hlen:Fs.length=ks.length)(hks:∀ i (h:i<ks.length),(ks[i],Fs[i]'(by omega))∈fs)(hsat:SatE K n Od room w0 mb fs nx w o m V)(hB:BoF b1 bl bf e0 a c ks g w)(hno:∀ k,(k=b1\/k=bl\/k=bf\/∃ x,a=some x/\k=x.block)->o k=none)(hx:Zce o w xb mb) :
 Calls prog 112 #[.pointer (some ⟨xb,0,none⟩),.pointer (some ⟨b1,0,none⟩),.pointer (some ⟨bl,0,none⟩),.pointer (some ⟨bf,0,none⟩)] w (Zbr K (ks.length*(2^n-1)) o w mb m V fun _ V' r=>ef V' r=Zim G (ef V e0) Fs):=by
 have hk:=hsat.ok;have ce:=hB.e;have cl:=hB.l;have HB:=Hd hB;have g5:=Hd hno;have gf:=hB.z.len;obtain⟨I,hI⟩:∃ I:Nat->Nat->World->Prop,I=fun i r wr=>∃ o' m' V',AtC K (i*(2^n-1)) o w mb m V o' wr m' V'/\okE (Zaa m'.d) r/\ef V' r=Zim G (ef V e0) (Fs.take i):=⟨_,rfl⟩
 have g6:Hid (I 0 e0 w):=by rw[hI];exact Hd ⟨o,m,V,(AtC.refl hsat.is hsat.lt hk.store).mono (by omega),.inl he0,rfl⟩
 have g1:Hid (∀ i r wr,I i r wr->∀ p v,w.cell? p=some v->o p.block=none->wr.cell? p=some v):=by rw[hI];exact Hd fun i r wr ⟨o',m',V',h,_⟩ p v hc ho=>h.st.chg.cell hc ho
 obtain⟨P,hP⟩:∃ P:Ending->World->Prop,P=Zbr K (ks.length*(2^n-1)) o w mb m V fun _ V' r=>ef V' r=Zim G (ef V e0) Fs:=⟨_,rfl⟩
 have g2:Hid (∀ r wr,I ks.length r wr->P (.returned (.int .i64 (r:Nat))) wr):=by
  rw[hI,hP];exact Hd fun r wr ⟨o',m',V',h,h2,h3⟩=>.inl ⟨r,o',m',V',rfl,h,h2,by rw[<- hlen,List.take_length] at h3;exact h3⟩
 have g0:Hid (∀ i r wr,i<ks.length->I i r wr->∃ f,(Calls prog 38 #[.pointer (some ⟨xb,0,none⟩),.int .i64 (at0 ks i)] wr.drew fun x w'=>x=.returned (.int .i64 (f:Nat))/\wr.drew=w') /\
  Calls prog g #[.pointer (some ⟨xb,0,none⟩),.int .i64 (r:Nat),.int .i64 (f:Nat)] wr.drew fun e w'=>(∃ v,e=.returned v/\(w'.cell? ⟨bf,0,none⟩=some (.func (.func g) #[] #[])/\True)/\∃ r':Nat,v=.int .i64 r'/\I (i+1) r' w')\/(∃ ch,e=.panicked ch/\P (.panicked ch) w')):=by
  rw[hI,hP];refine Hd fun i r wr hi ⟨o',m',V',h,h2,h3⟩=>?_
  have g9:=hks i hi;obtain⟨f,hf,e1⟩:=hsat.find g9;have g4:Below wr.heap.size wr wr.drew:=Zaf wr 1;have hd:=h.below g4;have g7:=hx.chg hd.st.chg;have gc:(ks[i],f)∈m'.hs:=by rw[hd.st.hs];exact hf
  have gb:okE (Zaa m'.d) f:=hd.st.ext.ok (hk.handles.ok _ hf);refine⟨f,by rw[Zcl hi];exact Zb7 hd.st.is g7 (by rw[hd.st.hs];exact hk.handles.nodup) gc,?_⟩;refine(hG o' wr.drew xb mb m' V' r f hd.st.is hd.st.lt g7 hd.st.ok (hd.vars hsat.vars) h2 gb).mono ?_;rintro e w' (⟨r',o2,m2,V2,rfl,q1,q2,q3⟩|⟨er,evt,ev,rfl,q⟩)
  . have hq:=hd.trans q1;refine .inl ⟨_,rfl,⟨hq.st.chg.cell HB.out.f (g5.out bf (.inr (.inr (.inl rfl)))),trivial⟩,r',rfl,o2,m2,V2,hq.mono (by rw[Nat.succ_mul];exact Nat.le_refl _),q2,?_⟩;have gd:ef V' f=Fs[i]'(by omega):=(hd.st.ext.ef (hk.handles.ok _ hf)).trans e1;rw[Ztq G _ (by omega),q3,h3,gd]
  . refine .inr ⟨_,rfl,.inr ⟨er,evt,ev,rfl,q.after hd ?_⟩⟩;have:=Nat.mul_le_mul_right (2^n-1) (show i+1<=ks.length by omega);rw[Nat.succ_mul] at this;exact this
 rw[<- hP];clear hI hP hG hsat hB hno hx hk hks
 go_enter func112,ntmps112
 go_wp2_with fail
 go_loopw [6,8,12] (fun s6 _ s12 wr=>∃ (i r:Nat),i<=ks.length/\s12=.int .i64 i/\s6=.int .i64 r/\Hid (I i r wr)) (fun _ _ s12 _=>ks.length-(intOf s12).toNat)
 case atStart=>exact⟨0,e0,Nat.zero_le _,rfl,rfl,g6⟩
 case round =>
  obtain⟨i,r,hi,rfl,rfl,HI⟩:=hrel
  by_cases g8:i<ks.length
  .
   have ga:(i:Int)<(ks.length:Int):=by omega
   obtain⟨f,hE,hS⟩:=g0.out i r _ g8 HI.out;obtain⟨b,off,rfl,ck⟩:=HB.out.z.cells i g8;have ck1:=g1.out _ _ _ HI.out _ _ ck (g5.out b (.inr (.inr (.inr ⟨_,rfl,rfl⟩))));have cf1:=g1.out _ _ _ HI.out _ _ HB.out.f (g5.out bf (.inr (.inr (.inl rfl))));have g4:Below wr.heap.size wr wr.drew:=Zaf wr 1;have cf2:=(g4.cell (p:=⟨bf,0,none⟩) (Zab cf1)).trans cf1;have HE:=Hd hE;have HS:=Hd hS;clear hE hS g4 cf1 ck ce cl g6 g0 g2 HI;go_upto_region 5 with fail;refine Zd4 (fun W:World=>W.cell? ⟨bf,0,none⟩=some (.func (.func g) #[] #[])/\True) (fun ch w'=>P (.panicked ch) w') 8 (fun c a w hd h=>⟨hd,h⟩) (by kernel_rfl) ⟨cf2,trivial⟩ ?_;refine Za3 0 rfl rfl (by kernel_rfl) ?_;apply Exists.intro;refine⟨fun w' hw=>?_,?_⟩
   . obtain⟨q1,q2⟩:=hw;go_simp;rfl
   simp only[Zai];refine Za3 1 rfl rfl (by kernel_rfl) ?_;apply Exists.intro;refine⟨fun w' hw=>?_,?_⟩
   . obtain⟨q1,q2⟩:=hw;go_simp;rfl
   simp only[Zai];refine Za3 2 rfl rfl (by kernel_rfl) ?_;apply Exists.intro;refine⟨fun w' hw=>?_,?_⟩
   . obtain⟨q1,q2⟩:=hw;go_simp;rfl
   simp only[Zai];refine Za3 3 rfl rfl (by kernel_rfl) ?_;apply Exists.intro;refine⟨fun w' hw=>?_,?_⟩
   . obtain⟨q1,q2⟩:=hw;go_simp;rfl
   simp only[Zai];refine Za3 4 rfl rfl (by kernel_rfl) ?_;apply Exists.intro;refine⟨fun w' hw=>?_,?_⟩
   . obtain⟨q1,q2⟩:=hw;go_simp;rfl
   simp only[Zai];refine Zcc [5] (by kernel_rfl) (fun i hi hS o ho=>?_);simp only[Zbd] at hi;subst hi;simp only[Za2] at ho;subst ho;refine⟨rfl,?_⟩;refine Zat (v:=.int .i64 (f:Nat)) (R:=fun w'=>wr.drew=w') (by go_simp) HE.out ?_;rintro w' rfl;refine⟨⟨cf2,trivial⟩,?_⟩;simp only[Zai];refine Zcc [6] (by kernel_rfl) (fun i hi hS o ho=>?_);simp only[Zbd] at hi;subst hi;simp only[Za2] at ho;subst ho;refine⟨rfl,?_⟩;refine Zhc (R:=fun v w'=>(w'.cell? ⟨bf,0,none⟩=some (.func (.func g) #[] #[])/\True)/\∃ r':Nat,v=.int .i64 r'/\I (i+1) r' w') (R2:=fun ch w'=>P (.panicked ch) w') (by go_simp) HS.out ?_ ?_
   .
    rintro v w' ⟨hS,r',rfl,g3⟩;refine⟨hS,?_⟩;have ge:=Hd g3;clear g3;simp only[Zai];refine Za3 7 rfl rfl (by kernel_rfl) ?_;apply Exists.intro;refine⟨fun w' hw=>?_,?_⟩
    . obtain⟨q1,q2⟩:=hw;go_simp;rfl
    simp only[Zai];refine Zio (by kernel_rfl) ?_;clear hS cf2 ck1;go_wp2_with fail;go_roundw
    case rel=>exact⟨i+1,r',by omega,by go_num,rfl,ge⟩
    case measure=>simp[intOf];omega
   . intro ch w' g3;exact⟨rfl,g3⟩
  .
   obtain rfl:i=ks.length:=by omega
   have ga:¬ (ks.length:Int)<(ks.length:Int):=by omega
   have HF:=Hd (g2.out r _ HI.out);clear g6 g0 g2 HI ce cl;go_wp2_with fail;exact HF.out
end
open Go.RowKit
section
variable {K:Law}{n k:Nat}{room:Nat}{w0 w w1:World}{mb:Nat}{fs:List (Int×BF)}{nx:Int}{o:Own}{m:ManD}{V:Nat->BF}
def NewF (K:Law)(n room:Nat)(w0:World)(mb:Nat)(fs:List (Int×BF))(nx:Int)(ws0:List Ev)(F:BF)(o:Own)(w:World)(x:Ending)(w':World):Prop :=
 x=.returned (.tuple #[.int .i64 nx,.int .i64 0])/\∃ o' m' V',ChgX NoB o o' w w'/\m'.waits <:+ ws0/\SatE K n (fun _=>True) room w0 mb (fs++[(nx,F)]) (nx+1) w' o' m' V'
theorem Ya0 {C:Nat->Prop}{B:World->Prop}{gop:Nat}{lop:Array Value}{F:BF}(hK:Zb4 K)(eg:∀ args w,(callFunc gop args).run prog w=.ok (.enter gop args) w)(ws0:List Ev)
 (hB:∀ W W',B W->(∀ c,C c->W'.heap[c]?=W.heap[c]?)->B W')
 (hop:∀ (o:Own) (W:World) (m:ManD) (V:Nat->BF) (xb:Nat),SatE K n (fun _=>True) room w0 mb fs nx W o m V->B W->(∀ k,C k->k<W.heap.size/\o k=none)->Zce o W xb mb->¬ C xb->Calls prog gop (#[.pointer (some ⟨xb,0,none⟩)]++lop) W (Zbr K k o W mb m V fun _ V' r=>ef V' r=F))
 (h:SatE K n (fun _=>True) room w0 mb fs nx w o m V) (hb1:Below w.heap.size w w1) (hC:∀ c,C c->c<w1.heap.size/\(w.heap.size<=c\/(w0.heap.size<=c/\o c=none/\∀ W,B W->W.heap[c]?=w.heap[c]?))) (hb:B w1) (hst:m.waits <:+ ws0) (hn:nx<=549755813888) (hr:fs.length*2^n+k<=room) :
 Calls prog 35 #[.pointer (some ⟨mb,0,none⟩),.func (.func gop) #[] lop] w1 (NewF K n room w0 mb fs nx ws0 F o w):=by
 have hw0:=h.chg.size;have g0:∀ c,C c->o c=none:=fun c hc=>by
  rcases(hC c hc).2 with h1|⟨_,h1,_⟩
  . exact h.lt.none h1
  . exact h1
 refine(Zsb hK hB (fun _ _ _ _ _ h _=>h) StL.coll (fun c hc=>by
  rcases(hC c hc).2 with h1|⟨h1,_,_⟩
  . exact Nat.le_trans hw0 h1
  . exact h1) eg (Ydr (k:=k) (F:=F) ws0 none (fun _ e=>by cases e) (fun ev _=>Zfl hn ev) hB hop) (h.below hb1) hb (fun c hc=>⟨(hC c hc).1,g0 c hc⟩) ⟨hst,fun _ e=>by cases e⟩ (by omega)).mono ?_
 rintro x w' ⟨o',m',V',g3,hc,⟨r,m1,rfl,hs,⟨q1,q2,_⟩,_,_,_,_,_,q3,_⟩|⟨er,m0,_,_,g2,⟨_,e7,⟨W',oo,VV,hs'⟩,h5,h6,_⟩,h7⟩⟩
 .
  refine⟨rfl,o',m',V',⟨hc.os.trans hb1.os,hc.tape.trans hb1.tape,hc.output.trans hb1.output,Nat.le_trans hb1.size hc.size,fun j hj ho _=>?_,hc.ext,fun j hj=>Nat.le_trans hb1.size (hc.new j hj)⟩,by rw[q3];exact q2,by rw[<- q1];exact hs⟩
  by_cases g1:C j
  .
   rcases(hC j g1).2 with h1|⟨_,_,h1⟩
   . omega
   . exact h1 w' g3
  . exact(hc.block j (Nat.lt_of_lt_of_le hj hb1.size) ho g1).trans (hb1.block j hj)
 . exfalso;have h8:=hs'.few (h7 e7);have h9:=g2.room;omega
end
open Go.RowKit
theorem Ztl (args:Array Value)(w:World):(callFunc 62 args).run prog w=.ok (.enter 62 args) w:=enters_of func62 (by kernel_rfl) rfl args w
theorem Ztn (args:Array Value)(w:World):(callFunc 92 args).run prog w=.ok (.enter 92 args) w:=enters_of func92 (by kernel_rfl) rfl args w
theorem boxes3v (w:World)(x y z:Value)(s t u:TypeId):∃ w3,w3=((w.alloc (.cells #[x] s)).alloc (.cells #[y] t)).alloc (.cells #[z] u)/\Below w.heap.size w w3/\w3.heap.size=w.heap.size+3/\w3.cell? ⟨w.heap.size,0,none⟩=some x/\w3.cell? ⟨w.heap.size+1,0,none⟩=some y/\w3.cell? ⟨w.heap.size+1+1,0,none⟩=some z:=by
 refine⟨_,rfl,((Zad _ _).alloc (by simp) _).alloc (by simp;omega) _,by simp,?_,?_,?_⟩
 . exact cell1 ((Go.heap_alloc_old _ _ (by simp;omega)).trans ((Go.heap_alloc_old _ _ (by simp)).trans (heap_alloc_new _ _)))
 . have:=heap_alloc_new (w.alloc (.cells #[x] s)) (.cells #[y] t);rw[World.size_alloc] at this;exact cell1 ((Go.heap_alloc_old _ _ (by simp)).trans this)
 . have:=heap_alloc_new ((w.alloc (.cells #[x] s)).alloc (.cells #[y] t)) (.cells #[z] u);rw[World.size_alloc,World.size_alloc] at this;exact cell1 this
def Zd5 (e0:Nat):BF:=fun _=>decide (e0=0)
theorem Zij {d:Zae}{V:Nat->BF}(hk:Zal d V){e0:Nat}(h:e0/2=0):ef V e0=Zd5 e0:=by
 rcases(show e0=0\/e0=1 by omega) with rfl|rfl
 . rw[hk.dag.ef0];rfl
 . rw[hk.dag.ef1];rfl
section
variable {K:Law}{n:Nat}{room:Nat}{w0 w:World}{mb:Nat}{fs:List (Int×BF)}{nx:Int}{o:Own}{m:ManD}{V:Nat->BF}{ws0:List Ev}
theorem Zy5 (hK:Zb4 K){g:Nat}{G:BF->BF->BF}(hG:Zqz K n g G)(eg:∀ args w,(callFunc g args).run prog w=.ok (.enter g args) w)(h:SatE K n (fun _=>True) room w0 mb fs nx w o m V){e0 c:Nat}{a:Option Addr}{ks:List Int}{Fs:List BF}(he0:e0/2=0)(hz:Zay w a ks)(ha:∀ x,a=some x->x.block<w.heap.size/\w0.heap.size<=x.block/\o x.block=none)(hlen:Fs.length=ks.length)(hks:∀ i (h:i<ks.length),(ks[i],Fs[i]'(by omega))∈fs)(hst:m.waits <:+ ws0)(hn:nx<=549755813888)(hr:fs.length*2^n+ks.length*(2^n-1)<=room) :
 Calls prog 61 #[.pointer (some ⟨mb,0,none⟩),.int .i64 e0,.func (.func g) #[] #[],.slice a ks.length c] w (NewF K n room w0 mb fs nx ws0 (Zim G (Zd5 e0) Fs) o w):=by
 have g5:∀ (fn:Fn) (first cap:Array Value) (w:World),(Instr.makeFunc fn first cap).run prog w=.ok (.func fn first cap) w:=fun _ _ _ _=>rfl
 obtain⟨w3,g1,g0,g3,c0,c1,c2⟩:=boxes3v w (.int .i64 e0) (.func (.func g) #[] #[]) (.slice a ks.length c) 76 160 22;have g4:Hid (_=w3):=Hd g1.symm
 have g2:=Hd (Ya0 (C:=fun k=>k=w.heap.size\/k=w.heap.size+1+1\/k=w.heap.size+1\/∃ x,a=some x/\k=x.block) (B:=fun W=>BoF w.heap.size (w.heap.size+1+1) (w.heap.size+1) e0 a c ks g W/\∀ x,a=some x->W.heap[x.block]?=w.heap[x.block]?) (F:=Zim G (Zd5 e0) Fs) (k:=ks.length*(2^n-1)) (lop:=#[.pointer (some ⟨w.heap.size,0,none⟩),.pointer (some ⟨w.heap.size+1+1,0,none⟩),.pointer (some ⟨w.heap.size+1,0,none⟩)]) hK Zpc ws0
  (fun W W' hB hk=>⟨⟨(World.cell?_of_block (w:=W) (a:=⟨w.heap.size,0,none⟩) (hk _ (.inl rfl))).trans hB.1.e,(World.cell?_of_block (w:=W) (a:=⟨w.heap.size+1+1,0,none⟩) (hk _ (.inr (.inl rfl)))).trans hB.1.l,(World.cell?_of_block (w:=W) (a:=⟨w.heap.size+1,0,none⟩) (hk _ (.inr (.inr (.inl rfl))))).trans hB.1.f,⟨hB.1.z.len,fun i hi=>by
   obtain⟨b,off,e,hc⟩:=hB.1.z.cells i hi;exact⟨b,off,e,(World.cell?_of_block (w:=W) (a:=⟨b,off+i,none⟩) (hk _ (.inr (.inr (.inr ⟨_,e,rfl⟩))))).trans hc⟩⟩⟩,fun x hx=>(hk _ (.inr (.inr (.inr ⟨x,hx,rfl⟩)))).trans (hB.2 x hx)⟩)
  (fun o W m V xb hs hB hC hx _=>by
   have:=Yb6 hG eg he0 hlen hks hs hB.1 (fun k hk=>(hC k hk).2) hx;rw[Zij hs.ok.store he0] at this;exact this) h g0 (by
   rintro k (rfl|rfl|rfl|⟨x,hx,rfl⟩)
   . exact⟨by omega,.inl (by omega)⟩
   . exact⟨by omega,.inl (by omega)⟩
   . exact⟨by omega,.inl (by omega)⟩
   . have:=ha x hx;exact⟨by omega,.inr ⟨this.2.1,this.2.2,fun W hW=>hW.2 x hx⟩⟩) ⟨⟨c0,c2,c1,hz.below g0⟩,fun x hx=>g0.block _ (ha x hx).1⟩ hst hn hr)
 clear g1 g0 g3 c0 c1 c2 h hK hG hst hn hr hz ha hks;obtain⟨P,hP⟩:∃ P,P=NewF K n room w0 mb fs nx ws0 (Zim G (Zd5 e0) Fs) o w:=⟨_,rfl⟩;rw[<- hP] at g2 ⊢;have HT:Hid (∀ x w',P x w'->∃ a b,x=.returned (.tuple #[.int .i64 a,.int .i64 b])):=Hd (by subst hP;rintro x w' ⟨rfl,_⟩;exact⟨_,_,rfl⟩);clear hP
 go_enter func61,ntmps61
 go_upto_region 1 with fail;rw[g4.out];go_wp2_with fail;refine g2.out.mono ?_;intro x w' hd;obtain⟨a,b,rfl⟩:=HT.out x w' hd;have HD:=Hd hd;clear hd;go_wp2_with fail;exact HD.out
end
open Go.RowKit
theorem Chg.none' {R:Role->Prop}{o o':Own}{w w':World}(h:Chg R o o' w w'){k:Nat}(hk:k<w.heap.size)(ho:o k=none):o' k=none:=(ChgX.of_chg h NoB).none' hk ho
section
variable {K:Law}{k k1 k2:Nat}{w W w':World}{mb:Nat}{o o':Own}{m m':ManD}{V V':Nat->BF}{T:Nat->Prop}
theorem Zbr.base {A:Zae->(Nat->BF)->Nat->Prop}{e:Ending}(h:AtC K k1 o w mb m V o' W m' V')(hk:k1+k2<=k)(hc:Zbr K k2 o' W mb m' V' A e w'):Zbr K k o w mb m V A e w':=by
 rcases hc with ⟨r,o2,m2,V2,rfl,q1,q2,q3⟩|⟨er,evt,ev,rfl,q⟩
 . exact .inl ⟨r,o2,m2,V2,rfl,(h.trans q1).mono hk,q2,q3⟩
 . exact .inr ⟨er,evt,ev,rfl,q.after h hk⟩
theorem Zbr.kind {A:Zae->(Nat->BF)->Nat->Prop}{e:Ending}(hc:Zbr K k o w mb m V A e w'):(∃ r:Nat,e=.returned (.int .i64 r))\/∃ er evt ev,e=Zbg er evt ev:=by
 rcases hc with ⟨r,_,_,_,rfl,_⟩|⟨er,evt,ev,rfl,_⟩
 . exact .inl ⟨r,rfl⟩
 . exact .inr ⟨er,evt,ev,rfl⟩
end
open Go.RowKit
section
variable {P:Program}{S:World->Prop}{Q:Exit->Act->World->Prop}{R:List PanicEntry->World->Prop}
def Nx (_:List Nat)(P:Program)(l:List Oper)(Q:Exit->Act->World->Prop)(R:List PanicEntry->World->Prop)(S:World->Prop)(f:Nat)(L:Array Bool)(a:Act)(w:World):Prop:=Znd P l Q R S l.length f L a w
theorem Zit (pl:List Nat){id:Nat}{a:Act}{w:World}{l:List Oper}(S:World->Prop)(R:List PanicEntry->World->Prop)(hR:∀ c (a:Act) w,a.defers=[]->R c w->Q (.panic c) a w)(hm:P.follows .mixedOrders=true)(hS:S w.drew)
 (h:Nx pl P l Q R S l.length (Array.replicate l.toArray.size false) a w.drew):(Code.region id l.toArray true).wp P Q a w:=Zd4 S R l.length hR hm hS h
theorem Zf2 {i:Nat}{pl:List Nat}{l:List Oper}{f:Nat}{L:Array Bool}{a:Act}{w:World}{o:Oper}(hi:l[i]?=some o)(hg:o.guard=none)
 (hB:(Region.noSelect l.toArray&&(Region.ready .any l.toArray L).contains i&&Region.free .any l.toArray L i)=true)
 (h:∃ v,(∀ w,S w->(execOp a.eval o).run P w=.ok (.value v) w)/\Nx pl P l Q R S f (L.setIfInBounds i true) (a.put o.dst v) w):Nx (i::pl) P l Q R S (f+1) L a w :=
 Za3 _ hi hg (by rw[hB];simp) h
theorem Zjb {i:Nat}{pl:List Nat}{l:List Oper}{f:Nat}{L:Array Bool}{a:Act}{w:World}{o:Oper}{g:FuncId}{args:Array Value}{R1:Value->World->Prop}(hi:l[i]?=some o)(hr:decide (Region.ready .any l.toArray L=[i])=true)
 (hg:Region.wanted o (yielded l.toArray a.tmps)=true) (hd:a.defers=[]) (he:(execOp a.eval o).run P w=.ok (.enter g args) w)
 (hc:Calls P g args w fun e w'=>(∃ v,e=.returned v/\S w'/\R1 v w')\/(∃ ch,e=.panicked ch/\R ch w'))
 (h:∀ v w',S w'->R1 v w'->Nx pl P l Q R S f (L.setIfInBounds i true) (a.put o.dst v) w'):Nx (i::pl) P l Q R S (f+1) L a w:=by
 refine Zcc [i] (by rw[Bool.and_eq_true];exact⟨hr,rfl⟩) fun j g1 hS o2 g0=>?_
 rw[List.mem_singleton] at g1;subst g1;rw[hi] at g0;cases g0;refine⟨hg,?_⟩;refine Zhc (R:=fun v w'=>S w'/\R1 v w') (R2:=R) he (hc.mono ?_) (fun v w' hh=>⟨hh.1,h v w' hh.1 hh.2⟩) (fun ch w' hh=>⟨hd,hh⟩);rintro e w' (⟨v,h1,h2⟩|hh)
 . exact .inl ⟨v,h1,h2⟩
 . exact .inr hh
theorem Zhb {i:Nat}{pl:List Nat}{l:List Oper}{f:Nat}{L:Array Bool}{a:Act}{w:World}{o:Oper}{g:FuncId}{args:Array Value}{R1:Value->World->Prop}(hi:l[i]?=some o)(hr:decide (Region.ready .any l.toArray L=[i])=true)
 (hg:Region.wanted o (yielded l.toArray a.tmps)=true) (hd:a.defers=[]) (he:(execOp a.eval o).run P w=.ok (.enter g args) w)
 (hc:Calls P g args w fun e w'=>∃ v,e=.returned v/\R1 v w') (hS:∀ v w',R1 v w'->S w')
 (h:∀ v w',S w'->R1 v w'->Nx pl P l Q R S f (L.setIfInBounds i true) (a.put o.dst v) w'):Nx (i::pl) P l Q R S (f+1) L a w :=
 Zjb hi hr hg hd he (hc.mono fun e w' ⟨v,h1,h2⟩=>.inl ⟨v,h1,hS v w' h2,h2⟩) h
theorem Zzs {i:Nat}{pl:List Nat}{l:List Oper}{f:Nat}{L:Array Bool}{a:Act}{w w':World}{v:Value}{o:Oper}(hi:l[i]?=some o)(hr:decide (Region.ready .any l.toArray L=[i])=true)
 (hg:Region.wanted o (yielded l.toArray a.tmps)=true) (he:(execOp a.eval o).run P w=.ok (.value v) w') (hS:S w')
 (h:Nx pl P l Q R S f (L.setIfInBounds i true) (a.put o.dst v) w'):Nx (i::pl) P l Q R S (f+1) L a w:=by
 refine Zcc [i] (by rw[Bool.and_eq_true];exact⟨hr,rfl⟩) fun j g1 _ o2 g0=>?_
 rw[List.mem_singleton] at g1;subst g1;rw[hi] at g0;cases g0;exact⟨hg,Zaz he ⟨hS,h⟩⟩
theorem Zp0 {l:List Oper}{L:Array Bool}{a:Act}{w:World}(hr:(Region.ready .any l.toArray L).isEmpty=true)(h:Q .normal a w):Nx [] P l Q R S 0 L a w:=Zio hr h
end
open Go.RowKit
def Zh7 (Sp:List Nat->Int->BF->BF->BF->BF->Prop):Law:=fun d V op a b c r =>
 if op=1 then IteP d V a b c r else okE (Zaa d) a/\okE (Zaa d) b/\okE (Zaa d) c/\okE (Zaa d) r/\Sp d.vars op (ef V a) (ef V b) (ef V c) (ef V r)
theorem Zuy (Sp:List Nat->Int->BF->BF->BF->BF->Prop):Zb4 (Zh7 Sp):=by
 refine⟨fun d V a b c r=>?_,fun d V d' V' op a b c r k1 k2 x h=>?_,fun d d' V op a b c r h1 h2 h3 h=>?_⟩
 . unfold Zh7;rw[if_pos rfl]
 .
  unfold Zh7 at h ⊢
  by_cases e:op=1
  . rw[if_pos e] at h ⊢;exact(Zfn.ite ..).1 (Zfn.ext d V d' V' 1 a b c r k1 k2 x ((Zfn.ite ..).2 h))
  . rw[if_neg e] at h ⊢;obtain⟨q1,q2,q3,q4,q5⟩:=h;refine⟨x.ok q1,x.ok q2,x.ok q3,x.ok q4,?_⟩;rw[x.vars,x.ef q1,x.ef q2,x.ef q3,x.ef q4];exact q5
 .
  unfold Zh7 at h ⊢
  by_cases e:op=1
  . rw[if_pos e] at h ⊢;exact(Zfn.ite ..).1 (Zfn.same d d' V 1 a b c r h1 h2 h3 ((Zfn.ite ..).2 h))
  . rw[if_neg e] at h ⊢;rw[h1,h3];exact h
theorem Zlr {Sp:List Nat->Int->BF->BF->BF->BF->Prop}{d:Zae}{V:Nat->BF}{op:Int}{a b c r:Nat}(h:op≠1):Zh7 Sp d V op a b c r↔okE (Zaa d) a/\okE (Zaa d) b/\okE (Zaa d) c/\okE (Zaa d) r/\Sp d.vars op (ef V a) (ef V b) (ef V c) (ef V r):=by
 unfold Zh7;rw[if_neg h]
section
variable {K:Law}{k:Nat}{w:World}{mb:Nat}{o:Own}{m:ManD}{V:Nat->BF}{xb:Nat}
theorem Zv5 (h:Zcg (K m.d V) o w mb m)(hlt:Zaj o w)(hx:Zce o w xb mb)(hk:Zal m.d V){gf:Nat}{lf:Array Value}(eg:∀ args w,(callFunc gf args).run prog w=.ok (.enter gf args) w)(op:Int)(a b c:Nat){A:Zae->(Nat->BF)->Nat->Prop}
 (hA:∀ r,K m.d V op a b c r->okE (Zaa m.d) r/\A m.d V r) (hput:∀ d' V' r,Zal d' V'->Ext m.d V d' V'->okE (Zaa d') r->A d' V' r->K d' V' op a b c r)
 (hf:∀ w1,Chg (fun _=>True) o o w w1->Zcg (K m.d V) o w1 mb m->Zaj o w1->Calls prog gf lf w1 (Zbr K k o w1 mb m V A)) :
 Calls prog 115 #[.pointer (some ⟨xb,0,none⟩),.int .i64 op,.int .i64 a,.int .i64 b,.int .i64 c,.func (.func gf) #[] lf] w (Zbr K k o w mb m V A):=by
 obtain⟨s,g5⟩:=h;obtain⟨c0,c1,c2,c3,c4,c5,f0⟩:=cells6 g5.blk;have cx:=hx.cell;have HX:=Hd hx;have gi:=Hd (Zwj o s.me (K m.d V) op a b c w g5.memo hlt);have gl:=Hd g5;have gk:=Hd hlt;have HK:=Hd hk;have HA:=Hd hA;have HP:=Hd hput;have HF:=Hd hf;clear g5 hlt hx hk hA hput hf
 go_enter func115,ntmps115
 go_wp2_with fail;refine gi.out.mono ?_;rintro x w1 ⟨gj,g2,g3,g8⟩;have g7:Zcg (K m.d V) o w1 mb m:=⟨s,gl.out.setMemo gk.out g2 (g3.mono fun r e=>.inl e)⟩;have g4:Hid (AtC K 0 o w mb m V o w1 m V):=Hd ⟨⟨g7,g8,g3.any,HK.out,Ext.refl _ _,rfl,rfl⟩,rfl,Nat.le_refl _⟩;rcases gj with rfl|⟨r,rfl,gg⟩
 .
  have gd:=Hd (HF.out w1 g3.any g7 g8);clear g7 g2 g3 g8 c0 c1 c2 c3 c4 c5 f0 cx;go_wp2_with fail;refine gd.out.mono ?_;rintro e w2 (⟨r,o2,m2,V2,rfl,at2,ga,gc⟩|⟨er,evt,ev,rfl,hs⟩)
  . have g1:=g4.out.trans at2;obtain⟨s2,g6⟩:=g1.st.is;obtain⟨c0,c1,c2,c3,c4,c5,f0⟩:=cells6 g6.blk;have cx:=(HX.out.chg g1.st.chg).cell;have gh:=Hd (Zsq o2 s2.me (K m2.d V2) op a b c r w2 g6.memo g1.st.lt (HP.out _ _ r g1.st.ok g1.st.ext ga gc));have gm:=Hd g6;have g0:=Hd g1;have g9:=Hd ga;have gn:=Hd gc;clear g1 g6 at2 ga gc gd;go_wp2_with fail;refine gh.out.mono ?_;rintro x w3 ⟨rfl,o3,g2,gb,ge⟩;have HR:Hid (AtC K k o w mb m V o3 w3 m2 V2):=Hd ⟨⟨⟨s2,gm.out.setMemo g0.out.st.lt g2 gb⟩,ge,g0.out.st.chg.trans gb.any,g0.out.st.ok,g0.out.st.ext,g0.out.st.hs,g0.out.st.next⟩,g0.out.waits,by have:=g0.out.many;omega⟩;clear g2 gb ge c0 c1 c2 c3 c4 c5 f0 cx;go_wp2_with fail;go_ret;exact .inl ⟨r,o3,m2,V2,rfl,HR.out,g9.out,gn.out⟩
  . have HS:=Hd (hs.after g4.out (k:=k) (by omega));clear hs gd;unfold Zbg;go_wp2_with fail;exact⟨rfl,.inr ⟨er,evt,ev,rfl,HS.out⟩⟩
 . have hr:=HA.out r gg;have HR:Hid (AtC K k o w mb m V o w1 m V):=Hd (g4.out.mono (Nat.zero_le _));have g9:=Hd hr;clear gg hr g2 g3 g8 g7 c0 c1 c2 c3 c4 c5 f0 cx;go_wp2_with fail;go_ret;exact .inl ⟨r,o,m,V,rfl,HR.out,g9.out.1,g9.out.2⟩
end
open Go.RowKit
structure Ztd (Rel:List Nat->BF->BF->BF->Prop)(Yes:BF->BF->Prop):Prop where
 tru:∀ ord F C,(∀ ρ,C ρ=true)->Rel ord F C F
 const:∀ ord F C,(∀ ρ ρ',F ρ=F ρ')->Rel ord F C F
 one:∀ (b:Bool) (v:Nat) (pre post:List Nat) F C R,(∀ u∈pre,Ind F u/\Ind C u)->SatF C->¬ SatF (cofF C v (!b))->Rel (pre++v::post) (cofF F v b) (cofF C v b) R->Rel (pre++v::post) F C R
 both:∀ (v:Nat) (pre post:List Nat) F C R0 R1,(∀ u∈pre,Ind F u/\Ind C u)->SatF (cofF C v false)->SatF (cofF C v true)->¬ Yes (cofF F v false) (cofF F v true)->Rel (pre++v::post) (cofF F v false) (cofF C v false) R0->Rel (pre++v::post) (cofF F v true) (cofF C v true) R1->Rel (pre++v::post) F C (iteF v R1 R0)
 next:∀ ord (v:Nat) F C N R,Yes (cofF F v false) (cofF F v true)->(∀ ρ,N ρ=(cofF C v false ρ||cofF C v true ρ))->Rel ord (cofF F v false) N R->Rel ord F C R
 ind:∀ ord F C R u,Ind F u->Ind C u->Rel ord F C R->Ind R u
def RelC (ord:List Nat)(F C R:BF):Prop:=R=constrF ord F C
theorem Zhz {pre post:List Nat}{v:Nat}{F C:BF}(h:∀ u∈pre,Ind F u/\Ind C u)(b:Bool):constrF (pre++v::post) (cofF F v b) (cofF C v b)=constrF post (cofF F v b) (cofF C v b):=by
 rw[Zg5 pre fun u hu=>⟨(h u hu).1.cof v b,(h u hu).2.cof v b⟩,Zk0 (Znt F v b) (Znt C v b)]
theorem Zxx:Ztd RelC fun _ _=>False:=by
 refine⟨fun ord F C h=>(Zq7 h).symm,fun ord F C h=>(Zo4 h).symm,fun b v pre post F C R hp hs hn h=>?_,fun v pre post F C R0 R1 hp h0 h1 _ e0 e1=>?_,fun _ _ _ _ _ _ h=>h.elim,fun ord F C R u hF hC h=>by rw[show R=_ from h];exact Zg4 ord hF hC⟩
 .
  rw[show R=_ from h,Zhz hp]
  show _=constrF (pre++v::post) F C
  rw[Zg5 pre hp,Zmm b hs hn]
 .
  rw[show R0=_ from e0,show R1=_ from e1,Zhz hp,Zhz hp]
  show _=constrF (pre++v::post) F C
  rw[Zg5 pre hp,Zq5 h0 h1]
def RelR (_:List Nat)(F C R:BF):Prop:=Zic F C R
theorem Yct:Ztd RelR fun F0 F1=>F0=F1:=by
 refine⟨fun ord F C _=>Zm5 F C,fun ord F C _=>Zm5 F C,fun b v pre post F C R _ _ hn h=>Zxy b hn h,fun v pre post F C R0 R1 _ _ _ g0 e0 e1=>Zup g0 e0 e1,fun ord v F C N R he hN h=>Zuq he hN h,fun ord F C R u hF _ h=>h.2 u hF⟩
structure ConC where
 bx:Nat
 bo:Nat
 bd:Nat
 ba:Nat
 xb:Nat
 op:Int
 g:Nat
 lw:Array Value
def ConC.caps (c:ConC):Array Value:=#[.pointer (some ⟨c.bx,0,none⟩),.pointer (some ⟨c.bo,0,none⟩),.pointer (some ⟨c.bd,0,none⟩),.pointer (some ⟨c.ba,0,none⟩)]
structure ConS (K:Law)(n:Nat)(Bw:World->Prop)(T:Nat->Prop)(c:ConC)(mb:Nat)(o:Own)(W:World)(m:ManD)(V:Nat->BF):Prop where
 is:Zcg (K m.d V) o W mb m
 lt:Zaj o W
 ok:Zal m.d V
 vars:m.d.vars.length=n
 ctx:Zce o W c.xb mb
 bw:Bw W
 x:W.cell? ⟨c.bx,0,none⟩=some (.pointer (some ⟨c.xb,0,none⟩))
 p:W.cell? ⟨c.bo,0,none⟩=some (.int .i64 c.op)
 d:W.cell? ⟨c.bd,0,none⟩=some (.func (.func 114) #[] c.caps)
 a:W.cell? ⟨c.ba,0,none⟩=some (.func (.func c.g) #[] c.lw)
 no:∀ q,(q=c.bx\/q=c.bo\/q=c.bd\/q=c.ba\/T q)->o q=none
 t:∀ q,T q->q<W.heap.size
section
variable {K:Law}{n:Nat}{Bw:World->Prop}{T:Nat->Prop}{c:ConC}{o o':Own}{W W':World}{mb:Nat}{m m':ManD}{V V':Nat->BF}{k:Nat}
theorem ConS.step (h:ConS K n Bw T c mb o W m V)(hB:∀ W W',Bw W->(∀ q,T q->W'.heap[q]?=W.heap[q]?)->Bw W')(s:AtC K k o W mb m V o' W' m' V'):ConS K n Bw T c mb o' W' m' V':=by
 have g0:∀ q,(q=c.bx\/q=c.bo\/q=c.bd\/q=c.ba\/T q)->q<W.heap.size:=by
  rintro q (rfl|rfl|rfl|rfl|hq)
  . exact Zab h.x
  . exact Zab h.p
  . exact Zab h.d
  . exact Zab h.a
  . exact h.t q hq
 exact⟨s.st.is,s.st.lt,s.st.ok,s.vars h.vars,h.ctx.chg s.st.chg,hB _ _ h.bw (fun q hq=>s.st.chg.alien (h.t q hq) (h.no q (.inr (.inr (.inr (.inr hq)))))),s.st.chg.cell h.x (h.no _ (.inl rfl)),s.st.chg.cell h.p (h.no _ (.inr (.inl rfl))),s.st.chg.cell h.d (h.no _ (.inr (.inr (.inl rfl)))),s.st.chg.cell h.a (h.no _ (.inr (.inr (.inr (.inl rfl))))),
  fun q hq=>s.st.chg.none' (g0 q hq) (h.no q hq),fun q hq=>Nat.lt_of_lt_of_le (h.t q hq) s.st.chg.size⟩
theorem ConS.below (h:ConS K n Bw T c mb o W m V)(hB:∀ W W',Bw W->(∀ q,T q->W'.heap[q]?=W.heap[q]?)->Bw W')(hb:Below W.heap.size W W'):ConS K n Bw T c mb o W' m V :=
 h.step (k:=0) hB ((AtC.refl h.is h.lt h.ok).below hb)
end
def AtOK (K:Law)(n:Nat)(Yes:BF->BF->Prop)(xb mb:Nat)(Bw:World->Prop)(T:Nat->Prop)(g:Nat)(lw:Array Value):Prop :=
 ∀ (o:Own) (W:World) (m:ManD) (V:Nat->BF) (v f0 f1 c0 c1:Nat),Zcg (K m.d V) o W mb m->Zaj o W->Zce o W xb mb->Zal m.d V->m.d.vars.length=n->Bw W->(∀ q,T q->q<W.heap.size/\o q=none)->okE (Zaa m.d) f0->okE (Zaa m.d) f1->okE (Zaa m.d) c0->okE (Zaa m.d) c1 ->
  Calls prog g (#[.int .i64 v,.int .i64 f0,.int .i64 f1,.int .i64 c0,.int .i64 c1]++lw) W fun e w' =>
   (∃ (r:Nat) (ok:Bool) (o':Own) (m':ManD) (V':Nat->BF),e=.returned (.tuple #[.int .i64 r,.bool ok])/\AtC K (2^n-1) o W mb m V o' w' m' V'/\(ok=true->Yes (ef V f0) (ef V f1)/\okE (Zaa m'.d) r/\∀ ρ,ef V' r ρ=(ef V c0 ρ||ef V c1 ρ))/\(ok=false->¬ Yes (ef V f0) (ef V f1))) \/
   (∃ er evt ev,e=Zbg er evt ev/\Zko K (2^n-1) o W mb m V er evt ev w')
def Zvc (K:Law)(op:Int)(Rel:List Nat->BF->BF->BF->Prop):Prop :=
 ∀ d V a b r,K d V op a b 0 r↔okE (Zaa d) a/\okE (Zaa d) b/\okE (Zaa d) r/\(SatF (ef V b)->Rel d.vars (ef V a) (ef V b) (ef V r))
def Zym (K:Law)(n:Nat)(Rel:List Nat->BF->BF->BF->Prop)(Bw:World->Prop)(T:Nat->Prop)(c:ConC)(mb:Nat)(J:Nat):Prop :=
 ∀ (o:Own) (W:World) (m:ManD) (V:Nat->BF) (f e:Nat),ConS K n Bw T c mb o W m V->okE (Zaa m.d) f->okE (Zaa m.d) e->SatF (ef V e)->n<=lvE n (levN m.d) (Zaa m.d) f+J->n<=lvE n (levN m.d) (Zaa m.d) e+J ->
  Calls prog 114 (#[.int .i64 f,.int .i64 e]++c.caps) W (Zbr K ((2^J-1)*2^n) o W mb m V fun d V' r=>Rel d.vars (ef V f) (ef V e) (ef V' r))
theorem Zyt (J n:Nat):(2^J-1)*2^n+(2^J-1)*2^n+(1+(2^n-1))=(2^(J+1)-1)*2^n:=by
 have h1:0<2^J:=Nat.pow_pos (by omega);have h2:0<2^n:=Nat.pow_pos (by omega);have h3:2^(J+1)-1=(2^J-1)+(2^J-1)+1:=by rw[Nat.pow_succ];omega
 rw[h3,Nat.add_mul,Nat.add_mul,Nat.one_mul];omega
open Go.RowKit
theorem Zet (args:Array Value)(w:World):(callFunc 114 args).run prog w=.ok (.enter 114 args) w:=enters_of func114 (by kernel_rfl) rfl args w
theorem Zj5 (args:Array Value)(w:World):(callFunc 116 args).run prog w=.ok (.enter 116 args) w:=enters_of func116 (by kernel_rfl) rfl args w
theorem Zxj {d:Zae}{V:Nat->BF}(h:Zal d V){v:Nat}(hv:v<d.vars.length):∃ pre post,d.vars=pre++v::post/\∀ u∈pre,u<d.vars.length/\levN d u<levN d v:=by
 have hl:=h.dag.lt v hv;refine⟨d.vars.take (levN d v),d.vars.drop (levN d v+1),?_,fun u hu=>?_⟩
 .
  have e:=h.inv v hv;have e2:d.vars[levN d v]'hl=v:=by simpa [List.getD,hl] using e
  conv=>lhs;rw[<- List.take_append_drop (levN d v) d.vars,List.drop_eq_getElem_cons hl,e2]
 .
  obtain⟨i,hi,e⟩:=List.mem_iff_getElem.1 hu;have g0:i<levN d v:=by simp at hi;omega
  rw[List.getElem_take] at e;obtain⟨h1,h2⟩:=h.vlt i (by omega);have e3:d.vars.getD i 0=u:=by simp[List.getD,show i<d.vars.length by omega,e]
  rw[e3] at h1 h2;exact⟨h1,by omega⟩
theorem Zbr.good {K:Law}{k:Nat}{w w':World}{mb:Nat}{o:Own}{m:ManD}{V:Nat->BF}{A A':Zae->(Nat->BF)->Nat->Prop}{x:Ending}(hc:Zbr K k o w mb m V A x w')(hA:∀ d V' r,d.vars=m.d.vars->A d V' r->A' d V' r):Zbr K k o w mb m V A' x w':=by
 rcases hc with ⟨r,o2,m2,V2,rfl,q1,q2,q3⟩|⟨er,evt,ev,rfl,q⟩
 . exact .inl ⟨r,o2,m2,V2,rfl,q1,q2,hA _ _ _ q1.st.ext.vars q3⟩
 . exact .inr ⟨er,evt,ev,rfl,q⟩
section
variable {K:Law}{n:Nat}{Rel:List Nat->BF->BF->BF->Prop}{Yes:BF->BF->Prop}{Bw:World->Prop}{T:Nat->Prop}{c:ConC}{o o':Own}{W W':World}{mb:Nat}{m m':ManD}{V V':Nat->BF}{J:Nat}
theorem Yc6 (hK:Zb4 K)(hR:Ztd Rel Yes)(hB:∀ W W',Bw W->(∀ q,T q->W'.heap[q]?=W.heap[q]?)->Bw W')(hat:AtOK K n Yes c.xb mb Bw T c.g c.lw)(eg:∀ args w,(callFunc c.g args).run prog w=.ok (.enter c.g args) w)(IH:Zym K n Rel Bw T c mb J)
 (hs:ConS K n Bw T c mb o W m V) {f e bf be:Nat} (hf:okE (Zaa m.d) f) (he:okE (Zaa m.d) e) (hsat:SatF (ef V e)) (hnc:f/2≠0) (hlf:n<=lvE n (levN m.d) (Zaa m.d) f+(J+1)) (hle:n<=lvE n (levN m.d) (Zaa m.d) e+(J+1)) (cf:W.cell? ⟨bf,0,none⟩=some (.int .i64 f)) (ce:W.cell? ⟨be,0,none⟩=some (.int .i64 e)) (hof:o bf=none) (hoe:o be=none) :
 Calls prog 116 #[.pointer (some ⟨c.bx,0,none⟩),.pointer (some ⟨bf,0,none⟩),.pointer (some ⟨be,0,none⟩),.pointer (some ⟨c.bd,0,none⟩),.pointer (some ⟨c.ba,0,none⟩)] W (Zbr K ((2^(J+1)-1)*2^n) o W mb m V fun d V' r=>Rel d.vars (ef V f) (ef V e) (ef V' r)):=by
 obtain⟨bx,bo,bd,ba,xb,op,g,lw⟩:=c;obtain⟨N1,hn⟩:∃ N1,N1=(2^J-1)*2^n:=⟨_,rfl⟩;have gz:=Zyt J n;obtain⟨N2,hm⟩:∃ N2,N2=(2^(J+1)-1)*2^n:=⟨_,rfl⟩;obtain⟨N3,hj⟩:∃ N3,N3=2^n-1:=⟨_,rfl⟩;rw[<- hn,<- hm,<- hj] at gz;rw[<- hm];have hk:=hs.ok;have gy:=hs.vars;obtain⟨w1,gP⟩:∃ w1,w1=W.alloc (.cells #[.int .i64 (f:Nat),.int .i64 (e:Nat)] 76):=⟨_,rfl⟩;have HW1:Hid (_=w1):=Hd gP.symm;have gF:Below W.heap.size W w1:=by rw[gP];exact Zad _ _
 have gH:w1.heap[W.heap.size]?=some (.cells #[.int .i64 (f:Nat),.int .i64 (e:Nat)] 76 (0,0)):=by rw[gP];exact heap_alloc_new _ _
 have hs1:=hs.below hB gF
 have ho:Hid (Calls prog 86 #[.pointer (some ⟨xb,0,none⟩),.slice (some ⟨W.heap.size,0,none⟩) 2 2] w1 fun x w'=>∃ v:Nat,x=.returned (.int .i64 v)/\(v<n/\levN m.d v<=lvE n (levN m.d) (Zaa m.d) f/\levN m.d v<=lvE n (levN m.d) (Zaa m.d) e/\n<=levN m.d v+(J+1))/\Below w1.heap.size w1 w'):=Hd ((Zi4 hs1.is hs1.lt hs1.ctx hs1.ok [f,e] (by intro z hz;simp at hz;rcases hz with rfl|rfl<;>assumption) (some ⟨W.heap.size,0,none⟩) 2 ⟨by simp,fun q hq=>⟨W.heap.size,0,rfl,by
  rcases(show q=0\/q=1 by simp at hq;omega) with rfl|rfl
  . rw[cell_of_row _ _ 0 _ _ _ gH];rfl
  . rw[cell_of_row _ _ 1 _ _ _ gH];rfl⟩⟩).mono (by
  rintro x w' ⟨top,least,rfl,ht,gS⟩;rcases ht with ⟨_,_,h3⟩|⟨v,rfl,_,hv,⟨z,hz,b,hb,hZ⟩,gJ⟩
  .
   exfalso;have h4:=h3 f (by simp);rcases hf with h5|⟨b,h5⟩
   . exact hnc h5
   . rw[h4] at h5;cases h5
  .
   rw[gy] at hv gJ;refine⟨v,rfl,⟨hv,gJ f (by simp),gJ e (by simp),?_⟩,gS⟩;have hF:lvE n (levN m.d) (Zaa m.d) z=levN m.d v:=by unfold lvE;rw[hb,<- hZ]
   simp only[List.mem_cons,List.not_mem_nil,or_false] at hz;rcases hz with rfl|rfl
   . rw[hF] at hlf;exact hlf
   . rw[hF] at hle;exact hle))
 obtain⟨P,hP⟩:∃ P:Ending->World->Prop,P=Zbr K N2 o W mb m V fun d V' r=>Rel d.vars (ef V f) (ef V e) (ef V' r):=⟨_,rfl⟩
 have gx:=Hd hP;have gs:=Hd hB;have gq:=Hd hs;have gN:Hid (AtC K 0 o W mb m V o w1 m V):=Hd ((AtC.refl hs.is hs.lt hk).below gF)
 have gk:Hid (∀ (k:Nat) (o1:Own) (w':World) (m1:ManD) (V1:Nat->BF) (v f' e':Nat),n<=levN m.d v+(J+1)->AtC K k o W mb m V o1 w' m1 V1->okE (Zaa m1.d) f'->okE (Zaa m1.d) e'->SatF (ef V1 e')->levN m.d v<lvE n (levN m1.d) (Zaa m1.d) f'->levN m.d v<lvE n (levN m1.d) (Zaa m1.d) e' ->
  Calls prog 114 #[.int .i64 f',.int .i64 e',.pointer (some ⟨bx,0,none⟩),.pointer (some ⟨bo,0,none⟩),.pointer (some ⟨bd,0,none⟩),.pointer (some ⟨ba,0,none⟩)] w' (Zbr K N1 o1 w' mb m1 V1 fun d V' r=>Rel d.vars (ef V1 f') (ef V1 e') (ef V' r))):=Hd fun k o1 w' m1 V1 v f' e' h0 h1 h2 h3 h4 h5 h6=>by
  rw[hn];exact IH o1 w' m1 V1 f' e' (hs.step hB h1) h2 h3 h4 (by omega) (by omega)
 have HKK:=Hd hK;have gj:=Hd hR;have gV:=Hd hat;have go:=Hd (show okE (Zaa m.d) f/\okE (Zaa m.d) e from ⟨hf,he⟩);have gg:=Hd hsat;have g5:=Hd hk;have g4:=Hd gy;have g6:=Hd gz;have hN:=Hd hj;have gU:Hid (∀ {k:Nat} {o':Own} {w':World} {m':ManD} {V':Nat->BF},AtC K k o W mb m V o' w' m' V'->w'.cell? ⟨bf,0,none⟩=some (.int .i64 f)/\w'.cell? ⟨be,0,none⟩=some (.int .i64 e)):=Hd fun h=>⟨h.st.chg.cell cf hof,h.st.chg.cell ce hoe⟩
 obtain⟨cf1,ce1⟩:=gU.out gN.out;have cx:=hs.x;have cx1:=hs1.x;have eg1:=Zet;rw[<- hP];clear hP hs hs1 hk hK hR hB hat IH hsat hlf hle gz hn hm hj gP gF hof hoe hf he gH gy hnc
 go_enter func116,ntmps116
 go_wp2_with fail;rw[HW1.out];refine ho.out.mono ?_;rintro y w2 ⟨v,rfl,gi,gS⟩;have HV:=Hd gi;have gB:=Hd (gN.out.below gS);have gw:=Hd (gq.out.step gs.out gB.out);have cx2:=gw.out.x;obtain⟨cf2,ce2⟩:=gU.out gB.out;obtain⟨f0,hg⟩:∃ z,z=(cofs m.d f v).1:=⟨_,rfl⟩;obtain⟨f1,hc⟩:∃ z,z=(cofs m.d f v).2:=⟨_,rfl⟩;obtain⟨c0,hi⟩:∃ z,z=(cofs m.d e v).1:=⟨_,rfl⟩;obtain⟨c1,hh⟩:∃ z,z=(cofs m.d e v).2:=⟨_,rfl⟩
 have hL:Hid (Calls prog 87 #[.pointer (some ⟨xb,0,none⟩),.int .i64 f,.int .i64 v] w2 fun x w'=>x=.returned (.tuple #[.int .i64 f0,.int .i64 f1])/\Below w2.heap.size w2 w'):=Hd ((Ze6 gw.out.is gw.out.lt gw.out.ctx gw.out.ok f go.out.1 v).mono (by
  rintro x w' ⟨rfl,h⟩;exact⟨by rw[hg,hc],h⟩))
 have g3:Hid ((okE (Zaa m.d) f0/\levN m.d v<lvE n (levN m.d) (Zaa m.d) f0/\ef V f0=cofF (ef V f) v false)/\okE (Zaa m.d) f1/\levN m.d v<lvE n (levN m.d) (Zaa m.d) f1/\ef V f1=cofF (ef V f) v true):=Hd (by
  have hv:=gi.1;rw[<- g4.out] at hv;have q:=Zdl (V:=V) g5.out go.out.1 hv (by rw[g4.out];exact gi.2.1);have q2:=Znj (V:=V) g5.out go.out.1 hv (by rw[g4.out];exact gi.2.1);rw[g4.out] at q;rw[hg,hc];exact⟨⟨q.1,q.2.2.1,q2.1⟩,q.2.1,q.2.2.2.1,q2.2⟩)
 have g2:Hid ((okE (Zaa m.d) c0/\levN m.d v<lvE n (levN m.d) (Zaa m.d) c0/\ef V c0=cofF (ef V e) v false)/\okE (Zaa m.d) c1/\levN m.d v<lvE n (levN m.d) (Zaa m.d) c1/\ef V c1=cofF (ef V e) v true):=Hd (by
  have hv:=gi.1;rw[<- g4.out] at hv;have q:=Zdl (V:=V) g5.out go.out.2 hv (by rw[g4.out];exact gi.2.2.1);have q2:=Znj (V:=V) g5.out go.out.2 hv (by rw[g4.out];exact gi.2.2.1);rw[g4.out] at q;rw[hi,hh];exact⟨⟨q.1,q.2.2.1,q2.1⟩,q.2.1,q.2.2.2.1,q2.2⟩)
 have HZ:Hid (∀ z,okE (Zaa m.d) z->(z=1↔¬ SatF (ef V z))):=Hd fun z hz=>by
  have h1:ef V 1=fun _=>false:=g5.out.dag.ef1
  constructor
  . rintro rfl ⟨ρ,hρ⟩;rw[h1] at hρ;cases hρ
  .
   intro h;refine g5.out.dag.canon hz (.inl rfl) ?_;rw[h1];funext ρ;cases hr:ef V z ρ with
   | false=>rfl
   | true=>exact absurd ⟨ρ,hr⟩ h
 obtain⟨pre,post,h7,gZ⟩:=Zxj g5.out (by rw[g4.out];exact gi.1);have g9:=Hd h7;have gh:Hid (∀ u∈pre,Ind (ef V f) u/\Ind (ef V e) u):=Hd fun u hu=>by
  obtain⟨h1,h2⟩:=gZ u hu;exact⟨Zfm g5.out go.out.1 (by rw[g4.out];omega),Zfm g5.out go.out.2 (by rw[g4.out];omega)⟩
 have hT:Hid (c0=(cofs m.d e v).1/\c1=(cofs m.d e v).2):=Hd ⟨hi,hh⟩;have gc:Hid (∀ x w',P x w'↔Zbr K N2 o W mb m V (fun d V' r=>Rel d.vars (ef V f) (ef V e) (ef V' r)) x w'):=Hd fun x w'=>by rw[gx.out]
 clear gS hg hc hi hh h7 gZ ho HW1 cf1 ce1 cx1 cx gN gi cf ce;go_wp2_with fail;refine hL.out.mono ?_;rintro y w3 ⟨rfl,hI⟩;have gA:=Hd (gB.out.below hI);have gv:=Hd (gq.out.step gs.out gA.out);have cx3:=gv.out.x;obtain⟨cf3,ce3⟩:=gU.out gA.out
 have hM:Hid (Calls prog 87 #[.pointer (some ⟨xb,0,none⟩),.int .i64 e,.int .i64 v] w3 fun x w'=>x=.returned (.tuple #[.int .i64 c0,.int .i64 c1])/\Below w3.heap.size w3 w'):=Hd ((Ze6 gv.out.is gv.out.lt gv.out.ctx gv.out.ok e go.out.2 v).mono (by
  rintro x w' ⟨rfl,h⟩;exact⟨by rw[hT.out.1,hT.out.2],h⟩))
 clear hI hL gB gw cf2 ce2 cx2;go_wp2_with fail;refine hM.out.mono ?_;rintro y w4 ⟨rfl,hH⟩;have g7:=Hd (gA.out.below hH);have g8:=Hd (gq.out.step gs.out g7.out);have cd4:=g8.out.d;have ca4:=g8.out.a;unfold ConC.caps at cd4;clear hH hM gA gv cf3 ce3 cx3 gU
 by_cases gu:c0=1
 .
  have k0:(((c0:Nat):Int) == 1)=true:=by subst gu;rfl
  have ge:Hid (SatF (ef V c1)):=Hd (by
   rw[g2.out.2.2.2];rcases Zru gg.out v false with h|h
   . rw[<- g2.out.1.2.2] at h;exact absurd h ((HZ.out c0 g2.out.1.1).1 gu)
   . exact h)
  have gb:Hid (Calls prog 114 #[.int .i64 f1,.int .i64 c1,.pointer (some ⟨bx,0,none⟩),.pointer (some ⟨bo,0,none⟩),.pointer (some ⟨bd,0,none⟩),.pointer (some ⟨ba,0,none⟩)] w4 fun x w'=>(∃ r:Nat,x=.returned (.int .i64 r)/\P x w')\/∃ er evt ev,x=Zbg er evt ev/\P x w'):=Hd ((gk.out 0 o w4 m V v f1 c1 HV.out.2.2.2 g7.out g3.out.2.1 g2.out.2.1 ge.out g3.out.2.2.1 g2.out.2.2.1).mono fun x w' hx=>by
   have gm:P x w':=(gc.out x w').2 (by
    refine((Zbr.base g7.out (show 0+N1<=N2 by have:=g6.out;omega) hx).good ?_);intro d V' r x4 h;rw[x4,g9.out] at h ⊢;rw[g3.out.2.2.2,g2.out.2.2.2] at h
    exact gj.out.one true v pre post _ _ _ gh.out gg.out (by
     show ¬ SatF (cofF (ef V e) v false)
     rw[<- g2.out.1.2.2];exact(HZ.out c0 g2.out.1.1).1 gu) h)
   rcases hx.kind with ⟨r,rfl⟩|⟨er,evt,ev,rfl⟩
   . exact .inl ⟨r,rfl,gm⟩
   . exact .inr ⟨er,evt,ev,rfl,gm⟩)
  clear gk g3 g2 gV HKK HZ gc gx gj g9 gh gg g7 g8 ge;go_wp2_with fail;refine gb.out.mono ?_;rintro x w5 (⟨r,rfl,hp⟩|⟨er,evt,ev,rfl,hp⟩)
  . have HF:=Hd hp;clear hp gb;go_wp2_with fail;exact HF.out
  . have HF:=Hd hp;clear hp gb;unfold Zbg;go_wp2_with fail;exact⟨rfl,HF.out⟩
 have k0:(((c0:Nat):Int) == 1)=false:=by rw[beq_eq_false_iff_ne];omega
 have gf:Hid (SatF (ef V c0)):=Hd (Classical.byContradiction fun h=>gu ((HZ.out c0 g2.out.1.1).2 h))
 by_cases gO:c1=1
 .
  have gF:(((c1:Nat):Int) == 1)=true:=by subst gO;rfl
  have gb:Hid (Calls prog 114 #[.int .i64 f0,.int .i64 c0,.pointer (some ⟨bx,0,none⟩),.pointer (some ⟨bo,0,none⟩),.pointer (some ⟨bd,0,none⟩),.pointer (some ⟨ba,0,none⟩)] w4 fun x w'=>(∃ r:Nat,x=.returned (.int .i64 r)/\P x w')\/∃ er evt ev,x=Zbg er evt ev/\P x w'):=Hd ((gk.out 0 o w4 m V v f0 c0 HV.out.2.2.2 g7.out g3.out.1.1 g2.out.1.1 gf.out g3.out.1.2.1 g2.out.1.2.1).mono fun x w' hx=>by
   have gm:P x w':=(gc.out x w').2 (by
    refine((Zbr.base g7.out (show 0+N1<=N2 by have:=g6.out;omega) hx).good ?_);intro d V' r x4 h;rw[x4,g9.out] at h ⊢;rw[g3.out.1.2.2,g2.out.1.2.2] at h
    exact gj.out.one false v pre post _ _ _ gh.out gg.out (by
     show ¬ SatF (cofF (ef V e) v true)
     rw[<- g2.out.2.2.2];exact(HZ.out c1 g2.out.2.1).1 gO) h)
   rcases hx.kind with ⟨r,rfl⟩|⟨er,evt,ev,rfl⟩
   . exact .inl ⟨r,rfl,gm⟩
   . exact .inr ⟨er,evt,ev,rfl,gm⟩)
  clear gk g3 g2 gV HKK HZ gc gx gj g9 gh gg g7 g8 gf gu;go_wp2_with fail;refine gb.out.mono ?_;rintro x w5 (⟨r,rfl,hp⟩|⟨er,evt,ev,rfl,hp⟩)
  . have HF:=Hd hp;clear hp gb;go_wp2_with fail;exact HF.out
  . have HF:=Hd hp;clear hp gb;unfold Zbg;go_wp2_with fail;exact⟨rfl,HF.out⟩
 have gF:(((c1:Nat):Int) == 1)=false:=by rw[beq_eq_false_iff_ne];omega
 have ge:Hid (SatF (ef V c1)):=Hd (Classical.byContradiction fun h=>gO ((HZ.out c1 g2.out.2.1).2 h))
 have gX:Hid (Calls prog g (#[.int .i64 v,.int .i64 f0,.int .i64 f1,.int .i64 c0,.int .i64 c1]++lw) w4 fun x w' =>
  (∃ (r:Nat) (ok:Bool) (o':Own) (m':ManD) (V':Nat->BF),x=.returned (.tuple #[.int .i64 r,.bool ok])/\AtC K N3 o W mb m V o' w' m' V'/\(ok=true->Yes (ef V f0) (ef V f1)/\okE (Zaa m'.d) r/\∀ ρ,ef V' r ρ=(ef V c0 ρ||ef V c1 ρ))/\(ok=false->¬ Yes (ef V f0) (ef V f1))) \/
  (∃ er evt ev,x=Zbg er evt ev/\P x w')):=Hd ((gV.out o w4 m V v f0 f1 c0 c1 g8.out.is g8.out.lt g8.out.ctx g8.out.ok g8.out.vars g8.out.bw (fun q hq=>⟨g8.out.t q hq,g8.out.no q (.inr (.inr (.inr (.inr hq))))⟩) g3.out.1.1 g3.out.2.1 g2.out.1.1 g2.out.2.1).mono (by
  rintro x w' (⟨r,ok,o',m',V',rfl,q1,q2,q3⟩|⟨er,evt,ev,rfl,gC⟩)
  . rw[<- hN.out] at q1;have q4:=g7.out.trans q1;rw[Nat.zero_add] at q4;exact .inl ⟨r,ok,o',m',V',rfl,q4,q2,q3⟩
  . refine .inr ⟨er,evt,ev,rfl,(gc.out _ w').2 (.inr ⟨er,evt,ev,rfl,gC.after g7.out (by have:=g6.out;have:=hN.out;omega)⟩)⟩))
 clear gu gO gV g8 g7;go_wp2_with fail;refine gX.out.mono ?_;rintro x w5 (⟨nx,ok,o5,m5,V5,rfl,ga,gG,h8⟩|⟨er,evt,ev,rfl,hp⟩)
 rotate_left
 . have HF:=Hd hp;clear hp gX gk g3 g2 HKK HZ gc gx gj g9 gh gg gf ge;unfold Zbg;go_wp2_with fail;exact⟨rfl,HF.out⟩
 have gt:=Hd ga;have gp:=Hd (gq.out.step gs.out gt.out);have cd5:=gp.out.d;have cx5:=gp.out.x;unfold ConC.caps at cd5;have gr:Hid (∀ z,okE (Zaa m.d) z->okE (Zaa m5.d) z/\ef V5 z=ef V z/\lvE n (levN m5.d) (Zaa m5.d) z=lvE n (levN m.d) (Zaa m.d) z):=Hd fun z hz=>⟨ga.st.ext.ok hz,ga.st.ext.ef hz,ga.st.ext.lvE hz g5.out.dag.none0 gp.out.ok.dag.none0⟩
 cases ok with
 | true =>
   have HY:=Hd (gG rfl)
   have hQ:Hid (levN m.d v<lvE n (levN m5.d) (Zaa m5.d) nx):=Hd (by
    have gQ:=gp.out.vars;have h9:levN m5.d=levN m.d:=ga.st.ext.lev;rw[<- gQ,<- h9];refine Zpv gp.out.ok HY.out.2.1 ?_ fun u hu gR=>Ind.of fun ρ b=>?_
    . rw[h9,gQ];have:=g5.out.dag.lt v (by rw[g4.out];exact HV.out.1);rw[g4.out] at this;exact this
    . rw[h9] at gR;rw[HY.out.2.2,HY.out.2.2,(Zfm g5.out g2.out.1.1 (by rw[g4.out];have:=g2.out.1.2.1;omega)).at,(Zfm g5.out g2.out.2.1 (by rw[g4.out];have:=g2.out.2.2.1;omega)).at])
   have hJ:Hid (SatF (ef V5 nx)):=Hd (by
    obtain⟨ρ,hρ⟩:=gf.out;exact⟨ρ,by rw[HY.out.2.2,hρ];rfl⟩)
   have gb:Hid (Calls prog 114 #[.int .i64 f0,.int .i64 nx,.pointer (some ⟨bx,0,none⟩),.pointer (some ⟨bo,0,none⟩),.pointer (some ⟨bd,0,none⟩),.pointer (some ⟨ba,0,none⟩)] w5 fun x w'=>(∃ r:Nat,x=.returned (.int .i64 r)/\P x w')\/∃ er evt ev,x=Zbg er evt ev/\P x w'):=Hd ((gk.out N3 o5 w5 m5 V5 v f0 nx HV.out.2.2.2 gt.out (gr.out f0 g3.out.1.1).1 HY.out.2.1 hJ.out (by rw[(gr.out f0 g3.out.1.1).2.2];exact g3.out.1.2.1) hQ.out).mono fun x w' hx=>by
    have gm:P x w':=(gc.out x w').2 (by
     refine((Zbr.base gt.out (show N3+N1<=N2 by have:=g6.out;omega) hx).good ?_);intro d V' r x4 h;rw[(gr.out f0 g3.out.1.1).2.1,g3.out.1.2.2] at h;refine gj.out.next d.vars v _ _ _ _ ?_ ?_ h
     . rw[<- g3.out.1.2.2,<- g3.out.2.2.2];exact HY.out.1
     . intro ρ;rw[<- g2.out.1.2.2,<- g2.out.2.2.2];exact HY.out.2.2 ρ)
    rcases hx.kind with ⟨r,rfl⟩|⟨er,evt,ev,rfl⟩
    . exact .inl ⟨r,rfl,gm⟩
    . exact .inr ⟨er,evt,ev,rfl,gm⟩)
   clear gG h8 ga gX gk g3 g2 HKK HZ gc gx gj g9 gh gg gf ge gt gp gr HY hQ hJ cd4 ca4;go_wp2_with fail;refine gb.out.mono ?_;rintro x w6 (⟨r,rfl,hp⟩|⟨er,evt,ev,rfl,hp⟩)
   . have HF:=Hd hp;clear hp gb;go_wp2_with fail;exact HF.out
   . have HF:=Hd hp;clear hp gb;unfold Zbg;go_wp2_with fail;exact⟨rfl,HF.out⟩
 | false =>
   have k8:=Hd (h8 rfl);have gT:=ga.below (Zaf w5 1);have hE:Hid (AtC K N3 o W mb m V o5 w5.drew m5 V5):=Hd gT;have cd5d:w5.drew.cell? ⟨bd,0,none⟩=some (.func (.func 114) #[] #[.pointer (some ⟨bx,0,none⟩),.pointer (some ⟨bo,0,none⟩),.pointer (some ⟨bd,0,none⟩),.pointer (some ⟨ba,0,none⟩)]):=cd5;have cx5d:w5.drew.cell? ⟨bx,0,none⟩=some (.pointer (some ⟨xb,0,none⟩)):=cx5;have hy:Hid (∀ er evt ev w',Zko K N2 o W mb m V er evt ev w'->P (Zbg er evt ev) w'):=Hd fun er evt ev w' h=>(gc.out _ w').2 (.inr ⟨er,evt,ev,rfl,h⟩)
   have gK:Hid (∀ (k:Nat) (o1:Own) (w':World) (m1:ManD) (V1:Nat->BF) (f' e':Nat),k+N1<=N2->AtC K k o W mb m V o1 w' m1 V1->okE (Zaa m.d) f'->okE (Zaa m.d) e'->SatF (ef V e')->levN m.d v<lvE n (levN m.d) (Zaa m.d) f'->levN m.d v<lvE n (levN m.d) (Zaa m.d) e' ->
    Calls prog 114 #[.int .i64 f',.int .i64 e',.pointer (some ⟨bx,0,none⟩),.pointer (some ⟨bo,0,none⟩),.pointer (some ⟨bd,0,none⟩),.pointer (some ⟨ba,0,none⟩)] w' fun x w2 =>
     (∃ u,x=.returned u/\(w2.cell? ⟨bd,0,none⟩=some (.func (.func 114) #[] #[.pointer (some ⟨bx,0,none⟩),.pointer (some ⟨bo,0,none⟩),.pointer (some ⟨bd,0,none⟩),.pointer (some ⟨ba,0,none⟩)])/\w2.cell? ⟨bx,0,none⟩=some (.pointer (some ⟨xb,0,none⟩)))/\∃ (r:Nat) (o2:Own) (m2:ManD) (V2:Nat->BF),u=.int .i64 r/\AtC K (k+N1) o W mb m V o2 w2 m2 V2/\Step K o1 w' mb m1 V1 o2 w2 m2 V2/\okE (Zaa m2.d) r/\Rel m.d.vars (ef V f') (ef V e') (ef V2 r))\/(∃ ch,x=.panicked ch/\P (.panicked ch) w2)):=Hd fun k o1 w' m1 V1 f' e' hY h1 h2 h3 h4 h5 h6=>by
    have x1:=h1.st.ext;refine(gk.out k o1 w' m1 V1 v f' e' HV.out.2.2.2 h1 (x1.ok h2) (x1.ok h3) (by rw[x1.ef h3];exact h4) (by rw[x1.lvE h2 g5.out.dag.none0 h1.st.ok.dag.none0];exact h5) (by rw[x1.lvE h3 g5.out.dag.none0 h1.st.ok.dag.none0];exact h6)).mono ?_;rintro x w2 (⟨r,o2,m2,V2,rfl,q1,q2,q3⟩|⟨er,evt,ev,rfl,gC⟩)
    . have gd:=h1.trans q1;have gD:=gq.out.step gs.out gd;have gE:=gD.d;unfold ConC.caps at gE;refine .inl ⟨_,rfl,⟨gE,gD.x⟩,r,o2,m2,V2,rfl,gd,q1.st,q2,?_⟩;rw[x1.ef h2,x1.ef h3,gd.st.ext.vars] at q3;exact q3
    . exact .inr ⟨_,rfl,hy.out _ _ _ _ (gC.after h1 hY)⟩
   have HL:=Hd (gK.out N3 o5 w5.drew m5 V5 f0 c0 (by have:=g6.out;omega) hE.out g3.out.1.1 g2.out.1.1 gf.out g3.out.1.2.1 g2.out.1.2.1);clear gG h8 ga gT gX gk gt gp gr cd4 ca4 cd5 cx5 gx;go_upto_region 11 with fail;refine Zit [0,1,2,3,4,6,7,8,5,9,10,11] (fun W=>W.cell? ⟨bd,0,none⟩=some (.func (.func 114) #[] #[.pointer (some ⟨bx,0,none⟩),.pointer (some ⟨bo,0,none⟩),.pointer (some ⟨bd,0,none⟩),.pointer (some ⟨ba,0,none⟩)])/\W.cell? ⟨bx,0,none⟩=some (.pointer (some ⟨xb,0,none⟩))) (fun ch w'=>P (.panicked ch) w') (fun c a w hd h=>⟨hd,h⟩) (by kernel_rfl) ⟨cd5d,cx5d⟩ ?_
   iterate 8
    refine Zf2 rfl rfl (by kernel_rfl) ?_;apply Exists.intro;refine⟨fun w' hw=>?_,?_⟩
    . obtain⟨q1,q2⟩:=hw;go_simp;rfl
    simp only[Zai]
   refine Zjb rfl (by kernel_rfl) rfl rfl (by go_simp) HL.out ?_;rintro u w6 k5 ⟨r0,o6,m6,V6,rfl,gI,st6,k6,f6⟩;have hX:=Hd gI;have hC:=Hd k6;have hS:=Hd f6;have HH:=Hd (gK.out (N3+N1) o6 w6 m6 V6 f1 c1 (by have:=g6.out;omega) gI g3.out.2.1 g2.out.2.1 ge.out g3.out.2.2.1 g2.out.2.2.1);clear gI st6 k6 f6 HL k5;simp only[Zai];refine Zjb rfl (by kernel_rfl) rfl rfl (by go_simp) HH.out ?_;rintro u w7 k4 ⟨r1,o7,m7,V7,rfl,gl,st7,k7,f7⟩;have hA:=Hd k7;have gL:=Hd (st7.ext.ok hC.out);have hD:=Hd f7;have gM:Hid (Rel m.d.vars (ef V f0) (ef V c0) (ef V7 r0)):=Hd (by rw[st7.ext.ef hC.out];exact hS.out);have gn:=Hd (gq.out.step gs.out gl);have hW:=Hd gl
   have hO:Hid (Calls prog 60 #[.pointer (some ⟨xb,0,none⟩),.int .i64 v,.int .i64 r0,.int .i64 r1] w7 fun x w2=>(∃ u,x=.returned u/\(w2.cell? ⟨bd,0,none⟩=some (.func (.func 114) #[] #[.pointer (some ⟨bx,0,none⟩),.pointer (some ⟨bo,0,none⟩),.pointer (some ⟨bd,0,none⟩),.pointer (some ⟨ba,0,none⟩)])/\w2.cell? ⟨bx,0,none⟩=some (.pointer (some ⟨xb,0,none⟩)))/\∃ r:Nat,u=.int .i64 r/\P (.returned (.int .i64 r)) w2)\/(∃ ch,x=.panicked ch/\P (.panicked ch) w2)):=Hd (by
    have gQ:=gn.out.vars;have hG:levN m7.d=levN m.d:=gl.st.ext.lev;have gY:v<m7.d.vars.length:=by rw[gQ];exact HV.out.1
    have hU:levN m7.d v<m7.d.vars.length:=gn.out.ok.dag.lt v gY;have ha:∀ {z f' e':Nat},okE (Zaa m.d) f'->okE (Zaa m.d) e'->levN m.d v<lvE n (levN m.d) (Zaa m.d) f'->levN m.d v<lvE n (levN m.d) (Zaa m.d) e'->okE (Zaa m7.d) z->Rel m.d.vars (ef V f') (ef V e') (ef V7 z)->levN m7.d v<lvE m7.d.vars.length (levN m7.d) (Zaa m7.d) z:=fun {z f' e'} h1 h2 h3 h4 h5 h6 =>
     Zpv gn.out.ok h5 hU fun u hu gR=>gj.out.ind _ _ _ _ u (Zfm g5.out h1 (by rw[g4.out];rw[hG] at gR;omega)) (Zfm g5.out h2 (by rw[g4.out];rw[hG] at gR;omega)) h6
    refine(Zv6 HKK.out gn.out.is gn.out.lt gn.out.ctx gn.out.ok v r0 r1 gY gL.out hA.out (ha g3.out.1.1 g2.out.1.1 g3.out.1.2.1 g2.out.1.2.1 gL.out gM.out) (ha g3.out.2.1 g2.out.2.1 g3.out.2.2.1 g2.out.2.2.1 hA.out hD.out)).mono ?_;rintro x w2 (⟨r,o2,m2,V2,rfl,q1,q2,q3,_⟩|⟨er,evt,ev,rfl,gC⟩)
    .
     have gd:=gl.trans q1;have gD:=gq.out.step gs.out gd;have gE:=gD.d;unfold ConC.caps at gE;refine .inl ⟨_,rfl,⟨gE,gD.x⟩,r,rfl,(gc.out _ w2).2 (.inl ⟨r,o2,m2,V2,rfl,gd.mono (by have:=g6.out;omega),q2,?_⟩)⟩
     show Rel m2.d.vars (ef V f) (ef V e) (ef V2 r)
     have g0:=gM.out;have g1:=hD.out;rw[gd.st.ext.vars,g9.out,q3];rw[g9.out,g3.out.1.2.2,g2.out.1.2.2] at g0;rw[g9.out,g3.out.2.2.2,g2.out.2.2.2] at g1;exact gj.out.both v pre post _ _ _ _ gh.out (by rw[<- g2.out.1.2.2];exact gf.out) (by rw[<- g2.out.2.2.2];exact ge.out) (by rw[<- g3.out.1.2.2,<- g3.out.2.2.2];exact k8.out) g0 g1
    . exact .inr ⟨_,rfl,hy.out _ _ _ _ (gC.after gl (by have:=g6.out;omega))⟩)
   clear gl st7 k7 f7 HH k4 gK hW gn gM hD hA gL hC hS hX;simp only[Zai];refine Zjb rfl (by kernel_rfl) rfl rfl (by go_simp) hO.out ?_;rintro u w8 k3 ⟨r,rfl,hp⟩;have HF:=Hd hp;clear hp k3 hO;simp only[Zai];refine Zf2 rfl rfl (by kernel_rfl) ?_;apply Exists.intro;refine⟨fun w' hw=>?_,?_⟩
   . clear hw;go_simp;rfl
   simp only[Zai];refine Zp0 (by kernel_rfl) ?_;clear cd5d cx5d;go_wp2_with fail;exact HF.out
end
open Go.RowKit
theorem boxes2e (w:World)(x y:Value)(s t:TypeId):∃ w3,w3=(w.alloc (.cells #[x] s)).alloc (.cells #[y] t)/\Below w.heap.size w w3/\w3.heap.size=w.heap.size+2/\w3.cell? ⟨w.heap.size,0,none⟩=some x/\w3.cell? ⟨w.heap.size+1,0,none⟩=some y:=by
 refine⟨_,rfl,(Zad _ _).alloc (by simp) _,by simp,?_,?_⟩
 . exact cell1 ((Go.heap_alloc_old _ _ (by simp)).trans (heap_alloc_new _ _))
 . have:=heap_alloc_new (w.alloc (.cells #[x] s)) (.cells #[y] t);rw[World.size_alloc] at this;exact cell1 this
section
variable {K:Law}{n:Nat}{Rel:List Nat->BF->BF->BF->Prop}{Yes:BF->BF->Prop}{Bw:World->Prop}{T:Nat->Prop}{c:ConC}{o o':Own}{W W':World}{mb:Nat}{m m':ManD}{V V':Nat->BF}{J:Nat}
theorem Zr9 (hK:Zb4 K)(hR:Ztd Rel Yes)(hKey:Zvc K c.op Rel)(hB:∀ W W',Bw W->(∀ q,T q->W'.heap[q]?=W.heap[q]?)->Bw W')(hat:AtOK K n Yes c.xb mb Bw T c.g c.lw)(eg:∀ args w,(callFunc c.g args).run prog w=.ok (.enter c.g args) w)
 (IH:∀ j,J=j+1->Zym K n Rel Bw T c mb j):Zym K n Rel Bw T c mb J:=by
 intro o W m V f e hs hf he g1 g2 g9;have gi:∀ (fn:Fn) (first cap:Array Value) (w:World),(Instr.makeFunc fn first cap).run prog w=.ok (.func fn first cap) w:=fun _ _ _ _=>rfl
 obtain⟨w2,g8,g6,ga,cf,ce⟩:=boxes2e W (.int .i64 f) (.int .i64 e) 76 76;have ge:Hid (_=w2):=Hd g8.symm;have g0:=hs.below hB g6;have hk:=hs.ok;have g3:AtC K 0 o W mb m V o w2 m V:=(AtC.refl hs.is hs.lt hk).below g6;obtain⟨N,hN⟩:∃ N,N=(2^J-1)*2^n:=⟨_,rfl⟩;obtain⟨P,hP⟩:∃ P:Ending->World->Prop,P=Zbr K N o W mb m V fun d V' r=>Rel d.vars (ef V f) (ef V e) (ef V' r):=⟨_,rfl⟩
 rw[<- hN,<- hP];have g5:=Hd (Zgf f w2 (Zg6 hs.is hf));have g4:Hid (Rel m.d.vars (ef V f) (ef V e) (ef V f)->P (.returned (.int .i64 (f:Nat))) w2):=Hd fun h=>by
  rw[hP];exact .inl ⟨f,o,m,V,rfl,g3.mono (Nat.zero_le _),hf,h⟩
 by_cases h1:e=0
 .
  have HF:=Hd (g4.out (hR.tru _ _ _ (by subst h1;intro ρ;rw[hk.dag.ef0])));have hb:(((e:Nat):Int) == 0)=true:=by subst h1;rfl
  clear hP hs g0 hk g3 hK hR hKey hB hat IH g1 g2 g9 hf he g4 g5 g8 g6 ga h1 hN eg;obtain⟨bx,bo,bd,ba,xb,op,g,lw⟩:=c;unfold ConC.caps
  show Calls _ _ #[_,_,_,_,_,_] _ _
  go_enter func114,ntmps114
  go_upto_region 1 with fail;rw[ge.out];go_wp2_with fail;exact HF.out
 have hb:(((e:Nat):Int) == 0)=false:=by rw[beq_eq_false_iff_ne];omega
 by_cases h0:f/2=0
 .
  have HF:=Hd (g4.out (hR.const _ _ _ (by
   intro ρ ρ';rw[Zij hk h0];rfl)))
  rw[decide_eq_true (show enode f=0 from h0)] at g5;clear hP hs g0 hk g3 hK hR hKey hB hat IH g1 g2 g9 hf he g4 g8 g6 ga h1 h0 hN eg;obtain⟨bx,bo,bd,ba,xb,op,g,lw⟩:=c;unfold ConC.caps
  show Calls _ _ #[_,_,_,_,_,_] _ _
  go_enter func114,ntmps114
  go_upto_region 1 with fail;rw[ge.out];go_wp2_with fail;refine g5.out.mono ?_;rintro y w' ⟨rfl,rfl⟩;go_wp2_with fail;exact HF.out
 rw[decide_eq_false (show ¬ enode f=0 from h0)] at g5;cases J with
 | zero =>
   exfalso;rcases hf with h|⟨b,gg⟩
   . exact h0 h
   . have h1:=hk.dag.lt b.v (hk.dag.var _ _ gg);rw[hs.vars] at h1;unfold lvE at g2;rw[gg] at g2;simp at g2;omega
 | succ j =>
   have gb:o W.heap.size=none:=hs.lt.none (Nat.le_refl _);have gc:o (W.heap.size+1)=none:=hs.lt.none (by omega);have gd:Calls prog 115 #[.pointer (some ⟨c.xb,0,none⟩),.int .i64 c.op,.int .i64 f,.int .i64 e,.int .i64 (0:Nat),.func (.func 116) #[] #[.pointer (some ⟨c.bx,0,none⟩),.pointer (some ⟨W.heap.size,0,none⟩),.pointer (some ⟨W.heap.size+1,0,none⟩),.pointer (some ⟨c.bd,0,none⟩),.pointer (some ⟨c.ba,0,none⟩)]] w2 (Zbr K N o w2 mb m V fun d V' r=>Rel d.vars (ef V f) (ef V e) (ef V' r)):=by
    refine Zv5 g0.is g0.lt g0.ctx hk Zj5 c.op f e 0 (fun r hr=>?_) (fun d' V' r gj x hr hA=>?_) (fun w1 hc hm hl=>?_)
    . obtain⟨_,_,q3,q4⟩:=(hKey _ _ _ _ _).1 hr;exact⟨q3,q4 g1⟩
    . refine(hKey _ _ _ _ _).2 ⟨x.ok hf,x.ok he,hr,fun _=>?_⟩;rw[x.ef hf,x.ef he];exact hA
    . have gh:AtC K 0 o w2 mb m V o w1 m V:=⟨⟨hm,hl,hc,hk,Ext.refl _ _,rfl,rfl⟩,rfl,Nat.le_refl _⟩;rw[hN];exact Yc6 hK hR hB hat eg (IH j rfl) (g0.step hB gh) hf he g1 h0 g2 g9 (hc.cell cf gb) (hc.cell ce gc) gb gc
   have g7:Hid (Calls prog 115 #[.pointer (some ⟨c.xb,0,none⟩),.int .i64 c.op,.int .i64 f,.int .i64 e,.int .i64 0,.func (.func 116) #[] #[.pointer (some ⟨c.bx,0,none⟩),.pointer (some ⟨W.heap.size,0,none⟩),.pointer (some ⟨W.heap.size+1,0,none⟩),.pointer (some ⟨c.bd,0,none⟩),.pointer (some ⟨c.ba,0,none⟩)]] w2 fun x w'=>(∃ r:Nat,x=.returned (.int .i64 r)/\P x w')\/∃ er evt ev,x=Zbg er evt ev/\P x w'):=Hd (gd.mono fun x w' hx=>by
    have gf:P x w':=by
     rw[hP];exact Zbr.base g3 (by omega) hx
    rcases hx.kind with ⟨r,rfl⟩|⟨er,evt,ev,rfl⟩
    . exact .inl ⟨r,rfl,gf⟩
    . exact .inr ⟨er,evt,ev,rfl,gf⟩)
   have cx:=g0.x;have cp:=g0.p;clear gd hP hs g0 hk g3 hK hR hKey hB hat IH g1 g2 g9 hf he g4 g8 g6 ga h1 h0 hN eg gb gc;obtain⟨bx,bo,bd,ba,xb,op,g,lw⟩:=c;unfold ConC.caps
   show Calls _ _ #[_,_,_,_,_,_] _ _
   go_enter func114,ntmps114
   go_upto_region 1 with fail;rw[ge.out];go_wp2_with fail;refine g5.out.mono ?_;rintro y w' ⟨rfl,rfl⟩;go_wp2_with fail;refine g7.out.mono ?_;rintro x w5 (⟨r,rfl,hp⟩|⟨er,evt,ev,rfl,hp⟩)
   . have HF:=Hd hp;clear hp g7;go_wp2_with fail;exact HF.out
   . have HF:=Hd hp;clear hp g7;unfold Zbg;go_wp2_with fail;exact⟨rfl,HF.out⟩
theorem Zv3 (hK:Zb4 K)(hR:Ztd Rel Yes)(hKey:Zvc K c.op Rel)(hB:∀ W W',Bw W->(∀ q,T q->W'.heap[q]?=W.heap[q]?)->Bw W')(hat:AtOK K n Yes c.xb mb Bw T c.g c.lw)(eg:∀ args w,(callFunc c.g args).run prog w=.ok (.enter c.g args) w):∀ J,Zym K n Rel Bw T c mb J
 | 0=>Zr9 hK hR hKey hB hat eg (fun j e=>by cases e)
 | J+1=>Zr9 hK hR hKey hB hat eg (fun j e=>by cases e;exact Zv3 hK hR hKey hB hat eg J)
theorem Zh5 (hK:Zb4 K)(hR:Ztd Rel Yes){op:Int}(hKey:Zvc K op Rel)(hB:∀ W W',Bw W->(∀ q,T q->W'.heap[q]?=W.heap[q]?)->Bw W'){g xb:Nat}{lw:Array Value}(hat:AtOK K n Yes xb mb Bw T g lw)(eg:∀ args w,(callFunc g args).run prog w=.ok (.enter g args) w)
 {f e:Nat} (hm:Zcg (K m.d V) o W mb m) (hlt:Zaj o W) (hx:Zce o W xb mb) (hk:Zal m.d V) (hn:m.d.vars.length=n) (hbw:Bw W) (hT:∀ q,T q->q<W.heap.size/\o q=none) (hf:okE (Zaa m.d) f) (he:okE (Zaa m.d) e) (hsat:SatF (ef V e)) :
 Calls prog 66 #[.pointer (some ⟨xb,0,none⟩),.int .i64 op,.int .i64 f,.int .i64 e,.func (.func g) #[] lw] W (Zbr K ((2^n-1)*2^n) o W mb m V fun d V' r=>Rel d.vars (ef V f) (ef V e) (ef V' r)):=by
 have gh:∀ (fn:Fn) (first cap:Array Value) (w:World),(Instr.makeFunc fn first cap).run prog w=.ok (.func fn first cap) w:=fun _ _ _ _=>rfl
 obtain⟨w4,g4⟩:∃ w4,w4=(((W.alloc (.cells #[.pointer (some ⟨xb,0,none⟩)] 75)).alloc (.cells #[.int .i64 op] 3)).alloc (.cells #[.func (.func g) #[] lw] 109)).alloc (.cells #[.nilFunc] 161):=⟨_,rfl⟩;have gg:Hid (_=w4):=Hd g4.symm;have gf:w4.heap.size=W.heap.size+1+1+1+1:=by rw[g4];simp
 have gd:Below W.heap.size W w4:=by rw[g4];exact(((Zad _ _).alloc (by simp) _).alloc (by simp;omega) _).alloc (by simp;omega) _
 have g0:w4.heap[W.heap.size]?=some (.cells #[.pointer (some ⟨xb,0,none⟩)] 75 (0,0)):=by
  rw[g4];exact(Go.heap_alloc_old _ _ (by simp;omega)).trans ((Go.heap_alloc_old _ _ (by simp;omega)).trans ((Go.heap_alloc_old _ _ (by simp)).trans (heap_alloc_new _ _)))
 have g1:w4.heap[W.heap.size+1]?=some (.cells #[.int .i64 op] 3 (0,0)):=by
  have:=heap_alloc_new (W.alloc (.cells #[.pointer (some ⟨xb,0,none⟩)] 75)) (.cells #[.int .i64 op] 3);rw[World.size_alloc] at this;rw[g4];exact(Go.heap_alloc_old _ _ (by simp<;>omega)).trans ((Go.heap_alloc_old _ _ (by simp)).trans this)
 have g2:w4.heap[W.heap.size+1+1]?=some (.cells #[.func (.func g) #[] lw] 109 (0,0)):=by
  have:=heap_alloc_new ((W.alloc (.cells #[.pointer (some ⟨xb,0,none⟩)] 75)).alloc (.cells #[.int .i64 op] 3)) (.cells #[.func (.func g) #[] lw] 109);rw[World.size_alloc,World.size_alloc] at this;rw[g4];exact(Go.heap_alloc_old _ _ (by simp)).trans this
 have g3:w4.heap[W.heap.size+1+1+1]?=some (.cells #[.nilFunc] 161 (0,0)):=by
  have:=heap_alloc_new (((W.alloc (.cells #[.pointer (some ⟨xb,0,none⟩)] 75)).alloc (.cells #[.int .i64 op] 3)).alloc (.cells #[.func (.func g) #[] lw] 109)) (.cells #[.nilFunc] 161);rw[World.size_alloc,World.size_alloc,World.size_alloc] at this;rw[g4];exact this
 obtain⟨FV,gb⟩:∃ FV:Value,FV=.func (.func 114) #[] #[.pointer (some ⟨W.heap.size,0,none⟩),.pointer (some ⟨W.heap.size+1,0,none⟩),.pointer (some ⟨W.heap.size+1+1+1,0,none⟩),.pointer (some ⟨W.heap.size+1+1,0,none⟩)]:=⟨_,rfl⟩;have c6:=cell1 g3;have f6:w4.frozen? ⟨W.heap.size+1+1+1,0,none⟩=false:=by simp[World.frozen?,g3]
 obtain⟨w5,g5⟩:∃ w5,w5=w4.setCell ⟨W.heap.size+1+1+1,0,none⟩ FV:=⟨_,rfl⟩;have gi:Hid (_=w5):=Hd g5.symm;have ga:∀ q:Nat,q≠W.heap.size+1+1+1->w5.heap[q]?=w4.heap[q]?:=fun q hq=>by rw[g5];exact Zag hq _
 have e6:w5.heap[W.heap.size+1+1+1]?=some (.cells #[FV] 161 (0,0)):=by rw[g5];exact Zah g3 _
 have g9:Below W.heap.size W w5:=by rw[g5];exact gd.setCell (p:=⟨W.heap.size+1+1+1,0,none⟩) (by show W.heap.size<=W.heap.size+1+1+1;omega) _
 have ge:(store ⟨W.heap.size+1+1+1,0,none⟩ FV).run prog w4=.ok () w5:=by
  rw[run_store _ _ _ _ _ (by rw[gb];rfl)];simp[c6,f6,g5]
 have k6:w5.cell? ⟨W.heap.size+1+1+1,0,none⟩=some FV:=cell1 e6;rw[gb] at k6 ge;have g7:AtC K 0 o W mb m V o w5 m V:=(AtC.refl hm hlt hk).below g9;have k0:w5.cell? ⟨W.heap.size,0,none⟩=some (.pointer (some ⟨xb,0,none⟩)):=cell1 ((ga _ (by omega)).trans g0);have k1:w5.cell? ⟨W.heap.size+1,0,none⟩=some (.int .i64 op):=cell1 ((ga _ (by omega)).trans g1);have k2:w5.cell? ⟨W.heap.size+1+1,0,none⟩=some (.func (.func g) #[] lw):=cell1 ((ga _ (by omega)).trans g2);have hs:ConS K n Bw T ⟨W.heap.size,W.heap.size+1,W.heap.size+1+1+1,W.heap.size+1+1,xb,op,g,lw⟩ mb o w5 m V:=by
  refine⟨g7.st.is,g7.st.lt,hk,hn,⟨(g9.cell (p:=⟨xb,0,none⟩) (Zab hx.cell)).trans hx.cell,hx.own⟩,hB _ _ hbw (fun q hq=>g9.block q (hT q hq).1),k0,k1,k6,k2,?_,fun q hq=>Nat.lt_of_lt_of_le (hT q hq).1 g9.size⟩;rintro q (rfl|rfl|rfl|rfl|hq)
  . exact hlt.none (Nat.le_refl _)
  . exact hlt.none (by show W.heap.size<=W.heap.size+1;omega)
  . exact hlt.none (by show W.heap.size<=W.heap.size+1+1+1;omega)
  . exact hlt.none (by show W.heap.size<=W.heap.size+1+1;omega)
  . exact(hT q hq).2
 have g6:=Zv3 (mb:=mb) hK hR (c:=⟨W.heap.size,W.heap.size+1,W.heap.size+1+1+1,W.heap.size+1+1,xb,op,g,lw⟩) hKey hB hat eg n o w5 m V f e hs hf he hsat (by omega) (by omega);obtain⟨N,hN⟩:∃ N,N=(2^n-1)*2^n:=⟨_,rfl⟩;obtain⟨P,hP⟩:∃ P:Ending->World->Prop,P=Zbr K N o W mb m V fun d V' r=>Rel d.vars (ef V f) (ef V e) (ef V' r):=⟨_,rfl⟩
 rw[<- hN] at g6 ⊢
 have g8:Hid (Calls prog 114 #[.int .i64 f,.int .i64 e,.pointer (some ⟨W.heap.size,0,none⟩),.pointer (some ⟨W.heap.size+1,0,none⟩),.pointer (some ⟨W.heap.size+1+1+1,0,none⟩),.pointer (some ⟨W.heap.size+1+1,0,none⟩)] w5 fun x w'=>(∃ r:Nat,x=.returned (.int .i64 r)/\P x w')\/∃ er evt ev,x=Zbg er evt ev/\P x w'):=Hd (Calls.mono g6 fun x w' hx=>by
  have gc:P x w':=by
   rw[hP];exact Zbr.base g7 (by omega) hx
  rcases hx.kind with ⟨r,rfl⟩|⟨er,evt,ev,rfl⟩
  . exact .inl ⟨r,rfl,gc⟩
  . exact .inr ⟨er,evt,ev,rfl,gc⟩)
 have eg1:=Zet;rw[<- hP];clear k0 k1 k2 hP g6 hs g7 hK hR hKey hB hat hm hlt hx hk hn hbw hT hf he hsat gd g9 ga e6 g0 g1 g2 g3 g4 g5 gf gb hN eg
 go_enter func66,ntmps66
 go_upto_region 2 with fail;rw[gg.out];go_wp2_with fail;refine g8.out.mono ?_;rintro x w6 (⟨r,rfl,hp⟩|⟨er,evt,ev,rfl,hp⟩)
 . have HF:=Hd hp;clear hp g8;go_wp2_with fail;exact HF.out
 . have HF:=Hd hp;clear hp g8;unfold Zbg;go_wp2_with fail;exact⟨rfl,HF.out⟩
end
open Go.RowKit
open Go.RowKit
open Go.RowKit
open Go.RowKit
open Go.RowKit
section
variable {K:Law}{n:Nat}{Od:List Nat->Prop}{room:Nat}{w0:World}{fs:List (Int×BF)}{nx:Int}{σ:Nat->BF}{HP:ManD->(Nat->BF)->Prop}{Bw:World->Prop}{T:Nat->Prop}{o:Own}{w w1:World}{mb xb:Nat}{m:ManD}{V:Nat->BF}{ws0:List Ev}
theorem boxes2v (w:World)(x y:Value)(s t:TypeId):∃ w3,w3=(w.alloc (.cells #[x] s)).alloc (.cells #[y] t)/\Below w.heap.size w w3/\w3.heap.size=w.heap.size+2/\w3.cell? ⟨w.heap.size,0,none⟩=some x/\w3.cell? ⟨w.heap.size+1,0,none⟩=some y:=by
 refine⟨_,rfl,(Zad _ _).alloc (by simp) _,by simp,?_,?_⟩
 . exact cell1 ((Go.heap_alloc_old _ _ (by simp)).trans (heap_alloc_new _ _))
 . have:=heap_alloc_new (w.alloc (.cells #[x] s)) (.cells #[y] t);rw[World.size_alloc] at this;exact cell1 this
def known (fs:List (Int×BF))(k:Int):Prop:=∃ F,(k,F)∈fs
theorem Zrk (h:SatE K n Od room w0 mb fs nx w o m V)(k:Int){b:Bool}(hb:b=true↔known fs k):Calls prog 13 #[.pointer (some ⟨mb,0,none⟩),.int .i64 k] w fun x w'=>x=.returned (.bool b)/\w=w':=by
 cases b with
 | true =>
   obtain⟨F,hF⟩:=hb.1 rfl;exact Zlb h hF
 | false=>exact Zzj h (fun p hp e=>by
  have:known fs k:=⟨p.2,by rw[<- e];exact hp⟩;have:=hb.2 this;cases this)
end
end Go.Proofs.YteohpagjkaaboaaGreat
