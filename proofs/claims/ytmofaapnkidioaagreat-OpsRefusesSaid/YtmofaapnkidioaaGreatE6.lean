/- Several texts in one file: contracts of the program's functions and what follows from them. -/
import Derived.Test.YtmofaapnkidioaaGreatE5
import Derived.Shelf.Slices.Reverse
import Derived.Ground.Names2Prog
import Derived.Shelf.Slices.Cells
import Derived.Shelf.Slices.Empties
set_option linter.unusedSimpArgs false
set_option linter.unusedVariables false
set_option linter.unusedSectionVars false
set_option linter.unnecessarySimpa false
set_option maxRecDepth 100000
set_option maxHeartbeats 8000000
namespace Go.Proofs.YtmofaapnkidioaaGreat
open Go.RowKit
theorem Zv7 (zs:List Int) (x:Int) (i:Nat):Zth zs x i=bub zs i (Zfb zs x-i).toNat:=rfl
theorem Zti (zs:List Int) (i d:Nat):(bub zs i (d+1)).2=((i+d:Nat):Int)::(bub (Zo4 zs ((i+d:Nat):Int)) i d).2:=rfl
def Zi1 (a b:List Int) (w:World) (e:Ending) (w':World):Prop :=
 ∃ v,e=.returned (.tuple #[v,.int .i64 (Zdq a b)])/\OwnI w' w.heap.size v (Zen a b)/\Below w.heap.size w w'
theorem Zfs {a b r:List Int} {w w':World} {v:Value} {E:Int} (hE:Zdq a b=E) (hr:Zen a b=r) (hs:OwnI w' w.heap.size v r) (hb:Below w.heap.size w w') :
 Zi1 a b w (.returned (.tuple #[v,.int .i64 E])) w':=⟨v,by rw[hE],by rw[hr];exact hs,hb⟩
def metB (zs:List Int) (k:Nat) (v:Int):Bool:=decide (∃ j,j<k/\at0 zs j=v)
theorem Zuy (zs:List Int) (v:Int):metB zs 0 v=false:=by simp[metB]
theorem Zoj (zs:List Int) (k:Nat):metB zs (k+1) (at0 zs k)=true:=by simp only[metB,decide_eq_true_eq];exact⟨k,by omega,rfl⟩
theorem Zja (zs:List Int) (k:Nat) (v:Int) (h:at0 zs k≠v):metB zs (k+1) v=metB zs k v:=by
 simp only[metB,decide_eq_decide];constructor
 ·
  rintro⟨j,hj,he⟩;refine⟨j,?_,he⟩
  by_cases e:j=k
  ·
   subst e;exact(h he).elim
  ·
   omega
 ·
  rintro⟨j,hj,he⟩;exact⟨j,by omega,he⟩
theorem Zux {zs:List Int} {k:Nat} {v:Int} (h:metB zs k v=true):∃ j,j<k/\at0 zs j=v:=by simpa [metB] using h
theorem Zsh {zs:List Int} {k:Nat} {v:Int} (h:metB zs k v=false):∀ j,j<k->at0 zs j≠v:=by
 intro j hj he;have:metB zs k v=true:=by simp only[metB,decide_eq_true_eq];exact⟨j,hj,he⟩
 rw[h] at this;cases this
def Marks (w:World) (g:Nat) (zs:List Int) (k base:Nat):Prop :=
 ∃ cur,w.heap[g]?=some (.cells cur 206 (0,0))/\cur.size=64/\∀ u,u<64->cur[u]?=some (.bool (metB zs k ((base+u:Nat):Int)))
theorem Marks.cell {w:World} {g:Nat} {zs:List Int} {k base:Nat} (h:Marks w g zs k base) (u:Nat) (hu:u<64):w.cell? ⟨g,u,none⟩=some (.bool (metB zs k ((base+u:Nat):Int))):=by
 obtain⟨cur,h1,h2,h3⟩:=h;simp only[World.cell?,h1];exact h3 u hu
theorem Marks.frozen {w:World} {g:Nat} {zs:List Int} {k base:Nat} (h:Marks w g zs k base) (u:Nat):w.frozen? ⟨g,u,none⟩=false:=by
 obtain⟨cur,h1,h2,h3⟩:=h;simp[World.frozen?,h1]
theorem Marks.step_out {w:World} {g:Nat} {zs:List Int} {k base:Nat} (h:Marks w g zs k base) (hx:¬ ((base:Int)<=at0 zs k/\at0 zs k<base+64)):Marks w g zs (k+1) base:=by
 obtain⟨cur,h1,h2,h3⟩:=h;exact⟨cur,h1,h2,fun u hu=>by rw[Zja _ _ _ (by omega)];exact h3 u hu⟩
theorem Marks.step_in {w:World} {g:Nat} {zs:List Int} {k base u:Nat} (h:Marks w g zs k base) (hx:at0 zs k=((base+u:Nat):Int)) (hu:u<64) :
 Marks (w.setCell ⟨g,u,none⟩ (.bool true)) g zs (k+1) base:=by
 obtain⟨cur,h1,h2,h3⟩:=h;refine⟨cur.setIfInBounds u (.bool true),?_,by simpa using h2,fun v hv=>?_⟩
 ·
  simp[World.setCell,Array.getElem?_modify,h1]
 ·
  by_cases e:v=u
  ·
   subst e;rw[Array.getElem?_setIfInBounds_self_of_lt (by omega),<- hx,Zoj]
  ·
   rw[Array.getElem?_setIfInBounds_ne (by omega),Zja _ _ _ (by omega)];exact h3 v hv
theorem Zuw (w:World) (zs:List Int) (base:Nat) (cs:List Value) (hcs:cs=List.replicate 64 (.bool false)):Marks (w.alloc (.cells cs.toArray 206)) w.heap.size zs 0 base :=
 ⟨_,heap_alloc_new w _,by simp[hcs],fun u hu=>by rw[Zuy,List.getElem?_toArray,hcs,List.getElem?_replicate,if_pos hu]⟩
def Zjv (zs:List Int) (B:Nat):Prop :=
 1<=B->(∀ j,j<zs.length->0<=at0 zs j/\at0 zs j<zs.length)/\∀ i,i<zs.length->∀ l,l<i->at0 zs l=at0 zs i->(B:Int)<=at0 zs i
def Zju (zs:List Int) (B k:Nat):Prop :=
 (∀ j,j<k->0<=at0 zs j/\at0 zs j<zs.length)/\(∀ i,i<k->∀ l,l<i->at0 zs l=at0 zs i->¬ ((B:Int)<=at0 zs i/\at0 zs i<(B:Int)+64))
theorem Zox (zs:List Int):Zjv zs 0:=fun h=>by omega
theorem Zov (zs:List Int) (B:Nat):Zju zs B 0:=⟨by omega,by omega⟩
theorem Zgi {zs:List Int} {B k:Nat} (h:Zju zs B k) (h1:0<=at0 zs k) (h2:at0 zs k<zs.length)
 (h3:¬ ((B:Int)<=at0 zs k/\at0 zs k<(B:Int)+64)\/metB zs k (at0 zs k)=false):Zju zs B (k+1):=by
 refine⟨fun j hj=>?_,fun i hi l hl he=>?_⟩
 ·
  by_cases e:j=k
  ·
   subst e;exact⟨h1,h2⟩
  ·
   exact h.1 j (by omega)
 ·
  by_cases e:i=k
  ·
   subst e;rcases h3 with h3|h3
   ·
    exact h3
   ·
    exact(Zsh h3 l hl he).elim
  ·
   exact h.2 i (by omega) l hl he
theorem Zow {zs:List Int} {B:Nat} (h:Zjv zs B) (hi:Zju zs B zs.length):Zjv zs (B+64):=by
 refine fun _=>⟨hi.1,fun i hlt l hl he=>?_⟩
 have h2:=hi.2 i hlt l hl he;have h3:=(hi.1 i hlt).1
 by_cases hB:1<=B
 ·
  have:=(h hB).2 i hlt l hl he;omega
 ·
  omega
theorem Zou {zs:List Int} {B:Nat} (h:Zjv zs B) (hB:zs.length<=B):Zem zs=true:=by
 rw[Zlu]
 by_cases h0:1<=B
 ·
  obtain⟨h1,h2⟩:=h h0;exact⟨h1,fun i hi k hk he=>by have:=h2 i hi k hk he;have:=(h1 i hi).2;omega⟩
 ·
  exact⟨by omega,by omega⟩
theorem Zgh {zs:List Int} {k:Nat} (hk:k<zs.length) (h:¬ (0<=at0 zs k/\at0 zs k<zs.length)):Zem zs=false:=Zjc fun hh=>h (hh.1 k hk)
theorem Zmu {zs:List Int} {k:Nat} (hk:k<zs.length) (h:metB zs k (at0 zs k)=true):Zem zs=false:=by
 obtain⟨j,hj,he⟩:=Zux h;exact Zjc fun hh=>hh.2 k hk j hj he
theorem Zcg (a:Option Addr) (c:Nat) (zs:List Int) (w:World) (h:Za4 w a zs) (hlen:zs.length<1000000) :
 Calls Tryz.prog 232 #[.slice a zs.length c] w fun e w'=>e=.returned (.bool (Zem zs))/\Below w.heap.size w w':=by
 obtain⟨hl,hc⟩:=h;have HC1:Hid (∀ k,k<zs.length->∃ b off,a=some ⟨b,off,none⟩/\b<w.heap.size/\w.cell? ⟨b,off+k,none⟩=some (.int .i64 (at0 zs k))):=fun k hk=>by
  obtain⟨b,off,h1,h2⟩:=hc k hk;exact⟨b,off,h1,Zaa h2,h2⟩
 clear hc
 go_enter Tryz.func232,Tryz.ntmps232
 go_wp2
 go_loopw [3] (fun s3 wr=>∃ B:Nat,s3=.int .i64 B/\B<=zs.length+63/\Zjv zs B/\Below w.heap.size w wr/\w.heap.size<=wr.heap.size) (fun i _=>zs.length+64-(intOf i).toNat)
 case atStart=>exact⟨0,rfl,by omega,Zox zs,Below.refl _ _,Nat.le_refl _⟩
 case round =>
  obtain⟨B,rfl,hB,hrel,hbel,hsz⟩:=hrel;have HR:=Hd hrel;clear hrel
  by_cases hlt:B<zs.length
  ·
   go_wp2
   obtain⟨wo,rfl⟩:∃ wo:World,wo=wr:=⟨_,rfl⟩
   go_loopw [16] (fun i wi=>∃ k:Nat,k<=zs.length/\i=.int .i64 k/\Zju zs B k/\Marks wi wo.heap.size zs k B/\Below w.heap.size w wi/\w.heap.size<=wi.heap.size) (fun i _=>zs.length-(intOf i).toNat)
   case atStart=>exact⟨0,by omega,rfl,Zov zs B,Zuw _ _ _ _ rfl,hbel.alloc hsz _,by simp;omega⟩
   case round =>
    obtain⟨k,hk,rfl,hr1,hm,hbel2,hsz2⟩:=hrel;have HR1:=Hd hr1;have HM:=Hd hm;clear hr1 hm
    by_cases hkn:k<zs.length
    ·
     obtain⟨b,off,rfl,hbw,hcw⟩:=HC1.out k hkn;have hcell:=(hbel2.cell (p:=⟨b,off+k,none⟩) hbw).trans hcw;clear hcw
     by_cases hx:0<=at0 zs k/\at0 zs k<zs.length
     ·
      obtain⟨hx1,hx2⟩:=hx
      by_cases hwin:(B:Int)<=at0 zs k/\at0 zs k<(B:Int)+64
      ·
       obtain⟨hwin1,hwin2⟩:=hwin;have hu64:((at0 zs k).toNat-B)<64:=by omega
       have hu0:at0 zs k=((B+((at0 zs k).toNat-B):Nat):Int):=by omega
       have hcm:=HM.out.cell _ hu64;have hfm:=HM.out.frozen ((at0 zs k).toNat-B);rw[<- hu0] at hcm;have HU:=Hd hu0
       generalize hmb:metB zs k (at0 zs k)=mb at hcm
       have HMB:=Hd hmb;clear hmb hu0;cases mb
       ·
        go_wp2
        go_roundw
        case rel=>exact⟨k+1,by omega,by go_num,Zgi HR1.out hx1 hx2 (.inr HMB.out),HM.out.step_in HU.out hu64,hbel2.setCell hsz _,by simp;omega⟩
        case measure=>simp[intOf];omega
       ·
        go_wp2
        go_ret;exact⟨Zdp (Zmu hkn HMB.out).symm,hbel2⟩
      ·
       have HW:=Hd hwin
       by_cases hlo:at0 zs k<(B:Int)
       ·
        clear hwin
        go_wp2
        go_roundw
        case rel=>exact⟨k+1,by omega,by go_num,Zgi HR1.out hx1 hx2 (.inl HW.out),HM.out.step_out HW.out,hbel2,hsz2⟩
        case measure=>simp[intOf];omega
       ·
        have hhi:(B:Int)+64<=at0 zs k:=by omega
        clear hwin
        go_wp2
        go_roundw
        case rel=>exact⟨k+1,by omega,by go_num,Zgi HR1.out hx1 hx2 (.inl HW.out),HM.out.step_out HW.out,hbel2,hsz2⟩
        case measure=>simp[intOf];omega
     ·
      have HX:=Hd hx
      by_cases hneg:at0 zs k<0
      ·
       clear hx
       go_wp2
       go_ret;exact⟨Zdp (Zgh hkn HX.out).symm,hbel2⟩
      ·
       have hge:(zs.length:Int)<=at0 zs k:=by omega
       clear hx
       go_wp2
       go_ret;exact⟨Zdp (Zgh hkn HX.out).symm,hbel2⟩
    ·
     obtain rfl:k=zs.length:=by omega
     go_wp2
     go_roundw
     case rel=>exact⟨B+64,by go_num,by omega,Zow HR.out HR1.out,hbel2,hsz2⟩
     case measure=>simp[intOf];omega
  ·
   go_wp2
   go_ret;exact⟨Zdp (Zou HR.out (by omega)).symm,hbel⟩
theorem Zky {ops:Array Oper} {rest:List Oper} {o:Oper} {a:Act} {Q:Exit->Act->World->Prop} {wr:World} (hgd:o.guard=none) (d s:Operand)
 (ho:o.op=.call { callee:=.builtin .copy,args:=#[d,s],argTypes:=#[22,22] })
 (base g:Nat) (w0:World) (zs:List Int) (xs:List Value) (ao:Option Addr) (c:Nat) (hd:a.eval d=.slice (some ⟨g,0,none⟩) zs.length zs.length) (hs:a.eval s=.slice ao zs.length c)
 (hown:wr.ownsRow base 3 1 (.slice (some ⟨g,0,none⟩) zs.length zs.length) zs.length xs) (hzs:Za4 wr ao zs) (hb:Below base w0 wr)
 (h:∀ v' w',OwnI w' base (.slice (some ⟨g,0,none⟩) zs.length zs.length) zs->Below base w0 w'->base<=w'.heap.size->wpList Tryz.prog ops Q rest (a.put o.dst v') w') :
 wpList Tryz.prog ops Q (o::rest) a wr:=by
 obtain⟨hxl,hx⟩:=hown;rcases hx with ⟨hv,_⟩|⟨g',cap,cur,hv,hbg,hg,hnc,hcm,hcs,htake⟩
 ·
  cases hv
 ·
  simp only[Value.slice.injEq,Option.some.injEq,Addr.mk.injEq,and_true,true_and] at hv;obtain⟨rfl,rfl⟩:=hv;refine wpList_copy_splice (w:=wr) hgd d s 22 22 ho 3 Tryz.underlying22 (by obtain⟨i,hi,_,hsz,_⟩:=info_parts Zio;rw[hi];simp[hsz])
   _ _ _ _ _ _ hd hs g 0 cur.toList 3 (by simpa using hg) (Zbh zs) (by simp[Zbh]) ?_ (by simp[Zbh,hcs]) (ints_oneCell .i64 zs) base w0 hb hbg ?_
  ·
   intro hp;rw[Zf9] at hp;obtain⟨b,off,rfl,_⟩:=hzs.cells 0 hp;refine⟨rfl,_,rfl,fun j v hj=>?_⟩;have hlt:j<zs.length:=by
    rcases Nat.lt_or_ge j zs.length with h'|h'
    ·
     exact h'
    ·
     simp[Zbh,List.getElem?_eq_none h'] at hj
   obtain⟨b',off',hab,hc⟩:=hzs.cells j hlt;cases hab;simp[Zbh,getElem?_at0 hlt] at hj;subst hj;have hadd:(⟨b,off,none⟩:Addr).add j=⟨b,off+j,none⟩:=by unfold Addr.add;split<;>simp_all
   rw[hadd];exact hc
  ·
   intro w' hh hb';refine h _ w' ⟨by simp[Zbh],.inr ⟨g,_,(Zbh zs).toArray,rfl,hbg,?_,Nat.le_refl _,hcm,by simp[Zbh],by simp[Zbh,List.take_of_length_le]⟩⟩ hb' ?_
   ·
    have:=hh.out;rw[this];have hl:cur.toList.length=zs.length:=by simp[hcs]
    simp[splice,Zbh,List.drop_eq_nil_of_le,hl]
   ·
    have h1:=hh.out;have:=(Array.getElem?_eq_some_iff.1 h1).1;omega
theorem Znn (a:Option Addr) (c:Nat) (zs:List Int) (w:World) (h:Za4 w a zs) (hlen:zs.length<1000000) :
 Calls Tryz.prog 233 #[.slice a zs.length c] w fun e w'=>∃ g,e=.returned (.slice (some ⟨g,0,none⟩) zs.length zs.length)/\OwnI w' w.heap.size (.slice (some ⟨g,0,none⟩) zs.length zs.length) zs/\Below w.heap.size w w':=by
 obtain⟨i,hi,hz,hsz,hby⟩:=info_parts Zio;have HI:=Hd h;clear h
 go_enter Tryz.func233,Tryz.ntmps233
 go_wp2_with (first
  | (at_make;refine wpList_make_full _ rfl _ _ 22 rfl w.heap.size 3 i (.int .i64 0) 1 Tryz.underlying22 hi hz hsz .i64 .i64 _ _ zs.length rfl rfl rfl rfl (by rw[hby];omega) (by unfold maxLen;omega) (Nat.le_refl _) ?_;intro w1 hown1 hg1)
  | (with_reducible refine Zky rfl (.tmp 7) (.tmp 8) rfl w.heap.size w.heap.size w zs _ a c rfl rfl (by exact hown1) (HI.out.keep (Zc3 hg1) (by simp)) ((Below.refl _ _).grown hg1 (Nat.le_refl _) (by simp)) ?_;intro v2 w2 hown2 hb2 hs2))
 go_ret;exact⟨_,rfl,hown2,hb2⟩
theorem Zue (a:Option Addr) (c:Nat) (zs:List Int) (x:Int) (w:World) (h:Za4 w a zs) :
 Calls Tryz.prog 234 #[.slice a zs.length c,.int .i64 x] w fun e w'=>e=.returned (.int .i64 (Zfb zs x))/\∃ n,w'=w.drewN n:=by
 obtain⟨hl,hc⟩:=h;have HC:=Hd hc;clear hc
 go_enter Tryz.func234,Tryz.ntmps234
 go_wp2
 go_loop [8] (fun i=>∃ k:Nat,k<=zs.length/\i=.int .i64 k/\∀ j,j<k->at0 zs j≠x) (fun i=>zs.length-(intOf i).toNat)
 case atStart=>exact⟨0,Nat.zero_le _,rfl,by omega⟩
 case round =>
  obtain⟨k,hk,rfl,hrel⟩:=hrel;have HR:=Hd hrel;clear hrel
  by_cases hlt:k<zs.length
  ·
   obtain⟨b,off,rfl,hcell⟩:=HC.out k hlt
   by_cases hx:at0 zs k=x
   ·
    have H1:(x == at0 zs k)=true:=by simpa using hx.symm
    have HX:=Hd hx;clear hx
    go_wp2
    go_ret;exact⟨Zp6 (Zoo hlt HX.out HR.out).symm,0,rfl⟩
   ·
    have H1:(x == at0 zs k)=false:=by simpa using(fun e=>hx e.symm)
    go_wp2
    go_round
    case rel=>exact⟨k+1,by omega,by go_num,fun j hj=>by
     by_cases e:j=k
     ·
      subst e;exact hx
     ·
      exact HR.out j (by omega)⟩
    case measure=>simp[intOf];omega
  ·
   go_wp2
   go_ret;exact⟨Zp6 (Zp4 (fun j hj=>HR.out j (by omega))).symm,0,rfl⟩
theorem OwnI.len {w:World} {base n c:Nat} {a:Option Addr} {zs:List Int} (h:OwnI w base (.slice a n c) zs):n=zs.length:=by
 rcases h.2 with ⟨hv,h0⟩|⟨g,cap,cur,hv,_⟩
 ·
  simp only[Value.slice.injEq] at hv;omega
 ·
  simp only[Value.slice.injEq] at hv;omega
theorem OwnI.intsAt {w:World} {base n c:Nat} {a:Option Addr} {zs:List Int} (h:OwnI w base (.slice a n c) zs) (hl:zs.length<=9223372036854775807):Za4 w a zs:=by
 obtain rfl:=h.len;exact Zg2 hl h
theorem Zwq {a:Option Addr} {n c:Nat} {zs:List Int} {x:Int} {w:World} (hn:n=zs.length) (h:Za4 w a zs) :
 Calls Tryz.prog 234 #[.slice a n c,.int .i64 x] w fun e w'=>e=.returned (.int .i64 (Zfb zs x))/\∃ n,w'=w.drewN n:=by
 subst hn;exact Zue a c zs x w h
theorem Zmr (va vb:Value) (xs ys:List Int) (w:World) (h:SliceIs w va xs) (h':SliceIs w vb ys) (hlen:xs.length<=1000) (hlen':ys.length<=1000) :
 Calls Tryz.prog 223 #[va,vb] w (Zi1 xs ys w):=by
 obtain⟨a,c,rfl,ha,hna⟩:=h;obtain⟨b,c',rfl,hb,hnb⟩:=h';have HA:=Hd ha;have HB:=Hd hb;clear ha hb hna hnb
 by_cases hr:Zem xs=true
 ·
  by_cases hr':Zem ys=true
  ·
   by_cases hl:xs.length=ys.length
   ·
    have HE:Hid (Zdq xs ys=0):=by unfold Zdq;rw[if_pos ⟨hr,hr'⟩,if_pos hl];rfl
    have HF:Hid (Zen xs ys=Zid xs ys 0):=by unfold Zen;rw[if_pos ⟨hr,hr',hl⟩];rfl
    have HR:=Hd hr;have HR':=Hd hr';have H3:((xs.length:Int) != ys.length)=false:=by simp[hl]
    clear hr hr' hl
    go_enter Tryz.func223,Tryz.ntmps223
    go_wp2_with fail;refine(Zcg _ _ xs _ HA.out (by omega)).mono ?_;rintro e w1 ⟨rfl,hb1⟩;rw[HR.out];go_wp2_with fail;refine(Zcg _ _ ys _ (HB.out.below hb1) (by omega)).mono ?_;rintro e w2 ⟨rfl,hb2⟩;rw[HR'.out];have hb12:Below w.heap.size w w2:=hb1.trans (hb2.mono hb1.size);go_wp2_with fail;refine(Znn _ _ xs _ (HA.out.below hb12) (by omega)).mono ?_;rintro e w3 ⟨g,rfl,hown3,hb3⟩;have hs2:=hb12.size;have hg:w2.heap.size<=g:=(hown3.lt g rfl).1;have hbel3:Below w.heap.size w w3:=hb12.trans (hb3.mono hs2);have hs3:w2.heap.size<=w3.heap.size:=hb3.size;go_wp2_with fail
    go_loopw [6,30] (fun s6 s30 wr=>∃ (k:Nat) (cur out:List Int),k<=ys.length/\s30=.int .i64 k/\OwnI wr w2.heap.size (.slice (some ⟨g,0,none⟩) xs.length xs.length) cur/\cur.length=xs.length/\OwnI wr w2.heap.size s6 out/\s6.ownBlock≠some g/\out.length<=k*1000/\out++Zid cur (ys.drop k) k=Zid xs ys 0/\w2.heap.size<=wr.heap.size/\Below w2.heap.size w2 wr) (fun _ s30 _=>ys.length-(intOf s30).toNat)
    case atStart=>exact⟨0,xs,[],by omega,rfl,hown3,rfl,Zh7 _ _,by simp[Value.ownBlock],by simp,by simp,hs3,hb3⟩
    case round =>
     obtain⟨k,cur,out,hk,rfl,hcur,hcl,hown,hne,hol,hst,hsz,hbel⟩:=hrel;have HST:=Hd hst;have HCL:=Hd hcl;have HNE:=Hd hne;have hcl1:cur.length<=1000:=by omega
     clear hst hcl hne;have HB1:=Hd (HB.out.below (hb12.trans (hbel.mono hs2)))
     by_cases hlt:k<ys.length
     ·
      obtain⟨bb,off,rfl,hcell⟩:=HB1.out.cells k hlt;have HDR:=Hd (Zp8 cur ys k hlt);have HCI:=Hd (hcur.intsAt (by omega));go_wp2_with fail;refine(Zwq HCL.out.symm (HCI.out.drewN 0)).mono ?_;rintro e w' ⟨rfl,n,rfl⟩;have hp1:=Zu9 cur (at0 ys k);have hp2:=Zva cur (at0 ys k);have HBT:=Hd (Zv7 cur (at0 ys k) k)
      generalize Zfb cur (at0 ys k)=p at hp1 hp2 HBT ⊢
      go_wp2_with fail;have hpl:p<xs.length\/p<=0:=by have:=HCL.out;omega
      obtain⟨N,F,HN⟩:∃ (N F:List Int),Hid (N=(bub cur k (p-k).toNat).1/\F=out++(bub cur k (p-k).toNat).2):=⟨_,_,rfl,rfl⟩
      go_loopw [6,10] (fun s6 s10 wi=>∃ (d:Nat) (c1 o1:List Int) (q:Int),s10=.int .i64 q/\-1<=q/\q<=1000/\(q<xs.length\/q<=0)/\(q<=k->d=0)/\(k<q->q=k+d)/\OwnI wi w2.heap.size (.slice (some ⟨g,0,none⟩) xs.length xs.length) c1/\c1.length=xs.length/\OwnI wi w2.heap.size s6 o1/\s6.ownBlock≠some g/\o1.length+d<=(k+1)*1000/\N=(bub c1 k d).1/\F=o1++(bub c1 k d).2/\w2.heap.size<=wi.heap.size/\Below w2.heap.size w2 wi) (fun _ s10 _=>(intOf s10+1).toNat)
      case atStart=>exact⟨(p-k).toNat,cur,out,p,rfl,hp1,by omega,hpl,by omega,by omega,hcur.drewN n,HCL.out,hown.drewN n,HNE.out,by omega,HN.out.1,HN.out.2,hsz,Zaj hbel n⟩
      case round =>
       obtain⟨d,c1,o1,q,rfl,hq1,hq2,hq3,hd1,hd2,hc1,hc1l,hown1,hne1,hol1,hN,hF,hsz1,hbel1⟩:=hrel;have HN1:=Hd hN;have HF1:=Hd hF;have HC1:=Hd hc1l;have HNE1:=Hd hne1;have hc1m:c1.length<=1000:=by omega
       clear hN hF hc1l hne1
       by_cases hqk:(k:Int)<q
       ·
        obtain⟨d,rfl⟩:∃ l,d=l+1:=⟨d-1,by omega⟩;have hqe:q=(k:Int)+d+1:=by omega
        subst hqe;have hkd:k+d+1<xs.length:=by omega
        have hkd1:k+d+1<c1.length:=by rw[HC1.out];exact hkd
        clear hd1 hd2 hq3;have hw1:IntKind.i64.wrap ((k:Int)+d+1-1)=((k+d:Nat):Int):=by rw[IntWalk.i64_in _ (by omega)];omega
        have q0:=hc1.cell (k+d) (by omega);have q1:=hc1.cell (k+d+1) (by omega);have p0:=hc1.frozen (k+d);have p1:=hc1.frozen (k+d+1);have t0:((k:Int)+d).toNat=k+d:=by omega
        have t1:((k:Int)+d+1).toNat=k+d+1:=by omega
        go_wp2_with fail
        go_region
        have HSW:=Hd (Zxq (zs:=c1) (k:=k+d) hkd1);have hc3:=((hc1.stored (k+d) (at0 c1 (k+d+1))).stored (k+d+1) (at0 c1 (k+d))).drewN 1;have ho3:=((hown1.setCell_other (a:=⟨g,k+d,none⟩) HNE1.out (.int .i64 (at0 c1 (k+d+1)))).setCell_other (a:=⟨g,k+d+1,none⟩) HNE1.out (.int .i64 (at0 c1 (k+d)))).drewN 1;have hb4:=Zaj ((hbel1.setCell (p:=⟨g,k+d,none⟩) hg (.int .i64 (at0 c1 (k+d+1)))).setCell (p:=⟨g,k+d+1,none⟩) hg (.int .i64 (at0 c1 (k+d)))) 1;have hg1:=(hc1.lt g rfl).2;go_wp2_with (at_builtin;go_loud (refine Zcw _ rfl _ _ rfl w2.heap.size w2 _ o1 _ rfl rfl (by rfl) (by simp) ho3 (by omega) (by simpa using hsz1) hb4 ?_);intro v2 w4 hown4 hbel4 hsz4 hkb4);have hc4:=hc3.keep hkb4.keep (fun x hx hxx=>by cases hx;exact HNE1.out hxx.symm);rw[<- HSW.out] at hc4;have hne4:=hkb4.ne HNE1.out (by simpa using hg1);go_roundw
        case rel=>exact⟨d,Zo4 c1 ((k+d:Nat):Int),o1++[((k+d:Nat):Int)],((k+d:Nat):Int),by go_num,by omega,by omega,by omega,by omega,by omega,hc4,by rw[Zo5];exact HC1.out,hown4,hne4,by simp;omega,HN1.out,by rw[HF1.out,Zti];simp,hsz4,hbel4⟩
        case measure=>simp[intOf];omega
       ·
        obtain rfl:=hd1 (by omega);have HOW:=Hd hown1;have hN2:N=c1:=HN1.out;have hF2:F=o1:=by rw[HF1.out];simp[bub]
        have HNN:=Hd hN2;have HFF:=Hd hF2;clear hN2 hF2 hd1 hd2 hown1
        go_wp2
        go_roundw
        case rel=>exact⟨k+1,N,F,by omega,by go_num,by rw[HNN.out];exact hc1,by rw[HNN.out];exact HC1.out,by rw[HFF.out];exact HOW.out,HNE1.out,by rw[HFF.out];omega,by
         rw[HN.out.1,HN.out.2,<- HST.out,HDR.out,HBT.out];simp,hsz1,hbel1⟩
        case measure=>simp[intOf];omega
     ·
      obtain rfl:k=ys.length:=by omega
      have hfin:Zid xs ys 0=out:=by rw[<- HST.out];simp[Zid]
      have HFIN:=Hd hfin;clear hfin
      go_wp2
      go_ret2
      exact Zfs HE.out (HF.out.trans HFIN.out) (hown.lower hs2) (hb12.trans (hbel.mono hs2))
   ·
    have HE:Hid (Zdq xs ys=3):=by unfold Zdq;rw[if_pos ⟨hr,hr'⟩,if_neg hl];rfl
    have HF:Hid (Zen xs ys=[]):=by unfold Zen;rw[if_neg (fun hh=>hl hh.2.2)];rfl
    have HR:=Hd hr;have HR':=Hd hr';have H3:((xs.length:Int) != ys.length)=true:=by simp;omega
    clear hr hr' hl
    go_enter Tryz.func223,Tryz.ntmps223
    go_wp2_with fail;refine(Zcg _ _ xs _ HA.out (by omega)).mono ?_;rintro e w1 ⟨rfl,hb1⟩;rw[HR.out];go_wp2_with fail;refine(Zcg _ _ ys _ (HB.out.below hb1) (by omega)).mono ?_;rintro e w2 ⟨rfl,hb2⟩;rw[HR'.out];go_wp2_with fail
    go_ret2
    exact Zfs HE.out HF.out (Zh7 _ _) (hb1.trans (hb2.mono hb1.size))
  ·
   have HE:Hid (Zdq xs ys=1):=by unfold Zdq;rw[if_neg (fun hh=>hr' hh.2)];rfl
   have HF:Hid (Zen xs ys=[]):=by unfold Zen;rw[if_neg (fun hh=>hr' hh.2.1)];rfl
   have hr'':Zem ys=false:=by simpa using hr'
   have HR:=Hd hr;have HR':=Hd hr'';clear hr hr' hr''
   go_enter Tryz.func223,Tryz.ntmps223
   go_wp2_with fail;refine(Zcg _ _ xs _ HA.out (by omega)).mono ?_;rintro e w1 ⟨rfl,hb1⟩;rw[HR.out];go_wp2_with fail;refine(Zcg _ _ ys _ (HB.out.below hb1) (by omega)).mono ?_;rintro e w2 ⟨rfl,hb2⟩;rw[HR'.out];go_wp2_with fail
   go_ret2
   exact Zfs HE.out HF.out (Zh7 _ _) (hb1.trans (hb2.mono hb1.size))
 ·
  have HE:Hid (Zdq xs ys=1):=by unfold Zdq;rw[if_neg (fun hh=>hr hh.1)];rfl
  have HF:Hid (Zen xs ys=[]):=by unfold Zen;rw[if_neg (fun hh=>hr hh.1)];rfl
  have hr'':Zem xs=false:=by simpa using hr
  have HR:=Hd hr'';clear hr hr''
  go_enter Tryz.func223,Tryz.ntmps223
  go_wp2_with fail;refine(Zcg _ _ xs _ HA.out (by omega)).mono ?_;rintro e w1 ⟨rfl,hb1⟩;rw[HR.out];go_wp2_with fail
  go_ret2
  exact Zfs HE.out HF.out (Zh7 _ _) hb1
end Go.Proofs.YtmofaapnkidioaaGreat
namespace Go.Proofs
open Go.Shelf
def Tryz.lays112_ren:Go.Shelf.Ren:=⟨fun|112=>235|n=>n,fun|28=>22|3=>3|4=>4|0=>0|n=>n,fun|n=>n⟩
theorem Tryz.lays112:Go.Proofs.Lays.n112 Tryz.prog Tryz.lays112_ren:={
 mixed:=by kernel_rfl
 f112:=Tryz.func235.trans (congrArg some (by kernel_rfl))
 t0:=Tryz.underlying0
 a0:=Tryz.isAgg0
 z0:=Tryz.sizeOf0
 v0:=Tryz.zeroValue0
 t3:=Tryz.underlying3
 a3:=Tryz.isAgg3
 z3:=Tryz.sizeOf3
 v3:=Tryz.zeroValue3
 t4:=Tryz.underlying4
 a4:=Tryz.isAgg4
 z4:=Tryz.sizeOf4
 v4:=Tryz.zeroValue4
 t28:=Tryz.underlying22
 a28:=Tryz.isAgg22
 z28:=Tryz.sizeOf22
 v28:=Tryz.zeroValue22 }
open Go.RowKit Go.Lib Go.Sort in
theorem Tryz.slices_Reverse_int_arr (blk off cap:Nat) (d:Array Int) (w:World) (hH:Holds encI w blk off d) (hsz:d.size<=9223372036854775807) :
 Calls Tryz.prog 235 #[.slice (some ⟨blk,off,none⟩) d.size cap] w fun e w'=>e=.returned (.tuple #[])/\∃ n,w'=putRow encI (Sort.ahead w n) blk off d.reverse:=Any.slices_Reverse_int_arr Tryz.lays112 blk off cap d w hH hsz
open Go.RowKit Go.Lib Go.Sort in
theorem Tryz.slices_Reverse_int (blk off cap:Nat) (zs:List Int) (w:World) (hH:Holds (Value.int .i64) w blk off zs.toArray) (hsz:zs.length<=9223372036854775807) :
 Calls Tryz.prog 235 #[.slice (some ⟨blk,off,none⟩) zs.length cap] w fun e w'=>e=.returned (.tuple #[])/\∃ n,w'=putRow (Value.int .i64) (Sort.ahead w n) blk off zs.reverse.toArray:=Any.slices_Reverse_int Tryz.lays112 blk off cap zs w hH hsz
open Go.RowKit Go.Lib Go.Sort in
theorem Tryz.slices_Reverse_int_empty (a:Option Addr) (cap:Nat) (w:World) :
 Calls Tryz.prog 235 #[.slice a 0 cap] w fun e w'=>e=.returned (.tuple #[])/\w'=w:=Any.slices_Reverse_int_empty Tryz.lays112 a cap w
theorem Tryz.slices_Reverse_int_cells (b off n c:Nat) (zs:List Int) (w:World) (hz:n<=zs.length) (hbig:n<=9223372036854775807) (hc:∀ j,j<zs.length->w.cell? ⟨b,off+j,none⟩=some (.int .i64 (zs.getD j 0))) (hf:∀ j,j<n->w.frozen? ⟨b,off+j,none⟩=false) :
 Calls Tryz.prog 235 #[.slice (some ⟨b,off,none⟩) n c] w fun e w'=>e=.returned (.tuple #[])/\∃ q,w'=(w.drewN q).setCells b off ((zs.take n).reverse.map (Value.int .i64)):=Any.slices_Reverse_int_cells Tryz.lays112 b off n c zs w hz hbig hc hf
end Go.Proofs
namespace Go.Proofs.YtmofaapnkidioaaGreat
open Go.RowKit
theorem Zk0 {B g:Nat} {a:World} (hg:B<=g) (ys:List Value):∀ (w:World) (o:Nat),Below B a w->Below B a (w.setCells g o ys):=by
 induction ys with
 | nil=>intro w o h;exact h
 | cons y ys ih=>intro w o h;exact ih _ _ (h.setCell hg _)
theorem OwnI.setCells {base g n c:Nat} (ys:List Int):∀ (w:World) (o:Nat) (zs:List Int),OwnI w base (.slice (some ⟨g,0,none⟩) n c) zs->o+ys.length<=zs.length ->
 OwnI (w.setCells g o (Zbh ys)) base (.slice (some ⟨g,0,none⟩) n c) (zs.take o++ys++zs.drop (o+ys.length)):=by
 induction ys with
 | nil=>intro w o zs h _;simpa [Zbh,World.setCells] using h
 | cons y ys ih =>
   intro w o zs h hl;simp only[List.length_cons] at hl;have h1:=ih (w.setCell ⟨g,o,none⟩ (.int .i64 y)) (o+1) (zs.set o y) (h.stored o y) (by simp;omega);have e:(zs.set o y).take (o+1)++ys++(zs.set o y).drop (o+1+ys.length)=zs.take o++(y::ys)++zs.drop (o+(y::ys).length):=by
    have e1:(zs.set o y).take (o+1)=zs.take o++[y]:=by
     rw[List.set_eq_take_append_cons_drop,if_pos (by omega),List.take_append];simp;have:min o zs.length=o:=by omega
     rw[this];simp
     exact List.take_of_length_le (by simp;omega)
    have e2:(zs.set o y).drop (o+1+ys.length)=zs.drop (o+1+ys.length):=by
     rw[List.drop_set];rw[if_pos (by omega)]
    rw[e1,e2];simp[Nat.add_assoc,Nat.add_comm 1 ys.length]
   rw[e] at h1;exact h1
theorem Zon (a:Option Addr) (c:Nat) (zs:List Int) (w:World) (h:Za4 w a zs) (hlen:zs.length<1000000) :
 Calls Tryz.prog 224 #[.slice a zs.length c] w fun e w'=>∃ v,e=.returned v/\SliceIs w' v zs.reverse/\Below w.heap.size w w':=by
 have HI:=Hd h;clear h
 go_enter Tryz.func224,Tryz.ntmps224
 go_wp2_with fail;refine(Znn _ _ zs _ HI.out hlen).mono ?_;rintro e w1 ⟨g,rfl,hown,hbel⟩;have hg:w.heap.size<=g:=(hown.lt g rfl).1;go_wp2_with fail;refine(Tryz.slices_Reverse_int_cells g 0 zs.length zs.length zs w1 (Nat.le_refl _) (by omega) (fun j hj=>by rw[Nat.zero_add];exact hown.cell j hj) (fun j hj=>by rw[Nat.zero_add];exact hown.frozen j)).mono ?_;rintro e w2 ⟨rfl,q,hw2⟩;have h2:=OwnI.setCells zs.reverse (w1.drewN q) 0 zs (hown.drewN q) (by simp);have e:zs.drop (0+zs.reverse.length)=[]:=List.drop_of_length_le (by simp);rw[e,List.take_zero,List.nil_append,List.append_nil] at h2;have hb2:Below w.heap.size w ((w1.drewN q).setCells g 0 (Zbh zs.reverse)):=Zk0 hg _ _ _ (Zaj hbel _);rw[List.take_length] at hw2
 change w2=(w1.drewN q).setCells g 0 (Zbh zs.reverse) at hw2
 rw[<- hw2] at h2 hb2;clear hw2;go_wp2_with fail;go_ret;exact⟨_,rfl,h2.sliceIs (by simp;omega),hb2⟩
open Go.RowKit
abbrev KF:Law:=fun _ _ _ _ _ _ _=>False
section
variable {K:Law} {n:Nat} {Od:List Nat->Prop} {room:Nat} {w0 w w':World} {mb:Nat} {fs:List (Int×BF)} {nx:Int} {o o':Own} {m m':ManD} {V V':Nat->BF}
theorem SatE.full (h:SatE KF n Od room w0 mb fs nx w o m V):SatE K n Od room w0 mb fs nx w o m V:=by
 obtain⟨s,hs⟩:=h.is;exact⟨⟨s,hs.mono fun _ _ _ _ _ e=>e.elim⟩,h.lt,h.ok,h.vars,h.od,h.room,h.next,h.hs,h.chg⟩
theorem SatE.cleared {s:ManW} {w1:World} (h:SatE K n Od room w0 mb fs nx w o m V) (g1:Zb4 (fun _ _ _ _ _=>False) o w1 mb m s) (g2:Chg (· = .entries) o o w w1) (g3:Zak o w1):SatE KF n Od room w0 mb fs nx w1 o m V :=
 ⟨⟨s,g1⟩,g3,h.ok,h.vars,h.od,h.room,h.next,h.hs,h.chg.lower (ChgX.of_chg g2.any NoB) (fun _ e=>e.elim)⟩
structure HapS (n room:Nat) (w0:World) (mb:Nat) (fs:List (Int×BF)) (nx:Int) (o:Own) (w:World) (m:ManD) (o':Own) (w':World) (m':ManD) (V':Nat->BF):Prop where
 sat:SatE KF n (fun _=>True) room w0 mb fs nx w' o' m' V'
 waits:m'.waits=m.waits
 calls:m'.calls=m.calls
 chg:Chg (fun _=>True) o o' w w'
 many:m'.d.pool.many<=m.d.pool.many\/m'.d.pool.many<=fs.length*2^n
theorem HapS.trans {o'':Own} {w'':World} {m'':ManD} {V'':Nat->BF} (h:HapS n room w0 mb fs nx o w m o' w' m' V') (h':HapS n room w0 mb fs nx o' w' m' o'' w'' m'' V''):HapS n room w0 mb fs nx o w m o'' w'' m'' V'' :=
 ⟨h'.sat,h'.waits.trans h.waits,h'.calls.trans h.calls,h.chg.trans h'.chg,by
  rcases h'.many with h1|h1
  ·
   exact h.many.imp (fun h2=>Nat.le_trans h1 h2) (fun h2=>Nat.le_trans h1 h2)
  ·
   exact .inr h1⟩
theorem Zuc {s:ManW} (h:SatE KF n (fun _=>True) room w0 mb fs nx w o m V) (hs:Zb4 (fun _ _ _ _ _=>False) o w mb m s) (hn:nx<=549755813888) (z:Int) :
 Calls Tryz.prog 197 #[.pointer (some ⟨s.sb,0,none⟩),.int .i64 z] w fun e w'=>∃ q:Int,e=.returned (.int .i64 q)/\∃ o' m' V',HapS n room w0 mb fs nx o w m o' w' m' V':=by
 by_cases hz:z<0\/(n:Int)-1<=z
 ·
  refine(Zm6 hs.store h.ok.store.small z (by rw[h.vars];exact hz)).mono ?_;rintro e w' ⟨rfl,rfl⟩;exact⟨2,rfl,o,m,V,h,rfl,rfl,Chg.refl _ _ _,.inl (Nat.le_refl _)⟩
 ·
  obtain⟨k,rfl⟩:∃ k:Nat,z=k:=⟨z.toNat,by omega⟩;refine(Zvm h hs (Chg.refl _ _ _) h.lt (by omega) hn).mono ?_;rintro e w' ⟨o',m',V',hm⟩;obtain⟨d0,cr,hw⟩:=hm.way;rcases hw with ⟨e1,e2,_⟩|⟨e1,so⟩
  ·
   exact⟨7,e1,o',m',V',hm.sat,hm.waits,hm.calls,hm.chg,.inr (hm.sat.few (by rw[e2];exact cr.dead))⟩
  ·
   exact⟨0,e1,o',m',V',hm.sat,hm.waits,hm.calls,hm.chg,.inr (hm.sat.few so.dead)⟩
theorem Zr0 {s:ManW} (h:SatE KF n (fun _=>True) room w0 mb fs nx w o m V) (hs:Zb4 (fun _ _ _ _ _=>False) o w mb m s) :
 Calls Tryz.prog 212 #[.pointer (some ⟨s.sb,0,none⟩)] w fun e w'=>∃ q:Int,e=.returned (.int .i64 q)/\∃ o' m' V',HapS n room w0 mb fs nx o w m o' w' m' V':=by
 refine(Zhd hs.store h.lt h.ok.store).mono ?_;rintro e w' ⟨rfl,o',d',st,lt,cr,ch⟩;have hst:SatE KF n (fun _=>True) room w0 mb fs nx w' o' { m with d:=d' } V:=⟨⟨s,hs.setStore h.lt st ch⟩,lt,⟨cr.ok h.ok.store,Zf8 h.ok.handles h.ok.store cr⟩,by dsimp only;rw[cr.vars];exact h.vars,trivial,by dsimp only;rw[cr.room];exact h.room,h.next,h.hs,h.chg.lower (ChgX.of_chg ch.any NoB) (fun _ e=>e.elim)⟩;exact⟨_,rfl,o',{ m with d:=d' },V,hst,rfl,rfl,ch.any,.inr (hst.few cr.dead)⟩
theorem Zp3 {base:Nat} {v:Value} {zs:List Int} (h:OwnI w base v zs):zs.length<=9223372036854775807:=by
 rcases h.2 with ⟨_,h0⟩|⟨g,cap,cur,_,_,_,h1,h2,_⟩
 ·
  omega
 ·
  unfold maxLen at h2;omega
theorem Za4.chg {R:Role->Prop} {a:Option Addr} {zs:List Int} (h:Za4 w a zs) (hc:Chg R o o' w w') (hn:∀ x,a=some x->o x.block=none):Za4 w' a zs :=
 ⟨h.len,fun k hk=>by
  obtain⟨b,off,rfl,hc1⟩:=h.cells k hk;exact⟨b,off,rfl,hc.cell (p:=⟨b,off+k,none⟩) hc1 (hn ⟨b,off,none⟩ rfl)⟩⟩
theorem Zin (hn:nx<=549755813888) (ev:Ev):HapG K n (fun _=>True) room w0 mb fs nx ev:=by
 intro o W m V h;obtain⟨P,hP⟩:∃ P:Ending->World->Prop,P=fun x w'=>x=.returned (.tuple #[]) /\
  ∃ o' m' V',SatE K n (fun _=>True) room w0 mb fs nx w' o' m' V'/\m'.waits=m.waits/\m'.calls=m.calls/\(m'.d.pool.many<=m.d.pool.many\/m'.d.pool.many<=fs.length*2^n)/\ChgX NoB o o' W w':=⟨_,rfl⟩
 rw[<- hP];obtain⟨W1,hW1⟩:∃ W1,W1=W.alloc (.cells #[.int .i64 ev.after,.int .i64 ev.kind,.int .i64 ev.level] 103):=⟨_,rfl⟩;have hb1:Below W.heap.size W W1:=by rw[hW1];exact Zad W _
 obtain⟨bx,hbx⟩:∃ q,q=W.heap.size:=⟨_,rfl⟩;have HB1:Hid (Box o W1 bx (.cells #[.int .i64 ev.after,.int .i64 ev.kind,.int .i64 ev.level] 103 (0,0))):=Hd ⟨by rw[hW1,hbx];exact heap_alloc_new W _,h.lt.none (by rw[hbx];exact Nat.le_refl _)⟩;have h1:=h.below hb1
 have HP:Hid (∀ o' w' m' V',HapS n room w0 mb fs nx o W1 m o' w' m' V'->P (.returned (.tuple #[])) w'):=Hd (by
  intro o' w' m' V' hh;rw[hP];exact⟨rfl,o',m',V',hh.sat.full,hh.waits,hh.calls,hh.many,(ChgX.of_below hb1 o NoB).trans (ChgX.of_chg hh.chg NoB) (fun _ _ e=>e)⟩)
 obtain⟨s,hs⟩:=h1.is;obtain⟨c0,c1,c2,c3,c4,c5,f0⟩:=cells6 hs.blk;have HCL:=Hd (wclear h1 hs (fun _ _ _ _ _=>False));have H1:=Hd h1;obtain⟨kd,hkd⟩:∃ z,z=ev.kind:=⟨_,rfl⟩;obtain⟨lv,hlv⟩:∃ z,z=ev.level:=⟨_,rfl⟩;obtain⟨af,haf⟩:∃ z,z=ev.after:=⟨_,rfl⟩;have HN:=Hd hn;unfold evA;rw[<- hkd,<- hlv,<- haf] at HB1 hW1 ⊢;have HW:=Hd hW1;have HX:=Hd hbx;clear h h1 hs hP hb1 hbx hkd hlv haf hn hW1
 go_enter Tryz.func199,Tryz.ntmps199
 go_upto_region 1 with fail;rw[<- HW.out,<- HX.out];go_wp2_with fail;refine HCL.out.mono ?_;rintro x w1 ⟨rfl,g1,g2,g3⟩;have HS1:=Hd (H1.out.cleared g1 g2 g3);have HB2:=Hd (HB1.out.chg g2);have HG:=Hd g1;have HCH:Hid (Chg (fun _=>True) o o W1 w1):=Hd g2.any;have b1:w1.cell? ⟨bx,1,none⟩=some (.int .i64 kd):=HB2.out.cell 1;have b2:w1.cell? ⟨bx,2,none⟩=some (.int .i64 lv):=HB2.out.cell 2;clear c0 c1 c2 c3 c4 c5 f0 HCL g1 g2 g3;obtain⟨c0,c1,c2,c3,c4,c5,f0⟩:=cells6 HG.out.blk
 by_cases k1:kd=1
 ·
  subst k1;have HC:=Hd (Zr0 HS1.out HG.out);go_wp2_with fail;refine HC.out.mono ?_;rintro x w2 ⟨q,rfl,o',m',V',hh⟩;have HF:=Hd (HP.out o' w2 m' V' ⟨hh.sat,hh.waits,hh.calls,HCH.out.trans hh.chg,hh.many⟩);clear hh;go_wp2_with fail;refine bodyPost_end (results_none rfl _ _ _) rfl ?_;exact HF.out
 ·
  have e1:(kd == 1)=false:=by simp[k1]
  by_cases k2:kd=2
  ·
   subst k2;clear k1 e1;have HC:=Hd (Zuc (HS1.out.below (Zai w1 1)) (HG.out.below HS1.out.lt (Zai w1 1)) HN.out lv);go_upto_region 13 with fail;refine Zap (fun W:World=>W=w1.drew) true 6 [(0,false),(1,false),(2,false),(3,false),(4,false),(5,false),(6,true)] (by kernel_rfl) (by kernel_rfl) rfl ?_;simp only[planned,Zdl]
   iterate 6
    refine Zar rfl ?_;apply Exists.intro;refine⟨fun w' hw=>?_,?_⟩
    ·
     subst hw;go_simp;rfl
    simp only[Zah]
   refine Zdh rfl (by go_simp) (HC.out.mono (R':=fun e w'=>∃ v,e=.returned v/\∃ o' m' V',HapS n room w0 mb fs nx o w1.drew m o' w' m' V') (fun e w' h=>by obtain⟨q,e1,h2⟩:=h;exact⟨_,e1,h2⟩)) ?_;rintro v w2 ⟨o',m',V',hh⟩;simp only[Zah];refine Zbr ?_;have HF:=Hd (HP.out o' w2 m' V' ⟨hh.sat,hh.waits,hh.calls,HCH.out.trans ((Chg.of_below (Zai w1 1) _ _).trans hh.chg),hh.many⟩);clear hh;go_wp2_with fail;refine bodyPost_end (results_none rfl _ _ _) rfl ?_;exact HF.out
  ·
   have e2:(kd == 2)=false:=by simp[k2]
   clear k1 k2;have hvl:m.d.vars.length<=64:=HS1.out.ok.store.small;have HO:=Hd (Zg6 HG.out.store HS1.out.lt hvl);go_wp2_with fail;refine HO.out.mono ?_;rintro x w2 ⟨v,rfl,hown,hb2⟩;obtain⟨zs,hzs⟩:∃ zs,zs=m.d.vars.map Int.ofNat:=⟨_,rfl⟩;have hzl:zs.length<=64:=by rw[hzs,List.length_map];exact hvl
   rw[<- hzs] at hown;obtain⟨a,c,rfl,ha,hna⟩:=hown.sliceIs (by omega);have HT:=Hd (Zon a c zs w2 ha (by omega));have HSL:Hid (SliceIs w2 (.slice a zs.length c) zs):=Hd ⟨a,c,rfl,ha,hna⟩;have HB22:=Hd hb2;have HZL:=Hd hzl;clear hown hb2 hzs ha hna hvl c0 c1 c2 c3 c4 c5 f0 b1 b2 HO;go_wp2_with fail;refine HT.out.mono ?_;rintro x w3 ⟨vt,rfl,hst,hb3⟩;obtain⟨at',ct',hvt,q1,q2⟩:=hst;rw[List.length_reverse] at hvt;subst hvt;have HST:=Hd (Zmr (.slice a zs.length c) (.slice at' zs.length ct') zs zs.reverse w3 (HSL.out.below hb3) ⟨at',ct',by rw[List.length_reverse],q1,q2⟩ (by omega) (by simp;omega));have HB3:=Hd hb3;clear hb3 HT q1 q2;go_wp2_with fail;refine HST.out.mono ?_;rintro x w4 ⟨vr,rfl,hor,hb4⟩;obtain⟨rs,hrs⟩:∃ rs,rs=Zen zs zs.reverse:=⟨_,rfl⟩;obtain⟨er,her⟩:∃ z,z=Zdq zs zs.reverse:=⟨_,rfl⟩;rw[<- hrs] at hor;rw[<- her];have hbx:Below w1.heap.size w1 w4:=HB22.out.trans ((HB3.out.trans (hb4.mono HB3.out.size)).mono HB22.out.size);have hlow:=hor.lt;have hrl:rs.length<=9223372036854775807:=Zp3 hor;obtain⟨ar,cr,rfl,hi,_⟩:=hor.sliceIs hrl
   have HI0:Hid (∃ o' m' V',HapS n room w0 mb fs nx o w1 m o' w4 m' V'/\Za4 w4 ar rs/\(∀ x,ar=some x->o' x.block=none)):=Hd ⟨o,m,V,(⟨HS1.out.below hbx,rfl,rfl,Chg.of_below hbx _ _,.inl (Nat.le_refl _)⟩:HapS n room w0 mb fs nx o w1 m o w4 m V),hi,fun x hx=>by
    subst hx;refine HS1.out.lt.none ?_;have h1:=(hlow _ rfl).1;have h2:=HB22.out.size;have h3:=HB3.out.size;omega⟩
   clear her hrs hor hb4 hbx hlow hi HST;go_wp2_with fail
   go_loopw [30] (fun s30 wr=>∃ j:Nat,j<=rs.length/\s30=.int .i64 j/\Hid (∃ o' m' V',HapS n room w0 mb fs nx o w1 m o' wr m' V'/\Za4 wr ar rs/\(∀ x,ar=some x->o' x.block=none))) (fun s30 _=>rs.length-(intOf s30).toNat)
   case atStart=>exact⟨0,Nat.zero_le _,rfl,HI0⟩
   case round =>
    obtain⟨j,hj,rfl,HH⟩:=hrel;obtain⟨oj,mj,Vj,hh,hi,hno⟩:=HH.out
    by_cases hlt:j<rs.length
    ·
     obtain⟨b,off,rfl,hcell⟩:=hi.cells j hlt;obtain⟨s',hs'⟩:=hh.sat.is;obtain⟨c0,c1,c2,c3,c4,c5,f0⟩:=cells6 hs'.blk;have hjz:(j:Int)<rs.length:=by omega
     obtain⟨z,hz⟩:∃ z,z=at0 rs j:=⟨_,rfl⟩;rw[<- hz] at hcell;have HC:=Hd (Zuc hh.sat hs' HN.out z);have HHJ:=Hd hh;have HIJ:=Hd hi;have HNO:=Hd hno;have hblt:b<wr.heap.size:=Zaa hcell;have HBL:=Hd hblt;have HJL:=Hd hlt;clear hh hi hno hs' HH HI0 hz hblt;go_wp2_with fail;refine HC.out.mono ?_;rintro x w5 ⟨q,rfl,o5,m5,V5,h5⟩;have HNX:=Hd (And.intro (HHJ.out.trans h5) (And.intro (HIJ.out.chg h5.chg HNO.out) (fun x (hx:some _=some x)=>h5.chg.alien' (by cases hx;exact HBL.out) (HNO.out x hx))));clear h5 c0 c1 c2 c3 c4 c5 f0 hcell;go_wp2_with fail;go_roundw
     case rel=>exact⟨j+1,Nat.succ_le_of_lt HJL.out,by go_num,Hd ⟨_,_,_,HNX.out.1,HNX.out.2.1,HNX.out.2.2⟩⟩
     case measure =>
      have:=HJL.out;simp[intOf];omega
    ·
     obtain rfl:j=rs.length:=by omega
     have HF:=Hd (HP.out oj wr mj Vj ⟨hh.sat,hh.waits,hh.calls,HCH.out.trans hh.chg,hh.many⟩);clear hh hi hno HH HI0;go_wp2_with fail;refine bodyPost_end (results_none rfl _ _ _) rfl ?_;exact HF.out
end
open Go.RowKit
section
variable {K:Law} {n:Nat} {Od:List Nat->Prop} {room:Nat} {w0 w w':World} {mb:Nat} {fs:List (Int×BF)} {nx:Int} {o o':Own} {m m':ManD} {V V':Nat->BF}
structure NewH (K:Law) (n:Nat) (Od:List Nat->Prop) (room:Nat) (w0:World) (mb:Nat) (fs:List (Int×BF)) (nx:Int) (o:Own) (w:World) (m:ManD) (V:Nat->BF) (F:BF) (o':Own) (w':World) (m':ManD):Prop where
 sat:SatE K n Od room w0 mb (fs++[(nx,F)]) (nx+1) w' o' m' V
 waits:m'.waits=m.waits
 calls:m'.calls=m.calls
 nodes:Zab m'.d=Zab m.d
 vars:m'.d.vars=m.d.vars
 many:m'.d.pool.many=m.d.pool.many
 chg:Chg (fun _=>True) o o' w w'
theorem Zpw (hK:Zbp K) (h:SatE K n Od room w0 mb fs nx w o m V) (hn:nx<549755813888) {k:Int} {F:BF} (hk:(k,F)∈fs) :
 Calls Tryz.prog 139 #[.pointer (some ⟨mb,0,none⟩),.int .i64 k] w fun x w'=>x=.returned (.tuple #[.int .i64 nx,.int .i64 0])/\∃ o' m',NewH K n Od room w0 mb fs nx o w m V F o' w' m':=by
 obtain⟨f,hf,rfl⟩:=h.find hk;obtain⟨s,hs⟩:=h.is;obtain⟨c0,c1,c2,c3,c4,c5,f0⟩:=cells6 hs.blk;have hl:=Zfn hs h.ok.handles.nodup hf;have hnx:=h.next
 have HG:=Hd (Zmg hK h.is h.lt h.ok f (h.ok.handles.ok _ hf) (by rw[hnx];omega));have H:=Hd h;rw[hnx] at HG;clear hs h hf hk hnx
 go_enter Tryz.func139,Tryz.ntmps139
 go_wp2_with fail;refine HG.out.mono ?_;rintro x w1 ⟨rfl,o',m',hg⟩;have HQ:Hid (NewH K n Od room w0 mb fs nx o w m V (ef V f) o' w1 m'):=Hd ⟨H.out.gave hg,hg.waits,hg.calls,hg.nodes,hg.vars,hg.many,hg.chg⟩;clear hg;go_wp2_with fail
 go_ret2
 exact⟨rfl,_,_,HQ.out⟩
theorem Zzp {N:Nat->Option BN} {e:Nat} (h:okE N e):okE N (enot e):=by
 unfold okE at h ⊢;rw[Zf5];exact h
theorem Zse (hK:Zbp K) (h:SatE K n Od room w0 mb fs nx w o m V) (hn:nx<549755813888) {k:Int} {F:BF} (hk:(k,F)∈fs) :
 Calls Tryz.prog 142 #[.pointer (some ⟨mb,0,none⟩),.int .i64 k] w fun x w'=>x=.returned (.tuple #[.int .i64 nx,.int .i64 0])/\∃ o' m',NewH K n Od room w0 mb fs nx o w m V (fun ρ => !F ρ) o' w' m':=by
 obtain⟨f,hf,rfl⟩:=h.find hk;obtain⟨s,hs⟩:=h.is;obtain⟨c0,c1,c2,c3,c4,c5,f0⟩:=cells6 hs.blk;have hl:=Zfn hs h.ok.handles.nodup hf;have hnx:=h.next
 have hok:=h.ok.handles.ok _ hf;have hlt:f<eMax:=by
  obtain⟨s2,h2⟩:=hs.store;have:=h2.edge_lt hok;unfold eMax;omega
 have HG:=Hd (Zmg hK h.is h.lt h.ok (enot f) (Zzp hok) (by rw[hnx];omega));have HNOT:=Hd (Zhj f w hlt);have H:=Hd h;rw[hnx] at HG;clear hs h hf hk hnx hok hlt
 go_enter Tryz.func142,Tryz.ntmps142
 go_wp2_with fail;refine HNOT.out.mono ?_;rintro x w1 ⟨rfl,rfl⟩;go_wp2_with fail;refine HG.out.mono ?_;rintro x w1 ⟨rfl,o',m',hg⟩
 have HQ:Hid (NewH K n Od room w0 mb fs nx o w m V (fun ρ => !ef V f ρ) o' w1 m'):=Hd (by
  have e:(fun ρ => !ef V f ρ)=ef V (enot f):=by funext ρ;rw[Zhf]
  rw[e];exact⟨H.out.gave hg,hg.waits,hg.calls,hg.nodes,hg.vars,hg.many,hg.chg⟩)
 clear hg;go_wp2_with fail
 go_ret2
 exact⟨rfl,_,_,HQ.out⟩
end
open Go.RowKit
def delK {α:Type} (k:Int) (l:List (Int×α)):List (Int×α):=l.filter fun p=>decide (p.1≠k)
theorem Zj4 {α:Type} {k:Int} {l:List (Int×α)} (h:∀ p∈l,p.1≠k):delK k l=l:=by
 unfold delK;rw[List.filter_eq_self];intro p hp;simp[h p hp]
theorem Zfq {α:Type} {x:Int×α} {l:List (Int×α)} (h:((x::l).map Prod.fst).Nodup):∀ p∈l,p.1≠x.1:=by
 intro p hp e;rw[List.map_cons,List.nodup_cons] at h;exact h.1 (List.mem_map.2 ⟨p,hp,e⟩)
theorem Zi6 {α:Type} {x:Int×α} {l:List (Int×α)} (h:((x::l).map Prod.fst).Nodup):delK x.1 (x::l)=l:=by
 have h1:=Zj4 (Zfq h);unfold delK at h1 ⊢;rw[List.filter_cons_of_neg (by simp),h1]
theorem Zi7 {α:Type} {k:Int} {x:Int×α} {l:List (Int×α)} (h:x.1≠k):delK k (x::l)=x::delK k l:=by
 unfold delK;rw[List.filter_cons_of_pos (by simp[h])]
theorem Zhw {α:Type} {k:Int}:∀ (l:List (Int×α)) (j:Nat) (hj:j<l.length),(l.map Prod.fst).Nodup->l[j].1=k->l.eraseIdx j=delK k l
 | x::l,0,_,hn,hk=>by
   have e:x.1=k:=hk;subst e;rw[Zi6 hn];rfl
 | x::l,j+1,hj,hn,hk=>by
   have hj':j<l.length:=by simpa using hj
   have hk':l[j].1=k:=by simpa using hk
   have hx:x.1≠k:=by
    intro e;exact Zfq hn l[j] (List.getElem_mem hj') (hk'.trans e.symm)
   have hn':(l.map Prod.fst).Nodup:=by rw[List.map_cons,List.nodup_cons] at hn;exact hn.2
   rw[Zi7 hx,List.eraseIdx_cons_succ,Zhw l j hj' hn' hk']
theorem Zqh {α β:Type} (k:Int) (l:List (Int×α)) (g:Int×α->Int×β) (hg:∀ p,(g p).1=p.1):(delK k l).map g=delK k (l.map g):=by
 unfold delK;rw[List.filter_map];congr 1;refine List.filter_congr fun p _=>?_
 simp[hg]
theorem Zyy {k:Int} {l:List (Int×Value)} (hn:(l.map Prod.fst).Nodup) {v:Value} (hk:(k,v)∈l):delL k l=delK k l:=by
 unfold delL;cases e:Zdj k l 0 with
 | none =>
   have h1:=Zdf hn hk;unfold getL at h1;rw[e] at h1;cases h1
 | some p =>
   obtain⟨j,u⟩:=p;have h2:=Zc2 e;obtain⟨q,h3,h4⟩:=h2;have hq:j=q:=by omega
   subst hq;obtain⟨h5,h6⟩:=List.getElem?_eq_some_iff.1 h4;exact Zhw l j h5 hn (by rw[h6])
theorem Zjn {α:Type} {k:Int} {l:List (Int×α)} {p:Int×α}:p∈delK k l↔p∈l/\p.1≠k:=by
 unfold delK;rw[List.mem_filter];simp
theorem Zqx {k:Int} {f:Nat} (h1:1<k):∀ (hs:List (Int×Nat)),(hs.map Prod.fst).Nodup->(k,f)∈hs->∀ i,Zb3 hs i=Zb3 (delK k hs) i+(if f/2=i then 1 else 0)
 | [],_,h,_=>by cases h
 | x::l,hn,hm,i=>by
   have hn':(l.map Prod.fst).Nodup:=by rw[List.map_cons,List.nodup_cons] at hn;exact hn.2
   by_cases e:x.1=k
   ·
    have hx:x=(k,f):=by
     rcases List.mem_cons.1 hm with h|h
     ·
      exact h.symm
     ·
      exact((Zfq hn _ h) e.symm).elim
    subst hx;rw[Zi6 hn];unfold Zb3
    by_cases e2:f/2=i
    ·
     rw[List.filter_cons_of_pos (by simp[h1,e2]),List.length_cons,if_pos e2]
    ·
     rw[List.filter_cons_of_neg (by simp[e2]),if_neg e2];rfl
   ·
    have hm':(k,f)∈l:=by
     rcases List.mem_cons.1 hm with h|h
     ·
      rw[<- h] at e;exact(e rfl).elim
     ·
      exact h
    have ih:=Zqx h1 l hn' hm' i;rw[Zi7 e];unfold Zb3 at ih ⊢
    by_cases e3:(decide (1<x.1)&&x.2/2 == i)=true
    ·
     rw[List.filter_cons_of_pos (p:=fun p:Int×Nat=>decide (1<p.1)&&p.2/2 == i) e3,List.filter_cons_of_pos (p:=fun p:Int×Nat=>decide (1<p.1)&&p.2/2 == i) e3,List.length_cons,List.length_cons];omega
    ·
     rw[List.filter_cons_of_neg (p:=fun p:Int×Nat=>decide (1<p.1)&&p.2/2 == i) e3,List.filter_cons_of_neg (p:=fun p:Int×Nat=>decide (1<p.1)&&p.2/2 == i) e3];exact ih
theorem Zn4 {m:ManD} {d':Zag} {k:Int} {f:Nat} (h:Zb7 m) (r:Zf0 m.d d' f (-1)) (hk:(k,f)∈m.hs) (h1:1<k) (h0:Zab m.d 0=none):Zb7 { m with d:=d',hs:=delK k m.hs }:=by
 have hne:∀ {p:Int×Nat},p∈delK k m.hs->p∈m.hs:=fun hp=>(Zjn.1 hp).1
 refine⟨?_,Zjn.2 ⟨h.zero,by dsimp only;omega⟩,Zjn.2 ⟨h.one,by dsimp only;omega⟩,fun p hp=>h.lt p (hne hp),h.next,fun p hp=>?_,?_,fun i b hb=>?_⟩
 ·
  exact h.nodup.sublist ((List.filter_sublist).map _)
 ·
  show okE (Zab d') p.2
  rw[r.nodes];exact h.ok p (hne hp)
 ·
  have h2:(delK k m.hs).length<=m.hs.length:=List.length_filter_le _ _;have h3:=h.len
  show ((delK k m.hs).length:Int)<=m.next
  omega
 ·
  have hb':Zab m.d i=some b:=by
   have:Zab d' i=some b:=hb;rw[r.nodes] at this;exact this
  have hi:i≠0:=by rintro rfl;rw[h0] at hb';cases hb'
  show Za2 d' i=(Zb3 (delK k m.hs) i:Int)
  rw[r.ext i hi,h.refs i b hb',Zqx h1 m.hs h.nodup hk i];unfold toE;split<;>(simp;try omega)
section
variable {K:Law} {n:Nat} {Od:List Nat->Prop} {room:Nat} {w0 w w':World} {mb:Nat} {fs:List (Int×BF)} {nx:Int} {o o':Own} {m m':ManD} {V V':Nat->BF}
theorem Zo0 {sb:Nat} (h:Zax o w sb m.d) (hlt:Zak o w) (hk:Zre m V) {k:Int} {f:Nat} (hf:(k,f)∈m.hs) (h1:1<k) (hn:m.next<549755813888) :
 Calls Tryz.prog 116 #[.pointer (some ⟨sb,0,none⟩),.int .i64 f] w fun x w'=>x=.returned (.int .i64 0)/\∃ d',Zax o w' sb d'/\Zak o w'/\Zf0 m.d d' f (-1)/\Chg Zas o o w w':=by
 have htop:∀ y b,Zab m.d y=some b->Za2 m.d y<1099511627776:=fun y b _=>by have:=Zx7 hk.handles y;omega
 have hok:=hk.handles.ok _ hf;obtain⟨s,h⟩:=h;have hlt':=h.edge_lt hok;rcases hok with h0|⟨b,hb⟩
 ·
  refine(Zk7 h hlt hk.store.live f (by unfold eMax;omega) h0).mono ?_;rintro e w' ⟨d',h1,h2,h3,h4,h5⟩;exact⟨h1,d',⟨s,h2⟩,h3,h4,h5⟩
 ·
  have hat:=h.pool.top;have hrm:=h.pool.room;refine(Zk6 h hlt hk.store.live (Zx6 hk.store) f (b:=b) hb htop ?_ (fun y c hc=>?_)).mono ?_
  ·
   have h2:=hk.handles.refs (enode f) b hb;have h3:0<Zb3 m.hs (f/2):=Zqy hf h1;have h4:Za2 m.d (enode f)=(Zb3 m.hs (f/2):Int):=h2;omega
  ·
   have h1:=hk.store.live.cnt.le hc;have h2:=htop y c hc;omega
  ·
   rintro e w' ⟨d',h1,h2,h3,h4,h5⟩;exact⟨h1,d',⟨s,h2⟩,h3,h4,h5⟩
end
open Go.RowKit
def Zgz {α:Type} (l:List (Int×α)) (ks:List Int):List (Int×α):=ks.foldl (fun l k=>if 1<k then delK k l else l) l
theorem Zli {α:Type} {l:List (Int×α)} {ks:List Int} {j:Nat} (hj:j<ks.length):Zgz l (ks.take (j+1))=if 1<at0 ks j then delK (at0 ks j) (Zgz l (ks.take j)) else Zgz l (ks.take j):=by
 unfold Zgz;rw[List.take_succ_eq_append_getElem hj,List.foldl_append,Zcb hj];rfl
section
variable {K:Law} {n:Nat} {Od:List Nat->Prop} {room:Nat} {w0 w w':World} {mb:Nat} {fs:List (Int×BF)} {nx:Int} {o o':Own} {m m':ManD} {V V':Nat->BF}
structure Zjf (K:Law) (n:Nat) (Od:List Nat->Prop) (room:Nat) (w0:World) (mb:Nat) (fs:List (Int×BF)) (nx:Int) (o:Own) (w:World) (m:ManD) (V:Nat->BF) (o':Own) (w':World) (m':ManD):Prop where
 sat:SatE K n Od room w0 mb fs nx w' o' m' V
 waits:m'.waits=m.waits
 calls:m'.calls=m.calls
 nodes:Zab m'.d=Zab m.d
 many:m'.d.pool.many=m.d.pool.many
 chg:Chg (fun _=>True) o o' w w'
theorem Zjf.trans {fs' fs'':List (Int×BF)} {o'':Own} {w'':World} {m'':ManD} (h:Zjf K n Od room w0 mb fs' nx o w m V o' w' m') (h':Zjf K n Od room w0 mb fs'' nx o' w' m' V o'' w'' m''):Zjf K n Od room w0 mb fs'' nx o w m V o'' w'' m'' :=
 ⟨h'.sat,h'.waits.trans h.waits,h'.calls.trans h.calls,h'.nodes.trans h.nodes,h'.many.trans h.many,h.chg.trans h'.chg⟩
theorem Zwe (hK:Zbp K) (h:SatE K n Od room w0 mb fs nx w o m V) {k:Int} {f:Nat} (hf:(k,f)∈m.hs) (h1:1<k) {s:ManW} (hs:Zb4 (K m.d V) o w mb m s) {w1:World} {d':Zag} (hst:Zax o w1 s.sb d') (hl1:Zak o w1) (hr:Zf0 m.d d' f (-1)) (hc1:Chg Zas o o w w1) :
 Zb4 (K m.d V) o w1 mb { m with d:=d' } s/\∃ w2,(Builtin.delete_ #[126,3] 0 #[.map (some s.hb),.int .i64 k]).run Tryz.prog w1=.ok (.tuple #[]) w2/\Zjf K n Od room w0 mb (delK k fs) nx o w m V o w2 { m with d:=d',hs:=delK k m.hs }:=by
 have hM1:=hs.setStore h.lt hst hc1;refine⟨hM1,?_⟩;obtain⟨w2,hrun,hm2,hg2⟩:=hM1.map.delete kI Tryz.underlying126 k 0;refine⟨w2,hrun,?_⟩;have he:delL k (encH m.hs)=encH (delK k m.hs):=by
  rw[Zyy (Zeg h.ok.handles.nodup) (v:=.int .i64 (f:Nat)) (List.mem_map.2 ⟨(k,f),hf,rfl⟩)];exact(Zqh k m.hs (fun p=>(p.1,Value.int .i64 (p.2:Nat))) (fun _=>rfl)).symm
 have hm3:Zco w2 s.hb (Value.int .i64) (encH (delK k m.hs)):=by rw[<- he];exact hm2
 have hM2:=hM1.setMap hl1 hm3 hg2;have hl2:Zak o w2:=hl1.mono hg2.size;have hc2:Chg (fun _=>True) o o w w2:=hc1.any.grown hg2 (fun g hg=>by cases hg;exact⟨_,hM1.ownh,trivial⟩);refine⟨⟨⟨s,hM2.mono fun op a b c r q=>hK.same _ _ _ _ _ _ _ _ hr.vars hr.level hr.nodes q⟩,hl2,⟨hr.ok h.ok.store,Zn4 h.ok.handles hr hf h1 h.ok.store.dag.none0⟩,?_,?_,?_,h.next,?_,h.chg.lower (ChgX.of_chg hc2 NoB) (fun _ e=>e.elim)⟩,rfl,rfl,hr.nodes,hr.many,hc2⟩
 ·
  show d'.vars.length=n
  rw[hr.vars];exact h.vars
 ·
  show Od d'.vars
  rw[hr.vars];exact h.od
 ·
  show d'.pool.room=room
  rw[hr.room];exact h.room
 ·
  show (delK k m.hs).map (fun p=>(p.1,ef V p.2))=delK k fs
  rw[Zqh k m.hs (fun p=>(p.1,ef V p.2)) (fun _=>rfl),h.hs]
theorem Zpx (hK:Zbp K) (h:SatE K n Od room w0 mb fs nx w o m V) (hn:nx<549755813888) {a:Option Addr} {c:Nat} {ks:List Int} (hks:Za4 w a ks) (hno:∀ x,a=some x->o x.block=none)
 (hin:∀ j,j<ks.length->∃ F,(at0 ks j,F)∈Zgz fs (ks.take j)) :
 Calls Tryz.prog 50 #[.pointer (some ⟨mb,0,none⟩),.slice a ks.length c] w fun x w'=>x=.returned (.int .i64 0)/\∃ o' m',Zjf K n Od room w0 mb (Zgz fs ks) nx o w m V o' w' m':=by
 have hrl:=hks.len;have HI0:Hid (∃ o' m',Zjf K n Od room w0 mb (Zgz fs (ks.take 0)) nx o w m V o' w m'/\Za4 w a ks/\(∀ x,a=some x->o' x.block=none)):=Hd ⟨o,m,⟨h,rfl,rfl,rfl,rfl,Chg.refl _ _ _⟩,hks,hno⟩;have HIN:=Hd hin;have HN:=Hd hn;have HLAW:=Hd hK;clear h hn hks hno hin hK
 go_enter Tryz.func50,Tryz.ntmps50
 go_wp2_with fail
 go_loopw [13] (fun s13 wr=>∃ j:Nat,j<=ks.length/\s13=.int .i64 j/\Hid (∃ o' m',Zjf K n Od room w0 mb (Zgz fs (ks.take j)) nx o w m V o' wr m'/\Za4 wr a ks/\(∀ x,a=some x->o' x.block=none))) (fun s13 _=>ks.length-(intOf s13).toNat)
 case atStart=>exact⟨0,Nat.zero_le _,rfl,HI0⟩
 case round =>
  obtain⟨j,hj,rfl,HH⟩:=hrel;obtain⟨oj,mj,hh,hi,hno⟩:=HH.out
  by_cases hlt:j<ks.length
  ·
   obtain⟨b,off,rfl,hcell⟩:=hi.cells j hlt;obtain⟨s,hs⟩:=hh.sat.is;obtain⟨c0,c1,c2,c3,c4,c5,f0⟩:=cells6 hs.blk;have hjz:(j:Int)<ks.length:=by omega
   obtain⟨z,hz⟩:∃ z,z=at0 ks j:=⟨_,rfl⟩;obtain⟨F,hF⟩:=HIN.out j hlt;rw[<- hz] at hF hcell;obtain⟨f,hf,hfF⟩:=hh.sat.find hF;have hl:=Zfn hs hh.sat.ok.handles.nodup hf;have HHJ:=Hd hh;have HIJ:=Hd hi;have HNO:=Hd hno;have HBL:Hid (b<wr.heap.size):=Hd (Zaa hcell);have HJL:=Hd hlt;have HZ:=Hd hz;have HS:=Hd hs;have HF:=Hd hf
   by_cases h1:z>1
   ·
    have HD:=Hd (Zo0 hs.store hh.sat.lt hh.sat.ok hf h1 (by rw[hh.sat.next];exact HN.out));have H1:=Hd h1;clear hh hi hno hs HH HI0 hz hF hf hfF;go_wp2_with fail;refine HD.out.mono ?_;rintro x w1 ⟨rfl,d',hst,hl1,hr,hc1⟩;obtain⟨hM1,w2,hrun,hdh⟩:=Zwe HLAW.out HHJ.out.sat HF.out H1.out HS.out hst hl1 hr hc1;obtain⟨e0,e1,e2,e3,e4,e5,g0⟩:=cells6 hM1.blk
    have HNX:Hid (Zjf K n Od room w0 mb (Zgz fs (ks.take (j+1))) nx o w m V oj w2 { mj with d:=d',hs:=delK z mj.hs }/\Za4 w2 (some ⟨b,off,none⟩) ks/\(∀ x,some (⟨b,off,none⟩:Addr)=some x->oj x.block=none)):=Hd ⟨by
     rw[Zli HJL.out,<- HZ.out,if_pos H1.out];exact HHJ.out.trans hdh,HIJ.out.chg hdh.chg HNO.out,fun x hx=>hdh.chg.alien' (by cases hx;exact HBL.out) (HNO.out x hx)⟩
    clear hM1 hst hl1 hr hc1 hdh c0 c1 c2 c3 c4 c5 f0 hcell hl;go_wp2_with fail;go_roundw
    case rel=>exact⟨j+1,Nat.succ_le_of_lt HJL.out,by go_num,Hd ⟨_,_,HNX.out.1,HNX.out.2.1,HNX.out.2.2⟩⟩
    case measure =>
     have:=HJL.out;simp[intOf];omega
   ·
    have HNX:Hid (Zjf K n Od room w0 mb (Zgz fs (ks.take (j+1))) nx o w m V oj wr mj/\Za4 wr (some ⟨b,off,none⟩) ks/\(∀ x,some (⟨b,off,none⟩:Addr)=some x->oj x.block=none)):=Hd ⟨by
     rw[Zli HJL.out,<- HZ.out,if_neg h1];exact HHJ.out,HIJ.out,HNO.out⟩
    clear hh hi hno hs HH HI0 hz hF hf hfF;go_wp2_with fail;go_roundw
    case rel=>exact⟨j+1,Nat.succ_le_of_lt HJL.out,by go_num,Hd ⟨_,_,HNX.out.1,HNX.out.2.1,HNX.out.2.2⟩⟩
    case measure =>
     have:=HJL.out;simp[intOf];omega
  ·
   obtain rfl:j=ks.length:=by omega
   have HF:Hid (∃ o' m',Zjf K n Od room w0 mb (Zgz fs ks) nx o w m V o' wr m'):=Hd ⟨oj,mj,by rw[List.take_length] at hh;exact hh⟩;clear hh hi hno HH HI0;go_wp2_with fail;go_ret;exact⟨rfl,HF.out⟩
end
open Go.RowKit
section
variable {K:Law} {n:Nat} {Od:List Nat->Prop} {room:Nat} {w0 w w':World} {mb:Nat} {fs:List (Int×BF)} {nx:Int} {o o':Own} {m m':ManD} {V V':Nat->BF}
structure Swapped (K:Law) (n room:Nat) (w0:World) (mb:Nat) (fs:List (Int×BF)) (nx:Int) (k:Nat) (o:Own) (w:World) (m:ManD) (o':Own) (w':World) (m':ManD) (V':Nat->BF):Prop where
 sat:SatE K n (fun l=>l=(Zee m.d k).vars) room w0 mb fs nx w' o' m' V'
 waits:m'.waits=m.waits
 calls:m'.calls=m.calls
 dead:m'.d.dead=0
 chg:Chg (fun _=>True) o o' w w'
theorem Zsg (h:SatE K n Od room w0 mb fs nx w o m V) {k:Nat} (hk1:k+1<n) (hn:nx<=549755813888) (hr:3*(fs.length*2^n)<=room) :
 Calls Tryz.prog 138 #[.pointer (some ⟨mb,0,none⟩),.int .i64 k] w fun e w'=>e=.returned (.int .i64 0)/\∃ o' m' V',Swapped K n room w0 mb fs nx k o w m o' w' m' V':=by
 refine(Zp1 h hk1 hn).mono ?_;rintro e w' ⟨o',m',V',hm⟩;obtain⟨d0,cr,⟨rfl,e1,e2,hlow⟩|⟨rfl,so⟩⟩:=hm.way
 ·
  exfalso;have h1:=hm.sat.few (by rw[e1];exact cr.dead);have h2:=hm.sat.room;rw[e1] at h1 h2;omega
 ·
  refine⟨rfl,o',m',V',⟨hm.sat.withOd ?_,hm.waits,hm.calls,so.dead,hm.chg⟩⟩;rw[so.vars];unfold Zee;dsimp only;rw[cr.vars]
theorem Zp0 (h:SatE K n Od room w0 mb fs nx w o m V) {k l:Int} {F G:BF} (hk:(k,F)∈fs) (hl:(l,G)∈fs) :
 Calls Tryz.prog 22 #[.pointer (some ⟨mb,0,none⟩),.int .i64 k,.int .i64 l] w fun x w'=>∃ b:Bool,x=.returned (.tuple #[.bool b,.int .i64 0])/\(b=true↔F=G)/\w=w':=by
 obtain⟨f,hf,rfl⟩:=h.find hk;obtain⟨g,hg,rfl⟩:=h.find hl;refine(Zxh h.is h.ok.handles.nodup hf hg).mono ?_;rintro x w' ⟨rfl,rfl⟩;refine⟨_,rfl,?_,rfl⟩;rw[beq_iff_eq];exact⟨fun e=>by rw[e],fun e=>h.ok.store.dag.canon (h.ok.handles.ok _ hf) (h.ok.handles.ok _ hg) e⟩
end
open Go.RowKit
theorem Zoi {α:Type} {p:Int×α}:∀ {ks:List Int} {l:List (Int×α)},p∈l->p.1∉ks->p∈Zgz l ks
 | [],l,h,_=>h
 | k::ks,l,h,hn=>by
   show p∈Zgz (if 1<k then delK k l else l) ks
   simp only[List.mem_cons,not_or] at hn;refine Zoi ?_ hn.2;split
   ·
    exact Zjn.2 ⟨h,hn.1⟩
   ·
    exact h
theorem Zwc {α:Type} {l r:List (Int×α)} {p:Int×α} (h:((l++p::r).map Prod.fst).Nodup):delK p.1 (l++p::r)=l++r:=by
 rw[List.map_append,List.map_cons,List.nodup_append] at h;obtain⟨h1,h2,h3⟩:=h;have hl:∀ q∈l,q.1≠p.1:=fun q hq e=>h3 q.1 (List.mem_map.2 ⟨q,hq,rfl⟩) p.1 (List.mem_cons_self ..) e
 have hr:∀ q∈r,q.1≠p.1:=fun q hq e=>(List.nodup_cons.1 h2).1 (List.mem_map.2 ⟨q,hq,e⟩)
 have e1:delK p.1 (l++p::r)=delK p.1 l++delK p.1 r:=by
  unfold delK;rw[List.filter_append,List.filter_cons];simp
 rw[e1,Zj4 hl,Zj4 hr]
theorem Znt {α:Type}:∀ (hs l r:List (Int×α)),((l++(hs++r)).map Prod.fst).Nodup->(∀ p∈hs,1<p.1)->Zgz (l++(hs++r)) (hs.map Prod.fst)=l++r
 | [],l,r,_,_=>rfl
 | p::hs,l,r,hn,h1=>by
   show Zgz (if 1<p.1 then delK p.1 (l++(p::(hs++r))) else l++(p::(hs++r))) (hs.map Prod.fst)=_
   have hn':((l++p::(hs++r)).map Prod.fst).Nodup:=hn;rw[if_pos (h1 p (List.mem_cons_self ..)),Zwc hn'];refine Znt hs l r ?_ (fun q hq=>h1 q (List.mem_cons_of_mem _ hq));have:=hn;rw[List.map_append,List.nodup_append] at this ⊢;obtain⟨q1,q2,q3⟩:=this;exact⟨q1,(List.nodup_cons.1 q2).2,fun x hx y hy=>q3 x hx y (List.mem_cons_of_mem _ hy)⟩
section
variable {K:Law} {n:Nat} {Od:List Nat->Prop} {room:Nat} {w0 w w':World} {mb:Nat} {fs:List (Int×BF)} {nx:Int} {o o':Own} {m m':ManD} {V V':Nat->BF}
theorem SatE.fst (h:SatE K n Od room w0 mb fs nx w o m V):fs.map Prod.fst=m.hs.map Prod.fst:=by rw[<- h.hs,List.map_map];rfl
theorem SatE.nodup (h:SatE K n Od room w0 mb fs nx w o m V):(fs.map Prod.fst).Nodup:=by rw[h.fst];exact h.ok.handles.nodup
theorem SatE.range (h:SatE K n Od room w0 mb fs nx w o m V):∀ p∈fs,0<=p.1/\p.1<nx:=by
 intro p hp;rw[<- h.hs] at hp;obtain⟨q,hq,rfl⟩:=List.mem_map.1 hp;rw[<- h.next];exact h.ok.handles.lt q hq
structure B2 (fs:List (Int×BF)):Prop where
 zero:(0,fun _=>false)∈fs
 one:(1,fun _=>true)∈fs
theorem B2.app {fs:List (Int×BF)} (h:B2 fs) (hs:List (Int×BF)):B2 (fs++hs):=⟨List.mem_append_left _ h.zero,List.mem_append_left _ h.one⟩
theorem SatE.gt {hs:List (Int×BF)} (h:SatE K n Od room w0 mb (fs++hs) nx w o m V) (hb:B2 fs):∀ p∈hs,1<p.1:=by
 intro p hp;have h1:=(h.range p (List.mem_append_right _ hp)).1;have h2:=h.nodup;rw[List.map_append,List.nodup_append] at h2;have h3:=fun k hk=>h2.2.2 k hk p.1 (List.mem_map.2 ⟨p,hp,rfl⟩)
 have h4:=h3 0 (List.mem_map.2 ⟨_,hb.zero,rfl⟩);have h5:=h3 1 (List.mem_map.2 ⟨_,hb.one,rfl⟩);omega
theorem Zpy (hK:Zbp K) {hs r:List (Int×BF)} (h:SatE K n Od room w0 mb (fs++(hs++r)) nx w o m V) (hb:B2 fs) (hn:nx<549755813888) {a:Option Addr} {c:Nat} (hks:Za4 w a (hs.map Prod.fst)) (hno:∀ x,a=some x->o x.block=none) :
 Calls Tryz.prog 50 #[.pointer (some ⟨mb,0,none⟩),.slice a hs.length c] w fun x w'=>x=.returned (.int .i64 0)/\∃ o' m',Zjf K n Od room w0 mb (fs++r) nx o w m V o' w' m':=by
 have hnd:=h.nodup;have hgt:=h.gt hb;have e:Zgz (fs++(hs++r)) (hs.map Prod.fst)=fs++r:=Znt hs fs r hnd (fun p hp=>hgt p (List.mem_append_left _ hp));have:=Zpx hK h hn (c:=c) hks hno fun j hj=>by
  have hj':j<hs.length:=by simpa using hj
  have e1:at0 (hs.map Prod.fst) j=hs[j].1:=by rw[Zcb hj];simp
  refine⟨hs[j].2,?_⟩;rw[e1];refine Zoi (List.mem_append_right _ (List.mem_append_left _ (List.getElem_mem hj'))) ?_;rw[List.map_append,List.nodup_append,List.map_append,List.nodup_append] at hnd;have hh:=hnd.2.1.1;intro hc;obtain⟨i,hi,e2⟩:=List.getElem_of_mem hc;have hi2:i<j:=by simp at hi;omega
  rw[List.getElem_take] at e2;exact(List.pairwise_iff_getElem.1 hh) i j (by simp;omega) hj hi2 (by rw[e2];simp)
 rw[e,List.length_map] at this;exact this
theorem Zu6 {ws0:List Ev} {lim:Option Nat} {k:Nat} {F:BF} {x:Ending} (hp:Zi0 K n Od room w0 mb fs nx ws0 lim k F o w x w') (hk:k<=2^n) (hr:(fs.length+1)*2^n<=room) :
 ∃ o' m' V',ChgX NoB o o' w w'/\m'.waits <:+ ws0/\x=.returned (.tuple #[.int .i64 nx,.int .i64 0])/\SatE K n Od room w0 mb (fs++[(nx,F)]) (nx+1) w' o' m' V':=by
 obtain⟨o',m',V',h1,h2,⟨h3,_,h4⟩|⟨_,_,_,m0,⟨W,oo,VV,hs⟩,h5,h6⟩⟩:=hp
 ·
  exact⟨o',m',V',h1,h2,h3,h4⟩
 ·
  exfalso;have:=hs.few h5;rw[Nat.add_mul] at hr;omega
theorem Zlq {M k:Nat} {F:BF} {x:Ending} (hp:Zi0 K n Od room w0 mb fs nx [] (some M) k F o w x w') :
 ∃ o' m' V',ChgX NoB o o' w w'/\(m'.waits=[]/\m'.d.pool.many<=M+k)/\x=.returned (.tuple #[.int .i64 nx,.int .i64 0])/\SatE K n Od room w0 mb (fs++[(nx,F)]) (nx+1) w' o' m' V':=by
 obtain⟨o',m',V',h1,h2,⟨h3,h5,h4⟩|⟨_,h,_⟩⟩:=hp
 ·
  exact⟨o',m',V',h1,⟨by simpa using h2,h5 M rfl⟩,h3,h4⟩
 ·
  cases h
end
open Go.RowKit
def cntT:Nat->(Nat->Bool)->Nat
 | 0,_=>0
 | k+1,f=>cntT k f+(if f k then 1 else 0)
theorem Ze8 (k:Nat) (f:Nat->Bool):cntT (k+1) f=cntT k f+(if f k then 1 else 0):=rfl
theorem Ztp (f:Nat->Bool):∀ k,cntT k f<=k
 | 0=>Nat.le_refl _
 | k+1=>by
   have:=Ztp f k;rw[Ze8];split<;>omega
def opB (op:Int) (n:Nat) (f:Nat->Bool):Bool :=
 if op=1 then true else if op=4 then decide (cntT n f=0) else if op=5 then decide (cntT n f=n) else if op=6 then decide (0<cntT n f) else if op=7 then decide (cntT n f%2=1)
 else if op=8 then (!f 0||f 1) else if op=9 then decide (cntT n f≠1) else if op=10 then iteB (f 0) (f 1) (f 2) else false
def fnT:ExT->BF
 | .nil=>fun _=>false
 | .mk op v n kid=>fun ρ=>if op=3 then ρ v.toNat else opB op n fun i=>fnT (kid i) ρ
def notF (F:BF):BF:=fun ρ => !F ρ
def Zhh (op:Int) (F G:BF):BF :=
 if op=5 then Zct F G (fun _=>false) else if op=6 then Zct F (fun _=>true) G else if op=8 then Zct F G (fun _=>true) else if op=7 then Zct F (notF G) G else Zct F G (notF G)
def accT (op:Int) (kid:Nat->ExT):Nat->BF
 | 0=>fun _=>decide (op=5)
 | k+1=>Zhh op (accT op kid k) (fnT (kid k))
theorem Zx3 (kid:Nat->ExT) (ρ:Nat->Bool):∀ k,accT 5 kid k ρ=decide (cntT k (fun i=>fnT (kid i) ρ)=k)
 | 0=>rfl
 | k+1=>by
   have h1:accT 5 kid (k+1) ρ=iteB (accT 5 kid k ρ) (fnT (kid k) ρ) false:=rfl;have h2:=Ztp (fun i=>fnT (kid i) ρ) k;rw[h1,Zx3 kid ρ k,Ze8];unfold iteB;cases hf:fnT (kid k) ρ
   ·
    have:(cntT k fun i=>fnT (kid i) ρ)+0≠k+1:=by omega
    simp only[Bool.false_eq_true,if_false,decide_eq_false this];split<;>rfl
   ·
    simp
theorem Zx4 (kid:Nat->ExT) (ρ:Nat->Bool):∀ k,accT 6 kid k ρ=decide (0<cntT k (fun i=>fnT (kid i) ρ))
 | 0=>rfl
 | k+1=>by
   have h1:accT 6 kid (k+1) ρ=iteB (accT 6 kid k ρ) true (fnT (kid k) ρ):=rfl;rw[h1,Zx4 kid ρ k,Ze8];unfold iteB;cases hf:fnT (kid k) ρ<;>simp
theorem Zx5 (kid:Nat->ExT) (ρ:Nat->Bool):∀ k,accT 7 kid k ρ=decide (cntT k (fun i=>fnT (kid i) ρ)%2=1)
 | 0=>rfl
 | k+1=>by
   have h1:accT 7 kid (k+1) ρ=iteB (accT 7 kid k ρ) (!(fnT (kid k) ρ)) (fnT (kid k) ρ):=rfl;rw[h1,Zx5 kid ρ k,Ze8];unfold iteB;rcases Nat.mod_two_eq_zero_or_one (cntT k fun i=>fnT (kid i) ρ) with e|e
   ·
    cases hf:fnT (kid k) ρ<;>simp[e]<;>omega
   ·
    cases hf:fnT (kid k) ρ<;>simp[e]<;>omega
theorem Zt4 {op:Int} (h:op=5\/op=6\/op=7) (v:Int) (n:Nat) (kid:Nat->ExT):fnT (.mk op v n kid)=accT op kid n:=by
 funext ρ;rcases h with rfl|rfl|rfl
 ·
  rw[Zx3];rfl
 ·
  rw[Zx4];rfl
 ·
  rw[Zx5];rfl
theorem Zqf (f:Nat->Bool):cntT 1 f=if f 0 then 1 else 0:=by rw[Ze8];exact Nat.zero_add _
theorem Zqg (f:Nat->Bool):cntT 2 f=(if f 0 then 1 else 0)+(if f 1 then 1 else 0):=by rw[Ze8,Zqf]
theorem Zt6 (v:Int) (kid:Nat->ExT):fnT (.mk 4 v 1 kid)=notF (fnT (kid 0)):=by
 funext ρ
 show decide (cntT 1 (fun i=>fnT (kid i) ρ)=0) = !(fnT (kid 0) ρ)
 rw[Bool.eq_iff_iff,decide_eq_true_iff,Zqf];cases fnT (kid 0) ρ<;>simp
theorem Zt5 (v:Int) (kid:Nat->ExT):fnT (.mk 10 v 3 kid)=Zct (fnT (kid 0)) (fnT (kid 1)) (fnT (kid 2)):=rfl
theorem Zmf {op:Int} (h:op=8\/op=9) (v:Int) (kid:Nat->ExT):fnT (.mk op v 2 kid)=Zhh op (fnT (kid 0)) (fnT (kid 1)):=by
 funext ρ;rcases h with rfl|rfl
 ·
  show (!fnT (kid 0) ρ||fnT (kid 1) ρ)=iteB (fnT (kid 0) ρ) (fnT (kid 1) ρ) true
  unfold iteB;cases fnT (kid 0) ρ<;>simp
 ·
  show decide (cntT 2 (fun i=>fnT (kid i) ρ)≠1)=iteB (fnT (kid 0) ρ) (fnT (kid 1) ρ) (!fnT (kid 1) ρ)
  rw[Bool.eq_iff_iff,decide_eq_true_iff,Zqg];unfold iteB;cases fnT (kid 0) ρ<;>cases fnT (kid 1) ρ<;>simp
theorem Zj8 {op:Int} (h:op=1\/op=2) (v:Int) (n:Nat) (kid:Nat->ExT):fnT (.mk op v n kid)=fun _=>decide (op=1):=by
 rcases h with rfl|rfl<;>rfl
theorem Zt7 (v:Nat) (n:Nat) (kid:Nat->ExT):fnT (.mk 3 v n kid)=varF v:=by
 funext ρ;rfl
theorem Zkg {f:Nat->List Int} {i:Nat} {x:Int}:∀ {n:Nat},i<n->x∈f i->x∈Zd1 n f
 | 0,h,_=>by omega
 | k+1,h,hx=>by
   unfold Zd1;rcases Nat.lt_or_ge i k with h'|h'
   ·
    exact List.mem_append_left _ (Zkg h' hx)
   ·
    obtain rfl:i=k:=by omega
    exact List.mem_append_right _ hx
open Go.RowKit
theorem Zqa {n:Nat} {f:Nat->Nat} (h1:∀ i,i<n->f i<n) (h2:∀ i j,i<n->j<n->f i=f j->i=j) {j:Nat} (hj:j<n):∃ i,i<n/\f i=j:=by
 by_cases h:∃ i,i<n/\f i=j
 ·
  exact h
 exfalso;have hno:∀ i,i<n->f i≠j:=fun i hi e=>h ⟨i,hi,e⟩
 have hnd:(j::(List.range n).map f).Nodup:=by
  refine List.nodup_cons.2 ⟨?_,?_⟩
  ·
   intro hm;obtain⟨i,hi,e⟩:=List.mem_map.1 hm;exact hno i (List.mem_range.1 hi) e
  ·
   refine List.pairwise_map.2 (List.nodup_range.imp_of_mem ?_);intro a b ha hb hab e;exact hab (h2 a b (List.mem_range.1 ha) (List.mem_range.1 hb) e)
 have:=Zh4 n _ hnd (fun x hx=>by
  rcases List.mem_cons.1 hx with rfl|hx
  ·
   exact hj
  ·
   obtain⟨i,hi,rfl⟩:=List.mem_map.1 hx;exact h1 i (List.mem_range.1 hi))
 simp at this;omega
theorem Zyu {zs:List Int} {v:Int} {p:Nat} (h:at0 zs p=v) (hu:∀ i,i<zs.length->at0 zs i=v->i=p):∀ k,k<=zs.length->cntP zs v k=if p<k then 1 else 0
 | 0,_=>by simp[cntP]
 | k+1,hk=>by
   have ih:=Zyu h hu k (by omega)
   by_cases e:at0 zs k=v
   ·
    have:=hu k (by omega) e;subst this;rw[Zfh (by omega) e,ih];simp
   ·
    rw[Zpm (by omega) e,ih];have:p≠k:=fun e2=>e (by rw[<- e2];exact h)
    by_cases h3:p<k
    ·
     rw[if_pos h3,if_pos (by omega)]
    ·
     rw[if_neg h3,if_neg (by omega)]
theorem Zf3 {zs:List Int} {v:Int} {i:Nat}:∀ {j:Nat},i<=j->j<=zs.length->cntP zs v i<=cntP zs v j
 | 0,h,_=>by
   obtain rfl:i=0:=by omega
   exact Nat.le_refl _
 | j+1,h,hj=>by
   rcases Nat.lt_or_ge i (j+1) with h'|h'
   ·
    have:=Zf3 (zs:=zs) (v:=v) (show i<=j by omega) (by omega)
    by_cases e:at0 zs j=v
    ·
     rw[Zfh (by omega) e];omega
    ·
     rw[Zpm (by omega) e];omega
   ·
    obtain rfl:i=j+1:=by omega
    exact Nat.le_refl _
structure Zym (zs:List Int) (n:Nat):Prop where
 len:zs.length=n
 lt:∀ i,i<n->∃ v:Nat,v<n/\at0 zs i=(v:Nat)
 inj:∀ i j,i<n->j<n->at0 zs i=at0 zs j->i=j
theorem Zxa {zs:List Int} {n:Nat} (h:Zgg zs n=true):Zym zs n:=by
 unfold Zgg at h;rw[decide_eq_true_eq] at h;obtain⟨h1,h2⟩:=h;have h1':zs.length=n:=by omega
 subst h1';have hp:∀ v:Nat,v<zs.length->∃ p,p<zs.length/\at0 zs p=(v:Nat):=by
  intro v hv;have e:=h2 v hv;unfold cntP at e;rw[List.take_length] at e;have hm:0<(zs.filter (fun z=>decide (z=(v:Int)))).length:=by omega
  obtain⟨z,hz⟩:=List.length_pos_iff_exists_mem.1 hm;obtain⟨q1,q2⟩:=List.mem_filter.1 hz;obtain⟨i,hi,e2⟩:=List.getElem_of_mem q1;refine⟨i,hi,?_⟩;rw[Zcb hi,e2];simpa using q2
 have hsur:∀ i,i<zs.length->∃ v,v<zs.length/\at0 zs i=(v:Nat):=by
  have hc:∃ f:Nat->Nat,∀ v,v<zs.length->f v<zs.length/\at0 zs (f v)=(v:Nat):=by
   refine⟨fun v=>if hv:v<zs.length then Classical.choose (hp v hv) else 0,fun v hv=>?_⟩;dsimp only;rw[dif_pos hv];exact Classical.choose_spec (hp v hv)
  obtain⟨f,hf⟩:=hc;intro i hi
  obtain⟨v,hv,e⟩:=Zqa (n:=zs.length) (f:=f) (fun v hv=>(hf v hv).1) (fun a b ha hb e=>by
   have e1:=(hf a ha).2;have e2:=(hf b hb).2;rw[e,e2] at e1;omega) hi
  exact⟨v,hv,by rw[<- e];exact(hf v hv).2⟩
 refine⟨rfl,hsur,fun i j hi hj e=>?_⟩;obtain⟨v,hv,ei⟩:=hsur i hi;have ec:=h2 v hv;have ej:at0 zs j=(v:Nat):=by rw[<- e];exact ei
 rcases Nat.lt_trichotomy i j with hlt|rfl|hlt
 ·
  have a1:=Zfh hi ei;have a2:=Zfh hj ej;have a3:=Zf3 (zs:=zs) (v:=(v:Nat)) (show i+1<=j by omega) (by omega);have a4:=Zf3 (zs:=zs) (v:=(v:Nat)) (show j+1<=zs.length by omega) (Nat.le_refl _);omega
 ·
  rfl
 ·
  have a1:=Zfh hi ei;have a2:=Zfh hj ej;have a3:=Zf3 (zs:=zs) (v:=(v:Nat)) (show j+1<=i by omega) (by omega);have a4:=Zf3 (zs:=zs) (v:=(v:Nat)) (show i+1<=zs.length by omega) (Nat.le_refl _);omega
theorem Zyq {l:List Nat} {i:Nat} (hi:i<l.length):at0 (l.map Int.ofNat) i=(l.getD i 0:Nat):=by
 rw[Zcb (by simpa using hi)];simp[List.getD,hi]
theorem Zan.mem {d:Zag} {V:Nat->BF} (h:Zan d V) {v:Nat} (hv:v<d.vars.length):∃ i,i<d.vars.length/\d.vars.getD i 0=v:=⟨levN d v,h.dag.lt v hv,h.inv v hv⟩
theorem Zan.inj {d:Zag} {V:Nat->BF} (h:Zan d V) {i j:Nat} (hi:i<d.vars.length) (hj:j<d.vars.length) (e:d.vars.getD i 0=d.vars.getD j 0):i=j:=by
 have a:=(h.vlt i hi).2;have b:=(h.vlt j hj).2;rw[e,b] at a;exact a.symm
def exL (l:List Nat) (k:Nat):List Nat:=(l.set k (l.getD (k+1) 0)).set (k+1) (l.getD k 0)
theorem Zwj {l:List Nat} {k:Nat} (h:k+1<l.length):(exL l k).getD k 0=l.getD (k+1) 0:=by
 unfold exL;simp[List.getD,List.getElem?_set,h,show k<l.length by omega]
theorem Yac {l:List Nat} {k i:Nat} (h1:i≠k) (h2:i≠k+1):(exL l k).getD i 0=l.getD i 0:=by
 unfold exL;simp only[List.getD,List.getElem?_set];rw[if_neg (fun e=>h2 e.symm),if_neg (fun e=>h1 e.symm)]
theorem Zvu (d:Zag) (k:Nat):(Zee d k).vars=exL d.vars k:=rfl
open Go.RowKit
structure LawT (K:Law) (n:Nat) (Od:List Nat->Prop) (room:Nat) (w0:World) (mb:Nat) (fs:List (Int×BF)) (nx:Int) (Wt:List Ev->Int->Prop) (hl hx:List (Int×BF)) (W:World) (o:Own) (m:ManD) (V:Nat->BF) (vl vx:Value):Prop where
 sat:SatE K n Od room w0 mb fs nx W o m V
 b2:B2 fs
 st:Wt m.waits m.calls
 l:LawL W o w0.heap.size vl (hl.map Prod.fst)
 x:LawX W o w0.heap.size vx (hx.map fun p=>tabB n p.2)
section
variable {K:Law} {n:Nat} {Od:List Nat->Prop} {room:Nat} {w0:World} {mb:Nat} {fs:List (Int×BF)} {nx:Int} {Wt:List Ev->Int->Prop} {hl hx hs:List (Int×BF)} {W W' w:World} {o o':Own} {m m':ManD} {V V':Nat->BF} {vl vx v' v:Value} {p:Int×BF}
theorem LawT.below (h:LawT K n Od room w0 mb fs nx Wt hl hx W o m V vl vx) (hb:Below W.heap.size W W'):LawT K n Od room w0 mb fs nx Wt hl hx W' o m V vl vx :=
 ⟨h.sat.below hb,h.b2,h.st,h.l.chg (Zcr hb o),h.x.chg (Zcr hb o)⟩
theorem LawT.below0 (h:LawT K n Od room w0 mb fs nx Wt hl hx W o m V vl vx):Below w0.heap.size w0 W:=h.sat.chg.below0
theorem LawT.go {Od':List Nat->Prop} {fs':List (Int×BF)} {nx':Int} {Wt':List Ev->Int->Prop} (h:LawT K n Od room w0 mb fs nx Wt hl hx W o m V vl vx) (hs:SatE K n Od' room w0 mb fs' nx' W' o' m' V') (hb:B2 fs') (ht:Wt' m'.waits m'.calls) (hc:ChgX NoB o o' W W') :
 LawT K n Od' room w0 mb fs' nx' Wt' hl hx W' o' m' V' vl vx:=⟨hs,hb,ht,h.l.chg hc,h.x.chg hc⟩
theorem LawT.withOd {Od':List Nat->Prop} (h:LawT K n Od room w0 mb fs nx Wt hl hx W o m V vl vx) (hO:Od' m.d.vars):LawT K n Od' room w0 mb fs nx Wt hl hx W o m V vl vx:=⟨h.sat.withOd hO,h.b2,h.st,h.l,h.x⟩
theorem LawT.withSt {Wt':List Ev->Int->Prop} (h:LawT K n Od room w0 mb fs nx Wt hl hx W o m V vl vx) (hO:Wt' m.waits m.calls):LawT K n Od room w0 mb fs nx Wt' hl hx W o m V vl vx:=⟨h.sat,h.b2,hO,h.l,h.x⟩
theorem LawT.appL (h:LawT K n Od room w0 mb fs nx Wt hl hx W o m V vl vx) (hown:OwnC 3 W' w0.heap.size v' (Zbh (hl.map Prod.fst)++[.int .i64 p.1])) (e1:W'.os=W.os) (e2:W'.tape=W.tape) (e3:W'.output=W.output) (e4:W.heap.size<=W'.heap.size) (hk:Zdv vl v' W W') :
 LawT K n Od room w0 mb fs nx Wt (hl++[p]) hx W' o m V v' vx:=by
 have hw:=Zra e1 e2 e3 e4 hk;refine⟨h.sat.other hw (fun k _ hk=>⟨(h.l.own.lt k hk).1,h.l.no k hk⟩),h.b2,h.st,?_,h.x.typ hw (by decide) (by decide) h.l.own.typed⟩;rw[List.map_append];exact h.l.app h.sat.lt hown hk
theorem LawT.appX {bs:List Bool} (h:LawT K n Od room w0 mb fs nx Wt hl hx W o m V vl vx) (hb:LawB W o w0.heap.size v bs) (hbs:bs=tabB n p.2) {rs:List Value} (hrs:rs.length=hx.length) (hrow:OwnC 34 W w0.heap.size vx rs) (hall:∀ i v,rs[i]?=some v->LawB W o w0.heap.size v ((hx.map fun p=>tabB n p.2).getD i []))
 (hown:OwnC 34 W' w0.heap.size v' (rs++[v])) (e1:W'.os=W.os) (e2:W'.tape=W.tape) (e3:W'.output=W.output) (e4:W.heap.size<=W'.heap.size) (hk:Zdv vx v' W W'):LawT K n Od room w0 mb fs nx Wt hl (hx++[p]) W' o m V vl v':=by
 have hw:=Zra e1 e2 e3 e4 hk;refine⟨h.sat.other hw (fun k _ hk=>⟨(hrow.lt k hk).1,h.x.no k hk⟩),h.b2,h.st,h.l.typ hw (by decide) hrow.typed,?_⟩;rw[List.map_append];have:=h.x.app h.sat.lt (by simp[hrs]) hall hw hrow.typed hb hown hk;rw[hbs] at this;exact this
structure LawF (W:World) (o:Own) (v:Value) (bs:List Bool):Prop where
 is:Ze0 W v bs
 no:∀ k,v.ownBlock=some k->k<W.heap.size/\o k=none/\∃ cur,W.heap[k]?=some (.cells cur 4 (0,0))
theorem LawF.chg {bs:List Bool} (h:LawF W o v bs) (hc:ChgX NoB o o' W W'):LawF W' o' v bs :=
 ⟨h.is.same fun k hk=>hc.block k (h.no k hk).1 (h.no k hk).2.1 (fun e=>e),fun k hk=>by
  obtain⟨h1,h2,cur,h3⟩:=h.no k hk;exact⟨Nat.lt_of_lt_of_le h1 hc.size,hc.none' h1 h2,cur,(hc.block k h1 h2 (fun e=>e)).trans h3⟩⟩
end
open Go.RowKit
theorem Zr5 (W:World) (zs:List Int) (hl:zs.length<=1000000):Za4 (W.alloc (.cells (Zbh zs).toArray 3)) (some ⟨W.heap.size,0,none⟩) zs :=
 ⟨by omega,fun k hk=>⟨W.heap.size,0,rfl,by
  rw[Nat.zero_add,cell_of_row _ _ k _ _ _ (heap_alloc_new _ _)];simp[Zbh,Zcb hk,hk]⟩⟩
section
variable {K:Law} {n:Nat} {Od:List Nat->Prop} {room:Nat} {w0 w w':World} {mb:Nat} {fs:List (Int×BF)} {nx:Int} {o o':Own} {m m':ManD} {V V':Nat->BF}
def Goes (K:Law) (n:Nat) (Od:List Nat->Prop) (room:Nat) (w0:World) (mb:Nat) (fs:List (Int×BF)) (nx:Int) (Wt:List Ev->Int->Nat->Prop) (o:Own) (w w':World):Prop :=
 ∃ o' m' V',ChgX NoB o o' w w'/\Wt m'.waits m'.calls m'.d.pool.many/\SatE K n Od room w0 mb fs nx w' o' m' V'
def NoW (M:Nat) (ws:List Ev) (_:Int) (k:Nat):Prop:=ws=[]/\k<=M
abbrev W2 (Wt:List Ev->Int->Prop):List Ev->Int->Nat->Prop:=fun ws c _=>Wt ws c
theorem Goes.more {M M':Nat} (h:Goes K n Od room w0 mb fs nx (NoW M) o w w') (hm:M<=M'):Goes K n Od room w0 mb fs nx (NoW M') o w w':=by
 obtain⟨o',m',V',h1,h2,h3⟩:=h;exact⟨o',m',V',h1,⟨h2.1,Nat.le_trans h2.2 hm⟩,h3⟩
theorem Goes.below {Wt:List Ev->Int->Nat->Prop} {w'':World} (h:Goes K n Od room w0 mb fs nx Wt o w w') (hb:Below w'.heap.size w' w''):Goes K n Od room w0 mb fs nx Wt o w w'':=by
 obtain⟨o',m',V',h1,h2,h3⟩:=h;exact⟨o',m',V',h1.trans (Zcr hb o') (fun _ _ e=>e),h2,h3.below hb⟩
theorem Zui (hK:Zbp K) {M:Nat} (h:Goes K n Od room w0 mb fs nx (NoW M) o w w') (hn:nx<549755813888) (hr:M+(2^n-1)<=room) {kf kg kh:Int} {F G H:BF} (hf:(kf,F)∈fs) (hg:(kg,G)∈fs) (hh:(kh,H)∈fs) :
 Calls Tryz.prog 21 #[.pointer (some ⟨mb,0,none⟩),.int .i64 kf,.int .i64 kg,.int .i64 kh] w' fun x w''=>x=.returned (.tuple #[.int .i64 nx,.int .i64 0])/\Goes K n Od room w0 mb (fs++[(nx,Zct F G H)]) (nx+1) (NoW (M+(2^n-1))) o w w'':=by
 obtain⟨o',m',V',h1,h2,h3⟩:=h;refine(Zsd hK h3 [] (by rw[h2.1];exact List.suffix_refl _) (some M) (fun _ e=>by cases e;exact⟨rfl,hr⟩) (fun _ e=>by cases e;exact h2.2) (by simp) (by omega) hf hg hh).mono ?_;rintro x w'' hp;obtain⟨o2,m2,V2,q1,q2,q3,q4⟩:=Zlq hp;exact⟨q3,o2,m2,V2,h1.trans q1 (fun _ _ e=>e),q2,q4⟩
theorem Yax (hK:Zbp K) {M:Nat} (h:Goes K n Od room w0 mb fs nx (NoW M) o w w') (hn:nx<549755813888) (hr:M+1<=room) {v:Nat} (hv:v<n) :
 Calls Tryz.prog 20 #[.pointer (some ⟨mb,0,none⟩),.int .i64 v] w' fun x w''=>x=.returned (.tuple #[.int .i64 nx,.int .i64 0])/\Goes K n Od room w0 mb (fs++[(nx,varF v)]) (nx+1) (NoW (M+1)) o w w'':=by
 obtain⟨o',m',V',h1,h2,h3⟩:=h;refine(Zlo hK h3 [] (by rw[h2.1];exact List.suffix_refl _) (some M) (fun _ e=>by cases e;exact⟨rfl,hr⟩) (fun _ e=>by cases e;exact h2.2) (by simp) (by omega) v hv).mono ?_;rintro x w'' hp;obtain⟨o2,m2,V2,q1,q2,q3,q4⟩:=Zlq hp;exact⟨q3,o2,m2,V2,h1.trans q1 (fun _ _ e=>e),q2,q4⟩
theorem Zya (hK:Zbp K) {Wt:List Ev->Int->Nat->Prop} (h:Goes K n Od room w0 mb fs nx Wt o w w') (hn:nx<549755813888) {k:Int} {F:BF} (hf:(k,F)∈fs) :
 Calls Tryz.prog 142 #[.pointer (some ⟨mb,0,none⟩),.int .i64 k] w' fun x w''=>x=.returned (.tuple #[.int .i64 nx,.int .i64 0])/\Goes K n Od room w0 mb (fs++[(nx,notF F)]) (nx+1) Wt o w w'':=by
 obtain⟨o',m',V',h1,h2,h3⟩:=h;refine(Zse hK h3 hn hf).mono ?_;rintro x w'' ⟨rfl,o2,m2,q⟩;exact⟨rfl,o2,m2,V',h1.trans (ChgX.of_chg q.chg NoB) (fun _ _ e=>e),by rw[q.waits,q.calls,q.many];exact h2,q.sat⟩
theorem Zl6 (hK:Zbp K) {Wt:List Ev->Int->Nat->Prop} (h:Goes K n Od room w0 mb fs nx Wt o w w') (hn:nx<549755813888) {k:Int} {F:BF} (hf:(k,F)∈fs) :
 Calls Tryz.prog 139 #[.pointer (some ⟨mb,0,none⟩),.int .i64 k] w' fun x w''=>x=.returned (.tuple #[.int .i64 nx,.int .i64 0])/\Goes K n Od room w0 mb (fs++[(nx,F)]) (nx+1) Wt o w w'':=by
 obtain⟨o',m',V',h1,h2,h3⟩:=h;refine(Zpw hK h3 hn hf).mono ?_;rintro x w'' ⟨rfl,o2,m2,q⟩;exact⟨rfl,o2,m2,V',h1.trans (ChgX.of_chg q.chg NoB) (fun _ _ e=>e),by rw[q.waits,q.calls,q.many];exact h2,q.sat⟩
theorem Zl8 (hK:Zbp K) {Wt:List Ev->Int->Nat->Prop} {hs r:List (Int×BF)} (h:Goes K n Od room w0 mb (fs++(hs++r)) nx Wt o w w') (hb:B2 fs) (hn:nx<549755813888) (hl:hs.length<=1000) {T:World} (hT:T=w'.alloc (.cells (Zbh (hs.map Prod.fst)).toArray 3)) :
 Calls Tryz.prog 50 #[.pointer (some ⟨mb,0,none⟩),.slice (some ⟨w'.heap.size,0,none⟩) hs.length hs.length] T fun x w''=>x=.returned (.int .i64 0)/\Goes K n Od room w0 mb (fs++r) nx Wt o w w'':=by
 obtain⟨o',m',V',h1,h2,h3⟩:=h;subst hT;have hbn:=Zad w' (.cells (Zbh (hs.map Prod.fst)).toArray 3);refine(Zpy hK (h3.below hbn) hb hn (Zr5 w' (hs.map Prod.fst) (by simp;omega)) (fun x hx=>by cases hx;exact h3.lt.none (Nat.le_refl _))).mono ?_;rintro x w'' ⟨rfl,o2,m2,q⟩;exact⟨rfl,o2,m2,V',(h1.trans (Zcr hbn o') (fun _ _ e=>e)).trans (ChgX.of_chg q.chg NoB) (fun _ _ e=>e),by rw[q.waits,q.calls,q.many];exact h2,q.sat⟩
theorem Zql (hK:Zbp K) {a b:Int} {F G:BF} {M:Nat} (h:Goes K n Od room w0 mb (fs++[(a,F),(b,G)]) nx (NoW M) o w w') (hb:B2 fs) (hn:nx+2<549755813888) (hr:M+(2^n-1)<=room) {op:Int} (h5:5<=op) (h9:op<=9) :
 Calls Tryz.prog 141 #[.pointer (some ⟨mb,0,none⟩),.int .i64 op,.int .i64 a,.int .i64 b] w' fun x w''=>∃ k:Int,x=.returned (.tuple #[.int .i64 k,.bool true])/\k<=nx+1/\Goes K n Od room w0 mb (fs++[(k,Zhh op F G)]) (k+1) (NoW (M+(2^n-1))) o w w'':=by
 obtain⟨M',hM'⟩:∃ M',M'=M+(2^n-1):=⟨_,rfl⟩;have HITE:Hid (∀ c d e A B C,(c,A)∈fs++[(a,F),(b,G)]->(d,B)∈fs++[(a,F),(b,G)]->(e,C)∈fs++[(a,F),(b,G)]->Calls Tryz.prog 21 #[.pointer (some ⟨mb,0,none⟩),.int .i64 c,.int .i64 d,.int .i64 e] w' fun x w''=>x=.returned (.tuple #[.int .i64 nx,.int .i64 0])/\Goes K n Od room w0 mb (fs++[(a,F),(b,G)]++[(nx,Zct A B C)]) (nx+1) (NoW (M+(2^n-1))) o w w'') :=
  Hd fun c d e A B C h1 h2 h3=>Zui hK h (by omega) hr h1 h2 h3
 have HNOT:=Hd (Zya hK h (by omega) (k:=b) (F:=G) (by simp))
 have HITE2:Hid (∀ W,Goes K n Od room w0 mb (fs++[(a,F),(b,G)]++[(nx,notF G)]) (nx+1) (NoW M) o w W->∀ c d e A B C,(c,A)∈fs++[(a,F),(b,G)]++[(nx,notF G)]->(d,B)∈fs++[(a,F),(b,G)]++[(nx,notF G)]->(e,C)∈fs++[(a,F),(b,G)]++[(nx,notF G)] ->
  Calls Tryz.prog 21 #[.pointer (some ⟨mb,0,none⟩),.int .i64 c,.int .i64 d,.int .i64 e] W fun x w''=>x=.returned (.tuple #[.int .i64 (nx+1),.int .i64 0])/\Goes K n Od room w0 mb (fs++[(a,F),(b,G)]++[(nx,notF G)]++[(nx+1,Zct A B C)]) (nx+1+1) (NoW (M+(2^n-1))) o w w'') :=
  Hd fun W hW c d e A B C h1 h2 h3=>Zui hK hW (by omega) hr h1 h2 h3
 have HDN:Hid (∀ W H T,Goes K n Od room w0 mb (fs++[(a,F),(b,G)]++[(nx,notF G)]++[(nx+1,H)]) (nx+1+1) (NoW M') o w W->T=W.alloc (.cells #[.int .i64 nx] 3)->Calls Tryz.prog 50 #[.pointer (some ⟨mb,0,none⟩),.slice (some ⟨W.heap.size,0,none⟩) 1 1] T fun x w''=>x=.returned (.int .i64 0)/\Goes K n Od room w0 mb (fs++[(a,F),(b,G)]++[(nx+1,H)]) (nx+1+1) (NoW M') o w w'') :=
  Hd fun W H T hW hT=>Zl8 hK (hs:=[(nx,notF G)]) (r:=[(nx+1,H)]) (by rw[List.append_assoc] at hW;exact hW) (hb.app _) (by omega) (by simp) hT
 have HDAB:Hid (∀ W k H T,k+1<549755813888->Goes K n Od room w0 mb (fs++[(a,F),(b,G)]++[(k,H)]) (k+1) (NoW M') o w W->T=W.alloc (.cells #[.int .i64 a,.int .i64 b] 3)->Calls Tryz.prog 50 #[.pointer (some ⟨mb,0,none⟩),.slice (some ⟨W.heap.size,0,none⟩) 2 2] T fun x w''=>x=.returned (.int .i64 0)/\Goes K n Od room w0 mb (fs++[(k,H)]) (k+1) (NoW M') o w w'') :=
  Hd fun W k H T hk hW hT=>Zl8 hK (hs:=[(a,F),(b,G)]) (r:=[(k,H)]) (by rw[List.append_assoc] at hW;exact hW) hb (by omega) (by simp) hT
 have m0:(0,fun _=>false)∈fs++[(a,F),(b,G)]:=List.mem_append_left _ hb.zero;have m1:(1,fun _=>true)∈fs++[(a,F),(b,G)]:=List.mem_append_left _ hb.one;have ma:(a,F)∈fs++[(a,F),(b,G)]:=by simp
 have mb':(b,G)∈fs++[(a,F),(b,G)]:=by simp
 have pa:(a,F)∈fs++[(a,F),(b,G)]++[(nx,notF G)]:=by simp
 have pb:(b,G)∈fs++[(a,F),(b,G)]++[(nx,notF G)]:=by simp
 have pn:(nx,notF G)∈fs++[(a,F),(b,G)]++[(nx,notF G)]:=by simp
 rw[<- hM'] at HITE HITE2 ⊢;clear h hb hr hK hM';rcases(show op=5\/op=6\/op=7\/op=8\/op=9 by omega) with rfl|rfl|rfl|rfl|rfl
 ·
  have HI:=Hd (HITE.out a b 0 _ _ _ ma mb' m0);clear HITE HITE2 HNOT HDN
  go_enter Tryz.func141,Tryz.ntmps141
  go_wp2_with fail;refine HI.out.mono ?_;rintro x w1 ⟨rfl,g1⟩;have HD:=Hd (HDAB.out w1 nx _ _ (by omega) g1 rfl);clear g1 HI;go_wp2_with fail;refine HD.out.mono ?_;rintro x w2 ⟨rfl,g2⟩;have HG:=Hd g2;clear g2 HD;go_wp2_with fail
  go_ret2
  exact⟨nx,rfl,by omega,HG.out⟩
 ·
  have HI:=Hd (HITE.out a 1 b _ _ _ ma m1 mb');clear HITE HITE2 HNOT HDN
  go_enter Tryz.func141,Tryz.ntmps141
  go_wp2_with fail;refine HI.out.mono ?_;rintro x w1 ⟨rfl,g1⟩;have HD:=Hd (HDAB.out w1 nx _ _ (by omega) g1 rfl);clear g1 HI;go_wp2_with fail;refine HD.out.mono ?_;rintro x w2 ⟨rfl,g2⟩;have HG:=Hd g2;clear g2 HD;go_wp2_with fail
  go_ret2
  exact⟨nx,rfl,by omega,HG.out⟩
 ·
  clear HITE
  go_enter Tryz.func141,Tryz.ntmps141
  go_wp2_with fail;refine HNOT.out.mono ?_;rintro x w1 ⟨rfl,g1⟩;have HI:=Hd (HITE2.out w1 g1 a nx b _ _ _ pa pn pb);clear g1 HNOT HITE2;go_wp2_with fail;refine HI.out.mono ?_;rintro x w2 ⟨rfl,g2⟩;have HD1:=Hd (HDN.out w2 _ _ g2 rfl);clear g2 HI HDN;go_wp2_with fail;refine HD1.out.mono ?_;rintro x w3 ⟨rfl,g3⟩;have HD:=Hd (HDAB.out w3 (nx+1) _ _ (by omega) g3 rfl);clear g3 HD1;go_wp2_with fail;refine HD.out.mono ?_;rintro x w4 ⟨rfl,g4⟩;have HG:=Hd g4;clear g4 HD;go_wp2_with fail
  go_ret2
  exact⟨nx+1,rfl,by omega,HG.out⟩
 ·
  have HI:=Hd (HITE.out a b 1 _ _ _ ma mb' m1);clear HITE HITE2 HNOT HDN
  go_enter Tryz.func141,Tryz.ntmps141
  go_wp2_with fail;refine HI.out.mono ?_;rintro x w1 ⟨rfl,g1⟩;have HD:=Hd (HDAB.out w1 nx _ _ (by omega) g1 rfl);clear g1 HI;go_wp2_with fail;refine HD.out.mono ?_;rintro x w2 ⟨rfl,g2⟩;have HG:=Hd g2;clear g2 HD;go_wp2_with fail
  go_ret2
  exact⟨nx,rfl,by omega,HG.out⟩
 ·
  clear HITE
  go_enter Tryz.func141,Tryz.ntmps141
  go_wp2_with fail;refine HNOT.out.mono ?_;rintro x w1 ⟨rfl,g1⟩;have HI:=Hd (HITE2.out w1 g1 a b nx _ _ _ pa pb pn);clear g1 HNOT HITE2;go_wp2_with fail;refine HI.out.mono ?_;rintro x w2 ⟨rfl,g2⟩;have HD1:=Hd (HDN.out w2 _ _ g2 rfl);clear g2 HI HDN;go_wp2_with fail;refine HD1.out.mono ?_;rintro x w3 ⟨rfl,g3⟩;have HD:=Hd (HDAB.out w3 (nx+1) _ _ (by omega) g3 rfl);clear g3 HD1;go_wp2_with fail;refine HD.out.mono ?_;rintro x w4 ⟨rfl,g4⟩;have HG:=Hd g4;clear g4 HD;go_wp2_with fail
  go_ret2
  exact⟨nx+1,rfl,by omega,HG.out⟩
end
open Go.RowKit
section
variable {K:Law} {n:Nat} {room:Nat} {w0:World} {mb:Nat} {fs hs:List (Int×BF)} {nx:Int} {W w w':World} {o o':Own} {m m':ManD} {V V':Nat->BF} {vl vx:Value} {ws0:List Ev}
theorem Zvw {n:Nat} (h:n<=16):2^n<=1000000:=Nat.le_trans (Nat.pow_le_pow_right (by omega) h) (by decide)
abbrev SufW (ws0:List Ev):List Ev->Int->Prop:=fun ws _=>ws <:+ ws0
end
open Go.RowKit
section
variable {K:Law} {n:Nat} {room:Nat} {w0 w w':World} {mb:Nat} {fs:List (Int×BF)} {nx:Int} {o:Own} {m:ManD} {V:Nat->BF} {ws0:List Ev}
theorem Yaw (hK:Zbp K) (h:SatE K n (fun _=>True) room w0 mb fs nx w o m V) (hw:m.waits <:+ ws0) (hn:nx<=549755813888) (hr:(fs.length+1)*2^n<=room) {v:Nat} (hv:v<n) :
 Calls Tryz.prog 20 #[.pointer (some ⟨mb,0,none⟩),.int .i64 v] w fun x w''=>x=.returned (.tuple #[.int .i64 nx,.int .i64 0])/\Goes K n (fun _=>True) room w0 mb (fs++[(nx,varF v)]) (nx+1) (W2 (SufW ws0)) o w w'':=by
 refine(Zlo hK h ws0 hw none (fun _ e=>by cases e) (fun _ e=>by cases e) (fun ev _=>Zin hn ev) (by omega) v hv).mono ?_;rintro x w'' hp;obtain⟨o2,m2,V2,q1,q2,q3,q4⟩:=Zu6 hp Nat.one_le_two_pow hr;exact⟨q3,o2,m2,V2,q1,q2,q4⟩
def StG (K:Law) (n room:Nat) (w0:World) (mb:Nat) (fs:List (Int×BF)) (nx:Int) (ws0:List Ev) (W:World):Prop:=∃ o m V,m.waits <:+ ws0/\SatE K n (fun _=>True) room w0 mb fs nx W o m V
theorem StG.below (h:StG K n room w0 mb fs nx ws0 w) (hb:Below w.heap.size w w'):StG K n room w0 mb fs nx ws0 w':=by
 obtain⟨o,m,V,h1,h2⟩:=h;exact⟨o,m,V,h1,h2.below hb⟩
theorem StG.below0 (h:StG K n room w0 mb fs nx ws0 w):Below w0.heap.size w0 w:=by
 obtain⟨o,m,V,h1,h2⟩:=h;exact h2.chg.below0
theorem Goes.st (h:Goes K n (fun _=>True) room w0 mb fs nx (W2 (SufW ws0)) o w w'):StG K n room w0 mb fs nx ws0 w':=by
 obtain⟨o',m',V',_,h1,h2⟩:=h;exact⟨o',m',V',h1,h2⟩
theorem StG.var (hK:Zbp K) (h:StG K n room w0 mb fs nx ws0 w) (hn:nx<=549755813888) (hr:(fs.length+1)*2^n<=room) {v:Nat} (hv:v<n) :
 Calls Tryz.prog 20 #[.pointer (some ⟨mb,0,none⟩),.int .i64 v] w fun x w''=>x=.returned (.tuple #[.int .i64 nx,.int .i64 0])/\StG K n room w0 mb (fs++[(nx,varF v)]) (nx+1) ws0 w'':=by
 obtain⟨o,m,V,h1,h2⟩:=h;exact(Yaw hK h2 h1 hn hr hv).mono fun x w' ⟨q1,q2⟩=>⟨q1,q2.st⟩
theorem StG.same (h:StG K n room w0 mb fs nx ws0 w) {k l:Int} {F G:BF} (hf:(k,F)∈fs) (hg:(l,G)∈fs) :
 Calls Tryz.prog 22 #[.pointer (some ⟨mb,0,none⟩),.int .i64 k,.int .i64 l] w fun x w''=>(∃ b:Bool,x=.returned (.tuple #[.bool b,.int .i64 0])/\(b=true↔F=G))/\w=w'':=by
 obtain⟨o,m,V,h1,h2⟩:=h;exact(Zp0 h2 hf hg).mono fun x w' ⟨b,q1,q2,q3⟩=>⟨⟨b,q1,q2⟩,q3⟩
theorem StG.handles (h:StG K n room w0 mb fs nx ws0 w):Calls Tryz.prog 61 #[.pointer (some ⟨mb,0,none⟩)] w fun x w'=>x=.returned (.int .i64 (fs.length:Nat))/\w=w':=by
 obtain⟨o,m,V,h1,h2⟩:=h;exact h2.handles_any
end
open Go.RowKit
end Go.Proofs.YtmofaapnkidioaaGreat

namespace Go.Proofs.YtmofaapnkidioaaGreat
open Go.RowKit
open Go.RowKit
def andF (F G:BF):BF:=Zct F G fun _=>false
def orF (F G:BF):BF:=Zct F (fun _=>true) G
def xorF (F G:BF):BF:=Zct F (notF G) G
def impF (F G:BF):BF:=Zct F G fun _=>true
def iffF (F G:BF):BF:=Zct F G (notF G)
def Zns (F G:BF):BF:=Zct F (notF G) fun _=>false
section
variable {n:Nat} {F G H:BF} {u v x y z:Value} {w:World}
end
open Go.RowKit
structure AtC (K:Law) (k:Nat) (o:Own) (w:World) (mb:Nat) (m:ManD) (V:Nat->BF) (o':Own) (w':World) (m':ManD) (V':Nat->BF):Prop where
 st:Step K o w mb m V o' w' m' V'
 waits:m'.waits=m.waits
 many:m'.d.pool.many<=m.d.pool.many+k
def Zrb (K:Law) (k:Nat) (o:Own) (w:World) (mb:Nat) (m:ManD) (V:Nat->BF) (er:Int) (evt:Bool) (ev:Ev) (w':World):Prop :=
 ∃ o' m' V',Step K o w mb m V o' w' m' V'/\((er=7/\evt=false/\ev=ev0/\m'.waits=m.waits/\m'.d.pool.many=m'.d.pool.room/\m'.d.pool.many+1<=m.d.pool.many+k)\/(er=0/\evt=true/\m.waits=ev::m'.waits))
def Zck (K:Law) (k:Nat) (o:Own) (w:World) (mb:Nat) (m:ManD) (V:Nat->BF) (A:Zag->(Nat->BF)->Nat->Prop) (e:Ending) (w':World):Prop :=
 (∃ r o' m' V',e=.returned (.int .i64 (r:Nat))/\AtC K k o w mb m V o' w' m' V'/\okE (Zab m'.d) r/\A m'.d V' r)\/(∃ er evt ev,e=Zb2 er evt ev/\Zrb K k o w mb m V er evt ev w')
section
variable {K:Law} {n k k1 k2:Nat} {Od:List Nat->Prop} {room:Nat} {w0 w w' w1 w2:World} {mb:Nat} {fs:List (Int×BF)} {nx:Int} {o o' o1 o2:Own} {m m' m1 m2:ManD} {V V' V1 V2:Nat->BF} {xb:Nat}
theorem AtC.refl (h:Zc6 (K m.d V) o w mb m) (hl:Zak o w) (hk:Zan m.d V):AtC K 0 o w mb m V o w m V:=⟨⟨h,hl,Chg.refl _ _ _,hk,Ext.refl _ _,rfl,rfl⟩,rfl,Nat.le_refl _⟩
theorem AtC.trans (h:AtC K k1 o w mb m V o1 w1 m1 V1) (h':AtC K k2 o1 w1 mb m1 V1 o2 w2 m2 V2):AtC K (k1+k2) o w mb m V o2 w2 m2 V2 :=
 ⟨h.st.trans h'.st,h'.waits.trans h.waits,by have:=h.many;have:=h'.many;omega⟩
theorem AtC.mono (h:AtC K k1 o w mb m V o1 w1 m1 V1) (hk:k1<=k2):AtC K k2 o w mb m V o1 w1 m1 V1:=⟨h.st,h.waits,Nat.le_trans h.many (by omega)⟩
theorem AtC.below (h:AtC K k o w mb m V o1 w1 m1 V1) (hb:Below w1.heap.size w1 w2):AtC K k o w mb m V o1 w2 m1 V1:=⟨h.st.below hb,h.waits,h.many⟩
theorem AtC.vars (h:AtC K k o w mb m V o1 w1 m1 V1) (hv:m.d.vars.length=n):m1.d.vars.length=n:=by rw[h.st.ext.vars];exact hv
theorem Zrb.after {er:Int} {evt:Bool} {ev:Ev} (h:AtC K k1 o w mb m V o1 w1 m1 V1) (h':Zrb K k2 o1 w1 mb m1 V1 er evt ev w2) (hk:k1+k2<=k):Zrb K k o w mb m V er evt ev w2:=by
 obtain⟨o2,m2,V2,st,⟨a1,a2,a3,a4,a5,a6⟩|⟨a1,a2,a3⟩⟩:=h'
 ·
  have:=h.many;exact⟨o2,m2,V2,h.st.trans st,.inl ⟨a1,a2,a3,a4.trans h.waits,a5,by omega⟩⟩
 ·
  exact⟨o2,m2,V2,h.st.trans st,.inr ⟨a1,a2,by rw[<- h.waits];exact a3⟩⟩
theorem Zyw (hK:Zbp K) (h:Zc6 (K m.d V) o w mb m) (hlt:Zak o w) (hx:Zdd o w xb mb) (hk:Zan m.d V) (v lo hi:Nat) (hv:v<m.d.vars.length) (hlo:okE (Zab m.d) lo) (hhi:okE (Zab m.d) hi)
 (hgl:levN m.d v<lvE m.d.vars.length (levN m.d) (Zab m.d) lo) (hgh:levN m.d v<lvE m.d.vars.length (levN m.d) (Zab m.d) hi) :
 Calls Tryz.prog 77 #[.pointer (some ⟨xb,0,none⟩),.int .i64 v,.int .i64 lo,.int .i64 hi] w (Zck K 1 o w mb m V fun d V' r=>ef V' r=iteF v (ef V hi) (ef V lo)/\levN m.d v<=lvE m.d.vars.length (levN d) (Zab d) r):=by
 refine(Zj3 hK h hlt hx hk v lo hi hlo hhi).mono ?_;rintro e w' ⟨o',m',V',st,⟨ev,h1,_,_,_,_,rfl⟩|⟨h1,_,_,(⟨er,her,hd,_,rfl⟩|⟨_,_,r,rfl,h2,h3,h4,h5⟩)⟩⟩
 ·
  exact .inr ⟨0,true,ev,rfl,o',m',V',st,.inr ⟨rfl,rfl,h1⟩⟩
 ·
  rcases her with ⟨_,h⟩|⟨_,_,_,h⟩|⟨rfl,h⟩
  ·
   exact(h ⟨by omega,by omega⟩).elim
  ·
   simp only[Int.toNat_natCast] at h;omega
  ·
   exact .inr ⟨7,false,ev0,rfl,o',m',V',st,.inl ⟨rfl,rfl,rfl,h1,by rw[hd];exact h,by rw[hd];omega⟩⟩
 ·
  exact .inl ⟨r,o',m',V',rfl,⟨st,h1,h5⟩,h2,h3,h4⟩
theorem Zwb (hK:Zbp K) (h:Zc6 (K m.d V) o w mb m) (hlt:Zak o w) (hx:Zdd o w xb mb) (hk:Zan m.d V) (v:Nat) (hv:v<m.d.vars.length) :
 Calls Tryz.prog 77 #[.pointer (some ⟨xb,0,none⟩),.int .i64 v,.int .i64 (1:Nat),.int .i64 (0:Nat)] w (Zck K 1 o w mb m V fun _ V' r=>ef V' r=varF v):=by
 have hlv:=hk.dag.lt v hv;refine(Zyw hK h hlt hx hk v 1 0 hv (.inl rfl) (.inl rfl) (by rw[Zgb hk rfl];exact hlv) (by rw[Zgb hk rfl];exact hlv)).mono ?_;rintro e w' (⟨r,o',m',V',rfl,h1,h2,h3,_⟩|h)
 ·
  refine .inl ⟨r,o',m',V',rfl,h1,h2,?_⟩
  show ef V' r=varF v
  rw[h3];funext ρ;simp only[iteF,varF,Zhg hk.dag.one,Zj5 hk.dag.one];cases ρ v<;>rfl
 ·
  exact .inr h
theorem Zfj (hK:Zbp K) (h:Zc6 (K m.d V) o w mb m) (hlt:Zak o w) (hx:Zdd o w xb mb) (hk:Zan m.d V) (hn:m.d.vars.length=n) (f g e:Nat) (hf:okE (Zab m.d) f) (hg:okE (Zab m.d) g) (he:okE (Zab m.d) e) :
 Calls Tryz.prog 79 #[.pointer (some ⟨xb,0,none⟩),.int .i64 f,.int .i64 g,.int .i64 e] w (Zck K (2^n-1) o w mb m V fun _ V' r=>ef V' r=Zct (ef V f) (ef V g) (ef V e)):=by
 have hp2:0<2^n:=Nat.pow_pos (by omega);refine(Zlh hK n o w xb mb m V f g e h hlt hx hk hf hg he (by omega)).mono ?_;rintro x w' ⟨o',m',V',st,⟨r,rfl,h1,h2,h3⟩|⟨rfl,h2,h3,h4⟩|⟨ev,rfl,h1⟩⟩
 ·
  refine .inl ⟨r,o',m',V',rfl,⟨st,h2,by omega⟩,h1.okR,?_⟩
  show ef V' r=Zct (ef V f) (ef V g) (ef V e)
  funext ρ;rw[h1.val ρ,st.ext.ef hf,st.ext.ef hg,st.ext.ef he];rfl
 ·
  exact .inr ⟨7,false,ev0,rfl,o',m',V',st,.inl ⟨rfl,rfl,rfl,h2,h3,by omega⟩⟩
 ·
  exact .inr ⟨0,true,ev,rfl,o',m',V',st,.inr ⟨rfl,rfl,h1⟩⟩
theorem Yam {C:Nat->Prop} {B:World->Prop} {gop:Nat} {lop:Array Value} {F:BF} (ws0:List Ev) (lim:Option Nat) (hlim:Zpf ws0 lim k room) (hhap:∀ ev∈ws0,HapG K n Od room w0 mb fs nx ev)
 (hB:∀ W W',B W->(∀ c,C c->W'.heap[c]?=W.heap[c]?)->B W')
 (hop:∀ (o:Own) (W:World) (m:ManD) (V:Nat->BF) (xb:Nat),SatE K n Od room w0 mb fs nx W o m V->B W->(∀ k,C k->k<W.heap.size/\o k=none)->Zdd o W xb mb->¬ C xb->Calls Tryz.prog gop (#[.pointer (some ⟨xb,0,none⟩)]++lop) W (Zck K k o W mb m V fun _ V' r=>ef V' r=F)) :
 OpG K n Od room w0 mb fs nx C B (StL ws0 lim) gop lop (QF ws0 lim k F) (EL (SatX K n Od room w0 mb fs nx) k ws0 lim):=by
 intro o W m V xb hsat hb hC hst hcx hnx;refine(hop o W m V xb hsat hb hC hcx hnx).mono ?_;have hkeep:∀ {o':Own} {w':World} {m':ManD} {V':Nat->BF},Step K o W mb m V o' w' m' V'->B w':=fun st=>hB _ _ hb fun c hc=>st.chg.alien (hC c hc).1 (hC c hc).2
 rintro e w' (⟨r,o',m',V',rfl,h1,h2,h3⟩|⟨er,evt,ev,rfl,o',m',V',st,⟨rfl,rfl,rfl,a4,a5,a6⟩|⟨rfl,rfl,a3⟩⟩)
 ·
  exact⟨o',m',V',h1.st.toX _,hkeep h1.st,.inl ⟨r,rfl,h2,h3,by rw[h1.waits];exact hst.1,fun M e=>by have:=hst.2 M e;have:=h1.many;omega⟩⟩
 ·
  have hl0:lim=none:=Zmj (m':=m') hlim hst.2 (by rw[<- a5];omega) (by rw[st.ext.room];exact hsat.room);exact⟨o',m',V',st.toX _,hkeep st,.inr (.inl ⟨7,rfl,by omega,a4,⟨by unfold Zjx;rw[a4];exact hst.1,by subst hl0;exact fun M e=>by cases e⟩,hl0,rfl,⟨_,_,_,hsat⟩,a5,a6,by rw[a4];exact hst.1⟩)⟩
 ·
  have hst':m.waits <:+ ws0:=hst.1;rw[a3] at hst';exact⟨o',m',V',st.toX _,hkeep st,.inr (.inr ⟨ev,rfl,a3,fun _ _ _ _ _ e _ _=>⟨by unfold Zjx;rw[e];exact(List.suffix_cons ev m'.waits).trans hst',Zus hlim hst'⟩,hhap ev (hst'.subset (List.mem_cons_self ..))⟩)⟩
end
open Go.RowKit
def Zbg (A:Nat->Prop) (w:World):ExT->Value->Prop
 | .nil,_=>False
 | .mk op v n kid,x=>∃ a c,x=.agg #[.int .i64 op,.int .i64 v,.slice a n c]/\okI op/\okI v/\n<=9223372036854775807 /\
  ∀ k,k<n->∃ b off x0 x1 x2,a=some ⟨b,off,none⟩/\A b/\w.cell? ⟨b,off+k*3,none⟩=some x0/\w.cell? ⟨b,off+k*3+1,none⟩=some x1/\w.cell? ⟨b,off+k*3+2,none⟩=some x2/\Zbg A w (kid k) (.agg #[x0,x1,x2])
theorem Zbg.keep {A:Nat->Prop} {w w':World} (hk:∀ k,A k->w'.heap[k]?=w.heap[k]?):∀ (e:ExT) {x:Value},Zbg A w e x->Zbg A w' e x
 | .nil,_,h=>by unfold Zbg at h;exact h.elim
 | .mk op v n kid,x,h=>by
   unfold Zbg at h ⊢;obtain⟨a,c,h1,h2,h3,h4,h5⟩:=h;refine⟨a,c,h1,h2,h3,h4,fun k hk'=>?_⟩;obtain⟨b,off,x0,x1,x2,rfl,hb,c0,c1,c2,hx⟩:=h5 k hk';exact⟨b,off,x0,x1,x2,rfl,hb,(World.cell?_of_block (w:=w) (a:=⟨b,off+k*3,none⟩) (hk _ hb)).trans c0,(World.cell?_of_block (w:=w) (a:=⟨b,off+k*3+1,none⟩) (hk _ hb)).trans c1,(World.cell?_of_block (w:=w) (a:=⟨b,off+k*3+2,none⟩) (hk _ hb)).trans c2,Zbg.keep hk (kid k) hx⟩
theorem Zbg.at {A:Nat->Prop} {w:World}:∀ (e:ExT) {x:Value},Zbg A w e x->Zaq w e x
 | .nil,_,h=>by unfold Zbg at h;exact h.elim
 | .mk op v n kid,x,h=>by
   unfold Zbg at h;unfold Zaq;obtain⟨a,c,h1,h2,h3,h4,h5⟩:=h;refine⟨a,c,h1,h2,h3,h4,fun k hk'=>?_⟩;obtain⟨b,off,x0,x1,x2,rfl,hb,c0,c1,c2,hx⟩:=h5 k hk';exact⟨b,off,x0,x1,x2,rfl,c0,c1,c2,Zbg.at (kid k) hx⟩
def Zkz (n:Nat) (e:ExT):Prop:=Zo8 e/\∀ v∈Zbe e,v<(n:Int)
theorem Zkz.kid {n:Nat} {op v:Int} {m:Nat} {kid:Nat->ExT} (h:Zkz n (.mk op v m kid)) {i:Nat} (hi:i<m):Zkz n (kid i) :=
 ⟨h.1.2.2.2.2.2 i hi,fun x hx=>h.2 x (by unfold Zbe;exact List.mem_append_right _ (Zkg hi hx))⟩
theorem Zkz.var {n:Nat} {v:Int} {m:Nat} {kid:Nat->ExT} (h:Zkz n (.mk 3 v m kid)):0<=v/\v<(n:Int) :=
 ⟨(h.1.2.1 rfl).1,h.2 v (by unfold Zbe;simp)⟩
def Zce (n:Nat) (e:ExT):Nat:=(2*e.size-1)*(2^n-1)
def Zc5 (K:Law) (n:Nat) (e:ExT):Prop:=∀ (A:Nat->Prop) (o:Own) (w:World) (xb mb:Nat) (m:ManD) (V:Nat->BF) (x:Value),Zc6 (K m.d V) o w mb m->Zak o w->Zdd o w xb mb->Zan m.d V->m.d.vars.length=n->Zbg A w e x->(∀ k,A k->k<w.heap.size/\o k=none) ->
 Calls Tryz.prog 124 #[.pointer (some ⟨xb,0,none⟩),x] w (Zck K (Zce n e) o w mb m V fun _ V' r=>ef V' r=fnT e)
open Go.RowKit
theorem Zma (V:Nat->BF) (e:Nat):ef V (enot e)=notF (ef V e):=funext fun ρ=>Zhf V e ρ
def Zg9 (K:Law) (n:Nat) (g:Nat) (G:BF->BF->BF):Prop:=∀ (o:Own) (w:World) (xb mb:Nat) (m:ManD) (V:Nat->BF) (a b:Nat),Zc6 (K m.d V) o w mb m->Zak o w->Zdd o w xb mb->Zan m.d V->m.d.vars.length=n->okE (Zab m.d) a->okE (Zab m.d) b ->
 Calls Tryz.prog g #[.pointer (some ⟨xb,0,none⟩),.int .i64 a,.int .i64 b] w (Zck K (2^n-1) o w mb m V fun _ V' r=>ef V' r=G (ef V a) (ef V b))
section
variable {K:Law} {n:Nat}
theorem Zl7 {o:Own} {w:World} {mb:Nat} {m:ManD} {V:Nat->BF} (h:Zc6 (K m.d V) o w mb m) {e:Nat} (he:okE (Zab m.d) e):e<eMax:=by
 obtain⟨s,hs⟩:=h;obtain⟨s2,h2⟩:=hs.store;have:=h2.edge_lt he;unfold eMax;omega
theorem Yan (hK:Zbp K):Zg9 K n 91 andF:=by
 intro o w xb mb m V a b h hlt hx hk hn ha hb;have hI:=Zfj hK h hlt hx hk hn a b 1 ha hb (.inl rfl);have e:Zct (ef V a) (ef V b) (ef V 1)=andF (ef V a) (ef V b):=by
  rw[hk.dag.ef1];rfl
 rw[e] at hI;have HI:=Hd hI;clear hI e h hlt hx hk hn ha hb hK
 go_enter Tryz.func91,Tryz.ntmps91
 go_wp2_with fail;refine HI.out.mono ?_;rintro e w' (⟨r,o',m',V',rfl,h⟩|⟨er,evt,ev,rfl,h⟩)
 ·
  have HR:=Hd h;clear h HI;go_wp2_with fail;go_ret;exact .inl ⟨r,o',m',V',rfl,HR.out⟩
 ·
  have HR:=Hd h;clear h HI;unfold Zb2;go_wp2_with fail;exact⟨rfl,.inr ⟨er,evt,ev,rfl,HR.out⟩⟩
theorem Yap (hK:Zbp K):Zg9 K n 169 orF:=by
 intro o w xb mb m V a b h hlt hx hk hn ha hb;have hI:=Zfj hK h hlt hx hk hn a 0 b ha (.inl rfl) hb;have e:Zct (ef V a) (ef V 0) (ef V b)=orF (ef V a) (ef V b):=by
  rw[hk.dag.ef0];rfl
 rw[e] at hI;have HI:=Hd hI;clear hI e h hlt hx hk hn ha hb hK
 go_enter Tryz.func169,Tryz.ntmps169
 go_wp2_with fail;refine HI.out.mono ?_;rintro e w' (⟨r,o',m',V',rfl,h⟩|⟨er,evt,ev,rfl,h⟩)
 ·
  have HR:=Hd h;clear h HI;go_wp2_with fail;go_ret;exact .inl ⟨r,o',m',V',rfl,HR.out⟩
 ·
  have HR:=Hd h;clear h HI;unfold Zb2;go_wp2_with fail;exact⟨rfl,.inr ⟨er,evt,ev,rfl,HR.out⟩⟩
theorem Yaq (hK:Zbp K):Zg9 K n 170 xorF:=by
 intro o w xb mb m V a b h hlt hx hk hn ha hb;have hI:=Zfj hK h hlt hx hk hn a (enot b) b ha (Zh6 hb) hb;have e:Zct (ef V a) (ef V (enot b)) (ef V b)=xorF (ef V a) (ef V b):=by
  rw[Zma];rfl
 rw[e] at hI;have HI:=Hd hI;have HN:=Hd (Zhj b w (Zl7 h hb));clear hI e h hlt hx hk hn ha hb hK
 go_enter Tryz.func170,Tryz.ntmps170
 go_wp2_with fail;refine HN.out.mono ?_;rintro x w' ⟨rfl,rfl⟩;go_wp2_with fail;refine HI.out.mono ?_;rintro e w' (⟨r,o',m',V',rfl,h⟩|⟨er,evt,ev,rfl,h⟩)
 ·
  have HR:=Hd h;clear h HI;go_wp2_with fail;go_ret;exact .inl ⟨r,o',m',V',rfl,HR.out⟩
 ·
  have HR:=Hd h;clear h HI;unfold Zb2;go_wp2_with fail;exact⟨rfl,.inr ⟨er,evt,ev,rfl,HR.out⟩⟩
theorem Zyb (hK:Zbp K):Zg9 K n 120 impF:=by
 intro o w xb mb m V a b h hlt hx hk hn ha hb;have hI:=Zfj hK h hlt hx hk hn a b 0 ha hb (.inl rfl);have e:Zct (ef V a) (ef V b) (ef V 0)=impF (ef V a) (ef V b):=by
  rw[hk.dag.ef0];rfl
 rw[e] at hI;have HI:=Hd hI;clear hI e h hlt hx hk hn ha hb hK
 go_enter Tryz.func120,Tryz.ntmps120
 go_wp2_with fail;refine HI.out.mono ?_;rintro e w' (⟨r,o',m',V',rfl,h⟩|⟨er,evt,ev,rfl,h⟩)
 ·
  have HR:=Hd h;clear h HI;go_wp2_with fail;go_ret;exact .inl ⟨r,o',m',V',rfl,HR.out⟩
 ·
  have HR:=Hd h;clear h HI;unfold Zb2;go_wp2_with fail;exact⟨rfl,.inr ⟨er,evt,ev,rfl,HR.out⟩⟩
theorem Yao (hK:Zbp K):Zg9 K n 175 iffF:=by
 intro o w xb mb m V a b h hlt hx hk hn ha hb;have hI:=Zfj hK h hlt hx hk hn a b (enot b) ha hb (Zh6 hb);have e:Zct (ef V a) (ef V b) (ef V (enot b))=iffF (ef V a) (ef V b):=by
  rw[Zma];rfl
 rw[e] at hI;have HI:=Hd hI;have HN:=Hd (Zhj b w (Zl7 h hb));clear hI e h hlt hx hk hn ha hb hK
 go_enter Tryz.func175,Tryz.ntmps175
 go_wp2_with fail;refine HN.out.mono ?_;rintro x w' ⟨rfl,rfl⟩;go_wp2_with fail;refine HI.out.mono ?_;rintro e w' (⟨r,o',m',V',rfl,h⟩|⟨er,evt,ev,rfl,h⟩)
 ·
  have HR:=Hd h;clear h HI;go_wp2_with fail;go_ret;exact .inl ⟨r,o',m',V',rfl,HR.out⟩
 ·
  have HR:=Hd h;clear h HI;unfold Zb2;go_wp2_with fail;exact⟨rfl,.inr ⟨er,evt,ev,rfl,HR.out⟩⟩
theorem Zzr (hK:Zbp K):Zg9 K n 168 Zns:=by
 intro o w xb mb m V a b h hlt hx hk hn ha hb;have hI:=Zfj hK h hlt hx hk hn a (enot b) 1 ha (Zh6 hb) (.inl rfl);have e:Zct (ef V a) (ef V (enot b)) (ef V 1)=Zns (ef V a) (ef V b):=by
  rw[Zma,hk.dag.ef1];rfl
 rw[e] at hI;have HI:=Hd hI;have HN:=Hd (Zhj b w (Zl7 h hb));clear hI e h hlt hx hk hn ha hb hK
 go_enter Tryz.func168,Tryz.ntmps168
 go_wp2_with fail;refine HN.out.mono ?_;rintro x w' ⟨rfl,rfl⟩;go_wp2_with fail;refine HI.out.mono ?_;rintro e w' (⟨r,o',m',V',rfl,h⟩|⟨er,evt,ev,rfl,h⟩)
 ·
  have HR:=Hd h;clear h HI;go_wp2_with fail;go_ret;exact .inl ⟨r,o',m',V',rfl,HR.out⟩
 ·
  have HR:=Hd h;clear h HI;unfold Zb2;go_wp2_with fail;exact⟨rfl,.inr ⟨er,evt,ev,rfl,HR.out⟩⟩
end
open Go.RowKit
theorem Znw (args:Array Value) (w:World):(callFunc 209 args).run Tryz.prog w=.ok (.enter 209 args) w:=enters_of Tryz.func209 (by kernel_rfl) rfl args w
theorem Znx (args:Array Value) (w:World):(callFunc 160 args).run Tryz.prog w=.ok (.enter 160 args) w:=enters_of Tryz.func160 (by kernel_rfl) rfl args w
structure BoB (ba bf bb:Nat) (ka kb:Int) (g:Nat) (W:World):Prop where
 a:W.cell? ⟨ba,0,none⟩=some (.int .i64 ka)
 f:W.cell? ⟨bf,0,none⟩=some (.func (.func g) #[] #[])
 b:W.cell? ⟨bb,0,none⟩=some (.int .i64 kb)
theorem BoB.keep {ba bf bb:Nat} {ka kb:Int} {g:Nat} (W W':World) (h:BoB ba bf bb ka kb g W) (hk:∀ c,C3 ba bf bb c->W'.heap[c]?=W.heap[c]?):BoB ba bf bb ka kb g W' :=
 ⟨(World.cell?_of_block (w:=W) (a:=⟨ba,0,none⟩) (hk _ (.inl rfl))).trans h.a,(World.cell?_of_block (w:=W) (a:=⟨bf,0,none⟩) (hk _ (.inr (.inl rfl)))).trans h.f,(World.cell?_of_block (w:=W) (a:=⟨bb,0,none⟩) (hk _ (.inr (.inr rfl)))).trans h.b⟩
section
variable {K:Law} {n:Nat} {Od:List Nat->Prop} {room:Nat} {w0 w:World} {mb xb:Nat} {fs:List (Int×BF)} {nx:Int} {o:Own} {m:ManD} {V:Nat->BF}
theorem Zys {g:Nat} {G:BF->BF->BF} (hG:Zg9 K n g G) (eg:∀ args w,(callFunc g args).run Tryz.prog w=.ok (.enter g args) w) {ba bf bb:Nat} {ka kb:Int} {F1 F2:BF} (h1:(ka,F1)∈fs) (h2:(kb,F2)∈fs) (hsat:SatE K n Od room w0 mb fs nx w o m V) (hB:BoB ba bf bb ka kb g w) (hno:∀ c,C3 ba bf bb c->o c=none) (hx:Zdd o w xb mb) :
 Calls Tryz.prog 209 #[.pointer (some ⟨xb,0,none⟩),.pointer (some ⟨ba,0,none⟩),.pointer (some ⟨bf,0,none⟩),.pointer (some ⟨bb,0,none⟩)] w (Zck K (2^n-1) o w mb m V fun _ V' r=>ef V' r=G F1 F2):=by
 obtain⟨f1,hf1,e1⟩:=hsat.find h1;obtain⟨f2,hf2,e2⟩:=hsat.find h2;have hk:=hsat.ok;have hbd:Below w.heap.size w w.drew:=Zai w 1;obtain⟨s,hms⟩:=hsat.is;have hmW:=hms.below hsat.lt hbd;have hlW:=hsat.lt.mono hbd.size;have hxW:Zdd o w.drew xb mb:=⟨(hbd.cell (p:=⟨xb,0,none⟩) (Zaa hx.cell)).trans hx.cell,hx.own⟩;have ca:=hB.a;have cf:=(hbd.cell (p:=⟨bf,0,none⟩) (Zaa hB.f)).trans hB.f;have cb:=(hbd.cell (p:=⟨bb,0,none⟩) (Zaa hB.b)).trans hB.b;have HE1:=Hd (Zcs hsat.is hx hk.handles.nodup hf1);have HE2:=Hd (Zcs ⟨s,hmW⟩ hxW hk.handles.nodup hf2);have hop:=hG o w.drew xb mb m V f1 f2 ⟨s,hmW⟩ hlW hxW hk.store hsat.vars (hk.handles.ok _ hf1) (hk.handles.ok _ hf2);rw[show ef V f1=F1 from e1,show ef V f2=F2 from e2] at hop;have hat:AtC K 0 o w mb m V o w.drew m V:=(AtC.refl hsat.is hsat.lt hk.store).below hbd;obtain⟨P,hP⟩:∃ P:Ending->World->Prop,P=Zck K (2^n-1) o w mb m V fun _ V' r=>ef V' r=G F1 F2:=⟨_,rfl⟩
 have HOP:Hid (Calls Tryz.prog g #[.pointer (some ⟨xb,0,none⟩),.int .i64 f1,.int .i64 f2] w.drew fun e w'=>(∃ v,e=.returned v/\(w'.cell? ⟨bf,0,none⟩=some (.func (.func g) #[] #[])/\w'.cell? ⟨bb,0,none⟩=some (.int .i64 kb))/\P (.returned v) w')\/(∃ ch,e=.panicked ch/\P (.panicked ch) w')):=Hd (hop.mono (by
  subst hP;rintro e w' (⟨r,o',m',V',rfl,q1,q2,q3⟩|⟨er,evt,ev,rfl,q⟩)
  ·
   exact .inl ⟨_,rfl,⟨q1.st.chg.cell cf (hno bf (.inr (.inl rfl))),q1.st.chg.cell cb (hno bb (.inr (.inr rfl)))⟩,.inl ⟨r,o',m',V',rfl,(hat.trans q1).mono (by omega),q2,q3⟩⟩
  ·
   exact .inr ⟨_,rfl,.inr ⟨er,evt,ev,rfl,q.after hat (by omega)⟩⟩))
 rw[<- hP];clear hG h1 h2 hsat hB hx hno hf1 hf2 e1 e2 hk hbd hms hmW hlW hxW hop hat hP
 go_enter Tryz.func209,Tryz.ntmps209
 go_wp2_with fail;refine HE1.out.mono ?_;rintro x w' ⟨rfl,rfl⟩;go_upto_region 2 with fail;refine Zcz (fun W:World=>W.cell? ⟨bf,0,none⟩=some (.func (.func g) #[] #[])/\W.cell? ⟨bb,0,none⟩=some (.int .i64 kb)) (fun ch w'=>P (.panicked ch) w') 8 (fun c a w hd h=>⟨hd,h⟩) (by kernel_rfl) ⟨cf,cb⟩ ?_;refine Zav 0 rfl rfl (by kernel_rfl) ?_;apply Exists.intro;refine⟨fun w' hw=>?_,?_⟩
 ·
  obtain⟨q1,q2⟩:=hw;go_simp;rfl
 simp only[Zah];refine Zav 1 rfl rfl (by kernel_rfl) ?_;apply Exists.intro;refine⟨fun w' hw=>?_,?_⟩
 ·
  obtain⟨q1,q2⟩:=hw;go_simp;rfl
 simp only[Zah];refine Zav 2 rfl rfl (by kernel_rfl) ?_;apply Exists.intro;refine⟨fun w' hw=>?_,?_⟩
 ·
  obtain⟨q1,q2⟩:=hw;go_simp;rfl
 simp only[Zah];refine Zav 3 rfl rfl (by kernel_rfl) ?_;apply Exists.intro;refine⟨fun w' hw=>?_,?_⟩
 ·
  obtain⟨q1,q2⟩:=hw;go_simp;rfl
 simp only[Zah];refine Zav 4 rfl rfl (by kernel_rfl) ?_;apply Exists.intro;refine⟨fun w' hw=>?_,?_⟩
 ·
  obtain⟨q1,q2⟩:=hw;go_simp;rfl
 simp only[Zah];refine Zb5 [5] (by kernel_rfl) (fun i hi hS o ho=>?_);simp only[Za6] at hi;subst hi;simp only[Za1] at ho;subst ho;refine⟨rfl,?_⟩;refine Zat (v:=.int .i64 (f2:Nat)) (R:=fun w'=>w.drew=w') (by go_simp) HE2.out ?_;rintro w' rfl;refine⟨⟨cf,cb⟩,?_⟩;simp only[Zah];refine Zb5 [6] (by kernel_rfl) (fun i hi hS o ho=>?_);simp only[Za6] at hi;subst hi;simp only[Za1] at ho;subst ho;refine⟨rfl,?_⟩;refine Zfa (R:=fun v w'=>(w'.cell? ⟨bf,0,none⟩=some (.func (.func g) #[] #[])/\w'.cell? ⟨bb,0,none⟩=some (.int .i64 kb))/\P (.returned v) w') (R2:=fun ch w'=>P (.panicked ch) w') (by go_simp) HOP.out ?_ ?_
 ·
  rintro v w' ⟨hS,hst⟩;refine⟨hS,?_⟩;have HST:=Hd hst;clear hst;simp only[Zah];refine Zav 7 rfl rfl (by kernel_rfl) ?_;apply Exists.intro;refine⟨fun w' hw=>?_,?_⟩
  ·
   obtain⟨q1,q2⟩:=hw;go_simp;rfl
  simp only[Zah];refine Zga (by kernel_rfl) ?_;clear hS cf cb ca;go_wp2_with fail;exact HST.out
 ·
  intro ch w' hst;exact⟨rfl,hst⟩
def Zim (G:BF->BF->BF) (C:BF) (Fs:List BF):BF:=Fs.foldl G C
theorem Zrz (G:BF->BF->BF) (C:BF) {Fs:List BF} {i:Nat} (hi:i<Fs.length):Zim G C (Fs.take (i+1))=G (Zim G C (Fs.take i)) Fs[i]:=by
 unfold Zim;rw[List.take_succ_eq_append_getElem hi,List.foldl_append];rfl
structure BoF (b1 bl bf:Nat) (e0:Nat) (a:Option Addr) (c:Nat) (ks:List Int) (g:Nat) (W:World):Prop where
 e:W.cell? ⟨b1,0,none⟩=some (.int .i64 e0)
 l:W.cell? ⟨bl,0,none⟩=some (.slice a ks.length c)
 f:W.cell? ⟨bf,0,none⟩=some (.func (.func g) #[] #[])
 z:Za4 W a ks
theorem Zy7 {g:Nat} {G:BF->BF->BF} (hG:Zg9 K n g G) (eg:∀ args w,(callFunc g args).run Tryz.prog w=.ok (.enter g args) w) {b1 bl bf e0 c:Nat} {a:Option Addr} {ks:List Int} {Fs:List BF} (he0:e0/2=0) (hlen:Fs.length=ks.length) (hks:∀ i (h:i<ks.length),(ks[i],Fs[i]'(by omega))∈fs) (hsat:SatE K n Od room w0 mb fs nx w o m V) (hB:BoF b1 bl bf e0 a c ks g w) (hno:∀ k,(k=b1\/k=bl\/k=bf\/∃ x,a=some x/\k=x.block)->o k=none) (hx:Zdd o w xb mb) :
 Calls Tryz.prog 160 #[.pointer (some ⟨xb,0,none⟩),.pointer (some ⟨b1,0,none⟩),.pointer (some ⟨bl,0,none⟩),.pointer (some ⟨bf,0,none⟩)] w (Zck K (ks.length*(2^n-1)) o w mb m V fun _ V' r=>ef V' r=Zim G (ef V e0) Fs):=by
 have hk:=hsat.ok;have ce:=hB.e;have cl:=hB.l;have HB:=Hd hB;have HNO:=Hd hno;have hzl:=hB.z.len;obtain⟨I,hI⟩:∃ I:Nat->Nat->World->Prop,I=fun i r wr=>∃ o' m' V',AtC K (i*(2^n-1)) o w mb m V o' wr m' V'/\okE (Zab m'.d) r/\ef V' r=Zim G (ef V e0) (Fs.take i):=⟨_,rfl⟩
 have HI0:Hid (I 0 e0 w):=by rw[hI];exact Hd ⟨o,m,V,(AtC.refl hsat.is hsat.lt hk.store).mono (by omega),.inl he0,rfl⟩
 have HICELL:Hid (∀ i r wr,I i r wr->∀ p v,w.cell? p=some v->o p.block=none->wr.cell? p=some v):=by rw[hI];exact Hd fun i r wr ⟨o',m',V',h,_⟩ p v hc ho=>h.st.chg.cell hc ho
 obtain⟨P,hP⟩:∃ P:Ending->World->Prop,P=Zck K (ks.length*(2^n-1)) o w mb m V fun _ V' r=>ef V' r=Zim G (ef V e0) Fs:=⟨_,rfl⟩
 have HFIN:Hid (∀ r wr,I ks.length r wr->P (.returned (.int .i64 (r:Nat))) wr):=by
  rw[hI,hP];exact Hd fun r wr ⟨o',m',V',h,h2,h3⟩=>.inl ⟨r,o',m',V',rfl,h,h2,by rw[<- hlen,List.take_length] at h3;exact h3⟩
 have HSTEP:Hid (∀ i r wr,i<ks.length->I i r wr->∃ f,(Calls Tryz.prog 81 #[.pointer (some ⟨xb,0,none⟩),.int .i64 (at0 ks i)] wr.drew fun x w'=>x=.returned (.int .i64 (f:Nat))/\wr.drew=w') /\
  Calls Tryz.prog g #[.pointer (some ⟨xb,0,none⟩),.int .i64 (r:Nat),.int .i64 (f:Nat)] wr.drew fun e w'=>(∃ v,e=.returned v/\(w'.cell? ⟨bf,0,none⟩=some (.func (.func g) #[] #[])/\True)/\∃ r':Nat,v=.int .i64 r'/\I (i+1) r' w')\/(∃ ch,e=.panicked ch/\P (.panicked ch) w')):=by
  rw[hI,hP];refine Hd fun i r wr hi ⟨o',m',V',h,h2,h3⟩=>?_
  have hmem:=hks i hi;obtain⟨f,hf,e1⟩:=hsat.find hmem;have hbd:Below wr.heap.size wr wr.drew:=Zai wr 1;have hd:=h.below hbd;have hx':=hx.chg hd.st.chg;have hf':(ks[i],f)∈m'.hs:=by rw[hd.st.hs];exact hf
  have hfo:okE (Zab m'.d) f:=hd.st.ext.ok (hk.handles.ok _ hf);refine⟨f,by rw[Zcb hi];exact Zcs hd.st.is hx' (by rw[hd.st.hs];exact hk.handles.nodup) hf',?_⟩;refine(hG o' wr.drew xb mb m' V' r f hd.st.is hd.st.lt hx' hd.st.ok (hd.vars hsat.vars) h2 hfo).mono ?_;rintro e w' (⟨r',o2,m2,V2,rfl,q1,q2,q3⟩|⟨er,evt,ev,rfl,q⟩)
  ·
   have hq:=hd.trans q1;refine .inl ⟨_,rfl,⟨hq.st.chg.cell HB.out.f (HNO.out bf (.inr (.inr (.inl rfl)))),trivial⟩,r',rfl,o2,m2,V2,hq.mono (by rw[Nat.succ_mul];exact Nat.le_refl _),q2,?_⟩;have hef:ef V' f=Fs[i]'(by omega):=(hd.st.ext.ef (hk.handles.ok _ hf)).trans e1;rw[Zrz G _ (by omega),q3,h3,hef]
  ·
   refine .inr ⟨_,rfl,.inr ⟨er,evt,ev,rfl,q.after hd ?_⟩⟩;have:=Nat.mul_le_mul_right (2^n-1) (show i+1<=ks.length by omega);rw[Nat.succ_mul] at this;exact this
 rw[<- hP];clear hI hP hG hsat hB hno hx hk hks
 go_enter Tryz.func160,Tryz.ntmps160
 go_wp2_with fail
 go_loopw [6,8,12] (fun s6 _ s12 wr=>∃ (i r:Nat),i<=ks.length/\s12=.int .i64 i/\s6=.int .i64 r/\Hid (I i r wr)) (fun _ _ s12 _=>ks.length-(intOf s12).toNat)
 case atStart=>exact⟨0,e0,Nat.zero_le _,rfl,rfl,HI0⟩
 case round =>
  obtain⟨i,r,hi,rfl,rfl,HI⟩:=hrel
  by_cases hlt:i<ks.length
  ·
   have hiz:(i:Int)<(ks.length:Int):=by omega
   obtain⟨f,hE,hS⟩:=HSTEP.out i r _ hlt HI.out;obtain⟨b,off,rfl,ck⟩:=HB.out.z.cells i hlt;have ck1:=HICELL.out _ _ _ HI.out _ _ ck (HNO.out b (.inr (.inr (.inr ⟨_,rfl,rfl⟩))));have cf1:=HICELL.out _ _ _ HI.out _ _ HB.out.f (HNO.out bf (.inr (.inr (.inl rfl))));have hbd:Below wr.heap.size wr wr.drew:=Zai wr 1;have cf2:=(hbd.cell (p:=⟨bf,0,none⟩) (Zaa cf1)).trans cf1;have HE:=Hd hE;have HS:=Hd hS;clear hE hS hbd cf1 ck ce cl HI0 HSTEP HFIN HI;go_upto_region 5 with fail;refine Zcz (fun W:World=>W.cell? ⟨bf,0,none⟩=some (.func (.func g) #[] #[])/\True) (fun ch w'=>P (.panicked ch) w') 8 (fun c a w hd h=>⟨hd,h⟩) (by kernel_rfl) ⟨cf2,trivial⟩ ?_;refine Zav 0 rfl rfl (by kernel_rfl) ?_;apply Exists.intro;refine⟨fun w' hw=>?_,?_⟩
   ·
    obtain⟨q1,q2⟩:=hw;go_simp;rfl
   simp only[Zah];refine Zav 1 rfl rfl (by kernel_rfl) ?_;apply Exists.intro;refine⟨fun w' hw=>?_,?_⟩
   ·
    obtain⟨q1,q2⟩:=hw;go_simp;rfl
   simp only[Zah];refine Zav 2 rfl rfl (by kernel_rfl) ?_;apply Exists.intro;refine⟨fun w' hw=>?_,?_⟩
   ·
    obtain⟨q1,q2⟩:=hw;go_simp;rfl
   simp only[Zah];refine Zav 3 rfl rfl (by kernel_rfl) ?_;apply Exists.intro;refine⟨fun w' hw=>?_,?_⟩
   ·
    obtain⟨q1,q2⟩:=hw;go_simp;rfl
   simp only[Zah];refine Zav 4 rfl rfl (by kernel_rfl) ?_;apply Exists.intro;refine⟨fun w' hw=>?_,?_⟩
   ·
    obtain⟨q1,q2⟩:=hw;go_simp;rfl
   simp only[Zah];refine Zb5 [5] (by kernel_rfl) (fun i hi hS o ho=>?_);simp only[Za6] at hi;subst hi;simp only[Za1] at ho;subst ho;refine⟨rfl,?_⟩;refine Zat (v:=.int .i64 (f:Nat)) (R:=fun w'=>wr.drew=w') (by go_simp) HE.out ?_;rintro w' rfl;refine⟨⟨cf2,trivial⟩,?_⟩;simp only[Zah];refine Zb5 [6] (by kernel_rfl) (fun i hi hS o ho=>?_);simp only[Za6] at hi;subst hi;simp only[Za1] at ho;subst ho;refine⟨rfl,?_⟩;refine Zfa (R:=fun v w'=>(w'.cell? ⟨bf,0,none⟩=some (.func (.func g) #[] #[])/\True)/\∃ r':Nat,v=.int .i64 r'/\I (i+1) r' w') (R2:=fun ch w'=>P (.panicked ch) w') (by go_simp) HS.out ?_ ?_
   ·
    rintro v w' ⟨hS,r',rfl,hst⟩;refine⟨hS,?_⟩;have HST:=Hd hst;clear hst;simp only[Zah];refine Zav 7 rfl rfl (by kernel_rfl) ?_;apply Exists.intro;refine⟨fun w' hw=>?_,?_⟩
    ·
     obtain⟨q1,q2⟩:=hw;go_simp;rfl
    simp only[Zah];refine Zga (by kernel_rfl) ?_;clear hS cf2 ck1;go_wp2_with fail;go_roundw
    case rel=>exact⟨i+1,r',by omega,by go_num,rfl,HST⟩
    case measure=>simp[intOf];omega
   ·
    intro ch w' hst;exact⟨rfl,hst⟩
  ·
   obtain rfl:i=ks.length:=by omega
   have hiz:¬ (ks.length:Int)<(ks.length:Int):=by omega
   have HF:=Hd (HFIN.out r _ HI.out);clear HI0 HSTEP HFIN HI ce cl;go_wp2_with fail;exact HF.out
end
open Go.RowKit
section
variable {K:Law} {n k:Nat} {room:Nat} {w0 w w1:World} {mb:Nat} {fs:List (Int×BF)} {nx:Int} {o:Own} {m:ManD} {V:Nat->BF}
def NewF (K:Law) (n room:Nat) (w0:World) (mb:Nat) (fs:List (Int×BF)) (nx:Int) (ws0:List Ev) (F:BF) (o:Own) (w:World) (x:Ending) (w':World):Prop :=
 x=.returned (.tuple #[.int .i64 nx,.int .i64 0])/\∃ o' m' V',ChgX NoB o o' w w'/\m'.waits <:+ ws0/\SatE K n (fun _=>True) room w0 mb (fs++[(nx,F)]) (nx+1) w' o' m' V'
theorem Ztx {C:Nat->Prop} {B:World->Prop} {gop:Nat} {lop:Array Value} {F:BF} (hK:Zbp K) (eg:∀ args w,(callFunc gop args).run Tryz.prog w=.ok (.enter gop args) w) (ws0:List Ev)
 (hB:∀ W W',B W->(∀ c,C c->W'.heap[c]?=W.heap[c]?)->B W')
 (hop:∀ (o:Own) (W:World) (m:ManD) (V:Nat->BF) (xb:Nat),SatE K n (fun _=>True) room w0 mb fs nx W o m V->B W->(∀ k,C k->k<W.heap.size/\o k=none)->Zdd o W xb mb->¬ C xb->Calls Tryz.prog gop (#[.pointer (some ⟨xb,0,none⟩)]++lop) W (Zck K k o W mb m V fun _ V' r=>ef V' r=F))
 (h:SatE K n (fun _=>True) room w0 mb fs nx w o m V) (hb1:Below w.heap.size w w1) (hC:∀ c,C c->c<w1.heap.size/\(w.heap.size<=c\/(w0.heap.size<=c/\o c=none/\∀ W,B W->W.heap[c]?=w.heap[c]?))) (hb:B w1) (hst:m.waits <:+ ws0) (hn:nx<=549755813888) (hr:fs.length*2^n+k<=room) :
 Calls Tryz.prog 75 #[.pointer (some ⟨mb,0,none⟩),.func (.func gop) #[] lop] w1 (NewF K n room w0 mb fs nx ws0 F o w):=by
 have hw0:=h.chg.size;have hnone:∀ c,C c->o c=none:=fun c hc=>by
  rcases(hC c hc).2 with h1|⟨_,h1,_⟩
  ·
   exact h.lt.none h1
  ·
   exact h1
 refine(Ztw hK hB (fun _ _ _ _ _ h _=>h) StL.coll (fun c hc=>by
  rcases(hC c hc).2 with h1|⟨h1,_,_⟩
  ·
   exact Nat.le_trans hw0 h1
  ·
   exact h1) eg (Yam (k:=k) (F:=F) ws0 none (fun _ e=>by cases e) (fun ev _=>Zin hn ev) hB hop) (h.below hb1) hb (fun c hc=>⟨(hC c hc).1,hnone c hc⟩) ⟨hst,fun _ e=>by cases e⟩ (by omega)).mono ?_
 rintro x w' ⟨o',m',V',hB',hc,⟨r,m1,rfl,hs,⟨q1,q2,_⟩,_,_,_,_,_,q3,_⟩|⟨er,m0,_,_,hsf,⟨_,e7,⟨W',oo,VV,hs'⟩,h5,h6,_⟩,h7⟩⟩
 ·
  refine⟨rfl,o',m',V',⟨hc.os.trans hb1.os,hc.tape.trans hb1.tape,hc.output.trans hb1.output,Nat.le_trans hb1.size hc.size,fun j hj ho _=>?_,hc.ext,fun j hj=>Nat.le_trans hb1.size (hc.new j hj)⟩,by rw[q3];exact q2,by rw[<- q1];exact hs⟩
  by_cases hcj:C j
  ·
   rcases(hC j hcj).2 with h1|⟨_,_,h1⟩
   ·
    omega
   ·
    exact h1 w' hB'
  ·
   exact(hc.block j (Nat.lt_of_lt_of_le hj hb1.size) ho hcj).trans (hb1.block j hj)
 ·
  exfalso;have h8:=hs'.few (h7 e7);have h9:=hsf.room;omega
end
open Go.RowKit
theorem Zrs (args:Array Value) (w:World):(callFunc 91 args).run Tryz.prog w=.ok (.enter 91 args) w:=enters_of Tryz.func91 (by kernel_rfl) rfl args w
theorem Zny (args:Array Value) (w:World):(callFunc 169 args).run Tryz.prog w=.ok (.enter 169 args) w:=enters_of Tryz.func169 (by kernel_rfl) rfl args w
theorem Zrx (args:Array Value) (w:World):(callFunc 170 args).run Tryz.prog w=.ok (.enter 170 args) w:=enters_of Tryz.func170 (by kernel_rfl) rfl args w
theorem Zru (args:Array Value) (w:World):(callFunc 120 args).run Tryz.prog w=.ok (.enter 120 args) w:=enters_of Tryz.func120 (by kernel_rfl) rfl args w
theorem Zpp (args:Array Value) (w:World):(callFunc 168 args).run Tryz.prog w=.ok (.enter 168 args) w:=enters_of Tryz.func168 (by kernel_rfl) rfl args w
theorem boxes3v (w:World) (x y z:Value) (s t u:TypeId):∃ w3,w3=((w.alloc (.cells #[x] s)).alloc (.cells #[y] t)).alloc (.cells #[z] u)/\Below w.heap.size w w3/\w3.heap.size=w.heap.size+3/\w3.cell? ⟨w.heap.size,0,none⟩=some x/\w3.cell? ⟨w.heap.size+1,0,none⟩=some y/\w3.cell? ⟨w.heap.size+1+1,0,none⟩=some z:=by
 refine⟨_,rfl,((Zad _ _).alloc (by simp) _).alloc (by simp;omega) _,by simp,?_,?_,?_⟩
 ·
  exact cell1 ((Go.heap_alloc_old _ _ (by simp;omega)).trans ((Go.heap_alloc_old _ _ (by simp)).trans (heap_alloc_new _ _)))
 ·
  have:=heap_alloc_new (w.alloc (.cells #[x] s)) (.cells #[y] t);rw[World.size_alloc] at this;exact cell1 ((Go.heap_alloc_old _ _ (by simp)).trans this)
 ·
  have:=heap_alloc_new ((w.alloc (.cells #[x] s)).alloc (.cells #[y] t)) (.cells #[z] u);rw[World.size_alloc,World.size_alloc] at this;exact cell1 this
def Zd7 (e0:Nat):BF:=fun _=>decide (e0=0)
theorem Zht {d:Zag} {V:Nat->BF} (hk:Zan d V) {e0:Nat} (h:e0/2=0):ef V e0=Zd7 e0:=by
 rcases(show e0=0\/e0=1 by omega) with rfl|rfl
 ·
  rw[hk.dag.ef0];rfl
 ·
  rw[hk.dag.ef1];rfl
section
variable {K:Law} {n:Nat} {room:Nat} {w0 w:World} {mb:Nat} {fs:List (Int×BF)} {nx:Int} {o:Own} {m:ManD} {V:Nat->BF} {ws0:List Ev}
theorem Zv6 (hK:Zbp K) {g:Nat} {G:BF->BF->BF} (hG:Zg9 K n g G) (eg:∀ args w,(callFunc g args).run Tryz.prog w=.ok (.enter g args) w) (h:SatE K n (fun _=>True) room w0 mb fs nx w o m V) {ka kb:Int} {F1 F2:BF} (h1:(ka,F1)∈fs) (h2:(kb,F2)∈fs) (hst:m.waits <:+ ws0) (hn:nx<=549755813888) (hr:fs.length*2^n+(2^n-1)<=room) :
 Calls Tryz.prog 167 #[.pointer (some ⟨mb,0,none⟩),.func (.func g) #[] #[],.int .i64 ka,.int .i64 kb] w (NewF K n room w0 mb fs nx ws0 (G F1 F2) o w):=by
 have hmf:∀ (fn:Fn) (first cap:Array Value) (w:World),(Instr.makeFunc fn first cap).run Tryz.prog w=.ok (.func fn first cap) w:=fun _ _ _ _=>rfl
 obtain⟨w3,hw3,hb3,hz3,c0,c1,c2⟩:=boxes3v w (.func (.func g) #[] #[]) (.int .i64 ka) (.int .i64 kb) 189 3 3;have HW3:Hid (_=w3):=Hd hw3.symm
 have HDO:=Hd (Ztx (C:=C3 (w.heap.size+1) w.heap.size (w.heap.size+1+1)) (B:=BoB (w.heap.size+1) w.heap.size (w.heap.size+1+1) ka kb g) (F:=G F1 F2) (k:=2^n-1) (lop:=#[.pointer (some ⟨w.heap.size+1,0,none⟩),.pointer (some ⟨w.heap.size,0,none⟩),.pointer (some ⟨w.heap.size+1+1,0,none⟩)]) hK Znw ws0 BoB.keep
  (fun o W m V xb hs hB hC hx _=>Zys hG eg h1 h2 hs hB (fun c hc=>(hC c hc).2) hx) h hb3 (by rintro c (rfl|rfl|rfl)<;>exact⟨by omega,.inl (by omega)⟩) ⟨c1,c0,c2⟩ hst hn hr)
 clear hw3 hb3 hz3 c0 c1 c2 h hK hG hst hn hr h1 h2;obtain⟨P,hP⟩:∃ P,P=NewF K n room w0 mb fs nx ws0 (G F1 F2) o w:=⟨_,rfl⟩;rw[<- hP] at HDO ⊢;have HT:Hid (∀ x w',P x w'->∃ a b,x=.returned (.tuple #[.int .i64 a,.int .i64 b])):=Hd (by subst hP;rintro x w' ⟨rfl,_⟩;exact⟨_,_,rfl⟩);clear hP
 go_enter Tryz.func167,Tryz.ntmps167
 go_upto_region 1 with fail;rw[HW3.out];go_wp2_with fail;refine HDO.out.mono ?_;intro x w' hd;obtain⟨a,b,rfl⟩:=HT.out x w' hd;have HD:=Hd hd;clear hd;go_wp2_with fail;exact HD.out
theorem Zwk (hK:Zbp K) {g:Nat} {G:BF->BF->BF} (hG:Zg9 K n g G) (eg:∀ args w,(callFunc g args).run Tryz.prog w=.ok (.enter g args) w) (h:SatE K n (fun _=>True) room w0 mb fs nx w o m V) {e0 c:Nat} {a:Option Addr} {ks:List Int} {Fs:List BF} (he0:e0/2=0) (hz:Za4 w a ks) (ha:∀ x,a=some x->x.block<w.heap.size/\w0.heap.size<=x.block/\o x.block=none) (hlen:Fs.length=ks.length) (hks:∀ i (h:i<ks.length),(ks[i],Fs[i]'(by omega))∈fs) (hst:m.waits <:+ ws0) (hn:nx<=549755813888) (hr:fs.length*2^n+ks.length*(2^n-1)<=room) :
 Calls Tryz.prog 90 #[.pointer (some ⟨mb,0,none⟩),.int .i64 e0,.func (.func g) #[] #[],.slice a ks.length c] w (NewF K n room w0 mb fs nx ws0 (Zim G (Zd7 e0) Fs) o w):=by
 have hmf:∀ (fn:Fn) (first cap:Array Value) (w:World),(Instr.makeFunc fn first cap).run Tryz.prog w=.ok (.func fn first cap) w:=fun _ _ _ _=>rfl
 obtain⟨w3,hw3,hb3,hz3,c0,c1,c2⟩:=boxes3v w (.int .i64 e0) (.func (.func g) #[] #[]) (.slice a ks.length c) 116 189 22;have HW3:Hid (_=w3):=Hd hw3.symm
 have HDO:=Hd (Ztx (C:=fun k=>k=w.heap.size\/k=w.heap.size+1+1\/k=w.heap.size+1\/∃ x,a=some x/\k=x.block) (B:=fun W=>BoF w.heap.size (w.heap.size+1+1) (w.heap.size+1) e0 a c ks g W/\∀ x,a=some x->W.heap[x.block]?=w.heap[x.block]?) (F:=Zim G (Zd7 e0) Fs) (k:=ks.length*(2^n-1)) (lop:=#[.pointer (some ⟨w.heap.size,0,none⟩),.pointer (some ⟨w.heap.size+1+1,0,none⟩),.pointer (some ⟨w.heap.size+1,0,none⟩)]) hK Znx ws0
  (fun W W' hB hk=>⟨⟨(World.cell?_of_block (w:=W) (a:=⟨w.heap.size,0,none⟩) (hk _ (.inl rfl))).trans hB.1.e,(World.cell?_of_block (w:=W) (a:=⟨w.heap.size+1+1,0,none⟩) (hk _ (.inr (.inl rfl)))).trans hB.1.l,(World.cell?_of_block (w:=W) (a:=⟨w.heap.size+1,0,none⟩) (hk _ (.inr (.inr (.inl rfl))))).trans hB.1.f,⟨hB.1.z.len,fun i hi=>by
   obtain⟨b,off,e,hc⟩:=hB.1.z.cells i hi;exact⟨b,off,e,(World.cell?_of_block (w:=W) (a:=⟨b,off+i,none⟩) (hk _ (.inr (.inr (.inr ⟨_,e,rfl⟩))))).trans hc⟩⟩⟩,fun x hx=>(hk _ (.inr (.inr (.inr ⟨x,hx,rfl⟩)))).trans (hB.2 x hx)⟩)
  (fun o W m V xb hs hB hC hx _=>by
   have:=Zy7 hG eg he0 hlen hks hs hB.1 (fun k hk=>(hC k hk).2) hx;rw[Zht hs.ok.store he0] at this;exact this) h hb3 (by
   rintro k (rfl|rfl|rfl|⟨x,hx,rfl⟩)
   ·
    exact⟨by omega,.inl (by omega)⟩
   ·
    exact⟨by omega,.inl (by omega)⟩
   ·
    exact⟨by omega,.inl (by omega)⟩
   ·
    have:=ha x hx;exact⟨by omega,.inr ⟨this.2.1,this.2.2,fun W hW=>hW.2 x hx⟩⟩) ⟨⟨c0,c2,c1,hz.below hb3⟩,fun x hx=>hb3.block _ (ha x hx).1⟩ hst hn hr)
 clear hw3 hb3 hz3 c0 c1 c2 h hK hG hst hn hr hz ha hks;obtain⟨P,hP⟩:∃ P,P=NewF K n room w0 mb fs nx ws0 (Zim G (Zd7 e0) Fs) o w:=⟨_,rfl⟩;rw[<- hP] at HDO ⊢;have HT:Hid (∀ x w',P x w'->∃ a b,x=.returned (.tuple #[.int .i64 a,.int .i64 b])):=Hd (by subst hP;rintro x w' ⟨rfl,_⟩;exact⟨_,_,rfl⟩);clear hP
 go_enter Tryz.func90,Tryz.ntmps90
 go_upto_region 1 with fail;rw[HW3.out];go_wp2_with fail;refine HDO.out.mono ?_;intro x w' hd;obtain⟨a,b,rfl⟩:=HT.out x w' hd;have HD:=Hd hd;clear hd;go_wp2_with fail;exact HD.out
end
open Go.RowKit
theorem Chg.none' {R:Role->Prop} {o o':Own} {w w':World} (h:Chg R o o' w w') {k:Nat} (hk:k<w.heap.size) (ho:o k=none):o' k=none:=(ChgX.of_chg h NoB).none' hk ho
def Zb8 (T:Nat->Prop) (w W:World):Prop:=∀ p u,T p.block->w.cell? p=some u->W.cell? p=some u
section
variable {K:Law} {k k1 k2:Nat} {w W w':World} {mb:Nat} {o o':Own} {m m':ManD} {V V':Nat->BF} {T:Nat->Prop}
theorem Zb8.refl (T:Nat->Prop) (w:World):Zb8 T w w:=fun _ _ _ h=>h
theorem Zb8.trans (h:Zb8 T w W) (h':Zb8 T W w'):Zb8 T w w':=fun p u hp hc=>h' p u hp (h p u hp hc)
theorem Zb8.step (h:Step K o w mb m V o' w' m' V') (hT:∀ k,T k->o k=none):Zb8 T w w':=fun _ _ hp hc=>h.chg.cell hc (hT _ hp)
theorem Zl3 {f:Nat} {args:Array Value} {A A':Zag->(Nat->BF)->Nat->Prop} (h:AtC K k1 o w mb m V o' W m' V') (hc:Calls Tryz.prog f args W (Zck K k2 o' W mb m' V' A)) (hk:k1+k2<=k) (hT:∀ k,T k->o' k=none) :
 Calls Tryz.prog f args W fun e w'=>(∃ v,e=.returned v/\Zb8 T W w'/\∃ (r:Nat) (o2:Own) (m2:ManD) (V2:Nat->BF),v=.int .i64 r/\AtC K (k1+k2) o w mb m V o2 w' m2 V2/\Step K o' W mb m' V' o2 w' m2 V2/\okE (Zab m2.d) r/\A m2.d V2 r)\/(∃ ch,e=.panicked ch/\Zck K k o w mb m V A' (.panicked ch) w'):=by
 refine hc.mono ?_;rintro e w' (⟨r,o2,m2,V2,rfl,q1,q2,q3⟩|⟨er,evt,ev,rfl,q⟩)
 ·
  exact .inl ⟨_,rfl,Zb8.step q1.st hT,r,o2,m2,V2,rfl,h.trans q1,q1.st,q2,q3⟩
 ·
  exact .inr ⟨_,rfl,.inr ⟨er,evt,ev,rfl,q.after h hk⟩⟩
theorem Zck.base {A:Zag->(Nat->BF)->Nat->Prop} {e:Ending} (h:AtC K k1 o w mb m V o' W m' V') (hk:k1+k2<=k) (hc:Zck K k2 o' W mb m' V' A e w'):Zck K k o w mb m V A e w':=by
 rcases hc with ⟨r,o2,m2,V2,rfl,q1,q2,q3⟩|⟨er,evt,ev,rfl,q⟩
 ·
  exact .inl ⟨r,o2,m2,V2,rfl,(h.trans q1).mono hk,q2,q3⟩
 ·
  exact .inr ⟨er,evt,ev,rfl,q.after h hk⟩
theorem Zck.kind {A:Zag->(Nat->BF)->Nat->Prop} {e:Ending} (hc:Zck K k o w mb m V A e w'):(∃ r:Nat,e=.returned (.int .i64 r))\/∃ er evt ev,e=Zb2 er evt ev:=by
 rcases hc with ⟨r,_,_,_,rfl,_⟩|⟨er,evt,ev,rfl,_⟩
 ·
  exact .inl ⟨r,rfl⟩
 ·
  exact .inr ⟨er,evt,ev,rfl⟩
end
open Go.RowKit
section
variable {P:Program} {S:World->Prop} {Q:Exit->Act->World->Prop} {R:List PanicEntry->World->Prop}
def Nx (_:List Nat) (P:Program) (l:List Oper) (Q:Exit->Act->World->Prop) (R:List PanicEntry->World->Prop) (S:World->Prop) (f:Nat) (L:Array Bool) (a:Act) (w:World):Prop:=Zlz P l Q R S l.length f L a w
theorem Zh5 (pl:List Nat) {id:Nat} {a:Act} {w:World} {l:List Oper} (S:World->Prop) (R:List PanicEntry->World->Prop) (hR:∀ c (a:Act) w,a.defers=[]->R c w->Q (.panic c) a w) (hm:P.follows .mixedOrders=true) (hS:S w.drew)
 (h:Nx pl P l Q R S l.length (Array.replicate l.toArray.size false) a w.drew):(Code.region id l.toArray true).wp P Q a w:=Zcz S R l.length hR hm hS h
theorem Ze3 {i:Nat} {pl:List Nat} {l:List Oper} {f:Nat} {L:Array Bool} {a:Act} {w:World} {o:Oper} (hi:l[i]?=some o) (hg:o.guard=none)
 (hB:(Region.noSelect l.toArray&&(Region.ready .any l.toArray L).contains i&&Region.free .any l.toArray L i)=true)
 (h:∃ v,(∀ w,S w->(execOp a.eval o).run P w=.ok (.value v) w)/\Nx pl P l Q R S f (L.setIfInBounds i true) (a.put o.dst v) w):Nx (i::pl) P l Q R S (f+1) L a w :=
 Zav _ hi hg (by rw[hB];simp) h
theorem Zdo {i:Nat} {pl:List Nat} {l:List Oper} {f:Nat} {L:Array Bool} {a:Act} {w:World} {o:Oper} {g:FuncId} {args:Array Value} {R1:Value->World->Prop} (hi:l[i]?=some o) (hr:decide (Region.ready .any l.toArray L=[i])=true)
 (hg:Region.wanted o (yielded l.toArray a.tmps)=true) (hd:a.defers=[]) (he:(execOp a.eval o).run P w=.ok (.enter g args) w)
 (hc:Calls P g args w fun e w'=>(∃ v,e=.returned v/\S w'/\R1 v w')\/(∃ ch,e=.panicked ch/\R ch w'))
 (h:∀ v w',S w'->R1 v w'->Nx pl P l Q R S f (L.setIfInBounds i true) (a.put o.dst v) w'):Nx (i::pl) P l Q R S (f+1) L a w:=by
 refine Zb5 [i] (by rw[Bool.and_eq_true];exact⟨hr,rfl⟩) fun j hi2 hS o2 ho2=>?_
 rw[List.mem_singleton] at hi2;subst hi2;rw[hi] at ho2;cases ho2;refine⟨hg,?_⟩;refine Zfa (R:=fun v w'=>S w'/\R1 v w') (R2:=R) he (hc.mono ?_) (fun v w' hh=>⟨hh.1,h v w' hh.1 hh.2⟩) (fun ch w' hh=>⟨hd,hh⟩);rintro e w' (⟨v,h1,h2⟩|hh)
 ·
  exact .inl ⟨v,h1,h2⟩
 ·
  exact .inr hh
theorem Zw5 {i:Nat} {pl:List Nat} {l:List Oper} {f:Nat} {L:Array Bool} {a:Act} {w:World} {o:Oper} {g:FuncId} {args:Array Value} {R1:Value->World->Prop} (hi:l[i]?=some o) (hr:decide (Region.ready .any l.toArray L=[i])=true)
 (hg:Region.wanted o (yielded l.toArray a.tmps)=true) (hd:a.defers=[]) (he:(execOp a.eval o).run P w=.ok (.enter g args) w)
 (hc:Calls P g args w fun e w'=>∃ v,e=.returned v/\R1 v w') (hS:∀ v w',R1 v w'->S w')
 (h:∀ v w',S w'->R1 v w'->Nx pl P l Q R S f (L.setIfInBounds i true) (a.put o.dst v) w'):Nx (i::pl) P l Q R S (f+1) L a w :=
 Zdo hi hr hg hd he (hc.mono fun e w' ⟨v,h1,h2⟩=>.inl ⟨v,h1,hS v w' h2,h2⟩) h
theorem Zok {l:List Oper} {L:Array Bool} {a:Act} {w:World} (hr:(Region.ready .any l.toArray L).isEmpty=true) (h:Q .normal a w):Nx [] P l Q R S 0 L a w:=Zga hr h
end
open Go.RowKit
theorem Zul (op:Int) (w:World):Calls Tryz.prog 211 #[.int .i64 op] w fun y w'=>y=.returned (.tuple #[.int .i64 (Zbt op).1,.int .i64 (Zbt op).2])/\w=w':=by
 obtain⟨p,hp⟩:∃ p,p=Zbt op:=⟨_,rfl⟩;rw[<- hp];unfold Zbt at hp;rcases(by omega:op=1\/op=2\/op=3\/op=4\/op=5\/op=6\/op=7\/op=8\/op=9\/op=10\/(op<1\/10<op)) with rfl|rfl|rfl|rfl|rfl|rfl|rfl|rfl|rfl|rfl|h
 all_goals
  first
  | (simp at hp
     subst hp
     go_enter Tryz.func211,Tryz.ntmps211
     go_wp2_with fail
     go_ret2
     exact⟨rfl,rfl⟩)
  | (have h1 : (op == 1) = false := by simp; omega
     have h2:(op == 2)=false:=by simp;omega
     have h3:(op == 3)=false:=by simp;omega
     have h4:(op == 4)=false:=by simp;omega
     have h5:(op == 5)=false:=by simp;omega
     have h6:(op == 6)=false:=by simp;omega
     have h7:(op == 7)=false:=by simp;omega
     have h8:(op == 8)=false:=by simp;omega
     have h9:(op == 9)=false:=by simp;omega
     have h10:(op == 10)=false:=by simp;omega
     rw[if_neg (by omega),if_neg (by omega),if_neg (by omega),if_neg (by omega),if_neg (by omega)] at hp;subst hp;clear h
     go_enter Tryz.func211,Tryz.ntmps211
     go_wp2_with fail
     go_ret2
     exact⟨rfl,rfl⟩)
section
variable {G:ExT->Nat->Prop} {C:Nat->Prop} {w0:World} {I:List Int->Nat->World->Prop} {Bad:Int->World->Prop} {N T:ExT->Nat->Int} {gd:Nat} {caps:Array Value}
theorem Zaq.shape {w:World} {x0 x1 x2:Value}:∀ {e:ExT},Zaq w e (.agg #[x0,x1,x2])->∃ (op v:Int) (a:Option Addr) (n c:Nat),x0=.int .i64 op/\x1=.int .i64 v/\x2=.slice a n c
 | .nil,h=>by unfold Zaq at h;exact h.elim
 | .mk op v n kid,h=>by
   unfold Zaq at h;obtain⟨a,c,h1,_⟩:=h;cases h1;exact⟨op,v,a,n,c,rfl,rfl,rfl⟩
def Zfx:Nat->(Nat->Int)->Int
 | 0,_=>0
 | k+1,f=>if Zfx k f=0 then f k else Zfx k f
theorem Zei {f:Nat->Int}:∀ {n:Nat},Zfx n f=0↔∀ i,i<n->f i=0
 | 0=>by simp[Zfx]
 | k+1=>by
   have ih:=Zei (f:=f) (n:=k);unfold Zfx;constructor
   ·
    intro h;split at h
    ·
     rename_i h0
     intro i hi;rcases Nat.lt_or_ge i k with h1|h1
     ·
      exact ih.1 h0 i h1
     ·
      obtain rfl:i=k:=by omega
      exact h
    ·
     rename_i h0
     exact absurd h h0
   ·
    intro h;rw[if_pos (ih.2 fun i hi=>h i (by omega))];exact h k (by omega)
theorem Zn3 {f:Nat->Int} {j:Nat}:∀ {n:Nat},j<n->(∀ q,q<j->f q=0)->f j≠0->Zfx n f=f j
 | 0,h,_,_=>by omega
 | k+1,h,h1,h2=>by
   unfold Zfx;rcases Nat.lt_or_ge j k with h3|h3
   ·
    rw[Zn3 h3 h1 h2,if_neg h2]
   ·
    obtain rfl:j=k:=by omega
    rw[if_pos (Zei.2 h1)]
def opV (op v:Int):List Int:=if op=3 then [v] else []
def Zs2 (G:ExT->Nat->Prop) (C:Nat->Prop) (w0:World) (I:List Int->Nat->World->Prop) (Bad:Int->World->Prop) (N:ExT->Nat->Int) (gd:Nat) (caps:Array Value):Prop :=
 ∀ (op v:Int) (n:Nat) (kid:Nat->ExT) (x:Value) (deep:Nat) (l:List Int) (i:Nat) (W:World),G (.mk op v n kid) deep->Zaq w0 (.mk op v n kid) x->I l i W->deep<=65->i<4096 ->
  Calls Tryz.prog gd (#[x,.int .i64 deep]++caps) W fun y w'=>∃ b:Bool,y=.returned (.bool b)/\(b=true->N (.mk op v n kid) deep=0/\I (l++opV op v) (i+1) w')/\(b=false->N (.mk op v n kid) deep≠0/\Bad (N (.mk op v n kid) deep) w')/\Wr C W w'
theorem Zna (hC:∀ l i W k,I l i W->C k->k<W.heap.size) (hI:∀ l i W W',I l i W->Below W.heap.size W W'->I l i W') (hIB:∀ l i W,I l i W->Below w0.heap.size w0 W) (hN:∀ op v n kid deep,N (.mk op v n kid) deep=0->deep<=64) (hT:∀ op v n kid deep,T (.mk op v n kid) deep=if N (.mk op v n kid) deep=0 then Zfx n fun i=>T (kid i) (deep+1) else N (.mk op v n kid) deep)
 (eg:∀ args w,(callFunc gd args).run Tryz.prog w=.ok (.enter gd args) w) (hG:∀ op v n kid deep,G (.mk op v n kid) deep->∀ i,i<n->G (kid i) (deep+1)) (hdo:Zs2 G C w0 I Bad N gd caps):∀ (e:ExT) (x:Value) (deep:Nat) (l:List Int) (i:Nat) (w:World),G e deep->deep<=65->i+e.size<=4096->Zaq w0 e x->I l i w ->
 Calls Tryz.prog 178 #[x,.int .i64 deep,.func (.func gd) #[] caps] w fun y w'=>∃ b:Bool,y=.returned (.bool b)/\(b=true->T e deep=0/\I (l++Zbe e) (i+e.size) w')/\(b=false->T e deep≠0/\Bad (T e deep) w')
 | .nil,x,deep,l,i,w,hg,hd,hs,h,hi=>by unfold Zaq at h;exact h.elim
 | .mk op v n kid,x,deep,l,i,w,hg,hd,hs,h,hi=>by
   have hx:=h;unfold Zaq at h;obtain⟨a,c,rfl,h2,h3,h4,h5⟩:=h;have HSZ:Hid ((ExT.mk op v n kid).size=1+sumN n fun i=>(kid i).size):=Hd rfl;have HS:=Hd hs;have hi1:i<4096:=by have:=HSZ.out;omega
   have H5:=Hd h5;have HDO:Hid (∀ W,I l i W->Calls Tryz.prog gd (#[.agg #[.int .i64 op,.int .i64 v,.slice a n c],.int .i64 deep]++caps) W fun y w'=>∃ b:Bool,y=.returned (.bool b)/\(b=true->N (.mk op v n kid) deep=0/\I (l++opV op v) (i+1) w')/\(b=false->N (.mk op v n kid) deep≠0/\Bad (N (.mk op v n kid) deep) w')/\Wr C W w'):=Hd fun W hW=>hdo op v n kid _ deep l i W hg hx hW hd hi1
   have IH:Hid (∀ (j:Nat) (x:Value) (z:Int) (l:List Int) (i:Nat) (W:World),z=((deep+1:Nat):Int)->G (kid j) (deep+1)->deep+1<=65->i+(kid j).size<=4096->Zaq w0 (kid j) x->I l i W->Calls Tryz.prog 178 #[x,.int .i64 z,.func (.func gd) #[] caps] W fun y w'=>∃ b:Bool,y=.returned (.bool b)/\(b=true->T (kid j) (deep+1)=0/\I (l++Zbe (kid j)) (i+(kid j).size) w')/\(b=false->T (kid j) (deep+1)≠0/\Bad (T (kid j) (deep+1)) w')) :=
    Hd fun j x z l i W hz h0 h1 h2 h3 h4=>by subst hz;exact Zna hC hI hIB hN hT eg hG hdo (kid j) x (deep+1) l i W h0 h1 h2 h3 h4
   have HG:Hid (∀ j,j<n->G (kid j) (deep+1)):=Hd (hG _ _ _ _ _ hg);obtain⟨P,hP⟩:∃ P:Ending->World->Prop,P=fun y w'=>∃ b:Bool,y=.returned (.bool b)/\(b=true->T (.mk op v n kid) deep=0/\I (l++Zbe (.mk op v n kid)) (i+(ExT.mk op v n kid).size) w')/\(b=false->T (.mk op v n kid) deep≠0/\Bad (T (.mk op v n kid) deep) w'):=⟨_,rfl⟩
   have HNO:Hid (∀ w',N (.mk op v n kid) deep≠0->Bad (N (.mk op v n kid) deep) w'->P (.returned (.bool false)) w'):=Hd fun w' h1 h2=>by
    have e:T (.mk op v n kid) deep=N (.mk op v n kid) deep:=by rw[hT,if_neg h1]
    rw[hP];exact⟨false,rfl,by simp,fun _=>by rw[e];exact⟨h1,h2⟩⟩
   have HKID:Hid (∀ j w',N (.mk op v n kid) deep=0->j<n->(∀ q,q<j->T (kid q) (deep+1)=0)->T (kid j) (deep+1)≠0->Bad (T (kid j) (deep+1)) w'->P (.returned (.bool false)) w'):=Hd fun j w' h0 hj hq h1 h2=>by
    have e:T (.mk op v n kid) deep=T (kid j) (deep+1):=by rw[hT,if_pos h0];exact Zn3 (f:=fun i=>T (kid i) (deep+1)) hj hq h1
    rw[hP];exact⟨false,rfl,by simp,fun _=>by rw[e];exact⟨h1,h2⟩⟩
   have HYES:Hid (∀ w',N (.mk op v n kid) deep=0->(∀ j,j<n->T (kid j) (deep+1)=0)->I ((l++opV op v)++Zd1 n fun j=>Zbe (kid j)) (i+1+sumN n fun j=>(kid j).size) w'->P (.returned (.bool true)) w'):=Hd fun w' h1 h2 h3=>by
    rw[hP];refine⟨true,rfl,fun _=>⟨by rw[hT,if_pos h1];exact Zei.2 h2,?_⟩,by simp⟩;have e1:l++Zbe (.mk op v n kid)=(l++opV op v)++Zd1 n fun j=>Zbe (kid j):=by rw[List.append_assoc];rfl
    rw[e1,HSZ.out,<- Nat.add_assoc];exact h3
   have HN:Hid (N (.mk op v n kid) deep=0->deep<=64):=Hd (hN _ _ _ _ _);have HI:=Hd hI;have HIB:=Hd hIB;obtain⟨w1,hw1⟩:∃ w1,w1=w.alloc (.cells #[.int .i64 op,.int .i64 v,.slice a n c] 86):=⟨_,rfl⟩;have HW1:Hid (_=w1):=Hd hw1.symm;have HI1:Hid (I l i w1):=by rw[hw1];exact Hd (hI _ _ _ _ hi (Zad _ _))
   have hblk:w1.heap[w.heap.size]?=some (.cells #[.int .i64 op,.int .i64 v,.slice a n c] 86 (0,0)):=by rw[hw1];exact heap_alloc_new _ _
   have d0:w1.cell? ⟨w.heap.size,0,none⟩=some (.int .i64 op):=by rw[cell_of_row _ _ 0 _ _ _ hblk];rfl
   have d1:w1.cell? ⟨w.heap.size,1,none⟩=some (.int .i64 v):=by rw[cell_of_row _ _ 1 _ _ _ hblk];rfl
   have d2:w1.cell? ⟨w.heap.size,2,none⟩=some (.slice a n c):=by rw[cell_of_row _ _ 2 _ _ _ hblk];rfl
   have HC1:=Hd (HDO.out w1 HI1.out);have HNC:Hid (¬ C w.heap.size/\w.heap.size<w1.heap.size):=Hd ⟨fun e=>by have:=hC _ _ _ _ hi e;omega,by rw[hw1];simp⟩;rw[<- hP];clear hC hP hI hIB hN hT hG hg hdo hx hs hi h2 h3 h5 hw1 hblk HDO HI1
   go_enter Tryz.func178,Tryz.ntmps178
   go_upto_region 1 with fail;rw[HW1.out];go_wp2_with fail;refine HC1.out.mono ?_;rintro y w2 ⟨b,rfl,hyes,hno,hwr⟩;have d2':w2.cell? ⟨w.heap.size,2,none⟩=some (.slice a n c):=(World.cell?_of_block (w:=w1) (a:=⟨w.heap.size,2,none⟩) (hwr.keep _ HNC.out.2 HNC.out.1)).trans d2;clear hwr HC1 d0 d1 d2 HW1;cases b with
   | false =>
     obtain⟨q1,q2⟩:=hno rfl;have HF:=Hd (HNO.out w2 q1 q2);clear q1 q2 hno hyes IH HKID HYES;go_wp2_with fail;exact HF.out
   | true =>
     obtain⟨q1,q2⟩:=hyes rfl;have HND:=Hd q1;have hd64:=HN.out q1;have HQ0:Hid (I ((l++opV op v)++Zd1 0 fun j=>Zbe (kid j)) (i+1+sumN 0 fun j=>(kid j).size) w2):=Hd (by rw[show (Zd1 0 fun j=>Zbe (kid j))=[] from rfl,List.append_nil];exact q2);clear q1 q2 hno hyes;go_wp2_with fail
     go_loopw [6,8,17] (fun _ _ s17 wr=>∃ j:Nat,j<=n/\s17=.int .i64 j/\Hid (∀ q,q<j->T (kid q) (deep+1)=0)/\Hid (I ((l++opV op v)++Zd1 j fun j=>Zbe (kid j)) (i+1+sumN j fun j=>(kid j).size) wr)) (fun _ _ s17 _=>n-(intOf s17).toNat)
     case atStart=>exact⟨0,Nat.zero_le _,rfl,Hd fun q hq=>by omega,HQ0⟩
     case round =>
      obtain⟨j,hj,rfl,HTS,HQ⟩:=hrel;clear d2' HQ0
      by_cases hlt:j<n
      ·
       obtain⟨b,off,x0,x1,x2,rfl,c0,c1,c2,hx⟩:=H5.out j hlt;obtain⟨op2,v2,a2,n2,cc2,rfl,rfl,rfl⟩:=hx.shape;have hb0:=HIB.out _ _ _ HQ.out;have e0:=(hb0.cell (p:=⟨b,off+j*3,none⟩) (Zaa c0)).trans c0;have e1:=(hb0.cell (p:=⟨b,off+j*3+1,none⟩) (Zaa c1)).trans c1;have e2:=(hb0.cell (p:=⟨b,off+j*3+2,none⟩) (Zaa c2)).trans c2;obtain⟨w3,hw3⟩:∃ w3,w3=wr.alloc (.cells #[.int .i64 op2,.int .i64 v2,.slice a2 n2 cc2] 86):=⟨_,rfl⟩;have HW3:Hid (_=w3):=Hd hw3.symm;have hblk:w3.heap[wr.heap.size]?=some (.cells #[.int .i64 op2,.int .i64 v2,.slice a2 n2 cc2] 86 (0,0)):=by rw[hw3];exact heap_alloc_new _ _
       have g0:w3.cell? ⟨wr.heap.size,0,none⟩=some (.int .i64 op2):=by rw[cell_of_row _ _ 0 _ _ _ hblk];rfl
       have g1:w3.cell? ⟨wr.heap.size,1,none⟩=some (.int .i64 v2):=by rw[cell_of_row _ _ 1 _ _ _ hblk];rfl
       have g2:w3.cell? ⟨wr.heap.size,2,none⟩=some (.slice a2 n2 cc2):=by rw[cell_of_row _ _ 2 _ _ _ hblk];rfl
       have hsum:sumN j (fun j=>(kid j).size)+(kid j).size<=sumN n fun j=>(kid j).size:=Zed (f:=fun j=>(kid j).size) hlt
       have hq3:I ((l++opV op v)++Zd1 j fun j=>Zbe (kid j)) (i+1+sumN j fun j=>(kid j).size) w3:=by rw[hw3];exact HI.out _ _ _ _ HQ.out (Zad _ _)
       have HCK:=Hd (IH.out j (.agg #[.int .i64 op2,.int .i64 v2,.slice a2 n2 cc2]) ((deep:Int)+1) _ _ w3 (by omega) (HG.out j hlt) (by omega) (by have:=HSZ.out;have:=HS.out;omega) hx hq3);have hin:(j:Int)<n:=by omega
       clear c0 c1 c2 hx hb0 hw3 hblk hq3 hsum;go_upto_region 6 with fail;rw[HW3.out];go_wp2_with fail;refine HCK.out.mono ?_;rintro y w4 ⟨b4,rfl,hyes,hno⟩;clear e0 e1 e2 g0 g1 g2 HCK HW3;cases b4 with
       | false =>
         obtain⟨q1,q2⟩:=hno rfl;have HF:=Hd (HKID.out j w4 HND.out hlt HTS.out q1 q2);clear q1 q2 hno hyes;go_wp2_with fail;exact HF.out
       | true =>
         obtain⟨q1,q2⟩:=hyes rfl;have HT2:Hid (∀ q,q<j+1->T (kid q) (deep+1)=0):=Hd fun q hq=>by
          rcases Nat.lt_or_ge q j with h|h
          ·
           exact HTS.out q h
          ·
           obtain rfl:q=j:=by omega
           exact q1
         have HQ2:Hid (I ((l++opV op v)++Zd1 (j+1) fun j=>Zbe (kid j)) (i+1+sumN (j+1) fun j=>(kid j).size) w4):=Hd (by
          rw[List.append_assoc,Nat.add_assoc (i+1)] at q2;exact q2)
         clear q1 q2 hno hyes;go_wp2_with fail;go_roundw
         case rel=>exact⟨j+1,by omega,by go_num,HT2,HQ2⟩
         case measure=>simp[intOf];omega
      ·
       obtain rfl:j=n:=by omega
       have HF:=Hd (HYES.out wr HND.out (fun q hq=>HTS.out q hq) HQ.out);have hin:¬ (j:Int)<(j:Int):=by omega
       go_wp2_with fail;exact HF.out
end
open Go.RowKit
structure BuC (K:Law) (n:Nat) (A:Nat->Prop) (o:Own) (w:World) (xb mb:Nat) (m:ManD) (V:Nat->BF) (bx be:Nat) (op v:Int) (a:Option Addr) (nk c:Nat) (kid:Nat->ExT):Prop where
 is:Zc6 (K m.d V) o w mb m
 lt:Zak o w
 ctx:Zdd o w xb mb
 ok:Zan m.d V
 vars:m.d.vars.length=n
 cx:w.cell? ⟨bx,0,none⟩=some (.pointer (some ⟨xb,0,none⟩))
 c0:w.cell? ⟨be,0,none⟩=some (.int .i64 op)
 c1:w.cell? ⟨be,1,none⟩=some (.int .i64 v)
 c2:w.cell? ⟨be,2,none⟩=some (.slice a nk c)
 nx:o bx=none
 ne:o be=none
 blk:∀ k,A k->k<w.heap.size/\o k=none
 kids:∀ k,k<nk->∃ b off x0 x1 x2,a=some ⟨b,off,none⟩/\A b/\w.cell? ⟨b,off+k*3,none⟩=some x0/\w.cell? ⟨b,off+k*3+1,none⟩=some x1/\w.cell? ⟨b,off+k*3+2,none⟩=some x2/\Zbg A w (kid k) (.agg #[x0,x1,x2])
theorem Zcf (args:Array Value) (w:World):(callFunc 182 args).run Tryz.prog w=.ok (.enter 182 args) w:=enters_of Tryz.func182 (by kernel_rfl) rfl args w
section
variable {K:Law} {n:Nat} {A:Nat->Prop} {o:Own} {w:World} {xb mb:Nat} {m:ManD} {V:Nat->BF} {bx be:Nat} {op v:Int} {a:Option Addr} {nk c:Nat} {kid:Nat->ExT}
theorem Zrg {g:Nat} (hG:Zg9 K n g (Zhh op)) (eg:∀ args w,(callFunc g args).run Tryz.prog w=.ok (.enter g args) w) (IH:∀ i,i<nk->Zc5 K n (kid i)) (h:BuC K n A o w xb mb m V bx be op v a nk c kid) (hnk:nk<=64) (e0:Nat) (he0:e0/2=0) (hc0:Zd7 e0=accT op kid 0) :
 Calls Tryz.prog 182 #[.int .i64 e0,.func (.func g) #[] #[],.pointer (some ⟨be,0,none⟩),.pointer (some ⟨bx,0,none⟩)] w (Zck K (2*sumN nk (fun i=>(kid i).size)*(2^n-1)) o w mb m V fun _ V' r=>ef V' r=accT op kid nk):=by
 obtain⟨Z,hZ⟩:∃ Z:Nat->Nat,Z=fun j=>2*sumN j (fun i=>(kid i).size)*(2^n-1):=⟨_,rfl⟩
 have hZ0:Z 0=0:=by rw[hZ];simp[sumN]
 have hZs:∀ j,Z j+Zce n (kid j)+(2^n-1)=Z (j+1):=fun j=>by
  have h1:=ExT.size_pos (kid j);rw[hZ]
  show 2*sumN j (fun i=>(kid i).size)*(2^n-1)+(2*(kid j).size-1)*(2^n-1)+(2^n-1)=2*(sumN j (fun i=>(kid i).size)+(kid j).size)*(2^n-1)
  rw[<- Nat.add_mul,<- Nat.succ_mul];congr 1;omega
 have hZm:∀ j,j<nk->Z (j+1)<=Z nk:=fun j hj=>by
  rw[hZ];refine Nat.mul_le_mul_right _ (Nat.mul_le_mul_left _ ?_);have h1:=Zed (f:=fun i=>(kid i).size) hj;exact h1
 obtain⟨P,hP⟩:∃ P:Ending->World->Prop,P=Zck K (Z nk) o w mb m V fun _ V' r=>ef V' r=accT op kid nk:=⟨_,rfl⟩
 obtain⟨I,hI⟩:∃ I:Nat->Nat->World->Prop,I=fun j r wr=>∃ o' m' V',AtC K (Z j) o w mb m V o' wr m' V'/\okE (Zab m'.d) r/\ef V' r=accT op kid j:=⟨_,rfl⟩
 have HI0:Hid (I 0 e0 w):=by
  rw[hI];exact Hd ⟨o,m,V,(AtC.refl h.is h.lt h.ok).mono (by omega),.inl he0,by rw[Zht h.ok he0];exact hc0⟩
 have HICELL:Hid (∀ j r wr,I j r wr->Zb8 (fun k=>o k=none) w wr):=by rw[hI];exact Hd fun j r wr ⟨o',m',V',h,_⟩=>Zb8.step h.st fun _ h=>h
 have HFIN:Hid (∀ r wr,I nk r wr->P (.returned (.int .i64 (r:Nat))) wr):=by
  rw[hI,hP];exact Hd fun r wr ⟨o',m',V',h,h2,h3⟩=>.inl ⟨r,o',m',V',rfl,h,h2,h3⟩
 have HSTEP:Hid (∀ j r wr wz x,j<nk->I j r wr->Zbg A w (kid j) x->Below wr.heap.size wr wz->wz.heap.size=wr.heap.size+1->Calls Tryz.prog 124 #[.pointer (some ⟨xb,0,none⟩),x] wz fun e w' =>
  (∃ v,e=.returned v/\Zb8 (fun k=>k=bx\/k=wr.heap.size) wz w'/\∃ f:Nat,v=.int .i64 f/\Calls Tryz.prog g #[.pointer (some ⟨xb,0,none⟩),.int .i64 r,.int .i64 f] w' fun e w2 =>
   (∃ v,e=.returned v/\Zb8 (fun k=>k=bx\/k=wr.heap.size) wz w2/\∃ r':Nat,v=.int .i64 r'/\I (j+1) r' w2)\/(∃ ch,e=.panicked ch/\P (.panicked ch) w2))\/(∃ ch,e=.panicked ch/\P (.panicked ch) w')):=by
  rw[hI,hP];refine Hd fun j r wr wz x hj ⟨o',m',V',h1,h2,h3⟩ hx hb hsz=>?_
  have hd:=h1.below hb;have hno:∀ k,k<w.heap.size->o k=none->o' k=none:=fun k hk ho=>hd.st.chg.none' hk ho
  have hbx:o' bx=none:=hno _ (Zaa h.cx) h.nx;have hsl:o' wr.heap.size=none:=h1.st.lt.none (Nat.le_refl _);have hT:∀ k,(k=bx\/k=wr.heap.size)->o' k=none:=by rintro k (rfl|rfl)<;>assumption
  have hA':∀ k,A k->k<wz.heap.size/\o' k=none:=fun k hk=>⟨Nat.lt_of_lt_of_le (h.blk k hk).1 hd.st.chg.size,hno k (h.blk k hk).1 (h.blk k hk).2⟩
  have hx':Zbg A wz (kid j) x:=Zbg.keep (fun k hk=>hd.st.chg.alien (h.blk k hk).1 (h.blk k hk).2) _ hx;have hbld:=IH j hj A o' wz xb mb m' V' x hd.st.is hd.st.lt (h.ctx.chg hd.st.chg) hd.st.ok (hd.vars h.vars) hx' hA';have hz1:=hZs j;have hz2:=hZm j hj;refine(Zl3 (k:=Z nk) (A':=fun _ V' r=>ef V' r=accT op kid nk) hd hbld (by omega) hT).mono ?_;rintro e w' (⟨v,rfl,hk1,f,o2,m2,V2,rfl,q1,q2,q3,q4⟩|hp)
  ·
   refine .inl ⟨_,rfl,hk1,f,rfl,?_⟩;have hT2:∀ k,(k=bx\/k=wr.heap.size)->o2 k=none:=by
    rintro k (rfl|rfl)
    ·
     exact q2.chg.none' (Nat.lt_of_lt_of_le (Zaa h.cx) hd.st.chg.size) hbx
    ·
     exact q2.chg.none' (by omega) hsl
   have hg:=hG o2 w' xb mb m2 V2 r f q1.st.is q1.st.lt (h.ctx.chg q1.st.chg) q1.st.ok (q1.vars h.vars) (q2.ext.ok h2) q3;refine(Zl3 (k:=Z nk) (A':=fun _ V' r=>ef V' r=accT op kid nk) q1 hg (by omega) hT2).mono ?_;rintro e w2 (⟨v,rfl,hk2,r',o3,m3,V3,rfl,p1,p2,p3,p4⟩|hp)
   ·
    refine .inl ⟨_,rfl,hk1.trans hk2,r',rfl,o3,m3,V3,by rw[<- hz1];exact p1,p3,?_⟩;rw[p4,q2.ext.ef h2,h3,q4];rfl
   ·
    exact .inr hp
  ·
   exact .inr hp
 have HC:=Hd h;have cx:=h.cx;have c2:=h.c2;have hobx:=h.nx;have e:2*sumN nk (fun i=>(kid i).size)*(2^n-1)=Z nk:=by rw[hZ]
 rw[e,<- hP];clear hZ hI hP hZ0 hZs hZm hG IH h hc0 he0 e
 go_enter Tryz.func182,Tryz.ntmps182
 go_wp2_with fail
 go_loopw [0,8,12] (fun s0 _ s12 wr=>∃ (j r:Nat),j<=nk/\s12=.int .i64 j/\s0=.int .i64 r/\Hid (I j r wr)) (fun _ _ s12 _=>nk-(intOf s12).toNat)
 case atStart=>exact⟨0,e0,Nat.zero_le _,rfl,rfl,HI0⟩
 case round =>
  obtain⟨j,r,hj,rfl,rfl,HI⟩:=hrel
  by_cases hlt:j<nk
  ·
   have hjz:(j:Int)<(nk:Int):=by omega
   obtain⟨b,off,x0,x1,x2,rfl,hAb,k0,k1,k2,hx⟩:=HC.out.kids j hlt;obtain⟨op2,v2,a2,n2,cc2,rfl,rfl,rfl⟩:=(Zbg.at _ hx).shape;have hkc:=HICELL.out _ _ _ HI.out;have hob:o b=none:=(HC.out.blk b hAb).2;have g0:=hkc _ _ hob k0;have g1:=hkc _ _ hob k1;have g2:=hkc _ _ hob k2;have cxr:=hkc _ _ hobx cx;obtain⟨wz,hwz⟩:∃ wz,wz=wr.alloc (.cells #[.int .i64 op2,.int .i64 v2,.slice a2 n2 cc2] 86):=⟨_,rfl⟩;have HWZ:Hid (_=wz):=Hd hwz.symm;have hbz:Below wr.heap.size wr wz:=by rw[hwz];exact Zad _ _
   have hsz:wz.heap.size=wr.heap.size+1:=by rw[hwz];simp
   have hblk:wz.heap[wr.heap.size]?=some (.cells #[.int .i64 op2,.int .i64 v2,.slice a2 n2 cc2] 86 (0,0)):=by rw[hwz];exact heap_alloc_new _ _
   have p0:wz.cell? ⟨wr.heap.size,0,none⟩=some (.int .i64 op2):=by rw[cell_of_row _ _ 0 _ _ _ hblk];rfl
   have p1:wz.cell? ⟨wr.heap.size,1,none⟩=some (.int .i64 v2):=by rw[cell_of_row _ _ 1 _ _ _ hblk];rfl
   have p2:wz.cell? ⟨wr.heap.size,2,none⟩=some (.slice a2 n2 cc2):=by rw[cell_of_row _ _ 2 _ _ _ hblk];rfl
   have cxz:=(hbz.cell (p:=⟨bx,0,none⟩) (Zaa cxr)).trans cxr;have HS:=Hd (HSTEP.out j r wr wz.drew _ hlt HI.out hx (hbz.trans ((Zai wz 1).mono hbz.size)) hsz);clear k0 k1 k2 hx hkc hob hwz hbz hsz hblk cxr HI HI0 HSTEP HICELL HFIN HC cx c2;go_upto_region 4 with fail;rw[HWZ.out];refine Zh5 [0,1,2,3,4,5,6,7] (fun W=>Zb8 (fun k=>k=bx\/k=wr.heap.size) wz.drew W) (fun ch w'=>P (.panicked ch) w') (fun c a w hd h=>⟨hd,h⟩) (by kernel_rfl) (Zb8.refl _ _) ?_
   iterate 5
    refine Ze3 rfl rfl (by kernel_rfl) ?_;apply Exists.intro;refine⟨fun w' hw=>?_,?_⟩
    ·
     have q1:=hw _ _ (Or.inl rfl) cxz;have q2:=hw _ _ (Or.inr rfl) p0;have q3:=hw _ _ (Or.inr rfl) p1;have q4:=hw _ _ (Or.inr rfl) p2;go_simp;rfl
    simp only[Zah]
   refine Zdo rfl (by kernel_rfl) rfl rfl (by go_simp) HS.out ?_;rintro v w' hS ⟨f,rfl,hst⟩;have HST:=Hd hst;clear hst hS;simp only[Zah];refine Zdo rfl (by kernel_rfl) rfl rfl (by go_simp) HST.out ?_;rintro v w2 hS ⟨r',rfl,hst⟩;have HIN:=Hd hst;clear hst hS HST HS;simp only[Zah];refine Ze3 rfl rfl (by kernel_rfl) ?_;apply Exists.intro;refine⟨fun w' hw=>?_,?_⟩
   ·
    go_simp;rfl
   simp only[Zah];refine Zok (by kernel_rfl) ?_;clear g0 g1 g2 p0 p1 p2 cxz;go_wp2_with fail;go_roundw
   case rel=>exact⟨j+1,r',by omega,by go_num,rfl,HIN⟩
   case measure=>simp[intOf];omega
  ·
   obtain rfl:j=nk:=by omega
   have hjz:¬ (j:Int)<(j:Int):=by omega
   have HF:=Hd (HFIN.out r _ HI.out);clear HI0 HSTEP HFIN HI HICELL cx c2;go_wp2_with fail;exact HF.out
end
open Go.RowKit
section
variable {K:Law} {n k k1:Nat} {A:Nat->Prop} {o o':Own} {w w' W wd:World} {xb mb:Nat} {m m':ManD} {V V':Nat->BF} {bx be:Nat} {op v:Int} {a:Option Addr} {nk c:Nat} {kid:Nat->ExT}
theorem Zjz (hm:Zc6 (K m.d V) o w mb m) (hlt:Zak o w) (hx:Zdd o w xb mb) (hk:Zan m.d V) (hn:m.d.vars.length=n) {x:Value} (he:Zbg A w (.mk op v nk kid) x) (hA:∀ k,A k->k<w.heap.size/\o k=none) :
 ∃ a c,x=.agg #[.int .i64 op,.int .i64 v,.slice a nk c]/\∃ w1,w1=(w.alloc (.cells #[.pointer (some ⟨xb,0,none⟩)] 115)).alloc (.cells #[.int .i64 op,.int .i64 v,.slice a nk c] 86)/\Below w.heap.size w w1/\BuC K n A o w1 xb mb m V w.heap.size (w.heap.size+1) op v a nk c kid:=by
 unfold Zbg at he;obtain⟨a,c,rfl,_,_,_,h5⟩:=he;refine⟨a,c,rfl,_,rfl,(Zad _ _).alloc (by simp) _,?_⟩;obtain⟨w1,hw1⟩:∃ w1,w1=(w.alloc (.cells #[.pointer (some ⟨xb,0,none⟩)] 115)).alloc (.cells #[.int .i64 op,.int .i64 v,.slice a nk c] 86):=⟨_,rfl⟩;have hb:Below w.heap.size w w1:=by rw[hw1];exact(Zad _ _).alloc (by simp) _
 have h0:w1.heap[w.heap.size]?=some (.cells #[.pointer (some ⟨xb,0,none⟩)] 115 (0,0)):=by rw[hw1];exact(Go.heap_alloc_old _ _ (by simp)).trans (heap_alloc_new _ _)
 have h1:w1.heap[w.heap.size+1]?=some (.cells #[.int .i64 op,.int .i64 v,.slice a nk c] 86 (0,0)):=by
  have:=heap_alloc_new (w.alloc (.cells #[.pointer (some ⟨xb,0,none⟩)] 115)) (.cells #[.int .i64 op,.int .i64 v,.slice a nk c] 86);rw[World.size_alloc] at this;rw[hw1];exact this
 rw[<- hw1];obtain⟨s,hs⟩:=hm;refine⟨⟨s,hs.below hlt hb⟩,hlt.mono hb.size,⟨(hb.cell (p:=⟨xb,0,none⟩) (Zaa hx.cell)).trans hx.cell,hx.own⟩,hk,hn,cell1 h0,by rw[cell_of_row _ _ 0 _ _ _ h1];rfl,by rw[cell_of_row _ _ 1 _ _ _ h1];rfl,by rw[cell_of_row _ _ 2 _ _ _ h1];rfl,hlt.none (Nat.le_refl _),hlt.none (by omega),fun k hk=>⟨Nat.lt_of_lt_of_le (hA k hk).1 hb.size,(hA k hk).2⟩,fun k hk=>?_⟩;obtain⟨b,off,x0,x1,x2,ha,hb',c0,c1,c2,hx'⟩:=h5 k hk;exact⟨b,off,x0,x1,x2,ha,hb',(hb.cell (p:=⟨b,off+k*3,none⟩) (Zaa c0)).trans c0,(hb.cell (p:=⟨b,off+k*3+1,none⟩) (Zaa c1)).trans c1,(hb.cell (p:=⟨b,off+k*3+2,none⟩) (Zaa c2)).trans c2,Zbg.keep (fun q hq=>hb.block q (hA q hq).1) _ hx'⟩
abbrev BuT (A:Nat->Prop) (bx be:Nat) (k:Nat):Prop:=k=bx\/k=be\/A k
theorem BuC.none (h:BuC K n A o w xb mb m V bx be op v a nk c kid) (ht:AtC K k1 o w mb m V o' W m' V'):∀ q,BuT A bx be q->o' q=none:=by
 rintro q (rfl|rfl|hq)
 ·
  exact ht.st.chg.none' (Zaa h.cx) h.nx
 ·
  exact ht.st.chg.none' (Zaa h.c0) h.ne
 ·
  exact ht.st.chg.none' (h.blk q hq).1 (h.blk q hq).2
theorem Zi2 (IH:∀ i,i<nk->Zc5 K n (kid i)) (h:BuC K n A o w xb mb m V bx be op v a nk c kid) (ht:AtC K k1 o w mb m V o' W m' V') (hS:Zb8 (BuT A bx be) wd W) {i:Nat} (hi:i<nk) {x:Value} (hx:Zbg A w (kid i) x) (hk:k1+Zce n (kid i)<=k) {A':Zag->(Nat->BF)->Nat->Prop} :
 Calls Tryz.prog 124 #[.pointer (some ⟨xb,0,none⟩),x] W fun e w'=>(∃ v,e=.returned v/\Zb8 (BuT A bx be) wd w'/\∃ (r:Nat) (o2:Own) (m2:ManD) (V2:Nat->BF),v=.int .i64 r/\AtC K (k1+Zce n (kid i)) o w mb m V o2 w' m2 V2/\Step K o' W mb m' V' o2 w' m2 V2/\okE (Zab m2.d) r/\ef V2 r=fnT (kid i))\/(∃ ch,e=.panicked ch/\Zck K k o w mb m V A' (.panicked ch) w'):=by
 have hA':∀ k,A k->k<W.heap.size/\o' k=none:=fun k hk=>⟨Nat.lt_of_lt_of_le (h.blk k hk).1 ht.st.chg.size,ht.st.chg.none' (h.blk k hk).1 (h.blk k hk).2⟩
 have hx':Zbg A W (kid i) x:=Zbg.keep (fun k hk=>ht.st.chg.alien (h.blk k hk).1 (h.blk k hk).2) _ hx;refine(Zl3 (T:=BuT A bx be) (A':=A') ht (IH i hi A o' W xb mb m' V' x ht.st.is ht.st.lt (h.ctx.chg ht.st.chg) ht.st.ok (ht.vars h.vars) hx' hA') hk (h.none ht)).mono ?_;rintro e w' (⟨v,h1,h2,h3⟩|h1)
 ·
  exact .inl ⟨v,h1,hS.trans h2,h3⟩
 ·
  exact .inr h1
theorem Zy6 {T:Nat->Prop} {k2 f:Nat} {args:Array Value} {B B':Zag->(Nat->BF)->Nat->Prop} (ht:AtC K k1 o w mb m V o' W m' V') (hS:Zb8 T wd W) (hT:∀ q,T q->o' q=none) (hc:Calls Tryz.prog f args W (Zck K k2 o' W mb m' V' B)) (hk:k1+k2<=k) (hB:∀ d V2 r,B d V2 r->B' d V2 r) :
 Calls Tryz.prog f args W fun e w'=>(∃ v,e=.returned v/\Zb8 T wd w'/\∃ r:Nat,v=.int .i64 r/\Zck K k o w mb m V B' (.returned (.int .i64 (r:Nat))) w')\/(∃ ch,e=.panicked ch/\Zck K k o w mb m V B' (.panicked ch) w'):=by
 refine(Zl3 (A':=B') ht hc hk hT).mono ?_;rintro e w' (⟨v,rfl,h2,r,o2,m2,V2,rfl,h3,_,h5,h6⟩|h1)
 ·
  exact .inl ⟨_,rfl,hS.trans h2,r,rfl,.inl ⟨r,o2,m2,V2,rfl,h3.mono hk,h5,hB _ _ _ h6⟩⟩
 ·
  exact .inr h1
theorem Zyx {F:Phi} (h:Zc6 F o w mb m) {e:Nat} (he:okE (Zab m.d) e):Calls Tryz.prog 101 #[.int .i64 e] w fun x w'=>x=.returned (.int .i64 (enot e:Nat))/\w=w':=by
 refine Zhj e w ?_;obtain⟨s,hs⟩:=h;obtain⟨s2,h2⟩:=hs.store;have:=h2.edge_lt he;unfold eMax;omega
theorem Zze:Zhh 5=andF:=by funext F G;rfl
theorem Zzf:Zhh 6=orF:=by funext F G;rfl
theorem Zzg:Zhh 7=xorF:=by funext F G;rfl
theorem Zzh:Zhh 8=impF:=by funext F G;rfl
theorem Zzi:Zhh 9=iffF:=by funext F G;rfl
theorem Zii (hK:Zbp K) (IH:∀ i,i<nk->Zc5 K n (kid i)) (hg:Zkz n (.mk op v nk kid)) (h5:op=5\/op=6\/op=7):Zc5 K n (.mk op v nk kid):=by
 intro A o w xb mb m V x hm hlt hx hk hn he hA;obtain⟨a,c,rfl,w1,hw1,hb1,hc⟩:=Zjz hm hlt hx hk hn he hA;have hnk:nk<=64:=by
  have:=hg.1.2.2.2.2.1;rcases h5 with rfl|rfl|rfl<;>simp[Zbt] at this<;>omega
 have HW1:Hid (_=w1):=Hd hw1.symm;have hat:AtC K 0 o w mb m V o w1 m V:=(AtC.refl hm hlt hk).below hb1;obtain⟨P,hP⟩:∃ P:Ending->World->Prop,P=Zck K (Zce n (.mk op v nk kid)) o w mb m V fun _ V' r=>ef V' r=fnT (.mk op v nk kid):=⟨_,rfl⟩
 have hle:0+2*sumN nk (fun i=>(kid i).size)*(2^n-1)<=Zce n (.mk op v nk kid):=by
  unfold Zce;rw[show (ExT.mk op v nk kid).size=1+sumN nk fun i=>(kid i).size from rfl,Nat.zero_add];exact Nat.mul_le_mul_right _ (by omega)
 have hall:Hid (∀ g e0,Zg9 K n g (Zhh op)->(∀ args w,(callFunc g args).run Tryz.prog w=.ok (.enter g args) w)->e0/2=0->Zd7 e0=accT op kid 0->Calls Tryz.prog 182 #[.int .i64 (e0:Nat),.func (.func g) #[] #[],.pointer (some ⟨w.heap.size+1,0,none⟩),.pointer (some ⟨w.heap.size,0,none⟩)] w1 fun e w'=>(∃ r:Nat,e=.returned (.int .i64 r)/\P (.returned (.int .i64 r)) w')\/∃ er evt ev,e=Zb2 er evt ev/\P (Zb2 er evt ev) w'):=Hd fun g e0 h1 h2 h3 h4=>(Zrg h1 h2 IH hc hnk e0 h3 h4).mono fun e w' hh=>by
  have h6:P e w':=by
   rw[hP,Zt4 h5];exact hh.base hat hle
  rcases hh.kind with ⟨r,rfl⟩|⟨er,evt,ev,rfl⟩
  ·
   exact .inl ⟨r,rfl,h6⟩
  ·
   exact .inr ⟨er,evt,ev,rfl,h6⟩
 have cx:=hc.cx;have c0:=hc.c0;have eg:=Zcf;have hmf:∀ (fn:Fn) (first cap:Array Value) (w:World),(Instr.makeFunc fn first cap).run Tryz.prog w=.ok (.func fn first cap) w:=fun _ _ _ _=>rfl
 rw[<- hP];clear hP hm hlt hx hk hn he hA hw1 hb1 hc hat hle IH hg;rcases h5 with rfl|rfl|rfl
 ·
  have HALL:=Hd (hall.out _ 0 (Zze ▸ Yan hK) Zrs rfl (by funext ρ;rfl));clear hall
  go_enter Tryz.func124,Tryz.ntmps124
  go_upto_region 1 with fail;rw[HW1.out];go_wp2_with fail;refine HALL.out.mono ?_;rintro e w' (⟨r,rfl,hp⟩|⟨er,evt,ev,rfl,hp⟩)
  ·
   have HR:=Hd hp;clear hp HALL;go_wp2_with fail;exact HR.out
  ·
   have HR:=Hd hp;clear hp HALL;unfold Zb2;go_wp2_with fail;exact⟨rfl,HR.out⟩
 ·
  have HALL:=Hd (hall.out _ 1 (Zzf ▸ Yap hK) Zny rfl (by funext ρ;rfl));clear hall
  go_enter Tryz.func124,Tryz.ntmps124
  go_upto_region 1 with fail;rw[HW1.out];go_wp2_with fail;refine HALL.out.mono ?_;rintro e w' (⟨r,rfl,hp⟩|⟨er,evt,ev,rfl,hp⟩)
  ·
   have HR:=Hd hp;clear hp HALL;go_wp2_with fail;exact HR.out
  ·
   have HR:=Hd hp;clear hp HALL;unfold Zb2;go_wp2_with fail;exact⟨rfl,HR.out⟩
 ·
  have HALL:=Hd (hall.out _ 1 (Zzg ▸ Yaq hK) Zrx rfl (by funext ρ;rfl));clear hall
  go_enter Tryz.func124,Tryz.ntmps124
  go_upto_region 1 with fail;rw[HW1.out];go_wp2_with fail;refine HALL.out.mono ?_;rintro e w' (⟨r,rfl,hp⟩|⟨er,evt,ev,rfl,hp⟩)
  ·
   have HR:=Hd hp;clear hp HALL;go_wp2_with fail;exact HR.out
  ·
   have HR:=Hd hp;clear hp HALL;unfold Zb2;go_wp2_with fail;exact⟨rfl,HR.out⟩
end
open Go.RowKit
section
variable {K:Law} {n:Nat} {op v:Int} {nk:Nat} {kid:Nat->ExT}
theorem Zi3 (op:Int) (h:op=1\/op=2):Zc5 K n (.mk op v nk kid):=by
 intro A o w xb mb m V x hm hlt hx hk hn he hA;obtain⟨a,c,rfl,w1,hw1,hb1,hc⟩:=Zjz hm hlt hx hk hn he hA;have HW1:Hid (_=w1):=Hd hw1.symm;have hat:AtC K 0 o w mb m V o w1 m V:=(AtC.refl hm hlt hk).below hb1;obtain⟨P,hP⟩:∃ P:Ending->World->Prop,P=Zck K (Zce n (.mk op v nk kid)) o w mb m V fun _ V' r=>ef V' r=fnT (.mk op v nk kid):=⟨_,rfl⟩
 have eg:=Zcf;have hmf:∀ (fn:Fn) (first cap:Array Value) (w:World),(Instr.makeFunc fn first cap).run Tryz.prog w=.ok (.func fn first cap) w:=fun _ _ _ _=>rfl
 have hf:∀ e0:Nat,e0/2=0->Zd7 e0=(fun _=>decide (op=1))->P (.returned (.int .i64 (e0:Nat))) w1:=fun e0 h0 h1=>by
  rw[hP];exact .inl ⟨e0,o,m,V,rfl,hat.mono (by omega),.inl h0,by show ef V e0=_;rw[Zj8 h,Zht hk h0];exact h1⟩
 have c0:=hc.c0;have cx:=hc.cx;rw[<- hP];clear hP hm hlt hx hk hn he hA hw1 hb1 hc hat;rcases h with rfl|rfl
 ·
  have HF:=Hd (hf 0 rfl (by funext ρ;rfl));clear hf
  go_enter Tryz.func124,Tryz.ntmps124
  go_upto_region 1 with fail;rw[HW1.out];go_wp2_with fail;exact HF.out
 ·
  have HF:=Hd (hf 1 rfl (by funext ρ;rfl));clear hf
  go_enter Tryz.func124,Tryz.ntmps124
  go_upto_region 1 with fail;rw[HW1.out];go_wp2_with fail;exact HF.out
theorem Zrl (hK:Zbp K) (hg:Zkz n (.mk 3 v nk kid)):Zc5 K n (.mk 3 v nk kid):=by
 obtain⟨q,hq⟩:∃ q:Nat,v=(q:Nat):=⟨v.toNat,by have:=hg.var.1;omega⟩;subst hq;have hqn:q<n:=by have:=hg.var.2;omega
 intro A o w xb mb m V x hm hlt hx hk hn he hA;obtain⟨a,c,rfl,w1,hw1,hb1,hc⟩:=Zjz hm hlt hx hk hn he hA;have HW1:Hid (_=w1):=Hd hw1.symm;have hat:AtC K 0 o w mb m V o w1 m V:=(AtC.refl hm hlt hk).below hb1;obtain⟨P,hP⟩:∃ P:Ending->World->Prop,P=Zck K (Zce n (.mk 3 (q:Nat) nk kid)) o w mb m V fun _ V' r=>ef V' r=fnT (.mk 3 (q:Nat) nk kid):=⟨_,rfl⟩
 have eg:=Zcf;have hmf:∀ (fn:Fn) (first cap:Array Value) (w:World),(Instr.makeFunc fn first cap).run Tryz.prog w=.ok (.func fn first cap) w:=fun _ _ _ _=>rfl
 have hle:0+1<=Zce n (.mk 3 (q:Nat) nk kid):=by
  unfold Zce;have h1:=ExT.size_pos (.mk 3 (q:Nat) nk kid);have h2:2^1<=2^n:=Nat.pow_le_pow_right (by omega) (by omega);have h3:1*1<=(2*(ExT.mk 3 (q:Nat) nk kid).size-1)*(2^n-1):=Nat.mul_le_mul (by omega) (by omega);omega
 have HV:Hid (Calls Tryz.prog 77 #[.pointer (some ⟨xb,0,none⟩),.int .i64 q,.int .i64 1,.int .i64 0] w1 fun e w'=>(∃ r:Nat,e=.returned (.int .i64 r)/\P (.returned (.int .i64 r)) w')\/∃ er evt ev,e=Zb2 er evt ev/\P (Zb2 er evt ev) w'):=Hd ((Zwb hK hc.is hc.lt hc.ctx hc.ok q (by rw[hc.vars];exact hqn)).mono fun e w' hh=>by
  have h6:P e w':=by
   rw[hP,Zt7];exact hh.base hat hle
  rcases hh.kind with ⟨r,rfl⟩|⟨er,evt,ev,rfl⟩
  ·
   exact .inl ⟨r,rfl,h6⟩
  ·
   exact .inr ⟨er,evt,ev,rfl,h6⟩)
 have c0:=hc.c0;have c1:=hc.c1;have cx:=hc.cx;rw[<- hP];clear hP hm hlt hx hk hn he hA hw1 hb1 hc hat hle hg
 go_enter Tryz.func124,Tryz.ntmps124
 go_upto_region 1 with fail;rw[HW1.out];go_wp2_with fail;refine HV.out.mono ?_;rintro e w' (⟨r,rfl,hp⟩|⟨er,evt,ev,rfl,hp⟩)
 ·
  have HR:=Hd hp;clear hp HV;go_wp2_with fail;exact HR.out
 ·
  have HR:=Hd hp;clear hp HV;unfold Zb2;go_wp2_with fail;exact⟨rfl,HR.out⟩
theorem Zrk (hK:Zbp K) (IH:∀ i,i<1->Zc5 K n (kid i)):Zc5 K n (.mk 4 v 1 kid):=by
 intro A o w xb mb m V x hm hlt hx hk hn he hA;obtain⟨a,c,rfl,w1,hw1,hb1,hc⟩:=Zjz hm hlt hx hk hn he hA;have HW1:Hid (_=w1):=Hd hw1.symm;have hat:AtC K 0 o w mb m V o w1 m V:=(AtC.refl hm hlt hk).below hb1;obtain⟨P,hP⟩:∃ P:Ending->World->Prop,P=Zck K (Zce n (.mk 4 v 1 kid)) o w mb m V fun _ V' r=>ef V' r=fnT (.mk 4 v 1 kid):=⟨_,rfl⟩
 have eg:=Zcf;have hmf:∀ (fn:Fn) (first cap:Array Value) (w:World),(Instr.makeFunc fn first cap).run Tryz.prog w=.ok (.func fn first cap) w:=fun _ _ _ _=>rfl
 have hle:0+Zce n (kid 0)<=Zce n (.mk 4 v 1 kid):=by
  have h0:=ExT.size_pos (kid 0);unfold Zce;rw[show (ExT.mk 4 v 1 kid).size=1+(0+(kid 0).size) from rfl,Nat.zero_add,Nat.zero_add];exact Nat.mul_le_mul_right _ (by omega)
 have hs0:AtC K 0 o w mb m V o w1.drew m V:=hat.below (Zai w1 1);have hcd:BuC K n A o w1.drew xb mb m V w.heap.size (w.heap.size+1) 4 v a 1 c kid:=by
  obtain⟨s,hs⟩:=hc.is
  exact⟨⟨s,hs.below hc.lt (Zai w1 1)⟩,hc.lt,⟨hc.ctx.cell,hc.ctx.own⟩,hc.ok,hc.vars,hc.cx,hc.c0,hc.c1,hc.c2,hc.nx,hc.ne,hc.blk,fun k hk=>by
   obtain⟨b,off,x0,x1,x2,h1,h2,h3,h4,h5,h6⟩:=hc.kids k hk;exact⟨b,off,x0,x1,x2,h1,h2,h3,h4,h5,Zbg.keep (w:=w1) (w':=w1.drew) (fun _ _=>rfl) _ h6⟩⟩
 have hr0:AtC K 0 o w1.drew mb m V o w1.drew m V:=AtC.refl hcd.is hcd.lt hcd.ok;obtain⟨b0,off0,x00,x01,x02,ha0,hA0,k00,k01,k02,hx0⟩:=hcd.kids 0 (by omega);obtain⟨op0,v0,a0,n0,cc0,rfl,rfl,rfl⟩:=(Zbg.at _ hx0).shape;subst ha0;have hTA:BuT A w.heap.size (w.heap.size+1) b0:=.inr (.inr hA0);obtain⟨Z,hZ⟩:∃ Z,Z=Zce n (.mk 4 v 1 kid):=⟨_,rfl⟩;rw[<- hZ] at hle hP ⊢;obtain⟨P1,hP1⟩:∃ P1:Ending->World->Prop,P1=Zck K Z o w1.drew mb m V fun _ V' r=>ef V' r=fnT (.mk 4 v 1 kid):=⟨_,rfl⟩
 have HP1:Hid (∀ e w',P1 e w'->P e w'):=by rw[hP,hP1];exact Hd fun e w' hh=>hh.base hs0 (by omega)
 have HK:Hid (Calls Tryz.prog 124 #[.pointer (some ⟨xb,0,none⟩),.agg #[.int .i64 op0,.int .i64 v0,.slice a0 n0 cc0]] w1.drew fun e w2=>(∃ v,e=.returned v/\Zb8 (BuT A w.heap.size (w.heap.size+1)) w1.drew w2/\∃ r0:Nat,v=.int .i64 r0/\∃ q:Nat,(Calls Tryz.prog 101 #[.int .i64 r0] w2 fun e w'=>e=.returned (.int .i64 q)/\w2=w')/\P1 (.returned (.int .i64 q)) w2)\/(∃ ch,e=.panicked ch/\P1 (.panicked ch) w2)):=by
  rw[hP1];refine Hd ?_;refine(Zi2 (k:=Z) IH hcd hr0 (Zb8.refl _ _) (i:=0) (by omega) hx0 (by omega) (A':=fun _ V' r=>ef V' r=fnT (.mk 4 v 1 kid))).mono ?_;rintro e w2 (⟨_,rfl,hs2,r0,o2,m2,V2,rfl,at2,st2,ok2,ef2⟩|hp)
  rotate_left
  ·
   exact .inr hp
  refine .inl ⟨_,rfl,hs2,r0,rfl,?_⟩;exact⟨enot r0,Zyx at2.st.is ok2,.inl ⟨enot r0,o2,m2,V2,rfl,at2.mono (by omega),Zh6 ok2,by show ef V2 (enot r0)=_;rw[Zt6,Zma,ef2]⟩⟩
 have c0:=hc.c0;have c2:=hc.c2;have cx:=hc.cx;have cxd:=hcd.cx;have c2d:=hcd.c2;rw[<- hP];clear hP hP1 hZ hm hlt hx hk hn he hA hw1 hb1 hc hat hle hs0 hcd hr0 IH hx0
 go_enter Tryz.func124,Tryz.ntmps124
 go_upto_region 1 with fail;rw[HW1.out];go_upto_region 8 with fail;refine Zh5 [0,1,2,3,4,5,6,7] (fun W=>Zb8 (BuT A w.heap.size (w.heap.size+1)) w1.drew W) (fun ch w'=>P1 (.panicked ch) w') (fun c a w hd h=>⟨hd,HP1.out _ _ h⟩) (by kernel_rfl) (Zb8.refl _ _) ?_
 iterate 5
  refine Ze3 rfl rfl (by kernel_rfl) ?_;apply Exists.intro;refine⟨fun w' hw=>?_,?_⟩
  ·
   have qx:=hw _ _ (Or.inl rfl) cxd;have q2:=hw _ _ (Or.inr (Or.inl rfl)) c2d;have q00:=(by simpa using hw _ _ hTA k00:w'.cell? ⟨b0,off0,none⟩=_);have q01:=(by simpa using hw _ _ hTA k01:w'.cell? ⟨b0,off0+1,none⟩=_);have q02:=(by simpa using hw _ _ hTA k02:w'.cell? ⟨b0,off0+2,none⟩=_);go_simp;rfl
  simp only[Zah]
 refine Zdo rfl (by kernel_rfl) rfl rfl (by go_simp) HK.out ?_;rintro u w2 hS ⟨r0,rfl,hst⟩;have HK1:=Hd hst;have HS2:=Hd hS;clear hst hS HK;simp only[Zah];obtain⟨q,hn,hp⟩:=HK1.out;refine Zw5 (R1:=fun u w'=>u=.int .i64 q/\w2=w') rfl (by kernel_rfl) rfl rfl (by go_simp) (hn.mono fun e w' h=>⟨_,h.1,rfl,h.2⟩) (by rintro u w' ⟨_,rfl⟩;exact HS2.out) ?_;rintro u w' hS ⟨rfl,rfl⟩;have HF:=Hd (HP1.out _ _ hp);clear hn hp hS HK1;simp only[Zah]
 iterate 1
  refine Ze3 rfl rfl (by kernel_rfl) ?_;apply Exists.intro;refine⟨fun w' hw=>?_,?_⟩
  ·
   go_simp;rfl
  simp only[Zah]
 refine Zok (by kernel_rfl) ?_;clear k00 k01 k02 c0 c2 cx cxd c2d;go_wp2_with fail;exact HF.out
theorem Zri (hK:Zbp K) (IH:∀ i,i<2->Zc5 K n (kid i)):Zc5 K n (.mk 8 v 2 kid):=by
 intro A o w xb mb m V x hm hlt hx hk hn he hA;obtain⟨a,c,rfl,w1,hw1,hb1,hc⟩:=Zjz hm hlt hx hk hn he hA;have HW1:Hid (_=w1):=Hd hw1.symm;have hat:AtC K 0 o w mb m V o w1 m V:=(AtC.refl hm hlt hk).below hb1;obtain⟨P,hP⟩:∃ P:Ending->World->Prop,P=Zck K (Zce n (.mk 8 v 2 kid)) o w mb m V fun _ V' r=>ef V' r=fnT (.mk 8 v 2 kid):=⟨_,rfl⟩
 have eg:=Zcf;have hmf:∀ (fn:Fn) (first cap:Array Value) (w:World),(Instr.makeFunc fn first cap).run Tryz.prog w=.ok (.func fn first cap) w:=fun _ _ _ _=>rfl
 have hle:0+Zce n (kid 0)+Zce n (kid 1)+(2^n-1)<=Zce n (.mk 8 v 2 kid):=by
  have h0:=ExT.size_pos (kid 0);have h1:=ExT.size_pos (kid 1);unfold Zce;rw[show (ExT.mk 8 v 2 kid).size=1+(0+(kid 0).size+(kid 1).size) from rfl,Nat.zero_add,Nat.zero_add];rw[<- Nat.add_mul,<- Nat.succ_mul];exact Nat.mul_le_mul_right _ (by omega)
 have hs0:AtC K 0 o w mb m V o w1.drew m V:=hat.below (Zai w1 1);have hcd:BuC K n A o w1.drew xb mb m V w.heap.size (w.heap.size+1) 8 v a 2 c kid:=by
  obtain⟨s,hs⟩:=hc.is
  exact⟨⟨s,hs.below hc.lt (Zai w1 1)⟩,hc.lt,⟨hc.ctx.cell,hc.ctx.own⟩,hc.ok,hc.vars,hc.cx,hc.c0,hc.c1,hc.c2,hc.nx,hc.ne,hc.blk,fun k hk=>by
   obtain⟨b,off,x0,x1,x2,h1,h2,h3,h4,h5,h6⟩:=hc.kids k hk;exact⟨b,off,x0,x1,x2,h1,h2,h3,h4,h5,Zbg.keep (w:=w1) (w':=w1.drew) (fun _ _=>rfl) _ h6⟩⟩
 have hr0:AtC K 0 o w1.drew mb m V o w1.drew m V:=AtC.refl hcd.is hcd.lt hcd.ok;obtain⟨b0,off0,x00,x01,x02,ha0,hA0,k00,k01,k02,hx0⟩:=hcd.kids 0 (by omega);obtain⟨op0,v0,a0,n0,cc0,rfl,rfl,rfl⟩:=(Zbg.at _ hx0).shape;obtain⟨b1,off1,x10,x11,x12,ha1,hA1,k10,k11,k12,hx1⟩:=hcd.kids 1 (by omega);obtain⟨op1,v1,a1,n1,cc1,rfl,rfl,rfl⟩:=(Zbg.at _ hx1).shape;subst ha0;cases ha1;have hTA:BuT A w.heap.size (w.heap.size+1) b0:=.inr (.inr hA0);obtain⟨Z,hZ⟩:∃ Z,Z=Zce n (.mk 8 v 2 kid):=⟨_,rfl⟩;rw[<- hZ] at hle hP ⊢;obtain⟨P1,hP1⟩:∃ P1:Ending->World->Prop,P1=Zck K Z o w1.drew mb m V fun _ V' r=>ef V' r=fnT (.mk 8 v 2 kid):=⟨_,rfl⟩
 have HP1:Hid (∀ e w',P1 e w'->P e w'):=by rw[hP,hP1];exact Hd fun e w' hh=>hh.base hs0 (by omega)
 have HK:Hid (Calls Tryz.prog 124 #[.pointer (some ⟨xb,0,none⟩),.agg #[.int .i64 op0,.int .i64 v0,.slice a0 n0 cc0]] w1.drew fun e w2=>(∃ v,e=.returned v/\Zb8 (BuT A w.heap.size (w.heap.size+1)) w1.drew w2/\∃ r0:Nat,v=.int .i64 r0/\Calls Tryz.prog 124 #[.pointer (some ⟨xb,0,none⟩),.agg #[.int .i64 op1,.int .i64 v1,.slice a1 n1 cc1]] w2 fun e w3=>(∃ v,e=.returned v/\Zb8 (BuT A w.heap.size (w.heap.size+1)) w1.drew w3/\∃ r1:Nat,v=.int .i64 r1/\Calls Tryz.prog 120 #[.pointer (some ⟨xb,0,none⟩),.int .i64 r0,.int .i64 r1] w3 fun e w'=>(∃ v,e=.returned v/\Zb8 (BuT A w.heap.size (w.heap.size+1)) w1.drew w'/\∃ r:Nat,v=.int .i64 r/\P1 (.returned (.int .i64 r)) w')\/(∃ ch,e=.panicked ch/\P1 (.panicked ch) w'))\/(∃ ch,e=.panicked ch/\P1 (.panicked ch) w3))\/(∃ ch,e=.panicked ch/\P1 (.panicked ch) w2)):=by
  rw[hP1];refine Hd ?_;refine(Zi2 (k:=Z) IH hcd hr0 (Zb8.refl _ _) (i:=0) (by omega) hx0 (by omega) (A':=fun _ V' r=>ef V' r=fnT (.mk 8 v 2 kid))).mono ?_;rintro e w2 (⟨_,rfl,hs2,r0,o2,m2,V2,rfl,at2,st2,ok2,ef2⟩|hp)
  rotate_left
  ·
   exact .inr hp
  refine .inl ⟨_,rfl,hs2,r0,rfl,?_⟩;refine(Zi2 (k:=Z) IH hcd at2 hs2 (i:=1) (by omega) hx1 (by omega) (A':=fun _ V' r=>ef V' r=fnT (.mk 8 v 2 kid))).mono ?_;rintro e w3 (⟨_,rfl,hs3,r1,o3,m3,V3,rfl,at3,st3,ok3,ef3⟩|hp)
  rotate_left
  ·
   exact .inr hp
  refine .inl ⟨_,rfl,hs3,r1,rfl,?_⟩;have okk0_1:=st3.ext.ok ok2;have eff0_1:=(st3.ext.ef ok2).trans ef2;have oka0:=okk0_1;have efa0:=eff0_1;have oka1:=ok3;have efa1:=ef3;refine Zy6 at3 hs3 (hcd.none at3) (Zyb hK o3 w3 xb mb m3 V3 r0 r1 at3.st.is at3.st.lt (hcd.ctx.chg at3.st.chg) at3.st.ok (at3.vars hcd.vars) oka0 oka1) (by omega) (fun d V2 r hh=>?_)
  show ef V2 r=_
  rw[Zmf (by omega),Zzh];rw[hh,efa0,efa1]
 have c0:=hc.c0;have c2:=hc.c2;have cx:=hc.cx;have cxd:=hcd.cx;have c2d:=hcd.c2;rw[<- hP];clear hP hP1 hZ hm hlt hx hk hn he hA hw1 hb1 hc hat hle hs0 hcd hr0 IH hx0 hx1
 go_enter Tryz.func124,Tryz.ntmps124
 go_upto_region 1 with fail;rw[HW1.out];go_upto_region 16 with fail;refine Zh5 [0,1,2,3,4,5,7,8,9,10,11,6,12,13,14] (fun W=>Zb8 (BuT A w.heap.size (w.heap.size+1)) w1.drew W) (fun ch w'=>P1 (.panicked ch) w') (fun c a w hd h=>⟨hd,HP1.out _ _ h⟩) (by kernel_rfl) (Zb8.refl _ _) ?_
 iterate 11
  refine Ze3 rfl rfl (by kernel_rfl) ?_;apply Exists.intro;refine⟨fun w' hw=>?_,?_⟩
  ·
   have qx:=hw _ _ (Or.inl rfl) cxd;have q2:=hw _ _ (Or.inr (Or.inl rfl)) c2d;have q00:=(by simpa using hw _ _ hTA k00:w'.cell? ⟨b0,off0,none⟩=_);have q01:=(by simpa using hw _ _ hTA k01:w'.cell? ⟨b0,off0+1,none⟩=_);have q02:=(by simpa using hw _ _ hTA k02:w'.cell? ⟨b0,off0+2,none⟩=_);have q10:=(by simpa using hw _ _ hTA k10:w'.cell? ⟨b0,off0+3,none⟩=_);have q11:=(by simpa using hw _ _ hTA k11:w'.cell? ⟨b0,off0+4,none⟩=_);have q12:=(by simpa using hw _ _ hTA k12:w'.cell? ⟨b0,off0+5,none⟩=_);go_simp;rfl
  simp only[Zah]
 refine Zdo rfl (by kernel_rfl) rfl rfl (by go_simp) HK.out ?_;rintro u w2 hS ⟨r0,rfl,hst⟩;have HK1:=Hd hst;clear hst hS HK;simp only[Zah];refine Zdo rfl (by kernel_rfl) rfl rfl (by go_simp) HK1.out ?_;rintro u w3 hS ⟨r1,rfl,hst⟩;have HK2:=Hd hst;clear hst hS HK1;simp only[Zah];refine Zdo rfl (by kernel_rfl) rfl rfl (by go_simp) HK2.out ?_;rintro u w' hS ⟨r,rfl,hp⟩;have HF:=Hd (HP1.out _ _ hp);clear hp hS HK2;simp only[Zah]
 iterate 1
  refine Ze3 rfl rfl (by kernel_rfl) ?_;apply Exists.intro;refine⟨fun w' hw=>?_,?_⟩
  ·
   go_simp;rfl
  simp only[Zah]
 refine Zok (by kernel_rfl) ?_;clear k00 k01 k02 k10 k11 k12 c0 c2 cx cxd c2d;go_wp2_with fail;exact HF.out
theorem Zrh (hK:Zbp K) (IH:∀ i,i<2->Zc5 K n (kid i)):Zc5 K n (.mk 9 v 2 kid):=by
 intro A o w xb mb m V x hm hlt hx hk hn he hA;obtain⟨a,c,rfl,w1,hw1,hb1,hc⟩:=Zjz hm hlt hx hk hn he hA;have HW1:Hid (_=w1):=Hd hw1.symm;have hat:AtC K 0 o w mb m V o w1 m V:=(AtC.refl hm hlt hk).below hb1;obtain⟨P,hP⟩:∃ P:Ending->World->Prop,P=Zck K (Zce n (.mk 9 v 2 kid)) o w mb m V fun _ V' r=>ef V' r=fnT (.mk 9 v 2 kid):=⟨_,rfl⟩
 have eg:=Zcf;have hmf:∀ (fn:Fn) (first cap:Array Value) (w:World),(Instr.makeFunc fn first cap).run Tryz.prog w=.ok (.func fn first cap) w:=fun _ _ _ _=>rfl
 have hle:0+Zce n (kid 0)+Zce n (kid 1)+(2^n-1)<=Zce n (.mk 9 v 2 kid):=by
  have h0:=ExT.size_pos (kid 0);have h1:=ExT.size_pos (kid 1);unfold Zce;rw[show (ExT.mk 9 v 2 kid).size=1+(0+(kid 0).size+(kid 1).size) from rfl,Nat.zero_add,Nat.zero_add];rw[<- Nat.add_mul,<- Nat.succ_mul];exact Nat.mul_le_mul_right _ (by omega)
 have hs0:AtC K 0 o w mb m V o w1.drew m V:=hat.below (Zai w1 1);have hcd:BuC K n A o w1.drew xb mb m V w.heap.size (w.heap.size+1) 9 v a 2 c kid:=by
  obtain⟨s,hs⟩:=hc.is
  exact⟨⟨s,hs.below hc.lt (Zai w1 1)⟩,hc.lt,⟨hc.ctx.cell,hc.ctx.own⟩,hc.ok,hc.vars,hc.cx,hc.c0,hc.c1,hc.c2,hc.nx,hc.ne,hc.blk,fun k hk=>by
   obtain⟨b,off,x0,x1,x2,h1,h2,h3,h4,h5,h6⟩:=hc.kids k hk;exact⟨b,off,x0,x1,x2,h1,h2,h3,h4,h5,Zbg.keep (w:=w1) (w':=w1.drew) (fun _ _=>rfl) _ h6⟩⟩
 have hr0:AtC K 0 o w1.drew mb m V o w1.drew m V:=AtC.refl hcd.is hcd.lt hcd.ok;obtain⟨b0,off0,x00,x01,x02,ha0,hA0,k00,k01,k02,hx0⟩:=hcd.kids 0 (by omega);obtain⟨op0,v0,a0,n0,cc0,rfl,rfl,rfl⟩:=(Zbg.at _ hx0).shape;obtain⟨b1,off1,x10,x11,x12,ha1,hA1,k10,k11,k12,hx1⟩:=hcd.kids 1 (by omega);obtain⟨op1,v1,a1,n1,cc1,rfl,rfl,rfl⟩:=(Zbg.at _ hx1).shape;subst ha0;cases ha1;have hTA:BuT A w.heap.size (w.heap.size+1) b0:=.inr (.inr hA0);obtain⟨Z,hZ⟩:∃ Z,Z=Zce n (.mk 9 v 2 kid):=⟨_,rfl⟩;rw[<- hZ] at hle hP ⊢;obtain⟨P1,hP1⟩:∃ P1:Ending->World->Prop,P1=Zck K Z o w1.drew mb m V fun _ V' r=>ef V' r=fnT (.mk 9 v 2 kid):=⟨_,rfl⟩
 have HP1:Hid (∀ e w',P1 e w'->P e w'):=by rw[hP,hP1];exact Hd fun e w' hh=>hh.base hs0 (by omega)
 have HK:Hid (Calls Tryz.prog 124 #[.pointer (some ⟨xb,0,none⟩),.agg #[.int .i64 op0,.int .i64 v0,.slice a0 n0 cc0]] w1.drew fun e w2=>(∃ v,e=.returned v/\Zb8 (BuT A w.heap.size (w.heap.size+1)) w1.drew w2/\∃ r0:Nat,v=.int .i64 r0/\Calls Tryz.prog 124 #[.pointer (some ⟨xb,0,none⟩),.agg #[.int .i64 op1,.int .i64 v1,.slice a1 n1 cc1]] w2 fun e w3=>(∃ v,e=.returned v/\Zb8 (BuT A w.heap.size (w.heap.size+1)) w1.drew w3/\∃ r1:Nat,v=.int .i64 r1/\Calls Tryz.prog 175 #[.pointer (some ⟨xb,0,none⟩),.int .i64 r0,.int .i64 r1] w3 fun e w'=>(∃ v,e=.returned v/\Zb8 (BuT A w.heap.size (w.heap.size+1)) w1.drew w'/\∃ r:Nat,v=.int .i64 r/\P1 (.returned (.int .i64 r)) w')\/(∃ ch,e=.panicked ch/\P1 (.panicked ch) w'))\/(∃ ch,e=.panicked ch/\P1 (.panicked ch) w3))\/(∃ ch,e=.panicked ch/\P1 (.panicked ch) w2)):=by
  rw[hP1];refine Hd ?_;refine(Zi2 (k:=Z) IH hcd hr0 (Zb8.refl _ _) (i:=0) (by omega) hx0 (by omega) (A':=fun _ V' r=>ef V' r=fnT (.mk 9 v 2 kid))).mono ?_;rintro e w2 (⟨_,rfl,hs2,r0,o2,m2,V2,rfl,at2,st2,ok2,ef2⟩|hp)
  rotate_left
  ·
   exact .inr hp
  refine .inl ⟨_,rfl,hs2,r0,rfl,?_⟩;refine(Zi2 (k:=Z) IH hcd at2 hs2 (i:=1) (by omega) hx1 (by omega) (A':=fun _ V' r=>ef V' r=fnT (.mk 9 v 2 kid))).mono ?_;rintro e w3 (⟨_,rfl,hs3,r1,o3,m3,V3,rfl,at3,st3,ok3,ef3⟩|hp)
  rotate_left
  ·
   exact .inr hp
  refine .inl ⟨_,rfl,hs3,r1,rfl,?_⟩;have okk0_1:=st3.ext.ok ok2;have eff0_1:=(st3.ext.ef ok2).trans ef2;have oka0:=okk0_1;have efa0:=eff0_1;have oka1:=ok3;have efa1:=ef3;refine Zy6 at3 hs3 (hcd.none at3) (Yao hK o3 w3 xb mb m3 V3 r0 r1 at3.st.is at3.st.lt (hcd.ctx.chg at3.st.chg) at3.st.ok (at3.vars hcd.vars) oka0 oka1) (by omega) (fun d V2 r hh=>?_)
  show ef V2 r=_
  rw[Zmf (by omega),Zzi];rw[hh,efa0,efa1]
 have c0:=hc.c0;have c2:=hc.c2;have cx:=hc.cx;have cxd:=hcd.cx;have c2d:=hcd.c2;rw[<- hP];clear hP hP1 hZ hm hlt hx hk hn he hA hw1 hb1 hc hat hle hs0 hcd hr0 IH hx0 hx1
 go_enter Tryz.func124,Tryz.ntmps124
 go_upto_region 1 with fail;rw[HW1.out];go_upto_region 18 with fail;refine Zh5 [0,1,2,3,4,5,7,8,9,10,11,6,12,13,14] (fun W=>Zb8 (BuT A w.heap.size (w.heap.size+1)) w1.drew W) (fun ch w'=>P1 (.panicked ch) w') (fun c a w hd h=>⟨hd,HP1.out _ _ h⟩) (by kernel_rfl) (Zb8.refl _ _) ?_
 iterate 11
  refine Ze3 rfl rfl (by kernel_rfl) ?_;apply Exists.intro;refine⟨fun w' hw=>?_,?_⟩
  ·
   have qx:=hw _ _ (Or.inl rfl) cxd;have q2:=hw _ _ (Or.inr (Or.inl rfl)) c2d;have q00:=(by simpa using hw _ _ hTA k00:w'.cell? ⟨b0,off0,none⟩=_);have q01:=(by simpa using hw _ _ hTA k01:w'.cell? ⟨b0,off0+1,none⟩=_);have q02:=(by simpa using hw _ _ hTA k02:w'.cell? ⟨b0,off0+2,none⟩=_);have q10:=(by simpa using hw _ _ hTA k10:w'.cell? ⟨b0,off0+3,none⟩=_);have q11:=(by simpa using hw _ _ hTA k11:w'.cell? ⟨b0,off0+4,none⟩=_);have q12:=(by simpa using hw _ _ hTA k12:w'.cell? ⟨b0,off0+5,none⟩=_);go_simp;rfl
  simp only[Zah]
 refine Zdo rfl (by kernel_rfl) rfl rfl (by go_simp) HK.out ?_;rintro u w2 hS ⟨r0,rfl,hst⟩;have HK1:=Hd hst;clear hst hS HK;simp only[Zah];refine Zdo rfl (by kernel_rfl) rfl rfl (by go_simp) HK1.out ?_;rintro u w3 hS ⟨r1,rfl,hst⟩;have HK2:=Hd hst;clear hst hS HK1;simp only[Zah];refine Zdo rfl (by kernel_rfl) rfl rfl (by go_simp) HK2.out ?_;rintro u w' hS ⟨r,rfl,hp⟩;have HF:=Hd (HP1.out _ _ hp);clear hp hS HK2;simp only[Zah]
 iterate 1
  refine Ze3 rfl rfl (by kernel_rfl) ?_;apply Exists.intro;refine⟨fun w' hw=>?_,?_⟩
  ·
   go_simp;rfl
  simp only[Zah]
 refine Zok (by kernel_rfl) ?_;clear k00 k01 k02 k10 k11 k12 c0 c2 cx cxd c2d;go_wp2_with fail;exact HF.out
theorem Zrj (hK:Zbp K) (IH:∀ i,i<3->Zc5 K n (kid i)):Zc5 K n (.mk 10 v 3 kid):=by
 intro A o w xb mb m V x hm hlt hx hk hn he hA;obtain⟨a,c,rfl,w1,hw1,hb1,hc⟩:=Zjz hm hlt hx hk hn he hA;have HW1:Hid (_=w1):=Hd hw1.symm;have hat:AtC K 0 o w mb m V o w1 m V:=(AtC.refl hm hlt hk).below hb1;obtain⟨P,hP⟩:∃ P:Ending->World->Prop,P=Zck K (Zce n (.mk 10 v 3 kid)) o w mb m V fun _ V' r=>ef V' r=fnT (.mk 10 v 3 kid):=⟨_,rfl⟩
 have eg:=Zcf;have hmf:∀ (fn:Fn) (first cap:Array Value) (w:World),(Instr.makeFunc fn first cap).run Tryz.prog w=.ok (.func fn first cap) w:=fun _ _ _ _=>rfl
 have hle:0+Zce n (kid 0)+Zce n (kid 1)+Zce n (kid 2)+(2^n-1)<=Zce n (.mk 10 v 3 kid):=by
  have h0:=ExT.size_pos (kid 0);have h1:=ExT.size_pos (kid 1);have h2:=ExT.size_pos (kid 2);unfold Zce;rw[show (ExT.mk 10 v 3 kid).size=1+(0+(kid 0).size+(kid 1).size+(kid 2).size) from rfl,Nat.zero_add,Nat.zero_add];rw[<- Nat.add_mul,<- Nat.add_mul,<- Nat.succ_mul];exact Nat.mul_le_mul_right _ (by omega)
 have hs0:AtC K 0 o w mb m V o w1.drew m V:=hat.below (Zai w1 1);have hcd:BuC K n A o w1.drew xb mb m V w.heap.size (w.heap.size+1) 10 v a 3 c kid:=by
  obtain⟨s,hs⟩:=hc.is
  exact⟨⟨s,hs.below hc.lt (Zai w1 1)⟩,hc.lt,⟨hc.ctx.cell,hc.ctx.own⟩,hc.ok,hc.vars,hc.cx,hc.c0,hc.c1,hc.c2,hc.nx,hc.ne,hc.blk,fun k hk=>by
   obtain⟨b,off,x0,x1,x2,h1,h2,h3,h4,h5,h6⟩:=hc.kids k hk;exact⟨b,off,x0,x1,x2,h1,h2,h3,h4,h5,Zbg.keep (w:=w1) (w':=w1.drew) (fun _ _=>rfl) _ h6⟩⟩
 have hr0:AtC K 0 o w1.drew mb m V o w1.drew m V:=AtC.refl hcd.is hcd.lt hcd.ok;obtain⟨b0,off0,x00,x01,x02,ha0,hA0,k00,k01,k02,hx0⟩:=hcd.kids 0 (by omega);obtain⟨op0,v0,a0,n0,cc0,rfl,rfl,rfl⟩:=(Zbg.at _ hx0).shape;obtain⟨b1,off1,x10,x11,x12,ha1,hA1,k10,k11,k12,hx1⟩:=hcd.kids 1 (by omega);obtain⟨op1,v1,a1,n1,cc1,rfl,rfl,rfl⟩:=(Zbg.at _ hx1).shape;obtain⟨b2,off2,x20,x21,x22,ha2,hA2,k20,k21,k22,hx2⟩:=hcd.kids 2 (by omega);obtain⟨op2,v2,a2,n2,cc2,rfl,rfl,rfl⟩:=(Zbg.at _ hx2).shape;subst ha0;cases ha1;cases ha2;have hTA:BuT A w.heap.size (w.heap.size+1) b0:=.inr (.inr hA0);obtain⟨Z,hZ⟩:∃ Z,Z=Zce n (.mk 10 v 3 kid):=⟨_,rfl⟩;rw[<- hZ] at hle hP ⊢;obtain⟨P1,hP1⟩:∃ P1:Ending->World->Prop,P1=Zck K Z o w1.drew mb m V fun _ V' r=>ef V' r=fnT (.mk 10 v 3 kid):=⟨_,rfl⟩
 have HP1:Hid (∀ e w',P1 e w'->P e w'):=by rw[hP,hP1];exact Hd fun e w' hh=>hh.base hs0 (by omega)
 have HK:Hid (Calls Tryz.prog 124 #[.pointer (some ⟨xb,0,none⟩),.agg #[.int .i64 op0,.int .i64 v0,.slice a0 n0 cc0]] w1.drew fun e w2=>(∃ v,e=.returned v/\Zb8 (BuT A w.heap.size (w.heap.size+1)) w1.drew w2/\∃ r0:Nat,v=.int .i64 r0/\Calls Tryz.prog 124 #[.pointer (some ⟨xb,0,none⟩),.agg #[.int .i64 op1,.int .i64 v1,.slice a1 n1 cc1]] w2 fun e w3=>(∃ v,e=.returned v/\Zb8 (BuT A w.heap.size (w.heap.size+1)) w1.drew w3/\∃ r1:Nat,v=.int .i64 r1/\Calls Tryz.prog 124 #[.pointer (some ⟨xb,0,none⟩),.agg #[.int .i64 op2,.int .i64 v2,.slice a2 n2 cc2]] w3 fun e w4=>(∃ v,e=.returned v/\Zb8 (BuT A w.heap.size (w.heap.size+1)) w1.drew w4/\∃ r2:Nat,v=.int .i64 r2/\Calls Tryz.prog 79 #[.pointer (some ⟨xb,0,none⟩),.int .i64 r0,.int .i64 r1,.int .i64 r2] w4 fun e w'=>(∃ v,e=.returned v/\Zb8 (BuT A w.heap.size (w.heap.size+1)) w1.drew w'/\∃ r:Nat,v=.int .i64 r/\P1 (.returned (.int .i64 r)) w')\/(∃ ch,e=.panicked ch/\P1 (.panicked ch) w'))\/(∃ ch,e=.panicked ch/\P1 (.panicked ch) w4))\/(∃ ch,e=.panicked ch/\P1 (.panicked ch) w3))\/(∃ ch,e=.panicked ch/\P1 (.panicked ch) w2)):=by
  rw[hP1];refine Hd ?_;refine(Zi2 (k:=Z) IH hcd hr0 (Zb8.refl _ _) (i:=0) (by omega) hx0 (by omega) (A':=fun _ V' r=>ef V' r=fnT (.mk 10 v 3 kid))).mono ?_;rintro e w2 (⟨_,rfl,hs2,r0,o2,m2,V2,rfl,at2,st2,ok2,ef2⟩|hp)
  rotate_left
  ·
   exact .inr hp
  refine .inl ⟨_,rfl,hs2,r0,rfl,?_⟩;refine(Zi2 (k:=Z) IH hcd at2 hs2 (i:=1) (by omega) hx1 (by omega) (A':=fun _ V' r=>ef V' r=fnT (.mk 10 v 3 kid))).mono ?_;rintro e w3 (⟨_,rfl,hs3,r1,o3,m3,V3,rfl,at3,st3,ok3,ef3⟩|hp)
  rotate_left
  ·
   exact .inr hp
  refine .inl ⟨_,rfl,hs3,r1,rfl,?_⟩;refine(Zi2 (k:=Z) IH hcd at3 hs3 (i:=2) (by omega) hx2 (by omega) (A':=fun _ V' r=>ef V' r=fnT (.mk 10 v 3 kid))).mono ?_;rintro e w4 (⟨_,rfl,hs4,r2,o4,m4,V4,rfl,at4,st4,ok4,ef4⟩|hp)
  rotate_left
  ·
   exact .inr hp
  refine .inl ⟨_,rfl,hs4,r2,rfl,?_⟩;have okk0_1:=st3.ext.ok ok2;have eff0_1:=(st3.ext.ef ok2).trans ef2;have okk0_2:=st4.ext.ok okk0_1;have eff0_2:=(st4.ext.ef okk0_1).trans eff0_1;have oka0:=okk0_2;have efa0:=eff0_2;have okk1_2:=st4.ext.ok ok3;have eff1_2:=(st4.ext.ef ok3).trans ef3;have oka1:=okk1_2;have efa1:=eff1_2;have oka2:=ok4;have efa2:=ef4;refine Zy6 at4 hs4 (hcd.none at4) (Zfj hK at4.st.is at4.st.lt (hcd.ctx.chg at4.st.chg) at4.st.ok (at4.vars hcd.vars) r0 r1 r2 oka0 oka1 oka2) (by omega) (fun d V2 r hh=>?_)
  show ef V2 r=_
  rw[Zt5];rw[hh,efa0,efa1,efa2]
 have c0:=hc.c0;have c2:=hc.c2;have cx:=hc.cx;have cxd:=hcd.cx;have c2d:=hcd.c2;rw[<- hP];clear hP hP1 hZ hm hlt hx hk hn he hA hw1 hb1 hc hat hle hs0 hcd hr0 IH hx0 hx1 hx2
 go_enter Tryz.func124,Tryz.ntmps124
 go_upto_region 1 with fail;rw[HW1.out];go_upto_region 20 with fail;refine Zh5 [0,1,2,3,4,5,7,8,9,10,11,13,14,15,16,17,6,12,18,19,20] (fun W=>Zb8 (BuT A w.heap.size (w.heap.size+1)) w1.drew W) (fun ch w'=>P1 (.panicked ch) w') (fun c a w hd h=>⟨hd,HP1.out _ _ h⟩) (by kernel_rfl) (Zb8.refl _ _) ?_
 iterate 16
  refine Ze3 rfl rfl (by kernel_rfl) ?_;apply Exists.intro;refine⟨fun w' hw=>?_,?_⟩
  ·
   have qx:=hw _ _ (Or.inl rfl) cxd;have q2:=hw _ _ (Or.inr (Or.inl rfl)) c2d;have q00:=(by simpa using hw _ _ hTA k00:w'.cell? ⟨b0,off0,none⟩=_);have q01:=(by simpa using hw _ _ hTA k01:w'.cell? ⟨b0,off0+1,none⟩=_);have q02:=(by simpa using hw _ _ hTA k02:w'.cell? ⟨b0,off0+2,none⟩=_);have q10:=(by simpa using hw _ _ hTA k10:w'.cell? ⟨b0,off0+3,none⟩=_);have q11:=(by simpa using hw _ _ hTA k11:w'.cell? ⟨b0,off0+4,none⟩=_);have q12:=(by simpa using hw _ _ hTA k12:w'.cell? ⟨b0,off0+5,none⟩=_);have q20:=(by simpa using hw _ _ hTA k20:w'.cell? ⟨b0,off0+6,none⟩=_);have q21:=(by simpa using hw _ _ hTA k21:w'.cell? ⟨b0,off0+7,none⟩=_);have q22:=(by simpa using hw _ _ hTA k22:w'.cell? ⟨b0,off0+8,none⟩=_);go_simp;rfl
  simp only[Zah]
 refine Zdo rfl (by kernel_rfl) rfl rfl (by go_simp) HK.out ?_;rintro u w2 hS ⟨r0,rfl,hst⟩;have HK1:=Hd hst;clear hst hS HK;simp only[Zah];refine Zdo rfl (by kernel_rfl) rfl rfl (by go_simp) HK1.out ?_;rintro u w3 hS ⟨r1,rfl,hst⟩;have HK2:=Hd hst;clear hst hS HK1;simp only[Zah];refine Zdo rfl (by kernel_rfl) rfl rfl (by go_simp) HK2.out ?_;rintro u w4 hS ⟨r2,rfl,hst⟩;have HK3:=Hd hst;clear hst hS HK2;simp only[Zah];refine Zdo rfl (by kernel_rfl) rfl rfl (by go_simp) HK3.out ?_;rintro u w' hS ⟨r,rfl,hp⟩;have HF:=Hd (HP1.out _ _ hp);clear hp hS HK3;simp only[Zah]
 iterate 1
  refine Ze3 rfl rfl (by kernel_rfl) ?_;apply Exists.intro;refine⟨fun w' hw=>?_,?_⟩
  ·
   go_simp;rfl
  simp only[Zah]
 refine Zok (by kernel_rfl) ?_;clear k00 k01 k02 k10 k11 k12 k20 k21 k22 c0 c2 cx cxd c2d;go_wp2_with fail;exact HF.out
end
theorem Znh {K:Law} (hK:Zbp K) {n:Nat}:∀ e:ExT,Zkz n e->Zc5 K n e
 | .nil,h=>h.1.elim
 | .mk op v nk kid,h=>by
   have IH:∀ i,i<nk->Zc5 K n (kid i):=fun i hi=>Znh hK (kid i) (h.kid hi)
   obtain⟨h1,_,_,h4,h5,_⟩:=h.1;unfold Zbt at h1 h4 h5;rcases(show op=1\/op=2\/op=3\/op=4\/op=5\/op=6\/op=7\/op=8\/op=9\/op=10\/(op<1\/10<op) by omega) with rfl|rfl|rfl|rfl|rfl|rfl|rfl|rfl|rfl|rfl|ho
   ·
    exact Zi3 1 (.inl rfl)
   ·
    exact Zi3 2 (.inr rfl)
   ·
    exact Zrl hK h
   ·
    obtain rfl:nk=1:=by simp at h4 h5;omega
    exact Zrk hK IH
   ·
    exact Zii hK IH h (.inl rfl)
   ·
    exact Zii hK IH h (.inr (.inl rfl))
   ·
    exact Zii hK IH h (.inr (.inr rfl))
   ·
    obtain rfl:nk=2:=by simp at h4 h5;omega
    exact Zri hK IH
   ·
    obtain rfl:nk=2:=by simp at h4 h5;omega
    exact Zrh hK IH
   ·
    obtain rfl:nk=3:=by simp at h4 h5;omega
    exact Zrj hK IH
   ·
    rw[if_neg (by omega),if_neg (by omega),if_neg (by omega),if_neg (by omega),if_neg (by omega)] at h1;simp at h1
open Go.RowKit
def errN (op v:Int) (n:Nat):Int :=
 if (Zbt op).1<0 then 11 else if (op=3/\(v<0\/64<=v))\/(op≠3/\v≠0) then 9 else if (n:Int)<(Zbt op).1\/(Zbt op).2<n then 3 else 0
theorem Zpd (op v:Int) (n c:Nat) (a:Option Addr) (w:World):Calls Tryz.prog 180 #[.agg #[.int .i64 op,.int .i64 v,.slice a n c]] w fun y w'=>y=.returned (.int .i64 (errN op v n))/\Below w.heap.size w w':=by
 obtain⟨er,her⟩:∃ er,er=errN op v n:=⟨_,rfl⟩;rw[<- her];obtain⟨w1,hw1⟩:∃ w1,w1=w.alloc (.cells #[.int .i64 op,.int .i64 v,.slice a n c] 86):=⟨_,rfl⟩;have HW1:Hid (_=w1):=Hd hw1.symm;have hblk:w1.heap[w.heap.size]?=some (.cells #[.int .i64 op,.int .i64 v,.slice a n c] 86 (0,0)):=by rw[hw1];exact heap_alloc_new _ _
 have d0:w1.cell? ⟨w.heap.size,0,none⟩=some (.int .i64 op):=by rw[cell_of_row _ _ 0 _ _ _ hblk];rfl
 have d1:w1.cell? ⟨w.heap.size,1,none⟩=some (.int .i64 v):=by rw[cell_of_row _ _ 1 _ _ _ hblk];rfl
 have d2:w1.cell? ⟨w.heap.size,2,none⟩=some (.slice a n c):=by rw[cell_of_row _ _ 2 _ _ _ hblk];rfl
 have HBB:Hid (Below w.heap.size w w1):=by rw[hw1];exact Hd (Zad _ _)
 obtain⟨P,hP⟩:∃ P:Ending->World->Prop,P=fun y w'=>y=.returned (.int .i64 er)/\Below w.heap.size w w':=⟨_,rfl⟩
 have HF:Hid (P (.returned (.int .i64 er)) w1):=Hd (by rw[hP];exact⟨rfl,HBB.out⟩);rw[<- hP];have HK:=Hd (Zul op w1);unfold errN at her;obtain⟨p1,hp1⟩:∃ p1,p1=(Zbt op).1:=⟨_,rfl⟩;obtain⟨p2,hp2⟩:∃ p2,p2=(Zbt op).2:=⟨_,rfl⟩;rw[<- hp1,<- hp2] at her;rw[<- hp1,<- hp2] at HK;clear hp1 hp2 hw1 hblk hP HBB
 have hleaf:(p1<0/\er=11)\/(¬ p1<0/\((op=3/\((v<0/\er=9)\/(¬ v<0/\v>=64/\er=9)\/(¬ v<0/\¬ v>=64/\(((n:Int)<p1/\er=3)\/(¬ (n:Int)<p1/\(n:Int)>p2/\er=3)\/(¬ (n:Int)<p1/\¬ (n:Int)>p2/\er=0))))) \/
  ((op == 3)=false/\(((v == 0)=false/\er=9)\/(v=0/\(((n:Int)<p1/\er=3)\/(¬ (n:Int)<p1/\(n:Int)>p2/\er=3)\/(¬ (n:Int)<p1/\¬ (n:Int)>p2/\er=0))))))):=by
  subst her
  by_cases c1:p1<0
  ·
   exact .inl ⟨c1,if_pos c1⟩
  ·
   refine .inr ⟨c1,?_⟩;rw[if_neg c1]
   by_cases c2:op=3
   ·
    refine .inl ⟨c2,?_⟩
    by_cases c3:v<0
    ·
     exact .inl ⟨c3,if_pos (.inl ⟨c2,.inl c3⟩)⟩
    ·
     by_cases c4:v>=64
     ·
      exact .inr (.inl ⟨c3,c4,if_pos (.inl ⟨c2,.inr c4⟩)⟩)
     ·
      refine .inr (.inr ⟨c3,c4,?_⟩);rw[if_neg (by rintro(⟨_,h|h⟩|⟨h,_⟩)<;>omega)]
      by_cases c5:(n:Int)<p1
      ·
       exact .inl ⟨c5,if_pos (.inl c5)⟩
      ·
       by_cases c6:(n:Int)>p2
       ·
        exact .inr (.inl ⟨c5,c6,if_pos (.inr c6)⟩)
       ·
        exact .inr (.inr ⟨c5,c6,if_neg (by omega)⟩)
   ·
    refine .inr ⟨by simp[c2],?_⟩
    by_cases c3:v=0
    ·
     refine .inr ⟨c3,?_⟩;rw[if_neg (by rintro(⟨h,_⟩|⟨_,h⟩);exact c2 h;exact h c3)]
     by_cases c5:(n:Int)<p1
     ·
      exact .inl ⟨c5,if_pos (.inl c5)⟩
     ·
      by_cases c6:(n:Int)>p2
      ·
       exact .inr (.inl ⟨c5,c6,if_pos (.inr c6)⟩)
      ·
       exact .inr (.inr ⟨c5,c6,if_neg (by omega)⟩)
    ·
     exact .inl ⟨by simp[c3],if_pos (.inr ⟨c2,c3⟩)⟩
 clear her
 go_enter Tryz.func180,Tryz.ntmps180
 go_upto_region 1 with fail;rw[HW1.out];clear HW1;go_wp2_with fail;refine HK.out.mono ?_;rintro y w2 ⟨rfl,rfl⟩;clear HK;rcases hleaf with ⟨c1,rfl⟩|⟨c1,⟨rfl,⟨c3,rfl⟩|⟨c3,c4,rfl⟩|⟨c3,c4,⟨c5,rfl⟩|⟨c5,c6,rfl⟩|⟨c5,c6,rfl⟩⟩⟩|⟨c2,⟨c3,rfl⟩|⟨rfl,⟨c5,rfl⟩|⟨c5,c6,rfl⟩|⟨c5,c6,rfl⟩⟩⟩⟩
 ·
  have q0:decide (p1<0)=true:=by first|exact decide_eq_true (by assumption)|exact decide_eq_true (by omega)
  go_wp2_with fail;exact HF.out
 ·
  have q0:decide (p1<0)=false:=by first|exact decide_eq_false (by assumption)|exact decide_eq_false (by omega)
  have q1:decide (v<0)=true:=by first|exact decide_eq_true (by assumption)|exact decide_eq_true (by omega)
  go_wp2_with fail;exact HF.out
 ·
  have q0:decide (p1<0)=false:=by first|exact decide_eq_false (by assumption)|exact decide_eq_false (by omega)
  have q1:decide (v<0)=false:=by first|exact decide_eq_false (by assumption)|exact decide_eq_false (by omega)
  have q2:decide (v>=64)=true:=by first|exact decide_eq_true (by assumption)|exact decide_eq_true (by omega)
  go_wp2_with fail;exact HF.out
 ·
  have q0:decide (p1<0)=false:=by first|exact decide_eq_false (by assumption)|exact decide_eq_false (by omega)
  have q1:decide (v<0)=false:=by first|exact decide_eq_false (by assumption)|exact decide_eq_false (by omega)
  have q2:decide (v>=64)=false:=by first|exact decide_eq_false (by assumption)|exact decide_eq_false (by omega)
  have q3:decide ((n:Int)<p1)=true:=by first|exact decide_eq_true (by assumption)|exact decide_eq_true (by omega)
  go_wp2_with fail;exact HF.out
 ·
  have q0:decide (p1<0)=false:=by first|exact decide_eq_false (by assumption)|exact decide_eq_false (by omega)
  have q1:decide (v<0)=false:=by first|exact decide_eq_false (by assumption)|exact decide_eq_false (by omega)
  have q2:decide (v>=64)=false:=by first|exact decide_eq_false (by assumption)|exact decide_eq_false (by omega)
  have q3:decide ((n:Int)<p1)=false:=by first|exact decide_eq_false (by assumption)|exact decide_eq_false (by omega)
  have q4:decide ((n:Int)>p2)=true:=by first|exact decide_eq_true (by assumption)|exact decide_eq_true (by omega)
  go_wp2_with fail;exact HF.out
 ·
  have q0:decide (p1<0)=false:=by first|exact decide_eq_false (by assumption)|exact decide_eq_false (by omega)
  have q1:decide (v<0)=false:=by first|exact decide_eq_false (by assumption)|exact decide_eq_false (by omega)
  have q2:decide (v>=64)=false:=by first|exact decide_eq_false (by assumption)|exact decide_eq_false (by omega)
  have q3:decide ((n:Int)<p1)=false:=by first|exact decide_eq_false (by assumption)|exact decide_eq_false (by omega)
  have q4:decide ((n:Int)>p2)=false:=by first|exact decide_eq_false (by assumption)|exact decide_eq_false (by omega)
  go_wp2_with fail;exact HF.out
 ·
  have q0:decide (p1<0)=false:=by first|exact decide_eq_false (by assumption)|exact decide_eq_false (by omega)
  have q1:(op != 3)=true:=by simp[bne,c2]
  have q2:(v != 0)=true:=by simp[bne,c3]
  go_wp2_with fail;exact HF.out
 ·
  have q0:decide (p1<0)=false:=by first|exact decide_eq_false (by assumption)|exact decide_eq_false (by omega)
  have q1:(op != 3)=true:=by simp[bne,c2]
  have q2:decide ((n:Int)<p1)=true:=by first|exact decide_eq_true (by assumption)|exact decide_eq_true (by omega)
  go_wp2_with fail;exact HF.out
 ·
  have q0:decide (p1<0)=false:=by first|exact decide_eq_false (by assumption)|exact decide_eq_false (by omega)
  have q1:(op != 3)=true:=by simp[bne,c2]
  have q2:decide ((n:Int)<p1)=false:=by first|exact decide_eq_false (by assumption)|exact decide_eq_false (by omega)
  have q3:decide ((n:Int)>p2)=true:=by first|exact decide_eq_true (by assumption)|exact decide_eq_true (by omega)
  go_wp2_with fail;exact HF.out
 ·
  have q0:decide (p1<0)=false:=by first|exact decide_eq_false (by assumption)|exact decide_eq_false (by omega)
  have q1:(op != 3)=true:=by simp[bne,c2]
  have q2:decide ((n:Int)<p1)=false:=by first|exact decide_eq_false (by assumption)|exact decide_eq_false (by omega)
  have q3:decide ((n:Int)>p2)=false:=by first|exact decide_eq_false (by assumption)|exact decide_eq_false (by omega)
  go_wp2_with fail;exact HF.out
open Go.RowKit
def Zmm:ExT->Nat->Int
 | .nil,_=>0
 | .mk op v n _,deep=>if 64<deep then 17 else errN op v n
def chkT:ExT->Nat->Int
 | .nil,_=>0
 | .mk op v n kid,deep=>if (if 64<deep then 17 else errN op v n)=0 then Zfx n fun i=>chkT (kid i) (deep+1) else if 64<deep then 17 else errN op v n
structure IC (w0:World) (nb wb:Nat) (i:Nat) (W:World):Prop where
 b:Below w0.heap.size w0 W
 n:W.heap[nb]?=some (.cells #[.int .i64 i] 3 (0,0))
 y:W.heap[wb]?=some (.cells #[.int .i64 0] 37 (0,0))
structure BadC (w0:World) (wb:Nat) (er:Int) (W:World):Prop where
 b:Below w0.heap.size w0 W
 y:W.heap[wb]?=some (.cells #[.int .i64 er] 37 (0,0))
theorem Zpk {w0:World} {nb wb:Nat} (hnb:w0.heap.size<=nb) (hwb:w0.heap.size<=wb) (hne:nb≠wb):Zs2 (fun _ _=>True) (fun k=>k=nb\/k=wb) w0 (fun _ i W=>IC w0 nb wb i W) (BadC w0 wb) Zmm 179 #[.pointer (some ⟨nb,0,none⟩),.pointer (some ⟨wb,0,none⟩)]:=by
 intro op v n kid x deep l i w _ h hI hd hi;unfold Zaq at h;obtain⟨a,c,rfl,_⟩:=h;obtain⟨hb,hn,hw⟩:=hI;obtain⟨w1,hw1⟩:∃ w1,w1=w.alloc (.cells #[.int .i64 op,.int .i64 v,.slice a n c] 86):=⟨_,rfl⟩;have HW1:Hid (_=w1):=Hd hw1.symm;have hlt:nb<w.heap.size:=(Array.getElem?_eq_some_iff.1 hn).1;have hlt2:wb<w.heap.size:=(Array.getElem?_eq_some_iff.1 hw).1;have hb1:Below w.heap.size w w1:=by rw[hw1];exact Zad _ _
 have hn1:=(hb1.block nb hlt).trans hn;have hy1:=(hb1.block wb hlt2).trans hw;have hx1:w1.heap[w.heap.size]?=some (.cells #[.int .i64 op,.int .i64 v,.slice a n c] 86 (0,0)):=by rw[hw1];exact heap_alloc_new _ _
 obtain⟨w2,hw2⟩:∃ w2,w2=w1.setCell ⟨nb,0,none⟩ (.int .i64 ((i+1:Nat):Int)):=⟨_,rfl⟩;have hn2:w2.heap[nb]?=some (.cells #[.int .i64 ((i+1:Nat):Int)] 3 (0,0)):=by rw[hw2];exact Zae hn1 _
 have hy2:w2.heap[wb]?=_:=(by rw[hw2];exact Zaf (fun e=>hne e.symm) _:w2.heap[wb]?=w1.heap[wb]?).trans hy1;have hx2:w2.heap[w.heap.size]?=_:=(by rw[hw2];exact Zaf (fun e=>by have e2:w.heap.size=nb:=e;omega) _:w2.heap[w.heap.size]?=w1.heap[w.heap.size]?).trans hx1;have hr2:Wr (fun k=>k=nb\/k=wb) w w2:=by rw[hw2];exact(Wr.of_below hb1 _).setCell (p:=⟨nb,0,none⟩) (.inl (.inl rfl)) _
 have HW2:Hid (w1.setCell ⟨nb,0,none⟩ (.int .i64 ((i:Int)+1))=w2):=Hd (by rw[hw2];rfl);have HWG:Hid (∀ W,Wr (fun k=>k=nb\/k=wb) w W->Below w0.heap.size w0 W):=Hd fun W hr=>hb.trans (hr.below (fun k hk=>by rcases hk with rfl|rfl<;>assumption) hb.size)
 have d0:w2.cell? ⟨w.heap.size,0,none⟩=some (.int .i64 op):=by rw[cell_of_row _ _ 0 _ _ _ hx2];rfl
 have d1:w2.cell? ⟨w.heap.size,1,none⟩=some (.int .i64 v):=by rw[cell_of_row _ _ 1 _ _ _ hx2];rfl
 have d2:w2.cell? ⟨w.heap.size,2,none⟩=some (.slice a n c):=by rw[cell_of_row _ _ 2 _ _ _ hx2];rfl
 have cn1:=cell1 hn1;have fn1:w1.frozen? ⟨nb,0,none⟩=false:=by simp[World.frozen?,hn1]
 obtain⟨P,hP⟩:∃ P:Ending->World->Prop,P=fun y w'=>∃ b:Bool,y=.returned (.bool b)/\(b=true->Zmm (.mk op v n kid) deep=0/\IC w0 nb wb (i+1) w')/\(b=false->Zmm (.mk op v n kid) deep≠0/\BadC w0 wb (Zmm (.mk op v n kid) deep) w')/\Wr (fun k=>k=nb\/k=wb) w w':=⟨_,rfl⟩
 have HP:=Hd hP
 show Calls _ _ #[_,_,_,_] _ _
 rw[<- hP];have HR2:=Hd hr2;have HN2:=Hd hn2
 by_cases hdeep:64<deep
 ·
  have cy2:=cell1 hy2;have fy2:w2.frozen? ⟨wb,0,none⟩=false:=by simp[World.frozen?,hy2]
  obtain⟨w3,hw3⟩:∃ w3,w3=w2.setCell ⟨wb,0,none⟩ (.int .i64 17):=⟨_,rfl⟩;have HW3:Hid (_=w3):=Hd hw3.symm;have hy3:w3.heap[wb]?=some (.cells #[.int .i64 17] 37 (0,0)):=by rw[hw3];exact Zae hy2 _
  have hr3:Wr (fun k=>k=nb\/k=wb) w w3:=by rw[hw3];exact hr2.setCell (p:=⟨wb,0,none⟩) (.inl (.inr rfl)) _
  have cy3:=cell1 hy3
  have HF:Hid (P (.returned (.bool false)) w3):=Hd (by
   have e:Zmm (.mk op v n kid) deep=17:=if_pos hdeep;rw[HP.out];exact⟨false,rfl,by simp,fun _=>by rw[e];exact⟨by omega,HWG.out _ hr3,hy3⟩,hr3⟩)
  have hdz:(deep:Int)>64:=by omega
  clear hP hn hw hw1 hb1 hn1 hy1 hx1 hw2 hn2 hy2 hx2 hr2 hw3 hy3 hr3 hb hlt hlt2
  go_enter Tryz.func179,Tryz.ntmps179
  go_upto_region 1 with fail;rw[HW1.out];go_upto_region 2 with fail;rw[HW2.out];go_upto_region 7 with fail;rw[HW3.out];go_wp2_with fail;exact HF.out
 ·
  obtain⟨er,her⟩:∃ er,er=errN op v n:=⟨_,rfl⟩;have HC:=Hd (Zpd op v n c a w2);rw[<- her] at HC;have hnd:Zmm (.mk op v n kid) deep=er:=by rw[her];exact if_neg hdeep
  have HND:=Hd hnd;have HY2:=Hd hy2;have hnz:¬ (deep:Int)>64:=by omega
  clear hP hn hw hw1 hb1 hn1 hy1 hx1 hw2 hn2 hy2 hx2 hr2 hb hnd her
  go_enter Tryz.func179,Tryz.ntmps179
  go_upto_region 1 with fail;rw[HW1.out];go_upto_region 2 with fail;rw[HW2.out];go_wp2_with fail;refine HC.out.mono ?_;rintro y w3 ⟨rfl,hb3⟩;have hs2:=HR2.out.size;have hr3:Wr (fun k=>k=nb\/k=wb) w w3:=HR2.out.trans (Wr.of_below hb3 (fun _=>False)) (fun _ _ e=>e) (fun _ _ e=>e.elim);have hy3:=(hb3.block wb (by omega)).trans HY2.out;have hn3:=(hb3.block nb (by omega)).trans HN2.out;have cy3:=cell1 hy3;have fy3:w3.frozen? ⟨wb,0,none⟩=false:=by simp[World.frozen?,hy3]
  obtain⟨w4,hw4⟩:∃ w4,w4=w3.setCell ⟨wb,0,none⟩ (.int .i64 er):=⟨_,rfl⟩;have HW4:Hid (_=w4):=Hd hw4.symm;have hy4:w4.heap[wb]?=some (.cells #[.int .i64 er] 37 (0,0)):=by rw[hw4];exact Zae hy3 _
  have hn4:w4.heap[nb]?=_:=(by rw[hw4];exact Zaf hne _:w4.heap[nb]?=w3.heap[nb]?).trans hn3;have hr4:Wr (fun k=>k=nb\/k=wb) w w4:=by rw[hw4];exact hr3.setCell (p:=⟨wb,0,none⟩) (.inl (.inr rfl)) _
  have cy4:=cell1 hy4;have cn4:=cell1 hn4
  by_cases he:er=0
  ·
   subst he
   have HF:Hid (P (.returned (.bool true)) w4):=Hd (by
    rw[HP.out];exact⟨true,rfl,fun _=>⟨HND.out,HWG.out _ hr4,hn4,hy4⟩,by simp,hr4⟩)
   have hle:¬ ((i+1:Nat):Int)>4096:=by omega
   clear hw4 hr4 hy4 hn4 hr3 hy3 hn3 hb3 hs2 HC d0 d1 d2 cn1 fn1;go_upto_region 5 with fail;rw[HW4.out];go_wp2_with fail;exact HF.out
  ·
   have HF:Hid (P (.returned (.bool false)) w4):=Hd (by
    rw[HP.out];exact⟨false,rfl,by simp,fun _=>by rw[HND.out];exact⟨he,HWG.out _ hr4,hy4⟩,hr4⟩)
   have hez:(er == 0)=false:=by simp[he]
   clear hw4 hr4 hy4 hn4 hr3 hy3 hn3 hb3 hs2 HC d0 d1 d2 cn1 fn1;go_upto_region 5 with fail;rw[HW4.out];go_wp2_with fail;exact HF.out
theorem Zhv (args:Array Value) (w:World):(callFunc 179 args).run Tryz.prog w=.ok (.enter 179 args) w:=enters_of Tryz.func179 (by kernel_rfl) rfl args w
theorem Zaq.aggE {w:World} {x:Value}:∀ {e:ExT},Zaq w e x->∃ (op v:Int) (a:Option Addr) (n c:Nat),x=.agg #[.int .i64 op,.int .i64 v,.slice a n c]
 | .nil,h=>by unfold Zaq at h;exact h.elim
 | .mk op v n kid,h=>by
   unfold Zaq at h;obtain⟨a,c,h1,_⟩:=h;exact⟨op,v,a,n,c,h1⟩
theorem Zlg (e:ExT) (x:Value) (w:World) (hs:e.size<=4096) (h:Zaq w e x):Calls Tryz.prog 121 #[x] w fun y w'=>y=.returned (.int .i64 (chkT e 1))/\Below w.heap.size w w':=by
 have hmf:∀ (fn:Fn) (first cap:Array Value) (w:World),(Instr.makeFunc fn first cap).run Tryz.prog w=.ok (.func fn first cap) w:=fun _ _ _ _=>rfl
 obtain⟨op,v,a,n,c,rfl⟩:=h.aggE;obtain⟨w1,hw1⟩:∃ w1,w1=w.alloc (.cells #[.int .i64 op,.int .i64 v,.slice a n c] 86):=⟨_,rfl⟩;have hz1:w1.heap.size=w.heap.size+1:=by rw[hw1];simp
 have hb1:Below w.heap.size w w1:=by rw[hw1];exact Zad _ _
 have hx1:w1.heap[w.heap.size]?=some (.cells #[.int .i64 op,.int .i64 v,.slice a n c] 86 (0,0)):=by rw[hw1];exact heap_alloc_new _ _
 have HW1:Hid (_=w1):=Hd hw1.symm;clear hw1;obtain⟨w2,hw2⟩:∃ w2,w2=(w1.alloc (.cells #[.int .i64 0] 37)).alloc (.cells #[.int .i64 0] 3):=⟨_,rfl⟩;have HW2:Hid (_=w2):=Hd hw2.symm;have hb2:Below w.heap.size w w2:=by rw[hw2];exact(hb1.alloc (by omega) _).alloc (by simp;omega) _
 have hx2:w2.heap[w.heap.size]?=some (.cells #[.int .i64 op,.int .i64 v,.slice a n c] 86 (0,0)):=by
  rw[hw2];exact(Go.heap_alloc_old _ _ (by simp;omega)).trans ((Go.heap_alloc_old _ _ (by omega)).trans hx1)
 have hy2:w2.heap[w1.heap.size]?=some (.cells #[.int .i64 0] 37 (0,0)):=by
  rw[hw2];exact(Go.heap_alloc_old _ _ (by simp)).trans (heap_alloc_new _ _)
 have hn2:w2.heap[w1.heap.size+1]?=some (.cells #[.int .i64 (0:Nat)] 3 (0,0)):=by
  have:=heap_alloc_new (w1.alloc (.cells #[.int .i64 0] 37)) (.cells #[.int .i64 0] 3);rw[World.size_alloc] at this;rw[hw2];exact this
 have hwalk:=Zna (G:=fun _ _=>True) (C:=fun k=>k=w1.heap.size+1\/k=w1.heap.size) (w0:=w) (I:=fun _ i W=>IC w (w1.heap.size+1) w1.heap.size i W) (Bad:=BadC w w1.heap.size) (N:=Zmm) (T:=chkT)
  (fun l i W k hI hk=>by rcases hk with rfl|rfl;exact(Array.getElem?_eq_some_iff.1 hI.n).1;exact(Array.getElem?_eq_some_iff.1 hI.y).1)
  (fun l i W W' hI hb=>⟨hI.b.trans (hb.mono hI.b.size),(hb.block _ (Array.getElem?_eq_some_iff.1 hI.n).1).trans hI.n,(hb.block _ (Array.getElem?_eq_some_iff.1 hI.y).1).trans hI.y⟩)
  (fun l i W hI=>hI.b)
  (fun op v n kid deep h=>by
   rcases Nat.lt_or_ge 64 deep with hd|hd
   ·
    rw[show Zmm (.mk op v n kid) deep=17 from if_pos hd] at h;omega
   ·
    exact hd)
  (fun op v n kid deep=>rfl) Zhv (fun _ _ _ _ _ _ _ _=>trivial) (Zpk (w0:=w) (by omega) (by omega) (by omega)) e _ 1 [] 0 w2 trivial (by omega) (by omega) h ⟨hb2,hn2,hy2⟩
 have HWK:Hid (Calls Tryz.prog 178 #[.agg #[.int .i64 op,.int .i64 v,.slice a n c],.int .i64 1,.func (.func 179) #[] #[.pointer (some ⟨w1.heap.size+1,0,none⟩),.pointer (some ⟨w1.heap.size,0,none⟩)]] w2 fun y w'=>∃ b:Bool,y=.returned (.bool b)/\w'.cell? ⟨w1.heap.size,0,none⟩=some (.int .i64 (chkT e 1))/\Below w.heap.size w w'):=Hd (hwalk.mono (by
  rintro y w' ⟨b,rfl,h1,h2⟩;cases b with
  | true=>obtain⟨q1,q2⟩:=h1 rfl;exact⟨true,rfl,by rw[q1];exact cell1 q2.y,q2.b⟩
  | false=>obtain⟨q1,q2⟩:=h2 rfl;exact⟨false,rfl,cell1 q2.y,q2.b⟩))
 obtain⟨P,hP⟩:∃ P:Ending->World->Prop,P=fun y w'=>y=.returned (.int .i64 (chkT e 1))/\Below w.heap.size w w':=⟨_,rfl⟩
 have HP:Hid (∀ w',Below w.heap.size w w'->P (.returned (.int .i64 (chkT e 1))) w'):=Hd fun w' hb=>by rw[hP];exact⟨rfl,hb⟩
 rw[<- hP];obtain⟨E,hE⟩:∃ E,E=chkT e 1:=⟨_,rfl⟩;rw[<- hE] at HP HWK;have d0:w2.cell? ⟨w.heap.size,0,none⟩=some (.int .i64 op):=by rw[cell_of_row _ _ 0 _ _ _ hx2];rfl
 have d1:w2.cell? ⟨w.heap.size,1,none⟩=some (.int .i64 v):=by rw[cell_of_row _ _ 1 _ _ _ hx2];rfl
 have d2:w2.cell? ⟨w.heap.size,2,none⟩=some (.slice a n c):=by rw[cell_of_row _ _ 2 _ _ _ hx2];rfl
 clear hP hE hwalk hw2 hb2 hx2 hy2 hn2 hx1 hb1 h hs hz1
 go_enter Tryz.func121,Tryz.ntmps121
 go_upto_region 1 with fail;rw[HW1.out];go_upto_region 2 with fail;rw[HW2.out];go_wp2_with fail;refine HWK.out.mono ?_;rintro y w3 ⟨b,rfl,hc,hb⟩;have HF:=Hd (HP.out w3 hb);clear hb HWK HP;go_wp2_with fail;exact HF.out
end Go.Proofs.YtmofaapnkidioaaGreat
