/- Several texts in one file: contracts of the program's functions and what follows from them. -/
import Derived.Test.YtmofaapnkidioaaGreatR5
import Derived.Shelf.Slices.Reverse
import Derived.Ground.Names2Prog
import Derived.Shelf.Slices.Cells
import Derived.Shelf.Slices.Empties
set_option linter.unusedSimpArgs false
set_option linter.unusedVariables false
set_option linter.unusedSectionVars false
set_option linter.unnecessarySimpa false
set_option maxRecDepth 100000
set_option maxHeartbeats 8000000
namespace Go.Proofs.YtmofaapnkidioaaGreat
open Go.RowKit
theorem Zxy (zs:List Int) (x:Int) (i:Nat):Zu5 zs x i=bub zs i (Zfu zs x-i).toNat:=rfl
theorem Zu6 (zs:List Int) (i d:Nat):(bub zs i (d+1)).2=((i+d:Nat):Int)::(bub (Zqm zs ((i+d:Nat):Int)) i d).2:=rfl
def Zjp (a b:List Int) (w:World) (e:Ending) (w':World):Prop :=
 ∃ v,e=.returned (.tuple #[v,.int .i64 (Zd2 a b)])/\OwnI w' w.heap.size v (Ze5 a b)/\Below w.heap.size w w'
theorem Zf9 {a b r:List Int} {w w':World} {v:Value} {E:Int} (hE:Zd2 a b=E) (hr:Ze5 a b=r) (hs:OwnI w' w.heap.size v r) (hb:Below w.heap.size w w') :
 Zjp a b w (.returned (.tuple #[v,.int .i64 E])) w':=⟨v,by rw[hE],by rw[hr];exact hs,hb⟩
def metB (zs:List Int) (k:Nat) (v:Int):Bool:=decide (∃ j,j<k/\at0 zs j=v)
theorem Zwg (zs:List Int) (v:Int):metB zs 0 v=false:=by simp[metB]
theorem Zpy (zs:List Int) (k:Nat):metB zs (k+1) (at0 zs k)=true:=by simp only[metB,decide_eq_true_eq];exact⟨k,by omega,rfl⟩
theorem Zjx (zs:List Int) (k:Nat) (v:Int) (h:at0 zs k≠v):metB zs (k+1) v=metB zs k v:=by
 simp only[metB,decide_eq_decide];constructor
 ·
  rintro⟨j,hj,he⟩;refine⟨j,?_,he⟩
  by_cases e:j=k
  ·
   subst e;exact(h he).elim
  ·
   omega
 ·
  rintro⟨j,hj,he⟩;exact⟨j,by omega,he⟩
theorem Zwf {zs:List Int} {k:Nat} {v:Int} (h:metB zs k v=true):∃ j,j<k/\at0 zs j=v:=by simpa [metB] using h
theorem Zt3 {zs:List Int} {k:Nat} {v:Int} (h:metB zs k v=false):∀ j,j<k->at0 zs j≠v:=by
 intro j hj he;have:metB zs k v=true:=by simp only[metB,decide_eq_true_eq];exact⟨j,hj,he⟩
 rw[h] at this;cases this
def Marks (w:World) (g:Nat) (zs:List Int) (k base:Nat):Prop :=
 ∃ cur,w.heap[g]?=some (.cells cur 206 (0,0))/\cur.size=64/\∀ u,u<64->cur[u]?=some (.bool (metB zs k ((base+u:Nat):Int)))
theorem Marks.cell {w:World} {g:Nat} {zs:List Int} {k base:Nat} (h:Marks w g zs k base) (u:Nat) (hu:u<64):w.cell? ⟨g,u,none⟩=some (.bool (metB zs k ((base+u:Nat):Int))):=by
 obtain⟨cur,h1,h2,h3⟩:=h;simp only[World.cell?,h1];exact h3 u hu
theorem Marks.frozen {w:World} {g:Nat} {zs:List Int} {k base:Nat} (h:Marks w g zs k base) (u:Nat):w.frozen? ⟨g,u,none⟩=false:=by
 obtain⟨cur,h1,h2,h3⟩:=h;simp[World.frozen?,h1]
theorem Marks.step_out {w:World} {g:Nat} {zs:List Int} {k base:Nat} (h:Marks w g zs k base) (hx:¬ ((base:Int)<=at0 zs k/\at0 zs k<base+64)):Marks w g zs (k+1) base:=by
 obtain⟨cur,h1,h2,h3⟩:=h;exact⟨cur,h1,h2,fun u hu=>by rw[Zjx _ _ _ (by omega)];exact h3 u hu⟩
theorem Marks.step_in {w:World} {g:Nat} {zs:List Int} {k base u:Nat} (h:Marks w g zs k base) (hx:at0 zs k=((base+u:Nat):Int)) (hu:u<64) :
 Marks (w.setCell ⟨g,u,none⟩ (.bool true)) g zs (k+1) base:=by
 obtain⟨cur,h1,h2,h3⟩:=h;refine⟨cur.setIfInBounds u (.bool true),?_,by simpa using h2,fun v hv=>?_⟩
 ·
  simp[World.setCell,Array.getElem?_modify,h1]
 ·
  by_cases e:v=u
  ·
   subst e;rw[Array.getElem?_setIfInBounds_self_of_lt (by omega),<- hx,Zpy]
  ·
   rw[Array.getElem?_setIfInBounds_ne (by omega),Zjx _ _ _ (by omega)];exact h3 v hv
theorem Zwe (w:World) (zs:List Int) (base:Nat) (cs:List Value) (hcs:cs=List.replicate 64 (.bool false)):Marks (w.alloc (.cells cs.toArray 206)) w.heap.size zs 0 base :=
 ⟨_,heap_alloc_new w _,by simp[hcs],fun u hu=>by rw[Zwg,List.getElem?_toArray,hcs,List.getElem?_replicate,if_pos hu]⟩
def Zkt (zs:List Int) (B:Nat):Prop :=
 1<=B->(∀ j,j<zs.length->0<=at0 zs j/\at0 zs j<zs.length)/\∀ i,i<zs.length->∀ l,l<i->at0 zs l=at0 zs i->(B:Int)<=at0 zs i
def Zks (zs:List Int) (B k:Nat):Prop :=
 (∀ j,j<k->0<=at0 zs j/\at0 zs j<zs.length)/\(∀ i,i<k->∀ l,l<i->at0 zs l=at0 zs i->¬ ((B:Int)<=at0 zs i/\at0 zs i<(B:Int)+64))
theorem Zqf (zs:List Int):Zkt zs 0:=fun h=>by omega
theorem Zqd (zs:List Int) (B:Nat):Zks zs B 0:=⟨by omega,by omega⟩
theorem Zg2 {zs:List Int} {B k:Nat} (h:Zks zs B k) (h1:0<=at0 zs k) (h2:at0 zs k<zs.length)
 (h3:¬ ((B:Int)<=at0 zs k/\at0 zs k<(B:Int)+64)\/metB zs k (at0 zs k)=false):Zks zs B (k+1):=by
 refine⟨fun j hj=>?_,fun i hi l hl he=>?_⟩
 ·
  by_cases e:j=k
  ·
   subst e;exact⟨h1,h2⟩
  ·
   exact h.1 j (by omega)
 ·
  by_cases e:i=k
  ·
   subst e;rcases h3 with h3|h3
   ·
    exact h3
   ·
    exact(Zt3 h3 l hl he).elim
  ·
   exact h.2 i (by omega) l hl he
theorem Zqe {zs:List Int} {B:Nat} (h:Zkt zs B) (hi:Zks zs B zs.length):Zkt zs (B+64):=by
 refine fun _=>⟨hi.1,fun i hlt l hl he=>?_⟩
 have h2:=hi.2 i hlt l hl he;have h3:=(hi.1 i hlt).1
 by_cases hB:1<=B
 ·
  have:=(h hB).2 i hlt l hl he;omega
 ·
  omega
theorem Zqc {zs:List Int} {B:Nat} (h:Zkt zs B) (hB:zs.length<=B):Ze4 zs=true:=by
 rw[Zm5]
 by_cases h0:1<=B
 ·
  obtain⟨h1,h2⟩:=h h0;exact⟨h1,fun i hi k hk he=>by have:=h2 i hi k hk he;have:=(h1 i hi).2;omega⟩
 ·
  exact⟨by omega,by omega⟩
theorem Zg1 {zs:List Int} {k:Nat} (hk:k<zs.length) (h:¬ (0<=at0 zs k/\at0 zs k<zs.length)):Ze4 zs=false:=Zj0 fun hh=>h (hh.1 k hk)
theorem Zn4 {zs:List Int} {k:Nat} (hk:k<zs.length) (h:metB zs k (at0 zs k)=true):Ze4 zs=false:=by
 obtain⟨j,hj,he⟩:=Zwf h;exact Zj0 fun hh=>hh.2 k hk j hj he
theorem Zcp (a:Option Addr) (c:Nat) (zs:List Int) (w:World) (h:Zax w a zs) (hlen:zs.length<1000000) :
 Calls Tryz.prog 232 #[.slice a zs.length c] w fun e w'=>e=.returned (.bool (Ze4 zs))/\Below w.heap.size w w':=by
 obtain⟨hl,hc⟩:=h;have HC1:Hid (∀ k,k<zs.length->∃ b off,a=some ⟨b,off,none⟩/\b<w.heap.size/\w.cell? ⟨b,off+k,none⟩=some (.int .i64 (at0 zs k))):=fun k hk=>by
  obtain⟨b,off,h1,h2⟩:=hc k hk;exact⟨b,off,h1,Zaa h2,h2⟩
 clear hc
 go_enter Tryz.func232,Tryz.ntmps232
 go_wp2
 go_loopw [3] (fun s3 wr=>∃ B:Nat,s3=.int .i64 B/\B<=zs.length+63/\Zkt zs B/\Below w.heap.size w wr/\w.heap.size<=wr.heap.size) (fun i _=>zs.length+64-(intOf i).toNat)
 case atStart=>exact⟨0,rfl,by omega,Zqf zs,Below.refl _ _,Nat.le_refl _⟩
 case round =>
  obtain⟨B,rfl,hB,hrel,hbel,hsz⟩:=hrel;have HR:=Hd hrel;clear hrel
  by_cases hlt:B<zs.length
  ·
   go_wp2
   obtain⟨wo,rfl⟩:∃ wo:World,wo=wr:=⟨_,rfl⟩
   go_loopw [16] (fun i wi=>∃ k:Nat,k<=zs.length/\i=.int .i64 k/\Zks zs B k/\Marks wi wo.heap.size zs k B/\Below w.heap.size w wi/\w.heap.size<=wi.heap.size) (fun i _=>zs.length-(intOf i).toNat)
   case atStart=>exact⟨0,by omega,rfl,Zqd zs B,Zwe _ _ _ _ rfl,hbel.alloc hsz _,by simp;omega⟩
   case round =>
    obtain⟨k,hk,rfl,hr1,hm,hbel2,hsz2⟩:=hrel;have HR1:=Hd hr1;have HM:=Hd hm;clear hr1 hm
    by_cases hkn:k<zs.length
    ·
     obtain⟨b,off,rfl,hbw,hcw⟩:=HC1.out k hkn;have hcell:=(hbel2.cell (p:=⟨b,off+k,none⟩) hbw).trans hcw;clear hcw
     by_cases hx:0<=at0 zs k/\at0 zs k<zs.length
     ·
      obtain⟨hx1,hx2⟩:=hx
      by_cases hwin:(B:Int)<=at0 zs k/\at0 zs k<(B:Int)+64
      ·
       obtain⟨hwin1,hwin2⟩:=hwin;have hu64:((at0 zs k).toNat-B)<64:=by omega
       have hu0:at0 zs k=((B+((at0 zs k).toNat-B):Nat):Int):=by omega
       have hcm:=HM.out.cell _ hu64;have hfm:=HM.out.frozen ((at0 zs k).toNat-B);rw[<- hu0] at hcm;have HU:=Hd hu0
       generalize hmb:metB zs k (at0 zs k)=mb at hcm
       have HMB:=Hd hmb;clear hmb hu0;cases mb
       ·
        go_wp2
        go_roundw
        case rel=>exact⟨k+1,by omega,by go_num,Zg2 HR1.out hx1 hx2 (.inr HMB.out),HM.out.step_in HU.out hu64,hbel2.setCell hsz _,by simp;omega⟩
        case measure=>simp[intOf];omega
       ·
        go_wp2
        go_ret;exact⟨Zd1 (Zn4 hkn HMB.out).symm,hbel2⟩
      ·
       have HW:=Hd hwin
       by_cases hlo:at0 zs k<(B:Int)
       ·
        clear hwin
        go_wp2
        go_roundw
        case rel=>exact⟨k+1,by omega,by go_num,Zg2 HR1.out hx1 hx2 (.inl HW.out),HM.out.step_out HW.out,hbel2,hsz2⟩
        case measure=>simp[intOf];omega
       ·
        have hhi:(B:Int)+64<=at0 zs k:=by omega
        clear hwin
        go_wp2
        go_roundw
        case rel=>exact⟨k+1,by omega,by go_num,Zg2 HR1.out hx1 hx2 (.inl HW.out),HM.out.step_out HW.out,hbel2,hsz2⟩
        case measure=>simp[intOf];omega
     ·
      have HX:=Hd hx
      by_cases hneg:at0 zs k<0
      ·
       clear hx
       go_wp2
       go_ret;exact⟨Zd1 (Zg1 hkn HX.out).symm,hbel2⟩
      ·
       have hge:(zs.length:Int)<=at0 zs k:=by omega
       clear hx
       go_wp2
       go_ret;exact⟨Zd1 (Zg1 hkn HX.out).symm,hbel2⟩
    ·
     obtain rfl:k=zs.length:=by omega
     go_wp2
     go_roundw
     case rel=>exact⟨B+64,by go_num,by omega,Zqe HR.out HR1.out,hbel2,hsz2⟩
     case measure=>simp[intOf];omega
  ·
   go_wp2
   go_ret;exact⟨Zd1 (Zqc HR.out (by omega)).symm,hbel⟩
theorem Zl2 {ops:Array Oper} {rest:List Oper} {o:Oper} {a:Act} {Q:Exit->Act->World->Prop} {wr:World} (hgd:o.guard=none) (d s:Operand)
 (ho:o.op=.call { callee:=.builtin .copy,args:=#[d,s],argTypes:=#[22,22] })
 (base g:Nat) (w0:World) (zs:List Int) (xs:List Value) (ao:Option Addr) (c:Nat) (hd:a.eval d=.slice (some ⟨g,0,none⟩) zs.length zs.length) (hs:a.eval s=.slice ao zs.length c)
 (hown:wr.ownsRow base 3 1 (.slice (some ⟨g,0,none⟩) zs.length zs.length) zs.length xs) (hzs:Zax wr ao zs) (hb:Below base w0 wr)
 (h:∀ v' w',OwnI w' base (.slice (some ⟨g,0,none⟩) zs.length zs.length) zs->Below base w0 w'->base<=w'.heap.size->wpList Tryz.prog ops Q rest (a.put o.dst v') w') :
 wpList Tryz.prog ops Q (o::rest) a wr:=by
 obtain⟨hxl,hx⟩:=hown;rcases hx with ⟨hv,_⟩|⟨g',cap,cur,hv,hbg,hg,hnc,hcm,hcs,htake⟩
 ·
  cases hv
 ·
  simp only[Value.slice.injEq,Option.some.injEq,Addr.mk.injEq,and_true,true_and] at hv;obtain⟨rfl,rfl⟩:=hv;refine wpList_copy_splice (w:=wr) hgd d s 22 22 ho 3 Tryz.underlying22 (by obtain⟨i,hi,_,hsz,_⟩:=info_parts Zjb;rw[hi];simp[hsz])
   _ _ _ _ _ _ hd hs g 0 cur.toList 3 (by simpa using hg) (Zbe zs) (by simp[Zbe]) ?_ (by simp[Zbe,hcs]) (ints_oneCell .i64 zs) base w0 hb hbg ?_
  ·
   intro hp;rw[Zgr] at hp;obtain⟨b,off,rfl,_⟩:=hzs.cells 0 hp;refine⟨rfl,_,rfl,fun j v hj=>?_⟩;have hlt:j<zs.length:=by
    rcases Nat.lt_or_ge j zs.length with h'|h'
    ·
     exact h'
    ·
     simp[Zbe,List.getElem?_eq_none h'] at hj
   obtain⟨b',off',hab,hc⟩:=hzs.cells j hlt;cases hab;simp[Zbe,getElem?_at0 hlt] at hj;subst hj;have hadd:(⟨b,off,none⟩:Addr).add j=⟨b,off+j,none⟩:=by unfold Addr.add;split<;>simp_all
   rw[hadd];exact hc
  ·
   intro w' hh hb';refine h _ w' ⟨by simp[Zbe],.inr ⟨g,_,(Zbe zs).toArray,rfl,hbg,?_,Nat.le_refl _,hcm,by simp[Zbe],by simp[Zbe,List.take_of_length_le]⟩⟩ hb' ?_
   ·
    have:=hh.out;rw[this];have hl:cur.toList.length=zs.length:=by simp[hcs]
    simp[splice,Zbe,List.drop_eq_nil_of_le,hl]
   ·
    have h1:=hh.out;have:=(Array.getElem?_eq_some_iff.1 h1).1;omega
theorem Zou (a:Option Addr) (c:Nat) (zs:List Int) (w:World) (h:Zax w a zs) (hlen:zs.length<1000000) :
 Calls Tryz.prog 233 #[.slice a zs.length c] w fun e w'=>∃ g,e=.returned (.slice (some ⟨g,0,none⟩) zs.length zs.length)/\OwnI w' w.heap.size (.slice (some ⟨g,0,none⟩) zs.length zs.length) zs/\Below w.heap.size w w':=by
 obtain⟨i,hi,hz,hsz,hby⟩:=info_parts Zjb;have HI:=Hd h;clear h
 go_enter Tryz.func233,Tryz.ntmps233
 go_wp2_with (first
  | (at_make;refine wpList_make_full _ rfl _ _ 22 rfl w.heap.size 3 i (.int .i64 0) 1 Tryz.underlying22 hi hz hsz .i64 .i64 _ _ zs.length rfl rfl rfl rfl (by rw[hby];omega) (by unfold maxLen;omega) (Nat.le_refl _) ?_;intro w1 hown1 hg1)
  | (with_reducible refine Zl2 rfl (.tmp 7) (.tmp 8) rfl w.heap.size w.heap.size w zs _ a c rfl rfl (by exact hown1) (HI.out.keep (Zdb hg1) (by simp)) ((Below.refl _ _).grown hg1 (Nat.le_refl _) (by simp)) ?_;intro v2 w2 hown2 hb2 hs2))
 go_ret;exact⟨_,rfl,hown2,hb2⟩
theorem Zvz (a:Option Addr) (c:Nat) (zs:List Int) (x:Int) (w:World) (h:Zax w a zs) :
 Calls Tryz.prog 234 #[.slice a zs.length c,.int .i64 x] w fun e w'=>e=.returned (.int .i64 (Zfu zs x))/\∃ n,w'=w.drewN n:=by
 obtain⟨hl,hc⟩:=h;have HC:=Hd hc;clear hc
 go_enter Tryz.func234,Tryz.ntmps234
 go_wp2
 go_loop [8] (fun i=>∃ k:Nat,k<=zs.length/\i=.int .i64 k/\∀ j,j<k->at0 zs j≠x) (fun i=>zs.length-(intOf i).toNat)
 case atStart=>exact⟨0,Nat.zero_le _,rfl,by omega⟩
 case round =>
  obtain⟨k,hk,rfl,hrel⟩:=hrel;have HR:=Hd hrel;clear hrel
  by_cases hlt:k<zs.length
  ·
   obtain⟨b,off,rfl,hcell⟩:=HC.out k hlt
   by_cases hx:at0 zs k=x
   ·
    have H1:(x == at0 zs k)=true:=by simpa using hx.symm
    have HX:=Hd hx;clear hx
    go_wp2
    go_ret;exact⟨Zrp (Zp5 hlt HX.out HR.out).symm,0,rfl⟩
   ·
    have H1:(x == at0 zs k)=false:=by simpa using(fun e=>hx e.symm)
    go_wp2
    go_round
    case rel=>exact⟨k+1,by omega,by go_num,fun j hj=>by
     by_cases e:j=k
     ·
      subst e;exact hx
     ·
      exact HR.out j (by omega)⟩
    case measure=>simp[intOf];omega
  ·
   go_wp2
   go_ret;exact⟨Zrp (Zrl (fun j hj=>HR.out j (by omega))).symm,0,rfl⟩
theorem OwnI.len {w:World} {base n c:Nat} {a:Option Addr} {zs:List Int} (h:OwnI w base (.slice a n c) zs):n=zs.length:=by
 rcases h.2 with ⟨hv,h0⟩|⟨g,cap,cur,hv,_⟩
 ·
  simp only[Value.slice.injEq] at hv;omega
 ·
  simp only[Value.slice.injEq] at hv;omega
theorem OwnI.intsAt {w:World} {base n c:Nat} {a:Option Addr} {zs:List Int} (h:OwnI w base (.slice a n c) zs) (hl:zs.length<=9223372036854775807):Zax w a zs:=by
 obtain rfl:=h.len;exact Zhx hl h
theorem Zyh {a:Option Addr} {n c:Nat} {zs:List Int} {x:Int} {w:World} (hn:n=zs.length) (h:Zax w a zs) :
 Calls Tryz.prog 234 #[.slice a n c,.int .i64 x] w fun e w'=>e=.returned (.int .i64 (Zfu zs x))/\∃ n,w'=w.drewN n:=by
 subst hn;exact Zvz a c zs x w h
theorem Zn0 (va vb:Value) (xs ys:List Int) (w:World) (h:SliceIs w va xs) (h':SliceIs w vb ys) (hlen:xs.length<=1000) (hlen':ys.length<=1000) :
 Calls Tryz.prog 223 #[va,vb] w (Zjp xs ys w):=by
 obtain⟨a,c,rfl,ha,hna⟩:=h;obtain⟨b,c',rfl,hb,hnb⟩:=h';have HA:=Hd ha;have HB:=Hd hb;clear ha hb hna hnb
 by_cases hr:Ze4 xs=true
 ·
  by_cases hr':Ze4 ys=true
  ·
   by_cases hl:xs.length=ys.length
   ·
    have HE:Hid (Zd2 xs ys=0):=by unfold Zd2;rw[if_pos ⟨hr,hr'⟩,if_pos hl];rfl
    have HF:Hid (Ze5 xs ys=Zi3 xs ys 0):=by unfold Ze5;rw[if_pos ⟨hr,hr',hl⟩];rfl
    have HR:=Hd hr;have HR':=Hd hr';have H3:((xs.length:Int) != ys.length)=false:=by simp[hl]
    clear hr hr' hl
    go_enter Tryz.func223,Tryz.ntmps223
    go_wp2_with fail;refine(Zcp _ _ xs _ HA.out (by omega)).mono ?_;rintro e w1 ⟨rfl,hb1⟩;rw[HR.out];go_wp2_with fail;refine(Zcp _ _ ys _ (HB.out.below hb1) (by omega)).mono ?_;rintro e w2 ⟨rfl,hb2⟩;rw[HR'.out];have hb12:Below w.heap.size w w2:=hb1.trans (hb2.mono hb1.size);go_wp2_with fail;refine(Zou _ _ xs _ (HA.out.below hb12) (by omega)).mono ?_;rintro e w3 ⟨g,rfl,hown3,hb3⟩;have hs2:=hb12.size;have hg:w2.heap.size<=g:=(hown3.lt g rfl).1;have hbel3:Below w.heap.size w w3:=hb12.trans (hb3.mono hs2);have hs3:w2.heap.size<=w3.heap.size:=hb3.size;go_wp2_with fail
    go_loopw [6,30] (fun s6 s30 wr=>∃ (k:Nat) (cur out:List Int),k<=ys.length/\s30=.int .i64 k/\OwnI wr w2.heap.size (.slice (some ⟨g,0,none⟩) xs.length xs.length) cur/\cur.length=xs.length/\OwnI wr w2.heap.size s6 out/\s6.ownBlock≠some g/\out.length<=k*1000/\out++Zi3 cur (ys.drop k) k=Zi3 xs ys 0/\w2.heap.size<=wr.heap.size/\Below w2.heap.size w2 wr) (fun _ s30 _=>ys.length-(intOf s30).toNat)
    case atStart=>exact⟨0,xs,[],by omega,rfl,hown3,rfl,Zkl _ _,by simp[Value.ownBlock],by simp,by simp,hs3,hb3⟩
    case round =>
     obtain⟨k,cur,out,hk,rfl,hcur,hcl,hown,hne,hol,hst,hsz,hbel⟩:=hrel;have HST:=Hd hst;have HCL:=Hd hcl;have HNE:=Hd hne;have hcl1:cur.length<=1000:=by omega
     clear hst hcl hne;have HB1:=Hd (HB.out.below (hb12.trans (hbel.mono hs2)))
     by_cases hlt:k<ys.length
     ·
      obtain⟨bb,off,rfl,hcell⟩:=HB1.out.cells k hlt;have HDR:=Hd (Zrs cur ys k hlt);have HCI:=Hd (hcur.intsAt (by omega));go_wp2_with fail;refine(Zyh HCL.out.symm (HCI.out.drewN 0)).mono ?_;rintro e w' ⟨rfl,n,rfl⟩;have hp1:=Zwx cur (at0 ys k);have hp2:=Zwy cur (at0 ys k);have HBT:=Hd (Zxy cur (at0 ys k) k)
      generalize Zfu cur (at0 ys k)=p at hp1 hp2 HBT ⊢
      go_wp2_with fail;have hpl:p<xs.length\/p<=0:=by have:=HCL.out;omega
      obtain⟨N,F,HN⟩:∃ (N F:List Int),Hid (N=(bub cur k (p-k).toNat).1/\F=out++(bub cur k (p-k).toNat).2):=⟨_,_,rfl,rfl⟩
      go_loopw [6,10] (fun s6 s10 wi=>∃ (d:Nat) (c1 o1:List Int) (q:Int),s10=.int .i64 q/\-1<=q/\q<=1000/\(q<xs.length\/q<=0)/\(q<=k->d=0)/\(k<q->q=k+d)/\OwnI wi w2.heap.size (.slice (some ⟨g,0,none⟩) xs.length xs.length) c1/\c1.length=xs.length/\OwnI wi w2.heap.size s6 o1/\s6.ownBlock≠some g/\o1.length+d<=(k+1)*1000/\N=(bub c1 k d).1/\F=o1++(bub c1 k d).2/\w2.heap.size<=wi.heap.size/\Below w2.heap.size w2 wi) (fun _ s10 _=>(intOf s10+1).toNat)
      case atStart=>exact⟨(p-k).toNat,cur,out,p,rfl,hp1,by omega,hpl,by omega,by omega,hcur.drewN n,HCL.out,hown.drewN n,HNE.out,by omega,HN.out.1,HN.out.2,hsz,Zak hbel n⟩
      case round =>
       obtain⟨d,c1,o1,q,rfl,hq1,hq2,hq3,hd1,hd2,hc1,hc1l,hown1,hne1,hol1,hN,hF,hsz1,hbel1⟩:=hrel;have HN1:=Hd hN;have HF1:=Hd hF;have HC1:=Hd hc1l;have HNE1:=Hd hne1;have hc1m:c1.length<=1000:=by omega
       clear hN hF hc1l hne1
       by_cases hqk:(k:Int)<q
       ·
        obtain⟨d,rfl⟩:∃ l,d=l+1:=⟨d-1,by omega⟩;have hqe:q=(k:Int)+d+1:=by omega
        subst hqe;have hkd:k+d+1<xs.length:=by omega
        have hkd1:k+d+1<c1.length:=by rw[HC1.out];exact hkd
        clear hd1 hd2 hq3;have hw1:IntKind.i64.wrap ((k:Int)+d+1-1)=((k+d:Nat):Int):=by rw[IntWalk.i64_in _ (by omega)];omega
        have q0:=hc1.cell (k+d) (by omega);have q1:=hc1.cell (k+d+1) (by omega);have p0:=hc1.frozen (k+d);have p1:=hc1.frozen (k+d+1);have t0:((k:Int)+d).toNat=k+d:=by omega
        have t1:((k:Int)+d+1).toNat=k+d+1:=by omega
        go_wp2_with fail
        go_region
        have HSW:=Hd (Zzh (zs:=c1) (k:=k+d) hkd1);have hc3:=((hc1.stored (k+d) (at0 c1 (k+d+1))).stored (k+d+1) (at0 c1 (k+d))).drewN 1;have ho3:=((hown1.setCell_other (a:=⟨g,k+d,none⟩) HNE1.out (.int .i64 (at0 c1 (k+d+1)))).setCell_other (a:=⟨g,k+d+1,none⟩) HNE1.out (.int .i64 (at0 c1 (k+d)))).drewN 1;have hb4:=Zak ((hbel1.setCell (p:=⟨g,k+d,none⟩) hg (.int .i64 (at0 c1 (k+d+1)))).setCell (p:=⟨g,k+d+1,none⟩) hg (.int .i64 (at0 c1 (k+d)))) 1;have hg1:=(hc1.lt g rfl).2;go_wp2_with (at_builtin;go_loud (refine Zcr _ rfl _ _ rfl w2.heap.size w2 _ o1 _ rfl rfl (by rfl) (by simp) ho3 (by omega) (by simpa using hsz1) hb4 ?_);intro v2 w4 hown4 hbel4 hsz4 hkb4);have hc4:=hc3.keep hkb4.keep (fun x hx hxx=>by cases hx;exact HNE1.out hxx.symm);rw[<- HSW.out] at hc4;have hne4:=hkb4.ne HNE1.out (by simpa using hg1);go_roundw
        case rel=>exact⟨d,Zqm c1 ((k+d:Nat):Int),o1++[((k+d:Nat):Int)],((k+d:Nat):Int),by go_num,by omega,by omega,by omega,by omega,by omega,hc4,by rw[Zqn];exact HC1.out,hown4,hne4,by simp;omega,HN1.out,by rw[HF1.out,Zu6];simp,hsz4,hbel4⟩
        case measure=>simp[intOf];omega
       ·
        obtain rfl:=hd1 (by omega);have HOW:=Hd hown1;have hN2:N=c1:=HN1.out;have hF2:F=o1:=by rw[HF1.out];simp[bub]
        have HNN:=Hd hN2;have HFF:=Hd hF2;clear hN2 hF2 hd1 hd2 hown1
        go_wp2
        go_roundw
        case rel=>exact⟨k+1,N,F,by omega,by go_num,by rw[HNN.out];exact hc1,by rw[HNN.out];exact HC1.out,by rw[HFF.out];exact HOW.out,HNE1.out,by rw[HFF.out];omega,by
         rw[HN.out.1,HN.out.2,<- HST.out,HDR.out,HBT.out];simp,hsz1,hbel1⟩
        case measure=>simp[intOf];omega
     ·
      obtain rfl:k=ys.length:=by omega
      have hfin:Zi3 xs ys 0=out:=by rw[<- HST.out];simp[Zi3]
      have HFIN:=Hd hfin;clear hfin
      go_wp2
      go_ret2
      exact Zf9 HE.out (HF.out.trans HFIN.out) (hown.lower hs2) (hb12.trans (hbel.mono hs2))
   ·
    have HE:Hid (Zd2 xs ys=3):=by unfold Zd2;rw[if_pos ⟨hr,hr'⟩,if_neg hl];rfl
    have HF:Hid (Ze5 xs ys=[]):=by unfold Ze5;rw[if_neg (fun hh=>hl hh.2.2)];rfl
    have HR:=Hd hr;have HR':=Hd hr';have H3:((xs.length:Int) != ys.length)=true:=by simp;omega
    clear hr hr' hl
    go_enter Tryz.func223,Tryz.ntmps223
    go_wp2_with fail;refine(Zcp _ _ xs _ HA.out (by omega)).mono ?_;rintro e w1 ⟨rfl,hb1⟩;rw[HR.out];go_wp2_with fail;refine(Zcp _ _ ys _ (HB.out.below hb1) (by omega)).mono ?_;rintro e w2 ⟨rfl,hb2⟩;rw[HR'.out];go_wp2_with fail
    go_ret2
    exact Zf9 HE.out HF.out (Zkl _ _) (hb1.trans (hb2.mono hb1.size))
  ·
   have HE:Hid (Zd2 xs ys=1):=by unfold Zd2;rw[if_neg (fun hh=>hr' hh.2)];rfl
   have HF:Hid (Ze5 xs ys=[]):=by unfold Ze5;rw[if_neg (fun hh=>hr' hh.2.1)];rfl
   have hr'':Ze4 ys=false:=by simpa using hr'
   have HR:=Hd hr;have HR':=Hd hr'';clear hr hr' hr''
   go_enter Tryz.func223,Tryz.ntmps223
   go_wp2_with fail;refine(Zcp _ _ xs _ HA.out (by omega)).mono ?_;rintro e w1 ⟨rfl,hb1⟩;rw[HR.out];go_wp2_with fail;refine(Zcp _ _ ys _ (HB.out.below hb1) (by omega)).mono ?_;rintro e w2 ⟨rfl,hb2⟩;rw[HR'.out];go_wp2_with fail
   go_ret2
   exact Zf9 HE.out HF.out (Zkl _ _) (hb1.trans (hb2.mono hb1.size))
 ·
  have HE:Hid (Zd2 xs ys=1):=by unfold Zd2;rw[if_neg (fun hh=>hr hh.1)];rfl
  have HF:Hid (Ze5 xs ys=[]):=by unfold Ze5;rw[if_neg (fun hh=>hr hh.1)];rfl
  have hr'':Ze4 xs=false:=by simpa using hr
  have HR:=Hd hr'';clear hr hr''
  go_enter Tryz.func223,Tryz.ntmps223
  go_wp2_with fail;refine(Zcp _ _ xs _ HA.out (by omega)).mono ?_;rintro e w1 ⟨rfl,hb1⟩;rw[HR.out];go_wp2_with fail
  go_ret2
  exact Zf9 HE.out HF.out (Zkl _ _) hb1
end Go.Proofs.YtmofaapnkidioaaGreat
namespace Go.Proofs
open Go.Shelf
def Tryz.lays112_ren:Go.Shelf.Ren:=⟨fun|112=>235|n=>n,fun|28=>22|3=>3|4=>4|0=>0|n=>n,fun|n=>n⟩
theorem Tryz.lays112:Go.Proofs.Lays.n112 Tryz.prog Tryz.lays112_ren:={
 mixed:=by kernel_rfl
 f112:=Tryz.func235.trans (congrArg some (by kernel_rfl))
 t0:=Tryz.underlying0
 a0:=Tryz.isAgg0
 z0:=Tryz.sizeOf0
 v0:=Tryz.zeroValue0
 t3:=Tryz.underlying3
 a3:=Tryz.isAgg3
 z3:=Tryz.sizeOf3
 v3:=Tryz.zeroValue3
 t4:=Tryz.underlying4
 a4:=Tryz.isAgg4
 z4:=Tryz.sizeOf4
 v4:=Tryz.zeroValue4
 t28:=Tryz.underlying22
 a28:=Tryz.isAgg22
 z28:=Tryz.sizeOf22
 v28:=Tryz.zeroValue22 }
open Go.RowKit Go.Lib Go.Sort in
theorem Tryz.slices_Reverse_int_arr (blk off cap:Nat) (d:Array Int) (w:World) (hH:Holds encI w blk off d) (hsz:d.size<=9223372036854775807) :
 Calls Tryz.prog 235 #[.slice (some ⟨blk,off,none⟩) d.size cap] w fun e w'=>e=.returned (.tuple #[])/\∃ n,w'=putRow encI (Sort.ahead w n) blk off d.reverse:=Any.slices_Reverse_int_arr Tryz.lays112 blk off cap d w hH hsz
open Go.RowKit Go.Lib Go.Sort in
theorem Tryz.slices_Reverse_int (blk off cap:Nat) (zs:List Int) (w:World) (hH:Holds (Value.int .i64) w blk off zs.toArray) (hsz:zs.length<=9223372036854775807) :
 Calls Tryz.prog 235 #[.slice (some ⟨blk,off,none⟩) zs.length cap] w fun e w'=>e=.returned (.tuple #[])/\∃ n,w'=putRow (Value.int .i64) (Sort.ahead w n) blk off zs.reverse.toArray:=Any.slices_Reverse_int Tryz.lays112 blk off cap zs w hH hsz
open Go.RowKit Go.Lib Go.Sort in
theorem Tryz.slices_Reverse_int_empty (a:Option Addr) (cap:Nat) (w:World) :
 Calls Tryz.prog 235 #[.slice a 0 cap] w fun e w'=>e=.returned (.tuple #[])/\w'=w:=Any.slices_Reverse_int_empty Tryz.lays112 a cap w
theorem Tryz.slices_Reverse_int_cells (b off n c:Nat) (zs:List Int) (w:World) (hz:n<=zs.length) (hbig:n<=9223372036854775807) (hc:∀ j,j<zs.length->w.cell? ⟨b,off+j,none⟩=some (.int .i64 (zs.getD j 0))) (hf:∀ j,j<n->w.frozen? ⟨b,off+j,none⟩=false) :
 Calls Tryz.prog 235 #[.slice (some ⟨b,off,none⟩) n c] w fun e w'=>e=.returned (.tuple #[])/\∃ q,w'=(w.drewN q).setCells b off ((zs.take n).reverse.map (Value.int .i64)):=Any.slices_Reverse_int_cells Tryz.lays112 b off n c zs w hz hbig hc hf
end Go.Proofs
namespace Go.Proofs.YtmofaapnkidioaaGreat
open Go.RowKit
theorem Zl3 {B g:Nat} {a:World} (hg:B<=g) (ys:List Value):∀ (w:World) (o:Nat),Below B a w->Below B a (w.setCells g o ys):=by
 induction ys with
 | nil=>intro w o h;exact h
 | cons y ys ih=>intro w o h;exact ih _ _ (h.setCell hg _)
theorem OwnI.setCells {base g n c:Nat} (ys:List Int):∀ (w:World) (o:Nat) (zs:List Int),OwnI w base (.slice (some ⟨g,0,none⟩) n c) zs->o+ys.length<=zs.length ->
 OwnI (w.setCells g o (Zbe ys)) base (.slice (some ⟨g,0,none⟩) n c) (zs.take o++ys++zs.drop (o+ys.length)):=by
 induction ys with
 | nil=>intro w o zs h _;simpa [Zbe,World.setCells] using h
 | cons y ys ih =>
   intro w o zs h hl;simp only[List.length_cons] at hl;have h1:=ih (w.setCell ⟨g,o,none⟩ (.int .i64 y)) (o+1) (zs.set o y) (h.stored o y) (by simp;omega);have e:(zs.set o y).take (o+1)++ys++(zs.set o y).drop (o+1+ys.length)=zs.take o++(y::ys)++zs.drop (o+(y::ys).length):=by
    have e1:(zs.set o y).take (o+1)=zs.take o++[y]:=by
     rw[List.set_eq_take_append_cons_drop,if_pos (by omega),List.take_append];simp;have:min o zs.length=o:=by omega
     rw[this];simp
     exact List.take_of_length_le (by simp;omega)
    have e2:(zs.set o y).drop (o+1+ys.length)=zs.drop (o+1+ys.length):=by
     rw[List.drop_set];rw[if_pos (by omega)]
    rw[e1,e2];simp[Nat.add_assoc,Nat.add_comm 1 ys.length]
   rw[e] at h1;exact h1
theorem Zp4 (a:Option Addr) (c:Nat) (zs:List Int) (w:World) (h:Zax w a zs) (hlen:zs.length<1000000) :
 Calls Tryz.prog 224 #[.slice a zs.length c] w fun e w'=>∃ v,e=.returned v/\SliceIs w' v zs.reverse/\Below w.heap.size w w':=by
 have HI:=Hd h;clear h
 go_enter Tryz.func224,Tryz.ntmps224
 go_wp2_with fail;refine(Zou _ _ zs _ HI.out hlen).mono ?_;rintro e w1 ⟨g,rfl,hown,hbel⟩;have hg:w.heap.size<=g:=(hown.lt g rfl).1;go_wp2_with fail;refine(Tryz.slices_Reverse_int_cells g 0 zs.length zs.length zs w1 (Nat.le_refl _) (by omega) (fun j hj=>by rw[Nat.zero_add];exact hown.cell j hj) (fun j hj=>by rw[Nat.zero_add];exact hown.frozen j)).mono ?_;rintro e w2 ⟨rfl,q,hw2⟩;have h2:=OwnI.setCells zs.reverse (w1.drewN q) 0 zs (hown.drewN q) (by simp);have e:zs.drop (0+zs.reverse.length)=[]:=List.drop_of_length_le (by simp);rw[e,List.take_zero,List.nil_append,List.append_nil] at h2;have hb2:Below w.heap.size w ((w1.drewN q).setCells g 0 (Zbe zs.reverse)):=Zl3 hg _ _ _ (Zak hbel _);rw[List.take_length] at hw2
 change w2=(w1.drewN q).setCells g 0 (Zbe zs.reverse) at hw2
 rw[<- hw2] at h2 hb2;clear hw2;go_wp2_with fail;go_ret;exact⟨_,rfl,h2.sliceIs (by simp;omega),hb2⟩
open Go.RowKit
abbrev KF:Law:=fun _ _ _ _ _ _ _=>False
section
variable {K:Law} {n:Nat} {Od:List Nat->Prop} {room:Nat} {w0 w w':World} {mb:Nat} {fs:List (Int×BF)} {nx:Int} {o o':Own} {m m':ManD} {V V':Nat->BF}
theorem SatE.full (h:SatE KF n Od room w0 mb fs nx w o m V):SatE K n Od room w0 mb fs nx w o m V:=by
 obtain⟨s,hs⟩:=h.is;exact⟨⟨s,hs.mono fun _ _ _ _ _ e=>e.elim⟩,h.lt,h.ok,h.vars,h.od,h.room,h.next,h.hs,h.chg⟩
theorem SatE.cleared {s:ManW} {w1:World} (h:SatE K n Od room w0 mb fs nx w o m V) (g1:Zcd (fun _ _ _ _ _=>False) o w1 mb m s) (g2:Chg (· = .entries) o o w w1) (g3:Zaj o w1):SatE KF n Od room w0 mb fs nx w1 o m V :=
 ⟨⟨s,g1⟩,g3,h.ok,h.vars,h.od,h.room,h.next,h.hs,h.chg.lower (ChgX.of_chg g2.any NoB) (fun _ e=>e.elim)⟩
structure HapS (n room:Nat) (w0:World) (mb:Nat) (fs:List (Int×BF)) (nx:Int) (o:Own) (w:World) (m:ManD) (o':Own) (w':World) (m':ManD) (V':Nat->BF):Prop where
 sat:SatE KF n (fun _=>True) room w0 mb fs nx w' o' m' V'
 waits:m'.waits=m.waits
 calls:m'.calls=m.calls
 chg:Chg (fun _=>True) o o' w w'
 many:m'.d.pool.many<=m.d.pool.many\/m'.d.pool.many<=fs.length*2^n
theorem HapS.trans {o'':Own} {w'':World} {m'':ManD} {V'':Nat->BF} (h:HapS n room w0 mb fs nx o w m o' w' m' V') (h':HapS n room w0 mb fs nx o' w' m' o'' w'' m'' V''):HapS n room w0 mb fs nx o w m o'' w'' m'' V'' :=
 ⟨h'.sat,h'.waits.trans h.waits,h'.calls.trans h.calls,h.chg.trans h'.chg,by
  rcases h'.many with h1|h1
  ·
   exact h.many.imp (fun h2=>Nat.le_trans h1 h2) (fun h2=>Nat.le_trans h1 h2)
  ·
   exact .inr h1⟩
theorem Zvx {s:ManW} (h:SatE KF n (fun _=>True) room w0 mb fs nx w o m V) (hs:Zcd (fun _ _ _ _ _=>False) o w mb m s) (hn:nx<=549755813888) (z:Int) :
 Calls Tryz.prog 197 #[.pointer (some ⟨s.sb,0,none⟩),.int .i64 z] w fun e w'=>∃ q:Int,e=.returned (.int .i64 q)/\∃ o' m' V',HapS n room w0 mb fs nx o w m o' w' m' V':=by
 by_cases hz:z<0\/(n:Int)-1<=z
 ·
  refine(Zog hs.store h.ok.store.small z (by rw[h.vars];exact hz)).mono ?_;rintro e w' ⟨rfl,rfl⟩;exact⟨2,rfl,o,m,V,h,rfl,rfl,Chg.refl _ _ _,.inl (Nat.le_refl _)⟩
 ·
  obtain⟨k,rfl⟩:∃ k:Nat,z=k:=⟨z.toNat,by omega⟩;refine(Zxc h hs (Chg.refl _ _ _) h.lt (by omega) hn).mono ?_;rintro e w' ⟨o',m',V',hm⟩;obtain⟨d0,cr,hw⟩:=hm.way;rcases hw with ⟨e1,e2,_⟩|⟨e1,so⟩
  ·
   exact⟨7,e1,o',m',V',hm.sat,hm.waits,hm.calls,hm.chg,.inr (hm.sat.few (by rw[e2];exact cr.dead))⟩
  ·
   exact⟨0,e1,o',m',V',hm.sat,hm.waits,hm.calls,hm.chg,.inr (hm.sat.few so.dead)⟩
theorem Ztn {s:ManW} (h:SatE KF n (fun _=>True) room w0 mb fs nx w o m V) (hs:Zcd (fun _ _ _ _ _=>False) o w mb m s) :
 Calls Tryz.prog 212 #[.pointer (some ⟨s.sb,0,none⟩)] w fun e w'=>∃ q:Int,e=.returned (.int .i64 q)/\∃ o' m' V',HapS n room w0 mb fs nx o w m o' w' m' V':=by
 refine(Zh6 hs.store h.lt h.ok.store).mono ?_;rintro e w' ⟨rfl,o',d',st,lt,cr,ch⟩;have hst:SatE KF n (fun _=>True) room w0 mb fs nx w' o' { m with d:=d' } V:=⟨⟨s,hs.setStore h.lt st ch⟩,lt,⟨cr.ok h.ok.store,Zgq h.ok.handles h.ok.store cr⟩,by dsimp only;rw[cr.vars];exact h.vars,trivial,by dsimp only;rw[cr.room];exact h.room,h.next,h.hs,h.chg.lower (ChgX.of_chg ch.any NoB) (fun _ e=>e.elim)⟩;exact⟨_,rfl,o',{ m with d:=d' },V,hst,rfl,rfl,ch.any,.inr (hst.few cr.dead)⟩
theorem Zrk {base:Nat} {v:Value} {zs:List Int} (h:OwnI w base v zs):zs.length<=9223372036854775807:=by
 rcases h.2 with ⟨_,h0⟩|⟨g,cap,cur,_,_,_,h1,h2,_⟩
 ·
  omega
 ·
  unfold maxLen at h2;omega
theorem Zax.chg {R:Role->Prop} {a:Option Addr} {zs:List Int} (h:Zax w a zs) (hc:Chg R o o' w w') (hn:∀ x,a=some x->o x.block=none):Zax w' a zs :=
 ⟨h.len,fun k hk=>by
  obtain⟨b,off,rfl,hc1⟩:=h.cells k hk;exact⟨b,off,rfl,hc.cell (p:=⟨b,off+k,none⟩) hc1 (hn ⟨b,off,none⟩ rfl)⟩⟩
theorem Zhf (hn:nx<=549755813888) (ev:Ev):HapG K n (fun _=>True) room w0 mb fs nx ev:=by
 intro o W m V h;obtain⟨P,hP⟩:∃ P:Ending->World->Prop,P=fun x w'=>x=.returned (.tuple #[]) /\
  ∃ o' m' V',SatE K n (fun _=>True) room w0 mb fs nx w' o' m' V'/\m'.waits=m.waits/\m'.calls=m.calls/\(m'.d.pool.many<=m.d.pool.many\/m'.d.pool.many<=fs.length*2^n)/\ChgX NoB o o' W w':=⟨_,rfl⟩
 rw[<- hP];obtain⟨W1,hW1⟩:∃ W1,W1=W.alloc (.cells #[.int .i64 ev.after,.int .i64 ev.kind,.int .i64 ev.level] 103):=⟨_,rfl⟩;have hb1:Below W.heap.size W W1:=by rw[hW1];exact Zad W _
 obtain⟨bx,hbx⟩:∃ q,q=W.heap.size:=⟨_,rfl⟩;have HB1:Hid (Box o W1 bx (.cells #[.int .i64 ev.after,.int .i64 ev.kind,.int .i64 ev.level] 103 (0,0))):=Hd ⟨by rw[hW1,hbx];exact heap_alloc_new W _,h.lt.none (by rw[hbx];exact Nat.le_refl _)⟩;have h1:=h.below hb1
 have HP:Hid (∀ o' w' m' V',HapS n room w0 mb fs nx o W1 m o' w' m' V'->P (.returned (.tuple #[])) w'):=Hd (by
  intro o' w' m' V' hh;rw[hP];exact⟨rfl,o',m',V',hh.sat.full,hh.waits,hh.calls,hh.many,(ChgX.of_below hb1 o NoB).trans (ChgX.of_chg hh.chg NoB) (fun _ _ e=>e)⟩)
 obtain⟨s,hs⟩:=h1.is;obtain⟨c0,c1,c2,c3,c4,c5,f0⟩:=cells6 hs.blk;have HCL:=Hd (wclear h1 hs (fun _ _ _ _ _=>False));have H1:=Hd h1;obtain⟨kd,hkd⟩:∃ z,z=ev.kind:=⟨_,rfl⟩;obtain⟨lv,hlv⟩:∃ z,z=ev.level:=⟨_,rfl⟩;obtain⟨af,haf⟩:∃ z,z=ev.after:=⟨_,rfl⟩;have HN:=Hd hn;unfold evA;rw[<- hkd,<- hlv,<- haf] at HB1 hW1 ⊢;have HW:=Hd hW1;have HX:=Hd hbx;clear h h1 hs hP hb1 hbx hkd hlv haf hn hW1
 go_enter Tryz.func199,Tryz.ntmps199
 go_upto_region 1 with fail;rw[<- HW.out,<- HX.out];go_wp2_with fail;refine HCL.out.mono ?_;rintro x w1 ⟨rfl,g1,g2,g3⟩;have HS1:=Hd (H1.out.cleared g1 g2 g3);have HB2:=Hd (HB1.out.chg g2);have HG:=Hd g1;have HCH:Hid (Chg (fun _=>True) o o W1 w1):=Hd g2.any;have b1:w1.cell? ⟨bx,1,none⟩=some (.int .i64 kd):=HB2.out.cell 1;have b2:w1.cell? ⟨bx,2,none⟩=some (.int .i64 lv):=HB2.out.cell 2;clear c0 c1 c2 c3 c4 c5 f0 HCL g1 g2 g3;obtain⟨c0,c1,c2,c3,c4,c5,f0⟩:=cells6 HG.out.blk
 by_cases k1:kd=1
 ·
  subst k1;have HC:=Hd (Ztn HS1.out HG.out);go_wp2_with fail;refine HC.out.mono ?_;rintro x w2 ⟨q,rfl,o',m',V',hh⟩;have HF:=Hd (HP.out o' w2 m' V' ⟨hh.sat,hh.waits,hh.calls,HCH.out.trans hh.chg,hh.many⟩);clear hh;go_wp2_with fail;refine bodyPost_end (results_none rfl _ _ _) rfl ?_;exact HF.out
 ·
  have e1:(kd == 1)=false:=by simp[k1]
  by_cases k2:kd=2
  ·
   subst k2;clear k1 e1;have HC:=Hd (Zvx (HS1.out.below (Zag w1 1)) (HG.out.below HS1.out.lt (Zag w1 1)) HN.out lv);go_upto_region 13 with fail;refine Zap (fun W:World=>W=w1.drew) true 6 [(0,false),(1,false),(2,false),(3,false),(4,false),(5,false),(6,true)] (by kernel_rfl) (by kernel_rfl) rfl ?_;simp only[planned,Zdi]
   iterate 6
    refine Zaq rfl ?_;apply Exists.intro;refine⟨fun w' hw=>?_,?_⟩
    ·
     subst hw;go_simp;rfl
    simp only[Zaf]
   refine Zdr rfl (by go_simp) (HC.out.mono (R':=fun e w'=>∃ v,e=.returned v/\∃ o' m' V',HapS n room w0 mb fs nx o w1.drew m o' w' m' V') (fun e w' h=>by obtain⟨q,e1,h2⟩:=h;exact⟨_,e1,h2⟩)) ?_;rintro v w2 ⟨o',m',V',hh⟩;simp only[Zaf];refine Zbz ?_;have HF:=Hd (HP.out o' w2 m' V' ⟨hh.sat,hh.waits,hh.calls,HCH.out.trans ((Chg.of_below (Zag w1 1) _ _).trans hh.chg),hh.many⟩);clear hh;go_wp2_with fail;refine bodyPost_end (results_none rfl _ _ _) rfl ?_;exact HF.out
  ·
   have e2:(kd == 2)=false:=by simp[k2]
   clear k1 k2;have hvl:m.d.vars.length<=64:=HS1.out.ok.store.small;have HO:=Hd (Zh0 HG.out.store HS1.out.lt hvl);go_wp2_with fail;refine HO.out.mono ?_;rintro x w2 ⟨v,rfl,hown,hb2⟩;obtain⟨zs,hzs⟩:∃ zs,zs=m.d.vars.map Int.ofNat:=⟨_,rfl⟩;have hzl:zs.length<=64:=by rw[hzs,List.length_map];exact hvl
   rw[<- hzs] at hown;obtain⟨a,c,rfl,ha,hna⟩:=hown.sliceIs (by omega);have HT:=Hd (Zp4 a c zs w2 ha (by omega));have HSL:Hid (SliceIs w2 (.slice a zs.length c) zs):=Hd ⟨a,c,rfl,ha,hna⟩;have HB22:=Hd hb2;have HZL:=Hd hzl;clear hown hb2 hzs ha hna hvl c0 c1 c2 c3 c4 c5 f0 b1 b2 HO;go_wp2_with fail;refine HT.out.mono ?_;rintro x w3 ⟨vt,rfl,hst,hb3⟩;obtain⟨at',ct',hvt,q1,q2⟩:=hst;rw[List.length_reverse] at hvt;subst hvt;have HST:=Hd (Zn0 (.slice a zs.length c) (.slice at' zs.length ct') zs zs.reverse w3 (HSL.out.below hb3) ⟨at',ct',by rw[List.length_reverse],q1,q2⟩ (by omega) (by simp;omega));have HB3:=Hd hb3;clear hb3 HT q1 q2;go_wp2_with fail;refine HST.out.mono ?_;rintro x w4 ⟨vr,rfl,hor,hb4⟩;obtain⟨rs,hrs⟩:∃ rs,rs=Ze5 zs zs.reverse:=⟨_,rfl⟩;obtain⟨er,her⟩:∃ z,z=Zd2 zs zs.reverse:=⟨_,rfl⟩;rw[<- hrs] at hor;rw[<- her];have hbx:Below w1.heap.size w1 w4:=HB22.out.trans ((HB3.out.trans (hb4.mono HB3.out.size)).mono HB22.out.size);have hlow:=hor.lt;have hrl:rs.length<=9223372036854775807:=Zrk hor;obtain⟨ar,cr,rfl,hi,_⟩:=hor.sliceIs hrl
   have HI0:Hid (∃ o' m' V',HapS n room w0 mb fs nx o w1 m o' w4 m' V'/\Zax w4 ar rs/\(∀ x,ar=some x->o' x.block=none)):=Hd ⟨o,m,V,(⟨HS1.out.below hbx,rfl,rfl,Chg.of_below hbx _ _,.inl (Nat.le_refl _)⟩:HapS n room w0 mb fs nx o w1 m o w4 m V),hi,fun x hx=>by
    subst hx;refine HS1.out.lt.none ?_;have h1:=(hlow _ rfl).1;have h2:=HB22.out.size;have h3:=HB3.out.size;omega⟩
   clear her hrs hor hb4 hbx hlow hi HST;go_wp2_with fail
   go_loopw [30] (fun s30 wr=>∃ j:Nat,j<=rs.length/\s30=.int .i64 j/\Hid (∃ o' m' V',HapS n room w0 mb fs nx o w1 m o' wr m' V'/\Zax wr ar rs/\(∀ x,ar=some x->o' x.block=none))) (fun s30 _=>rs.length-(intOf s30).toNat)
   case atStart=>exact⟨0,Nat.zero_le _,rfl,HI0⟩
   case round =>
    obtain⟨j,hj,rfl,HH⟩:=hrel;obtain⟨oj,mj,Vj,hh,hi,hno⟩:=HH.out
    by_cases hlt:j<rs.length
    ·
     obtain⟨b,off,rfl,hcell⟩:=hi.cells j hlt;obtain⟨s',hs'⟩:=hh.sat.is;obtain⟨c0,c1,c2,c3,c4,c5,f0⟩:=cells6 hs'.blk;have hjz:(j:Int)<rs.length:=by omega
     obtain⟨z,hz⟩:∃ z,z=at0 rs j:=⟨_,rfl⟩;rw[<- hz] at hcell;have HC:=Hd (Zvx hh.sat hs' HN.out z);have HHJ:=Hd hh;have HIJ:=Hd hi;have HNO:=Hd hno;have hblt:b<wr.heap.size:=Zaa hcell;have HBL:=Hd hblt;have HJL:=Hd hlt;clear hh hi hno hs' HH HI0 hz hblt;go_wp2_with fail;refine HC.out.mono ?_;rintro x w5 ⟨q,rfl,o5,m5,V5,h5⟩;have HNX:=Hd (And.intro (HHJ.out.trans h5) (And.intro (HIJ.out.chg h5.chg HNO.out) (fun x (hx:some _=some x)=>h5.chg.alien' (by cases hx;exact HBL.out) (HNO.out x hx))));clear h5 c0 c1 c2 c3 c4 c5 f0 hcell;go_wp2_with fail;go_roundw
     case rel=>exact⟨j+1,Nat.succ_le_of_lt HJL.out,by go_num,Hd ⟨_,_,_,HNX.out.1,HNX.out.2.1,HNX.out.2.2⟩⟩
     case measure =>
      have:=HJL.out;simp[intOf];omega
    ·
     obtain rfl:j=rs.length:=by omega
     have HF:=Hd (HP.out oj wr mj Vj ⟨hh.sat,hh.waits,hh.calls,HCH.out.trans hh.chg,hh.many⟩);clear hh hi hno HH HI0;go_wp2_with fail;refine bodyPost_end (results_none rfl _ _ _) rfl ?_;exact HF.out
end
open Go.RowKit
section
variable {K:Law} {n:Nat} {Od:List Nat->Prop} {room:Nat} {w0 w w':World} {mb:Nat} {fs:List (Int×BF)} {nx:Int} {o o':Own} {m m':ManD} {V V':Nat->BF}
structure NewH (K:Law) (n:Nat) (Od:List Nat->Prop) (room:Nat) (w0:World) (mb:Nat) (fs:List (Int×BF)) (nx:Int) (o:Own) (w:World) (m:ManD) (V:Nat->BF) (F:BF) (o':Own) (w':World) (m':ManD):Prop where
 sat:SatE K n Od room w0 mb (fs++[(nx,F)]) (nx+1) w' o' m' V
 waits:m'.waits=m.waits
 calls:m'.calls=m.calls
 nodes:Zab m'.d=Zab m.d
 vars:m'.d.vars=m.d.vars
 many:m'.d.pool.many=m.d.pool.many
 chg:Chg (fun _=>True) o o' w w'
theorem Zrc (hK:Zci K) (h:SatE K n Od room w0 mb fs nx w o m V) (hn:nx<549755813888) {k:Int} {F:BF} (hk:(k,F)∈fs) :
 Calls Tryz.prog 139 #[.pointer (some ⟨mb,0,none⟩),.int .i64 k] w fun x w'=>x=.returned (.tuple #[.int .i64 nx,.int .i64 0])/\∃ o' m',NewH K n Od room w0 mb fs nx o w m V F o' w' m':=by
 obtain⟨f,hf,rfl⟩:=h.find hk;obtain⟨s,hs⟩:=h.is;obtain⟨c0,c1,c2,c3,c4,c5,f0⟩:=cells6 hs.blk;have hl:=Zfg hs h.ok.handles.nodup hf;have hnx:=h.next
 have HG:=Hd (Znq hK h.is h.lt h.ok f (h.ok.handles.ok _ hf) (by rw[hnx];omega));have H:=Hd h;rw[hnx] at HG;clear hs h hf hk hnx
 go_enter Tryz.func139,Tryz.ntmps139
 go_wp2_with fail;refine HG.out.mono ?_;rintro x w1 ⟨rfl,o',m',hg⟩;have HQ:Hid (NewH K n Od room w0 mb fs nx o w m V (ef V f) o' w1 m'):=Hd ⟨H.out.gave hg,hg.waits,hg.calls,hg.nodes,hg.vars,hg.many,hg.chg⟩;clear hg;go_wp2_with fail
 go_ret2
 exact⟨rfl,_,_,HQ.out⟩
theorem Ybh {N:Nat->Option BN} {e:Nat} (h:okE N e):okE N (enot e):=by
 unfold okE at h ⊢;rw[Zgn];exact h
theorem Zt0 (hK:Zci K) (h:SatE K n Od room w0 mb fs nx w o m V) (hn:nx<549755813888) {k:Int} {F:BF} (hk:(k,F)∈fs) :
 Calls Tryz.prog 142 #[.pointer (some ⟨mb,0,none⟩),.int .i64 k] w fun x w'=>x=.returned (.tuple #[.int .i64 nx,.int .i64 0])/\∃ o' m',NewH K n Od room w0 mb fs nx o w m V (fun ρ => !F ρ) o' w' m':=by
 obtain⟨f,hf,rfl⟩:=h.find hk;obtain⟨s,hs⟩:=h.is;obtain⟨c0,c1,c2,c3,c4,c5,f0⟩:=cells6 hs.blk;have hl:=Zfg hs h.ok.handles.nodup hf;have hnx:=h.next
 have hok:=h.ok.handles.ok _ hf;have hlt:f<eMax:=by
  obtain⟨s2,h2⟩:=hs.store;have:=h2.edge_lt hok;unfold eMax;omega
 have HG:=Hd (Znq hK h.is h.lt h.ok (enot f) (Ybh hok) (by rw[hnx];omega));have HNOT:=Hd (Zrj f w hlt);have H:=Hd h;rw[hnx] at HG;clear hs h hf hk hnx hok hlt
 go_enter Tryz.func142,Tryz.ntmps142
 go_wp2_with fail;refine HNOT.out.mono ?_;rintro x w1 ⟨rfl,rfl⟩;go_wp2_with fail;refine HG.out.mono ?_;rintro x w1 ⟨rfl,o',m',hg⟩
 have HQ:Hid (NewH K n Od room w0 mb fs nx o w m V (fun ρ => !ef V f ρ) o' w1 m'):=Hd (by
  have e:(fun ρ => !ef V f ρ)=ef V (enot f):=by funext ρ;rw[Zh9]
  rw[e];exact⟨H.out.gave hg,hg.waits,hg.calls,hg.nodes,hg.vars,hg.many,hg.chg⟩)
 clear hg;go_wp2_with fail
 go_ret2
 exact⟨rfl,_,_,HQ.out⟩
theorem SatE.nofind (h:SatE K n Od room w0 mb fs nx w o m V) {k:Int} (hk:∀ p∈fs,p.1≠k):∀ f,(k,f)∉m.hs:=by
 intro f hf;refine hk (k,ef V f) ?_ rfl;rw[<- h.hs];exact List.mem_map.2 ⟨(k,f),hf,rfl⟩
theorem Zpu (h:SatE K n Od room w0 mb fs nx w o m V) {k:Int} {F:BF} (hk:(k,F)∈fs) :
 Calls Tryz.prog 36 #[.pointer (some ⟨mb,0,none⟩),.int .i64 k] w fun x w'=>x=.returned (.bool true)/\w=w':=by
 obtain⟨f,hf,rfl⟩:=h.find hk;obtain⟨s,hs⟩:=h.is;obtain⟨c0,c1,c2,c3,c4,c5,f0⟩:=cells6 hs.blk;have hl:=Zfg hs h.ok.handles.nodup hf;clear hs h hf hk
 go_enter Tryz.func36,Tryz.ntmps36
 go_wp2_with fail;go_ret;exact⟨rfl,rfl⟩
theorem Zym (h:SatE K n Od room w0 mb fs nx w o m V) {k:Int} (hk:∀ p∈fs,p.1≠k) :
 Calls Tryz.prog 36 #[.pointer (some ⟨mb,0,none⟩),.int .i64 k] w fun x w'=>x=.returned (.bool false)/\w=w':=by
 have hno:=h.nofind hk;obtain⟨s,hs⟩:=h.is;obtain⟨c0,c1,c2,c3,c4,c5,f0⟩:=cells6 hs.blk;have hl:=Ybc hs hno;clear hs h hno hk
 go_enter Tryz.func36,Tryz.ntmps36
 go_wp2_with fail;go_ret;exact⟨rfl,rfl⟩
end
open Go.RowKit
def delK {α:Type} (k:Int) (l:List (Int×α)):List (Int×α):=l.filter fun p=>decide (p.1≠k)
theorem Zk5 {α:Type} {k:Int} {l:List (Int×α)} (h:∀ p∈l,p.1≠k):delK k l=l:=by
 unfold delK;rw[List.filter_eq_self];intro p hp;simp[h p hp]
theorem Zf6 {α:Type} {x:Int×α} {l:List (Int×α)} (h:((x::l).map Prod.fst).Nodup):∀ p∈l,p.1≠x.1:=by
 intro p hp e;rw[List.map_cons,List.nodup_cons] at h;exact h.1 (List.mem_map.2 ⟨p,hp,e⟩)
theorem Zjr {α:Type} {x:Int×α} {l:List (Int×α)} (h:((x::l).map Prod.fst).Nodup):delK x.1 (x::l)=l:=by
 have h1:=Zk5 (Zf6 h);unfold delK at h1 ⊢;rw[List.filter_cons_of_neg (by simp),h1]
theorem Zjs {α:Type} {k:Int} {x:Int×α} {l:List (Int×α)} (h:x.1≠k):delK k (x::l)=x::delK k l:=by
 unfold delK;rw[List.filter_cons_of_pos (by simp[h])]
theorem Zip {α:Type} {k:Int}:∀ (l:List (Int×α)) (j:Nat) (hj:j<l.length),(l.map Prod.fst).Nodup->l[j].1=k->l.eraseIdx j=delK k l
 | x::l,0,_,hn,hk=>by
   have e:x.1=k:=hk;subst e;rw[Zjr hn];rfl
 | x::l,j+1,hj,hn,hk=>by
   have hj':j<l.length:=by simpa using hj
   have hk':l[j].1=k:=by simpa using hk
   have hx:x.1≠k:=by
    intro e;exact Zf6 hn l[j] (List.getElem_mem hj') (hk'.trans e.symm)
   have hn':(l.map Prod.fst).Nodup:=by rw[List.map_cons,List.nodup_cons] at hn;exact hn.2
   rw[Zjs hx,List.eraseIdx_cons_succ,Zip l j hj' hn' hk']
theorem Zsc {α β:Type} (k:Int) (l:List (Int×α)) (g:Int×α->Int×β) (hg:∀ p,(g p).1=p.1):(delK k l).map g=delK k (l.map g):=by
 unfold delK;rw[List.filter_map];congr 1;refine List.filter_congr fun p _=>?_
 simp[hg]
theorem Yar {k:Int} {l:List (Int×Value)} (hn:(l.map Prod.fst).Nodup) {v:Value} (hk:(k,v)∈l):delL k l=delK k l:=by
 unfold delL;cases e:Zdt k l 0 with
 | none =>
   have h1:=Zdo hn hk;unfold getL at h1;rw[e] at h1;cases h1
 | some p =>
   obtain⟨j,u⟩:=p;have h2:=Zc9 e;obtain⟨q,h3,h4⟩:=h2;have hq:j=q:=by omega
   subst hq;obtain⟨h5,h6⟩:=List.getElem?_eq_some_iff.1 h4;exact Zip l j h5 hn (by rw[h6])
theorem Zkh {α:Type} {k:Int} {l:List (Int×α)} {p:Int×α}:p∈delK k l↔p∈l/\p.1≠k:=by
 unfold delK;rw[List.mem_filter];simp
theorem Zsu {k:Int} {f:Nat} (h1:1<k):∀ (hs:List (Int×Nat)),(hs.map Prod.fst).Nodup->(k,f)∈hs->∀ i,Zcf hs i=Zcf (delK k hs) i+(if f/2=i then 1 else 0)
 | [],_,h,_=>by cases h
 | x::l,hn,hm,i=>by
   have hn':(l.map Prod.fst).Nodup:=by rw[List.map_cons,List.nodup_cons] at hn;exact hn.2
   by_cases e:x.1=k
   ·
    have hx:x=(k,f):=by
     rcases List.mem_cons.1 hm with h|h
     ·
      exact h.symm
     ·
      exact((Zf6 hn _ h) e.symm).elim
    subst hx;rw[Zjr hn];unfold Zcf
    by_cases e2:f/2=i
    ·
     rw[List.filter_cons_of_pos (by simp[h1,e2]),List.length_cons,if_pos e2]
    ·
     rw[List.filter_cons_of_neg (by simp[e2]),if_neg e2];rfl
   ·
    have hm':(k,f)∈l:=by
     rcases List.mem_cons.1 hm with h|h
     ·
      rw[<- h] at e;exact(e rfl).elim
     ·
      exact h
    have ih:=Zsu h1 l hn' hm' i;rw[Zjs e];unfold Zcf at ih ⊢
    by_cases e3:(decide (1<x.1)&&x.2/2 == i)=true
    ·
     rw[List.filter_cons_of_pos (p:=fun p:Int×Nat=>decide (1<p.1)&&p.2/2 == i) e3,List.filter_cons_of_pos (p:=fun p:Int×Nat=>decide (1<p.1)&&p.2/2 == i) e3,List.length_cons,List.length_cons];omega
    ·
     rw[List.filter_cons_of_neg (p:=fun p:Int×Nat=>decide (1<p.1)&&p.2/2 == i) e3,List.filter_cons_of_neg (p:=fun p:Int×Nat=>decide (1<p.1)&&p.2/2 == i) e3];exact ih
theorem Zpc {m:ManD} {d':Zae} {k:Int} {f:Nat} (h:Zch m) (r:Zgh m.d d' f (-1)) (hk:(k,f)∈m.hs) (h1:1<k) (h0:Zab m.d 0=none):Zch { m with d:=d',hs:=delK k m.hs }:=by
 have hne:∀ {p:Int×Nat},p∈delK k m.hs->p∈m.hs:=fun hp=>(Zkh.1 hp).1
 refine⟨?_,Zkh.2 ⟨h.zero,by dsimp only;omega⟩,Zkh.2 ⟨h.one,by dsimp only;omega⟩,fun p hp=>h.lt p (hne hp),h.next,fun p hp=>?_,?_,fun i b hb=>?_⟩
 ·
  exact h.nodup.sublist ((List.filter_sublist).map _)
 ·
  show okE (Zab d') p.2
  rw[r.nodes];exact h.ok p (hne hp)
 ·
  have h2:(delK k m.hs).length<=m.hs.length:=List.length_filter_le _ _;have h3:=h.len
  show ((delK k m.hs).length:Int)<=m.next
  omega
 ·
  have hb':Zab m.d i=some b:=by
   have:Zab d' i=some b:=hb;rw[r.nodes] at this;exact this
  have hi:i≠0:=by rintro rfl;rw[h0] at hb';cases hb'
  show Za0 d' i=(Zcf (delK k m.hs) i:Int)
  rw[r.ext i hi,h.refs i b hb',Zsu h1 m.hs h.nodup hk i];unfold toE;split<;>(simp;try omega)
section
variable {K:Law} {n:Nat} {Od:List Nat->Prop} {room:Nat} {w0 w w':World} {mb:Nat} {fs:List (Int×BF)} {nx:Int} {o o':Own} {m m':ManD} {V V':Nat->BF}
theorem Zqi {sb:Nat} (h:Zav o w sb m.d) (hlt:Zaj o w) (hk:Ztb m V) {k:Int} {f:Nat} (hf:(k,f)∈m.hs) (h1:1<k) (hn:m.next<549755813888) :
 Calls Tryz.prog 116 #[.pointer (some ⟨sb,0,none⟩),.int .i64 f] w fun x w'=>x=.returned (.int .i64 0)/\∃ d',Zav o w' sb d'/\Zaj o w'/\Zgh m.d d' f (-1)/\Chg Zar o o w w':=by
 have htop:∀ y b,Zab m.d y=some b->Za0 m.d y<1099511627776:=fun y b _=>by have:=Zz1 hk.handles y;omega
 have hok:=hk.handles.ok _ hf;obtain⟨s,h⟩:=h;have hlt':=h.edge_lt hok;rcases hok with h0|⟨b,hb⟩
 ·
  refine(Zmd h hlt hk.store.live f (by unfold eMax;omega) h0).mono ?_;rintro e w' ⟨d',h1,h2,h3,h4,h5⟩;exact⟨h1,d',⟨s,h2⟩,h3,h4,h5⟩
 ·
  have hat:=h.pool.top;have hrm:=h.pool.room;refine(Zmc h hlt hk.store.live (Zzw hk.store) f (b:=b) hb htop ?_ (fun y c hc=>?_)).mono ?_
  ·
   have h2:=hk.handles.refs (enode f) b hb;have h3:0<Zcf m.hs (f/2):=Zsv hf h1;have h4:Za0 m.d (enode f)=(Zcf m.hs (f/2):Int):=h2;omega
  ·
   have h1:=hk.store.live.cnt.le hc;have h2:=htop y c hc;omega
  ·
   rintro e w' ⟨d',h1,h2,h3,h4,h5⟩;exact⟨h1,d',⟨s,h2⟩,h3,h4,h5⟩
end
open Go.RowKit
def Zhq {α:Type} (l:List (Int×α)) (ks:List Int):List (Int×α):=ks.foldl (fun l k=>if 1<k then delK k l else l) l
theorem Zmo {α:Type} {l:List (Int×α)} {ks:List Int} {j:Nat} (hj:j<ks.length):Zhq l (ks.take (j+1))=if 1<at0 ks j then delK (at0 ks j) (Zhq l (ks.take j)) else Zhq l (ks.take j):=by
 unfold Zhq;rw[List.take_succ_eq_append_getElem hj,List.foldl_append,Zce hj];rfl
section
variable {K:Law} {n:Nat} {Od:List Nat->Prop} {room:Nat} {w0 w w':World} {mb:Nat} {fs:List (Int×BF)} {nx:Int} {o o':Own} {m m':ManD} {V V':Nat->BF}
structure Zj3 (K:Law) (n:Nat) (Od:List Nat->Prop) (room:Nat) (w0:World) (mb:Nat) (fs:List (Int×BF)) (nx:Int) (o:Own) (w:World) (m:ManD) (V:Nat->BF) (o':Own) (w':World) (m':ManD):Prop where
 sat:SatE K n Od room w0 mb fs nx w' o' m' V
 waits:m'.waits=m.waits
 calls:m'.calls=m.calls
 nodes:Zab m'.d=Zab m.d
 many:m'.d.pool.many=m.d.pool.many
 chg:Chg (fun _=>True) o o' w w'
theorem Zj3.trans {fs' fs'':List (Int×BF)} {o'':Own} {w'':World} {m'':ManD} (h:Zj3 K n Od room w0 mb fs' nx o w m V o' w' m') (h':Zj3 K n Od room w0 mb fs'' nx o' w' m' V o'' w'' m''):Zj3 K n Od room w0 mb fs'' nx o w m V o'' w'' m'' :=
 ⟨h'.sat,h'.waits.trans h.waits,h'.calls.trans h.calls,h'.nodes.trans h.nodes,h'.many.trans h.many,h.chg.trans h'.chg⟩
theorem Zx7 (hK:Zci K) (h:SatE K n Od room w0 mb fs nx w o m V) {k:Int} {f:Nat} (hf:(k,f)∈m.hs) (h1:1<k) {s:ManW} (hs:Zcd (K m.d V) o w mb m s) {w1:World} {d':Zae} (hst:Zav o w1 s.sb d') (hl1:Zaj o w1) (hr:Zgh m.d d' f (-1)) (hc1:Chg Zar o o w w1) :
 Zcd (K m.d V) o w1 mb { m with d:=d' } s/\∃ w2,(Builtin.delete_ #[126,3] 0 #[.map (some s.hb),.int .i64 k]).run Tryz.prog w1=.ok (.tuple #[]) w2/\Zj3 K n Od room w0 mb (delK k fs) nx o w m V o w2 { m with d:=d',hs:=delK k m.hs }:=by
 have hM1:=hs.setStore h.lt hst hc1;refine⟨hM1,?_⟩;obtain⟨w2,hrun,hm2,hg2⟩:=hM1.map.delete kI Tryz.underlying126 k 0;refine⟨w2,hrun,?_⟩;have he:delL k (encH m.hs)=encH (delK k m.hs):=by
  rw[Yar (Zex h.ok.handles.nodup) (v:=.int .i64 (f:Nat)) (List.mem_map.2 ⟨(k,f),hf,rfl⟩)];exact(Zsc k m.hs (fun p=>(p.1,Value.int .i64 (p.2:Nat))) (fun _=>rfl)).symm
 have hm3:Zcz w2 s.hb (Value.int .i64) (encH (delK k m.hs)):=by rw[<- he];exact hm2
 have hM2:=hM1.setMap hl1 hm3 hg2;have hl2:Zaj o w2:=hl1.mono hg2.size;have hc2:Chg (fun _=>True) o o w w2:=hc1.any.grown hg2 (fun g hg=>by cases hg;exact⟨_,hM1.ownh,trivial⟩);refine⟨⟨⟨s,hM2.mono fun op a b c r q=>hK.same _ _ _ _ _ _ _ _ hr.vars hr.level hr.nodes q⟩,hl2,⟨hr.ok h.ok.store,Zpc h.ok.handles hr hf h1 h.ok.store.dag.none0⟩,?_,?_,?_,h.next,?_,h.chg.lower (ChgX.of_chg hc2 NoB) (fun _ e=>e.elim)⟩,rfl,rfl,hr.nodes,hr.many,hc2⟩
 ·
  show d'.vars.length=n
  rw[hr.vars];exact h.vars
 ·
  show Od d'.vars
  rw[hr.vars];exact h.od
 ·
  show d'.pool.room=room
  rw[hr.room];exact h.room
 ·
  show (delK k m.hs).map (fun p=>(p.1,ef V p.2))=delK k fs
  rw[Zsc k m.hs (fun p=>(p.1,ef V p.2)) (fun _=>rfl),h.hs]
theorem Zrd (hK:Zci K) (h:SatE K n Od room w0 mb fs nx w o m V) (hn:nx<549755813888) {a:Option Addr} {c:Nat} {ks:List Int} (hks:Zax w a ks) (hno:∀ x,a=some x->o x.block=none)
 (hin:∀ j,j<ks.length->∃ F,(at0 ks j,F)∈Zhq fs (ks.take j)) :
 Calls Tryz.prog 50 #[.pointer (some ⟨mb,0,none⟩),.slice a ks.length c] w fun x w'=>x=.returned (.int .i64 0)/\∃ o' m',Zj3 K n Od room w0 mb (Zhq fs ks) nx o w m V o' w' m':=by
 have hrl:=hks.len;have HI0:Hid (∃ o' m',Zj3 K n Od room w0 mb (Zhq fs (ks.take 0)) nx o w m V o' w m'/\Zax w a ks/\(∀ x,a=some x->o' x.block=none)):=Hd ⟨o,m,⟨h,rfl,rfl,rfl,rfl,Chg.refl _ _ _⟩,hks,hno⟩;have HIN:=Hd hin;have HN:=Hd hn;have HLAW:=Hd hK;clear h hn hks hno hin hK
 go_enter Tryz.func50,Tryz.ntmps50
 go_wp2_with fail
 go_loopw [13] (fun s13 wr=>∃ j:Nat,j<=ks.length/\s13=.int .i64 j/\Hid (∃ o' m',Zj3 K n Od room w0 mb (Zhq fs (ks.take j)) nx o w m V o' wr m'/\Zax wr a ks/\(∀ x,a=some x->o' x.block=none))) (fun s13 _=>ks.length-(intOf s13).toNat)
 case atStart=>exact⟨0,Nat.zero_le _,rfl,HI0⟩
 case round =>
  obtain⟨j,hj,rfl,HH⟩:=hrel;obtain⟨oj,mj,hh,hi,hno⟩:=HH.out
  by_cases hlt:j<ks.length
  ·
   obtain⟨b,off,rfl,hcell⟩:=hi.cells j hlt;obtain⟨s,hs⟩:=hh.sat.is;obtain⟨c0,c1,c2,c3,c4,c5,f0⟩:=cells6 hs.blk;have hjz:(j:Int)<ks.length:=by omega
   obtain⟨z,hz⟩:∃ z,z=at0 ks j:=⟨_,rfl⟩;obtain⟨F,hF⟩:=HIN.out j hlt;rw[<- hz] at hF hcell;obtain⟨f,hf,hfF⟩:=hh.sat.find hF;have hl:=Zfg hs hh.sat.ok.handles.nodup hf;have HHJ:=Hd hh;have HIJ:=Hd hi;have HNO:=Hd hno;have HBL:Hid (b<wr.heap.size):=Hd (Zaa hcell);have HJL:=Hd hlt;have HZ:=Hd hz;have HS:=Hd hs;have HF:=Hd hf
   by_cases h1:z>1
   ·
    have HD:=Hd (Zqi hs.store hh.sat.lt hh.sat.ok hf h1 (by rw[hh.sat.next];exact HN.out));have H1:=Hd h1;clear hh hi hno hs HH HI0 hz hF hf hfF;go_wp2_with fail;refine HD.out.mono ?_;rintro x w1 ⟨rfl,d',hst,hl1,hr,hc1⟩;obtain⟨hM1,w2,hrun,hdh⟩:=Zx7 HLAW.out HHJ.out.sat HF.out H1.out HS.out hst hl1 hr hc1;obtain⟨e0,e1,e2,e3,e4,e5,g0⟩:=cells6 hM1.blk
    have HNX:Hid (Zj3 K n Od room w0 mb (Zhq fs (ks.take (j+1))) nx o w m V oj w2 { mj with d:=d',hs:=delK z mj.hs }/\Zax w2 (some ⟨b,off,none⟩) ks/\(∀ x,some (⟨b,off,none⟩:Addr)=some x->oj x.block=none)):=Hd ⟨by
     rw[Zmo HJL.out,<- HZ.out,if_pos H1.out];exact HHJ.out.trans hdh,HIJ.out.chg hdh.chg HNO.out,fun x hx=>hdh.chg.alien' (by cases hx;exact HBL.out) (HNO.out x hx)⟩
    clear hM1 hst hl1 hr hc1 hdh c0 c1 c2 c3 c4 c5 f0 hcell hl;go_wp2_with fail;go_roundw
    case rel=>exact⟨j+1,Nat.succ_le_of_lt HJL.out,by go_num,Hd ⟨_,_,HNX.out.1,HNX.out.2.1,HNX.out.2.2⟩⟩
    case measure =>
     have:=HJL.out;simp[intOf];omega
   ·
    have HNX:Hid (Zj3 K n Od room w0 mb (Zhq fs (ks.take (j+1))) nx o w m V oj wr mj/\Zax wr (some ⟨b,off,none⟩) ks/\(∀ x,some (⟨b,off,none⟩:Addr)=some x->oj x.block=none)):=Hd ⟨by
     rw[Zmo HJL.out,<- HZ.out,if_neg h1];exact HHJ.out,HIJ.out,HNO.out⟩
    clear hh hi hno hs HH HI0 hz hF hf hfF;go_wp2_with fail;go_roundw
    case rel=>exact⟨j+1,Nat.succ_le_of_lt HJL.out,by go_num,Hd ⟨_,_,HNX.out.1,HNX.out.2.1,HNX.out.2.2⟩⟩
    case measure =>
     have:=HJL.out;simp[intOf];omega
  ·
   obtain rfl:j=ks.length:=by omega
   have HF:Hid (∃ o' m',Zj3 K n Od room w0 mb (Zhq fs ks) nx o w m V o' wr m'):=Hd ⟨oj,mj,by rw[List.take_length] at hh;exact hh⟩;clear hh hi hno HH HI0;go_wp2_with fail;go_ret;exact⟨rfl,HF.out⟩
end
open Go.RowKit
section
variable {K:Law} {n:Nat} {Od:List Nat->Prop} {room:Nat} {w0 w w':World} {mb:Nat} {fs:List (Int×BF)} {nx:Int} {o o':Own} {m m':ManD} {V V':Nat->BF}
structure Swapped (K:Law) (n room:Nat) (w0:World) (mb:Nat) (fs:List (Int×BF)) (nx:Int) (k:Nat) (o:Own) (w:World) (m:ManD) (o':Own) (w':World) (m':ManD) (V':Nat->BF):Prop where
 sat:SatE K n (fun l=>l=(Zev m.d k).vars) room w0 mb fs nx w' o' m' V'
 waits:m'.waits=m.waits
 calls:m'.calls=m.calls
 dead:m'.d.dead=0
 chg:Chg (fun _=>True) o o' w w'
theorem Zt2 (h:SatE K n Od room w0 mb fs nx w o m V) {k:Nat} (hk1:k+1<n) (hn:nx<=549755813888) (hr:3*(fs.length*2^n)<=room) :
 Calls Tryz.prog 138 #[.pointer (some ⟨mb,0,none⟩),.int .i64 k] w fun e w'=>e=.returned (.int .i64 0)/\∃ o' m' V',Swapped K n room w0 mb fs nx k o w m o' w' m' V':=by
 refine(Zrg h hk1 hn).mono ?_;rintro e w' ⟨o',m',V',hm⟩;obtain⟨d0,cr,⟨rfl,e1,e2,hlow⟩|⟨rfl,so⟩⟩:=hm.way
 ·
  exfalso;have h1:=hm.sat.few (by rw[e1];exact cr.dead);have h2:=hm.sat.room;rw[e1] at h1 h2;omega
 ·
  refine⟨rfl,o',m',V',⟨hm.sat.withOd ?_,hm.waits,hm.calls,so.dead,hm.chg⟩⟩;rw[so.vars];unfold Zev;dsimp only;rw[cr.vars]
theorem Zld (h:SatE K n Od room w0 mb fs nx w o m V) {k l:Int} {F G:BF} (hk:(k,F)∈fs) (hl:(l,G)∈fs) :
 Calls Tryz.prog 22 #[.pointer (some ⟨mb,0,none⟩),.int .i64 k,.int .i64 l] w fun x w'=>∃ b:Bool,x=.returned (.tuple #[.bool b,.int .i64 0])/\(b=true↔F=G)/\w=w':=by
 obtain⟨f,hf,rfl⟩:=h.find hk;obtain⟨g,hg,rfl⟩:=h.find hl;refine(Zy7 h.is h.ok.handles.nodup hf hg).mono ?_;rintro x w' ⟨rfl,rfl⟩;refine⟨_,rfl,?_,rfl⟩;rw[beq_iff_eq];exact⟨fun e=>by rw[e],fun e=>h.ok.store.dag.canon (h.ok.handles.ok _ hf) (h.ok.handles.ok _ hg) e⟩
end
open Go.RowKit
theorem Zpw {α:Type} {p:Int×α}:∀ {ks:List Int} {l:List (Int×α)},p∈l->p.1∉ks->p∈Zhq l ks
 | [],l,h,_=>h
 | k::ks,l,h,hn=>by
   show p∈Zhq (if 1<k then delK k l else l) ks
   simp only[List.mem_cons,not_or] at hn;refine Zpw ?_ hn.2;split
   ·
    exact Zkh.2 ⟨h,hn.1⟩
   ·
    exact h
theorem Zx5 {α:Type} {l r:List (Int×α)} {p:Int×α} (h:((l++p::r).map Prod.fst).Nodup):delK p.1 (l++p::r)=l++r:=by
 rw[List.map_append,List.map_cons,List.nodup_append] at h;obtain⟨h1,h2,h3⟩:=h;have hl:∀ q∈l,q.1≠p.1:=fun q hq e=>h3 q.1 (List.mem_map.2 ⟨q,hq,rfl⟩) p.1 (List.mem_cons_self ..) e
 have hr:∀ q∈r,q.1≠p.1:=fun q hq e=>(List.nodup_cons.1 h2).1 (List.mem_map.2 ⟨q,hq,e⟩)
 have e1:delK p.1 (l++p::r)=delK p.1 l++delK p.1 r:=by
  unfold delK;rw[List.filter_append,List.filter_cons];simp
 rw[e1,Zk5 hl,Zk5 hr]
theorem Zo4 {α:Type}:∀ (hs l r:List (Int×α)),((l++(hs++r)).map Prod.fst).Nodup->(∀ p∈hs,1<p.1)->Zhq (l++(hs++r)) (hs.map Prod.fst)=l++r
 | [],l,r,_,_=>rfl
 | p::hs,l,r,hn,h1=>by
   show Zhq (if 1<p.1 then delK p.1 (l++(p::(hs++r))) else l++(p::(hs++r))) (hs.map Prod.fst)=_
   have hn':((l++p::(hs++r)).map Prod.fst).Nodup:=hn;rw[if_pos (h1 p (List.mem_cons_self ..)),Zx5 hn'];refine Zo4 hs l r ?_ (fun q hq=>h1 q (List.mem_cons_of_mem _ hq));have:=hn;rw[List.map_append,List.nodup_append] at this ⊢;obtain⟨q1,q2,q3⟩:=this;exact⟨q1,(List.nodup_cons.1 q2).2,fun x hx y hy=>q3 x hx y (List.mem_cons_of_mem _ hy)⟩
section
variable {K:Law} {n:Nat} {Od:List Nat->Prop} {room:Nat} {w0 w w':World} {mb:Nat} {fs:List (Int×BF)} {nx:Int} {o o':Own} {m m':ManD} {V V':Nat->BF}
theorem SatE.fst (h:SatE K n Od room w0 mb fs nx w o m V):fs.map Prod.fst=m.hs.map Prod.fst:=by rw[<- h.hs,List.map_map];rfl
theorem SatE.nodup (h:SatE K n Od room w0 mb fs nx w o m V):(fs.map Prod.fst).Nodup:=by rw[h.fst];exact h.ok.handles.nodup
theorem SatE.range (h:SatE K n Od room w0 mb fs nx w o m V):∀ p∈fs,0<=p.1/\p.1<nx:=by
 intro p hp;rw[<- h.hs] at hp;obtain⟨q,hq,rfl⟩:=List.mem_map.1 hp;rw[<- h.next];exact h.ok.handles.lt q hq
structure B2 (fs:List (Int×BF)):Prop where
 zero:(0,fun _=>false)∈fs
 one:(1,fun _=>true)∈fs
theorem B2.app {fs:List (Int×BF)} (h:B2 fs) (hs:List (Int×BF)):B2 (fs++hs):=⟨List.mem_append_left _ h.zero,List.mem_append_left _ h.one⟩
theorem SatE.gt {hs:List (Int×BF)} (h:SatE K n Od room w0 mb (fs++hs) nx w o m V) (hb:B2 fs):∀ p∈hs,1<p.1:=by
 intro p hp;have h1:=(h.range p (List.mem_append_right _ hp)).1;have h2:=h.nodup;rw[List.map_append,List.nodup_append] at h2;have h3:=fun k hk=>h2.2.2 k hk p.1 (List.mem_map.2 ⟨p,hp,rfl⟩)
 have h4:=h3 0 (List.mem_map.2 ⟨_,hb.zero,rfl⟩);have h5:=h3 1 (List.mem_map.2 ⟨_,hb.one,rfl⟩);omega
theorem Zre (hK:Zci K) {hs r:List (Int×BF)} (h:SatE K n Od room w0 mb (fs++(hs++r)) nx w o m V) (hb:B2 fs) (hn:nx<549755813888) {a:Option Addr} {c:Nat} (hks:Zax w a (hs.map Prod.fst)) (hno:∀ x,a=some x->o x.block=none) :
 Calls Tryz.prog 50 #[.pointer (some ⟨mb,0,none⟩),.slice a hs.length c] w fun x w'=>x=.returned (.int .i64 0)/\∃ o' m',Zj3 K n Od room w0 mb (fs++r) nx o w m V o' w' m':=by
 have hnd:=h.nodup;have hgt:=h.gt hb;have e:Zhq (fs++(hs++r)) (hs.map Prod.fst)=fs++r:=Zo4 hs fs r hnd (fun p hp=>hgt p (List.mem_append_left _ hp));have:=Zrd hK h hn (c:=c) hks hno fun j hj=>by
  have hj':j<hs.length:=by simpa using hj
  have e1:at0 (hs.map Prod.fst) j=hs[j].1:=by rw[Zce hj];simp
  refine⟨hs[j].2,?_⟩;rw[e1];refine Zpw (List.mem_append_right _ (List.mem_append_left _ (List.getElem_mem hj'))) ?_;rw[List.map_append,List.nodup_append,List.map_append,List.nodup_append] at hnd;have hh:=hnd.2.1.1;intro hc;obtain⟨i,hi,e2⟩:=List.getElem_of_mem hc;have hi2:i<j:=by simp at hi;omega
  rw[List.getElem_take] at e2;exact(List.pairwise_iff_getElem.1 hh) i j (by simp;omega) hj hi2 (by rw[e2];simp)
 rw[e,List.length_map] at this;exact this
theorem Zp1 {ws0:List Ev} {lim:Option Nat} {k:Nat} {F:BF} {x:Ending} (hp:Zjo K n Od room w0 mb fs nx ws0 lim k F o w x w') (hk:k<=2^n) (hr:(fs.length+1)*2^n<=room) :
 ∃ o' m' V',ChgX NoB o o' w w'/\m'.waits <:+ ws0/\x=.returned (.tuple #[.int .i64 nx,.int .i64 0])/\SatE K n Od room w0 mb (fs++[(nx,F)]) (nx+1) w' o' m' V':=by
 obtain⟨o',m',V',h1,h2,⟨h3,_,h4⟩|⟨_,_,_,m0,⟨W,oo,VV,hs⟩,h5,h6⟩⟩:=hp
 ·
  exact⟨o',m',V',h1,h2,h3,h4⟩
 ·
  exfalso;have:=hs.few h5;rw[Nat.add_mul] at hr;omega
theorem Zmz {M k:Nat} {F:BF} {x:Ending} (hp:Zjo K n Od room w0 mb fs nx [] (some M) k F o w x w') :
 ∃ o' m' V',ChgX NoB o o' w w'/\(m'.waits=[]/\m'.d.pool.many<=M+k)/\x=.returned (.tuple #[.int .i64 nx,.int .i64 0])/\SatE K n Od room w0 mb (fs++[(nx,F)]) (nx+1) w' o' m' V':=by
 obtain⟨o',m',V',h1,h2,⟨h3,h5,h4⟩|⟨_,h,_⟩⟩:=hp
 ·
  exact⟨o',m',V',h1,⟨by simpa using h2,h5 M rfl⟩,h3,h4⟩
 ·
  cases h
end
open Go.RowKit
def cntT:Nat->(Nat->Bool)->Nat
 | 0,_=>0
 | k+1,f=>cntT k f+(if f k then 1 else 0)
theorem Zfq (k:Nat) (f:Nat->Bool):cntT (k+1) f=cntT k f+(if f k then 1 else 0):=rfl
theorem Zvd (f:Nat->Bool):∀ k,cntT k f<=k
 | 0=>Nat.le_refl _
 | k+1=>by
   have:=Zvd f k;rw[Zfq];split<;>omega
def opB (op:Int) (n:Nat) (f:Nat->Bool):Bool :=
 if op=1 then true else if op=4 then decide (cntT n f=0) else if op=5 then decide (cntT n f=n) else if op=6 then decide (0<cntT n f) else if op=7 then decide (cntT n f%2=1)
 else if op=8 then (!f 0||f 1) else if op=9 then decide (cntT n f≠1) else if op=10 then iteB (f 0) (f 1) (f 2) else false
def fnT:ExT->BF
 | .nil=>fun _=>false
 | .mk op v n kid=>fun ρ=>if op=3 then ρ v.toNat else opB op n fun i=>fnT (kid i) ρ
def notF (F:BF):BF:=fun ρ => !F ρ
def Zpm (op:Int) (F G:BF):BF :=
 if op=5 then Zdu F G (fun _=>false) else if op=6 then Zdu F (fun _=>true) G else if op=8 then Zdu F G (fun _=>true) else if op=7 then Zdu F (notF G) G else Zdu F G (notF G)
def accT (op:Int) (kid:Nat->ExT):Nat->BF
 | 0=>fun _=>decide (op=5)
 | k+1=>Zpm op (accT op kid k) (fnT (kid k))
theorem Zzt (kid:Nat->ExT) (ρ:Nat->Bool):∀ k,accT 5 kid k ρ=decide (cntT k (fun i=>fnT (kid i) ρ)=k)
 | 0=>rfl
 | k+1=>by
   have h1:accT 5 kid (k+1) ρ=iteB (accT 5 kid k ρ) (fnT (kid k) ρ) false:=rfl;have h2:=Zvd (fun i=>fnT (kid i) ρ) k;rw[h1,Zzt kid ρ k,Zfq];unfold iteB;cases hf:fnT (kid k) ρ
   ·
    have:(cntT k fun i=>fnT (kid i) ρ)+0≠k+1:=by omega
    simp only[Bool.false_eq_true,if_false,decide_eq_false this];split<;>rfl
   ·
    simp
theorem Zzu (kid:Nat->ExT) (ρ:Nat->Bool):∀ k,accT 6 kid k ρ=decide (0<cntT k (fun i=>fnT (kid i) ρ))
 | 0=>rfl
 | k+1=>by
   have h1:accT 6 kid (k+1) ρ=iteB (accT 6 kid k ρ) true (fnT (kid k) ρ):=rfl;rw[h1,Zzu kid ρ k,Zfq];unfold iteB;cases hf:fnT (kid k) ρ<;>simp
theorem Zzv (kid:Nat->ExT) (ρ:Nat->Bool):∀ k,accT 7 kid k ρ=decide (cntT k (fun i=>fnT (kid i) ρ)%2=1)
 | 0=>rfl
 | k+1=>by
   have h1:accT 7 kid (k+1) ρ=iteB (accT 7 kid k ρ) (!(fnT (kid k) ρ)) (fnT (kid k) ρ):=rfl;rw[h1,Zzv kid ρ k,Zfq];unfold iteB;rcases Nat.mod_two_eq_zero_or_one (cntT k fun i=>fnT (kid i) ρ) with e|e
   ·
    cases hf:fnT (kid k) ρ<;>simp[e]<;>omega
   ·
    cases hf:fnT (kid k) ρ<;>simp[e]<;>omega
theorem Yaz {op:Int} (h:op=5\/op=6\/op=7) (v:Int) (n:Nat) (kid:Nat->ExT):fnT (.mk op v n kid)=accT op kid n:=by
 funext ρ;rcases h with rfl|rfl|rfl
 ·
  rw[Zzt];rfl
 ·
  rw[Zzu];rfl
 ·
  rw[Zzv];rfl
theorem Zr6 (f:Nat->Bool):cntT 1 f=if f 0 then 1 else 0:=by rw[Zfq];exact Nat.zero_add _
theorem Zxz (f:Nat->Bool):cntT 2 f=(if f 0 then 1 else 0)+(if f 1 then 1 else 0):=by rw[Zfq,Zr6]
theorem Ya1 (v:Int) (kid:Nat->ExT):fnT (.mk 4 v 1 kid)=notF (fnT (kid 0)):=by
 funext ρ
 show decide (cntT 1 (fun i=>fnT (kid i) ρ)=0) = !(fnT (kid 0) ρ)
 rw[Bool.eq_iff_iff,decide_eq_true_iff,Zr6];cases fnT (kid 0) ρ<;>simp
theorem Ya0 (v:Int) (kid:Nat->ExT):fnT (.mk 10 v 3 kid)=Zdu (fnT (kid 0)) (fnT (kid 1)) (fnT (kid 2)):=rfl
theorem Zyb {op:Int} (h:op=8\/op=9) (v:Int) (kid:Nat->ExT):fnT (.mk op v 2 kid)=Zpm op (fnT (kid 0)) (fnT (kid 1)):=by
 funext ρ;rcases h with rfl|rfl
 ·
  show (!fnT (kid 0) ρ||fnT (kid 1) ρ)=iteB (fnT (kid 0) ρ) (fnT (kid 1) ρ) true
  unfold iteB;cases fnT (kid 0) ρ<;>simp
 ·
  show decide (cntT 2 (fun i=>fnT (kid i) ρ)≠1)=iteB (fnT (kid 0) ρ) (fnT (kid 1) ρ) (!fnT (kid 1) ρ)
  rw[Bool.eq_iff_iff,decide_eq_true_iff,Zxz];unfold iteB;cases fnT (kid 0) ρ<;>cases fnT (kid 1) ρ<;>simp
theorem Zpb {op:Int} (h:op=1\/op=2) (v:Int) (n:Nat) (kid:Nat->ExT):fnT (.mk op v n kid)=fun _=>decide (op=1):=by
 rcases h with rfl|rfl<;>rfl
theorem Ya2 (v:Nat) (n:Nat) (kid:Nat->ExT):fnT (.mk 3 v n kid)=varF v:=by
 funext ρ;rfl
def DepF (n:Nat) (F:BF):Prop:=∀ ρ ρ':Nat->Bool,(∀ i,i<n->ρ i=ρ' i)->F ρ=F ρ'
theorem Zpx {f:Nat->List Int} {i:Nat} {x:Int}:∀ {n:Nat},i<n->x∈f i->x∈Zhr n f
 | 0,h,_=>by omega
 | k+1,h,hx=>by
   unfold Zhr;rcases Nat.lt_or_ge i k with h'|h'
   ·
    exact List.mem_append_left _ (Zpx h' hx)
   ·
    obtain rfl:i=k:=by omega
    exact List.mem_append_right _ hx
theorem Zu3 (n:Nat) (ρ:Nat->Bool):∃ i,i<2^n/\∀ v,v<n->bitB i v=ρ v:=by
 induction n with
 | zero=>exact⟨0,by simp,fun v hv=>by omega⟩
 | succ n ih =>
   obtain⟨i,hi,hb⟩:=ih;have hp:0<2^n:=Nat.pow_pos (by omega);refine⟨i+(if ρ n then 2^n else 0),by rw[Nat.pow_succ];split<;>omega,fun v hv=>?_⟩;rcases Nat.lt_or_ge v n with h|h
   ·
    rw[<- hb v h];unfold bitB;split
    ·
     obtain⟨k,rfl⟩:∃ k,n=v+(k+1):=⟨n-v-1,by omega⟩;have e1:(2:Nat)^(v+(k+1))=2^v*(2*2^k):=by rw[Nat.pow_add,Nat.pow_succ];ac_rfl
     rw[e1,Nat.add_mul_div_left _ _ (Nat.pow_pos (by omega)),Nat.add_mul_mod_self_left]
    ·
     rw[Nat.add_zero]
   ·
    obtain rfl:v=n:=by omega
    unfold bitB;cases hr:ρ v with
    | true =>
      rw[if_pos rfl,Nat.add_div_right _ hp,Nat.div_eq_of_lt hi];rfl
    | false =>
      rw[if_neg (by simp),Nat.add_zero,Nat.div_eq_of_lt hi];rfl
theorem Zxk {n:Nat} {F G:BF} (hF:DepF n F) (hG:DepF n G) (h:tabB n F=tabB n G):F=G:=by
 funext ρ;obtain⟨i,hi,hb⟩:=Zu3 n ρ;have e:∀ v,v<n->ρ v=Zbi (Zbg i n) v:=fun v hv=>by rw[Zeb,hb v hv];simp[hv]
 rw[hF ρ _ e,hG ρ _ e,<- Zdm (F:=F) hi,<- Zdm (F:=G) hi,h]
open Go.RowKit
theorem Zru {n:Nat} {f:Nat->Nat} (h1:∀ i,i<n->f i<n) (h2:∀ i j,i<n->j<n->f i=f j->i=j) {j:Nat} (hj:j<n):∃ i,i<n/\f i=j:=by
 by_cases h:∃ i,i<n/\f i=j
 ·
  exact h
 exfalso;have hno:∀ i,i<n->f i≠j:=fun i hi e=>h ⟨i,hi,e⟩
 have hnd:(j::(List.range n).map f).Nodup:=by
  refine List.nodup_cons.2 ⟨?_,?_⟩
  ·
   intro hm;obtain⟨i,hi,e⟩:=List.mem_map.1 hm;exact hno i (List.mem_range.1 hi) e
  ·
   refine List.pairwise_map.2 (List.nodup_range.imp_of_mem ?_);intro a b ha hb hab e;exact hab (h2 a b (List.mem_range.1 ha) (List.mem_range.1 hb) e)
 have:=Ziw n _ hnd (fun x hx=>by
  rcases List.mem_cons.1 hx with rfl|hx
  ·
   exact hj
  ·
   obtain⟨i,hi,rfl⟩:=List.mem_map.1 hx;exact h1 i (List.mem_range.1 hi))
 simp at this;omega
theorem Yao {zs:List Int} {v:Int} {p:Nat} (h:at0 zs p=v) (hu:∀ i,i<zs.length->at0 zs i=v->i=p):∀ k,k<=zs.length->cntP zs v k=if p<k then 1 else 0
 | 0,_=>by simp[cntP]
 | k+1,hk=>by
   have ih:=Yao h hu k (by omega)
   by_cases e:at0 zs k=v
   ·
    have:=hu k (by omega) e;subst this;rw[Zfz (by omega) e,ih];simp
   ·
    rw[Zqz (by omega) e,ih];have:p≠k:=fun e2=>e (by rw[<- e2];exact h)
    by_cases h3:p<k
    ·
     rw[if_pos h3,if_pos (by omega)]
    ·
     rw[if_neg h3,if_neg (by omega)]
theorem Zgk {zs:List Int} {v:Int} {i:Nat}:∀ {j:Nat},i<=j->j<=zs.length->cntP zs v i<=cntP zs v j
 | 0,h,_=>by
   obtain rfl:i=0:=by omega
   exact Nat.le_refl _
 | j+1,h,hj=>by
   rcases Nat.lt_or_ge i (j+1) with h'|h'
   ·
    have:=Zgk (zs:=zs) (v:=v) (show i<=j by omega) (by omega)
    by_cases e:at0 zs j=v
    ·
     rw[Zfz (by omega) e];omega
    ·
     rw[Zqz (by omega) e];omega
   ·
    obtain rfl:i=j+1:=by omega
    exact Nat.le_refl _
structure Yaf (zs:List Int) (n:Nat):Prop where
 len:zs.length=n
 lt:∀ i,i<n->∃ v:Nat,v<n/\at0 zs i=(v:Nat)
 inj:∀ i j,i<n->j<n->at0 zs i=at0 zs j->i=j
theorem Zyz {zs:List Int} {n:Nat} (h:Zgy zs n=true):Yaf zs n:=by
 unfold Zgy at h;rw[decide_eq_true_eq] at h;obtain⟨h1,h2⟩:=h;have h1':zs.length=n:=by omega
 subst h1';have hp:∀ v:Nat,v<zs.length->∃ p,p<zs.length/\at0 zs p=(v:Nat):=by
  intro v hv;have e:=h2 v hv;unfold cntP at e;rw[List.take_length] at e;have hm:0<(zs.filter (fun z=>decide (z=(v:Int)))).length:=by omega
  obtain⟨z,hz⟩:=List.length_pos_iff_exists_mem.1 hm;obtain⟨q1,q2⟩:=List.mem_filter.1 hz;obtain⟨i,hi,e2⟩:=List.getElem_of_mem q1;refine⟨i,hi,?_⟩;rw[Zce hi,e2];simpa using q2
 have hsur:∀ i,i<zs.length->∃ v,v<zs.length/\at0 zs i=(v:Nat):=by
  have hc:∃ f:Nat->Nat,∀ v,v<zs.length->f v<zs.length/\at0 zs (f v)=(v:Nat):=by
   refine⟨fun v=>if hv:v<zs.length then Classical.choose (hp v hv) else 0,fun v hv=>?_⟩;dsimp only;rw[dif_pos hv];exact Classical.choose_spec (hp v hv)
  obtain⟨f,hf⟩:=hc;intro i hi
  obtain⟨v,hv,e⟩:=Zru (n:=zs.length) (f:=f) (fun v hv=>(hf v hv).1) (fun a b ha hb e=>by
   have e1:=(hf a ha).2;have e2:=(hf b hb).2;rw[e,e2] at e1;omega) hi
  exact⟨v,hv,by rw[<- e];exact(hf v hv).2⟩
 refine⟨rfl,hsur,fun i j hi hj e=>?_⟩;obtain⟨v,hv,ei⟩:=hsur i hi;have ec:=h2 v hv;have ej:at0 zs j=(v:Nat):=by rw[<- e];exact ei
 rcases Nat.lt_trichotomy i j with hlt|rfl|hlt
 ·
  have a1:=Zfz hi ei;have a2:=Zfz hj ej;have a3:=Zgk (zs:=zs) (v:=(v:Nat)) (show i+1<=j by omega) (by omega);have a4:=Zgk (zs:=zs) (v:=(v:Nat)) (show j+1<=zs.length by omega) (Nat.le_refl _);omega
 ·
  rfl
 ·
  have a1:=Zfz hi ei;have a2:=Zfz hj ej;have a3:=Zgk (zs:=zs) (v:=(v:Nat)) (show j+1<=i by omega) (by omega);have a4:=Zgk (zs:=zs) (v:=(v:Nat)) (show i+1<=zs.length by omega) (Nat.le_refl _);omega
theorem Yal {l:List Nat} {i:Nat} (hi:i<l.length):at0 (l.map Int.ofNat) i=(l.getD i 0:Nat):=by
 rw[Zce (by simpa using hi)];simp[List.getD,hi]
theorem Zam.mem {d:Zae} {V:Nat->BF} (h:Zam d V) {v:Nat} (hv:v<d.vars.length):∃ i,i<d.vars.length/\d.vars.getD i 0=v:=⟨levN d v,h.dag.lt v hv,h.inv v hv⟩
theorem Zam.inj {d:Zae} {V:Nat->BF} (h:Zam d V) {i j:Nat} (hi:i<d.vars.length) (hj:j<d.vars.length) (e:d.vars.getD i 0=d.vars.getD j 0):i=j:=by
 have a:=(h.vlt i hi).2;have b:=(h.vlt j hj).2;rw[e,b] at a;exact a.symm
def exL (l:List Nat) (k:Nat):List Nat:=(l.set k (l.getD (k+1) 0)).set (k+1) (l.getD k 0)
theorem Zya {l:List Nat} {k:Nat} (h:k+1<l.length):(exL l k).getD k 0=l.getD (k+1) 0:=by
 unfold exL;simp[List.getD,List.getElem?_set,h,show k<l.length by omega]
theorem Yb4 {l:List Nat} {k i:Nat} (h1:i≠k) (h2:i≠k+1):(exL l k).getD i 0=l.getD i 0:=by
 unfold exL;simp only[List.getD,List.getElem?_set];rw[if_neg (fun e=>h2 e.symm),if_neg (fun e=>h1 e.symm)]
theorem Zxi (d:Zae) (k:Nat):(Zev d k).vars=exL d.vars k:=rfl
open Go.RowKit
structure LawT (K:Law) (n:Nat) (Od:List Nat->Prop) (room:Nat) (w0:World) (mb:Nat) (fs:List (Int×BF)) (nx:Int) (Wt:List Ev->Int->Prop) (hl hx:List (Int×BF)) (W:World) (o:Own) (m:ManD) (V:Nat->BF) (vl vx:Value):Prop where
 sat:SatE K n Od room w0 mb fs nx W o m V
 b2:B2 fs
 st:Wt m.waits m.calls
 l:LawL W o w0.heap.size vl (hl.map Prod.fst)
 x:LawX W o w0.heap.size vx (hx.map fun p=>tabB n p.2)
section
variable {K:Law} {n:Nat} {Od:List Nat->Prop} {room:Nat} {w0:World} {mb:Nat} {fs:List (Int×BF)} {nx:Int} {Wt:List Ev->Int->Prop} {hl hx hs:List (Int×BF)} {W W' w:World} {o o':Own} {m m':ManD} {V V':Nat->BF} {vl vx v' v:Value} {p:Int×BF}
theorem LawT.below (h:LawT K n Od room w0 mb fs nx Wt hl hx W o m V vl vx) (hb:Below W.heap.size W W'):LawT K n Od room w0 mb fs nx Wt hl hx W' o m V vl vx :=
 ⟨h.sat.below hb,h.b2,h.st,h.l.chg (Zb3 hb o),h.x.chg (Zb3 hb o)⟩
theorem LawT.below0 (h:LawT K n Od room w0 mb fs nx Wt hl hx W o m V vl vx):Below w0.heap.size w0 W:=h.sat.chg.below0
theorem LawT.go {Od':List Nat->Prop} {fs':List (Int×BF)} {nx':Int} {Wt':List Ev->Int->Prop} (h:LawT K n Od room w0 mb fs nx Wt hl hx W o m V vl vx) (hs:SatE K n Od' room w0 mb fs' nx' W' o' m' V') (hb:B2 fs') (ht:Wt' m'.waits m'.calls) (hc:ChgX NoB o o' W W') :
 LawT K n Od' room w0 mb fs' nx' Wt' hl hx W' o' m' V' vl vx:=⟨hs,hb,ht,h.l.chg hc,h.x.chg hc⟩
theorem LawT.withOd {Od':List Nat->Prop} (h:LawT K n Od room w0 mb fs nx Wt hl hx W o m V vl vx) (hO:Od' m.d.vars):LawT K n Od' room w0 mb fs nx Wt hl hx W o m V vl vx:=⟨h.sat.withOd hO,h.b2,h.st,h.l,h.x⟩
theorem LawT.withSt {Wt':List Ev->Int->Prop} (h:LawT K n Od room w0 mb fs nx Wt hl hx W o m V vl vx) (hO:Wt' m.waits m.calls):LawT K n Od room w0 mb fs nx Wt' hl hx W o m V vl vx:=⟨h.sat,h.b2,hO,h.l,h.x⟩
theorem LawT.appL (h:LawT K n Od room w0 mb fs nx Wt hl hx W o m V vl vx) (hown:OwnC 3 W' w0.heap.size v' (Zbe (hl.map Prod.fst)++[.int .i64 p.1])) (e1:W'.os=W.os) (e2:W'.tape=W.tape) (e3:W'.output=W.output) (e4:W.heap.size<=W'.heap.size) (hk:Zd8 vl v' W W') :
 LawT K n Od room w0 mb fs nx Wt (hl++[p]) hx W' o m V v' vx:=by
 have hw:=Zs8 e1 e2 e3 e4 hk;refine⟨h.sat.other hw (fun k _ hk=>⟨(h.l.own.lt k hk).1,h.l.no k hk⟩),h.b2,h.st,?_,h.x.typ hw (by decide) (by decide) h.l.own.typed⟩;rw[List.map_append];exact h.l.app h.sat.lt hown hk
theorem LawT.appX {bs:List Bool} (h:LawT K n Od room w0 mb fs nx Wt hl hx W o m V vl vx) (hb:LawB W o w0.heap.size v bs) (hbs:bs=tabB n p.2) {rs:List Value} (hrs:rs.length=hx.length) (hrow:OwnC 34 W w0.heap.size vx rs) (hall:∀ i v,rs[i]?=some v->LawB W o w0.heap.size v ((hx.map fun p=>tabB n p.2).getD i []))
 (hown:OwnC 34 W' w0.heap.size v' (rs++[v])) (e1:W'.os=W.os) (e2:W'.tape=W.tape) (e3:W'.output=W.output) (e4:W.heap.size<=W'.heap.size) (hk:Zd8 vx v' W W'):LawT K n Od room w0 mb fs nx Wt hl (hx++[p]) W' o m V vl v':=by
 have hw:=Zs8 e1 e2 e3 e4 hk;refine⟨h.sat.other hw (fun k _ hk=>⟨(hrow.lt k hk).1,h.x.no k hk⟩),h.b2,h.st,h.l.typ hw (by decide) hrow.typed,?_⟩;rw[List.map_append];have:=h.x.app h.sat.lt (by simp[hrs]) hall hw hrow.typed hb hown hk;rw[hbs] at this;exact this
theorem LawT.row (h:LawT K n Od room w0 mb fs nx Wt hs hs W o m V vl vx) (hsub:∀ p∈hs,p∈fs) (hsm:hs.length<=1000) :
 LawR (fun g=>w0.heap.size<=g/\g<W.heap.size/\o g=none/\∃ cur,W.heap[g]?=some (.cells cur 4 (0,0))) n fs W vl vx hs:=Yba h.l h.x hsub hsm
structure LawF (W:World) (o:Own) (v:Value) (bs:List Bool):Prop where
 is:Zbt W v bs
 no:∀ k,v.ownBlock=some k->k<W.heap.size/\o k=none/\∃ cur,W.heap[k]?=some (.cells cur 4 (0,0))
theorem LawF.chg {bs:List Bool} (h:LawF W o v bs) (hc:ChgX NoB o o' W W'):LawF W' o' v bs :=
 ⟨h.is.same fun k hk=>hc.block k (h.no k hk).1 (h.no k hk).2.1 (fun e=>e),fun k hk=>by
  obtain⟨h1,h2,cur,h3⟩:=h.no k hk;exact⟨Nat.lt_of_lt_of_le h1 hc.size,hc.none' h1 h2,cur,(hc.block k h1 h2 (fun e=>e)).trans h3⟩⟩
theorem LawF.tab {F:BF} (h:LawF W o v (tabB n F)):∃ a c,v=.slice a (2^n) c/\Zbs W a (tabB n F):=by
 obtain⟨a,c,e,h1,_⟩:=h.is;rw[Za4] at e;exact⟨a,c,e,h1⟩
end
open Go.RowKit
theorem Zec (W:World) (zs:List Int) (hl:zs.length<=1000000):Zax (W.alloc (.cells (Zbe zs).toArray 3)) (some ⟨W.heap.size,0,none⟩) zs :=
 ⟨by omega,fun k hk=>⟨W.heap.size,0,rfl,by
  rw[Nat.zero_add,cell_of_row _ _ k _ _ _ (heap_alloc_new _ _)];simp[Zbe,Zce hk,hk]⟩⟩
section
variable {K:Law} {n:Nat} {Od:List Nat->Prop} {room:Nat} {w0 w w':World} {mb:Nat} {fs:List (Int×BF)} {nx:Int} {o o':Own} {m m':ManD} {V V':Nat->BF}
def Goes (K:Law) (n:Nat) (Od:List Nat->Prop) (room:Nat) (w0:World) (mb:Nat) (fs:List (Int×BF)) (nx:Int) (Wt:List Ev->Int->Nat->Prop) (o:Own) (w w':World):Prop :=
 ∃ o' m' V',ChgX NoB o o' w w'/\Wt m'.waits m'.calls m'.d.pool.many/\SatE K n Od room w0 mb fs nx w' o' m' V'
def NoW (M:Nat) (ws:List Ev) (_:Int) (k:Nat):Prop:=ws=[]/\k<=M
abbrev W2 (Wt:List Ev->Int->Prop):List Ev->Int->Nat->Prop:=fun ws c _=>Wt ws c
theorem Goes.more {M M':Nat} (h:Goes K n Od room w0 mb fs nx (NoW M) o w w') (hm:M<=M'):Goes K n Od room w0 mb fs nx (NoW M') o w w':=by
 obtain⟨o',m',V',h1,h2,h3⟩:=h;exact⟨o',m',V',h1,⟨h2.1,Nat.le_trans h2.2 hm⟩,h3⟩
theorem Goes.below {Wt:List Ev->Int->Nat->Prop} {w'':World} (h:Goes K n Od room w0 mb fs nx Wt o w w') (hb:Below w'.heap.size w' w''):Goes K n Od room w0 mb fs nx Wt o w w'':=by
 obtain⟨o',m',V',h1,h2,h3⟩:=h;exact⟨o',m',V',h1.trans (Zb3 hb o') (fun _ _ e=>e),h2,h3.below hb⟩
theorem Zv3 (hK:Zci K) {M:Nat} (h:Goes K n Od room w0 mb fs nx (NoW M) o w w') (hn:nx<549755813888) (hr:M+(2^n-1)<=room) {kf kg kh:Int} {F G H:BF} (hf:(kf,F)∈fs) (hg:(kg,G)∈fs) (hh:(kh,H)∈fs) :
 Calls Tryz.prog 21 #[.pointer (some ⟨mb,0,none⟩),.int .i64 kf,.int .i64 kg,.int .i64 kh] w' fun x w''=>x=.returned (.tuple #[.int .i64 nx,.int .i64 0])/\Goes K n Od room w0 mb (fs++[(nx,Zdu F G H)]) (nx+1) (NoW (M+(2^n-1))) o w w'':=by
 obtain⟨o',m',V',h1,h2,h3⟩:=h;refine(Zmt hK h3 [] (by rw[h2.1];exact List.suffix_refl _) (some M) (fun _ e=>by cases e;exact⟨rfl,hr⟩) (fun _ e=>by cases e;exact h2.2) (by simp) (by omega) hf hg hh).mono ?_;rintro x w'' hp;obtain⟨o2,m2,V2,q1,q2,q3,q4⟩:=Zmz hp;exact⟨q3,o2,m2,V2,h1.trans q1 (fun _ _ e=>e),q2,q4⟩
theorem Ycl (hK:Zci K) {M:Nat} (h:Goes K n Od room w0 mb fs nx (NoW M) o w w') (hn:nx<549755813888) (hr:M+1<=room) {v:Nat} (hv:v<n) :
 Calls Tryz.prog 20 #[.pointer (some ⟨mb,0,none⟩),.int .i64 v] w' fun x w''=>x=.returned (.tuple #[.int .i64 nx,.int .i64 0])/\Goes K n Od room w0 mb (fs++[(nx,varF v)]) (nx+1) (NoW (M+1)) o w w'':=by
 obtain⟨o',m',V',h1,h2,h3⟩:=h;refine(Zmu hK h3 [] (by rw[h2.1];exact List.suffix_refl _) (some M) (fun _ e=>by cases e;exact⟨rfl,hr⟩) (fun _ e=>by cases e;exact h2.2) (by simp) (by omega) v hv).mono ?_;rintro x w'' hp;obtain⟨o2,m2,V2,q1,q2,q3,q4⟩:=Zmz hp;exact⟨q3,o2,m2,V2,h1.trans q1 (fun _ _ e=>e),q2,q4⟩
theorem Zz4 (hK:Zci K) {Wt:List Ev->Int->Nat->Prop} (h:Goes K n Od room w0 mb fs nx Wt o w w') (hn:nx<549755813888) {k:Int} {F:BF} (hf:(k,F)∈fs) :
 Calls Tryz.prog 142 #[.pointer (some ⟨mb,0,none⟩),.int .i64 k] w' fun x w''=>x=.returned (.tuple #[.int .i64 nx,.int .i64 0])/\Goes K n Od room w0 mb (fs++[(nx,notF F)]) (nx+1) Wt o w w'':=by
 obtain⟨o',m',V',h1,h2,h3⟩:=h;refine(Zt0 hK h3 hn hf).mono ?_;rintro x w'' ⟨rfl,o2,m2,q⟩;exact⟨rfl,o2,m2,V',h1.trans (ChgX.of_chg q.chg NoB) (fun _ _ e=>e),by rw[q.waits,q.calls,q.many];exact h2,q.sat⟩
theorem Znh (hK:Zci K) {Wt:List Ev->Int->Nat->Prop} (h:Goes K n Od room w0 mb fs nx Wt o w w') (hn:nx<549755813888) {k:Int} {F:BF} (hf:(k,F)∈fs) :
 Calls Tryz.prog 139 #[.pointer (some ⟨mb,0,none⟩),.int .i64 k] w' fun x w''=>x=.returned (.tuple #[.int .i64 nx,.int .i64 0])/\Goes K n Od room w0 mb (fs++[(nx,F)]) (nx+1) Wt o w w'':=by
 obtain⟨o',m',V',h1,h2,h3⟩:=h;refine(Zrc hK h3 hn hf).mono ?_;rintro x w'' ⟨rfl,o2,m2,q⟩;exact⟨rfl,o2,m2,V',h1.trans (ChgX.of_chg q.chg NoB) (fun _ _ e=>e),by rw[q.waits,q.calls,q.many];exact h2,q.sat⟩
theorem Znj (hK:Zci K) {Wt:List Ev->Int->Nat->Prop} {hs r:List (Int×BF)} (h:Goes K n Od room w0 mb (fs++(hs++r)) nx Wt o w w') (hb:B2 fs) (hn:nx<549755813888) (hl:hs.length<=1000) {T:World} (hT:T=w'.alloc (.cells (Zbe (hs.map Prod.fst)).toArray 3)) :
 Calls Tryz.prog 50 #[.pointer (some ⟨mb,0,none⟩),.slice (some ⟨w'.heap.size,0,none⟩) hs.length hs.length] T fun x w''=>x=.returned (.int .i64 0)/\Goes K n Od room w0 mb (fs++r) nx Wt o w w'':=by
 obtain⟨o',m',V',h1,h2,h3⟩:=h;subst hT;have hbn:=Zad w' (.cells (Zbe (hs.map Prod.fst)).toArray 3);refine(Zre hK (h3.below hbn) hb hn (Zec w' (hs.map Prod.fst) (by simp;omega)) (fun x hx=>by cases hx;exact h3.lt.none (Nat.le_refl _))).mono ?_;rintro x w'' ⟨rfl,o2,m2,q⟩;exact⟨rfl,o2,m2,V',(h1.trans (Zb3 hbn o') (fun _ _ e=>e)).trans (ChgX.of_chg q.chg NoB) (fun _ _ e=>e),by rw[q.waits,q.calls,q.many];exact h2,q.sat⟩
theorem Zsh (hK:Zci K) {a b:Int} {F G:BF} {M:Nat} (h:Goes K n Od room w0 mb (fs++[(a,F),(b,G)]) nx (NoW M) o w w') (hb:B2 fs) (hn:nx+2<549755813888) (hr:M+(2^n-1)<=room) {op:Int} (h5:5<=op) (h9:op<=9) :
 Calls Tryz.prog 141 #[.pointer (some ⟨mb,0,none⟩),.int .i64 op,.int .i64 a,.int .i64 b] w' fun x w''=>∃ k:Int,x=.returned (.tuple #[.int .i64 k,.bool true])/\k<=nx+1/\Goes K n Od room w0 mb (fs++[(k,Zpm op F G)]) (k+1) (NoW (M+(2^n-1))) o w w'':=by
 obtain⟨M',hM'⟩:∃ M',M'=M+(2^n-1):=⟨_,rfl⟩;have HITE:Hid (∀ c d e A B C,(c,A)∈fs++[(a,F),(b,G)]->(d,B)∈fs++[(a,F),(b,G)]->(e,C)∈fs++[(a,F),(b,G)]->Calls Tryz.prog 21 #[.pointer (some ⟨mb,0,none⟩),.int .i64 c,.int .i64 d,.int .i64 e] w' fun x w''=>x=.returned (.tuple #[.int .i64 nx,.int .i64 0])/\Goes K n Od room w0 mb (fs++[(a,F),(b,G)]++[(nx,Zdu A B C)]) (nx+1) (NoW (M+(2^n-1))) o w w'') :=
  Hd fun c d e A B C h1 h2 h3=>Zv3 hK h (by omega) hr h1 h2 h3
 have HNOT:=Hd (Zz4 hK h (by omega) (k:=b) (F:=G) (by simp))
 have HITE2:Hid (∀ W,Goes K n Od room w0 mb (fs++[(a,F),(b,G)]++[(nx,notF G)]) (nx+1) (NoW M) o w W->∀ c d e A B C,(c,A)∈fs++[(a,F),(b,G)]++[(nx,notF G)]->(d,B)∈fs++[(a,F),(b,G)]++[(nx,notF G)]->(e,C)∈fs++[(a,F),(b,G)]++[(nx,notF G)] ->
  Calls Tryz.prog 21 #[.pointer (some ⟨mb,0,none⟩),.int .i64 c,.int .i64 d,.int .i64 e] W fun x w''=>x=.returned (.tuple #[.int .i64 (nx+1),.int .i64 0])/\Goes K n Od room w0 mb (fs++[(a,F),(b,G)]++[(nx,notF G)]++[(nx+1,Zdu A B C)]) (nx+1+1) (NoW (M+(2^n-1))) o w w'') :=
  Hd fun W hW c d e A B C h1 h2 h3=>Zv3 hK hW (by omega) hr h1 h2 h3
 have HDN:Hid (∀ W H T,Goes K n Od room w0 mb (fs++[(a,F),(b,G)]++[(nx,notF G)]++[(nx+1,H)]) (nx+1+1) (NoW M') o w W->T=W.alloc (.cells #[.int .i64 nx] 3)->Calls Tryz.prog 50 #[.pointer (some ⟨mb,0,none⟩),.slice (some ⟨W.heap.size,0,none⟩) 1 1] T fun x w''=>x=.returned (.int .i64 0)/\Goes K n Od room w0 mb (fs++[(a,F),(b,G)]++[(nx+1,H)]) (nx+1+1) (NoW M') o w w'') :=
  Hd fun W H T hW hT=>Znj hK (hs:=[(nx,notF G)]) (r:=[(nx+1,H)]) (by rw[List.append_assoc] at hW;exact hW) (hb.app _) (by omega) (by simp) hT
 have HDAB:Hid (∀ W k H T,k+1<549755813888->Goes K n Od room w0 mb (fs++[(a,F),(b,G)]++[(k,H)]) (k+1) (NoW M') o w W->T=W.alloc (.cells #[.int .i64 a,.int .i64 b] 3)->Calls Tryz.prog 50 #[.pointer (some ⟨mb,0,none⟩),.slice (some ⟨W.heap.size,0,none⟩) 2 2] T fun x w''=>x=.returned (.int .i64 0)/\Goes K n Od room w0 mb (fs++[(k,H)]) (k+1) (NoW M') o w w'') :=
  Hd fun W k H T hk hW hT=>Znj hK (hs:=[(a,F),(b,G)]) (r:=[(k,H)]) (by rw[List.append_assoc] at hW;exact hW) hb (by omega) (by simp) hT
 have m0:(0,fun _=>false)∈fs++[(a,F),(b,G)]:=List.mem_append_left _ hb.zero;have m1:(1,fun _=>true)∈fs++[(a,F),(b,G)]:=List.mem_append_left _ hb.one;have ma:(a,F)∈fs++[(a,F),(b,G)]:=by simp
 have mb':(b,G)∈fs++[(a,F),(b,G)]:=by simp
 have pa:(a,F)∈fs++[(a,F),(b,G)]++[(nx,notF G)]:=by simp
 have pb:(b,G)∈fs++[(a,F),(b,G)]++[(nx,notF G)]:=by simp
 have pn:(nx,notF G)∈fs++[(a,F),(b,G)]++[(nx,notF G)]:=by simp
 rw[<- hM'] at HITE HITE2 ⊢;clear h hb hr hK hM';rcases(show op=5\/op=6\/op=7\/op=8\/op=9 by omega) with rfl|rfl|rfl|rfl|rfl
 ·
  have HI:=Hd (HITE.out a b 0 _ _ _ ma mb' m0);clear HITE HITE2 HNOT HDN
  go_enter Tryz.func141,Tryz.ntmps141
  go_wp2_with fail;refine HI.out.mono ?_;rintro x w1 ⟨rfl,g1⟩;have HD:=Hd (HDAB.out w1 nx _ _ (by omega) g1 rfl);clear g1 HI;go_wp2_with fail;refine HD.out.mono ?_;rintro x w2 ⟨rfl,g2⟩;have HG:=Hd g2;clear g2 HD;go_wp2_with fail
  go_ret2
  exact⟨nx,rfl,by omega,HG.out⟩
 ·
  have HI:=Hd (HITE.out a 1 b _ _ _ ma m1 mb');clear HITE HITE2 HNOT HDN
  go_enter Tryz.func141,Tryz.ntmps141
  go_wp2_with fail;refine HI.out.mono ?_;rintro x w1 ⟨rfl,g1⟩;have HD:=Hd (HDAB.out w1 nx _ _ (by omega) g1 rfl);clear g1 HI;go_wp2_with fail;refine HD.out.mono ?_;rintro x w2 ⟨rfl,g2⟩;have HG:=Hd g2;clear g2 HD;go_wp2_with fail
  go_ret2
  exact⟨nx,rfl,by omega,HG.out⟩
 ·
  clear HITE
  go_enter Tryz.func141,Tryz.ntmps141
  go_wp2_with fail;refine HNOT.out.mono ?_;rintro x w1 ⟨rfl,g1⟩;have HI:=Hd (HITE2.out w1 g1 a nx b _ _ _ pa pn pb);clear g1 HNOT HITE2;go_wp2_with fail;refine HI.out.mono ?_;rintro x w2 ⟨rfl,g2⟩;have HD1:=Hd (HDN.out w2 _ _ g2 rfl);clear g2 HI HDN;go_wp2_with fail;refine HD1.out.mono ?_;rintro x w3 ⟨rfl,g3⟩;have HD:=Hd (HDAB.out w3 (nx+1) _ _ (by omega) g3 rfl);clear g3 HD1;go_wp2_with fail;refine HD.out.mono ?_;rintro x w4 ⟨rfl,g4⟩;have HG:=Hd g4;clear g4 HD;go_wp2_with fail
  go_ret2
  exact⟨nx+1,rfl,by omega,HG.out⟩
 ·
  have HI:=Hd (HITE.out a b 1 _ _ _ ma mb' m1);clear HITE HITE2 HNOT HDN
  go_enter Tryz.func141,Tryz.ntmps141
  go_wp2_with fail;refine HI.out.mono ?_;rintro x w1 ⟨rfl,g1⟩;have HD:=Hd (HDAB.out w1 nx _ _ (by omega) g1 rfl);clear g1 HI;go_wp2_with fail;refine HD.out.mono ?_;rintro x w2 ⟨rfl,g2⟩;have HG:=Hd g2;clear g2 HD;go_wp2_with fail
  go_ret2
  exact⟨nx,rfl,by omega,HG.out⟩
 ·
  clear HITE
  go_enter Tryz.func141,Tryz.ntmps141
  go_wp2_with fail;refine HNOT.out.mono ?_;rintro x w1 ⟨rfl,g1⟩;have HI:=Hd (HITE2.out w1 g1 a b nx _ _ _ pa pb pn);clear g1 HNOT HITE2;go_wp2_with fail;refine HI.out.mono ?_;rintro x w2 ⟨rfl,g2⟩;have HD1:=Hd (HDN.out w2 _ _ g2 rfl);clear g2 HI HDN;go_wp2_with fail;refine HD1.out.mono ?_;rintro x w3 ⟨rfl,g3⟩;have HD:=Hd (HDAB.out w3 (nx+1) _ _ (by omega) g3 rfl);clear g3 HD1;go_wp2_with fail;refine HD.out.mono ?_;rintro x w4 ⟨rfl,g4⟩;have HG:=Hd g4;clear g4 HD;go_wp2_with fail
  go_ret2
  exact⟨nx+1,rfl,by omega,HG.out⟩
end
open Go.RowKit
section
variable {K:Law} {n:Nat} {room:Nat} {w0:World} {mb:Nat} {fs hs:List (Int×BF)} {nx:Int} {W w w':World} {o o':Own} {m m':ManD} {V V':Nat->BF} {vl vx:Value} {ws0:List Ev}
theorem Zlx {n:Nat} (h:n<=16):2^n<=1000000:=Nat.le_trans (Nat.pow_le_pow_right (by omega) h) (by decide)
abbrev SufW (ws0:List Ev):List Ev->Int->Prop:=fun ws _=>ws <:+ ws0
theorem Yb9 (hK:Zci K) (h:SatE K n (fun _=>True) room w0 mb fs nx w o m V) (hw:m.waits <:+ ws0) (hn:nx<=549755813888) (hr:(fs.length+1)*2^n<=room) {kf kg kh:Int} {F G H:BF} (hf:(kf,F)∈fs) (hg:(kg,G)∈fs) (hh:(kh,H)∈fs) :
 Calls Tryz.prog 21 #[.pointer (some ⟨mb,0,none⟩),.int .i64 kf,.int .i64 kg,.int .i64 kh] w fun x w''=>x=.returned (.tuple #[.int .i64 nx,.int .i64 0])/\Goes K n (fun _=>True) room w0 mb (fs++[(nx,Zdu F G H)]) (nx+1) (W2 (SufW ws0)) o w w'':=by
 refine(Zmt hK h ws0 hw none (fun _ e=>by cases e) (fun _ e=>by cases e) (fun ev _=>Zhf hn ev) (by omega) hf hg hh).mono ?_;rintro x w'' hp;obtain⟨o2,m2,V2,q1,q2,q3,q4⟩:=Zp1 hp (Nat.sub_le _ _) hr;exact⟨q3,o2,m2,V2,q1,q2,q4⟩
end
open Go.RowKit
theorem Zn2 (bx bz:List Bool) (hlen:bz.length=bx.length) (ax az:Option Addr) (cx cz:Nat) (w:World) (h1:Zbs w ax bx) (h2:Zbs w az bz) :
 Calls Tryz.prog 102 #[.slice ax bx.length cx,.slice az bx.length cz] w fun x w'=>x=.returned (.bool (decide (bx=bz)))/\Below w.heap.size w w':=by
 have H1:=Hd h1;have H2:=Hd h2;have hl:=h1.len;have HLN:=Hd hlen;obtain⟨L,hL⟩:∃ L,L=bx.length:=⟨_,rfl⟩;have HL:=Hd hL;rw[<- hL] at hl ⊢;clear h1 h2 hL hlen
 go_enter Tryz.func102,Tryz.ntmps102
 go_wp2_with fail
 go_loopw [4,5] (fun s4 s5 wr=>∃ j:Nat,j<=L/\s5=.int .i64 j/\Hid (Below w.heap.size w wr)/\Hid (∀ q,q<j->bx.getD q false=bz.getD q false)) (fun _ s5 _=>L-(intOf s5).toNat)
 case atStart=>exact⟨0,Nat.zero_le _,rfl,Hd (Below.refl _ _),Hd fun q hq=>by omega⟩
 case round =>
  obtain⟨j,hj,rfl,HB,HQ⟩:=hrel
  by_cases hlt:j<L
  ·
   obtain⟨b1,of1,rfl,c1⟩:=(H1.out.below HB.out).cells j (by rw[<- HL.out];exact hlt);obtain⟨b2,of2,rfl,c2⟩:=(H2.out.below HB.out).cells j (by rw[HLN.out,<- HL.out];exact hlt);have HBN:=Hd (HB.out.trans ((Zag wr 1).mono HB.out.size));have hjz:(j:Int)<(L:Int):=by omega
   obtain⟨y1,hy1⟩:∃ y,y=bx.getD j false:=⟨_,rfl⟩;obtain⟨y2,hy2⟩:∃ y,y=bz.getD j false:=⟨_,rfl⟩;rw[<- hy1] at c1;rw[<- hy2] at c2;have HQ2:Hid (y1=y2->∀ q,q<j+1->bx.getD q false=bz.getD q false):=Hd fun e q hq=>by
    rcases Nat.lt_or_ge q j with h|h
    ·
     exact HQ.out q h
    ·
     obtain rfl:q=j:=by omega
     rw[<- hy1,<- hy2,e]
   have HNE:Hid (y1≠y2->bx≠bz):=Hd fun hne e=>hne (by rw[hy1,hy2,e])
   clear hy1 hy2;go_upto_region 6 with fail;refine Zap (fun W:World=>W.cell? ⟨b1,of1+j,none⟩=some (.bool y1)/\W.cell? ⟨b2,of2+j,none⟩=some (.bool y2)) false 9
    [(0,false),(1,false),(2,false),(3,false),(4,false),(5,false),(6,false),(7,false),(8,false)] (by kernel_rfl) (by kernel_rfl) ⟨c1,c2⟩ ?_
   simp only[planned,Zdi]
   iterate 9
    refine Zaq rfl ?_;apply Exists.intro;refine⟨fun w' hw=>?_,?_⟩
    ·
     obtain⟨h1,h2⟩:=hw;go_simp;rfl
    simp only[Zaf]
   refine Ze3 ?_;clear c1 c2;cases y1<;>cases y2
   ·
    have HQ3:=Hd (HQ2.out rfl);go_wp2_with fail;go_roundw
    case rel=>exact⟨j+1,by omega,by go_num,HBN,HQ3⟩
    case measure=>simp[intOf];omega
   ·
    have HF:Hid (Ending.returned (.bool false)=.returned (.bool (decide (bx=bz)))):=Hd (by rw[decide_eq_false (HNE.out (by simp))]);go_wp2_with fail;go_ret;exact⟨HF.out,HBN.out⟩
   ·
    have HF:Hid (Ending.returned (.bool false)=.returned (.bool (decide (bx=bz)))):=Hd (by rw[decide_eq_false (HNE.out (by simp))]);go_wp2_with fail;go_ret;exact⟨HF.out,HBN.out⟩
   ·
    have HQ3:=Hd (HQ2.out rfl);go_wp2_with fail;go_roundw
    case rel=>exact⟨j+1,by omega,by go_num,HBN,HQ3⟩
    case measure=>simp[intOf];omega
  ·
   have HF:Hid (Ending.returned (.bool true)=.returned (.bool (decide (bx=bz)))):=Hd (by
    rw[decide_eq_true];refine List.ext_getElem HLN.out.symm fun i h1 h2=>?_
    have:=HQ.out i (by have:=HL.out;omega);simpa [List.getD,h1,h2] using this)
   have hjz:¬ (j:Int)<(L:Int):=by omega
   go_wp2_with fail;go_ret;exact⟨HF.out,HB.out⟩
open Go.RowKit
def cofF (F:BF) (v:Nat) (b:Bool):BF:=fun ρ=>F fun u=>if u=v then b else ρ u
theorem Zu2 {u v x r:Nat} (hu:u<v):bitB (2^v*x+r) u=bitB r u:=by
 obtain⟨k,rfl⟩:∃ k,v=u+(k+1):=⟨v-u-1,by omega⟩;unfold bitB;have e1:(2:Nat)^(u+(k+1))*x=2^u*(2*(2^k*x)):=by rw[Nat.pow_add,Nat.pow_succ];ac_rfl
 rw[e1,Nat.mul_add_div (Nat.pow_pos (by omega)),Nat.mul_add_mod]
theorem Zzx {v q c r:Nat} (hr:r<2^v) (hc:c<2):bitB (2^v*(2*q+c)+r) v=decide (c=1):=by
 unfold bitB;rw[Nat.mul_add_div (Nat.pow_pos (by omega)),Nat.div_eq_of_lt hr,Nat.add_zero,Nat.mul_add_mod,Nat.mod_eq_of_lt hc]
theorem Zr3 {u v q c r:Nat} (hr:r<2^v) (hc:c<2) (hu:v<u):bitB (2^v*(2*q+c)+r) u=decide (q/2^(u-v-1)%2=1):=by
 obtain⟨k,rfl⟩:∃ k,u=v+(k+1):=⟨u-v-1,by omega⟩;unfold bitB;have e1:(2:Nat)^(v+(k+1))=2^v*(2*2^k):=by rw[Nat.pow_add,Nat.pow_succ];ac_rfl
 have e2:v+(k+1)-v-1=k:=by omega
 rw[e1,e2,<- Nat.div_div_eq_div_mul,Nat.mul_add_div (Nat.pow_pos (by omega)),Nat.div_eq_of_lt hr,Nat.add_zero,<- Nat.div_div_eq_div_mul];have e3:(2*q+c)/2=q:=by omega
 rw[e3]
def cofI (j v:Nat) (b:Bool):Nat:=if bitB j v && !b then j-2^v else if !bitB j v&&b then j+2^v else j
theorem Zzf (j v:Nat):∃ q c r,r<2^v/\c<2/\j=2^v*(2*q+c)+r:=by
 have h:=Nat.div_add_mod j (2^v);refine⟨j/2^v/2,j/2^v%2,j%2^v,Nat.mod_lt _ (Nat.pow_pos (by omega)),by omega,?_⟩;have e:2*(j/2^v/2)+j/2^v%2=j/2^v:=by omega
 rw[e];exact h.symm
theorem Zox (j v:Nat) (b:Bool):∀ u,bitB (cofI j v b) u=if u=v then b else bitB j u:=by
 obtain⟨q,c,r,hr,hc,rfl⟩:=Zzf j v;have hat:=Zzx (q:=q) hr hc;have key:∃ c':Nat,c'<2/\decide (c'=1)=b/\cofI (2^v*(2*q+c)+r) v b=2^v*(2*q+c')+r:=by
  unfold cofI;rw[hat];have h2:2^v*(2*q+1)=2^v*(2*q+0)+2^v:=by simp[Nat.mul_add]
  rcases(by omega:c=0\/c=1) with rfl|rfl
  ·
   cases b with
   | false=>exact⟨0,by omega,rfl,by simp⟩
   | true=>exact⟨1,by omega,rfl,by simp only[Nat.zero_ne_one,decide_false,Bool.not_true,Bool.and_self,Bool.not_false,Bool.false_eq_true,if_false,if_true];omega⟩
  ·
   cases b with
   | true=>exact⟨1,by omega,rfl,by simp⟩
   | false=>exact⟨0,by omega,rfl,by simp only[decide_true,Bool.not_false,Bool.and_self,if_true];omega⟩
 obtain⟨c',hc',hb,e⟩:=key;intro u;rw[e];rcases Nat.lt_trichotomy u v with h|rfl|h
 ·
  rw[if_neg (by omega),Zu2 h,Zu2 h]
 ·
  rw[if_pos rfl,Zzx hr hc',hb]
 ·
  rw[if_neg (by omega),Zr3 hr hc' h,Zr3 hr hc h]
theorem Yam {n i:Nat} (h:∀ u,n<=u->bitB i u=false):i<2^n:=by
 rcases Nat.lt_or_ge i (2^n) with h'|h'
 ·
  exact h'
 ·
  exfalso;have hz:∀ k,i/2^n≠0->(∀ u,n<=u->bitB i u=false)->i/2^n<2^k->False:=by
   intro k
   induction k with
   | zero=>intro h1 _ h2;simp at h2;omega
   | succ k ih =>
     intro h1 h2 h3;refine ih h1 h2 ?_;have hb:=h2 (n+k) (by omega);unfold bitB at hb;rw[decide_eq_false_iff_not] at hb;have e:i/2^(n+k)=i/2^n/2^k:=by rw[Nat.pow_add,Nat.div_div_eq_div_mul]
     rw[e] at hb;have h4:i/2^n/2^k<2:=by
      rw[Nat.div_lt_iff_lt_mul (Nat.pow_pos (by omega))];rw[Nat.pow_succ,Nat.mul_comm] at h3;exact h3
     have h5:i/2^n/2^k=0:=by
      generalize i/2^n/2^k=X at hb h4
      omega
     exact(Nat.div_eq_zero_iff_lt (Nat.pow_pos (by omega))).1 h5
  have h0:i/2^n≠0:=by
   intro e;have:=(Nat.div_eq_zero_iff_lt (Nat.pow_pos (by omega))).1 e;omega
  exact hz (i/2^n) h0 h (Nat.lt_two_pow_self)
theorem Zve {n j v:Nat} {b:Bool} (hj:j<2^n) (hv:v<n):cofI j v b<2^n:=by
 refine Yam fun u hu=>?_
 rw[Zox,if_neg (by omega)];unfold bitB;rw[decide_eq_false_iff_not,Nat.div_eq_of_lt (Nat.lt_of_lt_of_le hj (Nat.pow_le_pow_right (by omega) hu))];omega
theorem Yaq {n:Nat} {F:BF} {j v:Nat} {b:Bool} (hj:j<2^n) (hv:v<n):(tabB n F).getD (cofI j v b) false=cofF F v b (Zbi (Zbg j n)):=by
 rw[Zdm (Zve hj hv)];unfold cofF;congr 1;funext u;rw[Zeb,Zox,Zeb]
 by_cases e:u=v
 ·
  subst e;simp[hv]
 ·
  rw[if_neg e,if_neg e]
open Go.RowKit
theorem Zm3 (n:Nat) (F:BF) (v:Nat) (b:Bool) (hn:n<=16) (hv:v<n) (au:Option Addr) (cu:Nat) (w:World) (h1:Zbs w au (tabB n F)) :
 Calls Tryz.prog 103 #[.slice au (2^n) cu,.int .i64 v,.bool b] w fun x w'=>∃ g,x=.returned (.slice (some ⟨g,0,none⟩) (2^n) (2^n))/\Zbt w' (.slice (some ⟨g,0,none⟩) (2^n) (2^n)) (tabB n (cofF F v b))/\Below w.heap.size w w':=by
 have H1:=Hd h1;have hL6:2^n<=1000000:=Zlx hn;have hp6:2^v<=1000000:=Zlx (by omega);have HTR:Hid (∀ i,i<=1048576->∀ W,Calls Tryz.prog 98 #[.int .i64 (i:Nat),.int .i64 (v:Nat)] W fun x w'=>x=.returned (.bool (bitB i v))/\W=w'):=Hd fun i hi W=>Zi6 i v hi (by omega) W
 obtain⟨G,hG⟩:∃ G:Nat->Bool,G=fun i=>cofF F v b (Zbi (Zbg i n)):=⟨_,rfl⟩
 have HT:Hid (tabB n (cofF F v b)=(List.range (2^n)).map G):=Hd (by rw[hG];rfl);have HCT:Hid (∀ j,j<2^n->cofI j v b<2^n/\(tabB n F).getD (cofI j v b) false=G j):=Hd fun j hj=>⟨Zve hj hv,by rw[hG];exact Yaq hj hv⟩
 have HLT:Hid ((tabB n F).length=2^n):=Hd (Za4 n F);rw[HT.out];obtain⟨L,hL⟩:∃ L,L=2^n:=⟨_,rfl⟩;obtain⟨p,hp⟩:∃ p,p=2^v:=⟨_,rfl⟩;have HBT:Hid (∀ W,Calls Tryz.prog 166 #[.int .i64 (v:Nat)] W fun x w'=>x=.returned (.int .i64 (p:Nat))/\W=w'):=Hd fun W=>by rw[hp];exact Zqx v (by omega) W
 have HCI:Hid (∀ j,cofI j v b=if bitB j v && !b then j-p else if !bitB j v&&b then j+p else j):=Hd fun j=>by rw[hp];rfl
 have HPJ:Hid (∀ j,bitB j v=true->p<=j):=Hd fun j hj=>by
  rcases Nat.lt_or_ge j p with h|h
  ·
   unfold bitB at hj;rw[<- hp,Nat.div_eq_of_lt h] at hj;simp at hj
  ·
   exact h
 rw[<- hL] at hL6 HCT HLT ⊢;rw[<- hp] at hp6;clear hL hp h1 hG HT
 go_enter Tryz.func103,Tryz.ntmps103
 go_wp2_with (at_make;refine Zg8 Zeg rfl _ _ rfl w.heap.size w _ L rfl rfl rfl (by omega) (Nat.le_refl _) (Below.refl _ _) ?_;intro g w1 hown1 hb1 hs1 hk1 hg1 hgx;clear hgx)
 go_loopw [8,9] (fun s8 s9 wr=>∃ j:Nat,j<=L/\s8=.int .i64 j/\Hid (OwnB wr w.heap.size (.slice (some ⟨g,0,none⟩) L L) (((List.range L).map G).take j++(List.replicate L false).drop j))/\Hid (Below w.heap.size w wr)) (fun s8 _ _=>L-(intOf s8).toNat)
 case atStart=>exact⟨0,by omega,rfl,Hd (by unfold OwnB;simpa [Zbh] using hown1),Hd hb1⟩
 case round =>
  clear hown1 hb1;obtain⟨j,hj,rfl,HOWN,HBEL⟩:=hrel
  by_cases hlt:j<L
  ·
   have hjl:j<((List.range L).map G).length:=by simp;exact hlt
   obtain⟨hkl,hkv⟩:=HCT.out j hlt;have hci:=HCI.out j;have hpj:=HPJ.out j;obtain⟨kk,hkk⟩:∃ kk,kk=cofI j v b:=⟨_,rfl⟩;rw[<- hkk] at hkl hkv hci;obtain⟨b1,of1,e1,c1⟩:=(H1.out.below HBEL.out).cells kk (by rw[HLT.out];exact hkl);rw[hkv] at c1;have q0:=HOWN.out.cellB j (by simp;omega);have p0:=HOWN.out.frozen j;subst e1;obtain⟨y,hy⟩:∃ y,y=G j:=⟨_,rfl⟩;rw[<- hy] at c1;have HST:Hid (((List.range L).map G)[j]=y):=Hd (by rw[hy];simp);obtain⟨t,ht⟩:∃ t,t=bitB j v:=⟨_,rfl⟩;rw[<- ht] at hci hpj;have HTJ:Hid (∀ W,Calls Tryz.prog 98 #[.int .i64 (j:Nat),.int .i64 (v:Nat)] W fun x w'=>x=.returned (.bool t)/\W=w'):=Hd fun W=>by rw[ht];exact HTR.out j (by omega) W
   have hkz:(kk:Int)<(L:Int):=by omega
   have HNX:Hid (OwnB (wr.setCell ⟨g,j,none⟩ (.bool y)) w.heap.size (.slice (some ⟨g,0,none⟩) L L) (((List.range L).map G).take (j+1)++(List.replicate L false).drop (j+1))):=Hd (by
    rw[<- Znv (by simp;omega) hjl HST.out];exact HOWN.out.setB j y)
   have HBN:Hid (Below w.heap.size w (wr.setCell ⟨g,j,none⟩ (.bool y))):=Hd (HBEL.out.setCell hg1 _);clear hkv hy ht hkk HOWN H1;cases t<;>cases b
   ·
    have hk1:kk=j:=by simpa using hci
    subst hk1;clear hci hpj;go_wp2_with fail;refine(HTJ.out _).mono ?_;rintro x w2 ⟨rfl,rfl⟩;go_wp2_with fail;refine(HTJ.out _).mono ?_;rintro x w2 ⟨rfl,rfl⟩;go_wp2_with fail;go_roundw
    case rel=>exact⟨kk+1,by omega,by go_num,HNX,HBN⟩
    case measure=>simp[intOf];omega
   ·
    have hk1:kk=j+p:=by simpa using hci
    have hk2:(j:Int)+(p:Int)=(kk:Nat):=by omega
    clear hci hpj hk1;go_wp2_with fail;refine(HTJ.out _).mono ?_;rintro x w2 ⟨rfl,rfl⟩;go_wp2_with fail;refine(HTJ.out _).mono ?_;rintro x w2 ⟨rfl,rfl⟩;go_wp2_with fail;refine(HBT.out _).mono ?_;rintro x w2 ⟨rfl,rfl⟩;go_wp2_with fail;go_roundw
    case rel=>exact⟨j+1,by omega,by go_num,HNX,HBN⟩
    case measure=>simp[intOf];omega
   ·
    have hk1:kk=j-p:=by simpa using hci
    have:=hpj rfl;have hk2:(j:Int)-(p:Int)=(kk:Nat):=by omega
    clear hci hpj hk1;go_wp2_with fail;refine(HTJ.out _).mono ?_;rintro x w2 ⟨rfl,rfl⟩;go_wp2_with fail;refine(HBT.out _).mono ?_;rintro x w2 ⟨rfl,rfl⟩;go_wp2_with fail;refine(HTJ.out _).mono ?_;rintro x w2 ⟨rfl,rfl⟩;go_wp2_with fail;go_roundw
    case rel=>exact⟨j+1,by omega,by go_num,HNX,HBN⟩
    case measure=>simp[intOf];omega
   ·
    have hk1:kk=j:=by simpa using hci
    subst hk1;clear hci hpj;go_wp2_with fail;refine(HTJ.out _).mono ?_;rintro x w2 ⟨rfl,rfl⟩;go_wp2_with fail;refine(HTJ.out _).mono ?_;rintro x w2 ⟨rfl,rfl⟩;go_wp2_with fail;go_roundw
    case rel=>exact⟨kk+1,by omega,by go_num,HNX,HBN⟩
    case measure=>simp[intOf];omega
  ·
   obtain rfl:j=L:=by omega
   have hl2:((List.range j).map G).length=j:=by simp
   have HF:Hid (Zbt wr (.slice (some ⟨g,0,none⟩) j j) ((List.range j).map G)):=Hd (by
    have h:=HOWN.out;rw[List.take_of_length_le (by omega),List.drop_of_length_le (by simp),List.append_nil] at h;exact OwnC.boolsIs h (by simp;exact hL6))
   go_wp2_with fail;go_ret;exact⟨g,rfl,HF.out,HBEL.out⟩
def Zhw (n:Nat) (F:BF) (v:Nat):Bool := !decide (tabB n (cofF F v false)=tabB n (cofF F v true))
theorem Zjz (n:Nat) (F:BF) (v:Nat) (hn:n<=16) (hv:v<n) (au:Option Addr) (cu:Nat) (w:World) (h1:Zbs w au (tabB n F)) :
 Calls Tryz.prog 35 #[.slice au (2^n) cu,.int .i64 v] w fun x w'=>x=.returned (.bool (Zhw n F v))/\Below w.heap.size w w':=by
 have HC:Hid (∀ b W,Below w.heap.size w W->Calls Tryz.prog 103 #[.slice au (2^n) cu,.int .i64 (v:Nat),.bool b] W fun x w'=>∃ g,x=.returned (.slice (some ⟨g,0,none⟩) (2^n) (2^n))/\Zbt w' (.slice (some ⟨g,0,none⟩) (2^n) (2^n)) (tabB n (cofF F v b))/\Below W.heap.size W w') :=
  Hd fun b W hb=>Zm3 n F v b hn hv au cu W (h1.below hb)
 have HSA:Hid (∀ (a1 a2:Nat) W,Zbt W (.slice (some ⟨a1,0,none⟩) (2^n) (2^n)) (tabB n (cofF F v false))->Zbt W (.slice (some ⟨a2,0,none⟩) (2^n) (2^n)) (tabB n (cofF F v true))->Calls Tryz.prog 102 #[.slice (some ⟨a1,0,none⟩) (2^n) (2^n),.slice (some ⟨a2,0,none⟩) (2^n) (2^n)] W fun x w'=>x=.returned (.bool (decide (tabB n (cofF F v false)=tabB n (cofF F v true))))/\Below W.heap.size W w'):=Hd fun a1 a2 W q1 q2=>by
  obtain⟨b1,d1,e1,k1,_⟩:=q1;obtain⟨b2,d2,e2,k2,_⟩:=q2;injection e1 with e1
  injection e2 with e2
  subst e1 e2;have:=Zn2 (tabB n (cofF F v false)) (tabB n (cofF F v true)) (by simp[Za4]) _ _ (2^n) (2^n) W k1 k2;rw[Za4] at this;exact this
 unfold Zhw;obtain⟨L,hL⟩:∃ L,L=2^n:=⟨_,rfl⟩;rw[<- hL] at HC HSA ⊢;obtain⟨d,hd⟩:∃ d,d=decide (tabB n (cofF F v false)=tabB n (cofF F v true)):=⟨_,rfl⟩;rw[<- hd] at HSA ⊢;clear h1 hL hd
 go_enter Tryz.func35,Tryz.ntmps35
 go_wp2_with fail;refine(HC.out false w (Below.refl _ _)).mono ?_;rintro x w1 ⟨g1,rfl,k1,hb1⟩;have K1:=Hd k1;have HB1:=Hd hb1;clear k1 hb1;go_wp2_with fail;refine(HC.out true w1 HB1.out).mono ?_;rintro x w2 ⟨g2,rfl,k2,hb2⟩;have HS:=Hd (HSA.out g1 g2 w2 (K1.out.below hb2) k2);have HB2:=Hd (HB1.out.trans (hb2.mono HB1.out.size));clear k2 hb2 K1;go_wp2_with fail;refine HS.out.mono ?_;rintro x w3 ⟨rfl,hb3⟩;have HB3:=Hd (HB2.out.trans (hb3.mono HB2.out.size));clear hb3 HS;go_wp2_with fail;go_ret;exact⟨rfl,HB3.out⟩
open Go.RowKit
section
variable {d:Zae} {V:Nat->BF}
theorem Zam.dep (h:Zam d V) {f:Nat} (hf:okE (Zab d) f):DepF d.vars.length (ef V f):=fun ρ ρ' hr=>h.dag.indep _ f (Nat.le_refl _) hf ρ ρ' fun v hv _=>hr v hv
theorem Zr7 {n:Nat} {F:BF} (h:DepF n F) (v:Nat) (b:Bool):DepF n (cofF F v b):=fun ρ ρ' hr=>h _ _ fun u hu=>by
 show (if u=v then b else ρ u)=if u=v then b else ρ' u
 rw[hr u hu]
theorem Zf0 (F:BF) (v:Nat) (b:Bool) (ρ:Nat->Bool):cofF F v b ρ=F (upd ρ v b):=rfl
theorem Zpf {n:Nat} {F:BF} (h:DepF n F) (v:Nat):Zhw n F v=true↔cofF F v false≠cofF F v true:=by
 unfold Zhw;rw[Bool.not_eq_true',decide_eq_false_iff_not];exact⟨fun h1 e=>h1 (by rw[e]),fun h1 e=>h1 (Zxk (Zr7 h v _) (Zr7 h v _) e)⟩
end
open Go.RowKit
open Go.RowKit
def Ind (F:BF) (v:Nat):Prop:=∀ b,cofF F v b=F
def SatF (C:BF):Prop:=∃ ρ,C ρ=true
def Dp (l:List Nat) (F:BF):Prop:=∀ ρ ρ':Nat->Bool,(∀ u∈l,ρ u=ρ' u)->F ρ=F ρ'
open Classical in
noncomputable def conB (C:BF) (v:Nat) (x:Bool):Bool:=if SatF (cofF C v x) then x else !x
noncomputable def constrF:List Nat->BF->BF->BF
 | [],F,_=>F
 | v::l,F,C=>fun ρ=>constrF l (cofF F v (conB C v (ρ v))) (cofF C v (conB C v (ρ v))) ρ
theorem Zow (F:BF) (v:Nat) (b c:Bool):cofF (cofF F v b) v c=cofF F v b:=by
 funext ρ;unfold cofF;congr 1;funext u
 by_cases h:u=v<;>simp[h]
theorem Zov (F:BF) {u v:Nat} (h:u≠v) (a b:Bool):cofF (cofF F u a) v b=cofF (cofF F v b) u a:=by
 funext ρ;unfold cofF;congr 1;funext x;dsimp only
 by_cases h1:x=u
 ·
  have h2:¬ x=v:=fun e=>h (h1.symm.trans e)
  simp only[if_pos h1,if_neg h2]
 ·
  by_cases h2:x=v
  ·
   simp only[if_neg h1,if_pos h2]
  ·
   simp only[if_neg h1,if_neg h2]
theorem Zkz (F:BF) (v:Nat) (ρ:Nat->Bool):cofF F v (ρ v) ρ=F ρ:=by
 unfold cofF;congr 1;funext u
 by_cases h:u=v
 ·
  rw[if_pos h,h]
 ·
  rw[if_neg h]
theorem Zc6 {F:BF} {v:Nat} {ρ:Nat->Bool} {b:Bool} (h:ρ v=b):cofF F v b ρ=F ρ:=by rw[<- h,Zkz]
theorem Ind.cof {F:BF} {u:Nat} (h:Ind F u) (v:Nat) (b:Bool):Ind (cofF F v b) u:=fun c=>by
 by_cases e:u=v
 ·
  subst e;exact Zow F u b c
 ·
  rw[Zov F (fun h=>e h.symm),h c]
theorem Zns (F:BF) (v:Nat) (b:Bool):Ind (cofF F v b) v:=fun c=>Zow F v b c
theorem Ind.at {F:BF} {v:Nat} (h:Ind F v) (ρ:Nat->Bool) (b:Bool):F (upd ρ v b)=F ρ:=by
 have:=congrFun (h b) ρ
 rwa [Zf0] at this
theorem Ind.of {F:BF} {v:Nat} (h:∀ ρ b,F (upd ρ v b)=F ρ):Ind F v:=fun b=>by
 funext ρ;rw[Zf0];exact h ρ b
theorem Zpj {F:BF} {v:Nat} (h:cofF F v false=cofF F v true):Ind F v:=fun b=>by
 funext ρ;have e:cofF F v b=cofF F v (ρ v):=by
  cases b<;>cases ρ v<;>simp[h]
 rw[e,Zkz]
theorem Zrq {C:BF} (h:SatF C) (v:Nat) (b:Bool):SatF (cofF C v b)\/SatF (cofF C v (!b)):=by
 obtain⟨ρ,hρ⟩:=h
 by_cases e:ρ v=b
 ·
  exact .inl ⟨ρ,by rw[Zc6 e];exact hρ⟩
 ·
  have:ρ v = !b:=by cases hb:b<;>cases hr:ρ v<;>simp_all
  exact .inr ⟨ρ,by rw[Zc6 this];exact hρ⟩
theorem Zng {C:BF} (h:SatF C) (v:Nat) (x:Bool):SatF (cofF C v (conB C v x)):=by
 unfold conB
 by_cases e:SatF (cofF C v x)
 ·
  rw[if_pos e];exact e
 ·
  rw[if_neg e];exact(Zrq h v x).resolve_left e
theorem Zim {C:BF} {v:Nat} {x:Bool} (h:SatF (cofF C v x)):conB C v x=x:=if_pos h
theorem Zr9 {C:BF} {v:Nat} {x:Bool} (h:¬ SatF (cofF C v x)):conB C v x = !x:=if_neg h
theorem Zk2 {l:List Nat} {F C:BF} {v:Nat} (hF:Ind F v) (hC:Ind C v):constrF (v::l) F C=constrF l F C:=by
 funext ρ
 show constrF l (cofF F v _) (cofF C v _) ρ=_
 rw[hF,hC]
theorem Zml {l:List Nat} {F C:BF} {v:Nat} (b:Bool) (hs:SatF C) (h:¬ SatF (cofF C v (!b))):constrF (v::l) F C=constrF l (cofF F v b) (cofF C v b):=by
 have hb:SatF (cofF C v b):=(Zrq hs v b).resolve_right h;have e:∀ x,conB C v x=b:=fun x=>by
  by_cases e:x=b
  ·
   rw[e];exact Zim hb
  ·
   have:x = !b:=by cases x<;>cases b<;>simp_all
   subst this;rw[Zr9 h];simp
 funext ρ
 show constrF l (cofF F v _) (cofF C v _) ρ=_
 rw[e]
theorem Zq1 {l:List Nat} {F C:BF} {v:Nat} (h0:SatF (cofF C v false)) (h1:SatF (cofF C v true)):constrF (v::l) F C=iteF v (constrF l (cofF F v true) (cofF C v true)) (constrF l (cofF F v false) (cofF C v false)):=by
 funext ρ
 show constrF l (cofF F v _) (cofF C v _) ρ=if ρ v then _ else _
 cases hv:ρ v with
 | true=>rw[Zim h1];rfl
 | false=>rw[Zim h0];rfl
theorem Zha:∀ (l:List Nat) {F C:BF} {u:Nat},Ind F u->Ind C u->Ind (constrF l F C) u
 | [],F,C,u,hF,_=>hF
 | v::l,F,C,u,hF,hC=>by
   refine Ind.of fun ρ b=>?_
   show constrF l (cofF F v (conB C v (upd ρ u b v))) (cofF C v (conB C v (upd ρ u b v))) (upd ρ u b)=constrF l (cofF F v (conB C v (ρ v))) (cofF C v (conB C v (ρ v))) ρ
   by_cases e:v=u
   ·
    subst e;rw[hF,hC,hF,hC];exact(Zha l hF hC).at ρ b
   ·
    rw[Ze7 ρ b e];exact(Zha l (hF.cof v _) (hC.cof v _)).at ρ b
theorem Zfe:∀ (l:List Nat) {F C:BF} {ρ:Nat->Bool},C ρ=true->constrF l F C ρ=F ρ
 | [],F,C,ρ,_=>rfl
 | v::l,F,C,ρ,h=>by
   have hs:SatF (cofF C v (ρ v)):=⟨ρ,by rw[Zkz];exact h⟩
   show constrF l (cofF F v (conB C v (ρ v))) (cofF C v (conB C v (ρ v))) ρ=_
   rw[Zim hs,Zfe l (by rw[Zkz];exact h),Zkz]
theorem Dp.cof {l:List Nat} {F:BF} {v:Nat} (h:Dp (v::l) F) (b:Bool):Dp l (cofF F v b):=fun ρ ρ' he=>h _ _ fun u hu=>by
 by_cases e:u=v
 ·
  simp[e]
 ·
  rw[if_neg e,if_neg e];rcases List.mem_cons.1 hu with h1|h1
  ·
   exact absurd h1 e
  ·
   exact he u h1
theorem Zoz {l:List Nat} {F C:BF} (h:∀ ρ ρ',F ρ=F ρ'):constrF l F C=F:=by
 induction l generalizing F C with
 | nil=>rfl
 | cons v l ih =>
   have e:∀ b,cofF F v b=F:=fun b=>by funext ρ;exact h _ _
   funext ρ
   show constrF l (cofF F v _) (cofF C v _) ρ=_
   rw[e,ih h]
theorem Zq3 {l:List Nat} {F C:BF} (h:∀ ρ,C ρ=true):constrF l F C=F:=by
 funext ρ;exact Zfe l (h ρ)
theorem Zhb:∀ (p:List Nat) {l:List Nat} {F C:BF},(∀ u∈p,Ind F u/\Ind C u)->constrF (p++l) F C=constrF l F C
 | [],l,F,C,_=>rfl
 | v::p,l,F,C,h=>by
   obtain⟨h1,h2⟩:=h v (List.mem_cons_self ..);rw[List.cons_append,Zk2 h1 h2];exact Zhb p fun u hu=>h u (List.mem_cons_of_mem _ hu)
theorem Zz0 {n:Nat} {F:BF} {l:List Nat} (h:DepF n F) (hl:∀ v,v<n->v∈l):Dp l F:=fun ρ ρ' he=>h ρ ρ' fun v hv=>he v (hl v hv)
def Zhs (F C R:BF):Prop:=(∀ ρ,C ρ=true->R ρ=F ρ)/\∀ u,Ind F u->Ind R u
theorem Zm4 (F C:BF):Zhs F C F:=⟨fun _ _=>rfl,fun _ h=>h⟩
theorem Zw6 {F C R:BF} {v:Nat} (b:Bool) (hs:¬ SatF (cofF C v (!b))) (h:Zhs (cofF F v b) (cofF C v b) R):Zhs F C R:=by
 refine⟨fun ρ hc=>?_,fun u hu=>h.2 u (hu.cof v b)⟩;have e:ρ v=b:=by
  by_cases e:ρ v=b
  ·
   exact e
  ·
   exfalso;have:ρ v = !b:=by cases hb:b<;>cases hr:ρ v<;>simp_all
   exact hs ⟨ρ,by rw[Zc6 this];exact hc⟩
 rw[h.1 ρ (by rw[Zc6 e];exact hc),Zc6 e]
theorem Zuc {F C R0 R1:BF} {v:Nat} (hne:cofF F v false≠cofF F v true) (h0:Zhs (cofF F v false) (cofF C v false) R0) (h1:Zhs (cofF F v true) (cofF C v true) R1):Zhs F C (iteF v R1 R0):=by
 refine⟨fun ρ hc=>?_,fun u hu=>Ind.of fun ρ b=>?_⟩
 ·
  show (if ρ v then R1 ρ else R0 ρ)=F ρ
  cases hv:ρ v with
  | true=>rw[if_pos rfl,h1.1 ρ (by rw[Zc6 hv];exact hc),Zc6 hv]
  | false=>rw[if_neg (by simp),h0.1 ρ (by rw[Zc6 hv];exact hc),Zc6 hv]
 ·
  have e:v≠u:=fun e=>by subst e;exact hne (by rw[hu,hu])
  show (if upd ρ u b v then R1 (upd ρ u b) else R0 (upd ρ u b))=if ρ v then R1 ρ else R0 ρ
  rw[Ze7 ρ b e,(h1.2 u (hu.cof v _)).at,(h0.2 u (hu.cof v _)).at]
theorem Zud {F C N R:BF} {v:Nat} (he:cofF F v false=cofF F v true) (hN:∀ ρ,N ρ=(cofF C v false ρ||cofF C v true ρ)) (h:Zhs (cofF F v false) N R):Zhs F C R:=by
 have hi:=Zpj he;rw[hi] at h;refine⟨fun ρ hc=>h.1 ρ ?_,h.2⟩;rw[hN,Bool.or_eq_true];cases hv:ρ v with
 | true=>exact .inr (by rw[Zc6 hv];exact hc)
 | false=>exact .inl (by rw[Zc6 hv];exact hc)
theorem Zpt {d:Zae} {V:Nat->BF} (h:Zam d V) {r L:Nat} (hr:okE (Zab d) r) (hL:L<d.vars.length) (hi:∀ u,u<d.vars.length->levN d u<=L->Ind (ef V r) u):L<lvE d.vars.length (levN d) (Zab d) r:=by
 rcases Nat.lt_or_ge L (lvE d.vars.length (levN d) (Zab d) r) with c|c
 ·
  exact c
 ·
  exfalso;unfold lvE at c;cases hb:Zab d (r/2) with
  | none=>rw[hb] at c;dsimp only at c;omega
  | some b =>
    rw[hb] at c;have hv:=h.dag.var _ _ hb;have hlv:lvE d.vars.length (levN d) (Zab d) r=levN d b.v:=by unfold lvE;rw[hb]
    obtain⟨q1,_,q3,_,q5⟩:=Zd9 h hr hv (by rw[hlv];exact Nat.le_refl _);have e:ef V (cofs d r b.v).1=ef V r:=by
     funext ρ;rw[<- (hi b.v hv c).at ρ false,q5,Zej,h.dag.indep_var q1 q3];rfl
    rw[h.dag.canon q1 hr e,hlv] at q3;omega
theorem Zr8 {d:Zae} {V:Nat->BF} (h:Zam d V) {f v:Nat} (hf:okE (Zab d) f) (hv:v<d.vars.length) (hl:levN d v<=lvE d.vars.length (levN d) (Zab d) f) :
 ef V (cofs d f v).1=cofF (ef V f) v false/\ef V (cofs d f v).2=cofF (ef V f) v true:=by
 obtain⟨q1,q2,q3,q4,q5⟩:=Zd9 h hf hv hl;constructor
 ·
  funext ρ;rw[Zf0,q5,Zej,h.dag.indep_var q1 q3];rfl
 ·
  funext ρ;rw[Zf0,q5,Zej,h.dag.indep_var q2 q4];rfl
theorem Zfr {d:Zae} {V:Nat->BF} (h:Zam d V) {f u:Nat} (hf:okE (Zab d) f) (hl:levN d u<lvE d.vars.length (levN d) (Zab d) f):Ind (ef V f) u:=Ind.of fun ρ b=>h.dag.indep_var hf hl ρ b
open Go.RowKit
structure AtC (K:Law) (k:Nat) (o:Own) (w:World) (mb:Nat) (m:ManD) (V:Nat->BF) (o':Own) (w':World) (m':ManD) (V':Nat->BF):Prop where
 st:Step K o w mb m V o' w' m' V'
 waits:m'.waits=m.waits
 many:m'.d.pool.many<=m.d.pool.many+k
def Zna (K:Law) (k:Nat) (o:Own) (w:World) (mb:Nat) (m:ManD) (V:Nat->BF) (er:Int) (evt:Bool) (ev:Ev) (w':World):Prop :=
 ∃ o' m' V',Step K o w mb m V o' w' m' V'/\((er=7/\evt=false/\ev=ev0/\m'.waits=m.waits/\m'.d.pool.many=m'.d.pool.room/\m'.d.pool.many+1<=m.d.pool.many+k)\/(er=0/\evt=true/\m.waits=ev::m'.waits))
def Zb4 (K:Law) (k:Nat) (o:Own) (w:World) (mb:Nat) (m:ManD) (V:Nat->BF) (A:Zae->(Nat->BF)->Nat->Prop) (e:Ending) (w':World):Prop :=
 (∃ r o' m' V',e=.returned (.int .i64 (r:Nat))/\AtC K k o w mb m V o' w' m' V'/\okE (Zab m'.d) r/\A m'.d V' r)\/(∃ er evt ev,e=Zbv er evt ev/\Zna K k o w mb m V er evt ev w')
section
variable {K:Law} {n k k1 k2:Nat} {Od:List Nat->Prop} {room:Nat} {w0 w w' w1 w2:World} {mb:Nat} {fs:List (Int×BF)} {nx:Int} {o o' o1 o2:Own} {m m' m1 m2:ManD} {V V' V1 V2:Nat->BF} {xb:Nat}
theorem AtC.refl (h:Zcu (K m.d V) o w mb m) (hl:Zaj o w) (hk:Zam m.d V):AtC K 0 o w mb m V o w m V:=⟨⟨h,hl,Chg.refl _ _ _,hk,Ext.refl _ _,rfl,rfl⟩,rfl,Nat.le_refl _⟩
theorem AtC.trans (h:AtC K k1 o w mb m V o1 w1 m1 V1) (h':AtC K k2 o1 w1 mb m1 V1 o2 w2 m2 V2):AtC K (k1+k2) o w mb m V o2 w2 m2 V2 :=
 ⟨h.st.trans h'.st,h'.waits.trans h.waits,by have:=h.many;have:=h'.many;omega⟩
theorem AtC.mono (h:AtC K k1 o w mb m V o1 w1 m1 V1) (hk:k1<=k2):AtC K k2 o w mb m V o1 w1 m1 V1:=⟨h.st,h.waits,Nat.le_trans h.many (by omega)⟩
theorem AtC.below (h:AtC K k o w mb m V o1 w1 m1 V1) (hb:Below w1.heap.size w1 w2):AtC K k o w mb m V o1 w2 m1 V1:=⟨h.st.below hb,h.waits,h.many⟩
theorem AtC.vars (h:AtC K k o w mb m V o1 w1 m1 V1) (hv:m.d.vars.length=n):m1.d.vars.length=n:=by rw[h.st.ext.vars];exact hv
theorem Zna.after {er:Int} {evt:Bool} {ev:Ev} (h:AtC K k1 o w mb m V o1 w1 m1 V1) (h':Zna K k2 o1 w1 mb m1 V1 er evt ev w2) (hk:k1+k2<=k):Zna K k o w mb m V er evt ev w2:=by
 obtain⟨o2,m2,V2,st,⟨a1,a2,a3,a4,a5,a6⟩|⟨a1,a2,a3⟩⟩:=h'
 ·
  have:=h.many;exact⟨o2,m2,V2,h.st.trans st,.inl ⟨a1,a2,a3,a4.trans h.waits,a5,by omega⟩⟩
 ·
  exact⟨o2,m2,V2,h.st.trans st,.inr ⟨a1,a2,by rw[<- h.waits];exact a3⟩⟩
theorem Zvj (hK:Zci K) (h:Zcu (K m.d V) o w mb m) (hlt:Zaj o w) (hx:Zcy o w xb mb) (hk:Zam m.d V) (v lo hi:Nat) (hv:v<m.d.vars.length) (hlo:okE (Zab m.d) lo) (hhi:okE (Zab m.d) hi)
 (hgl:levN m.d v<lvE m.d.vars.length (levN m.d) (Zab m.d) lo) (hgh:levN m.d v<lvE m.d.vars.length (levN m.d) (Zab m.d) hi) :
 Calls Tryz.prog 77 #[.pointer (some ⟨xb,0,none⟩),.int .i64 v,.int .i64 lo,.int .i64 hi] w (Zb4 K 1 o w mb m V fun d V' r=>ef V' r=iteF v (ef V hi) (ef V lo)/\levN m.d v<=lvE m.d.vars.length (levN d) (Zab d) r):=by
 refine(Zk4 hK h hlt hx hk v lo hi hlo hhi).mono ?_;rintro e w' ⟨o',m',V',st,⟨ev,h1,_,_,_,_,rfl⟩|⟨h1,_,_,(⟨er,her,hd,_,rfl⟩|⟨_,_,r,rfl,h2,h3,h4,h5⟩)⟩⟩
 ·
  exact .inr ⟨0,true,ev,rfl,o',m',V',st,.inr ⟨rfl,rfl,h1⟩⟩
 ·
  rcases her with ⟨_,h⟩|⟨_,_,_,h⟩|⟨rfl,h⟩
  ·
   exact(h ⟨by omega,by omega⟩).elim
  ·
   simp only[Int.toNat_natCast] at h;omega
  ·
   exact .inr ⟨7,false,ev0,rfl,o',m',V',st,.inl ⟨rfl,rfl,rfl,h1,by rw[hd];exact h,by rw[hd];omega⟩⟩
 ·
  exact .inl ⟨r,o',m',V',rfl,⟨st,h1,h5⟩,h2,h3,h4⟩
theorem Zx3 (hK:Zci K) (h:Zcu (K m.d V) o w mb m) (hlt:Zaj o w) (hx:Zcy o w xb mb) (hk:Zam m.d V) (v:Nat) (hv:v<m.d.vars.length) :
 Calls Tryz.prog 77 #[.pointer (some ⟨xb,0,none⟩),.int .i64 v,.int .i64 (1:Nat),.int .i64 (0:Nat)] w (Zb4 K 1 o w mb m V fun _ V' r=>ef V' r=varF v):=by
 have hlv:=hk.dag.lt v hv;refine(Zvj hK h hlt hx hk v 1 0 hv (.inl rfl) (.inl rfl) (by rw[Zgs hk rfl];exact hlv) (by rw[Zgs hk rfl];exact hlv)).mono ?_;rintro e w' (⟨r,o',m',V',rfl,h1,h2,h3,_⟩|h)
 ·
  refine .inl ⟨r,o',m',V',rfl,h1,h2,?_⟩
  show ef V' r=varF v
  rw[h3];funext ρ;simp only[iteF,varF,Zia hk.dag.one,Zk6 hk.dag.one];cases ρ v<;>rfl
 ·
  exact .inr h
theorem Zni (hK:Zci K) (h:Zcu (K m.d V) o w mb m) (hlt:Zaj o w) (hx:Zcy o w xb mb) (hk:Zam m.d V) (hn:m.d.vars.length=n) (f g e:Nat) (hf:okE (Zab m.d) f) (hg:okE (Zab m.d) g) (he:okE (Zab m.d) e) :
 Calls Tryz.prog 79 #[.pointer (some ⟨xb,0,none⟩),.int .i64 f,.int .i64 g,.int .i64 e] w (Zb4 K (2^n-1) o w mb m V fun _ V' r=>ef V' r=Zdu (ef V f) (ef V g) (ef V e)):=by
 have hp2:0<2^n:=Nat.pow_pos (by omega);refine(Zmm hK n o w xb mb m V f g e h hlt hx hk hf hg he (by omega)).mono ?_;rintro x w' ⟨o',m',V',st,⟨r,rfl,h1,h2,h3⟩|⟨rfl,h2,h3,h4⟩|⟨ev,rfl,h1⟩⟩
 ·
  refine .inl ⟨r,o',m',V',rfl,⟨st,h2,by omega⟩,h1.okR,?_⟩
  show ef V' r=Zdu (ef V f) (ef V g) (ef V e)
  funext ρ;rw[h1.val ρ,st.ext.ef hf,st.ext.ef hg,st.ext.ef he];rfl
 ·
  exact .inr ⟨7,false,ev0,rfl,o',m',V',st,.inl ⟨rfl,rfl,rfl,h2,h3,by omega⟩⟩
 ·
  exact .inr ⟨0,true,ev,rfl,o',m',V',st,.inr ⟨rfl,rfl,h1⟩⟩
theorem Ycf {C:Nat->Prop} {B:World->Prop} {gop:Nat} {lop:Array Value} {F:BF} (ws0:List Ev) (lim:Option Nat) (hlim:Zqt ws0 lim k room) (hhap:∀ ev∈ws0,HapG K n Od room w0 mb fs nx ev)
 (hB:∀ W W',B W->(∀ c,C c->W'.heap[c]?=W.heap[c]?)->B W')
 (hop:∀ (o:Own) (W:World) (m:ManD) (V:Nat->BF) (xb:Nat),SatE K n Od room w0 mb fs nx W o m V->B W->(∀ k,C k->k<W.heap.size/\o k=none)->Zcy o W xb mb->¬ C xb->Calls Tryz.prog gop (#[.pointer (some ⟨xb,0,none⟩)]++lop) W (Zb4 K k o W mb m V fun _ V' r=>ef V' r=F)) :
 OpG K n Od room w0 mb fs nx C B (StL ws0 lim) gop lop (QF ws0 lim k F) (EL (SatX K n Od room w0 mb fs nx) k ws0 lim):=by
 intro o W m V xb hsat hb hC hst hcx hnx;refine(hop o W m V xb hsat hb hC hcx hnx).mono ?_;have hkeep:∀ {o':Own} {w':World} {m':ManD} {V':Nat->BF},Step K o W mb m V o' w' m' V'->B w':=fun st=>hB _ _ hb fun c hc=>st.chg.alien (hC c hc).1 (hC c hc).2
 rintro e w' (⟨r,o',m',V',rfl,h1,h2,h3⟩|⟨er,evt,ev,rfl,o',m',V',st,⟨rfl,rfl,rfl,a4,a5,a6⟩|⟨rfl,rfl,a3⟩⟩)
 ·
  exact⟨o',m',V',h1.st.toX _,hkeep h1.st,.inl ⟨r,rfl,h2,h3,by rw[h1.waits];exact hst.1,fun M e=>by have:=hst.2 M e;have:=h1.many;omega⟩⟩
 ·
  have hl0:lim=none:=Znu (m':=m') hlim hst.2 (by rw[<- a5];omega) (by rw[st.ext.room];exact hsat.room);exact⟨o',m',V',st.toX _,hkeep st,.inr (.inl ⟨7,rfl,by omega,a4,⟨by unfold Zik;rw[a4];exact hst.1,by subst hl0;exact fun M e=>by cases e⟩,hl0,rfl,⟨_,_,_,hsat⟩,a5,a6,by rw[a4];exact hst.1⟩)⟩
 ·
  have hst':m.waits <:+ ws0:=hst.1;rw[a3] at hst';exact⟨o',m',V',st.toX _,hkeep st,.inr (.inr ⟨ev,rfl,a3,fun _ _ _ _ _ e _ _=>⟨by unfold Zik;rw[e];exact(List.suffix_cons ev m'.waits).trans hst',Zwc hlim hst'⟩,hhap ev (hst'.subset (List.mem_cons_self ..))⟩)⟩
end
open Go.RowKit
end Go.Proofs.YtmofaapnkidioaaGreat

namespace Go.Proofs.YtmofaapnkidioaaGreat
open Go.RowKit
theorem Zqb (b:Bool) (n:Nat) (hn:n<=16) (w:World):Calls Tryz.prog 72 #[.bool b,.int .i64 n] w fun x w'=>∃ g,x=.returned (.slice (some ⟨g,0,none⟩) (2^n) (2^n))/\OwnB w' w.heap.size (.slice (some ⟨g,0,none⟩) (2^n) (2^n)) (tabB n (fun _=>b))/\Below w.heap.size w w':=by
 have:=Zg0 b n hn w;rw[Ziy] at this;exact this
open Go.RowKit
theorem tabs16 {n:Nat} (h:n<=16):2^n<=1000000:=Nat.le_trans (Nat.pow_le_pow_right (by omega) h) (by decide)
def andF (F G:BF):BF:=Zdu F G fun _=>false
def orF (F G:BF):BF:=Zdu F (fun _=>true) G
def xorF (F G:BF):BF:=Zdu F (notF G) G
def TabA (n:Nat) (W:World) (v:Value) (F:BF):Prop:=∃ a c,v=.slice a (2^n) c/\Zbs W a (tabB n F)
open Go.RowKit
theorem Yaw (V:Nat->BF) (e:Nat):ef V (enot e)=notF (ef V e):=funext fun ρ=>Zh9 V e ρ
def Zxw (K:Law) (n:Nat) (g:Nat) (G:BF->BF->BF):Prop:=∀ (o:Own) (w:World) (xb mb:Nat) (m:ManD) (V:Nat->BF) (a b:Nat),Zcu (K m.d V) o w mb m->Zaj o w->Zcy o w xb mb->Zam m.d V->m.d.vars.length=n->okE (Zab m.d) a->okE (Zab m.d) b ->
 Calls Tryz.prog g #[.pointer (some ⟨xb,0,none⟩),.int .i64 a,.int .i64 b] w (Zb4 K (2^n-1) o w mb m V fun _ V' r=>ef V' r=G (ef V a) (ef V b))
section
variable {K:Law} {n:Nat}
theorem Zsb {o:Own} {w:World} {mb:Nat} {m:ManD} {V:Nat->BF} (h:Zcu (K m.d V) o w mb m) {e:Nat} (he:okE (Zab m.d) e):e<eMax:=by
 obtain⟨s,hs⟩:=h;obtain⟨s2,h2⟩:=hs.store;have:=h2.edge_lt he;unfold eMax;omega
theorem Ycg (hK:Zci K):Zxw K n 91 andF:=by
 intro o w xb mb m V a b h hlt hx hk hn ha hb;have hI:=Zni hK h hlt hx hk hn a b 1 ha hb (.inl rfl);have e:Zdu (ef V a) (ef V b) (ef V 1)=andF (ef V a) (ef V b):=by
  rw[hk.dag.ef1];rfl
 rw[e] at hI;have HI:=Hd hI;clear hI e h hlt hx hk hn ha hb hK
 go_enter Tryz.func91,Tryz.ntmps91
 go_wp2_with fail;refine HI.out.mono ?_;rintro e w' (⟨r,o',m',V',rfl,h⟩|⟨er,evt,ev,rfl,h⟩)
 ·
  have HR:=Hd h;clear h HI;go_wp2_with fail;go_ret;exact .inl ⟨r,o',m',V',rfl,HR.out⟩
 ·
  have HR:=Hd h;clear h HI;unfold Zbv;go_wp2_with fail;exact⟨rfl,.inr ⟨er,evt,ev,rfl,HR.out⟩⟩
end
open Go.RowKit
theorem Zo8 (args:Array Value) (w:World):(callFunc 160 args).run Tryz.prog w=.ok (.enter 160 args) w:=enters_of Tryz.func160 (by kernel_rfl) rfl args w
section
variable {K:Law} {n:Nat} {Od:List Nat->Prop} {room:Nat} {w0 w:World} {mb xb:Nat} {fs:List (Int×BF)} {nx:Int} {o:Own} {m:ManD} {V:Nat->BF}
def Zir (G:BF->BF->BF) (C:BF) (Fs:List BF):BF:=Fs.foldl G C
theorem Ztm (G:BF->BF->BF) (C:BF) {Fs:List BF} {i:Nat} (hi:i<Fs.length):Zir G C (Fs.take (i+1))=G (Zir G C (Fs.take i)) Fs[i]:=by
 unfold Zir;rw[List.take_succ_eq_append_getElem hi,List.foldl_append];rfl
structure BoF (b1 bl bf:Nat) (e0:Nat) (a:Option Addr) (c:Nat) (ks:List Int) (g:Nat) (W:World):Prop where
 e:W.cell? ⟨b1,0,none⟩=some (.int .i64 e0)
 l:W.cell? ⟨bl,0,none⟩=some (.slice a ks.length c)
 f:W.cell? ⟨bf,0,none⟩=some (.func (.func g) #[] #[])
 z:Zax W a ks
theorem Ya3 {g:Nat} {G:BF->BF->BF} (hG:Zxw K n g G) (eg:∀ args w,(callFunc g args).run Tryz.prog w=.ok (.enter g args) w) {b1 bl bf e0 c:Nat} {a:Option Addr} {ks:List Int} {Fs:List BF} (he0:e0/2=0) (hlen:Fs.length=ks.length) (hks:∀ i (h:i<ks.length),(ks[i],Fs[i]'(by omega))∈fs) (hsat:SatE K n Od room w0 mb fs nx w o m V) (hB:BoF b1 bl bf e0 a c ks g w) (hno:∀ k,(k=b1\/k=bl\/k=bf\/∃ x,a=some x/\k=x.block)->o k=none) (hx:Zcy o w xb mb) :
 Calls Tryz.prog 160 #[.pointer (some ⟨xb,0,none⟩),.pointer (some ⟨b1,0,none⟩),.pointer (some ⟨bl,0,none⟩),.pointer (some ⟨bf,0,none⟩)] w (Zb4 K (ks.length*(2^n-1)) o w mb m V fun _ V' r=>ef V' r=Zir G (ef V e0) Fs):=by
 have hk:=hsat.ok;have ce:=hB.e;have cl:=hB.l;have HB:=Hd hB;have HNO:=Hd hno;have hzl:=hB.z.len;obtain⟨I,hI⟩:∃ I:Nat->Nat->World->Prop,I=fun i r wr=>∃ o' m' V',AtC K (i*(2^n-1)) o w mb m V o' wr m' V'/\okE (Zab m'.d) r/\ef V' r=Zir G (ef V e0) (Fs.take i):=⟨_,rfl⟩
 have HI0:Hid (I 0 e0 w):=by rw[hI];exact Hd ⟨o,m,V,(AtC.refl hsat.is hsat.lt hk.store).mono (by omega),.inl he0,rfl⟩
 have HICELL:Hid (∀ i r wr,I i r wr->∀ p v,w.cell? p=some v->o p.block=none->wr.cell? p=some v):=by rw[hI];exact Hd fun i r wr ⟨o',m',V',h,_⟩ p v hc ho=>h.st.chg.cell hc ho
 obtain⟨P,hP⟩:∃ P:Ending->World->Prop,P=Zb4 K (ks.length*(2^n-1)) o w mb m V fun _ V' r=>ef V' r=Zir G (ef V e0) Fs:=⟨_,rfl⟩
 have HFIN:Hid (∀ r wr,I ks.length r wr->P (.returned (.int .i64 (r:Nat))) wr):=by
  rw[hI,hP];exact Hd fun r wr ⟨o',m',V',h,h2,h3⟩=>.inl ⟨r,o',m',V',rfl,h,h2,by rw[<- hlen,List.take_length] at h3;exact h3⟩
 have HSTEP:Hid (∀ i r wr,i<ks.length->I i r wr->∃ f,(Calls Tryz.prog 81 #[.pointer (some ⟨xb,0,none⟩),.int .i64 (at0 ks i)] wr.drew fun x w'=>x=.returned (.int .i64 (f:Nat))/\wr.drew=w') /\
  Calls Tryz.prog g #[.pointer (some ⟨xb,0,none⟩),.int .i64 (r:Nat),.int .i64 (f:Nat)] wr.drew fun e w'=>(∃ v,e=.returned v/\(w'.cell? ⟨bf,0,none⟩=some (.func (.func g) #[] #[])/\True)/\∃ r':Nat,v=.int .i64 r'/\I (i+1) r' w')\/(∃ ch,e=.panicked ch/\P (.panicked ch) w')):=by
  rw[hI,hP];refine Hd fun i r wr hi ⟨o',m',V',h,h2,h3⟩=>?_
  have hmem:=hks i hi;obtain⟨f,hf,e1⟩:=hsat.find hmem;have hbd:Below wr.heap.size wr wr.drew:=Zag wr 1;have hd:=h.below hbd;have hx':=hx.chg hd.st.chg;have hf':(ks[i],f)∈m'.hs:=by rw[hd.st.hs];exact hf
  have hfo:okE (Zab m'.d) f:=hd.st.ext.ok (hk.handles.ok _ hf);refine⟨f,by rw[Zce hi];exact Zb8 hd.st.is hx' (by rw[hd.st.hs];exact hk.handles.nodup) hf',?_⟩;refine(hG o' wr.drew xb mb m' V' r f hd.st.is hd.st.lt hx' hd.st.ok (hd.vars hsat.vars) h2 hfo).mono ?_;rintro e w' (⟨r',o2,m2,V2,rfl,q1,q2,q3⟩|⟨er,evt,ev,rfl,q⟩)
  ·
   have hq:=hd.trans q1;refine .inl ⟨_,rfl,⟨hq.st.chg.cell HB.out.f (HNO.out bf (.inr (.inr (.inl rfl)))),trivial⟩,r',rfl,o2,m2,V2,hq.mono (by rw[Nat.succ_mul];exact Nat.le_refl _),q2,?_⟩;have hef:ef V' f=Fs[i]'(by omega):=(hd.st.ext.ef (hk.handles.ok _ hf)).trans e1;rw[Ztm G _ (by omega),q3,h3,hef]
  ·
   refine .inr ⟨_,rfl,.inr ⟨er,evt,ev,rfl,q.after hd ?_⟩⟩;have:=Nat.mul_le_mul_right (2^n-1) (show i+1<=ks.length by omega);rw[Nat.succ_mul] at this;exact this
 rw[<- hP];clear hI hP hG hsat hB hno hx hk hks
 go_enter Tryz.func160,Tryz.ntmps160
 go_wp2_with fail
 go_loopw [6,8,12] (fun s6 _ s12 wr=>∃ (i r:Nat),i<=ks.length/\s12=.int .i64 i/\s6=.int .i64 r/\Hid (I i r wr)) (fun _ _ s12 _=>ks.length-(intOf s12).toNat)
 case atStart=>exact⟨0,e0,Nat.zero_le _,rfl,rfl,HI0⟩
 case round =>
  obtain⟨i,r,hi,rfl,rfl,HI⟩:=hrel
  by_cases hlt:i<ks.length
  ·
   have hiz:(i:Int)<(ks.length:Int):=by omega
   obtain⟨f,hE,hS⟩:=HSTEP.out i r _ hlt HI.out;obtain⟨b,off,rfl,ck⟩:=HB.out.z.cells i hlt;have ck1:=HICELL.out _ _ _ HI.out _ _ ck (HNO.out b (.inr (.inr (.inr ⟨_,rfl,rfl⟩))));have cf1:=HICELL.out _ _ _ HI.out _ _ HB.out.f (HNO.out bf (.inr (.inr (.inl rfl))));have hbd:Below wr.heap.size wr wr.drew:=Zag wr 1;have cf2:=(hbd.cell (p:=⟨bf,0,none⟩) (Zaa cf1)).trans cf1;have HE:=Hd hE;have HS:=Hd hS;clear hE hS hbd cf1 ck ce cl HI0 HSTEP HFIN HI;go_upto_region 5 with fail;refine Zd5 (fun W:World=>W.cell? ⟨bf,0,none⟩=some (.func (.func g) #[] #[])/\True) (fun ch w'=>P (.panicked ch) w') 8 (fun c a w hd h=>⟨hd,h⟩) (by kernel_rfl) ⟨cf2,trivial⟩ ?_;refine Za3 0 rfl rfl (by kernel_rfl) ?_;apply Exists.intro;refine⟨fun w' hw=>?_,?_⟩
   ·
    obtain⟨q1,q2⟩:=hw;go_simp;rfl
   simp only[Zaf];refine Za3 1 rfl rfl (by kernel_rfl) ?_;apply Exists.intro;refine⟨fun w' hw=>?_,?_⟩
   ·
    obtain⟨q1,q2⟩:=hw;go_simp;rfl
   simp only[Zaf];refine Za3 2 rfl rfl (by kernel_rfl) ?_;apply Exists.intro;refine⟨fun w' hw=>?_,?_⟩
   ·
    obtain⟨q1,q2⟩:=hw;go_simp;rfl
   simp only[Zaf];refine Za3 3 rfl rfl (by kernel_rfl) ?_;apply Exists.intro;refine⟨fun w' hw=>?_,?_⟩
   ·
    obtain⟨q1,q2⟩:=hw;go_simp;rfl
   simp only[Zaf];refine Za3 4 rfl rfl (by kernel_rfl) ?_;apply Exists.intro;refine⟨fun w' hw=>?_,?_⟩
   ·
    obtain⟨q1,q2⟩:=hw;go_simp;rfl
   simp only[Zaf];refine Zdc [5] (by kernel_rfl) (fun i hi hS o ho=>?_);simp only[Zbb] at hi;subst hi;simp only[Za1] at ho;subst ho;refine⟨rfl,?_⟩;refine Zas (v:=.int .i64 (f:Nat)) (R:=fun w'=>wr.drew=w') (by go_simp) HE.out ?_;rintro w' rfl;refine⟨⟨cf2,trivial⟩,?_⟩;simp only[Zaf];refine Zdc [6] (by kernel_rfl) (fun i hi hS o ho=>?_);simp only[Zbb] at hi;subst hi;simp only[Za1] at ho;subst ho;refine⟨rfl,?_⟩;refine Zhh (R:=fun v w'=>(w'.cell? ⟨bf,0,none⟩=some (.func (.func g) #[] #[])/\True)/\∃ r':Nat,v=.int .i64 r'/\I (i+1) r' w') (R2:=fun ch w'=>P (.panicked ch) w') (by go_simp) HS.out ?_ ?_
   ·
    rintro v w' ⟨hS,r',rfl,hst⟩;refine⟨hS,?_⟩;have HST:=Hd hst;clear hst;simp only[Zaf];refine Za3 7 rfl rfl (by kernel_rfl) ?_;apply Exists.intro;refine⟨fun w' hw=>?_,?_⟩
    ·
     obtain⟨q1,q2⟩:=hw;go_simp;rfl
    simp only[Zaf];refine Zis (by kernel_rfl) ?_;clear hS cf2 ck1;go_wp2_with fail;go_roundw
    case rel=>exact⟨i+1,r',by omega,by go_num,rfl,HST⟩
    case measure=>simp[intOf];omega
   ·
    intro ch w' hst;exact⟨rfl,hst⟩
  ·
   obtain rfl:i=ks.length:=by omega
   have hiz:¬ (ks.length:Int)<(ks.length:Int):=by omega
   have HF:=Hd (HFIN.out r _ HI.out);clear HI0 HSTEP HFIN HI ce cl;go_wp2_with fail;exact HF.out
end
open Go.RowKit
section
variable {K:Law} {n k:Nat} {room:Nat} {w0 w w1:World} {mb:Nat} {fs:List (Int×BF)} {nx:Int} {o:Own} {m:ManD} {V:Nat->BF}
def NewF (K:Law) (n room:Nat) (w0:World) (mb:Nat) (fs:List (Int×BF)) (nx:Int) (ws0:List Ev) (F:BF) (o:Own) (w:World) (x:Ending) (w':World):Prop :=
 x=.returned (.tuple #[.int .i64 nx,.int .i64 0])/\∃ o' m' V',ChgX NoB o o' w w'/\m'.waits <:+ ws0/\SatE K n (fun _=>True) room w0 mb (fs++[(nx,F)]) (nx+1) w' o' m' V'
theorem Zzy {C:Nat->Prop} {B:World->Prop} {gop:Nat} {lop:Array Value} {F:BF} (hK:Zci K) (eg:∀ args w,(callFunc gop args).run Tryz.prog w=.ok (.enter gop args) w) (ws0:List Ev)
 (hB:∀ W W',B W->(∀ c,C c->W'.heap[c]?=W.heap[c]?)->B W')
 (hop:∀ (o:Own) (W:World) (m:ManD) (V:Nat->BF) (xb:Nat),SatE K n (fun _=>True) room w0 mb fs nx W o m V->B W->(∀ k,C k->k<W.heap.size/\o k=none)->Zcy o W xb mb->¬ C xb->Calls Tryz.prog gop (#[.pointer (some ⟨xb,0,none⟩)]++lop) W (Zb4 K k o W mb m V fun _ V' r=>ef V' r=F))
 (h:SatE K n (fun _=>True) room w0 mb fs nx w o m V) (hb1:Below w.heap.size w w1) (hC:∀ c,C c->c<w1.heap.size/\(w.heap.size<=c\/(w0.heap.size<=c/\o c=none/\∀ W,B W->W.heap[c]?=w.heap[c]?))) (hb:B w1) (hst:m.waits <:+ ws0) (hn:nx<=549755813888) (hr:fs.length*2^n+k<=room) :
 Calls Tryz.prog 75 #[.pointer (some ⟨mb,0,none⟩),.func (.func gop) #[] lop] w1 (NewF K n room w0 mb fs nx ws0 F o w):=by
 have hw0:=h.chg.size;have hnone:∀ c,C c->o c=none:=fun c hc=>by
  rcases(hC c hc).2 with h1|⟨_,h1,_⟩
  ·
   exact h.lt.none h1
  ·
   exact h1
 refine(Zsd hK hB (fun _ _ _ _ _ h _=>h) StL.coll (fun c hc=>by
  rcases(hC c hc).2 with h1|⟨h1,_,_⟩
  ·
   exact Nat.le_trans hw0 h1
  ·
   exact h1) eg (Ycf (k:=k) (F:=F) ws0 none (fun _ e=>by cases e) (fun ev _=>Zhf hn ev) hB hop) (h.below hb1) hb (fun c hc=>⟨(hC c hc).1,hnone c hc⟩) ⟨hst,fun _ e=>by cases e⟩ (by omega)).mono ?_
 rintro x w' ⟨o',m',V',hB',hc,⟨r,m1,rfl,hs,⟨q1,q2,_⟩,_,_,_,_,_,q3,_⟩|⟨er,m0,_,_,hsf,⟨_,e7,⟨W',oo,VV,hs'⟩,h5,h6,_⟩,h7⟩⟩
 ·
  refine⟨rfl,o',m',V',⟨hc.os.trans hb1.os,hc.tape.trans hb1.tape,hc.output.trans hb1.output,Nat.le_trans hb1.size hc.size,fun j hj ho _=>?_,hc.ext,fun j hj=>Nat.le_trans hb1.size (hc.new j hj)⟩,by rw[q3];exact q2,by rw[<- q1];exact hs⟩
  by_cases hcj:C j
  ·
   rcases(hC j hcj).2 with h1|⟨_,_,h1⟩
   ·
    omega
   ·
    exact h1 w' hB'
  ·
   exact(hc.block j (Nat.lt_of_lt_of_le hj hb1.size) ho hcj).trans (hb1.block j hj)
 ·
  exfalso;have h8:=hs'.few (h7 e7);have h9:=hsf.room;omega
end
open Go.RowKit
theorem Ztj (args:Array Value) (w:World):(callFunc 91 args).run Tryz.prog w=.ok (.enter 91 args) w:=enters_of Tryz.func91 (by kernel_rfl) rfl args w
theorem boxes3v (w:World) (x y z:Value) (s t u:TypeId):∃ w3,w3=((w.alloc (.cells #[x] s)).alloc (.cells #[y] t)).alloc (.cells #[z] u)/\Below w.heap.size w w3/\w3.heap.size=w.heap.size+3/\w3.cell? ⟨w.heap.size,0,none⟩=some x/\w3.cell? ⟨w.heap.size+1,0,none⟩=some y/\w3.cell? ⟨w.heap.size+1+1,0,none⟩=some z:=by
 refine⟨_,rfl,((Zad _ _).alloc (by simp) _).alloc (by simp;omega) _,by simp,?_,?_,?_⟩
 ·
  exact cell1 ((Go.heap_alloc_old _ _ (by simp;omega)).trans ((Go.heap_alloc_old _ _ (by simp)).trans (heap_alloc_new _ _)))
 ·
  have:=heap_alloc_new (w.alloc (.cells #[x] s)) (.cells #[y] t);rw[World.size_alloc] at this;exact cell1 ((Go.heap_alloc_old _ _ (by simp)).trans this)
 ·
  have:=heap_alloc_new ((w.alloc (.cells #[x] s)).alloc (.cells #[y] t)) (.cells #[z] u);rw[World.size_alloc,World.size_alloc] at this;exact cell1 this
def Zin (e0:Nat):BF:=fun _=>decide (e0=0)
theorem Zo5 {d:Zae} {V:Nat->BF} (hk:Zam d V) {e0:Nat} (h:e0/2=0):ef V e0=Zin e0:=by
 rcases(show e0=0\/e0=1 by omega) with rfl|rfl
 ·
  rw[hk.dag.ef0];rfl
 ·
  rw[hk.dag.ef1];rfl
section
variable {K:Law} {n:Nat} {room:Nat} {w0 w:World} {mb:Nat} {fs:List (Int×BF)} {nx:Int} {o:Own} {m:ManD} {V:Nat->BF} {ws0:List Ev}
theorem Zyc (hK:Zci K) {g:Nat} {G:BF->BF->BF} (hG:Zxw K n g G) (eg:∀ args w,(callFunc g args).run Tryz.prog w=.ok (.enter g args) w) (h:SatE K n (fun _=>True) room w0 mb fs nx w o m V) {e0 c:Nat} {a:Option Addr} {ks:List Int} {Fs:List BF} (he0:e0/2=0) (hz:Zax w a ks) (ha:∀ x,a=some x->x.block<w.heap.size/\w0.heap.size<=x.block/\o x.block=none) (hlen:Fs.length=ks.length) (hks:∀ i (h:i<ks.length),(ks[i],Fs[i]'(by omega))∈fs) (hst:m.waits <:+ ws0) (hn:nx<=549755813888) (hr:fs.length*2^n+ks.length*(2^n-1)<=room) :
 Calls Tryz.prog 90 #[.pointer (some ⟨mb,0,none⟩),.int .i64 e0,.func (.func g) #[] #[],.slice a ks.length c] w (NewF K n room w0 mb fs nx ws0 (Zir G (Zin e0) Fs) o w):=by
 have hmf:∀ (fn:Fn) (first cap:Array Value) (w:World),(Instr.makeFunc fn first cap).run Tryz.prog w=.ok (.func fn first cap) w:=fun _ _ _ _=>rfl
 obtain⟨w3,hw3,hb3,hz3,c0,c1,c2⟩:=boxes3v w (.int .i64 e0) (.func (.func g) #[] #[]) (.slice a ks.length c) 116 189 22;have HW3:Hid (_=w3):=Hd hw3.symm
 have HDO:=Hd (Zzy (C:=fun k=>k=w.heap.size\/k=w.heap.size+1+1\/k=w.heap.size+1\/∃ x,a=some x/\k=x.block) (B:=fun W=>BoF w.heap.size (w.heap.size+1+1) (w.heap.size+1) e0 a c ks g W/\∀ x,a=some x->W.heap[x.block]?=w.heap[x.block]?) (F:=Zir G (Zin e0) Fs) (k:=ks.length*(2^n-1)) (lop:=#[.pointer (some ⟨w.heap.size,0,none⟩),.pointer (some ⟨w.heap.size+1+1,0,none⟩),.pointer (some ⟨w.heap.size+1,0,none⟩)]) hK Zo8 ws0
  (fun W W' hB hk=>⟨⟨(World.cell?_of_block (w:=W) (a:=⟨w.heap.size,0,none⟩) (hk _ (.inl rfl))).trans hB.1.e,(World.cell?_of_block (w:=W) (a:=⟨w.heap.size+1+1,0,none⟩) (hk _ (.inr (.inl rfl)))).trans hB.1.l,(World.cell?_of_block (w:=W) (a:=⟨w.heap.size+1,0,none⟩) (hk _ (.inr (.inr (.inl rfl))))).trans hB.1.f,⟨hB.1.z.len,fun i hi=>by
   obtain⟨b,off,e,hc⟩:=hB.1.z.cells i hi;exact⟨b,off,e,(World.cell?_of_block (w:=W) (a:=⟨b,off+i,none⟩) (hk _ (.inr (.inr (.inr ⟨_,e,rfl⟩))))).trans hc⟩⟩⟩,fun x hx=>(hk _ (.inr (.inr (.inr ⟨x,hx,rfl⟩)))).trans (hB.2 x hx)⟩)
  (fun o W m V xb hs hB hC hx _=>by
   have:=Ya3 hG eg he0 hlen hks hs hB.1 (fun k hk=>(hC k hk).2) hx;rw[Zo5 hs.ok.store he0] at this;exact this) h hb3 (by
   rintro k (rfl|rfl|rfl|⟨x,hx,rfl⟩)
   ·
    exact⟨by omega,.inl (by omega)⟩
   ·
    exact⟨by omega,.inl (by omega)⟩
   ·
    exact⟨by omega,.inl (by omega)⟩
   ·
    have:=ha x hx;exact⟨by omega,.inr ⟨this.2.1,this.2.2,fun W hW=>hW.2 x hx⟩⟩) ⟨⟨c0,c2,c1,hz.below hb3⟩,fun x hx=>hb3.block _ (ha x hx).1⟩ hst hn hr)
 clear hw3 hb3 hz3 c0 c1 c2 h hK hG hst hn hr hz ha hks;obtain⟨P,hP⟩:∃ P,P=NewF K n room w0 mb fs nx ws0 (Zir G (Zin e0) Fs) o w:=⟨_,rfl⟩;rw[<- hP] at HDO ⊢;have HT:Hid (∀ x w',P x w'->∃ a b,x=.returned (.tuple #[.int .i64 a,.int .i64 b])):=Hd (by subst hP;rintro x w' ⟨rfl,_⟩;exact⟨_,_,rfl⟩);clear hP
 go_enter Tryz.func90,Tryz.ntmps90
 go_upto_region 1 with fail;rw[HW3.out];go_wp2_with fail;refine HDO.out.mono ?_;intro x w' hd;obtain⟨a,b,rfl⟩:=HT.out x w' hd;have HD:=Hd hd;clear hd;go_wp2_with fail;exact HD.out
end
open Go.RowKit
theorem Chg.none' {R:Role->Prop} {o o':Own} {w w':World} (h:Chg R o o' w w') {k:Nat} (hk:k<w.heap.size) (ho:o k=none):o' k=none:=(ChgX.of_chg h NoB).none' hk ho
section
variable {K:Law} {k k1 k2:Nat} {w W w':World} {mb:Nat} {o o':Own} {m m':ManD} {V V':Nat->BF} {T:Nat->Prop}
theorem Zb4.base {A:Zae->(Nat->BF)->Nat->Prop} {e:Ending} (h:AtC K k1 o w mb m V o' W m' V') (hk:k1+k2<=k) (hc:Zb4 K k2 o' W mb m' V' A e w'):Zb4 K k o w mb m V A e w':=by
 rcases hc with ⟨r,o2,m2,V2,rfl,q1,q2,q3⟩|⟨er,evt,ev,rfl,q⟩
 ·
  exact .inl ⟨r,o2,m2,V2,rfl,(h.trans q1).mono hk,q2,q3⟩
 ·
  exact .inr ⟨er,evt,ev,rfl,q.after h hk⟩
theorem Zb4.kind {A:Zae->(Nat->BF)->Nat->Prop} {e:Ending} (hc:Zb4 K k o w mb m V A e w'):(∃ r:Nat,e=.returned (.int .i64 r))\/∃ er evt ev,e=Zbv er evt ev:=by
 rcases hc with ⟨r,_,_,_,rfl,_⟩|⟨er,evt,ev,rfl,_⟩
 ·
  exact .inl ⟨r,rfl⟩
 ·
  exact .inr ⟨er,evt,ev,rfl⟩
end
open Go.RowKit
section
variable {P:Program} {S:World->Prop} {Q:Exit->Act->World->Prop} {R:List PanicEntry->World->Prop}
def Nx (_:List Nat) (P:Program) (l:List Oper) (Q:Exit->Act->World->Prop) (R:List PanicEntry->World->Prop) (S:World->Prop) (f:Nat) (L:Array Bool) (a:Act) (w:World):Prop:=Znb P l Q R S l.length f L a w
theorem Zf7 (pl:List Nat) {id:Nat} {a:Act} {w:World} {l:List Oper} (S:World->Prop) (R:List PanicEntry->World->Prop) (hR:∀ c (a:Act) w,a.defers=[]->R c w->Q (.panic c) a w) (hm:P.follows .mixedOrders=true) (hS:S w.drew)
 (h:Nx pl P l Q R S l.length (Array.replicate l.toArray.size false) a w.drew):(Code.region id l.toArray true).wp P Q a w:=Zd5 S R l.length hR hm hS h
theorem Zed {i:Nat} {pl:List Nat} {l:List Oper} {f:Nat} {L:Array Bool} {a:Act} {w:World} {o:Oper} (hi:l[i]?=some o) (hg:o.guard=none)
 (hB:(Region.noSelect l.toArray&&(Region.ready .any l.toArray L).contains i&&Region.free .any l.toArray L i)=true)
 (h:∃ v,(∀ w,S w->(execOp a.eval o).run P w=.ok (.value v) w)/\Nx pl P l Q R S f (L.setIfInBounds i true) (a.put o.dst v) w):Nx (i::pl) P l Q R S (f+1) L a w :=
 Za3 _ hi hg (by rw[hB];simp) h
theorem Zic {i:Nat} {pl:List Nat} {l:List Oper} {f:Nat} {L:Array Bool} {a:Act} {w:World} {o:Oper} {g:FuncId} {args:Array Value} {R1:Value->World->Prop} (hi:l[i]?=some o) (hr:decide (Region.ready .any l.toArray L=[i])=true)
 (hg:Region.wanted o (yielded l.toArray a.tmps)=true) (hd:a.defers=[]) (he:(execOp a.eval o).run P w=.ok (.enter g args) w)
 (hc:Calls P g args w fun e w'=>(∃ v,e=.returned v/\S w'/\R1 v w')\/(∃ ch,e=.panicked ch/\R ch w'))
 (h:∀ v w',S w'->R1 v w'->Nx pl P l Q R S f (L.setIfInBounds i true) (a.put o.dst v) w'):Nx (i::pl) P l Q R S (f+1) L a w:=by
 refine Zdc [i] (by rw[Bool.and_eq_true];exact⟨hr,rfl⟩) fun j hi2 hS o2 ho2=>?_
 rw[List.mem_singleton] at hi2;subst hi2;rw[hi] at ho2;cases ho2;refine⟨hg,?_⟩;refine Zhh (R:=fun v w'=>S w'/\R1 v w') (R2:=R) he (hc.mono ?_) (fun v w' hh=>⟨hh.1,h v w' hh.1 hh.2⟩) (fun ch w' hh=>⟨hd,hh⟩);rintro e w' (⟨v,h1,h2⟩|hh)
 ·
  exact .inl ⟨v,h1,h2⟩
 ·
  exact .inr hh
theorem Zfh {i:Nat} {pl:List Nat} {l:List Oper} {f:Nat} {L:Array Bool} {a:Act} {w:World} {o:Oper} {g:FuncId} {args:Array Value} {R1:Value->World->Prop} (hi:l[i]?=some o) (hr:decide (Region.ready .any l.toArray L=[i])=true)
 (hg:Region.wanted o (yielded l.toArray a.tmps)=true) (hd:a.defers=[]) (he:(execOp a.eval o).run P w=.ok (.enter g args) w)
 (hc:Calls P g args w fun e w'=>∃ v,e=.returned v/\R1 v w') (hS:∀ v w',R1 v w'->S w')
 (h:∀ v w',S w'->R1 v w'->Nx pl P l Q R S f (L.setIfInBounds i true) (a.put o.dst v) w'):Nx (i::pl) P l Q R S (f+1) L a w :=
 Zic hi hr hg hd he (hc.mono fun e w' ⟨v,h1,h2⟩=>.inl ⟨v,h1,hS v w' h2,h2⟩) h
theorem Zlk {l:List Oper} {L:Array Bool} {a:Act} {w:World} (hr:(Region.ready .any l.toArray L).isEmpty=true) (h:Q .normal a w):Nx [] P l Q R S 0 L a w:=Zis hr h
end
open Go.RowKit
def Zif (Sp:List Nat->Int->BF->BF->BF->BF->Prop):Law:=fun d V op a b c r =>
 if op=1 then IteP d V a b c r else okE (Zab d) a/\okE (Zab d) b/\okE (Zab d) c/\okE (Zab d) r/\Sp d.vars op (ef V a) (ef V b) (ef V c) (ef V r)
theorem Zuj (Sp:List Nat->Int->BF->BF->BF->BF->Prop):Zci (Zif Sp):=by
 refine⟨fun d V a b c r=>?_,fun d V d' V' op a b c r k1 k2 x h=>?_,fun d d' V op a b c r h1 h2 h3 h=>?_⟩
 ·
  unfold Zif;rw[if_pos rfl]
 ·
  unfold Zif at h ⊢
  by_cases e:op=1
  ·
   rw[if_pos e] at h ⊢;exact(Zfs.ite ..).1 (Zfs.ext d V d' V' 1 a b c r k1 k2 x ((Zfs.ite ..).2 h))
  ·
   rw[if_neg e] at h ⊢;obtain⟨q1,q2,q3,q4,q5⟩:=h;refine⟨x.ok q1,x.ok q2,x.ok q3,x.ok q4,?_⟩;rw[x.vars,x.ef q1,x.ef q2,x.ef q3,x.ef q4];exact q5
 ·
  unfold Zif at h ⊢
  by_cases e:op=1
  ·
   rw[if_pos e] at h ⊢;exact(Zfs.ite ..).1 (Zfs.same d d' V 1 a b c r h1 h2 h3 ((Zfs.ite ..).2 h))
  ·
   rw[if_neg e] at h ⊢;rw[h1,h3];exact h
theorem Zls {Sp:List Nat->Int->BF->BF->BF->BF->Prop} {d:Zae} {V:Nat->BF} {op:Int} {a b c r:Nat} (h:op≠1):Zif Sp d V op a b c r↔okE (Zab d) a/\okE (Zab d) b/\okE (Zab d) c/\okE (Zab d) r/\Sp d.vars op (ef V a) (ef V b) (ef V c) (ef V r):=by
 unfold Zif;rw[if_neg h]
section
variable {K:Law} {k:Nat} {w:World} {mb:Nat} {o:Own} {m:ManD} {V:Nat->BF} {xb:Nat}
theorem Zvi (h:Zcu (K m.d V) o w mb m) (hlt:Zaj o w) (hx:Zcy o w xb mb) (hk:Zam m.d V) {gf:Nat} {lf:Array Value} (eg:∀ args w,(callFunc gf args).run Tryz.prog w=.ok (.enter gf args) w) (op:Int) (a b c:Nat) {A:Zae->(Nat->BF)->Nat->Prop}
 (hA:∀ r,K m.d V op a b c r->okE (Zab m.d) r/\A m.d V r) (hput:∀ d' V' r,Zam d' V'->Ext m.d V d' V'->okE (Zab d') r->A d' V' r->K d' V' op a b c r)
 (hf:∀ w1,Chg (fun _=>True) o o w w1->Zcu (K m.d V) o w1 mb m->Zaj o w1->Calls Tryz.prog gf lf w1 (Zb4 K k o w1 mb m V A)) :
 Calls Tryz.prog 156 #[.pointer (some ⟨xb,0,none⟩),.int .i64 op,.int .i64 a,.int .i64 b,.int .i64 c,.func (.func gf) #[] lf] w (Zb4 K k o w mb m V A):=by
 obtain⟨s,hms⟩:=h;obtain⟨c0,c1,c2,c3,c4,c5,f0⟩:=cells6 hms.blk;have cx:=hx.cell;have HX:=Hd hx;have HGET:=Hd (Zvu o s.me (K m.d V) op a b c w hms.memo hlt);have HMS:=Hd hms;have HOL:=Hd hlt;have HK:=Hd hk;have HA:=Hd hA;have HP:=Hd hput;have HF:=Hd hf;clear hms hlt hx hk hA hput hf
 go_enter Tryz.func156,Tryz.ntmps156
 go_wp2_with fail;refine HGET.out.mono ?_;rintro x w1 ⟨hgs,hme,hc1,hl1⟩;have hm1:Zcu (K m.d V) o w1 mb m:=⟨s,HMS.out.setMemo HOL.out hme (hc1.mono fun r e=>.inl e)⟩;have HAT1:Hid (AtC K 0 o w mb m V o w1 m V):=Hd ⟨⟨hm1,hl1,hc1.any,HK.out,Ext.refl _ _,rfl,rfl⟩,rfl,Nat.le_refl _⟩;rcases hgs with rfl|⟨r,rfl,hkr⟩
 ·
  have HFC:=Hd (HF.out w1 hc1.any hm1 hl1);clear hm1 hme hc1 hl1 c0 c1 c2 c3 c4 c5 f0 cx;go_wp2_with fail;refine HFC.out.mono ?_;rintro e w2 (⟨r,o2,m2,V2,rfl,at2,hok,hA2⟩|⟨er,evt,ev,rfl,hs⟩)
  ·
   have hat:=HAT1.out.trans at2;obtain⟨s2,hm2⟩:=hat.st.is;obtain⟨c0,c1,c2,c3,c4,c5,f0⟩:=cells6 hm2.blk;have cx:=(HX.out.chg hat.st.chg).cell;have HPUT:=Hd (Zss o2 s2.me (K m2.d V2) op a b c r w2 hm2.memo hat.st.lt (HP.out _ _ r hat.st.ok hat.st.ext hok hA2));have HM2:=Hd hm2;have HAT2:=Hd hat;have HOK:=Hd hok;have HA2:=Hd hA2;clear hat hm2 at2 hok hA2 HFC;go_wp2_with fail;refine HPUT.out.mono ?_;rintro x w3 ⟨rfl,o3,hme,hc3,hl3⟩;have HR:Hid (AtC K k o w mb m V o3 w3 m2 V2):=Hd ⟨⟨⟨s2,HM2.out.setMemo HAT2.out.st.lt hme hc3⟩,hl3,HAT2.out.st.chg.trans hc3.any,HAT2.out.st.ok,HAT2.out.st.ext,HAT2.out.st.hs,HAT2.out.st.next⟩,HAT2.out.waits,by have:=HAT2.out.many;omega⟩;clear hme hc3 hl3 c0 c1 c2 c3 c4 c5 f0 cx;go_wp2_with fail;go_ret;exact .inl ⟨r,o3,m2,V2,rfl,HR.out,HOK.out,HA2.out⟩
  ·
   have HS:=Hd (hs.after HAT1.out (k:=k) (by omega));clear hs HFC;unfold Zbv;go_wp2_with fail;exact⟨rfl,.inr ⟨er,evt,ev,rfl,HS.out⟩⟩
 ·
  have hr:=HA.out r hkr;have HR:Hid (AtC K k o w mb m V o w1 m V):=Hd (HAT1.out.mono (Nat.zero_le _));have HOK:=Hd hr;clear hkr hr hme hc1 hl1 hm1 c0 c1 c2 c3 c4 c5 f0 cx;go_wp2_with fail;go_ret;exact .inl ⟨r,o,m,V,rfl,HR.out,HOK.out.1,HOK.out.2⟩
end
open Go.RowKit
structure Ztc (Rel:List Nat->BF->BF->BF->Prop) (Yes:BF->BF->Prop):Prop where
 tru:∀ ord F C,(∀ ρ,C ρ=true)->Rel ord F C F
 const:∀ ord F C,(∀ ρ ρ',F ρ=F ρ')->Rel ord F C F
 one:∀ (b:Bool) (v:Nat) (pre post:List Nat) F C R,(∀ u∈pre,Ind F u/\Ind C u)->SatF C->¬ SatF (cofF C v (!b))->Rel (pre++v::post) (cofF F v b) (cofF C v b) R->Rel (pre++v::post) F C R
 both:∀ (v:Nat) (pre post:List Nat) F C R0 R1,(∀ u∈pre,Ind F u/\Ind C u)->SatF (cofF C v false)->SatF (cofF C v true)->¬ Yes (cofF F v false) (cofF F v true)->Rel (pre++v::post) (cofF F v false) (cofF C v false) R0->Rel (pre++v::post) (cofF F v true) (cofF C v true) R1->Rel (pre++v::post) F C (iteF v R1 R0)
 next:∀ ord (v:Nat) F C N R,Yes (cofF F v false) (cofF F v true)->(∀ ρ,N ρ=(cofF C v false ρ||cofF C v true ρ))->Rel ord (cofF F v false) N R->Rel ord F C R
 ind:∀ ord F C R u,Ind F u->Ind C u->Rel ord F C R->Ind R u
def RelC (ord:List Nat) (F C R:BF):Prop:=R=constrF ord F C
theorem Zh7 {pre post:List Nat} {v:Nat} {F C:BF} (h:∀ u∈pre,Ind F u/\Ind C u) (b:Bool):constrF (pre++v::post) (cofF F v b) (cofF C v b)=constrF post (cofF F v b) (cofF C v b):=by
 rw[Zhb pre fun u hu=>⟨(h u hu).1.cof v b,(h u hu).2.cof v b⟩,Zk2 (Zns F v b) (Zns C v b)]
theorem Zw5:Ztc RelC fun _ _=>False:=by
 refine⟨fun ord F C h=>(Zq3 h).symm,fun ord F C h=>(Zoz h).symm,fun b v pre post F C R hp hs hn h=>?_,fun v pre post F C R0 R1 hp h0 h1 _ e0 e1=>?_,fun _ _ _ _ _ _ h=>h.elim,fun ord F C R u hF hC h=>by rw[show R=_ from h];exact Zha ord hF hC⟩
 ·
  rw[show R=_ from h,Zh7 hp]
  show _=constrF (pre++v::post) F C
  rw[Zhb pre hp,Zml b hs hn]
 ·
  rw[show R0=_ from e0,show R1=_ from e1,Zh7 hp,Zh7 hp]
  show _=constrF (pre++v::post) F C
  rw[Zhb pre hp,Zq1 h0 h1]
def RelR (_:List Nat) (F C R:BF):Prop:=Zhs F C R
theorem Ybm:Ztc RelR fun F0 F1=>F0=F1:=by
 refine⟨fun ord F C _=>Zm4 F C,fun ord F C _=>Zm4 F C,fun b v pre post F C R _ _ hn h=>Zw6 b hn h,fun v pre post F C R0 R1 _ _ _ hne e0 e1=>Zuc hne e0 e1,fun ord v F C N R he hN h=>Zud he hN h,fun ord F C R u hF _ h=>h.2 u hF⟩
structure ConC where
 bx:Nat
 bo:Nat
 bd:Nat
 ba:Nat
 xb:Nat
 op:Int
 g:Nat
 lw:Array Value
def ConC.caps (c:ConC):Array Value:=#[.pointer (some ⟨c.bx,0,none⟩),.pointer (some ⟨c.bo,0,none⟩),.pointer (some ⟨c.bd,0,none⟩),.pointer (some ⟨c.ba,0,none⟩)]
structure ConS (K:Law) (n:Nat) (Bw:World->Prop) (T:Nat->Prop) (c:ConC) (mb:Nat) (o:Own) (W:World) (m:ManD) (V:Nat->BF):Prop where
 is:Zcu (K m.d V) o W mb m
 lt:Zaj o W
 ok:Zam m.d V
 vars:m.d.vars.length=n
 ctx:Zcy o W c.xb mb
 bw:Bw W
 x:W.cell? ⟨c.bx,0,none⟩=some (.pointer (some ⟨c.xb,0,none⟩))
 p:W.cell? ⟨c.bo,0,none⟩=some (.int .i64 c.op)
 d:W.cell? ⟨c.bd,0,none⟩=some (.func (.func 154) #[] c.caps)
 a:W.cell? ⟨c.ba,0,none⟩=some (.func (.func c.g) #[] c.lw)
 no:∀ q,(q=c.bx\/q=c.bo\/q=c.bd\/q=c.ba\/T q)->o q=none
 t:∀ q,T q->q<W.heap.size
section
variable {K:Law} {n:Nat} {Bw:World->Prop} {T:Nat->Prop} {c:ConC} {o o':Own} {W W':World} {mb:Nat} {m m':ManD} {V V':Nat->BF} {k:Nat}
theorem ConS.step (h:ConS K n Bw T c mb o W m V) (hB:∀ W W',Bw W->(∀ q,T q->W'.heap[q]?=W.heap[q]?)->Bw W') (s:AtC K k o W mb m V o' W' m' V'):ConS K n Bw T c mb o' W' m' V':=by
 have hno:∀ q,(q=c.bx\/q=c.bo\/q=c.bd\/q=c.ba\/T q)->q<W.heap.size:=by
  rintro q (rfl|rfl|rfl|rfl|hq)
  ·
   exact Zaa h.x
  ·
   exact Zaa h.p
  ·
   exact Zaa h.d
  ·
   exact Zaa h.a
  ·
   exact h.t q hq
 exact⟨s.st.is,s.st.lt,s.st.ok,s.vars h.vars,h.ctx.chg s.st.chg,hB _ _ h.bw (fun q hq=>s.st.chg.alien (h.t q hq) (h.no q (.inr (.inr (.inr (.inr hq)))))),s.st.chg.cell h.x (h.no _ (.inl rfl)),s.st.chg.cell h.p (h.no _ (.inr (.inl rfl))),s.st.chg.cell h.d (h.no _ (.inr (.inr (.inl rfl)))),s.st.chg.cell h.a (h.no _ (.inr (.inr (.inr (.inl rfl))))),
  fun q hq=>s.st.chg.none' (hno q hq) (h.no q hq),fun q hq=>Nat.lt_of_lt_of_le (h.t q hq) s.st.chg.size⟩
theorem ConS.below (h:ConS K n Bw T c mb o W m V) (hB:∀ W W',Bw W->(∀ q,T q->W'.heap[q]?=W.heap[q]?)->Bw W') (hb:Below W.heap.size W W'):ConS K n Bw T c mb o W' m V :=
 h.step (k:=0) hB ((AtC.refl h.is h.lt h.ok).below hb)
end
def AtOK (K:Law) (n:Nat) (Yes:BF->BF->Prop) (xb mb:Nat) (Bw:World->Prop) (T:Nat->Prop) (g:Nat) (lw:Array Value):Prop :=
 ∀ (o:Own) (W:World) (m:ManD) (V:Nat->BF) (v f0 f1 c0 c1:Nat),Zcu (K m.d V) o W mb m->Zaj o W->Zcy o W xb mb->Zam m.d V->m.d.vars.length=n->Bw W->(∀ q,T q->q<W.heap.size/\o q=none)->okE (Zab m.d) f0->okE (Zab m.d) f1->okE (Zab m.d) c0->okE (Zab m.d) c1 ->
  Calls Tryz.prog g (#[.int .i64 v,.int .i64 f0,.int .i64 f1,.int .i64 c0,.int .i64 c1]++lw) W fun e w' =>
   (∃ (r:Nat) (ok:Bool) (o':Own) (m':ManD) (V':Nat->BF),e=.returned (.tuple #[.int .i64 r,.bool ok])/\AtC K (2^n-1) o W mb m V o' w' m' V'/\(ok=true->Yes (ef V f0) (ef V f1)/\okE (Zab m'.d) r/\∀ ρ,ef V' r ρ=(ef V c0 ρ||ef V c1 ρ))/\(ok=false->¬ Yes (ef V f0) (ef V f1))) \/
   (∃ er evt ev,e=Zbv er evt ev/\Zna K (2^n-1) o W mb m V er evt ev w')
def Zut (K:Law) (op:Int) (Rel:List Nat->BF->BF->BF->Prop):Prop :=
 ∀ d V a b r,K d V op a b 0 r↔okE (Zab d) a/\okE (Zab d) b/\okE (Zab d) r/\(SatF (ef V b)->Rel d.vars (ef V a) (ef V b) (ef V r))
def Zxt (K:Law) (n:Nat) (Rel:List Nat->BF->BF->BF->Prop) (Bw:World->Prop) (T:Nat->Prop) (c:ConC) (mb:Nat) (J:Nat):Prop :=
 ∀ (o:Own) (W:World) (m:ManD) (V:Nat->BF) (f e:Nat),ConS K n Bw T c mb o W m V->okE (Zab m.d) f->okE (Zab m.d) e->SatF (ef V e)->n<=lvE n (levN m.d) (Zab m.d) f+J->n<=lvE n (levN m.d) (Zab m.d) e+J ->
  Calls Tryz.prog 154 (#[.int .i64 f,.int .i64 e]++c.caps) W (Zb4 K ((2^J-1)*2^n) o W mb m V fun d V' r=>Rel d.vars (ef V f) (ef V e) (ef V' r))
theorem Zx0 (J n:Nat):(2^J-1)*2^n+(2^J-1)*2^n+(1+(2^n-1))=(2^(J+1)-1)*2^n:=by
 have h1:0<2^J:=Nat.pow_pos (by omega);have h2:0<2^n:=Nat.pow_pos (by omega);have h3:2^(J+1)-1=(2^J-1)+(2^J-1)+1:=by rw[Nat.pow_succ];omega
 rw[h3,Nat.add_mul,Nat.add_mul,Nat.one_mul];omega
open Go.RowKit
theorem Zgo (args:Array Value) (w:World):(callFunc 154 args).run Tryz.prog w=.ok (.enter 154 args) w:=enters_of Tryz.func154 (by kernel_rfl) rfl args w
theorem Zj5 (args:Array Value) (w:World):(callFunc 157 args).run Tryz.prog w=.ok (.enter 157 args) w:=enters_of Tryz.func157 (by kernel_rfl) rfl args w
theorem Zws {d:Zae} {V:Nat->BF} (h:Zam d V) {v:Nat} (hv:v<d.vars.length):∃ pre post,d.vars=pre++v::post/\∀ u∈pre,u<d.vars.length/\levN d u<levN d v:=by
 have hl:=h.dag.lt v hv;refine⟨d.vars.take (levN d v),d.vars.drop (levN d v+1),?_,fun u hu=>?_⟩
 ·
  have e:=h.inv v hv;have e2:d.vars[levN d v]'hl=v:=by simpa [List.getD,hl] using e
  conv=>lhs;rw[<- List.take_append_drop (levN d v) d.vars,List.drop_eq_getElem_cons hl,e2]
 ·
  obtain⟨i,hi,e⟩:=List.mem_iff_getElem.1 hu;have hi2:i<levN d v:=by simp at hi;omega
  rw[List.getElem_take] at e;obtain⟨h1,h2⟩:=h.vlt i (by omega);have e3:d.vars.getD i 0=u:=by simp[List.getD,show i<d.vars.length by omega,e]
  rw[e3] at h1 h2;exact⟨h1,by omega⟩
theorem Zb4.good {K:Law} {k:Nat} {w w':World} {mb:Nat} {o:Own} {m:ManD} {V:Nat->BF} {A A':Zae->(Nat->BF)->Nat->Prop} {x:Ending} (hc:Zb4 K k o w mb m V A x w') (hA:∀ d V' r,d.vars=m.d.vars->A d V' r->A' d V' r):Zb4 K k o w mb m V A' x w':=by
 rcases hc with ⟨r,o2,m2,V2,rfl,q1,q2,q3⟩|⟨er,evt,ev,rfl,q⟩
 ·
  exact .inl ⟨r,o2,m2,V2,rfl,q1,q2,hA _ _ _ q1.st.ext.vars q3⟩
 ·
  exact .inr ⟨er,evt,ev,rfl,q⟩
section
variable {K:Law} {n:Nat} {Rel:List Nat->BF->BF->BF->Prop} {Yes:BF->BF->Prop} {Bw:World->Prop} {T:Nat->Prop} {c:ConC} {o o':Own} {W W':World} {mb:Nat} {m m':ManD} {V V':Nat->BF} {J:Nat}
theorem Yby (hK:Zci K) (hR:Ztc Rel Yes) (hB:∀ W W',Bw W->(∀ q,T q->W'.heap[q]?=W.heap[q]?)->Bw W') (hat:AtOK K n Yes c.xb mb Bw T c.g c.lw) (eg:∀ args w,(callFunc c.g args).run Tryz.prog w=.ok (.enter c.g args) w) (IH:Zxt K n Rel Bw T c mb J)
 (hs:ConS K n Bw T c mb o W m V) {f e bf be:Nat} (hf:okE (Zab m.d) f) (he:okE (Zab m.d) e) (hsat:SatF (ef V e)) (hnc:f/2≠0) (hlf:n<=lvE n (levN m.d) (Zab m.d) f+(J+1)) (hle:n<=lvE n (levN m.d) (Zab m.d) e+(J+1)) (cf:W.cell? ⟨bf,0,none⟩=some (.int .i64 f)) (ce:W.cell? ⟨be,0,none⟩=some (.int .i64 e)) (hof:o bf=none) (hoe:o be=none) :
 Calls Tryz.prog 157 #[.pointer (some ⟨c.bx,0,none⟩),.pointer (some ⟨bf,0,none⟩),.pointer (some ⟨be,0,none⟩),.pointer (some ⟨c.bd,0,none⟩),.pointer (some ⟨c.ba,0,none⟩)] W (Zb4 K ((2^(J+1)-1)*2^n) o W mb m V fun d V' r=>Rel d.vars (ef V f) (ef V e) (ef V' r)):=by
 obtain⟨bx,bo,bd,ba,xb,op,g,lw⟩:=c;obtain⟨N1,hN1⟩:∃ N1,N1=(2^J-1)*2^n:=⟨_,rfl⟩;have hcost:=Zx0 J n;obtain⟨N2,hN2⟩:∃ N2,N2=(2^(J+1)-1)*2^n:=⟨_,rfl⟩;obtain⟨N3,hN3⟩:∃ N3,N3=2^n-1:=⟨_,rfl⟩;rw[<- hN1,<- hN2,<- hN3] at hcost;rw[<- hN2];have hk:=hs.ok;have hvars:=hs.vars;obtain⟨w1,hw1⟩:∃ w1,w1=W.alloc (.cells #[.int .i64 (f:Nat),.int .i64 (e:Nat)] 116):=⟨_,rfl⟩;have HW1:Hid (_=w1):=Hd hw1.symm;have hb1:Below W.heap.size W w1:=by rw[hw1];exact Zad _ _
 have hblk:w1.heap[W.heap.size]?=some (.cells #[.int .i64 (f:Nat),.int .i64 (e:Nat)] 116 (0,0)):=by rw[hw1];exact heap_alloc_new _ _
 have hs1:=hs.below hB hb1
 have HTOP:Hid (Calls Tryz.prog 151 #[.pointer (some ⟨xb,0,none⟩),.slice (some ⟨W.heap.size,0,none⟩) 2 2] w1 fun x w'=>∃ v:Nat,x=.returned (.int .i64 v)/\(v<n/\levN m.d v<=lvE n (levN m.d) (Zab m.d) f/\levN m.d v<=lvE n (levN m.d) (Zab m.d) e/\n<=levN m.d v+(J+1))/\Below w1.heap.size w1 w'):=Hd ((Zmn hs1.is hs1.lt hs1.ctx hs1.ok [f,e] (by intro z hz;simp at hz;rcases hz with rfl|rfl<;>assumption) (some ⟨W.heap.size,0,none⟩) 2 ⟨by simp,fun q hq=>⟨W.heap.size,0,rfl,by
  rcases(show q=0\/q=1 by simp at hq;omega) with rfl|rfl
  ·
   rw[cell_of_row _ _ 0 _ _ _ hblk];rfl
  ·
   rw[cell_of_row _ _ 1 _ _ _ hblk];rfl⟩⟩).mono (by
  rintro x w' ⟨top,least,rfl,ht,hb2⟩;rcases ht with ⟨_,_,h3⟩|⟨v,rfl,_,hv,⟨z,hz,b,hb,hbv⟩,hall⟩
  ·
   exfalso;have h4:=h3 f (by simp);rcases hf with h5|⟨b,h5⟩
   ·
    exact hnc h5
   ·
    rw[h4] at h5;cases h5
  ·
   rw[hvars] at hv hall;refine⟨v,rfl,⟨hv,hall f (by simp),hall e (by simp),?_⟩,hb2⟩;have hz2:lvE n (levN m.d) (Zab m.d) z=levN m.d v:=by unfold lvE;rw[hb,<- hbv]
   simp only[List.mem_cons,List.not_mem_nil,or_false] at hz;rcases hz with rfl|rfl
   ·
    rw[hz2] at hlf;exact hlf
   ·
    rw[hz2] at hle;exact hle))
 obtain⟨P,hP⟩:∃ P:Ending->World->Prop,P=Zb4 K N2 o W mb m V fun d V' r=>Rel d.vars (ef V f) (ef V e) (ef V' r):=⟨_,rfl⟩
 have HPP:=Hd hP;have HBB:=Hd hB;have HS0:=Hd hs;have HAT1:Hid (AtC K 0 o W mb m V o w1 m V):=Hd ((AtC.refl hs.is hs.lt hk).below hb1)
 have HDN:Hid (∀ (k:Nat) (o1:Own) (w':World) (m1:ManD) (V1:Nat->BF) (v f' e':Nat),n<=levN m.d v+(J+1)->AtC K k o W mb m V o1 w' m1 V1->okE (Zab m1.d) f'->okE (Zab m1.d) e'->SatF (ef V1 e')->levN m.d v<lvE n (levN m1.d) (Zab m1.d) f'->levN m.d v<lvE n (levN m1.d) (Zab m1.d) e' ->
  Calls Tryz.prog 154 #[.int .i64 f',.int .i64 e',.pointer (some ⟨bx,0,none⟩),.pointer (some ⟨bo,0,none⟩),.pointer (some ⟨bd,0,none⟩),.pointer (some ⟨ba,0,none⟩)] w' (Zb4 K N1 o1 w' mb m1 V1 fun d V' r=>Rel d.vars (ef V1 f') (ef V1 e') (ef V' r))):=Hd fun k o1 w' m1 V1 v f' e' h0 h1 h2 h3 h4 h5 h6=>by
  rw[hN1];exact IH o1 w' m1 V1 f' e' (hs.step hB h1) h2 h3 h4 (by omega) (by omega)
 have HKK:=Hd hK;have HRR:=Hd hR;have HAA:=Hd hat;have HFE:=Hd (show okE (Zab m.d) f/\okE (Zab m.d) e from ⟨hf,he⟩);have HSAT:=Hd hsat;have HKO:=Hd hk;have HVN:=Hd hvars;have HCOST:=Hd hcost;have HN3:=Hd hN3;have HCE:Hid (∀ {k:Nat} {o':Own} {w':World} {m':ManD} {V':Nat->BF},AtC K k o W mb m V o' w' m' V'->w'.cell? ⟨bf,0,none⟩=some (.int .i64 f)/\w'.cell? ⟨be,0,none⟩=some (.int .i64 e)):=Hd fun h=>⟨h.st.chg.cell cf hof,h.st.chg.cell ce hoe⟩
 obtain⟨cf1,ce1⟩:=HCE.out HAT1.out;have cx:=hs.x;have cx1:=hs1.x;have eg1:=Zgo;rw[<- hP];clear hP hs hs1 hk hK hR hB hat IH hsat hlf hle hcost hN1 hN2 hN3 hw1 hb1 hof hoe hf he hblk hvars hnc
 go_enter Tryz.func157,Tryz.ntmps157
 go_wp2_with fail;rw[HW1.out];refine HTOP.out.mono ?_;rintro y w2 ⟨v,rfl,hvv,hb2⟩;have HV:=Hd hvv;have HAT2:=Hd (HAT1.out.below hb2);have HS2:=Hd (HS0.out.step HBB.out HAT2.out);have cx2:=HS2.out.x;obtain⟨cf2,ce2⟩:=HCE.out HAT2.out;obtain⟨f0,hf0⟩:∃ z,z=(cofs m.d f v).1:=⟨_,rfl⟩;obtain⟨f1,hf1⟩:∃ z,z=(cofs m.d f v).2:=⟨_,rfl⟩;obtain⟨c0,hc0⟩:∃ z,z=(cofs m.d e v).1:=⟨_,rfl⟩;obtain⟨c1,hc1⟩:∃ z,z=(cofs m.d e v).2:=⟨_,rfl⟩
 have HSF:Hid (Calls Tryz.prog 152 #[.pointer (some ⟨xb,0,none⟩),.int .i64 f,.int .i64 v] w2 fun x w'=>x=.returned (.tuple #[.int .i64 f0,.int .i64 f1])/\Below w2.heap.size w2 w'):=Hd ((Zgl HS2.out.is HS2.out.lt HS2.out.ctx HS2.out.ok f HFE.out.1 v).mono (by
  rintro x w' ⟨rfl,h⟩;exact⟨by rw[hf0,hf1],h⟩))
 have HQF:Hid ((okE (Zab m.d) f0/\levN m.d v<lvE n (levN m.d) (Zab m.d) f0/\ef V f0=cofF (ef V f) v false)/\okE (Zab m.d) f1/\levN m.d v<lvE n (levN m.d) (Zab m.d) f1/\ef V f1=cofF (ef V f) v true):=Hd (by
  have hv:=hvv.1;rw[<- HVN.out] at hv;have q:=Zd9 (V:=V) HKO.out HFE.out.1 hv (by rw[HVN.out];exact hvv.2.1);have q2:=Zr8 (V:=V) HKO.out HFE.out.1 hv (by rw[HVN.out];exact hvv.2.1);rw[HVN.out] at q;rw[hf0,hf1];exact⟨⟨q.1,q.2.2.1,q2.1⟩,q.2.1,q.2.2.2.1,q2.2⟩)
 have HQC:Hid ((okE (Zab m.d) c0/\levN m.d v<lvE n (levN m.d) (Zab m.d) c0/\ef V c0=cofF (ef V e) v false)/\okE (Zab m.d) c1/\levN m.d v<lvE n (levN m.d) (Zab m.d) c1/\ef V c1=cofF (ef V e) v true):=Hd (by
  have hv:=hvv.1;rw[<- HVN.out] at hv;have q:=Zd9 (V:=V) HKO.out HFE.out.2 hv (by rw[HVN.out];exact hvv.2.2.1);have q2:=Zr8 (V:=V) HKO.out HFE.out.2 hv (by rw[HVN.out];exact hvv.2.2.1);rw[HVN.out] at q;rw[hc0,hc1];exact⟨⟨q.1,q.2.2.1,q2.1⟩,q.2.1,q.2.2.2.1,q2.2⟩)
 have HZ:Hid (∀ z,okE (Zab m.d) z->(z=1↔¬ SatF (ef V z))):=Hd fun z hz=>by
  have h1:ef V 1=fun _=>false:=HKO.out.dag.ef1
  constructor
  ·
   rintro rfl ⟨ρ,hρ⟩;rw[h1] at hρ;cases hρ
  ·
   intro h;refine HKO.out.dag.canon hz (.inl rfl) ?_;rw[h1];funext ρ;cases hr:ef V z ρ with
   | false=>rfl
   | true=>exact absurd ⟨ρ,hr⟩ h
 obtain⟨pre,post,hord,hpre⟩:=Zws HKO.out (by rw[HVN.out];exact hvv.1);have HORD:=Hd hord;have HPRE:Hid (∀ u∈pre,Ind (ef V f) u/\Ind (ef V e) u):=Hd fun u hu=>by
  obtain⟨h1,h2⟩:=hpre u hu;exact⟨Zfr HKO.out HFE.out.1 (by rw[HVN.out];omega),Zfr HKO.out HFE.out.2 (by rw[HVN.out];omega)⟩
 have HEC:Hid (c0=(cofs m.d e v).1/\c1=(cofs m.d e v).2):=Hd ⟨hc0,hc1⟩;have HPC:Hid (∀ x w',P x w'↔Zb4 K N2 o W mb m V (fun d V' r=>Rel d.vars (ef V f) (ef V e) (ef V' r)) x w'):=Hd fun x w'=>by rw[HPP.out]
 clear hb2 hf0 hf1 hc0 hc1 hord hpre HTOP HW1 cf1 ce1 cx1 cx HAT1 hvv cf ce;go_wp2_with fail;refine HSF.out.mono ?_;rintro y w3 ⟨rfl,hb3⟩;have HAT3:=Hd (HAT2.out.below hb3);have HS3:=Hd (HS0.out.step HBB.out HAT3.out);have cx3:=HS3.out.x;obtain⟨cf3,ce3⟩:=HCE.out HAT3.out
 have HSC:Hid (Calls Tryz.prog 152 #[.pointer (some ⟨xb,0,none⟩),.int .i64 e,.int .i64 v] w3 fun x w'=>x=.returned (.tuple #[.int .i64 c0,.int .i64 c1])/\Below w3.heap.size w3 w'):=Hd ((Zgl HS3.out.is HS3.out.lt HS3.out.ctx HS3.out.ok e HFE.out.2 v).mono (by
  rintro x w' ⟨rfl,h⟩;exact⟨by rw[HEC.out.1,HEC.out.2],h⟩))
 clear hb3 HSF HAT2 HS2 cf2 ce2 cx2;go_wp2_with fail;refine HSC.out.mono ?_;rintro y w4 ⟨rfl,hb4⟩;have HAT4:=Hd (HAT3.out.below hb4);have HS4:=Hd (HS0.out.step HBB.out HAT4.out);have cd4:=HS4.out.d;have ca4:=HS4.out.a;unfold ConC.caps at cd4;clear hb4 HSC HAT3 HS3 cf3 ce3 cx3 HCE
 by_cases hz0:c0=1
 ·
  have hb0:(((c0:Nat):Int) == 1)=true:=by subst hz0;rfl
  have HSC1:Hid (SatF (ef V c1)):=Hd (by
   rw[HQC.out.2.2.2];rcases Zrq HSAT.out v false with h|h
   ·
    rw[<- HQC.out.1.2.2] at h;exact absurd h ((HZ.out c0 HQC.out.1.1).1 hz0)
   ·
    exact h)
  have HR1:Hid (Calls Tryz.prog 154 #[.int .i64 f1,.int .i64 c1,.pointer (some ⟨bx,0,none⟩),.pointer (some ⟨bo,0,none⟩),.pointer (some ⟨bd,0,none⟩),.pointer (some ⟨ba,0,none⟩)] w4 fun x w'=>(∃ r:Nat,x=.returned (.int .i64 r)/\P x w')\/∃ er evt ev,x=Zbv er evt ev/\P x w'):=Hd ((HDN.out 0 o w4 m V v f1 c1 HV.out.2.2.2 HAT4.out HQF.out.2.1 HQC.out.2.1 HSC1.out HQF.out.2.2.1 HQC.out.2.2.1).mono fun x w' hx=>by
   have hx2:P x w':=(HPC.out x w').2 (by
    refine((Zb4.base HAT4.out (show 0+N1<=N2 by have:=HCOST.out;omega) hx).good ?_);intro d V' r x4 h;rw[x4,HORD.out] at h ⊢;rw[HQF.out.2.2.2,HQC.out.2.2.2] at h
    exact HRR.out.one true v pre post _ _ _ HPRE.out HSAT.out (by
     show ¬ SatF (cofF (ef V e) v false)
     rw[<- HQC.out.1.2.2];exact(HZ.out c0 HQC.out.1.1).1 hz0) h)
   rcases hx.kind with ⟨r,rfl⟩|⟨er,evt,ev,rfl⟩
   ·
    exact .inl ⟨r,rfl,hx2⟩
   ·
    exact .inr ⟨er,evt,ev,rfl,hx2⟩)
  clear HDN HQF HQC HAA HKK HZ HPC HPP HRR HORD HPRE HSAT HAT4 HS4 HSC1;go_wp2_with fail;refine HR1.out.mono ?_;rintro x w5 (⟨r,rfl,hp⟩|⟨er,evt,ev,rfl,hp⟩)
  ·
   have HF:=Hd hp;clear hp HR1;go_wp2_with fail;exact HF.out
  ·
   have HF:=Hd hp;clear hp HR1;unfold Zbv;go_wp2_with fail;exact⟨rfl,HF.out⟩
 have hb0:(((c0:Nat):Int) == 1)=false:=by rw[beq_eq_false_iff_ne];omega
 have HSC0:Hid (SatF (ef V c0)):=Hd (Classical.byContradiction fun h=>hz0 ((HZ.out c0 HQC.out.1.1).2 h))
 by_cases hz1:c1=1
 ·
  have hb1:(((c1:Nat):Int) == 1)=true:=by subst hz1;rfl
  have HR1:Hid (Calls Tryz.prog 154 #[.int .i64 f0,.int .i64 c0,.pointer (some ⟨bx,0,none⟩),.pointer (some ⟨bo,0,none⟩),.pointer (some ⟨bd,0,none⟩),.pointer (some ⟨ba,0,none⟩)] w4 fun x w'=>(∃ r:Nat,x=.returned (.int .i64 r)/\P x w')\/∃ er evt ev,x=Zbv er evt ev/\P x w'):=Hd ((HDN.out 0 o w4 m V v f0 c0 HV.out.2.2.2 HAT4.out HQF.out.1.1 HQC.out.1.1 HSC0.out HQF.out.1.2.1 HQC.out.1.2.1).mono fun x w' hx=>by
   have hx2:P x w':=(HPC.out x w').2 (by
    refine((Zb4.base HAT4.out (show 0+N1<=N2 by have:=HCOST.out;omega) hx).good ?_);intro d V' r x4 h;rw[x4,HORD.out] at h ⊢;rw[HQF.out.1.2.2,HQC.out.1.2.2] at h
    exact HRR.out.one false v pre post _ _ _ HPRE.out HSAT.out (by
     show ¬ SatF (cofF (ef V e) v true)
     rw[<- HQC.out.2.2.2];exact(HZ.out c1 HQC.out.2.1).1 hz1) h)
   rcases hx.kind with ⟨r,rfl⟩|⟨er,evt,ev,rfl⟩
   ·
    exact .inl ⟨r,rfl,hx2⟩
   ·
    exact .inr ⟨er,evt,ev,rfl,hx2⟩)
  clear HDN HQF HQC HAA HKK HZ HPC HPP HRR HORD HPRE HSAT HAT4 HS4 HSC0 hz0;go_wp2_with fail;refine HR1.out.mono ?_;rintro x w5 (⟨r,rfl,hp⟩|⟨er,evt,ev,rfl,hp⟩)
  ·
   have HF:=Hd hp;clear hp HR1;go_wp2_with fail;exact HF.out
  ·
   have HF:=Hd hp;clear hp HR1;unfold Zbv;go_wp2_with fail;exact⟨rfl,HF.out⟩
 have hb1:(((c1:Nat):Int) == 1)=false:=by rw[beq_eq_false_iff_ne];omega
 have HSC1:Hid (SatF (ef V c1)):=Hd (Classical.byContradiction fun h=>hz1 ((HZ.out c1 HQC.out.2.1).2 h))
 have HA4:Hid (Calls Tryz.prog g (#[.int .i64 v,.int .i64 f0,.int .i64 f1,.int .i64 c0,.int .i64 c1]++lw) w4 fun x w' =>
  (∃ (r:Nat) (ok:Bool) (o':Own) (m':ManD) (V':Nat->BF),x=.returned (.tuple #[.int .i64 r,.bool ok])/\AtC K N3 o W mb m V o' w' m' V'/\(ok=true->Yes (ef V f0) (ef V f1)/\okE (Zab m'.d) r/\∀ ρ,ef V' r ρ=(ef V c0 ρ||ef V c1 ρ))/\(ok=false->¬ Yes (ef V f0) (ef V f1))) \/
  (∃ er evt ev,x=Zbv er evt ev/\P x w')):=Hd ((HAA.out o w4 m V v f0 f1 c0 c1 HS4.out.is HS4.out.lt HS4.out.ctx HS4.out.ok HS4.out.vars HS4.out.bw (fun q hq=>⟨HS4.out.t q hq,HS4.out.no q (.inr (.inr (.inr (.inr hq))))⟩) HQF.out.1.1 HQF.out.2.1 HQC.out.1.1 HQC.out.2.1).mono (by
  rintro x w' (⟨r,ok,o',m',V',rfl,q1,q2,q3⟩|⟨er,evt,ev,rfl,hst⟩)
  ·
   rw[<- HN3.out] at q1;have q4:=HAT4.out.trans q1;rw[Nat.zero_add] at q4;exact .inl ⟨r,ok,o',m',V',rfl,q4,q2,q3⟩
  ·
   refine .inr ⟨er,evt,ev,rfl,(HPC.out _ w').2 (.inr ⟨er,evt,ev,rfl,hst.after HAT4.out (by have:=HCOST.out;have:=HN3.out;omega)⟩)⟩))
 clear hz0 hz1 HAA HS4 HAT4;go_wp2_with fail;refine HA4.out.mono ?_;rintro x w5 (⟨nx,ok,o5,m5,V5,rfl,hat5,hyes,hno⟩|⟨er,evt,ev,rfl,hp⟩)
 rotate_left
 ·
  have HF:=Hd hp;clear hp HA4 HDN HQF HQC HKK HZ HPC HPP HRR HORD HPRE HSAT HSC0 HSC1;unfold Zbv;go_wp2_with fail;exact⟨rfl,HF.out⟩
 have HAT5:=Hd hat5;have HS5:=Hd (HS0.out.step HBB.out HAT5.out);have cd5:=HS5.out.d;have cx5:=HS5.out.x;unfold ConC.caps at cd5;have HLV5:Hid (∀ z,okE (Zab m.d) z->okE (Zab m5.d) z/\ef V5 z=ef V z/\lvE n (levN m5.d) (Zab m5.d) z=lvE n (levN m.d) (Zab m.d) z):=Hd fun z hz=>⟨hat5.st.ext.ok hz,hat5.st.ext.ef hz,hat5.st.ext.lvE hz HKO.out.dag.none0 HS5.out.ok.dag.none0⟩
 cases ok with
 | true =>
   have HY:=Hd (hyes rfl)
   have HLN:Hid (levN m.d v<lvE n (levN m5.d) (Zab m5.d) nx):=Hd (by
    have hvn:=HS5.out.vars;have hl5:levN m5.d=levN m.d:=hat5.st.ext.lev;rw[<- hvn,<- hl5];refine Zpt HS5.out.ok HY.out.2.1 ?_ fun u hu hlu=>Ind.of fun ρ b=>?_
    ·
     rw[hl5,hvn];have:=HKO.out.dag.lt v (by rw[HVN.out];exact HV.out.1);rw[HVN.out] at this;exact this
    ·
     rw[hl5] at hlu;rw[HY.out.2.2,HY.out.2.2,(Zfr HKO.out HQC.out.1.1 (by rw[HVN.out];have:=HQC.out.1.2.1;omega)).at,(Zfr HKO.out HQC.out.2.1 (by rw[HVN.out];have:=HQC.out.2.2.1;omega)).at])
   have HSN:Hid (SatF (ef V5 nx)):=Hd (by
    obtain⟨ρ,hρ⟩:=HSC0.out;exact⟨ρ,by rw[HY.out.2.2,hρ];rfl⟩)
   have HR1:Hid (Calls Tryz.prog 154 #[.int .i64 f0,.int .i64 nx,.pointer (some ⟨bx,0,none⟩),.pointer (some ⟨bo,0,none⟩),.pointer (some ⟨bd,0,none⟩),.pointer (some ⟨ba,0,none⟩)] w5 fun x w'=>(∃ r:Nat,x=.returned (.int .i64 r)/\P x w')\/∃ er evt ev,x=Zbv er evt ev/\P x w'):=Hd ((HDN.out N3 o5 w5 m5 V5 v f0 nx HV.out.2.2.2 HAT5.out (HLV5.out f0 HQF.out.1.1).1 HY.out.2.1 HSN.out (by rw[(HLV5.out f0 HQF.out.1.1).2.2];exact HQF.out.1.2.1) HLN.out).mono fun x w' hx=>by
    have hx2:P x w':=(HPC.out x w').2 (by
     refine((Zb4.base HAT5.out (show N3+N1<=N2 by have:=HCOST.out;omega) hx).good ?_);intro d V' r x4 h;rw[(HLV5.out f0 HQF.out.1.1).2.1,HQF.out.1.2.2] at h;refine HRR.out.next d.vars v _ _ _ _ ?_ ?_ h
     ·
      rw[<- HQF.out.1.2.2,<- HQF.out.2.2.2];exact HY.out.1
     ·
      intro ρ;rw[<- HQC.out.1.2.2,<- HQC.out.2.2.2];exact HY.out.2.2 ρ)
    rcases hx.kind with ⟨r,rfl⟩|⟨er,evt,ev,rfl⟩
    ·
     exact .inl ⟨r,rfl,hx2⟩
    ·
     exact .inr ⟨er,evt,ev,rfl,hx2⟩)
   clear hyes hno hat5 HA4 HDN HQF HQC HKK HZ HPC HPP HRR HORD HPRE HSAT HSC0 HSC1 HAT5 HS5 HLV5 HY HLN HSN cd4 ca4;go_wp2_with fail;refine HR1.out.mono ?_;rintro x w6 (⟨r,rfl,hp⟩|⟨er,evt,ev,rfl,hp⟩)
   ·
    have HF:=Hd hp;clear hp HR1;go_wp2_with fail;exact HF.out
   ·
    have HF:=Hd hp;clear hp HR1;unfold Zbv;go_wp2_with fail;exact⟨rfl,HF.out⟩
 | false =>
   have HNY:=Hd (hno rfl);have hat5d:=hat5.below (Zag w5 1);have HAT5d:Hid (AtC K N3 o W mb m V o5 w5.drew m5 V5):=Hd hat5d;have cd5d:w5.drew.cell? ⟨bd,0,none⟩=some (.func (.func 154) #[] #[.pointer (some ⟨bx,0,none⟩),.pointer (some ⟨bo,0,none⟩),.pointer (some ⟨bd,0,none⟩),.pointer (some ⟨ba,0,none⟩)]):=cd5;have cx5d:w5.drew.cell? ⟨bx,0,none⟩=some (.pointer (some ⟨xb,0,none⟩)):=cx5;have HPAN:Hid (∀ er evt ev w',Zna K N2 o W mb m V er evt ev w'->P (Zbv er evt ev) w'):=Hd fun er evt ev w' h=>(HPC.out _ w').2 (.inr ⟨er,evt,ev,rfl,h⟩)
   have HREC:Hid (∀ (k:Nat) (o1:Own) (w':World) (m1:ManD) (V1:Nat->BF) (f' e':Nat),k+N1<=N2->AtC K k o W mb m V o1 w' m1 V1->okE (Zab m.d) f'->okE (Zab m.d) e'->SatF (ef V e')->levN m.d v<lvE n (levN m.d) (Zab m.d) f'->levN m.d v<lvE n (levN m.d) (Zab m.d) e' ->
    Calls Tryz.prog 154 #[.int .i64 f',.int .i64 e',.pointer (some ⟨bx,0,none⟩),.pointer (some ⟨bo,0,none⟩),.pointer (some ⟨bd,0,none⟩),.pointer (some ⟨ba,0,none⟩)] w' fun x w2 =>
     (∃ u,x=.returned u/\(w2.cell? ⟨bd,0,none⟩=some (.func (.func 154) #[] #[.pointer (some ⟨bx,0,none⟩),.pointer (some ⟨bo,0,none⟩),.pointer (some ⟨bd,0,none⟩),.pointer (some ⟨ba,0,none⟩)])/\w2.cell? ⟨bx,0,none⟩=some (.pointer (some ⟨xb,0,none⟩)))/\∃ (r:Nat) (o2:Own) (m2:ManD) (V2:Nat->BF),u=.int .i64 r/\AtC K (k+N1) o W mb m V o2 w2 m2 V2/\Step K o1 w' mb m1 V1 o2 w2 m2 V2/\okE (Zab m2.d) r/\Rel m.d.vars (ef V f') (ef V e') (ef V2 r))\/(∃ ch,x=.panicked ch/\P (.panicked ch) w2)):=Hd fun k o1 w' m1 V1 f' e' hkk h1 h2 h3 h4 h5 h6=>by
    have x1:=h1.st.ext;refine(HDN.out k o1 w' m1 V1 v f' e' HV.out.2.2.2 h1 (x1.ok h2) (x1.ok h3) (by rw[x1.ef h3];exact h4) (by rw[x1.lvE h2 HKO.out.dag.none0 h1.st.ok.dag.none0];exact h5) (by rw[x1.lvE h3 HKO.out.dag.none0 h1.st.ok.dag.none0];exact h6)).mono ?_;rintro x w2 (⟨r,o2,m2,V2,rfl,q1,q2,q3⟩|⟨er,evt,ev,rfl,hst⟩)
    ·
     have hat2:=h1.trans q1;have hs2:=HS0.out.step HBB.out hat2;have hd2:=hs2.d;unfold ConC.caps at hd2;refine .inl ⟨_,rfl,⟨hd2,hs2.x⟩,r,o2,m2,V2,rfl,hat2,q1.st,q2,?_⟩;rw[x1.ef h2,x1.ef h3,hat2.st.ext.vars] at q3;exact q3
    ·
     exact .inr ⟨_,rfl,HPAN.out _ _ _ _ (hst.after h1 hkk)⟩
   have HL:=Hd (HREC.out N3 o5 w5.drew m5 V5 f0 c0 (by have:=HCOST.out;omega) HAT5d.out HQF.out.1.1 HQC.out.1.1 HSC0.out HQF.out.1.2.1 HQC.out.1.2.1);clear hyes hno hat5 hat5d HA4 HDN HAT5 HS5 HLV5 cd4 ca4 cd5 cx5 HPP;go_upto_region 11 with fail;refine Zf7 [0,1,2,3,4,6,7,8,5,9,10,11] (fun W=>W.cell? ⟨bd,0,none⟩=some (.func (.func 154) #[] #[.pointer (some ⟨bx,0,none⟩),.pointer (some ⟨bo,0,none⟩),.pointer (some ⟨bd,0,none⟩),.pointer (some ⟨ba,0,none⟩)])/\W.cell? ⟨bx,0,none⟩=some (.pointer (some ⟨xb,0,none⟩))) (fun ch w'=>P (.panicked ch) w') (fun c a w hd h=>⟨hd,h⟩) (by kernel_rfl) ⟨cd5d,cx5d⟩ ?_
   iterate 8
    refine Zed rfl rfl (by kernel_rfl) ?_;apply Exists.intro;refine⟨fun w' hw=>?_,?_⟩
    ·
     obtain⟨q1,q2⟩:=hw;go_simp;rfl
    simp only[Zaf]
   refine Zic rfl (by kernel_rfl) rfl rfl (by go_simp) HL.out ?_;rintro u w6 hS6 ⟨r0,o6,m6,V6,rfl,hat6,st6,k6,f6⟩;have HAT6:=Hd hat6;have HK6:=Hd k6;have HF6:=Hd f6;have HH:=Hd (HREC.out (N3+N1) o6 w6 m6 V6 f1 c1 (by have:=HCOST.out;omega) hat6 HQF.out.2.1 HQC.out.2.1 HSC1.out HQF.out.2.2.1 HQC.out.2.2.1);clear hat6 st6 k6 f6 HL hS6;simp only[Zaf];refine Zic rfl (by kernel_rfl) rfl rfl (by go_simp) HH.out ?_;rintro u w7 hS7 ⟨r1,o7,m7,V7,rfl,hat7,st7,k7,f7⟩;have HK7:=Hd k7;have HK07:=Hd (st7.ext.ok HK6.out);have HF7:=Hd f7;have HF07:Hid (Rel m.d.vars (ef V f0) (ef V c0) (ef V7 r0)):=Hd (by rw[st7.ext.ef HK6.out];exact HF6.out);have HS7:=Hd (HS0.out.step HBB.out hat7);have HAT7:=Hd hat7
   have HMK:Hid (Calls Tryz.prog 77 #[.pointer (some ⟨xb,0,none⟩),.int .i64 v,.int .i64 r0,.int .i64 r1] w7 fun x w2=>(∃ u,x=.returned u/\(w2.cell? ⟨bd,0,none⟩=some (.func (.func 154) #[] #[.pointer (some ⟨bx,0,none⟩),.pointer (some ⟨bo,0,none⟩),.pointer (some ⟨bd,0,none⟩),.pointer (some ⟨ba,0,none⟩)])/\w2.cell? ⟨bx,0,none⟩=some (.pointer (some ⟨xb,0,none⟩)))/\∃ r:Nat,u=.int .i64 r/\P (.returned (.int .i64 r)) w2)\/(∃ ch,x=.panicked ch/\P (.panicked ch) w2)):=Hd (by
    have hvn:=HS7.out.vars;have hl7:levN m7.d=levN m.d:=hat7.st.ext.lev;have hvlt:v<m7.d.vars.length:=by rw[hvn];exact HV.out.1
    have hLlt:levN m7.d v<m7.d.vars.length:=HS7.out.ok.dag.lt v hvlt;have hind:∀ {z f' e':Nat},okE (Zab m.d) f'->okE (Zab m.d) e'->levN m.d v<lvE n (levN m.d) (Zab m.d) f'->levN m.d v<lvE n (levN m.d) (Zab m.d) e'->okE (Zab m7.d) z->Rel m.d.vars (ef V f') (ef V e') (ef V7 z)->levN m7.d v<lvE m7.d.vars.length (levN m7.d) (Zab m7.d) z:=fun {z f' e'} h1 h2 h3 h4 h5 h6 =>
     Zpt HS7.out.ok h5 hLlt fun u hu hlu=>HRR.out.ind _ _ _ _ u (Zfr HKO.out h1 (by rw[HVN.out];rw[hl7] at hlu;omega)) (Zfr HKO.out h2 (by rw[HVN.out];rw[hl7] at hlu;omega)) h6
    refine(Zvj HKK.out HS7.out.is HS7.out.lt HS7.out.ctx HS7.out.ok v r0 r1 hvlt HK07.out HK7.out (hind HQF.out.1.1 HQC.out.1.1 HQF.out.1.2.1 HQC.out.1.2.1 HK07.out HF07.out) (hind HQF.out.2.1 HQC.out.2.1 HQF.out.2.2.1 HQC.out.2.2.1 HK7.out HF7.out)).mono ?_;rintro x w2 (⟨r,o2,m2,V2,rfl,q1,q2,q3,_⟩|⟨er,evt,ev,rfl,hst⟩)
    ·
     have hat2:=hat7.trans q1;have hs2:=HS0.out.step HBB.out hat2;have hd2:=hs2.d;unfold ConC.caps at hd2;refine .inl ⟨_,rfl,⟨hd2,hs2.x⟩,r,rfl,(HPC.out _ w2).2 (.inl ⟨r,o2,m2,V2,rfl,hat2.mono (by have:=HCOST.out;omega),q2,?_⟩)⟩
     show Rel m2.d.vars (ef V f) (ef V e) (ef V2 r)
     have g0:=HF07.out;have g1:=HF7.out;rw[hat2.st.ext.vars,HORD.out,q3];rw[HORD.out,HQF.out.1.2.2,HQC.out.1.2.2] at g0;rw[HORD.out,HQF.out.2.2.2,HQC.out.2.2.2] at g1;exact HRR.out.both v pre post _ _ _ _ HPRE.out (by rw[<- HQC.out.1.2.2];exact HSC0.out) (by rw[<- HQC.out.2.2.2];exact HSC1.out) (by rw[<- HQF.out.1.2.2,<- HQF.out.2.2.2];exact HNY.out) g0 g1
    ·
     exact .inr ⟨_,rfl,HPAN.out _ _ _ _ (hst.after hat7 (by have:=HCOST.out;omega))⟩)
   clear hat7 st7 k7 f7 HH hS7 HREC HAT7 HS7 HF07 HF7 HK7 HK07 HK6 HF6 HAT6;simp only[Zaf];refine Zic rfl (by kernel_rfl) rfl rfl (by go_simp) HMK.out ?_;rintro u w8 hS8 ⟨r,rfl,hp⟩;have HF:=Hd hp;clear hp hS8 HMK;simp only[Zaf];refine Zed rfl rfl (by kernel_rfl) ?_;apply Exists.intro;refine⟨fun w' hw=>?_,?_⟩
   ·
    clear hw;go_simp;rfl
   simp only[Zaf];refine Zlk (by kernel_rfl) ?_;clear cd5d cx5d;go_wp2_with fail;exact HF.out
end
open Go.RowKit
theorem boxes2e (w:World) (x y:Value) (s t:TypeId):∃ w3,w3=(w.alloc (.cells #[x] s)).alloc (.cells #[y] t)/\Below w.heap.size w w3/\w3.heap.size=w.heap.size+2/\w3.cell? ⟨w.heap.size,0,none⟩=some x/\w3.cell? ⟨w.heap.size+1,0,none⟩=some y:=by
 refine⟨_,rfl,(Zad _ _).alloc (by simp) _,by simp,?_,?_⟩
 ·
  exact cell1 ((Go.heap_alloc_old _ _ (by simp)).trans (heap_alloc_new _ _))
 ·
  have:=heap_alloc_new (w.alloc (.cells #[x] s)) (.cells #[y] t);rw[World.size_alloc] at this;exact cell1 this
section
variable {K:Law} {n:Nat} {Rel:List Nat->BF->BF->BF->Prop} {Yes:BF->BF->Prop} {Bw:World->Prop} {T:Nat->Prop} {c:ConC} {o o':Own} {W W':World} {mb:Nat} {m m':ManD} {V V':Nat->BF} {J:Nat}
theorem Zsa (hK:Zci K) (hR:Ztc Rel Yes) (hKey:Zut K c.op Rel) (hB:∀ W W',Bw W->(∀ q,T q->W'.heap[q]?=W.heap[q]?)->Bw W') (hat:AtOK K n Yes c.xb mb Bw T c.g c.lw) (eg:∀ args w,(callFunc c.g args).run Tryz.prog w=.ok (.enter c.g args) w)
 (IH:∀ j,J=j+1->Zxt K n Rel Bw T c mb j):Zxt K n Rel Bw T c mb J:=by
 intro o W m V f e hs hf he hsat hlf hle;have hmf:∀ (fn:Fn) (first cap:Array Value) (w:World),(Instr.makeFunc fn first cap).run Tryz.prog w=.ok (.func fn first cap) w:=fun _ _ _ _=>rfl
 obtain⟨w2,hw2,hb2,hz2,cf,ce⟩:=boxes2e W (.int .i64 f) (.int .i64 e) 116 116;have HW2:Hid (_=w2):=Hd hw2.symm;have hs2:=hs.below hB hb2;have hk:=hs.ok;have hat2:AtC K 0 o W mb m V o w2 m V:=(AtC.refl hs.is hs.lt hk).below hb2;obtain⟨N,hN⟩:∃ N,N=(2^J-1)*2^n:=⟨_,rfl⟩;obtain⟨P,hP⟩:∃ P:Ending->World->Prop,P=Zb4 K N o W mb m V fun d V' r=>Rel d.vars (ef V f) (ef V e) (ef V' r):=⟨_,rfl⟩
 rw[<- hN,<- hP];have HCON:=Hd (Zoy f w2 (Zsb hs.is hf));have HRET:Hid (Rel m.d.vars (ef V f) (ef V e) (ef V f)->P (.returned (.int .i64 (f:Nat))) w2):=Hd fun h=>by
  rw[hP];exact .inl ⟨f,o,m,V,rfl,hat2.mono (Nat.zero_le _),hf,h⟩
 by_cases h1:e=0
 ·
  have HF:=Hd (HRET.out (hR.tru _ _ _ (by subst h1;intro ρ;rw[hk.dag.ef0])));have hb:(((e:Nat):Int) == 0)=true:=by subst h1;rfl
  clear hP hs hs2 hk hat2 hK hR hKey hB hat IH hsat hlf hle hf he HRET HCON hw2 hb2 hz2 h1 hN eg;obtain⟨bx,bo,bd,ba,xb,op,g,lw⟩:=c;unfold ConC.caps
  show Calls _ _ #[_,_,_,_,_,_] _ _
  go_enter Tryz.func154,Tryz.ntmps154
  go_upto_region 1 with fail;rw[HW2.out];go_wp2_with fail;exact HF.out
 have hb:(((e:Nat):Int) == 0)=false:=by rw[beq_eq_false_iff_ne];omega
 by_cases h0:f/2=0
 ·
  have HF:=Hd (HRET.out (hR.const _ _ _ (by
   intro ρ ρ';rw[Zo5 hk h0];rfl)))
  rw[decide_eq_true (show enode f=0 from h0)] at HCON;clear hP hs hs2 hk hat2 hK hR hKey hB hat IH hsat hlf hle hf he HRET hw2 hb2 hz2 h1 h0 hN eg;obtain⟨bx,bo,bd,ba,xb,op,g,lw⟩:=c;unfold ConC.caps
  show Calls _ _ #[_,_,_,_,_,_] _ _
  go_enter Tryz.func154,Tryz.ntmps154
  go_upto_region 1 with fail;rw[HW2.out];go_wp2_with fail;refine HCON.out.mono ?_;rintro y w' ⟨rfl,rfl⟩;go_wp2_with fail;exact HF.out
 rw[decide_eq_false (show ¬ enode f=0 from h0)] at HCON;cases J with
 | zero =>
   exfalso;rcases hf with h|⟨b,hbn⟩
   ·
    exact h0 h
   ·
    have h1:=hk.dag.lt b.v (hk.dag.var _ _ hbn);rw[hs.vars] at h1;unfold lvE at hlf;rw[hbn] at hlf;simp at hlf;omega
 | succ j =>
   have hof:o W.heap.size=none:=hs.lt.none (Nat.le_refl _);have hoe:o (W.heap.size+1)=none:=hs.lt.none (by omega);have hmem:Calls Tryz.prog 156 #[.pointer (some ⟨c.xb,0,none⟩),.int .i64 c.op,.int .i64 f,.int .i64 e,.int .i64 (0:Nat),.func (.func 157) #[] #[.pointer (some ⟨c.bx,0,none⟩),.pointer (some ⟨W.heap.size,0,none⟩),.pointer (some ⟨W.heap.size+1,0,none⟩),.pointer (some ⟨c.bd,0,none⟩),.pointer (some ⟨c.ba,0,none⟩)]] w2 (Zb4 K N o w2 mb m V fun d V' r=>Rel d.vars (ef V f) (ef V e) (ef V' r)):=by
    refine Zvi hs2.is hs2.lt hs2.ctx hk Zj5 c.op f e 0 (fun r hr=>?_) (fun d' V' r hk' x hr hA=>?_) (fun w1 hc hm hl=>?_)
    ·
     obtain⟨_,_,q3,q4⟩:=(hKey _ _ _ _ _).1 hr;exact⟨q3,q4 hsat⟩
    ·
     refine(hKey _ _ _ _ _).2 ⟨x.ok hf,x.ok he,hr,fun _=>?_⟩;rw[x.ef hf,x.ef he];exact hA
    ·
     have hat1:AtC K 0 o w2 mb m V o w1 m V:=⟨⟨hm,hl,hc,hk,Ext.refl _ _,rfl,rfl⟩,rfl,Nat.le_refl _⟩;rw[hN];exact Yby hK hR hB hat eg (IH j rfl) (hs2.step hB hat1) hf he hsat h0 hlf hle (hc.cell cf hof) (hc.cell ce hoe) hof hoe
   have HMEM:Hid (Calls Tryz.prog 156 #[.pointer (some ⟨c.xb,0,none⟩),.int .i64 c.op,.int .i64 f,.int .i64 e,.int .i64 0,.func (.func 157) #[] #[.pointer (some ⟨c.bx,0,none⟩),.pointer (some ⟨W.heap.size,0,none⟩),.pointer (some ⟨W.heap.size+1,0,none⟩),.pointer (some ⟨c.bd,0,none⟩),.pointer (some ⟨c.ba,0,none⟩)]] w2 fun x w'=>(∃ r:Nat,x=.returned (.int .i64 r)/\P x w')\/∃ er evt ev,x=Zbv er evt ev/\P x w'):=Hd (hmem.mono fun x w' hx=>by
    have hx2:P x w':=by
     rw[hP];exact Zb4.base hat2 (by omega) hx
    rcases hx.kind with ⟨r,rfl⟩|⟨er,evt,ev,rfl⟩
    ·
     exact .inl ⟨r,rfl,hx2⟩
    ·
     exact .inr ⟨er,evt,ev,rfl,hx2⟩)
   have cx:=hs2.x;have cp:=hs2.p;clear hmem hP hs hs2 hk hat2 hK hR hKey hB hat IH hsat hlf hle hf he HRET hw2 hb2 hz2 h1 h0 hN eg hof hoe;obtain⟨bx,bo,bd,ba,xb,op,g,lw⟩:=c;unfold ConC.caps
   show Calls _ _ #[_,_,_,_,_,_] _ _
   go_enter Tryz.func154,Tryz.ntmps154
   go_upto_region 1 with fail;rw[HW2.out];go_wp2_with fail;refine HCON.out.mono ?_;rintro y w' ⟨rfl,rfl⟩;go_wp2_with fail;refine HMEM.out.mono ?_;rintro x w5 (⟨r,rfl,hp⟩|⟨er,evt,ev,rfl,hp⟩)
   ·
    have HF:=Hd hp;clear hp HMEM;go_wp2_with fail;exact HF.out
   ·
    have HF:=Hd hp;clear hp HMEM;unfold Zbv;go_wp2_with fail;exact⟨rfl,HF.out⟩
theorem Zvg (hK:Zci K) (hR:Ztc Rel Yes) (hKey:Zut K c.op Rel) (hB:∀ W W',Bw W->(∀ q,T q->W'.heap[q]?=W.heap[q]?)->Bw W') (hat:AtOK K n Yes c.xb mb Bw T c.g c.lw) (eg:∀ args w,(callFunc c.g args).run Tryz.prog w=.ok (.enter c.g args) w):∀ J,Zxt K n Rel Bw T c mb J
 | 0=>Zsa hK hR hKey hB hat eg (fun j e=>by cases e)
 | J+1=>Zsa hK hR hKey hB hat eg (fun j e=>by cases e;exact Zvg hK hR hKey hB hat eg J)
theorem Zie (hK:Zci K) (hR:Ztc Rel Yes) {op:Int} (hKey:Zut K op Rel) (hB:∀ W W',Bw W->(∀ q,T q->W'.heap[q]?=W.heap[q]?)->Bw W') {g xb:Nat} {lw:Array Value} (hat:AtOK K n Yes xb mb Bw T g lw) (eg:∀ args w,(callFunc g args).run Tryz.prog w=.ok (.enter g args) w)
 {f e:Nat} (hm:Zcu (K m.d V) o W mb m) (hlt:Zaj o W) (hx:Zcy o W xb mb) (hk:Zam m.d V) (hn:m.d.vars.length=n) (hbw:Bw W) (hT:∀ q,T q->q<W.heap.size/\o q=none) (hf:okE (Zab m.d) f) (he:okE (Zab m.d) e) (hsat:SatF (ef V e)) :
 Calls Tryz.prog 80 #[.pointer (some ⟨xb,0,none⟩),.int .i64 op,.int .i64 f,.int .i64 e,.func (.func g) #[] lw] W (Zb4 K ((2^n-1)*2^n) o W mb m V fun d V' r=>Rel d.vars (ef V f) (ef V e) (ef V' r)):=by
 have hmf:∀ (fn:Fn) (first cap:Array Value) (w:World),(Instr.makeFunc fn first cap).run Tryz.prog w=.ok (.func fn first cap) w:=fun _ _ _ _=>rfl
 obtain⟨w4,hw4⟩:∃ w4,w4=(((W.alloc (.cells #[.pointer (some ⟨xb,0,none⟩)] 115)).alloc (.cells #[.int .i64 op] 3)).alloc (.cells #[.func (.func g) #[] lw] 122)).alloc (.cells #[.nilFunc] 182):=⟨_,rfl⟩;have HW4:Hid (_=w4):=Hd hw4.symm;have hz4:w4.heap.size=W.heap.size+1+1+1+1:=by rw[hw4];simp
 have hb4:Below W.heap.size W w4:=by rw[hw4];exact(((Zad _ _).alloc (by simp) _).alloc (by simp;omega) _).alloc (by simp;omega) _
 have g0:w4.heap[W.heap.size]?=some (.cells #[.pointer (some ⟨xb,0,none⟩)] 115 (0,0)):=by
  rw[hw4];exact(Go.heap_alloc_old _ _ (by simp;omega)).trans ((Go.heap_alloc_old _ _ (by simp;omega)).trans ((Go.heap_alloc_old _ _ (by simp)).trans (heap_alloc_new _ _)))
 have g1:w4.heap[W.heap.size+1]?=some (.cells #[.int .i64 op] 3 (0,0)):=by
  have:=heap_alloc_new (W.alloc (.cells #[.pointer (some ⟨xb,0,none⟩)] 115)) (.cells #[.int .i64 op] 3);rw[World.size_alloc] at this;rw[hw4];exact(Go.heap_alloc_old _ _ (by simp<;>omega)).trans ((Go.heap_alloc_old _ _ (by simp)).trans this)
 have g2:w4.heap[W.heap.size+1+1]?=some (.cells #[.func (.func g) #[] lw] 122 (0,0)):=by
  have:=heap_alloc_new ((W.alloc (.cells #[.pointer (some ⟨xb,0,none⟩)] 115)).alloc (.cells #[.int .i64 op] 3)) (.cells #[.func (.func g) #[] lw] 122);rw[World.size_alloc,World.size_alloc] at this;rw[hw4];exact(Go.heap_alloc_old _ _ (by simp)).trans this
 have g3:w4.heap[W.heap.size+1+1+1]?=some (.cells #[.nilFunc] 182 (0,0)):=by
  have:=heap_alloc_new (((W.alloc (.cells #[.pointer (some ⟨xb,0,none⟩)] 115)).alloc (.cells #[.int .i64 op] 3)).alloc (.cells #[.func (.func g) #[] lw] 122)) (.cells #[.nilFunc] 182);rw[World.size_alloc,World.size_alloc,World.size_alloc] at this;rw[hw4];exact this
 obtain⟨FV,hFV⟩:∃ FV:Value,FV=.func (.func 154) #[] #[.pointer (some ⟨W.heap.size,0,none⟩),.pointer (some ⟨W.heap.size+1,0,none⟩),.pointer (some ⟨W.heap.size+1+1+1,0,none⟩),.pointer (some ⟨W.heap.size+1+1,0,none⟩)]:=⟨_,rfl⟩;have c6:=cell1 g3;have f6:w4.frozen? ⟨W.heap.size+1+1+1,0,none⟩=false:=by simp[World.frozen?,g3]
 obtain⟨w5,hw5⟩:∃ w5,w5=w4.setCell ⟨W.heap.size+1+1+1,0,none⟩ FV:=⟨_,rfl⟩;have HW5:Hid (_=w5):=Hd hw5.symm;have hk5:∀ q:Nat,q≠W.heap.size+1+1+1->w5.heap[q]?=w4.heap[q]?:=fun q hq=>by rw[hw5];exact Zah hq _
 have e6:w5.heap[W.heap.size+1+1+1]?=some (.cells #[FV] 182 (0,0)):=by rw[hw5];exact Zai g3 _
 have hb5:Below W.heap.size W w5:=by rw[hw5];exact hb4.setCell (p:=⟨W.heap.size+1+1+1,0,none⟩) (by show W.heap.size<=W.heap.size+1+1+1;omega) _
 have hsto:(store ⟨W.heap.size+1+1+1,0,none⟩ FV).run Tryz.prog w4=.ok () w5:=by
  rw[run_store _ _ _ _ _ (by rw[hFV];rfl)];simp[c6,f6,hw5]
 have k6:w5.cell? ⟨W.heap.size+1+1+1,0,none⟩=some FV:=cell1 e6;rw[hFV] at k6 hsto;have hat5:AtC K 0 o W mb m V o w5 m V:=(AtC.refl hm hlt hk).below hb5;have k0:w5.cell? ⟨W.heap.size,0,none⟩=some (.pointer (some ⟨xb,0,none⟩)):=cell1 ((hk5 _ (by omega)).trans g0);have k1:w5.cell? ⟨W.heap.size+1,0,none⟩=some (.int .i64 op):=cell1 ((hk5 _ (by omega)).trans g1);have k2:w5.cell? ⟨W.heap.size+1+1,0,none⟩=some (.func (.func g) #[] lw):=cell1 ((hk5 _ (by omega)).trans g2);have hs:ConS K n Bw T ⟨W.heap.size,W.heap.size+1,W.heap.size+1+1+1,W.heap.size+1+1,xb,op,g,lw⟩ mb o w5 m V:=by
  refine⟨hat5.st.is,hat5.st.lt,hk,hn,⟨(hb5.cell (p:=⟨xb,0,none⟩) (Zaa hx.cell)).trans hx.cell,hx.own⟩,hB _ _ hbw (fun q hq=>hb5.block q (hT q hq).1),k0,k1,k6,k2,?_,fun q hq=>Nat.lt_of_lt_of_le (hT q hq).1 hb5.size⟩;rintro q (rfl|rfl|rfl|rfl|hq)
  ·
   exact hlt.none (Nat.le_refl _)
  ·
   exact hlt.none (by show W.heap.size<=W.heap.size+1;omega)
  ·
   exact hlt.none (by show W.heap.size<=W.heap.size+1+1+1;omega)
  ·
   exact hlt.none (by show W.heap.size<=W.heap.size+1+1;omega)
  ·
   exact(hT q hq).2
 have hcall:=Zvg (mb:=mb) hK hR (c:=⟨W.heap.size,W.heap.size+1,W.heap.size+1+1+1,W.heap.size+1+1,xb,op,g,lw⟩) hKey hB hat eg n o w5 m V f e hs hf he hsat (by omega) (by omega);obtain⟨N,hN⟩:∃ N,N=(2^n-1)*2^n:=⟨_,rfl⟩;obtain⟨P,hP⟩:∃ P:Ending->World->Prop,P=Zb4 K N o W mb m V fun d V' r=>Rel d.vars (ef V f) (ef V e) (ef V' r):=⟨_,rfl⟩
 rw[<- hN] at hcall ⊢
 have HCALL:Hid (Calls Tryz.prog 154 #[.int .i64 f,.int .i64 e,.pointer (some ⟨W.heap.size,0,none⟩),.pointer (some ⟨W.heap.size+1,0,none⟩),.pointer (some ⟨W.heap.size+1+1+1,0,none⟩),.pointer (some ⟨W.heap.size+1+1,0,none⟩)] w5 fun x w'=>(∃ r:Nat,x=.returned (.int .i64 r)/\P x w')\/∃ er evt ev,x=Zbv er evt ev/\P x w'):=Hd (Calls.mono hcall fun x w' hx=>by
  have hx2:P x w':=by
   rw[hP];exact Zb4.base hat5 (by omega) hx
  rcases hx.kind with ⟨r,rfl⟩|⟨er,evt,ev,rfl⟩
  ·
   exact .inl ⟨r,rfl,hx2⟩
  ·
   exact .inr ⟨er,evt,ev,rfl,hx2⟩)
 have eg1:=Zgo;rw[<- hP];clear k0 k1 k2 hP hcall hs hat5 hK hR hKey hB hat hm hlt hx hk hn hbw hT hf he hsat hb4 hb5 hk5 e6 g0 g1 g2 g3 hw4 hw5 hz4 hFV hN eg
 go_enter Tryz.func80,Tryz.ntmps80
 go_upto_region 2 with fail;rw[HW4.out];go_wp2_with fail;refine HCALL.out.mono ?_;rintro x w6 (⟨r,rfl,hp⟩|⟨er,evt,ev,rfl,hp⟩)
 ·
  have HF:=Hd hp;clear hp HCALL;go_wp2_with fail;exact HF.out
 ·
  have HF:=Hd hp;clear hp HCALL;unfold Zbv;go_wp2_with fail;exact⟨rfl,HF.out⟩
end
open Go.RowKit
open Go.RowKit
open Go.RowKit
open Go.RowKit
open Go.RowKit
section
variable {K:Law} {n:Nat} {Od:List Nat->Prop} {room:Nat} {w0:World} {fs:List (Int×BF)} {nx:Int} {σ:Nat->BF} {HP:ManD->(Nat->BF)->Prop} {Bw:World->Prop} {T:Nat->Prop} {o:Own} {w w1:World} {mb xb:Nat} {m:ManD} {V:Nat->BF} {ws0:List Ev}
theorem boxes2v (w:World) (x y:Value) (s t:TypeId):∃ w3,w3=(w.alloc (.cells #[x] s)).alloc (.cells #[y] t)/\Below w.heap.size w w3/\w3.heap.size=w.heap.size+2/\w3.cell? ⟨w.heap.size,0,none⟩=some x/\w3.cell? ⟨w.heap.size+1,0,none⟩=some y:=by
 refine⟨_,rfl,(Zad _ _).alloc (by simp) _,by simp,?_,?_⟩
 ·
  exact cell1 ((Go.heap_alloc_old _ _ (by simp)).trans (heap_alloc_new _ _))
 ·
  have:=heap_alloc_new (w.alloc (.cells #[x] s)) (.cells #[y] t);rw[World.size_alloc] at this;exact cell1 this
def known (fs:List (Int×BF)) (k:Int):Prop:=∃ F,(k,F)∈fs
theorem Zlc (h:SatE K n Od room w0 mb fs nx w o m V) (k:Int) {b:Bool} (hb:b=true↔known fs k):Calls Tryz.prog 36 #[.pointer (some ⟨mb,0,none⟩),.int .i64 k] w fun x w'=>x=.returned (.bool b)/\w=w':=by
 cases b with
 | true =>
   obtain⟨F,hF⟩:=hb.1 rfl;exact Zpu h hF
 | false=>exact Zym h (fun p hp e=>by
  have:known fs k:=⟨p.2,by rw[<- e];exact hp⟩;have:=hb.2 this;cases this)
end
end Go.Proofs.YtmofaapnkidioaaGreat
