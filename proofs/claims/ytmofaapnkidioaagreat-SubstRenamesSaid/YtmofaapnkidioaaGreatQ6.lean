/- Several texts in one file: contracts of the program's functions and what follows from them. -/
import Derived.Test.YtmofaapnkidioaaGreatQ5
import Derived.Shelf.Slices.Reverse
import Derived.Ground.Names2Prog
import Derived.Shelf.Slices.Cells
import Derived.Shelf.Slices.Empties
import Derived.Deep.WholeRow
set_option linter.unusedSimpArgs false
set_option linter.unusedVariables false
set_option linter.unusedSectionVars false
set_option linter.unnecessarySimpa false
set_option maxRecDepth 100000
set_option maxHeartbeats 8000000
namespace Go.Proofs.YtmofaapnkidioaaGreat
open Go.RowKit
theorem Zfs (f g:Nat->Int):∀ k,Zaw k (fun i=>f i+g i)=Zaw k f+Zaw k g
 | 0=>by simp[Zaw]
 | k+1=>by simp only[Zaw];rw[Zfs f g k];omega
theorem Zhc {f g:Nat->Int}:∀ k,(∀ i,i<k->f i<=g i)->Zaw k f<=Zaw k g
 | 0,_=>by simp[Zaw]
 | k+1,h=>by
   have h1:=Zhc k (fun i hi=>h i (by omega));have h2:=h k (by omega);simp only[Zaw];omega
theorem Zlh (c:Int) (f:Nat->Int):∀ k,c*Zaw k f=Zaw k (fun i=>c*f i)
 | 0=>by simp[Zaw]
 | k+1=>by simp only[Zaw];rw[Int.mul_add,Zlh c f k]
theorem Zm0 (f:Nat->Nat->Int) (m:Nat):∀ k,Zaw k (fun i=>Zaw m (fun j=>f i j))=Zaw m (fun j=>Zaw k (fun i=>f i j))
 | 0=>by simp only[Zaw];rw[Zdq]
 | k+1=>by
   simp only[Zaw];rw[Zm0 f m k,<- Zfs]
theorem Zli {g:Nat->Int} (hg:∀ i,0<=g i) (e k:Nat):Zaw k (fun i=>g i*toE e i)<=g (e/2):=by
 by_cases hk:e/2<k
 ·
  have h1:=Zdx (f:=fun _=>0) (g:=fun i=>g i*toE e i) (j:=e/2) (fun i hi=>by
   have:toE e i=0:=by unfold toE;rw[if_neg (Ne.symm hi)]
   simp[this]) k hk
  rw[h1,Zdq];have:toE e (e/2)=1:=Zjf e;simp[this]
 ·
  rw[Za6 (g:=fun _=>0) k (fun i hi=>by
   have:toE e i=0:=by unfold toE;rw[if_neg (by omega)]
   simp[this]),Zdq]
  exact hg _
def gW (d:Zae) (i:Nat):Int:=match Zab d i with
 | some b=>((2^(d.vars.length-levN d b.v):Nat):Int)-1
 | none=>0
theorem Zgk (d:Zae) (i:Nat):0<=gW d i:=by
 unfold gW;split
 ·
  have:0<2^(d.vars.length-levN d (by assumption:BN).v):=Nat.pow_pos (by decide);omega
 ·
  omega
theorem Ybi (d:Zae) (i l:Nat) (h:∀ b,Zab d i=some b->l<=levN d b.v):gW d i<=((2^(d.vars.length-l):Nat):Int)-1:=by
 unfold gW;split
 ·
  rename_i b hb
  have h1:=h b hb;have:2^(d.vars.length-levN d b.v)<=2^(d.vars.length-l):=Nat.pow_le_pow_right (by decide) (by omega);omega
 ·
  have:0<2^(d.vars.length-l):=Nat.pow_pos (by decide);omega
theorem Zxn {d:Zae} {V:Nat->BF} (hk:Zan d V) {j:Nat} {b:BN} (hb:Zab d j=some b):gW d (b.lo/2)+gW d (b.hi/2)<=gW d j-1:=by
 have hl:=hk.dag.lt _ (hk.dag.var _ _ hb);have key:∀ e,levN d b.v<lvE d.vars.length (levN d) (Zab d) e->gW d (e/2)<=((2^(d.vars.length-(levN d b.v+1)):Nat):Int)-1:=fun e he=>Ybi d _ _ (fun c hc=>by rw[Zpg hc] at he;omega)
 have h1:=key _ (hk.dag.lvLo _ _ hb);have h2:=key _ (hk.dag.lvHi _ _ hb);have h3:gW d j=((2^(d.vars.length-levN d b.v):Nat):Int)-1:=by unfold gW;rw[hb]
 have h4:d.vars.length-levN d b.v=(d.vars.length-(levN d b.v+1))+1:=by omega
 rw[h3,h4,Nat.pow_succ];omega
theorem Zxx {d:Zae} {V:Nat->BF} (hk:Zan d V) (h0:d.dead=0) (hc:(d.pool.many:Int)=Zaw d.pool.at_.length (fun i=>if d.pool.tk i=true then 1 else 0)) :
 (d.pool.many:Int)<=Zaw d.pool.at_.length (fun i=>gW d i*Za0 d i):=by
 obtain⟨k,hkk⟩:∃ k,k=d.pool.at_.length:=⟨_,rfl⟩;rw[<- hkk] at hc ⊢;have e1:Zaw k (fun i=>gW d i*(Zaz d i:Int))=Zaw k (fun i=>gW d i*Za0 d i)+Zaw k (fun i=>gW d i*Zaw k (from1 (Zab d) (Zaz d) i)):=by
  rw[<- Zfs];refine Za6 k fun i _=>?_
  cases hb:Zab d i with
  | none=>simp[gW,hb]
  | some b=>rw[hk.live.cnt.eq i b hb,Int.mul_add,hkk]
 have e2:Zaw k (fun i=>gW d i*Zaw k (from1 (Zab d) (Zaz d) i))=Zaw k (fun j=>Zaw k (fun i=>gW d i*from1 (Zab d) (Zaz d) i j)):=by
  rw[<- Zm0];exact Za6 k fun i _=>Zlh _ _ _
 have e3:Zaw k (fun j=>Zaw k (fun i=>gW d i*from1 (Zab d) (Zaz d) i j))<=Zaw k (fun j=>gW d j + -(if d.pool.tk j=true then 1 else 0)):=by
  refine Zhc k fun j _=>?_
  cases hb:Zab d j with
  | none =>
    have ht:d.pool.tk j=false:=Zgr hb;rw[Za6 (g:=fun _=>0) k (fun i _=>by simp[from1,hb]),Zdq];simp[gW,hb,ht]
  | some b =>
    have ht:d.pool.tk j=true:=(Za4 hb).1;have hp:=Zj6 hk.live h0 hb
    rw[Za6 (g:=fun i=>gW d i*toE b.lo i+gW d i*toE b.hi i) k (fun i _=>by
     simp only[from1,hb,if_pos hp,Zd2];rw[Int.mul_add]),Zfs,ht,if_pos rfl]
    have h1:=Zli (Zgk d) b.lo k;have h2:=Zli (Zgk d) b.hi k;have h3:=Zxn hk hb;omega
 have e4:Zaw k (fun i=>gW d i)<=Zaw k (fun i=>gW d i*(Zaz d i:Int)):=by
  refine Zhc k fun i _=>?_
  cases hb:Zab d i with
  | none=>simp[gW,hb]
  | some b =>
    have hp:=Zj6 hk.live h0 hb;have hg:=Zgk d i;have h1:(1:Int)<=(Zaz d i:Int):=by omega
    have h2:=Int.mul_le_mul_of_nonneg_left h1 hg;omega
 have e5:Zaw k (fun j=>gW d j + -(if d.pool.tk j=true then 1 else 0))=Zaw k (fun j=>gW d j)+Zaw k (fun j=>-(if d.pool.tk j=true then 1 else 0)):=Zfs _ _ _;have e6:Zaw k (fun j=>-(if d.pool.tk j=true then (1:Int) else 0)) = -Zaw k (fun j=>if d.pool.tk j=true then 1 else 0):=by
  have:=Zlh (-1) (fun j=>if d.pool.tk j=true then (1:Int) else 0) k;rw[Za6 (g:=fun i=>-1*if d.pool.tk i=true then (1:Int) else 0) k (fun i _=>by omega),<- this];omega
 omega
theorem Zr8 (d:Zae) (k:Nat):∀ hs:List (Int×Nat),Zaw k (fun i=>gW d i*(Zca hs i:Int))<=hs.length*((2^d.vars.length:Nat):Int)
 | []=>by
   rw[Za6 (g:=fun _=>0) k (fun i _=>by simp[Zca]),Zdq];simp
 | p::l=>by
   have ih:=Zr8 d k l;have h1:Zaw k (fun i=>gW d i*(Zca (p::l) i:Int))<=Zaw k (fun i=>gW d i*(Zca l i:Int)+gW d i*toE p.2 i):=by
    refine Zhc k fun i _=>?_
    rw[<- Int.mul_add];refine Int.mul_le_mul_of_nonneg_left ?_ (Zgk d i);unfold Zca toE
    by_cases e:p.2/2=i
    ·
     rw[if_pos e];have:(List.filter (fun p=>decide (1<p.1)&&p.2/2 == i) (p::l)).length<=(List.filter (fun p=>decide (1<p.1)&&p.2/2 == i) l).length+1:=by
      rw[List.filter_cons];split<;>simp
     omega
    ·
     rw[if_neg e,List.filter_cons_of_neg (by simp[e])];omega
   have h2:=Zli (Zgk d) p.2 k;have h3:=Ybi d (p.2/2) 0 (fun _ _=>Nat.zero_le _);rw[Zfs] at h1;rw[List.length_cons,Int.natCast_add,Int.add_mul];simp only[Nat.sub_zero] at h3;have h4:((1:Nat):Int)*((2^d.vars.length:Nat):Int)=((2^d.vars.length:Nat):Int):=by simp
   omega
section
variable {K:Law} {n:Nat} {Od:List Nat->Prop} {room:Nat} {w0 w w':World} {mb:Nat} {fs:List (Int×BF)} {nx:Int} {o o':Own} {m m':ManD} {V V':Nat->BF}
theorem SatE.few (h:SatE K n Od room w0 mb fs nx w o m V) (h0:m.d.dead=0):m.d.pool.many<=fs.length*2^n:=by
 obtain⟨s,hs⟩:=h.is;obtain⟨s2,h2⟩:=hs.store;have h1:=Zxx h.ok.store h0 h2.pool.cnt;have h3:=Zr8 m.d m.d.pool.at_.length m.hs;have h4:Zaw m.d.pool.at_.length (fun i=>gW m.d i*Za0 m.d i)=Zaw m.d.pool.at_.length (fun i=>gW m.d i*(Zca m.hs i:Int)):=by
  refine Za6 _ fun i _=>?_
  cases hb:Zab m.d i with
  | none=>simp[gW,hb]
  | some b=>rw[h.ok.handles.refs i b hb]
 have h5:fs.length=m.hs.length:=by rw[<- h.hs,List.length_map]
 rw[h5,<- h.vars];have h6:((m.hs.length*2^m.d.vars.length:Nat):Int)=m.hs.length*((2^m.d.vars.length:Nat):Int):=by rw[Int.natCast_mul]
 omega
end
open Go.RowKit
theorem Zw7 (zs:List Int) (x:Int) (i:Nat):Zuf zs x i=bub zs i (Zfq zs x-i).toNat:=rfl
theorem Zug (zs:List Int) (i d:Nat):(bub zs i (d+1)).2=((i+d:Nat):Int)::(bub (Zp8 zs ((i+d:Nat):Int)) i d).2:=rfl
def Zji (a b:List Int) (w:World) (e:Ending) (w':World):Prop :=
 ∃ v,e=.returned (.tuple #[v,.int .i64 (Zdw a b)])/\OwnI w' w.heap.size v (Zez a b)/\Below w.heap.size w w'
theorem Zf6 {a b r:List Int} {w w':World} {v:Value} {E:Int} (hE:Zdw a b=E) (hr:Zez a b=r) (hs:OwnI w' w.heap.size v r) (hb:Below w.heap.size w w') :
 Zji a b w (.returned (.tuple #[v,.int .i64 E])) w':=⟨v,by rw[hE],by rw[hr];exact hs,hb⟩
def metB (zs:List Int) (k:Nat) (v:Int):Bool:=decide (∃ j,j<k/\at0 zs j=v)
theorem Zvr (zs:List Int) (v:Int):metB zs 0 v=false:=by simp[metB]
theorem Zpk (zs:List Int) (k:Nat):metB zs (k+1) (at0 zs k)=true:=by simp only[metB,decide_eq_true_eq];exact⟨k,by omega,rfl⟩
theorem Zjq (zs:List Int) (k:Nat) (v:Int) (h:at0 zs k≠v):metB zs (k+1) v=metB zs k v:=by
 simp only[metB,decide_eq_decide];constructor
 ·
  rintro⟨j,hj,he⟩;refine⟨j,?_,he⟩
  by_cases e:j=k
  ·
   subst e;exact(h he).elim
  ·
   omega
 ·
  rintro⟨j,hj,he⟩;exact⟨j,by omega,he⟩
theorem Zvq {zs:List Int} {k:Nat} {v:Int} (h:metB zs k v=true):∃ j,j<k/\at0 zs j=v:=by simpa [metB] using h
theorem Ztc {zs:List Int} {k:Nat} {v:Int} (h:metB zs k v=false):∀ j,j<k->at0 zs j≠v:=by
 intro j hj he;have:metB zs k v=true:=by simp only[metB,decide_eq_true_eq];exact⟨j,hj,he⟩
 rw[h] at this;cases this
def Marks (w:World) (g:Nat) (zs:List Int) (k base:Nat):Prop :=
 ∃ cur,w.heap[g]?=some (.cells cur 206 (0,0))/\cur.size=64/\∀ u,u<64->cur[u]?=some (.bool (metB zs k ((base+u:Nat):Int)))
theorem Marks.cell {w:World} {g:Nat} {zs:List Int} {k base:Nat} (h:Marks w g zs k base) (u:Nat) (hu:u<64):w.cell? ⟨g,u,none⟩=some (.bool (metB zs k ((base+u:Nat):Int))):=by
 obtain⟨cur,h1,h2,h3⟩:=h;simp only[World.cell?,h1];exact h3 u hu
theorem Marks.frozen {w:World} {g:Nat} {zs:List Int} {k base:Nat} (h:Marks w g zs k base) (u:Nat):w.frozen? ⟨g,u,none⟩=false:=by
 obtain⟨cur,h1,h2,h3⟩:=h;simp[World.frozen?,h1]
theorem Marks.step_out {w:World} {g:Nat} {zs:List Int} {k base:Nat} (h:Marks w g zs k base) (hx:¬ ((base:Int)<=at0 zs k/\at0 zs k<base+64)):Marks w g zs (k+1) base:=by
 obtain⟨cur,h1,h2,h3⟩:=h;exact⟨cur,h1,h2,fun u hu=>by rw[Zjq _ _ _ (by omega)];exact h3 u hu⟩
theorem Marks.step_in {w:World} {g:Nat} {zs:List Int} {k base u:Nat} (h:Marks w g zs k base) (hx:at0 zs k=((base+u:Nat):Int)) (hu:u<64) :
 Marks (w.setCell ⟨g,u,none⟩ (.bool true)) g zs (k+1) base:=by
 obtain⟨cur,h1,h2,h3⟩:=h;refine⟨cur.setIfInBounds u (.bool true),?_,by simpa using h2,fun v hv=>?_⟩
 ·
  simp[World.setCell,Array.getElem?_modify,h1]
 ·
  by_cases e:v=u
  ·
   subst e;rw[Array.getElem?_setIfInBounds_self_of_lt (by omega),<- hx,Zpk]
  ·
   rw[Array.getElem?_setIfInBounds_ne (by omega),Zjq _ _ _ (by omega)];exact h3 v hv
theorem Zvp (w:World) (zs:List Int) (base:Nat) (cs:List Value) (hcs:cs=List.replicate 64 (.bool false)):Marks (w.alloc (.cells cs.toArray 206)) w.heap.size zs 0 base :=
 ⟨_,heap_alloc_new w _,by simp[hcs],fun u hu=>by rw[Zvr,List.getElem?_toArray,hcs,List.getElem?_replicate,if_pos hu]⟩
def Zkl (zs:List Int) (B:Nat):Prop :=
 1<=B->(∀ j,j<zs.length->0<=at0 zs j/\at0 zs j<zs.length)/\∀ i,i<zs.length->∀ l,l<i->at0 zs l=at0 zs i->(B:Int)<=at0 zs i
def Zkk (zs:List Int) (B k:Nat):Prop :=
 (∀ j,j<k->0<=at0 zs j/\at0 zs j<zs.length)/\(∀ i,i<k->∀ l,l<i->at0 zs l=at0 zs i->¬ ((B:Int)<=at0 zs i/\at0 zs i<(B:Int)+64))
theorem Zp1 (zs:List Int):Zkl zs 0:=fun h=>by omega
theorem Zpz (zs:List Int) (B:Nat):Zkk zs B 0:=⟨by omega,by omega⟩
theorem Zgw {zs:List Int} {B k:Nat} (h:Zkk zs B k) (h1:0<=at0 zs k) (h2:at0 zs k<zs.length)
 (h3:¬ ((B:Int)<=at0 zs k/\at0 zs k<(B:Int)+64)\/metB zs k (at0 zs k)=false):Zkk zs B (k+1):=by
 refine⟨fun j hj=>?_,fun i hi l hl he=>?_⟩
 ·
  by_cases e:j=k
  ·
   subst e;exact⟨h1,h2⟩
  ·
   exact h.1 j (by omega)
 ·
  by_cases e:i=k
  ·
   subst e;rcases h3 with h3|h3
   ·
    exact h3
   ·
    exact(Ztc h3 l hl he).elim
  ·
   exact h.2 i (by omega) l hl he
theorem Zp0 {zs:List Int} {B:Nat} (h:Zkl zs B) (hi:Zkk zs B zs.length):Zkl zs (B+64):=by
 refine fun _=>⟨hi.1,fun i hlt l hl he=>?_⟩
 have h2:=hi.2 i hlt l hl he;have h3:=(hi.1 i hlt).1
 by_cases hB:1<=B
 ·
  have:=(h hB).2 i hlt l hl he;omega
 ·
  omega
theorem Zpy {zs:List Int} {B:Nat} (h:Zkl zs B) (hB:zs.length<=B):Zex zs=true:=by
 rw[Zmy]
 by_cases h0:1<=B
 ·
  obtain⟨h1,h2⟩:=h h0;exact⟨h1,fun i hi k hk he=>by have:=h2 i hi k hk he;have:=(h1 i hi).2;omega⟩
 ·
  exact⟨by omega,by omega⟩
theorem Zgv {zs:List Int} {k:Nat} (hk:k<zs.length) (h:¬ (0<=at0 zs k/\at0 zs k<zs.length)):Zex zs=false:=Zju fun hh=>h (hh.1 k hk)
theorem Znx {zs:List Int} {k:Nat} (hk:k<zs.length) (h:metB zs k (at0 zs k)=true):Zex zs=false:=by
 obtain⟨j,hj,he⟩:=Zvq h;exact Zju fun hh=>hh.2 k hk j hj he
theorem Zcn (a:Option Addr) (c:Nat) (zs:List Int) (w:World) (h:Zay w a zs) (hlen:zs.length<1000000) :
 Calls Tryz.prog 232 #[.slice a zs.length c] w fun e w'=>e=.returned (.bool (Zex zs))/\Below w.heap.size w w':=by
 obtain⟨hl,hc⟩:=h;have HC1:Hid (∀ k,k<zs.length->∃ b off,a=some ⟨b,off,none⟩/\b<w.heap.size/\w.cell? ⟨b,off+k,none⟩=some (.int .i64 (at0 zs k))):=fun k hk=>by
  obtain⟨b,off,h1,h2⟩:=hc k hk;exact⟨b,off,h1,Zaa h2,h2⟩
 clear hc
 go_enter Tryz.func232,Tryz.ntmps232
 go_wp2
 go_loopw [3] (fun s3 wr=>∃ B:Nat,s3=.int .i64 B/\B<=zs.length+63/\Zkl zs B/\Below w.heap.size w wr/\w.heap.size<=wr.heap.size) (fun i _=>zs.length+64-(intOf i).toNat)
 case atStart=>exact⟨0,rfl,by omega,Zp1 zs,Below.refl _ _,Nat.le_refl _⟩
 case round =>
  obtain⟨B,rfl,hB,hrel,hbel,hsz⟩:=hrel;have HR:=Hd hrel;clear hrel
  by_cases hlt:B<zs.length
  ·
   go_wp2
   obtain⟨wo,rfl⟩:∃ wo:World,wo=wr:=⟨_,rfl⟩
   go_loopw [16] (fun i wi=>∃ k:Nat,k<=zs.length/\i=.int .i64 k/\Zkk zs B k/\Marks wi wo.heap.size zs k B/\Below w.heap.size w wi/\w.heap.size<=wi.heap.size) (fun i _=>zs.length-(intOf i).toNat)
   case atStart=>exact⟨0,by omega,rfl,Zpz zs B,Zvp _ _ _ _ rfl,hbel.alloc hsz _,by simp;omega⟩
   case round =>
    obtain⟨k,hk,rfl,hr1,hm,hbel2,hsz2⟩:=hrel;have HR1:=Hd hr1;have HM:=Hd hm;clear hr1 hm
    by_cases hkn:k<zs.length
    ·
     obtain⟨b,off,rfl,hbw,hcw⟩:=HC1.out k hkn;have hcell:=(hbel2.cell (p:=⟨b,off+k,none⟩) hbw).trans hcw;clear hcw
     by_cases hx:0<=at0 zs k/\at0 zs k<zs.length
     ·
      obtain⟨hx1,hx2⟩:=hx
      by_cases hwin:(B:Int)<=at0 zs k/\at0 zs k<(B:Int)+64
      ·
       obtain⟨hwin1,hwin2⟩:=hwin;have hu64:((at0 zs k).toNat-B)<64:=by omega
       have hu0:at0 zs k=((B+((at0 zs k).toNat-B):Nat):Int):=by omega
       have hcm:=HM.out.cell _ hu64;have hfm:=HM.out.frozen ((at0 zs k).toNat-B);rw[<- hu0] at hcm;have HU:=Hd hu0
       generalize hmb:metB zs k (at0 zs k)=mb at hcm
       have HMB:=Hd hmb;clear hmb hu0;cases mb
       ·
        go_wp2
        go_roundw
        case rel=>exact⟨k+1,by omega,by go_num,Zgw HR1.out hx1 hx2 (.inr HMB.out),HM.out.step_in HU.out hu64,hbel2.setCell hsz _,by simp;omega⟩
        case measure=>simp[intOf];omega
       ·
        go_wp2
        go_ret;exact⟨Zdv (Znx hkn HMB.out).symm,hbel2⟩
      ·
       have HW:=Hd hwin
       by_cases hlo:at0 zs k<(B:Int)
       ·
        clear hwin
        go_wp2
        go_roundw
        case rel=>exact⟨k+1,by omega,by go_num,Zgw HR1.out hx1 hx2 (.inl HW.out),HM.out.step_out HW.out,hbel2,hsz2⟩
        case measure=>simp[intOf];omega
       ·
        have hhi:(B:Int)+64<=at0 zs k:=by omega
        clear hwin
        go_wp2
        go_roundw
        case rel=>exact⟨k+1,by omega,by go_num,Zgw HR1.out hx1 hx2 (.inl HW.out),HM.out.step_out HW.out,hbel2,hsz2⟩
        case measure=>simp[intOf];omega
     ·
      have HX:=Hd hx
      by_cases hneg:at0 zs k<0
      ·
       clear hx
       go_wp2
       go_ret;exact⟨Zdv (Zgv hkn HX.out).symm,hbel2⟩
      ·
       have hge:(zs.length:Int)<=at0 zs k:=by omega
       clear hx
       go_wp2
       go_ret;exact⟨Zdv (Zgv hkn HX.out).symm,hbel2⟩
    ·
     obtain rfl:k=zs.length:=by omega
     go_wp2
     go_roundw
     case rel=>exact⟨B+64,by go_num,by omega,Zp0 HR.out HR1.out,hbel2,hsz2⟩
     case measure=>simp[intOf];omega
  ·
   go_wp2
   go_ret;exact⟨Zdv (Zpy HR.out (by omega)).symm,hbel⟩
theorem Zlq {ops:Array Oper} {rest:List Oper} {o:Oper} {a:Act} {Q:Exit->Act->World->Prop} {wr:World} (hgd:o.guard=none) (d s:Operand)
 (ho:o.op=.call { callee:=.builtin .copy,args:=#[d,s],argTypes:=#[22,22] })
 (base g:Nat) (w0:World) (zs:List Int) (xs:List Value) (ao:Option Addr) (c:Nat) (hd:a.eval d=.slice (some ⟨g,0,none⟩) zs.length zs.length) (hs:a.eval s=.slice ao zs.length c)
 (hown:wr.ownsRow base 3 1 (.slice (some ⟨g,0,none⟩) zs.length zs.length) zs.length xs) (hzs:Zay wr ao zs) (hb:Below base w0 wr)
 (h:∀ v' w',OwnI w' base (.slice (some ⟨g,0,none⟩) zs.length zs.length) zs->Below base w0 w'->base<=w'.heap.size->wpList Tryz.prog ops Q rest (a.put o.dst v') w') :
 wpList Tryz.prog ops Q (o::rest) a wr:=by
 obtain⟨hxl,hx⟩:=hown;rcases hx with ⟨hv,_⟩|⟨g',cap,cur,hv,hbg,hg,hnc,hcm,hcs,htake⟩
 ·
  cases hv
 ·
  simp only[Value.slice.injEq,Option.some.injEq,Addr.mk.injEq,and_true,true_and] at hv;obtain⟨rfl,rfl⟩:=hv;refine wpList_copy_splice (w:=wr) hgd d s 22 22 ho 3 Tryz.underlying22 (by obtain⟨i,hi,_,hsz,_⟩:=info_parts Zi3;rw[hi];simp[hsz])
   _ _ _ _ _ _ hd hs g 0 cur.toList 3 (by simpa using hg) (Zba zs) (by simp[Zba]) ?_ (by simp[Zba,hcs]) (ints_oneCell .i64 zs) base w0 hb hbg ?_
  ·
   intro hp;rw[Zgm] at hp;obtain⟨b,off,rfl,_⟩:=hzs.cells 0 hp;refine⟨rfl,_,rfl,fun j v hj=>?_⟩;have hlt:j<zs.length:=by
    rcases Nat.lt_or_ge j zs.length with h'|h'
    ·
     exact h'
    ·
     simp[Zba,List.getElem?_eq_none h'] at hj
   obtain⟨b',off',hab,hc⟩:=hzs.cells j hlt;cases hab;simp[Zba,getElem?_at0 hlt] at hj;subst hj;have hadd:(⟨b,off,none⟩:Addr).add j=⟨b,off+j,none⟩:=by unfold Addr.add;split<;>simp_all
   rw[hadd];exact hc
  ·
   intro w' hh hb';refine h _ w' ⟨by simp[Zba],.inr ⟨g,_,(Zba zs).toArray,rfl,hbg,?_,Nat.le_refl _,hcm,by simp[Zba],by simp[Zba,List.take_of_length_le]⟩⟩ hb' ?_
   ·
    have:=hh.out;rw[this];have hl:cur.toList.length=zs.length:=by simp[hcs]
    simp[splice,Zba,List.drop_eq_nil_of_le,hl]
   ·
    have h1:=hh.out;have:=(Array.getElem?_eq_some_iff.1 h1).1;omega
theorem Zoo (a:Option Addr) (c:Nat) (zs:List Int) (w:World) (h:Zay w a zs) (hlen:zs.length<1000000) :
 Calls Tryz.prog 233 #[.slice a zs.length c] w fun e w'=>∃ g,e=.returned (.slice (some ⟨g,0,none⟩) zs.length zs.length)/\OwnI w' w.heap.size (.slice (some ⟨g,0,none⟩) zs.length zs.length) zs/\Below w.heap.size w w':=by
 obtain⟨i,hi,hz,hsz,hby⟩:=info_parts Zi3;have HI:=Hd h;clear h
 go_enter Tryz.func233,Tryz.ntmps233
 go_wp2_with (first
  | (at_make;refine wpList_make_full _ rfl _ _ 22 rfl w.heap.size 3 i (.int .i64 0) 1 Tryz.underlying22 hi hz hsz .i64 .i64 _ _ zs.length rfl rfl rfl rfl (by rw[hby];omega) (by unfold maxLen;omega) (Nat.le_refl _) ?_;intro w1 hown1 hg1)
  | (with_reducible refine Zlq rfl (.tmp 7) (.tmp 8) rfl w.heap.size w.heap.size w zs _ a c rfl rfl (by exact hown1) (HI.out.keep (Zc9 hg1) (by simp)) ((Below.refl _ _).grown hg1 (Nat.le_refl _) (by simp)) ?_;intro v2 w2 hown2 hb2 hs2))
 go_ret;exact⟨_,rfl,hown2,hb2⟩
theorem Zva (a:Option Addr) (c:Nat) (zs:List Int) (x:Int) (w:World) (h:Zay w a zs) :
 Calls Tryz.prog 234 #[.slice a zs.length c,.int .i64 x] w fun e w'=>e=.returned (.int .i64 (Zfq zs x))/\∃ n,w'=w.drewN n:=by
 obtain⟨hl,hc⟩:=h;have HC:=Hd hc;clear hc
 go_enter Tryz.func234,Tryz.ntmps234
 go_wp2
 go_loop [8] (fun i=>∃ k:Nat,k<=zs.length/\i=.int .i64 k/\∀ j,j<k->at0 zs j≠x) (fun i=>zs.length-(intOf i).toNat)
 case atStart=>exact⟨0,Nat.zero_le _,rfl,by omega⟩
 case round =>
  obtain⟨k,hk,rfl,hrel⟩:=hrel;have HR:=Hd hrel;clear hrel
  by_cases hlt:k<zs.length
  ·
   obtain⟨b,off,rfl,hcell⟩:=HC.out k hlt
   by_cases hx:at0 zs k=x
   ·
    have H1:(x == at0 zs k)=true:=by simpa using hx.symm
    have HX:=Hd hx;clear hx
    go_wp2
    go_ret;exact⟨Zrb (Zps hlt HX.out HR.out).symm,0,rfl⟩
   ·
    have H1:(x == at0 zs k)=false:=by simpa using(fun e=>hx e.symm)
    go_wp2
    go_round
    case rel=>exact⟨k+1,by omega,by go_num,fun j hj=>by
     by_cases e:j=k
     ·
      subst e;exact hx
     ·
      exact HR.out j (by omega)⟩
    case measure=>simp[intOf];omega
  ·
   go_wp2
   go_ret;exact⟨Zrb (Zq8 (fun j hj=>HR.out j (by omega))).symm,0,rfl⟩
theorem OwnI.len {w:World} {base n c:Nat} {a:Option Addr} {zs:List Int} (h:OwnI w base (.slice a n c) zs):n=zs.length:=by
 rcases h.2 with ⟨hv,h0⟩|⟨g,cap,cur,hv,_⟩
 ·
  simp only[Value.slice.injEq] at hv;omega
 ·
  simp only[Value.slice.injEq] at hv;omega
theorem OwnI.intsAt {w:World} {base n c:Nat} {a:Option Addr} {zs:List Int} (h:OwnI w base (.slice a n c) zs) (hl:zs.length<=9223372036854775807):Zay w a zs:=by
 obtain rfl:=h.len;exact Zhi hl h
theorem Zxq {a:Option Addr} {n c:Nat} {zs:List Int} {x:Int} {w:World} (hn:n=zs.length) (h:Zay w a zs) :
 Calls Tryz.prog 234 #[.slice a n c,.int .i64 x] w fun e w'=>e=.returned (.int .i64 (Zfq zs x))/\∃ n,w'=w.drewN n:=by
 subst hn;exact Zva a c zs x w h
theorem Zns (va vb:Value) (xs ys:List Int) (w:World) (h:SliceIs w va xs) (h':SliceIs w vb ys) (hlen:xs.length<=1000) (hlen':ys.length<=1000) :
 Calls Tryz.prog 223 #[va,vb] w (Zji xs ys w):=by
 obtain⟨a,c,rfl,ha,hna⟩:=h;obtain⟨b,c',rfl,hb,hnb⟩:=h';have HA:=Hd ha;have HB:=Hd hb;clear ha hb hna hnb
 by_cases hr:Zex xs=true
 ·
  by_cases hr':Zex ys=true
  ·
   by_cases hl:xs.length=ys.length
   ·
    have HE:Hid (Zdw xs ys=0):=by unfold Zdw;rw[if_pos ⟨hr,hr'⟩,if_pos hl];rfl
    have HF:Hid (Zez xs ys=Ziu xs ys 0):=by unfold Zez;rw[if_pos ⟨hr,hr',hl⟩];rfl
    have HR:=Hd hr;have HR':=Hd hr';have H3:((xs.length:Int) != ys.length)=false:=by simp[hl]
    clear hr hr' hl
    go_enter Tryz.func223,Tryz.ntmps223
    go_wp2_with fail;refine(Zcn _ _ xs _ HA.out (by omega)).mono ?_;rintro e w1 ⟨rfl,hb1⟩;rw[HR.out];go_wp2_with fail;refine(Zcn _ _ ys _ (HB.out.below hb1) (by omega)).mono ?_;rintro e w2 ⟨rfl,hb2⟩;rw[HR'.out];have hb12:Below w.heap.size w w2:=hb1.trans (hb2.mono hb1.size);go_wp2_with fail;refine(Zoo _ _ xs _ (HA.out.below hb12) (by omega)).mono ?_;rintro e w3 ⟨g,rfl,hown3,hb3⟩;have hs2:=hb12.size;have hg:w2.heap.size<=g:=(hown3.lt g rfl).1;have hbel3:Below w.heap.size w w3:=hb12.trans (hb3.mono hs2);have hs3:w2.heap.size<=w3.heap.size:=hb3.size;go_wp2_with fail
    go_loopw [6,30] (fun s6 s30 wr=>∃ (k:Nat) (cur out:List Int),k<=ys.length/\s30=.int .i64 k/\OwnI wr w2.heap.size (.slice (some ⟨g,0,none⟩) xs.length xs.length) cur/\cur.length=xs.length/\OwnI wr w2.heap.size s6 out/\s6.ownBlock≠some g/\out.length<=k*1000/\out++Ziu cur (ys.drop k) k=Ziu xs ys 0/\w2.heap.size<=wr.heap.size/\Below w2.heap.size w2 wr) (fun _ s30 _=>ys.length-(intOf s30).toNat)
    case atStart=>exact⟨0,xs,[],by omega,rfl,hown3,rfl,Zkd _ _,by simp[Value.ownBlock],by simp,by simp,hs3,hb3⟩
    case round =>
     obtain⟨k,cur,out,hk,rfl,hcur,hcl,hown,hne,hol,hst,hsz,hbel⟩:=hrel;have HST:=Hd hst;have HCL:=Hd hcl;have HNE:=Hd hne;have hcl1:cur.length<=1000:=by omega
     clear hst hcl hne;have HB1:=Hd (HB.out.below (hb12.trans (hbel.mono hs2)))
     by_cases hlt:k<ys.length
     ·
      obtain⟨bb,off,rfl,hcell⟩:=HB1.out.cells k hlt;have HDR:=Hd (Zrd cur ys k hlt);have HCI:=Hd (hcur.intsAt (by omega));go_wp2_with fail;refine(Zxq HCL.out.symm (HCI.out.drewN 0)).mono ?_;rintro e w' ⟨rfl,n,rfl⟩;have hp1:=Zv7 cur (at0 ys k);have hp2:=Zv8 cur (at0 ys k);have HBT:=Hd (Zw7 cur (at0 ys k) k)
      generalize Zfq cur (at0 ys k)=p at hp1 hp2 HBT ⊢
      go_wp2_with fail;have hpl:p<xs.length\/p<=0:=by have:=HCL.out;omega
      obtain⟨N,F,HN⟩:∃ (N F:List Int),Hid (N=(bub cur k (p-k).toNat).1/\F=out++(bub cur k (p-k).toNat).2):=⟨_,_,rfl,rfl⟩
      go_loopw [6,10] (fun s6 s10 wi=>∃ (d:Nat) (c1 o1:List Int) (q:Int),s10=.int .i64 q/\-1<=q/\q<=1000/\(q<xs.length\/q<=0)/\(q<=k->d=0)/\(k<q->q=k+d)/\OwnI wi w2.heap.size (.slice (some ⟨g,0,none⟩) xs.length xs.length) c1/\c1.length=xs.length/\OwnI wi w2.heap.size s6 o1/\s6.ownBlock≠some g/\o1.length+d<=(k+1)*1000/\N=(bub c1 k d).1/\F=o1++(bub c1 k d).2/\w2.heap.size<=wi.heap.size/\Below w2.heap.size w2 wi) (fun _ s10 _=>(intOf s10+1).toNat)
      case atStart=>exact⟨(p-k).toNat,cur,out,p,rfl,hp1,by omega,hpl,by omega,by omega,hcur.drewN n,HCL.out,hown.drewN n,HNE.out,by omega,HN.out.1,HN.out.2,hsz,Zak hbel n⟩
      case round =>
       obtain⟨d,c1,o1,q,rfl,hq1,hq2,hq3,hd1,hd2,hc1,hc1l,hown1,hne1,hol1,hN,hF,hsz1,hbel1⟩:=hrel;have HN1:=Hd hN;have HF1:=Hd hF;have HC1:=Hd hc1l;have HNE1:=Hd hne1;have hc1m:c1.length<=1000:=by omega
       clear hN hF hc1l hne1
       by_cases hqk:(k:Int)<q
       ·
        obtain⟨d,rfl⟩:∃ l,d=l+1:=⟨d-1,by omega⟩;have hqe:q=(k:Int)+d+1:=by omega
        subst hqe;have hkd:k+d+1<xs.length:=by omega
        have hkd1:k+d+1<c1.length:=by rw[HC1.out];exact hkd
        clear hd1 hd2 hq3;have hw1:IntKind.i64.wrap ((k:Int)+d+1-1)=((k+d:Nat):Int):=by rw[IntWalk.i64_in _ (by omega)];omega
        have q0:=hc1.cell (k+d) (by omega);have q1:=hc1.cell (k+d+1) (by omega);have p0:=hc1.frozen (k+d);have p1:=hc1.frozen (k+d+1);have t0:((k:Int)+d).toNat=k+d:=by omega
        have t1:((k:Int)+d+1).toNat=k+d+1:=by omega
        go_wp2_with fail
        go_region
        have HSW:=Hd (Zyq (zs:=c1) (k:=k+d) hkd1);have hc3:=((hc1.stored (k+d) (at0 c1 (k+d+1))).stored (k+d+1) (at0 c1 (k+d))).drewN 1;have ho3:=((hown1.setCell_other (a:=⟨g,k+d,none⟩) HNE1.out (.int .i64 (at0 c1 (k+d+1)))).setCell_other (a:=⟨g,k+d+1,none⟩) HNE1.out (.int .i64 (at0 c1 (k+d)))).drewN 1;have hb4:=Zak ((hbel1.setCell (p:=⟨g,k+d,none⟩) hg (.int .i64 (at0 c1 (k+d+1)))).setCell (p:=⟨g,k+d+1,none⟩) hg (.int .i64 (at0 c1 (k+d)))) 1;have hg1:=(hc1.lt g rfl).2;go_wp2_with (at_builtin;go_loud (refine Zdm _ rfl _ _ rfl w2.heap.size w2 _ o1 _ rfl rfl (by rfl) (by simp) ho3 (by omega) (by simpa using hsz1) hb4 ?_);intro v2 w4 hown4 hbel4 hsz4 hkb4);have hc4:=hc3.keep hkb4.keep (fun x hx hxx=>by cases hx;exact HNE1.out hxx.symm);rw[<- HSW.out] at hc4;have hne4:=hkb4.ne HNE1.out (by simpa using hg1);go_roundw
        case rel=>exact⟨d,Zp8 c1 ((k+d:Nat):Int),o1++[((k+d:Nat):Int)],((k+d:Nat):Int),by go_num,by omega,by omega,by omega,by omega,by omega,hc4,by rw[Zp9];exact HC1.out,hown4,hne4,by simp;omega,HN1.out,by rw[HF1.out,Zug];simp,hsz4,hbel4⟩
        case measure=>simp[intOf];omega
       ·
        obtain rfl:=hd1 (by omega);have HOW:=Hd hown1;have hN2:N=c1:=HN1.out;have hF2:F=o1:=by rw[HF1.out];simp[bub]
        have HNN:=Hd hN2;have HFF:=Hd hF2;clear hN2 hF2 hd1 hd2 hown1
        go_wp2
        go_roundw
        case rel=>exact⟨k+1,N,F,by omega,by go_num,by rw[HNN.out];exact hc1,by rw[HNN.out];exact HC1.out,by rw[HFF.out];exact HOW.out,HNE1.out,by rw[HFF.out];omega,by
         rw[HN.out.1,HN.out.2,<- HST.out,HDR.out,HBT.out];simp,hsz1,hbel1⟩
        case measure=>simp[intOf];omega
     ·
      obtain rfl:k=ys.length:=by omega
      have hfin:Ziu xs ys 0=out:=by rw[<- HST.out];simp[Ziu]
      have HFIN:=Hd hfin;clear hfin
      go_wp2
      go_ret2
      exact Zf6 HE.out (HF.out.trans HFIN.out) (hown.lower hs2) (hb12.trans (hbel.mono hs2))
   ·
    have HE:Hid (Zdw xs ys=3):=by unfold Zdw;rw[if_pos ⟨hr,hr'⟩,if_neg hl];rfl
    have HF:Hid (Zez xs ys=[]):=by unfold Zez;rw[if_neg (fun hh=>hl hh.2.2)];rfl
    have HR:=Hd hr;have HR':=Hd hr';have H3:((xs.length:Int) != ys.length)=true:=by simp;omega
    clear hr hr' hl
    go_enter Tryz.func223,Tryz.ntmps223
    go_wp2_with fail;refine(Zcn _ _ xs _ HA.out (by omega)).mono ?_;rintro e w1 ⟨rfl,hb1⟩;rw[HR.out];go_wp2_with fail;refine(Zcn _ _ ys _ (HB.out.below hb1) (by omega)).mono ?_;rintro e w2 ⟨rfl,hb2⟩;rw[HR'.out];go_wp2_with fail
    go_ret2
    exact Zf6 HE.out HF.out (Zkd _ _) (hb1.trans (hb2.mono hb1.size))
  ·
   have HE:Hid (Zdw xs ys=1):=by unfold Zdw;rw[if_neg (fun hh=>hr' hh.2)];rfl
   have HF:Hid (Zez xs ys=[]):=by unfold Zez;rw[if_neg (fun hh=>hr' hh.2.1)];rfl
   have hr'':Zex ys=false:=by simpa using hr'
   have HR:=Hd hr;have HR':=Hd hr'';clear hr hr' hr''
   go_enter Tryz.func223,Tryz.ntmps223
   go_wp2_with fail;refine(Zcn _ _ xs _ HA.out (by omega)).mono ?_;rintro e w1 ⟨rfl,hb1⟩;rw[HR.out];go_wp2_with fail;refine(Zcn _ _ ys _ (HB.out.below hb1) (by omega)).mono ?_;rintro e w2 ⟨rfl,hb2⟩;rw[HR'.out];go_wp2_with fail
   go_ret2
   exact Zf6 HE.out HF.out (Zkd _ _) (hb1.trans (hb2.mono hb1.size))
 ·
  have HE:Hid (Zdw xs ys=1):=by unfold Zdw;rw[if_neg (fun hh=>hr hh.1)];rfl
  have HF:Hid (Zez xs ys=[]):=by unfold Zez;rw[if_neg (fun hh=>hr hh.1)];rfl
  have hr'':Zex xs=false:=by simpa using hr
  have HR:=Hd hr'';clear hr hr''
  go_enter Tryz.func223,Tryz.ntmps223
  go_wp2_with fail;refine(Zcn _ _ xs _ HA.out (by omega)).mono ?_;rintro e w1 ⟨rfl,hb1⟩;rw[HR.out];go_wp2_with fail
  go_ret2
  exact Zf6 HE.out HF.out (Zkd _ _) hb1
end Go.Proofs.YtmofaapnkidioaaGreat
namespace Go.Proofs
open Go.Shelf
def Tryz.lays112_ren:Go.Shelf.Ren:=⟨fun|112=>235|n=>n,fun|28=>22|3=>3|4=>4|0=>0|n=>n,fun|n=>n⟩
theorem Tryz.lays112:Go.Proofs.Lays.n112 Tryz.prog Tryz.lays112_ren:={
 mixed:=by kernel_rfl
 f112:=Tryz.func235.trans (congrArg some (by kernel_rfl))
 t0:=Tryz.underlying0
 a0:=Tryz.isAgg0
 z0:=Tryz.sizeOf0
 v0:=Tryz.zeroValue0
 t3:=Tryz.underlying3
 a3:=Tryz.isAgg3
 z3:=Tryz.sizeOf3
 v3:=Tryz.zeroValue3
 t4:=Tryz.underlying4
 a4:=Tryz.isAgg4
 z4:=Tryz.sizeOf4
 v4:=Tryz.zeroValue4
 t28:=Tryz.underlying22
 a28:=Tryz.isAgg22
 z28:=Tryz.sizeOf22
 v28:=Tryz.zeroValue22 }
open Go.RowKit Go.Lib Go.Sort in
theorem Tryz.slices_Reverse_int_arr (blk off cap:Nat) (d:Array Int) (w:World) (hH:Holds encI w blk off d) (hsz:d.size<=9223372036854775807) :
 Calls Tryz.prog 235 #[.slice (some ⟨blk,off,none⟩) d.size cap] w fun e w'=>e=.returned (.tuple #[])/\∃ n,w'=putRow encI (Sort.ahead w n) blk off d.reverse:=Any.slices_Reverse_int_arr Tryz.lays112 blk off cap d w hH hsz
open Go.RowKit Go.Lib Go.Sort in
theorem Tryz.slices_Reverse_int (blk off cap:Nat) (zs:List Int) (w:World) (hH:Holds (Value.int .i64) w blk off zs.toArray) (hsz:zs.length<=9223372036854775807) :
 Calls Tryz.prog 235 #[.slice (some ⟨blk,off,none⟩) zs.length cap] w fun e w'=>e=.returned (.tuple #[])/\∃ n,w'=putRow (Value.int .i64) (Sort.ahead w n) blk off zs.reverse.toArray:=Any.slices_Reverse_int Tryz.lays112 blk off cap zs w hH hsz
open Go.RowKit Go.Lib Go.Sort in
theorem Tryz.slices_Reverse_int_empty (a:Option Addr) (cap:Nat) (w:World) :
 Calls Tryz.prog 235 #[.slice a 0 cap] w fun e w'=>e=.returned (.tuple #[])/\w'=w:=Any.slices_Reverse_int_empty Tryz.lays112 a cap w
theorem Tryz.slices_Reverse_int_cells (b off n c:Nat) (zs:List Int) (w:World) (hz:n<=zs.length) (hbig:n<=9223372036854775807) (hc:∀ j,j<zs.length->w.cell? ⟨b,off+j,none⟩=some (.int .i64 (zs.getD j 0))) (hf:∀ j,j<n->w.frozen? ⟨b,off+j,none⟩=false) :
 Calls Tryz.prog 235 #[.slice (some ⟨b,off,none⟩) n c] w fun e w'=>e=.returned (.tuple #[])/\∃ q,w'=(w.drewN q).setCells b off ((zs.take n).reverse.map (Value.int .i64)):=Any.slices_Reverse_int_cells Tryz.lays112 b off n c zs w hz hbig hc hf
end Go.Proofs
namespace Go.Proofs.YtmofaapnkidioaaGreat
open Go.RowKit
theorem Zls {B g:Nat} {a:World} (hg:B<=g) (ys:List Value):∀ (w:World) (o:Nat),Below B a w->Below B a (w.setCells g o ys):=by
 induction ys with
 | nil=>intro w o h;exact h
 | cons y ys ih=>intro w o h;exact ih _ _ (h.setCell hg _)
theorem OwnI.setCells {base g n c:Nat} (ys:List Int):∀ (w:World) (o:Nat) (zs:List Int),OwnI w base (.slice (some ⟨g,0,none⟩) n c) zs->o+ys.length<=zs.length ->
 OwnI (w.setCells g o (Zba ys)) base (.slice (some ⟨g,0,none⟩) n c) (zs.take o++ys++zs.drop (o+ys.length)):=by
 induction ys with
 | nil=>intro w o zs h _;simpa [Zba,World.setCells] using h
 | cons y ys ih =>
   intro w o zs h hl;simp only[List.length_cons] at hl;have h1:=ih (w.setCell ⟨g,o,none⟩ (.int .i64 y)) (o+1) (zs.set o y) (h.stored o y) (by simp;omega);have e:(zs.set o y).take (o+1)++ys++(zs.set o y).drop (o+1+ys.length)=zs.take o++(y::ys)++zs.drop (o+(y::ys).length):=by
    have e1:(zs.set o y).take (o+1)=zs.take o++[y]:=by
     rw[List.set_eq_take_append_cons_drop,if_pos (by omega),List.take_append];simp;have:min o zs.length=o:=by omega
     rw[this];simp
     exact List.take_of_length_le (by simp;omega)
    have e2:(zs.set o y).drop (o+1+ys.length)=zs.drop (o+1+ys.length):=by
     rw[List.drop_set];rw[if_pos (by omega)]
    rw[e1,e2];simp[Nat.add_assoc,Nat.add_comm 1 ys.length]
   rw[e] at h1;exact h1
theorem Zpr (a:Option Addr) (c:Nat) (zs:List Int) (w:World) (h:Zay w a zs) (hlen:zs.length<1000000) :
 Calls Tryz.prog 224 #[.slice a zs.length c] w fun e w'=>∃ v,e=.returned v/\SliceIs w' v zs.reverse/\Below w.heap.size w w':=by
 have HI:=Hd h;clear h
 go_enter Tryz.func224,Tryz.ntmps224
 go_wp2_with fail;refine(Zoo _ _ zs _ HI.out hlen).mono ?_;rintro e w1 ⟨g,rfl,hown,hbel⟩;have hg:w.heap.size<=g:=(hown.lt g rfl).1;go_wp2_with fail;refine(Tryz.slices_Reverse_int_cells g 0 zs.length zs.length zs w1 (Nat.le_refl _) (by omega) (fun j hj=>by rw[Nat.zero_add];exact hown.cell j hj) (fun j hj=>by rw[Nat.zero_add];exact hown.frozen j)).mono ?_;rintro e w2 ⟨rfl,q,hw2⟩;have h2:=OwnI.setCells zs.reverse (w1.drewN q) 0 zs (hown.drewN q) (by simp);have e:zs.drop (0+zs.reverse.length)=[]:=List.drop_of_length_le (by simp);rw[e,List.take_zero,List.nil_append,List.append_nil] at h2;have hb2:Below w.heap.size w ((w1.drewN q).setCells g 0 (Zba zs.reverse)):=Zls hg _ _ _ (Zak hbel _);rw[List.take_length] at hw2
 change w2=(w1.drewN q).setCells g 0 (Zba zs.reverse) at hw2
 rw[<- hw2] at h2 hb2;clear hw2;go_wp2_with fail;go_ret;exact⟨_,rfl,h2.sliceIs (by simp;omega),hb2⟩
open Go.RowKit
abbrev KF:Law:=fun _ _ _ _ _ _ _=>False
section
variable {K:Law} {n:Nat} {Od:List Nat->Prop} {room:Nat} {w0 w w':World} {mb:Nat} {fs:List (Int×BF)} {nx:Int} {o o':Own} {m m':ManD} {V V':Nat->BF}
theorem SatE.full (h:SatE KF n Od room w0 mb fs nx w o m V):SatE K n Od room w0 mb fs nx w o m V:=by
 obtain⟨s,hs⟩:=h.is;exact⟨⟨s,hs.mono fun _ _ _ _ _ e=>e.elim⟩,h.lt,h.ok,h.vars,h.od,h.room,h.next,h.hs,h.chg⟩
theorem SatE.cleared {s:ManW} {w1:World} (h:SatE K n Od room w0 mb fs nx w o m V) (g1:Zb8 (fun _ _ _ _ _=>False) o w1 mb m s) (g2:Chg (· = .entries) o o w w1) (g3:Zaj o w1):SatE KF n Od room w0 mb fs nx w1 o m V :=
 ⟨⟨s,g1⟩,g3,h.ok,h.vars,h.od,h.room,h.next,h.hs,h.chg.lower (ChgX.of_chg g2.any NoB) (fun _ e=>e.elim)⟩
structure HapS (n room:Nat) (w0:World) (mb:Nat) (fs:List (Int×BF)) (nx:Int) (o:Own) (w:World) (m:ManD) (o':Own) (w':World) (m':ManD) (V':Nat->BF):Prop where
 sat:SatE KF n (fun _=>True) room w0 mb fs nx w' o' m' V'
 waits:m'.waits=m.waits
 calls:m'.calls=m.calls
 chg:Chg (fun _=>True) o o' w w'
 many:m'.d.pool.many<=m.d.pool.many\/m'.d.pool.many<=fs.length*2^n
theorem HapS.trans {o'':Own} {w'':World} {m'':ManD} {V'':Nat->BF} (h:HapS n room w0 mb fs nx o w m o' w' m' V') (h':HapS n room w0 mb fs nx o' w' m' o'' w'' m'' V''):HapS n room w0 mb fs nx o w m o'' w'' m'' V'' :=
 ⟨h'.sat,h'.waits.trans h.waits,h'.calls.trans h.calls,h.chg.trans h'.chg,by
  rcases h'.many with h1|h1
  ·
   exact h.many.imp (fun h2=>Nat.le_trans h1 h2) (fun h2=>Nat.le_trans h1 h2)
  ·
   exact .inr h1⟩
theorem Zu8 {s:ManW} (h:SatE KF n (fun _=>True) room w0 mb fs nx w o m V) (hs:Zb8 (fun _ _ _ _ _=>False) o w mb m s) (hn:nx<=549755813888) (z:Int) :
 Calls Tryz.prog 197 #[.pointer (some ⟨s.sb,0,none⟩),.int .i64 z] w fun e w'=>∃ q:Int,e=.returned (.int .i64 q)/\∃ o' m' V',HapS n room w0 mb fs nx o w m o' w' m' V':=by
 by_cases hz:z<0\/(n:Int)-1<=z
 ·
  refine(Zn8 hs.store h.ok.store.small z (by rw[h.vars];exact hz)).mono ?_;rintro e w' ⟨rfl,rfl⟩;exact⟨2,rfl,o,m,V,h,rfl,rfl,Chg.refl _ _ _,.inl (Nat.le_refl _)⟩
 ·
  obtain⟨k,rfl⟩:∃ k:Nat,z=k:=⟨z.toNat,by omega⟩;refine(Zwm h hs (Chg.refl _ _ _) h.lt (by omega) hn).mono ?_;rintro e w' ⟨o',m',V',hm⟩;obtain⟨d0,cr,hw⟩:=hm.way;rcases hw with ⟨e1,e2,_⟩|⟨e1,so⟩
  ·
   exact⟨7,e1,o',m',V',hm.sat,hm.waits,hm.calls,hm.chg,.inr (hm.sat.few (by rw[e2];exact cr.dead))⟩
  ·
   exact⟨0,e1,o',m',V',hm.sat,hm.waits,hm.calls,hm.chg,.inr (hm.sat.few so.dead)⟩
theorem Zsw {s:ManW} (h:SatE KF n (fun _=>True) room w0 mb fs nx w o m V) (hs:Zb8 (fun _ _ _ _ _=>False) o w mb m s) :
 Calls Tryz.prog 212 #[.pointer (some ⟨s.sb,0,none⟩)] w fun e w'=>∃ q:Int,e=.returned (.int .i64 q)/\∃ o' m' V',HapS n room w0 mb fs nx o w m o' w' m' V':=by
 refine(Zhs hs.store h.lt h.ok.store).mono ?_;rintro e w' ⟨rfl,o',d',st,lt,cr,ch⟩;have hst:SatE KF n (fun _=>True) room w0 mb fs nx w' o' { m with d:=d' } V:=⟨⟨s,hs.setStore h.lt st ch⟩,lt,⟨cr.ok h.ok.store,Zgl h.ok.handles h.ok.store cr⟩,by dsimp only;rw[cr.vars];exact h.vars,trivial,by dsimp only;rw[cr.room];exact h.room,h.next,h.hs,h.chg.lower (ChgX.of_chg ch.any NoB) (fun _ e=>e.elim)⟩;exact⟨_,rfl,o',{ m with d:=d' },V,hst,rfl,rfl,ch.any,.inr (hst.few cr.dead)⟩
theorem Zq7 {base:Nat} {v:Value} {zs:List Int} (h:OwnI w base v zs):zs.length<=9223372036854775807:=by
 rcases h.2 with ⟨_,h0⟩|⟨g,cap,cur,_,_,_,h1,h2,_⟩
 ·
  omega
 ·
  unfold maxLen at h2;omega
theorem Zay.chg {R:Role->Prop} {a:Option Addr} {zs:List Int} (h:Zay w a zs) (hc:Chg R o o' w w') (hn:∀ x,a=some x->o x.block=none):Zay w' a zs :=
 ⟨h.len,fun k hk=>by
  obtain⟨b,off,rfl,hc1⟩:=h.cells k hk;exact⟨b,off,rfl,hc.cell (p:=⟨b,off+k,none⟩) hc1 (hn ⟨b,off,none⟩ rfl)⟩⟩
theorem Zi2 (hn:nx<=549755813888) (ev:Ev):HapG K n (fun _=>True) room w0 mb fs nx ev:=by
 intro o W m V h;obtain⟨P,hP⟩:∃ P:Ending->World->Prop,P=fun x w'=>x=.returned (.tuple #[]) /\
  ∃ o' m' V',SatE K n (fun _=>True) room w0 mb fs nx w' o' m' V'/\m'.waits=m.waits/\m'.calls=m.calls/\(m'.d.pool.many<=m.d.pool.many\/m'.d.pool.many<=fs.length*2^n)/\ChgX NoB o o' W w':=⟨_,rfl⟩
 rw[<- hP];obtain⟨W1,hW1⟩:∃ W1,W1=W.alloc (.cells #[.int .i64 ev.after,.int .i64 ev.kind,.int .i64 ev.level] 103):=⟨_,rfl⟩;have hb1:Below W.heap.size W W1:=by rw[hW1];exact Zac W _
 obtain⟨bx,hbx⟩:∃ q,q=W.heap.size:=⟨_,rfl⟩;have HB1:Hid (Box o W1 bx (.cells #[.int .i64 ev.after,.int .i64 ev.kind,.int .i64 ev.level] 103 (0,0))):=Hd ⟨by rw[hW1,hbx];exact heap_alloc_new W _,h.lt.none (by rw[hbx];exact Nat.le_refl _)⟩;have h1:=h.below hb1
 have HP:Hid (∀ o' w' m' V',HapS n room w0 mb fs nx o W1 m o' w' m' V'->P (.returned (.tuple #[])) w'):=Hd (by
  intro o' w' m' V' hh;rw[hP];exact⟨rfl,o',m',V',hh.sat.full,hh.waits,hh.calls,hh.many,(ChgX.of_below hb1 o NoB).trans (ChgX.of_chg hh.chg NoB) (fun _ _ e=>e)⟩)
 obtain⟨s,hs⟩:=h1.is;obtain⟨c0,c1,c2,c3,c4,c5,f0⟩:=cells6 hs.blk;have HCL:=Hd (wclear h1 hs (fun _ _ _ _ _=>False));have H1:=Hd h1;obtain⟨kd,hkd⟩:∃ z,z=ev.kind:=⟨_,rfl⟩;obtain⟨lv,hlv⟩:∃ z,z=ev.level:=⟨_,rfl⟩;obtain⟨af,haf⟩:∃ z,z=ev.after:=⟨_,rfl⟩;have HN:=Hd hn;unfold evA;rw[<- hkd,<- hlv,<- haf] at HB1 hW1 ⊢;have HW:=Hd hW1;have HX:=Hd hbx;clear h h1 hs hP hb1 hbx hkd hlv haf hn hW1
 go_enter Tryz.func199,Tryz.ntmps199
 go_upto_region 1 with fail;rw[<- HW.out,<- HX.out];go_wp2_with fail;refine HCL.out.mono ?_;rintro x w1 ⟨rfl,g1,g2,g3⟩;have HS1:=Hd (H1.out.cleared g1 g2 g3);have HB2:=Hd (HB1.out.chg g2);have HG:=Hd g1;have HCH:Hid (Chg (fun _=>True) o o W1 w1):=Hd g2.any;have b1:w1.cell? ⟨bx,1,none⟩=some (.int .i64 kd):=HB2.out.cell 1;have b2:w1.cell? ⟨bx,2,none⟩=some (.int .i64 lv):=HB2.out.cell 2;clear c0 c1 c2 c3 c4 c5 f0 HCL g1 g2 g3;obtain⟨c0,c1,c2,c3,c4,c5,f0⟩:=cells6 HG.out.blk
 by_cases k1:kd=1
 ·
  subst k1;have HC:=Hd (Zsw HS1.out HG.out);go_wp2_with fail;refine HC.out.mono ?_;rintro x w2 ⟨q,rfl,o',m',V',hh⟩;have HF:=Hd (HP.out o' w2 m' V' ⟨hh.sat,hh.waits,hh.calls,HCH.out.trans hh.chg,hh.many⟩);clear hh;go_wp2_with fail;refine bodyPost_end (results_none rfl _ _ _) rfl ?_;exact HF.out
 ·
  have e1:(kd == 1)=false:=by simp[k1]
  by_cases k2:kd=2
  ·
   subst k2;clear k1 e1;have HC:=Hd (Zu8 (HS1.out.below (Zaf w1 1)) (HG.out.below HS1.out.lt (Zaf w1 1)) HN.out lv);go_upto_region 13 with fail;refine Zap (fun W:World=>W=w1.drew) true 6 [(0,false),(1,false),(2,false),(3,false),(4,false),(5,false),(6,true)] (by kernel_rfl) (by kernel_rfl) rfl ?_;simp only[planned,Zde]
   iterate 6
    refine Zaq rfl ?_;apply Exists.intro;refine⟨fun w' hw=>?_,?_⟩
    ·
     subst hw;go_simp;rfl
    simp only[Zag]
   refine Zdp rfl (by go_simp) (HC.out.mono (R':=fun e w'=>∃ v,e=.returned v/\∃ o' m' V',HapS n room w0 mb fs nx o w1.drew m o' w' m' V') (fun e w' h=>by obtain⟨q,e1,h2⟩:=h;exact⟨_,e1,h2⟩)) ?_;rintro v w2 ⟨o',m',V',hh⟩;simp only[Zag];refine Zbv ?_;have HF:=Hd (HP.out o' w2 m' V' ⟨hh.sat,hh.waits,hh.calls,HCH.out.trans ((Chg.of_below (Zaf w1 1) _ _).trans hh.chg),hh.many⟩);clear hh;go_wp2_with fail;refine bodyPost_end (results_none rfl _ _ _) rfl ?_;exact HF.out
  ·
   have e2:(kd == 2)=false:=by simp[k2]
   clear k1 k2;have hvl:m.d.vars.length<=64:=HS1.out.ok.store.small;have HO:=Hd (Zhn HG.out.store HS1.out.lt hvl);go_wp2_with fail;refine HO.out.mono ?_;rintro x w2 ⟨v,rfl,hown,hb2⟩;obtain⟨zs,hzs⟩:∃ zs,zs=m.d.vars.map Int.ofNat:=⟨_,rfl⟩;have hzl:zs.length<=64:=by rw[hzs,List.length_map];exact hvl
   rw[<- hzs] at hown;obtain⟨a,c,rfl,ha,hna⟩:=hown.sliceIs (by omega);have HT:=Hd (Zpr a c zs w2 ha (by omega));have HSL:Hid (SliceIs w2 (.slice a zs.length c) zs):=Hd ⟨a,c,rfl,ha,hna⟩;have HB22:=Hd hb2;have HZL:=Hd hzl;clear hown hb2 hzs ha hna hvl c0 c1 c2 c3 c4 c5 f0 b1 b2 HO;go_wp2_with fail;refine HT.out.mono ?_;rintro x w3 ⟨vt,rfl,hst,hb3⟩;obtain⟨at',ct',hvt,q1,q2⟩:=hst;rw[List.length_reverse] at hvt;subst hvt;have HST:=Hd (Zns (.slice a zs.length c) (.slice at' zs.length ct') zs zs.reverse w3 (HSL.out.below hb3) ⟨at',ct',by rw[List.length_reverse],q1,q2⟩ (by omega) (by simp;omega));have HB3:=Hd hb3;clear hb3 HT q1 q2;go_wp2_with fail;refine HST.out.mono ?_;rintro x w4 ⟨vr,rfl,hor,hb4⟩;obtain⟨rs,hrs⟩:∃ rs,rs=Zez zs zs.reverse:=⟨_,rfl⟩;obtain⟨er,her⟩:∃ z,z=Zdw zs zs.reverse:=⟨_,rfl⟩;rw[<- hrs] at hor;rw[<- her];have hbx:Below w1.heap.size w1 w4:=HB22.out.trans ((HB3.out.trans (hb4.mono HB3.out.size)).mono HB22.out.size);have hlow:=hor.lt;have hrl:rs.length<=9223372036854775807:=Zq7 hor;obtain⟨ar,cr,rfl,hi,_⟩:=hor.sliceIs hrl
   have HI0:Hid (∃ o' m' V',HapS n room w0 mb fs nx o w1 m o' w4 m' V'/\Zay w4 ar rs/\(∀ x,ar=some x->o' x.block=none)):=Hd ⟨o,m,V,(⟨HS1.out.below hbx,rfl,rfl,Chg.of_below hbx _ _,.inl (Nat.le_refl _)⟩:HapS n room w0 mb fs nx o w1 m o w4 m V),hi,fun x hx=>by
    subst hx;refine HS1.out.lt.none ?_;have h1:=(hlow _ rfl).1;have h2:=HB22.out.size;have h3:=HB3.out.size;omega⟩
   clear her hrs hor hb4 hbx hlow hi HST;go_wp2_with fail
   go_loopw [30] (fun s30 wr=>∃ j:Nat,j<=rs.length/\s30=.int .i64 j/\Hid (∃ o' m' V',HapS n room w0 mb fs nx o w1 m o' wr m' V'/\Zay wr ar rs/\(∀ x,ar=some x->o' x.block=none))) (fun s30 _=>rs.length-(intOf s30).toNat)
   case atStart=>exact⟨0,Nat.zero_le _,rfl,HI0⟩
   case round =>
    obtain⟨j,hj,rfl,HH⟩:=hrel;obtain⟨oj,mj,Vj,hh,hi,hno⟩:=HH.out
    by_cases hlt:j<rs.length
    ·
     obtain⟨b,off,rfl,hcell⟩:=hi.cells j hlt;obtain⟨s',hs'⟩:=hh.sat.is;obtain⟨c0,c1,c2,c3,c4,c5,f0⟩:=cells6 hs'.blk;have hjz:(j:Int)<rs.length:=by omega
     obtain⟨z,hz⟩:∃ z,z=at0 rs j:=⟨_,rfl⟩;rw[<- hz] at hcell;have HC:=Hd (Zu8 hh.sat hs' HN.out z);have HHJ:=Hd hh;have HIJ:=Hd hi;have HNO:=Hd hno;have hblt:b<wr.heap.size:=Zaa hcell;have HBL:=Hd hblt;have HJL:=Hd hlt;clear hh hi hno hs' HH HI0 hz hblt;go_wp2_with fail;refine HC.out.mono ?_;rintro x w5 ⟨q,rfl,o5,m5,V5,h5⟩;have HNX:=Hd (And.intro (HHJ.out.trans h5) (And.intro (HIJ.out.chg h5.chg HNO.out) (fun x (hx:some _=some x)=>h5.chg.alien' (by cases hx;exact HBL.out) (HNO.out x hx))));clear h5 c0 c1 c2 c3 c4 c5 f0 hcell;go_wp2_with fail;go_roundw
     case rel=>exact⟨j+1,Nat.succ_le_of_lt HJL.out,by go_num,Hd ⟨_,_,_,HNX.out.1,HNX.out.2.1,HNX.out.2.2⟩⟩
     case measure =>
      have:=HJL.out;simp[intOf];omega
    ·
     obtain rfl:j=rs.length:=by omega
     have HF:=Hd (HP.out oj wr mj Vj ⟨hh.sat,hh.waits,hh.calls,HCH.out.trans hh.chg,hh.many⟩);clear hh hi hno HH HI0;go_wp2_with fail;refine bodyPost_end (results_none rfl _ _ _) rfl ?_;exact HF.out
end
open Go.RowKit
section
variable {K:Law} {n:Nat} {Od:List Nat->Prop} {room:Nat} {w0 w w':World} {mb:Nat} {fs:List (Int×BF)} {nx:Int} {o o':Own} {m m':ManD} {V V':Nat->BF}
structure NewH (K:Law) (n:Nat) (Od:List Nat->Prop) (room:Nat) (w0:World) (mb:Nat) (fs:List (Int×BF)) (nx:Int) (o:Own) (w:World) (m:ManD) (V:Nat->BF) (F:BF) (o':Own) (w':World) (m':ManD):Prop where
 sat:SatE K n Od room w0 mb (fs++[(nx,F)]) (nx+1) w' o' m' V
 waits:m'.waits=m.waits
 calls:m'.calls=m.calls
 nodes:Zab m'.d=Zab m.d
 vars:m'.d.vars=m.d.vars
 many:m'.d.pool.many=m.d.pool.many
 chg:Chg (fun _=>True) o o' w w'
theorem Zq0 (hK:Zb3 K) (h:SatE K n Od room w0 mb fs nx w o m V) (hn:nx<549755813888) {k:Int} {F:BF} (hk:(k,F)∈fs) :
 Calls Tryz.prog 139 #[.pointer (some ⟨mb,0,none⟩),.int .i64 k] w fun x w'=>x=.returned (.tuple #[.int .i64 nx,.int .i64 0])/\∃ o' m',NewH K n Od room w0 mb fs nx o w m V F o' w' m':=by
 obtain⟨f,hf,rfl⟩:=h.find hk;obtain⟨s,hs⟩:=h.is;obtain⟨c0,c1,c2,c3,c4,c5,f0⟩:=cells6 hs.blk;have hl:=Zfa hs h.ok.handles.nodup hf;have hnx:=h.next
 have HG:=Hd (Znh hK h.is h.lt h.ok f (h.ok.handles.ok _ hf) (by rw[hnx];omega));have H:=Hd h;rw[hnx] at HG;clear hs h hf hk hnx
 go_enter Tryz.func139,Tryz.ntmps139
 go_wp2_with fail;refine HG.out.mono ?_;rintro x w1 ⟨rfl,o',m',hg⟩;have HQ:Hid (NewH K n Od room w0 mb fs nx o w m V (ef V f) o' w1 m'):=Hd ⟨H.out.gave hg,hg.waits,hg.calls,hg.nodes,hg.vars,hg.many,hg.chg⟩;clear hg;go_wp2_with fail
 go_ret2
 exact⟨rfl,_,_,HQ.out⟩
theorem Yaq {N:Nat->Option BN} {e:Nat} (h:okE N e):okE N (enot e):=by
 unfold okE at h ⊢;rw[Zfo];exact h
theorem Zs9 (hK:Zb3 K) (h:SatE K n Od room w0 mb fs nx w o m V) (hn:nx<549755813888) {k:Int} {F:BF} (hk:(k,F)∈fs) :
 Calls Tryz.prog 142 #[.pointer (some ⟨mb,0,none⟩),.int .i64 k] w fun x w'=>x=.returned (.tuple #[.int .i64 nx,.int .i64 0])/\∃ o' m',NewH K n Od room w0 mb fs nx o w m V (fun ρ => !F ρ) o' w' m':=by
 obtain⟨f,hf,rfl⟩:=h.find hk;obtain⟨s,hs⟩:=h.is;obtain⟨c0,c1,c2,c3,c4,c5,f0⟩:=cells6 hs.blk;have hl:=Zfa hs h.ok.handles.nodup hf;have hnx:=h.next
 have hok:=h.ok.handles.ok _ hf;have hlt:f<eMax:=by
  obtain⟨s2,h2⟩:=hs.store;have:=h2.edge_lt hok;unfold eMax;omega
 have HG:=Hd (Znh hK h.is h.lt h.ok (enot f) (Yaq hok) (by rw[hnx];omega));have HNOT:=Hd (Zi5 f w hlt);have H:=Hd h;rw[hnx] at HG;clear hs h hf hk hnx hok hlt
 go_enter Tryz.func142,Tryz.ntmps142
 go_wp2_with fail;refine HNOT.out.mono ?_;rintro x w1 ⟨rfl,rfl⟩;go_wp2_with fail;refine HG.out.mono ?_;rintro x w1 ⟨rfl,o',m',hg⟩
 have HQ:Hid (NewH K n Od room w0 mb fs nx o w m V (fun ρ => !ef V f ρ) o' w1 m'):=Hd (by
  have e:(fun ρ => !ef V f ρ)=ef V (enot f):=by funext ρ;rw[Zhv]
  rw[e];exact⟨H.out.gave hg,hg.waits,hg.calls,hg.nodes,hg.vars,hg.many,hg.chg⟩)
 clear hg;go_wp2_with fail
 go_ret2
 exact⟨rfl,_,_,HQ.out⟩
theorem SatE.nofind (h:SatE K n Od room w0 mb fs nx w o m V) {k:Int} (hk:∀ p∈fs,p.1≠k):∀ f,(k,f)∉m.hs:=by
 intro f hf;refine hk (k,ef V f) ?_ rfl;rw[<- h.hs];exact List.mem_map.2 ⟨(k,f),hf,rfl⟩
theorem Zvo (h:SatE K n Od room w0 mb fs nx w o m V) {k:Int} {F:BF} (hk:(k,F)∈fs) :
 Calls Tryz.prog 36 #[.pointer (some ⟨mb,0,none⟩),.int .i64 k] w fun x w'=>x=.returned (.bool true)/\w=w':=by
 obtain⟨f,hf,rfl⟩:=h.find hk;obtain⟨s,hs⟩:=h.is;obtain⟨c0,c1,c2,c3,c4,c5,f0⟩:=cells6 hs.blk;have hl:=Zfa hs h.ok.handles.nodup hf;clear hs h hf hk
 go_enter Tryz.func36,Tryz.ntmps36
 go_wp2_with fail;go_ret;exact⟨rfl,rfl⟩
theorem Zxw (h:SatE K n Od room w0 mb fs nx w o m V) {k:Int} (hk:∀ p∈fs,p.1≠k) :
 Calls Tryz.prog 36 #[.pointer (some ⟨mb,0,none⟩),.int .i64 k] w fun x w'=>x=.returned (.bool false)/\w=w':=by
 have hno:=h.nofind hk;obtain⟨s,hs⟩:=h.is;obtain⟨c0,c1,c2,c3,c4,c5,f0⟩:=cells6 hs.blk;have hl:=Yal hs hno;clear hs h hno hk
 go_enter Tryz.func36,Tryz.ntmps36
 go_wp2_with fail;go_ret;exact⟨rfl,rfl⟩
end
open Go.RowKit
def delK {α:Type} (k:Int) (l:List (Int×α)):List (Int×α):=l.filter fun p=>decide (p.1≠k)
theorem Zkv {α:Type} {k:Int} {l:List (Int×α)} (h:∀ p∈l,p.1≠k):delK k l=l:=by
 unfold delK;rw[List.filter_eq_self];intro p hp;simp[h p hp]
theorem Zf2 {α:Type} {x:Int×α} {l:List (Int×α)} (h:((x::l).map Prod.fst).Nodup):∀ p∈l,p.1≠x.1:=by
 intro p hp e;rw[List.map_cons,List.nodup_cons] at h;exact h.1 (List.mem_map.2 ⟨p,hp,e⟩)
theorem Zjm {α:Type} {x:Int×α} {l:List (Int×α)} (h:((x::l).map Prod.fst).Nodup):delK x.1 (x::l)=l:=by
 have h1:=Zkv (Zf2 h);unfold delK at h1 ⊢;rw[List.filter_cons_of_neg (by simp),h1]
theorem Zjn {α:Type} {k:Int} {x:Int×α} {l:List (Int×α)} (h:x.1≠k):delK k (x::l)=x::delK k l:=by
 unfold delK;rw[List.filter_cons_of_pos (by simp[h])]
theorem Zid {α:Type} {k:Int}:∀ (l:List (Int×α)) (j:Nat) (hj:j<l.length),(l.map Prod.fst).Nodup->l[j].1=k->l.eraseIdx j=delK k l
 | x::l,0,_,hn,hk=>by
   have e:x.1=k:=hk;subst e;rw[Zjm hn];rfl
 | x::l,j+1,hj,hn,hk=>by
   have hj':j<l.length:=by simpa using hj
   have hk':l[j].1=k:=by simpa using hk
   have hx:x.1≠k:=by
    intro e;exact Zf2 hn l[j] (List.getElem_mem hj') (hk'.trans e.symm)
   have hn':(l.map Prod.fst).Nodup:=by rw[List.map_cons,List.nodup_cons] at hn;exact hn.2
   rw[Zjn hx,List.eraseIdx_cons_succ,Zid l j hj' hn' hk']
theorem Zrr {α β:Type} (k:Int) (l:List (Int×α)) (g:Int×α->Int×β) (hg:∀ p,(g p).1=p.1):(delK k l).map g=delK k (l.map g):=by
 unfold delK;rw[List.filter_map];congr 1;refine List.filter_congr fun p _=>?_
 simp[hg]
theorem Zz1 {k:Int} {l:List (Int×Value)} (hn:(l.map Prod.fst).Nodup) {v:Value} (hk:(k,v)∈l):delL k l=delK k l:=by
 unfold delL;cases e:Zdf k l 0 with
 | none =>
   have h1:=Zc0 hn hk;unfold getL at h1;rw[e] at h1;cases h1
 | some p =>
   obtain⟨j,u⟩:=p;have h2:=Zc8 e;obtain⟨q,h3,h4⟩:=h2;have hq:j=q:=by omega
   subst hq;obtain⟨h5,h6⟩:=List.getElem?_eq_some_iff.1 h4;exact Zid l j h5 hn (by rw[h6])
theorem Zj7 {α:Type} {k:Int} {l:List (Int×α)} {p:Int×α}:p∈delK k l↔p∈l/\p.1≠k:=by
 unfold delK;rw[List.mem_filter];simp
theorem Zr6 {k:Int} {f:Nat} (h1:1<k):∀ (hs:List (Int×Nat)),(hs.map Prod.fst).Nodup->(k,f)∈hs->∀ i,Zca hs i=Zca (delK k hs) i+(if f/2=i then 1 else 0)
 | [],_,h,_=>by cases h
 | x::l,hn,hm,i=>by
   have hn':(l.map Prod.fst).Nodup:=by rw[List.map_cons,List.nodup_cons] at hn;exact hn.2
   by_cases e:x.1=k
   ·
    have hx:x=(k,f):=by
     rcases List.mem_cons.1 hm with h|h
     ·
      exact h.symm
     ·
      exact((Zf2 hn _ h) e.symm).elim
    subst hx;rw[Zjm hn];unfold Zca
    by_cases e2:f/2=i
    ·
     rw[List.filter_cons_of_pos (by simp[h1,e2]),List.length_cons,if_pos e2]
    ·
     rw[List.filter_cons_of_neg (by simp[e2]),if_neg e2];rfl
   ·
    have hm':(k,f)∈l:=by
     rcases List.mem_cons.1 hm with h|h
     ·
      rw[<- h] at e;exact(e rfl).elim
     ·
      exact h
    have ih:=Zr6 h1 l hn' hm' i;rw[Zjn e];unfold Zca at ih ⊢
    by_cases e3:(decide (1<x.1)&&x.2/2 == i)=true
    ·
     rw[List.filter_cons_of_pos (p:=fun p:Int×Nat=>decide (1<p.1)&&p.2/2 == i) e3,List.filter_cons_of_pos (p:=fun p:Int×Nat=>decide (1<p.1)&&p.2/2 == i) e3,List.length_cons,List.length_cons];omega
    ·
     rw[List.filter_cons_of_neg (p:=fun p:Int×Nat=>decide (1<p.1)&&p.2/2 == i) e3,List.filter_cons_of_neg (p:=fun p:Int×Nat=>decide (1<p.1)&&p.2/2 == i) e3];exact ih
theorem Zo1 {m:ManD} {d':Zae} {k:Int} {f:Nat} (h:Zcc m) (r:Zge m.d d' f (-1)) (hk:(k,f)∈m.hs) (h1:1<k) (h0:Zab m.d 0=none):Zcc { m with d:=d',hs:=delK k m.hs }:=by
 have hne:∀ {p:Int×Nat},p∈delK k m.hs->p∈m.hs:=fun hp=>(Zj7.1 hp).1
 refine⟨?_,Zj7.2 ⟨h.zero,by dsimp only;omega⟩,Zj7.2 ⟨h.one,by dsimp only;omega⟩,fun p hp=>h.lt p (hne hp),h.next,fun p hp=>?_,?_,fun i b hb=>?_⟩
 ·
  exact h.nodup.sublist ((List.filter_sublist).map _)
 ·
  show okE (Zab d') p.2
  rw[r.nodes];exact h.ok p (hne hp)
 ·
  have h2:(delK k m.hs).length<=m.hs.length:=List.length_filter_le _ _;have h3:=h.len
  show ((delK k m.hs).length:Int)<=m.next
  omega
 ·
  have hb':Zab m.d i=some b:=by
   have:Zab d' i=some b:=hb;rw[r.nodes] at this;exact this
  have hi:i≠0:=by rintro rfl;rw[h0] at hb';cases hb'
  show Za0 d' i=(Zca (delK k m.hs) i:Int)
  rw[r.ext i hi,h.refs i b hb',Zr6 h1 m.hs h.nodup hk i];unfold toE;split<;>(simp;try omega)
section
variable {K:Law} {n:Nat} {Od:List Nat->Prop} {room:Nat} {w0 w w':World} {mb:Nat} {fs:List (Int×BF)} {nx:Int} {o o':Own} {m m':ManD} {V V':Nat->BF}
theorem Zp4 {sb:Nat} (h:Zav o w sb m.d) (hlt:Zaj o w) (hk:Zsl m V) {k:Int} {f:Nat} (hf:(k,f)∈m.hs) (h1:1<k) (hn:m.next<549755813888) :
 Calls Tryz.prog 116 #[.pointer (some ⟨sb,0,none⟩),.int .i64 f] w fun x w'=>x=.returned (.int .i64 0)/\∃ d',Zav o w' sb d'/\Zaj o w'/\Zge m.d d' f (-1)/\Chg Zar o o w w':=by
 have htop:∀ y b,Zab m.d y=some b->Za0 m.d y<1099511627776:=fun y b _=>by have:=Zzb hk.handles y;omega
 have hok:=hk.handles.ok _ hf;obtain⟨s,h⟩:=h;have hlt':=h.edge_lt hok;rcases hok with h0|⟨b,hb⟩
 ·
  refine(Zl5 h hlt hk.store.live f (by unfold eMax;omega) h0).mono ?_;rintro e w' ⟨d',h1,h2,h3,h4,h5⟩;exact⟨h1,d',⟨s,h2⟩,h3,h4,h5⟩
 ·
  have hat:=h.pool.top;have hrm:=h.pool.room;refine(Zl4 h hlt hk.store.live (Zy9 hk.store) f (b:=b) hb htop ?_ (fun y c hc=>?_)).mono ?_
  ·
   have h2:=hk.handles.refs (enode f) b hb;have h3:0<Zca m.hs (f/2):=Zr7 hf h1;have h4:Za0 m.d (enode f)=(Zca m.hs (f/2):Int):=h2;omega
  ·
   have h1:=hk.store.live.cnt.le hc;have h2:=htop y c hc;omega
  ·
   rintro e w' ⟨d',h1,h2,h3,h4,h5⟩;exact⟨h1,d',⟨s,h2⟩,h3,h4,h5⟩
end
open Go.RowKit
def Zhf {α:Type} (l:List (Int×α)) (ks:List Int):List (Int×α):=ks.foldl (fun l k=>if 1<k then delK k l else l) l
theorem Zmf {α:Type} {l:List (Int×α)} {ks:List Int} {j:Nat} (hj:j<ks.length):Zhf l (ks.take (j+1))=if 1<at0 ks j then delK (at0 ks j) (Zhf l (ks.take j)) else Zhf l (ks.take j):=by
 unfold Zhf;rw[List.take_succ_eq_append_getElem hj,List.foldl_append,Zbq hj];rfl
section
variable {K:Law} {n:Nat} {Od:List Nat->Prop} {room:Nat} {w0 w w':World} {mb:Nat} {fs:List (Int×BF)} {nx:Int} {o o':Own} {m m':ManD} {V V':Nat->BF}
structure Zjx (K:Law) (n:Nat) (Od:List Nat->Prop) (room:Nat) (w0:World) (mb:Nat) (fs:List (Int×BF)) (nx:Int) (o:Own) (w:World) (m:ManD) (V:Nat->BF) (o':Own) (w':World) (m':ManD):Prop where
 sat:SatE K n Od room w0 mb fs nx w' o' m' V
 waits:m'.waits=m.waits
 calls:m'.calls=m.calls
 nodes:Zab m'.d=Zab m.d
 many:m'.d.pool.many=m.d.pool.many
 chg:Chg (fun _=>True) o o' w w'
theorem Zjx.trans {fs' fs'':List (Int×BF)} {o'':Own} {w'':World} {m'':ManD} (h:Zjx K n Od room w0 mb fs' nx o w m V o' w' m') (h':Zjx K n Od room w0 mb fs'' nx o' w' m' V o'' w'' m''):Zjx K n Od room w0 mb fs'' nx o w m V o'' w'' m'' :=
 ⟨h'.sat,h'.waits.trans h.waits,h'.calls.trans h.calls,h'.nodes.trans h.nodes,h'.many.trans h.many,h.chg.trans h'.chg⟩
theorem Zxe (hK:Zb3 K) (h:SatE K n Od room w0 mb fs nx w o m V) {k:Int} {f:Nat} (hf:(k,f)∈m.hs) (h1:1<k) {s:ManW} (hs:Zb8 (K m.d V) o w mb m s) {w1:World} {d':Zae} (hst:Zav o w1 s.sb d') (hl1:Zaj o w1) (hr:Zge m.d d' f (-1)) (hc1:Chg Zar o o w w1) :
 Zb8 (K m.d V) o w1 mb { m with d:=d' } s/\∃ w2,(Builtin.delete_ #[126,3] 0 #[.map (some s.hb),.int .i64 k]).run Tryz.prog w1=.ok (.tuple #[]) w2/\Zjx K n Od room w0 mb (delK k fs) nx o w m V o w2 { m with d:=d',hs:=delK k m.hs }:=by
 have hM1:=hs.setStore h.lt hst hc1;refine⟨hM1,?_⟩;obtain⟨w2,hrun,hm2,hg2⟩:=hM1.map.delete kI Tryz.underlying126 k 0;refine⟨w2,hrun,?_⟩;have he:delL k (encH m.hs)=encH (delK k m.hs):=by
  rw[Zz1 (Zer h.ok.handles.nodup) (v:=.int .i64 (f:Nat)) (List.mem_map.2 ⟨(k,f),hf,rfl⟩)];exact(Zrr k m.hs (fun p=>(p.1,Value.int .i64 (p.2:Nat))) (fun _=>rfl)).symm
 have hm3:Zb9 w2 s.hb (Value.int .i64) (encH (delK k m.hs)):=by rw[<- he];exact hm2
 have hM2:=hM1.setMap hl1 hm3 hg2;have hl2:Zaj o w2:=hl1.mono hg2.size;have hc2:Chg (fun _=>True) o o w w2:=hc1.any.grown hg2 (fun g hg=>by cases hg;exact⟨_,hM1.ownh,trivial⟩);refine⟨⟨⟨s,hM2.mono fun op a b c r q=>hK.same _ _ _ _ _ _ _ _ hr.vars hr.level hr.nodes q⟩,hl2,⟨hr.ok h.ok.store,Zo1 h.ok.handles hr hf h1 h.ok.store.dag.none0⟩,?_,?_,?_,h.next,?_,h.chg.lower (ChgX.of_chg hc2 NoB) (fun _ e=>e.elim)⟩,rfl,rfl,hr.nodes,hr.many,hc2⟩
 ·
  show d'.vars.length=n
  rw[hr.vars];exact h.vars
 ·
  show Od d'.vars
  rw[hr.vars];exact h.od
 ·
  show d'.pool.room=room
  rw[hr.room];exact h.room
 ·
  show (delK k m.hs).map (fun p=>(p.1,ef V p.2))=delK k fs
  rw[Zrr k m.hs (fun p=>(p.1,ef V p.2)) (fun _=>rfl),h.hs]
theorem Zq1 (hK:Zb3 K) (h:SatE K n Od room w0 mb fs nx w o m V) (hn:nx<549755813888) {a:Option Addr} {c:Nat} {ks:List Int} (hks:Zay w a ks) (hno:∀ x,a=some x->o x.block=none)
 (hin:∀ j,j<ks.length->∃ F,(at0 ks j,F)∈Zhf fs (ks.take j)) :
 Calls Tryz.prog 50 #[.pointer (some ⟨mb,0,none⟩),.slice a ks.length c] w fun x w'=>x=.returned (.int .i64 0)/\∃ o' m',Zjx K n Od room w0 mb (Zhf fs ks) nx o w m V o' w' m':=by
 have hrl:=hks.len;have HI0:Hid (∃ o' m',Zjx K n Od room w0 mb (Zhf fs (ks.take 0)) nx o w m V o' w m'/\Zay w a ks/\(∀ x,a=some x->o' x.block=none)):=Hd ⟨o,m,⟨h,rfl,rfl,rfl,rfl,Chg.refl _ _ _⟩,hks,hno⟩;have HIN:=Hd hin;have HN:=Hd hn;have HLAW:=Hd hK;clear h hn hks hno hin hK
 go_enter Tryz.func50,Tryz.ntmps50
 go_wp2_with fail
 go_loopw [13] (fun s13 wr=>∃ j:Nat,j<=ks.length/\s13=.int .i64 j/\Hid (∃ o' m',Zjx K n Od room w0 mb (Zhf fs (ks.take j)) nx o w m V o' wr m'/\Zay wr a ks/\(∀ x,a=some x->o' x.block=none))) (fun s13 _=>ks.length-(intOf s13).toNat)
 case atStart=>exact⟨0,Nat.zero_le _,rfl,HI0⟩
 case round =>
  obtain⟨j,hj,rfl,HH⟩:=hrel;obtain⟨oj,mj,hh,hi,hno⟩:=HH.out
  by_cases hlt:j<ks.length
  ·
   obtain⟨b,off,rfl,hcell⟩:=hi.cells j hlt;obtain⟨s,hs⟩:=hh.sat.is;obtain⟨c0,c1,c2,c3,c4,c5,f0⟩:=cells6 hs.blk;have hjz:(j:Int)<ks.length:=by omega
   obtain⟨z,hz⟩:∃ z,z=at0 ks j:=⟨_,rfl⟩;obtain⟨F,hF⟩:=HIN.out j hlt;rw[<- hz] at hF hcell;obtain⟨f,hf,hfF⟩:=hh.sat.find hF;have hl:=Zfa hs hh.sat.ok.handles.nodup hf;have HHJ:=Hd hh;have HIJ:=Hd hi;have HNO:=Hd hno;have HBL:Hid (b<wr.heap.size):=Hd (Zaa hcell);have HJL:=Hd hlt;have HZ:=Hd hz;have HS:=Hd hs;have HF:=Hd hf
   by_cases h1:z>1
   ·
    have HD:=Hd (Zp4 hs.store hh.sat.lt hh.sat.ok hf h1 (by rw[hh.sat.next];exact HN.out));have H1:=Hd h1;clear hh hi hno hs HH HI0 hz hF hf hfF;go_wp2_with fail;refine HD.out.mono ?_;rintro x w1 ⟨rfl,d',hst,hl1,hr,hc1⟩;obtain⟨hM1,w2,hrun,hdh⟩:=Zxe HLAW.out HHJ.out.sat HF.out H1.out HS.out hst hl1 hr hc1;obtain⟨e0,e1,e2,e3,e4,e5,g0⟩:=cells6 hM1.blk
    have HNX:Hid (Zjx K n Od room w0 mb (Zhf fs (ks.take (j+1))) nx o w m V oj w2 { mj with d:=d',hs:=delK z mj.hs }/\Zay w2 (some ⟨b,off,none⟩) ks/\(∀ x,some (⟨b,off,none⟩:Addr)=some x->oj x.block=none)):=Hd ⟨by
     rw[Zmf HJL.out,<- HZ.out,if_pos H1.out];exact HHJ.out.trans hdh,HIJ.out.chg hdh.chg HNO.out,fun x hx=>hdh.chg.alien' (by cases hx;exact HBL.out) (HNO.out x hx)⟩
    clear hM1 hst hl1 hr hc1 hdh c0 c1 c2 c3 c4 c5 f0 hcell hl;go_wp2_with fail;go_roundw
    case rel=>exact⟨j+1,Nat.succ_le_of_lt HJL.out,by go_num,Hd ⟨_,_,HNX.out.1,HNX.out.2.1,HNX.out.2.2⟩⟩
    case measure =>
     have:=HJL.out;simp[intOf];omega
   ·
    have HNX:Hid (Zjx K n Od room w0 mb (Zhf fs (ks.take (j+1))) nx o w m V oj wr mj/\Zay wr (some ⟨b,off,none⟩) ks/\(∀ x,some (⟨b,off,none⟩:Addr)=some x->oj x.block=none)):=Hd ⟨by
     rw[Zmf HJL.out,<- HZ.out,if_neg h1];exact HHJ.out,HIJ.out,HNO.out⟩
    clear hh hi hno hs HH HI0 hz hF hf hfF;go_wp2_with fail;go_roundw
    case rel=>exact⟨j+1,Nat.succ_le_of_lt HJL.out,by go_num,Hd ⟨_,_,HNX.out.1,HNX.out.2.1,HNX.out.2.2⟩⟩
    case measure =>
     have:=HJL.out;simp[intOf];omega
  ·
   obtain rfl:j=ks.length:=by omega
   have HF:Hid (∃ o' m',Zjx K n Od room w0 mb (Zhf fs ks) nx o w m V o' wr m'):=Hd ⟨oj,mj,by rw[List.take_length] at hh;exact hh⟩;clear hh hi hno HH HI0;go_wp2_with fail;go_ret;exact⟨rfl,HF.out⟩
end
open Go.RowKit
section
variable {K:Law} {n:Nat} {Od:List Nat->Prop} {room:Nat} {w0 w w':World} {mb:Nat} {fs:List (Int×BF)} {nx:Int} {o o':Own} {m m':ManD} {V V':Nat->BF}
structure Swapped (K:Law) (n room:Nat) (w0:World) (mb:Nat) (fs:List (Int×BF)) (nx:Int) (k:Nat) (o:Own) (w:World) (m:ManD) (o':Own) (w':World) (m':ManD) (V':Nat->BF):Prop where
 sat:SatE K n (fun l=>l=(Zep m.d k).vars) room w0 mb fs nx w' o' m' V'
 waits:m'.waits=m.waits
 calls:m'.calls=m.calls
 dead:m'.d.dead=0
 chg:Chg (fun _=>True) o o' w w'
theorem Ztb (h:SatE K n Od room w0 mb fs nx w o m V) {k:Nat} (hk1:k+1<n) (hn:nx<=549755813888) (hr:3*(fs.length*2^n)<=room) :
 Calls Tryz.prog 138 #[.pointer (some ⟨mb,0,none⟩),.int .i64 k] w fun e w'=>e=.returned (.int .i64 0)/\∃ o' m' V',Swapped K n room w0 mb fs nx k o w m o' w' m' V':=by
 refine(Zq4 h hk1 hn).mono ?_;rintro e w' ⟨o',m',V',hm⟩;obtain⟨d0,cr,⟨rfl,e1,e2,hlow⟩|⟨rfl,so⟩⟩:=hm.way
 ·
  exfalso;have h1:=hm.sat.few (by rw[e1];exact cr.dead);have h2:=hm.sat.room;rw[e1] at h1 h2;omega
 ·
  refine⟨rfl,o',m',V',⟨hm.sat.withOd ?_,hm.waits,hm.calls,so.dead,hm.chg⟩⟩;rw[so.vars];unfold Zep;dsimp only;rw[cr.vars]
theorem Zk2 (h:SatE K n Od room w0 mb fs nx w o m V) {k l:Int} {F G:BF} (hk:(k,F)∈fs) (hl:(l,G)∈fs) :
 Calls Tryz.prog 22 #[.pointer (some ⟨mb,0,none⟩),.int .i64 k,.int .i64 l] w fun x w'=>∃ b:Bool,x=.returned (.tuple #[.bool b,.int .i64 0])/\(b=true↔F=G)/\w=w':=by
 obtain⟨f,hf,rfl⟩:=h.find hk;obtain⟨g,hg,rfl⟩:=h.find hl;refine(Zyf h.is h.ok.handles.nodup hf hg).mono ?_;rintro x w' ⟨rfl,rfl⟩;refine⟨_,rfl,?_,rfl⟩;rw[beq_iff_eq];exact⟨fun e=>by rw[e],fun e=>h.ok.store.dag.canon (h.ok.handles.ok _ hf) (h.ok.handles.ok _ hg) e⟩
end
open Go.RowKit
theorem Zpi {α:Type} {p:Int×α}:∀ {ks:List Int} {l:List (Int×α)},p∈l->p.1∉ks->p∈Zhf l ks
 | [],l,h,_=>h
 | k::ks,l,h,hn=>by
   show p∈Zhf (if 1<k then delK k l else l) ks
   simp only[List.mem_cons,not_or] at hn;refine Zpi ?_ hn.2;split
   ·
    exact Zj7.2 ⟨h,hn.1⟩
   ·
    exact h
theorem Zxc {α:Type} {l r:List (Int×α)} {p:Int×α} (h:((l++p::r).map Prod.fst).Nodup):delK p.1 (l++p::r)=l++r:=by
 rw[List.map_append,List.map_cons,List.nodup_append] at h;obtain⟨h1,h2,h3⟩:=h;have hl:∀ q∈l,q.1≠p.1:=fun q hq e=>h3 q.1 (List.mem_map.2 ⟨q,hq,rfl⟩) p.1 (List.mem_cons_self ..) e
 have hr:∀ q∈r,q.1≠p.1:=fun q hq e=>(List.nodup_cons.1 h2).1 (List.mem_map.2 ⟨q,hq,e⟩)
 have e1:delK p.1 (l++p::r)=delK p.1 l++delK p.1 r:=by
  unfold delK;rw[List.filter_append,List.filter_cons];simp
 rw[e1,Zkv hl,Zkv hr]
theorem Zos {α:Type}:∀ (hs l r:List (Int×α)),((l++(hs++r)).map Prod.fst).Nodup->(∀ p∈hs,1<p.1)->Zhf (l++(hs++r)) (hs.map Prod.fst)=l++r
 | [],l,r,_,_=>rfl
 | p::hs,l,r,hn,h1=>by
   show Zhf (if 1<p.1 then delK p.1 (l++(p::(hs++r))) else l++(p::(hs++r))) (hs.map Prod.fst)=_
   have hn':((l++p::(hs++r)).map Prod.fst).Nodup:=hn;rw[if_pos (h1 p (List.mem_cons_self ..)),Zxc hn'];refine Zos hs l r ?_ (fun q hq=>h1 q (List.mem_cons_of_mem _ hq));have:=hn;rw[List.map_append,List.nodup_append] at this ⊢;obtain⟨q1,q2,q3⟩:=this;exact⟨q1,(List.nodup_cons.1 q2).2,fun x hx y hy=>q3 x hx y (List.mem_cons_of_mem _ hy)⟩
section
variable {K:Law} {n:Nat} {Od:List Nat->Prop} {room:Nat} {w0 w w':World} {mb:Nat} {fs:List (Int×BF)} {nx:Int} {o o':Own} {m m':ManD} {V V':Nat->BF}
theorem SatE.fst (h:SatE K n Od room w0 mb fs nx w o m V):fs.map Prod.fst=m.hs.map Prod.fst:=by rw[<- h.hs,List.map_map];rfl
theorem SatE.nodup (h:SatE K n Od room w0 mb fs nx w o m V):(fs.map Prod.fst).Nodup:=by rw[h.fst];exact h.ok.handles.nodup
theorem SatE.range (h:SatE K n Od room w0 mb fs nx w o m V):∀ p∈fs,0<=p.1/\p.1<nx:=by
 intro p hp;rw[<- h.hs] at hp;obtain⟨q,hq,rfl⟩:=List.mem_map.1 hp;rw[<- h.next];exact h.ok.handles.lt q hq
structure B2 (fs:List (Int×BF)):Prop where
 zero:(0,fun _=>false)∈fs
 one:(1,fun _=>true)∈fs
theorem B2.app {fs:List (Int×BF)} (h:B2 fs) (hs:List (Int×BF)):B2 (fs++hs):=⟨List.mem_append_left _ h.zero,List.mem_append_left _ h.one⟩
theorem SatE.gt {hs:List (Int×BF)} (h:SatE K n Od room w0 mb (fs++hs) nx w o m V) (hb:B2 fs):∀ p∈hs,1<p.1:=by
 intro p hp;have h1:=(h.range p (List.mem_append_right _ hp)).1;have h2:=h.nodup;rw[List.map_append,List.nodup_append] at h2;have h3:=fun k hk=>h2.2.2 k hk p.1 (List.mem_map.2 ⟨p,hp,rfl⟩)
 have h4:=h3 0 (List.mem_map.2 ⟨_,hb.zero,rfl⟩);have h5:=h3 1 (List.mem_map.2 ⟨_,hb.one,rfl⟩);omega
theorem Zq2 (hK:Zb3 K) {hs r:List (Int×BF)} (h:SatE K n Od room w0 mb (fs++(hs++r)) nx w o m V) (hb:B2 fs) (hn:nx<549755813888) {a:Option Addr} {c:Nat} (hks:Zay w a (hs.map Prod.fst)) (hno:∀ x,a=some x->o x.block=none) :
 Calls Tryz.prog 50 #[.pointer (some ⟨mb,0,none⟩),.slice a hs.length c] w fun x w'=>x=.returned (.int .i64 0)/\∃ o' m',Zjx K n Od room w0 mb (fs++r) nx o w m V o' w' m':=by
 have hnd:=h.nodup;have hgt:=h.gt hb;have e:Zhf (fs++(hs++r)) (hs.map Prod.fst)=fs++r:=Zos hs fs r hnd (fun p hp=>hgt p (List.mem_append_left _ hp));have:=Zq1 hK h hn (c:=c) hks hno fun j hj=>by
  have hj':j<hs.length:=by simpa using hj
  have e1:at0 (hs.map Prod.fst) j=hs[j].1:=by rw[Zbq hj];simp
  refine⟨hs[j].2,?_⟩;rw[e1];refine Zpi (List.mem_append_right _ (List.mem_append_left _ (List.getElem_mem hj'))) ?_;rw[List.map_append,List.nodup_append,List.map_append,List.nodup_append] at hnd;have hh:=hnd.2.1.1;intro hc;obtain⟨i,hi,e2⟩:=List.getElem_of_mem hc;have hi2:i<j:=by simp at hi;omega
  rw[List.getElem_take] at e2;exact(List.pairwise_iff_getElem.1 hh) i j (by simp;omega) hj hi2 (by rw[e2];simp)
 rw[e,List.length_map] at this;exact this
theorem Zpm {ws0:List Ev} {lim:Option Nat} {k:Nat} {F:BF} {x:Ending} (hp:Zjh K n Od room w0 mb fs nx ws0 lim k F o w x w') (hk:k<=2^n) (hr:(fs.length+1)*2^n<=room) :
 ∃ o' m' V',ChgX NoB o o' w w'/\m'.waits <:+ ws0/\x=.returned (.tuple #[.int .i64 nx,.int .i64 0])/\SatE K n Od room w0 mb (fs++[(nx,F)]) (nx+1) w' o' m' V':=by
 obtain⟨o',m',V',h1,h2,⟨h3,_,h4⟩|⟨_,_,_,m0,⟨W,oo,VV,hs⟩,h5,h6⟩⟩:=hp
 ·
  exact⟨o',m',V',h1,h2,h3,h4⟩
 ·
  exfalso;have:=hs.few h5;rw[Nat.add_mul] at hr;omega
theorem Zmq {M k:Nat} {F:BF} {x:Ending} (hp:Zjh K n Od room w0 mb fs nx [] (some M) k F o w x w') :
 ∃ o' m' V',ChgX NoB o o' w w'/\(m'.waits=[]/\m'.d.pool.many<=M+k)/\x=.returned (.tuple #[.int .i64 nx,.int .i64 0])/\SatE K n Od room w0 mb (fs++[(nx,F)]) (nx+1) w' o' m' V':=by
 obtain⟨o',m',V',h1,h2,⟨h3,h5,h4⟩|⟨_,h,_⟩⟩:=hp
 ·
  exact⟨o',m',V',h1,⟨by simpa using h2,h5 M rfl⟩,h3,h4⟩
 ·
  cases h
end
open Go.RowKit
def cntT:Nat->(Nat->Bool)->Nat
 | 0,_=>0
 | k+1,f=>cntT k f+(if f k then 1 else 0)
theorem Zfn (k:Nat) (f:Nat->Bool):cntT (k+1) f=cntT k f+(if f k then 1 else 0):=rfl
theorem Zun (f:Nat->Bool):∀ k,cntT k f<=k
 | 0=>Nat.le_refl _
 | k+1=>by
   have:=Zun f k;rw[Zfn];split<;>omega
def opB (op:Int) (n:Nat) (f:Nat->Bool):Bool :=
 if op=1 then true else if op=4 then decide (cntT n f=0) else if op=5 then decide (cntT n f=n) else if op=6 then decide (0<cntT n f) else if op=7 then decide (cntT n f%2=1)
 else if op=8 then (!f 0||f 1) else if op=9 then decide (cntT n f≠1) else if op=10 then iteB (f 0) (f 1) (f 2) else false
def fnT:ExT->BF
 | .nil=>fun _=>false
 | .mk op v n kid=>fun ρ=>if op=3 then ρ v.toNat else opB op n fun i=>fnT (kid i) ρ
def notF (F:BF):BF:=fun ρ => !F ρ
def Zo9 (op:Int) (F G:BF):BF :=
 if op=5 then Zd4 F G (fun _=>false) else if op=6 then Zd4 F (fun _=>true) G else if op=8 then Zd4 F G (fun _=>true) else if op=7 then Zd4 F (notF G) G else Zd4 F G (notF G)
def accT (op:Int) (kid:Nat->ExT):Nat->BF
 | 0=>fun _=>decide (op=5)
 | k+1=>Zo9 op (accT op kid k) (fnT (kid k))
theorem Zy6 (kid:Nat->ExT) (ρ:Nat->Bool):∀ k,accT 5 kid k ρ=decide (cntT k (fun i=>fnT (kid i) ρ)=k)
 | 0=>rfl
 | k+1=>by
   have h1:accT 5 kid (k+1) ρ=iteB (accT 5 kid k ρ) (fnT (kid k) ρ) false:=rfl;have h2:=Zun (fun i=>fnT (kid i) ρ) k;rw[h1,Zy6 kid ρ k,Zfn];unfold iteB;cases hf:fnT (kid k) ρ
   ·
    have:(cntT k fun i=>fnT (kid i) ρ)+0≠k+1:=by omega
    simp only[Bool.false_eq_true,if_false,decide_eq_false this];split<;>rfl
   ·
    simp
theorem Zy7 (kid:Nat->ExT) (ρ:Nat->Bool):∀ k,accT 6 kid k ρ=decide (0<cntT k (fun i=>fnT (kid i) ρ))
 | 0=>rfl
 | k+1=>by
   have h1:accT 6 kid (k+1) ρ=iteB (accT 6 kid k ρ) true (fnT (kid k) ρ):=rfl;rw[h1,Zy7 kid ρ k,Zfn];unfold iteB;cases hf:fnT (kid k) ρ<;>simp
theorem Zy8 (kid:Nat->ExT) (ρ:Nat->Bool):∀ k,accT 7 kid k ρ=decide (cntT k (fun i=>fnT (kid i) ρ)%2=1)
 | 0=>rfl
 | k+1=>by
   have h1:accT 7 kid (k+1) ρ=iteB (accT 7 kid k ρ) (!(fnT (kid k) ρ)) (fnT (kid k) ρ):=rfl;rw[h1,Zy8 kid ρ k,Zfn];unfold iteB;rcases Nat.mod_two_eq_zero_or_one (cntT k fun i=>fnT (kid i) ρ) with e|e
   ·
    cases hf:fnT (kid k) ρ<;>simp[e]<;>omega
   ·
    cases hf:fnT (kid k) ρ<;>simp[e]<;>omega
theorem Zz9 {op:Int} (h:op=5\/op=6\/op=7) (v:Int) (n:Nat) (kid:Nat->ExT):fnT (.mk op v n kid)=accT op kid n:=by
 funext ρ;rcases h with rfl|rfl|rfl
 ·
  rw[Zy6];rfl
 ·
  rw[Zy7];rfl
 ·
  rw[Zy8];rfl
theorem Zrq (f:Nat->Bool):cntT 1 f=if f 0 then 1 else 0:=by rw[Zfn];exact Nat.zero_add _
theorem Zw8 (f:Nat->Bool):cntT 2 f=(if f 0 then 1 else 0)+(if f 1 then 1 else 0):=by rw[Zfn,Zrq]
theorem Yab (v:Int) (kid:Nat->ExT):fnT (.mk 4 v 1 kid)=notF (fnT (kid 0)):=by
 funext ρ
 show decide (cntT 1 (fun i=>fnT (kid i) ρ)=0) = !(fnT (kid 0) ρ)
 rw[Bool.eq_iff_iff,decide_eq_true_iff,Zrq];cases fnT (kid 0) ρ<;>simp
theorem Yaa (v:Int) (kid:Nat->ExT):fnT (.mk 10 v 3 kid)=Zd4 (fnT (kid 0)) (fnT (kid 1)) (fnT (kid 2)):=rfl
theorem Zxl {op:Int} (h:op=8\/op=9) (v:Int) (kid:Nat->ExT):fnT (.mk op v 2 kid)=Zo9 op (fnT (kid 0)) (fnT (kid 1)):=by
 funext ρ;rcases h with rfl|rfl
 ·
  show (!fnT (kid 0) ρ||fnT (kid 1) ρ)=iteB (fnT (kid 0) ρ) (fnT (kid 1) ρ) true
  unfold iteB;cases fnT (kid 0) ρ<;>simp
 ·
  show decide (cntT 2 (fun i=>fnT (kid i) ρ)≠1)=iteB (fnT (kid 0) ρ) (fnT (kid 1) ρ) (!fnT (kid 1) ρ)
  rw[Bool.eq_iff_iff,decide_eq_true_iff,Zw8];unfold iteB;cases fnT (kid 0) ρ<;>cases fnT (kid 1) ρ<;>simp
theorem Zo0 {op:Int} (h:op=1\/op=2) (v:Int) (n:Nat) (kid:Nat->ExT):fnT (.mk op v n kid)=fun _=>decide (op=1):=by
 rcases h with rfl|rfl<;>rfl
theorem Yac (v:Nat) (n:Nat) (kid:Nat->ExT):fnT (.mk 3 v n kid)=varF v:=by
 funext ρ;rfl
def DepF (n:Nat) (F:BF):Prop:=∀ ρ ρ':Nat->Bool,(∀ i,i<n->ρ i=ρ' i)->F ρ=F ρ'
theorem Zpj {f:Nat->List Int} {i:Nat} {x:Int}:∀ {n:Nat},i<n->x∈f i->x∈Zhg n f
 | 0,h,_=>by omega
 | k+1,h,hx=>by
   unfold Zhg;rcases Nat.lt_or_ge i k with h'|h'
   ·
    exact List.mem_append_left _ (Zpj h' hx)
   ·
    obtain rfl:i=k:=by omega
    exact List.mem_append_right _ hx
theorem Zzv (n:Nat) (ρ:Nat->Bool):∃ i,i<2^n/\∀ v,v<n->bitB i v=ρ v:=by
 induction n with
 | zero=>exact⟨0,by simp,fun v hv=>by omega⟩
 | succ n ih =>
   obtain⟨i,hi,hb⟩:=ih;have hp:0<2^n:=Nat.pow_pos (by omega);refine⟨i+(if ρ n then 2^n else 0),by rw[Nat.pow_succ];split<;>omega,fun v hv=>?_⟩;rcases Nat.lt_or_ge v n with h|h
   ·
    rw[<- hb v h];unfold bitB;split
    ·
     obtain⟨k,rfl⟩:∃ k,n=v+(k+1):=⟨n-v-1,by omega⟩;have e1:(2:Nat)^(v+(k+1))=2^v*(2*2^k):=by rw[Nat.pow_add,Nat.pow_succ];ac_rfl
     rw[e1,Nat.add_mul_div_left _ _ (Nat.pow_pos (by omega)),Nat.add_mul_mod_self_left]
    ·
     rw[Nat.add_zero]
   ·
    obtain rfl:v=n:=by omega
    unfold bitB;cases hr:ρ v with
    | true =>
      rw[if_pos rfl,Nat.add_div_right _ hp,Nat.div_eq_of_lt hi];rfl
    | false =>
      rw[if_neg (by simp),Nat.add_zero,Nat.div_eq_of_lt hi];rfl
theorem Ya1 {n:Nat} {F G:BF} (hF:DepF n F) (hG:DepF n G) (h:tabB n F=tabB n G):F=G:=by
 funext ρ;obtain⟨i,hi,hb⟩:=Zzv n ρ;have e:∀ v,v<n->ρ v=Zb1 (Zce i n) v:=fun v hv=>by rw[Zdn,hb v hv];simp[hv]
 rw[hF ρ _ e,hG ρ _ e,<- Zfe (F:=F) hi,<- Zfe (F:=G) hi,h]
open Go.RowKit
theorem Zrf {n:Nat} {f:Nat->Nat} (h1:∀ i,i<n->f i<n) (h2:∀ i j,i<n->j<n->f i=f j->i=j) {j:Nat} (hj:j<n):∃ i,i<n/\f i=j:=by
 by_cases h:∃ i,i<n/\f i=j
 ·
  exact h
 exfalso;have hno:∀ i,i<n->f i≠j:=fun i hi e=>h ⟨i,hi,e⟩
 have hnd:(j::(List.range n).map f).Nodup:=by
  refine List.nodup_cons.2 ⟨?_,?_⟩
  ·
   intro hm;obtain⟨i,hi,e⟩:=List.mem_map.1 hm;exact hno i (List.mem_range.1 hi) e
  ·
   refine List.pairwise_map.2 (List.nodup_range.imp_of_mem ?_);intro a b ha hb hab e;exact hab (h2 a b (List.mem_range.1 ha) (List.mem_range.1 hb) e)
 have:=Zil n _ hnd (fun x hx=>by
  rcases List.mem_cons.1 hx with rfl|hx
  ·
   exact hj
  ·
   obtain⟨i,hi,rfl⟩:=List.mem_map.1 hx;exact h1 i (List.mem_range.1 hi))
 simp at this;omega
theorem Zzx {zs:List Int} {v:Int} {p:Nat} (h:at0 zs p=v) (hu:∀ i,i<zs.length->at0 zs i=v->i=p):∀ k,k<=zs.length->cntP zs v k=if p<k then 1 else 0
 | 0,_=>by simp[cntP]
 | k+1,hk=>by
   have ih:=Zzx h hu k (by omega)
   by_cases e:at0 zs k=v
   ·
    have:=hu k (by omega) e;subst this;rw[Zfw (by omega) e,ih];simp
   ·
    rw[Zqn (by omega) e,ih];have:p≠k:=fun e2=>e (by rw[<- e2];exact h)
    by_cases h3:p<k
    ·
     rw[if_pos h3,if_pos (by omega)]
    ·
     rw[if_neg h3,if_neg (by omega)]
theorem Zgi {zs:List Int} {v:Int} {i:Nat}:∀ {j:Nat},i<=j->j<=zs.length->cntP zs v i<=cntP zs v j
 | 0,h,_=>by
   obtain rfl:i=0:=by omega
   exact Nat.le_refl _
 | j+1,h,hj=>by
   rcases Nat.lt_or_ge i (j+1) with h'|h'
   ·
    have:=Zgi (zs:=zs) (v:=v) (show i<=j by omega) (by omega)
    by_cases e:at0 zs j=v
    ·
     rw[Zfw (by omega) e];omega
    ·
     rw[Zqn (by omega) e];omega
   ·
    obtain rfl:i=j+1:=by omega
    exact Nat.le_refl _
structure Zzp (zs:List Int) (n:Nat):Prop where
 len:zs.length=n
 lt:∀ i,i<n->∃ v:Nat,v<n/\at0 zs i=(v:Nat)
 inj:∀ i j,i<n->j<n->at0 zs i=at0 zs j->i=j
theorem Zx8 {zs:List Int} {n:Nat} (h:Zgt zs n=true):Zzp zs n:=by
 unfold Zgt at h;rw[decide_eq_true_eq] at h;obtain⟨h1,h2⟩:=h;have h1':zs.length=n:=by omega
 subst h1';have hp:∀ v:Nat,v<zs.length->∃ p,p<zs.length/\at0 zs p=(v:Nat):=by
  intro v hv;have e:=h2 v hv;unfold cntP at e;rw[List.take_length] at e;have hm:0<(zs.filter (fun z=>decide (z=(v:Int)))).length:=by omega
  obtain⟨z,hz⟩:=List.length_pos_iff_exists_mem.1 hm;obtain⟨q1,q2⟩:=List.mem_filter.1 hz;obtain⟨i,hi,e2⟩:=List.getElem_of_mem q1;refine⟨i,hi,?_⟩;rw[Zbq hi,e2];simpa using q2
 have hsur:∀ i,i<zs.length->∃ v,v<zs.length/\at0 zs i=(v:Nat):=by
  have hc:∃ f:Nat->Nat,∀ v,v<zs.length->f v<zs.length/\at0 zs (f v)=(v:Nat):=by
   refine⟨fun v=>if hv:v<zs.length then Classical.choose (hp v hv) else 0,fun v hv=>?_⟩;dsimp only;rw[dif_pos hv];exact Classical.choose_spec (hp v hv)
  obtain⟨f,hf⟩:=hc;intro i hi
  obtain⟨v,hv,e⟩:=Zrf (n:=zs.length) (f:=f) (fun v hv=>(hf v hv).1) (fun a b ha hb e=>by
   have e1:=(hf a ha).2;have e2:=(hf b hb).2;rw[e,e2] at e1;omega) hi
  exact⟨v,hv,by rw[<- e];exact(hf v hv).2⟩
 refine⟨rfl,hsur,fun i j hi hj e=>?_⟩;obtain⟨v,hv,ei⟩:=hsur i hi;have ec:=h2 v hv;have ej:at0 zs j=(v:Nat):=by rw[<- e];exact ei
 rcases Nat.lt_trichotomy i j with hlt|rfl|hlt
 ·
  have a1:=Zfw hi ei;have a2:=Zfw hj ej;have a3:=Zgi (zs:=zs) (v:=(v:Nat)) (show i+1<=j by omega) (by omega);have a4:=Zgi (zs:=zs) (v:=(v:Nat)) (show j+1<=zs.length by omega) (Nat.le_refl _);omega
 ·
  rfl
 ·
  have a1:=Zfw hi ei;have a2:=Zfw hj ej;have a3:=Zgi (zs:=zs) (v:=(v:Nat)) (show j+1<=i by omega) (by omega);have a4:=Zgi (zs:=zs) (v:=(v:Nat)) (show i+1<=zs.length by omega) (Nat.le_refl _);omega
theorem Zzt {l:List Nat} {i:Nat} (hi:i<l.length):at0 (l.map Int.ofNat) i=(l.getD i 0:Nat):=by
 rw[Zbq (by simpa using hi)];simp[List.getD,hi]
theorem Zan.mem {d:Zae} {V:Nat->BF} (h:Zan d V) {v:Nat} (hv:v<d.vars.length):∃ i,i<d.vars.length/\d.vars.getD i 0=v:=⟨levN d v,h.dag.lt v hv,h.inv v hv⟩
theorem Zan.inj {d:Zae} {V:Nat->BF} (h:Zan d V) {i j:Nat} (hi:i<d.vars.length) (hj:j<d.vars.length) (e:d.vars.getD i 0=d.vars.getD j 0):i=j:=by
 have a:=(h.vlt i hi).2;have b:=(h.vlt j hj).2;rw[e,b] at a;exact a.symm
def exL (l:List Nat) (k:Nat):List Nat:=(l.set k (l.getD (k+1) 0)).set (k+1) (l.getD k 0)
theorem Zxj {l:List Nat} {k:Nat} (h:k+1<l.length):(exL l k).getD k 0=l.getD (k+1) 0:=by
 unfold exL;simp[List.getD,List.getElem?_set,h,show k<l.length by omega]
theorem Ybh {l:List Nat} {k i:Nat} (h1:i≠k) (h2:i≠k+1):(exL l k).getD i 0=l.getD i 0:=by
 unfold exL;simp only[List.getD,List.getElem?_set];rw[if_neg (fun e=>h2 e.symm),if_neg (fun e=>h1 e.symm)]
theorem Zwt (d:Zae) (k:Nat):(Zep d k).vars=exL d.vars k:=rfl
open Go.RowKit
structure LawT (K:Law) (n:Nat) (Od:List Nat->Prop) (room:Nat) (w0:World) (mb:Nat) (fs:List (Int×BF)) (nx:Int) (Wt:List Ev->Int->Prop) (hl hx:List (Int×BF)) (W:World) (o:Own) (m:ManD) (V:Nat->BF) (vl vx:Value):Prop where
 sat:SatE K n Od room w0 mb fs nx W o m V
 b2:B2 fs
 st:Wt m.waits m.calls
 l:LawL W o w0.heap.size vl (hl.map Prod.fst)
 x:LawX W o w0.heap.size vx (hx.map fun p=>tabB n p.2)
section
variable {K:Law} {n:Nat} {Od:List Nat->Prop} {room:Nat} {w0:World} {mb:Nat} {fs:List (Int×BF)} {nx:Int} {Wt:List Ev->Int->Prop} {hl hx hs:List (Int×BF)} {W W' w:World} {o o':Own} {m m':ManD} {V V':Nat->BF} {vl vx v' v:Value} {p:Int×BF}
theorem LawT.below (h:LawT K n Od room w0 mb fs nx Wt hl hx W o m V vl vx) (hb:Below W.heap.size W W'):LawT K n Od room w0 mb fs nx Wt hl hx W' o m V vl vx :=
 ⟨h.sat.below hb,h.b2,h.st,h.l.chg (Zcj hb o),h.x.chg (Zcj hb o)⟩
theorem LawT.below0 (h:LawT K n Od room w0 mb fs nx Wt hl hx W o m V vl vx):Below w0.heap.size w0 W:=h.sat.chg.below0
theorem LawT.go {Od':List Nat->Prop} {fs':List (Int×BF)} {nx':Int} {Wt':List Ev->Int->Prop} (h:LawT K n Od room w0 mb fs nx Wt hl hx W o m V vl vx) (hs:SatE K n Od' room w0 mb fs' nx' W' o' m' V') (hb:B2 fs') (ht:Wt' m'.waits m'.calls) (hc:ChgX NoB o o' W W') :
 LawT K n Od' room w0 mb fs' nx' Wt' hl hx W' o' m' V' vl vx:=⟨hs,hb,ht,h.l.chg hc,h.x.chg hc⟩
theorem LawT.withOd {Od':List Nat->Prop} (h:LawT K n Od room w0 mb fs nx Wt hl hx W o m V vl vx) (hO:Od' m.d.vars):LawT K n Od' room w0 mb fs nx Wt hl hx W o m V vl vx:=⟨h.sat.withOd hO,h.b2,h.st,h.l,h.x⟩
theorem LawT.withSt {Wt':List Ev->Int->Prop} (h:LawT K n Od room w0 mb fs nx Wt hl hx W o m V vl vx) (hO:Wt' m.waits m.calls):LawT K n Od room w0 mb fs nx Wt' hl hx W o m V vl vx:=⟨h.sat,h.b2,hO,h.l,h.x⟩
theorem LawT.appL (h:LawT K n Od room w0 mb fs nx Wt hl hx W o m V vl vx) (hown:OwnC 3 W' w0.heap.size v' (Zba (hl.map Prod.fst)++[.int .i64 p.1])) (e1:W'.os=W.os) (e2:W'.tape=W.tape) (e3:W'.output=W.output) (e4:W.heap.size<=W'.heap.size) (hk:Zci vl v' W W') :
 LawT K n Od room w0 mb fs nx Wt (hl++[p]) hx W' o m V v' vx:=by
 have hw:=Zsj e1 e2 e3 e4 hk;refine⟨h.sat.other hw (fun k _ hk=>⟨(h.l.own.lt k hk).1,h.l.no k hk⟩),h.b2,h.st,?_,h.x.typ hw (by decide) (by decide) h.l.own.typed⟩;rw[List.map_append];exact h.l.app h.sat.lt hown hk
theorem LawT.appX {bs:List Bool} (h:LawT K n Od room w0 mb fs nx Wt hl hx W o m V vl vx) (hb:LawB W o w0.heap.size v bs) (hbs:bs=tabB n p.2) {rs:List Value} (hrs:rs.length=hx.length) (hrow:OwnC 34 W w0.heap.size vx rs) (hall:∀ i v,rs[i]?=some v->LawB W o w0.heap.size v ((hx.map fun p=>tabB n p.2).getD i []))
 (hown:OwnC 34 W' w0.heap.size v' (rs++[v])) (e1:W'.os=W.os) (e2:W'.tape=W.tape) (e3:W'.output=W.output) (e4:W.heap.size<=W'.heap.size) (hk:Zci vx v' W W'):LawT K n Od room w0 mb fs nx Wt hl (hx++[p]) W' o m V vl v':=by
 have hw:=Zsj e1 e2 e3 e4 hk;refine⟨h.sat.other hw (fun k _ hk=>⟨(hrow.lt k hk).1,h.x.no k hk⟩),h.b2,h.st,h.l.typ hw (by decide) hrow.typed,?_⟩;rw[List.map_append];have:=h.x.app h.sat.lt (by simp[hrs]) hall hw hrow.typed hb hown hk;rw[hbs] at this;exact this
theorem LawT.row (h:LawT K n Od room w0 mb fs nx Wt hs hs W o m V vl vx) (hsub:∀ p∈hs,p∈fs) (hsm:hs.length<=1000) :
 LawR (fun g=>w0.heap.size<=g/\g<W.heap.size/\o g=none/\∃ cur,W.heap[g]?=some (.cells cur 4 (0,0))) n fs W vl vx hs:=Yaj h.l h.x hsub hsm
structure LawF (W:World) (o:Own) (v:Value) (bs:List Bool):Prop where
 is:Zbm W v bs
 no:∀ k,v.ownBlock=some k->k<W.heap.size/\o k=none/\∃ cur,W.heap[k]?=some (.cells cur 4 (0,0))
theorem LawF.chg {bs:List Bool} (h:LawF W o v bs) (hc:ChgX NoB o o' W W'):LawF W' o' v bs :=
 ⟨h.is.same fun k hk=>hc.block k (h.no k hk).1 (h.no k hk).2.1 (fun e=>e),fun k hk=>by
  obtain⟨h1,h2,cur,h3⟩:=h.no k hk;exact⟨Nat.lt_of_lt_of_le h1 hc.size,hc.none' h1 h2,cur,(hc.block k h1 h2 (fun e=>e)).trans h3⟩⟩
theorem LawF.tab {F:BF} (h:LawF W o v (tabB n F)):∃ a c,v=.slice a (2^n) c/\Zbt W a (tabB n F):=by
 obtain⟨a,c,e,h1,_⟩:=h.is;rw[Zbo] at e;exact⟨a,c,e,h1⟩
theorem Zi9 (h:LawT K n Od room w0 mb fs nx Wt hs hs W o m V vl vx) (hsub:∀ p∈hs,p∈fs) (hn:n<=16) (hl:hs.length<=100) (k:Int) :
 Calls Tryz.prog 28 #[.int .i64 n,vl,vx,.int .i64 k] W fun x w'=>∃ a F v,x=.returned (.tuple #[.int .i64 a,v])/\(a,F)∈fs/\LawF w' o v (tabB n F)/\Below W.heap.size W w':=by
 refine(Yas hn h.b2.zero (h.row hsub (by omega)) k).mono ?_;rintro x w' ⟨a,F,v,rfl,h1,h2,h3,h4⟩;refine⟨a,F,v,rfl,h1,⟨h2,fun g hg=>?_⟩,h4⟩;rcases h3 g hg with ⟨_,h6,h7,cur,h8⟩|⟨h5,cur,h6⟩
 ·
  exact⟨Nat.lt_of_lt_of_le h6 h4.size,h7,cur,(h4.block g h6).trans h8⟩
 ·
  exact⟨(Array.getElem?_eq_some_iff.1 h6).1,h.sat.lt.none h5,cur,h6⟩
end
open Go.RowKit
theorem Zcs (W:World) (zs:List Int) (hl:zs.length<=1000000):Zay (W.alloc (.cells (Zba zs).toArray 3)) (some ⟨W.heap.size,0,none⟩) zs :=
 ⟨by omega,fun k hk=>⟨W.heap.size,0,rfl,by
  rw[Nat.zero_add,cell_of_row _ _ k _ _ _ (heap_alloc_new _ _)];simp[Zba,Zbq hk,hk]⟩⟩
section
variable {K:Law} {n:Nat} {Od:List Nat->Prop} {room:Nat} {w0 w w':World} {mb:Nat} {fs:List (Int×BF)} {nx:Int} {o o':Own} {m m':ManD} {V V':Nat->BF}
def Goes (K:Law) (n:Nat) (Od:List Nat->Prop) (room:Nat) (w0:World) (mb:Nat) (fs:List (Int×BF)) (nx:Int) (Wt:List Ev->Int->Nat->Prop) (o:Own) (w w':World):Prop :=
 ∃ o' m' V',ChgX NoB o o' w w'/\Wt m'.waits m'.calls m'.d.pool.many/\SatE K n Od room w0 mb fs nx w' o' m' V'
def NoW (M:Nat) (ws:List Ev) (_:Int) (k:Nat):Prop:=ws=[]/\k<=M
abbrev W2 (Wt:List Ev->Int->Prop):List Ev->Int->Nat->Prop:=fun ws c _=>Wt ws c
theorem Goes.more {M M':Nat} (h:Goes K n Od room w0 mb fs nx (NoW M) o w w') (hm:M<=M'):Goes K n Od room w0 mb fs nx (NoW M') o w w':=by
 obtain⟨o',m',V',h1,h2,h3⟩:=h;exact⟨o',m',V',h1,⟨h2.1,Nat.le_trans h2.2 hm⟩,h3⟩
theorem Goes.below {Wt:List Ev->Int->Nat->Prop} {w'':World} (h:Goes K n Od room w0 mb fs nx Wt o w w') (hb:Below w'.heap.size w' w''):Goes K n Od room w0 mb fs nx Wt o w w'':=by
 obtain⟨o',m',V',h1,h2,h3⟩:=h;exact⟨o',m',V',h1.trans (Zcj hb o') (fun _ _ e=>e),h2,h3.below hb⟩
theorem Zve (hK:Zb3 K) {M:Nat} (h:Goes K n Od room w0 mb fs nx (NoW M) o w w') (hn:nx<549755813888) (hr:M+(2^n-1)<=room) {kf kg kh:Int} {F G H:BF} (hf:(kf,F)∈fs) (hg:(kg,G)∈fs) (hh:(kh,H)∈fs) :
 Calls Tryz.prog 21 #[.pointer (some ⟨mb,0,none⟩),.int .i64 kf,.int .i64 kg,.int .i64 kh] w' fun x w''=>x=.returned (.tuple #[.int .i64 nx,.int .i64 0])/\Goes K n Od room w0 mb (fs++[(nx,Zd4 F G H)]) (nx+1) (NoW (M+(2^n-1))) o w w'':=by
 obtain⟨o',m',V',h1,h2,h3⟩:=h;refine(Zmm hK h3 [] (by rw[h2.1];exact List.suffix_refl _) (some M) (fun _ e=>by cases e;exact⟨rfl,hr⟩) (fun _ e=>by cases e;exact h2.2) (by simp) (by omega) hf hg hh).mono ?_;rintro x w'' hp;obtain⟨o2,m2,V2,q1,q2,q3,q4⟩:=Zmq hp;exact⟨q3,o2,m2,V2,h1.trans q1 (fun _ _ e=>e),q2,q4⟩
theorem Yby (hK:Zb3 K) {M:Nat} (h:Goes K n Od room w0 mb fs nx (NoW M) o w w') (hn:nx<549755813888) (hr:M+1<=room) {v:Nat} (hv:v<n) :
 Calls Tryz.prog 20 #[.pointer (some ⟨mb,0,none⟩),.int .i64 v] w' fun x w''=>x=.returned (.tuple #[.int .i64 nx,.int .i64 0])/\Goes K n Od room w0 mb (fs++[(nx,varF v)]) (nx+1) (NoW (M+1)) o w w'':=by
 obtain⟨o',m',V',h1,h2,h3⟩:=h;refine(Zmn hK h3 [] (by rw[h2.1];exact List.suffix_refl _) (some M) (fun _ e=>by cases e;exact⟨rfl,hr⟩) (fun _ e=>by cases e;exact h2.2) (by simp) (by omega) v hv).mono ?_;rintro x w'' hp;obtain⟨o2,m2,V2,q1,q2,q3,q4⟩:=Zmq hp;exact⟨q3,o2,m2,V2,h1.trans q1 (fun _ _ e=>e),q2,q4⟩
theorem Zzd (hK:Zb3 K) {Wt:List Ev->Int->Nat->Prop} (h:Goes K n Od room w0 mb fs nx Wt o w w') (hn:nx<549755813888) {k:Int} {F:BF} (hf:(k,F)∈fs) :
 Calls Tryz.prog 142 #[.pointer (some ⟨mb,0,none⟩),.int .i64 k] w' fun x w''=>x=.returned (.tuple #[.int .i64 nx,.int .i64 0])/\Goes K n Od room w0 mb (fs++[(nx,notF F)]) (nx+1) Wt o w w'':=by
 obtain⟨o',m',V',h1,h2,h3⟩:=h;refine(Zs9 hK h3 hn hf).mono ?_;rintro x w'' ⟨rfl,o2,m2,q⟩;exact⟨rfl,o2,m2,V',h1.trans (ChgX.of_chg q.chg NoB) (fun _ _ e=>e),by rw[q.waits,q.calls,q.many];exact h2,q.sat⟩
theorem Zna (hK:Zb3 K) {Wt:List Ev->Int->Nat->Prop} (h:Goes K n Od room w0 mb fs nx Wt o w w') (hn:nx<549755813888) {k:Int} {F:BF} (hf:(k,F)∈fs) :
 Calls Tryz.prog 139 #[.pointer (some ⟨mb,0,none⟩),.int .i64 k] w' fun x w''=>x=.returned (.tuple #[.int .i64 nx,.int .i64 0])/\Goes K n Od room w0 mb (fs++[(nx,F)]) (nx+1) Wt o w w'':=by
 obtain⟨o',m',V',h1,h2,h3⟩:=h;refine(Zq0 hK h3 hn hf).mono ?_;rintro x w'' ⟨rfl,o2,m2,q⟩;exact⟨rfl,o2,m2,V',h1.trans (ChgX.of_chg q.chg NoB) (fun _ _ e=>e),by rw[q.waits,q.calls,q.many];exact h2,q.sat⟩
theorem Znc (hK:Zb3 K) {Wt:List Ev->Int->Nat->Prop} {hs r:List (Int×BF)} (h:Goes K n Od room w0 mb (fs++(hs++r)) nx Wt o w w') (hb:B2 fs) (hn:nx<549755813888) (hl:hs.length<=1000) {T:World} (hT:T=w'.alloc (.cells (Zba (hs.map Prod.fst)).toArray 3)) :
 Calls Tryz.prog 50 #[.pointer (some ⟨mb,0,none⟩),.slice (some ⟨w'.heap.size,0,none⟩) hs.length hs.length] T fun x w''=>x=.returned (.int .i64 0)/\Goes K n Od room w0 mb (fs++r) nx Wt o w w'':=by
 obtain⟨o',m',V',h1,h2,h3⟩:=h;subst hT;have hbn:=Zac w' (.cells (Zba (hs.map Prod.fst)).toArray 3);refine(Zq2 hK (h3.below hbn) hb hn (Zcs w' (hs.map Prod.fst) (by simp;omega)) (fun x hx=>by cases hx;exact h3.lt.none (Nat.le_refl _))).mono ?_;rintro x w'' ⟨rfl,o2,m2,q⟩;exact⟨rfl,o2,m2,V',(h1.trans (Zcj hbn o') (fun _ _ e=>e)).trans (ChgX.of_chg q.chg NoB) (fun _ _ e=>e),by rw[q.waits,q.calls,q.many];exact h2,q.sat⟩
theorem Zrw (hK:Zb3 K) {a b:Int} {F G:BF} {M:Nat} (h:Goes K n Od room w0 mb (fs++[(a,F),(b,G)]) nx (NoW M) o w w') (hb:B2 fs) (hn:nx+2<549755813888) (hr:M+(2^n-1)<=room) {op:Int} (h5:5<=op) (h9:op<=9) :
 Calls Tryz.prog 141 #[.pointer (some ⟨mb,0,none⟩),.int .i64 op,.int .i64 a,.int .i64 b] w' fun x w''=>∃ k:Int,x=.returned (.tuple #[.int .i64 k,.bool true])/\k<=nx+1/\Goes K n Od room w0 mb (fs++[(k,Zo9 op F G)]) (k+1) (NoW (M+(2^n-1))) o w w'':=by
 obtain⟨M',hM'⟩:∃ M',M'=M+(2^n-1):=⟨_,rfl⟩;have HITE:Hid (∀ c d e A B C,(c,A)∈fs++[(a,F),(b,G)]->(d,B)∈fs++[(a,F),(b,G)]->(e,C)∈fs++[(a,F),(b,G)]->Calls Tryz.prog 21 #[.pointer (some ⟨mb,0,none⟩),.int .i64 c,.int .i64 d,.int .i64 e] w' fun x w''=>x=.returned (.tuple #[.int .i64 nx,.int .i64 0])/\Goes K n Od room w0 mb (fs++[(a,F),(b,G)]++[(nx,Zd4 A B C)]) (nx+1) (NoW (M+(2^n-1))) o w w'') :=
  Hd fun c d e A B C h1 h2 h3=>Zve hK h (by omega) hr h1 h2 h3
 have HNOT:=Hd (Zzd hK h (by omega) (k:=b) (F:=G) (by simp))
 have HITE2:Hid (∀ W,Goes K n Od room w0 mb (fs++[(a,F),(b,G)]++[(nx,notF G)]) (nx+1) (NoW M) o w W->∀ c d e A B C,(c,A)∈fs++[(a,F),(b,G)]++[(nx,notF G)]->(d,B)∈fs++[(a,F),(b,G)]++[(nx,notF G)]->(e,C)∈fs++[(a,F),(b,G)]++[(nx,notF G)] ->
  Calls Tryz.prog 21 #[.pointer (some ⟨mb,0,none⟩),.int .i64 c,.int .i64 d,.int .i64 e] W fun x w''=>x=.returned (.tuple #[.int .i64 (nx+1),.int .i64 0])/\Goes K n Od room w0 mb (fs++[(a,F),(b,G)]++[(nx,notF G)]++[(nx+1,Zd4 A B C)]) (nx+1+1) (NoW (M+(2^n-1))) o w w'') :=
  Hd fun W hW c d e A B C h1 h2 h3=>Zve hK hW (by omega) hr h1 h2 h3
 have HDN:Hid (∀ W H T,Goes K n Od room w0 mb (fs++[(a,F),(b,G)]++[(nx,notF G)]++[(nx+1,H)]) (nx+1+1) (NoW M') o w W->T=W.alloc (.cells #[.int .i64 nx] 3)->Calls Tryz.prog 50 #[.pointer (some ⟨mb,0,none⟩),.slice (some ⟨W.heap.size,0,none⟩) 1 1] T fun x w''=>x=.returned (.int .i64 0)/\Goes K n Od room w0 mb (fs++[(a,F),(b,G)]++[(nx+1,H)]) (nx+1+1) (NoW M') o w w'') :=
  Hd fun W H T hW hT=>Znc hK (hs:=[(nx,notF G)]) (r:=[(nx+1,H)]) (by rw[List.append_assoc] at hW;exact hW) (hb.app _) (by omega) (by simp) hT
 have HDAB:Hid (∀ W k H T,k+1<549755813888->Goes K n Od room w0 mb (fs++[(a,F),(b,G)]++[(k,H)]) (k+1) (NoW M') o w W->T=W.alloc (.cells #[.int .i64 a,.int .i64 b] 3)->Calls Tryz.prog 50 #[.pointer (some ⟨mb,0,none⟩),.slice (some ⟨W.heap.size,0,none⟩) 2 2] T fun x w''=>x=.returned (.int .i64 0)/\Goes K n Od room w0 mb (fs++[(k,H)]) (k+1) (NoW M') o w w'') :=
  Hd fun W k H T hk hW hT=>Znc hK (hs:=[(a,F),(b,G)]) (r:=[(k,H)]) (by rw[List.append_assoc] at hW;exact hW) hb (by omega) (by simp) hT
 have m0:(0,fun _=>false)∈fs++[(a,F),(b,G)]:=List.mem_append_left _ hb.zero;have m1:(1,fun _=>true)∈fs++[(a,F),(b,G)]:=List.mem_append_left _ hb.one;have ma:(a,F)∈fs++[(a,F),(b,G)]:=by simp
 have mb':(b,G)∈fs++[(a,F),(b,G)]:=by simp
 have pa:(a,F)∈fs++[(a,F),(b,G)]++[(nx,notF G)]:=by simp
 have pb:(b,G)∈fs++[(a,F),(b,G)]++[(nx,notF G)]:=by simp
 have pn:(nx,notF G)∈fs++[(a,F),(b,G)]++[(nx,notF G)]:=by simp
 rw[<- hM'] at HITE HITE2 ⊢;clear h hb hr hK hM';rcases(show op=5\/op=6\/op=7\/op=8\/op=9 by omega) with rfl|rfl|rfl|rfl|rfl
 ·
  have HI:=Hd (HITE.out a b 0 _ _ _ ma mb' m0);clear HITE HITE2 HNOT HDN
  go_enter Tryz.func141,Tryz.ntmps141
  go_wp2_with fail;refine HI.out.mono ?_;rintro x w1 ⟨rfl,g1⟩;have HD:=Hd (HDAB.out w1 nx _ _ (by omega) g1 rfl);clear g1 HI;go_wp2_with fail;refine HD.out.mono ?_;rintro x w2 ⟨rfl,g2⟩;have HG:=Hd g2;clear g2 HD;go_wp2_with fail
  go_ret2
  exact⟨nx,rfl,by omega,HG.out⟩
 ·
  have HI:=Hd (HITE.out a 1 b _ _ _ ma m1 mb');clear HITE HITE2 HNOT HDN
  go_enter Tryz.func141,Tryz.ntmps141
  go_wp2_with fail;refine HI.out.mono ?_;rintro x w1 ⟨rfl,g1⟩;have HD:=Hd (HDAB.out w1 nx _ _ (by omega) g1 rfl);clear g1 HI;go_wp2_with fail;refine HD.out.mono ?_;rintro x w2 ⟨rfl,g2⟩;have HG:=Hd g2;clear g2 HD;go_wp2_with fail
  go_ret2
  exact⟨nx,rfl,by omega,HG.out⟩
 ·
  clear HITE
  go_enter Tryz.func141,Tryz.ntmps141
  go_wp2_with fail;refine HNOT.out.mono ?_;rintro x w1 ⟨rfl,g1⟩;have HI:=Hd (HITE2.out w1 g1 a nx b _ _ _ pa pn pb);clear g1 HNOT HITE2;go_wp2_with fail;refine HI.out.mono ?_;rintro x w2 ⟨rfl,g2⟩;have HD1:=Hd (HDN.out w2 _ _ g2 rfl);clear g2 HI HDN;go_wp2_with fail;refine HD1.out.mono ?_;rintro x w3 ⟨rfl,g3⟩;have HD:=Hd (HDAB.out w3 (nx+1) _ _ (by omega) g3 rfl);clear g3 HD1;go_wp2_with fail;refine HD.out.mono ?_;rintro x w4 ⟨rfl,g4⟩;have HG:=Hd g4;clear g4 HD;go_wp2_with fail
  go_ret2
  exact⟨nx+1,rfl,by omega,HG.out⟩
 ·
  have HI:=Hd (HITE.out a b 1 _ _ _ ma mb' m1);clear HITE HITE2 HNOT HDN
  go_enter Tryz.func141,Tryz.ntmps141
  go_wp2_with fail;refine HI.out.mono ?_;rintro x w1 ⟨rfl,g1⟩;have HD:=Hd (HDAB.out w1 nx _ _ (by omega) g1 rfl);clear g1 HI;go_wp2_with fail;refine HD.out.mono ?_;rintro x w2 ⟨rfl,g2⟩;have HG:=Hd g2;clear g2 HD;go_wp2_with fail
  go_ret2
  exact⟨nx,rfl,by omega,HG.out⟩
 ·
  clear HITE
  go_enter Tryz.func141,Tryz.ntmps141
  go_wp2_with fail;refine HNOT.out.mono ?_;rintro x w1 ⟨rfl,g1⟩;have HI:=Hd (HITE2.out w1 g1 a b nx _ _ _ pa pb pn);clear g1 HNOT HITE2;go_wp2_with fail;refine HI.out.mono ?_;rintro x w2 ⟨rfl,g2⟩;have HD1:=Hd (HDN.out w2 _ _ g2 rfl);clear g2 HI HDN;go_wp2_with fail;refine HD1.out.mono ?_;rintro x w3 ⟨rfl,g3⟩;have HD:=Hd (HDAB.out w3 (nx+1) _ _ (by omega) g3 rfl);clear g3 HD1;go_wp2_with fail;refine HD.out.mono ?_;rintro x w4 ⟨rfl,g4⟩;have HG:=Hd g4;clear g4 HD;go_wp2_with fail
  go_ret2
  exact⟨nx+1,rfl,by omega,HG.out⟩
end
open Go.RowKit
section
variable {K:Law} {n:Nat} {room:Nat} {w0:World} {mb:Nat} {fs hs:List (Int×BF)} {nx:Int} {W w w':World} {o o':Own} {m m':ManD} {V V':Nat->BF} {vl vx:Value} {ws0:List Ev}
theorem Zlk {n:Nat} (h:n<=16):2^n<=1000000:=Nat.le_trans (Nat.pow_le_pow_right (by omega) h) (by decide)
abbrev SufW (ws0:List Ev):List Ev->Int->Prop:=fun ws _=>ws <:+ ws0
theorem Ybl (hK:Zb3 K) (h:SatE K n (fun _=>True) room w0 mb fs nx w o m V) (hw:m.waits <:+ ws0) (hn:nx<=549755813888) (hr:(fs.length+1)*2^n<=room) {kf kg kh:Int} {F G H:BF} (hf:(kf,F)∈fs) (hg:(kg,G)∈fs) (hh:(kh,H)∈fs) :
 Calls Tryz.prog 21 #[.pointer (some ⟨mb,0,none⟩),.int .i64 kf,.int .i64 kg,.int .i64 kh] w fun x w''=>x=.returned (.tuple #[.int .i64 nx,.int .i64 0])/\Goes K n (fun _=>True) room w0 mb (fs++[(nx,Zd4 F G H)]) (nx+1) (W2 (SufW ws0)) o w w'':=by
 refine(Zmm hK h ws0 hw none (fun _ e=>by cases e) (fun _ e=>by cases e) (fun ev _=>Zi2 hn ev) (by omega) hf hg hh).mono ?_;rintro x w'' hp;obtain⟨o2,m2,V2,q1,q2,q3,q4⟩:=Zpm hp (Nat.sub_le _ _) hr;exact⟨q3,o2,m2,V2,q1,q2,q4⟩
end
open Go.RowKit
section
variable {K:Law} {n:Nat} {room:Nat} {w0 w w':World} {mb:Nat} {fs:List (Int×BF)} {nx:Int} {o:Own} {m:ManD} {V:Nat->BF} {ws0:List Ev}
theorem Ybx (hK:Zb3 K) (h:SatE K n (fun _=>True) room w0 mb fs nx w o m V) (hw:m.waits <:+ ws0) (hn:nx<=549755813888) (hr:(fs.length+1)*2^n<=room) {v:Nat} (hv:v<n) :
 Calls Tryz.prog 20 #[.pointer (some ⟨mb,0,none⟩),.int .i64 v] w fun x w''=>x=.returned (.tuple #[.int .i64 nx,.int .i64 0])/\Goes K n (fun _=>True) room w0 mb (fs++[(nx,varF v)]) (nx+1) (W2 (SufW ws0)) o w w'':=by
 refine(Zmn hK h ws0 hw none (fun _ e=>by cases e) (fun _ e=>by cases e) (fun ev _=>Zi2 hn ev) (by omega) v hv).mono ?_;rintro x w'' hp;obtain⟨o2,m2,V2,q1,q2,q3,q4⟩:=Zpm hp Nat.one_le_two_pow hr;exact⟨q3,o2,m2,V2,q1,q2,q4⟩
def StG (K:Law) (n room:Nat) (w0:World) (mb:Nat) (fs:List (Int×BF)) (nx:Int) (ws0:List Ev) (W:World):Prop:=∃ o m V,m.waits <:+ ws0/\SatE K n (fun _=>True) room w0 mb fs nx W o m V
theorem StG.below0 (h:StG K n room w0 mb fs nx ws0 w):Below w0.heap.size w0 w:=by
 obtain⟨o,m,V,h1,h2⟩:=h;exact h2.chg.below0
theorem Goes.st (h:Goes K n (fun _=>True) room w0 mb fs nx (W2 (SufW ws0)) o w w'):StG K n room w0 mb fs nx ws0 w':=by
 obtain⟨o',m',V',_,h1,h2⟩:=h;exact⟨o',m',V',h1,h2⟩
theorem StG.var (hK:Zb3 K) (h:StG K n room w0 mb fs nx ws0 w) (hn:nx<=549755813888) (hr:(fs.length+1)*2^n<=room) {v:Nat} (hv:v<n) :
 Calls Tryz.prog 20 #[.pointer (some ⟨mb,0,none⟩),.int .i64 v] w fun x w''=>x=.returned (.tuple #[.int .i64 nx,.int .i64 0])/\StG K n room w0 mb (fs++[(nx,varF v)]) (nx+1) ws0 w'':=by
 obtain⟨o,m,V,h1,h2⟩:=h;exact(Ybx hK h2 h1 hn hr hv).mono fun x w' ⟨q1,q2⟩=>⟨q1,q2.st⟩
theorem StG.ite (hK:Zb3 K) (h:StG K n room w0 mb fs nx ws0 w) (hn:nx<=549755813888) (hr:(fs.length+1)*2^n<=room) {kf kg kh:Int} {F G H:BF} (hf:(kf,F)∈fs) (hg:(kg,G)∈fs) (hh:(kh,H)∈fs) :
 Calls Tryz.prog 21 #[.pointer (some ⟨mb,0,none⟩),.int .i64 kf,.int .i64 kg,.int .i64 kh] w fun x w''=>x=.returned (.tuple #[.int .i64 nx,.int .i64 0])/\StG K n room w0 mb (fs++[(nx,Zd4 F G H)]) (nx+1) ws0 w'':=by
 obtain⟨o,m,V,h1,h2⟩:=h;exact(Ybl hK h2 h1 hn hr hf hg hh).mono fun x w' ⟨q1,q2⟩=>⟨q1,q2.st⟩
theorem StG.same (h:StG K n room w0 mb fs nx ws0 w) {k l:Int} {F G:BF} (hf:(k,F)∈fs) (hg:(l,G)∈fs) :
 Calls Tryz.prog 22 #[.pointer (some ⟨mb,0,none⟩),.int .i64 k,.int .i64 l] w fun x w''=>(∃ b:Bool,x=.returned (.tuple #[.bool b,.int .i64 0])/\(b=true↔F=G))/\w=w'':=by
 obtain⟨o,m,V,h1,h2⟩:=h;exact(Zk2 h2 hf hg).mono fun x w' ⟨b,q1,q2,q3⟩=>⟨⟨b,q1,q2⟩,q3⟩
end
open Go.RowKit
structure AtC (K:Law) (k:Nat) (o:Own) (w:World) (mb:Nat) (m:ManD) (V:Nat->BF) (o':Own) (w':World) (m':ManD) (V':Nat->BF):Prop where
 st:Step K o w mb m V o' w' m' V'
 waits:m'.waits=m.waits
 many:m'.d.pool.many<=m.d.pool.many+k
def Zkh (K:Law) (k:Nat) (o:Own) (w:World) (mb:Nat) (m:ManD) (V:Nat->BF) (er:Int) (evt:Bool) (ev:Ev) (w':World):Prop :=
 ∃ o' m' V',Step K o w mb m V o' w' m' V'/\((er=7/\evt=false/\ev=ev0/\m'.waits=m.waits/\m'.d.pool.many=m'.d.pool.room/\m'.d.pool.many+1<=m.d.pool.many+k)\/(er=0/\evt=true/\m.waits=ev::m'.waits))
def Zqg (K:Law) (k:Nat) (o:Own) (w:World) (mb:Nat) (m:ManD) (V:Nat->BF) (A:Zae->(Nat->BF)->Nat->Prop) (e:Ending) (w':World):Prop :=
 (∃ r o' m' V',e=.returned (.int .i64 (r:Nat))/\AtC K k o w mb m V o' w' m' V'/\okE (Zab m'.d) r/\A m'.d V' r)\/(∃ er evt ev,e=Zch er evt ev/\Zkh K k o w mb m V er evt ev w')
section
variable {K:Law} {n k k1 k2:Nat} {Od:List Nat->Prop} {room:Nat} {w0 w w' w1 w2:World} {mb:Nat} {fs:List (Int×BF)} {nx:Int} {o o' o1 o2:Own} {m m' m1 m2:ManD} {V V' V1 V2:Nat->BF} {xb:Nat}
theorem AtC.refl (h:Zds (K m.d V) o w mb m) (hl:Zaj o w) (hk:Zan m.d V):AtC K 0 o w mb m V o w m V:=⟨⟨h,hl,Chg.refl _ _ _,hk,Ext.refl _ _,rfl,rfl⟩,rfl,Nat.le_refl _⟩
theorem AtC.trans (h:AtC K k1 o w mb m V o1 w1 m1 V1) (h':AtC K k2 o1 w1 mb m1 V1 o2 w2 m2 V2):AtC K (k1+k2) o w mb m V o2 w2 m2 V2 :=
 ⟨h.st.trans h'.st,h'.waits.trans h.waits,by have:=h.many;have:=h'.many;omega⟩
theorem AtC.mono (h:AtC K k1 o w mb m V o1 w1 m1 V1) (hk:k1<=k2):AtC K k2 o w mb m V o1 w1 m1 V1:=⟨h.st,h.waits,Nat.le_trans h.many (by omega)⟩
theorem AtC.below (h:AtC K k o w mb m V o1 w1 m1 V1) (hb:Below w1.heap.size w1 w2):AtC K k o w mb m V o1 w2 m1 V1:=⟨h.st.below hb,h.waits,h.many⟩
theorem AtC.vars (h:AtC K k o w mb m V o1 w1 m1 V1) (hv:m.d.vars.length=n):m1.d.vars.length=n:=by rw[h.st.ext.vars];exact hv
theorem Zkh.after {er:Int} {evt:Bool} {ev:Ev} (h:AtC K k1 o w mb m V o1 w1 m1 V1) (h':Zkh K k2 o1 w1 mb m1 V1 er evt ev w2) (hk:k1+k2<=k):Zkh K k o w mb m V er evt ev w2:=by
 obtain⟨o2,m2,V2,st,⟨a1,a2,a3,a4,a5,a6⟩|⟨a1,a2,a3⟩⟩:=h'
 ·
  have:=h.many;exact⟨o2,m2,V2,h.st.trans st,.inl ⟨a1,a2,a3,a4.trans h.waits,a5,by omega⟩⟩
 ·
  exact⟨o2,m2,V2,h.st.trans st,.inr ⟨a1,a2,by rw[<- h.waits];exact a3⟩⟩
theorem Zz0 (hK:Zb3 K) (h:Zds (K m.d V) o w mb m) (hlt:Zaj o w) (hx:Zeh o w xb mb) (hk:Zan m.d V) (v lo hi:Nat) (hv:v<m.d.vars.length) (hlo:okE (Zab m.d) lo) (hhi:okE (Zab m.d) hi)
 (hgl:levN m.d v<lvE m.d.vars.length (levN m.d) (Zab m.d) lo) (hgh:levN m.d v<lvE m.d.vars.length (levN m.d) (Zab m.d) hi) :
 Calls Tryz.prog 77 #[.pointer (some ⟨xb,0,none⟩),.int .i64 v,.int .i64 lo,.int .i64 hi] w (Zqg K 1 o w mb m V fun d V' r=>ef V' r=iteF v (ef V hi) (ef V lo)/\levN m.d v<=lvE m.d.vars.length (levN d) (Zab d) r):=by
 refine(Zku hK h hlt hx hk v lo hi hlo hhi).mono ?_;rintro e w' ⟨o',m',V',st,⟨ev,h1,_,_,_,_,rfl⟩|⟨h1,_,_,(⟨er,her,hd,_,rfl⟩|⟨_,_,r,rfl,h2,h3,h4,h5⟩)⟩⟩
 ·
  exact .inr ⟨0,true,ev,rfl,o',m',V',st,.inr ⟨rfl,rfl,h1⟩⟩
 ·
  rcases her with ⟨_,h⟩|⟨_,_,_,h⟩|⟨rfl,h⟩
  ·
   exact(h ⟨by omega,by omega⟩).elim
  ·
   simp only[Int.toNat_natCast] at h;omega
  ·
   exact .inr ⟨7,false,ev0,rfl,o',m',V',st,.inl ⟨rfl,rfl,rfl,h1,by rw[hd];exact h,by rw[hd];omega⟩⟩
 ·
  exact .inl ⟨r,o',m',V',rfl,⟨st,h1,h5⟩,h2,h3,h4⟩
theorem Znb (hK:Zb3 K) (h:Zds (K m.d V) o w mb m) (hlt:Zaj o w) (hx:Zeh o w xb mb) (hk:Zan m.d V) (v:Nat) (hv:v<m.d.vars.length) :
 Calls Tryz.prog 77 #[.pointer (some ⟨xb,0,none⟩),.int .i64 v,.int .i64 (1:Nat),.int .i64 (0:Nat)] w (Zqg K 1 o w mb m V fun _ V' r=>ef V' r=varF v):=by
 have hlv:=hk.dag.lt v hv;refine(Zz0 hK h hlt hx hk v 1 0 hv (.inl rfl) (.inl rfl) (by rw[Zgn hk rfl];exact hlv) (by rw[Zgn hk rfl];exact hlv)).mono ?_;rintro e w' (⟨r,o',m',V',rfl,h1,h2,h3,_⟩|h)
 ·
  refine .inl ⟨r,o',m',V',rfl,h1,h2,?_⟩
  show ef V' r=varF v
  rw[h3];funext ρ;simp only[iteF,varF,Zhw hk.dag.one,Zkw hk.dag.one];cases ρ v<;>rfl
 ·
  exact .inr h
theorem Zxa (hK:Zb3 K) (h:Zds (K m.d V) o w mb m) (hlt:Zaj o w) (hx:Zeh o w xb mb) (hk:Zan m.d V) (hn:m.d.vars.length=n) (f g e:Nat) (hf:okE (Zab m.d) f) (hg:okE (Zab m.d) g) (he:okE (Zab m.d) e) :
 Calls Tryz.prog 79 #[.pointer (some ⟨xb,0,none⟩),.int .i64 f,.int .i64 g,.int .i64 e] w (Zqg K (2^n-1) o w mb m V fun _ V' r=>ef V' r=Zd4 (ef V f) (ef V g) (ef V e)):=by
 have hp2:0<2^n:=Nat.pow_pos (by omega);refine(Zmd hK n o w xb mb m V f g e h hlt hx hk hf hg he (by omega)).mono ?_;rintro x w' ⟨o',m',V',st,⟨r,rfl,h1,h2,h3⟩|⟨rfl,h2,h3,h4⟩|⟨ev,rfl,h1⟩⟩
 ·
  refine .inl ⟨r,o',m',V',rfl,⟨st,h2,by omega⟩,h1.okR,?_⟩
  show ef V' r=Zd4 (ef V f) (ef V g) (ef V e)
  funext ρ;rw[h1.val ρ,st.ext.ef hf,st.ext.ef hg,st.ext.ef he];rfl
 ·
  exact .inr ⟨7,false,ev0,rfl,o',m',V',st,.inl ⟨rfl,rfl,rfl,h2,h3,by omega⟩⟩
 ·
  exact .inr ⟨0,true,ev,rfl,o',m',V',st,.inr ⟨rfl,rfl,h1⟩⟩
theorem Ybr {C:Nat->Prop} {B:World->Prop} {gop:Nat} {lop:Array Value} {F:BF} (ws0:List Ev) (lim:Option Nat) (hlim:Zqh ws0 lim k room) (hhap:∀ ev∈ws0,HapG K n Od room w0 mb fs nx ev)
 (hB:∀ W W',B W->(∀ c,C c->W'.heap[c]?=W.heap[c]?)->B W')
 (hop:∀ (o:Own) (W:World) (m:ManD) (V:Nat->BF) (xb:Nat),SatE K n Od room w0 mb fs nx W o m V->B W->(∀ k,C k->k<W.heap.size/\o k=none)->Zeh o W xb mb->¬ C xb->Calls Tryz.prog gop (#[.pointer (some ⟨xb,0,none⟩)]++lop) W (Zqg K k o W mb m V fun _ V' r=>ef V' r=F)) :
 OpG K n Od room w0 mb fs nx C B (StL ws0 lim) gop lop (QF ws0 lim k F) (EL (SatX K n Od room w0 mb fs nx) k ws0 lim):=by
 intro o W m V xb hsat hb hC hst hcx hnx;refine(hop o W m V xb hsat hb hC hcx hnx).mono ?_;have hkeep:∀ {o':Own} {w':World} {m':ManD} {V':Nat->BF},Step K o W mb m V o' w' m' V'->B w':=fun st=>hB _ _ hb fun c hc=>st.chg.alien (hC c hc).1 (hC c hc).2
 rintro e w' (⟨r,o',m',V',rfl,h1,h2,h3⟩|⟨er,evt,ev,rfl,o',m',V',st,⟨rfl,rfl,rfl,a4,a5,a6⟩|⟨rfl,rfl,a3⟩⟩)
 ·
  exact⟨o',m',V',h1.st.toX _,hkeep h1.st,.inl ⟨r,rfl,h2,h3,by rw[h1.waits];exact hst.1,fun M e=>by have:=hst.2 M e;have:=h1.many;omega⟩⟩
 ·
  have hl0:lim=none:=Znk (m':=m') hlim hst.2 (by rw[<- a5];omega) (by rw[st.ext.room];exact hsat.room);exact⟨o',m',V',st.toX _,hkeep st,.inr (.inl ⟨7,rfl,by omega,a4,⟨by unfold Zkn;rw[a4];exact hst.1,by subst hl0;exact fun M e=>by cases e⟩,hl0,rfl,⟨_,_,_,hsat⟩,a5,a6,by rw[a4];exact hst.1⟩)⟩
 ·
  have hst':m.waits <:+ ws0:=hst.1;rw[a3] at hst';exact⟨o',m',V',st.toX _,hkeep st,.inr (.inr ⟨ev,rfl,a3,fun _ _ _ _ _ e _ _=>⟨by unfold Zkn;rw[e];exact(List.suffix_cons ev m'.waits).trans hst',Zvm hlim hst'⟩,hhap ev (hst'.subset (List.mem_cons_self ..))⟩)⟩
end
open Go.RowKit
theorem Ztn (bu:List Bool) (au:Option Addr) (cu:Nat) (w:World) (h1:Zbt w au bu) :
 Calls Tryz.prog 109 #[.slice au bu.length cu] w fun x w'=>∃ g,x=.returned (.slice (some ⟨g,0,none⟩) bu.length bu.length)/\OwnB w' w.heap.size (.slice (some ⟨g,0,none⟩) bu.length bu.length) (bu.map (!·))/\Below w.heap.size w w':=by
 have hlen:=h1.len;obtain⟨L,hL⟩:∃ L,L=bu.length:=⟨_,rfl⟩;have H1:=Hd h1;have HLL:=Hd hL;rw[<- hL] at hlen ⊢;clear hL h1
 go_enter Tryz.func109,Tryz.ntmps109
 go_wp2_with (at_make;refine Zfg Ze8 rfl _ _ rfl w.heap.size w _ L rfl rfl rfl (by omega) (Nat.le_refl _) (Below.refl _ _) ?_;intro g w1 hown1 hb1 hs1 hk1 hg1 hgx;clear hgx)
 go_loopw [4] (fun s4 wr=>∃ j:Nat,j<=L/\s4=.int .i64 j/\OwnB wr w.heap.size (.slice (some ⟨g,0,none⟩) L L) ((bu.map (!·)).take j++(List.replicate L false).drop j)/\Below w.heap.size w wr) (fun s4 _=>L-(intOf s4).toNat)
 case atStart=>exact⟨0,by omega,rfl,by unfold OwnB;simpa [Zbx] using hown1,hb1⟩
 case round =>
  clear hown1 hb1;obtain⟨j,hj,rfl,hown,hbel⟩:=hrel
  by_cases hlt:j<L
  ·
   have hjl:j<(bu.map (!·)).length:=by simp[<- HLL.out];exact hlt
   obtain⟨b1,of1,e1,c1⟩:=(H1.out.below hbel).cells j (by rw[<- HLL.out];exact hlt);have q0:=hown.cellB j (by have:=HLL.out;simp;omega);have p0:=hown.frozen j;subst e1;have HOWN:=Hd hown;have HBEL:=Hd hbel;obtain⟨y1,hy1⟩:∃ y,y=bu.getD j false:=⟨_,rfl⟩;rw[<- hy1] at c1
   have HY:Hid ((bu.map (!·))[j] = !y1):=Hd (by
    have hj2:j<bu.length:=by rw[<- HLL.out];exact hlt
    rw[hy1];simp[hj2])
   clear hown hbel hy1 H1;go_wp2_with fail;go_roundw
   case rel =>
    refine⟨j+1,by omega,by go_num,?_,HBEL.out.setCell hg1 _⟩;rw[<- Zeo (by have:=HLL.out;simp;omega) hjl HY.out];exact HOWN.out.setB j _
   case measure=>simp[intOf];omega
  ·
   obtain rfl:j=L:=by omega
   have hl2:(bu.map (!·)).length=j:=by simp[<- HLL.out]
   go_wp2_with fail;go_ret;refine⟨g,rfl,?_,hbel⟩;rw[List.take_of_length_le (by omega),List.drop_of_length_le (by simp),List.append_nil] at hown;exact hown
open Go.RowKit
theorem Ybq (n:Nat) (F:BF):(tabB n F).map (fun b => !b)=tabB n (notF F):=by
 unfold tabB;rw[List.map_map];rfl
theorem Ybw (n v:Nat) (hv:v<n):(List.range (2^n)).map (fun i=>bitB i v)=tabB n (varF v):=by
 refine Zri (by simp) fun i hi=>?_
 have e:varF v (Zb1 (Zce i n))=bitB i v:=by unfold varF;rw[Zdn];simp[hv]
 rw[e];simp[List.getD,hi]
theorem Zmx (v n:Nat) (hv:v<n) (hn:n<=16) (w:World):Calls Tryz.prog 40 #[.int .i64 v,.int .i64 n] w fun x w'=>∃ g,x=.returned (.slice (some ⟨g,0,none⟩) (2^n) (2^n))/\OwnB w' w.heap.size (.slice (some ⟨g,0,none⟩) (2^n) (2^n)) (tabB n (varF v))/\Below w.heap.size w w':=by
 have:=Zto v n (by omega) hn w;rw[Ybw n v hv] at this;exact this
open Go.RowKit
theorem tabs16 {n:Nat} (h:n<=16):2^n<=1000000:=Nat.le_trans (Nat.pow_le_pow_right (by omega) h) (by decide)
theorem Zsn {W:World} {g:Nat} {n:Nat} {l:List Bool} (h:Zbm W (.slice (some ⟨g,0,none⟩) (2^n) (2^n)) l):Zbt W (some ⟨g,0,none⟩) l:=by
 obtain⟨a,c,e,h1,_⟩:=h;injection e with e1 e2 e3
 rw[e1];exact h1
def TabA (n:Nat) (W:World) (v:Value) (F:BF):Prop:=∃ a c,v=.slice a (2^n) c/\Zbt W a (tabB n F)
section
variable {n:Nat} {F G H:BF} {u v x y z:Value} {w:World}
def RefT (n:Nat) (F:BF) (w:World) (e:Ending) (w':World):Prop:=∃ v,e=.returned v/\Zbm w' v (tabB n F)/\Below w.heap.size w w'
end
open Go.RowKit
theorem Zqs (V:Nat->BF) (e:Nat):ef V (enot e)=notF (ef V e):=funext fun ρ=>Zhv V e ρ
section
variable {K:Law} {n:Nat}
theorem Zib {o:Own} {w:World} {mb:Nat} {m:ManD} {V:Nat->BF} (h:Zds (K m.d V) o w mb m) {e:Nat} (he:okE (Zab m.d) e):e<eMax:=by
 obtain⟨s,hs⟩:=h;obtain⟨s2,h2⟩:=hs.store;have:=h2.edge_lt he;unfold eMax;omega
end
open Go.RowKit
section
variable {K:Law} {n:Nat} {Od:List Nat->Prop} {room:Nat} {w0 w:World} {mb xb:Nat} {fs:List (Int×BF)} {nx:Int} {o:Own} {m:ManD} {V:Nat->BF}
end
open Go.RowKit
section
variable {K:Law} {n k:Nat} {room:Nat} {w0 w w1:World} {mb:Nat} {fs:List (Int×BF)} {nx:Int} {o:Own} {m:ManD} {V:Nat->BF}
def NewF (K:Law) (n room:Nat) (w0:World) (mb:Nat) (fs:List (Int×BF)) (nx:Int) (ws0:List Ev) (F:BF) (o:Own) (w:World) (x:Ending) (w':World):Prop :=
 x=.returned (.tuple #[.int .i64 nx,.int .i64 0])/\∃ o' m' V',ChgX NoB o o' w w'/\m'.waits <:+ ws0/\SatE K n (fun _=>True) room w0 mb (fs++[(nx,F)]) (nx+1) w' o' m' V'
theorem Ybb {C:Nat->Prop} {B:World->Prop} {gop:Nat} {lop:Array Value} {F:BF} (hK:Zb3 K) (eg:∀ args w,(callFunc gop args).run Tryz.prog w=.ok (.enter gop args) w) (ws0:List Ev)
 (hB:∀ W W',B W->(∀ c,C c->W'.heap[c]?=W.heap[c]?)->B W')
 (hop:∀ (o:Own) (W:World) (m:ManD) (V:Nat->BF) (xb:Nat),SatE K n (fun _=>True) room w0 mb fs nx W o m V->B W->(∀ k,C k->k<W.heap.size/\o k=none)->Zeh o W xb mb->¬ C xb->Calls Tryz.prog gop (#[.pointer (some ⟨xb,0,none⟩)]++lop) W (Zqg K k o W mb m V fun _ V' r=>ef V' r=F))
 (h:SatE K n (fun _=>True) room w0 mb fs nx w o m V) (hb1:Below w.heap.size w w1) (hC:∀ c,C c->c<w1.heap.size/\(w.heap.size<=c\/(w0.heap.size<=c/\o c=none/\∀ W,B W->W.heap[c]?=w.heap[c]?))) (hb:B w1) (hst:m.waits <:+ ws0) (hn:nx<=549755813888) (hr:fs.length*2^n+k<=room) :
 Calls Tryz.prog 75 #[.pointer (some ⟨mb,0,none⟩),.func (.func gop) #[] lop] w1 (NewF K n room w0 mb fs nx ws0 F o w):=by
 have hw0:=h.chg.size;have hnone:∀ c,C c->o c=none:=fun c hc=>by
  rcases(hC c hc).2 with h1|⟨_,h1,_⟩
  ·
   exact h.lt.none h1
  ·
   exact h1
 refine(Zuv hK hB (fun _ _ _ _ _ h _=>h) StL.coll (fun c hc=>by
  rcases(hC c hc).2 with h1|⟨h1,_,_⟩
  ·
   exact Nat.le_trans hw0 h1
  ·
   exact h1) eg (Ybr (k:=k) (F:=F) ws0 none (fun _ e=>by cases e) (fun ev _=>Zi2 hn ev) hB hop) (h.below hb1) hb (fun c hc=>⟨(hC c hc).1,hnone c hc⟩) ⟨hst,fun _ e=>by cases e⟩ (by omega)).mono ?_
 rintro x w' ⟨o',m',V',hB',hc,⟨r,m1,rfl,hs,⟨q1,q2,_⟩,_,_,_,_,_,q3,_⟩|⟨er,m0,_,_,hsf,⟨_,e7,⟨W',oo,VV,hs'⟩,h5,h6,_⟩,h7⟩⟩
 ·
  refine⟨rfl,o',m',V',⟨hc.os.trans hb1.os,hc.tape.trans hb1.tape,hc.output.trans hb1.output,Nat.le_trans hb1.size hc.size,fun j hj ho _=>?_,hc.ext,fun j hj=>Nat.le_trans hb1.size (hc.new j hj)⟩,by rw[q3];exact q2,by rw[<- q1];exact hs⟩
  by_cases hcj:C j
  ·
   rcases(hC j hcj).2 with h1|⟨_,_,h1⟩
   ·
    omega
   ·
    exact h1 w' hB'
  ·
   exact(hc.block j (Nat.lt_of_lt_of_le hj hb1.size) ho hcj).trans (hb1.block j hj)
 ·
  exfalso;have h8:=hs'.few (h7 e7);have h9:=hsf.room;omega
end
open Go.RowKit
def Yba (e0:Nat):BF:=fun _=>decide (e0=0)
theorem Zux {d:Zae} {V:Nat->BF} (hk:Zan d V) {e0:Nat} (h:e0/2=0):ef V e0=Yba e0:=by
 rcases(show e0=0\/e0=1 by omega) with rfl|rfl
 ·
  rw[hk.dag.ef0];rfl
 ·
  rw[hk.dag.ef1];rfl
section
variable {K:Law} {n:Nat} {room:Nat} {w0 w:World} {mb:Nat} {fs:List (Int×BF)} {nx:Int} {o:Own} {m:ManD} {V:Nat->BF} {ws0:List Ev}
end
open Go.RowKit
theorem Chg.none' {R:Role->Prop} {o o':Own} {w w':World} (h:Chg R o o' w w') {k:Nat} (hk:k<w.heap.size) (ho:o k=none):o' k=none:=(ChgX.of_chg h NoB).none' hk ho
section
variable {K:Law} {k k1 k2:Nat} {w W w':World} {mb:Nat} {o o':Own} {m m':ManD} {V V':Nat->BF} {T:Nat->Prop}
end
open Go.RowKit
section
variable {P:Program} {S:World->Prop} {Q:Exit->Act->World->Prop} {R:List PanicEntry->World->Prop}
def Nx (_:List Nat) (P:Program) (l:List Oper) (Q:Exit->Act->World->Prop) (R:List PanicEntry->World->Prop) (S:World->Prop) (f:Nat) (L:Array Bool) (a:Act) (w:World):Prop:=Zm4 P l Q R S l.length f L a w
theorem Zfb (pl:List Nat) {id:Nat} {a:Act} {w:World} {l:List Oper} (S:World->Prop) (R:List PanicEntry->World->Prop) (hR:∀ c (a:Act) w,a.defers=[]->R c w->Q (.panic c) a w) (hm:P.follows .mixedOrders=true) (hS:S w.drew)
 (h:Nx pl P l Q R S l.length (Array.replicate l.toArray.size false) a w.drew):(Code.region id l.toArray true).wp P Q a w:=Zg0 S R l.length hR hm hS h
theorem Zdd {i:Nat} {pl:List Nat} {l:List Oper} {f:Nat} {L:Array Bool} {a:Act} {w:World} {o:Oper} (hi:l[i]?=some o) (hg:o.guard=none)
 (hB:(Region.noSelect l.toArray&&(Region.ready .any l.toArray L).contains i&&Region.free .any l.toArray L i)=true)
 (h:∃ v,(∀ w,S w->(execOp a.eval o).run P w=.ok (.value v) w)/\Nx pl P l Q R S f (L.setIfInBounds i true) (a.put o.dst v) w):Nx (i::pl) P l Q R S (f+1) L a w :=
 Zcl _ hi hg (by rw[hB];simp) h
theorem Zi6 {i:Nat} {pl:List Nat} {l:List Oper} {f:Nat} {L:Array Bool} {a:Act} {w:World} {o:Oper} {g:FuncId} {args:Array Value} {R1:Value->World->Prop} (hi:l[i]?=some o) (hr:decide (Region.ready .any l.toArray L=[i])=true)
 (hg:Region.wanted o (yielded l.toArray a.tmps)=true) (hd:a.defers=[]) (he:(execOp a.eval o).run P w=.ok (.enter g args) w)
 (hc:Calls P g args w fun e w'=>(∃ v,e=.returned v/\S w'/\R1 v w')\/(∃ ch,e=.panicked ch/\R ch w'))
 (h:∀ v w',S w'->R1 v w'->Nx pl P l Q R S f (L.setIfInBounds i true) (a.put o.dst v) w'):Nx (i::pl) P l Q R S (f+1) L a w:=by
 refine Zet [i] (by rw[Bool.and_eq_true];exact⟨hr,rfl⟩) fun j hi2 hS o2 ho2=>?_
 rw[List.mem_singleton] at hi2;subst hi2;rw[hi] at ho2;cases ho2;refine⟨hg,?_⟩;refine Zmr (R:=fun v w'=>S w'/\R1 v w') (R2:=R) he (hc.mono ?_) (fun v w' hh=>⟨hh.1,h v w' hh.1 hh.2⟩) (fun ch w' hh=>⟨hd,hh⟩);rintro e w' (⟨v,h1,h2⟩|hh)
 ·
  exact .inl ⟨v,h1,h2⟩
 ·
  exact .inr hh
theorem Zf3 {i:Nat} {pl:List Nat} {l:List Oper} {f:Nat} {L:Array Bool} {a:Act} {w:World} {o:Oper} {g:FuncId} {args:Array Value} {R1:Value->World->Prop} (hi:l[i]?=some o) (hr:decide (Region.ready .any l.toArray L=[i])=true)
 (hg:Region.wanted o (yielded l.toArray a.tmps)=true) (hd:a.defers=[]) (he:(execOp a.eval o).run P w=.ok (.enter g args) w)
 (hc:Calls P g args w fun e w'=>∃ v,e=.returned v/\R1 v w') (hS:∀ v w',R1 v w'->S w')
 (h:∀ v w',S w'->R1 v w'->Nx pl P l Q R S f (L.setIfInBounds i true) (a.put o.dst v) w'):Nx (i::pl) P l Q R S (f+1) L a w :=
 Zi6 hi hr hg hd he (hc.mono fun e w' ⟨v,h1,h2⟩=>.inl ⟨v,h1,hS v w' h2,h2⟩) h
theorem Zr0 {i:Nat} {pl:List Nat} {l:List Oper} {f:Nat} {L:Array Bool} {a:Act} {w w':World} {v:Value} {o:Oper} (hi:l[i]?=some o) (hr:decide (Region.ready .any l.toArray L=[i])=true)
 (hg:Region.wanted o (yielded l.toArray a.tmps)=true) (he:(execOp a.eval o).run P w=.ok (.value v) w') (hS:S w')
 (h:Nx pl P l Q R S f (L.setIfInBounds i true) (a.put o.dst v) w'):Nx (i::pl) P l Q R S (f+1) L a w:=by
 refine Zet [i] (by rw[Bool.and_eq_true];exact⟨hr,rfl⟩) fun j hi2 _ o2 ho2=>?_
 rw[List.mem_singleton] at hi2;subst hi2;rw[hi] at ho2;cases ho2;exact⟨hg,Zax he ⟨hS,h⟩⟩
theorem Zjs {l:List Oper} {L:Array Bool} {a:Act} {w:World} (hr:(Region.ready .any l.toArray L).isEmpty=true) (h:Q .normal a w):Nx [] P l Q R S 0 L a w:=Zpe hr h
end
open Go.RowKit
theorem Znu (bx bz:List Bool) (hlen:bz.length=bx.length) (ax az:Option Addr) (cx cz:Nat) (w:World) (h1:Zbt w ax bx) (h2:Zbt w az bz) :
 Calls Tryz.prog 102 #[.slice ax bx.length cx,.slice az bx.length cz] w fun x w'=>x=.returned (.bool (decide (bx=bz)))/\Below w.heap.size w w':=by
 have H1:=Hd h1;have H2:=Hd h2;have hl:=h1.len;have HLN:=Hd hlen;obtain⟨L,hL⟩:∃ L,L=bx.length:=⟨_,rfl⟩;have HL:=Hd hL;rw[<- hL] at hl ⊢;clear h1 h2 hL hlen
 go_enter Tryz.func102,Tryz.ntmps102
 go_wp2_with fail
 go_loopw [4,5] (fun s4 s5 wr=>∃ j:Nat,j<=L/\s5=.int .i64 j/\Hid (Below w.heap.size w wr)/\Hid (∀ q,q<j->bx.getD q false=bz.getD q false)) (fun _ s5 _=>L-(intOf s5).toNat)
 case atStart=>exact⟨0,Nat.zero_le _,rfl,Hd (Below.refl _ _),Hd fun q hq=>by omega⟩
 case round =>
  obtain⟨j,hj,rfl,HB,HQ⟩:=hrel
  by_cases hlt:j<L
  ·
   obtain⟨b1,of1,rfl,c1⟩:=(H1.out.below HB.out).cells j (by rw[<- HL.out];exact hlt);obtain⟨b2,of2,rfl,c2⟩:=(H2.out.below HB.out).cells j (by rw[HLN.out,<- HL.out];exact hlt);have HBN:=Hd (HB.out.trans ((Zaf wr 1).mono HB.out.size));have hjz:(j:Int)<(L:Int):=by omega
   obtain⟨y1,hy1⟩:∃ y,y=bx.getD j false:=⟨_,rfl⟩;obtain⟨y2,hy2⟩:∃ y,y=bz.getD j false:=⟨_,rfl⟩;rw[<- hy1] at c1;rw[<- hy2] at c2;have HQ2:Hid (y1=y2->∀ q,q<j+1->bx.getD q false=bz.getD q false):=Hd fun e q hq=>by
    rcases Nat.lt_or_ge q j with h|h
    ·
     exact HQ.out q h
    ·
     obtain rfl:q=j:=by omega
     rw[<- hy1,<- hy2,e]
   have HNE:Hid (y1≠y2->bx≠bz):=Hd fun hne e=>hne (by rw[hy1,hy2,e])
   clear hy1 hy2;go_upto_region 6 with fail;refine Zap (fun W:World=>W.cell? ⟨b1,of1+j,none⟩=some (.bool y1)/\W.cell? ⟨b2,of2+j,none⟩=some (.bool y2)) false 9
    [(0,false),(1,false),(2,false),(3,false),(4,false),(5,false),(6,false),(7,false),(8,false)] (by kernel_rfl) (by kernel_rfl) ⟨c1,c2⟩ ?_
   simp only[planned,Zde]
   iterate 9
    refine Zaq rfl ?_;apply Exists.intro;refine⟨fun w' hw=>?_,?_⟩
    ·
     obtain⟨h1,h2⟩:=hw;go_simp;rfl
    simp only[Zag]
   refine Zei ?_;clear c1 c2;cases y1<;>cases y2
   ·
    have HQ3:=Hd (HQ2.out rfl);go_wp2_with fail;go_roundw
    case rel=>exact⟨j+1,by omega,by go_num,HBN,HQ3⟩
    case measure=>simp[intOf];omega
   ·
    have HF:Hid (Ending.returned (.bool false)=.returned (.bool (decide (bx=bz)))):=Hd (by rw[decide_eq_false (HNE.out (by simp))]);go_wp2_with fail;go_ret;exact⟨HF.out,HBN.out⟩
   ·
    have HF:Hid (Ending.returned (.bool false)=.returned (.bool (decide (bx=bz)))):=Hd (by rw[decide_eq_false (HNE.out (by simp))]);go_wp2_with fail;go_ret;exact⟨HF.out,HBN.out⟩
   ·
    have HQ3:=Hd (HQ2.out rfl);go_wp2_with fail;go_roundw
    case rel=>exact⟨j+1,by omega,by go_num,HBN,HQ3⟩
    case measure=>simp[intOf];omega
  ·
   have HF:Hid (Ending.returned (.bool true)=.returned (.bool (decide (bx=bz)))):=Hd (by
    rw[decide_eq_true];refine List.ext_getElem HLN.out.symm fun i h1 h2=>?_
    have:=HQ.out i (by have:=HL.out;omega);simpa [List.getD,h1,h2] using this)
   have hjz:¬ (j:Int)<(L:Int):=by omega
   go_wp2_with fail;go_ret;exact⟨HF.out,HB.out⟩
open Go.RowKit
def cofF (F:BF) (v:Nat) (b:Bool):BF:=fun ρ=>F fun u=>if u=v then b else ρ u
theorem Zud {u v x r:Nat} (hu:u<v):bitB (2^v*x+r) u=bitB r u:=by
 obtain⟨k,rfl⟩:∃ k,v=u+(k+1):=⟨v-u-1,by omega⟩;unfold bitB;have e1:(2:Nat)^(u+(k+1))*x=2^u*(2*(2^k*x)):=by rw[Nat.pow_add,Nat.pow_succ];ac_rfl
 rw[e1,Nat.mul_add_div (Nat.pow_pos (by omega)),Nat.mul_add_mod]
theorem Zza {v q c r:Nat} (hr:r<2^v) (hc:c<2):bitB (2^v*(2*q+c)+r) v=decide (c=1):=by
 unfold bitB;rw[Nat.mul_add_div (Nat.pow_pos (by omega)),Nat.div_eq_of_lt hr,Nat.add_zero,Nat.mul_add_mod,Nat.mod_eq_of_lt hc]
theorem Zro {u v q c r:Nat} (hr:r<2^v) (hc:c<2) (hu:v<u):bitB (2^v*(2*q+c)+r) u=decide (q/2^(u-v-1)%2=1):=by
 obtain⟨k,rfl⟩:∃ k,u=v+(k+1):=⟨u-v-1,by omega⟩;unfold bitB;have e1:(2:Nat)^(v+(k+1))=2^v*(2*2^k):=by rw[Nat.pow_add,Nat.pow_succ];ac_rfl
 have e2:v+(k+1)-v-1=k:=by omega
 rw[e1,e2,<- Nat.div_div_eq_div_mul,Nat.mul_add_div (Nat.pow_pos (by omega)),Nat.div_eq_of_lt hr,Nat.add_zero,<- Nat.div_div_eq_div_mul];have e3:(2*q+c)/2=q:=by omega
 rw[e3]
def cofI (j v:Nat) (b:Bool):Nat:=if bitB j v && !b then j-2^v else if !bitB j v&&b then j+2^v else j
theorem Zyo (j v:Nat):∃ q c r,r<2^v/\c<2/\j=2^v*(2*q+c)+r:=by
 have h:=Nat.div_add_mod j (2^v);refine⟨j/2^v/2,j/2^v%2,j%2^v,Nat.mod_lt _ (Nat.pow_pos (by omega)),by omega,?_⟩;have e:2*(j/2^v/2)+j/2^v%2=j/2^v:=by omega
 rw[e];exact h.symm
theorem Zkq (j v:Nat) (b:Bool):∀ u,bitB (cofI j v b) u=if u=v then b else bitB j u:=by
 obtain⟨q,c,r,hr,hc,rfl⟩:=Zyo j v;have hat:=Zza (q:=q) hr hc;have key:∃ c':Nat,c'<2/\decide (c'=1)=b/\cofI (2^v*(2*q+c)+r) v b=2^v*(2*q+c')+r:=by
  unfold cofI;rw[hat];have h2:2^v*(2*q+1)=2^v*(2*q+0)+2^v:=by simp[Nat.mul_add]
  rcases(by omega:c=0\/c=1) with rfl|rfl
  ·
   cases b with
   | false=>exact⟨0,by omega,rfl,by simp⟩
   | true=>exact⟨1,by omega,rfl,by simp only[Nat.zero_ne_one,decide_false,Bool.not_true,Bool.and_self,Bool.not_false,Bool.false_eq_true,if_false,if_true];omega⟩
  ·
   cases b with
   | true=>exact⟨1,by omega,rfl,by simp⟩
   | false=>exact⟨0,by omega,rfl,by simp only[decide_true,Bool.not_false,Bool.and_self,if_true];omega⟩
 obtain⟨c',hc',hb,e⟩:=key;intro u;rw[e];rcases Nat.lt_trichotomy u v with h|rfl|h
 ·
  rw[if_neg (by omega),Zud h,Zud h]
 ·
  rw[if_pos rfl,Zza hr hc',hb]
 ·
  rw[if_neg (by omega),Zro hr hc' h,Zro hr hc h]
theorem Zzu {n i:Nat} (h:∀ u,n<=u->bitB i u=false):i<2^n:=by
 rcases Nat.lt_or_ge i (2^n) with h'|h'
 ·
  exact h'
 ·
  exfalso;have hz:∀ k,i/2^n≠0->(∀ u,n<=u->bitB i u=false)->i/2^n<2^k->False:=by
   intro k
   induction k with
   | zero=>intro h1 _ h2;simp at h2;omega
   | succ k ih =>
     intro h1 h2 h3;refine ih h1 h2 ?_;have hb:=h2 (n+k) (by omega);unfold bitB at hb;rw[decide_eq_false_iff_not] at hb;have e:i/2^(n+k)=i/2^n/2^k:=by rw[Nat.pow_add,Nat.div_div_eq_div_mul]
     rw[e] at hb;have h4:i/2^n/2^k<2:=by
      rw[Nat.div_lt_iff_lt_mul (Nat.pow_pos (by omega))];rw[Nat.pow_succ,Nat.mul_comm] at h3;exact h3
     have h5:i/2^n/2^k=0:=by
      generalize i/2^n/2^k=X at hb h4
      omega
     exact(Nat.div_eq_zero_iff_lt (Nat.pow_pos (by omega))).1 h5
  have h0:i/2^n≠0:=by
   intro e;have:=(Nat.div_eq_zero_iff_lt (Nat.pow_pos (by omega))).1 e;omega
  exact hz (i/2^n) h0 h (Nat.lt_two_pow_self)
theorem Zqo {n j v:Nat} {b:Bool} (hj:j<2^n) (hv:v<n):cofI j v b<2^n:=by
 refine Zzu fun u hu=>?_
 rw[Zkq,if_neg (by omega)];unfold bitB;rw[decide_eq_false_iff_not,Nat.div_eq_of_lt (Nat.lt_of_lt_of_le hj (Nat.pow_le_pow_right (by omega) hu))];omega
theorem Zzz {n:Nat} {F:BF} {j v:Nat} {b:Bool} (hj:j<2^n) (hv:v<n):(tabB n F).getD (cofI j v b) false=cofF F v b (Zb1 (Zce j n)):=by
 rw[Zfe (Zqo hj hv)];unfold cofF;congr 1;funext u;rw[Zdn,Zkq,Zdn]
 by_cases e:u=v
 ·
  subst e;simp[hv]
 ·
  rw[if_neg e,if_neg e]
open Go.RowKit
theorem Ztm (n:Nat) (F:BF) (v:Nat) (b:Bool) (hn:n<=16) (hv:v<n) (au:Option Addr) (cu:Nat) (w:World) (h1:Zbt w au (tabB n F)) :
 Calls Tryz.prog 103 #[.slice au (2^n) cu,.int .i64 v,.bool b] w fun x w'=>∃ g,x=.returned (.slice (some ⟨g,0,none⟩) (2^n) (2^n))/\Zbm w' (.slice (some ⟨g,0,none⟩) (2^n) (2^n)) (tabB n (cofF F v b))/\Below w.heap.size w w':=by
 have H1:=Hd h1;have hL6:2^n<=1000000:=Zlk hn;have hp6:2^v<=1000000:=Zlk (by omega);have HTR:Hid (∀ i,i<=1048576->∀ W,Calls Tryz.prog 98 #[.int .i64 (i:Nat),.int .i64 (v:Nat)] W fun x w'=>x=.returned (.bool (bitB i v))/\W=w'):=Hd fun i hi W=>Zlm i v hi (by omega) W
 obtain⟨G,hG⟩:∃ G:Nat->Bool,G=fun i=>cofF F v b (Zb1 (Zce i n)):=⟨_,rfl⟩
 have HT:Hid (tabB n (cofF F v b)=(List.range (2^n)).map G):=Hd (by rw[hG];rfl);have HCT:Hid (∀ j,j<2^n->cofI j v b<2^n/\(tabB n F).getD (cofI j v b) false=G j):=Hd fun j hj=>⟨Zqo hj hv,by rw[hG];exact Zzz hj hv⟩
 have HLT:Hid ((tabB n F).length=2^n):=Hd (Zbo n F);rw[HT.out];obtain⟨L,hL⟩:∃ L,L=2^n:=⟨_,rfl⟩;obtain⟨p,hp⟩:∃ p,p=2^v:=⟨_,rfl⟩;have HBT:Hid (∀ W,Calls Tryz.prog 166 #[.int .i64 (v:Nat)] W fun x w'=>x=.returned (.int .i64 (p:Nat))/\W=w'):=Hd fun W=>by rw[hp];exact Zql v (by omega) W
 have HCI:Hid (∀ j,cofI j v b=if bitB j v && !b then j-p else if !bitB j v&&b then j+p else j):=Hd fun j=>by rw[hp];rfl
 have HPJ:Hid (∀ j,bitB j v=true->p<=j):=Hd fun j hj=>by
  rcases Nat.lt_or_ge j p with h|h
  ·
   unfold bitB at hj;rw[<- hp,Nat.div_eq_of_lt h] at hj;simp at hj
  ·
   exact h
 rw[<- hL] at hL6 HCT HLT ⊢;rw[<- hp] at hp6;clear hL hp h1 hG HT
 go_enter Tryz.func103,Tryz.ntmps103
 go_wp2_with (at_make;refine Zfg Ze8 rfl _ _ rfl w.heap.size w _ L rfl rfl rfl (by omega) (Nat.le_refl _) (Below.refl _ _) ?_;intro g w1 hown1 hb1 hs1 hk1 hg1 hgx;clear hgx)
 go_loopw [8,9] (fun s8 s9 wr=>∃ j:Nat,j<=L/\s8=.int .i64 j/\Hid (OwnB wr w.heap.size (.slice (some ⟨g,0,none⟩) L L) (((List.range L).map G).take j++(List.replicate L false).drop j))/\Hid (Below w.heap.size w wr)) (fun s8 _ _=>L-(intOf s8).toNat)
 case atStart=>exact⟨0,by omega,rfl,Hd (by unfold OwnB;simpa [Zbx] using hown1),Hd hb1⟩
 case round =>
  clear hown1 hb1;obtain⟨j,hj,rfl,HOWN,HBEL⟩:=hrel
  by_cases hlt:j<L
  ·
   have hjl:j<((List.range L).map G).length:=by simp;exact hlt
   obtain⟨hkl,hkv⟩:=HCT.out j hlt;have hci:=HCI.out j;have hpj:=HPJ.out j;obtain⟨kk,hkk⟩:∃ kk,kk=cofI j v b:=⟨_,rfl⟩;rw[<- hkk] at hkl hkv hci;obtain⟨b1,of1,e1,c1⟩:=(H1.out.below HBEL.out).cells kk (by rw[HLT.out];exact hkl);rw[hkv] at c1;have q0:=HOWN.out.cellB j (by simp;omega);have p0:=HOWN.out.frozen j;subst e1;obtain⟨y,hy⟩:∃ y,y=G j:=⟨_,rfl⟩;rw[<- hy] at c1;have HST:Hid (((List.range L).map G)[j]=y):=Hd (by rw[hy];simp);obtain⟨t,ht⟩:∃ t,t=bitB j v:=⟨_,rfl⟩;rw[<- ht] at hci hpj;have HTJ:Hid (∀ W,Calls Tryz.prog 98 #[.int .i64 (j:Nat),.int .i64 (v:Nat)] W fun x w'=>x=.returned (.bool t)/\W=w'):=Hd fun W=>by rw[ht];exact HTR.out j (by omega) W
   have hkz:(kk:Int)<(L:Int):=by omega
   have HNX:Hid (OwnB (wr.setCell ⟨g,j,none⟩ (.bool y)) w.heap.size (.slice (some ⟨g,0,none⟩) L L) (((List.range L).map G).take (j+1)++(List.replicate L false).drop (j+1))):=Hd (by
    rw[<- Zeo (by simp;omega) hjl HST.out];exact HOWN.out.setB j y)
   have HBN:Hid (Below w.heap.size w (wr.setCell ⟨g,j,none⟩ (.bool y))):=Hd (HBEL.out.setCell hg1 _);clear hkv hy ht hkk HOWN H1;cases t<;>cases b
   ·
    have hk1:kk=j:=by simpa using hci
    subst hk1;clear hci hpj;go_wp2_with fail;refine(HTJ.out _).mono ?_;rintro x w2 ⟨rfl,rfl⟩;go_wp2_with fail;refine(HTJ.out _).mono ?_;rintro x w2 ⟨rfl,rfl⟩;go_wp2_with fail;go_roundw
    case rel=>exact⟨kk+1,by omega,by go_num,HNX,HBN⟩
    case measure=>simp[intOf];omega
   ·
    have hk1:kk=j+p:=by simpa using hci
    have hk2:(j:Int)+(p:Int)=(kk:Nat):=by omega
    clear hci hpj hk1;go_wp2_with fail;refine(HTJ.out _).mono ?_;rintro x w2 ⟨rfl,rfl⟩;go_wp2_with fail;refine(HTJ.out _).mono ?_;rintro x w2 ⟨rfl,rfl⟩;go_wp2_with fail;refine(HBT.out _).mono ?_;rintro x w2 ⟨rfl,rfl⟩;go_wp2_with fail;go_roundw
    case rel=>exact⟨j+1,by omega,by go_num,HNX,HBN⟩
    case measure=>simp[intOf];omega
   ·
    have hk1:kk=j-p:=by simpa using hci
    have:=hpj rfl;have hk2:(j:Int)-(p:Int)=(kk:Nat):=by omega
    clear hci hpj hk1;go_wp2_with fail;refine(HTJ.out _).mono ?_;rintro x w2 ⟨rfl,rfl⟩;go_wp2_with fail;refine(HBT.out _).mono ?_;rintro x w2 ⟨rfl,rfl⟩;go_wp2_with fail;refine(HTJ.out _).mono ?_;rintro x w2 ⟨rfl,rfl⟩;go_wp2_with fail;go_roundw
    case rel=>exact⟨j+1,by omega,by go_num,HNX,HBN⟩
    case measure=>simp[intOf];omega
   ·
    have hk1:kk=j:=by simpa using hci
    subst hk1;clear hci hpj;go_wp2_with fail;refine(HTJ.out _).mono ?_;rintro x w2 ⟨rfl,rfl⟩;go_wp2_with fail;refine(HTJ.out _).mono ?_;rintro x w2 ⟨rfl,rfl⟩;go_wp2_with fail;go_roundw
    case rel=>exact⟨kk+1,by omega,by go_num,HNX,HBN⟩
    case measure=>simp[intOf];omega
  ·
   obtain rfl:j=L:=by omega
   have hl2:((List.range j).map G).length=j:=by simp
   have HF:Hid (Zbm wr (.slice (some ⟨g,0,none⟩) j j) ((List.range j).map G)):=Hd (by
    have h:=HOWN.out;rw[List.take_of_length_le (by omega),List.drop_of_length_le (by simp),List.append_nil] at h;exact OwnC.boolsIs h (by simp;exact hL6))
   go_wp2_with fail;go_ret;exact⟨g,rfl,HF.out,HBEL.out⟩
def Zo4 (n:Nat) (F:BF) (v:Nat):Bool := !decide (tabB n (cofF F v false)=tabB n (cofF F v true))
theorem Zpx (n:Nat) (F:BF) (v:Nat) (hn:n<=16) (hv:v<n) (au:Option Addr) (cu:Nat) (w:World) (h1:Zbt w au (tabB n F)) :
 Calls Tryz.prog 35 #[.slice au (2^n) cu,.int .i64 v] w fun x w'=>x=.returned (.bool (Zo4 n F v))/\Below w.heap.size w w':=by
 have HC:Hid (∀ b W,Below w.heap.size w W->Calls Tryz.prog 103 #[.slice au (2^n) cu,.int .i64 (v:Nat),.bool b] W fun x w'=>∃ g,x=.returned (.slice (some ⟨g,0,none⟩) (2^n) (2^n))/\Zbm w' (.slice (some ⟨g,0,none⟩) (2^n) (2^n)) (tabB n (cofF F v b))/\Below W.heap.size W w') :=
  Hd fun b W hb=>Ztm n F v b hn hv au cu W (h1.below hb)
 have HSA:Hid (∀ (a1 a2:Nat) W,Zbm W (.slice (some ⟨a1,0,none⟩) (2^n) (2^n)) (tabB n (cofF F v false))->Zbm W (.slice (some ⟨a2,0,none⟩) (2^n) (2^n)) (tabB n (cofF F v true))->Calls Tryz.prog 102 #[.slice (some ⟨a1,0,none⟩) (2^n) (2^n),.slice (some ⟨a2,0,none⟩) (2^n) (2^n)] W fun x w'=>x=.returned (.bool (decide (tabB n (cofF F v false)=tabB n (cofF F v true))))/\Below W.heap.size W w'):=Hd fun a1 a2 W q1 q2=>by
  obtain⟨b1,d1,e1,k1,_⟩:=q1;obtain⟨b2,d2,e2,k2,_⟩:=q2;injection e1 with e1
  injection e2 with e2
  subst e1 e2;have:=Znu (tabB n (cofF F v false)) (tabB n (cofF F v true)) (by simp[Zbo]) _ _ (2^n) (2^n) W k1 k2;rw[Zbo] at this;exact this
 unfold Zo4;obtain⟨L,hL⟩:∃ L,L=2^n:=⟨_,rfl⟩;rw[<- hL] at HC HSA ⊢;obtain⟨d,hd⟩:∃ d,d=decide (tabB n (cofF F v false)=tabB n (cofF F v true)):=⟨_,rfl⟩;rw[<- hd] at HSA ⊢;clear h1 hL hd
 go_enter Tryz.func35,Tryz.ntmps35
 go_wp2_with fail;refine(HC.out false w (Below.refl _ _)).mono ?_;rintro x w1 ⟨g1,rfl,k1,hb1⟩;have K1:=Hd k1;have HB1:=Hd hb1;clear k1 hb1;go_wp2_with fail;refine(HC.out true w1 HB1.out).mono ?_;rintro x w2 ⟨g2,rfl,k2,hb2⟩;have HS:=Hd (HSA.out g1 g2 w2 (K1.out.below hb2) k2);have HB2:=Hd (HB1.out.trans (hb2.mono HB1.out.size));clear k2 hb2 K1;go_wp2_with fail;refine HS.out.mono ?_;rintro x w3 ⟨rfl,hb3⟩;have HB3:=Hd (HB2.out.trans (hb3.mono HB2.out.size));clear hb3 HS;go_wp2_with fail;go_ret;exact⟨rfl,HB3.out⟩
open Go.RowKit
section
variable {d:Zae} {V:Nat->BF}
theorem Zan.dep (h:Zan d V) {f:Nat} (hf:okE (Zab d) f):DepF d.vars.length (ef V f):=fun ρ ρ' hr=>h.dag.indep _ f (Nat.le_refl _) hf ρ ρ' fun v hv _=>hr v hv
end
open Go.RowKit
section
variable {d:Zae} {V:Nat->BF}
end
section
variable {d:Zae} {V:Nat->BF}
theorem Zyt {f:Nat} {top least:Int} (h:TopS d [f] top least):(top = -1/\Zab d (f/2)=none)\/∃ b,Zab d (f/2)=some b/\top=(b.v:Nat):=by
 rcases h with ⟨h1,_,h3⟩|⟨v,h1,_,_,⟨e,he,b,hb,hv⟩,_⟩
 ·
  exact .inl ⟨h1,h3 f (by simp)⟩
 ·
  simp only[List.mem_singleton] at he;subst he;exact .inr ⟨b,hb,by rw[h1,hv]⟩
end
open Go.RowKit
def Zbd (σ:Nat->BF) (F:BF):BF:=fun ρ=>F fun v=>σ v ρ
theorem Zuq (σ:Nat->BF) (F:BF):Zbd σ (notF F)=notF (Zbd σ F):=rfl
theorem Zks {d:Zae} {V:Nat->BF} (hk:Zan d V) (σ:Nat->BF) {e:Nat} (h:e/2=0):Zbd σ (ef V e)=ef V e:=by
 rw[Zux hk h];rfl
theorem Zup {V:Nat->BF} (σ:Nat->BF) {f lo hi v:Nat} (h:∀ ρ,ef V f ρ=if ρ v then ef V hi ρ else ef V lo ρ):Zbd σ (ef V f)=Zd4 (σ v) (Zbd σ (ef V hi)) (Zbd σ (ef V lo)):=by
 funext ρ
 show ef V f (fun v=>σ v ρ)=iteB (σ v ρ) (ef V hi fun v=>σ v ρ) (ef V lo fun v=>σ v ρ)
 rw[h];rfl
theorem Step.write {K:Law} {D:Nat->Prop} {o o':Own} {w w' w'':World} {mb:Nat} {m m':ManD} {V V':Nat->BF} (h:Step K o w mb m V o' w' m' V') (hw:Wr D w' w'') (hD:∀ k,D k->w.heap.size<=k/\o' k=none):Step K o w mb m V o' w'' m' V':=by
 obtain⟨s,hm⟩:=h.is;refine⟨⟨s,hm.keep (fun g r hg=>hw.keep g (h.lt g r hg) (fun e=>?_)) (fun _ _ h=>h)⟩,h.lt.mono hw.size,⟨hw.os.trans h.chg.os,hw.tape.trans h.chg.tape,hw.output.trans h.chg.output,Nat.le_trans h.chg.size hw.size,fun k hk hr=>?_,h.chg.ext,h.chg.new⟩,h.ok,h.ext,h.hs,h.next⟩
 ·
  rw[(hD g e).2] at hg;cases hg
 ·
  refine(hw.keep k (Nat.lt_of_lt_of_le hk h.chg.size) (fun e=>?_)).trans (h.chg.block k hk hr);have:=(hD k e).1;omega
def Zjj (K:Law) (n:Nat) (σ:Nat->BF) (HP:ManD->(Nat->BF)->Prop) (Bw:World->Prop) (T:Nat->Prop) (g:Nat) (lw:Array Value):Prop :=
 ∀ (o:Own) (W:World) (xb mb:Nat) (m:ManD) (V:Nat->BF) (v:Nat),Zds (K m.d V) o W mb m->Zaj o W->Zeh o W xb mb->Zan m.d V->m.d.vars.length=n->HP m V->Bw W->(∀ q,T q->q<W.heap.size/\o q=none)->v<n ->
  Calls Tryz.prog g (#[.pointer (some ⟨xb,0,none⟩),.int .i64 v]++lw) W fun e w' =>
   (∃ (r:Nat) (ok:Bool) (o':Own) (m':ManD) (V':Nat->BF),e=.returned (.tuple #[.int .i64 r,.bool ok])/\AtC K 1 o W mb m V o' w' m' V'/\okE (Zab m'.d) r/\(ok=true->ef V' r=σ v)/\(ok=false->σ v=varF v)) \/
   (∃ er evt ev,e=Zch er evt ev/\Zkh K 1 o W mb m V er evt ev w')
structure OvC where
 b6:Nat
 b5:Nat
 kb:Nat
 b3:Nat
 b4:Nat
 xb:Nat
 g:Nat
 lw:Array Value
def OvC.caps (c:OvC):Array Value:=#[.pointer (some ⟨c.b6,0,none⟩),.pointer (some ⟨c.b5,0,none⟩),.pointer (some ⟨c.b3,0,none⟩),.pointer (some ⟨c.b4,0,none⟩)]
structure OvS (K:Law) (n:Nat) (σ:Nat->BF) (HP:ManD->(Nat->BF)->Prop) (Bw:World->Prop) (T:Nat->Prop) (c:OvC) (ob:Own) (wb:World) (mb:Nat) (m0:ManD) (V0:Nat->BF) (k:Nat) (o:Own) (W:World) (m:ManD) (V:Nat->BF):Prop where
 at_:AtC K k ob wb mb m0 V0 o W m V
 vars:m.d.vars.length=n
 ctx:Zeh o W c.xb mb
 hp:HP m V
 bw:Bw W
 f:W.cell? ⟨c.b6,0,none⟩=some (.func (.func 162) #[] c.caps)
 mp:W.cell? ⟨c.b5,0,none⟩=some (.map (some c.kb))
 x:W.cell? ⟨c.b3,0,none⟩=some (.pointer (some ⟨c.xb,0,none⟩))
 w:W.cell? ⟨c.b4,0,none⟩=some (.func (.func c.g) #[] c.lw)
 no:∀ q,(q=c.b6\/q=c.b5\/q=c.kb\/q=c.b3\/q=c.b4\/T q)->o q=none
 t:∀ q,T q->q<W.heap.size
 ne:c.kb≠c.b6/\c.kb≠c.b5/\c.kb≠c.b3/\c.kb≠c.b4/\c.kb≠c.xb/\¬ T c.kb
 new:wb.heap.size<=c.kb
 map:∃ l,Zb9 W c.kb (Value.int .i64) l/\∀ p∈l,∃ e r:Nat,p=((e:Int),.int .i64 r)/\okE (Zab m.d) e/\okE (Zab m.d) r/\ef V r=Zbd σ (ef V e)
section
variable {K:Law} {n:Nat} {σ:Nat->BF} {HP:ManD->(Nat->BF)->Prop} {Bw:World->Prop} {T:Nat->Prop} {c:OvC} {ob o o':Own} {wb W W':World} {mb:Nat} {m0 m m':ManD} {V0 V V':Nat->BF} {k k2:Nat}
theorem OvS.step (h:OvS K n σ HP Bw T c ob wb mb m0 V0 k o W m V) (hHP:∀ {o o':Own} {w w':World} {m m':ManD} {V V':Nat->BF},Step K o w mb m V o' w' m' V'->HP m V->HP m' V') (hB:∀ W W',Bw W->(∀ q,T q->W'.heap[q]?=W.heap[q]?)->Bw W')
 (s:AtC K k2 o W mb m V o' W' m' V'):OvS K n σ HP Bw T c ob wb mb m0 V0 (k+k2) o' W' m' V':=by
 have hno:∀ q,(q=c.b6\/q=c.b5\/q=c.kb\/q=c.b3\/q=c.b4\/T q)->q<W.heap.size:=by
  obtain⟨l,hl,_⟩:=h.map;rintro q (rfl|rfl|rfl|rfl|rfl|hq)
  ·
   exact Zaa h.f
  ·
   exact Zaa h.mp
  ·
   exact hl.lt
  ·
   exact Zaa h.x
  ·
   exact Zaa h.w
  ·
   exact h.t q hq
 refine⟨h.at_.trans s,s.vars h.vars,h.ctx.chg s.st.chg,hHP s.st h.hp,hB _ _ h.bw (fun q hq=>s.st.chg.alien (h.t q hq) (h.no q (.inr (.inr (.inr (.inr (.inr hq))))))),s.st.chg.cell h.f (h.no _ (.inl rfl)),s.st.chg.cell h.mp (h.no _ (.inr (.inl rfl))),s.st.chg.cell h.x (h.no _ (.inr (.inr (.inr (.inl rfl))))),s.st.chg.cell h.w (h.no _ (.inr (.inr (.inr (.inr (.inl rfl)))))),
  fun q hq=>s.st.chg.none' (hno q hq) (h.no q hq),fun q hq=>Nat.lt_of_lt_of_le (h.t q hq) s.st.chg.size,h.ne,h.new,?_⟩
 obtain⟨l,hl,hall⟩:=h.map;refine⟨l,hl.keepB (s.st.chg.alien hl.lt (h.no _ (.inr (.inr (.inl rfl))))),fun p hp=>?_⟩;obtain⟨e,r,e1,e2,e3,e4⟩:=hall p hp;exact⟨e,r,e1,s.st.ext.ok e2,s.st.ext.ok e3,by rw[s.st.ext.ef e3,s.st.ext.ef e2];exact e4⟩
theorem OvS.below (h:OvS K n σ HP Bw T c ob wb mb m0 V0 k o W m V) (hHP:∀ {o o':Own} {w w':World} {m m':ManD} {V V':Nat->BF},Step K o w mb m V o' w' m' V'->HP m V->HP m' V') (hB:∀ W W',Bw W->(∀ q,T q->W'.heap[q]?=W.heap[q]?)->Bw W')
 (hb:Below W.heap.size W W'):OvS K n σ HP Bw T c ob wb mb m0 V0 k o W' m V:=by
 have:=h.step (k2:=0) hHP hB ((AtC.refl h.at_.st.is h.at_.st.lt h.at_.st.ok).below hb);exact this
theorem OvS.put (h:OvS K n σ HP Bw T c ob wb mb m0 V0 k o W m V) (hB:∀ W W',Bw W->(∀ q,T q->W'.heap[q]?=W.heap[q]?)->Bw W') {l:List (Int×Value)} (hl:Zb9 W c.kb (Value.int .i64) l) (hall:∀ p∈l,∃ e r:Nat,p=((e:Int),.int .i64 r)/\okE (Zab m.d) e/\okE (Zab m.d) r/\ef V r=Zbd σ (ef V e))
 {e r:Nat} (he:okE (Zab m.d) e) (hr:okE (Zab m.d) r) (hef:ef V r=Zbd σ (ef V e)) (hl':Zb9 W' c.kb (Value.int .i64) (putL (e:Int) (.int .i64 r) l)) (hg:W.grownBy W' (some c.kb)):OvS K n σ HP Bw T c ob wb mb m0 V0 k o W' m V:=by
 have hw:Wr (fun q=>q=c.kb) W W':=Wr.of_grown hg _ (fun q hq=>by cases hq;rfl);obtain⟨n1,n2,n3,n4,n5,n6⟩:=h.ne;have hcell:∀ b v,c.kb≠b->W.cell? ⟨b,0,none⟩=some v->W'.cell? ⟨b,0,none⟩=some v:=fun b v hne hc=>(World.cell?_of_block (w:=W) (a:=⟨b,0,none⟩) (hw.keep b (Zaa hc) (fun e=>hne e.symm))).trans hc
 refine⟨⟨h.at_.st.write hw (fun q hq=>by subst hq;exact⟨h.new,h.no _ (.inr (.inr (.inl rfl)))⟩),h.at_.waits,h.at_.many⟩,h.vars,⟨hcell _ _ n5 h.ctx.cell,h.ctx.own⟩,h.hp,hB _ _ h.bw (fun q hq=>hw.keep q (h.t q hq) (fun e=>n6 (e ▸ hq))),hcell _ _ n1 h.f,hcell _ _ n2 h.mp,hcell _ _ n3 h.x,hcell _ _ n4 h.w,h.no,fun q hq=>Nat.lt_of_lt_of_le (h.t q hq) hw.size,h.ne,h.new,?_⟩;refine⟨_,hl',fun p hp=>?_⟩;have hg:=Zc0 hl'.nodup (k:=p.1) (v:=p.2) hp;rw[Zig hl.nodup] at hg
 by_cases ek:p.1=(e:Int)
 ·
  rw[if_pos ek] at hg;exact⟨e,r,Prod.ext ek (Option.some.inj hg).symm,he,hr,hef⟩
 ·
  rw[if_neg ek] at hg;obtain⟨e',r',q1,q2⟩:=hall _ (Zd7 hg);exact⟨e',r',q1,q2⟩
end
open Go.RowKit
theorem Zfy (args:Array Value) (w:World):(callFunc 162 args).run Tryz.prog w=.ok (.enter 162 args) w:=enters_of Tryz.func162 (by kernel_rfl) rfl args w
theorem kEd:Zm3 Tryz.prog 116 (Value.int .i64):=Zpc Tryz.underlying116
def OvR (K:Law) (n:Nat) (σ:Nat->BF) (HP:ManD->(Nat->BF)->Prop) (Bw:World->Prop) (T:Nat->Prop) (c:OvC) (ob:Own) (wb:World) (mb:Nat) (m0:ManD) (V0:Nat->BF) (kt k:Nat) (m:ManD) (V:Nat->BF) (e:Nat) (x:Ending) (w':World):Prop :=
 (∃ (r:Nat) (o':Own) (m':ManD) (V':Nat->BF),x=.returned (.int .i64 r)/\OvS K n σ HP Bw T c ob wb mb m0 V0 k o' w' m' V'/\Ext m.d V m'.d V'/\okE (Zab m'.d) r/\ef V' r=Zbd σ (ef V e))\/(∃ er evt ev,x=Zch er evt ev/\Zkh K kt ob wb mb m0 V0 er evt ev w')
def AtOv (K:Law) (n:Nat) (σ:Nat->BF) (HP:ManD->(Nat->BF)->Prop) (Bw:World->Prop) (T:Nat->Prop) (c:OvC) (ob:Own) (wb:World) (mb:Nat) (m0:ManD) (V0:Nat->BF) (kt J:Nat) (ev:Bool):Prop :=
 ∀ (k:Nat) (o:Own) (W:World) (m:ManD) (V:Nat->BF) (e:Nat),OvS K n σ HP Bw T c ob wb mb m0 V0 k o W m V->okE (Zab m.d) e->(ev=true->eneg e=false)->n<=lvE n (levN m.d) (Zab m.d) e+J->k+(2^J-1)*(2^n+1)<=kt ->
  Calls Tryz.prog 162 (#[.int .i64 e]++c.caps) W (OvR K n σ HP Bw T c ob wb mb m0 V0 kt (k+(2^J-1)*(2^n+1)) m V e)
section
variable {K:Law} {n:Nat} {σ:Nat->BF} {HP:ManD->(Nat->BF)->Prop} {Bw:World->Prop} {T:Nat->Prop} {c:OvC} {ob o o':Own} {wb W W':World} {mb:Nat} {m0 m m':ManD} {V0 V V':Nat->BF} {k k2 kt J:Nat}
theorem OvS.mono (h:OvS K n σ HP Bw T c ob wb mb m0 V0 k o W m V) (hk:k<=k2):OvS K n σ HP Bw T c ob wb mb m0 V0 k2 o W m V:={ h with at_:=h.at_.mono hk }
theorem Yat (J n:Nat):(2^J-1)*(2^n+1)+(2^J-1)*(2^n+1)+(1+1+(2^n-1))=(2^(J+1)-1)*(2^n+1):=by
 have h1:0<2^J:=Nat.pow_pos (by omega);have h2:0<2^n:=Nat.pow_pos (by omega);have h3:2^(J+1)-1=(2^J-1)+(2^J-1)+1:=by rw[Nat.pow_succ];omega
 rw[h3,Nat.add_mul,Nat.add_mul,Nat.one_mul];omega
theorem Zv1 (hK:Zb3 K) (hHP:∀ {o o':Own} {w w':World} {m m':ManD} {V V':Nat->BF},Step K o w mb m V o' w' m' V'->HP m V->HP m' V') (hB:∀ W W',Bw W->(∀ q,T q->W'.heap[q]?=W.heap[q]?)->Bw W') (hw:Zjj K n σ HP Bw T c.g c.lw) (eg:∀ args w,(callFunc c.g args).run Tryz.prog w=.ok (.enter c.g args) w)
 (IH:AtOv K n σ HP Bw T c ob wb mb m0 V0 kt J false):AtOv K n σ HP Bw T c ob wb mb m0 V0 kt (J+1) true:=by
 intro k o W m V e hs he hev hlev hkt;have hev:=hev rfl;obtain⟨b6,b5,kb,b3,b4,xb,g,lw⟩:=c;have hk:=hs.at_.st.ok;obtain⟨N1,hN1⟩:∃ N1,N1=(2^J-1)*(2^n+1):=⟨_,rfl⟩;have hcost:=Yat J n;rw[<- hN1] at hcost;obtain⟨P,hP⟩:∃ P:Ending->World->Prop,P=OvR K n σ HP Bw T ⟨b6,b5,kb,b3,b4,xb,g,lw⟩ ob wb mb m0 V0 kt (k+(2^(J+1)-1)*(2^n+1)) m V e:=⟨_,rfl⟩;have he_lt:=Zib hs.at_.st.is he;have HCON:=Hd (Zh9 e W he_lt);have HNEG:=Hd (Zhy e W he_lt);rw[hev] at HNEG
 by_cases h0:e/2=0
 ·
  have HF:Hid (P (.returned (.int .i64 (e:Nat))) W):=Hd (by
   rw[hP];exact .inl ⟨e,o,m,V,rfl,hs.mono (by omega),Ext.refl _ _,he,by rw[Zks hk σ h0]⟩)
  rw[decide_eq_true (show enode e=0 from h0)] at HCON;unfold OvC.caps;rw[<- hP];clear hP hs hk hK hHP hB hw IH HNEG hev
  show Calls _ _ #[_,_,_,_,_] _ _
  go_enter Tryz.func162,Tryz.ntmps162
  go_wp2_with fail;refine HCON.out.mono ?_;rintro y w' ⟨rfl,rfl⟩;go_wp2_with fail;exact HF.out
 rw[decide_eq_false (show ¬ enode e=0 from h0)] at HCON;obtain⟨b,hb⟩:∃ b,Zab m.d (e/2)=some b:=by
  rcases he with h|h
  ·
   exact absurd h h0
  ·
   exact h
 have hvn:b.v<n:=by rw[<- hs.vars];exact hk.dag.var _ _ hb
 have hlv:lvE n (levN m.d) (Zab m.d) e=levN m.d b.v:=by unfold lvE;rw[hb]
 obtain⟨q1,q2,q3,q4,q5⟩:=Zfj (V:=V) hk he (by rw[hs.vars];exact hvn) (by rw[hs.vars,hlv];exact Nat.le_refl _);rw[hs.vars] at q3 q4;obtain⟨lo,hlo⟩:∃ lo,lo=(cofs m.d e b.v).1:=⟨_,rfl⟩;obtain⟨hi,hhi⟩:∃ hi,hi=(cofs m.d e b.v).2:=⟨_,rfl⟩;rw[<- hlo] at q1 q3 q5;rw[<- hhi] at q2 q4 q5;obtain⟨v,hv⟩:∃ v,v=b.v:=⟨_,rfl⟩;rw[<- hv] at q3 q4 q5 hvn hlv hlo hhi;have HCO:=Hd (Zup σ q5);obtain⟨l,hl,hall⟩:=hs.map;have HALL:=Hd hall;have HHP:Hid (∀ {o o':Own} {w w':World} {m m':ManD} {V V':Nat->BF},Step K o w mb m V o' w' m' V'->HP m V->HP m' V'):=Hd hHP;have HBB:=Hd hB;have hlk:=hl.lookup kEd Tryz.underlying190 Zof (e:Int) true;have cm:=hs.mp;have cx:=hs.x;have cf:=hs.f;unfold OvC.caps at cf ⊢
 show Calls _ _ #[_,_,_,_,_] _ _
 rw[<- hP];have HP0:=Hd hP;have HS:=Hd hs;have HIH:=Hd IH;cases hg:getL l (e:Int) with
 | some u =>
   obtain⟨e',r,ee,h1,h2,h3⟩:=hall _ (Zd7 hg);simp only[Prod.mk.injEq] at ee;obtain⟨ee,rfl⟩:=ee;obtain rfl:e=e':=by omega
   rw[hg] at hlk;simp only[if_true,Option.getD_some,Option.isSome_some] at hlk
   have HF:Hid (P (.returned (.int .i64 (r:Nat))) W):=Hd (by
    rw[HP0.out];exact .inl ⟨r,o,m,V,rfl,HS.out.mono (by omega),Ext.refl _ _,h2,h3⟩)
   clear hP hs hk hK hHP hB hw IH HIH hall hl h1 h2 h3 hg hev hcost hN1 hkt hlev
   go_enter Tryz.func162,Tryz.ntmps162
   go_wp2_with fail;refine HCON.out.mono ?_;rintro y w' ⟨rfl,rfl⟩;go_wp2_with fail;refine HNEG.out.mono ?_;rintro y w' ⟨rfl,rfl⟩;go_wp2_with fail;exact HF.out
 | none =>
   rw[hg] at hlk;simp only[if_true,Option.getD_none,Option.isSome_none] at hlk;obtain⟨w1,hw1⟩:∃ w1,w1=W.alloc (.cells #[.int .i64 (e:Nat)] 116):=⟨_,rfl⟩;have HW1:Hid (_=w1):=Hd hw1.symm;have hb1:Below W.heap.size W w1:=by rw[hw1];exact Zac _ _
   have hblk:w1.heap[W.heap.size]?=some (.cells #[.int .i64 (e:Nat)] 116 (0,0)):=by rw[hw1];exact heap_alloc_new _ _
   have HS1:=Hd (hs.below hHP hB hb1)
   have HTOP:Hid (Calls Tryz.prog 151 #[.pointer (some ⟨xb,0,none⟩),.slice (some ⟨W.heap.size,0,none⟩) 1 1] w1 fun x w'=>x=.returned (.int .i64 v)/\Below w1.heap.size w1 w'):=Hd ((Zme HS1.out.at_.st.is HS1.out.at_.st.lt HS1.out.ctx HS1.out.at_.st.ok [e] (by simpa using he) (some ⟨W.heap.size,0,none⟩) 1 ⟨by simp,fun q hq=>⟨W.heap.size,0,rfl,by
    obtain rfl:q=0:=by simp at hq;omega
    exact cell1 hblk⟩⟩).mono (by
    rintro x w' ⟨top,least,rfl,ht,hb2⟩;rcases Zyt ht with ⟨_,h⟩|⟨b',h,rfl⟩
    ·
     rw[hb] at h;cases h
    ·
     rw[hb] at h;cases h
     exact⟨by rw[hv],hb2⟩))
   have HLO:=Hd hlo;have HHI:=Hd hhi;have HKT:Hid (k+N1+N1+(1+1+(2^n-1))<=kt/\k+N1+N1+(1+1+(2^n-1))=k+(2^(J+1)-1)*(2^n+1)):=Hd ⟨by omega,by omega⟩
   have HREC:Hid (∀ (k':Nat) (o1:Own) (w':World) (m1:ManD) (V1:Nat->BF) (f:Nat),OvS K n σ HP Bw T ⟨b6,b5,kb,b3,b4,xb,g,lw⟩ ob wb mb m0 V0 k' o1 w' m1 V1->Ext m.d V m1.d V1->okE (Zab m.d) f->levN m.d v<lvE n (levN m.d) (Zab m.d) f->k'+N1<=k+N1+N1->Calls Tryz.prog 162 #[.int .i64 f,.pointer (some ⟨b6,0,none⟩),.pointer (some ⟨b5,0,none⟩),.pointer (some ⟨b3,0,none⟩),.pointer (some ⟨b4,0,none⟩)] w' fun e w' =>
    (∃ u,e=.returned u/\w'.cell? ⟨b6,0,none⟩=some (.func (.func 162) #[] #[.pointer (some ⟨b6,0,none⟩),.pointer (some ⟨b5,0,none⟩),.pointer (some ⟨b3,0,none⟩),.pointer (some ⟨b4,0,none⟩)])/\∃ r1:Nat,u=.int .i64 r1/\∃ (o2:Own) (m2:ManD) (V2:Nat->BF),OvS K n σ HP Bw T ⟨b6,b5,kb,b3,b4,xb,g,lw⟩ ob wb mb m0 V0 (k'+N1) o2 w' m2 V2/\Ext m.d V m2.d V2/\Ext m1.d V1 m2.d V2/\okE (Zab m2.d) r1/\ef V2 r1=Zbd σ (ef V f))\/(∃ ch,e=.panicked ch/\P (.panicked ch) w')):=by
    refine Hd fun k' o1 w' m1 V1 f h1 hx hf hl hkk=>?_
    have hle:lvE n (levN m1.d) (Zab m1.d) f=lvE n (levN m.d) (Zab m.d) f:=by
     exact hx.lvE hf hk.dag.none0 h1.at_.st.ok.dag.none0
    have:=HIH.out k' o1 w' m1 V1 f h1 (hx.ok hf) (fun h=>by cases h) (by rw[hle];omega) (by rw[<- hN1];have:=HKT.out;omega);rw[<- hN1] at this;refine this.mono ?_;rintro x w2 (⟨r,o2,m2,V2,rfl,p1,p2,p3,p4⟩|⟨er,evt,ev,rfl,hst⟩)
    ·
     exact .inl ⟨_,rfl,p1.f,r,rfl,o2,m2,V2,p1,hx.trans p2,p2,p3,by rw[p4,hx.ef hf]⟩
    ·
     refine .inr ⟨_,rfl,?_⟩;rw[HP0.out];exact .inr ⟨er,evt,ev,rfl,hst⟩
   have HPAN:Hid (∀ er evt ev w',Zkh K kt ob wb mb m0 V0 er evt ev w'->P (Zch er evt ev) w'):=Hd fun er evt ev w' h=>by rw[HP0.out];exact .inr ⟨er,evt,ev,rfl,h⟩
   have HWITH:=Hd hw;have HKK:=Hd hK;have HQ1:=Hd q1;have HQ2:=Hd q2;have HQ3:=Hd q3;have HQ4:=Hd q4;have HE:=Hd he;have HVN:=Hd hvn;clear hP hs hk hK hHP hB hw IH HIH hall hl hg hev hcost hkt hlev hw1 hblk hb1 HALL q1 q2 q3 q4 q5 hb hlv hlo hhi hv he hvn hN1 h0 he_lt
   go_enter Tryz.func162,Tryz.ntmps162
   go_wp2_with fail;refine HCON.out.mono ?_;rintro y w' ⟨rfl,rfl⟩;go_wp2_with fail;refine HNEG.out.mono ?_;rintro y w' ⟨rfl,rfl⟩;go_wp2_with fail;rw[HW1.out];refine HTOP.out.mono ?_;rintro y w2 ⟨rfl,hb2⟩;have HS2:=Hd (HS1.out.below HHP.out HBB.out hb2);have cx2:=HS2.out.x
   have HSPL:Hid (Calls Tryz.prog 152 #[.pointer (some ⟨xb,0,none⟩),.int .i64 e,.int .i64 v] w2 fun x w'=>x=.returned (.tuple #[.int .i64 lo,.int .i64 hi])/\Below w2.heap.size w2 w'):=Hd ((Zjk HS2.out.at_.st.is HS2.out.at_.st.lt HS2.out.ctx HS2.out.at_.st.ok e HE.out v).mono (by
    rintro x w' ⟨rfl,h⟩;exact⟨by rw[HLO.out,HHI.out],h⟩))
   clear hb2 hlk cm cx cf HCON HNEG HTOP HW1 HS1;go_wp2_with fail;refine HSPL.out.mono ?_;rintro y w3 ⟨rfl,hb3⟩;have HS3:=Hd (HS2.out.below HHP.out HBB.out (hb3.trans ((Zaf w3 1).mono hb3.size)));have cf3:w3.drew.cell? ⟨b6,0,none⟩=some (.func (.func 162) #[] #[.pointer (some ⟨b6,0,none⟩),.pointer (some ⟨b5,0,none⟩),.pointer (some ⟨b3,0,none⟩),.pointer (some ⟨b4,0,none⟩)]):=HS3.out.f;have HL:=Hd (HREC.out k o w3.drew m V lo HS3.out (Ext.refl _ _) HQ1.out HQ3.out (by omega));have eg1:=Zfy;clear hb3 HSPL HS2 cx2;go_upto_region 10 with fail;refine Zfb [0,1,3,4,2,5,6,7] (fun W=>W.cell? ⟨b6,0,none⟩=some (.func (.func 162) #[] #[.pointer (some ⟨b6,0,none⟩),.pointer (some ⟨b5,0,none⟩),.pointer (some ⟨b3,0,none⟩),.pointer (some ⟨b4,0,none⟩)])) (fun ch w'=>P (.panicked ch) w') (fun c a w hd h=>⟨hd,h⟩) (by kernel_rfl) cf3 ?_
   iterate 4
    refine Zdd rfl rfl (by kernel_rfl) ?_;apply Exists.intro;refine⟨fun w' hw=>?_,?_⟩
    ·
     have q1:w'.cell? ⟨b6,0,none⟩=some (.func (.func 162) #[] #[.pointer (some ⟨b6,0,none⟩),.pointer (some ⟨b5,0,none⟩),.pointer (some ⟨b3,0,none⟩),.pointer (some ⟨b4,0,none⟩)]):=hw;go_simp;rfl
    simp only[Zag]
   refine Zi6 rfl (by kernel_rfl) rfl rfl (by go_simp) HL.out ?_;rintro u w4 hS4 ⟨r1,rfl,o4,m4,V4,s4,x4,x4',k4,f4⟩;have HS4:=Hd s4;have HX4:=Hd x4;have HK4:=Hd k4;have HF4:=Hd f4;have HH:=Hd (HREC.out (k+N1) o4 w4 m4 V4 hi s4 x4 HQ2.out HQ4.out (by omega));clear s4 x4 x4' k4 f4 HL hS4;simp only[Zag];refine Zi6 rfl (by kernel_rfl) rfl rfl (by go_simp) HH.out ?_;rintro u w5 hS5 ⟨r2,rfl,o5,m5,V5,s5,x5,x5',k5,f5⟩;have HS5:=Hd s5;have HX5:=Hd x5;have HK5:=Hd k5;have HF5:=Hd f5;have HK15:=Hd (x5'.ok HK4.out);have HF15:Hid (ef V5 r1=Zbd σ (ef V lo)):=Hd ((x5'.ef HK4.out).trans HF4.out)
   have HW5:Hid (Calls Tryz.prog g (#[.pointer (some ⟨xb,0,none⟩),.int .i64 v]++lw) w5 fun e w'=>(∃ (r:Nat) (ok:Bool) (o':Own) (m':ManD) (V':Nat->BF),e=.returned (.tuple #[.int .i64 r,.bool ok])/\AtC K 1 o5 w5 mb m5 V5 o' w' m' V'/\okE (Zab m'.d) r/\(ok=true->ef V' r=σ v)/\(ok=false->σ v=varF v))\/(∃ er evt ev,e=Zch er evt ev/\P (Zch er evt ev) w')):=Hd ((HWITH.out o5 w5 xb mb m5 V5 v s5.at_.st.is s5.at_.st.lt s5.ctx s5.at_.st.ok s5.vars s5.hp s5.bw (fun q hq=>⟨s5.t q hq,s5.no q (.inr (.inr (.inr (.inr (.inr hq)))))⟩) HVN.out).mono (by
    rintro e w' (h|⟨er,evt,ev,rfl,hst⟩)
    ·
     exact .inl h
    ·
     exact .inr ⟨er,evt,ev,rfl,HPAN.out _ _ _ _ (hst.after s5.at_ (by have:=HKT.out;omega))⟩))
   have cw5:=s5.w;have cx5:=s5.x;clear s5 x5 x5' k5 f5 HH hS5 HS4 HK4 HF4 HX4 cf3;simp only[Zag]
   iterate 2
    refine Zdd rfl rfl (by kernel_rfl) ?_;apply Exists.intro;refine⟨fun w' hw=>?_,?_⟩
    ·
     go_simp;rfl
    simp only[Zag]
   refine Zjs (by kernel_rfl) ?_;go_wp2_with fail;refine HW5.out.mono ?_;rintro y w6 (⟨r3,ok,o6,m6,V6,rfl,a6,k6,t6,u6⟩|⟨er,evt,ev,rfl,hp⟩)
   ·
    have HS6:Hid (OvS K n σ HP Bw T ⟨b6,b5,kb,b3,b4,xb,g,lw⟩ ob wb mb m0 V0 (k+N1+N1+1) o6 w6 m6 V6):=Hd (HS5.out.step HHP.out HBB.out a6);have HX6:=Hd (HX5.out.trans a6.st.ext);have HK16:=Hd (a6.st.ext.ok HK15.out);have HK26:=Hd (a6.st.ext.ok HK5.out);have HF16:Hid (ef V6 r1=Zbd σ (ef V lo)):=Hd ((a6.st.ext.ef HK15.out).trans HF15.out);have HF26:Hid (ef V6 r2=Zbd σ (ef V hi)):=Hd ((a6.st.ext.ef HK5.out).trans HF5.out);have HK6:=Hd k6;have HT6:=Hd t6;have HU6:=Hd u6
    have HEND:Hid (∀ (o7:Own) (w7:World) (m7:ManD) (V7:Nat->BF) (r4:Nat),OvS K n σ HP Bw T ⟨b6,b5,kb,b3,b4,xb,g,lw⟩ ob wb mb m0 V0 (k+N1+N1+(1+1)) o7 w7 m7 V7->Ext m6.d V6 m7.d V7->okE (Zab m7.d) r4->ef V7 r4=σ v->Calls Tryz.prog 79 #[.pointer (some ⟨xb,0,none⟩),.int .i64 r4,.int .i64 r2,.int .i64 r1] w7 fun e' w' =>
     (∃ (r:Nat) (l8:List (Int×Value)),e'=.returned (.int .i64 r)/\w'.cell? ⟨b5,0,none⟩=some (.map (some kb))/\Zb9 w' kb (Value.int .i64) l8/\(∀ w9,Zb9 w9 kb (Value.int .i64) (putL (e:Int) (.int .i64 r) l8)->w'.grownBy w9 (some kb)->P (.returned (.int .i64 r)) w9))\/(∃ er evt ev,e'=Zch er evt ev/\P (Zch er evt ev) w')):=by
     refine Hd fun o7 w7 m7 V7 r4 s7 x7 k7 f7=>?_
     refine(Zxa HKK.out s7.at_.st.is s7.at_.st.lt s7.ctx s7.at_.st.ok s7.vars r4 r2 r1 k7 (x7.ok HK26.out) (x7.ok HK16.out)).mono ?_;rintro e' w' (⟨r,o8,m8,V8,rfl,p1,p2,p3⟩|⟨er,evt,ev,rfl,hst⟩)
     ·
      have s8:=s7.step HHP.out HBB.out p1;obtain⟨l8,hl8,hall8⟩:=s8.map;refine .inl ⟨r,l8,rfl,s8.mp,hl8,fun w9 hm9 hg9=>?_⟩;have x8:=(HX6.out.trans x7).trans p1.st.ext;have hef:ef V8 r=Zbd σ (ef V8 e):=by
       rw[x8.ef HE.out,HCO.out,p3,f7,x7.ef HK26.out,x7.ef HK16.out,HF16.out,HF26.out]
      rw[HP0.out];refine .inl ⟨r,o8,m8,V8,rfl,?_,x8,p2,by rw[hef,x8.ef HE.out]⟩;rw[<- HKT.out.2];have:=s8.put HBB.out hl8 hall8 (x8.ok HE.out) p2 hef hm9 hg9;rw[Nat.add_assoc (k+N1+N1)] at this;exact this
     ·
      exact .inr ⟨er,evt,ev,rfl,HPAN.out _ _ _ _ (hst.after s7.at_ (by have:=HKT.out;omega))⟩
    have cx6:=HS6.out.x;clear a6 k6 t6 u6 HW5 cw5 cx5 HS5 HX5 HK15 HK5 HF15 HF5 HREC HWITH;cases ok with
    | true =>
      have HI:=Hd (HEND.out o6 w6 m6 V6 r3 (HS6.out.mono (by omega)) (Ext.refl _ _) HK6.out (HT6.out rfl));clear HEND HKK;go_wp2_with fail;refine HI.out.mono ?_;rintro y w8 (⟨r,l8,rfl,cm8,hl8,hp⟩|⟨er,evt,ev,rfl,hp⟩)
      ·
       have HL8:=Hd hl8;have HP8:=Hd hp;clear hl8 hp HI cx6;go_wp2_with (refine Zcu (l:=l8) rfl _ _ _ rfl kEd Tryz.underlying190 (e:Int) (.int .i64 (r:Nat)) rfl rfl rfl HL8.out ?_;intro w9 hm9 hg9);have HF:=Hd (HP8.out w9 hm9 hg9);clear hm9 hg9 HP8 HL8 cm8;go_wp2_with fail;exact HF.out
      ·
       have HF:=Hd hp;clear hp HI;unfold Zch;go_wp2_with fail;exact⟨rfl,HF.out⟩
    | false =>
      have HV0:=Znb HKK.out HS6.out.at_.st.is HS6.out.at_.st.lt HS6.out.ctx HS6.out.at_.st.ok v (by rw[HS6.out.vars];exact HVN.out)
      have HV:Hid (Calls Tryz.prog 77 #[.pointer (some ⟨xb,0,none⟩),.int .i64 v,.int .i64 1,.int .i64 0] w6 fun e' w7=>(∃ (r4:Nat) (o7:Own) (m7:ManD) (V7:Nat->BF),e'=.returned (.int .i64 r4)/\OvS K n σ HP Bw T ⟨b6,b5,kb,b3,b4,xb,g,lw⟩ ob wb mb m0 V0 (k+N1+N1+(1+1)) o7 w7 m7 V7/\Ext m6.d V6 m7.d V7/\okE (Zab m7.d) r4/\ef V7 r4=σ v)\/(∃ er evt ev,e'=Zch er evt ev/\P (Zch er evt ev) w7)):=Hd (HV0.mono (by
       rintro e' w7 (⟨r4,o7,m7,V7,rfl,p1,p2,p3⟩|⟨er,evt,ev,rfl,hst⟩)
       ·
        refine .inl ⟨r4,o7,m7,V7,rfl,?_,p1.st.ext,p2,by rw[HU6.out rfl];exact p3⟩;have:=HS6.out.step HHP.out HBB.out p1;rw[Nat.add_assoc (k+N1+N1)] at this;exact this
       ·
        exact .inr ⟨er,evt,ev,rfl,HPAN.out _ _ _ _ (hst.after HS6.out.at_ (by have:=HKT.out;omega))⟩))
      clear HV0 HKK;go_wp2_with fail;refine HV.out.mono ?_;rintro y w7 (⟨r4,o7,m7,V7,rfl,s7,x7,k7,f7⟩|⟨er,evt,ev,rfl,hp⟩)
      ·
       have HI:=Hd (HEND.out o7 w7 m7 V7 r4 s7 x7 k7 f7);have cx7:=s7.x;clear s7 x7 k7 f7 HEND HV cx6;go_wp2_with fail;refine HI.out.mono ?_;rintro y w8 (⟨r,l8,rfl,cm8,hl8,hp⟩|⟨er,evt,ev,rfl,hp⟩)
       ·
        have HL8:=Hd hl8;have HP8:=Hd hp;clear hl8 hp HI cx7;go_wp2_with (refine Zcu (l:=l8) rfl _ _ _ rfl kEd Tryz.underlying190 (e:Int) (.int .i64 (r:Nat)) rfl rfl rfl HL8.out ?_;intro w9 hm9 hg9);have HF:=Hd (HP8.out w9 hm9 hg9);clear hm9 hg9 HP8 HL8 cm8;go_wp2_with fail;exact HF.out
       ·
        have HF:=Hd hp;clear hp HI;unfold Zch;go_wp2_with fail;exact⟨rfl,HF.out⟩
      ·
       have HF:=Hd hp;clear hp HV;unfold Zch;go_wp2_with fail;exact⟨rfl,HF.out⟩
   ·
    have HF:=Hd hp;clear hp HW5;unfold Zch;go_wp2_with fail;exact⟨rfl,HF.out⟩
end
open Go.RowKit
theorem Zow (args:Array Value) (w:World):(callFunc 161 args).run Tryz.prog w=.ok (.enter 161 args) w:=enters_of Tryz.func161 (by kernel_rfl) rfl args w
section
variable {K:Law} {n:Nat} {σ:Nat->BF} {HP:ManD->(Nat->BF)->Prop} {Bw:World->Prop} {T:Nat->Prop} {c:OvC} {ob o o':Own} {wb w W W':World} {mb:Nat} {m0 m m':ManD} {V0 V V':Nat->BF} {k k2 kt J:Nat}
theorem Zuy (e:Nat) (h:eneg e=true):eneg (enot e)=false:=by
 unfold eneg at h ⊢;rw[beq_iff_eq] at h;rw[Zj4,h];rfl
theorem Zms (hs:OvS K n σ HP Bw T c ob wb mb m0 V0 k o W m V) {e:Nat} (he:okE (Zab m.d) e) (h0:e/2=0) (hk2:k<=k2):Calls Tryz.prog 162 (#[.int .i64 e]++c.caps) W (OvR K n σ HP Bw T c ob wb mb m0 V0 kt k2 m V e):=by
 obtain⟨b6,b5,kb,b3,b4,xb,g,lw⟩:=c;have hk:=hs.at_.st.ok;have HCON:=Hd (Zh9 e W (Zib hs.at_.st.is he));rw[decide_eq_true (show enode e=0 from h0)] at HCON;obtain⟨P,hP⟩:∃ P:Ending->World->Prop,P=OvR K n σ HP Bw T ⟨b6,b5,kb,b3,b4,xb,g,lw⟩ ob wb mb m0 V0 kt k2 m V e:=⟨_,rfl⟩
 have HF:Hid (P (.returned (.int .i64 (e:Nat))) W):=Hd (by
  rw[hP];exact .inl ⟨e,o,m,V,rfl,hs.mono hk2,Ext.refl _ _,he,by rw[Zks hk σ h0]⟩)
 unfold OvC.caps;rw[<- hP];clear hP hs hk
 show Calls _ _ #[_,_,_,_,_] _ _
 go_enter Tryz.func162,Tryz.ntmps162
 go_wp2_with fail;refine HCON.out.mono ?_;rintro y w' ⟨rfl,rfl⟩;go_wp2_with fail;exact HF.out
theorem Zx6 (IH:AtOv K n σ HP Bw T c ob wb mb m0 V0 kt J true) (hHP:∀ {o o':Own} {w w':World} {m m':ManD} {V V':Nat->BF},Step K o w mb m V o' w' m' V'->HP m V->HP m' V') (hB:∀ W W',Bw W->(∀ q,T q->W'.heap[q]?=W.heap[q]?)->Bw W'):AtOv K n σ HP Bw T c ob wb mb m0 V0 kt J false:=by
 intro k o W m V e hs he _ hlev hkt
 by_cases h0:e/2=0
 ·
  exact Zms hs he h0 (by omega)
 cases hneg:eneg e with
 | false=>exact IH k o W m V e hs he (fun _=>hneg) hlev hkt
 | true =>
   obtain⟨b6,b5,kb,b3,b4,xb,g,lw⟩:=c;have he_lt:=Zib hs.at_.st.is he;have HCON:=Hd (Zh9 e W he_lt);have HNEG:=Hd (Zhy e W he_lt);rw[hneg] at HNEG;rw[decide_eq_false (show ¬ enode e=0 from h0)] at HCON;have hsd:=hs.below hHP hB (Zaf W 1);have hen:okE (Zab m.d) (enot e):=Zj9 he;have hhalf:enot e/2=e/2:=Zfo e;obtain⟨N1,hN1⟩:∃ N1,N1=(2^J-1)*(2^n+1):=⟨_,rfl⟩;have hrec:=IH k o W.drew m V (enot e) hsd hen (fun _=>Zuy e hneg) (by unfold lvE at hlev ⊢;rw[hhalf];exact hlev) hkt;rw[<- hN1] at hrec;obtain⟨P,hP⟩:∃ P:Ending->World->Prop,P=OvR K n σ HP Bw T ⟨b6,b5,kb,b3,b4,xb,g,lw⟩ ob wb mb m0 V0 kt (k+(2^J-1)*(2^n+1)) m V e:=⟨_,rfl⟩;have HN1:=Hd (Zi5 e W.drew he_lt)
   have HREC:Hid (Calls Tryz.prog 162 #[.int .i64 (enot e:Nat),.pointer (some ⟨b6,0,none⟩),.pointer (some ⟨b5,0,none⟩),.pointer (some ⟨b3,0,none⟩),.pointer (some ⟨b4,0,none⟩)] W.drew fun x w'=>(∃ u,x=.returned u/\w'.cell? ⟨b6,0,none⟩=some (.func (.func 162) #[] #[.pointer (some ⟨b6,0,none⟩),.pointer (some ⟨b5,0,none⟩),.pointer (some ⟨b3,0,none⟩),.pointer (some ⟨b4,0,none⟩)])/\∃ r:Nat,u=.int .i64 r/\(Calls Tryz.prog 101 #[.int .i64 r] w' fun x w2=>x=.returned (.int .i64 (enot r:Nat))/\w'=w2)/\P (.returned (.int .i64 (enot r:Nat))) w')\/(∃ ch,x=.panicked ch/\P (.panicked ch) w')):=Hd (hrec.mono (by
    rintro x w' (⟨r,o2,m2,V2,rfl,p1,p2,p3,p4⟩|⟨er,evt,ev,rfl,hst⟩)
    ·
     refine .inl ⟨_,rfl,p1.f,r,rfl,Zi5 r w' (Zib p1.at_.st.is p3),?_⟩;rw[hP];refine .inl ⟨enot r,o2,m2,V2,rfl,by rw[<- hN1];exact p1,p2,Zj9 p3,?_⟩;rw[Zqs,p4,Zqs,Zuq];funext ρ
     show (!(!Zbd σ (ef V e) ρ))=_
     simp
    ·
     refine .inr ⟨_,rfl,?_⟩;rw[hP];exact .inr ⟨er,evt,ev,rfl,hst⟩))
   have cf:=hs.f;unfold OvC.caps at cf ⊢;rw[<- hP];have eg1:=Zfy;clear hP hs hrec hsd IH hHP hB hneg hN1 hlev hkt
   show Calls _ _ #[_,_,_,_,_] _ _
   go_enter Tryz.func162,Tryz.ntmps162
   go_wp2_with fail;refine HCON.out.mono ?_;rintro y w' ⟨rfl,rfl⟩;go_wp2_with fail;refine HNEG.out.mono ?_;rintro y w' ⟨rfl,rfl⟩;go_upto_region 4 with fail;have cfd:W.drew.cell? ⟨b6,0,none⟩=some (.func (.func 162) #[] #[.pointer (some ⟨b6,0,none⟩),.pointer (some ⟨b5,0,none⟩),.pointer (some ⟨b3,0,none⟩),.pointer (some ⟨b4,0,none⟩)]):=cf;refine Zfb [0,1,2,3,4,5] (fun W'=>W'.cell? ⟨b6,0,none⟩=some (.func (.func 162) #[] #[.pointer (some ⟨b6,0,none⟩),.pointer (some ⟨b5,0,none⟩),.pointer (some ⟨b3,0,none⟩),.pointer (some ⟨b4,0,none⟩)])) (fun ch w'=>P (.panicked ch) w') (fun c a w hd h=>⟨hd,h⟩) (by kernel_rfl) cfd ?_
   iterate 2
    refine Zdd rfl rfl (by kernel_rfl) ?_;apply Exists.intro;refine⟨fun w' hw=>?_,?_⟩
    ·
     have q1:w'.cell? ⟨b6,0,none⟩=some (.func (.func 162) #[] #[.pointer (some ⟨b6,0,none⟩),.pointer (some ⟨b5,0,none⟩),.pointer (some ⟨b3,0,none⟩),.pointer (some ⟨b4,0,none⟩)]):=hw;go_simp;rfl
    simp only[Zag]
   refine Zf3 (R1:=fun u w'=>u=.int .i64 (enot e:Nat)/\W.drew=w') rfl (by kernel_rfl) rfl rfl (by go_simp) (HN1.out.mono fun x w' h=>⟨_,h.1,rfl,h.2⟩) (by rintro u w' ⟨_,rfl⟩;exact cfd) ?_;rintro u w'-⟨rfl,rfl⟩;simp only[Zag];refine Zi6 rfl (by kernel_rfl) rfl rfl (by go_simp) HREC.out ?_;rintro u w2 hS ⟨r,rfl,hn,hp⟩;have HF:=Hd hp;have HNR:=Hd hn;have HS:=Hd hS;clear hn hp hS HREC cfd cf;simp only[Zag];refine Zf3 (R1:=fun u w'=>u=.int .i64 (enot r:Nat)/\w2=w') rfl (by kernel_rfl) rfl rfl (by go_simp) (HNR.out.mono fun x w' h=>⟨_,h.1,rfl,h.2⟩) (by rintro u w' ⟨_,rfl⟩;exact HS.out) ?_;rintro u w'-⟨rfl,rfl⟩;simp only[Zag];refine Zdd rfl rfl (by kernel_rfl) ?_;apply Exists.intro;refine⟨fun w' hw=>?_,?_⟩
   ·
    go_simp;rfl
   simp only[Zag];refine Zjs (by kernel_rfl) ?_;go_wp2_with fail;exact HF.out
theorem Zv0 (hK:Zb3 K) (hHP:∀ {o o':Own} {w w':World} {m m':ManD} {V V':Nat->BF},Step K o w mb m V o' w' m' V'->HP m V->HP m' V') (hB:∀ W W',Bw W->(∀ q,T q->W'.heap[q]?=W.heap[q]?)->Bw W') (hw:Zjj K n σ HP Bw T c.g c.lw) (eg:∀ args w,(callFunc c.g args).run Tryz.prog w=.ok (.enter c.g args) w):∀ J,AtOv K n σ HP Bw T c ob wb mb m0 V0 kt J false
 | 0=>by
   intro k o W m V e hs he _ hlev hkt;refine Zms hs he ?_ (by omega);rcases he with h|⟨b,hb⟩
   ·
    exact h
   ·
    exfalso;have h1:=hs.at_.st.ok.dag.lt b.v (hs.at_.st.ok.dag.var _ _ hb);rw[hs.vars] at h1;unfold lvE at hlev;rw[hb] at hlev;simp at hlev;omega
 | J+1=>Zx6 (Zv1 hK hHP hB hw eg (Zv0 hK hHP hB hw eg J)) hHP hB
end
open Go.RowKit
section
variable {K:Law} {n:Nat} {Od:List Nat->Prop} {room:Nat} {w0:World} {fs:List (Int×BF)} {nx:Int} {σ:Nat->BF} {HP:ManD->(Nat->BF)->Prop} {Bw:World->Prop} {T:Nat->Prop} {o:Own} {w:World} {mb xb:Nat} {m:ManD} {V:Nat->BF}
theorem Yau (hK:Zb3 K) (hHP:∀ {o o':Own} {w w':World} {m m':ManD} {V V':Nat->BF},Step K o w mb m V o' w' m' V'->HP m V->HP m' V') (hB:∀ W W',Bw W->(∀ q,T q->W'.heap[q]?=W.heap[q]?)->Bw W') {g:Nat} {lw:Array Value} (hw:Zjj K n σ HP Bw T g lw) (eg:∀ args w,(callFunc g args).run Tryz.prog w=.ok (.enter g args) w)
 {b4 bf:Nat} {kf:Int} {F:BF} (hF:(kf,F)∈fs) (hsat:SatE K n Od room w0 mb fs nx w o m V) (hp:HP m V) (hbw:Bw w) (c4:w.cell? ⟨b4,0,none⟩=some (.func (.func g) #[] lw)) (cf:w.cell? ⟨bf,0,none⟩=some (.int .i64 kf)) (hno:∀ q,(q=b4\/q=bf\/T q)->o q=none) (hT:∀ q,T q->q<w.heap.size) (hx:Zeh o w xb mb) :
 Calls Tryz.prog 161 #[.pointer (some ⟨xb,0,none⟩),.pointer (some ⟨b4,0,none⟩),.pointer (some ⟨bf,0,none⟩)] w (Zqg K ((2^n-1)*(2^n+1)) o w mb m V fun _ V' r=>ef V' r=Zbd σ F):=by
 have hmf:∀ (fn:Fn) (first cap:Array Value) (w:World),(Instr.makeFunc fn first cap).run Tryz.prog w=.ok (.func fn first cap) w:=fun _ _ _ _=>rfl
 have hmm:=fun t w=>Zd5 (P:=Tryz.prog) w t
 obtain⟨w4,hw4⟩:∃ w4,w4=(((w.alloc (.cells #[.pointer (some ⟨xb,0,none⟩)] 115)).alloc (.map #[] 0)).alloc (.cells #[.map (some (w.heap.size+1))] 190)).alloc (.cells #[.nilFunc] 191):=⟨_,rfl⟩;have HW4:Hid (_=w4):=Hd hw4.symm;have hz4:w4.heap.size=w.heap.size+1+1+1+1:=by rw[hw4];simp
 have hb4:Below w.heap.size w w4:=by rw[hw4];exact(((Zac _ _).alloc (by simp) _).alloc (by simp;omega) _).alloc (by simp;omega) _
 have g0:w4.heap[w.heap.size]?=some (.cells #[.pointer (some ⟨xb,0,none⟩)] 115 (0,0)):=by
  rw[hw4];exact(Go.heap_alloc_old _ _ (by simp;omega)).trans ((Go.heap_alloc_old _ _ (by simp;omega)).trans ((Go.heap_alloc_old _ _ (by simp)).trans (heap_alloc_new _ _)))
 have g1:Zb9 w4 (w.heap.size+1) (Value.int .i64) []:=by
  have h1:=Zgp (w.alloc (.cells #[.pointer (some ⟨xb,0,none⟩)] 115)) (Value.int .i64);rw[World.size_alloc] at h1;rw[hw4];exact(h1.below (Zac _ _)).below (Zac _ _)
 have g2:w4.heap[w.heap.size+1+1]?=some (.cells #[.map (some (w.heap.size+1))] 190 (0,0)):=by
  have:=heap_alloc_new ((w.alloc (.cells #[.pointer (some ⟨xb,0,none⟩)] 115)).alloc (.map #[] 0)) (.cells #[.map (some (w.heap.size+1))] 190);rw[World.size_alloc,World.size_alloc] at this;rw[hw4];exact(Go.heap_alloc_old _ _ (by simp)).trans this
 have g3:w4.heap[w.heap.size+1+1+1]?=some (.cells #[.nilFunc] 191 (0,0)):=by
  have:=heap_alloc_new (((w.alloc (.cells #[.pointer (some ⟨xb,0,none⟩)] 115)).alloc (.map #[] 0)).alloc (.cells #[.map (some (w.heap.size+1))] 190)) (.cells #[.nilFunc] 191);rw[World.size_alloc,World.size_alloc,World.size_alloc] at this;rw[hw4];exact this
 have c6:=cell1 g3;have f6:w4.frozen? ⟨w.heap.size+1+1+1,0,none⟩=false:=by simp[World.frozen?,g3]
 obtain⟨w5,hw5⟩:∃ w5,w5=w4.setCell ⟨w.heap.size+1+1+1,0,none⟩ (.func (.func 162) #[] #[.pointer (some ⟨w.heap.size+1+1+1,0,none⟩),.pointer (some ⟨w.heap.size+1+1,0,none⟩),.pointer (some ⟨w.heap.size,0,none⟩),.pointer (some ⟨b4,0,none⟩)]):=⟨_,rfl⟩;have HW5:Hid (_=w5):=Hd hw5.symm;have hk5:∀ q:Nat,q≠w.heap.size+1+1+1->w5.heap[q]?=w4.heap[q]?:=fun q hq=>by rw[hw5];exact Zah hq _
 have e6:w5.heap[w.heap.size+1+1+1]?=some (.cells #[.func (.func 162) #[] #[.pointer (some ⟨w.heap.size+1+1+1,0,none⟩),.pointer (some ⟨w.heap.size+1+1,0,none⟩),.pointer (some ⟨w.heap.size,0,none⟩),.pointer (some ⟨b4,0,none⟩)]] 191 (0,0)):=by rw[hw5];exact Zai g3 _
 have hb5:Below w.heap.size w w5:=by rw[hw5];exact hb4.setCell (p:=⟨w.heap.size+1+1+1,0,none⟩) (by show w.heap.size<=w.heap.size+1+1+1;omega) _
 have hsto:(store ⟨w.heap.size+1+1+1,0,none⟩ (.func (.func 162) #[] #[.pointer (some ⟨w.heap.size+1+1+1,0,none⟩),.pointer (some ⟨w.heap.size+1+1,0,none⟩),.pointer (some ⟨w.heap.size,0,none⟩),.pointer (some ⟨b4,0,none⟩)])).run Tryz.prog w4=.ok () w5:=by
  rw[run_store _ _ _ _ _ rfl];simp[c6,f6,hw5]
 obtain⟨wd,hwd⟩:∃ wd,wd=w5.drew:=⟨_,rfl⟩;have HWD:=Hd hwd;have hbd:Below w.heap.size w wd:=by rw[hwd];exact hb5.trans ((Zaf w5 1).mono hb5.size)
 have hkd:∀ q:Nat,wd.heap[q]?=w5.heap[q]?:=fun q=>by rw[hwd];rfl
 have k6:wd.cell? ⟨w.heap.size+1+1+1,0,none⟩=some (.func (.func 162) #[] #[.pointer (some ⟨w.heap.size+1+1+1,0,none⟩),.pointer (some ⟨w.heap.size+1+1,0,none⟩),.pointer (some ⟨w.heap.size,0,none⟩),.pointer (some ⟨b4,0,none⟩)]):=cell1 ((hkd _).trans e6);have k3:wd.cell? ⟨w.heap.size,0,none⟩=some (.pointer (some ⟨xb,0,none⟩)):=cell1 ((hkd _).trans ((hk5 _ (by omega)).trans g0));have k5:wd.cell? ⟨w.heap.size+1+1,0,none⟩=some (.map (some (w.heap.size+1))):=cell1 ((hkd _).trans ((hk5 _ (by omega)).trans g2));have km:Zb9 wd (w.heap.size+1) (Value.int .i64) []:=g1.keepB ((hkd _).trans (hk5 _ (by omega)));have kf0:=(hbd.cell (p:=⟨bf,0,none⟩) (Zaa cf)).trans cf;have k4:=(hbd.cell (p:=⟨b4,0,none⟩) (Zaa c4)).trans c4;obtain⟨f,hf,hef⟩:=hsat.find hF;have hk:=hsat.ok;have hlt:=hsat.lt;have hxl:xb<w.heap.size:=Zaa hx.cell;have hxd:Zeh o wd xb mb:=⟨(hbd.cell (p:=⟨xb,0,none⟩) (Zaa hx.cell)).trans hx.cell,hx.own⟩;have hs:OvS K n σ HP Bw T ⟨w.heap.size+1+1+1,w.heap.size+1+1,w.heap.size+1,w.heap.size,b4,xb,g,lw⟩ o w mb m V 0 o wd m V:=by
  have hb4l:b4<w.heap.size:=Zaa c4;have n1:w.heap.size+1≠w.heap.size+1+1+1:=by omega
  have n2:w.heap.size+1≠w.heap.size+1+1:=by omega
  have n3:w.heap.size+1≠w.heap.size:=by omega
  have n4:w.heap.size+1≠b4:=by omega
  have n5:w.heap.size+1≠xb:=by omega
  have n6:¬ T (w.heap.size+1):=fun e=>by have:=hT _ e;omega
  refine⟨(AtC.refl hsat.is hlt hk.store).below hbd,hsat.vars,hxd,hp,hB _ _ hbw (fun q hq=>hbd.block q (hT q hq)),k6,k5,k3,k4,?_,fun q hq=>Nat.lt_of_lt_of_le (hT q hq) hbd.size,⟨n1,n2,n3,n4,n5,n6⟩,by show w.heap.size<=w.heap.size+1;omega,⟨[],km,fun p hp=>by simp at hp⟩⟩;rintro q (rfl|rfl|rfl|rfl|rfl|hq)
  ·
   exact hlt.none (by show w.heap.size<=w.heap.size+1+1+1;omega)
  ·
   exact hlt.none (by show w.heap.size<=w.heap.size+1+1;omega)
  ·
   exact hlt.none (by show w.heap.size<=w.heap.size+1;omega)
  ·
   exact hlt.none (Nat.le_refl _)
  ·
   exact hno _ (.inl rfl)
  ·
   exact hno _ (.inr (.inr hq))
 have hcall:=Zv0 (T:=T) (ob:=o) (wb:=w) (mb:=mb) (m0:=m) (V0:=V) (kt:=(2^n-1)*(2^n+1)) (c:=⟨w.heap.size+1+1+1,w.heap.size+1+1,w.heap.size+1,w.heap.size,b4,xb,g,lw⟩) hK hHP hB hw eg n 0 o wd m V f hs (hk.handles.ok _ hf) (fun h=>by cases h) (by omega) (by omega);have HED:=Hd (Zd1 hs.at_.st.is hxd hk.handles.nodup hf);obtain⟨P,hP⟩:∃ P:Ending->World->Prop,P=Zqg K ((2^n-1)*(2^n+1)) o w mb m V fun _ V' r=>ef V' r=Zbd σ F:=⟨_,rfl⟩
 have HCALL:Hid (Calls Tryz.prog 162 #[.int .i64 f,.pointer (some ⟨w.heap.size+1+1+1,0,none⟩),.pointer (some ⟨w.heap.size+1+1,0,none⟩),.pointer (some ⟨w.heap.size,0,none⟩),.pointer (some ⟨b4,0,none⟩)] wd fun x w'=>(∃ u,x=.returned u/\(w'.cell? ⟨w.heap.size+1+1+1,0,none⟩=some (.func (.func 162) #[] #[.pointer (some ⟨w.heap.size+1+1+1,0,none⟩),.pointer (some ⟨w.heap.size+1+1,0,none⟩),.pointer (some ⟨w.heap.size,0,none⟩),.pointer (some ⟨b4,0,none⟩)])/\w'.cell? ⟨w.heap.size,0,none⟩=some (.pointer (some ⟨xb,0,none⟩))/\w'.cell? ⟨bf,0,none⟩=some (.int .i64 kf))/\∃ r:Nat,u=.int .i64 r/\P (.returned (.int .i64 r)) w')\/(∃ ch,x=.panicked ch/\P (.panicked ch) w')):=Hd (hcall.mono (by
  rintro x w' (⟨r,o2,m2,V2,rfl,p1,p2,p3,p4⟩|⟨er,evt,ev,rfl,hst⟩)
  ·
   refine .inl ⟨_,rfl,⟨p1.f,p1.x,p1.at_.st.chg.cell cf (hno _ (.inr (.inl rfl)))⟩,r,rfl,?_⟩;rw[hP];refine .inl ⟨r,o2,m2,V2,rfl,p1.at_.mono (by omega),p3,?_⟩
   show ef V2 r=_
   rw[p4,show ef V f=F from hef]
  ·
   refine .inr ⟨_,rfl,?_⟩;rw[hP];exact .inr ⟨er,evt,ev,rfl,hst⟩))
 rw[<- hP];have eg1:=Zfy;clear hP hcall hs hk hlt hef hf hxl hsat hp hbw hB hHP hw hK hno hT hx hb4 hb5 hbd hkd hk5 e6 g0 g1 g2 g3 hw4 hw5 hwd k5 km k4 hF hz4 hxd
 go_enter Tryz.func161,Tryz.ntmps161
 go_upto_region 3 with fail;rw[HW4.out];go_upto_region 4 with fail;refine Zfb [0,1,2,3,4,5] (fun W=>W.cell? ⟨w.heap.size+1+1+1,0,none⟩=some (.func (.func 162) #[] #[.pointer (some ⟨w.heap.size+1+1+1,0,none⟩),.pointer (some ⟨w.heap.size+1+1,0,none⟩),.pointer (some ⟨w.heap.size,0,none⟩),.pointer (some ⟨b4,0,none⟩)])/\W.cell? ⟨w.heap.size,0,none⟩=some (.pointer (some ⟨xb,0,none⟩))/\W.cell? ⟨bf,0,none⟩=some (.int .i64 kf)) (fun ch w'=>P (.panicked ch) w') (fun c a w hd h=>⟨hd,h⟩) (by kernel_rfl) (by rw[<- HWD.out];exact⟨k6,k3,kf0⟩) ?_;rw[<- HWD.out]
 iterate 3
  refine Zdd rfl rfl (by kernel_rfl) ?_;apply Exists.intro;refine⟨fun w' hw=>?_,?_⟩
  ·
   obtain⟨q1,q2,q3⟩:=hw;go_simp;rfl
  simp only[Zag]
 refine Zf3 (R1:=fun u w'=>u=.int .i64 f/\wd=w') rfl (by kernel_rfl) rfl rfl (by go_simp) (HED.out.mono fun x w' h=>⟨_,h.1,rfl,h.2⟩) (by rintro u w' ⟨_,rfl⟩;exact⟨k6,k3,kf0⟩) ?_;rintro u w'-⟨rfl,rfl⟩;simp only[Zag];refine Zi6 rfl (by kernel_rfl) rfl rfl (by go_simp) HCALL.out ?_;rintro u w2 hS ⟨r,rfl,hp⟩;have HF:=Hd hp;clear hp hS;simp only[Zag];refine Zdd rfl rfl (by kernel_rfl) ?_;apply Exists.intro;refine⟨fun w' hw=>?_,?_⟩
 ·
  go_simp;rfl
 simp only[Zag];refine Zjs (by kernel_rfl) ?_;clear k6 k3 kf0;go_wp2_with fail;exact HF.out
end
open Go.RowKit
section
variable {K:Law} {n:Nat} {Od:List Nat->Prop} {room:Nat} {w0:World} {fs:List (Int×BF)} {nx:Int} {σ:Nat->BF} {HP:ManD->(Nat->BF)->Prop} {Bw:World->Prop} {T:Nat->Prop} {o:Own} {w w1:World} {mb xb:Nat} {m:ManD} {V:Nat->BF} {ws0:List Ev}
theorem boxes2v (w:World) (x y:Value) (s t:TypeId):∃ w3,w3=(w.alloc (.cells #[x] s)).alloc (.cells #[y] t)/\Below w.heap.size w w3/\w3.heap.size=w.heap.size+2/\w3.cell? ⟨w.heap.size,0,none⟩=some x/\w3.cell? ⟨w.heap.size+1,0,none⟩=some y:=by
 refine⟨_,rfl,(Zac _ _).alloc (by simp) _,by simp,?_,?_⟩
 ·
  exact cell1 ((Go.heap_alloc_old _ _ (by simp)).trans (heap_alloc_new _ _))
 ·
  have:=heap_alloc_new (w.alloc (.cells #[x] s)) (.cells #[y] t);rw[World.size_alloc] at this;exact cell1 this
theorem Zkb (hK:Zb3 K) (hHP:∀ {o o':Own} {w w':World} {m m':ManD} {V V':Nat->BF},Step K o w mb m V o' w' m' V'->HP m V->HP m' V') (hB:∀ W W',Bw W->(∀ q,T q->W'.heap[q]?=W.heap[q]?)->Bw W') {g:Nat} {lw:Array Value} (hw:Zjj K n σ HP Bw T g lw) (eg:∀ args w,(callFunc g args).run Tryz.prog w=.ok (.enter g args) w)
 (hp:∀ o W m V,SatE K n (fun _=>True) room w0 mb fs nx W o m V->HP m V) {kf:Int} {F:BF} (hF:(kf,F)∈fs) (h:SatE K n (fun _=>True) room w0 mb fs nx w o m V) (hb:Below w.heap.size w w1) (hT:∀ q,T q->w.heap.size<=q/\q<w1.heap.size) (hbw:Bw w1) (hst:m.waits <:+ ws0) (hn:nx<=549755813888) (hr:fs.length*2^n+(2^n-1)*(2^n+1)<=room) :
 Calls Tryz.prog 94 #[.pointer (some ⟨mb,0,none⟩),.int .i64 kf,.func (.func g) #[] lw] w1 (NewF K n room w0 mb fs nx ws0 (Zbd σ F) o w):=by
 have hmf:∀ (fn:Fn) (first cap:Array Value) (w:World),(Instr.makeFunc fn first cap).run Tryz.prog w=.ok (.func fn first cap) w:=fun _ _ _ _=>rfl
 obtain⟨w3,hw3,hb3,hz3,c0,c1⟩:=boxes2v w1 (.int .i64 kf) (.func (.func g) #[] lw) 3 135;have HW3:Hid (_=w3):=Hd hw3.symm;have hsz:=hb.size
 have HDO:=Hd (Ybb (C:=fun q=>q=w1.heap.size+1\/q=w1.heap.size\/T q) (B:=fun W=>(W.cell? ⟨w1.heap.size+1,0,none⟩=some (.func (.func g) #[] lw)/\W.cell? ⟨w1.heap.size,0,none⟩=some (.int .i64 kf))/\Bw W) (F:=Zbd σ F) (k:=(2^n-1)*(2^n+1)) (lop:=#[.pointer (some ⟨w1.heap.size+1,0,none⟩),.pointer (some ⟨w1.heap.size,0,none⟩)]) hK Zow ws0
  (fun W W' hb hk=>⟨⟨(World.cell?_of_block (w:=W) (a:=⟨w1.heap.size+1,0,none⟩) (hk _ (.inl rfl))).trans hb.1.1,(World.cell?_of_block (w:=W) (a:=⟨w1.heap.size,0,none⟩) (hk _ (.inr (.inl rfl)))).trans hb.1.2⟩,hB _ _ hb.2 (fun q hq=>hk q (.inr (.inr hq)))⟩)
  (fun o W m V xb hs hB2 hC hx _=>Yau hK hHP hB hw eg hF hs (hp _ _ _ _ hs) hB2.2 hB2.1.1 hB2.1.2 (fun q hq=>(hC q hq).2) (fun q hq=>(hC q (.inr (.inr hq))).1) hx) h (hb.trans (hb3.mono hb.size)) (by
   rintro q (rfl|rfl|hq)
   ·
    exact⟨by omega,.inl (by omega)⟩
   ·
    exact⟨by omega,.inl (by omega)⟩
   ·
    have:=hT q hq;exact⟨by omega,.inl this.1⟩) ⟨⟨c1,c0⟩,hB _ _ hbw (fun q hq=>hb3.block q (hT q hq).2)⟩ hst hn hr)
 clear hw3 hb3 hz3 c0 c1 h hK hw hst hn hr hF hHP hB hp hT hbw hb hsz;obtain⟨P,hP⟩:∃ P,P=NewF K n room w0 mb fs nx ws0 (Zbd σ F) o w:=⟨_,rfl⟩;rw[<- hP] at HDO ⊢;have HT:Hid (∀ x w',P x w'->∃ a b,x=.returned (.tuple #[.int .i64 a,.int .i64 b])):=Hd (by subst hP;rintro x w' ⟨rfl,_⟩;exact⟨_,_,rfl⟩);clear hP
 go_enter Tryz.func94,Tryz.ntmps94
 go_upto_region 1 with fail;rw[HW3.out];go_wp2_with fail;refine HDO.out.mono ?_;intro x w' hd;obtain⟨a,b,rfl⟩:=HT.out x w' hd;have HD:=Hd hd;clear hd;go_wp2_with fail;exact HD.out
theorem Zc3 (h:SatE K n Od room w0 mb fs nx w o m V) (v:Int):Calls Tryz.prog 93 #[.pointer (some ⟨mb,0,none⟩),.int .i64 v] w fun x w'=>x=.returned (.bool (decide (0<=v/\v<(n:Int))))/\w=w':=by
 have HV:=Hd h.vars_any;clear h
 by_cases h0:v>=0
 ·
  by_cases h1:v<(n:Int)
  ·
   rw[decide_eq_true ⟨h0,h1⟩];have hd:decide (v<(n:Int))=true:=decide_eq_true h1
   go_enter Tryz.func93,Tryz.ntmps93
   go_wp2_with fail;refine HV.out.mono ?_;rintro x w' ⟨rfl,rfl⟩;go_wp2_with fail;go_ret;exact⟨rfl,rfl⟩
  ·
   rw[decide_eq_false (fun hh=>h1 hh.2)];have hd:decide (v<(n:Int))=false:=decide_eq_false h1
   go_enter Tryz.func93,Tryz.ntmps93
   go_wp2_with fail;refine HV.out.mono ?_;rintro x w' ⟨rfl,rfl⟩;go_wp2_with fail;go_ret;exact⟨rfl,rfl⟩
 ·
  rw[decide_eq_false (fun hh=>h0 hh.1)]
  go_enter Tryz.func93,Tryz.ntmps93
  go_wp2_with fail;go_ret;exact⟨rfl,rfl⟩
def known (fs:List (Int×BF)) (k:Int):Prop:=∃ F,(k,F)∈fs
theorem Zd6 (h:SatE K n Od room w0 mb fs nx w o m V) (k:Int) {b:Bool} (hb:b=true↔known fs k):Calls Tryz.prog 36 #[.pointer (some ⟨mb,0,none⟩),.int .i64 k] w fun x w'=>x=.returned (.bool b)/\w=w':=by
 cases b with
 | true =>
   obtain⟨F,hF⟩:=hb.1 rfl;exact Zvo h hF
 | false=>exact Zxw h (fun p hp e=>by
  have:known fs k:=⟨p.2,by rw[<- e];exact hp⟩;have:=hb.2 this;cases this)
theorem Zea (h:SatE K n Od room w0 mb fs nx w o m V) {a:Option Addr} {c:Nat} {ks:List Int} (hz:Zay w a ks) {er:Int} (her:(er=0/\∀ k∈ks,known fs k)\/(er=8/\∃ k∈ks,¬ known fs k)) :
 Calls Tryz.prog 92 #[.pointer (some ⟨mb,0,none⟩),.slice a ks.length c] w fun x w'=>x=.returned (.int .i64 er)/\w=w':=by
 have HZ:=Hd hz;have hzl:=hz.len;have HIS:Hid (∀ k b,(b=true↔known fs k)->Calls Tryz.prog 36 #[.pointer (some ⟨mb,0,none⟩),.int .i64 k] w fun x w'=>x=.returned (.bool b)/\w=w'):=Hd fun k b hb=>Zd6 h k hb
 obtain⟨P,hP⟩:∃ P:Ending->World->Prop,P=fun x w'=>x=.returned (.int .i64 er)/\w=w':=⟨_,rfl⟩
 have HBAD:Hid (∀ k∈ks,¬ known fs k->P (.returned (.int .i64 8)) w):=Hd fun k hk hn=>by
  rw[hP];rcases her with ⟨_,h2⟩|⟨rfl,_⟩
  ·
   exact absurd (h2 k hk) hn
  ·
   exact⟨rfl,rfl⟩
 have HGOOD:Hid ((∀ q,q<ks.length->known fs (at0 ks q))->P (.returned (.int .i64 0)) w):=Hd fun hq=>by
  rw[hP];rcases her with ⟨rfl,_⟩|⟨_,k,hk,hn⟩
  ·
   exact⟨rfl,rfl⟩
  ·
   obtain⟨q,hq1,rfl⟩:=List.getElem_of_mem hk;have:=hq q hq1;rw[Zbq hq1] at this;exact absurd this hn
 rw[<- hP];clear hP h hz her
 go_enter Tryz.func92,Tryz.ntmps92
 go_wp2_with fail
 go_loopw [4,6,11] (fun _ _ s11 wr=>∃ j:Nat,j<=ks.length/\s11=.int .i64 j/\wr=w/\Hid (∀ q,q<j->known fs (at0 ks q))) (fun _ _ s11 _=>ks.length-(intOf s11).toNat)
 case atStart=>exact⟨0,Nat.zero_le _,rfl,rfl,Hd fun q hq=>by omega⟩
 case round =>
  obtain⟨j,hj,rfl,rfl,HQ⟩:=hrel
  by_cases hlt:j<ks.length
  ·
   have hjz:(j:Int)<(ks.length:Int):=by omega
   obtain⟨b,off,rfl,ck⟩:=HZ.out.cells j hlt;obtain⟨z,hz⟩:∃ z,z=at0 ks j:=⟨_,rfl⟩;rw[<- hz] at ck;have HIN:Hid (z∈ks):=Hd (by rw[hz,Zbq hlt];exact List.getElem_mem hlt);have HZE:=Hd hz;clear hz
   by_cases hkn:known fs z
   ·
    have HI:=Hd (HIS.out z true (by simp[hkn]));have HQ2:Hid (∀ q,q<j+1->known fs (at0 ks q)):=Hd fun q hq=>by
     rcases Nat.lt_or_ge q j with h|h
     ·
      exact HQ.out q h
     ·
      obtain rfl:q=j:=by omega
      rw[<- HZE.out];exact hkn
    clear hkn;go_wp2_with fail;refine HI.out.mono ?_;rintro x w' ⟨rfl,rfl⟩;go_wp2_with fail;go_roundw
    case rel=>exact⟨j+1,by omega,by go_num,by trivial,HQ2⟩
    case measure=>simp[intOf];omega
   ·
    have HI:=Hd (HIS.out z false (by simp[hkn]));have HF:=Hd (HBAD.out z HIN.out hkn);clear hkn;go_wp2_with fail;refine HI.out.mono ?_;rintro x w' ⟨rfl,rfl⟩;go_wp2_with fail;exact HF.out
  ·
   obtain rfl:j=ks.length:=by omega
   have hjz:¬ (ks.length:Int)<(ks.length:Int):=by omega
   have HF:=Hd (HGOOD.out HQ.out);go_wp2_with fail;exact HF.out
end
open Go.RowKit
theorem Zkx (args:Array Value) (w:World):(callFunc 95 args).run Tryz.prog w=.ok (.enter 95 args) w:=enters_of Tryz.func95 (by kernel_rfl) rfl args w
theorem Zov (args:Array Value) (w:World):(callFunc 100 args).run Tryz.prog w=.ok (.enter 100 args) w:=enters_of Tryz.func100 (by kernel_rfl) rfl args w
def sigC (v:Nat) (G:BF):Nat->BF:=fun u=>if u=v then G else varF u
def HPk (k:Int) (G:BF) (m:ManD) (V:Nat->BF):Prop:=(m.hs.map Prod.fst).Nodup/\∃ f,(k,f)∈m.hs/\okE (Zab m.d) f/\ef V f=G
section
variable {K:Law} {n:Nat} {room:Nat} {w0:World} {fs:List (Int×BF)} {nx:Int} {o o':Own} {w w':World} {mb:Nat} {m m':ManD} {V V':Nat->BF} {ws0:List Ev} {k:Int} {G:BF}
theorem HPk.step (s:Step K o w mb m V o' w' m' V') (h:HPk k G m V):HPk k G m' V':=by
 obtain⟨h1,f,h2,h3,h4⟩:=h;exact⟨by rw[s.hs];exact h1,f,by rw[s.hs];exact h2,s.ext.ok h3,by rw[s.ext.ef h3];exact h4⟩
theorem HPk.of {Od:List Nat->Prop} (h:SatE K n Od room w0 mb fs nx w o m V) (hk:(k,G)∈fs):HPk k G m V:=by
 obtain⟨f,hf,e⟩:=h.find hk;exact⟨h.ok.handles.nodup,f,hf,h.ok.handles.ok _ hf,e⟩
theorem Zsr {bg bv:Nat} {v:Nat}:Zjj K n (sigC v G) (HPk k G) (fun W=>W.cell? ⟨bg,0,none⟩=some (.int .i64 k)/\W.cell? ⟨bv,0,none⟩=some (.int .i64 (v:Nat))) (fun q=>q=bg\/q=bv) 95 #[.pointer (some ⟨bg,0,none⟩),.pointer (some ⟨bv,0,none⟩)]:=by
 intro o W xb mb m V u hm hlt hx hk hn hp hbw hT hu;clear hT;obtain⟨hnd,f,hf,hok,hef⟩:=hp;have hbd:Below W.heap.size W W.drew:=Zaf W 1;obtain⟨s,hms⟩:=hm;have hmd:Zds (K m.d V) o W.drew mb m:=⟨s,hms.below hlt hbd⟩;have hxd:Zeh o W.drew xb mb:=⟨(hbd.cell (p:=⟨xb,0,none⟩) (Zaa hx.cell)).trans hx.cell,hx.own⟩;have HED:=Hd (Zd1 hmd hxd hnd hf);obtain⟨c1,c2⟩:=hbw;have c1':W.drew.cell? ⟨bg,0,none⟩=some (.int .i64 k):=c1;have c2':W.drew.cell? ⟨bv,0,none⟩=some (.int .i64 (v:Nat)):=c2;obtain⟨b,hb⟩:∃ b:Bool,b=decide (u=v):=⟨_,rfl⟩;have hbz:((u:Int) == (v:Int))=b:=by rw[hb,Bool.eq_iff_iff];simp;omega
 have hat:AtC K 0 o W mb m V o W.drew m V:=(AtC.refl ⟨s,hms⟩ hlt hk).below hbd
 have HF:Hid ((∃ (r:Nat) (ok:Bool) (o':Own) (m':ManD) (V':Nat->BF),Ending.returned (.tuple #[.int .i64 (f:Nat),.bool b])=.returned (.tuple #[.int .i64 r,.bool ok])/\AtC K 1 o W mb m V o' W.drew m' V'/\okE (Zab m'.d) r/\(ok=true->ef V' r=sigC v G u)/\(ok=false->sigC v G u=varF u)) \/
  (∃ er evt ev,Ending.returned (.tuple #[.int .i64 (f:Nat),.bool b])=Zch er evt ev/\Zkh K 1 o W mb m V er evt ev W.drew)):=Hd (.inl ⟨f,b,o,m,V,rfl,hat.mono (by omega),hok,fun e=>by
  rw[hb,decide_eq_true_eq] at e;unfold sigC;rw[if_pos e,hef],fun e=>by
  rw[hb,decide_eq_false_iff_not] at e;unfold sigC;rw[if_neg e]⟩)
 clear hx hk hn hf hok hef hbd hms hmd hxd hat hnd hb hlt hu
 show Calls _ _ #[_,_,_,_] _ _
 go_enter Tryz.func95,Tryz.ntmps95
 go_upto_region 1 with fail;refine Zfb [0,1,3,4,5,2,6,7] (fun W'=>W'.cell? ⟨bg,0,none⟩=some (.int .i64 k)/\W'.cell? ⟨bv,0,none⟩=some (.int .i64 (v:Nat))) (fun ch w'=>False) (fun c a w hd h=>h.elim) (by kernel_rfl) ⟨c1',c2'⟩ ?_
 iterate 5
  refine Zdd rfl rfl (by kernel_rfl) ?_;apply Exists.intro;refine⟨fun w' hw=>?_,?_⟩
  ·
   obtain⟨q1,q2⟩:=hw;go_simp;rfl
  simp only[Zag]
 refine Zf3 (R1:=fun u w'=>u=.int .i64 (f:Nat)/\W.drew=w') rfl (by kernel_rfl) rfl rfl (by go_simp) (HED.out.mono fun x w' h=>⟨_,h.1,rfl,h.2⟩) (by rintro u w' ⟨_,rfl⟩;exact⟨c1',c2'⟩) ?_;rintro u' w'-⟨rfl,rfl⟩;simp only[Zag]
 iterate 2
  refine Zdd rfl rfl (by kernel_rfl) ?_;apply Exists.intro;refine⟨fun w' hw=>?_,?_⟩
  ·
   obtain⟨q1,q2⟩:=hw;go_simp;rfl
  simp only[Zag]
 refine Zjs (by kernel_rfl) ?_;clear c1 c2 c1' c2';go_wp2_with fail
 go_ret2
 exact HF.out
theorem Zht (hK:Zb3 K) (h:SatE K n (fun _=>True) room w0 mb fs nx w o m V) {kf kg:Int} {F G:BF} (hf:(kf,F)∈fs) (hg:(kg,G)∈fs) (v:Nat) (hv:v<n) (hst:m.waits <:+ ws0) (hn:nx<=549755813888) (hr:fs.length*2^n+(2^n-1)*(2^n+1)<=room) :
 Calls Tryz.prog 29 #[.pointer (some ⟨mb,0,none⟩),.int .i64 kf,.int .i64 v,.int .i64 kg] w (NewF K n room w0 mb fs nx ws0 (Zbd (sigC v G) F) o w):=by
 have hmf:∀ (fn:Fn) (first cap:Array Value) (w:World),(Instr.makeFunc fn first cap).run Tryz.prog w=.ok (.func fn first cap) w:=fun _ _ _ _=>rfl
 obtain⟨w2,hw2,hb2,hz2,c0,c1⟩:=boxes2v w (.int .i64 v) (.int .i64 kg) 3 3;have HW2:Hid (_=w2):=Hd hw2.symm;obtain⟨w1,hw1⟩:∃ w1,w1=w2.alloc (.cells #[.int .i64 kf,.int .i64 kg] 3):=⟨_,rfl⟩;have HW1:Hid (_=w1):=Hd hw1.symm;have hb1:Below w2.heap.size w2 w1:=by rw[hw1];exact Zac _ _
 have hb:Below w.heap.size w w1:=hb2.trans (hb1.mono hb2.size);have hz1:w1.heap.size=w.heap.size+2+1:=by rw[hw1,World.size_alloc,hz2]
 have d0:=(hb1.cell (p:=⟨w.heap.size,0,none⟩) (Zaa c0)).trans c0;have d1:=(hb1.cell (p:=⟨w.heap.size+1,0,none⟩) (Zaa c1)).trans c1;have hz:Zay w1 (some ⟨w2.heap.size,0,none⟩) [kf,kg]:=by rw[hw1];exact Zcs w2 [kf,kg] (by simp)
 have HASK:=Hd (Zea (h.below hb) (c:=2) hz (er:=0) (.inl ⟨rfl,fun k hk=>by
  simp only[List.mem_cons,List.not_mem_nil,or_false] at hk;rcases hk with rfl|rfl
  ·
   exact⟨F,hf⟩
  ·
   exact⟨G,hg⟩⟩))
 have HVAR:=Hd (Zc3 (h.below hb) v);rw[decide_eq_true ⟨by omega,by omega⟩] at HVAR
 have HOV:=Hd (Zkb (σ:=sigC v G) (HP:=HPk kg G) (Bw:=fun W=>W.cell? ⟨w.heap.size+1,0,none⟩=some (.int .i64 kg)/\W.cell? ⟨w.heap.size,0,none⟩=some (.int .i64 (v:Nat))) (T:=fun q=>q=w.heap.size+1\/q=w.heap.size) hK HPk.step
  (fun W W' hb hk=>⟨(World.cell?_of_block (w:=W) (a:=⟨w.heap.size+1,0,none⟩) (hk _ (.inl rfl))).trans hb.1,(World.cell?_of_block (w:=W) (a:=⟨w.heap.size,0,none⟩) (hk _ (.inr rfl))).trans hb.2⟩) Zsr Zkx (fun _ _ _ _ hs=>HPk.of hs hg) hf h hb (by
   rintro q (rfl|rfl)
   ·
    exact⟨by omega,by omega⟩
   ·
    exact⟨Nat.le_refl _,by omega⟩) ⟨d1,d0⟩ hst hn hr)
 obtain⟨P,hP⟩:∃ P,P=NewF K n room w0 mb fs nx ws0 (Zbd (sigC v G) F) o w:=⟨_,rfl⟩;rw[<- hP] at HOV ⊢;have HT:Hid (∀ x w',P x w'->∃ a b,x=.returned (.tuple #[.int .i64 a,.int .i64 b])):=Hd (by subst hP;rintro x w' ⟨rfl,_⟩;exact⟨_,_,rfl⟩);clear hP hw2 hb2 hw1 hb1 hb hz1 hz h hK hf hg hst hn hr hz2
 go_enter Tryz.func29,Tryz.ntmps29
 go_upto_region 1 with fail;rw[HW2.out];go_wp2_with fail;rw[HW1.out];refine HASK.out.mono ?_;rintro x w' ⟨rfl,rfl⟩;go_wp2_with fail;refine HVAR.out.mono ?_;rintro x w' ⟨rfl,rfl⟩;go_wp2_with fail;refine HOV.out.mono ?_;intro x w' hd;obtain⟨a,b,rfl⟩:=HT.out x w' hd;have HD:=Hd hd;clear hd;go_wp2_with fail;exact HD.out
theorem Zfx {Od:List Nat->Prop} (h:SatE K n Od room w0 mb fs nx w o m V) {kf kg v:Int} (hf:¬ known fs kf\/¬ known fs kg) :
 Calls Tryz.prog 29 #[.pointer (some ⟨mb,0,none⟩),.int .i64 kf,.int .i64 v,.int .i64 kg] w fun x w'=>x=.returned (.tuple #[.int .i64 0,.int .i64 8])/\Below w.heap.size w w':=by
 have hmf:∀ (fn:Fn) (first cap:Array Value) (w:World),(Instr.makeFunc fn first cap).run Tryz.prog w=.ok (.func fn first cap) w:=fun _ _ _ _=>rfl
 obtain⟨w2,hw2,hb2,hz2,c0,c1⟩:=boxes2v w (.int .i64 v) (.int .i64 kg) 3 3;have HW2:Hid (_=w2):=Hd hw2.symm;obtain⟨w1,hw1⟩:∃ w1,w1=w2.alloc (.cells #[.int .i64 kf,.int .i64 kg] 3):=⟨_,rfl⟩;have HW1:Hid (_=w1):=Hd hw1.symm;have hb1:Below w2.heap.size w2 w1:=by rw[hw1];exact Zac _ _
 have hb:Below w.heap.size w w1:=hb2.trans (hb1.mono hb2.size);have hz1:w1.heap.size=w.heap.size+2+1:=by rw[hw1,World.size_alloc,hz2]
 have d0:=(hb1.cell (p:=⟨w.heap.size,0,none⟩) (Zaa c0)).trans c0;have d1:=(hb1.cell (p:=⟨w.heap.size+1,0,none⟩) (Zaa c1)).trans c1;have hz:Zay w1 (some ⟨w2.heap.size,0,none⟩) [kf,kg]:=by rw[hw1];exact Zcs w2 [kf,kg] (by simp)
 have HASK:=Hd (Zea (h.below hb) (c:=2) hz (er:=8) (.inr ⟨rfl,by
  rcases hf with hf|hf
  ·
   exact⟨kf,by simp,hf⟩
  ·
   exact⟨kg,by simp,hf⟩⟩))
 have HB:=Hd hb;clear hw2 hb2 hw1 hb1 hb hz1 hz h hf hz2
 go_enter Tryz.func29,Tryz.ntmps29
 go_upto_region 1 with fail;rw[HW2.out];go_wp2_with fail;rw[HW1.out];refine HASK.out.mono ?_;rintro x w' ⟨rfl,rfl⟩;go_wp2_with fail
 go_ret2
 exact⟨rfl,HB.out⟩
theorem Zqp {Od:List Nat->Prop} (h:SatE K n Od room w0 mb fs nx w o m V) {kf kg v:Int} {F G:BF} (hf:(kf,F)∈fs) (hg:(kg,G)∈fs) (hv:v<0\/(n:Int)<=v) :
 Calls Tryz.prog 29 #[.pointer (some ⟨mb,0,none⟩),.int .i64 kf,.int .i64 v,.int .i64 kg] w fun x w'=>x=.returned (.tuple #[.int .i64 0,.int .i64 9])/\Below w.heap.size w w':=by
 have hmf:∀ (fn:Fn) (first cap:Array Value) (w:World),(Instr.makeFunc fn first cap).run Tryz.prog w=.ok (.func fn first cap) w:=fun _ _ _ _=>rfl
 obtain⟨w2,hw2,hb2,hz2,c0,c1⟩:=boxes2v w (.int .i64 v) (.int .i64 kg) 3 3;have HW2:Hid (_=w2):=Hd hw2.symm;obtain⟨w1,hw1⟩:∃ w1,w1=w2.alloc (.cells #[.int .i64 kf,.int .i64 kg] 3):=⟨_,rfl⟩;have HW1:Hid (_=w1):=Hd hw1.symm;have hb1:Below w2.heap.size w2 w1:=by rw[hw1];exact Zac _ _
 have hb:Below w.heap.size w w1:=hb2.trans (hb1.mono hb2.size);have hz1:w1.heap.size=w.heap.size+2+1:=by rw[hw1,World.size_alloc,hz2]
 have d0:=(hb1.cell (p:=⟨w.heap.size,0,none⟩) (Zaa c0)).trans c0;have d1:=(hb1.cell (p:=⟨w.heap.size+1,0,none⟩) (Zaa c1)).trans c1;have hz:Zay w1 (some ⟨w2.heap.size,0,none⟩) [kf,kg]:=by rw[hw1];exact Zcs w2 [kf,kg] (by simp)
 have HASK:=Hd (Zea (h.below hb) (c:=2) hz (er:=0) (.inl ⟨rfl,fun k hk=>by
  simp only[List.mem_cons,List.not_mem_nil,or_false] at hk;rcases hk with rfl|rfl
  ·
   exact⟨F,hf⟩
  ·
   exact⟨G,hg⟩⟩))
 have HVAR:=Hd (Zc3 (h.below hb) v);rw[decide_eq_false (by omega)] at HVAR;have HB:=Hd hb;clear hw2 hb2 hw1 hb1 hb hz1 hz h hf hg hz2 hv
 go_enter Tryz.func29,Tryz.ntmps29
 go_upto_region 1 with fail;rw[HW2.out];go_wp2_with fail;rw[HW1.out];refine HASK.out.mono ?_;rintro x w' ⟨rfl,rfl⟩;go_wp2_with fail;refine HVAR.out.mono ?_;rintro x w' ⟨rfl,rfl⟩;go_wp2_with fail
 go_ret2
 exact⟨rfl,HB.out⟩
end
open Go.RowKit
def sigF (zs:List Int):Nat->BF:=fun u=>if (u:Int)∈zs then notF (varF u) else varF u
theorem Zy1 (w:World):(zeroValue 4).run Tryz.prog w=.ok (.bool false) w:=(zero_of_info (n:=1) (by kernel_rfl)).1 w
structure Zjy (bm tb:Nat) (zs:List Int) (W:World):Prop where
 c:W.cell? ⟨bm,0,none⟩=some (.map (some tb))
 m:∃ l,Zb9 W tb (Value.int .i64) l/\∀ u:Int,getL l u=if u∈zs then some (.bool true) else none
section
variable {K:Law} {n:Nat} {room:Nat} {w0:World} {fs:List (Int×BF)} {nx:Int} {o o':Own} {w w':World} {mb:Nat} {m m':ManD} {V V':Nat->BF} {ws0:List Ev} {k:Int} {G:BF}
theorem Zjy.look {bm tb:Nat} {zs:List Int} {W:World} (h:Zjy bm tb zs W) (u:Int):(Instr.lookup 140 (.map (some tb)) (.int .i64 u) false).run Tryz.prog W=.ok (.bool (decide (u∈zs))) W:=by
 obtain⟨l,hl,hg⟩:=h.m;have h1:=hl.lookup kI Tryz.underlying140 Zy1 u false;rw[h1,hg]
 by_cases e:u∈zs
 ·
  simp[e]
 ·
  simp[e]
theorem Zjy.keep {bm tb:Nat} {zs:List Int} {W W':World} (h:Zjy bm tb zs W) (hk:∀ q,(q=bm\/q=tb)->W'.heap[q]?=W.heap[q]?):Zjy bm tb zs W':=by
 obtain⟨l,hl,hg⟩:=h.m;exact⟨(World.cell?_of_block (w:=W) (a:=⟨bm,0,none⟩) (hk _ (.inl rfl))).trans h.c,l,hl.keepB (hk _ (.inr rfl)),hg⟩
theorem Zz8 (hK:Zb3 K) {bm tb:Nat} {zs:List Int}:Zjj K n (sigF zs) (fun _ _=>True) (Zjy bm tb zs) (fun q=>q=bm\/q=tb) 100 #[.pointer (some ⟨bm,0,none⟩)]:=by
 intro o W xb mb m V v hm hlt hx hk hn _ hbw hT hv;have hbd:Below W.heap.size W W.drew:=Zaf W 1;obtain⟨s,hms⟩:=hm;have hmd:Zds (K m.d V) o W.drew mb m:=⟨s,hms.below hlt hbd⟩;have hxd:Zeh o W.drew xb mb:=⟨(hbd.cell (p:=⟨xb,0,none⟩) (Zaa hx.cell)).trans hx.cell,hx.own⟩;have hbwd:Zjy bm tb zs W.drew:=hbw.keep fun _ _=>rfl
 have hat:AtC K 0 o W mb m V o W.drew m V:=(AtC.refl ⟨s,hms⟩ hlt hk).below hbd;obtain⟨P,hP⟩:∃ P:Ending->World->Prop,P=fun e w'=>(∃ (r:Nat) (ok:Bool) (o':Own) (m':ManD) (V':Nat->BF),e=.returned (.tuple #[.int .i64 r,.bool ok])/\AtC K 1 o W mb m V o' w' m' V'/\okE (Zab m'.d) r/\(ok=true->ef V' r=sigF zs v)/\(ok=false->sigF zs v=varF v)) \/
  (∃ er evt ev,e=Zch er evt ev/\Zkh K 1 o W mb m V er evt ev w'):=⟨_,rfl⟩
 obtain⟨b,hb⟩:∃ b:Bool,b=decide ((v:Int)∈zs):=⟨_,rfl⟩
 have HMK:Hid (Calls Tryz.prog 77 #[.pointer (some ⟨xb,0,none⟩),.int .i64 v,.int .i64 1,.int .i64 0] W.drew fun e w'=>(∃ u,e=.returned u/\(w'.heap[bm]?=W.drew.heap[bm]?/\w'.heap[tb]?=W.drew.heap[tb]?)/\∃ r:Nat,u=.int .i64 r/\(Calls Tryz.prog 101 #[.int .i64 r] w' fun x w2=>x=.returned (.int .i64 (enot r:Nat))/\w'=w2)/\P (.returned (.tuple #[.int .i64 (enot r:Nat),.bool b])) w')\/(∃ ch,e=.panicked ch/\P (.panicked ch) w')):=Hd ((Znb hK hmd (hlt.mono hbd.size) hxd hk v (by rw[hn];exact hv)).mono (by
  rintro e w' (⟨r,o',m',V',rfl,p1,p2,p3⟩|⟨er,evt,ev,rfl,hst⟩)
  ·
   refine .inl ⟨_,rfl,⟨p1.st.chg.alien (hT _ (.inl rfl)).1 (hT _ (.inl rfl)).2,p1.st.chg.alien (hT _ (.inr rfl)).1 (hT _ (.inr rfl)).2⟩,r,rfl,Zi5 r w' (Zib p1.st.is p2),?_⟩;rw[hP];refine .inl ⟨enot r,b,o',m',V',rfl,(hat.trans p1).mono (by omega),Zj9 p2,fun e=>?_,fun e=>?_⟩
   ·
    rw[hb,decide_eq_true_eq] at e;unfold sigF;rw[if_pos e,Zqs,p3]
   ·
    rw[hb,decide_eq_false_iff_not] at e;unfold sigF;rw[if_neg e]
  ·
   refine .inr ⟨_,rfl,?_⟩;rw[hP];exact .inr ⟨er,evt,ev,rfl,hst.after hat (by omega)⟩))
 have hlk:∀ W',W'.heap[bm]?=W.drew.heap[bm]?->W'.heap[tb]?=W.drew.heap[tb]?->W'.cell? ⟨bm,0,none⟩=some (.map (some tb))/\(Instr.lookup 140 (.map (some tb)) (.int .i64 (v:Nat)) false).run Tryz.prog W'=.ok (.bool b) W':=fun W' e1 e2=>by
  have h:=hbwd.keep (W':=W') (by rintro q (rfl|rfl)<;>assumption);exact⟨h.c,by rw[hb];exact h.look _⟩
 have HLK:=Hd hlk;have cb:=hbwd.c
 show Calls _ _ #[_,_,_] _ _
 rw[<- hP];clear hP hx hk hn hbd hms hmd hxd hat hlt hv hb hbw hbwd hlk hK hT
 go_enter Tryz.func100,Tryz.ntmps100
 go_upto_region 1 with fail;refine Zfb [0,1,4,5,6,2,3,7,8] (fun W':World=>W'.heap[bm]?=W.drew.heap[bm]?/\W'.heap[tb]?=W.drew.heap[tb]?) (fun ch w'=>P (.panicked ch) w') (fun c a w hd h=>⟨hd,h⟩) (by kernel_rfl) ⟨rfl,rfl⟩ ?_
 iterate 5
  refine Zdd rfl rfl (by kernel_rfl) ?_;apply Exists.intro;refine⟨fun w' hw=>?_,?_⟩
  ·
   obtain⟨q1,q2⟩:=HLK.out w' hw.1 hw.2;clear hw;go_simp;rfl
  simp only[Zag]
 refine Zi6 rfl (by kernel_rfl) rfl rfl (by go_simp) HMK.out ?_;rintro u w2 hS ⟨r,rfl,hn,hp⟩;have HF:=Hd hp;have HNR:=Hd hn;have HS:=Hd hS;clear hn hp hS HMK HLK cb;simp only[Zag];refine Zf3 (R1:=fun u w'=>u=.int .i64 (enot r:Nat)/\w2=w') rfl (by kernel_rfl) rfl rfl (by go_simp) (HNR.out.mono fun x w' h=>⟨_,h.1,rfl,h.2⟩) (by rintro u w' ⟨_,rfl⟩;exact HS.out) ?_;rintro u w'-⟨rfl,rfl⟩;simp only[Zag]
 iterate 2
  refine Zdd rfl rfl (by kernel_rfl) ?_;apply Exists.intro;refine⟨fun w' hw=>?_,?_⟩
  ·
   clear hw;go_simp;rfl
  simp only[Zag]
 refine Zjs (by kernel_rfl) ?_;go_wp2_with fail;exact HF.out
end
open Go.RowKit
section
variable {K:Law} {n:Nat} {room:Nat} {w0:World} {fs:List (Int×BF)} {nx:Int} {o o':Own} {w w':World} {mb:Nat} {m m':ManD} {V V':Nat->BF} {ws0:List Ev} {k:Int} {G:BF}
theorem Zlf {Od:List Nat->Prop} (h:SatE K n Od room w0 mb fs nx w o m V) {kf:Int} (hf:¬ known fs kf) (v:Value) :
 Calls Tryz.prog 34 #[.pointer (some ⟨mb,0,none⟩),.int .i64 kf,v] w fun x w'=>x=.returned (.tuple #[.int .i64 0,.int .i64 8])/\Below w.heap.size w w':=by
 obtain⟨w1,hw1⟩:∃ w1,w1=w.alloc (.cells #[.int .i64 kf] 3):=⟨_,rfl⟩;have HW1:Hid (_=w1):=Hd hw1.symm;have hb:Below w.heap.size w w1:=by rw[hw1];exact Zac _ _
 have hz:Zay w1 (some ⟨w.heap.size,0,none⟩) [kf]:=by rw[hw1];exact Zcs w [kf] (by simp)
 have HASK:=Hd (Zea (h.below hb) (c:=1) hz (er:=8) (.inr ⟨rfl,kf,by simp,hf⟩));have HB:=Hd hb;clear hw1 hb hz h hf
 go_enter Tryz.func34,Tryz.ntmps34
 go_wp2_with fail;rw[HW1.out];refine HASK.out.mono ?_;rintro x w' ⟨rfl,rfl⟩;go_wp2_with fail
 go_ret2
 exact⟨rfl,HB.out⟩
theorem Zh2 (hK:Zb3 K) (h:SatE K n (fun _=>True) room w0 mb fs nx w o m V) {kf:Int} {F:BF} (hf:(kf,F)∈fs) {a:Option Addr} {c:Nat} {zs:List Int} (hz:Zay w a zs) (hst:m.waits <:+ ws0) (hn:nx<=549755813888) (hr:fs.length*2^n+(2^n-1)*(2^n+1)<=room) :
 Calls Tryz.prog 34 #[.pointer (some ⟨mb,0,none⟩),.int .i64 kf,.slice a zs.length c] w fun x w'=>((∀ v∈zs,0<=v/\v<(n:Int))->NewF K n room w0 mb fs nx ws0 (Zbd (sigF zs) F) o w x w')/\((∃ v∈zs,¬ (0<=v/\v<(n:Int)))->x=.returned (.tuple #[.int .i64 0,.int .i64 9])/\Below w.heap.size w w'):=by
 have hmf:∀ (fn:Fn) (first cap:Array Value) (w:World),(Instr.makeFunc fn first cap).run Tryz.prog w=.ok (.func fn first cap) w:=fun _ _ _ _=>rfl
 have hmm:=fun t w=>Zd5 (P:=Tryz.prog) w t
 obtain⟨w1,hw1⟩:∃ w1,w1=w.alloc (.cells #[.int .i64 kf] 3):=⟨_,rfl⟩;have HW1:Hid (_=w1):=Hd hw1.symm;have hb1:Below w.heap.size w w1:=by rw[hw1];exact Zac _ _
 have hz1:w1.heap.size=w.heap.size+1:=by rw[hw1];simp
 have hz':Zay w1 (some ⟨w.heap.size,0,none⟩) [kf]:=by rw[hw1];exact Zcs w [kf] (by simp)
 have HASK:=Hd (Zea (h.below hb1) (c:=1) hz' (er:=0) (.inl ⟨rfl,fun k hk=>by simp at hk;subst hk;exact⟨F,hf⟩⟩));obtain⟨w2,hw2⟩:∃ w2,w2=(w1.alloc (.map #[] 0)).alloc (.cells #[.map (some w1.heap.size)] 140):=⟨_,rfl⟩;have HW2:Hid (_=w2):=Hd hw2.symm;have hb2:Below w.heap.size w w2:=by rw[hw2];exact(hb1.alloc (by omega) _).alloc (by simp;omega) _
 have g1:Zb9 w2 w1.heap.size (Value.int .i64) []:=by rw[hw2];exact(Zgp w1 (Value.int .i64)).below (Zac _ _)
 have g2:w2.heap[w1.heap.size+1]?=some (.cells #[.map (some w1.heap.size)] 140 (0,0)):=by
  have:=heap_alloc_new (w1.alloc (.map #[] 0)) (.cells #[.map (some w1.heap.size)] 140);rw[World.size_alloc] at this;rw[hw2];exact this
 have HT2:Hid (Zjy (w1.heap.size+1) w1.heap.size (zs.take 0) w2):=Hd ⟨cell1 g2,[],g1,fun u=>by simp[getL,Zdf]⟩;have hzl:=hz.len;have HZ:=Hd hz;have HZ1:=Hd hz1;have HB2:=Hd hb2;have HVAR:Hid (∀ W (v:Int),Below w.heap.size w W->Calls Tryz.prog 93 #[.pointer (some ⟨mb,0,none⟩),.int .i64 v] W fun x w'=>x=.returned (.bool (decide (0<=v/\v<(n:Int))))/\W=w'):=Hd fun W v hb=>Zc3 (h.below hb) v
 obtain⟨P,hP⟩:∃ P:Ending->World->Prop,P=fun x w'=>((∀ v∈zs,0<=v/\v<(n:Int))->NewF K n room w0 mb fs nx ws0 (Zbd (sigF zs) F) o w x w')/\((∃ v∈zs,¬ (0<=v/\v<(n:Int)))->x=.returned (.tuple #[.int .i64 0,.int .i64 9])/\Below w.heap.size w w'):=⟨_,rfl⟩
 have HNINE:Hid (∀ v W,v∈zs->¬ (0<=v/\v<(n:Int))->Below w.heap.size w W->P (.returned (.tuple #[.int .i64 0,.int .i64 9])) W):=Hd fun v W hv hn hb=>by
  rw[hP];exact⟨fun hh=>absurd (hh v hv) hn,fun _=>⟨rfl,hb⟩⟩
 have HOV:Hid (∀ W,Below w.heap.size w W->Zjy (w1.heap.size+1) w1.heap.size zs W->(∀ q,q<zs.length->0<=at0 zs q/\at0 zs q<(n:Int))->Calls Tryz.prog 94 #[.pointer (some ⟨mb,0,none⟩),.int .i64 kf,.func (.func 100) #[] #[.pointer (some ⟨w1.heap.size+1,0,none⟩)]] W fun x w'=>∃ p q,x=.returned (.tuple #[.int .i64 p,.int .i64 q])/\P x w'):=Hd fun W hb ht hall=>by
  have hall':∀ v∈zs,0<=v/\v<(n:Int):=fun v hv=>by
   obtain⟨q,hq,rfl⟩:=List.getElem_of_mem hv;have:=hall q hq
   rwa [Zbq hq] at this
  refine(Zkb (σ:=sigF zs) (HP:=fun _ _=>True) (Bw:=Zjy (w1.heap.size+1) w1.heap.size zs) (T:=fun q=>q=w1.heap.size+1\/q=w1.heap.size) hK (fun _ h=>h) (fun W W' hb hk=>hb.keep hk) (Zz8 hK) Zov (fun _ _ _ _ _=>trivial) hf h hb (by
   obtain⟨l,hl,_⟩:=ht.m;have hl1:=hl.lt;have hl2:w1.heap.size+1<W.heap.size:=Zaa ht.c;rintro q (rfl|rfl)
   ·
    exact⟨by omega,hl2⟩
   ·
    exact⟨by omega,hl1⟩) ht hst hn hr).mono ?_
  intro x w' hx;refine⟨nx,0,hx.1,?_⟩;rw[hP];exact⟨fun _=>hx,fun⟨v,hv,hn⟩=>absurd (hall' v hv) hn⟩
 rw[<- hP];clear hP hw1 hb1 hz1 hz' hw2 hb2 g1 g2 h hK hf hz hst hn hr
 go_enter Tryz.func34,Tryz.ntmps34
 go_wp2_with fail;rw[HW1.out];refine HASK.out.mono ?_;rintro x w' ⟨rfl,rfl⟩;go_upto_region 5 with fail;rw[HW2.out];go_wp2_with fail
 go_loopw [6,7,11,22] (fun _ _ _ s22 wr=>∃ j:Nat,j<=zs.length/\s22=.int .i64 j/\Hid (Below w.heap.size w wr)/\Hid (Zjy (w1.heap.size+1) w1.heap.size (zs.take j) wr)/\Hid (∀ q,q<j->0<=at0 zs q/\at0 zs q<(n:Int))) (fun _ _ _ s22 _=>zs.length-(intOf s22).toNat)
 case atStart=>exact⟨0,Nat.zero_le _,rfl,HB2,HT2,Hd fun q hq=>by omega⟩
 case round =>
  obtain⟨j,hj,rfl,HBR,HT,HQ⟩:=hrel;clear HT2 HB2;have cb:=HT.out.c
  by_cases hlt:j<zs.length
  ·
   have hjz:(j:Int)<(zs.length:Int):=by omega
   obtain⟨b,off,rfl,ck⟩:=HZ.out.cells j hlt;have ckr:=(HBR.out.cell (p:=⟨b,off+j,none⟩) (Zaa ck)).trans ck;obtain⟨z,hz⟩:∃ z,z=at0 zs j:=⟨_,rfl⟩;rw[<- hz] at ckr;have HZE:=Hd hz;have HTK:Hid (zs.take (j+1)=zs.take j++[z]):=Hd (by rw[List.take_succ_eq_append_getElem hlt,hz,Zbq hlt]);have HIN:Hid (z∈zs):=Hd (by rw[hz,Zbq hlt];exact List.getElem_mem hlt);have HV:=HVAR.out _ z HBR.out;clear hz ck
   by_cases hok:0<=z/\z<(n:Int)
   ·
    rw[decide_eq_true hok] at HV;have HV2:=Hd HV;obtain⟨l,hl,hg⟩:=HT.out.m;have HL:=Hd hl;have HG:=Hd hg;have HQ2:Hid (∀ q,q<j+1->0<=at0 zs q/\at0 zs q<(n:Int)):=Hd fun q hq=>by
     rcases Nat.lt_or_ge q j with h|h
     ·
      exact HQ.out q h
     ·
      obtain rfl:q=j:=by omega
      rw[<- HZE.out];exact hok
    clear HV hl hg hok;go_wp2_with fail;refine HV2.out.mono ?_;rintro x w' ⟨rfl,rfl⟩;go_wp2_with (refine Zcu (l:=l) rfl _ _ _ rfl kI Tryz.underlying140 z (.bool true) rfl rfl rfl HL.out ?_;intro w9 hm9 hg9);have hw9:Wr (fun q=>q=w1.heap.size) wr w9:=Wr.of_grown hg9 _ (fun q hq=>by cases hq;rfl);have HB9:Hid (Below w.heap.size w w9):=Hd (HBR.out.trans (hw9.below (fun q hq=>by have:=HZ1.out;omega) HBR.out.size))
    have HT9:Hid (Zjy (w1.heap.size+1) w1.heap.size (zs.take (j+1)) w9):=Hd (by
     refine⟨(World.cell?_of_block (w:=wr) (a:=⟨w1.heap.size+1,0,none⟩) (hw9.keep _ (Zaa HT.out.c) (by show ¬ w1.heap.size+1=w1.heap.size;omega))).trans HT.out.c,_,hm9,fun u=>?_⟩;rw[Zig HL.out.nodup,HG.out,HTK.out]
     by_cases e:u=z
     ·
      subst e;simp
     ·
      rw[if_neg e];simp[List.mem_append,e])
    clear hm9 hg9 hw9 HL HG HT;go_wp2_with fail;go_roundw
    case rel=>exact⟨j+1,by omega,by go_num,HB9,HT9,HQ2⟩
    case measure=>simp[intOf];omega
   ·
    rw[decide_eq_false hok] at HV;have HV2:=Hd HV;have HF:=Hd (HNINE.out z wr HIN.out hok HBR.out);clear HV hok;go_wp2_with fail;refine HV2.out.mono ?_;rintro x w' ⟨rfl,rfl⟩;go_wp2_with fail;exact HF.out
  ·
   obtain rfl:j=zs.length:=by omega
   have hjz:¬ (zs.length:Int)<(zs.length:Int):=by omega
   have HO:=Hd (HOV.out wr HBR.out (by have:=HT.out;rwa [List.take_length] at this) HQ.out);clear HT HQ;go_wp2_with fail;refine HO.out.mono ?_;rintro x w' ⟨p,q,rfl,hp⟩;have HF:=Hd hp;clear hp HO;go_wp2_with fail;exact HF.out
end
end Go.Proofs.YtmofaapnkidioaaGreat
