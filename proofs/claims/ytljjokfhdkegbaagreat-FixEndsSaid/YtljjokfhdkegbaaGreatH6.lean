/- Several texts in one file: contracts of the program's functions and what follows from them. -/
import Derived.Test.YtljjokfhdkegbaaGreatH5
import Derived.Shelf.Slices.Reverse
import Derived.Ground.Names2Prog
import Derived.Shelf.Slices.Cells
import Derived.Shelf.Slices.Empties
import Derived.Deep.CutBlock
set_option linter.unusedSimpArgs false
set_option linter.unusedVariables false
set_option linter.unusedSectionVars false
set_option linter.unnecessarySimpa false
set_option maxRecDepth 100000
set_option maxHeartbeats 8000000
namespace Go.Proofs.YtljjokfhdkegbaaGreat
open Go.Proofs.Tryz
open Go.RowKit
theorem Ze3 (f g:Nat->Int):∀ k,Zaw k (fun i=>f i+g i)=Zaw k f+Zaw k g
 | 0=>by simp[Zaw]
 | k+1=>by simp only[Zaw];rw[Ze3 f g k];omega
theorem Zgk {f g:Nat->Int}:∀ k,(∀ i,i<k->f i<=g i)->Zaw k f<=Zaw k g
 | 0,_=>by simp[Zaw]
 | k+1,h=>by
   have h1:=Zgk k (fun i hi=>h i (by omega));have h2:=h k (by omega);simp only[Zaw];omega
theorem Zjz (c:Int)(f:Nat->Int):∀ k,c*Zaw k f=Zaw k (fun i=>c*f i)
 | 0=>by simp[Zaw]
 | k+1=>by simp only[Zaw];rw[Int.mul_add,Zjz c f k]
theorem Zk9 (f:Nat->Nat->Int)(m:Nat):∀ k,Zaw k (fun i=>Zaw m (fun j=>f i j))=Zaw m (fun j=>Zaw k (fun i=>f i j))
 | 0=>by simp only[Zaw];rw[Zdc]
 | k+1=>by
   simp only[Zaw];rw[Zk9 f m k,<- Ze3]
theorem Zj0 {g:Nat->Int}(hg:∀ i,0<=g i)(e k:Nat):Zaw k (fun i=>g i*toE e i)<=g (e/2):=by
 by_cases hk:e/2<k
 .
  have h1:=Zdk (f:=fun _=>0) (g:=fun i=>g i*toE e i) (j:=e/2) (fun i hi=>by
   have:toE e i=0:=by unfold toE;rw[if_neg (Ne.symm hi)]
   simp[this]) k hk
  rw[h1,Zdc];have:toE e (e/2)=1:=Zh6 e;simp[this]
 .
  rw[Za8 (g:=fun _=>0) k (fun i hi=>by
   have:toE e i=0:=by unfold toE;rw[if_neg (by omega)]
   simp[this]),Zdc]
  exact hg _
def gW (d:Zae)(i:Nat):Int:=match Zaa d i with
 | some b=>((2^(d.vars.length-levN d b.v):Nat):Int)-1
 | none=>0
theorem Zfw (d:Zae)(i:Nat):0<=gW d i:=by
 unfold gW;split
 . have:0<2^(d.vars.length-levN d (by assumption:BN).v):=Nat.pow_pos (by decide);omega
 . omega
theorem Zzf (d:Zae)(i l:Nat)(h:∀ b,Zaa d i=some b->l<=levN d b.v):gW d i<=((2^(d.vars.length-l):Nat):Int)-1:=by
 unfold gW;split
 .
  rename_i b hb
  have h1:=h b hb;have:2^(d.vars.length-levN d b.v)<=2^(d.vars.length-l):=Nat.pow_le_pow_right (by decide) (by omega);omega
 . have:0<2^(d.vars.length-l):=Nat.pow_pos (by decide);omega
theorem Zvm {d:Zae}{V:Nat->BF}(hk:Zao d V){j:Nat}{b:BN}(hb:Zaa d j=some b):gW d (b.lo/2)+gW d (b.hi/2)<=gW d j-1:=by
 have hl:=hk.dag.lt _ (hk.dag.var _ _ hb);have key:∀ e,levN d b.v<lvE d.vars.length (levN d) (Zaa d) e->gW d (e/2)<=((2^(d.vars.length-(levN d b.v+1)):Nat):Int)-1:=fun e he=>Zzf d _ _ (fun c hc=>by rw[Znt hc] at he;omega)
 have h1:=key _ (hk.dag.lvLo _ _ hb);have h2:=key _ (hk.dag.lvHi _ _ hb);have h3:gW d j=((2^(d.vars.length-levN d b.v):Nat):Int)-1:=by unfold gW;rw[hb]
 have h4:d.vars.length-levN d b.v=(d.vars.length-(levN d b.v+1))+1:=by omega
 rw[h3,h4,Nat.pow_succ];omega
theorem Zvu {d:Zae}{V:Nat->BF}(hk:Zao d V)(h0:d.dead=0)(hc:(d.pool.many:Int)=Zaw d.pool.at_.length (fun i=>if d.pool.tk i=true then 1 else 0)) :
 (d.pool.many:Int)<=Zaw d.pool.at_.length (fun i=>gW d i*Zaz d i):=by
 obtain⟨k,g0⟩:∃ k,k=d.pool.at_.length:=⟨_,rfl⟩;rw[<- g0] at hc ⊢;have e1:Zaw k (fun i=>gW d i*(Zay d i:Int))=Zaw k (fun i=>gW d i*Zaz d i)+Zaw k (fun i=>gW d i*Zaw k (from1 (Zaa d) (Zay d) i)):=by
  rw[<- Ze3];refine Za8 k fun i _=>?_
  cases hb:Zaa d i with
  | none=>simp[gW,hb]
  | some b=>rw[hk.live.cnt.eq i b hb,Int.mul_add,g0]
 have e2:Zaw k (fun i=>gW d i*Zaw k (from1 (Zaa d) (Zay d) i))=Zaw k (fun j=>Zaw k (fun i=>gW d i*from1 (Zaa d) (Zay d) i j)):=by
  rw[<- Zk9];exact Za8 k fun i _=>Zjz _ _ _
 have e3:Zaw k (fun j=>Zaw k (fun i=>gW d i*from1 (Zaa d) (Zay d) i j))<=Zaw k (fun j=>gW d j + -(if d.pool.tk j=true then 1 else 0)):=by
  refine Zgk k fun j _=>?_
  cases hb:Zaa d j with
  | none =>
    have ht:d.pool.tk j=false:=Zf0 hb;rw[Za8 (g:=fun _=>0) k (fun i _=>by simp[from1,hb]),Zdc];simp[gW,hb,ht]
  | some b =>
    have ht:d.pool.tk j=true:=(Za6 hb).1;have hp:=Zis hk.live h0 hb
    rw[Za8 (g:=fun i=>gW d i*toE b.lo i+gW d i*toE b.hi i) k (fun i _=>by
     simp only[from1,hb,if_pos hp,Zdp];rw[Int.mul_add]),Ze3,ht,if_pos rfl]
    have h1:=Zj0 (Zfw d) b.lo k;have h2:=Zj0 (Zfw d) b.hi k;have h3:=Zvm hk hb;omega
 have e4:Zaw k (fun i=>gW d i)<=Zaw k (fun i=>gW d i*(Zay d i:Int)):=by
  refine Zgk k fun i _=>?_
  cases hb:Zaa d i with
  | none=>simp[gW,hb]
  | some b =>
    have hp:=Zis hk.live h0 hb;have hg:=Zfw d i;have h1:(1:Int)<=(Zay d i:Int):=by omega
    have h2:=Int.mul_le_mul_of_nonneg_left h1 hg;omega
 have e5:Zaw k (fun j=>gW d j + -(if d.pool.tk j=true then 1 else 0))=Zaw k (fun j=>gW d j)+Zaw k (fun j=>-(if d.pool.tk j=true then 1 else 0)):=Ze3 _ _ _;have e6:Zaw k (fun j=>-(if d.pool.tk j=true then (1:Int) else 0)) = -Zaw k (fun j=>if d.pool.tk j=true then 1 else 0):=by
  have:=Zjz (-1) (fun j=>if d.pool.tk j=true then (1:Int) else 0) k;rw[Za8 (g:=fun i=>-1*if d.pool.tk i=true then (1:Int) else 0) k (fun i _=>by omega),<- this];omega
 omega
theorem Zqf (d:Zae)(k:Nat):∀ hs:List (Int×Nat),Zaw k (fun i=>gW d i*(Zb3 hs i:Int))<=hs.length*((2^d.vars.length:Nat):Int)
 | []=>by
   rw[Za8 (g:=fun _=>0) k (fun i _=>by simp[Zb3]),Zdc];simp
 | p::l=>by
   have ih:=Zqf d k l;have h1:Zaw k (fun i=>gW d i*(Zb3 (p::l) i:Int))<=Zaw k (fun i=>gW d i*(Zb3 l i:Int)+gW d i*toE p.2 i):=by
    refine Zgk k fun i _=>?_
    rw[<- Int.mul_add];refine Int.mul_le_mul_of_nonneg_left ?_ (Zfw d i);unfold Zb3 toE
    by_cases e:p.2/2=i
    .
     rw[if_pos e];have:(List.filter (fun p=>decide (1<p.1)&&p.2/2 == i) (p::l)).length<=(List.filter (fun p=>decide (1<p.1)&&p.2/2 == i) l).length+1:=by
      rw[List.filter_cons];split<;>simp
     omega
    . rw[if_neg e,List.filter_cons_of_neg (by simp[e])];omega
   have h2:=Zj0 (Zfw d) p.2 k;have h3:=Zzf d (p.2/2) 0 (fun _ _=>Nat.zero_le _);rw[Ze3] at h1;rw[List.length_cons,Int.natCast_add,Int.add_mul];simp only[Nat.sub_zero] at h3;have h4:((1:Nat):Int)*((2^d.vars.length:Nat):Int)=((2^d.vars.length:Nat):Int):=by simp
   omega
section
variable {K:Law}{n:Nat}{Od:List Nat->Prop}{room:Nat}{w0 w w':World}{mb:Nat}{fs:List (Int×BF)}{nx:Int}{o o':Own}{m m':ManD}{V V':Nat->BF}
theorem SatE.few (h:SatE K n Od room w0 mb fs nx w o m V)(h0:m.d.dead=0):m.d.pool.many<=fs.length*2^n:=by
 obtain⟨s,hs⟩:=h.is;obtain⟨s2,h2⟩:=hs.store;have h1:=Zvu h.ok.store h0 h2.pool.cnt;have h3:=Zqf m.d m.d.pool.at_.length m.hs;have h4:Zaw m.d.pool.at_.length (fun i=>gW m.d i*Zaz m.d i)=Zaw m.d.pool.at_.length (fun i=>gW m.d i*(Zb3 m.hs i:Int)):=by
  refine Za8 _ fun i _=>?_
  cases hb:Zaa m.d i with
  | none=>simp[gW,hb]
  | some b=>rw[h.ok.handles.refs i b hb]
 have h5:fs.length=m.hs.length:=by rw[<- h.hs,List.length_map]
 rw[h5,<- h.vars];have h6:((m.hs.length*2^m.d.vars.length:Nat):Int)=m.hs.length*((2^m.d.vars.length:Nat):Int):=by rw[Int.natCast_mul]
 omega
end
open Go.RowKit
theorem Zu9 (zs:List Int)(x:Int)(i:Nat):Zsn zs x i=bub zs i (Ze1 zs x-i).toNat:=rfl
theorem Zso (zs:List Int)(i d:Nat):(bub zs i (d+1)).2=((i+d:Nat):Int)::(bub (Zoj zs ((i+d:Nat):Int)) i d).2:=rfl
def Zh9 (a b:List Int)(w:World)(e:Ending)(w':World):Prop :=
 ∃ v,e=.returned (.tuple #[v,.int .i64 (Zdj a b)])/\OwnI w' w.heap.size v (Zed a b)/\Below w.heap.size w w'
theorem Zff {a b r:List Int}{w w':World}{v:Value}{E:Int}(hE:Zdj a b=E)(hr:Zed a b=r)(hs:OwnI w' w.heap.size v r)(hb:Below w.heap.size w w') :
 Zh9 a b w (.returned (.tuple #[v,.int .i64 E])) w':=⟨v,by rw[hE],by rw[hr];exact hs,hb⟩
def metB (zs:List Int)(k:Nat)(v:Int):Bool:=decide (∃ j,j<k/\at0 zs j=v)
theorem Zty (zs:List Int)(v:Int):metB zs 0 v=false:=by simp[metB]
theorem Zny (zs:List Int)(k:Nat):metB zs (k+1) (at0 zs k)=true:=by simp only[metB,decide_eq_true_eq];exact⟨k,by omega,rfl⟩
theorem Zig (zs:List Int)(k:Nat)(v:Int)(h:at0 zs k≠v):metB zs (k+1) v=metB zs k v:=by
 simp only[metB,decide_eq_decide];constructor
 .
  rintro⟨j,hj,he⟩;refine⟨j,?_,he⟩
  by_cases e:j=k
  . subst e;exact(h he).elim
  . omega
 . rintro⟨j,hj,he⟩;exact⟨j,by omega,he⟩
theorem Ztx {zs:List Int}{k:Nat}{v:Int}(h:metB zs k v=true):∃ j,j<k/\at0 zs j=v:=by simpa [metB] using h
theorem Zrq {zs:List Int}{k:Nat}{v:Int}(h:metB zs k v=false):∀ j,j<k->at0 zs j≠v:=by
 intro j hj he;have:metB zs k v=true:=by simp only[metB,decide_eq_true_eq];exact⟨j,hj,he⟩
 rw[h] at this;cases this
def Marks (w:World)(g:Nat)(zs:List Int)(k base:Nat):Prop :=
 ∃ cur,w.heap[g]?=some (.cells cur 222 (0,0))/\cur.size=64/\∀ u,u<64->cur[u]?=some (.bool (metB zs k ((base+u:Nat):Int)))
theorem Marks.cell {w:World}{g:Nat}{zs:List Int}{k base:Nat}(h:Marks w g zs k base)(u:Nat)(hu:u<64):w.cell? ⟨g,u,none⟩=some (.bool (metB zs k ((base+u:Nat):Int))):=by
 obtain⟨cur,h1,h2,h3⟩:=h;simp only[World.cell?,h1];exact h3 u hu
theorem Marks.frozen {w:World}{g:Nat}{zs:List Int}{k base:Nat}(h:Marks w g zs k base)(u:Nat):w.frozen? ⟨g,u,none⟩=false:=by
 obtain⟨cur,h1,h2,h3⟩:=h;simp[World.frozen?,h1]
theorem Marks.step_out {w:World}{g:Nat}{zs:List Int}{k base:Nat}(h:Marks w g zs k base)(hx:¬ ((base:Int)<=at0 zs k/\at0 zs k<base+64)):Marks w g zs (k+1) base:=by
 obtain⟨cur,h1,h2,h3⟩:=h;exact⟨cur,h1,h2,fun u hu=>by rw[Zig _ _ _ (by omega)];exact h3 u hu⟩
theorem Marks.step_in {w:World}{g:Nat}{zs:List Int}{k base u:Nat}(h:Marks w g zs k base)(hx:at0 zs k=((base+u:Nat):Int))(hu:u<64) :
 Marks (w.setCell ⟨g,u,none⟩ (.bool true)) g zs (k+1) base:=by
 obtain⟨cur,h1,h2,h3⟩:=h;refine⟨cur.setIfInBounds u (.bool true),?_,by simpa using h2,fun v hv=>?_⟩
 . simp[World.setCell,Array.getElem?_modify,h1]
 .
  by_cases e:v=u
  . subst e;rw[Array.getElem?_setIfInBounds_self_of_lt (by omega),<- hx,Zny]
  . rw[Array.getElem?_setIfInBounds_ne (by omega),Zig _ _ _ (by omega)];exact h3 v hv
theorem Ztw (w:World)(zs:List Int)(base:Nat)(cs:List Value)(hcs:cs=List.replicate 64 (.bool false)):Marks (w.alloc (.cells cs.toArray 222)) w.heap.size zs 0 base :=
 ⟨_,heap_alloc_new w _,by simp[hcs],fun u hu=>by rw[Zty,List.getElem?_toArray,hcs,List.getElem?_replicate,if_pos hu]⟩
def Zi2 (zs:List Int)(B:Nat):Prop :=
 1<=B->(∀ j,j<zs.length->0<=at0 zs j/\at0 zs j<zs.length)/\∀ i,i<zs.length->∀ l,l<i->at0 zs l=at0 zs i->(B:Int)<=at0 zs i
def Zi1 (zs:List Int)(B k:Nat):Prop :=
 (∀ j,j<k->0<=at0 zs j/\at0 zs j<zs.length)/\(∀ i,i<k->∀ l,l<i->at0 zs l=at0 zs i->¬ ((B:Int)<=at0 zs i/\at0 zs i<(B:Int)+64))
theorem Zoc (zs:List Int):Zi2 zs 0:=fun h=>by omega
theorem Zoa (zs:List Int)(B:Nat):Zi1 zs B 0:=⟨by omega,by omega⟩
theorem Zf4 {zs:List Int}{B k:Nat}(h:Zi1 zs B k)(h1:0<=at0 zs k)(h2:at0 zs k<zs.length)
 (h3:¬ ((B:Int)<=at0 zs k/\at0 zs k<(B:Int)+64)\/metB zs k (at0 zs k)=false):Zi1 zs B (k+1):=by
 refine⟨fun j hj=>?_,fun i hi l hl he=>?_⟩
 .
  by_cases e:j=k
  . subst e;exact⟨h1,h2⟩
  . exact h.1 j (by omega)
 .
  by_cases e:i=k
  .
   subst e;rcases h3 with h3|h3
   . exact h3
   . exact(Zrq h3 l hl he).elim
  . exact h.2 i (by omega) l hl he
theorem Zob {zs:List Int}{B:Nat}(h:Zi2 zs B)(hi:Zi1 zs B zs.length):Zi2 zs (B+64):=by
 refine fun _=>⟨hi.1,fun i g0 l hl he=>?_⟩
 have h2:=hi.2 i g0 l hl he;have h3:=(hi.1 i g0).1
 by_cases hB:1<=B
 . have:=(h hB).2 i g0 l hl he;omega
 . omega
theorem Zn9 {zs:List Int}{B:Nat}(h:Zi2 zs B)(hB:zs.length<=B):Zec zs=true:=by
 rw[Zk6]
 by_cases h0:1<=B
 . obtain⟨h1,h2⟩:=h h0;exact⟨h1,fun i hi k hk he=>by have:=h2 i hi k hk he;have:=(h1 i hi).2;omega⟩
 . exact⟨by omega,by omega⟩
theorem Zf3 {zs:List Int}{k:Nat}(hk:k<zs.length)(h:¬ (0<=at0 zs k/\at0 zs k<zs.length)):Zec zs=false:=Zii fun hh=>h (hh.1 k hk)
theorem Zl6 {zs:List Int}{k:Nat}(hk:k<zs.length)(h:metB zs k (at0 zs k)=true):Zec zs=false:=by
 obtain⟨j,hj,he⟩:=Ztx h;exact Zii fun hh=>hh.2 k hk j hj he
theorem Zcc (a:Option Addr)(c:Nat)(zs:List Int)(w:World)(h:Za2 w a zs)(hlen:zs.length<1000000) :
 Calls prog 92 #[.slice a zs.length c] w fun e w'=>e=.returned (.bool (Zec zs))/\Below w.heap.size w w':=by
 obtain⟨hl,hc⟩:=h;have gh:Hid (∀ k,k<zs.length->∃ b off,a=some ⟨b,off,none⟩/\b<w.heap.size/\w.cell? ⟨b,off+k,none⟩=some (.int .i64 (at0 zs k))):=fun k hk=>by
  obtain⟨b,off,h1,h2⟩:=hc k hk;exact⟨b,off,h1,Zab h2,h2⟩
 clear hc
 go_enter func92,ntmps92
 go_wp2
 go_loopw [3] (fun s3 wr=>∃ B:Nat,s3=.int .i64 B/\B<=zs.length+63/\Zi2 zs B/\Below w.heap.size w wr/\w.heap.size<=wr.heap.size) (fun i _=>zs.length+64-(intOf i).toNat)
 case atStart=>exact⟨0,rfl,by omega,Zoc zs,Below.refl _ _,Nat.le_refl _⟩
 case round =>
  obtain⟨B,rfl,hB,hrel,g9,ga⟩:=hrel;have HR:=Hd hrel;clear hrel
  by_cases gm:B<zs.length
  .
   go_wp2
   obtain⟨wo,rfl⟩:∃ wo:World,wo=wr:=⟨_,rfl⟩
   go_loopw [16] (fun i wi=>∃ k:Nat,k<=zs.length/\i=.int .i64 k/\Zi1 zs B k/\Marks wi wo.heap.size zs k B/\Below w.heap.size w wi/\w.heap.size<=wi.heap.size) (fun i _=>zs.length-(intOf i).toNat)
   case atStart=>exact⟨0,by omega,rfl,Zoa zs B,Ztw _ _ _ _ rfl,g9.alloc ga _,by simp;omega⟩
   case round =>
    obtain⟨k,hk,rfl,gb,hm,g0,g2⟩:=hrel;have g4:=Hd gb;have HM:=Hd hm;clear gb hm
    by_cases g3:k<zs.length
    .
     obtain⟨b,off,rfl,gg,gd⟩:=gh.out k g3;have gk:=(g0.cell (p:=⟨b,off+k,none⟩) gg).trans gd;clear gd
     by_cases hx:0<=at0 zs k/\at0 zs k<zs.length
     .
      obtain⟨g6,g5⟩:=hx
      by_cases g1:(B:Int)<=at0 zs k/\at0 zs k<(B:Int)+64
      .
       obtain⟨gj,gi⟩:=g1;have g7:((at0 zs k).toNat-B)<64:=by omega
       have g8:at0 zs k=((B+((at0 zs k).toNat-B):Nat):Int):=by omega
       have ge:=HM.out.cell _ g7;have gq:=HM.out.frozen ((at0 zs k).toNat-B);rw[<- g8] at ge;have HU:=Hd g8
       generalize gc:metB zs k (at0 zs k)=mb at ge
       have gf:=Hd gc;clear gc g8;cases mb
       .
        go_wp2
        go_roundw
        case rel=>exact⟨k+1,by omega,by go_num,Zf4 g4.out g6 g5 (.inr gf.out),HM.out.step_in HU.out g7,g0.setCell ga _,by simp;omega⟩
        case measure=>simp[intOf];omega
       .
        go_wp2
        go_ret;exact⟨Zdi (Zl6 g3 gf.out).symm,g0⟩
      .
       have HW:=Hd g1
       by_cases gn:at0 zs k<(B:Int)
       .
        clear g1
        go_wp2
        go_roundw
        case rel=>exact⟨k+1,by omega,by go_num,Zf4 g4.out g6 g5 (.inl HW.out),HM.out.step_out HW.out,g0,g2⟩
        case measure=>simp[intOf];omega
       .
        have go:(B:Int)+64<=at0 zs k:=by omega
        clear g1
        go_wp2
        go_roundw
        case rel=>exact⟨k+1,by omega,by go_num,Zf4 g4.out g6 g5 (.inl HW.out),HM.out.step_out HW.out,g0,g2⟩
        case measure=>simp[intOf];omega
     .
      have HX:=Hd hx
      by_cases gl:at0 zs k<0
      .
       clear hx
       go_wp2
       go_ret;exact⟨Zdi (Zf3 g3 HX.out).symm,g0⟩
      .
       have gp:(zs.length:Int)<=at0 zs k:=by omega
       clear hx
       go_wp2
       go_ret;exact⟨Zdi (Zf3 g3 HX.out).symm,g0⟩
    .
     obtain rfl:k=zs.length:=by omega
     go_wp2
     go_roundw
     case rel=>exact⟨B+64,by go_num,by omega,Zob HR.out g4.out,g0,g2⟩
     case measure=>simp[intOf];omega
  .
   go_wp2
   go_ret;exact⟨Zdi (Zn9 HR.out (by omega)).symm,g9⟩
theorem Zj6 {ops:Array Oper}{rest:List Oper}{o:Oper}{a:Act}{Q:Exit->Act->World->Prop}{wr:World}(hgd:o.guard=none)(d s:Operand)
 (ho:o.op=.call { callee:=.builtin .copy,args:=#[d,s],argTypes:=#[23,23] })
 (base g:Nat) (w0:World) (zs:List Int) (xs:List Value) (ao:Option Addr) (c:Nat) (hd:a.eval d=.slice (some ⟨g,0,none⟩) zs.length zs.length) (hs:a.eval s=.slice ao zs.length c)
 (hown:wr.ownsRow base 3 1 (.slice (some ⟨g,0,none⟩) zs.length zs.length) zs.length xs) (hzs:Za2 wr ao zs) (hb:Below base w0 wr)
 (h:∀ v' w',OwnI w' base (.slice (some ⟨g,0,none⟩) zs.length zs.length) zs->Below base w0 w'->base<=w'.heap.size->wpList prog ops Q rest (a.put o.dst v') w') :
 wpList prog ops Q (o::rest) a wr:=by
 obtain⟨g9,hx⟩:=hown;rcases hx with ⟨hv,_⟩|⟨g',cap,cur,hv,g2,hg,ga,g5,g1,g8⟩
 . cases hv
 .
  simp only[Value.slice.injEq,Option.some.injEq,Addr.mk.injEq,and_true,true_and] at hv;obtain⟨rfl,rfl⟩:=hv;refine wpList_copy_splice (w:=wr) hgd d s 23 23 ho 3 underlying23 (by obtain⟨i,hi,_,g4,_⟩:=info_parts Zhw;rw[hi];simp[g4])
   _ _ _ _ _ _ hd hs g 0 cur.toList 3 (by simpa using hg) (Za0 zs) (by simp[Za0]) ?_ (by simp[Za0,g1]) (ints_oneCell .i64 zs) base w0 hb g2 ?_
  .
   intro hp;rw[Zfy] at hp;obtain⟨b,off,rfl,_⟩:=hzs.cells 0 hp;refine⟨rfl,_,rfl,fun j v hj=>?_⟩;have g0:j<zs.length:=by
    rcases Nat.lt_or_ge j zs.length with h'|h'
    . exact h'
    . simp[Za0,List.getElem?_eq_none h'] at hj
   obtain⟨b',off',g7,hc⟩:=hzs.cells j g0;cases g7;simp[Za0,getElem?_at0 g0] at hj;subst hj;have g3:(⟨b,off,none⟩:Addr).add j=⟨b,off+j,none⟩:=by unfold Addr.add;split<;>simp_all
   rw[g3];exact hc
  .
   intro w' hh g6;refine h _ w' ⟨by simp[Za0],.inr ⟨g,_,(Za0 zs).toArray,rfl,g2,?_,Nat.le_refl _,g5,by simp[Za0],by simp[Za0,List.take_of_length_le]⟩⟩ g6 ?_
   .
    have:=hh.out;rw[this];have hl:cur.toList.length=zs.length:=by simp[g1]
    simp[splice,Za0,List.drop_eq_nil_of_le,hl]
   . have h1:=hh.out;have:=(Array.getElem?_eq_some_iff.1 h1).1;omega
theorem Zmx (a:Option Addr)(c:Nat)(zs:List Int)(w:World)(h:Za2 w a zs)(hlen:zs.length<1000000) :
 Calls prog 248 #[.slice a zs.length c] w fun e w'=>∃ g,e=.returned (.slice (some ⟨g,0,none⟩) zs.length zs.length)/\OwnI w' w.heap.size (.slice (some ⟨g,0,none⟩) zs.length zs.length) zs/\Below w.heap.size w w':=by
 obtain⟨i,hi,hz,g3,g4⟩:=info_parts Zhw;have HI:=Hd h;clear h
 go_enter func248,ntmps248
 go_wp2_with (first
  | (at_make;refine wpList_make_full _ rfl _ _ 23 rfl w.heap.size 3 i (.int .i64 0) 1 underlying23 hi hz g3 .i64 .i64 _ _ zs.length rfl rfl rfl rfl (by rw[g4];omega) (by unfold maxLen;omega) (Nat.le_refl _) ?_;intro w1 g1 g2)
  | (with_reducible refine Zj6 rfl (.tmp 7) (.tmp 8) rfl w.heap.size w.heap.size w zs _ a c rfl rfl (by exact g1) (HI.out.keep (Zcu g2) (by simp)) ((Below.refl _ _).grown g2 (Nat.le_refl _) (by simp)) ?_;intro v2 w2 g0 g5 g6))
 go_ret;exact⟨_,rfl,g0,g5⟩
theorem Ztg (a:Option Addr)(c:Nat)(zs:List Int)(x:Int)(w:World)(h:Za2 w a zs) :
 Calls prog 292 #[.slice a zs.length c,.int .i64 x] w fun e w'=>e=.returned (.int .i64 (Ze1 zs x))/\∃ n,w'=w.drewN n:=by
 obtain⟨hl,hc⟩:=h;have HC:=Hd hc;clear hc
 go_enter func292,ntmps292
 go_wp2
 go_loop [8] (fun i=>∃ k:Nat,k<=zs.length/\i=.int .i64 k/\∀ j,j<k->at0 zs j≠x) (fun i=>zs.length-(intOf i).toNat)
 case atStart=>exact⟨0,Nat.zero_le _,rfl,by omega⟩
 case round =>
  obtain⟨k,hk,rfl,hrel⟩:=hrel;have HR:=Hd hrel;clear hrel
  by_cases g0:k<zs.length
  .
   obtain⟨b,off,rfl,g1⟩:=HC.out k g0
   by_cases hx:at0 zs k=x
   .
    have H1:(x == at0 zs k)=true:=by simpa using hx.symm
    have HX:=Hd hx;clear hx
    go_wp2
    go_ret;exact⟨Zpg (Zn3 g0 HX.out HR.out).symm,0,rfl⟩
   .
    have H1:(x == at0 zs k)=false:=by simpa using(fun e=>hx e.symm)
    go_wp2
    go_round
    case rel=>exact⟨k+1,by omega,by go_num,fun j hj=>by
     by_cases e:j=k
     . subst e;exact hx
     . exact HR.out j (by omega)⟩
    case measure=>simp[intOf];omega
  .
   go_wp2
   go_ret;exact⟨Zpg (Zpe (fun j hj=>HR.out j (by omega))).symm,0,rfl⟩
theorem OwnI.len {w:World}{base n c:Nat}{a:Option Addr}{zs:List Int}(h:OwnI w base (.slice a n c) zs):n=zs.length:=by
 rcases h.2 with ⟨hv,h0⟩|⟨g,cap,cur,hv,_⟩
 . simp only[Value.slice.injEq] at hv;omega
 . simp only[Value.slice.injEq] at hv;omega
theorem OwnI.intsAt {w:World}{base n c:Nat}{a:Option Addr}{zs:List Int}(h:OwnI w base (.slice a n c) zs)(hl:zs.length<=9223372036854775807):Za2 w a zs:=by
 obtain rfl:=h.len;exact Zgo hl h
theorem Zvp {a:Option Addr}{n c:Nat}{zs:List Int}{x:Int}{w:World}(hn:n=zs.length)(h:Za2 w a zs) :
 Calls prog 292 #[.slice a n c,.int .i64 x] w fun e w'=>e=.returned (.int .i64 (Ze1 zs x))/\∃ n,w'=w.drewN n:=by
 subst hn;exact Ztg a c zs x w h
theorem Zl3 (va vb:Value)(xs ys:List Int)(w:World)(h:SliceIs w va xs)(h':SliceIs w vb ys)(hlen:xs.length<=1000)(hlen':ys.length<=1000) :
 Calls prog 245 #[va,vb] w (Zh9 xs ys w):=by
 obtain⟨a,c,rfl,ha,gR⟩:=h;obtain⟨b,c',rfl,hb,gQ⟩:=h';have HA:=Hd ha;have HB:=Hd hb;clear ha hb gR gQ
 by_cases hr:Zec xs=true
 .
  by_cases g1:Zec ys=true
  .
   by_cases hl:xs.length=ys.length
   .
    have HE:Hid (Zdj xs ys=0):=by unfold Zdj;rw[if_pos ⟨hr,g1⟩,if_pos hl];rfl
    have HF:Hid (Zed xs ys=Zhp xs ys 0):=by unfold Zed;rw[if_pos ⟨hr,g1,hl⟩];rfl
    have HR:=Hd hr;have g8:=Hd g1;have H3:((xs.length:Int) != ys.length)=false:=by simp[hl]
    clear hr g1 hl
    go_enter func245,ntmps245
    go_wp2_with fail;refine(Zcc _ _ xs _ HA.out (by omega)).mono ?_;rintro e w1 ⟨rfl,g0⟩;rw[HR.out];go_wp2_with fail;refine(Zcc _ _ ys _ (HB.out.below g0) (by omega)).mono ?_;rintro e w2 ⟨rfl,g7⟩;rw[g8.out];have g4:Below w.heap.size w w2:=g0.trans (g7.mono g0.size);go_wp2_with fail;refine(Zmx _ _ xs _ (HA.out.below g4) (by omega)).mono ?_;rintro e w3 ⟨g,rfl,gb,gl⟩;have ga:=g4.size;have hg:w2.heap.size<=g:=(gb.lt g rfl).1;have h3:Below w.heap.size w w3:=g4.trans (gl.mono ga);have gL:w2.heap.size<=w3.heap.size:=gl.size;go_wp2_with fail
    go_loopw [6,30] (fun s6 s30 wr=>∃ (k:Nat) (cur out:List Int),k<=ys.length/\s30=.int .i64 k/\OwnI wr w2.heap.size (.slice (some ⟨g,0,none⟩) xs.length xs.length) cur/\cur.length=xs.length/\OwnI wr w2.heap.size s6 out/\s6.ownBlock≠some g/\out.length<=k*1000/\out++Zhp cur (ys.drop k) k=Zhp xs ys 0/\w2.heap.size<=wr.heap.size/\Below w2.heap.size w2 wr) (fun _ s30 _=>ys.length-(intOf s30).toNat)
    case atStart=>exact⟨0,xs,[],by omega,rfl,gb,rfl,Ziw _ _,by simp[Value.ownBlock],by simp,by simp,gL,gl⟩
    case round =>
     obtain⟨k,cur,out,hk,rfl,gj,gv,ge,gs,hd,gq,gK,g9⟩:=hrel;have gz:=Hd gq;have gm:=Hd gv;have gZ:=Hd gs;have h5:cur.length<=1000:=by omega
     clear gq gv gs;have h1:=Hd (HB.out.below (g4.trans (g9.mono ga)))
     by_cases gt:k<ys.length
     .
      obtain⟨bb,off,rfl,h2⟩:=h1.out.cells k gt;have h0:=Hd (Zpi cur ys k gt);have HCI:=Hd (gj.intsAt (by omega));go_wp2_with fail;refine(Zvp gm.out.symm (HCI.out.drewN 0)).mono ?_;rintro e w' ⟨rfl,n,rfl⟩;have gr:=Zt8 cur (at0 ys k);have hp2:=Zt9 cur (at0 ys k);have gE:=Hd (Zu9 cur (at0 ys k) k)
      generalize Ze1 cur (at0 ys k)=p at gr hp2 gE ⊢
      go_wp2_with fail;have gO:p<xs.length\/p<=0:=by have:=gm.out;omega
      obtain⟨N,F,HN⟩:∃ (N F:List Int),Hid (N=(bub cur k (p-k).toNat).1/\F=out++(bub cur k (p-k).toNat).2):=⟨_,_,rfl,rfl⟩
      go_loopw [6,10] (fun s6 s10 wi=>∃ (d:Nat) (c1 o1:List Int) (q:Int),s10=.int .i64 q/\-1<=q/\q<=1000/\(q<xs.length\/q<=0)/\(q<=k->d=0)/\(k<q->q=k+d)/\OwnI wi w2.heap.size (.slice (some ⟨g,0,none⟩) xs.length xs.length) c1/\c1.length=xs.length/\OwnI wi w2.heap.size s6 o1/\s6.ownBlock≠some g/\o1.length+d<=(k+1)*1000/\N=(bub c1 k d).1/\F=o1++(bub c1 k d).2/\w2.heap.size<=wi.heap.size/\Below w2.heap.size w2 wi) (fun _ s10 _=>(intOf s10+1).toNat)
      case atStart=>exact⟨(p-k).toNat,cur,out,p,rfl,gr,by omega,gO,by omega,by omega,gj.drewN n,gm.out,ge.drewN n,gZ.out,by omega,HN.out.1,HN.out.2,gK,Zak g9 n⟩
      case round =>
       obtain⟨d,c1,o1,q,rfl,hc,h9,gN,gi,gu,g3,gk,g6,gf,h4,hN,hF,gd,gc⟩:=hrel;have gB:=Hd hN;have gD:=Hd hF;have gn:=Hd gk;have g5:=Hd gf;have h6:c1.length<=1000:=by omega
       clear hN hF gk gf
       by_cases h8:(k:Int)<q
       .
        obtain⟨d,rfl⟩:∃ l,d=l+1:=⟨d-1,by omega⟩;have gM:q=(k:Int)+d+1:=by omega
        subst gM;have gS:k+d+1<xs.length:=by omega
        have gH:k+d+1<c1.length:=by rw[gn.out];exact gS
        clear gi gu gN;have h7:IntKind.i64.wrap ((k:Int)+d+1-1)=((k+d:Nat):Int):=by rw[IntWalk.i64_in _ (by omega)];omega
        have q0:=g3.cell (k+d) (by omega);have q1:=g3.cell (k+d+1) (by omega);have p0:=g3.frozen (k+d);have p1:=g3.frozen (k+d+1);have t0:((k:Int)+d).toNat=k+d:=by omega
        have t1:((k:Int)+d+1).toNat=k+d+1:=by omega
        go_wp2_with fail
        go_region
        have gX:=Hd (Zws (zs:=c1) (k:=k+d) gH);have gU:=((g3.stored (k+d) (at0 c1 (k+d+1))).stored (k+d+1) (at0 c1 (k+d))).drewN 1;have gP:=((g6.setCell_other (a:=⟨g,k+d,none⟩) g5.out (.int .i64 (at0 c1 (k+d+1)))).setCell_other (a:=⟨g,k+d+1,none⟩) g5.out (.int .i64 (at0 c1 (k+d)))).drewN 1;have gV:=Zak ((gc.setCell (p:=⟨g,k+d,none⟩) hg (.int .i64 (at0 c1 (k+d+1)))).setCell (p:=⟨g,k+d+1,none⟩) hg (.int .i64 (at0 c1 (k+d)))) 1;have gT:=(g3.lt g rfl).2;go_wp2_with (at_builtin;go_loud (refine Zc8 _ rfl _ _ rfl w2.heap.size w2 _ o1 _ rfl rfl (by rfl) (by simp) gP (by omega) (by simpa using gd) gV ?_);intro v2 w4 go gp gF gg);have gw:=gU.keep gg.keep (fun x hx gJ=>by cases hx;exact g5.out gJ.symm);rw[<- gX.out] at gw;have gG:=gg.ne g5.out (by simpa using gT);go_roundw
        case rel=>exact⟨d,Zoj c1 ((k+d:Nat):Int),o1++[((k+d:Nat):Int)],((k+d:Nat):Int),by go_num,by omega,by omega,by omega,by omega,by omega,gw,by rw[Zok];exact gn.out,go,gG,by simp;omega,gB.out,by rw[gD.out,Zso];simp,gF,gp⟩
        case measure=>simp[intOf];omega
       .
        obtain rfl:=gi (by omega);have gY:=Hd g6;have gx:N=c1:=gB.out;have gy:F=o1:=by rw[gD.out];simp[bub]
        have gA:=Hd gx;have gC:=Hd gy;clear gx gy gi gu g6
        go_wp2
        go_roundw
        case rel=>exact⟨k+1,N,F,by omega,by go_num,by rw[gA.out];exact g3,by rw[gA.out];exact gn.out,by rw[gC.out];exact gY.out,g5.out,by rw[gC.out];omega,by
         rw[HN.out.1,HN.out.2,<- gz.out,h0.out,gE.out];simp,gd,gc⟩
        case measure=>simp[intOf];omega
     .
      obtain rfl:k=ys.length:=by omega
      have gh:Zhp xs ys 0=out:=by rw[<- gz.out];simp[Zhp]
      have gI:=Hd gh;clear gh
      go_wp2
      go_ret2
      exact Zff HE.out (HF.out.trans gI.out) (ge.lower ga) (g4.trans (g9.mono ga))
   .
    have HE:Hid (Zdj xs ys=3):=by unfold Zdj;rw[if_pos ⟨hr,g1⟩,if_neg hl];rfl
    have HF:Hid (Zed xs ys=[]):=by unfold Zed;rw[if_neg (fun hh=>hl hh.2.2)];rfl
    have HR:=Hd hr;have g8:=Hd g1;have H3:((xs.length:Int) != ys.length)=true:=by simp;omega
    clear hr g1 hl
    go_enter func245,ntmps245
    go_wp2_with fail;refine(Zcc _ _ xs _ HA.out (by omega)).mono ?_;rintro e w1 ⟨rfl,g0⟩;rw[HR.out];go_wp2_with fail;refine(Zcc _ _ ys _ (HB.out.below g0) (by omega)).mono ?_;rintro e w2 ⟨rfl,g7⟩;rw[g8.out];go_wp2_with fail
    go_ret2
    exact Zff HE.out HF.out (Ziw _ _) (g0.trans (g7.mono g0.size))
  .
   have HE:Hid (Zdj xs ys=1):=by unfold Zdj;rw[if_neg (fun hh=>g1 hh.2)];rfl
   have HF:Hid (Zed xs ys=[]):=by unfold Zed;rw[if_neg (fun hh=>g1 hh.2.1)];rfl
   have g2:Zec ys=false:=by simpa using g1
   have HR:=Hd hr;have g8:=Hd g2;clear hr g1 g2
   go_enter func245,ntmps245
   go_wp2_with fail;refine(Zcc _ _ xs _ HA.out (by omega)).mono ?_;rintro e w1 ⟨rfl,g0⟩;rw[HR.out];go_wp2_with fail;refine(Zcc _ _ ys _ (HB.out.below g0) (by omega)).mono ?_;rintro e w2 ⟨rfl,g7⟩;rw[g8.out];go_wp2_with fail
   go_ret2
   exact Zff HE.out HF.out (Ziw _ _) (g0.trans (g7.mono g0.size))
 .
  have HE:Hid (Zdj xs ys=1):=by unfold Zdj;rw[if_neg (fun hh=>hr hh.1)];rfl
  have HF:Hid (Zed xs ys=[]):=by unfold Zed;rw[if_neg (fun hh=>hr hh.1)];rfl
  have g2:Zec xs=false:=by simpa using hr
  have HR:=Hd g2;clear hr g2
  go_enter func245,ntmps245
  go_wp2_with fail;refine(Zcc _ _ xs _ HA.out (by omega)).mono ?_;rintro e w1 ⟨rfl,g0⟩;rw[HR.out];go_wp2_with fail
  go_ret2
  exact Zff HE.out HF.out (Ziw _ _) g0
end Go.Proofs.YtljjokfhdkegbaaGreat
namespace Go.Proofs
open Go.Proofs.Tryz
open Go.Shelf
def Tryz.lays112_ren:Go.Shelf.Ren:=⟨fun|112=>249|n=>n,fun|28=>23|3=>3|4=>4|0=>0|n=>n,fun|n=>n⟩
theorem Tryz.lays112:Go.Proofs.Lays.n112 prog Tryz.lays112_ren:={
 mixed:=by kernel_rfl
 f112:=func249.trans (congrArg some (by kernel_rfl))
 t0:=underlying0
 a0:=Tryz.isAgg0
 z0:=Tryz.sizeOf0
 v0:=zeroValue0
 t3:=underlying3
 a3:=Tryz.isAgg3
 z3:=Tryz.sizeOf3
 v3:=zeroValue3
 t4:=underlying4
 a4:=Tryz.isAgg4
 z4:=Tryz.sizeOf4
 v4:=zeroValue4
 t28:=underlying23
 a28:=Tryz.isAgg23
 z28:=Tryz.sizeOf23
 v28:=zeroValue23 }
theorem Tryz.slices_Reverse_int_cells (b off n c:Nat)(zs:List Int)(w:World)(hz:n<=zs.length)(hbig:n<=9223372036854775807)(hc:∀ j,j<zs.length->w.cell? ⟨b,off+j,none⟩=some (.int .i64 (zs.getD j 0)))(hf:∀ j,j<n->w.frozen? ⟨b,off+j,none⟩=false) :
 Calls prog 249 #[.slice (some ⟨b,off,none⟩) n c] w fun e w'=>e=.returned (.tuple #[])/\∃ q,w'=(w.drewN q).setCells b off ((zs.take n).reverse.map (Value.int .i64)):=Any.slices_Reverse_int_cells Tryz.lays112 b off n c zs w hz hbig hc hf
end Go.Proofs
namespace Go.Proofs.YtljjokfhdkegbaaGreat
open Go.Proofs.Tryz
open Go.RowKit
theorem Zj8 {B g:Nat}{a:World}(hg:B<=g)(ys:List Value):∀ (w:World) (o:Nat),Below B a w->Below B a (w.setCells g o ys):=by
 induction ys with
 | nil=>intro w o h;exact h
 | cons y ys ih=>intro w o h;exact ih _ _ (h.setCell hg _)
theorem OwnI.setCells {base g n c:Nat}(ys:List Int):∀ (w:World) (o:Nat) (zs:List Int),OwnI w base (.slice (some ⟨g,0,none⟩) n c) zs->o+ys.length<=zs.length ->
 OwnI (w.setCells g o (Za0 ys)) base (.slice (some ⟨g,0,none⟩) n c) (zs.take o++ys++zs.drop (o+ys.length)):=by
 induction ys with
 | nil=>intro w o zs h _;simpa [Za0,World.setCells] using h
 | cons y ys ih =>
   intro w o zs h hl;simp only[List.length_cons] at hl;have h1:=ih (w.setCell ⟨g,o,none⟩ (.int .i64 y)) (o+1) (zs.set o y) (h.stored o y) (by simp;omega);have e:(zs.set o y).take (o+1)++ys++(zs.set o y).drop (o+1+ys.length)=zs.take o++(y::ys)++zs.drop (o+(y::ys).length):=by
    have e1:(zs.set o y).take (o+1)=zs.take o++[y]:=by
     rw[List.set_eq_take_append_cons_drop,if_pos (by omega),List.take_append];simp;have:min o zs.length=o:=by omega
     rw[this];simp
     exact List.take_of_length_le (by simp;omega)
    have e2:(zs.set o y).drop (o+1+ys.length)=zs.drop (o+1+ys.length):=by
     rw[List.drop_set];rw[if_pos (by omega)]
    rw[e1,e2];simp[Nat.add_assoc,Nat.add_comm 1 ys.length]
   rw[e] at h1;exact h1
theorem Zn2 (a:Option Addr)(c:Nat)(zs:List Int)(w:World)(h:Za2 w a zs)(hlen:zs.length<1000000) :
 Calls prog 176 #[.slice a zs.length c] w fun e w'=>∃ v,e=.returned v/\SliceIs w' v zs.reverse/\Below w.heap.size w w':=by
 have HI:=Hd h;clear h
 go_enter func176,ntmps176
 go_wp2_with fail;refine(Zmx _ _ zs _ HI.out hlen).mono ?_;rintro e w1 ⟨g,rfl,g0,g3⟩;have hg:w.heap.size<=g:=(g0.lt g rfl).1;go_wp2_with fail;refine(Tryz.slices_Reverse_int_cells g 0 zs.length zs.length zs w1 (Nat.le_refl _) (by omega) (fun j hj=>by rw[Nat.zero_add];exact g0.cell j hj) (fun j hj=>by rw[Nat.zero_add];exact g0.frozen j)).mono ?_;rintro e w2 ⟨rfl,q,g1⟩;have h2:=OwnI.setCells zs.reverse (w1.drewN q) 0 zs (g0.drewN q) (by simp);have e:zs.drop (0+zs.reverse.length)=[]:=List.drop_of_length_le (by simp);rw[e,List.take_zero,List.nil_append,List.append_nil] at h2;have g2:Below w.heap.size w ((w1.drewN q).setCells g 0 (Za0 zs.reverse)):=Zj8 hg _ _ _ (Zak g3 _);rw[List.take_length] at g1
 change w2=(w1.drewN q).setCells g 0 (Za0 zs.reverse) at g1
 rw[<- g1] at h2 g2;clear g1;go_wp2_with fail;go_ret;exact⟨_,rfl,h2.sliceIs (by simp;omega),g2⟩
open Go.RowKit
abbrev KF:Law:=fun _ _ _ _ _ _ _=>False
section
variable {K:Law}{n:Nat}{Od:List Nat->Prop}{room:Nat}{w0 w w':World}{mb:Nat}{fs:List (Int×BF)}{nx:Int}{o o':Own}{m m':ManD}{V V':Nat->BF}
theorem SatE.full (h:SatE KF n Od room w0 mb fs nx w o m V):SatE K n Od room w0 mb fs nx w o m V:=by
 obtain⟨s,hs⟩:=h.is;exact⟨⟨s,hs.mono fun _ _ _ _ _ e=>e.elim⟩,h.lt,h.ok,h.vars,h.od,h.room,h.next,h.hs,h.chg⟩
theorem SatE.cleared {s:ManW}{w1:World}(h:SatE K n Od room w0 mb fs nx w o m V)(g1:Zb2 (fun _ _ _ _ _=>False) o w1 mb m s)(g2:Chg (· = .entries) o o w w1)(g3:Zaj o w1):SatE KF n Od room w0 mb fs nx w1 o m V :=
 ⟨⟨s,g1⟩,g3,h.ok,h.vars,h.od,h.room,h.next,h.hs,h.chg.lower (ChgX.of_chg g2.any NoB) (fun _ e=>e.elim)⟩
structure HapS (n room:Nat)(w0:World)(mb:Nat)(fs:List (Int×BF))(nx:Int)(o:Own)(w:World)(m:ManD)(o':Own)(w':World)(m':ManD)(V':Nat->BF):Prop where
 sat:SatE KF n (fun _=>True) room w0 mb fs nx w' o' m' V'
 waits:m'.waits=m.waits
 calls:m'.calls=m.calls
 chg:Chg (fun _=>True) o o' w w'
 many:m'.d.pool.many<=m.d.pool.many\/m'.d.pool.many<=fs.length*2^n
theorem HapS.trans {o'':Own}{w'':World}{m'':ManD}{V'':Nat->BF}(h:HapS n room w0 mb fs nx o w m o' w' m' V')(h':HapS n room w0 mb fs nx o' w' m' o'' w'' m'' V''):HapS n room w0 mb fs nx o w m o'' w'' m'' V'' :=
 ⟨h'.sat,h'.waits.trans h.waits,h'.calls.trans h.calls,h.chg.trans h'.chg,by
  rcases h'.many with h1|h1
  . exact h.many.imp (fun h2=>Nat.le_trans h1 h2) (fun h2=>Nat.le_trans h1 h2)
  . exact .inr h1⟩
theorem Zte {s:ManW}(h:SatE KF n (fun _=>True) room w0 mb fs nx w o m V)(hs:Zb2 (fun _ _ _ _ _=>False) o w mb m s)(hn:nx<=549755813888)(z:Int) :
 Calls prog 256 #[.pointer (some ⟨s.sb,0,none⟩),.int .i64 z] w fun e w'=>∃ q:Int,e=.returned (.int .i64 q)/\∃ o' m' V',HapS n room w0 mb fs nx o w m o' w' m' V':=by
 by_cases hz:z<0\/(n:Int)-1<=z
 . refine(Zmh hs.store h.ok.store.small z (by rw[h.vars];exact hz)).mono ?_;rintro e w' ⟨rfl,rfl⟩;exact⟨2,rfl,o,m,V,h,rfl,rfl,Chg.refl _ _ _,.inl (Nat.le_refl _)⟩
 .
  obtain⟨k,rfl⟩:∃ k:Nat,z=k:=⟨z.toNat,by omega⟩;refine(Zul h hs (Chg.refl _ _ _) h.lt (by omega) hn).mono ?_;rintro e w' ⟨o',m',V',hm⟩;obtain⟨d0,cr,hw⟩:=hm.way;rcases hw with ⟨e1,e2,_⟩|⟨e1,so⟩
  . exact⟨7,e1,o',m',V',hm.sat,hm.waits,hm.calls,hm.chg,.inr (hm.sat.few (by rw[e2];exact cr.dead))⟩
  . exact⟨0,e1,o',m',V',hm.sat,hm.waits,hm.calls,hm.chg,.inr (hm.sat.few so.dead)⟩
theorem Zra {s:ManW}(h:SatE KF n (fun _=>True) room w0 mb fs nx w o m V)(hs:Zb2 (fun _ _ _ _ _=>False) o w mb m s) :
 Calls prog 295 #[.pointer (some ⟨s.sb,0,none⟩)] w fun e w'=>∃ q:Int,e=.returned (.int .i64 q)/\∃ o' m' V',HapS n room w0 mb fs nx o w m o' w' m' V':=by
 refine(Zgy hs.store h.lt h.ok.store).mono ?_;rintro e w' ⟨rfl,o',d',st,lt,cr,ch⟩;have g0:SatE KF n (fun _=>True) room w0 mb fs nx w' o' { m with d:=d' } V:=⟨⟨s,hs.setStore h.lt st ch⟩,lt,⟨cr.ok h.ok.store,Zfx h.ok.handles h.ok.store cr⟩,by dsimp only;rw[cr.vars];exact h.vars,trivial,by dsimp only;rw[cr.room];exact h.room,h.next,h.hs,h.chg.lower (ChgX.of_chg ch.any NoB) (fun _ e=>e.elim)⟩;exact⟨_,rfl,o',{ m with d:=d' },V,g0,rfl,rfl,ch.any,.inr (g0.few cr.dead)⟩
theorem Zpd {base:Nat}{v:Value}{zs:List Int}(h:OwnI w base v zs):zs.length<=9223372036854775807:=by
 rcases h.2 with ⟨_,h0⟩|⟨g,cap,cur,_,_,_,h1,h2,_⟩
 . omega
 . unfold maxLen at h2;omega
theorem Za2.chg {R:Role->Prop}{a:Option Addr}{zs:List Int}(h:Za2 w a zs)(hc:Chg R o o' w w')(hn:∀ x,a=some x->o x.block=none):Za2 w' a zs :=
 ⟨h.len,fun k hk=>by
  obtain⟨b,off,rfl,hc1⟩:=h.cells k hk;exact⟨b,off,rfl,hc.cell (p:=⟨b,off+k,none⟩) hc1 (hn ⟨b,off,none⟩ rfl)⟩⟩
theorem Zhv (hn:nx<=549755813888)(ev:Ev):HapG K n (fun _=>True) room w0 mb fs nx ev:=by
 intro o W m V h;obtain⟨P,hP⟩:∃ P:Ending->World->Prop,P=fun x w'=>x=.returned (.tuple #[]) /\
  ∃ o' m' V',SatE K n (fun _=>True) room w0 mb fs nx w' o' m' V'/\m'.waits=m.waits/\m'.calls=m.calls/\(m'.d.pool.many<=m.d.pool.many\/m'.d.pool.many<=fs.length*2^n)/\ChgX NoB o o' W w':=⟨_,rfl⟩
 rw[<- hP];obtain⟨W1,g7⟩:∃ W1,W1=W.alloc (.cells #[.int .i64 ev.after,.int .i64 ev.kind,.int .i64 ev.level] 144):=⟨_,rfl⟩;have gg:Below W.heap.size W W1:=by rw[g7];exact Zaf W _
 obtain⟨bx,g0⟩:∃ q,q=W.heap.size:=⟨_,rfl⟩;have gz:Hid (Box o W1 bx (.cells #[.int .i64 ev.after,.int .i64 ev.kind,.int .i64 ev.level] 144 (0,0))):=Hd ⟨by rw[g7,g0];exact heap_alloc_new W _,h.lt.none (by rw[g0];exact Nat.le_refl _)⟩;have h1:=h.below gg
 have HP:Hid (∀ o' w' m' V',HapS n room w0 mb fs nx o W1 m o' w' m' V'->P (.returned (.tuple #[])) w'):=Hd (by
  intro o' w' m' V' hh;rw[hP];exact⟨rfl,o',m',V',hh.sat.full,hh.waits,hh.calls,hh.many,(ChgX.of_below gg o NoB).trans (ChgX.of_chg hh.chg NoB) (fun _ _ e=>e)⟩)
 obtain⟨s,hs⟩:=h1.is;obtain⟨c0,c1,c2,c3,c4,c5,f0⟩:=cells6 hs.blk;have gy:=Hd (wclear h1 hs (fun _ _ _ _ _=>False));have H1:=Hd h1;obtain⟨kd,gq⟩:∃ z,z=ev.kind:=⟨_,rfl⟩;obtain⟨lv,go⟩:∃ z,z=ev.level:=⟨_,rfl⟩;obtain⟨af,gu⟩:∃ z,z=ev.after:=⟨_,rfl⟩;have HN:=Hd hn;unfold evA;rw[<- gq,<- go,<- gu] at gz g7 ⊢;have HW:=Hd g7;have HX:=Hd g0;clear h h1 hs hP gg g0 gq go gu hn g7
 go_enter func269,ntmps269
 go_upto_region 1 with fail;rw[<- HW.out,<- HX.out];go_wp2_with fail;refine gy.out.mono ?_;rintro x w1 ⟨rfl,g1,g2,g3⟩;have g4:=Hd (H1.out.cleared g1 g2 g3);have HB2:=Hd (gz.out.chg g2);have HG:=Hd g1;have gj:Hid (Chg (fun _=>True) o o W1 w1):=Hd g2.any;have b1:w1.cell? ⟨bx,1,none⟩=some (.int .i64 kd):=HB2.out.cell 1;have b2:w1.cell? ⟨bx,2,none⟩=some (.int .i64 lv):=HB2.out.cell 2;clear c0 c1 c2 c3 c4 c5 f0 gy g1 g2 g3;obtain⟨c0,c1,c2,c3,c4,c5,f0⟩:=cells6 HG.out.blk
 by_cases k1:kd=1
 . subst k1;have HC:=Hd (Zra g4.out HG.out);go_wp2_with fail;refine HC.out.mono ?_;rintro x w2 ⟨q,rfl,o',m',V',hh⟩;have HF:=Hd (HP.out o' w2 m' V' ⟨hh.sat,hh.waits,hh.calls,gj.out.trans hh.chg,hh.many⟩);clear hh;go_wp2_with fail;refine bodyPost_end (results_none rfl _ _ _) rfl ?_;exact HF.out
 .
  have e1:(kd == 1)=false:=by simp[k1]
  by_cases k2:kd=2
  .
   subst k2;clear k1 e1;have HC:=Hd (Zte (g4.out.below (Zah w1 1)) (HG.out.below g4.out.lt (Zah w1 1)) HN.out lv);go_upto_region 13 with fail;refine Zap (fun W:World=>W=w1.drew) true 6 [(0,false),(1,false),(2,false),(3,false),(4,false),(5,false),(6,true)] (by kernel_rfl) (by kernel_rfl) rfl ?_;simp only[planned,Zc7]
   iterate 6
    refine Zaq rfl ?_;apply Exists.intro;refine⟨fun w' hw=>?_,?_⟩
    . subst hw;go_simp;rfl
    simp only[Zai]
   refine Zdb rfl (by go_simp) (HC.out.mono (R':=fun e w'=>∃ v,e=.returned v/\∃ o' m' V',HapS n room w0 mb fs nx o w1.drew m o' w' m' V') (fun e w' h=>by obtain⟨q,e1,h2⟩:=h;exact⟨_,e1,h2⟩)) ?_;rintro v w2 ⟨o',m',V',hh⟩;simp only[Zai];refine Zbp ?_;have HF:=Hd (HP.out o' w2 m' V' ⟨hh.sat,hh.waits,hh.calls,gj.out.trans ((Chg.of_below (Zah w1 1) _ _).trans hh.chg),hh.many⟩);clear hh;go_wp2_with fail;refine bodyPost_end (results_none rfl _ _ _) rfl ?_;exact HF.out
  .
   have e2:(kd == 2)=false:=by simp[k2]
   clear k1 k2;have gb:m.d.vars.length<=64:=g4.out.ok.store.small;have HO:=Hd (Zgs HG.out.store g4.out.lt gb);go_wp2_with fail;refine HO.out.mono ?_;rintro x w2 ⟨v,rfl,g8,gt⟩;obtain⟨zs,ga⟩:∃ zs,zs=m.d.vars.map Int.ofNat:=⟨_,rfl⟩;have gA:zs.length<=64:=by rw[ga,List.length_map];exact gb
   rw[<- ga] at g8;obtain⟨a,c,rfl,ha,gn⟩:=g8.sliceIs (by omega);have HT:=Hd (Zn2 a c zs w2 ha (by omega));have gD:Hid (SliceIs w2 (.slice a zs.length c) zs):=Hd ⟨a,c,rfl,ha,gn⟩;have g9:=Hd gt;have gI:=Hd gA;clear g8 gt ga ha gn gb c0 c1 c2 c3 c4 c5 f0 b1 b2 HO;go_wp2_with fail;refine HT.out.mono ?_;rintro x w3 ⟨vt,rfl,gB,gf⟩;obtain⟨at',ct',gl,q1,q2⟩:=gB;rw[List.length_reverse] at gl;subst gl;have gv:=Hd (Zl3 (.slice a zs.length c) (.slice at' zs.length ct') zs zs.reverse w3 (gD.out.below gf) ⟨at',ct',by rw[List.length_reverse],q1,q2⟩ (by omega) (by simp;omega));have gk:=Hd gf;clear gf HT q1 q2;go_wp2_with fail;refine gv.out.mono ?_;rintro x w4 ⟨vr,rfl,g6,gs⟩;obtain⟨rs,gm⟩:∃ rs,rs=Zed zs zs.reverse:=⟨_,rfl⟩;obtain⟨er,gr⟩:∃ z,z=Zdj zs zs.reverse:=⟨_,rfl⟩;rw[<- gm] at g6;rw[<- gr];have g0:Below w1.heap.size w1 w4:=g9.out.trans ((gk.out.trans (gs.mono gk.out.size)).mono g9.out.size);have gd:=g6.lt;have gC:rs.length<=9223372036854775807:=Zpd g6;obtain⟨ar,cr,rfl,hi,_⟩:=g6.sliceIs gC
   have gi:Hid (∃ o' m' V',HapS n room w0 mb fs nx o w1 m o' w4 m' V'/\Za2 w4 ar rs/\(∀ x,ar=some x->o' x.block=none)):=Hd ⟨o,m,V,(⟨g4.out.below g0,rfl,rfl,Chg.of_below g0 _ _,.inl (Nat.le_refl _)⟩:HapS n room w0 mb fs nx o w1 m o w4 m V),hi,fun x hx=>by
    subst hx;refine g4.out.lt.none ?_;have h1:=(gd _ rfl).1;have h2:=g9.out.size;have h3:=gk.out.size;omega⟩
   clear gr gm g6 gs g0 gd hi gv;go_wp2_with fail
   go_loopw [30] (fun s30 wr=>∃ j:Nat,j<=rs.length/\s30=.int .i64 j/\Hid (∃ o' m' V',HapS n room w0 mb fs nx o w1 m o' wr m' V'/\Za2 wr ar rs/\(∀ x,ar=some x->o' x.block=none))) (fun s30 _=>rs.length-(intOf s30).toNat)
   case atStart=>exact⟨0,Nat.zero_le _,rfl,gi⟩
   case round =>
    obtain⟨j,hj,rfl,HH⟩:=hrel;obtain⟨oj,mj,Vj,hh,hi,gc⟩:=HH.out
    by_cases gp:j<rs.length
    .
     obtain⟨b,off,rfl,g5⟩:=hi.cells j gp;obtain⟨s',hs'⟩:=hh.sat.is;obtain⟨c0,c1,c2,c3,c4,c5,f0⟩:=cells6 hs'.blk;have gH:(j:Int)<rs.length:=by omega
     obtain⟨z,hz⟩:∃ z,z=at0 rs j:=⟨_,rfl⟩;rw[<- hz] at g5;have HC:=Hd (Zte hh.sat hs' HN.out z);have gF:=Hd hh;have gE:=Hd hi;have gw:=Hd gc;have ge:b<wr.heap.size:=Zab g5;have gG:=Hd ge;have gx:=Hd gp;clear hh hi gc hs' HH gi hz ge;go_wp2_with fail;refine HC.out.mono ?_;rintro x w5 ⟨q,rfl,o5,m5,V5,h5⟩;have gh:=Hd (And.intro (gF.out.trans h5) (And.intro (gE.out.chg h5.chg gw.out) (fun x (hx:some _=some x)=>h5.chg.alien' (by cases hx;exact gG.out) (gw.out x hx))));clear h5 c0 c1 c2 c3 c4 c5 f0 g5;go_wp2_with fail;go_roundw
     case rel=>exact⟨j+1,Nat.succ_le_of_lt gx.out,by go_num,Hd ⟨_,_,_,gh.out.1,gh.out.2.1,gh.out.2.2⟩⟩
     case measure =>
      have:=gx.out;simp[intOf];omega
    .
     obtain rfl:j=rs.length:=by omega
     have HF:=Hd (HP.out oj wr mj Vj ⟨hh.sat,hh.waits,hh.calls,gj.out.trans hh.chg,hh.many⟩);clear hh hi gc HH gi;go_wp2_with fail;refine bodyPost_end (results_none rfl _ _ _) rfl ?_;exact HF.out
end
open Go.RowKit
section
variable {K:Law}{n:Nat}{Od:List Nat->Prop}{room:Nat}{w0 w w':World}{mb:Nat}{fs:List (Int×BF)}{nx:Int}{o o':Own}{m m':ManD}{V V':Nat->BF}
structure NewH (K:Law)(n:Nat)(Od:List Nat->Prop)(room:Nat)(w0:World)(mb:Nat)(fs:List (Int×BF))(nx:Int)(o:Own)(w:World)(m:ManD)(V:Nat->BF)(F:BF)(o':Own)(w':World)(m':ManD):Prop where
 sat:SatE K n Od room w0 mb (fs++[(nx,F)]) (nx+1) w' o' m' V
 waits:m'.waits=m.waits
 calls:m'.calls=m.calls
 nodes:Zaa m'.d=Zaa m.d
 vars:m'.d.vars=m.d.vars
 many:m'.d.pool.many=m.d.pool.many
 chg:Chg (fun _=>True) o o' w w'
theorem Zjk (hK:Zbu K)(h:SatE K n Od room w0 mb fs nx w o m V)(hn:nx<549755813888){k:Int}{F:BF}(hk:(k,F)∈fs) :
 Calls prog 119 #[.pointer (some ⟨mb,0,none⟩),.int .i64 k] w fun x w'=>x=.returned (.tuple #[.int .i64 nx,.int .i64 0])/\∃ o' m',NewH K n Od room w0 mb fs nx o w m V F o' w' m':=by
 obtain⟨f,hf,rfl⟩:=h.find hk;obtain⟨s,hs⟩:=h.is;obtain⟨c0,c1,c2,c3,c4,c5,f0⟩:=cells6 hs.blk;have hl:=Zem hs h.ok.handles.nodup hf;have hnx:=h.next
 have HG:=Hd (Zlp hK h.is h.lt h.ok f (h.ok.handles.ok _ hf) (by rw[hnx];omega));have H:=Hd h;rw[hnx] at HG;clear hs h hf hk hnx
 go_enter func119,ntmps119
 go_wp2_with fail;refine HG.out.mono ?_;rintro x w1 ⟨rfl,o',m',hg⟩;have HQ:Hid (NewH K n Od room w0 mb fs nx o w m V (ef V f) o' w1 m'):=Hd ⟨H.out.gave hg,hg.waits,hg.calls,hg.nodes,hg.vars,hg.many,hg.chg⟩;clear hg;go_wp2_with fail
 go_ret2
 exact⟨rfl,_,_,HQ.out⟩
theorem Zyq {N:Nat->Option BN}{e:Nat}(h:okE N e):okE N (enot e):=by
 unfold okE at h ⊢;rw[Zfu];exact h
theorem Zkz (hK:Zbu K)(h:SatE K n Od room w0 mb fs nx w o m V)(hn:nx<549755813888){k:Int}{F:BF}(hk:(k,F)∈fs) :
 Calls prog 39 #[.pointer (some ⟨mb,0,none⟩),.int .i64 k] w fun x w'=>x=.returned (.tuple #[.int .i64 nx,.int .i64 0])/\∃ o' m',NewH K n Od room w0 mb fs nx o w m V (fun ρ => !F ρ) o' w' m':=by
 obtain⟨f,hf,rfl⟩:=h.find hk;obtain⟨s,hs⟩:=h.is;obtain⟨c0,c1,c2,c3,c4,c5,f0⟩:=cells6 hs.blk;have hl:=Zem hs h.ok.handles.nodup hf;have hnx:=h.next
 have g0:=h.ok.handles.ok _ hf;have g1:f<eMax:=by
  obtain⟨s2,h2⟩:=hs.store;have:=h2.edge_lt g0;unfold eMax;omega
 have HG:=Hd (Zlp hK h.is h.lt h.ok (enot f) (Zyq g0) (by rw[hnx];omega));have g2:=Hd (Zly f w g1);have H:=Hd h;rw[hnx] at HG;clear hs h hf hk hnx g0 g1
 go_enter func39,ntmps39
 go_wp2_with fail;refine g2.out.mono ?_;rintro x w1 ⟨rfl,rfl⟩;go_wp2_with fail;refine HG.out.mono ?_;rintro x w1 ⟨rfl,o',m',hg⟩
 have HQ:Hid (NewH K n Od room w0 mb fs nx o w m V (fun ρ => !ef V f ρ) o' w1 m'):=Hd (by
  have e:(fun ρ => !ef V f ρ)=ef V (enot f):=by funext ρ;rw[Zg0]
  rw[e];exact⟨H.out.gave hg,hg.waits,hg.calls,hg.nodes,hg.vars,hg.many,hg.chg⟩)
 clear hg;go_wp2_with fail
 go_ret2
 exact⟨rfl,_,_,HQ.out⟩
theorem SatE.nofind (h:SatE K n Od room w0 mb fs nx w o m V){k:Int}(hk:∀ p∈fs,p.1≠k):∀ f,(k,f)∉m.hs:=by
 intro f hf;refine hk (k,ef V f) ?_ rfl;rw[<- h.hs];exact List.mem_map.2 ⟨(k,f),hf,rfl⟩
theorem Znu (h:SatE K n Od room w0 mb fs nx w o m V){k:Int}{F:BF}(hk:(k,F)∈fs) :
 Calls prog 44 #[.pointer (some ⟨mb,0,none⟩),.int .i64 k] w fun x w'=>x=.returned (.bool true)/\w=w':=by
 obtain⟨f,hf,rfl⟩:=h.find hk;obtain⟨s,hs⟩:=h.is;obtain⟨c0,c1,c2,c3,c4,c5,f0⟩:=cells6 hs.blk;have hl:=Zem hs h.ok.handles.nodup hf;clear hs h hf hk
 go_enter func44,ntmps44
 go_wp2_with fail;go_ret;exact⟨rfl,rfl⟩
theorem Zp2 (h:SatE K n Od room w0 mb fs nx w o m V){k:Int}(hk:∀ p∈fs,p.1≠k) :
 Calls prog 44 #[.pointer (some ⟨mb,0,none⟩),.int .i64 k] w fun x w'=>x=.returned (.bool false)/\w=w':=by
 have g0:=h.nofind hk;obtain⟨s,hs⟩:=h.is;obtain⟨c0,c1,c2,c3,c4,c5,f0⟩:=cells6 hs.blk;have hl:=Zyk hs g0;clear hs h g0 hk
 go_enter func44,ntmps44
 go_wp2_with fail;go_ret;exact⟨rfl,rfl⟩
end
open Go.RowKit
def delK {α:Type}(k:Int)(l:List (Int×α)):List (Int×α):=l.filter fun p=>decide (p.1≠k)
theorem Zjb {α:Type}{k:Int}{l:List (Int×α)}(h:∀ p∈l,p.1≠k):delK k l=l:=by
 unfold delK;rw[List.filter_eq_self];intro p hp;simp[h p hp]
theorem Zfd {α:Type}{x:Int×α}{l:List (Int×α)}(h:((x::l).map Prod.fst).Nodup):∀ p∈l,p.1≠x.1:=by
 intro p hp e;rw[List.map_cons,List.nodup_cons] at h;exact h.1 (List.mem_map.2 ⟨p,hp,e⟩)
theorem Zib {α:Type}{x:Int×α}{l:List (Int×α)}(h:((x::l).map Prod.fst).Nodup):delK x.1 (x::l)=l:=by
 have h1:=Zjb (Zfd h);unfold delK at h1 ⊢;rw[List.filter_cons_of_neg (by simp),h1]
theorem Zic {α:Type}{k:Int}{x:Int×α}{l:List (Int×α)}(h:x.1≠k):delK k (x::l)=x::delK k l:=by
 unfold delK;rw[List.filter_cons_of_pos (by simp[h])]
theorem Zhe {α:Type}{k:Int}:∀ (l:List (Int×α)) (j:Nat) (hj:j<l.length),(l.map Prod.fst).Nodup->l[j].1=k->l.eraseIdx j=delK k l
 | x::l,0,_,hn,hk=>by
   have e:x.1=k:=hk;subst e;rw[Zib hn];rfl
 | x::l,j+1,hj,hn,hk=>by
   have hj':j<l.length:=by simpa using hj
   have g0:l[j].1=k:=by simpa using hk
   have hx:x.1≠k:=by
    intro e;exact Zfd hn l[j] (List.getElem_mem hj') (g0.trans e.symm)
   have g1:(l.map Prod.fst).Nodup:=by rw[List.map_cons,List.nodup_cons] at hn;exact hn.2
   rw[Zic hx,List.eraseIdx_cons_succ,Zhe l j hj' g1 g0]
theorem Zpt {α β:Type}(k:Int)(l:List (Int×α))(g:Int×α->Int×β)(hg:∀ p,(g p).1=p.1):(delK k l).map g=delK k (l.map g):=by
 unfold delK;rw[List.filter_map];congr 1;refine List.filter_congr fun p _=>?_
 simp[hg]
theorem Zxy {k:Int}{l:List (Int×Value)}(hn:(l.map Prod.fst).Nodup){v:Value}(hk:(k,v)∈l):delL k l=delK k l:=by
 unfold delL;cases e:Zdd k l 0 with
 | none =>
   have h1:=Zc5 hn hk;unfold getL at h1;rw[e] at h1;cases h1
 | some p =>
   obtain⟨j,u⟩:=p;have h2:=Zct e;obtain⟨q,h3,h4⟩:=h2;have hq:j=q:=by omega
   subst hq;obtain⟨h5,h6⟩:=List.getElem?_eq_some_iff.1 h4;exact Zhe l j h5 hn (by rw[h6])
theorem Zit {α:Type}{k:Int}{l:List (Int×α)}{p:Int×α}:p∈delK k l↔p∈l/\p.1≠k:=by
 unfold delK;rw[List.mem_filter];simp
theorem Zqd {k:Int}{f:Nat}(h1:1<k):∀ (hs:List (Int×Nat)),(hs.map Prod.fst).Nodup->(k,f)∈hs->∀ i,Zb3 hs i=Zb3 (delK k hs) i+(if f/2=i then 1 else 0)
 | [],_,h,_=>by cases h
 | x::l,hn,hm,i=>by
   have hn':(l.map Prod.fst).Nodup:=by rw[List.map_cons,List.nodup_cons] at hn;exact hn.2
   by_cases e:x.1=k
   .
    have hx:x=(k,f):=by
     rcases List.mem_cons.1 hm with h|h
     . exact h.symm
     . exact((Zfd hn _ h) e.symm).elim
    subst hx;rw[Zib hn];unfold Zb3
    by_cases e2:f/2=i
    . rw[List.filter_cons_of_pos (by simp[h1,e2]),List.length_cons,if_pos e2]
    . rw[List.filter_cons_of_neg (by simp[e2]),if_neg e2];rfl
   .
    have g0:(k,f)∈l:=by
     rcases List.mem_cons.1 hm with h|h
     . rw[<- h] at e;exact(e rfl).elim
     . exact h
    have ih:=Zqd h1 l hn' g0 i;rw[Zic e];unfold Zb3 at ih ⊢
    by_cases e3:(decide (1<x.1)&&x.2/2 == i)=true
    . rw[List.filter_cons_of_pos (p:=fun p:Int×Nat=>decide (1<p.1)&&p.2/2 == i) e3,List.filter_cons_of_pos (p:=fun p:Int×Nat=>decide (1<p.1)&&p.2/2 == i) e3,List.length_cons,List.length_cons];omega
    . rw[List.filter_cons_of_neg (p:=fun p:Int×Nat=>decide (1<p.1)&&p.2/2 == i) e3,List.filter_cons_of_neg (p:=fun p:Int×Nat=>decide (1<p.1)&&p.2/2 == i) e3];exact ih
theorem Zng {m:ManD}{d':Zae}{k:Int}{f:Nat}(h:Zb5 m)(r:Zfo m.d d' f (-1))(hk:(k,f)∈m.hs)(h1:1<k)(h0:Zaa m.d 0=none):Zb5 { m with d:=d',hs:=delK k m.hs }:=by
 have g1:∀ {p:Int×Nat},p∈delK k m.hs->p∈m.hs:=fun hp=>(Zit.1 hp).1
 refine⟨?_,Zit.2 ⟨h.zero,by dsimp only;omega⟩,Zit.2 ⟨h.one,by dsimp only;omega⟩,fun p hp=>h.lt p (g1 hp),h.next,fun p hp=>?_,?_,fun i b hb=>?_⟩
 . exact h.nodup.sublist ((List.filter_sublist).map _)
 .
  show okE (Zaa d') p.2
  rw[r.nodes];exact h.ok p (g1 hp)
 .
  have h2:(delK k m.hs).length<=m.hs.length:=List.length_filter_le _ _;have h3:=h.len
  show ((delK k m.hs).length:Int)<=m.next
  omega
 .
  have g0:Zaa m.d i=some b:=by
   have:Zaa d' i=some b:=hb;rw[r.nodes] at this;exact this
  have hi:i≠0:=by rintro rfl;rw[h0] at g0;cases g0
  show Zaz d' i=(Zb3 (delK k m.hs) i:Int)
  rw[r.ext i hi,h.refs i b g0,Zqd h1 m.hs h.nodup hk i];unfold toE;split<;>(simp;try omega)
section
variable {K:Law}{n:Nat}{Od:List Nat->Prop}{room:Nat}{w0 w w':World}{mb:Nat}{fs:List (Int×BF)}{nx:Int}{o o':Own}{m m':ManD}{V V':Nat->BF}
theorem Zof {sb:Nat}(h:Zav o w sb m.d)(hlt:Zaj o w)(hk:Zqw m V){k:Int}{f:Nat}(hf:(k,f)∈m.hs)(h1:1<k)(hn:m.next<549755813888) :
 Calls prog 192 #[.pointer (some ⟨sb,0,none⟩),.int .i64 f] w fun x w'=>x=.returned (.int .i64 0)/\∃ d',Zav o w' sb d'/\Zaj o w'/\Zfo m.d d' f (-1)/\Chg Zar o o w w':=by
 have g0:∀ y b,Zaa m.d y=some b->Zaz m.d y<1099511627776:=fun y b _=>by have:=Zw9 hk.handles y;omega
 have g1:=hk.handles.ok _ hf;obtain⟨s,h⟩:=h;have g2:=h.edge_lt g1;rcases g1 with h0|⟨b,hb⟩
 . refine(Zki h hlt hk.store.live f (by unfold eMax;omega) h0).mono ?_;rintro e w' ⟨d',h1,h2,h3,h4,h5⟩;exact⟨h1,d',⟨s,h2⟩,h3,h4,h5⟩
 .
  have g4:=h.pool.top;have g3:=h.pool.room;refine(Zkh h hlt hk.store.live (Zw7 hk.store) f (b:=b) hb g0 ?_ (fun y c hc=>?_)).mono ?_
  . have h2:=hk.handles.refs (enode f) b hb;have h3:0<Zb3 m.hs (f/2):=Zqe hf h1;have h4:Zaz m.d (enode f)=(Zb3 m.hs (f/2):Int):=h2;omega
  . have h1:=hk.store.live.cnt.le hc;have h2:=g0 y c hc;omega
  . rintro e w' ⟨d',h1,h2,h3,h4,h5⟩;exact⟨h1,d',⟨s,h2⟩,h3,h4,h5⟩
end
open Go.RowKit
def Ze8 {α:Type}(l:List (Int×α))(ks:List Int):List (Int×α):=ks.foldl (fun l k=>if 1<k then delK k l else l) l
theorem Zkr {α:Type}{l:List (Int×α)}{ks:List Int}{j:Nat}(hj:j<ks.length):Ze8 l (ks.take (j+1))=if 1<at0 ks j then delK (at0 ks j) (Ze8 l (ks.take j)) else Ze8 l (ks.take j):=by
 unfold Ze8;rw[List.take_succ_eq_append_getElem hj,List.foldl_append,Zca hj];rfl
section
variable {K:Law}{n:Nat}{Od:List Nat->Prop}{room:Nat}{w0 w w':World}{mb:Nat}{fs:List (Int×BF)}{nx:Int}{o o':Own}{m m':ManD}{V V':Nat->BF}
structure Zil (K:Law)(n:Nat)(Od:List Nat->Prop)(room:Nat)(w0:World)(mb:Nat)(fs:List (Int×BF))(nx:Int)(o:Own)(w:World)(m:ManD)(V:Nat->BF)(o':Own)(w':World)(m':ManD):Prop where
 sat:SatE K n Od room w0 mb fs nx w' o' m' V
 waits:m'.waits=m.waits
 calls:m'.calls=m.calls
 nodes:Zaa m'.d=Zaa m.d
 many:m'.d.pool.many=m.d.pool.many
 chg:Chg (fun _=>True) o o' w w'
theorem Zil.trans {fs' fs'':List (Int×BF)}{o'':Own}{w'':World}{m'':ManD}(h:Zil K n Od room w0 mb fs' nx o w m V o' w' m')(h':Zil K n Od room w0 mb fs'' nx o' w' m' V o'' w'' m''):Zil K n Od room w0 mb fs'' nx o w m V o'' w'' m'' :=
 ⟨h'.sat,h'.waits.trans h.waits,h'.calls.trans h.calls,h'.nodes.trans h.nodes,h'.many.trans h.many,h.chg.trans h'.chg⟩
theorem Zvg (hK:Zbu K)(h:SatE K n Od room w0 mb fs nx w o m V){k:Int}{f:Nat}(hf:(k,f)∈m.hs)(h1:1<k){s:ManW}(hs:Zb2 (K m.d V) o w mb m s){w1:World}{d':Zae}(hst:Zav o w1 s.sb d')(hl1:Zaj o w1)(hr:Zfo m.d d' f (-1))(hc1:Chg Zar o o w w1) :
 Zb2 (K m.d V) o w1 mb { m with d:=d' } s/\∃ w2,(Builtin.delete_ #[155,3] 0 #[.map (some s.hb),.int .i64 k]).run prog w1=.ok (.tuple #[]) w2/\Zil K n Od room w0 mb (delK k fs) nx o w m V o w2 { m with d:=d',hs:=delK k m.hs }:=by
 have g0:=hs.setStore h.lt hst hc1;refine⟨g0,?_⟩;obtain⟨w2,g3,g5,g1⟩:=g0.map.delete kI underlying155 k 0;refine⟨w2,g3,?_⟩;have he:delL k (encH m.hs)=encH (delK k m.hs):=by
  rw[Zxy (Zd8 h.ok.handles.nodup) (v:=.int .i64 (f:Nat)) (List.mem_map.2 ⟨(k,f),hf,rfl⟩)];exact(Zpt k m.hs (fun p=>(p.1,Value.int .i64 (p.2:Nat))) (fun _=>rfl)).symm
 have g4:Zcl w2 s.hb (Value.int .i64) (encH (delK k m.hs)):=by rw[<- he];exact g5
 have g7:=g0.setMap hl1 g4 g1;have g6:Zaj o w2:=hl1.mono g1.size;have g2:Chg (fun _=>True) o o w w2:=hc1.any.grown g1 (fun g hg=>by cases hg;exact⟨_,g0.ownh,trivial⟩);refine⟨⟨⟨s,g7.mono fun op a b c r q=>hK.same _ _ _ _ _ _ _ _ hr.vars hr.level hr.nodes q⟩,g6,⟨hr.ok h.ok.store,Zng h.ok.handles hr hf h1 h.ok.store.dag.none0⟩,?_,?_,?_,h.next,?_,h.chg.lower (ChgX.of_chg g2 NoB) (fun _ e=>e.elim)⟩,rfl,rfl,hr.nodes,hr.many,g2⟩
 .
  show d'.vars.length=n
  rw[hr.vars];exact h.vars
 .
  show Od d'.vars
  rw[hr.vars];exact h.od
 .
  show d'.pool.room=room
  rw[hr.room];exact h.room
 .
  show (delK k m.hs).map (fun p=>(p.1,ef V p.2))=delK k fs
  rw[Zpt k m.hs (fun p=>(p.1,ef V p.2)) (fun _=>rfl),h.hs]
theorem Zg3 (hK:Zbu K)(h:SatE K n Od room w0 mb fs nx w o m V)(hn:nx<549755813888){a:Option Addr}{c:Nat}{ks:List Int}(hks:Za2 w a ks)(hno:∀ x,a=some x->o x.block=none)
 (hin:∀ j,j<ks.length->∃ F,(at0 ks j,F)∈Ze8 fs (ks.take j)) :
 Calls prog 118 #[.pointer (some ⟨mb,0,none⟩),.slice a ks.length c] w fun x w'=>x=.returned (.int .i64 0)/\∃ o' m',Zil K n Od room w0 mb (Ze8 fs ks) nx o w m V o' w' m':=by
 have gj:=hks.len;have g5:Hid (∃ o' m',Zil K n Od room w0 mb (Ze8 fs (ks.take 0)) nx o w m V o' w m'/\Za2 w a ks/\(∀ x,a=some x->o' x.block=none)):=Hd ⟨o,m,⟨h,rfl,rfl,rfl,rfl,Chg.refl _ _ _⟩,hks,hno⟩;have gg:=Hd hin;have HN:=Hd hn;have gf:=Hd hK;clear h hn hks hno hin hK
 go_enter func118,ntmps118
 go_wp2_with fail
 go_loopw [13] (fun s13 wr=>∃ j:Nat,j<=ks.length/\s13=.int .i64 j/\Hid (∃ o' m',Zil K n Od room w0 mb (Ze8 fs (ks.take j)) nx o w m V o' wr m'/\Za2 wr a ks/\(∀ x,a=some x->o' x.block=none))) (fun s13 _=>ks.length-(intOf s13).toNat)
 case atStart=>exact⟨0,Nat.zero_le _,rfl,g5⟩
 case round =>
  obtain⟨j,hj,rfl,HH⟩:=hrel;obtain⟨oj,mj,hh,hi,hno⟩:=HH.out
  by_cases g6:j<ks.length
  .
   obtain⟨b,off,rfl,g3⟩:=hi.cells j g6;obtain⟨s,hs⟩:=hh.sat.is;obtain⟨c0,c1,c2,c3,c4,c5,f0⟩:=cells6 hs.blk;have gk:(j:Int)<ks.length:=by omega
   obtain⟨z,hz⟩:∃ z,z=at0 ks j:=⟨_,rfl⟩;obtain⟨F,hF⟩:=gg.out j g6;rw[<- hz] at hF g3;obtain⟨f,hf,gb⟩:=hh.sat.find hF;have hl:=Zem hs hh.sat.ok.handles.nodup hf;have g8:=Hd hh;have ge:=Hd hi;have g7:=Hd hno;have gh:Hid (b<wr.heap.size):=Hd (Zab g3);have g2:=Hd g6;have HZ:=Hd hz;have HS:=Hd hs;have HF:=Hd hf
   by_cases h1:z>1
   .
    have HD:=Hd (Zof hs.store hh.sat.lt hh.sat.ok hf h1 (by rw[hh.sat.next];exact HN.out));have H1:=Hd h1;clear hh hi hno hs HH g5 hz hF hf gb;go_wp2_with fail;refine HD.out.mono ?_;rintro x w1 ⟨rfl,d',g9,ga,hr,gc⟩;obtain⟨gd,w2,gi,g4⟩:=Zvg gf.out g8.out.sat HF.out H1.out HS.out g9 ga hr gc;obtain⟨e0,e1,e2,e3,e4,e5,g0⟩:=cells6 gd.blk
    have g1:Hid (Zil K n Od room w0 mb (Ze8 fs (ks.take (j+1))) nx o w m V oj w2 { mj with d:=d',hs:=delK z mj.hs }/\Za2 w2 (some ⟨b,off,none⟩) ks/\(∀ x,some (⟨b,off,none⟩:Addr)=some x->oj x.block=none)):=Hd ⟨by
     rw[Zkr g2.out,<- HZ.out,if_pos H1.out];exact g8.out.trans g4,ge.out.chg g4.chg g7.out,fun x hx=>g4.chg.alien' (by cases hx;exact gh.out) (g7.out x hx)⟩
    clear gd g9 ga hr gc g4 c0 c1 c2 c3 c4 c5 f0 g3 hl;go_wp2_with fail;go_roundw
    case rel=>exact⟨j+1,Nat.succ_le_of_lt g2.out,by go_num,Hd ⟨_,_,g1.out.1,g1.out.2.1,g1.out.2.2⟩⟩
    case measure =>
     have:=g2.out;simp[intOf];omega
   .
    have g1:Hid (Zil K n Od room w0 mb (Ze8 fs (ks.take (j+1))) nx o w m V oj wr mj/\Za2 wr (some ⟨b,off,none⟩) ks/\(∀ x,some (⟨b,off,none⟩:Addr)=some x->oj x.block=none)):=Hd ⟨by
     rw[Zkr g2.out,<- HZ.out,if_neg h1];exact g8.out,ge.out,g7.out⟩
    clear hh hi hno hs HH g5 hz hF hf gb;go_wp2_with fail;go_roundw
    case rel=>exact⟨j+1,Nat.succ_le_of_lt g2.out,by go_num,Hd ⟨_,_,g1.out.1,g1.out.2.1,g1.out.2.2⟩⟩
    case measure =>
     have:=g2.out;simp[intOf];omega
  .
   obtain rfl:j=ks.length:=by omega
   have HF:Hid (∃ o' m',Zil K n Od room w0 mb (Ze8 fs ks) nx o w m V o' wr m'):=Hd ⟨oj,mj,by rw[List.take_length] at hh;exact hh⟩;clear hh hi hno HH g5;go_wp2_with fail;go_ret;exact⟨rfl,HF.out⟩
end
open Go.RowKit
section
variable {K:Law}{n:Nat}{Od:List Nat->Prop}{room:Nat}{w0 w w':World}{mb:Nat}{fs:List (Int×BF)}{nx:Int}{o o':Own}{m m':ManD}{V V':Nat->BF}
structure Swapped (K:Law)(n room:Nat)(w0:World)(mb:Nat)(fs:List (Int×BF))(nx:Int)(k:Nat)(o:Own)(w:World)(m:ManD)(o':Own)(w':World)(m':ManD)(V':Nat->BF):Prop where
 sat:SatE K n (fun l=>l=(Zd6 m.d k).vars) room w0 mb fs nx w' o' m' V'
 waits:m'.waits=m.waits
 calls:m'.calls=m.calls
 dead:m'.d.dead=0
 chg:Chg (fun _=>True) o o' w w'
theorem Zrp (h:SatE K n Od room w0 mb fs nx w o m V){k:Nat}(hk1:k+1<n)(hn:nx<=549755813888)(hr:3*(fs.length*2^n)<=room) :
 Calls prog 183 #[.pointer (some ⟨mb,0,none⟩),.int .i64 k] w fun e w'=>e=.returned (.int .i64 0)/\∃ o' m' V',Swapped K n room w0 mb fs nx k o w m o' w' m' V':=by
 refine(Zpa h hk1 hn).mono ?_;rintro e w' ⟨o',m',V',hm⟩;obtain⟨d0,cr,⟨rfl,e1,e2,g0⟩|⟨rfl,so⟩⟩:=hm.way
 . exfalso;have h1:=hm.sat.few (by rw[e1];exact cr.dead);have h2:=hm.sat.room;rw[e1] at h1 h2;omega
 . refine⟨rfl,o',m',V',⟨hm.sat.withOd ?_,hm.waits,hm.calls,so.dead,hm.chg⟩⟩;rw[so.vars];unfold Zd6;dsimp only;rw[cr.vars]
theorem Zo9 (h:SatE K n Od room w0 mb fs nx w o m V){k l:Int}{F G:BF}(hk:(k,F)∈fs)(hl:(l,G)∈fs) :
 Calls prog 58 #[.pointer (some ⟨mb,0,none⟩),.int .i64 k,.int .i64 l] w fun x w'=>∃ b:Bool,x=.returned (.tuple #[.bool b,.int .i64 0])/\(b=true↔F=G)/\w=w':=by
 obtain⟨f,hf,rfl⟩:=h.find hk;obtain⟨g,hg,rfl⟩:=h.find hl;refine(Zwi h.is h.ok.handles.nodup hf hg).mono ?_;rintro x w' ⟨rfl,rfl⟩;refine⟨_,rfl,?_,rfl⟩;rw[beq_iff_eq];exact⟨fun e=>by rw[e],fun e=>h.ok.store.dag.canon (h.ok.handles.ok _ hf) (h.ok.handles.ok _ hg) e⟩
end
open Go.RowKit
theorem Zjo {α:Type}{p:Int×α}:∀ {ks:List Int} {l:List (Int×α)},p∈l->p.1∉ks->p∈Ze8 l ks
 | [],l,h,_=>h
 | k::ks,l,h,hn=>by
   show p∈Ze8 (if 1<k then delK k l else l) ks
   simp only[List.mem_cons,not_or] at hn;refine Zjo ?_ hn.2;split
   . exact Zit.2 ⟨h,hn.1⟩
   . exact h
theorem Zve {α:Type}{l r:List (Int×α)}{p:Int×α}(h:((l++p::r).map Prod.fst).Nodup):delK p.1 (l++p::r)=l++r:=by
 rw[List.map_append,List.map_cons,List.nodup_append] at h;obtain⟨h1,h2,h3⟩:=h;have hl:∀ q∈l,q.1≠p.1:=fun q hq e=>h3 q.1 (List.mem_map.2 ⟨q,hq,rfl⟩) p.1 (List.mem_cons_self ..) e
 have hr:∀ q∈r,q.1≠p.1:=fun q hq e=>(List.nodup_cons.1 h2).1 (List.mem_map.2 ⟨q,hq,e⟩)
 have e1:delK p.1 (l++p::r)=delK p.1 l++delK p.1 r:=by
  unfold delK;rw[List.filter_append,List.filter_cons];simp
 rw[e1,Zjb hl,Zjb hr]
theorem Zm5 {α:Type}:∀ (hs l r:List (Int×α)),((l++(hs++r)).map Prod.fst).Nodup->(∀ p∈hs,1<p.1)->Ze8 (l++(hs++r)) (hs.map Prod.fst)=l++r
 | [],l,r,_,_=>rfl
 | p::hs,l,r,hn,h1=>by
   show Ze8 (if 1<p.1 then delK p.1 (l++(p::(hs++r))) else l++(p::(hs++r))) (hs.map Prod.fst)=_
   have hn':((l++p::(hs++r)).map Prod.fst).Nodup:=hn;rw[if_pos (h1 p (List.mem_cons_self ..)),Zve hn'];refine Zm5 hs l r ?_ (fun q hq=>h1 q (List.mem_cons_of_mem _ hq));have:=hn;rw[List.map_append,List.nodup_append] at this ⊢;obtain⟨q1,q2,q3⟩:=this;exact⟨q1,(List.nodup_cons.1 q2).2,fun x hx y hy=>q3 x hx y (List.mem_cons_of_mem _ hy)⟩
section
variable {K:Law}{n:Nat}{Od:List Nat->Prop}{room:Nat}{w0 w w':World}{mb:Nat}{fs:List (Int×BF)}{nx:Int}{o o':Own}{m m':ManD}{V V':Nat->BF}
theorem SatE.fst (h:SatE K n Od room w0 mb fs nx w o m V):fs.map Prod.fst=m.hs.map Prod.fst:=by rw[<- h.hs,List.map_map];rfl
theorem SatE.nodup (h:SatE K n Od room w0 mb fs nx w o m V):(fs.map Prod.fst).Nodup:=by rw[h.fst];exact h.ok.handles.nodup
theorem SatE.range (h:SatE K n Od room w0 mb fs nx w o m V):∀ p∈fs,0<=p.1/\p.1<nx:=by
 intro p hp;rw[<- h.hs] at hp;obtain⟨q,hq,rfl⟩:=List.mem_map.1 hp;rw[<- h.next];exact h.ok.handles.lt q hq
structure B2 (fs:List (Int×BF)):Prop where
 zero:(0,fun _=>false)∈fs
 one:(1,fun _=>true)∈fs
theorem B2.app {fs:List (Int×BF)}(h:B2 fs)(hs:List (Int×BF)):B2 (fs++hs):=⟨List.mem_append_left _ h.zero,List.mem_append_left _ h.one⟩
theorem SatE.gt {hs:List (Int×BF)}(h:SatE K n Od room w0 mb (fs++hs) nx w o m V)(hb:B2 fs):∀ p∈hs,1<p.1:=by
 intro p hp;have h1:=(h.range p (List.mem_append_right _ hp)).1;have h2:=h.nodup;rw[List.map_append,List.nodup_append] at h2;have h3:=fun k hk=>h2.2.2 k hk p.1 (List.mem_map.2 ⟨p,hp,rfl⟩)
 have h4:=h3 0 (List.mem_map.2 ⟨_,hb.zero,rfl⟩);have h5:=h3 1 (List.mem_map.2 ⟨_,hb.one,rfl⟩);omega
theorem Zjl (hK:Zbu K){hs r:List (Int×BF)}(h:SatE K n Od room w0 mb (fs++(hs++r)) nx w o m V)(hb:B2 fs)(hn:nx<549755813888){a:Option Addr}{c:Nat}(hks:Za2 w a (hs.map Prod.fst))(hno:∀ x,a=some x->o x.block=none) :
 Calls prog 118 #[.pointer (some ⟨mb,0,none⟩),.slice a hs.length c] w fun x w'=>x=.returned (.int .i64 0)/\∃ o' m',Zil K n Od room w0 mb (fs++r) nx o w m V o' w' m':=by
 have g0:=h.nodup;have g3:=h.gt hb;have e:Ze8 (fs++(hs++r)) (hs.map Prod.fst)=fs++r:=Zm5 hs fs r g0 (fun p hp=>g3 p (List.mem_append_left _ hp));have:=Zg3 hK h hn (c:=c) hks hno fun j hj=>by
  have g1:j<hs.length:=by simpa using hj
  have e1:at0 (hs.map Prod.fst) j=hs[j].1:=by rw[Zca hj];simp
  refine⟨hs[j].2,?_⟩;rw[e1];refine Zjo (List.mem_append_right _ (List.mem_append_left _ (List.getElem_mem g1))) ?_;rw[List.map_append,List.nodup_append,List.map_append,List.nodup_append] at g0;have hh:=g0.2.1.1;intro hc;obtain⟨i,hi,e2⟩:=List.getElem_of_mem hc;have g2:i<j:=by simp at hi;omega
  rw[List.getElem_take] at e2;exact(List.pairwise_iff_getElem.1 hh) i j (by simp;omega) hj g2 (by rw[e2];simp)
 rw[e,List.length_map] at this;exact this
theorem Zn0 {ws0:List Ev}{lim:Option Nat}{k:Nat}{F:BF}{x:Ending}(hp:Zh8 K n Od room w0 mb fs nx ws0 lim k F o w x w')(hk:k<=2^n)(hr:(fs.length+1)*2^n<=room) :
 ∃ o' m' V',ChgX NoB o o' w w'/\m'.waits <:+ ws0/\x=.returned (.tuple #[.int .i64 nx,.int .i64 0])/\SatE K n Od room w0 mb (fs++[(nx,F)]) (nx+1) w' o' m' V':=by
 obtain⟨o',m',V',h1,h2,⟨h3,_,h4⟩|⟨_,_,_,m0,⟨W,oo,VV,hs⟩,h5,h6⟩⟩:=hp
 . exact⟨o',m',V',h1,h2,h3,h4⟩
 . exfalso;have:=hs.few h5;rw[Nat.add_mul] at hr;omega
theorem Zk2 {M k:Nat}{F:BF}{x:Ending}(hp:Zh8 K n Od room w0 mb fs nx [] (some M) k F o w x w') :
 ∃ o' m' V',ChgX NoB o o' w w'/\(m'.waits=[]/\m'.d.pool.many<=M+k)/\x=.returned (.tuple #[.int .i64 nx,.int .i64 0])/\SatE K n Od room w0 mb (fs++[(nx,F)]) (nx+1) w' o' m' V':=by
 obtain⟨o',m',V',h1,h2,⟨h3,h5,h4⟩|⟨_,h,_⟩⟩:=hp
 . exact⟨o',m',V',h1,⟨by simpa using h2,h5 M rfl⟩,h3,h4⟩
 . cases h
end
open Go.RowKit
def cntT:Nat->(Nat->Bool)->Nat
 | 0,_=>0
 | k+1,f=>cntT k f+(if f k then 1 else 0)
theorem Zey (k:Nat)(f:Nat->Bool):cntT (k+1) f=cntT k f+(if f k then 1 else 0):=rfl
theorem Zsv (f:Nat->Bool):∀ k,cntT k f<=k
 | 0=>Nat.le_refl _
 | k+1=>by
   have:=Zsv f k;rw[Zey];split<;>omega
def opB (op:Int)(n:Nat)(f:Nat->Bool):Bool :=
 if op=1 then true else if op=4 then decide (cntT n f=0) else if op=5 then decide (cntT n f=n) else if op=6 then decide (0<cntT n f) else if op=7 then decide (cntT n f%2=1)
 else if op=8 then (!f 0||f 1) else if op=9 then decide (cntT n f≠1) else if op=10 then iteB (f 0) (f 1) (f 2) else false
def fnT:ExT->BF
 | .nil=>fun _=>false
 | .mk op v n kid=>fun ρ=>if op=3 then ρ v.toNat else opB op n fun i=>fnT (kid i) ρ
def notF (F:BF):BF:=fun ρ => !F ρ
def Znn (op:Int)(F G:BF):BF :=
 if op=5 then Zc6 F G (fun _=>false) else if op=6 then Zc6 F (fun _=>true) G else if op=8 then Zc6 F G (fun _=>true) else if op=7 then Zc6 F (notF G) G else Zc6 F G (notF G)
def accT (op:Int)(kid:Nat->ExT):Nat->BF
 | 0=>fun _=>decide (op=5)
 | k+1=>Znn op (accT op kid k) (fnT (kid k))
theorem Zw4 (kid:Nat->ExT)(ρ:Nat->Bool):∀ k,accT 5 kid k ρ=decide (cntT k (fun i=>fnT (kid i) ρ)=k)
 | 0=>rfl
 | k+1=>by
   have h1:accT 5 kid (k+1) ρ=iteB (accT 5 kid k ρ) (fnT (kid k) ρ) false:=rfl;have h2:=Zsv (fun i=>fnT (kid i) ρ) k;rw[h1,Zw4 kid ρ k,Zey];unfold iteB;cases hf:fnT (kid k) ρ
   .
    have:(cntT k fun i=>fnT (kid i) ρ)+0≠k+1:=by omega
    simp only[Bool.false_eq_true,if_false,decide_eq_false this];split<;>rfl
   . simp
theorem Zw5 (kid:Nat->ExT)(ρ:Nat->Bool):∀ k,accT 6 kid k ρ=decide (0<cntT k (fun i=>fnT (kid i) ρ))
 | 0=>rfl
 | k+1=>by
   have h1:accT 6 kid (k+1) ρ=iteB (accT 6 kid k ρ) true (fnT (kid k) ρ):=rfl;rw[h1,Zw5 kid ρ k,Zey];unfold iteB;cases hf:fnT (kid k) ρ<;>simp
theorem Zw6 (kid:Nat->ExT)(ρ:Nat->Bool):∀ k,accT 7 kid k ρ=decide (cntT k (fun i=>fnT (kid i) ρ)%2=1)
 | 0=>rfl
 | k+1=>by
   have h1:accT 7 kid (k+1) ρ=iteB (accT 7 kid k ρ) (!(fnT (kid k) ρ)) (fnT (kid k) ρ):=rfl;rw[h1,Zw6 kid ρ k,Zey];unfold iteB;rcases Nat.mod_two_eq_zero_or_one (cntT k fun i=>fnT (kid i) ρ) with e|e
   . cases hf:fnT (kid k) ρ<;>simp[e]<;>omega
   . cases hf:fnT (kid k) ρ<;>simp[e]<;>omega
theorem Zx7 {op:Int}(h:op=5\/op=6\/op=7)(v:Int)(n:Nat)(kid:Nat->ExT):fnT (.mk op v n kid)=accT op kid n:=by
 funext ρ;rcases h with rfl|rfl|rfl
 . rw[Zw4];rfl
 . rw[Zw5];rfl
 . rw[Zw6];rfl
theorem Zpr (f:Nat->Bool):cntT 1 f=if f 0 then 1 else 0:=by rw[Zey];exact Nat.zero_add _
theorem Zva (f:Nat->Bool):cntT 2 f=(if f 0 then 1 else 0)+(if f 1 then 1 else 0):=by rw[Zey,Zpr]
theorem Zx9 (v:Int)(kid:Nat->ExT):fnT (.mk 4 v 1 kid)=notF (fnT (kid 0)):=by
 funext ρ
 show decide (cntT 1 (fun i=>fnT (kid i) ρ)=0) = !(fnT (kid 0) ρ)
 rw[Bool.eq_iff_iff,decide_eq_true_iff,Zpr];cases fnT (kid 0) ρ<;>simp
theorem Zx8 (v:Int)(kid:Nat->ExT):fnT (.mk 10 v 3 kid)=Zc6 (fnT (kid 0)) (fnT (kid 1)) (fnT (kid 2)):=rfl
theorem Zvj {op:Int}(h:op=8\/op=9)(v:Int)(kid:Nat->ExT):fnT (.mk op v 2 kid)=Znn op (fnT (kid 0)) (fnT (kid 1)):=by
 funext ρ;rcases h with rfl|rfl
 .
  show (!fnT (kid 0) ρ||fnT (kid 1) ρ)=iteB (fnT (kid 0) ρ) (fnT (kid 1) ρ) true
  unfold iteB;cases fnT (kid 0) ρ<;>simp
 .
  show decide (cntT 2 (fun i=>fnT (kid i) ρ)≠1)=iteB (fnT (kid 0) ρ) (fnT (kid 1) ρ) (!fnT (kid 1) ρ)
  rw[Bool.eq_iff_iff,decide_eq_true_iff,Zva];unfold iteB;cases fnT (kid 0) ρ<;>cases fnT (kid 1) ρ<;>simp
theorem Zne {op:Int}(h:op=1\/op=2)(v:Int)(n:Nat)(kid:Nat->ExT):fnT (.mk op v n kid)=fun _=>decide (op=1):=by
 rcases h with rfl|rfl<;>rfl
theorem Zya (v:Nat)(n:Nat)(kid:Nat->ExT):fnT (.mk 3 v n kid)=varF v:=by
 funext ρ;rfl
def DepF (n:Nat)(F:BF):Prop:=∀ ρ ρ':Nat->Bool,(∀ i,i<n->ρ i=ρ' i)->F ρ=F ρ'
theorem Znx {f:Nat->List Int}{i:Nat}{x:Int}:∀ {n:Nat},i<n->x∈f i->x∈Zgm n f
 | 0,h,_=>by omega
 | k+1,h,hx=>by
   unfold Zgm;rcases Nat.lt_or_ge i k with h'|h'
   . exact List.mem_append_left _ (Znx h' hx)
   .
    obtain rfl:i=k:=by omega
    exact List.mem_append_right _ hx
theorem Zxt (n:Nat)(ρ:Nat->Bool):∃ i,i<2^n/\∀ v,v<n->bitB i v=ρ v:=by
 induction n with
 | zero=>exact⟨0,by simp,fun v hv=>by omega⟩
 | succ n ih =>
   obtain⟨i,hi,hb⟩:=ih;have hp:0<2^n:=Nat.pow_pos (by omega);refine⟨i+(if ρ n then 2^n else 0),by rw[Nat.pow_succ];split<;>omega,fun v hv=>?_⟩;rcases Nat.lt_or_ge v n with h|h
   .
    rw[<- hb v h];unfold bitB;split
    .
     obtain⟨k,rfl⟩:∃ k,n=v+(k+1):=⟨n-v-1,by omega⟩;have e1:(2:Nat)^(v+(k+1))=2^v*(2*2^k):=by rw[Nat.pow_add,Nat.pow_succ];ac_rfl
     rw[e1,Nat.add_mul_div_left _ _ (Nat.pow_pos (by omega)),Nat.add_mul_mod_self_left]
    . rw[Nat.add_zero]
   .
    obtain rfl:v=n:=by omega
    unfold bitB;cases hr:ρ v with
    | true =>
      rw[if_pos rfl,Nat.add_div_right _ hp,Nat.div_eq_of_lt hi];rfl
    | false =>
      rw[if_neg (by simp),Nat.add_zero,Nat.div_eq_of_lt hi];rfl
open Go.RowKit
theorem Zpk {n:Nat}{f:Nat->Nat}(h1:∀ i,i<n->f i<n)(h2:∀ i j,i<n->j<n->f i=f j->i=j){j:Nat}(hj:j<n):∃ i,i<n/\f i=j:=by
 by_cases h:∃ i,i<n/\f i=j
 . exact h
 exfalso;have g0:∀ i,i<n->f i≠j:=fun i hi e=>h ⟨i,hi,e⟩
 have g1:(j::(List.range n).map f).Nodup:=by
  refine List.nodup_cons.2 ⟨?_,?_⟩
  . intro hm;obtain⟨i,hi,e⟩:=List.mem_map.1 hm;exact g0 i (List.mem_range.1 hi) e
  . refine List.pairwise_map.2 (List.nodup_range.imp_of_mem ?_);intro a b ha hb g2 e;exact g2 (h2 a b (List.mem_range.1 ha) (List.mem_range.1 hb) e)
 have:=Zhj n _ g1 (fun x hx=>by
  rcases List.mem_cons.1 hx with rfl|hx
  . exact hj
  . obtain⟨i,hi,rfl⟩:=List.mem_map.1 hx;exact h1 i (List.mem_range.1 hi))
 simp at this;omega
theorem Zxw {zs:List Int}{v:Int}{p:Nat}(h:at0 zs p=v)(hu:∀ i,i<zs.length->at0 zs i=v->i=p):∀ k,k<=zs.length->cntP zs v k=if p<k then 1 else 0
 | 0,_=>by simp[cntP]
 | k+1,hk=>by
   have ih:=Zxw h hu k (by omega)
   by_cases e:at0 zs k=v
   . have:=hu k (by omega) e;subst this;rw[Ze6 (by omega) e,ih];simp
   .
    rw[Zox (by omega) e,ih];have:p≠k:=fun e2=>e (by rw[<- e2];exact h)
    by_cases h3:p<k
    . rw[if_pos h3,if_pos (by omega)]
    . rw[if_neg h3,if_neg (by omega)]
theorem Zfr {zs:List Int}{v:Int}{i:Nat}:∀ {j:Nat},i<=j->j<=zs.length->cntP zs v i<=cntP zs v j
 | 0,h,_=>by
   obtain rfl:i=0:=by omega
   exact Nat.le_refl _
 | j+1,h,hj=>by
   rcases Nat.lt_or_ge i (j+1) with h'|h'
   .
    have:=Zfr (zs:=zs) (v:=v) (show i<=j by omega) (by omega)
    by_cases e:at0 zs j=v
    . rw[Ze6 (by omega) e];omega
    . rw[Zox (by omega) e];omega
   .
    obtain rfl:i=j+1:=by omega
    exact Nat.le_refl _
structure Zxm (zs:List Int)(n:Nat):Prop where
 len:zs.length=n
 lt:∀ i,i<n->∃ v:Nat,v<n/\at0 zs i=(v:Nat)
 inj:∀ i j,i<n->j<n->at0 zs i=at0 zs j->i=j
theorem Zv8 {zs:List Int}{n:Nat}(h:Zf2 zs n=true):Zxm zs n:=by
 unfold Zf2 at h;rw[decide_eq_true_eq] at h;obtain⟨h1,h2⟩:=h;have g2:zs.length=n:=by omega
 subst g2;have hp:∀ v:Nat,v<zs.length->∃ p,p<zs.length/\at0 zs p=(v:Nat):=by
  intro v hv;have e:=h2 v hv;unfold cntP at e;rw[List.take_length] at e;have hm:0<(zs.filter (fun z=>decide (z=(v:Int)))).length:=by omega
  obtain⟨z,hz⟩:=List.length_pos_iff_exists_mem.1 hm;obtain⟨q1,q2⟩:=List.mem_filter.1 hz;obtain⟨i,hi,e2⟩:=List.getElem_of_mem q1;refine⟨i,hi,?_⟩;rw[Zca hi,e2];simpa using q2
 have g0:∀ i,i<zs.length->∃ v,v<zs.length/\at0 zs i=(v:Nat):=by
  have hc:∃ f:Nat->Nat,∀ v,v<zs.length->f v<zs.length/\at0 zs (f v)=(v:Nat):=by
   refine⟨fun v=>if hv:v<zs.length then Classical.choose (hp v hv) else 0,fun v hv=>?_⟩;dsimp only;rw[dif_pos hv];exact Classical.choose_spec (hp v hv)
  obtain⟨f,hf⟩:=hc;intro i hi
  obtain⟨v,hv,e⟩:=Zpk (n:=zs.length) (f:=f) (fun v hv=>(hf v hv).1) (fun a b ha hb e=>by
   have e1:=(hf a ha).2;have e2:=(hf b hb).2;rw[e,e2] at e1;omega) hi
  exact⟨v,hv,by rw[<- e];exact(hf v hv).2⟩
 refine⟨rfl,g0,fun i j hi hj e=>?_⟩;obtain⟨v,hv,ei⟩:=g0 i hi;have ec:=h2 v hv;have ej:at0 zs j=(v:Nat):=by rw[<- e];exact ei
 rcases Nat.lt_trichotomy i j with g1|rfl|g1
 . have a1:=Ze6 hi ei;have a2:=Ze6 hj ej;have a3:=Zfr (zs:=zs) (v:=(v:Nat)) (show i+1<=j by omega) (by omega);have a4:=Zfr (zs:=zs) (v:=(v:Nat)) (show j+1<=zs.length by omega) (Nat.le_refl _);omega
 . rfl
 . have a1:=Ze6 hi ei;have a2:=Ze6 hj ej;have a3:=Zfr (zs:=zs) (v:=(v:Nat)) (show j+1<=i by omega) (by omega);have a4:=Zfr (zs:=zs) (v:=(v:Nat)) (show i+1<=zs.length by omega) (Nat.le_refl _);omega
theorem Zxr {l:List Nat}{i:Nat}(hi:i<l.length):at0 (l.map Int.ofNat) i=(l.getD i 0:Nat):=by
 rw[Zca (by simpa using hi)];simp[List.getD,hi]
theorem Zao.mem {d:Zae}{V:Nat->BF}(h:Zao d V){v:Nat}(hv:v<d.vars.length):∃ i,i<d.vars.length/\d.vars.getD i 0=v:=⟨levN d v,h.dag.lt v hv,h.inv v hv⟩
theorem Zao.inj {d:Zae}{V:Nat->BF}(h:Zao d V){i j:Nat}(hi:i<d.vars.length)(hj:j<d.vars.length)(e:d.vars.getD i 0=d.vars.getD j 0):i=j:=by
 have a:=(h.vlt i hi).2;have b:=(h.vlt j hj).2;rw[e,b] at a;exact a.symm
def exL (l:List Nat)(k:Nat):List Nat:=(l.set k (l.getD (k+1) 0)).set (k+1) (l.getD k 0)
theorem Zvi {l:List Nat}{k:Nat}(h:k+1<l.length):(exL l k).getD k 0=l.getD (k+1) 0:=by
 unfold exL;simp[List.getD,List.getElem?_set,h,show k<l.length by omega]
theorem Zze {l:List Nat}{k i:Nat}(h1:i≠k)(h2:i≠k+1):(exL l k).getD i 0=l.getD i 0:=by
 unfold exL;simp only[List.getD,List.getElem?_set];rw[if_neg (fun e=>h2 e.symm),if_neg (fun e=>h1 e.symm)]
theorem Zut (d:Zae)(k:Nat):(Zd6 d k).vars=exL d.vars k:=rfl
open Go.RowKit
structure LawT (K:Law)(n:Nat)(Od:List Nat->Prop)(room:Nat)(w0:World)(mb:Nat)(fs:List (Int×BF))(nx:Int)(Wt:List Ev->Int->Prop)(hl hx:List (Int×BF))(W:World)(o:Own)(m:ManD)(V:Nat->BF)(vl vx:Value):Prop where
 sat:SatE K n Od room w0 mb fs nx W o m V
 b2:B2 fs
 st:Wt m.waits m.calls
 l:LawL W o w0.heap.size vl (hl.map Prod.fst)
 x:LawX W o w0.heap.size vx (hx.map fun p=>tabB n p.2)
section
variable {K:Law}{n:Nat}{Od:List Nat->Prop}{room:Nat}{w0:World}{mb:Nat}{fs:List (Int×BF)}{nx:Int}{Wt:List Ev->Int->Prop}{hl hx hs:List (Int×BF)}{W W' w:World}{o o':Own}{m m':ManD}{V V':Nat->BF}{vl vx v' v:Value}{p:Int×BF}
theorem LawT.below (h:LawT K n Od room w0 mb fs nx Wt hl hx W o m V vl vx)(hb:Below W.heap.size W W'):LawT K n Od room w0 mb fs nx Wt hl hx W' o m V vl vx :=
 ⟨h.sat.below hb,h.b2,h.st,h.l.chg (Zcx hb o),h.x.chg (Zcx hb o)⟩
theorem LawT.below0 (h:LawT K n Od room w0 mb fs nx Wt hl hx W o m V vl vx):Below w0.heap.size w0 W:=h.sat.chg.below0
theorem LawT.go {Od':List Nat->Prop}{fs':List (Int×BF)}{nx':Int}{Wt':List Ev->Int->Prop}(h:LawT K n Od room w0 mb fs nx Wt hl hx W o m V vl vx)(hs:SatE K n Od' room w0 mb fs' nx' W' o' m' V')(hb:B2 fs')(ht:Wt' m'.waits m'.calls)(hc:ChgX NoB o o' W W') :
 LawT K n Od' room w0 mb fs' nx' Wt' hl hx W' o' m' V' vl vx:=⟨hs,hb,ht,h.l.chg hc,h.x.chg hc⟩
theorem LawT.withOd {Od':List Nat->Prop}(h:LawT K n Od room w0 mb fs nx Wt hl hx W o m V vl vx)(hO:Od' m.d.vars):LawT K n Od' room w0 mb fs nx Wt hl hx W o m V vl vx:=⟨h.sat.withOd hO,h.b2,h.st,h.l,h.x⟩
theorem LawT.withSt {Wt':List Ev->Int->Prop}(h:LawT K n Od room w0 mb fs nx Wt hl hx W o m V vl vx)(hO:Wt' m.waits m.calls):LawT K n Od room w0 mb fs nx Wt' hl hx W o m V vl vx:=⟨h.sat,h.b2,hO,h.l,h.x⟩
theorem LawT.appL (h:LawT K n Od room w0 mb fs nx Wt hl hx W o m V vl vx)(hown:OwnC 3 W' w0.heap.size v' (Za0 (hl.map Prod.fst)++[.int .i64 p.1]))(e1:W'.os=W.os)(e2:W'.tape=W.tape)(e3:W'.output=W.output)(e4:W.heap.size<=W'.heap.size)(hk:Zch vl v' W W') :
 LawT K n Od room w0 mb fs nx Wt (hl++[p]) hx W' o m V v' vx:=by
 have hw:=Zlc e1 e2 e3 e4 hk;refine⟨h.sat.other hw (fun k _ hk=>⟨(h.l.own.lt k hk).1,h.l.no k hk⟩),h.b2,h.st,?_,h.x.typ hw (by decide) (by decide) h.l.own.typed⟩;rw[List.map_append];exact h.l.app h.sat.lt hown hk
theorem LawT.appX {bs:List Bool}(h:LawT K n Od room w0 mb fs nx Wt hl hx W o m V vl vx)(hb:LawB W o w0.heap.size v bs)(hbs:bs=tabB n p.2){rs:List Value}(hrs:rs.length=hx.length)(hrow:OwnC 64 W w0.heap.size vx rs)(hall:∀ i v,rs[i]?=some v->LawB W o w0.heap.size v ((hx.map fun p=>tabB n p.2).getD i []))
 (hown:OwnC 64 W' w0.heap.size v' (rs++[v])) (e1:W'.os=W.os) (e2:W'.tape=W.tape) (e3:W'.output=W.output) (e4:W.heap.size<=W'.heap.size) (hk:Zch vx v' W W'):LawT K n Od room w0 mb fs nx Wt hl (hx++[p]) W' o m V vl v':=by
 have hw:=Zlc e1 e2 e3 e4 hk;refine⟨h.sat.other hw (fun k _ hk=>⟨(hrow.lt k hk).1,h.x.no k hk⟩),h.b2,h.st,h.l.typ hw (by decide) hrow.typed,?_⟩;rw[List.map_append];have:=h.x.app h.sat.lt (by simp[hrs]) hall hw hrow.typed hb hown hk;rw[hbs] at this;exact this
theorem LawT.row (h:LawT K n Od room w0 mb fs nx Wt hs hs W o m V vl vx)(hsub:∀ p∈hs,p∈fs)(hsm:hs.length<=1000) :
 LawR (fun g=>w0.heap.size<=g/\g<W.heap.size/\o g=none/\∃ cur,W.heap[g]?=some (.cells cur 4 (0,0))) n fs W vl vx hs:=Zyi h.l h.x hsub hsm
end
open Go.RowKit
end Go.Proofs.YtljjokfhdkegbaaGreat

namespace Go.Proofs.YtljjokfhdkegbaaGreat
open Go.Proofs.Tryz
open Go.RowKit
open Go.RowKit
def orF (F G:BF):BF:=Zc6 F (fun _=>true) G
def Zm4 (F G:BF):BF:=Zc6 F (notF G) fun _=>false
open Go.RowKit
def Zez (Φ:BF->BF)(F:BF):Nat->BF
 | 0=>F
 | k+1=>Φ (Zez Φ F k)
def OnF (Φ:BF->BF)(F:BF)(k:Nat):Prop:=∀ i,i<k->Zez Φ F (i+1)≠Zez Φ F i
def EndF (Φ:BF->BF)(F:BF)(k:Nat):Prop:=OnF Φ F k/\Zez Φ F (k+1)=Zez Φ F k
theorem EndF.uniq {Φ:BF->BF}{F:BF}{j k:Nat}(h:EndF Φ F j)(h':EndF Φ F k):j=k:=by
 rcases Nat.lt_trichotomy j k with c|c|c
 . exact(h'.1 j c h.2).elim
 . exact c
 . exact(h.1 k c h'.2).elim
theorem EndF.not_on {Φ:BF->BF}{F:BF}{j k:Nat}(h:EndF Φ F j)(h':OnF Φ F k):k<=j:=by
 rcases Nat.lt_or_ge j k with c|c
 . exact(h' j c h.2).elim
 . exact c
theorem OnF.zero (Φ:BF->BF)(F:BF):OnF Φ F 0:=fun i hi=>by omega
theorem OnF.succ {Φ:BF->BF}{F:BF}{k:Nat}(h:OnF Φ F k)(hn:Zez Φ F (k+1)≠Zez Φ F k):OnF Φ F (k+1):=fun i hi=>by
 rcases Nat.lt_or_ge i k with c|c
 . exact h i c
 .
  obtain rfl:i=k:=by omega
  exact hn
theorem Zo5 (Φ:BF->BF)(F:BF):∀ k,Zez Φ (Φ F) k=Zez Φ F (k+1)
 | 0=>rfl
 | k+1=>by show Φ (Zez Φ (Φ F) k)=Φ (Zez Φ F (k+1));rw[Zo5 Φ F k]
def allF (Φ:BF->BF)(Q:BF):Nat->BF
 | 0=>Q
 | k+1=>orF (allF Φ Q k) (Zm4 (Φ (allF Φ Q k)) (allF Φ Q k))
def Zb9 (Φ:BF->BF)(Q:BF):Nat->BF
 | 0=>Q
 | k+1=>Zm4 (Φ (allF Φ Q k)) (allF Φ Q k)
theorem Zsj (Φ:BF->BF)(Q:BF)(k:Nat):allF Φ Q (k+1)=orF (allF Φ Q k) (Zb9 Φ Q (k+1)):=rfl
def Zfl (Φ:BF->BF)(Q:BF)(k:Nat):Prop:=∀ i,i<k->Zb9 Φ Q (i+1)≠fun _=>false
def Zi6 (Φ:BF->BF)(Q:BF)(k:Nat):Prop:=Zfl Φ Q k/\Zb9 Φ Q (k+1)=fun _=>false
theorem Zi6.uniq {Φ:BF->BF}{F:BF}{j k:Nat}(h:Zi6 Φ F j)(h':Zi6 Φ F k):j=k:=by
 rcases Nat.lt_trichotomy j k with c|c|c
 . exact(h'.1 j c h.2).elim
 . exact c
 . exact(h.1 k c h'.2).elim
theorem Zfl.zero (Φ:BF->BF)(F:BF):Zfl Φ F 0:=fun i hi=>by omega
theorem Zfl.succ {Φ:BF->BF}{F:BF}{k:Nat}(h:Zfl Φ F k)(hn:Zb9 Φ F (k+1)≠fun _=>false):Zfl Φ F (k+1):=fun i hi=>by
 rcases Nat.lt_or_ge i k with c|c
 . exact h i c
 .
  obtain rfl:i=k:=by omega
  exact hn
theorem Zi6.le {Φ:BF->BF}{F:BF}{j k:Nat}(h:Zi6 Φ F j)(h':Zfl Φ F k):k<=j:=by
 rcases Nat.lt_or_ge j k with c|c
 . exact(h' j c h.2).elim
 . exact c
theorem Zmz {p q:Nat->Bool}:∀ {l:List Nat},(∀ x,p x=true->q x=true)->(∃ x∈l,q x=true/\p x=false)->l.countP p+1<=l.countP q
 | [],_,⟨x,hx,_⟩=>by simp at hx
 | y::l,h,⟨x,hx,h1,h2⟩=>by
   have hle:=List.countP_mono_left (l:=l) fun z _=>h z
   rw[List.countP_cons,List.countP_cons];rcases List.mem_cons.1 hx with rfl|hx
   . rw[if_neg (by rw[h2];simp),if_pos h1];omega
   .
    have ih:=Zmz (p:=p) (q:=q) h ⟨x,hx,h1,h2⟩
    by_cases c:p y=true
    . rw[if_pos c,if_pos (h y c)];omega
    . rw[if_neg c];omega
def Zyw (n:Nat)(F:BF):Nat:=(List.range (2^n)).countP fun i=>F (Zcb (Zcw i n))
theorem Zwo (n:Nat)(F:BF):Zyw n F<=2^n:=by
 have:=List.countP_le_length (p:=fun i=>F (Zcb (Zcw i n))) (l:=List.range (2^n))
 rwa [List.length_range] at this
theorem Zwd (Φ:BF->BF)(Q:BF)(k:Nat)(ρ:Nat->Bool)(h:Zb9 Φ Q (k+1) ρ=true):allF Φ Q k ρ=false:=by
 have h':iteB (Φ (allF Φ Q k) ρ) (!allF Φ Q k ρ) false=true:=h;cases hc:allF Φ Q k ρ with
 | false=>rfl
 | true=>rw[hc] at h';simp[iteB] at h'
theorem Zsi (Φ:BF->BF)(Q:BF)(k:Nat)(ρ:Nat->Bool):allF Φ Q (k+1) ρ=(allF Φ Q k ρ||Zb9 Φ Q (k+1) ρ):=by
 rw[Zsj]
 show iteB (allF Φ Q k ρ) true _=_
 cases allF Φ Q k ρ<;>rfl
theorem Zk7 {n:Nat}{Φ:BF->BF}{Q:BF}(hd:∀ i,DepF n (Zb9 Φ Q i)):∀ {k:Nat},Zfl Φ Q k->k<=Zyw n (allF Φ Q k)
 | 0,_=>Nat.zero_le _
 | k+1,h=>by
   have ih:=Zk7 hd (k:=k) fun i hi=>h i (by omega)
   have hne:=h k (by omega)
   obtain⟨ρ,hρ⟩:∃ ρ,Zb9 Φ Q (k+1) ρ=true:=Classical.byContradiction fun hc=>hne (funext fun ρ=>by
    cases hr:Zb9 Φ Q (k+1) ρ with
    | false=>rfl
    | true=>exact(hc ⟨ρ,hr⟩).elim)
   obtain⟨i,hi,hb⟩:=Zxt n ρ;have e:∀ v,v<n->ρ v=Zcb (Zcw i n) v:=fun v hv=>by rw[Zq6,hb v hv];simp[hv]
   rw[hd (k+1) ρ _ e] at hρ;have:=Zmz (l:=List.range (2^n)) (p:=fun i=>allF Φ Q k (Zcb (Zcw i n))) (q:=fun i=>allF Φ Q (k+1) (Zcb (Zcw i n)))
    (fun x hx=>by rw[Zsi,hx];rfl)
    ⟨i,List.mem_range.2 hi,by rw[Zsi,hρ];simp,Zwd _ _ _ _ hρ⟩
   unfold Zyw at ih ⊢;omega
theorem Zwe {n:Nat}{Φ:BF->BF}{Q:BF}(hd:∀ i,DepF n (Zb9 Φ Q i)){k:Nat}(h:Zfl Φ Q k):k<=2^n:=Nat.le_trans (Zk7 hd h) (Zwo _ _)
theorem Zjf {n:Nat}{F G H:BF}(hF:DepF n F)(hG:DepF n G)(hH:DepF n H):DepF n (Zc6 F G H):=fun ρ ρ' hr=>by
 show iteB (F ρ) (G ρ) (H ρ)=iteB (F ρ') (G ρ') (H ρ')
 rw[hF ρ ρ' hr,hG ρ ρ' hr,hH ρ ρ' hr]
theorem Zv2 {n:Nat}{F:BF}(hF:DepF n F):DepF n (notF F):=fun ρ ρ' hr=>by
 show (!F ρ) = !F ρ'
 rw[hF ρ ρ' hr]
theorem Zf9 (n:Nat)(c:Bool):DepF n fun _=>c:=fun _ _ _=>rfl
theorem Zqa {n:Nat}{Φ:BF->BF}(hΦ:∀ F,DepF n F->DepF n (Φ F)){Q:BF}(hQ:DepF n Q):∀ k,DepF n (allF Φ Q k)/\DepF n (Zb9 Φ Q k)
 | 0=>⟨hQ,hQ⟩
 | k+1=>by
   have h:=(Zqa hΦ hQ k).1;have hr:DepF n (Zb9 Φ Q (k+1)):=Zjf (hΦ _ h) (Zv2 h) (Zf9 n false);exact⟨Zjf h (Zf9 n true) hr,hr⟩
open Go.RowKit
theorem Zgd (W:World)(zs:List Int)(hl:zs.length<=1000000):Za2 (W.alloc (.cells (Za0 zs).toArray 3)) (some ⟨W.heap.size,0,none⟩) zs :=
 ⟨by omega,fun k hk=>⟨W.heap.size,0,rfl,by
  rw[Nat.zero_add,cell_of_row _ _ k _ _ _ (heap_alloc_new _ _)];simp[Za0,Zca hk,hk]⟩⟩
section
variable {K:Law}{n:Nat}{Od:List Nat->Prop}{room:Nat}{w0 w w':World}{mb:Nat}{fs:List (Int×BF)}{nx:Int}{o o':Own}{m m':ManD}{V V':Nat->BF}
def Goes (K:Law)(n:Nat)(Od:List Nat->Prop)(room:Nat)(w0:World)(mb:Nat)(fs:List (Int×BF))(nx:Int)(Wt:List Ev->Int->Nat->Prop)(o:Own)(w w':World):Prop :=
 ∃ o' m' V',ChgX NoB o o' w w'/\Wt m'.waits m'.calls m'.d.pool.many/\SatE K n Od room w0 mb fs nx w' o' m' V'
def NoW (M:Nat)(ws:List Ev)(_:Int)(k:Nat):Prop:=ws=[]/\k<=M
abbrev W2 (Wt:List Ev->Int->Prop):List Ev->Int->Nat->Prop:=fun ws c _=>Wt ws c
theorem Goes.more {M M':Nat}(h:Goes K n Od room w0 mb fs nx (NoW M) o w w')(hm:M<=M'):Goes K n Od room w0 mb fs nx (NoW M') o w w':=by
 obtain⟨o',m',V',h1,h2,h3⟩:=h;exact⟨o',m',V',h1,⟨h2.1,Nat.le_trans h2.2 hm⟩,h3⟩
theorem Goes.below {Wt:List Ev->Int->Nat->Prop}{w'':World}(h:Goes K n Od room w0 mb fs nx Wt o w w')(hb:Below w'.heap.size w' w''):Goes K n Od room w0 mb fs nx Wt o w w'':=by
 obtain⟨o',m',V',h1,h2,h3⟩:=h;exact⟨o',m',V',h1.trans (Zcx hb o') (fun _ _ e=>e),h2,h3.below hb⟩
theorem Ztk (hK:Zbu K){M:Nat}(h:Goes K n Od room w0 mb fs nx (NoW M) o w w')(hn:nx<549755813888)(hr:M+(2^n-1)<=room){kf kg kh:Int}{F G H:BF}(hf:(kf,F)∈fs)(hg:(kg,G)∈fs)(hh:(kh,H)∈fs) :
 Calls prog 47 #[.pointer (some ⟨mb,0,none⟩),.int .i64 kf,.int .i64 kg,.int .i64 kh] w' fun x w''=>x=.returned (.tuple #[.int .i64 nx,.int .i64 0])/\Goes K n Od room w0 mb (fs++[(nx,Zc6 F G H)]) (nx+1) (NoW (M+(2^n-1))) o w w'':=by
 obtain⟨o',m',V',h1,h2,h3⟩:=h;refine(Zky hK h3 [] (by rw[h2.1];exact List.suffix_refl _) (some M) (fun _ e=>by cases e;exact⟨rfl,hr⟩) (fun _ e=>by cases e;exact h2.2) (by simp) (by omega) hf hg hh).mono ?_;rintro x w'' hp;obtain⟨o2,m2,V2,q1,q2,q3,q4⟩:=Zk2 hp;exact⟨q3,o2,m2,V2,h1.trans q1 (fun _ _ e=>e),q2,q4⟩
theorem Zzw (hK:Zbu K){M:Nat}(h:Goes K n Od room w0 mb fs nx (NoW M) o w w')(hn:nx<549755813888)(hr:M+1<=room){v:Nat}(hv:v<n) :
 Calls prog 109 #[.pointer (some ⟨mb,0,none⟩),.int .i64 v] w' fun x w''=>x=.returned (.tuple #[.int .i64 nx,.int .i64 0])/\Goes K n Od room w0 mb (fs++[(nx,varF v)]) (nx+1) (NoW (M+1)) o w w'':=by
 obtain⟨o',m',V',h1,h2,h3⟩:=h;refine(Zk0 hK h3 [] (by rw[h2.1];exact List.suffix_refl _) (some M) (fun _ e=>by cases e;exact⟨rfl,hr⟩) (fun _ e=>by cases e;exact h2.2) (by simp) (by omega) v hv).mono ?_;rintro x w'' hp;obtain⟨o2,m2,V2,q1,q2,q3,q4⟩:=Zk2 hp;exact⟨q3,o2,m2,V2,h1.trans q1 (fun _ _ e=>e),q2,q4⟩
theorem Zxb (hK:Zbu K){Wt:List Ev->Int->Nat->Prop}(h:Goes K n Od room w0 mb fs nx Wt o w w')(hn:nx<549755813888){k:Int}{F:BF}(hf:(k,F)∈fs) :
 Calls prog 39 #[.pointer (some ⟨mb,0,none⟩),.int .i64 k] w' fun x w''=>x=.returned (.tuple #[.int .i64 nx,.int .i64 0])/\Goes K n Od room w0 mb (fs++[(nx,notF F)]) (nx+1) Wt o w w'':=by
 obtain⟨o',m',V',h1,h2,h3⟩:=h;refine(Zkz hK h3 hn hf).mono ?_;rintro x w'' ⟨rfl,o2,m2,q⟩;exact⟨rfl,o2,m2,V',h1.trans (ChgX.of_chg q.chg NoB) (fun _ _ e=>e),by rw[q.waits,q.calls,q.many];exact h2,q.sat⟩
theorem Zli (hK:Zbu K){Wt:List Ev->Int->Nat->Prop}(h:Goes K n Od room w0 mb fs nx Wt o w w')(hn:nx<549755813888){k:Int}{F:BF}(hf:(k,F)∈fs) :
 Calls prog 119 #[.pointer (some ⟨mb,0,none⟩),.int .i64 k] w' fun x w''=>x=.returned (.tuple #[.int .i64 nx,.int .i64 0])/\Goes K n Od room w0 mb (fs++[(nx,F)]) (nx+1) Wt o w w'':=by
 obtain⟨o',m',V',h1,h2,h3⟩:=h;refine(Zjk hK h3 hn hf).mono ?_;rintro x w'' ⟨rfl,o2,m2,q⟩;exact⟨rfl,o2,m2,V',h1.trans (ChgX.of_chg q.chg NoB) (fun _ _ e=>e),by rw[q.waits,q.calls,q.many];exact h2,q.sat⟩
theorem Zlj (hK:Zbu K){Wt:List Ev->Int->Nat->Prop}{hs r:List (Int×BF)}(h:Goes K n Od room w0 mb (fs++(hs++r)) nx Wt o w w')(hb:B2 fs)(hn:nx<549755813888)(hl:hs.length<=1000){T:World}(hT:T=w'.alloc (.cells (Za0 (hs.map Prod.fst)).toArray 3)) :
 Calls prog 118 #[.pointer (some ⟨mb,0,none⟩),.slice (some ⟨w'.heap.size,0,none⟩) hs.length hs.length] T fun x w''=>x=.returned (.int .i64 0)/\Goes K n Od room w0 mb (fs++r) nx Wt o w w'':=by
 obtain⟨o',m',V',h1,h2,h3⟩:=h;subst hT;have g0:=Zaf w' (.cells (Za0 (hs.map Prod.fst)).toArray 3);refine(Zjl hK (h3.below g0) hb hn (Zgd w' (hs.map Prod.fst) (by simp;omega)) (fun x hx=>by cases hx;exact h3.lt.none (Nat.le_refl _))).mono ?_;rintro x w'' ⟨rfl,o2,m2,q⟩;exact⟨rfl,o2,m2,V',(h1.trans (Zcx g0 o') (fun _ _ e=>e)).trans (ChgX.of_chg q.chg NoB) (fun _ _ e=>e),by rw[q.waits,q.calls,q.many];exact h2,q.sat⟩
theorem Zpz (hK:Zbu K){a b:Int}{F G:BF}{M:Nat}(h:Goes K n Od room w0 mb (fs++[(a,F),(b,G)]) nx (NoW M) o w w')(hb:B2 fs)(hn:nx+2<549755813888)(hr:M+(2^n-1)<=room){op:Int}(h5:5<=op)(h9:op<=9) :
 Calls prog 153 #[.pointer (some ⟨mb,0,none⟩),.int .i64 op,.int .i64 a,.int .i64 b] w' fun x w''=>∃ k:Int,x=.returned (.tuple #[.int .i64 k,.bool true])/\k<=nx+1/\Goes K n Od room w0 mb (fs++[(k,Znn op F G)]) (k+1) (NoW (M+(2^n-1))) o w w'':=by
 obtain⟨M',ga⟩:∃ M',M'=M+(2^n-1):=⟨_,rfl⟩;have g5:Hid (∀ c d e A B C,(c,A)∈fs++[(a,F),(b,G)]->(d,B)∈fs++[(a,F),(b,G)]->(e,C)∈fs++[(a,F),(b,G)]->Calls prog 47 #[.pointer (some ⟨mb,0,none⟩),.int .i64 c,.int .i64 d,.int .i64 e] w' fun x w''=>x=.returned (.tuple #[.int .i64 nx,.int .i64 0])/\Goes K n Od room w0 mb (fs++[(a,F),(b,G)]++[(nx,Zc6 A B C)]) (nx+1) (NoW (M+(2^n-1))) o w w'') :=
  Hd fun c d e A B C h1 h2 h3=>Ztk hK h (by omega) hr h1 h2 h3
 have g6:=Hd (Zxb hK h (by omega) (k:=b) (F:=G) (by simp))
 have g0:Hid (∀ W,Goes K n Od room w0 mb (fs++[(a,F),(b,G)]++[(nx,notF G)]) (nx+1) (NoW M) o w W->∀ c d e A B C,(c,A)∈fs++[(a,F),(b,G)]++[(nx,notF G)]->(d,B)∈fs++[(a,F),(b,G)]++[(nx,notF G)]->(e,C)∈fs++[(a,F),(b,G)]++[(nx,notF G)] ->
  Calls prog 47 #[.pointer (some ⟨mb,0,none⟩),.int .i64 c,.int .i64 d,.int .i64 e] W fun x w''=>x=.returned (.tuple #[.int .i64 (nx+1),.int .i64 0])/\Goes K n Od room w0 mb (fs++[(a,F),(b,G)]++[(nx,notF G)]++[(nx+1,Zc6 A B C)]) (nx+1+1) (NoW (M+(2^n-1))) o w w'') :=
  Hd fun W hW c d e A B C h1 h2 h3=>Ztk hK hW (by omega) hr h1 h2 h3
 have g7:Hid (∀ W H T,Goes K n Od room w0 mb (fs++[(a,F),(b,G)]++[(nx,notF G)]++[(nx+1,H)]) (nx+1+1) (NoW M') o w W->T=W.alloc (.cells #[.int .i64 nx] 3)->Calls prog 118 #[.pointer (some ⟨mb,0,none⟩),.slice (some ⟨W.heap.size,0,none⟩) 1 1] T fun x w''=>x=.returned (.int .i64 0)/\Goes K n Od room w0 mb (fs++[(a,F),(b,G)]++[(nx+1,H)]) (nx+1+1) (NoW M') o w w'') :=
  Hd fun W H T hW hT=>Zlj hK (hs:=[(nx,notF G)]) (r:=[(nx+1,H)]) (by rw[List.append_assoc] at hW;exact hW) (hb.app _) (by omega) (by simp) hT
 have g8:Hid (∀ W k H T,k+1<549755813888->Goes K n Od room w0 mb (fs++[(a,F),(b,G)]++[(k,H)]) (k+1) (NoW M') o w W->T=W.alloc (.cells #[.int .i64 a,.int .i64 b] 3)->Calls prog 118 #[.pointer (some ⟨mb,0,none⟩),.slice (some ⟨W.heap.size,0,none⟩) 2 2] T fun x w''=>x=.returned (.int .i64 0)/\Goes K n Od room w0 mb (fs++[(k,H)]) (k+1) (NoW M') o w w'') :=
  Hd fun W k H T hk hW hT=>Zlj hK (hs:=[(a,F),(b,G)]) (r:=[(k,H)]) (by rw[List.append_assoc] at hW;exact hW) hb (by omega) (by simp) hT
 have m0:(0,fun _=>false)∈fs++[(a,F),(b,G)]:=List.mem_append_left _ hb.zero;have m1:(1,fun _=>true)∈fs++[(a,F),(b,G)]:=List.mem_append_left _ hb.one;have ma:(a,F)∈fs++[(a,F),(b,G)]:=by simp
 have mb':(b,G)∈fs++[(a,F),(b,G)]:=by simp
 have pa:(a,F)∈fs++[(a,F),(b,G)]++[(nx,notF G)]:=by simp
 have pb:(b,G)∈fs++[(a,F),(b,G)]++[(nx,notF G)]:=by simp
 have pn:(nx,notF G)∈fs++[(a,F),(b,G)]++[(nx,notF G)]:=by simp
 rw[<- ga] at g5 g0 ⊢;clear h hb hr hK ga;rcases(show op=5\/op=6\/op=7\/op=8\/op=9 by omega) with rfl|rfl|rfl|rfl|rfl
 .
  have HI:=Hd (g5.out a b 0 _ _ _ ma mb' m0);clear g5 g0 g6 g7
  go_enter func153,ntmps153
  go_wp2_with fail;refine HI.out.mono ?_;rintro x w1 ⟨rfl,g1⟩;have HD:=Hd (g8.out w1 nx _ _ (by omega) g1 rfl);clear g1 HI;go_wp2_with fail;refine HD.out.mono ?_;rintro x w2 ⟨rfl,g2⟩;have HG:=Hd g2;clear g2 HD;go_wp2_with fail
  go_ret2
  exact⟨nx,rfl,by omega,HG.out⟩
 .
  have HI:=Hd (g5.out a 1 b _ _ _ ma m1 mb');clear g5 g0 g6 g7
  go_enter func153,ntmps153
  go_wp2_with fail;refine HI.out.mono ?_;rintro x w1 ⟨rfl,g1⟩;have HD:=Hd (g8.out w1 nx _ _ (by omega) g1 rfl);clear g1 HI;go_wp2_with fail;refine HD.out.mono ?_;rintro x w2 ⟨rfl,g2⟩;have HG:=Hd g2;clear g2 HD;go_wp2_with fail
  go_ret2
  exact⟨nx,rfl,by omega,HG.out⟩
 .
  clear g5
  go_enter func153,ntmps153
  go_wp2_with fail;refine g6.out.mono ?_;rintro x w1 ⟨rfl,g1⟩;have HI:=Hd (g0.out w1 g1 a nx b _ _ _ pa pn pb);clear g1 g6 g0;go_wp2_with fail;refine HI.out.mono ?_;rintro x w2 ⟨rfl,g2⟩;have g9:=Hd (g7.out w2 _ _ g2 rfl);clear g2 HI g7;go_wp2_with fail;refine g9.out.mono ?_;rintro x w3 ⟨rfl,g3⟩;have HD:=Hd (g8.out w3 (nx+1) _ _ (by omega) g3 rfl);clear g3 g9;go_wp2_with fail;refine HD.out.mono ?_;rintro x w4 ⟨rfl,g4⟩;have HG:=Hd g4;clear g4 HD;go_wp2_with fail
  go_ret2
  exact⟨nx+1,rfl,by omega,HG.out⟩
 .
  have HI:=Hd (g5.out a b 1 _ _ _ ma mb' m1);clear g5 g0 g6 g7
  go_enter func153,ntmps153
  go_wp2_with fail;refine HI.out.mono ?_;rintro x w1 ⟨rfl,g1⟩;have HD:=Hd (g8.out w1 nx _ _ (by omega) g1 rfl);clear g1 HI;go_wp2_with fail;refine HD.out.mono ?_;rintro x w2 ⟨rfl,g2⟩;have HG:=Hd g2;clear g2 HD;go_wp2_with fail
  go_ret2
  exact⟨nx,rfl,by omega,HG.out⟩
 .
  clear g5
  go_enter func153,ntmps153
  go_wp2_with fail;refine g6.out.mono ?_;rintro x w1 ⟨rfl,g1⟩;have HI:=Hd (g0.out w1 g1 a b nx _ _ _ pa pb pn);clear g1 g6 g0;go_wp2_with fail;refine HI.out.mono ?_;rintro x w2 ⟨rfl,g2⟩;have g9:=Hd (g7.out w2 _ _ g2 rfl);clear g2 HI g7;go_wp2_with fail;refine g9.out.mono ?_;rintro x w3 ⟨rfl,g3⟩;have HD:=Hd (g8.out w3 (nx+1) _ _ (by omega) g3 rfl);clear g3 g9;go_wp2_with fail;refine HD.out.mono ?_;rintro x w4 ⟨rfl,g4⟩;have HG:=Hd g4;clear g4 HD;go_wp2_with fail
  go_ret2
  exact⟨nx+1,rfl,by omega,HG.out⟩
end
open Go.RowKit
theorem Ztn {op:Int}(h:0<=(Zea op).1):1<=op/\op<=10/\(Zea op).2<=64:=by
 unfold Zea at h ⊢;split
 . rename_i h1;exact⟨by omega,by omega,by simp⟩
 .
  split
  . rename_i h1;exact⟨by omega,by omega,by simp⟩
  .
   split
   . rename_i h1;exact⟨by omega,by omega,by simp⟩
   .
    split
    . rename_i h1;exact⟨by omega,by omega,by simp⟩
    .
     split
     . rename_i h1;exact⟨by omega,by omega,by simp⟩
     . exfalso;revert h;simp_all
theorem Zk5 (f:Nat->Bool)(i:Nat):(List.range (i+1)).map f=(List.range i).map f++[f i]:=by simp[List.range_succ]
theorem Zgw (l:List Bool)(b:Bool):Zby (l++[b])=Zby l++[.bool b]:=by simp[Zby]
theorem tmod2 (c:Nat):((c:Int).tmod 2 == 1)=decide (c%2=1):=by
 have e1:Int.tmod (c:Int) 2=((c%2:Nat):Int):=by rw[Int.tmod_eq_emod_of_nonneg (by omega)];rfl
 rw[e1]
 by_cases h:c%2=1
 . rw[h];rfl
 .
  have:((c%2:Nat):Int)≠1:=by omega
  rw[beq_eq_false_iff_ne.2 this,decide_eq_false h]
theorem Zpb (a b:Nat):(((a:Nat):Int) == (b:Int))=decide (a=b):=by
 by_cases h:a=b
 . subst h;simp
 .
  have:(a:Int)≠b:=by omega
  rw[beq_eq_false_iff_ne.2 this,decide_eq_false h]
theorem Zj3 (ls:List Bool)(al:Option Addr)(cl:Nat):∀ (e:ExT) (x:Value) (w:World),Zqp e->Zbd w e x->Zfn w al ls ->
 Calls prog 184 #[x,.slice al ls.length cl] w fun y w'=>y=.returned (.bool (fnT e (Zcb ls)))/\Below w.heap.size w w'
 | .nil,x,w,hv,h,_=>by unfold Zbd at h;exact h.elim
 | .mk op v n kid,x,w,hval,h,hls=>by
   unfold Zbd at h;obtain⟨a,c,rfl,h2,h3,h4,h5⟩:=h;obtain⟨v1,v2,v3,v4,v5,v6⟩:=hval;obtain⟨k1,k2,k3⟩:=Ztn v1;have hn64:n<=64:=by omega
   have H5:=Hd h5;have H6:=Hd v6;have gp:=Hd hls;have gF:=hls.len;have HE:Hid (fnT (ExT.mk op v n kid) (Zcb ls)=if op=3 then Zcb ls v.toNat else opB op n fun i=>fnT (kid i) (Zcb ls)):=Hd rfl;have IH:Hid (∀ (i:Nat) (x:Value) (W:World),i<n->Zbd W (kid i) x->Zfn W al ls->Calls prog 184 #[x,.slice al ls.length cl] W fun y w'=>y=.returned (.bool (fnT (kid i) (Zcb ls)))/\Below W.heap.size W w') :=
    Hd fun i x W hi h1 h2=>Zj3 ls al cl (kid i) x W (H6.out i hi) h1 h2
   obtain⟨B,hB⟩:∃ B,B=fnT (ExT.mk op v n kid) (Zcb ls):=⟨_,rfl⟩;obtain⟨f,hf⟩:∃ f:Nat->Bool,f=fun i=>fnT (kid i) (Zcb ls):=⟨_,rfl⟩
   have gE:Hid (∀ i,fnT (kid i) (Zcb ls)=f i):=Hd fun i=>by rw[hf]
   rw[<- hB] at HE ⊢;rw[<- hf] at HE;have gz:op=8\/op=9->n=2:=by rintro(rfl|rfl)<;>(simp[Zea] at v4 v5;omega)
   have gy:op=10->n=3:=by rintro rfl;simp[Zea] at v4 v5;omega
   have gG:op=4->n=1:=by rintro rfl;simp[Zea] at v4 v5;omega
   obtain⟨w1,ga⟩:∃ w1,w1=w.alloc (.cells #[.int .i64 op,.int .i64 v,.slice a n c] 98):=⟨_,rfl⟩;have HW1:Hid (_=w1):=Hd ga.symm;have g5:Hid (Below w.heap.size w w1):=by rw[ga];exact Hd (Zaf _ _)
   have g6:w1.heap[w.heap.size]?=some (.cells #[.int .i64 op,.int .i64 v,.slice a n c] 98 (0,0)):=by rw[ga];exact heap_alloc_new _ _
   have d0:w1.cell? ⟨w.heap.size,0,none⟩=some (.int .i64 op):=by rw[cell_of_row _ _ 0 _ _ _ g6];rfl
   have d1:w1.cell? ⟨w.heap.size,1,none⟩=some (.int .i64 v):=by rw[cell_of_row _ _ 1 _ _ _ g6];rfl
   have d2:w1.cell? ⟨w.heap.size,2,none⟩=some (.slice a n c):=by rw[cell_of_row _ _ 2 _ _ _ g6];rfl
   unfold okI at h2 h3;obtain⟨w2,gb⟩:∃ w2,w2=w1.alloc (.cells #[] 4):=⟨_,rfl⟩;have gB:Hid (_=w2):=Hd gb.symm;have HB2:Hid (Below w1.heap.size w1 w2):=by rw[gb];exact Hd (Zaf _ _)
   have gf:Hid (OwnB w2 w1.heap.size (.slice (some ⟨w1.heap.size,0,none⟩) 0 0) []):=by rw[gb];exact Hd (Zfe _ _ _ (Nat.le_refl _))
   have hs1:w1.heap.size=w.heap.size+1:=by rw[ga];simp
   rw[hs1] at gf;clear h5 ga gb g6 hf hB v1 v4 v5 v6 hls
   go_enter func184,ntmps184
   go_upto_region 1 with fail;rw[HW1.out];go_upto_region 3 with fail;rw[gB.out];have gw:w1.heap.size<=w2.heap.size:=HB2.out.size;have d0':=(HB2.out.cell (p:=⟨w.heap.size,0,none⟩) (Zab d0)).trans d0;have d1':=(HB2.out.cell (p:=⟨w.heap.size,1,none⟩) (Zab d1)).trans d1;have d2':=(HB2.out.cell (p:=⟨w.heap.size,2,none⟩) (Zab d2)).trans d2;go_wp2_with fail
   go_loopw [5,6,7,8] (fun s5 s6 s7 s8 wr=>∃ i k:Nat,i<=n/\k<=i/\s5=.int .i64 k/\s7=.int .i64 i/\Hid (k=cntT i f)/\Below w1.heap.size w1 wr/\OwnB wr w1.heap.size s6 ((List.range i).map f)/\w1.heap.size<=wr.heap.size) (fun _ _ s7 _ _=>n-(intOf s7).toNat)
   case atStart=>exact⟨0,0,Nat.zero_le _,Nat.le_refl _,rfl,rfl,Hd rfl,HB2.out,by rw[hs1];exact gf.out,gw⟩
   case round =>
    obtain⟨i,k,hi,gH,rfl,rfl,HK,g2,g0,gv⟩:=hrel;have e0:=(g2.cell (p:=⟨w.heap.size,0,none⟩) (Zab d0)).trans d0;have e1:=(g2.cell (p:=⟨w.heap.size,1,none⟩) (Zab d1)).trans d1;have e2:=(g2.cell (p:=⟨w.heap.size,2,none⟩) (Zab d2)).trans d2;have g3:=Hd g2;have gC:=Hd g0;clear g2 d0' d1' d2'
    by_cases gx:i<n
    .
     clear g0;obtain⟨b,off,x0,x1,x2,rfl,c0,c1,c2,hx⟩:=H5.out i gx;have g4:=g5.out.trans (g3.out.mono g5.out.size);have q0:=(g4.cell (p:=⟨b,off+i*3,none⟩) (Zab c0)).trans c0;have q1:=(g4.cell (p:=⟨b,off+i*3+1,none⟩) (Zab c1)).trans c1;have q2:=(g4.cell (p:=⟨b,off+i*3+2,none⟩) (Zab c2)).trans c2;have HX:=Hd (hx.below g4);have gD:=Hd (gp.out.below g4);have gA:(i:Int)<n:=by omega
     have gr:Hid (∀ y,f i=y->k+(if y then 1 else 0)=cntT (i+1) f):=Hd fun y hy=>by rw[<- hy,HK.out];rfl
     clear c0 c1 c2 hx g4;go_wp2_with fail;refine(IH.out i _ _ (by omega) HX.out gD.out).mono ?_;rintro y w3 ⟨rfl,gn⟩;have gi:=Hd gn;clear gn;go_upto_region 7 with fail;rw[gE.out];obtain⟨y,hy⟩:∃ y,f i=y:=⟨_,rfl⟩;rw[hy];have gq:=Hd (gr.out y hy);have gh:=Hd (gC.out.below gi.out);have ge:w1.heap.size<=w3.heap.size:=Nat.le_trans gv gi.out.size;have gj:=Hd (g3.out.trans (gi.out.mono g3.out.size));have go:Hid (Zby ((List.range (i+1)).map f)=Zby ((List.range i).map f)++[.bool y]):=Hd (by rw[Zk5,Zgw,hy]);clear gr hy q0 q1 q2 e0 e1 e2;go_upto_region 8 with (at_builtin;refine Zb1 Zhd _ rfl _ _ rfl w1.heap.size _ (Zby ((List.range i).map f)) _ rfl rfl rfl rfl rfl (by exact gh.out) (by simp[Zby];omega) ge ?_;intro v4 w4 gc q1 q2 q3 q4 gm)
     have gt:=Hd (Zha gj.out gh.out q1 q2 q3 q4 gm ge);have gg:=Hd gc;have gd:w1.heap.size<=w4.heap.size:=by omega
     clear gc q1 q2 q3 q4 gm;cases y with
     | true =>
       go_wp2_with fail;go_roundw
       case rel=>exact⟨i+1,k+1,by omega,by omega,by go_num,by go_num,Hd gq.out,gt.out,by unfold OwnB;rw[go.out];exact gg.out,gd⟩
       case measure=>simp[intOf];omega
     | false =>
       go_wp2_with fail;go_roundw
       case rel=>exact⟨i+1,k,by omega,by omega,by go_num,by go_num,Hd gq.out,gt.out,by unfold OwnB;rw[go.out];exact gg.out,gd⟩
       case measure=>simp[intOf];omega
    .
     have he:i=n:=by omega
     subst he;have gA:¬ (i:Int)<i:=by omega
     have HF:Hid (∀ b:Bool,b=B->Ending.returned (.bool b)=.returned (.bool B)/\Below w.heap.size w wr):=Hd fun b hb=>⟨by rw[hb],g5.out.trans (g3.out.mono g5.out.size)⟩
     have g1:0<i->∃ g cap,u6=.slice (some ⟨g,0,none⟩) i cap/\∀ j,j<i->wr.cell? ⟨g,j,none⟩=some (.bool (f j)):=by
      intro hp;obtain⟨g,cap,e,_⟩:=g0.shape (by simp[Zby];omega);have e':u6=.slice (some ⟨g,0,none⟩) i cap:=by rw[e];simp[Zby]
      refine⟨g,cap,e',fun j hj=>?_⟩;rw[e'] at g0;have:=g0.cellB j (by simp;omega);rw[this];simp[List.getD,hj]
     clear g0;rcases(show op=1\/op=2\/op=3\/op=4\/op=5\/op=6\/op=7\/op=8\/op=9\/op=10 by omega) with rfl|rfl|rfl|rfl|rfl|rfl|rfl|rfl|rfl|rfl
     . go_wp2_with fail;go_ret;exact HF.out _ (by rw[HE.out];rfl)
     . go_wp2_with fail;go_ret;exact HF.out _ (by rw[HE.out];rfl)
     .
      obtain⟨v5,v6⟩:=v2 rfl;obtain⟨u,rfl⟩:∃ u:Nat,v=(u:Int):=⟨v.toNat,by omega⟩;have gs:Hid (B=Zcb ls u):=Hd (by rw[HE.out];rfl)
      by_cases hu:u<ls.length
      .
       obtain⟨bl,ol,rfl,cl0⟩:=(gp.out.below (g5.out.trans (g3.out.mono g5.out.size))).cells u hu;have gu:(u:Int)<ls.length:=by omega
       have g7:Hid (B=ls.getD u false):=gs;obtain⟨yy,gk⟩:∃ yy,yy=ls.getD u false:=⟨_,rfl⟩;rw[<- gk] at cl0 g7;clear gk;go_wp2_with fail;go_ret;exact HF.out _ g7.out.symm
      .
       have gu:¬ (u:Int)<ls.length:=by omega
       have g7:Hid (B=false):=Hd (by rw[gs.out];unfold Zcb;simp[List.getD,List.getElem?_eq_none (show ls.length<=u by omega)]);go_wp2_with fail;go_ret;exact HF.out _ g7.out.symm
     . have HV:Hid (((k:Int) == 0)=B):=Hd (by rw[HE.out,HK.out];exact Zpb _ 0);go_wp2_with fail;go_ret;exact HF.out _ HV.out
     . have HV:Hid (((k:Int) == (i:Int))=B):=Hd (by rw[HE.out,HK.out];exact Zpb _ i);go_wp2_with fail;go_ret;exact HF.out _ HV.out
     .
      have HV:Hid (decide (0<k)=B):=Hd (by
       rw[HE.out,HK.out];rfl)
      go_wp2_with fail;go_ret;exact HF.out _ HV.out
     . have HV:Hid (((k:Int).tmod 2 == 1)=B):=Hd (by rw[HE.out,HK.out];exact tmod2 _);go_wp2_with fail;go_ret;exact HF.out _ HV.out
     .
      have:=gz (.inl rfl);subst this;obtain⟨g,cap,rfl,hc⟩:=g1 (by omega);have c0:=hc 0 (by omega);have c1:=hc 1 (by omega);have HV:Hid ((!(f 0)||f 1)=B):=Hd (by rw[HE.out];rfl);obtain⟨y0,g9⟩:∃ y,y=f 0:=⟨_,rfl⟩;obtain⟨y1,g8⟩:∃ y,y=f 1:=⟨_,rfl⟩;rw[<- g9] at c0 HV;rw[<- g8] at c1 HV;clear g9 g8 hc g1;cases y0 with
      | true =>
        go_wp2_with fail;go_ret;exact HF.out _ HV.out
      | false =>
        go_wp2_with fail;go_ret;exact HF.out _ HV.out
     .
      have HV:Hid (((k:Int) != 1)=B):=Hd (by
       rw[HE.out,HK.out]
       show (!((cntT i f:Int) == ((1:Nat):Int)))=decide (cntT i f≠1)
       rw[Zpb]
       by_cases h:cntT i f=1<;>simp[h])
      go_wp2_with fail;go_ret;exact HF.out _ HV.out
     .
      have:=gy rfl;subst this;obtain⟨g,cap,rfl,hc⟩:=g1 (by omega);have c0:=hc 0 (by omega);have c1:=hc 1 (by omega);have c2:=hc 2 (by omega);have HV:Hid (iteB (f 0) (f 1) (f 2)=B):=Hd (by rw[HE.out];rfl);obtain⟨y0,g9⟩:∃ y,y=f 0:=⟨_,rfl⟩;obtain⟨y1,g8⟩:∃ y,y=f 1:=⟨_,rfl⟩;obtain⟨y2,gl⟩:∃ y,y=f 2:=⟨_,rfl⟩;rw[<- g9] at c0 HV;rw[<- g8] at c1 HV;rw[<- gl] at c2 HV;clear g9 g8 gl hc g1;cases y0 with
      | true =>
        go_wp2_with fail;go_ret;exact HF.out _ HV.out
      | false =>
        go_wp2_with fail;go_ret;exact HF.out _ HV.out
open Go.RowKit
section
variable {P:Program}{ops:Array Oper}{S:World->Prop}{Q:Exit->Act->World->Prop}{last:Bool}
theorem Zrs {o:Oper}{r:List (Option Oper×Bool)}{a:Act}{w w':World}{v:Value}(hw:Region.wanted o (yielded ops a.tmps)=true)
 (he:(execOp a.eval o).run P w=.ok (.value v) w') (hS:S w') (h:Zce P ops Q S last r (a.put o.dst v) w'):Zce P ops Q S last ((some o,true)::r) a w:=by
 unfold Zce;simp only[hw,if_true,Oper.wp,he,Oper.upon];exact⟨.inr hS,h⟩
theorem Zrr {o:Oper}{r:List (Option Oper×Bool)}{a:Act}{w:World}{f:FuncId}{args:Array Value}{R:Value->World->Prop}(hw:Region.wanted o (yielded ops a.tmps)=true)
 (he:(execOp a.eval o).run P w=.ok (.enter f args) w) (hc:Calls P f args w fun e w'=>∃ v,e=.returned v/\S w'/\R v w')
 (h:∀ v w',S w'->R v w'->Zce P ops Q S last r (a.put o.dst v) w'):Zce P ops Q S last ((some o,true)::r) a w:=by
 unfold Zce;simp only[hw,if_true,Oper.wp,he,Oper.upon];exact hc.mono fun e w' ⟨v,h1,h2,h3⟩=>by subst h1;exact⟨.inr h2,h v w' h2 h3⟩
end
theorem Zen (mb:Nat)(b:Bool)(w:World):Calls prog 121 #[.pointer (some ⟨mb,0,none⟩),.bool b] w fun x w'=>x=.returned (.int .i64 (if b then 1 else 0))/\w=w':=by
 cases b with
 | true =>
   go_enter func121,ntmps121
   go_wp2_with fail;go_ret;exact⟨rfl,rfl⟩
 | false =>
   go_enter func121,ntmps121
   go_wp2_with fail;go_ret;exact⟨rfl,rfl⟩
theorem Zyj {α:Type}{l:List α}(h:l.length=2):∃ a b,l=[a,b]:=by
 match l,h with
 | [a,b],_=>exact⟨a,b,rfl⟩
theorem Ztq {α:Type}{l:List α}(h:l.length=3):∃ a b c,l=[a,b,c]:=by
 match l,h with
 | [a,b,c],_=>exact⟨a,b,c,rfl⟩
theorem Zqj {f:Nat->Nat}(h:∀ i,1<=f i):∀ k,k<=sumN k f
 | 0=>Nat.zero_le _
 | k+1=>by
   have:=Zqj h k;have:=h k
   show k+1<=sumN k f+f k
   omega
section
variable {K:Law}{n:Nat}{Od:List Nat->Prop}{room:Nat}{w0 w w' w'':World}{mb:Nat}{fs fs':List (Int×BF)}{nx nx':Int}{o o':Own}{m m':ManD}{V V':Nat->BF}
theorem Goes.refl {M:Nat}(h:SatE K n Od room w0 mb fs nx w o m V)(hw:m.waits=[]/\m.d.pool.many<=M):Goes K n Od room w0 mb fs nx (NoW M) o w w:=⟨o,m,V,ChgX.of_below (Below.refl _ _) o NoB,hw,h⟩
theorem Goes.after {Wt:List Ev->Int->Nat->Prop}(hc:ChgX NoB o o' w w')(g:Goes K n Od room w0 mb fs nx Wt o' w' w''):Goes K n Od room w0 mb fs nx Wt o w w'':=by
 obtain⟨o2,m2,V2,h1,h2,h3⟩:=g;exact⟨o2,m2,V2,hc.trans h1 (fun _ _ e=>e),h2,h3⟩
theorem Goes.cell {Wt:List Ev->Int->Nat->Prop}(g:Goes K n Od room w0 mb fs nx Wt o w w'){p:Addr}{v:Value}(hc:w.cell? p=some v)(hb:o p.block=none):w'.cell? p=some v:=by
 obtain⟨o2,m2,V2,h1,h2,h3⟩:=g;exact h1.cell hc hb (fun e=>e)
theorem Goes.below0 {Wt:List Ev->Int->Nat->Prop}(g:Goes K n Od room w0 mb fs nx Wt o w w'):Below w0.heap.size w0 w':=by
 obtain⟨o2,m2,V2,h1,h2,h3⟩:=g;exact h3.chg.below0
structure BuiT (K:Law)(n:Nat)(Od:List Nat->Prop)(room:Nat)(w0:World)(mb:Nat)(fs:List (Int×BF))(nx:Int)(M:Nat)(o:Own)(w:World)(vl:Value)(ks:List Int)(W:World)(o':Own)(m':ManD)(V':Nat->BF):Prop where
 sat:SatE K n Od room w0 mb fs nx W o' m' V'
 waits:m'.waits=[]/\m'.d.pool.many<=M
 chg:ChgX NoB o o' w W
 l:LawL W o' w.heap.size vl ks
def BuiS (K:Law)(n:Nat)(Od:List Nat->Prop)(room:Nat)(w0:World)(mb:Nat)(fs:List (Int×BF))(nx:Int)(M:Nat)(o:Own)(w:World)(vl:Value)(ks:List Int)(W:World):Prop:=∃ o' m' V',BuiT K n Od room w0 mb fs nx M o w vl ks W o' m' V'
section
variable {M:Nat}{vl vl':Value}{ks:List Int}{W W':World}
theorem BuiT.go (h:BuiT K n Od room w0 mb fs nx M o w vl ks W o' m' V'){M':Nat}(g:Goes K n Od room w0 mb fs' nx' (NoW M') o' W W'):BuiS K n Od room w0 mb fs' nx' M' o w vl ks W':=by
 obtain⟨o2,m2,V2,h1,h2,h3⟩:=g;exact⟨o2,m2,V2,h3,h2,h.chg.trans h1 (fun _ _ e=>e),h.l.chg h1⟩
theorem BuiT.refl (h:BuiT K n Od room w0 mb fs nx M o w vl ks W o' m' V'):Goes K n Od room w0 mb fs nx (NoW M) o' W W:=Goes.refl h.sat h.waits
theorem BuiS.below (h:BuiS K n Od room w0 mb fs nx M o w vl ks W)(hb:Below W.heap.size W W'):BuiS K n Od room w0 mb fs nx M o w vl ks W':=by
 obtain⟨o',m',V',h⟩:=h;exact h.go (h.refl.below hb)
theorem BuiS.goes (h:BuiS K n Od room w0 mb fs nx M o w vl ks W):Goes K n Od room w0 mb fs nx (NoW M) o w W:=by
 obtain⟨o',m',V',h⟩:=h;exact⟨o',m',V',h.chg,h.waits,h.sat⟩
theorem BuiS.app {k:Int}(h:BuiT K n Od room w0 mb fs nx M o w vl ks W o' m' V')(hown:OwnC 3 W' w.heap.size vl' (Za0 ks++[.int .i64 k]))(e1:W'.os=W.os)(e2:W'.tape=W.tape)(e3:W'.output=W.output)(e4:W.heap.size<=W'.heap.size)(hk:Zch vl vl' W W')(hw0:w0.heap.size<=w.heap.size) :
 BuiS K n Od room w0 mb fs nx M o w vl' (ks++[k]) W':=by
 have hw:=Zlc e1 e2 e3 e4 hk;exact⟨o',m',V',h.sat.other hw (fun k _ hk=>⟨by have:=(h.l.own.lt k hk).1;omega,h.l.no k hk⟩),h.waits,h.chg.trans (ChgX.of_wr (C:=fun k=>w.heap.size<=k) hw o' (fun k _ hk=>(h.l.own.lt k hk).1)) (fun k hk e=>by omega),h.l.app h.sat.lt hown hk⟩
theorem BuiS.cells (h:BuiS K n Od room w0 mb fs nx M o w vl ks W)(hp:0<ks.length):∃ g c,vl=.slice (some ⟨g,0,none⟩) ks.length c/\∀ j,j<ks.length->W.cell? ⟨g,j,none⟩=some (.int .i64 (at0 ks j)):=by
 obtain⟨o',m',V',h⟩:=h;obtain⟨g,c,e,_⟩:=h.l.own.shape (by simpa [Za0] using hp);have e':vl=.slice (some ⟨g,0,none⟩) ks.length c:=by rw[e];simp[Za0]
 refine⟨g,c,e',fun j hj=>?_⟩;have ho:=h.l.own;rw[e'] at ho;rw[ho.cell j (by simpa [Za0] using hj)];simp[Za0,Zca hj,hj]
theorem BuiS.cellsN (h:BuiS K n Od room w0 mb fs nx M o w vl ks W){i:Nat}(hl:ks.length=i)(hp:0<i):∃ g c,vl=.slice (some ⟨g,0,none⟩) i c/\∀ j,j<i->W.cell? ⟨g,j,none⟩=some (.int .i64 (at0 ks j)):=by
 subst hl;exact h.cells hp
end
def Zgz (n s:Nat):Nat:=s*2^n-(2^n-1)
theorem Zhc (n:Nat){s:Nat}(h:1<=s):Zgz n s+(2^n-1)=s*2^n:=by
 have:=Nat.mul_le_mul_right (2^n) h;unfold Zgz;omega
def Zeh (n:Nat)(kid:Nat->ExT)(i:Nat):Nat:=sumN i fun j=>Zgz n (kid j).size
theorem Zmy (n:Nat)(kid:Nat->ExT):∀ i,Zeh n kid i+i*(2^n-1)=(sumN i fun i=>(kid i).size)*2^n
 | 0=>by simp[Zeh,sumN]
 | i+1=>by
   have h1:=Zmy n kid i;have h2:=Zhc n (kid i).size_pos
   show Zeh n kid i+Zgz n (kid i).size+(i+1)*(2^n-1)=((sumN i fun i=>(kid i).size)+(kid i).size)*2^n
   rw[Nat.add_mul,Nat.add_mul];omega
structure BCtx (K:Law)(n:Nat)(Od:List Nat->Prop)(room:Nat)(w0:World)(mb:Nat)(fs:List (Int×BF))(nx:Int)(M:Nat)(w w1:World)(o:Own)(m:ManD)(V:Nat->BF)(op v:Int)(nk:Nat)(kid:Nat->ExT)(a:Option Addr)(c:Nat)(E:ExT)(Q:Ending->World->Prop):Prop where
 HKK:Hid (Zbu K)
 H5:Hid (∀ k,k<nk->∃ b off x0 x1 x2,a=some ⟨b,off,none⟩/\w0.cell? ⟨b,off+k*3,none⟩=some x0/\w0.cell? ⟨b,off+k*3+1,none⟩=some x1/\w0.cell? ⟨b,off+k*3+2,none⟩=some x2/\Zbd w0 (kid k) (.agg #[x0,x1,x2]))
 HKS:Hid (∀ i,i<nk->(sumN i fun i=>(kid i).size)+(kid i).size+1<=E.size)
 HSZ:Hid (E.size=1+sumN nk fun i=>(kid i).size)
 HPOS:Hid (∀ k,k<=sumN k fun i=>(kid i).size)
 IH:Hid (∀ (i:Nat) (x:Value) (fs':List (Int×BF)) (nx':Int) (W:World) (o':Own) (m':ManD) (V':Nat->BF) (M':Nat),i<nk->SatE K n Od room w0 mb fs' nx' W o' m' V'->m'.waits=[]/\m'.d.pool.many<=M'->B2 fs'->Zbd w0 (kid i) x->nx'+3*(kid i).size<549755813000->M'+(kid i).size*2^n<=room ->
  Calls prog 66 #[.pointer (some ⟨mb,0,none⟩),x] W fun y w'=>∃ k:Int,y=.returned (.tuple #[.int .i64 k,.bool true])/\k+3<=nx'+3*(kid i).size/\Goes K n Od room w0 mb (fs'++[(k,fnT (kid i))]) (k+1) (NoW (M'+Zgz n (kid i).size)) o' W w')
 HW1:Hid (w.alloc (.cells #[.int .i64 op,.int .i64 v,.slice a nk c] 98)=w1)
 HG1:Hid (Goes K n Od room w0 mb fs nx (NoW M) o w1 w1)
 HSAT1:Hid (SatE K n Od room w0 mb fs nx w1 o m V)
 HWT:Hid (m.waits=[]/\m.d.pool.many<=M)
 HB2:Hid (B2 fs)
 HQ:Hid (∀ (k:Int) F W M',F=fnT E->k+3<=nx+3*E.size->M'<=M+Zgz n E.size->Goes K n Od room w0 mb (fs++[(k,F)]) (k+1) (NoW M') o w1 W->Q (.returned (.tuple #[.int .i64 k,.bool true])) W)
 HMR:Hid (∀ i,i<nk->M+(sumN i fun i=>(kid i).size)*2^n+(kid i).size*2^n+2^n<=room)
 HCK:Hid (∀ i,Zeh n kid i+i*(2^n-1)=(sumN i fun i=>(kid i).size)*2^n)
 HCI:Hid (∀ i,Zgz n (kid i).size+(2^n-1)=(kid i).size*2^n)
 HEP:Hid (E.size*2^n=2^n+(sumN nk fun i=>(kid i).size)*2^n/\Zgz n E.size+(2^n-1)=E.size*2^n)
 HME:Hid (M+E.size*2^n<=room)
 hn64:nk<=64
 hnx:nx+3*E.size<549755813000
 hE1:1<=E.size
 hs1:w1.heap.size=w.heap.size+1
 d0:w1.cell? ⟨w.heap.size,0,none⟩=some (.int .i64 op)
 d1:w1.cell? ⟨w.heap.size,1,none⟩=some (.int .i64 v)
 d2:w1.cell? ⟨w.heap.size,2,none⟩=some (.slice a nk c)
 on:o w.heap.size=none
 hw0:w0.heap.size<=w1.heap.size
 hp2:0<2^n
 h2 : -9223372036854775808<=op/\op<=9223372036854775807
 h3 : -9223372036854775808<=v/\v<=9223372036854775807
theorem Zqz {w1:World}{op v:Int}{nk:Nat}{kid:Nat->ExT}{a:Option Addr}{c:Nat}{E:ExT}{Q:Ending->World->Prop}{M:Nat}(hctx:BCtx K n Od room w0 mb fs nx M w w1 o m V op v nk kid a c E Q)(h1:op=1)(hF:fnT E=fun _=>true) :
 Calls prog 66 #[.pointer (some ⟨mb,0,none⟩),.agg #[.int .i64 op,.int .i64 v,.slice a nk c]] w Q:=by
 obtain⟨HKK,H5,HKS,HSZ,HPOS,IH,HW1,HG1,HSAT1,HWT,HB2,HQ,HMR,HCK,HCI,HEP,HME,hn64,hnx,hE1,hs1,d0,d1,d2,on,hw0,hp2,h2,h3⟩:=hctx;subst h1;have g2:=Hd (Zen mb true w1);have g1:=Hd (Zli HKK.out HG1.out (by omega) (k:=1) (F:=fun _=>true) HB2.out.one);have g0:Hid ((fun _=>true)=fnT E):=Hd hF.symm;have g3:Hid (M<=M+Zgz n E.size):=Hd (Nat.le_add_right _ _);clear IH
 go_enter func66,ntmps66
 go_upto_region 1 with fail;rw[HW1.out];go_wp2_with fail;refine g2.out.mono ?_;rintro y w' ⟨rfl,rfl⟩;go_wp2_with fail;refine g1.out.mono ?_;rintro y w2 ⟨rfl,g⟩;have HF:=Hd (HQ.out nx _ w2 _ g0.out (by omega) g3.out g);clear g;go_wp2_with fail;exact HF.out
theorem Zow {w1:World}{op v:Int}{nk:Nat}{kid:Nat->ExT}{a:Option Addr}{c:Nat}{E:ExT}{Q:Ending->World->Prop}{M:Nat}(hctx:BCtx K n Od room w0 mb fs nx M w w1 o m V op v nk kid a c E Q)(h1:op=2)(hF:fnT E=fun _=>false) :
 Calls prog 66 #[.pointer (some ⟨mb,0,none⟩),.agg #[.int .i64 op,.int .i64 v,.slice a nk c]] w Q:=by
 obtain⟨HKK,H5,HKS,HSZ,HPOS,IH,HW1,HG1,HSAT1,HWT,HB2,HQ,HMR,HCK,HCI,HEP,HME,hn64,hnx,hE1,hs1,d0,d1,d2,on,hw0,hp2,h2,h3⟩:=hctx;subst h1;have g2:=Hd (Zen mb false w1);have g1:=Hd (Zli HKK.out HG1.out (by omega) (k:=0) (F:=fun _=>false) HB2.out.zero);have g0:Hid ((fun _=>false)=fnT E):=Hd hF.symm;have g3:Hid (M<=M+Zgz n E.size):=Hd (Nat.le_add_right _ _);clear IH
 go_enter func66,ntmps66
 go_upto_region 1 with fail;rw[HW1.out];go_wp2_with fail;refine g2.out.mono ?_;rintro y w' ⟨rfl,rfl⟩;go_wp2_with fail;refine g1.out.mono ?_;rintro y w2 ⟨rfl,g⟩;have HF:=Hd (HQ.out nx _ w2 _ g0.out (by omega) g3.out g);clear g;go_wp2_with fail;exact HF.out
theorem Zst {w1:World}{op v:Int}{nk:Nat}{kid:Nat->ExT}{a:Option Addr}{c:Nat}{E:ExT}{Q:Ending->World->Prop}{M:Nat}(hctx:BCtx K n Od room w0 mb fs nx M w w1 o m V op v nk kid a c E Q){u:Nat}(hu:u<n)(h1:op=3)(hvu:v=u)(hF:fnT E=varF u) :
 Calls prog 66 #[.pointer (some ⟨mb,0,none⟩),.agg #[.int .i64 op,.int .i64 v,.slice a nk c]] w Q:=by
 obtain⟨HKK,H5,HKS,HSZ,HPOS,IH,HW1,HG1,HSAT1,HWT,HB2,HQ,HMR,HCK,HCI,HEP,HME,hn64,hnx,hE1,hs1,d0,d1,d2,on,hw0,hp2,h2,h3⟩:=hctx;subst hvu;subst h1;have g1:=Hd (Zzw HKK.out HG1.out (by omega) (by have:=HEP.out;have:=HME.out;omega) hu);have g0:Hid (varF u=fnT E):=Hd hF.symm;have g2:Hid (M+1<=M+Zgz n E.size):=Hd (by have:=HEP.out;omega);clear IH
 go_enter func66,ntmps66
 go_upto_region 1 with fail;rw[HW1.out];go_wp2_with fail;refine g1.out.mono ?_;rintro y w2 ⟨rfl,g⟩;have HF:=Hd (HQ.out nx _ w2 _ g0.out (by omega) g2.out g);clear g;go_wp2_with fail;exact HF.out
end
open Go.RowKit
section
variable {K:Law}{n:Nat}{Od:List Nat->Prop}{room:Nat}{w0 w w' w'':World}{mb:Nat}{fs fs':List (Int×BF)}{nx nx':Int}{o o':Own}{m m':ManD}{V V':Nat->BF}
theorem Zsp {w1:World}{op v:Int}{nk:Nat}{kid:Nat->ExT}{a:Option Addr}{c:Nat}{E:ExT}{Q:Ending->World->Prop}{M:Nat}(hctx:BCtx K n Od room w0 mb fs nx M w w1 o m V op v nk kid a c E Q)(h1:op=5\/op=6\/op=7)(hF:fnT E=accT op kid nk) :
 Calls prog 66 #[.pointer (some ⟨mb,0,none⟩),.agg #[.int .i64 op,.int .i64 v,.slice a nk c]] w Q:=by
 obtain⟨HKK,H5,HKS,HSZ,HPOS,IH,HW1,HG1,HSAT1,HWT,HB2,HQ,HMR,HCK,HCI,HEP,HME,hn64,hnx,hE1,hs1,d0,d1,d2,on,hw0,hp2,h2,h3⟩:=hctx;have ga:5<=op/\op<=9:=by omega
 have gb:Hid (accT op kid nk=fnT E):=Hd hF.symm;have gc:=Hd (fun b=>Zen mb b w1)
 have g8:Hid (∀ z:Int,z=(if op=5 then 1 else 0)->Calls prog 119 #[.pointer (some ⟨mb,0,none⟩),.int .i64 z] w1 fun x w''=>x=.returned (.tuple #[.int .i64 nx,.int .i64 0])/\Goes K n Od room w0 mb (fs++[(nx,accT op kid 0)]) (nx+1) (NoW M) o w1 w''):=Hd (by
  rintro z rfl
  by_cases e:op=5
  . rw[if_pos e,show accT op kid 0=fun _=>true by unfold accT;simp[e]];exact Zli HKK.out HG1.out (by omega) HB2.out.one
  . rw[if_neg e,show accT op kid 0=fun _=>false by unfold accT;simp[e]];exact Zli HKK.out HG1.out (by omega) HB2.out.zero)
 obtain⟨A,hA⟩:∃ A:Nat->BF,A=accT op kid:=⟨_,rfl⟩;have gi:Hid (∀ i,Znn op (A i) (fnT (kid i))=A (i+1)):=Hd fun i=>by rw[hA];rfl
 rw[<- hA] at g8 gb;clear hA;rcases h1 with h1|h1|h1
 all_goals
  subst h1
  go_enter func66,ntmps66
  go_upto_region 1 with fail;rw[HW1.out];go_wp2_with fail;refine(gc.out _).mono ?_;rintro y w' ⟨rfl,rfl⟩;go_wp2_with fail;refine(g8.out _ (by rfl)).mono ?_;rintro y w2 ⟨rfl,g⟩;have gh:=Hd g;clear g gc g8;go_wp2_with fail
  go_loopw [10,12,13,14] (fun s10 s12 s13 s14 wr=>∃ (i:Nat) (k:Int),i<=nk/\s10=.int .i64 k/\s12=.bool true/\s13=.int .i64 i/\Hid (k+3<=nx+3*((1+sumN i fun i=>(kid i).size:Nat):Int))/\Hid (Goes K n Od room w0 mb (fs++[(k,A i)]) (k+1) (NoW (M+(sumN i fun i=>(kid i).size)*2^n)) o w1 wr)) (fun _ _ s13 _ _=>nk-(intOf s13).toNat)
  case atStart=>exact⟨0,nx,Nat.zero_le _,rfl,rfl,rfl,Hd (by show nx+3<=nx+3*((1+0:Nat):Int);omega),Hd (gh.out.more (Nat.le_add_right _ _))⟩
  case round =>
   obtain⟨i,k,hi,rfl,rfl,rfl,HN,HG⟩:=hrel;have e0:=HG.out.cell (p:=⟨w.heap.size,0,none⟩) d0 on;have e2:=HG.out.cell (p:=⟨w.heap.size,2,none⟩) d2 on
   by_cases g0:i<nk
   .
    obtain⟨b,off,x0,x1,x2,rfl,c0,c1,c2,hx⟩:=H5.out i g0;have g1:=HG.out.below0;have q0:=(g1.cell (p:=⟨b,off+i*3,none⟩) (Zab c0)).trans c0;have q1:=(g1.cell (p:=⟨b,off+i*3+1,none⟩) (Zab c1)).trans c1;have q2:=(g1.cell (p:=⟨b,off+i*3+2,none⟩) (Zab c2)).trans c2;have ge:(i:Int)<nk:=by omega
    have gk:=HKS.out i g0;obtain⟨o1,m1,V1,g9,g5,g6⟩:=HG.out;have gj:=HN.out;have g2:=Hd (IH.out i _ (fs++[(k,A i)]) (k+1) _ o1 m1 V1 _ g0 g6 g5 (HB2.out.app _) hx (by omega) (by have:=HMR.out i g0;omega));have gd:=Hd g9;clear g1 c0 c1 c2 hx g6 g5 g9;go_wp2_with fail;refine g2.out.mono ?_;rintro y w3 ⟨k2,rfl,gm,g3⟩
    have g7:Hid (Goes K n Od room w0 mb (fs++[(k,A i),(k2,fnT (kid i))]) (k2+1) (NoW (M+(sumN i fun i=>(kid i).size)*2^n+Zgz n (kid i).size)) o w1 w3):=Hd (by
     have:=g3.after gd.out;rw[List.append_assoc] at this;exact this)
    have f0:=g7.out.cell (p:=⟨w.heap.size,0,none⟩) d0 on;have HJ:=Hd (Zpz HKK.out g7.out HB2.out (by omega) (by have:=HMR.out i g0;have:=HCI.out i;omega) ga.1 ga.2);clear g3 g2 gd q0 q1 q2 e0 e2;go_wp2_with fail;refine HJ.out.mono ?_;rintro y w4 ⟨k4,rfl,gl,g4⟩
    have gg:Hid (Goes K n Od room w0 mb (fs++[(k4,A (i+1))]) (k4+1) (NoW (M+(sumN (i+1) fun i=>(kid i).size)*2^n)) o w1 w4):=Hd (by
     rw[<- gi.out i];refine g4.more ?_
     show _<=M+((sumN i fun i=>(kid i).size)+(kid i).size)*2^n
     rw[Nat.add_mul];have:=HCI.out i;omega)
    have gf:Hid (k4+3<=nx+3*((1+sumN (i+1) fun i=>(kid i).size:Nat):Int)):=Hd (by
     show k4+3<=nx+3*((1+((sumN i fun i=>(kid i).size)+(kid i).size):Nat):Int)
     omega)
    clear g4 HJ f0 g7;go_wp2_with fail;go_roundw
    case rel=>exact⟨i+1,k4,by omega,rfl,rfl,by go_num,gf,gg⟩
    case measure=>simp[intOf];omega
   .
    obtain rfl:i=nk:=by omega
    have ge:¬ (i:Int)<i:=by omega
    have HF:=Hd (HQ.out k _ _ _ gb.out (by have:=HN.out;have:=HSZ.out;omega) (by have:=HEP.out;omega) HG.out);go_wp2_with fail;exact HF.out
end
open Go.RowKit
section
variable {K:Law}{n:Nat}{Od:List Nat->Prop}{room:Nat}{w0 w w' w'':World}{mb:Nat}{fs fs':List (Int×BF)}{nx nx':Int}{o o':Own}{m m':ManD}{V V':Nat->BF}
theorem Zsr {w1:World}{op v:Int}{nk:Nat}{kid:Nat->ExT}{a:Option Addr}{c:Nat}{E:ExT}{Q:Ending->World->Prop}{M:Nat}(hctx:BCtx K n Od room w0 mb fs nx M w w1 o m V op v nk kid a c E Q)(h1:op=4)(hnk:nk=1)(hF:fnT E=notF (fnT (kid 0))) :
 Calls prog 66 #[.pointer (some ⟨mb,0,none⟩),.agg #[.int .i64 op,.int .i64 v,.slice a nk c]] w Q:=by
 obtain⟨HKK,H5,HKS,HSZ,HPOS,IH,HW1,HG1,HSAT1,HWT,HB2,HQ,HMR,HCK,HCI,HEP,HME,hn64,hnx,hE1,hs1,d0,d1,d2,on,hw0,hp2,h2,h3⟩:=hctx;have g1:(op == 1)=false:=by simp;omega
 have g2:(op == 2)=false:=by simp;omega
 have g3:(op == 3)=false:=by simp;omega
 have g5:(op == 5)=false:=by simp;omega
 have g6:(op == 6)=false:=by simp;omega
 have g7:(op == 7)=false:=by simp;omega
 have g4:(op == 4)=true:=by simp;omega
 have gB:=Hd hnk;clear h1 hnk;obtain⟨w2,ge⟩:∃ w2,w2=w1.alloc (.cells #[] 3):=⟨_,rfl⟩;have gA:Hid (_=w2):=Hd ge.symm;have g9:Below w1.heap.size w1 w2:=by rw[ge];exact Zaf _ _
 have gl:Hid (BuiS K n Od room w0 mb (fs++[]) nx (M+Zeh n kid 0) o w1 (.slice (some ⟨w.heap.size+1,0,none⟩) 0 0) (([]:List (Int×BF)).map Prod.fst) w2):=Hd ⟨o,m,V,by rw[List.append_nil];exact HSAT1.out.below g9,HWT.out,Zcx g9 o,by rw[ge,<- hs1];exact Zfe _ _ _ (Nat.le_refl _),fun k hk=>by cases hk;rw[<- hs1];exact HSAT1.out.lt.none (Nat.le_refl _)⟩;have gm:=Hd g9;clear ge g9
 go_enter func66,ntmps66
 go_upto_region 1 with fail;rw[HW1.out];go_upto_region 23 with fail;rw[gA.out];have e2:=(gm.out.cell (p:=⟨w.heap.size,2,none⟩) (Zab d2)).trans d2;go_wp2_with fail
 go_loopw [15,106] (fun s15 s106 wr=>∃ (i:Nat) (hs:List (Int×BF)) (nxi:Int),i<=nk/\s106=.int .i64 i/\hs.length=i/\nxi+2*i<=nx+3*((sumN i fun i=>(kid i).size:Nat):Int)/\Hid (∀ j (hj:j<hs.length),hs[j].2=fnT (kid j))/\Hid (BuiS K n Od room w0 mb (fs++hs) nxi (M+Zeh n kid i) o w1 s15 (hs.map Prod.fst) wr)) (fun _ s106 _=>nk-(intOf s106).toNat)
 case atStart=>exact⟨0,[],nx,Nat.zero_le _,rfl,rfl,by show nx+2*((0:Nat):Int)<=nx+3*((0:Nat):Int);omega,Hd (fun j hj=>by simp at hj),gl⟩
 case round =>
  clear gl gm e2
  rename World=>wy
  obtain⟨i,hs,nxi,hi,rfl,gy,gG,gr,g0⟩:=hrel
  by_cases gh:i<nk
  .
   obtain⟨b,off,x0,x1,x2,rfl,c0,c1,c2,hx⟩:=H5.out i gh;have gi:=g0.out.goes.below0;have q0:=(gi.cell (p:=⟨b,off+i*3,none⟩) (Zab c0)).trans c0;have q1:=(gi.cell (p:=⟨b,off+i*3+1,none⟩) (Zab c1)).trans c1;have q2:=(gi.cell (p:=⟨b,off+i*3+2,none⟩) (Zab c2)).trans c2;obtain⟨zo,zv,za,zn,zc,rfl,rfl,rfl⟩:=hx.parts;have gx:(i:Int)<nk:=by omega
   have gI:=HKS.out i gh;obtain⟨wz,gd⟩:∃ wz,wz=wy.alloc (.cells #[.int .i64 zo,.int .i64 zv,.slice za zn zc] 98):=⟨_,rfl⟩;have gz:Hid (_=wz):=Hd gd.symm;have gq:Below wy.heap.size wy wz:=by rw[gd];exact Zaf _ _
   have g8:wz.heap[wy.heap.size]?=some (.cells #[.int .i64 zo,.int .i64 zv,.slice za zn zc] 98 (0,0)):=by rw[gd];exact heap_alloc_new _ _
   have p0:wz.cell? ⟨wy.heap.size,0,none⟩=some (.int .i64 zo):=by rw[cell_of_row _ _ 0 _ _ _ g8];rfl
   have p1:wz.cell? ⟨wy.heap.size,1,none⟩=some (.int .i64 zv):=by rw[cell_of_row _ _ 1 _ _ _ g8];rfl
   have p2:wz.cell? ⟨wy.heap.size,2,none⟩=some (.slice za zn zc):=by rw[cell_of_row _ _ 2 _ _ _ g8];rfl
   obtain⟨o1,m1,V1,bt⟩:=g0.out.below gq;have gF:=HPOS.out i;have gj:=Hd (IH.out i _ (fs++hs) nxi wz o1 m1 V1 _ gh bt.sat bt.waits (HB2.out.app _) hx (by omega) (by have:=HMR.out i gh;have:=HCK.out i;omega));have gb:=Hd bt;clear gi c0 c1 c2 hx bt gd gq g8 g0;go_upto_region 26 with fail;rw[gz.out];clear q0 q1 q2;go_wp2_with fail;refine gj.out.mono ?_;rintro y w3 ⟨k2,rfl,gJ,gg⟩;have gk:=Hd (gb.out.go (M':=M+Zeh n kid (i+1)) (gg.more (Nat.le_of_eq (Nat.add_assoc _ _ _))));have gD:Hid (∀ j (hj:j<(hs++[(k2,fnT (kid i))]).length),(hs++[(k2,fnT (kid i))])[j].2=fnT (kid j)):=Hd fun j hj=>by
    rcases Nat.lt_or_ge j hs.length with h|h
    . rw[List.getElem_append_left h];exact gr.out j h
    .
     have gw:j=i:=by simp at hj;omega
     subst gw;rw[List.getElem_append_right (by omega)];simp
   clear gg gj gb p0 p1 p2;obtain⟨o3,m3,V3,bt3⟩:=gk.out;have gu:w1.heap.size<=w3.heap.size:=bt3.chg.size;have gc:=Hd bt3;clear bt3;go_upto_region 30 with (at_builtin;refine Zb1 Zg1 _ rfl _ _ rfl w1.heap.size _ (Za0 (hs.map Prod.fst)) _ rfl rfl rfl rfl rfl (by exact gc.out.l.own) (by simp[Za0];omega) gu ?_;intro v5 w5 gf r1 r2 r3 r4 gn)
   have gv:Hid (BuiS K n Od room w0 mb (fs++(hs++[(k2,fnT (kid i))])) (k2+1) (M+Zeh n kid (i+1)) o w1 v5 ((hs++[(k2,fnT (kid i))]).map Prod.fst) w5):=Hd (by
    have:=BuiS.app gc.out gf r1 r2 r3 r4 gn hw0;rw[List.append_assoc] at this;rw[List.map_append];exact this)
   clear gf r1 r2 r3 r4 gn gc gk;go_wp2_with fail;go_roundw
   case rel=>exact⟨i+1,hs++[(k2,fnT (kid i))],k2+1,by omega,by go_num,by simp;omega,by
    show k2+1+2*((i+1:Nat):Int)<=nx+3*(((sumN i fun i=>(kid i).size)+(kid i).size:Nat):Int)
    omega,gD,gv⟩
   case measure=>simp[intOf];omega
  .
   obtain rfl:i=nk:=by omega
   have gx:¬ (i:Int)<i:=by omega
   have f0:=g0.out.goes.cell (p:=⟨w.heap.size,0,none⟩) d0 on;have gt:=HSZ.out;have gE:nxi+2*i+3<=nx+3*E.size:=by omega
   have hnk:=gB.out;have gH:1<=i:=by omega
   clear gt H5 IH HSZ HKS HPOS;obtain⟨o1,m1,V1,bt⟩:=g0.out;have gb:=Hd bt;clear bt;subst hnk;obtain⟨⟨k0,F0⟩,rfl⟩:=List.length_eq_one_iff.1 gy;obtain⟨g,cp,rfl,ga⟩:=g0.out.cellsN (i:=1) rfl (by omega);have c0:wy.cell? ⟨g,0,none⟩=some (.int .i64 k0):=ga 0 (by omega);have HF:Hid (notF F0=fnT E):=Hd (by rw[hF,<- gr.out 0 (by simp)];rfl);have HN:=Hd (Zxb HKK.out gb.out.refl (by omega) (k:=k0) (F:=F0) (by simp));clear ga;go_wp2_with fail;refine HN.out.mono ?_;rintro y w3 ⟨rfl,g3⟩;have gs:=Hd (gb.out.go g3);obtain⟨g',cp',ev,gp⟩:=gs.out.cellsN (i:=1) rfl (by omega);cases ev;have c3:w3.cell? ⟨g,0,none⟩=some (.int .i64 k0):=gp 0 (by omega);have HD:=Hd (Zlj HKK.out (hs:=[(k0,F0)]) (r:=[(nxi,notF F0)]) (by have:=gs.out.goes;rw[List.append_assoc] at this;exact this) HB2.out (by omega) (by simp) (T:=w3.alloc (.cells #[.int .i64 k0] 3)) rfl);clear g3 gp HN;go_wp2_with fail;refine HD.out.mono ?_;rintro y w4 ⟨rfl,g4⟩;have gC:=Hd (HQ.out nxi _ w4 _ HF.out (by omega) (by have:=HEP.out;have:=HCK.out 1;omega) g4);clear g4 HD;go_wp2_with fail;exact gC.out
end
open Go.RowKit
section
variable {K:Law}{n:Nat}{Od:List Nat->Prop}{room:Nat}{w0 w w' w'':World}{mb:Nat}{fs fs':List (Int×BF)}{nx nx':Int}{o o':Own}{m m':ManD}{V V':Nat->BF}
theorem Zss {w1:World}{op v:Int}{nk:Nat}{kid:Nat->ExT}{a:Option Addr}{c:Nat}{E:ExT}{Q:Ending->World->Prop}{M:Nat}(hctx:BCtx K n Od room w0 mb fs nx M w w1 o m V op v nk kid a c E Q)(h1:op=8\/op=9)(hnk:nk=2)(hF:fnT E=Znn op (fnT (kid 0)) (fnT (kid 1))) :
 Calls prog 66 #[.pointer (some ⟨mb,0,none⟩),.agg #[.int .i64 op,.int .i64 v,.slice a nk c]] w Q:=by
 obtain⟨HKK,H5,HKS,HSZ,HPOS,IH,HW1,HG1,HSAT1,HWT,HB2,HQ,HMR,HCK,HCI,HEP,HME,hn64,hnx,hE1,hs1,d0,d1,d2,on,hw0,hp2,h2,h3⟩:=hctx;have g1:(op == 1)=false:=by simp;omega
 have g2:(op == 2)=false:=by simp;omega
 have g3:(op == 3)=false:=by simp;omega
 have g5:(op == 5)=false:=by simp;omega
 have g6:(op == 6)=false:=by simp;omega
 have g7:(op == 7)=false:=by simp;omega
 have g4:(op == 4)=false:=by simp;omega
 have g10:(op == 10)=false:=by simp;omega
 have gA:=Hd hnk;have H1:=Hd h1;clear h1 hnk;obtain⟨w2,ge⟩:∃ w2,w2=w1.alloc (.cells #[] 3):=⟨_,rfl⟩;have gz:Hid (_=w2):=Hd ge.symm;have gb:Below w1.heap.size w1 w2:=by rw[ge];exact Zaf _ _
 have gm:Hid (BuiS K n Od room w0 mb (fs++[]) nx (M+Zeh n kid 0) o w1 (.slice (some ⟨w.heap.size+1,0,none⟩) 0 0) (([]:List (Int×BF)).map Prod.fst) w2):=Hd ⟨o,m,V,by rw[List.append_nil];exact HSAT1.out.below gb,HWT.out,Zcx gb o,by rw[ge,<- hs1];exact Zfe _ _ _ (Nat.le_refl _),fun k hk=>by cases hk;rw[<- hs1];exact HSAT1.out.lt.none (Nat.le_refl _)⟩;have gn:=Hd gb;clear ge gb
 go_enter func66,ntmps66
 go_upto_region 1 with fail;rw[HW1.out];go_upto_region 23 with fail;rw[gz.out];have e2:=(gn.out.cell (p:=⟨w.heap.size,2,none⟩) (Zab d2)).trans d2;go_wp2_with fail
 go_loopw [15,106] (fun s15 s106 wr=>∃ (i:Nat) (hs:List (Int×BF)) (nxi:Int),i<=nk/\s106=.int .i64 i/\hs.length=i/\nxi+2*i<=nx+3*((sumN i fun i=>(kid i).size:Nat):Int)/\Hid (∀ j (hj:j<hs.length),hs[j].2=fnT (kid j))/\Hid (BuiS K n Od room w0 mb (fs++hs) nxi (M+Zeh n kid i) o w1 s15 (hs.map Prod.fst) wr)) (fun _ s106 _=>nk-(intOf s106).toNat)
 case atStart=>exact⟨0,[],nx,Nat.zero_le _,rfl,rfl,by show nx+2*((0:Nat):Int)<=nx+3*((0:Nat):Int);omega,Hd (fun j hj=>by simp at hj),gm⟩
 case round =>
  clear gm gn e2
  rename World=>wy
  obtain⟨i,hs,nxi,hi,rfl,gx,gF,gk,g9⟩:=hrel
  by_cases gh:i<nk
  .
   obtain⟨b,off,x0,x1,x2,rfl,c0,c1,c2,hx⟩:=H5.out i gh;have gi:=g9.out.goes.below0;have q0:=(gi.cell (p:=⟨b,off+i*3,none⟩) (Zab c0)).trans c0;have q1:=(gi.cell (p:=⟨b,off+i*3+1,none⟩) (Zab c1)).trans c1;have q2:=(gi.cell (p:=⟨b,off+i*3+2,none⟩) (Zab c2)).trans c2;obtain⟨zo,zv,za,zn,zc,rfl,rfl,rfl⟩:=hx.parts;have gw:(i:Int)<nk:=by omega
   have gH:=HKS.out i gh;obtain⟨wz,gd⟩:∃ wz,wz=wy.alloc (.cells #[.int .i64 zo,.int .i64 zv,.slice za zn zc] 98):=⟨_,rfl⟩;have gy:Hid (_=wz):=Hd gd.symm;have gr:Below wy.heap.size wy wz:=by rw[gd];exact Zaf _ _
   have ga:wz.heap[wy.heap.size]?=some (.cells #[.int .i64 zo,.int .i64 zv,.slice za zn zc] 98 (0,0)):=by rw[gd];exact heap_alloc_new _ _
   have p0:wz.cell? ⟨wy.heap.size,0,none⟩=some (.int .i64 zo):=by rw[cell_of_row _ _ 0 _ _ _ ga];rfl
   have p1:wz.cell? ⟨wy.heap.size,1,none⟩=some (.int .i64 zv):=by rw[cell_of_row _ _ 1 _ _ _ ga];rfl
   have p2:wz.cell? ⟨wy.heap.size,2,none⟩=some (.slice za zn zc):=by rw[cell_of_row _ _ 2 _ _ _ ga];rfl
   obtain⟨o1,m1,V1,bt⟩:=g9.out.below gr;have gE:=HPOS.out i;have gj:=Hd (IH.out i _ (fs++hs) nxi wz o1 m1 V1 _ gh bt.sat bt.waits (HB2.out.app _) hx (by omega) (by have:=HMR.out i gh;have:=HCK.out i;omega));have g8:=Hd bt;clear gi c0 c1 c2 hx bt gd gr ga g9;go_upto_region 26 with fail;rw[gy.out];clear q0 q1 q2;go_wp2_with fail;refine gj.out.mono ?_;rintro y w3 ⟨k2,rfl,gI,gg⟩;have gl:=Hd (g8.out.go (M':=M+Zeh n kid (i+1)) (gg.more (Nat.le_of_eq (Nat.add_assoc _ _ _))));have gC:Hid (∀ j (hj:j<(hs++[(k2,fnT (kid i))]).length),(hs++[(k2,fnT (kid i))])[j].2=fnT (kid j)):=Hd fun j hj=>by
    rcases Nat.lt_or_ge j hs.length with h|h
    . rw[List.getElem_append_left h];exact gk.out j h
    .
     have gv:j=i:=by simp at hj;omega
     subst gv;rw[List.getElem_append_right (by omega)];simp
   clear gg gj g8 p0 p1 p2;obtain⟨o3,m3,V3,bt3⟩:=gl.out;have gt:w1.heap.size<=w3.heap.size:=bt3.chg.size;have gc:=Hd bt3;clear bt3;go_upto_region 30 with (at_builtin;refine Zb1 Zg1 _ rfl _ _ rfl w1.heap.size _ (Za0 (hs.map Prod.fst)) _ rfl rfl rfl rfl rfl (by exact gc.out.l.own) (by simp[Za0];omega) gt ?_;intro v5 w5 gf r1 r2 r3 r4 gp)
   have gu:Hid (BuiS K n Od room w0 mb (fs++(hs++[(k2,fnT (kid i))])) (k2+1) (M+Zeh n kid (i+1)) o w1 v5 ((hs++[(k2,fnT (kid i))]).map Prod.fst) w5):=Hd (by
    have:=BuiS.app gc.out gf r1 r2 r3 r4 gp hw0;rw[List.append_assoc] at this;rw[List.map_append];exact this)
   clear gf r1 r2 r3 r4 gp gc gl;go_wp2_with fail;go_roundw
   case rel=>exact⟨i+1,hs++[(k2,fnT (kid i))],k2+1,by omega,by go_num,by simp;omega,by
    show k2+1+2*((i+1:Nat):Int)<=nx+3*(((sumN i fun i=>(kid i).size)+(kid i).size:Nat):Int)
    omega,gC,gu⟩
   case measure=>simp[intOf];omega
  .
   obtain rfl:i=nk:=by omega
   have gw:¬ (i:Int)<i:=by omega
   have f0:=g9.out.goes.cell (p:=⟨w.heap.size,0,none⟩) d0 on;have gs:=HSZ.out;have gD:nxi+2*i+3<=nx+3*E.size:=by omega
   have hnk:=gA.out;have gG:1<=i:=by omega
   clear gs H5 IH HSZ HKS HPOS;obtain⟨o1,m1,V1,bt⟩:=g9.out;have g8:=Hd bt;clear bt;subst hnk;obtain⟨⟨k0,F0⟩,⟨k1',F1⟩,rfl⟩:=Zyj gx;obtain⟨g,cp,rfl,g0⟩:=g9.out.cellsN (i:=2) rfl (by omega);have c0:wy.cell? ⟨g,0,none⟩=some (.int .i64 k0):=g0 0 (by omega);have c1:wy.cell? ⟨g,1,none⟩=some (.int .i64 k1'):=g0 1 (by omega);have HF:Hid (Znn op F0 F1=fnT E):=Hd (by rw[hF,<- gk.out 0 (by simp),<- gk.out 1 (by simp)];rfl);have HJ:Hid (∀ W,W=wy.drew->Calls prog 153 #[.pointer (some ⟨mb,0,none⟩),.int .i64 op,.int .i64 k0,.int .i64 k1'] W fun x w''=>∃ k:Int,x=.returned (.tuple #[.int .i64 k,.bool true])/\k<=nxi+1/\Goes K n Od room w0 mb (fs++[(k,Znn op F0 F1)]) (k+1) (NoW (M+Zeh n kid 2+(2^n-1))) o1 wy w'') :=
    Hd fun W hW=>by subst hW;exact Zpz HKK.out (g8.out.refl.below (Zah wy 1)) HB2.out (by omega) (by have:=HEP.out;have:=HCK.out 2;have:=HME.out;omega) (by have:=H1.out;omega) (by have:=H1.out;omega)
   clear g0;go_upto_region 39 with fail;refine Zap (fun W:World=>W.cell? ⟨w.heap.size,0,none⟩=some (.int .i64 op)/\W.cell? ⟨g,0,none⟩=some (.int .i64 k0)/\W.cell? ⟨g,1,none⟩=some (.int .i64 k1')) false 14
    [(0,false),(1,false),(2,false),(3,false),(4,false),(5,false),(6,false),(7,false),(8,false),(9,true),(10,false),(11,false),(12,false),(13,false)] (by kernel_rfl) (by kernel_rfl) ⟨f0,c0,c1⟩ ?_
   simp only[planned,Zc7]
   iterate 9
    refine Zaq rfl ?_;apply Exists.intro;refine⟨fun w' hw=>?_,?_⟩
    . obtain⟨h1,h2,h3⟩:=hw;go_simp;rfl
    simp only[Zai]
   refine Zb0 (R:=fun v w'=>∃ k:Int,v=.tuple #[.int .i64 k,.bool true]/\k<=nxi+1/\Goes K n Od room w0 mb (fs++[(k,Znn op F0 F1)]) (k+1) (NoW (M+Zeh n kid 2+(2^n-1))) o1 wy w') rfl (by go_simp) ((HJ.out _ rfl).mono (fun e w' he=>?_)) ?_
   . obtain⟨k,rfl,q1,q2⟩:=he;have hb:=g8.out.go q2;obtain⟨g',cp',ev,gq⟩:=hb.cellsN (i:=2) rfl (by omega);cases ev;exact⟨_,rfl,⟨hb.goes.cell (p:=⟨w.heap.size,0,none⟩) d0 on,gq 0 (by omega),gq 1 (by omega)⟩,k,rfl,q1,q2⟩
   rintro v w3-⟨k,rfl,q1,q2⟩;have gB:=Hd (HQ.out k _ w3 _ HF.out (by omega) (by have:=HEP.out;have:=HCK.out 2;omega) (g8.out.go q2).goes);clear q2 HJ;simp only[Zai]
   iterate 4
    refine Zaq rfl ?_;apply Exists.intro;refine⟨fun w' hw=>?_,?_⟩
    . obtain⟨h1,h2,h3⟩:=hw;go_simp;rfl
    simp only[Zai]
   refine Zeu ?_;go_wp2_with fail;exact gB.out
end
open Go.RowKit
section
variable {K:Law}{n:Nat}{Od:List Nat->Prop}{room:Nat}{w0 w w' w'':World}{mb:Nat}{fs fs':List (Int×BF)}{nx nx':Int}{o o':Own}{m m':ManD}{V V':Nat->BF}
theorem Zsq {w1:World}{op v:Int}{nk:Nat}{kid:Nat->ExT}{a:Option Addr}{c:Nat}{E:ExT}{Q:Ending->World->Prop}{M:Nat}(hctx:BCtx K n Od room w0 mb fs nx M w w1 o m V op v nk kid a c E Q)(h1:op=10)(hnk:nk=3)(hF:fnT E=Zc6 (fnT (kid 0)) (fnT (kid 1)) (fnT (kid 2))) :
 Calls prog 66 #[.pointer (some ⟨mb,0,none⟩),.agg #[.int .i64 op,.int .i64 v,.slice a nk c]] w Q:=by
 obtain⟨HKK,H5,HKS,HSZ,HPOS,IH,HW1,HG1,HSAT1,HWT,HB2,HQ,HMR,HCK,HCI,HEP,HME,hn64,hnx,hE1,hs1,d0,d1,d2,on,hw0,hp2,h2,h3⟩:=hctx;have g1:(op == 1)=false:=by simp;omega
 have g2:(op == 2)=false:=by simp;omega
 have g3:(op == 3)=false:=by simp;omega
 have g5:(op == 5)=false:=by simp;omega
 have g6:(op == 6)=false:=by simp;omega
 have g7:(op == 7)=false:=by simp;omega
 have g4:(op == 4)=false:=by simp;omega
 have g10:(op == 10)=true:=by simp;omega
 have gC:=Hd hnk;clear h1 hnk;obtain⟨w2,gf⟩:∃ w2,w2=w1.alloc (.cells #[] 3):=⟨_,rfl⟩;have gB:Hid (_=w2):=Hd gf.symm;have gd:Below w1.heap.size w1 w2:=by rw[gf];exact Zaf _ _
 have gp:Hid (BuiS K n Od room w0 mb (fs++[]) nx (M+Zeh n kid 0) o w1 (.slice (some ⟨w.heap.size+1,0,none⟩) 0 0) (([]:List (Int×BF)).map Prod.fst) w2):=Hd ⟨o,m,V,by rw[List.append_nil];exact HSAT1.out.below gd,HWT.out,Zcx gd o,by rw[gf,<- hs1];exact Zfe _ _ _ (Nat.le_refl _),fun k hk=>by cases hk;rw[<- hs1];exact HSAT1.out.lt.none (Nat.le_refl _)⟩;have gq:=Hd gd;clear gf gd
 go_enter func66,ntmps66
 go_upto_region 1 with fail;rw[HW1.out];go_upto_region 23 with fail;rw[gB.out];have e2:=(gq.out.cell (p:=⟨w.heap.size,2,none⟩) (Zab d2)).trans d2;go_wp2_with fail
 go_loopw [15,106] (fun s15 s106 wr=>∃ (i:Nat) (hs:List (Int×BF)) (nxi:Int),i<=nk/\s106=.int .i64 i/\hs.length=i/\nxi+2*i<=nx+3*((sumN i fun i=>(kid i).size:Nat):Int)/\Hid (∀ j (hj:j<hs.length),hs[j].2=fnT (kid j))/\Hid (BuiS K n Od room w0 mb (fs++hs) nxi (M+Zeh n kid i) o w1 s15 (hs.map Prod.fst) wr)) (fun _ s106 _=>nk-(intOf s106).toNat)
 case atStart=>exact⟨0,[],nx,Nat.zero_le _,rfl,rfl,by show nx+2*((0:Nat):Int)<=nx+3*((0:Nat):Int);omega,Hd (fun j hj=>by simp at hj),gp⟩
 case round =>
  clear gp gq e2
  rename World=>wy
  obtain⟨i,hs,nxi,hi,rfl,gy,gH,gk,ga⟩:=hrel
  by_cases gi:i<nk
  .
   obtain⟨b,off,x0,x1,x2,rfl,c0,c1,c2,hx⟩:=H5.out i gi;have gj:=ga.out.goes.below0;have q0:=(gj.cell (p:=⟨b,off+i*3,none⟩) (Zab c0)).trans c0;have q1:=(gj.cell (p:=⟨b,off+i*3+1,none⟩) (Zab c1)).trans c1;have q2:=(gj.cell (p:=⟨b,off+i*3+2,none⟩) (Zab c2)).trans c2;obtain⟨zo,zv,za,zn,zc,rfl,rfl,rfl⟩:=hx.parts;have gx:(i:Int)<nk:=by omega
   have gJ:=HKS.out i gi;obtain⟨wz,ge⟩:∃ wz,wz=wy.alloc (.cells #[.int .i64 zo,.int .i64 zv,.slice za zn zc] 98):=⟨_,rfl⟩;have gA:Hid (_=wz):=Hd ge.symm;have gs:Below wy.heap.size wy wz:=by rw[ge];exact Zaf _ _
   have gc:wz.heap[wy.heap.size]?=some (.cells #[.int .i64 zo,.int .i64 zv,.slice za zn zc] 98 (0,0)):=by rw[ge];exact heap_alloc_new _ _
   have p0:wz.cell? ⟨wy.heap.size,0,none⟩=some (.int .i64 zo):=by rw[cell_of_row _ _ 0 _ _ _ gc];rfl
   have p1:wz.cell? ⟨wy.heap.size,1,none⟩=some (.int .i64 zv):=by rw[cell_of_row _ _ 1 _ _ _ gc];rfl
   have p2:wz.cell? ⟨wy.heap.size,2,none⟩=some (.slice za zn zc):=by rw[cell_of_row _ _ 2 _ _ _ gc];rfl
   obtain⟨o1,m1,V1,bt⟩:=ga.out.below gs;have gG:=HPOS.out i;have gl:=Hd (IH.out i _ (fs++hs) nxi wz o1 m1 V1 _ gi bt.sat bt.waits (HB2.out.app _) hx (by omega) (by have:=HMR.out i gi;have:=HCK.out i;omega));have gb:=Hd bt;clear gj c0 c1 c2 hx bt ge gs gc ga;go_upto_region 26 with fail;rw[gA.out];clear q0 q1 q2;go_wp2_with fail;refine gl.out.mono ?_;rintro y w3 ⟨k2,rfl,gK,gg⟩;have gn:=Hd (gb.out.go (M':=M+Zeh n kid (i+1)) (gg.more (Nat.le_of_eq (Nat.add_assoc _ _ _))));have gE:Hid (∀ j (hj:j<(hs++[(k2,fnT (kid i))]).length),(hs++[(k2,fnT (kid i))])[j].2=fnT (kid j)):=Hd fun j hj=>by
    rcases Nat.lt_or_ge j hs.length with h|h
    . rw[List.getElem_append_left h];exact gk.out j h
    .
     have gw:j=i:=by simp at hj;omega
     subst gw;rw[List.getElem_append_right (by omega)];simp
   clear gg gl gb p0 p1 p2;obtain⟨o3,m3,V3,bt3⟩:=gn.out;have gu:w1.heap.size<=w3.heap.size:=bt3.chg.size;have g0:=Hd bt3;clear bt3;go_upto_region 30 with (at_builtin;refine Zb1 Zg1 _ rfl _ _ rfl w1.heap.size _ (Za0 (hs.map Prod.fst)) _ rfl rfl rfl rfl rfl (by exact g0.out.l.own) (by simp[Za0];omega) gu ?_;intro v5 w5 gh r1 r2 r3 r4 gr)
   have gv:Hid (BuiS K n Od room w0 mb (fs++(hs++[(k2,fnT (kid i))])) (k2+1) (M+Zeh n kid (i+1)) o w1 v5 ((hs++[(k2,fnT (kid i))]).map Prod.fst) w5):=Hd (by
    have:=BuiS.app g0.out gh r1 r2 r3 r4 gr hw0;rw[List.append_assoc] at this;rw[List.map_append];exact this)
   clear gh r1 r2 r3 r4 gr g0 gn;go_wp2_with fail;go_roundw
   case rel=>exact⟨i+1,hs++[(k2,fnT (kid i))],k2+1,by omega,by go_num,by simp;omega,by
    show k2+1+2*((i+1:Nat):Int)<=nx+3*(((sumN i fun i=>(kid i).size)+(kid i).size:Nat):Int)
    omega,gE,gv⟩
   case measure=>simp[intOf];omega
  .
   obtain rfl:i=nk:=by omega
   have gx:¬ (i:Int)<i:=by omega
   have f0:=ga.out.goes.cell (p:=⟨w.heap.size,0,none⟩) d0 on;have gt:=HSZ.out;have gF:nxi+2*i+3<=nx+3*E.size:=by omega
   have hnk:=gC.out;have gI:1<=i:=by omega
   clear gt H5 IH HSZ HKS HPOS;obtain⟨o1,m1,V1,bt⟩:=ga.out;have gb:=Hd bt;clear bt;subst hnk;obtain⟨⟨k0,F0⟩,⟨k1',F1⟩,⟨k2',F2⟩,rfl⟩:=Ztq gy;obtain⟨g,cp,rfl,g8⟩:=ga.out.cellsN (i:=3) rfl (by omega);have c0:wy.cell? ⟨g,0,none⟩=some (.int .i64 k0):=g8 0 (by omega);have c1:wy.cell? ⟨g,1,none⟩=some (.int .i64 k1'):=g8 1 (by omega);have c2:wy.cell? ⟨g,2,none⟩=some (.int .i64 k2'):=g8 2 (by omega);have HF:Hid (Zc6 F0 F1 F2=fnT E):=Hd (by rw[hF,<- gk.out 0 (by simp),<- gk.out 1 (by simp),<- gk.out 2 (by simp)];rfl);have HI:Hid (∀ W,W=wy.drew->Calls prog 47 #[.pointer (some ⟨mb,0,none⟩),.int .i64 k0,.int .i64 k1',.int .i64 k2'] W fun x w''=>x=.returned (.tuple #[.int .i64 nxi,.int .i64 0])/\Goes K n Od room w0 mb (fs++[(k0,F0),(k1',F1),(k2',F2)]++[(nxi,Zc6 F0 F1 F2)]) (nxi+1) (NoW (M+Zeh n kid 3+(2^n-1))) o1 wy w'') :=
    Hd fun W hW=>by subst hW;exact Ztk HKK.out (gb.out.refl.below (Zah wy 1)) (by omega) (by have:=HEP.out;have:=HCK.out 3;have:=HME.out;omega) (by simp) (by simp) (by simp)
   clear g8;go_upto_region 36 with fail;refine Zap (fun W:World=>W.cell? ⟨g,0,none⟩=some (.int .i64 k0)/\W.cell? ⟨g,1,none⟩=some (.int .i64 k1')/\W.cell? ⟨g,2,none⟩=some (.int .i64 k2')) false 16
    [(0,false),(1,false),(2,false),(3,false),(4,false),(5,false),(6,false),(7,false),(8,false),(9,false),(10,true),(11,false),(12,false),(13,false),(14,false),(15,false)] (by kernel_rfl) (by kernel_rfl) ⟨c0,c1,c2⟩ ?_
   simp only[planned,Zc7]
   iterate 10
    refine Zaq rfl ?_;apply Exists.intro;refine⟨fun w' hw=>?_,?_⟩
    . obtain⟨h1,h2,h3⟩:=hw;go_simp;rfl
    simp only[Zai]
   refine Zb0 (R:=fun v w'=>v=.tuple #[.int .i64 nxi,.int .i64 0]/\Goes K n Od room w0 mb (fs++[(k0,F0),(k1',F1),(k2',F2)]++[(nxi,Zc6 F0 F1 F2)]) (nxi+1) (NoW (M+Zeh n kid 3+(2^n-1))) o1 wy w') rfl (by go_simp) ((HI.out _ rfl).mono (fun e w' he=>?_)) ?_
   . obtain⟨rfl,q2⟩:=he;have hb:=gb.out.go q2;obtain⟨g',cp',ev,g9⟩:=hb.cellsN (i:=3) rfl (by omega);cases ev;exact⟨_,rfl,⟨g9 0 (by omega),g9 1 (by omega),g9 2 (by omega)⟩,rfl,q2⟩
   rintro v w3 ⟨d0',d1',d2'⟩ ⟨rfl,q2⟩;obtain⟨o3,m3,V3,bt3⟩:=gb.out.go q2;have g0:=Hd bt3;clear q2 HI bt3 c0 c1 c2 ga;simp only[Zai]
   iterate 5
    refine Zaq rfl ?_;apply Exists.intro;refine⟨fun w' hw=>?_,?_⟩
    . obtain⟨h1,h2,h3⟩:=hw;go_simp;rfl
    simp only[Zai]
   refine Zeu ?_;have HD:Hid (∀ W T,Below w3.heap.size w3 W->T=W.alloc (.cells #[.int .i64 k0,.int .i64 k1',.int .i64 k2'] 3)->Calls prog 118 #[.pointer (some ⟨mb,0,none⟩),.slice (some ⟨W.heap.size,0,none⟩) 3 3] T fun x w''=>x=.returned (.int .i64 0)/\Goes K n Od room w0 mb (fs++[(nxi,Zc6 F0 F1 F2)]) (nxi+1) (NoW (M+Zeh n kid 3+(2^n-1))) o3 w3 w'') :=
    Hd fun W T hW hT=>Zlj HKK.out (hs:=[(k0,F0),(k1',F1),(k2',F2)]) (r:=[(nxi,Zc6 F0 F1 F2)]) (by have:=g0.out.refl;rw[List.append_assoc] at this;exact this.below hW) HB2.out (by omega) (by simp) hT
   go_upto_region 37 with fail;refine Zap (fun W:World=>W.cell? ⟨g,0,none⟩=some (.int .i64 k0)/\W.cell? ⟨g,1,none⟩=some (.int .i64 k1')/\W.cell? ⟨g,2,none⟩=some (.int .i64 k2')) false 20
    [(0,false),(1,false),(2,false),(3,false),(4,false),(5,false),(6,false),(7,false),(8,false),(9,false),(10,false),(11,false),(12,false),(13,false),(14,true),(15,true),(16,false),(17,false),(18,false),(19,false)] (by kernel_rfl) (by kernel_rfl) ⟨d0',d1',d2'⟩ ?_
   simp only[planned,Zc7]
   iterate 4
    refine Zaq rfl ?_;apply Exists.intro;refine⟨fun w' hw=>?_,?_⟩
    . obtain⟨h1,h2,h3⟩:=hw;go_simp;rfl
    simp only[Zai]
   iterate 10
    refine Zhx true (by go_simp) ?_;apply Exists.intro;refine⟨fun gz w' hw=>?_,?_⟩
    . obtain⟨h1,h2,h3⟩:=hw;go_simp;rfl
    simp only[Zai]
   have gm:=Zaf w3.drew (.cells #[.int .i64 k0,.int .i64 k1',.int .i64 k2'] 3);refine Zrs (v:=.slice (some ⟨w3.heap.size,0,none⟩) 3 3) (w':=w3.drew.alloc (.cells #[.int .i64 k0,.int .i64 k1',.int .i64 k2'] 3)) (by go_simp) (by go_simp) ⟨(gm.cell (p:=⟨g,0,none⟩) (Zab (w:=w3.drew) d0')).trans d0',(gm.cell (p:=⟨g,1,none⟩) (Zab (w:=w3.drew) d1')).trans d1',(gm.cell (p:=⟨g,2,none⟩) (Zab (w:=w3.drew) d2')).trans d2'⟩ ?_;simp only[Zai];refine Zrr (R:=fun v w'=>v=.int .i64 0/\Goes K n Od room w0 mb (fs++[(nxi,Zc6 F0 F1 F2)]) (nxi+1) (NoW (M+Zeh n kid 3+(2^n-1))) o3 w3 w') (by go_simp) (by go_simp) ((HD.out w3.drew _ (Zah w3 1) rfl).mono (fun e w' he=>?_)) ?_
   . obtain⟨rfl,q2⟩:=he;have hb:=g0.out.go q2;obtain⟨g',cp',ev,g9⟩:=hb.cellsN (i:=3) rfl (by omega);cases ev;exact⟨_,rfl,⟨g9 0 (by omega),g9 1 (by omega),g9 2 (by omega)⟩,rfl,q2⟩
   rintro v w4-⟨rfl,q2⟩;have gD:=Hd (HQ.out nxi _ w4 _ HF.out (by omega) (by have:=HEP.out;have:=HCK.out 3;omega) (g0.out.go q2).goes);clear q2 HD;simp only[Zai]
   iterate 1
    refine Zhx true (by go_simp) ?_;apply Exists.intro;refine⟨fun gz w' hw=>?_,?_⟩
    . obtain⟨h1,h2,h3⟩:=hw;go_simp;rfl
    simp only[Zai]
   iterate 3
    refine Zaq rfl ?_;apply Exists.intro;refine⟨fun w' hw=>?_,?_⟩
    . obtain⟨h1,h2,h3⟩:=hw;go_simp;rfl
    simp only[Zai]
   refine Zeu ?_;go_wp2_with fail;exact gD.out
end
open Go.RowKit
section
variable {K:Law}{n:Nat}{Od:List Nat->Prop}{room:Nat}{w0:World}{mb:Nat}
theorem Zmu (hK:Zbu K):∀ (e:ExT) (x:Value) (fs:List (Int×BF)) (nx:Int) (w:World) (o:Own) (m:ManD) (V:Nat->BF) (M:Nat),SatE K n Od room w0 mb fs nx w o m V->m.waits=[]/\m.d.pool.many<=M->B2 fs->Zqp e->(∀ v∈Zcq e,v<(n:Int))->Zbd w0 e x->nx+3*e.size<549755813000->M+e.size*2^n<=room ->
 Calls prog 66 #[.pointer (some ⟨mb,0,none⟩),x] w fun y w'=>∃ k:Int,y=.returned (.tuple #[.int .i64 k,.bool true])/\k+3<=nx+3*e.size/\Goes K n Od room w0 mb (fs++[(k,fnT e)]) (k+1) (NoW (M+Zgz n e.size)) o w w'
 | .nil,x,fs,nx,w,o,m,V,M,_,_,_,hv,_,_,_,_=>hv.elim
 | .mk op v nk kid,x,fs,nx,w,o,m,V,M,hsat,hwt,hb2,hval,hvars,h,hnx,hroom=>by
   unfold Zbd at h;obtain⟨a,c,rfl,h2,h3,h4,h5⟩:=h;obtain⟨v1,v2,v3,v4,v5,v6⟩:=hval;obtain⟨k1,k2,k3⟩:=Ztn v1;have hblk:(w.alloc (.cells #[.int .i64 op,.int .i64 v,.slice a nk c] 98)).heap[w.heap.size]?=some (.cells #[.int .i64 op,.int .i64 v,.slice a nk c] 98 (0,0)):=heap_alloc_new _ _;have hb1:=Zaf w (.cells #[.int .i64 op,.int .i64 v,.slice a nk c] 98);have hep:(ExT.mk op v nk kid).size*2^n=2^n+(sumN nk fun i=>(kid i).size)*2^n:=by
    show (1+sumN nk fun i=>(kid i).size)*2^n=_
    rw[Nat.add_mul,Nat.one_mul]
   have g0:BCtx K n Od room w0 mb fs nx M w (w.alloc (.cells #[.int .i64 op,.int .i64 v,.slice a nk c] 98)) o m V op v nk kid a c (ExT.mk op v nk kid) (fun y w'=>∃ k:Int,y=.returned (.tuple #[.int .i64 k,.bool true])/\k+3<=nx+3*(ExT.mk op v nk kid).size/\Goes K n Od room w0 mb (fs++[(k,fnT (ExT.mk op v nk kid))]) (k+1) (NoW (M+Zgz n (ExT.mk op v nk kid).size)) o w w'):=by
    refine⟨Hd hK,Hd h5,Hd fun i hi=>?_,Hd rfl,Hd (Zqj fun i=>(kid i).size_pos),Hd fun i x fs' nx' W o' m' V' M' hi q1 q2 q3 q4 q5 q6=>Zmu hK (kid i) x fs' nx' W o' m' V' M' q1 q2 q3 (v6 i hi) (fun u hu=>hvars u (by unfold Zcq;exact List.mem_append_right _ (Znx hi hu))) q4 q5 q6,Hd rfl,Hd (Goes.refl (hsat.below hb1) hwt),Hd (hsat.below hb1),Hd hwt,Hd hb2,Hd ?_,Hd fun i hi=>?_,Hd (Zmy n kid),Hd fun i=>Zhc n (kid i).size_pos,Hd ⟨hep,Zhc n (ExT.size_pos _)⟩,Hd hroom,by omega,hnx,ExT.size_pos _,by simp,by rw[cell_of_row _ _ 0 _ _ _ hblk];rfl,by rw[cell_of_row _ _ 1 _ _ _ hblk];rfl,by rw[cell_of_row _ _ 2 _ _ _ hblk];rfl,hsat.lt.none (Nat.le_refl _),?_,Nat.pow_pos (by omega),h2,h3⟩
    .
     have:=Zfi (f:=fun i=>(kid i).size) hi
     show _<=1+sumN nk fun i=>(kid i).size
     omega
    . rintro k F W M' rfl hk hm g;exact⟨k,rfl,hk,(g.more hm).after (Zcx hb1 o)⟩
    . have h1:=Zfi (f:=fun i=>(kid i).size) hi;have h2:=Nat.mul_le_mul_right (2^n) h1;rw[Nat.add_mul] at h2;omega
    . have:=hsat.chg.size;simp;omega
   rcases(show op=1\/op=2\/op=3\/(op=5\/op=6\/op=7)\/op=4\/(op=8\/op=9)\/op=10 by omega) with h1|h1|h1|h1|h1|h1|h1
   . exact Zqz g0 h1 (by subst h1;exact Zne (.inl rfl) v nk kid)
   . exact Zow g0 h1 (by subst h1;exact Zne (.inr rfl) v nk kid)
   . have e1:=v2 h1;have e2:=hvars v (by unfold Zcq;rw[if_pos h1];simp);obtain⟨u,rfl⟩:∃ u:Nat,v=u:=⟨v.toNat,by omega⟩;exact Zst g0 (u:=u) (by omega) h1 rfl (by subst h1;exact Zya u nk kid)
   . exact Zsp g0 h1 (Zx7 h1 v nk kid)
   .
    have e:nk=1:=by subst h1;simp[Zea] at v4 v5;omega
    exact Zsr g0 h1 e (by subst h1;subst e;exact Zx9 v kid)
   .
    have e:nk=2:=by rcases h1 with rfl|rfl<;>(simp[Zea] at v4 v5;omega)
    exact Zss g0 h1 e (by subst e;exact Zvj h1 v kid)
   .
    have e:nk=3:=by subst h1;simp[Zea] at v4 v5;omega
    exact Zsq g0 h1 e (by subst h1;subst e;exact Zx8 v kid)
end
open Go.RowKit
theorem Za2.chgX {C:Nat->Prop}{o o':Own}{w w':World}{a:Option Addr}{zs:List Int}(h:Za2 w a zs)(hc:ChgX C o o' w w')(hn:0<zs.length->∀ x,a=some x->o x.block=none/\¬ C x.block):Za2 w' a zs :=
 ⟨h.len,fun k hk=>by
  obtain⟨b,off,rfl,c⟩:=h.cells k hk;have:=hn (by omega) _ rfl;exact⟨b,off,rfl,hc.cell c this.1 this.2⟩⟩
def ArrI (K:Law)(n room:Nat)(w0:World)(mb:Nat)(fs:List (Int×BF))(nx:Int)(o:Own)(w:World)(m:ManD)(P:List Nat->Prop)(W:World):Prop :=
 ∃ o' m' V',SatE K n P room w0 mb fs nx W o' m' V'/\m'.waits=m.waits/\m'.calls=m.calls/\ChgX NoB o o' w W/\(m'.d.pool.many<=m.d.pool.many\/m'.d.pool.many<=fs.length*2^n)
section
variable {K:Law}{n:Nat}{Od:List Nat->Prop}{room:Nat}{w0 w w':World}{mb:Nat}{fs:List (Int×BF)}{nx:Int}{o o':Own}{m m':ManD}{V V':Nat->BF}{P:List Nat->Prop}{W W':World}
theorem ArrI.below (h:ArrI K n room w0 mb fs nx o w m P W)(hb:Below W.heap.size W W'):ArrI K n room w0 mb fs nx o w m P W':=by
 obtain⟨o',m',V',h1,h2,h3,h4,h5⟩:=h;exact⟨o',m',V',h1.below hb,h2,h3,h4.trans (Zcx hb o') (fun _ _ e=>e),h5⟩
theorem ArrI.imp (h:ArrI K n room w0 mb fs nx o w m P W){P':List Nat->Prop}(hP:∀ l,l.length=n->P l->P' l):ArrI K n room w0 mb fs nx o w m P' W:=by
 obtain⟨o',m',V',h1,h2,h3,h4,h5⟩:=h;exact⟨o',m',V',h1.withOd (hP _ h1.vars h1.od),h2,h3,h4,h5⟩
theorem ArrI.swap (h:ArrI K n room w0 mb fs nx o w m P W){k:Nat}(hk1:k+1<n)(hn:nx<=549755813888)(hr:3*(fs.length*2^n)<=room){P':List Nat->Prop}(hP:∀ l,l.length=n->P l->P' (exL l k)) :
 Calls prog 183 #[.pointer (some ⟨mb,0,none⟩),.int .i64 k] W fun e w'=>e=.returned (.int .i64 0)/\ArrI K n room w0 mb fs nx o w m P' w':=by
 obtain⟨o',m',V',h1,h2,h3,h4,h5⟩:=h;refine(Zrp h1 hk1 hn hr).mono ?_;rintro e w' ⟨rfl,o2,m2,V2,s⟩;refine⟨rfl,o2,m2,V2,s.sat.withOd ?_,s.waits.trans h2,s.calls.trans h3,h4.trans (ChgX.of_chg s.chg NoB) (fun _ _ e=>e),.inr (s.sat.few s.dead)⟩;rw[s.sat.od,Zut];exact hP _ h1.vars h1.od
theorem Zou (h:SatE K n Od room w0 mb fs nx w o m V)(hn:nx<=549755813888)(hr:3*(fs.length*2^n)<=room){a:Option Addr}{c:Nat}{zs:List Int}(hz:Za2 w a zs)(hno:0<zs.length->∀ x,a=some x->o x.block=none)(hp:zs.length=0\/Zxm zs n) :
 Calls prog 101 #[.pointer (some ⟨mb,0,none⟩),.slice a zs.length c] w fun x w'=>x=.returned (.bool true)/\ArrI K n room w0 mb fs nx o w m (fun l=>∀ j,j<zs.length->((l.getD j 0:Nat):Int)=at0 zs j) w':=by
 have hlen:=hz.len;have hn64:n<=64:=by have:=h.ok.store.small;rw[h.vars] at this;exact this
 have HZ:Hid (∀ W P,ArrI K n room w0 mb fs nx o w m P W->Za2 W a zs):=Hd fun W P ⟨o',m',V',_,_,_,h4,_⟩=>hz.chgX h4 fun h0 x hx=>⟨hno h0 x hx,fun e=>e⟩
 have gd:Hid (∀ W P,ArrI K n room w0 mb fs nx o w m P W->Calls prog 32 #[.pointer (some ⟨mb,0,none⟩)] W fun x w'=>∃ (a:Option Addr) (c:Nat) (l:List Nat),x=.returned (.slice a n c)/\l.length=n/\Za2 w' a (l.map Int.ofNat)/\P l/\(∀ v,v<n->∃ i,i<n/\l.getD i 0=v)/\(∀ i j,i<n->j<n->l.getD i 0=l.getD j 0->i=j)/\Below W.heap.size W w'/\ArrI K n room w0 mb fs nx o w m (fun l'=>l'=l) w'):=by
  refine Hd fun W P hA=>?_
  obtain⟨o',m',V',h1,h2,h3,h4,h5⟩:=hA;refine(Znv h1.is h1.lt (by rw[h1.vars];exact hn64)).mono ?_;rintro x w' ⟨v,rfl,hv,hb⟩;obtain⟨av,cv,rfl,gr,_⟩:=hv.sliceIs (by simp[h1.vars];omega);refine⟨av,cv,m'.d.vars,by rw[List.length_map,h1.vars],h1.vars,gr,h1.od,fun v hv=>?_,fun i j hi hj e=>?_,hb,o',m',V',(h1.below hb).withOd rfl,h2,h3,h4.trans (Zcx hb o') (fun _ _ e=>e),h5⟩
  . have:=h1.ok.store.mem (v:=v) (by rw[h1.vars];exact hv);rw[h1.vars] at this;exact this
  . exact h1.ok.store.inj (by rw[h1.vars];exact hi) (by rw[h1.vars];exact hj) e
 have gi:Hid (∀ W P,ArrI K n room w0 mb fs nx o w m P W->∀ (k:Nat),k+1<n->∀ P':List Nat->Prop,(∀ l,l.length=n->P l->P' (exL l k))->Calls prog 183 #[.pointer (some ⟨mb,0,none⟩),.int .i64 k] W fun e w'=>e=.returned (.int .i64 0)/\ArrI K n room w0 mb fs nx o w m P' w') :=
  Hd fun W P hA k hk P' hP=>hA.swap hk hn hr hP
 have HP:=Hd hp;obtain⟨R,hR⟩:∃ R:(List Nat->Prop)->World->Prop,R=ArrI K n room w0 mb fs nx o w m:=⟨_,rfl⟩;have gC:Hid (R (fun l=>∀ j,j<0->((l.getD j 0:Nat):Int)=at0 zs j) w):=Hd (by rw[hR];exact⟨o,m,V,h.withOd (fun j hj=>by omega),rfl,rfl,ChgX.of_below (Below.refl _ _) o NoB,.inl (Nat.le_refl _)⟩);have gz:Hid (∀ P W W',R P W->Below W.heap.size W W'->R P W'):=Hd (by rw[hR];intro P W W' h1 h2;exact h1.below h2);have gj:Hid (∀ P P' W,R P W->(∀ l,l.length=n->P l->P' l)->R P' W):=Hd (by rw[hR];intro P P' W h1 h2;exact h1.imp h2);rw[<- hR] at HZ gd gi ⊢;clear h hz hno hp hr hn hR
 go_enter func101,ntmps101
 go_wp2_with fail
 go_loopw [5,6,7] (fun s5 s6 s7 wr=>∃ i:Nat,i<=zs.length/\s5=.int .i64 i/\Hid (R (fun l=>∀ j,j<i->((l.getD j 0:Nat):Int)=at0 zs j) wr)) (fun s5 _ _ _=>zs.length-(intOf s5).toNat)
 case atStart=>exact⟨0,Nat.zero_le _,rfl,gC⟩
 case round =>
  obtain⟨i,hi,rfl,HR⟩:=hrel
  by_cases gv:i<zs.length
  .
   have gw:(i:Int)<zs.length:=by omega
   have g3:Zxm zs n:=by
    rcases HP.out with e|e
    . omega
    . exact e
   have gp:zs.length=n:=g3.len;obtain⟨zi,gq,ezi⟩:=g3.lt i (by omega);have gm:=Hd (gd.out wr _ HR.out);have go:=Hd g3.inj;clear g3;go_wp2_with fail;refine gm.out.mono ?_;rintro x w3 ⟨av,cv,l,rfl,gg,gh,g8,ga,gb,gy,g6⟩;obtain⟨p,gf,g7⟩:=ga zi gq;have gx:i<=p:=by
    rcases Nat.lt_or_ge p i with h|h
    . exfalso;have e1:=g8 p h;rw[g7,<- ezi] at e1;have:=go.out i p (by omega) gf e1;omega
    . exact h
   have gn:=Hd gh;have gD:=Hd g8;have g5:=Hd g7;have gE:=Hd gb;have gl:=Hd g6;have gM:((n:Int) != (zs.length:Int))=false:=by rw[gp];simp
   obtain⟨bz,oz,ea,cz⟩:=(HZ.out w3 _ g6).cells i gv;subst ea;rw[ezi] at cz;have EZI:=Hd ezi;clear gh g8 g7 gb g6 ga gm gy ezi;go_wp2_with fail
   go_loopw [7] (fun s7 wr=>∃ q:Nat,i<=q/\q<=p/\s7=.int .i64 q/\Hid (Below w3.heap.size w3 wr)) (fun s7 _=>p-(intOf s7).toNat)
   case atStart=>exact⟨i,Nat.le_refl _,gx,rfl,Hd (Below.refl _ _)⟩
   case round =>
    rename World=>wq
    obtain⟨q,gu,gL,rfl,g0⟩:=hrel;have gJ:(q:Int)<(n:Int):=by omega
    have g4:q<n:=by omega
    obtain⟨bv,ov,rfl,cq⟩:=(gn.out.below g0.out).cells q (by rw[List.length_map,gg];exact g4);have cz':=(g0.out.cell (p:=⟨bz,oz+i,none⟩) (Zab cz)).trans cz;rw[Zxr (by rw[gg];exact g4)] at cq;obtain⟨y,hy⟩:∃ y,y=l.getD q 0:=⟨_,rfl⟩;rw[<- hy] at cq;have HY:=Hd hy;clear hy;go_upto_region 8 with fail;refine Zap (fun W:World=>W.cell? ⟨bv,ov+q,none⟩=some (.int .i64 (y:Nat))/\W.cell? ⟨bz,oz+i,none⟩=some (.int .i64 (zi:Nat))/\Hid (Below w3.heap.size w3 W)) false 15
     [(0,false),(1,false),(2,false),(3,false),(4,false),(5,false),(6,false),(7,false),(8,false),(9,false),(10,false),(11,false),(12,false),(13,false),(14,false)] (by kernel_rfl) (by kernel_rfl) ⟨cq,cz',Hd (g0.out.trans ((Zah wq 1).mono g0.out.size))⟩ ?_
    simp only[planned,Zc7]
    iterate 5
     refine Zaq rfl ?_;apply Exists.intro;refine⟨fun w' hw=>?_,?_⟩
     . obtain⟨h1,h2,_⟩:=hw;go_simp;rfl
     simp only[Zai]
    iterate 9
     refine Zhx true (by go_simp) ?_;apply Exists.intro;refine⟨fun gN w' hw=>?_,?_⟩
     . obtain⟨h1,h2,_⟩:=hw;go_simp;rfl
     simp only[Zai]
    iterate 1
     refine Zaq rfl ?_;apply Exists.intro;refine⟨fun w' hw=>?_,?_⟩
     . obtain⟨h1,h2,_⟩:=hw;go_simp;rfl
     simp only[Zai]
    refine Zeu ?_
    by_cases gI:q<p
    .
     have g9:((y:Int) != (zi:Int))=true:=by
      simp only[bne_iff_ne,ne_eq];intro e;have e2:l.getD q 0=l.getD p 0:=by rw[g5.out,<- HY.out];omega
      have:=gE.out q p g4 gf e2;omega
     go_wp2_with fail;go_roundw
     case rel=>exact⟨q+1,by omega,by omega,by go_num,Hd (g0.out.trans ((Zah wq 1).mono g0.out.size))⟩
     case measure=>simp[intOf];omega
    .
     obtain rfl:q=p:=by omega
     have g9:((y:Int) != (zi:Int))=false:=by
      have:y=zi:=by rw[HY.out,g5.out]
      rw[this];simp
     have gK:((q:Int) == (n:Int))=false:=by simp;omega
     have gk:Hid (R (fun l'=>(∀ j,j<i->((l'.getD j 0:Nat):Int)=at0 zs j)/\l'.getD q 0=zi) wq.drew):=Hd (by
      have h1:=gz.out _ _ _ gl.out (g0.out.trans ((Zah wq 1).mono g0.out.size));exact gj.out _ _ _ h1 fun l' _ e=>by subst e;exact⟨gD.out,g5.out⟩)
     rw[g9];clear gl g0 gn cq cz cz' g9;go_wp2_with fail
     go_loopw [4,7] (fun s4 s7 wr=>∃ q:Nat,i<=q/\q<n/\s7=.int .i64 q/\Hid (R (fun l'=>(∀ j,j<i->((l'.getD j 0:Nat):Int)=at0 zs j)/\l'.getD q 0=zi) wr)) (fun _ s7 _=>(intOf s7).toNat)
     case atStart=>exact⟨q,gu,g4,rfl,gk⟩
     case round =>
      clear gk HY g5
      rename World=>wt
      obtain⟨t,gH,gt,rfl,gc⟩:=hrel
      by_cases gG:i<t
      .
       obtain⟨t',rfl⟩:∃ t',t=t'+1:=⟨t-1,by omega⟩;have gs:((t'+1:Nat):Int)>i:=by omega
       have HS:=Hd (gi.out wt _ gc.out t' gt (fun l'=>(∀ j,j<i->((l'.getD j 0:Nat):Int)=at0 zs j)/\l'.getD t' 0=zi) (fun l' hl ⟨g1,g2⟩=>⟨fun j hj=>by rw[Zze (by omega) (by omega)];exact g1 j hj,by rw[Zvi (by omega)];exact g2⟩));have gF:((t'+1:Nat):Int)-1=(t':Nat):=by omega
       go_upto_region 14 with fail;go_wp2_with fail;refine HS.out.mono ?_;rintro x w5 ⟨rfl,ge⟩;have gB:=Hd ge;clear ge HS gc;go_wp2_with fail;go_roundw
       case rel=>exact⟨t',by omega,by omega,by go_num,gB⟩
       case measure=>simp[intOf]
      .
       obtain rfl:t=i:=by omega
       have gA:Hid (R (fun l=>∀ j,j<t+1->((l.getD j 0:Nat):Int)=at0 zs j) wt):=Hd (by
        refine gj.out _ _ _ gc.out fun l' _ ⟨g1,g2⟩ j hj=>?_
        rcases Nat.lt_or_ge j t with h|h
        . exact g1 j h
        .
         obtain rfl:j=t:=by omega
         rw[g2,EZI.out])
       have gs:¬ (t:Int)>t:=by omega
       go_wp2_with fail;go_roundw
       case rel=>exact⟨t+1,by omega,by go_num,gA⟩
       case measure=>simp[intOf];omega
  .
   have he:i=zs.length:=by omega
   have gw:¬ (i:Int)<zs.length:=by omega
   go_wp2_with fail;go_ret;exact⟨rfl,by rw[<- he];exact HR.out⟩
end
open Go.RowKit
theorem Zrl (i n:Nat)(hi:i<=1048576)(hn:n<=16)(w:World):Calls prog 185 #[.int .i64 i,.int .i64 n] w fun x w'=>∃ v,x=.returned v/\OwnB w' w.heap.size v (Zcw i n)/\Below w.heap.size w w':=by
 go_enter func185,ntmps185
 go_wp2_with fail
 go_loopw [0,5,6] (fun s0 s5 s6 wr=>∃ j q:Nat,j<=n/\q<=1048576/\s6=.int .i64 j/\s0=.int .i64 q/\Hid (i/2^j=q)/\OwnB wr w.heap.size s5 (Zcw i j)/\w.heap.size<=wr.heap.size/\Below w.heap.size w wr) (fun _ _ s6 _=>n-(intOf s6).toNat)
 case atStart=>exact⟨0,i,Nat.zero_le _,hi,rfl,rfl,Hd (by simp),Zfe _ w _ (Nat.le_refl _),by simp,Zaf w _⟩
 case round =>
  obtain⟨j,q,hj,hq,rfl,rfl,HQ,g0,g5,g1⟩:=hrel
  by_cases g7:j<n
  .
   have HB:Hid (((q:Int).tmod 2 == 1)=bitB i j):=by
    refine Hd ?_;rw[tmod2];unfold bitB;rw[HQ.out]
   have g2:=Hd g0;have g3:=Hd g1;clear g0 g1;go_wp2_with (at_builtin;refine Zb1 Zhd _ rfl _ _ rfl w.heap.size _ (Zby (Zcw i j)) _ rfl rfl rfl rfl rfl (by exact g2.out) (by simp[Zby,Zel];omega) g5 ?_;intro v1 w1 g4 e1 e2 e3 e4 g6);go_roundw
   case rel =>
    refine⟨j+1,q/2,by omega,by omega,by go_num,by go_num,Hd ?_,?_,by omega,Zha g3.out g2.out e1 e2 e3 e4 g6 g5⟩
    . rw[Nat.pow_succ,<- Nat.div_div_eq_div_mul,HQ.out]
    . rw[Zkp];unfold OwnB;rw[Zgw,<- HB.out];exact g4
   case measure=>simp[intOf];omega
  .
   have he:j=n:=by omega
   subst he;have g2:=Hd g0;have g3:=Hd g1;clear g0 g1;go_wp2_with fail;go_ret;exact⟨_,rfl,g2.out,g3.out⟩
theorem Zwh {T ST:TypeId}{z:Value}{b:Nat}(E:Zqv T ST z b)(ty:TypeId)(wr:World)(base:Nat)(v:Value)(xs:List Value)(y:Value)(hy:y.oneCell'=true)(hown:OwnC T wr base v xs)(hlen:xs.length<1099511627776)(hbase:base<=wr.heap.size) :
 ∃ v' w',(Builtin.append_ #[ST,ST] ty #[v,.slice (some ⟨wr.heap.size,0,none⟩) 1 1]).run prog (wr.alloc (.cells #[y] T))=.ok v' w' /\
  OwnC T w' base v' (xs++[y])/\w'.os=wr.os/\w'.tape=wr.tape/\w'.output=wr.output/\wr.heap.size<=w'.heap.size/\Zch v v' wr w':=by
 obtain⟨i,hi,hz,g1,g3⟩:=info_parts E.info;have g2:=E.small;obtain⟨v',w',hr,h1,h2,_,g0⟩:=run_append_own_at (P:=prog) (wr.alloc (.cells #[y] T)) base ST ty T i z 1 b E.under hi hz g1 g3 (by rw[E.one];rfl) (by decide)
  v xs.length xs (hown.alloc _) ⟨wr.heap.size,0,none⟩ 1 1 [y] rfl (cell_one_new _ _ _) (by intro u hu;simp at hu;subst hu;exact hy) (by unfold maxLen;omega) (by
   have h1:(xs.length+1)*b<=1099511627776*100:=Nat.mul_le_mul (by omega) g2;omega) (by simp;omega)
 refine⟨v',w',hr,?_,h2.os,h2.tape,h2.output,?_,⟨Zd0 h2,g0.imp id fun e=>⟨_,e,by simp⟩⟩⟩
 . unfold OwnC;rw[List.length_append];exact h1
 . have:=h2.size;simp at this;omega
theorem OwnC.lower {T:TypeId}{w:World}{base b:Nat}{v:Value}{xs:List Value}(h:OwnC T w base v xs)(hb:b<=base):OwnC T w b v xs:=by
 refine⟨h.1,?_⟩;rcases h.2 with hn|⟨g,cap,cur,rfl,g0,rest⟩
 . exact .inl hn
 . exact .inr ⟨g,cap,cur,rfl,by omega,rest⟩
theorem Zkf (e:ExT)(x:Value)(n:Nat)(hn:n<=12)(w:World)(hs:e.size<=4096)(hok:okT e 1)(h:Zbd w e x) :
 Calls prog 102 #[x,.int .i64 n] w fun y w'=>∃ v,y=.returned v/\OwnB w' w.heap.size v (tabB n (fnT e))/\Below w.heap.size w w':=by
 have gt:Hid (∀ W,Below w.heap.size w W->∀ u,u=x->Calls prog 98 #[u] W fun y w'=>y=.returned (.int .i64 0)/\Below W.heap.size W w'):=Hd fun W hb u hu=>by
  subst hu
  exact(Zgx e _ W hs (h.below hb)).mono (by
   rintro y w' ⟨err,rfl,h1,h2⟩;rw[h1.2 hok];exact⟨rfl,h2⟩)
 have gx:Hid (∀ W,Below w.heap.size w W->∀ u,u=x->∀ (ls:List Bool) al cl,Zfn W al ls->Calls prog 184 #[u,.slice al ls.length cl] W fun y w'=>y=.returned (.bool (fnT e (Zcb ls)))/\Below W.heap.size W w'):=Hd fun W hb u hu ls al cl hl=>by
  subst hu;exact Zj3 ls al cl e _ W hok.valid (h.below hb) hl
 have gi:Hid (∀ j,j<=1048576->∀ W,Calls prog 185 #[.int .i64 (j:Nat),.int .i64 n] W fun x w'=>∃ v,x=.returned v/\OwnB w' W.heap.size v (Zcw j n)/\Below W.heap.size W w'):=Hd fun j hj W=>Zrl j n hj (by omega) W
 have HS:Hid (∀ k,k<=n->2^k<=4096):=Hd fun k hk=>Nat.le_trans (Nat.pow_le_pow_right (by omega) (show k<=12 by omega)) (by decide)
 obtain⟨x0,x1,x2,hx,o0,o1,o2⟩:=h.agg;subst hx;obtain⟨w1,g5⟩:∃ w1,w1=w.alloc (.cells #[x0,x1,x2] 98):=⟨_,rfl⟩;have HW1:Hid (_=w1):=Hd g5.symm;have g7:Hid (Below w.heap.size w w1):=by rw[g5];exact Hd (Zaf _ _)
 have g4:w1.heap[w.heap.size]?=some (.cells #[x0,x1,x2] 98 (0,0)):=by rw[g5];exact heap_alloc_new _ _
 have hs1:w1.heap.size=w.heap.size+1:=by rw[g5];simp
 have d0:w1.cell? ⟨w.heap.size,0,none⟩=some x0:=by rw[cell_of_row _ _ 0 _ _ _ g4];rfl
 have d1:w1.cell? ⟨w.heap.size,1,none⟩=some x1:=by rw[cell_of_row _ _ 1 _ _ _ g4];rfl
 have d2:w1.cell? ⟨w.heap.size,2,none⟩=some x2:=by rw[cell_of_row _ _ 2 _ _ _ g4];rfl
 obtain⟨L,hL⟩:∃ L,L=2^n:=⟨_,rfl⟩;have gC:=Hd hL;obtain⟨G,hG⟩:∃ G:Nat->Bool,G=fun i=>fnT e (Zcb (Zcw i n)):=⟨_,rfl⟩
 have HG:Hid (∀ i,fnT e (Zcb (Zcw i n))=G i):=Hd fun i=>by rw[hG]
 have HT:Hid (tabB n (fnT e)=(List.range L).map G):=Hd (by rw[hL,hG];rfl);have gI:L<=4096:=by rw[hL];exact HS.out n (Nat.le_refl _)
 rw[HT.out];clear h g5 g4 hG hL
 go_enter func102,ntmps102
 go_upto_region 1 with fail;rw[HW1.out];have gH:¬ (n:Int)<0:=by omega
 have gF:¬ (n:Int)>12:=by omega
 go_wp2_with fail;refine(gt.out _ g7.out _ rfl).mono ?_;rintro y w2 ⟨rfl,gq⟩;have HB2:=Hd gq;clear gq gt;go_wp2_with fail
 go_loopw [5,6] (fun s5 s6 wr=>∃ k p:Nat,k<=n/\s5=.int .i64 p/\s6=.int .i64 k/\Hid (wr=w2)/\Hid (2^k=p)) (fun _ s6 _=>n-(intOf s6).toNat)
 case atStart=>exact⟨0,1,Nat.zero_le _,rfl,rfl,Hd rfl,Hd rfl⟩
 case round =>
  obtain⟨k,p,hk,rfl,rfl,gf,HP⟩:=hrel;have gG:p<=4096:=by rw[<- HP.out];exact HS.out k hk
  by_cases gl:k<n
  .
   go_wp2_with fail;go_roundw
   case rel=>exact⟨k+1,2*p,by omega,by go_num,by go_num,gf,Hd (by rw[Nat.pow_succ,HP.out];omega)⟩
   case measure=>simp[intOf];omega
  .
   obtain rfl:k=n:=by omega
   obtain rfl:p=L:=by rw[<- HP.out,gC.out]
   have gz:=gf.out;subst gz;obtain⟨w3,g8⟩:∃ w3,w3=wr.alloc (.cells #[] 4):=⟨_,rfl⟩;have gr:Hid (_=w3):=Hd g8.symm;have ge:Below w1.heap.size w1 w3:=by rw[g8];exact HB2.out.trans ((Zaf _ _).mono HB2.out.size)
   have gg:Hid (OwnB w3 w1.heap.size (.slice (some ⟨wr.heap.size,0,none⟩) 0 0) []):=by rw[g8];exact Hd (Zfe _ _ _ HB2.out.size)
   have gv:=Hd ge;have gj:w1.heap.size<=w3.heap.size:=ge.size;clear g8 ge gl;go_upto_region 9 with fail;rw[gr.out];go_wp2_with fail
   go_loopw [7,8] (fun s7 s8 wr=>∃ j:Nat,j<=p/\s8=.int .i64 j/\Hid (OwnB wr w1.heap.size s7 ((List.range j).map G))/\Hid (Below w1.heap.size w1 wr)/\w1.heap.size<=wr.heap.size) (fun _ s8 _=>p-(intOf s8).toNat)
   case atStart=>exact⟨0,Nat.zero_le _,rfl,gg,gv,gj⟩
   case round =>
    clear gg gv gj gr gf HB2
    rename World=>wq
    obtain⟨j,hj,rfl,gs,g3,gA⟩:=hrel
    by_cases gl:j<p
    .
     have e0:=(g3.out.cell (p:=⟨w.heap.size,0,none⟩) (Zab d0)).trans d0;have e1:=(g3.out.cell (p:=⟨w.heap.size,1,none⟩) (Zab d1)).trans d1;have e2:=(g3.out.cell (p:=⟨w.heap.size,2,none⟩) (Zab d2)).trans d2;have HL:=Hd (gi.out j (by omega) wq.drew);go_upto_region 12 with fail;refine Zap (fun W:World=>W.cell? ⟨w.heap.size,0,none⟩=some x0/\W.cell? ⟨w.heap.size,1,none⟩=some x1/\W.cell? ⟨w.heap.size,2,none⟩=some x2) false 9
      [(0,false),(1,false),(2,false),(3,false),(4,true),(5,true),(6,true),(7,true),(8,false)] (by kernel_rfl) (by kernel_rfl) ⟨e0,e1,e2⟩ ?_
     simp only[planned,Zc7]
     iterate 4
      refine Zaq rfl ?_;apply Exists.intro;refine⟨fun w' hw=>?_,?_⟩
      . obtain⟨h1,h2,h3⟩:=hw;go_simp;rfl
      simp only[Zai]
     refine Zb0 (R:=fun v w'=>Zc3 w' v (Zcw j k)/\Below wq.heap.size wq w') rfl (by go_simp) (HL.out.mono (fun e w' he=>?_)) ?_
     . obtain⟨v,rfl,q1,q2⟩:=he;have q3:Below wq.heap.size wq w':=(Zah wq 1).trans (q2.mono (Zah wq 1).size);exact⟨v,rfl,⟨(q3.cell (p:=⟨w.heap.size,0,none⟩) (Zab e0)).trans e0,(q3.cell (p:=⟨w.heap.size,1,none⟩) (Zab e1)).trans e1,(q3.cell (p:=⟨w.heap.size,2,none⟩) (Zab e2)).trans e2⟩,q1.boolsIs (by rw[Zel];omega),q3⟩
     rintro v w4 ⟨f0,f1,f2⟩ ⟨⟨av,cv,rfl,gn,-⟩,gp⟩;have gu:=Hd gn;have gc:=Hd gp;clear gn gp e0 e1 e2 HL;simp only[Zai];refine Zb0 (R:=fun v w'=>v=.bool (G j)/\Below w4.heap.size w4 w') rfl (by go_simp) ((gx.out w4 (g7.out.trans ((g3.out.trans (gc.out.mono g3.out.size)).mono g7.out.size)) _ rfl (Zcw j k) av cv gu.out).mono (fun e w' he=>?_)) ?_
     . obtain⟨rfl,q3⟩:=he;exact⟨_,rfl,⟨(q3.cell (p:=⟨w.heap.size,0,none⟩) (Zab f0)).trans f0,(q3.cell (p:=⟨w.heap.size,1,none⟩) (Zab f1)).trans f1,(q3.cell (p:=⟨w.heap.size,2,none⟩) (Zab f2)).trans f2⟩,by rw[HG.out],q3⟩
     rintro v w5 ⟨g0,g1,g2⟩ ⟨rfl,go⟩;obtain⟨y,hy⟩:∃ y,y=G j:=⟨_,rfl⟩;rw[<- hy];have gB:Hid (Zby ((List.range (j+1)).map G)=Zby ((List.range j).map G)++[.bool y]):=Hd (by rw[Zk5,Zgw,hy]);have ga:=gc.out.trans (go.mono gc.out.size);have gE:=Hd (g3.out.trans (ga.mono g3.out.size));have gh:=Hd (gs.out.below ga);have gd:w1.heap.size<=w5.heap.size:=Nat.le_trans gA ga.size;clear go ga f0 f1 f2 hy gu gc;simp only[Zai];have gb:=Zaf w5 (.cells #[.bool y] 4);refine Zhh (v:=.slice (some ⟨w5.heap.size,0,none⟩) 1 1) (w':=w5.alloc (.cells #[.bool y] 4)) rfl (by go_simp) ⟨(gb.cell (p:=⟨w.heap.size,0,none⟩) (Zab g0)).trans g0,(gb.cell (p:=⟨w.heap.size,1,none⟩) (Zab g1)).trans g1,(gb.cell (p:=⟨w.heap.size,2,none⟩) (Zab g2)).trans g2⟩ ?_;simp only[Zai];obtain⟨v6,w6,gk,g9,q1,q2,q3,q4,gm⟩:=Zwh Zhd 64 w5 w1.heap.size _ (Zby ((List.range j).map G)) (.bool y) rfl gh.out (by simp[Zby];omega) gd;have g6:=Zha gE.out gh.out q1 q2 q3 q4 gm gd;refine Zhh (v:=v6) (w':=w6) rfl (Zjc rfl rfl rfl gk) ⟨(g6.cell (p:=⟨w.heap.size,0,none⟩) (Zab d0)).trans d0,(g6.cell (p:=⟨w.heap.size,1,none⟩) (Zab d1)).trans d1,(g6.cell (p:=⟨w.heap.size,2,none⟩) (Zab d2)).trans d2⟩ ?_;simp only[Zai]
     iterate 1
      refine Zaq rfl ?_;apply Exists.intro;refine⟨fun w' hw=>?_,?_⟩
      . obtain⟨h1,h2,h3⟩:=hw;go_simp;rfl
      simp only[Zai]
     refine Zeu ?_;have gD:=Hd g6;have gy:=Hd g9;have gw:w1.heap.size<=w6.heap.size:=by omega
     clear g6 g9 q1 q2 q3 q4 gm gk g0 g1 g2 gb;go_wp2_with fail;go_roundw
     case rel=>exact⟨j+1,by omega,by go_num,Hd (by unfold OwnB;rw[gB.out];exact gy.out),gD,gw⟩
     case measure=>simp[intOf];omega
    .
     obtain rfl:j=p:=by omega
     have HF:Hid (∃ v,Ending.returned u7=.returned v/\OwnB wq w.heap.size v ((List.range j).map G)/\Below w.heap.size w wq):=Hd ⟨u7,rfl,gs.out.lower (by omega),g7.out.trans (g3.out.mono g7.out.size)⟩;go_wp2_with fail;go_ret;exact HF.out
open Go.RowKit
section
variable {P:Program}(w:World)
theorem Zip (t ty e:TypeId)(i:TypeInfo)(ht:P.underlying t=some (.slice e))(hi:P.info? e=some i)
 (g off sLen sCap:Nat) (cur:Array Value) (hg:w.heap[g]?=some (.cells cur e (0,0)))
 (a:Addr) (m c:Nat) (news:List Value) (hl:news.length=m*i.size) (hnews:∀ j u,news[j]?=some u->w.cell? (a.add j)=some u) (h1:∀ u∈news,u.oneCell'=true)
 (hroom:sLen+m<=sCap) (hfit:off+sLen*i.size+news.length<=cur.size) :
 (Builtin.append_ #[t,t] ty #[.slice (some ⟨g,off,none⟩) sLen sCap,.slice (some a) m c]).run P w =
  .ok (.slice (some ⟨g,off,none⟩) (sLen+m) sCap) (w.setRow g (cur.toList.take (off+sLen*i.size)++news++cur.toList.drop (off+sLen*i.size+news.length)).toArray):=by
 have hf:=run_firstCells_some (P:=P) w i.size m a m c news hl hnews;have g0:=run_storeCells_at P g (off+sLen*i.size) e news 0 cur w hg (by simpa using hfit) h1;simp only[Nat.add_zero] at g0;have g1:(⟨g,off,none⟩:Addr).add (sLen*i.size)=⟨g,off+sLen*i.size,none⟩:=by unfold Addr.add;split<;>simp_all
 simp[Builtin.append_,run_underlying ht,sizeOf,typeInfo,hi,Builtin.lenOf,hroom,hf,g1,g0]
end
theorem Zzh:(prog.info? 144).map (fun i=>(i.zero,i.size,i.bytes))=some (some (.agg #[.int .i64 0,.int .i64 0,.int .i64 0]),3,24):=by kernel_rfl
theorem Zx5 (l:List Ev):∀ (j:Nat) (u:Value),(l.flatMap evL)[j]?=some u->∃ hk:j/3<l.length,(evL (l[j/3]))[j%3]?=some u:=by
 induction l with
 | nil=>intro j u h;simp at h
 | cons e l ih =>
   intro j u h;rw[List.flatMap_cons] at h
   by_cases hj:j<3
   .
    rw[List.getElem?_append_left (by show j<3;exact hj)] at h;have e0:j/3=0:=by omega
    refine⟨by rw[e0];simp,?_⟩;have e1:j%3=j:=by omega
    simp only[e0,e1,List.getElem_cons_zero];exact h
   .
    rw[List.getElem?_append_right (by show 3<=j;omega)] at h;obtain⟨hk,h2⟩:=ih (j-3) u h;have e0:j/3=(j-3)/3+1:=by omega
    have e1:j%3=(j-3)%3:=by omega
    refine⟨by rw[e0,List.length_cons];omega,?_⟩;simp only[e0,e1,List.getElem_cons_succ];exact h2
theorem EvsAt.news {w:World}{b off:Nat}{l:List Ev}(h:EvsAt w (some ⟨b,off,none⟩) l):∀ j u,(l.flatMap evL)[j]?=some u->w.cell? ((⟨b,off,none⟩:Addr).add j)=some u:=by
 intro j u hu;have g0:(⟨b,off,none⟩:Addr).add j=⟨b,off+j,none⟩:=by unfold Addr.add;split<;>simp_all
 obtain⟨hk,h2⟩:=Zx5 l j u hu;obtain⟨b',off',e,c0,c1,c2⟩:=h.cells (j/3) hk;cases e;rw[g0];have hm:j%3<3:=Nat.mod_lt _ (by decide);rcases(by omega:j%3=0\/j%3=1\/j%3=2) with e|e|e<;>rw[e] at h2
 .
  have e2:j=j/3*3:=by omega
  rw[e2,c0];exact h2
 .
  have e2:j=j/3*3+1:=by omega
  rw[e2,<- Nat.add_assoc,c1];exact h2
 .
  have e2:j=j/3*3+2:=by omega
  rw[e2,<- Nat.add_assoc,c2];exact h2
theorem Zx6 (l:List Ev):∀ u∈l.flatMap evL,u.oneCell'=true:=by
 intro u hu;obtain⟨e,_,h⟩:=List.mem_flatMap.1 hu;simp only[evL,List.mem_cons,List.not_mem_nil,or_false] at h;rcases h with rfl|rfl|rfl<;>rfl
theorem Zik {o:Own}{w:World}{v:Value}{ws l:List Ev}{a:Option Addr}{c:Nat}(h:Zbw o w v ws)(hlt:Zaj o w)(hev:EvsAt w a l)(hsm:ws.length+l.length<=1000)(ty:TypeId) :
 ∃ v' w' o',(Builtin.append_ #[37,37] ty #[v,.slice a l.length c]).run prog w=.ok v' w'/\Zbw o' w' v' (ws++l)/\Chg (· = .waits) o o' w w'/\Zaj o' w':=by
 obtain⟨i,hi,hz,g3,gb⟩:=info_parts Zzh;have ht:=underlying37
 by_cases h0:l=[]
 .
  subst h0;refine⟨v,w,o,?_,by rw[List.append_nil];exact h,Chg.refl _ _ _,hlt⟩;rcases h.ex with ⟨rfl,rfl⟩|⟨g,off,cap,cur,rfl,_,_,hn,_⟩
  . cases a<;>simp[Builtin.append_,run_underlying ht,sizeOf,typeInfo,hi,Builtin.lenOf,Builtin.firstCells,loadCells,loadCellsFrom]
  . cases a<;>simp[Builtin.append_,run_underlying ht,sizeOf,typeInfo,hi,Builtin.lenOf,hn,Builtin.firstCells,storeCells,loadCells,loadCellsFrom]
 .
  have ga:0<l.length:=List.length_pos_iff.2 h0;obtain⟨b,off,rfl,_⟩:=hev.cells 0 ga;have g0:=hev.news;have gc:=Zx6 l;have g5:(l.flatMap evL).length=l.length*i.size:=by rw[g3];exact Zcs l
  have g9:(ws.flatMap evL++l.flatMap evL).length=(ws++l).length*3:=by rw[List.length_append,Zcs,Zcs,List.length_append];omega
  have mk:∀ (old:Nat),Zbw (Zcm o w.heap.size .waits) (w.drew.alloc (.cells ((ws.flatMap evL).toArray++(l.flatMap evL).toArray++Builtin.zeroCells (Value.agg #[.int .i64 0,.int .i64 0,.int .i64 0]).cells (grownCap w (ws.length+l.length) old 144-(ws.length+l.length))) 144)) (.slice (some ⟨w.heap.size,0,none⟩) (ws.length+l.length) (grownCap w (ws.length+l.length) old 144)) (ws++l) /\
   Chg (· = .waits) o (Zcm o w.heap.size .waits) w (w.drew.alloc (.cells ((ws.flatMap evL).toArray++(l.flatMap evL).toArray++Builtin.zeroCells (Value.agg #[.int .i64 0,.int .i64 0,.int .i64 0]).cells (grownCap w (ws.length+l.length) old 144-(ws.length+l.length))) 144)) /\
   Zaj (Zcm o w.heap.size .waits) (w.drew.alloc (.cells ((ws.flatMap evL).toArray++(l.flatMap evL).toArray++Builtin.zeroCells (Value.agg #[.int .i64 0,.int .i64 0,.int .i64 0]).cells (grownCap w (ws.length+l.length) old 144-(ws.length+l.length))) 144)):=by
   intro old;have gh:=grownCap_ge w (ws.length+l.length) old 144;have g6:grownCap w (ws.length+l.length) old 144<=maxLen:=grownCap_le_maxLen w _ old _ (by unfold maxLen;omega);refine⟨⟨.inr ⟨w.heap.size,0,_,_,by rw[List.length_append],Zbe _ _ _,heap_alloc_new w.drew _,by rw[List.length_append];exact gh,g6,?_,?_⟩⟩,((Chg.refl (· = .waits) o w).drewN 1).allocR (w':=w.drewN 1) hlt _ rfl,Zaj.allocR (w:=w.drewN 1) hlt _ .waits⟩
   . have e3:(Value.agg #[.int .i64 0,.int .i64 0,.int .i64 0]).cells.size=3:=rfl;simp only[Array.size_append,List.size_toArray,size_zeroCells,e3,Zcs,Nat.zero_add];omega
   . simp only[Array.toList_append,List.drop_zero,List.flatMap_append];rw[List.take_left' g9]
  rcases h.ex with ⟨rfl,rfl⟩|⟨g,off2,cap,cur,rfl,g8,hg,gg,g6,gi,g2⟩
  . have hr:=run_append_nil (P:=prog) w 37 ty 144 i _ ht hi hz ⟨b,off,none⟩ l.length c (l.flatMap evL) g5 g0 ga (by simp at hsm;omega) (by rw[gb];simp at hsm;omega);have hm:=mk 0;simp only[List.length_nil,Nat.zero_add,List.flatMap_nil,List.nil_append,Array.empty_append] at hm ⊢;exact⟨_,_,_,hr,hm⟩
  .
   by_cases g4:ws.length+l.length<=cap
   .
    have g1:off2+ws.length*i.size+(l.flatMap evL).length<=cur.size:=by rw[g5,g3];omega
    have hr:=Zip (P:=prog) w 37 ty 144 i ht hi g off2 ws.length cap cur hg ⟨b,off,none⟩ l.length c (l.flatMap evL) g5 g0 gc g4 g1;refine⟨_,_,o,hr,⟨.inr ⟨g,off2,cap,_,by rw[List.length_append],g8,setRow_heap w g cur _ _ _ hg,by rw[List.length_append];exact g4,g6,?_,?_⟩⟩,⟨rfl,rfl,rfl,by simp,fun k _ hk=>setRow_other w g k _ (by rintro rfl;exact hk _ g8 rfl),fun _ _ h=>h,fun _ h=>(h rfl).elim⟩,fun k q hq=>by have:=hlt k q hq;simpa using this⟩
    . simp only[List.size_toArray,List.length_append,List.length_take,List.length_drop,Array.length_toList];omega
    .
     rw[g3] at g1 ⊢;have e1:(cur.toList.take (off2+ws.length*3)).drop off2=ws.flatMap evL:=by
      rw[<- g2,List.drop_take,Nat.add_sub_cancel_left]
     have e2:off2<=(cur.toList.take (off2+ws.length*3)).length:=by
      have hq:ws.length*3<=cap*3:=Nat.mul_le_mul_right _ gg;have gf:off2+ws.length*3<=cur.size:=by clear g1;omega
      have ge:cur.toList.length=cur.size:=Array.length_toList;rw[List.length_take,ge,Nat.min_eq_left gf];exact Nat.le_add_right _ _
     simp only[List.append_assoc];rw[List.drop_append_of_le_length e2,e1,<- List.append_assoc,List.flatMap_append,List.take_left' g9]
   .
    have g7:∀ j u,(ws.flatMap evL)[j]?=some u->w.cell? ((⟨g,off2,none⟩:Addr).add j)=some u:=by
     intro j u hu;have gd:(⟨g,off2,none⟩:Addr).add j=⟨g,off2+j,none⟩:=by unfold Addr.add;split<;>simp_all
     rw[gd,cell_of_row w g (off2+j) cur _ _ hg];rw[<- g2,List.getElem?_take] at hu;split at hu
     . rw[List.getElem?_drop] at hu;simpa using hu
     . cases hu
    have hr:=run_append_grow (P:=prog) w 37 ty 144 i _ ht hi hz ⟨g,off2,none⟩ ws.length cap (ws.flatMap evL) (by rw[g3];exact Zcs ws) g7 ⟨b,off,none⟩ l.length c (l.flatMap evL) g5 g0 (by omega) (by omega) (growslice_fits (by omega) (by rw[gb];omega));exact⟨_,_,_,hr,mk cap⟩
open Go.RowKit
theorem Zbw.form {o:Own}{w:World}{v:Value}{ws:List Ev}(h:Zbw o w v ws):∃ a c,v=.slice a ws.length c:=by
 rcases h.ex with ⟨rfl,rfl⟩|⟨g,off,cap,cur,rfl,_⟩
 . exact⟨_,_,rfl⟩
 . exact⟨_,_,rfl⟩
theorem Zj5 {P:Program}{ops:Array Oper}{rest:List Oper}{op:Oper}{a:Act}{Q:Exit->Act->World->Prop}{w w':World}{vs vx v':Value}(hgd:op.guard=none)(s x:Operand)(t:TypeId)
 (hop:op.op=.call { callee:=.builtin .append,args:=#[s,x],argTypes:=#[t,t] }) (hs:a.eval s=vs) (hx:a.eval x=vx) (hr:(Builtin.append_ #[t,t] op.type #[vs,vx]).run P w=.ok v' w')
 (hK:wpList P ops Q rest (a.put op.dst v') w'):wpList P ops Q (op::rest) a w:=by
 refine wpList_plain hgd fun K g0=>?_
 unfold Oper.wp execOp;simp only[hop,resolve,invoke,builtin,Sem.run_bind,Sem.run_pure,Result.andThen_ok,List.map_toArray,List.map_cons,List.map_nil,hs,hx,hr];exact g0 _ _ hK
theorem Zb2.setWaits {F:Phi}{o o':Own}{w w':World}{mb:Nat}{m:ManD}{s:ManW}(h:Zb2 F o w mb m s)(hlt:Zaj o w){v':Value}{l':List Ev}(hw:Zbw o' w' v' l')(hc:Chg (· = .waits) o o' w w'):Zb2 F o' (w'.setCell ⟨mb,4,none⟩ v') mb { m with waits:=l' } { s with vw:=v' }:=by
 have key:∀ {g r},o g=some r->r ≠ .man->r ≠ .waits->(w'.setCell ⟨mb,4,none⟩ v').heap[g]?=w.heap[g]?:=by
  intro g r hg h1 h2;refine(Zad (p:=⟨mb,4,none⟩) (fun e=>?_) _).trans (hc.same hlt hg h2);have e':g=mb:=e;subst e';have:=h.own;rw[hg] at this;cases this;exact h1 rfl
 refine⟨hc.ext _ _ h.own,?_,h.store.keepR (fun g r hg hr=>key hg (by rintro rfl;simp[Zar,Zet] at hr) (by rintro rfl;simp[Zar,Zet] at hr)) hc.ext,h.memo.keep (fun g r hg hr=>key hg (by rintro rfl;rcases hr with e|e<;>cases e) (by rintro rfl;rcases hr with e|e<;>cases e)) hc.ext,hc.ext _ _ h.ownh,h.map.keepB (key h.ownh (by simp) (by simp)),hw.keep (fun g hg=>Zad (p:=⟨mb,4,none⟩) (fun e=>?_) _) (fun _ h=>h)⟩
 . exact Zag ((hc.same hlt h.own (by simp)).trans h.blk) _
 . have e':g=mb:=e;subst e';have:=hc.ext _ _ h.own;rw[hg] at this;cases this
section
variable {K:Law}{n:Nat}{Od:List Nat->Prop}{room:Nat}{w0 w w':World}{mb:Nat}{fs:List (Int×BF)}{nx:Int}{o o':Own}{m m':ManD}{V V':Nat->BF}
structure Planned (K:Law)(n:Nat)(Od:List Nat->Prop)(room:Nat)(w0:World)(mb:Nat)(fs:List (Int×BF))(nx:Int)(o:Own)(w:World)(m:ManD)(V:Nat->BF)(l:List Ev)(z:Int)(o':Own)(w':World)(m':ManD):Prop where
 sat:SatE K n Od room w0 mb fs nx w' o' m' V
 d:m'.d=m.d
 chg:Chg (fun _=>True) o o' w w'
 no:z≠0->m'.waits=m.waits/\m'.calls=m.calls
 yes:z=0->m'.waits=m.waits++l/\m'.calls=if m.waits=[] then 0 else m.calls
theorem Zo8 (h:SatE K n Od room w0 mb fs nx w o m V){a:Option Addr}{c:Nat}{l:List Ev}(hev:EvsAt w a l)(hno:0<l.length->∀ x,a=some x->o x.block=none)(hwl:m.waits.length<=256) :
 Calls prog 103 #[.pointer (some ⟨mb,0,none⟩),.slice a l.length c] w fun e w'=>e=.returned (.int .i64 (Zej n m.waits.length l))/\∃ o' m',Planned K n Od room w0 mb fs nx o w m V l (Zej n m.waits.length l) o' w' m':=by
 obtain⟨Q,hQ⟩:∃ Q:Ending->World->Prop,Q=fun e w'=>e=.returned (.int .i64 (Zej n m.waits.length l))/\∃ o' m',Planned K n Od room w0 mb fs nx o w m V l (Zej n m.waits.length l) o' w' m':=⟨_,rfl⟩
 rw[<- hQ];have HQ:=Hd hQ;clear hQ;have gG:=hev.len;have hn64:n<=64:=by rw[<- h.vars];exact h.ok.store.small
 obtain⟨s,hs⟩:=h.is;obtain⟨c0,c1,c2,c3,c4,c5,f0⟩:=cells6 hs.blk;obtain⟨av,cv,gi⟩:=hs.waits.form
 have g1:Hid (∀ (z:Int) W,Below w.heap.size w W->Zej n m.waits.length l=z->z≠0->Q (.returned (.int .i64 z)) W):=Hd (by
  intro z W hb hz h0;rw[HQ.out,hz];exact⟨rfl,o,m,h.below hb,rfl,Chg.of_below hb _ _,fun _=>⟨rfl,rfl⟩,fun e=>(h0 e).elim⟩)
 have HV:Hid (∀ W,Below w.heap.size w W->Calls prog 88 #[.pointer (some ⟨mb,0,none⟩)] W fun e w'=>e=.returned (.int .i64 n)/\w'=W):=Hd (fun W hb=>(Zjm (h.below hb).is).mono fun e w' q=>⟨by rw[q.1,h.vars],q.2.symm⟩);have HI:=Hd hev;have HS:=Hd hs;have HH:=Hd h;have gD:=Hd hno;rw[gi] at c4;have gt:=Hd gi;have gB:=Hd hwl;clear h hs hev hno gi
 by_cases g9:(l.length:Int)>256-m.waits.length
 .
  have HF:=Hd (g1.out 18 w (Below.refl _ _) (by unfold Zej;rw[if_pos g9]) (by decide))
  go_enter func103,ntmps103
  go_wp2_with fail;exact HF.out
 have HR:Hid (Zej n m.waits.length l=Zkc n (l.drop 0)):=Hd (by unfold Zej;rw[if_neg g9];rfl);obtain⟨P,hP⟩:∃ P,P=Zej n m.waits.length l:=⟨_,rfl⟩;rw[<- hP] at HR g1;have gC:=Hd hP;clear hP;have HM:=Hd g9
 go_enter func103,ntmps103
 go_wp2_with fail
 go_loopw [20] (fun s20 wr=>∃ i:Nat,i<=l.length/\s20=.int .i64 i/\Hid (Below w.heap.size w wr)/\Hid (P=Zkc n (l.drop i))) (fun s20 _=>l.length-(intOf s20).toNat)
 case atStart=>exact⟨0,Nat.zero_le _,rfl,Hd (Below.refl _ _),HR⟩
 case round =>
  clear HR;obtain⟨i,hi,rfl,HB,HP⟩:=hrel
  by_cases gf:i<l.length
  .
   obtain⟨b,off,rfl,e0,e1,e2⟩:=(HI.out.below HB.out).cells i gf;have gz:(i:Int)<l.length:=by omega
   have HC:Hid (∀ z:Int,Zgn n l[i]=z->z≠0->P=z):=Hd fun z hz h0=>by rw[HP.out,Zgf gf,hz,if_neg h0]
   have HN:Hid (Zgn n l[i]=0->P=Zkc n (l.drop (i+1))):=Hd fun hz=>by rw[HP.out,Zgf gf,hz,if_pos rfl]
   have HE:Hid (Zgn n l[i]=if l[i].kind<1\/l[i].kind>3 then 11 else if l[i].after<1\/(l[i].kind=2/\(l[i].level<0\/l[i].level>(n:Int)-2)) then 2 else 0):=Hd rfl;obtain⟨ev,hev⟩:∃ ev,ev=l[i]:=⟨_,rfl⟩;rw[<- hev] at e0 e1 e2 HC HN HE;obtain⟨af,ki,le⟩:=ev;dsimp only at e0 e1 e2 HE;clear hev HP c0 c1 c2 c3 c4 c5 f0;obtain⟨W,hW⟩:∃ W,W=wr.alloc (.cells #[.int .i64 af,.int .i64 ki,.int .i64 le] 144):=⟨_,rfl⟩;have gg:Below w.heap.size w W:=HB.out.trans ((show Below wr.heap.size wr W by rw[hW];exact Zaf wr _).mono HB.out.size);obtain⟨bx,gm⟩:∃ q,q=wr.heap.size:=⟨_,rfl⟩;have hx:W.heap[bx]?=some (.cells #[.int .i64 af,.int .i64 ki,.int .i64 le] 144 (0,0)):=by rw[hW,gm];exact heap_alloc_new wr _
   have b0:W.cell? ⟨bx,0,none⟩=some (.int .i64 af):=by rw[cell_of_row W _ 0 _ _ _ hx];rfl
   have b1:W.cell? ⟨bx,1,none⟩=some (.int .i64 ki):=by rw[cell_of_row W _ 1 _ _ _ hx];rfl
   have b2:W.cell? ⟨bx,2,none⟩=some (.int .i64 le):=by rw[cell_of_row W _ 2 _ _ _ hx];rfl
   have HW:=Hd hW;have gE:=Hd gm;have g0:=Hd gg;have g8:Hid (∀ q,Calls prog 88 #[.pointer (some ⟨mb,0,none⟩)] (W.drewN q) fun e w'=>e=.returned (.int .i64 n)/\w'=W.drewN q):=Hd (fun q=>HV.out _ (gg.trans ((Zah W q).mono gg.size)));have gh:=Hd gf;clear hW gm gg hx;go_upto_region 8 with fail;rw[<- HW.out,<- gE.out];have gx:ki<1\/ki>3\/(ki=2)\/(ki=1\/ki=3):=by omega
   rcases gx with hk|hk|hk|hk
   . have HF:=Hd (g1.out 11 W g0.out (HC.out 11 (by rw[HE.out,if_pos (.inl hk)]) (by decide)) (by decide));go_wp2_with fail;exact HF.out
   .
    have HF:=Hd (g1.out 11 W g0.out (HC.out 11 (by rw[HE.out,if_pos (.inr hk)]) (by decide)) (by decide));have gy:¬ ki<1:=by omega
    go_wp2_with fail;exact HF.out
   .
    by_cases ha:af<1
    .
     have HF:Hid (∀ q,Q (.returned (.int .i64 2)) (W.drewN q)):=Hd (fun q=>g1.out 2 _ (g0.out.trans ((Zah W q).mono g0.out.size)) (HC.out 2 (by rw[HE.out,if_neg (by omega),if_pos (.inl ha)]) (by decide)) (by decide));subst hk;go_upto_region 10 with fail
     go_quiet (with_reducible exact Calls.quiet_of_same (g8.out _))
     go_wp2_with fail;exact HF.out _
    .
     by_cases gw:le<0
     .
      have HF:Hid (∀ q,Q (.returned (.int .i64 2)) (W.drewN q)):=Hd (fun q=>g1.out 2 _ (g0.out.trans ((Zah W q).mono g0.out.size)) (HC.out 2 (by rw[HE.out,if_neg (by omega),if_pos (.inr ⟨hk,.inl gw⟩)]) (by decide)) (by decide));subst hk;go_upto_region 10 with fail
      go_quiet (with_reducible exact Calls.quiet_of_same (g8.out _))
      go_wp2_with fail;exact HF.out _
     .
      by_cases gb:le>=(n:Int)-1
      .
       have HF:Hid (∀ q,Q (.returned (.int .i64 2)) (W.drewN q)):=Hd (fun q=>g1.out 2 _ (g0.out.trans ((Zah W q).mono g0.out.size)) (HC.out 2 (by rw[HE.out,if_neg (by omega),if_pos (.inr ⟨hk,.inr (by omega)⟩)]) (by decide)) (by decide));subst hk;go_upto_region 10 with fail
       go_quiet (with_reducible exact Calls.quiet_of_same (g8.out _))
       go_wp2_with fail;exact HF.out _
      .
       have gc:=Hd (HN.out (by rw[HE.out,if_neg (by omega),if_neg (by omega)]));subst hk;go_upto_region 10 with fail
       go_quiet (with_reducible exact Calls.quiet_of_same (g8.out _))
       have go:=Hd (g0.out.trans ((Zah W nq).mono g0.out.size));go_wp2_with fail;go_roundw
       case rel=>exact⟨i+1,Nat.succ_le_of_lt gh.out,by go_num,go,gc⟩
       case measure =>
        have:=gh.out;simp[intOf];omega
   .
    have gy:¬ ki<1:=by omega
    have gI:¬ ki>3:=by omega
    have gH:(ki == 2)=false:=by simp;omega
    by_cases ha:af<1
    .
     have HF:Hid (∀ q,Q (.returned (.int .i64 2)) (W.drewN q)):=Hd (fun q=>g1.out 2 _ (g0.out.trans ((Zah W q).mono g0.out.size)) (HC.out 2 (by rw[HE.out,if_neg (by omega),if_pos (.inl ha)]) (by decide)) (by decide));clear hk;go_upto_region 10 with fail
     go_quiet (with_reducible exact Calls.quiet_of_same (g8.out _))
     go_wp2_with fail;exact HF.out _
    .
     have gc:=Hd (HN.out (by rw[HE.out,if_neg (by omega),if_neg (by omega)]));clear hk;go_upto_region 10 with fail
     go_quiet (with_reducible exact Calls.quiet_of_same (g8.out _))
     have go:=Hd (g0.out.trans ((Zah W nq).mono g0.out.size));go_wp2_with fail;go_roundw
     case rel=>exact⟨i+1,Nat.succ_le_of_lt gh.out,by go_num,go,gc⟩
     case measure =>
      have:=gh.out;simp[intOf];omega
  .
   have he:i=l.length:=by omega
   have gz:¬ (i:Int)<l.length:=by omega
   have gc:Hid (P=0):=Hd (by rw[HP.out,he,List.drop_length];rfl);clear he;have hs':=HS.out.below HH.out.lt HB.out;have g3:=HH.out.lt.mono HB.out.size;have gp:m.waits.length+l.length<=1000:=by have:=HM.out;have:=gB.out;omega
   have gn:Hid (∀ (cl:Int) (W:World) (hm:Zb2 (K m.d V) o W mb { m with calls:=cl } s) (hl:Zaj o W) (hc:Chg (fun _=>True) o o w W) (v':Value) (W':World) (o':Own),cl=(if m.waits=[] then 0 else m.calls)->Zbw o' W' v' (m.waits++l)->Chg (· = .waits) o o' W W'->Zaj o' W'->Q (.returned (.int .i64 0)) (W'.setCell ⟨mb,4,none⟩ v')):=Hd (by
    intro cl W hm hl hc v' W' o' gA hw gl gv;rw[HQ.out,<- gC.out,gc.out];have gu:=hm.setWaits hl hw gl;have gr:Chg (fun _=>True) o o' w (W'.setCell ⟨mb,4,none⟩ v'):=(hc.trans gl.any).setCell (p:=⟨mb,4,none⟩) (gl.ext _ _ hm.own) trivial _;exact⟨rfl,o',{ m with waits:=m.waits++l,calls:=cl },⟨⟨_,gu⟩,gv.mono (by simp[World.setCell]),⟨HH.out.ok.store,⟨HH.out.ok.handles.nodup,HH.out.ok.handles.zero,HH.out.ok.handles.one,HH.out.ok.handles.lt,HH.out.ok.handles.next,HH.out.ok.handles.ok,HH.out.ok.handles.len,HH.out.ok.handles.refs⟩⟩,HH.out.vars,HH.out.od,HH.out.room,HH.out.next,HH.out.hs,HH.out.chg.lower (ChgX.of_chg gr NoB) (fun _ e=>e.elim)⟩,rfl,gr,fun e=>(e rfl).elim,fun _=>⟨rfl,gA⟩⟩)
   have gd:=HI.out.below HB.out;clear c0 c1 c2 c3 c4 c5 f0;obtain⟨c0,c1,c2,c3,c4,c5,f0⟩:=cells6 hs'.blk
   by_cases hw0:m.waits=[]
   .
    have hz:m.waits.length=0:=by rw[hw0];rfl
    have HZ:=Hd hz;have g7:Zb2 (K m.d V) o (wr.setCell ⟨mb,5,none⟩ (.int .i64 0)) mb { m with calls:=0 } s:=hs'.field rfl rfl rfl rfl rfl (hs'.waits) rfl;have gs:Chg (fun _=>True) o o w (wr.setCell ⟨mb,5,none⟩ (.int .i64 0)):=(Chg.of_below HB.out _ _).setCell (p:=⟨mb,5,none⟩) hs'.own trivial _;have gb:Zaj o (wr.setCell ⟨mb,5,none⟩ (.int .i64 0)):=g3.mono (by simp[World.setCell])
    have gq:EvsAt (wr.setCell ⟨mb,5,none⟩ (.int .i64 0)) a l:=⟨gd.len,fun k hk=>by
     obtain⟨b,off,e,q0,q1,q2⟩:=gd.cells k hk;have gk:mb≠b:=by
      rintro rfl;have:=gD.out (by omega) _ e;have h2:=hs'.own;rw[h2] at this;cases this
     exact⟨b,off,e,Za9 q0 (.inl gk),Za9 q1 (.inl gk),Za9 q2 (.inl gk)⟩⟩
    obtain⟨v',w2,o2,g2,g4,g5,ga⟩:=Zik (c:=c) g7.waits gb gq gp 37;obtain⟨av2,cv2,gj⟩:=g4.form;subst gj;have HF:=Hd (gn.out 0 _ g7 gb gs _ w2 o2 (by rw[if_pos hw0]) g4 g5 ga);obtain⟨k0,k1,k2,k3,k4,k5,kf⟩:=cells6 g7.blk;have g6:=(g5.same gb g7.own (by simp)).trans g7.blk;obtain⟨j0,j1,j2,j3,j4,j5,jf⟩:=cells6 g6;rw[gt.out,hz] at c4 k4 g2;clear hs' g3 g7 gs gb gq g4 g5 ga gd hw0 g6 k0 k1 k2 k3 k5 kf;have ge:=Hd g2;clear g2;go_upto_region 15 with fail;go_wp2_with (refine Zj5 rfl _ _ _ rfl rfl rfl ge.out ?_);have hq:=HF.out;rw[List.length_append,HZ.out,Nat.zero_add] at hq;exact hq
   .
    have hz:0<m.waits.length:=List.length_pos_iff.2 hw0;have gF:((m.waits.length:Int) == 0)=false:=by rw[beq_eq_false_iff_ne];omega
    obtain⟨v',w2,o2,g2,g4,g5,ga⟩:=Zik (c:=c) hs'.waits g3 gd gp 37;obtain⟨av2,cv2,gj⟩:=g4.form;subst gj;have HF:=Hd (gn.out m.calls _ hs' g3 (Chg.of_below HB.out _ _) _ w2 o2 (by rw[if_neg hw0]) g4 g5 ga);have g6:=(g5.same g3 hs'.own (by simp)).trans hs'.blk;obtain⟨j0,j1,j2,j3,j4,j5,jf⟩:=cells6 g6;rw[gt.out] at c4 g2;clear hs' g3 g4 g5 ga gd hw0 g6 hz;have ge:=Hd g2;clear g2;go_upto_region 15 with fail;go_wp2_with (refine Zj5 rfl _ _ _ rfl rfl rfl ge.out ?_);have hq:=HF.out;rw[List.length_append] at hq;exact hq
end
open Go.RowKit
section
variable {K:Law}{n:Nat}{room:Nat}{w0:World}{mb:Nat}{fs hs:List (Int×BF)}{nx:Int}{W w w':World}{o o':Own}{m m':ManD}{V V':Nat->BF}{vl vx:Value}{ws0:List Ev}
theorem Zuv {n:Nat}(h:n<=16):2^n<=1000000:=Nat.le_trans (Nat.pow_le_pow_right (by omega) h) (by decide)
abbrev SufW (ws0:List Ev):List Ev->Int->Prop:=fun ws _=>ws <:+ ws0
theorem Zzj (hK:Zbu K)(h:SatE K n (fun _=>True) room w0 mb fs nx w o m V)(hw:m.waits <:+ ws0)(hn:nx<=549755813888)(hr:(fs.length+1)*2^n<=room){kf kg kh:Int}{F G H:BF}(hf:(kf,F)∈fs)(hg:(kg,G)∈fs)(hh:(kh,H)∈fs) :
 Calls prog 47 #[.pointer (some ⟨mb,0,none⟩),.int .i64 kf,.int .i64 kg,.int .i64 kh] w fun x w''=>x=.returned (.tuple #[.int .i64 nx,.int .i64 0])/\Goes K n (fun _=>True) room w0 mb (fs++[(nx,Zc6 F G H)]) (nx+1) (W2 (SufW ws0)) o w w'':=by
 refine(Zky hK h ws0 hw none (fun _ e=>by cases e) (fun _ e=>by cases e) (fun ev _=>Zhv hn ev) (by omega) hf hg hh).mono ?_;rintro x w'' hp;obtain⟨o2,m2,V2,q1,q2,q3,q4⟩:=Zn0 hp (Nat.sub_le _ _) hr;exact⟨q3,o2,m2,V2,q1,q2,q4⟩
end
end Go.Proofs.YtljjokfhdkegbaaGreat
