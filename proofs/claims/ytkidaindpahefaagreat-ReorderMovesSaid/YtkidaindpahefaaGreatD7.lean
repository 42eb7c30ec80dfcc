/- Several texts in one file: contracts of the program's functions and what follows from them. -/
import Derived.Test.YtkidaindpahefaaGreatD6
import Derived.Maps.RangeRun
set_option linter.unusedSimpArgs false
set_option linter.unusedVariables false
set_option linter.unusedSectionVars false
set_option linter.unnecessarySimpa false
set_option maxRecDepth 100000
set_option maxHeartbeats 8000000
namespace Go.Proofs.YtkidaindpahefaaGreat
open Go.Proofs.Tryz
open Go.RowKit
open Go.RowKit
open Go.RowKit
open Go.RowKit
section
variable {K:Law}{n:Nat}{room:Nat}{w0 w w':World}{mb:Nat}{fs:List (Int×BF)}{nx:Int}{o:Own}{m:ManD}{V:Nat->BF}{ws0:List Ev}
theorem Yea (hK:Zc8 K)(h:SatE K n (fun _=>True) room w0 mb fs nx w o m V)(hw:m.waits <:+ ws0)(hn:nx<=549755813888)(hr:(fs.length+1)*2^n<=room){v:Nat}(hv:v<n) :
 Calls prog 93 #[.pointer (some ⟨mb,0,none⟩),.int .i64 v] w fun x w''=>x=.returned (.tuple #[.int .i64 nx,.int .i64 0])/\Goes K n (fun _=>True) room w0 mb (fs++[(nx,varF v)]) (nx+1) (W2 (SufW ws0)) o w w'':=by
 refine(Zmo hK h ws0 hw none (fun _ e=>by cases e) (fun _ e=>by cases e) (fun ev _=>Zmj hn ev) (by omega) v hv).mono ?_;rintro x w'' hp;obtain⟨o2,m2,V2,q1,q2,q3,q4⟩:=Zp2 hp Nat.one_le_two_pow hr;exact⟨q3,o2,m2,V2,q1,q2,q4⟩
end
open Go.RowKit
open Go.RowKit
open Go.RowKit
open Go.RowKit
open Go.RowKit
open Go.RowKit
section
variable {K:Law}{n room L:Nat}{Od:List Nat->Prop}{w0 w wb W:World}{mb g:Nat}{fs bs r:List (Int×BF)}{nx:Int}{o o0:Own}{m:ManD}{V:Nat->BF}{ws0:List Ev}{C:Nat->Prop}{B:Nat->World->Own->Prop}{lop:Array Value}{Φ:BF->BF}{er:Nat->Int}{c:Int}
theorem Zbo.and {A B:World->Own->Prop}(hA:Zbo A)(hB:Zbo B):Zbo fun W o=>A W o/\B W o:=fun _ _ _ _ h hc=>⟨hA _ _ _ _ h.1 hc,hB _ _ _ _ h.2 hc⟩
end
end Go.Proofs.YtkidaindpahefaaGreat

namespace Go.Proofs.YtkidaindpahefaaGreat
open Go.Proofs.Tryz
theorem Zfe {zs:List Int}(h:Zay zs=true){i j:Nat}(hi:i<zs.length)(hj:j<zs.length)(he:at0 zs i=at0 zs j):i=j:=by
 have h2:=((Zbk zs).1 h).2;rcases Nat.lt_trichotomy i j with g0|e|g0
 . exact(h2 j hj i g0 he).elim
 . exact e
 . exact(h2 i hi j g0 he.symm).elim
theorem Zuy {zs ys:List Int}(h:Zay zs=true)(hl:ys.length=zs.length)(p:Nat->Nat)(hp:∀ j,j<zs.length->p j<zs.length)
 (hinj:∀ i j,i<zs.length->j<zs.length->p i=p j->i=j) (hy:∀ j,j<zs.length->at0 ys j=at0 zs (p j)):Zay ys=true:=by
 rw[Zbk,hl];have h1:=((Zbk zs).1 h).1;refine⟨fun k hk=>by rw[hy k hk];exact h1 _ (hp k hk),fun i hi k hk he=>?_⟩;rw[hy i hi,hy k (by omega)] at he;have:=hinj k i (by omega) hi (Zfe h (hp k (by omega)) (hp i hi) he);omega
theorem Zuz {zs:List Int}(h:Zay zs=true)(i:Int):Zay (Zca zs i)=true:=by
 by_cases g0:0<=i/\i+1<zs.length
 ·obtain⟨k,rfl⟩:=Int.eq_ofNat_of_zero_le g0.1;have hk:k+1<zs.length:=by omega
  refine Zuy h (Zcp _ _) (fun j=>if j=k then k+1 else if j=k+1 then k else j) ?_ ?_ ?_
  ·intro j hj;repeat' split
   all_goals omega
  ·intro i j hi hj;repeat' split
   all_goals omega
  ·intro j hj;rw[Ze8 hk];repeat' split
   all_goals rfl
 . rw[Zyv g0];exact h
end Go.Proofs.YtkidaindpahefaaGreat

namespace Go.Proofs.YtkidaindpahefaaGreat
open Go.Proofs.Tryz
def invs (f:Int->Int):List Int->Nat
 | []=>0
 | x::xs=>xs.countP (fun y=>decide (f x>f y))+invs f xs
theorem Znv (f:Int->Int)(l:List Int)(x y:Int)(r:List Int)(h:f x>f y):invs f (l++x::y::r)=invs f (l++y::x::r)+1:=by
 induction l with
 | nil =>
   simp only[List.nil_append,invs,List.countP_cons];have h2:¬ f y>f x:=by omega
   simp only[h,h2,decide_true,decide_false,if_true,Bool.false_eq_true,if_false];omega
 | cons a l ih =>
   simp only[List.cons_append,invs,ih,List.countP_append,List.countP_cons];omega
theorem Zyo {zs:List Int}{k:Nat}(h:k+1<zs.length):zs=zs.take k++at0 zs k::at0 zs (k+1)::zs.drop (k+2):=by
 have h1:=List.take_append_drop k zs;rw[Zh5 (by omega),Zh5 h] at h1;exact h1.symm
theorem Zu7 {zs:List Int}{k:Nat}(h:k+1<zs.length):Zca zs (k:Int)=zs.take k++at0 zs (k+1)::at0 zs k::zs.drop (k+2):=by
 refine Zfa (by rw[Zcp];simp;omega) fun j hj=>?_
 rw[Ze8 h];have hk:(zs.take k).length=k:=by simp;omega
 by_cases e1:j<k
 . rw[Zbt (by omega),Zh0 e1,if_neg (by omega),if_neg (by omega)]
 ·rw[Zbz (by omega),hk]
  by_cases e2:j=k
  . subst e2;rw[if_pos rfl,Nat.sub_self];rfl
  ·by_cases e3:j=k+1
   . subst e3;rw[if_neg e2,if_pos rfl,show k+1-k=1 by omega];rfl
   ·rw[if_neg e2,if_neg e3,show j-k=(j-k-2)+2 by omega]
    show _=at0 (zs.drop (k+2)) (j-k-2)
    rw[Zhz];congr 1;omega
theorem Zww {f:Int->Int}{zs:List Int}{k:Nat}(h:k+1<zs.length)(hf:f (at0 zs k)>f (at0 zs (k+1))):invs f zs=invs f (Zca zs (k:Int))+1:=by
 rw[Zu7 h]
 conv=>lhs;rw[Zyo h]
 exact Znv f _ _ _ _ hf
structure Upto (bs cur:List Int)(i:Nat):Prop where
 len:cur.length=bs.length
 right:Zay cur=true
 pre:∀ j,j<i->at0 cur j=at0 bs j
theorem Ycd {bs:List Int}(hb:Zay bs=true){i:Nat}(hi:i<bs.length)(d:Nat):∀ cur:List Int,Upto bs cur i->i+d<bs.length->at0 cur (i+d)=at0 bs i ->
 Upto bs (bub cur i d).1 (i+1)/\invs (Zcj bs) cur=invs (Zcj bs) (bub cur i d).1+d/\(∀ s∈(bub cur i d).2,0<=s/\s+1<bs.length)/\(bub cur i d).2.foldl Zca cur=(bub cur i d).1:=by
 induction d with
 | zero =>
   intro cur hu hd hx;refine⟨⟨hu.len,hu.right,fun j hj=>?_⟩,rfl,by simp[bub],rfl⟩
   by_cases e:j=i
   . subst e;exact hx
   . exact hu.pre j (by omega)
 | succ d ih =>
   intro cur hu hd hx;have hk:(i+d)+1<cur.length:=by rw[hu.len];omega
   have g1:Upto bs (Zca cur ((i+d:Nat):Int)) i:=by
    refine⟨by rw[Zcp,hu.len],Zuz hu.right _,fun j hj=>?_⟩;rw[Ze8 hk,if_neg (by omega),if_neg (by omega)];exact hu.pre j hj
   have g0:at0 (Zca cur ((i+d:Nat):Int)) (i+d)=at0 bs i:=by
    rw[Ze8 hk,if_pos rfl];exact hx
   obtain⟨h1,h2,h3,h4⟩:=ih _ g1 (by omega) g0;refine⟨h1,?_,?_,?_⟩
   ·have g2:Zcj bs (at0 cur (i+d))>Zcj bs (at0 cur (i+d+1)):=by
     have e1:at0 cur (i+d+1)=at0 bs i:=hx;rw[e1,Zgj hb hi];have hr:=((Zbk cur).1 hu.right).1 (i+d) (by omega);obtain⟨q,hq,g3⟩:=Zg4 hb (x:=(at0 cur (i+d)).toNat) (by rw[<- hu.len];omega);have e2:at0 bs q=at0 cur (i+d):=by omega
     rw[<- e2,Zgj hb hq];rcases Nat.lt_or_ge i q with g4|g5
     . omega
     ·exfalso
      by_cases e3:q=i
      . subst e3;have:=Zfe hu.right (i:=q+d) (j:=q+d+1) (by omega) (by omega) (by rw[<- e2,e1]);omega
      . have h5:=hu.pre q (by omega);rw[e2] at h5;have:=Zfe hu.right (i:=q) (j:=i+d) (by omega) (by omega) h5;omega
    rw[Zww hk g2,h2]
    show _=invs _ (bub (Zca cur ((i+d:Nat):Int)) i d).1+(d+1)
    omega
   ·intro s hs;rw[bub] at hs;rcases List.mem_cons.1 hs with rfl|hs
    . omega
    . exact h3 s hs
   . exact h4
theorem Ya5 {bs cur:List Int}(h:Upto bs cur bs.length):cur=bs:=Zfa h.len fun k hk=>h.pre k (by rw[<- h.len];exact hk)
theorem Zwv {bs:List Int}(hb:Zay bs=true):invs (Zcj bs) bs=0:=by
 have key:∀ n k,n+k=bs.length->invs (Zcj bs) (bs.drop k)=0:=by
  intro n
  induction n with
  | zero=>intro k hk;rw[List.drop_of_length_le (by omega)];rfl
  | succ n ih =>
    intro k hk;rw[Zh5 (by omega)];simp only[invs];rw[ih (k+1) (by omega),Nat.add_zero,List.countP_eq_zero];intro y hy;obtain⟨j,hj,rfl⟩:=List.mem_iff_getElem.1 hy;simp only[List.length_drop] at hj;have e:(bs.drop (k+1))[j]'(by simpa using hj)=at0 bs (k+1+j):=by rw[Zax (by omega),List.getElem_drop]
    rw[e,Zgj hb (by omega),Zgj hb (by omega)];simp;omega
 have:=key bs.length 0 (by omega);simpa using this
theorem Zyp {bs:List Int}(hb:Zay bs=true)(n:Nat):∀ (k:Nat) (cur:List Int),n+k=bs.length->Upto bs cur k ->
 (Zfg cur (bs.drop k) k).length=invs (Zcj bs) cur/\(∀ s∈Zfg cur (bs.drop k) k,0<=s/\s+1<bs.length)/\(Zfg cur (bs.drop k) k).foldl Zca cur=bs:=by
 induction n with
 | zero =>
   intro k cur hk hu;obtain rfl:k=bs.length:=by omega
   obtain rfl:=Ya5 hu;rw[List.drop_of_length_le (Nat.le_refl _)];exact⟨(Zwv hb).symm,by simp[Zfg],rfl⟩
 | succ n ih =>
   intro k cur hk hu;have g0:k<bs.length:=by omega
   rw[Zle cur bs k g0];obtain⟨q,hq,g5⟩:=Zg4 hu.right (x:=(at0 bs k).toNat) (by rw[hu.len];have:=((Zbk bs).1 hb).1 k g0;omega);have g4:=((Zbk bs).1 hb).1 k g0;have e1:at0 cur q=at0 bs k:=by omega
   have hp:Zcj cur (at0 bs k)=q:=by rw[<- e1];exact Zgj hu.right hq
   have g6:k<=q:=by
    rcases Nat.lt_or_ge q k with g1|g2
    . have:=hu.pre q g1;rw[e1] at this;have:=Zfe hb (i:=k) (j:=q) g0 (by omega) this;omega
    . exact g2
   have hd:∃ d,q=k+d:=⟨q-k,by omega⟩;obtain⟨d,rfl⟩:=hd;have g3:Zq9 cur (at0 bs k) k=bub cur k d:=by unfold Zq9;rw[hp];congr 1;omega
   rw[g3];obtain⟨h1,h2,h3,h4⟩:=Ycd hb g0 d cur hu (by rw[<- hu.len];exact hq) e1;obtain⟨i1,i2,i3⟩:=ih (k+1) _ (by omega) h1;refine⟨?_,?_,?_⟩
   . rw[List.length_append,i1,Zra,h2];omega
   ·intro s hs;rcases List.mem_append.1 hs with hs|hs
    . exact h3 s hs
    . exact i2 s hs
   . rw[List.foldl_append,h4];exact i3
theorem Zw8 {as_ bs:List Int}(ha:Zay as_=true)(hb:Zay bs=true)(hl:as_.length=bs.length) :
 (Zc1 as_ bs).length=invs (Zcj bs) as_/\(∀ s∈Zc1 as_ bs,0<=s/\s+1<bs.length)/\(Zc1 as_ bs).foldl Zca as_=bs:=by
 have:=Zyp hb bs.length 0 as_ (by omega) ⟨hl,ha,by omega⟩;unfold Zc1;rw[if_pos ⟨ha,hb,hl⟩];simpa using this
open Go.RowKit
end Go.Proofs.YtkidaindpahefaaGreat

namespace Go.Proofs.YtkidaindpahefaaGreat
open Go.Proofs.Tryz
open Go.RowKit
theorem SliceIs.same {w w':World}{v:Value}{zs:List Int}(h:SliceIs w v zs)(hk:∀ k,v.ownBlock=some k->w'.heap[k]?=w.heap[k]?):SliceIs w' v zs:=by
 obtain⟨a,c,rfl,⟨h1,h2⟩,h3⟩:=h;refine⟨a,c,rfl,⟨h1,fun k g0=>?_⟩,h3⟩;obtain⟨b,off,rfl,hc⟩:=h2 k g0;exact⟨b,off,rfl,(World.cell?_of_block (w:=w) (a:=⟨b,off+k,none⟩) (hk b rfl)).trans hc⟩
open Go.RowKit
def FxO (K:Law)(n room:Nat)(w0:World)(mb:Nat)(ws0:List Ev)(C:Nat->Prop)(o0:Own)(wb:World)(B:World->Own->Prop)(P:List Nat->Prop)(fs:List (Int×BF))(nx:Int)(W:World):Prop :=
 ∃ o m V,ChgX C o0 o wb W/\m.waits <:+ ws0/\SatE K n P room w0 mb fs nx W o m V/\B W o
def Zbn (v:Value)(zs:List Int):World->Own->Prop:=fun W o=>SliceIs W v zs/\(∀ k,v.ownBlock=some k->k<W.heap.size/\o k=none)
theorem Zbn.keep {v:Value}{zs:List Int}:Zbo (Zbn v zs):=fun W o W' o' h hc =>
 ⟨h.1.same fun k hk=>hc.block k (h.2 k hk).1 (h.2 k hk).2 (fun e=>e),fun k hk=>⟨Nat.lt_of_lt_of_le (h.2 k hk).1 hc.size,hc.none' (h.2 k hk).1 (h.2 k hk).2⟩⟩
theorem Zbn.slice {v:Value}{zs:List Int}{W:World}{o:Own}(h:Zbn v zs W o):SliceIs W v zs:=h.1
theorem Zsp (f:Int->Int):∀ zs:List Int,invs f zs<=zs.length*zs.length
 | []=>by simp[invs]
 | x::xs=>by
   have h1:=Zsp f xs;have h2:=List.countP_le_length (p:=fun y=>decide (f x>f y)) (l:=xs);simp only[invs,List.length_cons];have:(xs.length+1)*(xs.length+1)=xs.length*xs.length+2*xs.length+1:=by rw[Nat.add_mul,Nat.mul_add];omega
   omega
theorem Zwl {l:List Nat}{k:Nat}(h:k+1<l.length):(exL l k).map Int.ofNat=Zca (l.map Int.ofNat) (k:Int):=by
 have hl:((exL l k).map Int.ofNat).length=(Zca (l.map Int.ofNat) (k:Int)).length:=by rw[Zcp,List.length_map,List.length_map,Zmg]
 refine Zfa hl fun j hj=>?_
 have g0:j<(exL l k).length:=by simpa using hj
 have g1:j<l.length:=by rw[Zmg] at g0;exact g0
 rw[Zf7 g0,Ze8 (by rw[List.length_map];exact h)];split
 ·rename_i e
  subst e;rw[Zsj h,Zf7 h]
 ·split
  ·rename_i e
   subst e;rw[Zzk h,Zf7 (by omega)]
  ·rename_i h1 h2
   rw[Ybl h1 h2,Zf7 g1]
theorem Zdz {zs:List Int}{n:Nat}(h:Zvk zs n):Zay zs=true:=by
 have hl:=h.len;rw[Zbk];refine⟨fun k hk=>?_,fun i hi k hk e=>?_⟩
 . obtain⟨v,hv,e⟩:=h.lt k (by omega);rw[e];omega
 . have:=h.inj k i (by omega) (by omega) e;omega
theorem Zy9 {zs:List Int}{n:Nat}(h:Zay zs=true)(hl:zs.length=n):Zvk zs n:=by
 have h1:=(Zbk zs).1 h;refine⟨hl,fun i hi=>?_,fun i j hi hj e=>Zfe h (by omega) (by omega) e⟩;obtain⟨q1,q2⟩:=h1.1 i (by omega);exact⟨(at0 zs i).toNat,by omega,by omega⟩
theorem Zk2 {zs:List Int}{n:Nat}:Zfc zs n=decide (zs.length=n/\Zay zs=true):=by
 rw[Bool.eq_iff_iff,decide_eq_true_iff];constructor
 . intro h;have:=Zii h;exact⟨this.len,Zdz this⟩
 ·rintro⟨h1,h2⟩;refine Zs2 h1 (fun v hv=>?_) fun i j hi hj e=>Zfe h2 (by omega) (by omega) e
  obtain⟨k,hk,e⟩:=Zg4 h2 (x:=v) (by omega);exact⟨k,by omega,e⟩
section
variable {K:Law}{n room:Nat}{w0 w W w' wb:World}{mb:Nat}{fs r:List (Int×BF)}{nx:Int}{o0:Own}{ws0:List Ev}{C:Nat->Prop}{B:World->Own->Prop}{P P':List Nat->Prop}
theorem FxO.below (hB:Zbo B)(h:FxO K n room w0 mb ws0 C o0 wb B P fs nx W)(hb:Below W.heap.size W w'):FxO K n room w0 mb ws0 C o0 wb B P fs nx w':=by
 obtain⟨o,m,V,h1,h2,h3,h4⟩:=h;exact⟨o,m,V,h1.trans (ChgX.of_below hb o NoB) NoB.sub,h2,h3.below hb,hB _ _ _ _ h4 (ChgX.of_below hb o NoB)⟩
theorem FxO.withB {B':World->Own->Prop}(h:FxO K n room w0 mb ws0 C o0 wb B P fs nx W)(hB:∀ o m V,SatE K n P room w0 mb fs nx W o m V->B W o->B' W o):FxO K n room w0 mb ws0 C o0 wb B' P fs nx W:=by
 obtain⟨o,m,V,h1,h2,h3,h4⟩:=h;exact⟨o,m,V,h1,h2,h3,hB _ _ _ h3 h4⟩
theorem FxO.imp (h:FxO K n room w0 mb ws0 C o0 wb B P fs nx W)(hP:∀ l,l.length=n->P l->P' l):FxO K n room w0 mb ws0 C o0 wb B P' fs nx W:=by
 obtain⟨o,m,V,h1,h2,h3,h4⟩:=h;exact⟨o,m,V,h1,h2,h3.withOd (hP _ h3.vars h3.od),h4⟩
theorem FxO.ask {f:Nat}{args:Array Value}{R:Ending->World->Prop}(h:FxO K n room w0 mb ws0 C o0 wb B P fs nx W)(hc:∀ o m V,SatE K n P room w0 mb fs nx W o m V->B W o->Calls prog f args W R):Calls prog f args W R:=by
 obtain⟨o,m,V,_,_,h3,h4⟩:=h;exact hc o m V h3 h4
theorem FxO.below0 (h:FxO K n room w0 mb ws0 C o0 wb B P fs nx W):Below w0.heap.size w0 W:=by
 obtain⟨o,m,V,_,_,h3,_⟩:=h;exact h3.chg.below0
theorem FxO.know (h:FxO K n room w0 mb ws0 C o0 wb B P fs nx W){Q:World->Prop}(hq:∀ W o,B W o->Q W):Q W:=by
 obtain⟨o,m,V,_,_,h3,h4⟩:=h;exact hq _ _ h4
theorem FxO.mine (hB:Zbo B)(h:FxO K n room w0 mb ws0 C o0 wb B P fs nx W)(hb:Below W.heap.size W w'){v:Value}{zs:List Int}(hv:SliceIs w' v zs)(hk:∀ k,v.ownBlock=some k->W.heap.size<=k/\k<w'.heap.size):FxO K n room w0 mb ws0 C o0 wb (fun W o=>B W o/\Zbn v zs W o) P fs nx w':=by
 obtain⟨o,m,V,h1,h2,h3,h4⟩:=h;exact⟨o,m,V,h1.trans (ChgX.of_below hb o NoB) NoB.sub,h2,h3.below hb,hB _ _ _ _ h4 (ChgX.of_below hb o NoB),hv,fun k g0=>⟨(hk k g0).2,h3.lt.none (hk k g0).1⟩⟩
theorem FxO.order (hB:Zbo B)(h:FxO K n room w0 mb ws0 C o0 wb B P fs nx W) :
 Calls prog 19 #[.pointer (some ⟨mb,0,none⟩)] W fun x w'=>∃ (v:Value) (l:List Nat),x=.returned v/\l.length=n/\P l/\Zay (l.map Int.ofNat)=true/\OwnI w' W.heap.size v (l.map Int.ofNat)/\FxO K n room w0 mb ws0 C o0 wb (fun W o=>B W o/\Zbn v (l.map Int.ofNat) W o) (fun l'=>l'=l) fs nx w'/\Below W.heap.size W w':=by
 obtain⟨o,m,V,h1,h2,h3,h4⟩:=h;have hn64:n<=64:=by have:=h3.ok.store.small;rw[h3.vars] at this;exact this
 refine(Zjk h3.is h3.lt (by rw[h3.vars];exact hn64)).mono ?_;rintro x w' ⟨v,rfl,hv,hb⟩;have hp:=h3.ok.store.permB;have hc:=ChgX.of_below hb o NoB;refine⟨v,m.d.vars,rfl,h3.vars,h3.od,Zdz (Zii hp),hv,⟨o,m,V,h1.trans hc NoB.sub,h2,(h3.below hb).withOd rfl,hB _ _ _ _ h4 hc,hv.sliceIs (by rw[List.length_map,h3.vars];omega),fun k hk=>?_⟩,hb⟩;have:=hv.lt k hk;exact⟨this.2,h3.lt.none this.1⟩
theorem FxO.vars (h:FxO K n room w0 mb ws0 C o0 wb B P fs nx W):Calls prog 62 #[.pointer (some ⟨mb,0,none⟩)] W fun x w'=>x=.returned (.int .i64 n)/\W=w' :=
 h.ask fun _ _ _ hs _=>hs.vars_any
theorem FxO.swap (hB:Zbo B)(h:FxO K n room w0 mb ws0 C o0 wb B P fs nx W){k:Nat}(hk1:k+1<n)(hn:nx<=549755813888)(hr:3*(fs.length*2^n)<=room)(hP:∀ l,l.length=n->P l->P' (exL l k)) :
 Calls prog 113 #[.pointer (some ⟨mb,0,none⟩),.int .i64 k] W fun e w'=>e=.returned (.int .i64 0)/\FxO K n room w0 mb ws0 C o0 wb B P' fs nx w':=by
 obtain⟨o,m,V,h1,h2,h3,h4⟩:=h;refine(Zmn h3 hk1 hn hr).mono ?_;rintro e w' ⟨rfl,o2,m2,V2,s⟩;have hc:=ChgX.of_chg s.chg NoB;refine⟨rfl,o2,m2,V2,h1.trans hc NoB.sub,by rw[s.waits];exact h2,s.sat.withOd ?_,hB _ _ _ _ h4 hc⟩;rw[s.sat.od,Zqu];exact hP _ h3.vars h3.od
end
open Go.RowKit
end Go.Proofs.YtkidaindpahefaaGreat

namespace Go.Proofs.YtkidaindpahefaaGreat
open Go.Proofs.Tryz
open Go.RowKit
def Zkh (l:List BF)(F:BF):Prop:=∃ i,∃ h:i<l.length,l[i]=F\/l[i]=notF F
open Go.RowKit
end Go.Proofs.YtkidaindpahefaaGreat

namespace Go.Proofs.YtkidaindpahefaaGreat
open Go.Proofs.Tryz
open Go.RowKit
section
variable {d:Zad}{V:Nat->BF}
theorem Yay {f:Nat}{top least:Int}(h:TopS d [f] top least):(top = -1/\Zaa d (f/2)=none)\/∃ b,Zaa d (f/2)=some b/\top=(b.v:Nat):=by
 rcases h with ⟨h1,_,h3⟩|⟨v,h1,_,_,⟨e,he,b,hb,hv⟩,_⟩
 . exact .inl ⟨h1,h3 f (by simp)⟩
 . simp only[List.mem_singleton] at he;subst he;exact .inr ⟨b,hb,by rw[h1,hv]⟩
end
open Go.RowKit
open Classical in
theorem Znh {d:Zad}{V:Nat->BF}(h:Zak d V){f v:Nat}(hf:okE (Zaa d) f)(hv:v<d.vars.length)(hl:levN d v<=lvE d.vars.length (levN d) (Zaa d) f) :
 ef V (cofs d f v).1=cofF (ef V f) v false/\ef V (cofs d f v).2=cofF (ef V f) v true:=by
 obtain⟨q1,q2,q3,q4,q5⟩:=Zda h hf hv hl;constructor
 . funext ρ;rw[Zjw,q5,Zis,h.dag.indep_var q1 q3];rfl
 . funext ρ;rw[Zjw,q5,Zis,h.dag.indep_var q2 q4];rfl
open Go.RowKit
section
variable {u u' u'' x v:Value}{w w' w'' W W':World}{n B:Nat}{F:BF}{Fs:List BF}
theorem Zmi (p:Nat->Bool):∀ m,(∃ i,i<m/\p i=true)->∃ q,q<m/\p q=true/\∀ j,j<q->p j=false
 | 0,h=>by obtain⟨i,hi,_⟩:=h;omega
 | m+1,h=>by
   by_cases c:∃ i,i<m/\p i=true
   . obtain⟨q,h1,h2,h3⟩:=Zmi p m c;exact⟨q,by omega,h2,h3⟩
   ·have hn:∀ j,j<m->p j=false:=fun j hj=>by
     cases e:p j with
     | false=>rfl
     | true=>exact absurd ⟨j,hj,e⟩ c
    obtain⟨i,hi,e⟩:=h;obtain rfl:i=m:=by
     rcases Nat.lt_or_ge i m with h1|h1
     . rw[hn i h1] at e;cases e
     . omega
    exact⟨i,hi,e,hn⟩
theorem Zvb {l:List Nat}(h:∃ v∈l,Zdl n F v=true):∃ q,q<l.length/\topR n F l=(l.getD q 0:Nat)/\Zdl n F (l.getD q 0)=true/\∀ j,j<q->Zdl n F (l.getD j 0)=false:=by
 obtain⟨v,hv,hh⟩:=h;obtain⟨i,hi,rfl⟩:=List.getElem_of_mem hv;obtain⟨q,h1,h2,h3⟩:=Zmi (fun q=>Zdl n F (l.getD q 0)) l.length ⟨i,hi,by simpa [List.getD,hi] using hh⟩;exact⟨q,h1,Zr9 l q h1 h2 h3,h2,h3⟩
end
open Classical in
noncomputable def belF (n:Nat)(os:List Nat):Nat->List BF->BF->List BF
 | 0,l,_=>l
 | k+1,l,F=>if (∃ c,F=fun _=>c)\/Zkh l F then l else belF n os k (belF n os k (l++[F]) (cofF F (topR n F os).toNat false)) (cofF F (topR n F os).toNat true)
theorem Znf (n:Nat)(os:List Nat):∀ (k:Nat) (l:List BF) (F:BF),(belF n os k l F).length+1<=l.length+2^k
 | 0,l,F=>by simp[belF]
 | k+1,l,F=>by
   unfold belF;have hp:0<2^k:=Nat.pow_pos (by omega);rw[Nat.pow_succ];split
   . omega
   . have h1:=Znf n os k (l++[F]) (cofF F (topR n F os).toNat false);have h2:=Znf n os k (belF n os k (l++[F]) (cofF F (topR n F os).toNat false)) (cofF F (topR n F os).toNat true);rw[List.length_append,List.length_singleton] at h1;omega
open Go.RowKit
section
variable {n:Nat}{os:List Nat}{p k:Nat}{F:BF}{l:List BF}
theorem Zow (h:(∃ c,F=fun _=>c)\/Zkh l F):belF n os k l F=l:=by
 cases k with
 | zero=>rfl
 | succ k=>unfold belF;rw[if_pos h]
theorem Yb9 {v:Nat}(h:¬ ((∃ c,F=fun _=>c)\/Zkh l F))(hv:topR n F os=(v:Nat)):belF n os (k+1) l F=belF n os k (belF n os k (l++[F]) (cofF F v false)) (cofF F v true):=by
 rw[belF,if_neg h,hv];rfl
theorem Zne (n:Nat)(os:List Nat):∀ (k:Nat) (l:List BF) (F:BF),(∀ G∈l,DepF n G)->DepF n F->∀ G∈belF n os k l F,DepF n G
 | 0,l,F,hl,_=>hl
 | k+1,l,F,hl,h=>by
   unfold belF;split
   . exact hl
   ·exact Zne n os k _ _ (Zne n os k _ _ (fun G hG=>by
     rcases List.mem_append.1 hG with h1|h1
     . exact hl G h1
     . simp at h1;subst h1;exact h) (Zfm h _ _)) (Zfm h _ _)
end
open Go.RowKit
noncomputable def nodesF (n:Nat)(os:List Nat)(Gs:List BF):List BF:=Gs.foldl (fun l G=>belF n os n l G) []
open Go.RowKit
def Zb6 (d:Zad):Nat->List Nat->Nat->List Nat
 | 0,met,_=>met
 | k+1,met,f=>match Zaa d (f/2) with
   | none=>met
   | some b=>if f/2∈met then met else Zb6 d k (Zb6 d k (met++[f/2]) (cofs d f b.v).1) (cofs d f b.v).2
structure RelN (d:Zad)(V:Nat->BF)(met:List Nat)(l:List BF):Prop where
 len:met.length=l.length
 node:∀ i∈met,∃ b,Zaa d i=some b
 fn:∀ i (h:i<met.length) (h2:i<l.length),l[i]=V met[i]\/l[i]=notF (V met[i])
section
variable {d:Zad}{V:Nat->BF}
theorem Zp0 (F:BF):notF (notF F)=F:=funext fun ρ=>by show (!(!F ρ))=F ρ;simp
theorem Ycj (f:Nat):ef V f=V (f/2)\/ef V f=notF (V (f/2)):=by
 rcases(show f%2=0\/f%2=1 by omega) with h|h
 . exact .inl (funext fun ρ=>by simp[ef,h])
 . exact .inr (funext fun ρ=>by simp[ef,h,notF])
theorem Zkl (h:Zak d V)(h0:Zaa d 0=none){f:Nat}(hf:okE (Zaa d) f):(∃ c,ef V f=fun _=>c)↔Zaa d (f/2)=none:=by
 constructor
 ·rintro⟨c,hc⟩;have:f=0\/f=1:=by
   cases c with
   | true=>exact .inl ((h.dag.canon_iff hf (.inl rfl)).1 (by rw[hc,h.dag.ef0]))
   | false=>exact .inr ((h.dag.canon_iff hf (.inl rfl)).1 (by rw[hc,h.dag.ef1]))
  rcases this with rfl|rfl<;>exact h0
 ·intro hn;rcases hf with h1|⟨b,hb⟩
  . rw[Zwi h h1];exact⟨_,rfl⟩
  . rw[hn] at hb;cases hb
theorem Zov (h:Zak d V){f:Nat}(hf:okE (Zaa d) f){met:List Nat}{l:List BF}(hr:RelN d V met l):Zkh l (ef V f)↔f/2∈met:=by
 constructor
 ·rintro⟨i,hi,he⟩;have hm:i<met.length:=by rw[hr.len];exact hi
  obtain⟨b,hb⟩:=hr.node _ (List.getElem_mem hm);have hE:∀ c,c<2->okE (Zaa d) (2*met[i]+c):=fun c hc=>.inr ⟨b,by rw[show (2*met[i]+c)/2=met[i] by omega];exact hb⟩
  have g1:ef V (2*met[i]+0)=V met[i]:=funext fun ρ=>by unfold ef;rw[show (2*met[i]+0)/2=met[i] by omega,show (2*met[i]+0)%2=0 by omega];simp
  have g0:ef V (2*met[i]+1)=notF (V met[i]):=funext fun ρ=>by unfold ef notF;rw[show (2*met[i]+1)/2=met[i] by omega,show (2*met[i]+1)%2=1 by omega];simp
  have hn:=Ycl V f;have key:∀ e,okE (Zaa d) e->e/2=met[i]->(ef V e=ef V f\/ef V e=ef V (enot f))->f/2=met[i]:=fun e he h2 h3=>by
   rcases h3 with h3|h3
   . rw[<- (h.dag.canon_iff he hf).1 h3];exact h2
   . have:=(h.dag.canon_iff he (Zsy hf)).1 h3;rw[this,Zek] at h2;exact h2
  have:f/2=met[i]:=by
   rcases hr.fn i hm hi with e|e
   . exact key _ (hE 0 (by omega)) (by omega) (by rw[g1,<- e,hn];exact he)
   . exact key _ (hE 1 (by omega)) (by omega) (by rw[g0,<- e,hn];exact he)
  rw[this];exact List.getElem_mem hm
 ·intro hm;obtain⟨i,hi,he⟩:=List.getElem_of_mem hm;refine⟨i,by rw[<- hr.len];exact hi,?_⟩;have h1:=hr.fn i hi (by rw[<- hr.len];exact hi);rw[he] at h1;rcases Ycj (V:=V) f with e|e<;>rcases h1 with e2|e2<;>rw[e,e2]
  . exact .inl rfl
  . exact .inr rfl
  . exact .inr (Zp0 _).symm
  . exact .inl rfl
theorem Zi8 (h:Zak d V)(h0:Zaa d 0=none):∀ (k:Nat) (met:List Nat) (l:List BF) (f:Nat),okE (Zaa d) f->RelN d V met l->RelN d V (Zb6 d k met f) (belF d.vars.length d.vars k l (ef V f))
 | 0,met,l,f,_,hr=>hr
 | k+1,met,l,f,hf,hr=>by
   cases hb:Zaa d (f/2) with
   | none =>
     rw[Zow (.inl ((Zkl h h0 hf).2 hb))];unfold Zb6;rw[hb];exact hr
   | some b =>
     unfold Zb6;rw[hb]
     show RelN d V (if f/2∈met then met else _) _
     by_cases hm:f/2∈met
     . rw[if_pos hm,Zow (.inr ((Zov h hf hr).2 hm))];exact hr
     ·have hnc:¬ ∃ c,ef V f=fun _=>c:=fun e=>by rw[(Zkl h h0 hf).1 e] at hb;cases hb
      obtain⟨htop,hbv⟩:=Ztj h hb;rw[if_neg hm,Yb9 (fun e=>e.elim hnc fun e=>hm ((Zov h hf hr).1 e)) htop];have hl:levN d b.v<=lvE d.vars.length (levN d) (Zaa d) f:=by unfold lvE;rw[hb];exact Nat.le_refl _
      obtain⟨q1,q2,_⟩:=Zda h hf hbv hl;obtain⟨e1,e2⟩:=Znh h hf hbv hl;rw[<- e1,<- e2];refine Zi8 h h0 k _ _ _ q2 (Zi8 h h0 k _ _ _ q1 ⟨by simp[hr.len],fun i hi=>?_,fun i h1 h2=>?_⟩)
      ·rcases List.mem_append.1 hi with c|c
       . exact hr.node i c
       . simp at c;subst c;exact⟨b,hb⟩
      ·rcases Nat.lt_or_ge i met.length with c|c
       . rw[List.getElem_append_left c,List.getElem_append_left (by rw[<- hr.len];exact c)];exact hr.fn i c _
       ·have e:i=met.length:=by simp at h1;omega
        subst e;rw[List.getElem_append_right (Nat.le_refl _),List.getElem_append_right (by rw[hr.len];exact Nat.le_refl _)];simpa using Ycj (V:=V) f
end
open Go.RowKit
def Zfk (v:Nat):List (Nat×Nat)->List (Nat×Nat)
 | []=>[(v,1)]
 | p::r=>if p.1=v then (v,p.2+1)::r else p::Zfk v r
def getC (v:Nat):List (Nat×Nat)->Nat
 | []=>0
 | p::r=>if p.1=v then p.2 else getC v r
def sumC (l:List (Nat×Nat)):Nat:=(l.map (·.2)).sum
theorem Ztg (v:Nat):∀ l,sumC (Zfk v l)=sumC l+1
 | []=>rfl
 | p::r=>by
   unfold Zfk;split
   . simp only[sumC,List.map_cons,List.sum_cons];omega
   . have:=Ztg v r;simp only[sumC,List.map_cons,List.sum_cons] at this ⊢;omega
theorem Zsm (v u:Nat):∀ l,getC u (Zfk v l)=getC u l+(if u=v then 1 else 0)
 | []=>by
   show (if v=u then 1 else 0)=0+_
   by_cases h:u=v
   . subst h;simp
   . rw[if_neg h,if_neg (fun e=>h e.symm)]
 | p::r=>by
   unfold Zfk
   by_cases h:p.1=v
   ·rw[if_pos h]
    show (if v=u then p.2+1 else getC u r)=(if p.1=u then p.2 else getC u r)+_
    rw[h]
    by_cases e:v=u
    . rw[if_pos e,if_pos e,if_pos e.symm]
    . rw[if_neg e,if_neg e,if_neg (fun c=>e c.symm),Nat.add_zero]
   ·rw[if_neg h]
    show (if p.1=u then p.2 else getC u (Zfk v r))=(if p.1=u then p.2 else getC u r)+_
    by_cases e:p.1=u
    . rw[if_pos e,if_pos e,if_neg (fun c=>h (e.trans c)),Nat.add_zero]
    . rw[if_neg e,if_neg e,Zsm v u r]
theorem Ybn (v:Nat):∀ l,getC v l<=sumC l
 | []=>Nat.le_refl _
 | p::r=>by
   have:=Ybn v r;simp only[getC,sumC,List.map_cons,List.sum_cons] at this ⊢;split<;>omega
def vrD (d:Zad)(i:Nat):Nat:=match Zaa d i with|some b=>b.v|none=>0
def tally (d:Zad)(met:List Nat):List (Nat×Nat):=met.foldl (fun c i=>Zfk (vrD d i) c) []
section
variable {d:Zad}{V:Nat->BF}
theorem Zva (met:List Nat)(i:Nat):tally d (met++[i])=Zfk (vrD d i) (tally d met):=by
 unfold tally;rw[List.foldl_append];rfl
theorem Zr8 (met:List Nat){i:Nat}{b:BN}(hb:Zaa d i=some b):tally d (met++[i])=Zfk b.v (tally d met):=by
 rw[Zva,show vrD d i=b.v by unfold vrD;rw[hb]]
theorem Zm6 (c:List (Nat×Nat))(v:Nat):∀ met:List Nat,sumC (met.foldl (fun c i=>Zfk (vrD d i) c) c)=sumC c+met.length/\getC v (met.foldl (fun c i=>Zfk (vrD d i) c) c)=getC v c+met.countP fun i=>vrD d i=v:=by
 intro met
 induction met generalizing c with
 | nil=>exact⟨rfl,rfl⟩
 | cons i r ih =>
   obtain⟨h1,h2⟩:=ih (Zfk (vrD d i) c);refine⟨?_,?_⟩
   . rw[List.foldl_cons,h1,Ztg,List.length_cons];omega
   ·rw[List.foldl_cons,h2,Zsm,List.countP_cons]
    by_cases e:v=vrD d i
    . rw[if_pos e,if_pos (by simp[e])];omega
    . rw[if_neg e,if_neg (by simpa using fun c=>e c.symm)];omega
theorem Zlj (met:List Nat):sumC (tally d met)=met.length:=by
 have:=(Zm6 (d:=d) [] 0 met).1;unfold tally;rw[this];simp[sumC]
theorem Zyy (met:List Nat)(v:Nat):getC v (tally d met)=met.countP fun i=>vrD d i=v:=by
 have:=(Zm6 (d:=d) [] v met).2;unfold tally;rw[this];simp[getC]
structure Zit (d:Zad)(met:List Nat):Prop where
 nd:met.Nodup
 node:∀ i∈met,∃ b,Zaa d i=some b
theorem Zit.snoc {met:List Nat}(h:Zit d met){i:Nat}{b:BN}(hb:Zaa d i=some b)(hn:i∉met):Zit d (met++[i]):=by
 refine⟨List.nodup_append.2 ⟨h.nd,by simp,fun a ha c hc e=>?_⟩,fun j hj=>?_⟩
 . simp at hc;subst hc;subst e;exact hn ha
 ·rcases List.mem_append.1 hj with c|c
  . exact h.node j c
  . simp at c;subst c;exact⟨b,hb⟩
theorem Zit.len {met:List Nat}(h:Zit d met)(hlt:∀ e,okE (Zaa d) e->e<eMax):met.length<=2305843009213693952:=by
 refine Zg0 _ _ h.nd fun i hi=>?_
 obtain⟨b,hb⟩:=h.node i hi;have:=hlt (2*i) (.inr ⟨b,by rw[show 2*i/2=i by omega];exact hb⟩);unfold eMax at this;omega
theorem Zoj (h:Zak d V):∀ (k:Nat) (met:List Nat) (f:Nat),Zit d met->Zit d (Zb6 d k met f)
 | 0,met,f,hm=>hm
 | k+1,met,f,hm=>by
   unfold Zb6;cases hb:Zaa d (f/2) with
   | none=>exact hm
   | some b =>
     show Zit d (if f/2∈met then met else _)
     by_cases c:f/2∈met
     . rw[if_pos c];exact hm
     . rw[if_neg c];exact Zoj h k _ _ (Zoj h k _ _ (hm.snoc hb c))
def Zly (d:Zad)(l:List Nat):List Nat:=l.foldl (fun met f=>Zb6 d d.vars.length met f) []
theorem Zu4 (l:List Nat){i:Nat}(hi:i<l.length):Zly d (l.take (i+1))=Zb6 d d.vars.length (Zly d (l.take i)) l[i]:=by
 unfold Zly;rw[List.take_add_one,List.getElem?_eq_getElem hi,List.foldl_append];rfl
theorem Zs9 (h:Zak d V)(l:List Nat):Zit d (Zly d l):=by
 unfold Zly;have:∀ (l met:List Nat),Zit d met->Zit d (l.foldl (fun met f=>Zb6 d d.vars.length met f) met):=by
  intro l
  induction l with
  | nil=>intro met hm;exact hm
  | cons f r ih=>intro met hm;exact ih _ (Zoj h _ _ _ hm)
 exact this l [] ⟨List.nodup_nil,by simp⟩
theorem Zyj (h:Zak d V)(l:List Nat)(hl:∀ f∈l,okE (Zaa d) f):(Zly d l).length=(nodesF d.vars.length d.vars (l.map (ef V))).length:=by
 have:∀ (l:List Nat) (met:List Nat) (gs:List BF),(∀ f∈l,okE (Zaa d) f)->RelN d V met gs->RelN d V (l.foldl (fun met f=>Zb6 d d.vars.length met f) met) ((l.map (ef V)).foldl (fun l G=>belF d.vars.length d.vars d.vars.length l G) gs):=by
  intro l
  induction l with
  | nil=>intro met gs _ hr;exact hr
  | cons f r ih =>
    intro met gs hl hr;exact ih _ _ (fun g hg=>hl g (List.mem_cons_of_mem _ hg)) (Zi8 h h.dag.none0 _ _ _ f (hl f (List.mem_cons_self ..)) hr)
 exact(this l [] [] hl ⟨rfl,fun i hi=>by simp at hi,fun i h1=>by simp at h1⟩).len
end
open Go.RowKit
theorem Zzw:Zm9 prog 3 (Value.int .i64):=Zpp underlying3
def mtL (met:List Nat):List (Int×Value):=met.map fun i:Nat=>((i:Int),(.bool true:Value))
theorem Zxr (met:List Nat)(f:Nat):getL (mtL met) (f:Int)=if f∈met then some (.bool true) else none:=by
 by_cases h:f∈met
 ·rw[if_pos h];unfold getL;have:∀ (l:List Nat) (i:Nat),f∈l->(Zch (f:Int) (mtL l) i).map (·.2)=some (.bool true):=by
   intro l
   induction l with
   | nil=>intro i h;simp at h
   | cons x r ih =>
     intro i h
     show (if (x:Int)=(f:Int) then some (i,(.bool true:Value)) else Zch (f:Int) (mtL r) (i+1)).map (·.2)=_
     by_cases e:(x:Int)=(f:Int)
     . rw[if_pos e];rfl
     ·rw[if_neg e];refine ih _ ?_;rcases List.mem_cons.1 h with h|h
      . exact absurd (by rw[h]) e
      . exact h
  exact this met 0 h
 ·rw[if_neg h];refine Zd2.2 fun p hp=>?_
  obtain⟨i,hi,rfl⟩:=List.mem_map.1 hp;intro e;have e2:i=f:=Int.ofNat.inj e;rw[e2] at hi;exact h hi
theorem Zmq {w:World}{b:Nat}{met:List Nat}(h:Zbf w b (Value.int .i64) (mtL met))(f:Nat) :
 (Instr.lookup 195 (.map (some b)) (.int .i64 (f:Nat)) false).run prog w=.ok (.bool (decide (f∈met))) w:=by
 have:=h.lookup Zzw underlying195 zeroValue4 (f:Int) false;rw[Zxr] at this
 by_cases c:f∈met
 . rw[if_pos c] at this;simpa [c] using this
 . rw[if_neg c] at this;simpa [c] using this
theorem Zum {w:World}{b:Nat}{met:List Nat}(h:Zbf w b (Value.int .i64) (mtL met)){f:Nat}(hf:f∉met) :
 ∃ w',(Instr.mapUpdate 195 (.map (some b)) (.int .i64 (f:Nat)) (.bool true)).run prog w=.ok () w'/\Zbf w' b (Value.int .i64) (mtL (met++[f]))/\w.grownBy w' (some b):=by
 obtain⟨w',h1,h2,h3⟩:=h.update Zzw underlying195 (f:Int) (.bool true);refine⟨w',h1,?_,h3⟩;have e:putL (f:Int) (.bool true) (mtL met)=mtL (met++[f]):=by
  have hg:=Zxr met f;rw[if_neg hf] at hg;unfold getL at hg;unfold putL;cases hc:Zch (f:Int) (mtL met) 0 with
  | none=>simp[mtL]
  | some q=>rw[hc] at hg;simp at hg
 rw[<- e];exact h2
open Go.RowKit
def ctL (cs:List (Nat×Nat)):List (Int×Value):=cs.map fun p=>((p.1:Int),(.int .i64 (p.2:Nat):Value))
theorem Zrd (v:Nat):∀ (cs:List (Nat×Nat)) (i:Nat),(Zch (v:Int) (ctL cs) i=none/\getC v cs=0/\Zfk v cs=cs++[(v,1)])\/∃ j,Zch (v:Int) (ctL cs) i=some (i+j,.int .i64 (getC v cs:Nat))/\Zfk v cs=cs.set j (v,getC v cs+1)
 | [],i=>.inl ⟨rfl,rfl,rfl⟩
 | p::r,i=>by
   by_cases h:p.1=v
   ·refine .inr ⟨0,?_,?_⟩
    ·show (if (p.1:Int)=(v:Int) then _ else _)=_
     rw[if_pos (by rw[h])];simp[getC,h]
    . simp[Zfk,getC,h]
   ·have hne:¬ (p.1:Int)=(v:Int):=fun e=>h (Int.ofNat.inj e)
    have e1:∀ i,Zch (v:Int) (ctL (p::r)) i=Zch (v:Int) (ctL r) (i+1):=fun i=>by
     show (if (p.1:Int)=(v:Int) then _ else _)=_
     rw[if_neg hne];rfl
    rcases Zrd v r (i+1) with ⟨a,b,c⟩|⟨j,a,b⟩
    . exact .inl ⟨by rw[e1,a],by simp[getC,h,b],by simp[Zfk,h,c]⟩
    ·refine .inr ⟨j+1,?_,?_⟩
     . rw[e1,a];simp[getC,h];omega
     . simp[Zfk,h,b,getC]
theorem Zwb {w:World}{b:Nat}{cs:List (Nat×Nat)}(h:Zbf w b (Value.int .i64) (ctL cs))(v:Nat) :
 (Instr.lookup 153 (.map (some b)) (.int .i64 (v:Nat)) false).run prog w=.ok (.int .i64 (getC v cs:Nat)) w:=by
 have:=h.lookup Zzw underlying153 zeroValue3 (v:Int) false;rw[this];unfold getL;rcases Zrd v cs 0 with ⟨a,b,_⟩|⟨j,a,_⟩
 . rw[a,b];simp
 . rw[a];simp
theorem Zwc {w:World}{b:Nat}{cs:List (Nat×Nat)}(h:Zbf w b (Value.int .i64) (ctL cs))(v:Nat){c:Int}(hc:c=(getC v cs+1:Nat)) :
 ∃ w',(Instr.mapUpdate 153 (.map (some b)) (.int .i64 (v:Nat)) (.int .i64 c)).run prog w=.ok () w'/\Zbf w' b (Value.int .i64) (ctL (Zfk v cs))/\w.grownBy w' (some b):=by
 obtain⟨w',h1,h2,h3⟩:=h.update Zzw underlying153 (v:Int) (.int .i64 c);refine⟨w',h1,?_,h3⟩;have e:putL (v:Int) (.int .i64 c) (ctL cs)=ctL (Zfk v cs):=by
  unfold putL;subst hc;rcases Zrd v cs 0 with ⟨a,b,q⟩|⟨j,a,q⟩
  . rw[a,q];simp[ctL,b]
  . rw[a,q];simp[ctL,List.map_set]
 rw[<- e];exact h2
open Go.RowKit
open Go.RowKit
theorem Zxv {P:Program}{S:World->Prop}{Q:Exit->Act->World->Prop}{R:List PanicEntry->World->Prop}{i:Nat}{pl:List Nat}{l:List Oper}{f:Nat}{L:Array Bool}{a:Act}{w w':World}{o:Oper}{t:TypeId}{m x y:Operand}(hi:l[i]?=some o)(hr:decide (Region.ready .any l.toArray L=[i])=true)
 (hg:Region.wanted o (yielded l.toArray a.tmps)=true) (ho:o.op=.mapUpdate t m x y) (hs:(Instr.mapUpdate t (a.eval m) (a.eval x) (a.eval y)).run P w=.ok () w') (hS:S w')
 (h:Nx pl P l Q R S f (L.setIfInBounds i true) (a.put o.dst undef) w'):Nx (i::pl) P l Q R S (f+1) L a w:=by
 refine Zdw [i] (by rw[Bool.and_eq_true];exact⟨hr,rfl⟩) fun j g1 _ o2 g0=>?_
 rw[List.mem_singleton] at g1;subst g1;rw[hi] at g0;cases g0;refine⟨hg,?_⟩;unfold Oper.wp;simp only[execOp,ho,Sem.run_bind,hs,Result.andThen_ok];exact⟨hS,h⟩
section
variable {F:Phi}{mb:Nat}{o:Own}{m:ManD}{W W':World}
theorem Zd6.other {C:Nat->Prop}(h:Zd6 F o W mb m)(hl:Zah o W)(hx:Wr C W W')(hC:∀ k,k<W.heap.size->C k->o k=none):Zd6 F o W' mb m:=by
 obtain⟨s,hm⟩:=h;exact⟨s,hm.keep (fun g r hg=>hx.keep g (hl g r hg) (fun e=>by have:=hC g (hl g r hg) e;rw[hg] at this;cases this)) (fun _ _ h=>h)⟩
end
open Go.RowKit
theorem Zno (args:Array Value)(w:World):(callFunc 166 args).run prog w=.ok (.enter 166 args) w:=enters_of func166 (by kernel_rfl) rfl args w
structure SnC where
 bm:Nat
 bx:Nat
 bn:Nat
 bd:Nat
 mt:Nat
 nt:Nat
 xb:Nat
def SnC.caps (c:SnC):Array Value:=#[.pointer (some ⟨c.bm,0,none⟩),.pointer (some ⟨c.bx,0,none⟩),.pointer (some ⟨c.bn,0,none⟩),.pointer (some ⟨c.bd,0,none⟩)]
def SnC.two (c:SnC)(k:Nat):Prop:=k=c.mt\/k=c.nt
structure SnS (F:Phi)(c:SnC)(mb:Nat)(o:Own)(m:ManD)(V:Nat->BF)(met:List Nat)(cs:List (Nat×Nat))(W:World):Prop where
 is:Zd6 F o W mb m
 lt:Zah o W
 ok:Zak m.d V
 x:Zf3 o W c.xb mb
 bm:W.cell? ⟨c.bm,0,none⟩=some (.map (some c.mt))
 bx:W.cell? ⟨c.bx,0,none⟩=some (.pointer (some ⟨c.xb,0,none⟩))
 bn:W.cell? ⟨c.bn,0,none⟩=some (.map (some c.nt))
 bd:W.cell? ⟨c.bd,0,none⟩=some (.func (.func 166) #[] c.caps)
 map:Zbf W c.mt (Value.int .i64) (mtL met)
 cnt:Zbf W c.nt (Value.int .i64) (ctL cs)
 own:∀ q,(q=c.bm\/q=c.bx\/q=c.bn\/q=c.bd\/q=c.mt\/q=c.nt)->o q=none
 ne:c.mt≠c.bm/\c.mt≠c.bx/\c.mt≠c.bn/\c.mt≠c.bd/\c.mt≠c.xb/\c.mt≠c.nt
 ne2:c.nt≠c.bm/\c.nt≠c.bx/\c.nt≠c.bn/\c.nt≠c.bd/\c.nt≠c.xb
 mok:Zit m.d met
section
variable {F:Phi}{c:SnC}{mb:Nat}{o:Own}{m:ManD}{V:Nat->BF}{met met':List Nat}{cs cs':List (Nat×Nat)}{W W':World}
theorem SnS.go (h:SnS F c mb o m V met cs W)(hx:Wr c.two W W')(hm:Zbf W' c.mt (Value.int .i64) (mtL met'))(hn:Zbf W' c.nt (Value.int .i64) (ctL cs'))(hk:Zit m.d met'):SnS F c mb o m V met' cs' W':=by
 have hc:∀ {b k:Nat} {v:Value},W.cell? ⟨b,k,none⟩=some v->c.mt≠b->c.nt≠b->W'.cell? ⟨b,k,none⟩=some v:=fun h h1 h2=>(World.cell?_of_block (w:=W) (hx.keep _ (Zab h) (fun e=>e.elim (fun e=>h1 e.symm) (fun e=>h2 e.symm)))).trans h
 obtain⟨n1,n2,n3,n4,n5,n6⟩:=h.ne;obtain⟨k1,k2,k3,k4,k5⟩:=h.ne2;exact⟨h.is.other h.lt hx (fun k _ e=>h.own k (.inr (.inr (.inr (.inr e))))),h.lt.mono hx.size,h.ok,⟨hc h.x.cell n5 k5,h.x.own⟩,hc h.bm n1 k1,hc h.bx n2 k2,hc h.bn n3 k3,hc h.bd n4 k4,hm,hn,h.own,h.ne,h.ne2,hk⟩
theorem SnS.below (h:SnS F c mb o m V met cs W)(hb:Below W.heap.size W W'):SnS F c mb o m V met cs W':=h.go (Wr.of_below hb _) (h.map.below hb) (h.cnt.below hb) h.mok
def SnR (F:Phi)(c:SnC)(mb:Nat)(o:Own)(m:ManD)(V:Nat->BF)(met:List Nat)(W:World)(x:Ending)(w':World):Prop:=x=.returned (.tuple #[])/\Wr c.two W w'/\SnS F c mb o m V met (tally m.d met) w'
theorem Zk7 (h:SnS F c mb o m V met (tally m.d met) W){f:Nat}(hf:okE (Zaa m.d) f)(hst:f/2=0\/f/2∈met):Calls prog 166 (#[.int .i64 f]++c.caps) W (SnR F c mb o m V met W):=by
 obtain⟨bm,bx,bn,bd,mt,nt,xb⟩:=c;have g2:=Znj (K:=fun _ _=>F) (V:=V) h.is hf;have g0:Hid (∀ q,Calls prog 167 #[.int .i64 f] (W.drewN q) fun x w'=>x=.returned (.bool (decide (enode f=0)))/\W.drewN q=w'):=Hd fun q=>Zkk f _ g2
 have g1:Hid (∀ q,Calls prog 168 #[.int .i64 f] (W.drewN q) fun x w'=>x=.returned (.int .i64 (enode f:Nat))/\W.drewN q=w'):=Hd fun q=>Zb2 f _ g2
 have g3:∀ q,(Instr.lookup 195 (.map (some mt)) (.int .i64 (enode f:Nat)) false).run prog (W.drewN q)=.ok (.bool (decide (enode f∈met))) (W.drewN q):=fun q=>Zmq (h.below (Zag W q)).map (enode f)
 have cbm:=h.bm;have HF:Hid (∀ q,SnR F ⟨bm,bx,bn,bd,mt,nt,xb⟩ mb o m V met W (.returned (.tuple #[])) (W.drewN q)):=Hd fun q=>⟨rfl,Wr.of_below (Zag W q) _,h.below (Zag W q)⟩
 obtain⟨P,hP⟩:∃ P,P=SnR F ⟨bm,bx,bn,bd,mt,nt,xb⟩ mb o m V met W:=⟨_,rfl⟩;rw[<- hP] at HF ⊢;unfold SnC.caps;clear hP h
 show Calls _ _ #[_,_,_,_,_] _ _
 rcases hst with h0|h0
 ·rw[decide_eq_true (show enode f=0 from h0)] at g0
  go_enter func166,ntmps166
  go_wp2_with fail
  go_quiet ((first|(with_reducible exact Zbd (g0.out _))|(with_reducible exact Zbd (g1.out _))))
  go_wp2_with fail;refine bodyPost_ret (results_none rfl _ _ _) rfl ?_;exact HF.out _
 ·simp only[decide_eq_true (show enode f∈met from h0)] at g3
  by_cases h1:enode f=0
  ·rw[decide_eq_true h1] at g0
   go_enter func166,ntmps166
   go_wp2_with fail
   go_quiet ((first|(with_reducible exact Zbd (g0.out _))|(with_reducible exact Zbd (g1.out _))))
   go_wp2_with fail;refine bodyPost_ret (results_none rfl _ _ _) rfl ?_;exact HF.out _
  ·rw[decide_eq_false h1] at g0
   go_enter func166,ntmps166
   go_wp2_with fail
   go_quiet ((first|(with_reducible exact Zbd (g0.out _))|(with_reducible exact Zbd (g1.out _))))
   go_wp2_with fail;refine bodyPost_ret (results_none rfl _ _ _) rfl ?_;exact HF.out _
theorem Ydb {k:Nat}(IH:∀ met f W,SnS F c mb o m V met (tally m.d met) W->okE (Zaa m.d) f->m.d.vars.length<=lvE m.d.vars.length (levN m.d) (Zaa m.d) f+k->Calls prog 166 (#[.int .i64 (f:Nat)]++c.caps) W (SnR F c mb o m V (Zb6 m.d k met f) W))
 (h:SnS F c mb o m V met (tally m.d met) W) {f:Nat} {b:BN} (hb:Zaa m.d (f/2)=some b) (hnm:f/2∉met) (hlev:m.d.vars.length<=lvE m.d.vars.length (levN m.d) (Zaa m.d) f+(k+1)) :
 Calls prog 166 (#[.int .i64 f]++c.caps) W (SnR F c mb o m V (Zb6 m.d k (Zb6 m.d k (met++[f/2]) (cofs m.d f b.v).1) (cofs m.d f b.v).2) W):=by
 obtain⟨bm,bx,bn,bd,mt,nt,xb⟩:=c;have hf:okE (Zaa m.d) f:=.inr ⟨b,hb⟩;have g7:∀ e,okE (Zaa m.d) e->e<eMax:=fun e he=>Znj (K:=fun _ _=>F) (V:=V) h.is he
 have ga:=g7 f hf;have gD:=h.ok.dag.var _ _ hb;have hl:levN m.d b.v<=lvE m.d.vars.length (levN m.d) (Zaa m.d) f:=by unfold lvE;rw[hb];exact Nat.le_refl _
 have h7:lvE m.d.vars.length (levN m.d) (Zaa m.d) f=levN m.d b.v:=by unfold lvE;rw[hb]
 obtain⟨q1,q2,q3,q4,_⟩:=Zda h.ok hf gD hl;have h0:enode f≠0:=fun e=>by
  have:f/2=0:=e;rw[this,h.ok.dag.none0] at hb;cases hb
 have g6:=h.mok;have g3:=g6.snoc hb hnm;have gC:getC b.v (tally m.d met)<=2305843009213693952:=by
  have h1:=Ybn b.v (tally m.d met);rw[Zlj] at h1;have h2:=g6.len g7;omega
 obtain⟨lo,gc⟩:∃ z,z=(cofs m.d f b.v).1:=⟨_,rfl⟩;obtain⟨hi,gd⟩:∃ z,z=(cofs m.d f b.v).2:=⟨_,rfl⟩;rw[<- gc,<- gd];rw[<- gc] at q1 q3;rw[<- gd] at q2 q4;obtain⟨bv,g2⟩:∃ z,z=b.v:=⟨_,rfl⟩;have gw:Hid (∀ q,Calls prog 167 #[.int .i64 f] (W.drewN q) fun x w'=>x=.returned (.bool false)/\W.drewN q=w'):=Hd fun q=>by
  have:=Zkk f (W.drewN q) ga
  rwa [decide_eq_false h0] at this
 have gS:Hid (∀ W',Calls prog 168 #[.int .i64 f] W' fun x w'=>x=.returned (.int .i64 (enode f:Nat))/\W'=w'):=Hd fun W'=>Zb2 f W' ga
 have gR:Hid (∀ q,Calls prog 168 #[.int .i64 f] (W.drewN q) fun x w'=>x=.returned (.int .i64 (enode f:Nat))/\W.drewN q=w'):=Hd fun q=>Zb2 f _ ga
 have h6:∀ q,(Instr.lookup 195 (.map (some mt)) (.int .i64 (enode f:Nat)) false).run prog (W.drewN q)=.ok (.bool false) (W.drewN q):=fun q=>by
  have:=Zmq (h.below (Zag W q)).map (enode f)
  rwa [decide_eq_false (show ¬ enode f∈met from hnm)] at this
 have g5:mt≠nt:=h.ne.2.2.2.2.2;have gM:Hid (∀ W',SnS F ⟨bm,bx,bn,bd,mt,nt,xb⟩ mb o m V met (tally m.d met) W'->∃ w',(Instr.mapUpdate 195 (.map (some mt)) (.int .i64 (enode f:Nat)) (.bool true)).run prog W'=.ok () w'/\Wr (SnC.two ⟨bm,bx,bn,bd,mt,nt,xb⟩) W' w'/\SnS F ⟨bm,bx,bn,bd,mt,nt,xb⟩ mb o m V (met++[f/2]) (tally m.d met) w'):=Hd fun W' g=>by
  obtain⟨w',r1,r2,r3⟩:=Zum g.map (f:=enode f) hnm;have hw:Wr (· = mt) W' w':=Wr.of_grown r3 _ (fun k e=>by cases e;rfl);have g1:Wr (SnC.two ⟨bm,bx,bn,bd,mt,nt,xb⟩) W' w':=hw.mono (fun _ e=>.inl e);exact⟨w',r1,g1,g.go g1 r2 (g.cnt.keepB (hw.keep _ g.cnt.lt (fun e=>g5 e.symm))) g3⟩
 have gv:Hid (∀ W',SnS F ⟨bm,bx,bn,bd,mt,nt,xb⟩ mb o m V (met++[f/2]) (tally m.d met) W'->(Instr.lookup 153 (.map (some nt)) (.int .i64 (bv:Nat)) false).run prog W'=.ok (.int .i64 (getC b.v (tally m.d met):Nat)) W'):=Hd fun W' g=>by
  rw[g2];exact Zwb g.cnt b.v
 have gu:Hid (∀ W',SnS F ⟨bm,bx,bn,bd,mt,nt,xb⟩ mb o m V (met++[f/2]) (tally m.d met) W'->∃ w',(Instr.mapUpdate 153 (.map (some nt)) (.int .i64 (bv:Nat)) (.int .i64 ((getC b.v (tally m.d met):Nat)+1))).run prog W'=.ok () w'/\Wr (SnC.two ⟨bm,bx,bn,bd,mt,nt,xb⟩) W' w'/\SnS F ⟨bm,bx,bn,bd,mt,nt,xb⟩ mb o m V (met++[f/2]) (tally m.d (met++[f/2])) w'):=Hd fun W' g=>by
  rw[g2];obtain⟨w',r1,r2,r3⟩:=Zwc g.cnt b.v (c:=((getC b.v (tally m.d met):Nat):Int)+1) (by omega);have hw:Wr (· = nt) W' w':=Wr.of_grown r3 _ (fun k e=>by cases e;rfl);have g1:Wr (SnC.two ⟨bm,bx,bn,bd,mt,nt,xb⟩) W' w':=hw.mono (fun _ e=>.inr e);rw[<- Zr8 met hb] at r2;exact⟨w',r1,g1,g.go g1 (g.map.keepB (hw.keep _ g.map.lt (fun e=>g5 e))) r2 g3⟩
 have gn:Hid (∀ W' s,SnS F ⟨bm,bx,bn,bd,mt,nt,xb⟩ mb o m V (met++[f/2]) (tally m.d met) W'->W'.heap[s]?=some (.cells #[.int .i64 f] 101 (0,0))->Calls prog 169 #[.pointer (some ⟨xb,0,none⟩),.slice (some ⟨s,0,none⟩) 1 1] W' fun x w'=>x=.returned (.int .i64 (bv:Nat))/\Below W'.heap.size W' w'):=Hd fun W' s g hs=>by
  refine(Zma g.is g.lt g.x g.ok [f] (by simpa using hf) (some ⟨s,0,none⟩) 1 ⟨by simp,fun i h8=>?_⟩).mono ?_
  ·obtain rfl:i=0:=by simpa using h8
   exact⟨s,0,rfl,by rw[cell_of_row _ _ 0 _ _ _ hs];rfl⟩
  ·rintro x w' ⟨top,least,rfl,ht,h4⟩;rcases Yay ht with ⟨_,hn⟩|⟨b',gE,rfl⟩
   . rw[hb] at hn;cases hn
   . rw[hb] at gE;cases gE;exact⟨by rw[g2],h4⟩
 have gP:Hid (∀ W' cs,SnS F ⟨bm,bx,bn,bd,mt,nt,xb⟩ mb o m V (met++[f/2]) cs W'->Calls prog 170 #[.pointer (some ⟨xb,0,none⟩),.int .i64 f,.int .i64 (bv:Nat)] W' fun x w'=>x=.returned (.tuple #[.int .i64 lo,.int .i64 hi])/\Below W'.heap.size W' w'):=Hd fun W' cs g=>by
  have:=Zje g.is g.lt g.x g.ok f hf (b.v:Nat);rw[<- gc,<- gd,<- g2] at this;exact this
 have gU:Hid (∀ W',SnS F ⟨bm,bx,bn,bd,mt,nt,xb⟩ mb o m V (met++[f/2]) (tally m.d (met++[f/2])) W'->Calls prog 166 #[.int .i64 lo,.pointer (some ⟨bm,0,none⟩),.pointer (some ⟨bx,0,none⟩),.pointer (some ⟨bn,0,none⟩),.pointer (some ⟨bd,0,none⟩)] W' (SnR F ⟨bm,bx,bn,bd,mt,nt,xb⟩ mb o m V (Zb6 m.d k (met++[f/2]) lo) W')):=Hd fun W' g=>IH _ lo W' g q1 (by omega)
 have gT:Hid (∀ W',SnS F ⟨bm,bx,bn,bd,mt,nt,xb⟩ mb o m V (Zb6 m.d k (met++[f/2]) lo) (tally m.d (Zb6 m.d k (met++[f/2]) lo)) W'->Calls prog 166 #[.int .i64 hi,.pointer (some ⟨bm,0,none⟩),.pointer (some ⟨bx,0,none⟩),.pointer (some ⟨bn,0,none⟩),.pointer (some ⟨bd,0,none⟩)] W' (SnR F ⟨bm,bx,bn,bd,mt,nt,xb⟩ mb o m V (Zb6 m.d k (Zb6 m.d k (met++[f/2]) lo) hi) W')):=Hd fun W' g=>IH _ hi W' g q2 (by omega)
 have cbm:=h.bm;have HS:=Hd h;obtain⟨P,hP⟩:∃ P,P=SnR F ⟨bm,bx,bn,bd,mt,nt,xb⟩ mb o m V (Zb6 m.d k (Zb6 m.d k (met++[f/2]) lo) hi) W:=⟨_,rfl⟩;have HP:Hid (∀ x w',SnR F ⟨bm,bx,bn,bd,mt,nt,xb⟩ mb o m V (Zb6 m.d k (Zb6 m.d k (met++[f/2]) lo) hi) W x w'->P x w'):=Hd (by rw[hP];exact fun _ _ e=>e);have eg1:=Zno;obtain⟨g0,gj⟩:∃ g,g=getC b.v (tally m.d met):=⟨_,rfl⟩;rw[<- gj] at gC;have ha:IntKind.i64.wrap ((g0:Nat)+1)=(g0:Nat)+1:=IntWalk.i64_in _ ⟨by omega,by omega⟩;rw[<- gj] at gv gu;rw[<- hP];unfold SnC.caps;clear hP h IH hb hnm hlev hf ga g7 gD hl h7 q1 q2 q3 q4 h0 gc gd g2 g6 g3 gC gj g5
 show Calls _ _ #[_,_,_,_,_] _ _
 go_enter func166,ntmps166
 go_wp2_with fail
 go_quiet ((first|(with_reducible exact Zbd (gw.out _))|(with_reducible exact Zbd (gR.out _))))
 go_upto_region 1 with fail;obtain⟨w1,gh⟩:∃ w1,w1=(W.drewN nq).drew:=⟨_,rfl⟩;have gm:Below W.heap.size W w1:=by rw[gh];exact Zag W (nq+1)
 have gt:=Hd (HS.out.below gm);have HW1:=Hd (Wr.of_below gm (SnC.two ⟨bm,bx,bn,bd,mt,nt,xb⟩));have gF:=Hd gh;have cbm1:=gt.out.bm;clear gh gm;refine Zj2 [0,1,2,3] (fun W'=>W'.cell? ⟨bm,0,none⟩=some (.map (some mt))) (fun ch w'=>False) (fun c a w hd h=>h.elim) (by kernel_rfl) (by rw[<- gF.out];exact cbm1) ?_;rw[<- gF.out]
 iterate 2
  refine Ziy rfl rfl (by kernel_rfl) ?_;apply Exists.intro;refine⟨fun w' hw=>?_,?_⟩
  . have q1:w'.cell? ⟨bm,0,none⟩=some (.map (some mt)):=hw;go_simp;rfl
  simp only[Zai]
 refine Zn0 (R1:=fun u w'=>u=.int .i64 (enode f:Nat)/\w1=w') rfl (by kernel_rfl) rfl rfl (by go_simp) ((gS.out w1).mono fun x w' h=>⟨_,h.1,rfl,h.2⟩) (by rintro u w' ⟨_,rfl⟩;exact cbm1) ?_;rintro u w'-⟨rfl,rfl⟩;simp only[Zai];obtain⟨w2,gZ,g1,gB⟩:=gM.out w1 gt.out;have gg:=Hd gB;have gL:=Hd (HW1.out.trans g1 (fun _ _ e=>e) (fun _ _ e=>e));refine Zxv (w':=w2) rfl (by kernel_rfl) rfl rfl (by go_simp) gg.out.bm ?_;simp only[Zai];refine Zsw (by kernel_rfl) ?_;clear gZ g1 gB cbm1 cbm;have cbx:=gg.out.bx;have ge:=Zae w2 (.cells #[.int .i64 f] 101);obtain⟨w4,g4⟩:∃ w4,w4=w2.alloc (.cells #[.int .i64 f] 101):=⟨_,rfl⟩;rw[<- g4] at ge;have h5:=Hd g4;have gi:w4.heap[w2.heap.size]?=some (.cells #[.int .i64 f] 101 (0,0)):=by rw[g4];exact heap_alloc_new _ _
 have gr:=Hd (gg.out.below ge);have gK:=Hd (gL.out.trans (Wr.of_below ge _) (fun _ _ e=>e) (fun _ _ e=>e));have gO:=Hd (gn.out w4 _ gr.out gi);have gN:Hid (Calls prog 169 #[.pointer (some ⟨xb,0,none⟩),.slice (some ⟨w2.heap.size,0,none⟩) 1 1] (w2.alloc (.cells #[.int .i64 f] 101)) fun x w'=>x=.returned (.int .i64 (bv:Nat))/\Below w4.heap.size w4 w'):=Hd (by have:=gO.out;rw[g4] at this ⊢;exact this);clear ge g4 gi gO;go_wp2_with fail;refine gN.out.mono ?_;rintro x w5 ⟨rfl,gl⟩;have gf:=Hd (gr.out.below gl);have gJ:=Hd (gK.out.trans (Wr.of_below gl _) (fun _ _ e=>e) (fun _ _ e=>e));have cbn5:=gf.out.bn;have h3:=gv.out w5 gf.out;obtain⟨w6,gY,gz,g9⟩:=gu.out w5 gf.out;have gQ:=Hd g9;have gI:=Hd (gJ.out.trans gz (fun _ _ e=>e) (fun _ _ e=>e));have cbx6:=g9.bx;have gp:=Hd (gP.out w6 _ g9);clear gl gz g9 gN cbx gr gK gg gL gt HW1 h5 h6;go_wp2_with fail;refine gp.out.mono ?_;rintro x w7 ⟨rfl,gk⟩;have gq:=Hd (gQ.out.below gk);have gH:=Hd (gI.out.trans (Wr.of_below gk _) (fun _ _ e=>e) (fun _ _ e=>e));have cbd:=gq.out.bd;unfold SnC.caps at cbd;have gX:=Hd (gU.out w7 gq.out);clear gk gf gJ gU gn gP gM gS gR gw gv gu gQ gI h3 gY cbx6 cbn5 gp;go_wp2_with fail;refine gX.out.mono ?_;rintro x w8 ⟨rfl,gy,g8⟩;have h9:=Hd g8;have gG:=Hd (gH.out.trans gy (fun _ _ e=>e) (fun _ _ e=>e));have gV:=Hd (gT.out w8 g8);have cbd8:=g8.bd;unfold SnC.caps at cbd8;clear gy g8 cbd gX gT gq gH;go_wp2_with fail;refine gV.out.mono ?_;rintro x w9 ⟨rfl,gx,gA⟩;have HF:=Hd (HP.out (.returned (.tuple #[])) w9 ⟨rfl,gG.out.trans gx (fun _ _ e=>e) (fun _ _ e=>e),gA⟩);clear gx gA cbd8 gV h9 gG HP;go_wp2_with fail;refine bodyPost_end (results_none rfl _ _ _) rfl ?_;exact HF.out
theorem Zta:∀ (k:Nat) (met:List Nat) (f:Nat) (W:World),SnS F c mb o m V met (tally m.d met) W->okE (Zaa m.d) f->m.d.vars.length<=lvE m.d.vars.length (levN m.d) (Zaa m.d) f+k->Calls prog 166 (#[.int .i64 (f:Nat)]++c.caps) W (SnR F c mb o m V (Zb6 m.d k met f) W)
 | 0,met,f,W,h,hf,hl=>by
   refine Zk7 h hf (.inl ?_);rcases hf with h1|⟨b,hb⟩
   . exact h1
   . exfalso;have h1:=h.ok.dag.lt b.v (h.ok.dag.var _ _ hb);unfold lvE at hl;rw[hb] at hl;simp at hl;omega
 | k+1,met,f,W,h,hf,hl=>by
   unfold Zb6;cases hb:Zaa m.d (f/2) with
   | none =>
     refine Zk7 h hf (.inl ?_);rcases hf with h1|⟨b,hb'⟩
     . exact h1
     . rw[hb] at hb';cases hb'
   | some b =>
     show Calls _ _ _ _ (SnR F c mb o m V (if f/2∈met then met else _) W)
     by_cases hm:f/2∈met
     . rw[if_pos hm];exact Zk7 h hf (.inr hm)
     . rw[if_neg hm];exact Ydb (fun met f W=>Zta k met f W) h hb hm hl
end
open Go.RowKit
def Indep (F:BF)(v:Nat):Prop:=∀ ρ b,F (upd ρ v b)=F ρ
theorem Zpj {F:BF}{v:Nat}(h:Indep F v)(u:Nat)(c:Bool):Indep (cofF F u c) v:=fun ρ b=>by
 show F (upd (upd ρ v b) u c)=F (upd ρ u c)
 by_cases e:v=u
 . subst e;exact congrArg F (funext fun x=>by unfold upd;split<;>rfl)
 ·rw[show upd (upd ρ v b) u c=upd (upd ρ u c) v b from funext fun x=>by
   unfold upd
   by_cases h1:x=u<;>by_cases h2:x=v<;>simp_all]
  exact h _ b
theorem Znt {F:BF}{u v:Nat}(hne:v≠u)(h0:Indep (cofF F u false) v)(h1:Indep (cofF F u true) v):Indep F v:=fun ρ b=>by
 have key:∀ σ:Nat->Bool,F σ=cofF F u (σ u) σ:=fun σ=>congrArg F (funext fun x=>by
  by_cases e:x=u
  . subst e;simp
  . simp[e])
 rw[key (upd ρ v b),key ρ,show upd ρ v b u=ρ u by unfold upd;rw[if_neg (fun e=>hne e.symm)]];cases ρ u
 . exact h0 ρ b
 . exact h1 ρ b
theorem Zmk {F:BF}{v:Nat}(h:Indep F v):Indep (notF F) v:=fun ρ b=>by
 show (!F (upd ρ v b)) = !F ρ
 rw[h]
theorem Zkq {F:BF}{v:Nat}:Indep F v↔cofF F v false=cofF F v true:=by
 constructor
 ·intro h;funext ρ
  exact(h ρ false).trans (h ρ true).symm
 ·intro h ρ b
  have key:∀ σ:Nat->Bool,F σ=cofF F v (σ v) σ:=fun σ=>congrArg F (funext fun x=>by
   by_cases e:x=v
   . subst e;simp
   . simp[e])
  have e2:cofF F v b ρ=cofF F v (ρ v) ρ:=by
   cases b<;>cases ρ v<;>first|rfl|rw[h]
  exact e2.trans (key ρ).symm
section
variable {d:Zad}{V:Nat->BF}
theorem Zso {f v:Nat}:Indep (ef V f) v↔Indep (V (f/2)) v:=by
 rcases Ycj (V:=V) f with e|e
 . rw[e]
 . rw[e];exact⟨fun h=>by have:=Zmk h;rwa [Zp0] at this,Zmk⟩
def InM (d:Zad)(met:List Nat)(f:Nat):Prop:=Zaa d (f/2)=none\/f/2∈met
def ClM (d:Zad)(met met':List Nat):Prop:=∀ i∈met',i∉met->∀ b,Zaa d i=some b->InM d met' b.lo/\InM d met' b.hi
theorem Zo1 {f:Nat}{b:BN}(hb:Zaa d (f/2)=some b):(cofs d f b.v).1/2=b.lo/2/\(cofs d f b.v).2/2=b.hi/2:=by
 unfold cofs;simp only[hb,if_true];constructor<;>(unfold eflip;split<;>first|exact Zek _|rfl)
theorem Zff:∀ (k:Nat) (met:List Nat) (f:Nat),∀ i∈met,i∈Zb6 d k met f
 | 0,met,f,i,hi=>hi
 | k+1,met,f,i,hi=>by
   unfold Zb6;cases hb:Zaa d (f/2) with
   | none=>exact hi
   | some b =>
     show i∈(if f/2∈met then met else _)
     by_cases c:f/2∈met
     . rw[if_pos c];exact hi
     . rw[if_neg c];exact Zff k _ _ _ (Zff k _ _ _ (List.mem_append_left _ hi))
theorem InM.mono {met met':List Nat}{f:Nat}(h:InM d met f)(hs:∀ i∈met,i∈met'):InM d met' f:=h.imp id (hs _)
theorem Zgq (h:Zak d V):∀ (k:Nat) (met:List Nat) (f:Nat),okE (Zaa d) f->d.vars.length<=lvE d.vars.length (levN d) (Zaa d) f+k->InM d (Zb6 d k met f) f/\ClM d met (Zb6 d k met f)
 | 0,met,f,hf,hl=>by
   refine⟨.inl ?_,fun i hi hn=>absurd hi hn⟩;cases hb:Zaa d (f/2) with
   | none=>rfl
   | some b =>
     exfalso;have h1:=h.dag.lt b.v (h.dag.var _ _ hb);unfold lvE at hl;rw[hb] at hl;simp at hl;omega
 | k+1,met,f,hf,hl=>by
   unfold Zb6;cases hb:Zaa d (f/2) with
   | none=>exact⟨.inl hb,fun i hi hn=>absurd hi hn⟩
   | some b =>
     show InM d (if f/2∈met then met else _) f/\ClM d met (if f/2∈met then met else _)
     by_cases c:f/2∈met
     . rw[if_pos c];exact⟨.inr c,fun i hi hn=>absurd hi hn⟩
     ·rw[if_neg c];have hbv:=h.dag.var _ _ hb;have hlv:levN d b.v<=lvE d.vars.length (levN d) (Zaa d) f:=by unfold lvE;rw[hb];exact Nat.le_refl _
      have g2:lvE d.vars.length (levN d) (Zaa d) f=levN d b.v:=by unfold lvE;rw[hb]
      obtain⟨q1,q2,q3,q4,_⟩:=Zda h hf hbv hlv;obtain⟨e1,e2⟩:=Zo1 hb;obtain⟨a1,a2⟩:=Zgq h k (met++[f/2]) _ q1 (by omega);obtain⟨b1,b2⟩:=Zgq h k (Zb6 d k (met++[f/2]) (cofs d f b.v).1) _ q2 (by omega);have hs1:=Zff (d:=d) k (Zb6 d k (met++[f/2]) (cofs d f b.v).1) (cofs d f b.v).2;have g1:=Zff (d:=d) k (met++[f/2]) (cofs d f b.v).1;refine⟨.inr (hs1 _ (g1 _ (by simp))),fun i hi hn b' g0=>?_⟩
      by_cases m2:i∈Zb6 d k (met++[f/2]) (cofs d f b.v).1
      ·by_cases m1:i∈met++[f/2]
       ·have:i=f/2:=by
         rcases List.mem_append.1 m1 with m|m
         . exact absurd m hn
         . simpa using m
        subst this;rw[hb] at g0;cases g0
        have w1:=a1.mono hs1;unfold InM at w1 b1;rw[e1] at w1;rw[e2] at b1;exact⟨w1,b1⟩
       . obtain⟨w1,w2⟩:=a2 i m2 m1 b' g0;exact⟨w1.mono hs1,w2.mono hs1⟩
      . exact b2 i hi m2 b' g0
theorem Zi7 (h:Zak d V):∀ (k:Nat) (met:List Nat) (f:Nat),okE (Zaa d) f->∀ i∈Zb6 d k met f,i∈met\/∀ v,Indep (ef V f) v->Indep (V i) v
 | 0,met,f,hf,i,hi=>.inl hi
 | k+1,met,f,hf,i,hi=>by
   unfold Zb6 at hi;cases hb:Zaa d (f/2) with
   | none=>rw[hb] at hi;exact .inl hi
   | some b =>
     rw[hb] at hi
     replace hi:i∈(if f/2∈met then met else Zb6 d k (Zb6 d k (met++[f/2]) (cofs d f b.v).1) (cofs d f b.v).2):=hi
     by_cases c:f/2∈met
     . rw[if_pos c] at hi;exact .inl hi
     ·rw[if_neg c] at hi;have hbv:=h.dag.var _ _ hb;have hlv:levN d b.v<=lvE d.vars.length (levN d) (Zaa d) f:=by unfold lvE;rw[hb];exact Nat.le_refl _
      obtain⟨q1,q2,_⟩:=Zda h hf hbv hlv;obtain⟨e1,e2⟩:=Znh h hf hbv hlv;rcases Zi7 h k _ _ q2 i hi with m|m
      ·rcases Zi7 h k _ _ q1 i m with m|m
       ·rcases List.mem_append.1 m with m|m
        . exact .inl m
        ·simp at m;subst m
         exact .inr fun v hv=>Zso.1 hv
       . exact .inr fun v hv=>m v (by rw[e1];exact Zpj hv _ _)
      . exact .inr fun v hv=>m v (by rw[e2];exact Zpj hv _ _)
theorem Zpi (h:Zak d V){met:List Nat}(hcl:ClM d [] met){v:Nat}(hv:∀ i∈met,∀ b,Zaa d i=some b->b.v≠v):∀ (k:Nat) (f:Nat),okE (Zaa d) f->d.vars.length<=lvE d.vars.length (levN d) (Zaa d) f+k->InM d met f->Indep (ef V f) v:=by
 have hc:∀ f,okE (Zaa d) f->Zaa d (f/2)=none->Indep (ef V f) v:=fun f hf hn=>by
  obtain⟨c,e⟩:=(Zkl h h.dag.none0 hf).2 hn;rw[e];exact fun _ _=>rfl
 intro k
 induction k with
 | zero =>
   intro f hf hl hi;cases hb:Zaa d (f/2) with
   | none=>exact hc f hf hb
   | some b =>
     exfalso;have h1:=h.dag.lt b.v (h.dag.var _ _ hb);unfold lvE at hl;rw[hb] at hl;simp at hl;omega
 | succ k ih =>
   intro f hf hl hi;cases hb:Zaa d (f/2) with
   | none=>exact hc f hf hb
   | some b =>
     have hm:f/2∈met:=by
      rcases hi with e|e
      . rw[hb] at e;cases e
      . exact e
     have g1:=h.dag.var _ _ hb;have g0:levN d b.v<=lvE d.vars.length (levN d) (Zaa d) f:=by unfold lvE;rw[hb];exact Nat.le_refl _
     have g2:lvE d.vars.length (levN d) (Zaa d) f=levN d b.v:=by unfold lvE;rw[hb]
     obtain⟨q1,q2,q3,q4,_⟩:=Zda h hf g1 g0;obtain⟨e1,e2⟩:=Znh h hf g1 g0;obtain⟨k1,k2⟩:=Zo1 hb;obtain⟨w1,w2⟩:=hcl _ hm (by simp) b hb;have i1:=ih _ q1 (by omega) (by unfold InM;rw[k1];exact w1);have i2:=ih _ q2 (by omega) (by unfold InM;rw[k2];exact w2);rw[e1] at i1;rw[e2] at i2;exact Znt (fun e=>hv _ hm b hb e.symm) i1 i2
theorem Zv7 {a b c:List Nat}(h1:ClM d a b)(h2:ClM d b c)(hs:∀ i∈b,i∈c):ClM d a c:=fun i hi hn b' hb'=>by
 by_cases m:i∈b
 . obtain⟨w1,w2⟩:=h1 i m hn b' hb';exact⟨w1.mono hs,w2.mono hs⟩
 . exact h2 i hi m b' hb'
theorem Zql (h:Zak d V):∀ (l met:List Nat),(∀ f∈l,okE (Zaa d) f)->ClM d [] met->ClM d [] (l.foldl (fun met f=>Zb6 d d.vars.length met f) met)/\(∀ i∈met,i∈l.foldl (fun met f=>Zb6 d d.vars.length met f) met)/\(∀ f∈l,InM d (l.foldl (fun met f=>Zb6 d d.vars.length met f) met) f)/\∀ i∈l.foldl (fun met f=>Zb6 d d.vars.length met f) met,i∈met\/∃ f∈l,∀ v,Indep (ef V f) v->Indep (V i) v
 | [],met,_,hc=>⟨hc,fun i hi=>hi,fun f hf=>by simp at hf,fun i hi=>.inl hi⟩
 | f::r,met,hl,hc=>by
   have hf:=hl f (List.mem_cons_self ..);obtain⟨c1,c2⟩:=Zgq h d.vars.length met f hf (by omega);obtain⟨r1,r2,r3,r4⟩:=Zql h r (Zb6 d d.vars.length met f) (fun g hg=>hl g (List.mem_cons_of_mem _ hg)) (Zv7 hc c2 (Zff _ _ _));refine⟨r1,fun i hi=>r2 i (Zff _ _ _ i hi),fun g hg=>?_,fun i hi=>?_⟩
   ·rcases List.mem_cons.1 hg with rfl|hg
    . exact c1.mono r2
    . exact r3 g hg
   ·rcases r4 i hi with m|⟨g,hg,m⟩
    ·rcases Zi7 h _ _ f hf i m with m|m
     . exact .inl m
     . exact .inr ⟨f,List.mem_cons_self ..,m⟩
    . exact .inr ⟨g,List.mem_cons_of_mem _ hg,m⟩
structure Yb4 (n:Nat)(os:List Nat)(Fs:List BF)(cs:List (Nat×Nat)):Prop where
 sum:sumC cs=(nodesF n os Fs).length
 le:sumC cs<=2305843009213693952
 dep:∀ v,0<getC v cs↔∃ F∈Fs,Zdl n F v=true
theorem Yao (h:Zak d V)(l:List Nat)(hl:∀ f∈l,okE (Zaa d) f)(hlt:∀ e,okE (Zaa d) e->e<eMax):Yb4 d.vars.length d.vars (l.map (ef V)) (tally d (Zly d l)):=by
 refine⟨?_,?_,fun v=>?_⟩
 . rw[Zlj,Zyj h l hl]
 . rw[Zlj];exact(Zs9 h l).len hlt
 ·obtain⟨r1,r2,r3,r4⟩:=Zql h l [] hl (fun i hi=>by simp at hi);rw[Zyy,List.countP_pos_iff];constructor
  ·rintro⟨i,hi,hv⟩;rcases r4 i hi with m|⟨f,hf,m⟩
   . simp at m
   ·refine⟨ef V f,List.mem_map.2 ⟨f,hf,rfl⟩,(Zge (h.dep (hl f hf)) v).2 fun e=>?_⟩;have h1:=m v (Zkq.2 e);obtain⟨b,hb⟩:=(Zs9 h l).node i hi;have g4:b.v=v:=by
     have:vrD d i=v:=by simpa using hv
     unfold vrD at this;rw[hb] at this;exact this
    have g0:Zaa d (2*i/2)=some b:=by rw[show 2*i/2=i by omega];exact hb
    have h2:=(Zso (V:=V) (f:=2*i) (v:=v)).2 (by rw[show 2*i/2=i by omega];exact h1);have ht:=(Ztj h g0).1;have g1:=h.dep (f:=2*i) (.inr ⟨b,g0⟩)
    by_cases hx:∃ u∈d.vars,Zdl d.vars.length (ef V (2*i)) u=true
    . obtain⟨q,_,g2,g3,_⟩:=Zvb hx;rw[ht] at g2;rw[<- Int.ofNat.inj g2,g4,Zge g1] at g3;exact g3 (Zkq.1 h2)
    ·have:=Zqx (n:=d.vars.length) (F:=ef V (2*i)) (l:=d.vars) (fun u hu=>by
      cases e:Zdl d.vars.length (ef V (2*i)) u with
      | false=>rfl
      | true=>exact absurd ⟨u,hu,e⟩ hx)
     rw[ht] at this;omega
  ·rintro⟨F,hF,hh⟩;obtain⟨f,hf,rfl⟩:=List.mem_map.1 hF;refine Classical.byContradiction fun g5=>?_
   refine(Zge (h.dep (hl f hf)) v).1 hh (Zkq.1 (Zpi h r1 (v:=v) (fun i hi b hb e=>g5 ⟨i,hi,by unfold vrD;rw[hb];simp[e]⟩) d.vars.length f (hl f hf) (by omega) (r3 f hf)))
end
open Go.RowKit
theorem Zo9 (args:Array Value)(w:World):(callFunc 165 args).run prog w=.ok (.enter 165 args) w:=enters_of func165 (by kernel_rfl) rfl args w
structure BoN (wB:World)(bn bl:Nat)(a:Option Addr)(c:Nat)(ks:List Int)(W:World):Prop where
 n:∃ v,W.heap[bn]?=some (.cells #[v] 153 (0,0))
 l:W.cell? ⟨bl,0,none⟩=some (.slice a ks.length c)
 z:Zav W a ks
 s:∀ x,a=some x->W.heap[x.block]?=wB.heap[x.block]?
def CsN (bn bl:Nat)(a:Option Addr)(k:Nat):Prop:=k=bn\/k=bl\/∃ x,a=some x/\k=x.block
theorem BoN.keep {wB:World}{bn bl c:Nat}{a:Option Addr}{ks:List Int}{W W':World}(h:BoN wB bn bl a c ks W)(hk:∀ k,CsN bn bl a k->W'.heap[k]?=W.heap[k]?):BoN wB bn bl a c ks W' :=
 ⟨by rw[hk _ (.inl rfl)];exact h.n,(World.cell?_of_block (w:=W) (a:=⟨bl,0,none⟩) (hk _ (.inr (.inl rfl)))).trans h.l,⟨h.z.len,fun i hi=>by
  obtain⟨b,off,e,hc⟩:=h.z.cells i hi;exact⟨b,off,e,(World.cell?_of_block (w:=W) (a:=⟨b,off+i,none⟩) (hk _ (.inr (.inr ⟨_,e,rfl⟩)))).trans hc⟩⟩,fun x hx=>(hk _ (.inr (.inr ⟨x,hx,rfl⟩))).trans (h.s x hx)⟩
section
variable {K:Law}{n:Nat}{Od:List Nat->Prop}{room:Nat}{w0 w:World}{mb xb:Nat}{fs:List (Int×BF)}{nx:Int}{o:Own}{m:ManD}{V:Nat->BF}
theorem SatE.edges (h:SatE K n Od room w0 mb fs nx w o m V){ks:List Int}{Fs:List BF}(hlen:Fs.length=ks.length)(hm:∀ i (h:i<ks.length),(ks[i],Fs[i]'(by omega))∈fs) :
 ∃ es:List Nat,es.length=ks.length/\es.map (ef V)=Fs/\(∀ f∈es,okE (Zaa m.d) f)/\∀ i (h:i<ks.length) (h2:i<es.length),(ks[i],es[i])∈m.hs:=by
 have:∀ i,∃ f,∀ hi:i<ks.length,(ks[i],f)∈m.hs/\ef V f=Fs[i]'(by omega):=fun i=>by
  by_cases hi:i<ks.length
  . obtain⟨f,h1,h2⟩:=h.find (hm i hi);exact⟨f,fun _=>⟨h1,h2⟩⟩
  . exact⟨0,fun e=>absurd e hi⟩
 have hs:=fun i=>Classical.choose_spec (this i)
 refine⟨(List.range ks.length).map fun i=>Classical.choose (this i),by simp,?_,?_,?_⟩
 ·refine List.ext_getElem (by simp[hlen]) fun i h1 h2=>?_
  have hi:i<ks.length:=by simpa using h1
  simpa using(hs i hi).2
 . intro f hf;obtain⟨i,hi,rfl⟩:=List.mem_map.1 hf;exact h.ok.handles.ok _ (hs i (List.mem_range.1 hi)).1
 . intro i hi h2;simpa using(hs i hi).1
def Zvl (n:Nat)(ws0:List Ev)(os:List Nat)(bn:Nat)(Fs:List BF)(s:Nat)(W:World)(m:ManD)(_:Nat->BF):Prop :=
 m.waits=ws0/\m.d.vars=os/\∃ nt cs,s<=nt/\W.cell? ⟨bn,0,none⟩=some (.map (some nt))/\Zbf W nt (Value.int .i64) (ctL cs)/\Yb4 n os Fs cs
theorem Zyi {wB:World}{bn bl c:Nat}{a:Option Addr}{ks:List Int}{Fs:List BF}(hnl:bn≠bl)(hna:∀ x,a=some x->bn≠x.block)(hlen:Fs.length=ks.length)(hm:∀ i (h:i<ks.length),(ks[i],Fs[i]'(by omega))∈fs)(ws0:List Ev)(os:List Nat)(E:Int->ManD->ManD->Prop) :
 OpLN K n Od room w0 mb fs nx (CsN bn bl a) (BoN wB bn bl a c ks) (fun m=>m.waits=ws0/\m.d.vars=os) 165 #[.pointer (some ⟨bn,0,none⟩),.pointer (some ⟨bl,0,none⟩)] (fun s _=>Zvl n ws0 os bn Fs s) E:=by
 intro o W m V xb g0 hB hC hr gn hnx;obtain⟨gQ,gt⟩:=hr;obtain⟨es,h7,h9,gj,h8⟩:=g0.edges hlen hm;have hk:=g0.ok.store;have gv:∀ k,CsN bn bl a k->o k=none:=fun k e=>(hC k e).2
 obtain⟨v0,gR⟩:=hB.n;have hA:∀ (fn:Fn) (first cap:Array Value) (w:World),(Instr.makeFunc fn first cap).run prog w=.ok (.func fn first cap) w:=fun _ _ _ _=>rfl
 have gB:bn<W.heap.size:=(hC bn (.inl rfl)).1;have gk:bl<W.heap.size:=(hC bl (.inr (.inl rfl))).1;obtain⟨w1,gd⟩:∃ w1,w1=W.alloc (.cells #[.pointer (some ⟨xb,0,none⟩)] 180):=⟨_,rfl⟩;have gN:w1.heap.size=W.heap.size+1:=by rw[gd];simp
 have g10:w1.heap[W.heap.size]?=some (.cells #[.pointer (some ⟨xb,0,none⟩)] 180 (0,0)):=by rw[gd];exact heap_alloc_new _ _
 have gZ:Wr (· = bn) W w1:=by rw[gd];exact Wr.of_below (Zae _ _) _
 obtain⟨nt,gu⟩:∃ nt,nt=w1.heap.size:=⟨_,rfl⟩;obtain⟨w2,g7⟩:∃ w2,w2=w1.alloc (.map #[] 0):=⟨_,rfl⟩;have hn:∀ t,(Instr.makeMap t none).run prog w1=.ok (.map (some nt)) w2:=fun t=>by rw[gu,g7];exact Zem w1 t
 have gM:w2.heap.size=W.heap.size+2:=by rw[g7];simp[gN]
 have h5:Zbf w2 nt (Value.int .i64) (ctL []):=by rw[g7,gu];exact Zia w1 _
 have gY:Wr (· = bn) W w2:=by rw[g7];exact gZ.alloc _
 have gf:w2.heap[bn]?=some (.cells #[v0] 153 (0,0)):=by
  rw[g7,Go.heap_alloc_old _ _ (by omega),gd,Go.heap_alloc_old _ _ gB];exact gR
 obtain⟨w3,g5⟩:∃ w3,w3=w2.setCell ⟨bn,0,none⟩ (.map (some nt)):=⟨_,rfl⟩;have ht:(store ⟨bn,0,none⟩ (.map (some nt))).run prog w2=.ok () w3:=by
  rw[run_store _ _ _ _ _ rfl];simp[cell1 gf,World.frozen?,gf,g5]
 have gL:w3.heap.size=W.heap.size+2:=by rw[g5];simp[World.setCell,gM]
 have gx:∀ q,q≠bn->w3.heap[q]?=w2.heap[q]?:=fun q hq=>by rw[g5];exact Zaf hq _
 have g3:w3.heap[bn]?=some (.cells #[.map (some nt)] 153 (0,0)):=by rw[g5];exact Zac gf _
 have gX:Wr (· = bn) W w3:=by rw[g5];exact gY.setCell (.inl rfl) _
 have h4:Zbf w3 nt (Value.int .i64) (ctL []):=h5.keepB (gx nt (by omega));obtain⟨mt,gw⟩:∃ mt,mt=w3.heap.size:=⟨_,rfl⟩;obtain⟨w4,g4⟩:∃ w4,w4=w3.alloc (.map #[] 0):=⟨_,rfl⟩;have hg:∀ t,(Instr.makeMap t none).run prog w3=.ok (.map (some mt)) w4:=fun t=>by rw[gw,g4];exact Zem w3 t
 have gK:w4.heap.size=W.heap.size+3:=by rw[g4];simp[gL]
 have h3:Zbf w4 mt (Value.int .i64) (mtL []):=by rw[g4,gw];exact Zia w3 _
 have gD:Below w3.heap.size w3 w4:=by rw[g4];exact Zae _ _
 obtain⟨w6,gc⟩:∃ w6,w6=w4.alloc (.cells #[.map (some mt)] 195):=⟨_,rfl⟩;have gl:Below w4.heap.size w4 w6:=by rw[gc];exact Zae _ _
 have gJ:w6.heap.size=W.heap.size+4:=by rw[gc];simp[gK]
 have g6:w6.heap[w4.heap.size]?=some (.cells #[.map (some mt)] 195 (0,0)):=by rw[gc];exact heap_alloc_new _ _
 obtain⟨FV,gp⟩:∃ FV:Value,FV=.func (.func 166) #[] #[.pointer (some ⟨w4.heap.size,0,none⟩),.pointer (some ⟨W.heap.size,0,none⟩),.pointer (some ⟨bn,0,none⟩),.pointer (some ⟨w6.heap.size,0,none⟩)]:=⟨_,rfl⟩;obtain⟨w7,ga⟩:∃ w7,w7=w6.alloc (.cells #[.nilFunc] 196):=⟨_,rfl⟩;have gC:Below w6.heap.size w6 w7:=by rw[ga];exact Zae _ _
 have gI:w7.heap.size=W.heap.size+5:=by rw[ga];simp[gJ]
 have go:w7.heap[w6.heap.size]?=some (.cells #[.nilFunc] 196 (0,0)):=by rw[ga];exact heap_alloc_new _ _
 obtain⟨w8,g9⟩:∃ w8,w8=w7.setCell ⟨w6.heap.size,0,none⟩ FV:=⟨_,rfl⟩;have gS:(store ⟨w6.heap.size,0,none⟩ FV).run prog w7=.ok () w8:=by
  rw[run_store _ _ _ _ _ (by rw[gp];rfl)];simp[cell1 go,World.frozen?,go,g9]
 have hp:w8.heap.size=W.heap.size+5:=by rw[g9];simp[World.setCell,gI]
 have gh:Below w6.heap.size w6 w8:=by rw[g9];exact gC.setCell (Nat.le_refl _) _
 have g8:w8.heap[w6.heap.size]?=some (.cells #[FV] 196 (0,0)):=by rw[g9];exact Zac go _
 have gV:Wr (· = bn) W w4:=by rw[g4];exact gX.alloc _
 have gU:Wr (· = bn) W w6:=by rw[gc];exact gV.alloc _
 have gT:Wr (· = bn) W w7:=by rw[ga];exact gU.alloc _
 have ge:Wr (· = bn) W w8:=by rw[g9];exact gT.setCell (.inr (by show W.heap.size<=w6.heap.size;omega)) _
 have gg:∀ q,q<w3.heap.size->w8.heap[q]?=w3.heap[q]?:=fun q hq=>by
  rw[gh.block q (by omega),gl.block q (by omega),gD.block q hq]
 have e4:w8.heap[w4.heap.size]?=some (.cells #[.map (some mt)] 195 (0,0)):=by
  rw[gh.block _ (by omega)];exact g6
 have em:Zbf w8 mt (Value.int .i64) (mtL []):=h3.keepB (by rw[gh.block _ (by omega),gl.block _ (by omega)]);have en:Zbf w8 nt (Value.int .i64) (ctL []):=h4.keepB (gg nt (by omega));have ex:w8.heap[W.heap.size]?=some (.cells #[.pointer (some ⟨xb,0,none⟩)] 180 (0,0)):=by
  rw[gg _ (by omega),gx _ (by omega),g7,Go.heap_alloc_old _ _ (by omega)];exact g10
 have eb:w8.heap[bn]?=some (.cells #[.map (some nt)] 153 (0,0)):=by rw[gg _ (by omega)];exact g3
 have gP:xb<W.heap.size:=Zab gn.cell;have gq:xb≠bn:=fun e=>hnx (.inl e)
 have oS:∀ q,W.heap.size<=q->o q=none:=fun q hq=>g0.lt.none hq
 have hs:SnS (K m.d V) ⟨w4.heap.size,W.heap.size,bn,w6.heap.size,mt,nt,xb⟩ mb o m V [] (tally m.d []) w8:=by
  refine⟨g0.is.other g0.lt ge (fun k _ e=>by subst e;exact gv _ (.inl rfl)),g0.lt.mono ge.size,hk,⟨(World.cell?_of_block (w:=W) (a:=⟨xb,0,none⟩) (ge.keep xb gP gq)).trans gn.cell,gn.own⟩,cell1 e4,cell1 ex,cell1 eb,?_,em,en,?_,?_,?_,⟨List.nodup_nil,by simp⟩⟩
  . rw[cell1 g8,gp];rfl
  ·rintro q (e|e|e|e|e|e)
   . have e:q=w4.heap.size:=e;exact oS _ (by omega)
   . have e:q=W.heap.size:=e;exact oS _ (by omega)
   . have e:q=bn:=e;exact gv _ (.inl e)
   . have e:q=w6.heap.size:=e;exact oS _ (by omega)
   . have e:q=mt:=e;exact oS _ (by omega)
   . have e:q=nt:=e;exact oS _ (by omega)
  ·refine⟨?_,?_,?_,?_,?_,?_⟩
   . show mt≠w4.heap.size;omega
   . show mt≠W.heap.size;omega
   . show mt≠bn;omega
   . show mt≠w6.heap.size;omega
   . show mt≠xb;omega
   . show mt≠nt;omega
  ·refine⟨?_,?_,?_,?_,?_⟩
   . show nt≠w4.heap.size;omega
   . show nt≠W.heap.size;omega
   . show nt≠bn;omega
   . show nt≠w6.heap.size;omega
   . show nt≠xb;omega
 obtain⟨C,g1⟩:∃ C:SnC,C=⟨w4.heap.size,W.heap.size,bn,w6.heap.size,mt,nt,xb⟩:=⟨_,rfl⟩;have hf:C.caps=#[.pointer (some ⟨w4.heap.size,0,none⟩),.pointer (some ⟨W.heap.size,0,none⟩),.pointer (some ⟨bn,0,none⟩),.pointer (some ⟨w6.heap.size,0,none⟩)]:=by rw[g1];rfl
 have gE:∀ k,C.two k->W.heap.size<=k:=by
  rw[g1];rintro k (e|e)
  . have e:k=mt:=e;omega
  . have e:k=nt:=e;omega
 rw[<- g1] at hs;have ho:=hB.z.len;have clist:w8.cell? ⟨bl,0,none⟩=some (.slice a ks.length c):=(World.cell?_of_block (w:=W) (a:=⟨bl,0,none⟩) (ge.keep bl gk (fun e=>hnl e.symm))).trans hB.l;obtain⟨I,hI⟩:∃ I:Nat->World->Prop,I=fun i wr=>Wr (· = bn) W wr/\wr.heap[bn]?=some (.cells #[.map (some nt)] 153 (0,0))/\SnS (K m.d V) C mb o m V (Zly m.d (es.take i)) (tally m.d (Zly m.d (es.take i))) wr:=⟨_,rfl⟩
 have gH:Hid (I 0 w8):=by rw[hI];exact Hd ⟨ge,eb,by simpa [Zly] using hs⟩
 have HX:Hid (∀ i wr,I i wr->wr.cell? ⟨W.heap.size,0,none⟩=some (.pointer (some ⟨xb,0,none⟩))/\wr.cell? ⟨w6.heap.size,0,none⟩=some (.func (.func 166) #[] C.caps)/\(∀ j,j<ks.length->∃ b off,a=some ⟨b,off,none⟩/\wr.cell? ⟨b,off+j,none⟩=some (.int .i64 (at0 ks j)))/\I i wr.drew):=by
  rw[hI];refine Hd fun i wr hh=>?_
  obtain⟨h1,gi,h2⟩:=hh;have hx:=h2.bx;have hd:=h2.bd;rw[g1] at hx;refine⟨hx,?_,fun j hj=>?_,h1.drew,gi,h2.below (Zag wr 1)⟩
  . rw[g1] at hd ⊢;exact hd
  . obtain⟨b,off,e,hc⟩:=hB.z.cells j hj;exact⟨b,off,e,(World.cell?_of_block (w:=W) (a:=⟨b,off+j,none⟩) (h1.keep b (hC b (.inr (.inr ⟨_,e,rfl⟩))).1 (fun q=>hna _ e q.symm))).trans hc⟩
 have g2:Hid (∀ i wr,i<ks.length->I i wr->∃ f,Calls prog 148 #[.pointer (some ⟨xb,0,none⟩),.int .i64 (at0 ks i)] wr (fun x w'=>x=.returned (.int .i64 (f:Nat))/\wr=w') /\
  Calls prog 166 (#[.int .i64 (f:Nat)]++C.caps) wr fun x w'=>x=.returned (.tuple #[])/\I (i+1) w'):=by
  rw[hI];refine Hd fun i wr hi hh=>?_
  obtain⟨h1,gi,h2⟩:=hh;have gy:i<es.length:=by omega
  have gO:=h2.x;rw[g1] at gO;refine⟨es[i],by rw[Zax hi];exact Zfn h2.is gO g0.ok.handles.nodup (h8 i hi gy),?_⟩;refine(Zta m.d.vars.length _ _ wr h2 (gj _ (List.getElem_mem gy)) (by omega)).mono ?_;rintro x w' ⟨rfl,r1,r2⟩;refine⟨rfl,h1.trans r1 (fun _ _ e=>e) (fun k hk e=>by have:=gE k e;omega),(r1.keep bn (by have:=h1.size;omega) (fun e=>by have:=gE bn e;omega)).trans gi,?_⟩;rw[Zu4 es gy];exact r2
 obtain⟨P,hP⟩:∃ P:Ending->World->Prop,P=fun e w'=>∃ (o':Own) (m':ManD) (V':Nat->BF),Zkd (CsN bn bl a) K o W mb m V o' w' m' V'/\BoN wB bn bl a c ks w' /\
  ((e=.returned (.tuple #[])/\Zvl n ws0 os bn Fs W.heap.size w' m' V') \/
   (∃ er:Int,e=Zdr er false ev0/\er≠0/\m'.waits=m.waits/\(m'.waits=ws0/\m'.d.vars=os)/\E er m m') \/
   (∃ ev,e=Zdr 0 true ev/\m.waits=ev::m'.waits/\StE K n Od room w0 mb fs nx (fun m=>m.waits=ws0/\m.d.vars=os) m'/\HapG K n Od room w0 mb fs nx ev)):=⟨_,rfl⟩
 have gm:Hid (∀ wr,I ks.length wr->P (.returned (.tuple #[])) wr):=by
  rw[hI,hP];refine Hd fun wr hh=>?_
  obtain⟨h1,gi,h2⟩:=hh;rw[<- h7,List.take_length] at h2;have ha:=h2.bn;have h0:=h2.cnt;rw[g1] at ha h0;refine⟨o,m,V,⟨h2.is,h2.lt,ChgX.of_wr h1 o (fun k _ e=>.inl e),hk,Ext.refl _ _,rfl,rfl⟩,⟨?_,?_,⟨ho,fun i hi=>?_⟩,fun x hx=>?_⟩,.inl ⟨rfl,gQ,gt,nt,_,by omega,ha,h0,?_⟩⟩
  . exact⟨_,gi⟩
  . exact(World.cell?_of_block (w:=W) (a:=⟨bl,0,none⟩) (h1.keep bl gk (fun e=>hnl e.symm))).trans hB.l
  . obtain⟨b,off,e,hc⟩:=hB.z.cells i hi;exact⟨b,off,e,(World.cell?_of_block (w:=W) (a:=⟨b,off+i,none⟩) (h1.keep b (hC b (.inr (.inr ⟨_,e,rfl⟩))).1 (fun q=>hna _ e q.symm))).trans hc⟩
  . exact(h1.keep _ (hC _ (.inr (.inr ⟨x,hx,rfl⟩))).1 (fun q=>hna x hx q.symm)).trans (hB.s x hx)
  . have:=Yao hk es gj (fun e he=>Znj g0.is he);rw[g0.vars,h9,gt] at this;exact this
 have HW1:=Hd gd.symm;have hv:=Hd g5.symm;have hF:=Hd g4.symm;have c2:=cell1 gf;have f2:w2.frozen? ⟨bn,0,none⟩=false:=by simp[World.frozen?,gf]
 have hu:=Hd gc.symm;rw[gp,ga] at gS;rw[<- hP];rw[hf] at HX g2;clear hP hI hs g0 hB hC gn hnx h9 gj h8 hk gv gR gB gk gd g7 g5 g4 gc ga g9 gN gM gL gK gJ gI hp g10 gZ h5 gY gV gU gT gf go gC gx g3 gX h4 h3 gD gl g6 gp gh g8 ge gg e4 em en ex eb gP gq oS g1 hf gE gu gw hlen hm h7 gQ gt
 go_enter func165,ntmps165
 go_upto_region 1 with fail;rw[HW1.out];go_upto_region 2 with fail;rw[hv.out];clear c2 f2 hn ht;go_upto_region 3 with fail;rw[hu.out];clear hg;go_upto_region 5 with fail;clear gS;go_wp2_with fail
 go_loopw [7,13] (fun _ s13 wr=>∃ i:Nat,i<=ks.length/\s13=.int .i64 i/\Hid (I i wr)) (fun _ s13 _=>ks.length-(intOf s13).toNat)
 case atStart=>exact⟨0,Nat.zero_le _,rfl,gH⟩
 case round =>
  obtain⟨i,hi,rfl,HI⟩:=hrel
  by_cases h6:i<ks.length
  ·have hD:(i:Int)<(ks.length:Int):=by omega
   obtain⟨x1,x2,x3,x4⟩:=HX.out i _ HI.out;obtain⟨b,off,rfl,ck⟩:=x3 i h6;have HD:=Hd (HX.out i _ x4);obtain⟨f,hE,hS⟩:=g2.out i _ h6 x4;have HE:=Hd hE;have HS:=Hd hS;have gF:=HX;clear hE hS x1 x2 x3 x4 HX g2 gm HI gH clist;go_upto_region 8 with fail;obtain⟨wz,gr⟩:∃ wz,wz=wr.drew:=⟨_,rfl⟩;rw[<- gr] at HD HE HS;have gG:=Hd gr;clear gr;have gA:=HD.out.1;have gz:=HD.out.2.1;refine Zj2 [0,1,2,3,4] (fun W'=>W'.cell? ⟨W.heap.size,0,none⟩=some (.pointer (some ⟨xb,0,none⟩))/\W'.cell? ⟨w6.heap.size,0,none⟩=some (.func (.func 166) #[] #[.pointer (some ⟨w4.heap.size,0,none⟩),.pointer (some ⟨W.heap.size,0,none⟩),.pointer (some ⟨bn,0,none⟩),.pointer (some ⟨w6.heap.size,0,none⟩)])) (fun ch w'=>False) (fun c a w hd h=>h.elim) (by kernel_rfl) (by rw[<- gG.out];exact⟨gA,gz⟩) ?_;rw[<- gG.out]
   iterate 3
    refine Ziy rfl rfl (by kernel_rfl) ?_;apply Exists.intro;refine⟨fun w' hw=>?_,?_⟩
    . obtain⟨q1,q2⟩:=hw;go_simp;rfl
    simp only[Zai]
   refine Zn0 (R1:=fun u w'=>u=.int .i64 (f:Nat)/\wz=w') rfl (by kernel_rfl) rfl rfl (by go_simp) (HE.out.mono fun x w' h=>⟨_,h.1,rfl,h.2⟩) (by rintro u w' ⟨_,rfl⟩;exact⟨gA,gz⟩) ?_;rintro u w'-⟨rfl,rfl⟩;simp only[Zai];refine Zn0 (R1:=fun u w'=>u=.tuple #[]/\I (i+1) w') rfl (by kernel_rfl) rfl rfl (by go_simp) (HS.out.mono fun x w' h=>⟨_,h.1,rfl,h.2⟩) (by rintro u w' ⟨_,hI⟩;exact⟨(gF.out (i+1) w' hI).1,(gF.out (i+1) w' hI).2.1⟩) ?_;rintro u w9-⟨rfl,hb⟩;have hy:=Hd hb;clear hb gF HS HE HD gA gz gG;simp only[Zai];refine Zsw (by kernel_rfl) ?_;go_wp2_with fail;go_roundw
   case rel=>exact⟨i+1,by omega,by rw[show ((i+1:Nat):Int)=(i:Int)+1 by omega],hy⟩
   case measure=>simp[intOf];omega
  ·obtain rfl:i=ks.length:=by omega
   have hz:¬ (ks.length:Int)<(ks.length:Int):=by omega
   have HF:=Hd (gm.out _ HI.out);clear HX g2 gm HI gH;go_wp2_with fail;refine bodyPost_end (results_none rfl _ _ _) rfl ?_;exact HF.out
end
open Go.RowKit
structure ArgI (w0 w:World)(o:Own)(a:Option Addr)(ks:List Int):Prop where
 z:Zav w a ks
 own:∀ x,a=some x->x.block<w.heap.size/\w0.heap.size<=x.block/\o x.block=none
theorem Zqm {w:World}{b:Nat}{v:Value}{t:TypeId}{fr:Nat×Nat}(h:w.heap[b]?=some (.cells #[v] t fr)):w.setCell ⟨b,0,none⟩ v=w:=by
 have:w.heap.modify b (fun|.cells c elem frozen=>.cells (c.setIfInBounds 0 v) elem frozen|o=>o)=w.heap:=by
  apply Array.ext_getElem?;intro i;rw[Array.getElem?_modify];split
  ·rename_i e
   subst e;rw[h];rfl
  . rfl
 show ({ w with heap:=w.heap.modify b (fun|.cells c elem frozen=>.cells (c.setIfInBounds 0 v) elem frozen|o=>o) }:World)=w
 rw[this]
section
variable {K:Law}{n:Nat}{Od:List Nat->Prop}{room:Nat}{w0 w:World}{mb:Nat}{fs:List (Int×BF)}{nx:Int}{o:Own}{m:ManD}{V:Nat->BF}
def Yb3 (K:Law)(n:Nat)(Od:List Nat->Prop)(room:Nat)(w0:World)(mb:Nat)(fs:List (Int×BF))(nx:Int)(m:ManD)(o:Own)(w:World)(Fs:List BF)(x:Ending)(w':World):Prop :=
 ∃ nt cs,x=.returned (.tuple #[.map (some nt),.int .i64 0])/\Zbf w' nt (Value.int .i64) (ctL cs)/\Yb4 n m.d.vars Fs cs/\∃ o' m' V',ChgX NoB o o' w w'/\m'.waits=m.waits/\m'.d.vars=m.d.vars/\SatE K n Od room w0 mb fs nx w' o' m' V'
theorem Zu5 {ws0:List Ev}{os:List Nat}{bn s:Nat}{Fs:List BF}{W W':World}{m:ManD}{V:Nat->BF}(hb:bn<s)(hz:s+3<=W.heap.size)(h:Zvl n ws0 os bn Fs (s+3) W m V)(a:Ali s W W'):Zvl n ws0 os bn Fs 0 W' m V:=by
 obtain⟨h1,h2,nt,cs,h3,h4,h5,h6⟩:=h;exact⟨h1,h2,nt,cs,Nat.zero_le _,(World.cell?_of_block (w:=W) (a:=⟨bn,0,none⟩) (a.keep bn (by omega) (by omega))).trans h4,h5.keepB (a.keep nt h5.lt (by omega)),h6⟩
theorem Yal (h:SatE K n Od room w0 mb fs nx w o m V){c:Nat}{a:Option Addr}{ks:List Int}{Fs:List BF}(hl:ArgI w0 w o a ks)(hlen:Fs.length=ks.length)(hm:∀ i (h:i<ks.length),(ks[i],Fs[i]'(by omega))∈fs) :
 Calls prog 122 #[.pointer (some ⟨mb,0,none⟩),.slice a ks.length c] w (Yb3 K n Od room w0 mb fs nx m o w Fs):=by
 have gi:∀ (fn:Fn) (first cap:Array Value) (w:World),(Instr.makeFunc fn first cap).run prog w=.ok (.func fn first cap) w:=fun _ _ _ _=>rfl
 have hw0:=h.chg.size;obtain⟨w2,g3⟩:∃ w2,w2=(w.alloc (.cells #[.slice a ks.length c] 22)).alloc (.cells #[.map none] 153):=⟨_,rfl⟩;have g5:Below w.heap.size w w2:=by rw[g3];exact(Zae _ _).alloc (by simp) _
 have gc:w2.heap.size=w.heap.size+2:=by rw[g3];simp
 have g0:w2.heap[w.heap.size]?=some (.cells #[.slice a ks.length c] 22 (0,0)):=by
  rw[g3];exact(Go.heap_alloc_old _ _ (by simp)).trans (heap_alloc_new _ _)
 have g1:w2.heap[w.heap.size+1]?=some (.cells #[.map none] 153 (0,0)):=by
  have:=heap_alloc_new (w.alloc (.cells #[.slice a ks.length c] 22)) (.cells #[.map none] 153);rw[World.size_alloc] at this;rw[g3];exact this
 obtain⟨s,hs⟩:∃ s,s=w.heap.size+1:=⟨_,rfl⟩;rw[<- hs] at g1;have g6:∀ x,a=some x->s≠x.block:=fun x hx e=>by have:=(hl.own x hx).1;omega
 have g4:=h.below g5;have hz:=hl.z.below g5;have g8:BoN w2 s w.heap.size a c ks w2:=⟨⟨_,g1⟩,cell1 g0,hz,fun _ _=>rfl⟩;have hC:∀ k,CsN s w.heap.size a k->k<w2.heap.size/\o k=none:=by
  rintro k (rfl|rfl|⟨x,hx,rfl⟩)
  . exact⟨by omega,h.lt.none (by omega)⟩
  . exact⟨by omega,h.lt.none (by omega)⟩
  . have:=hl.own x hx;exact⟨by omega,this.2.2⟩
 have ga:∀ k,CsN s w.heap.size a k->w0.heap.size<=k:=by
  rintro k (rfl|rfl|⟨x,hx,rfl⟩)
  . omega
  . omega
  . exact(hl.own x hx).2.1
 have hL:=Zxg (B:=BoN w2 s w.heap.size a c ks) (QP:=fun _=>Zvl n m.waits m.d.vars s Fs 0) (St:=fun m'=>m'.waits=m.waits/\m'.d.vars=m.d.vars) (fun _ _ hb hk=>hb.keep hk) (fun s' _ W W' m' V' hc hz _ hq a=>Zu5 (hc s (.inl rfl)) hz hq a) (fun m' d hm hr=>⟨hm.1,by show d.vars=_;rw[hr.vars];exact hm.2⟩) ga Zo9 (Zyi (E:=fun _ _ _=>False) (by omega) g6 hlen hm m.waits m.d.vars) g4 g8 hC ⟨rfl,rfl⟩
 have HL:Hid (Calls prog 164 #[.pointer (some ⟨mb,0,none⟩),.func (.func 165) #[] #[.pointer (some ⟨s,0,none⟩),.pointer (some ⟨w.heap.size,0,none⟩)]] w2 fun x w'=>x=.returned (.int .i64 0)/\∃ nt,w'.cell? ⟨s,0,none⟩=some (.map (some nt))/\(∃ v,w'.heap[s]?=some (.cells #[v] 153 (0,0)))/\Yb3 K n Od room w0 mb fs nx m o w Fs (.returned (.tuple #[.map (some nt),.int .i64 0])) w'):=Hd (hL.mono (by
  rintro x w' ⟨er,rfl,o',m',V',hs',g9,hc,⟨rfl,q1,q2,nt,cs,q3,q4,q5,q6⟩|⟨_,m0,e,_⟩⟩
  ·refine⟨rfl,nt,q4,g9.n,nt,cs,rfl,q5,q6,o',m',V',?_,q1,q2,hs'⟩;have g2:ChgX (CsN s w.heap.size a) o o' w w':=(ChgX.of_below g5 o (CsN s w.heap.size a)).trans hc (fun _ _ e=>e);refine⟨g2.os,g2.tape,g2.output,g2.size,fun k hk ho _=>?_,g2.ext,g2.new⟩
   by_cases e:CsN s w.heap.size a k
   ·rcases e with e|e|⟨x,hx,e⟩
    . omega
    . omega
    . subst e;exact(g9.s x hx).trans (g5.block _ hk)
   . exact g2.block k hk ho e
  . exact e.elim))
 have gf:Hid (∀ i,i<ks.length->Calls prog 20 #[.pointer (some ⟨mb,0,none⟩),.int .i64 (at0 ks i)] w2 fun x w'=>x=.returned (.bool true)/\w2=w'):=Hd fun i hi=>by
  rw[Zax hi];exact(Zpu g4 (hm i hi))
 have HZ:Hid (∀ i,i<ks.length->∃ b off,a=some ⟨b,off,none⟩/\w2.cell? ⟨b,off+i,none⟩=some (.int .i64 (at0 ks i))):=Hd fun i hi=>by
  obtain⟨b,off,e,hc⟩:=hz.cells i hi;exact⟨b,off,e,hc⟩
 have gd:=Hd g3.symm;have HS:=Hd hs;have c0:=cell1 g0;have gh:=hz.len;obtain⟨P,hP⟩:∃ P,P=Yb3 K n Od room w0 mb fs nx m o w Fs:=⟨_,rfl⟩;rw[<- hP] at HL ⊢;have HP:Hid (∀ x w',P x w'->P x w'):=Hd fun _ _ e=>e
 clear hP h hw0 g3 g5 gc g0 g1 hs g6 g4 hz g8 hC ga hL hl hlen hm
 go_enter func122,ntmps122
 go_upto_region 1 with fail;rw[gd.out];rw[<- HS.out];go_wp2_with fail
 go_loopw [7,12] (fun _ s12 wr=>∃ i:Nat,i<=ks.length/\s12=.int .i64 i/\wr=w2) (fun _ s12 _=>ks.length-(intOf s12).toNat)
 case atStart=>exact⟨0,Nat.zero_le _,by trivial,by trivial⟩
 case round =>
  obtain⟨i,hi,rfl,rfl⟩:=hrel
  by_cases g7:i<ks.length
  ·have gj:(i:Int)<(ks.length:Int):=by omega
   obtain⟨b,off,rfl,ck⟩:=HZ.out i g7;have HI:=Hd (gf.out i g7);clear HL;go_wp2_with fail;refine HI.out.mono ?_;rintro x w' ⟨rfl,rfl⟩;go_wp2_with fail;go_roundw
   case rel=>exact⟨i+1,by omega,by rw[show ((i+1:Nat):Int)=(i:Int)+1 by omega],trivial⟩
   case measure=>simp[intOf];omega
  ·obtain rfl:i=ks.length:=by omega
   have gg:¬ (ks.length:Int)<(ks.length:Int):=by omega
   go_wp2_with fail;refine HL.out.mono ?_;rintro x w' ⟨rfl,nt,q1,⟨v,q2⟩,hf⟩;have HF:=Hd hf;obtain rfl:v=.map (some nt):=Option.some.inj ((cell1 q2).symm.trans q1);have ge:=Hd (Zqm q2);have f1:w'.frozen? ⟨s,0,none⟩=false:=by simp[World.frozen?,q2]
   clear hf HL;go_wp2_with fail;rw[ge.out];have hu:=underlying153;refine bodyPost_ret (v:=.tuple #[.map (some nt),.int .i64 0]) ((results_cell_tmp rfl _ _ _).trans ?_) rfl HF.out
   show ((asAddr (.pointer (some ⟨s,0,none⟩))).run prog w').andThen (fun a w₁=>((loadVar 153 a).run prog w₁).andThen fun v w₂=>.ok (Value.tuple #[v,.int .i64 0]) w₂)=_
   go_simp
end
open Go.RowKit
open Go.ChangeMaps (setBlock)
theorem Zm1 (seen:Array Nat):∀ es:List MapEntry,(∀ e∈es,0<=valOf e.val)->0<=seenSum es seen/\seenSum es seen<=(es.map fun e=>valOf e.val).sum
 | [],_=>⟨Int.le_refl _,Int.le_refl _⟩
 | x::l,h=>by
   have h1:=h x (List.mem_cons_self ..);obtain⟨a,b⟩:=Zm1 seen l (fun e he=>h e (List.mem_cons_of_mem _ he))
   show 0<=(if seen.contains x.born then valOf x.val else 0)+seenSum l seen/\(if seen.contains x.born then valOf x.val else 0)+seenSum l seen<=(List.map (fun e=>valOf e.val) (x::l)).sum
   rw[List.map_cons,List.sum_cons];split<;>constructor<;>omega
theorem Zlq {n r:Nat}{w w':World}(h:Below n w w')(hr:n<=r)(o:Obj):Below n w (setBlock w' r o):=by
 refine⟨h.os,h.tape,h.output,by simpa [setBlock] using h.size,fun k hk=>?_⟩;have:(setBlock w' r o).heap[k]?=w'.heap[k]?:=by simp[setBlock,Array.getElem?_setIfInBounds,show r≠k by omega]
 exact this.trans (h.block k hk)
theorem Zr2 {r:Nat}{w:World}(h:r<w.heap.size)(o:Obj):(setBlock w r o).heap[r]?=some o:=by simp[setBlock,h]
theorem Ydo (cs:List (Nat×Nat)):((ctL cs).map fun p=>valOf p.2).sum=(sumC cs:Nat):=by
 induction cs with
 | nil=>rfl
 | cons p r ih =>
   simp only[ctL,sumC,List.map_cons,List.sum_cons,List.map_map] at ih ⊢;rw[ih];simp[valOf]
section
variable {K:Law}{n:Nat}{Od:List Nat->Prop}{room:Nat}{w0 w:World}{mb:Nat}{fs:List (Int×BF)}{nx:Int}{o:Own}{m:ManD}{V:Nat->BF}
def AskV (K:Law)(n:Nat)(Od:List Nat->Prop)(room:Nat)(w0:World)(mb:Nat)(fs:List (Int×BF))(nx:Int)(m:ManD)(o:Own)(w w':World):Prop :=
 ∃ o' m' V',ChgX NoB o o' w w'/\m'.waits=m.waits/\m'.d.vars=m.d.vars/\SatE K n Od room w0 mb fs nx w' o' m' V'
theorem AskV.below {w1 w':World}(h:AskV K n Od room w0 mb fs nx m o w w1)(hb:Below w1.heap.size w1 w'):AskV K n Od room w0 mb fs nx m o w w':=by
 obtain⟨o',m',V',h1,h2,h3,h4⟩:=h;exact⟨o',m',V',h1.trans (ChgX.of_below hb o' NoB) (fun _ _ e=>e),h2,h3,h4.below hb⟩
end
open Go.RowKit
open Go.ChangeMaps (setBlock)
section
variable {K:Law}{n:Nat}{Od:List Nat->Prop}{room:Nat}{w0 w:World}{mb:Nat}{fs:List (Int×BF)}{nx:Int}{o:Own}{m:ManD}{V:Nat->BF}
theorem Zqt (h:SatE K n Od room w0 mb fs nx w o m V){c:Nat}{a:Option Addr}{ks:List Int}{Fs:List BF}(hl:ArgI w0 w o a ks)(hlen:Fs.length=ks.length)(hm:∀ i (h:i<ks.length),(ks[i],Fs[i]'(by omega))∈fs) :
 Calls prog 65 #[.pointer (some ⟨mb,0,none⟩),.slice a ks.length c] w fun x w'=>x=.returned (.tuple #[.int .i64 ((nodesF n m.d.vars Fs).length:Nat),.int .i64 0])/\AskV K n Od room w0 mb fs nx m o w w':=by
 have HS:=Hd (Yal (c:=c) h hl hlen hm);obtain⟨N,hN⟩:∃ N,N=(nodesF n m.d.vars Fs).length:=⟨_,rfl⟩;obtain⟨P,hP⟩:∃ P:Ending->World->Prop,P=fun x w'=>x=.returned (.tuple #[.int .i64 (N:Nat),.int .i64 0])/\AskV K n Od room w0 mb fs nx m o w w':=⟨_,rfl⟩
 have gA:Hid (∀ w1 w',AskV K n Od room w0 mb fs nx m o w w1->Below w1.heap.size w1 w'->P (.returned (.tuple #[.int .i64 (N:Nat),.int .i64 0])) w'):=Hd fun w1 w' h1 h2=>by
  rw[hP];exact⟨rfl,h1.below h2⟩
 rw[<- hN];rw[<- hP];have gm:=Hd hN;clear hN hP h hl hlen hm
 go_enter func65,ntmps65
 go_wp2_with fail;refine HS.out.mono ?_;rintro x w1 ⟨nt,cs,rfl,gg,hv,gi⟩;have gB:=Hd (show AskV K n Od room w0 mb fs nx m o w w1 from gi);obtain⟨es,clock,hM,g3,g9,gr⟩:=gg.ex;have gc:(es.toList.map fun e=>valOf e.val).sum=((N:Nat):Int):=by
  have h1:=congrArg (List.map fun q:Value×Value=>valOf q.2) g3;simp only[List.map_map] at h1;have h2:(es.toList.map fun e=>valOf e.val)=(ctL cs).map fun p=>valOf p.2:=h1
  rw[h2,Ydo,hv.sum,gm.out]
 have g2:∀ e∈es.toList,∃ k:Nat,e.val=.int .i64 k:=fun e he=>by
  have h1:(e.key,e.val)∈(ctL cs).map (fun p=>(Value.int .i64 p.1,p.2)):=by rw[<- g3];exact List.mem_map.2 ⟨e,he,rfl⟩
  obtain⟨p,hp,e2⟩:=List.mem_map.1 h1;obtain⟨q,_,rfl⟩:=List.mem_map.1 hp;exact⟨q.2,(congrArg Prod.snd e2).symm⟩
 have ge:∀ e∈es.toList,0<=valOf e.val:=fun e he=>by
  obtain⟨k,hk⟩:=g2 e he;rw[hk];exact Int.natCast_nonneg k
 have gj:N<=2305843009213693952:=by rw[gm.out,<- hv.sum];exact hv.le
 have gf:nt<w1.heap.size:=gg.lt;have HV:=Hd g2;have HPOS:=Hd ge;have gl:=Hd gc;have go:=Hd g9;have gx:=Hd gr;have HM:=Hd hM;have gD:=run_range_map (P:=prog) w1 153 _ _ nt es clock underlying153 hM;clear gi gg hv g3 g9 gr gc g2 ge hM HS gm;go_upto_region 5 with fail;obtain⟨r,hr⟩:∃ r,r=w1.heap.size:=⟨_,rfl⟩;obtain⟨w2,g5⟩:∃ w2,w2=w1.alloc (.mapIter (some nt) clock #[] clock):=⟨_,rfl⟩;have HB2:=Hd (show Below w1.heap.size w1 w2 by rw[g5];exact Zae _ _);have gE:=Hd (show w2.heap[r]?=some (.mapIter (some nt) clock #[] clock) by rw[g5,hr];exact heap_alloc_new _ _);rw[<- g5,<- hr];have HR:=Hd hr;have gw:=Hd gf;clear g5 gD hr gf
 go_loopw [4,8] (fun s4 _ wr=>∃ seen:Array Nat,Below w1.heap.size w1 wr/\wr.heap[r]?=some (.mapIter (some nt) clock seen clock)/\s4=.int .i64 (seenSum es.toList seen)) (fun _ _ wr=>(leftOf es (wr.iterSeen r)).size)
 case atStart=>exact⟨#[],HB2.out,gE.out,by rw[seenSum_none]⟩
 case round =>
  obtain⟨seen,hb,g1,rfl⟩:=hrel;have gk:wr.heap[nt]?=some (.map es clock):=(hb.block nt gw.out).trans HM.out;have HB:=Hd hb;have gG:=Hd g1;rcases run_next_at (P:=prog) wr 0 r nt clock clock seen es clock g1 gk go.out (Nat.le_refl _) with ⟨hz,g0⟩|⟨e,he,w3,ga,g0⟩
  ·have hs:=seenSum_all es seen hz;rw[gl.out] at hs;have hnx:∀ ty,(Instr.next (.pointer (some ⟨r,0,none⟩)) false ty).run prog wr=_:=fun _=>g0
   rw[hs];have HF:=Hd (gA.out w1 wr gB.out hb);clear hs g0 hz gk g1 hb gj;go_wp2_with fail;exact HF.out
  ·obtain⟨g8,gt⟩:=mem_left he;obtain⟨k,hk⟩:=HV.out e g8;have gC:0<=seenSum es.toList (seen.push e.born)/\seenSum es.toList (seen.push e.born)<=(N:Nat):=by
    have:=Zm1 (seen.push e.born) es.toList HPOS.out;rw[gl.out] at this;exact this
   have g6:=seenSum_push seen e gt es.toList gx.out g8;rw[hk] at g6;obtain⟨w4,g4⟩:∃ w4,w4=setBlock w3 r (.mapIter (some nt) clock (seen.push e.born) clock):=⟨_,rfl⟩;have gd:r<wr.heap.size:=(Array.getElem?_eq_some_iff.1 g1).1;have gu:Below w1.heap.size w1 w3:=by rcases ga with e|e<;>rw[e];exact hb;exact hb.trans ((Zag wr 1).mono hb.size)
   have gq:r<w3.heap.size:=by rcases ga with e|e<;>rw[e];exact gd;exact gd
   have gh:Below w1.heap.size w1 w4:=by rw[g4];exact Zlq gu (by rw[HR.out];exact Nat.le_refl _) _
   have g7:w4.heap[r]?=some (.mapIter (some nt) clock (seen.push e.born) clock):=by rw[g4];exact Zr2 gq _
   have gv:w4.heap[nt]?=some (.map es clock):=(gh.block nt gw.out).trans HM.out;have gy:=run_entry_at (P:=prog) w4 r nt clock seen es clock e g7 gv g8 gx.out;rw[<- g4,hk] at g0;rw[hk] at gy;have hnx:∀ ty,(Instr.next (.pointer (some ⟨r,0,none⟩)) false ty).run prog wr=_:=fun _=>g0
   obtain⟨S,hS⟩:∃ S,S=seenSum es.toList seen:=⟨_,rfl⟩;have gp:valOf (.int .i64 (k:Nat))=(k:Int):=rfl;rw[gp,<- hS] at g6;have gF:IntKind.i64.wrap (S+(k:Nat))=S+(k:Nat):=IntWalk.i64_in _ ⟨by omega,by omega⟩;have gz:=Hd (show ∃ sn:Array Nat,Below w1.heap.size w1 w4/\w4.heap[r]?=some (.mapIter (some nt) clock sn clock)/\(Value.int .i64 (S+(k:Nat)))=.int .i64 (seenSum es.toList sn) from ⟨_,gh,g7,by rw[g6]⟩)
   have gn:=Hd (show (leftOf es (w4.iterSeen r)).size<(leftOf es (wr.iterSeen r)).size by
    have e1:w4.iterSeen r=seen.push e.born:=by unfold World.iterSeen;rw[g7]
    have e2:wr.iterSeen r=seen:=by unfold World.iterSeen;rw[g1]
    rw[e1,e2];exact left_shrinks es seen e he)
   rw[<- hS];clear g0 gk g1 hb gj he g8 gt hk gC g6 g4 gd gu gq gh g7 gv hS gp ga;go_wp2_with fail;go_roundw
   case rel=>exact gz.out
   case measure=>exact gn.out
end
open Go.RowKit
open Go.RowKit
open Go.RowKit
open Go.RowKit
open Go.RowKit
open Go.RowKit
open Go.RowKit
open Go.RowKit
open Go.RowKit
end Go.Proofs.YtkidaindpahefaaGreat
