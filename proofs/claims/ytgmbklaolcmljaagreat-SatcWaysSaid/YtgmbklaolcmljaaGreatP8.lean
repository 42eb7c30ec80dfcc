/- Several texts in one file: contracts of the program's functions and what follows from them. -/
import Derived.Test.YtgmbklaolcmljaaGreatP7
import Derived.Deep.Slices
import Derived.ChangeArms
import Derived.WideShapes
set_option linter.unusedSimpArgs false
set_option linter.unusedVariables false
set_option linter.unusedSectionVars false
set_option linter.unnecessarySimpa false
set_option maxRecDepth 100000
set_option maxHeartbeats 8000000
namespace Go.Proofs.YtgmbklaolcmljaaGreat
open Go.Proofs.Tryz
open Go.RowKit
def nfix:Nat->(Nat->Option Bool)->Nat
 | 0,_=>0
 | n+1,fx=>nfix n fx+(if (fx n).isSome then 1 else 0)
def cntA:Nat->BF->(Nat->Option Bool)->(Nat->Bool)->Nat
 | 0,F,_,ρ=>if F ρ then 1 else 0
 | n+1,F,fx,ρ=>match fx n with
   | none=>cntA n F fx (upd ρ n false)+cntA n F fx (upd ρ n true)
   | some b=>cntA n F fx (upd ρ n b)
theorem Zj5 (F:BF)(fx:Nat->Option Bool):∀ (n:Nat) (ρ:Nat->Bool),(∀ v,n<=v->∀ b,fx v=some b->ρ v=b)->cntN n (fixV fx F) ρ=2^nfix n fx*cntA n F fx ρ
 | 0,ρ,h=>by
   have e:(fun v=>(fx v).getD (ρ v))=ρ:=funext fun v=>by
    cases hv:fx v with
    | none=>rfl
    | some b=>exact(h v (Nat.zero_le _) b hv).symm
   show (if F (fun v=>(fx v).getD (ρ v))=true then 1 else 0)=2^0*(if F ρ=true then 1 else 0)
   rw[e];simp
 | n+1,ρ,h=>by
   show cntN n _ (upd ρ n false)+cntN n _ (upd ρ n true)=_
   cases hv:fx n with
   | none =>
     have hu:∀ c,∀ v,n<=v->∀ b,fx v=some b->upd ρ n c v=b:=fun c v hv2 b hb=>by
      by_cases e:v=n
      . subst e;rw[hv] at hb;cases hb
      . unfold upd;rw[if_neg e];exact h v (by omega) b hb
     rw[Zj5 F fx n _ (hu false),Zj5 F fx n _ (hu true)];simp[cntA,nfix,hv,Nat.mul_add]
   | some b =>
     have hu:∀ v,n<=v->∀ b',fx v=some b'->upd ρ n b v=b':=fun v hv2 b' hb=>by
      by_cases e:v=n
      . subst e;rw[hv] at hb;cases hb;simp[upd]
      . unfold upd;rw[if_neg e];exact h v (by omega) b' hb
     have hc:∀ c,cofF (fixV fx F) n c=fixV fx F:=fun c=>funext fun σ=>by
      show F (fun v=>(fx v).getD (upd σ n c v))=F fun v=>(fx v).getD (σ v)
      congr 1;funext v
      by_cases e:v=n
      . subst e;rw[hv];rfl
      . unfold upd;rw[if_neg e]
     have he:∀ c,cntN n (fixV fx F) (upd ρ n c)=cntN n (fixV fx F) ρ:=fun c=>by
      rw[<- Zdi _ n c n ρ (Nat.le_refl _),hc]
     have e1:cntA (n+1) F fx ρ=cntA n F fx (upd ρ n b):=by simp[cntA,hv]
     have e2:nfix (n+1) fx=nfix n fx+1:=by simp[nfix,hv]
     rw[he false,he true,<- he b,Zj5 F fx n _ hu,e1,e2,Nat.pow_succ,Nat.mul_right_comm,Nat.mul_two]
def agF:Nat->(Nat->Option Bool)->(Nat->Bool)->Bool
 | 0,_,_=>true
 | n+1,fx,ρ=>agF n fx ρ&&(match fx n with|none=>true|some b=>ρ n == b)
theorem Zun (n:Nat)(ρ:Nat->Bool):cntN n (fun _=>false) ρ=0:=by
 have h1:=Znk n (fun _=>false) ρ;have h2:cntN n (notF fun _=>false) ρ=2^n:=Zmk n ρ;omega
theorem Zmj (F:BF)(fx:Nat->Option Bool):∀ (n:Nat) (ρ:Nat->Bool),cntN n (fun σ=>F σ&&agF n fx σ) ρ=cntA n F fx ρ
 | 0,ρ=>by
   show (if (F ρ&&true)=true then 1 else 0)=if F ρ=true then 1 else 0
   rw[Bool.and_true]
 | n+1,ρ=>by
   have key:∀ c,cntN n (fun σ=>F σ&&agF (n+1) fx σ) (upd ρ n c)=if (match fx n with|none=>true|some b=>c == b)=true then cntA n F fx (upd ρ n c) else 0:=fun c=>by
    rw[<- Zdi _ n c n ρ (Nat.le_refl _)];have e1:∀ σ,agF (n+1) fx (upd σ n c)=(agF n fx (upd σ n c)&&(match fx n with|none=>true|some b=>c == b)):=fun σ=>by
     show (agF n fx (upd σ n c)&&_)=_
     rw[show upd σ n c n=c by simp[upd]]
    by_cases hm:(match fx n with|none=>true|some b=>c == b)=true
    ·rw[if_pos hm,<- Zmj F fx n,<- Zdi _ n c n ρ (Nat.le_refl _)];refine Zzv (fun σ=>?_) n ρ;rw[Zdj,Zdj]
     show (F (upd σ n c)&&agF (n+1) fx (upd σ n c))=(F (upd σ n c)&&agF n fx (upd σ n c))
     rw[e1,hm,Bool.and_true]
    ·rw[if_neg hm]
     rw[show cofF (fun σ=>F σ&&agF (n+1) fx σ) n c=fun _=>false from funext fun σ=>by
      rw[Zdj]
      show (F (upd σ n c)&&agF (n+1) fx (upd σ n c))=false
      rw[e1,Bool.eq_false_iff.2 hm,Bool.and_false,Bool.and_false]]
     exact Zun n ρ
   show cntN n _ (upd ρ n false)+cntN n _ (upd ρ n true)=_
   rw[key false,key true];have e3:cntA (n+1) F fx ρ=match fx n with|none=>cntA n F fx (upd ρ n false)+cntA n F fx (upd ρ n true)|some b=>cntA n F fx (upd ρ n b):=rfl
   rw[e3];cases fx n with
   | none=>simp
   | some b=>cases b<;>simp
theorem Zvy (n:Nat)(F:BF)(fx:Nat->Option Bool)(hf:∀ v,n<=v->fx v=none):totN n fx F=2^nfix n fx*(tabB n fun σ=>F σ&&agF n fx σ).count true:=by
 rw[Zg2,Zmj];exact Zj5 F fx n _ fun v hv b hb=>by rw[hf v hv] at hb;cases hb
theorem Zza (n:Nat)(F:BF)(fx:Nat->Option Bool)(hf:∀ v,n<=v->fx v=none):totN n fx F/2^nfix n fx=(tabB n fun σ=>F σ&&agF n fx σ).count true:=by
 rw[Zvy n F fx hf,Nat.mul_div_cancel_left _ (Nat.pow_pos (by omega))]
theorem Zuv {F:BF}{n:Nat}{fx:Nat->Option Bool}(hf:∀ v,n<=v->fx v=none)(hi:∀ v,v<n->(fx v).isSome->Indep F v):fixV fx F=F:=by
 have key:∀ k,k<=n->∀ ρ,F (fun v=>if v<k then (fx v).getD (ρ v) else ρ v)=F ρ:=fun k=>by
  induction k with
  | zero=>intro _ ρ;simp
  | succ k ih =>
    intro hk ρ;rw[<- ih (by omega) ρ];cases hv:fx k with
    | none =>
      congr 1;funext v
      by_cases e:v=k
      . subst e;simp[hv]
      ·by_cases c:v<k
       . rw[if_pos c,if_pos (by omega)]
       . rw[if_neg c,if_neg (by omega)]
    | some b =>
      rw[<- hi k (by omega) (by rw[hv];rfl) (fun v=>if v<k then (fx v).getD (ρ v) else ρ v) b];congr 1;funext v
      by_cases e:v=k
      . subst e;simp[hv,upd]
      ·show _=upd (fun v=>if v<k then (fx v).getD (ρ v) else ρ v) k b v
       unfold upd;rw[if_neg e]
       by_cases c:v<k
       . rw[if_pos (by omega)];simp[c]
       . rw[if_neg (by omega)];simp[c]
 funext ρ;rw[<- key n (Nat.le_refl _) ρ]
 show F _=F _
 congr 1;funext v
 by_cases c:v<n
 . rw[if_pos c]
 . rw[if_neg c,hf v (by omega)];rfl
open Go.RowKit
def shr:Nat->Nat->Nat×Nat
 | 0,c=>(c,0)
 | k+1,c=>if c%2=1 then (c,k+1) else shr k (c/2)
theorem AskV.vars {K:Law}{n:Nat}{Od:List Nat->Prop}{room:Nat}{w0 w w':World}{mb:Nat}{fs:List (Int×BF)}{nx:Int}{o:Own}{m:ManD}(h:AskV K n Od room w0 mb fs nx m o w w'):Calls prog 69 #[.pointer (some ⟨mb,0,none⟩)] w' fun x w''=>x=.returned (.int .i64 (n:Nat))/\w'=w'':=by
 obtain⟨o',m',V',_,_,_,h6⟩:=h;have hv:=Zdw h6.is;rw[h6.vars] at hv;exact hv
theorem AskN.next {K:Law}{n:Nat}{Od:List Nat->Prop}{room:Nat}{w0 w w1 w':World}{mb:Nat}{fs:List (Int×BF)}{nx:Int}{o:Own}{m:ManD}{v v':Value}(h:AskN K n Od room w0 mb fs nx m o w w1 v)(hb:Below w1.heap.size w1 w')(hq:∀ q,v'.ownBlock=some q->v.ownBlock=some q\/w1.heap.size<=q):AskN K n Od room w0 mb fs nx m o w w' v':=by
 obtain⟨o',m',V',h1,h2,h3,h4,h5⟩:=h;refine⟨o',m',V',h1.trans (ChgX.of_below hb o' NoB) (fun _ _ e=>e),h2,h3,h4.below hb,fun q e=>?_⟩;rcases hq q e with e|e
 . exact h5 q e
 . exact h4.lt.none e
theorem AskN.of {K:Law}{n:Nat}{Od:List Nat->Prop}{room:Nat}{w0 w w':World}{mb:Nat}{fs:List (Int×BF)}{nx:Int}{o:Own}{m:ManD}{V:Nat->BF}(h:SatE K n Od room w0 mb fs nx w o m V)(hb:Below w.heap.size w w')(c:Nat):AskN K n Od room w0 mb fs nx m o w w' (.slice none 0 c) :=
 ⟨o,m,V,ChgX.of_below hb o NoB,rfl,rfl,h.below hb,fun q e=>by cases e⟩
section
variable {K:Law}{n:Nat}{Od:List Nat->Prop}{room:Nat}{w0 w:World}{mb:Nat}{fs:List (Int×BF)}{nx:Int}{o:Own}{m:ManD}{V:Nat->BF}
theorem Zq8 (h:SatE K n Od room w0 mb fs nx w o m V){k:Int}{G:BF}(hf:(k,G)∈fs) :
 Calls prog 70 #[.pointer (some ⟨mb,0,none⟩),.int .i64 k,.map none] w fun x w'=>∃ v,x=.returned (.tuple #[v,.int .i64 0])/\NatV w' v (totN n (fun _=>none) G)/\AskN K n Od room w0 mb fs nx m o w w' v :=
 Zzg h hf (.inl ⟨rfl,fun _=>rfl⟩) (fun q e=>by cases e)
theorem Zip (h:SatE K n Od room w0 mb fs nx w o m V){k:Int}{G:BF}(hf:(k,G)∈fs){c0:Nat}(hc0:c0=totN n (fun _=>none) G){r:Nat×Nat}(hr:r=if c0=0 then (0,0) else shr n c0) :
 Calls prog 24 #[.pointer (some ⟨mb,0,none⟩),.int .i64 k] w fun x w'=>∃ v,x=.returned (.tuple #[v,.int .i64 (r.2:Nat),.int .i64 0])/\NatV w' v r.1/\AskN K n Od room w0 mb fs nx m o w w' v:=by
 have HA:=Hd (Zio h k (b:=true) (by simp only[true_iff];exact⟨G,hf⟩));have HT:=Zq8 h hf;rw[<- hc0] at HT;have g8:=Hd HT;have hn64:n<=64:=by have:=h.ok.store.small;rw[h.vars] at this;exact this
 obtain⟨P,hP⟩:∃ P:Ending->World->Prop,P=fun x w'=>∃ v,x=.returned (.tuple #[v,.int .i64 (r.2:Nat),.int .i64 0])/\NatV w' v r.1/\AskN K n Od room w0 mb fs nx m o w w' v:=⟨_,rfl⟩
 have g4:=Hd hP;have HR:=Hd hr;rw[<- hP];clear hP h hf hc0 hr HT
 go_enter func24,ntmps24
 go_wp2_with fail;refine HA.out.mono ?_;rintro x w' ⟨rfl,rfl⟩;clear HA;go_wp2_with fail;refine g8.out.mono ?_;rintro x w2 ⟨v,rfl,hv,g3⟩;have g2:=Hd g3;have HV:=Hd g3.ask.vars;have HN:=Hd hv;obtain⟨a,c,rfl,l1,l2,l3⟩:=hv;clear g3 l1 l2 l3 g8
 by_cases hz:c0=0
 ·have HF:Hid (P (.returned (.tuple #[.slice none 0 0,.int .i64 0,.int .i64 0])) w2):=Hd (by
   rw[g4.out];have e:=HR.out;rw[if_pos hz] at e;exact⟨_,by rw[e];rfl,by rw[e];exact Zii w2,g2.out.next (Below.refl _ _) (fun q e=>by cases e)⟩)
  subst hz;rw[Zbn];have g5:=HF;clear HF HN HV g2;go_wp2_with fail;refine bodyPost_ret (results_tmp3 rfl _ _ _) rfl ?_;exact g5.out
 ·have g9:¬ ((digD c0).length:Int)=0:=by
   rw[Zdy hz];simp;omega
  have ga:Hid (r=shr n c0):=Hd (by rw[HR.out,if_neg hz]);obtain⟨L,hL⟩:∃ L,L=(digD c0).length:=⟨_,rfl⟩;rw[<- hL] at g9 HN g2 ⊢;have ge:Hid (Below w2.heap.size w2 w2):=Hd (Below.refl _ _);clear hz hL HR;go_wp2_with fail;refine HV.out.mono ?_;rintro x w' ⟨rfl,rfl⟩;clear HV;go_wp2_with fail
  go_loopw [4,5,8,9] (fun s4 s5 _ _ wr=>∃ j cc:Nat,j<=n/\s5=.int .i64 (j:Int)/\Hid (r=shr j cc)/\Hid (NatV wr s4 cc/\∀ q,s4.ownBlock=some q->(Value.slice a L c).ownBlock=some q\/w2.heap.size<=q)/\Hid (Below w2.heap.size w2 wr)) (fun _ s5 _ _ _=>(intOf s5).toNat)
  case atStart=>exact⟨n,c0,Nat.le_refl _,rfl,ga,Hd ⟨HN.out,fun q e=>.inl e⟩,ge⟩
  case round =>
   obtain⟨j,cc,hj,rfl,HQ,g1,HB⟩:=hrel
   by_cases hp:0<j
   ·have gf:(0:Int)<(j:Int):=by omega
    obtain⟨j,rfl⟩:∃ i,j=i+1:=⟨j-1,by omega⟩
    by_cases g0:cc%2=1
    ·have hh:=Zg0 g1.out.1;rw[decide_eq_true g0] at hh;have HH:=Hd hh;have HF:Hid (∀ w',Below wr.heap.size wr w'->P (.returned (.tuple #[u4,.int .i64 ((j+1:Nat):Int),.int .i64 0])) w'):=Hd fun w' hb=>by
      rw[g4.out];have e:=HQ.out;unfold shr at e;rw[if_pos g0] at e;exact⟨u4,by rw[e],by rw[e];exact g1.out.1.below hb,g2.out.next (HB.out.trans (hb.mono HB.out.size)) g1.out.2⟩
     clear hh g0 g1 HB HQ;go_wp2_with fail;refine HH.out.mono ?_;rintro x w3 ⟨⟨v',rfl,_,_⟩,hb⟩;have g5:=Hd (HF.out w3 hb);clear hb HF HH;go_wp2_with fail;refine bodyPost_ret (results_tmp3 rfl _ _ _) rfl ?_;exact g5.out
    ·have hh:=Zg0 g1.out.1;rw[decide_eq_false g0] at hh;have HH:=Hd hh
     have gb:Hid (r=shr j (cc/2)):=Hd (by
      have e:=HQ.out;unfold shr at e
      rwa [if_neg g0] at e)
     clear hh g0 HQ;go_wp2_with fail;refine HH.out.mono ?_;rintro x w3 ⟨⟨v',rfl,g6,g7⟩,hb⟩;have gc:Hid (NatV w3 v' (cc/2)/\∀ q,v'.ownBlock=some q->(Value.slice a L c).ownBlock=some q\/w2.heap.size<=q):=Hd ⟨g6,fun q e=>.inr (Nat.le_trans HB.out.size (g7 q e))⟩;have gd:=Hd (HB.out.trans (hb.mono HB.out.size));clear g6 g7 hb HB HH;go_wp2_with fail;go_roundw
     case rel=>exact⟨j,cc/2,by omega,by first|rfl|(congr 1<;>omega),gb,gc,gd⟩
     case measure=>simp[intOf]<;>omega
   ·obtain rfl:j=0:=by omega
    have HF:Hid (P (.returned (.tuple #[u4,.int .i64 0,.int .i64 0])) wr):=Hd (by
     rw[g4.out];have e:=HQ.out;unfold shr at e;exact⟨u4,(by rw[e];rfl),(by rw[e];exact g1.out.1),g2.out.next HB.out g1.out.2⟩)
    clear g1 HB HQ;go_wp2_with fail;refine bodyPost_ret (results_tmp3 rfl _ _ _) rfl ?_;exact HF.out
end
open Go.RowKit
def setL (zs:List Int):List (Int×Value):=zs.foldl (fun l z=>putL z (.bool true) l) []
theorem Zyv (zs:List Int)(z:Int):setL (zs++[z])=putL z (.bool true) (setL zs):=by
 unfold setL;rw[List.foldl_append];rfl
theorem Zlk:∀ (zs:List Int) (l:List (Int×Value)),(l.map Prod.fst).Nodup->((zs.foldl (fun l z=>putL z (.bool true) l) l).map Prod.fst).Nodup/\∀ z,getL (zs.foldl (fun l z=>putL z (.bool true) l) l) z=if z∈zs then some (.bool true) else getL l z
 | [],l,h=>⟨h,fun z=>by simp⟩
 | y::r,l,h=>by
   obtain⟨h1,h2⟩:=Zlk r (putL y (.bool true) l) (Zhc h y _);refine⟨h1,fun z=>?_⟩;rw[List.foldl_cons,h2 z,Zk0 h]
   by_cases e1:z∈r
   . rw[if_pos e1,if_pos (List.mem_cons_of_mem _ e1)]
   ·rw[if_neg e1]
    by_cases e2:z=y
    . rw[if_pos e2,if_pos (by rw[e2];exact List.mem_cons_self ..)]
    . rw[if_neg e2,if_neg (by simp[e1,e2])]
theorem Zvr (zs:List Int):((setL zs).map Prod.fst).Nodup:=(Zlk zs [] (by simp)).1
theorem Ztp (zs:List Int)(z:Int):getL (setL zs) z=if z∈zs then some (.bool true) else none:=by
 have:=(Zlk zs [] (by simp)).2 z;exact this
theorem Yak {l:List (Int×Value)}(z:Int):z∈l.map Prod.fst↔(getL l z).isSome=true:=by
 constructor
 ·intro h;cases hg:getL l z with
  | some v=>rfl
  | none =>
    obtain⟨p,hp,e⟩:=List.mem_map.1 h;exact absurd e (Zcw.1 hg p hp)
 . intro h;obtain⟨v,hv⟩:=Option.isSome_iff_exists.1 h;exact List.mem_map.2 ⟨_,Zc5 hv,rfl⟩
def Zlb:Nat->List Int->Nat
 | 0,_=>0
 | n+1,l=>Zlb n l+if (n:Int)∈l then 1 else 0
theorem Zlc {l l':List Int}:∀ n:Nat,(∀ v:Nat,v<n->((v:Int)∈l↔(v:Int)∈l'))->Zlb n l=Zlb n l'
 | 0,_=>rfl
 | n+1,h=>by
   unfold Zlb;rw[Zlc n fun v hv=>h v (by omega)]
   by_cases e:(n:Int)∈l
   . rw[if_pos e,if_pos ((h n (by omega)).1 e)]
   . rw[if_neg e,if_neg (fun c=>e ((h n (by omega)).2 c))]
theorem Zla:∀ (n:Nat) (l:List Int),l.Nodup->(∀ z∈l,0<=z/\z<(n:Int))->l.length=Zlb n l
 | 0,l,_,h=>by
   cases l with
   | nil=>rfl
   | cons a r=>have:=h a (by simp);omega
 | n+1,l,hn,h=>by
   unfold Zlb
   by_cases hm:(n:Int)∈l
   ·have h1:=Zla n (l.erase (n:Int)) (hn.erase _) (fun x hx=>by
     have h2:=h x (List.mem_of_mem_erase hx);have h3:x≠(n:Int):=fun e=>by subst e;exact(List.Nodup.not_mem_erase hn) hx
     omega)
    rw[List.length_erase_of_mem hm] at h1;have h4:Zlb n (l.erase (n:Int))=Zlb n l:=Zlc n fun v hv=>by
     constructor
     . exact List.mem_of_mem_erase
     . exact fun hc=>(List.mem_erase_of_ne (by omega)).2 hc
    have hp:0<l.length:=List.length_pos_of_mem hm;rw[if_pos hm];omega
   ·rw[if_neg hm,Nat.add_zero];refine Zla n l hn (fun x hx=>?_);have h2:=h x hx;have h3:x≠(n:Int):=fun e=>by subst e;exact hm hx
    omega
def Zem (n:Nat)(zs:List Int)(v:Nat):Option Bool:=if v<n/\(v:Int)∉zs then some false else none
theorem Zky {n:Nat}{zs:List Int}(v:Nat)(h:n<=v):Zem n zs v=none:=by
 unfold Zem;rw[if_neg (by omega)]
theorem Zta (N:Nat)(zs:List Int):∀ n,n<=N->nfix n (Zem N zs)+Zlb n zs=n
 | 0,_=>rfl
 | n+1,h=>by
   have ih:=Zta N zs n (by omega);have e1:nfix (n+1) (Zem N zs)=nfix n (Zem N zs)+if (Zem N zs n).isSome then 1 else 0:=rfl
   have e2:Zlb (n+1) zs=Zlb n zs+if (n:Int)∈zs then 1 else 0:=rfl
   by_cases e:(n:Int)∈zs
   ·have e3:Zem N zs n=none:=by unfold Zem;rw[if_neg (fun c=>c.2 e)]
    rw[e1,e2,e3,if_pos e];simp;omega
   ·have e3:Zem N zs n=some false:=by unfold Zem;rw[if_pos ⟨by omega,e⟩]
    rw[e1,e2,e3,if_neg e];simp;omega
theorem Ztq {n:Nat}{zs:List Int}(h:∀ z∈zs,0<=z/\z<(n:Int)):n-(setL zs).length=nfix n (Zem n zs)/\(setL zs).length<=n:=by
 have hm:∀ z,z∈(setL zs).map Prod.fst↔z∈zs:=fun z=>by
  rw[Yak,Ztp]
  by_cases e:z∈zs
  . rw[if_pos e];simp[e]
  . rw[if_neg e];simp[e]
 have h1:=Zla n _ (Zvr zs) (fun z hz=>h z ((hm z).1 hz));rw[List.length_map,Zlc n (fun v _=>hm v)] at h1;have h2:=Zta n zs n (Nat.le_refl _);omega
def cntE (n:Nat)(G:BF)(zs:List Int):Int:=if ∀ z∈zs,0<=z/\z<(n:Int) then if ∀ v:Nat,v<n->Zbp n G v=true->(v:Int)∈zs then 0 else 1 else 9
def cntV (n:Nat)(G:BF)(zs:List Int):Nat:=(tabB n fun σ=>G σ&&agF n (Zem n zs) σ).count true
open Go.RowKit
def supL (n:Nat)(F:BF)(k:Nat):List Int:=((List.range k).filter (Zbp n F)).map fun v:Nat=>(v:Int)
theorem Zq0 (n:Nat)(F:BF)(k:Nat):supL n F (k+1)=supL n F k++(if Zbp n F k then [(k:Int)] else []):=by
 unfold supL;rw[List.range_succ,List.filter_append,List.map_append];congr 1;simp only[List.filter_cons,List.filter_nil];split<;>rfl
theorem Ztv (n:Nat)(F:BF)(k:Nat):(supL n F k).length<=k:=by
 unfold supL;rw[List.length_map];exact Nat.le_trans (List.length_filter_le _ _) (by simp)
theorem OwnI.base {w:World}{b b':Nat}{v:Value}{zs:List Int}(h:OwnI w b v zs)(hb:b'<=b):OwnI w b' v zs:=by
 obtain⟨h1,h2⟩:=h;exact⟨h1,h2.imp id fun⟨g,cap,cur,e,hg,r⟩=>⟨g,cap,cur,e,by omega,r⟩⟩
section
variable {K:Law}{n:Nat}{Od:List Nat->Prop}{room:Nat}{w0 w:World}{mb:Nat}{fs:List (Int×BF)}{nx:Int}{o:Own}{m:ManD}{V:Nat->BF}
theorem Zsh (h:SatE K n Od room w0 mb fs nx w o m V){k:Int}{F:BF}(hf:(k,F)∈fs) :
 Calls prog 83 #[.pointer (some ⟨mb,0,none⟩),.int .i64 k] w fun x w'=>∃ v,x=.returned (.tuple #[v,.int .i64 0])/\OwnI w' w.heap.size v (supL n F n)/\AskV K n Od room w0 mb fs nx m o w w':=by
 have hw0:=h.chg.size;obtain⟨w1,g0⟩:∃ w1,w1=w.alloc (.cells #[.int .i64 k] 3):=⟨_,rfl⟩;have g5:Below w.heap.size w w1:=by rw[g0];exact Zaf _ _
 have ge:w1.heap.size=w.heap.size+1:=by rw[g0];simp
 have g1:w1.heap[w.heap.size]?=some (.cells #[.int .i64 k] 3 (0,0)):=by rw[g0];exact heap_alloc_new _ _
 have gb:ArgI w0 w1 o (some ⟨w.heap.size,0,none⟩) [k]:=⟨⟨by simp,fun i hi=>by
  obtain rfl:i=0:=by simpa using hi
  exact⟨w.heap.size,0,rfl,cell1 g1⟩⟩,fun x hx=>by cases hx;exact⟨by show w.heap.size<w1.heap.size;omega,hw0,h.lt.none (Nat.le_refl _)⟩⟩
 have hS:=Ya3 (c:=1) (Fs:=[F]) (h.below g5) gb rfl (fun i hi=>by
  obtain rfl:i=0:=by simpa using hi
  exact hf)
 have HS:Hid (Calls prog 135 #[.pointer (some ⟨mb,0,none⟩),.slice (some ⟨w.heap.size,0,none⟩) 1 1] (w.alloc (.cells #[.int .i64 k] 3)) fun x w'=>∃ nt cs,x=.returned (.tuple #[.map (some nt),.int .i64 0])/\Za5 w' nt (Value.int .i64) (ctL cs)/\Zzr n m.d.vars [F] cs/\AskV K n Od room w0 mb fs nx m o w w'/\w.heap.size<=w'.heap.size/\Calls prog 69 #[.pointer (some ⟨mb,0,none⟩)] w' fun x w''=>x=.returned (.int .i64 (n:Nat))/\w'=w''):=Hd (by
  rw[<- g0];refine hS.mono ?_;rintro x w' ⟨nt,cs,rfl,h1,h2,o',m',V',h3,h4,h5,h6⟩
  exact⟨nt,cs,rfl,h1,h2,⟨o',m',V',(ChgX.of_below g5 o NoB).trans h3 (fun _ _ e=>e),h4,h5,h6⟩,by have:=h3.size;omega,by
   have hv:=Zdw h6.is;rw[h6.vars] at hv;exact hv⟩)
 have gk:n<=64:=by have:=h.ok.store.small;rw[h.vars] at this;exact this
 obtain⟨P,hP⟩:∃ P:Ending->World->Prop,P=fun x w'=>∃ v,x=.returned (.tuple #[v,.int .i64 0])/\OwnI w' w.heap.size v (supL n F n)/\AskV K n Od room w0 mb fs nx m o w w':=⟨_,rfl⟩
 have gc:Hid (∀ w1 w' v,AskV K n Od room w0 mb fs nx m o w w1->Below w1.heap.size w1 w'->OwnI w' w1.heap.size v (supL n F n)->w.heap.size<=w1.heap.size->P (.returned (.tuple #[v,.int .i64 0])) w'):=Hd fun w1 w' v h1 h2 h3 h4=>by
  rw[hP];exact⟨v,rfl,h3.base h4,h1.below h2⟩
 rw[<- hP];clear hP gb hS hw0 g0 g5 ge g1 h hf
 go_enter func83,ntmps83
 go_wp2_with fail;refine HS.out.mono ?_;rintro x w2 ⟨nt,cs,rfl,g9,hv,g6,g8,g4⟩;have gd:=Hd g6;have HV:=Hd g4;have gi:=Hd g9;have HZ:=Hd g8;have HD:=Hd hv.dep;clear g6 g4 g9 g8 hv HS;go_wp2_with fail;refine HV.out.mono ?_;rintro x w3 ⟨rfl,rfl⟩;clear HV;go_wp2_with fail
 go_loopw [4,7,20] (fun s4 _ s20 wr=>∃ j:Nat,j<=n/\s20=.int .i64 j/\Hid (OwnI wr w2.heap.size s4 (supL n F j))/\Hid (Below w2.heap.size w2 wr)) (fun _ _ s20 _=>n-(intOf s20).toNat)
 case atStart=>exact⟨0,by omega,rfl,Hd (Zfx _ _),Hd (Below.refl _ _)⟩
 case round =>
  obtain⟨j,hj,rfl,HO,g3⟩:=hrel
  by_cases gl:j<n
  ·have gm:(j:Int)<(n:Int):=by omega
   have ga:=Zpe (gi.out.below g3.out) j;obtain⟨g,hg⟩:∃ g,g=getC j cs:=⟨_,rfl⟩;rw[<- hg] at ga;have g2:=HD.out j;rw[<- hg] at g2;have gj:=Ztv n F j
   by_cases hp:0<g
   ·have gf:(0:Int)<(g:Int):=by omega
    have hh:Zbp n F j=true:=by simpa using g2.1 hp
    have g7:Hid (supL n F (j+1)=supL n F j++[(j:Int)]):=Hd (by rw[Zq0,hh];rfl);clear hg g2 hh;go_wp2_with (at_builtin;refine Zbc _ rfl _ _ rfl w2.heap.size w2 _ (supL n F j) (j:Int) rfl rfl rfl rfl (by exact HO.out) (by omega) (by exact g3.out.size) (by exact g3.out) ?_;intro v' wy h1 h2 h3 h4);have gh:Hid (OwnI wy w2.heap.size v' (supL n F (j+1))):=Hd (by rw[g7.out];exact h1);have HB2:Hid (Below w2.heap.size w2 wy):=Hd h2;clear h1 h2 h3 h4 ga;go_roundw
    case rel=>exact⟨j+1,by omega,by go_num,gh,HB2⟩
    case measure=>simp[intOf];omega
   ·have gf:¬ (0:Int)<(g:Int):=by omega
    have hh:Zbp n F j=false:=by
     cases e:Zbp n F j with
     | false=>rfl
     | true=>exact absurd (g2.2 ⟨F,by simp,e⟩) hp
    have g7:Hid (supL n F (j+1)=supL n F j):=Hd (by rw[Zq0,hh];simp);clear hg g2 hh;go_wp2_with fail;go_roundw
    case rel=>exact⟨j+1,by omega,by go_num,by rw[g7.out];exact HO,g3⟩
    case measure=>simp[intOf];omega
  ·obtain rfl:j=n:=by omega
   have HF:=Hd (fun v hv=>gc.out w2 wr v gd.out g3.out hv HZ.out);have gg:=Hd HO.out;clear HO;go_wp2_with fail;exact HF.out _ gg.out
end
open Go.RowKit
theorem Zny {w:World}{a:Option Addr}{c:Nat}{zs:List Int}(hz:Zau w a zs){g:Nat}{caps:Array Value}{p:Int->Bool}(eg:∀ args w,(callFunc g args).run prog w=.ok (.enter g args) w)
 (hp:∀ z,Calls prog g (#[.int .i64 z]++caps) w fun x w'=>x=.returned (.bool (p z))/\w=w') :
 Calls prog 136 #[.slice a zs.length c,.func (.func g) #[] caps] w fun x w'=>(∃ i:Int,x=.returned (.int .i64 i)/\decide (i>=0)=zs.any p)/\w=w':=by
 obtain⟨P,hP⟩:∃ P:Ending->World->Prop,P=fun x w'=>(∃ i:Int,x=.returned (.int .i64 i)/\decide (i>=0)=zs.any p)/\w=w':=⟨_,rfl⟩
 have g3:=Hd hP;have HCK:Hid (∀ k,k<zs.length->∃ b off,a=some ⟨b,off,none⟩/\w.cell? ⟨b,off+k,none⟩=some (.int .i64 (at0 zs k))):=Hd hz.cells;have hl:=hz.len;have HP:=Hd hp;rw[<- hP];clear hP hz hp
 go_enter func136,ntmps136
 go_wp2_with fail
 go_loopw [4,5,8] (fun _ _ s8 wr=>∃ k:Nat,k<=zs.length/\s8=.int .i64 (k:Int)/\Hid (w=wr)/\Hid (∀ j,j<k->p (at0 zs j)=false)) (fun _ _ s8 _=>zs.length-(intOf s8).toNat)
 case atStart=>exact⟨0,Nat.zero_le _,rfl,Hd rfl,Hd (fun j hj=>by omega)⟩
 case round =>
  obtain⟨k,hk,rfl,HW,HQ⟩:=hrel;have hw:=HW.out;subst hw
  by_cases g2:k<zs.length
  ·have g6:(k:Int)<(zs.length:Int):=by omega
   obtain⟨b,off,rfl,ck⟩:=HCK.out k g2;obtain⟨z,g1⟩:∃ z,z=at0 zs k:=⟨_,rfl⟩;rw[<- g1] at ck;cases g0:p z with
   | true =>
     have hc:=HP.out z;rw[g0] at hc;have HC:=Hd hc
     have HF:Hid (P (.returned (.int .i64 (k:Int))) w):=Hd (by
      rw[g3.out];refine⟨⟨_,rfl,?_⟩,rfl⟩;rw[decide_eq_true (by omega)];refine(List.any_eq_true.2 ⟨z,?_,g0⟩).symm;rw[g1,Zbw g2];exact List.getElem_mem g2)
     clear hc g0 g1 HP HCK HQ;go_wp2_with fail;refine HC.out.mono ?_;rintro x w' ⟨rfl,rfl⟩;go_wp2_with fail;exact HF.out
   | false =>
     have hc:=HP.out z;rw[g0] at hc;have HC:=Hd hc;have g4:Hid (∀ j,j<k+1->p (at0 zs j)=false):=Hd fun j hj=>by
      rcases(show j<k\/j=k by omega) with e|rfl
      . exact HQ.out j e
      . rw[<- g1];exact g0
     clear hc g0 g1 HP HCK HQ;go_wp2_with fail;refine HC.out.mono ?_;rintro x w' ⟨rfl,rfl⟩;go_wp2_with fail;go_roundw
     case rel=>exact⟨k+1,by omega,by rw[show ((k+1:Nat):Int)=(k:Int)+1 by omega],Hd trivial,g4⟩
     case measure=>simp[intOf];omega
  ·obtain rfl:k=zs.length:=by omega
   have g5:¬ (zs.length:Int)<(zs.length:Int):=by omega
   have HF:Hid (P (.returned (.int .i64 (-1))) w):=Hd (by
    rw[g3.out];refine⟨⟨_,rfl,?_⟩,rfl⟩;rw[show zs.any p=false from ?_]
    . rfl
    . rw[List.any_eq_false];intro z hz;obtain⟨i,hi,rfl⟩:=List.getElem_of_mem hz;have:=HQ.out i hi;rw[Zbw hi] at this;simp[this])
   clear HP HCK HQ;go_wp2_with fail;exact HF.out
theorem Zj1 {w:World}{a:Option Addr}{c:Nat}{zs:List Int}(hz:Zau w a zs){g:Nat}{caps:Array Value}{p:Int->Bool}(eg:∀ args w,(callFunc g args).run prog w=.ok (.enter g args) w)
 (hp:∀ z,Calls prog g (#[.int .i64 z]++caps) w fun x w'=>x=.returned (.bool (p z))/\w=w') :
 Calls prog 84 #[.slice a zs.length c,.func (.func g) #[] caps] w fun x w'=>x=.returned (.bool (zs.any p))/\w=w':=by
 have HI:=Hd (Zny (c:=c) hz eg hp);clear hz eg hp
 go_enter func84,ntmps84
 go_wp2_with fail;refine HI.out.mono ?_;rintro x w' ⟨⟨i,rfl,hi⟩,rfl⟩;have HF:=Hd hi;clear hi HI;go_wp2_with fail;go_ret;refine⟨?_,rfl⟩;rw[<- HF.out];rfl
theorem Znr (args:Array Value)(w:World):(callFunc 85 args).run prog w=.ok (.enter 85 args) w:=enters_of func85 (by kernel_rfl) rfl args w
theorem Zuo {w:World}{bs sb:Nat}{l:List (Int×Value)}{zs:List Int}(hc:w.cell? ⟨bs,0,none⟩=some (.map (some sb)))(hm:Za5 w sb (Value.int .i64) l)(hl:∀ z,getL l z=if z∈zs then some (.bool true) else none)(z:Int) :
 Calls prog 85 #[.int .i64 z,.pointer (some ⟨bs,0,none⟩)] w fun x w'=>x=.returned (.bool (!decide (z∈zs)))/\w=w':=by
 have g0:=hm.lookup Zn1 underlying127 zeroValue4 z false;rw[hl z] at g0
 by_cases e:z∈zs
 ·rw[if_pos e] at g0;rw[decide_eq_true e];have g1:(Instr.lookup 127 (.map (some sb)) (.int .i64 z) false).run prog w=.ok (.bool true) w:=g0;clear hm hl g0 e
  go_enter func85,ntmps85
  go_wp2_with fail;go_ret;exact⟨rfl,rfl⟩
 ·rw[if_neg e] at g0;rw[decide_eq_false e];have g1:(Instr.lookup 127 (.map (some sb)) (.int .i64 z) false).run prog w=.ok (.bool false) w:=g0;clear hm hl g0 e
  go_enter func85,ntmps85
  go_wp2_with fail;go_ret;exact⟨rfl,rfl⟩
open Go.RowKit
theorem Zxf {n:Nat}{G:BF}(hd:DepF n G){v:Nat}(h:Zbp n G v=false):Indep G v:=by
 have hc:∀ b,DepF n (cofF G v b):=fun b ρ ρ' he=>by
  rw[Zdj,Zdj];refine hd _ _ fun i hi=>?_
  unfold upd;split
  . rfl
  . exact he i hi
 refine Zic.2 (Zy5 (hc false) (hc true) ?_);unfold Zbp at h;simpa using h
theorem Ycy {n:Nat}{G:BF}(hd:DepF n G){zs:List Int}(h1:∀ z∈zs,0<=z/\z<(n:Int))(h2:∀ v:Nat,v<n->Zbp n G v=true->(v:Int)∈zs) :
 totN n (fun _=>none) G/2^(n-(setL zs).length)=cntV n G zs:=by
 have e:totN n (fun _=>none) G=totN n (Zem n zs) G:=by
  unfold totN;rw[Zuv (n:=n) (fx:=Zem n zs) (fun v hv=>Zky v hv) (fun v hv hs=>?_)]
  . rfl
  ·refine Zxf hd ?_;cases hh:Zbp n G v with
   | false=>rfl
   | true =>
     have:=h2 v hv hh;unfold Zem at hs;rw[if_neg (fun c=>c.2 this)] at hs;cases hs
 rw[e,(Ztq h1).1,Zza n G _ (fun v hv=>Zky v hv)];rfl
section
variable {K:Law}{n:Nat}{Od:List Nat->Prop}{room:Nat}{w0 w w1 w2:World}{mb:Nat}{fs:List (Int×BF)}{nx:Int}{o:Own}{m:ManD}{V:Nat->BF}
theorem AskN.trans {v:Value}{o1:Own}{m1:ManD}(h1:ChgX NoB o o1 w w1)(hw:m1.waits=m.waits)(hv:m1.d.vars=m.d.vars)(h:AskN K n Od room w0 mb fs nx m1 o1 w1 w2 v):AskN K n Od room w0 mb fs nx m o w w2 v:=by
 obtain⟨o',m',V',q1,q2,q3,q4,q5⟩:=h;exact⟨o',m',V',h1.trans q1 (fun _ _ e=>e),q2.trans hw,q3.trans hv,q4,q5⟩
theorem Zoj (h:SatE K n Od room w0 mb fs nx w o m V){k:Int}{G:BF}(hf:(k,G)∈fs){zs:List Int}{a:Option Addr}{c:Nat}(hz:Zau w a zs) :
 Calls prog 30 #[.pointer (some ⟨mb,0,none⟩),.int .i64 k,.slice a zs.length c] w fun x w'=>∃ v,x=.returned (.tuple #[v,.int .i64 (cntE n G zs)])/\NatV w' v (if cntE n G zs=0 then cntV n G zs else 0)/\AskN K n Od room w0 mb fs nx m o w w' v:=by
 have HA:=Hd (Zio h k (b:=true) (by simp only[true_iff];exact⟨G,hf⟩));have hn64:n<=64:=by have:=h.ok.store.small;rw[h.vars] at this;exact this
 have hl:=hz.len;obtain⟨sb,g8⟩:∃ sb,sb=w.heap.size:=⟨_,rfl⟩;obtain⟨w1,g3⟩:∃ w1,w1=(w.alloc (.map #[] 0)).alloc (.cells #[.map (some w.heap.size)] 127):=⟨_,rfl⟩;have gw:Below w.heap.size w w1:=by rw[g3];exact(Zaf _ _).alloc (by simp) _
 have gm:Za5 w1 sb (Value.int .i64) (setL (zs.take 0)):=by
  rw[g3,g8];exact(Zff w _).below (Zaf _ _)
 have gb:w1.heap[sb+1]?=some (.cells #[.map (some sb)] 127 (0,0)):=by
  have:=heap_alloc_new (w.alloc (.map #[] 0)) (.cells #[.map (some w.heap.size)] 127);rw[World.size_alloc] at this;rw[g3,g8];exact this
 obtain⟨I,hI⟩:∃ I:Nat->World->Prop,I=fun i wr=>Za5 wr sb (Value.int .i64) (setL (zs.take i))/\wr.cell? ⟨sb+1,0,none⟩=some (.map (some sb))/\Below w.heap.size w wr/\∀ z∈zs.take i,0<=z/\z<(n:Int):=⟨_,rfl⟩
 have gj:Hid (I 0 w1):=Hd (by rw[hI];exact⟨gm,cell1 gb,gw,by simp⟩);obtain⟨P,hP⟩:∃ P:Ending->World->Prop,P=fun x w'=>∃ v,x=.returned (.tuple #[v,.int .i64 (cntE n G zs)])/\NatV w' v (if cntE n G zs=0 then cntV n G zs else 0)/\AskN K n Od room w0 mb fs nx m o w w' v:=⟨_,rfl⟩
 have HX:Hid (∀ i wr,i<zs.length->I i wr->wr.cell? ⟨sb+1,0,none⟩=some (.map (some sb))/\(∃ b off,a=some ⟨b,off,none⟩/\wr.cell? ⟨b,off+i,none⟩=some (.int .i64 (at0 zs i)))/\Calls prog 69 #[.pointer (some ⟨mb,0,none⟩)] wr (fun x w''=>x=.returned (.int .i64 (n:Nat))/\wr=w'') /\
  (0<=at0 zs i/\at0 zs i<(n:Int)->∃ w3,(Instr.mapUpdate 127 (.map (some sb)) (.int .i64 (at0 zs i)) (.bool true)).run prog wr=.ok () w3/\I (i+1) w3) /\
  (¬ (0<=at0 zs i/\at0 zs i<(n:Int))->P (.returned (.tuple #[.slice none 0 0,.int .i64 9])) wr)):=by
  rw[hI];refine Hd fun i wr hi hh=>?_
  obtain⟨h1,h2,h3,h4⟩:=hh;have hs:=h.below h3;refine⟨h2,?_,?_,fun hr=>?_,fun hr=>?_⟩
  . obtain⟨b,off,e,hc⟩:=hz.cells i hi;exact⟨b,off,e,(h3.cell (p:=⟨b,off+i,none⟩) (Zab hc)).trans hc⟩
  . have hv:=Zdw hs.is;rw[hs.vars] at hv;exact hv
  ·obtain⟨w3,r1,r2,r3⟩:=h1.update Zn1 underlying127 (at0 zs i) (.bool true);have hw:Wr (· = sb) wr w3:=Wr.of_grown r3 _ (fun k e=>by cases e;rfl);have et:zs.take (i+1)=zs.take i++[at0 zs i]:=by rw[List.take_add_one,getElem?_at0 hi];rfl
   refine⟨w3,r1,?_,?_,?_,?_⟩
   . rw[et,Zyv];exact r2
   . exact(World.cell?_of_block (w:=wr) (a:=⟨sb+1,0,none⟩) (hw.keep (sb+1) (Zab h2) (fun e=>by have e:sb+1=sb:=e;omega))).trans h2
   . exact h3.trans (hw.below (fun k e=>by have e:k=sb:=e;omega) h3.size)
   ·intro z gn;rw[et] at gn;rcases List.mem_append.1 gn with e|e
    . exact h4 z e
    . simp at e;rw[e];exact hr
  ·rw[hP];have he:cntE n G zs=9:=by
    unfold cntE;rw[if_neg];intro g0;exact hr (g0 _ (by rw[Zbw hi];exact List.getElem_mem hi))
   refine⟨.slice none 0 0,by rw[he],?_,AskN.of h h3 0⟩;rw[he,if_neg (by decide)];exact Zii wr
 have g6:Hid (∀ wr,I zs.length wr->Calls prog 83 #[.pointer (some ⟨mb,0,none⟩),.int .i64 k] wr fun x w5=>∃ a5 c5 bb,x=.returned (.tuple #[.slice a5 (supL n G n).length c5,.int .i64 0]) /\
  Calls prog 84 #[.slice a5 (supL n G n).length c5,.func (.func 85) #[] #[.pointer (some ⟨sb+1,0,none⟩)]] w5 (fun x w'=>x=.returned (.bool bb)/\w5=w') /\
  (bb=true->P (.returned (.tuple #[.slice none 0 0,.int .i64 1])) w5) /\
  (bb=false->Calls prog 70 #[.pointer (some ⟨mb,0,none⟩),.int .i64 k,.map none] w5 fun x w6=>∃ v6,x=.returned (.tuple #[v6,.int .i64 0]) /\
   ∀ wz,Below w6.heap.size w6 wz->wz.cell? ⟨sb+1,0,none⟩=some (.map (some sb))/\Za5 wz sb (Value.int .i64) (setL zs)/\Calls prog 69 #[.pointer (some ⟨mb,0,none⟩)] wz (fun x w''=>x=.returned (.int .i64 (n:Nat))/\wz=w'') /\
    IntKind.i64.wrap ((n:Int)-((setL zs).length:Nat))=(n:Int)-((setL zs).length:Nat) /\
    (Calls prog 71 #[v6,.int .i64 ((n:Int)-((setL zs).length:Nat))] wz fun x w9=>∃ v9,x=.returned v9/\(w9.cell? ⟨sb+1,0,none⟩=some (.map (some sb))/\Za5 w9 sb (Value.int .i64) (setL zs))/\P (.returned (.tuple #[v9,.int .i64 0])) w9))):=by
  rw[hI];refine Hd fun wr hh=>?_
  obtain⟨h1,h2,h3,h4⟩:=hh;rw[List.take_length] at h1 h4;have hs:=h.below h3;refine(Zsh hs hf).mono ?_;rintro x w5 ⟨v5,rfl,gA,o5,m5,V5,g1,go,gq,gt⟩;obtain⟨a5,c5,rfl,gC,_⟩:=gA.sliceIs (by have:=Ztv n G n;omega);have g9:o sb=none:=h.lt.none (by omega);have ge:o (sb+1)=none:=h.lt.none (by omega);have gf:Za5 w5 sb (Value.int .i64) (setL zs):=h1.keepB (g1.block sb h1.lt g9 (fun e=>e));have gi:w5.cell? ⟨sb+1,0,none⟩=some (.map (some sb)):=g1.cell h2 ge (fun e=>e);have gl:AskN K n Od room w0 mb fs nx m o w w5 (.slice none 0 0):=⟨o5,m5,V5,(ChgX.of_below h3 o NoB).trans g1 (fun _ _ e=>e),go,gq,gt,fun q e=>by cases e⟩;obtain⟨bb,gv⟩:∃ bb,bb=(supL n G n).any fun z => !decide (z∈zs):=⟨_,rfl⟩
  have gg:bb=true↔¬ ∀ v:Nat,v<n->Zbp n G v=true->(v:Int)∈zs:=by
   rw[gv,List.any_eq_true];constructor
   . rintro⟨z,q1,q2⟩ g0;unfold supL at q1;obtain⟨v,q3,rfl⟩:=List.mem_map.1 q1;obtain⟨q4,q5⟩:=List.mem_filter.1 q3;have:=g0 v (List.mem_range.1 q4) q5;simp[this] at q2
   ·intro g0;refine Classical.byContradiction fun g9=>g0 fun v hv hh=>?_
    refine Classical.byContradiction fun gJ=>g9 ⟨(v:Int),List.mem_map.2 ⟨v,List.mem_filter.2 ⟨List.mem_range.2 hv,hh⟩,rfl⟩,by simp[gJ]⟩
  refine⟨a5,c5,bb,rfl,?_,fun gL=>?_,fun gM=>?_⟩
  . rw[gv];exact Zj1 gC Znr (fun z=>Zuo gi gf (fun z=>Ztp zs z) z)
  ·rw[hP];have he:cntE n G zs=1:=by
    unfold cntE;rw[if_pos h4,if_neg (gg.1 gL)]
   refine⟨.slice none 0 0,by rw[he],?_,gl⟩;rw[he,if_neg (by decide)];exact Zii w5
  ·have g0:∀ v:Nat,v<n->Zbp n G v=true->(v:Int)∈zs:=Classical.byContradiction fun hc=>by
    have:=gg.2 hc;rw[gM] at this;cases this
   have he:cntE n G zs=0:=by
    unfold cntE;rw[if_pos h4,if_pos g0]
   refine(Zq8 gt hf).mono ?_;rintro x w6 ⟨v6,rfl,gG,o6,m6,V6,ga,gF,gz,gs,gI⟩;refine⟨v6,rfl,fun wz g4=>?_⟩;have gB:o5 sb=none:=g1.none' h1.lt g9;have gd:o5 (sb+1)=none:=g1.none' (Zab h2) ge;have gu:Za5 wz sb (Value.int .i64) (setL zs):=(gf.keepB (ga.block sb gf.lt gB (fun e=>e))).below g4;have g5:wz.cell? ⟨sb+1,0,none⟩=some (.map (some sb)):=(g4.cell (p:=⟨sb+1,0,none⟩) (Zab (ga.cell gi gd (fun e=>e)))).trans (ga.cell gi gd (fun e=>e));have gr:=gs.below g4;obtain⟨gX,gV⟩:=Ztq h4;refine⟨g5,gu,?_,IntWalk.i64_in _ ⟨by omega,by omega⟩,?_⟩
   . have hv:=Zdw gr.is;rw[gr.vars] at hv;exact hv
   . rw[show (n:Int)-((setL zs).length:Nat)=((n-(setL zs).length:Nat):Int) by omega];refine(Zxe (gG.below g4) (by omega)).mono ?_;rintro x w9 ⟨⟨v9,rfl,gp,gH⟩,gh⟩;refine⟨v9,rfl,⟨(gh.cell (p:=⟨sb+1,0,none⟩) (Zab g5)).trans g5,gu.below gh⟩,?_⟩;rw[hP];rw[Ycy (h.dep hf) h4 g0] at gp;refine⟨v9,by rw[he],by rw[he,if_pos rfl];exact gp,?_⟩;have gk:AskN K n Od room w0 mb fs nx m5 o5 w5 w6 v6:=⟨o6,m6,V6,ga,gF,gz,gs,gI⟩;exact((AskN.trans ((ChgX.of_below h3 o NoB).trans g1 (fun _ _ e=>e)) go gq gk).next g4 (fun q e=>.inl e)).next gh gH
 have HW1:Hid (_=w1):=Hd g3.symm;have gN:=Hd g8;have gU:∀ (fn:Fn) (first cap:Array Value) (w:World),(Instr.makeFunc fn first cap).run prog w=.ok (.func fn first cap) w:=fun _ _ _ _=>rfl
 have gT:=fun t w=>Zc4 (P:=prog) w t
 rw[<- hP];clear hP hI h hf hz g8 g3 gw gm gb
 go_enter func30,ntmps30
 go_wp2_with fail;refine HA.out.mono ?_;rintro x w' ⟨rfl,rfl⟩;clear HA;go_upto_region 5 with fail;rw[HW1.out,<- gN.out];clear HW1;go_wp2_with fail
 go_loopw [6,7,11,22] (fun _ _ _ s22 wr=>∃ i:Nat,i<=zs.length/\s22=.int .i64 (i:Int)/\Hid (I i wr)) (fun _ _ _ s22 _=>zs.length-(intOf s22).toNat)
 case atStart=>exact⟨0,Nat.zero_le _,rfl,gj⟩
 case round =>
  obtain⟨i,hi,rfl,HI⟩:=hrel
  by_cases gK:i<zs.length
  ·have gY:(i:Int)<(zs.length:Int):=by omega
   obtain⟨cbx,⟨b,off,rfl,ck⟩,hv,g7,g2⟩:=HX.out i wr gK HI.out;have HV:=Hd hv;obtain⟨z,hz⟩:∃ z,z=at0 zs i:=⟨_,rfl⟩;rw[<- hz] at ck g7 g2;clear hv HX g6 HI gj hz
   by_cases hr:0<=z/\z<(n:Int)
   ·obtain⟨w3,gP,gx⟩:=g7 hr;have gO:=Hd gx;have gE:¬ z<0:=by omega
    have gD:¬ z>=(n:Int):=by omega
    clear gx g7 g2 hr;go_wp2_with fail;refine HV.out.mono ?_;rintro x w' ⟨rfl,rfl⟩;go_wp2_with fail;go_roundw
    case rel=>exact⟨i+1,by omega,by rw[show ((i+1:Nat):Int)=(i:Int)+1 by omega],gO⟩
    case measure=>simp[intOf];omega
   ·have HF:=Hd (g2 hr);clear g7 g2
    by_cases gE:z<0
    ·clear hr;go_wp2_with fail
     first|exact HF.out|exact bodyPost_ret (results_tmp2 rfl _ _ _) rfl HF.out
    ·have gD:z>=(n:Int):=by omega
     clear hr;go_wp2_with fail;refine HV.out.mono ?_;rintro x w' ⟨rfl,rfl⟩;go_wp2_with fail
     first|exact HF.out|exact bodyPost_ret (results_tmp2 rfl _ _ _) rfl HF.out
  ·obtain rfl:i=zs.length:=by omega
   have gQ:¬ (zs.length:Int)<(zs.length:Int):=by omega
   have HS:=Hd (g6.out wr HI.out);clear HX g6 HI gj;go_wp2_with fail;refine HS.out.mono ?_;rintro x w5 ⟨a5,c5,bb,rfl,q1,q2,q3⟩;have HC:=Hd q1;clear q1 HS;cases bb with
   | true =>
     have HF:=Hd (q2 rfl);clear q2 q3;go_wp2_with fail;refine HC.out.mono ?_;rintro x w' ⟨rfl,rfl⟩;go_wp2_with fail
     first|exact HF.out|exact bodyPost_ret (results_tmp2 rfl _ _ _) rfl HF.out
   | false =>
     have HT:=Hd (q3 rfl);clear q2 q3;go_wp2_with fail;refine HC.out.mono ?_;rintro x w' ⟨rfl,rfl⟩;clear HC;go_wp2_with fail;refine HT.out.mono ?_;rintro x w6 ⟨v6,rfl,q⟩;obtain⟨wz,gc⟩:∃ wz,wz=w6.drew:=⟨_,rfl⟩;have gy:=Hd gc;obtain⟨r1,r2,r3,gS,r4⟩:=q wz (by rw[gc];exact Zag w6 1);have HV:=Hd r3;have HH:=Hd r4;clear r3 r4 q gc HT;go_upto_region 20 with fail;refine Zfw [0,1,3,2,4,5,6,7,8] (fun W'=>W'.cell? ⟨sb+1,0,none⟩=some (.map (some sb))/\Za5 W' sb (Value.int .i64) (setL zs)) (fun ch w'=>False) (fun c a w hd h=>h.elim) (by kernel_rfl) (by rw[<- gy.out];exact⟨r1,r2⟩) ?_;rw[<- gy.out]
     iterate 3
      refine Zea rfl rfl (by kernel_rfl) ?_;apply Exists.intro;refine⟨fun w' hw=>?_,?_⟩
      . obtain⟨q1,q2⟩:=hw;go_simp;rfl
      simp only[Zai]
     refine Zbr (R1:=fun u w'=>u=.int .i64 (n:Nat)/\wz=w') rfl (by kernel_rfl) rfl rfl (by go_simp) (HV.out.mono fun x w' h=>⟨_,h.1,rfl,h.2⟩) (by rintro u w' ⟨_,rfl⟩;exact⟨r1,r2⟩) ?_;rintro u w'-⟨rfl,rfl⟩;simp only[Zai]
     iterate 2
      refine Zea rfl rfl (by kernel_rfl) ?_;apply Exists.intro;refine⟨fun w' hw=>?_,?_⟩
      ·obtain⟨q1,q2⟩:=hw;have gR:=fun ty=>q2.size (P:=prog) underlying127 ty
       go_simp;rfl
      simp only[Zai]
     refine Zbr (R1:=fun u w'=>(w'.cell? ⟨sb+1,0,none⟩=some (.map (some sb))/\Za5 w' sb (Value.int .i64) (setL zs))/\P (.returned (.tuple #[u,.int .i64 0])) w') rfl (by kernel_rfl) rfl rfl (by go_simp) (HH.out.mono fun x w' ⟨v9,e,q1,q2⟩=>⟨v9,e,q1,q2⟩) (by rintro u w' ⟨q,_⟩;exact q) ?_;rintro u w9-⟨_,hp⟩;have HF:=Hd hp;clear hp r1 r2 HH HV;simp only[Zai]
     iterate 2
      refine Zea rfl rfl (by kernel_rfl) ?_;apply Exists.intro;refine⟨fun w' hw=>?_,?_⟩
      . go_simp;rfl
      simp only[Zai]
     refine Zld (by kernel_rfl) ?_;go_wp2_with fail
     first|exact HF.out|exact bodyPost_ret (results_tmp2 rfl _ _ _) rfl HF.out
end
open Go.RowKit
end Go.Proofs.YtgmbklaolcmljaaGreat

namespace Go.Proofs.YtgmbklaolcmljaaGreat
open Go.Proofs.Tryz
open Go.RowKit
open Go.RowKit
open Go.RowKit
open Go.RowKit
def StF (K:Law)(n room:Nat)(w0:World)(mb:Nat)(fs:List (Int×BF))(nx:Int)(ws0:List Ev)(rs:List (Value×BF))(W:World):Prop:=∃ o m V,m.waits <:+ ws0/\SatE K n (fun _=>True) room w0 mb fs nx W o m V/\∀ p∈rs,LawF W o p.1 (tabB n p.2)
section
variable {K:Law}{n room:Nat}{w0 w W w':World}{mb:Nat}{fs fs':List (Int×BF)}{nx nx':Int}{o:Own}{m:ManD}{V:Nat->BF}{ws0:List Ev}{rs:List (Value×BF)}{f:Nat}{args:Array Value}
theorem StF.go {R:Ending->Prop}(h:StF K n room w0 mb fs nx ws0 rs w)(hc:∀ o m V,m.waits <:+ ws0->SatE K n (fun _=>True) room w0 mb fs nx w o m V->Calls prog f args w fun x w'=>R x/\Goes K n (fun _=>True) room w0 mb fs' nx' (W2 (SufW ws0)) o w w') :
 Calls prog f args w fun x w'=>R x/\StF K n room w0 mb fs' nx' ws0 rs w':=by
 obtain⟨o,m,V,h1,h2,h3⟩:=h;refine(hc o m V h1 h2).mono ?_;rintro x w' ⟨q1,o',m',V',q2,q3,q4⟩;exact⟨q1,o',m',V',q3,q4,fun p hp=>(h3 p hp).chg q2⟩
theorem StF.of (hw:m.waits <:+ ws0)(h:SatE K n (fun _=>True) room w0 mb fs nx w o m V)(hr:∀ p∈rs,LawF w o p.1 (tabB n p.2)):StF K n room w0 mb fs nx ws0 rs w:=⟨o,m,V,hw,h,hr⟩
end
open Go.RowKit
theorem NatV.blk {w:World}{v:Value}{x:Nat}(h:NatV w v x)(hx:x≠0){q:Nat}(hq:v.ownBlock=some q):q<w.heap.size:=by
 obtain⟨a,c,rfl,_,_,hu⟩:=h;have hl:0<(digD x).length:=by rw[Zdy hx];simp
 obtain⟨b,off,rfl,hc⟩:=hu.cells 0 hl;have:b=q:=Option.some.inj hq;rw[<- this];exact Zab hc
theorem NatV.chg {w w':World}{o o':Own}{v:Value}{x:Nat}(h:NatV w v x)(hq:x≠0->∀ q,v.ownBlock=some q->o q=none)(hc:ChgX NoB o o' w w'):NatV w' v x/\(x≠0->∀ q,v.ownBlock=some q->o' q=none):=by
 by_cases hx:x=0
 . subst hx;obtain⟨a,c,h1,h2,h3,h4⟩:=h;refine⟨⟨a,c,h1,h2,h3,⟨h4.len,h4.ok,fun k hk=>?_⟩⟩,fun e=>absurd rfl e⟩;rw[Zbn] at hk;cases hk
 . exact⟨h.keepO fun q e=>hc.block q (h.blk hx e) (hq hx q e) (fun e=>e),fun _ q e=>hc.none' (h.blk hx e) (hq hx q e)⟩
def StK (K:Law)(n room:Nat)(w0:World)(mb:Nat)(fs:List (Int×BF))(nx:Int)(ws0:List Ev)(ns:List (Value×Nat))(W:World):Prop :=
 ∃ o m V,m.waits <:+ ws0/\SatE K n (fun _=>True) room w0 mb fs nx W o m V/\∀ p∈ns,NatV W p.1 p.2/\(p.2≠0->∀ q,p.1.ownBlock=some q->o q=none)
section
variable {K:Law}{n room:Nat}{w0 w w':World}{mb:Nat}{fs:List (Int×BF)}{nx:Int}{ws0:List Ev}{ns:List (Value×Nat)}{f:Nat}{args:Array Value}
theorem StF.toK (h:StF K n room w0 mb fs nx ws0 [] w):StK K n room w0 mb fs nx ws0 [] w:=by
 obtain⟨o,m,V,h1,h2,_⟩:=h;exact⟨o,m,V,h1,h2,fun p hp=>by cases hp⟩
theorem StK.below (h:StK K n room w0 mb fs nx ws0 ns w)(hb:Below w.heap.size w w'):StK K n room w0 mb fs nx ws0 ns w':=by
 obtain⟨o,m,V,h1,h2,h3⟩:=h;exact⟨o,m,V,h1,h2.below hb,fun p hp=>⟨(h3 p hp).1.below hb,(h3 p hp).2⟩⟩
theorem StK.below0 (h:StK K n room w0 mb fs nx ws0 ns w):Below w0.heap.size w0 w:=by
 obtain⟨o,m,V,h1,h2,_⟩:=h;exact h2.chg.below0
theorem StK.nat (h:StK K n room w0 mb fs nx ws0 ns w){v:Value}{x:Nat}(hp:(v,x)∈ns):NatV w v x:=by
 obtain⟨o,m,V,h1,h2,h3⟩:=h;exact(h3 _ hp).1
theorem StK.askN {R:Ending->Value->Prop}{x:Nat}(h:StK K n room w0 mb fs nx ws0 ns w)(hc:∀ o m V,SatE K n (fun _=>True) room w0 mb fs nx w o m V->Calls prog f args w fun e w'=>∃ v,R e v/\NatV w' v x/\AskN K n (fun _=>True) room w0 mb fs nx m o w w' v) :
 Calls prog f args w fun e w'=>∃ v,R e v/\StK K n room w0 mb fs nx ws0 (ns++[(v,x)]) w':=by
 obtain⟨o,m,V,h1,h2,h3⟩:=h;refine(hc o m V h2).mono ?_;rintro e w' ⟨v,q1,q2,o',m',V',q3,q4,q5,q6,q7⟩;refine⟨v,q1,o',m',V',by rw[q4];exact h1,q6,fun p hp=>?_⟩;rcases List.mem_append.1 hp with e|e
 . exact(h3 p e).1.chg (h3 p e).2 q3
 . simp at e;rw[e];exact⟨q2,fun _=>q7⟩
end
open Go.RowKit
section
variable {K:Law}{n:Nat}{room:Nat}{w0 w w':World}{mb:Nat}{fs:List (Int×BF)}{nx:Int}{o:Own}{m:ManD}{V:Nat->BF}{ws0:List Ev}
theorem Ycg (hK:Zdu K)(h:SatE K n (fun _=>True) room w0 mb fs nx w o m V)(hw:m.waits <:+ ws0)(hn:nx<=549755813888)(hr:(fs.length+1)*2^n<=room){v:Nat}(hv:v<n) :
 Calls prog 58 #[.pointer (some ⟨mb,0,none⟩),.int .i64 v] w fun x w''=>x=.returned (.tuple #[.int .i64 nx,.int .i64 0])/\Goes K n (fun _=>True) room w0 mb (fs++[(nx,varF v)]) (nx+1) (W2 (SufW ws0)) o w w'':=by
 refine(Zmw hK h ws0 hw none (fun _ e=>by cases e) (fun _ e=>by cases e) (fun ev _=>Zmr hn ev) (by omega) v hv).mono ?_;rintro x w'' hp;obtain⟨o2,m2,V2,q1,q2,q3,q4⟩:=Zqf hp Nat.one_le_two_pow hr;exact⟨q3,o2,m2,V2,q1,q2,q4⟩
end
open Go.RowKit
abbrev S19 (w:World)(mb:Nat)(fs:List (Int×BF))(nx:Int)(W:World):Prop:=StF Zk2 3 20000 w mb fs nx [] [] W
def l19A:List (Int×BF):=two++[(2,varF 0)]
def l19B:List (Int×BF):=l19A++[(3,varF 2)]
def l19F:BF:=Zeo (varF 0) (fun _=>true) (varF 2)
def l19C:List (Int×BF):=l19B++[(4,l19F)]
theorem Ydl:cntV 3 l19F [2,0,1,0]=6:=by decide
theorem Zxp:cntE 3 l19F [2,0,1,0]=0:=by
 unfold cntE;rw[if_pos (by intro z hz;simp at hz;omega),if_pos];intro v hv _;rcases(show v=0\/v=1\/v=2 by omega) with rfl|rfl|rfl<;>simp
theorem Ydm:totN 3 (fun _=>none) l19F=6:=by decide
theorem Zk6 (w:World):Calls prog 13 #[] w fun x w'=>x=.returned (.bool true)/\Below w.heap.size w w':=by
 have g2:=Hd (Zs9 (K:=Zk2) 3 20000 w (by omega) (by omega) (by omega));have gb:Hid (∀ mb W,S19 w mb two 2 W->Calls prog 58 #[.pointer (some ⟨mb,0,none⟩),.int .i64 0] W fun x w'=>x=.returned (.tuple #[.int .i64 2,.int .i64 0])/\S19 w mb l19A 3 w') :=
  Hd fun mb W g=>g.go fun o m V hw hs=>Ycg Zid hs hw (by omega) (by decide) (v:=0) (by omega)
 have ga:Hid (∀ mb W,S19 w mb l19A 3 W->Calls prog 58 #[.pointer (some ⟨mb,0,none⟩),.int .i64 2] W fun x w'=>x=.returned (.tuple #[.int .i64 3,.int .i64 0])/\S19 w mb l19B 4 w') :=
  Hd fun mb W g=>g.go fun o m V hw hs=>Ycg Zid hs hw (by omega) (by decide) (v:=2) (by omega)
 have gh:Hid (∀ mb W,S19 w mb l19B 4 W->Calls prog 59 #[.pointer (some ⟨mb,0,none⟩),.int .i64 2,.int .i64 1,.int .i64 3] W fun x w'=>x=.returned (.tuple #[.int .i64 4,.int .i64 0])/\S19 w mb l19C 5 w') :=
  Hd fun mb W g=>g.go fun o m V hw hs=>Yeu Zid hs hw (by omega) (by decide) (kf:=2) (kg:=1) (kh:=3) (F:=varF 0) (G:=fun _=>true) (H:=varF 2) (by simp[l19B,l19A]) (by simp[l19B,l19A,two]) (by simp[l19B])
 have gi:Hid (∀ mb W,S19 w mb l19C 5 W->Calls prog 30 #[.pointer (some ⟨mb,0,none⟩),.int .i64 4,.slice (some ⟨W.heap.size,0,none⟩) 4 4] (W.alloc (.cells #[.int .i64 2,.int .i64 0,.int .i64 1,.int .i64 0] 3)) fun x w'=>∃ v,x=.returned (.tuple #[v,.int .i64 0])/\StK Zk2 3 20000 w mb l19C 5 [] [(v,6)] w') :=
  Hd fun mb W g=>(g.toK.below (Zaf W _)).askN (x:=6) fun o m V hs=>(Zoj hs (k:=4) (G:=l19F) (by simp[l19C]) (c:=4) (Zmu W [2,0,1,0] (by simp))).mono (by
   rintro x w' ⟨v,rfl,q2,q3⟩;rw[Zxp,if_pos rfl,Ydl] at q2;exact⟨v,by rw[Zxp],q2,q3⟩)
 have gc:Hid (∀ mb W ns,StK Zk2 3 20000 w mb l19C 5 [] ns W->Calls prog 24 #[.pointer (some ⟨mb,0,none⟩),.int .i64 4] W fun x w'=>∃ v,x=.returned (.tuple #[v,.int .i64 2,.int .i64 0])/\StK Zk2 3 20000 w mb l19C 5 [] (ns++[(v,3)]) w') :=
  Hd fun mb W ns g=>g.askN (x:=3) fun o m V hs=>(Zip hs (k:=4) (G:=l19F) (by simp[l19C]) Ydm.symm (r:=(3,2)) (by decide)).mono (by
   rintro x w' ⟨v,rfl,q2,q3⟩;exact⟨v,rfl,q2,q3⟩)
 go_enter func13,ntmps13
 go_wp2_with fail;refine g2.out.mono ?_;rintro x w1 ⟨mb,rfl,o,m,V,g6,g5,_,gm⟩;have H1:=Hd (gb.out mb w1 (StF.of (by rw[g5];exact List.suffix_refl _) g6 (by simp)));clear g6 g5 gm g2 gb;go_wp2_with fail;refine H1.out.mono ?_;rintro x w2 ⟨rfl,h2⟩;have H2:=Hd (ga.out mb w2 h2);clear h2 H1 ga;go_wp2_with fail;refine H2.out.mono ?_;rintro x w3 ⟨rfl,h3⟩;have H3:=Hd (gh.out mb w3 h3);clear h3 H2 gh;go_wp2_with fail;refine H3.out.mono ?_;rintro x w4 ⟨rfl,h4⟩;have H4:=Hd (gi.out mb w4 h4);clear h4 H3 gi;go_wp2_with fail;refine H4.out.mono ?_;rintro x w5 ⟨v5,rfl,h5⟩;have H5:=Hd (gc.out mb w5 _ h5);clear h5 H4 gc;go_wp2_with fail;refine H5.out.mono ?_;rintro x w6 ⟨s6,rfl,h6⟩;have gl:=Hd h6.below0;have ge:=Hd (Zks (w:=w6) (n:=6) (by omega));have gf:Hid (∀ W,Below w6.heap.size w6 W->NatV W v5 6):=Hd fun W hb=>(h6.nat (v:=v5) (x:=6) (by simp)).below hb
 have gg:Hid (∀ W,Below w6.heap.size w6 W->NatV W s6 3):=Hd fun W hb=>(h6.nat (v:=s6) (x:=3) (by simp)).below hb
 clear h6 H5;go_wp2_with fail;refine ge.out.mono ?_;rintro x w7 ⟨⟨v7,rfl,n7⟩,g1⟩;have g4:=Hd g1;have gk:=Hd (Ziw (gf.out w7 g1) n7);clear n7 g1 ge gf;go_wp2_with fail;refine gk.out.mono ?_;rintro x w8 ⟨rfl,g9⟩;have g3:=Hd (g4.out.trans (g9.mono g4.out.size));have gd:=Hd (Zks (w:=w8) (n:=3) (by omega));clear g9 g4 gk;rw[show cmpZ 6 6=0 from rfl];go_wp2_with fail;refine gd.out.mono ?_;rintro x w9 ⟨⟨v9,rfl,n9⟩,g8⟩;have g0:=Hd (g3.out.trans (g8.mono g3.out.size));have gj:=Hd (Ziw (gg.out w9 g0.out) n9);clear n9 g8 gd gg g3;go_wp2_with fail;refine gj.out.mono ?_;rintro x wa ⟨rfl,g7⟩;have gn:=Hd (gl.out.trans ((g0.out.trans (g7.mono g0.out.size)).mono gl.out.size));clear g7 gj g0;rw[show cmpZ 3 3=0 from rfl];go_wp2_with fail;go_ret;exact⟨rfl,gn.out⟩
open Go.RowKit
theorem Yeg {l:List Bool}{i:Nat}(hi:i<l.length):(l.take (i+1)).count true=(l.take i).count true+if l.getD i false=true then 1 else 0:=by
 rw[List.take_succ_eq_append_getElem hi,List.count_append];simp only[List.getD,List.getElem?_eq_getElem hi,Option.getD_some];cases l[i]<;>rfl
theorem pow64 {n:Nat}(h:n<=16):2^n<=65536:=by
 have:=Nat.pow_le_pow_right (n:=2) (by omega) h;simpa using this
open Go.RowKit
end Go.Proofs.YtgmbklaolcmljaaGreat

namespace Go.Proofs.YtgmbklaolcmljaaGreat
open Go.Proofs.Tryz
open Go.RowKit
def valT:List Nat->Nat
 | []=>0
 | d::r=>d+10*valT r
def OkT (ds:List Nat):Prop:=∀ d∈ds,d<10
def Yej (ds:List Nat):Prop:=∀ k,ds.length=k+1->ds.getD k 0≠0
def digT (x:Nat):List Nat:=if h:x=0 then [] else x%10::digT (x/10)
decreasing_by omega
theorem Zdk:digT 0=[]:=by unfold digT;simp
theorem Zg5 {x:Nat}(h:x≠0):digT x=x%10::digT (x/10):=by
 rw[digT];simp[h]
theorem Zsw:∀ ds:List Nat,OkT ds->Yej ds->digT (valT ds)=ds
 | [],_,_=>Zdk
 | d::r,ho,ht=>by
   have hd:d<10:=ho d (List.mem_cons_self ..);have hr:OkT r:=fun x hx=>ho x (List.mem_cons_of_mem _ hx)
   cases r with
   | nil =>
     have hd0:d≠0:=ht 0 rfl;have hv:valT [d]=d:=by simp[valT]
     rw[hv,Zg5 hd0,show d/10=0 by omega,Zdk,show d%10=d by omega]
   | cons e q =>
     have g1:Yej (e::q):=fun k hk=>by
      have:=ht (k+1) (by simpa using hk);simpa using this
     have ih:=Zsw (e::q) hr g1;have g2:valT (e::q)≠0:=fun h0=>by
      rw[h0,Zdk] at ih;cases ih
     have hv:valT (d::e::q)=d+10*valT (e::q):=rfl;obtain⟨v,g0⟩:∃ v,v=valT (e::q):=⟨_,rfl⟩;rw[hv,<- g0];rw[<- g0] at ih g2;rw[Zg5 (by omega),show (d+10*v)/10=v by omega,show (d+10*v)%10=d by omega,ih]
theorem Zov (x:Nat):valT (digT x)=x:=by
 induction x using Nat.strongRecOn with
 | ind x ih =>
   by_cases h:x=0
   . subst h;rw[Zdk];rfl
   ·rw[Zg5 h]
    show x%10+10*valT (digT (x/10))=x
    rw[ih _ (by omega)];omega
theorem Zr7 (x:Nat):OkT (digT x):=by
 induction x using Nat.strongRecOn with
 | ind x ih =>
   by_cases h:x=0
   . subst h;rw[Zdk];intro d hd;cases hd
   ·rw[Zg5 h];intro d hd;rcases List.mem_cons.1 hd with rfl|hd
    . omega
    . exact ih _ (by omega) d hd
theorem Zf4:∀ a b:List Nat,valT (a++b)=valT a+10^a.length*valT b
 | [],b=>by simp[valT]
 | d::r,b=>by
   show d+10*valT (r++b)=d+10*valT r+_
   rw[Zf4 r b,List.length_cons,Nat.pow_succ,Nat.mul_add,Nat.mul_comm (10^r.length) 10,Nat.mul_assoc,Nat.add_assoc]
theorem Znb:∀ b:List Nat,(∀ d∈b,d=0)->valT b=0
 | [],_=>rfl
 | d::r,h=>by
   show d+10*valT r=0
   rw[Znb r fun x hx=>h x (List.mem_cons_of_mem _ hx),h d (List.mem_cons_self ..)]
theorem Zvz {ds:List Nat}{k:Nat}(ho:OkT ds)(hk:k<=ds.length)(hz:∀ j,k<=j->j<ds.length->ds.getD j 0=0)(hn:k=0\/ds.getD (k-1) 0≠0):digT (valT ds)=ds.take k:=by
 have hv:valT ds=valT (ds.take k):=by
  have:=Zf4 (ds.take k) (ds.drop k);rw[List.take_append_drop] at this;rw[this,Znb (ds.drop k) fun d hd=>?_]
  . simp
  ·obtain⟨i,hi,rfl⟩:=List.getElem_of_mem hd;have g1:k+i<ds.length:=by simp at hi;omega
   have:=hz (k+i) (by omega) g1;rw[List.getElem_drop];simpa [List.getD,List.getElem?_eq_getElem g1] using this
 rw[hv];refine Zsw _ (fun d hd=>ho d (List.mem_of_mem_take hd)) fun j hj=>?_
 have hl:(ds.take k).length=k:=by simp;omega
 rw[hl] at hj;rcases hn with rfl|hn
 . cases hj
 ·rw[show k-1=j by omega] at hn;have g0:j<ds.length:=by omega
  simp only[List.getD,List.getElem?_eq_getElem g0] at hn;simp only[List.getD,List.getElem?_take,if_pos (show j<k by omega),List.getElem?_eq_getElem g0];exact hn
open Go.RowKit
theorem Zzs {w:World}{a:Option Addr}{c:Nat}{zs:List Int}(h:Zau w a zs)(i:Nat) :
 Calls prog 166 #[.slice a zs.length c,.int .i64 (i:Nat)] w fun e w'=>e=.returned (.int .i64 (at0 zs i))/\w=w':=by
 by_cases hi:i<zs.length
 ·obtain⟨b,off,rfl,hc⟩:=h.cells i hi;have hz:(i:Int)<(zs.length:Int):=by omega
  obtain⟨d,hd⟩:∃ d,d=at0 zs i:=⟨_,rfl⟩;rw[<- hd] at hc ⊢;have hl:=h.len;clear h hd
  go_enter func166,ntmps166
  go_wp2_with fail;go_ret;exact⟨rfl,rfl⟩
 ·have hz:¬ (i:Int)<(zs.length:Int):=by omega
  have h0:at0 zs i=0:=by
   simp[at0,List.getD,List.getElem?_eq_none (show zs.length<=i by omega)]
  rw[h0];have hl:=h.len;clear h h0
  go_enter func166,ntmps166
  go_wp2_with fail;go_ret;exact⟨rfl,rfl⟩
open Go.RowKit
theorem Zrr:Zne 3 143 (.int .i64 0) 8:=⟨underlying143,by kernel_rfl,rfl,by omega⟩
def decV (ds:List Nat):List Value:=ds.map fun d:Nat=>(.int .i64 (d:Int):Value)
theorem Zw3 (ds:List Nat)(d:Nat):decV (ds++[d])=decV ds++[.int .i64 (d:Nat)]:=by simp[decV]
theorem Zfr {x:Nat}:∀ n,x<10^n->(digT x).length<=n:=by
 intro n
 induction n generalizing x with
 | zero => intro h; have : x = 0 := by simpa using h
           subst this;rw[Zdk];exact Nat.le_refl _
 | succ n ih =>
   intro h
   by_cases c:x=0
   . subst c;rw[Zdk];exact Nat.zero_le _
   . rw[Zg5 c,List.length_cons];have:=ih (x:=x/10) (by rw[Nat.pow_succ] at h;omega);omega
theorem Yat {w:World}{n:Nat}(hn:n<18446744073709551616) :
 Calls prog 80 #[.int .u64 (n:Nat)] w fun e w'=>(∃ v,e=.returned v/\OwnC 3 w' w.heap.size v (decV (digT n)))/\Below w.heap.size w w':=by
 obtain⟨P,hP⟩:∃ P:Ending->World->Prop,P=fun e w'=>(∃ v,e=.returned v/\OwnC 3 w' w.heap.size v (decV (digT n)))/\Below w.heap.size w w':=⟨_,rfl⟩
 have g2:=Hd hP;rw[<- hP];clear hP;have H0:Hid (OwnC 3 w w.heap.size (.slice none 0 0) (decV [])):=Hd (World.ownsRow_nil w w.heap.size 3 1);have g5:Hid (Below w.heap.size w w):=Hd (Below.refl _ _);have g9:Hid (digT n=[]++digT n/\([]:List Nat).length<=20):=Hd ⟨rfl,by simp⟩
 go_enter func80,ntmps80
 go_wp2_with fail
 go_loopw [0,3] (fun s0 s3 wr=>∃ (m:Nat) (ds:List Nat),m<=n/\s0=.int .u64 (m:Nat)/\Hid (digT n=ds++digT m)/\Hid (OwnC 3 wr w.heap.size s3 (decV ds))/\Hid (Below w.heap.size w wr)) (fun s0 _ _=>(intOf s0).toNat)
 case atStart=>exact⟨n,[],Nat.le_refl _,rfl,Hd rfl,H0,g5⟩
 case round =>
  obtain⟨m,ds,hm,rfl,HD,HO,HB⟩:=hrel
  by_cases hp:0<m
  ·have g6:(0:Int)<(m:Int):=by omega
   have g8:ds.length<=20:=by
    have h1:=congrArg List.length HD.out;have h2:=Zfr (x:=n) 20 (by omega);rw[List.length_append] at h1;omega
   have g4:Hid (digT n=(ds++[m%10])++digT (m/10)):=Hd (by rw[HD.out,Zg5 (by omega)];simp);have erm:((m%10:Nat):Int)=(m:Int)%10:=by omega
   have g1:(decV ds).length<1099511627776:=by simp[decV];omega
   have g7:IntKind.i64.wrap ((m:Int)%10)=(m:Int)%10:=IntWalk.i64_in _ ⟨by omega,by omega⟩;have g0:=Hd erm;clear HD erm;go_wp2_with (at_builtin;refine Zcl Zrr _ rfl _ _ rfl w.heap.size _ (decV ds) (.int .i64 ((m:Int)%10)) rfl rfl rfl rfl rfl (by exact HO.out) g1 (by exact HB.out.size) ?_;intro v' wy h1 h2 h3 h4 h5 h6);have g3:Hid (OwnC 3 wy w.heap.size v' (decV (ds++[m%10]))):=Hd (by rw[Zw3,g0.out];exact h1);have HB2:Hid (Below w.heap.size w wy):=Hd (Zh7 HB.out HO.out h2 h3 h4 h5 h6 HB.out.size);clear h1 h2 h3 h4 h5 h6 HO HB;go_wp2_with fail;go_roundw
   case rel=>exact⟨m/10,ds++[m%10],by omega,by rw[show ((m/10:Nat):Int)=(m:Int)/10 by omega],g4,g3,HB2⟩
   case measure=>simp[intOf];omega
  ·obtain rfl:m=0:=by omega
   have HF:Hid (P (.returned u3) wr):=Hd (by
    rw[g2.out];refine⟨⟨_,rfl,?_⟩,HB.out⟩;have:=HD.out;rw[Zdk,List.append_nil] at this;rw[this];exact HO.out)
   clear HD HO HB;go_wp2_with fail;exact HF.out
open Go.RowKit
def decZ (ds:List Nat):List Int:=ds.map fun d:Nat=>(d:Int)
theorem Zcn (ds:List Nat):(decZ ds).length=ds.length:=by simp[decZ]
theorem Zrp (ds:List Nat)(k:Nat):at0 (decZ ds) k=((ds.getD k 0:Nat):Int):=by
 unfold at0 decZ;rcases Nat.lt_or_ge k ds.length with h|h
 . simp[List.getD,h]
 . simp[List.getD,h]
theorem Zgd (ds:List Nat)(d:Nat):decZ (ds++[d])=decZ ds++[(d:Int)]:=by simp[decZ]
theorem Yc0 (ds:List Nat):decV ds=Za3 (decZ ds):=by simp[decV,Za3,decZ]
def NumV (w:World)(v:Value)(x:Nat):Prop:=SliceIs w v (decZ (digT x))
theorem NumV.below {w w':World}{v:Value}{x:Nat}(h:NumV w v x)(hb:Below w.heap.size w w'):NumV w' v x:=SliceIs.below h hb
theorem Zi2 {ds:List Nat}(h:OkT ds)(k:Nat):ds.getD k 0<10:=by
 rcases Nat.lt_or_ge k ds.length with c|c
 . simp only[List.getD,List.getElem?_eq_getElem c,Option.getD_some];exact h _ (List.getElem_mem c)
 . simp only[List.getD,List.getElem?_eq_none c,Option.getD_none];omega
theorem Zjd (l:List Nat)(k:Nat):valT (l.take (k+1))=valT (l.take k)+10^k*l.getD k 0:=by
 rcases Nat.lt_or_ge k l.length with h|h
 . rw[List.take_add_one,List.getElem?_eq_getElem h,Zf4,List.length_take,Nat.min_eq_left (by omega)];simp[valT,List.getD,List.getElem?_eq_getElem h]
 . rw[List.take_of_length_le h,List.take_of_length_le (by omega)];simp[List.getD,List.getElem?_eq_none h]
theorem Ye0 (rs:List Nat)(t:Nat):valT (rs++[t])=valT rs+10^rs.length*t:=by
 rw[Zf4];simp[valT]
theorem Zte {rs:List Nat}(h:OkT rs){t:Nat}(ht:t<10):OkT (rs++[t]):=fun d hd=>by
 rcases List.mem_append.1 hd with e|e
 . exact h d e
 . simp at e;omega
structure AddT (xs bs:List Nat)(k c:Nat)(rs:List Nat):Prop where
 len:rs.length=k
 ok:OkT rs
 c1:c<=1
 val:valT rs+10^k*c=valT (xs.take k)+valT (bs.take k)
theorem AddT.start (xs bs:List Nat):AddT xs bs 0 0 []:=⟨rfl,(by intro d hd;cases hd),by omega,by simp[valT]⟩
theorem AddT.next {xs bs rs:List Nat}{k c:Nat}(h:AddT xs bs k c rs)(ha:OkT xs)(hb:OkT bs) :
 AddT xs bs (k+1) ((c+xs.getD k 0+bs.getD k 0)/10) (rs++[(c+xs.getD k 0+bs.getD k 0)%10]):=by
 have hd:=Zi2 ha k;have he:=Zi2 hb k;have hc:=h.c1;refine⟨by simp[h.len],Zte h.ok (by omega),by omega,?_⟩;have hv:=h.val;obtain⟨t,ht⟩:∃ t,t=(c+xs.getD k 0+bs.getD k 0)%10:=⟨_,rfl⟩;obtain⟨c2,g0⟩:∃ c2,c2=(c+xs.getD k 0+bs.getD k 0)/10:=⟨_,rfl⟩;rw[<- ht,<- g0,Zjd,Zjd,Ye0,h.len];have key:t+10*c2=c+xs.getD k 0+bs.getD k 0:=by rw[ht,g0];omega
 have k2:=congrArg (fun z=>10^k*z) key;simp only[Nat.mul_add] at k2;rw[Nat.pow_succ,Nat.mul_assoc]
 generalize 10^k*t=T at *
 generalize 10^k*xs.getD k 0=X at *
 generalize 10^k*bs.getD k 0=Y at *
 generalize 10^k*c=Z at *
 generalize 10^k*(10*c2)=U at *
 omega
theorem AddT.done {xs bs rs:List Nat}{k:Nat}(h:AddT xs bs k 0 rs)(ha:xs.length<=k)(hb:bs.length<=k):valT rs=valT xs+valT bs:=by
 have hv:=h.val;rw[List.take_of_length_le ha,List.take_of_length_le hb] at hv;omega
structure TimT (n:Nat)(xs:List Nat)(k c:Nat)(rs:List Nat):Prop where
 len:rs.length=k
 ok:OkT rs
 c1:c<=n
 val:valT rs+10^k*c=n*valT (xs.take k)
theorem TimT.start (n:Nat)(xs:List Nat):TimT n xs 0 0 []:=⟨rfl,(by intro d hd;cases hd),by omega,by simp[valT]⟩
theorem TimT.next {n:Nat}{xs rs:List Nat}{k c:Nat}(h:TimT n xs k c rs)(ha:OkT xs) :
 TimT n xs (k+1) ((c+n*xs.getD k 0)/10) (rs++[(c+n*xs.getD k 0)%10]):=by
 have hd:=Zi2 ha k;have hc:=h.c1;have hm:n*xs.getD k 0<=n*9:=Nat.mul_le_mul (Nat.le_refl _) (by omega);refine⟨by simp[h.len],Zte h.ok (by omega),by omega,?_⟩;have hv:=h.val;obtain⟨t,ht⟩:∃ t,t=(c+n*xs.getD k 0)%10:=⟨_,rfl⟩;obtain⟨c2,g0⟩:∃ c2,c2=(c+n*xs.getD k 0)/10:=⟨_,rfl⟩;rw[<- ht,<- g0,Zjd,Ye0,h.len];have key:t+10*c2=c+n*xs.getD k 0:=by rw[ht,g0];omega
 have k2:=congrArg (fun z=>10^k*z) key;simp only[Nat.mul_add] at k2;rw[Nat.pow_succ,Nat.mul_assoc,Nat.mul_add,<- hv,show n*(10^k*xs.getD k 0)=10^k*(n*xs.getD k 0) from Nat.mul_left_comm ..]
 generalize 10^k*t=T at *
 generalize 10^k*(n*xs.getD k 0)=X at *
 generalize 10^k*c=Z at *
 generalize 10^k*(10*c2)=U at *
 omega
theorem TimT.done {n:Nat}{xs rs:List Nat}{k:Nat}(h:TimT n xs k 0 rs)(ha:xs.length<=k):valT rs=n*valT xs:=by
 have hv:=h.val;rw[List.take_of_length_le ha] at hv;omega
open Go.RowKit
end Go.Proofs.YtgmbklaolcmljaaGreat

namespace Go.Proofs.YtgmbklaolcmljaaGreat
open Go.Proofs.Tryz
open Go.RowKit
theorem Zjk {P:Program}{t u e e':TypeId}(ht:P.underlying t=some (.slice e))(hu:P.underlying u=some (.slice e'))(ty:TypeId)(s x:Value)(w:World):(Builtin.append_ #[t,u] ty #[s,x]).run P w=(Builtin.append_ #[t,t] ty #[s,x]).run P w:=by
 unfold Builtin.append_;cases s
 case slice a n c =>
  simp only[List.getElem?_toArray,List.getElem?_cons_zero,List.getElem?_cons_succ,Sem.run_bind,run_underlying ht,run_underlying hu,Result.andThen_ok,Sem.run_pure]
 all_goals simp[run_underlying ht]
theorem Ydz {P:Program}{w:World}{ops:Array Oper}{rest:List Oper}{o:Oper}{a:Act}{Q:Exit->Act->World->Prop}(hgd:o.guard=none)(s x:Operand)(t u:TypeId){e':TypeId}(hu:P.underlying u=some (.slice e'))
 (ho:o.op=.call { callee:=.builtin .append,args:=#[s,x],argTypes:=#[t,u] })
 (base:Nat) (e:TypeId) (i:TypeInfo) (z:Value) (size bytes:Nat) (ht:P.underlying t=some (.slice e)) (hi:P.info? e=some i) (hz:i.zero=some z)
 (hsize:i.size=size) (hby:i.bytes=bytes) (hzs:z.cells.size=size) (hsz:0<size)
 (v:Value) (n:Nat) (xs:List Value) (hs:a.eval s=v) (hown:w.ownsRow base e size v n xs)
 (ad:Addr) (m c:Nat) (news:List Value) (hx:a.eval x=.slice (some ad) m c) (hl:news.length=m*size) (hnews:∀ j u,news[j]?=some u->w.cell? (ad.add j)=some u) (h1:∀ u∈news,u.oneCell'=true)
 (h63:n+m<=maxLen) (hbytes:(n+m)*bytes<=140737488355328) (hbase:base<=w.heap.size)
 (h:∀ v' w',w'.ownsRow base e size v' (n+m) (xs++news)->w.grownBy w' v.ownBlock->(v'=.slice none 0 0↔v=.slice none 0 0/\m=0)->(v'.ownBlock=v.ownBlock\/v'.ownBlock=some w.heap.size)->wpList P ops Q rest (a.put o.dst v') w') :
 wpList P ops Q (o::rest) a w:=by
 refine wpList_plain hgd fun K hK=>?_
 obtain⟨v',w',hr,h2,h3,h4,h5⟩:=run_append_own_at (P:=P) w base t o.type e i z size bytes ht hi hz hsize hby hzs hsz v n xs hown ad m c news hl hnews h1 h63 hbytes hbase;rw[<- Zjk ht hu] at hr;unfold Oper.wp execOp;simp only[ho,resolve,invoke,builtin,Sem.run_bind,Sem.run_pure,Result.andThen_ok,List.map_toArray,List.map_cons,List.map_nil,hs,hx,hr];exact hK _ _ (h v' w' h2 h3 h4 h5)
theorem Zyb {P:Program}{w:World}{ops:Array Oper}{rest:List Oper}{o:Oper}{a:Act}{Q:Exit->Act->World->Prop}(hgd:o.guard=none)(s x:Operand)(t u:TypeId){e':TypeId}(hu:P.underlying u=some (.slice e'))
 (ho:o.op=.call { callee:=.builtin .append,args:=#[s,x],argTypes:=#[t,u] })
 (base:Nat) (e:TypeId) (i:TypeInfo) (size:Nat) (ht:P.underlying t=some (.slice e)) (hi:P.info? e=some i)
 (v:Value) (n:Nat) (xs:List Value) (hs:a.eval s=v) (hown:w.ownsRow base e size v n xs) (hx:a.eval x=.slice none 0 0)
 (h:wpList P ops Q rest (a.put o.dst v) w):wpList P ops Q (o::rest) a w:=by
 refine wpList_plain hgd fun K hK=>?_
 have g0:=run_append_owned_none (P:=P) (w:=w) base t o.type e i size ht hi v n xs hown;rw[<- Zjk ht hu] at g0;unfold Oper.wp;simp[execOp,ho,resolve,invoke,builtin,hs,hx,g0,Result.andThen];exact hK _ _ h
theorem Zhr {T ST SU:TypeId}{z:Value}{b:Nat}(E:Zne T ST z b){TU:TypeId}(hSU:prog.underlying SU=some (.slice TU)){ops:Array Oper}{rest:List Oper}{o:Oper}{a:Act}{Q:Exit->Act->World->Prop}{wr:World}(hgd:o.guard=none)(s x:Operand)
 (ho:o.op=.call { callee:=.builtin .append,args:=#[s,x],argTypes:=#[ST,SU] })
 (base:Nat) (w0:World) (v:Value) (xs ys:List Value) (ao:Option Addr) (c:Nat) (hs:a.eval s=v) (hx:a.eval x=.slice ao ys.length c)
 (hown:OwnC T wr base v xs) (hys:∀ j (h:j<ys.length),∃ b off,ao=some ⟨b,off,none⟩/\wr.cell? ⟨b,off+j,none⟩=some ys[j]) (h1:∀ u∈ys,u.oneCell'=true) (hlen:xs.length+ys.length<1099511627776) (hbase:base<=wr.heap.size) (hb:Below base w0 wr)
 (hnil:ao=none->c=0)
 (h:∀ v' w',OwnC T w' base v' (xs++ys)->Below base w0 w'->base<=w'.heap.size->Zdg v v' wr w'->wpList prog ops Q rest (a.put o.dst v') w') :
 wpList prog ops Q (o::rest) a wr:=by
 obtain⟨i,hi,hz,g3,g5⟩:=info_parts E.info;have g4:=E.small;cases ao with
 | none =>
   have h0:ys=[]:=by
    apply List.eq_nil_of_length_eq_zero;rcases Nat.eq_zero_or_pos ys.length with h0|h0
    . exact h0
    . obtain⟨b,off,hh,_⟩:=hys 0 h0;cases hh
   subst h0;obtain rfl:=hnil rfl;refine Zyb (w:=wr) hgd s x ST SU hSU ho base T i 1 E.under hi v xs.length xs hs hown hx ?_;exact h v wr (by rw[List.append_nil];exact hown) hb hbase ⟨Zjq _ _,.inl rfl⟩
 | some ad =>
   refine Ydz (w:=wr) hgd s x ST SU hSU ho base T i z 1 b E.under hi hz g3 g5 (by rw[E.one];rfl) (by decide)
    v xs.length xs hs hown ad ys.length c ys hx (by simp) ?_ h1 (by unfold maxLen;omega) (by
     have h2:(xs.length+ys.length)*b<=1099511627776*100:=Nat.mul_le_mul (by omega) g4;omega) hbase ?_
   ·intro j u hj;have g0:j<ys.length:=by
     rcases Nat.lt_or_ge j ys.length with h'|h'
     . exact h'
     . simp[List.getElem?_eq_none h'] at hj
    obtain⟨b,off,g6,hc⟩:=hys j g0;cases g6;rw[List.getElem?_eq_getElem g0] at hj;have hj:=Option.some.inj hj;subst hj;have g2:(⟨b,off,none⟩:Addr).add j=⟨b,off+j,none⟩:=by unfold Addr.add;split<;>simp_all
    rw[g2];exact hc
   ·intro v' w' h1 h2 _ g1;refine h v' w' ?_ ?_ ?_ ⟨Zb1 h2,g1.imp id fun e=>⟨_,e,Nat.le_refl _⟩⟩
    . unfold OwnC;rw[List.length_append];exact h1
    . exact hb.grown h2 hbase (fun k hk=>(hown.lt k hk).1)
    . have:=h2.size;omega
open Go.RowKit
theorem Zvi {w:World}{base:Nat}{v:Value}{zs:List Int}(h:OwnI w base v zs)(hl:zs.length<=1000000):∃ a c,v=.slice a zs.length c/\Zau w a zs/\zs.length<=c/\c<=9223372036854775807/\(a=none->c=0):=by
 obtain⟨a,c,e,h1,h2⟩:=h.sliceIs (by omega);refine⟨a,c,e,h1,?_,?_,h2⟩
 ·rcases h.2 with ⟨e2,h0⟩|⟨g,cap,cur,e2,_,_,q,_⟩
  . rw[e] at e2;injection e2 with _ e3 e4;omega
  . rw[e] at e2;injection e2 with _ e3 e4;omega
 ·rcases h.2 with ⟨e2,h0⟩|⟨g,cap,cur,e2,_,_,_,q,_⟩
  . rw[e] at e2;injection e2 with _ _ e4;omega
  . rw[e] at e2;injection e2 with _ _ e4;unfold maxLen at q;omega
theorem Ztg {w:World}{base:Nat}{v:Value}{ds:List Nat}(h:OwnC 3 w base v (decV ds)):OwnI w base v (decZ ds):=by
 have h':w.ownsRow base 3 1 v (decV ds).length (decV ds):=h;rw[Yc0,Ze0] at h';exact h'
theorem Zsu (ds:List Nat):∀ u∈decV ds,u.oneCell'=true:=fun u hu=>by
 obtain⟨d,_,rfl⟩:=List.mem_map.1 hu;rfl
theorem Zph {w:World}{base:Nat}{v:Value}{ds:List Nat}(h:OwnI w base v (decZ ds))(ho:OkT ds)(hl:ds.length<=1000000) :
 Calls prog 194 #[v] w fun e w'=>(∃ u,e=.returned u/\NumV w' u (valT ds))/\Below w.heap.size w w':=by
 obtain⟨a,c,rfl,hz,g6,ge,hn⟩:=Zvi h (by rw[Zcn];exact hl);rw[Zcn] at g6 ⊢;obtain⟨P,hP⟩:∃ P:Ending->World->Prop,P=fun e w'=>(∃ u,e=.returned u/\NumV w' u (valT ds))/\Below w.heap.size w w':=⟨_,rfl⟩
 have g1:Hid (∀ k:Nat,k<=ds.length->(∀ j,k<=j->j<ds.length->ds.getD j 0=0)->(k=0\/ds.getD (k-1) 0≠0)->∀ v' w',OwnC 3 w' w.heap.size v' ([]++decV (ds.take k))->Below w.heap.size w w'->P (.returned v') w'):=Hd fun k h1 h2 h3 v' w' h4 h5=>by
  rw[hP];refine⟨⟨_,rfl,?_⟩,h5⟩;unfold NumV;rw[Zvz ho h1 h2 h3];rw[List.nil_append] at h4;exact(Ztg h4).sliceIs (by rw[Zcn,List.length_take];omega)
 have g0:Hid (∀ k,k<=ds.length->∀ j (h:j<(decV (ds.take k)).length),∃ b off,a=some ⟨b,off,none⟩/\(w.alloc (.cells #[] 3)).cell? ⟨b,off+j,none⟩=some (decV (ds.take k))[j]):=Hd fun k hk j hj=>by
  have g5:j<k/\j<ds.length:=by simp[decV] at hj;omega
  obtain⟨b,off,e,hc⟩:=hz.cells j (by rw[Zcn];exact g5.2);refine⟨b,off,e,((Zaf w (.cells #[] 3)).cell (p:=⟨b,off+j,none⟩) (Zab hc)).trans (hc.trans ?_)⟩;rw[Zrp];simp[decV,List.getD,g5.2]
 have HCK:Hid (∀ k,k<ds.length->∃ b off,a=some ⟨b,off,none⟩/\w.cell? ⟨b,off+k,none⟩=some (.int .i64 ((ds.getD k 0:Nat):Int))):=Hd fun k hk=>by
  obtain⟨b,off,e,hc⟩:=hz.cells k (by rw[Zcn];exact hk);exact⟨b,off,e,by rw[Zrp] at hc;exact hc⟩
 rw[<- hP];clear hP h hz ho
 go_enter func194,ntmps194
 go_wp2_with fail
 go_loopw [3] (fun s3 wr=>∃ k:Nat,k<=ds.length/\s3=.int .i64 k/\Hid (∀ j,k<=j->j<ds.length->ds.getD j 0=0)/\Hid (w=wr)) (fun s3 _=>(intOf s3).toNat)
 case atStart=>exact⟨ds.length,Nat.le_refl _,rfl,Hd (fun j h1 h2=>absurd h2 (by omega)),Hd rfl⟩
 case round =>
  obtain⟨k,hk,rfl,HZ,HW⟩:=hrel;have hw:=HW.out;subst hw;have ga:(k:Int)<=(c:Int):=by omega
  by_cases hp:0<k
  ·have g9:(0:Int)<(k:Int):=by omega
   obtain⟨b,off,rfl,ck⟩:=HCK.out (k-1) (by omega);have g4:(k:Int)-1=((k-1:Nat):Int):=by omega
   have gb:k-1<ds.length:=by omega
   have g8:((k-1:Nat):Int)<(ds.length:Int):=by omega
   by_cases hz:ds.getD (k-1) 0=0
   ·rw[hz] at ck;have g7:Hid (∀ j,k-1<=j->j<ds.length->ds.getD j 0=0):=Hd fun j h1 h2=>by
     rcases Nat.lt_or_ge j k with c1|c1
     . rw[show j=k-1 by omega];exact hz
     . exact HZ.out j c1 h2
    clear hz g1 HZ;go_wp2_with fail;go_roundw
    case rel=>exact⟨k-1,by omega,by first|rfl|rw[<- g4],g7,Hd trivial⟩
    case measure=>simp[intOf];omega
   ·obtain⟨d,hd⟩:∃ d,d=ds.getD (k-1) 0:=⟨_,rfl⟩;rw[<- hd] at ck;have gd:¬ d=0:=by rw[hd];exact hz
    have gc:¬ (d:Int)=0:=by omega
    clear hd;have HF:=Hd (g1.out k hk HZ.out (.inr hz));clear hz g1 HZ;have g2:Hid ((decV (ds.take k)).length=k):=Hd (by simp[decV];omega);have g3:=Hd (g0.out k hk);clear g0 HCK;go_wp2_with (at_builtin;refine Zhr Zrr underlying22 rfl _ _ rfl w.heap.size w _ [] (decV (ds.take k)) _ c rfl (by refine Eq.trans (b:=Value.slice (some ⟨b,off,none⟩) k c) rfl ?_;rw[g2.out]) (Ze2 3 w w.heap.size (Nat.le_refl _)) g3.out (Zsu _) (by rw[g2.out];simp<;>omega) (by simp) (Zaf _ _) hn ?_;intro v' w1 h1 h2 h3 h4)
    first|exact HF.out _ _ h1 h2|(go_wp2_with fail;exact HF.out _ _ h1 h2)
  ·obtain rfl:k=0:=by omega
   have HF:=Hd (g1.out 0 hk HZ.out (.inl rfl));have g2:Hid ((decV (ds.take 0)).length=0):=Hd (by simp[decV]);have g3:=Hd (g0.out 0 hk);clear g1 HZ g0 HCK;go_wp2_with (at_builtin;refine Zhr Zrr underlying22 rfl _ _ rfl w.heap.size w _ [] (decV (ds.take 0)) a c rfl (by refine Eq.trans (b:=Value.slice a 0 c) rfl ?_;rw[g2.out]) (Ze2 3 w w.heap.size (Nat.le_refl _)) g3.out (Zsu _) (by rw[g2.out];simp<;>omega) (by simp) (Zaf _ _) hn ?_;intro v' w1 h1 h2 h3 h4)
   first|exact HF.out _ _ h1 h2|(go_wp2_with fail;exact HF.out _ _ h1 h2)
open Go.RowKit
theorem Zh6 {w:World}{a:Option Addr}{c:Nat}{ds:List Nat}(h:Zau w a (decZ ds))(i:Nat) :
 Calls prog 166 #[.slice a ds.length c,.int .i64 (i:Nat)] w fun e w'=>e=.returned (.int .i64 ((ds.getD i 0:Nat):Int))/\w=w':=by
 have:=Zzs (c:=c) h i
 rwa [Zcn,Zrp] at this
theorem Zwb {w:World}{v1 v2:Value}{x y:Nat}(h1:NumV w v1 x)(h2:NumV w v2 y)(hx:(digT x).length<=100000)(hy:(digT y).length<=100000) :
 Calls prog 167 #[v1,v2] w fun e w'=>(∃ u,e=.returned u/\NumV w' u (x+y))/\Below w.heap.size w w':=by
 obtain⟨a,ca,rfl,ga,-⟩:=h1;obtain⟨b,cb,rfl,g9,-⟩:=h2;rw[Zcn,Zcn];have gm:=Hd (Zov x);have gl:=Hd (Zov y);have gf:=Hd (Zr7 x);have ge:=Hd (Zr7 y);obtain⟨dx,gj⟩:∃ d,d=digT x:=⟨_,rfl⟩;obtain⟨dy,gi⟩:∃ d,d=digT y:=⟨_,rfl⟩;rw[<- gj] at hx ga gm gf ⊢;rw[<- gi] at hy g9 gl ge ⊢;have gh:Hid (∀ W i,Below w.heap.size w W->Calls prog 166 #[.slice a dx.length ca,.int .i64 (i:Nat)] W fun e w'=>e=.returned (.int .i64 ((dx.getD i 0:Nat):Int))/\W=w'):=Hd fun W i hb=>Zh6 (ga.below hb) i
 have gg:Hid (∀ W i,Below w.heap.size w W->Calls prog 166 #[.slice b dy.length cb,.int .i64 (i:Nat)] W fun e w'=>e=.returned (.int .i64 ((dy.getD i 0:Nat):Int))/\W=w'):=Hd fun W i hb=>Zh6 (g9.below hb) i
 obtain⟨L,hL⟩:∃ L,L=dx.length:=⟨_,rfl⟩;obtain⟨M,hM⟩:∃ M,M=dy.length:=⟨_,rfl⟩;rw[<- hL] at hx gh ⊢;rw[<- hM] at hy gg ⊢;have HL:=Hd hL;have HM:=Hd hM;obtain⟨P,hP⟩:∃ P:Ending->World->Prop,P=fun e w'=>(∃ u,e=.returned u/\NumV w' u (x+y))/\Below w.heap.size w w':=⟨_,rfl⟩
 have gr:=Hd hP;rw[<- hP];have gq:=Hd (AddT.start dx dy);have gs:Hid (OwnI w w.heap.size (.slice none 0 0) (decZ [])):=Hd (Zfx _ _);have gt:Hid (Below w.heap.size w w):=Hd (Below.refl _ _);clear hP gj gi hL hM ga g9
 go_enter func167,ntmps167
 go_wp2_with fail
 go_loopw [5,6,7] (fun s5 s6 s7 wr=>∃ (i cc:Nat) (rs:List Nat),(i<=max L M\/i<=max L M+1/\cc=0)/\s7=.int .i64 (i:Int)/\s6=.int .i64 (cc:Int)/\Hid (AddT dx dy i cc rs)/\Hid (OwnI wr w.heap.size s5 (decZ rs))/\Hid (Below w.heap.size w wr)) (fun _ s6 s7 _=>(max L M-(intOf s7).toNat)*2+(intOf s6).toNat)
 case atStart=>exact⟨0,0,[],.inl (Nat.zero_le _),rfl,rfl,gq,gs,gt⟩
 case round =>
  obtain⟨i,cc,rs,hi,rfl,rfl,HS,HO,HB⟩:=hrel;have gA:=HS.out.c1;have gz:i<=100001:=by omega
  have g5:=Hd (gh.out wr i HB.out);have g0:=Hd (gg.out wr i HB.out);have gb:(decZ rs).length<1099511627776:=by rw[Zcn,HS.out.len];omega
  have g6:=Hd (HS.out.next gf.out ge.out);have gd:Hid (L<=i->dx.getD i 0=0):=Hd fun go=>by
   have:=HL.out;simp[List.getD,List.getElem?_eq_none (show dx.length<=i by omega)]
  have gc:Hid (M<=i->dy.getD i 0=0):=Hd fun go=>by
   have:=HM.out;simp[List.getD,List.getElem?_eq_none (show dy.length<=i by omega)]
  obtain⟨p,hp⟩:∃ p,p=dx.getD i 0:=⟨_,rfl⟩;obtain⟨q,hq⟩:∃ q,q=dy.getD i 0:=⟨_,rfl⟩;have gy:p<10:=by rw[hp];exact Zi2 gf.out i
  have gx:q<10:=by rw[hq];exact Zi2 ge.out i
  rw[<- hp] at g6 g5 gd;rw[<- hq] at g6 g0 gc;obtain⟨t,ht⟩:∃ t,t=(cc+p+q)%10:=⟨_,rfl⟩;obtain⟨c2,gk⟩:∃ c2,c2=(cc+p+q)/10:=⟨_,rfl⟩;rw[<- ht,<- gk] at g6;have gu:((cc:Int)+(p:Int)+(q:Int)).tmod 10=((t:Nat):Int):=by rw[Int.tmod_eq_emod_of_nonneg (by omega)];omega
  have gv:((cc:Int)+(p:Int)+(q:Int)).tdiv 10=((c2:Nat):Int):=by rw[Int.tdiv_eq_ediv_of_nonneg (by omega)];omega
  have gw:t<10:=by omega
  have gB:c2<=1:=by omega
  have g7:Hid ((L<=i/\M<=i/\cc=1)->c2=0):=Hd fun⟨k1,k2,k3⟩=>by
   have:=gd.out k1;have:=gc.out k2;omega
  clear hp hq ht gk gd gc
  by_cases k1:i<L
  ·have k1z:(i:Int)<(L:Int):=by omega
   go_wp2_with fail;refine g5.out.mono ?_;rintro e w' ⟨rfl,rfl⟩;go_wp2_with fail;refine g0.out.mono ?_;rintro e w' ⟨rfl,rfl⟩;go_wp2_with (at_builtin;refine Zbc _ rfl _ _ rfl w.heap.size w _ (decZ rs) ((t:Nat):Int) rfl rfl rfl rfl (by exact HO.out) gb (by exact HB.out.size) (by exact HB.out) ?_;intro v' wy g1 g2 g3 g4);have g8:Hid (OwnI wy w.heap.size v' (decZ (rs++[t]))):=Hd (by rw[Zgd];exact g1);have HB2:Hid (Below w.heap.size w wy):=Hd g2;clear g1 g2 g3 g4 HO HB g5 g0;go_wp2_with fail;go_roundw
   case rel=>exact⟨i+1,c2,rs++[t],by have:=g7.out;omega,by rw[show ((i+1:Nat):Int)=(i:Int)+1 by omega],rfl,g6,g8,HB2⟩
   case measure=>simp[intOf];have:=g7.out;omega
  ·have k1z:¬ (i:Int)<(L:Int):=by omega
   by_cases k2:i<M
   ·have k2z:(i:Int)<(M:Int):=by omega
    go_wp2_with fail;refine g5.out.mono ?_;rintro e w' ⟨rfl,rfl⟩;go_wp2_with fail;refine g0.out.mono ?_;rintro e w' ⟨rfl,rfl⟩;go_wp2_with (at_builtin;refine Zbc _ rfl _ _ rfl w.heap.size w _ (decZ rs) ((t:Nat):Int) rfl rfl rfl rfl (by exact HO.out) gb (by exact HB.out.size) (by exact HB.out) ?_;intro v' wy g1 g2 g3 g4);have g8:Hid (OwnI wy w.heap.size v' (decZ (rs++[t]))):=Hd (by rw[Zgd];exact g1);have HB2:Hid (Below w.heap.size w wy):=Hd g2;clear g1 g2 g3 g4 HO HB g5 g0;go_wp2_with fail;go_roundw
    case rel=>exact⟨i+1,c2,rs++[t],by have:=g7.out;omega,by rw[show ((i+1:Nat):Int)=(i:Int)+1 by omega],rfl,g6,g8,HB2⟩
    case measure=>simp[intOf];have:=g7.out;omega
   ·have k2z:¬ (i:Int)<(M:Int):=by omega
    by_cases k3:0<cc
    ·have k3z:(0:Int)<(cc:Int):=by omega
     go_wp2_with fail;refine g5.out.mono ?_;rintro e w' ⟨rfl,rfl⟩;go_wp2_with fail;refine g0.out.mono ?_;rintro e w' ⟨rfl,rfl⟩;go_wp2_with (at_builtin;refine Zbc _ rfl _ _ rfl w.heap.size w _ (decZ rs) ((t:Nat):Int) rfl rfl rfl rfl (by exact HO.out) gb (by exact HB.out.size) (by exact HB.out) ?_;intro v' wy g1 g2 g3 g4);have g8:Hid (OwnI wy w.heap.size v' (decZ (rs++[t]))):=Hd (by rw[Zgd];exact g1);have HB2:Hid (Below w.heap.size w wy):=Hd g2;clear g1 g2 g3 g4 HO HB g5 g0;go_wp2_with fail;go_roundw
     case rel=>exact⟨i+1,c2,rs++[t],by have:=g7.out;omega,by rw[show ((i+1:Nat):Int)=(i:Int)+1 by omega],rfl,g6,g8,HB2⟩
     case measure=>simp[intOf];have:=g7.out;omega
    ·have k3z:¬ (0:Int)<(cc:Int):=by omega
     have gp:cc=0:=by omega
     subst gp;have hT:=Zph HO.out HS.out.ok (by rw[HS.out.len];omega);rw[HS.out.done (by have:=HL.out;omega) (by have:=HM.out;omega),gm.out,gl.out] at hT;have HT:=Hd hT;have gn:=Hd HB.out;clear hT HO HS g6 g5 g0;go_wp2_with fail;refine HT.out.mono ?_;rintro e w' ⟨⟨u,rfl,hu⟩,hb⟩;have HF:Hid (P (.returned u) w'):=Hd (by rw[gr.out];exact⟨⟨u,rfl,hu⟩,gn.out.trans (hb.mono gn.out.size)⟩);clear hu hb HT;go_wp2_with fail;exact HF.out
theorem Zlt {w:World}{v1:Value}{x:Nat}(h1:NumV w v1 x)(hx:(digT x).length<=100000) :
 Calls prog 168 #[v1,.int .i64 65536] w fun e w'=>(∃ u,e=.returned u/\NumV w' u (65536*x))/\Below w.heap.size w w':=by
 obtain⟨a,ca,rfl,g7,-⟩:=h1;rw[Zcn];have gf:=Hd (Zov x);have g9:=Hd (Zr7 x);obtain⟨dx,gd⟩:∃ d,d=digT x:=⟨_,rfl⟩;rw[<- gd] at hx g7 gf g9 ⊢;have gb:Hid (∀ W i,Below w.heap.size w W->Calls prog 166 #[.slice a dx.length ca,.int .i64 (i:Nat)] W fun e w'=>e=.returned (.int .i64 ((dx.getD i 0:Nat):Int))/\W=w'):=Hd fun W i hb=>Zh6 (g7.below hb) i
 obtain⟨L,hL⟩:∃ L,L=dx.length:=⟨_,rfl⟩;rw[<- hL] at hx gb ⊢;have HL:=Hd hL;obtain⟨P,hP⟩:∃ P:Ending->World->Prop,P=fun e w'=>(∃ u,e=.returned u/\NumV w' u (65536*x))/\Below w.heap.size w w':=⟨_,rfl⟩
 have gj:=Hd hP;rw[<- hP];have gi:=Hd (TimT.start 65536 dx);have gk:Hid (OwnI w w.heap.size (.slice none 0 0) (decZ [])):=Hd (Zfx _ _);have gl:Hid (Below w.heap.size w w):=Hd (Below.refl _ _);clear hP gd hL g7
 go_enter func168,ntmps168
 go_wp2_with fail
 go_loopw [5,6,7] (fun s5 s6 s7 wr=>∃ (i cc:Nat) (rs:List Nat),i+cc<=L+65536/\s7=.int .i64 (i:Int)/\s6=.int .i64 (cc:Int)/\Hid (TimT 65536 dx i cc rs)/\Hid (OwnI wr w.heap.size s5 (decZ rs))/\Hid (Below w.heap.size w wr)) (fun _ s6 s7 _=>(L-(intOf s7).toNat)*65537+(intOf s6).toNat)
 case atStart=>exact⟨0,0,[],by omega,rfl,rfl,gi,gk,gl⟩
 case round =>
  obtain⟨i,cc,rs,hi,rfl,rfl,HS,HO,HB⟩:=hrel;have gs:=HS.out.c1;have gr:i<=200000:=by omega
  have g0:=Hd (gb.out wr i HB.out);have gc:(decZ rs).length<1099511627776:=by rw[Zcn,HS.out.len];omega
  have g5:=Hd (HS.out.next g9.out);have g8:Hid (L<=i->dx.getD i 0=0):=Hd fun gq=>by
   have:=HL.out;simp[List.getD,List.getElem?_eq_none (show dx.length<=i by omega)]
  obtain⟨p,hp⟩:∃ p,p=dx.getD i 0:=⟨_,rfl⟩;have gp:p<10:=by rw[hp];exact Zi2 g9.out i
  rw[<- hp] at g5 g0 g8;obtain⟨t,ht⟩:∃ t,t=(cc+65536*p)%10:=⟨_,rfl⟩;obtain⟨c2,ge⟩:∃ c2,c2=(cc+65536*p)/10:=⟨_,rfl⟩;rw[<- ht,<- ge] at g5;have gm:((cc:Int)+65536*(p:Int)).tmod 10=((t:Nat):Int):=by rw[Int.tmod_eq_emod_of_nonneg (by omega)];omega
  have gn:((cc:Int)+65536*(p:Int)).tdiv 10=((c2:Nat):Int):=by rw[Int.tdiv_eq_ediv_of_nonneg (by omega)];omega
  have go:t<10:=by omega
  have gt:c2<=65536:=by omega
  have g6:Hid ((L<=i/\0<cc)->c2+1<=cc):=Hd fun⟨k1,k3⟩=>by
   have:=g8.out k1;omega
  clear hp ht ge g8
  by_cases k1:i<L
  ·have k1z:(i:Int)<(L:Int):=by omega
   go_wp2_with fail;refine g0.out.mono ?_;rintro e w' ⟨rfl,rfl⟩;go_wp2_with (at_builtin;refine Zbc _ rfl _ _ rfl w.heap.size w _ (decZ rs) ((t:Nat):Int) rfl rfl rfl rfl (by exact HO.out) gc (by exact HB.out.size) (by exact HB.out) ?_;intro v' wy g1 g2 g3 g4);have ga:Hid (OwnI wy w.heap.size v' (decZ (rs++[t]))):=Hd (by rw[Zgd];exact g1);have HB2:Hid (Below w.heap.size w wy):=Hd g2;clear g1 g2 g3 g4 HO HB g0;go_wp2_with fail;go_roundw
   case rel=>exact⟨i+1,c2,rs++[t],by have:=g6.out;omega,by rw[show ((i+1:Nat):Int)=(i:Int)+1 by omega],rfl,g5,ga,HB2⟩
   case measure=>simp[intOf];have:=g6.out;omega
  ·have k1z:¬ (i:Int)<(L:Int):=by omega
   by_cases k3:0<cc
   ·have k3z:(0:Int)<(cc:Int):=by omega
    go_wp2_with fail;refine g0.out.mono ?_;rintro e w' ⟨rfl,rfl⟩;go_wp2_with (at_builtin;refine Zbc _ rfl _ _ rfl w.heap.size w _ (decZ rs) ((t:Nat):Int) rfl rfl rfl rfl (by exact HO.out) gc (by exact HB.out.size) (by exact HB.out) ?_;intro v' wy g1 g2 g3 g4);have ga:Hid (OwnI wy w.heap.size v' (decZ (rs++[t]))):=Hd (by rw[Zgd];exact g1);have HB2:Hid (Below w.heap.size w wy):=Hd g2;clear g1 g2 g3 g4 HO HB g0;go_wp2_with fail;go_roundw
    case rel=>exact⟨i+1,c2,rs++[t],by have:=g6.out;omega,by rw[show ((i+1:Nat):Int)=(i:Int)+1 by omega],rfl,g5,ga,HB2⟩
    case measure=>simp[intOf];have:=g6.out;omega
   ·have k3z:¬ (0:Int)<(cc:Int):=by omega
    have gh:cc=0:=by omega
    subst gh;have hT:=Zph HO.out HS.out.ok (by rw[HS.out.len];omega);rw[HS.out.done (by have:=HL.out;omega),gf.out] at hT;have HT:=Hd hT;have gg:=Hd HB.out;clear hT HO HS g5 g0;go_wp2_with fail;refine HT.out.mono ?_;rintro e w' ⟨⟨u,rfl,hu⟩,hb⟩;have HF:Hid (P (.returned u) w'):=Hd (by rw[gj.out];exact⟨⟨u,rfl,hu⟩,gg.out.trans (hb.mono gg.out.size)⟩);clear hu hb HT;go_wp2_with fail;exact HF.out
open Go.RowKit
theorem Ztb {w:World}{n:Nat}(hn:n<18446744073709551616) :
 Calls prog 80 #[.int .u64 (n:Nat)] w fun e w'=>(∃ v,e=.returned v/\NumV w' v n)/\Below w.heap.size w w':=by
 refine(Yat hn).mono ?_;rintro e w' ⟨⟨v,rfl,h⟩,hb⟩;have h2:=Zfr (x:=n) 20 (by omega);exact⟨⟨v,rfl,(Ztg h).sliceIs (by rw[Zcn];omega)⟩,hb⟩
theorem Zzu {w:World}{v1 v2:Value}{x:Nat}(h1:NumV w v1 x)(h2:NumV w v2 x)(hx:(digT x).length<=100000) :
 Calls prog 133 #[v1,v2] w fun e w'=>e=.returned (.int .i64 0)/\w=w':=by
 obtain⟨a,ca,rfl,g1,-⟩:=h1;obtain⟨b,cb,rfl,g0,-⟩:=h2;rw[Zcn];have HA:Hid (∀ k:Nat,0<k->∃ d:Nat,Calls prog 166 #[.slice a (digT x).length ca,.int .i64 ((k:Int)-1)] w (fun e w'=>e=.returned (.int .i64 ((d:Nat):Int))/\w=w')/\Calls prog 166 #[.slice b (digT x).length cb,.int .i64 ((k:Int)-1)] w (fun e w'=>e=.returned (.int .i64 ((d:Nat):Int))/\w=w')):=Hd fun k hk=>by
  rw[show (k:Int)-1=((k-1:Nat):Int) by omega];exact⟨_,Zh6 g1 _,Zh6 g0 _⟩
 obtain⟨L,hL⟩:∃ L,L=(digT x).length:=⟨_,rfl⟩;rw[<- hL] at hx HA ⊢;clear g1 g0 hL
 go_enter func133,ntmps133
 go_wp2_with fail
 go_loopw [4,6] (fun s4 s6 wr=>∃ k:Nat,k<=L/\s6=.int .i64 ((k:Int)-1)/\Hid (w=wr)) (fun _ s6 _=>(intOf s6+1).toNat)
 case atStart=>exact⟨L,Nat.le_refl _,rfl,Hd rfl⟩
 case round =>
  obtain⟨k,hk,rfl,HW⟩:=hrel;have hw:=HW.out;subst hw
  by_cases hp:0<k
  ·have g4:(k:Int)-1>=0:=by omega
   obtain⟨d,q1,q2⟩:=HA.out k hp;have g3:=Hd q1;have g2:=Hd q2;have g5:¬ (d:Int)<(d:Int):=by omega
   clear q1 q2 HA;go_wp2_with fail;refine g3.out.mono ?_;rintro e w' ⟨rfl,rfl⟩;go_wp2_with fail;refine g2.out.mono ?_;rintro e w' ⟨rfl,rfl⟩;go_wp2_with fail;refine g3.out.mono ?_;rintro e w' ⟨rfl,rfl⟩;go_wp2_with fail;refine g2.out.mono ?_;rintro e w' ⟨rfl,rfl⟩;go_wp2_with fail;go_roundw
   case rel=>exact⟨k-1,by omega,by rw[show ((k-1:Nat):Int)=(k:Int)-1 by omega],Hd trivial⟩
   case measure=>simp[intOf];omega
  ·obtain rfl:k=0:=by omega
   clear HA;go_wp2_with fail
   first|trivial|exact⟨rfl,rfl⟩|(go_ret;exact⟨rfl,rfl⟩)
theorem Zw6 (ds:List Nat)(k:Nat)(hk:k<ds.length):valD (ds.drop k)=ds.getD k 0+4294967296*valD (ds.drop (k+1)):=by
 rw[List.drop_eq_getElem_cons hk];simp[valD,List.getD,hk]
theorem Yc4 (ds:List Nat)(k:Nat):valD (ds.drop k)<=valD ds:=by
 have:=Zcj (ds.take k) (ds.drop k);rw[List.take_append_drop] at this;rw[this];have h:=Nat.le_mul_of_pos_left (valD (ds.drop k)) (show 0<4294967296^(ds.take k).length from Nat.pow_pos (by omega));omega
theorem Zuw {w:World}{v:Value}{x:Nat}(h:NatV w v x)(hx:x<10^40) :
 Calls prog 134 #[v] w fun e w'=>(∃ u,e=.returned u/\NumV w' u x)/\Below w.heap.size w w':=by
 obtain⟨a,c,rfl,-,-,hu⟩:=h;have HV:=Hd (Zct x);have HX:=Hd hx;obtain⟨ds,g9⟩:∃ ds,ds=digD x:=⟨_,rfl⟩;rw[<- g9] at hu HV ⊢;have gg:=hu.len;have HCK:Hid (∀ k,k<ds.length->∃ b off,a=some ⟨b,off,none⟩/\w.cell? ⟨b,off+k,none⟩=some (.int .u32 ((ds.getD k 0:Nat):Int))):=Hd hu.cells;have gp:=Hd hu.ok;obtain⟨P,hP⟩:∃ P:Ending->World->Prop,P=fun e w'=>(∃ u,e=.returned u/\NumV w' u x)/\Below w.heap.size w w':=⟨_,rfl⟩
 have go:=Hd hP;rw[<- hP];have g8:Hid (∀ k,valD (ds.drop k)<10^40):=Hd fun k=>Nat.lt_of_le_of_lt (Yc4 ds k) (by rw[HV.out];exact HX.out)
 have g6:Hid (NumV w (.slice none 0 0) (valD (ds.drop ds.length))):=Hd (by
  rw[List.drop_length];unfold NumV;rw[show valD []=0 from rfl,Zdk];exact Zh1 w)
 have ge:Hid (Below w.heap.size w w):=Hd (Below.refl _ _);obtain⟨L,hL⟩:∃ L,L=ds.length:=⟨_,rfl⟩;rw[<- hL] at gg HCK g6 ⊢;have HL:=Hd hL;clear hP hu g9 hL hx
 go_enter func134,ntmps134
 go_wp2_with fail
 go_loopw [3,4] (fun s3 s4 wr=>∃ k:Nat,k<=L/\s4=.int .i64 ((k:Int)-1)/\Hid (NumV wr s3 (valD (ds.drop k)))/\Hid (Below w.heap.size w wr)) (fun _ s4 _=>(intOf s4+1).toNat)
 case atStart=>exact⟨L,Nat.le_refl _,rfl,g6,ge⟩
 case round =>
  obtain⟨k,hk,rfl,HN,HB⟩:=hrel
  by_cases hp:0<k
  ·have gu:(k:Int)-1>=0:=by omega
   obtain⟨b,off,rfl,ck⟩:=HCK.out (k-1) (by omega);have ck2:=(HB.out.cell (p:=⟨b,off+(k-1),none⟩) (Zab ck)).trans ck;have gh:ds.getD (k-1) 0<4294967296:=Zen gp.out (k-1);have g0:=Zw6 ds (k-1) (by rw[<- HL.out];omega);rw[show k-1+1=k by omega] at g0;have g5:=g8.out k;have gn:=g8.out (k-1);obtain⟨y,hy⟩:∃ y,y=valD (ds.drop k):=⟨_,rfl⟩;obtain⟨d,hd⟩:∃ d,d=ds.getD (k-1) 0:=⟨_,rfl⟩;have hn:=HN.out;rw[<- hy] at g0 hn g5;rw[<- hd] at g0 ck2 gh;have gi:=Hd (g0.trans (by omega:d+4294967296*y=65536*(65536*y)+d));have gm:=Zfr (x:=y) 40 g5;have gl:=Zfr (x:=65536*y) 45 (by rw[show (10:Nat)^45=100000*10^40 by decide];omega);have gk:=Zfr (x:=65536*(65536*y)) 50 (by rw[show (10:Nat)^50=10000000000*10^40 by decide];omega);have gj:=Zfr (x:=d) 20 (by omega);obtain⟨wz,g4⟩:∃ wz,wz=wr.drew:=⟨_,rfl⟩;have g3:Below wr.heap.size wr wz:=by rw[g4];exact Zag wr 1
   have ga:=Hd g4;have cz:=(g3.cell (p:=⟨b,off+(k-1),none⟩) (Zab ck2)).trans ck2;have gc:=Hd (Zlt (hn.below g3) (by omega));have g7:=Hd (HB.out.trans (g3.mono HB.out.size));have gb:Hid (∀ W u,NumV W u (65536*y)->Calls prog 168 #[u,.int .i64 65536] W fun e w'=>(∃ u,e=.returned u/\NumV w' u (65536*(65536*y)))/\Below W.heap.size W w'):=Hd fun W u g=>Zlt g (by omega)
   have gd:Hid (∀ W,Calls prog 80 #[.int .u64 (d:Nat)] W fun e w'=>(∃ v,e=.returned v/\NumV w' v d)/\Below W.heap.size W w'):=Hd fun W=>Ztb (by omega)
   have gf:Hid (∀ W u1 u2,NumV W u1 (65536*(65536*y))->NumV W u2 d->Calls prog 167 #[u1,u2] W fun e w'=>(∃ u,e=.returned u/\NumV w' u (65536*(65536*y)+d))/\Below W.heap.size W w'):=Hd fun W u1 u2 g1 g2=>Zwb g1 g2 (by omega) (by omega)
   have gv:((k:Int)-1).toNat=k-1:=by omega
   have gw:k-1<L:=by omega
   have gs:(k:Int)-1<(L:Int):=by omega
   have gt:IntKind.u64.wrap (d:Int)=(d:Int):=by rw[IntKind.wrap_u64];omega
   clear g4 g3 g5 gn hy hd g0 ck ck2 hn gm gl gk gj HCK HN g8 g6 ge HB;go_upto_region 5 with fail;refine Zfw [0,3,4,5,6,7,1,2,8,9,10] (fun W=>W.cell? ⟨b,off+(k-1),none⟩=some (.int .u32 ((d:Nat):Int))) (fun ch w'=>False) (fun c a w hd h=>h.elim) (by kernel_rfl) (by rw[<- ga.out];exact cz) ?_;rw[<- ga.out]
   iterate 6
    refine Zea rfl rfl (by kernel_rfl) ?_;apply Exists.intro;refine⟨fun w' hw=>?_,?_⟩
    . have q1:w'.cell? ⟨b,off+(k-1),none⟩=some (.int .u32 ((d:Nat):Int)):=hw;go_simp;rfl
    simp only[Zai]
   refine Zbr (R1:=fun u w'=>NumV w' u (65536*y)/\Below wz.heap.size wz w') rfl (by kernel_rfl) rfl rfl (by go_simp) (gc.out.mono fun x w' ⟨⟨u,e,q1⟩,q2⟩=>⟨u,e,q1,q2⟩) (by rintro u w' ⟨_,q⟩;exact(q.cell (p:=⟨b,off+(k-1),none⟩) (Zab cz)).trans cz) ?_;rintro u1 w1-⟨n1,p1⟩;have c1:=(p1.cell (p:=⟨b,off+(k-1),none⟩) (Zab cz)).trans cz;simp only[Zai];refine Zbr (R1:=fun u w'=>NumV w' u (65536*(65536*y))/\Below w1.heap.size w1 w') rfl (by kernel_rfl) rfl rfl (by go_simp) ((gb.out w1 u1 n1).mono fun x w' ⟨⟨u,e,q1⟩,q2⟩=>⟨u,e,q1,q2⟩) (by rintro u w' ⟨_,q⟩;exact(q.cell (p:=⟨b,off+(k-1),none⟩) (Zab c1)).trans c1) ?_;rintro u2 w2-⟨n2,p2⟩;have c2:=(p2.cell (p:=⟨b,off+(k-1),none⟩) (Zab c1)).trans c1;simp only[Zai];refine Zbr (R1:=fun u w'=>NumV w' u d/\Below w2.heap.size w2 w') rfl (by kernel_rfl) rfl rfl (by go_simp) ((gd.out w2).mono fun x w' ⟨⟨u,e,q1⟩,q2⟩=>⟨u,e,q1,q2⟩) (by rintro u w' ⟨_,q⟩;exact(q.cell (p:=⟨b,off+(k-1),none⟩) (Zab c2)).trans c2) ?_;rintro u3 w3-⟨n3,p3⟩;have c3:=(p3.cell (p:=⟨b,off+(k-1),none⟩) (Zab c2)).trans c2;simp only[Zai];refine Zbr (R1:=fun u w'=>NumV w' u (65536*(65536*y)+d)/\Below w3.heap.size w3 w') rfl (by kernel_rfl) rfl rfl (by go_simp) ((gf.out w3 u2 u3 (n2.below p3) n3).mono fun x w' ⟨⟨u,e,q1⟩,q2⟩=>⟨u,e,q1,q2⟩) (by rintro u w' ⟨_,q⟩;exact(q.cell (p:=⟨b,off+(k-1),none⟩) (Zab c3)).trans c3) ?_;rintro u4 w4-⟨n4,p4⟩;simp only[Zai];refine Zea rfl rfl (by kernel_rfl) ?_;apply Exists.intro;refine⟨fun w' hw=>?_,?_⟩
   . go_simp;rfl
   simp only[Zai];refine Zld (by kernel_rfl) ?_;have gq:Hid (NumV w4 u4 (valD (ds.drop (k-1)))):=Hd (by rw[gi.out];exact n4);have gr:Hid (Below w.heap.size w w4):=Hd (g7.out.trans (((p1.trans (p2.mono p1.size)).trans (p3.mono (p1.trans (p2.mono p1.size)).size)).trans (p4.mono ((p1.trans (p2.mono p1.size)).trans (p3.mono (p1.trans (p2.mono p1.size)).size)).size) |>.mono g7.out.size));clear n1 n2 n3 n4 p1 p2 p3 p4 c1 c2 c3 cz gc gb gd gf g7;go_wp2_with fail;go_roundw
   case rel=>exact⟨k-1,by omega,by rw[show ((k-1:Nat):Int)=(k:Int)-1 by omega],gq,gr⟩
   case measure=>simp[intOf];omega
  ·obtain rfl:k=0:=by omega
   have HF:Hid (P (.returned u3) wr):=Hd (by
    rw[go.out];refine⟨⟨_,rfl,?_⟩,HB.out⟩;have:=HN.out;rw[List.drop_zero,HV.out] at this;exact this)
   clear HN HB HCK;go_wp2_with fail;exact HF.out
theorem Zsc {w:World}{v:Value}{x:Nat}(h:NatV w v x) :
 Calls prog 132 #[v] w fun e w'=>e=.returned (.bool true)/\w=w':=by
 obtain⟨a,c,rfl,-,-,hu⟩:=h;have hl:=hu.len
 by_cases h0:(digD x).length=0
 ·rw[h0];clear hu h0 hl
  go_enter func132,ntmps132
  go_wp2_with fail;go_ret;exact⟨rfl,rfl⟩
 ·obtain⟨k,hk⟩:∃ k,(digD x).length=k+1:=⟨(digD x).length-1,by omega⟩;have ht:=Ybi x k hk;obtain⟨b,off,rfl,hc⟩:=hu.cells k (by omega);rw[hk] at hl ⊢;obtain⟨d,hd⟩:∃ d,d=(digD x).getD k 0:=⟨_,rfl⟩;rw[<- hd] at hc ht;have g4:¬ (d:Int)=0:=by omega
  have g1:(((k:Int)+1) == 0)=false:=by simp;omega
  have g3:((d:Int) != 0)=true:=by simp;omega
  have g0:((k+1:Nat):Int)-1=(k:Int):=by omega
  have g2:k<k+1:=by omega
  clear hu hd h0 hk ht
  go_enter func132,ntmps132
  go_wp2_with fail;go_ret;exact⟨rfl,rfl⟩
theorem Yac {w:World}{v u:Value}{x:Nat}(h:NatV w v x)(hu:NumV w u x)(hx:x<10^40) :
 Calls prog 79 #[v,u] w fun e w'=>e=.returned (.bool true)/\Below w.heap.size w w':=by
 have HR:=Hd (Zsc h);have HF:=Hd (Zuw h hx);have hl:=Zfr (x:=x) 40 hx;have HC:Hid (∀ W u1,NumV W u1 x->Below w.heap.size w W->Calls prog 133 #[u1,u] W fun e w'=>e=.returned (.int .i64 0)/\W=w'):=Hd fun W u1 g hb=>Zzu g (hu.below hb) (by omega)
 clear h hu hl hx
 go_enter func79,ntmps79
 go_wp2_with fail;refine HR.out.mono ?_;rintro e w' ⟨rfl,rfl⟩;go_wp2_with fail;refine HF.out.mono ?_;rintro e w1 ⟨⟨u1,rfl,h1⟩,hb⟩;have g0:=Hd (HC.out w1 u1 h1 hb);have HB:=Hd hb;clear h1 hb HF HC HR;go_wp2_with fail;refine g0.out.mono ?_;rintro e w' ⟨rfl,rfl⟩;go_wp2_with fail;go_ret;exact⟨rfl,HB.out⟩
theorem Yad {w:World}{v:Value}{x:Nat}(h:NatV w v x)(hx:x<9223372036854775808) :
 Calls prog 26 #[v,.int .i64 (x:Nat)] w fun e w'=>e=.returned (.bool true)/\Below w.heap.size w w':=by
 have HO:=Hd (Ztb (w:=w) (n:=x) (by omega));have HI:Hid (∀ W u,NumV W u x->Below w.heap.size w W->Calls prog 79 #[v,u] W fun e w'=>e=.returned (.bool true)/\Below W.heap.size W w'):=Hd fun W u g hb=>Yac (h.below hb) g (by omega)
 have g2:(x:Int)<9223372036854775808:=by omega
 clear h
 go_enter func26,ntmps26
 go_wp2_with fail;refine HO.out.mono ?_;rintro e w1 ⟨⟨u1,rfl,h1⟩,hb⟩;have g1:=Hd (HI.out w1 u1 h1 hb);have HB:=Hd hb;clear h1 hb HO HI;go_wp2_with fail;refine g1.out.mono ?_;rintro e w2 ⟨rfl,g0⟩;have HB2:=Hd (HB.out.trans (g0.mono HB.out.size));clear g0;go_wp2_with fail;go_ret;exact⟨rfl,HB2.out⟩
open Go.RowKit
open Go.RowKit
end Go.Proofs.YtgmbklaolcmljaaGreat

namespace Go.Proofs.YtgmbklaolcmljaaGreat
open Go.Proofs.Tryz
open Go.RowKit Go.Deep Go.ChangeShapes Go.WideShapes
theorem wfI {x:Int}(h:(Lit.int .i64 x).wf=true):okI x:=by
 unfold okI;simp only[Lit.wf,IntKind.min,IntKind.max,IntKind.signed,IntKind.bits,Bool.and_eq_true,decide_eq_true_eq,if_true] at h;omega
theorem Zni {b off:Nat}(k:Nat):(⟨b,off,none⟩:Addr).add k=⟨b,off+k,none⟩:=by unfold Addr.add;split<;>simp_all
theorem add0 (a:Addr):a.add 0=a:=by simp[Addr.add]
theorem Zgh {w:World}{a:Addr}{v:Value}(h:w.cell? a=some v):a.spot=none:=by
 obtain⟨b,off,spot⟩:=a;cases spot with
 | none=>rfl
 | some s=>simp[World.cell?] at h;split at h<;>simp at h
theorem Zwr {n:Nat}{p:Nat->Ev->Prop}(h:∀ i,i<n->∃ x,p i x):∃ f:Nat->Ev,∀ i,i<n->p i (f i):=by
 classical
 refine⟨fun i=>if hi:i<n then Classical.choose (h i hi) else ⟨0,0,0⟩,fun i hi=>?_⟩;simp only[dif_pos hi];exact Classical.choose_spec (h i hi)
theorem Zn8 {H:Type}{enc:TypeId×Value->H}{P:Program}{w:World}{base:Nat}{spare:Nat->Bool}{held:Bool}{t e:TypeId}{fuel:Nat}{cs:List Value}{x:DataW H×List MemPlace}(ht:P.underlying t=some (.slice e))(h:DataW.trod enc P w base spare held fuel t cs=some x) :
 cs=[.slice none 0 0]\/∃ (a:Addr) (len cap n:Nat),cs=[.slice (some a) len cap]/\len<=cap/\cap<=maxLen/\fuel=n+1/\∀ i,i<len->∃ cs' y,w.cells? base (a.add (i*P.cellsOf e)) (P.cellsOf e)=some cs'/\DataW.trod enc P w base spare held n e cs'=some y:=by
 rcases DataW.trod_slice ht h with ⟨h0,_⟩|⟨a,len,cap,elems,rest,n,hn,e1,_,_,hl,hm,g1,g0,_⟩
 . exact .inl h0
 . refine .inr ⟨a,len,cap,n,e1,hl,hm,hn,fun i hi=>?_⟩;have:=g0 i hi;rw[List.getElem?_eq_getElem (by omega)] at this;obtain⟨cs',h1,h2⟩:=Option.bind_eq_some_iff.1 this;exact⟨cs',_,h1,h2⟩
theorem open_expr {H:Type}{enc:TypeId×Value->H}{w:World}{base:Nat}{spare:Nat->Bool}{held:Bool}:∀ (fuel:Nat) {cs:List Value} {x:DataW H×List MemPlace},
 DataW.trod enc prog w base spare held fuel 36 cs=some x->∃ e x0 x1 x2,cs=[x0,x1,x2]/\Za1 w e (.agg #[x0,x1,x2]):=by
 intro fuel
 induction fuel using Nat.strongRecOn with
 | _ fuel IH =>
   intro cs x h;obtain⟨xs,k,hk,g8,g5,g6,hf⟩:=DataW.trod_struct underlying36 h;have c1:prog.cellsOf 3=1:=by kernel_rfl
   have c2:prog.cellsOf 23=1:=by kernel_rfl
   have c3:prog.cellsOf 36=3:=by kernel_rfl
   rw[c3] at g5
   match xs,g6,cs,g5 with
   | [y0,y1,y2],_,[v0,v1,v2],_ =>
     have g0:=hf 0 _ rfl;have g1:=hf 1 _ rfl;have g2:=hf 2 _ rfl;simp[c1,c2] at g0 g1 g2;obtain⟨n0,e0,_,w0⟩:=DataW.trod_int underlying3 g0;obtain⟨n1,e1,_,w1⟩:=DataW.trod_int underlying3 g1;simp only[List.cons.injEq,and_true] at e0 e1;subst e0 e1;rcases Zn8 underlying23 g2 with e2|⟨a,len,cap,n,e2,hl,hm,g9,hx⟩
     . simp only[List.cons.injEq,and_true] at e2;subst e2;exact⟨.mk n0 n1 0 (fun _=>.nil),_,_,_,rfl,by unfold Za1;exact⟨none,0,rfl,wfI w0,wfI w1,by omega,fun k hk=>by omega⟩⟩
     ·simp only[List.cons.injEq,and_true] at e2;subst e2;have each:∀ i,i<len->∃ q:ExT,∃ x0 x1 x2,w.cell? (a.add (i*3))=some x0/\w.cell? ((a.add (i*3)).add 1)=some x1/\w.cell? ((a.add (i*3)).add 2)=some x2/\Za1 w q (.agg #[x0,x1,x2]):=by
       intro i hi;obtain⟨cs',y,h1,h2⟩:=hx i hi;rw[c3] at h1;obtain⟨_,g7,g3⟩:=World.cells?_some h1;obtain⟨e,x0,x1,x2,rfl,he⟩:=IH n (by omega) h2;have f0:=g3 0 (by omega);have f1:=g3 1 (by omega);have f2:=g3 2 (by omega);rw[add0] at f0;exact⟨e,x0,x1,x2,by simpa using f0,by simpa using f1,by simpa using f2,he⟩
      obtain⟨q,hq⟩:=choose_lt each;refine⟨.mk n0 n1 len q,_,_,_,rfl,?_⟩;unfold Za1;refine⟨some a,cap,rfl,wfI w0,wfI w1,by unfold maxLen at hm;omega,fun i hi=>?_⟩;obtain⟨x0,x1,x2,f0,f1,f2,he⟩:=hq i hi;have g4:a.spot=none:=by
       obtain⟨_,_,_,q0,_⟩:=hq 0 (by omega);have:=Zgh q0;simpa [Addr.add] using this
      obtain⟨b,off,spot⟩:=a;dsimp only at g4;subst g4;simp only[Zni] at f0 f1 f2;exact⟨b,off,x0,x1,x2,rfl,f0,f1,f2,he⟩
theorem Zvg {H:Type}{enc:TypeId×Value->H}{w:World}{base:Nat}{spare:Nat->Bool}{held:Bool}{fuel:Nat}{cs:List Value}{x:DataW H×List MemPlace}
 (h:DataW.trod enc prog w base spare held fuel 23 cs=some x):∃ a l cap,cs=[.slice a l.length cap]/\Zkj w a l:=by
 have c3:prog.cellsOf 36=3:=by kernel_rfl
 rcases Zn8 underlying23 h with e2|⟨a,len,cap,n,e2,hl,hm,g4,hx⟩
 . exact⟨none,[],0,e2,⟨by simp,fun k hk=>by simp at hk⟩⟩
 ·subst e2;have each:∀ i,i<len->∃ q:ExT,∃ x0 x1 x2,w.cell? (a.add (i*3))=some x0/\w.cell? ((a.add (i*3)).add 1)=some x1/\w.cell? ((a.add (i*3)).add 2)=some x2/\Za1 w q (.agg #[x0,x1,x2]):=by
   intro i hi;obtain⟨cs',y,h1,h2⟩:=hx i hi;rw[c3] at h1;obtain⟨_,g3,g0⟩:=World.cells?_some h1;obtain⟨e,x0,x1,x2,rfl,he⟩:=open_expr n h2;have f0:=g0 0 (by omega);have f1:=g0 1 (by omega);have f2:=g0 2 (by omega);rw[add0] at f0;exact⟨e,x0,x1,x2,by simpa using f0,by simpa using f1,by simpa using f2,he⟩
  obtain⟨q,hq⟩:=choose_lt each;refine⟨some a,(List.range len).map q,cap,by simp,⟨by unfold maxLen at hm;simp;omega,fun i hi=>?_⟩⟩;have g2:i<len:=by simpa using hi
  obtain⟨x0,x1,x2,f0,f1,f2,he⟩:=hq i g2;have g1:a.spot=none:=by
   obtain⟨_,_,_,q0,_⟩:=hq 0 (by omega);have:=Zgh q0;simpa [Addr.add] using this
  obtain⟨b,off,spot⟩:=a;dsimp only at g1;subst g1;simp only[Zni] at f0 f1 f2;exact⟨b,off,x0,x1,x2,rfl,f0,f1,f2,by simpa using he⟩
theorem open_evs {H:Type}{enc:TypeId×Value->H}{w:World}{base:Nat}{spare:Nat->Bool}{held:Bool}{fuel:Nat}{cs:List Value}{x:DataW H×List MemPlace}
 (h:DataW.trod enc prog w base spare held fuel 24 cs=some x):∃ a l cap,cs=[.slice a l.length cap]/\EvsAt w a l/\(∀ ev∈l,okI ev.after/\okI ev.kind/\okI ev.level)/\(a=none->cap=0)/\l.length<=cap/\cap<=maxLen:=by
 have c1:prog.cellsOf 3=1:=by kernel_rfl
 have c3:prog.cellsOf 105=3:=by kernel_rfl
 rcases Zn8 underlying24 h with e2|⟨a,len,cap,n,e2,hl,hm,ga,hx⟩
 . exact⟨none,[],0,e2,⟨by simp,fun k hk=>by simp at hk⟩,by simp,fun _=>rfl,by simp,by simp⟩
 ·subst e2;have each:∀ i,i<len->∃ q:Ev,w.cell? (a.add (i*3))=some (.int .i64 q.after)/\w.cell? ((a.add (i*3)).add 1)=some (.int .i64 q.kind)/\w.cell? ((a.add (i*3)).add 2)=some (.int .i64 q.level)/\okI q.after/\okI q.kind/\okI q.level:=by
   intro i hi;obtain⟨cs',y,h1,h2⟩:=hx i hi;rw[c3] at h1;obtain⟨_,g5,g3⟩:=World.cells?_some h1;obtain⟨xs,k,hk,g9,_,g6,hf⟩:=DataW.trod_struct underlying105 h2
   match xs,g6,cs',g5 with
   | [y0,y1,y2],_,[v0,v1,v2],_ =>
     have g0:=hf 0 _ rfl;have g1:=hf 1 _ rfl;have g2:=hf 2 _ rfl;simp[c1] at g0 g1 g2;obtain⟨n0,e0,_,w0⟩:=DataW.trod_int underlying3 g0;obtain⟨n1,e1,_,w1⟩:=DataW.trod_int underlying3 g1;obtain⟨n2,e2,_,w2⟩:=DataW.trod_int underlying3 g2;simp only[List.cons.injEq,and_true] at e0 e1 e2;subst e0 e1 e2;have f0:=g3 0 (by omega);have f1:=g3 1 (by omega);have f2:=g3 2 (by omega);rw[add0] at f0;exact⟨⟨n0,n1,n2⟩,by simpa using f0,by simpa using f1,by simpa using f2,wfI w0,wfI w1,wfI w2⟩
  obtain⟨q,hq⟩:=Zwr each;refine⟨some a,(List.range len).map q,cap,by simp,⟨by unfold maxLen at hm;simp;omega,fun i hi=>?_⟩,?_,by simp,by simpa using hl,hm⟩
  ·have g7:i<len:=by simpa using hi
   obtain⟨f0,f1,f2,_⟩:=hq i g7;have g4:a.spot=none:=by
    obtain⟨q0,_⟩:=hq 0 (by omega);have:=Zgh q0;simpa [Addr.add] using this
   obtain⟨b,off,spot⟩:=a;dsimp only at g4;subst g4;simp only[Zni] at f0 f1 f2;exact⟨b,off,rfl,by simpa using f0,by simpa using f1,by simpa using f2⟩
  . intro ev g8;obtain⟨i,hi,rfl⟩:=List.mem_map.1 g8;exact(hq i (by simpa using hi)).2.2.2
theorem open_ask {H:Type}{enc:TypeId×Value->H}{w:World}{base:Nat}{held:Bool}{fuel:Nat}{v:Value}{cs:Array Value}{x:DataW H×List MemPlace}(hv:v=.agg cs)
 (h:DataW.trod enc prog w base (fun _=>true) held fuel 26 v.cells.toList=some x):∃ q ao ae ap co ce cp,v=askV q ao ae ap co ce cp/\AskAt w q ao ae ap/\(∀ ev∈q.plan,okI ev.after/\okI ev.kind/\okI ev.level)/\(ao=none->co=0)/\(ap=none->cp=0)/\q.plan.length<=cp/\cp<=maxLen:=by
 subst hv;obtain⟨xs,k,hk,gh,g5,g7,hf⟩:=DataW.trod_struct underlying26 h;have c1:prog.cellsOf 3=1:=by kernel_rfl
 have c2:prog.cellsOf 22=1:=by kernel_rfl
 have c4:prog.cellsOf 23=1:=by kernel_rfl
 have c5:prog.cellsOf 24=1:=by kernel_rfl
 have c3:prog.cellsOf 26=4:=by kernel_rfl
 rw[c3] at g5;obtain⟨cl⟩:=cs;simp only[Value.cells] at g5 hf
 match xs,g7,cl,g5 with
 | [y0,y1,y2,y3],_,[v0,v1,v2,v3],_ =>
   have g0:=hf 0 _ rfl;have g1:=hf 1 _ rfl;have g2:=hf 2 _ rfl;have g3:=hf 3 _ rfl;simp[c1,c2,c4,c5] at g0 g1 g2 g3;obtain⟨n0,e0,_,w0⟩:=DataW.trod_int underlying3 g0;simp only[List.cons.injEq,and_true] at e0;subst e0;obtain⟨ao,zs,co,e1,ge,gb⟩:∃ a zs c,v1=.slice a zs.length c/\Zau w a zs/\(a=none->c=0):=by
    rcases open_ints underlying22 underlying3 (by kernel_rfl) g1 with ⟨g4,_⟩|⟨x,l,c,zs,g4,_,hl,hm,hz,_,g6,g8⟩
    . simp at g4;subst g4;obtain⟨a,c,e,h1,h2⟩:=sliceIs_of_row (w:=w) (a:=none) (len:=0) (cap:=0) (.inl ⟨rfl,rfl,rfl,rfl⟩);exact⟨a,_,c,e,h1,h2⟩
    . simp at g4;subst g4;obtain⟨a,c,e,h1,h2⟩:=sliceIs_of_row (w:=w) (.inr ⟨_,rfl,hl,hm,by simpa using hz,g6,g8⟩);exact⟨a,_,c,e,h1,h2⟩
   obtain⟨ae,es,ce,e2,gg⟩:=Zvg g2;obtain⟨ap,evs,cp,e3,gf,g9,ga,gd,gc⟩:=open_evs g3;simp only[List.cons.injEq,and_true] at e2 e3;subst e1 e2 e3;exact⟨⟨n0,zs,es,evs⟩,ao,ae,ap,co,ce,cp,rfl,⟨wfI w0,ge,gg,gf⟩,g9,gb,ga,gd,gc⟩
end Go.Proofs.YtgmbklaolcmljaaGreat

namespace Go.Proofs.YtgmbklaolcmljaaGreat
open Go.Proofs.Tryz
open Go.RowKit Go.Deep Go.ChangeShapes Go.WideShapes
end Go.Proofs.YtgmbklaolcmljaaGreat
