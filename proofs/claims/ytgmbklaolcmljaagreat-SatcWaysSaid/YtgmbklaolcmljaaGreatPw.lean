/- More contracts of the program's functions. -/
import Derived.Test.YtgmbklaolcmljaaGreatP8
set_option linter.unusedSimpArgs false
set_option linter.unusedVariables false
set_option linter.unusedSectionVars false
set_option linter.unnecessarySimpa false
set_option maxRecDepth 100000
set_option maxHeartbeats 8000000
namespace Go.Proofs.YtgmbklaolcmljaaGreat
open Go.Proofs.Tryz
open Go.RowKit
theorem truth_any (i v:Nat)(hi:i<=1048576)(hv:v<=20)(w:World):Calls prog 82 #[.int .i64 i,.int .i64 v] w fun x w'=>x=.returned (.bool (bitB i v))/\w=w':=by
 have HB:=Hd (Ycs v hv w);have g0:0<2^v:=Nat.pow_pos (by omega);have g2:=Zle hv;obtain⟨p,hp⟩:∃ p,p=2^v:=⟨_,rfl⟩;rw[<- hp] at g0 g2 HB;have g1:i/p<=i:=Nat.div_le_self _ _;have HF:Hid (((wrap64 ((i:Int)/(p:Int))).tmod 2 == 1)=bitB i v):=by
  refine Hd ?_;unfold bitB;rw[<- hp];have e0:(i:Int)/(p:Int)=((i/p:Nat):Int):=rfl;rw[e0]
  generalize i/p=q at g1 ⊢
  rw[IntWalk.wrap64_in _ (by omega)];have e1:Int.tmod (q:Int) 2=((q%2:Nat):Int):=by rw[Int.tmod_eq_emod_of_nonneg (by omega)];rfl
  rw[e1]
  by_cases h:q%2=1
  . rw[h];rfl
  ·have:((q%2:Nat):Int)≠1:=by omega
   rw[beq_eq_false_iff_ne.2 this,decide_eq_false h]
 clear hp
 go_enter func82,ntmps82
 go_wp2_with fail;refine HB.out.mono ?_;rintro x w' ⟨rfl,rfl⟩;go_wp2_with fail;go_ret;exact⟨by rw[<- HF.out];rfl,rfl⟩
open Go.RowKit

theorem satcAsked_nil (w:World)(k:Int):Calls prog 68 #[.pointer none,.int .i64 k] w fun e w'=>e=.returned (.int .i64 5)/\w=w':=by
 go_enter func68,ntmps68
 go_wp2_with fail;go_ret;exact⟨rfl,rfl⟩
open Go.RowKit
theorem nfix_le (fx:Nat->Option Bool):∀ n,nfix n fx<=n
 | 0=>Nat.le_refl _
 | n+1=>by
   have:=nfix_le fx n;unfold nfix;split<;>omega
theorem agF_iff (fx:Nat->Option Bool)(ρ:Nat->Bool):∀ n,agF n fx ρ=true↔∀ v,v<n->∀ b,fx v=some b->ρ v=b
 | 0=>by simp[agF]
 | n+1=>by
   have ih:=agF_iff fx ρ n;unfold agF;rw[Bool.and_eq_true,ih];constructor
   ·rintro⟨h1,h2⟩ v hv b hb;rcases(show v<n\/v=n by omega) with c|rfl
    . exact h1 v c b hb
    . rw[hb] at h2;simpa using h2
   ·intro h;refine⟨fun v hv=>h v (by omega),?_⟩;cases hv:fx n with
    | none=>rfl
    | some b=>simpa using h n (by omega) b hv
open Go.RowKit
structure LitsAt (w:World)(a:Option Addr)(l:List (Int×Bool)):Prop where
 len:l.length<=9223372036854775807
 cells:∀ k,∀ hk:k<l.length,∃ b off,a=some ⟨b,off,none⟩/\w.cell? ⟨b,off+k*2,none⟩=some (.int .i64 l[k].1)/\w.cell? ⟨b,off+k*2+1,none⟩=some (.bool l[k].2)
theorem LitsAt.keep {w w':World}{a:Option Addr}{l:List (Int×Bool)}(h:LitsAt w a l)(hk:l≠[]->∀ x v,a=some x->∀ o,w.cell? ⟨x.block,o,none⟩=some v->w'.cell? ⟨x.block,o,none⟩=some v):LitsAt w' a l :=
 ⟨h.len,fun k hkl=>by
  obtain⟨b,off,e,c0,c1⟩:=h.cells k hkl;have hne:l≠[]:=fun e=>by subst e;simp at hkl
  exact⟨b,off,e,hk hne _ _ e _ c0,hk hne _ _ e _ c1⟩⟩
theorem LitsAt.below {w w':World}{a:Option Addr}{l:List (Int×Bool)}(h:LitsAt w a l)(hb:Below w.heap.size w w'):LitsAt w' a l :=
 h.keep fun _ x v _ o hc=>(hb.cell (p:=⟨x.block,o,none⟩) (Zab hc)).trans hc
def litsR (n:Nat)(l:List (Int×Bool)):Int:=if ∀ p∈l,0<=p.1/\p.1<(n:Int) then if (l.map (·.1)).Nodup then 0 else 6 else 9
open Go.RowKit
def mLt (ls:List (Int×Bool)):List (Int×Value):=ls.map fun p=>(p.1,(.bool p.2:Value))
def fxL:List (Int×Bool)->Int->Option Bool
 | [],_=>none
 | p::r,z=>if p.1=z then some p.2 else fxL r z
theorem mLt_keys (ls:List (Int×Bool)):(mLt ls).map Prod.fst=ls.map (·.1):=by simp[mLt,Function.comp_def]
theorem mLt_get (ls:List (Int×Bool))(z:Int):getL (mLt ls) z=(fxL ls z).map Value.bool:=by
 unfold getL;have:∀ (l:List (Int×Bool)) (i:Nat),(Zb9 z (mLt l) i).map (·.2)=(fxL l z).map Value.bool:=by
  intro l
  induction l with
  | nil=>intro i;rfl
  | cons p r ih =>
    intro i
    show (if p.1=z then some (i,(.bool p.2:Value)) else Zb9 z (mLt r) (i+1)).map (·.2)=(if p.1=z then some p.2 else fxL r z).map Value.bool
    by_cases e:p.1=z
    . rw[if_pos e,if_pos e];rfl
    . rw[if_neg e,if_neg e];exact ih _
 exact this ls 0
theorem fxL_isSome (ls:List (Int×Bool))(z:Int):(fxL ls z).isSome=true↔z∈ls.map (·.1):=by
 have h:=Yak (l:=mLt ls) z;rw[mLt_keys,mLt_get] at h;rw[h];cases fxL ls z<;>simp
theorem mLt_put {ls:List (Int×Bool)}{z:Int}(y:Bool)(h:z∉ls.map (·.1)):putL z (.bool y) (mLt ls)=mLt (ls++[(z,y)]):=by
 have hg:getL (mLt ls) z=none:=by
  rw[mLt_get];cases hh:fxL ls z with
  | none=>rfl
  | some b=>exact absurd ((fxL_isSome ls z).1 (by rw[hh];rfl)) h
 unfold getL at hg;unfold putL;cases hc:Zb9 z (mLt ls) 0 with
 | none=>simp[mLt]
 | some q=>rw[hc] at hg;simp at hg
theorem mLt_len (ls:List (Int×Bool)):(mLt ls).length=ls.length:=by simp[mLt]
theorem fxL_mem {ls:List (Int×Bool)}(hn:(ls.map (·.1)).Nodup){p:Int×Bool}(hp:p∈ls):fxL ls p.1=some p.2:=by
 induction ls with
 | nil=>cases hp
 | cons q r ih =>
   rw[List.map_cons,List.nodup_cons] at hn
   show (if q.1=p.1 then some q.2 else fxL r p.1)=_
   rcases List.mem_cons.1 hp with e|e
   . rw[<- e,if_pos rfl]
   . rw[if_neg (fun c=>hn.1 (by rw[c];exact List.mem_map.2 ⟨p,e,rfl⟩))];exact ih hn.2 e
theorem fxL_of {ls:List (Int×Bool)}{z:Int}{b:Bool}(h:fxL ls z=some b):(z,b)∈ls:=by
 induction ls with
 | nil=>cases h
 | cons q r ih =>
   unfold fxL at h
   by_cases e:q.1=z
   . rw[if_pos e] at h;have:q=(z,b):=Prod.ext e (Option.some.inj h);rw[<- this];exact List.mem_cons_self ..
   . rw[if_neg e] at h;exact List.mem_cons_of_mem _ (ih h)
def fxV (ls:List (Int×Bool))(v:Nat):Option Bool:=fxL ls (v:Int)
theorem nfix_num (fx:Nat->Option Bool)(l:List Int):∀ n:Nat,(∀ v:Nat,v<n->((fx v).isSome=true↔(v:Int)∈l))->nfix n fx=Zlb n l
 | 0,_=>rfl
 | n+1,h=>by
   unfold nfix Zlb;rw[nfix_num fx l n fun v hv=>h v (by omega)]
   by_cases e:(n:Int)∈l
   . rw[if_pos e,if_pos ((h n (by omega)).2 e)]
   . rw[if_neg e,if_neg (fun c=>e ((h n (by omega)).1 c))]
theorem fxV_fix {n:Nat}{ls:List (Int×Bool)}(h1:∀ p∈ls,0<=p.1/\p.1<(n:Int))(h2:(ls.map (·.1)).Nodup):nfix n (fxV ls)=ls.length/\∀ v,n<=v->fxV ls v=none:=by
 constructor
 ·have e:=nfix_num (fxV ls) (List.map (fun x:Int×Bool=>x.1) ls) n (fun v _=>fxL_isSome ls (v:Int))
  rw[e,<- Zla n _ h2 (fun z hz=>by
   obtain⟨p,hp,rfl⟩:=List.mem_map.1 hz;exact h1 p hp)]
  simp
 ·intro v hv;cases hh:fxV ls v with
  | none=>rfl
  | some b =>
    have:=h1 _ (fxL_of hh);exfalso;have h3:(v:Int)<(n:Int):=this.2;omega
def wayV (n:Nat)(G:BF)(ls:List (Int×Bool)):Nat:=(tabB n fun σ=>G σ&&agF n (fxV ls) σ).count true
theorem way_val {n:Nat}{G:BF}{ls:List (Int×Bool)}(h1:∀ p∈ls,0<=p.1/\p.1<(n:Int))(h2:(ls.map (·.1)).Nodup):totN n (fxV ls) G/2^ls.length=wayV n G ls:=by
 obtain⟨q1,q2⟩:=fxV_fix h1 h2;rw[<- q1,Zza n G _ q2];rfl
theorem agF_lits {n:Nat}{ls:List (Int×Bool)}(h1:∀ p∈ls,0<=p.1/\p.1<(n:Int))(h2:(ls.map (·.1)).Nodup)(σ:Nat->Bool):agF n (fxV ls) σ=ls.all fun p=>σ p.1.toNat == p.2:=by
 have:agF n (fxV ls) σ=true↔(ls.all fun p=>σ p.1.toNat == p.2)=true:=by
  rw[agF_iff,List.all_eq_true];constructor
  . intro h p hp;have hr:=h1 p hp;have:=h p.1.toNat (by omega) p.2 (by unfold fxV;rw[show ((p.1.toNat:Nat):Int)=p.1 by omega];exact fxL_mem h2 hp);simp[this]
  . intro h v hv b hb;have:=h _ (fxL_of hb);simpa using this
 cases ha:agF n (fxV ls) σ<;>cases hb:(ls.all fun p=>σ p.1.toNat == p.2)<;>simp_all
open Go.RowKit
section
variable {K:Law}{n:Nat}{Od:List Nat->Prop}{room:Nat}{w0 w:World}{mb:Nat}{fs:List (Int×BF)}{nx:Int}{o:Own}{m:ManD}{V:Nat->BF}
theorem litsR_in {n:Nat}{ls:List (Int×Bool)}(h:∀ p∈ls,0<=p.1/\p.1<(n:Int)):litsR n ls=if (ls.map (·.1)).Nodup then 0 else 6:=by
 unfold litsR;rw[if_pos h]
theorem litsR_out {n:Nat}{ls:List (Int×Bool)}{p:Int×Bool}(hp:p∈ls)(h:¬ (0<=p.1/\p.1<(n:Int))):litsR n ls=9:=if_neg fun hh=>h (hh p hp)
theorem satcWays_any (h:SatE K n Od room w0 mb fs nx w o m V){k:Int}{G:BF}(hf:(k,G)∈fs){ls:List (Int×Bool)}{a:Option Addr}{c:Nat}(hls:LitsAt w a ls) :
 Calls prog 17 #[.pointer (some ⟨mb,0,none⟩),.int .i64 k,.slice a ls.length c] w fun x w'=>∃ av l v,x=.returned (.tuple #[.slice av l v,.int .i64 (litsR n ls)])/\(litsR n ls≠0->l=0)/\(litsR n ls=0->NatV w' (.slice av l v) (wayV n G ls))/\AskN K n Od room w0 mb fs nx m o w w' (.slice av l v):=by
 have HA:=Hd (Zio h k (b:=true) (by simp only[true_iff];exact⟨G,hf⟩));have hn64:n<=64:=by have:=h.ok.store.small;rw[h.vars] at this;exact this
 have gU:=hls.len;obtain⟨P,hP⟩:∃ P:Ending->World->Prop,P=fun x w'=>∃ av l v,x=.returned (.tuple #[.slice av l v,.int .i64 (litsR n ls)])/\(litsR n ls≠0->l=0)/\(litsR n ls=0->NatV w' (.slice av l v) (wayV n G ls))/\AskN K n Od room w0 mb fs nx m o w w' (.slice av l v):=⟨_,rfl⟩
 have g2:Hid (∀ (er:Int) W,litsR n ls=er->er≠0->Below w.heap.size w W->P (.returned (.tuple #[.slice none 0 0,.int .i64 er])) W):=Hd fun er W he gL hb=>by
  rw[hP];exact⟨none,0,0,by rw[he],fun _=>rfl,fun e=>absurd (by rw[<- he];exact e) gL,AskN.of h hb 0⟩
 have go:Hid (∀ W,Below w.heap.size w W->Calls prog 69 #[.pointer (some ⟨mb,0,none⟩)] W fun x w''=>x=.returned (.int .i64 (n:Nat))/\W=w''):=Hd fun W hb=>by
  have hs:=h.below hb;have hv:=Zdw hs.is;rw[hs.vars] at hv;exact hv
 have ga:Hid (∀ W kt,Below w.heap.size w W->Za5 W kt (Value.int .i64) (mLt ls)->w.heap.size<=kt->(∀ p∈ls,0<=p.1/\p.1<(n:Int))->(ls.map (·.1)).Nodup->Calls prog 70 #[.pointer (some ⟨mb,0,none⟩),.int .i64 k,.map (some kt)] W fun x w6=>∃ v6,x=.returned (.tuple #[v6,.int .i64 0])/\Za5 w6 kt (Value.int .i64) (mLt ls) /\
  Calls prog 71 #[v6,.int .i64 (ls.length:Nat)] w6 fun x w9=>∃ v9,x=.returned v9/\P (.returned (.tuple #[v9,.int .i64 0])) w9):=Hd fun W kt hb hm g9 h1 h2=>by
  have hs:=h.below hb;have gs:o kt=none:=h.lt.none g9;have gl:ls.length<=n:=by
   have:=(fxV_fix h1 h2).1;rw[<- this];exact nfix_le _ _
  refine(Zzg hs hf (fx:=fxV ls) (.inr ⟨kt,_,rfl,hm,fun v=>mLt_get ls (v:Int)⟩) (fun q e=>by
   cases e;exact⟨hm.lt,Nat.le_trans h.chg.size g9,gs⟩)).mono ?_
  rintro x w6 ⟨v6,rfl,gH,o6,m6,V6,gu,gG,gB,gI,gK⟩;refine⟨v6,rfl,hm.keepB (gu.block kt hm.lt gs (fun e=>e)),(Zxe gH (show ls.length<=4096 by omega)).mono ?_⟩;rintro x w9 ⟨⟨v9,rfl,gi,gJ⟩,gO⟩;rw[way_val h1 h2] at gi;refine⟨v9,rfl,?_⟩;have gC:=gi;obtain⟨a9,c9,e9,_⟩:=gC;have he:litsR n ls=0:=by rw[litsR_in h1,if_pos h2]
  rw[hP];refine⟨a9,_,c9,by rw[he,<- e9],fun c=>absurd he c,fun _=>by rw[<- e9];exact gi,?_⟩;have gq:AskN K n Od room w0 mb fs nx m o W w6 v6:=⟨o6,m6,V6,gu,gG,gB,gI,gK⟩;rw[<- e9];exact(AskN.trans (ChgX.of_below hb o NoB) rfl rfl gq).next gO gJ
 have gp:Hid (LitsAt w a ls):=Hd hls;have gA:Hid (Below w.heap.size w w):=Hd (Below.refl _ _);have gM:=fun t w=>Zc4 (P:=prog) w t
 rw[<- hP];clear hP h hf hls
 go_enter func17,ntmps17
 go_wp2_with fail;refine HA.out.mono ?_;rintro x w' ⟨rfl,rfl⟩;clear HA;go_wp2_with fail
 go_loopw [6,7,10,24] (fun _ _ _ s24 wr=>∃ j:Nat,j<=ls.length/\s24=.int .i64 (j:Int)/\Hid (Below w.heap.size w wr)/\Hid (∀ p∈ls.take j,0<=p.1/\p.1<(n:Int))) (fun _ _ _ s24 _=>ls.length-(intOf s24).toNat)
 case atStart=>exact⟨0,Nat.zero_le _,rfl,gA,Hd (by simp)⟩
 case round =>
  obtain⟨j,hj,rfl,g0,HR⟩:=hrel
  by_cases gb:j<ls.length
  ·have gN:(j:Int)<(ls.length:Int):=by omega
   obtain⟨b,off,rfl,d0,d1⟩:=(gp.out.below g0.out).cells j gb;have g3:Hid (ls.take (j+1)=ls.take j++[ls[j]]):=Hd (List.take_succ_eq_append_getElem gb);have gy:=Hd (List.getElem_mem gb);obtain⟨p,hp⟩:∃ p,p=ls[j]:=⟨_,rfl⟩;rw[<- hp] at d0 d1 g3 gy;obtain⟨pv,py⟩:=p;dsimp only at d0 d1 g3;obtain⟨w5,g1⟩:∃ w5,w5=wr.alloc (.cells #[.int .i64 pv,.bool py] 44):=⟨_,rfl⟩;have gd:Hid (_=w5):=Hd g1.symm;have g4:Below wr.heap.size wr w5:=by rw[g1];exact Zaf _ _
   have g5:w5.heap[wr.heap.size]?=some (.cells #[.int .i64 pv,.bool py] 44 (0,0)):=by rw[g1];exact heap_alloc_new _ _
   have g6:Hid (∀ q,Below w.heap.size w (w5.drewN q)):=Hd fun q=>(g0.out.trans (g4.mono g0.out.size)).trans ((Zag w5 q).mono (by have:=g0.out.size;have:=g4.size;omega))
   have e0:w5.cell? ⟨wr.heap.size,0,none⟩=some (.int .i64 pv):=by simp[World.cell?,g5]
   have HV:Hid (∀ q,Calls prog 69 #[.pointer (some ⟨mb,0,none⟩)] (w5.drewN q) fun x w''=>x=.returned (.int .i64 (n:Nat))/\w5.drewN q=w''):=Hd fun q=>go.out _ (g6.out q)
   have HZ:=Hd (show True from trivial);clear hp g1 g4 g5 ga go
   by_cases hr:0<=pv/\pv<(n:Int)
   ·have h0:¬ pv<0:=by omega
    have h1:¬ pv>=(n:Int):=by omega
    have gP:Hid (∀ p∈ls.take (j+1),0<=p.1/\p.1<(n:Int)):=Hd fun q hq=>by
     rw[g3.out] at hq;rcases List.mem_append.1 hq with e|e
     . exact HR.out q e
     . simp at e;rw[e];exact hr
    clear hr g2 g0;go_upto_region 7 with fail;rw[gd.out]
    go_quiet ((with_reducible exact Zbj (HV.out _)))
    go_wp2_with fail;go_roundw
    case rel=>exact⟨j+1,by omega,by rw[show ((j+1:Nat):Int)=(j:Int)+1 by omega],Hd (g6.out _),gP⟩
    case measure=>simp[intOf];omega
   ·have HF:Hid (∀ q,P (.returned (.tuple #[.slice none 0 0,.int .i64 9])) (w5.drewN q)):=Hd fun q=>g2.out 9 _ (litsR_out gy.out hr) (by decide) (g6.out q)
    clear g2 g0 g6
    by_cases h0:pv<0
    ·clear hr;go_upto_region 7 with fail;rw[gd.out]
     go_quiet ((with_reducible exact Zbj (HV.out _)))
     go_wp2_with fail
     first|exact HF.out _|exact bodyPost_ret (results_tmp2 rfl _ _ _) rfl (HF.out _)
    ·have h1:pv>=(n:Int):=by omega
     clear hr;go_upto_region 7 with fail;rw[gd.out]
     go_quiet ((with_reducible exact Zbj (HV.out _)))
     go_wp2_with fail
     first|exact HF.out _|exact bodyPost_ret (results_tmp2 rfl _ _ _) rfl (HF.out _)
  ·obtain rfl:j=ls.length:=by omega
   have gS:¬ (ls.length:Int)<(ls.length:Int):=by omega
   obtain⟨kt,g9⟩:∃ kt,kt=wr.heap.size:=⟨_,rfl⟩;obtain⟨w2,gf⟩:∃ w2,w2=wr.alloc (.map #[] 0):=⟨_,rfl⟩;have gT:∀ t,(Instr.makeMap t none).run prog wr=.ok (.map (some kt)) w2:=fun t=>by rw[g9,gf];exact Zc4 wr t
   have gv:Below wr.heap.size wr w2:=by rw[gf];exact Zaf _ _
   have gR:Hid (Za5 w2 kt (Value.int .i64) (mLt (ls.take 0))):=Hd (by rw[g9,gf];exact Zff wr _);have HB2:Hid (Below w.heap.size w w2):=Hd (g0.out.trans (gv.mono g0.out.size));have gt:w.heap.size<=kt:=by rw[g9];exact g0.out.size
   have gw:Hid (∀ p∈ls,0<=p.1/\p.1<(n:Int)):=Hd (by
    have:=HR.out
    rwa [List.take_length] at this)
   have gx:=Hd gt;clear gM gf gv gt g9 g0 HR go gA;go_wp2_with fail
   go_loopw [6,7,13,14,15,42] (fun _ _ _ _ _ s42 wr=>∃ j:Nat,j<=ls.length/\s42=.int .i64 (j:Int)/\Hid (Below w.heap.size w wr)/\Hid (Za5 wr kt (Value.int .i64) (mLt (ls.take j)))/\Hid (((ls.take j).map (·.1)).Nodup)) (fun _ _ _ _ _ s42 _=>ls.length-(intOf s42).toNat)
   case atStart=>exact⟨0,Nat.zero_le _,rfl,HB2,gR,Hd (by simp)⟩
   case round =>
    obtain⟨j,hj,rfl,g0,HM,gh⟩:=hrel
    by_cases gb:j<ls.length
    ·have gN:(j:Int)<(ls.length:Int):=by omega
     obtain⟨b,off,rfl,d0,d1⟩:=(gp.out.below g0.out).cells j gb;have g3:Hid (ls.take (j+1)=ls.take j++[ls[j]]):=Hd (List.take_succ_eq_append_getElem gb);obtain⟨p,hp⟩:∃ p,p=ls[j]:=⟨_,rfl⟩;rw[<- hp] at d0 d1 g3;obtain⟨pv,py⟩:=p;dsimp only at d0 d1 g3;obtain⟨w5,g1⟩:∃ w5,w5=wr.alloc (.cells #[.int .i64 pv,.bool py] 44):=⟨_,rfl⟩;have gd:Hid (_=w5):=Hd g1.symm;have g4:Below wr.heap.size wr w5:=by rw[g1];exact Zaf _ _
     have g5:w5.heap[wr.heap.size]?=some (.cells #[.int .i64 pv,.bool py] 44 (0,0)):=by rw[g1];exact heap_alloc_new _ _
     have g6:Hid (Below w.heap.size w w5):=Hd (g0.out.trans (g4.mono g0.out.size));have e0:w5.cell? ⟨wr.heap.size,0,none⟩=some (.int .i64 pv):=by simp[World.cell?,g5]
     have e1:w5.cell? ⟨wr.heap.size,1,none⟩=some (.bool py):=by simp[World.cell?,g5]
     have gg:=HM.out.below g4;have g8:=gg.lookup Zn1 underlying127 zeroValue4 pv true;rw[mLt_get] at g8;obtain⟨w6,gD,g7,gm⟩:=gg.update Zn1 underlying127 pv (.bool py);have ge:Wr (· = kt) w5 w6:=Wr.of_grown gm _ (fun k e=>by cases e;rfl);have gz:Hid (Below w.heap.size w w6):=Hd (g6.out.trans (ge.below (fun k e=>by have e:k=kt:=e;rw[e];exact gx.out) g6.out.size));cases gc:fxL (ls.take j) pv with
     | some y =>
       rw[gc] at g8;have gE:(Instr.lookup 127 (.map (some kt)) (.int .i64 pv) true).run prog w5=.ok (.tuple #[.bool y,.bool true]) w5:=g8;have gn:¬ (ls.map (·.1)).Nodup:=fun hn=>by
        have h1:=(fxL_isSome (ls.take j) pv).1 (by rw[gc];rfl);have h2:((ls.take (j+1)).map (·.1)).Nodup:=by
         rw[List.map_take];exact hn.sublist (List.take_sublist _ _)
        rw[g3.out,List.map_append] at h2;exact(List.nodup_append.1 h2).2.2 _ h1 _ (by simp) rfl
       have HF:Hid (P (.returned (.tuple #[.slice none 0 0,.int .i64 6])) w5):=Hd (g2.out 6 _ (by rw[litsR_in gw.out,if_neg gn]) (by decide) g6.out);clear g8 gc gn gg gD g7 gm ge gz g1 g4 g5 ga g2 g0 HM hp;go_upto_region 14 with fail;rw[gd.out];go_wp2_with fail
       first|exact HF.out|exact bodyPost_ret (results_tmp2 rfl _ _ _) rfl HF.out
     | none =>
       rw[gc] at g8;have gE:(Instr.lookup 127 (.map (some kt)) (.int .i64 pv) true).run prog w5=.ok (.tuple #[.bool false,.bool false]) w5:=g8;have gj:pv∉(ls.take j).map (·.1):=fun e=>by
        have:=(fxL_isSome (ls.take j) pv).2 e;rw[gc] at this;cases this
       rw[mLt_put py gj] at g7;have gQ:Hid (Za5 w6 kt (Value.int .i64) (mLt (ls.take (j+1)))):=Hd (by rw[g3.out];exact g7)
       have gF:Hid (((ls.take (j+1)).map (·.1)).Nodup):=Hd (by
        rw[g3.out,List.map_append];refine List.nodup_append.2 ⟨gh.out,by simp,fun x hx y hy e=>?_⟩;simp at hy;subst hy;subst e
        exact gj hx)
       clear g8 gc gj gg g7 gm ge g1 g4 g5 ga g2 g0 HM gh hp;go_upto_region 14 with fail;rw[gd.out];go_wp2_with fail;go_roundw
       case rel=>exact⟨j+1,by omega,by rw[show ((j+1:Nat):Int)=(j:Int)+1 by omega],gz,gQ,gF⟩
       case measure=>simp[intOf];omega
    ·obtain rfl:j=ls.length:=by omega
     have hm:=HM.out;have gk:=gh.out;rw[List.take_length] at hm gk;have HT:=Hd (ga.out wr kt g0.out hm gx.out gw.out gk);clear hm gk ga g2 HM gh g0 gp;go_wp2_with fail;refine HT.out.mono ?_;rintro x w6 ⟨v6,rfl,g7,hh⟩;have gl:=fun ty=>g7.size (P:=prog) underlying127 ty
     rw[mLt_len] at gl;have HH:=Hd hh;clear g7 hh HT;go_wp2_with fail;refine HH.out.mono ?_;rintro x w9 ⟨v9,rfl,gr⟩;have HF:=Hd gr;clear gr HH;go_wp2_with fail
     first|exact HF.out|exact bodyPost_ret (results_tmp2 rfl _ _ _) rfl HF.out
end
open Go.RowKit
theorem refWays_any {n:Nat}{F:BF}(hn:n<=16){au:Option Addr}{cu:Nat}{w:World}(h1:Zf8 w au (tabB n F)){ls:List (Int×Bool)}{al:Option Addr}{cl:Nat}(hls:LitsAt w al ls)(hin:∀ p∈ls,0<=p.1/\p.1<(n:Int))(hnd:(ls.map (·.1)).Nodup) :
 Calls prog 28 #[.slice au (2^n) cu,.slice al ls.length cl] w fun x w'=>x=.returned (.int .i64 (wayV n F ls:Nat))/\Below w.heap.size w w':=by
 obtain⟨P,hP⟩:∃ P:Ending->World->Prop,P=fun x w'=>x=.returned (.int .i64 (wayV n F ls:Nat))/\Below w.heap.size w w':=⟨_,rfl⟩
 have gi:=Hd hP;have gp:=hls.len;have gj:=Hd hls;have g7:Hid (∀ (i:Nat) (pv:Int) W,i<=65536->0<=pv/\pv<(n:Int)->Calls prog 82 #[.int .i64 (i:Nat),.int .i64 pv] W fun x w'=>x=.returned (.bool (bitB i pv.toNat))/\W=w'):=Hd fun i pv W hi hv=>by
  have:=truth_any i pv.toNat (by omega) (by omega) W
  rwa [show ((pv.toNat:Nat):Int)=pv by omega] at this
 have HCK:Hid (∀ W k,Below w.heap.size w W->k<2^n->∃ b off,au=some ⟨b,off,none⟩/\W.cell? ⟨b,off+k,none⟩=some (.bool (F (Zdc (Zdb k n))))):=Hd fun W k hb hk=>by
  obtain⟨b,off,e,hc⟩:=h1.cells k (by rw[Zf2];exact hk);rw[Zot hk] at hc;exact⟨b,off,e,(hb.cell (p:=⟨b,off+k,none⟩) (Zab hc)).trans hc⟩
 have ga:=Hd hin;obtain⟨T,hT⟩:∃ T,T=tabB n fun σ=>F σ&&agF n (fxV ls) σ:=⟨_,rfl⟩
 obtain⟨L,g2⟩:∃ L,L=2^n:=⟨_,rfl⟩;have gr:L<=65536:=by rw[g2];exact pow64 hn
 have g8:Hid (T.length=L):=Hd (by rw[hT,Zf2,g2]);have g9:Hid (∀ i,i<L->T.getD i false=(F (Zdc (Zdb i n))&&ls.all fun p=>bitB i p.1.toNat == p.2)):=Hd fun i hi=>by
  rw[hT,Zot (by rw[<- g2];exact hi),agF_lits hin hnd];congr 1;have gh:∀ l:List (Int×Bool),(∀ p∈l,0<=p.1/\p.1<(n:Int))->(l.all fun p=>Zdc (Zdb i n) p.1.toNat == p.2)=l.all fun p=>bitB i p.1.toNat == p.2:=by
   intro l
   induction l with
   | nil=>intro _;rfl
   | cons p r ih =>
     intro h;have hp:=h p (List.mem_cons_self ..);rw[List.all_cons,List.all_cons,ih (fun q hq=>h q (List.mem_cons_of_mem _ hq)),Zut,decide_eq_true (show p.1.toNat<n by omega),Bool.true_and]
  exact gh ls hin
 have g1:Hid (∀ W cc,cc=T.count true->Below w.heap.size w W->P (.returned (.int .i64 (cc:Nat))) W):=Hd fun W cc gd hb=>by
  rw[gi.out,gd,hT];exact⟨rfl,hb⟩
 rw[<- g2] at HCK ⊢;have gl:Hid (Below w.heap.size w w):=Hd (Below.refl _ _);rw[<- hP];clear hP h1 hls hin g2 hnd hT
 go_enter func28,ntmps28
 go_wp2_with fail
 go_loopw [5,6,7,8] (fun s5 s6 _ _ wr=>∃ i cc:Nat,i<=L/\cc<=i/\s6=.int .i64 (i:Int)/\s5=.int .i64 (cc:Int)/\Hid (cc=(T.take i).count true)/\Hid (Below w.heap.size w wr)) (fun _ s6 _ _ _=>L-(intOf s6).toNat)
 case atStart=>exact⟨0,0,Nat.zero_le _,Nat.le_refl _,rfl,rfl,Hd (by simp),gl⟩
 case round =>
  obtain⟨i,cc,hi,gd,rfl,rfl,HQ,HB⟩:=hrel
  by_cases g4:i<L
  ·have gq:(i:Int)<(L:Int):=by omega
   obtain⟨b,off,rfl,ck⟩:=HCK.out wr i HB.out g4;have hs:=Yeg (l:=T) (i:=i) (by rw[g8.out];exact g4);rw[<- HQ.out,g9.out i g4] at hs;have HS:=Hd hs;obtain⟨f0,gc⟩:∃ f0,f0=F (Zdc (Zdb i n)):=⟨_,rfl⟩;rw[<- gc] at ck HS;have gk:Hid (f0=(f0&&(ls.take 0).all fun p=>bitB i p.1.toNat == p.2)):=Hd (by simp);clear hs gc HQ;obtain⟨wb,gg⟩:∃ W,W=wr:=⟨_,rfl⟩;subst gg;go_wp2_with fail
   go_loopw [7,8] (fun s7 s8 wr=>∃ (u:Nat) (own:Bool),u<=ls.length/\s8=.int .i64 (u:Int)/\s7=.bool own/\Hid (own=(f0&&(ls.take u).all fun p=>bitB i p.1.toNat == p.2))/\Hid (Below w.heap.size w wr)) (fun _ s8 _=>ls.length-(intOf s8).toNat)
   case atStart=>exact⟨0,f0,Nat.zero_le _,rfl,rfl,gk,HB⟩
   case round =>
    obtain⟨u,own,hu,rfl,rfl,HO,HB2⟩:=hrel
    by_cases g0:u<ls.length
    ·have go:(u:Int)<(ls.length:Int):=by omega
     obtain⟨b2,off2,rfl,d0,d1⟩:=(gj.out.below HB2.out).cells u g0;have g6:=ga.out _ (List.getElem_mem g0);have g5:ls.take (u+1)=ls.take u++[ls[u]]:=List.take_succ_eq_append_getElem g0;obtain⟨p,hp⟩:∃ p,p=ls[u]:=⟨_,rfl⟩;rw[<- hp] at d0 d1 g6 g5;obtain⟨pv,py⟩:=p;dsimp only at d0 d1 g6 g5;have g3:Hid (∀ t,t=(own&&(bitB i pv.toNat == py))->t=(f0&&(ls.take (u+1)).all fun p=>bitB i p.1.toNat == p.2)):=Hd fun t ht=>by
      rw[ht,g5,List.all_append,<- Bool.and_assoc,<- HO.out];simp
     have HT:Hid (∀ q,Calls prog 82 #[.int .i64 (i:Nat),.int .i64 pv] (wr.drewN q) fun x w'=>x=.returned (.bool (bitB i pv.toNat))/\wr.drewN q=w'):=Hd fun q=>g7.out i pv _ (by omega) g6
     have gf:Hid (∀ q,Below w.heap.size w (wr.drewN q)):=Hd fun q=>HB2.out.trans ((Zag wr q).mono HB2.out.size)
     obtain⟨bb,ge⟩:∃ bb,bb=bitB i pv.toNat:=⟨_,rfl⟩;rw[<- ge] at HT g3;have hin:u<ls.length:=g0;clear hp g6 g5 HO g7 HCK g1 g9 g8 HS ge HB2 ga;cases own with
     | false =>
       have HN:=Hd (g3.out false (by simp));clear g3 HT;go_wp2_with fail
       go_quiet (fail)
       go_wp2_with fail;go_roundw
       case rel=>exact⟨u+1,false,by omega,by rw[show ((u+1:Nat):Int)=(u:Int)+1 by omega],rfl,HN,Hd (gf.out _)⟩
       case measure=>simp[intOf];omega
     | true =>
       have HN:=Hd (g3.out (bb == py) (by simp));clear g3;go_wp2_with fail
       go_quiet ((with_reducible exact Zbj (HT.out _)))
       go_wp2_with fail;go_roundw
       case rel=>exact⟨u+1,bb == py,by omega,by rw[show ((u+1:Nat):Int)=(u:Int)+1 by omega],rfl,HN,Hd (gf.out _)⟩
       case measure=>simp[intOf];omega
    ·obtain rfl:u=ls.length:=by omega
     have gn:¬ (ls.length:Int)<(ls.length:Int):=by omega
     have ho:=HO.out;rw[List.take_length] at ho;have hs:=HS.out;rw[<- ho] at hs;clear HO HS g7 HCK g1 g9 ho ga;cases own with
     | true =>
       rw[if_pos rfl] at hs;have gb:=Hd hs.symm;clear hs;go_wp2_with fail;go_roundw
       case rel=>exact⟨i+1,cc+1,by omega,by omega,by rw[show ((i+1:Nat):Int)=(i:Int)+1 by omega],by rw[show ((cc+1:Nat):Int)=(cc:Int)+1 by omega],gb,HB2⟩
       case measure=>simp[intOf];omega
     | false =>
       rw[if_neg (by simp),Nat.add_zero] at hs;have gb:=Hd hs.symm;clear hs;go_wp2_with fail;go_roundw
       case rel=>exact⟨i+1,cc,by omega,by omega,by rw[show ((i+1:Nat):Int)=(i:Int)+1 by omega],rfl,gb,HB2⟩
       case measure=>simp[intOf];omega
  ·obtain rfl:i=L:=by omega
   have gm:¬ (i:Int)<(i:Int):=by omega
   have hq:=HQ.out;rw[List.take_of_length_le (by rw[g8.out];exact Nat.le_refl _)] at hq;have HF:=Hd (g1.out wr cc hq HB.out);clear hq HQ g1 g7 HCK g9 g8 ga;go_wp2_with fail;exact HF.out
open Go.RowKit
section
variable {K:Law}{n:Nat}{Od:List Nat->Prop}{room:Nat}{w0 w:World}{mb:Nat}{fs:List (Int×BF)}{nx:Int}{o:Own}{m:ManD}{V:Nat->BF}
theorem satcCount_bad (h:SatE K n Od room w0 mb fs nx w o m V){k:Int}(hk:¬ known fs k)(a:Option Addr)(l c:Nat) :
 Calls prog 30 #[.pointer (some ⟨mb,0,none⟩),.int .i64 k,.slice a l c] w fun x w'=>x=.returned (.tuple #[.slice none 0 0,.int .i64 8])/\w=w':=by
 have HA:=Hd (Zio h k (b:=false) (by simp[hk]));obtain⟨P,hP⟩:∃ P:Ending->World->Prop,P=fun x w'=>x=.returned (.tuple #[.slice none 0 0,.int .i64 8])/\w=w':=⟨_,rfl⟩
 have HF:Hid (P (.returned (.tuple #[.slice none 0 0,.int .i64 8])) w):=Hd (by rw[hP];exact⟨rfl,rfl⟩);rw[<- hP];clear hP h hk
 go_enter func30,ntmps30
 go_wp2_with fail;refine HA.out.mono ?_;rintro x w' ⟨rfl,rfl⟩;go_wp2_with fail
 first|exact HF.out|exact bodyPost_ret (results_tmp2 rfl _ _ _) rfl HF.out
theorem satcWays_bad (h:SatE K n Od room w0 mb fs nx w o m V){k:Int}(hk:¬ known fs k)(a:Option Addr)(l c:Nat) :
 Calls prog 17 #[.pointer (some ⟨mb,0,none⟩),.int .i64 k,.slice a l c] w fun x w'=>x=.returned (.tuple #[.slice none 0 0,.int .i64 8])/\w=w':=by
 have HA:=Hd (Zio h k (b:=false) (by simp[hk]));obtain⟨P,hP⟩:∃ P:Ending->World->Prop,P=fun x w'=>x=.returned (.tuple #[.slice none 0 0,.int .i64 8])/\w=w':=⟨_,rfl⟩
 have HF:Hid (P (.returned (.tuple #[.slice none 0 0,.int .i64 8])) w):=Hd (by rw[hP];exact⟨rfl,rfl⟩);rw[<- hP];clear hP h hk
 go_enter func17,ntmps17
 go_wp2_with fail;refine HA.out.mono ?_;rintro x w' ⟨rfl,rfl⟩;go_wp2_with fail
 first|exact HF.out|exact bodyPost_ret (results_tmp2 rfl _ _ _) rfl HF.out
theorem satcShare_bad (h:SatE K n Od room w0 mb fs nx w o m V){k:Int}(hk:¬ known fs k) :
 Calls prog 24 #[.pointer (some ⟨mb,0,none⟩),.int .i64 k] w fun x w'=>x=.returned (.tuple #[.slice none 0 0,.int .i64 0,.int .i64 8])/\w=w':=by
 have HA:=Hd (Zio h k (b:=false) (by simp[hk]));obtain⟨P,hP⟩:∃ P:Ending->World->Prop,P=fun x w'=>x=.returned (.tuple #[.slice none 0 0,.int .i64 0,.int .i64 8])/\w=w':=⟨_,rfl⟩
 have HF:Hid (P (.returned (.tuple #[.slice none 0 0,.int .i64 0,.int .i64 8])) w):=Hd (by rw[hP];exact⟨rfl,rfl⟩);rw[<- hP];clear hP h hk
 go_enter func24,ntmps24
 go_wp2_with fail;refine HA.out.mono ?_;rintro x w' ⟨rfl,rfl⟩;go_wp2_with fail;refine bodyPost_ret (results_tmp3 rfl _ _ _) rfl ?_;exact HF.out
end
theorem satcCount_nil (w:World)(k:Int)(a:Option Addr)(l c:Nat) :
 Calls prog 30 #[.pointer none,.int .i64 k,.slice a l c] w fun x w'=>x=.returned (.tuple #[.slice none 0 0,.int .i64 5])/\w=w':=by
 have HA:=Hd (satcAsked_nil w k);obtain⟨P,hP⟩:∃ P:Ending->World->Prop,P=fun x w'=>x=.returned (.tuple #[.slice none 0 0,.int .i64 5])/\w=w':=⟨_,rfl⟩
 have HF:Hid (P (.returned (.tuple #[.slice none 0 0,.int .i64 5])) w):=Hd (by rw[hP];exact⟨rfl,rfl⟩);rw[<- hP];clear hP
 go_enter func30,ntmps30
 go_wp2_with fail;refine HA.out.mono ?_;rintro x w' ⟨rfl,rfl⟩;go_wp2_with fail
 first|exact HF.out|exact bodyPost_ret (results_tmp2 rfl _ _ _) rfl HF.out
open Go.RowKit
def pV:List (Value×Value)->List Value
 | []=>[]
 | p::r=>p.1::p.2::pV r
theorem pV_append (l:List (Value×Value))(p:Value×Value):pV (l++[p])=pV l++[p.1,p.2]:=by
 induction l with
 | nil=>rfl
 | cons q r ih=>simp[pV,ih]
theorem pV_get:∀ (l:List (Value×Value)) (k:Nat) (hk:k<l.length),(pV l)[k*2]?=some l[k].1/\(pV l)[k*2+1]?=some l[k].2
 | [],k,h=>by simp at h
 | p::t,0,_=>by simp[pV]
 | p::t,k+1,h=>by
   have:=pV_get t k (by simpa using h);simp only[pV,List.getElem_cons_succ];have e1:(k+1)*2=k*2+1+1:=by omega
   rw[e1,List.getElem?_cons_succ,List.getElem?_cons_succ,List.getElem?_cons_succ,List.getElem?_cons_succ];exact this
structure ElemP (T ST:TypeId)(z:Value)(b:Nat):Prop where
 under:prog.underlying ST=some (.slice T)
 info:(prog.info? T).map (fun i=>(i.zero,i.size,i.bytes))=some (some z,2,b)
 two:z.cells.size=2
 small:b<=100
def OwnP (T:TypeId)(w:World)(base:Nat)(v:Value)(l:List (Value×Value)):Prop:=w.ownsRow base T 2 v l.length (pV l)
section
variable {T ST:TypeId}{z:Value}{b:Nat}{w w':World}{base:Nat}{v:Value}{l:List (Value×Value)}
theorem OwnP.lt (h:OwnP T w base v l):∀ k,v.ownBlock=some k->base<=k/\k<w.heap.size:=World.ownsRow.lt h
theorem ownP_nil (T:TypeId)(w:World)(base:Nat):OwnP T w base (.slice none 0 0) []:=World.ownsRow_nil w base T 2
theorem OwnP.same (h:OwnP T w base v l)(hk:∀ k,v.ownBlock=some k->w'.heap[k]?=w.heap[k]?):OwnP T w' base v l:=by
 refine⟨h.1,?_⟩;rcases h.2 with hn|⟨g,cap,cur,rfl,hb,g0,rest⟩
 . exact .inl hn
 . refine .inr ⟨g,cap,cur,rfl,hb,?_,rest⟩;rw[hk g rfl];exact g0
theorem OwnP.below (h:OwnP T w base v l)(hb:Below w.heap.size w w'):OwnP T w' base v l:=h.same fun k hk=>hb.block k (h.lt k hk).2
theorem OwnP.slice (h:OwnP T w base v l):∃ a cap,v=.slice a l.length cap/\(∀ k,∀ hk:k<l.length,∃ g,a=some ⟨g,0,none⟩/\w.cell? ⟨g,k*2,none⟩=some l[k].1/\w.cell? ⟨g,k*2+1,none⟩=some l[k].2):=by
 rcases h.2 with ⟨hv,h0⟩|⟨g,cap,cur,hv,hg,hh,_⟩
 . exact⟨none,0,by rw[hv,h0],fun k hk=>by omega⟩
 . refine⟨_,cap,hv,fun k hk=>⟨g,rfl,?_⟩⟩;subst hv;have h1:=World.ownsRow.cellAt h (k*2) (by omega);have h2:=World.ownsRow.cellAt h (k*2+1) (by omega);rw[h1,h2];exact pV_get l k hk
theorem cell_two (w:World)(x y:Value)(t:TypeId):∀ j u,[x,y][j]?=some u->(w.alloc (.cells #[x,y] t)).cell? ((⟨w.heap.size,0,none⟩:Addr).add j)=some u:=by
 intro j u hj
 match j,hj with
 | 0,hj=>simp at hj;subst hj;simp[Addr.add]
 | 1,hj=>simp at hj;subst hj;simp[Addr.add]
 | j+2,hj=>simp at hj
theorem wpList_appP (E:ElemP T ST z b)(wr:World){ops:Array Oper}{rest:List Oper}{o:Oper}{a:Act}{Q:Exit->Act->World->Prop}{W:World}(hgd:o.guard=none)(s x:Operand)
 (ho:o.op=.call { callee:=.builtin .append,args:=#[s,x],argTypes:=#[ST,ST] })
 (base:Nat) (w0:World) (v:Value) (l:List (Value×Value)) (y1 y2:Value) (hs:a.eval s=v) {N:Nat} (hx:a.eval x=.slice (some ⟨N,0,none⟩) 1 1)
 (hW:W=wr.alloc (.cells #[y1,y2] T)) (hN:N=wr.heap.size) (hy:y1.oneCell'=true/\y2.oneCell'=true)
 (hown:OwnP T wr base v l) (hlen:l.length<1099511627776) (hbase:base<=wr.heap.size) (hb:Below base w0 wr)
 (h:∀ v' w',OwnP T w' base v' (l++[(y1,y2)])->Below base w0 w'->base<=w'.heap.size->Zdg v v' wr w'->wpList prog ops Q rest (a.put o.dst v') w') :
 wpList prog ops Q (o::rest) a W:=by
 obtain⟨i,hi,hz,g1,g3⟩:=info_parts E.info;subst hN;subst hW
 have g2:=E.small;refine wpList_append_own_at (w:=wr.alloc (.cells #[y1,y2] T)) hgd s x ST ho base T i z 2 b E.under hi hz g1 g3 E.two (by decide)
  v l.length (pV l) hs (World.ownsRow.alloc hown _) ⟨wr.heap.size,0,none⟩ 1 1 [y1,y2] hx rfl (cell_two _ _ _ _) (by intro u hu;simp at hu;rcases hu with rfl|rfl;exact hy.1;exact hy.2) (by unfold maxLen;omega) (by
   have h1:(l.length+1)*b<=1099511627776*100:=Nat.mul_le_mul (by omega) g2;omega) (by simp;omega) ?_
 intro v' w' h1 h2 _ g0;refine h v' w' ?_ ?_ ?_ ⟨Zd9 h2,g0.imp id fun e=>⟨_,e,by simp⟩⟩
 . unfold OwnP;rw[List.length_append,pV_append];exact h1
 . exact(hb.alloc hbase _).grown h2 (by simp;omega) (fun k hk=>(hown.lt k hk).1)
 . have:=h2.size;simp at this;omega
end
end Go.Proofs.YtgmbklaolcmljaaGreat

namespace Go.Proofs.YtgmbklaolcmljaaGreat
open Go.Proofs.Tryz
open Go.RowKit Go.Deep Go.ChangeShapes Go.WideShapes
theorem open_lits0 {H:Type}{enc:TypeId×Value->H}{w:World}{base:Nat}{spare:Nat->Bool}{held:Bool}{fuel:Nat}{cs:List Value}{x:DataW H×List MemPlace}
 (h:DataW.trod enc prog w base spare held fuel 64 cs=some x):∃ a l cap,cs=[.slice a l.length cap]/\LitsAt w a l:=by
 have c1:prog.cellsOf 3=1:=by kernel_rfl
 have c3:prog.cellsOf 44=2:=by kernel_rfl
 have c2:prog.cellsOf 4=1:=by kernel_rfl
 rcases Zn8 underlying64 h with e2|⟨a,len,cap,n,e2,hl,hm,g8,hx⟩
 . exact⟨none,[],0,e2,⟨by simp,fun k hk=>by simp at hk⟩⟩
 ·subst e2;have each:∀ i,i<len->∃ q:Int×Bool,w.cell? (a.add (i*2))=some (.int .i64 q.1)/\w.cell? ((a.add (i*2)).add 1)=some (.bool q.2):=by
   intro i hi;obtain⟨cs',y,h1,h2⟩:=hx i hi;rw[c3] at h1;obtain⟨_,g4,g2⟩:=World.cells?_some h1;obtain⟨xs,k,hk,g7,_,g5,hf⟩:=DataW.trod_struct underlying44 h2
   match xs,g5,cs',g4 with
   | [y0,y1],_,[v0,v1],_ =>
     have g0:=hf 0 _ rfl;have g1:=hf 1 _ rfl;simp[c1,c2] at g0 g1;obtain⟨n0,e0,_,w0⟩:=DataW.trod_int underlying3 g0;obtain⟨n1,e1,_⟩:=DataW.trod_bool underlying4 g1;simp only[List.cons.injEq,and_true] at e0 e1;subst e0 e1;have f0:=g2 0 (by omega);have f1:=g2 1 (by omega);rw[add0] at f0;exact⟨(n0,n1),by simpa using f0,by simpa using f1⟩
  obtain⟨q,hq⟩:∃ q:Nat->Int×Bool,∀ i,i<len->w.cell? (a.add (i*2))=some (.int .i64 (q i).1)/\w.cell? ((a.add (i*2)).add 1)=some (.bool (q i).2):=by
   classical
   refine⟨fun i=>if hi:i<len then Classical.choose (each i hi) else (0,false),fun i hi=>?_⟩;simp only[dif_pos hi];exact Classical.choose_spec (each i hi)
  refine⟨some a,(List.range len).map q,cap,by simp,⟨by unfold maxLen at hm;simp;omega,fun i hi=>?_⟩⟩;have g6:i<len:=by simpa using hi
  obtain⟨f0,f1⟩:=hq i g6;have g3:a.spot=none:=by
   obtain⟨q0,_⟩:=hq 0 (by omega);have:=Zgh q0;simpa [Addr.add] using this
  obtain⟨b,off,spot⟩:=a;dsimp only at g3;subst g3;simp only[Zni] at f0 f1;exact⟨b,off,rfl,by simpa using f0,by simpa using f1⟩
theorem open_lits {H:Type}{enc:TypeId×Value->H}{w:World}{base b0:Nat}{spare:Nat->Bool}{held:Bool}{r:Reach}{v:Value}{d:DataW H}{ps:List MemPlace}(hval:Value.okWide prog w r b0 64 v)(hd:DataW.Trod enc prog w base spare held 64 v d ps) :
 ∃ (a:Option Addr) (l:List (Int×Bool)) (c:Nat),v=.slice a l.length c/\LitsAt w a l:=by
 obtain⟨a,len,cap,rfl⟩:=okWide_slice underlying64 hval;obtain⟨fuel,hf⟩:=hd;obtain⟨a',l,cap',g0,hp⟩:=open_lits0 hf;simp[Value.cells] at g0;obtain⟨rfl,rfl,rfl⟩:=g0;exact⟨a,l,cap,rfl,hp⟩
end Go.Proofs.YtgmbklaolcmljaaGreat
