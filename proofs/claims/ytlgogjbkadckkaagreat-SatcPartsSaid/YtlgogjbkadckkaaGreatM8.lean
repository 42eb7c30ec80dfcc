/- Several texts in one file: contracts of the program's functions and what follows from them. -/
import Derived.Test.YtlgogjbkadckkaaGreatM7
import Derived.Deep.Slices
import Derived.ChangeArms
import Derived.WideShapes
set_option linter.unusedSimpArgs false
set_option linter.unusedVariables false
set_option linter.unusedSectionVars false
set_option linter.unnecessarySimpa false
set_option maxRecDepth 100000
set_option maxHeartbeats 8000000
namespace Go.Proofs.YtlgogjbkadckkaaGreat
open Go.RowKit
section
variable {K:Law} {n:Nat} {Od:List Nat->Prop} {room:Nat} {w0 w:World} {mb:Nat} {fs:List (Int×BF)} {nx:Int} {o:Own} {m:ManD} {V:Nat->BF}
theorem Zqd (h:SatE K n Od room w0 mb fs nx w o m V) {k:Int} {G:BF} (hf:(k,G)∈fs) {ls:List (Int×Bool)} {a:Option Addr} {c:Nat} (hls:Zfu w a ls) :
 Calls Tryz.prog 10 #[.pointer (some ⟨mb,0,none⟩),.int .i64 k,.slice a ls.length c] w fun x w'=>∃ av l v,x=.returned (.tuple #[.slice av l v,.int .i64 (Zhs n ls)])/\(Zhs n ls≠0->l=0)/\(Zhs n ls=0->NatV w' (.slice av l v) (wayV n G ls))/\AskN K n Od room w0 mb fs nx m o w w' (.slice av l v):=by
 have HA:=Hd (Zfi h k (b:=true) (by simp only[true_iff];exact⟨G,hf⟩));have hn64:n<=64:=by have:=h.ok.store.small;rw[h.vars] at this;exact this
 have hll:=hls.len;obtain⟨P,hP⟩:∃ P:Ending->World->Prop,P=fun x w'=>∃ av l v,x=.returned (.tuple #[.slice av l v,.int .i64 (Zhs n ls)])/\(Zhs n ls≠0->l=0)/\(Zhs n ls=0->NatV w' (.slice av l v) (wayV n G ls))/\AskN K n Od room w0 mb fs nx m o w w' (.slice av l v):=⟨_,rfl⟩
 have HBAD:Hid (∀ (er:Int) W,Zhs n ls=er->er≠0->Below w.heap.size w W->P (.returned (.tuple #[.slice none 0 0,.int .i64 er])) W):=Hd fun er W he hne hb=>by
  rw[hP];exact⟨none,0,0,by rw[he],fun _=>rfl,fun e=>absurd (by rw[<- he];exact e) hne,AskN.of h hb 0⟩
 have HVN:Hid (∀ W,Below w.heap.size w W->Calls Tryz.prog 42 #[.pointer (some ⟨mb,0,none⟩)] W fun x w''=>x=.returned (.int .i64 (n:Nat))/\W=w''):=Hd fun W hb=>by
  have hs:=h.below hb;have hv:=Zdm hs.is;rw[hs.vars] at hv;exact hv
 have HTOT:Hid (∀ W kt,Below w.heap.size w W->Zaz W kt (Value.int .i64) (mLt ls)->w.heap.size<=kt->(∀ p∈ls,0<=p.1/\p.1<(n:Int))->(ls.map (·.1)).Nodup->Calls Tryz.prog 43 #[.pointer (some ⟨mb,0,none⟩),.int .i64 k,.map (some kt)] W fun x w6=>∃ v6,x=.returned (.tuple #[v6,.int .i64 0])/\Zaz w6 kt (Value.int .i64) (mLt ls) /\
  Calls Tryz.prog 44 #[v6,.int .i64 (ls.length:Nat)] w6 fun x w9=>∃ v9,x=.returned v9/\P (.returned (.tuple #[v9,.int .i64 0])) w9):=Hd fun W kt hb hm hkt h1 h2=>by
  have hs:=h.below hb;have hno:o kt=none:=h.lt.none hkt;have hlen:ls.length<=n:=by
   have:=(Zwj h1 h2).1;rw[<- this];exact Zxj _ _
  refine(Zqt hs hf (fx:=fxV ls) (.inr ⟨kt,_,rfl,hm,fun v=>Znk ls (v:Int)⟩) (fun q e=>by
   cases e;exact⟨hm.lt,Nat.le_trans h.chg.size hkt,hno⟩)).mono ?_
  rintro x w6 ⟨v6,rfl,hv6,o6,m6,V6,hc6,hw6,hvr6,hs6,hq6⟩;refine⟨v6,rfl,hm.keepB (hc6.block kt hm.lt hno (fun e=>e)),(Zpc hv6 (show ls.length<=4096 by omega)).mono ?_⟩;rintro x w9 ⟨⟨v9,rfl,hv9,hq9⟩,hb9⟩;rw[Ycv h1 h2] at hv9;refine⟨v9,rfl,?_⟩;have hv9c:=hv9;obtain⟨a9,c9,e9,_⟩:=hv9c;have he:Zhs n ls=0:=by rw[Zsl h1,if_pos h2]
  rw[hP];refine⟨a9,_,c9,by rw[he,<- e9],fun c=>absurd he c,fun _=>by rw[<- e9];exact hv9,?_⟩;have hask6:AskN K n Od room w0 mb fs nx m o W w6 v6:=⟨o6,m6,V6,hc6,hw6,hvr6,hs6,hq6⟩;rw[<- e9];exact(AskN.trans (ChgX.of_below hb o NoB) rfl rfl hask6).next hb9 hq9
 have HLS:Hid (Zfu w a ls):=Hd hls;have HB0:Hid (Below w.heap.size w w):=Hd (Below.refl _ _);have hmm:=fun t w=>Zb2 (P:=Tryz.prog) w t
 rw[<- hP];clear hP h hf hls
 go_enter Tryz.func10,Tryz.ntmps10
 go_wp2_with fail;refine HA.out.mono ?_;rintro x w' ⟨rfl,rfl⟩;clear HA;go_wp2_with fail
 go_loopw [6,7,10,24] (fun _ _ _ s24 wr=>∃ j:Nat,j<=ls.length/\s24=.int .i64 (j:Int)/\Hid (Below w.heap.size w wr)/\Hid (∀ p∈ls.take j,0<=p.1/\p.1<(n:Int))) (fun _ _ _ s24 _=>ls.length-(intOf s24).toNat)
 case atStart=>exact⟨0,Nat.zero_le _,rfl,HB0,Hd (by simp)⟩
 case round =>
  obtain⟨j,hj,rfl,HBEL,HR⟩:=hrel
  by_cases hlt:j<ls.length
  ·
   have hjz:(j:Int)<(ls.length:Int):=by omega
   obtain⟨b,off,rfl,d0,d1⟩:=(HLS.out.below HBEL.out).cells j hlt;have HTK:Hid (ls.take (j+1)=ls.take j++[ls[j]]):=Hd (List.take_succ_eq_append_getElem hlt);have HIN:=Hd (List.getElem_mem hlt);obtain⟨p,hp⟩:∃ p,p=ls[j]:=⟨_,rfl⟩;rw[<- hp] at d0 d1 HTK HIN;obtain⟨pv,py⟩:=p;dsimp only at d0 d1 HTK;obtain⟨w5,hw5⟩:∃ w5,w5=wr.alloc (.cells #[.int .i64 pv,.bool py] 44):=⟨_,rfl⟩;have HW5:Hid (_=w5):=Hd hw5.symm;have hb5:Below wr.heap.size wr w5:=by rw[hw5];exact Zaf _ _
   have g5:w5.heap[wr.heap.size]?=some (.cells #[.int .i64 pv,.bool py] 44 (0,0)):=by rw[hw5];exact heap_alloc_new _ _
   have HB5:Hid (∀ q,Below w.heap.size w (w5.drewN q)):=Hd fun q=>(HBEL.out.trans (hb5.mono HBEL.out.size)).trans ((Zah w5 q).mono (by have:=HBEL.out.size;have:=hb5.size;omega))
   have e0:w5.cell? ⟨wr.heap.size,0,none⟩=some (.int .i64 pv):=by simp[World.cell?,g5]
   have HV:Hid (∀ q,Calls Tryz.prog 42 #[.pointer (some ⟨mb,0,none⟩)] (w5.drewN q) fun x w''=>x=.returned (.int .i64 (n:Nat))/\w5.drewN q=w''):=Hd fun q=>HVN.out _ (HB5.out q)
   have HZ:=Hd (show True from trivial);clear hp hw5 hb5 g5 HTOT HVN
   by_cases hr:0<=pv/\pv<(n:Int)
   ·
    have h0:¬ pv<0:=by omega
    have h1:¬ pv>=(n:Int):=by omega
    have HR2:Hid (∀ p∈ls.take (j+1),0<=p.1/\p.1<(n:Int)):=Hd fun q hq=>by
     rw[HTK.out] at hq;rcases List.mem_append.1 hq with e|e
     ·
      exact HR.out q e
     ·
      simp at e;rw[e];exact hr
    clear hr HBAD HBEL;go_upto_region 7 with fail;rw[HW5.out]
    go_quiet ((with_reducible exact Za8 (HV.out _)))
    go_wp2_with fail;go_roundw
    case rel=>exact⟨j+1,by omega,by rw[show ((j+1:Nat):Int)=(j:Int)+1 by omega],Hd (HB5.out _),HR2⟩
    case measure=>simp[intOf];omega
   ·
    have HF:Hid (∀ q,P (.returned (.tuple #[.slice none 0 0,.int .i64 9])) (w5.drewN q)):=Hd fun q=>HBAD.out 9 _ (Zw4 HIN.out hr) (by decide) (HB5.out q)
    clear HBAD HBEL HB5
    by_cases h0:pv<0
    ·
     clear hr;go_upto_region 7 with fail;rw[HW5.out]
     go_quiet ((with_reducible exact Za8 (HV.out _)))
     go_wp2_with fail
     first|exact HF.out _|exact bodyPost_ret (results_tmp2 rfl _ _ _) rfl (HF.out _)
    ·
     have h1:pv>=(n:Int):=by omega
     clear hr;go_upto_region 7 with fail;rw[HW5.out]
     go_quiet ((with_reducible exact Za8 (HV.out _)))
     go_wp2_with fail
     first|exact HF.out _|exact bodyPost_ret (results_tmp2 rfl _ _ _) rfl (HF.out _)
  ·
   obtain rfl:j=ls.length:=by omega
   have hnlt:¬ (ls.length:Int)<(ls.length:Int):=by omega
   obtain⟨kt,hkt⟩:∃ kt,kt=wr.heap.size:=⟨_,rfl⟩;obtain⟨w2,hw2⟩:∃ w2,w2=wr.alloc (.map #[] 0):=⟨_,rfl⟩;have hmk:∀ t,(Instr.makeMap t none).run Tryz.prog wr=.ok (.map (some kt)) w2:=fun t=>by rw[hkt,hw2];exact Zb2 wr t
   have hb2:Below wr.heap.size wr w2:=by rw[hw2];exact Zaf _ _
   have HM2:Hid (Zaz w2 kt (Value.int .i64) (mLt (ls.take 0))):=Hd (by rw[hkt,hw2];exact Zd7 wr _);have HB2:Hid (Below w.heap.size w w2):=Hd (HBEL.out.trans (hb2.mono HBEL.out.size));have hk0:w.heap.size<=kt:=by rw[hkt];exact HBEL.out.size
   have HRA:Hid (∀ p∈ls,0<=p.1/\p.1<(n:Int)):=Hd (by
    have:=HR.out
    rwa [List.take_length] at this)
   have HK0:=Hd hk0;clear hmm hw2 hb2 hk0 hkt HBEL HR HVN HB0;go_wp2_with fail
   go_loopw [6,7,13,14,15,42] (fun _ _ _ _ _ s42 wr=>∃ j:Nat,j<=ls.length/\s42=.int .i64 (j:Int)/\Hid (Below w.heap.size w wr)/\Hid (Zaz wr kt (Value.int .i64) (mLt (ls.take j)))/\Hid (((ls.take j).map (·.1)).Nodup)) (fun _ _ _ _ _ s42 _=>ls.length-(intOf s42).toNat)
   case atStart=>exact⟨0,Nat.zero_le _,rfl,HB2,HM2,Hd (by simp)⟩
   case round =>
    obtain⟨j,hj,rfl,HBEL,HM,HND⟩:=hrel
    by_cases hlt:j<ls.length
    ·
     have hjz:(j:Int)<(ls.length:Int):=by omega
     obtain⟨b,off,rfl,d0,d1⟩:=(HLS.out.below HBEL.out).cells j hlt;have HTK:Hid (ls.take (j+1)=ls.take j++[ls[j]]):=Hd (List.take_succ_eq_append_getElem hlt);obtain⟨p,hp⟩:∃ p,p=ls[j]:=⟨_,rfl⟩;rw[<- hp] at d0 d1 HTK;obtain⟨pv,py⟩:=p;dsimp only at d0 d1 HTK;obtain⟨w5,hw5⟩:∃ w5,w5=wr.alloc (.cells #[.int .i64 pv,.bool py] 44):=⟨_,rfl⟩;have HW5:Hid (_=w5):=Hd hw5.symm;have hb5:Below wr.heap.size wr w5:=by rw[hw5];exact Zaf _ _
     have g5:w5.heap[wr.heap.size]?=some (.cells #[.int .i64 pv,.bool py] 44 (0,0)):=by rw[hw5];exact heap_alloc_new _ _
     have HB5:Hid (Below w.heap.size w w5):=Hd (HBEL.out.trans (hb5.mono HBEL.out.size));have e0:w5.cell? ⟨wr.heap.size,0,none⟩=some (.int .i64 pv):=by simp[World.cell?,g5]
     have e1:w5.cell? ⟨wr.heap.size,1,none⟩=some (.bool py):=by simp[World.cell?,g5]
     have hm5:=HM.out.below hb5;have hlk:=hm5.lookup Zkk Tryz.underlying97 Tryz.zeroValue4 pv true;rw[Znk] at hlk;obtain⟨w6,hrun,hm6,hg6⟩:=hm5.update Zkk Tryz.underlying97 pv (.bool py);have hwr6:Wr (· = kt) w5 w6:=Wr.of_grown hg6 _ (fun k e=>by cases e;rfl);have HB6:Hid (Below w.heap.size w w6):=Hd (HB5.out.trans (hwr6.below (fun k e=>by have e:k=kt:=e;rw[e];exact HK0.out) HB5.out.size));cases hfx:fxL (ls.take j) pv with
     | some y =>
       rw[hfx] at hlk;have hlk2:(Instr.lookup 97 (.map (some kt)) (.int .i64 pv) true).run Tryz.prog w5=.ok (.tuple #[.bool y,.bool true]) w5:=hlk;have hdup:¬ (ls.map (·.1)).Nodup:=fun hn=>by
        have h1:=(Zgp (ls.take j) pv).1 (by rw[hfx];rfl);have h2:((ls.take (j+1)).map (·.1)).Nodup:=by
         rw[List.map_take];exact hn.sublist (List.take_sublist _ _)
        rw[HTK.out,List.map_append] at h2;exact(List.nodup_append.1 h2).2.2 _ h1 _ (by simp) rfl
       have HF:Hid (P (.returned (.tuple #[.slice none 0 0,.int .i64 6])) w5):=Hd (HBAD.out 6 _ (by rw[Zsl HRA.out,if_neg hdup]) (by decide) HB5.out);clear hlk hfx hdup hm5 hrun hm6 hg6 hwr6 HB6 hw5 hb5 g5 HTOT HBAD HBEL HM hp;go_upto_region 14 with fail;rw[HW5.out];go_wp2_with fail
       first|exact HF.out|exact bodyPost_ret (results_tmp2 rfl _ _ _) rfl HF.out
     | none =>
       rw[hfx] at hlk;have hlk2:(Instr.lookup 97 (.map (some kt)) (.int .i64 pv) true).run Tryz.prog w5=.ok (.tuple #[.bool false,.bool false]) w5:=hlk;have hni:pv∉(ls.take j).map (·.1):=fun e=>by
        have:=(Zgp (ls.take j) pv).2 e;rw[hfx] at this;cases this
       rw[Ycc py hni] at hm6;have HM6:Hid (Zaz w6 kt (Value.int .i64) (mLt (ls.take (j+1)))):=Hd (by rw[HTK.out];exact hm6)
       have HND6:Hid (((ls.take (j+1)).map (·.1)).Nodup):=Hd (by
        rw[HTK.out,List.map_append];refine List.nodup_append.2 ⟨HND.out,by simp,fun x hx y hy e=>?_⟩;simp at hy;subst hy;subst e
        exact hni hx)
       clear hlk hfx hni hm5 hm6 hg6 hwr6 hw5 hb5 g5 HTOT HBAD HBEL HM HND hp;go_upto_region 14 with fail;rw[HW5.out];go_wp2_with fail;go_roundw
       case rel=>exact⟨j+1,by omega,by rw[show ((j+1:Nat):Int)=(j:Int)+1 by omega],HB6,HM6,HND6⟩
       case measure=>simp[intOf];omega
    ·
     obtain rfl:j=ls.length:=by omega
     have hm:=HM.out;have hnd:=HND.out;rw[List.take_length] at hm hnd;have HT:=Hd (HTOT.out wr kt HBEL.out hm HK0.out HRA.out hnd);clear hm hnd HTOT HBAD HM HND HBEL HLS;go_wp2_with fail;refine HT.out.mono ?_;rintro x w6 ⟨v6,rfl,hm6,hh⟩;have hlen:=fun ty=>hm6.size (P:=Tryz.prog) Tryz.underlying97 ty
     rw[Ycb] at hlen;have HH:=Hd hh;clear hm6 hh HT;go_wp2_with fail;refine HH.out.mono ?_;rintro x w9 ⟨v9,rfl,hp9⟩;have HF:=Hd hp9;clear hp9 HH;go_wp2_with fail
     first|exact HF.out|exact bodyPost_ret (results_tmp2 rfl _ _ _) rfl HF.out
end
open Go.RowKit
def DepE (L:Nat) (d:Zac) (V:Nat->BF) (e:Nat):Prop:=∀ u,u<d.vars.length->L<=levN d u->Ind (ef V e) u
section
variable {d d':Zac} {V V':Nat->BF} {L:Nat}
theorem DepE.top (hk:Zaj d V) {f:Nat} (hf:okE (Zaa d) f) {b:BN} (hb:Zaa d (f/2)=some b) (h:DepE L d V f):levN d b.v<L:=by
 rcases Nat.lt_or_ge (levN d b.v) L with c|c
 ·
  exact c
 ·
  exfalso;have hv:=hk.dag.var _ _ hb;have hlv:lvE d.vars.length (levN d) (Zaa d) f=levN d b.v:=by unfold lvE;rw[hb]
  obtain⟨q1,_,q3,_,_⟩:=Zbv hk hf hv (by rw[hlv];exact Nat.le_refl _);have e:=(Zhl hk hf hv (by rw[hlv];exact Nat.le_refl _)).1;rw[h b.v hv c false] at e;rw[hk.dag.canon q1 hf e,hlv] at q3;omega
theorem DepE.cofs (hk:Zaj d V) {f v:Nat} (hf:okE (Zaa d) f) (hv:v<d.vars.length) (hl:levN d v<=lvE d.vars.length (levN d) (Zaa d) f) (h:DepE L d V f):DepE L d V (cofs d f v).1/\DepE L d V (cofs d f v).2:=by
 obtain⟨e1,e2⟩:=Zhl hk hf hv hl;exact⟨fun u hu hL=>by rw[e1];exact(h u hu hL).cof v false,fun u hu hL=>by rw[e2];exact(h u hu hL).cof v true⟩
theorem DepE.half {e f:Nat} (he:e/2=f/2) (h:DepE L d V f):DepE L d V e:=fun u hu hL=>Ind.of fun ρ b=>by
 have h1:=(h u hu hL).at ρ b;unfold ef at h1 ⊢;rw[he];revert h1;cases f%2 == 1<;>cases e%2 == 1<;>cases V (f/2) (upd ρ u b)<;>cases V (f/2) ρ<;>simp
theorem DepE.const (hk:Zaj d V) {e:Nat} (he:e/2=0):DepE L d V e:=fun u _ _=>Ind.of fun ρ b=>by
 unfold ef;rw[he,hk.dag.one,hk.dag.one]
theorem DepE.halfIn (hk:Zaj d V) {e f g h:Nat} (hi:Zdq e f g h) (h1:DepE L d V f) (h2:DepE L d V g) (h3:DepE L d V h):DepE L d V e:=by
 rcases hi with e0|e0|e0|e0
 ·
  exact DepE.const hk e0
 ·
  exact h1.half e0
 ·
  exact h2.half e0
 ·
  exact h3.half e0
theorem DepE.ext (x:Ext d V d' V') {e:Nat} (he:okE (Zaa d) e) (h:DepE L d V e):DepE L d' V' e:=fun u hu hL=>by
 rw[x.vars] at hu;rw[x.lev] at hL;rw[x.ef he];exact h u hu hL
structure Ztr (L:Nat) (d:Zac) (V:Nat->BF) (f0 g0 h0:Nat) (f g h:Nat) (nt:Bool):Prop extends IteS d V f0 g0 h0 f g h nt where
 dF:DepE L d V f
 dG:DepE L d V g
 dH:DepE L d V h
theorem Ztr.next {f0 g0 h0 f g h:Nat} {nt:Bool} (hk:Zaj d V) (s:Ztr L d V f0 g0 h0 f g h nt) (hd:(iteR f g h).dn=false) :
 Ztr L d V f0 g0 h0 (iteR f g h).a (iteR f g h).b (iteR f g h).c (nt != (iteR f g h).n)/\(iteR f g h).a/2≠0:=by
 obtain⟨h1,h2⟩:=s.toIteS.next hk hd
 obtain⟨ha,hb,hc,_,_⟩:=Zpl hd;exact⟨⟨h1,DepE.halfIn hk ha s.dF s.dG s.dH,DepE.halfIn hk hb s.dF s.dG s.dH,DepE.halfIn hk hc s.dF s.dG s.dH⟩,h2⟩
end
open Go.RowKit
def Zvc (K:Law) (L k:Nat):Prop:=∀ (o:Own) (w:World) (xb mb:Nat) (m:ManD) (V:Nat->BF) (f g h:Nat),Zd0 (K m.d V) o w mb m->Zai o w->Zer o w xb mb->Zaj m.d V ->
 okE (Zaa m.d) f->okE (Zaa m.d) g->okE (Zaa m.d) h->L<=m.d.vars.length->DepE L m.d V f->DepE L m.d V g->DepE L m.d V h->L<=minL m.d f g h+k ->
 Calls Tryz.prog 55 #[.pointer (some ⟨xb,0,none⟩),.int .i64 f,.int .i64 g,.int .i64 h] w (Zmv K k o w mb m V f g h)
theorem top3L {d:Zac} {V:Nat->BF} (hk:Zaj d V) {L f g h:Nat} (hf:okE (Zaa d) f) (hg:okE (Zaa d) g) (hh:okE (Zaa d) h) (df:DepE L d V f) (dg:DepE L d V g) (dh:DepE L d V h) (hn:f/2≠0) {top least:Int} (ht:TopS d [f,g,h] top least) :
 ∃ v:Nat,top=v/\v<d.vars.length/\levN d v=minL d f g h/\levN d v<L:=by
 obtain⟨v,h1,h2,h3,h4⟩:=top3 hk hf hn ht;refine⟨v,h1,h2,h3,?_⟩;rcases ht with ⟨q1,_,q3⟩|⟨v',q1,_,q3,⟨e,he,b,hb,hbv⟩,q5⟩
 ·
  exfalso;rcases hf with h0|⟨b,hb⟩
  ·
   exact hn h0
  ·
   rw[q3 f (by simp)] at hb;cases hb
 ·
  obtain rfl:v'=v:=by omega
  simp only[List.mem_cons,List.not_mem_nil,or_false] at he;rw[<- hbv];rcases he with rfl|rfl|rfl
  ·
   exact df.top hk hf hb
  ·
   exact dg.top hk hg hb
  ·
   exact dh.top hk hh hb
theorem Zi0 {K:Law} (hK:Zc8 K) (L k:Nat) (IH:∀ k',k=k'+1->Zvc K L k'):Zvc K L k:=by
 intro o w xb mb m V f g h hm hlt hx hk hf hg hh hLn hdf hdg hdh hfuel;obtain⟨st0,hst0⟩:∃ s,Zal o w (Classical.choose hm).sb m.d s:=(Classical.choose_spec hm).store;have HLT:Hid (∀ e,okE (Zaa m.d) e->e<eMax):=Hd fun e he=>by have:=hst0.edge_lt he;unfold eMax;omega
 have HK':=Hd hK;have HM:=Hd hm;have HOL:=Hd hlt;have HX:=Hd hx;have HK:=Hd hk;have HF:=Hd hf;have HG:=Hd hg;have HH:=Hd hh;have HFU:=Hd hfuel;have HST:Hid (Ztr L m.d V f g h f g h false):=Hd ⟨IteS.start hf hg hh,hdf,hdg,hdh⟩;have HLN:=Hd hLn;clear hst0 hm hlt hx hk hf hg hh hfuel hLn hdf hdg hdh
 go_enter Tryz.func55,Tryz.ntmps55
 go_upto_block 0 with fail
 go_cut [1,2,3,9] from 27 (fun s1 s2 s3 s9 wx=>∃ (f' g' h':Nat) (nt:Bool),s1=.int .i64 f'/\s2=.int .i64 g'/\s3=.int .i64 h'/\s9=.bool nt/\Ztr L m.d V f g h f' g' h' nt/\f'/2≠0/\wx=w)
 case first =>
  go_wp2_with fail
  go_loopw [1,2,3,9,27] (fun s1 s2 s3 s9 i wr=>∃ (f' g' h':Nat) (nt:Bool) (j:Nat),s1=.int .i64 f'/\s2=.int .i64 g'/\s3=.int .i64 h'/\s9=.bool nt/\i=.int .i64 j/\j<=3/\Ztr L m.d V f g h f' g' h' nt/\(0<j->f'/2≠0)/\wr=w) (fun _ _ _ _ i _=>3-(intOf i).toNat)
  case atStart=>exact⟨f,g,h,false,0,rfl,rfl,rfl,rfl,rfl,by omega,HST.out,by omega,rfl⟩
  case round =>
   obtain⟨f',g',h',nt,j,rfl,rfl,rfl,rfl,rfl,hj,hS,hn,rfl⟩:=hrel;clear HST
   by_cases hlt:j<3
   ·
    have HI:=Hd (fun W:World=>Zwv f' g' h' W (HLT.out _ hS.okF) (HLT.out _ hS.okG) (HLT.out _ hS.okH));have hlr:(iteR f' g' h').dn=true->(iteR f' g' h').r<eMax:=fun e=>HLT.out _ (((Zkj e).1.ok HK.out hS.okF hS.okG hS.okH).1)
    have hNX:=fun e=>hS.next HK.out (f:=f') (g:=g') (h:=h') e
    have hDN:=fun e=>hS.done HK.out HF.out HG.out HH.out e
    have hlt':(j:Int)<3:=by omega
    unfold iteV at HI;obtain⟨R,hR⟩:∃ R,R=iteR f' g' h':=⟨_,rfl⟩;rw[<- hR] at HI hlr hNX hDN;clear hR hS hn;obtain⟨a,b,c,n,r,dn⟩:=R;dsimp only at HI hlr hNX hDN;cases dn with
    | true =>
      have HFL:=Hd (fun W:World=>Zb1 r nt W (hlr rfl));have HDN:=Hd (hDN rfl);clear hlr hNX hDN;go_wp2_with fail;refine(HI.out _).mono ?_;rintro x w' ⟨rfl,rfl⟩;go_wp2_with fail;refine(HFL.out _).mono ?_;rintro x w' ⟨rfl,rfl⟩;go_wp2_with fail;go_ret;exact⟨o,m,V,⟨HM.out,HOL.out,Chg.refl _ _ _,HK.out,Ext.refl _ _,rfl,rfl⟩,.inl ⟨_,rfl,HDN.out,rfl,by have:=Nat.one_le_two_pow (n:=k);omega⟩⟩
    | false =>
      have hbn:(nt != n)=(!nt == n):=by cases nt<;>cases n<;>rfl
      have HNX:=Hd (hNX rfl);rw[hbn] at HNX;clear hlr hNX hDN hbn
      by_cases hp1:a=f'
      ·
       subst hp1
       by_cases hp2:b=g'
       ·
        subst hp2
        by_cases hp3:c=h'
        ·
         subst hp3;go_wp2_with fail;refine(HI.out _).mono ?_;rintro x w' ⟨rfl,rfl⟩;go_wp2_with fail;go_meet;exact⟨_,_,_,_,rfl,rfl,rfl,rfl,HNX.out.1,HNX.out.2,by trivial⟩
        ·
         have H3:(c == h')=false:=by simp[hp3]
         go_wp2_with fail;refine(HI.out _).mono ?_;rintro x w' ⟨rfl,rfl⟩;go_wp2_with fail;go_roundw
         case rel=>exact⟨_,_,_,_,j+1,rfl,rfl,rfl,rfl,by simp,by omega,HNX.out.1,fun _=>HNX.out.2,by trivial⟩
         case measure=>simp[intOf];omega
       ·
        have H2:(b == g')=false:=by simp[hp2]
        go_wp2_with fail;refine(HI.out _).mono ?_;rintro x w' ⟨rfl,rfl⟩;go_wp2_with fail;go_roundw
        case rel=>exact⟨_,_,_,_,j+1,rfl,rfl,rfl,rfl,by simp,by omega,HNX.out.1,fun _=>HNX.out.2,by trivial⟩
        case measure=>simp[intOf];omega
      ·
       have H1:(a == f')=false:=by simp[hp1]
       go_wp2_with fail;refine(HI.out _).mono ?_;rintro x w' ⟨rfl,rfl⟩;go_wp2_with fail;go_roundw
       case rel=>exact⟨_,_,_,_,j+1,rfl,rfl,rfl,rfl,by simp,by omega,HNX.out.1,fun _=>HNX.out.2,by trivial⟩
       case measure=>simp[intOf];omega
   ·
    obtain rfl:j=3:=by omega
    have HS:=Hd hS;have HN:=Hd (hn (by omega));clear hS hn;go_wp2_with fail;go_meet;exact⟨f',g',h',nt,rfl,rfl,rfl,rfl,HS.out,HN.out,rfl⟩
 case rest =>
  obtain⟨f',g',h',nt,rfl,rfl,rfl,rfl,hS,hn,rfl⟩:=hcut
  rename World=>w
  clear HST;obtain⟨s,hms⟩:=HM.out;obtain⟨c0,c1,c2,c3,c4,c5,f0⟩:=cells6 hms.blk;have cx:=HX.out.cell;have HGET:=Hd (Zwl o s.me (K m.d V) 1 f' g' h' w hms.memo HOL.out);have HMS:=Hd hms;have HS:=Hd hS;have HN:=Hd hn;clear hms hS hn;go_wp2_with fail;refine HGET.out.mono ?_;rintro x w1 ⟨hgs,hme,hc1,hl1⟩;have hM1:Zbz (K m.d V) o w1 mb m s:=HMS.out.setMemo HOL.out hme (hc1.mono fun r e=>.inl e);have hX1:=HX.out.chg hc1;have HC1:=Hd hc1.any;have HM1:=Hd hM1;have HX1:=Hd hX1;have HL1:=Hd hl1;have hst1:Step K o w mb m V o w1 m V:=⟨⟨s,hM1⟩,hl1,hc1.any,HK.out,Ext.refl _ _,rfl,rfl⟩;have HST1:=Hd hst1;clear hme hc1 hl1 hM1 hX1 hst1;rcases hgs with rfl|⟨r,rfl,hkr⟩
  ·
   clear c0 c1 c2 c3 c4 c5 f0 cx;go_upto_region 14 with fail;obtain⟨w2,hw2⟩:∃ w2,w2=w1.alloc (.cells #[.int .i64 f',.int .i64 g',.int .i64 h'] 83):=⟨_,rfl⟩;have hb2:Below w1.heap.size w1 w2:=by rw[hw2];exact Zaf w1 _
   have hz:w2.heap[w1.heap.size]?=some (.cells #[.int .i64 f',.int .i64 g',.int .i64 h'] 83 (0,0)):=by rw[hw2];exact heap_alloc_new w1 _
   have hints:Zay w2 (some ⟨w1.heap.size,0,none⟩) ([f',g',h'].map Int.ofNat):=⟨by simp,fun j hj=>⟨w1.heap.size,0,rfl,by
    rw[cell_of_row w2 w1.heap.size (0+j) _ _ _ hz];simp at hj
    match j,hj with
    | 0,_=>rfl
    | 1,_=>rfl
    | 2,_=>rfl⟩⟩
   have hst2:=HST1.out.below hb2;have hX2:=HX.out.chg hst2.chg;have HTOP:Hid (Calls Tryz.prog 87 #[.pointer (some ⟨xb,0,none⟩),.slice (some ⟨w1.heap.size,0,none⟩) 3 3] w2 fun x w'=>∃ top least,x=.returned (.int .i64 top)/\TopS m.d [f',g',h'] top least/\Below w2.heap.size w2 w') :=
    Hd (Zgk hst2.is hst2.lt hX2 HK.out [f',g',h'] (by simp;exact⟨HS.out.okF,HS.out.okG,HS.out.okH⟩) (some ⟨w1.heap.size,0,none⟩) 3 hints)
   have HST2:=Hd hst2;have HW2:=Hd hw2;clear hb2 hz hints hst2 hX2 hw2;go_wp2_with fail;rw[<- HW2.out];refine HTOP.out.mono ?_;rintro x w3 ⟨top,least,rfl,htop,hb3⟩;obtain⟨v,rfl,hv,hlv,hvn⟩:=top3L HK.out HS.out.okF HS.out.okG HS.out.okH HS.out.dF HS.out.dG HS.out.dH HN.out htop;have HST3:=Hd (HST2.out.below hb3);have HV:=Hd hv;have HLV:=Hd hlv;obtain⟨k',hk'⟩:∃ k',k=k'+1:=⟨k-1,by have h1:=HFU.out;have h2:=HS.out.lev;omega⟩;have HIH:=Hd (IH k' hk');have cf:=Zbv HK.out HS.out.okF hv (by rw[hlv];unfold minL;omega);have cg:=Zbv HK.out HS.out.okG hv (by rw[hlv];unfold minL;omega);have ch:=Zbv HK.out HS.out.okH hv (by rw[hlv];unfold minL;omega);have hl1:levN m.d v+1<=minL m.d (cofs m.d f' v).1 (cofs m.d g' v).1 (cofs m.d h' v).1:=Zkm cf.2.2.1 cg.2.2.1 ch.2.2.1;have hl2:levN m.d v+1<=minL m.d (cofs m.d f' v).2 (cofs m.d g' v).2 (cofs m.d h' v).2:=Zkm cf.2.2.2.1 cg.2.2.2.1 ch.2.2.2.1;have hfu:L<=levN m.d v+1+k':=by have h1:=HFU.out;have h2:=HS.out.lev;omega
   have df:=DepE.cofs HK.out HS.out.okF hv (by rw[hlv];unfold minL;omega) HS.out.dF;have dg:=DepE.cofs HK.out HS.out.okG hv (by rw[hlv];unfold minL;omega) HS.out.dG;have dh:=DepE.cofs HK.out HS.out.okH hv (by rw[hlv];unfold minL;omega) HS.out.dH;have HDF:=Hd df;have HDG:=Hd dg;have HDH:=Hd dh;have HCF:=Hd cf;have HCG:=Hd cg;have HCH:=Hd ch;have HL1':=Hd hl1;have HL2':=Hd hl2;have HFU':=Hd hfu;have HKK:=Hd hk';have HSP:Hid (∀ (W:World) (e:Nat),okE (Zaa m.d) e->Step K o w mb m V o W m V->Calls Tryz.prog 88 #[.pointer (some ⟨xb,0,none⟩),.int .i64 e,.int .i64 v] W fun x w'=>x=.returned (.tuple #[.int .i64 (cofs m.d e v).1,.int .i64 (cofs m.d e v).2])/\Step K o w mb m V o w' m V) :=
    Hd fun W e he st=>(Zek st.is st.lt (HX.out.chg st.chg) HK.out e he v).mono fun x w' ⟨h1,h2⟩=>⟨h1,st.below h2⟩
   clear htop hb3 hv hlv hvn cf cg ch df dg dh hl1 hl2 hfu hk' HTOP HW2 HST2;go_wp2_with fail;refine(HSP.out _ _ HS.out.okF HST3.out).mono ?_;rintro x w4 ⟨rfl,hst4⟩;have HST4:=Hd hst4;clear hst4;go_wp2_with fail;refine(HSP.out _ _ HS.out.okG HST4.out).mono ?_;rintro x w5 ⟨rfl,hst5⟩;have HST5:=Hd hst5;clear hst5;go_wp2_with fail;refine(HSP.out _ _ HS.out.okH HST5.out).mono ?_;rintro x w6 ⟨rfl,hst6⟩;have HST6:=Hd hst6;clear hst6;go_wp2_with fail;refine(HIH.out o w6 xb mb m V _ _ _ HST6.out.is HST6.out.lt (HX.out.chg HST6.out.chg) HK.out HCF.out.1 HCG.out.1 HCH.out.1 HLN.out HDF.out.1 HDG.out.1 HDH.out.1 (by have h1:=HFU'.out;have h2:=HL1'.out;omega)).mono ?_;have HPW:Hid (2^k=2^k'+2^k'):=by show _=_;rw[HKK.out,Nat.pow_succ];omega
   have HP1:Hid (1<=2^k'):=Hd Nat.one_le_two_pow;rintro x w7 ⟨o7,m7,V7,st7,(⟨lo,rfl,hlo,hwt7,hmn7⟩|⟨rfl,hwt7,hrm7,hmn7⟩|⟨ev,rfl,hwt7⟩)⟩
   ·
    have HST7:=Hd (HST6.out.trans st7);have HK7:=Hd st7.ok;have HX7:=Hd st7.ext;have HLO:=Hd hlo;have HWT7:=Hd hwt7;have HMN7:=Hd hmn7;have hh7:L<=minL m7.d (cofs m.d f' v).2 (cofs m.d g' v).2 (cofs m.d h' v).2+k':=by
     rw[st7.ext.minL HK.out st7.ok HCF.out.2.1 HCG.out.2.1 HCH.out.2.1];have h1:=HFU'.out;have h2:=HL2'.out;omega
    have HH7:=Hd hh7;clear st7 hlo hwt7 hmn7 hh7;go_wp2_with fail;refine(HIH.out o7 w7 xb mb m7 V7 _ _ _ HST7.out.is HST7.out.lt (HX.out.chg HST7.out.chg) HK7.out (HX7.out.ok HCF.out.2.1) (HX7.out.ok HCG.out.2.1) (HX7.out.ok HCH.out.2.1) (by rw[HX7.out.vars];exact HLN.out) (HDF.out.2.ext HX7.out HCF.out.2.1) (HDG.out.2.ext HX7.out HCG.out.2.1) (HDH.out.2.ext HX7.out HCH.out.2.1) HH7.out).mono ?_;rintro x w8 ⟨o8,m8,V8,st8,(⟨hi,rfl,hhi,hwt8,hmn8⟩|⟨rfl,hwt8,hrm8,hmn8⟩|⟨ev,rfl,hwt8⟩)⟩
    ·
     have HST8:=Hd (HST7.out.trans st8);have HK8:=Hd st8.ok;have HX8:=Hd st8.ext;have HHI:=Hd hhi;have HWT8:=Hd hwt8;have HMN8:=Hd hmn8;have hMk:=Zkc HK'.out HST8.out.is HST8.out.lt (HX.out.chg HST8.out.chg) st8.ok v lo hi (st8.ext.ok HLO.out.okR) hhi.okR;have HMK:=Hd hMk;clear st8 hhi hwt8 hmn8 hMk;go_wp2_with fail;refine HMK.out.mono ?_;have hlo8:levN m8.d v<lvE m8.d.vars.length (levN m8.d) (Zaa m8.d) lo:=by
      have e1:=HX8.out.lvE (n:=m8.d.vars.length) HLO.out.okR HK7.out.dag.none0 HK8.out.dag.none0;have e2:=HLO.out.lev;have e3:=HX7.out.minL HK.out HK7.out HCF.out.1 HCG.out.1 HCH.out.1;have e4:=HL1'.out;have e5:=HX7.out.lev;have e6:=HX8.out.lev;have e7:=HX8.out.vars;rw[e1,e6,e5,e7];rw[e5] at e2;omega
     have hhi8:levN m8.d v<lvE m8.d.vars.length (levN m8.d) (Zaa m8.d) hi:=by
      have e2:=HHI.out.lev;have x78:=HX7.out.trans HX8.out;have e3:=x78.minL HK.out HK8.out HCF.out.2.1 HCG.out.2.1 HCH.out.2.1;have e4:=HL2'.out;have e5:=x78.lev;rw[e5] at e2 ⊢;omega
     have hv8:v<m8.d.vars.length:=by rw[(HX7.out.trans HX8.out).vars];exact HV.out
     have hbad:∀ er,Zmx m8.d v lo hi er->er=7/\m8.d.pool.many=m8.d.pool.room:=by
      rintro er (⟨_,h1⟩|⟨_,_,_,h1⟩|h1)
      ·
       exact absurd ⟨by omega,by omega⟩ h1
      ·
       simp only[Int.toNat_natCast] at h1;omega
      ·
       exact h1
     have HLO8:=Hd hlo8;have HHI8:=Hd hhi8;have HV8:=Hd hv8;have HBAD:=Hd hbad;clear hlo8 hhi8 hv8 hbad;rintro x w9 ⟨o9,m9,V9,st9,(⟨ev,hw9,_,_,hd9,hV9,rfl⟩|⟨hwt9,_,_,(⟨er,her,hd9,hV9,rfl⟩|⟨_,_,r,rfl,hr9,hrv,hrl,hmn9⟩)⟩)⟩
     ·
      have HST9:=Hd (HST8.out.trans st9);have HW9:=Hd hw9;clear st9 hw9 hd9 hV9;unfold Zb8;go_wp2_with fail;exact⟨rfl,o9,m9,V9,HST9.out,.inr (.inr ⟨ev,rfl,by rw[<- HWT7.out,<- HWT8.out];exact HW9.out⟩)⟩
     ·
      have HST9:=Hd (HST8.out.trans st9);obtain⟨rfl,hfull⟩:=HBAD.out er her;have HFULL:=Hd hfull;have HD9:=Hd hd9;have HWT9:=Hd hwt9;clear st9 her hd9 hV9 hwt9 hfull;unfold Zb8;go_wp2_with fail;exact⟨rfl,o9,m9,V9,HST9.out,.inr (.inl ⟨rfl,by rw[HWT9.out,HWT8.out,HWT7.out],by rw[HD9.out];exact HFULL.out,by rw[HD9.out];have a1:=HMN7.out;have a2:=HMN8.out;have a3:=HPW.out;have a4:=HP1.out;omega⟩)⟩
     ·
      have hst9:=HST8.out.trans st9;have x09:=hst9.ext;have hk9:=st9.ok;have x79:=HX8.out.trans st9.ext;have a0:=HK.out.dag.none0;have a9:=hk9.dag.none0;have hip:IteP m9.d V9 f' g' h' r:=by
       refine⟨x09.ok HS.out.okF,x09.ok HS.out.okG,x09.ok HS.out.okH,hr9,fun ρ=>?_,?_⟩
       ·
        refine Zsj (lo:=lo) (hi:=hi) (v:=v) hk9 (x09.ok HS.out.okF) (x09.ok HS.out.okG) (x09.ok HS.out.okH) (by rw[x09.vars];exact HV.out) (by rw[x09.lev,x09.minL HK.out hk9 HS.out.okF HS.out.okG HS.out.okH,HLV.out];exact Nat.le_refl _) ?_ ?_ ?_ ρ
        ·
         intro ρ;rw[Zcx x09 a0 a9 HS.out.okF,Zcx x09 a0 a9 HS.out.okG,Zcx x09 a0 a9 HS.out.okH];exact(HLO.out.ext x79 HK7.out hk9).val ρ
        ·
         intro ρ;rw[Zcx x09 a0 a9 HS.out.okF,Zcx x09 a0 a9 HS.out.okG,Zcx x09 a0 a9 HS.out.okH];exact(HHI.out.ext st9.ext HK8.out hk9).val ρ
        ·
         rw[hrv,st9.ext.ef HHI.out.okR,st9.ext.ef (HX8.out.ok HLO.out.okR)];rfl
       ·
        rw[x09.minL HK.out hk9 HS.out.okF HS.out.okG HS.out.okH,<- HLV.out];have e1:=(HX7.out.trans HX8.out).lev;have e2:=(HX7.out.trans HX8.out).vars;rw[e1,e2] at hrl;rw[x09.vars];exact hrl
      have HAN:=Hd ((HS.out.toIteS.ext x09 HK.out hk9 HF.out HG.out HH.out).answer (x09.ok HF.out) (x09.ok HG.out) (x09.ok HH.out) hip.okR hip.lev hip.val);obtain⟨s9,hm9⟩:=hst9.is;have HPUT:=Hd (Zsu o9 s9.me (K m9.d V9) 1 f' g' h' r w9 hm9.memo hst9.lt ((HK'.out.ite _ _ _ _ _ _).2 hip));have hrlt:r<eMax:=by
       obtain⟨ss,hss⟩:=hm9.store;have:=hss.edge_lt hip.okR;unfold eMax;omega
      have HFL:=Hd (fun W:World=>Zb1 r nt W hrlt);obtain⟨c0,c1,c2,c3,c4,c5,f0⟩:=cells6 hm9.blk;have cx:=(HX.out.chg hst9.chg).cell;have HM9:=Hd hm9;have HST9:=Hd hst9;have HWT9:=Hd (hwt9.trans (HWT8.out.trans HWT7.out));have HMN9:Hid (m9.d.pool.many+1<=m.d.pool.many+2^k):=Hd (by have a1:=HMN7.out;have a2:=HMN8.out;have a3:=HPW.out;omega);clear st9 hst9 x09 hk9 x79 a0 a9 hip hm9 hrlt hwt9 hr9 hrv hrl hmn9;go_wp2_with fail;refine HPUT.out.mono ?_;rintro x w10 ⟨rfl,o10,hme,hc10,hl10⟩;have HSTF:Hid (Step K o w mb m V o10 w10 m9 V9):=Hd ⟨⟨s9,HM9.out.setMemo HST9.out.lt hme hc10⟩,hl10,HST9.out.chg.trans hc10.any,HST9.out.ok,HST9.out.ext,HST9.out.hs,HST9.out.next⟩;clear hme hc10 hl10 c0 c1 c2 c3 c4 c5 f0 cx;go_wp2_with fail;refine(HFL.out _).mono ?_;rintro x w' ⟨rfl,rfl⟩;go_wp2_with fail;go_ret;exact⟨o10,m9,V9,HSTF.out,.inl ⟨_,rfl,HAN.out,HWT9.out,HMN9.out⟩⟩
    ·
     have HST8:=Hd (HST7.out.trans st8);have HQ:Hid (m8.waits=m.waits/\m8.d.pool.many=m8.d.pool.room/\m8.d.pool.many+2<=m.d.pool.many+2^k):=Hd ⟨hwt8.trans HWT7.out,hrm8,by have a1:=HMN7.out;have a3:=HPW.out;have a4:=HP1.out;omega⟩;clear st8 hwt8 hrm8 hmn8;unfold Zb8;go_wp2_with fail;exact⟨rfl,o8,m8,V8,HST8.out,.inr (.inl ⟨rfl,HQ.out.1,HQ.out.2.1,HQ.out.2.2⟩)⟩
    ·
     have HST8:=Hd (HST7.out.trans st8);have HQ:=Hd hwt8;clear st8 hwt8;unfold Zb8;go_wp2_with fail;exact⟨rfl,o8,m8,V8,HST8.out,.inr (.inr ⟨ev,rfl,by rw[<- HWT7.out];exact HQ.out⟩)⟩
   ·
    have HST7:=Hd (HST6.out.trans st7);have HQ:Hid (m7.waits=m.waits/\m7.d.pool.many=m7.d.pool.room/\m7.d.pool.many+2<=m.d.pool.many+2^k):=Hd ⟨hwt7,hrm7,by have a3:=HPW.out;have a4:=HP1.out;omega⟩;clear st7 hwt7 hrm7 hmn7;unfold Zb8;go_wp2_with fail;exact⟨rfl,o7,m7,V7,HST7.out,.inr (.inl ⟨rfl,HQ.out.1,HQ.out.2.1,HQ.out.2.2⟩)⟩
   ·
    have HST7:=Hd (HST6.out.trans st7);have HQ:=Hd hwt7;clear st7 hwt7;unfold Zb8;go_wp2_with fail;exact⟨rfl,o7,m7,V7,HST7.out,.inr (.inr ⟨ev,rfl,HQ.out⟩)⟩
  ·
   have hip:IteP m.d V f' g' h' r:=(HK'.out.ite _ _ _ _ _ _).1 hkr;have HAN:=Hd (HS.out.answer HF.out HG.out HH.out hip.okR hip.lev hip.val);have HFL:=Hd (fun W:World=>Zb1 r nt W (HLT.out _ hip.okR));clear hkr hip c0 c1 c2 c3 c4 c5 f0 cx;go_wp2_with fail;refine(HFL.out _).mono ?_;rintro x w' ⟨rfl,rfl⟩;go_wp2_with fail;go_ret;exact⟨o,m,V,HST1.out,.inl ⟨_,rfl,HAN.out,rfl,by have:=Nat.one_le_two_pow (n:=k);omega⟩⟩
theorem Zq7 {K:Law} (hK:Zc8 K) (L:Nat):∀ k,Zvc K L k:=by
 intro k
 induction k with
 | zero=>exact Zi0 hK L 0 (fun k' e=>absurd e (by omega))
 | succ k ih =>
   refine Zi0 hK L (k+1) (fun k' e=>?_);have e2:k'=k:=by omega
   rw[e2];exact ih
open Go.RowKit
theorem Zwu {K:Law} (hK:Zc8 K) {L n:Nat} {Od:List Nat->Prop} {room:Nat} {w0:World} {mb:Nat} {fs:List (Int×BF)} {nx:Int} (ws0:List Ev) (lim:Option Nat) (hlim:Zok ws0 lim (2^L-1) room) (hhap:∀ ev∈ws0,HapG K n Od room w0 mb fs nx ev) (bf bg bh:Nat) {kf kg kh:Int} {F G H:BF} (hf:(kf,F)∈fs) (hg:(kg,G)∈fs) (hh:(kh,H)∈fs) (hLn:L<=n) (hdep:∀ d V,Zaj d V->d.vars.length=n->Od d.vars->∀ u,u<n->L<=levN d u->Ind F u/\Ind G u/\Ind H u) :
 OpG K n Od room w0 mb fs nx (C3 bf bg bh) (B3 bf bg bh kf kg kh) (StL ws0 lim) 54 #[.pointer (some ⟨bf,0,none⟩),.pointer (some ⟨bg,0,none⟩),.pointer (some ⟨bh,0,none⟩)] (QF ws0 lim (2^L-1) (Zdc F G H)) (EL (SatX K n Od room w0 mb fs nx) (2^L-1) ws0 lim):=by
 intro o W m V xb hsat hB hC hst hcx hnx;obtain⟨f,hf,ef1⟩:=hsat.find hf;obtain⟨g,hg,ef2⟩:=hsat.find hg;obtain⟨h,hh,ef3⟩:=hsat.find hh;have hk:=hsat.ok;have hlt:=hsat.lt;have hks:=hk.store;obtain⟨s,hm⟩:=hsat.is;have hbd:Below W.heap.size W W.drew:=Zah W 1;have hmW:=hm.below hlt hbd;have hlW:=hlt.mono hbd.size;have hxW:Zer o W.drew xb mb:=⟨(hbd.cell (p:=⟨xb,0,none⟩) (Zab hcx.cell)).trans hcx.cell,hcx.own⟩;have df:=(hbd.cell (p:=⟨bf,0,none⟩) (Zab hB.f)).trans hB.f;have dg:=(hbd.cell (p:=⟨bg,0,none⟩) (Zab hB.g)).trans hB.g;have dh:=(hbd.cell (p:=⟨bh,0,none⟩) (Zab hB.h)).trans hB.h;have of:=(hC bf (.inl rfl)).2;have og:=(hC bg (.inr (.inl rfl))).2;have oh:=(hC bh (.inr (.inr rfl))).2;have HEF:=Hd (Zcf ⟨s,hmW⟩ hxW hk.handles.nodup hf);have HEG:=Hd (Zcf ⟨s,hmW⟩ hxW hk.handles.nodup hg);have HEH:=Hd (Zcf ⟨s,hmW⟩ hxW hk.handles.nodup hh);have HITE:=Hd (Zq7 hK L L o W.drew xb mb m V f g h ⟨s,hmW⟩ hlW hxW hks (hk.handles.ok _ hf) (hk.handles.ok _ hg) (hk.handles.ok _ hh) (by rw[hsat.vars];exact hLn) (fun u hu hl=>by rw[ef1];exact(hdep m.d V hks hsat.vars hsat.od u (by rw[<- hsat.vars];exact hu) hl).1) (fun u hu hl=>by rw[ef2];exact(hdep m.d V hks hsat.vars hsat.od u (by rw[<- hsat.vars];exact hu) hl).2.1) (fun u hu hl=>by rw[ef3];exact(hdep m.d V hks hsat.vars hsat.od u (by rw[<- hsat.vars];exact hu) hl).2.2) (by omega));obtain⟨P,hP⟩:∃ P:Ending->World->Prop,P=fun e w'=>∃ (o':Own) (m':ManD) (V':Nat->BF),Zhj (C3 bf bg bh) K o W mb m V o' w' m' V'/\B3 bf bg bh kf kg kh w' /\
  ((∃ r:Nat,e=.returned (.int .i64 r)/\okE (Zaa m'.d) r/\QF ws0 lim (2^L-1) (Zdc F G H) w' m' V' r) \/
   (∃ er:Int,e=Zb8 er false ev0/\er≠0/\m'.waits=m.waits/\StL ws0 lim m'/\EL (SatX K n Od room w0 mb fs nx) (2^L-1) ws0 lim er m m') \/
   (∃ ev,e=Zb8 0 true ev/\m.waits=ev::m'.waits/\StE K n Od room w0 mb fs nx (StL ws0 lim) m'/\HapG K n Od room w0 mb fs nx ev)):=⟨_,rfl⟩
 have HFIN:Hid (∀ e w',Zmv K L o W.drew mb m V f g h e w'->(∃ v,e=.returned v/\(w'.cell? ⟨bf,0,none⟩=some (.int .i64 kf)/\w'.cell? ⟨bg,0,none⟩=some (.int .i64 kg)/\w'.cell? ⟨bh,0,none⟩=some (.int .i64 kh))/\P (.returned v) w')\/(∃ ch,e=.panicked ch/\P (.panicked ch) w')):=by
  refine Hd ?_;subst hP;rintro e w' ⟨o',m',V',st,hcase⟩;have hb3:B3 bf bg bh kf kg kh w':=⟨st.chg.cell df of,st.chg.cell dg og,st.chg.cell dh oh⟩;have stx:Zhj (C3 bf bg bh) K o W mb m V o' w' m' V':=Step.toX (K:=K) ⟨st.is,st.lt,(Chg.of_below hbd _ o).trans st.chg,st.ok,st.ext,st.hs,st.next⟩ _;have hp2:0<2^L:=Nat.pow_pos (by omega);rcases hcase with ⟨r,rfl,h1,h2,h3⟩|⟨rfl,h2,h3,h4⟩|⟨ev,rfl,h1⟩
  ·
   refine .inl ⟨_,rfl,⟨hb3.f,hb3.g,hb3.h⟩,o',m',V',stx,hb3,.inl ⟨r,rfl,h1.okR,?_,by rw[h2];exact hst.1,fun M e=>by have:=hst.2 M e;omega⟩⟩;have e1:=(st.ext.ef (hk.handles.ok _ hf)).trans ef1;have e2:=(st.ext.ef (hk.handles.ok _ hg)).trans ef2;have e3:=(st.ext.ef (hk.handles.ok _ hh)).trans ef3;dsimp only at e1 e2 e3;funext ρ;rw[h1.val ρ,e1,e2,e3];rfl
  ·
   have hl0:lim=none:=Zni hlim hst.2 (by rw[<- h3];omega) (by rw[st.ext.room];exact hsat.room);exact .inr ⟨_,rfl,o',m',V',stx,hb3,.inr (.inl ⟨7,rfl,by omega,h2,⟨by unfold Zj1;rw[h2];exact hst.1,by subst hl0;exact fun M e=>by cases e⟩,hl0,rfl,⟨_,_,_,hsat⟩,h3,by omega,by rw[h2];exact hst.1⟩)⟩
  ·
   refine .inr ⟨_,rfl,o',m',V',stx,hb3,.inr (.inr ⟨ev,rfl,h1,?_,?_⟩)⟩
   all_goals
    have hst':m.waits <:+ ws0:=hst.1;rw[h1] at hst'
    first|exact fun _ _ _ _ _ e _ _=>⟨by unfold Zj1;rw[e];exact(List.suffix_cons ev m'.waits).trans hst',Zw3 hlim hst'⟩|exact hhap ev (hst'.subset (List.mem_cons_self ..))
 rw[<- hP];clear hm hdep hLn hks hk hcx hB hC hst hnx hhap hlim hK hlt hf hg hh of og oh hmW hlW hxW hbd hsat hP ef1 ef2 ef3
 go_enter Tryz.func54,Tryz.ntmps54
 go_upto_region 1 with fail;refine Zee (fun W:World=>W.cell? ⟨bf,0,none⟩=some (.int .i64 kf)/\W.cell? ⟨bg,0,none⟩=some (.int .i64 kg)/\W.cell? ⟨bh,0,none⟩=some (.int .i64 kh)) (fun ch w'=>P (.panicked ch) w') 12 (fun c a w hd h=>⟨hd,h⟩) (by kernel_rfl) ⟨df,dg,dh⟩ ?_;refine Za3 0 rfl rfl (by kernel_rfl) ?_;apply Exists.intro;refine⟨fun w' hw=>?_,?_⟩
 ·
  obtain⟨q1,q2,q3⟩:=hw;go_simp;rfl
 simp only[Zag];refine Za3 1 rfl rfl (by kernel_rfl) ?_;apply Exists.intro;refine⟨fun w' hw=>?_,?_⟩
 ·
  obtain⟨q1,q2,q3⟩:=hw;go_simp;rfl
 simp only[Zag];refine Za3 2 rfl rfl (by kernel_rfl) ?_;apply Exists.intro;refine⟨fun w' hw=>?_,?_⟩
 ·
  obtain⟨q1,q2,q3⟩:=hw;go_simp;rfl
 simp only[Zag];refine Za3 4 rfl rfl (by kernel_rfl) ?_;apply Exists.intro;refine⟨fun w' hw=>?_,?_⟩
 ·
  obtain⟨q1,q2,q3⟩:=hw;go_simp;rfl
 simp only[Zag];refine Za3 5 rfl rfl (by kernel_rfl) ?_;apply Exists.intro;refine⟨fun w' hw=>?_,?_⟩
 ·
  obtain⟨q1,q2,q3⟩:=hw;go_simp;rfl
 simp only[Zag];refine Za3 7 rfl rfl (by kernel_rfl) ?_;apply Exists.intro;refine⟨fun w' hw=>?_,?_⟩
 ·
  obtain⟨q1,q2,q3⟩:=hw;go_simp;rfl
 simp only[Zag];refine Za3 8 rfl rfl (by kernel_rfl) ?_;apply Exists.intro;refine⟨fun w' hw=>?_,?_⟩
 ·
  obtain⟨q1,q2,q3⟩:=hw;go_simp;rfl
 simp only[Zag];refine Zbp [3] (by kernel_rfl) (fun i hi hS o ho=>?_);simp only[Zhu] at hi;subst hi;simp only[Zg7] at ho;subst ho;refine⟨rfl,?_⟩;refine Zb7 (v:=.int .i64 (f:Nat)) (R:=fun w'=>W.drew=w') (by go_simp) HEF.out ?_;rintro w' rfl;refine⟨⟨df,dg,dh⟩,?_⟩;simp only[Zag];refine Zbp [6] (by kernel_rfl) (fun i hi hS o ho=>?_);simp only[Zhu] at hi;subst hi;simp only[Zg7] at ho;subst ho;refine⟨rfl,?_⟩;refine Zb7 (v:=.int .i64 (g:Nat)) (R:=fun w'=>W.drew=w') (by go_simp) HEG.out ?_;rintro w' rfl;refine⟨⟨df,dg,dh⟩,?_⟩;simp only[Zag];refine Zbp [9] (by kernel_rfl) (fun i hi hS o ho=>?_);simp only[Zhu] at hi;subst hi;simp only[Zg7] at ho;subst ho;refine⟨rfl,?_⟩;refine Zb7 (v:=.int .i64 (h:Nat)) (R:=fun w'=>W.drew=w') (by go_simp) HEH.out ?_;rintro w' rfl;refine⟨⟨df,dg,dh⟩,?_⟩;simp only[Zag];refine Zbp [10] (by kernel_rfl) (fun i hi hS o ho=>?_);simp only[Zhu] at hi;subst hi;simp only[Zg7] at ho;subst ho;refine⟨rfl,?_⟩;refine Zin (R:=fun v w'=>(w'.cell? ⟨bf,0,none⟩=some (.int .i64 kf)/\w'.cell? ⟨bg,0,none⟩=some (.int .i64 kg)/\w'.cell? ⟨bh,0,none⟩=some (.int .i64 kh))/\P (.returned v) w') (R2:=fun ch w'=>P (.panicked ch) w') (by go_simp) (HITE.out.mono HFIN.out) ?_ ?_
 ·
  rintro v w' ⟨hS,hst⟩;refine⟨hS,?_⟩;have HST:=Hd hst;clear hst;simp only[Zag];refine Za3 11 rfl rfl (by kernel_rfl) ?_;apply Exists.intro;refine⟨fun w' hw=>?_,?_⟩
  ·
   go_simp;rfl
  simp only[Zag];refine Zkn (by kernel_rfl) ?_;clear hS df dg dh;go_wp2_with fail;exact HST.out
 ·
  intro ch w' hst;exact⟨rfl,hst⟩
theorem Zrn {K:Law} (hK:Zc8 K) {L n:Nat} {Od:List Nat->Prop} {room:Nat} {w0:World} {mb:Nat} {fs:List (Int×BF)} {nx:Int} {w:World} {o:Own} {m:ManD} {V:Nat->BF} (h:SatE K n Od room w0 mb fs nx w o m V) (ws0:List Ev) (hws:m.waits <:+ ws0) (lim:Option Nat) (hlim:Zok ws0 lim (2^L-1) room) (hl0:Zol lim 0 m) (hhap:∀ ev∈ws0,HapG K n Od room w0 mb fs nx ev) (hn:nx<1099511627776)
 {kf kg kh:Int} {F G H:BF} (hf:(kf,F)∈fs) (hg:(kg,G)∈fs) (hh:(kh,H)∈fs) (hLn:L<=n) (hdep:∀ d V,Zaj d V->d.vars.length=n->Od d.vars->∀ u,u<n->L<=levN d u->Ind F u/\Ind G u/\Ind H u) :
 Calls Tryz.prog 18 #[.pointer (some ⟨mb,0,none⟩),.int .i64 kf,.int .i64 kg,.int .i64 kh] w (Zfv K n Od room w0 mb fs nx ws0 lim (2^L-1) (Zdc F G H) o w):=by
 have hmf:∀ (fn:Fn) (first cap:Array Value) (w:World),(Instr.makeFunc fn first cap).run Tryz.prog w=.ok (.func fn first cap) w:=fun _ _ _ _=>rfl
 obtain⟨hb,cf,cg,ch⟩:=Zvt kf kg kh w;have hw0:=h.chg.size;have hz:(box3 kf kg kh w).heap.size=w.heap.size+3:=by simp[box3]
 have HDO:Hid (Calls Tryz.prog 53 #[.pointer (some ⟨mb,0,none⟩),.func (.func 54) #[] #[.pointer (some ⟨w.heap.size,0,none⟩),.pointer (some ⟨w.heap.size+1,0,none⟩),.pointer (some ⟨w.heap.size+1+1,0,none⟩)]] (box3 kf kg kh w) (Zfv K n Od room w0 mb fs nx ws0 lim (2^L-1) (Zdc F G H) o w)):=by
  refine Hd ?_;refine(Zwc hK B3.keep (fun _ _ _ _ _ h _=>h) StL.coll ?_ Zke (Zwu hK ws0 lim hlim hhap w.heap.size (w.heap.size+1) (w.heap.size+1+1) hf hg hh hLn hdep) (h.below hb) ⟨cf,cg,ch⟩ ?_ ⟨hws,hl0⟩ hn).mono fun x w' hp=>Zkv hb ?_ hp
  ·
   rintro c (rfl|rfl|rfl)<;>omega
  ·
   rintro c (rfl|rfl|rfl)<;>exact⟨by omega,h.lt.none (by omega)⟩
  ·
   rintro c (rfl|rfl|rfl)<;>omega
 have HW:Hid (_=box3 kf kg kh w):=Hd (show ((w.alloc (.cells #[.int .i64 kf] 3)).alloc (.cells #[.int .i64 kg] 3)).alloc (.cells #[.int .i64 kh] 3)=box3 kf kg kh w from rfl);clear h hdep hLn hK hws hhap hn hf hg hh hb cf cg ch hw0 hz hlim hl0;obtain⟨P,hP⟩:∃ P,P=Zfv K n Od room w0 mb fs nx ws0 lim (2^L-1) (Zdc F G H) o w:=⟨_,rfl⟩;rw[<- hP] at HDO ⊢;have HT:Hid (∀ x w',P x w'->∃ a b,x=.returned (.tuple #[.int .i64 a,.int .i64 b])):=by
  refine Hd ?_;subst hP;rintro x w' ⟨_,_,_,_,_,(⟨rfl,_⟩|⟨rfl,_⟩)⟩
  ·
   exact⟨_,_,rfl⟩
  ·
   exact⟨_,_,rfl⟩
 clear hP
 go_enter Tryz.func18,Tryz.ntmps18
 go_wp2_with fail;rw[HW.out];refine HDO.out.mono ?_;intro x w' hd;obtain⟨a,b,rfl⟩:=HT.out x w' hd;have HD:=Hd hd;clear hd;go_wp2_with fail;exact HD.out
open Go.RowKit
structure OL (n L:Nat) (Od:List Nat->Prop):Prop where
 le:L<=n
 od:∀ l,Od l->l=List.range n
theorem Zih {L u:Nat} {F:BF} (h:DepF L F) (hu:L<=u):Ind F u:=Ind.of fun ρ b=>h _ _ fun v hv=>by
 unfold upd;rw[if_neg (by omega)]
theorem OL.dep {n L:Nat} {Od:List Nat->Prop} (h:OL n L Od) {F G H:BF} (dF:DepF L F) (dG:DepF L G) (dH:DepF L H):∀ d V,Zaj d V->d.vars.length=n->Od d.vars->∀ u,u<n->L<=levN d u->Ind F u/\Ind G u/\Ind H u:=fun d V hk hl ho u hu hL=>by
 have e:=h.od _ ho;have h1:=hk.inv u (by rw[hl];exact hu);have h2:=hk.dag.lt u (by rw[hl];exact hu);rw[e] at h1 h2;rw[List.length_range] at h2;have h3:levN d u=u:=by
  rw[List.getD,List.getElem?_eq_getElem (by rw[List.length_range];exact h2)] at h1;simpa using h1
 rw[h3] at hL;exact⟨Zih dF hL,Zih dG hL,Zih dH hL⟩
section
variable {K:Law} {L n:Nat} {Od:List Nat->Prop} {room:Nat} {w0 w w' w'':World} {mb:Nat} {fs fs':List (Int×BF)} {nx nx':Int} {o o':Own} {m m':ManD} {V V':Nat->BF}
theorem Zrh (hK:Zc8 K) {M:Nat} (h:Goes K n Od room w0 mb fs nx (NoW M) o w w') (hn:nx<549755813888) (hr:M+(2^L-1)<=room) {kf kg kh:Int} {F G H:BF} (hf:(kf,F)∈fs) (hg:(kg,G)∈fs) (hh:(kh,H)∈fs) (hOL:OL n L Od) (dF:DepF L F) (dG:DepF L G) (dH:DepF L H) :
 Calls Tryz.prog 18 #[.pointer (some ⟨mb,0,none⟩),.int .i64 kf,.int .i64 kg,.int .i64 kh] w' fun x w''=>x=.returned (.tuple #[.int .i64 nx,.int .i64 0])/\Goes K n Od room w0 mb (fs++[(nx,Zdc F G H)]) (nx+1) (NoW (M+(2^L-1))) o w w'':=by
 obtain⟨o',m',V',h1,h2,h3⟩:=h;refine(Zrn hK h3 [] (by rw[h2.1];exact List.suffix_refl _) (some M) (fun _ e=>by cases e;exact⟨rfl,hr⟩) (fun _ e=>by cases e;exact h2.2) (by simp) (by omega) hf hg hh hOL.le (hOL.dep dF dG dH)).mono ?_;rintro x w'' hp;obtain⟨o2,m2,V2,q1,q2,q3,q4⟩:=Zmg hp;exact⟨q3,o2,m2,V2,h1.trans q1 (fun _ _ e=>e),q2,q4⟩
theorem Zpm (hK:Zc8 K) {a b:Int} {F G:BF} {M:Nat} (h:Goes K n Od room w0 mb (fs++[(a,F),(b,G)]) nx (NoW M) o w w') (hb:B2 fs) (hn:nx+2<549755813888) (hr:M+(2^L-1)<=room) {op:Int} (h5:5<=op) (h9:op<=9) (hOL:OL n L Od) (dF:DepF L F) (dG:DepF L G) :
 Calls Tryz.prog 37 #[.pointer (some ⟨mb,0,none⟩),.int .i64 op,.int .i64 a,.int .i64 b] w' fun x w''=>∃ k:Int,x=.returned (.tuple #[.int .i64 k,.bool true])/\k<=nx+1/\Goes K n Od room w0 mb (fs++[(k,Zlg op F G)]) (k+1) (NoW (M+(2^L-1))) o w w'':=by
 obtain⟨M',hM'⟩:∃ M',M'=M+(2^L-1):=⟨_,rfl⟩;have HITE:Hid (∀ c d e A B C,(c,A)∈fs++[(a,F),(b,G)]->(d,B)∈fs++[(a,F),(b,G)]->(e,C)∈fs++[(a,F),(b,G)]->DepF L A->DepF L B->DepF L C->Calls Tryz.prog 18 #[.pointer (some ⟨mb,0,none⟩),.int .i64 c,.int .i64 d,.int .i64 e] w' fun x w''=>x=.returned (.tuple #[.int .i64 nx,.int .i64 0])/\Goes K n Od room w0 mb (fs++[(a,F),(b,G)]++[(nx,Zdc A B C)]) (nx+1) (NoW (M+(2^L-1))) o w w'') :=
  Hd fun c d e A B C h1 h2 h3 d1 d2 d3=>Zrh hK h (by omega) hr h1 h2 h3 hOL d1 d2 d3
 have HNOT:=Hd (Zxl hK h (by omega) (k:=b) (F:=G) (by simp))
 have HITE2:Hid (∀ W,Goes K n Od room w0 mb (fs++[(a,F),(b,G)]++[(nx,notF G)]) (nx+1) (NoW M) o w W->∀ c d e A B C,(c,A)∈fs++[(a,F),(b,G)]++[(nx,notF G)]->(d,B)∈fs++[(a,F),(b,G)]++[(nx,notF G)]->(e,C)∈fs++[(a,F),(b,G)]++[(nx,notF G)]->DepF L A->DepF L B->DepF L C ->
  Calls Tryz.prog 18 #[.pointer (some ⟨mb,0,none⟩),.int .i64 c,.int .i64 d,.int .i64 e] W fun x w''=>x=.returned (.tuple #[.int .i64 (nx+1),.int .i64 0])/\Goes K n Od room w0 mb (fs++[(a,F),(b,G)]++[(nx,notF G)]++[(nx+1,Zdc A B C)]) (nx+1+1) (NoW (M+(2^L-1))) o w w'') :=
  Hd fun W hW c d e A B C h1 h2 h3 d1 d2 d3=>Zrh hK hW (by omega) hr h1 h2 h3 hOL d1 d2 d3
 have HDN:Hid (∀ W H T,Goes K n Od room w0 mb (fs++[(a,F),(b,G)]++[(nx,notF G)]++[(nx+1,H)]) (nx+1+1) (NoW M') o w W->T=W.alloc (.cells #[.int .i64 nx] 3)->Calls Tryz.prog 38 #[.pointer (some ⟨mb,0,none⟩),.slice (some ⟨W.heap.size,0,none⟩) 1 1] T fun x w''=>x=.returned (.int .i64 0)/\Goes K n Od room w0 mb (fs++[(a,F),(b,G)]++[(nx+1,H)]) (nx+1+1) (NoW M') o w w'') :=
  Hd fun W H T hW hT=>Zm4 hK (hs:=[(nx,notF G)]) (r:=[(nx+1,H)]) (by rw[List.append_assoc] at hW;exact hW) (hb.app _) (by omega) (by simp) hT
 have HDAB:Hid (∀ W k H T,k+1<549755813888->Goes K n Od room w0 mb (fs++[(a,F),(b,G)]++[(k,H)]) (k+1) (NoW M') o w W->T=W.alloc (.cells #[.int .i64 a,.int .i64 b] 3)->Calls Tryz.prog 38 #[.pointer (some ⟨mb,0,none⟩),.slice (some ⟨W.heap.size,0,none⟩) 2 2] T fun x w''=>x=.returned (.int .i64 0)/\Goes K n Od room w0 mb (fs++[(k,H)]) (k+1) (NoW M') o w w'') :=
  Hd fun W k H T hk hW hT=>Zm4 hK (hs:=[(a,F),(b,G)]) (r:=[(k,H)]) (by rw[List.append_assoc] at hW;exact hW) hb (by omega) (by simp) hT
 have m0:(0,fun _=>false)∈fs++[(a,F),(b,G)]:=List.mem_append_left _ hb.zero;have m1:(1,fun _=>true)∈fs++[(a,F),(b,G)]:=List.mem_append_left _ hb.one;have ma:(a,F)∈fs++[(a,F),(b,G)]:=by simp
 have mb':(b,G)∈fs++[(a,F),(b,G)]:=by simp
 have pa:(a,F)∈fs++[(a,F),(b,G)]++[(nx,notF G)]:=by simp
 have pb:(b,G)∈fs++[(a,F),(b,G)]++[(nx,notF G)]:=by simp
 have pn:(nx,notF G)∈fs++[(a,F),(b,G)]++[(nx,notF G)]:=by simp
 rw[<- hM'] at HITE HITE2 ⊢;have HDF:=Hd dF;have HDG:=Hd dG;clear h hb hr hK hM' hOL dF dG;rcases(show op=5\/op=6\/op=7\/op=8\/op=9 by omega) with rfl|rfl|rfl|rfl|rfl
 ·
  have HI:=Hd (HITE.out a b 0 _ _ _ ma mb' m0 HDF.out HDG.out (DepF.const false));clear HITE HITE2 HNOT HDN
  go_enter Tryz.func37,Tryz.ntmps37
  go_wp2_with fail;refine HI.out.mono ?_;rintro x w1 ⟨rfl,g1⟩;have HD:=Hd (HDAB.out w1 nx _ _ (by omega) g1 rfl);clear g1 HI;go_wp2_with fail;refine HD.out.mono ?_;rintro x w2 ⟨rfl,g2⟩;have HG:=Hd g2;clear g2 HD;go_wp2_with fail
  go_ret2
  exact⟨nx,rfl,by omega,HG.out⟩
 ·
  have HI:=Hd (HITE.out a 1 b _ _ _ ma m1 mb' HDF.out (DepF.const true) HDG.out);clear HITE HITE2 HNOT HDN
  go_enter Tryz.func37,Tryz.ntmps37
  go_wp2_with fail;refine HI.out.mono ?_;rintro x w1 ⟨rfl,g1⟩;have HD:=Hd (HDAB.out w1 nx _ _ (by omega) g1 rfl);clear g1 HI;go_wp2_with fail;refine HD.out.mono ?_;rintro x w2 ⟨rfl,g2⟩;have HG:=Hd g2;clear g2 HD;go_wp2_with fail
  go_ret2
  exact⟨nx,rfl,by omega,HG.out⟩
 ·
  clear HITE
  go_enter Tryz.func37,Tryz.ntmps37
  go_wp2_with fail;refine HNOT.out.mono ?_;rintro x w1 ⟨rfl,g1⟩;have HI:=Hd (HITE2.out w1 g1 a nx b _ _ _ pa pn pb HDF.out HDG.out.not HDG.out);clear g1 HNOT HITE2;go_wp2_with fail;refine HI.out.mono ?_;rintro x w2 ⟨rfl,g2⟩;have HD1:=Hd (HDN.out w2 _ _ g2 rfl);clear g2 HI HDN;go_wp2_with fail;refine HD1.out.mono ?_;rintro x w3 ⟨rfl,g3⟩;have HD:=Hd (HDAB.out w3 (nx+1) _ _ (by omega) g3 rfl);clear g3 HD1;go_wp2_with fail;refine HD.out.mono ?_;rintro x w4 ⟨rfl,g4⟩;have HG:=Hd g4;clear g4 HD;go_wp2_with fail
  go_ret2
  exact⟨nx+1,rfl,by omega,HG.out⟩
 ·
  have HI:=Hd (HITE.out a b 1 _ _ _ ma mb' m1 HDF.out HDG.out (DepF.const true));clear HITE HITE2 HNOT HDN
  go_enter Tryz.func37,Tryz.ntmps37
  go_wp2_with fail;refine HI.out.mono ?_;rintro x w1 ⟨rfl,g1⟩;have HD:=Hd (HDAB.out w1 nx _ _ (by omega) g1 rfl);clear g1 HI;go_wp2_with fail;refine HD.out.mono ?_;rintro x w2 ⟨rfl,g2⟩;have HG:=Hd g2;clear g2 HD;go_wp2_with fail
  go_ret2
  exact⟨nx,rfl,by omega,HG.out⟩
 ·
  clear HITE
  go_enter Tryz.func37,Tryz.ntmps37
  go_wp2_with fail;refine HNOT.out.mono ?_;rintro x w1 ⟨rfl,g1⟩;have HI:=Hd (HITE2.out w1 g1 a b nx _ _ _ pa pb pn HDF.out HDG.out HDG.out.not);clear g1 HNOT HITE2;go_wp2_with fail;refine HI.out.mono ?_;rintro x w2 ⟨rfl,g2⟩;have HD1:=Hd (HDN.out w2 _ _ g2 rfl);clear g2 HI HDN;go_wp2_with fail;refine HD1.out.mono ?_;rintro x w3 ⟨rfl,g3⟩;have HD:=Hd (HDAB.out w3 (nx+1) _ _ (by omega) g3 rfl);clear g3 HD1;go_wp2_with fail;refine HD.out.mono ?_;rintro x w4 ⟨rfl,g4⟩;have HG:=Hd g4;clear g4 HD;go_wp2_with fail
  go_ret2
  exact⟨nx+1,rfl,by omega,HG.out⟩
end
open Go.RowKit
section
variable {K:Law} {L n:Nat} {Od:List Nat->Prop} {room:Nat} {w0 w w' w'':World} {mb:Nat} {fs fs':List (Int×BF)} {nx nx':Int} {o o':Own} {m m':ManD} {V V':Nat->BF}
structure Zoi (K:Law) (L n:Nat) (Od:List Nat->Prop) (room:Nat) (w0:World) (mb:Nat) (fs:List (Int×BF)) (nx:Int) (M:Nat) (w w1:World) (o:Own) (m:ManD) (V:Nat->BF) (op v:Int) (nk:Nat) (kid:Nat->ExT) (a:Option Addr) (c:Nat) (E:ExT) (Q:Ending->World->Prop):Prop where
 HOL:Hid (OL n L Od)
 HDK:Hid (∀ i,i<nk->DepF L (fnT (kid i)))
 HKK:Hid (Zc8 K)
 H5:Hid (∀ k,k<nk->∃ b off x0 x1 x2,a=some ⟨b,off,none⟩/\w0.cell? ⟨b,off+k*3,none⟩=some x0/\w0.cell? ⟨b,off+k*3+1,none⟩=some x1/\w0.cell? ⟨b,off+k*3+2,none⟩=some x2/\Za4 w0 (kid k) (.agg #[x0,x1,x2]))
 HKS:Hid (∀ i,i<nk->(sumN i fun i=>(kid i).size)+(kid i).size+1<=E.size)
 HSZ:Hid (E.size=1+sumN nk fun i=>(kid i).size)
 HPOS:Hid (∀ k,k<=sumN k fun i=>(kid i).size)
 IH:Hid (∀ (i:Nat) (x:Value) (fs':List (Int×BF)) (nx':Int) (W:World) (o':Own) (m':ManD) (V':Nat->BF) (M':Nat),i<nk->SatE K n Od room w0 mb fs' nx' W o' m' V'->m'.waits=[]/\m'.d.pool.many<=M'->B2 fs'->Za4 w0 (kid i) x->nx'+3*(kid i).size<549755813000->M'+(kid i).size*2^L<=room ->
  Calls Tryz.prog 8 #[.pointer (some ⟨mb,0,none⟩),x] W fun y w'=>∃ k:Int,y=.returned (.tuple #[.int .i64 k,.bool true])/\k+3<=nx'+3*(kid i).size/\Goes K n Od room w0 mb (fs'++[(k,fnT (kid i))]) (k+1) (NoW (M'+Zhb L (kid i).size)) o' W w')
 HW1:Hid (w.alloc (.cells #[.int .i64 op,.int .i64 v,.slice a nk c] 36)=w1)
 HG1:Hid (Goes K n Od room w0 mb fs nx (NoW M) o w1 w1)
 HSAT1:Hid (SatE K n Od room w0 mb fs nx w1 o m V)
 HWT:Hid (m.waits=[]/\m.d.pool.many<=M)
 HB2:Hid (B2 fs)
 HQ:Hid (∀ (k:Int) F W M',F=fnT E->k+3<=nx+3*E.size->M'<=M+Zhb L E.size->Goes K n Od room w0 mb (fs++[(k,F)]) (k+1) (NoW M') o w1 W->Q (.returned (.tuple #[.int .i64 k,.bool true])) W)
 HMR:Hid (∀ i,i<nk->M+(sumN i fun i=>(kid i).size)*2^L+(kid i).size*2^L+2^L<=room)
 HCK:Hid (∀ i,Zef L kid i+i*(2^L-1)=(sumN i fun i=>(kid i).size)*2^L)
 HCI:Hid (∀ i,Zhb L (kid i).size+(2^L-1)=(kid i).size*2^L)
 HEP:Hid (E.size*2^L=2^L+(sumN nk fun i=>(kid i).size)*2^L/\Zhb L E.size+(2^L-1)=E.size*2^L)
 HME:Hid (M+E.size*2^L<=room)
 hn64:nk<=64
 hnx:nx+3*E.size<549755813000
 hE1:1<=E.size
 hs1:w1.heap.size=w.heap.size+1
 d0:w1.cell? ⟨w.heap.size,0,none⟩=some (.int .i64 op)
 d1:w1.cell? ⟨w.heap.size,1,none⟩=some (.int .i64 v)
 d2:w1.cell? ⟨w.heap.size,2,none⟩=some (.slice a nk c)
 on:o w.heap.size=none
 hw0:w0.heap.size<=w1.heap.size
 hp2:0<2^L
 h2 : -9223372036854775808<=op/\op<=9223372036854775807
 h3 : -9223372036854775808<=v/\v<=9223372036854775807
theorem Zq2 {w1:World} {op v:Int} {nk:Nat} {kid:Nat->ExT} {a:Option Addr} {c:Nat} {E:ExT} {Q:Ending->World->Prop} {M:Nat} (hctx:Zoi K L n Od room w0 mb fs nx M w w1 o m V op v nk kid a c E Q) (h1:op=1) (hF:fnT E=fun _=>true) :
 Calls Tryz.prog 8 #[.pointer (some ⟨mb,0,none⟩),.agg #[.int .i64 op,.int .i64 v,.slice a nk c]] w Q:=by
 obtain⟨HOL,HDK,HKK,H5,HKS,HSZ,HPOS,IH,HW1,HG1,HSAT1,HWT,HB2,HQ,HMR,HCK,HCI,HEP,HME,hn64,hnx,hE1,hs1,d0,d1,d2,on,hw0,hp2,h2,h3⟩:=hctx;subst h1;have HCN:=Hd (Zf7 mb true w1);have HCP:=Hd (Zm3 HKK.out HG1.out (by omega) (k:=1) (F:=fun _=>true) HB2.out.one);have HFF:Hid ((fun _=>true)=fnT E):=Hd hF.symm;have HCE:Hid (M<=M+Zhb L E.size):=Hd (Nat.le_add_right _ _);clear IH
 go_enter Tryz.func8,Tryz.ntmps8
 go_upto_region 1 with fail;rw[HW1.out];go_wp2_with fail;refine HCN.out.mono ?_;rintro y w' ⟨rfl,rfl⟩;go_wp2_with fail;refine HCP.out.mono ?_;rintro y w2 ⟨rfl,g⟩;have HF:=Hd (HQ.out nx _ w2 _ HFF.out (by omega) HCE.out g);clear g;go_wp2_with fail;exact HF.out
theorem Zos {w1:World} {op v:Int} {nk:Nat} {kid:Nat->ExT} {a:Option Addr} {c:Nat} {E:ExT} {Q:Ending->World->Prop} {M:Nat} (hctx:Zoi K L n Od room w0 mb fs nx M w w1 o m V op v nk kid a c E Q) (h1:op=2) (hF:fnT E=fun _=>false) :
 Calls Tryz.prog 8 #[.pointer (some ⟨mb,0,none⟩),.agg #[.int .i64 op,.int .i64 v,.slice a nk c]] w Q:=by
 obtain⟨HOL,HDK,HKK,H5,HKS,HSZ,HPOS,IH,HW1,HG1,HSAT1,HWT,HB2,HQ,HMR,HCK,HCI,HEP,HME,hn64,hnx,hE1,hs1,d0,d1,d2,on,hw0,hp2,h2,h3⟩:=hctx;subst h1;have HCN:=Hd (Zf7 mb false w1);have HCP:=Hd (Zm3 HKK.out HG1.out (by omega) (k:=0) (F:=fun _=>false) HB2.out.zero);have HFF:Hid ((fun _=>false)=fnT E):=Hd hF.symm;have HCE:Hid (M<=M+Zhb L E.size):=Hd (Nat.le_add_right _ _);clear IH
 go_enter Tryz.func8,Tryz.ntmps8
 go_upto_region 1 with fail;rw[HW1.out];go_wp2_with fail;refine HCN.out.mono ?_;rintro y w' ⟨rfl,rfl⟩;go_wp2_with fail;refine HCP.out.mono ?_;rintro y w2 ⟨rfl,g⟩;have HF:=Hd (HQ.out nx _ w2 _ HFF.out (by omega) HCE.out g);clear g;go_wp2_with fail;exact HF.out
theorem Zt0 {w1:World} {op v:Int} {nk:Nat} {kid:Nat->ExT} {a:Option Addr} {c:Nat} {E:ExT} {Q:Ending->World->Prop} {M:Nat} (hctx:Zoi K L n Od room w0 mb fs nx M w w1 o m V op v nk kid a c E Q) {u:Nat} (hu:u<n) (h1:op=3) (hvu:v=u) (hF:fnT E=varF u) :
 Calls Tryz.prog 8 #[.pointer (some ⟨mb,0,none⟩),.agg #[.int .i64 op,.int .i64 v,.slice a nk c]] w Q:=by
 obtain⟨HOL,HDK,HKK,H5,HKS,HSZ,HPOS,IH,HW1,HG1,HSAT1,HWT,HB2,HQ,HMR,HCK,HCI,HEP,HME,hn64,hnx,hE1,hs1,d0,d1,d2,on,hw0,hp2,h2,h3⟩:=hctx;subst hvu;subst h1;have HCP:=Hd (Ydk HKK.out HG1.out (by omega) (by have:=HEP.out;have:=HME.out;omega) hu);have HFF:Hid (varF u=fnT E):=Hd hF.symm;have HCE:Hid (M+1<=M+Zhb L E.size):=Hd (by have:=HEP.out;omega);clear IH
 go_enter Tryz.func8,Tryz.ntmps8
 go_upto_region 1 with fail;rw[HW1.out];go_wp2_with fail;refine HCP.out.mono ?_;rintro y w2 ⟨rfl,g⟩;have HF:=Hd (HQ.out nx _ w2 _ HFF.out (by omega) HCE.out g);clear g;go_wp2_with fail;exact HF.out
end
open Go.RowKit
theorem DepF.join {n:Nat} {F G:BF} (op:Int) (h1:DepF n F) (h2:DepF n G):DepF n (Zlg op F G):=by
 unfold Zlg;split
 ·
  exact h1.ite h2 (DepF.const _)
 split
 ·
  exact h1.ite (DepF.const _) h2
 split
 ·
  exact h1.ite h2 (DepF.const _)
 split
 ·
  exact h1.ite h2.not h2
 ·
  exact h1.ite h2 h2.not
theorem Zvj {L nk:Nat} {op:Int} {kid:Nat->ExT}:∀ {i:Nat},i<=nk->(∀ i,i<nk->DepF L (fnT (kid i)))->DepF L (accT op kid i)
 | 0,_,_=>by unfold accT;exact DepF.const _
 | i+1,hi,h=>DepF.join op (Zvj (by omega) h) (h i (by omega))
section
variable {K:Law} {L n:Nat} {Od:List Nat->Prop} {room:Nat} {w0 w w' w'':World} {mb:Nat} {fs fs':List (Int×BF)} {nx nx':Int} {o o':Own} {m m':ManD} {V V':Nat->BF}
theorem Ztw {w1:World} {op v:Int} {nk:Nat} {kid:Nat->ExT} {a:Option Addr} {c:Nat} {E:ExT} {Q:Ending->World->Prop} {M:Nat} (hctx:Zoi K L n Od room w0 mb fs nx M w w1 o m V op v nk kid a c E Q) (h1:op=5\/op=6\/op=7) (hF:fnT E=accT op kid nk) :
 Calls Tryz.prog 8 #[.pointer (some ⟨mb,0,none⟩),.agg #[.int .i64 op,.int .i64 v,.slice a nk c]] w Q:=by
 obtain⟨HOL,HDK,HKK,H5,HKS,HSZ,HPOS,IH,HW1,HG1,HSAT1,HWT,HB2,HQ,HMR,HCK,HCI,HEP,HME,hn64,hnx,hE1,hs1,d0,d1,d2,on,hw0,hp2,h2,h3⟩:=hctx;have h59:5<=op/\op<=9:=by omega
 have HFF:Hid (accT op kid nk=fnT E):=Hd hF.symm;have HCN:=Hd (fun b=>Zf7 mb b w1)
 have HCP:Hid (∀ z:Int,z=(if op=5 then 1 else 0)->Calls Tryz.prog 35 #[.pointer (some ⟨mb,0,none⟩),.int .i64 z] w1 fun x w''=>x=.returned (.tuple #[.int .i64 nx,.int .i64 0])/\Goes K n Od room w0 mb (fs++[(nx,accT op kid 0)]) (nx+1) (NoW M) o w1 w''):=Hd (by
  rintro z rfl
  by_cases e:op=5
  ·
   rw[if_pos e,show accT op kid 0=fun _=>true by unfold accT;simp[e]];exact Zm3 HKK.out HG1.out (by omega) HB2.out.one
  ·
   rw[if_neg e,show accT op kid 0=fun _=>false by unfold accT;simp[e]];exact Zm3 HKK.out HG1.out (by omega) HB2.out.zero)
 obtain⟨A,hA⟩:∃ A:Nat->BF,A=accT op kid:=⟨_,rfl⟩;have HAJ:Hid (∀ i,Zlg op (A i) (fnT (kid i))=A (i+1)):=Hd fun i=>by rw[hA];rfl
 have HDA:Hid (∀ i,i<=nk->DepF L (A i)):=Hd fun i hi=>by rw[hA];exact Zvj hi HDK.out
 rw[<- hA] at HCP HFF;clear hA;rcases h1 with h1|h1|h1
 all_goals
  subst h1
  go_enter Tryz.func8,Tryz.ntmps8
  go_upto_region 1 with fail;rw[HW1.out];go_wp2_with fail;refine(HCN.out _).mono ?_;rintro y w' ⟨rfl,rfl⟩;go_wp2_with fail;refine(HCP.out _ (by rfl)).mono ?_;rintro y w2 ⟨rfl,g⟩;have HG0:=Hd g;clear g HCN HCP;go_wp2_with fail
  go_loopw [10,12,13,14] (fun s10 s12 s13 s14 wr=>∃ (i:Nat) (k:Int),i<=nk/\s10=.int .i64 k/\s12=.bool true/\s13=.int .i64 i/\Hid (k+3<=nx+3*((1+sumN i fun i=>(kid i).size:Nat):Int))/\Hid (Goes K n Od room w0 mb (fs++[(k,A i)]) (k+1) (NoW (M+(sumN i fun i=>(kid i).size)*2^L)) o w1 wr)) (fun _ _ s13 _ _=>nk-(intOf s13).toNat)
  case atStart=>exact⟨0,nx,Nat.zero_le _,rfl,rfl,rfl,Hd (by show nx+3<=nx+3*((1+0:Nat):Int);omega),Hd (HG0.out.more (Nat.le_add_right _ _))⟩
  case round =>
   obtain⟨i,k,hi,rfl,rfl,rfl,HN,HG⟩:=hrel;have e0:=HG.out.cell (p:=⟨w.heap.size,0,none⟩) d0 on;have e2:=HG.out.cell (p:=⟨w.heap.size,2,none⟩) d2 on
   by_cases hlt:i<nk
   ·
    obtain⟨b,off,x0,x1,x2,rfl,c0,c1,c2,hx⟩:=H5.out i hlt;have hb0:=HG.out.below0;have q0:=(hb0.cell (p:=⟨b,off+i*3,none⟩) (Zab c0)).trans c0;have q1:=(hb0.cell (p:=⟨b,off+i*3+1,none⟩) (Zab c1)).trans c1;have q2:=(hb0.cell (p:=⟨b,off+i*3+2,none⟩) (Zab c2)).trans c2;have hiz:(i:Int)<nk:=by omega
    have hks:=HKS.out i hlt;obtain⟨o1,m1,V1,hc1,hw1',hs1'⟩:=HG.out;have hsum:=HN.out;have HCALL:=Hd (IH.out i _ (fs++[(k,A i)]) (k+1) _ o1 m1 V1 _ hlt hs1' hw1' (HB2.out.app _) hx (by omega) (by have:=HMR.out i hlt;omega));have HCH:=Hd hc1;clear hb0 c0 c1 c2 hx hs1' hw1' hc1;go_wp2_with fail;refine HCALL.out.mono ?_;rintro y w3 ⟨k2,rfl,hk2,g3⟩
    have HG3:Hid (Goes K n Od room w0 mb (fs++[(k,A i),(k2,fnT (kid i))]) (k2+1) (NoW (M+(sumN i fun i=>(kid i).size)*2^L+Zhb L (kid i).size)) o w1 w3):=Hd (by
     have:=g3.after HCH.out;rw[List.append_assoc] at this;exact this)
    have f0:=HG3.out.cell (p:=⟨w.heap.size,0,none⟩) d0 on;have HJ:=Hd (Zpm HKK.out HG3.out HB2.out (by omega) (by have:=HMR.out i hlt;have:=HCI.out i;omega) h59.1 h59.2 HOL.out (HDA.out i (by omega)) (HDK.out i hlt));clear g3 HCALL HCH q0 q1 q2 e0 e2;go_wp2_with fail;refine HJ.out.mono ?_;rintro y w4 ⟨k4,rfl,hk4,g4⟩
    have HG4:Hid (Goes K n Od room w0 mb (fs++[(k4,A (i+1))]) (k4+1) (NoW (M+(sumN (i+1) fun i=>(kid i).size)*2^L)) o w1 w4):=Hd (by
     rw[<- HAJ.out i];refine g4.more ?_
     show _<=M+((sumN i fun i=>(kid i).size)+(kid i).size)*2^L
     rw[Nat.add_mul];have:=HCI.out i;omega)
    have HN4:Hid (k4+3<=nx+3*((1+sumN (i+1) fun i=>(kid i).size:Nat):Int)):=Hd (by
     show k4+3<=nx+3*((1+((sumN i fun i=>(kid i).size)+(kid i).size):Nat):Int)
     omega)
    clear g4 HJ f0 HG3;go_wp2_with fail;go_roundw
    case rel=>exact⟨i+1,k4,by omega,rfl,rfl,by go_num,HN4,HG4⟩
    case measure=>simp[intOf];omega
   ·
    obtain rfl:i=nk:=by omega
    have hiz:¬ (i:Int)<i:=by omega
    have HF:=Hd (HQ.out k _ _ _ HFF.out (by have:=HN.out;have:=HSZ.out;omega) (by have:=HEP.out;omega) HG.out);go_wp2_with fail;exact HF.out
end
open Go.RowKit
section
variable {K:Law} {L n:Nat} {Od:List Nat->Prop} {room:Nat} {w0 w w' w'':World} {mb:Nat} {fs fs':List (Int×BF)} {nx nx':Int} {o o':Own} {m m':ManD} {V V':Nat->BF}
theorem Zty {w1:World} {op v:Int} {nk:Nat} {kid:Nat->ExT} {a:Option Addr} {c:Nat} {E:ExT} {Q:Ending->World->Prop} {M:Nat} (hctx:Zoi K L n Od room w0 mb fs nx M w w1 o m V op v nk kid a c E Q) (h1:op=4) (hnk:nk=1) (hF:fnT E=notF (fnT (kid 0))) :
 Calls Tryz.prog 8 #[.pointer (some ⟨mb,0,none⟩),.agg #[.int .i64 op,.int .i64 v,.slice a nk c]] w Q:=by
 obtain⟨HOL,HDK,HKK,H5,HKS,HSZ,HPOS,IH,HW1,HG1,HSAT1,HWT,HB2,HQ,HMR,HCK,HCI,HEP,HME,hn64,hnx,hE1,hs1,d0,d1,d2,on,hw0,hp2,h2,h3⟩:=hctx;have g1:(op == 1)=false:=by simp;omega
 have g2:(op == 2)=false:=by simp;omega
 have g3:(op == 3)=false:=by simp;omega
 have g5:(op == 5)=false:=by simp;omega
 have g6:(op == 6)=false:=by simp;omega
 have g7:(op == 7)=false:=by simp;omega
 have g4:(op == 4)=true:=by simp;omega
 have HNK:=Hd hnk;clear h1 hnk;obtain⟨w2,hw2⟩:∃ w2,w2=w1.alloc (.cells #[] 3):=⟨_,rfl⟩;have HW2:Hid (_=w2):=Hd hw2.symm;have hb2':Below w1.heap.size w1 w2:=by rw[hw2];exact Zaf _ _
 have HBS0:Hid (BuiS K n Od room w0 mb (fs++[]) nx (M+Zef L kid 0) o w1 (.slice (some ⟨w.heap.size+1,0,none⟩) 0 0) (([]:List (Int×BF)).map Prod.fst) w2):=Hd ⟨o,m,V,by rw[List.append_nil];exact HSAT1.out.below hb2',HWT.out,Ze1 hb2' o,by rw[hw2,<- hs1];exact Znu _ _ _ (Nat.le_refl _),fun k hk=>by cases hk;rw[<- hs1];exact HSAT1.out.lt.none (Nat.le_refl _)⟩;have HB12:=Hd hb2';clear hw2 hb2'
 go_enter Tryz.func8,Tryz.ntmps8
 go_upto_region 1 with fail;rw[HW1.out];go_upto_region 23 with fail;rw[HW2.out];have e2:=(HB12.out.cell (p:=⟨w.heap.size,2,none⟩) (Zab d2)).trans d2;go_wp2_with fail
 go_loopw [15,106] (fun s15 s106 wr=>∃ (i:Nat) (hs:List (Int×BF)) (nxi:Int),i<=nk/\s106=.int .i64 i/\hs.length=i/\nxi+2*i<=nx+3*((sumN i fun i=>(kid i).size:Nat):Int)/\Hid (∀ j (hj:j<hs.length),hs[j].2=fnT (kid j))/\Hid (BuiS K n Od room w0 mb (fs++hs) nxi (M+Zef L kid i) o w1 s15 (hs.map Prod.fst) wr)) (fun _ s106 _=>nk-(intOf s106).toNat)
 case atStart=>exact⟨0,[],nx,Nat.zero_le _,rfl,rfl,by show nx+2*((0:Nat):Int)<=nx+3*((0:Nat):Int);omega,Hd (fun j hj=>by simp at hj),HBS0⟩
 case round =>
  clear HBS0 HB12 e2
  rename World=>wy
  obtain⟨i,hs,nxi,hi,rfl,hhl,hnxi,HFS,HBS⟩:=hrel
  by_cases hlt:i<nk
  ·
   obtain⟨b,off,x0,x1,x2,rfl,c0,c1,c2,hx⟩:=H5.out i hlt;have hb0:=HBS.out.goes.below0;have q0:=(hb0.cell (p:=⟨b,off+i*3,none⟩) (Zab c0)).trans c0;have q1:=(hb0.cell (p:=⟨b,off+i*3+1,none⟩) (Zab c1)).trans c1;have q2:=(hb0.cell (p:=⟨b,off+i*3+2,none⟩) (Zab c2)).trans c2;obtain⟨zo,zv,za,zn,zc,rfl,rfl,rfl⟩:=hx.parts;have hiz:(i:Int)<nk:=by omega
   have hks:=HKS.out i hlt;obtain⟨wz,hwz⟩:∃ wz,wz=wy.alloc (.cells #[.int .i64 zo,.int .i64 zv,.slice za zn zc] 36):=⟨_,rfl⟩;have HWZ:Hid (_=wz):=Hd hwz.symm;have hbz:Below wy.heap.size wy wz:=by rw[hwz];exact Zaf _ _
   have hblk:wz.heap[wy.heap.size]?=some (.cells #[.int .i64 zo,.int .i64 zv,.slice za zn zc] 36 (0,0)):=by rw[hwz];exact heap_alloc_new _ _
   have p0:wz.cell? ⟨wy.heap.size,0,none⟩=some (.int .i64 zo):=by rw[cell_of_row _ _ 0 _ _ _ hblk];rfl
   have p1:wz.cell? ⟨wy.heap.size,1,none⟩=some (.int .i64 zv):=by rw[cell_of_row _ _ 1 _ _ _ hblk];rfl
   have p2:wz.cell? ⟨wy.heap.size,2,none⟩=some (.slice za zn zc):=by rw[cell_of_row _ _ 2 _ _ _ hblk];rfl
   obtain⟨o1,m1,V1,bt⟩:=HBS.out.below hbz;have hpos:=HPOS.out i;have HCALL:=Hd (IH.out i _ (fs++hs) nxi wz o1 m1 V1 _ hlt bt.sat bt.waits (HB2.out.app _) hx (by omega) (by have:=HMR.out i hlt;have:=HCK.out i;omega));have HBT:=Hd bt;clear hb0 c0 c1 c2 hx bt hwz hbz hblk HBS;go_upto_region 26 with fail;rw[HWZ.out];clear q0 q1 q2;go_wp2_with fail;refine HCALL.out.mono ?_;rintro y w3 ⟨k2,rfl,hk2,gg⟩;have HBS3:=Hd (HBT.out.go (M':=M+Zef L kid (i+1)) (gg.more (Nat.le_of_eq (Nat.add_assoc _ _ _))));have HF3:Hid (∀ j (hj:j<(hs++[(k2,fnT (kid i))]).length),(hs++[(k2,fnT (kid i))])[j].2=fnT (kid j)):=Hd fun j hj=>by
    rcases Nat.lt_or_ge j hs.length with h|h
    ·
     rw[List.getElem_append_left h];exact HFS.out j h
    ·
     have hj':j=i:=by simp at hj;omega
     subst hj';rw[List.getElem_append_right (by omega)];simp
   clear gg HCALL HBT p0 p1 p2;obtain⟨o3,m3,V3,bt3⟩:=HBS3.out;have hsz3:w1.heap.size<=w3.heap.size:=bt3.chg.size;have HBT3:=Hd bt3;clear bt3;go_upto_region 30 with (at_builtin;refine Zhh Zra _ rfl _ _ rfl w1.heap.size _ (Za7 (hs.map Prod.fst)) _ rfl rfl rfl rfl rfl (by exact HBT3.out.l.own) (by simp[Za7];omega) hsz3 ?_;intro v5 w5 hown5 r1 r2 r3 r4 hk5)
   have HBS5:Hid (BuiS K n Od room w0 mb (fs++(hs++[(k2,fnT (kid i))])) (k2+1) (M+Zef L kid (i+1)) o w1 v5 ((hs++[(k2,fnT (kid i))]).map Prod.fst) w5):=Hd (by
    have:=BuiS.app HBT3.out hown5 r1 r2 r3 r4 hk5 hw0;rw[List.append_assoc] at this;rw[List.map_append];exact this)
   clear hown5 r1 r2 r3 r4 hk5 HBT3 HBS3;go_wp2_with fail;go_roundw
   case rel=>exact⟨i+1,hs++[(k2,fnT (kid i))],k2+1,by omega,by go_num,by simp;omega,by
    show k2+1+2*((i+1:Nat):Int)<=nx+3*(((sumN i fun i=>(kid i).size)+(kid i).size:Nat):Int)
    omega,HF3,HBS5⟩
   case measure=>simp[intOf];omega
  ·
   obtain rfl:i=nk:=by omega
   have hiz:¬ (i:Int)<i:=by omega
   have f0:=HBS.out.goes.cell (p:=⟨w.heap.size,0,none⟩) d0 on;have hszn:=HSZ.out;have hsum:nxi+2*i+3<=nx+3*E.size:=by omega
   have hnk:=HNK.out;have hnk1:1<=i:=by omega
   clear hszn H5 IH HSZ HKS HPOS;obtain⟨o1,m1,V1,bt⟩:=HBS.out;have HBT:=Hd bt;clear bt;subst hnk;obtain⟨⟨k0,F0⟩,rfl⟩:=List.length_eq_one_iff.1 hhl;obtain⟨g,cp,rfl,hcells⟩:=HBS.out.cellsN (i:=1) rfl (by omega);have c0:wy.cell? ⟨g,0,none⟩=some (.int .i64 k0):=hcells 0 (by omega);have HF:Hid (notF F0=fnT E):=Hd (by rw[hF,<- HFS.out 0 (by simp)];rfl);have HN:=Hd (Zxl HKK.out HBT.out.refl (by omega) (k:=k0) (F:=F0) (by simp));clear hcells;go_wp2_with fail;refine HN.out.mono ?_;rintro y w3 ⟨rfl,g3⟩;have HB3:=Hd (HBT.out.go g3);obtain⟨g',cp',ev,hc3⟩:=HB3.out.cellsN (i:=1) rfl (by omega);cases ev;have c3:w3.cell? ⟨g,0,none⟩=some (.int .i64 k0):=hc3 0 (by omega);have HD:=Hd (Zm4 HKK.out (hs:=[(k0,F0)]) (r:=[(nxi,notF F0)]) (by have:=HB3.out.goes;rw[List.append_assoc] at this;exact this) HB2.out (by omega) (by simp) (T:=w3.alloc (.cells #[.int .i64 k0] 3)) rfl);clear g3 hc3 HN;go_wp2_with fail;refine HD.out.mono ?_;rintro y w4 ⟨rfl,g4⟩;have HFN:=Hd (HQ.out nxi _ w4 _ HF.out (by omega) (by have:=HEP.out;have:=HCK.out 1;omega) g4);clear g4 HD;go_wp2_with fail;exact HFN.out
end
open Go.RowKit
section
variable {K:Law} {L n:Nat} {Od:List Nat->Prop} {room:Nat} {w0 w w' w'':World} {mb:Nat} {fs fs':List (Int×BF)} {nx nx':Int} {o o':Own} {m m':ManD} {V V':Nat->BF}
theorem Ztz {w1:World} {op v:Int} {nk:Nat} {kid:Nat->ExT} {a:Option Addr} {c:Nat} {E:ExT} {Q:Ending->World->Prop} {M:Nat} (hctx:Zoi K L n Od room w0 mb fs nx M w w1 o m V op v nk kid a c E Q) (h1:op=8\/op=9) (hnk:nk=2) (hF:fnT E=Zlg op (fnT (kid 0)) (fnT (kid 1))) :
 Calls Tryz.prog 8 #[.pointer (some ⟨mb,0,none⟩),.agg #[.int .i64 op,.int .i64 v,.slice a nk c]] w Q:=by
 obtain⟨HOL,HDK,HKK,H5,HKS,HSZ,HPOS,IH,HW1,HG1,HSAT1,HWT,HB2,HQ,HMR,HCK,HCI,HEP,HME,hn64,hnx,hE1,hs1,d0,d1,d2,on,hw0,hp2,h2,h3⟩:=hctx;have g1:(op == 1)=false:=by simp;omega
 have g2:(op == 2)=false:=by simp;omega
 have g3:(op == 3)=false:=by simp;omega
 have g5:(op == 5)=false:=by simp;omega
 have g6:(op == 6)=false:=by simp;omega
 have g7:(op == 7)=false:=by simp;omega
 have g4:(op == 4)=false:=by simp;omega
 have g10:(op == 10)=false:=by simp;omega
 have HNK:=Hd hnk;have H1:=Hd h1;clear h1 hnk;obtain⟨w2,hw2⟩:∃ w2,w2=w1.alloc (.cells #[] 3):=⟨_,rfl⟩;have HW2:Hid (_=w2):=Hd hw2.symm;have hb2':Below w1.heap.size w1 w2:=by rw[hw2];exact Zaf _ _
 have HBS0:Hid (BuiS K n Od room w0 mb (fs++[]) nx (M+Zef L kid 0) o w1 (.slice (some ⟨w.heap.size+1,0,none⟩) 0 0) (([]:List (Int×BF)).map Prod.fst) w2):=Hd ⟨o,m,V,by rw[List.append_nil];exact HSAT1.out.below hb2',HWT.out,Ze1 hb2' o,by rw[hw2,<- hs1];exact Znu _ _ _ (Nat.le_refl _),fun k hk=>by cases hk;rw[<- hs1];exact HSAT1.out.lt.none (Nat.le_refl _)⟩;have HB12:=Hd hb2';clear hw2 hb2'
 go_enter Tryz.func8,Tryz.ntmps8
 go_upto_region 1 with fail;rw[HW1.out];go_upto_region 23 with fail;rw[HW2.out];have e2:=(HB12.out.cell (p:=⟨w.heap.size,2,none⟩) (Zab d2)).trans d2;go_wp2_with fail
 go_loopw [15,106] (fun s15 s106 wr=>∃ (i:Nat) (hs:List (Int×BF)) (nxi:Int),i<=nk/\s106=.int .i64 i/\hs.length=i/\nxi+2*i<=nx+3*((sumN i fun i=>(kid i).size:Nat):Int)/\Hid (∀ j (hj:j<hs.length),hs[j].2=fnT (kid j))/\Hid (BuiS K n Od room w0 mb (fs++hs) nxi (M+Zef L kid i) o w1 s15 (hs.map Prod.fst) wr)) (fun _ s106 _=>nk-(intOf s106).toNat)
 case atStart=>exact⟨0,[],nx,Nat.zero_le _,rfl,rfl,by show nx+2*((0:Nat):Int)<=nx+3*((0:Nat):Int);omega,Hd (fun j hj=>by simp at hj),HBS0⟩
 case round =>
  clear HBS0 HB12 e2
  rename World=>wy
  obtain⟨i,hs,nxi,hi,rfl,hhl,hnxi,HFS,HBS⟩:=hrel
  by_cases hlt:i<nk
  ·
   obtain⟨b,off,x0,x1,x2,rfl,c0,c1,c2,hx⟩:=H5.out i hlt;have hb0:=HBS.out.goes.below0;have q0:=(hb0.cell (p:=⟨b,off+i*3,none⟩) (Zab c0)).trans c0;have q1:=(hb0.cell (p:=⟨b,off+i*3+1,none⟩) (Zab c1)).trans c1;have q2:=(hb0.cell (p:=⟨b,off+i*3+2,none⟩) (Zab c2)).trans c2;obtain⟨zo,zv,za,zn,zc,rfl,rfl,rfl⟩:=hx.parts;have hiz:(i:Int)<nk:=by omega
   have hks:=HKS.out i hlt;obtain⟨wz,hwz⟩:∃ wz,wz=wy.alloc (.cells #[.int .i64 zo,.int .i64 zv,.slice za zn zc] 36):=⟨_,rfl⟩;have HWZ:Hid (_=wz):=Hd hwz.symm;have hbz:Below wy.heap.size wy wz:=by rw[hwz];exact Zaf _ _
   have hblk:wz.heap[wy.heap.size]?=some (.cells #[.int .i64 zo,.int .i64 zv,.slice za zn zc] 36 (0,0)):=by rw[hwz];exact heap_alloc_new _ _
   have p0:wz.cell? ⟨wy.heap.size,0,none⟩=some (.int .i64 zo):=by rw[cell_of_row _ _ 0 _ _ _ hblk];rfl
   have p1:wz.cell? ⟨wy.heap.size,1,none⟩=some (.int .i64 zv):=by rw[cell_of_row _ _ 1 _ _ _ hblk];rfl
   have p2:wz.cell? ⟨wy.heap.size,2,none⟩=some (.slice za zn zc):=by rw[cell_of_row _ _ 2 _ _ _ hblk];rfl
   obtain⟨o1,m1,V1,bt⟩:=HBS.out.below hbz;have hpos:=HPOS.out i;have HCALL:=Hd (IH.out i _ (fs++hs) nxi wz o1 m1 V1 _ hlt bt.sat bt.waits (HB2.out.app _) hx (by omega) (by have:=HMR.out i hlt;have:=HCK.out i;omega));have HBT:=Hd bt;clear hb0 c0 c1 c2 hx bt hwz hbz hblk HBS;go_upto_region 26 with fail;rw[HWZ.out];clear q0 q1 q2;go_wp2_with fail;refine HCALL.out.mono ?_;rintro y w3 ⟨k2,rfl,hk2,gg⟩;have HBS3:=Hd (HBT.out.go (M':=M+Zef L kid (i+1)) (gg.more (Nat.le_of_eq (Nat.add_assoc _ _ _))));have HF3:Hid (∀ j (hj:j<(hs++[(k2,fnT (kid i))]).length),(hs++[(k2,fnT (kid i))])[j].2=fnT (kid j)):=Hd fun j hj=>by
    rcases Nat.lt_or_ge j hs.length with h|h
    ·
     rw[List.getElem_append_left h];exact HFS.out j h
    ·
     have hj':j=i:=by simp at hj;omega
     subst hj';rw[List.getElem_append_right (by omega)];simp
   clear gg HCALL HBT p0 p1 p2;obtain⟨o3,m3,V3,bt3⟩:=HBS3.out;have hsz3:w1.heap.size<=w3.heap.size:=bt3.chg.size;have HBT3:=Hd bt3;clear bt3;go_upto_region 30 with (at_builtin;refine Zhh Zra _ rfl _ _ rfl w1.heap.size _ (Za7 (hs.map Prod.fst)) _ rfl rfl rfl rfl rfl (by exact HBT3.out.l.own) (by simp[Za7];omega) hsz3 ?_;intro v5 w5 hown5 r1 r2 r3 r4 hk5)
   have HBS5:Hid (BuiS K n Od room w0 mb (fs++(hs++[(k2,fnT (kid i))])) (k2+1) (M+Zef L kid (i+1)) o w1 v5 ((hs++[(k2,fnT (kid i))]).map Prod.fst) w5):=Hd (by
    have:=BuiS.app HBT3.out hown5 r1 r2 r3 r4 hk5 hw0;rw[List.append_assoc] at this;rw[List.map_append];exact this)
   clear hown5 r1 r2 r3 r4 hk5 HBT3 HBS3;go_wp2_with fail;go_roundw
   case rel=>exact⟨i+1,hs++[(k2,fnT (kid i))],k2+1,by omega,by go_num,by simp;omega,by
    show k2+1+2*((i+1:Nat):Int)<=nx+3*(((sumN i fun i=>(kid i).size)+(kid i).size:Nat):Int)
    omega,HF3,HBS5⟩
   case measure=>simp[intOf];omega
  ·
   obtain rfl:i=nk:=by omega
   have hiz:¬ (i:Int)<i:=by omega
   have f0:=HBS.out.goes.cell (p:=⟨w.heap.size,0,none⟩) d0 on;have hszn:=HSZ.out;have hsum:nxi+2*i+3<=nx+3*E.size:=by omega
   have hnk:=HNK.out;have hnk1:1<=i:=by omega
   clear hszn H5 IH HSZ HKS HPOS;obtain⟨o1,m1,V1,bt⟩:=HBS.out;have HBT:=Hd bt;clear bt;subst hnk;obtain⟨⟨k0,F0⟩,⟨k1',F1⟩,rfl⟩:=Yb8 hhl;obtain⟨g,cp,rfl,hcells⟩:=HBS.out.cellsN (i:=2) rfl (by omega);have c0:wy.cell? ⟨g,0,none⟩=some (.int .i64 k0):=hcells 0 (by omega);have c1:wy.cell? ⟨g,1,none⟩=some (.int .i64 k1'):=hcells 1 (by omega);have HF:Hid (Zlg op F0 F1=fnT E):=Hd (by rw[hF,<- HFS.out 0 (by simp),<- HFS.out 1 (by simp)];rfl);have HJ:Hid (∀ W,W=wy.drew->Calls Tryz.prog 37 #[.pointer (some ⟨mb,0,none⟩),.int .i64 op,.int .i64 k0,.int .i64 k1'] W fun x w''=>∃ k:Int,x=.returned (.tuple #[.int .i64 k,.bool true])/\k<=nxi+1/\Goes K n Od room w0 mb (fs++[(k,Zlg op F0 F1)]) (k+1) (NoW (M+Zef L kid 2+(2^L-1))) o1 wy w'') :=
    Hd fun W hW=>by subst hW;exact Zpm HKK.out (HBT.out.refl.below (Zah wy 1)) HB2.out (by omega) (by have:=HEP.out;have:=HCK.out 2;have:=HME.out;omega) (by have:=H1.out;omega) (by have:=H1.out;omega) HOL.out (by have h1:=HFS.out 0 (by simp);have h2:=HDK.out 0 (by omega);rw[<- h1] at h2;exact h2) (by have h1:=HFS.out 1 (by simp);have h2:=HDK.out 1 (by omega);rw[<- h1] at h2;exact h2)
   clear hcells;go_upto_region 39 with fail;refine Zan (fun W:World=>W.cell? ⟨w.heap.size,0,none⟩=some (.int .i64 op)/\W.cell? ⟨g,0,none⟩=some (.int .i64 k0)/\W.cell? ⟨g,1,none⟩=some (.int .i64 k1')) false 14
    [(0,false),(1,false),(2,false),(3,false),(4,false),(5,false),(6,false),(7,false),(8,false),(9,true),(10,false),(11,false),(12,false),(13,false)] (by kernel_rfl) (by kernel_rfl) ⟨f0,c0,c1⟩ ?_
   simp only[planned,Zd8]
   iterate 9
    refine Zap rfl ?_;apply Exists.intro;refine⟨fun w' hw=>?_,?_⟩
    ·
     obtain⟨h1,h2,h3⟩:=hw;go_simp;rfl
    simp only[Zag]
   refine Zch (R:=fun v w'=>∃ k:Int,v=.tuple #[.int .i64 k,.bool true]/\k<=nxi+1/\Goes K n Od room w0 mb (fs++[(k,Zlg op F0 F1)]) (k+1) (NoW (M+Zef L kid 2+(2^L-1))) o1 wy w') rfl (by go_simp) ((HJ.out _ rfl).mono (fun e w' he=>?_)) ?_
   ·
    obtain⟨k,rfl,q1,q2⟩:=he;have hb:=HBT.out.go q2;obtain⟨g',cp',ev,hc3⟩:=hb.cellsN (i:=2) rfl (by omega);cases ev;exact⟨_,rfl,⟨hb.goes.cell (p:=⟨w.heap.size,0,none⟩) d0 on,hc3 0 (by omega),hc3 1 (by omega)⟩,k,rfl,q1,q2⟩
   rintro v w3-⟨k,rfl,q1,q2⟩;have HFN:=Hd (HQ.out k _ w3 _ HF.out (by omega) (by have:=HEP.out;have:=HCK.out 2;omega) (HBT.out.go q2).goes);clear q2 HJ;simp only[Zag]
   iterate 4
    refine Zap rfl ?_;apply Exists.intro;refine⟨fun w' hw=>?_,?_⟩
    ·
     obtain⟨h1,h2,h3⟩:=hw;go_simp;rfl
    simp only[Zag]
   refine Zij ?_;go_wp2_with fail;exact HFN.out
end
open Go.RowKit
section
variable {K:Law} {L n:Nat} {Od:List Nat->Prop} {room:Nat} {w0 w w' w'':World} {mb:Nat} {fs fs':List (Int×BF)} {nx nx':Int} {o o':Own} {m m':ManD} {V V':Nat->BF}
theorem Ztx {w1:World} {op v:Int} {nk:Nat} {kid:Nat->ExT} {a:Option Addr} {c:Nat} {E:ExT} {Q:Ending->World->Prop} {M:Nat} (hctx:Zoi K L n Od room w0 mb fs nx M w w1 o m V op v nk kid a c E Q) (h1:op=10) (hnk:nk=3) (hF:fnT E=Zdc (fnT (kid 0)) (fnT (kid 1)) (fnT (kid 2))) :
 Calls Tryz.prog 8 #[.pointer (some ⟨mb,0,none⟩),.agg #[.int .i64 op,.int .i64 v,.slice a nk c]] w Q:=by
 obtain⟨HOL,HDK,HKK,H5,HKS,HSZ,HPOS,IH,HW1,HG1,HSAT1,HWT,HB2,HQ,HMR,HCK,HCI,HEP,HME,hn64,hnx,hE1,hs1,d0,d1,d2,on,hw0,hp2,h2,h3⟩:=hctx;have g1:(op == 1)=false:=by simp;omega
 have g2:(op == 2)=false:=by simp;omega
 have g3:(op == 3)=false:=by simp;omega
 have g5:(op == 5)=false:=by simp;omega
 have g6:(op == 6)=false:=by simp;omega
 have g7:(op == 7)=false:=by simp;omega
 have g4:(op == 4)=false:=by simp;omega
 have g10:(op == 10)=true:=by simp;omega
 have HNK:=Hd hnk;clear h1 hnk;obtain⟨w2,hw2⟩:∃ w2,w2=w1.alloc (.cells #[] 3):=⟨_,rfl⟩;have HW2:Hid (_=w2):=Hd hw2.symm;have hb2':Below w1.heap.size w1 w2:=by rw[hw2];exact Zaf _ _
 have HBS0:Hid (BuiS K n Od room w0 mb (fs++[]) nx (M+Zef L kid 0) o w1 (.slice (some ⟨w.heap.size+1,0,none⟩) 0 0) (([]:List (Int×BF)).map Prod.fst) w2):=Hd ⟨o,m,V,by rw[List.append_nil];exact HSAT1.out.below hb2',HWT.out,Ze1 hb2' o,by rw[hw2,<- hs1];exact Znu _ _ _ (Nat.le_refl _),fun k hk=>by cases hk;rw[<- hs1];exact HSAT1.out.lt.none (Nat.le_refl _)⟩;have HB12:=Hd hb2';clear hw2 hb2'
 go_enter Tryz.func8,Tryz.ntmps8
 go_upto_region 1 with fail;rw[HW1.out];go_upto_region 23 with fail;rw[HW2.out];have e2:=(HB12.out.cell (p:=⟨w.heap.size,2,none⟩) (Zab d2)).trans d2;go_wp2_with fail
 go_loopw [15,106] (fun s15 s106 wr=>∃ (i:Nat) (hs:List (Int×BF)) (nxi:Int),i<=nk/\s106=.int .i64 i/\hs.length=i/\nxi+2*i<=nx+3*((sumN i fun i=>(kid i).size:Nat):Int)/\Hid (∀ j (hj:j<hs.length),hs[j].2=fnT (kid j))/\Hid (BuiS K n Od room w0 mb (fs++hs) nxi (M+Zef L kid i) o w1 s15 (hs.map Prod.fst) wr)) (fun _ s106 _=>nk-(intOf s106).toNat)
 case atStart=>exact⟨0,[],nx,Nat.zero_le _,rfl,rfl,by show nx+2*((0:Nat):Int)<=nx+3*((0:Nat):Int);omega,Hd (fun j hj=>by simp at hj),HBS0⟩
 case round =>
  clear HBS0 HB12 e2
  rename World=>wy
  obtain⟨i,hs,nxi,hi,rfl,hhl,hnxi,HFS,HBS⟩:=hrel
  by_cases hlt:i<nk
  ·
   obtain⟨b,off,x0,x1,x2,rfl,c0,c1,c2,hx⟩:=H5.out i hlt;have hb0:=HBS.out.goes.below0;have q0:=(hb0.cell (p:=⟨b,off+i*3,none⟩) (Zab c0)).trans c0;have q1:=(hb0.cell (p:=⟨b,off+i*3+1,none⟩) (Zab c1)).trans c1;have q2:=(hb0.cell (p:=⟨b,off+i*3+2,none⟩) (Zab c2)).trans c2;obtain⟨zo,zv,za,zn,zc,rfl,rfl,rfl⟩:=hx.parts;have hiz:(i:Int)<nk:=by omega
   have hks:=HKS.out i hlt;obtain⟨wz,hwz⟩:∃ wz,wz=wy.alloc (.cells #[.int .i64 zo,.int .i64 zv,.slice za zn zc] 36):=⟨_,rfl⟩;have HWZ:Hid (_=wz):=Hd hwz.symm;have hbz:Below wy.heap.size wy wz:=by rw[hwz];exact Zaf _ _
   have hblk:wz.heap[wy.heap.size]?=some (.cells #[.int .i64 zo,.int .i64 zv,.slice za zn zc] 36 (0,0)):=by rw[hwz];exact heap_alloc_new _ _
   have p0:wz.cell? ⟨wy.heap.size,0,none⟩=some (.int .i64 zo):=by rw[cell_of_row _ _ 0 _ _ _ hblk];rfl
   have p1:wz.cell? ⟨wy.heap.size,1,none⟩=some (.int .i64 zv):=by rw[cell_of_row _ _ 1 _ _ _ hblk];rfl
   have p2:wz.cell? ⟨wy.heap.size,2,none⟩=some (.slice za zn zc):=by rw[cell_of_row _ _ 2 _ _ _ hblk];rfl
   obtain⟨o1,m1,V1,bt⟩:=HBS.out.below hbz;have hpos:=HPOS.out i;have HCALL:=Hd (IH.out i _ (fs++hs) nxi wz o1 m1 V1 _ hlt bt.sat bt.waits (HB2.out.app _) hx (by omega) (by have:=HMR.out i hlt;have:=HCK.out i;omega));have HBT:=Hd bt;clear hb0 c0 c1 c2 hx bt hwz hbz hblk HBS;go_upto_region 26 with fail;rw[HWZ.out];clear q0 q1 q2;go_wp2_with fail;refine HCALL.out.mono ?_;rintro y w3 ⟨k2,rfl,hk2,gg⟩;have HBS3:=Hd (HBT.out.go (M':=M+Zef L kid (i+1)) (gg.more (Nat.le_of_eq (Nat.add_assoc _ _ _))));have HF3:Hid (∀ j (hj:j<(hs++[(k2,fnT (kid i))]).length),(hs++[(k2,fnT (kid i))])[j].2=fnT (kid j)):=Hd fun j hj=>by
    rcases Nat.lt_or_ge j hs.length with h|h
    ·
     rw[List.getElem_append_left h];exact HFS.out j h
    ·
     have hj':j=i:=by simp at hj;omega
     subst hj';rw[List.getElem_append_right (by omega)];simp
   clear gg HCALL HBT p0 p1 p2;obtain⟨o3,m3,V3,bt3⟩:=HBS3.out;have hsz3:w1.heap.size<=w3.heap.size:=bt3.chg.size;have HBT3:=Hd bt3;clear bt3;go_upto_region 30 with (at_builtin;refine Zhh Zra _ rfl _ _ rfl w1.heap.size _ (Za7 (hs.map Prod.fst)) _ rfl rfl rfl rfl rfl (by exact HBT3.out.l.own) (by simp[Za7];omega) hsz3 ?_;intro v5 w5 hown5 r1 r2 r3 r4 hk5)
   have HBS5:Hid (BuiS K n Od room w0 mb (fs++(hs++[(k2,fnT (kid i))])) (k2+1) (M+Zef L kid (i+1)) o w1 v5 ((hs++[(k2,fnT (kid i))]).map Prod.fst) w5):=Hd (by
    have:=BuiS.app HBT3.out hown5 r1 r2 r3 r4 hk5 hw0;rw[List.append_assoc] at this;rw[List.map_append];exact this)
   clear hown5 r1 r2 r3 r4 hk5 HBT3 HBS3;go_wp2_with fail;go_roundw
   case rel=>exact⟨i+1,hs++[(k2,fnT (kid i))],k2+1,by omega,by go_num,by simp;omega,by
    show k2+1+2*((i+1:Nat):Int)<=nx+3*(((sumN i fun i=>(kid i).size)+(kid i).size:Nat):Int)
    omega,HF3,HBS5⟩
   case measure=>simp[intOf];omega
  ·
   obtain rfl:i=nk:=by omega
   have hiz:¬ (i:Int)<i:=by omega
   have f0:=HBS.out.goes.cell (p:=⟨w.heap.size,0,none⟩) d0 on;have hszn:=HSZ.out;have hsum:nxi+2*i+3<=nx+3*E.size:=by omega
   have hnk:=HNK.out;have hnk1:1<=i:=by omega
   clear hszn H5 IH HSZ HKS HPOS;obtain⟨o1,m1,V1,bt⟩:=HBS.out;have HBT:=Hd bt;clear bt;subst hnk;obtain⟨⟨k0,F0⟩,⟨k1',F1⟩,⟨k2',F2⟩,rfl⟩:=Zwz hhl;obtain⟨g,cp,rfl,hcells⟩:=HBS.out.cellsN (i:=3) rfl (by omega);have c0:wy.cell? ⟨g,0,none⟩=some (.int .i64 k0):=hcells 0 (by omega);have c1:wy.cell? ⟨g,1,none⟩=some (.int .i64 k1'):=hcells 1 (by omega);have c2:wy.cell? ⟨g,2,none⟩=some (.int .i64 k2'):=hcells 2 (by omega);have HF:Hid (Zdc F0 F1 F2=fnT E):=Hd (by rw[hF,<- HFS.out 0 (by simp),<- HFS.out 1 (by simp),<- HFS.out 2 (by simp)];rfl);have HI:Hid (∀ W,W=wy.drew->Calls Tryz.prog 18 #[.pointer (some ⟨mb,0,none⟩),.int .i64 k0,.int .i64 k1',.int .i64 k2'] W fun x w''=>x=.returned (.tuple #[.int .i64 nxi,.int .i64 0])/\Goes K n Od room w0 mb (fs++[(k0,F0),(k1',F1),(k2',F2)]++[(nxi,Zdc F0 F1 F2)]) (nxi+1) (NoW (M+Zef L kid 3+(2^L-1))) o1 wy w'') :=
    Hd fun W hW=>by subst hW;exact Zrh HKK.out (HBT.out.refl.below (Zah wy 1)) (by omega) (by have:=HEP.out;have:=HCK.out 3;have:=HME.out;omega) (by simp) (by simp) (by simp) HOL.out (by have h1:=HFS.out 0 (by simp);have h2:=HDK.out 0 (by omega);rw[<- h1] at h2;exact h2) (by have h1:=HFS.out 1 (by simp);have h2:=HDK.out 1 (by omega);rw[<- h1] at h2;exact h2) (by have h1:=HFS.out 2 (by simp);have h2:=HDK.out 2 (by omega);rw[<- h1] at h2;exact h2)
   clear hcells;go_upto_region 36 with fail;refine Zan (fun W:World=>W.cell? ⟨g,0,none⟩=some (.int .i64 k0)/\W.cell? ⟨g,1,none⟩=some (.int .i64 k1')/\W.cell? ⟨g,2,none⟩=some (.int .i64 k2')) false 16
    [(0,false),(1,false),(2,false),(3,false),(4,false),(5,false),(6,false),(7,false),(8,false),(9,false),(10,true),(11,false),(12,false),(13,false),(14,false),(15,false)] (by kernel_rfl) (by kernel_rfl) ⟨c0,c1,c2⟩ ?_
   simp only[planned,Zd8]
   iterate 10
    refine Zap rfl ?_;apply Exists.intro;refine⟨fun w' hw=>?_,?_⟩
    ·
     obtain⟨h1,h2,h3⟩:=hw;go_simp;rfl
    simp only[Zag]
   refine Zch (R:=fun v w'=>v=.tuple #[.int .i64 nxi,.int .i64 0]/\Goes K n Od room w0 mb (fs++[(k0,F0),(k1',F1),(k2',F2)]++[(nxi,Zdc F0 F1 F2)]) (nxi+1) (NoW (M+Zef L kid 3+(2^L-1))) o1 wy w') rfl (by go_simp) ((HI.out _ rfl).mono (fun e w' he=>?_)) ?_
   ·
    obtain⟨rfl,q2⟩:=he;have hb:=HBT.out.go q2;obtain⟨g',cp',ev,hc3⟩:=hb.cellsN (i:=3) rfl (by omega);cases ev;exact⟨_,rfl,⟨hc3 0 (by omega),hc3 1 (by omega),hc3 2 (by omega)⟩,rfl,q2⟩
   rintro v w3 ⟨d0',d1',d2'⟩ ⟨rfl,q2⟩;obtain⟨o3,m3,V3,bt3⟩:=HBT.out.go q2;have HBT3:=Hd bt3;clear q2 HI bt3 c0 c1 c2 HBS;simp only[Zag]
   iterate 5
    refine Zap rfl ?_;apply Exists.intro;refine⟨fun w' hw=>?_,?_⟩
    ·
     obtain⟨h1,h2,h3⟩:=hw;go_simp;rfl
    simp only[Zag]
   refine Zij ?_;have HD:Hid (∀ W T,Below w3.heap.size w3 W->T=W.alloc (.cells #[.int .i64 k0,.int .i64 k1',.int .i64 k2'] 3)->Calls Tryz.prog 38 #[.pointer (some ⟨mb,0,none⟩),.slice (some ⟨W.heap.size,0,none⟩) 3 3] T fun x w''=>x=.returned (.int .i64 0)/\Goes K n Od room w0 mb (fs++[(nxi,Zdc F0 F1 F2)]) (nxi+1) (NoW (M+Zef L kid 3+(2^L-1))) o3 w3 w'') :=
    Hd fun W T hW hT=>Zm4 HKK.out (hs:=[(k0,F0),(k1',F1),(k2',F2)]) (r:=[(nxi,Zdc F0 F1 F2)]) (by have:=HBT3.out.refl;rw[List.append_assoc] at this;exact this.below hW) HB2.out (by omega) (by simp) hT
   go_upto_region 37 with fail;refine Zan (fun W:World=>W.cell? ⟨g,0,none⟩=some (.int .i64 k0)/\W.cell? ⟨g,1,none⟩=some (.int .i64 k1')/\W.cell? ⟨g,2,none⟩=some (.int .i64 k2')) false 20
    [(0,false),(1,false),(2,false),(3,false),(4,false),(5,false),(6,false),(7,false),(8,false),(9,false),(10,false),(11,false),(12,false),(13,false),(14,true),(15,true),(16,false),(17,false),(18,false),(19,false)] (by kernel_rfl) (by kernel_rfl) ⟨d0',d1',d2'⟩ ?_
   simp only[planned,Zd8]
   iterate 4
    refine Zap rfl ?_;apply Exists.intro;refine⟨fun w' hw=>?_,?_⟩
    ·
     obtain⟨h1,h2,h3⟩:=hw;go_simp;rfl
    simp only[Zag]
   iterate 10
    refine Zmf true (by go_simp) ?_;apply Exists.intro;refine⟨fun hgd w' hw=>?_,?_⟩
    ·
     obtain⟨h1,h2,h3⟩:=hw;go_simp;rfl
    simp only[Zag]
   have hbn:=Zaf w3.drew (.cells #[.int .i64 k0,.int .i64 k1',.int .i64 k2'] 3);refine Zuq (v:=.slice (some ⟨w3.heap.size,0,none⟩) 3 3) (w':=w3.drew.alloc (.cells #[.int .i64 k0,.int .i64 k1',.int .i64 k2'] 3)) (by go_simp) (by go_simp) ⟨(hbn.cell (p:=⟨g,0,none⟩) (Zab (w:=w3.drew) d0')).trans d0',(hbn.cell (p:=⟨g,1,none⟩) (Zab (w:=w3.drew) d1')).trans d1',(hbn.cell (p:=⟨g,2,none⟩) (Zab (w:=w3.drew) d2')).trans d2'⟩ ?_;simp only[Zag];refine Zup (R:=fun v w'=>v=.int .i64 0/\Goes K n Od room w0 mb (fs++[(nxi,Zdc F0 F1 F2)]) (nxi+1) (NoW (M+Zef L kid 3+(2^L-1))) o3 w3 w') (by go_simp) (by go_simp) ((HD.out w3.drew _ (Zah w3 1) rfl).mono (fun e w' he=>?_)) ?_
   ·
    obtain⟨rfl,q2⟩:=he;have hb:=HBT3.out.go q2;obtain⟨g',cp',ev,hc3⟩:=hb.cellsN (i:=3) rfl (by omega);cases ev;exact⟨_,rfl,⟨hc3 0 (by omega),hc3 1 (by omega),hc3 2 (by omega)⟩,rfl,q2⟩
   rintro v w4-⟨rfl,q2⟩;have HFN:=Hd (HQ.out nxi _ w4 _ HF.out (by omega) (by have:=HEP.out;have:=HCK.out 3;omega) (HBT3.out.go q2).goes);clear q2 HD;simp only[Zag]
   iterate 1
    refine Zmf true (by go_simp) ?_;apply Exists.intro;refine⟨fun hgd w' hw=>?_,?_⟩
    ·
     obtain⟨h1,h2,h3⟩:=hw;go_simp;rfl
    simp only[Zag]
   iterate 3
    refine Zap rfl ?_;apply Exists.intro;refine⟨fun w' hw=>?_,?_⟩
    ·
     obtain⟨h1,h2,h3⟩:=hw;go_simp;rfl
    simp only[Zag]
   refine Zij ?_;go_wp2_with fail;exact HFN.out
end
open Go.RowKit
section
variable {K:Law} {L n:Nat} {Od:List Nat->Prop} {room:Nat} {w0:World} {mb:Nat}
theorem Zlw (hOL:OL n L Od) (hK:Zc8 K):∀ (e:ExT) (x:Value) (fs:List (Int×BF)) (nx:Int) (w:World) (o:Own) (m:ManD) (V:Nat->BF) (M:Nat),SatE K n Od room w0 mb fs nx w o m V->m.waits=[]/\m.d.pool.many<=M->B2 fs->Ztj e->(∀ v∈Zb6 e,v<(L:Int))->Za4 w0 e x->nx+3*e.size<549755813000->M+e.size*2^L<=room ->
 Calls Tryz.prog 8 #[.pointer (some ⟨mb,0,none⟩),x] w fun y w'=>∃ k:Int,y=.returned (.tuple #[.int .i64 k,.bool true])/\k+3<=nx+3*e.size/\Goes K n Od room w0 mb (fs++[(k,fnT e)]) (k+1) (NoW (M+Zhb L e.size)) o w w'
 | .nil,x,fs,nx,w,o,m,V,M,_,_,_,hv,_,_,_,_=>hv.elim
 | .mk op v nk kid,x,fs,nx,w,o,m,V,M,hsat,hwt,hb2,hval,hvars,h,hnx,hroom=>by
   unfold Za4 at h;obtain⟨a,c,rfl,h2,h3,h4,h5⟩:=h;obtain⟨v1,v2,v3,v4,v5,v6⟩:=hval;obtain⟨k1,k2,k3⟩:=Yb5 v1;have hblk:(w.alloc (.cells #[.int .i64 op,.int .i64 v,.slice a nk c] 36)).heap[w.heap.size]?=some (.cells #[.int .i64 op,.int .i64 v,.slice a nk c] 36 (0,0)):=heap_alloc_new _ _;have hb1:=Zaf w (.cells #[.int .i64 op,.int .i64 v,.slice a nk c] 36);have hep:(ExT.mk op v nk kid).size*2^L=2^L+(sumN nk fun i=>(kid i).size)*2^L:=by
    show (1+sumN nk fun i=>(kid i).size)*2^L=_
    rw[Nat.add_mul,Nat.one_mul]
   have hctx:Zoi K L n Od room w0 mb fs nx M w (w.alloc (.cells #[.int .i64 op,.int .i64 v,.slice a nk c] 36)) o m V op v nk kid a c (ExT.mk op v nk kid) (fun y w'=>∃ k:Int,y=.returned (.tuple #[.int .i64 k,.bool true])/\k+3<=nx+3*(ExT.mk op v nk kid).size/\Goes K n Od room w0 mb (fs++[(k,fnT (ExT.mk op v nk kid))]) (k+1) (NoW (M+Zhb L (ExT.mk op v nk kid).size)) o w w'):=by
    refine⟨Hd hOL,Hd fun i hi=>Zwi (v6 i hi) (fun u hu=>hvars u (by unfold Zb6;exact List.mem_append_right _ (Zhv hi hu))),Hd hK,Hd h5,Hd fun i hi=>?_,Hd rfl,Hd (Zs6 fun i=>(kid i).size_pos),Hd fun i x fs' nx' W o' m' V' M' hi q1 q2 q3 q4 q5 q6=>Zlw hOL hK (kid i) x fs' nx' W o' m' V' M' q1 q2 q3 (v6 i hi) (fun u hu=>hvars u (by unfold Zb6;exact List.mem_append_right _ (Zhv hi hu))) q4 q5 q6,Hd rfl,Hd (Goes.refl (hsat.below hb1) hwt),Hd (hsat.below hb1),Hd hwt,Hd hb2,Hd ?_,Hd fun i hi=>?_,Hd (Zoz L kid),Hd fun i=>Zj9 L (kid i).size_pos,Hd ⟨hep,Zj9 L (ExT.size_pos _)⟩,Hd hroom,by omega,hnx,ExT.size_pos _,by simp,by rw[cell_of_row _ _ 0 _ _ _ hblk];rfl,by rw[cell_of_row _ _ 1 _ _ _ hblk];rfl,by rw[cell_of_row _ _ 2 _ _ _ hblk];rfl,hsat.lt.none (Nat.le_refl _),?_,Nat.pow_pos (by omega),h2,h3⟩
    ·
     have:=Zfm (f:=fun i=>(kid i).size) hi
     show _<=1+sumN nk fun i=>(kid i).size
     omega
    ·
     rintro k F W M' rfl hk hm g;exact⟨k,rfl,hk,(g.more hm).after (Ze1 hb1 o)⟩
    ·
     have h1:=Zfm (f:=fun i=>(kid i).size) hi;have h2:=Nat.mul_le_mul_right (2^L) h1;rw[Nat.add_mul] at h2;omega
    ·
     have:=hsat.chg.size;simp;omega
   rcases(show op=1\/op=2\/op=3\/(op=5\/op=6\/op=7)\/op=4\/(op=8\/op=9)\/op=10 by omega) with h1|h1|h1|h1|h1|h1|h1
   ·
    exact Zq2 hctx h1 (by subst h1;exact Zpb (.inl rfl) v nk kid)
   ·
    exact Zos hctx h1 (by subst h1;exact Zpb (.inr rfl) v nk kid)
   ·
    have e1:=v2 h1;have e2:=hvars v (by unfold Zb6;rw[if_pos h1];simp);obtain⟨u,rfl⟩:∃ u:Nat,v=u:=⟨v.toNat,by omega⟩;exact Zt0 hctx (u:=u) (by have:=hOL.le;omega) h1 rfl (by subst h1;exact Yb1 u nk kid)
   ·
    exact Ztw hctx h1 (Yby h1 v nk kid)
   ·
    have e:nk=1:=by subst h1;simp[Zeh] at v4 v5;omega
    exact Zty hctx h1 e (by subst h1;subst e;exact Yb0 v kid)
   ·
    have e:nk=2:=by rcases h1 with rfl|rfl<;>(simp[Zeh] at v4 v5;omega)
    exact Ztz hctx h1 e (by subst e;exact Zy9 h1 v kid)
   ·
    have e:nk=3:=by subst h1;simp[Zeh] at v4 v5;omega
    exact Ztx hctx h1 e (by subst h1;subst e;exact Ybz v kid)
end
open Go.RowKit
theorem Ybq:(digD 1).length<=1000:=by
 rw[Zdo (by omega),show 1/4294967296=0 by rfl,Zbl]
 decide
theorem Zzv {P:Nat->Prop} (h:∀ e,3<=e->P e):P 1000:=h 1000 (by decide)
theorem Zfx (n:Nat) (F:BF):(tabB n F).count true=(List.range (2^n)).countP fun i=>F (Zeu (Zet i n)):=by
 unfold tabB;rw[List.count_eq_countP,List.countP_map];refine List.countP_congr fun i _=>?_
 simp
theorem Zka {α:Type} (p q:α->Bool):∀ l:List α,l.countP (fun x=>p x && !q x)+l.countP (fun x=>p x&&q x)=l.countP p
 | []=>rfl
 | x::l=>by
   have ih:=Zka p q l;simp only[List.countP_cons];cases p x<;>cases q x<;>simp<;>omega
theorem Ziz {α:Type} (p:α->Bool):∀ l:List α,l.countP p+l.countP (fun x => !p x)=l.length
 | []=>rfl
 | x::l=>by
   have ih:=Ziz p l;simp only[List.countP_cons,List.length_cons];cases p x<;>simp<;>omega
theorem Zoh (n:Nat) (F:BF):wayV n F []=(tabB n F).count true:=by
 unfold wayV;congr 1;congr 1;funext σ;rw[Zr7 (by simp) (by simp)];simp
theorem Ztm {n v:Nat} (hv:v<n) (F:BF) (b:Bool):wayV n F [((v:Int),b)]=(tabB n fun σ=>F σ&&(σ v == b)).count true:=by
 unfold wayV;congr 1;congr 1;funext σ;rw[Zr7 (fun p hp=>by simp at hp;subst hp;exact⟨by omega,by show (v:Int)<n;omega⟩) (by simp)];simp
theorem Zu7 {n v:Nat} (hv:v<n) (F:BF):wayV n F [((v:Int),false)]+wayV n F [((v:Int),true)]=wayV n F []:=by
 rw[Ztm hv,Ztm hv,Zoh,Zfx,Zfx,Zfx,<- Zka (fun i=>F (Zeu (Zet i n))) (fun i=>Zeu (Zet i n) v)];congr 1
 ·
  refine List.countP_congr fun i _=>?_
  cases Zeu (Zet i n) v<;>simp
 ·
  refine List.countP_congr fun i _=>?_
  cases Zeu (Zet i n) v<;>simp
theorem Zms (n:Nat) (F:BF):wayV n F []+wayV n (notF F) []=2^n:=by
 rw[Zoh,Zoh,Zfx,Zfx];have:=Ziz (fun i=>F (Zeu (Zet i n))) (List.range (2^n));rw[List.length_range] at this;exact this
theorem Ztl (n:Nat) (F:BF):wayV n F []<=2^n:=by have:=Zms n F;omega
theorem pow64le {n:Nat} (hn:n<=64):2^n<=18446744073709551616:=by
 have:=Nat.pow_le_pow_right (n:=2) (by omega) hn;exact Nat.le_trans this (by decide)
theorem Zzp {K:Law} (n room:Nat) (w:World) (hn:n<=64) (h1:1<=room) (h2:room<=1048576) :
 Calls Tryz.prog 7 #[.int .i64 n,.int .i64 room] w fun x w'=>∃ mb,x=.returned (.tuple #[.pointer (some ⟨mb,0,none⟩),.int .i64 0])/\∃ o m V,SatE K n (fun l=>l=List.range n) room w mb two 2 w' o m V/\m.waits=[]/\m.d.pool.many=0:=by
 refine(Zxh (F:=K (man0 n room).d (fun _ _=>true)) (fun _=>none) n room w (fun k r h=>by cases h) hn h1 h2).mono ?_;rintro x w1 ⟨mb,o1,rfl,hm0,hc0,hl0,_⟩;exact⟨mb,rfl,o1,man0 n room,fun _ _=>true,⟨hm0,hl0,Zw8 n room hn,by simp[man0,store0],by simp[man0,store0],by simp[man0,store0,pool0],rfl,by simp[man0,two,ef];constructor<;>rfl,ChgX.of_chg hc0 NoB⟩,rfl,rfl⟩
section
variable {K:Law} {n room:Nat} {w0 w w':World} {mb:Nat} {fs:List (Int×BF)} {nx:Int} {ws0:List Ev} {ns:List (Value×Nat)}
theorem Zjo {n:Nat} {ls:List (Int×Bool)} (h1:∀ p∈ls,0<=p.1/\p.1<(n:Int)) (h2:(ls.map (·.1)).Nodup):Zhs n ls=0:=by
 unfold Zhs;rw[if_pos h1,if_pos h2]
theorem StK.ways (h:StK K n room w0 mb fs nx ws0 ns w) {k:Int} {G:BF} (hf:(k,G)∈fs) {ls:List (Int×Bool)} {a:Option Addr} {c:Nat} (hls:Zfu w a ls) (hl:Zhs n ls=0) :
 Calls Tryz.prog 10 #[.pointer (some ⟨mb,0,none⟩),.int .i64 k,.slice a ls.length c] w fun x w'=>∃ v,x=.returned (.tuple #[v,.int .i64 0])/\StK K n room w0 mb fs nx ws0 (ns++[(v,wayV n G ls)]) w' :=
 h.askN (R:=fun x v=>x=.returned (.tuple #[v,.int .i64 0])) fun o m V hs=>(Zqd (c:=c) hs hf hls).mono fun x w' ⟨av,l,v,h1,_,h3,h4⟩=>⟨_,by rw[h1,hl],h3 hl,h4⟩
theorem Zvo {W:World} {u v:Value} {x y:Nat} (hu:NatV W u x) (hv:NatV W v y) (hx:x<=18446744073709551616) (hy:y<=18446744073709551616) {T:World} (hT:T=W.alloc (.cells #[u,v] 40)) :
 Calls Tryz.prog 12 #[.slice (some ⟨W.heap.size,0,none⟩) 2 2] T fun e w'=>∃ v',e=.returned v'/\NatV w' v' (x+y)/\Below W.heap.size W w':=by
 subst hT;have hb:=Zaf W (.cells #[u,v] 40);have hrow:=heap_alloc_new W (.cells #[u,v] 40)
 have hargs:Zq0 (W.alloc (.cells #[u,v] 40)) (some ⟨W.heap.size,0,none⟩) [x,y]:=⟨by simp,fun k hk=>by
  rcases(show k=0\/k=1 by simp at hk;omega) with rfl|rfl
  ·
   exact⟨_,0,u,rfl,by rw[cell_of_row _ _ 0 _ _ _ hrow];rfl,hu.below hb⟩
  ·
   exact⟨_,0,v,rfl,by rw[cell_of_row _ _ 1 _ _ _ hrow];rfl,hv.below hb⟩⟩
 refine(Zlx (c:=2) hargs (by
  have e:[x,y].sum=x+y:=by simp
  rw[e];exact Zzv (P:=fun e=>x+y<4294967296^e) fun e he=>Nat.lt_of_lt_of_le (show x+y<4294967296^3 by omega) (Nat.pow_le_pow_right (by omega) he))).mono ?_
 rintro e w' ⟨⟨v',rfl,h1⟩,h2⟩;have e:[x,y].sum=x+y:=by simp
 rw[e] at h1;exact⟨v',rfl,h1,hb.trans (h2.mono hb.size)⟩
theorem Zpr (w:World):Zfu w none []:=⟨by simp,fun k hk=>by simp at hk⟩
theorem Zsm (w:World) (v:Int) (b:Bool):Zfu (w.alloc (.cells #[.int .i64 v,.bool b] 44)) (some ⟨w.heap.size,0,none⟩) [(v,b)]:=⟨by simp,fun k hk=>by
 obtain rfl:k=0:=by simp at hk;omega
 have g:=heap_alloc_new w (.cells #[.int .i64 v,.bool b] 44);exact⟨w.heap.size,0,rfl,by rw[cell_of_row _ _ _ _ _ _ g];rfl,by rw[cell_of_row _ _ _ _ _ _ g];rfl⟩⟩
end
end Go.Proofs.YtlgogjbkadckkaaGreat

namespace Go.Proofs.YtlgogjbkadckkaaGreat
open Go.RowKit Go.Deep Go.ChangeShapes Go.WideShapes
theorem wfI {x:Int} (h:(Lit.int .i64 x).wf=true):okI x:=by
 unfold okI;simp only[Lit.wf,IntKind.min,IntKind.max,IntKind.signed,IntKind.bits,Bool.and_eq_true,decide_eq_true_eq,if_true] at h;omega
theorem Zm0 {b off:Nat} (k:Nat):(⟨b,off,none⟩:Addr).add k=⟨b,off+k,none⟩:=by unfold Addr.add;split<;>simp_all
theorem add0 (a:Addr):a.add 0=a:=by simp[Addr.add]
theorem Zf1 {w:World} {a:Addr} {v:Value} (h:w.cell? a=some v):a.spot=none:=by
 obtain⟨b,off,spot⟩:=a;cases spot with
 | none=>rfl
 | some s=>simp[World.cell?] at h;split at h<;>simp at h
theorem Zvx {n:Nat} {p:Nat->Ev->Prop} (h:∀ i,i<n->∃ x,p i x):∃ f:Nat->Ev,∀ i,i<n->p i (f i):=by
 classical
 refine⟨fun i=>if hi:i<n then Classical.choose (h i hi) else ⟨0,0,0⟩,fun i hi=>?_⟩;simp only[dif_pos hi];exact Classical.choose_spec (h i hi)
theorem Znt {H:Type} {enc:TypeId×Value->H} {P:Program} {w:World} {base:Nat} {spare:Nat->Bool} {held:Bool} {t e:TypeId} {fuel:Nat} {cs:List Value} {x:DataW H×List MemPlace} (ht:P.underlying t=some (.slice e)) (h:DataW.trod enc P w base spare held fuel t cs=some x) :
 cs=[.slice none 0 0]\/∃ (a:Addr) (len cap n:Nat),cs=[.slice (some a) len cap]/\len<=cap/\cap<=maxLen/\fuel=n+1/\∀ i,i<len->∃ cs' y,w.cells? base (a.add (i*P.cellsOf e)) (P.cellsOf e)=some cs'/\DataW.trod enc P w base spare held n e cs'=some y:=by
 rcases DataW.trod_slice ht h with ⟨h0,_⟩|⟨a,len,cap,elems,rest,n,hn,e1,_,_,hl,hm,hlen,hel,_⟩
 ·
  exact .inl h0
 ·
  refine .inr ⟨a,len,cap,n,e1,hl,hm,hn,fun i hi=>?_⟩;have:=hel i hi;rw[List.getElem?_eq_getElem (by omega)] at this;obtain⟨cs',h1,h2⟩:=Option.bind_eq_some_iff.1 this;exact⟨cs',_,h1,h2⟩
theorem open_expr {H:Type} {enc:TypeId×Value->H} {w:World} {base:Nat} {spare:Nat->Bool} {held:Bool}:∀ (fuel:Nat) {cs:List Value} {x:DataW H×List MemPlace},
 DataW.trod enc Tryz.prog w base spare held fuel 36 cs=some x->∃ e x0 x1 x2,cs=[x0,x1,x2]/\Za4 w e (.agg #[x0,x1,x2]):=by
 intro fuel
 induction fuel using Nat.strongRecOn with
 | _ fuel IH =>
   intro cs x h;obtain⟨xs,k,hk,hxy,hcl,hxl,hf⟩:=DataW.trod_struct Tryz.underlying36 h;have c1:Tryz.prog.cellsOf 3=1:=by kernel_rfl
   have c2:Tryz.prog.cellsOf 23=1:=by kernel_rfl
   have c3:Tryz.prog.cellsOf 36=3:=by kernel_rfl
   rw[c3] at hcl
   match xs,hxl,cs,hcl with
   | [y0,y1,y2],_,[v0,v1,v2],_ =>
     have g0:=hf 0 _ rfl;have g1:=hf 1 _ rfl;have g2:=hf 2 _ rfl;simp[c1,c2] at g0 g1 g2;obtain⟨n0,e0,_,w0⟩:=DataW.trod_int Tryz.underlying3 g0;obtain⟨n1,e1,_,w1⟩:=DataW.trod_int Tryz.underlying3 g1;simp only[List.cons.injEq,and_true] at e0 e1;subst e0 e1;rcases Znt Tryz.underlying23 g2 with e2|⟨a,len,cap,n,e2,hl,hm,hkn,hx⟩
     ·
      simp only[List.cons.injEq,and_true] at e2;subst e2;exact⟨.mk n0 n1 0 (fun _=>.nil),_,_,_,rfl,by unfold Za4;exact⟨none,0,rfl,wfI w0,wfI w1,by omega,fun k hk=>by omega⟩⟩
     ·
      simp only[List.cons.injEq,and_true] at e2;subst e2;have each:∀ i,i<len->∃ q:ExT,∃ x0 x1 x2,w.cell? (a.add (i*3))=some x0/\w.cell? ((a.add (i*3)).add 1)=some x1/\w.cell? ((a.add (i*3)).add 2)=some x2/\Za4 w q (.agg #[x0,x1,x2]):=by
       intro i hi;obtain⟨cs',y,h1,h2⟩:=hx i hi;rw[c3] at h1;obtain⟨_,hlen,hcell⟩:=World.cells?_some h1;obtain⟨e,x0,x1,x2,rfl,he⟩:=IH n (by omega) h2;have f0:=hcell 0 (by omega);have f1:=hcell 1 (by omega);have f2:=hcell 2 (by omega);rw[add0] at f0;exact⟨e,x0,x1,x2,by simpa using f0,by simpa using f1,by simpa using f2,he⟩
      obtain⟨q,hq⟩:=choose_lt each;refine⟨.mk n0 n1 len q,_,_,_,rfl,?_⟩;unfold Za4;refine⟨some a,cap,rfl,wfI w0,wfI w1,by unfold maxLen at hm;omega,fun i hi=>?_⟩;obtain⟨x0,x1,x2,f0,f1,f2,he⟩:=hq i hi;have hsp:a.spot=none:=by
       obtain⟨_,_,_,q0,_⟩:=hq 0 (by omega);have:=Zf1 q0;simpa [Addr.add] using this
      obtain⟨b,off,spot⟩:=a;dsimp only at hsp;subst hsp;simp only[Zm0] at f0 f1 f2;exact⟨b,off,x0,x1,x2,rfl,f0,f1,f2,he⟩
theorem Zur {H:Type} {enc:TypeId×Value->H} {w:World} {base:Nat} {spare:Nat->Bool} {held:Bool} {fuel:Nat} {cs:List Value} {x:DataW H×List MemPlace}
 (h:DataW.trod enc Tryz.prog w base spare held fuel 23 cs=some x):∃ a l cap,cs=[.slice a l.length cap]/\Zjw w a l:=by
 have c3:Tryz.prog.cellsOf 36=3:=by kernel_rfl
 rcases Znt Tryz.underlying23 h with e2|⟨a,len,cap,n,e2,hl,hm,hkn,hx⟩
 ·
  exact⟨none,[],0,e2,⟨by simp,fun k hk=>by simp at hk⟩⟩
 ·
  subst e2;have each:∀ i,i<len->∃ q:ExT,∃ x0 x1 x2,w.cell? (a.add (i*3))=some x0/\w.cell? ((a.add (i*3)).add 1)=some x1/\w.cell? ((a.add (i*3)).add 2)=some x2/\Za4 w q (.agg #[x0,x1,x2]):=by
   intro i hi;obtain⟨cs',y,h1,h2⟩:=hx i hi;rw[c3] at h1;obtain⟨_,hlen,hcell⟩:=World.cells?_some h1;obtain⟨e,x0,x1,x2,rfl,he⟩:=open_expr n h2;have f0:=hcell 0 (by omega);have f1:=hcell 1 (by omega);have f2:=hcell 2 (by omega);rw[add0] at f0;exact⟨e,x0,x1,x2,by simpa using f0,by simpa using f1,by simpa using f2,he⟩
  obtain⟨q,hq⟩:=choose_lt each;refine⟨some a,(List.range len).map q,cap,by simp,⟨by unfold maxLen at hm;simp;omega,fun i hi=>?_⟩⟩;have hi':i<len:=by simpa using hi
  obtain⟨x0,x1,x2,f0,f1,f2,he⟩:=hq i hi';have hsp:a.spot=none:=by
   obtain⟨_,_,_,q0,_⟩:=hq 0 (by omega);have:=Zf1 q0;simpa [Addr.add] using this
  obtain⟨b,off,spot⟩:=a;dsimp only at hsp;subst hsp;simp only[Zm0] at f0 f1 f2;exact⟨b,off,x0,x1,x2,rfl,f0,f1,f2,by simpa using he⟩
theorem open_evs {H:Type} {enc:TypeId×Value->H} {w:World} {base:Nat} {spare:Nat->Bool} {held:Bool} {fuel:Nat} {cs:List Value} {x:DataW H×List MemPlace}
 (h:DataW.trod enc Tryz.prog w base spare held fuel 24 cs=some x):∃ a l cap,cs=[.slice a l.length cap]/\EvsAt w a l/\(∀ ev∈l,okI ev.after/\okI ev.kind/\okI ev.level)/\(a=none->cap=0)/\l.length<=cap/\cap<=maxLen:=by
 have c1:Tryz.prog.cellsOf 3=1:=by kernel_rfl
 have c3:Tryz.prog.cellsOf 73=3:=by kernel_rfl
 rcases Znt Tryz.underlying24 h with e2|⟨a,len,cap,n,e2,hl,hm,hkn,hx⟩
 ·
  exact⟨none,[],0,e2,⟨by simp,fun k hk=>by simp at hk⟩,by simp,fun _=>rfl,by simp,by simp⟩
 ·
  subst e2;have each:∀ i,i<len->∃ q:Ev,w.cell? (a.add (i*3))=some (.int .i64 q.after)/\w.cell? ((a.add (i*3)).add 1)=some (.int .i64 q.kind)/\w.cell? ((a.add (i*3)).add 2)=some (.int .i64 q.level)/\okI q.after/\okI q.kind/\okI q.level:=by
   intro i hi;obtain⟨cs',y,h1,h2⟩:=hx i hi;rw[c3] at h1;obtain⟨_,hlen,hcell⟩:=World.cells?_some h1;obtain⟨xs,k,hk,hxy,_,hxl,hf⟩:=DataW.trod_struct Tryz.underlying73 h2
   match xs,hxl,cs',hlen with
   | [y0,y1,y2],_,[v0,v1,v2],_ =>
     have g0:=hf 0 _ rfl;have g1:=hf 1 _ rfl;have g2:=hf 2 _ rfl;simp[c1] at g0 g1 g2;obtain⟨n0,e0,_,w0⟩:=DataW.trod_int Tryz.underlying3 g0;obtain⟨n1,e1,_,w1⟩:=DataW.trod_int Tryz.underlying3 g1;obtain⟨n2,e2,_,w2⟩:=DataW.trod_int Tryz.underlying3 g2;simp only[List.cons.injEq,and_true] at e0 e1 e2;subst e0 e1 e2;have f0:=hcell 0 (by omega);have f1:=hcell 1 (by omega);have f2:=hcell 2 (by omega);rw[add0] at f0;exact⟨⟨n0,n1,n2⟩,by simpa using f0,by simpa using f1,by simpa using f2,wfI w0,wfI w1,wfI w2⟩
  obtain⟨q,hq⟩:=Zvx each;refine⟨some a,(List.range len).map q,cap,by simp,⟨by unfold maxLen at hm;simp;omega,fun i hi=>?_⟩,?_,by simp,by simpa using hl,hm⟩
  ·
   have hi':i<len:=by simpa using hi
   obtain⟨f0,f1,f2,_⟩:=hq i hi';have hsp:a.spot=none:=by
    obtain⟨q0,_⟩:=hq 0 (by omega);have:=Zf1 q0;simpa [Addr.add] using this
   obtain⟨b,off,spot⟩:=a;dsimp only at hsp;subst hsp;simp only[Zm0] at f0 f1 f2;exact⟨b,off,rfl,by simpa using f0,by simpa using f1,by simpa using f2⟩
  ·
   intro ev hev;obtain⟨i,hi,rfl⟩:=List.mem_map.1 hev;exact(hq i (by simpa using hi)).2.2.2
theorem open_ask {H:Type} {enc:TypeId×Value->H} {w:World} {base:Nat} {held:Bool} {fuel:Nat} {v:Value} {cs:Array Value} {x:DataW H×List MemPlace} (hv:v=.agg cs)
 (h:DataW.trod enc Tryz.prog w base (fun _=>true) held fuel 26 v.cells.toList=some x):∃ q ao ae ap co ce cp,v=askV q ao ae ap co ce cp/\AskAt w q ao ae ap/\(∀ ev∈q.plan,okI ev.after/\okI ev.kind/\okI ev.level)/\(ao=none->co=0)/\(ap=none->cp=0)/\q.plan.length<=cp/\cp<=maxLen:=by
 subst hv;obtain⟨xs,k,hk,hxy,hcl,hxl,hf⟩:=DataW.trod_struct Tryz.underlying26 h;have c1:Tryz.prog.cellsOf 3=1:=by kernel_rfl
 have c2:Tryz.prog.cellsOf 22=1:=by kernel_rfl
 have c4:Tryz.prog.cellsOf 23=1:=by kernel_rfl
 have c5:Tryz.prog.cellsOf 24=1:=by kernel_rfl
 have c3:Tryz.prog.cellsOf 26=4:=by kernel_rfl
 rw[c3] at hcl;obtain⟨cl⟩:=cs;simp only[Value.cells] at hcl hf
 match xs,hxl,cl,hcl with
 | [y0,y1,y2,y3],_,[v0,v1,v2,v3],_ =>
   have g0:=hf 0 _ rfl;have g1:=hf 1 _ rfl;have g2:=hf 2 _ rfl;have g3:=hf 3 _ rfl;simp[c1,c2,c4,c5] at g0 g1 g2 g3;obtain⟨n0,e0,_,w0⟩:=DataW.trod_int Tryz.underlying3 g0;simp only[List.cons.injEq,and_true] at e0;subst e0;obtain⟨ao,zs,co,e1,hio,hno⟩:∃ a zs c,v1=.slice a zs.length c/\Zay w a zs/\(a=none->c=0):=by
    rcases open_ints Tryz.underlying22 Tryz.underlying3 (by kernel_rfl) g1 with ⟨hcs,_⟩|⟨x,l,c,zs,hcs,_,hl,hm,hz,_,hcell,hwz⟩
    ·
     simp at hcs;subst hcs;obtain⟨a,c,e,h1,h2⟩:=sliceIs_of_row (w:=w) (a:=none) (len:=0) (cap:=0) (.inl ⟨rfl,rfl,rfl,rfl⟩);exact⟨a,_,c,e,h1,h2⟩
    ·
     simp at hcs;subst hcs;obtain⟨a,c,e,h1,h2⟩:=sliceIs_of_row (w:=w) (.inr ⟨_,rfl,hl,hm,by simpa using hz,hcell,hwz⟩);exact⟨a,_,c,e,h1,h2⟩
   obtain⟨ae,es,ce,e2,hes⟩:=Zur g2;obtain⟨ap,evs,cp,e3,hev,hok,hnp,hlp,hmp⟩:=open_evs g3;simp only[List.cons.injEq,and_true] at e2 e3;subst e1 e2 e3;exact⟨⟨n0,zs,es,evs⟩,ao,ae,ap,co,ce,cp,rfl,⟨wfI w0,hio,hes,hev⟩,hok,hno,hnp,hlp,hmp⟩
end Go.Proofs.YtlgogjbkadckkaaGreat
