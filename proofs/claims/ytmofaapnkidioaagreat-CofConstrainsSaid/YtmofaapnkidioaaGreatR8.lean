/- Several texts in one file: contracts of the program's functions and what follows from them. -/
import Derived.Test.YtmofaapnkidioaaGreatR7
import Derived.Deep.WholeRow
import Derived.Deep.Slices
import Derived.ChangeArms
import Derived.WideShapes
import Derived.ChangeSlices
set_option linter.unusedSimpArgs false
set_option linter.unusedVariables false
set_option linter.unusedSectionVars false
set_option linter.unnecessarySimpa false
set_option maxRecDepth 100000
set_option maxHeartbeats 8000000
namespace Go.Proofs.YtmofaapnkidioaaGreat
open Go.RowKit
theorem Zu0:SatF (andF (varF 0) (varF 1)):=⟨fun _=>true,rfl⟩
theorem Yak:DepF 2 (andF (varF 0) (varF 1)):=fun ρ ρ' h=>by
 show iteB (ρ 0) (ρ 1) false=iteB (ρ' 0) (ρ' 1) false
 rw[h 0 (by omega),h 1 (by omega)]
theorem Yaj:cofF (andF (varF 0) (varF 1)) 0 true=varF 1:=rfl
abbrev S17 (w:World) (mb:Nat) (fs:List (Int×BF)) (nx:Int) (W:World):Prop:=StF Za2 2 400 w mb fs nx [] [] W
def l17A:List (Int×BF):=two++[(2,varF 0)]
def l17B:List (Int×BF):=l17A++[(3,varF 1)]
def l17C:List (Int×BF):=l17B++[(4,andF (varF 0) (varF 1))]
def l17D:List (Int×BF):=l17C++[(5,cofF (andF (varF 0) (varF 1)) 0 true)]
def l17E (R:BF):List (Int×BF):=l17D++[(6,R)]
theorem Zbm (w:World):Calls Tryz.prog 16 #[] w fun x w'=>x=.returned (.bool true)/\Below w.heap.size w w':=by
 have HNEW:=Hd (Zsl (K:=Za2) 2 400 w (by omega) (by omega) (by omega));have HV0:Hid (∀ mb W,S17 w mb two 2 W->Calls Tryz.prog 20 #[.pointer (some ⟨mb,0,none⟩),.int .i64 0] W fun x w'=>x=.returned (.tuple #[.int .i64 2,.int .i64 0])/\S17 w mb l17A 3 w') :=
  Hd fun mb W g=>g.go fun o m V hw hs=>Zxq Zbk hs hw (by omega) (by decide) (v:=0) (by omega)
 have HV1:Hid (∀ mb W,S17 w mb l17A 3 W->Calls Tryz.prog 20 #[.pointer (some ⟨mb,0,none⟩),.int .i64 1] W fun x w'=>x=.returned (.tuple #[.int .i64 3,.int .i64 0])/\S17 w mb l17B 4 w') :=
  Hd fun mb W g=>g.go fun o m V hw hs=>Zxq Zbk hs hw (by omega) (by decide) (v:=1) (by omega)
 have HAN:Hid (∀ mb W,S17 w mb l17B 4 W->Calls Tryz.prog 26 #[.pointer (some ⟨mb,0,none⟩),.slice (some ⟨W.heap.size,0,none⟩) 2 2] (W.alloc (.cells #[.int .i64 2,.int .i64 3] 3)) fun x w'=>x=.returned (.tuple #[.int .i64 4,.int .i64 0])/\S17 w mb l17C 5 w') :=
  Hd fun mb W g=>g.and Zbk (k1:=2) (k2:=3) (F1:=varF 0) (F2:=varF 1) (by simp[l17B,l17A]) (by simp[l17B]) (by omega) (by decide) rfl
 have HCF:Hid (∀ mb W,S17 w mb l17C 5 W->Calls Tryz.prog 19 #[.pointer (some ⟨mb,0,none⟩),.int .i64 4,.slice (some ⟨W.heap.size,0,none⟩) 1 1] (W.alloc (.cells #[.int .i64 0,.bool true] 41)) fun x w'=>x=.returned (.tuple #[.int .i64 5,.int .i64 0])/\S17 w mb l17D 6 w') :=
  Hd fun mb W g=>g.cofactor1 (by omega) (kf:=4) (F:=andF (varF 0) (varF 1)) (by simp[l17C]) (v:=0) (y:=true) (by omega) (by omega) (by decide) rfl
 have HCN:Hid (∀ mb W,S17 w mb l17D 6 W->Calls Tryz.prog 24 #[.pointer (some ⟨mb,0,none⟩),.int .i64 3,.int .i64 4] W fun x w'=>x=.returned (.tuple #[.int .i64 6,.int .i64 0])/\S17 w mb (l17E fun _=>true) 7 w') :=
  Hd fun mb W g=>(g.constrain (by simp[l17D,l17C,l17B,l17A,two]) (kf:=3) (kc:=4) (F:=varF 1) (C:=andF (varF 0) (varF 1)) (by simp[l17D,l17C,l17B]) (by simp[l17D,l17C]) Zu0 (by omega) (by decide)).mono (by
   rintro x w' ⟨q1,R,ord,q2,q3,q4⟩;refine⟨q1,?_⟩;have e:R=fun _=>true:=by
    funext ρ;rw[show R=_ from q2];refine Zi7 ord Zu0 (Zz0 Yak q3) (fun ρ' h=>?_) ρ;have h2:iteB (ρ' 0) (ρ' 1) false=true:=h
    show ρ' 1=true
    cases h0:ρ' 0<;>cases h1:ρ' 1<;>simp_all [iteB]
   rw[e] at q4;exact q4)
 have HRE:Hid (∀ mb W R,S17 w mb (l17E R) 7 W->Calls Tryz.prog 25 #[.pointer (some ⟨mb,0,none⟩),.int .i64 4,.int .i64 0] W fun x w'=>x=.returned (.tuple #[.int .i64 0,.int .i64 20])/\S17 w mb (l17E R) 7 w') :=
  Hd fun mb W R g=>(g.ask fun o m V hs=>Zee hs (kf:=4) (kc:=0) (.inr ⟨rfl,by simp[l17E,l17D,l17C,l17B,l17A,two],⟨andF (varF 0) (varF 1),by simp[l17E,l17D,l17C]⟩,by simp[l17E,l17D,l17C,l17B,l17A,two]⟩)).mono (by
   rintro x w' ⟨q1,q2⟩;exact⟨q1,g.below q2⟩)
 have HS1:Hid (∀ mb W R,S17 w mb (l17E R) 7 W->Calls Tryz.prog 22 #[.pointer (some ⟨mb,0,none⟩),.int .i64 5,.int .i64 3] W fun x w'=>x=.returned (.tuple #[.bool true,.int .i64 0])/\W=w') :=
  Hd fun mb W R g=>Zjk g (k:=5) (l:=3) (F:=cofF (andF (varF 0) (varF 1)) 0 true) (G:=varF 1) (b:=true) (by simp[l17E,l17D]) (by simp[l17E,l17D,l17C,l17B]) (by simp[Yaj])
 have HS2:Hid (∀ mb W,S17 w mb (l17E fun _=>true) 7 W->Calls Tryz.prog 22 #[.pointer (some ⟨mb,0,none⟩),.int .i64 6,.int .i64 1] W fun x w'=>x=.returned (.tuple #[.bool true,.int .i64 0])/\W=w') :=
  Hd fun mb W g=>Zjk g (k:=6) (l:=1) (F:=fun _=>true) (G:=fun _=>true) (b:=true) (by simp[l17E]) (by simp[l17E,l17D,l17C,l17B,l17A,two]) (by simp)
 go_enter Tryz.func16,Tryz.ntmps16
 go_wp2_with fail;refine HNEW.out.mono ?_;rintro x w1 ⟨mb,rfl,o,m,V,hst,hwt,_,hmn⟩;have H1:=Hd (HV0.out mb w1 (StF.of (by rw[hwt];exact List.suffix_refl _) hst (by simp)));clear hst hwt hmn HNEW HV0;go_wp2_with fail;refine H1.out.mono ?_;rintro x w2 ⟨rfl,h2⟩;have H2:=Hd (HV1.out mb w2 h2);clear h2 H1 HV1;go_wp2_with fail;refine H2.out.mono ?_;rintro x w3 ⟨rfl,h3⟩;have H3:=Hd (HAN.out mb w3 h3);clear h3 H2 HAN;go_wp2_with fail;refine H3.out.mono ?_;rintro x w4 ⟨rfl,h4⟩;have H4:=Hd (HCF.out mb w4 h4);clear h4 H3 HCF;go_wp2_with fail;refine H4.out.mono ?_;rintro x w5 ⟨rfl,h5⟩;have H5:=Hd (HCN.out mb w5 h5);clear h5 H4 HCN;go_wp2_with fail;refine H5.out.mono ?_;rintro x w6 ⟨rfl,h6⟩;have H6:=Hd (HRE.out mb w6 _ h6);clear h6 H5 HRE;go_wp2_with fail;refine H6.out.mono ?_;rintro x w7 ⟨rfl,h7⟩;have H7:=Hd h7;have H7a:=Hd (HS1.out _ _ _ h7);have H7b:=Hd (HS2.out _ _ h7);clear h7 H6 HS1 HS2;go_wp2_with fail;refine H7a.out.mono ?_;rintro x w' ⟨rfl,rfl⟩;go_wp2_with fail;refine H7b.out.mono ?_;rintro x w' ⟨rfl,rfl⟩;go_wp2_with fail;go_ret;exact⟨rfl,H7.out.below0⟩
open Go.RowKit
theorem Zi0 {n c:Nat} (hc:c<=100):c*2^n+(2^n+(2^n-1)*2^n)<=Zbn n:=by
 have h1:1<=2^n:=Nat.one_le_two_pow;have h2:2^(2*n)=2^n*2^n:=by rw[Nat.two_mul,Nat.pow_add]
 unfold Zbn;rw[h2]
 generalize 2^n=X at h1
 obtain⟨Y,rfl⟩:∃ Y,X=Y+1:=⟨X-1,by omega⟩;have h3:c*(Y+1)<=100*(Y+1):=Nat.mul_le_mul_right _ hc;simp only[Nat.add_sub_cancel,Nat.mul_add,Nat.add_mul] at h3 ⊢;omega
theorem Zkm {n c:Nat} (hc:c<=100):c*2^n+(2^n-1)*2^n<=Zbn n:=Nat.le_trans (Nat.add_le_add_left (Nat.le_add_left _ _) _) (Zi0 (n:=n) hc)
theorem shannon (F:BF) (j:Nat):Zdu (varF j) (cofF F j true) (cofF F j false)=F:=by
 funext ρ
 show iteB (ρ j) (cofF F j true ρ) (cofF F j false ρ)=F ρ
 cases h:ρ j with
 | true=>exact Zc6 h
 | false=>exact Zc6 h
theorem Zop {R F C:BF} (h:∀ ρ,C ρ=true->R ρ=F ρ):andF R C=andF F C:=by
 funext ρ
 show iteB (R ρ) (C ρ) false=iteB (F ρ) (C ρ) false
 cases hc:C ρ with
 | true=>rw[h ρ hc]
 | false=>cases R ρ<;>cases F ρ<;>rfl
section
variable {K:Law} {n room:Nat} {Od:List Nat->Prop} {w0 w:World} {mb:Nat} {fs:List (Int×BF)} {nx:Int} {o:Own} {m:ManD} {V:Nat->BF}
theorem SatE.ordLt (h:SatE K n Od room w0 mb fs nx w o m V):∀ v∈m.d.vars,v<n:=fun v hv=>by
 obtain⟨i,hi,e⟩:=List.getElem_of_mem hv;have:=(h.ok.store.vlt i hi).1;rw[show m.d.vars.getD i 0=m.d.vars[i] by simp[List.getD,hi],e,h.vars] at this;exact this
theorem SatE.ordNodup (h:SatE K n Od room w0 mb fs nx w o m V):m.d.vars.Nodup:=by
 refine List.pairwise_iff_getElem.2 fun i j hi hj hij e=>?_
 have h1:=(h.ok.store.vlt i hi).2;have h2:=(h.ok.store.vlt j hj).2;rw[show m.d.vars.getD i 0=m.d.vars[i] by simp[List.getD,hi]] at h1;rw[show m.d.vars.getD j 0=m.d.vars[j] by simp[List.getD,hj],<- e] at h2;omega
end
theorem Zpg {n:Nat} {F:BF} (hd:DepF n F) (v:Nat):Zhw n F v=false↔Ind F v:=by
 constructor
 ·
  intro h;refine Zpj ?_;refine Classical.byContradiction fun hne=>?_
  have:=(Zpf hd v).2 hne;rw[h] at this;cases this
 ·
  intro h;cases hb:Zhw n F v with
  | false=>rfl
  | true=>exact absurd (by rw[h,h]) ((Zpf hd v).1 hb)
open Go.RowKit
theorem Zrn {w:World} {a:Option Addr} {c:Nat} {ls:List (Int×Bool)} (n:Nat) (hz:Zdw w a ls) :
 Calls Tryz.prog 42 #[.slice a ls.length c,.int .i64 n] w fun x w'=>x=.returned (.int .i64 (Zet n ls))/\Below w.heap.size w w':=by
 have hzl:=hz.len;have HZ:=Hd hz;obtain⟨P,hP⟩:∃ P:Ending->World->Prop,P=fun x w'=>x=.returned (.int .i64 (Zet n ls))/\Below w.heap.size w w':=⟨_,rfl⟩
 have HEND:Hid (∀ z W',Zet n ls=z->Below w.heap.size w W'->P (.returned (.int .i64 z)) W'):=Hd fun z W' hz hb'=>by
  rw[hP];exact⟨by rw[hz],hb'⟩
 have HB0:Hid (Below w.heap.size w w):=Hd (Below.refl _ _);rw[<- hP];clear hP hz
 go_enter Tryz.func42,Tryz.ntmps42
 go_wp2_with fail
 go_loopw [4,5] (fun _ s5 wr=>∃ j:Nat,j<=ls.length/\s5=.int .i64 j/\Hid (Below w.heap.size w wr)/\Hid (∀ q,∀ hq:q<ls.length,q<j->0<=ls[q].1/\ls[q].1<(n:Int))) (fun _ s5 _=>ls.length-(intOf s5).toNat)
 case atStart=>exact⟨0,Nat.zero_le _,rfl,HB0,Hd fun q hq h=>by omega⟩
 case round =>
  clear HB0;obtain⟨j,hj,rfl,HBR,HRG⟩:=hrel
  by_cases hlt:j<ls.length
  ·
   have hjz:(j:Int)<(ls.length:Int):=by omega
   obtain⟨b,off,rfl,ck0,ck1⟩:=HZ.out.cells j hlt;have d0:=(HBR.out.cell (p:=⟨b,off+j*2,none⟩) (Zaa ck0)).trans ck0;have HRG2:Hid (0<=ls[j].1->ls[j].1<(n:Int)->∀ q,∀ hq:q<ls.length,q<j+1->0<=ls[q].1/\ls[q].1<(n:Int)):=Hd fun h1 h2 q hq hqj=>by
    rcases Nat.lt_or_ge q j with c|c
    ·
     exact HRG.out q hq c
    ·
     obtain rfl:q=j:=by omega
     exact⟨h1,h2⟩
   have HIN:=Hd (List.getElem_mem hlt);obtain⟨p,hp⟩:∃ p,p=ls[j]:=⟨_,rfl⟩;rw[<- hp] at d0 HIN HRG2;obtain⟨pv,py⟩:=p;dsimp only at d0 HRG2;clear hp ck0 ck1 HRG
   by_cases h0:pv<0
   ·
    have HF:=Hd (HEND.out 9 wr (if_neg fun hh=>by have:=hh _ HIN.out;dsimp only at this;omega) HBR.out);clear HRG2 HIN;go_wp2_with fail;exact HF.out
   by_cases h1:pv>=(n:Int)
   ·
    have HF:=Hd (HEND.out 9 wr (if_neg fun hh=>by have:=hh _ HIN.out;dsimp only at this;omega) HBR.out);clear HRG2 HIN;go_wp2_with fail;exact HF.out
   have HRG3:=Hd (HRG2.out (by omega) (by omega));clear HRG2 HIN;go_wp2_with fail;go_roundw
   case rel=>exact⟨j+1,by omega,by go_num,HBR,HRG3⟩
   case measure=>simp[intOf];omega
  ·
   obtain rfl:j=ls.length:=by omega
   have hjz:¬ (ls.length:Int)<(ls.length:Int):=by omega
   have HR:Hid (Zet n ls=if (ls.map (·.1)).Nodup then 0 else 6):=Hd (if_pos fun p hp=>by
    obtain⟨q,hq,rfl⟩:=List.getElem_of_mem hp;exact HRG.out q hq hq)
   have HN0:Hid (((ls.take 0).map (·.1)).Nodup):=Hd (by simp);clear HRG;go_wp2_with fail
   go_loopw [4,6,7] (fun _ s6 _ wr=>∃ i:Nat,i<=ls.length/\s6=.int .i64 i/\Hid (Below w.heap.size w wr)/\Hid (((ls.take i).map (·.1)).Nodup)) (fun _ s6 _ _=>ls.length-(intOf s6).toNat)
   case atStart=>exact⟨0,Nat.zero_le _,rfl,HBR,HN0⟩
   case round =>
    clear HBR HN0;obtain⟨i,hi,rfl,HBR,HN⟩:=hrel
    by_cases hlt:i<ls.length
    ·
     have hiz:(i:Int)<(ls.length:Int):=by omega
     go_wp2_with fail
     go_loopw [4,7] (fun _ s7 wr=>∃ k:Nat,k<=i/\s7=.int .i64 k/\Hid (Below w.heap.size w wr)/\Hid (∀ q,∀ hq:q<k,∀ h2:q<ls.length,ls[q].1≠ls[i].1)) (fun _ s7 _=>i-(intOf s7).toNat)
     case atStart=>exact⟨0,Nat.zero_le _,rfl,HBR,Hd fun q hq=>by omega⟩
     case round =>
      clear HBR;obtain⟨k,hk,rfl,HBR,HNO⟩:=hrel
      by_cases hki:k<i
      ·
       have hkz:(k:Int)<(i:Int):=by omega
       have hkz2:(k:Int)<(ls.length:Int):=by omega
       obtain⟨b,off,rfl,c0,c0'⟩:=HZ.out.cells i hlt;obtain⟨b',off',e1,c1,c1'⟩:=HZ.out.cells k (by omega);injection e1 with e1
       injection e1 with e1 e2
       subst e1;subst e2
       have d0:wr.drew.cell? ⟨b,off+i*2,none⟩=some (.int .i64 ls[i].1):=(HBR.out.cell (p:=⟨b,off+i*2,none⟩) (Zaa c0)).trans c0;have d1:wr.drew.cell? ⟨b,off+k*2,none⟩=some (.int .i64 ls[k].1):=(HBR.out.cell (p:=⟨b,off+k*2,none⟩) (Zaa c1)).trans c1;obtain⟨x,hx⟩:∃ x,x=ls[i].1:=⟨_,rfl⟩;obtain⟨y,hy⟩:∃ y,y=ls[k].1:=⟨_,rfl⟩;rw[<- hx] at d0;rw[<- hy] at d1;have HXY:Hid (x=y->¬ (ls.map (·.1)).Nodup):=Hd fun e hnd=>by
        have:=List.pairwise_iff_getElem.1 hnd k i (by simp;omega) (by simp;omega) hki;simp only[List.getElem_map] at this;exact this (by rw[<- hy,<- hx,e])
       have HXN:Hid (x≠y->∀ q,∀ hq:q<k+1,∀ h2:q<ls.length,ls[q].1≠ls[i].1):=Hd fun e q hq h2=>by
        rcases Nat.lt_or_ge q k with c|c
        ·
         exact HNO.out q c h2
        ·
         obtain rfl:q=k:=by omega
         rw[<- hy,<- hx];exact fun h=>e h.symm
       have HB2:Hid (Below w.heap.size w wr.drew):=Hd (HBR.out.trans ((Zag wr 1).mono HBR.out.size));have HSIX:Hid (x=y->P (.returned (.int .i64 6)) wr.drew):=Hd fun e=>HEND.out 6 wr.drew (by rw[HR.out,if_neg (HXY.out e)]) HB2.out
       clear c0 c0' c1 c1' hx hy HXY HNO HBR HN HEND;go_upto_region 12 with fail;refine Zf7 [0,1,2,3,4,5,6,7,8,9,10] (fun W'=>W'=wr.drew) (fun ch w'=>False) (fun c a w hd h=>h.elim) (by kernel_rfl) rfl ?_
       iterate 11
        refine Zed rfl rfl (by kernel_rfl) ?_;apply Exists.intro;refine⟨fun w' hw=>?_,?_⟩
        ·
         obtain rfl:=hw;go_simp;rfl
        simp only[Zaf]
       refine Zlk (by kernel_rfl) ?_;clear d0 d1
       by_cases he:x=y
       ·
        have HF:=Hd (HSIX.out he);have hb:(y == x)=true:=by simpa using he.symm
        clear HSIX HXN he;go_wp2_with fail;exact HF.out
       ·
        have HN2:=Hd (HXN.out he);have hb:(y == x)=false:=by simpa using fun h=>he h.symm
        clear HSIX HXN he;go_wp2_with fail;go_roundw
        case rel=>exact⟨k+1,by omega,by go_num,HB2,HN2⟩
        case measure=>simp[intOf];omega
      ·
       obtain rfl:k=i:=by omega
       have hkz:¬ (k:Int)<(k:Int):=by omega
       have HN2:Hid (((ls.take (k+1)).map (·.1)).Nodup):=Hd (by
        rw[List.take_succ_eq_append_getElem hlt,List.map_append,List.map_cons,List.map_nil,Zmy];refine⟨HN.out,fun hm=>?_⟩;obtain⟨p,hp,e2⟩:=List.mem_map.1 hm;obtain⟨q,hq,e3⟩:=List.mem_iff_getElem.1 hp;have hq2:q<k:=by simp at hq;omega
        rw[List.getElem_take] at e3;exact HNO.out q hq2 (by omega) (by rw[e3,e2]))
       clear HNO HN;go_wp2_with fail;go_roundw
       case rel=>exact⟨k+1,by omega,by go_num,HBR,HN2⟩
       case measure=>simp[intOf];omega
    ·
     obtain rfl:i=ls.length:=by omega
     have hiz:¬ (ls.length:Int)<(ls.length:Int):=by omega
     have HF:=Hd (HEND.out 0 wr (by rw[HR.out,if_pos (by have:=HN.out;rwa [List.take_length] at this)]) HBR.out);clear HN;go_wp2_with fail;exact HF.out
theorem Zll {w:World} (n:Nat) (hn:n<=16) (F:BF) {au a:Option Addr} {cu c:Nat} {ls:List (Int×Bool)} (h1:Zbs w au (tabB n F)) (hnone:au=none->cu=0) (hz:Zdw w a ls) (hall:∀ p∈ls,0<=p.1/\p.1<(n:Int)) :
 Calls Tryz.prog 43 #[.slice au (2^n) cu,.slice a ls.length c] w fun x w'=>∃ v,x=.returned v/\Zbt w' v (tabB n (Zcm ls F))/\Below w.heap.size w w':=by
 have hzl:=hz.len;have HZ:=Hd hz;have HALL:=Hd hall;obtain⟨L,hL⟩:∃ L,L=2^n:=⟨_,rfl⟩;obtain⟨P,hP⟩:∃ P:Ending->World->Prop,P=fun x w'=>∃ v,x=.returned v/\Zbt w' v (tabB n (Zcm ls F))/\Below w.heap.size w w':=⟨_,rfl⟩
 have HCF:Hid (∀ W G v y (au:Option Addr) (cu:Nat),v<n->Zbs W au (tabB n G)->Calls Tryz.prog 103 #[.slice au L cu,.int .i64 (v:Nat),.bool y] W fun x w'=>∃ g,x=.returned (.slice (some ⟨g,0,none⟩) L L)/\Zbs w' (some ⟨g,0,none⟩) (tabB n (cofF G v y))/\Below W.heap.size W w'):=Hd fun W G v y au cu hv hb=>by
  rw[hL];refine(Zm3 n G v y hn hv au cu W hb).mono ?_;rintro x w' ⟨g,rfl,h2,h3⟩;obtain⟨a2,c2,e,h4,_⟩:=h2;injection e with e1 e2 e3
  exact⟨g,rfl,by rw[e1];exact h4,h3⟩
 have HEND:Hid (∀ (au:Option Addr) (cu:Nat) W,(au=none->cu=0)->Zbs W au (tabB n (Zcm ls F))->Below w.heap.size w W->P (.returned (.slice au L cu)) W):=Hd fun au cu W h0 h2 h3=>by
  rw[hP];exact⟨_,rfl,⟨au,cu,by rw[Za4,hL],h2,h0⟩,h3⟩
 have HB0:Hid (Below w.heap.size w w):=Hd (Below.refl _ _);have HT0:Hid (Zbs w au (tabB n (Zcm (ls.take 0) F))):=Hd h1;have HAN:Hid (au=none->cu=0):=Hd hnone;rw[<- hL,<- hP];clear hP hL hz hall h1 hnone
 go_enter Tryz.func43,Tryz.ntmps43
 go_wp2_with fail
 go_loopw [0,5] (fun s0 s5 wr=>∃ (j:Nat) (av:Option Addr) (cv:Nat),j<=ls.length/\s5=.int .i64 j/\s0=.slice av L cv/\Hid (av=none->cv=0)/\Hid (Zbs wr av (tabB n (Zcm (ls.take j) F)))/\Hid (Below w.heap.size w wr)) (fun _ s5 _=>ls.length-(intOf s5).toNat)
 case atStart=>exact⟨0,au,cu,Nat.zero_le _,rfl,rfl,HAN,HT0,HB0⟩
 case round =>
  clear HT0 HB0 HAN;obtain⟨j,av,cv,hj,rfl,rfl,HAN,HT,HBR⟩:=hrel
  by_cases hlt:j<ls.length
  ·
   have hjz:(j:Int)<(ls.length:Int):=by omega
   obtain⟨b,off,rfl,ck0,ck1⟩:=HZ.out.cells j hlt;have d0:wr.drew.cell? ⟨b,off+j*2,none⟩=some (.int .i64 ls[j].1):=(HBR.out.cell (p:=⟨b,off+j*2,none⟩) (Zaa ck0)).trans ck0;have d1:wr.drew.cell? ⟨b,off+j*2+1,none⟩=some (.bool ls[j].2):=(HBR.out.cell (p:=⟨b,off+j*2+1,none⟩) (Zaa ck1)).trans ck1;have HTK:Hid (Zcm (ls.take (j+1)) F=cofF (Zcm (ls.take j) F) ls[j].1.toNat ls[j].2):=Hd (by rw[List.take_succ_eq_append_getElem hlt,Zhk]);have HIN:=Hd (HALL.out _ (List.getElem_mem hlt));obtain⟨p,hp⟩:∃ p,p=ls[j]:=⟨_,rfl⟩;rw[<- hp] at d0 d1 HTK HIN;obtain⟨pv,py⟩:=p;dsimp only at d0 d1 HTK HIN;obtain⟨vn,hvn⟩:∃ vn:Nat,pv=(vn:Int):=⟨pv.toNat,by have:=HIN.out.1;omega⟩;subst hvn;rw[Int.toNat_natCast] at HTK;have HB2:Hid (Below w.heap.size w wr.drew):=Hd (HBR.out.trans ((Zag wr 1).mono HBR.out.size));have HC:=Hd (HCF.out wr.drew (Zcm (ls.take j) F) vn py av cv (by have:=HIN.out.2;omega) (HT.out.below (Zag wr 1)));clear hp ck0 ck1 HT HBR HAN HIN;go_upto_region 4 with fail;refine Zf7 [0,1,2,3,4,5,6,7,8,9,10,11,12] (fun W=>W.cell? ⟨b,off+j*2,none⟩=some (.int .i64 (vn:Nat))/\W.cell? ⟨b,off+j*2+1,none⟩=some (.bool py)) (fun ch w'=>False) (fun c a w hd h=>h.elim) (by kernel_rfl) ⟨d0,d1⟩ ?_
   iterate 11
    refine Zed rfl rfl (by kernel_rfl) ?_;apply Exists.intro;refine⟨fun w' hw=>?_,?_⟩
    ·
     obtain⟨q1,q2⟩:=hw;go_simp;rfl
    simp only[Zaf]
   refine Zfh (R1:=fun u w'=>∃ g,u=.slice (some ⟨g,0,none⟩) L L/\Zbs w' (some ⟨g,0,none⟩) (tabB n (cofF (Zcm (ls.take j) F) vn py))/\Below wr.drew.heap.size wr.drew w') rfl (by kernel_rfl) rfl rfl (by go_simp) (HC.out.mono fun x w' ⟨g,h1,h2⟩=>⟨_,h1,g,rfl,h2⟩) (fun u w' ⟨_,_,_,h⟩=>⟨(h.cell (p:=⟨b,off+j*2,none⟩) (Zaa d0)).trans d0,(h.cell (p:=⟨b,off+j*2+1,none⟩) (Zaa d1)).trans d1⟩) ?_;rintro u w3 hS3 ⟨g,rfl,hg,hb3⟩;have HT3:Hid (Zbs w3 (some ⟨g,0,none⟩) (tabB n (Zcm (ls.take (j+1)) F))):=Hd (by rw[HTK.out];exact hg);have HB3:Hid (Below w.heap.size w w3):=Hd (HB2.out.trans (hb3.mono HB2.out.size));clear hS3 hg hb3 HC HB2 HTK d0 d1;simp only[Zaf];refine Zed rfl rfl (by kernel_rfl) ?_;apply Exists.intro;refine⟨fun w' hw=>?_,?_⟩
   ·
    clear hw;go_simp;rfl
   simp only[Zaf];refine Zlk (by kernel_rfl) ?_;go_wp2_with fail;go_roundw
   case rel=>exact⟨j+1,some ⟨g,0,none⟩,L,by omega,by go_num,rfl,Hd (fun e=>by cases e),HT3,HB3⟩
   case measure=>simp[intOf];omega
  ·
   obtain rfl:j=ls.length:=by omega
   have hjz:¬ (ls.length:Int)<(ls.length:Int):=by omega
   have HF:=Hd (HEND.out av cv wr HAN.out (by have:=HT.out;rwa [List.take_length] at this) HBR.out);clear HT HAN HBR;go_wp2_with fail;exact HF.out
open Go.RowKit
def Zdd (n:Nat) (C:BF) (P:List (Int×Bool)):List Nat:=(List.range (2^n)).filter fun k=>C (Zbi (Zbg k n))&&P.all fun p=>bitB k p.1.toNat == p.2
theorem Zgv {n:Nat} {C:BF} {P:List (Int×Bool)} {k:Nat}:k∈Zdd n C P↔k<2^n/\C (Zbi (Zbg k n))=true/\∀ p∈P,bitB k p.1.toNat=p.2:=by
 unfold Zdd;rw[List.mem_filter,List.mem_range,Bool.and_eq_true,List.all_eq_true];simp only[beq_iff_eq]
theorem Zwt:∀ {l:List (Int×Bool)} {ρ:Nat->Bool} {p:Int×Bool},l.Pairwise (fun p q=>p.1.toNat≠q.1.toNat)->p∈l->ovr l ρ p.1.toNat=p.2
 | [],_,_,_,h=>by simp at h
 | q::l,ρ,p,hp,h=>by
   obtain⟨h1,h2⟩:=List.pairwise_cons.1 hp
   show upd (ovr l ρ) q.1.toNat q.2 p.1.toNat=p.2
   rcases List.mem_cons.1 h with rfl|h
   ·
    exact Zej _ _ _
   ·
    rw[Ze7 _ _ (fun e=>h1 p h e.symm)];exact Zwt h2 h
theorem Zso:∀ {l:List (Int×Bool)} {ρ:Nat->Bool},(∀ p∈l,ρ p.1.toNat=p.2)->ovr l ρ=ρ
 | [],_,_=>rfl
 | p::l,ρ,h=>by
   show upd (ovr l ρ) p.1.toNat p.2=ρ
   rw[Zso fun q hq=>h q (List.mem_cons_of_mem _ hq)];funext u
   by_cases e:u=p.1.toNat
   ·
    rw[e,Zej];exact(h p (List.mem_cons_self ..)).symm
   ·
    exact Ze7 _ _ e
structure Zkr (n:Nat) (C:BF) (ρ:Nat->Bool) (ord:List Nat) (j:Nat) (P:List (Int×Bool)):Prop where
 keys:P.map (·.1)=(ord.take j).map Int.ofNat
 sat:SatF (Zcm P C)
 eq:∀ F,constrF ord F C ρ=constrF (ord.drop j) (Zcm P F) (Zcm P C) ρ
theorem Zt6 {n:Nat} {C:BF} {ρ:Nat->Bool} {ord:List Nat} (h:SatF C):Zkr n C ρ ord 0 []:=⟨by simp,h,fun F=>rfl⟩
theorem Zkr.pair {n:Nat} {C:BF} {ρ:Nat->Bool} {ord:List Nat} {j:Nat} {P:List (Int×Bool)} (h:Zkr n C ρ ord j P) (hnd:ord.Nodup):P.Pairwise fun p q=>p.1.toNat≠q.1.toNat:=by
 refine Zlj (fun p hp=>?_) ?_
 ·
  have:p.1∈P.map (·.1):=List.mem_map.2 ⟨p,hp,rfl⟩;rw[h.keys] at this;obtain⟨v,_,e⟩:=List.mem_map.1 this;rw[<- e];exact Int.natCast_nonneg v
 ·
  rw[h.keys];refine List.pairwise_map.2 ((hnd.sublist (List.take_sublist j ord)).imp fun hne e=>hne ?_);exact Int.ofNat.inj e
theorem Zpz {n:Nat} {C:BF} {P:List (Int×Bool)} (hd:DepF n C) (hp:P.Pairwise fun p q=>p.1.toNat≠q.1.toNat) (hv:∀ p∈P,p.1.toNat<n):SatF (Zcm P C)↔∃ k,k∈Zdd n C P:=by
 constructor
 ·
  rintro⟨ρ,hρ⟩;obtain⟨k,hk,hb⟩:=Zu3 n (ovr P ρ);refine⟨k,Zgv.2 ⟨hk,?_,fun p hpp=>?_⟩⟩
  ·
   rw[<- hρ];refine hd _ _ fun v hvn=>?_
   rw[Zeb,hb v hvn];simp[hvn]
  ·
   rw[hb _ (hv p hpp)];exact Zwt hp hpp
 ·
  rintro⟨k,hk⟩;obtain⟨_,h2,h3⟩:=Zgv.1 hk;refine⟨Zbi (Zbg k n),?_⟩
  show C (ovr P (Zbi (Zbg k n)))=true
  rw[Zso fun p hpp=>by rw[Zeb,h3 p hpp];simp[hv p hpp]];exact h2
theorem Zkr.step {n:Nat} {C:BF} {ρ:Nat->Bool} {ord:List Nat} {j:Nat} {P:List (Int×Bool)} (h:Zkr n C ρ ord j P) (hj:j<ord.length):Zkr n C ρ ord (j+1) (P++[((ord[j]:Int),conB (Zcm P C) ord[j] (ρ ord[j]))]):=by
 have e1:∀ F y,Zcm (P++[((ord[j]:Int),y)]) F=cofF (Zcm P F) ord[j] y:=fun F y=>by rw[Zhk];simp
 refine⟨?_,?_,fun F=>?_⟩
 ·
  rw[List.map_append,h.keys,List.take_succ_eq_append_getElem hj,List.map_append];rfl
 ·
  rw[e1];exact Zng h.sat _ _
 ·
  rw[h.eq,List.drop_eq_getElem_cons hj,e1,e1];rfl
theorem Zmx {n:Nat} {C:BF} {P:List (Int×Bool)} {v:Nat} {y:Bool}:(Zdd n C P).filter (fun k=>bitB k v == y)=Zdd n C (P++[((v:Int),y)]):=by
 unfold Zdd;rw[List.filter_filter];congr 1;funext k;rw[List.all_append];simp only[List.all_cons,List.all_nil,Bool.and_true,Int.toNat_natCast];cases C (Zbi (Zbg k n))<;>cases (P.all fun p=>bitB k p.1.toNat == p.2)<;>cases (bitB k v == y)<;>rfl
theorem Zwn {n:Nat} {C:BF} {P:List (Int×Bool)} {v:Nat} {y:Bool} (h:Zdd n C (P++[((v:Int),y)])=[]):Zdd n C (P++[((v:Int),!y)])=Zdd n C P:=by
 rw[<- Zmx] at h ⊢;rw[List.filter_eq_self];intro k hk;have:=List.filter_eq_nil_iff.1 h k hk;cases hb:bitB k v<;>cases y<;>simp_all
theorem Zkr.done {n:Nat} {C:BF} {ρ:Nat->Bool} {ord:List Nat} {P:List (Int×Bool)} (h:Zkr n C ρ ord ord.length P) (hnd:ord.Nodup) (hall:∀ v,v<n->v∈ord) (hlt:∀ v∈ord,v<n) {k:Nat} (hk:k∈Zdd n C P) {F:BF} (hd:DepF n F):F (Zbi (Zbg k n))=constrF ord F C ρ:=by
 rw[h.eq,List.drop_length]
 show _=F (ovr P ρ)
 obtain⟨h1,_,h3⟩:=Zgv.1 hk;refine hd _ _ fun v hv=>?_
 have hm:(v:Int)∈P.map (·.1):=by
  rw[h.keys,List.take_length];exact List.mem_map.2 ⟨v,hall v hv,rfl⟩
 obtain⟨p,hp,e⟩:=List.mem_map.1 hm;have e2:p.1.toNat=v:=by rw[e];simp
 rw[Zeb,<- e2,h3 p hp,Zwt (h.pair hnd) hp,e2];simp[hv]
open Go.RowKit
theorem Zp2 (w:World) (base:Nat) (hb:base<=w.heap.size):OwnI (w.alloc (.cells #[] 3)) base (.slice (some ⟨w.heap.size,0,none⟩) 0 0) []:=World.ownsRow_made w #[] 0 hb (by unfold maxLen;omega) (by simp)
def Zdf (l:List Nat):List Int:=l.map Int.ofNat
theorem Zmw (l:List Nat) (k:Nat):Zdf (l++[k])=Zdf l++[(k:Int)]:=by simp[Zdf]
theorem Zcb (l:List Nat):(Zdf l).length=l.length:=by simp[Zdf]
theorem Zlh (n:Nat) (C:BF) (P:List (Int×Bool)):(Zdd n C P).length<=2^n:=by
 unfold Zdd;exact Nat.le_trans (List.length_filter_le _ _) (by simp)
theorem Zry {l:List Nat} {p:Nat->Bool} {k:Nat} (h:k<l.length):(l.take (k+1)).filter p=(l.take k).filter p++if p l[k] then [l[k]] else []:=by
 rw[List.take_succ_eq_append_getElem h,List.filter_append];congr 1
 by_cases e:p l[k]
 ·
  simp[e]
 ·
  simp[e]
theorem Zwo (n:Nat) (C:BF):Zdd n C []=(List.range (2^n)).filter fun k=>C (Zbi (Zbg k n)):=by
 unfold Zdd;congr 1;funext k;simp
theorem Zro {w:World} (n:Nat) (hn:n<=16) {C:BF} (hdc:DepF n C) (hsat:SatF C) {ct oa:Option Addr} {cc oc:Nat} (hc:Zbs w ct (tabB n C)) (i:Nat) (hi:i<2^n) {ord:List Nat} (hnd:ord.Nodup) (hall:∀ v,v<n->v∈ord) (hlt:∀ v∈ord,v<n) (ho:Zax w oa (Zdf ord)) :
 Calls Tryz.prog 110 #[.slice ct (2^n) cc,.int .i64 i,.slice oa ord.length oc] w fun x w'=>∃ k:Nat,x=.returned (.int .i64 k)/\(k<2^n/\∀ F,DepF n F->F (Zbi (Zbg k n))=constrF ord F C (Zbi (Zbg i n)))/\Below w.heap.size w w':=by
 have hLs:2^n<=65536:=Nat.pow_le_pow_right (n:=2) (by omega) hn;have hol:=ho.len;rw[Zcb] at hol;obtain⟨L,hL⟩:∃ L,L=2^n:=⟨_,rfl⟩;obtain⟨ρ,hρ⟩:∃ ρ,ρ=Zbi (Zbg i n):=⟨_,rfl⟩;have HC:=Hd hc;have HO:=Hd ho;have HLE:=Hd hL;have HI:Hid (Zkr n C ρ ord 0 []):=Hd (Zt6 hsat);have HND:=Hd hnd;have HLT:=Hd hlt;have HRB:Hid (∀ v,v<n->ρ v=bitB i v):=Hd fun v hv=>by rw[hρ,Zeb];simp[hv]
 obtain⟨P,hP⟩:∃ P:Ending->World->Prop,P=fun x w'=>∃ k:Nat,x=.returned (.int .i64 k)/\(k<2^n/\∀ F,DepF n F->F (Zbi (Zbg k n))=constrF ord F C (Zbi (Zbg i n)))/\Below w.heap.size w w':=⟨_,rfl⟩
 have HEND:Hid (∀ (Ps:List (Int×Bool)) (k:Nat) W,Zkr n C ρ ord ord.length Ps->k∈Zdd n C Ps->Below w.heap.size w W->P (.returned (.int .i64 k)) W):=Hd fun Ps k W h1 h2 h3=>by
  rw[hP];exact⟨k,rfl,⟨(Zgv.1 h2).1,fun F hd=>by rw[<- hρ];exact h1.done hnd hall hlt h2 hd⟩,h3⟩
 have HDC:=Hd hdc;have hi6:i<=1048576:=by omega
 obtain⟨w1,hw1⟩:∃ w1,w1=w.alloc (.cells #[] 3):=⟨_,rfl⟩;have HW1:Hid (_=w1):=Hd hw1.symm;have HB1:Hid (Below w.heap.size w w1):=by rw[hw1];exact Hd (Zad _ _)
 have HR1:Hid (OwnI w1 w.heap.size (.slice (some ⟨w.heap.size,0,none⟩) 0 0) (Zdf ((List.range 0).filter fun k=>C (Zbi (Zbg k n))))):=by rw[hw1];exact Hd (Zp2 w _ (Nat.le_refl _))
 rw[<- hP,<- hL];rw[<- hL] at hLs hi;clear hP hL hρ hc ho hsat hnd hall hlt hw1 hdc
 go_enter Tryz.func110,Tryz.ntmps110
 go_upto_region 2 with fail;rw[HW1.out];go_wp2_with fail
 go_loopw [7,8] (fun s7 s8 wr=>∃ j:Nat,j<=L/\s8=.int .i64 j/\Hid (OwnI wr w.heap.size s7 (Zdf ((List.range j).filter fun k=>C (Zbi (Zbg k n)))))/\Hid (Below w.heap.size w wr)) (fun _ s8 _=>L-(intOf s8).toNat)
 case atStart=>exact⟨0,Nat.zero_le _,rfl,HR1,HB1⟩
 case round =>
  clear HR1 HB1;obtain⟨j,hj,rfl,HR,HB⟩:=hrel
  by_cases hlt:j<L
  ·
   have hjz:(j:Int)<(L:Int):=by omega
   obtain⟨b,off,rfl,ck⟩:=(HC.out.below HB.out).cells j (by rw[Za4,<- HLE.out];exact hlt);rw[Zdm (by rw[<- HLE.out];exact hlt)] at ck
   have HSP:Hid ((List.range (j+1)).filter (fun k=>C (Zbi (Zbg k n)))=(List.range j).filter (fun k=>C (Zbi (Zbg k n)))++if C (Zbi (Zbg j n)) then [j] else []):=Hd (by
    rw[List.range_succ,List.filter_append];congr 1
    by_cases e:C (Zbi (Zbg j n))<;>simp[e])
   have HLN:Hid (((List.range j).filter fun k=>C (Zbi (Zbg k n))).length<=j):=Hd (Nat.le_trans (List.length_filter_le _ _) (by simp));obtain⟨y,hy⟩:∃ y,y=C (Zbi (Zbg j n)):=⟨_,rfl⟩;rw[<- hy] at ck HSP;clear hy;cases y with
   | true =>
     have hln:(Zdf ((List.range j).filter fun k=>C (Zbi (Zbg k n)))).length<1099511627776:=by rw[Zcb];have:=HLN.out;omega
     go_wp2_with (at_builtin;refine Zcr wr rfl _ _ rfl w.heap.size w u7 _ (j:Int) rfl rfl rfl rfl HR.out hln HB.out.size HB.out ?_;intro v5 w5 hown5 hb5 hs5 hk5)
     have HR5:Hid (OwnI w5 w.heap.size v5 (Zdf ((List.range (j+1)).filter fun k=>C (Zbi (Zbg k n))))):=Hd (by
      rw[HSP.out,if_pos rfl,Zmw];exact hown5)
     have HB5:=Hd hb5;clear hown5 hb5 hs5 hk5 HR HB ck;go_wp2_with fail;go_roundw
     case rel=>exact⟨j+1,by omega,by go_num,HR5,HB5⟩
     case measure=>simp[intOf];omega
   | false =>
     have HR5:Hid (OwnI wr w.heap.size u7 (Zdf ((List.range (j+1)).filter fun k=>C (Zbi (Zbg k n))))):=Hd (by
      rw[HSP.out,if_neg (by simp),List.append_nil];exact HR.out)
     clear HR;go_wp2_with fail;go_roundw
     case rel=>exact⟨j+1,by omega,by go_num,HR5,HB⟩
     case measure=>simp[intOf];omega
  ·
   obtain rfl:L=j:=by omega
   have hjz:¬ (L:Int)<(L:Int):=by omega
   have HR2:Hid (OwnI wr w.heap.size u7 (Zdf (Zdd n C []))):=Hd (by rw[Zwo,<- HLE.out];exact HR.out);clear HR;go_wp2_with fail
   go_loopw [7,9,10,11] (fun s7 s9 _ _ wr=>∃ (j:Nat) (Ps:List (Int×Bool)),j<=ord.length/\s9=.int .i64 j/\Hid (Zkr n C ρ ord j Ps)/\Hid (OwnI wr w.heap.size s7 (Zdf (Zdd n C Ps)))/\Hid (Below w.heap.size w wr)) (fun _ s9 _ _ _=>ord.length-(intOf s9).toNat)
   case atStart=>exact⟨0,[],Nat.zero_le _,rfl,HI,HR2,HB⟩
   case round =>
    clear HR2 HB HI;obtain⟨j2,Ps,hj2,rfl,HI,HR,HB⟩:=hrel;obtain⟨wo,hwo⟩:∃ W,W=wr:=⟨_,rfl⟩;subst hwo
    by_cases hlt2:j2<ord.length
    ·
     have hjz2:(j2:Int)<(ord.length:Int):=by omega
     have HVN:=Hd (HLT.out _ (List.getElem_mem hlt2));have HST:=Hd (HI.out.step hlt2);have hsl:=Zlh n C Ps;obtain⟨b,off,hoa,ck⟩:=HO.out.cells j2 (by rw[Zcb];exact hlt2);have hat:at0 (Zdf ord) j2=(ord[j2]:Int):=by
      rw[Zce (by rw[Zcb];exact hlt2)];simp[Zdf]
     rw[hat] at ck;have HRV:=Hd (HRB.out _ HVN.out);obtain⟨v,hv⟩:∃ v,v=ord[j2]:=⟨_,rfl⟩;rw[<- hv] at ck HVN HST HRV;rw[HRV.out] at HST;have HLK:Hid ((Zdd n C Ps).filter (fun k=>bitB k v == bitB i v)=Zdd n C (Ps++[((v:Int),bitB i v)])):=Hd Zmx;have HCK:=Hd (show oa=some ⟨b,off,none⟩/\w.cell? ⟨b,off+j2,none⟩=some (.int .i64 (v:Nat)) from ⟨hoa,ck⟩);obtain⟨S,hS⟩:∃ S,S=Zdd n C Ps:=⟨_,rfl⟩;have HSE:=Hd hS;have HSB:Hid (∀ k,k∈S->k<L):=Hd fun k hk=>by rw[hS] at hk;rw[HLE.out];exact(Zgv.1 hk).1
     rw[<- hS] at HR HLK hsl;rw[<- HLE.out] at hsl;obtain⟨w2,hw2⟩:∃ w2,w2=wo.alloc (.cells #[] 3):=⟨_,rfl⟩;have HW2:Hid (_=w2):=Hd hw2.symm;have HB2:Hid (Below wo.heap.size wo w2):=by rw[hw2];exact Hd (Zad _ _)
     have HN2:Hid (OwnI w2 wo.heap.size (.slice (some ⟨wo.heap.size,0,none⟩) 0 0) (Zdf ((S.take 0).filter fun k=>bitB k v == bitB i v))):=by rw[hw2];exact Hd (Zp2 wo _ (Nat.le_refl _))
     obtain⟨sa,sc,hse,hsi⟩:∃ a c,u7=.slice a S.length c/\Zax wo a (Zdf S):=by
      obtain⟨a,c,e1,e2,_⟩:=HR.out.sliceIs (by rw[Zcb];omega);exact⟨a,c,by rw[e1,Zcb],e2⟩
     have HR7:=Hd HR.out;subst hse;have HSI:=Hd hsi;clear hoa ck hat hv hw2 hsi hS HR;go_upto_region 11 with fail;rw[HW2.out];go_wp2_with fail
     go_loopw [10,11] (fun s10 s11 wr=>∃ k:Nat,k<=S.length/\s11=.int .i64 k/\Hid (OwnI wr wo.heap.size s10 (Zdf ((S.take k).filter fun k=>bitB k v == bitB i v)))/\Hid (Below wo.heap.size wo wr)) (fun _ s11 _=>S.length-(intOf s11).toNat)
     case atStart=>exact⟨0,Nat.zero_le _,rfl,HN2,HB2⟩
     case round =>
      clear HN2 HB2;obtain⟨k,hk,rfl,HN,HBQ⟩:=hrel
      by_cases hltk:k<S.length
      ·
       have hkz:(k:Int)<(S.length:Int):=by omega
       obtain⟨bs,os,rfl,cs⟩:=(HSI.out.below HBQ.out).cells k (by rw[Zcb];exact hltk);have hat:at0 (Zdf S) k=(S[k]:Int):=by
        rw[Zce (by rw[Zcb];exact hltk)];simp[Zdf]
       rw[hat] at cs;obtain⟨hoa,ck⟩:=HCK.out;subst hoa;have ckq:=(HB.out.trans (HBQ.out.mono HB.out.size)).cell (p:=⟨b,off+j2,none⟩) (Zaa ck);rw[ck] at ckq;have HTF:=Hd (Zry (p:=fun k=>bitB k v == bitB i v) hltk);have HSK:=Hd (HSB.out _ (List.getElem_mem hltk));obtain⟨z,hz⟩:∃ z,z=S[k]:=⟨_,rfl⟩;rw[<- hz] at cs HTF HSK;have hz6:z<=1048576:=by have:=HSK.out;omega
       have hv6:v<=20:=by have:=HVN.out;omega
       have HT1:=Hd (Zi6 z v hz6 hv6 wr.drew);have HT2:=Hd (Zi6 i v hi6 hv6 wr.drew);have d0:wr.drew.cell? ⟨bs,os+k,none⟩=some (.int .i64 (z:Nat)):=cs;have d1:wr.drew.cell? ⟨b,off+j2,none⟩=some (.int .i64 (v:Nat)):=ckq;have HNd:Hid (OwnI wr.drew wo.heap.size u10 (Zdf ((S.take k).filter fun k=>bitB k v == bitB i v))):=Hd HN.out;have HBd:Hid (Below wo.heap.size wo wr.drew):=Hd (HBQ.out.trans ((Zag wr 1).mono HBQ.out.size));obtain⟨x1,hx1⟩:∃ x,x=bitB z v:=⟨_,rfl⟩;obtain⟨x2,hx2⟩:∃ x,x=bitB i v:=⟨_,rfl⟩;rw[<- hx1] at HT1;rw[<- hx2] at HT2;have HTF2:Hid ((S.take (k+1)).filter (fun k=>bitB k v == bitB i v)=(S.take k).filter (fun k=>bitB k v == bitB i v)++if (x1 == x2)=true then [z] else []):=Hd (by rw[hx1,hx2];exact HTF.out);have HLN:Hid (((S.take k).filter fun k=>bitB k v == bitB i v).length<=S.length):=Hd (Nat.le_trans (List.length_filter_le _ _) (by simp;omega));clear cs ck ckq hat hz HTF HN HBQ hx1 hx2;go_upto_region 14 with fail;refine Zf7 [0,1,2,3,4,5,6,7,9,10,11,12,13,8,14,15] (fun W=>W=wr.drew) (fun ch w'=>False) (fun c a w hd h=>h.elim) (by kernel_rfl) rfl ?_
       iterate 13
        refine Zed rfl rfl (by kernel_rfl) ?_;apply Exists.intro;refine⟨fun w' hw=>?_,?_⟩
        ·
         obtain rfl:=hw;go_simp;rfl
        simp only[Zaf]
       refine Zfh (R1:=fun u w'=>u=.bool x1/\wr.drew=w') rfl (by kernel_rfl) rfl rfl (by go_simp) (HT1.out.mono fun x w' h=>⟨_,h.1,rfl,h.2⟩) (by rintro u w' ⟨_,rfl⟩;rfl) ?_;rintro u w'-⟨rfl,rfl⟩;simp only[Zaf];refine Zfh (R1:=fun u w'=>u=.bool x2/\wr.drew=w') rfl (by kernel_rfl) rfl rfl (by go_simp) (HT2.out.mono fun x w' h=>⟨_,h.1,rfl,h.2⟩) (by rintro u w' ⟨_,rfl⟩;rfl) ?_;rintro u w'-⟨rfl,rfl⟩;simp only[Zaf];refine Zed rfl rfl (by kernel_rfl) ?_;apply Exists.intro;refine⟨fun w' hw=>?_,?_⟩
       ·
        clear hw;go_simp;rfl
       simp only[Zaf];refine Zlk (by kernel_rfl) ?_;clear d1 HT1 HT2;obtain⟨xx,hxx⟩:∃ xx,xx=(x1 == x2):=⟨_,rfl⟩;rw[<- hxx] at HTF2 ⊢;clear hxx;cases xx with
       | true =>
         have hln:(Zdf ((S.take k).filter fun k=>bitB k v == bitB i v)).length<1099511627776:=by rw[Zcb];have:=HLN.out;omega
         go_wp2_with (at_builtin;refine Zcr wr.drew rfl _ _ rfl wo.heap.size wo u10 _ (z:Int) rfl rfl rfl rfl HNd.out hln HBd.out.size HBd.out ?_;intro v5 w5 hown5 hb5 hs5 hk5)
         have HN5:Hid (OwnI w5 wo.heap.size v5 (Zdf ((S.take (k+1)).filter fun k=>bitB k v == bitB i v))):=Hd (by
          rw[HTF2.out,if_pos rfl,Zmw];exact hown5)
         have HB5:=Hd hb5;clear hown5 hb5 hs5 hk5 HNd HBd d0;go_wp2_with fail;go_roundw
         case rel=>exact⟨k+1,by omega,by go_num,HN5,HB5⟩
         case measure=>simp[intOf];omega
       | false =>
         have HN5:Hid (OwnI wr.drew wo.heap.size u10 (Zdf ((S.take (k+1)).filter fun k=>bitB k v == bitB i v))):=Hd (by
          rw[HTF2.out,if_neg (by simp),List.append_nil];exact HNd.out)
         clear HNd d0;go_wp2_with fail;go_roundw
         case rel=>exact⟨k+1,by omega,by go_num,HN5,HBd⟩
         case measure=>simp[intOf];omega
      ·
       obtain rfl:k=S.length:=by omega
       have hkz:¬ (S.length:Int)<(S.length:Int):=by omega
       have HNE:Hid (OwnI wr wo.heap.size u10 (Zdf (Zdd n C (Ps++[((v:Int),bitB i v)])))):=Hd (by
        have:=HN.out;rw[List.take_length,HLK.out] at this;exact this)
       have hbw:=HB.out.trans (HBQ.out.mono HB.out.size);have HBW:=Hd hbw;have hsl2:=Zlh n C (Ps++[((v:Int),bitB i v)]);rw[<- HLE.out] at hsl2;have HRQ:Hid (OwnI wr w.heap.size (.slice sa S.length sc) (Zdf S)):=Hd (HR7.out.below HBQ.out);have HBZ:=Hd HB.out.size;obtain⟨ta,tc,hte,_⟩:∃ a c,u10=.slice a (Zdd n C (Ps++[((v:Int),bitB i v)])).length c/\True:=by
        obtain⟨a,c,e1,e2,_⟩:=HNE.out.sliceIs (by rw[Zcb];omega);exact⟨a,c,by rw[e1,Zcb],trivial⟩
       have HNE2:=Hd HNE.out;subst hte;obtain⟨S2,hS2⟩:∃ S2,S2=Zdd n C (Ps++[((v:Int),bitB i v)]):=⟨_,rfl⟩;have HS2:=Hd hS2;rw[<- hS2] at HNE2;rw[<- hS2];have hpr:=HI.out.pair HND.out;have HKV:Hid (∀ y,(∀ p∈Ps++[((v:Int),y)],p.1.toNat<n)):=Hd fun y p hp=>by
        rcases List.mem_append.1 hp with h|h
        ·
         have:p.1∈Ps.map (·.1):=List.mem_map.2 ⟨p,h,rfl⟩;rw[HI.out.keys] at this;obtain⟨u,hu,e⟩:=List.mem_map.1 this;rw[<- e];exact HLT.out u (List.mem_of_mem_take hu)
        ·
         simp only[List.mem_singleton] at h;subst h;simpa using HVN.out
       have HSC:Hid (SatF (cofF (Zcm Ps C) v (bitB i v))↔∃ k,k∈S2):=Hd (by
        have e1:Zcm (Ps++[((v:Int),bitB i v)]) C=cofF (Zcm Ps C) v (bitB i v):=by rw[Zhk];simp
        rw[<- e1,hS2];refine Zpz HDC.out ?_ (HKV.out _);have hh:=(HST.out).pair HND.out;have hk1:(Ps++[((v:Int),bitB i v)]).map (·.1)=(Ps++[((v:Int),conB (Zcm Ps C) v (bitB i v))]).map (·.1):=by simp
        have h1:((Ps++[((v:Int),conB (Zcm Ps C) v (bitB i v))]).map fun p=>p.1.toNat).Nodup:=List.pairwise_map.2 hh;have h2:((Ps++[((v:Int),bitB i v)]).map fun p=>p.1.toNat).Nodup:=by
         have e3:((Ps++[((v:Int),bitB i v)]).map fun p=>p.1.toNat)=((Ps++[((v:Int),conB (Zcm Ps C) v (bitB i v))]).map fun p=>p.1.toNat):=by simp
         rw[e3];exact h1
        exact List.pairwise_map.1 h2)
       clear hS2 hpr hsl2 HN HBQ HNE hbw HSI HB HR7
       by_cases hz:S2.length=0
       ·
        have hzz:¬ ((S2.length:Int)>0):=by omega
        have hnil:S2=[]:=List.length_eq_zero_iff.1 hz
        have HSE2:Hid (S=Zdd n C (Ps++[((v:Int),conB (Zcm Ps C) v (bitB i v))])):=Hd (by
         rw[Zr9 (fun h=>by obtain⟨k,hk⟩:=HSC.out.1 h;rw[hnil] at hk;simp at hk),Zwn (by rw[<- HS2.out,hnil]),HSE.out])
        have HRX:Hid (OwnI wr w.heap.size (.slice sa S.length sc) (Zdf (Zdd n C (Ps++[((v:Int),conB (Zcm Ps C) v (bitB i v))])))):=Hd (by rw[<- HSE2.out];exact HRQ.out);clear HRQ HNE2 HSC hnil hz;go_wp2_with fail;go_roundw
        case rel=>exact⟨j2+1,_,by omega,by go_num,HST,HRX,HBW⟩
        case measure=>simp[intOf];omega
       ·
        have hzz:(S2.length:Int)>0:=by omega
        have HSE2:Hid (S2=Zdd n C (Ps++[((v:Int),conB (Zcm Ps C) v (bitB i v))])):=Hd (by
         rw[Zim (HSC.out.2 ⟨S2[0]'(by omega),List.getElem_mem _⟩),HS2.out])
        have HRX:Hid (OwnI wr w.heap.size (.slice ta S2.length tc) (Zdf (Zdd n C (Ps++[((v:Int),conB (Zcm Ps C) v (bitB i v))])))):=Hd (by rw[<- HSE2.out];exact HNE2.out.lower HBZ.out);clear HRQ HNE2 HSC hz;go_wp2_with fail;go_roundw
        case rel=>exact⟨j2+1,_,by omega,by go_num,HST,HRX,HBW⟩
        case measure=>simp[intOf];omega
    ·
     obtain rfl:j2=ord.length:=by omega
     have hjz2:¬ (ord.length:Int)<(ord.length:Int):=by omega
     have hsl:=Zlh n C Ps;rw[<- HLE.out] at hsl;have HKV:Hid (∀ p∈Ps,p.1.toNat<n):=Hd fun p hp=>by
      have:p.1∈Ps.map (·.1):=List.mem_map.2 ⟨p,hp,rfl⟩;rw[HI.out.keys] at this;obtain⟨u,hu,e⟩:=List.mem_map.1 this;rw[<- e];exact HLT.out u (List.mem_of_mem_take hu)
     obtain⟨k0,hk0⟩:=(Zpz HDC.out (HI.out.pair HND.out) HKV.out).1 HI.out.sat;have hpos:0<(Zdd n C Ps).length:=List.length_pos_iff.2 (fun e=>by rw[e] at hk0;simp at hk0);obtain⟨sa,sc,hse,hsi⟩:∃ a c,u7=.slice a (Zdd n C Ps).length c/\Zax wo a (Zdf (Zdd n C Ps)):=by
      obtain⟨a,c,e1,e2,_⟩:=HR.out.sliceIs (by rw[Zcb];omega);exact⟨a,c,by rw[e1,Zcb],e2⟩
     obtain⟨b,off,rfl,ck⟩:=hsi.cells 0 (by rw[Zcb];exact hpos);have hat:at0 (Zdf (Zdd n C Ps)) 0=((Zdd n C Ps)[0]:Int):=by
      rw[Zce (by rw[Zcb];exact hpos)];simp[Zdf]
     rw[hat] at ck;rw[Nat.add_zero] at ck;have HF:=Hd (HEND.out Ps _ wo HI.out (List.getElem_mem hpos) HB.out);obtain⟨z,hz⟩:∃ z,z=(Zdd n C Ps)[0]:=⟨_,rfl⟩;rw[<- hz] at ck HF;have hposz:(0:Int)<((Zdd n C Ps).length:Int):=by omega
     subst hse;clear hz hat hsi hk0 HR HI HB hsl;go_wp2_with fail;exact HF.out
theorem Zj9 {w:World} (n:Nat) (hn:n<=16) {F C:BF} (hdf:DepF n F) (hdc:DepF n C) (hsat:SatF C) {ft ct oa:Option Addr} {fc cc oc:Nat} (hf:Zbs w ft (tabB n F)) (hc:Zbs w ct (tabB n C)) {ord:List Nat} (hnd:ord.Nodup) (hall:∀ v,v<n->v∈ord) (hlt:∀ v∈ord,v<n) (ho:Zax w oa (Zdf ord)) :
 Calls Tryz.prog 44 #[.slice ft (2^n) fc,.slice ct (2^n) cc,.slice oa ord.length oc] w fun x w'=>∃ v,x=.returned v/\Zbt w' v (tabB n (constrF ord F C))/\Below w.heap.size w w':=by
 have hLs:2^n<=65536:=Nat.pow_le_pow_right (n:=2) (by omega) hn;obtain⟨L,hL⟩:∃ L,L=2^n:=⟨_,rfl⟩;have HLE:=Hd hL;have HF:=Hd hf;obtain⟨T,hT⟩:∃ T,T=tabB n (constrF ord F C):=⟨_,rfl⟩;have HTL:Hid (T.length=L):=Hd (by rw[hT,Za4,hL]);have HTG:Hid (∀ i,i<L->T.getD i false=constrF ord F C (Zbi (Zbg i n))):=Hd fun i hi=>by rw[hT,Zdm (by rw[<- hL];exact hi)]
 have HNR:Hid (∀ W i,Below w.heap.size w W->i<L->Calls Tryz.prog 110 #[.slice ct L cc,.int .i64 i,.slice oa ord.length oc] W fun x w'=>∃ k:Nat,x=.returned (.int .i64 k)/\(k<L/\F (Zbi (Zbg k n))=constrF ord F C (Zbi (Zbg i n)))/\Below W.heap.size W w'):=Hd fun W i hb hi=>by
  rw[hL] at hi ⊢;refine(Zro n hn hdc hsat (hc.below hb) i hi hnd hall hlt (ho.below hb)).mono ?_;rintro x w' ⟨k,rfl,⟨h1,h2⟩,h3⟩;exact⟨k,rfl,⟨h1,h2 F hdf⟩,h3⟩
 obtain⟨P,hP⟩:∃ P:Ending->World->Prop,P=fun x w'=>∃ v,x=.returned v/\Zbt w' v (tabB n (constrF ord F C))/\Below w.heap.size w w':=⟨_,rfl⟩
 have HEND:Hid (∀ v W,OwnB W w.heap.size v T->Below w.heap.size w W->P (.returned v) W):=Hd fun v W h1 h2=>by
  rw[hP];exact⟨v,rfl,by rw[<- hT];exact h1.boolsIs (by rw[hT,Za4];omega),h2⟩
 obtain⟨w1,hw1⟩:∃ w1,w1=w.alloc (.cells #[] 4):=⟨_,rfl⟩;have HW1:Hid (_=w1):=Hd hw1.symm;have HB1:Hid (Below w.heap.size w w1):=by rw[hw1];exact Hd (Zad _ _)
 have HR1:Hid (OwnB w1 w.heap.size (.slice (some ⟨w.heap.size,0,none⟩) 0 0) (T.take 0)):=by rw[hw1];exact Hd (Zeh 4 w _ (Nat.le_refl _))
 rw[<- hP,<- hL];rw[<- hL] at hLs;clear hP hL hT hf hc hdf hdc hsat hnd hall hlt ho hw1
 go_enter Tryz.func44,Tryz.ntmps44
 go_upto_region 2 with fail;rw[HW1.out];go_wp2_with fail
 go_loopw [7,8] (fun s7 s8 wr=>∃ j:Nat,j<=L/\s8=.int .i64 j/\Hid (OwnB wr w.heap.size s7 (T.take j))/\Hid (Below w.heap.size w wr)) (fun _ s8 _=>L-(intOf s8).toNat)
 case atStart=>exact⟨0,Nat.zero_le _,rfl,HR1,HB1⟩
 case round =>
  clear HR1 HB1;obtain⟨j,hj,rfl,HR,HB⟩:=hrel
  by_cases hlt:j<L
  ·
   have hjz:(j:Int)<(L:Int):=by omega
   have HN:=Hd (HNR.out wr j HB.out hlt)
   have HTK:Hid (T.take (j+1)=T.take j++[T.getD j false]):=Hd (by
    have hl:=HTL.out;rw[List.take_succ_eq_append_getElem (by omega)];simp[List.getD,show j<T.length by omega])
   have HTV:=Hd (HTG.out j hlt);obtain⟨y,hy⟩:∃ y,y=T.getD j false:=⟨_,rfl⟩;rw[<- hy] at HTK HTV;clear hy;go_wp2_with fail;refine HN.out.mono ?_;rintro x w3 ⟨k,rfl,⟨hk,hv⟩,hb3⟩;have HB3:Hid (Below w.heap.size w w3):=Hd (HB.out.trans (hb3.mono HB.out.size));have HR3:Hid (OwnB w3 w.heap.size u7 (T.take j)):=Hd (HR.out.below hb3);obtain⟨b,off,rfl,ck⟩:=(HF.out.below HB3.out).cells k (by rw[Za4,<- HLE.out];exact hk);rw[Zdm (by rw[<- HLE.out];exact hk),hv,<- HTV.out] at ck;have hkz:(k:Int)<(L:Int):=by omega
   have hkn:¬ ((k:Int)<0):=by omega
   have hln:(Zbh (T.take j)).length<1099511627776:=by rw[Zco];have:=HTL.out;simp;omega
   have hsz3:=HB3.out.size;clear hb3 hv HR HB HN;go_wp2_with (at_builtin;refine Zcc Zeg w3 rfl _ _ rfl w.heap.size u7 (Zbh (T.take j)) (.bool y) rfl rfl rfl rfl rfl HR3.out hln hsz3 ?_;intro v5 w5 hown5 r1 r2 r3 r4 hk5);have HB5:=Hd (Zez HB3.out HR3.out r1 r2 r3 r4 hk5 hsz3)
   have HR5:Hid (OwnB w5 w.heap.size v5 (T.take (j+1))):=Hd (by
    rw[HTK.out];unfold OwnB;rw[show Zbh (T.take j++[y])=Zbh (T.take j)++[.bool y] by simp[Zbh]];exact hown5)
   clear hown5 r1 r2 r3 r4 hk5 HR3 HB3 ck;go_wp2_with fail;go_roundw
   case rel=>exact⟨j+1,by omega,by go_num,HR5,HB5⟩
   case measure=>simp[intOf];omega
  ·
   obtain rfl:L=j:=by omega
   have hjz:¬ (L:Int)<(L:Int):=by omega
   have HF2:=Hd (HEND.out u7 wr (by
    have:=HR.out
    rwa [List.take_of_length_le (by rw[HTL.out];exact Nat.le_refl _)] at this) HB.out)
   clear HR HB;go_wp2_with fail;exact HF2.out
open Go.RowKit
theorem Zqa {w:World} (n:Nat) (hn:n<=16) {R F C:BF} (hag:∀ ρ,C ρ=true->R ρ=F ρ) {ra fa ca:Option Addr} {rc fc cc:Nat} (hr:Zbs w ra (tabB n R)) (hf:Zbs w fa (tabB n F)) (hc:Zbs w ca (tabB n C)) :
 Calls Tryz.prog 47 #[.slice ra (2^n) rc,.slice fa (2^n) fc,.slice ca (2^n) cc] w fun x w'=>x=.returned (.bool true)/\Below w.heap.size w w':=by
 have hLs:2^n<=65536:=Nat.pow_le_pow_right (n:=2) (by omega) hn;obtain⟨L,hL⟩:∃ L,L=2^n:=⟨_,rfl⟩;have HLE:=Hd hL;have HR:=Hd hr;have HF:=Hd hf;have HC:=Hd hc;have HAG:=Hd hag;have HB0:Hid (Below w.heap.size w w):=Hd (Below.refl _ _);rw[<- hL];rw[<- hL] at hLs;clear hL hr hf hc hag
 go_enter Tryz.func47,Tryz.ntmps47
 go_wp2_with fail
 go_loopw [6,7] (fun _ s7 wr=>∃ j:Nat,j<=L/\s7=.int .i64 j/\Hid (Below w.heap.size w wr)) (fun _ s7 _=>L-(intOf s7).toNat)
 case atStart=>exact⟨0,Nat.zero_le _,rfl,HB0⟩
 case round =>
  clear HB0;obtain⟨j,hj,rfl,HB⟩:=hrel
  by_cases hlt:j<L
  ·
   have hjz:(j:Int)<(L:Int):=by omega
   have hL2:j<2^n:=by rw[<- HLE.out];exact hlt
   obtain⟨b1,o1,rfl,c1⟩:=(HR.out.below HB.out).cells j (by rw[Za4];exact hL2);obtain⟨b2,o2,rfl,c2⟩:=(HF.out.below HB.out).cells j (by rw[Za4];exact hL2);obtain⟨b3,o3,rfl,c3⟩:=(HC.out.below HB.out).cells j (by rw[Za4];exact hL2);rw[Zdm hL2] at c1 c2 c3;have HAJ:=Hd (HAG.out (Zbi (Zbg j n)));obtain⟨y3,h3⟩:∃ y,y=C (Zbi (Zbg j n)):=⟨_,rfl⟩;obtain⟨y2,h2⟩:∃ y,y=F (Zbi (Zbg j n)):=⟨_,rfl⟩;obtain⟨y1,h1⟩:∃ y,y=R (Zbi (Zbg j n)):=⟨_,rfl⟩;rw[<- h1] at c1 HAJ;rw[<- h2] at c2 HAJ;rw[<- h3] at c3 HAJ;clear h1 h2 h3 hL2;cases y3 with
   | true =>
     obtain rfl:=HAJ.out rfl;have hne:(y1 != y1)=false:=by simp
     go_wp2_with fail
     go_quiet (fail)
     go_wp2_with fail;go_roundw
     case rel=>exact⟨j+1,by omega,by go_num,Hd (by first|exact Zak HB.out _|exact HB.out)⟩
     case measure=>simp[intOf];omega
   | false =>
     go_wp2_with fail
     go_quiet (fail)
     go_wp2_with fail;go_roundw
     case rel=>exact⟨j+1,by omega,by go_num,Hd (by first|exact Zak HB.out _|exact HB.out)⟩
     case measure=>simp[intOf];omega
  ·
   obtain rfl:L=j:=by omega
   have hjz:¬ (L:Int)<(L:Int):=by omega
   go_wp2_with fail;go_ret;exact⟨rfl,HB.out⟩
section
variable {K:Law} {n:Nat} {Od:List Nat->Prop} {room:Nat} {w0 w:World} {mb:Nat} {fs:List (Int×BF)} {nx:Int} {o:Own} {m:ManD} {V:Nat->BF}
theorem Zpq (h:SatE K n Od room w0 mb fs nx w o m V) (hn:n<=16) {k:Int} {F:BF} (hk:(k,F)∈fs) :
 Calls Tryz.prog 46 #[.pointer (some ⟨mb,0,none⟩),.int .i64 k,.int .i64 n] w fun x w'=>∃ v,x=.returned v/\OwnB w' w.heap.size v (tabB n F)/\Below w.heap.size w w':=by
 have hLs:2^n<=65536:=Nat.pow_le_pow_right (n:=2) (by omega) hn;obtain⟨L,hL⟩:∃ L,L=2^n:=⟨_,rfl⟩;have HLE:=Hd hL;obtain⟨T,hT⟩:∃ T,T=tabB n F:=⟨_,rfl⟩;have HTL:Hid (T.length=L):=Hd (by rw[hT,Za4,hL]);have HTG:Hid (∀ i,i<L->T.getD i false=F (Zbi (Zbg i n))):=Hd fun i hi=>by rw[hT,Zdm (by rw[<- hL];exact hi)]
 have HEV:Hid (∀ W,Below w.heap.size w W->∀ u cs,Zbt W u cs->Calls Tryz.prog 96 #[.pointer (some ⟨mb,0,none⟩),.int .i64 k,u] W fun x w'=>x=.returned (.tuple #[.bool (F (Zbi cs)),.int .i64 0])/\Below W.heap.size W w'):=Hd fun W hb u cs hu=>(h.below hb).eval hk hu
 obtain⟨P,hP⟩:∃ P:Ending->World->Prop,P=fun x w'=>∃ v,x=.returned v/\OwnB w' w.heap.size v (tabB n F)/\Below w.heap.size w w':=⟨_,rfl⟩
 have HEND:Hid (∀ v W,OwnB W w.heap.size v T->Below w.heap.size w W->P (.returned v) W):=Hd fun v W h1 h2=>by
  rw[hP];exact⟨v,rfl,by rw[<- hT];exact h1,h2⟩
 obtain⟨w1,hw1⟩:∃ w1,w1=w.alloc (.cells #[] 4):=⟨_,rfl⟩;have HW1:Hid (_=w1):=Hd hw1.symm;have HB1:Hid (Below w.heap.size w w1):=by rw[hw1];exact Hd (Zad _ _)
 have HR1:Hid (OwnB w1 w.heap.size (.slice (some ⟨w.heap.size,0,none⟩) 0 0) (T.take 0)):=by rw[hw1];exact Hd (Zeh 4 w _ (Nat.le_refl _))
 have HCN:Hid (Calls Tryz.prog 72 #[.bool true,.int .i64 n] w1 fun x w'=>∃ g,x=.returned (.slice (some ⟨g,0,none⟩) L L)/\Below w1.heap.size w1 w'):=Hd (by
  rw[hL];exact(Zg0 true n hn w1).mono fun x w' ⟨g,h1,_,h2⟩=>⟨g,h1,h2⟩)
 rw[<- hP];rw[<- hL] at hLs;clear hP hL hT h hk hw1
 go_enter Tryz.func46,Tryz.ntmps46
 go_upto_region 2 with fail;rw[HW1.out];go_wp2_with fail;refine HCN.out.mono ?_;rintro x w2 ⟨g,rfl,hb2⟩;have HB2:Hid (Below w.heap.size w w2):=Hd (HB1.out.trans (hb2.mono HB1.out.size));have HR2:Hid (OwnB w2 w.heap.size (.slice (some ⟨w.heap.size,0,none⟩) 0 0) (T.take 0)):=Hd (HR1.out.below hb2);clear hb2 HCN HB1 HR1;go_wp2_with fail
 go_loopw [7,9,10,11,12,13] (fun s7 s9 _ _ _ _ wr=>∃ j:Nat,j<=L/\s9=.int .i64 j/\Hid (OwnB wr w.heap.size s7 (T.take j))/\Hid (Below w.heap.size w wr)) (fun _ s9 _ _ _ _ _=>L-(intOf s9).toNat)
 case atStart=>exact⟨0,Nat.zero_le _,rfl,HR2,HB2⟩
 case round =>
  clear HR2 HB2;obtain⟨j,hj,rfl,HR,HB⟩:=hrel;obtain⟨wo,hwo⟩:∃ W,W=wr:=⟨_,rfl⟩;subst hwo
  by_cases hlt:j<L
  ·
   have hjz:(j:Int)<(L:Int):=by omega
   have hj6:j<=1048576:=by omega
   have HTK:Hid (T.take (j+1)=T.take j++[T.getD j false]):=Hd (by
    have hl:=HTL.out;rw[List.take_succ_eq_append_getElem (by omega)];simp[List.getD,show j<T.length by omega])
   have HTV:=Hd (HTG.out j hlt);obtain⟨y,hy⟩:∃ y,y=T.getD j false:=⟨_,rfl⟩;rw[<- hy] at HTK HTV;have HTB:=Hd (fun v (hv:v<=20) W=>Zi6 j v hj6 hv W);obtain⟨w3,hw3⟩:∃ w3,w3=wo.alloc (.cells #[] 4):=⟨_,rfl⟩;have HW3:Hid (_=w3):=Hd hw3.symm;have HB3:Hid (Below wo.heap.size wo w3):=by rw[hw3];exact Hd (Zad _ _)
   have HL3:Hid (OwnB w3 wo.heap.size (.slice (some ⟨wo.heap.size,0,none⟩) 0 0) ((Zbg j n).take 0)):=by rw[hw3];exact Hd (Zeh 4 wo _ (Nat.le_refl _))
   clear hy hw3;go_upto_region 7 with fail;rw[HW3.out];go_wp2_with fail
   go_loopw [10,11] (fun s10 s11 wr=>∃ v:Nat,v<=n/\s11=.int .i64 v/\Hid (OwnB wr wo.heap.size s10 ((Zbg j n).take v))/\Hid (Below wo.heap.size wo wr)) (fun _ s11 _=>n-(intOf s11).toNat)
   case atStart=>exact⟨0,Nat.zero_le _,rfl,HL3,HB3⟩
   case round =>
    clear HL3 HB3;obtain⟨v,hv,rfl,HL,HBL⟩:=hrel
    by_cases hlv:v<n
    ·
     have hvz:(v:Int)<(n:Int):=by omega
     have HT:=Hd (HTB.out v (by omega) wr)
     have HBK:Hid ((Zbg j n).take (v+1)=(Zbg j n).take v++[bitB j v]):=Hd (by
      rw[List.take_succ_eq_append_getElem (by rw[Zcn];exact hlv)];simp[Zbg])
     obtain⟨z,hz⟩:∃ z,z=bitB j v:=⟨_,rfl⟩;rw[<- hz] at HT HBK;have hln:(Zbh ((Zbg j n).take v)).length<1099511627776:=by rw[Zco];simp[Zcn];omega
     have hsz:=HBL.out.size;clear hz;go_wp2_with fail;refine HT.out.mono ?_;rintro x w' ⟨rfl,rfl⟩;go_wp2_with (at_builtin;refine Zcc Zeg wr rfl _ _ rfl wo.heap.size u10 (Zbh ((Zbg j n).take v)) (.bool z) rfl rfl rfl rfl rfl HL.out hln hsz ?_;intro v5 w5 hown5 r1 r2 r3 r4 hk5);have HB5:=Hd (Zez HBL.out HL.out r1 r2 r3 r4 hk5 hsz)
     have HL5:Hid (OwnB w5 wo.heap.size v5 ((Zbg j n).take (v+1))):=Hd (by
      rw[HBK.out];unfold OwnB;rw[show Zbh ((Zbg j n).take v++[z])=Zbh ((Zbg j n).take v)++[.bool z] by simp[Zbh]];exact hown5)
     clear hown5 r1 r2 r3 r4 hk5 HL HBL;go_wp2_with fail;go_roundw
     case rel=>exact⟨v+1,by omega,by go_num,HL5,HB5⟩
     case measure=>simp[intOf];omega
    ·
     obtain rfl:n=v:=by omega
     have hvz:¬ (n:Int)<(n:Int):=by omega
     have hbi:Zbt wr u10 (Zbg j n):=by
      have:=HL.out;rw[List.take_of_length_le (by rw[Zcn];exact Nat.le_refl _)] at this;exact this.boolsIs (by rw[Zcn];omega)
     have hbw:=HB.out.trans (HBL.out.mono HB.out.size);have HE:=Hd (HEV.out wr hbw _ _ hbi);rw[<- HTV.out] at HE;have HR4:Hid (OwnB wr w.heap.size u7 (T.take j)):=Hd (HR.out.below HBL.out);have HB4:=Hd hbw;clear hbi hbw HL HBL;go_wp2_with fail;refine HE.out.mono ?_;rintro x w4 ⟨rfl,hb4⟩;have HB5:Hid (Below w.heap.size w w4):=Hd (HB4.out.trans (hb4.mono HB4.out.size));have HR5:Hid (OwnB w4 w.heap.size u7 (T.take j)):=Hd (HR4.out.below hb4);have hln:(Zbh (T.take j)).length<1099511627776:=by rw[Zco];have:=HTL.out;simp;omega
     have hsz:=HB5.out.size;clear hb4 HR4 HB4 HE;go_wp2_with (at_builtin;refine Zcc Zeg w4 rfl _ _ rfl w.heap.size u7 (Zbh (T.take j)) (.bool y) rfl rfl rfl rfl rfl HR5.out hln hsz ?_;intro v5 w5 hown5 r1 r2 r3 r4 hk5);have HB6:=Hd (Zez HB5.out HR5.out r1 r2 r3 r4 hk5 hsz)
     have HR6:Hid (OwnB w5 w.heap.size v5 (T.take (j+1))):=Hd (by
      rw[HTK.out];unfold OwnB;rw[show Zbh (T.take j++[y])=Zbh (T.take j)++[.bool y] by simp[Zbh]];exact hown5)
     clear hown5 r1 r2 r3 r4 hk5 HR5 HB5;go_wp2_with fail;go_roundw
     case rel=>exact⟨j+1,by omega,by go_num,HR6,HB6⟩
     case measure=>simp[intOf];omega
  ·
   obtain rfl:L=j:=by omega
   have hjz:¬ (L:Int)<(L:Int):=by omega
   have HF2:=Hd (HEND.out u7 wo (by
    have:=HR.out
    rwa [List.take_of_length_le (by rw[HTL.out];exact Nat.le_refl _)] at this) HB.out)
   clear HR HB;go_wp2_with fail;exact HF2.out
end
open Go.RowKit
theorem Zht (w:World) (v:Value):Calls Tryz.prog 73 #[.pointer none,v] w fun x w'=>x=.returned (.int .i64 5)/\w=w':=by
 go_enter Tryz.func73,Tryz.ntmps73
 go_wp2_with fail;go_ret;exact⟨rfl,rfl⟩
theorem Zky (w:World) (kf:Int) (v:Value) (hv:v=.slice none 0 0) :
 Calls Tryz.prog 19 #[.pointer none,.int .i64 kf,v] w fun x w'=>x=.returned (.tuple #[.int .i64 0,.int .i64 5])/\Below w.heap.size w w':=by
 subst hv;obtain⟨w2,hw2,hb2,hz2,c0,c1⟩:=boxes2v w (.int .i64 kf) (.slice none 0 0) 3 72;have HW2:Hid (_=w2):=Hd hw2.symm;obtain⟨w3,hw3⟩:∃ w3,w3=w2.alloc (.cells #[.int .i64 kf] 3):=⟨_,rfl⟩;have HW3:Hid (_=w3):=Hd hw3.symm;have hb3:Below w2.heap.size w2 w3:=by rw[hw3];exact Zad _ _
 have HASK:=Hd (Zht w3 (.slice (some ⟨w2.heap.size,0,none⟩) 1 1));have HB:=Hd (hb2.trans (hb3.mono hb2.size));clear hw2 hb2 hw3 hb3 hz2
 go_enter Tryz.func19,Tryz.ntmps19
 go_upto_region 1 with fail;rw[HW2.out];go_wp2_with fail;rw[HW3.out];refine HASK.out.mono ?_;rintro x w' ⟨rfl,rfl⟩;go_wp2_with fail
 go_ret2
 exact⟨rfl,HB.out⟩
theorem Zl4 (w:World) (kf kg:Int) :
 Calls Tryz.prog 59 #[.pointer none,.int .i64 kf,.int .i64 kg] w fun x w'=>x=.returned (.tuple #[.int .i64 0,.int .i64 5])/\Below w.heap.size w w':=by
 obtain⟨w2,hw2,hb2,hz2,c0,c1⟩:=boxes2v w (.int .i64 kf) (.int .i64 kg) 3 3;have HW2:Hid (_=w2):=Hd hw2.symm;obtain⟨w3,hw3⟩:∃ w3,w3=w2.alloc (.cells #[.int .i64 kf,.int .i64 kg] 3):=⟨_,rfl⟩;have HW3:Hid (_=w3):=Hd hw3.symm;have hb3:Below w2.heap.size w2 w3:=by rw[hw3];exact Zad _ _
 have HASK:=Hd (Zht w3 (.slice (some ⟨w2.heap.size,0,none⟩) 2 2));have HB:=Hd (hb2.trans (hb3.mono hb2.size));clear hw2 hb2 hw3 hb3 hz2
 go_enter Tryz.func59,Tryz.ntmps59
 go_upto_region 1 with fail;rw[HW2.out];go_wp2_with fail;rw[HW3.out];refine HASK.out.mono ?_;rintro x w' ⟨rfl,rfl⟩;go_wp2_with fail
 go_ret2
 exact⟨rfl,HB.out⟩
theorem Zhu {K:Law} {n:Nat} {Od:List Nat->Prop} {room:Nat} {w0:World} {fs:List (Int×BF)} {nx:Int} {o:Own} {w:World} {mb:Nat} {m:ManD} {V:Nat->BF} (h:SatE K n Od room w0 mb fs nx w o m V) {kf kc:Int} (hno:¬ known fs kf\/¬ known fs kc) :
 Calls Tryz.prog 59 #[.pointer (some ⟨mb,0,none⟩),.int .i64 kf,.int .i64 kc] w fun x w'=>x=.returned (.tuple #[.int .i64 0,.int .i64 8])/\Below w.heap.size w w':=by
 obtain⟨w2,hw2,hb2,hz2,c0,c1⟩:=boxes2v w (.int .i64 kf) (.int .i64 kc) 3 3;have HW2:Hid (_=w2):=Hd hw2.symm;obtain⟨w3,hw3⟩:∃ w3,w3=w2.alloc (.cells #[.int .i64 kf,.int .i64 kc] 3):=⟨_,rfl⟩;have HW3:Hid (_=w3):=Hd hw3.symm;have hb3:Below w2.heap.size w2 w3:=by rw[hw3];exact Zad _ _
 have hz:Zax w3 (some ⟨w2.heap.size,0,none⟩) [kf,kc]:=by rw[hw3];exact Zec w2 [kf,kc] (by simp)
 have HASK:=Hd (Zdg (h.below (hb2.trans (hb3.mono hb2.size))) (c:=2) hz (er:=8) (.inr ⟨rfl,by
  rcases hno with h1|h1
  ·
   exact⟨kf,by simp,h1⟩
  ·
   exact⟨kc,by simp,h1⟩⟩))
 have HB:=Hd (hb2.trans (hb3.mono hb2.size));clear hw2 hb2 hw3 hb3 hz h hno hz2
 go_enter Tryz.func59,Tryz.ntmps59
 go_upto_region 1 with fail;rw[HW2.out];go_wp2_with fail;rw[HW3.out];refine HASK.out.mono ?_;rintro x w' ⟨rfl,rfl⟩;go_wp2_with fail
 go_ret2
 exact⟨rfl,HB.out⟩
open Go.RowKit
end Go.Proofs.YtmofaapnkidioaaGreat

namespace Go.Proofs.YtmofaapnkidioaaGreat
open Go.RowKit
open Go.RowKit
open Go.RowKit
end Go.Proofs.YtmofaapnkidioaaGreat

namespace Go.Proofs.YtmofaapnkidioaaGreat
open Go.RowKit
open Go.RowKit
section
variable {K:Law} {n:Nat} {Od:List Nat->Prop} {room:Nat} {w0:World} {fs:List (Int×BF)} {nx:Int} {o o':Own} {w w' W:World} {mb:Nat} {m m':ManD} {V V':Nat->BF} {ws0:List Ev} {k:Int} {G:BF} {ps:List (Int×Int)} {σ:Nat->BF}
open Classical in
noncomputable def erV (fs:List (Int×BF)) (k:Int):Int:=if known fs k then 0 else 8
end
open Go.RowKit
open Classical in
noncomputable def fnK (fs:List (Int×BF)) (k:Int):BF:=if h:known fs k then Classical.choose h else fun _=>false
open Go.RowKit
section
variable {T:TypeId} {n:Nat} {w w' W W':World} {o o':Own} {base:Nat} {v v' y:Value} {bs:List Bool}
variable {l:List (Int×BF)} {p:Int×BF} {ys:List (Value×Value)}
end
end Go.Proofs.YtmofaapnkidioaaGreat

namespace Go.Proofs.YtmofaapnkidioaaGreat
open Go.RowKit Go.Deep Go.ChangeShapes Go.WideShapes
theorem wfI {x:Int} (h:(Lit.int .i64 x).wf=true):okI x:=by
 unfold okI;simp only[Lit.wf,IntKind.min,IntKind.max,IntKind.signed,IntKind.bits,Bool.and_eq_true,decide_eq_true_eq,if_true] at h;omega
theorem Zkb {b off:Nat} (k:Nat):(⟨b,off,none⟩:Addr).add k=⟨b,off+k,none⟩:=by unfold Addr.add;split<;>simp_all
theorem add0 (a:Addr):a.add 0=a:=by simp[Addr.add]
theorem Zff {w:World} {a:Addr} {v:Value} (h:w.cell? a=some v):a.spot=none:=by
 obtain⟨b,off,spot⟩:=a;cases spot with
 | none=>rfl
 | some s=>simp[World.cell?] at h;split at h<;>simp at h
theorem Zvc {n:Nat} {p:Nat->Ev->Prop} (h:∀ i,i<n->∃ x,p i x):∃ f:Nat->Ev,∀ i,i<n->p i (f i):=by
 classical
 refine⟨fun i=>if hi:i<n then Classical.choose (h i hi) else ⟨0,0,0⟩,fun i hi=>?_⟩;simp only[dif_pos hi];exact Classical.choose_spec (h i hi)
theorem Zkj {H:Type} {enc:TypeId×Value->H} {P:Program} {w:World} {base:Nat} {spare:Nat->Bool} {held:Bool} {t e:TypeId} {fuel:Nat} {cs:List Value} {x:DataW H×List MemPlace} (ht:P.underlying t=some (.slice e)) (h:DataW.trod enc P w base spare held fuel t cs=some x) :
 cs=[.slice none 0 0]\/∃ (a:Addr) (len cap n:Nat),cs=[.slice (some a) len cap]/\len<=cap/\cap<=maxLen/\fuel=n+1/\∀ i,i<len->∃ cs' y,w.cells? base (a.add (i*P.cellsOf e)) (P.cellsOf e)=some cs'/\DataW.trod enc P w base spare held n e cs'=some y:=by
 rcases DataW.trod_slice ht h with ⟨h0,_⟩|⟨a,len,cap,elems,rest,n,hn,e1,_,_,hl,hm,hlen,hel,_⟩
 ·
  exact .inl h0
 ·
  refine .inr ⟨a,len,cap,n,e1,hl,hm,hn,fun i hi=>?_⟩;have:=hel i hi;rw[List.getElem?_eq_getElem (by omega)] at this;obtain⟨cs',h1,h2⟩:=Option.bind_eq_some_iff.1 this;exact⟨cs',_,h1,h2⟩
theorem open_expr {H:Type} {enc:TypeId×Value->H} {w:World} {base:Nat} {spare:Nat->Bool} {held:Bool}:∀ (fuel:Nat) {cs:List Value} {x:DataW H×List MemPlace},
 DataW.trod enc Tryz.prog w base spare held fuel 86 cs=some x->∃ e x0 x1 x2,cs=[x0,x1,x2]/\Zbf w e (.agg #[x0,x1,x2]):=by
 intro fuel
 induction fuel using Nat.strongRecOn with
 | _ fuel IH =>
   intro cs x h;obtain⟨xs,k,hk,hxy,hcl,hxl,hf⟩:=DataW.trod_struct Tryz.underlying86 h;have c1:Tryz.prog.cellsOf 3=1:=by kernel_rfl
   have c2:Tryz.prog.cellsOf 23=1:=by kernel_rfl
   have c3:Tryz.prog.cellsOf 86=3:=by kernel_rfl
   rw[c3] at hcl
   match xs,hxl,cs,hcl with
   | [y0,y1,y2],_,[v0,v1,v2],_ =>
     have g0:=hf 0 _ rfl;have g1:=hf 1 _ rfl;have g2:=hf 2 _ rfl;simp[c1,c2] at g0 g1 g2;obtain⟨n0,e0,_,w0⟩:=DataW.trod_int Tryz.underlying3 g0;obtain⟨n1,e1,_,w1⟩:=DataW.trod_int Tryz.underlying3 g1;simp only[List.cons.injEq,and_true] at e0 e1;subst e0 e1;rcases Zkj Tryz.underlying23 g2 with e2|⟨a,len,cap,n,e2,hl,hm,hkn,hx⟩
     ·
      simp only[List.cons.injEq,and_true] at e2;subst e2;exact⟨.mk n0 n1 0 (fun _=>.nil),_,_,_,rfl,by unfold Zbf;exact⟨none,0,rfl,wfI w0,wfI w1,by omega,fun k hk=>by omega⟩⟩
     ·
      simp only[List.cons.injEq,and_true] at e2;subst e2;have each:∀ i,i<len->∃ q:ExT,∃ x0 x1 x2,w.cell? (a.add (i*3))=some x0/\w.cell? ((a.add (i*3)).add 1)=some x1/\w.cell? ((a.add (i*3)).add 2)=some x2/\Zbf w q (.agg #[x0,x1,x2]):=by
       intro i hi;obtain⟨cs',y,h1,h2⟩:=hx i hi;rw[c3] at h1;obtain⟨_,hlen,hcell⟩:=World.cells?_some h1;obtain⟨e,x0,x1,x2,rfl,he⟩:=IH n (by omega) h2;have f0:=hcell 0 (by omega);have f1:=hcell 1 (by omega);have f2:=hcell 2 (by omega);rw[add0] at f0;exact⟨e,x0,x1,x2,by simpa using f0,by simpa using f1,by simpa using f2,he⟩
      obtain⟨q,hq⟩:=choose_lt each;refine⟨.mk n0 n1 len q,_,_,_,rfl,?_⟩;unfold Zbf;refine⟨some a,cap,rfl,wfI w0,wfI w1,by unfold maxLen at hm;omega,fun i hi=>?_⟩;obtain⟨x0,x1,x2,f0,f1,f2,he⟩:=hq i hi;have hsp:a.spot=none:=by
       obtain⟨_,_,_,q0,_⟩:=hq 0 (by omega);have:=Zff q0;simpa [Addr.add] using this
      obtain⟨b,off,spot⟩:=a;dsimp only at hsp;subst hsp;simp only[Zkb] at f0 f1 f2;exact⟨b,off,x0,x1,x2,rfl,f0,f1,f2,he⟩
theorem Zt7 {H:Type} {enc:TypeId×Value->H} {w:World} {base:Nat} {spare:Nat->Bool} {held:Bool} {fuel:Nat} {cs:List Value} {x:DataW H×List MemPlace}
 (h:DataW.trod enc Tryz.prog w base spare held fuel 23 cs=some x):∃ a l cap,cs=[.slice a l.length cap]/\Zkq w a l:=by
 have c3:Tryz.prog.cellsOf 86=3:=by kernel_rfl
 rcases Zkj Tryz.underlying23 h with e2|⟨a,len,cap,n,e2,hl,hm,hkn,hx⟩
 ·
  exact⟨none,[],0,e2,⟨by simp,fun k hk=>by simp at hk⟩⟩
 ·
  subst e2;have each:∀ i,i<len->∃ q:ExT,∃ x0 x1 x2,w.cell? (a.add (i*3))=some x0/\w.cell? ((a.add (i*3)).add 1)=some x1/\w.cell? ((a.add (i*3)).add 2)=some x2/\Zbf w q (.agg #[x0,x1,x2]):=by
   intro i hi;obtain⟨cs',y,h1,h2⟩:=hx i hi;rw[c3] at h1;obtain⟨_,hlen,hcell⟩:=World.cells?_some h1;obtain⟨e,x0,x1,x2,rfl,he⟩:=open_expr n h2;have f0:=hcell 0 (by omega);have f1:=hcell 1 (by omega);have f2:=hcell 2 (by omega);rw[add0] at f0;exact⟨e,x0,x1,x2,by simpa using f0,by simpa using f1,by simpa using f2,he⟩
  obtain⟨q,hq⟩:=choose_lt each;refine⟨some a,(List.range len).map q,cap,by simp,⟨by unfold maxLen at hm;simp;omega,fun i hi=>?_⟩⟩;have hi':i<len:=by simpa using hi
  obtain⟨x0,x1,x2,f0,f1,f2,he⟩:=hq i hi';have hsp:a.spot=none:=by
   obtain⟨_,_,_,q0,_⟩:=hq 0 (by omega);have:=Zff q0;simpa [Addr.add] using this
  obtain⟨b,off,spot⟩:=a;dsimp only at hsp;subst hsp;simp only[Zkb] at f0 f1 f2;exact⟨b,off,x0,x1,x2,rfl,f0,f1,f2,by simpa using he⟩
theorem open_evs {H:Type} {enc:TypeId×Value->H} {w:World} {base:Nat} {spare:Nat->Bool} {held:Bool} {fuel:Nat} {cs:List Value} {x:DataW H×List MemPlace}
 (h:DataW.trod enc Tryz.prog w base spare held fuel 24 cs=some x):∃ a l cap,cs=[.slice a l.length cap]/\EvsAt w a l/\(∀ ev∈l,okI ev.after/\okI ev.kind/\okI ev.level)/\(a=none->cap=0)/\l.length<=cap/\cap<=maxLen:=by
 have c1:Tryz.prog.cellsOf 3=1:=by kernel_rfl
 have c3:Tryz.prog.cellsOf 103=3:=by kernel_rfl
 rcases Zkj Tryz.underlying24 h with e2|⟨a,len,cap,n,e2,hl,hm,hkn,hx⟩
 ·
  exact⟨none,[],0,e2,⟨by simp,fun k hk=>by simp at hk⟩,by simp,fun _=>rfl,by simp,by simp⟩
 ·
  subst e2;have each:∀ i,i<len->∃ q:Ev,w.cell? (a.add (i*3))=some (.int .i64 q.after)/\w.cell? ((a.add (i*3)).add 1)=some (.int .i64 q.kind)/\w.cell? ((a.add (i*3)).add 2)=some (.int .i64 q.level)/\okI q.after/\okI q.kind/\okI q.level:=by
   intro i hi;obtain⟨cs',y,h1,h2⟩:=hx i hi;rw[c3] at h1;obtain⟨_,hlen,hcell⟩:=World.cells?_some h1;obtain⟨xs,k,hk,hxy,_,hxl,hf⟩:=DataW.trod_struct Tryz.underlying103 h2
   match xs,hxl,cs',hlen with
   | [y0,y1,y2],_,[v0,v1,v2],_ =>
     have g0:=hf 0 _ rfl;have g1:=hf 1 _ rfl;have g2:=hf 2 _ rfl;simp[c1] at g0 g1 g2;obtain⟨n0,e0,_,w0⟩:=DataW.trod_int Tryz.underlying3 g0;obtain⟨n1,e1,_,w1⟩:=DataW.trod_int Tryz.underlying3 g1;obtain⟨n2,e2,_,w2⟩:=DataW.trod_int Tryz.underlying3 g2;simp only[List.cons.injEq,and_true] at e0 e1 e2;subst e0 e1 e2;have f0:=hcell 0 (by omega);have f1:=hcell 1 (by omega);have f2:=hcell 2 (by omega);rw[add0] at f0;exact⟨⟨n0,n1,n2⟩,by simpa using f0,by simpa using f1,by simpa using f2,wfI w0,wfI w1,wfI w2⟩
  obtain⟨q,hq⟩:=Zvc each;refine⟨some a,(List.range len).map q,cap,by simp,⟨by unfold maxLen at hm;simp;omega,fun i hi=>?_⟩,?_,by simp,by simpa using hl,hm⟩
  ·
   have hi':i<len:=by simpa using hi
   obtain⟨f0,f1,f2,_⟩:=hq i hi';have hsp:a.spot=none:=by
    obtain⟨q0,_⟩:=hq 0 (by omega);have:=Zff q0;simpa [Addr.add] using this
   obtain⟨b,off,spot⟩:=a;dsimp only at hsp;subst hsp;simp only[Zkb] at f0 f1 f2;exact⟨b,off,rfl,by simpa using f0,by simpa using f1,by simpa using f2⟩
  ·
   intro ev hev;obtain⟨i,hi,rfl⟩:=List.mem_map.1 hev;exact(hq i (by simpa using hi)).2.2.2
theorem open_ask {H:Type} {enc:TypeId×Value->H} {w:World} {base:Nat} {held:Bool} {fuel:Nat} {v:Value} {cs:Array Value} {x:DataW H×List MemPlace} (hv:v=.agg cs)
 (h:DataW.trod enc Tryz.prog w base (fun _=>true) held fuel 26 v.cells.toList=some x):∃ q ao ae ap co ce cp,v=askV q ao ae ap co ce cp/\AskAt w q ao ae ap/\(∀ ev∈q.plan,okI ev.after/\okI ev.kind/\okI ev.level)/\(ao=none->co=0)/\(ap=none->cp=0)/\q.plan.length<=cp/\cp<=maxLen:=by
 subst hv;obtain⟨xs,k,hk,hxy,hcl,hxl,hf⟩:=DataW.trod_struct Tryz.underlying26 h;have c1:Tryz.prog.cellsOf 3=1:=by kernel_rfl
 have c2:Tryz.prog.cellsOf 22=1:=by kernel_rfl
 have c4:Tryz.prog.cellsOf 23=1:=by kernel_rfl
 have c5:Tryz.prog.cellsOf 24=1:=by kernel_rfl
 have c3:Tryz.prog.cellsOf 26=4:=by kernel_rfl
 rw[c3] at hcl;obtain⟨cl⟩:=cs;simp only[Value.cells] at hcl hf
 match xs,hxl,cl,hcl with
 | [y0,y1,y2,y3],_,[v0,v1,v2,v3],_ =>
   have g0:=hf 0 _ rfl;have g1:=hf 1 _ rfl;have g2:=hf 2 _ rfl;have g3:=hf 3 _ rfl;simp[c1,c2,c4,c5] at g0 g1 g2 g3;obtain⟨n0,e0,_,w0⟩:=DataW.trod_int Tryz.underlying3 g0;simp only[List.cons.injEq,and_true] at e0;subst e0;obtain⟨ao,zs,co,e1,hio,hno⟩:∃ a zs c,v1=.slice a zs.length c/\Zax w a zs/\(a=none->c=0):=by
    rcases open_ints Tryz.underlying22 Tryz.underlying3 (by kernel_rfl) g1 with ⟨hcs,_⟩|⟨x,l,c,zs,hcs,_,hl,hm,hz,_,hcell,hwz⟩
    ·
     simp at hcs;subst hcs;obtain⟨a,c,e,h1,h2⟩:=sliceIs_of_row (w:=w) (a:=none) (len:=0) (cap:=0) (.inl ⟨rfl,rfl,rfl,rfl⟩);exact⟨a,_,c,e,h1,h2⟩
    ·
     simp at hcs;subst hcs;obtain⟨a,c,e,h1,h2⟩:=sliceIs_of_row (w:=w) (.inr ⟨_,rfl,hl,hm,by simpa using hz,hcell,hwz⟩);exact⟨a,_,c,e,h1,h2⟩
   obtain⟨ae,es,ce,e2,hes⟩:=Zt7 g2;obtain⟨ap,evs,cp,e3,hev,hok,hnp,hlp,hmp⟩:=open_evs g3;simp only[List.cons.injEq,and_true] at e2 e3;subst e1 e2 e3;exact⟨⟨n0,zs,es,evs⟩,ao,ae,ap,co,ce,cp,rfl,⟨wfI w0,hio,hes,hev⟩,hok,hno,hnp,hlp,hmp⟩
end Go.Proofs.YtmofaapnkidioaaGreat

namespace Go.Proofs.YtmofaapnkidioaaGreat
open Go.RowKit Go.Deep Go.ChangeShapes Go.WideShapes
theorem Zt8 {H:Type} {enc:TypeId×Value->H} {w:World} {base:Nat} {spare:Nat->Bool} {held:Bool} {fuel:Nat} {cs:List Value} {x:DataW H×List MemPlace}
 (h:DataW.trod enc Tryz.prog w base spare held fuel 72 cs=some x):∃ a l cap,cs=[.slice a l.length cap]/\Zdw w a l:=by
 have c1:Tryz.prog.cellsOf 3=1:=by kernel_rfl
 have c3:Tryz.prog.cellsOf 41=2:=by kernel_rfl
 have c2:Tryz.prog.cellsOf 4=1:=by kernel_rfl
 rcases Zkj Tryz.underlying72 h with e2|⟨a,len,cap,n,e2,hl,hm,hkn,hx⟩
 ·
  exact⟨none,[],0,e2,⟨by simp,fun k hk=>by simp at hk⟩⟩
 ·
  subst e2;have each:∀ i,i<len->∃ q:Int×Bool,w.cell? (a.add (i*2))=some (.int .i64 q.1)/\w.cell? ((a.add (i*2)).add 1)=some (.bool q.2):=by
   intro i hi;obtain⟨cs',y,h1,h2⟩:=hx i hi;rw[c3] at h1;obtain⟨_,hlen,hcell⟩:=World.cells?_some h1;obtain⟨xs,k,hk,hxy,_,hxl,hf⟩:=DataW.trod_struct Tryz.underlying41 h2
   match xs,hxl,cs',hlen with
   | [y0,y1],_,[v0,v1],_ =>
     have g0:=hf 0 _ rfl;have g1:=hf 1 _ rfl;simp[c1,c2] at g0 g1;obtain⟨n0,e0,_,w0⟩:=DataW.trod_int Tryz.underlying3 g0;obtain⟨n1,e1,_⟩:=DataW.trod_bool Tryz.underlying4 g1;simp only[List.cons.injEq,and_true] at e0 e1;subst e0 e1;have f0:=hcell 0 (by omega);have f1:=hcell 1 (by omega);rw[add0] at f0;exact⟨(n0,n1),by simpa using f0,by simpa using f1⟩
  obtain⟨q,hq⟩:∃ q:Nat->Int×Bool,∀ i,i<len->w.cell? (a.add (i*2))=some (.int .i64 (q i).1)/\w.cell? ((a.add (i*2)).add 1)=some (.bool (q i).2):=by
   classical
   refine⟨fun i=>if hi:i<len then Classical.choose (each i hi) else (0,false),fun i hi=>?_⟩;simp only[dif_pos hi];exact Classical.choose_spec (each i hi)
  refine⟨some a,(List.range len).map q,cap,by simp,⟨by unfold maxLen at hm;simp;omega,fun i hi=>?_⟩⟩;have hi':i<len:=by simpa using hi
  obtain⟨f0,f1⟩:=hq i hi';have hsp:a.spot=none:=by
   obtain⟨q0,_⟩:=hq 0 (by omega);have:=Zff q0;simpa [Addr.add] using this
  obtain⟨b,off,spot⟩:=a;dsimp only at hsp;subst hsp;simp only[Zkb] at f0 f1;exact⟨b,off,rfl,by simpa using f0,by simpa using f1⟩
theorem open_lits {H:Type} {enc:TypeId×Value->H} {w:World} {base b0:Nat} {spare:Nat->Bool} {held:Bool} {r:Reach} {v:Value} {d:DataW H} {ps:List MemPlace} (hval:Value.okWide Tryz.prog w r b0 72 v) (hd:DataW.Trod enc Tryz.prog w base spare held 72 v d ps) :
 ∃ (a:Option Addr) (l:List (Int×Bool)) (c:Nat),v=.slice a l.length c/\Zdw w a l:=by
 obtain⟨a,len,cap,rfl⟩:=okWide_slice Tryz.underlying72 hval;obtain⟨fuel,hf⟩:=hd;obtain⟨a',l,cap',hcs,hp⟩:=Zt8 hf;simp[Value.cells] at hcs;obtain⟨rfl,rfl,rfl⟩:=hcs;exact⟨a,l,cap,rfl,hp⟩
end Go.Proofs.YtmofaapnkidioaaGreat

namespace Go.Proofs.YtmofaapnkidioaaGreat
open Go.RowKit Go.Deep Go.ChangeShapes Go.WideShapes
theorem Zxp {x:Int} (h:(Lit.int .u8 x).wf=true):∃ k:Nat,x=(k:Int)/\k<256:=by
 simp only[Lit.wf,IntKind.min,IntKind.max,IntKind.signed,IntKind.bits,Bool.and_eq_true,decide_eq_true_eq] at h;simp at h;exact⟨x.toNat,by omega,by omega⟩
section
variable {H:Type} {enc:TypeId×Value->H} {P:Program} {w:World} {base:Nat} {spare:Nat->Bool} {held:Bool}
theorem Zrz {t e:TypeId} {fuel:Nat} {c0 c1:Value} {x:DataW H×List MemPlace} (ht:P.underlying t=some (.array 2 e)) (hce:P.cellsOf e=1)
 (h:DataW.trod enc P w base spare held fuel t [c0,c1]=some x) :
 ∃ y0 y1 n,DataW.trod enc P w base spare held n e [c0]=some y0/\DataW.trod enc P w base spare held n e [c1]=some y1:=by
 cases fuel with
 | zero=>simp[DataW.trod] at h
 | succ n =>
   unfold DataW.trod at h;rw[ht] at h;have r2:List.range 2=[0,1]:=rfl;simp[r2,hce] at h;obtain⟨_,h⟩:=h;cases h0:DataW.trod enc P w base spare held n e [c0] with
   | none=>simp[h0] at h
   | some y0 =>
     cases h1:DataW.trod enc P w base spare held n e [c1] with
     | none=>simp[h0,h1] at h
     | some y1=>exact⟨y0,y1,n,h0,h1⟩
end
theorem open_u8 {H:Type} {enc:TypeId×Value->H} {w:World} {base b0:Nat} {spare:Nat->Bool} {held:Bool} {r:Reach} {v:Value} {d:DataW H} {ps:List MemPlace} (hval:Value.okWide Tryz.prog w r b0 5 v) (hd:DataW.Trod enc Tryz.prog w base spare held 5 v d ps) :
 ∃ k:Nat,k<256/\v=.int .u8 k/\d=.lit (.int .u8 k)/\ps=[]/\(Lit.int .u8 (k:Int)).wf=true:=by
 obtain⟨n,rfl,rfl,rfl,hw⟩:=open_int Tryz.underlying5 hval hd;obtain⟨k,rfl,hk⟩:=Zxp hw;exact⟨k,hk,rfl,rfl,rfl,hw⟩
theorem open_a2u8 {H:Type} {enc:TypeId×Value->H} {w:World} {base b0:Nat} {spare:Nat->Bool} {held:Bool} {r:Reach} {v:Value} {d:DataW H} {ps:List MemPlace} (hval:Value.okWide Tryz.prog w r b0 27 v) (hd:DataW.Trod enc Tryz.prog w base spare held 27 v d ps) :
 ∃ p0 p1:Nat,p0<256/\p1<256/\v=.agg #[.int .u8 p0,.int .u8 p1]:=by
 obtain⟨cs,rfl,hsz⟩:∃ cs,v=.agg cs/\cs.size=Tryz.prog.cellsOf 27:=by
  have h:=hval;simp[Value.okWide,Tryz.underlying27] at h;obtain⟨cs,h1,h2,_⟩:=h;exact⟨cs,h1,h2⟩
 rw[show Tryz.prog.cellsOf 27=2 by kernel_rfl] at hsz;obtain⟨l⟩:=cs
 match l,hsz with
 | [c0,c1],_ =>
   obtain⟨fuel,hf⟩:=hd;obtain⟨y0,y1,m,hy0,hy1⟩:=Zrz Tryz.underlying27 (by kernel_rfl) hf;obtain⟨x0,e0,rfl,w0⟩:=DataW.trod_int Tryz.underlying5 hy0;obtain⟨x1,e1,rfl,w1⟩:=DataW.trod_int Tryz.underlying5 hy1;simp at e0 e1;subst e0 e1;obtain⟨p0,rfl,h0⟩:=Zxp w0;obtain⟨p1,rfl,h1⟩:=Zxp w1;exact⟨p0,p1,h0,h1,rfl⟩
end Go.Proofs.YtmofaapnkidioaaGreat
