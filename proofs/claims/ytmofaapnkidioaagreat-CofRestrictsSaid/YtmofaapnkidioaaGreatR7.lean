/- Several texts in one file: contracts of the program's functions and what follows from them. -/
import Derived.Test.YtmofaapnkidioaaGreatR6
import Derived.Deep.CutBlock
import Derived.Deep.WholeRow
set_option linter.unusedSimpArgs false
set_option linter.unusedVariables false
set_option linter.unusedSectionVars false
set_option linter.unnecessarySimpa false
set_option maxRecDepth 100000
set_option maxHeartbeats 8000000
namespace Go.Proofs.YtmofaapnkidioaaGreat
open Go.RowKit
theorem Zjt (args:Array Value) (w:World):(callFunc 82 args).run Tryz.prog w=.ok (.enter 82 args) w:=enters_of Tryz.func82 (by kernel_rfl) rfl args w
theorem Zj6 (args:Array Value) (w:World):(callFunc 159 args).run Tryz.prog w=.ok (.enter 159 args) w:=enters_of Tryz.func159 (by kernel_rfl) rfl args w
theorem Zi9 (args:Array Value) (w:World):(callFunc 87 args).run Tryz.prog w=.ok (.enter 87 args) w:=enters_of Tryz.func87 (by kernel_rfl) rfl args w
theorem Znn (args:Array Value) (w:World):(callFunc 88 args).run Tryz.prog w=.ok (.enter 88 args) w:=enters_of Tryz.func88 (by kernel_rfl) rfl args w
def Ybw (ord:List Nat) (op:Int) (A B _C R:BF):Prop:=SatF B->(op=1700\/op=1701->RelC ord A B R)/\(op=1702->RelR ord A B R)
def Za2:Law:=Zif Ybw
theorem Zbk:Zci Za2:=Zuj Ybw
theorem Ycb {op:Int} (h:op=1700\/op=1701):Zut Za2 op RelC:=fun d V a b r=>by
 unfold Za2;rw[Zls (by omega)];constructor
 ·
  rintro⟨q1,q2,_,q3,q4⟩;exact⟨q1,q2,q3,fun hs=>(q4 hs).1 h⟩
 ·
  rintro⟨q1,q2,q3,q4⟩;exact⟨q1,q2,.inl rfl,q3,fun hs=>⟨fun _=>q4 hs,fun e=>by omega⟩⟩
theorem Ycp:Zut Za2 1702 RelR:=fun d V a b r=>by
 unfold Za2;rw[Zls (by omega)];constructor
 ·
  rintro⟨q1,q2,_,q3,q4⟩;exact⟨q1,q2,q3,fun hs=>(q4 hs).2 rfl⟩
 ·
  rintro⟨q1,q2,q3,q4⟩;exact⟨q1,q2,.inl rfl,q3,fun hs=>⟨fun e=>by omega,fun _=>q4 hs⟩⟩
section
variable {K:Law} {n k:Nat} {Od:List Nat->Prop} {room:Nat} {w0:World} {fs:List (Int×BF)} {nx:Int} {o o':Own} {w w1 W:World} {mb xb:Nat} {m:ManD} {V:Nat->BF} {ws0:List Ev}
theorem Zs5:AtOK K n (fun _ _=>False) xb mb (fun _=>True) (fun _=>False) 82 #[]:=by
 intro o W m V v f0 f1 c0 c1 hm hlt hx hk hn _ _ h0 h1 h2 h3;obtain⟨P,hP⟩:∃ P:Ending->World->Prop,P=fun e w'=>(∃ (r:Nat) (ok:Bool) (o':Own) (m':ManD) (V':Nat->BF),e=.returned (.tuple #[.int .i64 r,.bool ok])/\AtC K (2^n-1) o W mb m V o' w' m' V'/\(ok=true->False/\okE (Zab m'.d) r/\∀ ρ,ef V' r ρ=(ef V c0 ρ||ef V c1 ρ))/\(ok=false->¬ False)) \/
  (∃ er evt ev,e=Zbv er evt ev/\Zna K (2^n-1) o W mb m V er evt ev w'):=⟨_,rfl⟩
 have HF:Hid (P (.returned (.tuple #[.int .i64 0,.bool false])) W):=Hd (by
  rw[hP];exact .inl ⟨0,false,o,m,V,rfl,(AtC.refl hm hlt hk).mono (Nat.zero_le _),(fun e=>by cases e),(fun _ e=>e)⟩)
 show Calls _ _ #[_,_,_,_,_] _ _
 rw[<- hP];clear hP hm hlt hx hk hn h0 h1 h2 h3
 go_enter Tryz.func82,Tryz.ntmps82
 go_wp2_with fail;exact HF.out
theorem Zy3 (hK:Zci K) {bx:Nat}:AtOK K n (fun F0 F1=>F0=F1) xb mb (fun W=>W.cell? ⟨bx,0,none⟩=some (.pointer (some ⟨xb,0,none⟩))) (fun q=>q=bx) 159 #[.pointer (some ⟨bx,0,none⟩)]:=by
 intro o W m V v f0 f1 c0 c1 hm hlt hx hk hn cb _ h0 h1 h2 h3;obtain⟨P,hP⟩:∃ P:Ending->World->Prop,P=fun e w'=>(∃ (r:Nat) (ok:Bool) (o':Own) (m':ManD) (V':Nat->BF),e=.returned (.tuple #[.int .i64 r,.bool ok])/\AtC K (2^n-1) o W mb m V o' w' m' V'/\(ok=true->ef V f0=ef V f1/\okE (Zab m'.d) r/\∀ ρ,ef V' r ρ=(ef V c0 ρ||ef V c1 ρ))/\(ok=false->¬ ef V f0=ef V f1)) \/
  (∃ er evt ev,e=Zbv er evt ev/\Zna K (2^n-1) o W mb m V er evt ev w'):=⟨_,rfl⟩
 have hcan:ef V f0=ef V f1↔f0=f1:=hk.dag.canon_iff h0 h1;have HNE:Hid (¬ f0=f1->P (.returned (.tuple #[.int .i64 0,.bool false])) W):=Hd fun e=>by
  rw[hP];exact .inl ⟨0,false,o,m,V,rfl,(AtC.refl hm hlt hk).mono (Nat.zero_le _),(fun e=>by cases e),(fun _ h=>e (hcan.1 h))⟩
 have HIT:Hid (f0=f1->Calls Tryz.prog 79 #[.pointer (some ⟨xb,0,none⟩),.int .i64 c0,.int .i64 (0:Nat),.int .i64 c1] W fun e w'=>(∃ r:Nat,e=.returned (.int .i64 r)/\P (.returned (.tuple #[.int .i64 r,.bool true])) w')\/(∃ er evt ev,e=Zbv er evt ev/\P (Zbv er evt ev) w')):=Hd fun e=>by
  refine(Zni hK hm hlt hx hk hn c0 0 c1 h2 (.inl rfl) h3).mono ?_;rintro x w' (⟨r,o',m',V',rfl,q1,q2,q3⟩|⟨er,evt,ev,rfl,hst⟩)
  ·
   refine .inl ⟨r,rfl,?_⟩;rw[hP];refine .inl ⟨r,true,o',m',V',rfl,q1,fun _=>⟨hcan.2 e,q2,fun ρ=>?_⟩,(fun e=>by cases e)⟩;rw[show ef V' r=_ from q3,show ef V 0=fun _=>true from hk.dag.ef0]
   show iteB (ef V c0 ρ) true (ef V c1 ρ)=_
   cases ef V c0 ρ<;>cases ef V c1 ρ<;>rfl
  ·
   refine .inr ⟨er,evt,ev,rfl,?_⟩;rw[hP];exact .inr ⟨er,evt,ev,rfl,hst⟩
 show Calls _ _ #[_,_,_,_,_,_] _ _
 rw[<- hP];clear hP hm hlt hx hk hn h0 h1 h2 h3 hcan hK
 by_cases he:f0=f1
 ·
  have HI:=Hd (HIT.out he);have hb:(((f0:Nat):Int) != ((f1:Nat):Int))=false:=by subst he;simp
  clear HIT HNE he
  go_enter Tryz.func159,Tryz.ntmps159
  go_wp2_with fail;refine HI.out.mono ?_;rintro x w' (⟨r,rfl,hp⟩|⟨er,evt,ev,rfl,hp⟩)
  ·
   have HF:=Hd hp;clear hp HI;go_wp2_with fail;exact HF.out
  ·
   have HF:=Hd hp;clear hp HI;unfold Zbv;go_wp2_with fail;exact⟨rfl,HF.out⟩
 ·
  have HF:=Hd (HNE.out he);have hb:(((f0:Nat):Int) != ((f1:Nat):Int))=true:=by rw[bne_iff_ne];omega
  clear HIT HNE he
  go_enter Tryz.func159,Tryz.ntmps159
  go_wp2_with fail;exact HF.out
theorem Zue (hm:Zcu (Za2 m.d V) o w mb m) (hlt:Zaj o w) (hx:Zcy o w xb mb) (hk:Zam m.d V) (hn:m.d.vars.length=n) {f e:Nat} (hf:okE (Zab m.d) f) (he:okE (Zab m.d) e) (hsat:SatF (ef V e)) :
 Calls Tryz.prog 89 #[.pointer (some ⟨xb,0,none⟩),.int .i64 f,.int .i64 e] w (Zb4 Za2 ((2^n-1)*2^n) o w mb m V fun d V' r=>RelR d.vars (ef V f) (ef V e) (ef V' r)):=by
 have hmf:∀ (fn:Fn) (first cap:Array Value) (w:World),(Instr.makeFunc fn first cap).run Tryz.prog w=.ok (.func fn first cap) w:=fun _ _ _ _=>rfl
 obtain⟨w1,hw1⟩:∃ w1,w1=w.alloc (.cells #[.pointer (some ⟨xb,0,none⟩)] 115):=⟨_,rfl⟩;have HW1:Hid (_=w1):=Hd hw1.symm;have hb1:Below w.heap.size w w1:=by rw[hw1];exact Zad _ _
 have cb:w1.cell? ⟨w.heap.size,0,none⟩=some (.pointer (some ⟨xb,0,none⟩)):=by rw[hw1];exact cell1 (heap_alloc_new _ _)
 have hat1:AtC Za2 0 o w mb m V o w1 m V:=(AtC.refl hm hlt hk).below hb1;obtain⟨N,hN⟩:∃ N,N=(2^n-1)*2^n:=⟨_,rfl⟩;obtain⟨P,hP⟩:∃ P:Ending->World->Prop,P=Zb4 Za2 N o w mb m V fun d V' r=>RelR d.vars (ef V f) (ef V e) (ef V' r):=⟨_,rfl⟩
 have hcall:=Zie (Bw:=fun W=>W.cell? ⟨w.heap.size,0,none⟩=some (.pointer (some ⟨xb,0,none⟩))) (T:=fun q=>q=w.heap.size) (xb:=xb) Zbk Ybm Ycp (fun W W' h hk=>(World.cell?_of_block (w:=W) (a:=⟨w.heap.size,0,none⟩) (hk _ rfl)).trans h) (Zy3 Zbk) Zj6 hat1.st.is hat1.st.lt ⟨(hb1.cell (p:=⟨xb,0,none⟩) (Zaa hx.cell)).trans hx.cell,hx.own⟩ hk hn cb (fun q hq=>by subst hq;exact⟨Zaa cb,hlt.none (Nat.le_refl _)⟩) hf he hsat;rw[<- hN] at hcall ⊢
 have HCALL:Hid (Calls Tryz.prog 80 #[.pointer (some ⟨xb,0,none⟩),.int .i64 1702,.int .i64 f,.int .i64 e,.func (.func 159) #[] #[.pointer (some ⟨w.heap.size,0,none⟩)]] w1 fun x w'=>(∃ r:Nat,x=.returned (.int .i64 r)/\P x w')\/∃ er evt ev,x=Zbv er evt ev/\P x w'):=Hd (hcall.mono fun x w' hx=>by
  have hx2:P x w':=by
   rw[hP];exact Zb4.base hat1 (by omega) hx
  rcases hx.kind with ⟨r,rfl⟩|⟨er,evt,ev,rfl⟩
  ·
   exact .inl ⟨r,rfl,hx2⟩
  ·
   exact .inr ⟨er,evt,ev,rfl,hx2⟩)
 rw[<- hP];clear hP hcall hm hlt hx hk hn hf he hsat hb1 hat1 hw1 hN
 go_enter Tryz.func89,Tryz.ntmps89
 go_upto_region 1 with fail;rw[HW1.out];go_wp2_with fail;refine HCALL.out.mono ?_;rintro x w6 (⟨r,rfl,hp⟩|⟨er,evt,ev,rfl,hp⟩)
 ·
  have HF:=Hd hp;clear hp HCALL;go_wp2_with fail;exact HF.out
 ·
  have HF:=Hd hp;clear hp HCALL;unfold Zbv;go_wp2_with fail;exact⟨rfl,HF.out⟩
theorem Zdg (h:SatE K n Od room w0 mb fs nx w o m V) {a:Option Addr} {c:Nat} {ks:List Int} (hz:Zax w a ks) {er:Int} (her:(er=0/\∀ k∈ks,known fs k)\/(er=8/\∃ k∈ks,¬ known fs k)) :
 Calls Tryz.prog 73 #[.pointer (some ⟨mb,0,none⟩),.slice a ks.length c] w fun x w'=>x=.returned (.int .i64 er)/\w=w':=by
 have HZ:=Hd hz;have hzl:=hz.len;have HIS:Hid (∀ k b,(b=true↔known fs k)->Calls Tryz.prog 36 #[.pointer (some ⟨mb,0,none⟩),.int .i64 k] w fun x w'=>x=.returned (.bool b)/\w=w'):=Hd fun k b hb=>Zlc h k hb
 obtain⟨P,hP⟩:∃ P:Ending->World->Prop,P=fun x w'=>x=.returned (.int .i64 er)/\w=w':=⟨_,rfl⟩
 have HBAD:Hid (∀ k∈ks,¬ known fs k->P (.returned (.int .i64 8)) w):=Hd fun k hk hn=>by
  rw[hP];rcases her with ⟨_,h2⟩|⟨rfl,_⟩
  ·
   exact absurd (h2 k hk) hn
  ·
   exact⟨rfl,rfl⟩
 have HGOOD:Hid ((∀ q,q<ks.length->known fs (at0 ks q))->P (.returned (.int .i64 0)) w):=Hd fun hq=>by
  rw[hP];rcases her with ⟨rfl,_⟩|⟨_,k,hk,hn⟩
  ·
   exact⟨rfl,rfl⟩
  ·
   obtain⟨q,hq1,rfl⟩:=List.getElem_of_mem hk;have:=hq q hq1;rw[Zce hq1] at this;exact absurd this hn
 rw[<- hP];clear hP h hz her
 go_enter Tryz.func73,Tryz.ntmps73
 go_wp2_with fail
 go_loopw [4,6,11] (fun _ _ s11 wr=>∃ j:Nat,j<=ks.length/\s11=.int .i64 j/\wr=w/\Hid (∀ q,q<j->known fs (at0 ks q))) (fun _ _ s11 _=>ks.length-(intOf s11).toNat)
 case atStart=>exact⟨0,Nat.zero_le _,rfl,rfl,Hd fun q hq=>by omega⟩
 case round =>
  obtain⟨j,hj,rfl,rfl,HQ⟩:=hrel
  by_cases hlt:j<ks.length
  ·
   have hjz:(j:Int)<(ks.length:Int):=by omega
   obtain⟨b,off,rfl,ck⟩:=HZ.out.cells j hlt;obtain⟨z,hz⟩:∃ z,z=at0 ks j:=⟨_,rfl⟩;rw[<- hz] at ck;have HIN:Hid (z∈ks):=Hd (by rw[hz,Zce hlt];exact List.getElem_mem hlt);have HZE:=Hd hz;clear hz
   by_cases hkn:known fs z
   ·
    have HI:=Hd (HIS.out z true (by simp[hkn]));have HQ2:Hid (∀ q,q<j+1->known fs (at0 ks q)):=Hd fun q hq=>by
     rcases Nat.lt_or_ge q j with h|h
     ·
      exact HQ.out q h
     ·
      obtain rfl:q=j:=by omega
      rw[<- HZE.out];exact hkn
    clear hkn;go_wp2_with fail;refine HI.out.mono ?_;rintro x w' ⟨rfl,rfl⟩;go_wp2_with fail;go_roundw
    case rel=>exact⟨j+1,by omega,by go_num,by trivial,HQ2⟩
    case measure=>simp[intOf];omega
   ·
    have HI:=Hd (HIS.out z false (by simp[hkn]));have HF:=Hd (HBAD.out z HIN.out hkn);clear hkn;go_wp2_with fail;refine HI.out.mono ?_;rintro x w' ⟨rfl,rfl⟩;go_wp2_with fail;exact HF.out
  ·
   obtain rfl:j=ks.length:=by omega
   have hjz:¬ (ks.length:Int)<(ks.length:Int):=by omega
   have HF:=Hd (HGOOD.out HQ.out);go_wp2_with fail;exact HF.out
theorem Zo0 (hm:Zcu (Za2 m.d V) o w mb m) (hlt:Zaj o w) (hx:Zcy o w xb mb) (hk:Zam m.d V) (hn:m.d.vars.length=n) (hnd:(m.hs.map Prod.fst).Nodup) {kf kc:Int} {f e bf bc:Nat} (hkf:(kf,f)∈m.hs) (hkc:(kc,e)∈m.hs) (hf:okE (Zab m.d) f) (he:okE (Zab m.d) e) (hsat:SatF (ef V e)) (cf:w.cell? ⟨bf,0,none⟩=some (.int .i64 kf)) (cc:w.cell? ⟨bc,0,none⟩=some (.int .i64 kc)) (hof:o bf=none) (hoc:o bc=none) :
 Calls Tryz.prog 87 #[.pointer (some ⟨xb,0,none⟩),.pointer (some ⟨bf,0,none⟩),.pointer (some ⟨bc,0,none⟩)] w (Zb4 Za2 ((2^n-1)*2^n) o w mb m V fun d V' r=>RelC d.vars (ef V f) (ef V e) (ef V' r)):=by
 have hbd:Below w.heap.size w w.drew:=Zag w 1;have hat1:AtC Za2 0 o w mb m V o w.drew m V:=(AtC.refl hm hlt hk).below hbd;have hxd:Zcy o w.drew xb mb:=⟨(hbd.cell (p:=⟨xb,0,none⟩) (Zaa hx.cell)).trans hx.cell,hx.own⟩;have HEF:=Hd (Zb8 hat1.st.is hxd hnd hkf);have HEC:=Hd (Zb8 hat1.st.is hxd hnd hkc);have k1:w.drew.cell? ⟨bf,0,none⟩=some (.int .i64 kf):=cf;have k2:w.drew.cell? ⟨bc,0,none⟩=some (.int .i64 kc):=cc;obtain⟨N,hN⟩:∃ N,N=(2^n-1)*2^n:=⟨_,rfl⟩;obtain⟨P,hP⟩:∃ P:Ending->World->Prop,P=Zb4 Za2 N o w mb m V fun d V' r=>RelC d.vars (ef V f) (ef V e) (ef V' r):=⟨_,rfl⟩
 have hcall:=Zie (Bw:=fun _=>True) (T:=fun _=>False) (xb:=xb) Zbk Zw5 (Ycb (.inr rfl)) (fun _ _ h _=>h) Zs5 Zjt hat1.st.is hat1.st.lt hxd hk hn trivial (fun q hq=>hq.elim) hf he hsat;rw[<- hN] at hcall ⊢
 have HCALL:Hid (Calls Tryz.prog 80 #[.pointer (some ⟨xb,0,none⟩),.int .i64 1701,.int .i64 f,.int .i64 e,.func (.func 82) #[] #[]] w.drew fun x w'=>(∃ u,x=.returned u/\(w'.cell? ⟨bf,0,none⟩=some (.int .i64 kf)/\w'.cell? ⟨bc,0,none⟩=some (.int .i64 kc))/\∃ r:Nat,u=.int .i64 r/\P (.returned (.int .i64 r)) w')\/(∃ ch,x=.panicked ch/\P (.panicked ch) w')):=Hd (hcall.mono fun x w' hx=>by
  have hx2:P x w':=by
   rw[hP];exact Zb4.base hat1 (by omega) hx
  rcases hx with ⟨r,o2,m2,V2,rfl,q1,_⟩|⟨er,evt,ev,rfl,_⟩
  ·
   exact .inl ⟨_,rfl,⟨q1.st.chg.cell k1 hof,q1.st.chg.cell k2 hoc⟩,r,rfl,hx2⟩
  ·
   exact .inr ⟨_,rfl,hx2⟩)
 rw[<- hP];clear hP hcall hm hlt hx hk hn hf he hsat hbd hat1 hxd hN hnd hkf hkc cf cc hof hoc
 go_enter Tryz.func87,Tryz.ntmps87
 go_upto_region 1 with fail;refine Zf7 [0,1,2,4,5,3,6,7,8] (fun W=>W.cell? ⟨bf,0,none⟩=some (.int .i64 kf)/\W.cell? ⟨bc,0,none⟩=some (.int .i64 kc)) (fun ch w'=>P (.panicked ch) w') (fun c a w hd h=>⟨hd,h⟩) (by kernel_rfl) ⟨k1,k2⟩ ?_
 iterate 5
  refine Zed rfl rfl (by kernel_rfl) ?_;apply Exists.intro;refine⟨fun w' hw=>?_,?_⟩
  ·
   obtain⟨q1,q2⟩:=hw;go_simp;rfl
  simp only[Zaf]
 refine Zfh (R1:=fun u w'=>u=.int .i64 (f:Nat)/\w.drew=w') rfl (by kernel_rfl) rfl rfl (by go_simp) (HEF.out.mono fun x w' h=>⟨_,h.1,rfl,h.2⟩) (by rintro u w' ⟨_,rfl⟩;exact⟨k1,k2⟩) ?_;rintro u w'-⟨rfl,rfl⟩;simp only[Zaf];refine Zfh (R1:=fun u w'=>u=.int .i64 (e:Nat)/\w.drew=w') rfl (by kernel_rfl) rfl rfl (by go_simp) (HEC.out.mono fun x w' h=>⟨_,h.1,rfl,h.2⟩) (by rintro u w' ⟨_,rfl⟩;exact⟨k1,k2⟩) ?_;rintro u w'-⟨rfl,rfl⟩;simp only[Zaf];refine Zic rfl (by kernel_rfl) rfl rfl (by go_simp) HCALL.out ?_;rintro u w8 hS8 ⟨r,rfl,hp⟩;have HF:=Hd hp;clear hp hS8 HCALL;simp only[Zaf];refine Zed rfl rfl (by kernel_rfl) ?_;apply Exists.intro;refine⟨fun w' hw=>?_,?_⟩
 ·
  clear hw;go_simp;rfl
 simp only[Zaf];refine Zlk (by kernel_rfl) ?_;clear k1 k2;go_wp2_with fail;exact HF.out
theorem Zy2 (hm:Zcu (Za2 m.d V) o w mb m) (hlt:Zaj o w) (hx:Zcy o w xb mb) (hk:Zam m.d V) (hn:m.d.vars.length=n) (hnd:(m.hs.map Prod.fst).Nodup) {kf kc:Int} {f e bf bc:Nat} (hkf:(kf,f)∈m.hs) (hkc:(kc,e)∈m.hs) (hf:okE (Zab m.d) f) (he:okE (Zab m.d) e) (hsat:SatF (ef V e)) (cf:w.cell? ⟨bf,0,none⟩=some (.int .i64 kf)) (cc:w.cell? ⟨bc,0,none⟩=some (.int .i64 kc)) (hof:o bf=none) (hoc:o bc=none) :
 Calls Tryz.prog 88 #[.pointer (some ⟨xb,0,none⟩),.pointer (some ⟨bf,0,none⟩),.pointer (some ⟨bc,0,none⟩)] w (Zb4 Za2 ((2^n-1)*2^n) o w mb m V fun d V' r=>RelR d.vars (ef V f) (ef V e) (ef V' r)):=by
 have hbd:Below w.heap.size w w.drew:=Zag w 1;have hat1:AtC Za2 0 o w mb m V o w.drew m V:=(AtC.refl hm hlt hk).below hbd;have hxd:Zcy o w.drew xb mb:=⟨(hbd.cell (p:=⟨xb,0,none⟩) (Zaa hx.cell)).trans hx.cell,hx.own⟩;have HEF:=Hd (Zb8 hat1.st.is hxd hnd hkf);have HEC:=Hd (Zb8 hat1.st.is hxd hnd hkc);have k1:w.drew.cell? ⟨bf,0,none⟩=some (.int .i64 kf):=cf;have k2:w.drew.cell? ⟨bc,0,none⟩=some (.int .i64 kc):=cc;obtain⟨N,hN⟩:∃ N,N=(2^n-1)*2^n:=⟨_,rfl⟩;obtain⟨P,hP⟩:∃ P:Ending->World->Prop,P=Zb4 Za2 N o w mb m V fun d V' r=>RelR d.vars (ef V f) (ef V e) (ef V' r):=⟨_,rfl⟩
 have hcall:=Zue hat1.st.is hat1.st.lt hxd hk hn hf he hsat;rw[<- hN] at hcall ⊢
 have HCALL:Hid (Calls Tryz.prog 89 #[.pointer (some ⟨xb,0,none⟩),.int .i64 f,.int .i64 e] w.drew fun x w'=>(∃ u,x=.returned u/\(w'.cell? ⟨bf,0,none⟩=some (.int .i64 kf)/\w'.cell? ⟨bc,0,none⟩=some (.int .i64 kc))/\∃ r:Nat,u=.int .i64 r/\P (.returned (.int .i64 r)) w')\/(∃ ch,x=.panicked ch/\P (.panicked ch) w')):=Hd (hcall.mono fun x w' hx=>by
  have hx2:P x w':=by
   rw[hP];exact Zb4.base hat1 (by omega) hx
  rcases hx with ⟨r,o2,m2,V2,rfl,q1,_⟩|⟨er,evt,ev,rfl,_⟩
  ·
   exact .inl ⟨_,rfl,⟨q1.st.chg.cell k1 hof,q1.st.chg.cell k2 hoc⟩,r,rfl,hx2⟩
  ·
   exact .inr ⟨_,rfl,hx2⟩)
 rw[<- hP];clear hP hcall hm hlt hx hk hn hf he hsat hbd hat1 hxd hN hnd hkf hkc cf cc hof hoc
 go_enter Tryz.func88,Tryz.ntmps88
 go_upto_region 1 with fail;refine Zf7 [0,1,2,4,5,3,6,7,8] (fun W=>W.cell? ⟨bf,0,none⟩=some (.int .i64 kf)/\W.cell? ⟨bc,0,none⟩=some (.int .i64 kc)) (fun ch w'=>P (.panicked ch) w') (fun c a w hd h=>⟨hd,h⟩) (by kernel_rfl) ⟨k1,k2⟩ ?_
 iterate 5
  refine Zed rfl rfl (by kernel_rfl) ?_;apply Exists.intro;refine⟨fun w' hw=>?_,?_⟩
  ·
   obtain⟨q1,q2⟩:=hw;go_simp;rfl
  simp only[Zaf]
 refine Zfh (R1:=fun u w'=>u=.int .i64 (f:Nat)/\w.drew=w') rfl (by kernel_rfl) rfl rfl (by go_simp) (HEF.out.mono fun x w' h=>⟨_,h.1,rfl,h.2⟩) (by rintro u w' ⟨_,rfl⟩;exact⟨k1,k2⟩) ?_;rintro u w'-⟨rfl,rfl⟩;simp only[Zaf];refine Zfh (R1:=fun u w'=>u=.int .i64 (e:Nat)/\w.drew=w') rfl (by kernel_rfl) rfl rfl (by go_simp) (HEC.out.mono fun x w' h=>⟨_,h.1,rfl,h.2⟩) (by rintro u w' ⟨_,rfl⟩;exact⟨k1,k2⟩) ?_;rintro u w'-⟨rfl,rfl⟩;simp only[Zaf];refine Zic rfl (by kernel_rfl) rfl rfl (by go_simp) HCALL.out ?_;rintro u w8 hS8 ⟨r,rfl,hp⟩;have HF:=Hd hp;clear hp hS8 HCALL;simp only[Zaf];refine Zed rfl rfl (by kernel_rfl) ?_;apply Exists.intro;refine⟨fun w' hw=>?_,?_⟩
 ·
  clear hw;go_simp;rfl
 simp only[Zaf];refine Zlk (by kernel_rfl) ?_;clear k1 k2;go_wp2_with fail;exact HF.out
end
open Go.RowKit
section
variable {K:Law} {n k:Nat} {Od:List Nat->Prop} {room:Nat} {w0:World} {fs:List (Int×BF)} {nx:Int} {o o':Own} {w w1 W:World} {mb xb:Nat} {m:ManD} {V:Nat->BF} {ws0:List Ev}
def NewA (K:Law) (n room:Nat) (w0:World) (mb:Nat) (fs:List (Int×BF)) (nx:Int) (ws0:List Ev) (A:List Nat->BF->Prop) (o:Own) (w:World) (x:Ending) (w':World):Prop :=
 x=.returned (.tuple #[.int .i64 nx,.int .i64 0])/\∃ F o' m' V',ChgX NoB o o' w w'/\m'.waits <:+ ws0/\SatE K n (fun _=>True) room w0 mb (fs++[(nx,F)]) (nx+1) w' o' m' V'/\A m'.d.vars F
theorem Ybj {C:Nat->Prop} {B:World->Prop} {gop:Nat} {lop:Array Value} {A:List Nat->BF->Prop} (ws0:List Ev) (hhap:∀ ev∈ws0,HapG K n Od room w0 mb fs nx ev)
 (hB:∀ W W',B W->(∀ c,C c->W'.heap[c]?=W.heap[c]?)->B W')
 (hop:∀ (o:Own) (W:World) (m:ManD) (V:Nat->BF) (xb:Nat),SatE K n Od room w0 mb fs nx W o m V->B W->(∀ k,C k->k<W.heap.size/\o k=none)->Zcy o W xb mb->¬ C xb->Calls Tryz.prog gop (#[.pointer (some ⟨xb,0,none⟩)]++lop) W (Zb4 K k o W mb m V fun d V' r=>A d.vars (ef V' r))) :
 OpG K n Od room w0 mb fs nx C B (StL ws0 none) gop lop (fun _ m V r=>A m.d.vars (ef V r)/\m.waits <:+ ws0) (EL (SatX K n Od room w0 mb fs nx) k ws0 none):=by
 intro o W m V xb hsat hb hC hst hcx hnx;refine(hop o W m V xb hsat hb hC hcx hnx).mono ?_;have hkeep:∀ {o':Own} {w':World} {m':ManD} {V':Nat->BF},Step K o W mb m V o' w' m' V'->B w':=fun st=>hB _ _ hb fun c hc=>st.chg.alien (hC c hc).1 (hC c hc).2
 rintro e w' (⟨r,o',m',V',rfl,h1,h2,h3⟩|⟨er,evt,ev,rfl,o',m',V',st,⟨rfl,rfl,rfl,a4,a5,a6⟩|⟨rfl,rfl,a3⟩⟩)
 ·
  exact⟨o',m',V',h1.st.toX _,hkeep h1.st,.inl ⟨r,rfl,h2,h3,by rw[h1.waits];exact hst.1⟩⟩
 ·
  exact⟨o',m',V',st.toX _,hkeep st,.inr (.inl ⟨7,rfl,by omega,a4,⟨by unfold Zik;rw[a4];exact hst.1,fun M e=>by cases e⟩,rfl,rfl,⟨_,_,_,hsat⟩,a5,a6,by rw[a4];exact hst.1⟩)⟩
 ·
  have hst':m.waits <:+ ws0:=hst.1;rw[a3] at hst';exact⟨o',m',V',st.toX _,hkeep st,.inr (.inr ⟨ev,rfl,a3,fun _ _ _ _ _ e _ _=>⟨by unfold Zik;rw[e];exact(List.suffix_cons ev m'.waits).trans hst',fun M e=>by cases e⟩,hhap ev (hst'.subset (List.mem_cons_self ..))⟩)⟩
theorem Zzz {C:Nat->Prop} {B:World->Prop} {gop:Nat} {lop:Array Value} {A:List Nat->BF->Prop} (hK:Zci K) (eg:∀ args w,(callFunc gop args).run Tryz.prog w=.ok (.enter gop args) w) (ws0:List Ev)
 (hB:∀ W W',B W->(∀ c,C c->W'.heap[c]?=W.heap[c]?)->B W')
 (hop:∀ (o:Own) (W:World) (m:ManD) (V:Nat->BF) (xb:Nat),SatE K n (fun _=>True) room w0 mb fs nx W o m V->B W->(∀ k,C k->k<W.heap.size/\o k=none)->Zcy o W xb mb->¬ C xb->Calls Tryz.prog gop (#[.pointer (some ⟨xb,0,none⟩)]++lop) W (Zb4 K k o W mb m V fun d V' r=>A d.vars (ef V' r)))
 (h:SatE K n (fun _=>True) room w0 mb fs nx w o m V) (hb1:Below w.heap.size w w1) (hC:∀ c,C c->c<w1.heap.size/\(w.heap.size<=c\/(w0.heap.size<=c/\o c=none/\∀ W,B W->W.heap[c]?=w.heap[c]?))) (hb:B w1) (hst:m.waits <:+ ws0) (hn:nx<=549755813888) (hr:fs.length*2^n+k<=room) :
 Calls Tryz.prog 75 #[.pointer (some ⟨mb,0,none⟩),.func (.func gop) #[] lop] w1 (NewA K n room w0 mb fs nx ws0 A o w):=by
 have hw0:=h.chg.size;have hnone:∀ c,C c->o c=none:=fun c hc=>by
  rcases(hC c hc).2 with h1|⟨_,h1,_⟩
  ·
   exact h.lt.none h1
  ·
   exact h1
 refine(Zsd hK hB (fun _ _ _ _ _ h _=>h) StL.coll (fun c hc=>by
  rcases(hC c hc).2 with h1|⟨h1,_,_⟩
  ·
   exact Nat.le_trans hw0 h1
  ·
   exact h1) eg (Ybj (k:=k) (A:=A) ws0 (fun ev _=>Zhf hn ev) hB hop) (h.below hb1) hb (fun c hc=>⟨(hC c hc).1,hnone c hc⟩) ⟨hst,fun _ e=>by cases e⟩ (by omega)).mono ?_
 rintro x w' ⟨o',m',V',hB',hc,⟨r,m1,rfl,hs,⟨q1,q2⟩,_,_,q4,_,_,q3,_⟩|⟨er,m0,_,_,hsf,⟨_,e7,⟨W',oo,VV,hs'⟩,h5,h6,_⟩,h7⟩⟩
 ·
  refine⟨rfl,_,o',m',V',⟨hc.os.trans hb1.os,hc.tape.trans hb1.tape,hc.output.trans hb1.output,Nat.le_trans hb1.size hc.size,fun j hj ho _=>?_,hc.ext,fun j hj=>Nat.le_trans hb1.size (hc.new j hj)⟩,by rw[q3];exact q2,hs,by rw[q4];exact q1⟩
  by_cases hcj:C j
  ·
   rcases(hC j hcj).2 with h1|⟨_,_,h1⟩
   ·
    omega
   ·
    exact h1 w' hB'
  ·
   exact(hc.block j (Nat.lt_of_lt_of_le hj hb1.size) ho hcj).trans (hb1.block j hj)
 ·
  exfalso;have h8:=hs'.few (h7 e7);have h9:=hsf.room;omega
theorem Zeu {C:BF}:¬ SatF C↔C=fun _=>false:=by
 constructor
 ·
  intro h;funext ρ;cases hr:C ρ with
  | false=>rfl
  | true=>exact absurd ⟨ρ,hr⟩ h
 ·
  rintro rfl ⟨ρ,h⟩;cases h
theorem Zkc (h:SatE K n Od room w0 mb fs nx w o m V) (h0:(0,fun _=>false)∈fs) {kf kc:Int} {F C:BF} (hf:(kf,F)∈fs) (hc:(kc,C)∈fs) {er:Int} (her:(SatF C/\er=0)\/(¬ SatF C/\er=20)) :
 Calls Tryz.prog 86 #[.pointer (some ⟨mb,0,none⟩),.int .i64 kf,.int .i64 kc] w fun x w'=>x=.returned (.int .i64 er)/\Below w.heap.size w w':=by
 obtain⟨w1,hw1⟩:∃ w1,w1=w.alloc (.cells #[.int .i64 kf,.int .i64 kc] 3):=⟨_,rfl⟩;have HW1:Hid (_=w1):=Hd hw1.symm;have hb1:Below w.heap.size w w1:=by rw[hw1];exact Zad _ _
 have hz:Zax w1 (some ⟨w.heap.size,0,none⟩) [kf,kc]:=by rw[hw1];exact Zec w [kf,kc] (by simp)
 have HASK:=Hd (Zdg (h.below hb1) (c:=2) hz (er:=0) (.inl ⟨rfl,fun k hk=>by
  simp only[List.mem_cons,List.not_mem_nil,or_false] at hk;rcases hk with rfl|rfl
  ·
   exact⟨F,hf⟩
  ·
   exact⟨C,hc⟩⟩))
 have HB:=Hd hb1;have hsm:=Zld (h.below hb1) hc h0;rcases her with ⟨hs,rfl⟩|⟨hs,rfl⟩
 ·
  have HSM:Hid (Calls Tryz.prog 22 #[.pointer (some ⟨mb,0,none⟩),.int .i64 kc,.int .i64 0] w1 fun x w'=>x=.returned (.tuple #[.bool false,.int .i64 0])/\w1=w'):=Hd (hsm.mono fun x w' ⟨b,q1,q2,q3⟩=>by
   have:b=false:=by
    cases b with
    | false=>rfl
    | true=>exact absurd hs (Zeu.2 (q2.1 rfl))
   subst this;exact⟨q1,q3⟩)
  clear hsm hw1 hb1 hz h h0 hf hc hs
  go_enter Tryz.func86,Tryz.ntmps86
  go_wp2_with fail;rw[HW1.out];refine HASK.out.mono ?_;rintro x w' ⟨rfl,rfl⟩;go_wp2_with fail;refine HSM.out.mono ?_;rintro x w' ⟨rfl,rfl⟩;go_wp2_with fail;go_ret;exact⟨rfl,HB.out⟩
 ·
  have HSM:Hid (Calls Tryz.prog 22 #[.pointer (some ⟨mb,0,none⟩),.int .i64 kc,.int .i64 0] w1 fun x w'=>x=.returned (.tuple #[.bool true,.int .i64 0])/\w1=w'):=Hd (hsm.mono fun x w' ⟨b,q1,q2,q3⟩=>by
   have:b=true:=q2.2 (Zeu.1 hs);subst this;exact⟨q1,q3⟩)
  clear hsm hw1 hb1 hz h h0 hf hc hs
  go_enter Tryz.func86,Tryz.ntmps86
  go_wp2_with fail;rw[HW1.out];refine HASK.out.mono ?_;rintro x w' ⟨rfl,rfl⟩;go_wp2_with fail;refine HSM.out.mono ?_;rintro x w' ⟨rfl,rfl⟩;go_wp2_with fail;go_ret;exact⟨rfl,HB.out⟩
theorem Zr5 (h:SatE K n Od room w0 mb fs nx w o m V) {kf kc:Int} (hno:¬ known fs kf\/¬ known fs kc) :
 Calls Tryz.prog 86 #[.pointer (some ⟨mb,0,none⟩),.int .i64 kf,.int .i64 kc] w fun x w'=>x=.returned (.int .i64 8)/\Below w.heap.size w w':=by
 obtain⟨w1,hw1⟩:∃ w1,w1=w.alloc (.cells #[.int .i64 kf,.int .i64 kc] 3):=⟨_,rfl⟩;have HW1:Hid (_=w1):=Hd hw1.symm;have hb1:Below w.heap.size w w1:=by rw[hw1];exact Zad _ _
 have hz:Zax w1 (some ⟨w.heap.size,0,none⟩) [kf,kc]:=by rw[hw1];exact Zec w [kf,kc] (by simp)
 have HASK:=Hd (Zdg (h.below hb1) (c:=2) hz (er:=8) (.inr ⟨rfl,by
  rcases hno with h1|h1
  ·
   exact⟨kf,by simp,h1⟩
  ·
   exact⟨kc,by simp,h1⟩⟩))
 have HB:=Hd hb1;clear hw1 hb1 hz h hno
 go_enter Tryz.func86,Tryz.ntmps86
 go_wp2_with fail;rw[HW1.out];refine HASK.out.mono ?_;rintro x w' ⟨rfl,rfl⟩;go_wp2_with fail;go_ret;exact⟨rfl,HB.out⟩
theorem Zgf (h:SatE Za2 n (fun _=>True) room w0 mb fs nx w o m V) (h0:(0,fun _=>false)∈fs) {kf kc:Int} {F C:BF} (hf:(kf,F)∈fs) (hc:(kc,C)∈fs) (hsat:SatF C) (hst:m.waits <:+ ws0) (hn:nx<=549755813888) (hr:fs.length*2^n+(2^n-1)*2^n<=room) :
 Calls Tryz.prog 24 #[.pointer (some ⟨mb,0,none⟩),.int .i64 kf,.int .i64 kc] w (NewA Za2 n room w0 mb fs nx ws0 (fun ord R=>RelC ord F C R) o w):=by
 have hmf:∀ (fn:Fn) (first cap:Array Value) (w:World),(Instr.makeFunc fn first cap).run Tryz.prog w=.ok (.func fn first cap) w:=fun _ _ _ _=>rfl
 obtain⟨w2,hw2,hb2,hz2,c0,c1⟩:=boxes2v w (.int .i64 kf) (.int .i64 kc) 3 3;have HW2:Hid (_=w2):=Hd hw2.symm;have HCARE:=Hd (Zkc (h.below hb2) h0 hf hc (er:=0) (.inl ⟨hsat,rfl⟩));have HB2:=Hd hb2;obtain⟨P,hP⟩:∃ P:Ending->World->Prop,P=NewA Za2 n room w0 mb fs nx ws0 (fun ord R=>RelC ord F C R) o w:=⟨_,rfl⟩;have HDO:Hid (∀ w3,Below w2.heap.size w2 w3->Calls Tryz.prog 75 #[.pointer (some ⟨mb,0,none⟩),.func (.func 87) #[] #[.pointer (some ⟨w.heap.size,0,none⟩),.pointer (some ⟨w.heap.size+1,0,none⟩)]] w3 fun x w'=>∃ p q,x=.returned (.tuple #[.int .i64 p,.int .i64 q])/\P x w'):=Hd fun w3 hb3=>by
  have d0:=(hb3.cell (p:=⟨w.heap.size,0,none⟩) (Zaa c0)).trans c0;have d1:=(hb3.cell (p:=⟨w.heap.size+1,0,none⟩) (Zaa c1)).trans c1
  refine(Zzz (K:=Za2) (C:=fun q=>q=w.heap.size\/q=w.heap.size+1) (B:=fun W=>W.cell? ⟨w.heap.size,0,none⟩=some (.int .i64 kf)/\W.cell? ⟨w.heap.size+1,0,none⟩=some (.int .i64 kc)) (A:=fun ord R=>RelC ord F C R) (k:=(2^n-1)*2^n) (lop:=#[.pointer (some ⟨w.heap.size,0,none⟩),.pointer (some ⟨w.heap.size+1,0,none⟩)]) Zbk Zi9 ws0
   (fun W W' hb hk=>⟨(World.cell?_of_block (w:=W) (a:=⟨w.heap.size,0,none⟩) (hk _ (.inl rfl))).trans hb.1,(World.cell?_of_block (w:=W) (a:=⟨w.heap.size+1,0,none⟩) (hk _ (.inr rfl))).trans hb.2⟩)
   (fun o W m V xb hs hB hC hx _=>?_) h (hb2.trans (hb3.mono hb2.size)) (by
    rintro q (rfl|rfl)
    ·
     exact⟨Zaa d0,.inl (Nat.le_refl _)⟩
    ·
     exact⟨Zaa d1,.inl (by omega)⟩) ⟨d0,d1⟩ hst hn hr).mono ?_
  ·
   obtain⟨f,hf1,hef⟩:=hs.find hf;obtain⟨e,he1,hee⟩:=hs.find hc;have hcall:=Zo0 hs.is hs.lt hx hs.ok.store hs.vars hs.ok.handles.nodup hf1 he1 (hs.ok.handles.ok _ hf1) (hs.ok.handles.ok _ he1) (by rw[show ef V e=C from hee];exact hsat) hB.1 hB.2 (hC _ (.inl rfl)).2 (hC _ (.inr rfl)).2;rw[show ef V f=F from hef,show ef V e=C from hee] at hcall;exact hcall
  ·
   intro x w' hx;exact⟨nx,0,hx.1,by rw[hP];exact hx⟩
 rw[<- hP];clear hP hw2 hb2 hz2 h h0 hf hc hsat hst hn hr
 go_enter Tryz.func24,Tryz.ntmps24
 go_upto_region 1 with fail;rw[HW2.out];go_wp2_with fail;refine HCARE.out.mono ?_;rintro x w3 ⟨rfl,hb3⟩;have HD:=Hd (HDO.out w3 hb3);clear hb3 HDO HCARE c0 c1 HW2;go_wp2_with fail;refine HD.out.mono ?_;rintro x w4 ⟨p,q,rfl,hp⟩;have HF:=Hd hp;clear hp HD;go_wp2_with fail;exact HF.out
theorem Ze1 (h:SatE K n Od room w0 mb fs nx w o m V) {kf kc:Int} {er:Int} (her:(er=8/\(¬ known fs kf\/¬ known fs kc))\/(er=20/\(0,fun _=>false)∈fs/\known fs kf/\(kc,fun _=>false)∈fs)) :
 Calls Tryz.prog 24 #[.pointer (some ⟨mb,0,none⟩),.int .i64 kf,.int .i64 kc] w fun x w'=>x=.returned (.tuple #[.int .i64 0,.int .i64 er])/\Below w.heap.size w w':=by
 obtain⟨w2,hw2,hb2,hz2,c0,c1⟩:=boxes2v w (.int .i64 kf) (.int .i64 kc) 3 3;have HW2:Hid (_=w2):=Hd hw2.symm
 have HCARE:Hid (Calls Tryz.prog 86 #[.pointer (some ⟨mb,0,none⟩),.int .i64 kf,.int .i64 kc] w2 fun x w'=>x=.returned (.int .i64 er)/\Below w2.heap.size w2 w'):=Hd (by
  rcases her with ⟨rfl,h1⟩|⟨rfl,h1,⟨F,h2⟩,h3⟩
  ·
   exact Zr5 (h.below hb2) h1
  ·
   exact Zkc (h.below hb2) h1 h2 h3 (.inr ⟨Zeu.2 rfl,rfl⟩))
 have HB2:=Hd hb2;have hne:(er == 0)=false/\(er != 0)=true:=by rcases her with ⟨rfl,_⟩|⟨rfl,_⟩<;>exact⟨rfl,rfl⟩
 obtain⟨hne1,hne2⟩:=hne;clear hw2 hb2 hz2 h her
 go_enter Tryz.func24,Tryz.ntmps24
 go_upto_region 1 with fail;rw[HW2.out];go_wp2_with fail;refine HCARE.out.mono ?_;rintro x w3 ⟨rfl,hb3⟩;have HF:=Hd (HB2.out.trans (hb3.mono HB2.out.size));clear hb3 HCARE c0 c1 HW2;go_wp2_with fail
 go_ret2
 exact⟨rfl,HF.out⟩
theorem Zk0 (h:SatE Za2 n (fun _=>True) room w0 mb fs nx w o m V) (h0:(0,fun _=>false)∈fs) {kf kc:Int} {F C:BF} (hf:(kf,F)∈fs) (hc:(kc,C)∈fs) (hsat:SatF C) (hst:m.waits <:+ ws0) (hn:nx<=549755813888) (hr:fs.length*2^n+(2^n-1)*2^n<=room) :
 Calls Tryz.prog 25 #[.pointer (some ⟨mb,0,none⟩),.int .i64 kf,.int .i64 kc] w (NewA Za2 n room w0 mb fs nx ws0 (fun ord R=>RelR ord F C R) o w):=by
 have hmf:∀ (fn:Fn) (first cap:Array Value) (w:World),(Instr.makeFunc fn first cap).run Tryz.prog w=.ok (.func fn first cap) w:=fun _ _ _ _=>rfl
 obtain⟨w2,hw2,hb2,hz2,c0,c1⟩:=boxes2v w (.int .i64 kf) (.int .i64 kc) 3 3;have HW2:Hid (_=w2):=Hd hw2.symm;have HCARE:=Hd (Zkc (h.below hb2) h0 hf hc (er:=0) (.inl ⟨hsat,rfl⟩));have HB2:=Hd hb2;obtain⟨P,hP⟩:∃ P:Ending->World->Prop,P=NewA Za2 n room w0 mb fs nx ws0 (fun ord R=>RelR ord F C R) o w:=⟨_,rfl⟩;have HDO:Hid (∀ w3,Below w2.heap.size w2 w3->Calls Tryz.prog 75 #[.pointer (some ⟨mb,0,none⟩),.func (.func 88) #[] #[.pointer (some ⟨w.heap.size,0,none⟩),.pointer (some ⟨w.heap.size+1,0,none⟩)]] w3 fun x w'=>∃ p q,x=.returned (.tuple #[.int .i64 p,.int .i64 q])/\P x w'):=Hd fun w3 hb3=>by
  have d0:=(hb3.cell (p:=⟨w.heap.size,0,none⟩) (Zaa c0)).trans c0;have d1:=(hb3.cell (p:=⟨w.heap.size+1,0,none⟩) (Zaa c1)).trans c1
  refine(Zzz (K:=Za2) (C:=fun q=>q=w.heap.size\/q=w.heap.size+1) (B:=fun W=>W.cell? ⟨w.heap.size,0,none⟩=some (.int .i64 kf)/\W.cell? ⟨w.heap.size+1,0,none⟩=some (.int .i64 kc)) (A:=fun ord R=>RelR ord F C R) (k:=(2^n-1)*2^n) (lop:=#[.pointer (some ⟨w.heap.size,0,none⟩),.pointer (some ⟨w.heap.size+1,0,none⟩)]) Zbk Znn ws0
   (fun W W' hb hk=>⟨(World.cell?_of_block (w:=W) (a:=⟨w.heap.size,0,none⟩) (hk _ (.inl rfl))).trans hb.1,(World.cell?_of_block (w:=W) (a:=⟨w.heap.size+1,0,none⟩) (hk _ (.inr rfl))).trans hb.2⟩)
   (fun o W m V xb hs hB hC hx _=>?_) h (hb2.trans (hb3.mono hb2.size)) (by
    rintro q (rfl|rfl)
    ·
     exact⟨Zaa d0,.inl (Nat.le_refl _)⟩
    ·
     exact⟨Zaa d1,.inl (by omega)⟩) ⟨d0,d1⟩ hst hn hr).mono ?_
  ·
   obtain⟨f,hf1,hef⟩:=hs.find hf;obtain⟨e,he1,hee⟩:=hs.find hc;have hcall:=Zy2 hs.is hs.lt hx hs.ok.store hs.vars hs.ok.handles.nodup hf1 he1 (hs.ok.handles.ok _ hf1) (hs.ok.handles.ok _ he1) (by rw[show ef V e=C from hee];exact hsat) hB.1 hB.2 (hC _ (.inl rfl)).2 (hC _ (.inr rfl)).2;rw[show ef V f=F from hef,show ef V e=C from hee] at hcall;exact hcall
  ·
   intro x w' hx;exact⟨nx,0,hx.1,by rw[hP];exact hx⟩
 rw[<- hP];clear hP hw2 hb2 hz2 h h0 hf hc hsat hst hn hr
 go_enter Tryz.func25,Tryz.ntmps25
 go_upto_region 1 with fail;rw[HW2.out];go_wp2_with fail;refine HCARE.out.mono ?_;rintro x w3 ⟨rfl,hb3⟩;have HD:=Hd (HDO.out w3 hb3);clear hb3 HDO HCARE c0 c1 HW2;go_wp2_with fail;refine HD.out.mono ?_;rintro x w4 ⟨p,q,rfl,hp⟩;have HF:=Hd hp;clear hp HD;go_wp2_with fail;exact HF.out
theorem Zee (h:SatE K n Od room w0 mb fs nx w o m V) {kf kc:Int} {er:Int} (her:(er=8/\(¬ known fs kf\/¬ known fs kc))\/(er=20/\(0,fun _=>false)∈fs/\known fs kf/\(kc,fun _=>false)∈fs)) :
 Calls Tryz.prog 25 #[.pointer (some ⟨mb,0,none⟩),.int .i64 kf,.int .i64 kc] w fun x w'=>x=.returned (.tuple #[.int .i64 0,.int .i64 er])/\Below w.heap.size w w':=by
 obtain⟨w2,hw2,hb2,hz2,c0,c1⟩:=boxes2v w (.int .i64 kf) (.int .i64 kc) 3 3;have HW2:Hid (_=w2):=Hd hw2.symm
 have HCARE:Hid (Calls Tryz.prog 86 #[.pointer (some ⟨mb,0,none⟩),.int .i64 kf,.int .i64 kc] w2 fun x w'=>x=.returned (.int .i64 er)/\Below w2.heap.size w2 w'):=Hd (by
  rcases her with ⟨rfl,h1⟩|⟨rfl,h1,⟨F,h2⟩,h3⟩
  ·
   exact Zr5 (h.below hb2) h1
  ·
   exact Zkc (h.below hb2) h1 h2 h3 (.inr ⟨Zeu.2 rfl,rfl⟩))
 have HB2:=Hd hb2;have hne:(er == 0)=false/\(er != 0)=true:=by rcases her with ⟨rfl,_⟩|⟨rfl,_⟩<;>exact⟨rfl,rfl⟩
 obtain⟨hne1,hne2⟩:=hne;clear hw2 hb2 hz2 h her
 go_enter Tryz.func25,Tryz.ntmps25
 go_upto_region 1 with fail;rw[HW2.out];go_wp2_with fail;refine HCARE.out.mono ?_;rintro x w3 ⟨rfl,hb3⟩;have HF:=Hd (HB2.out.trans (hb3.mono HB2.out.size));clear hb3 HCARE c0 c1 HW2;go_wp2_with fail
 go_ret2
 exact⟨rfl,HF.out⟩
end
open Go.RowKit
structure Zdw (w:World) (a:Option Addr) (l:List (Int×Bool)):Prop where
 len:l.length<=9223372036854775807
 cells:∀ k,∀ hk:k<l.length,∃ b off,a=some ⟨b,off,none⟩/\w.cell? ⟨b,off+k*2,none⟩=some (.int .i64 l[k].1)/\w.cell? ⟨b,off+k*2+1,none⟩=some (.bool l[k].2)
theorem Zdw.keep {w w':World} {a:Option Addr} {l:List (Int×Bool)} (h:Zdw w a l) (hk:l≠[]->∀ x v,a=some x->∀ o,w.cell? ⟨x.block,o,none⟩=some v->w'.cell? ⟨x.block,o,none⟩=some v):Zdw w' a l :=
 ⟨h.len,fun k hkl=>by
  obtain⟨b,off,e,c0,c1⟩:=h.cells k hkl;have hne:l≠[]:=fun e=>by subst e;simp at hkl
  exact⟨b,off,e,hk hne _ _ e _ c0,hk hne _ _ e _ c1⟩⟩
theorem Zdw.below {w w':World} {a:Option Addr} {l:List (Int×Bool)} (h:Zdw w a l) (hb:Below w.heap.size w w'):Zdw w' a l :=
 h.keep fun _ x v _ o hc=>(hb.cell (p:=⟨x.block,o,none⟩) (Zaa hc)).trans hc
theorem Zdw.lt {w:World} {x:Addr} {l:List (Int×Bool)} (h:Zdw w (some x) l) (hl:l≠[]):x.block<w.heap.size:=by
 obtain⟨b,off,e,c0,_⟩:=h.cells 0 (List.length_pos_iff.2 hl);cases e;exact Zaa c0
def Zet (n:Nat) (l:List (Int×Bool)):Int:=if ∀ p∈l,0<=p.1/\p.1<(n:Int) then if (l.map (·.1)).Nodup then 0 else 6 else 9
def ovr:List (Int×Bool)->(Nat->Bool)->Nat->Bool
 | [],ρ=>ρ
 | p::l,ρ=>upd (ovr l ρ) p.1.toNat p.2
def Zcm (l:List (Int×Bool)) (F:BF):BF:=fun ρ=>F (ovr l ρ)
def Zf1 (l:List (Int×Bool)):BF:=fun ρ=>l.all fun p=>ρ p.1.toNat == p.2
theorem Zsp (p:Int×Bool):∀ (l:List (Int×Bool)) (ρ:Nat->Bool),ovr (l++[p]) ρ=ovr l (upd ρ p.1.toNat p.2)
 | [],ρ=>rfl
 | q::l,ρ=>by show upd (ovr (l++[p]) ρ) _ _=upd (ovr l _) _ _;rw[Zsp p l ρ]
theorem Zhk (l:List (Int×Bool)) (p:Int×Bool) (F:BF):Zcm (l++[p]) F=cofF (Zcm l F) p.1.toNat p.2:=by
 funext ρ;rw[Zf0]
 show F (ovr (l++[p]) ρ)=F (ovr l _)
 rw[Zsp]
theorem Zvl (l:List (Int×Bool)) (p:Int×Bool) (ρ:Nat->Bool):Zf1 (l++[p]) ρ=(Zf1 l ρ&&(ρ p.1.toNat == p.2)):=by
 unfold Zf1;rw[List.all_append];simp
theorem Zlj {l:List (Int×Bool)} (h0:∀ p∈l,0<=p.1) (h:(l.map (·.1)).Nodup):l.Pairwise fun p q=>p.1.toNat≠q.1.toNat:=by
 have:=List.pairwise_map.1 h;refine List.Pairwise.imp_of_mem ?_ this;intro a b ha hb hne e;have:=h0 a ha;have:=h0 b hb;exact hne (by omega)
theorem Zkd:∀ {l:List (Int×Bool)},l.Pairwise (fun p q=>p.1.toNat≠q.1.toNat)->∀ ρ,Zf1 l (ovr l ρ)=true
 | [],_,_=>rfl
 | p::l,h,ρ=>by
   obtain⟨h1,h2⟩:=List.pairwise_cons.1 h;unfold Zf1;rw[List.all_eq_true];intro q hq;rw[beq_iff_eq];rcases List.mem_cons.1 hq with rfl|hq
   ·
    exact Zej _ _ _
   ·
    show upd (ovr l ρ) p.1.toNat p.2 q.1.toNat=q.2
    rw[Ze7 _ _ (fun e=>h1 q hq e.symm)];have:=Zkd h2 ρ;unfold Zf1 at this;rw[List.all_eq_true] at this;simpa using this q hq
theorem Zx4 {l:List (Int×Bool)} {p:Int×Bool} (hp:p∈l):¬ SatF (cofF (Zf1 l) p.1.toNat (!p.2)):=by
 rintro⟨ρ,hρ⟩;rw[Zf0] at hρ;unfold Zf1 at hρ;rw[List.all_eq_true] at hρ;have:=hρ p hp;rw[Zej] at this;cases hb:p.2<;>simp_all
theorem Zmk:∀ (l:List Nat) {F C:BF} {v:Nat} {y:Bool},SatF C->¬ SatF (cofF C v (!y))->v∈l->Ind (constrF l F C) v
 | [],_,_,_,_,_,_,h=>by simp at h
 | u::l,F,C,v,y,hs,hn,hm=>by
   by_cases e:u=v
   ·
    subst e;rw[Zml y hs hn];exact Zha l (Zns F u y) (Zns C u y)
   ·
    have hm2:v∈l:=by
     rcases List.mem_cons.1 hm with h|h
     ·
      exact absurd h.symm e
     ·
      exact h
    refine Ind.of fun ρ b=>?_
    show constrF l (cofF F u (conB C u (upd ρ v b u))) (cofF C u (conB C u (upd ρ v b u))) (upd ρ v b)=constrF l (cofF F u (conB C u (ρ u))) (cofF C u (conB C u (ρ u))) ρ
    rw[Ze7 ρ b e]
    have hn2:¬ SatF (cofF (cofF C u (conB C u (ρ u))) v (!y)):=fun⟨ρ',h⟩=>hn ⟨upd ρ' u (conB C u (ρ u)),by
     rw[Zov C e] at h;exact h⟩
    exact(Zmk l (Zng hs u _) hn2 hm2).at ρ b
theorem Zwu {R:BF}:∀ {l:List (Int×Bool)},(∀ p∈l,Ind R p.1.toNat)->∀ ρ,R (ovr l ρ)=R ρ
 | [],_,_=>rfl
 | p::l,h,ρ=>by
   show R (upd (ovr l ρ) p.1.toNat p.2)=R ρ
   rw[(h p (List.mem_cons_self ..)).at];exact Zwu (fun q hq=>h q (List.mem_cons_of_mem _ hq)) ρ
theorem Zq2 {ord:List Nat} {F:BF} {l:List (Int×Bool)} (h0:∀ p∈l,0<=p.1) (hnd:(l.map (·.1)).Nodup) (hm:∀ p∈l,p.1.toNat∈ord):constrF ord F (Zf1 l)=Zcm l F:=by
 have hp:=Zlj h0 hnd;have hs:SatF (Zf1 l):=⟨_,Zkd hp fun _=>false⟩;funext ρ;rw[<- Zwu (fun p hpl=>Zmk ord hs (Zx4 hpl) (hm p hpl)) ρ,Zfe ord (Zkd hp ρ)];rfl
def metL (n:Nat) (l:List (Int×Bool)):List Bool:=(List.range n).map fun v:Nat=>decide ((v:Int)∈l.map (·.1))
theorem Zrh (n:Nat) (l:List (Int×Bool)):(metL n l).length=n:=by simp[metL]
theorem Zyo {n v:Nat} (l:List (Int×Bool)) (h:v<n):(metL n l).getD v false=decide ((v:Int)∈l.map (·.1)):=by
 simp[metL,List.getD,h]
theorem Zyp (n:Nat):metL n []=List.replicate n false:=by
 refine List.ext_getElem (by simp[metL]) fun i h1 h2=>?_
 simp[metL]
theorem Zwh {n:Nat} (l:List (Int×Bool)) {v:Nat} {y:Bool} (h:v<n):metL n (l++[((v:Int),y)])=(metL n l).set v true:=by
 refine List.ext_getElem (by simp[metL]) fun i h1 h2=>?_
 rw[List.getElem_set]
 by_cases e:v=i
 ·
  subst e;simp[metL]
 ·
  rw[if_neg e];simp only[metL,List.getElem_map,List.getElem_range,List.map_append,List.mem_append,List.map_cons,List.map_nil,List.mem_singleton];have:¬ ((i:Int)=(v:Int)):=by omega
  simp[this]
theorem Zmy {l:List Int} {v:Int}:(l++[v]).Nodup↔l.Nodup/\v∉l:=by
 rw[List.nodup_append];constructor
 ·
  rintro⟨h1,_,h3⟩;exact⟨h1,fun hm=>h3 v hm v (by simp) rfl⟩
 ·
  rintro⟨h1,h2⟩;refine⟨h1,by simp,fun a ha b hb e=>?_⟩;simp only[List.mem_singleton] at hb;subst hb;subst e
  exact h2 ha
open Go.RowKit
theorem Zj4 (args:Array Value) (w:World):(callFunc 76 args).run Tryz.prog w=.ok (.enter 76 args) w:=enters_of Tryz.func76 (by kernel_rfl) rfl args w
theorem Zx8 (V:Nat->BF) (r:Nat) (b:Bool):ef V (eflip r b)=if b then notF (ef V r) else ef V r:=by
 cases b with
 | true=>exact Yaw V r
 | false=>rfl
section
variable {K:Law} {n k:Nat} {Od:List Nat->Prop} {room:Nat} {w0:World} {fs:List (Int×BF)} {nx:Int} {o o':Own} {w w1 W:World} {mb xb:Nat} {m:ManD} {V:Nat->BF} {ws0:List Ev}
theorem Zdw.step {m':ManD} {V':Nat->BF} {w':World} {a:Option Addr} {ls:List (Int×Bool)} (h:Zdw w a ls) (s:Step K o w mb m V o' w' m' V') (ha:ls≠[]->∀ x,a=some x->o x.block=none):Zdw w' a ls :=
 h.keep fun hne x v hx _ hc=>s.chg.cell hc (ha hne x hx)
theorem Zq0 (hm:Zcu (Za2 m.d V) o w mb m) (hlt:Zaj o w) (hx:Zcy o w xb mb) (hk:Zam m.d V) (hn:m.d.vars.length=n) (hnd:(m.hs.map Prod.fst).Nodup) {kf:Int} {f bl bf c:Nat} {a:Option Addr} {ls:List (Int×Bool)} (hkf:(kf,f)∈m.hs) (hf:okE (Zab m.d) f) (hok:Zet n ls=0) (hls:Zdw w a ls) (ha:ls≠[]->∀ x,a=some x->o x.block=none) (cl:w.cell? ⟨bl,0,none⟩=some (.slice a ls.length c)) (cf:w.cell? ⟨bf,0,none⟩=some (.int .i64 kf)) (hol:o bl=none) (hof:o bf=none) :
 Calls Tryz.prog 76 #[.pointer (some ⟨xb,0,none⟩),.pointer (some ⟨bl,0,none⟩),.pointer (some ⟨bf,0,none⟩)] w (Zb4 Za2 (ls.length*2^n+(2^n-1)*2^n) o w mb m V fun _ V' r=>ef V' r=Zcm ls (ef V f)):=by
 have hall:∀ p∈ls,0<=p.1/\p.1<(n:Int):=by
  unfold Zet at hok
  by_cases e:∀ p∈ls,0<=p.1/\p.1<(n:Int)
  ·
   exact e
  ·
   rw[if_neg e] at hok;exact absurd hok (by decide)
 have hdup:(ls.map (·.1)).Nodup:=by
  unfold Zet at hok;rw[if_pos hall] at hok
  by_cases e:(ls.map (·.1)).Nodup
  ·
   exact e
  ·
   rw[if_neg e] at hok;exact absurd hok (by decide)
 have hll:=hls.len;have hp2:0<2^n:=Nat.pow_pos (by omega);obtain⟨Q,hQ⟩:∃ Q,Q=2^n:=⟨_,rfl⟩;obtain⟨P,hP⟩:∃ P:Ending->World->Prop,P=Zb4 Za2 (ls.length*Q+(Q-1)*Q) o w mb m V fun _ V' r=>ef V' r=Zcm ls (ef V f):=⟨_,rfl⟩
 have HPAN:Hid (∀ k o1 w1 m1 V1 er evt ev w',AtC Za2 k o w mb m V o1 w1 m1 V1->∀ k2,Zna Za2 k2 o1 w1 mb m1 V1 er evt ev w'->k+k2<=ls.length*Q+(Q-1)*Q->P (Zbv er evt ev) w'):=Hd fun k o1 w1 m1 V1 er evt ev w' h k2 hst hk=>by
  rw[hP];exact .inr ⟨er,evt,ev,rfl,hst.after h hk⟩
 have HAT0:Hid (AtC Za2 (0*Q) o w mb m V o w m V):=Hd (by rw[Nat.zero_mul];exact AtC.refl hm hlt hk);have HX:=Hd hx;have HVN:=Hd hn;have HK:=Hd hk;have HALL:=Hd hall;have HLS:=Hd hls;have HA:=Hd ha;have HCL:=Hd cl;have HCF:=Hd cf;have HNO:=Hd (show o bl=none/\o bf=none from ⟨hol,hof⟩);have HC0:Hid (okE (Zab m.d) 0/\ef V 0=Zf1 (ls.take 0)):=Hd ⟨.inl rfl,by rw[hk.dag.ef0];rfl⟩;have HQ:=Hd hQ;have HQ1:1<=Q:=by rw[hQ];omega
 have HCOST:Hid (∀ j,j<ls.length->j*Q+Q<=ls.length*Q):=Hd fun j hj=>by
  have:=Nat.mul_le_mul_right Q (show j+1<=ls.length by omega);rw[Nat.add_mul,Nat.one_mul] at this;exact this
 have HEND:Hid (∀ o1 w1 m1 V1 (cu:Nat),AtC Za2 (ls.length*Q) o w mb m V o1 w1 m1 V1->okE (Zab m1.d) cu->ef V1 cu=Zf1 ls ->
  Calls Tryz.prog 81 #[.pointer (some ⟨xb,0,none⟩),.int .i64 kf] w1 (fun x w'=>x=.returned (.int .i64 f)/\w1=w') /\
  Calls Tryz.prog 80 #[.pointer (some ⟨xb,0,none⟩),.int .i64 1700,.int .i64 f,.int .i64 cu,.func (.func 82) #[] #[]] w1 fun x w'=>(∃ r:Nat,x=.returned (.int .i64 r)/\P x w')\/∃ er evt ev,x=Zbv er evt ev/\P x w'):=Hd fun o1 w1 m1 V1 cu h1 h2 h3=>by
  have hx1:Zcy o1 w1 xb mb:=hx.chg h1.st.chg;have hvs:=h1.vars hn;refine⟨Zb8 h1.st.is hx1 (by rw[h1.st.hs];exact hnd) (by rw[h1.st.hs];exact hkf),?_⟩;have hsat:SatF (ef V1 cu):=by
   rw[h3];exact⟨_,Zkd (Zlj (fun p hp=>(hall p hp).1) hdup) fun _=>false⟩
  refine(Zie (Bw:=fun _=>True) (T:=fun _=>False) (xb:=xb) Zbk Zw5 (Ycb (.inl rfl)) (fun _ _ h _=>h) Zs5 Zjt h1.st.is h1.st.lt hx1 h1.st.ok hvs trivial (fun q hq=>hq.elim) (h1.st.ext.ok hf) h2 hsat).mono fun x w' hx=>?_
  have hx2:P x w':=by
   rw[hP];rw[<- hQ] at hx;refine(Zb4.base h1 (Nat.le_refl _) hx).good fun d V' r hd hr=>?_
   show ef V' r=_
   rw[show ef V' r=_ from hr,h3,h1.st.ext.ef hf,hd];refine Zq2 (fun p hp=>(hall p hp).1) hdup fun p hp=>?_
   have h4:=hall p hp;have h5:=hk.inv p.1.toNat (by rw[hn];omega);have h6:=hk.dag.lt p.1.toNat (by rw[hn];omega);rw[<- h5];rw[show m.d.vars.getD (levN m.d p.1.toNat) 0=m.d.vars[levN m.d p.1.toNat] by simp[List.getD,h6]];exact List.getElem_mem _
  rcases hx.kind with ⟨r,rfl⟩|⟨er,evt,ev,rfl⟩
  ·
   exact .inl ⟨r,rfl,hx2⟩
  ·
   exact .inr ⟨er,evt,ev,rfl,hx2⟩
 rw[<- hQ,<- hP];clear hP hQ hm hlt hx hk hn hnd hkf hf hok hls ha hol hof hall hdup cf
 go_enter Tryz.func76,Tryz.ntmps76
 go_wp2_with fail
 go_loopw [5,7,8,11] (fun s5 _ _ s11 wr=>∃ (j r:Nat) (o1:Own) (m1:ManD) (V1:Nat->BF),j<=ls.length/\s11=.int .i64 j/\s5=.int .i64 r/\Hid (AtC Za2 (j*Q) o w mb m V o1 wr m1 V1)/\Hid (okE (Zab m1.d) r/\ef V1 r=Zf1 (ls.take j))) (fun _ _ _ s11 _=>ls.length-(intOf s11).toNat)
 case atStart=>exact⟨0,0,o,m,V,Nat.zero_le _,rfl,rfl,HAT0,HC0⟩
 case round =>
  clear HAT0 HC0 cl;obtain⟨j,r,o1,m1,V1,hj,rfl,rfl,HAT,HR⟩:=hrel
  by_cases hlt:j<ls.length
  ·
   have hjz:(j:Int)<(ls.length:Int):=by omega
   obtain⟨b,off,rfl,d0,d1⟩:=(HLS.out.step HAT.out.st HA.out).cells j hlt;have HTK:Hid (ls.take (j+1)=ls.take j++[ls[j]]):=Hd (List.take_succ_eq_append_getElem hlt);have HIN:=Hd (HALL.out _ (List.getElem_mem hlt));have HCJ:=Hd (HCOST.out j hlt);obtain⟨p,hp⟩:∃ p,p=ls[j]:=⟨_,rfl⟩;rw[<- hp] at d0 d1 HTK HIN;obtain⟨pv,py⟩:=p;dsimp only at d0 d1 HTK HIN;obtain⟨vn,hvn⟩:∃ vn:Nat,pv=(vn:Int):=⟨pv.toNat,by have:=HIN.out.1;omega⟩;subst hvn;have HVL:Hid (vn<n):=Hd (by have:=HIN.out.2;omega);obtain⟨w2,hw2⟩:∃ w2,w2=wr.alloc (.cells #[.int .i64 (vn:Nat),.bool py] 41):=⟨_,rfl⟩;have HW2:Hid (_=w2):=Hd hw2.symm;have hb2:Below wr.heap.size wr w2:=by rw[hw2];exact Zad _ _
   have g2:w2.heap[wr.heap.size]?=some (.cells #[.int .i64 (vn:Nat),.bool py] 41 (0,0)):=by rw[hw2];exact heap_alloc_new _ _
   have hat2:AtC Za2 (j*Q) o w mb m V o1 w2.drew m1 V1:=HAT.out.below (hb2.trans ((Zag w2 1).mono hb2.size));have e0:w2.drew.cell? ⟨wr.heap.size,0,none⟩=some (.int .i64 (vn:Nat)):=(by simp[World.cell?,g2]:w2.cell? ⟨wr.heap.size,0,none⟩=some (.int .i64 (vn:Nat)));have e1:w2.drew.cell? ⟨wr.heap.size,1,none⟩=some (.bool py):=(by simp[World.cell?,g2]:w2.cell? ⟨wr.heap.size,1,none⟩=some (.bool py));have hnew:o1 wr.heap.size=none:=HAT.out.st.lt.none (Nat.le_refl _)
   have HMK:Hid (Calls Tryz.prog 77 #[.pointer (some ⟨xb,0,none⟩),.int .i64 vn,.int .i64 1,.int .i64 0] w2.drew fun e w'=>(∃ u,e=.returned u/\(w'.cell? ⟨wr.heap.size,0,none⟩=some (.int .i64 (vn:Nat))/\w'.cell? ⟨wr.heap.size,1,none⟩=some (.bool py))/\∃ (q:Nat) (o2:Own) (m2:ManD) (V2:Nat->BF),u=.int .i64 q/\AtC Za2 (j*Q+1) o w mb m V o2 w' m2 V2/\okE (Zab m2.d) q/\ef V2 q=varF vn/\okE (Zab m2.d) r/\ef V2 r=Zf1 (ls.take j))\/(∃ ch,e=.panicked ch/\P (.panicked ch) w')):=Hd ((Zx3 Zbk hat2.st.is hat2.st.lt (HX.out.chg hat2.st.chg) hat2.st.ok vn (by rw[hat2.vars HVN.out];exact HVL.out)).mono (by
    rintro e w' (⟨q,o2,m2,V2,rfl,p1,p2,p3⟩|⟨er,evt,ev,rfl,hst⟩)
    ·
     exact .inl ⟨_,rfl,⟨p1.st.chg.cell e0 hnew,p1.st.chg.cell e1 hnew⟩,q,o2,m2,V2,rfl,hat2.trans p1,p2,p3,p1.st.ext.ok HR.out.1,by rw[p1.st.ext.ef HR.out.1];exact HR.out.2⟩
    ·
     exact .inr ⟨_,rfl,HPAN.out _ _ _ _ _ _ _ _ _ hat2 _ hst (by have:=HCJ.out;omega)⟩))
   clear hp hw2 hb2 g2 hat2 hnew HAT HR HIN;go_upto_region 5 with fail;rw[HW2.out];refine Zf7 [0,1,2,4,5,6,3,7,8] (fun W=>W.cell? ⟨wr.heap.size,0,none⟩=some (.int .i64 (vn:Nat))/\W.cell? ⟨wr.heap.size,1,none⟩=some (.bool py)) (fun ch w'=>P (.panicked ch) w') (fun c a w hd h=>⟨hd,h⟩) (by kernel_rfl) ⟨e0,e1⟩ ?_
   iterate 6
    refine Zed rfl rfl (by kernel_rfl) ?_;apply Exists.intro;refine⟨fun w' hw=>?_,?_⟩
    ·
     obtain⟨q1,q2⟩:=hw;go_simp;rfl
    simp only[Zaf]
   refine Zic rfl (by kernel_rfl) rfl rfl (by go_simp) HMK.out ?_;rintro u w3 hS3 ⟨q,o2,m2,V2,rfl,hat3,hq3,hqf,hr3,hrf⟩;have HAT3:=Hd hat3;have HQ3:=Hd (show (okE (Zab m2.d) q/\ef V2 q=varF vn)/\okE (Zab m2.d) r/\ef V2 r=Zf1 (ls.take j) from ⟨⟨hq3,hqf⟩,hr3,hrf⟩);have HS3:=Hd hS3;have HFL:=Hd (Zda q (!py) w3 (Zsb hat3.st.is hq3));clear hat3 hq3 hqf hr3 hrf hS3 HMK e0 e1;simp only[Zaf];refine Zfh (R1:=fun u w'=>u=.int .i64 (eflip q (!py):Nat)/\w3=w') rfl (by kernel_rfl) rfl rfl (by go_simp) (HFL.out.mono fun x w' h=>⟨_,h.1,rfl,h.2⟩) (by rintro u w' ⟨_,rfl⟩;exact HS3.out) ?_;rintro u w'-⟨rfl,rfl⟩;simp only[Zaf];refine Zed rfl rfl (by kernel_rfl) ?_;apply Exists.intro;refine⟨fun w' hw=>?_,?_⟩
   ·
    clear hw;go_simp;rfl
   simp only[Zaf];refine Zlk (by kernel_rfl) ?_
   have HIT:Hid (Calls Tryz.prog 79 #[.pointer (some ⟨xb,0,none⟩),.int .i64 r,.int .i64 (eflip q (!py):Nat),.int .i64 1] w3 fun e w'=>(∃ (r2:Nat) (o3:Own) (m3:ManD) (V3:Nat->BF),e=.returned (.int .i64 r2)/\Hid (AtC Za2 ((j+1)*Q) o w mb m V o3 w' m3 V3)/\Hid (okE (Zab m3.d) r2/\ef V3 r2=Zf1 (ls.take (j+1))))\/(∃ er evt ev,e=Zbv er evt ev/\P (Zbv er evt ev) w')):=Hd (by
    obtain⟨⟨h1,h2⟩,h3,h4⟩:=HQ3.out;refine(Zni Zbk HAT3.out.st.is HAT3.out.st.lt (HX.out.chg HAT3.out.st.chg) HAT3.out.st.ok (HAT3.out.vars HVN.out) r (eflip q (!py)) 1 h3 (Zdz h1) (.inl rfl)).mono ?_;rw[<- HQ.out];rintro e w' (⟨r2,o3,m3,V3,rfl,p1,p2,p3⟩|⟨er,evt,ev,rfl,hst⟩)
    ·
     refine .inl ⟨r2,o3,m3,V3,rfl,Hd ((HAT3.out.trans p1).mono (by rw[Nat.add_mul,Nat.one_mul];omega)),Hd ⟨p2,?_⟩⟩;funext ρ;rw[show ef V3 r2=_ from p3,HTK.out,Zvl,h4,Zx8,h2,show ef V2 1=fun _=>false from HAT3.out.st.ok.dag.ef1]
     show iteB (Zf1 (ls.take j) ρ) ((if (!py)=true then notF (varF vn) else varF vn) ρ) false=(Zf1 (ls.take j) ρ&&(ρ ((vn:Int)).toNat == py))
     rw[Int.toNat_natCast];cases py<;>cases hc:Zf1 (ls.take j) ρ<;>cases hv:ρ vn<;>simp[iteB,notF,varF,hv]
    ·
     exact .inr ⟨er,evt,ev,rfl,HPAN.out _ _ _ _ _ _ _ _ _ HAT3.out _ hst (by have:=HCJ.out;omega)⟩)
   clear HFL HS3 HQ3 HAT3 HTK;go_wp2_with fail;refine HIT.out.mono ?_;rintro x w4 (⟨r2,o3,m3,V3,rfl,HAT4,HR4⟩|⟨er,evt,ev,rfl,hp⟩)
   ·
    clear HIT;go_wp2_with fail;go_roundw
    case rel=>exact⟨j+1,r2,o3,m3,V3,by omega,by go_num,rfl,HAT4,HR4⟩
    case measure=>simp[intOf];omega
   ·
    have HF:=Hd hp;clear hp HIT;unfold Zbv;go_wp2_with fail;exact⟨rfl,HF.out⟩
  ·
   obtain rfl:j=ls.length:=by omega
   have hjz:¬ (ls.length:Int)<(ls.length:Int):=by omega
   have hr:=HR.out;rw[List.take_length] at hr;have HE:=Hd (HEND.out o1 wr m1 V1 r HAT.out hr.1 hr.2);have HED:=Hd HE.out.1;have HRB:=Hd HE.out.2;have cfr:=HAT.out.st.chg.cell HCF.out HNO.out.2;clear hr HE HEND HAT HR;go_wp2_with fail;refine HED.out.mono ?_;rintro x w' ⟨rfl,rfl⟩;go_wp2_with fail;refine HRB.out.mono ?_;rintro x w6 (⟨q,rfl,hp⟩|⟨er,evt,ev,rfl,hp⟩)
   ·
    have HF:=Hd hp;clear hp HRB;go_wp2_with fail;exact HF.out
   ·
    have HF:=Hd hp;clear hp HRB;unfold Zbv;go_wp2_with fail;exact⟨rfl,HF.out⟩
end
open Go.RowKit
section
variable {K:Law} {n k:Nat} {Od:List Nat->Prop} {room:Nat} {w0:World} {fs:List (Int×BF)} {nx:Int} {o o':Own} {w w1 W:World} {mb xb:Nat} {m:ManD} {V:Nat->BF} {ws0:List Ev}
theorem Zkx (h:SatE K n Od room w0 mb fs nx w o m V) {kf:Int} (hf:¬ known fs kf) (a:Option Addr) (len c:Nat) :
 Calls Tryz.prog 19 #[.pointer (some ⟨mb,0,none⟩),.int .i64 kf,.slice a len c] w fun x w'=>x=.returned (.tuple #[.int .i64 0,.int .i64 8])/\Below w.heap.size w w':=by
 obtain⟨w2,hw2,hb2,hz2,c0,c1⟩:=boxes2v w (.int .i64 kf) (.slice a len c) 3 72;have HW2:Hid (_=w2):=Hd hw2.symm;obtain⟨w3,hw3⟩:∃ w3,w3=w2.alloc (.cells #[.int .i64 kf] 3):=⟨_,rfl⟩;have HW3:Hid (_=w3):=Hd hw3.symm;have hb3:Below w2.heap.size w2 w3:=by rw[hw3];exact Zad _ _
 have hz:Zax w3 (some ⟨w2.heap.size,0,none⟩) [kf]:=by rw[hw3];exact Zec w2 [kf] (by simp)
 have HASK:=Hd (Zdg (h.below (hb2.trans (hb3.mono hb2.size))) (c:=1) hz (er:=8) (.inr ⟨rfl,kf,by simp,hf⟩));have HB:=Hd (hb2.trans (hb3.mono hb2.size));clear hw2 hb2 hw3 hb3 hz h hf hz2
 go_enter Tryz.func19,Tryz.ntmps19
 go_upto_region 1 with fail;rw[HW2.out];go_wp2_with fail;rw[HW3.out];refine HASK.out.mono ?_;rintro x w' ⟨rfl,rfl⟩;go_wp2_with fail
 go_ret2
 exact⟨rfl,HB.out⟩
theorem Zjc {ls:List (Int×Bool)} {p:Int×Bool} (hp:p∈ls) (h:¬ (0<=p.1/\p.1<(n:Int))):Zet n ls=9:=if_neg fun hh=>h (hh p hp)
theorem Ze0 (h:SatE Za2 n (fun _=>True) room w0 mb fs nx w o m V) (hn6:n<=64) {kf:Int} {F:BF} (hf:(kf,F)∈fs) {a:Option Addr} {c:Nat} {ls:List (Int×Bool)} (hls:Zdw w a ls) (ha:ls≠[]->∀ x,a=some x->o x.block=none) (hst:m.waits <:+ ws0) (hn:nx<=549755813888) (hr:Zet n ls=0->fs.length*2^n+(ls.length*2^n+(2^n-1)*2^n)<=room) :
 Calls Tryz.prog 19 #[.pointer (some ⟨mb,0,none⟩),.int .i64 kf,.slice a ls.length c] w fun x w'=>(Zet n ls=0->NewF Za2 n room w0 mb fs nx ws0 (Zcm ls F) o w x w')/\(Zet n ls≠0->x=.returned (.tuple #[.int .i64 0,.int .i64 (Zet n ls)])/\Below w.heap.size w w'):=by
 have hmf:∀ (fn:Fn) (first cap:Array Value) (w:World),(Instr.makeFunc fn first cap).run Tryz.prog w=.ok (.func fn first cap) w:=fun _ _ _ _=>rfl
 obtain⟨w2,hw2,hb2,hz2,c0,c1⟩:=boxes2v w (.int .i64 kf) (.slice a ls.length c) 3 72;have HW2:Hid (_=w2):=Hd hw2.symm;obtain⟨w3,hw3⟩:∃ w3,w3=w2.alloc (.cells #[.int .i64 kf] 3):=⟨_,rfl⟩;have HW3:Hid (_=w3):=Hd hw3.symm;have hb3:Below w2.heap.size w2 w3:=by rw[hw3];exact Zad _ _
 have hz:Zax w3 (some ⟨w2.heap.size,0,none⟩) [kf]:=by rw[hw3];exact Zec w2 [kf] (by simp)
 have HASK:=Hd (Zdg (h.below (hb2.trans (hb3.mono hb2.size))) (c:=1) hz (er:=0) (.inl ⟨rfl,fun k hk=>by simp at hk;subst hk;exact⟨F,hf⟩⟩));have HVN:=Hd ((h.below (hb2.trans (hb3.mono hb2.size))).vars_any);have HB2:=Hd hb2;have HB3:=Hd hb3;have hll:=hls.len;obtain⟨P,hP⟩:∃ P:Ending->World->Prop,P=fun x w'=>(Zet n ls=0->NewF Za2 n room w0 mb fs nx ws0 (Zcm ls F) o w x w')/\(Zet n ls≠0->x=.returned (.tuple #[.int .i64 0,.int .i64 (Zet n ls)])/\Below w.heap.size w w'):=⟨_,rfl⟩
 have HBAD:Hid (∀ er W,Zet n ls=er->er≠0->Below w2.heap.size w2 W->P (.returned (.tuple #[.int .i64 0,.int .i64 er])) W):=Hd fun er W he hne hb=>by
  rw[hP];exact⟨fun e=>absurd (by rw[<- he];exact e) hne,fun _=>⟨by rw[he],hb2.trans (hb.mono hb2.size)⟩⟩
 have HDO:Hid (∀ W,Below w2.heap.size w2 W->Zet n ls=0->Calls Tryz.prog 75 #[.pointer (some ⟨mb,0,none⟩),.func (.func 76) #[] #[.pointer (some ⟨w.heap.size+1,0,none⟩),.pointer (some ⟨w.heap.size,0,none⟩)]] W fun x w'=>∃ p q,x=.returned (.tuple #[.int .i64 p,.int .i64 q])/\P x w'):=Hd fun W hb hok=>by
  have d0:=(hb.cell (p:=⟨w.heap.size,0,none⟩) (Zaa c0)).trans c0;have d1:=(hb.cell (p:=⟨w.heap.size+1,0,none⟩) (Zaa c1)).trans c1;have hbw:=hb2.trans (hb.mono hb2.size)
  refine(Zzy (K:=Za2) (C:=fun q=>(q=w.heap.size+1\/q=w.heap.size)\/(ls≠[]/\(∃ x,a=some x/\q=x.block)/\w0.heap.size<=q)) (B:=fun W=>(W.cell? ⟨w.heap.size+1,0,none⟩=some (.slice a ls.length c)/\W.cell? ⟨w.heap.size,0,none⟩=some (.int .i64 kf))/\∀ x,ls≠[]->a=some x->w0.heap.size<=x.block->W.heap[x.block]?=w.heap[x.block]?) (F:=Zcm ls F) (k:=ls.length*2^n+(2^n-1)*2^n) (lop:=#[.pointer (some ⟨w.heap.size+1,0,none⟩),.pointer (some ⟨w.heap.size,0,none⟩)]) Zbk Zj4 ws0
   (fun W W' hB hk=>⟨⟨(World.cell?_of_block (w:=W) (a:=⟨w.heap.size+1,0,none⟩) (hk _ (.inl (.inl rfl)))).trans hB.1.1,(World.cell?_of_block (w:=W) (a:=⟨w.heap.size,0,none⟩) (hk _ (.inl (.inr rfl)))).trans hB.1.2⟩,fun x hne hx hz=>(hk _ (.inr ⟨hne,⟨x,hx,rfl⟩,hz⟩)).trans (hB.2 x hne hx hz)⟩)
   (fun o' W' m' V' xb hs' hB hC hx' _=>?_) h hbw (fun k hk=>?_) ⟨⟨d1,d0⟩,fun x hne hx _=>hbw.block _ (by subst hx;exact hls.lt hne)⟩ hst hn (hr hok)).mono ?_
  ·
   obtain⟨f,hf1,hef⟩:=hs'.find hf;have hblk:∀ x,ls≠[]->a=some x->W'.heap[x.block]?=w.heap[x.block]?:=fun x hne hx=>by
    rcases Nat.lt_or_ge x.block w0.heap.size with hz|hz
    ·
     exact(hs'.chg.below0.block _ hz).trans (h.chg.below0.block _ hz).symm
    ·
     exact hB.2 x hne hx hz
   have hcall:=Zq0 hs'.is hs'.lt hx' hs'.ok.store hs'.vars hs'.ok.handles.nodup hf1 (hs'.ok.handles.ok _ hf1) hok (hls.keep fun hne x v hx o hc=>(World.cell?_of_block (w:=w) (a:=⟨x.block,o,none⟩) (hblk x hne hx)).trans hc) (fun hne x hx=>by
    rcases Nat.lt_or_ge x.block w0.heap.size with hz|hz
    ·
     exact hs'.none0 hz
    ·
     exact(hC _ (.inr ⟨hne,⟨x,hx,rfl⟩,hz⟩)).2) hB.1.1 hB.1.2 (hC _ (.inl (.inl rfl))).2 (hC _ (.inl (.inr rfl))).2
   rw[show ef V' f=F from hef] at hcall;exact hcall
  ·
   rcases hk with (rfl|rfl)|⟨hne,⟨x,hx,rfl⟩,hz⟩
   ·
    exact⟨Zaa d1,.inl (by omega)⟩
   ·
    exact⟨Zaa d0,.inl (Nat.le_refl _)⟩
   ·
    have hlt:x.block<w.heap.size:=by subst hx;exact hls.lt hne
    exact⟨Nat.lt_of_lt_of_le hlt hbw.size,.inr ⟨hz,ha hne x hx,fun W hW=>hW.2 x hne hx hz⟩⟩
  ·
   intro x w' hx;refine⟨nx,0,hx.1,?_⟩;rw[hP];exact⟨fun _=>hx,fun e=>absurd hok e⟩
 have HLS:Hid (Zdw w2 a ls):=Hd (hls.below hb2);have hsz3:w2.heap.size<=w3.heap.size:=hb3.size;have c13:=(hb3.cell (p:=⟨w.heap.size+1,0,none⟩) (Zaa c1)).trans c1;rw[<- hP];clear hP hw2 hb2 hw3 hz h hf hls ha hst hn hr hz2
 go_enter Tryz.func19,Tryz.ntmps19
 go_upto_region 1 with fail;rw[HW2.out];go_wp2_with fail;rw[HW3.out];refine HASK.out.mono ?_;rintro x w' ⟨rfl,rfl⟩;go_wp2_with fail;refine HVN.out.mono ?_;rintro x w' ⟨rfl,rfl⟩;go_wp2_with (at_make;refine Zg8 Zeg rfl _ _ rfl w2.heap.size w2 _ n rfl rfl rfl (by omega) hsz3 hb3 ?_;intro g w4 hown4 hb4 hs4 hk4 hg4 hgx;have c14:=(hb4.cell (p:=⟨w.heap.size+1,0,none⟩) (Zaa c1)).trans c1;clear hgx)
 have HO4:Hid (OwnB w4 w2.heap.size (.slice (some ⟨g,0,none⟩) n n) (metL n (ls.take 0))):=Hd (by
  rw[List.take_zero,Zyp];unfold OwnB;simpa [Zbh] using hown4)
 have HB4:=Hd hb4;clear hown4 hb4 hs4 hk4 hb3 hsz3 c13;go_wp2_with fail
 go_loopw [6,7,10,12,25] (fun _ _ s10 _ s25 wr=>∃ (j:Nat) (tw:Bool),j<=ls.length/\s25=.int .i64 j/\s10=.bool tw/\Hid (tw=false↔((ls.take j).map (·.1)).Nodup)/\Hid (OwnB wr w2.heap.size (.slice (some ⟨g,0,none⟩) n n) (metL n (ls.take j)))/\Hid (Below w2.heap.size w2 wr)/\Hid (∀ q,∀ hq:q<ls.length,q<j->0<=ls[q].1/\ls[q].1<(n:Int))) (fun _ _ _ _ s25 _=>ls.length-(intOf s25).toNat)
 case atStart=>exact⟨0,false,Nat.zero_le _,rfl,rfl,Hd (by simp),HO4,HB4,Hd fun q hq h=>by omega⟩
 case round =>
  clear HO4 HB4;obtain⟨j,tw,hj,rfl,rfl,HTW,HOWN,HBEL,HRNG⟩:=hrel
  by_cases hlt:j<ls.length
  ·
   have hjz:(j:Int)<(ls.length:Int):=by omega
   obtain⟨b,off,rfl,d0,d1⟩:=(HLS.out.below HBEL.out).cells j hlt;have HTK:Hid (ls.take (j+1)=ls.take j++[ls[j]]):=Hd (List.take_succ_eq_append_getElem hlt);have HIN:=Hd (List.getElem_mem hlt);have HRNG2:Hid (0<=ls[j].1->ls[j].1<(n:Int)->∀ q,∀ hq:q<ls.length,q<j+1->0<=ls[q].1/\ls[q].1<(n:Int)):=Hd fun h1 h2 q hq hqj=>by
    rcases Nat.lt_or_ge q j with c|c
    ·
     exact HRNG.out q hq c
    ·
     obtain rfl:q=j:=by omega
     exact⟨h1,h2⟩
   obtain⟨p,hp⟩:∃ p,p=ls[j]:=⟨_,rfl⟩;rw[<- hp] at d0 d1 HTK HIN HRNG2;obtain⟨pv,py⟩:=p;dsimp only at d0 d1 HTK HRNG2;obtain⟨w5,hw5⟩:∃ w5,w5=wr.alloc (.cells #[.int .i64 pv,.bool py] 41):=⟨_,rfl⟩;have HW5:Hid (_=w5):=Hd hw5.symm;have hb5:Below wr.heap.size wr w5:=by rw[hw5];exact Zad _ _
   have g5:w5.heap[wr.heap.size]?=some (.cells #[.int .i64 pv,.bool py] 41 (0,0)):=by rw[hw5];exact heap_alloc_new _ _
   have HB5:Hid (Below w2.heap.size w2 w5):=Hd (HBEL.out.trans (hb5.mono HBEL.out.size));have e0:w5.cell? ⟨wr.heap.size,0,none⟩=some (.int .i64 pv):=by simp[World.cell?,g5]
   have HO5:Hid (OwnB w5 w2.heap.size (.slice (some ⟨g,0,none⟩) n n) (metL n (ls.take j))):=Hd (by rw[hw5];exact HOWN.out.alloc _);clear hp hw5 hb5 g5
   by_cases h0:pv<0
   ·
    have HF:=Hd (HBAD.out 9 w5 (Zjc HIN.out (by dsimp only;omega)) (by decide) HB5.out);clear HOWN HBEL HO5;go_upto_region 9 with fail;rw[HW5.out];go_wp2_with fail;exact HF.out
   by_cases h1:pv>=(n:Int)
   ·
    have HF:=Hd (HBAD.out 9 w5 (Zjc HIN.out (by dsimp only;omega)) (by decide) HB5.out);clear HOWN HBEL HO5;go_upto_region 9 with fail;rw[HW5.out];go_wp2_with fail;exact HF.out
   obtain⟨vn,hvn⟩:∃ vn:Nat,pv=(vn:Int):=⟨pv.toNat,by omega⟩;subst hvn;have hvlt:vn<n:=by omega
   have HRG:=Hd (HRNG2.out (by omega) (by omega));obtain⟨mt,hmt⟩:∃ mt:Bool,mt=decide ((vn:Int)∈(ls.take j).map (·.1)):=⟨_,rfl⟩;have q0:w5.cell? ⟨g,vn,none⟩=some (.bool mt):=by
    rw[hmt,<- Zyo (ls.take j) hvlt];exact HO5.out.cellB vn (by rw[Zrh];exact hvlt)
   have p0:=HO5.out.frozen vn
   have HTW2:Hid ((tw||mt)=false↔((ls.take (j+1)).map (·.1)).Nodup):=Hd (by
    rw[HTK.out,List.map_append,List.map_cons,List.map_nil,Zmy,<- HTW.out,Bool.or_eq_false_iff,hmt,decide_eq_false_iff_not])
   have HO6:Hid (OwnB (w5.setCell ⟨g,vn,none⟩ (.bool true)) w2.heap.size (.slice (some ⟨g,0,none⟩) n n) (metL n (ls.take (j+1)))):=Hd (by
    rw[HTK.out,Zwh _ hvlt];exact HO5.out.setB vn true)
   have HB6:Hid (Below w2.heap.size w2 (w5.setCell ⟨g,vn,none⟩ (.bool true))):=Hd (HB5.out.setCell hg4 _);clear hmt HTW HOWN HBEL HRNG HRNG2 HO5 HB5 HTK HIN;cases tw with
   | true =>
     go_upto_region 9 with fail;rw[HW5.out];go_wp2_with fail;go_roundw
     case rel=>exact⟨j+1,true,by omega,by go_num,rfl,Hd (by have:=HTW2.out;simpa using this),HO6,HB6,HRG⟩
     case measure=>simp[intOf];omega
   | false =>
     go_upto_region 9 with fail;rw[HW5.out];go_wp2_with fail;go_roundw
     case rel=>exact⟨j+1,mt,by omega,by go_num,rfl,Hd (by have:=HTW2.out;simpa using this),HO6,HB6,HRG⟩
     case measure=>simp[intOf];omega
  ·
   obtain rfl:j=ls.length:=by omega
   have hjz:¬ (ls.length:Int)<(ls.length:Int):=by omega
   have HALL:Hid (∀ p∈ls,0<=p.1/\p.1<(n:Int)):=Hd fun p hp=>by
    obtain⟨q,hq,rfl⟩:=List.getElem_of_mem hp;exact HRNG.out q hq hq
   have htw:=HTW.out;rw[List.take_length] at htw;cases tw with
   | true =>
     have HF:=Hd (HBAD.out 6 wr (by
      unfold Zet;rw[if_pos HALL.out,if_neg (fun e=>by have:=htw.2 e;cases this)]) (by decide) HBEL.out)
     clear htw HTW HOWN;go_wp2_with fail;exact HF.out
   | false =>
     have HD:=Hd (HDO.out wr HBEL.out (by
      unfold Zet;rw[if_pos HALL.out,if_pos (htw.1 rfl)]))
     clear htw HTW HOWN HDO HBAD;go_wp2_with fail;refine HD.out.mono ?_;rintro x w' ⟨p,q,rfl,hp⟩;have HF:=Hd hp;clear hp HD;go_wp2_with fail;exact HF.out
end
open Go.RowKit
theorem Zv6 {op:Int} (h:0<=(Ze2 op).1):1<=op/\op<=10/\(Ze2 op).2<=64:=by
 unfold Ze2 at h ⊢;split
 ·
  rename_i h1;exact⟨by omega,by omega,by simp⟩
 ·
  split
  ·
   rename_i h1;exact⟨by omega,by omega,by simp⟩
  ·
   split
   ·
    rename_i h1;exact⟨by omega,by omega,by simp⟩
   ·
    split
    ·
     rename_i h1;exact⟨by omega,by omega,by simp⟩
    ·
     split
     ·
      rename_i h1;exact⟨by omega,by omega,by simp⟩
     ·
      exfalso;revert h;simp_all
theorem Zm2 (f:Nat->Bool) (i:Nat):(List.range (i+1)).map f=(List.range i).map f++[f i]:=by simp[List.range_succ]
theorem Zh4 (l:List Bool) (b:Bool):Zbh (l++[b])=Zbh l++[.bool b]:=by simp[Zbh]
theorem tmod2 (c:Nat):((c:Int).tmod 2 == 1)=decide (c%2=1):=by
 have e1:Int.tmod (c:Int) 2=((c%2:Nat):Int):=by rw[Int.tmod_eq_emod_of_nonneg (by omega)];rfl
 rw[e1]
 by_cases h:c%2=1
 ·
  rw[h];rfl
 ·
  have:((c%2:Nat):Int)≠1:=by omega
  rw[beq_eq_false_iff_ne.2 this,decide_eq_false h]
theorem Zri (a b:Nat):(((a:Nat):Int) == (b:Int))=decide (a=b):=by
 by_cases h:a=b
 ·
  subst h;simp
 ·
  have:(a:Int)≠b:=by omega
  rw[beq_eq_false_iff_ne.2 this,decide_eq_false h]
theorem Zlz (ls:List Bool) (al:Option Addr) (cl:Nat):∀ (e:ExT) (x:Value) (w:World),Zs3 e->Zbf w e x->Zbs w al ls ->
 Calls Tryz.prog 128 #[x,.slice al ls.length cl] w fun y w'=>y=.returned (.bool (fnT e (Zbi ls)))/\Below w.heap.size w w'
 | .nil,x,w,hv,h,_=>by unfold Zbf at h;exact h.elim
 | .mk op v n kid,x,w,hval,h,hls=>by
   unfold Zbf at h;obtain⟨a,c,rfl,h2,h3,h4,h5⟩:=h;obtain⟨v1,v2,v3,v4,v5,v6⟩:=hval;obtain⟨k1,k2,k3⟩:=Zv6 v1;have hn64:n<=64:=by omega
   have H5:=Hd h5;have H6:=Hd v6;have HLS:=Hd hls;have hll:=hls.len;have HE:Hid (fnT (ExT.mk op v n kid) (Zbi ls)=if op=3 then Zbi ls v.toNat else opB op n fun i=>fnT (kid i) (Zbi ls)):=Hd rfl;have IH:Hid (∀ (i:Nat) (x:Value) (W:World),i<n->Zbf W (kid i) x->Zbs W al ls->Calls Tryz.prog 128 #[x,.slice al ls.length cl] W fun y w'=>y=.returned (.bool (fnT (kid i) (Zbi ls)))/\Below W.heap.size W w') :=
    Hd fun i x W hi h1 h2=>Zlz ls al cl (kid i) x W (H6.out i hi) h1 h2
   obtain⟨B,hB⟩:∃ B,B=fnT (ExT.mk op v n kid) (Zbi ls):=⟨_,rfl⟩;obtain⟨f,hf⟩:∃ f:Nat->Bool,f=fun i=>fnT (kid i) (Zbi ls):=⟨_,rfl⟩
   have HFI:Hid (∀ i,fnT (kid i) (Zbi ls)=f i):=Hd fun i=>by rw[hf]
   rw[<- hB] at HE ⊢;rw[<- hf] at HE;have hl2:op=8\/op=9->n=2:=by rintro(rfl|rfl)<;>(simp[Ze2] at v4 v5;omega)
   have hl3:op=10->n=3:=by rintro rfl;simp[Ze2] at v4 v5;omega
   have hl4:op=4->n=1:=by rintro rfl;simp[Ze2] at v4 v5;omega
   obtain⟨w1,hw1⟩:∃ w1,w1=w.alloc (.cells #[.int .i64 op,.int .i64 v,.slice a n c] 86):=⟨_,rfl⟩;have HW1:Hid (_=w1):=Hd hw1.symm;have HB1:Hid (Below w.heap.size w w1):=by rw[hw1];exact Hd (Zad _ _)
   have hblk:w1.heap[w.heap.size]?=some (.cells #[.int .i64 op,.int .i64 v,.slice a n c] 86 (0,0)):=by rw[hw1];exact heap_alloc_new _ _
   have d0:w1.cell? ⟨w.heap.size,0,none⟩=some (.int .i64 op):=by rw[cell_of_row _ _ 0 _ _ _ hblk];rfl
   have d1:w1.cell? ⟨w.heap.size,1,none⟩=some (.int .i64 v):=by rw[cell_of_row _ _ 1 _ _ _ hblk];rfl
   have d2:w1.cell? ⟨w.heap.size,2,none⟩=some (.slice a n c):=by rw[cell_of_row _ _ 2 _ _ _ hblk];rfl
   unfold okI at h2 h3;obtain⟨w2,hw2⟩:∃ w2,w2=w1.alloc (.cells #[] 4):=⟨_,rfl⟩;have HW2:Hid (_=w2):=Hd hw2.symm;have HB2:Hid (Below w1.heap.size w1 w2):=by rw[hw2];exact Hd (Zad _ _)
   have HOWN:Hid (OwnB w2 w1.heap.size (.slice (some ⟨w1.heap.size,0,none⟩) 0 0) []):=by rw[hw2];exact Hd (Zeh _ _ _ (Nat.le_refl _))
   have hs1:w1.heap.size=w.heap.size+1:=by rw[hw1];simp
   rw[hs1] at HOWN;clear h5 hw1 hw2 hblk hf hB v1 v4 v5 v6 hls
   go_enter Tryz.func128,Tryz.ntmps128
   go_upto_region 1 with fail;rw[HW1.out];go_upto_region 3 with fail;rw[HW2.out];have hs2:w1.heap.size<=w2.heap.size:=HB2.out.size;have d0':=(HB2.out.cell (p:=⟨w.heap.size,0,none⟩) (Zaa d0)).trans d0;have d1':=(HB2.out.cell (p:=⟨w.heap.size,1,none⟩) (Zaa d1)).trans d1;have d2':=(HB2.out.cell (p:=⟨w.heap.size,2,none⟩) (Zaa d2)).trans d2;go_wp2_with fail
   go_loopw [5,6,7,8] (fun s5 s6 s7 s8 wr=>∃ i k:Nat,i<=n/\k<=i/\s5=.int .i64 k/\s7=.int .i64 i/\Hid (k=cntT i f)/\Below w1.heap.size w1 wr/\OwnB wr w1.heap.size s6 ((List.range i).map f)/\w1.heap.size<=wr.heap.size) (fun _ _ s7 _ _=>n-(intOf s7).toNat)
   case atStart=>exact⟨0,0,Nat.zero_le _,Nat.le_refl _,rfl,rfl,Hd rfl,HB2.out,by rw[hs1];exact HOWN.out,hs2⟩
   case round =>
    obtain⟨i,k,hi,hki,rfl,rfl,HK,hbel,hown,hsz⟩:=hrel;have e0:=(hbel.cell (p:=⟨w.heap.size,0,none⟩) (Zaa d0)).trans d0;have e1:=(hbel.cell (p:=⟨w.heap.size,1,none⟩) (Zaa d1)).trans d1;have e2:=(hbel.cell (p:=⟨w.heap.size,2,none⟩) (Zaa d2)).trans d2;have HBEL:=Hd hbel;have HOW:=Hd hown;clear hbel d0' d1' d2'
    by_cases hlt:i<n
    ·
     clear hown;obtain⟨b,off,x0,x1,x2,rfl,c0,c1,c2,hx⟩:=H5.out i hlt;have hb0:=HB1.out.trans (HBEL.out.mono HB1.out.size);have q0:=(hb0.cell (p:=⟨b,off+i*3,none⟩) (Zaa c0)).trans c0;have q1:=(hb0.cell (p:=⟨b,off+i*3+1,none⟩) (Zaa c1)).trans c1;have q2:=(hb0.cell (p:=⟨b,off+i*3+2,none⟩) (Zaa c2)).trans c2;have HX:=Hd (hx.below hb0);have HL2:=Hd (HLS.out.below hb0);have hiz:(i:Int)<n:=by omega
     have HK1:Hid (∀ y,f i=y->k+(if y then 1 else 0)=cntT (i+1) f):=Hd fun y hy=>by rw[<- hy,HK.out];rfl
     clear c0 c1 c2 hx hb0;go_wp2_with fail;refine(IH.out i _ _ (by omega) HX.out HL2.out).mono ?_;rintro y w3 ⟨rfl,hb3⟩;have HB3:=Hd hb3;clear hb3;go_upto_region 7 with fail;rw[HFI.out];obtain⟨y,hy⟩:∃ y,f i=y:=⟨_,rfl⟩;rw[hy];have HKY:=Hd (HK1.out y hy);have HOW3:=Hd (HOW.out.below HB3.out);have hsz3:w1.heap.size<=w3.heap.size:=Nat.le_trans hsz HB3.out.size;have HBEL3:=Hd (HBEL.out.trans (HB3.out.mono HBEL.out.size));have HYY:Hid (Zbh ((List.range (i+1)).map f)=Zbh ((List.range i).map f)++[.bool y]):=Hd (by rw[Zm2,Zh4,hy]);clear HK1 hy q0 q1 q2 e0 e1 e2;go_upto_region 8 with (at_builtin;refine Zcc Zeg _ rfl _ _ rfl w1.heap.size _ (Zbh ((List.range i).map f)) _ rfl rfl rfl rfl rfl (by exact HOW3.out) (by simp[Zbh];omega) hsz3 ?_;intro v4 w4 hown4 q1 q2 q3 q4 hk4)
     have HB4:=Hd (Zez HBEL3.out HOW3.out q1 q2 q3 q4 hk4 hsz3);have HOW4:=Hd hown4;have hsz4:w1.heap.size<=w4.heap.size:=by omega
     clear hown4 q1 q2 q3 q4 hk4;cases y with
     | true =>
       go_wp2_with fail;go_roundw
       case rel=>exact⟨i+1,k+1,by omega,by omega,by go_num,by go_num,Hd HKY.out,HB4.out,by unfold OwnB;rw[HYY.out];exact HOW4.out,hsz4⟩
       case measure=>simp[intOf];omega
     | false =>
       go_wp2_with fail;go_roundw
       case rel=>exact⟨i+1,k,by omega,by omega,by go_num,by go_num,Hd HKY.out,HB4.out,by unfold OwnB;rw[HYY.out];exact HOW4.out,hsz4⟩
       case measure=>simp[intOf];omega
    ·
     have he:i=n:=by omega
     subst he;have hiz:¬ (i:Int)<i:=by omega
     have HF:Hid (∀ b:Bool,b=B->Ending.returned (.bool b)=.returned (.bool B)/\Below w.heap.size w wr):=Hd fun b hb=>⟨by rw[hb],HB1.out.trans (HBEL.out.mono HB1.out.size)⟩
     have hkids:0<i->∃ g cap,u6=.slice (some ⟨g,0,none⟩) i cap/\∀ j,j<i->wr.cell? ⟨g,j,none⟩=some (.bool (f j)):=by
      intro hp;obtain⟨g,cap,e,_⟩:=hown.shape (by simp[Zbh];omega);have e':u6=.slice (some ⟨g,0,none⟩) i cap:=by rw[e];simp[Zbh]
      refine⟨g,cap,e',fun j hj=>?_⟩;rw[e'] at hown;have:=hown.cellB j (by simp;omega);rw[this];simp[List.getD,hj]
     clear hown;rcases(show op=1\/op=2\/op=3\/op=4\/op=5\/op=6\/op=7\/op=8\/op=9\/op=10 by omega) with rfl|rfl|rfl|rfl|rfl|rfl|rfl|rfl|rfl|rfl
     ·
      go_wp2_with fail;go_ret;exact HF.out _ (by rw[HE.out];rfl)
     ·
      go_wp2_with fail;go_ret;exact HF.out _ (by rw[HE.out];rfl)
     ·
      obtain⟨v5,v6⟩:=v2 rfl;obtain⟨u,rfl⟩:∃ u:Nat,v=(u:Int):=⟨v.toNat,by omega⟩;have HEV:Hid (B=Zbi ls u):=Hd (by rw[HE.out];rfl)
      by_cases hu:u<ls.length
      ·
       obtain⟨bl,ol,rfl,cl0⟩:=(HLS.out.below (HB1.out.trans (HBEL.out.mono HB1.out.size))).cells u hu;have huz:(u:Int)<ls.length:=by omega
       have HEV2:Hid (B=ls.getD u false):=HEV;obtain⟨yy,hyy⟩:∃ yy,yy=ls.getD u false:=⟨_,rfl⟩;rw[<- hyy] at cl0 HEV2;clear hyy;go_wp2_with fail;go_ret;exact HF.out _ HEV2.out.symm
      ·
       have huz:¬ (u:Int)<ls.length:=by omega
       have HEV2:Hid (B=false):=Hd (by rw[HEV.out];unfold Zbi;simp[List.getD,List.getElem?_eq_none (show ls.length<=u by omega)]);go_wp2_with fail;go_ret;exact HF.out _ HEV2.out.symm
     ·
      have HV:Hid (((k:Int) == 0)=B):=Hd (by rw[HE.out,HK.out];exact Zri _ 0);go_wp2_with fail;go_ret;exact HF.out _ HV.out
     ·
      have HV:Hid (((k:Int) == (i:Int))=B):=Hd (by rw[HE.out,HK.out];exact Zri _ i);go_wp2_with fail;go_ret;exact HF.out _ HV.out
     ·
      have HV:Hid (decide (0<k)=B):=Hd (by
       rw[HE.out,HK.out];rfl)
      go_wp2_with fail;go_ret;exact HF.out _ HV.out
     ·
      have HV:Hid (((k:Int).tmod 2 == 1)=B):=Hd (by rw[HE.out,HK.out];exact tmod2 _);go_wp2_with fail;go_ret;exact HF.out _ HV.out
     ·
      have:=hl2 (.inl rfl);subst this;obtain⟨g,cap,rfl,hc⟩:=hkids (by omega);have c0:=hc 0 (by omega);have c1:=hc 1 (by omega);have HV:Hid ((!(f 0)||f 1)=B):=Hd (by rw[HE.out];rfl);obtain⟨y0,hy0⟩:∃ y,y=f 0:=⟨_,rfl⟩;obtain⟨y1,hy1⟩:∃ y,y=f 1:=⟨_,rfl⟩;rw[<- hy0] at c0 HV;rw[<- hy1] at c1 HV;clear hy0 hy1 hc hkids;cases y0 with
      | true =>
        go_wp2_with fail;go_ret;exact HF.out _ HV.out
      | false =>
        go_wp2_with fail;go_ret;exact HF.out _ HV.out
     ·
      have HV:Hid (((k:Int) != 1)=B):=Hd (by
       rw[HE.out,HK.out]
       show (!((cntT i f:Int) == ((1:Nat):Int)))=decide (cntT i f≠1)
       rw[Zri]
       by_cases h:cntT i f=1<;>simp[h])
      go_wp2_with fail;go_ret;exact HF.out _ HV.out
     ·
      have:=hl3 rfl;subst this;obtain⟨g,cap,rfl,hc⟩:=hkids (by omega);have c0:=hc 0 (by omega);have c1:=hc 1 (by omega);have c2:=hc 2 (by omega);have HV:Hid (iteB (f 0) (f 1) (f 2)=B):=Hd (by rw[HE.out];rfl);obtain⟨y0,hy0⟩:∃ y,y=f 0:=⟨_,rfl⟩;obtain⟨y1,hy1⟩:∃ y,y=f 1:=⟨_,rfl⟩;obtain⟨y2,hy2⟩:∃ y,y=f 2:=⟨_,rfl⟩;rw[<- hy0] at c0 HV;rw[<- hy1] at c1 HV;rw[<- hy2] at c2 HV;clear hy0 hy1 hy2 hc hkids;cases y0 with
      | true =>
        go_wp2_with fail;go_ret;exact HF.out _ HV.out
      | false =>
        go_wp2_with fail;go_ret;exact HF.out _ HV.out
open Go.RowKit
section
variable {P:Program} {ops:Array Oper} {S:World->Prop} {Q:Exit->Act->World->Prop} {last:Bool}
theorem Zt5 {o:Oper} {r:List (Option Oper×Bool)} {a:Act} {w w':World} {v:Value} (hw:Region.wanted o (yielded ops a.tmps)=true)
 (he:(execOp a.eval o).run P w=.ok (.value v) w') (hS:S w') (h:Zc5 P ops Q S last r (a.put o.dst v) w'):Zc5 P ops Q S last ((some o,true)::r) a w:=by
 unfold Zc5;simp only[hw,if_true,Oper.wp,he,Oper.upon];exact⟨.inr hS,h⟩
theorem Zt4 {o:Oper} {r:List (Option Oper×Bool)} {a:Act} {w:World} {f:FuncId} {args:Array Value} {R:Value->World->Prop} (hw:Region.wanted o (yielded ops a.tmps)=true)
 (he:(execOp a.eval o).run P w=.ok (.enter f args) w) (hc:Calls P f args w fun e w'=>∃ v,e=.returned v/\S w'/\R v w')
 (h:∀ v w',S w'->R v w'->Zc5 P ops Q S last r (a.put o.dst v) w'):Zc5 P ops Q S last ((some o,true)::r) a w:=by
 unfold Zc5;simp only[hw,if_true,Oper.wp,he,Oper.upon];exact hc.mono fun e w' ⟨v,h1,h2,h3⟩=>by subst h1;exact⟨.inr h2,h v w' h2 h3⟩
end
theorem Zgt (mb:Nat) (b:Bool) (w:World):Calls Tryz.prog 140 #[.pointer (some ⟨mb,0,none⟩),.bool b] w fun x w'=>x=.returned (.int .i64 (if b then 1 else 0))/\w=w':=by
 cases b with
 | true =>
   go_enter Tryz.func140,Tryz.ntmps140
   go_wp2_with fail;go_ret;exact⟨rfl,rfl⟩
 | false =>
   go_enter Tryz.func140,Tryz.ntmps140
   go_wp2_with fail;go_ret;exact⟨rfl,rfl⟩
theorem Ybb {α:Type} {l:List α} (h:l.length=2):∃ a b,l=[a,b]:=by
 match l,h with
 | [a,b],_=>exact⟨a,b,rfl⟩
theorem Zv8 {α:Type} {l:List α} (h:l.length=3):∃ a b c,l=[a,b,c]:=by
 match l,h with
 | [a,b,c],_=>exact⟨a,b,c,rfl⟩
theorem Zs0 {f:Nat->Nat} (h:∀ i,1<=f i):∀ k,k<=sumN k f
 | 0=>Nat.zero_le _
 | k+1=>by
   have:=Zs0 h k;have:=h k
   show k+1<=sumN k f+f k
   omega
section
variable {K:Law} {n:Nat} {Od:List Nat->Prop} {room:Nat} {w0 w w' w'':World} {mb:Nat} {fs fs':List (Int×BF)} {nx nx':Int} {o o':Own} {m m':ManD} {V V':Nat->BF}
theorem Goes.refl {M:Nat} (h:SatE K n Od room w0 mb fs nx w o m V) (hw:m.waits=[]/\m.d.pool.many<=M):Goes K n Od room w0 mb fs nx (NoW M) o w w:=⟨o,m,V,ChgX.of_below (Below.refl _ _) o NoB,hw,h⟩
theorem Goes.after {Wt:List Ev->Int->Nat->Prop} (hc:ChgX NoB o o' w w') (g:Goes K n Od room w0 mb fs nx Wt o' w' w''):Goes K n Od room w0 mb fs nx Wt o w w'':=by
 obtain⟨o2,m2,V2,h1,h2,h3⟩:=g;exact⟨o2,m2,V2,hc.trans h1 (fun _ _ e=>e),h2,h3⟩
theorem Goes.cell {Wt:List Ev->Int->Nat->Prop} (g:Goes K n Od room w0 mb fs nx Wt o w w') {p:Addr} {v:Value} (hc:w.cell? p=some v) (hb:o p.block=none):w'.cell? p=some v:=by
 obtain⟨o2,m2,V2,h1,h2,h3⟩:=g;exact h1.cell hc hb (fun e=>e)
theorem Goes.below0 {Wt:List Ev->Int->Nat->Prop} (g:Goes K n Od room w0 mb fs nx Wt o w w'):Below w0.heap.size w0 w':=by
 obtain⟨o2,m2,V2,h1,h2,h3⟩:=g;exact h3.chg.below0
structure BuiT (K:Law) (n:Nat) (Od:List Nat->Prop) (room:Nat) (w0:World) (mb:Nat) (fs:List (Int×BF)) (nx:Int) (M:Nat) (o:Own) (w:World) (vl:Value) (ks:List Int) (W:World) (o':Own) (m':ManD) (V':Nat->BF):Prop where
 sat:SatE K n Od room w0 mb fs nx W o' m' V'
 waits:m'.waits=[]/\m'.d.pool.many<=M
 chg:ChgX NoB o o' w W
 l:LawL W o' w.heap.size vl ks
def BuiS (K:Law) (n:Nat) (Od:List Nat->Prop) (room:Nat) (w0:World) (mb:Nat) (fs:List (Int×BF)) (nx:Int) (M:Nat) (o:Own) (w:World) (vl:Value) (ks:List Int) (W:World):Prop:=∃ o' m' V',BuiT K n Od room w0 mb fs nx M o w vl ks W o' m' V'
section
variable {M:Nat} {vl vl':Value} {ks:List Int} {W W':World}
theorem BuiT.go (h:BuiT K n Od room w0 mb fs nx M o w vl ks W o' m' V') {M':Nat} (g:Goes K n Od room w0 mb fs' nx' (NoW M') o' W W'):BuiS K n Od room w0 mb fs' nx' M' o w vl ks W':=by
 obtain⟨o2,m2,V2,h1,h2,h3⟩:=g;exact⟨o2,m2,V2,h3,h2,h.chg.trans h1 (fun _ _ e=>e),h.l.chg h1⟩
theorem BuiT.refl (h:BuiT K n Od room w0 mb fs nx M o w vl ks W o' m' V'):Goes K n Od room w0 mb fs nx (NoW M) o' W W:=Goes.refl h.sat h.waits
theorem BuiS.below (h:BuiS K n Od room w0 mb fs nx M o w vl ks W) (hb:Below W.heap.size W W'):BuiS K n Od room w0 mb fs nx M o w vl ks W':=by
 obtain⟨o',m',V',h⟩:=h;exact h.go (h.refl.below hb)
theorem BuiS.goes (h:BuiS K n Od room w0 mb fs nx M o w vl ks W):Goes K n Od room w0 mb fs nx (NoW M) o w W:=by
 obtain⟨o',m',V',h⟩:=h;exact⟨o',m',V',h.chg,h.waits,h.sat⟩
theorem BuiS.app {k:Int} (h:BuiT K n Od room w0 mb fs nx M o w vl ks W o' m' V') (hown:OwnC 3 W' w.heap.size vl' (Zbe ks++[.int .i64 k])) (e1:W'.os=W.os) (e2:W'.tape=W.tape) (e3:W'.output=W.output) (e4:W.heap.size<=W'.heap.size) (hk:Zd8 vl vl' W W') (hw0:w0.heap.size<=w.heap.size) :
 BuiS K n Od room w0 mb fs nx M o w vl' (ks++[k]) W':=by
 have hw:=Zs8 e1 e2 e3 e4 hk;exact⟨o',m',V',h.sat.other hw (fun k _ hk=>⟨by have:=(h.l.own.lt k hk).1;omega,h.l.no k hk⟩),h.waits,h.chg.trans (ChgX.of_wr (C:=fun k=>w.heap.size<=k) hw o' (fun k _ hk=>(h.l.own.lt k hk).1)) (fun k hk e=>by omega),h.l.app h.sat.lt hown hk⟩
theorem BuiS.cells (h:BuiS K n Od room w0 mb fs nx M o w vl ks W) (hp:0<ks.length):∃ g c,vl=.slice (some ⟨g,0,none⟩) ks.length c/\∀ j,j<ks.length->W.cell? ⟨g,j,none⟩=some (.int .i64 (at0 ks j)):=by
 obtain⟨o',m',V',h⟩:=h;obtain⟨g,c,e,_⟩:=h.l.own.shape (by simpa [Zbe] using hp);have e':vl=.slice (some ⟨g,0,none⟩) ks.length c:=by rw[e];simp[Zbe]
 refine⟨g,c,e',fun j hj=>?_⟩;have ho:=h.l.own;rw[e'] at ho;rw[ho.cell j (by simpa [Zbe] using hj)];simp[Zbe,Zce hj,hj]
theorem BuiS.cellsN (h:BuiS K n Od room w0 mb fs nx M o w vl ks W) {i:Nat} (hl:ks.length=i) (hp:0<i):∃ g c,vl=.slice (some ⟨g,0,none⟩) i c/\∀ j,j<i->W.cell? ⟨g,j,none⟩=some (.int .i64 (at0 ks j)):=by
 subst hl;exact h.cells hp
end
def Zh8 (n s:Nat):Nat:=s*2^n-(2^n-1)
theorem Zio (n:Nat) {s:Nat} (h:1<=s):Zh8 n s+(2^n-1)=s*2^n:=by
 have:=Nat.mul_le_mul_right (2^n) h;unfold Zh8;omega
def Ze9 (n:Nat) (kid:Nat->ExT) (i:Nat):Nat:=sumN i fun j=>Zh8 n (kid j).size
theorem Zo1 (n:Nat) (kid:Nat->ExT):∀ i,Ze9 n kid i+i*(2^n-1)=(sumN i fun i=>(kid i).size)*2^n
 | 0=>by simp[Ze9,sumN]
 | i+1=>by
   have h1:=Zo1 n kid i;have h2:=Zio n (kid i).size_pos
   show Ze9 n kid i+Zh8 n (kid i).size+(i+1)*(2^n-1)=((sumN i fun i=>(kid i).size)+(kid i).size)*2^n
   rw[Nat.add_mul,Nat.add_mul];omega
structure BCtx (K:Law) (n:Nat) (Od:List Nat->Prop) (room:Nat) (w0:World) (mb:Nat) (fs:List (Int×BF)) (nx:Int) (M:Nat) (w w1:World) (o:Own) (m:ManD) (V:Nat->BF) (op v:Int) (nk:Nat) (kid:Nat->ExT) (a:Option Addr) (c:Nat) (E:ExT) (Q:Ending->World->Prop):Prop where
 HKK:Hid (Zci K)
 H5:Hid (∀ k,k<nk->∃ b off x0 x1 x2,a=some ⟨b,off,none⟩/\w0.cell? ⟨b,off+k*3,none⟩=some x0/\w0.cell? ⟨b,off+k*3+1,none⟩=some x1/\w0.cell? ⟨b,off+k*3+2,none⟩=some x2/\Zbf w0 (kid k) (.agg #[x0,x1,x2]))
 HKS:Hid (∀ i,i<nk->(sumN i fun i=>(kid i).size)+(kid i).size+1<=E.size)
 HSZ:Hid (E.size=1+sumN nk fun i=>(kid i).size)
 HPOS:Hid (∀ k,k<=sumN k fun i=>(kid i).size)
 IH:Hid (∀ (i:Nat) (x:Value) (fs':List (Int×BF)) (nx':Int) (W:World) (o':Own) (m':ManD) (V':Nat->BF) (M':Nat),i<nk->SatE K n Od room w0 mb fs' nx' W o' m' V'->m'.waits=[]/\m'.d.pool.many<=M'->B2 fs'->Zbf w0 (kid i) x->nx'+3*(kid i).size<549755813000->M'+(kid i).size*2^n<=room ->
  Calls Tryz.prog 70 #[.pointer (some ⟨mb,0,none⟩),x] W fun y w'=>∃ k:Int,y=.returned (.tuple #[.int .i64 k,.bool true])/\k+3<=nx'+3*(kid i).size/\Goes K n Od room w0 mb (fs'++[(k,fnT (kid i))]) (k+1) (NoW (M'+Zh8 n (kid i).size)) o' W w')
 HW1:Hid (w.alloc (.cells #[.int .i64 op,.int .i64 v,.slice a nk c] 86)=w1)
 HG1:Hid (Goes K n Od room w0 mb fs nx (NoW M) o w1 w1)
 HSAT1:Hid (SatE K n Od room w0 mb fs nx w1 o m V)
 HWT:Hid (m.waits=[]/\m.d.pool.many<=M)
 HB2:Hid (B2 fs)
 HQ:Hid (∀ (k:Int) F W M',F=fnT E->k+3<=nx+3*E.size->M'<=M+Zh8 n E.size->Goes K n Od room w0 mb (fs++[(k,F)]) (k+1) (NoW M') o w1 W->Q (.returned (.tuple #[.int .i64 k,.bool true])) W)
 HMR:Hid (∀ i,i<nk->M+(sumN i fun i=>(kid i).size)*2^n+(kid i).size*2^n+2^n<=room)
 HCK:Hid (∀ i,Ze9 n kid i+i*(2^n-1)=(sumN i fun i=>(kid i).size)*2^n)
 HCI:Hid (∀ i,Zh8 n (kid i).size+(2^n-1)=(kid i).size*2^n)
 HEP:Hid (E.size*2^n=2^n+(sumN nk fun i=>(kid i).size)*2^n/\Zh8 n E.size+(2^n-1)=E.size*2^n)
 HME:Hid (M+E.size*2^n<=room)
 hn64:nk<=64
 hnx:nx+3*E.size<549755813000
 hE1:1<=E.size
 hs1:w1.heap.size=w.heap.size+1
 d0:w1.cell? ⟨w.heap.size,0,none⟩=some (.int .i64 op)
 d1:w1.cell? ⟨w.heap.size,1,none⟩=some (.int .i64 v)
 d2:w1.cell? ⟨w.heap.size,2,none⟩=some (.slice a nk c)
 on:o w.heap.size=none
 hw0:w0.heap.size<=w1.heap.size
 hp2:0<2^n
 h2 : -9223372036854775808<=op/\op<=9223372036854775807
 h3 : -9223372036854775808<=v/\v<=9223372036854775807
theorem Zte {w1:World} {op v:Int} {nk:Nat} {kid:Nat->ExT} {a:Option Addr} {c:Nat} {E:ExT} {Q:Ending->World->Prop} {M:Nat} (hctx:BCtx K n Od room w0 mb fs nx M w w1 o m V op v nk kid a c E Q) (h1:op=1) (hF:fnT E=fun _=>true) :
 Calls Tryz.prog 70 #[.pointer (some ⟨mb,0,none⟩),.agg #[.int .i64 op,.int .i64 v,.slice a nk c]] w Q:=by
 obtain⟨HKK,H5,HKS,HSZ,HPOS,IH,HW1,HG1,HSAT1,HWT,HB2,HQ,HMR,HCK,HCI,HEP,HME,hn64,hnx,hE1,hs1,d0,d1,d2,on,hw0,hp2,h2,h3⟩:=hctx;subst h1;have HCN:=Hd (Zgt mb true w1);have HCP:=Hd (Znh HKK.out HG1.out (by omega) (k:=1) (F:=fun _=>true) HB2.out.one);have HFF:Hid ((fun _=>true)=fnT E):=Hd hF.symm;have HCE:Hid (M<=M+Zh8 n E.size):=Hd (Nat.le_add_right _ _);clear IH
 go_enter Tryz.func70,Tryz.ntmps70
 go_upto_region 1 with fail;rw[HW1.out];go_wp2_with fail;refine HCN.out.mono ?_;rintro y w' ⟨rfl,rfl⟩;go_wp2_with fail;refine HCP.out.mono ?_;rintro y w2 ⟨rfl,g⟩;have HF:=Hd (HQ.out nx _ w2 _ HFF.out (by omega) HCE.out g);clear g;go_wp2_with fail;exact HF.out
theorem Zqy {w1:World} {op v:Int} {nk:Nat} {kid:Nat->ExT} {a:Option Addr} {c:Nat} {E:ExT} {Q:Ending->World->Prop} {M:Nat} (hctx:BCtx K n Od room w0 mb fs nx M w w1 o m V op v nk kid a c E Q) (h1:op=2) (hF:fnT E=fun _=>false) :
 Calls Tryz.prog 70 #[.pointer (some ⟨mb,0,none⟩),.agg #[.int .i64 op,.int .i64 v,.slice a nk c]] w Q:=by
 obtain⟨HKK,H5,HKS,HSZ,HPOS,IH,HW1,HG1,HSAT1,HWT,HB2,HQ,HMR,HCK,HCI,HEP,HME,hn64,hnx,hE1,hs1,d0,d1,d2,on,hw0,hp2,h2,h3⟩:=hctx;subst h1;have HCN:=Hd (Zgt mb false w1);have HCP:=Hd (Znh HKK.out HG1.out (by omega) (k:=0) (F:=fun _=>false) HB2.out.zero);have HFF:Hid ((fun _=>false)=fnT E):=Hd hF.symm;have HCE:Hid (M<=M+Zh8 n E.size):=Hd (Nat.le_add_right _ _);clear IH
 go_enter Tryz.func70,Tryz.ntmps70
 go_upto_region 1 with fail;rw[HW1.out];go_wp2_with fail;refine HCN.out.mono ?_;rintro y w' ⟨rfl,rfl⟩;go_wp2_with fail;refine HCP.out.mono ?_;rintro y w2 ⟨rfl,g⟩;have HF:=Hd (HQ.out nx _ w2 _ HFF.out (by omega) HCE.out g);clear g;go_wp2_with fail;exact HF.out
theorem Zvb {w1:World} {op v:Int} {nk:Nat} {kid:Nat->ExT} {a:Option Addr} {c:Nat} {E:ExT} {Q:Ending->World->Prop} {M:Nat} (hctx:BCtx K n Od room w0 mb fs nx M w w1 o m V op v nk kid a c E Q) {u:Nat} (hu:u<n) (h1:op=3) (hvu:v=u) (hF:fnT E=varF u) :
 Calls Tryz.prog 70 #[.pointer (some ⟨mb,0,none⟩),.agg #[.int .i64 op,.int .i64 v,.slice a nk c]] w Q:=by
 obtain⟨HKK,H5,HKS,HSZ,HPOS,IH,HW1,HG1,HSAT1,HWT,HB2,HQ,HMR,HCK,HCI,HEP,HME,hn64,hnx,hE1,hs1,d0,d1,d2,on,hw0,hp2,h2,h3⟩:=hctx;subst hvu;subst h1;have HCP:=Hd (Ycl HKK.out HG1.out (by omega) (by have:=HEP.out;have:=HME.out;omega) hu);have HFF:Hid (varF u=fnT E):=Hd hF.symm;have HCE:Hid (M+1<=M+Zh8 n E.size):=Hd (by have:=HEP.out;omega);clear IH
 go_enter Tryz.func70,Tryz.ntmps70
 go_upto_region 1 with fail;rw[HW1.out];go_wp2_with fail;refine HCP.out.mono ?_;rintro y w2 ⟨rfl,g⟩;have HF:=Hd (HQ.out nx _ w2 _ HFF.out (by omega) HCE.out g);clear g;go_wp2_with fail;exact HF.out
end
open Go.RowKit
section
variable {K:Law} {n:Nat} {Od:List Nat->Prop} {room:Nat} {w0 w w' w'':World} {mb:Nat} {fs fs':List (Int×BF)} {nx nx':Int} {o o':Own} {m m':ManD} {V V':Nat->BF}
theorem Zu7 {w1:World} {op v:Int} {nk:Nat} {kid:Nat->ExT} {a:Option Addr} {c:Nat} {E:ExT} {Q:Ending->World->Prop} {M:Nat} (hctx:BCtx K n Od room w0 mb fs nx M w w1 o m V op v nk kid a c E Q) (h1:op=5\/op=6\/op=7) (hF:fnT E=accT op kid nk) :
 Calls Tryz.prog 70 #[.pointer (some ⟨mb,0,none⟩),.agg #[.int .i64 op,.int .i64 v,.slice a nk c]] w Q:=by
 obtain⟨HKK,H5,HKS,HSZ,HPOS,IH,HW1,HG1,HSAT1,HWT,HB2,HQ,HMR,HCK,HCI,HEP,HME,hn64,hnx,hE1,hs1,d0,d1,d2,on,hw0,hp2,h2,h3⟩:=hctx;have h59:5<=op/\op<=9:=by omega
 have HFF:Hid (accT op kid nk=fnT E):=Hd hF.symm;have HCN:=Hd (fun b=>Zgt mb b w1)
 have HCP:Hid (∀ z:Int,z=(if op=5 then 1 else 0)->Calls Tryz.prog 139 #[.pointer (some ⟨mb,0,none⟩),.int .i64 z] w1 fun x w''=>x=.returned (.tuple #[.int .i64 nx,.int .i64 0])/\Goes K n Od room w0 mb (fs++[(nx,accT op kid 0)]) (nx+1) (NoW M) o w1 w''):=Hd (by
  rintro z rfl
  by_cases e:op=5
  ·
   rw[if_pos e,show accT op kid 0=fun _=>true by unfold accT;simp[e]];exact Znh HKK.out HG1.out (by omega) HB2.out.one
  ·
   rw[if_neg e,show accT op kid 0=fun _=>false by unfold accT;simp[e]];exact Znh HKK.out HG1.out (by omega) HB2.out.zero)
 obtain⟨A,hA⟩:∃ A:Nat->BF,A=accT op kid:=⟨_,rfl⟩;have HAJ:Hid (∀ i,Zpm op (A i) (fnT (kid i))=A (i+1)):=Hd fun i=>by rw[hA];rfl
 rw[<- hA] at HCP HFF;clear hA;rcases h1 with h1|h1|h1
 all_goals
  subst h1
  go_enter Tryz.func70,Tryz.ntmps70
  go_upto_region 1 with fail;rw[HW1.out];go_wp2_with fail;refine(HCN.out _).mono ?_;rintro y w' ⟨rfl,rfl⟩;go_wp2_with fail;refine(HCP.out _ (by rfl)).mono ?_;rintro y w2 ⟨rfl,g⟩;have HG0:=Hd g;clear g HCN HCP;go_wp2_with fail
  go_loopw [10,12,13,14] (fun s10 s12 s13 s14 wr=>∃ (i:Nat) (k:Int),i<=nk/\s10=.int .i64 k/\s12=.bool true/\s13=.int .i64 i/\Hid (k+3<=nx+3*((1+sumN i fun i=>(kid i).size:Nat):Int))/\Hid (Goes K n Od room w0 mb (fs++[(k,A i)]) (k+1) (NoW (M+(sumN i fun i=>(kid i).size)*2^n)) o w1 wr)) (fun _ _ s13 _ _=>nk-(intOf s13).toNat)
  case atStart=>exact⟨0,nx,Nat.zero_le _,rfl,rfl,rfl,Hd (by show nx+3<=nx+3*((1+0:Nat):Int);omega),Hd (HG0.out.more (Nat.le_add_right _ _))⟩
  case round =>
   obtain⟨i,k,hi,rfl,rfl,rfl,HN,HG⟩:=hrel;have e0:=HG.out.cell (p:=⟨w.heap.size,0,none⟩) d0 on;have e2:=HG.out.cell (p:=⟨w.heap.size,2,none⟩) d2 on
   by_cases hlt:i<nk
   ·
    obtain⟨b,off,x0,x1,x2,rfl,c0,c1,c2,hx⟩:=H5.out i hlt;have hb0:=HG.out.below0;have q0:=(hb0.cell (p:=⟨b,off+i*3,none⟩) (Zaa c0)).trans c0;have q1:=(hb0.cell (p:=⟨b,off+i*3+1,none⟩) (Zaa c1)).trans c1;have q2:=(hb0.cell (p:=⟨b,off+i*3+2,none⟩) (Zaa c2)).trans c2;have hiz:(i:Int)<nk:=by omega
    have hks:=HKS.out i hlt;obtain⟨o1,m1,V1,hc1,hw1',hs1'⟩:=HG.out;have hsum:=HN.out;have HCALL:=Hd (IH.out i _ (fs++[(k,A i)]) (k+1) _ o1 m1 V1 _ hlt hs1' hw1' (HB2.out.app _) hx (by omega) (by have:=HMR.out i hlt;omega));have HCH:=Hd hc1;clear hb0 c0 c1 c2 hx hs1' hw1' hc1;go_wp2_with fail;refine HCALL.out.mono ?_;rintro y w3 ⟨k2,rfl,hk2,g3⟩
    have HG3:Hid (Goes K n Od room w0 mb (fs++[(k,A i),(k2,fnT (kid i))]) (k2+1) (NoW (M+(sumN i fun i=>(kid i).size)*2^n+Zh8 n (kid i).size)) o w1 w3):=Hd (by
     have:=g3.after HCH.out;rw[List.append_assoc] at this;exact this)
    have f0:=HG3.out.cell (p:=⟨w.heap.size,0,none⟩) d0 on;have HJ:=Hd (Zsh HKK.out HG3.out HB2.out (by omega) (by have:=HMR.out i hlt;have:=HCI.out i;omega) h59.1 h59.2);clear g3 HCALL HCH q0 q1 q2 e0 e2;go_wp2_with fail;refine HJ.out.mono ?_;rintro y w4 ⟨k4,rfl,hk4,g4⟩
    have HG4:Hid (Goes K n Od room w0 mb (fs++[(k4,A (i+1))]) (k4+1) (NoW (M+(sumN (i+1) fun i=>(kid i).size)*2^n)) o w1 w4):=Hd (by
     rw[<- HAJ.out i];refine g4.more ?_
     show _<=M+((sumN i fun i=>(kid i).size)+(kid i).size)*2^n
     rw[Nat.add_mul];have:=HCI.out i;omega)
    have HN4:Hid (k4+3<=nx+3*((1+sumN (i+1) fun i=>(kid i).size:Nat):Int)):=Hd (by
     show k4+3<=nx+3*((1+((sumN i fun i=>(kid i).size)+(kid i).size):Nat):Int)
     omega)
    clear g4 HJ f0 HG3;go_wp2_with fail;go_roundw
    case rel=>exact⟨i+1,k4,by omega,rfl,rfl,by go_num,HN4,HG4⟩
    case measure=>simp[intOf];omega
   ·
    obtain rfl:i=nk:=by omega
    have hiz:¬ (i:Int)<i:=by omega
    have HF:=Hd (HQ.out k _ _ _ HFF.out (by have:=HN.out;have:=HSZ.out;omega) (by have:=HEP.out;omega) HG.out);go_wp2_with fail;exact HF.out
end
open Go.RowKit
section
variable {K:Law} {n:Nat} {Od:List Nat->Prop} {room:Nat} {w0 w w' w'':World} {mb:Nat} {fs fs':List (Int×BF)} {nx nx':Int} {o o':Own} {m m':ManD} {V V':Nat->BF}
theorem Zu9 {w1:World} {op v:Int} {nk:Nat} {kid:Nat->ExT} {a:Option Addr} {c:Nat} {E:ExT} {Q:Ending->World->Prop} {M:Nat} (hctx:BCtx K n Od room w0 mb fs nx M w w1 o m V op v nk kid a c E Q) (h1:op=4) (hnk:nk=1) (hF:fnT E=notF (fnT (kid 0))) :
 Calls Tryz.prog 70 #[.pointer (some ⟨mb,0,none⟩),.agg #[.int .i64 op,.int .i64 v,.slice a nk c]] w Q:=by
 obtain⟨HKK,H5,HKS,HSZ,HPOS,IH,HW1,HG1,HSAT1,HWT,HB2,HQ,HMR,HCK,HCI,HEP,HME,hn64,hnx,hE1,hs1,d0,d1,d2,on,hw0,hp2,h2,h3⟩:=hctx;have g1:(op == 1)=false:=by simp;omega
 have g2:(op == 2)=false:=by simp;omega
 have g3:(op == 3)=false:=by simp;omega
 have g5:(op == 5)=false:=by simp;omega
 have g6:(op == 6)=false:=by simp;omega
 have g7:(op == 7)=false:=by simp;omega
 have g4:(op == 4)=true:=by simp;omega
 have HNK:=Hd hnk;clear h1 hnk;obtain⟨w2,hw2⟩:∃ w2,w2=w1.alloc (.cells #[] 3):=⟨_,rfl⟩;have HW2:Hid (_=w2):=Hd hw2.symm;have hb2':Below w1.heap.size w1 w2:=by rw[hw2];exact Zad _ _
 have HBS0:Hid (BuiS K n Od room w0 mb (fs++[]) nx (M+Ze9 n kid 0) o w1 (.slice (some ⟨w.heap.size+1,0,none⟩) 0 0) (([]:List (Int×BF)).map Prod.fst) w2):=Hd ⟨o,m,V,by rw[List.append_nil];exact HSAT1.out.below hb2',HWT.out,Zb3 hb2' o,by rw[hw2,<- hs1];exact Zeh _ _ _ (Nat.le_refl _),fun k hk=>by cases hk;rw[<- hs1];exact HSAT1.out.lt.none (Nat.le_refl _)⟩;have HB12:=Hd hb2';clear hw2 hb2'
 go_enter Tryz.func70,Tryz.ntmps70
 go_upto_region 1 with fail;rw[HW1.out];go_upto_region 23 with fail;rw[HW2.out];have e2:=(HB12.out.cell (p:=⟨w.heap.size,2,none⟩) (Zaa d2)).trans d2;go_wp2_with fail
 go_loopw [15,106] (fun s15 s106 wr=>∃ (i:Nat) (hs:List (Int×BF)) (nxi:Int),i<=nk/\s106=.int .i64 i/\hs.length=i/\nxi+2*i<=nx+3*((sumN i fun i=>(kid i).size:Nat):Int)/\Hid (∀ j (hj:j<hs.length),hs[j].2=fnT (kid j))/\Hid (BuiS K n Od room w0 mb (fs++hs) nxi (M+Ze9 n kid i) o w1 s15 (hs.map Prod.fst) wr)) (fun _ s106 _=>nk-(intOf s106).toNat)
 case atStart=>exact⟨0,[],nx,Nat.zero_le _,rfl,rfl,by show nx+2*((0:Nat):Int)<=nx+3*((0:Nat):Int);omega,Hd (fun j hj=>by simp at hj),HBS0⟩
 case round =>
  clear HBS0 HB12 e2
  rename World=>wy
  obtain⟨i,hs,nxi,hi,rfl,hhl,hnxi,HFS,HBS⟩:=hrel
  by_cases hlt:i<nk
  ·
   obtain⟨b,off,x0,x1,x2,rfl,c0,c1,c2,hx⟩:=H5.out i hlt;have hb0:=HBS.out.goes.below0;have q0:=(hb0.cell (p:=⟨b,off+i*3,none⟩) (Zaa c0)).trans c0;have q1:=(hb0.cell (p:=⟨b,off+i*3+1,none⟩) (Zaa c1)).trans c1;have q2:=(hb0.cell (p:=⟨b,off+i*3+2,none⟩) (Zaa c2)).trans c2;obtain⟨zo,zv,za,zn,zc,rfl,rfl,rfl⟩:=hx.parts;have hiz:(i:Int)<nk:=by omega
   have hks:=HKS.out i hlt;obtain⟨wz,hwz⟩:∃ wz,wz=wy.alloc (.cells #[.int .i64 zo,.int .i64 zv,.slice za zn zc] 86):=⟨_,rfl⟩;have HWZ:Hid (_=wz):=Hd hwz.symm;have hbz:Below wy.heap.size wy wz:=by rw[hwz];exact Zad _ _
   have hblk:wz.heap[wy.heap.size]?=some (.cells #[.int .i64 zo,.int .i64 zv,.slice za zn zc] 86 (0,0)):=by rw[hwz];exact heap_alloc_new _ _
   have p0:wz.cell? ⟨wy.heap.size,0,none⟩=some (.int .i64 zo):=by rw[cell_of_row _ _ 0 _ _ _ hblk];rfl
   have p1:wz.cell? ⟨wy.heap.size,1,none⟩=some (.int .i64 zv):=by rw[cell_of_row _ _ 1 _ _ _ hblk];rfl
   have p2:wz.cell? ⟨wy.heap.size,2,none⟩=some (.slice za zn zc):=by rw[cell_of_row _ _ 2 _ _ _ hblk];rfl
   obtain⟨o1,m1,V1,bt⟩:=HBS.out.below hbz;have hpos:=HPOS.out i;have HCALL:=Hd (IH.out i _ (fs++hs) nxi wz o1 m1 V1 _ hlt bt.sat bt.waits (HB2.out.app _) hx (by omega) (by have:=HMR.out i hlt;have:=HCK.out i;omega));have HBT:=Hd bt;clear hb0 c0 c1 c2 hx bt hwz hbz hblk HBS;go_upto_region 26 with fail;rw[HWZ.out];clear q0 q1 q2;go_wp2_with fail;refine HCALL.out.mono ?_;rintro y w3 ⟨k2,rfl,hk2,gg⟩;have HBS3:=Hd (HBT.out.go (M':=M+Ze9 n kid (i+1)) (gg.more (Nat.le_of_eq (Nat.add_assoc _ _ _))));have HF3:Hid (∀ j (hj:j<(hs++[(k2,fnT (kid i))]).length),(hs++[(k2,fnT (kid i))])[j].2=fnT (kid j)):=Hd fun j hj=>by
    rcases Nat.lt_or_ge j hs.length with h|h
    ·
     rw[List.getElem_append_left h];exact HFS.out j h
    ·
     have hj':j=i:=by simp at hj;omega
     subst hj';rw[List.getElem_append_right (by omega)];simp
   clear gg HCALL HBT p0 p1 p2;obtain⟨o3,m3,V3,bt3⟩:=HBS3.out;have hsz3:w1.heap.size<=w3.heap.size:=bt3.chg.size;have HBT3:=Hd bt3;clear bt3;go_upto_region 30 with (at_builtin;refine Zcc Znk _ rfl _ _ rfl w1.heap.size _ (Zbe (hs.map Prod.fst)) _ rfl rfl rfl rfl rfl (by exact HBT3.out.l.own) (by simp[Zbe];omega) hsz3 ?_;intro v5 w5 hown5 r1 r2 r3 r4 hk5)
   have HBS5:Hid (BuiS K n Od room w0 mb (fs++(hs++[(k2,fnT (kid i))])) (k2+1) (M+Ze9 n kid (i+1)) o w1 v5 ((hs++[(k2,fnT (kid i))]).map Prod.fst) w5):=Hd (by
    have:=BuiS.app HBT3.out hown5 r1 r2 r3 r4 hk5 hw0;rw[List.append_assoc] at this;rw[List.map_append];exact this)
   clear hown5 r1 r2 r3 r4 hk5 HBT3 HBS3;go_wp2_with fail;go_roundw
   case rel=>exact⟨i+1,hs++[(k2,fnT (kid i))],k2+1,by omega,by go_num,by simp;omega,by
    show k2+1+2*((i+1:Nat):Int)<=nx+3*(((sumN i fun i=>(kid i).size)+(kid i).size:Nat):Int)
    omega,HF3,HBS5⟩
   case measure=>simp[intOf];omega
  ·
   obtain rfl:i=nk:=by omega
   have hiz:¬ (i:Int)<i:=by omega
   have f0:=HBS.out.goes.cell (p:=⟨w.heap.size,0,none⟩) d0 on;have hszn:=HSZ.out;have hsum:nxi+2*i+3<=nx+3*E.size:=by omega
   have hnk:=HNK.out;have hnk1:1<=i:=by omega
   clear hszn H5 IH HSZ HKS HPOS;obtain⟨o1,m1,V1,bt⟩:=HBS.out;have HBT:=Hd bt;clear bt;subst hnk;obtain⟨⟨k0,F0⟩,rfl⟩:=List.length_eq_one_iff.1 hhl;obtain⟨g,cp,rfl,hcells⟩:=HBS.out.cellsN (i:=1) rfl (by omega);have c0:wy.cell? ⟨g,0,none⟩=some (.int .i64 k0):=hcells 0 (by omega);have HF:Hid (notF F0=fnT E):=Hd (by rw[hF,<- HFS.out 0 (by simp)];rfl);have HN:=Hd (Zz4 HKK.out HBT.out.refl (by omega) (k:=k0) (F:=F0) (by simp));clear hcells;go_wp2_with fail;refine HN.out.mono ?_;rintro y w3 ⟨rfl,g3⟩;have HB3:=Hd (HBT.out.go g3);obtain⟨g',cp',ev,hc3⟩:=HB3.out.cellsN (i:=1) rfl (by omega);cases ev;have c3:w3.cell? ⟨g,0,none⟩=some (.int .i64 k0):=hc3 0 (by omega);have HD:=Hd (Znj HKK.out (hs:=[(k0,F0)]) (r:=[(nxi,notF F0)]) (by have:=HB3.out.goes;rw[List.append_assoc] at this;exact this) HB2.out (by omega) (by simp) (T:=w3.alloc (.cells #[.int .i64 k0] 3)) rfl);clear g3 hc3 HN;go_wp2_with fail;refine HD.out.mono ?_;rintro y w4 ⟨rfl,g4⟩;have HFN:=Hd (HQ.out nxi _ w4 _ HF.out (by omega) (by have:=HEP.out;have:=HCK.out 1;omega) g4);clear g4 HD;go_wp2_with fail;exact HFN.out
end
open Go.RowKit
section
variable {K:Law} {n:Nat} {Od:List Nat->Prop} {room:Nat} {w0 w w' w'':World} {mb:Nat} {fs fs':List (Int×BF)} {nx nx':Int} {o o':Own} {m m':ManD} {V V':Nat->BF}
theorem Zva {w1:World} {op v:Int} {nk:Nat} {kid:Nat->ExT} {a:Option Addr} {c:Nat} {E:ExT} {Q:Ending->World->Prop} {M:Nat} (hctx:BCtx K n Od room w0 mb fs nx M w w1 o m V op v nk kid a c E Q) (h1:op=8\/op=9) (hnk:nk=2) (hF:fnT E=Zpm op (fnT (kid 0)) (fnT (kid 1))) :
 Calls Tryz.prog 70 #[.pointer (some ⟨mb,0,none⟩),.agg #[.int .i64 op,.int .i64 v,.slice a nk c]] w Q:=by
 obtain⟨HKK,H5,HKS,HSZ,HPOS,IH,HW1,HG1,HSAT1,HWT,HB2,HQ,HMR,HCK,HCI,HEP,HME,hn64,hnx,hE1,hs1,d0,d1,d2,on,hw0,hp2,h2,h3⟩:=hctx;have g1:(op == 1)=false:=by simp;omega
 have g2:(op == 2)=false:=by simp;omega
 have g3:(op == 3)=false:=by simp;omega
 have g5:(op == 5)=false:=by simp;omega
 have g6:(op == 6)=false:=by simp;omega
 have g7:(op == 7)=false:=by simp;omega
 have g4:(op == 4)=false:=by simp;omega
 have g10:(op == 10)=false:=by simp;omega
 have HNK:=Hd hnk;have H1:=Hd h1;clear h1 hnk;obtain⟨w2,hw2⟩:∃ w2,w2=w1.alloc (.cells #[] 3):=⟨_,rfl⟩;have HW2:Hid (_=w2):=Hd hw2.symm;have hb2':Below w1.heap.size w1 w2:=by rw[hw2];exact Zad _ _
 have HBS0:Hid (BuiS K n Od room w0 mb (fs++[]) nx (M+Ze9 n kid 0) o w1 (.slice (some ⟨w.heap.size+1,0,none⟩) 0 0) (([]:List (Int×BF)).map Prod.fst) w2):=Hd ⟨o,m,V,by rw[List.append_nil];exact HSAT1.out.below hb2',HWT.out,Zb3 hb2' o,by rw[hw2,<- hs1];exact Zeh _ _ _ (Nat.le_refl _),fun k hk=>by cases hk;rw[<- hs1];exact HSAT1.out.lt.none (Nat.le_refl _)⟩;have HB12:=Hd hb2';clear hw2 hb2'
 go_enter Tryz.func70,Tryz.ntmps70
 go_upto_region 1 with fail;rw[HW1.out];go_upto_region 23 with fail;rw[HW2.out];have e2:=(HB12.out.cell (p:=⟨w.heap.size,2,none⟩) (Zaa d2)).trans d2;go_wp2_with fail
 go_loopw [15,106] (fun s15 s106 wr=>∃ (i:Nat) (hs:List (Int×BF)) (nxi:Int),i<=nk/\s106=.int .i64 i/\hs.length=i/\nxi+2*i<=nx+3*((sumN i fun i=>(kid i).size:Nat):Int)/\Hid (∀ j (hj:j<hs.length),hs[j].2=fnT (kid j))/\Hid (BuiS K n Od room w0 mb (fs++hs) nxi (M+Ze9 n kid i) o w1 s15 (hs.map Prod.fst) wr)) (fun _ s106 _=>nk-(intOf s106).toNat)
 case atStart=>exact⟨0,[],nx,Nat.zero_le _,rfl,rfl,by show nx+2*((0:Nat):Int)<=nx+3*((0:Nat):Int);omega,Hd (fun j hj=>by simp at hj),HBS0⟩
 case round =>
  clear HBS0 HB12 e2
  rename World=>wy
  obtain⟨i,hs,nxi,hi,rfl,hhl,hnxi,HFS,HBS⟩:=hrel
  by_cases hlt:i<nk
  ·
   obtain⟨b,off,x0,x1,x2,rfl,c0,c1,c2,hx⟩:=H5.out i hlt;have hb0:=HBS.out.goes.below0;have q0:=(hb0.cell (p:=⟨b,off+i*3,none⟩) (Zaa c0)).trans c0;have q1:=(hb0.cell (p:=⟨b,off+i*3+1,none⟩) (Zaa c1)).trans c1;have q2:=(hb0.cell (p:=⟨b,off+i*3+2,none⟩) (Zaa c2)).trans c2;obtain⟨zo,zv,za,zn,zc,rfl,rfl,rfl⟩:=hx.parts;have hiz:(i:Int)<nk:=by omega
   have hks:=HKS.out i hlt;obtain⟨wz,hwz⟩:∃ wz,wz=wy.alloc (.cells #[.int .i64 zo,.int .i64 zv,.slice za zn zc] 86):=⟨_,rfl⟩;have HWZ:Hid (_=wz):=Hd hwz.symm;have hbz:Below wy.heap.size wy wz:=by rw[hwz];exact Zad _ _
   have hblk:wz.heap[wy.heap.size]?=some (.cells #[.int .i64 zo,.int .i64 zv,.slice za zn zc] 86 (0,0)):=by rw[hwz];exact heap_alloc_new _ _
   have p0:wz.cell? ⟨wy.heap.size,0,none⟩=some (.int .i64 zo):=by rw[cell_of_row _ _ 0 _ _ _ hblk];rfl
   have p1:wz.cell? ⟨wy.heap.size,1,none⟩=some (.int .i64 zv):=by rw[cell_of_row _ _ 1 _ _ _ hblk];rfl
   have p2:wz.cell? ⟨wy.heap.size,2,none⟩=some (.slice za zn zc):=by rw[cell_of_row _ _ 2 _ _ _ hblk];rfl
   obtain⟨o1,m1,V1,bt⟩:=HBS.out.below hbz;have hpos:=HPOS.out i;have HCALL:=Hd (IH.out i _ (fs++hs) nxi wz o1 m1 V1 _ hlt bt.sat bt.waits (HB2.out.app _) hx (by omega) (by have:=HMR.out i hlt;have:=HCK.out i;omega));have HBT:=Hd bt;clear hb0 c0 c1 c2 hx bt hwz hbz hblk HBS;go_upto_region 26 with fail;rw[HWZ.out];clear q0 q1 q2;go_wp2_with fail;refine HCALL.out.mono ?_;rintro y w3 ⟨k2,rfl,hk2,gg⟩;have HBS3:=Hd (HBT.out.go (M':=M+Ze9 n kid (i+1)) (gg.more (Nat.le_of_eq (Nat.add_assoc _ _ _))));have HF3:Hid (∀ j (hj:j<(hs++[(k2,fnT (kid i))]).length),(hs++[(k2,fnT (kid i))])[j].2=fnT (kid j)):=Hd fun j hj=>by
    rcases Nat.lt_or_ge j hs.length with h|h
    ·
     rw[List.getElem_append_left h];exact HFS.out j h
    ·
     have hj':j=i:=by simp at hj;omega
     subst hj';rw[List.getElem_append_right (by omega)];simp
   clear gg HCALL HBT p0 p1 p2;obtain⟨o3,m3,V3,bt3⟩:=HBS3.out;have hsz3:w1.heap.size<=w3.heap.size:=bt3.chg.size;have HBT3:=Hd bt3;clear bt3;go_upto_region 30 with (at_builtin;refine Zcc Znk _ rfl _ _ rfl w1.heap.size _ (Zbe (hs.map Prod.fst)) _ rfl rfl rfl rfl rfl (by exact HBT3.out.l.own) (by simp[Zbe];omega) hsz3 ?_;intro v5 w5 hown5 r1 r2 r3 r4 hk5)
   have HBS5:Hid (BuiS K n Od room w0 mb (fs++(hs++[(k2,fnT (kid i))])) (k2+1) (M+Ze9 n kid (i+1)) o w1 v5 ((hs++[(k2,fnT (kid i))]).map Prod.fst) w5):=Hd (by
    have:=BuiS.app HBT3.out hown5 r1 r2 r3 r4 hk5 hw0;rw[List.append_assoc] at this;rw[List.map_append];exact this)
   clear hown5 r1 r2 r3 r4 hk5 HBT3 HBS3;go_wp2_with fail;go_roundw
   case rel=>exact⟨i+1,hs++[(k2,fnT (kid i))],k2+1,by omega,by go_num,by simp;omega,by
    show k2+1+2*((i+1:Nat):Int)<=nx+3*(((sumN i fun i=>(kid i).size)+(kid i).size:Nat):Int)
    omega,HF3,HBS5⟩
   case measure=>simp[intOf];omega
  ·
   obtain rfl:i=nk:=by omega
   have hiz:¬ (i:Int)<i:=by omega
   have f0:=HBS.out.goes.cell (p:=⟨w.heap.size,0,none⟩) d0 on;have hszn:=HSZ.out;have hsum:nxi+2*i+3<=nx+3*E.size:=by omega
   have hnk:=HNK.out;have hnk1:1<=i:=by omega
   clear hszn H5 IH HSZ HKS HPOS;obtain⟨o1,m1,V1,bt⟩:=HBS.out;have HBT:=Hd bt;clear bt;subst hnk;obtain⟨⟨k0,F0⟩,⟨k1',F1⟩,rfl⟩:=Ybb hhl;obtain⟨g,cp,rfl,hcells⟩:=HBS.out.cellsN (i:=2) rfl (by omega);have c0:wy.cell? ⟨g,0,none⟩=some (.int .i64 k0):=hcells 0 (by omega);have c1:wy.cell? ⟨g,1,none⟩=some (.int .i64 k1'):=hcells 1 (by omega);have HF:Hid (Zpm op F0 F1=fnT E):=Hd (by rw[hF,<- HFS.out 0 (by simp),<- HFS.out 1 (by simp)];rfl);have HJ:Hid (∀ W,W=wy.drew->Calls Tryz.prog 141 #[.pointer (some ⟨mb,0,none⟩),.int .i64 op,.int .i64 k0,.int .i64 k1'] W fun x w''=>∃ k:Int,x=.returned (.tuple #[.int .i64 k,.bool true])/\k<=nxi+1/\Goes K n Od room w0 mb (fs++[(k,Zpm op F0 F1)]) (k+1) (NoW (M+Ze9 n kid 2+(2^n-1))) o1 wy w'') :=
    Hd fun W hW=>by subst hW;exact Zsh HKK.out (HBT.out.refl.below (Zag wy 1)) HB2.out (by omega) (by have:=HEP.out;have:=HCK.out 2;have:=HME.out;omega) (by have:=H1.out;omega) (by have:=H1.out;omega)
   clear hcells;go_upto_region 39 with fail;refine Zap (fun W:World=>W.cell? ⟨w.heap.size,0,none⟩=some (.int .i64 op)/\W.cell? ⟨g,0,none⟩=some (.int .i64 k0)/\W.cell? ⟨g,1,none⟩=some (.int .i64 k1')) false 14
    [(0,false),(1,false),(2,false),(3,false),(4,false),(5,false),(6,false),(7,false),(8,false),(9,true),(10,false),(11,false),(12,false),(13,false)] (by kernel_rfl) (by kernel_rfl) ⟨f0,c0,c1⟩ ?_
   simp only[planned,Zdi]
   iterate 9
    refine Zaq rfl ?_;apply Exists.intro;refine⟨fun w' hw=>?_,?_⟩
    ·
     obtain⟨h1,h2,h3⟩:=hw;go_simp;rfl
    simp only[Zaf]
   refine Zca (R:=fun v w'=>∃ k:Int,v=.tuple #[.int .i64 k,.bool true]/\k<=nxi+1/\Goes K n Od room w0 mb (fs++[(k,Zpm op F0 F1)]) (k+1) (NoW (M+Ze9 n kid 2+(2^n-1))) o1 wy w') rfl (by go_simp) ((HJ.out _ rfl).mono (fun e w' he=>?_)) ?_
   ·
    obtain⟨k,rfl,q1,q2⟩:=he;have hb:=HBT.out.go q2;obtain⟨g',cp',ev,hc3⟩:=hb.cellsN (i:=2) rfl (by omega);cases ev;exact⟨_,rfl,⟨hb.goes.cell (p:=⟨w.heap.size,0,none⟩) d0 on,hc3 0 (by omega),hc3 1 (by omega)⟩,k,rfl,q1,q2⟩
   rintro v w3-⟨k,rfl,q1,q2⟩;have HFN:=Hd (HQ.out k _ w3 _ HF.out (by omega) (by have:=HEP.out;have:=HCK.out 2;omega) (HBT.out.go q2).goes);clear q2 HJ;simp only[Zaf]
   iterate 4
    refine Zaq rfl ?_;apply Exists.intro;refine⟨fun w' hw=>?_,?_⟩
    ·
     obtain⟨h1,h2,h3⟩:=hw;go_simp;rfl
    simp only[Zaf]
   refine Ze3 ?_;go_wp2_with fail;exact HFN.out
end
open Go.RowKit
section
variable {K:Law} {n:Nat} {Od:List Nat->Prop} {room:Nat} {w0 w w' w'':World} {mb:Nat} {fs fs':List (Int×BF)} {nx nx':Int} {o o':Own} {m m':ManD} {V V':Nat->BF}
theorem Zu8 {w1:World} {op v:Int} {nk:Nat} {kid:Nat->ExT} {a:Option Addr} {c:Nat} {E:ExT} {Q:Ending->World->Prop} {M:Nat} (hctx:BCtx K n Od room w0 mb fs nx M w w1 o m V op v nk kid a c E Q) (h1:op=10) (hnk:nk=3) (hF:fnT E=Zdu (fnT (kid 0)) (fnT (kid 1)) (fnT (kid 2))) :
 Calls Tryz.prog 70 #[.pointer (some ⟨mb,0,none⟩),.agg #[.int .i64 op,.int .i64 v,.slice a nk c]] w Q:=by
 obtain⟨HKK,H5,HKS,HSZ,HPOS,IH,HW1,HG1,HSAT1,HWT,HB2,HQ,HMR,HCK,HCI,HEP,HME,hn64,hnx,hE1,hs1,d0,d1,d2,on,hw0,hp2,h2,h3⟩:=hctx;have g1:(op == 1)=false:=by simp;omega
 have g2:(op == 2)=false:=by simp;omega
 have g3:(op == 3)=false:=by simp;omega
 have g5:(op == 5)=false:=by simp;omega
 have g6:(op == 6)=false:=by simp;omega
 have g7:(op == 7)=false:=by simp;omega
 have g4:(op == 4)=false:=by simp;omega
 have g10:(op == 10)=true:=by simp;omega
 have HNK:=Hd hnk;clear h1 hnk;obtain⟨w2,hw2⟩:∃ w2,w2=w1.alloc (.cells #[] 3):=⟨_,rfl⟩;have HW2:Hid (_=w2):=Hd hw2.symm;have hb2':Below w1.heap.size w1 w2:=by rw[hw2];exact Zad _ _
 have HBS0:Hid (BuiS K n Od room w0 mb (fs++[]) nx (M+Ze9 n kid 0) o w1 (.slice (some ⟨w.heap.size+1,0,none⟩) 0 0) (([]:List (Int×BF)).map Prod.fst) w2):=Hd ⟨o,m,V,by rw[List.append_nil];exact HSAT1.out.below hb2',HWT.out,Zb3 hb2' o,by rw[hw2,<- hs1];exact Zeh _ _ _ (Nat.le_refl _),fun k hk=>by cases hk;rw[<- hs1];exact HSAT1.out.lt.none (Nat.le_refl _)⟩;have HB12:=Hd hb2';clear hw2 hb2'
 go_enter Tryz.func70,Tryz.ntmps70
 go_upto_region 1 with fail;rw[HW1.out];go_upto_region 23 with fail;rw[HW2.out];have e2:=(HB12.out.cell (p:=⟨w.heap.size,2,none⟩) (Zaa d2)).trans d2;go_wp2_with fail
 go_loopw [15,106] (fun s15 s106 wr=>∃ (i:Nat) (hs:List (Int×BF)) (nxi:Int),i<=nk/\s106=.int .i64 i/\hs.length=i/\nxi+2*i<=nx+3*((sumN i fun i=>(kid i).size:Nat):Int)/\Hid (∀ j (hj:j<hs.length),hs[j].2=fnT (kid j))/\Hid (BuiS K n Od room w0 mb (fs++hs) nxi (M+Ze9 n kid i) o w1 s15 (hs.map Prod.fst) wr)) (fun _ s106 _=>nk-(intOf s106).toNat)
 case atStart=>exact⟨0,[],nx,Nat.zero_le _,rfl,rfl,by show nx+2*((0:Nat):Int)<=nx+3*((0:Nat):Int);omega,Hd (fun j hj=>by simp at hj),HBS0⟩
 case round =>
  clear HBS0 HB12 e2
  rename World=>wy
  obtain⟨i,hs,nxi,hi,rfl,hhl,hnxi,HFS,HBS⟩:=hrel
  by_cases hlt:i<nk
  ·
   obtain⟨b,off,x0,x1,x2,rfl,c0,c1,c2,hx⟩:=H5.out i hlt;have hb0:=HBS.out.goes.below0;have q0:=(hb0.cell (p:=⟨b,off+i*3,none⟩) (Zaa c0)).trans c0;have q1:=(hb0.cell (p:=⟨b,off+i*3+1,none⟩) (Zaa c1)).trans c1;have q2:=(hb0.cell (p:=⟨b,off+i*3+2,none⟩) (Zaa c2)).trans c2;obtain⟨zo,zv,za,zn,zc,rfl,rfl,rfl⟩:=hx.parts;have hiz:(i:Int)<nk:=by omega
   have hks:=HKS.out i hlt;obtain⟨wz,hwz⟩:∃ wz,wz=wy.alloc (.cells #[.int .i64 zo,.int .i64 zv,.slice za zn zc] 86):=⟨_,rfl⟩;have HWZ:Hid (_=wz):=Hd hwz.symm;have hbz:Below wy.heap.size wy wz:=by rw[hwz];exact Zad _ _
   have hblk:wz.heap[wy.heap.size]?=some (.cells #[.int .i64 zo,.int .i64 zv,.slice za zn zc] 86 (0,0)):=by rw[hwz];exact heap_alloc_new _ _
   have p0:wz.cell? ⟨wy.heap.size,0,none⟩=some (.int .i64 zo):=by rw[cell_of_row _ _ 0 _ _ _ hblk];rfl
   have p1:wz.cell? ⟨wy.heap.size,1,none⟩=some (.int .i64 zv):=by rw[cell_of_row _ _ 1 _ _ _ hblk];rfl
   have p2:wz.cell? ⟨wy.heap.size,2,none⟩=some (.slice za zn zc):=by rw[cell_of_row _ _ 2 _ _ _ hblk];rfl
   obtain⟨o1,m1,V1,bt⟩:=HBS.out.below hbz;have hpos:=HPOS.out i;have HCALL:=Hd (IH.out i _ (fs++hs) nxi wz o1 m1 V1 _ hlt bt.sat bt.waits (HB2.out.app _) hx (by omega) (by have:=HMR.out i hlt;have:=HCK.out i;omega));have HBT:=Hd bt;clear hb0 c0 c1 c2 hx bt hwz hbz hblk HBS;go_upto_region 26 with fail;rw[HWZ.out];clear q0 q1 q2;go_wp2_with fail;refine HCALL.out.mono ?_;rintro y w3 ⟨k2,rfl,hk2,gg⟩;have HBS3:=Hd (HBT.out.go (M':=M+Ze9 n kid (i+1)) (gg.more (Nat.le_of_eq (Nat.add_assoc _ _ _))));have HF3:Hid (∀ j (hj:j<(hs++[(k2,fnT (kid i))]).length),(hs++[(k2,fnT (kid i))])[j].2=fnT (kid j)):=Hd fun j hj=>by
    rcases Nat.lt_or_ge j hs.length with h|h
    ·
     rw[List.getElem_append_left h];exact HFS.out j h
    ·
     have hj':j=i:=by simp at hj;omega
     subst hj';rw[List.getElem_append_right (by omega)];simp
   clear gg HCALL HBT p0 p1 p2;obtain⟨o3,m3,V3,bt3⟩:=HBS3.out;have hsz3:w1.heap.size<=w3.heap.size:=bt3.chg.size;have HBT3:=Hd bt3;clear bt3;go_upto_region 30 with (at_builtin;refine Zcc Znk _ rfl _ _ rfl w1.heap.size _ (Zbe (hs.map Prod.fst)) _ rfl rfl rfl rfl rfl (by exact HBT3.out.l.own) (by simp[Zbe];omega) hsz3 ?_;intro v5 w5 hown5 r1 r2 r3 r4 hk5)
   have HBS5:Hid (BuiS K n Od room w0 mb (fs++(hs++[(k2,fnT (kid i))])) (k2+1) (M+Ze9 n kid (i+1)) o w1 v5 ((hs++[(k2,fnT (kid i))]).map Prod.fst) w5):=Hd (by
    have:=BuiS.app HBT3.out hown5 r1 r2 r3 r4 hk5 hw0;rw[List.append_assoc] at this;rw[List.map_append];exact this)
   clear hown5 r1 r2 r3 r4 hk5 HBT3 HBS3;go_wp2_with fail;go_roundw
   case rel=>exact⟨i+1,hs++[(k2,fnT (kid i))],k2+1,by omega,by go_num,by simp;omega,by
    show k2+1+2*((i+1:Nat):Int)<=nx+3*(((sumN i fun i=>(kid i).size)+(kid i).size:Nat):Int)
    omega,HF3,HBS5⟩
   case measure=>simp[intOf];omega
  ·
   obtain rfl:i=nk:=by omega
   have hiz:¬ (i:Int)<i:=by omega
   have f0:=HBS.out.goes.cell (p:=⟨w.heap.size,0,none⟩) d0 on;have hszn:=HSZ.out;have hsum:nxi+2*i+3<=nx+3*E.size:=by omega
   have hnk:=HNK.out;have hnk1:1<=i:=by omega
   clear hszn H5 IH HSZ HKS HPOS;obtain⟨o1,m1,V1,bt⟩:=HBS.out;have HBT:=Hd bt;clear bt;subst hnk;obtain⟨⟨k0,F0⟩,⟨k1',F1⟩,⟨k2',F2⟩,rfl⟩:=Zv8 hhl;obtain⟨g,cp,rfl,hcells⟩:=HBS.out.cellsN (i:=3) rfl (by omega);have c0:wy.cell? ⟨g,0,none⟩=some (.int .i64 k0):=hcells 0 (by omega);have c1:wy.cell? ⟨g,1,none⟩=some (.int .i64 k1'):=hcells 1 (by omega);have c2:wy.cell? ⟨g,2,none⟩=some (.int .i64 k2'):=hcells 2 (by omega);have HF:Hid (Zdu F0 F1 F2=fnT E):=Hd (by rw[hF,<- HFS.out 0 (by simp),<- HFS.out 1 (by simp),<- HFS.out 2 (by simp)];rfl);have HI:Hid (∀ W,W=wy.drew->Calls Tryz.prog 21 #[.pointer (some ⟨mb,0,none⟩),.int .i64 k0,.int .i64 k1',.int .i64 k2'] W fun x w''=>x=.returned (.tuple #[.int .i64 nxi,.int .i64 0])/\Goes K n Od room w0 mb (fs++[(k0,F0),(k1',F1),(k2',F2)]++[(nxi,Zdu F0 F1 F2)]) (nxi+1) (NoW (M+Ze9 n kid 3+(2^n-1))) o1 wy w'') :=
    Hd fun W hW=>by subst hW;exact Zv3 HKK.out (HBT.out.refl.below (Zag wy 1)) (by omega) (by have:=HEP.out;have:=HCK.out 3;have:=HME.out;omega) (by simp) (by simp) (by simp)
   clear hcells;go_upto_region 36 with fail;refine Zap (fun W:World=>W.cell? ⟨g,0,none⟩=some (.int .i64 k0)/\W.cell? ⟨g,1,none⟩=some (.int .i64 k1')/\W.cell? ⟨g,2,none⟩=some (.int .i64 k2')) false 16
    [(0,false),(1,false),(2,false),(3,false),(4,false),(5,false),(6,false),(7,false),(8,false),(9,false),(10,true),(11,false),(12,false),(13,false),(14,false),(15,false)] (by kernel_rfl) (by kernel_rfl) ⟨c0,c1,c2⟩ ?_
   simp only[planned,Zdi]
   iterate 10
    refine Zaq rfl ?_;apply Exists.intro;refine⟨fun w' hw=>?_,?_⟩
    ·
     obtain⟨h1,h2,h3⟩:=hw;go_simp;rfl
    simp only[Zaf]
   refine Zca (R:=fun v w'=>v=.tuple #[.int .i64 nxi,.int .i64 0]/\Goes K n Od room w0 mb (fs++[(k0,F0),(k1',F1),(k2',F2)]++[(nxi,Zdu F0 F1 F2)]) (nxi+1) (NoW (M+Ze9 n kid 3+(2^n-1))) o1 wy w') rfl (by go_simp) ((HI.out _ rfl).mono (fun e w' he=>?_)) ?_
   ·
    obtain⟨rfl,q2⟩:=he;have hb:=HBT.out.go q2;obtain⟨g',cp',ev,hc3⟩:=hb.cellsN (i:=3) rfl (by omega);cases ev;exact⟨_,rfl,⟨hc3 0 (by omega),hc3 1 (by omega),hc3 2 (by omega)⟩,rfl,q2⟩
   rintro v w3 ⟨d0',d1',d2'⟩ ⟨rfl,q2⟩;obtain⟨o3,m3,V3,bt3⟩:=HBT.out.go q2;have HBT3:=Hd bt3;clear q2 HI bt3 c0 c1 c2 HBS;simp only[Zaf]
   iterate 5
    refine Zaq rfl ?_;apply Exists.intro;refine⟨fun w' hw=>?_,?_⟩
    ·
     obtain⟨h1,h2,h3⟩:=hw;go_simp;rfl
    simp only[Zaf]
   refine Ze3 ?_;have HD:Hid (∀ W T,Below w3.heap.size w3 W->T=W.alloc (.cells #[.int .i64 k0,.int .i64 k1',.int .i64 k2'] 3)->Calls Tryz.prog 50 #[.pointer (some ⟨mb,0,none⟩),.slice (some ⟨W.heap.size,0,none⟩) 3 3] T fun x w''=>x=.returned (.int .i64 0)/\Goes K n Od room w0 mb (fs++[(nxi,Zdu F0 F1 F2)]) (nxi+1) (NoW (M+Ze9 n kid 3+(2^n-1))) o3 w3 w'') :=
    Hd fun W T hW hT=>Znj HKK.out (hs:=[(k0,F0),(k1',F1),(k2',F2)]) (r:=[(nxi,Zdu F0 F1 F2)]) (by have:=HBT3.out.refl;rw[List.append_assoc] at this;exact this.below hW) HB2.out (by omega) (by simp) hT
   go_upto_region 37 with fail;refine Zap (fun W:World=>W.cell? ⟨g,0,none⟩=some (.int .i64 k0)/\W.cell? ⟨g,1,none⟩=some (.int .i64 k1')/\W.cell? ⟨g,2,none⟩=some (.int .i64 k2')) false 20
    [(0,false),(1,false),(2,false),(3,false),(4,false),(5,false),(6,false),(7,false),(8,false),(9,false),(10,false),(11,false),(12,false),(13,false),(14,true),(15,true),(16,false),(17,false),(18,false),(19,false)] (by kernel_rfl) (by kernel_rfl) ⟨d0',d1',d2'⟩ ?_
   simp only[planned,Zdi]
   iterate 4
    refine Zaq rfl ?_;apply Exists.intro;refine⟨fun w' hw=>?_,?_⟩
    ·
     obtain⟨h1,h2,h3⟩:=hw;go_simp;rfl
    simp only[Zaf]
   iterate 10
    refine Zjd true (by go_simp) ?_;apply Exists.intro;refine⟨fun hgd w' hw=>?_,?_⟩
    ·
     obtain⟨h1,h2,h3⟩:=hw;go_simp;rfl
    simp only[Zaf]
   have hbn:=Zad w3.drew (.cells #[.int .i64 k0,.int .i64 k1',.int .i64 k2'] 3);refine Zt5 (v:=.slice (some ⟨w3.heap.size,0,none⟩) 3 3) (w':=w3.drew.alloc (.cells #[.int .i64 k0,.int .i64 k1',.int .i64 k2'] 3)) (by go_simp) (by go_simp) ⟨(hbn.cell (p:=⟨g,0,none⟩) (Zaa (w:=w3.drew) d0')).trans d0',(hbn.cell (p:=⟨g,1,none⟩) (Zaa (w:=w3.drew) d1')).trans d1',(hbn.cell (p:=⟨g,2,none⟩) (Zaa (w:=w3.drew) d2')).trans d2'⟩ ?_;simp only[Zaf];refine Zt4 (R:=fun v w'=>v=.int .i64 0/\Goes K n Od room w0 mb (fs++[(nxi,Zdu F0 F1 F2)]) (nxi+1) (NoW (M+Ze9 n kid 3+(2^n-1))) o3 w3 w') (by go_simp) (by go_simp) ((HD.out w3.drew _ (Zag w3 1) rfl).mono (fun e w' he=>?_)) ?_
   ·
    obtain⟨rfl,q2⟩:=he;have hb:=HBT3.out.go q2;obtain⟨g',cp',ev,hc3⟩:=hb.cellsN (i:=3) rfl (by omega);cases ev;exact⟨_,rfl,⟨hc3 0 (by omega),hc3 1 (by omega),hc3 2 (by omega)⟩,rfl,q2⟩
   rintro v w4-⟨rfl,q2⟩;have HFN:=Hd (HQ.out nxi _ w4 _ HF.out (by omega) (by have:=HEP.out;have:=HCK.out 3;omega) (HBT3.out.go q2).goes);clear q2 HD;simp only[Zaf]
   iterate 1
    refine Zjd true (by go_simp) ?_;apply Exists.intro;refine⟨fun hgd w' hw=>?_,?_⟩
    ·
     obtain⟨h1,h2,h3⟩:=hw;go_simp;rfl
    simp only[Zaf]
   iterate 3
    refine Zaq rfl ?_;apply Exists.intro;refine⟨fun w' hw=>?_,?_⟩
    ·
     obtain⟨h1,h2,h3⟩:=hw;go_simp;rfl
    simp only[Zaf]
   refine Ze3 ?_;go_wp2_with fail;exact HFN.out
end
open Go.RowKit
section
variable {K:Law} {n:Nat} {Od:List Nat->Prop} {room:Nat} {w0:World} {mb:Nat}
theorem Zor (hK:Zci K):∀ (e:ExT) (x:Value) (fs:List (Int×BF)) (nx:Int) (w:World) (o:Own) (m:ManD) (V:Nat->BF) (M:Nat),SatE K n Od room w0 mb fs nx w o m V->m.waits=[]/\m.d.pool.many<=M->B2 fs->Zs3 e->(∀ v∈Zc4 e,v<(n:Int))->Zbf w0 e x->nx+3*e.size<549755813000->M+e.size*2^n<=room ->
 Calls Tryz.prog 70 #[.pointer (some ⟨mb,0,none⟩),x] w fun y w'=>∃ k:Int,y=.returned (.tuple #[.int .i64 k,.bool true])/\k+3<=nx+3*e.size/\Goes K n Od room w0 mb (fs++[(k,fnT e)]) (k+1) (NoW (M+Zh8 n e.size)) o w w'
 | .nil,x,fs,nx,w,o,m,V,M,_,_,_,hv,_,_,_,_=>hv.elim
 | .mk op v nk kid,x,fs,nx,w,o,m,V,M,hsat,hwt,hb2,hval,hvars,h,hnx,hroom=>by
   unfold Zbf at h;obtain⟨a,c,rfl,h2,h3,h4,h5⟩:=h;obtain⟨v1,v2,v3,v4,v5,v6⟩:=hval;obtain⟨k1,k2,k3⟩:=Zv6 v1;have hblk:(w.alloc (.cells #[.int .i64 op,.int .i64 v,.slice a nk c] 86)).heap[w.heap.size]?=some (.cells #[.int .i64 op,.int .i64 v,.slice a nk c] 86 (0,0)):=heap_alloc_new _ _;have hb1:=Zad w (.cells #[.int .i64 op,.int .i64 v,.slice a nk c] 86);have hep:(ExT.mk op v nk kid).size*2^n=2^n+(sumN nk fun i=>(kid i).size)*2^n:=by
    show (1+sumN nk fun i=>(kid i).size)*2^n=_
    rw[Nat.add_mul,Nat.one_mul]
   have hctx:BCtx K n Od room w0 mb fs nx M w (w.alloc (.cells #[.int .i64 op,.int .i64 v,.slice a nk c] 86)) o m V op v nk kid a c (ExT.mk op v nk kid) (fun y w'=>∃ k:Int,y=.returned (.tuple #[.int .i64 k,.bool true])/\k+3<=nx+3*(ExT.mk op v nk kid).size/\Goes K n Od room w0 mb (fs++[(k,fnT (ExT.mk op v nk kid))]) (k+1) (NoW (M+Zh8 n (ExT.mk op v nk kid).size)) o w w'):=by
    refine⟨Hd hK,Hd h5,Hd fun i hi=>?_,Hd rfl,Hd (Zs0 fun i=>(kid i).size_pos),Hd fun i x fs' nx' W o' m' V' M' hi q1 q2 q3 q4 q5 q6=>Zor hK (kid i) x fs' nx' W o' m' V' M' q1 q2 q3 (v6 i hi) (fun u hu=>hvars u (by unfold Zc4;exact List.mem_append_right _ (Zpx hi hu))) q4 q5 q6,Hd rfl,Hd (Goes.refl (hsat.below hb1) hwt),Hd (hsat.below hb1),Hd hwt,Hd hb2,Hd ?_,Hd fun i hi=>?_,Hd (Zo1 n kid),Hd fun i=>Zio n (kid i).size_pos,Hd ⟨hep,Zio n (ExT.size_pos _)⟩,Hd hroom,by omega,hnx,ExT.size_pos _,by simp,by rw[cell_of_row _ _ 0 _ _ _ hblk];rfl,by rw[cell_of_row _ _ 1 _ _ _ hblk];rfl,by rw[cell_of_row _ _ 2 _ _ _ hblk];rfl,hsat.lt.none (Nat.le_refl _),?_,Nat.pow_pos (by omega),h2,h3⟩
    ·
     have:=Zgc (f:=fun i=>(kid i).size) hi
     show _<=1+sumN nk fun i=>(kid i).size
     omega
    ·
     rintro k F W M' rfl hk hm g;exact⟨k,rfl,hk,(g.more hm).after (Zb3 hb1 o)⟩
    ·
     have h1:=Zgc (f:=fun i=>(kid i).size) hi;have h2:=Nat.mul_le_mul_right (2^n) h1;rw[Nat.add_mul] at h2;omega
    ·
     have:=hsat.chg.size;simp;omega
   rcases(show op=1\/op=2\/op=3\/(op=5\/op=6\/op=7)\/op=4\/(op=8\/op=9)\/op=10 by omega) with h1|h1|h1|h1|h1|h1|h1
   ·
    exact Zte hctx h1 (by subst h1;exact Zpb (.inl rfl) v nk kid)
   ·
    exact Zqy hctx h1 (by subst h1;exact Zpb (.inr rfl) v nk kid)
   ·
    have e1:=v2 h1;have e2:=hvars v (by unfold Zc4;rw[if_pos h1];simp);obtain⟨u,rfl⟩:∃ u:Nat,v=u:=⟨v.toNat,by omega⟩;exact Zvb hctx (u:=u) (by omega) h1 rfl (by subst h1;exact Ya2 u nk kid)
   ·
    exact Zu7 hctx h1 (Yaz h1 v nk kid)
   ·
    have e:nk=1:=by subst h1;simp[Ze2] at v4 v5;omega
    exact Zu9 hctx h1 e (by subst h1;subst e;exact Ya1 v kid)
   ·
    have e:nk=2:=by rcases h1 with rfl|rfl<;>(simp[Ze2] at v4 v5;omega)
    exact Zva hctx h1 e (by subst e;exact Zyb h1 v kid)
   ·
    have e:nk=3:=by subst h1;simp[Ze2] at v4 v5;omega
    exact Zu8 hctx h1 e (by subst h1;subst e;exact Ya0 v kid)
end
open Go.RowKit
theorem Zax.chgX {C:Nat->Prop} {o o':Own} {w w':World} {a:Option Addr} {zs:List Int} (h:Zax w a zs) (hc:ChgX C o o' w w') (hn:0<zs.length->∀ x,a=some x->o x.block=none/\¬ C x.block):Zax w' a zs :=
 ⟨h.len,fun k hk=>by
  obtain⟨b,off,rfl,c⟩:=h.cells k hk;have:=hn (by omega) _ rfl;exact⟨b,off,rfl,hc.cell c this.1 this.2⟩⟩
def ArrI (K:Law) (n room:Nat) (w0:World) (mb:Nat) (fs:List (Int×BF)) (nx:Int) (o:Own) (w:World) (m:ManD) (P:List Nat->Prop) (W:World):Prop :=
 ∃ o' m' V',SatE K n P room w0 mb fs nx W o' m' V'/\m'.waits=m.waits/\m'.calls=m.calls/\ChgX NoB o o' w W/\(m'.d.pool.many<=m.d.pool.many\/m'.d.pool.many<=fs.length*2^n)
section
variable {K:Law} {n:Nat} {Od:List Nat->Prop} {room:Nat} {w0 w w':World} {mb:Nat} {fs:List (Int×BF)} {nx:Int} {o o':Own} {m m':ManD} {V V':Nat->BF} {P:List Nat->Prop} {W W':World}
theorem ArrI.below (h:ArrI K n room w0 mb fs nx o w m P W) (hb:Below W.heap.size W W'):ArrI K n room w0 mb fs nx o w m P W':=by
 obtain⟨o',m',V',h1,h2,h3,h4,h5⟩:=h;exact⟨o',m',V',h1.below hb,h2,h3,h4.trans (Zb3 hb o') (fun _ _ e=>e),h5⟩
theorem ArrI.imp (h:ArrI K n room w0 mb fs nx o w m P W) {P':List Nat->Prop} (hP:∀ l,l.length=n->P l->P' l):ArrI K n room w0 mb fs nx o w m P' W:=by
 obtain⟨o',m',V',h1,h2,h3,h4,h5⟩:=h;exact⟨o',m',V',h1.withOd (hP _ h1.vars h1.od),h2,h3,h4,h5⟩
theorem ArrI.swap (h:ArrI K n room w0 mb fs nx o w m P W) {k:Nat} (hk1:k+1<n) (hn:nx<=549755813888) (hr:3*(fs.length*2^n)<=room) {P':List Nat->Prop} (hP:∀ l,l.length=n->P l->P' (exL l k)) :
 Calls Tryz.prog 138 #[.pointer (some ⟨mb,0,none⟩),.int .i64 k] W fun e w'=>e=.returned (.int .i64 0)/\ArrI K n room w0 mb fs nx o w m P' w':=by
 obtain⟨o',m',V',h1,h2,h3,h4,h5⟩:=h;refine(Zt2 h1 hk1 hn hr).mono ?_;rintro e w' ⟨rfl,o2,m2,V2,s⟩;refine⟨rfl,o2,m2,V2,s.sat.withOd ?_,s.waits.trans h2,s.calls.trans h3,h4.trans (ChgX.of_chg s.chg NoB) (fun _ _ e=>e),.inr (s.sat.few s.dead)⟩;rw[s.sat.od,Zxi];exact hP _ h1.vars h1.od
theorem Zqv (h:SatE K n Od room w0 mb fs nx w o m V) (hn:nx<=549755813888) (hr:3*(fs.length*2^n)<=room) {a:Option Addr} {c:Nat} {zs:List Int} (hz:Zax w a zs) (hno:0<zs.length->∀ x,a=some x->o x.block=none) (hp:zs.length=0\/Yaf zs n) :
 Calls Tryz.prog 69 #[.pointer (some ⟨mb,0,none⟩),.slice a zs.length c] w fun x w'=>x=.returned (.bool true)/\ArrI K n room w0 mb fs nx o w m (fun l=>∀ j,j<zs.length->((l.getD j 0:Nat):Int)=at0 zs j) w':=by
 have hlen:=hz.len;have hn64:n<=64:=by have:=h.ok.store.small;rw[h.vars] at this;exact this
 have HZ:Hid (∀ W P,ArrI K n room w0 mb fs nx o w m P W->Zax W a zs):=Hd fun W P ⟨o',m',V',_,_,_,h4,_⟩=>hz.chgX h4 fun h0 x hx=>⟨hno h0 x hx,fun e=>e⟩
 have HORD:Hid (∀ W P,ArrI K n room w0 mb fs nx o w m P W->Calls Tryz.prog 45 #[.pointer (some ⟨mb,0,none⟩)] W fun x w'=>∃ (a:Option Addr) (c:Nat) (l:List Nat),x=.returned (.slice a n c)/\l.length=n/\Zax w' a (l.map Int.ofNat)/\P l/\(∀ v,v<n->∃ i,i<n/\l.getD i 0=v)/\(∀ i j,i<n->j<n->l.getD i 0=l.getD j 0->i=j)/\Below W.heap.size W w'/\ArrI K n room w0 mb fs nx o w m (fun l'=>l'=l) w'):=by
  refine Hd fun W P hA=>?_
  obtain⟨o',m',V',h1,h2,h3,h4,h5⟩:=hA;refine(Zjw h1.is h1.lt (by rw[h1.vars];exact hn64)).mono ?_;rintro x w' ⟨v,rfl,hv,hb⟩;obtain⟨av,cv,rfl,hva,_⟩:=hv.sliceIs (by simp[h1.vars];omega);refine⟨av,cv,m'.d.vars,by rw[List.length_map,h1.vars],h1.vars,hva,h1.od,fun v hv=>?_,fun i j hi hj e=>?_,hb,o',m',V',(h1.below hb).withOd rfl,h2,h3,h4.trans (Zb3 hb o') (fun _ _ e=>e),h5⟩
  ·
   have:=h1.ok.store.mem (v:=v) (by rw[h1.vars];exact hv);rw[h1.vars] at this;exact this
  ·
   exact h1.ok.store.inj (by rw[h1.vars];exact hi) (by rw[h1.vars];exact hj) e
 have HSW:Hid (∀ W P,ArrI K n room w0 mb fs nx o w m P W->∀ (k:Nat),k+1<n->∀ P':List Nat->Prop,(∀ l,l.length=n->P l->P' (exL l k))->Calls Tryz.prog 138 #[.pointer (some ⟨mb,0,none⟩),.int .i64 k] W fun e w'=>e=.returned (.int .i64 0)/\ArrI K n room w0 mb fs nx o w m P' w') :=
  Hd fun W P hA k hk P' hP=>hA.swap hk hn hr hP
 have HP:=Hd hp;obtain⟨R,hR⟩:∃ R:(List Nat->Prop)->World->Prop,R=ArrI K n room w0 mb fs nx o w m:=⟨_,rfl⟩;have HR0:Hid (R (fun l=>∀ j,j<0->((l.getD j 0:Nat):Int)=at0 zs j) w):=Hd (by rw[hR];exact⟨o,m,V,h.withOd (fun j hj=>by omega),rfl,rfl,ChgX.of_below (Below.refl _ _) o NoB,.inl (Nat.le_refl _)⟩);have HRB:Hid (∀ P W W',R P W->Below W.heap.size W W'->R P W'):=Hd (by rw[hR];intro P W W' h1 h2;exact h1.below h2);have HRM:Hid (∀ P P' W,R P W->(∀ l,l.length=n->P l->P' l)->R P' W):=Hd (by rw[hR];intro P P' W h1 h2;exact h1.imp h2);rw[<- hR] at HZ HORD HSW ⊢;clear h hz hno hp hr hn hR
 go_enter Tryz.func69,Tryz.ntmps69
 go_wp2_with fail
 go_loopw [5,6,7] (fun s5 s6 s7 wr=>∃ i:Nat,i<=zs.length/\s5=.int .i64 i/\Hid (R (fun l=>∀ j,j<i->((l.getD j 0:Nat):Int)=at0 zs j) wr)) (fun s5 _ _ _=>zs.length-(intOf s5).toNat)
 case atStart=>exact⟨0,Nat.zero_le _,rfl,HR0⟩
 case round =>
  obtain⟨i,hi,rfl,HR⟩:=hrel
  by_cases hlt:i<zs.length
  ·
   have hiz:(i:Int)<zs.length:=by omega
   have hperm:Yaf zs n:=by
    rcases HP.out with e|e
    ·
     omega
    ·
     exact e
   have hzn:zs.length=n:=hperm.len;obtain⟨zi,hzi,ezi⟩:=hperm.lt i (by omega);have HOR:=Hd (HORD.out wr _ HR.out);have HINJ:=Hd hperm.inj;clear hperm;go_wp2_with fail;refine HOR.out.mono ?_;rintro x w3 ⟨av,cv,l,rfl,hll,hla,hod,hmem,hinj,hb3,hr3⟩;obtain⟨p,hpn,hpe⟩:=hmem zi hzi;have hip:i<=p:=by
    rcases Nat.lt_or_ge p i with h|h
    ·
     exfalso;have e1:=hod p h;rw[hpe,<- ezi] at e1;have:=HINJ.out i p (by omega) hpn e1;omega
    ·
     exact h
   have HLA:=Hd hla;have HOD:=Hd hod;have HPE:=Hd hpe;have HIJ:=Hd hinj;have HR3:=Hd hr3;have hnn:((n:Int) != (zs.length:Int))=false:=by rw[hzn];simp
   obtain⟨bz,oz,ea,cz⟩:=(HZ.out w3 _ hr3).cells i hlt;subst ea;rw[ezi] at cz;have EZI:=Hd ezi;clear hla hod hpe hinj hr3 hmem HOR hb3 ezi;go_wp2_with fail
   go_loopw [7] (fun s7 wr=>∃ q:Nat,i<=q/\q<=p/\s7=.int .i64 q/\Hid (Below w3.heap.size w3 wr)) (fun s7 _=>p-(intOf s7).toNat)
   case atStart=>exact⟨i,Nat.le_refl _,hip,rfl,Hd (Below.refl _ _)⟩
   case round =>
    rename World=>wq
    obtain⟨q,hq1,hq2,rfl,HBQ⟩:=hrel;have hqn:(q:Int)<(n:Int):=by omega
    have hqn':q<n:=by omega
    obtain⟨bv,ov,rfl,cq⟩:=(HLA.out.below HBQ.out).cells q (by rw[List.length_map,hll];exact hqn');have cz':=(HBQ.out.cell (p:=⟨bz,oz+i,none⟩) (Zaa cz)).trans cz;rw[Yal (by rw[hll];exact hqn')] at cq;obtain⟨y,hy⟩:∃ y,y=l.getD q 0:=⟨_,rfl⟩;rw[<- hy] at cq;have HY:=Hd hy;clear hy;go_upto_region 8 with fail;refine Zap (fun W:World=>W.cell? ⟨bv,ov+q,none⟩=some (.int .i64 (y:Nat))/\W.cell? ⟨bz,oz+i,none⟩=some (.int .i64 (zi:Nat))/\Hid (Below w3.heap.size w3 W)) false 15
     [(0,false),(1,false),(2,false),(3,false),(4,false),(5,false),(6,false),(7,false),(8,false),(9,false),(10,false),(11,false),(12,false),(13,false),(14,false)] (by kernel_rfl) (by kernel_rfl) ⟨cq,cz',Hd (HBQ.out.trans ((Zag wq 1).mono HBQ.out.size))⟩ ?_
    simp only[planned,Zdi]
    iterate 5
     refine Zaq rfl ?_;apply Exists.intro;refine⟨fun w' hw=>?_,?_⟩
     ·
      obtain⟨h1,h2,_⟩:=hw;go_simp;rfl
     simp only[Zaf]
    iterate 9
     refine Zjd true (by go_simp) ?_;apply Exists.intro;refine⟨fun hgd w' hw=>?_,?_⟩
     ·
      obtain⟨h1,h2,_⟩:=hw;go_simp;rfl
     simp only[Zaf]
    iterate 1
     refine Zaq rfl ?_;apply Exists.intro;refine⟨fun w' hw=>?_,?_⟩
     ·
      obtain⟨h1,h2,_⟩:=hw;go_simp;rfl
     simp only[Zaf]
    refine Ze3 ?_
    by_cases hqp:q<p
    ·
     have hne:((y:Int) != (zi:Int))=true:=by
      simp only[bne_iff_ne,ne_eq];intro e;have e2:l.getD q 0=l.getD p 0:=by rw[HPE.out,<- HY.out];omega
      have:=HIJ.out q p hqn' hpn e2;omega
     go_wp2_with fail;go_roundw
     case rel=>exact⟨q+1,by omega,by omega,by go_num,Hd (HBQ.out.trans ((Zag wq 1).mono HBQ.out.size))⟩
     case measure=>simp[intOf];omega
    ·
     obtain rfl:q=p:=by omega
     have hne:((y:Int) != (zi:Int))=false:=by
      have:y=zi:=by rw[HY.out,HPE.out]
      rw[this];simp
     have hqe:((q:Int) == (n:Int))=false:=by simp;omega
     have HR4:Hid (R (fun l'=>(∀ j,j<i->((l'.getD j 0:Nat):Int)=at0 zs j)/\l'.getD q 0=zi) wq.drew):=Hd (by
      have h1:=HRB.out _ _ _ HR3.out (HBQ.out.trans ((Zag wq 1).mono HBQ.out.size));exact HRM.out _ _ _ h1 fun l' _ e=>by subst e;exact⟨HOD.out,HPE.out⟩)
     rw[hne];clear HR3 HBQ HLA cq cz cz' hne;go_wp2_with fail
     go_loopw [4,7] (fun s4 s7 wr=>∃ q:Nat,i<=q/\q<n/\s7=.int .i64 q/\Hid (R (fun l'=>(∀ j,j<i->((l'.getD j 0:Nat):Int)=at0 zs j)/\l'.getD q 0=zi) wr)) (fun _ s7 _=>(intOf s7).toNat)
     case atStart=>exact⟨q,hq1,hqn',rfl,HR4⟩
     case round =>
      clear HR4 HY HPE
      rename World=>wt
      obtain⟨t,ht1,ht2,rfl,HRT⟩:=hrel
      by_cases hti:i<t
      ·
       obtain⟨t',rfl⟩:∃ t',t=t'+1:=⟨t-1,by omega⟩;have htz:((t'+1:Nat):Int)>i:=by omega
       have HS:=Hd (HSW.out wt _ HRT.out t' ht2 (fun l'=>(∀ j,j<i->((l'.getD j 0:Nat):Int)=at0 zs j)/\l'.getD t' 0=zi) (fun l' hl ⟨g1,g2⟩=>⟨fun j hj=>by rw[Yb4 (by omega) (by omega)];exact g1 j hj,by rw[Zya (by omega)];exact g2⟩));have hsub:((t'+1:Nat):Int)-1=(t':Nat):=by omega
       go_upto_region 14 with fail;go_wp2_with fail;refine HS.out.mono ?_;rintro x w5 ⟨rfl,hr5⟩;have HR5:=Hd hr5;clear hr5 HS HRT;go_wp2_with fail;go_roundw
       case rel=>exact⟨t',by omega,by omega,by go_num,HR5⟩
       case measure=>simp[intOf]
      ·
       obtain rfl:t=i:=by omega
       have HR6:Hid (R (fun l=>∀ j,j<t+1->((l.getD j 0:Nat):Int)=at0 zs j) wt):=Hd (by
        refine HRM.out _ _ _ HRT.out fun l' _ ⟨g1,g2⟩ j hj=>?_
        rcases Nat.lt_or_ge j t with h|h
        ·
         exact g1 j h
        ·
         obtain rfl:j=t:=by omega
         rw[g2,EZI.out])
       have htz:¬ (t:Int)>t:=by omega
       go_wp2_with fail;go_roundw
       case rel=>exact⟨t+1,by omega,by go_num,HR6⟩
       case measure=>simp[intOf];omega
  ·
   have he:i=zs.length:=by omega
   have hiz:¬ (i:Int)<zs.length:=by omega
   go_wp2_with fail;go_ret;exact⟨rfl,by rw[<- he];exact HR.out⟩
end
open Go.RowKit
theorem Ztx (i n:Nat) (hi:i<=1048576) (hn:n<=16) (w:World):Calls Tryz.prog 129 #[.int .i64 i,.int .i64 n] w fun x w'=>∃ v,x=.returned v/\OwnB w' w.heap.size v (Zbg i n)/\Below w.heap.size w w':=by
 go_enter Tryz.func129,Tryz.ntmps129
 go_wp2_with fail
 go_loopw [0,5,6] (fun s0 s5 s6 wr=>∃ j q:Nat,j<=n/\q<=1048576/\s6=.int .i64 j/\s0=.int .i64 q/\Hid (i/2^j=q)/\OwnB wr w.heap.size s5 (Zbg i j)/\w.heap.size<=wr.heap.size/\Below w.heap.size w wr) (fun _ _ s6 _=>n-(intOf s6).toNat)
 case atStart=>exact⟨0,i,Nat.zero_le _,hi,rfl,rfl,Hd (by simp),Zeh _ w _ (Nat.le_refl _),by simp,Zad w _⟩
 case round =>
  obtain⟨j,q,hj,hq,rfl,rfl,HQ,hown,hsz,hbel⟩:=hrel
  by_cases hlt:j<n
  ·
   have HB:Hid (((q:Int).tmod 2 == 1)=bitB i j):=by
    refine Hd ?_;rw[tmod2];unfold bitB;rw[HQ.out]
   have HOWN:=Hd hown;have HBEL:=Hd hbel;clear hown hbel;go_wp2_with (at_builtin;refine Zcc Zeg _ rfl _ _ rfl w.heap.size _ (Zbh (Zbg i j)) _ rfl rfl rfl rfl rfl (by exact HOWN.out) (by simp[Zbh,Zcn];omega) hsz ?_;intro v1 w1 hown1 e1 e2 e3 e4 hk1);go_roundw
   case rel =>
    refine⟨j+1,q/2,by omega,by omega,by go_num,by go_num,Hd ?_,?_,by omega,Zez HBEL.out HOWN.out e1 e2 e3 e4 hk1 hsz⟩
    ·
     rw[Nat.pow_succ,<- Nat.div_div_eq_div_mul,HQ.out]
    ·
     rw[Zmj];unfold OwnB;rw[Zh4,<- HB.out];exact hown1
   case measure=>simp[intOf];omega
  ·
   have he:j=n:=by omega
   subst he;have HOWN:=Hd hown;have HBEL:=Hd hbel;clear hown hbel;go_wp2_with fail;go_ret;exact⟨_,rfl,HOWN.out,HBEL.out⟩
theorem Zy6 {T ST:TypeId} {z:Value} {b:Nat} (E:Zta T ST z b) (ty:TypeId) (wr:World) (base:Nat) (v:Value) (xs:List Value) (y:Value) (hy:y.oneCell'=true) (hown:OwnC T wr base v xs) (hlen:xs.length<1099511627776) (hbase:base<=wr.heap.size) :
 ∃ v' w',(Builtin.append_ #[ST,ST] ty #[v,.slice (some ⟨wr.heap.size,0,none⟩) 1 1]).run Tryz.prog (wr.alloc (.cells #[y] T))=.ok v' w' /\
  OwnC T w' base v' (xs++[y])/\w'.os=wr.os/\w'.tape=wr.tape/\w'.output=wr.output/\wr.heap.size<=w'.heap.size/\Zd8 v v' wr w':=by
 obtain⟨i,hi,hz,hsz,hby⟩:=info_parts E.info;have hsm:=E.small;obtain⟨v',w',hr,h1,h2,_,hloc⟩:=run_append_own_at (P:=Tryz.prog) (wr.alloc (.cells #[y] T)) base ST ty T i z 1 b E.under hi hz hsz hby (by rw[E.one];rfl) (by decide)
  v xs.length xs (hown.alloc _) ⟨wr.heap.size,0,none⟩ 1 1 [y] rfl (cell_one_new _ _ _) (by intro u hu;simp at hu;subst hu;exact hy) (by unfold maxLen;omega) (by
   have h1:(xs.length+1)*b<=1099511627776*100:=Nat.mul_le_mul (by omega) hsm;omega) (by simp;omega)
 refine⟨v',w',hr,?_,h2.os,h2.tape,h2.output,?_,⟨Zeo h2,hloc.imp id fun e=>⟨_,e,by simp⟩⟩⟩
 ·
  unfold OwnC;rw[List.length_append];exact h1
 ·
  have:=h2.size;simp at this;omega
theorem OwnC.lower {T:TypeId} {w:World} {base b:Nat} {v:Value} {xs:List Value} (h:OwnC T w base v xs) (hb:b<=base):OwnC T w b v xs:=by
 refine⟨h.1,?_⟩;rcases h.2 with hn|⟨g,cap,cur,rfl,hb',rest⟩
 ·
  exact .inl hn
 ·
  exact .inr ⟨g,cap,cur,rfl,by omega,rest⟩
theorem Zma (e:ExT) (x:Value) (n:Nat) (hn:n<=12) (w:World) (hs:e.size<=4096) (hok:okT e 1) (h:Zbf w e x) :
 Calls Tryz.prog 58 #[x,.int .i64 n] w fun y w'=>∃ v,y=.returned v/\OwnB w' w.heap.size v (tabB n (fnT e))/\Below w.heap.size w w':=by
 have HCH:Hid (∀ W,Below w.heap.size w W->∀ u,u=x->Calls Tryz.prog 56 #[u] W fun y w'=>y=.returned (.int .i64 0)/\Below W.heap.size W w'):=Hd fun W hb u hu=>by
  subst hu
  exact(Zh5 e _ W hs (h.below hb)).mono (by
   rintro y w' ⟨err,rfl,h1,h2⟩;rw[h1.2 hok];exact⟨rfl,h2⟩)
 have HVAL:Hid (∀ W,Below w.heap.size w W->∀ u,u=x->∀ (ls:List Bool) al cl,Zbs W al ls->Calls Tryz.prog 128 #[u,.slice al ls.length cl] W fun y w'=>y=.returned (.bool (fnT e (Zbi ls)))/\Below W.heap.size W w'):=Hd fun W hb u hu ls al cl hl=>by
  subst hu;exact Zlz ls al cl e _ W hok.valid (h.below hb) hl
 have HLIST:Hid (∀ j,j<=1048576->∀ W,Calls Tryz.prog 129 #[.int .i64 (j:Nat),.int .i64 n] W fun x w'=>∃ v,x=.returned v/\OwnB w' W.heap.size v (Zbg j n)/\Below W.heap.size W w'):=Hd fun j hj W=>Ztx j n hj (by omega) W
 have HS:Hid (∀ k,k<=n->2^k<=4096):=Hd fun k hk=>Nat.le_trans (Nat.pow_le_pow_right (by omega) (show k<=12 by omega)) (by decide)
 obtain⟨x0,x1,x2,hx,o0,o1,o2⟩:=h.agg;subst hx;obtain⟨w1,hw1⟩:∃ w1,w1=w.alloc (.cells #[x0,x1,x2] 86):=⟨_,rfl⟩;have HW1:Hid (_=w1):=Hd hw1.symm;have HB1:Hid (Below w.heap.size w w1):=by rw[hw1];exact Hd (Zad _ _)
 have hblk:w1.heap[w.heap.size]?=some (.cells #[x0,x1,x2] 86 (0,0)):=by rw[hw1];exact heap_alloc_new _ _
 have hs1:w1.heap.size=w.heap.size+1:=by rw[hw1];simp
 have d0:w1.cell? ⟨w.heap.size,0,none⟩=some x0:=by rw[cell_of_row _ _ 0 _ _ _ hblk];rfl
 have d1:w1.cell? ⟨w.heap.size,1,none⟩=some x1:=by rw[cell_of_row _ _ 1 _ _ _ hblk];rfl
 have d2:w1.cell? ⟨w.heap.size,2,none⟩=some x2:=by rw[cell_of_row _ _ 2 _ _ _ hblk];rfl
 obtain⟨L,hL⟩:∃ L,L=2^n:=⟨_,rfl⟩;have HLL:=Hd hL;obtain⟨G,hG⟩:∃ G:Nat->Bool,G=fun i=>fnT e (Zbi (Zbg i n)):=⟨_,rfl⟩
 have HG:Hid (∀ i,fnT e (Zbi (Zbg i n))=G i):=Hd fun i=>by rw[hG]
 have HT:Hid (tabB n (fnT e)=(List.range L).map G):=Hd (by rw[hL,hG];rfl);have hL4:L<=4096:=by rw[hL];exact HS.out n (Nat.le_refl _)
 rw[HT.out];clear h hw1 hblk hG hL
 go_enter Tryz.func58,Tryz.ntmps58
 go_upto_region 1 with fail;rw[HW1.out];have hn0:¬ (n:Int)<0:=by omega
 have hn12:¬ (n:Int)>12:=by omega
 go_wp2_with fail;refine(HCH.out _ HB1.out _ rfl).mono ?_;rintro y w2 ⟨rfl,hb2⟩;have HB2:=Hd hb2;clear hb2 HCH;go_wp2_with fail
 go_loopw [5,6] (fun s5 s6 wr=>∃ k p:Nat,k<=n/\s5=.int .i64 p/\s6=.int .i64 k/\Hid (wr=w2)/\Hid (2^k=p)) (fun _ s6 _=>n-(intOf s6).toNat)
 case atStart=>exact⟨0,1,Nat.zero_le _,rfl,rfl,Hd rfl,Hd rfl⟩
 case round =>
  obtain⟨k,p,hk,rfl,rfl,HWR,HP⟩:=hrel;have hpb:p<=4096:=by rw[<- HP.out];exact HS.out k hk
  by_cases hlt:k<n
  ·
   go_wp2_with fail;go_roundw
   case rel=>exact⟨k+1,2*p,by omega,by go_num,by go_num,HWR,Hd (by rw[Nat.pow_succ,HP.out];omega)⟩
   case measure=>simp[intOf];omega
  ·
   obtain rfl:k=n:=by omega
   obtain rfl:p=L:=by rw[<- HP.out,HLL.out]
   have hw2:=HWR.out;subst hw2;obtain⟨w3,hw3⟩:∃ w3,w3=wr.alloc (.cells #[] 4):=⟨_,rfl⟩;have HW3:Hid (_=w3):=Hd hw3.symm;have hb3:Below w1.heap.size w1 w3:=by rw[hw3];exact HB2.out.trans ((Zad _ _).mono HB2.out.size)
   have HOWN:Hid (OwnB w3 w1.heap.size (.slice (some ⟨wr.heap.size,0,none⟩) 0 0) []):=by rw[hw3];exact Hd (Zeh _ _ _ HB2.out.size)
   have HB3:=Hd hb3;have hs3:w1.heap.size<=w3.heap.size:=hb3.size;clear hw3 hb3 hlt;go_upto_region 9 with fail;rw[HW3.out];go_wp2_with fail
   go_loopw [7,8] (fun s7 s8 wr=>∃ j:Nat,j<=p/\s8=.int .i64 j/\Hid (OwnB wr w1.heap.size s7 ((List.range j).map G))/\Hid (Below w1.heap.size w1 wr)/\w1.heap.size<=wr.heap.size) (fun _ s8 _=>p-(intOf s8).toNat)
   case atStart=>exact⟨0,Nat.zero_le _,rfl,HOWN,HB3,hs3⟩
   case round =>
    clear HOWN HB3 hs3 HW3 HWR HB2
    rename World=>wq
    obtain⟨j,hj,rfl,HOW,HBEL,hsz⟩:=hrel
    by_cases hlt:j<p
    ·
     have e0:=(HBEL.out.cell (p:=⟨w.heap.size,0,none⟩) (Zaa d0)).trans d0;have e1:=(HBEL.out.cell (p:=⟨w.heap.size,1,none⟩) (Zaa d1)).trans d1;have e2:=(HBEL.out.cell (p:=⟨w.heap.size,2,none⟩) (Zaa d2)).trans d2;have HL:=Hd (HLIST.out j (by omega) wq.drew);go_upto_region 12 with fail;refine Zap (fun W:World=>W.cell? ⟨w.heap.size,0,none⟩=some x0/\W.cell? ⟨w.heap.size,1,none⟩=some x1/\W.cell? ⟨w.heap.size,2,none⟩=some x2) false 9
      [(0,false),(1,false),(2,false),(3,false),(4,true),(5,true),(6,true),(7,true),(8,false)] (by kernel_rfl) (by kernel_rfl) ⟨e0,e1,e2⟩ ?_
     simp only[planned,Zdi]
     iterate 4
      refine Zaq rfl ?_;apply Exists.intro;refine⟨fun w' hw=>?_,?_⟩
      ·
       obtain⟨h1,h2,h3⟩:=hw;go_simp;rfl
      simp only[Zaf]
     refine Zca (R:=fun v w'=>Zbt w' v (Zbg j k)/\Below wq.heap.size wq w') rfl (by go_simp) (HL.out.mono (fun e w' he=>?_)) ?_
     ·
      obtain⟨v,rfl,q1,q2⟩:=he;have q3:Below wq.heap.size wq w':=(Zag wq 1).trans (q2.mono (Zag wq 1).size);exact⟨v,rfl,⟨(q3.cell (p:=⟨w.heap.size,0,none⟩) (Zaa e0)).trans e0,(q3.cell (p:=⟨w.heap.size,1,none⟩) (Zaa e1)).trans e1,(q3.cell (p:=⟨w.heap.size,2,none⟩) (Zaa e2)).trans e2⟩,q1.boolsIs (by rw[Zcn];omega),q3⟩
     rintro v w4 ⟨f0,f1,f2⟩ ⟨⟨av,cv,rfl,hbs,-⟩,hb4⟩;have HBS:=Hd hbs;have HB4:=Hd hb4;clear hbs hb4 e0 e1 e2 HL;simp only[Zaf];refine Zca (R:=fun v w'=>v=.bool (G j)/\Below w4.heap.size w4 w') rfl (by go_simp) ((HVAL.out w4 (HB1.out.trans ((HBEL.out.trans (HB4.out.mono HBEL.out.size)).mono HB1.out.size)) _ rfl (Zbg j k) av cv HBS.out).mono (fun e w' he=>?_)) ?_
     ·
      obtain⟨rfl,q3⟩:=he;exact⟨_,rfl,⟨(q3.cell (p:=⟨w.heap.size,0,none⟩) (Zaa f0)).trans f0,(q3.cell (p:=⟨w.heap.size,1,none⟩) (Zaa f1)).trans f1,(q3.cell (p:=⟨w.heap.size,2,none⟩) (Zaa f2)).trans f2⟩,by rw[HG.out],q3⟩
     rintro v w5 ⟨g0,g1,g2⟩ ⟨rfl,hb5⟩;obtain⟨y,hy⟩:∃ y,y=G j:=⟨_,rfl⟩;rw[<- hy];have HYY:Hid (Zbh ((List.range (j+1)).map G)=Zbh ((List.range j).map G)++[.bool y]):=Hd (by rw[Zm2,Zh4,hy]);have hbq:=HB4.out.trans (hb5.mono HB4.out.size);have HB5:=Hd (HBEL.out.trans (hbq.mono HBEL.out.size));have HOW5:=Hd (HOW.out.below hbq);have hsz5:w1.heap.size<=w5.heap.size:=Nat.le_trans hsz hbq.size;clear hb5 hbq f0 f1 f2 hy HBS HB4;simp only[Zaf];have hbn:=Zad w5 (.cells #[.bool y] 4);refine Ziu (v:=.slice (some ⟨w5.heap.size,0,none⟩) 1 1) (w':=w5.alloc (.cells #[.bool y] 4)) rfl (by go_simp) ⟨(hbn.cell (p:=⟨w.heap.size,0,none⟩) (Zaa g0)).trans g0,(hbn.cell (p:=⟨w.heap.size,1,none⟩) (Zaa g1)).trans g1,(hbn.cell (p:=⟨w.heap.size,2,none⟩) (Zaa g2)).trans g2⟩ ?_;simp only[Zaf];obtain⟨v6,w6,hr6,hown6,q1,q2,q3,q4,hk6⟩:=Zy6 Zeg 34 w5 w1.heap.size _ (Zbh ((List.range j).map G)) (.bool y) rfl HOW5.out (by simp[Zbh];omega) hsz5;have hb6:=Zez HB5.out HOW5.out q1 q2 q3 q4 hk6 hsz5;refine Ziu (v:=v6) (w':=w6) rfl (Zk7 rfl rfl rfl hr6) ⟨(hb6.cell (p:=⟨w.heap.size,0,none⟩) (Zaa d0)).trans d0,(hb6.cell (p:=⟨w.heap.size,1,none⟩) (Zaa d1)).trans d1,(hb6.cell (p:=⟨w.heap.size,2,none⟩) (Zaa d2)).trans d2⟩ ?_;simp only[Zaf]
     iterate 1
      refine Zaq rfl ?_;apply Exists.intro;refine⟨fun w' hw=>?_,?_⟩
      ·
       obtain⟨h1,h2,h3⟩:=hw;go_simp;rfl
      simp only[Zaf]
     refine Ze3 ?_;have HB6:=Hd hb6;have HOW6:=Hd hown6;have hsz6:w1.heap.size<=w6.heap.size:=by omega
     clear hb6 hown6 q1 q2 q3 q4 hk6 hr6 g0 g1 g2 hbn;go_wp2_with fail;go_roundw
     case rel=>exact⟨j+1,by omega,by go_num,Hd (by unfold OwnB;rw[HYY.out];exact HOW6.out),HB6,hsz6⟩
     case measure=>simp[intOf];omega
    ·
     obtain rfl:j=p:=by omega
     have HF:Hid (∃ v,Ending.returned u7=.returned v/\OwnB wq w.heap.size v ((List.range j).map G)/\Below w.heap.size w wq):=Hd ⟨u7,rfl,HOW.out.lower (by omega),HB1.out.trans (HBEL.out.mono HB1.out.size)⟩;go_wp2_with fail;go_ret;exact HF.out
open Go.RowKit
section
variable {P:Program} (w:World)
theorem Zka (t ty e:TypeId) (i:TypeInfo) (ht:P.underlying t=some (.slice e)) (hi:P.info? e=some i)
 (g off sLen sCap:Nat) (cur:Array Value) (hg:w.heap[g]?=some (.cells cur e (0,0)))
 (a:Addr) (m c:Nat) (news:List Value) (hl:news.length=m*i.size) (hnews:∀ j u,news[j]?=some u->w.cell? (a.add j)=some u) (h1:∀ u∈news,u.oneCell'=true)
 (hroom:sLen+m<=sCap) (hfit:off+sLen*i.size+news.length<=cur.size) :
 (Builtin.append_ #[t,t] ty #[.slice (some ⟨g,off,none⟩) sLen sCap,.slice (some a) m c]).run P w =
  .ok (.slice (some ⟨g,off,none⟩) (sLen+m) sCap) (w.setRow g (cur.toList.take (off+sLen*i.size)++news++cur.toList.drop (off+sLen*i.size+news.length)).toArray):=by
 have hf:=run_firstCells_some (P:=P) w i.size m a m c news hl hnews;have hst:=run_storeCells_at P g (off+sLen*i.size) e news 0 cur w hg (by simpa using hfit) h1;simp only[Nat.add_zero] at hst;have hadd:(⟨g,off,none⟩:Addr).add (sLen*i.size)=⟨g,off+sLen*i.size,none⟩:=by unfold Addr.add;split<;>simp_all
 simp[Builtin.append_,run_underlying ht,sizeOf,typeInfo,hi,Builtin.lenOf,hroom,hf,hadd,hst]
end
theorem Yb7:(Tryz.prog.info? 103).map (fun i=>(i.zero,i.size,i.bytes))=some (some (.agg #[.int .i64 0,.int .i64 0,.int .i64 0]),3,24):=by kernel_rfl
theorem Yax (l:List Ev):∀ (j:Nat) (u:Value),(l.flatMap evL)[j]?=some u->∃ hk:j/3<l.length,(evL (l[j/3]))[j%3]?=some u:=by
 induction l with
 | nil=>intro j u h;simp at h
 | cons e l ih =>
   intro j u h;rw[List.flatMap_cons] at h
   by_cases hj:j<3
   ·
    rw[List.getElem?_append_left (by show j<3;exact hj)] at h;have e0:j/3=0:=by omega
    refine⟨by rw[e0];simp,?_⟩;have e1:j%3=j:=by omega
    simp only[e0,e1,List.getElem_cons_zero];exact h
   ·
    rw[List.getElem?_append_right (by show 3<=j;omega)] at h;obtain⟨hk,h2⟩:=ih (j-3) u h;have e0:j/3=(j-3)/3+1:=by omega
    have e1:j%3=(j-3)%3:=by omega
    refine⟨by rw[e0,List.length_cons];omega,?_⟩;simp only[e0,e1,List.getElem_cons_succ];exact h2
theorem EvsAt.news {w:World} {b off:Nat} {l:List Ev} (h:EvsAt w (some ⟨b,off,none⟩) l):∀ j u,(l.flatMap evL)[j]?=some u->w.cell? ((⟨b,off,none⟩:Addr).add j)=some u:=by
 intro j u hu;have hadd:(⟨b,off,none⟩:Addr).add j=⟨b,off+j,none⟩:=by unfold Addr.add;split<;>simp_all
 obtain⟨hk,h2⟩:=Yax l j u hu;obtain⟨b',off',e,c0,c1,c2⟩:=h.cells (j/3) hk;cases e;rw[hadd];have hm:j%3<3:=Nat.mod_lt _ (by decide);rcases(by omega:j%3=0\/j%3=1\/j%3=2) with e|e|e<;>rw[e] at h2
 ·
  have e2:j=j/3*3:=by omega
  rw[e2,c0];exact h2
 ·
  have e2:j=j/3*3+1:=by omega
  rw[e2,<- Nat.add_assoc,c1];exact h2
 ·
  have e2:j=j/3*3+2:=by omega
  rw[e2,<- Nat.add_assoc,c2];exact h2
theorem Yay (l:List Ev):∀ u∈l.flatMap evL,u.oneCell'=true:=by
 intro u hu;obtain⟨e,_,h⟩:=List.mem_flatMap.1 hu;simp only[evL,List.mem_cons,List.not_mem_nil,or_false] at h;rcases h with rfl|rfl|rfl<;>rfl
theorem Zj2 {o:Own} {w:World} {v:Value} {ws l:List Ev} {a:Option Addr} {c:Nat} (h:Zb6 o w v ws) (hlt:Zaj o w) (hev:EvsAt w a l) (hsm:ws.length+l.length<=1000) (ty:TypeId) :
 ∃ v' w' o',(Builtin.append_ #[24,24] ty #[v,.slice a l.length c]).run Tryz.prog w=.ok v' w'/\Zb6 o' w' v' (ws++l)/\Chg (· = .waits) o o' w w'/\Zaj o' w':=by
 obtain⟨i,hi,hz,hsz,hby⟩:=info_parts Yb7;have ht:=Tryz.underlying24
 by_cases h0:l=[]
 ·
  subst h0;refine⟨v,w,o,?_,by rw[List.append_nil];exact h,Chg.refl _ _ _,hlt⟩;rcases h.ex with ⟨rfl,rfl⟩|⟨g,off,cap,cur,rfl,_,_,hn,_⟩
  ·
   cases a<;>simp[Builtin.append_,run_underlying ht,sizeOf,typeInfo,hi,Builtin.lenOf,Builtin.firstCells,loadCells,loadCellsFrom]
  ·
   cases a<;>simp[Builtin.append_,run_underlying ht,sizeOf,typeInfo,hi,Builtin.lenOf,hn,Builtin.firstCells,storeCells,loadCells,loadCellsFrom]
 ·
  have hl0:0<l.length:=List.length_pos_iff.2 h0;obtain⟨b,off,rfl,_⟩:=hev.cells 0 hl0;have hnews:=hev.news;have hone:=Yay l;have hln:(l.flatMap evL).length=l.length*i.size:=by rw[hsz];exact Zc8 l
  have hlf:(ws.flatMap evL++l.flatMap evL).length=(ws++l).length*3:=by rw[List.length_append,Zc8,Zc8,List.length_append];omega
  have mk:∀ (old:Nat),Zb6 (Zc0 o w.heap.size .waits) (w.drew.alloc (.cells ((ws.flatMap evL).toArray++(l.flatMap evL).toArray++Builtin.zeroCells (Value.agg #[.int .i64 0,.int .i64 0,.int .i64 0]).cells (grownCap w (ws.length+l.length) old 103-(ws.length+l.length))) 103)) (.slice (some ⟨w.heap.size,0,none⟩) (ws.length+l.length) (grownCap w (ws.length+l.length) old 103)) (ws++l) /\
   Chg (· = .waits) o (Zc0 o w.heap.size .waits) w (w.drew.alloc (.cells ((ws.flatMap evL).toArray++(l.flatMap evL).toArray++Builtin.zeroCells (Value.agg #[.int .i64 0,.int .i64 0,.int .i64 0]).cells (grownCap w (ws.length+l.length) old 103-(ws.length+l.length))) 103)) /\
   Zaj (Zc0 o w.heap.size .waits) (w.drew.alloc (.cells ((ws.flatMap evL).toArray++(l.flatMap evL).toArray++Builtin.zeroCells (Value.agg #[.int .i64 0,.int .i64 0,.int .i64 0]).cells (grownCap w (ws.length+l.length) old 103-(ws.length+l.length))) 103)):=by
   intro old;have hge:=grownCap_ge w (ws.length+l.length) old 103;have hcm:grownCap w (ws.length+l.length) old 103<=maxLen:=grownCap_le_maxLen w _ old _ (by unfold maxLen;omega);refine⟨⟨.inr ⟨w.heap.size,0,_,_,by rw[List.length_append],Zbj _ _ _,heap_alloc_new w.drew _,by rw[List.length_append];exact hge,hcm,?_,?_⟩⟩,((Chg.refl (· = .waits) o w).drewN 1).allocR (w':=w.drewN 1) hlt _ rfl,Zaj.allocR (w:=w.drewN 1) hlt _ .waits⟩
   ·
    have e3:(Value.agg #[.int .i64 0,.int .i64 0,.int .i64 0]).cells.size=3:=rfl;simp only[Array.size_append,List.size_toArray,size_zeroCells,e3,Zc8,Nat.zero_add];omega
   ·
    simp only[Array.toList_append,List.drop_zero,List.flatMap_append];rw[List.take_left' hlf]
  rcases h.ex with ⟨rfl,rfl⟩|⟨g,off2,cap,cur,rfl,hog,hg,hnc,hcm,hcs,htake⟩
  ·
   have hr:=run_append_nil (P:=Tryz.prog) w 24 ty 103 i _ ht hi hz ⟨b,off,none⟩ l.length c (l.flatMap evL) hln hnews hl0 (by simp at hsm;omega) (by rw[hby];simp at hsm;omega);have hm:=mk 0;simp only[List.length_nil,Nat.zero_add,List.flatMap_nil,List.nil_append,Array.empty_append] at hm ⊢;exact⟨_,_,_,hr,hm⟩
  ·
   by_cases hroom:ws.length+l.length<=cap
   ·
    have hfit:off2+ws.length*i.size+(l.flatMap evL).length<=cur.size:=by rw[hln,hsz];omega
    have hr:=Zka (P:=Tryz.prog) w 24 ty 103 i ht hi g off2 ws.length cap cur hg ⟨b,off,none⟩ l.length c (l.flatMap evL) hln hnews hone hroom hfit;refine⟨_,_,o,hr,⟨.inr ⟨g,off2,cap,_,by rw[List.length_append],hog,setRow_heap w g cur _ _ _ hg,by rw[List.length_append];exact hroom,hcm,?_,?_⟩⟩,⟨rfl,rfl,rfl,by simp,fun k _ hk=>setRow_other w g k _ (by rintro rfl;exact hk _ hog rfl),fun _ _ h=>h,fun _ h=>(h rfl).elim⟩,fun k q hq=>by have:=hlt k q hq;simpa using this⟩
    ·
     simp only[List.size_toArray,List.length_append,List.length_take,List.length_drop,Array.length_toList];omega
    ·
     rw[hsz] at hfit ⊢;have e1:(cur.toList.take (off2+ws.length*3)).drop off2=ws.flatMap evL:=by
      rw[<- htake,List.drop_take,Nat.add_sub_cancel_left]
     have e2:off2<=(cur.toList.take (off2+ws.length*3)).length:=by
      have hq:ws.length*3<=cap*3:=Nat.mul_le_mul_right _ hnc;have hq2:off2+ws.length*3<=cur.size:=by clear hfit;omega
      have hq3:cur.toList.length=cur.size:=Array.length_toList;rw[List.length_take,hq3,Nat.min_eq_left hq2];exact Nat.le_add_right _ _
     simp only[List.append_assoc];rw[List.drop_append_of_le_length e2,e1,<- List.append_assoc,List.flatMap_append,List.take_left' hlf]
   ·
    have holds:∀ j u,(ws.flatMap evL)[j]?=some u->w.cell? ((⟨g,off2,none⟩:Addr).add j)=some u:=by
     intro j u hu;have hadd:(⟨g,off2,none⟩:Addr).add j=⟨g,off2+j,none⟩:=by unfold Addr.add;split<;>simp_all
     rw[hadd,cell_of_row w g (off2+j) cur _ _ hg];rw[<- htake,List.getElem?_take] at hu;split at hu
     ·
      rw[List.getElem?_drop] at hu;simpa using hu
     ·
      cases hu
    have hr:=run_append_grow (P:=Tryz.prog) w 24 ty 103 i _ ht hi hz ⟨g,off2,none⟩ ws.length cap (ws.flatMap evL) (by rw[hsz];exact Zc8 ws) holds ⟨b,off,none⟩ l.length c (l.flatMap evL) hln hnews (by omega) (by omega) (growslice_fits (by omega) (by rw[hby];omega));exact⟨_,_,_,hr,mk cap⟩
open Go.RowKit
theorem Zb6.form {o:Own} {w:World} {v:Value} {ws:List Ev} (h:Zb6 o w v ws):∃ a c,v=.slice a ws.length c:=by
 rcases h.ex with ⟨rfl,rfl⟩|⟨g,off,cap,cur,rfl,_⟩
 ·
  exact⟨_,_,rfl⟩
 ·
  exact⟨_,_,rfl⟩
theorem Zl1 {P:Program} {ops:Array Oper} {rest:List Oper} {op:Oper} {a:Act} {Q:Exit->Act->World->Prop} {w w':World} {vs vx v':Value} (hgd:op.guard=none) (s x:Operand) (t:TypeId)
 (hop:op.op=.call { callee:=.builtin .append,args:=#[s,x],argTypes:=#[t,t] }) (hs:a.eval s=vs) (hx:a.eval x=vx) (hr:(Builtin.append_ #[t,t] op.type #[vs,vx]).run P w=.ok v' w')
 (hK:wpList P ops Q rest (a.put op.dst v') w'):wpList P ops Q (op::rest) a w:=by
 refine wpList_plain hgd fun K hKK=>?_
 unfold Oper.wp execOp;simp only[hop,resolve,invoke,builtin,Sem.run_bind,Sem.run_pure,Result.andThen_ok,List.map_toArray,List.map_cons,List.map_nil,hs,hx,hr];exact hKK _ _ hK
theorem Zcd.setWaits {F:Phi} {o o':Own} {w w':World} {mb:Nat} {m:ManD} {s:ManW} (h:Zcd F o w mb m s) (hlt:Zaj o w) {v':Value} {l':List Ev} (hw:Zb6 o' w' v' l') (hc:Chg (· = .waits) o o' w w'):Zcd F o' (w'.setCell ⟨mb,4,none⟩ v') mb { m with waits:=l' } { s with vw:=v' }:=by
 have key:∀ {g r},o g=some r->r ≠ .man->r ≠ .waits->(w'.setCell ⟨mb,4,none⟩ v').heap[g]?=w.heap[g]?:=by
  intro g r hg h1 h2;refine(Zah (p:=⟨mb,4,none⟩) (fun e=>?_) _).trans (hc.same hlt hg h2);have e':g=mb:=e;subst e';have:=h.own;rw[hg] at this;cases this;exact h1 rfl
 refine⟨hc.ext _ _ h.own,?_,h.store.keepR (fun g r hg hr=>key hg (by rintro rfl;simp[Zar,Zfm] at hr) (by rintro rfl;simp[Zar,Zfm] at hr)) hc.ext,h.memo.keep (fun g r hg hr=>key hg (by rintro rfl;rcases hr with e|e<;>cases e) (by rintro rfl;rcases hr with e|e<;>cases e)) hc.ext,hc.ext _ _ h.ownh,h.map.keepB (key h.ownh (by simp) (by simp)),hw.keep (fun g hg=>Zah (p:=⟨mb,4,none⟩) (fun e=>?_) _) (fun _ h=>h)⟩
 ·
  exact Zai ((hc.same hlt h.own (by simp)).trans h.blk) _
 ·
  have e':g=mb:=e;subst e';have:=hc.ext _ _ h.own;rw[hg] at this;cases this
section
variable {K:Law} {n:Nat} {Od:List Nat->Prop} {room:Nat} {w0 w w':World} {mb:Nat} {fs:List (Int×BF)} {nx:Int} {o o':Own} {m m':ManD} {V V':Nat->BF}
structure Planned (K:Law) (n:Nat) (Od:List Nat->Prop) (room:Nat) (w0:World) (mb:Nat) (fs:List (Int×BF)) (nx:Int) (o:Own) (w:World) (m:ManD) (V:Nat->BF) (l:List Ev) (z:Int) (o':Own) (w':World) (m':ManD):Prop where
 sat:SatE K n Od room w0 mb fs nx w' o' m' V
 d:m'.d=m.d
 chg:Chg (fun _=>True) o o' w w'
 no:z≠0->m'.waits=m.waits/\m'.calls=m.calls
 yes:z=0->m'.waits=m.waits++l/\m'.calls=if m.waits=[] then 0 else m.calls
theorem Zrf (h:SatE K n Od room w0 mb fs nx w o m V) {a:Option Addr} {c:Nat} {l:List Ev} (hev:EvsAt w a l) (hno:0<l.length->∀ x,a=some x->o x.block=none) (hwl:m.waits.length<=256) :
 Calls Tryz.prog 71 #[.pointer (some ⟨mb,0,none⟩),.slice a l.length c] w fun e w'=>e=.returned (.int .i64 (Zfb n m.waits.length l))/\∃ o' m',Planned K n Od room w0 mb fs nx o w m V l (Zfb n m.waits.length l) o' w' m':=by
 obtain⟨Q,hQ⟩:∃ Q:Ending->World->Prop,Q=fun e w'=>e=.returned (.int .i64 (Zfb n m.waits.length l))/\∃ o' m',Planned K n Od room w0 mb fs nx o w m V l (Zfb n m.waits.length l) o' w' m':=⟨_,rfl⟩
 rw[<- hQ];have HQ:=Hd hQ;clear hQ;have hll:=hev.len;have hn64:n<=64:=by rw[<- h.vars];exact h.ok.store.small
 obtain⟨s,hs⟩:=h.is;obtain⟨c0,c1,c2,c3,c4,c5,f0⟩:=cells6 hs.blk;obtain⟨av,cv,hvw⟩:=hs.waits.form
 have HBAD:Hid (∀ (z:Int) W,Below w.heap.size w W->Zfb n m.waits.length l=z->z≠0->Q (.returned (.int .i64 z)) W):=Hd (by
  intro z W hb hz h0;rw[HQ.out,hz];exact⟨rfl,o,m,h.below hb,rfl,Chg.of_below hb _ _,fun _=>⟨rfl,rfl⟩,fun e=>(h0 e).elim⟩)
 have HV:Hid (∀ W,Below w.heap.size w W->Calls Tryz.prog 74 #[.pointer (some ⟨mb,0,none⟩)] W fun e w'=>e=.returned (.int .i64 n)/\w'=W):=Hd (fun W hb=>(Zle (h.below hb).is).mono fun e w' q=>⟨by rw[q.1,h.vars],q.2.symm⟩);have HI:=Hd hev;have HS:=Hd hs;have HH:=Hd h;have HNO:=Hd hno;rw[hvw] at c4;have HVW:=Hd hvw;have HWL:=Hd hwl;clear h hs hev hno hvw
 by_cases hmany:(l.length:Int)>256-m.waits.length
 ·
  have HF:=Hd (HBAD.out 18 w (Below.refl _ _) (by unfold Zfb;rw[if_pos hmany]) (by decide))
  go_enter Tryz.func71,Tryz.ntmps71
  go_wp2_with fail;exact HF.out
 have HR:Hid (Zfb n m.waits.length l=Zl7 n (l.drop 0)):=Hd (by unfold Zfb;rw[if_neg hmany];rfl);obtain⟨P,hP⟩:∃ P,P=Zfb n m.waits.length l:=⟨_,rfl⟩;rw[<- hP] at HR HBAD;have HPE:=Hd hP;clear hP;have HM:=Hd hmany
 go_enter Tryz.func71,Tryz.ntmps71
 go_wp2_with fail
 go_loopw [20] (fun s20 wr=>∃ i:Nat,i<=l.length/\s20=.int .i64 i/\Hid (Below w.heap.size w wr)/\Hid (P=Zl7 n (l.drop i))) (fun s20 _=>l.length-(intOf s20).toNat)
 case atStart=>exact⟨0,Nat.zero_le _,rfl,Hd (Below.refl _ _),HR⟩
 case round =>
  clear HR;obtain⟨i,hi,rfl,HB,HP⟩:=hrel
  by_cases hlt:i<l.length
  ·
   obtain⟨b,off,rfl,e0,e1,e2⟩:=(HI.out.below HB.out).cells i hlt;have hiz:(i:Int)<l.length:=by omega
   have HC:Hid (∀ z:Int,Zhv n l[i]=z->z≠0->P=z):=Hd fun z hz h0=>by rw[HP.out,Zhi hlt,hz,if_neg h0]
   have HN:Hid (Zhv n l[i]=0->P=Zl7 n (l.drop (i+1))):=Hd fun hz=>by rw[HP.out,Zhi hlt,hz,if_pos rfl]
   have HE:Hid (Zhv n l[i]=if l[i].kind<1\/l[i].kind>3 then 11 else if l[i].after<1\/(l[i].kind=2/\(l[i].level<0\/l[i].level>(n:Int)-2)) then 2 else 0):=Hd rfl;obtain⟨ev,hev⟩:∃ ev,ev=l[i]:=⟨_,rfl⟩;rw[<- hev] at e0 e1 e2 HC HN HE;obtain⟨af,ki,le⟩:=ev;dsimp only at e0 e1 e2 HE;clear hev HP c0 c1 c2 c3 c4 c5 f0;obtain⟨W,hW⟩:∃ W,W=wr.alloc (.cells #[.int .i64 af,.int .i64 ki,.int .i64 le] 103):=⟨_,rfl⟩;have hbW:Below w.heap.size w W:=HB.out.trans ((show Below wr.heap.size wr W by rw[hW];exact Zad wr _).mono HB.out.size);obtain⟨bx,hbx⟩:∃ q,q=wr.heap.size:=⟨_,rfl⟩;have hx:W.heap[bx]?=some (.cells #[.int .i64 af,.int .i64 ki,.int .i64 le] 103 (0,0)):=by rw[hW,hbx];exact heap_alloc_new wr _
   have b0:W.cell? ⟨bx,0,none⟩=some (.int .i64 af):=by rw[cell_of_row W _ 0 _ _ _ hx];rfl
   have b1:W.cell? ⟨bx,1,none⟩=some (.int .i64 ki):=by rw[cell_of_row W _ 1 _ _ _ hx];rfl
   have b2:W.cell? ⟨bx,2,none⟩=some (.int .i64 le):=by rw[cell_of_row W _ 2 _ _ _ hx];rfl
   have HW:=Hd hW;have HBX:=Hd hbx;have HBW:=Hd hbW;have HVV:Hid (∀ q,Calls Tryz.prog 74 #[.pointer (some ⟨mb,0,none⟩)] (W.drewN q) fun e w'=>e=.returned (.int .i64 n)/\w'=W.drewN q):=Hd (fun q=>HV.out _ (hbW.trans ((Zag W q).mono hbW.size)));have HJL:=Hd hlt;clear hW hbx hbW hx;go_upto_region 8 with fail;rw[<- HW.out,<- HBX.out];have hki:ki<1\/ki>3\/(ki=2)\/(ki=1\/ki=3):=by omega
   rcases hki with hk|hk|hk|hk
   ·
    have HF:=Hd (HBAD.out 11 W HBW.out (HC.out 11 (by rw[HE.out,if_pos (.inl hk)]) (by decide)) (by decide));go_wp2_with fail;exact HF.out
   ·
    have HF:=Hd (HBAD.out 11 W HBW.out (HC.out 11 (by rw[HE.out,if_pos (.inr hk)]) (by decide)) (by decide));have hk1:¬ ki<1:=by omega
    go_wp2_with fail;exact HF.out
   ·
    by_cases ha:af<1
    ·
     have HF:Hid (∀ q,Q (.returned (.int .i64 2)) (W.drewN q)):=Hd (fun q=>HBAD.out 2 _ (HBW.out.trans ((Zag W q).mono HBW.out.size)) (HC.out 2 (by rw[HE.out,if_neg (by omega),if_pos (.inl ha)]) (by decide)) (by decide));subst hk;go_upto_region 10 with fail
     go_quiet (with_reducible exact Calls.quiet_of_same (HVV.out _))
     go_wp2_with fail;exact HF.out _
    ·
     by_cases hl0:le<0
     ·
      have HF:Hid (∀ q,Q (.returned (.int .i64 2)) (W.drewN q)):=Hd (fun q=>HBAD.out 2 _ (HBW.out.trans ((Zag W q).mono HBW.out.size)) (HC.out 2 (by rw[HE.out,if_neg (by omega),if_pos (.inr ⟨hk,.inl hl0⟩)]) (by decide)) (by decide));subst hk;go_upto_region 10 with fail
      go_quiet (with_reducible exact Calls.quiet_of_same (HVV.out _))
      go_wp2_with fail;exact HF.out _
     ·
      by_cases hl1:le>=(n:Int)-1
      ·
       have HF:Hid (∀ q,Q (.returned (.int .i64 2)) (W.drewN q)):=Hd (fun q=>HBAD.out 2 _ (HBW.out.trans ((Zag W q).mono HBW.out.size)) (HC.out 2 (by rw[HE.out,if_neg (by omega),if_pos (.inr ⟨hk,.inr (by omega)⟩)]) (by decide)) (by decide));subst hk;go_upto_region 10 with fail
       go_quiet (with_reducible exact Calls.quiet_of_same (HVV.out _))
       go_wp2_with fail;exact HF.out _
      ·
       have HPP:=Hd (HN.out (by rw[HE.out,if_neg (by omega),if_neg (by omega)]));subst hk;go_upto_region 10 with fail
       go_quiet (with_reducible exact Calls.quiet_of_same (HVV.out _))
       have HBQ:=Hd (HBW.out.trans ((Zag W nq).mono HBW.out.size));go_wp2_with fail;go_roundw
       case rel=>exact⟨i+1,Nat.succ_le_of_lt HJL.out,by go_num,HBQ,HPP⟩
       case measure =>
        have:=HJL.out;simp[intOf];omega
   ·
    have hk1:¬ ki<1:=by omega
    have hk2:¬ ki>3:=by omega
    have hk3:(ki == 2)=false:=by simp;omega
    by_cases ha:af<1
    ·
     have HF:Hid (∀ q,Q (.returned (.int .i64 2)) (W.drewN q)):=Hd (fun q=>HBAD.out 2 _ (HBW.out.trans ((Zag W q).mono HBW.out.size)) (HC.out 2 (by rw[HE.out,if_neg (by omega),if_pos (.inl ha)]) (by decide)) (by decide));clear hk;go_upto_region 10 with fail
     go_quiet (with_reducible exact Calls.quiet_of_same (HVV.out _))
     go_wp2_with fail;exact HF.out _
    ·
     have HPP:=Hd (HN.out (by rw[HE.out,if_neg (by omega),if_neg (by omega)]));clear hk;go_upto_region 10 with fail
     go_quiet (with_reducible exact Calls.quiet_of_same (HVV.out _))
     have HBQ:=Hd (HBW.out.trans ((Zag W nq).mono HBW.out.size));go_wp2_with fail;go_roundw
     case rel=>exact⟨i+1,Nat.succ_le_of_lt HJL.out,by go_num,HBQ,HPP⟩
     case measure =>
      have:=HJL.out;simp[intOf];omega
  ·
   have he:i=l.length:=by omega
   have hiz:¬ (i:Int)<l.length:=by omega
   have HPP:Hid (P=0):=Hd (by rw[HP.out,he,List.drop_length];rfl);clear he;have hs':=HS.out.below HH.out.lt HB.out;have hlt':=HH.out.lt.mono HB.out.size;have hsm:m.waits.length+l.length<=1000:=by have:=HM.out;have:=HWL.out;omega
   have HFIN:Hid (∀ (cl:Int) (W:World) (hm:Zcd (K m.d V) o W mb { m with calls:=cl } s) (hl:Zaj o W) (hc:Chg (fun _=>True) o o w W) (v':Value) (W':World) (o':Own),cl=(if m.waits=[] then 0 else m.calls)->Zb6 o' W' v' (m.waits++l)->Chg (· = .waits) o o' W W'->Zaj o' W'->Q (.returned (.int .i64 0)) (W'.setCell ⟨mb,4,none⟩ v')):=Hd (by
    intro cl W hm hl hc v' W' o' hcl hw hc2 hl2;rw[HQ.out,<- HPE.out,HPP.out];have hm2:=hm.setWaits hl hw hc2;have hc3:Chg (fun _=>True) o o' w (W'.setCell ⟨mb,4,none⟩ v'):=(hc.trans hc2.any).setCell (p:=⟨mb,4,none⟩) (hc2.ext _ _ hm.own) trivial _;exact⟨rfl,o',{ m with waits:=m.waits++l,calls:=cl },⟨⟨_,hm2⟩,hl2.mono (by simp[World.setCell]),⟨HH.out.ok.store,⟨HH.out.ok.handles.nodup,HH.out.ok.handles.zero,HH.out.ok.handles.one,HH.out.ok.handles.lt,HH.out.ok.handles.next,HH.out.ok.handles.ok,HH.out.ok.handles.len,HH.out.ok.handles.refs⟩⟩,HH.out.vars,HH.out.od,HH.out.room,HH.out.next,HH.out.hs,HH.out.chg.lower (ChgX.of_chg hc3 NoB) (fun _ e=>e.elim)⟩,rfl,hc3,fun e=>(e rfl).elim,fun _=>⟨rfl,hcl⟩⟩)
   have HI2:=HI.out.below HB.out;clear c0 c1 c2 c3 c4 c5 f0;obtain⟨c0,c1,c2,c3,c4,c5,f0⟩:=cells6 hs'.blk
   by_cases hw0:m.waits=[]
   ·
    have hz:m.waits.length=0:=by rw[hw0];rfl
    have HZ:=Hd hz;have hm1:Zcd (K m.d V) o (wr.setCell ⟨mb,5,none⟩ (.int .i64 0)) mb { m with calls:=0 } s:=hs'.field rfl rfl rfl rfl rfl (hs'.waits) rfl;have hb1:Chg (fun _=>True) o o w (wr.setCell ⟨mb,5,none⟩ (.int .i64 0)):=(Chg.of_below HB.out _ _).setCell (p:=⟨mb,5,none⟩) hs'.own trivial _;have hl1:Zaj o (wr.setCell ⟨mb,5,none⟩ (.int .i64 0)):=hlt'.mono (by simp[World.setCell])
    have he1:EvsAt (wr.setCell ⟨mb,5,none⟩ (.int .i64 0)) a l:=⟨HI2.len,fun k hk=>by
     obtain⟨b,off,e,q0,q1,q2⟩:=HI2.cells k hk;have hne:mb≠b:=by
      rintro rfl;have:=HNO.out (by omega) _ e;have h2:=hs'.own;rw[h2] at this;cases this
     exact⟨b,off,e,Zba q0 (.inl hne),Zba q1 (.inl hne),Zba q2 (.inl hne)⟩⟩
    obtain⟨v',w2,o2,hrun,hwa,hca,hla⟩:=Zj2 (c:=c) hm1.waits hl1 he1 hsm 24;obtain⟨av2,cv2,hv2⟩:=hwa.form;subst hv2;have HF:=Hd (HFIN.out 0 _ hm1 hl1 hb1 _ w2 o2 (by rw[if_pos hw0]) hwa hca hla);obtain⟨k0,k1,k2,k3,k4,k5,kf⟩:=cells6 hm1.blk;have hblk:=(hca.same hl1 hm1.own (by simp)).trans hm1.blk;obtain⟨j0,j1,j2,j3,j4,j5,jf⟩:=cells6 hblk;rw[HVW.out,hz] at c4 k4 hrun;clear hs' hlt' hm1 hb1 hl1 he1 hwa hca hla HI2 hw0 hblk k0 k1 k2 k3 k5 kf;have HRUN:=Hd hrun;clear hrun;go_upto_region 15 with fail;go_wp2_with (refine Zl1 rfl _ _ _ rfl rfl rfl HRUN.out ?_);have hq:=HF.out;rw[List.length_append,HZ.out,Nat.zero_add] at hq;exact hq
   ·
    have hz:0<m.waits.length:=List.length_pos_iff.2 hw0;have hz1:((m.waits.length:Int) == 0)=false:=by rw[beq_eq_false_iff_ne];omega
    obtain⟨v',w2,o2,hrun,hwa,hca,hla⟩:=Zj2 (c:=c) hs'.waits hlt' HI2 hsm 24;obtain⟨av2,cv2,hv2⟩:=hwa.form;subst hv2;have HF:=Hd (HFIN.out m.calls _ hs' hlt' (Chg.of_below HB.out _ _) _ w2 o2 (by rw[if_neg hw0]) hwa hca hla);have hblk:=(hca.same hlt' hs'.own (by simp)).trans hs'.blk;obtain⟨j0,j1,j2,j3,j4,j5,jf⟩:=cells6 hblk;rw[HVW.out] at c4 hrun;clear hs' hlt' hwa hca hla HI2 hw0 hblk hz;have HRUN:=Hd hrun;clear hrun;go_upto_region 15 with fail;go_wp2_with (refine Zl1 rfl _ _ _ rfl rfl rfl HRUN.out ?_);have hq:=HF.out;rw[List.length_append] at hq;exact hq
end
open Go.RowKit
def Zbn (n:Nat):Nat:=4*2^(2*n)+192*2^n
theorem Zti (n:Nat) (hn:n<=8) (w:World):Calls Tryz.prog 137 #[.int .i64 n,.int .i64 40] w fun x w'=>x=.returned (.int .i64 (Zbn n))/\w=w':=by
 have HB:Hid (∀ (z:Int) (k:Nat),z=k->k<=16->Calls Tryz.prog 166 #[.int .i64 z] w fun x w'=>x=.returned (.int .i64 (2^k:Nat))/\w=w'):=Hd fun z k e hk=>by subst e;exact Zqx k (by omega) w
 have hA:2^(2*n)<=65536:=Nat.le_trans (Nat.pow_le_pow_right (by omega) (show 2*n<=16 by omega)) (by decide);have hB:2^n<=65536:=Nat.le_trans (Nat.pow_le_pow_right (by omega) (show n<=16 by omega)) (by decide);have HB1:=Hd (fun z e=>HB.out z (2*n) e (by omega));have HB2:=Hd (fun z e=>HB.out z n e (by omega));unfold Zbn;obtain⟨a,ha⟩:∃ a,a=2^(2*n):=⟨_,rfl⟩;obtain⟨b,hb⟩:∃ b,b=2^n:=⟨_,rfl⟩;rw[<- ha] at hA HB1 ⊢;rw[<- hb] at hB HB2 ⊢;clear ha hb HB
 go_enter Tryz.func137,Tryz.ntmps137
 go_wp2_with fail;refine(HB1.out _ (by omega)).mono ?_;rintro x w' ⟨rfl,rfl⟩;go_wp2_with fail;refine(HB2.out _ (by omega)).mono ?_;rintro x w' ⟨rfl,rfl⟩;go_wp2_with fail;go_ret;exact⟨by congr 2,rfl⟩
theorem Zuf (n:Nat) (hn:n<=8) (w:World):Calls Tryz.prog 68 #[.int .i64 n,.int .i64 40] w fun x w'=>x=.returned (.int .i64 (Zbn n))/\w=w':=by
 have HE:=Hd (Zti n hn w)
 go_enter Tryz.func68,Tryz.ntmps68
 go_wp2_with fail;refine HE.out.mono ?_;rintro x w' ⟨rfl,rfl⟩;go_wp2_with fail;go_ret;exact⟨rfl,rfl⟩
theorem Zxa {n:Nat} (hn:n<=6):1<=Zbn n/\Zbn n<=1048576:=by
 have h1:2^(2*n)<=4096:=Nat.le_trans (Nat.pow_le_pow_right (by omega) (show 2*n<=12 by omega)) (by decide);have h2:2^n<=64:=Nat.le_trans (Nat.pow_le_pow_right (by omega) hn) (by decide);have h3:0<2^n:=Nat.pow_pos (by omega);unfold Zbn;omega
theorem Zdp {n k:Nat} (hk:k<=192):k*2^n<=Zbn n:=by
 have:=Nat.mul_le_mul_right (2^n) hk;unfold Zbn;omega
theorem Zug {n j s:Nat} (hn:1<=n) (hs:s<=40) (hj:j<5):2*2^n+j*(39*2^n+1)+s*2^n<=Zbn n:=by
 have h1:=Nat.mul_le_mul_right (2^n) hs;have h2:=Nat.mul_le_mul_right (39*2^n+1) (Nat.le_of_lt_succ hj);have h3:2^1<=2^n:=Nat.pow_le_pow_right (by omega) hn;have h4:2^(n+1)<=2^(2*n):=Nat.pow_le_pow_right (by omega) (by omega);rw[Nat.pow_succ] at h4;unfold Zbn;omega
theorem Zuh {n j s k:Nat} (hs:s<=40) (h1:1<=s) (h:k<=2*2^n+j*(39*2^n+1)+Zh8 n s):k<=2*2^n+(j+1)*(39*2^n+1):=by
 have h2:=Zio n h1;have h3:=Nat.mul_le_mul_right (2^n) hs;rw[Nat.add_mul];have h4:0<2^n:=Nat.pow_pos (by omega);omega
theorem Zy5 {n j k:Nat} (hj:j<=5) (h:k<=2*2^n+j*(39*2^n+1)) (hn:2<=n):k+7<=Zbn n:=by
 have h2:=Nat.mul_le_mul_right (39*2^n+1) hj;have h3:2^2<=2^n:=Nat.pow_le_pow_right (by omega) hn;have h4:2^(n+2)<=2^(2*n):=Nat.pow_le_pow_right (by omega) (by omega);rw[Nat.pow_add] at h4;unfold Zbn;omega
def two:List (Int×BF):=[(0,fun _=>false),(1,fun _=>true)]
theorem Yaa:B2 two:=⟨by simp[two],by simp[two]⟩
theorem Zsl {K:Law} (n room:Nat) (w:World) (hn:n<=64) (h1:1<=room) (h2:room<=1048576) :
 Calls Tryz.prog 67 #[.int .i64 n,.int .i64 room] w fun x w'=>∃ mb,x=.returned (.tuple #[.pointer (some ⟨mb,0,none⟩),.int .i64 0])/\∃ o m V,SatE K n (fun _=>True) room w mb two 2 w' o m V/\m.waits=[]/\m.calls=0/\m.d.pool.many=0:=by
 refine(Ybg (F:=K (man0 n room).d (fun _ _=>true)) (fun _=>none) n room w (fun k r h=>by cases h) hn h1 h2).mono ?_;rintro x w1 ⟨mb,o1,rfl,hm0,hc0,hl0,_⟩;exact⟨mb,rfl,o1,man0 n room,fun _ _=>true,⟨hm0,hl0,Ybe n room hn,by simp[man0,store0],trivial,by simp[man0,store0,pool0],rfl,by simp[man0,two,ef];constructor<;>rfl,ChgX.of_chg hc0 NoB⟩,rfl,rfl,rfl⟩
def OrdP (zs:List Int) (l:List Nat):Prop:=∀ j,j<zs.length->((l.getD j 0:Nat):Int)=at0 zs j
def SetP (K:Law) (q:AskD) (n:Nat) (w:World) (y:Ending) (w':World):Prop :=
 ∃ mb vl vx wb hs nx,y=.returned (.tuple #[.pointer (some ⟨mb,0,none⟩),vl,vx,.bool true])/\Below w.heap.size w wb/\hs.map Prod.snd=q.es.map fnT/\nx<=1000/\∃ o m V,LawT K n (OrdP q.order) (Zbn n) wb mb (two++hs) nx (fun ws c=>ws=q.plan/\c=0) hs hs w' o m V vl vx/\(2<=n->m.d.pool.many+7<=Zbn n)
def SetI (K:Law) (q:AskD) (n:Nat) (wb:World) (mb:Nat) (j:Nat) (s8 s9:Value) (W:World):Prop :=
 ∃ hs nx,hs.map Prod.snd=(q.es.take j).map fnT/\nx<=2+120*(j:Int)/\∃ o m V,LawT K n (OrdP q.order) (Zbn n) wb mb (two++hs) nx (fun ws c=>ws=[]/\True) hs hs W o m V s8 s9/\m.d.pool.many<=2*2^n+j*(39*2^n+1)
theorem Zg5 {K:Law} (hK:Zci K) (q:AskD) (ao ae ap:Option Addr) (co ce cp:Nat) (w:World) (h:AskAt w q ao ae ap) (hsm:Zfd q) (n:Nat) (hqn:q.vars=n) :
 Calls Tryz.prog 17 #[askV q ao ae ap co ce cp] w (SetP K q n w):=by
 have hlo:=hsm.lo;have hhi:=hsm.hi;have hes:=hsm.es;have hpl:=hsm.plan;have HSM:=Hd hsm;have HASK:=Hd h;have hn6:n<=6:=by omega
 have hn1:1<=n:=by omega
 have hrm:=Zxa hn6;obtain⟨Q,hQ⟩:∃ Q:Ending->World->Prop,Q=SetP K q n w:=⟨_,rfl⟩;rw[<- hQ];have HQ:=Hd hQ;obtain⟨w1,hw1⟩:∃ w1,w1=w.alloc (.cells #[.int .i64 q.vars,.slice ao q.order.length co,.slice ae q.es.length ce,.slice ap q.plan.length cp] 26):=⟨_,rfl⟩;have HW1:Hid (_=w1):=Hd hw1.symm;have HB1:Hid (Below w.heap.size w w1):=by rw[hw1];exact Hd (Zad _ _)
 have hblk:w1.heap[w.heap.size]?=some (.cells #[.int .i64 q.vars,.slice ao q.order.length co,.slice ae q.es.length ce,.slice ap q.plan.length cp] 26 (0,0)):=by rw[hw1];exact heap_alloc_new _ _
 have hs1:w1.heap.size=w.heap.size+1:=by rw[hw1];simp
 have HQN:=Hd hqn;rw[hqn] at hblk HW1;have d0:w1.cell? ⟨w.heap.size,0,none⟩=some (.int .i64 (n:Nat)):=by rw[cell_of_row _ _ 0 _ _ _ hblk];rfl
 have d1:w1.cell? ⟨w.heap.size,1,none⟩=some (.slice ao q.order.length co):=by rw[cell_of_row _ _ 1 _ _ _ hblk];rfl
 have d2:w1.cell? ⟨w.heap.size,2,none⟩=some (.slice ae q.es.length ce):=by rw[cell_of_row _ _ 2 _ _ _ hblk];rfl
 have d3:w1.cell? ⟨w.heap.size,3,none⟩=some (.slice ap q.plan.length cp):=by rw[cell_of_row _ _ 3 _ _ _ hblk];rfl
 have hqz:=hqn;unfold askV;rw[hqz];obtain⟨rm,hrmE⟩:∃ rm,rm=Zbn n:=⟨_,rfl⟩;have HRME:=Hd hrmE;have HRM:=Hd (fun W=>Zuf n (by omega) W);rw[<- hrmE] at HRM hrm;clear h hsm hQ hw1 hblk hrmE hqn hqz;have HNEW:=Hd (Zsl (K:=K) n rm w1.drew (by omega) hrm.1 hrm.2)
 go_enter Tryz.func17,Tryz.ntmps17
 go_upto_region 1 with fail;rw[HW1.out];refine Zap (fun W:World=>W.cell? ⟨w.heap.size,0,none⟩=some (.int .i64 (n:Nat))/\True) false 11 [(0,false),(1,false),(2,false),(3,false),(4,true),(5,true),(6,false),(7,false),(8,false),(9,false),(10,false)] (by kernel_rfl) (by kernel_rfl) ⟨d0,trivial⟩ ?_;simp only[planned,Zdi]
 iterate 4
  refine Zaq rfl ?_;apply Exists.intro;refine⟨fun w' hw=>?_,?_⟩
  ·
   obtain⟨h1,_⟩:=hw;go_simp;rfl
  simp only[Zaf]
 refine Zca (R:=fun v w'=>v=.int .i64 (rm:Nat)/\w'=w1.drew) rfl (by go_simp) ((HRM.out _).mono (fun e w' he=>?_)) ?_
 ·
  obtain⟨rfl,rfl⟩:=he;exact⟨_,rfl,⟨d0,trivial⟩,rfl,rfl⟩
 rintro v w'-⟨rfl,rfl⟩;simp only[Zaf];refine Zca (R:=fun v w'=>∃ mb,v=.tuple #[.pointer (some ⟨mb,0,none⟩),.int .i64 0]/\∃ o m V,SatE K n (fun _=>True) rm w1.drew mb two 2 w' o m V/\m.waits=[]/\m.calls=0/\m.d.pool.many=0) rfl (by go_simp) (HNEW.out.mono (fun e w' he=>?_)) ?_
 ·
  obtain⟨mb,rfl,o,m,V,hst,hrest⟩:=he;exact⟨_,rfl,⟨(hst.chg.below0.cell (p:=⟨w.heap.size,0,none⟩) (Zaa (w:=w1.drew) d0)).trans d0,trivial⟩,mb,rfl,o,m,V,hst,hrest⟩
 rintro v w2-⟨mb,rfl,o,m,V,hst,hwt,hcl,hmn⟩;simp only[Zaf]
 iterate 5
  refine Zaq rfl ?_;apply Exists.intro;refine⟨fun w' hw=>?_,?_⟩
  ·
   obtain⟨h1,_⟩:=hw;go_simp;rfl
  simp only[Zaf]
 refine Ze3 ?_;obtain⟨wb,hwb⟩:∃ wb,wb=w1.drew:=⟨_,rfl⟩;rw[<- hwb] at hst;have HBW:Hid (Below w.heap.size w wb):=Hd (by rw[hwb];exact HB1.out.trans ((Zag w1 1).mono HB1.out.size));have c0:wb.cell? ⟨w.heap.size,0,none⟩=some (.int .i64 (n:Nat)):=by rw[hwb];exact d0
 have c1:wb.cell? ⟨w.heap.size,1,none⟩=some (.slice ao q.order.length co):=by rw[hwb];exact d1
 have c2:wb.cell? ⟨w.heap.size,2,none⟩=some (.slice ae q.es.length ce):=by rw[hwb];exact d2
 have c3:wb.cell? ⟨w.heap.size,3,none⟩=some (.slice ap q.plan.length cp):=by rw[hwb];exact d3
 have hbn:w.heap.size<wb.heap.size:=Zaa c0;have HAB:=Hd (HASK.out.below HBW.out);clear hwb HNEW HRM d0 d1 d2 d3 HW1 hs1
 have HARR:=Hd (Zqv (K:=K) hst (by omega) (by rw[HRME.out];have:=Zdp (n:=n) (k:=6) (by omega);simp[two];omega) (c:=co) (HAB.out.order.below hst.chg.below0) (fun h0 x hx=>by
  obtain⟨b,off,e,hc⟩:=HAB.out.order.cells 0 h0;rw[hx] at e;cases e;exact hst.none0 (Zaa hc)) (by
  rcases Nat.eq_zero_or_pos q.order.length with h0|h0
  ·
   exact .inl h0
  ·
   have:=HSM.out.order h0;rw[HQN.out] at this;exact .inr (Zyz this)))
 have e0:=(hst.chg.below0.cell (p:=⟨w.heap.size,0,none⟩) (Zaa c0)).trans c0;have e1:=(hst.chg.below0.cell (p:=⟨w.heap.size,1,none⟩) (Zaa c1)).trans c1;have HWT:=Hd hwt;have HMN:=Hd hmn;clear hst hwt hcl hmn;go_wp2_with fail;refine HARR.out.mono ?_;rintro y w3 ⟨rfl,o3,m3,V3,hst3,hwt3,hcl3,hc3,hmn3⟩;have HI0:Hid (SetI K q n wb mb 0 (.slice none 0 0) (.slice none 0 0) w3):=Hd ⟨[],2,rfl,by omega,o3,m3,V3,⟨by rw[HRME.out] at hst3;exact hst3,Yaa,⟨by rw[hwt3,HWT.out],trivial⟩,⟨Zsq _ _ _,fun k hk=>by cases hk⟩,⟨⟨[],rfl,Zsq _ _ _,fun i v hv=>by simp at hv⟩,fun k hk=>by cases hk⟩⟩,by have:=HMN.out;simp[two] at hmn3;omega⟩;have f2:=(hst3.chg.below0.cell (p:=⟨w.heap.size,2,none⟩) (Zaa c2)).trans c2;clear hst3 hwt3 hcl3 hc3 hmn3 HARR e0 e1;go_wp2_with fail
 go_loopw [8,9,40] (fun s8 s9 s40 wr=>∃ j:Nat,j<=q.es.length/\s40=.int .i64 j/\Hid (SetI K q n wb mb j s8 s9 wr)) (fun _ _ s40 _=>q.es.length-(intOf s40).toNat)
 case atStart=>exact⟨0,Nat.zero_le _,rfl,HI0⟩
 case round =>
  clear HI0 f2
  rename World=>wy
  obtain⟨j,hj,rfl,HI⟩:=hrel;obtain⟨hs,nx,hsnd,hnx,hle⟩:=HI.out;obtain⟨o0,m0,V0,hle0,hmn0⟩:=hle;have HLE:Hid (∃ o m V,LawT K n (OrdP q.order) (Zbn n) wb mb (two++hs) nx (fun ws c=>ws=[]/\True) hs hs wy o m V u8 u9/\m.d.pool.many<=2*2^n+j*(39*2^n+1)):=Hd ⟨o0,m0,V0,hle0,hmn0⟩;have hle1:=hle0.below0;have HLB0:=Hd hle1;have HSND:=Hd hsnd;have hhl:hs.length=j:=by have:=congrArg List.length hsnd;simpa [Nat.min_eq_left hj] using this
  clear HI hsnd hle0 hmn0 hle1 o0 m0 V0
  by_cases hlt:j<q.es.length
  ·
   have hjz:(j:Int)<q.es.length:=by omega
   have hb0:=HLB0.out;obtain⟨b,off,x0,x1,x2,ea,k0,k1,k2,hx⟩:=HAB.out.es.cells j hlt;subst ea;obtain⟨zo,zv,za,zn,zc,rfl,rfl,rfl⟩:=hx.parts;have HEX:=Hd (HSM.out.expr _ (List.getElem_mem hlt));have hsz40:=HEX.out.1;have hsz1:=ExT.size_pos q.es[j];obtain⟨e,he⟩:∃ e,e=q.es[j]:=⟨_,rfl⟩;rw[<- he] at hx HEX hsz40 hsz1;have HX:=Hd hx;have q0:=(hb0.cell (p:=⟨b,off+j*3,none⟩) (Zaa k0)).trans k0;have q1:=(hb0.cell (p:=⟨b,off+j*3+1,none⟩) (Zaa k1)).trans k1;have q2:=(hb0.cell (p:=⟨b,off+j*3+2,none⟩) (Zaa k2)).trans k2;have HTK:Hid ((q.es.take (j+1)).map fnT=(q.es.take j).map fnT++[fnT e]):=Hd (by rw[List.take_succ_eq_append_getElem hlt,List.map_append,he];rfl);obtain⟨wz,hwz⟩:∃ wz,wz=wy.alloc (.cells #[.int .i64 zo,.int .i64 zv,.slice za zn zc] 86):=⟨_,rfl⟩;have HWZ:Hid (_=wz):=Hd hwz.symm;have hbz:Below wy.heap.size wy wz:=by rw[hwz];exact Zad _ _
   have hblk:wz.heap[wy.heap.size]?=some (.cells #[.int .i64 zo,.int .i64 zv,.slice za zn zc] 86 (0,0)):=by rw[hwz];exact heap_alloc_new _ _
   have p0:wz.cell? ⟨wy.heap.size,0,none⟩=some (.int .i64 zo):=by rw[cell_of_row _ _ 0 _ _ _ hblk];rfl
   have p1:wz.cell? ⟨wy.heap.size,1,none⟩=some (.int .i64 zv):=by rw[cell_of_row _ _ 1 _ _ _ hblk];rfl
   have p2:wz.cell? ⟨wy.heap.size,2,none⟩=some (.slice za zn zc):=by rw[cell_of_row _ _ 2 _ _ _ hblk];rfl
   obtain⟨o4,m4,V4,lt0,mn4⟩:=HLE.out;have lt4:=lt0.below hbz;have n4:o4 wy.heap.size=none:=lt0.sat.lt.none (Nat.le_refl _);have hlk:∀ g,u8.ownBlock=some g->g<wy.heap.size:=fun g hg=>(lt0.l.own.lt g hg).2
   have hll:(two++hs).length=2+j:=by simp[two,hhl];omega
   have HCALL:=Hd (Zor hK e _ (two++hs) nx wz o4 m4 V4 _ lt4.sat ⟨lt4.st.1,mn4⟩ lt4.b2 HEX.out.2.1.valid (by have:=HEX.out.2.2;rw[HQN.out] at this;exact this) hx (by omega) (Zug hn1 hsz40 (by omega)));have HLT4:=Hd lt4;clear hb0 k0 k1 k2 hx hbz hblk hwz lt4 HLE he lt0;go_upto_region 9 with fail;rw[HWZ.out];clear q0 q1 q2;go_wp2_with fail;refine HCALL.out.mono ?_;rintro y w5 ⟨k,rfl,hk,o5,m5,V5,hc5,⟨hw5,hmn5⟩,hs5⟩;have HMN5:Hid (m5.d.pool.many<=2*2^n+(j+1)*(39*2^n+1)):=Hd (Zuh hsz40 hsz1 hmn5);have HLT5:Hid (LawT K n (OrdP q.order) (Zbn n) wb mb (two++(hs++[(k,fnT e)])) (k+1) (fun ws c=>ws=[]/\True) hs hs w5 o5 m5 V5 u8 u9):=Hd (HLT4.out.go (by rw[<- List.append_assoc];exact hs5) (Yaa.app _) ⟨hw5,trivial⟩ hc5);have r0:=hc5.cell (p:=⟨wy.heap.size,0,none⟩) p0 n4 (fun e=>e);have r1:=hc5.cell (p:=⟨wy.heap.size,1,none⟩) p1 n4 (fun e=>e);have r2:=hc5.cell (p:=⟨wy.heap.size,2,none⟩) p2 n4 (fun e=>e);have n5:=hc5.none' (Zaa p0) n4;have hsz5:wb.heap.size<=w5.heap.size:=hs5.chg.size;clear hc5 hw5 hs5 hmn5 HCALL p0 p1 p2 HLT4;go_upto_region 13 with (at_builtin;refine Zcc Znk _ rfl _ _ rfl wb.heap.size _ (Zbe (hs.map Prod.fst)) _ rfl rfl rfl rfl rfl (by exact HLT5.out.l.own) (by simp[Zbe];omega) hsz5 ?_;intro v6 w6 hown6 g1 g2 g3 g4 hk6)
   have hw6:=Zs8 g1 g2 g3 g4 hk6;have hk6':w6.heap[wy.heap.size]?=w5.heap[wy.heap.size]?:=hw6.keep _ (Zaa r0) (fun e=>by have:=hlk _ e;omega);have t0:=(World.cell?_of_block (w:=w5) (a:=⟨wy.heap.size,0,none⟩) hk6').trans r0;have t1:=(World.cell?_of_block (w:=w5) (a:=⟨wy.heap.size,1,none⟩) hk6').trans r1;have t2:=(World.cell?_of_block (w:=w5) (a:=⟨wy.heap.size,2,none⟩) hk6').trans r2;have HLT6:=Hd (HLT5.out.appL hown6 g1 g2 g3 g4 hk6 (p:=(k,fnT e)));have a0:=(HLT6.out.below0.cell (p:=⟨w.heap.size,0,none⟩) (Zaa c0)).trans c0;have HTB:=Hd (Zma e _ n (by omega) w6 (by omega) HEX.out.2.1 (HX.out.below HLT6.out.below0));clear hw6 hk6' hown6 g1 g2 g3 g4 hk6 r0 r1 r2 HLT5 hlk;go_wp2_with fail;refine HTB.out.mono ?_;rintro y w7 ⟨v7,rfl,hown7,hb7⟩;obtain⟨av,cv,rfl,_⟩:=hown7.slice;have HLB:Hid (LawB w7 o5 wb.heap.size (.slice av (Zbh (tabB n (fnT e))).length cv) (tabB n (fnT e))):=Hd (Zyl (n:=n) hown7 (by rw[Za4];exact Zlx (by omega)) HLT6.out.sat.lt HLT6.out.sat.chg.size);have HLT7:=Hd (HLT6.out.below hb7);obtain⟨rs,hrs1,hrs2,hrs3⟩:=HLT7.out.x.ex;have HR2:=Hd hrs2;have HR3:=Hd hrs3;have hrl:rs.length=hs.length:=by rw[hrs1];simp
   have hsz7:wb.heap.size<=w7.heap.size:=HLT7.out.sat.chg.size;clear hown7 hb7 hrs2 hrs3 HTB HLT6 t0 t1 t2 a0;go_upto_region 14 with (at_builtin;refine Zcc Yav _ rfl _ _ rfl wb.heap.size _ rs _ rfl rfl rfl rfl rfl (by exact HR2.out) (by omega) hsz7 ?_;intro v8 w8 hown8 g1 g2 g3 g4 hk8)
   have HLT8:=Hd (HLT7.out.appX HLB.out rfl hrl HR2.out HR3.out hown8 g1 g2 g3 g4 hk8 (p:=(k,fnT e)));have HIN:Hid (SetI K q n wb mb (j+1) v6 v8 w8):=Hd ⟨hs++[(k,fnT e)],k+1,by rw[List.map_append,HSND.out,HTK.out];rfl,by omega,o5,m5,V5,HLT8.out,HMN5.out⟩;clear hown8 g1 g2 g3 g4 hk8 HR2 HR3 HLT7 HLB HLT8;go_wp2_with fail;go_roundw
   case rel=>exact⟨j+1,by omega,by go_num,HIN⟩
   case measure=>simp[intOf];omega
  ·
   have hje:j=q.es.length:=by omega
   have hjz:¬ (j:Int)<q.es.length:=by omega
   obtain⟨o4,m4,V4,lt4,mn4⟩:=HLE.out;have HMN4:=Hd mn4;clear mn4;have e3:=(lt4.below0.cell (p:=⟨w.heap.size,3,none⟩) (Zaa c3)).trans c3;have hw4:m4.waits=[]:=lt4.st.1;have hcode:Zfb n m4.waits.length q.plan=0:=by
    rw[hw4];have:=HSM.out.planOk;rw[HQN.out] at this;exact this
   have HPL:=Hd (Zrf lt4.sat (c:=cp) (HAB.out.plan.below lt4.below0) (fun h0 x hx=>by
    obtain⟨b,off,e,hc,_⟩:=HAB.out.plan.cells 0 h0;rw[hx] at e;cases e;exact lt4.sat.none0 (Zaa hc)) (by rw[hw4];simp))
   rw[hcode] at HPL;have HLT4:=Hd lt4;have HW4:=Hd hw4;clear lt4 hw4 hcode HLE;go_wp2_with fail;refine HPL.out.mono ?_;rintro y w5 ⟨rfl,o5,m5,hpd⟩
   have HF:Hid (Q (.returned (.tuple #[.pointer (some ⟨mb,0,none⟩),u8,u9,.bool true])) w5):=Hd (by
    rw[HQ.out];refine⟨mb,u8,u9,wb,hs,nx,rfl,HBW.out,by rw[HSND.out,hje,List.take_length],by omega,o5,m5,V4,HLT4.out.go hpd.sat HLT4.out.b2 ?_ (ChgX.of_chg hpd.chg NoB),?_⟩
    rotate_left
    ·
     rw[hpd.d];exact Zy5 (by omega) HMN4.out
    have:=hpd.yes rfl;rw[HW4.out] at this;exact⟨by simpa using this.1,by simpa using this.2⟩)
   clear hpd HPL;go_wp2_with fail;refine bodyPost_ret (Zc2 rfl _ _ _) rfl ?_;exact HF.out
open Go.RowKit
theorem Zr4 (p:Prop):∃ b:Bool,b=true↔p:=by
 classical
 exact⟨decide p,by simp⟩
theorem SatE.dep {K:Law} {n:Nat} {Od:List Nat->Prop} {room:Nat} {w0 w:World} {mb:Nat} {fs:List (Int×BF)} {nx:Int} {o:Own} {m:ManD} {V:Nat->BF} (h:SatE K n Od room w0 mb fs nx w o m V) {k:Int} {F:BF} (hk:(k,F)∈fs):DepF n F:=by
 obtain⟨f,hf,rfl⟩:=h.find hk;have:=h.ok.store.dep (h.ok.handles.ok _ hf)
 rwa [h.vars] at this
theorem Zn5 {n l r:Nat} (h:l+r<=192) {k:Nat} (hk:k<=r*2^n):l*2^n+k<=Zbn n:=by
 have h1:=Zdp (n:=n) h;rw[Nat.add_mul] at h1;omega
open Go.RowKit
section
variable {K:Law} {n:Nat} {Od:List Nat->Prop} {room:Nat} {w0:World} {mb:Nat} {fs:List (Int×BF)} {nx:Int} {C:Nat->Prop} {B:World->Prop} {St:ManD->Prop} {gop:Nat} {lop:Array Value} {Q:World->ManD->(Nat->BF)->Prop} {E:Int->ManD->ManD->Prop}
end
open Go.RowKit
section
variable {K:Law} {n:Nat} {Od:List Nat->Prop} {room:Nat} {w0 w:World} {mb xb:Nat} {fs:List (Int×BF)} {nx:Int} {o:Own} {m:ManD} {V:Nat->BF}
end
open Go.RowKit
structure ArgL (fs:List (Int×BF)) (w0 w:World) (o:Own) (a:Option Addr) (ks:List Int) (Fs:List BF):Prop where
 z:Zax w a ks
 own:∀ x,a=some x->x.block<w.heap.size/\w0.heap.size<=x.block/\o x.block=none
 len:Fs.length=ks.length
 mem:∀ i (h:i<ks.length),(ks[i],Fs[i]'(by omega))∈fs
section
variable {K:Law} {n:Nat} {room:Nat} {w0 w:World} {mb:Nat} {fs:List (Int×BF)} {nx:Int} {o:Own} {m:ManD} {V:Nat->BF} {ws0:List Ev}
theorem Ybk (hK:Zci K) (h:SatE K n (fun _=>True) room w0 mb fs nx w o m V) {c:Nat} {a:Option Addr} {ks:List Int} {Fs:List BF} (hl:ArgL fs w0 w o a ks Fs) (hst:m.waits <:+ ws0) (hn:nx<=549755813888) (hr:fs.length*2^n+ks.length*(2^n-1)<=room) :
 Calls Tryz.prog 26 #[.pointer (some ⟨mb,0,none⟩),.slice a ks.length c] w (NewF K n room w0 mb fs nx ws0 (Zir andF (Zin 0) Fs) o w):=by
 have HC:=Hd (Zyc (c:=c) hK (Ycg hK) Ztj h (e0:=0) rfl hl.z hl.own hl.len hl.mem hst hn hr);clear h hK hl hst hn hr;obtain⟨P,hP⟩:∃ P,P=NewF K n room w0 mb fs nx ws0 (Zir andF (Zin 0) Fs) o w:=⟨_,rfl⟩;rw[<- hP] at HC ⊢;have HT:Hid (∀ x w',P x w'->∃ a b,x=.returned (.tuple #[.int .i64 a,.int .i64 b])):=Hd (by subst hP;rintro x w' ⟨rfl,_⟩;exact⟨_,_,rfl⟩);clear hP
 go_enter Tryz.func26,Tryz.ntmps26
 go_wp2_with fail;refine HC.out.mono ?_;intro x w' hd;obtain⟨a,b,rfl⟩:=HT.out x w' hd;have HD:=Hd hd;clear hd;go_wp2_with fail;exact HD.out
def Ya9 (k:Nat) (Fs:List BF):BF:=if k=0 then Zir andF (Zin 0) Fs else if k=1 then Zir orF (Zin 1) Fs else Zir xorF (Zin 1) Fs
end
open Go.RowKit
theorem DepF.const {n:Nat} (b:Bool):DepF n fun _=>b:=fun _ _ _=>rfl
theorem Zwp {n:Nat} {F:BF} (h:DepF n F):(∀ q,q<2^n->(tabB n F).getD q false=false)↔F=fun _=>false:=by
 constructor
 ·
  intro hq;refine Zxk h (DepF.const false) ?_;rw[<- Ziy];refine(Zrx (by simp) fun i hi=>?_).symm;have:=hq i hi;rw[Zdm hi] at this;rw[this];simp[List.getD,hi]
 ·
  rintro rfl q hq;rw[Zdm hq]
theorem Zw3 (bs:List Bool) (a:Option Addr) (c:Nat) (w:World) (h:Zbs w a bs) :
 Calls Tryz.prog 23 #[.slice a bs.length c] w fun x w'=>(∃ b:Bool,x=.returned (.bool b)/\(b=true↔∀ q,q<bs.length->bs.getD q false=false))/\Below w.heap.size w w':=by
 have H1:=Hd h;have hl:=h.len;obtain⟨L,hL⟩:∃ L,L=bs.length:=⟨_,rfl⟩;have HL:=Hd hL;rw[<- hL] at hl ⊢;obtain⟨P,hP⟩:∃ P:Ending->World->Prop,P=fun x w'=>(∃ b:Bool,x=.returned (.bool b)/\(b=true↔∀ q,q<L->bs.getD q false=false))/\Below w.heap.size w w':=⟨_,rfl⟩
 have HP:=Hd hP;rw[<- hP];clear h hL hP
 go_enter Tryz.func23,Tryz.ntmps23
 go_wp2_with fail
 go_loopw [2,3] (fun s2 s3 wr=>∃ j:Nat,j<=L/\s3=.int .i64 j/\Hid (Below w.heap.size w wr)/\Hid (∀ q,q<j->bs.getD q false=false)) (fun _ s3 _=>L-(intOf s3).toNat)
 case atStart=>exact⟨0,Nat.zero_le _,rfl,Hd (Below.refl _ _),Hd fun q hq=>by omega⟩
 case round =>
  obtain⟨j,hj,rfl,HB,HQ⟩:=hrel
  by_cases hlt:j<L
  ·
   obtain⟨b1,of1,rfl,c1⟩:=(H1.out.below HB.out).cells j (by rw[<- HL.out];exact hlt);have hjz:(j:Int)<(L:Int):=by omega
   obtain⟨y,hy⟩:∃ y,y=bs.getD j false:=⟨_,rfl⟩;rw[<- hy] at c1;have HY:=Hd hy;clear hy;cases y with
   | false =>
     have HQ2:Hid (∀ q,q<j+1->bs.getD q false=false):=Hd fun q hq=>by
      rcases Nat.lt_or_ge q j with h|h
      ·
       exact HQ.out q h
      ·
       obtain rfl:q=j:=by omega
       exact HY.out.symm
     go_wp2_with fail;go_roundw
     case rel=>exact⟨j+1,by omega,by go_num,HB,HQ2⟩
     case measure=>simp[intOf];omega
   | true =>
     have HF:Hid (P (.returned (.bool false)) wr):=Hd (by rw[HP.out];exact⟨⟨false,rfl,by simp,fun h=>by have:=h j hlt;rw[<- HY.out] at this;exact this.symm⟩,HB.out⟩);go_wp2_with fail;exact HF.out
  ·
   obtain rfl:j=L:=by omega
   have HF:Hid (P (.returned (.bool true)) wr):=Hd (by rw[HP.out];exact⟨⟨true,rfl,fun _=>HQ.out,fun _=>rfl⟩,HB.out⟩);have hjz:¬ (j:Int)<(j:Int):=by omega
   go_wp2_with fail;exact HF.out
section
variable {n:Nat} {F G:BF} {x y:Value} {w:World}
theorem Zd0 (h:DepF n F) (ht:TabA n w x F):Calls Tryz.prog 23 #[x] w fun e w'=>(∃ b:Bool,e=.returned (.bool b)/\(b=true↔F=fun _=>false))/\Below w.heap.size w w':=by
 obtain⟨a,c,rfl,h1⟩:=ht;have:=Zw3 _ a c w h1;rw[Za4] at this;refine this.mono ?_;rintro e w' ⟨⟨b,rfl,h2⟩,h3⟩;exact⟨⟨b,rfl,h2.trans (Zwp h)⟩,h3⟩
end
open Go.RowKit
theorem Zvh {k:Nat} (hk:k<256):IntKind.i64.wrap ((k:Nat):Int)=(k:Int):=by
 simp[IntKind.wrap,IntKind.bits];omega
theorem Zy0 {n:Nat} {fs:List (Int×BF)} {w:World} (hn:n<=16) (h0:(0,fun _=>false)∈fs) (h1:(1,fun _=>true)∈fs) {vl vx:Value} {hs:List (Int×BF)} {P:Nat->Prop} (hr:LawR P n fs w vl vx hs) (k:Nat) (hk:k<256) :
 Calls Tryz.prog 18 #[vl,vx,.int .i64 n,.int .u8 k] w fun x w'=>∃ a F v,x=.returned (.tuple #[.int .i64 a,v])/\(a,F)∈fs/\Zbt w' v (tabB n F)/\(∀ g,v.ownBlock=some g->P g\/w.heap.size<=g/\∃ cur,w'.heap[g]?=some (.cells cur 4 (0,0)))/\Below w.heap.size w w':=by
 obtain⟨al,cl,rfl,hl⟩:=hr.l;obtain⟨ax,cx,rfl,hx⟩:=hr.x;have hsm:=hr.small;have HSUB:=Hd hr.sub;obtain⟨L,hL⟩:∃ L,L=hs.length:=⟨_,rfl⟩;have HLL:=Hd hL;rw[<- hL] at hsm ⊢;clear hr;obtain⟨i,hi,hI⟩:∃ i,i<L+2/\Int.tmod (k:Int) ((L:Int)+2)=((i:Nat):Int):=by
  refine⟨(Int.tmod (k:Int) ((L:Int)+2)).toNat,?_,?_⟩
  ·
   have:=Int.tmod_lt_of_pos (k:Int) (show (0:Int)<(L:Int)+2 by omega);have:=Int.tmod_nonneg ((L:Int)+2) (show (0:Int)<=(k:Int) by omega);omega
  ·
   have:=Int.tmod_nonneg ((L:Int)+2) (show (0:Int)<=(k:Int) by omega);omega
 have hcv:=Zvh hk;have hne:(((L:Int)+2) == 0)=false:=by simp;omega
 by_cases hz:L<=i
 ·
  have hiz:(i:Int)>=(L:Int):=by omega
  obtain⟨b,hb⟩:∃ b:Bool,b=decide ((i:Int)>(L:Int)):=⟨_,rfl⟩;have hmem:(((i:Int)-(L:Int)),fun _=>b)∈fs:=by
   rcases(show i=L\/i=L+1 by omega) with rfl|rfl
   ·
    rw[hb,decide_eq_false (by omega),Int.sub_self];exact h0
   ·
    rw[hb,decide_eq_true (by omega),show ((L+1:Nat):Int)-(L:Int)=1 by omega];exact h1
  have HM:=Hd hmem;have HC:=Hd (Zqb b n hn w);have hp:2^n<=65536:=Nat.pow_le_pow_right (by omega) hn;have hgt:decide ((i:Int)>(L:Int))=b:=hb.symm;have hgt2:decide ((L:Int)<(i:Int))=b:=hb.symm;have hgt3:decide (L<i)=b:=by rw[hb];simp
  obtain⟨D,hD⟩:∃ D,D=(i:Int)-(L:Int):=⟨_,rfl⟩;have hwr:IntKind.i64.wrap ((i:Int)-(L:Int))=D:=by
   rw[hD];simp[IntKind.wrap,IntKind.bits];omega
  have HD:=Hd hD;clear hL hl hx h0 h1 hmem hb hz hD
  go_enter Tryz.func18,Tryz.ntmps18
  go_wp2_with fail;refine HC.out.mono ?_;rintro x w1 ⟨g,rfl,hown,hb⟩;have HF:Hid (∃ a F v,Ending.returned (.tuple #[.int .i64 D,.slice (some ⟨g,0,none⟩) (2^n) (2^n)])=.returned (.tuple #[.int .i64 a,v])/\(a,F)∈fs/\Zbt w1 v (tabB n F)/\(∀ g,v.ownBlock=some g->P g\/w.heap.size<=g/\∃ cur,w1.heap[g]?=some (.cells cur 4 (0,0)))/\Below w.heap.size w w1) :=
   Hd ⟨_,fun _=>b,_,rfl,by rw[HD.out];exact HM.out,hown.boolsIs (by rw[Za4];omega),fun q hq=>.inr ⟨by cases hq;exact(hown.lt g rfl).1,hown.typed q hq⟩,hb⟩
  clear hown hb HC HM;go_wp2_with fail
  go_ret2
  exact HF.out
 ·
  have hil:i<L:=by omega
  have hiz:¬ (i:Int)>=(L:Int):=by omega
  obtain⟨b1,of1,rfl,c1⟩:=hl.cells i (by simp;omega);obtain⟨b2,of2,v2,rfl,c2,hv2,hp2⟩:=hx.cells i (by simp;omega);have hil2:i<hs.length:=by omega
  have q1:at0 (hs.map Prod.fst) i=hs[i].1:=by rw[Zce (by simpa using hil2)];simp
  have q2:(hs.map fun p=>tabB n p.2).getD i []=tabB n hs[i].2:=by simp[List.getD,hil2]
  rw[q1] at c1;rw[q2] at hv2;have HF:Hid (∀ w',Below w.heap.size w w'->∃ a F v,Ending.returned (.tuple #[.int .i64 hs[i].1,v2])=.returned (.tuple #[.int .i64 a,v])/\(a,F)∈fs/\Zbt w' v (tabB n F)/\(∀ g,v.ownBlock=some g->P g\/w.heap.size<=g/\∃ cur,w'.heap[g]?=some (.cells cur 4 (0,0)))/\Below w.heap.size w w') :=
   Hd fun w' hb=>⟨hs[i].1,hs[i].2,v2,rfl,HSUB.out _ (List.getElem_mem hil2),hv2.below hb,fun g hg=>.inl (hp2 g hg),hb⟩
  obtain⟨k1,hk1⟩:∃ k1,k1=hs[i].1:=⟨_,rfl⟩;rw[<- hk1] at c1 HF;clear hL hl hx hv2 hp2 q1 q2 hk1 hz hil2 h0 h1
  go_enter Tryz.func18,Tryz.ntmps18
  go_upto_region 4 with fail;refine Zap (fun W:World=>W.cell? ⟨b1,of1+i,none⟩=some (.int .i64 k1)/\W.cell? ⟨b2,of2+i,none⟩=some v2) false 10 [(0,false),(1,false),(2,false),(3,false),(4,false),(5,false),(6,false),(7,false),(8,false),(9,false)] (by kernel_rfl) (by kernel_rfl) ⟨c1,c2⟩ ?_;simp only[planned,Zdi]
  iterate 10
   refine Zaq rfl ?_;apply Exists.intro;refine⟨fun w' hw=>?_,?_⟩
   ·
    obtain⟨h1,h2⟩:=hw;go_simp;rfl
   simp only[Zaf]
  refine Ze3 ?_;go_wp2_with fail
  go_ret2
  exact HF.out _ (Zag w 1)
section
variable {K:Law} {n:Nat} {Od:List Nat->Prop} {room:Nat} {w0:World} {mb:Nat} {fs:List (Int×BF)} {nx:Int} {Wt:List Ev->Int->Prop} {hs:List (Int×BF)} {W:World} {o:Own} {m:ManD} {V:Nat->BF} {vl vx:Value}
theorem Zf8 (h:LawT K n Od room w0 mb fs nx Wt hs hs W o m V vl vx) (hsub:∀ p∈hs,p∈fs) (hn:n<=16) (hl:hs.length<=100) (k:Nat) (hk:k<256) :
 Calls Tryz.prog 18 #[vl,vx,.int .i64 n,.int .u8 k] W fun x w'=>∃ a F v,x=.returned (.tuple #[.int .i64 a,v])/\(a,F)∈fs/\LawF w' o v (tabB n F)/\Below W.heap.size W w':=by
 refine(Zy0 hn h.b2.zero h.b2.one (h.row hsub (by omega)) k hk).mono ?_;rintro x w' ⟨a,F,v,rfl,h1,h2,h3,h4⟩;refine⟨a,F,v,rfl,h1,⟨h2,fun g hg=>?_⟩,h4⟩;rcases h3 g hg with ⟨_,h6,h7,cur,h8⟩|⟨h5,cur,h6⟩
 ·
  exact⟨Nat.lt_of_lt_of_le h6 h4.size,h7,cur,(h4.block g h6).trans h8⟩
 ·
  exact⟨(Array.getElem?_eq_some_iff.1 h6).1,h.sat.lt.none h5,cur,h6⟩
end
open Go.RowKit
section
variable {P:Program} {ops:Array Oper} {S:World->Prop} {Q:Exit->Act->World->Prop} {last:Bool}
end
section
variable {K:Law} {n:Nat} {Od:List Nat->Prop} {room:Nat} {w0:World} {mb:Nat} {fs hs hl hx:List (Int×BF)} {nx:Int} {Wt:List Ev->Int->Prop} {W w w':World} {o o':Own} {m m':ManD} {V V':Nat->BF} {vl vx:Value}
end
open Go.RowKit
section
variable {K:Law} {n:Nat} {room:Nat} {w0 w w':World} {mb:Nat} {fs:List (Int×BF)} {nx:Int} {o:Own} {m:ManD} {V:Nat->BF} {ws0:List Ev}
theorem Zxq (hK:Zci K) (h:SatE K n (fun _=>True) room w0 mb fs nx w o m V) (hw:m.waits <:+ ws0) (hn:nx<=549755813888) (hr:(fs.length+1)*2^n<=room) {v:Nat} (hv:v<n) :
 Calls Tryz.prog 20 #[.pointer (some ⟨mb,0,none⟩),.int .i64 v] w fun x w''=>x=.returned (.tuple #[.int .i64 nx,.int .i64 0])/\Goes K n (fun _=>True) room w0 mb (fs++[(nx,varF v)]) (nx+1) (W2 (SufW ws0)) o w w'':=by
 refine(Zmu hK h ws0 hw none (fun _ e=>by cases e) (fun _ e=>by cases e) (fun ev _=>Zhf hn ev) (by omega) v hv).mono ?_;rintro x w'' hp;obtain⟨o2,m2,V2,q1,q2,q3,q4⟩:=Zp1 hp Nat.one_le_two_pow hr;exact⟨q3,o2,m2,V2,q1,q2,q4⟩
end
open Go.RowKit
def StF (K:Law) (n room:Nat) (w0:World) (mb:Nat) (fs:List (Int×BF)) (nx:Int) (ws0:List Ev) (rs:List (Value×BF)) (W:World):Prop:=∃ o m V,m.waits <:+ ws0/\SatE K n (fun _=>True) room w0 mb fs nx W o m V/\∀ p∈rs,LawF W o p.1 (tabB n p.2)
section
variable {K:Law} {n room:Nat} {w0 w W w':World} {mb:Nat} {fs fs':List (Int×BF)} {nx nx':Int} {o:Own} {m:ManD} {V:Nat->BF} {ws0:List Ev} {rs:List (Value×BF)} {f:Nat} {args:Array Value}
theorem StF.below (h:StF K n room w0 mb fs nx ws0 rs w) (hb:Below w.heap.size w w'):StF K n room w0 mb fs nx ws0 rs w':=by
 obtain⟨o,m,V,h1,h2,h3⟩:=h;exact⟨o,m,V,h1,h2.below hb,fun p hp=>(h3 p hp).chg (Zb3 hb o)⟩
theorem StF.below0 (h:StF K n room w0 mb fs nx ws0 rs w):Below w0.heap.size w0 w:=by
 obtain⟨o,m,V,h1,h2,_⟩:=h;exact h2.chg.below0
theorem StF.go {R:Ending->Prop} (h:StF K n room w0 mb fs nx ws0 rs w) (hc:∀ o m V,m.waits <:+ ws0->SatE K n (fun _=>True) room w0 mb fs nx w o m V->Calls Tryz.prog f args w fun x w'=>R x/\Goes K n (fun _=>True) room w0 mb fs' nx' (W2 (SufW ws0)) o w w') :
 Calls Tryz.prog f args w fun x w'=>R x/\StF K n room w0 mb fs' nx' ws0 rs w':=by
 obtain⟨o,m,V,h1,h2,h3⟩:=h;refine(hc o m V h1 h2).mono ?_;rintro x w' ⟨q1,o',m',V',q2,q3,q4⟩;exact⟨q1,o',m',V',q3,q4,fun p hp=>(h3 p hp).chg q2⟩
theorem StF.ask {R:Ending->World->Prop} (h:StF K n room w0 mb fs nx ws0 rs w) (hc:∀ o m V,SatE K n (fun _=>True) room w0 mb fs nx w o m V->Calls Tryz.prog f args w R):Calls Tryz.prog f args w R:=by
 obtain⟨o,m,V,_,h2,_⟩:=h;exact hc o m V h2
theorem StF.tab (h:StF K n room w0 mb fs nx ws0 rs w) {r:Value} {F:BF} (hp:(r,F)∈rs):TabA n w r F:=by
 obtain⟨o,m,V,_,_,h3⟩:=h;exact(h3 _ hp).tab
theorem StF.dep (h:StF K n room w0 mb fs nx ws0 rs w) {k:Int} {F:BF} (hk:(k,F)∈fs):DepF n F:=by
 obtain⟨o,m,V,_,h2,_⟩:=h;exact h2.dep hk
theorem StF.of (hw:m.waits <:+ ws0) (h:SatE K n (fun _=>True) room w0 mb fs nx w o m V) (hr:∀ p∈rs,LawF w o p.1 (tabB n p.2)):StF K n room w0 mb fs nx ws0 rs w:=⟨o,m,V,hw,h,hr⟩
theorem Zjk (h:StF K n room w0 mb fs nx ws0 rs w) {k l:Int} {F G:BF} {b:Bool} (hf:(k,F)∈fs) (hg:(l,G)∈fs) (hb:b=true↔F=G):Calls Tryz.prog 22 #[.pointer (some ⟨mb,0,none⟩),.int .i64 k,.int .i64 l] w fun x w'=>x=.returned (.tuple #[.bool b,.int .i64 0])/\w=w' :=
 h.ask fun o m V hs=>(Zld hs hf hg).mono fun x w' ⟨b',q1,q2,q3⟩=>by
  obtain rfl:b'=b:=Bool.eq_iff_iff.2 (q2.trans hb.symm);exact⟨q1,q3⟩
end
open Go.RowKit
section
variable {K:Law} {n:Nat} {Od:List Nat->Prop} {room:Nat} {w0:World} {mb:Nat} {fs:List (Int×BF)} {nx:Int} {Wt:List Ev->Int->Prop} {hs:List (Int×BF)} {W:World} {o:Own} {m:ManD} {V:Nat->BF} {vl vx:Value}
end
section
variable {K:Law} {n room:Nat} {w0 w W w':World} {mb:Nat} {fs fs':List (Int×BF)} {nx nx':Int} {o:Own} {m:ManD} {V:Nat->BF} {ws0:List Ev} {rs:List (Value×BF)} {f:Nat} {args:Array Value}
theorem Zxx (h:SatE K n (fun _=>True) room w0 mb fs nx w o m V) {ks:List Int} {Fs:List BF} (hl:ks.length<=1000000) (hlen:Fs.length=ks.length) (hm:∀ i (h:i<ks.length),(ks[i],Fs[i]'(by omega))∈fs):ArgL fs w0 (w.alloc (.cells (Zbe ks).toArray 3)) o (some ⟨w.heap.size,0,none⟩) ks Fs :=
 ⟨Zec w ks hl,fun x hx=>by cases hx;exact⟨by simp,h.chg.size,h.lt.none (Nat.le_refl _)⟩,hlen,hm⟩
end
open Go.RowKit
section
variable {K:Law} {n:Nat} {room:Nat} {w0:World} {fs:List (Int×BF)} {nx:Int} {o o':Own} {w w':World} {mb:Nat} {m m':ManD} {V V':Nat->BF} {ws0:List Ev} {k:Int} {G:BF}
end
open Go.RowKit
section
variable {K:Law} {n:Nat} {room:Nat} {w0:World} {fs:List (Int×BF)} {nx:Int} {o o':Own} {w w':World} {mb:Nat} {m m':ManD} {V V':Nat->BF} {ws0:List Ev} {k:Int} {G:BF}
end
open Go.RowKit
section
variable {K:Law} {n:Nat} {room:Nat} {w0:World} {fs:List (Int×BF)} {nx:Int} {o o':Own} {w w':World} {mb:Nat} {m m':ManD} {V V':Nat->BF} {ws0:List Ev} {k:Int} {G:BF}
end
open Go.RowKit
section
variable {K:Law} {n room:Nat} {w0 w:World} {mb:Nat} {fs:List (Int×BF)} {nx:Int} {ws0:List Ev} {rs:List (Value×BF)}
theorem StF.left (h:StF K n room w0 mb fs nx ws0 rs w) (q:Nat) (hq:q<=1000000) (hl:fs.length=q+2):Calls Tryz.prog 30 #[.pointer (some ⟨mb,0,none⟩),.int .i64 q] w fun x w'=>x=.returned (.bool true)/\w=w' :=
 h.ask fun o m V hs=>(Zsi hs q hq).mono fun e w' ⟨h1,h2⟩=>⟨by rw[h1,decide_eq_true hl],h2⟩
end
open Go.RowKit
theorem Zi7:∀ (l:List Nat) {F C:BF},SatF C->Dp l C->(∀ ρ,C ρ=true->F ρ=true)->∀ ρ,constrF l F C ρ=true
 | [],F,C,⟨ρ',h⟩,hd,hi,ρ=>hi ρ (by rw[<- h];exact hd ρ ρ' fun u hu=>by simp at hu)
 | v::l,F,C,hs,hd,hi,ρ=>Zi7 l (Zng hs v _) (hd.cof _) (fun ρ' h=>by
  rw[Zf0] at h ⊢;exact hi _ h) ρ
def Zr1 (n:Nat) (ord:List Nat):Prop:=∀ v,v<n->v∈ord
section
variable {K:Law} {n room:Nat} {w0 w W w':World} {mb:Nat} {fs fs':List (Int×BF)} {nx nx':Int} {o:Own} {m:ManD} {V:Nat->BF} {ws0:List Ev} {rs:List (Value×BF)} {f:Nat} {args:Array Value} {A:List Nat->BF->Prop}
theorem SatE.ordAll {Od:List Nat->Prop} (h:SatE K n Od room w0 mb fs nx w o m V):Zr1 n m.d.vars:=fun v hv=>by
 have hl:=h.ok.store.dag.lt v (by rw[h.vars];exact hv);have h5:=h.ok.store.inv v (by rw[h.vars];exact hv);rw[<- h5,show m.d.vars.getD (levN m.d v) 0=m.d.vars[levN m.d v] by simp[List.getD,hl]];exact List.getElem_mem _
theorem StF.goA (h:StF K n room w0 mb fs nx ws0 rs w) (hc:∀ o m V,m.waits <:+ ws0->SatE K n (fun _=>True) room w0 mb fs nx w o m V->Calls Tryz.prog f args w (NewA K n room w0 mb fs nx ws0 A o w)) :
 Calls Tryz.prog f args w fun x w'=>x=.returned (.tuple #[.int .i64 nx,.int .i64 0])/\∃ F ord,A ord F/\Zr1 n ord/\StF K n room w0 mb (fs++[(nx,F)]) (nx+1) ws0 rs w':=by
 obtain⟨o,m,V,h1,h2,h3⟩:=h;refine(hc o m V h1 h2).mono ?_;rintro x w' ⟨q1,F,o',m',V',q2,q3,q4,q5⟩;exact⟨q1,F,m'.d.vars,q5,q4.ordAll,o',m',V',q3,q4,fun p hp=>(h3 p hp).chg q2⟩
theorem StF.constrain (h:StF Za2 n room w0 mb fs nx ws0 rs w) (h0:(0,fun _=>false)∈fs) {kf kc:Int} {F C:BF} (hf:(kf,F)∈fs) (hc:(kc,C)∈fs) (hsat:SatF C) (hn:nx<=549755813888) (hr:fs.length*2^n+(2^n-1)*2^n<=room) :
 Calls Tryz.prog 24 #[.pointer (some ⟨mb,0,none⟩),.int .i64 kf,.int .i64 kc] w fun x w'=>x=.returned (.tuple #[.int .i64 nx,.int .i64 0])/\∃ R ord,RelC ord F C R/\Zr1 n ord/\StF Za2 n room w0 mb (fs++[(nx,R)]) (nx+1) ws0 rs w' :=
 h.goA fun o m V hw hs=>Zgf hs h0 hf hc hsat hw hn hr
theorem StF.restrict (h:StF Za2 n room w0 mb fs nx ws0 rs w) (h0:(0,fun _=>false)∈fs) {kf kc:Int} {F C:BF} (hf:(kf,F)∈fs) (hc:(kc,C)∈fs) (hsat:SatF C) (hn:nx<=549755813888) (hr:fs.length*2^n+(2^n-1)*2^n<=room) :
 Calls Tryz.prog 25 #[.pointer (some ⟨mb,0,none⟩),.int .i64 kf,.int .i64 kc] w fun x w'=>x=.returned (.tuple #[.int .i64 nx,.int .i64 0])/\∃ R ord,RelR ord F C R/\Zr1 n ord/\StF Za2 n room w0 mb (fs++[(nx,R)]) (nx+1) ws0 rs w' :=
 h.goA fun o m V hw hs=>Zk0 hs h0 hf hc hsat hw hn hr
theorem StF.cofactor1 (h:StF Za2 n room w0 mb fs nx ws0 rs w) (hn6:n<=64) {kf:Int} {F:BF} (hf:(kf,F)∈fs) {v:Nat} {y:Bool} (hv:v<n) (hn:nx<=549755813888) (hr:fs.length*2^n+(2^n+(2^n-1)*2^n)<=room) {T:World} (hT:T=w.alloc (.cells #[.int .i64 v,.bool y] 41)) :
 Calls Tryz.prog 19 #[.pointer (some ⟨mb,0,none⟩),.int .i64 kf,.slice (some ⟨w.heap.size,0,none⟩) 1 1] T fun x w'=>x=.returned (.tuple #[.int .i64 nx,.int .i64 0])/\StF Za2 n room w0 mb (fs++[(nx,cofF F v y)]) (nx+1) ws0 rs w':=by
 subst hT;have hb:=Zad w (.cells #[.int .i64 v,.bool y] 41);have hblk:=heap_alloc_new w (.cells #[.int .i64 v,.bool y] 41);obtain⟨o,m,V,h1,h2,h3⟩:=h;have hok:Zet n [((v:Int),y)]=0:=by
  unfold Zet;rw[if_pos (by intro p hp;simp at hp;subst hp;dsimp only;omega),if_pos (by simp)]
 refine(Ze0 (ls:=[((v:Int),y)]) (h2.below hb) hn6 hf (c:=1) ⟨by simp,fun k hk=>?_⟩ (fun _ x hx=>by cases hx;exact h2.lt.none (Nat.le_refl _)) h1 hn (fun _=>by simpa using hr)).mono ?_
 ·
  obtain rfl:k=0:=by simpa using hk
  exact⟨w.heap.size,0,rfl,by rw[cell_of_row _ _ 0 _ _ _ hblk];rfl,by rw[cell_of_row _ _ 1 _ _ _ hblk];rfl⟩
 ·
  rintro x w' ⟨hx,_⟩;obtain⟨q1,o',m',V',q2,q3,q4⟩:=hx hok;refine⟨q1,o',m',V',q3,?_,fun p hp=>((h3 p hp).chg (Zb3 hb o)).chg q2⟩;have e:Zcm [((v:Int),y)] F=cofF F v y:=by
   have:=Zhk [] ((v:Int),y) F;rw[List.nil_append] at this;rw[this]
   show cofF (Zcm [] F) ((v:Int)).toNat y=_
   rw[Int.toNat_natCast];rfl
  rw[<- e];exact q4
theorem StF.and (hK:Zci K) (h:StF K n room w0 mb fs nx ws0 rs w) {k1 k2:Int} {F1 F2:BF} (h1:(k1,F1)∈fs) (h2:(k2,F2)∈fs) (hn:nx<=549755813888) (hr:fs.length*2^n+2*(2^n-1)<=room) {T:World} (hT:T=w.alloc (.cells #[.int .i64 k1,.int .i64 k2] 3)) :
 Calls Tryz.prog 26 #[.pointer (some ⟨mb,0,none⟩),.slice (some ⟨w.heap.size,0,none⟩) 2 2] T fun x w'=>x=.returned (.tuple #[.int .i64 nx,.int .i64 0])/\StF K n room w0 mb (fs++[(nx,andF F1 F2)]) (nx+1) ws0 rs w':=by
 subst hT;have hb:=Zad w (.cells #[.int .i64 k1,.int .i64 k2] 3);obtain⟨o,m,V,q1,q2,q3⟩:=h
 have ha:=Zxx q2 (ks:=[k1,k2]) (Fs:=[F1,F2]) (by simp) rfl (fun i hi=>by
  rcases(show i=0\/i=1 by simp at hi;omega) with rfl|rfl
  ·
   exact h1
  ·
   exact h2)
 refine(Ybk (c:=2) hK (q2.below hb) ha q1 hn hr).mono ?_;rintro x w' ⟨r1,o',m',V',r2,r3,r4⟩;refine⟨r1,o',m',V',r3,?_,fun p hp=>((q3 p hp).chg (Zb3 hb o)).chg r2⟩;have e:Ya9 0 [F1,F2]=andF F1 F2:=by
  funext ρ
  show iteB (iteB true (F1 ρ) false) (F2 ρ) false=iteB (F1 ρ) (F2 ρ) false
  cases F1 ρ<;>cases F2 ρ<;>rfl
 rw[<- e];exact r4
end
end Go.Proofs.YtmofaapnkidioaaGreat
