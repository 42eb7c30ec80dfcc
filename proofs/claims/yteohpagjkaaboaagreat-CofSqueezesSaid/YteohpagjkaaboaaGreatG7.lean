/- Several texts in one file: contracts of the program's functions and what follows from them. -/
import Derived.Test.YteohpagjkaaboaaGreatG6
import Derived.Deep.CutBlock
set_option linter.unusedSimpArgs false
set_option linter.unusedVariables false
set_option linter.unusedSectionVars false
set_option linter.unnecessarySimpa false
set_option maxRecDepth 100000
set_option maxHeartbeats 8000000
namespace Go.Proofs.YteohpagjkaaboaaGreat
open Go.Proofs.Tryz
open Go.RowKit
theorem Zjs (args:Array Value)(w:World):(callFunc 67 args).run prog w=.ok (.enter 67 args) w:=enters_of func67 (by kernel_rfl) rfl args w
theorem Zj6 (args:Array Value)(w:World):(callFunc 96 args).run prog w=.ok (.enter 96 args) w:=enters_of func96 (by kernel_rfl) rfl args w
theorem Zi6 (args:Array Value)(w:World):(callFunc 69 args).run prog w=.ok (.enter 69 args) w:=enters_of func69 (by kernel_rfl) rfl args w
def Yc4 (ord:List Nat)(op:Int)(A B _C R:BF):Prop:=SatF B->(op=1700\/op=1701->RelC ord A B R)/\(op=1702->RelR ord A B R)
def Za5:Law:=Zh7 Yc4
theorem Zb1:Zb4 Za5:=Zuy Yc4
theorem Ydn {op:Int}(h:op=1700\/op=1701):Zvc Za5 op RelC:=fun d V a b r=>by
 unfold Za5;rw[Zlr (by omega)];constructor
 . rintro⟨q1,q2,_,q3,q4⟩;exact⟨q1,q2,q3,fun hs=>(q4 hs).1 h⟩
 . rintro⟨q1,q2,q3,q4⟩;exact⟨q1,q2,.inl rfl,q3,fun hs=>⟨fun _=>q4 hs,fun e=>by omega⟩⟩
theorem Yd4:Zvc Za5 1702 RelR:=fun d V a b r=>by
 unfold Za5;rw[Zlr (by omega)];constructor
 . rintro⟨q1,q2,_,q3,q4⟩;exact⟨q1,q2,q3,fun hs=>(q4 hs).2 rfl⟩
 . rintro⟨q1,q2,q3,q4⟩;exact⟨q1,q2,.inl rfl,q3,fun hs=>⟨fun e=>by omega,fun _=>q4 hs⟩⟩
section
variable {K:Law}{n k:Nat}{Od:List Nat->Prop}{room:Nat}{w0:World}{fs:List (Int×BF)}{nx:Int}{o o':Own}{w w1 W:World}{mb xb:Nat}{m:ManD}{V:Nat->BF}{ws0:List Ev}
theorem Zs5:AtOK K n (fun _ _=>False) xb mb (fun _=>True) (fun _=>False) 67 #[]:=by
 intro o W m V v f0 f1 c0 c1 hm g0 hx hk hn _ _ h0 h1 h2 h3;obtain⟨P,hP⟩:∃ P:Ending->World->Prop,P=fun e w'=>(∃ (r:Nat) (ok:Bool) (o':Own) (m':ManD) (V':Nat->BF),e=.returned (.tuple #[.int .i64 r,.bool ok])/\AtC K (2^n-1) o W mb m V o' w' m' V'/\(ok=true->False/\okE (Zaa m'.d) r/\∀ ρ,ef V' r ρ=(ef V c0 ρ||ef V c1 ρ))/\(ok=false->¬ False)) \/
  (∃ er evt ev,e=Zbg er evt ev/\Zko K (2^n-1) o W mb m V er evt ev w'):=⟨_,rfl⟩
 have HF:Hid (P (.returned (.tuple #[.int .i64 0,.bool false])) W):=Hd (by
  rw[hP];exact .inl ⟨0,false,o,m,V,rfl,(AtC.refl hm g0 hk).mono (Nat.zero_le _),(fun e=>by cases e),(fun _ e=>e)⟩)
 show Calls _ _ #[_,_,_,_,_] _ _
 rw[<- hP];clear hP hm g0 hx hk hn h0 h1 h2 h3
 go_enter func67,ntmps67
 go_wp2_with fail;exact HF.out
theorem Zz0 (hK:Zb4 K){bx:Nat}:AtOK K n (fun F0 F1=>F0=F1) xb mb (fun W=>W.cell? ⟨bx,0,none⟩=some (.pointer (some ⟨xb,0,none⟩))) (fun q=>q=bx) 96 #[.pointer (some ⟨bx,0,none⟩)]:=by
 intro o W m V v f0 f1 c0 c1 hm g1 hx hk hn cb _ h0 h1 h2 h3;obtain⟨P,hP⟩:∃ P:Ending->World->Prop,P=fun e w'=>(∃ (r:Nat) (ok:Bool) (o':Own) (m':ManD) (V':Nat->BF),e=.returned (.tuple #[.int .i64 r,.bool ok])/\AtC K (2^n-1) o W mb m V o' w' m' V'/\(ok=true->ef V f0=ef V f1/\okE (Zaa m'.d) r/\∀ ρ,ef V' r ρ=(ef V c0 ρ||ef V c1 ρ))/\(ok=false->¬ ef V f0=ef V f1)) \/
  (∃ er evt ev,e=Zbg er evt ev/\Zko K (2^n-1) o W mb m V er evt ev w'):=⟨_,rfl⟩
 have g0:ef V f0=ef V f1↔f0=f1:=hk.dag.canon_iff h0 h1;have g2:Hid (¬ f0=f1->P (.returned (.tuple #[.int .i64 0,.bool false])) W):=Hd fun e=>by
  rw[hP];exact .inl ⟨0,false,o,m,V,rfl,(AtC.refl hm g1 hk).mono (Nat.zero_le _),(fun e=>by cases e),(fun _ h=>e (g0.1 h))⟩
 have g3:Hid (f0=f1->Calls prog 37 #[.pointer (some ⟨xb,0,none⟩),.int .i64 c0,.int .i64 (0:Nat),.int .i64 c1] W fun e w'=>(∃ r:Nat,e=.returned (.int .i64 r)/\P (.returned (.tuple #[.int .i64 r,.bool true])) w')\/(∃ er evt ev,e=Zbg er evt ev/\P (Zbg er evt ev) w')):=Hd fun e=>by
  refine(Zii hK hm g1 hx hk hn c0 0 c1 h2 (.inl rfl) h3).mono ?_;rintro x w' (⟨r,o',m',V',rfl,q1,q2,q3⟩|⟨er,evt,ev,rfl,g4⟩)
  .
   refine .inl ⟨r,rfl,?_⟩;rw[hP];refine .inl ⟨r,true,o',m',V',rfl,q1,fun _=>⟨g0.2 e,q2,fun ρ=>?_⟩,(fun e=>by cases e)⟩;rw[show ef V' r=_ from q3,show ef V 0=fun _=>true from hk.dag.ef0]
   show iteB (ef V c0 ρ) true (ef V c1 ρ)=_
   cases ef V c0 ρ<;>cases ef V c1 ρ<;>rfl
  . refine .inr ⟨er,evt,ev,rfl,?_⟩;rw[hP];exact .inr ⟨er,evt,ev,rfl,g4⟩
 show Calls _ _ #[_,_,_,_,_,_] _ _
 rw[<- hP];clear hP hm g1 hx hk hn h0 h1 h2 h3 g0 hK
 by_cases he:f0=f1
 .
  have HI:=Hd (g3.out he);have hb:(((f0:Nat):Int) != ((f1:Nat):Int))=false:=by subst he;simp
  clear g3 g2 he
  go_enter func96,ntmps96
  go_wp2_with fail;refine HI.out.mono ?_;rintro x w' (⟨r,rfl,hp⟩|⟨er,evt,ev,rfl,hp⟩)
  . have HF:=Hd hp;clear hp HI;go_wp2_with fail;exact HF.out
  . have HF:=Hd hp;clear hp HI;unfold Zbg;go_wp2_with fail;exact⟨rfl,HF.out⟩
 .
  have HF:=Hd (g2.out he);have hb:(((f0:Nat):Int) != ((f1:Nat):Int))=true:=by rw[bne_iff_ne];omega
  clear g3 g2 he
  go_enter func96,ntmps96
  go_wp2_with fail;exact HF.out
theorem Zur (hm:Zcg (Za5 m.d V) o w mb m)(hlt:Zaj o w)(hx:Zce o w xb mb)(hk:Zal m.d V)(hn:m.d.vars.length=n){f e:Nat}(hf:okE (Zaa m.d) f)(he:okE (Zaa m.d) e)(hsat:SatF (ef V e)) :
 Calls prog 46 #[.pointer (some ⟨xb,0,none⟩),.int .i64 f,.int .i64 e] w (Zbr Za5 ((2^n-1)*2^n) o w mb m V fun d V' r=>RelR d.vars (ef V f) (ef V e) (ef V' r)):=by
 have g6:∀ (fn:Fn) (first cap:Array Value) (w:World),(Instr.makeFunc fn first cap).run prog w=.ok (.func fn first cap) w:=fun _ _ _ _=>rfl
 obtain⟨w1,g3⟩:∃ w1,w1=w.alloc (.cells #[.pointer (some ⟨xb,0,none⟩)] 75):=⟨_,rfl⟩;have HW1:Hid (_=w1):=Hd g3.symm;have g4:Below w.heap.size w w1:=by rw[g3];exact Zad _ _
 have cb:w1.cell? ⟨w.heap.size,0,none⟩=some (.pointer (some ⟨xb,0,none⟩)):=by rw[g3];exact cell1 (heap_alloc_new _ _)
 have g1:AtC Za5 0 o w mb m V o w1 m V:=(AtC.refl hm hlt hk).below g4;obtain⟨N,hN⟩:∃ N,N=(2^n-1)*2^n:=⟨_,rfl⟩;obtain⟨P,hP⟩:∃ P:Ending->World->Prop,P=Zbr Za5 N o w mb m V fun d V' r=>RelR d.vars (ef V f) (ef V e) (ef V' r):=⟨_,rfl⟩
 have g0:=Zh5 (Bw:=fun W=>W.cell? ⟨w.heap.size,0,none⟩=some (.pointer (some ⟨xb,0,none⟩))) (T:=fun q=>q=w.heap.size) (xb:=xb) Zb1 Yct Yd4 (fun W W' h hk=>(World.cell?_of_block (w:=W) (a:=⟨w.heap.size,0,none⟩) (hk _ rfl)).trans h) (Zz0 Zb1) Zj6 g1.st.is g1.st.lt ⟨(g4.cell (p:=⟨xb,0,none⟩) (Zab hx.cell)).trans hx.cell,hx.own⟩ hk hn cb (fun q hq=>by subst hq;exact⟨Zab cb,hlt.none (Nat.le_refl _)⟩) hf he hsat;rw[<- hN] at g0 ⊢
 have g2:Hid (Calls prog 66 #[.pointer (some ⟨xb,0,none⟩),.int .i64 1702,.int .i64 f,.int .i64 e,.func (.func 96) #[] #[.pointer (some ⟨w.heap.size,0,none⟩)]] w1 fun x w'=>(∃ r:Nat,x=.returned (.int .i64 r)/\P x w')\/∃ er evt ev,x=Zbg er evt ev/\P x w'):=Hd (g0.mono fun x w' hx=>by
  have g5:P x w':=by
   rw[hP];exact Zbr.base g1 (by omega) hx
  rcases hx.kind with ⟨r,rfl⟩|⟨er,evt,ev,rfl⟩
  . exact .inl ⟨r,rfl,g5⟩
  . exact .inr ⟨er,evt,ev,rfl,g5⟩)
 rw[<- hP];clear hP g0 hm hlt hx hk hn hf he hsat g4 g1 g3 hN
 go_enter func46,ntmps46
 go_upto_region 1 with fail;rw[HW1.out];go_wp2_with fail;refine g2.out.mono ?_;rintro x w6 (⟨r,rfl,hp⟩|⟨er,evt,ev,rfl,hp⟩)
 . have HF:=Hd hp;clear hp g2;go_wp2_with fail;exact HF.out
 . have HF:=Hd hp;clear hp g2;unfold Zbg;go_wp2_with fail;exact⟨rfl,HF.out⟩
theorem Zd9 (h:SatE K n Od room w0 mb fs nx w o m V){a:Option Addr}{c:Nat}{ks:List Int}(hz:Zay w a ks){er:Int}(her:(er=0/\∀ k∈ks,known fs k)\/(er=8/\∃ k∈ks,¬ known fs k)) :
 Calls prog 41 #[.pointer (some ⟨mb,0,none⟩),.slice a ks.length c] w fun x w'=>x=.returned (.int .i64 er)/\w=w':=by
 have HZ:=Hd hz;have ga:=hz.len;have g4:Hid (∀ k b,(b=true↔known fs k)->Calls prog 13 #[.pointer (some ⟨mb,0,none⟩),.int .i64 k] w fun x w'=>x=.returned (.bool b)/\w=w'):=Hd fun k b hb=>Zrk h k hb
 obtain⟨P,hP⟩:∃ P:Ending->World->Prop,P=fun x w'=>x=.returned (.int .i64 er)/\w=w':=⟨_,rfl⟩
 have g5:Hid (∀ k∈ks,¬ known fs k->P (.returned (.int .i64 8)) w):=Hd fun k hk hn=>by
  rw[hP];rcases her with ⟨_,h2⟩|⟨rfl,_⟩
  . exact absurd (h2 k hk) hn
  . exact⟨rfl,rfl⟩
 have g2:Hid ((∀ q,q<ks.length->known fs (at0 ks q))->P (.returned (.int .i64 0)) w):=Hd fun hq=>by
  rw[hP];rcases her with ⟨rfl,_⟩|⟨_,k,hk,hn⟩
  . exact⟨rfl,rfl⟩
  . obtain⟨q,g3,rfl⟩:=List.getElem_of_mem hk;have:=hq q g3;rw[Zcl g3] at this;exact absurd this hn
 rw[<- hP];clear hP h hz her
 go_enter func41,ntmps41
 go_wp2_with fail
 go_loopw [4,6,11] (fun _ _ s11 wr=>∃ j:Nat,j<=ks.length/\s11=.int .i64 j/\wr=w/\Hid (∀ q,q<j->known fs (at0 ks q))) (fun _ _ s11 _=>ks.length-(intOf s11).toNat)
 case atStart=>exact⟨0,Nat.zero_le _,rfl,rfl,Hd fun q hq=>by omega⟩
 case round =>
  obtain⟨j,hj,rfl,rfl,HQ⟩:=hrel
  by_cases g1:j<ks.length
  .
   have g6:(j:Int)<(ks.length:Int):=by omega
   obtain⟨b,off,rfl,ck⟩:=HZ.out.cells j g1;obtain⟨z,hz⟩:∃ z,z=at0 ks j:=⟨_,rfl⟩;rw[<- hz] at ck;have g9:Hid (z∈ks):=Hd (by rw[hz,Zcl g1];exact List.getElem_mem g1);have g7:=Hd hz;clear hz
   by_cases g0:known fs z
   .
    have HI:=Hd (g4.out z true (by simp[g0]));have g8:Hid (∀ q,q<j+1->known fs (at0 ks q)):=Hd fun q hq=>by
     rcases Nat.lt_or_ge q j with h|h
     . exact HQ.out q h
     .
      obtain rfl:q=j:=by omega
      rw[<- g7.out];exact g0
    clear g0;go_wp2_with fail;refine HI.out.mono ?_;rintro x w' ⟨rfl,rfl⟩;go_wp2_with fail;go_roundw
    case rel=>exact⟨j+1,by omega,by go_num,by trivial,g8⟩
    case measure=>simp[intOf];omega
   . have HI:=Hd (g4.out z false (by simp[g0]));have HF:=Hd (g5.out z g9.out g0);clear g0;go_wp2_with fail;refine HI.out.mono ?_;rintro x w' ⟨rfl,rfl⟩;go_wp2_with fail;exact HF.out
  .
   obtain rfl:j=ks.length:=by omega
   have g6:¬ (ks.length:Int)<(ks.length:Int):=by omega
   have HF:=Hd (g2.out HQ.out);go_wp2_with fail;exact HF.out
theorem Zo5 (hm:Zcg (Za5 m.d V) o w mb m)(hlt:Zaj o w)(hx:Zce o w xb mb)(hk:Zal m.d V)(hn:m.d.vars.length=n)(hnd:(m.hs.map Prod.fst).Nodup){kf kc:Int}{f e bf bc:Nat}(hkf:(kf,f)∈m.hs)(hkc:(kc,e)∈m.hs)(hf:okE (Zaa m.d) f)(he:okE (Zaa m.d) e)(hsat:SatF (ef V e))(cf:w.cell? ⟨bf,0,none⟩=some (.int .i64 kf))(cc:w.cell? ⟨bc,0,none⟩=some (.int .i64 kc))(hof:o bf=none)(hoc:o bc=none) :
 Calls prog 69 #[.pointer (some ⟨xb,0,none⟩),.pointer (some ⟨bf,0,none⟩),.pointer (some ⟨bc,0,none⟩)] w (Zbr Za5 ((2^n-1)*2^n) o w mb m V fun d V' r=>RelC d.vars (ef V f) (ef V e) (ef V' r)):=by
 have g4:Below w.heap.size w w.drew:=Zaf w 1;have g0:AtC Za5 0 o w mb m V o w.drew m V:=(AtC.refl hm hlt hk).below g4;have g2:Zce o w.drew xb mb:=⟨(g4.cell (p:=⟨xb,0,none⟩) (Zab hx.cell)).trans hx.cell,hx.own⟩;have g7:=Hd (Zb7 g0.st.is g2 hnd hkf);have g8:=Hd (Zb7 g0.st.is g2 hnd hkc);have k1:w.drew.cell? ⟨bf,0,none⟩=some (.int .i64 kf):=cf;have k2:w.drew.cell? ⟨bc,0,none⟩=some (.int .i64 kc):=cc;obtain⟨N,hN⟩:∃ N,N=(2^n-1)*2^n:=⟨_,rfl⟩;obtain⟨P,hP⟩:∃ P:Ending->World->Prop,P=Zbr Za5 N o w mb m V fun d V' r=>RelC d.vars (ef V f) (ef V e) (ef V' r):=⟨_,rfl⟩
 have g1:=Zh5 (Bw:=fun _=>True) (T:=fun _=>False) (xb:=xb) Zb1 Zxx (Ydn (.inr rfl)) (fun _ _ h _=>h) Zs5 Zjs g0.st.is g0.st.lt g2 hk hn trivial (fun q hq=>hq.elim) hf he hsat;rw[<- hN] at g1 ⊢
 have g3:Hid (Calls prog 66 #[.pointer (some ⟨xb,0,none⟩),.int .i64 1701,.int .i64 f,.int .i64 e,.func (.func 67) #[] #[]] w.drew fun x w'=>(∃ u,x=.returned u/\(w'.cell? ⟨bf,0,none⟩=some (.int .i64 kf)/\w'.cell? ⟨bc,0,none⟩=some (.int .i64 kc))/\∃ r:Nat,u=.int .i64 r/\P (.returned (.int .i64 r)) w')\/(∃ ch,x=.panicked ch/\P (.panicked ch) w')):=Hd (g1.mono fun x w' hx=>by
  have g5:P x w':=by
   rw[hP];exact Zbr.base g0 (by omega) hx
  rcases hx with ⟨r,o2,m2,V2,rfl,q1,_⟩|⟨er,evt,ev,rfl,_⟩
  . exact .inl ⟨_,rfl,⟨q1.st.chg.cell k1 hof,q1.st.chg.cell k2 hoc⟩,r,rfl,g5⟩
  . exact .inr ⟨_,rfl,g5⟩)
 rw[<- hP];clear hP g1 hm hlt hx hk hn hf he hsat g4 g0 g2 hN hnd hkf hkc cf cc hof hoc
 go_enter func69,ntmps69
 go_upto_region 1 with fail;refine Zit [0,1,2,4,5,3,6,7,8] (fun W=>W.cell? ⟨bf,0,none⟩=some (.int .i64 kf)/\W.cell? ⟨bc,0,none⟩=some (.int .i64 kc)) (fun ch w'=>P (.panicked ch) w') (fun c a w hd h=>⟨hd,h⟩) (by kernel_rfl) ⟨k1,k2⟩ ?_
 iterate 5
  refine Zf2 rfl rfl (by kernel_rfl) ?_;apply Exists.intro;refine⟨fun w' hw=>?_,?_⟩
  . obtain⟨q1,q2⟩:=hw;go_simp;rfl
  simp only[Zai]
 refine Zhb (R1:=fun u w'=>u=.int .i64 (f:Nat)/\w.drew=w') rfl (by kernel_rfl) rfl rfl (by go_simp) (g7.out.mono fun x w' h=>⟨_,h.1,rfl,h.2⟩) (by rintro u w' ⟨_,rfl⟩;exact⟨k1,k2⟩) ?_;rintro u w'-⟨rfl,rfl⟩;simp only[Zai];refine Zhb (R1:=fun u w'=>u=.int .i64 (e:Nat)/\w.drew=w') rfl (by kernel_rfl) rfl rfl (by go_simp) (g8.out.mono fun x w' h=>⟨_,h.1,rfl,h.2⟩) (by rintro u w' ⟨_,rfl⟩;exact⟨k1,k2⟩) ?_;rintro u w'-⟨rfl,rfl⟩;simp only[Zai];refine Zjb rfl (by kernel_rfl) rfl rfl (by go_simp) g3.out ?_;rintro u w8 g6 ⟨r,rfl,hp⟩;have HF:=Hd hp;clear hp g6 g3;simp only[Zai];refine Zf2 rfl rfl (by kernel_rfl) ?_;apply Exists.intro;refine⟨fun w' hw=>?_,?_⟩
 . clear hw;go_simp;rfl
 simp only[Zai];refine Zp0 (by kernel_rfl) ?_;clear k1 k2;go_wp2_with fail;exact HF.out
end
open Go.RowKit
section
variable {K:Law}{n k:Nat}{Od:List Nat->Prop}{room:Nat}{w0:World}{fs:List (Int×BF)}{nx:Int}{o o':Own}{w w1 W:World}{mb xb:Nat}{m:ManD}{V:Nat->BF}{ws0:List Ev}
def NewA (K:Law)(n room:Nat)(w0:World)(mb:Nat)(fs:List (Int×BF))(nx:Int)(ws0:List Ev)(A:List Nat->BF->Prop)(o:Own)(w:World)(x:Ending)(w':World):Prop :=
 x=.returned (.tuple #[.int .i64 nx,.int .i64 0])/\∃ F o' m' V',ChgX NoB o o' w w'/\m'.waits <:+ ws0/\SatE K n (fun _=>True) room w0 mb (fs++[(nx,F)]) (nx+1) w' o' m' V'/\A m'.d.vars F
theorem Ycp {C:Nat->Prop}{B:World->Prop}{gop:Nat}{lop:Array Value}{A:List Nat->BF->Prop}(ws0:List Ev)(hhap:∀ ev∈ws0,HapG K n Od room w0 mb fs nx ev)
 (hB:∀ W W',B W->(∀ c,C c->W'.heap[c]?=W.heap[c]?)->B W')
 (hop:∀ (o:Own) (W:World) (m:ManD) (V:Nat->BF) (xb:Nat),SatE K n Od room w0 mb fs nx W o m V->B W->(∀ k,C k->k<W.heap.size/\o k=none)->Zce o W xb mb->¬ C xb->Calls prog gop (#[.pointer (some ⟨xb,0,none⟩)]++lop) W (Zbr K k o W mb m V fun d V' r=>A d.vars (ef V' r))) :
 OpG K n Od room w0 mb fs nx C B (StL ws0 none) gop lop (fun _ m V r=>A m.d.vars (ef V r)/\m.waits <:+ ws0) (EL (SatX K n Od room w0 mb fs nx) k ws0 none):=by
 intro o W m V xb g3 hb hC g2 g4 hnx;refine(hop o W m V xb g3 hb hC g4 hnx).mono ?_;have g0:∀ {o':Own} {w':World} {m':ManD} {V':Nat->BF},Step K o W mb m V o' w' m' V'->B w':=fun st=>hB _ _ hb fun c hc=>st.chg.alien (hC c hc).1 (hC c hc).2
 rintro e w' (⟨r,o',m',V',rfl,h1,h2,h3⟩|⟨er,evt,ev,rfl,o',m',V',st,⟨rfl,rfl,rfl,a4,a5,a6⟩|⟨rfl,rfl,a3⟩⟩)
 . exact⟨o',m',V',h1.st.toX _,g0 h1.st,.inl ⟨r,rfl,h2,h3,by rw[h1.waits];exact g2.1⟩⟩
 . exact⟨o',m',V',st.toX _,g0 st,.inr (.inl ⟨7,rfl,by omega,a4,⟨by unfold Zid;rw[a4];exact g2.1,fun M e=>by cases e⟩,rfl,rfl,⟨_,_,_,g3⟩,a5,a6,by rw[a4];exact g2.1⟩)⟩
 . have g1:m.waits <:+ ws0:=g2.1;rw[a3] at g1;exact⟨o',m',V',st.toX _,g0 st,.inr (.inr ⟨ev,rfl,a3,fun _ _ _ _ _ e _ _=>⟨by unfold Zid;rw[e];exact(List.suffix_cons ev m'.waits).trans g1,fun M e=>by cases e⟩,hhap ev (g1.subset (List.mem_cons_self ..))⟩)⟩
theorem Ya1 {C:Nat->Prop}{B:World->Prop}{gop:Nat}{lop:Array Value}{A:List Nat->BF->Prop}(hK:Zb4 K)(eg:∀ args w,(callFunc gop args).run prog w=.ok (.enter gop args) w)(ws0:List Ev)
 (hB:∀ W W',B W->(∀ c,C c->W'.heap[c]?=W.heap[c]?)->B W')
 (hop:∀ (o:Own) (W:World) (m:ManD) (V:Nat->BF) (xb:Nat),SatE K n (fun _=>True) room w0 mb fs nx W o m V->B W->(∀ k,C k->k<W.heap.size/\o k=none)->Zce o W xb mb->¬ C xb->Calls prog gop (#[.pointer (some ⟨xb,0,none⟩)]++lop) W (Zbr K k o W mb m V fun d V' r=>A d.vars (ef V' r)))
 (h:SatE K n (fun _=>True) room w0 mb fs nx w o m V) (hb1:Below w.heap.size w w1) (hC:∀ c,C c->c<w1.heap.size/\(w.heap.size<=c\/(w0.heap.size<=c/\o c=none/\∀ W,B W->W.heap[c]?=w.heap[c]?))) (hb:B w1) (hst:m.waits <:+ ws0) (hn:nx<=549755813888) (hr:fs.length*2^n+k<=room) :
 Calls prog 35 #[.pointer (some ⟨mb,0,none⟩),.func (.func gop) #[] lop] w1 (NewA K n room w0 mb fs nx ws0 A o w):=by
 have hw0:=h.chg.size;have g0:∀ c,C c->o c=none:=fun c hc=>by
  rcases(hC c hc).2 with h1|⟨_,h1,_⟩
  . exact h.lt.none h1
  . exact h1
 refine(Zsb hK hB (fun _ _ _ _ _ h _=>h) StL.coll (fun c hc=>by
  rcases(hC c hc).2 with h1|⟨h1,_,_⟩
  . exact Nat.le_trans hw0 h1
  . exact h1) eg (Ycp (k:=k) (A:=A) ws0 (fun ev _=>Zfl hn ev) hB hop) (h.below hb1) hb (fun c hc=>⟨(hC c hc).1,g0 c hc⟩) ⟨hst,fun _ e=>by cases e⟩ (by omega)).mono ?_
 rintro x w' ⟨o',m',V',g3,hc,⟨r,m1,rfl,hs,⟨q1,q2⟩,_,_,q4,_,_,q3,_⟩|⟨er,m0,_,_,g2,⟨_,e7,⟨W',oo,VV,hs'⟩,h5,h6,_⟩,h7⟩⟩
 .
  refine⟨rfl,_,o',m',V',⟨hc.os.trans hb1.os,hc.tape.trans hb1.tape,hc.output.trans hb1.output,Nat.le_trans hb1.size hc.size,fun j hj ho _=>?_,hc.ext,fun j hj=>Nat.le_trans hb1.size (hc.new j hj)⟩,by rw[q3];exact q2,hs,by rw[q4];exact q1⟩
  by_cases g1:C j
  .
   rcases(hC j g1).2 with h1|⟨_,_,h1⟩
   . omega
   . exact h1 w' g3
  . exact(hc.block j (Nat.lt_of_lt_of_le hj hb1.size) ho g1).trans (hb1.block j hj)
 . exfalso;have h8:=hs'.few (h7 e7);have h9:=g2.room;omega
theorem Zod {C:BF}:¬ SatF C↔C=fun _=>false:=by
 constructor
 .
  intro h;funext ρ;cases hr:C ρ with
  | false=>rfl
  | true=>exact absurd ⟨ρ,hr⟩ h
 . rintro rfl ⟨ρ,h⟩;cases h
theorem Zr6 (h:SatE K n Od room w0 mb fs nx w o m V)(h0:(0,fun _=>false)∈fs){kf kc:Int}{F C:BF}(hf:(kf,F)∈fs)(hc:(kc,C)∈fs){er:Int}(her:(SatF C/\er=0)\/(¬ SatF C/\er=20)) :
 Calls prog 68 #[.pointer (some ⟨mb,0,none⟩),.int .i64 kf,.int .i64 kc] w fun x w'=>x=.returned (.int .i64 er)/\Below w.heap.size w w':=by
 obtain⟨w1,g0⟩:∃ w1,w1=w.alloc (.cells #[.int .i64 kf,.int .i64 kc] 3):=⟨_,rfl⟩;have HW1:Hid (_=w1):=Hd g0.symm;have g1:Below w.heap.size w w1:=by rw[g0];exact Zad _ _
 have hz:Zay w1 (some ⟨w.heap.size,0,none⟩) [kf,kc]:=by rw[g0];exact Zes w [kf,kc] (by simp)
 have g4:=Hd (Zd9 (h.below g1) (c:=2) hz (er:=0) (.inl ⟨rfl,fun k hk=>by
  simp only[List.mem_cons,List.not_mem_nil,or_false] at hk;rcases hk with rfl|rfl
  . exact⟨F,hf⟩
  . exact⟨C,hc⟩⟩))
 have HB:=Hd g1;have g2:=Zlc (h.below g1) hc h0;rcases her with ⟨hs,rfl⟩|⟨hs,rfl⟩
 .
  have g3:Hid (Calls prog 28 #[.pointer (some ⟨mb,0,none⟩),.int .i64 kc,.int .i64 0] w1 fun x w'=>x=.returned (.tuple #[.bool false,.int .i64 0])/\w1=w'):=Hd (g2.mono fun x w' ⟨b,q1,q2,q3⟩=>by
   have:b=false:=by
    cases b with
    | false=>rfl
    | true=>exact absurd hs (Zod.2 (q2.1 rfl))
   subst this;exact⟨q1,q3⟩)
  clear g2 g0 g1 hz h h0 hf hc hs
  go_enter func68,ntmps68
  go_wp2_with fail;rw[HW1.out];refine g4.out.mono ?_;rintro x w' ⟨rfl,rfl⟩;go_wp2_with fail;refine g3.out.mono ?_;rintro x w' ⟨rfl,rfl⟩;go_wp2_with fail;go_ret;exact⟨rfl,HB.out⟩
 .
  have g3:Hid (Calls prog 28 #[.pointer (some ⟨mb,0,none⟩),.int .i64 kc,.int .i64 0] w1 fun x w'=>x=.returned (.tuple #[.bool true,.int .i64 0])/\w1=w'):=Hd (g2.mono fun x w' ⟨b,q1,q2,q3⟩=>by
   have:b=true:=q2.2 (Zod.1 hs);subst this;exact⟨q1,q3⟩)
  clear g2 g0 g1 hz h h0 hf hc hs
  go_enter func68,ntmps68
  go_wp2_with fail;rw[HW1.out];refine g4.out.mono ?_;rintro x w' ⟨rfl,rfl⟩;go_wp2_with fail;refine g3.out.mono ?_;rintro x w' ⟨rfl,rfl⟩;go_wp2_with fail;go_ret;exact⟨rfl,HB.out⟩
theorem Zyq (h:SatE K n Od room w0 mb fs nx w o m V){kf kc:Int}(hno:¬ known fs kf\/¬ known fs kc) :
 Calls prog 68 #[.pointer (some ⟨mb,0,none⟩),.int .i64 kf,.int .i64 kc] w fun x w'=>x=.returned (.int .i64 8)/\Below w.heap.size w w':=by
 obtain⟨w1,g0⟩:∃ w1,w1=w.alloc (.cells #[.int .i64 kf,.int .i64 kc] 3):=⟨_,rfl⟩;have HW1:Hid (_=w1):=Hd g0.symm;have g1:Below w.heap.size w w1:=by rw[g0];exact Zad _ _
 have hz:Zay w1 (some ⟨w.heap.size,0,none⟩) [kf,kc]:=by rw[g0];exact Zes w [kf,kc] (by simp)
 have g2:=Hd (Zd9 (h.below g1) (c:=2) hz (er:=8) (.inr ⟨rfl,by
  rcases hno with h1|h1
  . exact⟨kf,by simp,h1⟩
  . exact⟨kc,by simp,h1⟩⟩))
 have HB:=Hd g1;clear g0 g1 hz h hno
 go_enter func68,ntmps68
 go_wp2_with fail;rw[HW1.out];refine g2.out.mono ?_;rintro x w' ⟨rfl,rfl⟩;go_wp2_with fail;go_ret;exact⟨rfl,HB.out⟩
theorem Zj3 (h:SatE Za5 n (fun _=>True) room w0 mb fs nx w o m V)(h0:(0,fun _=>false)∈fs){kf kc:Int}{F C:BF}(hf:(kf,F)∈fs)(hc:(kc,C)∈fs)(hsat:SatF C)(hst:m.waits <:+ ws0)(hn:nx<=549755813888)(hr:fs.length*2^n+(2^n-1)*2^n<=room) :
 Calls prog 26 #[.pointer (some ⟨mb,0,none⟩),.int .i64 kf,.int .i64 kc] w (NewA Za5 n room w0 mb fs nx ws0 (fun ord R=>RelC ord F C R) o w):=by
 have gc:∀ (fn:Fn) (first cap:Array Value) (w:World),(Instr.makeFunc fn first cap).run prog w=.ok (.func fn first cap) w:=fun _ _ _ _=>rfl
 obtain⟨w2,g4,g1,ga,c0,c1⟩:=boxes2v w (.int .i64 kf) (.int .i64 kc) 3 3;have g8:Hid (_=w2):=Hd g4.symm;have g3:=Hd (Zr6 (h.below g1) h0 hf hc (er:=0) (.inl ⟨hsat,rfl⟩));have HB2:=Hd g1;obtain⟨P,hP⟩:∃ P:Ending->World->Prop,P=NewA Za5 n room w0 mb fs nx ws0 (fun ord R=>RelC ord F C R) o w:=⟨_,rfl⟩;have g9:Hid (∀ w3,Below w2.heap.size w2 w3->Calls prog 35 #[.pointer (some ⟨mb,0,none⟩),.func (.func 69) #[] #[.pointer (some ⟨w.heap.size,0,none⟩),.pointer (some ⟨w.heap.size+1,0,none⟩)]] w3 fun x w'=>∃ p q,x=.returned (.tuple #[.int .i64 p,.int .i64 q])/\P x w'):=Hd fun w3 g0=>by
  have d0:=(g0.cell (p:=⟨w.heap.size,0,none⟩) (Zab c0)).trans c0;have d1:=(g0.cell (p:=⟨w.heap.size+1,0,none⟩) (Zab c1)).trans c1
  refine(Ya1 (K:=Za5) (C:=fun q=>q=w.heap.size\/q=w.heap.size+1) (B:=fun W=>W.cell? ⟨w.heap.size,0,none⟩=some (.int .i64 kf)/\W.cell? ⟨w.heap.size+1,0,none⟩=some (.int .i64 kc)) (A:=fun ord R=>RelC ord F C R) (k:=(2^n-1)*2^n) (lop:=#[.pointer (some ⟨w.heap.size,0,none⟩),.pointer (some ⟨w.heap.size+1,0,none⟩)]) Zb1 Zi6 ws0
   (fun W W' hb hk=>⟨(World.cell?_of_block (w:=W) (a:=⟨w.heap.size,0,none⟩) (hk _ (.inl rfl))).trans hb.1,(World.cell?_of_block (w:=W) (a:=⟨w.heap.size+1,0,none⟩) (hk _ (.inr rfl))).trans hb.2⟩)
   (fun o W m V xb hs hB hC hx _=>?_) h (g1.trans (g0.mono g1.size)) (by
    rintro q (rfl|rfl)
    . exact⟨Zab d0,.inl (Nat.le_refl _)⟩
    . exact⟨Zab d1,.inl (by omega)⟩) ⟨d0,d1⟩ hst hn hr).mono ?_
  . obtain⟨f,g5,gb⟩:=hs.find hf;obtain⟨e,g7,g6⟩:=hs.find hc;have g2:=Zo5 hs.is hs.lt hx hs.ok.store hs.vars hs.ok.handles.nodup g5 g7 (hs.ok.handles.ok _ g5) (hs.ok.handles.ok _ g7) (by rw[show ef V e=C from g6];exact hsat) hB.1 hB.2 (hC _ (.inl rfl)).2 (hC _ (.inr rfl)).2;rw[show ef V f=F from gb,show ef V e=C from g6] at g2;exact g2
  . intro x w' hx;exact⟨nx,0,hx.1,by rw[hP];exact hx⟩
 rw[<- hP];clear hP g4 g1 ga h h0 hf hc hsat hst hn hr
 go_enter func26,ntmps26
 go_upto_region 1 with fail;rw[g8.out];go_wp2_with fail;refine g3.out.mono ?_;rintro x w3 ⟨rfl,g0⟩;have HD:=Hd (g9.out w3 g0);clear g0 g9 g3 c0 c1 g8;go_wp2_with fail;refine HD.out.mono ?_;rintro x w4 ⟨p,q,rfl,hp⟩;have HF:=Hd hp;clear hp HD;go_wp2_with fail;exact HF.out
theorem Zl3 (h:SatE K n Od room w0 mb fs nx w o m V){kf kc:Int}{er:Int}(her:(er=8/\(¬ known fs kf\/¬ known fs kc))\/(er=20/\(0,fun _=>false)∈fs/\known fs kf/\(kc,fun _=>false)∈fs)) :
 Calls prog 27 #[.pointer (some ⟨mb,0,none⟩),.int .i64 kf,.int .i64 kc] w fun x w'=>x=.returned (.tuple #[.int .i64 0,.int .i64 er])/\Below w.heap.size w w':=by
 obtain⟨w2,g2,g0,g5,c0,c1⟩:=boxes2v w (.int .i64 kf) (.int .i64 kc) 3 3;have g4:Hid (_=w2):=Hd g2.symm
 have g1:Hid (Calls prog 68 #[.pointer (some ⟨mb,0,none⟩),.int .i64 kf,.int .i64 kc] w2 fun x w'=>x=.returned (.int .i64 er)/\Below w2.heap.size w2 w'):=Hd (by
  rcases her with ⟨rfl,h1⟩|⟨rfl,h1,⟨F,h2⟩,h3⟩
  . exact Zyq (h.below g0) h1
  . exact Zr6 (h.below g0) h1 h2 h3 (.inr ⟨Zod.2 rfl,rfl⟩))
 have HB2:=Hd g0;have g6:(er == 0)=false/\(er != 0)=true:=by rcases her with ⟨rfl,_⟩|⟨rfl,_⟩<;>exact⟨rfl,rfl⟩
 obtain⟨g8,g7⟩:=g6;clear g2 g0 g5 h her
 go_enter func27,ntmps27
 go_upto_region 1 with fail;rw[g4.out];go_wp2_with fail;refine g1.out.mono ?_;rintro x w3 ⟨rfl,g3⟩;have HF:=Hd (HB2.out.trans (g3.mono HB2.out.size));clear g3 g1 c0 c1 g4;go_wp2_with fail
 go_ret2
 exact⟨rfl,HF.out⟩
end
open Go.RowKit
structure Ze5 (w:World)(a:Option Addr)(l:List (Int×Bool)):Prop where
 len:l.length<=9223372036854775807
 cells:∀ k,∀ hk:k<l.length,∃ b off,a=some ⟨b,off,none⟩/\w.cell? ⟨b,off+k*2,none⟩=some (.int .i64 l[k].1)/\w.cell? ⟨b,off+k*2+1,none⟩=some (.bool l[k].2)
theorem Ze5.keep {w w':World}{a:Option Addr}{l:List (Int×Bool)}(h:Ze5 w a l)(hk:l≠[]->∀ x v,a=some x->∀ o,w.cell? ⟨x.block,o,none⟩=some v->w'.cell? ⟨x.block,o,none⟩=some v):Ze5 w' a l :=
 ⟨h.len,fun k hkl=>by
  obtain⟨b,off,e,c0,c1⟩:=h.cells k hkl;have hne:l≠[]:=fun e=>by subst e;simp at hkl
  exact⟨b,off,e,hk hne _ _ e _ c0,hk hne _ _ e _ c1⟩⟩
theorem Ze5.below {w w':World}{a:Option Addr}{l:List (Int×Bool)}(h:Ze5 w a l)(hb:Below w.heap.size w w'):Ze5 w' a l :=
 h.keep fun _ x v _ o hc=>(hb.cell (p:=⟨x.block,o,none⟩) (Zab hc)).trans hc
theorem Ze5.lt {w:World}{x:Addr}{l:List (Int×Bool)}(h:Ze5 w (some x) l)(hl:l≠[]):x.block<w.heap.size:=by
 obtain⟨b,off,e,c0,_⟩:=h.cells 0 (List.length_pos_iff.2 hl);cases e;exact Zab c0
def Zgm (n:Nat)(l:List (Int×Bool)):Int:=if ∀ p∈l,0<=p.1/\p.1<(n:Int) then if (l.map (·.1)).Nodup then 0 else 6 else 9
def ovr:List (Int×Bool)->(Nat->Bool)->Nat->Bool
 | [],ρ=>ρ
 | p::l,ρ=>upd (ovr l ρ) p.1.toNat p.2
def Zl9 (l:List (Int×Bool))(F:BF):BF:=fun ρ=>F (ovr l ρ)
def Zfv (l:List (Int×Bool)):BF:=fun ρ=>l.all fun p=>ρ p.1.toNat == p.2
theorem Zsm (p:Int×Bool):∀ (l:List (Int×Bool)) (ρ:Nat->Bool),ovr (l++[p]) ρ=ovr l (upd ρ p.1.toNat p.2)
 | [],ρ=>rfl
 | q::l,ρ=>by show upd (ovr (l++[p]) ρ) _ _=upd (ovr l _) _ _;rw[Zsm p l ρ]
theorem Zuo (l:List (Int×Bool))(p:Int×Bool)(F:BF):Zl9 (l++[p]) F=cofF (Zl9 l F) p.1.toNat p.2:=by
 funext ρ;rw[Zek]
 show F (ovr (l++[p]) ρ)=F (ovr l _)
 rw[Zsm]
theorem Zv8 (l:List (Int×Bool))(p:Int×Bool)(ρ:Nat->Bool):Zfv (l++[p]) ρ=(Zfv l ρ&&(ρ p.1.toNat == p.2)):=by
 unfold Zfv;rw[List.all_append];simp
theorem Zpz {l:List (Int×Bool)}(h0:∀ p∈l,0<=p.1)(h:(l.map (·.1)).Nodup):l.Pairwise fun p q=>p.1.toNat≠q.1.toNat:=by
 have:=List.pairwise_map.1 h;refine List.Pairwise.imp_of_mem ?_ this;intro a b ha hb g0 e;have:=h0 a ha;have:=h0 b hb;exact g0 (by omega)
theorem Zkd:∀ {l:List (Int×Bool)},l.Pairwise (fun p q=>p.1.toNat≠q.1.toNat)->∀ ρ,Zfv l (ovr l ρ)=true
 | [],_,_=>rfl
 | p::l,h,ρ=>by
   obtain⟨h1,h2⟩:=List.pairwise_cons.1 h;unfold Zfv;rw[List.all_eq_true];intro q hq;rw[beq_iff_eq];rcases List.mem_cons.1 hq with rfl|hq
   . exact Zfb _ _ _
   .
    show upd (ovr l ρ) p.1.toNat p.2 q.1.toNat=q.2
    rw[Zgz _ _ (fun e=>h1 q hq e.symm)];have:=Zkd h2 ρ;unfold Zfv at this;rw[List.all_eq_true] at this;simpa using this q hq
theorem Zyw {l:List (Int×Bool)}{p:Int×Bool}(hp:p∈l):¬ SatF (cofF (Zfv l) p.1.toNat (!p.2)):=by
 rintro⟨ρ,hρ⟩;rw[Zek] at hρ;unfold Zfv at hρ;rw[List.all_eq_true] at hρ;have:=hρ p hp;rw[Zfb] at this;cases hb:p.2<;>simp_all
theorem Zml:∀ (l:List Nat) {F C:BF} {v:Nat} {y:Bool},SatF C->¬ SatF (cofF C v (!y))->v∈l->Ind (constrF l F C) v
 | [],_,_,_,_,_,_,h=>by simp at h
 | u::l,F,C,v,y,hs,hn,hm=>by
   by_cases e:u=v
   . subst e;rw[Zmm y hs hn];exact Zg4 l (Znt F u y) (Znt C u y)
   .
    have hm2:v∈l:=by
     rcases List.mem_cons.1 hm with h|h
     . exact absurd h.symm e
     . exact h
    refine Ind.of fun ρ b=>?_
    show constrF l (cofF F u (conB C u (upd ρ v b u))) (cofF C u (conB C u (upd ρ v b u))) (upd ρ v b)=constrF l (cofF F u (conB C u (ρ u))) (cofF C u (conB C u (ρ u))) ρ
    rw[Zgz ρ b e]
    have g0:¬ SatF (cofF (cofF C u (conB C u (ρ u))) v (!y)):=fun⟨ρ',h⟩=>hn ⟨upd ρ' u (conB C u (ρ u)),by
     rw[Zo0 C e] at h;exact h⟩
    exact(Zml l (Zr8 hs u _) g0 hm2).at ρ b
theorem Zxk {R:BF}:∀ {l:List (Int×Bool)},(∀ p∈l,Ind R p.1.toNat)->∀ ρ,R (ovr l ρ)=R ρ
 | [],_,_=>rfl
 | p::l,h,ρ=>by
   show R (upd (ovr l ρ) p.1.toNat p.2)=R ρ
   rw[(h p (List.mem_cons_self ..)).at];exact Zxk (fun q hq=>h q (List.mem_cons_of_mem _ hq)) ρ
theorem Zq6 {ord:List Nat}{F:BF}{l:List (Int×Bool)}(h0:∀ p∈l,0<=p.1)(hnd:(l.map (·.1)).Nodup)(hm:∀ p∈l,p.1.toNat∈ord):constrF ord F (Zfv l)=Zl9 l F:=by
 have hp:=Zpz h0 hnd;have hs:SatF (Zfv l):=⟨_,Zkd hp fun _=>false⟩;funext ρ;rw[<- Zxk (fun p g0=>Zml ord hs (Zyw g0) (hm p g0)) ρ,Zgg ord (Zkd hp ρ)];rfl
def metL (n:Nat)(l:List (Int×Bool)):List Bool:=(List.range n).map fun v:Nat=>decide ((v:Int)∈l.map (·.1))
theorem Zrn (n:Nat)(l:List (Int×Bool)):(metL n l).length=n:=by simp[metL]
theorem Zzl {n v:Nat}(l:List (Int×Bool))(h:v<n):(metL n l).getD v false=decide ((v:Int)∈l.map (·.1)):=by
 simp[metL,List.getD,h]
theorem Zzm (n:Nat):metL n []=List.replicate n false:=by
 refine List.ext_getElem (by simp[metL]) fun i h1 h2=>?_
 simp[metL]
theorem Zw7 {n:Nat}(l:List (Int×Bool)){v:Nat}{y:Bool}(h:v<n):metL n (l++[((v:Int),y)])=(metL n l).set v true:=by
 refine List.ext_getElem (by simp[metL]) fun i h1 h2=>?_
 rw[List.getElem_set]
 by_cases e:v=i
 . subst e;simp[metL]
 .
  rw[if_neg e];simp only[metL,List.getElem_map,List.getElem_range,List.map_append,List.mem_append,List.map_cons,List.map_nil,List.mem_singleton];have:¬ ((i:Int)=(v:Int)):=by omega
  simp[this]
theorem Zub {l:List Int}{v:Int}:(l++[v]).Nodup↔l.Nodup/\v∉l:=by
 rw[List.nodup_append];constructor
 . rintro⟨h1,_,h3⟩;exact⟨h1,fun hm=>h3 v hm v (by simp) rfl⟩
 .
  rintro⟨h1,h2⟩;refine⟨h1,by simp,fun a ha b hb e=>?_⟩;simp only[List.mem_singleton] at hb;subst hb;subst e
  exact h2 ha
open Go.RowKit
theorem Zj4 (args:Array Value)(w:World):(callFunc 64 args).run prog w=.ok (.enter 64 args) w:=enters_of func64 (by kernel_rfl) rfl args w
theorem Zy1 (V:Nat->BF)(r:Nat)(b:Bool):ef V (eflip r b)=if b then notF (ef V r) else ef V r:=by
 cases b with
 | true=>exact Zra V r
 | false=>rfl
section
variable {K:Law}{n k:Nat}{Od:List Nat->Prop}{room:Nat}{w0:World}{fs:List (Int×BF)}{nx:Int}{o o':Own}{w w1 W:World}{mb xb:Nat}{m:ManD}{V:Nat->BF}{ws0:List Ev}
theorem Ze5.step {m':ManD}{V':Nat->BF}{w':World}{a:Option Addr}{ls:List (Int×Bool)}(h:Ze5 w a ls)(s:Step K o w mb m V o' w' m' V')(ha:ls≠[]->∀ x,a=some x->o x.block=none):Ze5 w' a ls :=
 h.keep fun hne x v hx _ hc=>s.chg.cell hc (ha hne x hx)
theorem Zq4 (hm:Zcg (Za5 m.d V) o w mb m)(hlt:Zaj o w)(hx:Zce o w xb mb)(hk:Zal m.d V)(hn:m.d.vars.length=n)(hnd:(m.hs.map Prod.fst).Nodup){kf:Int}{f bl bf c:Nat}{a:Option Addr}{ls:List (Int×Bool)}(hkf:(kf,f)∈m.hs)(hf:okE (Zaa m.d) f)(hok:Zgm n ls=0)(hls:Ze5 w a ls)(ha:ls≠[]->∀ x,a=some x->o x.block=none)(cl:w.cell? ⟨bl,0,none⟩=some (.slice a ls.length c))(cf:w.cell? ⟨bf,0,none⟩=some (.int .i64 kf))(hol:o bl=none)(hof:o bf=none) :
 Calls prog 64 #[.pointer (some ⟨xb,0,none⟩),.pointer (some ⟨bl,0,none⟩),.pointer (some ⟨bf,0,none⟩)] w (Zbr Za5 (ls.length*2^n+(2^n-1)*2^n) o w mb m V fun _ V' r=>ef V' r=Zl9 ls (ef V f)):=by
 have g3:∀ p∈ls,0<=p.1/\p.1<(n:Int):=by
  unfold Zgm at hok
  by_cases e:∀ p∈ls,0<=p.1/\p.1<(n:Int)
  . exact e
  . rw[if_neg e] at hok;exact absurd hok (by decide)
 have g8:(ls.map (·.1)).Nodup:=by
  unfold Zgm at hok;rw[if_pos g3] at hok
  by_cases e:(ls.map (·.1)).Nodup
  . exact e
  . rw[if_neg e] at hok;exact absurd hok (by decide)
 have gK:=hls.len;have hp2:0<2^n:=Nat.pow_pos (by omega);obtain⟨Q,hQ⟩:∃ Q,Q=2^n:=⟨_,rfl⟩;obtain⟨P,hP⟩:∃ P:Ending->World->Prop,P=Zbr Za5 (ls.length*Q+(Q-1)*Q) o w mb m V fun _ V' r=>ef V' r=Zl9 ls (ef V f):=⟨_,rfl⟩
 have gf:Hid (∀ k o1 w1 m1 V1 er evt ev w',AtC Za5 k o w mb m V o1 w1 m1 V1->∀ k2,Zko Za5 k2 o1 w1 mb m1 V1 er evt ev w'->k+k2<=ls.length*Q+(Q-1)*Q->P (Zbg er evt ev) w'):=Hd fun k o1 w1 m1 V1 er evt ev w' h k2 g5 hk=>by
  rw[hP];exact .inr ⟨er,evt,ev,rfl,g5.after h hk⟩
 have gi:Hid (AtC Za5 (0*Q) o w mb m V o w m V):=Hd (by rw[Nat.zero_mul];exact AtC.refl hm hlt hk);have HX:=Hd hx;have gq:=Hd hn;have HK:=Hd hk;have gz:=Hd g3;have gH:=Hd hls;have HA:=Hd ha;have gM:=Hd cl;have gJ:=Hd cf;have gG:=Hd (show o bl=none/\o bf=none from ⟨hol,hof⟩);have gw:Hid (okE (Zaa m.d) 0/\ef V 0=Zfv (ls.take 0)):=Hd ⟨.inl rfl,by rw[hk.dag.ef0];rfl⟩;have HQ:=Hd hQ;have gL:1<=Q:=by rw[hQ];omega
 have gj:Hid (∀ j,j<ls.length->j*Q+Q<=ls.length*Q):=Hd fun j hj=>by
  have:=Nat.mul_le_mul_right Q (show j+1<=ls.length by omega);rw[Nat.add_mul,Nat.one_mul] at this;exact this
 have gh:Hid (∀ o1 w1 m1 V1 (cu:Nat),AtC Za5 (ls.length*Q) o w mb m V o1 w1 m1 V1->okE (Zaa m1.d) cu->ef V1 cu=Zfv ls ->
  Calls prog 38 #[.pointer (some ⟨xb,0,none⟩),.int .i64 kf] w1 (fun x w'=>x=.returned (.int .i64 f)/\w1=w') /\
  Calls prog 66 #[.pointer (some ⟨xb,0,none⟩),.int .i64 1700,.int .i64 f,.int .i64 cu,.func (.func 67) #[] #[]] w1 fun x w'=>(∃ r:Nat,x=.returned (.int .i64 r)/\P x w')\/∃ er evt ev,x=Zbg er evt ev/\P x w'):=Hd fun o1 w1 m1 V1 cu h1 h2 h3=>by
  have gl:Zce o1 w1 xb mb:=hx.chg h1.st.chg;have gA:=h1.vars hn;refine⟨Zb7 h1.st.is gl (by rw[h1.st.hs];exact hnd) (by rw[h1.st.hs];exact hkf),?_⟩;have gx:SatF (ef V1 cu):=by
   rw[h3];exact⟨_,Zkd (Zpz (fun p hp=>(g3 p hp).1) g8) fun _=>false⟩
  refine(Zh5 (Bw:=fun _=>True) (T:=fun _=>False) (xb:=xb) Zb1 Zxx (Ydn (.inl rfl)) (fun _ _ h _=>h) Zs5 Zjs h1.st.is h1.st.lt gl h1.st.ok gA trivial (fun q hq=>hq.elim) (h1.st.ext.ok hf) h2 gx).mono fun x w' hx=>?_
  have gk:P x w':=by
   rw[hP];rw[<- hQ] at hx;refine(Zbr.base h1 (Nat.le_refl _) hx).good fun d V' r hd hr=>?_
   show ef V' r=_
   rw[show ef V' r=_ from hr,h3,h1.st.ext.ef hf,hd];refine Zq6 (fun p hp=>(g3 p hp).1) g8 fun p hp=>?_
   have h4:=g3 p hp;have h5:=hk.inv p.1.toNat (by rw[hn];omega);have h6:=hk.dag.lt p.1.toNat (by rw[hn];omega);rw[<- h5];rw[show m.d.vars.getD (levN m.d p.1.toNat) 0=m.d.vars[levN m.d p.1.toNat] by simp[List.getD,h6]];exact List.getElem_mem _
  rcases hx.kind with ⟨r,rfl⟩|⟨er,evt,ev,rfl⟩
  . exact .inl ⟨r,rfl,gk⟩
  . exact .inr ⟨er,evt,ev,rfl,gk⟩
 rw[<- hQ,<- hP];clear hP hQ hm hlt hx hk hn hnd hkf hf hok hls ha hol hof g3 g8 cf
 go_enter func64,ntmps64
 go_wp2_with fail
 go_loopw [5,7,8,11] (fun s5 _ _ s11 wr=>∃ (j r:Nat) (o1:Own) (m1:ManD) (V1:Nat->BF),j<=ls.length/\s11=.int .i64 j/\s5=.int .i64 r/\Hid (AtC Za5 (j*Q) o w mb m V o1 wr m1 V1)/\Hid (okE (Zaa m1.d) r/\ef V1 r=Zfv (ls.take j))) (fun _ _ _ s11 _=>ls.length-(intOf s11).toNat)
 case atStart=>exact⟨0,0,o,m,V,Nat.zero_le _,rfl,rfl,gi,gw⟩
 case round =>
  clear gi gw cl;obtain⟨j,r,o1,m1,V1,hj,rfl,rfl,g4,HR⟩:=hrel
  by_cases hlt:j<ls.length
  .
   have gC:(j:Int)<(ls.length:Int):=by omega
   obtain⟨b,off,rfl,d0,d1⟩:=(gH.out.step g4.out.st HA.out).cells j hlt;have gb:Hid (ls.take (j+1)=ls.take j++[ls[j]]):=Hd (List.take_succ_eq_append_getElem hlt);have g6:=Hd (gz.out _ (List.getElem_mem hlt));have gv:=Hd (gj.out j hlt);obtain⟨p,hp⟩:∃ p,p=ls[j]:=⟨_,rfl⟩;rw[<- hp] at d0 d1 gb g6;obtain⟨pv,py⟩:=p;dsimp only at d0 d1 gb g6;obtain⟨vn,gB⟩:∃ vn:Nat,pv=(vn:Int):=⟨pv.toNat,by have:=g6.out.1;omega⟩;subst gB;have gE:Hid (vn<n):=Hd (by have:=g6.out.2;omega);obtain⟨w2,ga⟩:∃ w2,w2=wr.alloc (.cells #[.int .i64 (vn:Nat),.bool py] 64):=⟨_,rfl⟩;have gD:Hid (_=w2):=Hd ga.symm;have gd:Below wr.heap.size wr w2:=by rw[ga];exact Zad _ _
   have g2:w2.heap[wr.heap.size]?=some (.cells #[.int .i64 (vn:Nat),.bool py] 64 (0,0)):=by rw[ga];exact heap_alloc_new _ _
   have g1:AtC Za5 (j*Q) o w mb m V o1 w2.drew m1 V1:=g4.out.below (gd.trans ((Zaf w2 1).mono gd.size));have e0:w2.drew.cell? ⟨wr.heap.size,0,none⟩=some (.int .i64 (vn:Nat)):=(by simp[World.cell?,g2]:w2.cell? ⟨wr.heap.size,0,none⟩=some (.int .i64 (vn:Nat)));have e1:w2.drew.cell? ⟨wr.heap.size,1,none⟩=some (.bool py):=(by simp[World.cell?,g2]:w2.cell? ⟨wr.heap.size,1,none⟩=some (.bool py));have g7:o1 wr.heap.size=none:=g4.out.st.lt.none (Nat.le_refl _)
   have gt:Hid (Calls prog 60 #[.pointer (some ⟨xb,0,none⟩),.int .i64 vn,.int .i64 1,.int .i64 0] w2.drew fun e w'=>(∃ u,e=.returned u/\(w'.cell? ⟨wr.heap.size,0,none⟩=some (.int .i64 (vn:Nat))/\w'.cell? ⟨wr.heap.size,1,none⟩=some (.bool py))/\∃ (q:Nat) (o2:Own) (m2:ManD) (V2:Nat->BF),u=.int .i64 q/\AtC Za5 (j*Q+1) o w mb m V o2 w' m2 V2/\okE (Zaa m2.d) q/\ef V2 q=varF vn/\okE (Zaa m2.d) r/\ef V2 r=Zfv (ls.take j))\/(∃ ch,e=.panicked ch/\P (.panicked ch) w')):=Hd ((Zyv Zb1 g1.st.is g1.st.lt (HX.out.chg g1.st.chg) g1.st.ok vn (by rw[g1.vars gq.out];exact gE.out)).mono (by
    rintro e w' (⟨q,o2,m2,V2,rfl,p1,p2,p3⟩|⟨er,evt,ev,rfl,g5⟩)
    . exact .inl ⟨_,rfl,⟨p1.st.chg.cell e0 g7,p1.st.chg.cell e1 g7⟩,q,o2,m2,V2,rfl,g1.trans p1,p2,p3,p1.st.ext.ok HR.out.1,by rw[p1.st.ext.ef HR.out.1];exact HR.out.2⟩
    . exact .inr ⟨_,rfl,gf.out _ _ _ _ _ _ _ _ _ g1 _ g5 (by have:=gv.out;omega)⟩))
   clear hp ga gd g2 g1 g7 g4 HR g6;go_upto_region 5 with fail;rw[gD.out];refine Zit [0,1,2,4,5,6,3,7,8] (fun W=>W.cell? ⟨wr.heap.size,0,none⟩=some (.int .i64 (vn:Nat))/\W.cell? ⟨wr.heap.size,1,none⟩=some (.bool py)) (fun ch w'=>P (.panicked ch) w') (fun c a w hd h=>⟨hd,h⟩) (by kernel_rfl) ⟨e0,e1⟩ ?_
   iterate 6
    refine Zf2 rfl rfl (by kernel_rfl) ?_;apply Exists.intro;refine⟨fun w' hw=>?_,?_⟩
    . obtain⟨q1,q2⟩:=hw;go_simp;rfl
    simp only[Zai]
   refine Zjb rfl (by kernel_rfl) rfl rfl (by go_simp) gt.out ?_;rintro u w3 gp ⟨q,o2,m2,V2,rfl,g9,gc,go,gn,gm⟩;have g0:=Hd g9;have gs:=Hd (show (okE (Zaa m2.d) q/\ef V2 q=varF vn)/\okE (Zaa m2.d) r/\ef V2 r=Zfv (ls.take j) from ⟨⟨gc,go⟩,gn,gm⟩);have gr:=Hd gp;have gu:=Hd (Zc9 q (!py) w3 (Zg6 g9.st.is gc));clear g9 gc go gn gm gp gt e0 e1;simp only[Zai];refine Zhb (R1:=fun u w'=>u=.int .i64 (eflip q (!py):Nat)/\w3=w') rfl (by kernel_rfl) rfl rfl (by go_simp) (gu.out.mono fun x w' h=>⟨_,h.1,rfl,h.2⟩) (by rintro u w' ⟨_,rfl⟩;exact gr.out) ?_;rintro u w'-⟨rfl,rfl⟩;simp only[Zai];refine Zf2 rfl rfl (by kernel_rfl) ?_;apply Exists.intro;refine⟨fun w' hw=>?_,?_⟩
   . clear hw;go_simp;rfl
   simp only[Zai];refine Zp0 (by kernel_rfl) ?_
   have gg:Hid (Calls prog 37 #[.pointer (some ⟨xb,0,none⟩),.int .i64 r,.int .i64 (eflip q (!py):Nat),.int .i64 1] w3 fun e w'=>(∃ (r2:Nat) (o3:Own) (m3:ManD) (V3:Nat->BF),e=.returned (.int .i64 r2)/\Hid (AtC Za5 ((j+1)*Q) o w mb m V o3 w' m3 V3)/\Hid (okE (Zaa m3.d) r2/\ef V3 r2=Zfv (ls.take (j+1))))\/(∃ er evt ev,e=Zbg er evt ev/\P (Zbg er evt ev) w')):=Hd (by
    obtain⟨⟨h1,h2⟩,h3,h4⟩:=gs.out;refine(Zii Zb1 g0.out.st.is g0.out.st.lt (HX.out.chg g0.out.st.chg) g0.out.st.ok (g0.out.vars gq.out) r (eflip q (!py)) 1 h3 (Zdz h1) (.inl rfl)).mono ?_;rw[<- HQ.out];rintro e w' (⟨r2,o3,m3,V3,rfl,p1,p2,p3⟩|⟨er,evt,ev,rfl,g5⟩)
    .
     refine .inl ⟨r2,o3,m3,V3,rfl,Hd ((g0.out.trans p1).mono (by rw[Nat.add_mul,Nat.one_mul];omega)),Hd ⟨p2,?_⟩⟩;funext ρ;rw[show ef V3 r2=_ from p3,gb.out,Zv8,h4,Zy1,h2,show ef V2 1=fun _=>false from g0.out.st.ok.dag.ef1]
     show iteB (Zfv (ls.take j) ρ) ((if (!py)=true then notF (varF vn) else varF vn) ρ) false=(Zfv (ls.take j) ρ&&(ρ ((vn:Int)).toNat == py))
     rw[Int.toNat_natCast];cases py<;>cases hc:Zfv (ls.take j) ρ<;>cases hv:ρ vn<;>simp[iteB,notF,varF,hv]
    . exact .inr ⟨er,evt,ev,rfl,gf.out _ _ _ _ _ _ _ _ _ g0.out _ g5 (by have:=gv.out;omega)⟩)
   clear gu gr gs g0 gb;go_wp2_with fail;refine gg.out.mono ?_;rintro x w4 (⟨r2,o3,m3,V3,rfl,gy,gF⟩|⟨er,evt,ev,rfl,hp⟩)
   .
    clear gg;go_wp2_with fail;go_roundw
    case rel=>exact⟨j+1,r2,o3,m3,V3,by omega,by go_num,rfl,gy,gF⟩
    case measure=>simp[intOf];omega
   . have HF:=Hd hp;clear hp gg;unfold Zbg;go_wp2_with fail;exact⟨rfl,HF.out⟩
  .
   obtain rfl:j=ls.length:=by omega
   have gC:¬ (ls.length:Int)<(ls.length:Int):=by omega
   have hr:=HR.out;rw[List.take_length] at hr;have HE:=Hd (gh.out o1 wr m1 V1 r g4.out hr.1 hr.2);have gI:=Hd HE.out.1;have ge:=Hd HE.out.2;have cfr:=g4.out.st.chg.cell gJ.out gG.out.2;clear hr HE gh g4 HR;go_wp2_with fail;refine gI.out.mono ?_;rintro x w' ⟨rfl,rfl⟩;go_wp2_with fail;refine ge.out.mono ?_;rintro x w6 (⟨q,rfl,hp⟩|⟨er,evt,ev,rfl,hp⟩)
   . have HF:=Hd hp;clear hp ge;go_wp2_with fail;exact HF.out
   . have HF:=Hd hp;clear hp ge;unfold Zbg;go_wp2_with fail;exact⟨rfl,HF.out⟩
end
open Go.RowKit
section
variable {K:Law}{n k:Nat}{Od:List Nat->Prop}{room:Nat}{w0:World}{fs:List (Int×BF)}{nx:Int}{o o':Own}{w w1 W:World}{mb xb:Nat}{m:ManD}{V:Nat->BF}{ws0:List Ev}
theorem Zmu {ls:List (Int×Bool)}{p:Int×Bool}(hp:p∈ls)(h:¬ (0<=p.1/\p.1<(n:Int))):Zgm n ls=9:=if_neg fun hh=>h (hh p hp)
theorem Zkw (h:SatE Za5 n (fun _=>True) room w0 mb fs nx w o m V)(hn6:n<=64){kf:Int}{F:BF}(hf:(kf,F)∈fs){a:Option Addr}{c:Nat}{ls:List (Int×Bool)}(hls:Ze5 w a ls)(ha:ls≠[]->∀ x,a=some x->o x.block=none)(hst:m.waits <:+ ws0)(hn:nx<=549755813888)(hr:Zgm n ls=0->fs.length*2^n+(ls.length*2^n+(2^n-1)*2^n)<=room) :
 Calls prog 25 #[.pointer (some ⟨mb,0,none⟩),.int .i64 kf,.slice a ls.length c] w fun x w'=>(Zgm n ls=0->NewF Za5 n room w0 mb fs nx ws0 (Zl9 ls F) o w x w')/\(Zgm n ls≠0->x=.returned (.tuple #[.int .i64 0,.int .i64 (Zgm n ls)])/\Below w.heap.size w w'):=by
 have gS:∀ (fn:Fn) (first cap:Array Value) (w:World),(Instr.makeFunc fn first cap).run prog w=.ok (.func fn first cap) w:=fun _ _ _ _=>rfl
 obtain⟨w2,gt,g1,gE,c0,c1⟩:=boxes2v w (.int .i64 kf) (.slice a ls.length c) 3 106;have gO:Hid (_=w2):=Hd gt.symm;obtain⟨w3,gg⟩:∃ w3,w3=w2.alloc (.cells #[.int .i64 kf] 3):=⟨_,rfl⟩;have gN:Hid (_=w3):=Hd gg.symm;have g6:Below w2.heap.size w2 w3:=by rw[gg];exact Zad _ _
 have hz:Zay w3 (some ⟨w2.heap.size,0,none⟩) [kf]:=by rw[gg];exact Zes w2 [kf] (by simp)
 have gD:=Hd (Zd9 (h.below (g1.trans (g6.mono g1.size))) (c:=1) hz (er:=0) (.inl ⟨rfl,fun k hk=>by simp at hk;subst hk;exact⟨F,hf⟩⟩));have gP:=Hd ((h.below (g1.trans (g6.mono g1.size))).vars_any);have HB2:=Hd g1;have gU:=Hd g6;have gT:=hls.len;obtain⟨P,hP⟩:∃ P:Ending->World->Prop,P=fun x w'=>(Zgm n ls=0->NewF Za5 n room w0 mb fs nx ws0 (Zl9 ls F) o w x w')/\(Zgm n ls≠0->x=.returned (.tuple #[.int .i64 0,.int .i64 (Zgm n ls)])/\Below w.heap.size w w'):=⟨_,rfl⟩
 have g8:Hid (∀ er W,Zgm n ls=er->er≠0->Below w2.heap.size w2 W->P (.returned (.tuple #[.int .i64 0,.int .i64 er])) W):=Hd fun er W he g0 hb=>by
  rw[hP];exact⟨fun e=>absurd (by rw[<- he];exact e) g0,fun _=>⟨by rw[he],g1.trans (hb.mono g1.size)⟩⟩
 have gz:Hid (∀ W,Below w2.heap.size w2 W->Zgm n ls=0->Calls prog 35 #[.pointer (some ⟨mb,0,none⟩),.func (.func 64) #[] #[.pointer (some ⟨w.heap.size+1,0,none⟩),.pointer (some ⟨w.heap.size,0,none⟩)]] W fun x w'=>∃ p q,x=.returned (.tuple #[.int .i64 p,.int .i64 q])/\P x w'):=Hd fun W hb gn=>by
  have d0:=(hb.cell (p:=⟨w.heap.size,0,none⟩) (Zab c0)).trans c0;have d1:=(hb.cell (p:=⟨w.heap.size+1,0,none⟩) (Zab c1)).trans c1;have gp:=g1.trans (hb.mono g1.size)
  refine(Ya0 (K:=Za5) (C:=fun q=>(q=w.heap.size+1\/q=w.heap.size)\/(ls≠[]/\(∃ x,a=some x/\q=x.block)/\w0.heap.size<=q)) (B:=fun W=>(W.cell? ⟨w.heap.size+1,0,none⟩=some (.slice a ls.length c)/\W.cell? ⟨w.heap.size,0,none⟩=some (.int .i64 kf))/\∀ x,ls≠[]->a=some x->w0.heap.size<=x.block->W.heap[x.block]?=w.heap[x.block]?) (F:=Zl9 ls F) (k:=ls.length*2^n+(2^n-1)*2^n) (lop:=#[.pointer (some ⟨w.heap.size+1,0,none⟩),.pointer (some ⟨w.heap.size,0,none⟩)]) Zb1 Zj4 ws0
   (fun W W' hB hk=>⟨⟨(World.cell?_of_block (w:=W) (a:=⟨w.heap.size+1,0,none⟩) (hk _ (.inl (.inl rfl)))).trans hB.1.1,(World.cell?_of_block (w:=W) (a:=⟨w.heap.size,0,none⟩) (hk _ (.inl (.inr rfl)))).trans hB.1.2⟩,fun x g0 hx hz=>(hk _ (.inr ⟨g0,⟨x,hx,rfl⟩,hz⟩)).trans (hB.2 x g0 hx hz)⟩)
   (fun o' W' m' V' xb hs' hB hC gF _=>?_) h gp (fun k hk=>?_) ⟨⟨d1,d0⟩,fun x g0 hx _=>gp.block _ (by subst hx;exact hls.lt g0)⟩ hst hn (hr gn)).mono ?_
  .
   obtain⟨f,gu,gM⟩:=hs'.find hf;have gC:∀ x,ls≠[]->a=some x->W'.heap[x.block]?=w.heap[x.block]?:=fun x g0 hx=>by
    rcases Nat.lt_or_ge x.block w0.heap.size with hz|hz
    . exact(hs'.chg.below0.block _ hz).trans (h.chg.below0.block _ hz).symm
    . exact hB.2 x g0 hx hz
   have gi:=Zq4 hs'.is hs'.lt gF hs'.ok.store hs'.vars hs'.ok.handles.nodup gu (hs'.ok.handles.ok _ gu) gn (hls.keep fun g0 x v hx o hc=>(World.cell?_of_block (w:=w) (a:=⟨x.block,o,none⟩) (gC x g0 hx)).trans hc) (fun g0 x hx=>by
    rcases Nat.lt_or_ge x.block w0.heap.size with hz|hz
    . exact hs'.none0 hz
    . exact(hC _ (.inr ⟨g0,⟨x,hx,rfl⟩,hz⟩)).2) hB.1.1 hB.1.2 (hC _ (.inl (.inl rfl))).2 (hC _ (.inl (.inr rfl))).2
   rw[show ef V' f=F from gM] at gi;exact gi
  .
   rcases hk with (rfl|rfl)|⟨g0,⟨x,hx,rfl⟩,hz⟩
   . exact⟨Zab d1,.inl (by omega)⟩
   . exact⟨Zab d0,.inl (Nat.le_refl _)⟩
   .
    have gb:x.block<w.heap.size:=by subst hx;exact hls.lt g0
    exact⟨Nat.lt_of_lt_of_le gb gp.size,.inr ⟨hz,ha g0 x hx,fun W hW=>hW.2 x g0 hx hz⟩⟩
  . intro x w' hx;refine⟨nx,0,hx.1,?_⟩;rw[hP];exact⟨fun _=>hx,fun e=>absurd gn e⟩
 have gQ:Hid (Ze5 w2 a ls):=Hd (hls.below g1);have gm:w2.heap.size<=w3.heap.size:=g6.size;have c13:=(g6.cell (p:=⟨w.heap.size+1,0,none⟩) (Zab c1)).trans c1;rw[<- hP];clear hP gt g1 gg hz h hf hls ha hst hn hr gE
 go_enter func25,ntmps25
 go_upto_region 1 with fail;rw[gO.out];go_wp2_with fail;rw[gN.out];refine gD.out.mono ?_;rintro x w' ⟨rfl,rfl⟩;go_wp2_with fail;refine gP.out.mono ?_;rintro x w' ⟨rfl,rfl⟩;go_wp2_with (at_make;refine Zc3 Zdh rfl _ _ rfl w2.heap.size w2 _ n rfl rfl rfl (by omega) gm g6 ?_;intro g w4 gh gq gH gI gL gK;have c14:=(gq.cell (p:=⟨w.heap.size+1,0,none⟩) (Zab c1)).trans c1;clear gK)
 have gy:Hid (OwnB w4 w2.heap.size (.slice (some ⟨g,0,none⟩) n n) (metL n (ls.take 0))):=Hd (by
  rw[List.take_zero,Zzm];unfold OwnB;simpa [Zbj] using gh)
 have gB:=Hd gq;clear gh gq gH gI g6 gm c13;go_wp2_with fail
 go_loopw [6,7,10,12,25] (fun _ _ s10 _ s25 wr=>∃ (j:Nat) (tw:Bool),j<=ls.length/\s25=.int .i64 j/\s10=.bool tw/\Hid (tw=false↔((ls.take j).map (·.1)).Nodup)/\Hid (OwnB wr w2.heap.size (.slice (some ⟨g,0,none⟩) n n) (metL n (ls.take j)))/\Hid (Below w2.heap.size w2 wr)/\Hid (∀ q,∀ hq:q<ls.length,q<j->0<=ls[q].1/\ls[q].1<(n:Int))) (fun _ _ _ _ s25 _=>ls.length-(intOf s25).toNat)
 case atStart=>exact⟨0,false,Nat.zero_le _,rfl,rfl,Hd (by simp),gy,gB,Hd fun q hq h=>by omega⟩
 case round =>
  clear gy gB;obtain⟨j,tw,hj,rfl,rfl,gc,g3,g2,gf⟩:=hrel
  by_cases gb:j<ls.length
  .
   have gJ:(j:Int)<(ls.length:Int):=by omega
   obtain⟨b,off,rfl,d0,d1⟩:=(gQ.out.below g2.out).cells j gb;have gd:Hid (ls.take (j+1)=ls.take j++[ls[j]]):=Hd (List.take_succ_eq_append_getElem gb);have gk:=Hd (List.getElem_mem gb);have g4:Hid (0<=ls[j].1->ls[j].1<(n:Int)->∀ q,∀ hq:q<ls.length,q<j+1->0<=ls[q].1/\ls[q].1<(n:Int)):=Hd fun h1 h2 q hq gR=>by
    rcases Nat.lt_or_ge q j with c|c
    . exact gf.out q hq c
    .
     obtain rfl:q=j:=by omega
     exact⟨h1,h2⟩
   obtain⟨p,hp⟩:∃ p,p=ls[j]:=⟨_,rfl⟩;rw[<- hp] at d0 d1 gd gk g4;obtain⟨pv,py⟩:=p;dsimp only at d0 d1 gd g4;obtain⟨w5,g9⟩:∃ w5,w5=wr.alloc (.cells #[.int .i64 pv,.bool py] 64):=⟨_,rfl⟩;have gj:Hid (_=w5):=Hd g9.symm;have gv:Below wr.heap.size wr w5:=by rw[g9];exact Zad _ _
   have g5:w5.heap[wr.heap.size]?=some (.cells #[.int .i64 pv,.bool py] 64 (0,0)):=by rw[g9];exact heap_alloc_new _ _
   have gl:Hid (Below w2.heap.size w2 w5):=Hd (g2.out.trans (gv.mono g2.out.size));have e0:w5.cell? ⟨wr.heap.size,0,none⟩=some (.int .i64 pv):=by simp[World.cell?,g5]
   have g7:Hid (OwnB w5 w2.heap.size (.slice (some ⟨g,0,none⟩) n n) (metL n (ls.take j))):=Hd (by rw[g9];exact g3.out.alloc _);clear hp g9 gv g5
   by_cases h0:pv<0
   . have HF:=Hd (g8.out 9 w5 (Zmu gk.out (by dsimp only;omega)) (by decide) gl.out);clear g3 g2 g7;go_upto_region 9 with fail;rw[gj.out];go_wp2_with fail;exact HF.out
   by_cases h1:pv>=(n:Int)
   . have HF:=Hd (g8.out 9 w5 (Zmu gk.out (by dsimp only;omega)) (by decide) gl.out);clear g3 g2 g7;go_upto_region 9 with fail;rw[gj.out];go_wp2_with fail;exact HF.out
   obtain⟨vn,gG⟩:∃ vn:Nat,pv=(vn:Int):=⟨pv.toNat,by omega⟩;subst gG;have ge:vn<n:=by omega
   have gw:=Hd (g4.out (by omega) (by omega));obtain⟨mt,go⟩:∃ mt:Bool,mt=decide ((vn:Int)∈(ls.take j).map (·.1)):=⟨_,rfl⟩;have q0:w5.cell? ⟨g,vn,none⟩=some (.bool mt):=by
    rw[go,<- Zzl (ls.take j) ge];exact g7.out.cellB vn (by rw[Zrn];exact ge)
   have p0:=g7.out.frozen vn
   have gr:Hid ((tw||mt)=false↔((ls.take (j+1)).map (·.1)).Nodup):=Hd (by
    rw[gd.out,List.map_append,List.map_cons,List.map_nil,Zub,<- gc.out,Bool.or_eq_false_iff,go,decide_eq_false_iff_not])
   have gx:Hid (OwnB (w5.setCell ⟨g,vn,none⟩ (.bool true)) w2.heap.size (.slice (some ⟨g,0,none⟩) n n) (metL n (ls.take (j+1)))):=Hd (by
    rw[gd.out,Zw7 _ ge];exact g7.out.setB vn true)
   have gA:Hid (Below w2.heap.size w2 (w5.setCell ⟨g,vn,none⟩ (.bool true))):=Hd (gl.out.setCell gL _);clear go gc g3 g2 gf g4 g7 gl gd gk;cases tw with
   | true =>
     go_upto_region 9 with fail;rw[gj.out];go_wp2_with fail;go_roundw
     case rel=>exact⟨j+1,true,by omega,by go_num,rfl,Hd (by have:=gr.out;simpa using this),gx,gA,gw⟩
     case measure=>simp[intOf];omega
   | false =>
     go_upto_region 9 with fail;rw[gj.out];go_wp2_with fail;go_roundw
     case rel=>exact⟨j+1,mt,by omega,by go_num,rfl,Hd (by have:=gr.out;simpa using this),gx,gA,gw⟩
     case measure=>simp[intOf];omega
  .
   obtain rfl:j=ls.length:=by omega
   have gJ:¬ (ls.length:Int)<(ls.length:Int):=by omega
   have gs:Hid (∀ p∈ls,0<=p.1/\p.1<(n:Int)):=Hd fun p hp=>by
    obtain⟨q,hq,rfl⟩:=List.getElem_of_mem hp;exact gf.out q hq hq
   have ga:=gc.out;rw[List.take_length] at ga;cases tw with
   | true =>
     have HF:=Hd (g8.out 6 wr (by
      unfold Zgm;rw[if_pos gs.out,if_neg (fun e=>by have:=ga.2 e;cases this)]) (by decide) g2.out)
     clear ga gc g3;go_wp2_with fail;exact HF.out
   | false =>
     have HD:=Hd (gz.out wr g2.out (by
      unfold Zgm;rw[if_pos gs.out,if_pos (ga.1 rfl)]))
     clear ga gc g3 gz g8;go_wp2_with fail;refine HD.out.mono ?_;rintro x w' ⟨p,q,rfl,hp⟩;have HF:=Hd hp;clear hp HD;go_wp2_with fail;exact HF.out
end
open Go.RowKit
theorem Zwv {op:Int}(h:0<=(Zeu op).1):1<=op/\op<=10/\(Zeu op).2<=64:=by
 unfold Zeu at h ⊢;split
 . rename_i h1;exact⟨by omega,by omega,by simp⟩
 .
  split
  . rename_i h1;exact⟨by omega,by omega,by simp⟩
  .
   split
   . rename_i h1;exact⟨by omega,by omega,by simp⟩
   .
    split
    . rename_i h1;exact⟨by omega,by omega,by simp⟩
    .
     split
     . rename_i h1;exact⟨by omega,by omega,by simp⟩
     . exfalso;revert h;simp_all
theorem Zm3 (f:Nat->Bool)(i:Nat):(List.range (i+1)).map f=(List.range i).map f++[f i]:=by simp[List.range_succ]
theorem Zhw (l:List Bool)(b:Bool):Zbj (l++[b])=Zbj l++[.bool b]:=by simp[Zbj]
theorem tmod2 (c:Nat):((c:Int).tmod 2 == 1)=decide (c%2=1):=by
 have e1:Int.tmod (c:Int) 2=((c%2:Nat):Int):=by rw[Int.tmod_eq_emod_of_nonneg (by omega)];rfl
 rw[e1]
 by_cases h:c%2=1
 . rw[h];rfl
 .
  have:((c%2:Nat):Int)≠1:=by omega
  rw[beq_eq_false_iff_ne.2 this,decide_eq_false h]
theorem Zro (a b:Nat):(((a:Nat):Int) == (b:Int))=decide (a=b):=by
 by_cases h:a=b
 . subst h;simp
 .
  have:(a:Int)≠b:=by omega
  rw[beq_eq_false_iff_ne.2 this,decide_eq_false h]
theorem Zly (ls:List Bool)(al:Option Addr)(cl:Nat):∀ (e:ExT) (x:Value) (w:World),Zs3 e->Zbf w e x->Zbp w al ls ->
 Calls prog 78 #[x,.slice al ls.length cl] w fun y w'=>y=.returned (.bool (fnT e (Zcv ls)))/\Below w.heap.size w w'
 | .nil,x,w,hv,h,_=>by unfold Zbf at h;exact h.elim
 | .mk op v n kid,x,w,hval,h,hls=>by
   unfold Zbf at h;obtain⟨a,c,rfl,h2,h3,h4,h5⟩:=h;obtain⟨v1,v2,v3,v4,v5,v6⟩:=hval;obtain⟨k1,k2,k3⟩:=Zwv v1;have hn64:n<=64:=by omega
   have H5:=Hd h5;have H6:=Hd v6;have gp:=Hd hls;have gF:=hls.len;have HE:Hid (fnT (ExT.mk op v n kid) (Zcv ls)=if op=3 then Zcv ls v.toNat else opB op n fun i=>fnT (kid i) (Zcv ls)):=Hd rfl;have IH:Hid (∀ (i:Nat) (x:Value) (W:World),i<n->Zbf W (kid i) x->Zbp W al ls->Calls prog 78 #[x,.slice al ls.length cl] W fun y w'=>y=.returned (.bool (fnT (kid i) (Zcv ls)))/\Below W.heap.size W w') :=
    Hd fun i x W hi h1 h2=>Zly ls al cl (kid i) x W (H6.out i hi) h1 h2
   obtain⟨B,hB⟩:∃ B,B=fnT (ExT.mk op v n kid) (Zcv ls):=⟨_,rfl⟩;obtain⟨f,hf⟩:∃ f:Nat->Bool,f=fun i=>fnT (kid i) (Zcv ls):=⟨_,rfl⟩
   have gE:Hid (∀ i,fnT (kid i) (Zcv ls)=f i):=Hd fun i=>by rw[hf]
   rw[<- hB] at HE ⊢;rw[<- hf] at HE;have gz:op=8\/op=9->n=2:=by rintro(rfl|rfl)<;>(simp[Zeu] at v4 v5;omega)
   have gy:op=10->n=3:=by rintro rfl;simp[Zeu] at v4 v5;omega
   have gG:op=4->n=1:=by rintro rfl;simp[Zeu] at v4 v5;omega
   obtain⟨w1,ga⟩:∃ w1,w1=w.alloc (.cells #[.int .i64 op,.int .i64 v,.slice a n c] 54):=⟨_,rfl⟩;have HW1:Hid (_=w1):=Hd ga.symm;have g5:Hid (Below w.heap.size w w1):=by rw[ga];exact Hd (Zad _ _)
   have g6:w1.heap[w.heap.size]?=some (.cells #[.int .i64 op,.int .i64 v,.slice a n c] 54 (0,0)):=by rw[ga];exact heap_alloc_new _ _
   have d0:w1.cell? ⟨w.heap.size,0,none⟩=some (.int .i64 op):=by rw[cell_of_row _ _ 0 _ _ _ g6];rfl
   have d1:w1.cell? ⟨w.heap.size,1,none⟩=some (.int .i64 v):=by rw[cell_of_row _ _ 1 _ _ _ g6];rfl
   have d2:w1.cell? ⟨w.heap.size,2,none⟩=some (.slice a n c):=by rw[cell_of_row _ _ 2 _ _ _ g6];rfl
   unfold okI at h2 h3;obtain⟨w2,gb⟩:∃ w2,w2=w1.alloc (.cells #[] 4):=⟨_,rfl⟩;have gB:Hid (_=w2):=Hd gb.symm;have HB2:Hid (Below w1.heap.size w1 w2):=by rw[gb];exact Hd (Zad _ _)
   have gf:Hid (OwnB w2 w1.heap.size (.slice (some ⟨w1.heap.size,0,none⟩) 0 0) []):=by rw[gb];exact Hd (Zem _ _ _ (Nat.le_refl _))
   have hs1:w1.heap.size=w.heap.size+1:=by rw[ga];simp
   rw[hs1] at gf;clear h5 ga gb g6 hf hB v1 v4 v5 v6 hls
   go_enter func78,ntmps78
   go_upto_region 1 with fail;rw[HW1.out];go_upto_region 3 with fail;rw[gB.out];have gw:w1.heap.size<=w2.heap.size:=HB2.out.size;have d0':=(HB2.out.cell (p:=⟨w.heap.size,0,none⟩) (Zab d0)).trans d0;have d1':=(HB2.out.cell (p:=⟨w.heap.size,1,none⟩) (Zab d1)).trans d1;have d2':=(HB2.out.cell (p:=⟨w.heap.size,2,none⟩) (Zab d2)).trans d2;go_wp2_with fail
   go_loopw [5,6,7,8] (fun s5 s6 s7 s8 wr=>∃ i k:Nat,i<=n/\k<=i/\s5=.int .i64 k/\s7=.int .i64 i/\Hid (k=cntT i f)/\Below w1.heap.size w1 wr/\OwnB wr w1.heap.size s6 ((List.range i).map f)/\w1.heap.size<=wr.heap.size) (fun _ _ s7 _ _=>n-(intOf s7).toNat)
   case atStart=>exact⟨0,0,Nat.zero_le _,Nat.le_refl _,rfl,rfl,Hd rfl,HB2.out,by rw[hs1];exact gf.out,gw⟩
   case round =>
    obtain⟨i,k,hi,gH,rfl,rfl,HK,g2,g0,gv⟩:=hrel;have e0:=(g2.cell (p:=⟨w.heap.size,0,none⟩) (Zab d0)).trans d0;have e1:=(g2.cell (p:=⟨w.heap.size,1,none⟩) (Zab d1)).trans d1;have e2:=(g2.cell (p:=⟨w.heap.size,2,none⟩) (Zab d2)).trans d2;have g3:=Hd g2;have gC:=Hd g0;clear g2 d0' d1' d2'
    by_cases gx:i<n
    .
     clear g0;obtain⟨b,off,x0,x1,x2,rfl,c0,c1,c2,hx⟩:=H5.out i gx;have g4:=g5.out.trans (g3.out.mono g5.out.size);have q0:=(g4.cell (p:=⟨b,off+i*3,none⟩) (Zab c0)).trans c0;have q1:=(g4.cell (p:=⟨b,off+i*3+1,none⟩) (Zab c1)).trans c1;have q2:=(g4.cell (p:=⟨b,off+i*3+2,none⟩) (Zab c2)).trans c2;have HX:=Hd (hx.below g4);have gD:=Hd (gp.out.below g4);have gA:(i:Int)<n:=by omega
     have gr:Hid (∀ y,f i=y->k+(if y then 1 else 0)=cntT (i+1) f):=Hd fun y hy=>by rw[<- hy,HK.out];rfl
     clear c0 c1 c2 hx g4;go_wp2_with fail;refine(IH.out i _ _ (by omega) HX.out gD.out).mono ?_;rintro y w3 ⟨rfl,gn⟩;have gi:=Hd gn;clear gn;go_upto_region 7 with fail;rw[gE.out];obtain⟨y,hy⟩:∃ y,f i=y:=⟨_,rfl⟩;rw[hy];have gq:=Hd (gr.out y hy);have gh:=Hd (gC.out.below gi.out);have ge:w1.heap.size<=w3.heap.size:=Nat.le_trans gv gi.out.size;have gj:=Hd (g3.out.trans (gi.out.mono g3.out.size));have go:Hid (Zbj ((List.range (i+1)).map f)=Zbj ((List.range i).map f)++[.bool y]):=Hd (by rw[Zm3,Zhw,hy]);clear gr hy q0 q1 q2 e0 e1 e2;go_upto_region 8 with (at_builtin;refine Zck Zdh _ rfl _ _ rfl w1.heap.size _ (Zbj ((List.range i).map f)) _ rfl rfl rfl rfl rfl (by exact gh.out) (by simp[Zbj];omega) ge ?_;intro v4 w4 gc q1 q2 q3 q4 gm)
     have gt:=Hd (Zgc gj.out gh.out q1 q2 q3 q4 gm ge);have gg:=Hd gc;have gd:w1.heap.size<=w4.heap.size:=by omega
     clear gc q1 q2 q3 q4 gm;cases y with
     | true =>
       go_wp2_with fail;go_roundw
       case rel=>exact⟨i+1,k+1,by omega,by omega,by go_num,by go_num,Hd gq.out,gt.out,by unfold OwnB;rw[go.out];exact gg.out,gd⟩
       case measure=>simp[intOf];omega
     | false =>
       go_wp2_with fail;go_roundw
       case rel=>exact⟨i+1,k,by omega,by omega,by go_num,by go_num,Hd gq.out,gt.out,by unfold OwnB;rw[go.out];exact gg.out,gd⟩
       case measure=>simp[intOf];omega
    .
     have he:i=n:=by omega
     subst he;have gA:¬ (i:Int)<i:=by omega
     have HF:Hid (∀ b:Bool,b=B->Ending.returned (.bool b)=.returned (.bool B)/\Below w.heap.size w wr):=Hd fun b hb=>⟨by rw[hb],g5.out.trans (g3.out.mono g5.out.size)⟩
     have g1:0<i->∃ g cap,u6=.slice (some ⟨g,0,none⟩) i cap/\∀ j,j<i->wr.cell? ⟨g,j,none⟩=some (.bool (f j)):=by
      intro hp;obtain⟨g,cap,e,_⟩:=g0.shape (by simp[Zbj];omega);have e':u6=.slice (some ⟨g,0,none⟩) i cap:=by rw[e];simp[Zbj]
      refine⟨g,cap,e',fun j hj=>?_⟩;rw[e'] at g0;have:=g0.cellB j (by simp;omega);rw[this];simp[List.getD,hj]
     clear g0;rcases(show op=1\/op=2\/op=3\/op=4\/op=5\/op=6\/op=7\/op=8\/op=9\/op=10 by omega) with rfl|rfl|rfl|rfl|rfl|rfl|rfl|rfl|rfl|rfl
     . go_wp2_with fail;go_ret;exact HF.out _ (by rw[HE.out];rfl)
     . go_wp2_with fail;go_ret;exact HF.out _ (by rw[HE.out];rfl)
     .
      obtain⟨v5,v6⟩:=v2 rfl;obtain⟨u,rfl⟩:∃ u:Nat,v=(u:Int):=⟨v.toNat,by omega⟩;have gs:Hid (B=Zcv ls u):=Hd (by rw[HE.out];rfl)
      by_cases hu:u<ls.length
      .
       obtain⟨bl,ol,rfl,cl0⟩:=(gp.out.below (g5.out.trans (g3.out.mono g5.out.size))).cells u hu;have gu:(u:Int)<ls.length:=by omega
       have g7:Hid (B=ls.getD u false):=gs;obtain⟨yy,gk⟩:∃ yy,yy=ls.getD u false:=⟨_,rfl⟩;rw[<- gk] at cl0 g7;clear gk;go_wp2_with fail;go_ret;exact HF.out _ g7.out.symm
      .
       have gu:¬ (u:Int)<ls.length:=by omega
       have g7:Hid (B=false):=Hd (by rw[gs.out];unfold Zcv;simp[List.getD,List.getElem?_eq_none (show ls.length<=u by omega)]);go_wp2_with fail;go_ret;exact HF.out _ g7.out.symm
     . have HV:Hid (((k:Int) == 0)=B):=Hd (by rw[HE.out,HK.out];exact Zro _ 0);go_wp2_with fail;go_ret;exact HF.out _ HV.out
     . have HV:Hid (((k:Int) == (i:Int))=B):=Hd (by rw[HE.out,HK.out];exact Zro _ i);go_wp2_with fail;go_ret;exact HF.out _ HV.out
     .
      have HV:Hid (decide (0<k)=B):=Hd (by
       rw[HE.out,HK.out];rfl)
      go_wp2_with fail;go_ret;exact HF.out _ HV.out
     . have HV:Hid (((k:Int).tmod 2 == 1)=B):=Hd (by rw[HE.out,HK.out];exact tmod2 _);go_wp2_with fail;go_ret;exact HF.out _ HV.out
     .
      have:=gz (.inl rfl);subst this;obtain⟨g,cap,rfl,hc⟩:=g1 (by omega);have c0:=hc 0 (by omega);have c1:=hc 1 (by omega);have HV:Hid ((!(f 0)||f 1)=B):=Hd (by rw[HE.out];rfl);obtain⟨y0,g9⟩:∃ y,y=f 0:=⟨_,rfl⟩;obtain⟨y1,g8⟩:∃ y,y=f 1:=⟨_,rfl⟩;rw[<- g9] at c0 HV;rw[<- g8] at c1 HV;clear g9 g8 hc g1;cases y0 with
      | true =>
        go_wp2_with fail;go_ret;exact HF.out _ HV.out
      | false =>
        go_wp2_with fail;go_ret;exact HF.out _ HV.out
     .
      have HV:Hid (((k:Int) != 1)=B):=Hd (by
       rw[HE.out,HK.out]
       show (!((cntT i f:Int) == ((1:Nat):Int)))=decide (cntT i f≠1)
       rw[Zro]
       by_cases h:cntT i f=1<;>simp[h])
      go_wp2_with fail;go_ret;exact HF.out _ HV.out
     .
      have:=gy rfl;subst this;obtain⟨g,cap,rfl,hc⟩:=g1 (by omega);have c0:=hc 0 (by omega);have c1:=hc 1 (by omega);have c2:=hc 2 (by omega);have HV:Hid (iteB (f 0) (f 1) (f 2)=B):=Hd (by rw[HE.out];rfl);obtain⟨y0,g9⟩:∃ y,y=f 0:=⟨_,rfl⟩;obtain⟨y1,g8⟩:∃ y,y=f 1:=⟨_,rfl⟩;obtain⟨y2,gl⟩:∃ y,y=f 2:=⟨_,rfl⟩;rw[<- g9] at c0 HV;rw[<- g8] at c1 HV;rw[<- gl] at c2 HV;clear g9 g8 gl hc g1;cases y0 with
      | true =>
        go_wp2_with fail;go_ret;exact HF.out _ HV.out
      | false =>
        go_wp2_with fail;go_ret;exact HF.out _ HV.out
open Go.RowKit
section
variable {P:Program}{ops:Array Oper}{S:World->Prop}{Q:Exit->Act->World->Prop}{last:Bool}
theorem Zua {o:Oper}{r:List (Option Oper×Bool)}{a:Act}{w w':World}{v:Value}(hw:Region.wanted o (yielded ops a.tmps)=true)
 (he:(execOp a.eval o).run P w=.ok (.value v) w') (hS:S w') (h:Zc4 P ops Q S last r (a.put o.dst v) w'):Zc4 P ops Q S last ((some o,true)::r) a w:=by
 unfold Zc4;simp only[hw,if_true,Oper.wp,he,Oper.upon];exact⟨.inr hS,h⟩
theorem Zt9 {o:Oper}{r:List (Option Oper×Bool)}{a:Act}{w:World}{f:FuncId}{args:Array Value}{R:Value->World->Prop}(hw:Region.wanted o (yielded ops a.tmps)=true)
 (he:(execOp a.eval o).run P w=.ok (.enter f args) w) (hc:Calls P f args w fun e w'=>∃ v,e=.returned v/\S w'/\R v w')
 (h:∀ v w',S w'->R v w'->Zc4 P ops Q S last r (a.put o.dst v) w'):Zc4 P ops Q S last ((some o,true)::r) a w:=by
 unfold Zc4;simp only[hw,if_true,Oper.wp,he,Oper.upon];exact hc.mono fun e w' ⟨v,h1,h2,h3⟩=>by subst h1;exact⟨.inr h2,h v w' h2 h3⟩
end
theorem Zgo (mb:Nat)(b:Bool)(w:World):Calls prog 74 #[.pointer (some ⟨mb,0,none⟩),.bool b] w fun x w'=>x=.returned (.int .i64 (if b then 1 else 0))/\w=w':=by
 cases b with
 | true =>
   go_enter func74,ntmps74
   go_wp2_with fail;go_ret;exact⟨rfl,rfl⟩
 | false =>
   go_enter func74,ntmps74
   go_wp2_with fail;go_ret;exact⟨rfl,rfl⟩
theorem Ych {α:Type}{l:List α}(h:l.length=2):∃ a b,l=[a,b]:=by
 match l,h with
 | [a,b],_=>exact⟨a,b,rfl⟩
theorem Zwx {α:Type}{l:List α}(h:l.length=3):∃ a b c,l=[a,b,c]:=by
 match l,h with
 | [a,b,c],_=>exact⟨a,b,c,rfl⟩
theorem Zs0 {f:Nat->Nat}(h:∀ i,1<=f i):∀ k,k<=sumN k f
 | 0=>Nat.zero_le _
 | k+1=>by
   have:=Zs0 h k;have:=h k
   show k+1<=sumN k f+f k
   omega
section
variable {K:Law}{n:Nat}{Od:List Nat->Prop}{room:Nat}{w0 w w' w'':World}{mb:Nat}{fs fs':List (Int×BF)}{nx nx':Int}{o o':Own}{m m':ManD}{V V':Nat->BF}
theorem Goes.refl {M:Nat}(h:SatE K n Od room w0 mb fs nx w o m V)(hw:m.waits=[]/\m.d.pool.many<=M):Goes K n Od room w0 mb fs nx (NoW M) o w w:=⟨o,m,V,ChgX.of_below (Below.refl _ _) o NoB,hw,h⟩
theorem Goes.after {Wt:List Ev->Int->Nat->Prop}(hc:ChgX NoB o o' w w')(g:Goes K n Od room w0 mb fs nx Wt o' w' w''):Goes K n Od room w0 mb fs nx Wt o w w'':=by
 obtain⟨o2,m2,V2,h1,h2,h3⟩:=g;exact⟨o2,m2,V2,hc.trans h1 (fun _ _ e=>e),h2,h3⟩
theorem Goes.cell {Wt:List Ev->Int->Nat->Prop}(g:Goes K n Od room w0 mb fs nx Wt o w w'){p:Addr}{v:Value}(hc:w.cell? p=some v)(hb:o p.block=none):w'.cell? p=some v:=by
 obtain⟨o2,m2,V2,h1,h2,h3⟩:=g;exact h1.cell hc hb (fun e=>e)
theorem Goes.below0 {Wt:List Ev->Int->Nat->Prop}(g:Goes K n Od room w0 mb fs nx Wt o w w'):Below w0.heap.size w0 w':=by
 obtain⟨o2,m2,V2,h1,h2,h3⟩:=g;exact h3.chg.below0
structure BuiT (K:Law)(n:Nat)(Od:List Nat->Prop)(room:Nat)(w0:World)(mb:Nat)(fs:List (Int×BF))(nx:Int)(M:Nat)(o:Own)(w:World)(vl:Value)(ks:List Int)(W:World)(o':Own)(m':ManD)(V':Nat->BF):Prop where
 sat:SatE K n Od room w0 mb fs nx W o' m' V'
 waits:m'.waits=[]/\m'.d.pool.many<=M
 chg:ChgX NoB o o' w W
 l:LawL W o' w.heap.size vl ks
def BuiS (K:Law)(n:Nat)(Od:List Nat->Prop)(room:Nat)(w0:World)(mb:Nat)(fs:List (Int×BF))(nx:Int)(M:Nat)(o:Own)(w:World)(vl:Value)(ks:List Int)(W:World):Prop:=∃ o' m' V',BuiT K n Od room w0 mb fs nx M o w vl ks W o' m' V'
section
variable {M:Nat}{vl vl':Value}{ks:List Int}{W W':World}
theorem BuiT.go (h:BuiT K n Od room w0 mb fs nx M o w vl ks W o' m' V'){M':Nat}(g:Goes K n Od room w0 mb fs' nx' (NoW M') o' W W'):BuiS K n Od room w0 mb fs' nx' M' o w vl ks W':=by
 obtain⟨o2,m2,V2,h1,h2,h3⟩:=g;exact⟨o2,m2,V2,h3,h2,h.chg.trans h1 (fun _ _ e=>e),h.l.chg h1⟩
theorem BuiT.refl (h:BuiT K n Od room w0 mb fs nx M o w vl ks W o' m' V'):Goes K n Od room w0 mb fs nx (NoW M) o' W W:=Goes.refl h.sat h.waits
theorem BuiS.below (h:BuiS K n Od room w0 mb fs nx M o w vl ks W)(hb:Below W.heap.size W W'):BuiS K n Od room w0 mb fs nx M o w vl ks W':=by
 obtain⟨o',m',V',h⟩:=h;exact h.go (h.refl.below hb)
theorem BuiS.goes (h:BuiS K n Od room w0 mb fs nx M o w vl ks W):Goes K n Od room w0 mb fs nx (NoW M) o w W:=by
 obtain⟨o',m',V',h⟩:=h;exact⟨o',m',V',h.chg,h.waits,h.sat⟩
theorem BuiS.app {k:Int}(h:BuiT K n Od room w0 mb fs nx M o w vl ks W o' m' V')(hown:OwnC 3 W' w.heap.size vl' (Zbi ks++[.int .i64 k]))(e1:W'.os=W.os)(e2:W'.tape=W.tape)(e3:W'.output=W.output)(e4:W.heap.size<=W'.heap.size)(hk:Zdt vl vl' W W')(hw0:w0.heap.size<=w.heap.size) :
 BuiS K n Od room w0 mb fs nx M o w vl' (ks++[k]) W':=by
 have hw:=Zs8 e1 e2 e3 e4 hk;exact⟨o',m',V',h.sat.other hw (fun k _ hk=>⟨by have:=(h.l.own.lt k hk).1;omega,h.l.no k hk⟩),h.waits,h.chg.trans (ChgX.of_wr (C:=fun k=>w.heap.size<=k) hw o' (fun k _ hk=>(h.l.own.lt k hk).1)) (fun k hk e=>by omega),h.l.app h.sat.lt hown hk⟩
theorem BuiS.cells (h:BuiS K n Od room w0 mb fs nx M o w vl ks W)(hp:0<ks.length):∃ g c,vl=.slice (some ⟨g,0,none⟩) ks.length c/\∀ j,j<ks.length->W.cell? ⟨g,j,none⟩=some (.int .i64 (at0 ks j)):=by
 obtain⟨o',m',V',h⟩:=h;obtain⟨g,c,e,_⟩:=h.l.own.shape (by simpa [Zbi] using hp);have e':vl=.slice (some ⟨g,0,none⟩) ks.length c:=by rw[e];simp[Zbi]
 refine⟨g,c,e',fun j hj=>?_⟩;have ho:=h.l.own;rw[e'] at ho;rw[ho.cell j (by simpa [Zbi] using hj)];simp[Zbi,Zcl hj,hj]
theorem BuiS.cellsN (h:BuiS K n Od room w0 mb fs nx M o w vl ks W){i:Nat}(hl:ks.length=i)(hp:0<i):∃ g c,vl=.slice (some ⟨g,0,none⟩) i c/\∀ j,j<i->W.cell? ⟨g,j,none⟩=some (.int .i64 (at0 ks j)):=by
 subst hl;exact h.cells hp
end
def Zh0 (n s:Nat):Nat:=s*2^n-(2^n-1)
theorem Zih (n:Nat){s:Nat}(h:1<=s):Zh0 n s+(2^n-1)=s*2^n:=by
 have:=Nat.mul_le_mul_right (2^n) h;unfold Zh0;omega
def Ze1 (n:Nat)(kid:Nat->ExT)(i:Nat):Nat:=sumN i fun j=>Zh0 n (kid j).size
theorem Zo6 (n:Nat)(kid:Nat->ExT):∀ i,Ze1 n kid i+i*(2^n-1)=(sumN i fun i=>(kid i).size)*2^n
 | 0=>by simp[Ze1,sumN]
 | i+1=>by
   have h1:=Zo6 n kid i;have h2:=Zih n (kid i).size_pos
   show Ze1 n kid i+Zh0 n (kid i).size+(i+1)*(2^n-1)=((sumN i fun i=>(kid i).size)+(kid i).size)*2^n
   rw[Nat.add_mul,Nat.add_mul];omega
structure BCtx (K:Law)(n:Nat)(Od:List Nat->Prop)(room:Nat)(w0:World)(mb:Nat)(fs:List (Int×BF))(nx:Int)(M:Nat)(w w1:World)(o:Own)(m:ManD)(V:Nat->BF)(op v:Int)(nk:Nat)(kid:Nat->ExT)(a:Option Addr)(c:Nat)(E:ExT)(Q:Ending->World->Prop):Prop where
 HKK:Hid (Zb4 K)
 H5:Hid (∀ k,k<nk->∃ b off x0 x1 x2,a=some ⟨b,off,none⟩/\w0.cell? ⟨b,off+k*3,none⟩=some x0/\w0.cell? ⟨b,off+k*3+1,none⟩=some x1/\w0.cell? ⟨b,off+k*3+2,none⟩=some x2/\Zbf w0 (kid k) (.agg #[x0,x1,x2]))
 HKS:Hid (∀ i,i<nk->(sumN i fun i=>(kid i).size)+(kid i).size+1<=E.size)
 HSZ:Hid (E.size=1+sumN nk fun i=>(kid i).size)
 HPOS:Hid (∀ k,k<=sumN k fun i=>(kid i).size)
 IH:Hid (∀ (i:Nat) (x:Value) (fs':List (Int×BF)) (nx':Int) (W:World) (o':Own) (m':ManD) (V':Nat->BF) (M':Nat),i<nk->SatE K n Od room w0 mb fs' nx' W o' m' V'->m'.waits=[]/\m'.d.pool.many<=M'->B2 fs'->Zbf w0 (kid i) x->nx'+3*(kid i).size<549755813000->M'+(kid i).size*2^n<=room ->
  Calls prog 31 #[.pointer (some ⟨mb,0,none⟩),x] W fun y w'=>∃ k:Int,y=.returned (.tuple #[.int .i64 k,.bool true])/\k+3<=nx'+3*(kid i).size/\Goes K n Od room w0 mb (fs'++[(k,fnT (kid i))]) (k+1) (NoW (M'+Zh0 n (kid i).size)) o' W w')
 HW1:Hid (w.alloc (.cells #[.int .i64 op,.int .i64 v,.slice a nk c] 54)=w1)
 HG1:Hid (Goes K n Od room w0 mb fs nx (NoW M) o w1 w1)
 HSAT1:Hid (SatE K n Od room w0 mb fs nx w1 o m V)
 HWT:Hid (m.waits=[]/\m.d.pool.many<=M)
 HB2:Hid (B2 fs)
 HQ:Hid (∀ (k:Int) F W M',F=fnT E->k+3<=nx+3*E.size->M'<=M+Zh0 n E.size->Goes K n Od room w0 mb (fs++[(k,F)]) (k+1) (NoW M') o w1 W->Q (.returned (.tuple #[.int .i64 k,.bool true])) W)
 HMR:Hid (∀ i,i<nk->M+(sumN i fun i=>(kid i).size)*2^n+(kid i).size*2^n+2^n<=room)
 HCK:Hid (∀ i,Ze1 n kid i+i*(2^n-1)=(sumN i fun i=>(kid i).size)*2^n)
 HCI:Hid (∀ i,Zh0 n (kid i).size+(2^n-1)=(kid i).size*2^n)
 HEP:Hid (E.size*2^n=2^n+(sumN nk fun i=>(kid i).size)*2^n/\Zh0 n E.size+(2^n-1)=E.size*2^n)
 HME:Hid (M+E.size*2^n<=room)
 hn64:nk<=64
 hnx:nx+3*E.size<549755813000
 hE1:1<=E.size
 hs1:w1.heap.size=w.heap.size+1
 d0:w1.cell? ⟨w.heap.size,0,none⟩=some (.int .i64 op)
 d1:w1.cell? ⟨w.heap.size,1,none⟩=some (.int .i64 v)
 d2:w1.cell? ⟨w.heap.size,2,none⟩=some (.slice a nk c)
 on:o w.heap.size=none
 hw0:w0.heap.size<=w1.heap.size
 hp2:0<2^n
 h2 : -9223372036854775808<=op/\op<=9223372036854775807
 h3 : -9223372036854775808<=v/\v<=9223372036854775807
theorem Ztg {w1:World}{op v:Int}{nk:Nat}{kid:Nat->ExT}{a:Option Addr}{c:Nat}{E:ExT}{Q:Ending->World->Prop}{M:Nat}(hctx:BCtx K n Od room w0 mb fs nx M w w1 o m V op v nk kid a c E Q)(h1:op=1)(hF:fnT E=fun _=>true) :
 Calls prog 31 #[.pointer (some ⟨mb,0,none⟩),.agg #[.int .i64 op,.int .i64 v,.slice a nk c]] w Q:=by
 obtain⟨HKK,H5,HKS,HSZ,HPOS,IH,HW1,HG1,HSAT1,HWT,HB2,HQ,HMR,HCK,HCI,HEP,HME,hn64,hnx,hE1,hs1,d0,d1,d2,on,hw0,hp2,h2,h3⟩:=hctx;subst h1;have g2:=Hd (Zgo mb true w1);have g1:=Hd (Znk HKK.out HG1.out (by omega) (k:=1) (F:=fun _=>true) HB2.out.one);have g0:Hid ((fun _=>true)=fnT E):=Hd hF.symm;have g3:Hid (M<=M+Zh0 n E.size):=Hd (Nat.le_add_right _ _);clear IH
 go_enter func31,ntmps31
 go_upto_region 1 with fail;rw[HW1.out];go_wp2_with fail;refine g2.out.mono ?_;rintro y w' ⟨rfl,rfl⟩;go_wp2_with fail;refine g1.out.mono ?_;rintro y w2 ⟨rfl,g⟩;have HF:=Hd (HQ.out nx _ w2 _ g0.out (by omega) g3.out g);clear g;go_wp2_with fail;exact HF.out
theorem Zq2 {w1:World}{op v:Int}{nk:Nat}{kid:Nat->ExT}{a:Option Addr}{c:Nat}{E:ExT}{Q:Ending->World->Prop}{M:Nat}(hctx:BCtx K n Od room w0 mb fs nx M w w1 o m V op v nk kid a c E Q)(h1:op=2)(hF:fnT E=fun _=>false) :
 Calls prog 31 #[.pointer (some ⟨mb,0,none⟩),.agg #[.int .i64 op,.int .i64 v,.slice a nk c]] w Q:=by
 obtain⟨HKK,H5,HKS,HSZ,HPOS,IH,HW1,HG1,HSAT1,HWT,HB2,HQ,HMR,HCK,HCI,HEP,HME,hn64,hnx,hE1,hs1,d0,d1,d2,on,hw0,hp2,h2,h3⟩:=hctx;subst h1;have g2:=Hd (Zgo mb false w1);have g1:=Hd (Znk HKK.out HG1.out (by omega) (k:=0) (F:=fun _=>false) HB2.out.zero);have g0:Hid ((fun _=>false)=fnT E):=Hd hF.symm;have g3:Hid (M<=M+Zh0 n E.size):=Hd (Nat.le_add_right _ _);clear IH
 go_enter func31,ntmps31
 go_upto_region 1 with fail;rw[HW1.out];go_wp2_with fail;refine g2.out.mono ?_;rintro y w' ⟨rfl,rfl⟩;go_wp2_with fail;refine g1.out.mono ?_;rintro y w2 ⟨rfl,g⟩;have HF:=Hd (HQ.out nx _ w2 _ g0.out (by omega) g3.out g);clear g;go_wp2_with fail;exact HF.out
theorem Zvx {w1:World}{op v:Int}{nk:Nat}{kid:Nat->ExT}{a:Option Addr}{c:Nat}{E:ExT}{Q:Ending->World->Prop}{M:Nat}(hctx:BCtx K n Od room w0 mb fs nx M w w1 o m V op v nk kid a c E Q){u:Nat}(hu:u<n)(h1:op=3)(hvu:v=u)(hF:fnT E=varF u) :
 Calls prog 31 #[.pointer (some ⟨mb,0,none⟩),.agg #[.int .i64 op,.int .i64 v,.slice a nk c]] w Q:=by
 obtain⟨HKK,H5,HKS,HSZ,HPOS,IH,HW1,HG1,HSAT1,HWT,HB2,HQ,HMR,HCK,HCI,HEP,HME,hn64,hnx,hE1,hs1,d0,d1,d2,on,hw0,hp2,h2,h3⟩:=hctx;subst hvu;subst h1;have g1:=Hd (Ydz HKK.out HG1.out (by omega) (by have:=HEP.out;have:=HME.out;omega) hu);have g0:Hid (varF u=fnT E):=Hd hF.symm;have g2:Hid (M+1<=M+Zh0 n E.size):=Hd (by have:=HEP.out;omega);clear IH
 go_enter func31,ntmps31
 go_upto_region 1 with fail;rw[HW1.out];go_wp2_with fail;refine g1.out.mono ?_;rintro y w2 ⟨rfl,g⟩;have HF:=Hd (HQ.out nx _ w2 _ g0.out (by omega) g2.out g);clear g;go_wp2_with fail;exact HF.out
end
open Go.RowKit
section
variable {K:Law}{n:Nat}{Od:List Nat->Prop}{room:Nat}{w0 w w' w'':World}{mb:Nat}{fs fs':List (Int×BF)}{nx nx':Int}{o o':Own}{m m':ManD}{V V':Nat->BF}
theorem Zvt {w1:World}{op v:Int}{nk:Nat}{kid:Nat->ExT}{a:Option Addr}{c:Nat}{E:ExT}{Q:Ending->World->Prop}{M:Nat}(hctx:BCtx K n Od room w0 mb fs nx M w w1 o m V op v nk kid a c E Q)(h1:op=5\/op=6\/op=7)(hF:fnT E=accT op kid nk) :
 Calls prog 31 #[.pointer (some ⟨mb,0,none⟩),.agg #[.int .i64 op,.int .i64 v,.slice a nk c]] w Q:=by
 obtain⟨HKK,H5,HKS,HSZ,HPOS,IH,HW1,HG1,HSAT1,HWT,HB2,HQ,HMR,HCK,HCI,HEP,HME,hn64,hnx,hE1,hs1,d0,d1,d2,on,hw0,hp2,h2,h3⟩:=hctx;have ga:5<=op/\op<=9:=by omega
 have gb:Hid (accT op kid nk=fnT E):=Hd hF.symm;have gc:=Hd (fun b=>Zgo mb b w1)
 have g8:Hid (∀ z:Int,z=(if op=5 then 1 else 0)->Calls prog 73 #[.pointer (some ⟨mb,0,none⟩),.int .i64 z] w1 fun x w''=>x=.returned (.tuple #[.int .i64 nx,.int .i64 0])/\Goes K n Od room w0 mb (fs++[(nx,accT op kid 0)]) (nx+1) (NoW M) o w1 w''):=Hd (by
  rintro z rfl
  by_cases e:op=5
  . rw[if_pos e,show accT op kid 0=fun _=>true by unfold accT;simp[e]];exact Znk HKK.out HG1.out (by omega) HB2.out.one
  . rw[if_neg e,show accT op kid 0=fun _=>false by unfold accT;simp[e]];exact Znk HKK.out HG1.out (by omega) HB2.out.zero)
 obtain⟨A,hA⟩:∃ A:Nat->BF,A=accT op kid:=⟨_,rfl⟩;have gi:Hid (∀ i,Zpo op (A i) (fnT (kid i))=A (i+1)):=Hd fun i=>by rw[hA];rfl
 rw[<- hA] at g8 gb;clear hA;rcases h1 with h1|h1|h1
 all_goals
  subst h1
  go_enter func31,ntmps31
  go_upto_region 1 with fail;rw[HW1.out];go_wp2_with fail;refine(gc.out _).mono ?_;rintro y w' ⟨rfl,rfl⟩;go_wp2_with fail;refine(g8.out _ (by rfl)).mono ?_;rintro y w2 ⟨rfl,g⟩;have gh:=Hd g;clear g gc g8;go_wp2_with fail
  go_loopw [10,12,13,14] (fun s10 s12 s13 s14 wr=>∃ (i:Nat) (k:Int),i<=nk/\s10=.int .i64 k/\s12=.bool true/\s13=.int .i64 i/\Hid (k+3<=nx+3*((1+sumN i fun i=>(kid i).size:Nat):Int))/\Hid (Goes K n Od room w0 mb (fs++[(k,A i)]) (k+1) (NoW (M+(sumN i fun i=>(kid i).size)*2^n)) o w1 wr)) (fun _ _ s13 _ _=>nk-(intOf s13).toNat)
  case atStart=>exact⟨0,nx,Nat.zero_le _,rfl,rfl,rfl,Hd (by show nx+3<=nx+3*((1+0:Nat):Int);omega),Hd (gh.out.more (Nat.le_add_right _ _))⟩
  case round =>
   obtain⟨i,k,hi,rfl,rfl,rfl,HN,HG⟩:=hrel;have e0:=HG.out.cell (p:=⟨w.heap.size,0,none⟩) d0 on;have e2:=HG.out.cell (p:=⟨w.heap.size,2,none⟩) d2 on
   by_cases g0:i<nk
   .
    obtain⟨b,off,x0,x1,x2,rfl,c0,c1,c2,hx⟩:=H5.out i g0;have g1:=HG.out.below0;have q0:=(g1.cell (p:=⟨b,off+i*3,none⟩) (Zab c0)).trans c0;have q1:=(g1.cell (p:=⟨b,off+i*3+1,none⟩) (Zab c1)).trans c1;have q2:=(g1.cell (p:=⟨b,off+i*3+2,none⟩) (Zab c2)).trans c2;have ge:(i:Int)<nk:=by omega
    have gk:=HKS.out i g0;obtain⟨o1,m1,V1,g9,g5,g6⟩:=HG.out;have gj:=HN.out;have g2:=Hd (IH.out i _ (fs++[(k,A i)]) (k+1) _ o1 m1 V1 _ g0 g6 g5 (HB2.out.app _) hx (by omega) (by have:=HMR.out i g0;omega));have gd:=Hd g9;clear g1 c0 c1 c2 hx g6 g5 g9;go_wp2_with fail;refine g2.out.mono ?_;rintro y w3 ⟨k2,rfl,gm,g3⟩
    have g7:Hid (Goes K n Od room w0 mb (fs++[(k,A i),(k2,fnT (kid i))]) (k2+1) (NoW (M+(sumN i fun i=>(kid i).size)*2^n+Zh0 n (kid i).size)) o w1 w3):=Hd (by
     have:=g3.after gd.out;rw[List.append_assoc] at this;exact this)
    have f0:=g7.out.cell (p:=⟨w.heap.size,0,none⟩) d0 on;have HJ:=Hd (Zsg HKK.out g7.out HB2.out (by omega) (by have:=HMR.out i g0;have:=HCI.out i;omega) ga.1 ga.2);clear g3 g2 gd q0 q1 q2 e0 e2;go_wp2_with fail;refine HJ.out.mono ?_;rintro y w4 ⟨k4,rfl,gl,g4⟩
    have gg:Hid (Goes K n Od room w0 mb (fs++[(k4,A (i+1))]) (k4+1) (NoW (M+(sumN (i+1) fun i=>(kid i).size)*2^n)) o w1 w4):=Hd (by
     rw[<- gi.out i];refine g4.more ?_
     show _<=M+((sumN i fun i=>(kid i).size)+(kid i).size)*2^n
     rw[Nat.add_mul];have:=HCI.out i;omega)
    have gf:Hid (k4+3<=nx+3*((1+sumN (i+1) fun i=>(kid i).size:Nat):Int)):=Hd (by
     show k4+3<=nx+3*((1+((sumN i fun i=>(kid i).size)+(kid i).size):Nat):Int)
     omega)
    clear g4 HJ f0 g7;go_wp2_with fail;go_roundw
    case rel=>exact⟨i+1,k4,by omega,rfl,rfl,by go_num,gf,gg⟩
    case measure=>simp[intOf];omega
   .
    obtain rfl:i=nk:=by omega
    have ge:¬ (i:Int)<i:=by omega
    have HF:=Hd (HQ.out k _ _ _ gb.out (by have:=HN.out;have:=HSZ.out;omega) (by have:=HEP.out;omega) HG.out);go_wp2_with fail;exact HF.out
end
open Go.RowKit
section
variable {K:Law}{n:Nat}{Od:List Nat->Prop}{room:Nat}{w0 w w' w'':World}{mb:Nat}{fs fs':List (Int×BF)}{nx nx':Int}{o o':Own}{m m':ManD}{V V':Nat->BF}
theorem Zvv {w1:World}{op v:Int}{nk:Nat}{kid:Nat->ExT}{a:Option Addr}{c:Nat}{E:ExT}{Q:Ending->World->Prop}{M:Nat}(hctx:BCtx K n Od room w0 mb fs nx M w w1 o m V op v nk kid a c E Q)(h1:op=4)(hnk:nk=1)(hF:fnT E=notF (fnT (kid 0))) :
 Calls prog 31 #[.pointer (some ⟨mb,0,none⟩),.agg #[.int .i64 op,.int .i64 v,.slice a nk c]] w Q:=by
 obtain⟨HKK,H5,HKS,HSZ,HPOS,IH,HW1,HG1,HSAT1,HWT,HB2,HQ,HMR,HCK,HCI,HEP,HME,hn64,hnx,hE1,hs1,d0,d1,d2,on,hw0,hp2,h2,h3⟩:=hctx;have g1:(op == 1)=false:=by simp;omega
 have g2:(op == 2)=false:=by simp;omega
 have g3:(op == 3)=false:=by simp;omega
 have g5:(op == 5)=false:=by simp;omega
 have g6:(op == 6)=false:=by simp;omega
 have g7:(op == 7)=false:=by simp;omega
 have g4:(op == 4)=true:=by simp;omega
 have gB:=Hd hnk;clear h1 hnk;obtain⟨w2,ge⟩:∃ w2,w2=w1.alloc (.cells #[] 3):=⟨_,rfl⟩;have gA:Hid (_=w2):=Hd ge.symm;have g9:Below w1.heap.size w1 w2:=by rw[ge];exact Zad _ _
 have gl:Hid (BuiS K n Od room w0 mb (fs++[]) nx (M+Ze1 n kid 0) o w1 (.slice (some ⟨w.heap.size+1,0,none⟩) 0 0) (([]:List (Int×BF)).map Prod.fst) w2):=Hd ⟨o,m,V,by rw[List.append_nil];exact HSAT1.out.below g9,HWT.out,Zb0 g9 o,by rw[ge,<- hs1];exact Zem _ _ _ (Nat.le_refl _),fun k hk=>by cases hk;rw[<- hs1];exact HSAT1.out.lt.none (Nat.le_refl _)⟩;have gm:=Hd g9;clear ge g9
 go_enter func31,ntmps31
 go_upto_region 1 with fail;rw[HW1.out];go_upto_region 23 with fail;rw[gA.out];have e2:=(gm.out.cell (p:=⟨w.heap.size,2,none⟩) (Zab d2)).trans d2;go_wp2_with fail
 go_loopw [15,106] (fun s15 s106 wr=>∃ (i:Nat) (hs:List (Int×BF)) (nxi:Int),i<=nk/\s106=.int .i64 i/\hs.length=i/\nxi+2*i<=nx+3*((sumN i fun i=>(kid i).size:Nat):Int)/\Hid (∀ j (hj:j<hs.length),hs[j].2=fnT (kid j))/\Hid (BuiS K n Od room w0 mb (fs++hs) nxi (M+Ze1 n kid i) o w1 s15 (hs.map Prod.fst) wr)) (fun _ s106 _=>nk-(intOf s106).toNat)
 case atStart=>exact⟨0,[],nx,Nat.zero_le _,rfl,rfl,by show nx+2*((0:Nat):Int)<=nx+3*((0:Nat):Int);omega,Hd (fun j hj=>by simp at hj),gl⟩
 case round =>
  clear gl gm e2
  rename World=>wy
  obtain⟨i,hs,nxi,hi,rfl,gy,gG,gr,g0⟩:=hrel
  by_cases gh:i<nk
  .
   obtain⟨b,off,x0,x1,x2,rfl,c0,c1,c2,hx⟩:=H5.out i gh;have gi:=g0.out.goes.below0;have q0:=(gi.cell (p:=⟨b,off+i*3,none⟩) (Zab c0)).trans c0;have q1:=(gi.cell (p:=⟨b,off+i*3+1,none⟩) (Zab c1)).trans c1;have q2:=(gi.cell (p:=⟨b,off+i*3+2,none⟩) (Zab c2)).trans c2;obtain⟨zo,zv,za,zn,zc,rfl,rfl,rfl⟩:=hx.parts;have gx:(i:Int)<nk:=by omega
   have gI:=HKS.out i gh;obtain⟨wz,gd⟩:∃ wz,wz=wy.alloc (.cells #[.int .i64 zo,.int .i64 zv,.slice za zn zc] 54):=⟨_,rfl⟩;have gz:Hid (_=wz):=Hd gd.symm;have gq:Below wy.heap.size wy wz:=by rw[gd];exact Zad _ _
   have g8:wz.heap[wy.heap.size]?=some (.cells #[.int .i64 zo,.int .i64 zv,.slice za zn zc] 54 (0,0)):=by rw[gd];exact heap_alloc_new _ _
   have p0:wz.cell? ⟨wy.heap.size,0,none⟩=some (.int .i64 zo):=by rw[cell_of_row _ _ 0 _ _ _ g8];rfl
   have p1:wz.cell? ⟨wy.heap.size,1,none⟩=some (.int .i64 zv):=by rw[cell_of_row _ _ 1 _ _ _ g8];rfl
   have p2:wz.cell? ⟨wy.heap.size,2,none⟩=some (.slice za zn zc):=by rw[cell_of_row _ _ 2 _ _ _ g8];rfl
   obtain⟨o1,m1,V1,bt⟩:=g0.out.below gq;have gF:=HPOS.out i;have gj:=Hd (IH.out i _ (fs++hs) nxi wz o1 m1 V1 _ gh bt.sat bt.waits (HB2.out.app _) hx (by omega) (by have:=HMR.out i gh;have:=HCK.out i;omega));have gb:=Hd bt;clear gi c0 c1 c2 hx bt gd gq g8 g0;go_upto_region 26 with fail;rw[gz.out];clear q0 q1 q2;go_wp2_with fail;refine gj.out.mono ?_;rintro y w3 ⟨k2,rfl,gJ,gg⟩;have gk:=Hd (gb.out.go (M':=M+Ze1 n kid (i+1)) (gg.more (Nat.le_of_eq (Nat.add_assoc _ _ _))));have gD:Hid (∀ j (hj:j<(hs++[(k2,fnT (kid i))]).length),(hs++[(k2,fnT (kid i))])[j].2=fnT (kid j)):=Hd fun j hj=>by
    rcases Nat.lt_or_ge j hs.length with h|h
    . rw[List.getElem_append_left h];exact gr.out j h
    .
     have gw:j=i:=by simp at hj;omega
     subst gw;rw[List.getElem_append_right (by omega)];simp
   clear gg gj gb p0 p1 p2;obtain⟨o3,m3,V3,bt3⟩:=gk.out;have gu:w1.heap.size<=w3.heap.size:=bt3.chg.size;have gc:=Hd bt3;clear bt3;go_upto_region 30 with (at_builtin;refine Zck Znm _ rfl _ _ rfl w1.heap.size _ (Zbi (hs.map Prod.fst)) _ rfl rfl rfl rfl rfl (by exact gc.out.l.own) (by simp[Zbi];omega) gu ?_;intro v5 w5 gf r1 r2 r3 r4 gn)
   have gv:Hid (BuiS K n Od room w0 mb (fs++(hs++[(k2,fnT (kid i))])) (k2+1) (M+Ze1 n kid (i+1)) o w1 v5 ((hs++[(k2,fnT (kid i))]).map Prod.fst) w5):=Hd (by
    have:=BuiS.app gc.out gf r1 r2 r3 r4 gn hw0;rw[List.append_assoc] at this;rw[List.map_append];exact this)
   clear gf r1 r2 r3 r4 gn gc gk;go_wp2_with fail;go_roundw
   case rel=>exact⟨i+1,hs++[(k2,fnT (kid i))],k2+1,by omega,by go_num,by simp;omega,by
    show k2+1+2*((i+1:Nat):Int)<=nx+3*(((sumN i fun i=>(kid i).size)+(kid i).size:Nat):Int)
    omega,gD,gv⟩
   case measure=>simp[intOf];omega
  .
   obtain rfl:i=nk:=by omega
   have gx:¬ (i:Int)<i:=by omega
   have f0:=g0.out.goes.cell (p:=⟨w.heap.size,0,none⟩) d0 on;have gt:=HSZ.out;have gE:nxi+2*i+3<=nx+3*E.size:=by omega
   have hnk:=gB.out;have gH:1<=i:=by omega
   clear gt H5 IH HSZ HKS HPOS;obtain⟨o1,m1,V1,bt⟩:=g0.out;have gb:=Hd bt;clear bt;subst hnk;obtain⟨⟨k0,F0⟩,rfl⟩:=List.length_eq_one_iff.1 gy;obtain⟨g,cp,rfl,ga⟩:=g0.out.cellsN (i:=1) rfl (by omega);have c0:wy.cell? ⟨g,0,none⟩=some (.int .i64 k0):=ga 0 (by omega);have HF:Hid (notF F0=fnT E):=Hd (by rw[hF,<- gr.out 0 (by simp)];rfl);have HN:=Hd (Ya6 HKK.out gb.out.refl (by omega) (k:=k0) (F:=F0) (by simp));clear ga;go_wp2_with fail;refine HN.out.mono ?_;rintro y w3 ⟨rfl,g3⟩;have gs:=Hd (gb.out.go g3);obtain⟨g',cp',ev,gp⟩:=gs.out.cellsN (i:=1) rfl (by omega);cases ev;have c3:w3.cell? ⟨g,0,none⟩=some (.int .i64 k0):=gp 0 (by omega);have HD:=Hd (Znl HKK.out (hs:=[(k0,F0)]) (r:=[(nxi,notF F0)]) (by have:=gs.out.goes;rw[List.append_assoc] at this;exact this) HB2.out (by omega) (by simp) (T:=w3.alloc (.cells #[.int .i64 k0] 3)) rfl);clear g3 gp HN;go_wp2_with fail;refine HD.out.mono ?_;rintro y w4 ⟨rfl,g4⟩;have gC:=Hd (HQ.out nxi _ w4 _ HF.out (by omega) (by have:=HEP.out;have:=HCK.out 1;omega) g4);clear g4 HD;go_wp2_with fail;exact gC.out
end
open Go.RowKit
section
variable {K:Law}{n:Nat}{Od:List Nat->Prop}{room:Nat}{w0 w w' w'':World}{mb:Nat}{fs fs':List (Int×BF)}{nx nx':Int}{o o':Own}{m m':ManD}{V V':Nat->BF}
theorem Zvw {w1:World}{op v:Int}{nk:Nat}{kid:Nat->ExT}{a:Option Addr}{c:Nat}{E:ExT}{Q:Ending->World->Prop}{M:Nat}(hctx:BCtx K n Od room w0 mb fs nx M w w1 o m V op v nk kid a c E Q)(h1:op=8\/op=9)(hnk:nk=2)(hF:fnT E=Zpo op (fnT (kid 0)) (fnT (kid 1))) :
 Calls prog 31 #[.pointer (some ⟨mb,0,none⟩),.agg #[.int .i64 op,.int .i64 v,.slice a nk c]] w Q:=by
 obtain⟨HKK,H5,HKS,HSZ,HPOS,IH,HW1,HG1,HSAT1,HWT,HB2,HQ,HMR,HCK,HCI,HEP,HME,hn64,hnx,hE1,hs1,d0,d1,d2,on,hw0,hp2,h2,h3⟩:=hctx;have g1:(op == 1)=false:=by simp;omega
 have g2:(op == 2)=false:=by simp;omega
 have g3:(op == 3)=false:=by simp;omega
 have g5:(op == 5)=false:=by simp;omega
 have g6:(op == 6)=false:=by simp;omega
 have g7:(op == 7)=false:=by simp;omega
 have g4:(op == 4)=false:=by simp;omega
 have g10:(op == 10)=false:=by simp;omega
 have gA:=Hd hnk;have H1:=Hd h1;clear h1 hnk;obtain⟨w2,ge⟩:∃ w2,w2=w1.alloc (.cells #[] 3):=⟨_,rfl⟩;have gz:Hid (_=w2):=Hd ge.symm;have gb:Below w1.heap.size w1 w2:=by rw[ge];exact Zad _ _
 have gm:Hid (BuiS K n Od room w0 mb (fs++[]) nx (M+Ze1 n kid 0) o w1 (.slice (some ⟨w.heap.size+1,0,none⟩) 0 0) (([]:List (Int×BF)).map Prod.fst) w2):=Hd ⟨o,m,V,by rw[List.append_nil];exact HSAT1.out.below gb,HWT.out,Zb0 gb o,by rw[ge,<- hs1];exact Zem _ _ _ (Nat.le_refl _),fun k hk=>by cases hk;rw[<- hs1];exact HSAT1.out.lt.none (Nat.le_refl _)⟩;have gn:=Hd gb;clear ge gb
 go_enter func31,ntmps31
 go_upto_region 1 with fail;rw[HW1.out];go_upto_region 23 with fail;rw[gz.out];have e2:=(gn.out.cell (p:=⟨w.heap.size,2,none⟩) (Zab d2)).trans d2;go_wp2_with fail
 go_loopw [15,106] (fun s15 s106 wr=>∃ (i:Nat) (hs:List (Int×BF)) (nxi:Int),i<=nk/\s106=.int .i64 i/\hs.length=i/\nxi+2*i<=nx+3*((sumN i fun i=>(kid i).size:Nat):Int)/\Hid (∀ j (hj:j<hs.length),hs[j].2=fnT (kid j))/\Hid (BuiS K n Od room w0 mb (fs++hs) nxi (M+Ze1 n kid i) o w1 s15 (hs.map Prod.fst) wr)) (fun _ s106 _=>nk-(intOf s106).toNat)
 case atStart=>exact⟨0,[],nx,Nat.zero_le _,rfl,rfl,by show nx+2*((0:Nat):Int)<=nx+3*((0:Nat):Int);omega,Hd (fun j hj=>by simp at hj),gm⟩
 case round =>
  clear gm gn e2
  rename World=>wy
  obtain⟨i,hs,nxi,hi,rfl,gx,gF,gk,g9⟩:=hrel
  by_cases gh:i<nk
  .
   obtain⟨b,off,x0,x1,x2,rfl,c0,c1,c2,hx⟩:=H5.out i gh;have gi:=g9.out.goes.below0;have q0:=(gi.cell (p:=⟨b,off+i*3,none⟩) (Zab c0)).trans c0;have q1:=(gi.cell (p:=⟨b,off+i*3+1,none⟩) (Zab c1)).trans c1;have q2:=(gi.cell (p:=⟨b,off+i*3+2,none⟩) (Zab c2)).trans c2;obtain⟨zo,zv,za,zn,zc,rfl,rfl,rfl⟩:=hx.parts;have gw:(i:Int)<nk:=by omega
   have gH:=HKS.out i gh;obtain⟨wz,gd⟩:∃ wz,wz=wy.alloc (.cells #[.int .i64 zo,.int .i64 zv,.slice za zn zc] 54):=⟨_,rfl⟩;have gy:Hid (_=wz):=Hd gd.symm;have gr:Below wy.heap.size wy wz:=by rw[gd];exact Zad _ _
   have ga:wz.heap[wy.heap.size]?=some (.cells #[.int .i64 zo,.int .i64 zv,.slice za zn zc] 54 (0,0)):=by rw[gd];exact heap_alloc_new _ _
   have p0:wz.cell? ⟨wy.heap.size,0,none⟩=some (.int .i64 zo):=by rw[cell_of_row _ _ 0 _ _ _ ga];rfl
   have p1:wz.cell? ⟨wy.heap.size,1,none⟩=some (.int .i64 zv):=by rw[cell_of_row _ _ 1 _ _ _ ga];rfl
   have p2:wz.cell? ⟨wy.heap.size,2,none⟩=some (.slice za zn zc):=by rw[cell_of_row _ _ 2 _ _ _ ga];rfl
   obtain⟨o1,m1,V1,bt⟩:=g9.out.below gr;have gE:=HPOS.out i;have gj:=Hd (IH.out i _ (fs++hs) nxi wz o1 m1 V1 _ gh bt.sat bt.waits (HB2.out.app _) hx (by omega) (by have:=HMR.out i gh;have:=HCK.out i;omega));have g8:=Hd bt;clear gi c0 c1 c2 hx bt gd gr ga g9;go_upto_region 26 with fail;rw[gy.out];clear q0 q1 q2;go_wp2_with fail;refine gj.out.mono ?_;rintro y w3 ⟨k2,rfl,gI,gg⟩;have gl:=Hd (g8.out.go (M':=M+Ze1 n kid (i+1)) (gg.more (Nat.le_of_eq (Nat.add_assoc _ _ _))));have gC:Hid (∀ j (hj:j<(hs++[(k2,fnT (kid i))]).length),(hs++[(k2,fnT (kid i))])[j].2=fnT (kid j)):=Hd fun j hj=>by
    rcases Nat.lt_or_ge j hs.length with h|h
    . rw[List.getElem_append_left h];exact gk.out j h
    .
     have gv:j=i:=by simp at hj;omega
     subst gv;rw[List.getElem_append_right (by omega)];simp
   clear gg gj g8 p0 p1 p2;obtain⟨o3,m3,V3,bt3⟩:=gl.out;have gt:w1.heap.size<=w3.heap.size:=bt3.chg.size;have gc:=Hd bt3;clear bt3;go_upto_region 30 with (at_builtin;refine Zck Znm _ rfl _ _ rfl w1.heap.size _ (Zbi (hs.map Prod.fst)) _ rfl rfl rfl rfl rfl (by exact gc.out.l.own) (by simp[Zbi];omega) gt ?_;intro v5 w5 gf r1 r2 r3 r4 gp)
   have gu:Hid (BuiS K n Od room w0 mb (fs++(hs++[(k2,fnT (kid i))])) (k2+1) (M+Ze1 n kid (i+1)) o w1 v5 ((hs++[(k2,fnT (kid i))]).map Prod.fst) w5):=Hd (by
    have:=BuiS.app gc.out gf r1 r2 r3 r4 gp hw0;rw[List.append_assoc] at this;rw[List.map_append];exact this)
   clear gf r1 r2 r3 r4 gp gc gl;go_wp2_with fail;go_roundw
   case rel=>exact⟨i+1,hs++[(k2,fnT (kid i))],k2+1,by omega,by go_num,by simp;omega,by
    show k2+1+2*((i+1:Nat):Int)<=nx+3*(((sumN i fun i=>(kid i).size)+(kid i).size:Nat):Int)
    omega,gC,gu⟩
   case measure=>simp[intOf];omega
  .
   obtain rfl:i=nk:=by omega
   have gw:¬ (i:Int)<i:=by omega
   have f0:=g9.out.goes.cell (p:=⟨w.heap.size,0,none⟩) d0 on;have gs:=HSZ.out;have gD:nxi+2*i+3<=nx+3*E.size:=by omega
   have hnk:=gA.out;have gG:1<=i:=by omega
   clear gs H5 IH HSZ HKS HPOS;obtain⟨o1,m1,V1,bt⟩:=g9.out;have g8:=Hd bt;clear bt;subst hnk;obtain⟨⟨k0,F0⟩,⟨k1',F1⟩,rfl⟩:=Ych gx;obtain⟨g,cp,rfl,g0⟩:=g9.out.cellsN (i:=2) rfl (by omega);have c0:wy.cell? ⟨g,0,none⟩=some (.int .i64 k0):=g0 0 (by omega);have c1:wy.cell? ⟨g,1,none⟩=some (.int .i64 k1'):=g0 1 (by omega);have HF:Hid (Zpo op F0 F1=fnT E):=Hd (by rw[hF,<- gk.out 0 (by simp),<- gk.out 1 (by simp)];rfl);have HJ:Hid (∀ W,W=wy.drew->Calls prog 75 #[.pointer (some ⟨mb,0,none⟩),.int .i64 op,.int .i64 k0,.int .i64 k1'] W fun x w''=>∃ k:Int,x=.returned (.tuple #[.int .i64 k,.bool true])/\k<=nxi+1/\Goes K n Od room w0 mb (fs++[(k,Zpo op F0 F1)]) (k+1) (NoW (M+Ze1 n kid 2+(2^n-1))) o1 wy w'') :=
    Hd fun W hW=>by subst hW;exact Zsg HKK.out (g8.out.refl.below (Zaf wy 1)) HB2.out (by omega) (by have:=HEP.out;have:=HCK.out 2;have:=HME.out;omega) (by have:=H1.out;omega) (by have:=H1.out;omega)
   clear g0;go_upto_region 39 with fail;refine Zap (fun W:World=>W.cell? ⟨w.heap.size,0,none⟩=some (.int .i64 op)/\W.cell? ⟨g,0,none⟩=some (.int .i64 k0)/\W.cell? ⟨g,1,none⟩=some (.int .i64 k1')) false 14
    [(0,false),(1,false),(2,false),(3,false),(4,false),(5,false),(6,false),(7,false),(8,false),(9,true),(10,false),(11,false),(12,false),(13,false)] (by kernel_rfl) (by kernel_rfl) ⟨f0,c0,c1⟩ ?_
   simp only[planned,Zde]
   iterate 9
    refine Zaq rfl ?_;apply Exists.intro;refine⟨fun w' hw=>?_,?_⟩
    . obtain⟨h1,h2,h3⟩:=hw;go_simp;rfl
    simp only[Zai]
   refine Zb9 (R:=fun v w'=>∃ k:Int,v=.tuple #[.int .i64 k,.bool true]/\k<=nxi+1/\Goes K n Od room w0 mb (fs++[(k,Zpo op F0 F1)]) (k+1) (NoW (M+Ze1 n kid 2+(2^n-1))) o1 wy w') rfl (by go_simp) ((HJ.out _ rfl).mono (fun e w' he=>?_)) ?_
   . obtain⟨k,rfl,q1,q2⟩:=he;have hb:=g8.out.go q2;obtain⟨g',cp',ev,gq⟩:=hb.cellsN (i:=2) rfl (by omega);cases ev;exact⟨_,rfl,⟨hb.goes.cell (p:=⟨w.heap.size,0,none⟩) d0 on,gq 0 (by omega),gq 1 (by omega)⟩,k,rfl,q1,q2⟩
   rintro v w3-⟨k,rfl,q1,q2⟩;have gB:=Hd (HQ.out k _ w3 _ HF.out (by omega) (by have:=HEP.out;have:=HCK.out 2;omega) (g8.out.go q2).goes);clear q2 HJ;simp only[Zai]
   iterate 4
    refine Zaq rfl ?_;apply Exists.intro;refine⟨fun w' hw=>?_,?_⟩
    . obtain⟨h1,h2,h3⟩:=hw;go_simp;rfl
    simp only[Zai]
   refine Zeg ?_;go_wp2_with fail;exact gB.out
end
open Go.RowKit
section
variable {K:Law}{n:Nat}{Od:List Nat->Prop}{room:Nat}{w0 w w' w'':World}{mb:Nat}{fs fs':List (Int×BF)}{nx nx':Int}{o o':Own}{m m':ManD}{V V':Nat->BF}
theorem Zvu {w1:World}{op v:Int}{nk:Nat}{kid:Nat->ExT}{a:Option Addr}{c:Nat}{E:ExT}{Q:Ending->World->Prop}{M:Nat}(hctx:BCtx K n Od room w0 mb fs nx M w w1 o m V op v nk kid a c E Q)(h1:op=10)(hnk:nk=3)(hF:fnT E=Zcw (fnT (kid 0)) (fnT (kid 1)) (fnT (kid 2))) :
 Calls prog 31 #[.pointer (some ⟨mb,0,none⟩),.agg #[.int .i64 op,.int .i64 v,.slice a nk c]] w Q:=by
 obtain⟨HKK,H5,HKS,HSZ,HPOS,IH,HW1,HG1,HSAT1,HWT,HB2,HQ,HMR,HCK,HCI,HEP,HME,hn64,hnx,hE1,hs1,d0,d1,d2,on,hw0,hp2,h2,h3⟩:=hctx;have g1:(op == 1)=false:=by simp;omega
 have g2:(op == 2)=false:=by simp;omega
 have g3:(op == 3)=false:=by simp;omega
 have g5:(op == 5)=false:=by simp;omega
 have g6:(op == 6)=false:=by simp;omega
 have g7:(op == 7)=false:=by simp;omega
 have g4:(op == 4)=false:=by simp;omega
 have g10:(op == 10)=true:=by simp;omega
 have gC:=Hd hnk;clear h1 hnk;obtain⟨w2,gf⟩:∃ w2,w2=w1.alloc (.cells #[] 3):=⟨_,rfl⟩;have gB:Hid (_=w2):=Hd gf.symm;have gd:Below w1.heap.size w1 w2:=by rw[gf];exact Zad _ _
 have gp:Hid (BuiS K n Od room w0 mb (fs++[]) nx (M+Ze1 n kid 0) o w1 (.slice (some ⟨w.heap.size+1,0,none⟩) 0 0) (([]:List (Int×BF)).map Prod.fst) w2):=Hd ⟨o,m,V,by rw[List.append_nil];exact HSAT1.out.below gd,HWT.out,Zb0 gd o,by rw[gf,<- hs1];exact Zem _ _ _ (Nat.le_refl _),fun k hk=>by cases hk;rw[<- hs1];exact HSAT1.out.lt.none (Nat.le_refl _)⟩;have gq:=Hd gd;clear gf gd
 go_enter func31,ntmps31
 go_upto_region 1 with fail;rw[HW1.out];go_upto_region 23 with fail;rw[gB.out];have e2:=(gq.out.cell (p:=⟨w.heap.size,2,none⟩) (Zab d2)).trans d2;go_wp2_with fail
 go_loopw [15,106] (fun s15 s106 wr=>∃ (i:Nat) (hs:List (Int×BF)) (nxi:Int),i<=nk/\s106=.int .i64 i/\hs.length=i/\nxi+2*i<=nx+3*((sumN i fun i=>(kid i).size:Nat):Int)/\Hid (∀ j (hj:j<hs.length),hs[j].2=fnT (kid j))/\Hid (BuiS K n Od room w0 mb (fs++hs) nxi (M+Ze1 n kid i) o w1 s15 (hs.map Prod.fst) wr)) (fun _ s106 _=>nk-(intOf s106).toNat)
 case atStart=>exact⟨0,[],nx,Nat.zero_le _,rfl,rfl,by show nx+2*((0:Nat):Int)<=nx+3*((0:Nat):Int);omega,Hd (fun j hj=>by simp at hj),gp⟩
 case round =>
  clear gp gq e2
  rename World=>wy
  obtain⟨i,hs,nxi,hi,rfl,gy,gH,gk,ga⟩:=hrel
  by_cases gi:i<nk
  .
   obtain⟨b,off,x0,x1,x2,rfl,c0,c1,c2,hx⟩:=H5.out i gi;have gj:=ga.out.goes.below0;have q0:=(gj.cell (p:=⟨b,off+i*3,none⟩) (Zab c0)).trans c0;have q1:=(gj.cell (p:=⟨b,off+i*3+1,none⟩) (Zab c1)).trans c1;have q2:=(gj.cell (p:=⟨b,off+i*3+2,none⟩) (Zab c2)).trans c2;obtain⟨zo,zv,za,zn,zc,rfl,rfl,rfl⟩:=hx.parts;have gx:(i:Int)<nk:=by omega
   have gJ:=HKS.out i gi;obtain⟨wz,ge⟩:∃ wz,wz=wy.alloc (.cells #[.int .i64 zo,.int .i64 zv,.slice za zn zc] 54):=⟨_,rfl⟩;have gA:Hid (_=wz):=Hd ge.symm;have gs:Below wy.heap.size wy wz:=by rw[ge];exact Zad _ _
   have gc:wz.heap[wy.heap.size]?=some (.cells #[.int .i64 zo,.int .i64 zv,.slice za zn zc] 54 (0,0)):=by rw[ge];exact heap_alloc_new _ _
   have p0:wz.cell? ⟨wy.heap.size,0,none⟩=some (.int .i64 zo):=by rw[cell_of_row _ _ 0 _ _ _ gc];rfl
   have p1:wz.cell? ⟨wy.heap.size,1,none⟩=some (.int .i64 zv):=by rw[cell_of_row _ _ 1 _ _ _ gc];rfl
   have p2:wz.cell? ⟨wy.heap.size,2,none⟩=some (.slice za zn zc):=by rw[cell_of_row _ _ 2 _ _ _ gc];rfl
   obtain⟨o1,m1,V1,bt⟩:=ga.out.below gs;have gG:=HPOS.out i;have gl:=Hd (IH.out i _ (fs++hs) nxi wz o1 m1 V1 _ gi bt.sat bt.waits (HB2.out.app _) hx (by omega) (by have:=HMR.out i gi;have:=HCK.out i;omega));have gb:=Hd bt;clear gj c0 c1 c2 hx bt ge gs gc ga;go_upto_region 26 with fail;rw[gA.out];clear q0 q1 q2;go_wp2_with fail;refine gl.out.mono ?_;rintro y w3 ⟨k2,rfl,gK,gg⟩;have gn:=Hd (gb.out.go (M':=M+Ze1 n kid (i+1)) (gg.more (Nat.le_of_eq (Nat.add_assoc _ _ _))));have gE:Hid (∀ j (hj:j<(hs++[(k2,fnT (kid i))]).length),(hs++[(k2,fnT (kid i))])[j].2=fnT (kid j)):=Hd fun j hj=>by
    rcases Nat.lt_or_ge j hs.length with h|h
    . rw[List.getElem_append_left h];exact gk.out j h
    .
     have gw:j=i:=by simp at hj;omega
     subst gw;rw[List.getElem_append_right (by omega)];simp
   clear gg gl gb p0 p1 p2;obtain⟨o3,m3,V3,bt3⟩:=gn.out;have gu:w1.heap.size<=w3.heap.size:=bt3.chg.size;have g0:=Hd bt3;clear bt3;go_upto_region 30 with (at_builtin;refine Zck Znm _ rfl _ _ rfl w1.heap.size _ (Zbi (hs.map Prod.fst)) _ rfl rfl rfl rfl rfl (by exact g0.out.l.own) (by simp[Zbi];omega) gu ?_;intro v5 w5 gh r1 r2 r3 r4 gr)
   have gv:Hid (BuiS K n Od room w0 mb (fs++(hs++[(k2,fnT (kid i))])) (k2+1) (M+Ze1 n kid (i+1)) o w1 v5 ((hs++[(k2,fnT (kid i))]).map Prod.fst) w5):=Hd (by
    have:=BuiS.app g0.out gh r1 r2 r3 r4 gr hw0;rw[List.append_assoc] at this;rw[List.map_append];exact this)
   clear gh r1 r2 r3 r4 gr g0 gn;go_wp2_with fail;go_roundw
   case rel=>exact⟨i+1,hs++[(k2,fnT (kid i))],k2+1,by omega,by go_num,by simp;omega,by
    show k2+1+2*((i+1:Nat):Int)<=nx+3*(((sumN i fun i=>(kid i).size)+(kid i).size:Nat):Int)
    omega,gE,gv⟩
   case measure=>simp[intOf];omega
  .
   obtain rfl:i=nk:=by omega
   have gx:¬ (i:Int)<i:=by omega
   have f0:=ga.out.goes.cell (p:=⟨w.heap.size,0,none⟩) d0 on;have gt:=HSZ.out;have gF:nxi+2*i+3<=nx+3*E.size:=by omega
   have hnk:=gC.out;have gI:1<=i:=by omega
   clear gt H5 IH HSZ HKS HPOS;obtain⟨o1,m1,V1,bt⟩:=ga.out;have gb:=Hd bt;clear bt;subst hnk;obtain⟨⟨k0,F0⟩,⟨k1',F1⟩,⟨k2',F2⟩,rfl⟩:=Zwx gy;obtain⟨g,cp,rfl,g8⟩:=ga.out.cellsN (i:=3) rfl (by omega);have c0:wy.cell? ⟨g,0,none⟩=some (.int .i64 k0):=g8 0 (by omega);have c1:wy.cell? ⟨g,1,none⟩=some (.int .i64 k1'):=g8 1 (by omega);have c2:wy.cell? ⟨g,2,none⟩=some (.int .i64 k2'):=g8 2 (by omega);have HF:Hid (Zcw F0 F1 F2=fnT E):=Hd (by rw[hF,<- gk.out 0 (by simp),<- gk.out 1 (by simp),<- gk.out 2 (by simp)];rfl);have HI:Hid (∀ W,W=wy.drew->Calls prog 8 #[.pointer (some ⟨mb,0,none⟩),.int .i64 k0,.int .i64 k1',.int .i64 k2'] W fun x w''=>x=.returned (.tuple #[.int .i64 nxi,.int .i64 0])/\Goes K n Od room w0 mb (fs++[(k0,F0),(k1',F1),(k2',F2)]++[(nxi,Zcw F0 F1 F2)]) (nxi+1) (NoW (M+Ze1 n kid 3+(2^n-1))) o1 wy w'') :=
    Hd fun W hW=>by subst hW;exact Zwt HKK.out (gb.out.refl.below (Zaf wy 1)) (by omega) (by have:=HEP.out;have:=HCK.out 3;have:=HME.out;omega) (by simp) (by simp) (by simp)
   clear g8;go_upto_region 36 with fail;refine Zap (fun W:World=>W.cell? ⟨g,0,none⟩=some (.int .i64 k0)/\W.cell? ⟨g,1,none⟩=some (.int .i64 k1')/\W.cell? ⟨g,2,none⟩=some (.int .i64 k2')) false 16
    [(0,false),(1,false),(2,false),(3,false),(4,false),(5,false),(6,false),(7,false),(8,false),(9,false),(10,true),(11,false),(12,false),(13,false),(14,false),(15,false)] (by kernel_rfl) (by kernel_rfl) ⟨c0,c1,c2⟩ ?_
   simp only[planned,Zde]
   iterate 10
    refine Zaq rfl ?_;apply Exists.intro;refine⟨fun w' hw=>?_,?_⟩
    . obtain⟨h1,h2,h3⟩:=hw;go_simp;rfl
    simp only[Zai]
   refine Zb9 (R:=fun v w'=>v=.tuple #[.int .i64 nxi,.int .i64 0]/\Goes K n Od room w0 mb (fs++[(k0,F0),(k1',F1),(k2',F2)]++[(nxi,Zcw F0 F1 F2)]) (nxi+1) (NoW (M+Ze1 n kid 3+(2^n-1))) o1 wy w') rfl (by go_simp) ((HI.out _ rfl).mono (fun e w' he=>?_)) ?_
   . obtain⟨rfl,q2⟩:=he;have hb:=gb.out.go q2;obtain⟨g',cp',ev,g9⟩:=hb.cellsN (i:=3) rfl (by omega);cases ev;exact⟨_,rfl,⟨g9 0 (by omega),g9 1 (by omega),g9 2 (by omega)⟩,rfl,q2⟩
   rintro v w3 ⟨d0',d1',d2'⟩ ⟨rfl,q2⟩;obtain⟨o3,m3,V3,bt3⟩:=gb.out.go q2;have g0:=Hd bt3;clear q2 HI bt3 c0 c1 c2 ga;simp only[Zai]
   iterate 5
    refine Zaq rfl ?_;apply Exists.intro;refine⟨fun w' hw=>?_,?_⟩
    . obtain⟨h1,h2,h3⟩:=hw;go_simp;rfl
    simp only[Zai]
   refine Zeg ?_;have HD:Hid (∀ W T,Below w3.heap.size w3 W->T=W.alloc (.cells #[.int .i64 k0,.int .i64 k1',.int .i64 k2'] 3)->Calls prog 77 #[.pointer (some ⟨mb,0,none⟩),.slice (some ⟨W.heap.size,0,none⟩) 3 3] T fun x w''=>x=.returned (.int .i64 0)/\Goes K n Od room w0 mb (fs++[(nxi,Zcw F0 F1 F2)]) (nxi+1) (NoW (M+Ze1 n kid 3+(2^n-1))) o3 w3 w'') :=
    Hd fun W T hW hT=>Znl HKK.out (hs:=[(k0,F0),(k1',F1),(k2',F2)]) (r:=[(nxi,Zcw F0 F1 F2)]) (by have:=g0.out.refl;rw[List.append_assoc] at this;exact this.below hW) HB2.out (by omega) (by simp) hT
   go_upto_region 37 with fail;refine Zap (fun W:World=>W.cell? ⟨g,0,none⟩=some (.int .i64 k0)/\W.cell? ⟨g,1,none⟩=some (.int .i64 k1')/\W.cell? ⟨g,2,none⟩=some (.int .i64 k2')) false 20
    [(0,false),(1,false),(2,false),(3,false),(4,false),(5,false),(6,false),(7,false),(8,false),(9,false),(10,false),(11,false),(12,false),(13,false),(14,true),(15,true),(16,false),(17,false),(18,false),(19,false)] (by kernel_rfl) (by kernel_rfl) ⟨d0',d1',d2'⟩ ?_
   simp only[planned,Zde]
   iterate 4
    refine Zaq rfl ?_;apply Exists.intro;refine⟨fun w' hw=>?_,?_⟩
    . obtain⟨h1,h2,h3⟩:=hw;go_simp;rfl
    simp only[Zai]
   iterate 10
    refine Zja true (by go_simp) ?_;apply Exists.intro;refine⟨fun gz w' hw=>?_,?_⟩
    . obtain⟨h1,h2,h3⟩:=hw;go_simp;rfl
    simp only[Zai]
   have gm:=Zad w3.drew (.cells #[.int .i64 k0,.int .i64 k1',.int .i64 k2'] 3);refine Zua (v:=.slice (some ⟨w3.heap.size,0,none⟩) 3 3) (w':=w3.drew.alloc (.cells #[.int .i64 k0,.int .i64 k1',.int .i64 k2'] 3)) (by go_simp) (by go_simp) ⟨(gm.cell (p:=⟨g,0,none⟩) (Zab (w:=w3.drew) d0')).trans d0',(gm.cell (p:=⟨g,1,none⟩) (Zab (w:=w3.drew) d1')).trans d1',(gm.cell (p:=⟨g,2,none⟩) (Zab (w:=w3.drew) d2')).trans d2'⟩ ?_;simp only[Zai];refine Zt9 (R:=fun v w'=>v=.int .i64 0/\Goes K n Od room w0 mb (fs++[(nxi,Zcw F0 F1 F2)]) (nxi+1) (NoW (M+Ze1 n kid 3+(2^n-1))) o3 w3 w') (by go_simp) (by go_simp) ((HD.out w3.drew _ (Zaf w3 1) rfl).mono (fun e w' he=>?_)) ?_
   . obtain⟨rfl,q2⟩:=he;have hb:=g0.out.go q2;obtain⟨g',cp',ev,g9⟩:=hb.cellsN (i:=3) rfl (by omega);cases ev;exact⟨_,rfl,⟨g9 0 (by omega),g9 1 (by omega),g9 2 (by omega)⟩,rfl,q2⟩
   rintro v w4-⟨rfl,q2⟩;have gD:=Hd (HQ.out nxi _ w4 _ HF.out (by omega) (by have:=HEP.out;have:=HCK.out 3;omega) (g0.out.go q2).goes);clear q2 HD;simp only[Zai]
   iterate 1
    refine Zja true (by go_simp) ?_;apply Exists.intro;refine⟨fun gz w' hw=>?_,?_⟩
    . obtain⟨h1,h2,h3⟩:=hw;go_simp;rfl
    simp only[Zai]
   iterate 3
    refine Zaq rfl ?_;apply Exists.intro;refine⟨fun w' hw=>?_,?_⟩
    . obtain⟨h1,h2,h3⟩:=hw;go_simp;rfl
    simp only[Zai]
   refine Zeg ?_;go_wp2_with fail;exact gD.out
end
open Go.RowKit
section
variable {K:Law}{n:Nat}{Od:List Nat->Prop}{room:Nat}{w0:World}{mb:Nat}
theorem Zow (hK:Zb4 K):∀ (e:ExT) (x:Value) (fs:List (Int×BF)) (nx:Int) (w:World) (o:Own) (m:ManD) (V:Nat->BF) (M:Nat),SatE K n Od room w0 mb fs nx w o m V->m.waits=[]/\m.d.pool.many<=M->B2 fs->Zs3 e->(∀ v∈Zc2 e,v<(n:Int))->Zbf w0 e x->nx+3*e.size<549755813000->M+e.size*2^n<=room ->
 Calls prog 31 #[.pointer (some ⟨mb,0,none⟩),x] w fun y w'=>∃ k:Int,y=.returned (.tuple #[.int .i64 k,.bool true])/\k+3<=nx+3*e.size/\Goes K n Od room w0 mb (fs++[(k,fnT e)]) (k+1) (NoW (M+Zh0 n e.size)) o w w'
 | .nil,x,fs,nx,w,o,m,V,M,_,_,_,hv,_,_,_,_=>hv.elim
 | .mk op v nk kid,x,fs,nx,w,o,m,V,M,hsat,hwt,hb2,hval,hvars,h,hnx,hroom=>by
   unfold Zbf at h;obtain⟨a,c,rfl,h2,h3,h4,h5⟩:=h;obtain⟨v1,v2,v3,v4,v5,v6⟩:=hval;obtain⟨k1,k2,k3⟩:=Zwv v1;have hblk:(w.alloc (.cells #[.int .i64 op,.int .i64 v,.slice a nk c] 54)).heap[w.heap.size]?=some (.cells #[.int .i64 op,.int .i64 v,.slice a nk c] 54 (0,0)):=heap_alloc_new _ _;have hb1:=Zad w (.cells #[.int .i64 op,.int .i64 v,.slice a nk c] 54);have hep:(ExT.mk op v nk kid).size*2^n=2^n+(sumN nk fun i=>(kid i).size)*2^n:=by
    show (1+sumN nk fun i=>(kid i).size)*2^n=_
    rw[Nat.add_mul,Nat.one_mul]
   have g0:BCtx K n Od room w0 mb fs nx M w (w.alloc (.cells #[.int .i64 op,.int .i64 v,.slice a nk c] 54)) o m V op v nk kid a c (ExT.mk op v nk kid) (fun y w'=>∃ k:Int,y=.returned (.tuple #[.int .i64 k,.bool true])/\k+3<=nx+3*(ExT.mk op v nk kid).size/\Goes K n Od room w0 mb (fs++[(k,fnT (ExT.mk op v nk kid))]) (k+1) (NoW (M+Zh0 n (ExT.mk op v nk kid).size)) o w w'):=by
    refine⟨Hd hK,Hd h5,Hd fun i hi=>?_,Hd rfl,Hd (Zs0 fun i=>(kid i).size_pos),Hd fun i x fs' nx' W o' m' V' M' hi q1 q2 q3 q4 q5 q6=>Zow hK (kid i) x fs' nx' W o' m' V' M' q1 q2 q3 (v6 i hi) (fun u hu=>hvars u (by unfold Zc2;exact List.mem_append_right _ (Zpx hi hu))) q4 q5 q6,Hd rfl,Hd (Goes.refl (hsat.below hb1) hwt),Hd (hsat.below hb1),Hd hwt,Hd hb2,Hd ?_,Hd fun i hi=>?_,Hd (Zo6 n kid),Hd fun i=>Zih n (kid i).size_pos,Hd ⟨hep,Zih n (ExT.size_pos _)⟩,Hd hroom,by omega,hnx,ExT.size_pos _,by simp,by rw[cell_of_row _ _ 0 _ _ _ hblk];rfl,by rw[cell_of_row _ _ 1 _ _ _ hblk];rfl,by rw[cell_of_row _ _ 2 _ _ _ hblk];rfl,hsat.lt.none (Nat.le_refl _),?_,Nat.pow_pos (by omega),h2,h3⟩
    .
     have:=Zf6 (f:=fun i=>(kid i).size) hi
     show _<=1+sumN nk fun i=>(kid i).size
     omega
    . rintro k F W M' rfl hk hm g;exact⟨k,rfl,hk,(g.more hm).after (Zb0 hb1 o)⟩
    . have h1:=Zf6 (f:=fun i=>(kid i).size) hi;have h2:=Nat.mul_le_mul_right (2^n) h1;rw[Nat.add_mul] at h2;omega
    . have:=hsat.chg.size;simp;omega
   rcases(show op=1\/op=2\/op=3\/(op=5\/op=6\/op=7)\/op=4\/(op=8\/op=9)\/op=10 by omega) with h1|h1|h1|h1|h1|h1|h1
   . exact Ztg g0 h1 (by subst h1;exact Zpf (.inl rfl) v nk kid)
   . exact Zq2 g0 h1 (by subst h1;exact Zpf (.inr rfl) v nk kid)
   . have e1:=v2 h1;have e2:=hvars v (by unfold Zc2;rw[if_pos h1];simp);obtain⟨u,rfl⟩:∃ u:Nat,v=u:=⟨v.toNat,by omega⟩;exact Zvx g0 (u:=u) (by omega) h1 rfl (by subst h1;exact Yb5 u nk kid)
   . exact Zvt g0 h1 (Yb2 h1 v nk kid)
   .
    have e:nk=1:=by subst h1;simp[Zeu] at v4 v5;omega
    exact Zvv g0 h1 e (by subst h1;subst e;exact Yb4 v kid)
   .
    have e:nk=2:=by rcases h1 with rfl|rfl<;>(simp[Zeu] at v4 v5;omega)
    exact Zvw g0 h1 e (by subst e;exact Zy4 h1 v kid)
   .
    have e:nk=3:=by subst h1;simp[Zeu] at v4 v5;omega
    exact Zvu g0 h1 e (by subst h1;subst e;exact Yb3 v kid)
end
open Go.RowKit
theorem Zay.chgX {C:Nat->Prop}{o o':Own}{w w':World}{a:Option Addr}{zs:List Int}(h:Zay w a zs)(hc:ChgX C o o' w w')(hn:0<zs.length->∀ x,a=some x->o x.block=none/\¬ C x.block):Zay w' a zs :=
 ⟨h.len,fun k hk=>by
  obtain⟨b,off,rfl,c⟩:=h.cells k hk;have:=hn (by omega) _ rfl;exact⟨b,off,rfl,hc.cell c this.1 this.2⟩⟩
def ArrI (K:Law)(n room:Nat)(w0:World)(mb:Nat)(fs:List (Int×BF))(nx:Int)(o:Own)(w:World)(m:ManD)(P:List Nat->Prop)(W:World):Prop :=
 ∃ o' m' V',SatE K n P room w0 mb fs nx W o' m' V'/\m'.waits=m.waits/\m'.calls=m.calls/\ChgX NoB o o' w W/\(m'.d.pool.many<=m.d.pool.many\/m'.d.pool.many<=fs.length*2^n)
section
variable {K:Law}{n:Nat}{Od:List Nat->Prop}{room:Nat}{w0 w w':World}{mb:Nat}{fs:List (Int×BF)}{nx:Int}{o o':Own}{m m':ManD}{V V':Nat->BF}{P:List Nat->Prop}{W W':World}
theorem ArrI.below (h:ArrI K n room w0 mb fs nx o w m P W)(hb:Below W.heap.size W W'):ArrI K n room w0 mb fs nx o w m P W':=by
 obtain⟨o',m',V',h1,h2,h3,h4,h5⟩:=h;exact⟨o',m',V',h1.below hb,h2,h3,h4.trans (Zb0 hb o') (fun _ _ e=>e),h5⟩
theorem ArrI.imp (h:ArrI K n room w0 mb fs nx o w m P W){P':List Nat->Prop}(hP:∀ l,l.length=n->P l->P' l):ArrI K n room w0 mb fs nx o w m P' W:=by
 obtain⟨o',m',V',h1,h2,h3,h4,h5⟩:=h;exact⟨o',m',V',h1.withOd (hP _ h1.vars h1.od),h2,h3,h4,h5⟩
theorem ArrI.swap (h:ArrI K n room w0 mb fs nx o w m P W){k:Nat}(hk1:k+1<n)(hn:nx<=549755813888)(hr:3*(fs.length*2^n)<=room){P':List Nat->Prop}(hP:∀ l,l.length=n->P l->P' (exL l k)) :
 Calls prog 72 #[.pointer (some ⟨mb,0,none⟩),.int .i64 k] W fun e w'=>e=.returned (.int .i64 0)/\ArrI K n room w0 mb fs nx o w m P' w':=by
 obtain⟨o',m',V',h1,h2,h3,h4,h5⟩:=h;refine(Zt5 h1 hk1 hn hr).mono ?_;rintro e w' ⟨rfl,o2,m2,V2,s⟩;refine⟨rfl,o2,m2,V2,s.sat.withOd ?_,s.waits.trans h2,s.calls.trans h3,h4.trans (ChgX.of_chg s.chg NoB) (fun _ _ e=>e),.inr (s.sat.few s.dead)⟩;rw[s.sat.od,Zye];exact hP _ h1.vars h1.od
theorem Zq0 (h:SatE K n Od room w0 mb fs nx w o m V)(hn:nx<=549755813888)(hr:3*(fs.length*2^n)<=room){a:Option Addr}{c:Nat}{zs:List Int}(hz:Zay w a zs)(hno:0<zs.length->∀ x,a=some x->o x.block=none)(hp:zs.length=0\/Ybk zs n) :
 Calls prog 30 #[.pointer (some ⟨mb,0,none⟩),.slice a zs.length c] w fun x w'=>x=.returned (.bool true)/\ArrI K n room w0 mb fs nx o w m (fun l=>∀ j,j<zs.length->((l.getD j 0:Nat):Int)=at0 zs j) w':=by
 have gG:=hz.len;have hn64:n<=64:=by have:=h.ok.store.small;rw[h.vars] at this;exact this
 have HZ:Hid (∀ W P,ArrI K n room w0 mb fs nx o w m P W->Zay W a zs):=Hd fun W P ⟨o',m',V',_,_,_,h4,_⟩=>hz.chgX h4 fun h0 x hx=>⟨hno h0 x hx,fun e=>e⟩
 have gd:Hid (∀ W P,ArrI K n room w0 mb fs nx o w m P W->Calls prog 15 #[.pointer (some ⟨mb,0,none⟩)] W fun x w'=>∃ (a:Option Addr) (c:Nat) (l:List Nat),x=.returned (.slice a n c)/\l.length=n/\Zay w' a (l.map Int.ofNat)/\P l/\(∀ v,v<n->∃ i,i<n/\l.getD i 0=v)/\(∀ i j,i<n->j<n->l.getD i 0=l.getD j 0->i=j)/\Below W.heap.size W w'/\ArrI K n room w0 mb fs nx o w m (fun l'=>l'=l) w'):=by
  refine Hd fun W P hA=>?_
  obtain⟨o',m',V',h1,h2,h3,h4,h5⟩:=hA;refine(Zgp h1.is h1.lt (by rw[h1.vars];exact hn64)).mono ?_;rintro x w' ⟨v,rfl,hv,hb⟩;obtain⟨av,cv,rfl,gr,_⟩:=hv.sliceIs (by simp[h1.vars];omega);refine⟨av,cv,m'.d.vars,by rw[List.length_map,h1.vars],h1.vars,gr,h1.od,fun v hv=>?_,fun i j hi hj e=>?_,hb,o',m',V',(h1.below hb).withOd rfl,h2,h3,h4.trans (Zb0 hb o') (fun _ _ e=>e),h5⟩
  . have:=h1.ok.store.mem (v:=v) (by rw[h1.vars];exact hv);rw[h1.vars] at this;exact this
  . exact h1.ok.store.inj (by rw[h1.vars];exact hi) (by rw[h1.vars];exact hj) e
 have gi:Hid (∀ W P,ArrI K n room w0 mb fs nx o w m P W->∀ (k:Nat),k+1<n->∀ P':List Nat->Prop,(∀ l,l.length=n->P l->P' (exL l k))->Calls prog 72 #[.pointer (some ⟨mb,0,none⟩),.int .i64 k] W fun e w'=>e=.returned (.int .i64 0)/\ArrI K n room w0 mb fs nx o w m P' w') :=
  Hd fun W P hA k hk P' hP=>hA.swap hk hn hr hP
 have HP:=Hd hp;obtain⟨R,hR⟩:∃ R:(List Nat->Prop)->World->Prop,R=ArrI K n room w0 mb fs nx o w m:=⟨_,rfl⟩;have gC:Hid (R (fun l=>∀ j,j<0->((l.getD j 0:Nat):Int)=at0 zs j) w):=Hd (by rw[hR];exact⟨o,m,V,h.withOd (fun j hj=>by omega),rfl,rfl,ChgX.of_below (Below.refl _ _) o NoB,.inl (Nat.le_refl _)⟩);have gz:Hid (∀ P W W',R P W->Below W.heap.size W W'->R P W'):=Hd (by rw[hR];intro P W W' h1 h2;exact h1.below h2);have gj:Hid (∀ P P' W,R P W->(∀ l,l.length=n->P l->P' l)->R P' W):=Hd (by rw[hR];intro P P' W h1 h2;exact h1.imp h2);rw[<- hR] at HZ gd gi ⊢;clear h hz hno hp hr hn hR
 go_enter func30,ntmps30
 go_wp2_with fail
 go_loopw [5,6,7] (fun s5 s6 s7 wr=>∃ i:Nat,i<=zs.length/\s5=.int .i64 i/\Hid (R (fun l=>∀ j,j<i->((l.getD j 0:Nat):Int)=at0 zs j) wr)) (fun s5 _ _ _=>zs.length-(intOf s5).toNat)
 case atStart=>exact⟨0,Nat.zero_le _,rfl,gC⟩
 case round =>
  obtain⟨i,hi,rfl,HR⟩:=hrel
  by_cases gv:i<zs.length
  .
   have gw:(i:Int)<zs.length:=by omega
   have g3:Ybk zs n:=by
    rcases HP.out with e|e
    . omega
    . exact e
   have gp:zs.length=n:=g3.len;obtain⟨zi,gq,ezi⟩:=g3.lt i (by omega);have gm:=Hd (gd.out wr _ HR.out);have go:=Hd g3.inj;clear g3;go_wp2_with fail;refine gm.out.mono ?_;rintro x w3 ⟨av,cv,l,rfl,gg,gh,g8,ga,gb,gy,g6⟩;obtain⟨p,gf,g7⟩:=ga zi gq;have gx:i<=p:=by
    rcases Nat.lt_or_ge p i with h|h
    . exfalso;have e1:=g8 p h;rw[g7,<- ezi] at e1;have:=go.out i p (by omega) gf e1;omega
    . exact h
   have gn:=Hd gh;have gD:=Hd g8;have g5:=Hd g7;have gE:=Hd gb;have gl:=Hd g6;have gN:((n:Int) != (zs.length:Int))=false:=by rw[gp];simp
   obtain⟨bz,oz,ea,cz⟩:=(HZ.out w3 _ g6).cells i gv;subst ea;rw[ezi] at cz;have EZI:=Hd ezi;clear gh g8 g7 gb g6 ga gm gy ezi;go_wp2_with fail
   go_loopw [7] (fun s7 wr=>∃ q:Nat,i<=q/\q<=p/\s7=.int .i64 q/\Hid (Below w3.heap.size w3 wr)) (fun s7 _=>p-(intOf s7).toNat)
   case atStart=>exact⟨i,Nat.le_refl _,gx,rfl,Hd (Below.refl _ _)⟩
   case round =>
    rename World=>wq
    obtain⟨q,gu,gM,rfl,g0⟩:=hrel;have gK:(q:Int)<(n:Int):=by omega
    have g4:q<n:=by omega
    obtain⟨bv,ov,rfl,cq⟩:=(gn.out.below g0.out).cells q (by rw[List.length_map,gg];exact g4);have cz':=(g0.out.cell (p:=⟨bz,oz+i,none⟩) (Zab cz)).trans cz;rw[Zvm (by rw[gg];exact g4)] at cq;obtain⟨y,hy⟩:∃ y,y=l.getD q 0:=⟨_,rfl⟩;rw[<- hy] at cq;have HY:=Hd hy;clear hy;go_upto_region 8 with fail;refine Zap (fun W:World=>W.cell? ⟨bv,ov+q,none⟩=some (.int .i64 (y:Nat))/\W.cell? ⟨bz,oz+i,none⟩=some (.int .i64 (zi:Nat))/\Hid (Below w3.heap.size w3 W)) false 15
     [(0,false),(1,false),(2,false),(3,false),(4,false),(5,false),(6,false),(7,false),(8,false),(9,false),(10,false),(11,false),(12,false),(13,false),(14,false)] (by kernel_rfl) (by kernel_rfl) ⟨cq,cz',Hd (g0.out.trans ((Zaf wq 1).mono g0.out.size))⟩ ?_
    simp only[planned,Zde]
    iterate 5
     refine Zaq rfl ?_;apply Exists.intro;refine⟨fun w' hw=>?_,?_⟩
     . obtain⟨h1,h2,_⟩:=hw;go_simp;rfl
     simp only[Zai]
    iterate 9
     refine Zja true (by go_simp) ?_;apply Exists.intro;refine⟨fun gO w' hw=>?_,?_⟩
     . obtain⟨h1,h2,_⟩:=hw;go_simp;rfl
     simp only[Zai]
    iterate 1
     refine Zaq rfl ?_;apply Exists.intro;refine⟨fun w' hw=>?_,?_⟩
     . obtain⟨h1,h2,_⟩:=hw;go_simp;rfl
     simp only[Zai]
    refine Zeg ?_
    by_cases gJ:q<p
    .
     have g9:((y:Int) != (zi:Int))=true:=by
      simp only[bne_iff_ne,ne_eq];intro e;have e2:l.getD q 0=l.getD p 0:=by rw[g5.out,<- HY.out];omega
      have:=gE.out q p g4 gf e2;omega
     go_wp2_with fail;go_roundw
     case rel=>exact⟨q+1,by omega,by omega,by go_num,Hd (g0.out.trans ((Zaf wq 1).mono g0.out.size))⟩
     case measure=>simp[intOf];omega
    .
     obtain rfl:q=p:=by omega
     have g9:((y:Int) != (zi:Int))=false:=by
      have:y=zi:=by rw[HY.out,g5.out]
      rw[this];simp
     have gL:((q:Int) == (n:Int))=false:=by simp;omega
     have gk:Hid (R (fun l'=>(∀ j,j<i->((l'.getD j 0:Nat):Int)=at0 zs j)/\l'.getD q 0=zi) wq.drew):=Hd (by
      have h1:=gz.out _ _ _ gl.out (g0.out.trans ((Zaf wq 1).mono g0.out.size));exact gj.out _ _ _ h1 fun l' _ e=>by subst e;exact⟨gD.out,g5.out⟩)
     rw[g9];clear gl g0 gn cq cz cz' g9;go_wp2_with fail
     go_loopw [4,7] (fun s4 s7 wr=>∃ q:Nat,i<=q/\q<n/\s7=.int .i64 q/\Hid (R (fun l'=>(∀ j,j<i->((l'.getD j 0:Nat):Int)=at0 zs j)/\l'.getD q 0=zi) wr)) (fun _ s7 _=>(intOf s7).toNat)
     case atStart=>exact⟨q,gu,g4,rfl,gk⟩
     case round =>
      clear gk HY g5
      rename World=>wt
      obtain⟨t,gI,gt,rfl,gc⟩:=hrel
      by_cases gH:i<t
      .
       obtain⟨t',rfl⟩:∃ t',t=t'+1:=⟨t-1,by omega⟩;have gs:((t'+1:Nat):Int)>i:=by omega
       have HS:=Hd (gi.out wt _ gc.out t' gt (fun l'=>(∀ j,j<i->((l'.getD j 0:Nat):Int)=at0 zs j)/\l'.getD t' 0=zi) (fun l' hl ⟨g1,g2⟩=>⟨fun j hj=>by rw[Yde (by omega) (by omega)];exact g1 j hj,by rw[Zy3 (by omega)];exact g2⟩));have gF:((t'+1:Nat):Int)-1=(t':Nat):=by omega
       go_upto_region 14 with fail;go_wp2_with fail;refine HS.out.mono ?_;rintro x w5 ⟨rfl,ge⟩;have gB:=Hd ge;clear ge HS gc;go_wp2_with fail;go_roundw
       case rel=>exact⟨t',by omega,by omega,by go_num,gB⟩
       case measure=>simp[intOf]
      .
       obtain rfl:t=i:=by omega
       have gA:Hid (R (fun l=>∀ j,j<t+1->((l.getD j 0:Nat):Int)=at0 zs j) wt):=Hd (by
        refine gj.out _ _ _ gc.out fun l' _ ⟨g1,g2⟩ j hj=>?_
        rcases Nat.lt_or_ge j t with h|h
        . exact g1 j h
        .
         obtain rfl:j=t:=by omega
         rw[g2,EZI.out])
       have gs:¬ (t:Int)>t:=by omega
       go_wp2_with fail;go_roundw
       case rel=>exact⟨t+1,by omega,by go_num,gA⟩
       case measure=>simp[intOf];omega
  .
   have he:i=zs.length:=by omega
   have gw:¬ (i:Int)<zs.length:=by omega
   go_wp2_with fail;go_ret;exact⟨rfl,by rw[<- he];exact HR.out⟩
end
open Go.RowKit
theorem Zt0 (i n:Nat)(hi:i<=1048576)(hn:n<=16)(w:World):Calls prog 79 #[.int .i64 i,.int .i64 n] w fun x w'=>∃ v,x=.returned v/\OwnB w' w.heap.size v (Zcy i n)/\Below w.heap.size w w':=by
 go_enter func79,ntmps79
 go_wp2_with fail
 go_loopw [0,5,6] (fun s0 s5 s6 wr=>∃ j q:Nat,j<=n/\q<=1048576/\s6=.int .i64 j/\s0=.int .i64 q/\Hid (i/2^j=q)/\OwnB wr w.heap.size s5 (Zcy i j)/\w.heap.size<=wr.heap.size/\Below w.heap.size w wr) (fun _ _ s6 _=>n-(intOf s6).toNat)
 case atStart=>exact⟨0,i,Nat.zero_le _,hi,rfl,rfl,Hd (by simp),Zem _ w _ (Nat.le_refl _),by simp,Zad w _⟩
 case round =>
  obtain⟨j,q,hj,hq,rfl,rfl,HQ,g0,g5,g1⟩:=hrel
  by_cases g7:j<n
  .
   have HB:Hid (((q:Int).tmod 2 == 1)=bitB i j):=by
    refine Hd ?_;rw[tmod2];unfold bitB;rw[HQ.out]
   have g2:=Hd g0;have g3:=Hd g1;clear g0 g1;go_wp2_with (at_builtin;refine Zck Zdh _ rfl _ _ rfl w.heap.size _ (Zbj (Zcy i j)) _ rfl rfl rfl rfl rfl (by exact g2.out) (by simp[Zbj,Zdo];omega) g5 ?_;intro v1 w1 g4 e1 e2 e3 e4 g6);go_roundw
   case rel =>
    refine⟨j+1,q/2,by omega,by omega,by go_num,by go_num,Hd ?_,?_,by omega,Zgc g3.out g2.out e1 e2 e3 e4 g6 g5⟩
    . rw[Nat.pow_succ,<- Nat.div_div_eq_div_mul,HQ.out]
    . rw[Ztf];unfold OwnB;rw[Zhw,<- HB.out];exact g4
   case measure=>simp[intOf];omega
  .
   have he:j=n:=by omega
   subst he;have g2:=Hd g0;have g3:=Hd g1;clear g0 g1;go_wp2_with fail;go_ret;exact⟨_,rfl,g2.out,g3.out⟩
theorem Zz5 {T ST:TypeId}{z:Value}{b:Nat}(E:Zta T ST z b)(ty:TypeId)(wr:World)(base:Nat)(v:Value)(xs:List Value)(y:Value)(hy:y.oneCell'=true)(hown:OwnC T wr base v xs)(hlen:xs.length<1099511627776)(hbase:base<=wr.heap.size) :
 ∃ v' w',(Builtin.append_ #[ST,ST] ty #[v,.slice (some ⟨wr.heap.size,0,none⟩) 1 1]).run prog (wr.alloc (.cells #[y] T))=.ok v' w' /\
  OwnC T w' base v' (xs++[y])/\w'.os=wr.os/\w'.tape=wr.tape/\w'.output=wr.output/\wr.heap.size<=w'.heap.size/\Zdt v v' wr w':=by
 obtain⟨i,hi,hz,g1,g3⟩:=info_parts E.info;have g2:=E.small;obtain⟨v',w',hr,h1,h2,_,g0⟩:=run_append_own_at (P:=prog) (wr.alloc (.cells #[y] T)) base ST ty T i z 1 b E.under hi hz g1 g3 (by rw[E.one];rfl) (by decide)
  v xs.length xs (hown.alloc _) ⟨wr.heap.size,0,none⟩ 1 1 [y] rfl (cell_one_new _ _ _) (by intro u hu;simp at hu;subst hu;exact hy) (by unfold maxLen;omega) (by
   have h1:(xs.length+1)*b<=1099511627776*100:=Nat.mul_le_mul (by omega) g2;omega) (by simp;omega)
 refine⟨v',w',hr,?_,h2.os,h2.tape,h2.output,?_,⟨Zef h2,g0.imp id fun e=>⟨_,e,by simp⟩⟩⟩
 . unfold OwnC;rw[List.length_append];exact h1
 . have:=h2.size;simp at this;omega
theorem OwnC.lower {T:TypeId}{w:World}{base b:Nat}{v:Value}{xs:List Value}(h:OwnC T w base v xs)(hb:b<=base):OwnC T w b v xs:=by
 refine⟨h.1,?_⟩;rcases h.2 with hn|⟨g,cap,cur,rfl,g0,rest⟩
 . exact .inl hn
 . exact .inr ⟨g,cap,cur,rfl,by omega,rest⟩
theorem Zl8 (e:ExT)(x:Value)(n:Nat)(hn:n<=12)(w:World)(hs:e.size<=4096)(hok:okT e 1)(h:Zbf w e x) :
 Calls prog 32 #[x,.int .i64 n] w fun y w'=>∃ v,y=.returned v/\OwnB w' w.heap.size v (tabB n (fnT e))/\Below w.heap.size w w':=by
 have gt:Hid (∀ W,Below w.heap.size w W->∀ u,u=x->Calls prog 20 #[u] W fun y w'=>y=.returned (.int .i64 0)/\Below W.heap.size W w'):=Hd fun W hb u hu=>by
  subst hu
  exact(Zhx e _ W hs (h.below hb)).mono (by
   rintro y w' ⟨err,rfl,h1,h2⟩;rw[h1.2 hok];exact⟨rfl,h2⟩)
 have gx:Hid (∀ W,Below w.heap.size w W->∀ u,u=x->∀ (ls:List Bool) al cl,Zbp W al ls->Calls prog 78 #[u,.slice al ls.length cl] W fun y w'=>y=.returned (.bool (fnT e (Zcv ls)))/\Below W.heap.size W w'):=Hd fun W hb u hu ls al cl hl=>by
  subst hu;exact Zly ls al cl e _ W hok.valid (h.below hb) hl
 have gi:Hid (∀ j,j<=1048576->∀ W,Calls prog 79 #[.int .i64 (j:Nat),.int .i64 n] W fun x w'=>∃ v,x=.returned v/\OwnB w' W.heap.size v (Zcy j n)/\Below W.heap.size W w'):=Hd fun j hj W=>Zt0 j n hj (by omega) W
 have HS:Hid (∀ k,k<=n->2^k<=4096):=Hd fun k hk=>Nat.le_trans (Nat.pow_le_pow_right (by omega) (show k<=12 by omega)) (by decide)
 obtain⟨x0,x1,x2,hx,o0,o1,o2⟩:=h.agg;subst hx;obtain⟨w1,g5⟩:∃ w1,w1=w.alloc (.cells #[x0,x1,x2] 54):=⟨_,rfl⟩;have HW1:Hid (_=w1):=Hd g5.symm;have g7:Hid (Below w.heap.size w w1):=by rw[g5];exact Hd (Zad _ _)
 have g4:w1.heap[w.heap.size]?=some (.cells #[x0,x1,x2] 54 (0,0)):=by rw[g5];exact heap_alloc_new _ _
 have hs1:w1.heap.size=w.heap.size+1:=by rw[g5];simp
 have d0:w1.cell? ⟨w.heap.size,0,none⟩=some x0:=by rw[cell_of_row _ _ 0 _ _ _ g4];rfl
 have d1:w1.cell? ⟨w.heap.size,1,none⟩=some x1:=by rw[cell_of_row _ _ 1 _ _ _ g4];rfl
 have d2:w1.cell? ⟨w.heap.size,2,none⟩=some x2:=by rw[cell_of_row _ _ 2 _ _ _ g4];rfl
 obtain⟨L,hL⟩:∃ L,L=2^n:=⟨_,rfl⟩;have gC:=Hd hL;obtain⟨G,hG⟩:∃ G:Nat->Bool,G=fun i=>fnT e (Zcv (Zcy i n)):=⟨_,rfl⟩
 have HG:Hid (∀ i,fnT e (Zcv (Zcy i n))=G i):=Hd fun i=>by rw[hG]
 have HT:Hid (tabB n (fnT e)=(List.range L).map G):=Hd (by rw[hL,hG];rfl);have gI:L<=4096:=by rw[hL];exact HS.out n (Nat.le_refl _)
 rw[HT.out];clear h g5 g4 hG hL
 go_enter func32,ntmps32
 go_upto_region 1 with fail;rw[HW1.out];have gH:¬ (n:Int)<0:=by omega
 have gF:¬ (n:Int)>12:=by omega
 go_wp2_with fail;refine(gt.out _ g7.out _ rfl).mono ?_;rintro y w2 ⟨rfl,gq⟩;have HB2:=Hd gq;clear gq gt;go_wp2_with fail
 go_loopw [5,6] (fun s5 s6 wr=>∃ k p:Nat,k<=n/\s5=.int .i64 p/\s6=.int .i64 k/\Hid (wr=w2)/\Hid (2^k=p)) (fun _ s6 _=>n-(intOf s6).toNat)
 case atStart=>exact⟨0,1,Nat.zero_le _,rfl,rfl,Hd rfl,Hd rfl⟩
 case round =>
  obtain⟨k,p,hk,rfl,rfl,gf,HP⟩:=hrel;have gG:p<=4096:=by rw[<- HP.out];exact HS.out k hk
  by_cases gl:k<n
  .
   go_wp2_with fail;go_roundw
   case rel=>exact⟨k+1,2*p,by omega,by go_num,by go_num,gf,Hd (by rw[Nat.pow_succ,HP.out];omega)⟩
   case measure=>simp[intOf];omega
  .
   obtain rfl:k=n:=by omega
   obtain rfl:p=L:=by rw[<- HP.out,gC.out]
   have gz:=gf.out;subst gz;obtain⟨w3,g8⟩:∃ w3,w3=wr.alloc (.cells #[] 4):=⟨_,rfl⟩;have gr:Hid (_=w3):=Hd g8.symm;have ge:Below w1.heap.size w1 w3:=by rw[g8];exact HB2.out.trans ((Zad _ _).mono HB2.out.size)
   have gg:Hid (OwnB w3 w1.heap.size (.slice (some ⟨wr.heap.size,0,none⟩) 0 0) []):=by rw[g8];exact Hd (Zem _ _ _ HB2.out.size)
   have gv:=Hd ge;have gj:w1.heap.size<=w3.heap.size:=ge.size;clear g8 ge gl;go_upto_region 9 with fail;rw[gr.out];go_wp2_with fail
   go_loopw [7,8] (fun s7 s8 wr=>∃ j:Nat,j<=p/\s8=.int .i64 j/\Hid (OwnB wr w1.heap.size s7 ((List.range j).map G))/\Hid (Below w1.heap.size w1 wr)/\w1.heap.size<=wr.heap.size) (fun _ s8 _=>p-(intOf s8).toNat)
   case atStart=>exact⟨0,Nat.zero_le _,rfl,gg,gv,gj⟩
   case round =>
    clear gg gv gj gr gf HB2
    rename World=>wq
    obtain⟨j,hj,rfl,gs,g3,gA⟩:=hrel
    by_cases gl:j<p
    .
     have e0:=(g3.out.cell (p:=⟨w.heap.size,0,none⟩) (Zab d0)).trans d0;have e1:=(g3.out.cell (p:=⟨w.heap.size,1,none⟩) (Zab d1)).trans d1;have e2:=(g3.out.cell (p:=⟨w.heap.size,2,none⟩) (Zab d2)).trans d2;have HL:=Hd (gi.out j (by omega) wq.drew);go_upto_region 12 with fail;refine Zap (fun W:World=>W.cell? ⟨w.heap.size,0,none⟩=some x0/\W.cell? ⟨w.heap.size,1,none⟩=some x1/\W.cell? ⟨w.heap.size,2,none⟩=some x2) false 9
      [(0,false),(1,false),(2,false),(3,false),(4,true),(5,true),(6,true),(7,true),(8,false)] (by kernel_rfl) (by kernel_rfl) ⟨e0,e1,e2⟩ ?_
     simp only[planned,Zde]
     iterate 4
      refine Zaq rfl ?_;apply Exists.intro;refine⟨fun w' hw=>?_,?_⟩
      . obtain⟨h1,h2,h3⟩:=hw;go_simp;rfl
      simp only[Zai]
     refine Zb9 (R:=fun v w'=>Zbu w' v (Zcy j k)/\Below wq.heap.size wq w') rfl (by go_simp) (HL.out.mono (fun e w' he=>?_)) ?_
     . obtain⟨v,rfl,q1,q2⟩:=he;have q3:Below wq.heap.size wq w':=(Zaf wq 1).trans (q2.mono (Zaf wq 1).size);exact⟨v,rfl,⟨(q3.cell (p:=⟨w.heap.size,0,none⟩) (Zab e0)).trans e0,(q3.cell (p:=⟨w.heap.size,1,none⟩) (Zab e1)).trans e1,(q3.cell (p:=⟨w.heap.size,2,none⟩) (Zab e2)).trans e2⟩,q1.boolsIs (by rw[Zdo];omega),q3⟩
     rintro v w4 ⟨f0,f1,f2⟩ ⟨⟨av,cv,rfl,gn,-⟩,gp⟩;have gu:=Hd gn;have gc:=Hd gp;clear gn gp e0 e1 e2 HL;simp only[Zai];refine Zb9 (R:=fun v w'=>v=.bool (G j)/\Below w4.heap.size w4 w') rfl (by go_simp) ((gx.out w4 (g7.out.trans ((g3.out.trans (gc.out.mono g3.out.size)).mono g7.out.size)) _ rfl (Zcy j k) av cv gu.out).mono (fun e w' he=>?_)) ?_
     . obtain⟨rfl,q3⟩:=he;exact⟨_,rfl,⟨(q3.cell (p:=⟨w.heap.size,0,none⟩) (Zab f0)).trans f0,(q3.cell (p:=⟨w.heap.size,1,none⟩) (Zab f1)).trans f1,(q3.cell (p:=⟨w.heap.size,2,none⟩) (Zab f2)).trans f2⟩,by rw[HG.out],q3⟩
     rintro v w5 ⟨g0,g1,g2⟩ ⟨rfl,go⟩;obtain⟨y,hy⟩:∃ y,y=G j:=⟨_,rfl⟩;rw[<- hy];have gB:Hid (Zbj ((List.range (j+1)).map G)=Zbj ((List.range j).map G)++[.bool y]):=Hd (by rw[Zm3,Zhw,hy]);have ga:=gc.out.trans (go.mono gc.out.size);have gE:=Hd (g3.out.trans (ga.mono g3.out.size));have gh:=Hd (gs.out.below ga);have gd:w1.heap.size<=w5.heap.size:=Nat.le_trans gA ga.size;clear go ga f0 f1 f2 hy gu gc;simp only[Zai];have gb:=Zad w5 (.cells #[.bool y] 4);refine Ziq (v:=.slice (some ⟨w5.heap.size,0,none⟩) 1 1) (w':=w5.alloc (.cells #[.bool y] 4)) rfl (by go_simp) ⟨(gb.cell (p:=⟨w.heap.size,0,none⟩) (Zab g0)).trans g0,(gb.cell (p:=⟨w.heap.size,1,none⟩) (Zab g1)).trans g1,(gb.cell (p:=⟨w.heap.size,2,none⟩) (Zab g2)).trans g2⟩ ?_;simp only[Zai];obtain⟨v6,w6,gk,g9,q1,q2,q3,q4,gm⟩:=Zz5 Zdh 34 w5 w1.heap.size _ (Zbj ((List.range j).map G)) (.bool y) rfl gh.out (by simp[Zbj];omega) gd;have g6:=Zgc gE.out gh.out q1 q2 q3 q4 gm gd;refine Ziq (v:=v6) (w':=w6) rfl (Zk6 rfl rfl rfl gk) ⟨(g6.cell (p:=⟨w.heap.size,0,none⟩) (Zab d0)).trans d0,(g6.cell (p:=⟨w.heap.size,1,none⟩) (Zab d1)).trans d1,(g6.cell (p:=⟨w.heap.size,2,none⟩) (Zab d2)).trans d2⟩ ?_;simp only[Zai]
     iterate 1
      refine Zaq rfl ?_;apply Exists.intro;refine⟨fun w' hw=>?_,?_⟩
      . obtain⟨h1,h2,h3⟩:=hw;go_simp;rfl
      simp only[Zai]
     refine Zeg ?_;have gD:=Hd g6;have gy:=Hd g9;have gw:w1.heap.size<=w6.heap.size:=by omega
     clear g6 g9 q1 q2 q3 q4 gm gk g0 g1 g2 gb;go_wp2_with fail;go_roundw
     case rel=>exact⟨j+1,by omega,by go_num,Hd (by unfold OwnB;rw[gB.out];exact gy.out),gD,gw⟩
     case measure=>simp[intOf];omega
    .
     obtain rfl:j=p:=by omega
     have HF:Hid (∃ v,Ending.returned u7=.returned v/\OwnB wq w.heap.size v ((List.range j).map G)/\Below w.heap.size w wq):=Hd ⟨u7,rfl,gs.out.lower (by omega),g7.out.trans (g3.out.mono g7.out.size)⟩;go_wp2_with fail;go_ret;exact HF.out
open Go.RowKit
section
variable {P:Program}(w:World)
theorem Zj9 (t ty e:TypeId)(i:TypeInfo)(ht:P.underlying t=some (.slice e))(hi:P.info? e=some i)
 (g off sLen sCap:Nat) (cur:Array Value) (hg:w.heap[g]?=some (.cells cur e (0,0)))
 (a:Addr) (m c:Nat) (news:List Value) (hl:news.length=m*i.size) (hnews:∀ j u,news[j]?=some u->w.cell? (a.add j)=some u) (h1:∀ u∈news,u.oneCell'=true)
 (hroom:sLen+m<=sCap) (hfit:off+sLen*i.size+news.length<=cur.size) :
 (Builtin.append_ #[t,t] ty #[.slice (some ⟨g,off,none⟩) sLen sCap,.slice (some a) m c]).run P w =
  .ok (.slice (some ⟨g,off,none⟩) (sLen+m) sCap) (w.setRow g (cur.toList.take (off+sLen*i.size)++news++cur.toList.drop (off+sLen*i.size+news.length)).toArray):=by
 have hf:=run_firstCells_some (P:=P) w i.size m a m c news hl hnews;have g0:=run_storeCells_at P g (off+sLen*i.size) e news 0 cur w hg (by simpa using hfit) h1;simp only[Nat.add_zero] at g0;have g1:(⟨g,off,none⟩:Addr).add (sLen*i.size)=⟨g,off+sLen*i.size,none⟩:=by unfold Addr.add;split<;>simp_all
 simp[Builtin.append_,run_underlying ht,sizeOf,typeInfo,hi,Builtin.lenOf,hroom,hf,g1,g0]
end
theorem Ydh:(prog.info? 52).map (fun i=>(i.zero,i.size,i.bytes))=some (some (.agg #[.int .i64 0,.int .i64 0,.int .i64 0]),3,24):=by kernel_rfl
theorem Yb0 (l:List Ev):∀ (j:Nat) (u:Value),(l.flatMap evL)[j]?=some u->∃ hk:j/3<l.length,(evL (l[j/3]))[j%3]?=some u:=by
 induction l with
 | nil=>intro j u h;simp at h
 | cons e l ih =>
   intro j u h;rw[List.flatMap_cons] at h
   by_cases hj:j<3
   .
    rw[List.getElem?_append_left (by show j<3;exact hj)] at h;have e0:j/3=0:=by omega
    refine⟨by rw[e0];simp,?_⟩;have e1:j%3=j:=by omega
    simp only[e0,e1,List.getElem_cons_zero];exact h
   .
    rw[List.getElem?_append_right (by show 3<=j;omega)] at h;obtain⟨hk,h2⟩:=ih (j-3) u h;have e0:j/3=(j-3)/3+1:=by omega
    have e1:j%3=(j-3)%3:=by omega
    refine⟨by rw[e0,List.length_cons];omega,?_⟩;simp only[e0,e1,List.getElem_cons_succ];exact h2
theorem EvsAt.news {w:World}{b off:Nat}{l:List Ev}(h:EvsAt w (some ⟨b,off,none⟩) l):∀ j u,(l.flatMap evL)[j]?=some u->w.cell? ((⟨b,off,none⟩:Addr).add j)=some u:=by
 intro j u hu;have g0:(⟨b,off,none⟩:Addr).add j=⟨b,off+j,none⟩:=by unfold Addr.add;split<;>simp_all
 obtain⟨hk,h2⟩:=Yb0 l j u hu;obtain⟨b',off',e,c0,c1,c2⟩:=h.cells (j/3) hk;cases e;rw[g0];have hm:j%3<3:=Nat.mod_lt _ (by decide);rcases(by omega:j%3=0\/j%3=1\/j%3=2) with e|e|e<;>rw[e] at h2
 .
  have e2:j=j/3*3:=by omega
  rw[e2,c0];exact h2
 .
  have e2:j=j/3*3+1:=by omega
  rw[e2,<- Nat.add_assoc,c1];exact h2
 .
  have e2:j=j/3*3+2:=by omega
  rw[e2,<- Nat.add_assoc,c2];exact h2
theorem Yb1 (l:List Ev):∀ u∈l.flatMap evL,u.oneCell'=true:=by
 intro u hu;obtain⟨e,_,h⟩:=List.mem_flatMap.1 hu;simp only[evL,List.mem_cons,List.not_mem_nil,or_false] at h;rcases h with rfl|rfl|rfl<;>rfl
theorem Zj1 {o:Own}{w:World}{v:Value}{ws l:List Ev}{a:Option Addr}{c:Nat}(h:Zb5 o w v ws)(hlt:Zaj o w)(hev:EvsAt w a l)(hsm:ws.length+l.length<=1000)(ty:TypeId) :
 ∃ v' w' o',(Builtin.append_ #[24,24] ty #[v,.slice a l.length c]).run prog w=.ok v' w'/\Zb5 o' w' v' (ws++l)/\Chg (· = .waits) o o' w w'/\Zaj o' w':=by
 obtain⟨i,hi,hz,g3,gb⟩:=info_parts Ydh;have ht:=underlying24
 by_cases h0:l=[]
 .
  subst h0;refine⟨v,w,o,?_,by rw[List.append_nil];exact h,Chg.refl _ _ _,hlt⟩;rcases h.ex with ⟨rfl,rfl⟩|⟨g,off,cap,cur,rfl,_,_,hn,_⟩
  . cases a<;>simp[Builtin.append_,run_underlying ht,sizeOf,typeInfo,hi,Builtin.lenOf,Builtin.firstCells,loadCells,loadCellsFrom]
  . cases a<;>simp[Builtin.append_,run_underlying ht,sizeOf,typeInfo,hi,Builtin.lenOf,hn,Builtin.firstCells,storeCells,loadCells,loadCellsFrom]
 .
  have ga:0<l.length:=List.length_pos_iff.2 h0;obtain⟨b,off,rfl,_⟩:=hev.cells 0 ga;have g0:=hev.news;have gc:=Yb1 l;have g5:(l.flatMap evL).length=l.length*i.size:=by rw[g3];exact Zc7 l
  have g9:(ws.flatMap evL++l.flatMap evL).length=(ws++l).length*3:=by rw[List.length_append,Zc7,Zc7,List.length_append];omega
  have mk:∀ (old:Nat),Zb5 (Zcx o w.heap.size .waits) (w.drew.alloc (.cells ((ws.flatMap evL).toArray++(l.flatMap evL).toArray++Builtin.zeroCells (Value.agg #[.int .i64 0,.int .i64 0,.int .i64 0]).cells (grownCap w (ws.length+l.length) old 52-(ws.length+l.length))) 52)) (.slice (some ⟨w.heap.size,0,none⟩) (ws.length+l.length) (grownCap w (ws.length+l.length) old 52)) (ws++l) /\
   Chg (· = .waits) o (Zcx o w.heap.size .waits) w (w.drew.alloc (.cells ((ws.flatMap evL).toArray++(l.flatMap evL).toArray++Builtin.zeroCells (Value.agg #[.int .i64 0,.int .i64 0,.int .i64 0]).cells (grownCap w (ws.length+l.length) old 52-(ws.length+l.length))) 52)) /\
   Zaj (Zcx o w.heap.size .waits) (w.drew.alloc (.cells ((ws.flatMap evL).toArray++(l.flatMap evL).toArray++Builtin.zeroCells (Value.agg #[.int .i64 0,.int .i64 0,.int .i64 0]).cells (grownCap w (ws.length+l.length) old 52-(ws.length+l.length))) 52)):=by
   intro old;have gh:=grownCap_ge w (ws.length+l.length) old 52;have g6:grownCap w (ws.length+l.length) old 52<=maxLen:=grownCap_le_maxLen w _ old _ (by unfold maxLen;omega);refine⟨⟨.inr ⟨w.heap.size,0,_,_,by rw[List.length_append],Zbk _ _ _,heap_alloc_new w.drew _,by rw[List.length_append];exact gh,g6,?_,?_⟩⟩,((Chg.refl (· = .waits) o w).drewN 1).allocR (w':=w.drewN 1) hlt _ rfl,Zaj.allocR (w:=w.drewN 1) hlt _ .waits⟩
   . have e3:(Value.agg #[.int .i64 0,.int .i64 0,.int .i64 0]).cells.size=3:=rfl;simp only[Array.size_append,List.size_toArray,size_zeroCells,e3,Zc7,Nat.zero_add];omega
   . simp only[Array.toList_append,List.drop_zero,List.flatMap_append];rw[List.take_left' g9]
  rcases h.ex with ⟨rfl,rfl⟩|⟨g,off2,cap,cur,rfl,g8,hg,gg,g6,gi,g2⟩
  . have hr:=run_append_nil (P:=prog) w 24 ty 52 i _ ht hi hz ⟨b,off,none⟩ l.length c (l.flatMap evL) g5 g0 ga (by simp at hsm;omega) (by rw[gb];simp at hsm;omega);have hm:=mk 0;simp only[List.length_nil,Nat.zero_add,List.flatMap_nil,List.nil_append,Array.empty_append] at hm ⊢;exact⟨_,_,_,hr,hm⟩
  .
   by_cases g4:ws.length+l.length<=cap
   .
    have g1:off2+ws.length*i.size+(l.flatMap evL).length<=cur.size:=by rw[g5,g3];omega
    have hr:=Zj9 (P:=prog) w 24 ty 52 i ht hi g off2 ws.length cap cur hg ⟨b,off,none⟩ l.length c (l.flatMap evL) g5 g0 gc g4 g1;refine⟨_,_,o,hr,⟨.inr ⟨g,off2,cap,_,by rw[List.length_append],g8,setRow_heap w g cur _ _ _ hg,by rw[List.length_append];exact g4,g6,?_,?_⟩⟩,⟨rfl,rfl,rfl,by simp,fun k _ hk=>setRow_other w g k _ (by rintro rfl;exact hk _ g8 rfl),fun _ _ h=>h,fun _ h=>(h rfl).elim⟩,fun k q hq=>by have:=hlt k q hq;simpa using this⟩
    . simp only[List.size_toArray,List.length_append,List.length_take,List.length_drop,Array.length_toList];omega
    .
     rw[g3] at g1 ⊢;have e1:(cur.toList.take (off2+ws.length*3)).drop off2=ws.flatMap evL:=by
      rw[<- g2,List.drop_take,Nat.add_sub_cancel_left]
     have e2:off2<=(cur.toList.take (off2+ws.length*3)).length:=by
      have hq:ws.length*3<=cap*3:=Nat.mul_le_mul_right _ gg;have gf:off2+ws.length*3<=cur.size:=by clear g1;omega
      have ge:cur.toList.length=cur.size:=Array.length_toList;rw[List.length_take,ge,Nat.min_eq_left gf];exact Nat.le_add_right _ _
     simp only[List.append_assoc];rw[List.drop_append_of_le_length e2,e1,<- List.append_assoc,List.flatMap_append,List.take_left' g9]
   .
    have g7:∀ j u,(ws.flatMap evL)[j]?=some u->w.cell? ((⟨g,off2,none⟩:Addr).add j)=some u:=by
     intro j u hu;have gd:(⟨g,off2,none⟩:Addr).add j=⟨g,off2+j,none⟩:=by unfold Addr.add;split<;>simp_all
     rw[gd,cell_of_row w g (off2+j) cur _ _ hg];rw[<- g2,List.getElem?_take] at hu;split at hu
     . rw[List.getElem?_drop] at hu;simpa using hu
     . cases hu
    have hr:=run_append_grow (P:=prog) w 24 ty 52 i _ ht hi hz ⟨g,off2,none⟩ ws.length cap (ws.flatMap evL) (by rw[g3];exact Zc7 ws) g7 ⟨b,off,none⟩ l.length c (l.flatMap evL) g5 g0 (by omega) (by omega) (growslice_fits (by omega) (by rw[gb];omega));exact⟨_,_,_,hr,mk cap⟩
open Go.RowKit
theorem Zb5.form {o:Own}{w:World}{v:Value}{ws:List Ev}(h:Zb5 o w v ws):∃ a c,v=.slice a ws.length c:=by
 rcases h.ex with ⟨rfl,rfl⟩|⟨g,off,cap,cur,rfl,_⟩
 . exact⟨_,_,rfl⟩
 . exact⟨_,_,rfl⟩
theorem Zl0 {P:Program}{ops:Array Oper}{rest:List Oper}{op:Oper}{a:Act}{Q:Exit->Act->World->Prop}{w w':World}{vs vx v':Value}(hgd:op.guard=none)(s x:Operand)(t:TypeId)
 (hop:op.op=.call { callee:=.builtin .append,args:=#[s,x],argTypes:=#[t,t] }) (hs:a.eval s=vs) (hx:a.eval x=vx) (hr:(Builtin.append_ #[t,t] op.type #[vs,vx]).run P w=.ok v' w')
 (hK:wpList P ops Q rest (a.put op.dst v') w'):wpList P ops Q (op::rest) a w:=by
 refine wpList_plain hgd fun K g0=>?_
 unfold Oper.wp execOp;simp only[hop,resolve,invoke,builtin,Sem.run_bind,Sem.run_pure,Result.andThen_ok,List.map_toArray,List.map_cons,List.map_nil,hs,hx,hr];exact g0 _ _ hK
theorem Zca.setWaits {F:Phi}{o o':Own}{w w':World}{mb:Nat}{m:ManD}{s:ManW}(h:Zca F o w mb m s)(hlt:Zaj o w){v':Value}{l':List Ev}(hw:Zb5 o' w' v' l')(hc:Chg (· = .waits) o o' w w'):Zca F o' (w'.setCell ⟨mb,4,none⟩ v') mb { m with waits:=l' } { s with vw:=v' }:=by
 have key:∀ {g r},o g=some r->r ≠ .man->r ≠ .waits->(w'.setCell ⟨mb,4,none⟩ v').heap[g]?=w.heap[g]?:=by
  intro g r hg h1 h2;refine(Zag (p:=⟨mb,4,none⟩) (fun e=>?_) _).trans (hc.same hlt hg h2);have e':g=mb:=e;subst e';have:=h.own;rw[hg] at this;cases this;exact h1 rfl
 refine⟨hc.ext _ _ h.own,?_,h.store.keepR (fun g r hg hr=>key hg (by rintro rfl;simp[Zas,Zfd] at hr) (by rintro rfl;simp[Zas,Zfd] at hr)) hc.ext,h.memo.keep (fun g r hg hr=>key hg (by rintro rfl;rcases hr with e|e<;>cases e) (by rintro rfl;rcases hr with e|e<;>cases e)) hc.ext,hc.ext _ _ h.ownh,h.map.keepB (key h.ownh (by simp) (by simp)),hw.keep (fun g hg=>Zag (p:=⟨mb,4,none⟩) (fun e=>?_) _) (fun _ h=>h)⟩
 . exact Zah ((hc.same hlt h.own (by simp)).trans h.blk) _
 . have e':g=mb:=e;subst e';have:=hc.ext _ _ h.own;rw[hg] at this;cases this
section
variable {K:Law}{n:Nat}{Od:List Nat->Prop}{room:Nat}{w0 w w':World}{mb:Nat}{fs:List (Int×BF)}{nx:Int}{o o':Own}{m m':ManD}{V V':Nat->BF}
structure Planned (K:Law)(n:Nat)(Od:List Nat->Prop)(room:Nat)(w0:World)(mb:Nat)(fs:List (Int×BF))(nx:Int)(o:Own)(w:World)(m:ManD)(V:Nat->BF)(l:List Ev)(z:Int)(o':Own)(w':World)(m':ManD):Prop where
 sat:SatE K n Od room w0 mb fs nx w' o' m' V
 d:m'.d=m.d
 chg:Chg (fun _=>True) o o' w w'
 no:z≠0->m'.waits=m.waits/\m'.calls=m.calls
 yes:z=0->m'.waits=m.waits++l/\m'.calls=if m.waits=[] then 0 else m.calls
theorem Zrl (h:SatE K n Od room w0 mb fs nx w o m V){a:Option Addr}{c:Nat}{l:List Ev}(hev:EvsAt w a l)(hno:0<l.length->∀ x,a=some x->o x.block=none)(hwl:m.waits.length<=256) :
 Calls prog 33 #[.pointer (some ⟨mb,0,none⟩),.slice a l.length c] w fun e w'=>e=.returned (.int .i64 (Ze3 n m.waits.length l))/\∃ o' m',Planned K n Od room w0 mb fs nx o w m V l (Ze3 n m.waits.length l) o' w' m':=by
 obtain⟨Q,hQ⟩:∃ Q:Ending->World->Prop,Q=fun e w'=>e=.returned (.int .i64 (Ze3 n m.waits.length l))/\∃ o' m',Planned K n Od room w0 mb fs nx o w m V l (Ze3 n m.waits.length l) o' w' m':=⟨_,rfl⟩
 rw[<- hQ];have HQ:=Hd hQ;clear hQ;have gG:=hev.len;have hn64:n<=64:=by rw[<- h.vars];exact h.ok.store.small
 obtain⟨s,hs⟩:=h.is;obtain⟨c0,c1,c2,c3,c4,c5,f0⟩:=cells6 hs.blk;obtain⟨av,cv,gi⟩:=hs.waits.form
 have g1:Hid (∀ (z:Int) W,Below w.heap.size w W->Ze3 n m.waits.length l=z->z≠0->Q (.returned (.int .i64 z)) W):=Hd (by
  intro z W hb hz h0;rw[HQ.out,hz];exact⟨rfl,o,m,h.below hb,rfl,Chg.of_below hb _ _,fun _=>⟨rfl,rfl⟩,fun e=>(h0 e).elim⟩)
 have HV:Hid (∀ W,Below w.heap.size w W->Calls prog 63 #[.pointer (some ⟨mb,0,none⟩)] W fun e w'=>e=.returned (.int .i64 n)/\w'=W):=Hd (fun W hb=>(Zld (h.below hb).is).mono fun e w' q=>⟨by rw[q.1,h.vars],q.2.symm⟩);have HI:=Hd hev;have HS:=Hd hs;have HH:=Hd h;have gD:=Hd hno;rw[gi] at c4;have gt:=Hd gi;have gB:=Hd hwl;clear h hs hev hno gi
 by_cases g9:(l.length:Int)>256-m.waits.length
 .
  have HF:=Hd (g1.out 18 w (Below.refl _ _) (by unfold Ze3;rw[if_pos g9]) (by decide))
  go_enter func33,ntmps33
  go_wp2_with fail;exact HF.out
 have HR:Hid (Ze3 n m.waits.length l=Zl5 n (l.drop 0)):=Hd (by unfold Ze3;rw[if_neg g9];rfl);obtain⟨P,hP⟩:∃ P,P=Ze3 n m.waits.length l:=⟨_,rfl⟩;rw[<- hP] at HR g1;have gC:=Hd hP;clear hP;have HM:=Hd g9
 go_enter func33,ntmps33
 go_wp2_with fail
 go_loopw [20] (fun s20 wr=>∃ i:Nat,i<=l.length/\s20=.int .i64 i/\Hid (Below w.heap.size w wr)/\Hid (P=Zl5 n (l.drop i))) (fun s20 _=>l.length-(intOf s20).toNat)
 case atStart=>exact⟨0,Nat.zero_le _,rfl,Hd (Below.refl _ _),HR⟩
 case round =>
  clear HR;obtain⟨i,hi,rfl,HB,HP⟩:=hrel
  by_cases gf:i<l.length
  .
   obtain⟨b,off,rfl,e0,e1,e2⟩:=(HI.out.below HB.out).cells i gf;have gz:(i:Int)<l.length:=by omega
   have HC:Hid (∀ z:Int,Zhn n l[i]=z->z≠0->P=z):=Hd fun z hz h0=>by rw[HP.out,Zhd gf,hz,if_neg h0]
   have HN:Hid (Zhn n l[i]=0->P=Zl5 n (l.drop (i+1))):=Hd fun hz=>by rw[HP.out,Zhd gf,hz,if_pos rfl]
   have HE:Hid (Zhn n l[i]=if l[i].kind<1\/l[i].kind>3 then 11 else if l[i].after<1\/(l[i].kind=2/\(l[i].level<0\/l[i].level>(n:Int)-2)) then 2 else 0):=Hd rfl;obtain⟨ev,hev⟩:∃ ev,ev=l[i]:=⟨_,rfl⟩;rw[<- hev] at e0 e1 e2 HC HN HE;obtain⟨af,ki,le⟩:=ev;dsimp only at e0 e1 e2 HE;clear hev HP c0 c1 c2 c3 c4 c5 f0;obtain⟨W,hW⟩:∃ W,W=wr.alloc (.cells #[.int .i64 af,.int .i64 ki,.int .i64 le] 52):=⟨_,rfl⟩;have gg:Below w.heap.size w W:=HB.out.trans ((show Below wr.heap.size wr W by rw[hW];exact Zad wr _).mono HB.out.size);obtain⟨bx,gm⟩:∃ q,q=wr.heap.size:=⟨_,rfl⟩;have hx:W.heap[bx]?=some (.cells #[.int .i64 af,.int .i64 ki,.int .i64 le] 52 (0,0)):=by rw[hW,gm];exact heap_alloc_new wr _
   have b0:W.cell? ⟨bx,0,none⟩=some (.int .i64 af):=by rw[cell_of_row W _ 0 _ _ _ hx];rfl
   have b1:W.cell? ⟨bx,1,none⟩=some (.int .i64 ki):=by rw[cell_of_row W _ 1 _ _ _ hx];rfl
   have b2:W.cell? ⟨bx,2,none⟩=some (.int .i64 le):=by rw[cell_of_row W _ 2 _ _ _ hx];rfl
   have HW:=Hd hW;have gE:=Hd gm;have g0:=Hd gg;have g8:Hid (∀ q,Calls prog 63 #[.pointer (some ⟨mb,0,none⟩)] (W.drewN q) fun e w'=>e=.returned (.int .i64 n)/\w'=W.drewN q):=Hd (fun q=>HV.out _ (gg.trans ((Zaf W q).mono gg.size)));have gh:=Hd gf;clear hW gm gg hx;go_upto_region 8 with fail;rw[<- HW.out,<- gE.out];have gx:ki<1\/ki>3\/(ki=2)\/(ki=1\/ki=3):=by omega
   rcases gx with hk|hk|hk|hk
   . have HF:=Hd (g1.out 11 W g0.out (HC.out 11 (by rw[HE.out,if_pos (.inl hk)]) (by decide)) (by decide));go_wp2_with fail;exact HF.out
   .
    have HF:=Hd (g1.out 11 W g0.out (HC.out 11 (by rw[HE.out,if_pos (.inr hk)]) (by decide)) (by decide));have gy:¬ ki<1:=by omega
    go_wp2_with fail;exact HF.out
   .
    by_cases ha:af<1
    .
     have HF:Hid (∀ q,Q (.returned (.int .i64 2)) (W.drewN q)):=Hd (fun q=>g1.out 2 _ (g0.out.trans ((Zaf W q).mono g0.out.size)) (HC.out 2 (by rw[HE.out,if_neg (by omega),if_pos (.inl ha)]) (by decide)) (by decide));subst hk;go_upto_region 10 with fail
     go_quiet (with_reducible exact Calls.quiet_of_same (g8.out _))
     go_wp2_with fail;exact HF.out _
    .
     by_cases gw:le<0
     .
      have HF:Hid (∀ q,Q (.returned (.int .i64 2)) (W.drewN q)):=Hd (fun q=>g1.out 2 _ (g0.out.trans ((Zaf W q).mono g0.out.size)) (HC.out 2 (by rw[HE.out,if_neg (by omega),if_pos (.inr ⟨hk,.inl gw⟩)]) (by decide)) (by decide));subst hk;go_upto_region 10 with fail
      go_quiet (with_reducible exact Calls.quiet_of_same (g8.out _))
      go_wp2_with fail;exact HF.out _
     .
      by_cases gb:le>=(n:Int)-1
      .
       have HF:Hid (∀ q,Q (.returned (.int .i64 2)) (W.drewN q)):=Hd (fun q=>g1.out 2 _ (g0.out.trans ((Zaf W q).mono g0.out.size)) (HC.out 2 (by rw[HE.out,if_neg (by omega),if_pos (.inr ⟨hk,.inr (by omega)⟩)]) (by decide)) (by decide));subst hk;go_upto_region 10 with fail
       go_quiet (with_reducible exact Calls.quiet_of_same (g8.out _))
       go_wp2_with fail;exact HF.out _
      .
       have gc:=Hd (HN.out (by rw[HE.out,if_neg (by omega),if_neg (by omega)]));subst hk;go_upto_region 10 with fail
       go_quiet (with_reducible exact Calls.quiet_of_same (g8.out _))
       have go:=Hd (g0.out.trans ((Zaf W nq).mono g0.out.size));go_wp2_with fail;go_roundw
       case rel=>exact⟨i+1,Nat.succ_le_of_lt gh.out,by go_num,go,gc⟩
       case measure =>
        have:=gh.out;simp[intOf];omega
   .
    have gy:¬ ki<1:=by omega
    have gI:¬ ki>3:=by omega
    have gH:(ki == 2)=false:=by simp;omega
    by_cases ha:af<1
    .
     have HF:Hid (∀ q,Q (.returned (.int .i64 2)) (W.drewN q)):=Hd (fun q=>g1.out 2 _ (g0.out.trans ((Zaf W q).mono g0.out.size)) (HC.out 2 (by rw[HE.out,if_neg (by omega),if_pos (.inl ha)]) (by decide)) (by decide));clear hk;go_upto_region 10 with fail
     go_quiet (with_reducible exact Calls.quiet_of_same (g8.out _))
     go_wp2_with fail;exact HF.out _
    .
     have gc:=Hd (HN.out (by rw[HE.out,if_neg (by omega),if_neg (by omega)]));clear hk;go_upto_region 10 with fail
     go_quiet (with_reducible exact Calls.quiet_of_same (g8.out _))
     have go:=Hd (g0.out.trans ((Zaf W nq).mono g0.out.size));go_wp2_with fail;go_roundw
     case rel=>exact⟨i+1,Nat.succ_le_of_lt gh.out,by go_num,go,gc⟩
     case measure =>
      have:=gh.out;simp[intOf];omega
  .
   have he:i=l.length:=by omega
   have gz:¬ (i:Int)<l.length:=by omega
   have gc:Hid (P=0):=Hd (by rw[HP.out,he,List.drop_length];rfl);clear he;have hs':=HS.out.below HH.out.lt HB.out;have g3:=HH.out.lt.mono HB.out.size;have gp:m.waits.length+l.length<=1000:=by have:=HM.out;have:=gB.out;omega
   have gn:Hid (∀ (cl:Int) (W:World) (hm:Zca (K m.d V) o W mb { m with calls:=cl } s) (hl:Zaj o W) (hc:Chg (fun _=>True) o o w W) (v':Value) (W':World) (o':Own),cl=(if m.waits=[] then 0 else m.calls)->Zb5 o' W' v' (m.waits++l)->Chg (· = .waits) o o' W W'->Zaj o' W'->Q (.returned (.int .i64 0)) (W'.setCell ⟨mb,4,none⟩ v')):=Hd (by
    intro cl W hm hl hc v' W' o' gA hw gl gv;rw[HQ.out,<- gC.out,gc.out];have gu:=hm.setWaits hl hw gl;have gr:Chg (fun _=>True) o o' w (W'.setCell ⟨mb,4,none⟩ v'):=(hc.trans gl.any).setCell (p:=⟨mb,4,none⟩) (gl.ext _ _ hm.own) trivial _;exact⟨rfl,o',{ m with waits:=m.waits++l,calls:=cl },⟨⟨_,gu⟩,gv.mono (by simp[World.setCell]),⟨HH.out.ok.store,⟨HH.out.ok.handles.nodup,HH.out.ok.handles.zero,HH.out.ok.handles.one,HH.out.ok.handles.lt,HH.out.ok.handles.next,HH.out.ok.handles.ok,HH.out.ok.handles.len,HH.out.ok.handles.refs⟩⟩,HH.out.vars,HH.out.od,HH.out.room,HH.out.next,HH.out.hs,HH.out.chg.lower (ChgX.of_chg gr NoB) (fun _ e=>e.elim)⟩,rfl,gr,fun e=>(e rfl).elim,fun _=>⟨rfl,gA⟩⟩)
   have gd:=HI.out.below HB.out;clear c0 c1 c2 c3 c4 c5 f0;obtain⟨c0,c1,c2,c3,c4,c5,f0⟩:=cells6 hs'.blk
   by_cases hw0:m.waits=[]
   .
    have hz:m.waits.length=0:=by rw[hw0];rfl
    have HZ:=Hd hz;have g7:Zca (K m.d V) o (wr.setCell ⟨mb,5,none⟩ (.int .i64 0)) mb { m with calls:=0 } s:=hs'.field rfl rfl rfl rfl rfl (hs'.waits) rfl;have gs:Chg (fun _=>True) o o w (wr.setCell ⟨mb,5,none⟩ (.int .i64 0)):=(Chg.of_below HB.out _ _).setCell (p:=⟨mb,5,none⟩) hs'.own trivial _;have gb:Zaj o (wr.setCell ⟨mb,5,none⟩ (.int .i64 0)):=g3.mono (by simp[World.setCell])
    have gq:EvsAt (wr.setCell ⟨mb,5,none⟩ (.int .i64 0)) a l:=⟨gd.len,fun k hk=>by
     obtain⟨b,off,e,q0,q1,q2⟩:=gd.cells k hk;have gk:mb≠b:=by
      rintro rfl;have:=gD.out (by omega) _ e;have h2:=hs'.own;rw[h2] at this;cases this
     exact⟨b,off,e,Za4 q0 (.inl gk),Za4 q1 (.inl gk),Za4 q2 (.inl gk)⟩⟩
    obtain⟨v',w2,o2,g2,g4,g5,ga⟩:=Zj1 (c:=c) g7.waits gb gq gp 24;obtain⟨av2,cv2,gj⟩:=g4.form;subst gj;have HF:=Hd (gn.out 0 _ g7 gb gs _ w2 o2 (by rw[if_pos hw0]) g4 g5 ga);obtain⟨k0,k1,k2,k3,k4,k5,kf⟩:=cells6 g7.blk;have g6:=(g5.same gb g7.own (by simp)).trans g7.blk;obtain⟨j0,j1,j2,j3,j4,j5,jf⟩:=cells6 g6;rw[gt.out,hz] at c4 k4 g2;clear hs' g3 g7 gs gb gq g4 g5 ga gd hw0 g6 k0 k1 k2 k3 k5 kf;have ge:=Hd g2;clear g2;go_upto_region 15 with fail;go_wp2_with (refine Zl0 rfl _ _ _ rfl rfl rfl ge.out ?_);have hq:=HF.out;rw[List.length_append,HZ.out,Nat.zero_add] at hq;exact hq
   .
    have hz:0<m.waits.length:=List.length_pos_iff.2 hw0;have gF:((m.waits.length:Int) == 0)=false:=by rw[beq_eq_false_iff_ne];omega
    obtain⟨v',w2,o2,g2,g4,g5,ga⟩:=Zj1 (c:=c) hs'.waits g3 gd gp 24;obtain⟨av2,cv2,gj⟩:=g4.form;subst gj;have HF:=Hd (gn.out m.calls _ hs' g3 (Chg.of_below HB.out _ _) _ w2 o2 (by rw[if_neg hw0]) g4 g5 ga);have g6:=(g5.same g3 hs'.own (by simp)).trans hs'.blk;obtain⟨j0,j1,j2,j3,j4,j5,jf⟩:=cells6 g6;rw[gt.out] at c4 g2;clear hs' g3 g4 g5 ga gd hw0 g6 hz;have ge:=Hd g2;clear g2;go_upto_region 15 with fail;go_wp2_with (refine Zl0 rfl _ _ _ rfl rfl rfl ge.out ?_);have hq:=HF.out;rw[List.length_append] at hq;exact hq
end
open Go.RowKit
def Zb2 (n:Nat):Nat:=4*2^(2*n)+192*2^n
theorem Ztk (n:Nat)(hn:n<=8)(w:World):Calls prog 71 #[.int .i64 n,.int .i64 40] w fun x w'=>x=.returned (.int .i64 (Zb2 n))/\w=w':=by
 have HB:Hid (∀ (z:Int) (k:Nat),z=k->k<=16->Calls prog 98 #[.int .i64 z] w fun x w'=>x=.returned (.int .i64 (2^k:Nat))/\w=w'):=Hd fun z k e hk=>by subst e;exact Znh k (by omega) w
 have hA:2^(2*n)<=65536:=Nat.le_trans (Nat.pow_le_pow_right (by omega) (show 2*n<=16 by omega)) (by decide);have hB:2^n<=65536:=Nat.le_trans (Nat.pow_le_pow_right (by omega) (show n<=16 by omega)) (by decide);have g0:=Hd (fun z e=>HB.out z (2*n) e (by omega));have HB2:=Hd (fun z e=>HB.out z n e (by omega));unfold Zb2;obtain⟨a,ha⟩:∃ a,a=2^(2*n):=⟨_,rfl⟩;obtain⟨b,hb⟩:∃ b,b=2^n:=⟨_,rfl⟩;rw[<- ha] at hA g0 ⊢;rw[<- hb] at hB HB2 ⊢;clear ha hb HB
 go_enter func71,ntmps71
 go_wp2_with fail;refine(g0.out _ (by omega)).mono ?_;rintro x w' ⟨rfl,rfl⟩;go_wp2_with fail;refine(HB2.out _ (by omega)).mono ?_;rintro x w' ⟨rfl,rfl⟩;go_wp2_with fail;go_ret;exact⟨by congr 2,rfl⟩
theorem Zut (n:Nat)(hn:n<=8)(w:World):Calls prog 29 #[.int .i64 n,.int .i64 40] w fun x w'=>x=.returned (.int .i64 (Zb2 n))/\w=w':=by
 have HE:=Hd (Ztk n hn w)
 go_enter func29,ntmps29
 go_wp2_with fail;refine HE.out.mono ?_;rintro x w' ⟨rfl,rfl⟩;go_wp2_with fail;go_ret;exact⟨rfl,rfl⟩
theorem Zx2 {n:Nat}(hn:n<=6):1<=Zb2 n/\Zb2 n<=1048576:=by
 have h1:2^(2*n)<=4096:=Nat.le_trans (Nat.pow_le_pow_right (by omega) (show 2*n<=12 by omega)) (by decide);have h2:2^n<=64:=Nat.le_trans (Nat.pow_le_pow_right (by omega) hn) (by decide);have h3:0<2^n:=Nat.pow_pos (by omega);unfold Zb2;omega
theorem Zh6 {n k:Nat}(hk:k<=192):k*2^n<=Zb2 n:=by
 have:=Nat.mul_le_mul_right (2^n) hk;unfold Zb2;omega
theorem Zuu {n j s:Nat}(hn:1<=n)(hs:s<=40)(hj:j<5):2*2^n+j*(39*2^n+1)+s*2^n<=Zb2 n:=by
 have h1:=Nat.mul_le_mul_right (2^n) hs;have h2:=Nat.mul_le_mul_right (39*2^n+1) (Nat.le_of_lt_succ hj);have h3:2^1<=2^n:=Nat.pow_le_pow_right (by omega) hn;have h4:2^(n+1)<=2^(2*n):=Nat.pow_le_pow_right (by omega) (by omega);rw[Nat.pow_succ] at h4;unfold Zb2;omega
theorem Zuv {n j s k:Nat}(hs:s<=40)(h1:1<=s)(h:k<=2*2^n+j*(39*2^n+1)+Zh0 n s):k<=2*2^n+(j+1)*(39*2^n+1):=by
 have h2:=Zih n h1;have h3:=Nat.mul_le_mul_right (2^n) hs;rw[Nat.add_mul];have h4:0<2^n:=Nat.pow_pos (by omega);omega
theorem Zz3 {n j k:Nat}(hj:j<=5)(h:k<=2*2^n+j*(39*2^n+1))(hn:2<=n):k+7<=Zb2 n:=by
 have h2:=Nat.mul_le_mul_right (39*2^n+1) hj;have h3:2^2<=2^n:=Nat.pow_le_pow_right (by omega) hn;have h4:2^(n+2)<=2^(2*n):=Nat.pow_le_pow_right (by omega) (by omega);rw[Nat.pow_add] at h4;unfold Zb2;omega
def two:List (Int×BF):=[(0,fun _=>false),(1,fun _=>true)]
theorem Ybd:B2 two:=⟨by simp[two],by simp[two]⟩
theorem Zsj {K:Law}(n room:Nat)(w:World)(hn:n<=64)(h1:1<=room)(h2:room<=1048576) :
 Calls prog 22 #[.int .i64 n,.int .i64 room] w fun x w'=>∃ mb,x=.returned (.tuple #[.pointer (some ⟨mb,0,none⟩),.int .i64 0])/\∃ o m V,SatE K n (fun _=>True) room w mb two 2 w' o m V/\m.waits=[]/\m.calls=0/\m.d.pool.many=0:=by
 refine(Ycm (F:=K (man0 n room).d (fun _ _=>true)) (fun _=>none) n room w (fun k r h=>by cases h) hn h1 h2).mono ?_;rintro x w1 ⟨mb,o1,rfl,g0,g2,g1,_⟩;exact⟨mb,rfl,o1,man0 n room,fun _ _=>true,⟨g0,g1,Yck n room hn,by simp[man0,store0],trivial,by simp[man0,store0,pool0],rfl,by simp[man0,two,ef];constructor<;>rfl,ChgX.of_chg g2 NoB⟩,rfl,rfl,rfl⟩
def OrdP (zs:List Int)(l:List Nat):Prop:=∀ j,j<zs.length->((l.getD j 0:Nat):Int)=at0 zs j
def SetP (K:Law)(q:AskD)(n:Nat)(w:World)(y:Ending)(w':World):Prop :=
 ∃ mb vl vx wb hs nx,y=.returned (.tuple #[.pointer (some ⟨mb,0,none⟩),vl,vx,.bool true])/\Below w.heap.size w wb/\hs.map Prod.snd=q.es.map fnT/\nx<=1000/\∃ o m V,LawT K n (OrdP q.order) (Zb2 n) wb mb (two++hs) nx (fun ws c=>ws=q.plan/\c=0) hs hs w' o m V vl vx/\(2<=n->m.d.pool.many+7<=Zb2 n)
def SetI (K:Law)(q:AskD)(n:Nat)(wb:World)(mb:Nat)(j:Nat)(s8 s9:Value)(W:World):Prop :=
 ∃ hs nx,hs.map Prod.snd=(q.es.take j).map fnT/\nx<=2+120*(j:Int)/\∃ o m V,LawT K n (OrdP q.order) (Zb2 n) wb mb (two++hs) nx (fun ws c=>ws=[]/\True) hs hs W o m V s8 s9/\m.d.pool.many<=2*2^n+j*(39*2^n+1)
theorem Zx8 {K:Law}(hK:Zb4 K)(q:AskD)(ao ae ap:Option Addr)(co ce cp:Nat)(w:World)(h:AskAt w q ao ae ap)(hsm:Zmh q)(n:Nat)(hqn:q.vars=n) :
 Calls prog 6 #[askV q ao ae ap co ce cp] w (SetP K q n w):=by
 have hJ:=hsm.lo;have hM:=hsm.hi;have hN:=hsm.es;have hI:=hsm.plan;have gJ:=Hd hsm;have hp:=Hd h;have hr:n<=6:=by omega
 have ht:1<=n:=by omega
 have gB:=Zx2 hr;obtain⟨Q,hQ⟩:∃ Q:Ending->World->Prop,Q=SetP K q n w:=⟨_,rfl⟩;rw[<- hQ];have HQ:=Hd hQ;obtain⟨w1,gf⟩:∃ w1,w1=w.alloc (.cells #[.int .i64 q.vars,.slice ao q.order.length co,.slice ae q.es.length ce,.slice ap q.plan.length cp] 26):=⟨_,rfl⟩;have HW1:Hid (_=w1):=Hd gf.symm;have ha:Hid (Below w.heap.size w w1):=by rw[gf];exact Hd (Zad _ _)
 have g0:w1.heap[w.heap.size]?=some (.cells #[.int .i64 q.vars,.slice ao q.order.length co,.slice ae q.es.length ce,.slice ap q.plan.length cp] 26 (0,0)):=by rw[gf];exact heap_alloc_new _ _
 have hs1:w1.heap.size=w.heap.size+1:=by rw[gf];simp
 have gN:=Hd hqn;rw[hqn] at g0 HW1;have d0:w1.cell? ⟨w.heap.size,0,none⟩=some (.int .i64 (n:Nat)):=by rw[cell_of_row _ _ 0 _ _ _ g0];rfl
 have d1:w1.cell? ⟨w.heap.size,1,none⟩=some (.slice ao q.order.length co):=by rw[cell_of_row _ _ 1 _ _ _ g0];rfl
 have d2:w1.cell? ⟨w.heap.size,2,none⟩=some (.slice ae q.es.length ce):=by rw[cell_of_row _ _ 2 _ _ _ g0];rfl
 have d3:w1.cell? ⟨w.heap.size,3,none⟩=some (.slice ap q.plan.length cp):=by rw[cell_of_row _ _ 3 _ _ _ g0];rfl
 have gX:=hqn;unfold askV;rw[gX];obtain⟨rm,gk⟩:∃ rm,rm=Zb2 n:=⟨_,rfl⟩;have gK:=Hd gk;have gL:=Hd (fun W=>Zut n (by omega) W);rw[<- gk] at gL gB;clear h hsm hQ gf g0 gk hqn gX;have gP:=Hd (Zsj (K:=K) n rm w1.drew (by omega) gB.1 gB.2)
 go_enter func6,ntmps6
 go_upto_region 1 with fail;rw[HW1.out];refine Zap (fun W:World=>W.cell? ⟨w.heap.size,0,none⟩=some (.int .i64 (n:Nat))/\True) false 11 [(0,false),(1,false),(2,false),(3,false),(4,true),(5,true),(6,false),(7,false),(8,false),(9,false),(10,false)] (by kernel_rfl) (by kernel_rfl) ⟨d0,trivial⟩ ?_;simp only[planned,Zde]
 iterate 4
  refine Zaq rfl ?_;apply Exists.intro;refine⟨fun w' hw=>?_,?_⟩
  . obtain⟨h1,_⟩:=hw;go_simp;rfl
  simp only[Zai]
 refine Zb9 (R:=fun v w'=>v=.int .i64 (rm:Nat)/\w'=w1.drew) rfl (by go_simp) ((gL.out _).mono (fun e w' he=>?_)) ?_
 . obtain⟨rfl,rfl⟩:=he;exact⟨_,rfl,⟨d0,trivial⟩,rfl,rfl⟩
 rintro v w'-⟨rfl,rfl⟩;simp only[Zai];refine Zb9 (R:=fun v w'=>∃ mb,v=.tuple #[.pointer (some ⟨mb,0,none⟩),.int .i64 0]/\∃ o m V,SatE K n (fun _=>True) rm w1.drew mb two 2 w' o m V/\m.waits=[]/\m.calls=0/\m.d.pool.many=0) rfl (by go_simp) (gP.out.mono (fun e w' he=>?_)) ?_
 . obtain⟨mb,rfl,o,m,V,g5,gS⟩:=he;exact⟨_,rfl,⟨(g5.chg.below0.cell (p:=⟨w.heap.size,0,none⟩) (Zab (w:=w1.drew) d0)).trans d0,trivial⟩,mb,rfl,o,m,V,g5,gS⟩
 rintro v w2-⟨mb,rfl,o,m,V,g5,gT,hB,gY⟩;simp only[Zai]
 iterate 5
  refine Zaq rfl ?_;apply Exists.intro;refine⟨fun w' hw=>?_,?_⟩
  . obtain⟨h1,_⟩:=hw;go_simp;rfl
  simp only[Zai]
 refine Zeg ?_;obtain⟨wb,g7⟩:∃ wb,wb=w1.drew:=⟨_,rfl⟩;rw[<- g7] at g5;have h9:Hid (Below w.heap.size w wb):=Hd (by rw[g7];exact ha.out.trans ((Zaf w1 1).mono ha.out.size));have c0:wb.cell? ⟨w.heap.size,0,none⟩=some (.int .i64 (n:Nat)):=by rw[g7];exact d0
 have c1:wb.cell? ⟨w.heap.size,1,none⟩=some (.slice ao q.order.length co):=by rw[g7];exact d1
 have c2:wb.cell? ⟨w.heap.size,2,none⟩=some (.slice ae q.es.length ce):=by rw[g7];exact d2
 have c3:wb.cell? ⟨w.heap.size,3,none⟩=some (.slice ap q.plan.length cp):=by rw[g7];exact d3
 have hO:w.heap.size<wb.heap.size:=Zab c0;have gi:=Hd (hp.out.below h9.out);clear g7 gP gL d0 d1 d2 d3 HW1 hs1
 have gR:=Hd (Zq0 (K:=K) g5 (by omega) (by rw[gK.out];have:=Zh6 (n:=n) (k:=6) (by omega);simp[two];omega) (c:=co) (gi.out.order.below g5.chg.below0) (fun h0 x hx=>by
  obtain⟨b,off,e,hc⟩:=gi.out.order.cells 0 h0;rw[hx] at e;cases e;exact g5.none0 (Zab hc)) (by
  rcases Nat.eq_zero_or_pos q.order.length with h0|h0
  . exact .inl h0
  . have:=gJ.out.order h0;rw[gN.out] at this;exact .inr (Zzw this)))
 have e0:=(g5.chg.below0.cell (p:=⟨w.heap.size,0,none⟩) (Zab c0)).trans c0;have e1:=(g5.chg.below0.cell (p:=⟨w.heap.size,1,none⟩) (Zab c1)).trans c1;have HWT:=Hd gT;have hG:=Hd gY;clear g5 gT hB gY;go_wp2_with fail;refine gR.out.mono ?_;rintro y w3 ⟨rfl,o3,m3,V3,gb,gw,hh,hC,gD⟩;have h8:Hid (SetI K q n wb mb 0 (.slice none 0 0) (.slice none 0 0) w3):=Hd ⟨[],2,rfl,by omega,o3,m3,V3,⟨by rw[gK.out] at gb;exact gb,Ybd,⟨by rw[gw,HWT.out],trivial⟩,⟨Zsn _ _ _,fun k hk=>by cases hk⟩,⟨⟨[],rfl,Zsn _ _ _,fun i v hv=>by simp at hv⟩,fun k hk=>by cases hk⟩⟩,by have:=hG.out;simp[two] at gD;omega⟩;have f2:=(gb.chg.below0.cell (p:=⟨w.heap.size,2,none⟩) (Zab c2)).trans c2;clear gb gw hh hC gD gR e0 e1;go_wp2_with fail
 go_loopw [8,9,40] (fun s8 s9 s40 wr=>∃ j:Nat,j<=q.es.length/\s40=.int .i64 j/\Hid (SetI K q n wb mb j s8 s9 wr)) (fun _ _ s40 _=>q.es.length-(intOf s40).toNat)
 case atStart=>exact⟨0,Nat.zero_le _,rfl,h8⟩
 case round =>
  clear h8 f2
  rename World=>wy
  obtain⟨j,hj,rfl,HI⟩:=hrel;obtain⟨hs,nx,gj,hnx,hu⟩:=HI.out;obtain⟨o0,m0,V0,gl,gE⟩:=hu;have gu:Hid (∃ o m V,LawT K n (OrdP q.order) (Zb2 n) wb mb (two++hs) nx (fun ws c=>ws=[]/\True) hs hs wy o m V u8 u9/\m.d.pool.many<=2*2^n+j*(39*2^n+1)):=Hd ⟨o0,m0,V0,gl,gE⟩;have gG:=gl.below0;have ho:=Hd gG;have gI:=Hd gj;have hA:hs.length=j:=by have:=congrArg List.length gj;simpa [Nat.min_eq_left hj] using this
  clear HI gj gl gE gG o0 m0 V0
  by_cases gF:j<q.es.length
  .
   have hy:(j:Int)<q.es.length:=by omega
   have gt:=ho.out;obtain⟨b,off,x0,x1,x2,ea,k0,k1,k2,hx⟩:=gi.out.es.cells j gF;subst ea;obtain⟨zo,zv,za,zn,zc,rfl,rfl,rfl⟩:=hx.parts;have gh:=Hd (gJ.out.expr _ (List.getElem_mem gF));have ga:=gh.out.1;have gx:=ExT.size_pos q.es[j];obtain⟨e,he⟩:∃ e,e=q.es[j]:=⟨_,rfl⟩;rw[<- he] at hx gh ga gx;have HX:=Hd hx;have q0:=(gt.cell (p:=⟨b,off+j*3,none⟩) (Zab k0)).trans k0;have q1:=(gt.cell (p:=⟨b,off+j*3+1,none⟩) (Zab k1)).trans k1;have q2:=(gt.cell (p:=⟨b,off+j*3+2,none⟩) (Zab k2)).trans k2;have hF:Hid ((q.es.take (j+1)).map fnT=(q.es.take j).map fnT++[fnT e]):=Hd (by rw[List.take_succ_eq_append_getElem gF,List.map_append,he];rfl);obtain⟨wz,gn⟩:∃ wz,wz=wy.alloc (.cells #[.int .i64 zo,.int .i64 zv,.slice za zn zc] 54):=⟨_,rfl⟩;have hD:Hid (_=wz):=Hd gn.symm;have h3:Below wy.heap.size wy wz:=by rw[gn];exact Zad _ _
   have g0:wz.heap[wy.heap.size]?=some (.cells #[.int .i64 zo,.int .i64 zv,.slice za zn zc] 54 (0,0)):=by rw[gn];exact heap_alloc_new _ _
   have p0:wz.cell? ⟨wy.heap.size,0,none⟩=some (.int .i64 zo):=by rw[cell_of_row _ _ 0 _ _ _ g0];rfl
   have p1:wz.cell? ⟨wy.heap.size,1,none⟩=some (.int .i64 zv):=by rw[cell_of_row _ _ 1 _ _ _ g0];rfl
   have p2:wz.cell? ⟨wy.heap.size,2,none⟩=some (.slice za zn zc):=by rw[cell_of_row _ _ 2 _ _ _ g0];rfl
   obtain⟨o4,m4,V4,lt0,mn4⟩:=gu.out;have lt4:=lt0.below h3;have n4:o4 wy.heap.size=none:=lt0.sat.lt.none (Nat.le_refl _);have gZ:∀ g,u8.ownBlock=some g->g<wy.heap.size:=fun g hg=>(lt0.l.own.lt g hg).2
   have hL:(two++hs).length=2+j:=by simp[two,hA];omega
   have gv:=Hd (Zow hK e _ (two++hs) nx wz o4 m4 V4 _ lt4.sat ⟨lt4.st.1,mn4⟩ lt4.b2 gh.out.2.1.valid (by have:=gh.out.2.2;rw[gN.out] at this;exact this) hx (by omega) (Zuu ht ga (by omega)));have g8:=Hd lt4;clear gt k0 k1 k2 hx h3 g0 gn lt4 gu he lt0;go_upto_region 9 with fail;rw[hD.out];clear q0 q1 q2;go_wp2_with fail;refine gv.out.mono ?_;rintro y w5 ⟨k,rfl,hk,o5,m5,V5,g9,⟨gV,gC⟩,gy⟩;have hm:Hid (m5.d.pool.many<=2*2^n+(j+1)*(39*2^n+1)):=Hd (Zuv ga gx gC);have gm:Hid (LawT K n (OrdP q.order) (Zb2 n) wb mb (two++(hs++[(k,fnT e)])) (k+1) (fun ws c=>ws=[]/\True) hs hs w5 o5 m5 V5 u8 u9):=Hd (g8.out.go (by rw[<- List.append_assoc];exact gy) (Ybd.app _) ⟨gV,trivial⟩ g9);have r0:=g9.cell (p:=⟨wy.heap.size,0,none⟩) p0 n4 (fun e=>e);have r1:=g9.cell (p:=⟨wy.heap.size,1,none⟩) p1 n4 (fun e=>e);have r2:=g9.cell (p:=⟨wy.heap.size,2,none⟩) p2 n4 (fun e=>e);have n5:=g9.none' (Zab p0) n4;have hd:wb.heap.size<=w5.heap.size:=gy.chg.size;clear g9 gV gy gC gv p0 p1 p2 g8;go_upto_region 13 with (at_builtin;refine Zck Znm _ rfl _ _ rfl wb.heap.size _ (Zbi (hs.map Prod.fst)) _ rfl rfl rfl rfl rfl (by exact gm.out.l.own) (by simp[Zbi];omega) hd ?_;intro v6 w6 gr g1 g2 g3 g4 gH)
   have gU:=Zs8 g1 g2 g3 g4 gH;have gd:w6.heap[wy.heap.size]?=w5.heap[wy.heap.size]?:=gU.keep _ (Zab r0) (fun e=>by have:=gZ _ e;omega);have t0:=(World.cell?_of_block (w:=w5) (a:=⟨wy.heap.size,0,none⟩) gd).trans r0;have t1:=(World.cell?_of_block (w:=w5) (a:=⟨wy.heap.size,1,none⟩) gd).trans r1;have t2:=(World.cell?_of_block (w:=w5) (a:=⟨wy.heap.size,2,none⟩) gd).trans r2;have g6:=Hd (gm.out.appL gr g1 g2 g3 g4 gH (p:=(k,fnT e)));have a0:=(g6.out.below0.cell (p:=⟨w.heap.size,0,none⟩) (Zab c0)).trans c0;have h5:=Hd (Zl8 e _ n (by omega) w6 (by omega) gh.out.2.1 (HX.out.below g6.out.below0));clear gU gd gr g1 g2 g3 g4 gH r0 r1 r2 gm gZ;go_wp2_with fail;refine h5.out.mono ?_;rintro y w7 ⟨v7,rfl,gc,h4⟩;obtain⟨av,cv,rfl,_⟩:=gc.slice;have h7:Hid (LawB w7 o5 wb.heap.size (.slice av (Zbj (tabB n (fnT e))).length cv) (tabB n (fnT e))):=Hd (Zzh (n:=n) gc (by rw[Zar];exact Zey (by omega)) g6.out.sat.lt g6.out.sat.chg.size);have ge:=Hd (g6.out.below h4);obtain⟨rs,hf,gA,gz⟩:=ge.out.x.ex;have gM:=Hd gA;have h6:=Hd gz;have hq:rs.length=hs.length:=by rw[hf];simp
   have hb:wb.heap.size<=w7.heap.size:=ge.out.sat.chg.size;clear gc h4 gA gz h5 g6 t0 t1 t2 a0;go_upto_region 14 with (at_builtin;refine Zck Zwe _ rfl _ _ rfl wb.heap.size _ rs _ rfl rfl rfl rfl rfl (by exact gM.out) (by omega) hb ?_;intro v8 w8 gq g1 g2 g3 g4 h2)
   have gQ:=Hd (ge.out.appX h7.out rfl hq gM.out h6.out gq g1 g2 g3 g4 h2 (p:=(k,fnT e)));have hH:Hid (SetI K q n wb mb (j+1) v6 v8 w8):=Hd ⟨hs++[(k,fnT e)],k+1,by rw[List.map_append,gI.out,hF.out];rfl,by omega,o5,m5,V5,gQ.out,hm.out⟩;clear gq g1 g2 g3 g4 h2 gM h6 ge h7 gQ;go_wp2_with fail;go_roundw
   case rel=>exact⟨j+1,by omega,by go_num,hH⟩
   case measure=>simp[intOf];omega
  .
   have hz:j=q.es.length:=by omega
   have hy:¬ (j:Int)<q.es.length:=by omega
   obtain⟨o4,m4,V4,lt4,mn4⟩:=gu.out;have hn:=Hd mn4;clear mn4;have e3:=(lt4.below0.cell (p:=⟨w.heap.size,3,none⟩) (Zab c3)).trans c3;have gp:m4.waits=[]:=lt4.st.1;have gs:Ze3 n m4.waits.length q.plan=0:=by
    rw[gp];have:=gJ.out.planOk;rw[gN.out] at this;exact this
   have gO:=Hd (Zrl lt4.sat (c:=cp) (gi.out.plan.below lt4.below0) (fun h0 x hx=>by
    obtain⟨b,off,e,hc,_⟩:=gi.out.plan.cells 0 h0;rw[hx] at e;cases e;exact lt4.sat.none0 (Zab hc)) (by rw[gp];simp))
   rw[gs] at gO;have g8:=Hd lt4;have hE:=Hd gp;clear lt4 gp gs gu;go_wp2_with fail;refine gO.out.mono ?_;rintro y w5 ⟨rfl,o5,m5,gg⟩
   have HF:Hid (Q (.returned (.tuple #[.pointer (some ⟨mb,0,none⟩),u8,u9,.bool true])) w5):=Hd (by
    rw[HQ.out];refine⟨mb,u8,u9,wb,hs,nx,rfl,h9.out,by rw[gI.out,hz,List.take_length],by omega,o5,m5,V4,g8.out.go gg.sat g8.out.b2 ?_ (ChgX.of_chg gg.chg NoB),?_⟩
    rotate_left
    . rw[gg.d];exact Zz3 (by omega) hn.out
    have:=gg.yes rfl;rw[hE.out] at this;exact⟨by simpa using this.1,by simpa using this.2⟩)
   clear gg gO;go_wp2_with fail;refine bodyPost_ret (Zc0 rfl _ _ _) rfl ?_;exact HF.out
open Go.RowKit
theorem Zg1 (p:Prop):∃ b:Bool,b=true↔p:=by
 classical
 exact⟨decide p,by simp⟩
theorem SatE.dep {K:Law}{n:Nat}{Od:List Nat->Prop}{room:Nat}{w0 w:World}{mb:Nat}{fs:List (Int×BF)}{nx:Int}{o:Own}{m:ManD}{V:Nat->BF}(h:SatE K n Od room w0 mb fs nx w o m V){k:Int}{F:BF}(hk:(k,F)∈fs):DepF n F:=by
 obtain⟨f,hf,rfl⟩:=h.find hk;have:=h.ok.store.dep (h.ok.handles.ok _ hf)
 rwa [h.vars] at this
theorem Zz4 {n l r:Nat}(h:l+r<=192){k:Nat}(hk:k<=r*2^n):l*2^n+k<=Zb2 n:=by
 have h1:=Zh6 (n:=n) h;rw[Nat.add_mul] at h1;omega
open Go.RowKit
theorem Ybz (w:World)(g:Fn)(fs cs:Array Value):(binOp .eql 118 (.func g fs cs) .nilFunc).run prog w=.ok (.bool false) w:=by
 have hd:Op.maxDepth=9999+1:=rfl;have h:(Op.equal 118 (.func g fs cs) .nilFunc).run prog w=.ok false w:=by
  unfold Op.equal;rw[hd];unfold Op.equalIn;simp only[Sem.run_bind,run_underlying underlying118,Result.andThen_ok];simp
 simp only[binOp];simp[h]
section
variable {K:Law}{n:Nat}{Od:List Nat->Prop}{room:Nat}{w0:World}{mb:Nat}{fs:List (Int×BF)}{nx:Int}{C:Nat->Prop}{B:World->Prop}{St:ManD->Prop}{gop:Nat}{lop:Array Value}{Q:World->ManD->(Nat->BF)->Prop}{E:Int->ManD->ManD->Prop}
def OpL (K:Law)(n:Nat)(Od:List Nat->Prop)(room:Nat)(w0:World)(mb:Nat)(fs:List (Int×BF))(nx:Int)(C:Nat->Prop)(B:World->Prop)(St:ManD->Prop)(gop:Nat)(lop:Array Value)(Q:World->ManD->(Nat->BF)->Prop)(E:Int->ManD->ManD->Prop):Prop :=
 ∀ (o:Own) (W:World) (m:ManD) (V:Nat->BF) (xb:Nat),SatE K n Od room w0 mb fs nx W o m V->B W->(∀ k,C k->k<W.heap.size/\o k=none)->St m->Zce o W xb mb->¬ C xb ->
  Calls prog gop (#[.pointer (some ⟨xb,0,none⟩)]++lop) W fun e w'=>∃ (o':Own) (m':ManD) (V':Nat->BF),Zi3 C K o W mb m V o' w' m' V'/\B w' /\
   ((e=.returned (.tuple #[])/\Q w' m' V') \/
    (∃ er:Int,e=Zbg er false ev0/\er≠0/\m'.waits=m.waits/\St m'/\E er m m') \/
    (∃ ev,e=Zbg 0 true ev/\m.waits=ev::m'.waits/\StE K n Od room w0 mb fs nx St m'/\HapG K n Od room w0 mb fs nx ev))
structure Ztb (K:Law)(n:Nat)(Od:List Nat->Prop)(room:Nat)(w0:World)(mb:Nat)(fs:List (Int×BF))(nx:Int)(C:Nat->Prop)(B:World->Prop)(St:ManD->Prop)(o0:Own)(w:World)(k:Nat)(full:Bool)(W:World)(o:Own)(m:ManD)(V:Nat->BF):Prop where
 sat:SatE K n Od room w0 mb fs nx W o m V
 bok:B W
 st:St m
 len:m.waits.length=k
 cok:∀ c,C c->c<w.heap.size/\o c=none
 chg:ChgX C o0 o w W
 clean:full=true->m.d.dead=0
def Yc2 (K:Law)(n:Nat)(Od:List Nat->Prop)(room:Nat)(w0:World)(mb:Nat)(fs:List (Int×BF))(nx:Int)(C:Nat->Prop)(B:World->Prop)(Q:World->ManD->(Nat->BF)->Prop)(E:Int->ManD->ManD->Prop)(o0:Own)(w:World)(er:Int)(W:World):Prop :=
 ∃ o m V,SatE K n Od room w0 mb fs nx W o m V/\B W/\ChgX C o0 o w W/\((er=0/\Q W m V)\/(er≠0/\∃ m0:ManD,E er m0 m/\(er=7->m0.d.dead=0)))
theorem Zw2 (hB:∀ W W',B W->(∀ c,C c->W'.heap[c]?=W.heap[c]?)->B W')(hQ:∀ W W' m V,Q W m V->(∀ c,C c->W'.heap[c]?=W.heap[c]?)->Q W' m V)(hSt:∀ (m:ManD) (d:Zae),St m->Zbh m.d d->St { m with d:=d })(hC0:∀ c,C c->w0.heap.size<=c)(eg:∀ args w,(callFunc gop args).run prog w=.ok (.enter gop args) w)
 (hop:OpL K n Od room w0 mb fs nx C B St gop lop Q E) {o:Own} {w:World} {m:ManD} {V:Nat->BF} (h:SatE K n Od room w0 mb fs nx w o m V) (hb:B w) (hC:∀ c,C c->c<w.heap.size/\o c=none) (hst:St m) :
 Calls prog 80 #[.pointer (some ⟨mb,0,none⟩),.func (.func gop) #[] lop] w fun x w'=>∃ er,x=.returned (.int .i64 er)/\Yc2 K n Od room w0 mb fs nx C B Q E o w er w':=by
 have hw0:=h.chg.size;have g7:∀ {k full W W' o1 m1 V1},Ztb K n Od room w0 mb fs nx C B St o w k full W o1 m1 V1->∀ {s:Nat},w.heap.size<=s->o1 s=none->o1 (s+1)=none->Ali s W W'->Ztb K n Od room w0 mb fs nx C B St o w k full W' o1 m1 V1:=by
  intro k full W W' o1 m1 V1 hi s hs n0 n1 a;have hk:∀ k,k<w.heap.size->W'.heap[k]?=W.heap[k]?:=fun k hk=>a.keep k (by have:=hi.chg.size;omega) (by omega)
  refine⟨hi.sat.other a (fun k _ e=>?_),hB _ _ hi.bok (fun c hc=>hk c (hi.cok c hc).1),hi.st,hi.len,hi.cok,hi.chg.trans (ChgX.of_wr (C:=fun k=>w.heap.size<=k) a o1 (fun k _ e=>by omega)) (fun k hk e=>by omega),hi.clean⟩;rcases e with rfl|rfl
  . exact⟨by omega,n0⟩
  . exact⟨by omega,n1⟩
 have gb:∀ {k full full' W W' o1 m1 V1 o2 m2 V2},Ztb K n Od room w0 mb fs nx C B St o w k full W o1 m1 V1->SatE K n Od room w0 mb fs nx W' o2 m2 V2->ChgX NoB o1 o2 W W'->m2.waits=m1.waits->St m2->(full'=true->m2.d.dead=0)->Ztb K n Od room w0 mb fs nx C B St o w k full' W' o2 m2 V2:=by
  intro k full full' W W' o1 m1 V1 o2 m2 V2 hi gj hc e1 e2 e3;have gm:=hi.chg.size;exact⟨gj,hB _ _ hi.bok (fun c g8=>hc.block c (by have:=(hi.cok c g8).1;omega) (hi.cok c g8).2 (fun e=>e)),e2,by rw[e1];exact hi.len,fun c g8=>⟨(hi.cok c g8).1,hc.none' (by have:=(hi.cok c g8).1;omega) (hi.cok c g8).2⟩,hi.chg.trans hc (fun _ _ e=>e.elim),e3⟩
 refine Zx4 mb _ _ _ eg (fun k full W=>∃ o1 m1 V1,Ztb K n Od room w0 mb fs nx C B St o w k full W o1 m1 V1) _ ?_ m.waits.length ⟨o,m,V,h,hb,hst,rfl,hC,ChgX.of_below (Below.refl _ _) o C,by simp⟩;rintro k full W ⟨o1,m1,V1,hi⟩;have gm:=hi.chg.size;obtain⟨s,hs⟩:∃ s,s=W.heap.size:=⟨_,rfl⟩
 refine⟨fun st W1=>match st with
  | none=>∃ (o':Own) (m':ManD) (V':Nat->BF),SatE K n Od room w0 mb fs nx W1 o' m' V'/\B W1/\ChgX C o o' w W1/\s+3<=W1.heap.size/\(∀ q,w.heap.size<=q->q<s+3->o1 q=none->o' q=none)/\Q W1 m' V'
  | some (er,evt,ev)=>∃ (o':Own) (m':ManD) (V':Nat->BF),Ztb K n Od room w0 mb fs nx C B St o w m'.waits.length false W1 o' m' V'/\s+3<=W1.heap.size/\(∀ q,w.heap.size<=q->q<s+3->o1 q=none->o' q=none) /\
   ((evt=false/\er≠0/\m'.waits=m1.waits/\E er m1 m')\/(evt=true/\m1.waits=ev::m'.waits/\StE K n Od room w0 mb fs nx St m'/\HapG K n Od room w0 mb fs nx ev)),?_,?_,?_,?_,?_⟩
 .
  unfold Zvg;have gd:Below W.heap.size W (tryW mb W):=((Zad _ _).alloc (by simp) _).alloc (by simp;omega) _;have gk:(tryW mb W).heap.size=W.heap.size+3:=by unfold tryW;simp
  obtain⟨T,hT⟩:∃ T,T=tryW mb W:=⟨_,rfl⟩;have h1:(tryW mb W).heap[W.heap.size+2]?=some (.cells #[.pointer (some ⟨mb,0,none⟩)] 124 (0,0)):=by
   have:=heap_alloc_new ((W.alloc (.cells #[.int .i64 0,.bool false,.int .i64 0,.int .i64 0,.int .i64 0] 131)).alloc (.cells #[.bool false] 4)) (.cells #[.pointer (some ⟨mb,0,none⟩)] 124);rw[World.size_alloc,World.size_alloc] at this;exact this
  rw[<- hT] at gd gk h1 ⊢;clear hT;have g6:=hi.sat.below gd;have gp:Zce o1 T (W.heap.size+2) mb:=⟨cell1 h1,hi.sat.lt.none (by omega)⟩;have gi:∀ q,w.heap.size<=q->¬ C q:=fun q hq e=>by have:=(hi.cok q e).1;omega
  have gc:∀ {o':Own} {w1:World},ChgX C o1 o' T w1->∀ q,w.heap.size<=q->q<s+3->o1 q=none->w1.heap[q]?=T.heap[q]?:=fun hc q h1 h2 h3=>hc.block q (by omega) h3 (gi q h1)
  have n0:o1 W.heap.size=none:=hi.sat.lt.none (Nat.le_refl _);have n1:o1 (W.heap.size+1)=none:=hi.sat.lt.none (by omega);refine(hop o1 T m1 V1 (W.heap.size+2) g6 (hB _ _ hi.bok (fun c hc=>gd.block c (by have:=(hi.cok c hc).1;omega))) (fun c hc=>⟨by have:=(hi.cok c hc).1;omega,(hi.cok c hc).2⟩) hi.st gp (gi _ (by omega))).mono ?_;rintro e w1 ⟨o',m',V',st,b1,gg⟩;have gs:=st.chg.size;have gf:=(hi.chg.trans (ChgX.of_below gd o1 C) (fun _ _ e=>e)).trans st.chg (fun _ _ e=>e);refine⟨by omega,gc st.chg _ (by omega) (by omega) n0,gc st.chg _ (by omega) (by omega) n1,?_⟩;have g9:∀ q,w.heap.size<=q->q<s+3->o1 q=none->o' q=none:=fun q _ h2 h3=>st.chg.none' (by omega) h3
  have ge:∀ c,C c->c<w.heap.size/\o' c=none:=fun c hc=>⟨(hi.cok c hc).1,st.chg.none' (by have:=(hi.cok c hc).1;omega) (hi.cok c hc).2⟩
  rcases gg with ⟨rfl,q1⟩|⟨er,rfl,q1,q2,q3,q4⟩|⟨ev,rfl,q1,q2,q3⟩
  . exact .inl ⟨rfl,o',m',V',g6.step st hC0,b1,gf,by omega,g9,q1⟩
  . exact .inr ⟨er,false,ev0,rfl,o',m',V',⟨g6.step st hC0,b1,q3,rfl,ge,gf,by simp⟩,by omega,g9,.inl ⟨rfl,q1,q2,q4⟩⟩
  . exact .inr ⟨0,true,ev,rfl,o',m',V',⟨g6.step st hC0,b1,q2 _ _ _ _ (g6.step st hC0) rfl rfl (.inl (Nat.le_refl _)),rfl,ge,gf,by simp⟩,by omega,g9,.inr ⟨rfl,q1,q2,q3⟩⟩
 .
  rintro W1 W2 ⟨o',m',V',a1,a2,a3,a4,a5,a8⟩ al;rw[<- hs] at al;have n0:o' s=none:=a5 s (by omega) (by omega) (by rw[hs];exact hi.sat.lt.none (Nat.le_refl _));have n1:o' (s+1)=none:=a5 (s+1) (by omega) (by omega) (by rw[hs];exact hi.sat.lt.none (by omega));have hk:∀ c,C c->W2.heap[c]?=W1.heap[c]?:=fun c hc=>al.keep c (by have:=(hi.cok c hc).1;omega) (by have:=(hi.cok c hc).1;omega)
  refine⟨o',m',V',a1.other al (fun k _ e=>?_),hB _ _ a2 hk,a3.trans (ChgX.of_wr (C:=fun k=>w.heap.size<=k) al o' (fun k _ e=>by omega)) (fun k hk e=>by omega),.inl ⟨rfl,hQ _ _ _ _ a8 hk⟩⟩;rcases e with rfl|rfl
  . exact⟨by omega,n0⟩
  . exact⟨by omega,n1⟩
 .
  rintro er ev W1 W2 ⟨o',m',V',ga,a4,a5,(⟨h1,_⟩|⟨_,go,gl,gq⟩)⟩ al
  . cases h1
  rw[<- hs] at al;have n0:o' s=none:=a5 s (by omega) (by omega) (by rw[hs];exact hi.sat.lt.none (Nat.le_refl _));have n1:o' (s+1)=none:=a5 (s+1) (by omega) (by omega) (by rw[hs];exact hi.sat.lt.none (by omega));have g0:=g7 ga (by omega) n0 n1 al;refine(gq o' W2 m' V' g0.sat).mono ?_;rintro x w' ⟨rfl,o2,m2,V2,g1,g2,g3,g5,g4⟩;exact⟨rfl,m'.waits.length,by rw[<- hi.len,go];simp,o2,m2,V2,gb g0 g1 g4 g2 (gl _ _ _ _ g1 g2 g3 g5) (by simp)⟩
 .
  rintro ev W1 W2 ⟨o',m',V',ga,a4,a5,(⟨_,_,hw,_⟩|⟨h1,_⟩)⟩ al gr
  . rw[<- hs] at al;have n0:o' s=none:=a5 s (by omega) (by omega) (by rw[hs];exact hi.sat.lt.none (Nat.le_refl _));have n1:o' (s+1)=none:=a5 (s+1) (by omega) (by omega) (by rw[hs];exact hi.sat.lt.none (by omega));have g0:=g7 ga (by omega) n0 n1 al;refine(Zhp g0.sat).mono ?_;rintro x w' ⟨rfl,o2,d2,g1,g2,g3⟩;have gh:=gb (full':=true) g0 g1 (ChgX.of_chg g3 NoB) rfl (hSt _ _ g0.st g2) (fun _=>g2.dead);rw[hw,hi.len] at gh;exact⟨⟨_,rfl⟩,o2,_,V',gh⟩
  . cases h1
 .
  rintro er ev W1 W2 ⟨o',m',V',ga,a4,a5,(⟨_,h0,hw,hE⟩|⟨h1,_⟩)⟩ al gn
  .
   rw[<- hs] at al;have n0:o' s=none:=a5 s (by omega) (by omega) (by rw[hs];exact hi.sat.lt.none (Nat.le_refl _));have n1:o' (s+1)=none:=a5 (s+1) (by omega) (by omega) (by rw[hs];exact hi.sat.lt.none (by omega));have g0:=g7 ga (by omega) n0 n1 al;refine⟨o',m',V',g0.sat,g0.bok,g0.chg,.inr ⟨h0,m1,hE,fun e7=>hi.clean ?_⟩⟩;cases full with
   | true=>rfl
   | false=>exact(gn ⟨e7,rfl⟩).elim
  . cases h1
theorem Zzi (hB:∀ W W',B W->(∀ c,C c->W'.heap[c]?=W.heap[c]?)->B W')(hQ:∀ W W' m V,Q W m V->(∀ c,C c->W'.heap[c]?=W.heap[c]?)->Q W' m V)(hSt:∀ (m:ManD) (d:Zae),St m->Zbh m.d d->St { m with d:=d })(hC0:∀ c,C c->w0.heap.size<=c)(eg:∀ args w,(callFunc gop args).run prog w=.ok (.enter gop args) w)
 (hop:OpL K n Od room w0 mb fs nx C B St gop lop Q E) {o:Own} {w:World} {m:ManD} {V:Nat->BF} (h:SatE K n Od room w0 mb fs nx w o m V) (hb:B w) (hC:∀ c,C c->c<w.heap.size/\o c=none) (hst:St m) :
 Calls prog 128 #[.pointer (some ⟨mb,0,none⟩),.func (.func gop) #[] lop] w fun x w'=>∃ er,x=.returned (.int .i64 er)/\Yc2 K n Od room w0 mb fs nx C B Q E o w er w':=by
 have g0:=Hd (Zw2 hB hQ hSt hC0 eg hop h hb hC hst);have g1:=Ybz w (.func gop) #[] lop;clear h hb hB hQ hSt hC0 hop hC hst
 go_enter func128,ntmps128
 go_wp2_with fail;refine g0.out.mono ?_;rintro x w1 ⟨er,rfl,hf⟩;have HF:=Hd hf;clear hf g0;go_wp2_with fail;go_ret;exact⟨er,rfl,HF.out⟩
end
open Go.RowKit
theorem Zto (args:Array Value)(w:World):(callFunc 129 args).run prog w=.ok (.enter 129 args) w:=enters_of func129 (by kernel_rfl) rfl args w
theorem Zi3.write {K:Law}{C D:Nat->Prop}{o o':Own}{w w' w'':World}{mb:Nat}{m m':ManD}{V V':Nat->BF}(h:Zi3 C K o w mb m V o' w' m' V')(hw:Wr D w' w'')(hD:∀ k,D k->C k/\o k=none/\k<w.heap.size):Zi3 C K o w mb m V o' w'' m' V':=by
 obtain⟨s,hm⟩:=h.is;refine⟨⟨s,hm.keep (fun g r hg=>hw.keep g (h.lt g r hg) (fun e=>?_)) (fun _ _ h=>h)⟩,h.lt.mono hw.size,h.chg.trans (ChgX.of_wr (C:=D) hw o' (fun _ _ e=>e)) (fun k _ e=>(hD k e).1),h.ok,h.ext,h.hs,h.next⟩;have:=h.chg.none' (hD g e).2.2 (hD g e).2.1;rw[this] at hg;cases hg
structure BoI (ba bf bb bw:Nat)(ka kb:Int)(g e0:Nat)(W:World):Prop where
 a:W.cell? ⟨ba,0,none⟩=some (.int .i64 ka)
 f:W.cell? ⟨bf,0,none⟩=some (.func (.func g) #[] #[])
 b:W.cell? ⟨bb,0,none⟩=some (.int .i64 kb)
 w:W.cell? ⟨bw,0,none⟩=some (.int .i64 e0)
abbrev C4 (ba bf bb bw:Nat)(k:Nat):Prop:=k=ba\/k=bf\/k=bb\/k=bw
theorem BoI.keep {ba bf bb bw:Nat}{ka kb:Int}{g e0:Nat}{W W':World}(h:BoI ba bf bb bw ka kb g e0 W)(hk:∀ c,C4 ba bf bb bw c->W'.heap[c]?=W.heap[c]?):BoI ba bf bb bw ka kb g e0 W' :=
 ⟨(World.cell?_of_block (w:=W) (a:=⟨ba,0,none⟩) (hk _ (.inl rfl))).trans h.a,(World.cell?_of_block (w:=W) (a:=⟨bf,0,none⟩) (hk _ (.inr (.inl rfl)))).trans h.f,(World.cell?_of_block (w:=W) (a:=⟨bb,0,none⟩) (hk _ (.inr (.inr (.inl rfl))))).trans h.b,(World.cell?_of_block (w:=W) (a:=⟨bw,0,none⟩) (hk _ (.inr (.inr (.inr rfl))))).trans h.w⟩
section
variable {K:Law}{n:Nat}{Od:List Nat->Prop}{room:Nat}{w0 w:World}{mb xb:Nat}{fs:List (Int×BF)}{nx:Int}{o:Own}{m:ManD}{V:Nat->BF}
theorem Yd2 {g:Nat}{G:BF->BF->BF}(hG:Zqz K n g G)(eg:∀ args w,(callFunc g args).run prog w=.ok (.enter g args) w){ba bf bb bw bs e0:Nat}{ka kb:Int}{F1 F2:BF}(h1:(ka,F1)∈fs)(h2:(kb,F2)∈fs)(hsat:SatE K n Od room w0 mb fs nx w o m V)(hB:BoI ba bf bb bw ka kb g e0 w)(hs:∃ z:Bool,w.heap[bs]?=some (.cells #[.bool z] 4 (0,0)))(hno:∀ c,(C4 ba bf bb bw c\/c=bs)->o c=none)(hx:Zce o w xb mb) :
 Calls prog 129 #[.pointer (some ⟨xb,0,none⟩),.pointer (some ⟨ba,0,none⟩),.pointer (some ⟨bf,0,none⟩),.pointer (some ⟨bb,0,none⟩),.pointer (some ⟨bw,0,none⟩),.pointer (some ⟨bs,0,none⟩)] w fun e w' =>
  (∃ (r:Nat) (o':Own) (m':ManD) (V':Nat->BF) (w1:World),e=.returned (.tuple #[])/\AtC K (2^n-1) o w mb m V o' w1 m' V'/\okE (Zaa m'.d) r/\ef V' r=G F1 F2/\w'=w1.setCell ⟨bs,0,none⟩ (.bool ((r:Int) == (e0:Int)))) \/
  (∃ er evt ev,e=Zbg er evt ev/\Zko K (2^n-1) o w mb m V er evt ev w'):=by
 obtain⟨f1,g9,e1⟩:=hsat.find h1;obtain⟨f2,g8,e2⟩:=hsat.find h2;have hk:=hsat.ok;have g0:Below w.heap.size w w.drew:=Zaf w 1;obtain⟨s,gd⟩:=hsat.is;have g7:=gd.below hsat.lt g0;have ge:=hsat.lt.mono g0.size;have g4:Zce o w.drew xb mb:=⟨(g0.cell (p:=⟨xb,0,none⟩) (Zab hx.cell)).trans hx.cell,hx.own⟩;have ca:=hB.a;have cf:=(g0.cell (p:=⟨bf,0,none⟩) (Zab hB.f)).trans hB.f;have cb:=(g0.cell (p:=⟨bb,0,none⟩) (Zab hB.b)).trans hB.b;have cw:=(g0.cell (p:=⟨bw,0,none⟩) (Zab hB.w)).trans hB.w;obtain⟨z,hz⟩:=hs;have g5:bs<w.heap.size:=(Array.getElem?_eq_some_iff.1 hz).1;have gb:=(g0.block bs g5).trans hz;have gi:=Hd (Zb7 hsat.is hx hk.handles.nodup g9);have gh:=Hd (Zb7 ⟨s,g7⟩ g4 hk.handles.nodup g8);have g6:=hG o w.drew xb mb m V f1 f2 ⟨s,g7⟩ ge g4 hk.store hsat.vars (hk.handles.ok _ g9) (hk.handles.ok _ g8);rw[show ef V f1=F1 from e1,show ef V f2=F2 from e2] at g6;have ga:AtC K 0 o w mb m V o w.drew m V:=(AtC.refl hsat.is hsat.lt hk.store).below g0;obtain⟨P,hP⟩:∃ P:Ending->World->Prop,P=fun e w'=>(∃ (r:Nat) (o':Own) (m':ManD) (V':Nat->BF) (w1:World),e=.returned (.tuple #[])/\AtC K (2^n-1) o w mb m V o' w1 m' V'/\okE (Zaa m'.d) r/\ef V' r=G F1 F2/\w'=w1.setCell ⟨bs,0,none⟩ (.bool ((r:Int) == (e0:Int)))) \/
  (∃ er evt ev,e=Zbg er evt ev/\Zko K (2^n-1) o w mb m V er evt ev w'):=⟨_,rfl⟩
 have gg:Hid (Calls prog g #[.pointer (some ⟨xb,0,none⟩),.int .i64 f1,.int .i64 f2] w.drew fun e w'=>(∃ v,e=.returned v/\(w'.cell? ⟨bf,0,none⟩=some (.func (.func g) #[] #[])/\w'.cell? ⟨bb,0,none⟩=some (.int .i64 kb)/\w'.cell? ⟨bw,0,none⟩=some (.int .i64 e0))/\∃ r:Nat,v=.int .i64 r/\w'.cell? ⟨bs,0,none⟩=some (.bool z)/\w'.frozen? ⟨bs,0,none⟩=false/\P (.returned (.tuple #[])) (w'.setCell ⟨bs,0,none⟩ (.bool ((r:Int) == (e0:Int)))))\/(∃ ch,e=.panicked ch/\P (.panicked ch) w')):=Hd (g6.mono (by
  subst hP;rintro e w' (⟨r,o',m',V',rfl,q1,q2,q3⟩|⟨er,evt,ev,rfl,q⟩)
  . have gc:w'.heap[bs]?=some (.cells #[.bool z] 4 (0,0)):=(q1.st.chg.alien (by rw[show w.drew.heap.size=w.heap.size from rfl];exact g5) (hno bs (.inr rfl))).trans gb;exact .inl ⟨_,rfl,⟨q1.st.chg.cell cf (hno bf (.inl (.inr (.inl rfl)))),q1.st.chg.cell cb (hno bb (.inl (.inr (.inr (.inl rfl))))),q1.st.chg.cell cw (hno bw (.inl (.inr (.inr (.inr rfl)))))⟩,r,rfl,cell1 gc,by simp[World.frozen?,gc],.inl ⟨r,o',m',V',w',rfl,(ga.trans q1).mono (by omega),q2,q3,rfl⟩⟩
  . exact .inr ⟨_,rfl,.inr ⟨er,evt,ev,rfl,q.after ga (by omega)⟩⟩))
 rw[<- hP];clear hG h1 h2 hsat hB hx hno g9 g8 e1 e2 hk g0 gd g7 ge g4 g6 ga hP hz gb g5
 go_enter func129,ntmps129
 go_wp2_with fail;refine gi.out.mono ?_;rintro x w' ⟨rfl,rfl⟩;go_upto_region 1 with fail;refine Zd4 (fun W:World=>W.cell? ⟨bf,0,none⟩=some (.func (.func g) #[] #[])/\W.cell? ⟨bb,0,none⟩=some (.int .i64 kb)/\W.cell? ⟨bw,0,none⟩=some (.int .i64 e0)) (fun ch w'=>P (.panicked ch) w') 10 (fun c a w hd h=>⟨hd,h⟩) (by kernel_rfl) ⟨cf,cb,cw⟩ ?_;refine Za3 0 rfl rfl (by kernel_rfl) ?_;apply Exists.intro;refine⟨fun w' hw=>?_,?_⟩
 . obtain⟨q1,q2,q3⟩:=hw;go_simp;rfl
 simp only[Zai];refine Za3 1 rfl rfl (by kernel_rfl) ?_;apply Exists.intro;refine⟨fun w' hw=>?_,?_⟩
 . obtain⟨q1,q2,q3⟩:=hw;go_simp;rfl
 simp only[Zai];refine Za3 2 rfl rfl (by kernel_rfl) ?_;apply Exists.intro;refine⟨fun w' hw=>?_,?_⟩
 . obtain⟨q1,q2,q3⟩:=hw;go_simp;rfl
 simp only[Zai];refine Za3 3 rfl rfl (by kernel_rfl) ?_;apply Exists.intro;refine⟨fun w' hw=>?_,?_⟩
 . obtain⟨q1,q2,q3⟩:=hw;go_simp;rfl
 simp only[Zai];refine Za3 4 rfl rfl (by kernel_rfl) ?_;apply Exists.intro;refine⟨fun w' hw=>?_,?_⟩
 . obtain⟨q1,q2,q3⟩:=hw;go_simp;rfl
 simp only[Zai];refine Za3 7 rfl rfl (by kernel_rfl) ?_;apply Exists.intro;refine⟨fun w' hw=>?_,?_⟩
 . obtain⟨q1,q2,q3⟩:=hw;go_simp;rfl
 simp only[Zai];refine Zcc [5] (by kernel_rfl) (fun i hi hS o ho=>?_);simp only[Zbd] at hi;subst hi;simp only[Za2] at ho;subst ho;refine⟨rfl,?_⟩;refine Zat (v:=.int .i64 (f2:Nat)) (R:=fun w'=>w.drew=w') (by go_simp) gh.out ?_;rintro w' rfl;refine⟨⟨cf,cb,cw⟩,?_⟩;simp only[Zai];refine Zcc [6] (by kernel_rfl) (fun i hi hS o ho=>?_);simp only[Zbd] at hi;subst hi;simp only[Za2] at ho;subst ho;refine⟨rfl,?_⟩;refine Zhc (R:=fun v w'=>(w'.cell? ⟨bf,0,none⟩=some (.func (.func g) #[] #[])/\w'.cell? ⟨bb,0,none⟩=some (.int .i64 kb)/\w'.cell? ⟨bw,0,none⟩=some (.int .i64 e0))/\∃ r:Nat,v=.int .i64 r/\w'.cell? ⟨bs,0,none⟩=some (.bool z)/\w'.frozen? ⟨bs,0,none⟩=false/\P (.returned (.tuple #[])) (w'.setCell ⟨bs,0,none⟩ (.bool ((r:Int) == (e0:Int))))) (R2:=fun ch w'=>P (.panicked ch) w') (by go_simp) gg.out ?_ ?_
 .
  rintro v w2 ⟨hS,r,rfl,cs,fz,g3⟩;refine⟨hS,?_⟩;have gf:=Hd g3;clear g3;simp only[Zai];refine Za3 8 rfl rfl (by kernel_rfl) ?_;apply Exists.intro;refine⟨fun w' hw=>?_,?_⟩
  . obtain⟨q1,q2,q3⟩:=hw;go_simp;rfl
  simp only[Zai];refine Zcc [9] (by kernel_rfl) (fun i hi hS o ho=>?_);simp only[Zbd] at hi;subst hi;simp only[Za2] at ho;subst ho;refine⟨rfl,?_⟩;refine Zbb (w':=w2.setCell ⟨bs,0,none⟩ (.bool ((r:Int) == (e0:Int)))) rfl (by go_simp) ?_;have g1:∀ (b:Nat) (v:Value),w2.cell? ⟨b,0,none⟩=some v->b≠bs->(w2.setCell ⟨bs,0,none⟩ (.bool ((r:Int) == (e0:Int)))).cell? ⟨b,0,none⟩=some v:=fun b v hc g2=>(World.cell?_of_block (w:=w2) (a:=⟨b,0,none⟩) (Zag g2 _)).trans hc
  have g2:∀ (b:Nat) (v:Value),w2.cell? ⟨b,0,none⟩=some v->(∀ y,v ≠ .bool y)->b≠bs:=fun b v hc hv e=>by
   subst e;rw[cs] at hc;exact hv z (Option.some.inj hc).symm
  refine⟨⟨g1 _ _ hS.1 (g2 _ _ hS.1 (by simp)),g1 _ _ hS.2.1 (g2 _ _ hS.2.1 (by simp)),g1 _ _ hS.2.2 (g2 _ _ hS.2.2 (by simp))⟩,?_⟩;simp only[Zai];refine Zio (by kernel_rfl) ?_;clear hS cf cb ca cw cs fz g1 g2;go_wp2_with fail;refine bodyPost_end (results_none rfl _ _ _) rfl ?_;exact gf.out
 . intro ch w' g3;exact⟨rfl,g3⟩
abbrev C5 (ba bf bb bw bs:Nat)(k:Nat):Prop:=C4 ba bf bb bw k\/k=bs
theorem Ydi (hK:Zb4 K){g:Nat}{G:BF->BF->BF}(hG:Zqz K n g G)(eg:∀ args w,(callFunc g args).run prog w=.ok (.enter g args) w){ba bf bb bw bs e0:Nat}{ka kb:Int}{F1 F2:BF}(h1:(ka,F1)∈fs)(h2:(kb,F2)∈fs)(hbs:¬ C4 ba bf bb bw bs)(he0:e0/2=0){b:Bool}(hb:b=true↔G F1 F2=Zd5 e0)(ws0:List Ev)(hn:nx<=549755813888) :
 OpL K n (fun _=>True) room w0 mb fs nx (C5 ba bf bb bw bs) (fun W=>BoI ba bf bb bw ka kb g e0 W/\∃ z:Bool,W.heap[bs]?=some (.cells #[.bool z] 4 (0,0))) (fun m=>m.waits <:+ ws0) 129 #[.pointer (some ⟨ba,0,none⟩),.pointer (some ⟨bf,0,none⟩),.pointer (some ⟨bb,0,none⟩),.pointer (some ⟨bw,0,none⟩),.pointer (some ⟨bs,0,none⟩)]
  (fun W m' _=>W.cell? ⟨bs,0,none⟩=some (.bool b)/\m'.waits <:+ ws0) (fun er m0 _=>er=7/\(∃ W o V,SatE K n (fun _=>True) room w0 mb fs nx W o m0 V)/\room+1<=m0.d.pool.many+(2^n-1)):=by
 intro o W m V xb g1 hB hC g3 g5 hnx;obtain⟨hB,z,hz⟩:=hB;refine(Yd2 hG eg h1 h2 g1 hB ⟨z,hz⟩ (fun c hc=>(hC c hc).2) g5).mono ?_;have g0:∀ {o':Own} {w':World} {m':ManD} {V':Nat->BF},Step K o W mb m V o' w' m' V'->BoI ba bf bb bw ka kb g e0 w'/\w'.heap[bs]?=some (.cells #[.bool z] 4 (0,0)):=fun st=>⟨hB.keep fun c hc=>st.chg.alien (hC c (.inl hc)).1 (hC c (.inl hc)).2,(st.chg.alien (hC bs (.inr rfl)).1 (hC bs (.inr rfl)).2).trans hz⟩
 rintro e w' (⟨r,o',m',V',w1,rfl,q1,q2,q3,rfl⟩|⟨er,evt,ev,rfl,o',m',V',st,⟨rfl,rfl,rfl,a4,a5,a6⟩|⟨rfl,rfl,a3⟩⟩)
 .
  obtain⟨k1,k2⟩:=g0 q1.st;have g4:(w1.setCell ⟨bs,0,none⟩ (.bool ((r:Int) == (e0:Int)))).heap[bs]?=some (.cells #[.bool ((r:Int) == (e0:Int))] 4 (0,0)):=Zah k2 _;refine⟨o',m',V',(q1.st.toX _).write (D:=fun k=>k=bs) ((Wr.refl (fun k=>k=bs) w1).setCell (p:=⟨bs,0,none⟩) (.inl rfl) _) (fun k hk=>by subst hk;exact⟨.inr rfl,(hC _ (.inr rfl)).2,(hC _ (.inr rfl)).1⟩),⟨k1.keep fun c hc=>Zag (fun e=>hbs (by subst e;exact hc)) _,_,g4⟩,.inl ⟨rfl,?_,by show m'.waits <:+ ws0;rw[q1.waits];exact g3⟩⟩;rw[cell1 g4];have g6:((r:Int) == (e0:Int))=b:=by
   rw[<- q3,<- Zij q1.st.ok he0,q1.st.ok.dag.canon_iff q2 (show okE (Zaa m'.d) e0 from .inl he0)] at hb;rw[Bool.eq_iff_iff,hb,beq_iff_eq];omega
  rw[g6]
 . obtain⟨k1,k2⟩:=g0 st;exact⟨o',m',V',st.toX _,⟨k1,z,k2⟩,.inr (.inl ⟨7,rfl,by omega,a4,by show m'.waits <:+ ws0;rw[a4];exact g3,rfl,⟨_,_,_,g1⟩,by rw[<- g1.room,<- st.ext.room,<- a5];exact a6⟩)⟩
 . obtain⟨k1,k2⟩:=g0 st;have g2:m.waits <:+ ws0:=g3;rw[a3] at g2;exact⟨o',m',V',st.toX _,⟨k1,z,k2⟩,.inr (.inr ⟨ev,rfl,a3,fun _ _ m2 _ _ e _ _=>by show m2.waits <:+ ws0;rw[e];exact(List.suffix_cons ev m'.waits).trans g2,Zfl hn ev⟩)⟩
theorem boxes5v (w:World)(x y z u v:Value)(s t p q r:TypeId):∃ w5,w5=((((w.alloc (.cells #[x] s)).alloc (.cells #[y] t)).alloc (.cells #[z] p)).alloc (.cells #[u] q)).alloc (.cells #[v] r)/\Below w.heap.size w w5/\w5.heap.size=w.heap.size+5/\w5.cell? ⟨w.heap.size,0,none⟩=some x/\w5.cell? ⟨w.heap.size+1,0,none⟩=some y/\w5.cell? ⟨w.heap.size+1+1,0,none⟩=some z/\w5.cell? ⟨w.heap.size+1+1+1,0,none⟩=some u/\w5.heap[w.heap.size+1+1+1+1]?=some (.cells #[v] r (0,0)):=by
 obtain⟨w3,h3,hb,hz,c0,c1,c2⟩:=boxes3v w x y z s t p;refine⟨_,rfl,?_,?_,?_,?_,?_,?_,?_⟩<;>rw[<- h3]
 . exact(hb.alloc (by omega) _).alloc (by simp;omega) _
 . simp[hz]
 . exact(World.cell?_of_block (w:=w3) (a:=⟨w.heap.size,0,none⟩) ((Go.heap_alloc_old _ _ (by simp;omega)).trans (Go.heap_alloc_old _ _ (by show w.heap.size<_;omega)))).trans c0
 . exact(World.cell?_of_block (w:=w3) (a:=⟨w.heap.size+1,0,none⟩) ((Go.heap_alloc_old _ _ (by simp;omega)).trans (Go.heap_alloc_old _ _ (by show w.heap.size+1<_;omega)))).trans c1
 . exact(World.cell?_of_block (w:=w3) (a:=⟨w.heap.size+1+1,0,none⟩) ((Go.heap_alloc_old _ _ (by simp;omega)).trans (Go.heap_alloc_old _ _ (by show w.heap.size+1+1<_;omega)))).trans c2
 . have:=heap_alloc_new w3 (.cells #[u] q);rw[hz] at this;exact cell1 ((Go.heap_alloc_old _ _ (by simp;omega)).trans this)
 . have:=heap_alloc_new (w3.alloc (.cells #[u] q)) (.cells #[v] r);rw[World.size_alloc,hz] at this;exact this
def IsP (K:Law)(n room:Nat)(w0:World)(mb:Nat)(fs:List (Int×BF))(nx:Int)(ws0:List Ev)(b:Bool)(o:Own)(w:World)(x:Ending)(w':World):Prop :=
 x=.returned (.tuple #[.bool b,.int .i64 0])/\∃ o' m' V',ChgX NoB o o' w w'/\m'.waits <:+ ws0/\SatE K n (fun _=>True) room w0 mb fs nx w' o' m' V'
theorem Yd3 (hK:Zb4 K){g:Nat}{G:BF->BF->BF}(hG:Zqz K n g G)(eg:∀ args w,(callFunc g args).run prog w=.ok (.enter g args) w)(h:SatE K n (fun _=>True) room w0 mb fs nx w o m V){e0:Nat}{ka kb:Int}{F1 F2:BF}(h1:(ka,F1)∈fs)(h2:(kb,F2)∈fs)(he0:e0/2=0){b:Bool}(hb:b=true↔G F1 F2=Zd5 e0){ws0:List Ev}(hst:m.waits <:+ ws0)(hn:nx<=549755813888)(hr:fs.length*2^n+(2^n-1)<=room) :
 Calls prog 91 #[.pointer (some ⟨mb,0,none⟩),.func (.func g) #[] #[],.int .i64 ka,.int .i64 kb,.int .i64 e0] w (IsP K n room w0 mb fs nx ws0 b o w):=by
 have g8:∀ (fn:Fn) (first cap:Array Value) (w:World),(Instr.makeFunc fn first cap).run prog w=.ok (.func fn first cap) w:=fun _ _ _ _=>rfl
 obtain⟨w5,g1,g0,g3,c0,c1,c2,c3,c4⟩:=boxes5v w (.func (.func g) #[] #[]) (.int .i64 ka) (.int .i64 kb) (.int .i64 e0) (.bool false) 160 3 3 76 4;have g7:Hid (_=w5):=Hd g1.symm;have hw0:=h.chg.size;have g2:=Ydi (room:=room) (w0:=w0) (mb:=mb) (ba:=w.heap.size+1) (bf:=w.heap.size) (bb:=w.heap.size+1+1) (bw:=w.heap.size+1+1+1) (bs:=w.heap.size+1+1+1+1) hK hG eg h1 h2 (by unfold C4;omega) he0 hb ws0 hn;obtain⟨s,hs⟩:∃ s,s=w.heap.size+1+1+1+1:=⟨_,rfl⟩
 have HL:Hid (Calls prog 128 #[.pointer (some ⟨mb,0,none⟩),.func (.func 129) #[] #[.pointer (some ⟨w.heap.size+1,0,none⟩),.pointer (some ⟨w.heap.size,0,none⟩),.pointer (some ⟨w.heap.size+1+1,0,none⟩),.pointer (some ⟨w.heap.size+1+1+1,0,none⟩),.pointer (some ⟨w.heap.size+1+1+1+1,0,none⟩)]] w5 fun x w'=>x=.returned (.int .i64 0)/\w'.cell? ⟨w.heap.size+1+1+1+1,0,none⟩=some (.bool b)/\IsP K n room w0 mb fs nx ws0 b o w (.returned (.tuple #[.bool b,.int .i64 0])) w'):=Hd (by
  refine(Zzi (fun W W' hB hk=>⟨hB.1.keep fun c hc=>hk c (.inl hc),hB.2.imp fun z hz=>(hk _ (.inr rfl)).trans hz⟩) (fun W W' m V hq hk=>⟨(World.cell?_of_block (w:=W) (a:=⟨w.heap.size+1+1+1+1,0,none⟩) (hk _ (.inr rfl))).trans hq.1,hq.2⟩) (fun m d hm _=>hm) (fun c hc=>?_) Zto g2 (h.below g0) ⟨⟨c1,c0,c2,c3⟩,false,c4⟩ (fun c hc=>?_) hst).mono ?_
  . rcases hc with (rfl|rfl|rfl|rfl)|rfl<;>omega
  . rcases hc with (rfl|rfl|rfl|rfl)|rfl<;>exact⟨by omega,h.lt.none (by omega)⟩
  .
   rintro x w' ⟨er,rfl,o',m',V',hs',_,hc,⟨rfl,g6,g5⟩|⟨_,m0,⟨e7,⟨W,oo,VV,g4⟩,h5⟩,h6⟩⟩
   . refine⟨rfl,g6,rfl,o',m',V',(ChgX.of_below g0 o NoB).trans hc (fun k hk e=>?_),g5,hs'⟩;rcases e with (rfl|rfl|rfl|rfl)|rfl<;>omega
   . exfalso;have:=g4.few (h6 e7);omega)
 clear g1 g0 g3 c0 c1 c2 c3 c4 h hK hG hst hn hr h1 h2 g2 hw0 hb he0;obtain⟨P,hP⟩:∃ P,P=IsP K n room w0 mb fs nx ws0 b o w:=⟨_,rfl⟩;rw[<- hP] at HL ⊢;clear hP;rw[<- hs] at HL;have HS:=Hd hs;clear hs
 go_enter func91,ntmps91
 go_upto_region 2 with fail;rw[g7.out];rw[<- HS.out];go_wp2_with fail;refine HL.out.mono ?_;rintro x w' ⟨rfl,hc,hf⟩;have HF:=Hd hf;clear hf HL;cases b with
 | true =>
   go_wp2_with fail;exact HF.out
 | false =>
   go_wp2_with fail;exact HF.out
end
open Go.RowKit
structure ArgL (fs:List (Int×BF))(w0 w:World)(o:Own)(a:Option Addr)(ks:List Int)(Fs:List BF):Prop where
 z:Zay w a ks
 own:∀ x,a=some x->x.block<w.heap.size/\w0.heap.size<=x.block/\o x.block=none
 len:Fs.length=ks.length
 mem:∀ i (h:i<ks.length),(ks[i],Fs[i]'(by omega))∈fs
section
variable {K:Law}{n:Nat}{room:Nat}{w0 w:World}{mb:Nat}{fs:List (Int×BF)}{nx:Int}{o:Own}{m:ManD}{V:Nat->BF}{ws0:List Ev}
theorem Ycq (hK:Zb4 K)(h:SatE K n (fun _=>True) room w0 mb fs nx w o m V){c:Nat}{a:Option Addr}{ks:List Int}{Fs:List BF}(hl:ArgL fs w0 w o a ks Fs)(hst:m.waits <:+ ws0)(hn:nx<=549755813888)(hr:fs.length*2^n+ks.length*(2^n-1)<=room) :
 Calls prog 24 #[.pointer (some ⟨mb,0,none⟩),.slice a ks.length c] w (NewF K n room w0 mb fs nx ws0 (Zim andF (Zd5 0) Fs) o w):=by
 have HC:=Hd (Zy5 (c:=c) hK (Yds hK) Ztl h (e0:=0) rfl hl.z hl.own hl.len hl.mem hst hn hr);clear h hK hl hst hn hr;obtain⟨P,hP⟩:∃ P,P=NewF K n room w0 mb fs nx ws0 (Zim andF (Zd5 0) Fs) o w:=⟨_,rfl⟩;rw[<- hP] at HC ⊢;have HT:Hid (∀ x w',P x w'->∃ a b,x=.returned (.tuple #[.int .i64 a,.int .i64 b])):=Hd (by subst hP;rintro x w' ⟨rfl,_⟩;exact⟨_,_,rfl⟩);clear hP
 go_enter func24,ntmps24
 go_wp2_with fail;refine HC.out.mono ?_;intro x w' hd;obtain⟨a,b,rfl⟩:=HT.out x w' hd;have HD:=Hd hd;clear hd;go_wp2_with fail;exact HD.out
def Ycf (k:Nat)(Fs:List BF):BF:=if k=0 then Zim andF (Zd5 0) Fs else if k=1 then Zim orF (Zd5 1) Fs else Zim xorF (Zd5 1) Fs
theorem Zu6 (hK:Zb4 K)(h:SatE K n (fun _=>True) room w0 mb fs nx w o m V){ka kb:Int}{F1 F2:BF}(h1:(ka,F1)∈fs)(h2:(kb,F2)∈fs){b:Bool}(hb:b=true↔impF F1 F2=Zd5 0)(hst:m.waits <:+ ws0)(hn:nx<=549755813888)(hr:fs.length*2^n+(2^n-1)<=room) :
 Calls prog 42 #[.pointer (some ⟨mb,0,none⟩),.int .i64 ka,.int .i64 kb] w (IsP K n room w0 mb fs nx ws0 b o w):=by
 have HC:=Hd (Yd3 hK (Ydt hK) Ztn h (e0:=0) h1 h2 rfl hb hst hn hr);clear h hK h1 h2 hst hn hr hb;obtain⟨P,hP⟩:∃ P,P=IsP K n room w0 mb fs nx ws0 b o w:=⟨_,rfl⟩;rw[<- hP] at HC ⊢;have HT:Hid (∀ x w',P x w'->∃ (a:Bool) (b:Int),x=.returned (.tuple #[.bool a,.int .i64 b])):=Hd (by subst hP;rintro x w' ⟨rfl,_⟩;exact⟨_,_,rfl⟩);clear hP
 go_enter func42,ntmps42
 go_wp2_with fail;refine HC.out.mono ?_;intro x w' hd;obtain⟨a,b,rfl⟩:=HT.out x w' hd;have HD:=Hd hd;clear hd;go_wp2_with fail;exact HD.out
end
end Go.Proofs.YteohpagjkaaboaaGreat
