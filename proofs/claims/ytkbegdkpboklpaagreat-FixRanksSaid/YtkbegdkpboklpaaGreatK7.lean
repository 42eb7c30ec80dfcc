/- Several texts in one file: contracts of the program's functions and what follows from them. -/
import Derived.Test.YtkbegdkpboklpaaGreatK6
import Derived.Deep.CutBlock
import Derived.Defers
set_option linter.unusedSimpArgs false
set_option linter.unusedVariables false
set_option linter.unusedSectionVars false
set_option linter.unnecessarySimpa false
set_option maxRecDepth 100000
set_option maxHeartbeats 8000000
namespace Go.Proofs.YtkbegdkpboklpaaGreat
open Go.Proofs.Tryz
open Go.RowKit
theorem Zay.chgX {C:Nat->Prop}{o o':Own}{w w':World}{a:Option Addr}{zs:List Int}(h:Zay w a zs)(hc:ChgX C o o' w w')(hn:0<zs.length->∀ x,a=some x->o x.block=none/\¬ C x.block):Zay w' a zs :=
 ⟨h.len,fun k hk=>by
  obtain⟨b,off,rfl,c⟩:=h.cells k hk;have:=hn (by omega) _ rfl;exact⟨b,off,rfl,hc.cell c this.1 this.2⟩⟩
def ArrI (K:Law)(n room:Nat)(w0:World)(mb:Nat)(fs:List (Int×BF))(nx:Int)(o:Own)(w:World)(m:ManD)(P:List Nat->Prop)(W:World):Prop :=
 ∃ o' m' V',SatE K n P room w0 mb fs nx W o' m' V'/\m'.waits=m.waits/\m'.calls=m.calls/\ChgX NoB o o' w W/\(m'.d.pool.many<=m.d.pool.many\/m'.d.pool.many<=fs.length*2^n)
section
variable {K:Law}{n:Nat}{Od:List Nat->Prop}{room:Nat}{w0 w w':World}{mb:Nat}{fs:List (Int×BF)}{nx:Int}{o o':Own}{m m':ManD}{V V':Nat->BF}{P:List Nat->Prop}{W W':World}
theorem ArrI.below (h:ArrI K n room w0 mb fs nx o w m P W)(hb:Below W.heap.size W W'):ArrI K n room w0 mb fs nx o w m P W':=by
 obtain⟨o',m',V',h1,h2,h3,h4,h5⟩:=h;exact⟨o',m',V',h1.below hb,h2,h3,h4.trans (Zb3 hb o') (fun _ _ e=>e),h5⟩
theorem ArrI.imp (h:ArrI K n room w0 mb fs nx o w m P W){P':List Nat->Prop}(hP:∀ l,l.length=n->P l->P' l):ArrI K n room w0 mb fs nx o w m P' W:=by
 obtain⟨o',m',V',h1,h2,h3,h4,h5⟩:=h;exact⟨o',m',V',h1.withOd (hP _ h1.vars h1.od),h2,h3,h4,h5⟩
theorem ArrI.swap (h:ArrI K n room w0 mb fs nx o w m P W){k:Nat}(hk1:k+1<n)(hn:nx<=549755813888)(hr:3*(fs.length*2^n)<=room){P':List Nat->Prop}(hP:∀ l,l.length=n->P l->P' (exL l k)) :
 Calls prog 130 #[.pointer (some ⟨mb,0,none⟩),.int .i64 k] W fun e w'=>e=.returned (.int .i64 0)/\ArrI K n room w0 mb fs nx o w m P' w':=by
 obtain⟨o',m',V',h1,h2,h3,h4,h5⟩:=h;refine(Zs6 h1 hk1 hn hr).mono ?_;rintro e w' ⟨rfl,o2,m2,V2,s⟩;refine⟨rfl,o2,m2,V2,s.sat.withOd ?_,s.waits.trans h2,s.calls.trans h3,h4.trans (ChgX.of_chg s.chg NoB) (fun _ _ e=>e),.inr (s.sat.few s.dead)⟩;rw[s.sat.od,Zwu];exact hP _ h1.vars h1.od
theorem Zqa (h:SatE K n Od room w0 mb fs nx w o m V)(hn:nx<=549755813888)(hr:3*(fs.length*2^n)<=room){a:Option Addr}{c:Nat}{zs:List Int}(hz:Zay w a zs)(hno:0<zs.length->∀ x,a=some x->o x.block=none)(hp:zs.length=0\/Zzt zs n) :
 Calls prog 72 #[.pointer (some ⟨mb,0,none⟩),.slice a zs.length c] w fun x w'=>x=.returned (.bool true)/\ArrI K n room w0 mb fs nx o w m (fun l=>∀ j,j<zs.length->((l.getD j 0:Nat):Int)=at0 zs j) w':=by
 have hlen:=hz.len;have hn64:n<=64:=by have:=h.ok.store.small;rw[h.vars] at this;exact this
 have HZ:Hid (∀ W P,ArrI K n room w0 mb fs nx o w m P W->Zay W a zs):=Hd fun W P ⟨o',m',V',_,_,_,h4,_⟩=>hz.chgX h4 fun h0 x hx=>⟨hno h0 x hx,fun e=>e⟩
 have gd:Hid (∀ W P,ArrI K n room w0 mb fs nx o w m P W->Calls prog 25 #[.pointer (some ⟨mb,0,none⟩)] W fun x w'=>∃ (a:Option Addr) (c:Nat) (l:List Nat),x=.returned (.slice a n c)/\l.length=n/\Zay w' a (l.map Int.ofNat)/\P l/\(∀ v,v<n->∃ i,i<n/\l.getD i 0=v)/\(∀ i j,i<n->j<n->l.getD i 0=l.getD j 0->i=j)/\Below W.heap.size W w'/\ArrI K n room w0 mb fs nx o w m (fun l'=>l'=l) w'):=by
  refine Hd fun W P hA=>?_
  obtain⟨o',m',V',h1,h2,h3,h4,h5⟩:=hA;refine(Zpc h1.is h1.lt (by rw[h1.vars];exact hn64)).mono ?_;rintro x w' ⟨v,rfl,hv,hb⟩;obtain⟨av,cv,rfl,gr,_⟩:=hv.sliceIs (by simp[h1.vars];omega);refine⟨av,cv,m'.d.vars,by rw[List.length_map,h1.vars],h1.vars,gr,h1.od,fun v hv=>?_,fun i j hi hj e=>?_,hb,o',m',V',(h1.below hb).withOd rfl,h2,h3,h4.trans (Zb3 hb o') (fun _ _ e=>e),h5⟩
  . have:=h1.ok.store.mem (v:=v) (by rw[h1.vars];exact hv);rw[h1.vars] at this;exact this
  . exact h1.ok.store.inj (by rw[h1.vars];exact hi) (by rw[h1.vars];exact hj) e
 have gi:Hid (∀ W P,ArrI K n room w0 mb fs nx o w m P W->∀ (k:Nat),k+1<n->∀ P':List Nat->Prop,(∀ l,l.length=n->P l->P' (exL l k))->Calls prog 130 #[.pointer (some ⟨mb,0,none⟩),.int .i64 k] W fun e w'=>e=.returned (.int .i64 0)/\ArrI K n room w0 mb fs nx o w m P' w') :=
  Hd fun W P hA k hk P' hP=>hA.swap hk hn hr hP
 have HP:=Hd hp;obtain⟨R,hR⟩:∃ R:(List Nat->Prop)->World->Prop,R=ArrI K n room w0 mb fs nx o w m:=⟨_,rfl⟩;have gC:Hid (R (fun l=>∀ j,j<0->((l.getD j 0:Nat):Int)=at0 zs j) w):=Hd (by rw[hR];exact⟨o,m,V,h.withOd (fun j hj=>by omega),rfl,rfl,ChgX.of_below (Below.refl _ _) o NoB,.inl (Nat.le_refl _)⟩);have gz:Hid (∀ P W W',R P W->Below W.heap.size W W'->R P W'):=Hd (by rw[hR];intro P W W' h1 h2;exact h1.below h2);have gj:Hid (∀ P P' W,R P W->(∀ l,l.length=n->P l->P' l)->R P' W):=Hd (by rw[hR];intro P P' W h1 h2;exact h1.imp h2);rw[<- hR] at HZ gd gi ⊢;clear h hz hno hp hr hn hR
 go_enter func72,ntmps72
 go_wp2_with fail
 go_loopw [5,6,7] (fun s5 s6 s7 wr=>∃ i:Nat,i<=zs.length/\s5=.int .i64 i/\Hid (R (fun l=>∀ j,j<i->((l.getD j 0:Nat):Int)=at0 zs j) wr)) (fun s5 _ _ _=>zs.length-(intOf s5).toNat)
 case atStart=>exact⟨0,Nat.zero_le _,rfl,gC⟩
 case round =>
  obtain⟨i,hi,rfl,HR⟩:=hrel
  by_cases gv:i<zs.length
  .
   have gw:(i:Int)<zs.length:=by omega
   have g3:Zzt zs n:=by
    rcases HP.out with e|e
    . omega
    . exact e
   have gp:zs.length=n:=g3.len;obtain⟨zi,gq,ezi⟩:=g3.lt i (by omega);have gm:=Hd (gd.out wr _ HR.out);have go:=Hd g3.inj;clear g3;go_wp2_with fail;refine gm.out.mono ?_;rintro x w3 ⟨av,cv,l,rfl,gg,gh,g8,ga,gb,gy,g6⟩;obtain⟨p,gf,g7⟩:=ga zi gq;have gx:i<=p:=by
    rcases Nat.lt_or_ge p i with h|h
    . exfalso;have e1:=g8 p h;rw[g7,<- ezi] at e1;have:=go.out i p (by omega) gf e1;omega
    . exact h
   have gn:=Hd gh;have gD:=Hd g8;have g5:=Hd g7;have gE:=Hd gb;have gl:=Hd g6;have gM:((n:Int) != (zs.length:Int))=false:=by rw[gp];simp
   obtain⟨bz,oz,ea,cz⟩:=(HZ.out w3 _ g6).cells i gv;subst ea;rw[ezi] at cz;have EZI:=Hd ezi;clear gh g8 g7 gb g6 ga gm gy ezi;go_wp2_with fail
   go_loopw [7] (fun s7 wr=>∃ q:Nat,i<=q/\q<=p/\s7=.int .i64 q/\Hid (Below w3.heap.size w3 wr)) (fun s7 _=>p-(intOf s7).toNat)
   case atStart=>exact⟨i,Nat.le_refl _,gx,rfl,Hd (Below.refl _ _)⟩
   case round =>
    rename World=>wq
    obtain⟨q,gu,gL,rfl,g0⟩:=hrel;have gJ:(q:Int)<(n:Int):=by omega
    have g4:q<n:=by omega
    obtain⟨bv,ov,rfl,cq⟩:=(gn.out.below g0.out).cells q (by rw[List.length_map,gg];exact g4);have cz':=(g0.out.cell (p:=⟨bz,oz+i,none⟩) (Zaa cz)).trans cz;rw[Zzz (by rw[gg];exact g4)] at cq;obtain⟨y,hy⟩:∃ y,y=l.getD q 0:=⟨_,rfl⟩;rw[<- hy] at cq;have HY:=Hd hy;clear hy;go_upto_region 8 with fail;refine Zap (fun W:World=>W.cell? ⟨bv,ov+q,none⟩=some (.int .i64 (y:Nat))/\W.cell? ⟨bz,oz+i,none⟩=some (.int .i64 (zi:Nat))/\Hid (Below w3.heap.size w3 W)) false 15
     [(0,false),(1,false),(2,false),(3,false),(4,false),(5,false),(6,false),(7,false),(8,false),(9,false),(10,false),(11,false),(12,false),(13,false),(14,false)] (by kernel_rfl) (by kernel_rfl) ⟨cq,cz',Hd (g0.out.trans ((Zaf wq 1).mono g0.out.size))⟩ ?_
    simp only[planned,Zc8]
    iterate 5
     refine Zaq rfl ?_;apply Exists.intro;refine⟨fun w' hw=>?_,?_⟩
     . obtain⟨h1,h2,_⟩:=hw;go_simp;rfl
     simp only[Zah]
    iterate 9
     refine Zit true (by go_simp) ?_;apply Exists.intro;refine⟨fun gN w' hw=>?_,?_⟩
     . obtain⟨h1,h2,_⟩:=hw;go_simp;rfl
     simp only[Zah]
    iterate 1
     refine Zaq rfl ?_;apply Exists.intro;refine⟨fun w' hw=>?_,?_⟩
     . obtain⟨h1,h2,_⟩:=hw;go_simp;rfl
     simp only[Zah]
    refine Zeg ?_
    by_cases gI:q<p
    .
     have g9:((y:Int) != (zi:Int))=true:=by
      simp only[bne_iff_ne,ne_eq];intro e;have e2:l.getD q 0=l.getD p 0:=by rw[g5.out,<- HY.out];omega
      have:=gE.out q p g4 gf e2;omega
     go_wp2_with fail;go_roundw
     case rel=>exact⟨q+1,by omega,by omega,by go_num,Hd (g0.out.trans ((Zaf wq 1).mono g0.out.size))⟩
     case measure=>simp[intOf];omega
    .
     obtain rfl:q=p:=by omega
     have g9:((y:Int) != (zi:Int))=false:=by
      have:y=zi:=by rw[HY.out,g5.out]
      rw[this];simp
     have gK:((q:Int) == (n:Int))=false:=by simp;omega
     have gk:Hid (R (fun l'=>(∀ j,j<i->((l'.getD j 0:Nat):Int)=at0 zs j)/\l'.getD q 0=zi) wq.drew):=Hd (by
      have h1:=gz.out _ _ _ gl.out (g0.out.trans ((Zaf wq 1).mono g0.out.size));exact gj.out _ _ _ h1 fun l' _ e=>by subst e;exact⟨gD.out,g5.out⟩)
     rw[g9];clear gl g0 gn cq cz cz' g9;go_wp2_with fail
     go_loopw [4,7] (fun s4 s7 wr=>∃ q:Nat,i<=q/\q<n/\s7=.int .i64 q/\Hid (R (fun l'=>(∀ j,j<i->((l'.getD j 0:Nat):Int)=at0 zs j)/\l'.getD q 0=zi) wr)) (fun _ s7 _=>(intOf s7).toNat)
     case atStart=>exact⟨q,gu,g4,rfl,gk⟩
     case round =>
      clear gk HY g5
      rename World=>wt
      obtain⟨t,gH,gt,rfl,gc⟩:=hrel
      by_cases gG:i<t
      .
       obtain⟨t',rfl⟩:∃ t',t=t'+1:=⟨t-1,by omega⟩;have gs:((t'+1:Nat):Int)>i:=by omega
       have HS:=Hd (gi.out wt _ gc.out t' gt (fun l'=>(∀ j,j<i->((l'.getD j 0:Nat):Int)=at0 zs j)/\l'.getD t' 0=zi) (fun l' hl ⟨g1,g2⟩=>⟨fun j hj=>by rw[Ybn (by omega) (by omega)];exact g1 j hj,by rw[Zxf (by omega)];exact g2⟩));have gF:((t'+1:Nat):Int)-1=(t':Nat):=by omega
       go_upto_region 14 with fail;go_wp2_with fail;refine HS.out.mono ?_;rintro x w5 ⟨rfl,ge⟩;have gB:=Hd ge;clear ge HS gc;go_wp2_with fail;go_roundw
       case rel=>exact⟨t',by omega,by omega,by go_num,gB⟩
       case measure=>simp[intOf]
      .
       obtain rfl:t=i:=by omega
       have gA:Hid (R (fun l=>∀ j,j<t+1->((l.getD j 0:Nat):Int)=at0 zs j) wt):=Hd (by
        refine gj.out _ _ _ gc.out fun l' _ ⟨g1,g2⟩ j hj=>?_
        rcases Nat.lt_or_ge j t with h|h
        . exact g1 j h
        .
         obtain rfl:j=t:=by omega
         rw[g2,EZI.out])
       have gs:¬ (t:Int)>t:=by omega
       go_wp2_with fail;go_roundw
       case rel=>exact⟨t+1,by omega,by go_num,gA⟩
       case measure=>simp[intOf];omega
  .
   have he:i=zs.length:=by omega
   have gw:¬ (i:Int)<zs.length:=by omega
   go_wp2_with fail;go_ret;exact⟨rfl,by rw[<- he];exact HR.out⟩
end
open Go.RowKit
theorem Zs1 (i n:Nat)(hi:i<=1048576)(hn:n<=16)(w:World):Calls prog 132 #[.int .i64 i,.int .i64 n] w fun x w'=>∃ v,x=.returned v/\OwnB w' w.heap.size v (Zcq i n)/\Below w.heap.size w w':=by
 go_enter func132,ntmps132
 go_wp2_with fail
 go_loopw [0,5,6] (fun s0 s5 s6 wr=>∃ j q:Nat,j<=n/\q<=1048576/\s6=.int .i64 j/\s0=.int .i64 q/\Hid (i/2^j=q)/\OwnB wr w.heap.size s5 (Zcq i j)/\w.heap.size<=wr.heap.size/\Below w.heap.size w wr) (fun _ _ s6 _=>n-(intOf s6).toNat)
 case atStart=>exact⟨0,i,Nat.zero_le _,hi,rfl,rfl,Hd (by simp),Zf0 _ w _ (Nat.le_refl _),by simp,Zad w _⟩
 case round =>
  obtain⟨j,q,hj,hq,rfl,rfl,HQ,g0,g5,g1⟩:=hrel
  by_cases g7:j<n
  .
   have HB:Hid (((q:Int).tmod 2 == 1)=bitB i j):=by
    refine Hd ?_;rw[tmod2];unfold bitB;rw[HQ.out]
   have g2:=Hd g0;have g3:=Hd g1;clear g0 g1;go_wp2_with (at_builtin;refine Zb6 Zen _ rfl _ _ rfl w.heap.size _ (Zbq (Zcq i j)) _ rfl rfl rfl rfl rfl (by exact g2.out) (by simp[Zbq,Ze5];omega) g5 ?_;intro v1 w1 g4 e1 e2 e3 e4 g6);go_roundw
   case rel =>
    refine⟨j+1,q/2,by omega,by omega,by go_num,by go_num,Hd ?_,?_,by omega,Zhz g3.out g2.out e1 e2 e3 e4 g6 g5⟩
    . rw[Nat.pow_succ,<- Nat.div_div_eq_div_mul,HQ.out]
    . rw[Zlt];unfold OwnB;rw[Zhj,<- HB.out];exact g4
   case measure=>simp[intOf];omega
  .
   have he:j=n:=by omega
   subst he;have g2:=Hd g0;have g3:=Hd g1;clear g0 g1;go_wp2_with fail;go_ret;exact⟨_,rfl,g2.out,g3.out⟩
theorem Zyi {T ST:TypeId}{z:Value}{b:Nat}(E:Zse T ST z b)(ty:TypeId)(wr:World)(base:Nat)(v:Value)(xs:List Value)(y:Value)(hy:y.oneCell'=true)(hown:OwnC T wr base v xs)(hlen:xs.length<1099511627776)(hbase:base<=wr.heap.size) :
 ∃ v' w',(Builtin.append_ #[ST,ST] ty #[v,.slice (some ⟨wr.heap.size,0,none⟩) 1 1]).run prog (wr.alloc (.cells #[y] T))=.ok v' w' /\
  OwnC T w' base v' (xs++[y])/\w'.os=wr.os/\w'.tape=wr.tape/\w'.output=wr.output/\wr.heap.size<=w'.heap.size/\Zcp v v' wr w':=by
 obtain⟨i,hi,hz,g1,g3⟩:=info_parts E.info;have g2:=E.small;obtain⟨v',w',hr,h1,h2,_,g0⟩:=run_append_own_at (P:=prog) (wr.alloc (.cells #[y] T)) base ST ty T i z 1 b E.under hi hz g1 g3 (by rw[E.one];rfl) (by decide)
  v xs.length xs (hown.alloc _) ⟨wr.heap.size,0,none⟩ 1 1 [y] rfl (cell_one_new _ _ _) (by intro u hu;simp at hu;subst hu;exact hy) (by unfold maxLen;omega) (by
   have h1:(xs.length+1)*b<=1099511627776*100:=Nat.mul_le_mul (by omega) g2;omega) (by simp;omega)
 refine⟨v',w',hr,?_,h2.os,h2.tape,h2.output,?_,⟨Zef h2,g0.imp id fun e=>⟨_,e,by simp⟩⟩⟩
 . unfold OwnC;rw[List.length_append];exact h1
 . have:=h2.size;simp at this;omega
theorem OwnC.lower {T:TypeId}{w:World}{base b:Nat}{v:Value}{xs:List Value}(h:OwnC T w base v xs)(hb:b<=base):OwnC T w b v xs:=by
 refine⟨h.1,?_⟩;rcases h.2 with hn|⟨g,cap,cur,rfl,g0,rest⟩
 . exact .inl hn
 . exact .inr ⟨g,cap,cur,rfl,by omega,rest⟩
theorem Zlj (e:ExT)(x:Value)(n:Nat)(hn:n<=12)(w:World)(hs:e.size<=4096)(hok:okT e 1)(h:Zbe w e x) :
 Calls prog 73 #[x,.int .i64 n] w fun y w'=>∃ v,y=.returned v/\OwnB w' w.heap.size v (tabB n (fnT e))/\Below w.heap.size w w':=by
 have gt:Hid (∀ W,Below w.heap.size w W->∀ u,u=x->Calls prog 69 #[u] W fun y w'=>y=.returned (.int .i64 0)/\Below W.heap.size W w'):=Hd fun W hb u hu=>by
  subst hu
  exact(Zhk e _ W hs (h.below hb)).mono (by
   rintro y w' ⟨err,rfl,h1,h2⟩;rw[h1.2 hok];exact⟨rfl,h2⟩)
 have gx:Hid (∀ W,Below w.heap.size w W->∀ u,u=x->∀ (ls:List Bool) al cl,Zbz W al ls->Calls prog 131 #[u,.slice al ls.length cl] W fun y w'=>y=.returned (.bool (fnT e (Zcc ls)))/\Below W.heap.size W w'):=Hd fun W hb u hu ls al cl hl=>by
  subst hu;exact Zk8 ls al cl e _ W hok.valid (h.below hb) hl
 have gi:Hid (∀ j,j<=1048576->∀ W,Calls prog 132 #[.int .i64 (j:Nat),.int .i64 n] W fun x w'=>∃ v,x=.returned v/\OwnB w' W.heap.size v (Zcq j n)/\Below W.heap.size W w'):=Hd fun j hj W=>Zs1 j n hj (by omega) W
 have HS:Hid (∀ k,k<=n->2^k<=4096):=Hd fun k hk=>Nat.le_trans (Nat.pow_le_pow_right (by omega) (show k<=12 by omega)) (by decide)
 obtain⟨x0,x1,x2,hx,o0,o1,o2⟩:=h.agg;subst hx;obtain⟨w1,g5⟩:∃ w1,w1=w.alloc (.cells #[x0,x1,x2] 81):=⟨_,rfl⟩;have HW1:Hid (_=w1):=Hd g5.symm;have g7:Hid (Below w.heap.size w w1):=by rw[g5];exact Hd (Zad _ _)
 have g4:w1.heap[w.heap.size]?=some (.cells #[x0,x1,x2] 81 (0,0)):=by rw[g5];exact heap_alloc_new _ _
 have hs1:w1.heap.size=w.heap.size+1:=by rw[g5];simp
 have d0:w1.cell? ⟨w.heap.size,0,none⟩=some x0:=by rw[cell_of_row _ _ 0 _ _ _ g4];rfl
 have d1:w1.cell? ⟨w.heap.size,1,none⟩=some x1:=by rw[cell_of_row _ _ 1 _ _ _ g4];rfl
 have d2:w1.cell? ⟨w.heap.size,2,none⟩=some x2:=by rw[cell_of_row _ _ 2 _ _ _ g4];rfl
 obtain⟨L,hL⟩:∃ L,L=2^n:=⟨_,rfl⟩;have gC:=Hd hL;obtain⟨G,hG⟩:∃ G:Nat->Bool,G=fun i=>fnT e (Zcc (Zcq i n)):=⟨_,rfl⟩
 have HG:Hid (∀ i,fnT e (Zcc (Zcq i n))=G i):=Hd fun i=>by rw[hG]
 have HT:Hid (tabB n (fnT e)=(List.range L).map G):=Hd (by rw[hL,hG];rfl);have gI:L<=4096:=by rw[hL];exact HS.out n (Nat.le_refl _)
 rw[HT.out];clear h g5 g4 hG hL
 go_enter func73,ntmps73
 go_upto_region 1 with fail;rw[HW1.out];have gH:¬ (n:Int)<0:=by omega
 have gF:¬ (n:Int)>12:=by omega
 go_wp2_with fail;refine(gt.out _ g7.out _ rfl).mono ?_;rintro y w2 ⟨rfl,gq⟩;have HB2:=Hd gq;clear gq gt;go_wp2_with fail
 go_loopw [5,6] (fun s5 s6 wr=>∃ k p:Nat,k<=n/\s5=.int .i64 p/\s6=.int .i64 k/\Hid (wr=w2)/\Hid (2^k=p)) (fun _ s6 _=>n-(intOf s6).toNat)
 case atStart=>exact⟨0,1,Nat.zero_le _,rfl,rfl,Hd rfl,Hd rfl⟩
 case round =>
  obtain⟨k,p,hk,rfl,rfl,gf,HP⟩:=hrel;have gG:p<=4096:=by rw[<- HP.out];exact HS.out k hk
  by_cases gl:k<n
  .
   go_wp2_with fail;go_roundw
   case rel=>exact⟨k+1,2*p,by omega,by go_num,by go_num,gf,Hd (by rw[Nat.pow_succ,HP.out];omega)⟩
   case measure=>simp[intOf];omega
  .
   obtain rfl:k=n:=by omega
   obtain rfl:p=L:=by rw[<- HP.out,gC.out]
   have gz:=gf.out;subst gz;obtain⟨w3,g8⟩:∃ w3,w3=wr.alloc (.cells #[] 4):=⟨_,rfl⟩;have gr:Hid (_=w3):=Hd g8.symm;have ge:Below w1.heap.size w1 w3:=by rw[g8];exact HB2.out.trans ((Zad _ _).mono HB2.out.size)
   have gg:Hid (OwnB w3 w1.heap.size (.slice (some ⟨wr.heap.size,0,none⟩) 0 0) []):=by rw[g8];exact Hd (Zf0 _ _ _ HB2.out.size)
   have gv:=Hd ge;have gj:w1.heap.size<=w3.heap.size:=ge.size;clear g8 ge gl;go_upto_region 9 with fail;rw[gr.out];go_wp2_with fail
   go_loopw [7,8] (fun s7 s8 wr=>∃ j:Nat,j<=p/\s8=.int .i64 j/\Hid (OwnB wr w1.heap.size s7 ((List.range j).map G))/\Hid (Below w1.heap.size w1 wr)/\w1.heap.size<=wr.heap.size) (fun _ s8 _=>p-(intOf s8).toNat)
   case atStart=>exact⟨0,Nat.zero_le _,rfl,gg,gv,gj⟩
   case round =>
    clear gg gv gj gr gf HB2
    rename World=>wq
    obtain⟨j,hj,rfl,gs,g3,gA⟩:=hrel
    by_cases gl:j<p
    .
     have e0:=(g3.out.cell (p:=⟨w.heap.size,0,none⟩) (Zaa d0)).trans d0;have e1:=(g3.out.cell (p:=⟨w.heap.size,1,none⟩) (Zaa d1)).trans d1;have e2:=(g3.out.cell (p:=⟨w.heap.size,2,none⟩) (Zaa d2)).trans d2;have HL:=Hd (gi.out j (by omega) wq.drew);go_upto_region 12 with fail;refine Zap (fun W:World=>W.cell? ⟨w.heap.size,0,none⟩=some x0/\W.cell? ⟨w.heap.size,1,none⟩=some x1/\W.cell? ⟨w.heap.size,2,none⟩=some x2) false 9
      [(0,false),(1,false),(2,false),(3,false),(4,true),(5,true),(6,true),(7,true),(8,false)] (by kernel_rfl) (by kernel_rfl) ⟨e0,e1,e2⟩ ?_
     simp only[planned,Zc8]
     iterate 4
      refine Zaq rfl ?_;apply Exists.intro;refine⟨fun w' hw=>?_,?_⟩
      . obtain⟨h1,h2,h3⟩:=hw;go_simp;rfl
      simp only[Zah]
     refine Zb5 (R:=fun v w'=>Zbw w' v (Zcq j k)/\Below wq.heap.size wq w') rfl (by go_simp) (HL.out.mono (fun e w' he=>?_)) ?_
     . obtain⟨v,rfl,q1,q2⟩:=he;have q3:Below wq.heap.size wq w':=(Zaf wq 1).trans (q2.mono (Zaf wq 1).size);exact⟨v,rfl,⟨(q3.cell (p:=⟨w.heap.size,0,none⟩) (Zaa e0)).trans e0,(q3.cell (p:=⟨w.heap.size,1,none⟩) (Zaa e1)).trans e1,(q3.cell (p:=⟨w.heap.size,2,none⟩) (Zaa e2)).trans e2⟩,q1.boolsIs (by rw[Ze5];omega),q3⟩
     rintro v w4 ⟨f0,f1,f2⟩ ⟨⟨av,cv,rfl,gn,-⟩,gp⟩;have gu:=Hd gn;have gc:=Hd gp;clear gn gp e0 e1 e2 HL;simp only[Zah];refine Zb5 (R:=fun v w'=>v=.bool (G j)/\Below w4.heap.size w4 w') rfl (by go_simp) ((gx.out w4 (g7.out.trans ((g3.out.trans (gc.out.mono g3.out.size)).mono g7.out.size)) _ rfl (Zcq j k) av cv gu.out).mono (fun e w' he=>?_)) ?_
     . obtain⟨rfl,q3⟩:=he;exact⟨_,rfl,⟨(q3.cell (p:=⟨w.heap.size,0,none⟩) (Zaa f0)).trans f0,(q3.cell (p:=⟨w.heap.size,1,none⟩) (Zaa f1)).trans f1,(q3.cell (p:=⟨w.heap.size,2,none⟩) (Zaa f2)).trans f2⟩,by rw[HG.out],q3⟩
     rintro v w5 ⟨g0,g1,g2⟩ ⟨rfl,go⟩;obtain⟨y,hy⟩:∃ y,y=G j:=⟨_,rfl⟩;rw[<- hy];have gB:Hid (Zbq ((List.range (j+1)).map G)=Zbq ((List.range j).map G)++[.bool y]):=Hd (by rw[Zl9,Zhj,hy]);have ga:=gc.out.trans (go.mono gc.out.size);have gE:=Hd (g3.out.trans (ga.mono g3.out.size));have gh:=Hd (gs.out.below ga);have gd:w1.heap.size<=w5.heap.size:=Nat.le_trans gA ga.size;clear go ga f0 f1 f2 hy gu gc;simp only[Zah];have gb:=Zad w5 (.cells #[.bool y] 4);refine Zib (v:=.slice (some ⟨w5.heap.size,0,none⟩) 1 1) (w':=w5.alloc (.cells #[.bool y] 4)) rfl (by go_simp) ⟨(gb.cell (p:=⟨w.heap.size,0,none⟩) (Zaa g0)).trans g0,(gb.cell (p:=⟨w.heap.size,1,none⟩) (Zaa g1)).trans g1,(gb.cell (p:=⟨w.heap.size,2,none⟩) (Zaa g2)).trans g2⟩ ?_;simp only[Zah];obtain⟨v6,w6,gk,g9,q1,q2,q3,q4,gm⟩:=Zyi Zen 55 w5 w1.heap.size _ (Zbq ((List.range j).map G)) (.bool y) rfl gh.out (by simp[Zbq];omega) gd;have g6:=Zhz gE.out gh.out q1 q2 q3 q4 gm gd;refine Zib (v:=v6) (w':=w6) rfl (Zkg rfl rfl rfl gk) ⟨(g6.cell (p:=⟨w.heap.size,0,none⟩) (Zaa d0)).trans d0,(g6.cell (p:=⟨w.heap.size,1,none⟩) (Zaa d1)).trans d1,(g6.cell (p:=⟨w.heap.size,2,none⟩) (Zaa d2)).trans d2⟩ ?_;simp only[Zah]
     iterate 1
      refine Zaq rfl ?_;apply Exists.intro;refine⟨fun w' hw=>?_,?_⟩
      . obtain⟨h1,h2,h3⟩:=hw;go_simp;rfl
      simp only[Zah]
     refine Zeg ?_;have gD:=Hd g6;have gy:=Hd g9;have gw:w1.heap.size<=w6.heap.size:=by omega
     clear g6 g9 q1 q2 q3 q4 gm gk g0 g1 g2 gb;go_wp2_with fail;go_roundw
     case rel=>exact⟨j+1,by omega,by go_num,Hd (by unfold OwnB;rw[gB.out];exact gy.out),gD,gw⟩
     case measure=>simp[intOf];omega
    .
     obtain rfl:j=p:=by omega
     have HF:Hid (∃ v,Ending.returned u7=.returned v/\OwnB wq w.heap.size v ((List.range j).map G)/\Below w.heap.size w wq):=Hd ⟨u7,rfl,gs.out.lower (by omega),g7.out.trans (g3.out.mono g7.out.size)⟩;go_wp2_with fail;go_ret;exact HF.out
open Go.RowKit
section
variable {P:Program}(w:World)
theorem Zjn (t ty e:TypeId)(i:TypeInfo)(ht:P.underlying t=some (.slice e))(hi:P.info? e=some i)
 (g off sLen sCap:Nat) (cur:Array Value) (hg:w.heap[g]?=some (.cells cur e (0,0)))
 (a:Addr) (m c:Nat) (news:List Value) (hl:news.length=m*i.size) (hnews:∀ j u,news[j]?=some u->w.cell? (a.add j)=some u) (h1:∀ u∈news,u.oneCell'=true)
 (hroom:sLen+m<=sCap) (hfit:off+sLen*i.size+news.length<=cur.size) :
 (Builtin.append_ #[t,t] ty #[.slice (some ⟨g,off,none⟩) sLen sCap,.slice (some a) m c]).run P w =
  .ok (.slice (some ⟨g,off,none⟩) (sLen+m) sCap) (w.setRow g (cur.toList.take (off+sLen*i.size)++news++cur.toList.drop (off+sLen*i.size+news.length)).toArray):=by
 have hf:=run_firstCells_some (P:=P) w i.size m a m c news hl hnews;have g0:=run_storeCells_at P g (off+sLen*i.size) e news 0 cur w hg (by simpa using hfit) h1;simp only[Nat.add_zero] at g0;have g1:(⟨g,off,none⟩:Addr).add (sLen*i.size)=⟨g,off+sLen*i.size,none⟩:=by unfold Addr.add;split<;>simp_all
 simp[Builtin.append_,run_underlying ht,sizeOf,typeInfo,hi,Builtin.lenOf,hroom,hf,g1,g0]
end
theorem Ybq:(prog.info? 120).map (fun i=>(i.zero,i.size,i.bytes))=some (some (.agg #[.int .i64 0,.int .i64 0,.int .i64 0]),3,24):=by kernel_rfl
theorem Yad (l:List Ev):∀ (j:Nat) (u:Value),(l.flatMap evL)[j]?=some u->∃ hk:j/3<l.length,(evL (l[j/3]))[j%3]?=some u:=by
 induction l with
 | nil=>intro j u h;simp at h
 | cons e l ih =>
   intro j u h;rw[List.flatMap_cons] at h
   by_cases hj:j<3
   .
    rw[List.getElem?_append_left (by show j<3;exact hj)] at h;have e0:j/3=0:=by omega
    refine⟨by rw[e0];simp,?_⟩;have e1:j%3=j:=by omega
    simp only[e0,e1,List.getElem_cons_zero];exact h
   .
    rw[List.getElem?_append_right (by show 3<=j;omega)] at h;obtain⟨hk,h2⟩:=ih (j-3) u h;have e0:j/3=(j-3)/3+1:=by omega
    have e1:j%3=(j-3)%3:=by omega
    refine⟨by rw[e0,List.length_cons];omega,?_⟩;simp only[e0,e1,List.getElem_cons_succ];exact h2
theorem EvsAt.news {w:World}{b off:Nat}{l:List Ev}(h:EvsAt w (some ⟨b,off,none⟩) l):∀ j u,(l.flatMap evL)[j]?=some u->w.cell? ((⟨b,off,none⟩:Addr).add j)=some u:=by
 intro j u hu;have g0:(⟨b,off,none⟩:Addr).add j=⟨b,off+j,none⟩:=by unfold Addr.add;split<;>simp_all
 obtain⟨hk,h2⟩:=Yad l j u hu;obtain⟨b',off',e,c0,c1,c2⟩:=h.cells (j/3) hk;cases e;rw[g0];have hm:j%3<3:=Nat.mod_lt _ (by decide);rcases(by omega:j%3=0\/j%3=1\/j%3=2) with e|e|e<;>rw[e] at h2
 .
  have e2:j=j/3*3:=by omega
  rw[e2,c0];exact h2
 .
  have e2:j=j/3*3+1:=by omega
  rw[e2,<- Nat.add_assoc,c1];exact h2
 .
  have e2:j=j/3*3+2:=by omega
  rw[e2,<- Nat.add_assoc,c2];exact h2
theorem Yae (l:List Ev):∀ u∈l.flatMap evL,u.oneCell'=true:=by
 intro u hu;obtain⟨e,_,h⟩:=List.mem_flatMap.1 hu;simp only[evL,List.mem_cons,List.not_mem_nil,or_false] at h;rcases h with rfl|rfl|rfl<;>rfl
theorem Zji {o:Own}{w:World}{v:Value}{ws l:List Ev}{a:Option Addr}{c:Nat}(h:Zb1 o w v ws)(hlt:Zaj o w)(hev:EvsAt w a l)(hsm:ws.length+l.length<=1000)(ty:TypeId) :
 ∃ v' w' o',(Builtin.append_ #[37,37] ty #[v,.slice a l.length c]).run prog w=.ok v' w'/\Zb1 o' w' v' (ws++l)/\Chg (· = .waits) o o' w w'/\Zaj o' w':=by
 obtain⟨i,hi,hz,g3,gb⟩:=info_parts Ybq;have ht:=underlying37
 by_cases h0:l=[]
 .
  subst h0;refine⟨v,w,o,?_,by rw[List.append_nil];exact h,Chg.refl _ _ _,hlt⟩;rcases h.ex with ⟨rfl,rfl⟩|⟨g,off,cap,cur,rfl,_,_,hn,_⟩
  . cases a<;>simp[Builtin.append_,run_underlying ht,sizeOf,typeInfo,hi,Builtin.lenOf,Builtin.firstCells,loadCells,loadCellsFrom]
  . cases a<;>simp[Builtin.append_,run_underlying ht,sizeOf,typeInfo,hi,Builtin.lenOf,hn,Builtin.firstCells,storeCells,loadCells,loadCellsFrom]
 .
  have ga:0<l.length:=List.length_pos_iff.2 h0;obtain⟨b,off,rfl,_⟩:=hev.cells 0 ga;have g0:=hev.news;have gc:=Yae l;have g5:(l.flatMap evL).length=l.length*i.size:=by rw[g3];exact Zc3 l
  have g9:(ws.flatMap evL++l.flatMap evL).length=(ws++l).length*3:=by rw[List.length_append,Zc3,Zc3,List.length_append];omega
  have mk:∀ (old:Nat),Zb1 (Zcu o w.heap.size .waits) (w.drew.alloc (.cells ((ws.flatMap evL).toArray++(l.flatMap evL).toArray++Builtin.zeroCells (Value.agg #[.int .i64 0,.int .i64 0,.int .i64 0]).cells (grownCap w (ws.length+l.length) old 120-(ws.length+l.length))) 120)) (.slice (some ⟨w.heap.size,0,none⟩) (ws.length+l.length) (grownCap w (ws.length+l.length) old 120)) (ws++l) /\
   Chg (· = .waits) o (Zcu o w.heap.size .waits) w (w.drew.alloc (.cells ((ws.flatMap evL).toArray++(l.flatMap evL).toArray++Builtin.zeroCells (Value.agg #[.int .i64 0,.int .i64 0,.int .i64 0]).cells (grownCap w (ws.length+l.length) old 120-(ws.length+l.length))) 120)) /\
   Zaj (Zcu o w.heap.size .waits) (w.drew.alloc (.cells ((ws.flatMap evL).toArray++(l.flatMap evL).toArray++Builtin.zeroCells (Value.agg #[.int .i64 0,.int .i64 0,.int .i64 0]).cells (grownCap w (ws.length+l.length) old 120-(ws.length+l.length))) 120)):=by
   intro old;have gh:=grownCap_ge w (ws.length+l.length) old 120;have g6:grownCap w (ws.length+l.length) old 120<=maxLen:=grownCap_le_maxLen w _ old _ (by unfold maxLen;omega);refine⟨⟨.inr ⟨w.heap.size,0,_,_,by rw[List.length_append],Zbf _ _ _,heap_alloc_new w.drew _,by rw[List.length_append];exact gh,g6,?_,?_⟩⟩,((Chg.refl (· = .waits) o w).drewN 1).allocR (w':=w.drewN 1) hlt _ rfl,Zaj.allocR (w:=w.drewN 1) hlt _ .waits⟩
   . have e3:(Value.agg #[.int .i64 0,.int .i64 0,.int .i64 0]).cells.size=3:=rfl;simp only[Array.size_append,List.size_toArray,size_zeroCells,e3,Zc3,Nat.zero_add];omega
   . simp only[Array.toList_append,List.drop_zero,List.flatMap_append];rw[List.take_left' g9]
  rcases h.ex with ⟨rfl,rfl⟩|⟨g,off2,cap,cur,rfl,g8,hg,gg,g6,gi,g2⟩
  . have hr:=run_append_nil (P:=prog) w 37 ty 120 i _ ht hi hz ⟨b,off,none⟩ l.length c (l.flatMap evL) g5 g0 ga (by simp at hsm;omega) (by rw[gb];simp at hsm;omega);have hm:=mk 0;simp only[List.length_nil,Nat.zero_add,List.flatMap_nil,List.nil_append,Array.empty_append] at hm ⊢;exact⟨_,_,_,hr,hm⟩
  .
   by_cases g4:ws.length+l.length<=cap
   .
    have g1:off2+ws.length*i.size+(l.flatMap evL).length<=cur.size:=by rw[g5,g3];omega
    have hr:=Zjn (P:=prog) w 37 ty 120 i ht hi g off2 ws.length cap cur hg ⟨b,off,none⟩ l.length c (l.flatMap evL) g5 g0 gc g4 g1;refine⟨_,_,o,hr,⟨.inr ⟨g,off2,cap,_,by rw[List.length_append],g8,setRow_heap w g cur _ _ _ hg,by rw[List.length_append];exact g4,g6,?_,?_⟩⟩,⟨rfl,rfl,rfl,by simp,fun k _ hk=>setRow_other w g k _ (by rintro rfl;exact hk _ g8 rfl),fun _ _ h=>h,fun _ h=>(h rfl).elim⟩,fun k q hq=>by have:=hlt k q hq;simpa using this⟩
    . simp only[List.size_toArray,List.length_append,List.length_take,List.length_drop,Array.length_toList];omega
    .
     rw[g3] at g1 ⊢;have e1:(cur.toList.take (off2+ws.length*3)).drop off2=ws.flatMap evL:=by
      rw[<- g2,List.drop_take,Nat.add_sub_cancel_left]
     have e2:off2<=(cur.toList.take (off2+ws.length*3)).length:=by
      have hq:ws.length*3<=cap*3:=Nat.mul_le_mul_right _ gg;have gf:off2+ws.length*3<=cur.size:=by clear g1;omega
      have ge:cur.toList.length=cur.size:=Array.length_toList;rw[List.length_take,ge,Nat.min_eq_left gf];exact Nat.le_add_right _ _
     simp only[List.append_assoc];rw[List.drop_append_of_le_length e2,e1,<- List.append_assoc,List.flatMap_append,List.take_left' g9]
   .
    have g7:∀ j u,(ws.flatMap evL)[j]?=some u->w.cell? ((⟨g,off2,none⟩:Addr).add j)=some u:=by
     intro j u hu;have gd:(⟨g,off2,none⟩:Addr).add j=⟨g,off2+j,none⟩:=by unfold Addr.add;split<;>simp_all
     rw[gd,cell_of_row w g (off2+j) cur _ _ hg];rw[<- g2,List.getElem?_take] at hu;split at hu
     . rw[List.getElem?_drop] at hu;simpa using hu
     . cases hu
    have hr:=run_append_grow (P:=prog) w 37 ty 120 i _ ht hi hz ⟨g,off2,none⟩ ws.length cap (ws.flatMap evL) (by rw[g3];exact Zc3 ws) g7 ⟨b,off,none⟩ l.length c (l.flatMap evL) g5 g0 (by omega) (by omega) (growslice_fits (by omega) (by rw[gb];omega));exact⟨_,_,_,hr,mk cap⟩
open Go.RowKit
theorem Zb1.form {o:Own}{w:World}{v:Value}{ws:List Ev}(h:Zb1 o w v ws):∃ a c,v=.slice a ws.length c:=by
 rcases h.ex with ⟨rfl,rfl⟩|⟨g,off,cap,cur,rfl,_⟩
 . exact⟨_,_,rfl⟩
 . exact⟨_,_,rfl⟩
theorem Zla {P:Program}{ops:Array Oper}{rest:List Oper}{op:Oper}{a:Act}{Q:Exit->Act->World->Prop}{w w':World}{vs vx v':Value}(hgd:op.guard=none)(s x:Operand)(t:TypeId)
 (hop:op.op=.call { callee:=.builtin .append,args:=#[s,x],argTypes:=#[t,t] }) (hs:a.eval s=vs) (hx:a.eval x=vx) (hr:(Builtin.append_ #[t,t] op.type #[vs,vx]).run P w=.ok v' w')
 (hK:wpList P ops Q rest (a.put op.dst v') w'):wpList P ops Q (op::rest) a w:=by
 refine wpList_plain hgd fun K g0=>?_
 unfold Oper.wp execOp;simp only[hop,resolve,invoke,builtin,Sem.run_bind,Sem.run_pure,Result.andThen_ok,List.map_toArray,List.map_cons,List.map_nil,hs,hx,hr];exact g0 _ _ hK
theorem Zb7.setWaits {F:Phi}{o o':Own}{w w':World}{mb:Nat}{m:ManD}{s:ManW}(h:Zb7 F o w mb m s)(hlt:Zaj o w){v':Value}{l':List Ev}(hw:Zb1 o' w' v' l')(hc:Chg (· = .waits) o o' w w'):Zb7 F o' (w'.setCell ⟨mb,4,none⟩ v') mb { m with waits:=l' } { s with vw:=v' }:=by
 have key:∀ {g r},o g=some r->r ≠ .man->r ≠ .waits->(w'.setCell ⟨mb,4,none⟩ v').heap[g]?=w.heap[g]?:=by
  intro g r hg h1 h2;refine(Zai (p:=⟨mb,4,none⟩) (fun e=>?_) _).trans (hc.same hlt hg h2);have e':g=mb:=e;subst e';have:=h.own;rw[hg] at this;cases this;exact h1 rfl
 refine⟨hc.ext _ _ h.own,?_,h.store.keepR (fun g r hg hr=>key hg (by rintro rfl;simp[Zar,Zfd] at hr) (by rintro rfl;simp[Zar,Zfd] at hr)) hc.ext,h.memo.keep (fun g r hg hr=>key hg (by rintro rfl;rcases hr with e|e<;>cases e) (by rintro rfl;rcases hr with e|e<;>cases e)) hc.ext,hc.ext _ _ h.ownh,h.map.keepB (key h.ownh (by simp) (by simp)),hw.keep (fun g hg=>Zai (p:=⟨mb,4,none⟩) (fun e=>?_) _) (fun _ h=>h)⟩
 . exact Zae ((hc.same hlt h.own (by simp)).trans h.blk) _
 . have e':g=mb:=e;subst e';have:=hc.ext _ _ h.own;rw[hg] at this;cases this
section
variable {K:Law}{n:Nat}{Od:List Nat->Prop}{room:Nat}{w0 w w':World}{mb:Nat}{fs:List (Int×BF)}{nx:Int}{o o':Own}{m m':ManD}{V V':Nat->BF}
structure Planned (K:Law)(n:Nat)(Od:List Nat->Prop)(room:Nat)(w0:World)(mb:Nat)(fs:List (Int×BF))(nx:Int)(o:Own)(w:World)(m:ManD)(V:Nat->BF)(l:List Ev)(z:Int)(o':Own)(w':World)(m':ManD):Prop where
 sat:SatE K n Od room w0 mb fs nx w' o' m' V
 d:m'.d=m.d
 chg:Chg (fun _=>True) o o' w w'
 no:z≠0->m'.waits=m.waits/\m'.calls=m.calls
 yes:z=0->m'.waits=m.waits++l/\m'.calls=if m.waits=[] then 0 else m.calls
theorem Zqq (h:SatE K n Od room w0 mb fs nx w o m V){a:Option Addr}{c:Nat}{l:List Ev}(hev:EvsAt w a l)(hno:0<l.length->∀ x,a=some x->o x.block=none)(hwl:m.waits.length<=256) :
 Calls prog 74 #[.pointer (some ⟨mb,0,none⟩),.slice a l.length c] w fun e w'=>e=.returned (.int .i64 (Ze3 n m.waits.length l))/\∃ o' m',Planned K n Od room w0 mb fs nx o w m V l (Ze3 n m.waits.length l) o' w' m':=by
 obtain⟨Q,hQ⟩:∃ Q:Ending->World->Prop,Q=fun e w'=>e=.returned (.int .i64 (Ze3 n m.waits.length l))/\∃ o' m',Planned K n Od room w0 mb fs nx o w m V l (Ze3 n m.waits.length l) o' w' m':=⟨_,rfl⟩
 rw[<- hQ];have HQ:=Hd hQ;clear hQ;have gG:=hev.len;have hn64:n<=64:=by rw[<- h.vars];exact h.ok.store.small
 obtain⟨s,hs⟩:=h.is;obtain⟨c0,c1,c2,c3,c4,c5,f0⟩:=cells6 hs.blk;obtain⟨av,cv,gi⟩:=hs.waits.form
 have g1:Hid (∀ (z:Int) W,Below w.heap.size w W->Ze3 n m.waits.length l=z->z≠0->Q (.returned (.int .i64 z)) W):=Hd (by
  intro z W hb hz h0;rw[HQ.out,hz];exact⟨rfl,o,m,h.below hb,rfl,Chg.of_below hb _ _,fun _=>⟨rfl,rfl⟩,fun e=>(h0 e).elim⟩)
 have HV:Hid (∀ W,Below w.heap.size w W->Calls prog 58 #[.pointer (some ⟨mb,0,none⟩)] W fun e w'=>e=.returned (.int .i64 n)/\w'=W):=Hd (fun W hb=>(Zkp (h.below hb).is).mono fun e w' q=>⟨by rw[q.1,h.vars],q.2.symm⟩);have HI:=Hd hev;have HS:=Hd hs;have HH:=Hd h;have gD:=Hd hno;rw[gi] at c4;have gt:=Hd gi;have gB:=Hd hwl;clear h hs hev hno gi
 by_cases g9:(l.length:Int)>256-m.waits.length
 .
  have HF:=Hd (g1.out 18 w (Below.refl _ _) (by unfold Ze3;rw[if_pos g9]) (by decide))
  go_enter func74,ntmps74
  go_wp2_with fail;exact HF.out
 have HR:Hid (Ze3 n m.waits.length l=Zlg n (l.drop 0)):=Hd (by unfold Ze3;rw[if_neg g9];rfl);obtain⟨P,hP⟩:∃ P,P=Ze3 n m.waits.length l:=⟨_,rfl⟩;rw[<- hP] at HR g1;have gC:=Hd hP;clear hP;have HM:=Hd g9
 go_enter func74,ntmps74
 go_wp2_with fail
 go_loopw [20] (fun s20 wr=>∃ i:Nat,i<=l.length/\s20=.int .i64 i/\Hid (Below w.heap.size w wr)/\Hid (P=Zlg n (l.drop i))) (fun s20 _=>l.length-(intOf s20).toNat)
 case atStart=>exact⟨0,Nat.zero_le _,rfl,Hd (Below.refl _ _),HR⟩
 case round =>
  clear HR;obtain⟨i,hi,rfl,HB,HP⟩:=hrel
  by_cases gf:i<l.length
  .
   obtain⟨b,off,rfl,e0,e1,e2⟩:=(HI.out.below HB.out).cells i gf;have gz:(i:Int)<l.length:=by omega
   have HC:Hid (∀ z:Int,Zhb n l[i]=z->z≠0->P=z):=Hd fun z hz h0=>by rw[HP.out,Zg2 gf,hz,if_neg h0]
   have HN:Hid (Zhb n l[i]=0->P=Zlg n (l.drop (i+1))):=Hd fun hz=>by rw[HP.out,Zg2 gf,hz,if_pos rfl]
   have HE:Hid (Zhb n l[i]=if l[i].kind<1\/l[i].kind>3 then 11 else if l[i].after<1\/(l[i].kind=2/\(l[i].level<0\/l[i].level>(n:Int)-2)) then 2 else 0):=Hd rfl;obtain⟨ev,hev⟩:∃ ev,ev=l[i]:=⟨_,rfl⟩;rw[<- hev] at e0 e1 e2 HC HN HE;obtain⟨af,ki,le⟩:=ev;dsimp only at e0 e1 e2 HE;clear hev HP c0 c1 c2 c3 c4 c5 f0;obtain⟨W,hW⟩:∃ W,W=wr.alloc (.cells #[.int .i64 af,.int .i64 ki,.int .i64 le] 120):=⟨_,rfl⟩;have gg:Below w.heap.size w W:=HB.out.trans ((show Below wr.heap.size wr W by rw[hW];exact Zad wr _).mono HB.out.size);obtain⟨bx,gm⟩:∃ q,q=wr.heap.size:=⟨_,rfl⟩;have hx:W.heap[bx]?=some (.cells #[.int .i64 af,.int .i64 ki,.int .i64 le] 120 (0,0)):=by rw[hW,gm];exact heap_alloc_new wr _
   have b0:W.cell? ⟨bx,0,none⟩=some (.int .i64 af):=by rw[cell_of_row W _ 0 _ _ _ hx];rfl
   have b1:W.cell? ⟨bx,1,none⟩=some (.int .i64 ki):=by rw[cell_of_row W _ 1 _ _ _ hx];rfl
   have b2:W.cell? ⟨bx,2,none⟩=some (.int .i64 le):=by rw[cell_of_row W _ 2 _ _ _ hx];rfl
   have HW:=Hd hW;have gE:=Hd gm;have g0:=Hd gg;have g8:Hid (∀ q,Calls prog 58 #[.pointer (some ⟨mb,0,none⟩)] (W.drewN q) fun e w'=>e=.returned (.int .i64 n)/\w'=W.drewN q):=Hd (fun q=>HV.out _ (gg.trans ((Zaf W q).mono gg.size)));have gh:=Hd gf;clear hW gm gg hx;go_upto_region 8 with fail;rw[<- HW.out,<- gE.out];have gx:ki<1\/ki>3\/(ki=2)\/(ki=1\/ki=3):=by omega
   rcases gx with hk|hk|hk|hk
   . have HF:=Hd (g1.out 11 W g0.out (HC.out 11 (by rw[HE.out,if_pos (.inl hk)]) (by decide)) (by decide));go_wp2_with fail;exact HF.out
   .
    have HF:=Hd (g1.out 11 W g0.out (HC.out 11 (by rw[HE.out,if_pos (.inr hk)]) (by decide)) (by decide));have gy:¬ ki<1:=by omega
    go_wp2_with fail;exact HF.out
   .
    by_cases ha:af<1
    .
     have HF:Hid (∀ q,Q (.returned (.int .i64 2)) (W.drewN q)):=Hd (fun q=>g1.out 2 _ (g0.out.trans ((Zaf W q).mono g0.out.size)) (HC.out 2 (by rw[HE.out,if_neg (by omega),if_pos (.inl ha)]) (by decide)) (by decide));subst hk;go_upto_region 10 with fail
     go_quiet (with_reducible exact Calls.quiet_of_same (g8.out _))
     go_wp2_with fail;exact HF.out _
    .
     by_cases gw:le<0
     .
      have HF:Hid (∀ q,Q (.returned (.int .i64 2)) (W.drewN q)):=Hd (fun q=>g1.out 2 _ (g0.out.trans ((Zaf W q).mono g0.out.size)) (HC.out 2 (by rw[HE.out,if_neg (by omega),if_pos (.inr ⟨hk,.inl gw⟩)]) (by decide)) (by decide));subst hk;go_upto_region 10 with fail
      go_quiet (with_reducible exact Calls.quiet_of_same (g8.out _))
      go_wp2_with fail;exact HF.out _
     .
      by_cases gb:le>=(n:Int)-1
      .
       have HF:Hid (∀ q,Q (.returned (.int .i64 2)) (W.drewN q)):=Hd (fun q=>g1.out 2 _ (g0.out.trans ((Zaf W q).mono g0.out.size)) (HC.out 2 (by rw[HE.out,if_neg (by omega),if_pos (.inr ⟨hk,.inr (by omega)⟩)]) (by decide)) (by decide));subst hk;go_upto_region 10 with fail
       go_quiet (with_reducible exact Calls.quiet_of_same (g8.out _))
       go_wp2_with fail;exact HF.out _
      .
       have gc:=Hd (HN.out (by rw[HE.out,if_neg (by omega),if_neg (by omega)]));subst hk;go_upto_region 10 with fail
       go_quiet (with_reducible exact Calls.quiet_of_same (g8.out _))
       have go:=Hd (g0.out.trans ((Zaf W nq).mono g0.out.size));go_wp2_with fail;go_roundw
       case rel=>exact⟨i+1,Nat.succ_le_of_lt gh.out,by go_num,go,gc⟩
       case measure =>
        have:=gh.out;simp[intOf];omega
   .
    have gy:¬ ki<1:=by omega
    have gI:¬ ki>3:=by omega
    have gH:(ki == 2)=false:=by simp;omega
    by_cases ha:af<1
    .
     have HF:Hid (∀ q,Q (.returned (.int .i64 2)) (W.drewN q)):=Hd (fun q=>g1.out 2 _ (g0.out.trans ((Zaf W q).mono g0.out.size)) (HC.out 2 (by rw[HE.out,if_neg (by omega),if_pos (.inl ha)]) (by decide)) (by decide));clear hk;go_upto_region 10 with fail
     go_quiet (with_reducible exact Calls.quiet_of_same (g8.out _))
     go_wp2_with fail;exact HF.out _
    .
     have gc:=Hd (HN.out (by rw[HE.out,if_neg (by omega),if_neg (by omega)]));clear hk;go_upto_region 10 with fail
     go_quiet (with_reducible exact Calls.quiet_of_same (g8.out _))
     have go:=Hd (g0.out.trans ((Zaf W nq).mono g0.out.size));go_wp2_with fail;go_roundw
     case rel=>exact⟨i+1,Nat.succ_le_of_lt gh.out,by go_num,go,gc⟩
     case measure =>
      have:=gh.out;simp[intOf];omega
  .
   have he:i=l.length:=by omega
   have gz:¬ (i:Int)<l.length:=by omega
   have gc:Hid (P=0):=Hd (by rw[HP.out,he,List.drop_length];rfl);clear he;have hs':=HS.out.below HH.out.lt HB.out;have g3:=HH.out.lt.mono HB.out.size;have gp:m.waits.length+l.length<=1000:=by have:=HM.out;have:=gB.out;omega
   have gn:Hid (∀ (cl:Int) (W:World) (hm:Zb7 (K m.d V) o W mb { m with calls:=cl } s) (hl:Zaj o W) (hc:Chg (fun _=>True) o o w W) (v':Value) (W':World) (o':Own),cl=(if m.waits=[] then 0 else m.calls)->Zb1 o' W' v' (m.waits++l)->Chg (· = .waits) o o' W W'->Zaj o' W'->Q (.returned (.int .i64 0)) (W'.setCell ⟨mb,4,none⟩ v')):=Hd (by
    intro cl W hm hl hc v' W' o' gA hw gl gv;rw[HQ.out,<- gC.out,gc.out];have gu:=hm.setWaits hl hw gl;have gr:Chg (fun _=>True) o o' w (W'.setCell ⟨mb,4,none⟩ v'):=(hc.trans gl.any).setCell (p:=⟨mb,4,none⟩) (gl.ext _ _ hm.own) trivial _;exact⟨rfl,o',{ m with waits:=m.waits++l,calls:=cl },⟨⟨_,gu⟩,gv.mono (by simp[World.setCell]),⟨HH.out.ok.store,⟨HH.out.ok.handles.nodup,HH.out.ok.handles.zero,HH.out.ok.handles.one,HH.out.ok.handles.lt,HH.out.ok.handles.next,HH.out.ok.handles.ok,HH.out.ok.handles.len,HH.out.ok.handles.refs⟩⟩,HH.out.vars,HH.out.od,HH.out.room,HH.out.next,HH.out.hs,HH.out.chg.lower (ChgX.of_chg gr NoB) (fun _ e=>e.elim)⟩,rfl,gr,fun e=>(e rfl).elim,fun _=>⟨rfl,gA⟩⟩)
   have gd:=HI.out.below HB.out;clear c0 c1 c2 c3 c4 c5 f0;obtain⟨c0,c1,c2,c3,c4,c5,f0⟩:=cells6 hs'.blk
   by_cases hw0:m.waits=[]
   .
    have hz:m.waits.length=0:=by rw[hw0];rfl
    have HZ:=Hd hz;have g7:Zb7 (K m.d V) o (wr.setCell ⟨mb,5,none⟩ (.int .i64 0)) mb { m with calls:=0 } s:=hs'.field rfl rfl rfl rfl rfl (hs'.waits) rfl;have gs:Chg (fun _=>True) o o w (wr.setCell ⟨mb,5,none⟩ (.int .i64 0)):=(Chg.of_below HB.out _ _).setCell (p:=⟨mb,5,none⟩) hs'.own trivial _;have gb:Zaj o (wr.setCell ⟨mb,5,none⟩ (.int .i64 0)):=g3.mono (by simp[World.setCell])
    have gq:EvsAt (wr.setCell ⟨mb,5,none⟩ (.int .i64 0)) a l:=⟨gd.len,fun k hk=>by
     obtain⟨b,off,e,q0,q1,q2⟩:=gd.cells k hk;have gk:mb≠b:=by
      rintro rfl;have:=gD.out (by omega) _ e;have h2:=hs'.own;rw[h2] at this;cases this
     exact⟨b,off,e,Za3 q0 (.inl gk),Za3 q1 (.inl gk),Za3 q2 (.inl gk)⟩⟩
    obtain⟨v',w2,o2,g2,g4,g5,ga⟩:=Zji (c:=c) g7.waits gb gq gp 37;obtain⟨av2,cv2,gj⟩:=g4.form;subst gj;have HF:=Hd (gn.out 0 _ g7 gb gs _ w2 o2 (by rw[if_pos hw0]) g4 g5 ga);obtain⟨k0,k1,k2,k3,k4,k5,kf⟩:=cells6 g7.blk;have g6:=(g5.same gb g7.own (by simp)).trans g7.blk;obtain⟨j0,j1,j2,j3,j4,j5,jf⟩:=cells6 g6;rw[gt.out,hz] at c4 k4 g2;clear hs' g3 g7 gs gb gq g4 g5 ga gd hw0 g6 k0 k1 k2 k3 k5 kf;have ge:=Hd g2;clear g2;go_upto_region 15 with fail;go_wp2_with (refine Zla rfl _ _ _ rfl rfl rfl ge.out ?_);have hq:=HF.out;rw[List.length_append,HZ.out,Nat.zero_add] at hq;exact hq
   .
    have hz:0<m.waits.length:=List.length_pos_iff.2 hw0;have gF:((m.waits.length:Int) == 0)=false:=by rw[beq_eq_false_iff_ne];omega
    obtain⟨v',w2,o2,g2,g4,g5,ga⟩:=Zji (c:=c) hs'.waits g3 gd gp 37;obtain⟨av2,cv2,gj⟩:=g4.form;subst gj;have HF:=Hd (gn.out m.calls _ hs' g3 (Chg.of_below HB.out _ _) _ w2 o2 (by rw[if_neg hw0]) g4 g5 ga);have g6:=(g5.same g3 hs'.own (by simp)).trans hs'.blk;obtain⟨j0,j1,j2,j3,j4,j5,jf⟩:=cells6 g6;rw[gt.out] at c4 g2;clear hs' g3 g4 g5 ga gd hw0 g6 hz;have ge:=Hd g2;clear g2;go_upto_region 15 with fail;go_wp2_with (refine Zla rfl _ _ _ rfl rfl rfl ge.out ?_);have hq:=HF.out;rw[List.length_append] at hq;exact hq
end
open Go.RowKit
section
variable {K:Law}{n:Nat}{room:Nat}{w0:World}{mb:Nat}{fs hs:List (Int×BF)}{nx:Int}{W w w':World}{o o':Own}{m m':ManD}{V V':Nat->BF}{vl vx:Value}{ws0:List Ev}
theorem Zk6 {n:Nat}(h:n<=16):2^n<=1000000:=Nat.le_trans (Nat.pow_le_pow_right (by omega) h) (by decide)
abbrev SufW (ws0:List Ev):List Ev->Int->Prop:=fun ws _=>ws <:+ ws0
theorem Ybr (hK:Zbh K)(h:SatE K n (fun _=>True) room w0 mb fs nx w o m V)(hw:m.waits <:+ ws0)(hn:nx<=549755813888)(hr:(fs.length+1)*2^n<=room){kf kg kh:Int}{F G H:BF}(hf:(kf,F)∈fs)(hg:(kg,G)∈fs)(hh:(kh,H)∈fs) :
 Calls prog 83 #[.pointer (some ⟨mb,0,none⟩),.int .i64 kf,.int .i64 kg,.int .i64 kh] w fun x w''=>x=.returned (.tuple #[.int .i64 nx,.int .i64 0])/\Goes K n (fun _=>True) room w0 mb (fs++[(nx,Zcf F G H)]) (nx+1) (W2 (SufW ws0)) o w w'':=by
 refine(Zl1 hK h ws0 hw none (fun _ e=>by cases e) (fun _ e=>by cases e) (fun ev _=>Zir hn ev) (by omega) hf hg hh).mono ?_;rintro x w'' hp;obtain⟨o2,m2,V2,q1,q2,q3,q4⟩:=Zpg hp (Nat.sub_le _ _) hr;exact⟨q3,o2,m2,V2,q1,q2,q4⟩
end
open Go.RowKit
def Zce (n:Nat):Nat:=4*2^(2*n)+192*2^n
theorem Zsl (n:Nat)(hn:n<=8)(w:World):Calls prog 129 #[.int .i64 n,.int .i64 40] w fun x w'=>x=.returned (.int .i64 (Zce n))/\w=w':=by
 have HB:Hid (∀ (z:Int) (k:Nat),z=k->k<=16->Calls prog 169 #[.int .i64 z] w fun x w'=>x=.returned (.int .i64 (2^k:Nat))/\w=w'):=Hd fun z k e hk=>by subst e;exact Zqc k (by omega) w
 have hA:2^(2*n)<=65536:=Nat.le_trans (Nat.pow_le_pow_right (by omega) (show 2*n<=16 by omega)) (by decide);have hB:2^n<=65536:=Nat.le_trans (Nat.pow_le_pow_right (by omega) (show n<=16 by omega)) (by decide);have g0:=Hd (fun z e=>HB.out z (2*n) e (by omega));have HB2:=Hd (fun z e=>HB.out z n e (by omega));unfold Zce;obtain⟨a,ha⟩:∃ a,a=2^(2*n):=⟨_,rfl⟩;obtain⟨b,hb⟩:∃ b,b=2^n:=⟨_,rfl⟩;rw[<- ha] at hA g0 ⊢;rw[<- hb] at hB HB2 ⊢;clear ha hb HB
 go_enter func129,ntmps129
 go_wp2_with fail;refine(g0.out _ (by omega)).mono ?_;rintro x w' ⟨rfl,rfl⟩;go_wp2_with fail;refine(HB2.out _ (by omega)).mono ?_;rintro x w' ⟨rfl,rfl⟩;go_wp2_with fail;go_ret;exact⟨by congr 2,rfl⟩
theorem Ztl (n:Nat)(hn:n<=8)(w:World):Calls prog 71 #[.int .i64 n,.int .i64 40] w fun x w'=>x=.returned (.int .i64 (Zce n))/\w=w':=by
 have HE:=Hd (Zsl n hn w)
 go_enter func71,ntmps71
 go_wp2_with fail;refine HE.out.mono ?_;rintro x w' ⟨rfl,rfl⟩;go_wp2_with fail;go_ret;exact⟨rfl,rfl⟩
theorem Zwj {n:Nat}(hn:n<=6):1<=Zce n/\Zce n<=1048576:=by
 have h1:2^(2*n)<=4096:=Nat.le_trans (Nat.pow_le_pow_right (by omega) (show 2*n<=12 by omega)) (by decide);have h2:2^n<=64:=Nat.le_trans (Nat.pow_le_pow_right (by omega) hn) (by decide);have h3:0<2^n:=Nat.pow_pos (by omega);unfold Zce;omega
theorem Zku {n k:Nat}(hk:k<=192):k*2^n<=Zce n:=by
 have:=Nat.mul_le_mul_right (2^n) hk;unfold Zce;omega
theorem Ztm {n j s:Nat}(hn:1<=n)(hs:s<=40)(hj:j<5):2*2^n+j*(39*2^n+1)+s*2^n<=Zce n:=by
 have h1:=Nat.mul_le_mul_right (2^n) hs;have h2:=Nat.mul_le_mul_right (39*2^n+1) (Nat.le_of_lt_succ hj);have h3:2^1<=2^n:=Nat.pow_le_pow_right (by omega) hn;have h4:2^(n+1)<=2^(2*n):=Nat.pow_le_pow_right (by omega) (by omega);rw[Nat.pow_succ] at h4;unfold Zce;omega
theorem Ztn {n j s k:Nat}(hs:s<=40)(h1:1<=s)(h:k<=2*2^n+j*(39*2^n+1)+Zhm n s):k<=2*2^n+(j+1)*(39*2^n+1):=by
 have h2:=Zh2 n h1;have h3:=Nat.mul_le_mul_right (2^n) hs;rw[Nat.add_mul];have h4:0<2^n:=Nat.pow_pos (by omega);omega
theorem Zyh {n j k:Nat}(hj:j<=5)(h:k<=2*2^n+j*(39*2^n+1))(hn:2<=n):k+7<=Zce n:=by
 have h2:=Nat.mul_le_mul_right (39*2^n+1) hj;have h3:2^2<=2^n:=Nat.pow_le_pow_right (by omega) hn;have h4:2^(n+2)<=2^(2*n):=Nat.pow_le_pow_right (by omega) (by omega);rw[Nat.pow_add] at h4;unfold Zce;omega
def two:List (Int×BF):=[(0,fun _=>false),(1,fun _=>true)]
theorem Zr7:B2 two:=⟨by simp[two],by simp[two]⟩
theorem Zrr {K:Law}(n room:Nat)(w:World)(hn:n<=64)(h1:1<=room)(h2:room<=1048576) :
 Calls prog 43 #[.int .i64 n,.int .i64 room] w fun x w'=>∃ mb,x=.returned (.tuple #[.pointer (some ⟨mb,0,none⟩),.int .i64 0])/\∃ o m V,SatE K n (fun _=>True) room w mb two 2 w' o m V/\m.waits=[]/\m.calls=0/\m.d.pool.many=0:=by
 refine(Yaw (F:=K (man0 n room).d (fun _ _=>true)) (fun _=>none) n room w (fun k r h=>by cases h) hn h1 h2).mono ?_;rintro x w1 ⟨mb,o1,rfl,g0,g2,g1,_⟩;exact⟨mb,rfl,o1,man0 n room,fun _ _=>true,⟨g0,g1,Yau n room hn,by simp[man0,store0],trivial,by simp[man0,store0,pool0],rfl,by simp[man0,two,ef];constructor<;>rfl,ChgX.of_chg g2 NoB⟩,rfl,rfl,rfl⟩
def OrdP (zs:List Int)(l:List Nat):Prop:=∀ j,j<zs.length->((l.getD j 0:Nat):Int)=at0 zs j
def SetP (K:Law)(q:AskD)(n:Nat)(w:World)(y:Ending)(w':World):Prop :=
 ∃ mb vl vx wb hs nx,y=.returned (.tuple #[.pointer (some ⟨mb,0,none⟩),vl,vx,.bool true])/\Below w.heap.size w wb/\hs.map Prod.snd=q.es.map fnT/\nx<=1000/\∃ o m V,LawT K n (OrdP q.order) (Zce n) wb mb (two++hs) nx (fun ws c=>ws=q.plan/\c=0) hs hs w' o m V vl vx/\(2<=n->m.d.pool.many+7<=Zce n)
def SetI (K:Law)(q:AskD)(n:Nat)(wb:World)(mb:Nat)(j:Nat)(s8 s9:Value)(W:World):Prop :=
 ∃ hs nx,hs.map Prod.snd=(q.es.take j).map fnT/\nx<=2+120*(j:Int)/\∃ o m V,LawT K n (OrdP q.order) (Zce n) wb mb (two++hs) nx (fun ws c=>ws=[]/\True) hs hs W o m V s8 s9/\m.d.pool.many<=2*2^n+j*(39*2^n+1)
theorem Zwn {K:Law}(hK:Zbh K)(q:AskD)(ao ae ap:Option Addr)(co ce cp:Nat)(w:World)(h:AskAt w q ao ae ap)(hsm:Zlr q)(n:Nat)(hqn:q.vars=n) :
 Calls prog 20 #[askV q ao ae ap co ce cp] w (SetP K q n w):=by
 have hJ:=hsm.lo;have hM:=hsm.hi;have hN:=hsm.es;have hI:=hsm.plan;have gJ:=Hd hsm;have hp:=Hd h;have hr:n<=6:=by omega
 have ht:1<=n:=by omega
 have gB:=Zwj hr;obtain⟨Q,hQ⟩:∃ Q:Ending->World->Prop,Q=SetP K q n w:=⟨_,rfl⟩;rw[<- hQ];have HQ:=Hd hQ;obtain⟨w1,gf⟩:∃ w1,w1=w.alloc (.cells #[.int .i64 q.vars,.slice ao q.order.length co,.slice ae q.es.length ce,.slice ap q.plan.length cp] 39):=⟨_,rfl⟩;have HW1:Hid (_=w1):=Hd gf.symm;have ha:Hid (Below w.heap.size w w1):=by rw[gf];exact Hd (Zad _ _)
 have g0:w1.heap[w.heap.size]?=some (.cells #[.int .i64 q.vars,.slice ao q.order.length co,.slice ae q.es.length ce,.slice ap q.plan.length cp] 39 (0,0)):=by rw[gf];exact heap_alloc_new _ _
 have hs1:w1.heap.size=w.heap.size+1:=by rw[gf];simp
 have gN:=Hd hqn;rw[hqn] at g0 HW1;have d0:w1.cell? ⟨w.heap.size,0,none⟩=some (.int .i64 (n:Nat)):=by rw[cell_of_row _ _ 0 _ _ _ g0];rfl
 have d1:w1.cell? ⟨w.heap.size,1,none⟩=some (.slice ao q.order.length co):=by rw[cell_of_row _ _ 1 _ _ _ g0];rfl
 have d2:w1.cell? ⟨w.heap.size,2,none⟩=some (.slice ae q.es.length ce):=by rw[cell_of_row _ _ 2 _ _ _ g0];rfl
 have d3:w1.cell? ⟨w.heap.size,3,none⟩=some (.slice ap q.plan.length cp):=by rw[cell_of_row _ _ 3 _ _ _ g0];rfl
 have gX:=hqn;unfold askV;rw[gX];obtain⟨rm,gk⟩:∃ rm,rm=Zce n:=⟨_,rfl⟩;have gK:=Hd gk;have gL:=Hd (fun W=>Ztl n (by omega) W);rw[<- gk] at gL gB;clear h hsm hQ gf g0 gk hqn gX;have gP:=Hd (Zrr (K:=K) n rm w1.drew (by omega) gB.1 gB.2)
 go_enter func20,ntmps20
 go_upto_region 1 with fail;rw[HW1.out];refine Zap (fun W:World=>W.cell? ⟨w.heap.size,0,none⟩=some (.int .i64 (n:Nat))/\True) false 11 [(0,false),(1,false),(2,false),(3,false),(4,true),(5,true),(6,false),(7,false),(8,false),(9,false),(10,false)] (by kernel_rfl) (by kernel_rfl) ⟨d0,trivial⟩ ?_;simp only[planned,Zc8]
 iterate 4
  refine Zaq rfl ?_;apply Exists.intro;refine⟨fun w' hw=>?_,?_⟩
  . obtain⟨h1,_⟩:=hw;go_simp;rfl
  simp only[Zah]
 refine Zb5 (R:=fun v w'=>v=.int .i64 (rm:Nat)/\w'=w1.drew) rfl (by go_simp) ((gL.out _).mono (fun e w' he=>?_)) ?_
 . obtain⟨rfl,rfl⟩:=he;exact⟨_,rfl,⟨d0,trivial⟩,rfl,rfl⟩
 rintro v w'-⟨rfl,rfl⟩;simp only[Zah];refine Zb5 (R:=fun v w'=>∃ mb,v=.tuple #[.pointer (some ⟨mb,0,none⟩),.int .i64 0]/\∃ o m V,SatE K n (fun _=>True) rm w1.drew mb two 2 w' o m V/\m.waits=[]/\m.calls=0/\m.d.pool.many=0) rfl (by go_simp) (gP.out.mono (fun e w' he=>?_)) ?_
 . obtain⟨mb,rfl,o,m,V,g5,gS⟩:=he;exact⟨_,rfl,⟨(g5.chg.below0.cell (p:=⟨w.heap.size,0,none⟩) (Zaa (w:=w1.drew) d0)).trans d0,trivial⟩,mb,rfl,o,m,V,g5,gS⟩
 rintro v w2-⟨mb,rfl,o,m,V,g5,gT,hB,gY⟩;simp only[Zah]
 iterate 5
  refine Zaq rfl ?_;apply Exists.intro;refine⟨fun w' hw=>?_,?_⟩
  . obtain⟨h1,_⟩:=hw;go_simp;rfl
  simp only[Zah]
 refine Zeg ?_;obtain⟨wb,g7⟩:∃ wb,wb=w1.drew:=⟨_,rfl⟩;rw[<- g7] at g5;have h9:Hid (Below w.heap.size w wb):=Hd (by rw[g7];exact ha.out.trans ((Zaf w1 1).mono ha.out.size));have c0:wb.cell? ⟨w.heap.size,0,none⟩=some (.int .i64 (n:Nat)):=by rw[g7];exact d0
 have c1:wb.cell? ⟨w.heap.size,1,none⟩=some (.slice ao q.order.length co):=by rw[g7];exact d1
 have c2:wb.cell? ⟨w.heap.size,2,none⟩=some (.slice ae q.es.length ce):=by rw[g7];exact d2
 have c3:wb.cell? ⟨w.heap.size,3,none⟩=some (.slice ap q.plan.length cp):=by rw[g7];exact d3
 have hO:w.heap.size<wb.heap.size:=Zaa c0;have gi:=Hd (hp.out.below h9.out);clear g7 gP gL d0 d1 d2 d3 HW1 hs1
 have gR:=Hd (Zqa (K:=K) g5 (by omega) (by rw[gK.out];have:=Zku (n:=n) (k:=6) (by omega);simp[two];omega) (c:=co) (gi.out.order.below g5.chg.below0) (fun h0 x hx=>by
  obtain⟨b,off,e,hc⟩:=gi.out.order.cells 0 h0;rw[hx] at e;cases e;exact g5.none0 (Zaa hc)) (by
  rcases Nat.eq_zero_or_pos q.order.length with h0|h0
  . exact .inl h0
  . have:=gJ.out.order h0;rw[gN.out] at this;exact .inr (Zx9 this)))
 have e0:=(g5.chg.below0.cell (p:=⟨w.heap.size,0,none⟩) (Zaa c0)).trans c0;have e1:=(g5.chg.below0.cell (p:=⟨w.heap.size,1,none⟩) (Zaa c1)).trans c1;have HWT:=Hd gT;have hG:=Hd gY;clear g5 gT hB gY;go_wp2_with fail;refine gR.out.mono ?_;rintro y w3 ⟨rfl,o3,m3,V3,gb,gw,hh,hC,gD⟩;have h8:Hid (SetI K q n wb mb 0 (.slice none 0 0) (.slice none 0 0) w3):=Hd ⟨[],2,rfl,by omega,o3,m3,V3,⟨by rw[gK.out] at gb;exact gb,Zr7,⟨by rw[gw,HWT.out],trivial⟩,⟨Zne _ _ _,fun k hk=>by cases hk⟩,⟨⟨[],rfl,Zne _ _ _,fun i v hv=>by simp at hv⟩,fun k hk=>by cases hk⟩⟩,by have:=hG.out;simp[two] at gD;omega⟩;have f2:=(gb.chg.below0.cell (p:=⟨w.heap.size,2,none⟩) (Zaa c2)).trans c2;clear gb gw hh hC gD gR e0 e1;go_wp2_with fail
 go_loopw [8,9,40] (fun s8 s9 s40 wr=>∃ j:Nat,j<=q.es.length/\s40=.int .i64 j/\Hid (SetI K q n wb mb j s8 s9 wr)) (fun _ _ s40 _=>q.es.length-(intOf s40).toNat)
 case atStart=>exact⟨0,Nat.zero_le _,rfl,h8⟩
 case round =>
  clear h8 f2
  rename World=>wy
  obtain⟨j,hj,rfl,HI⟩:=hrel;obtain⟨hs,nx,gj,hnx,hu⟩:=HI.out;obtain⟨o0,m0,V0,gl,gE⟩:=hu;have gu:Hid (∃ o m V,LawT K n (OrdP q.order) (Zce n) wb mb (two++hs) nx (fun ws c=>ws=[]/\True) hs hs wy o m V u8 u9/\m.d.pool.many<=2*2^n+j*(39*2^n+1)):=Hd ⟨o0,m0,V0,gl,gE⟩;have gG:=gl.below0;have ho:=Hd gG;have gI:=Hd gj;have hA:hs.length=j:=by have:=congrArg List.length gj;simpa [Nat.min_eq_left hj] using this
  clear HI gj gl gE gG o0 m0 V0
  by_cases gF:j<q.es.length
  .
   have hy:(j:Int)<q.es.length:=by omega
   have gt:=ho.out;obtain⟨b,off,x0,x1,x2,ea,k0,k1,k2,hx⟩:=gi.out.es.cells j gF;subst ea;obtain⟨zo,zv,za,zn,zc,rfl,rfl,rfl⟩:=hx.parts;have gh:=Hd (gJ.out.expr _ (List.getElem_mem gF));have ga:=gh.out.1;have gx:=ExT.size_pos q.es[j];obtain⟨e,he⟩:∃ e,e=q.es[j]:=⟨_,rfl⟩;rw[<- he] at hx gh ga gx;have HX:=Hd hx;have q0:=(gt.cell (p:=⟨b,off+j*3,none⟩) (Zaa k0)).trans k0;have q1:=(gt.cell (p:=⟨b,off+j*3+1,none⟩) (Zaa k1)).trans k1;have q2:=(gt.cell (p:=⟨b,off+j*3+2,none⟩) (Zaa k2)).trans k2;have hF:Hid ((q.es.take (j+1)).map fnT=(q.es.take j).map fnT++[fnT e]):=Hd (by rw[List.take_succ_eq_append_getElem gF,List.map_append,he];rfl);obtain⟨wz,gn⟩:∃ wz,wz=wy.alloc (.cells #[.int .i64 zo,.int .i64 zv,.slice za zn zc] 81):=⟨_,rfl⟩;have hD:Hid (_=wz):=Hd gn.symm;have h3:Below wy.heap.size wy wz:=by rw[gn];exact Zad _ _
   have g0:wz.heap[wy.heap.size]?=some (.cells #[.int .i64 zo,.int .i64 zv,.slice za zn zc] 81 (0,0)):=by rw[gn];exact heap_alloc_new _ _
   have p0:wz.cell? ⟨wy.heap.size,0,none⟩=some (.int .i64 zo):=by rw[cell_of_row _ _ 0 _ _ _ g0];rfl
   have p1:wz.cell? ⟨wy.heap.size,1,none⟩=some (.int .i64 zv):=by rw[cell_of_row _ _ 1 _ _ _ g0];rfl
   have p2:wz.cell? ⟨wy.heap.size,2,none⟩=some (.slice za zn zc):=by rw[cell_of_row _ _ 2 _ _ _ g0];rfl
   obtain⟨o4,m4,V4,lt0,mn4⟩:=gu.out;have lt4:=lt0.below h3;have n4:o4 wy.heap.size=none:=lt0.sat.lt.none (Nat.le_refl _);have gZ:∀ g,u8.ownBlock=some g->g<wy.heap.size:=fun g hg=>(lt0.l.own.lt g hg).2
   have hL:(two++hs).length=2+j:=by simp[two,hA];omega
   have gv:=Hd (Zoa hK e _ (two++hs) nx wz o4 m4 V4 _ lt4.sat ⟨lt4.st.1,mn4⟩ lt4.b2 gh.out.2.1.valid (by have:=gh.out.2.2;rw[gN.out] at this;exact this) hx (by omega) (Ztm ht ga (by omega)));have g8:=Hd lt4;clear gt k0 k1 k2 hx h3 g0 gn lt4 gu he lt0;go_upto_region 9 with fail;rw[hD.out];clear q0 q1 q2;go_wp2_with fail;refine gv.out.mono ?_;rintro y w5 ⟨k,rfl,hk,o5,m5,V5,g9,⟨gV,gC⟩,gy⟩;have hm:Hid (m5.d.pool.many<=2*2^n+(j+1)*(39*2^n+1)):=Hd (Ztn ga gx gC);have gm:Hid (LawT K n (OrdP q.order) (Zce n) wb mb (two++(hs++[(k,fnT e)])) (k+1) (fun ws c=>ws=[]/\True) hs hs w5 o5 m5 V5 u8 u9):=Hd (g8.out.go (by rw[<- List.append_assoc];exact gy) (Zr7.app _) ⟨gV,trivial⟩ g9);have r0:=g9.cell (p:=⟨wy.heap.size,0,none⟩) p0 n4 (fun e=>e);have r1:=g9.cell (p:=⟨wy.heap.size,1,none⟩) p1 n4 (fun e=>e);have r2:=g9.cell (p:=⟨wy.heap.size,2,none⟩) p2 n4 (fun e=>e);have n5:=g9.none' (Zaa p0) n4;have hd:wb.heap.size<=w5.heap.size:=gy.chg.size;clear g9 gV gy gC gv p0 p1 p2 g8;go_upto_region 13 with (at_builtin;refine Zb6 Zhp _ rfl _ _ rfl wb.heap.size _ (Za1 (hs.map Prod.fst)) _ rfl rfl rfl rfl rfl (by exact gm.out.l.own) (by simp[Za1];omega) hd ?_;intro v6 w6 gr g1 g2 g3 g4 gH)
   have gU:=Zmj g1 g2 g3 g4 gH;have gd:w6.heap[wy.heap.size]?=w5.heap[wy.heap.size]?:=gU.keep _ (Zaa r0) (fun e=>by have:=gZ _ e;omega);have t0:=(World.cell?_of_block (w:=w5) (a:=⟨wy.heap.size,0,none⟩) gd).trans r0;have t1:=(World.cell?_of_block (w:=w5) (a:=⟨wy.heap.size,1,none⟩) gd).trans r1;have t2:=(World.cell?_of_block (w:=w5) (a:=⟨wy.heap.size,2,none⟩) gd).trans r2;have g6:=Hd (gm.out.appL gr g1 g2 g3 g4 gH (p:=(k,fnT e)));have a0:=(g6.out.below0.cell (p:=⟨w.heap.size,0,none⟩) (Zaa c0)).trans c0;have h5:=Hd (Zlj e _ n (by omega) w6 (by omega) gh.out.2.1 (HX.out.below g6.out.below0));clear gU gd gr g1 g2 g3 g4 gH r0 r1 r2 gm gZ;go_wp2_with fail;refine h5.out.mono ?_;rintro y w7 ⟨v7,rfl,gc,h4⟩;obtain⟨av,cv,rfl,_⟩:=gc.slice;have h7:Hid (LawB w7 o5 wb.heap.size (.slice av (Zbq (tabB n (fnT e))).length cv) (tabB n (fnT e))):=Hd (Zxr (n:=n) gc (by rw[Za6];exact Zk6 (by omega)) g6.out.sat.lt g6.out.sat.chg.size);have ge:=Hd (g6.out.below h4);obtain⟨rs,hf,gA,gz⟩:=ge.out.x.ex;have gM:=Hd gA;have h6:=Hd gz;have hq:rs.length=hs.length:=by rw[hf];simp
   have hb:wb.heap.size<=w7.heap.size:=ge.out.sat.chg.size;clear gc h4 gA gz h5 g6 t0 t1 t2 a0;go_upto_region 14 with (at_builtin;refine Zb6 Yab _ rfl _ _ rfl wb.heap.size _ rs _ rfl rfl rfl rfl rfl (by exact gM.out) (by omega) hb ?_;intro v8 w8 gq g1 g2 g3 g4 h2)
   have gQ:=Hd (ge.out.appX h7.out rfl hq gM.out h6.out gq g1 g2 g3 g4 h2 (p:=(k,fnT e)));have hH:Hid (SetI K q n wb mb (j+1) v6 v8 w8):=Hd ⟨hs++[(k,fnT e)],k+1,by rw[List.map_append,gI.out,hF.out];rfl,by omega,o5,m5,V5,gQ.out,hm.out⟩;clear gq g1 g2 g3 g4 h2 gM h6 ge h7 gQ;go_wp2_with fail;go_roundw
   case rel=>exact⟨j+1,by omega,by go_num,hH⟩
   case measure=>simp[intOf];omega
  .
   have hz:j=q.es.length:=by omega
   have hy:¬ (j:Int)<q.es.length:=by omega
   obtain⟨o4,m4,V4,lt4,mn4⟩:=gu.out;have hn:=Hd mn4;clear mn4;have e3:=(lt4.below0.cell (p:=⟨w.heap.size,3,none⟩) (Zaa c3)).trans c3;have gp:m4.waits=[]:=lt4.st.1;have gs:Ze3 n m4.waits.length q.plan=0:=by
    rw[gp];have:=gJ.out.planOk;rw[gN.out] at this;exact this
   have gO:=Hd (Zqq lt4.sat (c:=cp) (gi.out.plan.below lt4.below0) (fun h0 x hx=>by
    obtain⟨b,off,e,hc,_⟩:=gi.out.plan.cells 0 h0;rw[hx] at e;cases e;exact lt4.sat.none0 (Zaa hc)) (by rw[gp];simp))
   rw[gs] at gO;have g8:=Hd lt4;have hE:=Hd gp;clear lt4 gp gs gu;go_wp2_with fail;refine gO.out.mono ?_;rintro y w5 ⟨rfl,o5,m5,gg⟩
   have HF:Hid (Q (.returned (.tuple #[.pointer (some ⟨mb,0,none⟩),u8,u9,.bool true])) w5):=Hd (by
    rw[HQ.out];refine⟨mb,u8,u9,wb,hs,nx,rfl,h9.out,by rw[gI.out,hz,List.take_length],by omega,o5,m5,V4,g8.out.go gg.sat g8.out.b2 ?_ (ChgX.of_chg gg.chg NoB),?_⟩
    rotate_left
    . rw[gg.d];exact Zyh (by omega) hn.out
    have:=gg.yes rfl;rw[hE.out] at this;exact⟨by simpa using this.1,by simpa using this.2⟩)
   clear gg gO;go_wp2_with fail;refine bodyPost_ret (Zcz rfl _ _ _) rfl ?_;exact HF.out
open Go.RowKit
theorem Zni (bx bz:List Bool)(hlen:bz.length=bx.length)(ax az:Option Addr)(cx cz:Nat)(w:World)(h1:Zbz w ax bx)(h2:Zbz w az bz) :
 Calls prog 98 #[.slice ax bx.length cx,.slice az bx.length cz] w fun x w'=>x=.returned (.bool (decide (bx=bz)))/\Below w.heap.size w w':=by
 have H1:=Hd h1;have H2:=Hd h2;have hl:=h1.len;have g7:=Hd hlen;obtain⟨L,hL⟩:∃ L,L=bx.length:=⟨_,rfl⟩;have HL:=Hd hL;rw[<- hL] at hl ⊢;clear h1 h2 hL hlen
 go_enter func98,ntmps98
 go_wp2_with fail
 go_loopw [4,5] (fun s4 s5 wr=>∃ j:Nat,j<=L/\s5=.int .i64 j/\Hid (Below w.heap.size w wr)/\Hid (∀ q,q<j->bx.getD q false=bz.getD q false)) (fun _ s5 _=>L-(intOf s5).toNat)
 case atStart=>exact⟨0,Nat.zero_le _,rfl,Hd (Below.refl _ _),Hd fun q hq=>by omega⟩
 case round =>
  obtain⟨j,hj,rfl,HB,HQ⟩:=hrel
  by_cases g4:j<L
  .
   obtain⟨b1,of1,rfl,c1⟩:=(H1.out.below HB.out).cells j (by rw[<- HL.out];exact g4);obtain⟨b2,of2,rfl,c2⟩:=(H2.out.below HB.out).cells j (by rw[g7.out,<- HL.out];exact g4);have g2:=Hd (HB.out.trans ((Zaf wr 1).mono HB.out.size));have g9:(j:Int)<(L:Int):=by omega
   obtain⟨y1,g1⟩:∃ y,y=bx.getD j false:=⟨_,rfl⟩;obtain⟨y2,g0⟩:∃ y,y=bz.getD j false:=⟨_,rfl⟩;rw[<- g1] at c1;rw[<- g0] at c2;have g5:Hid (y1=y2->∀ q,q<j+1->bx.getD q false=bz.getD q false):=Hd fun e q hq=>by
    rcases Nat.lt_or_ge q j with h|h
    . exact HQ.out q h
    .
     obtain rfl:q=j:=by omega
     rw[<- g1,<- g0,e]
   have g6:Hid (y1≠y2->bx≠bz):=Hd fun g8 e=>g8 (by rw[g1,g0,e])
   clear g1 g0;go_upto_region 6 with fail;refine Zap (fun W:World=>W.cell? ⟨b1,of1+j,none⟩=some (.bool y1)/\W.cell? ⟨b2,of2+j,none⟩=some (.bool y2)) false 9
    [(0,false),(1,false),(2,false),(3,false),(4,false),(5,false),(6,false),(7,false),(8,false)] (by kernel_rfl) (by kernel_rfl) ⟨c1,c2⟩ ?_
   simp only[planned,Zc8]
   iterate 9
    refine Zaq rfl ?_;apply Exists.intro;refine⟨fun w' hw=>?_,?_⟩
    . obtain⟨h1,h2⟩:=hw;go_simp;rfl
    simp only[Zah]
   refine Zeg ?_;clear c1 c2;cases y1<;>cases y2
   .
    have g3:=Hd (g5.out rfl);go_wp2_with fail;go_roundw
    case rel=>exact⟨j+1,by omega,by go_num,g2,g3⟩
    case measure=>simp[intOf];omega
   . have HF:Hid (Ending.returned (.bool false)=.returned (.bool (decide (bx=bz)))):=Hd (by rw[decide_eq_false (g6.out (by simp))]);go_wp2_with fail;go_ret;exact⟨HF.out,g2.out⟩
   . have HF:Hid (Ending.returned (.bool false)=.returned (.bool (decide (bx=bz)))):=Hd (by rw[decide_eq_false (g6.out (by simp))]);go_wp2_with fail;go_ret;exact⟨HF.out,g2.out⟩
   .
    have g3:=Hd (g5.out rfl);go_wp2_with fail;go_roundw
    case rel=>exact⟨j+1,by omega,by go_num,g2,g3⟩
    case measure=>simp[intOf];omega
  .
   have HF:Hid (Ending.returned (.bool true)=.returned (.bool (decide (bx=bz)))):=Hd (by
    rw[decide_eq_true];refine List.ext_getElem g7.out.symm fun i h1 h2=>?_
    have:=HQ.out i (by have:=HL.out;omega);simpa [List.getD,h1,h2] using this)
   have g9:¬ (j:Int)<(L:Int):=by omega
   go_wp2_with fail;go_ret;exact⟨HF.out,HB.out⟩
open Go.RowKit
def cofF (F:BF)(v:Nat)(b:Bool):BF:=fun ρ=>F fun u=>if u=v then b else ρ u
theorem Zub {u v x r:Nat}(hu:u<v):bitB (2^v*x+r) u=bitB r u:=by
 obtain⟨k,rfl⟩:∃ k,v=u+(k+1):=⟨v-u-1,by omega⟩;unfold bitB;have e1:(2:Nat)^(u+(k+1))*x=2^u*(2*(2^k*x)):=by rw[Nat.pow_add,Nat.pow_succ];ac_rfl
 rw[e1,Nat.mul_add_div (Nat.pow_pos (by omega)),Nat.mul_add_mod]
theorem Zze {v q c r:Nat}(hr:r<2^v)(hc:c<2):bitB (2^v*(2*q+c)+r) v=decide (c=1):=by
 unfold bitB;rw[Nat.mul_add_div (Nat.pow_pos (by omega)),Nat.div_eq_of_lt hr,Nat.add_zero,Nat.mul_add_mod,Nat.mod_eq_of_lt hc]
theorem Zrd {u v q c r:Nat}(hr:r<2^v)(hc:c<2)(hu:v<u):bitB (2^v*(2*q+c)+r) u=decide (q/2^(u-v-1)%2=1):=by
 obtain⟨k,rfl⟩:∃ k,u=v+(k+1):=⟨u-v-1,by omega⟩;unfold bitB;have e1:(2:Nat)^(v+(k+1))=2^v*(2*2^k):=by rw[Nat.pow_add,Nat.pow_succ];ac_rfl
 have e2:v+(k+1)-v-1=k:=by omega
 rw[e1,e2,<- Nat.div_div_eq_div_mul,Nat.mul_add_div (Nat.pow_pos (by omega)),Nat.div_eq_of_lt hr,Nat.add_zero,<- Nat.div_div_eq_div_mul];have e3:(2*q+c)/2=q:=by omega
 rw[e3]
def cofI (j v:Nat)(b:Bool):Nat:=if bitB j v && !b then j-2^v else if !bitB j v&&b then j+2^v else j
theorem Zys (j v:Nat):∃ q c r,r<2^v/\c<2/\j=2^v*(2*q+c)+r:=by
 have h:=Nat.div_add_mod j (2^v);refine⟨j/2^v/2,j/2^v%2,j%2^v,Nat.mod_lt _ (Nat.pow_pos (by omega)),by omega,?_⟩;have e:2*(j/2^v/2)+j/2^v%2=j/2^v:=by omega
 rw[e];exact h.symm
theorem Zoe (j v:Nat)(b:Bool):∀ u,bitB (cofI j v b) u=if u=v then b else bitB j u:=by
 obtain⟨q,c,r,hr,hc,rfl⟩:=Zys j v;have g1:=Zze (q:=q) hr hc;have key:∃ c':Nat,c'<2/\decide (c'=1)=b/\cofI (2^v*(2*q+c)+r) v b=2^v*(2*q+c')+r:=by
  unfold cofI;rw[g1];have h2:2^v*(2*q+1)=2^v*(2*q+0)+2^v:=by simp[Nat.mul_add]
  rcases(by omega:c=0\/c=1) with rfl|rfl
  .
   cases b with
   | false=>exact⟨0,by omega,rfl,by simp⟩
   | true=>exact⟨1,by omega,rfl,by simp only[Nat.zero_ne_one,decide_false,Bool.not_true,Bool.and_self,Bool.not_false,Bool.false_eq_true,if_false,if_true];omega⟩
  .
   cases b with
   | true=>exact⟨1,by omega,rfl,by simp⟩
   | false=>exact⟨0,by omega,rfl,by simp only[decide_true,Bool.not_false,Bool.and_self,if_true];omega⟩
 obtain⟨c',g0,hb,e⟩:=key;intro u;rw[e];rcases Nat.lt_trichotomy u v with h|rfl|h
 . rw[if_neg (by omega),Zub h,Zub h]
 . rw[if_pos rfl,Zze hr g0,hb]
 . rw[if_neg (by omega),Zrd hr g0 h,Zrd hr hc h]
theorem Zz0 {n i:Nat}(h:∀ u,n<=u->bitB i u=false):i<2^n:=by
 rcases Nat.lt_or_ge i (2^n) with h'|h'
 . exact h'
 .
  exfalso;have hz:∀ k,i/2^n≠0->(∀ u,n<=u->bitB i u=false)->i/2^n<2^k->False:=by
   intro k
   induction k with
   | zero=>intro h1 _ h2;simp at h2;omega
   | succ k ih =>
     intro h1 h2 h3;refine ih h1 h2 ?_;have hb:=h2 (n+k) (by omega);unfold bitB at hb;rw[decide_eq_false_iff_not] at hb;have e:i/2^(n+k)=i/2^n/2^k:=by rw[Nat.pow_add,Nat.div_div_eq_div_mul]
     rw[e] at hb;have h4:i/2^n/2^k<2:=by
      rw[Nat.div_lt_iff_lt_mul (Nat.pow_pos (by omega))];rw[Nat.pow_succ,Nat.mul_comm] at h3;exact h3
     have h5:i/2^n/2^k=0:=by
      generalize i/2^n/2^k=X at hb h4
      omega
     exact(Nat.div_eq_zero_iff_lt (Nat.pow_pos (by omega))).1 h5
  have h0:i/2^n≠0:=by
   intro e;have:=(Nat.div_eq_zero_iff_lt (Nat.pow_pos (by omega))).1 e;omega
  exact hz (i/2^n) h0 h (Nat.lt_two_pow_self)
theorem Zun {n j v:Nat}{b:Bool}(hj:j<2^n)(hv:v<n):cofI j v b<2^n:=by
 refine Zz0 fun u hu=>?_
 rw[Zoe,if_neg (by omega)];unfold bitB;rw[decide_eq_false_iff_not,Nat.div_eq_of_lt (Nat.lt_of_lt_of_le hj (Nat.pow_le_pow_right (by omega) hu))];omega
theorem Zz5 {n:Nat}{F:BF}{j v:Nat}{b:Bool}(hj:j<2^n)(hv:v<n):(tabB n F).getD (cofI j v b) false=cofF F v b (Zcc (Zcq j n)):=by
 rw[Zfa (Zun hj hv)];unfold cofF;congr 1;funext u;rw[Zfk,Zoe,Zfk]
 by_cases e:u=v
 . subst e;simp[hv]
 . rw[if_neg e,if_neg e]
open Go.RowKit
theorem Zma (n:Nat)(F:BF)(v:Nat)(b:Bool)(hn:n<=16)(hv:v<n)(au:Option Addr)(cu:Nat)(w:World)(h1:Zbz w au (tabB n F)) :
 Calls prog 171 #[.slice au (2^n) cu,.int .i64 v,.bool b] w fun x w'=>∃ g,x=.returned (.slice (some ⟨g,0,none⟩) (2^n) (2^n))/\Zbw w' (.slice (some ⟨g,0,none⟩) (2^n) (2^n)) (tabB n (cofF F v b))/\Below w.heap.size w w':=by
 have H1:=Hd h1;have ge:2^n<=1000000:=Zk6 hn;have gi:2^v<=1000000:=Zk6 (by omega);have gn:Hid (∀ i,i<=1048576->∀ W,Calls prog 117 #[.int .i64 (i:Nat),.int .i64 (v:Nat)] W fun x w'=>x=.returned (.bool (bitB i v))/\W=w'):=Hd fun i hi W=>Zp2 i v hi (by omega) W
 obtain⟨G,hG⟩:∃ G:Nat->Bool,G=fun i=>cofF F v b (Zcc (Zcq i n)):=⟨_,rfl⟩
 have HT:Hid (tabB n (cofF F v b)=(List.range (2^n)).map G):=Hd (by rw[hG];rfl);have gg:Hid (∀ j,j<2^n->cofI j v b<2^n/\(tabB n F).getD (cofI j v b) false=G j):=Hd fun j hj=>⟨Zun hj hv,by rw[hG];exact Zz5 hj hv⟩
 have gf:Hid ((tabB n F).length=2^n):=Hd (Za6 n F);rw[HT.out];obtain⟨L,hL⟩:∃ L,L=2^n:=⟨_,rfl⟩;obtain⟨p,hp⟩:∃ p,p=2^v:=⟨_,rfl⟩;have gh:Hid (∀ W,Calls prog 169 #[.int .i64 (v:Nat)] W fun x w'=>x=.returned (.int .i64 (p:Nat))/\W=w'):=Hd fun W=>by rw[hp];exact Zqc v (by omega) W
 have HCI:Hid (∀ j,cofI j v b=if bitB j v && !b then j-p else if !bitB j v&&b then j+p else j):=Hd fun j=>by rw[hp];rfl
 have gp:Hid (∀ j,bitB j v=true->p<=j):=Hd fun j hj=>by
  rcases Nat.lt_or_ge j p with h|h
  . unfold bitB at hj;rw[<- hp,Nat.div_eq_of_lt h] at hj;simp at hj
  . exact h
 rw[<- hL] at ge gg gf ⊢;rw[<- hp] at gi;clear hL hp h1 hG HT
 go_enter func171,ntmps171
 go_wp2_with (at_make;refine Zee Zen rfl _ _ rfl w.heap.size w _ L rfl rfl rfl (by omega) (Nat.le_refl _) (Below.refl _ _) ?_;intro g w1 g6 gd hs1 g1 gm gl;clear gl)
 go_loopw [8,9] (fun s8 s9 wr=>∃ j:Nat,j<=L/\s8=.int .i64 j/\Hid (OwnB wr w.heap.size (.slice (some ⟨g,0,none⟩) L L) (((List.range L).map G).take j++(List.replicate L false).drop j))/\Hid (Below w.heap.size w wr)) (fun s8 _ _=>L-(intOf s8).toNat)
 case atStart=>exact⟨0,by omega,rfl,Hd (by unfold OwnB;simpa [Zbq] using g6),Hd gd⟩
 case round =>
  clear g6 gd;obtain⟨j,hj,rfl,g3,g5⟩:=hrel
  by_cases ga:j<L
  .
   have gk:j<((List.range L).map G).length:=by simp;exact ga
   obtain⟨gb,g9⟩:=gg.out j ga;have g0:=HCI.out j;have g4:=gp.out j;obtain⟨kk,gc⟩:∃ kk,kk=cofI j v b:=⟨_,rfl⟩;rw[<- gc] at gb g9 g0;obtain⟨b1,of1,e1,c1⟩:=(H1.out.below g5.out).cells kk (by rw[gf.out];exact gb);rw[g9] at c1;have q0:=g3.out.cellB j (by simp;omega);have p0:=g3.out.frozen j;subst e1;obtain⟨y,hy⟩:∃ y,y=G j:=⟨_,rfl⟩;rw[<- hy] at c1;have go:Hid (((List.range L).map G)[j]=y):=Hd (by rw[hy];simp);obtain⟨t,ht⟩:∃ t,t=bitB j v:=⟨_,rfl⟩;rw[<- ht] at g0 g4;have g2:Hid (∀ W,Calls prog 117 #[.int .i64 (j:Nat),.int .i64 (v:Nat)] W fun x w'=>x=.returned (.bool t)/\W=w'):=Hd fun W=>by rw[ht];exact gn.out j (by omega) W
   have gr:(kk:Int)<(L:Int):=by omega
   have g7:Hid (OwnB (wr.setCell ⟨g,j,none⟩ (.bool y)) w.heap.size (.slice (some ⟨g,0,none⟩) L L) (((List.range L).map G).take (j+1)++(List.replicate L false).drop (j+1))):=Hd (by
    rw[<- Zdr (by simp;omega) gk go.out];exact g3.out.setB j y)
   have g8:Hid (Below w.heap.size w (wr.setCell ⟨g,j,none⟩ (.bool y))):=Hd (g5.out.setCell gm _);clear g9 hy ht gc g3 H1;cases t<;>cases b
   .
    have g1:kk=j:=by simpa using g0
    subst g1;clear g0 g4;go_wp2_with fail;refine(g2.out _).mono ?_;rintro x w2 ⟨rfl,rfl⟩;go_wp2_with fail;refine(g2.out _).mono ?_;rintro x w2 ⟨rfl,rfl⟩;go_wp2_with fail;go_roundw
    case rel=>exact⟨kk+1,by omega,by go_num,g7,g8⟩
    case measure=>simp[intOf];omega
   .
    have g1:kk=j+p:=by simpa using g0
    have gj:(j:Int)+(p:Int)=(kk:Nat):=by omega
    clear g0 g4 g1;go_wp2_with fail;refine(g2.out _).mono ?_;rintro x w2 ⟨rfl,rfl⟩;go_wp2_with fail;refine(g2.out _).mono ?_;rintro x w2 ⟨rfl,rfl⟩;go_wp2_with fail;refine(gh.out _).mono ?_;rintro x w2 ⟨rfl,rfl⟩;go_wp2_with fail;go_roundw
    case rel=>exact⟨j+1,by omega,by go_num,g7,g8⟩
    case measure=>simp[intOf];omega
   .
    have g1:kk=j-p:=by simpa using g0
    have:=g4 rfl;have gj:(j:Int)-(p:Int)=(kk:Nat):=by omega
    clear g0 g4 g1;go_wp2_with fail;refine(g2.out _).mono ?_;rintro x w2 ⟨rfl,rfl⟩;go_wp2_with fail;refine(gh.out _).mono ?_;rintro x w2 ⟨rfl,rfl⟩;go_wp2_with fail;refine(g2.out _).mono ?_;rintro x w2 ⟨rfl,rfl⟩;go_wp2_with fail;go_roundw
    case rel=>exact⟨j+1,by omega,by go_num,g7,g8⟩
    case measure=>simp[intOf];omega
   .
    have g1:kk=j:=by simpa using g0
    subst g1;clear g0 g4;go_wp2_with fail;refine(g2.out _).mono ?_;rintro x w2 ⟨rfl,rfl⟩;go_wp2_with fail;refine(g2.out _).mono ?_;rintro x w2 ⟨rfl,rfl⟩;go_wp2_with fail;go_roundw
    case rel=>exact⟨kk+1,by omega,by go_num,g7,g8⟩
    case measure=>simp[intOf];omega
  .
   obtain rfl:j=L:=by omega
   have gq:((List.range j).map G).length=j:=by simp
   have HF:Hid (Zbw wr (.slice (some ⟨g,0,none⟩) j j) ((List.range j).map G)):=Hd (by
    have h:=g3.out;rw[List.take_of_length_le (by omega),List.drop_of_length_le (by simp),List.append_nil] at h;exact OwnC.boolsIs h (by simp;exact ge))
   go_wp2_with fail;go_ret;exact⟨g,rfl,HF.out,g5.out⟩
open Go.RowKit
section
variable {d:Zag}{V:Nat->BF}
theorem Zan.dep (h:Zan d V){f:Nat}(hf:okE (Zab d) f):DepF d.vars.length (ef V f):=fun ρ ρ' hr=>h.dag.indep _ f (Nat.le_refl _) hf ρ ρ' fun v hv _=>hr v hv
end
open Go.RowKit
theorem Zmq (p:Prop):∃ b:Bool,b=true↔p:=by
 classical
 exact⟨decide p,by simp⟩
theorem SatE.dep {K:Law}{n:Nat}{Od:List Nat->Prop}{room:Nat}{w0 w:World}{mb:Nat}{fs:List (Int×BF)}{nx:Int}{o:Own}{m:ManD}{V:Nat->BF}(h:SatE K n Od room w0 mb fs nx w o m V){k:Int}{F:BF}(hk:(k,F)∈fs):DepF n F:=by
 obtain⟨f,hf,rfl⟩:=h.find hk;have:=h.ok.store.dep (h.ok.handles.ok _ hf)
 rwa [h.vars] at this
open Go.RowKit
open Go.RowKit
structure AtC (K:Law)(k:Nat)(o:Own)(w:World)(mb:Nat)(m:ManD)(V:Nat->BF)(o':Own)(w':World)(m':ManD)(V':Nat->BF):Prop where
 st:Step K o w mb m V o' w' m' V'
 waits:m'.waits=m.waits
 many:m'.d.pool.many<=m.d.pool.many+k
def Zn3 (K:Law)(k:Nat)(o:Own)(w:World)(mb:Nat)(m:ManD)(V:Nat->BF)(er:Int)(evt:Bool)(ev:Ev)(w':World):Prop :=
 ∃ o' m' V',Step K o w mb m V o' w' m' V'/\((er=7/\evt=false/\ev=ev0/\m'.waits=m.waits/\m'.d.pool.many=m'.d.pool.room/\m'.d.pool.many+1<=m.d.pool.many+k)\/(er=0/\evt=true/\m.waits=ev::m'.waits))
def Zjj (K:Law)(k:Nat)(o:Own)(w:World)(mb:Nat)(m:ManD)(V:Nat->BF)(A:Zag->(Nat->BF)->Nat->Prop)(e:Ending)(w':World):Prop :=
 (∃ r o' m' V',e=.returned (.int .i64 (r:Nat))/\AtC K k o w mb m V o' w' m' V'/\okE (Zab m'.d) r/\A m'.d V' r)\/(∃ er evt ev,e=Zcg er evt ev/\Zn3 K k o w mb m V er evt ev w')
section
variable {K:Law}{n k k1 k2:Nat}{Od:List Nat->Prop}{room:Nat}{w0 w w' w1 w2:World}{mb:Nat}{fs:List (Int×BF)}{nx:Int}{o o' o1 o2:Own}{m m' m1 m2:ManD}{V V' V1 V2:Nat->BF}{xb:Nat}
theorem AtC.refl (h:Zdo (K m.d V) o w mb m)(hl:Zaj o w)(hk:Zan m.d V):AtC K 0 o w mb m V o w m V:=⟨⟨h,hl,Chg.refl _ _ _,hk,Ext.refl _ _,rfl,rfl⟩,rfl,Nat.le_refl _⟩
theorem AtC.trans (h:AtC K k1 o w mb m V o1 w1 m1 V1)(h':AtC K k2 o1 w1 mb m1 V1 o2 w2 m2 V2):AtC K (k1+k2) o w mb m V o2 w2 m2 V2 :=
 ⟨h.st.trans h'.st,h'.waits.trans h.waits,by have:=h.many;have:=h'.many;omega⟩
theorem AtC.mono (h:AtC K k1 o w mb m V o1 w1 m1 V1)(hk:k1<=k2):AtC K k2 o w mb m V o1 w1 m1 V1:=⟨h.st,h.waits,Nat.le_trans h.many (by omega)⟩
theorem AtC.below (h:AtC K k o w mb m V o1 w1 m1 V1)(hb:Below w1.heap.size w1 w2):AtC K k o w mb m V o1 w2 m1 V1:=⟨h.st.below hb,h.waits,h.many⟩
theorem AtC.vars (h:AtC K k o w mb m V o1 w1 m1 V1)(hv:m.d.vars.length=n):m1.d.vars.length=n:=by rw[h.st.ext.vars];exact hv
theorem Zn3.after {er:Int}{evt:Bool}{ev:Ev}(h:AtC K k1 o w mb m V o1 w1 m1 V1)(h':Zn3 K k2 o1 w1 mb m1 V1 er evt ev w2)(hk:k1+k2<=k):Zn3 K k o w mb m V er evt ev w2:=by
 obtain⟨o2,m2,V2,st,⟨a1,a2,a3,a4,a5,a6⟩|⟨a1,a2,a3⟩⟩:=h'
 . have:=h.many;exact⟨o2,m2,V2,h.st.trans st,.inl ⟨a1,a2,a3,a4.trans h.waits,a5,by omega⟩⟩
 . exact⟨o2,m2,V2,h.st.trans st,.inr ⟨a1,a2,by rw[<- h.waits];exact a3⟩⟩
theorem Zz6 (hK:Zbh K)(h:Zdo (K m.d V) o w mb m)(hlt:Zaj o w)(hx:Zdz o w xb mb)(hk:Zan m.d V)(v lo hi:Nat)(hv:v<m.d.vars.length)(hlo:okE (Zab m.d) lo)(hhi:okE (Zab m.d) hi)
 (hgl:levN m.d v<lvE m.d.vars.length (levN m.d) (Zab m.d) lo) (hgh:levN m.d v<lvE m.d.vars.length (levN m.d) (Zab m.d) hi) :
 Calls prog 139 #[.pointer (some ⟨xb,0,none⟩),.int .i64 v,.int .i64 lo,.int .i64 hi] w (Zjj K 1 o w mb m V fun d V' r=>ef V' r=iteF v (ef V hi) (ef V lo)/\levN m.d v<=lvE m.d.vars.length (levN d) (Zab d) r):=by
 refine(Zkc hK h hlt hx hk v lo hi hlo hhi).mono ?_;rintro e w' ⟨o',m',V',st,⟨ev,h1,_,_,_,_,rfl⟩|⟨h1,_,_,(⟨er,g0,hd,_,rfl⟩|⟨_,_,r,rfl,h2,h3,h4,h5⟩)⟩⟩
 . exact .inr ⟨0,true,ev,rfl,o',m',V',st,.inr ⟨rfl,rfl,h1⟩⟩
 .
  rcases g0 with ⟨_,h⟩|⟨_,_,_,h⟩|⟨rfl,h⟩
  . exact(h ⟨by omega,by omega⟩).elim
  . simp only[Int.toNat_natCast] at h;omega
  . exact .inr ⟨7,false,ev0,rfl,o',m',V',st,.inl ⟨rfl,rfl,rfl,h1,by rw[hd];exact h,by rw[hd];omega⟩⟩
 . exact .inl ⟨r,o',m',V',rfl,⟨st,h1,h5⟩,h2,h3,h4⟩
theorem Zrf (hK:Zbh K)(h:Zdo (K m.d V) o w mb m)(hlt:Zaj o w)(hx:Zdz o w xb mb)(hk:Zan m.d V)(v:Nat)(hv:v<m.d.vars.length) :
 Calls prog 139 #[.pointer (some ⟨xb,0,none⟩),.int .i64 v,.int .i64 (1:Nat),.int .i64 (0:Nat)] w (Zjj K 1 o w mb m V fun _ V' r=>ef V' r=varF v):=by
 have g0:=hk.dag.lt v hv;refine(Zz6 hK h hlt hx hk v 1 0 hv (.inl rfl) (.inl rfl) (by rw[Zgk hk rfl];exact g0) (by rw[Zgk hk rfl];exact g0)).mono ?_;rintro e w' (⟨r,o',m',V',rfl,h1,h2,h3,_⟩|h)
 .
  refine .inl ⟨r,o',m',V',rfl,h1,h2,?_⟩
  show ef V' r=varF v
  rw[h3];funext ρ;simp only[iteF,varF,Zho hk.dag.one,Zkf hk.dag.one];cases ρ v<;>rfl
 . exact .inr h
theorem Zjp (hK:Zbh K)(h:Zdo (K m.d V) o w mb m)(hlt:Zaj o w)(hx:Zdz o w xb mb)(hk:Zan m.d V)(hn:m.d.vars.length=n)(f g e:Nat)(hf:okE (Zab m.d) f)(hg:okE (Zab m.d) g)(he:okE (Zab m.d) e) :
 Calls prog 141 #[.pointer (some ⟨xb,0,none⟩),.int .i64 f,.int .i64 g,.int .i64 e] w (Zjj K (2^n-1) o w mb m V fun _ V' r=>ef V' r=Zcf (ef V f) (ef V g) (ef V e)):=by
 have hp2:0<2^n:=Nat.pow_pos (by omega);refine(Zlu hK n o w xb mb m V f g e h hlt hx hk hf hg he (by omega)).mono ?_;rintro x w' ⟨o',m',V',st,⟨r,rfl,h1,h2,h3⟩|⟨rfl,h2,h3,h4⟩|⟨ev,rfl,h1⟩⟩
 .
  refine .inl ⟨r,o',m',V',rfl,⟨st,h2,by omega⟩,h1.okR,?_⟩
  show ef V' r=Zcf (ef V f) (ef V g) (ef V e)
  funext ρ;rw[h1.val ρ,st.ext.ef hf,st.ext.ef hg,st.ext.ef he];rfl
 . exact .inr ⟨7,false,ev0,rfl,o',m',V',st,.inl ⟨rfl,rfl,rfl,h2,h3,by omega⟩⟩
 . exact .inr ⟨0,true,ev,rfl,o',m',V',st,.inr ⟨rfl,rfl,h1⟩⟩
theorem Yby {C:Nat->Prop}{B:World->Prop}{gop:Nat}{lop:Array Value}{F:BF}(ws0:List Ev)(lim:Option Nat)(hlim:Zp7 ws0 lim k room)(hhap:∀ ev∈ws0,HapG K n Od room w0 mb fs nx ev)
 (hB:∀ W W',B W->(∀ c,C c->W'.heap[c]?=W.heap[c]?)->B W')
 (hop:∀ (o:Own) (W:World) (m:ManD) (V:Nat->BF) (xb:Nat),SatE K n Od room w0 mb fs nx W o m V->B W->(∀ k,C k->k<W.heap.size/\o k=none)->Zdz o W xb mb->¬ C xb->Calls prog gop (#[.pointer (some ⟨xb,0,none⟩)]++lop) W (Zjj K k o W mb m V fun _ V' r=>ef V' r=F)) :
 OpG K n Od room w0 mb fs nx C B (StL ws0 lim) gop lop (QF ws0 lim k F) (EL (SatX K n Od room w0 mb fs nx) k ws0 lim):=by
 intro o W m V xb g3 hb hC g0 g5 hnx;refine(hop o W m V xb g3 hb hC g5 hnx).mono ?_;have g2:∀ {o':Own} {w':World} {m':ManD} {V':Nat->BF},Step K o W mb m V o' w' m' V'->B w':=fun st=>hB _ _ hb fun c hc=>st.chg.alien (hC c hc).1 (hC c hc).2
 rintro e w' (⟨r,o',m',V',rfl,h1,h2,h3⟩|⟨er,evt,ev,rfl,o',m',V',st,⟨rfl,rfl,rfl,a4,a5,a6⟩|⟨rfl,rfl,a3⟩⟩)
 . exact⟨o',m',V',h1.st.toX _,g2 h1.st,.inl ⟨r,rfl,h2,h3,by rw[h1.waits];exact g0.1,fun M e=>by have:=g0.2 M e;have:=h1.many;omega⟩⟩
 . have g4:lim=none:=Zm7 (m':=m') hlim g0.2 (by rw[<- a5];omega) (by rw[st.ext.room];exact g3.room);exact⟨o',m',V',st.toX _,g2 st,.inr (.inl ⟨7,rfl,by omega,a4,⟨by unfold Zj5;rw[a4];exact g0.1,by subst g4;exact fun M e=>by cases e⟩,g4,rfl,⟨_,_,_,g3⟩,a5,a6,by rw[a4];exact g0.1⟩)⟩
 . have g1:m.waits <:+ ws0:=g0.1;rw[a3] at g1;exact⟨o',m',V',st.toX _,g2 st,.inr (.inr ⟨ev,rfl,a3,fun _ _ _ _ _ e _ _=>⟨by unfold Zj5;rw[e];exact(List.suffix_cons ev m'.waits).trans g1,Zvm hlim g1⟩,hhap ev (g1.subset (List.mem_cons_self ..))⟩)⟩
end
open Go.RowKit
theorem Zmu (V:Nat->BF)(e:Nat):ef V (enot e)=notF (ef V e):=funext fun ρ=>Zhn V e ρ
def Zp9 (K:Law)(n:Nat)(g:Nat)(G:BF->BF->BF):Prop:=∀ (o:Own) (w:World) (xb mb:Nat) (m:ManD) (V:Nat->BF) (a b:Nat),Zdo (K m.d V) o w mb m->Zaj o w->Zdz o w xb mb->Zan m.d V->m.d.vars.length=n->okE (Zab m.d) a->okE (Zab m.d) b ->
 Calls prog g #[.pointer (some ⟨xb,0,none⟩),.int .i64 a,.int .i64 b] w (Zjj K (2^n-1) o w mb m V fun _ V' r=>ef V' r=G (ef V a) (ef V b))
section
variable {K:Law}{n:Nat}
theorem Zgv {o:Own}{w:World}{mb:Nat}{m:ManD}{V:Nat->BF}(h:Zdo (K m.d V) o w mb m){e:Nat}(he:okE (Zab m.d) e):e<eMax:=by
 obtain⟨s,hs⟩:=h;obtain⟨s2,h2⟩:=hs.store;have:=h2.edge_lt he;unfold eMax;omega
theorem Ybz (hK:Zbh K):Zp9 K n 152 andF:=by
 intro o w xb mb m V a b h g0 hx hk hn ha hb;have hI:=Zjp hK h g0 hx hk hn a b 1 ha hb (.inl rfl);have e:Zcf (ef V a) (ef V b) (ef V 1)=andF (ef V a) (ef V b):=by
  rw[hk.dag.ef1];rfl
 rw[e] at hI;have HI:=Hd hI;clear hI e h g0 hx hk hn ha hb hK
 go_enter func152,ntmps152
 go_wp2_with fail;refine HI.out.mono ?_;rintro e w' (⟨r,o',m',V',rfl,h⟩|⟨er,evt,ev,rfl,h⟩)
 . have HR:=Hd h;clear h HI;go_wp2_with fail;go_ret;exact .inl ⟨r,o',m',V',rfl,HR.out⟩
 . have HR:=Hd h;clear h HI;unfold Zcg;go_wp2_with fail;exact⟨rfl,.inr ⟨er,evt,ev,rfl,HR.out⟩⟩
theorem Ycg (hK:Zbh K):Zp9 K n 147 orF:=by
 intro o w xb mb m V a b h g0 hx hk hn ha hb;have hI:=Zjp hK h g0 hx hk hn a 0 b ha (.inl rfl) hb;have e:Zcf (ef V a) (ef V 0) (ef V b)=orF (ef V a) (ef V b):=by
  rw[hk.dag.ef0];rfl
 rw[e] at hI;have HI:=Hd hI;clear hI e h g0 hx hk hn ha hb hK
 go_enter func147,ntmps147
 go_wp2_with fail;refine HI.out.mono ?_;rintro e w' (⟨r,o',m',V',rfl,h⟩|⟨er,evt,ev,rfl,h⟩)
 . have HR:=Hd h;clear h HI;go_wp2_with fail;go_ret;exact .inl ⟨r,o',m',V',rfl,HR.out⟩
 . have HR:=Hd h;clear h HI;unfold Zcg;go_wp2_with fail;exact⟨rfl,.inr ⟨er,evt,ev,rfl,HR.out⟩⟩
theorem Ya0 (hK:Zbh K):Zp9 K n 145 Zoj:=by
 intro o w xb mb m V a b h g0 hx hk hn ha hb;have hI:=Zjp hK h g0 hx hk hn a (enot b) 1 ha (Zie hb) (.inl rfl);have e:Zcf (ef V a) (ef V (enot b)) (ef V 1)=Zoj (ef V a) (ef V b):=by
  rw[Zmu,hk.dag.ef1];rfl
 rw[e] at hI;have HI:=Hd hI;have HN:=Hd (Zht b w (Zgv h hb));clear hI e h g0 hx hk hn ha hb hK
 go_enter func145,ntmps145
 go_wp2_with fail;refine HN.out.mono ?_;rintro x w' ⟨rfl,rfl⟩;go_wp2_with fail;refine HI.out.mono ?_;rintro e w' (⟨r,o',m',V',rfl,h⟩|⟨er,evt,ev,rfl,h⟩)
 . have HR:=Hd h;clear h HI;go_wp2_with fail;go_ret;exact .inl ⟨r,o',m',V',rfl,HR.out⟩
 . have HR:=Hd h;clear h HI;unfold Zcg;go_wp2_with fail;exact⟨rfl,.inr ⟨er,evt,ev,rfl,HR.out⟩⟩
end
open Go.RowKit
theorem Zon (args:Array Value)(w:World):(callFunc 197 args).run prog w=.ok (.enter 197 args) w:=enters_of func197 (by kernel_rfl) rfl args w
theorem Zop (args:Array Value)(w:World):(callFunc 198 args).run prog w=.ok (.enter 198 args) w:=enters_of func198 (by kernel_rfl) rfl args w
structure BoB (ba bf bb:Nat)(ka kb:Int)(g:Nat)(W:World):Prop where
 a:W.cell? ⟨ba,0,none⟩=some (.int .i64 ka)
 f:W.cell? ⟨bf,0,none⟩=some (.func (.func g) #[] #[])
 b:W.cell? ⟨bb,0,none⟩=some (.int .i64 kb)
theorem BoB.keep {ba bf bb:Nat}{ka kb:Int}{g:Nat}(W W':World)(h:BoB ba bf bb ka kb g W)(hk:∀ c,C3 ba bf bb c->W'.heap[c]?=W.heap[c]?):BoB ba bf bb ka kb g W' :=
 ⟨(World.cell?_of_block (w:=W) (a:=⟨ba,0,none⟩) (hk _ (.inl rfl))).trans h.a,(World.cell?_of_block (w:=W) (a:=⟨bf,0,none⟩) (hk _ (.inr (.inl rfl)))).trans h.f,(World.cell?_of_block (w:=W) (a:=⟨bb,0,none⟩) (hk _ (.inr (.inr rfl)))).trans h.b⟩
section
variable {K:Law}{n:Nat}{Od:List Nat->Prop}{room:Nat}{w0 w:World}{mb xb:Nat}{fs:List (Int×BF)}{nx:Int}{o:Own}{m:ManD}{V:Nat->BF}
theorem Zz1 {g:Nat}{G:BF->BF->BF}(hG:Zp9 K n g G)(eg:∀ args w,(callFunc g args).run prog w=.ok (.enter g args) w){ba bf bb:Nat}{ka kb:Int}{F1 F2:BF}(h1:(ka,F1)∈fs)(h2:(kb,F2)∈fs)(hsat:SatE K n Od room w0 mb fs nx w o m V)(hB:BoB ba bf bb ka kb g w)(hno:∀ c,C3 ba bf bb c->o c=none)(hx:Zdz o w xb mb) :
 Calls prog 197 #[.pointer (some ⟨xb,0,none⟩),.pointer (some ⟨ba,0,none⟩),.pointer (some ⟨bf,0,none⟩),.pointer (some ⟨bb,0,none⟩)] w (Zjj K (2^n-1) o w mb m V fun _ V' r=>ef V' r=G F1 F2):=by
 obtain⟨f1,g6,e1⟩:=hsat.find h1;obtain⟨f2,g5,e2⟩:=hsat.find h2;have hk:=hsat.ok;have g0:Below w.heap.size w w.drew:=Zaf w 1;obtain⟨s,g8⟩:=hsat.is;have g4:=g8.below hsat.lt g0;have g9:=hsat.lt.mono g0.size;have g2:Zdz o w.drew xb mb:=⟨(g0.cell (p:=⟨xb,0,none⟩) (Zaa hx.cell)).trans hx.cell,hx.own⟩;have ca:=hB.a;have cf:=(g0.cell (p:=⟨bf,0,none⟩) (Zaa hB.f)).trans hB.f;have cb:=(g0.cell (p:=⟨bb,0,none⟩) (Zaa hB.b)).trans hB.b;have gd:=Hd (Zdh hsat.is hx hk.handles.nodup g6);have gc:=Hd (Zdh ⟨s,g4⟩ g2 hk.handles.nodup g5);have g3:=hG o w.drew xb mb m V f1 f2 ⟨s,g4⟩ g9 g2 hk.store hsat.vars (hk.handles.ok _ g6) (hk.handles.ok _ g5);rw[show ef V f1=F1 from e1,show ef V f2=F2 from e2] at g3;have g7:AtC K 0 o w mb m V o w.drew m V:=(AtC.refl hsat.is hsat.lt hk.store).below g0;obtain⟨P,hP⟩:∃ P:Ending->World->Prop,P=Zjj K (2^n-1) o w mb m V fun _ V' r=>ef V' r=G F1 F2:=⟨_,rfl⟩
 have gb:Hid (Calls prog g #[.pointer (some ⟨xb,0,none⟩),.int .i64 f1,.int .i64 f2] w.drew fun e w'=>(∃ v,e=.returned v/\(w'.cell? ⟨bf,0,none⟩=some (.func (.func g) #[] #[])/\w'.cell? ⟨bb,0,none⟩=some (.int .i64 kb))/\P (.returned v) w')\/(∃ ch,e=.panicked ch/\P (.panicked ch) w')):=Hd (g3.mono (by
  subst hP;rintro e w' (⟨r,o',m',V',rfl,q1,q2,q3⟩|⟨er,evt,ev,rfl,q⟩)
  . exact .inl ⟨_,rfl,⟨q1.st.chg.cell cf (hno bf (.inr (.inl rfl))),q1.st.chg.cell cb (hno bb (.inr (.inr rfl)))⟩,.inl ⟨r,o',m',V',rfl,(g7.trans q1).mono (by omega),q2,q3⟩⟩
  . exact .inr ⟨_,rfl,.inr ⟨er,evt,ev,rfl,q.after g7 (by omega)⟩⟩))
 rw[<- hP];clear hG h1 h2 hsat hB hx hno g6 g5 e1 e2 hk g0 g8 g4 g9 g2 g3 g7 hP
 go_enter func197,ntmps197
 go_wp2_with fail;refine gd.out.mono ?_;rintro x w' ⟨rfl,rfl⟩;go_upto_region 2 with fail;refine Zdy (fun W:World=>W.cell? ⟨bf,0,none⟩=some (.func (.func g) #[] #[])/\W.cell? ⟨bb,0,none⟩=some (.int .i64 kb)) (fun ch w'=>P (.panicked ch) w') 8 (fun c a w hd h=>⟨hd,h⟩) (by kernel_rfl) ⟨cf,cb⟩ ?_;refine Za4 0 rfl rfl (by kernel_rfl) ?_;apply Exists.intro;refine⟨fun w' hw=>?_,?_⟩
 . obtain⟨q1,q2⟩:=hw;go_simp;rfl
 simp only[Zah];refine Za4 1 rfl rfl (by kernel_rfl) ?_;apply Exists.intro;refine⟨fun w' hw=>?_,?_⟩
 . obtain⟨q1,q2⟩:=hw;go_simp;rfl
 simp only[Zah];refine Za4 2 rfl rfl (by kernel_rfl) ?_;apply Exists.intro;refine⟨fun w' hw=>?_,?_⟩
 . obtain⟨q1,q2⟩:=hw;go_simp;rfl
 simp only[Zah];refine Za4 3 rfl rfl (by kernel_rfl) ?_;apply Exists.intro;refine⟨fun w' hw=>?_,?_⟩
 . obtain⟨q1,q2⟩:=hw;go_simp;rfl
 simp only[Zah];refine Za4 4 rfl rfl (by kernel_rfl) ?_;apply Exists.intro;refine⟨fun w' hw=>?_,?_⟩
 . obtain⟨q1,q2⟩:=hw;go_simp;rfl
 simp only[Zah];refine Zc6 [5] (by kernel_rfl) (fun i hi hS o ho=>?_);simp only[Zbb] at hi;subst hi;simp only[Za2] at ho;subst ho;refine⟨rfl,?_⟩;refine Zas (v:=.int .i64 (f2:Nat)) (R:=fun w'=>w.drew=w') (by go_simp) gc.out ?_;rintro w' rfl;refine⟨⟨cf,cb⟩,?_⟩;simp only[Zah];refine Zc6 [6] (by kernel_rfl) (fun i hi hS o ho=>?_);simp only[Zbb] at hi;subst hi;simp only[Za2] at ho;subst ho;refine⟨rfl,?_⟩;refine Zg1 (R:=fun v w'=>(w'.cell? ⟨bf,0,none⟩=some (.func (.func g) #[] #[])/\w'.cell? ⟨bb,0,none⟩=some (.int .i64 kb))/\P (.returned v) w') (R2:=fun ch w'=>P (.panicked ch) w') (by go_simp) gb.out ?_ ?_
 .
  rintro v w' ⟨hS,g1⟩;refine⟨hS,?_⟩;have ga:=Hd g1;clear g1;simp only[Zah];refine Za4 7 rfl rfl (by kernel_rfl) ?_;apply Exists.intro;refine⟨fun w' hw=>?_,?_⟩
  . obtain⟨q1,q2⟩:=hw;go_simp;rfl
  simp only[Zah];refine Zh7 (by kernel_rfl) ?_;clear hS cf cb ca;go_wp2_with fail;exact ga.out
 . intro ch w' g1;exact⟨rfl,g1⟩
def Zhq (G:BF->BF->BF)(C:BF)(Fs:List BF):BF:=Fs.foldl G C
theorem Zsq (G:BF->BF->BF)(C:BF){Fs:List BF}{i:Nat}(hi:i<Fs.length):Zhq G C (Fs.take (i+1))=G (Zhq G C (Fs.take i)) Fs[i]:=by
 unfold Zhq;rw[List.take_succ_eq_append_getElem hi,List.foldl_append];rfl
structure BoF (b1 bl bf:Nat)(e0:Nat)(a:Option Addr)(c:Nat)(ks:List Int)(g:Nat)(W:World):Prop where
 e:W.cell? ⟨b1,0,none⟩=some (.int .i64 e0)
 l:W.cell? ⟨bl,0,none⟩=some (.slice a ks.length c)
 f:W.cell? ⟨bf,0,none⟩=some (.func (.func g) #[] #[])
 z:Zay W a ks
theorem Yak {g:Nat}{G:BF->BF->BF}(hG:Zp9 K n g G)(eg:∀ args w,(callFunc g args).run prog w=.ok (.enter g args) w){b1 bl bf e0 c:Nat}{a:Option Addr}{ks:List Int}{Fs:List BF}(he0:e0/2=0)(hlen:Fs.length=ks.length)(hks:∀ i (h:i<ks.length),(ks[i],Fs[i]'(by omega))∈fs)(hsat:SatE K n Od room w0 mb fs nx w o m V)(hB:BoF b1 bl bf e0 a c ks g w)(hno:∀ k,(k=b1\/k=bl\/k=bf\/∃ x,a=some x/\k=x.block)->o k=none)(hx:Zdz o w xb mb) :
 Calls prog 198 #[.pointer (some ⟨xb,0,none⟩),.pointer (some ⟨b1,0,none⟩),.pointer (some ⟨bl,0,none⟩),.pointer (some ⟨bf,0,none⟩)] w (Zjj K (ks.length*(2^n-1)) o w mb m V fun _ V' r=>ef V' r=Zhq G (ef V e0) Fs):=by
 have hk:=hsat.ok;have ce:=hB.e;have cl:=hB.l;have HB:=Hd hB;have g5:=Hd hno;have gf:=hB.z.len;obtain⟨I,hI⟩:∃ I:Nat->Nat->World->Prop,I=fun i r wr=>∃ o' m' V',AtC K (i*(2^n-1)) o w mb m V o' wr m' V'/\okE (Zab m'.d) r/\ef V' r=Zhq G (ef V e0) (Fs.take i):=⟨_,rfl⟩
 have g6:Hid (I 0 e0 w):=by rw[hI];exact Hd ⟨o,m,V,(AtC.refl hsat.is hsat.lt hk.store).mono (by omega),.inl he0,rfl⟩
 have g1:Hid (∀ i r wr,I i r wr->∀ p v,w.cell? p=some v->o p.block=none->wr.cell? p=some v):=by rw[hI];exact Hd fun i r wr ⟨o',m',V',h,_⟩ p v hc ho=>h.st.chg.cell hc ho
 obtain⟨P,hP⟩:∃ P:Ending->World->Prop,P=Zjj K (ks.length*(2^n-1)) o w mb m V fun _ V' r=>ef V' r=Zhq G (ef V e0) Fs:=⟨_,rfl⟩
 have g2:Hid (∀ r wr,I ks.length r wr->P (.returned (.int .i64 (r:Nat))) wr):=by
  rw[hI,hP];exact Hd fun r wr ⟨o',m',V',h,h2,h3⟩=>.inl ⟨r,o',m',V',rfl,h,h2,by rw[<- hlen,List.take_length] at h3;exact h3⟩
 have g0:Hid (∀ i r wr,i<ks.length->I i r wr->∃ f,(Calls prog 142 #[.pointer (some ⟨xb,0,none⟩),.int .i64 (at0 ks i)] wr.drew fun x w'=>x=.returned (.int .i64 (f:Nat))/\wr.drew=w') /\
  Calls prog g #[.pointer (some ⟨xb,0,none⟩),.int .i64 (r:Nat),.int .i64 (f:Nat)] wr.drew fun e w'=>(∃ v,e=.returned v/\(w'.cell? ⟨bf,0,none⟩=some (.func (.func g) #[] #[])/\True)/\∃ r':Nat,v=.int .i64 r'/\I (i+1) r' w')\/(∃ ch,e=.panicked ch/\P (.panicked ch) w')):=by
  rw[hI,hP];refine Hd fun i r wr hi ⟨o',m',V',h,h2,h3⟩=>?_
  have g9:=hks i hi;obtain⟨f,hf,e1⟩:=hsat.find g9;have g4:Below wr.heap.size wr wr.drew:=Zaf wr 1;have hd:=h.below g4;have g7:=hx.chg hd.st.chg;have gc:(ks[i],f)∈m'.hs:=by rw[hd.st.hs];exact hf
  have gb:okE (Zab m'.d) f:=hd.st.ext.ok (hk.handles.ok _ hf);refine⟨f,by rw[Zby hi];exact Zdh hd.st.is g7 (by rw[hd.st.hs];exact hk.handles.nodup) gc,?_⟩;refine(hG o' wr.drew xb mb m' V' r f hd.st.is hd.st.lt g7 hd.st.ok (hd.vars hsat.vars) h2 gb).mono ?_;rintro e w' (⟨r',o2,m2,V2,rfl,q1,q2,q3⟩|⟨er,evt,ev,rfl,q⟩)
  . have hq:=hd.trans q1;refine .inl ⟨_,rfl,⟨hq.st.chg.cell HB.out.f (g5.out bf (.inr (.inr (.inl rfl)))),trivial⟩,r',rfl,o2,m2,V2,hq.mono (by rw[Nat.succ_mul];exact Nat.le_refl _),q2,?_⟩;have gd:ef V' f=Fs[i]'(by omega):=(hd.st.ext.ef (hk.handles.ok _ hf)).trans e1;rw[Zsq G _ (by omega),q3,h3,gd]
  . refine .inr ⟨_,rfl,.inr ⟨er,evt,ev,rfl,q.after hd ?_⟩⟩;have:=Nat.mul_le_mul_right (2^n-1) (show i+1<=ks.length by omega);rw[Nat.succ_mul] at this;exact this
 rw[<- hP];clear hI hP hG hsat hB hno hx hk hks
 go_enter func198,ntmps198
 go_wp2_with fail
 go_loopw [6,8,12] (fun s6 _ s12 wr=>∃ (i r:Nat),i<=ks.length/\s12=.int .i64 i/\s6=.int .i64 r/\Hid (I i r wr)) (fun _ _ s12 _=>ks.length-(intOf s12).toNat)
 case atStart=>exact⟨0,e0,Nat.zero_le _,rfl,rfl,g6⟩
 case round =>
  obtain⟨i,r,hi,rfl,rfl,HI⟩:=hrel
  by_cases g8:i<ks.length
  .
   have ga:(i:Int)<(ks.length:Int):=by omega
   obtain⟨f,hE,hS⟩:=g0.out i r _ g8 HI.out;obtain⟨b,off,rfl,ck⟩:=HB.out.z.cells i g8;have ck1:=g1.out _ _ _ HI.out _ _ ck (g5.out b (.inr (.inr (.inr ⟨_,rfl,rfl⟩))));have cf1:=g1.out _ _ _ HI.out _ _ HB.out.f (g5.out bf (.inr (.inr (.inl rfl))));have g4:Below wr.heap.size wr wr.drew:=Zaf wr 1;have cf2:=(g4.cell (p:=⟨bf,0,none⟩) (Zaa cf1)).trans cf1;have HE:=Hd hE;have HS:=Hd hS;clear hE hS g4 cf1 ck ce cl g6 g0 g2 HI;go_upto_region 5 with fail;refine Zdy (fun W:World=>W.cell? ⟨bf,0,none⟩=some (.func (.func g) #[] #[])/\True) (fun ch w'=>P (.panicked ch) w') 8 (fun c a w hd h=>⟨hd,h⟩) (by kernel_rfl) ⟨cf2,trivial⟩ ?_;refine Za4 0 rfl rfl (by kernel_rfl) ?_;apply Exists.intro;refine⟨fun w' hw=>?_,?_⟩
   . obtain⟨q1,q2⟩:=hw;go_simp;rfl
   simp only[Zah];refine Za4 1 rfl rfl (by kernel_rfl) ?_;apply Exists.intro;refine⟨fun w' hw=>?_,?_⟩
   . obtain⟨q1,q2⟩:=hw;go_simp;rfl
   simp only[Zah];refine Za4 2 rfl rfl (by kernel_rfl) ?_;apply Exists.intro;refine⟨fun w' hw=>?_,?_⟩
   . obtain⟨q1,q2⟩:=hw;go_simp;rfl
   simp only[Zah];refine Za4 3 rfl rfl (by kernel_rfl) ?_;apply Exists.intro;refine⟨fun w' hw=>?_,?_⟩
   . obtain⟨q1,q2⟩:=hw;go_simp;rfl
   simp only[Zah];refine Za4 4 rfl rfl (by kernel_rfl) ?_;apply Exists.intro;refine⟨fun w' hw=>?_,?_⟩
   . obtain⟨q1,q2⟩:=hw;go_simp;rfl
   simp only[Zah];refine Zc6 [5] (by kernel_rfl) (fun i hi hS o ho=>?_);simp only[Zbb] at hi;subst hi;simp only[Za2] at ho;subst ho;refine⟨rfl,?_⟩;refine Zas (v:=.int .i64 (f:Nat)) (R:=fun w'=>wr.drew=w') (by go_simp) HE.out ?_;rintro w' rfl;refine⟨⟨cf2,trivial⟩,?_⟩;simp only[Zah];refine Zc6 [6] (by kernel_rfl) (fun i hi hS o ho=>?_);simp only[Zbb] at hi;subst hi;simp only[Za2] at ho;subst ho;refine⟨rfl,?_⟩;refine Zg1 (R:=fun v w'=>(w'.cell? ⟨bf,0,none⟩=some (.func (.func g) #[] #[])/\True)/\∃ r':Nat,v=.int .i64 r'/\I (i+1) r' w') (R2:=fun ch w'=>P (.panicked ch) w') (by go_simp) HS.out ?_ ?_
   .
    rintro v w' ⟨hS,r',rfl,g3⟩;refine⟨hS,?_⟩;have ge:=Hd g3;clear g3;simp only[Zah];refine Za4 7 rfl rfl (by kernel_rfl) ?_;apply Exists.intro;refine⟨fun w' hw=>?_,?_⟩
    . obtain⟨q1,q2⟩:=hw;go_simp;rfl
    simp only[Zah];refine Zh7 (by kernel_rfl) ?_;clear hS cf2 ck1;go_wp2_with fail;go_roundw
    case rel=>exact⟨i+1,r',by omega,by go_num,rfl,ge⟩
    case measure=>simp[intOf];omega
   . intro ch w' g3;exact⟨rfl,g3⟩
  .
   obtain rfl:i=ks.length:=by omega
   have ga:¬ (ks.length:Int)<(ks.length:Int):=by omega
   have HF:=Hd (g2.out r _ HI.out);clear g6 g0 g2 HI ce cl;go_wp2_with fail;exact HF.out
end
open Go.RowKit
section
variable {K:Law}{n k:Nat}{room:Nat}{w0 w w1:World}{mb:Nat}{fs:List (Int×BF)}{nx:Int}{o:Own}{m:ManD}{V:Nat->BF}
def NewF (K:Law)(n room:Nat)(w0:World)(mb:Nat)(fs:List (Int×BF))(nx:Int)(ws0:List Ev)(F:BF)(o:Own)(w:World)(x:Ending)(w':World):Prop :=
 x=.returned (.tuple #[.int .i64 nx,.int .i64 0])/\∃ o' m' V',ChgX NoB o o' w w'/\m'.waits <:+ ws0/\SatE K n (fun _=>True) room w0 mb (fs++[(nx,F)]) (nx+1) w' o' m' V'
theorem Zuw {C:Nat->Prop}{B:World->Prop}{gop:Nat}{lop:Array Value}{F:BF}(hK:Zbh K)(eg:∀ args w,(callFunc gop args).run prog w=.ok (.enter gop args) w)(ws0:List Ev)
 (hB:∀ W W',B W->(∀ c,C c->W'.heap[c]?=W.heap[c]?)->B W')
 (hop:∀ (o:Own) (W:World) (m:ManD) (V:Nat->BF) (xb:Nat),SatE K n (fun _=>True) room w0 mb fs nx W o m V->B W->(∀ k,C k->k<W.heap.size/\o k=none)->Zdz o W xb mb->¬ C xb->Calls prog gop (#[.pointer (some ⟨xb,0,none⟩)]++lop) W (Zjj K k o W mb m V fun _ V' r=>ef V' r=F))
 (h:SatE K n (fun _=>True) room w0 mb fs nx w o m V) (hb1:Below w.heap.size w w1) (hC:∀ c,C c->c<w1.heap.size/\(w.heap.size<=c\/(w0.heap.size<=c/\o c=none/\∀ W,B W->W.heap[c]?=w.heap[c]?))) (hb:B w1) (hst:m.waits <:+ ws0) (hn:nx<=549755813888) (hr:fs.length*2^n+k<=room) :
 Calls prog 137 #[.pointer (some ⟨mb,0,none⟩),.func (.func gop) #[] lop] w1 (NewF K n room w0 mb fs nx ws0 F o w):=by
 have hw0:=h.chg.size;have g0:∀ c,C c->o c=none:=fun c hc=>by
  rcases(hC c hc).2 with h1|⟨_,h1,_⟩
  . exact h.lt.none h1
  . exact h1
 refine(Zuv hK hB (fun _ _ _ _ _ h _=>h) StL.coll (fun c hc=>by
  rcases(hC c hc).2 with h1|⟨h1,_,_⟩
  . exact Nat.le_trans hw0 h1
  . exact h1) eg (Yby (k:=k) (F:=F) ws0 none (fun _ e=>by cases e) (fun ev _=>Zir hn ev) hB hop) (h.below hb1) hb (fun c hc=>⟨(hC c hc).1,g0 c hc⟩) ⟨hst,fun _ e=>by cases e⟩ (by omega)).mono ?_
 rintro x w' ⟨o',m',V',g3,hc,⟨r,m1,rfl,hs,⟨q1,q2,_⟩,_,_,_,_,_,q3,_⟩|⟨er,m0,_,_,g2,⟨_,e7,⟨W',oo,VV,hs'⟩,h5,h6,_⟩,h7⟩⟩
 .
  refine⟨rfl,o',m',V',⟨hc.os.trans hb1.os,hc.tape.trans hb1.tape,hc.output.trans hb1.output,Nat.le_trans hb1.size hc.size,fun j hj ho _=>?_,hc.ext,fun j hj=>Nat.le_trans hb1.size (hc.new j hj)⟩,by rw[q3];exact q2,by rw[<- q1];exact hs⟩
  by_cases g1:C j
  .
   rcases(hC j g1).2 with h1|⟨_,_,h1⟩
   . omega
   . exact h1 w' g3
  . exact(hc.block j (Nat.lt_of_lt_of_le hj hb1.size) ho g1).trans (hb1.block j hj)
 . exfalso;have h8:=hs'.few (h7 e7);have h9:=g2.room;omega
end
open Go.RowKit
theorem Zsm (args:Array Value)(w:World):(callFunc 152 args).run prog w=.ok (.enter 152 args) w:=enters_of func152 (by kernel_rfl) rfl args w
theorem Zu1 (args:Array Value)(w:World):(callFunc 147 args).run prog w=.ok (.enter 147 args) w:=enters_of func147 (by kernel_rfl) rfl args w
theorem Zqh (args:Array Value)(w:World):(callFunc 145 args).run prog w=.ok (.enter 145 args) w:=enters_of func145 (by kernel_rfl) rfl args w
theorem boxes3v (w:World)(x y z:Value)(s t u:TypeId):∃ w3,w3=((w.alloc (.cells #[x] s)).alloc (.cells #[y] t)).alloc (.cells #[z] u)/\Below w.heap.size w w3/\w3.heap.size=w.heap.size+3/\w3.cell? ⟨w.heap.size,0,none⟩=some x/\w3.cell? ⟨w.heap.size+1,0,none⟩=some y/\w3.cell? ⟨w.heap.size+1+1,0,none⟩=some z:=by
 refine⟨_,rfl,((Zad _ _).alloc (by simp) _).alloc (by simp;omega) _,by simp,?_,?_,?_⟩
 . exact cell1 ((Go.heap_alloc_old _ _ (by simp;omega)).trans ((Go.heap_alloc_old _ _ (by simp)).trans (heap_alloc_new _ _)))
 . have:=heap_alloc_new (w.alloc (.cells #[x] s)) (.cells #[y] t);rw[World.size_alloc] at this;exact cell1 ((Go.heap_alloc_old _ _ (by simp)).trans this)
 . have:=heap_alloc_new ((w.alloc (.cells #[x] s)).alloc (.cells #[y] t)) (.cells #[z] u);rw[World.size_alloc,World.size_alloc] at this;exact cell1 this
def Zha (e0:Nat):BF:=fun _=>decide (e0=0)
theorem Zok {d:Zag}{V:Nat->BF}(hk:Zan d V){e0:Nat}(h:e0/2=0):ef V e0=Zha e0:=by
 rcases(show e0=0\/e0=1 by omega) with rfl|rfl
 . rw[hk.dag.ef0];rfl
 . rw[hk.dag.ef1];rfl
section
variable {K:Law}{n:Nat}{room:Nat}{w0 w:World}{mb:Nat}{fs:List (Int×BF)}{nx:Int}{o:Own}{m:ManD}{V:Nat->BF}{ws0:List Ev}
theorem Zw7 (hK:Zbh K){g:Nat}{G:BF->BF->BF}(hG:Zp9 K n g G)(eg:∀ args w,(callFunc g args).run prog w=.ok (.enter g args) w)(h:SatE K n (fun _=>True) room w0 mb fs nx w o m V){ka kb:Int}{F1 F2:BF}(h1:(ka,F1)∈fs)(h2:(kb,F2)∈fs)(hst:m.waits <:+ ws0)(hn:nx<=549755813888)(hr:fs.length*2^n+(2^n-1)<=room) :
 Calls prog 144 #[.pointer (some ⟨mb,0,none⟩),.func (.func g) #[] #[],.int .i64 ka,.int .i64 kb] w (NewF K n room w0 mb fs nx ws0 (G F1 F2) o w):=by
 have g5:∀ (fn:Fn) (first cap:Array Value) (w:World),(Instr.makeFunc fn first cap).run prog w=.ok (.func fn first cap) w:=fun _ _ _ _=>rfl
 obtain⟨w3,g0,g1,g3,c0,c1,c2⟩:=boxes3v w (.func (.func g) #[] #[]) (.int .i64 ka) (.int .i64 kb) 258 3 3;have g4:Hid (_=w3):=Hd g0.symm
 have g2:=Hd (Zuw (C:=C3 (w.heap.size+1) w.heap.size (w.heap.size+1+1)) (B:=BoB (w.heap.size+1) w.heap.size (w.heap.size+1+1) ka kb g) (F:=G F1 F2) (k:=2^n-1) (lop:=#[.pointer (some ⟨w.heap.size+1,0,none⟩),.pointer (some ⟨w.heap.size,0,none⟩),.pointer (some ⟨w.heap.size+1+1,0,none⟩)]) hK Zon ws0 BoB.keep
  (fun o W m V xb hs hB hC hx _=>Zz1 hG eg h1 h2 hs hB (fun c hc=>(hC c hc).2) hx) h g1 (by rintro c (rfl|rfl|rfl)<;>exact⟨by omega,.inl (by omega)⟩) ⟨c1,c0,c2⟩ hst hn hr)
 clear g0 g1 g3 c0 c1 c2 h hK hG hst hn hr h1 h2;obtain⟨P,hP⟩:∃ P,P=NewF K n room w0 mb fs nx ws0 (G F1 F2) o w:=⟨_,rfl⟩;rw[<- hP] at g2 ⊢;have HT:Hid (∀ x w',P x w'->∃ a b,x=.returned (.tuple #[.int .i64 a,.int .i64 b])):=Hd (by subst hP;rintro x w' ⟨rfl,_⟩;exact⟨_,_,rfl⟩);clear hP
 go_enter func144,ntmps144
 go_upto_region 1 with fail;rw[g4.out];go_wp2_with fail;refine g2.out.mono ?_;intro x w' hd;obtain⟨a,b,rfl⟩:=HT.out x w' hd;have HD:=Hd hd;clear hd;go_wp2_with fail;exact HD.out
theorem Zrj (hK:Zbh K){g:Nat}{G:BF->BF->BF}(hG:Zp9 K n g G)(eg:∀ args w,(callFunc g args).run prog w=.ok (.enter g args) w)(h:SatE K n (fun _=>True) room w0 mb fs nx w o m V){e0 c:Nat}{a:Option Addr}{ks:List Int}{Fs:List BF}(he0:e0/2=0)(hz:Zay w a ks)(ha:∀ x,a=some x->x.block<w.heap.size/\w0.heap.size<=x.block/\o x.block=none)(hlen:Fs.length=ks.length)(hks:∀ i (h:i<ks.length),(ks[i],Fs[i]'(by omega))∈fs)(hst:m.waits <:+ ws0)(hn:nx<=549755813888)(hr:fs.length*2^n+ks.length*(2^n-1)<=room) :
 Calls prog 146 #[.pointer (some ⟨mb,0,none⟩),.int .i64 e0,.func (.func g) #[] #[],.slice a ks.length c] w (NewF K n room w0 mb fs nx ws0 (Zhq G (Zha e0) Fs) o w):=by
 have g5:∀ (fn:Fn) (first cap:Array Value) (w:World),(Instr.makeFunc fn first cap).run prog w=.ok (.func fn first cap) w:=fun _ _ _ _=>rfl
 obtain⟨w3,g1,g0,g3,c0,c1,c2⟩:=boxes3v w (.int .i64 e0) (.func (.func g) #[] #[]) (.slice a ks.length c) 151 258 23;have g4:Hid (_=w3):=Hd g1.symm
 have g2:=Hd (Zuw (C:=fun k=>k=w.heap.size\/k=w.heap.size+1+1\/k=w.heap.size+1\/∃ x,a=some x/\k=x.block) (B:=fun W=>BoF w.heap.size (w.heap.size+1+1) (w.heap.size+1) e0 a c ks g W/\∀ x,a=some x->W.heap[x.block]?=w.heap[x.block]?) (F:=Zhq G (Zha e0) Fs) (k:=ks.length*(2^n-1)) (lop:=#[.pointer (some ⟨w.heap.size,0,none⟩),.pointer (some ⟨w.heap.size+1+1,0,none⟩),.pointer (some ⟨w.heap.size+1,0,none⟩)]) hK Zop ws0
  (fun W W' hB hk=>⟨⟨(World.cell?_of_block (w:=W) (a:=⟨w.heap.size,0,none⟩) (hk _ (.inl rfl))).trans hB.1.e,(World.cell?_of_block (w:=W) (a:=⟨w.heap.size+1+1,0,none⟩) (hk _ (.inr (.inl rfl)))).trans hB.1.l,(World.cell?_of_block (w:=W) (a:=⟨w.heap.size+1,0,none⟩) (hk _ (.inr (.inr (.inl rfl))))).trans hB.1.f,⟨hB.1.z.len,fun i hi=>by
   obtain⟨b,off,e,hc⟩:=hB.1.z.cells i hi;exact⟨b,off,e,(World.cell?_of_block (w:=W) (a:=⟨b,off+i,none⟩) (hk _ (.inr (.inr (.inr ⟨_,e,rfl⟩))))).trans hc⟩⟩⟩,fun x hx=>(hk _ (.inr (.inr (.inr ⟨x,hx,rfl⟩)))).trans (hB.2 x hx)⟩)
  (fun o W m V xb hs hB hC hx _=>by
   have:=Yak hG eg he0 hlen hks hs hB.1 (fun k hk=>(hC k hk).2) hx;rw[Zok hs.ok.store he0] at this;exact this) h g0 (by
   rintro k (rfl|rfl|rfl|⟨x,hx,rfl⟩)
   . exact⟨by omega,.inl (by omega)⟩
   . exact⟨by omega,.inl (by omega)⟩
   . exact⟨by omega,.inl (by omega)⟩
   . have:=ha x hx;exact⟨by omega,.inr ⟨this.2.1,this.2.2,fun W hW=>hW.2 x hx⟩⟩) ⟨⟨c0,c2,c1,hz.below g0⟩,fun x hx=>g0.block _ (ha x hx).1⟩ hst hn hr)
 clear g1 g0 g3 c0 c1 c2 h hK hG hst hn hr hz ha hks;obtain⟨P,hP⟩:∃ P,P=NewF K n room w0 mb fs nx ws0 (Zhq G (Zha e0) Fs) o w:=⟨_,rfl⟩;rw[<- hP] at g2 ⊢;have HT:Hid (∀ x w',P x w'->∃ a b,x=.returned (.tuple #[.int .i64 a,.int .i64 b])):=Hd (by subst hP;rintro x w' ⟨rfl,_⟩;exact⟨_,_,rfl⟩);clear hP
 go_enter func146,ntmps146
 go_upto_region 1 with fail;rw[g4.out];go_wp2_with fail;refine g2.out.mono ?_;intro x w' hd;obtain⟨a,b,rfl⟩:=HT.out x w' hd;have HD:=Hd hd;clear hd;go_wp2_with fail;exact HD.out
end
open Go.RowKit
open Go.RowKit
def FxS (K:Law)(n room:Nat)(w0:World)(mb:Nat)(ws0:List Ev)(C:Nat->Prop)(o0:Own)(wb:World)(B:World->Own->Prop)(fs:List (Int×BF))(nx:Int)(W:World):Prop :=
 ∃ o m V,ChgX C o0 o wb W/\m.waits <:+ ws0/\SatE K n (fun _=>True) room w0 mb fs nx W o m V/\B W o
def Zdf (B:World->Own->Prop):Prop:=∀ W o W' o',B W o->ChgX NoB o o' W W'->B W' o'
theorem NoB.sub {C:Nat->Prop}{s:Nat}:∀ k,k<s->NoB k->C k:=fun _ _ e=>e.elim
section
variable {K:Law}{n room:Nat}{w0 w W w' wb:World}{mb:Nat}{fs r:List (Int×BF)}{nx:Int}{o0:Own}{ws0:List Ev}{C:Nat->Prop}{B:World->Own->Prop}{k l:Int}{F G:BF}
theorem FxS.below (hB:Zdf B)(h:FxS K n room w0 mb ws0 C o0 wb B fs nx W)(hb:Below W.heap.size W w'):FxS K n room w0 mb ws0 C o0 wb B fs nx w':=by
 obtain⟨o,m,V,h1,h2,h3,h4⟩:=h;exact⟨o,m,V,h1.trans (ChgX.of_below hb o NoB) NoB.sub,h2,h3.below hb,hB _ _ _ _ h4 (ChgX.of_below hb o NoB)⟩
theorem FxS.ask {f:Nat}{args:Array Value}{R:Ending->World->Prop}(h:FxS K n room w0 mb ws0 C o0 wb B fs nx W)(hc:∀ o m V,SatE K n (fun _=>True) room w0 mb fs nx W o m V->Calls prog f args W R):Calls prog f args W R:=by
 obtain⟨o,m,V,_,_,h3,_⟩:=h;exact hc o m V h3
theorem FxS.same (h:FxS K n room w0 mb ws0 C o0 wb B fs nx W)(hk:(k,F)∈fs)(hl:(l,G)∈fs):Calls prog 84 #[.pointer (some ⟨mb,0,none⟩),.int .i64 k,.int .i64 l] W fun x w'=>∃ b:Bool,x=.returned (.tuple #[.bool b,.int .i64 0])/\(b=true↔F=G)/\W=w' :=
 h.ask fun _ _ _ hs=>Zqr hs hk hl
theorem FxS.new {f:Nat}{args:Array Value}(hB:Zdf B)(h:FxS K n room w0 mb ws0 C o0 wb B fs nx W)(hc:∀ o m V,m.waits <:+ ws0->SatE K n (fun _=>True) room w0 mb fs nx W o m V->Calls prog f args W (NewF K n room w0 mb fs nx ws0 F o W)) :
 Calls prog f args W fun x w'=>x=.returned (.tuple #[.int .i64 nx,.int .i64 0])/\FxS K n room w0 mb ws0 C o0 wb B (fs++[(nx,F)]) (nx+1) w':=by
 obtain⟨o,m,V,h1,h2,h3,h4⟩:=h;refine(hc o m V h2 h3).mono ?_;rintro x w' ⟨q1,o',m',V',q2,q3,q4⟩;exact⟨q1,o',m',V',h1.trans q2 NoB.sub,q3,q4,hB _ _ _ _ h4 q2⟩
theorem FxS.copy (hK:Zbh K)(hB:Zdf B)(h:FxS K n room w0 mb ws0 C o0 wb B fs nx W)(hn:nx<549755813888)(hk:(k,F)∈fs) :
 Calls prog 88 #[.pointer (some ⟨mb,0,none⟩),.int .i64 k] W fun x w'=>x=.returned (.tuple #[.int .i64 nx,.int .i64 0])/\FxS K n room w0 mb ws0 C o0 wb B (fs++[(nx,F)]) (nx+1) w':=by
 refine h.new hB fun o m V hw hs=>((Zkn hK hs hn hk).mono ?_)
 rintro x w' ⟨q1,o',m',hh⟩;exact⟨q1,o',m',V,ChgX.of_chg hh.chg NoB,by rw[hh.waits];exact hw,hh.sat⟩
theorem FxS.drop1 (hK:Zbh K)(hB:Zdf B)(hb:B2 fs)(h:FxS K n room w0 mb ws0 C o0 wb B (fs++((k,F)::r)) nx W)(hn:nx<549755813888){T:World}(hT:T=W.alloc (.cells #[.int .i64 k] 3)) :
 Calls prog 87 #[.pointer (some ⟨mb,0,none⟩),.slice (some ⟨W.heap.size,0,none⟩) 1 1] T fun x w'=>x=.returned (.int .i64 0)/\FxS K n room w0 mb ws0 C o0 wb B (fs++r) nx w':=by
 subst hT;have g1:∀ o m V,SatE K n (fun _=>True) room w0 mb (fs++([(k,F)]++r)) nx W o m V->o W.heap.size=none:=fun o m V hs=>hs.lt.none (Nat.le_refl _)
 obtain⟨o,m,V,h1,h2,h3,h4⟩:=h;have g0:=Zad W (.cells #[.int .i64 k] 3);refine(Zko (c:=1) (hs:=[(k,F)]) (r:=r) hK (h3.below g0) hb hn (a:=some ⟨W.heap.size,0,none⟩) (Zet W [k] (by simp)) (fun x hx=>by cases hx;exact h3.lt.none (Nat.le_refl _))).mono ?_;rintro x w' ⟨q1,o',m',hh⟩;have hc:=(ChgX.of_below g0 o NoB).trans (ChgX.of_chg hh.chg NoB) NoB.sub;exact⟨q1,o',m',V,h1.trans hc NoB.sub,by rw[hh.waits];exact h2,hh.sat,hB _ _ _ _ h4 hc⟩
end
structure FunC (K:Law)(n room:Nat)(w0:World)(mb:Nat)(ws0:List Ev)(L:Nat)(C:Nat->Prop)(B:Nat->World->Own->Prop)(bs:List (Int×BF))(g:Nat)(lop:Array Value)(Φ:BF->BF)(er:Nat->Int)(c:Int):Prop where
 enters:∀ args w,(callFunc g args).run prog w=.ok (.enter g args) w
 keep:∀ j,Zdf (B j)
 nat:0<=c
 call:∀ (j:Nat),j<=1000000->∀ (o0:Own) (wb W:World) (fs:List (Int×BF)) (nx h:Int) (F:BF),FxS K n room w0 mb ws0 C o0 wb (B j) fs nx W->B2 fs->(∀ p∈bs,p∈fs)->(h,F)∈fs->nx+c<=549755813888->fs.length<=L ->
  Calls prog g (#[.int .i64 h]++lop) W fun e w'=>∃ p nx',e=.returned (.tuple #[.int .i64 p,.int .i64 (er j)])/\nx<=nx'/\nx'<=nx+c /\
   (er j=0->FxS K n room w0 mb ws0 C o0 wb (B (j+1)) (fs++[(p,Φ F)]) nx' w')/\(er j≠0->FxS K n room w0 mb ws0 C o0 wb (B (j+1)) fs nx' w')
def Zhh (K:Law)(n room:Nat)(w0:World)(mb:Nat)(ws0:List Ev)(C:Nat->Prop)(o0:Own)(wb:World)(B:Nat->World->Own->Prop)(Φ:BF->BF)(er:Nat->Int)(c:Int)(j0:Nat)(F0:BF)(fs:List (Int×BF))(nx:Int)(x:Ending)(w':World):Prop :=
 ∃ (s:Nat) (nx':Int),s<=4096/\nx<=nx'/\nx'<=nx+1+s*c /\
  ((∃ p k,s=k+1/\x=.returned (.tuple #[.int .i64 p,.int .i64 ((k:Nat)+1),.int .i64 0])/\EndF Φ F0 k/\(∀ i,i<s->er (j0+i)=0)/\FxS K n room w0 mb ws0 C o0 wb (B (j0+s)) (fs++[(p,Zcy Φ F0 k)]) nx' w') \/
   (∃ k,s=k+1/\x=.returned (.tuple #[.int .i64 0,.int .i64 0,.int .i64 (er (j0+k))])/\er (j0+k)≠0/\OnF Φ F0 k/\(∀ i,i<k->er (j0+i)=0)/\FxS K n room w0 mb ws0 C o0 wb (B (j0+s)) fs nx' w') \/
   (s=4096/\x=.returned (.tuple #[.int .i64 0,.int .i64 0,.int .i64 19])/\OnF Φ F0 s/\(∀ i,i<s->er (j0+i)=0)/\FxS K n room w0 mb ws0 C o0 wb (B (j0+s)) fs nx' w'))
structure GoI (K:Law)(n room:Nat)(w0:World)(mb:Nat)(ws0:List Ev)(C:Nat->Prop)(o0:Own)(wb:World)(B:Nat->World->Own->Prop)(Φ:BF->BF)(er:Nat->Int)(c:Int)(j0:Nat)(F0:BF)(fs:List (Int×BF))(nx:Int)(s:Nat)(k nx':Int)(W:World):Prop where
 st:FxS K n room w0 mb ws0 C o0 wb (B (j0+s)) (fs++[(k,Zcy Φ F0 s)]) nx' W
 lo:nx<=nx'
 hi:nx'<=nx+1+s*c
 on:OnF Φ F0 s
 er:∀ i,i<s->er (j0+i)=0
section
variable {K:Law}{n room L:Nat}{w0 wb W:World}{mb g:Nat}{fs bs:List (Int×BF)}{nx:Int}{o0:Own}{ws0:List Ev}{C:Nat->Prop}{B:Nat->World->Own->Prop}{lop:Array Value}{Φ:BF->BF}{er:Nat->Int}{c:Int}
theorem Zm2 (hK:Zbh K)(hf:FunC K n room w0 mb ws0 L C B bs g lop Φ er c)(j0:Nat)(hj0:j0<=900000)(h:FxS K n room w0 mb ws0 C o0 wb (B j0) fs nx W)(hb:B2 fs)(hbs:∀ p∈bs,p∈fs){k0:Int}{F0:BF}(hk:(k0,F0)∈fs)(hn:nx+1+4097*c<549755813888)(hl:fs.length+1<=L) :
 Calls prog 101 #[.pointer (some ⟨mb,0,none⟩),.int .i64 k0,.func (.func g) #[] lop] W (Zhh K n room w0 mb ws0 C o0 wb B Φ er c j0 F0 fs nx):=by
 have ge:=hf.nat;have ga:=Hd (h.copy hK (hf.keep j0) (by omega) hk);have HK:=Hd hK;have g3:=Hd hf;have HB2:=Hd hb;have gh:=Hd hbs;have eg:=hf.enters;obtain⟨P,hP⟩:∃ P,P=Zhh K n room w0 mb ws0 C o0 wb B Φ er c j0 F0 fs nx:=⟨_,rfl⟩;have HP:Hid (∀ x w',Zhh K n room w0 mb ws0 C o0 wb B Φ er c j0 F0 fs nx x w'->P x w'):=Hd (by rw[hP];exact fun _ _ e=>e);rw[<- hP];clear hP h hf hb hk hK hbs
 go_enter func101,ntmps101
 go_wp2_with fail;refine ga.out.mono ?_;rintro x w1 ⟨rfl,h1⟩;have H1:=Hd h1;clear h1 ga;go_wp2_with fail
 go_loopw [6,7,8,9,10,11,12] (fun s6 _ _ s9 _ _ _ wr=>∃ (s:Nat) (k nx':Int),s<=4096/\s6=.int .i64 k/\s9=.int .i64 ((s:Nat)+1)/\Hid (GoI K n room w0 mb ws0 C o0 wb B Φ er c j0 F0 fs nx s k nx' wr)) (fun _ _ _ s9 _ _ _ _=>4097-(intOf s9).toNat)
 case atStart=>exact⟨0,nx,nx+1,by omega,rfl,by simp,Hd ⟨H1.out,by omega,by simp,OnF.zero _ _,fun i hi=>by omega⟩⟩
 case round =>
  clear H1;obtain⟨s,k,nx',hs,rfl,rfl,HI⟩:=hrel;have g5:(((s+1:Nat):Nat):Int)*c=s*c+c:=by rw[Int.natCast_add,Int.add_mul];simp
  have g8:(s:Int)*c<=4096*c:=Int.mul_le_mul_of_nonneg_right (by omega) ge;have gc:=HI.out.lo;have gd:=HI.out.hi;have g2:=Hd g5;have g9:=Hd g8
  by_cases gl:s<4096
  .
   have gk:(s:Int)+1<=4096:=by omega
   have HC:=Hd (g3.out.call (j0+s) (by omega) o0 wb wr (fs++[(k,Zcy Φ F0 s)]) nx' k (Zcy Φ F0 s) HI.out.st (HB2.out.app _) (fun q hq=>List.mem_append_left _ (gh.out q hq)) (by simp) (by omega) (by simp;omega));obtain⟨ez,g6⟩:∃ z,z=er (j0+s):=⟨_,rfl⟩;have g4:=Hd g6;rw[<- g6] at HC;clear g6 g5 g8;go_wp2_with fail;refine HC.out.mono ?_;rintro x w2 ⟨p,nx2,rfl,gi,gj,h0,h1⟩
   by_cases he:ez=0
   .
    have gb:(ez != 0)=false:=by rw[he];rfl
    have g0:=h0 he;rw[List.append_assoc] at g0;have HS:=Hd (g0.same (k:=p) (l:=k) (F:=Φ (Zcy Φ F0 s)) (G:=Zcy Φ F0 s) (by simp) (by simp));have HD:=Hd (FxS.drop1 HK.out (g3.out.keep _) (r:=[(p,Φ (Zcy Φ F0 s))]) HB2.out g0 (by have:=g9.out;omega) rfl);clear h0 h1 g0 HC;subst he;go_wp2_with fail;refine HS.out.mono ?_;rintro x w' ⟨b,rfl,hb,rfl⟩;have g1:=Hd hb;clear hb HS;go_wp2_with fail;refine HD.out.mono ?_;rintro x w3 ⟨rfl,h3⟩;have H3:=Hd h3;clear h3 HD;cases b with
    | true =>
      have HF:=Hd (HP.out _ w3 ⟨s+1,nx2,by omega,by omega,by have:=g2.out;omega,.inl ⟨p,s,rfl,rfl,⟨HI.out.on,g1.out.1 rfl⟩,fun i hi=>by
       rcases Nat.lt_or_ge i s with h|h
       . exact HI.out.er i h
       .
        obtain rfl:i=s:=by omega
        exact g4.out.symm,by rw[<- g1.out.1 rfl];exact H3.out⟩⟩)
      clear HI g1 H3 HP;go_wp2_with fail;refine bodyPost_ret (results_tmp3 rfl _ _ _) rfl ?_;exact HF.out
    | false =>
      have g7:Zcy Φ F0 (s+1)≠Zcy Φ F0 s:=fun e=>by have:=g1.out.2 e;cases this
      have gg:Hid (GoI K n room w0 mb ws0 C o0 wb B Φ er c j0 F0 fs nx (s+1) p nx2 w3):=Hd ⟨H3.out,by omega,by have:=g2.out;omega,HI.out.on.succ g7,fun i hi=>by
       rcases Nat.lt_or_ge i s with h|h
       . exact HI.out.er i h
       .
        obtain rfl:i=s:=by omega
        exact g4.out.symm⟩
      clear HI g1 H3 g7;go_wp2_with fail;go_roundw
      case rel=>exact⟨s+1,p,nx2,by omega,rfl,by go_num,gg⟩
      case measure=>simp[intOf];omega
   .
    have gb:(ez != 0)=true:=by simp[he]
    have g0:=h1 he;have HD:=Hd (FxS.drop1 HK.out (g3.out.keep _) (r:=[]) HB2.out g0 (by have:=g9.out;omega) rfl);have gf:=Hd he;clear h0 h1 g0 HC he;go_wp2_with fail;refine HD.out.mono ?_;rintro x w3 ⟨rfl,h3⟩;rw[List.append_nil] at h3;have HF:=Hd (HP.out (.returned (.tuple #[.int .i64 0,.int .i64 0,.int .i64 ez])) w3 ⟨s+1,nx2,by omega,by omega,by have:=g2.out;omega,.inr (.inl ⟨s,rfl,by rw[<- g4.out],by rw[<- g4.out];exact gf.out,HI.out.on,HI.out.er,h3⟩)⟩);clear h3 HD HI HP;go_wp2_with fail;refine bodyPost_ret (results_tmp3 rfl _ _ _) rfl ?_;exact HF.out
  .
   obtain rfl:s=4096:=by omega
   have HD:=Hd (FxS.drop1 HK.out (g3.out.keep _) (r:=[]) HB2.out HI.out.st (by omega) rfl);go_wp2_with fail;refine HD.out.mono ?_;rintro x w3 ⟨rfl,h3⟩;rw[List.append_nil] at h3;have HF:=Hd (HP.out (.returned (.tuple #[.int .i64 0,.int .i64 0,.int .i64 19])) w3 ⟨4096,nx',by omega,gc,gd,.inr (.inr ⟨rfl,rfl,HI.out.on,HI.out.er,h3⟩)⟩);clear h3 HD HI HP;go_wp2_with fail;refine bodyPost_ret (results_tmp3 rfl _ _ _) rfl ?_;exact HF.out
end
open Go.RowKit
section
variable {K:Law}{n:Nat}{Od:List Nat->Prop}{room:Nat}{w0 w w':World}{mb:Nat}{fs:List (Int×BF)}{nx:Int}{o o':Own}{m m':ManD}{V V':Nat->BF}
theorem Zvo (hK:Zbh K)(h:SatE K n Od room w0 mb fs nx w o m V)(hn:nx<549755813888){a:Option Addr}{c:Nat}{ks:List Int}(hks:Zay w a ks)(hno:∀ x,a=some x->o x.block=none)
 (hin:∀ j,j<ks.length->∃ F,(at0 ks j,F)∈Zd1 fs (ks.take j)) (u:FrameMode) :
 CallsD prog 87 #[.pointer (some ⟨mb,0,none⟩),.slice a ks.length c] u w fun x u' w'=>u'=u/\x=.returned (.int .i64 0)/\∃ o' m',Zfs K n Od room w0 mb (Zd1 fs ks) nx o w m V o' w' m':=by
 have gj:=hks.len;have g5:Hid (∃ o' m',Zfs K n Od room w0 mb (Zd1 fs (ks.take 0)) nx o w m V o' w m'/\Zay w a ks/\(∀ x,a=some x->o' x.block=none)):=Hd ⟨o,m,⟨h,rfl,rfl,rfl,rfl,Chg.refl _ _ _⟩,hks,hno⟩;have gg:=Hd hin;have HN:=Hd hn;have gf:=Hd hK;clear h hn hks hno hin hK
 go_enter_d func87,ntmps87
 go_wp2_with fail
 go_loopw [13] (fun s13 wr=>∃ j:Nat,j<=ks.length/\s13=.int .i64 j/\Hid (∃ o' m',Zfs K n Od room w0 mb (Zd1 fs (ks.take j)) nx o w m V o' wr m'/\Zay wr a ks/\(∀ x,a=some x->o' x.block=none))) (fun s13 _=>ks.length-(intOf s13).toNat)
 case atStart=>exact⟨0,Nat.zero_le _,rfl,g5⟩
 case round =>
  obtain⟨j,hj,rfl,HH⟩:=hrel;obtain⟨oj,mj,hh,hi,hno⟩:=HH.out
  by_cases g6:j<ks.length
  .
   obtain⟨b,off,rfl,g3⟩:=hi.cells j g6;obtain⟨s,hs⟩:=hh.sat.is;obtain⟨c0,c1,c2,c3,c4,c5,f0⟩:=cells6 hs.blk;have gk:(j:Int)<ks.length:=by omega
   obtain⟨z,hz⟩:∃ z,z=at0 ks j:=⟨_,rfl⟩;obtain⟨F,hF⟩:=gg.out j g6;rw[<- hz] at hF g3;obtain⟨f,hf,gb⟩:=hh.sat.find hF;have hl:=Zeo hs hh.sat.ok.handles.nodup hf;have g8:=Hd hh;have ge:=Hd hi;have g7:=Hd hno;have gh:Hid (b<wr.heap.size):=Hd (Zaa g3);have g2:=Hd g6;have HZ:=Hd hz;have HS:=Hd hs;have HF:=Hd hf
   by_cases h1:z>1
   .
    have HD:=Hd (Zjh hs.store hh.sat.lt hh.sat.ok hf h1 (by rw[hh.sat.next];exact HN.out));have H1:=Hd h1;clear hh hi hno hs HH g5 hz hF hf gb;go_wp2_with fail;refine HD.out.mono ?_;rintro x w1 ⟨rfl,d',g9,ga,hr,gc⟩;obtain⟨gd,w2,gi,g4⟩:=Zrh gf.out g8.out.sat HF.out H1.out HS.out g9 ga hr gc;obtain⟨e0,e1,e2,e3,e4,e5,g0⟩:=cells6 gd.blk
    have g1:Hid (Zfs K n Od room w0 mb (Zd1 fs (ks.take (j+1))) nx o w m V oj w2 { mj with d:=d',hs:=delK z mj.hs }/\Zay w2 (some ⟨b,off,none⟩) ks/\(∀ x,some (⟨b,off,none⟩:Addr)=some x->oj x.block=none)):=Hd ⟨by
     rw[Zgy g2.out,<- HZ.out,if_pos H1.out];exact g8.out.trans g4,ge.out.chg g4.chg g7.out,fun x hx=>g4.chg.alien' (by cases hx;exact gh.out) (g7.out x hx)⟩
    clear gd g9 ga hr gc g4 c0 c1 c2 c3 c4 c5 f0 g3 hl;go_wp2_with fail;go_roundw
    case rel=>exact⟨j+1,Nat.succ_le_of_lt g2.out,by go_num,Hd ⟨_,_,g1.out.1,g1.out.2.1,g1.out.2.2⟩⟩
    case measure =>
     have:=g2.out;simp[intOf];omega
   .
    have g1:Hid (Zfs K n Od room w0 mb (Zd1 fs (ks.take (j+1))) nx o w m V oj wr mj/\Zay wr (some ⟨b,off,none⟩) ks/\(∀ x,some (⟨b,off,none⟩:Addr)=some x->oj x.block=none)):=Hd ⟨by
     rw[Zgy g2.out,<- HZ.out,if_neg h1];exact g8.out,ge.out,g7.out⟩
    clear hh hi hno hs HH g5 hz hF hf gb;go_wp2_with fail;go_roundw
    case rel=>exact⟨j+1,Nat.succ_le_of_lt g2.out,by go_num,Hd ⟨_,_,g1.out.1,g1.out.2.1,g1.out.2.2⟩⟩
    case measure =>
     have:=g2.out;simp[intOf];omega
  .
   obtain rfl:j=ks.length:=by omega
   have HF:Hid (∃ o' m',Zfs K n Od room w0 mb (Zd1 fs ks) nx o w m V o' wr m'):=Hd ⟨oj,mj,by rw[List.take_length] at hh;exact hh⟩;clear hh hi hno HH g5;go_wp2_with fail;go_ret;exact⟨rfl,HF.out⟩
theorem Zm8 (hK:Zbh K){hs r:List (Int×BF)}(h:SatE K n Od room w0 mb (fs++(hs++r)) nx w o m V)(hb:B2 fs)(hn:nx<549755813888){a:Option Addr}{c:Nat}(hks:Zay w a (hs.map Prod.fst))(hno:∀ x,a=some x->o x.block=none)(u:FrameMode) :
 CallsD prog 87 #[.pointer (some ⟨mb,0,none⟩),.slice a hs.length c] u w fun x u' w'=>u'=u/\x=.returned (.int .i64 0)/\∃ o' m',Zfs K n Od room w0 mb (fs++r) nx o w m V o' w' m':=by
 have g0:=h.nodup;have g4:=h.gt hb;have e:Zd1 (fs++(hs++r)) (hs.map Prod.fst)=fs++r:=Zke hs fs r g0 (fun p hp=>g4 p (List.mem_append_left _ hp));have g2:∀ j,j<(hs.map Prod.fst).length->∃ F,(at0 (hs.map Prod.fst) j,F)∈Zd1 (fs++(hs++r)) ((hs.map Prod.fst).take j):=fun j hj=>by
  have g1:j<hs.length:=by simpa using hj
  have e1:at0 (hs.map Prod.fst) j=hs[j].1:=by rw[Zby hj];simp
  refine⟨hs[j].2,?_⟩;rw[e1];refine Zh9 (List.mem_append_right _ (List.mem_append_left _ (List.getElem_mem g1))) ?_;rw[List.map_append,List.nodup_append,List.map_append,List.nodup_append] at g0;have hh:=g0.2.1.1;intro hc;obtain⟨i,hi,e2⟩:=List.getElem_of_mem hc;have g3:i<j:=by simp at hi;omega
  rw[List.getElem_take] at e2;exact(List.pairwise_iff_getElem.1 hh) i j (by simp;omega) hj g3 (by rw[e2];simp)
 have:=Zvo hK h hn (c:=c) hks hno g2 u;rw[e,List.length_map] at this;exact this
end
open Go.RowKit
open Go.RowKit
open Go.RowKit
structure ArgL (fs:List (Int×BF))(w0 w:World)(o:Own)(a:Option Addr)(ks:List Int)(Fs:List BF):Prop where
 z:Zay w a ks
 own:∀ x,a=some x->x.block<w.heap.size/\w0.heap.size<=x.block/\o x.block=none
 len:Fs.length=ks.length
 mem:∀ i (h:i<ks.length),(ks[i],Fs[i]'(by omega))∈fs
section
variable {K:Law}{n:Nat}{room:Nat}{w0 w:World}{mb:Nat}{fs:List (Int×BF)}{nx:Int}{o:Own}{m:ManD}{V:Nat->BF}{ws0:List Ev}
theorem Ya1 (hK:Zbh K)(h:SatE K n (fun _=>True) room w0 mb fs nx w o m V){c:Nat}{a:Option Addr}{ks:List Int}{Fs:List BF}(hl:ArgL fs w0 w o a ks Fs)(hst:m.waits <:+ ws0)(hn:nx<=549755813888)(hr:fs.length*2^n+ks.length*(2^n-1)<=room) :
 Calls prog 94 #[.pointer (some ⟨mb,0,none⟩),.slice a ks.length c] w (NewF K n room w0 mb fs nx ws0 (Zhq andF (Zha 0) Fs) o w):=by
 have HC:=Hd (Zrj (c:=c) hK (Ybz hK) Zsm h (e0:=0) rfl hl.z hl.own hl.len hl.mem hst hn hr);clear h hK hl hst hn hr;obtain⟨P,hP⟩:∃ P,P=NewF K n room w0 mb fs nx ws0 (Zhq andF (Zha 0) Fs) o w:=⟨_,rfl⟩;rw[<- hP] at HC ⊢;have HT:Hid (∀ x w',P x w'->∃ a b,x=.returned (.tuple #[.int .i64 a,.int .i64 b])):=Hd (by subst hP;rintro x w' ⟨rfl,_⟩;exact⟨_,_,rfl⟩);clear hP
 go_enter func94,ntmps94
 go_wp2_with fail;refine HC.out.mono ?_;intro x w' hd;obtain⟨a,b,rfl⟩:=HT.out x w' hd;have HD:=Hd hd;clear hd;go_wp2_with fail;exact HD.out
theorem Yb0 (hK:Zbh K)(h:SatE K n (fun _=>True) room w0 mb fs nx w o m V){c:Nat}{a:Option Addr}{ks:List Int}{Fs:List BF}(hl:ArgL fs w0 w o a ks Fs)(hst:m.waits <:+ ws0)(hn:nx<=549755813888)(hr:fs.length*2^n+ks.length*(2^n-1)<=room) :
 Calls prog 91 #[.pointer (some ⟨mb,0,none⟩),.slice a ks.length c] w (NewF K n room w0 mb fs nx ws0 (Zhq orF (Zha 1) Fs) o w):=by
 have HC:=Hd (Zrj (c:=c) hK (Ycg hK) Zu1 h (e0:=1) rfl hl.z hl.own hl.len hl.mem hst hn hr);clear h hK hl hst hn hr;obtain⟨P,hP⟩:∃ P,P=NewF K n room w0 mb fs nx ws0 (Zhq orF (Zha 1) Fs) o w:=⟨_,rfl⟩;rw[<- hP] at HC ⊢;have HT:Hid (∀ x w',P x w'->∃ a b,x=.returned (.tuple #[.int .i64 a,.int .i64 b])):=Hd (by subst hP;rintro x w' ⟨rfl,_⟩;exact⟨_,_,rfl⟩);clear hP
 go_enter func91,ntmps91
 go_wp2_with fail;refine HC.out.mono ?_;intro x w' hd;obtain⟨a,b,rfl⟩:=HT.out x w' hd;have HD:=Hd hd;clear hd;go_wp2_with fail;exact HD.out
theorem Zx3 (hK:Zbh K)(h:SatE K n (fun _=>True) room w0 mb fs nx w o m V){ka kb:Int}{F1 F2:BF}(h1:(ka,F1)∈fs)(h2:(kb,F2)∈fs)(hst:m.waits <:+ ws0)(hn:nx<=549755813888)(hr:fs.length*2^n+(2^n-1)<=room) :
 Calls prog 89 #[.pointer (some ⟨mb,0,none⟩),.int .i64 ka,.int .i64 kb] w (NewF K n room w0 mb fs nx ws0 (Zoj F1 F2) o w):=by
 have HC:=Hd (Zw7 hK (Ya0 hK) Zqh h h1 h2 hst hn hr);clear h hK h1 h2 hst hn hr;obtain⟨P,hP⟩:∃ P,P=NewF K n room w0 mb fs nx ws0 (Zoj F1 F2) o w:=⟨_,rfl⟩;rw[<- hP] at HC ⊢;have HT:Hid (∀ x w',P x w'->∃ a b,x=.returned (.tuple #[.int .i64 a,.int .i64 b])):=Hd (by subst hP;rintro x w' ⟨rfl,_⟩;exact⟨_,_,rfl⟩);clear hP
 go_enter func89,ntmps89
 go_wp2_with fail;refine HC.out.mono ?_;intro x w' hd;obtain⟨a,b,rfl⟩:=HT.out x w' hd;have HD:=Hd hd;clear hd;go_wp2_with fail;exact HD.out
end
open Go.RowKit
open Go.RowKit
open Go.RowKit
section
variable {K:Law}{n:Nat}{room:Nat}{w0 w w':World}{mb:Nat}{fs:List (Int×BF)}{nx:Int}{o:Own}{m:ManD}{V:Nat->BF}{ws0:List Ev}
theorem Yb7 (hK:Zbh K)(h:SatE K n (fun _=>True) room w0 mb fs nx w o m V)(hw:m.waits <:+ ws0)(hn:nx<=549755813888)(hr:(fs.length+1)*2^n<=room){v:Nat}(hv:v<n) :
 Calls prog 81 #[.pointer (some ⟨mb,0,none⟩),.int .i64 v] w fun x w''=>x=.returned (.tuple #[.int .i64 nx,.int .i64 0])/\Goes K n (fun _=>True) room w0 mb (fs++[(nx,varF v)]) (nx+1) (W2 (SufW ws0)) o w w'':=by
 refine(Zl2 hK h ws0 hw none (fun _ e=>by cases e) (fun _ e=>by cases e) (fun ev _=>Zir hn ev) (by omega) v hv).mono ?_;rintro x w'' hp;obtain⟨o2,m2,V2,q1,q2,q3,q4⟩:=Zpg hp Nat.one_le_two_pow hr;exact⟨q3,o2,m2,V2,q1,q2,q4⟩
end
open Go.RowKit
section
variable {K:Law}{n room:Nat}{w0 w W w':World}{mb:Nat}{fs fs':List (Int×BF)}{nx nx':Int}{o:Own}{m:ManD}{V:Nat->BF}{ws0:List Ev}{rs:List (Value×BF)}{f:Nat}{args:Array Value}
theorem Zrc (h:SatE K n (fun _=>True) room w0 mb fs nx w o m V){ks:List Int}{Fs:List BF}(hl:ks.length<=1000000)(hlen:Fs.length=ks.length)(hm:∀ i (h:i<ks.length),(ks[i],Fs[i]'(by omega))∈fs):ArgL fs w0 (w.alloc (.cells (Za1 ks).toArray 3)) o (some ⟨w.heap.size,0,none⟩) ks Fs :=
 ⟨Zet w ks hl,fun x hx=>by cases hx;exact⟨by simp,h.chg.size,h.lt.none (Nat.le_refl _)⟩,hlen,hm⟩
end
open Go.RowKit
theorem Zu2 (w:World)(g:Fn)(fs cs:Array Value):(binOp .eql 64 (.func g fs cs) .nilFunc).run prog w=.ok (.bool false) w:=by
 have hd:Op.maxDepth=9999+1:=rfl;have h:(Op.equal 64 (.func g fs cs) .nilFunc).run prog w=.ok false w:=by
  unfold Op.equal;rw[hd];unfold Op.equalIn;simp only[Sem.run_bind,run_underlying underlying64,Result.andThen_ok];simp
 simp only[binOp];simp[h]
theorem Zu3 (w:World):(binOp .eql 64 .nilFunc .nilFunc).run prog w=.ok (.bool true) w:=by
 have hd:Op.maxDepth=9999+1:=rfl;have h:(Op.equal 64 .nilFunc .nilFunc).run prog w=.ok true w:=by
  unfold Op.equal;rw[hd];unfold Op.equalIn;simp only[Sem.run_bind,run_underlying underlying64,Result.andThen_ok];simp
 simp only[binOp];simp[h]
def fnV (nil:Bool)(g:Nat)(lop:Array Value):Value:=if nil then .nilFunc else .func (.func g) #[] lop
theorem Yac (w:World)(nil:Bool)(g:Nat)(lop:Array Value):(binOp .eql 64 (fnV nil g lop) .nilFunc).run prog w=.ok (.bool nil) w:=by
 cases nil with
 | true=>exact Zu3 w
 | false=>exact Zu2 w _ _ _
section
variable {K:Law}{n room L:Nat}{Od:List Nat->Prop}{w0 w wb W:World}{mb g:Nat}{fs bs r:List (Int×BF)}{nx:Int}{o o0:Own}{m:ManD}{V:Nat->BF}{ws0:List Ev}{C:Nat->Prop}{B:Nat->World->Own->Prop}{lop:Array Value}{Φ:BF->BF}{er:Nat->Int}{c:Int}
theorem Zm9 (h:SatE K n Od room w0 mb fs nx w o m V){k:Int}{nil:Bool}{e:Int}(he:(e=8/\∀ p∈fs,p.1≠k)\/((∃ F,(k,F)∈fs)/\((nil=true/\e=1)\/(nil=false/\e=0)))) :
 Calls prog 85 #[.pointer (some ⟨mb,0,none⟩),.int .i64 k,fnV nil g lop] w fun x w'=>x=.returned (.int .i64 e)/\w=w':=by
 have hq:=Yac w nil g lop;rcases he with ⟨rfl,g1⟩|⟨⟨F,hF⟩,hh⟩
 .
  have g0:=Hd (Zro h g1);clear h g1
  go_enter func85,ntmps85
  go_wp2_with fail;refine g0.out.mono ?_;rintro x w' ⟨rfl,rfl⟩;go_wp2_with fail;go_ret;exact⟨rfl,rfl⟩
 .
  have g0:=Hd (Zpb h hF);clear h hF;have q1:=Zu3 w;have q2:=Zu2 w (.func g) #[] lop;clear hq;rcases hh with ⟨rfl,rfl⟩|⟨rfl,rfl⟩
  .
   clear q2
   show Calls _ _ #[_,_,.nilFunc] _ _
   go_enter func85,ntmps85
   go_wp2_with fail;refine g0.out.mono ?_;rintro x w' ⟨rfl,rfl⟩;go_wp2_with fail;go_ret;exact⟨rfl,rfl⟩
  .
   clear q1
   show Calls _ _ #[_,_,.func (.func g) #[] lop] _ _
   go_enter func85,ntmps85
   go_wp2_with fail;refine g0.out.mono ?_;rintro x w' ⟨rfl,rfl⟩;go_wp2_with fail;go_ret;exact⟨rfl,rfl⟩
theorem Zhh.three {j0:Nat}{F0:BF}{x:Ending}{w':World}(h:Zhh K n room w0 mb ws0 C o0 wb B Φ er c j0 F0 fs nx x w'):∃ a b d,x=.returned (.tuple #[.int .i64 a,.int .i64 b,.int .i64 d]):=by
 obtain⟨s,nx',_,_,_,⟨p,k,_,rfl,_⟩|⟨k,_,rfl,_⟩|⟨_,rfl,_⟩⟩:=h
 . exact⟨_,_,_,rfl⟩
 . exact⟨_,_,_,rfl⟩
 . exact⟨_,_,_,rfl⟩
theorem Zo8 (hK:Zbh K)(hf:FunC K n room w0 mb ws0 L C B bs g lop Φ er c)(j0:Nat)(hj0:j0<=900000)(h:FxS K n room w0 mb ws0 C o0 wb (B j0) fs nx W)(hb:B2 fs)(hbs:∀ p∈bs,p∈fs)(hn:nx+1+4097*c<549755813888)(hl:fs.length+1<=L) :
 Calls prog 36 #[.pointer (some ⟨mb,0,none⟩),.func (.func g) #[] lop] W (Zhh K n room w0 mb ws0 C o0 wb B Φ er c j0 (fun _=>false) fs nx):=by
 have HM:Hid (Calls prog 85 #[.pointer (some ⟨mb,0,none⟩),.int .i64 0,.func (.func g) #[] lop] W fun x w'=>x=.returned (.int .i64 0)/\W=w'):=Hd (h.ask fun o m V hs=>Zm9 (nil:=false) hs (.inr ⟨⟨_,hb.zero⟩,.inr ⟨rfl,rfl⟩⟩));have HG:=Hd (Zm2 hK hf j0 hj0 h hb hbs hb.zero hn hl);obtain⟨P,hP⟩:∃ P,P=Zhh K n room w0 mb ws0 C o0 wb B Φ er c j0 (fun _=>false) fs nx:=⟨_,rfl⟩;have HT:Hid (∀ x w',P x w'->∃ a b d,x=.returned (.tuple #[.int .i64 a,.int .i64 b,.int .i64 d])):=Hd (by subst hP;exact fun x w' h=>h.three);rw[<- hP] at HG ⊢;clear hP h hf hb hbs hK
 go_enter func36,ntmps36
 go_wp2_with fail;refine HM.out.mono ?_;rintro x w' ⟨rfl,rfl⟩;go_wp2_with fail;refine HG.out.mono ?_;intro x w' hd;obtain⟨a,b,d,rfl⟩:=HT.out x w' hd;have HD:=Hd hd;clear hd;go_wp2_with fail;refine bodyPost_ret (results_tmp3 rfl _ _ _) rfl ?_;exact HD.out
theorem Zov (hK:Zbh K)(hf:FunC K n room w0 mb ws0 L C B bs g lop Φ er c)(j0:Nat)(hj0:j0<=900000)(h:FxS K n room w0 mb ws0 C o0 wb (B j0) fs nx W)(hb:B2 fs)(hbs:∀ p∈bs,p∈fs){k0:Int}{F0:BF}(hk:(k0,F0)∈fs)(hn:nx+1+4097*c<549755813888)(hl:fs.length+1<=L) :
 Calls prog 40 #[.pointer (some ⟨mb,0,none⟩),.int .i64 k0,.func (.func g) #[] lop] W (Zhh K n room w0 mb ws0 C o0 wb B Φ er c j0 F0 fs nx):=by
 have HM:Hid (Calls prog 85 #[.pointer (some ⟨mb,0,none⟩),.int .i64 k0,.func (.func g) #[] lop] W fun x w'=>x=.returned (.int .i64 0)/\W=w'):=Hd (h.ask fun o m V hs=>Zm9 (nil:=false) hs (.inr ⟨⟨_,hk⟩,.inr ⟨rfl,rfl⟩⟩));have HG:=Hd (Zm2 hK hf j0 hj0 h hb hbs hk hn hl);obtain⟨P,hP⟩:∃ P,P=Zhh K n room w0 mb ws0 C o0 wb B Φ er c j0 F0 fs nx:=⟨_,rfl⟩;have HT:Hid (∀ x w',P x w'->∃ a b d,x=.returned (.tuple #[.int .i64 a,.int .i64 b,.int .i64 d])):=Hd (by subst hP;exact fun x w' h=>h.three);rw[<- hP] at HG ⊢;clear hP h hf hb hbs hK
 go_enter func40,ntmps40
 go_wp2_with fail;refine HM.out.mono ?_;rintro x w' ⟨rfl,rfl⟩;go_wp2_with fail;refine HG.out.mono ?_;intro x w' hd;obtain⟨a,b,d,rfl⟩:=HT.out x w' hd;have HD:=Hd hd;clear hd;go_wp2_with fail;refine bodyPost_ret (results_tmp3 rfl _ _ _) rfl ?_;exact HD.out
theorem FxS.withB {B B':World->Own->Prop}(h:FxS K n room w0 mb ws0 C o0 wb B fs nx W)(hB:∀ o m V,SatE K n (fun _=>True) room w0 mb fs nx W o m V->B W o->B' W o):FxS K n room w0 mb ws0 C o0 wb B' fs nx W:=by
 obtain⟨o,m,V,h1,h2,h3,h4⟩:=h;exact⟨o,m,V,h1,h2,h3,hB _ _ _ h3 h4⟩
def BoxA (b k:Nat)(v:Value)(W:World)(o:Own):Prop:=W.cell? ⟨b,k,none⟩=some v/\o b=none
theorem BoxA.keep {b k:Nat}{v:Value}:Zdf (BoxA b k v):=fun _ _ _ _ h hc=>⟨hc.cell h.1 h.2 (fun e=>e),hc.none' (Zaa h.1) h.2⟩
theorem Zdf.and {A B:World->Own->Prop}(hA:Zdf A)(hB:Zdf B):Zdf fun W o=>A W o/\B W o:=fun _ _ _ _ h hc=>⟨hA _ _ _ _ h.1 hc,hB _ _ _ _ h.2 hc⟩
theorem Zjo {B:World->Own->Prop}(hB:Zdf B)(h:FxS K n room w0 mb ws0 C o0 wb B fs nx W){vs:Array Value}{t:TypeId}{k:Nat}{v:Value}(hv:vs[k]?=some v):FxS K n room w0 mb ws0 C o0 wb (fun W' o=>B W' o/\BoxA W.heap.size k v W' o) fs nx (W.alloc (.cells vs t)):=by
 obtain⟨o,m,V,h1,h2,h3,h4⟩:=h;have hb:=Zad W (.cells vs t);have hc:=ChgX.of_below hb o NoB;refine⟨o,m,V,h1.trans hc NoB.sub,h2,h3.below hb,hB _ _ _ _ h4 hc,?_,h3.lt.none (Nat.le_refl _)⟩;rw[cell_of_row _ _ k _ _ _ (heap_alloc_new W (.cells vs t))];exact hv
theorem Zx4 (F G:BF):Zhq orF (Zha 1) [F,G]=orF F G:=by
 funext ρ
 show iteB (iteB false true (F ρ)) true (G ρ)=iteB (F ρ) true (G ρ)
 cases F ρ<;>cases G ρ<;>rfl
theorem Zt8 (F G:BF):Zhq andF (Zha 0) [F,G]=andF F G:=by
 funext ρ
 show iteB (iteB true (F ρ) false) (G ρ) false=iteB (F ρ) (G ρ) false
 cases F ρ<;>cases G ρ<;>rfl
theorem FxS.or2 (hK:Zbh K){B:World->Own->Prop}(hB:Zdf B)(h:FxS K n room w0 mb ws0 C o0 wb B fs nx W){k1 k2:Int}{F1 F2:BF}(h1:(k1,F1)∈fs)(h2:(k2,F2)∈fs)(hn:nx<=549755813888)(hr:(fs.length+2)*2^n<=room){T:World}(hT:T=W.alloc (.cells #[.int .i64 k1,.int .i64 k2] 3)) :
 Calls prog 91 #[.pointer (some ⟨mb,0,none⟩),.slice (some ⟨W.heap.size,0,none⟩) 2 2] T fun x w'=>x=.returned (.tuple #[.int .i64 nx,.int .i64 0])/\FxS K n room w0 mb ws0 C o0 wb B (fs++[(nx,orF F1 F2)]) (nx+1) w':=by
 subst hT;have hb:=Zad W (.cells #[.int .i64 k1,.int .i64 k2] 3);obtain⟨o,m,V,q1,q2,q3,q4⟩:=h;have hc:=ChgX.of_below hb o NoB
 have ha:=Zrc q3 (ks:=[k1,k2]) (Fs:=[F1,F2]) (by simp) rfl (fun i hi=>by
  rcases(show i=0\/i=1 by simp at hi;omega) with rfl|rfl
  . exact h1
  . exact h2)
 refine(Yb0 (c:=2) hK (q3.below hb) ha q2 hn (by rw[Nat.add_mul] at hr;simp;omega)).mono ?_;rintro x w' ⟨r1,o',m',V',r2,r3,r4⟩;rw[Zx4] at r4;exact⟨r1,o',m',V',(q1.trans hc NoB.sub).trans r2 NoB.sub,r3,r4,hB _ _ _ _ q4 (hc.trans r2 NoB.sub)⟩
theorem FxS.and2 (hK:Zbh K){B:World->Own->Prop}(hB:Zdf B)(h:FxS K n room w0 mb ws0 C o0 wb B fs nx W){k1 k2:Int}{F1 F2:BF}(h1:(k1,F1)∈fs)(h2:(k2,F2)∈fs)(hn:nx<=549755813888)(hr:(fs.length+2)*2^n<=room){T:World}(hT:T=W.alloc (.cells #[.int .i64 k1,.int .i64 k2] 3)) :
 Calls prog 94 #[.pointer (some ⟨mb,0,none⟩),.slice (some ⟨W.heap.size,0,none⟩) 2 2] T fun x w'=>x=.returned (.tuple #[.int .i64 nx,.int .i64 0])/\FxS K n room w0 mb ws0 C o0 wb B (fs++[(nx,andF F1 F2)]) (nx+1) w':=by
 subst hT;have hb:=Zad W (.cells #[.int .i64 k1,.int .i64 k2] 3);obtain⟨o,m,V,q1,q2,q3,q4⟩:=h;have hc:=ChgX.of_below hb o NoB
 have ha:=Zrc q3 (ks:=[k1,k2]) (Fs:=[F1,F2]) (by simp) rfl (fun i hi=>by
  rcases(show i=0\/i=1 by simp at hi;omega) with rfl|rfl
  . exact h1
  . exact h2)
 refine(Ya1 (c:=2) hK (q3.below hb) ha q2 hn (by rw[Nat.add_mul] at hr;simp;omega)).mono ?_;rintro x w' ⟨r1,o',m',V',r2,r3,r4⟩;rw[Zt8] at r4;exact⟨r1,o',m',V',(q1.trans hc NoB.sub).trans r2 NoB.sub,r3,r4,hB _ _ _ _ q4 (hc.trans r2 NoB.sub)⟩
theorem FxS.drop1_d (hK:Zbh K){B:World->Own->Prop}(hB:Zdf B)(hb:B2 fs){k:Int}{F:BF}(h:FxS K n room w0 mb ws0 C o0 wb B (fs++((k,F)::r)) nx W)(hn:nx<549755813888){b:Nat}(hbx:∀ o m V,SatE K n (fun _=>True) room w0 mb (fs++((k,F)::r)) nx W o m V->B W o->BoxA b 0 (.int .i64 k) W o)(u:FrameMode) :
 CallsD prog 87 #[.pointer (some ⟨mb,0,none⟩),.slice (some ⟨b,0,none⟩) 1 1] u W fun x u' w'=>u'=u/\x=.returned (.int .i64 0)/\FxS K n room w0 mb ws0 C o0 wb B (fs++r) nx w':=by
 obtain⟨o,m,V,h1,h2,h3,h4⟩:=h;have hx:=hbx o m V h3 h4;refine(Zm8 (c:=1) (hs:=[(k,F)]) (r:=r) hK h3 hb hn (a:=some ⟨b,0,none⟩) ⟨by simp,fun i hi=>?_⟩ (fun x g0=>by cases g0;exact hx.2) u).mono ?_
 .
  obtain rfl:i=0:=by simpa using hi
  exact⟨b,0,rfl,by simpa [at0] using hx.1⟩
 . rintro x u' w' ⟨q0,q1,o',m',hh⟩;have hc:=ChgX.of_chg hh.chg NoB;exact⟨q0,q1,o',m',V,h1.trans hc NoB.sub,by rw[hh.waits];exact h2,hh.sat,hB _ _ _ _ h4 hc⟩
theorem Ztu (hK:Zbh K){B:World->Own->Prop}(hB:Zdf B)(hb:B2 fs){q h:Int}{Q H:BF}(hst:FxS K n room w0 mb ws0 C o0 wb B (fs++[(h,H)]) nx W)(hq:(q,Q)∈fs)(hn:nx+1<549755813888)(hr:(fs.length+3)*2^n<=room) :
 Calls prog 102 #[.agg #[.pointer (some ⟨mb,0,none⟩),.int .i64 q],.int .i64 h] W fun x w'=>x=.returned (.tuple #[.int .i64 nx,.int .i64 0])/\FxS K n room w0 mb ws0 C o0 wb B (fs++[(nx,orF Q H)]) (nx+1) w':=by
 obtain⟨w2,g0⟩:∃ w2,w2=(W.alloc (.cells #[.pointer (some ⟨mb,0,none⟩),.int .i64 q] 148)).alloc (.cells #[.int .i64 h] 3):=⟨_,rfl⟩;have g5:Hid (_=w2):=Hd g0.symm;have hs1:FxS K n room w0 mb ws0 C o0 wb B (fs++[(h,H)]) nx (W.alloc (.cells #[.pointer (some ⟨mb,0,none⟩),.int .i64 q] 148)):=hst.below hB (Zad _ _);have g1:=heap_alloc_new W (.cells #[.pointer (some ⟨mb,0,none⟩),.int .i64 q] 148);have c0:w2.cell? ⟨W.heap.size,0,none⟩=some (.pointer (some ⟨mb,0,none⟩)):=by
  rw[g0,((Zad _ _).cell (p:=⟨W.heap.size,0,none⟩) (by simp)),cell_of_row _ _ 0 _ _ _ g1];rfl
 have c1:w2.cell? ⟨W.heap.size,1,none⟩=some (.int .i64 q):=by
  rw[g0,((Zad _ _).cell (p:=⟨W.heap.size,1,none⟩) (by simp)),cell_of_row _ _ 1 _ _ _ g1];rfl
 have g2:=Zjo hB hs1 (vs:=#[.int .i64 h]) (t:=3) (k:=0) (v:=.int .i64 h) rfl;rw[World.size_alloc,<- g0] at g2;have g3:Zdf (fun W' o=>B W' o/\BoxA (W.heap.size+1) 0 (.int .i64 h) W' o):=hB.and BoxA.keep;have g4:=Hd (g2.or2 hK g3 (k1:=q) (k2:=h) (F1:=Q) (F2:=H) (List.mem_append_left _ hq) (by simp) (by omega) (by simpa using hr) rfl);have HB:=Hd hB;have HB2:=Hd g3;have g6:=Hd hb;have HK:=Hd hK;clear hs1 g2 g1 g0 hst hB g3 hb hK hq hr
 go_enter_defers func102,ntmps102
 go_upto_region 2 with fail;rw[g5.out];go_wp2_with fail;refine g4.out.mono ?_;rintro x w3 ⟨rfl,h3⟩;rw[List.append_assoc] at h3;have HD:=Hd (FxS.drop1_d HK.out HB2.out g6.out h3 (by omega) (b:=W.heap.size+1) (fun o m V _ hh=>hh.2) .returning);clear h3 g4;go_wp2_with fail;refine leaves_cons (f:=87) (args:=#[.pointer (some ⟨mb,0,none⟩),.slice (some ⟨W.heap.size+1,0,none⟩) 1 1]) (by simp) (by simp[go_sem]) ?_;refine HD.out.mono ?_;rintro e u' w4 ⟨rfl,rfl,h4⟩;exact⟨_,results_tmp2 rfl _ _ _,rfl,h4.withB fun o m V _ hh=>hh.1⟩
end
open Go.RowKit
theorem Zmx (args:Array Value)(w:World):(callFunc 103 args).run prog w=.ok (.enter 103 args) w:=enters_of func103 (by kernel_rfl) rfl args w
theorem Zmy (args:Array Value)(w:World):(callFunc 102 args).run prog w=.ok (.enter 102 args) w:=enters_of func102 (by kernel_rfl) rfl args w
def Zio (C:Nat->Prop)(B:World->Own->Prop):Prop:=∀ W o W' o',B W o->ChgX C o o' W W'->B W' o'
theorem BoxA.keepC {C:Nat->Prop}{b k:Nat}{v:Value}(h:¬ C b):Zio C (BoxA b k v):=fun _ _ _ _ hb hc=>⟨hc.cell hb.1 hb.2 h,hc.none' (Zaa hb.1) hb.2⟩
theorem Zio.and {C:Nat->Prop}{A B:World->Own->Prop}(hA:Zio C A)(hB:Zio C B):Zio C fun W o=>A W o/\B W o:=fun _ _ _ _ h hc=>⟨hA _ _ _ _ h.1 hc,hB _ _ _ _ h.2 hc⟩
theorem Zio.keep {C:Nat->Prop}{B:World->Own->Prop}(h:Zio C B):Zdf B:=fun _ _ _ _ hb hc=>h _ _ _ _ hb (hc.mono fun _ e=>e.elim)
section
variable {K:Law}{n room L:Nat}{w0 w wb W:World}{mb g:Nat}{fs bs r:List (Int×BF)}{nx:Int}{o o0:Own}{m:ManD}{V:Nat->BF}{ws0:List Ev}{C:Nat->Prop}{B:Nat->World->Own->Prop}{lop:Array Value}{Φ:BF->BF}{er:Nat->Int}{c:Int}
theorem FunC.callB (hf:FunC K n room w0 mb ws0 L C B bs g lop Φ er c){B':World->Own->Prop}(hB':Zio C B')(j:Nat)(hj:j<=1000000){h:Int}{F:BF}(hst:FxS K n room w0 mb ws0 C o0 wb (fun W o=>B j W o/\B' W o) fs nx W)(hb:B2 fs)(hbs:∀ p∈bs,p∈fs)(hk:(h,F)∈fs)(hn:nx+c<=549755813888)(hl:fs.length<=L) :
 Calls prog g (#[.int .i64 h]++lop) W fun e w'=>∃ p nx',e=.returned (.tuple #[.int .i64 p,.int .i64 (er j)])/\nx<=nx'/\nx'<=nx+c /\
  (er j=0->FxS K n room w0 mb ws0 C o0 wb (fun W o=>B (j+1) W o/\B' W o) (fs++[(p,Φ F)]) nx' w')/\(er j≠0->FxS K n room w0 mb ws0 C o0 wb (fun W o=>B (j+1) W o/\B' W o) fs nx' w'):=by
 obtain⟨o,m,V,h1,h2,h3,h4,h5⟩:=hst;have g0:∀ {B1:World->Own->Prop} {fs1:List (Int×BF)} {nx1:Int} {w':World},FxS K n room w0 mb ws0 C o W B1 fs1 nx1 w'->FxS K n room w0 mb ws0 C o0 wb (fun W o=>B1 W o/\B' W o) fs1 nx1 w':=by
  rintro B1 fs1 nx1 w' ⟨o',m',V',q1,q2,q3,q4⟩;exact⟨o',m',V',h1.trans q1 (fun _ _ e=>e),q2,q3,q4,hB' _ _ _ _ h5 q1⟩
 refine(hf.call j hj o W W fs nx h F ⟨o,m,V,ChgX.of_below (Below.refl _ _) o C,h2,h3,h4⟩ hb hbs hk hn hl).mono ?_;rintro e w' ⟨p,nx',q1,q2,q3,q4,q5⟩;exact⟨p,nx',q1,q2,q3,fun e=>g0 (q4 e),fun e=>g0 (q5 e)⟩
theorem Zhh.withB {B':Nat->World->Own->Prop}{j0:Nat}{F0:BF}{x:Ending}{w':World}(h:Zhh K n room w0 mb ws0 C o0 wb B Φ er c j0 F0 fs nx x w')(hB:∀ j W o,B j W o->B' j W o):Zhh K n room w0 mb ws0 C o0 wb B' Φ er c j0 F0 fs nx x w':=by
 obtain⟨s,nx',q1,q2,q3,q⟩:=h;refine⟨s,nx',q1,q2,q3,?_⟩;rcases q with ⟨p,k,r1,r2,r3,r4,r5⟩|⟨k,r1,r2,r3,r4,r5,r6⟩|⟨r1,r2,r3,r4,r5⟩
 . exact .inl ⟨p,k,r1,r2,r3,r4,r5.withB fun _ _ _ _ h=>hB _ _ _ h⟩
 . exact .inr (.inl ⟨k,r1,r2,r3,r4,r5,r6.withB fun _ _ _ _ h=>hB _ _ _ h⟩)
 . exact .inr (.inr ⟨r1,r2,r3,r4,r5.withB fun _ _ _ _ h=>hB _ _ _ h⟩)
def UnB (bf ba mb g:Nat)(lop:Array Value)(q:Int):World->Own->Prop:=fun W o=>BoxA bf 0 (.func (.func g) #[] lop) W o/\BoxA ba 0 (.func (.func 102) #[.agg #[.pointer (some ⟨mb,0,none⟩),.int .i64 q]] #[]) W o
theorem Zy1 (hK:Zbh K)(hf:FunC K n room w0 mb ws0 L C B bs g lop Φ er c){bf ba:Nat}{q:Int}{Q:BF}(n1:¬ C bf)(n2:¬ C ba)(hr:(L+4)*2^n<=room) :
 FunC K n room w0 mb ws0 L C (fun j W o=>B j W o/\UnB bf ba mb g lop q W o) ((q,Q)::bs) 103 #[.pointer (some ⟨bf,0,none⟩),.pointer (some ⟨ba,0,none⟩)] (fun F=>orF Q (Φ F)) er (c+2):=by
 have g2:Zio C (UnB bf ba mb g lop q):=(BoxA.keepC n1).and (BoxA.keepC n2);have hc:=hf.nat;refine⟨Zmx,fun j=>(hf.keep j).and g2.keep,by omega,fun j hj o0 wb W fs nx h F g6 hb g3 hk hn hl=>?_⟩;have HC:=Hd (hf.callB g2 j hj g6 hb (fun p hp=>g3 p (List.mem_cons_of_mem _ hp)) hk (by omega) hl);have hq:(q,Q)∈fs:=g3 _ (List.mem_cons_self ..);obtain⟨o1,m1,V1,_,_,_,_,⟨c1,_⟩,_⟩:=g6;have g4:Hid (∀ w1 p nx',FxS K n room w0 mb ws0 C o0 wb (fun W o=>B (j+1) W o/\UnB bf ba mb g lop q W o) (fs++[(p,Φ F)]) nx' w1->nx'<=nx+c->Calls prog 102 #[.agg #[.pointer (some ⟨mb,0,none⟩),.int .i64 q],.int .i64 p] w1 fun x w'=>x=.returned (.tuple #[.int .i64 nx',.int .i64 0])/\FxS K n room w0 mb ws0 C o0 wb (fun W o=>B (j+1) W o/\UnB bf ba mb g lop q W o) (fs++[(nx',orF Q (Φ F))]) (nx'+1) w') :=
  Hd fun w1 p nx' hs ga=>Ztu hK ((hf.keep (j+1)).and g2.keep) hb hs hq (by omega) (Nat.le_trans (Nat.mul_le_mul_right _ (by omega)) hr)
 have eg:=hf.enters;have eg2:=Zmy;obtain⟨ez,g7⟩:∃ z,z=er j:=⟨_,rfl⟩;rw[<- g7] at HC ⊢;obtain⟨P,hP⟩:∃ P:Ending->World->Prop,P=fun e w'=>∃ p nx',e=.returned (.tuple #[.int .i64 p,.int .i64 ez])/\nx<=nx'/\nx'<=nx+(c+2) /\
  (ez=0->FxS K n room w0 mb ws0 C o0 wb (fun W o=>B (j+1) W o/\UnB bf ba mb g lop q W o) (fs++[(p,orF Q (Φ F))]) nx' w')/\(ez≠0->FxS K n room w0 mb ws0 C o0 wb (fun W o=>B (j+1) W o/\UnB bf ba mb g lop q W o) fs nx' w'):=⟨_,rfl⟩
 have g8:Hid (_=P):=Hd hP.symm
 show Calls _ _ _ _ _
 rw[<- hP];clear hP g7 hf g2 hb g3 hk hq n1 n2 hr hl hK
 show Calls _ _ #[_,_,_] _ _
 go_enter func103,ntmps103
 go_wp2_with fail;refine HC.out.mono ?_;rintro x w1 ⟨p,nx',rfl,g1,g0,h0,h1⟩
 by_cases he:ez=0
 .
  have g9:(ez != 0)=false:=by rw[he];rfl
  have hs:=h0 he;have HO:=Hd (g4.out w1 p nx' hs g0);obtain⟨o2,m2,V2,_,_,_,_,_,⟨c2,_⟩⟩:=hs;have g5:=Hd (show nx<=nx'/\nx'<=nx+c from ⟨g1,g0⟩);clear h0 h1 HC g4 g1 g0 c1;subst he;go_wp2_with fail;refine HO.out.mono ?_;rintro x w2 ⟨rfl,h2⟩;have HF:=Hd h2;clear h2 HO
  have HR:Hid (P (.returned (.tuple #[.int .i64 nx',.int .i64 0])) w2):=Hd (by
   rw[<- g8.out];have:=g5.out;exact⟨nx',nx'+1,rfl,by omega,by omega,fun _=>HF.out,fun e=>(e rfl).elim⟩)
  go_wp2_with fail;exact HR.out
 .
  have g9:(ez != 0)=true:=by simp[he]
  have HF:=Hd (h1 he);have HE:=Hd he;have g5:=Hd (show nx<=nx'/\nx'<=nx+c from ⟨g1,g0⟩);clear h0 h1 HC g4 he g1 g0 c1
  have HR:Hid (P (.returned (.tuple #[.int .i64 0,.int .i64 ez])) w1):=Hd (by
   rw[<- g8.out];have:=g5.out;exact⟨0,nx',rfl,by omega,by omega,fun e=>(HE.out e).elim,fun _=>HF.out⟩)
  go_wp2_with fail;exact HR.out
theorem Zw1 (hK:Zbh K)(hf:FunC K n room w0 mb ws0 L C B bs g lop Φ er c)(hC:∀ k,C k->k<W.heap.size)(j0:Nat)(hj0:j0<=900000)(h:FxS K n room w0 mb ws0 C o0 wb (B j0) fs nx W)(hb:B2 fs)(hbs:∀ p∈bs,p∈fs){q:Int}{Q:BF}(hq:(q,Q)∈fs)(hn:nx+1+4097*(c+2)<549755813888)(hl:fs.length+1<=L)(hr:(L+4)*2^n<=room) :
 Calls prog 41 #[.pointer (some ⟨mb,0,none⟩),.int .i64 q,.func (.func g) #[] lop] W (Zhh K n room w0 mb ws0 C o0 wb B (fun F=>orF Q (Φ F)) er (c+2) j0 Q fs nx):=by
 have gb:∀ (fn:Fn) (first cap:Array Value) (w:World),(Instr.makeFunc fn first cap).run prog w=.ok (.func fn first cap) w:=fun _ _ _ _=>rfl
 obtain⟨w1,g4⟩:∃ w1,w1=W.alloc (.cells #[.func (.func g) #[] lop] 64):=⟨_,rfl⟩;have HW1:Hid (_=w1):=Hd g4.symm;have ga:Below W.heap.size W w1:=by rw[g4];exact Zad _ _
 have g9:w1.heap.size=W.heap.size+1:=by rw[g4];simp
 have hs1:=Zjo (hf.keep j0) h (vs:=#[.func (.func g) #[] lop]) (t:=64) (k:=0) (v:=.func (.func g) #[] lop) rfl;rw[<- g4] at hs1;have c1:w1.cell? ⟨W.heap.size,0,none⟩=some (.func (.func g) #[] lop):=by
  obtain⟨_,_,_,_,_,_,_,h5⟩:=hs1;exact h5.1
 obtain⟨w2,g1⟩:∃ w2,w2=w1.alloc (.cells #[.nilFunc] 64):=⟨_,rfl⟩;have gd:Hid (_=w2):=Hd g1.symm;have g2:w2.heap[w1.heap.size]?=some (.cells #[.nilFunc] 64 (0,0)):=by rw[g1];exact heap_alloc_new _ _
 have g7:Below w1.heap.size w1 w2:=by rw[g1];exact Zad _ _
 obtain⟨w3,g0⟩:∃ w3,w3=w2.setCell ⟨w1.heap.size,0,none⟩ (.func (.func 102) #[.agg #[.pointer (some ⟨mb,0,none⟩),.int .i64 q]] #[]):=⟨_,rfl⟩;have gc:Hid (_=w3):=Hd g0.symm;have g3:w3.heap[w1.heap.size]?=some (.cells #[.func (.func 102) #[.agg #[.pointer (some ⟨mb,0,none⟩),.int .i64 q]] #[]] 64 (0,0)):=by rw[g0];exact Zae g2 _
 have g5:Below w1.heap.size w1 w3:=by rw[g0];exact g7.setCell (p:=⟨w1.heap.size,0,none⟩) (Nat.le_refl _) _
 have g8:(store ⟨w1.heap.size,0,none⟩ (.func (.func 102) #[.agg #[.pointer (some ⟨mb,0,none⟩),.int .i64 q]] #[])).run prog w2=.ok () w3:=by
  rw[run_store _ _ _ _ _ rfl];simp[cell1 g2,World.frozen?,g2,g0]
 rw[g1] at g8;have c3:=(g5.cell (p:=⟨W.heap.size,0,none⟩) (Zaa c1)).trans c1;have g6:FxS K n room w0 mb ws0 C o0 wb (fun W' o=>B j0 W' o/\UnB W.heap.size w1.heap.size mb g lop q W' o) fs nx w3:=by
  obtain⟨o,m,V,q1,q2,q3,q4,q5⟩:=hs1;have hc:=ChgX.of_below g5 o NoB;exact⟨o,m,V,q1.trans hc NoB.sub,q2,q3.below g5,hf.keep j0 _ _ _ _ q4 hc,⟨c3,q5.2⟩,cell1 g3,q3.lt.none (Nat.le_refl _)⟩
 have n1:¬ C W.heap.size:=fun e=>by have:=hC _ e;omega
 have n2:¬ C w1.heap.size:=fun e=>by have:=hC _ e;omega
 have HM:Hid (Calls prog 85 #[.pointer (some ⟨mb,0,none⟩),.int .i64 q,.func (.func g) #[] lop] w1 fun x w'=>x=.returned (.int .i64 0)/\w1=w'):=Hd (hs1.ask fun o m V hs=>Zm9 (nil:=false) hs (.inr ⟨⟨_,hq⟩,.inr ⟨rfl,rfl⟩⟩));obtain⟨P,hP⟩:∃ P,P=Zhh K n room w0 mb ws0 C o0 wb B (fun F=>orF Q (Φ F)) er (c+2) j0 Q fs nx:=⟨_,rfl⟩
 have HG:Hid (Calls prog 101 #[.pointer (some ⟨mb,0,none⟩),.int .i64 q,.func (.func 103) #[] #[.pointer (some ⟨W.heap.size,0,none⟩),.pointer (some ⟨w1.heap.size,0,none⟩)]] w3 P):=Hd ((Zm2 hK (Zy1 (Q:=Q) hK hf n1 n2 hr) j0 hj0 g6 hb (fun p hp=>by
  rcases List.mem_cons.1 hp with rfl|hp
  . exact hq
  . exact hbs p hp) hq hn hl).mono fun x w' h=>by rw[hP];exact h.withB fun _ _ _ h=>h.1)
 have HT:Hid (∀ x w',P x w'->∃ a b d,x=.returned (.tuple #[.int .i64 a,.int .i64 b,.int .i64 d])):=Hd (by subst hP;exact fun x w' h=>h.three);rw[<- hP];clear hP h hf hb hbs hK hs1 g6 hq n1 n2 hC ga g7 g5 g2 g3 c3 g4 g1 g0 g9
 go_enter func41,ntmps41
 go_upto_region 1 with fail;rw[HW1.out];go_wp2_with fail;refine HM.out.mono ?_;rintro x w' ⟨rfl,rfl⟩;go_upto_region 5 with fail;go_wp2_with fail;refine HG.out.mono ?_;intro x w' hd;obtain⟨a,b,d,rfl⟩:=HT.out x w' hd;have HD:=Hd hd;clear hd;go_wp2_with fail;refine bodyPost_ret (results_tmp3 rfl _ _ _) rfl ?_;exact HD.out
end
open Go.RowKit
theorem Zge {α:Type}:∀ (ks:List Int) (l:List (Int×α)),(∀ k∈ks,1<k)->Zd1 l ks=l.filter fun p=>decide (p.1∉ks)
 | [],l,_=>by
   show l=_
   rw[List.filter_eq_self.2];intro p _;simp
 | k::ks,l,h=>by
   show Zd1 (if 1<k then delK k l else l) ks=_
   rw[if_pos (h k (List.mem_cons_self ..)),Zge ks (delK k l) fun q hq=>h q (List.mem_cons_of_mem _ hq)];unfold delK;rw[List.filter_filter];refine List.filter_congr fun p _=>?_
   by_cases h1:p.1=k<;>by_cases h2:p.1∈ks<;>simp[h1,h2]
def BoxB (b:Nat)(v:Value)(t:TypeId)(W:World)(o:Own):Prop:=W.heap[b]?=some (.cells #[v] t (0,0))/\o b=none
theorem BoxB.lt {b:Nat}{v:Value}{t:TypeId}{W:World}{o:Own}(h:BoxB b v t W o):b<W.heap.size:=(Array.getElem?_eq_some_iff.1 h.1).1
theorem BoxB.keepC {C:Nat->Prop}{b:Nat}{v:Value}{t:TypeId}(h:¬ C b):Zio C (BoxB b v t):=fun _ _ _ _ hb hc=>⟨(hc.block _ hb.lt hb.2 h).trans hb.1,hc.none' hb.lt hb.2⟩
theorem BoxB.cell {b:Nat}{v:Value}{t:TypeId}{W:World}{o:Own}(h:BoxB b v t W o):W.cell? ⟨b,0,none⟩=some v:=cell1 h.1
theorem BoxB.fr {b:Nat}{v:Value}{t:TypeId}{W:World}{o:Own}(h:BoxB b v t W o):W.frozen? ⟨b,0,none⟩=false:=by simp[World.frozen?,h.1]
theorem BoxB.wr {D:Nat->Prop}{b:Nat}{v:Value}{t:TypeId}{W W':World}{o:Own}(h:BoxB b v t W o)(hw:Wr D W W')(hn:¬ D b):BoxB b v t W' o:=⟨(hw.keep _ h.lt hn).trans h.1,h.2⟩
theorem BoxB.set {b:Nat}{v u:Value}{t:TypeId}{W:World}{o:Own}(h:BoxB b v t W o):BoxB b u t (W.setCell ⟨b,0,none⟩ u) o:=⟨Zae h.1 u,h.2⟩
theorem LawL.wr {D:Nat->Prop}{W W':World}{o:Own}{base:Nat}{v:Value}{ks:List Int}(h:LawL W o base v ks)(hw:Wr D W W')(hn:∀ k,v.ownBlock=some k->¬ D k):LawL W' o base v ks :=
 ⟨h.own.same fun k hk=>hw.keep k (h.own.lt k hk).2 (hn k hk),h.no⟩
theorem LawL.chgC {C:Nat->Prop}{W W':World}{o o':Own}{base:Nat}{v:Value}{ks:List Int}(h:LawL W o base v ks)(hc:ChgX C o o' W W')(hn:∀ k,C k->k<base):LawL W' o' base v ks :=
 ⟨h.own.same fun k hk=>hc.block k (h.own.lt k hk).2 (h.no k hk) (fun e=>by have:=hn k e;have:=(h.own.lt k hk).1;omega),fun k hk=>hc.none' (h.own.lt k hk).2 (h.no k hk)⟩
theorem Zrn (W:World)(o:Own)(base:Nat):LawL W o base (.slice none 0 0) []:=⟨Zne _ _ _,fun k hk=>by cases hk⟩
structure RkB (base mb:Nat)(Bj:World->Own->Prop)(vl ul:Value)(wh:Bool)(e:Int)(vh uh:Value)(ls hv:List Int)(W:World)(o:Own):Prop where
 b:Bj W o
 b0:BoxB base (.pointer (some ⟨mb,0,none⟩)) 41 W o
 b1:BoxB (base+1) vl 23 W o
 b2:BoxB (base+2) (.bool wh) 4 W o
 b3:BoxB (base+3) (.int .i64 e) 25 W o
 b4:BoxB (base+4) vh 23 W o
 l:LawL W o (base+5) ul ls
 h:LawL W o (base+5) uh hv
 ne:∀ k,ul.ownBlock=some k->uh.ownBlock≠some k
section
variable {K:Law}{n room L:Nat}{w0 w wb W W':World}{mb g base:Nat}{fs X bs r:List (Int×BF)}{nx:Int}{o o0:Own}{m:ManD}{V:Nat->BF}{ws0:List Ev}{C D:Nat->Prop}{Bj B B':World->Own->Prop}{vl ul vh uh:Value}{wh:Bool}{e:Int}{ls hv:List Int}
theorem RkB.keepC (hC:∀ k,C k->k<base)(hB:Zio C Bj):Zio C (RkB base mb Bj vl ul wh e vh uh ls hv):=fun W o W' o' h hc =>
 ⟨hB _ _ _ _ h.b hc,BoxB.keepC (fun q=>by have:=hC _ q;omega) _ _ _ _ h.b0 hc,BoxB.keepC (fun q=>by have:=hC _ q;omega) _ _ _ _ h.b1 hc,BoxB.keepC (fun q=>by have:=hC _ q;omega) _ _ _ _ h.b2 hc,BoxB.keepC (fun q=>by have:=hC _ q;omega) _ _ _ _ h.b3 hc,BoxB.keepC (fun q=>by have:=hC _ q;omega) _ _ _ _ h.b4 hc,
  h.l.chgC hc (fun k q=>by have:=hC _ q;omega),h.h.chgC hc (fun k q=>by have:=hC _ q;omega),h.ne⟩
theorem FxS.wr (h:FxS K n room w0 mb ws0 C o0 wb B X nx W)(hs:wb.heap.size<=base)(hs0:w0.heap.size<=base)(hw:Wr D W W')(hD:∀ k,D k->base<=k)(hno:∀ o,B W o->∀ k,D k->o k=none)(hB:∀ o,Zaj o W->B W o->B' W' o):FxS K n room w0 mb ws0 C o0 wb B' X nx W':=by
 obtain⟨o,m,V,h1,h2,h3,h4⟩:=h;exact⟨o,m,V,h1.trans (ChgX.of_wr (C:=D) hw o (fun _ _ q=>q)) (fun k hk q=>by have:=hD k q;omega),h2,h3.other hw (fun k _ q=>⟨Nat.le_trans hs0 (hD k q),hno o h4 k q⟩),hB o h3.lt h4⟩
def LowB (base:Nat)(B:World->Own->Prop):Prop:=∀ W W' o,B W o->(∀ k,k<base->W'.heap[k]?=W.heap[k]?)->W.heap.size<=W'.heap.size->B W' o
theorem Zbn {W:World}{b:Nat}(v:Value):Wr (· = b) W (W.setCell ⟨b,0,none⟩ v):=(Wr.refl (· = b) W).setCell (p:=⟨b,0,none⟩) (.inl rfl) v
theorem Zsd {b:Nat}(hw:Wr (· = b) W W')(hb:base<=b)(k:Nat)(hk:k<base)(hl:base<=W.heap.size):W'.heap[k]?=W.heap[k]?:=hw.keep k (by omega) (fun e=>by have:k=b:=e;omega)
abbrev RkF (K:Law)(n room:Nat)(w0:World)(mb:Nat)(ws0:List Ev)(C:Nat->Prop)(o0:Own)(wb:World)(base:Nat)(Bj:World->Own->Prop)(X:List (Int×BF))(nx:Int)(vl ul:Value)(wh:Bool)(e:Int)(vh uh:Value)(ls hv:List Int)(W:World):Prop :=
 FxS K n room w0 mb ws0 C o0 wb (RkB base mb Bj vl ul wh e vh uh ls hv) X nx W
theorem RkF.set1 (h:RkF K n room w0 mb ws0 C o0 wb base Bj X nx vl ul wh e vh uh ls hv W)(hs:wb.heap.size<=base)(hs0:w0.heap.size<=base)(hB:LowB base Bj)(v:Value):RkF K n room w0 mb ws0 C o0 wb base Bj X nx v ul wh e vh uh ls hv (W.setCell ⟨base+1,0,none⟩ v) :=
 FxS.wr h hs hs0 (Zbn v) (fun k q=>by subst q;omega) (fun o hb k q=>by subst q;exact hb.b1.2) fun o hlt hb =>
  ⟨hB _ _ _ hb.b (fun k hk=>Zsd (Zbn v) (by omega) k hk (Nat.le_of_lt hb.b0.lt)) (Zbn v).size,hb.b0.wr (Zbn v) (by show ¬ base=_;omega),hb.b1.set,hb.b2.wr (Zbn v) (by show ¬ _=_;omega),hb.b3.wr (Zbn v) (by show ¬ _=_;omega),hb.b4.wr (Zbn v) (by show ¬ _=_;omega),
   hb.l.wr (Zbn v) (fun k hk q=>by have:=(hb.l.own.lt k hk).1;have:k=base+1:=q;omega),hb.h.wr (Zbn v) (fun k hk q=>by have:=(hb.h.own.lt k hk).1;have:k=base+1:=q;omega),hb.ne⟩
theorem RkF.set2 (h:RkF K n room w0 mb ws0 C o0 wb base Bj X nx vl ul wh e vh uh ls hv W)(hs:wb.heap.size<=base)(hs0:w0.heap.size<=base)(hB:LowB base Bj)(v:Bool):RkF K n room w0 mb ws0 C o0 wb base Bj X nx vl ul v e vh uh ls hv (W.setCell ⟨base+2,0,none⟩ (.bool v)) :=
 FxS.wr h hs hs0 (Zbn (.bool v)) (fun k q=>by subst q;omega) (fun o hb k q=>by subst q;exact hb.b2.2) fun o hlt hb =>
  ⟨hB _ _ _ hb.b (fun k hk=>Zsd (Zbn (.bool v)) (by omega) k hk (Nat.le_of_lt hb.b0.lt)) (Zbn (.bool v)).size,hb.b0.wr (Zbn (.bool v)) (by show ¬ base=_;omega),hb.b1.wr (Zbn (.bool v)) (by show ¬ _=_;omega),hb.b2.set,hb.b3.wr (Zbn (.bool v)) (by show ¬ _=_;omega),hb.b4.wr (Zbn (.bool v)) (by show ¬ _=_;omega),
   hb.l.wr (Zbn (.bool v)) (fun k hk q=>by have:=(hb.l.own.lt k hk).1;have:k=base+2:=q;omega),hb.h.wr (Zbn (.bool v)) (fun k hk q=>by have:=(hb.h.own.lt k hk).1;have:k=base+2:=q;omega),hb.ne⟩
theorem RkF.set3 (h:RkF K n room w0 mb ws0 C o0 wb base Bj X nx vl ul wh e vh uh ls hv W)(hs:wb.heap.size<=base)(hs0:w0.heap.size<=base)(hB:LowB base Bj)(v:Int):RkF K n room w0 mb ws0 C o0 wb base Bj X nx vl ul wh v vh uh ls hv (W.setCell ⟨base+3,0,none⟩ (.int .i64 v)) :=
 FxS.wr h hs hs0 (Zbn (.int .i64 v)) (fun k q=>by subst q;omega) (fun o hb k q=>by subst q;exact hb.b3.2) fun o hlt hb =>
  ⟨hB _ _ _ hb.b (fun k hk=>Zsd (Zbn (.int .i64 v)) (by omega) k hk (Nat.le_of_lt hb.b0.lt)) (Zbn (.int .i64 v)).size,hb.b0.wr (Zbn (.int .i64 v)) (by show ¬ base=_;omega),hb.b1.wr (Zbn (.int .i64 v)) (by show ¬ _=_;omega),hb.b2.wr (Zbn (.int .i64 v)) (by show ¬ _=_;omega),hb.b3.set,hb.b4.wr (Zbn (.int .i64 v)) (by show ¬ _=_;omega),
   hb.l.wr (Zbn (.int .i64 v)) (fun k hk q=>by have:=(hb.l.own.lt k hk).1;have:k=base+3:=q;omega),hb.h.wr (Zbn (.int .i64 v)) (fun k hk q=>by have:=(hb.h.own.lt k hk).1;have:k=base+3:=q;omega),hb.ne⟩
theorem RkF.set4 (h:RkF K n room w0 mb ws0 C o0 wb base Bj X nx vl ul wh e vh uh ls hv W)(hs:wb.heap.size<=base)(hs0:w0.heap.size<=base)(hB:LowB base Bj)(v:Value):RkF K n room w0 mb ws0 C o0 wb base Bj X nx vl ul wh e v uh ls hv (W.setCell ⟨base+4,0,none⟩ v) :=
 FxS.wr h hs hs0 (Zbn v) (fun k q=>by subst q;omega) (fun o hb k q=>by subst q;exact hb.b4.2) fun o hlt hb =>
  ⟨hB _ _ _ hb.b (fun k hk=>Zsd (Zbn v) (by omega) k hk (Nat.le_of_lt hb.b0.lt)) (Zbn v).size,hb.b0.wr (Zbn v) (by show ¬ base=_;omega),hb.b1.wr (Zbn v) (by show ¬ _=_;omega),hb.b2.wr (Zbn v) (by show ¬ _=_;omega),hb.b3.wr (Zbn v) (by show ¬ _=_;omega),hb.b4.set,
   hb.l.wr (Zbn v) (fun k hk q=>by have:=(hb.l.own.lt k hk).1;have:k=base+4:=q;omega),hb.h.wr (Zbn v) (fun k hk q=>by have:=(hb.h.own.lt k hk).1;have:k=base+4:=q;omega),hb.ne⟩
theorem RkF.appL (h:RkF K n room w0 mb ws0 C o0 wb base Bj X nx vl ul wh e vh uh ls hv W)(hs:wb.heap.size<=base)(hs0:w0.heap.size<=base)(hB:LowB base Bj){v:Value}{k:Int}(hown:OwnC 3 W' (base+5) v (Za1 ls++[.int .i64 k]))(g1:W'.os=W.os)(g2:W'.tape=W.tape)(g3:W'.output=W.output)(g4:W.heap.size<=W'.heap.size)(hk:Zcp ul v W W') :
 RkF K n room w0 mb ws0 C o0 wb base Bj X nx vl v wh e vh uh (ls++[k]) hv W':=by
 have hw:=Zmj g1 g2 g3 g4 hk;obtain⟨lD,g7⟩:∃ D:Nat->Prop,D=fun q=>ul.ownBlock=some q/\base+5<=q:=⟨_,rfl⟩
 have g0:∀ q,ul.ownBlock=some q->base+5<=q:=by
  obtain⟨_,_,_,_,_,_,hb⟩:=h;exact fun q hq=>(hb.l.own.lt q hq).1
 refine FxS.wr h hs hs0 hw (fun q hq=>by have:=g0 q hq;omega) (fun o hb q hq=>hb.l.no q hq) fun o g5 hb=>?_
 refine⟨hB _ _ _ hb.b (fun q hq=>hw.keep q (by have:=hb.b0.lt;omega) (fun e=>by have:=g0 q e;omega)) hw.size,hb.b0.wr hw (fun e=>by have:=g0 _ e;omega),hb.b1.wr hw (fun e=>by have:=g0 _ e;omega),hb.b2.wr hw (fun e=>by have:=g0 _ e;omega),hb.b3.wr hw (fun e=>by have:=g0 _ e;omega),hb.b4.wr hw (fun e=>by have:=g0 _ e;omega),
  hb.l.app g5 hown hk,hb.h.wr hw (fun q hq e=>hb.ne q e hq),fun q hq=>?_⟩
 rcases hk.loc with e|⟨q',e,g6⟩
 . rw[e] at hq;exact hb.ne q hq
 .
  rw[e] at hq;have e3:q'=q:=by injection hq
  intro e2;have:=(hb.h.own.lt q e2).2;omega
theorem RkF.appH (h:RkF K n room w0 mb ws0 C o0 wb base Bj X nx vl ul wh e vh uh ls hv W)(hs:wb.heap.size<=base)(hs0:w0.heap.size<=base)(hB:LowB base Bj){v:Value}{k:Int}(hown:OwnC 3 W' (base+5) v (Za1 hv++[.int .i64 k]))(g1:W'.os=W.os)(g2:W'.tape=W.tape)(g3:W'.output=W.output)(g4:W.heap.size<=W'.heap.size)(hk:Zcp uh v W W') :
 RkF K n room w0 mb ws0 C o0 wb base Bj X nx vl ul wh e vh v ls (hv++[k]) W':=by
 have hw:=Zmj g1 g2 g3 g4 hk;have g0:∀ q,uh.ownBlock=some q->base+5<=q:=by
  obtain⟨_,_,_,_,_,_,hb⟩:=h;exact fun q hq=>(hb.h.own.lt q hq).1
 refine FxS.wr h hs hs0 hw (fun q hq=>by have:=g0 q hq;omega) (fun o hb q hq=>hb.h.no q hq) fun o g5 hb=>?_
 refine⟨hB _ _ _ hb.b (fun q hq=>hw.keep q (by have:=hb.b0.lt;omega) (fun e=>by have:=g0 q e;omega)) hw.size,hb.b0.wr hw (fun e=>by have:=g0 _ e;omega),hb.b1.wr hw (fun e=>by have:=g0 _ e;omega),hb.b2.wr hw (fun e=>by have:=g0 _ e;omega),hb.b3.wr hw (fun e=>by have:=g0 _ e;omega),hb.b4.wr hw (fun e=>by have:=g0 _ e;omega),
  hb.l.wr hw (fun q hq e=>hb.ne q hq e),hb.h.app g5 hown hk,fun q hq e=>?_⟩
 rcases hk.loc with e1|⟨q',e1,g6⟩
 . rw[e1] at e;exact hb.ne q hq e
 .
  rw[e1] at e;have e3:q'=q:=by injection e
  have:=(hb.l.own.lt q hq).2;omega
theorem FxS.diff2 (hK:Zbh K)(hB:Zdf B)(h:FxS K n room w0 mb ws0 C o0 wb B fs nx W){k1 k2:Int}{F1 F2:BF}(h1:(k1,F1)∈fs)(h2:(k2,F2)∈fs)(hn:nx<=549755813888)(hr:(fs.length+1)*2^n<=room) :
 Calls prog 89 #[.pointer (some ⟨mb,0,none⟩),.int .i64 k1,.int .i64 k2] W fun x w'=>x=.returned (.tuple #[.int .i64 nx,.int .i64 0])/\FxS K n room w0 mb ws0 C o0 wb B (fs++[(nx,Zoj F1 F2)]) (nx+1) w' :=
 h.new hB fun o m V hw hs=>Zx3 hK hs h1 h2 hw hn (by rw[Nat.add_mul] at hr;omega)
end
open Go.RowKit
theorem LawL.ints {W:World}{o:Own}{base:Nat}{v:Value}{ks:List Int}(h:LawL W o base v ks)(hl:ks.length<=1000000):∃ a c,v=.slice a ks.length c/\Zay W a ks/\∀ x,a=some x->o x.block=none:=by
 obtain⟨a,c,e,_⟩:=h.own.slice;have l1:(Za1 ks).length=ks.length:=by simp[Za1]
 rw[l1] at e;refine⟨a,c,e,⟨by omega,fun k hk=>?_⟩,fun x hx=>?_⟩
 .
  obtain⟨g,cap,e3,_⟩:=h.own.shape (by rw[l1];omega);rw[e] at e3;injection e3 with e3
  subst e3;have hc:=h.own;rw[e] at hc;refine⟨g,0,rfl,?_⟩;rw[Nat.zero_add,hc.cell k (by rw[l1];exact hk),Za1,List.getElem?_map,getElem?_at0 hk];rfl
 . subst hx;exact h.no x.block (by rw[e];rfl)
section
variable {K:Law}{n room L:Nat}{w0 w wb W W':World}{mb g base:Nat}{fs X bs r:List (Int×BF)}{nx:Int}{o o0:Own}{m:ManD}{V:Nat->BF}{ws0:List Ev}{C D:Nat->Prop}{Bj B B':World->Own->Prop}{vl ul vh uh:Value}{wh:Bool}{e:Int}{ls hv:List Int}
theorem Ycc {hv:List Int}(hnd:hv.Nodup)(hin:∀ k∈hv,∃ F,(k,F)∈X):∀ j,j<hv.length->∃ F,(at0 hv j,F)∈Zd1 X (hv.take j):=fun j hj=>by
 rw[Zby hj];obtain⟨F,hF⟩:=hin _ (List.getElem_mem hj);refine⟨F,Zh9 hF fun hc=>?_⟩;obtain⟨i,hi,e⟩:=List.getElem_of_mem hc;have hi2:i<j:=by simp at hi;omega
 rw[List.getElem_take] at e;exact(List.pairwise_iff_getElem.1 hnd) i j (by simp at hi;omega) hj hi2 e
theorem Zv9 (hK:Zbh K)(hC:∀ k,C k->k<base)(hB:Zdf Bj)(h:RkF K n room w0 mb ws0 C o0 wb base Bj X nx vl ul wh 0 uh uh ls hv W)(hnx:nx<549755813888)(hl:hv.length<=1000000)(hnd:hv.Nodup)(h1:∀ k∈hv,1<k)(hin:∀ k∈hv,∃ F,(k,F)∈X){Y:List (Int×BF)}(hY:(X.filter fun p=>decide (p.1∉hv))=Y)(u:FrameMode) :
 CallsD prog 86 #[.pointer (some ⟨base,0,none⟩),.pointer (some ⟨base+4,0,none⟩),.pointer (some ⟨base+3,0,none⟩),.pointer (some ⟨base+1,0,none⟩),.pointer (some ⟨base+2,0,none⟩)] u W fun e u' w'=>u'=u/\e=.returned (.tuple #[])/\RkF K n room w0 mb ws0 C o0 wb base Bj Y nx vl ul wh 0 uh uh ls hv w':=by
 have g1:Zdf (RkB base mb Bj vl ul wh 0 uh uh ls hv):=fun W o W' o' h hc =>
  ⟨hB _ _ _ _ h.b hc,BoxB.keepC (fun q=>q) _ _ _ _ h.b0 hc,BoxB.keepC (fun q=>q) _ _ _ _ h.b1 hc,BoxB.keepC (fun q=>q) _ _ _ _ h.b2 hc,BoxB.keepC (fun q=>q) _ _ _ _ h.b3 hc,BoxB.keepC (fun q=>q) _ _ _ _ h.b4 hc,
   h.l.chg hc,h.h.chg hc,h.ne⟩
 have g0:∃ a c,uh=.slice a hv.length c/\Calls prog 87 #[.pointer (some ⟨mb,0,none⟩),.slice a hv.length c] W fun x w'=>x=.returned (.int .i64 0)/\RkF K n room w0 mb ws0 C o0 wb base Bj Y nx vl ul wh 0 uh uh ls hv w':=by
  obtain⟨o,m,V,q1,q2,q3,q4⟩:=h;obtain⟨a,c,e,hz,g2⟩:=q4.h.ints hl;refine⟨a,c,e,(Zhr hK q3 hnx hz g2 (Ycc hnd hin)).mono ?_⟩;rintro x w' ⟨r1,o',m',hh⟩;have hs:=hh.sat;rw[Zge hv X h1,hY] at hs;exact⟨r1,o',m',V,q1.trans (ChgX.of_chg hh.chg NoB) NoB.sub,by rw[hh.waits];exact q2,hs,g1 _ _ _ _ q4 (ChgX.of_chg hh.chg NoB)⟩
 obtain⟨a,c,e,hd⟩:=g0;have HD:=Hd hd;obtain⟨_,_,_,_,_,_,hb⟩:=h;have c0:=hb.b0.cell;have c3:=hb.b3.cell;have c4:=hb.b4.cell;rw[e] at c4;obtain⟨P,hP⟩:∃ P:World->Prop,P=fun w'=>RkF K n room w0 mb ws0 C o0 wb base Bj Y nx vl ul wh 0 uh uh ls hv w':=⟨_,rfl⟩
 have HC:Hid (∀ w',P w'->w'.cell? ⟨base+3,0,none⟩=some (.int .i64 0)):=Hd (by rw[hP];rintro w' ⟨_,_,_,_,_,_,hb⟩;exact hb.b3.cell);have HP:Hid (∀ w',RkF K n room w0 mb ws0 C o0 wb base Bj Y nx vl ul wh 0 uh uh ls hv w'->P w'):=Hd (by rw[hP];exact fun _ h=>h);have HQ:Hid (∀ w',P w'->RkF K n room w0 mb ws0 C o0 wb base Bj Y nx vl ul wh 0 uh uh ls hv w'):=Hd (by rw[hP];exact fun _ h=>h);clear hb hd e hP hnd h1 hin hY hl g1
 go_enter_d func86,ntmps86
 go_wp2_with fail;refine HD.out.mono ?_;rintro x w' ⟨rfl,hr⟩;have hp:=HP.out w' hr;have c3':=HC.out w' hp;have HR:=Hd hp;clear hr hp HD HC HP c0 c3 c4;go_wp2_with fail;refine bodyPost_end (results_none rfl _ _ _) rfl ?_;exact⟨rfl,HQ.out _ HR.out⟩
end
structure RkI (K:Law)(n room:Nat)(w0:World)(mb:Nat)(ws0:List Ev)(C:Nat->Prop)(o0:Own)(wb:World)(base:Nat)(B:Nat->World->Own->Prop)(Φ:BF->BF)(c:Int)(j0:Nat)(Q:BF)(fs:List (Int×BF))(nx:Int)(i:Nat)(ka kr:Int)(X rs:List (Int×BF))(hv:List Int)(nx':Int)(vl vh:Value)(W:World):Prop where
 st:RkF K n room w0 mb ws0 C o0 wb base (B (j0+i)) X nx' vl vl false 0 vh vh (rs.map Prod.fst) hv W
 snd:rs.map Prod.snd=(List.range i).map (Zci Φ Q)
 fil:(X.filter fun p=>decide (p.1∉hv))=fs++(rs++[(kr,Zci Φ Q i)])
 all:(ka,allF Φ Q i)∈X
 nd:hv.Nodup
 gt:∀ k∈hv,1<k
 inX:∀ k∈hv,∃ F,(k,F)∈X
 pre:∃ Y,X=fs++Y
 len:X.length=fs.length+2+2*i
 rings:Zf8 Φ Q i
 lo:nx<=nx'
 hi:nx'<=nx+2+i*(c+2)
 hlen:hv.length=i+1
def Zzu (K:Law)(n room:Nat)(w0:World)(mb:Nat)(ws0:List Ev)(C:Nat->Prop)(o0:Own)(wb:World)(base:Nat)(B:Nat->World->Own->Prop)(Φ:BF->BF)(c:Int)(j0:Nat)(Q:BF)(most:Nat)(fs:List (Int×BF))(nx:Int)(x:Ending)(w':World):Prop :=
 ∃ (k s:Nat) (rs:List (Int×BF)) (nx':Int) (vl:Value) (wh:Bool),x=.returned (.tuple #[vl,.bool wh,.int .i64 0])/\k<=most/\nx<=nx'/\nx'<=nx+490000/\rs.map Prod.snd=(List.range k).map (Zci Φ Q) /\
  ((wh=false/\k=most/\Zf8 Φ Q k/\s=k)\/(wh=true/\∃ i,k=i+1/\s=k/\Zj7 Φ Q i)) /\
  FxS K n room w0 mb ws0 C o0 wb (fun W o=>B (j0+s) W o/\LawL W o (base+5) vl (rs.map Prod.fst)) (fs++rs) nx' w'
section
variable {K:Law}{n room L:Nat}{w0 w wb W W':World}{mb g base:Nat}{fs X bs r:List (Int×BF)}{nx nx':Int}{o o0:Own}{m:ManD}{V:Nat->BF}{ws0:List Ev}{C D:Nat->Prop}{B:Nat->World->Own->Prop}{Bj:World->Own->Prop}{lop:Array Value}{Φ:BF->BF}{c:Int}{vl ul vh uh:Value}{wh:Bool}{e:Int}{ls hv:List Int}{Q:BF}
theorem RkF.cells (h:RkF K n room w0 mb ws0 C o0 wb base Bj X nx vl ul wh e vh uh ls hv W):(W.cell? ⟨base,0,none⟩=some (.pointer (some ⟨mb,0,none⟩))/\W.cell? ⟨base+1,0,none⟩=some vl/\W.cell? ⟨base+1+1,0,none⟩=some (.bool wh)/\W.cell? ⟨base+1+1+1,0,none⟩=some (.int .i64 e)/\W.cell? ⟨base+1+1+1+1,0,none⟩=some vh) /\
 (W.frozen? ⟨base+1,0,none⟩=false/\W.frozen? ⟨base+1+1,0,none⟩=false/\W.frozen? ⟨base+1+1+1,0,none⟩=false/\W.frozen? ⟨base+1+1+1+1,0,none⟩=false):=by
 obtain⟨_,_,_,_,_,_,hb⟩:=h;exact⟨⟨hb.b0.cell,hb.b1.cell,hb.b2.cell,hb.b3.cell,hb.b4.cell⟩,hb.b1.fr,hb.b2.fr,hb.b3.fr,hb.b4.fr⟩
theorem RkF.ownL (h:RkF K n room w0 mb ws0 C o0 wb base Bj X nx vl ul wh e vh uh ls hv W):OwnC 3 W (base+5) ul (Za1 ls):=by
 obtain⟨_,_,_,_,_,_,hb⟩:=h;exact hb.l.own
theorem RkF.ownH (h:RkF K n room w0 mb ws0 C o0 wb base Bj X nx vl ul wh e vh uh ls hv W):OwnC 3 W (base+5) uh (Za1 hv):=by
 obtain⟨_,_,_,_,_,_,hb⟩:=h;exact hb.h.own
theorem RkF.size (h:RkF K n room w0 mb ws0 C o0 wb base Bj X nx vl ul wh e vh uh ls hv W):base+5<=W.heap.size:=by
 obtain⟨_,_,_,_,_,_,hb⟩:=h;exact hb.b4.lt
theorem RkF.nodup (h:RkF K n room w0 mb ws0 C o0 wb base Bj X nx vl ul wh e vh uh ls hv W):(X.map Prod.fst).Nodup:=by
 obtain⟨_,_,_,_,_,h3,_⟩:=h;exact h3.nodup
theorem FxS.size (h:FxS K n room w0 mb ws0 C o0 wb Bj X nx W):wb.heap.size<=W.heap.size/\w0.heap.size<=W.heap.size:=by
 obtain⟨_,_,_,h1,_,h3,_⟩:=h;exact⟨h1.size,h3.chg.size⟩
theorem RkF.keepB (hB:Zdf Bj):Zdf (RkB base mb Bj vl ul wh e vh uh ls hv):=fun W o W' o' h hc =>
 ⟨hB _ _ _ _ h.b hc,BoxB.keepC (fun q=>q) _ _ _ _ h.b0 hc,BoxB.keepC (fun q=>q) _ _ _ _ h.b1 hc,BoxB.keepC (fun q=>q) _ _ _ _ h.b2 hc,BoxB.keepC (fun q=>q) _ _ _ _ h.b3 hc,BoxB.keepC (fun q=>q) _ _ _ _ h.b4 hc,h.l.chg hc,h.h.chg hc,h.ne⟩
theorem Zte (h:FxS K n room w0 mb ws0 C o0 wb Bj fs nx W)(hB:Zdf Bj){w4 w5:World}(hw4:w4=(((W.alloc (.cells #[.pointer (some ⟨mb,0,none⟩)] 41)).alloc (.cells #[.slice none 0 0] 23)).alloc (.cells #[.bool false] 4)).alloc (.cells #[.int .i64 0] 25))(hw5:w5=w4.alloc (.cells #[.slice none 0 0] 23)) :
 Below W.heap.size W w4/\w4.cell? ⟨W.heap.size,0,none⟩=some (.pointer (some ⟨mb,0,none⟩))/\RkF K n room w0 mb ws0 C o0 wb W.heap.size Bj fs nx (.slice none 0 0) (.slice none 0 0) false 0 (.slice none 0 0) (.slice none 0 0) [] [] w5:=by
 have g0:w4.heap[W.heap.size]?=some (.cells #[.pointer (some ⟨mb,0,none⟩)] 41 (0,0)):=by
  rw[hw4];exact(Go.heap_alloc_old _ _ (by simp;omega)).trans ((Go.heap_alloc_old _ _ (by simp;omega)).trans ((Go.heap_alloc_old _ _ (by simp)).trans (heap_alloc_new _ _)))
 have g1:w4.heap[W.heap.size+1]?=some (.cells #[.slice none 0 0] 23 (0,0)):=by
  have:=heap_alloc_new (W.alloc (.cells #[.pointer (some ⟨mb,0,none⟩)] 41)) (.cells #[.slice none 0 0] 23);rw[World.size_alloc] at this;rw[hw4];exact(Go.heap_alloc_old _ _ (by simp)).trans ((Go.heap_alloc_old _ _ (by simp)).trans this)
 have g2:w4.heap[W.heap.size+2]?=some (.cells #[.bool false] 4 (0,0)):=by
  have:=heap_alloc_new ((W.alloc (.cells #[.pointer (some ⟨mb,0,none⟩)] 41)).alloc (.cells #[.slice none 0 0] 23)) (.cells #[.bool false] 4);rw[World.size_alloc,World.size_alloc] at this;rw[hw4];exact(Go.heap_alloc_old _ _ (by simp)).trans this
 have g3:w4.heap[W.heap.size+3]?=some (.cells #[.int .i64 0] 25 (0,0)):=by
  have:=heap_alloc_new (((W.alloc (.cells #[.pointer (some ⟨mb,0,none⟩)] 41)).alloc (.cells #[.slice none 0 0] 23)).alloc (.cells #[.bool false] 4)) (.cells #[.int .i64 0] 25);rw[World.size_alloc,World.size_alloc,World.size_alloc] at this;rw[hw4];exact this
 have g7:w4.heap.size=W.heap.size+4:=by rw[hw4];simp
 have g5:Below W.heap.size W w4:=by rw[hw4];exact(((Zad _ _).alloc (by simp) _).alloc (by simp;omega) _).alloc (by simp;omega) _
 have g6:Below w4.heap.size w4 w5:=by rw[hw5];exact Zad _ _
 have g4:w5.heap[W.heap.size+4]?=some (.cells #[.slice none 0 0] 23 (0,0)):=by
  rw[<- g7,hw5];exact heap_alloc_new _ _
 have hb:Below W.heap.size W w5:=g5.trans (g6.mono g5.size);obtain⟨o,m,V,h1,h2,h3,h4⟩:=h;have hc:=ChgX.of_below hb o NoB;have hk:∀ k,k<w4.heap.size->w5.heap[k]?=w4.heap[k]?:=fun k hk=>g6.block k hk
 exact⟨g5,cell1 g0,o,m,V,h1.trans hc NoB.sub,h2,h3.below hb,hB _ _ _ _ h4 hc,⟨(hk _ (by omega)).trans g0,h3.lt.none (by omega)⟩,⟨(hk _ (by omega)).trans g1,h3.lt.none (by omega)⟩,⟨(hk _ (by omega)).trans g2,h3.lt.none (by omega)⟩,⟨(hk _ (by omega)).trans g3,h3.lt.none (by omega)⟩,⟨g4,h3.lt.none (by omega)⟩,Zrn _ _ _,Zrn _ _ _,fun k hk=>by cases hk⟩
end
open Go.RowKit
theorem Zor (args:Array Value)(w:World):(callFunc 86 args).run prog w=.ok (.enter 86 args) w:=enters_of func86 (by kernel_rfl) rfl args w
section
variable {K:Law}{n room L:Nat}{w0 w wb W W':World}{mb g base:Nat}{fs X bs r:List (Int×BF)}{nx nx':Int}{o o0:Own}{m:ManD}{V:Nat->BF}{ws0:List Ev}{C D:Nat->Prop}{B:Nat->World->Own->Prop}{Bj:World->Own->Prop}{lop:Array Value}{Φ:BF->BF}{c:Int}{vl ul vh uh:Value}{wh:Bool}{e:Int}{ls hv:List Int}{Q:BF}
theorem Zld {X:List (Int×BF)}{hv:List Int}{d a:Int}{D A:BF}(hnd:((X++[(d,D),(a,A)]).map Prod.fst).Nodup)(hin:∀ k∈hv,∃ F,(k,F)∈X) :
 ((X++[(d,D),(a,A)]).filter fun p=>decide (p.1∉hv++[a]))=(X.filter fun p=>decide (p.1∉hv))++[(d,D)]:=by
 rw[List.map_append,List.nodup_append] at hnd;obtain⟨_,h2,h3⟩:=hnd;have hX:∀ p∈X,p.1≠a:=fun p hp e=>h3 p.1 (List.mem_map.2 ⟨p,hp,rfl⟩) a (by simp) e
 have hd:d∉hv:=fun hd=>by
  obtain⟨F,hF⟩:=hin d hd;exact h3 d (List.mem_map.2 ⟨_,hF,rfl⟩) d (by simp) rfl
 have g0:d≠a:=by simpa using h2
 rw[List.filter_append];congr 1
 .
  refine List.filter_congr fun p hp=>?_
  have:=hX p hp;simp[this]
 . simp[hd,g0]
theorem Zso {Y:List (Int×BF)}{kr:Int}{R:BF}(hnd:((Y++[(kr,R)]).map Prod.fst).Nodup):((Y++[(kr,R)]).filter fun p=>decide (p.1≠kr))=Y:=by
 rw[List.map_append,List.nodup_append] at hnd;rw[List.filter_append,List.filter_eq_self.2]
 . simp
 . intro p hp;have:=hnd.2.2 p.1 (List.mem_map.2 ⟨p,hp,rfl⟩) kr (by simp);simpa using this
theorem FxS.drop1F (hK:Zbh K)(hB:Zdf Bj)(h:FxS K n room w0 mb ws0 C o0 wb Bj X nx W)(hn:nx<549755813888){k:Int}{F:BF}(hk:(k,F)∈X)(h1:1<k){T:World}(hT:T=W.alloc (.cells #[.int .i64 k] 3)) :
 Calls prog 87 #[.pointer (some ⟨mb,0,none⟩),.slice (some ⟨W.heap.size,0,none⟩) 1 1] T fun x w'=>x=.returned (.int .i64 0)/\FxS K n room w0 mb ws0 C o0 wb Bj (X.filter fun p=>decide (p.1≠k)) nx w':=by
 subst hT;obtain⟨o,m,V,q1,q2,q3,q4⟩:=h;have g0:=Zad W (.cells #[.int .i64 k] 3)
 refine(Zhr (c:=1) (ks:=[k]) hK (q3.below g0) hn (a:=some ⟨W.heap.size,0,none⟩) (Zet W [k] (by simp)) (fun x hx=>by cases hx;exact q3.lt.none (Nat.le_refl _)) (fun j hj=>by
  obtain rfl:j=0:=by simpa using hj
  exact⟨F,hk⟩)).mono ?_
 rintro x w' ⟨r1,o',m',hh⟩;have hc:=(ChgX.of_below g0 o NoB).trans (ChgX.of_chg hh.chg NoB) NoB.sub;have hs:=hh.sat;rw[Zge [k] X (by simpa using h1)] at hs;have e:(X.filter fun p=>decide (p.1∉[k]))=X.filter fun p=>decide (p.1≠k):=List.filter_congr fun p _=>by simp
 rw[e] at hs;exact⟨r1,o',m',V,q1.trans hc NoB.sub,by rw[hh.waits];exact q2,hs,hB _ _ _ _ q4 hc⟩
theorem RkI.two {j0 i:Nat}{ka kr:Int}{rs:List (Int×BF)}(h:RkI K n room w0 mb ws0 C o0 wb base B Φ c j0 Q fs nx i ka kr X rs hv nx' vl vh W)(hb:B2 fs):B2 X:=by
 obtain⟨Y,rfl⟩:=h.pre;exact hb.app Y
theorem RkI.rlen {j0 i:Nat}{ka kr:Int}{rs:List (Int×BF)}(h:RkI K n room w0 mb ws0 C o0 wb base B Φ c j0 Q fs nx i ka kr X rs hv nx' vl vh W):rs.length=i:=by
 have:=congrArg List.length h.snd;simpa using this
theorem RkI.ring {j0 i:Nat}{ka kr:Int}{rs:List (Int×BF)}(h:RkI K n room w0 mb ws0 C o0 wb base B Φ c j0 Q fs nx i ka kr X rs hv nx' vl vh W):(kr,Zci Φ Q i)∈X:=by
 have:(kr,Zci Φ Q i)∈X.filter fun p=>decide (p.1∉hv):=by rw[h.fil];simp
 exact(List.mem_filter.1 this).1
theorem FxS.gt1 (h:FxS K n room w0 mb ws0 C o0 wb Bj X nx W){Y Z:List (Int×BF)}(hX:X=Y++Z)(hb:B2 Y){p:Int×BF}(hp:p∈Z):1<p.1:=by
 subst hX;obtain⟨_,_,_,_,_,h3,_⟩:=h;exact h3.gt hb p hp
theorem RkI.next {j0 i:Nat}{ka kr a' d nx2:Int}{rs:List (Int×BF)}{vl2 vh2:Value}{w':World}(h:RkI K n room w0 mb ws0 C o0 wb base B Φ c j0 Q fs nx i ka kr X rs hv nx' vl vh W)(hb:B2 fs)
 (hs:RkF K n room w0 mb ws0 C o0 wb base (B (j0+i+1)) (X++[(d,Zci Φ Q (i+1)),(a',allF Φ Q (i+1))]) nx2 vl2 vl2 false 0 vh2 vh2 (rs.map Prod.fst++[kr]) (hv++[a']) w') (hne:Zci Φ Q (i+1)≠fun _=>false) (h1:nx'<=nx2) (h2:nx2<=nx'+(c+2)) :
 RkI K n room w0 mb ws0 C o0 wb base B Φ c j0 Q fs nx (i+1) a' d (X++[(d,Zci Φ Q (i+1)),(a',allF Φ Q (i+1))]) (rs++[(kr,Zci Φ Q i)]) (hv++[a']) nx2 vl2 vh2 w':=by
 have g0:=hs.nodup;have g2:=Zld g0 h.inX;have g4:=h.two hb;have g3:1<a':=FxS.gt1 hs (Y:=X) (Z:=[(d,Zci Φ Q (i+1)),(a',allF Φ Q (i+1))]) rfl g4 (p:=(a',allF Φ Q (i+1))) (by simp);have g1:((i+1:Nat):Int)*(c+2)=i*(c+2)+(c+2):=by rw[Int.natCast_add,Int.add_mul];simp
 have g5:=h.lo;have g6:=h.hi;refine⟨by rw[List.map_append];exact hs,by rw[List.map_append,h.snd,List.range_succ,List.map_append];rfl,by rw[g2,h.fil];simp,by simp,?_,?_,?_,?_,by simp[h.len];omega,h.rings.succ hne,by omega,by rw[g1];omega,by simp[h.hlen]⟩
 . rw[List.nodup_append];refine⟨h.nd,by simp,fun x hx y hy e=>?_⟩;obtain⟨F,hF⟩:=h.inX x hx;rw[List.map_append,List.nodup_append] at g0;simp only[List.mem_singleton] at hy;exact g0.2.2 x (List.mem_map.2 ⟨_,hF,rfl⟩) a' (by simp) (by rw[e,hy])
 .
  intro k hk;rcases List.mem_append.1 hk with hk|hk
  . exact h.gt k hk
  . simp only[List.mem_singleton] at hk;rw[hk];exact g3
 .
  intro k hk;rcases List.mem_append.1 hk with hk|hk
  . obtain⟨F,hF⟩:=h.inX k hk;exact⟨F,List.mem_append_left _ hF⟩
  . simp only[List.mem_singleton] at hk;rw[hk];exact⟨allF Φ Q (i+1),by simp⟩
 . obtain⟨Y,hY⟩:=h.pre;exact⟨Y++[(d,Zci Φ Q (i+1)),(a',allF Φ Q (i+1))],by rw[hY];simp⟩
end
open Go.RowKit
section
variable {K:Law}{n room L:Nat}{w0 w wb W W':World}{mb g base:Nat}{fs X bs r:List (Int×BF)}{nx nx':Int}{o o0:Own}{m:ManD}{V:Nat->BF}{ws0:List Ev}{C D:Nat->Prop}{B:Nat->World->Own->Prop}{Bj Bi:World->Own->Prop}{lop:Array Value}{Φ:BF->BF}{c:Int}{vl ul vh uh:Value}{wh:Bool}{e:Int}{ls hv:List Int}{Q:BF}
theorem FxS.sameB (h:FxS K n room w0 mb ws0 C o0 wb Bj X nx W){k l:Int}{F G:BF}{b:Bool}(hk:(k,F)∈X)(hl:(l,G)∈X)(hb:b=true↔F=G):Calls prog 84 #[.pointer (some ⟨mb,0,none⟩),.int .i64 k,.int .i64 l] W fun x w'=>x=.returned (.tuple #[.bool b,.int .i64 0])/\W=w' :=
 (h.same hk hl).mono fun x w' ⟨b',q1,q2,q3⟩=>by
  obtain rfl:b'=b:=Bool.eq_iff_iff.2 (q2.trans hb.symm);exact⟨q1,q3⟩
theorem FunC.callR (hf:FunC K n room w0 mb ws0 L C B bs g lop Φ (fun _=>0) c)(hC:∀ k,C k->k<base)(j:Nat)(hj:j<=1000000){h:Int}{F:BF}(hst:RkF K n room w0 mb ws0 C o0 wb base (B j) X nx vl ul wh e vh uh ls hv W)(hb:B2 X)(hbs:∀ p∈bs,p∈X)(hk:(h,F)∈X)(hn:nx+c<=549755813888)(hl:X.length<=L) :
 Calls prog g (#[.int .i64 h]++lop) W fun x w'=>∃ p nx',x=.returned (.tuple #[.int .i64 p,.int .i64 0])/\nx<=nx'/\nx'<=nx+c/\RkF K n room w0 mb ws0 C o0 wb base (B (j+1)) (X++[(p,Φ F)]) nx' vl ul wh e vh uh ls hv w':=by
 have hT:Zio C (RkB base mb (fun _ _=>True) vl ul wh e vh uh ls hv):=RkB.keepC hC (fun _ _ _ _ _ _=>trivial);refine(hf.callB hT j hj (hst.withB fun o m V _ hh=>⟨hh.b,trivial,hh.b0,hh.b1,hh.b2,hh.b3,hh.b4,hh.l,hh.h,hh.ne⟩) hb hbs hk hn hl).mono ?_;rintro x w' ⟨p,nx',q1,q2,q3,q4,_⟩;exact⟨p,nx',q1,q2,q3,(q4 rfl).withB fun o m V _ hh=>⟨hh.1,hh.2.b0,hh.2.b1,hh.2.b2,hh.2.b3,hh.2.b4,hh.2.l,hh.2.h,hh.2.ne⟩⟩
theorem Zyg {j0:Nat}(h:RkF K n room w0 mb ws0 C o0 wb base (B j0) (fs++[(nx,Q),(nx+1,Q)]) (nx+2) (.slice none 0 0) (.slice none 0 0) false 0 vh vh [] [nx] W)(hb:B2 fs):RkI K n room w0 mb ws0 C o0 wb base B Φ c j0 Q fs nx 0 nx (nx+1) (fs++[(nx,Q),(nx+1,Q)]) [] [nx] (nx+2) (.slice none 0 0) vh W:=by
 have g0:=h.nodup;rw[List.map_append,List.nodup_append] at g0;refine⟨h,rfl,?_,by simp[allF],by simp,fun k hk=>?_,fun k hk=>?_,⟨_,rfl⟩,by simp,Zf8.zero _ _,by omega,by simp,rfl⟩
 .
  rw[List.filter_append,List.filter_eq_self.2]
  . simp[Zci];omega
  . intro p hp;have:=g0.2.2 p.1 (List.mem_map.2 ⟨p,hp,rfl⟩) nx (by simp);simpa using this
 . simp only[List.mem_singleton] at hk;subst hk;exact FxS.gt1 h rfl hb (p:=(k,Q)) (by simp)
 . simp only[List.mem_singleton] at hk;subst hk;exact⟨Q,by simp⟩
def Zm6 (W:World)(b:Nat):Nat:=match W.cell? ⟨b,0,none⟩ with
 | some (.slice _ k _)=>k
 | _=>0
theorem Zl0 {b k c:Nat}{a:Option Addr}(h:W.cell? ⟨b,0,none⟩=some (.slice a k c)):Zm6 W b=k:=by unfold Zm6;rw[h]
theorem RkI.row {j0 i:Nat}{ka kr:Int}{rs:List (Int×BF)}(h:RkI K n room w0 mb ws0 C o0 wb base B Φ c j0 Q fs nx i ka kr X rs hv nx' vl vh W):(∃ a c,vl=.slice a i c)/\∃ a c,vh=.slice a (i+1) c:=by
 obtain⟨_,_,_,_,_,_,hb⟩:=h.st;have hl:rs.length=i:=by
  have:=congrArg List.length h.snd;simpa using this
 obtain⟨a,c,e,_⟩:=hb.l.own.slice;obtain⟨a2,c2,e2,_⟩:=hb.h.own.slice;exact⟨⟨a,c,by rw[e];simp[Za1,hl]⟩,a2,c2,by rw[e2];simp[Za1,h.hlen]⟩
theorem Zqv {W:World}{base:Nat}{v x:Value}{ls:List Int}(h:OwnC 3 W base v (Za1 ls++[x])):∃ a c,v=.slice a (ls.length+1) c:=by
 obtain⟨a,c,e,_⟩:=h.slice;exact⟨a,c,by rw[e];simp[Za1]⟩
end
end Go.Proofs.YtkbegdkpboklpaaGreat
