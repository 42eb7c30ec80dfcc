/- Several texts in one file: contracts of the program's functions and what follows from them. -/
import Derived.Test.YtgmbklaolcmljaaGreatS4
import Derived.Shelf.Slices.Reverse
import Derived.Ground.Names2Prog
import Derived.Shelf.Slices.Cells
import Derived.Shelf.Slices.Empties
set_option linter.unusedSimpArgs false
set_option linter.unusedVariables false
set_option linter.unusedSectionVars false
set_option linter.unnecessarySimpa false
set_option maxRecDepth 100000
set_option maxHeartbeats 8000000
namespace Go.Proofs.YtgmbklaolcmljaaGreat
open Go.Proofs.Tryz
open Go.RowKit
variable {B c g j k mb n room sb x:Nat}{K:Law}{Od:List Nat->Prop}{Q:Exit->Act->Wd->Prop}{R:Role->Prop}{V V':Nat->BF}{W W' w w' w0 w1 wr:Wd}{a:Act}{d d' d0:Ae}{fs:List (Int×BF)}{m m':ManD}{nx:Int}{o' o1:Own}{ops:Array Oper}{rest:List Oper}{s:B9}{ts:List TN}{v:Value}{zs:List Int}
theorem RR {ids:List Nat}(hn:ids.Nodup)(ht:∀ i∈ids,d.pool.tk i=true)(hlt:∀ i,d.pool.tk i=true->i<d.pool.at_.length)(hc:(d.pool.many:Int)=Ah d.pool.at_.length (fun i=>if d.pool.tk i=true then 1 else 0)):ids.length<=d.pool.many:=by
 have key:∀ (l:List Nat),l.Nodup->(∀ i∈l,d.pool.tk i=true)->∀ kk,(∀ i∈l,i<kk)->(l.length:Int)<=Ah kk (fun i=>if d.pool.tk i=true then 1 else 0):=by
  intro l hl g0 kk
  induction kk generalizing l with
  | zero =>
    intro h;cases l with
    | nil=>simp[Ah]
    | cons a l=>have:=h a (by simp);omega
  | succ kk ih =>
    intro h
    show (l.length:Int)<=Ah kk (fun i=>if d.pool.tk i=true then 1 else 0)+(if d.pool.tk kk=true then 1 else 0)
    by_cases hm:kk∈l
    ·have h1:=ih (l.erase kk) (hl.erase kk) (fun i hi=>g0 i (YM hi)) (fun i hi=>by
      have h2:=h i (YM hi);have h3:i≠kk:=fun e=>by subst e;exact(List.Nodup.not_mem_erase hl) hi
      omega)
     rw[List.length_erase_of_mem hm] at h1;have g1:0<l.length:=Zl hm;have:=g0 kk hm;simp only[this,XP];omega
    ·have h1:=ih l hl g0 (fun i hi=>by
      have h2:=h i hi;have h3:i≠kk:=fun e=>by subst e;exact hm hi
      omega)
     have:(0:Int)<=if d.pool.tk kk=true then 1 else 0:=by split<;>omega
     omega
 have:=key ids hn ht d.pool.at_.length (fun i hi=>hlt i (ht i hi));omega
theorem RS (ts:List TN):(ts.flatMap Bv).length=2*ts.length:=by
 induction ts with
 | nil=>rfl
 | cons a l ih=>simp[Yn,Bv,ih];omega
structure CutI (d0:Ae)(k x:Nat)(ids:List Nat)(sb:Nat)(s:B9)(o1:Own)(w1:Wd)(base:Nat)(v:Value)(ts:List TN)(j:Nat)(W:Wd)(o:Own)(d:Ae):Prop where
 st:Ao o W sb d s
 lt:Ab o W
 cut:CutS d0 k x (fun i=>i∈ids.take j) d
 row:TRow W base v ts
 no:0<ts.length->∀ g,v.ownBlock=some g->o g=none
 chg:Chg Al o1 o w1 W
theorem CutI.move {ids:List Nat}{base:Nat}{o:Own}(h:CutI d0 k x ids sb s o1 w1 base v ts j W o d)(st:Ao o' W' sb d' s)(hc:Chg R o o' W W')(hR:∀ r,R r->Al r)(lt:Ab o' W'){j':Nat}(cut:CutS d0 k x (fun i=>i∈ids.take j') d') :
 CutI d0 k x ids sb s o1 w1 base v ts j' W' o' d' :=
 ⟨st,lt,cut,h.row.chg hc h.no,fun hp g hg=>hc.alien' (h.row.blk hp g hg).2 (h.no hp g hg),h.chg.trans (hc.mono hR)⟩
theorem CutS.congr {g g':Nat->Prop}(h:CutS d0 k x g d)(e:∀ i,g i↔g' i):CutS d0 k x g' d:=by
 have e':g=g':=funext fun i=>propext (e i)
 rw[<- e'];exact h
abbrev Y8:=@Nat.succ_le_of_lt
theorem RT {o:Own}(st:Ay o w sb d)(hlt:Ab o w)(hk:Ai d V)(k:Nat)(hk1:k+1<d.vars.length)(htop:∀ i,Ak d i<=549755813888) :
 Calls prog 165 #[Pt sb,.int .i64 k] w fun q w'=>∃ o' d0,AC d d0/\Ab o' w'/\Chg Al o o' w w' /\
  ((q=.returned (.int .i64 7)/\Ay o' w' sb d0/\d0.pool.room<3*d0.pool.many)\/(q=.returned (.int .i64 0)/\∃ d' V',Ay o' w' sb d'/\Fi d0 V k d' V')):=by
 obtain⟨P,hP⟩:∃ P:Ending->Wd->Prop,P=fun q w'=>∃ o' d0,AC d d0/\Ab o' w'/\Chg Al o o' w w' /\
  ((q=.returned (.int .i64 7)/\Ay o' w' sb d0/\d0.pool.room<3*d0.pool.many)\/(q=.returned (.int .i64 0)/\∃ d' V',Ay o' w' sb d'/\Fi d0 V k d' V')):=⟨_,rfl⟩
 rw[<- hP];have ky:=Hd hP;clear hP;obtain⟨s0,h0⟩:=id st;obtain⟨c0,c1,c2,c3,c4,f0⟩:=cells5 h0.blk;obtain⟨l0,l1,_⟩:=cells2 h0.lev;obtain⟨gv,cv,gz,gQ,_⟩:=h0.vars.shape (by omega);rw[gz] at l0;have Hz:=hk.small;have ki:=Hd (IZ st hlt hk);have HK:=Hd hk;have kZ:¬ ((k:Int)>=(d.vars.length:Int)-1):=by omega
 have kJ:=Hd htop;clear h0 gz st hlt hk gQ htop c1 c2 c3 c4 f0 l1
 delta Pt;go_enter func165,ntmps165
 go_wp2_with fail;refine ki.o.mono ?_;rintro q w1 ⟨rfl,o1,d0,⟨s,h1⟩,hc,gE,ku⟩;have gP:=gE.ok HK.o;obtain⟨x,hx⟩:=Ex (d0.vars.getD k 0);obtain⟨y,hy⟩:=Ex (d0.vars.getD (k+1) 0);have ko:d0.vars.length=d.vars.length:=by rw[gE.vars]
 have FR:SwF d0 V k x y:=⟨⟨by omega,hx.symm,hy.symm⟩,gP,h1.len,fun i=>by
  cases hi:Aa d0 i with
  | none=>rw[Et hi];omega
  | some b=>rw[gE.ext i b hi];exact kJ.o i⟩
 have gh:=FR.facts.1;have H0:=FR.facts.2.1;obtain⟨c0,c1,c2,c3,c4,f0⟩:=cells5 h1.blk;obtain⟨l0,l1,_⟩:=cells2 h1.lev;obtain⟨gv,cv,gz,gQ,_⟩:=h1.vars.shape (by omega);have r1:=h1.vars;rw[gz] at r1 l0;have a0:=r1.cell k (by simp;omega);have a1:=r1.cell (k+1) (by simp;omega);rw[E3 (by omega),<- hx] at a0;rw[E3 (by omega),<- hy] at a1;have H8:(k:Int)<d0.vars.length:=by omega
 have H7:(k:Int)+1<d0.vars.length:=by omega
 have kk:=Hd (RF ⟨s,h1.below hc (Ap w1 1)⟩ (hc.mono (Ap w1 1).size) gP x y gh);have g1:=Hd FR;have H1:=Hd h1;have kg:=Hd hc;have kd:=Hd gE;have kE:=Hd ku;have Hw:d0.vars.length<=64:=by omega
 have HE:=Hd ko;have H4:IntKind.i64.wrap ((k:Int)+1)=((k+1:Nat):Int):=by rw[Zm _ (by omega)];rfl
 clear h1 hc gE ku gP gz gQ r1 hx hy FR ki ko kZ;go_upto_region 6 with fail;refine AR (fun W:Wd=>W.cell? ⟨sb,0,none⟩=some (.pointer (some ⟨s.lb,0,none⟩))/\W.cell? ⟨s.lb,0,none⟩=some (.slice (some ⟨gv,0,none⟩) d0.vars.length cv)/\W.cell? ⟨gv,k,none⟩=some (.int .i64 (x:Nat))/\W.cell? ⟨gv,k+1,none⟩=some (.int .i64 (y:Nat))) false 23 [(0,false),(1,false),(2,false),(3,false),(4,false),(5,false),(6,false),(7,false),(8,false),(9,false),(10,false),(11,false),(12,false),(13,false),(14,false),(15,false),(16,false),(17,false),(18,false),(19,false),(20,false),(21,false),(22,false)] (by kernel_rfl) (by kernel_rfl) ⟨c0,l0,a0,a1⟩ ?_;simp only[planned,AQ]
 iterate 23
  refine A3 rfl ?_;apply Exists.intro;refine⟨fun w' hw=>?_,?_⟩
  . obtain⟨h1,h2,h3,h4⟩:=hw;go_simp;rfl
  simp only[Ac]
 refine CM ?_;go_wp2_with fail;refine kk.o.mono ?_;rintro q w2 ⟨v,ids,rfl,hQ,gS,gq,go⟩;obtain⟨ts,gY⟩:=Ex (ids.map (tnOf d0 y));rw[<- gY] at gq;have gl:Bw w1 w2:=⟨go.os,go.tape,go.output,go.size,fun q hq=>go.block q hq⟩;have h2:=H1.o.below kg.o gl;have gI:=kg.o.mono gl.size;have hv:Hq (∀ i∈ids,∃ b,Ja d0 V x y i b):=Hd fun i hi=>RO g1.o H1.o ((gS i).1 hi)
 have k7:∀ t∈ts,t.ll<eMax/\t.lh<eMax/\t.hl<eMax/\t.hh<eMax:=by
  intro t ht;rw[gY] at ht;obtain⟨i,hi,rfl⟩:=WW.1 ht;obtain⟨b,tb⟩:=hv.o i hi;have q1:=H1.o.edge_lt tb.val.f1.1;have q2:=H1.o.edge_lt tb.val.f2.1;have q3:=H1.o.edge_lt tb.val.f3.1;have q4:=H1.o.edge_lt tb.val.f4.1;unfold eMax;omega
 have ho:=Hd (R4 h2 gI x gh gq k7);have kb:=Hd fun W (hb:Bw w2 W)=>RP ⟨s,h2.below gI hb⟩
 have Hp:=Hd fun W (hb:Bw w2 W)=>RQ ⟨s,h2.below gI hb⟩
 have HC:=H1.o.pool.many;have HA:=H1.o.pool.top;have HB:=H1.o.pool.room
 have Hs:Hq (ids.length<=d0.pool.many):=Hd (RR hQ (fun i hi=>by
  obtain⟨b,tb⟩:=hv.o i hi;exact(BA tb.node).1) (fun i hi=>(H1.o.pool.tk_lt hi).2) H1.o.pool.cnt)
 have kD:=Hd h2;have hE:=Hd gI;have HB2:=Hd gl;have gw:=Hd gq;have gU:=Hd gS;have kA:=Hd hQ;have hu:=Hd gY;have HD:w1.heap.size<=w2.heap.size:=gl.size;clear go gl h2 gI gq gS hQ k7 c0 c1 c2 c3 c4 f0 l0 l1 a0 a1 H8 H7 H4 gY;go_wp2_with fail;refine ho.o.mono ?_;rintro q w3 ⟨Wt,rfl,hK,hf⟩;have gK:=Hd hK;have gn:=Hd hf;have H5:Wt.length<=2*ts.length:=by have:=hK.len;rw[RS] at this;exact this
 have gZ:ts.length=ids.length:=by rw[hu.o,Xy]
 have Hb:=Hs.o;have kK:=Hd (kb.o w3 hf);have kQ:=Hd (Hp.o w3 hf);clear hK hf ho;go_wp2_with fail;refine kK.o.mono ?_;rintro q w' ⟨rfl,rfl⟩;go_wp2_with fail;refine kQ.o.mono ?_;rintro q w' ⟨rfl,rfl⟩
 by_cases Hx:(Wt.length:Int)>(d0.pool.room:Int)-(d0.pool.many:Int)
 ·have HF:Hq (P (.returned (.int .i64 7)) w3):=by
   rw[ky.o];exact Hd ⟨o1,d0,kd.o,hE.o.mono gn.o.size,kE.o.trans ((Chg.of_below HB2.o _ _).trans (Chg.of_below gn.o _ _)),.inl ⟨rfl,⟨s,kD.o.below hE.o gn.o⟩,by omega⟩⟩
  clear gZ;go_wp2_with fail;exact HF.o
 have kh:Hq (d0.pool.many+Wt.length<=d0.pool.room):=Hd (by omega);have h3:=kD.o.below hE.o gn.o;have kr:=hE.o.mono gn.o.size;obtain⟨c0,c1,c2,c3,c4,f0⟩:=cells5 h3.blk;have hA:=Hd (Rp h3 k (by have:=g1.o.v.k1;exact this) g1.o.ok.small (by rw[h3.len];rw[g1.o.v.x];exact gh) (by rw[h3.len];rw[g1.o.v.y];exact H0));have HL:=Hd h3;have Hr:=Hd kr;clear h3 kr;go_wp2_with fail;refine hA.o.mono ?_;rintro q w4 ⟨rfl,h4,hd⟩;have h5:=(gw.o.below gn.o);have gR:0<ts.length->∀ g,v.ownBlock=some g->o1 g=none:=fun hp g hg=>kg.o.none (gw.o.blk hp g hg).1
 have Ht:Hq (CutI d0 k x ids sb s o1 w1 w1.heap.size v ts 0 w4 o1 (AY d0 k)):=Hd ⟨h4,Hr.o.mono hd.size,(CutS.start d0 k x).congr (fun i=>by simp),h5.chg hd gR,gR,(Chg.of_below HB2.o _ _).trans ((Chg.of_below gn.o _ _).trans hd)⟩;obtain⟨av,cvv,kn,_⟩:=gw.o.ex;rw[gZ] at kn;have hF:Hq (ids.length<=1048578):=Hd (by have:=gw.o.small;omega);clear h5 gR h4 hd hA c0 c1 c2 c3 c4 f0 Hb H5;subst kn;go_wp2_with fail
 go_loopw [77] (fun s77 wr=>∃ j:Nat,j<=ids.length/\s77=.int .i64 j/\Hq (∃ o d,CutI d0 k x ids sb s o1 w1 w1.heap.size (.slice av ids.length cvv) ts j wr o d)) (fun s77 _=>ids.length-(intOf s77).toNat)
 case atStart=>exact⟨0,WX _,rfl,Hd ⟨o1,_,Ht.o⟩⟩
 case round =>
  obtain⟨j,hj,rfl,HCI⟩:=hrel
  by_cases hlt:j<ids.length
  ·obtain⟨oj,dj,g2⟩:=HCI.o;obtain⟨a',c',ea,g3⟩:=g2.row.ex;rw[gZ] at ea;injection ea with ea1 ea2 ea3
   obtain⟨g,hg,_,g0⟩:=g3 j (by omega);rw[hg] at ea1;subst ea1;obtain⟨i,hi⟩:=Ex (ids[j]);have gC:ts[j]'(by omega)=tnOf d0 y i:=by rw[hi];simp[hu.o]
   rw[gC] at g0;obtain⟨b,tb⟩:=hv.o i (by rw[hi];exact Xp hlt);have gB:tnOf d0 y i=⟨d0.pool.nd i,(tnOf d0 y i).ll,(tnOf d0 y i).lh,(tnOf d0 y i).hl,(tnOf d0 y i).hh⟩:=rfl;obtain⟨N,hN⟩:=Ex (d0.pool.nd i);obtain⟨ll,ga⟩:∃ q,q=(tnOf d0 y i).ll:=⟨_,rfl⟩;obtain⟨lh,gb⟩:∃ q,q=(tnOf d0 y i).lh:=⟨_,rfl⟩;obtain⟨hl,gc⟩:∃ q,q=(tnOf d0 y i).hl:=⟨_,rfl⟩;obtain⟨hh,gd⟩:∃ q,q=(tnOf d0 y i).hh:=⟨_,rfl⟩;rw[gB,<- hN,<- ga,<- gb,<- gc,<- gd] at g0;have e0:wr.cell? ⟨g,j*9,none⟩=some _:=g0 0 _ rfl;have e1:=g0 1 _ rfl;have e2:=g0 2 _ rfl;have e3:=g0 3 _ rfl;have e4:=g0 4 _ rfl;have e5:=g0 5 _ rfl;have e6:=g0 6 _ rfl;have e7:=g0 7 _ rfl;have e8:=g0 8 _ rfl;have hS:N.lo=b.lo:=by rw[hN];exact tb.lo
   have hU:N.hi=b.hi:=by rw[hN];exact tb.hi
   have Hy:=Hd g2;have HI:=Hd hi;have gm:=Hd tb;have HH:=Hd hS;have HJ:=Hd hU;have H9:(j:Int)<ids.length:=by omega
   have Hc:=hF.o;have Ha:(j:Int)+1<=1048578:=by omega
   have gh:=g1.o.facts.1;have hM:d0.tab x (N.lo,N.hi)=some i:=by
    rw[hS,hU];refine(g1.o.ok.tab x gh _ _ _).2 ?_;rw[tb.node,<- tb.v]
   have gF:¬ i∈ids.take j:=by
    intro hm;have gG:=kA.o;rw[<- Yj j ids,X5] at gG;refine gG.2.2 i hm i ?_ rfl;rw[X2 hlt,hi];exact Xr
   have kt:dj.tab x (N.lo,N.hi)=some i:=g2.cut.has hM gF;have hL:x<dj.vars.length:=by rw[g2.cut.vars,Gj];exact gh
   have Hf:(fun u=>if u=x then putF (dj.tab u) (N.lo,N.hi) none else dj.tab u)=(fun u=>if u=x then putF (dj.tab x) (N.lo,N.hi) none else dj.tab u):=by funext u;by_cases e:u=x<;>simp[e]
   have kO:Hq (CutS d0 k x (fun q=>q∈ids.take (j+1)) { dj with tab:=fun u=>if u=x then putF (dj.tab x) (N.lo,N.hi) none else dj.tab u }):=Hd (by
    have q1:=(g2.cut.next g1.o.ok gh hM).congr (g':=fun q=>q∈ids.take (j+1)) (fun q=>by
     rw[WZ hlt,Xa,Xg,hi])
    rw[Hf] at q1;exact q1)
   obtain⟨wz,g7⟩:∃ W,W=wr.alloc (.cells #[.int .i64 N.id,.int .i64 N.v,.int .i64 N.lo,.int .i64 N.hi,.int .i64 N.refs,.int .i64 ll,.int .i64 lh,.int .i64 hl,.int .i64 hh] 270):=⟨_,rfl⟩;have ge:Bw wr wz:=by rw[g7];exact Af wr _
   have hz:=WN wr (.cells #[.int .i64 N.id,.int .i64 N.v,.int .i64 N.lo,.int .i64 N.hi,.int .i64 N.refs,.int .i64 ll,.int .i64 lh,.int .i64 hl,.int .i64 hh] 270);rw[<- g7] at hz;have z2:wz.cell? ⟨wr.heap.size,2,none⟩=some (.int .i64 N.lo):=by rw[WQ wz _ 2 _ _ _ hz];rfl
   have z3:wz.cell? ⟨wr.heap.size,3,none⟩=some (.int .i64 N.hi):=by rw[WQ wz _ 3 _ _ _ hz];rfl
   have g8:=g2.st.below g2.lt ge;have gj:=g2.lt.mono ge.size;obtain⟨gt,ct,gA,cellx,H6⟩:=g8.tabAt hL;obtain⟨c0,c1,c2,c3,c4,f0⟩:=cells5 g8.blk;rw[gA] at c2;have km:x<s.ts.length:=by rw[g8.tlen];exact hL
   have H3:(x:Int)<s.ts.length:=by omega
   have kS:=Hd (Ku oj x (s.ts.getD x 0) (dj.tab x) N.lo N.hi i wz.drew ((g8.below gj (Ap wz 1)).tab x km) (gj.mono (Ap wz 1).size) kt);have gV:Hq (CutI d0 k x ids sb s o1 w1 w1.heap.size (.slice (some ⟨g,0,none⟩) ids.length cvv) ts j wz.drew oj dj):=Hd (g2.move ((g8.below gj (Ap wz 1))) (Chg.of_below (ge.trans ((Ap wz 1).mono ge.size)) Al oj) (fun _ h=>h) (gj.mono (Ap wz 1).size) g2.cut);have k8:=Hd g7;have gL:=Hd hlt;clear g3 g0 gC gB g2 tb hN ga gb gc gd hi hS hU HCI hM gF kt hL ge hz g8 gj gA km g7 c0 c1 c3 c4 f0;go_upto_region 14 with fail;rw[<- k8.o];refine AR (fun W:Wd=>W=wz.drew) true 13 [(0,false),(1,false),(2,false),(3,false),(4,false),(5,false),(6,false),(7,false),(8,false),(9,false),(10,false),(11,false),(12,false),(13,true)] (by kernel_rfl) (by kernel_rfl) rfl ?_;simp only[planned,AQ]
   iterate 13
    refine A3 rfl ?_;apply Exists.intro;refine⟨fun w' hw=>?_,?_⟩
    . subst hw;go_simp;rfl
    simp only[Ac]
   refine E2 rfl (by go_simp) (kS.o.mono (R':=fun e w'=>∃ v,e=.returned v/\(v=.int .i64 0/\AJ oj w' x (s.ts.getD x 0) (putF (dj.tab x) (N.lo,N.hi) none)/\Chg (· = .tmap x) oj oj wz.drew w'/\Ab oj w')) (fun e w' h=>⟨_,h.1,rfl,h.2⟩)) ?_;rintro _ w5 ⟨rfl,kp,hY,kq⟩;simp only[Ac];refine Cj ?_;have hC:=Hd (gV.o.move (gV.o.st.setTab gV.o.lt kp hY) hY (fun r hr=>by simp[Al,hr]) kq kO.o);clear kp hY kq c2 cellx H3 e0 e1 e2 e3 e4 e5 e6 e7 e8 z2 z3;go_wp2_with fail;go_roundw
   case rel=>exact⟨j+1,Y8 gL.o,by go_num,Hd ⟨_,_,hC.o⟩⟩
   case measure =>
    have:=gL.o;have:=hF.o;simp[intOf];omega
  ·obtain rfl:j=ids.length:=by omega
   obtain⟨oe,de,gk⟩:=HCI.o;have kc:Hq (∃ o d V',RndI sb o1 w1 w1.heap.size (.slice av ids.length cvv) ts wr o d/\A1 d0 V k x y Wt (Ak d0) (fun i=>i∈ids.take 0) d V'):=Hd ⟨oe,de,V,⟨⟨s,gk.st⟩,gk.lt,gk.row,gk.no,gk.chg⟩,(A1.start gk.cut g1.o.ok g1.o.facts.1 kd.o.dead (fun i=>by rw[Xx];exact(gU.o i).symm) gK.o).congr (fun i=>by simp)⟩;clear gk HCI;go_wp2_with fail
   go_loopw [98] (fun s98 wr=>∃ j:Nat,j<=ids.length/\s98=.int .i64 j/\Hq (∃ o d V',RndI sb o1 w1 w1.heap.size (.slice av ids.length cvv) ts wr o d/\A1 d0 V k x y Wt (Ak d0) (fun i=>i∈ids.take j) d V')) (fun s98 _=>ids.length-(intOf s98).toNat)
   case atStart=>exact⟨0,WX _,rfl,kc⟩
   case round =>
    clear kc;obtain⟨j,hj,rfl,hB⟩:=hrel
    by_cases hlt:j<ids.length
    ·obtain⟨oj,dj,Vj,gD,gi⟩:=hB.o;obtain⟨a',c',ea,g3⟩:=gD.row.ex;rw[gZ] at ea;injection ea with ea1 ea2 ea3
     clear ea2 ea3;obtain⟨g,hg,He,g0⟩:=g3 j (by omega);rw[hg] at ea1;subst ea1;obtain⟨i,hi⟩:=Ex (ids[j]);have gC:ts[j]'(by omega)=tnOf d0 y i:=by rw[hi];simp[hu.o]
     rw[gC] at g0;have gg:i∈ids:=by rw[hi];exact Xp hlt
     obtain⟨b,tb⟩:=hv.o i gg;have gB:tnOf d0 y i=⟨d0.pool.nd i,(tnOf d0 y i).ll,(tnOf d0 y i).lh,(tnOf d0 y i).hl,(tnOf d0 y i).hh⟩:=rfl
     have ke:Hq (((tnOf d0 y i).ll,(tnOf d0 y i).hl)∈ts.flatMap Bv/\((tnOf d0 y i).lh,(tnOf d0 y i).hh)∈ts.flatMap Bv):=Hd (by
      have hm:tnOf d0 y i∈ts:=by rw[hu.o];exact WW.2 ⟨i,gg,rfl⟩
      exact⟨List.mem_flatMap.2 ⟨_,hm,by simp[Bv]⟩,List.mem_flatMap.2 ⟨_,hm,by simp[Bv]⟩⟩)
     obtain⟨N,hN⟩:=Ex (d0.pool.nd i);obtain⟨ll,ga⟩:∃ q,q=(tnOf d0 y i).ll:=⟨_,rfl⟩;obtain⟨lh,gb⟩:∃ q,q=(tnOf d0 y i).lh:=⟨_,rfl⟩;obtain⟨hl,gc⟩:∃ q,q=(tnOf d0 y i).hl:=⟨_,rfl⟩;obtain⟨hh,gd⟩:∃ q,q=(tnOf d0 y i).hh:=⟨_,rfl⟩;rw[gB,<- hN,<- ga,<- gb,<- gc,<- gd] at g0;rw[<- ga,<- gb,<- gc,<- gd] at ke;have e0:wr.cell? ⟨g,j*9,none⟩=some _:=g0 0 _ rfl;have e1:=g0 1 _ rfl;have e2:=g0 2 _ rfl;have e3:=g0 3 _ rfl;have e4:=g0 4 _ rfl;have e5:=g0 5 _ rfl;have e6:=g0 6 _ rfl;have e7:=g0 7 _ rfl;have e8:=g0 8 _ rfl;have gF:¬ i∈ids.take j:=by
      intro hm;have gG:=kA.o;rw[<- Yj j ids,X5] at gG;refine gG.2.2 i hm i ?_ rfl;rw[X2 hlt,hi];exact Xr
     obtain⟨wz,g7⟩:∃ W,W=wr.alloc (.cells #[.int .i64 N.id,.int .i64 N.v,.int .i64 N.lo,.int .i64 N.hi,.int .i64 N.refs,.int .i64 ll,.int .i64 lh,.int .i64 hl,.int .i64 hh] 270):=⟨_,rfl⟩;have ge:Bw wr wz.drew:=by rw[g7];exact F6 wr 1 _
     have hz:=WN wr (.cells #[.int .i64 N.id,.int .i64 N.v,.int .i64 N.lo,.int .i64 N.hi,.int .i64 N.refs,.int .i64 ll,.int .i64 lh,.int .i64 hl,.int .i64 hh] 270);rw[<- g7] at hz;obtain⟨bz,gs⟩:∃ q,q=wr.heap.size:=⟨_,rfl⟩;rw[<- gs] at hz;have z5:wz.cell? ⟨bz,5,none⟩=some (.int .i64 ll):=by rw[WQ wz _ 5 _ _ _ hz];rfl
     have z6:wz.cell? ⟨bz,6,none⟩=some (.int .i64 lh):=by rw[WQ wz _ 6 _ _ _ hz];rfl
     have z7:wz.cell? ⟨bz,7,none⟩=some (.int .i64 hl):=by rw[WQ wz _ 7 _ _ _ hz];rfl
     have z8:wz.cell? ⟨bz,8,none⟩=some (.int .i64 hh):=by rw[WQ wz _ 8 _ _ _ hz];rfl
     have kV:Hq (Box oj wz.drew bz (.cells #[.int .i64 N.id,.int .i64 N.v,.int .i64 N.lo,.int .i64 N.hi,.int .i64 N.refs,.int .i64 ll,.int .i64 lh,.int .i64 hl,.int .i64 hh] 270 (0,0))):=Hd ⟨hz,gD.lt.none (by rw[gs];exact WM _)⟩;have ka:=Hd (gD.below ge)
     have hG:Hq (w1.heap.size<=bz/\g≠bz):=Hd (by
      have h1:=gD.chg.size;have h2:g<wr.heap.size:=Ag e0;exact⟨by omega,by omega⟩)
     have tv:=tb.val;rw[<- ga,<- gb,<- gc,<- gd] at tv;have kF:=Hd (Lz ka.o.st ka.o.lt gi g1.o.ok.dag (gi.acy g1.o) g1.o.facts.1 gi.vlen ll hl tv.f1 tv.f3 (fun h1 h2=>LC gi g1.o gK.o ke.o.1 tv.f1 tv.f3 h1 h2) gK.o.nodup kh.o);have HB2:Hq (∀ W o d V',Ay o W sb d->Ab o W->A1 d0 V k x y Wt (Ak d0) (fun i=>i∈ids.take j) d V'->_):=Hd (fun W o d V' st lt m=>Lz st lt m g1.o.ok.dag (m.acy g1.o) g1.o.facts.1 m.vlen lh hh tv.f2 tv.f4 (fun h1 h2=>LC m g1.o gK.o ke.o.2 tv.f2 tv.f4 h1 h2) gK.o.nodup kh.o)
     have kl:Hq (∀ r1 r2 d1 d2 V1 V2,C0 d0 V k x y Wt (fun i=>i∈ids.take j) dj Vj ll hl r1 d1 V1->C0 d0 V k x y Wt (fun i=>i∈ids.take j) d1 V1 lh hh r2 d2 V2->Fj d0 V k x y Wt (fun i=>i∈ids.take j) i r1 r2 d2 V2):=Hd (by
      intro r1 r2 d1 d2 V1 V2 h1 h2;rw[ga,gc] at h1;rw[gb,gd] at h2;exact Fj.of g1.o tb h1 h2)
     have HN:Hq (N.lo=b.lo/\N.hi=b.hi/\N.id=i/\(N.refs:Int)=Ak d0 i):=Hd (by rw[hN];exact⟨tb.lo,tb.hi,tb.id,(CR (BA tb.node).1).symm⟩);have HT:Hq (Turns (Aa d0) x y i):=Hd ((gU.o i).1 gg);have kz:=Hd gF;have gm:=Hd tb;have Hj:Hq (∀ q,(q∈ids.take j\/q=i)↔q∈ids.take (j+1)):=Hd (fun q=>by rw[WZ hlt,Xa,Xg,hi]);have H9:(j:Int)<ids.length:=by omega
     have Hc:=hF.o;have Ha:(j:Int)+1<=1048578:=by omega
     have k8:=Hd g7;have Hv:=Hd gs;have gL:=Hd hlt;clear g3 g0 gC gB gD gi tb tv hN ga gb gc gd hi hB gF ge hz g7 gs gg He;go_upto_region 19 with fail;rw[<- Hv.o,<- k8.o];clear e0 e1 e2 e3 e4 e5 e6 e7 e8;refine AR (fun W:Wd=>W.cell? ⟨bz,5,none⟩=some (.int .i64 ll)/\W.cell? ⟨bz,6,none⟩=some (.int .i64 lh)/\W.cell? ⟨bz,7,none⟩=some (.int .i64 hl)/\W.cell? ⟨bz,8,none⟩=some (.int .i64 hh)) false 16 [(0,false),(1,false),(2,false),(3,false),(4,false),(5,false),(7,false),(8,false),(9,false),(10,false),(11,false),(12,false),(6,true),(13,true),(14,false),(15,false)] (by kernel_rfl) (by kernel_rfl) ⟨z5,z6,z7,z8⟩ ?_;simp only[planned,AQ]
     iterate 12
      refine A3 rfl ?_;apply Exists.intro;refine⟨fun w' hw=>?_,?_⟩
      . obtain⟨q5,q6,q7,q8⟩:=hw;go_simp;rfl
      simp only[Ac]
     refine BR (R:=fun v w'=>∃ r:Nat,v=.int .i64 r/\∃ o' d' V',RndI sb o1 w1 w1.heap.size (.slice (some ⟨g,0,none⟩) ids.length cvv) ts w' o' d'/\C0 d0 V k x y Wt (fun i=>i∈ids.take j) dj Vj ll hl r d' V'/\Box o' w' bz (.cells #[.int .i64 N.id,.int .i64 N.v,.int .i64 N.lo,.int .i64 N.hi,.int .i64 N.refs,.int .i64 ll,.int .i64 lh,.int .i64 hl,.int .i64 hh] 270 (0,0))) rfl (by go_simp) (kF.o.mono (fun e w' he=>?_)) ?_
     . obtain⟨r,rfl,o',d',V',st',lt',k6,kH,gJ⟩:=he;have g4:=kV.o.chg gJ;exact⟨_,rfl,⟨g4.cell 5,g4.cell 6,g4.cell 7,g4.cell 8⟩,r,rfl,o',d',V',ka.o.move st' lt' gJ (fun _ h=>h),k6,g4⟩
     rintro v w5-⟨r1,rfl,o5,d5,V5,h8,gT,k5⟩;simp only[Ac];refine BR (R:=fun v w'=>∃ r:Nat,v=.int .i64 r/\∃ o' d' V',RndI sb o1 w1 w1.heap.size (.slice (some ⟨g,0,none⟩) ids.length cvv) ts w' o' d'/\Fj d0 V k x y Wt (fun i=>i∈ids.take j) i r1 r d' V'/\Box o' w' bz (.cells #[.int .i64 N.id,.int .i64 N.v,.int .i64 N.lo,.int .i64 N.hi,.int .i64 N.refs,.int .i64 ll,.int .i64 lh,.int .i64 hl,.int .i64 hh] 270 (0,0))) rfl (by go_simp) ((HB2.o w5 o5 d5 V5 h8.st h8.lt gT.mid).mono (fun e w' he=>?_)) ?_
     . obtain⟨r,rfl,o',d',V',st',lt',k6,kH,gJ⟩:=he;have g4:=k5.chg gJ;exact⟨_,rfl,⟨g4.cell 5,g4.cell 6,g4.cell 7,g4.cell 8⟩,r,rfl,o',d',V',h8.move st' lt' gJ (fun _ h=>h),kl.o _ _ _ _ _ _ gT k6,g4⟩
     rintro v w6-⟨r2,rfl,o6,d6,V6,h7,gf,hZ⟩;simp only[Ac]
     iterate 2
      refine A3 rfl ?_;apply Exists.intro;refine⟨fun w' hw=>?_,?_⟩
      . obtain⟨q5,q6,q7,q8⟩:=hw;go_simp;rfl
      simp only[Ac]
     refine CM ?_;have Hl:=Hd h7;have gp:=Hd gf;have kU:=Hd hZ;have Hn:=Hd (L8 h7.st h7.lt g1.o gf.mid gf.e1 (fun i=>by have:=g1.o.top i;omega));clear h7 gf hZ h8 gT k5 z5 z6 z7 z8 kF HB2;go_wp2_with fail;refine Hn.o.mono ?_;rintro q w7 ⟨rfl,d7,st7,lt7,m7,n7,p7,c7⟩;have Hk:=Hd (Hl.o.move st7 lt7 c7 (fun _ h=>h));have kT:=Hd (kU.o.chg c7)
     have Hm:=Hd (L8 st7 lt7 g1.o m7 (n7 ▸ gp.o.e2) (fun i=>by
      have:=g1.o.top i;have h2:toE r1 i<=1:=by unfold toE;split<;>omega
      unfold addE;omega))
     have kC:Hq (Aa d7=Aa d6/\d7.pool=d6.pool):=Hd ⟨n7,p7⟩;clear st7 lt7 m7 n7 p7 c7;go_wp2_with fail;refine Hm.o.mono ?_;rintro q w8 ⟨rfl,d8,st8,lt8,m8,n8,p8,c8⟩;have kx:=Hd (Hk.o.move st8 lt8 c8 (fun _ h=>h));have g6:=Hd (kT.o.chg c8);have hD:=Hd m8;have kB:Hq (Aa d8=Aa d6/\d8.pool=d6.pool):=Hd ⟨n8.trans kC.o.1,p8.trans kC.o.2⟩;clear st8 lt8 m8 n8 p8 c8;have x0:w8.cell? ⟨bz,0,none⟩=some (.int .i64 N.id):=g6.o.cell 0;have x1:w8.cell? ⟨bz,1,none⟩=some (.int .i64 N.v):=g6.o.cell 1;have x2:w8.cell? ⟨bz,2,none⟩=some (.int .i64 N.lo):=g6.o.cell 2;have x3:w8.cell? ⟨bz,3,none⟩=some (.int .i64 N.hi):=g6.o.cell 3;have x4:w8.cell? ⟨bz,4,none⟩=some (.int .i64 N.refs):=g6.o.cell 4;have xf:∀ q,w8.frozen? ⟨bz,q,none⟩=false:=fun q=>by simp[World.frozen?,g6.o.blk]
     go_upto_region 23 with fail;obtain⟨wo,gX⟩:∃ W,W=w8.alloc (.cells #[.int .i64 N.id,.int .i64 N.v,.int .i64 N.lo,.int .i64 N.hi,.int .i64 N.refs] 236):=⟨_,rfl⟩;have gf:Bw w8 wo:=by rw[gX];exact Af w8 _
     have ha:=WN w8 (.cells #[.int .i64 N.id,.int .i64 N.v,.int .i64 N.lo,.int .i64 N.hi,.int .i64 N.refs] 236);rw[<- gX] at ha;obtain⟨bo,gu⟩:∃ q,q=w8.heap.size:=⟨_,rfl⟩;rw[<- gu] at ha;have gH:bz≠bo:=by
      have:=Ag x0;have h2:bz<w8.heap.size:=this;omega
     have g5:Hq (Box o6 wo bz (.cells #[.int .i64 N.id,.int .i64 N.v,.int .i64 N.lo,.int .i64 N.hi,.int .i64 N.refs,.int .i64 ll,.int .i64 lh,.int .i64 hl,.int .i64 hh] 270 (0,0))):=Hd (g6.o.chg (Chg.of_below gf Al o6));have kb:=Hd (kx.o.below gf);have kW:Hq (Box o6 wo bo (.cells #[.int .i64 N.id,.int .i64 N.v,.int .i64 N.lo,.int .i64 N.hi,.int .i64 N.refs] 236 (0,0))):=Hd ⟨ha,kx.o.lt.none (by rw[gu];exact WM _)⟩;obtain⟨wa,gy⟩:∃ W,W=(wo.setCell ⟨bz,1,none⟩ (.int .i64 y)).setCell ⟨bz,2,none⟩ (.int .i64 r1):=⟨_,rfl⟩;obtain⟨wb,gx⟩:∃ W,W=wa.setCell ⟨bz,3,none⟩ (.int .i64 r2):=⟨_,rfl⟩;have HV:∀ q,0<ts.length->Value.ownBlock (.slice (some ⟨g,0,none⟩) ids.length cvv)=some q->q≠bz:=fun q _ hq=>by cases hq;exact hG.o.2
     have kw:Hq (RndI sb o1 w1 w1.heap.size (.slice (some ⟨g,0,none⟩) ids.length cvv) ts wb.drew o6 d8):=Hd (by
      rw[gx,gy];exact(((kb.o.write g5.o.no hG.o.1 HV 1 _).write g5.o.no hG.o.1 HV 2 _).write g5.o.no hG.o.1 HV 3 _).below (Ap _ 1))
     have kj:=HN.o.2.2.2
     have g9:Hq (Box o6 wb.drew bz (.cells #[.int .i64 i,.int .i64 y,.int .i64 r1,.int .i64 r2,.int .i64 N.refs,.int .i64 ll,.int .i64 lh,.int .i64 hl,.int .i64 hh] 270 (0,0))):=Hd (by
      rw[gx,gy];have h:=((g5.o.set 1 (.int .i64 y)).set 2 (.int .i64 r1)).set 3 (.int .i64 r2);rw[HN.o.2.2.1] at h;exact⟨h.blk,h.no⟩)
     have kY:Hq (Box o6 wb.drew bo (.cells #[.int .i64 i,.int .i64 N.v,.int .i64 b.lo,.int .i64 b.hi,.int .i64 N.refs] 236 (0,0))):=Hd (by
      rw[gx,gy];have h:=((kW.o.other (p:=⟨bz,1,none⟩) (u:=.int .i64 y) (X1 gH)).other (p:=⟨bz,2,none⟩) (u:=.int .i64 r1) (X1 gH)).other (p:=⟨bz,3,none⟩) (u:=.int .i64 r2) (X1 gH);rw[HN.o.2.2.1,HN.o.1,HN.o.2.1] at h;exact⟨h.blk,h.no⟩)
     have y1:wo.cell? ⟨bz,1,none⟩=some (.int .i64 N.v):=g5.o.cell 1;have y2:wo.cell? ⟨bz,2,none⟩=some (.int .i64 N.lo):=g5.o.cell 2;have y3:wo.cell? ⟨bz,3,none⟩=some (.int .i64 N.hi):=g5.o.cell 3;have yf:∀ q,wo.frozen? ⟨bz,q,none⟩=false:=fun q=>by simp[World.frozen?,g5.o.blk]
     have Hg:=Hd gX;have kX:=Hd gu;have Hi:=Hd gy;have Hh:=Hd gx;have HG:=Hd gH;clear gX gf ha gu gH gy gx HV kj x0 x1 x2 x3 x4 xf;rw[<- Hg.o,<- kX.o];go_upto_region 24 with fail;rw[<- Hi.o,<- Hh.o];obtain⟨s9,h9⟩:=kw.o.st;obtain⟨k0,k1,k2,k3,k4,kf⟩:=cells5 h9.blk;have hW:d8.pool.tk i=true:=by
      have h1:Aa d8 i=some b:=hD.o.mid.keep i b gm.o.node kz.o;exact(BA h1).1
     have kv:=Hd (hD.o.turned (n:=⟨i,y,r1,r2,N.refs⟩) g1.o HT.o kz.o gm.o.node (kB.o.1 ▸ gp.o.e1) (kB.o.1 ▸ gp.o.e2) gp.o.reg gp.o.ne gp.o.val rfl HN.o.2.2.2 (h9.pool.tk_lt hW).2);have k9:=Hd (RL (n:=⟨i,y,r1,r2,N.refs⟩) kw.o h9 hW g9.o kY.o);unfold Am at k9;have n0:wb.cell? ⟨bz,0,none⟩=some (.int .i64 i):=g9.o.cell 0;have n1:wb.cell? ⟨bz,1,none⟩=some (.int .i64 y):=g9.o.cell 1;have n2:wb.cell? ⟨bz,2,none⟩=some (.int .i64 r1):=g9.o.cell 2;have n3:wb.cell? ⟨bz,3,none⟩=some (.int .i64 r2):=g9.o.cell 3;have n4:wb.cell? ⟨bz,4,none⟩=some (.int .i64 N.refs):=g9.o.cell 4;have k1':wb.cell? ⟨sb,1,none⟩=some (.pointer (some ⟨s9.pb,0,none⟩)):=k1;have Hq:Hq (s9.ts.length=d0.vars.length):=Hd (by rw[h9.tlen,hD.o.vlen]);clear k0 k1 k2 k3 k4 kf h9 hW y1 y2 y3 yf;refine AR (fun W:Wd=>W=wb.drew) true 6 [(0,false),(1,false),(2,false),(3,false),(4,false),(5,false),(6,true)] (by kernel_rfl) (by kernel_rfl) rfl ?_;simp only[planned,AQ]
     iterate 6
      refine A3 rfl ?_;apply Exists.intro;refine⟨fun w' hw=>?_,?_⟩
      . subst hw;go_simp;rfl
      simp only[Ac]
     refine E2 rfl (by go_simp) k9.o ?_;rintro _ w10 ⟨rfl,gO,hn,gN,hJ⟩;simp only[Ac];refine Cj ?_;clear n0 n1 n2 n3 n4 k1';have hX:=hn.below gO.lt (Ap w10 1);have hH:y<s9.ts.length:=by rw[Hq.o];exact g1.o.facts.2.1
     have H2:(y:Int)<s9.ts.length:=by omega
     obtain⟨gt,ct,gA,celly,H6⟩:=hn.tabAt (v:=y) (by show y<d8.vars.length;rw[hD.o.vlen];exact g1.o.facts.2.1);obtain⟨k0,k1,k2,k3,k4,kf⟩:=cells5 hn.blk;rw[gA] at k2;have kN:=Hd (RM (id:=i) (gO.below (Ap w10 1)) hX hH kv.o.1 (gN.chg (Chg.of_below (Ap w10 1) Al o6)) (hJ.chg (Chg.of_below (Ap w10 1) Al o6)));have n0:w10.cell? ⟨bz,0,none⟩=some (.int .i64 i):=gN.cell 0;clear gO hn gN hJ hX gA k0 k1 k3 k4 kf hH;go_upto_region 25 with fail;refine AR (fun W:Wd=>W=w10.drew) true 12 [(0,false),(1,false),(2,false),(3,false),(4,false),(5,false),(6,false),(7,false),(8,false),(9,false),(10,false),(11,false),(12,true)] (by kernel_rfl) (by kernel_rfl) rfl ?_;simp only[planned,AQ]
     iterate 12
      refine A3 rfl ?_;apply Exists.intro;refine⟨fun w' hw=>?_,?_⟩
      . subst hw;go_simp;rfl
      simp only[Ac]
     refine E2 rfl (by go_simp) kN.o ?_;rintro _ w11 ⟨rfl,gr,kG,gM⟩;simp only[Ac];refine Cj ?_;have kM:=Hd gr;have kI:=Hd gM
     have Ho:=Hd (L9 gr.st gr.lt g1.o kv.o.2 gm.o.node gm.o.v (.inl rfl) (fun q=>by
      have h1:=g1.o.top q;have h2:toE b.lo q<=1:=by unfold toE;split<;>omega
      have h3:toE b.hi q<=1:=by unfold toE;split<;>omega
      unfold addE;omega) (fun q=>by
      have h1:0<=Ak d0 q:=by unfold Ak;split<;>omega
      have h3:0<=toE b.hi q:=by unfold toE;split<;>omega
      unfold addE;omega))
     have u2:w11.cell? ⟨bo,2,none⟩=some (.int .i64 b.lo):=gM.cell 2;clear gr kG gM n0 k2 celly H2;go_wp2_with fail;refine Ho.o.mono ?_;rintro q w12 ⟨rfl,d12,st12,lt12,m12,c12⟩;have kL:=Hd (kM.o.move st12 lt12 c12 (fun _ h=>h));have hI:=kI.o.chg c12
     have kP:=Hd (L9 st12 lt12 g1.o m12 gm.o.node gm.o.v (.inr rfl) (fun q=>by
      have h1:=g1.o.top q;have h2:toE b.lo q<=1:=by unfold toE;split<;>omega
      have h3:toE b.hi q<=1:=by unfold toE;split<;>omega
      have h4:0<=toE b.lo q:=by unfold toE;split<;>omega
      unfold addE;omega) (fun q=>by
      have h1:0<=Ak d0 q:=by unfold Ak;split<;>omega
      unfold addE;omega))
     have u3:w12.cell? ⟨bo,3,none⟩=some (.int .i64 b.hi):=hI.cell 3;clear st12 lt12 m12 c12 hI u2;go_wp2_with fail;refine kP.o.mono ?_;rintro q w13 ⟨rfl,d13,st13,lt13,m13,c13⟩;rw[RI] at m13;have hC:=Hd (And.intro (kL.o.move st13 lt13 c13 (fun _ h=>h)) (m13.congr Hj.o));clear st13 lt13 m13 c13 u3;go_wp2_with fail;go_roundw
     case rel=>exact⟨j+1,Y8 gL.o,by go_num,Hd ⟨_,_,_,hC.o.1,hC.o.2⟩⟩
     case measure =>
      have:=gL.o;have:=hF.o;simp[intOf];omega
    ·obtain rfl:j=ids.length:=by omega
     obtain⟨oe,de,Ve,h6,hR⟩:=hB.o;have hO:=hR.final g1.o.v g1.o.ok g1.o.lev (fun i hT=>by rw[Xx];exact(gU.o i).2 hT);have Hu:=Hd (IZ h6.st h6.lt hO)
     have kR:Hq (∀ w' o' d',Ay o' w' sb d'->Ab o' w'->AC de d'->Chg Al oe o' wr w'->P (.returned (.int .i64 0)) w'):=Hd (by
      intro w' o' d' st' lt' cr' ch';rw[ky.o];exact⟨o',d0,kd.o,lt',kE.o.trans (h6.chg.trans ch'),.inr ⟨rfl,d',Ve,st',hR.o hO cr'⟩⟩)
     clear h6 hR hO hB;go_wp2_with fail;refine Hu.o.mono ?_;rintro q w14 ⟨rfl,o14,d14,st14,lt14,cr14,ch14⟩;have HF:=Hd (kR.o w14 o14 d14 st14 lt14 cr14 ch14);clear st14 lt14 cr14 ch14;go_wp2_with fail;exact HF.o
section
theorem Ca.big (h:Ca m){p:Int×Nat}(hp:p∈m.hs):p.2/2=0\/1<p.1:=by
 by_cases h1:1<p.1
 . exact .inr h1
 ·left;have g1:=h.lt p hp;have hu:∀ q∈m.hs,q.1=p.1->q=p:=by
   intro q hq e;have g0:=h.nodup;have h1:=Dx (l:=encH m.hs) (Ez g0) (WW.2 ⟨q,hq,rfl⟩);have h2:=Dx (l:=encH m.hs) (Ez g0) (WW.2 ⟨p,hp,rfl⟩);rw[e,h2] at h1;have e2:(p.2:Int)=(q.2:Int):=by injection h1 with h1;injection h1
   exact Prod.ext e (by omega)
  rcases(by omega:p.1=0\/p.1=1) with e|e
  . rw[<- hu _ h.zero e.symm];rfl
  . rw[<- hu _ h.one e.symm];rfl
theorem LD {hs:List (Int×Nat)}{p:Int×Nat}(hp:p∈hs)(h1:1<p.1):0<AK hs (p.2/2):=by
 unfold AK;refine Zl (XT.2 ⟨hp,?_⟩);simp[h1]
theorem RU (hs:List (Int×Nat))(i:Nat):AK hs i<=hs.length:=XG _ _
theorem LF (h:Ca m)(i:Nat):Ak m.d i<=m.next:=by
 cases hb:Aa m.d i with
 | none=>rw[Et hb];have:=h.next;omega
 | some b =>
   rw[h.refs i b hb];have h1:=RU m.hs i;have h2:=h.len;omega
theorem RW (h:Ca { m with d:=d0 })(hk:Ai d0 V)(s:Fi d0 V k d' V'):Ca { m with d:=d' }:=by
 have g1:∀ p∈m.hs,okE (Aa d') p.2:=by
  intro p hp;rcases h.ok p hp with h0|⟨b,hb⟩
  . exact .inl h0
  ·rcases h.big hp with h1|h1
   . exact .inl h1
   . refine .inr (s.live _ b hb ?_);have h2:=h.refs _ b hb;have h3:0<AK m.hs (p.2/2):=LD hp h1;have h4:Ak d0 (p.2/2)=(AK m.hs (p.2/2):Int):=h2;omega
 refine⟨h.nodup,h.zero,h.one,h.lt,h.next,g1,h.len,fun i b hb=>?_⟩
 show Ak d' i=(AK m.hs i:Int)
 rw[s.ext i b hb];cases hn:Aa d0 i with
 | some b0=>exact h.refs i b0 hn
 | none =>
   rw[Et hn];have hi:i≠0:=by
    rintro rfl;have h0:Aa d' 0=none:=s.ok.dag.none0;have h1:Aa d' 0=some b:=hb;rw[h0] at h1;cases h1
   have:AK m.hs i=0:=by
    unfold AK;rw[Zf,List.filter_eq_nil_iff];intro p hp;have ho:=h.ok p hp;simp only[Xq,XD,beq_iff_eq,not_and];rintro _ rfl;rcases ho with h0|⟨b1,g2⟩
    . exact hi h0
    . have g0:Aa d0 (p.2/2)=some b1:=g2;rw[hn] at g0;cases g0
   rw[this];rfl
end
structure LG (K:Law)(n room:Nat)(w0:Wd)(mb:Nat)(fs:List (Int×BF))(nx:Int)(k:Nat)(o:Own)(w:Wd)(m:ManD)(V:Nat->BF)(e:Ending)(o':Own)(w':Wd)(m':ManD)(V':Nat->BF):Prop where
 sat:SatE K n (fun _=>True) room w0 mb fs nx w' o' m' V'
 waits:m'.waits=m.waits
 calls:m'.calls=m.calls
 chg:Chg (fun _=>True) o o' w w'
 way:∃ d0,AC m.d d0/\((e=.returned (.int .i64 7)/\m'.d=d0/\V'=V/\d0.pool.room<3*d0.pool.many)\/(e=.returned (.int .i64 0)/\Fi d0 V k m'.d V'))
section
variable {o:Own}
theorem LH {s:ManW}(h:SatE K n Od room w0 mb fs nx w o m V)(g1:A2 (fun _ _ _ _ _=>False) o w1 mb m s)(g2:Chg (· = .entries) o o w w1)(g3:Ab o w1)(hk1:k+1<n)(hn:nx<=549755813888) :
 Calls prog 165 #[Pt s.sb,.int .i64 k] w1 fun e w'=>∃ o' m' V',LG K n room w0 mb fs nx k o w m V e o' w' m' V':=by
 have g0:=h.next
 refine(RT g1.store g3 h.ok.store k (by rw[h.vars];exact hk1) (fun i=>by have:=LF h.ok.handles i;omega)).mono ?_;rintro e w' ⟨o',d0,cr,lt,ch,hw⟩;have hc:Chg (fun _=>True) o o' w w':=g2.any.trans ch.any;have h0:=IG h.ok.handles h.ok.store cr;rcases hw with ⟨rfl,st,hr⟩|⟨rfl,d',V',st,so⟩
 . refine⟨o',{ m with d:=d0 },V,⟨⟨s,(g1.setStore g3 st ch).mono fun _ _ _ _ _ e=>e.elim⟩,lt,⟨cr.ok h.ok.store,h0⟩,by dsimp only;rw[cr.vars];exact h.vars,trivial,by dsimp only;rw[cr.room];exact h.room,h.next,h.hs,h.chg.lower (ChgX.of_chg hc NoB) (fun _ e=>e.elim)⟩,rfl,rfl,hc,d0,cr,.inl ⟨rfl,rfl,rfl,hr⟩⟩
 ·refine⟨o',{ m with d:=d' },V',⟨⟨s,(g1.setStore g3 st ch).mono fun _ _ _ _ _ e=>e.elim⟩,lt,⟨so.ok,RW h0 (cr.ok h.ok.store) so⟩,?_,trivial,?_,h.next,?_,h.chg.lower (ChgX.of_chg hc NoB) (fun _ e=>e.elim)⟩,rfl,rfl,hc,d0,cr,.inr ⟨rfl,so⟩⟩
  ·show d'.vars.length=n
   rw[so.vars,Gj,cr.vars];exact h.vars
  ·show d'.pool.room=room
   rw[so.room,cr.room];exact h.room
  ·show m.hs.map (fun p=>(p.1,ef V' p.2))=fs
   rw[Li (d:=d0) h0.ok so.val];exact h.hs
end
theorem RX {o:Own}(st:Ay o w sb d)(hs:d.vars.length<=64)(z:Int)(hz:z<0\/(d.vars.length:Int)-1<=z) :
 Calls prog 165 #[Pt sb,.int .i64 z] w fun x w'=>x=.returned (.int .i64 2)/\w'=w:=by
 obtain⟨s0,h0⟩:=id st;obtain⟨c0,c1,c2,c3,c4,f0⟩:=cells5 h0.blk;obtain⟨l0,l1,_⟩:=cells2 h0.lev;obtain⟨av,cv,g0⟩:∃ a c,s0.vv=.slice a d.vars.length c:=by
  rcases h0.vars with ⟨_,h1|⟨g,cap,c,hv,_⟩⟩
  . exact⟨_,_,by rw[h1.1,h1.2]⟩
  . exact⟨_,_,hv⟩
 rw[g0] at l0;clear st h0 g0 c1 c2 c3 c4 f0 l1
 by_cases hn:z<0
 ·clear l0 c0
  delta Pt;go_enter func165,ntmps165
  go_wp2_with fail;go_ret;exact⟨rfl,rfl⟩
 ·have h1:z>=(d.vars.length:Int)-1:=by omega
  clear hz
  delta Pt;go_enter func165,ntmps165
  go_wp2_with fail;go_ret;exact⟨rfl,rfl⟩
section
variable {o:Own}
theorem RY (h:SatE K n Od room w0 mb fs nx w o m V)(z:Int)(P:Ending->Wd->Prop)
 (hsw:∀ s w1,A2 (K m.d V) o w mb m s->A2 (fun _ _ _ _ _=>False) o w1 mb m s->Chg (· = .entries) o o w w1->Ab o w1->Calls prog 165 #[Pt s.sb,.int .i64 z] w1 fun x w'=>∃ q:Int,x=.returned (.int .i64 q)/\P x w') :
 Calls prog 129 #[Pt mb,.int .i64 z] w P:=by
 obtain⟨s,hs⟩:=h.is;obtain⟨c0,c1,c2,c3,c4,c5,f0⟩:=cells6 hs.blk;have HC:=Hd (fun w1=>hsw s w1 hs);have g0:=Hd (wclear h hs (fun _ _ _ _ _=>False));clear h hs hsw
 delta Pt;go_enter func129,ntmps129
 go_wp2_with fail;refine g0.o.mono ?_;rintro x w1 ⟨rfl,g1,g2,g3⟩;obtain⟨d0,d1,d2,d3,d4,d5,f1⟩:=cells6 g1.blk;have g4:=Hd (HC.o w1 g1 g2 g3);clear g1 g2 g3 c0 c1 c2 c3 c4 c5 f0 g0 HC;go_wp2_with fail;refine g4.o.mono ?_;rintro x w2 ⟨q,rfl,hq⟩;have HQ:=Hd hq;clear hq;go_wp2_with fail;exact HQ.o
theorem RZ (h:SatE K n Od room w0 mb fs nx w o m V)(hk1:k+1<n)(hn:nx<=549755813888) :
 Calls prog 129 #[Pt mb,.int .i64 k] w fun e w'=>∃ o' m' V',LG K n room w0 mb fs nx k o w m V e o' w' m' V' :=
 RY h k _ fun s w1 _ g1 g2 g3=>(LH h g1 g2 g3 hk1 hn).mono fun e w' ⟨o',m',V',hs⟩=>by
  obtain⟨d0,cr,hw⟩:=hs.way;rcases hw with ⟨e1,_⟩|⟨e1,_⟩
  . exact⟨7,e1,o',m',V',hs⟩
  . exact⟨0,e1,o',m',V',hs⟩
end
theorem E5 (f g:Nat->Int):∀ k,Ah k (fun i=>f i+g i)=Ah k f+Ah k g
 | 0=>by simp[Ah]
 | k+1=>by simp only[Ah];rw[E5 f g k];omega
theorem Gk {f g:Nat->Int}:∀ k,(∀ i,i<k->f i<=g i)->Ah k f<=Ah k g
 | 0,_=>by simp[Ah]
 | k+1,h=>by
   have h1:=Gk k (fun i hi=>h i (by omega));have h2:=h k (by omega);simp only[Ah];omega
theorem Jb (c:Int)(f:Nat->Int):∀ k,c*Ah k f=Ah k (fun i=>c*f i)
 | 0=>by simp[Ah]
 | k+1=>by simp only[Ah];rw[Int.mul_add,Jb c f k]
theorem LI (f:Nat->Nat->Int)(m:Nat):∀ k,Ah k (fun i=>Ah m (fun j=>f i j))=Ah m (fun j=>Ah k (fun i=>f i j))
 | 0=>by simp only[Ah];rw[Du]
 | k+1=>by
   simp only[Ah];rw[LI f m k,<- E5]
theorem Jc {g:Nat->Int}(hg:∀ i,0<=g i)(e k:Nat):Ah k (fun i=>g i*toE e i)<=g (e/2):=by
 by_cases hk:e/2<k
 ·have h1:=Dd (f:=fun _=>0) (g:=fun i=>g i*toE e i) (j:=e/2) (fun i hi=>by
   have:toE e i=0:=by unfold toE;rw[WO (X1 hi)]
   simp[this]) k hk
  rw[h1,Du];have:toE e (e/2)=1:=Em e;simp[this]
 ·rw[Bs (g:=fun _=>0) k (fun i hi=>by
   have:toE e i=0:=by unfold toE;rw[WO (by omega)]
   simp[this]),Du]
  exact hg _
def gW (d:Ae)(i:Nat):Int:=match Aa d i with
 | some b=>((2^(d.vars.length-levN d b.v):Nat):Int)-1
 | none=>0
theorem Fk (d:Ae)(i:Nat):0<=gW d i:=by
 unfold gW;split
 . have:0<2^(d.vars.length-levN d (by assumption:BN).v):=XW (by decide);omega
 . omega
abbrev Xo:=@Nat.pow_le_pow_right
theorem LJ (d:Ae)(i l:Nat)(h:∀ b,Aa d i=some b->l<=levN d b.v):gW d i<=((2^(d.vars.length-l):Nat):Int)-1:=by
 unfold gW;split
 ·rename_i b hb
  have h1:=h b hb;have:2^(d.vars.length-levN d b.v)<=2^(d.vars.length-l):=Xo (by decide) (by omega);omega
 . have:0<2^(d.vars.length-l):=XW (by decide);omega
theorem Sa (hk:Ai d V){b:BN}(hb:Aa d j=some b):gW d (b.lo/2)+gW d (b.hi/2)<=gW d j-1:=by
 have hl:=hk.dag.lt _ (hk.dag.var _ _ hb);have key:∀ e,levN d b.v<lvE d.vars.length (levN d) (Aa d) e->gW d (e/2)<=((2^(d.vars.length-(levN d b.v+1)):Nat):Int)-1:=fun e he=>LJ d _ _ (fun c hc=>by rw[Fh hc] at he;omega)
 have h1:=key _ (hk.dag.lvLo _ _ hb);have h2:=key _ (hk.dag.lvHi _ _ hb);have h3:gW d j=((2^(d.vars.length-levN d b.v):Nat):Int)-1:=by unfold gW;rw[hb]
 have h4:d.vars.length-levN d b.v=(d.vars.length-(levN d b.v+1))+1:=by omega
 rw[h3,h4,X4];omega
theorem Sb (hk:Ai d V)(h0:d.dead=0)(hc:(d.pool.many:Int)=Ah d.pool.at_.length (fun i=>if d.pool.tk i=true then 1 else 0)) :
 (d.pool.many:Int)<=Ah d.pool.at_.length (fun i=>gW d i*Ak d i):=by
 obtain⟨k,g0⟩:=Ex d.pool.at_.length;rw[<- g0] at hc ⊢;have e1:Ah k (fun i=>gW d i*(Aj d i:Int))=Ah k (fun i=>gW d i*Ak d i)+Ah k (fun i=>gW d i*Ah k (from1 (Aa d) (Aj d) i)):=by
  rw[<- E5];refine Bs k fun i _=>?_
  cases hb:Aa d i with
  | none=>simp[gW,hb]
  | some b=>rw[hk.live.cnt.eq i b hb,Int.mul_add,g0]
 have e2:Ah k (fun i=>gW d i*Ah k (from1 (Aa d) (Aj d) i))=Ah k (fun j=>Ah k (fun i=>gW d i*from1 (Aa d) (Aj d) i j)):=by
  rw[<- LI];exact Bs k fun i _=>Jb _ _ _
 have e3:Ah k (fun j=>Ah k (fun i=>gW d i*from1 (Aa d) (Aj d) i j))<=Ah k (fun j=>gW d j + -(if d.pool.tk j=true then 1 else 0)):=by
  refine Gk k fun j _=>?_
  cases hb:Aa d j with
  | none =>
    have ht:d.pool.tk j=false:=Ix hb;rw[Bs (g:=fun _=>0) k (fun i _=>by simp[from1,hb]),Du];simp[gW,hb,ht]
  | some b =>
    have ht:d.pool.tk j=true:=(BA hb).1;have hp:=Ge hk.live h0 hb
    rw[Bs (g:=fun i=>gW d i*toE b.lo i+gW d i*toE b.hi i) k (fun i _=>by
     simp only[from1,hb,WR hp,Ci];rw[Int.mul_add]),E5,ht,WR rfl]
    have h1:=Jc (Fk d) b.lo k;have h2:=Jc (Fk d) b.hi k;have h3:=Sa hk hb;omega
 have e4:Ah k (fun i=>gW d i)<=Ah k (fun i=>gW d i*(Aj d i:Int)):=by
  refine Gk k fun i _=>?_
  cases hb:Aa d i with
  | none=>simp[gW,hb]
  | some b =>
    have hp:=Ge hk.live h0 hb;have hg:=Fk d i;have h1:(1:Int)<=(Aj d i:Int):=by omega
    have h2:=Int.mul_le_mul_of_nonneg_left h1 hg;omega
 have e5:Ah k (fun j=>gW d j + -(if d.pool.tk j=true then 1 else 0))=Ah k (fun j=>gW d j)+Ah k (fun j=>-(if d.pool.tk j=true then 1 else 0)):=E5 _ _ _;have e6:Ah k (fun j=>-(if d.pool.tk j=true then (1:Int) else 0)) = -Ah k (fun j=>if d.pool.tk j=true then 1 else 0):=by
  have:=Jb (-1) (fun j=>if d.pool.tk j=true then (1:Int) else 0) k;rw[Bs (g:=fun i=>-1*if d.pool.tk i=true then (1:Int) else 0) k (fun i _=>by omega),<- this];omega
 omega
abbrev YF:=@List.filter_cons_of_neg
theorem LK (d:Ae)(k:Nat):∀ hs:List (Int×Nat),Ah k (fun i=>gW d i*(AK hs i:Int))<=hs.length*((2^d.vars.length:Nat):Int)
 | []=>by
   rw[Bs (g:=fun _=>0) k (fun i _=>by simp[AK]),Du];simp
 | p::l=>by
   have ih:=LK d k l;have h1:Ah k (fun i=>gW d i*(AK (p::l) i:Int))<=Ah k (fun i=>gW d i*(AK l i:Int)+gW d i*toE p.2 i):=by
    refine Gk k fun i _=>?_
    rw[<- Int.mul_add];refine Int.mul_le_mul_of_nonneg_left ?_ (Fk d i);unfold AK toE
    by_cases e:p.2/2=i
    ·rw[WR e];have:(List.filter (fun p=>decide (1<p.1)&&p.2/2 == i) (p::l)).length<=(List.filter (fun p=>decide (1<p.1)&&p.2/2 == i) l).length+1:=by
      rw[Zu];split<;>simp
     omega
    . rw[WO e,YF (by simp[e])];omega
   have h2:=Jc (Fk d) p.2 k;have h3:=LJ d (p.2/2) 0 (fun _ _=>WX _);rw[E5] at h1;rw[Xm,Int.natCast_add,Int.add_mul];simp only[Nat.sub_zero] at h3;have h4:((1:Nat):Int)*((2^d.vars.length:Nat):Int)=((2^d.vars.length:Nat):Int):=by simp
   omega
section
variable {o:Own}
theorem SatE.few (h:SatE K n Od room w0 mb fs nx w o m V)(h0:m.d.dead=0):m.d.pool.many<=fs.length*2^n:=by
 obtain⟨s,hs⟩:=h.is;obtain⟨s2,h2⟩:=hs.store;have h1:=Sb h.ok.store h0 h2.pool.cnt;have h3:=LK m.d m.d.pool.at_.length m.hs;have h4:Ah m.d.pool.at_.length (fun i=>gW m.d i*Ak m.d i)=Ah m.d.pool.at_.length (fun i=>gW m.d i*(AK m.hs i:Int)):=by
  refine Bs _ fun i _=>?_
  cases hb:Aa m.d i with
  | none=>simp[gW,hb]
  | some b=>rw[h.ok.handles.refs i b hb]
 have h5:fs.length=m.hs.length:=by rw[<- h.hs,Xy]
 rw[h5,<- h.vars];have h6:((m.hs.length*2^m.d.vars.length:Nat):Int)=m.hs.length*((2^m.d.vars.length:Nat):Int):=by rw[Int.natCast_mul]
 omega
end
theorem Sc (zs:List Int)(x:Int)(i:Nat):EO zs x i=bub zs i (Cg zs x-i).toNat:=rfl
theorem Sd (zs:List Int)(i d:Nat):(bub zs i (d+1)).2=((i+d:Nat):Int)::(bub (Do zs ((i+d:Nat):Int)) i d).2:=rfl
theorem OwnI.lower {base base':Nat}(h:OwnI w base v zs)(hb:base'<=base):OwnI w base' v zs:=by
 refine⟨h.1,h.2.imp id ?_⟩;rintro⟨g,cap,cur,hv,hg,rest⟩;exact⟨g,cap,cur,hv,WU hb hg,rest⟩
def LL (a b:List Int)(w:Wd)(e:Ending)(w':Wd):Prop :=
 ∃ v,e=.returned (.tuple #[v,.int .i64 (C8 a b)])/\OwnI w' w.heap.size v (C7 a b)/\Bw w w'
theorem Gl {a b r:List Int}{E:Int}(hE:C8 a b=E)(hr:C7 a b=r)(hs:OwnI w' w.heap.size v r)(hb:Bw w w') :
 LL a b w (.returned (.tuple #[v,.int .i64 E])) w':=⟨v,by rw[hE],by rw[hr];exact hs,hb⟩
def metB (zs:List Int)(k:Nat)(v:Int):Bool:=decide (∃ j,j<k/\at0 zs j=v)
theorem Se (zs:List Int)(v:Int):metB zs 0 v=false:=by simp[metB]
theorem Sf (zs:List Int)(k:Nat):metB zs (k+1) (at0 zs k)=true:=by simp only[metB,XD];exact⟨k,by omega,rfl⟩
theorem LM (zs:List Int)(k:Nat)(v:Int)(h:at0 zs k≠v):metB zs (k+1) v=metB zs k v:=by
 simp only[metB,decide_eq_decide];constructor
 ·rintro⟨j,hj,he⟩;refine⟨j,?_,he⟩
  by_cases e:j=k
  . subst e;exact(h he).elim
  . omega
 . rintro⟨j,hj,he⟩;exact⟨j,by omega,he⟩
theorem Sg {v:Int}(h:metB zs k v=true):∃ j,j<k/\at0 zs j=v:=by simpa [metB] using h
theorem Sh {v:Int}(h:metB zs k v=false):∀ j,j<k->at0 zs j≠v:=by
 intro j hj he;have:metB zs k v=true:=by simp only[metB,XD];exact⟨j,hj,he⟩
 rw[h] at this;cases this
def Marks (w:Wd)(g:Nat)(zs:List Int)(k base:Nat):Prop :=
 ∃ cur,w.heap[g]?=some (.cells cur 296 (0,0))/\cur.size=64/\∀ u,u<64->cur[u]?=some (.bool (metB zs k ((base+u:Nat):Int)))
theorem Marks.cell {w:Wd}{g:Nat}{zs:List Int}{k base:Nat}(h:Marks w g zs k base)(u:Nat)(hu:u<64):w.cell? ⟨g,u,none⟩=some (.bool (metB zs k ((base+u:Nat):Int))):=by
 obtain⟨cur,h1,h2,h3⟩:=h;simp only[World.cell?,h1];exact h3 u hu
theorem Marks.frozen {w:Wd}{g:Nat}{zs:List Int}{k base:Nat}(h:Marks w g zs k base)(u:Nat):w.frozen? ⟨g,u,none⟩=false:=by
 obtain⟨cur,h1,h2,h3⟩:=h;simp[World.frozen?,h1]
theorem Marks.step_out {base:Nat}(h:Marks w g zs k base)(hx:¬ ((base:Int)<=at0 zs k/\at0 zs k<base+64)):Marks w g zs (k+1) base:=by
 obtain⟨cur,h1,h2,h3⟩:=h;exact⟨cur,h1,h2,fun u hu=>by rw[LM _ _ _ (by omega)];exact h3 u hu⟩
theorem Marks.step_in {base u:Nat}(h:Marks w g zs k base)(hx:at0 zs k=((base+u:Nat):Int))(hu:u<64) :
 Marks (w.setCell ⟨g,u,none⟩ (.bool true)) g zs (k+1) base:=by
 obtain⟨cur,h1,h2,h3⟩:=h;refine⟨cur.setIfInBounds u (.bool true),?_,by simpa using h2,fun v hv=>?_⟩
 . simp[World.setCell,Y1,h1]
 ·by_cases e:v=u
  . subst e;rw[Array.getElem?_setIfInBounds_self_of_lt (by omega),<- hx,Sf]
  . rw[Array.getElem?_setIfInBounds_ne (by omega),LM _ _ _ (by omega)];exact h3 v hv
theorem Si (w:Wd)(zs:List Int)(base:Nat)(cs:List Value)(hcs:cs=List.replicate 64 (.bool false)):Marks (w.alloc (.cells cs.toArray 296)) w.heap.size zs 0 base :=
 ⟨_,WN w _,by simp[hcs],fun u hu=>by rw[Se,List.getElem?_toArray,hcs,Ze,WR hu]⟩
def Fl (zs:List Int)(B:Nat):Prop :=
 1<=B->(∀ j,j<zs.length->0<=at0 zs j/\at0 zs j<zs.length)/\∀ i,i<zs.length->∀ l,l<i->at0 zs l=at0 zs i->(B:Int)<=at0 zs i
def Fm (zs:List Int)(B k:Nat):Prop :=
 (∀ j,j<k->0<=at0 zs j/\at0 zs j<zs.length)/\(∀ i,i<k->∀ l,l<i->at0 zs l=at0 zs i->¬ ((B:Int)<=at0 zs i/\at0 zs i<(B:Int)+64))
theorem Sj (zs:List Int):Fl zs 0:=fun h=>by omega
theorem Sk (zs:List Int)(B:Nat):Fm zs B 0:=⟨by omega,by omega⟩
theorem Jd (h:Fm zs B k)(h1:0<=at0 zs k)(h2:at0 zs k<zs.length)
 (h3:¬ ((B:Int)<=at0 zs k/\at0 zs k<(B:Int)+64)\/metB zs k (at0 zs k)=false):Fm zs B (k+1):=by
 refine⟨fun j hj=>?_,fun i hi l hl he=>?_⟩
 ·by_cases e:j=k
  . subst e;exact⟨h1,h2⟩
  . exact h.1 j (by omega)
 ·by_cases e:i=k
  ·subst e;rcases h3 with h3|h3
   . exact h3
   . exact(Sh h3 l hl he).elim
  . exact h.2 i (by omega) l hl he
theorem Sl (h:Fl zs B)(hi:Fm zs B zs.length):Fl zs (B+64):=by
 refine fun _=>⟨hi.1,fun i g0 l hl he=>?_⟩
 have h2:=hi.2 i g0 l hl he;have h3:=(hi.1 i g0).1
 by_cases hB:1<=B
 . have:=(h hB).2 i g0 l hl he;omega
 . omega
theorem Sn (h:Fl zs B)(hB:zs.length<=B):BO zs=true:=by
 rw[Kc]
 by_cases h0:1<=B
 . obtain⟨h1,h2⟩:=h h0;exact⟨h1,fun i hi k hk he=>by have:=h2 i hi k hk he;have:=(h1 i hi).2;omega⟩
 . exact⟨by omega,by omega⟩
theorem LN (hk:k<zs.length)(h:¬ (0<=at0 zs k/\at0 zs k<zs.length)):BO zs=false:=Kd fun hh=>h (hh.1 k hk)
theorem So (hk:k<zs.length)(h:metB zs k (at0 zs k)=true):BO zs=false:=by
 obtain⟨j,hj,he⟩:=Sg h;exact Kd fun hh=>hh.2 k hk j hj he
theorem Eb (a:Option Addr)(c:Nat)(zs:List Int)(w:Wd)(h:An w a zs)(hlen:zs.length<1000000) :
 Calls prog 205 #[.slice a zs.length c] w (Bl (.bool (BO zs)) w):=by
 obtain⟨hl,hc⟩:=h;have gh:Hq (∀ k,k<zs.length->∃ b off,a=some ⟨b,off,none⟩/\b<w.heap.size/\w.cell? ⟨b,off+k,none⟩=some (.int .i64 (at0 zs k))):=fun k hk=>by
  obtain⟨b,off,h1,h2⟩:=hc k hk;exact⟨b,off,h1,Ag h2,h2⟩
 clear hc
 go_enter func205,ntmps205
 go_wp2
 go_loopw [3] (fun s3 wr=>∃ B:Nat,s3=.int .i64 B/\B<=zs.length+63/\Fl zs B/\Bw w wr/\w.heap.size<=wr.heap.size) (fun i _=>zs.length+64-(intOf i).toNat)
 case atStart=>exact⟨0,rfl,by omega,Sj zs,Xd _ _,WM _⟩
 case round =>
  obtain⟨B,rfl,hB,hrel,g9,ga⟩:=hrel;have HR:=Hd hrel;clear hrel
  by_cases gm:B<zs.length
  ·go_wp2
   obtain⟨wo,rfl⟩:=Ex (wr:Wd)
   go_loopw [16] (fun i wi=>∃ k:Nat,k<=zs.length/\i=.int .i64 k/\Fm zs B k/\Marks wi wo.heap.size zs k B/\Bw w wi/\w.heap.size<=wi.heap.size) (fun i _=>zs.length-(intOf i).toNat)
   case atStart=>exact⟨0,by omega,rfl,Sk zs B,Si _ _ _ _ rfl,g9.alloc ga _,by simp;omega⟩
   case round =>
    obtain⟨k,hk,rfl,gb,hm,g0,g2⟩:=hrel;have g4:=Hd gb;have HM:=Hd hm;clear gb hm
    by_cases g3:k<zs.length
    ·obtain⟨b,off,rfl,gg,gd⟩:=gh.o k g3;have gk:=(g0.cell (p:=⟨b,off+k,none⟩) gg).trans gd;clear gd
     by_cases hx:0<=at0 zs k/\at0 zs k<zs.length
     ·obtain⟨g6,g5⟩:=hx
      by_cases g1:(B:Int)<=at0 zs k/\at0 zs k<(B:Int)+64
      ·obtain⟨gj,gi⟩:=g1;have g7:((at0 zs k).toNat-B)<64:=by omega
       have g8:at0 zs k=((B+((at0 zs k).toNat-B):Nat):Int):=by omega
       have ge:=HM.o.cell _ g7;have gq:=HM.o.frozen ((at0 zs k).toNat-B);rw[<- g8] at ge;have HU:=Hd g8
       generalize gc:metB zs k (at0 zs k)=mb at ge
       have gf:=Hd gc;clear gc g8;cases mb
       ·go_wp2
        go_roundw
        case rel=>exact⟨k+1,by omega,by go_num,Jd g4.o g6 g5 (.inr gf.o),HM.o.step_in HU.o g7,g0.setCell ga _,by simp;omega⟩
        case measure=>simp[intOf];omega
       ·go_wp2
        go_ret;exact⟨C6 (So g3 gf.o).symm,g0⟩
      ·have HW:=Hd g1
       by_cases gn:at0 zs k<(B:Int)
       ·clear g1
        go_wp2
        go_roundw
        case rel=>exact⟨k+1,by omega,by go_num,Jd g4.o g6 g5 (.inl HW.o),HM.o.step_out HW.o,g0,g2⟩
        case measure=>simp[intOf];omega
       ·have go:(B:Int)+64<=at0 zs k:=by omega
        clear g1
        go_wp2
        go_roundw
        case rel=>exact⟨k+1,by omega,by go_num,Jd g4.o g6 g5 (.inl HW.o),HM.o.step_out HW.o,g0,g2⟩
        case measure=>simp[intOf];omega
     ·have HX:=Hd hx
      by_cases gl:at0 zs k<0
      ·clear hx
       go_wp2
       go_ret;exact⟨C6 (LN g3 HX.o).symm,g0⟩
      ·have gp:(zs.length:Int)<=at0 zs k:=by omega
       clear hx
       go_wp2
       go_ret;exact⟨C6 (LN g3 HX.o).symm,g0⟩
    ·obtain rfl:k=zs.length:=by omega
     go_wp2
     go_roundw
     case rel=>exact⟨B+64,by go_num,by omega,Sl HR.o g4.o,g0,g2⟩
     case measure=>simp[intOf];omega
  ·go_wp2
   go_ret;exact⟨C6 (Sn HR.o (by omega)).symm,g9⟩
abbrev Zn:=@and_true
abbrev Zc:=@wpList_copy_splice
theorem Sq {o:Oper}(hgd:o.guard=none)(d s:Operand)
 (ho:o.op=.call { callee:=.builtin .copy,args:=#[d,s],argTypes:=#[22,22] })
 (base g:Nat) (w0:Wd) (zs:List Int) (xs:List Value) (ao:Option Addr) (c:Nat) (hd:a.eval d=.slice (some ⟨g,0,none⟩) zs.length zs.length) (hs:a.eval s=.slice ao zs.length c)
 (hown:wr.ownsRow base 3 1 (.slice (some ⟨g,0,none⟩) zs.length zs.length) zs.length xs) (hzs:An wr ao zs) (hb:Below base w0 wr)
 (h:∀ v' w',OwnI w' base (.slice (some ⟨g,0,none⟩) zs.length zs.length) zs->Below base w0 w'->base<=w'.heap.size->wpList prog ops Q rest (a.put o.dst v') w') :
 wpList prog ops Q (o::rest) a wr:=by
 obtain⟨g9,hx⟩:=hown;rcases hx with ⟨hv,_⟩|⟨g',cap,cur,hv,g2,hg,ga,g5,g1,g8⟩
 . cases hv
 ·simp only[YO,X0,Addr.mk.injEq,Zn,true_and] at hv;obtain⟨rfl,rfl⟩:=hv;refine Zc (w:=wr) hgd d s 22 22 ho 3 underlying22 (by obtain⟨i,hi,_,g4,_⟩:=Y9 El;rw[hi];simp[g4])
   _ _ _ _ _ _ hd hs g 0 cur.toList 3 (by simpa using hg) (As zs) (by simp[As]) ?_ (by simp[As,g1]) (ints_oneCell .i64 zs) base w0 hb g2 ?_
  ·intro hp;rw[GR] at hp;obtain⟨b,off,rfl,_⟩:=hzs.cells 0 hp;refine⟨rfl,_,rfl,fun j v hj=>?_⟩;have g0:j<zs.length:=by
    rcases Xe j zs.length with h'|h'
    . exact h'
    . simp[As,Xb h'] at hj
   obtain⟨b',off',g7,hc⟩:=hzs.cells j g0;cases g7;simp[As,getElem?_at0 g0] at hj;subst hj;have g3:(⟨b,off,none⟩:Addr).add j=⟨b,off+j,none⟩:=by unfold Addr.add;split<;>simp_all
   rw[g3];exact hc
  ·intro w' hh g6;refine h _ w' ⟨by simp[As],.inr ⟨g,_,(As zs).toArray,rfl,g2,?_,WM _,g5,by simp[As],by simp[As,Xn]⟩⟩ g6 ?_
   ·have:=hh.out;rw[this];have hl:cur.toList.length=zs.length:=by simp[g1]
    simp[splice,As,List.drop_eq_nil_of_le,hl]
   . have h1:=hh.out;have:=(WL.1 h1).1;omega
theorem LO (a:Option Addr)(c:Nat)(zs:List Int)(w:Wd)(h:An w a zs)(hlen:zs.length<1000000) :
 Calls prog 206 #[.slice a zs.length c] w fun e w'=>∃ g,e=.returned (.slice (some ⟨g,0,none⟩) zs.length zs.length)/\OwnI w' w.heap.size (.slice (some ⟨g,0,none⟩) zs.length zs.length) zs/\Bw w w':=by
 obtain⟨i,hi,hz,g3,g4⟩:=Y9 El;have HI:=Hd h;clear h
 go_enter func206,ntmps206
 go_wp2_with (first
  | (at_make;refine wpList_make_full _ rfl _ _ 22 rfl w.heap.size 3 i (.int .i64 0) 1 underlying22 hi hz g3 .i64 .i64 _ _ zs.length rfl rfl rfl rfl (by rw[g4];omega) (by unfold maxLen;omega) (WM _) ?_;intro w1 g1 g2)
  | (with_reducible refine Sq rfl (.tmp 7) (.tmp 8) rfl w.heap.size w.heap.size w zs _ a c rfl rfl (by exact g1) (HI.o.keep (F5 g2) (by simp)) ((Xd _ _).grown g2 (WM _) (by simp)) ?_;intro v2 w2 g0 g5 g6))
 go_ret;exact⟨_,rfl,g0,g5⟩
theorem Sr (a:Option Addr)(c:Nat)(zs:List Int)(x:Int)(w:Wd)(h:An w a zs) :
 Calls prog 207 #[.slice a zs.length c,.int .i64 x] w fun e w'=>e=.returned (.int .i64 (Cg zs x))/\∃ n,w'=w.drewN n:=by
 obtain⟨hl,hc⟩:=h;have HC:=Hd hc;clear hc
 go_enter func207,ntmps207
 go_wp2
 go_loop [8] (fun i=>∃ k:Nat,k<=zs.length/\i=.int .i64 k/\∀ j,j<k->at0 zs j≠x) (fun i=>zs.length-(intOf i).toNat)
 case atStart=>exact⟨0,WX _,rfl,by omega⟩
 case round =>
  obtain⟨k,hk,rfl,hrel⟩:=hrel;have HR:=Hd hrel;clear hrel
  by_cases g0:k<zs.length
  ·obtain⟨b,off,rfl,g1⟩:=HC.o k g0
   by_cases hx:at0 zs k=x
   ·have H1:(x == at0 zs k)=true:=by simpa using hx.symm
    have HX:=Hd hx;clear hx
    go_wp2
    go_ret;exact⟨GQ (O9 g0 HX.o HR.o).symm,0,rfl⟩
   ·have H1:(x == at0 zs k)=false:=by simpa using(fun e=>hx e.symm)
    go_wp2
    go_round
    case rel=>exact⟨k+1,by omega,by go_num,fun j hj=>by
     by_cases e:j=k
     . subst e;exact hx
     . exact HR.o j (by omega)⟩
    case measure=>simp[intOf];omega
  ·go_wp2
   go_ret;exact⟨GQ (OA (fun j hj=>HR.o j (by omega))).symm,0,rfl⟩
theorem OwnI.len {base:Nat}{a:Option Addr}(h:OwnI w base (.slice a n c) zs):n=zs.length:=by
 rcases h.2 with ⟨hv,h0⟩|⟨g,cap,cur,hv,_⟩
 . simp only[YO] at hv;omega
 . simp only[YO] at hv;omega
theorem OwnI.intsAt {base:Nat}{a:Option Addr}(h:OwnI w base (.slice a n c) zs)(hl:zs.length<=9223372036854775807):An w a zs:=by
 obtain rfl:=h.len;exact Ka hl h
theorem Ss {a:Option Addr}{x:Int}(hn:n=zs.length)(h:An w a zs) :
 Calls prog 207 #[.slice a n c,.int .i64 x] w fun e w'=>e=.returned (.int .i64 (Cg zs x))/\∃ n,w'=w.drewN n:=by
 subst hn;exact Sr a c zs x w h
theorem Su (va vb:Value)(xs ys:List Int)(w:Wd)(h:SliceIs w va xs)(h':SliceIs w vb ys)(hlen:xs.length<=1000)(hlen':ys.length<=1000) :
 Calls prog 196 #[va,vb] w (LL xs ys w):=by
 obtain⟨a,c,rfl,ha,gR⟩:=h;obtain⟨b,c',rfl,hb,gQ⟩:=h';have HA:=Hd ha;have HB:=Hd hb;clear ha hb gR gQ
 by_cases hr:BO xs=true
 ·by_cases g1:BO ys=true
  ·by_cases hl:xs.length=ys.length
   ·have HE:Hq (C8 xs ys=0):=by unfold C8;rw[WR ⟨hr,g1⟩,WR hl];rfl
    have HF:Hq (C7 xs ys=Da xs ys 0):=by unfold C7;rw[WR ⟨hr,g1,hl⟩];rfl
    have HR:=Hd hr;have g8:=Hd g1;have H3:((xs.length:Int) != ys.length)=false:=by simp[hl]
    clear hr g1 hl
    go_enter func196,ntmps196
    go_wp2_with fail;refine(Eb _ _ xs _ HA.o (by omega)).mono ?_;rintro e w1 ⟨rfl,g0⟩;rw[HR.o];go_wp2_with fail;refine(Eb _ _ ys _ (HB.o.below g0) (by omega)).mono ?_;rintro e w2 ⟨rfl,g7⟩;rw[g8.o];have g4:Bw w w2:=g0.trans (g7.mono g0.size);go_wp2_with fail;refine(LO _ _ xs _ (HA.o.below g4) (by omega)).mono ?_;rintro e w3 ⟨g,rfl,gb,gl⟩;have ga:=g4.size;have hg:w2.heap.size<=g:=(gb.lt g rfl).1;have h3:Bw w w3:=g4.trans (gl.mono ga);have gL:w2.heap.size<=w3.heap.size:=gl.size;go_wp2_with fail
    go_loopw [6,30] (fun s6 s30 wr=>∃ (k:Nat) (cur out:List Int),k<=ys.length/\s30=.int .i64 k/\OwnI wr w2.heap.size (.slice (some ⟨g,0,none⟩) xs.length xs.length) cur/\cur.length=xs.length/\OwnI wr w2.heap.size s6 out/\s6.ownBlock≠some g/\out.length<=k*1000/\out++Da cur (ys.drop k) k=Da xs ys 0/\w2.heap.size<=wr.heap.size/\Bw w2 wr) (fun _ s30 _=>ys.length-(intOf s30).toNat)
    case atStart=>exact⟨0,xs,[],by omega,rfl,gb,rfl,EM _ _,by simp[Value.ownBlock],by simp,by simp,gL,gl⟩
    case round =>
     obtain⟨k,cur,out,hk,rfl,gj,gv,ge,gs,hd,gq,gK,g9⟩:=hrel;have gz:=Hd gq;have gm:=Hd gv;have gZ:=Hd gs;have h5:cur.length<=1000:=by omega
     clear gq gv gs;have h1:=Hd (HB.o.below (g4.trans (g9.mono ga)))
     by_cases gt:k<ys.length
     ·obtain⟨bb,off,rfl,h2⟩:=h1.o.cells k gt;have h0:=Hd (OH cur ys k gt);have HCI:=Hd (gj.intsAt (by omega));go_wp2_with fail;refine(Ss gm.o.symm (HCI.o.drewN 0)).mono ?_;rintro e w' ⟨rfl,n,rfl⟩;have gr:=OE cur (at0 ys k);have hp2:=OF cur (at0 ys k);have gE:=Hd (Sc cur (at0 ys k) k)
      generalize Cg cur (at0 ys k)=p at gr hp2 gE ⊢
      go_wp2_with fail;have gO:p<xs.length\/p<=0:=by have:=gm.o;omega
      obtain⟨N,F,HN⟩:∃ (N F:List Int),Hq (N=(bub cur k (p-k).toNat).1/\F=out++(bub cur k (p-k).toNat).2):=⟨_,_,rfl,rfl⟩
      go_loopw [6,10] (fun s6 s10 wi=>∃ (d:Nat) (c1 o1:List Int) (q:Int),s10=.int .i64 q/\-1<=q/\q<=1000/\(q<xs.length\/q<=0)/\(q<=k->d=0)/\(k<q->q=k+d)/\OwnI wi w2.heap.size (.slice (some ⟨g,0,none⟩) xs.length xs.length) c1/\c1.length=xs.length/\OwnI wi w2.heap.size s6 o1/\s6.ownBlock≠some g/\o1.length+d<=(k+1)*1000/\N=(bub c1 k d).1/\F=o1++(bub c1 k d).2/\w2.heap.size<=wi.heap.size/\Bw w2 wi) (fun _ s10 _=>(intOf s10+1).toNat)
      case atStart=>exact⟨(p-k).toNat,cur,out,p,rfl,gr,by omega,gO,by omega,by omega,gj.drewN n,gm.o,ge.drewN n,gZ.o,by omega,HN.o.1,HN.o.2,gK,Cs g9 n⟩
      case round =>
       obtain⟨d,c1,o1,q,rfl,hc,h9,gN,gi,gu,g3,gk,g6,gf,h4,hN,hF,gd,gc⟩:=hrel;have gB:=Hd hN;have gD:=Hd hF;have gn:=Hd gk;have g5:=Hd gf;have h6:c1.length<=1000:=by omega
       clear hN hF gk gf
       by_cases h8:(k:Int)<q
       ·obtain⟨d,rfl⟩:∃ l,d=l+1:=⟨d-1,by omega⟩;have gM:q=(k:Int)+d+1:=by omega
        subst gM;have gS:k+d+1<xs.length:=by omega
        have gH:k+d+1<c1.length:=by rw[gn.o];exact gS
        clear gi gu gN;have h7:IntKind.i64.wrap ((k:Int)+d+1-1)=((k+d:Nat):Int):=by rw[Zm _ (by omega)];omega
        have q0:=g3.cell (k+d) (by omega);have q1:=g3.cell (k+d+1) (by omega);have p0:=g3.frozen (k+d);have p1:=g3.frozen (k+d+1);have t0:((k:Int)+d).toNat=k+d:=by omega
        have t1:((k:Int)+d+1).toNat=k+d+1:=by omega
        go_wp2_with fail
        go_region
        have gX:=Hd (OC (zs:=c1) (k:=k+d) gH);have gU:=((g3.stored (k+d) (at0 c1 (k+d+1))).stored (k+d+1) (at0 c1 (k+d))).drewN 1;have gP:=((g6.setCell_other (a:=⟨g,k+d,none⟩) g5.o (.int .i64 (at0 c1 (k+d+1)))).setCell_other (a:=⟨g,k+d+1,none⟩) g5.o (.int .i64 (at0 c1 (k+d)))).drewN 1;have gV:=Cs ((gc.setCell (p:=⟨g,k+d,none⟩) hg (.int .i64 (at0 c1 (k+d+1)))).setCell (p:=⟨g,k+d+1,none⟩) hg (.int .i64 (at0 c1 (k+d)))) 1;have gT:=(g3.lt g rfl).2;go_wp2_with (at_builtin;go_loud (refine Dn _ rfl _ _ rfl w2.heap.size w2 _ o1 _ rfl rfl (by rfl) (by simp) gP (by omega) (by simpa using gd) gV ?_);intro v2 w4 go gp gF gg);have gw:=gU.keep gg.keep (fun x hx gJ=>by cases hx;exact g5.o gJ.symm);rw[<- gX.o] at gw;have gG:=gg.ne g5.o (by simpa using gT);go_roundw
        case rel=>exact⟨d,Do c1 ((k+d:Nat):Int),o1++[((k+d:Nat):Int)],((k+d:Nat):Int),by go_num,by omega,by omega,by omega,by omega,by omega,gw,by rw[OB];exact gn.o,go,gG,by simp;omega,gB.o,by rw[gD.o,Sd];simp,gF,gp⟩
        case measure=>simp[intOf];omega
       ·obtain rfl:=gi (by omega);have gY:=Hd g6;have gx:N=c1:=gB.o;have gy:F=o1:=by rw[gD.o];simp[bub]
        have gA:=Hd gx;have gC:=Hd gy;clear gx gy gi gu g6
        go_wp2
        go_roundw
        case rel=>exact⟨k+1,N,F,by omega,by go_num,by rw[gA.o];exact g3,by rw[gA.o];exact gn.o,by rw[gC.o];exact gY.o,g5.o,by rw[gC.o];omega,by
         rw[HN.o.1,HN.o.2,<- gz.o,h0.o,gE.o];simp,gd,gc⟩
        case measure=>simp[intOf];omega
     ·obtain rfl:k=ys.length:=by omega
      have gh:Da xs ys 0=out:=by rw[<- gz.o];simp[Da]
      have gI:=Hd gh;clear gh
      go_wp2
      go_ret2
      exact Gl HE.o (HF.o.trans gI.o) (ge.lower ga) (g4.trans (g9.mono ga))
   ·have HE:Hq (C8 xs ys=3):=by unfold C8;rw[WR ⟨hr,g1⟩,WO hl];rfl
    have HF:Hq (C7 xs ys=[]):=by unfold C7;rw[WO (fun hh=>hl hh.2.2)];rfl
    have HR:=Hd hr;have g8:=Hd g1;have H3:((xs.length:Int) != ys.length)=true:=by simp;omega
    clear hr g1 hl
    go_enter func196,ntmps196
    go_wp2_with fail;refine(Eb _ _ xs _ HA.o (by omega)).mono ?_;rintro e w1 ⟨rfl,g0⟩;rw[HR.o];go_wp2_with fail;refine(Eb _ _ ys _ (HB.o.below g0) (by omega)).mono ?_;rintro e w2 ⟨rfl,g7⟩;rw[g8.o];go_wp2_with fail
    go_ret2
    exact Gl HE.o HF.o (EM _ _) (g0.trans (g7.mono g0.size))
  ·have HE:Hq (C8 xs ys=1):=by unfold C8;rw[WO (fun hh=>g1 hh.2)];rfl
   have HF:Hq (C7 xs ys=[]):=by unfold C7;rw[WO (fun hh=>g1 hh.2.1)];rfl
   have g2:BO ys=false:=by simpa using g1
   have HR:=Hd hr;have g8:=Hd g2;clear hr g1 g2
   go_enter func196,ntmps196
   go_wp2_with fail;refine(Eb _ _ xs _ HA.o (by omega)).mono ?_;rintro e w1 ⟨rfl,g0⟩;rw[HR.o];go_wp2_with fail;refine(Eb _ _ ys _ (HB.o.below g0) (by omega)).mono ?_;rintro e w2 ⟨rfl,g7⟩;rw[g8.o];go_wp2_with fail
   go_ret2
   exact Gl HE.o HF.o (EM _ _) (g0.trans (g7.mono g0.size))
 ·have HE:Hq (C8 xs ys=1):=by unfold C8;rw[WO (fun hh=>hr hh.1)];rfl
  have HF:Hq (C7 xs ys=[]):=by unfold C7;rw[WO (fun hh=>hr hh.1)];rfl
  have g2:BO xs=false:=by simpa using hr
  have HR:=Hd g2;clear hr g2
  go_enter func196,ntmps196
  go_wp2_with fail;refine(Eb _ _ xs _ HA.o (by omega)).mono ?_;rintro e w1 ⟨rfl,g0⟩;rw[HR.o];go_wp2_with fail
  go_ret2
  exact Gl HE.o HF.o (EM _ _) g0
end Go.Proofs.YtgmbklaolcmljaaGreat
namespace Go.Proofs
open Go.Proofs.Tryz
open Go.Shelf
def Tryz.lays112_ren:Go.Shelf.Ren:=⟨fun|112=>208|n=>n,fun|28=>22|3=>3|4=>4|0=>0|n=>n,fun|n=>n⟩
theorem Tryz.lays112:Go.Proofs.Lays.n112 prog Tryz.lays112_ren:={
 mixed:=by kernel_rfl
 f112:=func208.trans (congrArg some (by kernel_rfl))
 t0:=underlying0
 a0:=Tryz.isAgg0
 z0:=Tryz.sizeOf0
 v0:=zeroValue0
 t3:=underlying3
 a3:=Tryz.isAgg3
 z3:=Tryz.sizeOf3
 v3:=zeroValue3
 t4:=underlying4
 a4:=Tryz.isAgg4
 z4:=Tryz.sizeOf4
 v4:=zeroValue4
 t28:=underlying22
 a28:=Tryz.isAgg22
 z28:=Tryz.sizeOf22
 v28:=zeroValue22 }
theorem Tryz.slices_Reverse_int_cells (b off n c:Nat)(zs:List Int)(w:World)(hz:n<=zs.length)(hbig:n<=9223372036854775807)(hc:∀ j,j<zs.length->w.cell? ⟨b,off+j,none⟩=some (.int .i64 (zs.getD j 0)))(hf:∀ j,j<n->w.frozen? ⟨b,off+j,none⟩=false) :
 Calls prog 208 #[.slice (some ⟨b,off,none⟩) n c] w fun e w'=>e=.returned (.tuple #[])/\∃ q,w'=(w.drewN q).setCells b off ((zs.take n).reverse.map (Value.int .i64)):=Any.slices_Reverse_int_cells Tryz.lays112 b off n c zs w hz hbig hc hf
end Go.Proofs
namespace Go.Proofs.YtgmbklaolcmljaaGreat
open Go.Proofs.Tryz
open Go.RowKit
variable {B b c cap e f g gop i j k mb n room sb xb:Nat}{C:Nat->Prop}{F:BF}{K:Law}{N:Nat->Option BN}{Od:List Nat->Prop}{Q:Exit->Act->Wd->Prop}{R:Role->Prop}{T:TypeId}{V V':Nat->BF}{W W' w w' w0 w1 w2 wr:Wd}{a:Act}{bs:List Bool}{d':Ae}{ev:Ev}{fs hs:List (Int×BF)}{ks zs:List Int}{lim:Option Nat}{lop:Array Value}{m m':ManD}{nx op:Int}{o' o1 o2:Own}{ops:Array Oper}{rest:List Oper}{v v' vl vx:Value}{ws0:List Ev}{xs:List Value}
theorem Sv {a:Wd}(hg:B<=g)(ys:List Value):∀ (w:Wd) (o:Nat),Below B a w->Below B a (w.setCells g o ys):=by
 induction ys with
 | nil=>intro w o h;exact h
 | cons y ys ih=>intro w o h;exact ih _ _ (h.setCell hg _)
theorem OwnI.setCells {base g n c:Nat}(ys:List Int):∀ (w:Wd) (o:Nat) (zs:List Int),OwnI w base (.slice (some ⟨g,0,none⟩) n c) zs->o+ys.length<=zs.length ->
 OwnI (w.setCells g o (As ys)) base (.slice (some ⟨g,0,none⟩) n c) (zs.take o++ys++zs.drop (o+ys.length)):=by
 induction ys with
 | nil=>intro w o zs h _;simpa [As,World.setCells] using h
 | cons y ys ih =>
   intro w o zs h hl;simp only[Xm] at hl;have h1:=ih (w.setCell ⟨g,o,none⟩ (.int .i64 y)) (o+1) (zs.set o y) (h.stored o y) (by simp;omega);have e:(zs.set o y).take (o+1)++ys++(zs.set o y).drop (o+1+ys.length)=zs.take o++(y::ys)++zs.drop (o+(y::ys).length):=by
    have e1:(zs.set o y).take (o+1)=zs.take o++[y]:=by
     rw[List.set_eq_take_append_cons_drop,WR (by omega),List.take_append];simp;have:min o zs.length=o:=by omega
     rw[this];simp
     exact Xn (by simp;omega)
    have e2:(zs.set o y).drop (o+1+ys.length)=zs.drop (o+1+ys.length):=by
     rw[List.drop_set];rw[WR (by omega)]
    rw[e1,e2];simp[Yx,Nat.add_comm 1 ys.length]
   rw[e] at h1;exact h1
theorem Sw (a:Option Addr)(c:Nat)(zs:List Int)(w:Wd)(h:An w a zs)(hlen:zs.length<1000000) :
 Calls prog 197 #[.slice a zs.length c] w fun e w'=>∃ v,e=.returned v/\SliceIs w' v zs.reverse/\Bw w w':=by
 have HI:=Hd h;clear h
 go_enter func197,ntmps197
 go_wp2_with fail;refine(LO _ _ zs _ HI.o hlen).mono ?_;rintro e w1 ⟨g,rfl,g0,g3⟩;have hg:w.heap.size<=g:=(g0.lt g rfl).1;go_wp2_with fail;refine(Tryz.slices_Reverse_int_cells g 0 zs.length zs.length zs w1 (WM _) (by omega) (fun j hj=>by rw[Xw];exact g0.cell j hj) (fun j hj=>by rw[Xw];exact g0.frozen j)).mono ?_;rintro e w2 ⟨rfl,q,g1⟩;have h2:=OwnI.setCells zs.reverse (w1.drewN q) 0 zs (g0.drewN q) (by simp);have e:zs.drop (0+zs.reverse.length)=[]:=Yw (by simp);rw[e,Zi,XK,Yd] at h2;have g2:Bw w ((w1.drewN q).setCells g 0 (As zs.reverse)):=Sv hg _ _ _ (Cs g3 _);rw[Xx] at g1
 change w2=(w1.drewN q).setCells g 0 (As zs.reverse) at g1
 rw[<- g1] at h2 g2;clear g1;go_wp2_with fail;go_ret;exact⟨_,rfl,h2.sliceIs (by simp;omega),g2⟩
abbrev KF:Law:=fun _ _ _ _ _ _ _=>False
section
variable {o:Own}
theorem SatE.full (h:SatE KF n Od room w0 mb fs nx w o m V):SatE K n Od room w0 mb fs nx w o m V:=by
 obtain⟨s,hs⟩:=h.is;exact⟨⟨s,hs.mono fun _ _ _ _ _ e=>e.elim⟩,h.lt,h.ok,h.vars,h.od,h.room,h.next,h.hs,h.chg⟩
theorem SatE.cleared {s:ManW}(h:SatE K n Od room w0 mb fs nx w o m V)(g1:A2 (fun _ _ _ _ _=>False) o w1 mb m s)(g2:Chg (· = .entries) o o w w1)(g3:Ab o w1):SatE KF n Od room w0 mb fs nx w1 o m V :=
 ⟨⟨s,g1⟩,g3,h.ok,h.vars,h.od,h.room,h.next,h.hs,h.chg.lower (ChgX.of_chg g2.any NoB) (fun _ e=>e.elim)⟩
structure HapS (n room:Nat)(w0:Wd)(mb:Nat)(fs:List (Int×BF))(nx:Int)(o:Own)(w:Wd)(m:ManD)(o':Own)(w':Wd)(m':ManD)(V':Nat->BF):Prop where
 sat:SatE KF n (fun _=>True) room w0 mb fs nx w' o' m' V'
 waits:m'.waits=m.waits
 calls:m'.calls=m.calls
 chg:Chg (fun _=>True) o o' w w'
 many:m'.d.pool.many<=m.d.pool.many\/m'.d.pool.many<=fs.length*2^n
theorem HapS.trans {o'':Own}{w'':Wd}{m'':ManD}{V'':Nat->BF}(h:HapS n room w0 mb fs nx o w m o' w' m' V')(h':HapS n room w0 mb fs nx o' w' m' o'' w'' m'' V''):HapS n room w0 mb fs nx o w m o'' w'' m'' V'' :=
 ⟨h'.sat,h'.waits.trans h.waits,h'.calls.trans h.calls,h.chg.trans h'.chg,by
  rcases h'.many with h1|h1
  . exact h.many.imp (fun h2=>WU h1 h2) (fun h2=>WU h1 h2)
  . exact .inr h1⟩
theorem LP {s:ManW}(h:SatE KF n (fun _=>True) room w0 mb fs nx w o m V)(hs:A2 (fun _ _ _ _ _=>False) o w mb m s)(hn:nx<=549755813888)(z:Int) :
 Calls prog 165 #[Pt s.sb,.int .i64 z] w fun e w'=>∃ q:Int,e=.returned (.int .i64 q)/\∃ o' m' V',HapS n room w0 mb fs nx o w m o' w' m' V':=by
 by_cases hz:z<0\/(n:Int)-1<=z
 . refine(RX hs.store h.ok.store.small z (by rw[h.vars];exact hz)).mono ?_;rintro e w' ⟨rfl,rfl⟩;exact⟨2,rfl,o,m,V,h,rfl,rfl,Chg.refl _ _ _,.inl (WM _)⟩
 ·obtain⟨k,rfl⟩:∃ k:Nat,z=k:=⟨z.toNat,by omega⟩;refine(LH h hs (Chg.refl _ _ _) h.lt (by omega) hn).mono ?_;rintro e w' ⟨o',m',V',hm⟩;obtain⟨d0,cr,hw⟩:=hm.way;rcases hw with ⟨e1,e2,_⟩|⟨e1,so⟩
  . exact⟨7,e1,o',m',V',hm.sat,hm.waits,hm.calls,hm.chg,.inr (hm.sat.few (by rw[e2];exact cr.dead))⟩
  . exact⟨0,e1,o',m',V',hm.sat,hm.waits,hm.calls,hm.chg,.inr (hm.sat.few so.dead)⟩
theorem Sx {s:ManW}(h:SatE KF n (fun _=>True) room w0 mb fs nx w o m V)(hs:A2 (fun _ _ _ _ _=>False) o w mb m s) :
 Calls prog 185 #[Pt s.sb] w fun e w'=>∃ q:Int,e=.returned (.int .i64 q)/\∃ o' m' V',HapS n room w0 mb fs nx o w m o' w' m' V':=by
 refine(IZ hs.store h.lt h.ok.store).mono ?_;rintro e w' ⟨rfl,o',d',st,lt,cr,ch⟩;have g0:SatE KF n (fun _=>True) room w0 mb fs nx w' o' { m with d:=d' } V:=⟨⟨s,hs.setStore h.lt st ch⟩,lt,⟨cr.ok h.ok.store,IG h.ok.handles h.ok.store cr⟩,by dsimp only;rw[cr.vars];exact h.vars,trivial,by dsimp only;rw[cr.room];exact h.room,h.next,h.hs,h.chg.lower (ChgX.of_chg ch.any NoB) (fun _ e=>e.elim)⟩;exact⟨_,rfl,o',{ m with d:=d' },V,g0,rfl,rfl,ch.any,.inr (g0.few cr.dead)⟩
theorem Sy {base:Nat}(h:OwnI w base v zs):zs.length<=9223372036854775807:=by
 rcases h.2 with ⟨_,h0⟩|⟨g,cap,cur,_,_,_,h1,h2,_⟩
 . omega
 . unfold maxLen at h2;omega
theorem An.chg {a:Option Addr}(h:An w a zs)(hc:Chg R o o' w w')(hn:∀ x,a=some x->o x.block=none):An w' a zs :=
 ⟨h.len,fun k hk=>by
  obtain⟨b,off,rfl,hc1⟩:=h.cells k hk;exact⟨b,off,rfl,hc.cell (p:=⟨b,off+k,none⟩) hc1 (hn ⟨b,off,none⟩ rfl)⟩⟩
theorem LQ (hn:nx<=549755813888)(ev:Ev):HapG K n (fun _=>True) room w0 mb fs nx ev:=by
 intro o W m V h;obtain⟨P,hP⟩:∃ P:Ending->Wd->Prop,P=fun x w'=>x=.returned (.tuple #[]) /\
  ∃ o' m' V',SatE K n (fun _=>True) room w0 mb fs nx w' o' m' V'/\m'.waits=m.waits/\m'.calls=m.calls/\(m'.d.pool.many<=m.d.pool.many\/m'.d.pool.many<=fs.length*2^n)/\ChgX NoB o o' W w':=⟨_,rfl⟩
 rw[<- hP];obtain⟨W1,g7⟩:=Ex (W.alloc (.cells #[.int .i64 ev.after,.int .i64 ev.kind,.int .i64 ev.level] 105));have gg:Bw W W1:=by rw[g7];exact Af W _
 obtain⟨bx,g0⟩:∃ q,q=W.heap.size:=⟨_,rfl⟩;have gz:Hq (Box o W1 bx (.cells #[.int .i64 ev.after,.int .i64 ev.kind,.int .i64 ev.level] 105 (0,0))):=Hd ⟨by rw[g7,g0];exact WN W _,h.lt.none (by rw[g0];exact WM _)⟩;have h1:=h.below gg
 have HP:Hq (∀ o' w' m' V',HapS n room w0 mb fs nx o W1 m o' w' m' V'->P (.returned (.tuple #[])) w'):=Hd (by
  intro o' w' m' V' hh;rw[hP];exact⟨rfl,o',m',V',hh.sat.full,hh.waits,hh.calls,hh.many,(ChgX.of_below gg o NoB).trans (ChgX.of_chg hh.chg NoB) (fun _ _ e=>e)⟩)
 obtain⟨s,hs⟩:=h1.is;obtain⟨c0,c1,c2,c3,c4,c5,f0⟩:=cells6 hs.blk;have gy:=Hd (wclear h1 hs (fun _ _ _ _ _=>False));have H1:=Hd h1;obtain⟨kd,gq⟩:∃ z,z=ev.kind:=⟨_,rfl⟩;obtain⟨lv,go⟩:∃ z,z=ev.level:=⟨_,rfl⟩;obtain⟨af,gu⟩:∃ z,z=ev.after:=⟨_,rfl⟩;have HN:=Hd hn;unfold evA;rw[<- gq,<- go,<- gu] at gz g7 ⊢;have HW:=Hd g7;have HX:=Hd g0;clear h h1 hs hP gg g0 gq go gu hn g7
 go_enter func173,ntmps173
 go_upto_region 1 with fail;rw[<- HW.o,<- HX.o];go_wp2_with fail;refine gy.o.mono ?_;rintro x w1 ⟨rfl,g1,g2,g3⟩;have g4:=Hd (H1.o.cleared g1 g2 g3);have HB2:=Hd (gz.o.chg g2);have HG:=Hd g1;have gj:Hq (Chg (fun _=>True) o o W1 w1):=Hd g2.any;have b1:w1.cell? ⟨bx,1,none⟩=some (.int .i64 kd):=HB2.o.cell 1;have b2:w1.cell? ⟨bx,2,none⟩=some (.int .i64 lv):=HB2.o.cell 2;clear c0 c1 c2 c3 c4 c5 f0 gy g1 g2 g3;obtain⟨c0,c1,c2,c3,c4,c5,f0⟩:=cells6 HG.o.blk
 by_cases k1:kd=1
 . subst k1;have HC:=Hd (Sx g4.o HG.o);go_wp2_with fail;refine HC.o.mono ?_;rintro x w2 ⟨q,rfl,o',m',V',hh⟩;have HF:=Hd (HP.o o' w2 m' V' ⟨hh.sat,hh.waits,hh.calls,gj.o.trans hh.chg,hh.many⟩);clear hh;go_wp2_with fail;refine Yr (Ye rfl _ _ _) rfl ?_;exact HF.o
 ·have e1:(kd == 1)=false:=by simp[k1]
  by_cases k2:kd=2
  ·subst k2;clear k1 e1;have HC:=Hd (LP (g4.o.below (Ap w1 1)) (HG.o.below g4.o.lt (Ap w1 1)) HN.o lv);go_upto_region 13 with fail;refine AR (fun W:Wd=>W=w1.drew) true 6 [(0,false),(1,false),(2,false),(3,false),(4,false),(5,false),(6,true)] (by kernel_rfl) (by kernel_rfl) rfl ?_;simp only[planned,AQ]
   iterate 6
    refine A3 rfl ?_;apply Exists.intro;refine⟨fun w' hw=>?_,?_⟩
    . subst hw;go_simp;rfl
    simp only[Ac]
   refine E2 rfl (by go_simp) (HC.o.mono (R':=fun e w'=>∃ v,e=.returned v/\∃ o' m' V',HapS n room w0 mb fs nx o w1.drew m o' w' m' V') (fun e w' h=>by obtain⟨q,e1,h2⟩:=h;exact⟨_,e1,h2⟩)) ?_;rintro v w2 ⟨o',m',V',hh⟩;simp only[Ac];refine Cj ?_;have HF:=Hd (HP.o o' w2 m' V' ⟨hh.sat,hh.waits,hh.calls,gj.o.trans ((Chg.of_below (Ap w1 1) _ _).trans hh.chg),hh.many⟩);clear hh;go_wp2_with fail;refine Yr (Ye rfl _ _ _) rfl ?_;exact HF.o
  ·have e2:(kd == 2)=false:=by simp[k2]
   clear k1 k2;have gb:m.d.vars.length<=64:=g4.o.ok.store.small;have HO:=Hd (La HG.o.store g4.o.lt gb);go_wp2_with fail;refine HO.o.mono ?_;rintro x w2 ⟨v,rfl,g8,gt⟩;obtain⟨zs,ga⟩:=Ex (m.d.vars.map Int.ofNat);have gA:zs.length<=64:=by rw[ga,Xy];exact gb
   rw[<- ga] at g8;obtain⟨a,c,rfl,ha,gn⟩:=g8.sliceIs (by omega);have HT:=Hd (Sw a c zs w2 ha (by omega));have gD:Hq (SliceIs w2 (.slice a zs.length c) zs):=Hd ⟨a,c,rfl,ha,gn⟩;have g9:=Hd gt;have gI:=Hd gA;clear g8 gt ga ha gn gb c0 c1 c2 c3 c4 c5 f0 b1 b2 HO;go_wp2_with fail;refine HT.o.mono ?_;rintro x w3 ⟨vt,rfl,gB,gf⟩;obtain⟨at',ct',gl,q1,q2⟩:=gB;rw[List.length_reverse] at gl;subst gl;have gv:=Hd (Su (.slice a zs.length c) (.slice at' zs.length ct') zs zs.reverse w3 (gD.o.below gf) ⟨at',ct',by rw[List.length_reverse],q1,q2⟩ (by omega) (by simp;omega));have gk:=Hd gf;clear gf HT q1 q2;go_wp2_with fail;refine gv.o.mono ?_;rintro x w4 ⟨vr,rfl,g6,gs⟩;obtain⟨rs,gm⟩:=Ex (C7 zs zs.reverse);obtain⟨er,gr⟩:∃ z,z=C8 zs zs.reverse:=⟨_,rfl⟩;rw[<- gm] at g6;rw[<- gr];have g0:Bw w1 w4:=g9.o.trans ((gk.o.trans (gs.mono gk.o.size)).mono g9.o.size);have gd:=g6.lt;have gC:rs.length<=9223372036854775807:=Sy g6;obtain⟨ar,cr,rfl,hi,_⟩:=g6.sliceIs gC
   have gi:Hq (∃ o' m' V',HapS n room w0 mb fs nx o w1 m o' w4 m' V'/\An w4 ar rs/\(∀ x,ar=some x->o' x.block=none)):=Hd ⟨o,m,V,(⟨g4.o.below g0,rfl,rfl,Chg.of_below g0 _ _,.inl (WM _)⟩:HapS n room w0 mb fs nx o w1 m o w4 m V),hi,fun x hx=>by
    subst hx;refine g4.o.lt.none ?_;have h1:=(gd _ rfl).1;have h2:=g9.o.size;have h3:=gk.o.size;omega⟩
   clear gr gm g6 gs g0 gd hi gv;go_wp2_with fail
   go_loopw [30] (fun s30 wr=>∃ j:Nat,j<=rs.length/\s30=.int .i64 j/\Hq (∃ o' m' V',HapS n room w0 mb fs nx o w1 m o' wr m' V'/\An wr ar rs/\(∀ x,ar=some x->o' x.block=none))) (fun s30 _=>rs.length-(intOf s30).toNat)
   case atStart=>exact⟨0,WX _,rfl,gi⟩
   case round =>
    obtain⟨j,hj,rfl,HH⟩:=hrel;obtain⟨oj,mj,Vj,hh,hi,gc⟩:=HH.o
    by_cases gp:j<rs.length
    ·obtain⟨b,off,rfl,g5⟩:=hi.cells j gp;obtain⟨s',hs'⟩:=hh.sat.is;obtain⟨c0,c1,c2,c3,c4,c5,f0⟩:=cells6 hs'.blk;have gH:(j:Int)<rs.length:=by omega
     obtain⟨z,hz⟩:=Ex (at0 rs j);rw[<- hz] at g5;have HC:=Hd (LP hh.sat hs' HN.o z);have gF:=Hd hh;have gE:=Hd hi;have gw:=Hd gc;have ge:b<wr.heap.size:=Ag g5;have gG:=Hd ge;have gx:=Hd gp;clear hh hi gc hs' HH gi hz ge;go_wp2_with fail;refine HC.o.mono ?_;rintro x w5 ⟨q,rfl,o5,m5,V5,h5⟩;have gh:=Hd (And.intro (gF.o.trans h5) (And.intro (gE.o.chg h5.chg gw.o) (fun x (hx:some _=some x)=>h5.chg.alien' (by cases hx;exact gG.o) (gw.o x hx))));clear h5 c0 c1 c2 c3 c4 c5 f0 g5;go_wp2_with fail;go_roundw
     case rel=>exact⟨j+1,Y8 gx.o,by go_num,Hd ⟨_,_,_,gh.o.1,gh.o.2.1,gh.o.2.2⟩⟩
     case measure =>
      have:=gx.o;simp[intOf];omega
    ·obtain rfl:j=rs.length:=by omega
     have HF:=Hd (HP.o oj wr mj Vj ⟨hh.sat,hh.waits,hh.calls,gj.o.trans hh.chg,hh.many⟩);clear hh hi gc HH gi;go_wp2_with fail;refine Yr (Ye rfl _ _ _) rfl ?_;exact HF.o
end
section
variable {o:Own}
structure NewH (K:Law)(n:Nat)(Od:List Nat->Prop)(room:Nat)(w0:Wd)(mb:Nat)(fs:List (Int×BF))(nx:Int)(o:Own)(w:Wd)(m:ManD)(V:Nat->BF)(F:BF)(o':Own)(w':Wd)(m':ManD):Prop where
 sat:SatE K n Od room w0 mb (fs++[(nx,F)]) (nx+1) w' o' m' V
 waits:m'.waits=m.waits
 calls:m'.calls=m.calls
 nodes:Aa m'.d=Aa m.d
 vars:m'.d.vars=m.d.vars
 many:m'.d.pool.many=m.d.pool.many
 chg:Chg (fun _=>True) o o' w w'
theorem LR (hK:A5 K)(h:SatE K n Od room w0 mb fs nx w o m V)(hn:nx<549755813888){k:Int}(hk:(k,F)∈fs) :
 Calls prog 62 #[Pt mb,.int .i64 k] w fun x w'=>x=.returned (.tuple #[.int .i64 nx,.int .i64 0])/\∃ o' m',NewH K n Od room w0 mb fs nx o w m V F o' w' m':=by
 obtain⟨f,hf,rfl⟩:=h.find hk;obtain⟨s,hs⟩:=h.is;obtain⟨c0,c1,c2,c3,c4,c5,f0⟩:=cells6 hs.blk;have hl:=E0 hs h.ok.handles.nodup hf;have hnx:=h.next
 have HG:=Hd (IA hK h.is h.lt h.ok f (h.ok.handles.ok _ hf) (by rw[hnx];omega));have H:=Hd h;rw[hnx] at HG;clear hs h hf hk hnx
 delta Pt;go_enter func62,ntmps62
 go_wp2_with fail;refine HG.o.mono ?_;rintro x w1 ⟨rfl,o',m',hg⟩;have HQ:Hq (NewH K n Od room w0 mb fs nx o w m V (ef V f) o' w1 m'):=Hd ⟨H.o.gave hg,hg.waits,hg.calls,hg.nodes,hg.vars,hg.many,hg.chg⟩;clear hg;go_wp2_with fail
 go_ret2
 exact⟨rfl,_,_,HQ.o⟩
theorem Sz (h:okE N e):okE N (enot e):=by
 unfold okE at h ⊢;rw[Dr];exact h
theorem S0 (hK:A5 K)(h:SatE K n Od room w0 mb fs nx w o m V)(hn:nx<549755813888){k:Int}(hk:(k,F)∈fs) :
 Calls prog 16 #[Pt mb,.int .i64 k] w fun x w'=>x=.returned (.tuple #[.int .i64 nx,.int .i64 0])/\∃ o' m',NewH K n Od room w0 mb fs nx o w m V (fun ρ => !F ρ) o' w' m':=by
 obtain⟨f,hf,rfl⟩:=h.find hk;obtain⟨s,hs⟩:=h.is;obtain⟨c0,c1,c2,c3,c4,c5,f0⟩:=cells6 hs.blk;have hl:=E0 hs h.ok.handles.nodup hf;have hnx:=h.next
 have g0:=h.ok.handles.ok _ hf;have g1:f<eMax:=by
  obtain⟨s2,h2⟩:=hs.store;have:=h2.edge_lt g0;unfold eMax;omega
 have HG:=Hd (IA hK h.is h.lt h.ok (enot f) (Sz g0) (by rw[hnx];omega));have g2:=Hd (FB f w g1);have H:=Hd h;rw[hnx] at HG;clear hs h hf hk hnx g0 g1
 delta Pt;go_enter func16,ntmps16
 go_wp2_with fail;refine g2.o.mono ?_;rintro x w1 ⟨rfl,rfl⟩;go_wp2_with fail;refine HG.o.mono ?_;rintro x w1 ⟨rfl,o',m',hg⟩
 have HQ:Hq (NewH K n Od room w0 mb fs nx o w m V (fun ρ => !ef V f ρ) o' w1 m'):=Hd (by
  have e:(fun ρ => !ef V f ρ)=ef V (enot f):=by funext ρ;rw[Ds]
  rw[e];exact⟨H.o.gave hg,hg.waits,hg.calls,hg.nodes,hg.vars,hg.many,hg.chg⟩)
 clear hg;go_wp2_with fail
 go_ret2
 exact⟨rfl,_,_,HQ.o⟩
theorem SatE.nofind (h:SatE K n Od room w0 mb fs nx w o m V){k:Int}(hk:∀ p∈fs,p.1≠k):∀ f,(k,f)∉m.hs:=by
 intro f hf;refine hk (k,ef V f) ?_ rfl;rw[<- h.hs];exact WW.2 ⟨(k,f),hf,rfl⟩
theorem LS (h:SatE K n Od room w0 mb fs nx w o m V){k:Int}(hk:(k,F)∈fs) :
 Calls prog 29 #[Pt mb,.int .i64 k] w (Sm (.bool true) w):=by
 obtain⟨f,hf,rfl⟩:=h.find hk;obtain⟨s,hs⟩:=h.is;obtain⟨c0,c1,c2,c3,c4,c5,f0⟩:=cells6 hs.blk;have hl:=E0 hs h.ok.handles.nodup hf;clear hs h hf hk
 delta Pt;go_enter func29,ntmps29
 go_wp2_with fail;go_ret;exact⟨rfl,rfl⟩
theorem S1 (h:SatE K n Od room w0 mb fs nx w o m V){k:Int}(hk:∀ p∈fs,p.1≠k) :
 Calls prog 29 #[Pt mb,.int .i64 k] w (Sm (.bool false) w):=by
 have g0:=h.nofind hk;obtain⟨s,hs⟩:=h.is;obtain⟨c0,c1,c2,c3,c4,c5,f0⟩:=cells6 hs.blk;have hl:=KZ hs g0;clear hs h g0 hk
 delta Pt;go_enter func29,ntmps29
 go_wp2_with fail;go_ret;exact⟨rfl,rfl⟩
end
def delK {α:Type}(k:Int)(l:List (Int×α)):List (Int×α):=l.filter fun p=>decide (p.1≠k)
theorem Je {α:Type}{k:Int}{l:List (Int×α)}(h:∀ p∈l,p.1≠k):delK k l=l:=by
 unfold delK;rw[List.filter_eq_self];intro p hp;simp[h p hp]
theorem Jf {α:Type}{x:Int×α}{l:List (Int×α)}(h:((x::l).map Prod.fst).Nodup):∀ p∈l,p.1≠x.1:=by
 intro p hp e;rw[XJ,Yp] at h;exact h.1 (WW.2 ⟨p,hp,e⟩)
theorem LU {α:Type}{x:Int×α}{l:List (Int×α)}(h:((x::l).map Prod.fst).Nodup):delK x.1 (x::l)=l:=by
 have h1:=Je (Jf h);unfold delK at h1 ⊢;rw[YF (by simp),h1]
abbrev Zg:=@List.filter_cons_of_pos
theorem LV {α:Type}{k:Int}{x:Int×α}{l:List (Int×α)}(h:x.1≠k):delK k (x::l)=x::delK k l:=by
 unfold delK;rw[Zg (by simp[h])]
theorem LW {α:Type}{k:Int}:∀ (l:List (Int×α)) (j:Nat) (hj:j<l.length),(l.map Prod.fst).Nodup->l[j].1=k->l.eraseIdx j=delK k l
 | x::l,0,_,hn,hk=>by
   have e:x.1=k:=hk;subst e;rw[LU hn];rfl
 | x::l,j+1,hj,hn,hk=>by
   have hj':j<l.length:=by simpa using hj
   have g0:l[j].1=k:=by simpa using hk
   have hx:x.1≠k:=by
    intro e;exact Jf hn l[j] (Xp hj') (g0.trans e.symm)
   have g1:(l.map Prod.fst).Nodup:=by rw[XJ,Yp] at hn;exact hn.2
   rw[LV hx,List.eraseIdx_cons_succ,LW l j hj' g1 g0]
theorem LX {α β:Type}(k:Int)(l:List (Int×α))(g:Int×α->Int×β)(hg:∀ p,(g p).1=p.1):(delK k l).map g=delK k (l.map g):=by
 unfold delK;rw[List.filter_map];congr 1;refine List.filter_congr fun p _=>?_
 simp[hg]
theorem S2 {k:Int}{l:List (Int×Value)}(hn:(l.map Prod.fst).Nodup)(hk:(k,v)∈l):delL k l=delK k l:=by
 unfold delL;cases e:A8 k l 0 with
 | none =>
   have h1:=Dx hn hk;unfold getL at h1;rw[e] at h1;cases h1
 | some p =>
   obtain⟨j,u⟩:=p;have h2:=Dg e;obtain⟨q,h3,h4⟩:=h2;have hq:j=q:=by omega
   subst hq;obtain⟨h5,h6⟩:=Xk.1 h4;exact LW l j h5 hn (by rw[h6])
theorem Gm {α:Type}{k:Int}{l:List (Int×α)}{p:Int×α}:p∈delK k l↔p∈l/\p.1≠k:=by
 unfold delK;rw[XT];simp
theorem LY {k:Int}{f:Nat}(h1:1<k):∀ (hs:List (Int×Nat)),(hs.map Prod.fst).Nodup->(k,f)∈hs->∀ i,AK hs i=AK (delK k hs) i+(if f/2=i then 1 else 0)
 | [],_,h,_=>by cases h
 | x::l,hn,hm,i=>by
   have hn':(l.map Prod.fst).Nodup:=by rw[XJ,Yp] at hn;exact hn.2
   by_cases e:x.1=k
   ·have hx:x=(k,f):=by
     rcases XI.1 hm with h|h
     . exact h.symm
     . exact((Jf hn _ h) e.symm).elim
    subst hx;rw[LU hn];unfold AK
    by_cases e2:f/2=i
    . rw[Zg (by simp[h1,e2]),Xm,WR e2]
    . rw[YF (by simp[e2]),WO e2];rfl
   ·have g0:(k,f)∈l:=by
     rcases XI.1 hm with h|h
     . rw[<- h] at e;exact(e rfl).elim
     . exact h
    have ih:=LY h1 l hn' g0 i;rw[LV e];unfold AK at ih ⊢
    by_cases e3:(decide (1<x.1)&&x.2/2 == i)=true
    . rw[Zg (p:=fun p:Int×Nat=>decide (1<p.1)&&p.2/2 == i) e3,Zg (p:=fun p:Int×Nat=>decide (1<p.1)&&p.2/2 == i) e3,Xm,Xm];omega
    . rw[YF (p:=fun p:Int×Nat=>decide (1<p.1)&&p.2/2 == i) e3,YF (p:=fun p:Int×Nat=>decide (1<p.1)&&p.2/2 == i) e3];exact ih
theorem S3 {k:Int}(h:Ca m)(r:D3 m.d d' f (-1))(hk:(k,f)∈m.hs)(h1:1<k)(h0:Aa m.d 0=none):Ca { m with d:=d',hs:=delK k m.hs }:=by
 have g1:∀ {p:Int×Nat},p∈delK k m.hs->p∈m.hs:=fun hp=>(Gm.1 hp).1
 refine⟨?_,Gm.2 ⟨h.zero,by dsimp only;omega⟩,Gm.2 ⟨h.one,by dsimp only;omega⟩,fun p hp=>h.lt p (g1 hp),h.next,fun p hp=>?_,?_,fun i b hb=>?_⟩
 . exact h.nodup.sublist ((List.filter_sublist).map _)
 ·show okE (Aa d') p.2
  rw[r.nodes];exact h.ok p (g1 hp)
 ·have h2:(delK k m.hs).length<=m.hs.length:=XG _ _;have h3:=h.len
  show ((delK k m.hs).length:Int)<=m.next
  omega
 ·have g0:Aa m.d i=some b:=by
   have:Aa d' i=some b:=hb;rw[r.nodes] at this;exact this
  have hi:i≠0:=by rintro rfl;rw[h0] at g0;cases g0
  show Ak d' i=(AK (delK k m.hs) i:Int)
  rw[r.ext i hi,h.refs i b g0,LY h1 m.hs h.nodup hk i];unfold toE;split<;>(simp;try omega)
section
variable {o:Own}
theorem S4 (h:Ay o w sb m.d)(hlt:Ab o w)(hk:Ew m V){k:Int}(hf:(k,f)∈m.hs)(h1:1<k)(hn:m.next<549755813888) :
 Calls prog 123 #[Pt sb,.int .i64 f] w fun x w'=>x=.returned (.int .i64 0)/\∃ d',Ay o w' sb d'/\Ab o w'/\D3 m.d d' f (-1)/\Chg Al o o w w':=by
 have g0:∀ y b,Aa m.d y=some b->Ak m.d y<1099511627776:=fun y b _=>by have:=LF hk.handles y;omega
 have g1:=hk.handles.ok _ hf;obtain⟨s,h⟩:=h;have g2:=h.edge_lt g1;rcases g1 with h0|⟨b,hb⟩
 . refine(PM h hlt hk.store.live f (by unfold eMax;omega) h0).mono ?_;rintro e w' ⟨d',h1,h2,h3,h4,h5⟩;exact⟨h1,d',⟨s,h2⟩,h3,h4,h5⟩
 ·have g4:=h.pool.top;have g3:=h.pool.room;refine(PN h hlt hk.store.live (KX hk.store) f (b:=b) hb g0 ?_ (fun y c hc=>?_)).mono ?_
  . have h2:=hk.handles.refs (enode f) b hb;have h3:0<AK m.hs (f/2):=LD hf h1;have h4:Ak m.d (enode f)=(AK m.hs (f/2):Int):=h2;omega
  . have h1:=hk.store.live.cnt.le hc;have h2:=g0 y c hc;omega
  . rintro e w' ⟨d',h1,h2,h3,h4,h5⟩;exact⟨h1,d',⟨s,h2⟩,h3,h4,h5⟩
end
def BK {α:Type}(l:List (Int×α))(ks:List Int):List (Int×α):=ks.foldl (fun l k=>if 1<k then delK k l else l) l
theorem LZ {α:Type}{l:List (Int×α)}(hj:j<ks.length):BK l (ks.take (j+1))=if 1<at0 ks j then delK (at0 ks j) (BK l (ks.take j)) else BK l (ks.take j):=by
 unfold BK;rw[WZ hj,YQ,AI hj];rfl
section
variable {o:Own}
structure C2 (K:Law)(n:Nat)(Od:List Nat->Prop)(room:Nat)(w0:Wd)(mb:Nat)(fs:List (Int×BF))(nx:Int)(o:Own)(w:Wd)(m:ManD)(V:Nat->BF)(o':Own)(w':Wd)(m':ManD):Prop where
 sat:SatE K n Od room w0 mb fs nx w' o' m' V
 waits:m'.waits=m.waits
 calls:m'.calls=m.calls
 nodes:Aa m'.d=Aa m.d
 many:m'.d.pool.many=m.d.pool.many
 chg:Chg (fun _=>True) o o' w w'
theorem C2.trans {fs' fs'':List (Int×BF)}{o'':Own}{w'':Wd}{m'':ManD}(h:C2 K n Od room w0 mb fs' nx o w m V o' w' m')(h':C2 K n Od room w0 mb fs'' nx o' w' m' V o'' w'' m''):C2 K n Od room w0 mb fs'' nx o w m V o'' w'' m'' :=
 ⟨h'.sat,h'.waits.trans h.waits,h'.calls.trans h.calls,h'.nodes.trans h.nodes,h'.many.trans h.many,h.chg.trans h'.chg⟩
theorem S5 (hK:A5 K)(h:SatE K n Od room w0 mb fs nx w o m V){k:Int}(hf:(k,f)∈m.hs)(h1:1<k){s:ManW}(hs:A2 (K m.d V) o w mb m s)(hst:Ay o w1 s.sb d')(hl1:Ab o w1)(hr:D3 m.d d' f (-1))(hc1:Chg Al o o w w1) :
 A2 (K m.d V) o w1 mb { m with d:=d' } s/\∃ w2,(Builtin.delete_ #[114,3] 0 #[.map (some s.hb),.int .i64 k]).run prog w1=.ok (.tuple #[]) w2/\C2 K n Od room w0 mb (delK k fs) nx o w m V o w2 { m with d:=d',hs:=delK k m.hs }:=by
 have g0:=hs.setStore h.lt hst hc1;refine⟨g0,?_⟩;obtain⟨w2,g3,g5,g1⟩:=g0.map.delete kI underlying114 k 0;refine⟨w2,g3,?_⟩;have he:delL k (encH m.hs)=encH (delK k m.hs):=by
  rw[S2 (Ez h.ok.handles.nodup) (v:=.int .i64 (f:Nat)) (WW.2 ⟨(k,f),hf,rfl⟩)];exact(LX k m.hs (fun p=>(p.1,Value.int .i64 (p.2:Nat))) (fun _=>rfl)).symm
 have g4:Ar w2 s.hb (Value.int .i64) (encH (delK k m.hs)):=by rw[<- he];exact g5
 have g7:=g0.setMap hl1 g4 g1;have g6:Ab o w2:=hl1.mono g1.size;have g2:Chg (fun _=>True) o o w w2:=hc1.any.grown g1 (fun g hg=>by cases hg;exact⟨_,g0.ownh,trivial⟩);refine⟨⟨⟨s,g7.mono fun op a b c r q=>hK.same _ _ _ _ _ _ _ _ hr.vars hr.level hr.nodes q⟩,g6,⟨hr.ok h.ok.store,S3 h.ok.handles hr hf h1 h.ok.store.dag.none0⟩,?_,?_,?_,h.next,?_,h.chg.lower (ChgX.of_chg g2 NoB) (fun _ e=>e.elim)⟩,rfl,rfl,hr.nodes,hr.many,g2⟩
 ·show d'.vars.length=n
  rw[hr.vars];exact h.vars
 ·show Od d'.vars
  rw[hr.vars];exact h.od
 ·show d'.pool.room=room
  rw[hr.room];exact h.room
 ·show (delK k m.hs).map (fun p=>(p.1,ef V p.2))=delK k fs
  rw[LX k m.hs (fun p=>(p.1,ef V p.2)) (fun _=>rfl),h.hs]
theorem S6 (hK:A5 K)(h:SatE K n Od room w0 mb fs nx w o m V)(hn:nx<549755813888){a:Option Addr}(hks:An w a ks)(hno:∀ x,a=some x->o x.block=none)
 (hin:∀ j,j<ks.length->∃ F,(at0 ks j,F)∈BK fs (ks.take j)) :
 Calls prog 65 #[Pt mb,.slice a ks.length c] w fun x w'=>x=.returned (.int .i64 0)/\∃ o' m',C2 K n Od room w0 mb (BK fs ks) nx o w m V o' w' m':=by
 have gj:=hks.len;have g5:Hq (∃ o' m',C2 K n Od room w0 mb (BK fs (ks.take 0)) nx o w m V o' w m'/\An w a ks/\(∀ x,a=some x->o' x.block=none)):=Hd ⟨o,m,⟨h,rfl,rfl,rfl,rfl,Chg.refl _ _ _⟩,hks,hno⟩;have gg:=Hd hin;have HN:=Hd hn;have gf:=Hd hK;clear h hn hks hno hin hK
 delta Pt;go_enter func65,ntmps65
 go_wp2_with fail
 go_loopw [13] (fun s13 wr=>∃ j:Nat,j<=ks.length/\s13=.int .i64 j/\Hq (∃ o' m',C2 K n Od room w0 mb (BK fs (ks.take j)) nx o w m V o' wr m'/\An wr a ks/\(∀ x,a=some x->o' x.block=none))) (fun s13 _=>ks.length-(intOf s13).toNat)
 case atStart=>exact⟨0,WX _,rfl,g5⟩
 case round =>
  obtain⟨j,hj,rfl,HH⟩:=hrel;obtain⟨oj,mj,hh,hi,hno⟩:=HH.o
  by_cases g6:j<ks.length
  ·obtain⟨b,off,rfl,g3⟩:=hi.cells j g6;obtain⟨s,hs⟩:=hh.sat.is;obtain⟨c0,c1,c2,c3,c4,c5,f0⟩:=cells6 hs.blk;have gk:(j:Int)<ks.length:=by omega
   obtain⟨z,hz⟩:=Ex (at0 ks j);obtain⟨F,hF⟩:=gg.o j g6;rw[<- hz] at hF g3;obtain⟨f,hf,gb⟩:=hh.sat.find hF;have hl:=E0 hs hh.sat.ok.handles.nodup hf;have g8:=Hd hh;have ge:=Hd hi;have g7:=Hd hno;have gh:Hq (b<wr.heap.size):=Hd (Ag g3);have g2:=Hd g6;have HZ:=Hd hz;have HS:=Hd hs;have HF:=Hd hf
   by_cases h1:z>1
   ·have HD:=Hd (S4 hs.store hh.sat.lt hh.sat.ok hf h1 (by rw[hh.sat.next];exact HN.o));have H1:=Hd h1;clear hh hi hno hs HH g5 hz hF hf gb;go_wp2_with fail;refine HD.o.mono ?_;rintro x w1 ⟨rfl,d',g9,ga,hr,gc⟩;obtain⟨gd,w2,gi,g4⟩:=S5 gf.o g8.o.sat HF.o H1.o HS.o g9 ga hr gc;obtain⟨e0,e1,e2,e3,e4,e5,g0⟩:=cells6 gd.blk
    have g1:Hq (C2 K n Od room w0 mb (BK fs (ks.take (j+1))) nx o w m V oj w2 { mj with d:=d',hs:=delK z mj.hs }/\An w2 (some ⟨b,off,none⟩) ks/\(∀ x,some (⟨b,off,none⟩:Addr)=some x->oj x.block=none)):=Hd ⟨by
     rw[LZ g2.o,<- HZ.o,WR H1.o];exact g8.o.trans g4,ge.o.chg g4.chg g7.o,fun x hx=>g4.chg.alien' (by cases hx;exact gh.o) (g7.o x hx)⟩
    clear gd g9 ga hr gc g4 c0 c1 c2 c3 c4 c5 f0 g3 hl;go_wp2_with fail;go_roundw
    case rel=>exact⟨j+1,Y8 g2.o,by go_num,Hd ⟨_,_,g1.o.1,g1.o.2.1,g1.o.2.2⟩⟩
    case measure =>
     have:=g2.o;simp[intOf];omega
   ·have g1:Hq (C2 K n Od room w0 mb (BK fs (ks.take (j+1))) nx o w m V oj wr mj/\An wr (some ⟨b,off,none⟩) ks/\(∀ x,some (⟨b,off,none⟩:Addr)=some x->oj x.block=none)):=Hd ⟨by
     rw[LZ g2.o,<- HZ.o,WO h1];exact g8.o,ge.o,g7.o⟩
    clear hh hi hno hs HH g5 hz hF hf gb;go_wp2_with fail;go_roundw
    case rel=>exact⟨j+1,Y8 g2.o,by go_num,Hd ⟨_,_,g1.o.1,g1.o.2.1,g1.o.2.2⟩⟩
    case measure =>
     have:=g2.o;simp[intOf];omega
  ·obtain rfl:j=ks.length:=by omega
   have HF:Hq (∃ o' m',C2 K n Od room w0 mb (BK fs ks) nx o w m V o' wr m'):=Hd ⟨oj,mj,by rw[Xx] at hh;exact hh⟩;clear hh hi hno HH g5;go_wp2_with fail;go_ret;exact⟨rfl,HF.o⟩
end
section
variable {o:Own}
structure Swapped (K:Law)(n room:Nat)(w0:Wd)(mb:Nat)(fs:List (Int×BF))(nx:Int)(k:Nat)(o:Own)(w:Wd)(m:ManD)(o':Own)(w':Wd)(m':ManD)(V':Nat->BF):Prop where
 sat:SatE K n (fun l=>l=(AY m.d k).vars) room w0 mb fs nx w' o' m' V'
 waits:m'.waits=m.waits
 calls:m'.calls=m.calls
 dead:m'.d.dead=0
 chg:Chg (fun _=>True) o o' w w'
theorem S7 (h:SatE K n Od room w0 mb fs nx w o m V)(hk1:k+1<n)(hn:nx<=549755813888)(hr:3*(fs.length*2^n)<=room) :
 Calls prog 129 #[Pt mb,.int .i64 k] w fun e w'=>e=.returned (.int .i64 0)/\∃ o' m' V',Swapped K n room w0 mb fs nx k o w m o' w' m' V':=by
 refine(RZ h hk1 hn).mono ?_;rintro e w' ⟨o',m',V',hm⟩;obtain⟨d0,cr,⟨rfl,e1,e2,g0⟩|⟨rfl,so⟩⟩:=hm.way
 . exfalso;have h1:=hm.sat.few (by rw[e1];exact cr.dead);have h2:=hm.sat.room;rw[e1] at h1 h2;omega
 . refine⟨rfl,o',m',V',⟨hm.sat.withOd ?_,hm.waits,hm.calls,so.dead,hm.chg⟩⟩;rw[so.vars];unfold AY;dsimp only;rw[cr.vars]
end
theorem Ma {α:Type}{p:Int×α}:∀ {ks:List Int} {l:List (Int×α)},p∈l->p.1∉ks->p∈BK l ks
 | [],l,h,_=>h
 | k::ks,l,h,hn=>by
   show p∈BK (if 1<k then delK k l else l) ks
   simp only[XI,not_or] at hn;refine Ma ?_ hn.2;split
   . exact Gm.2 ⟨h,hn.1⟩
   . exact h
theorem S8 {α:Type}{l r:List (Int×α)}{p:Int×α}(h:((l++p::r).map Prod.fst).Nodup):delK p.1 (l++p::r)=l++r:=by
 rw[Xl,XJ,X5] at h;obtain⟨h1,h2,h3⟩:=h;have hl:∀ q∈l,q.1≠p.1:=fun q hq e=>h3 q.1 (WW.2 ⟨q,hq,rfl⟩) p.1 (Xr ..) e
 have hr:∀ q∈r,q.1≠p.1:=fun q hq e=>(Yp.1 h2).1 (WW.2 ⟨q,hq,e⟩)
 have e1:delK p.1 (l++p::r)=delK p.1 l++delK p.1 r:=by
  unfold delK;rw[XO,Zu];simp
 rw[e1,Je hl,Je hr]
abbrev XB:=@List.mem_cons_of_mem
theorem Mb {α:Type}:∀ (hs l r:List (Int×α)),((l++(hs++r)).map Prod.fst).Nodup->(∀ p∈hs,1<p.1)->BK (l++(hs++r)) (hs.map Prod.fst)=l++r
 | [],l,r,_,_=>rfl
 | p::hs,l,r,hn,h1=>by
   show BK (if 1<p.1 then delK p.1 (l++(p::(hs++r))) else l++(p::(hs++r))) (hs.map Prod.fst)=_
   have hn':((l++p::(hs++r)).map Prod.fst).Nodup:=hn;rw[WR (h1 p (Xr ..)),S8 hn'];refine Mb hs l r ?_ (fun q hq=>h1 q (XB _ hq));have:=hn;rw[Xl,X5] at this ⊢;obtain⟨q1,q2,q3⟩:=this;exact⟨q1,(Yp.1 q2).2,fun x hx y hy=>q3 x hx y (XB _ hy)⟩
section
variable {o:Own}
theorem SatE.fst (h:SatE K n Od room w0 mb fs nx w o m V):fs.map Prod.fst=m.hs.map Prod.fst:=by rw[<- h.hs,Y7];rfl
theorem SatE.nodup (h:SatE K n Od room w0 mb fs nx w o m V):(fs.map Prod.fst).Nodup:=by rw[h.fst];exact h.ok.handles.nodup
theorem SatE.range (h:SatE K n Od room w0 mb fs nx w o m V):∀ p∈fs,0<=p.1/\p.1<nx:=by
 intro p hp;rw[<- h.hs] at hp;obtain⟨q,hq,rfl⟩:=WW.1 hp;rw[<- h.next];exact h.ok.handles.lt q hq
structure B2 (fs:List (Int×BF)):Prop where
 zero:(0,fun _=>false)∈fs
 one:(1,fun _=>true)∈fs
theorem B2.app (h:B2 fs)(hs:List (Int×BF)):B2 (fs++hs):=⟨Yb _ h.zero,Yb _ h.one⟩
abbrev YN:=@List.mem_append_right
theorem SatE.gt (h:SatE K n Od room w0 mb (fs++hs) nx w o m V)(hb:B2 fs):∀ p∈hs,1<p.1:=by
 intro p hp;have h1:=(h.range p (YN _ hp)).1;have h2:=h.nodup;rw[Xl,X5] at h2;have h3:=fun k hk=>h2.2.2 k hk p.1 (WW.2 ⟨p,hp,rfl⟩)
 have h4:=h3 0 (WW.2 ⟨_,hb.zero,rfl⟩);have h5:=h3 1 (WW.2 ⟨_,hb.one,rfl⟩);omega
abbrev XX:=@List.getElem_of_mem
theorem Mc (hK:A5 K){r:List (Int×BF)}(h:SatE K n Od room w0 mb (fs++(hs++r)) nx w o m V)(hb:B2 fs)(hn:nx<549755813888){a:Option Addr}(hks:An w a (hs.map Prod.fst))(hno:∀ x,a=some x->o x.block=none) :
 Calls prog 65 #[Pt mb,.slice a hs.length c] w fun x w'=>x=.returned (.int .i64 0)/\∃ o' m',C2 K n Od room w0 mb (fs++r) nx o w m V o' w' m':=by
 have g0:=h.nodup;have g3:=h.gt hb;have e:BK (fs++(hs++r)) (hs.map Prod.fst)=fs++r:=Mb hs fs r g0 (fun p hp=>g3 p (Yb _ hp));have:=S6 hK h hn (c:=c) hks hno fun j hj=>by
  have g1:j<hs.length:=by simpa using hj
  have e1:at0 (hs.map Prod.fst) j=hs[j].1:=by rw[AI hj];simp
  refine⟨hs[j].2,?_⟩;rw[e1];refine Ma (YN _ (Yb _ (Xp g1))) ?_;rw[Xl,X5,Xl,X5] at g0;have hh:=g0.2.1.1;intro hc;obtain⟨i,hi,e2⟩:=XX hc;have g2:i<j:=by simp at hi;omega
  rw[List.getElem_take] at e2;exact(List.pairwise_iff_getElem.1 hh) i j (by simp;omega) hj g2 (by rw[e2];simp)
 rw[e,Xy] at this;exact this
theorem S9 {x:Ending}(hp:D8 K n Od room w0 mb fs nx ws0 lim k F o w x w')(hk:k<=2^n)(hr:(fs.length+1)*2^n<=room) :
 ∃ o' m' V',ChgX NoB o o' w w'/\m'.waits <:+ ws0/\x=.returned (.tuple #[.int .i64 nx,.int .i64 0])/\SatE K n Od room w0 mb (fs++[(nx,F)]) (nx+1) w' o' m' V':=by
 obtain⟨o',m',V',h1,h2,⟨h3,_,h4⟩|⟨_,_,_,m0,⟨W,oo,VV,hs⟩,h5,h6⟩⟩:=hp
 . exact⟨o',m',V',h1,h2,h3,h4⟩
 . exfalso;have:=hs.few h5;rw[XV] at hr;omega
theorem Md {M:Nat}{x:Ending}(hp:D8 K n Od room w0 mb fs nx [] (some M) k F o w x w') :
 ∃ o' m' V',ChgX NoB o o' w w'/\(m'.waits=[]/\m'.d.pool.many<=M+k)/\x=.returned (.tuple #[.int .i64 nx,.int .i64 0])/\SatE K n Od room w0 mb (fs++[(nx,F)]) (nx+1) w' o' m' V':=by
 obtain⟨o',m',V',h1,h2,⟨h3,h5,h4⟩|⟨_,h,_⟩⟩:=hp
 . exact⟨o',m',V',h1,⟨by simpa using h2,h5 M rfl⟩,h3,h4⟩
 . cases h
end
structure AtC (K:Law)(k:Nat)(o:Own)(w:Wd)(mb:Nat)(m:ManD)(V:Nat->BF)(o':Own)(w':Wd)(m':ManD)(V':Nat->BF):Prop where
 st:Step K o w mb m V o' w' m' V'
 waits:m'.waits=m.waits
 many:m'.d.pool.many<=m.d.pool.many+k
def DA (K:Law)(k:Nat)(o:Own)(w:Wd)(mb:Nat)(m:ManD)(V:Nat->BF)(er:Int)(evt:Bool)(ev:Ev)(w':Wd):Prop :=
 ∃ o' m' V',Step K o w mb m V o' w' m' V'/\((er=7/\evt=false/\ev=ev0/\m'.waits=m.waits/\m'.d.pool.many=m'.d.pool.room/\m'.d.pool.many+1<=m.d.pool.many+k)\/(er=0/\evt=true/\m.waits=ev::m'.waits))
def AF (K:Law)(k:Nat)(o:Own)(w:Wd)(mb:Nat)(m:ManD)(V:Nat->BF)(A:Ae->(Nat->BF)->Nat->Prop)(e:Ending)(w':Wd):Prop :=
 (∃ r o' m' V',e=.returned (.int .i64 (r:Nat))/\AtC K k o w mb m V o' w' m' V'/\okE (Aa m'.d) r/\A m'.d V' r)\/(∃ er evt ev,e=Au er evt ev/\DA K k o w mb m V er evt ev w')
section
variable {k1 k2:Nat}{o:Own}{m1 m2:ManD}{V1 V2:Nat->BF}
theorem AtC.refl (h:A9 (K m.d V) o w mb m)(hl:Ab o w)(hk:Ai m.d V):AtC K 0 o w mb m V o w m V:=⟨⟨h,hl,Chg.refl _ _ _,hk,Ext.refl _ _,rfl,rfl⟩,rfl,WM _⟩
theorem AtC.trans (h:AtC K k1 o w mb m V o1 w1 m1 V1)(h':AtC K k2 o1 w1 mb m1 V1 o2 w2 m2 V2):AtC K (k1+k2) o w mb m V o2 w2 m2 V2 :=
 ⟨h.st.trans h'.st,h'.waits.trans h.waits,by have:=h.many;have:=h'.many;omega⟩
theorem AtC.mono (h:AtC K k1 o w mb m V o1 w1 m1 V1)(hk:k1<=k2):AtC K k2 o w mb m V o1 w1 m1 V1:=⟨h.st,h.waits,WU h.many (by omega)⟩
theorem AtC.below (h:AtC K k o w mb m V o1 w1 m1 V1)(hb:Bw w1 w2):AtC K k o w mb m V o1 w2 m1 V1:=⟨h.st.below hb,h.waits,h.many⟩
theorem AtC.vars (h:AtC K k o w mb m V o1 w1 m1 V1)(hv:m.d.vars.length=n):m1.d.vars.length=n:=by rw[h.st.ext.vars];exact hv
theorem DA.after {er:Int}{evt:Bool}(h:AtC K k1 o w mb m V o1 w1 m1 V1)(h':DA K k2 o1 w1 mb m1 V1 er evt ev w2)(hk:k1+k2<=k):DA K k o w mb m V er evt ev w2:=by
 obtain⟨o2,m2,V2,st,⟨a1,a2,a3,a4,a5,a6⟩|⟨a1,a2,a3⟩⟩:=h'
 . have:=h.many;exact⟨o2,m2,V2,h.st.trans st,.inl ⟨a1,a2,a3,a4.trans h.waits,a5,by omega⟩⟩
 . exact⟨o2,m2,V2,h.st.trans st,.inr ⟨a1,a2,by rw[<- h.waits];exact a3⟩⟩
theorem Me (hK:A5 K)(h:A9 (K m.d V) o w mb m)(hlt:Ab o w)(hx:AH o w xb mb)(hk:Ai m.d V)(v lo hi:Nat)(hv:v<m.d.vars.length)(hlo:okE (Aa m.d) lo)(hhi:okE (Aa m.d) hi)
 (hgl:levN m.d v<lvE m.d.vars.length (levN m.d) (Aa m.d) lo) (hgh:levN m.d v<lvE m.d.vars.length (levN m.d) (Aa m.d) hi) :
 Calls prog 117 #[Pt xb,.int .i64 v,.int .i64 lo,.int .i64 hi] w (AF K 1 o w mb m V fun d V' r=>ef V' r=iteF v (ef V hi) (ef V lo)/\levN m.d v<=lvE m.d.vars.length (levN d) (Aa d) r):=by
 refine(I5 hK h hlt hx hk v lo hi hlo hhi).mono ?_;rintro e w' ⟨o',m',V',st,⟨ev,h1,_,_,_,_,rfl⟩|⟨h1,_,_,(⟨er,g0,hd,_,rfl⟩|⟨_,_,r,rfl,h2,h3,h4,h5⟩)⟩⟩
 . exact .inr ⟨0,true,ev,rfl,o',m',V',st,.inr ⟨rfl,rfl,h1⟩⟩
 ·rcases g0 with ⟨_,h⟩|⟨_,_,_,h⟩|⟨rfl,h⟩
  . exact(h ⟨by omega,by omega⟩).elim
  . simp only[Y5] at h;omega
  . exact .inr ⟨7,false,ev0,rfl,o',m',V',st,.inl ⟨rfl,rfl,rfl,h1,by rw[hd];exact h,by rw[hd];omega⟩⟩
 . exact .inl ⟨r,o',m',V',rfl,⟨st,h1,h5⟩,h2,h3,h4⟩
theorem SA (hK:A5 K)(h:A9 (K m.d V) o w mb m)(hlt:Ab o w)(hx:AH o w xb mb)(hk:Ai m.d V)(v:Nat)(hv:v<m.d.vars.length) :
 Calls prog 117 #[Pt xb,.int .i64 v,.int .i64 (1:Nat),.int .i64 (0:Nat)] w (AF K 1 o w mb m V fun _ V' r=>ef V' r=varF v):=by
 have g0:=hk.dag.lt v hv;refine(Me hK h hlt hx hk v 1 0 hv (.inl rfl) (.inl rfl) (by rw[Fc hk rfl];exact g0) (by rw[Fc hk rfl];exact g0)).mono ?_;rintro e w' (⟨r,o',m',V',rfl,h1,h2,h3,_⟩|h)
 ·refine .inl ⟨r,o',m',V',rfl,h1,h2,?_⟩
  show ef V' r=varF v
  rw[h3];funext ρ;simp only[iteF,varF,DS hk.dag.one,DT hk.dag.one];cases ρ v<;>rfl
 . exact .inr h
theorem Mf (hK:A5 K)(h:A9 (K m.d V) o w mb m)(hlt:Ab o w)(hx:AH o w xb mb)(hk:Ai m.d V)(hn:m.d.vars.length=n)(f g e:Nat)(hf:okE (Aa m.d) f)(hg:okE (Aa m.d) g)(he:okE (Aa m.d) e) :
 Calls prog 119 #[Pt xb,.int .i64 f,.int .i64 g,.int .i64 e] w (AF K (2^n-1) o w mb m V fun _ V' r=>ef V' r=AV (ef V f) (ef V g) (ef V e)):=by
 have hp2:0<2^n:=XW (by omega);refine(KT hK n o w xb mb m V f g e h hlt hx hk hf hg he (by omega)).mono ?_;rintro x w' ⟨o',m',V',st,⟨r,rfl,h1,h2,h3⟩|⟨rfl,h2,h3,h4⟩|⟨ev,rfl,h1⟩⟩
 ·refine .inl ⟨r,o',m',V',rfl,⟨st,h2,by omega⟩,h1.okR,?_⟩
  show ef V' r=AV (ef V f) (ef V g) (ef V e)
  funext ρ;rw[h1.val ρ,st.ext.ef hf,st.ext.ef hg,st.ext.ef he];rfl
 . exact .inr ⟨7,false,ev0,rfl,o',m',V',st,.inl ⟨rfl,rfl,rfl,h2,h3,by omega⟩⟩
 . exact .inr ⟨0,true,ev,rfl,o',m',V',st,.inr ⟨rfl,rfl,h1⟩⟩
theorem SB {B:Wd->Prop}(ws0:List Ev)(lim:Option Nat)(hlim:DY ws0 lim k room)(hhap:∀ ev∈ws0,HapG K n Od room w0 mb fs nx ev)
 (hB:∀ W W',B W->(∀ c,C c->W'.heap[c]?=W.heap[c]?)->B W')
 (hop:∀ (o:Own) (W:Wd) (m:ManD) (V:Nat->BF) (xb:Nat),SatE K n Od room w0 mb fs nx W o m V->B W->(∀ k,C k->k<W.heap.size/\o k=none)->AH o W xb mb->¬ C xb->Calls prog gop (#[.pointer (some ⟨xb,0,none⟩)]++lop) W (AF K k o W mb m V fun _ V' r=>ef V' r=F)) :
 OpG K n Od room w0 mb fs nx C B (StL ws0 lim) gop lop (QF ws0 lim k F) (EL (SatX K n Od room w0 mb fs nx) k ws0 lim):=by
 intro o W m V xb g3 hb hC g0 g5 hnx;refine(hop o W m V xb g3 hb hC g5 hnx).mono ?_;have g2:∀ {o':Own} {w':Wd} {m':ManD} {V':Nat->BF},Step K o W mb m V o' w' m' V'->B w':=fun st=>hB _ _ hb fun c hc=>st.chg.alien (hC c hc).1 (hC c hc).2
 rintro e w' (⟨r,o',m',V',rfl,h1,h2,h3⟩|⟨er,evt,ev,rfl,o',m',V',st,⟨rfl,rfl,rfl,a4,a5,a6⟩|⟨rfl,rfl,a3⟩⟩)
 . exact⟨o',m',V',h1.st.toX _,g2 h1.st,.inl ⟨r,rfl,h2,h3,by rw[h1.waits];exact g0.1,fun M e=>by have:=g0.2 M e;have:=h1.many;omega⟩⟩
 . have g4:lim=none:=IP (m':=m') hlim g0.2 (by rw[<- a5];omega) (by rw[st.ext.room];exact g3.room);exact⟨o',m',V',st.toX _,g2 st,.inr (.inl ⟨7,rfl,by omega,a4,⟨by unfold DX;rw[a4];exact g0.1,by subst g4;exact fun M e=>by cases e⟩,g4,rfl,⟨_,_,_,g3⟩,a5,a6,by rw[a4];exact g0.1⟩)⟩
 . have g1:m.waits <:+ ws0:=g0.1;rw[a3] at g1;exact⟨o',m',V',st.toX _,g2 st,.inr (.inr ⟨ev,rfl,a3,fun _ _ _ _ _ e _ _=>⟨by unfold DX;rw[e];exact(List.suffix_cons ev m'.waits).trans g1,IQ hlim g1⟩,hhap ev (g1.subset (Xr ..))⟩)⟩
end
structure Ec (T ST:TypeId)(z:Value)(b:Nat):Prop where
 under:prog.underlying ST=some (.slice T)
 info:(prog.info? T).map (fun i=>(i.zero,i.size,i.bytes))=some (some z,1,b)
 one:z.cells=#[z]
 small:b<=100
theorem Gn:Ec 3 22 (.int .i64 0) 8:=⟨underlying22,by kernel_rfl,rfl,by omega⟩
theorem Ed:Ec 4 54 (.bool false) 1:=⟨underlying54,by kernel_rfl,rfl,by omega⟩
theorem SC:Ec 54 51 (.slice none 0 0) 24:=⟨underlying51,by kernel_rfl,rfl,by omega⟩
def OwnC (T:TypeId)(w:Wd)(base:Nat)(v:Value)(xs:List Value):Prop:=w.ownsRow base T 1 v xs.length xs
section
variable {ST:TypeId}{z:Value}{base:Nat}
theorem OwnC.alloc (h:OwnC T w base v xs)(o:Obj):OwnC T (w.alloc o) base v xs:=World.ownsRow.alloc h o
theorem OwnC.lt (h:OwnC T w base v xs):∀ k,v.ownBlock=some k->base<=k/\k<w.heap.size:=World.ownsRow.lt h
theorem OwnC.same (h:OwnC T w base v xs)(hk:∀ k,v.ownBlock=some k->w'.heap[k]?=w.heap[k]?):OwnC T w' base v xs:=by
 refine⟨h.1,?_⟩;rcases h.2 with hn|⟨g,cap,cur,rfl,hb,g0,rest⟩
 . exact .inl hn
 . refine .inr ⟨g,cap,cur,rfl,hb,?_,rest⟩;rw[hk g rfl];exact g0
theorem OwnC.below (h:OwnC T w base v xs)(hb:Bw w w'):OwnC T w' base v xs:=h.same fun k hk=>hb.block k (h.lt k hk).2
theorem OwnC.shape (h:OwnC T w base v xs)(hp:0<xs.length):∃ g cap,v=.slice (some ⟨g,0,none⟩) xs.length cap/\base<=g/\g<w.heap.size:=by
 rcases h.2 with ⟨_,h0⟩|⟨g,cap,cur,hv,hg,hh,_⟩
 . omega
 . exact⟨g,cap,hv,hg,(WL.1 hh).1⟩
theorem OwnC.slice (h:OwnC T w base v xs):∃ a cap,v=.slice a xs.length cap/\(a=none->cap=0):=by
 rcases h.2 with ⟨hv,h0⟩|⟨g,cap,cur,hv,hg,hh,_⟩
 . exact⟨none,0,by rw[hv,h0],fun _=>rfl⟩
 . exact⟨_,cap,hv,by simp⟩
theorem OwnC.cell {g cap n:Nat}(h:OwnC T w base (.slice (some ⟨g,0,none⟩) n cap) xs)(k:Nat)(hk:k<xs.length):w.cell? ⟨g,k,none⟩=xs[k]?:=by
 have hn:n=xs.length:=by
  rcases h.2 with ⟨hv,_⟩|⟨_,_,_,hv,_⟩
  . cases hv
  . cases hv;rfl
 subst hn;exact World.ownsRow.cellAt h k (by omega)
theorem OwnC.frozen {g cap n:Nat}(h:OwnC T w base (.slice (some ⟨g,0,none⟩) n cap) xs)(k:Nat):w.frozen? ⟨g,k,none⟩=false:=by
 rcases h.2 with ⟨hv,_⟩|⟨_,_,_,hv,_⟩
 . cases hv
 . cases hv;exact World.ownsRow.frozenAt h k
theorem OwnC.stored {g cap n:Nat}(h:OwnC T w base (.slice (some ⟨g,0,none⟩) n cap) xs)(k:Nat)(y:Value):OwnC T (w.setCell ⟨g,k,none⟩ y) base (.slice (some ⟨g,0,none⟩) n cap) (xs.set k y):=by
 rcases h.2 with ⟨hv,_⟩|⟨_,_,_,hv,_⟩
 . cases hv
 . cases hv;have:=(World.ownsRow.stored h k y).1;unfold OwnC;rw[Xi];exact this
theorem OwnC.typed (h:OwnC T w base v xs):∀ k,v.ownBlock=some k->∃ cur,w.heap[k]?=some (.cells cur T (0,0)):=by
 intro k hk;rcases h.2 with ⟨rfl,_⟩|⟨g,cap,cur,rfl,_,hg,_⟩
 . cases hk
 . cases hk;exact⟨cur,hg⟩
theorem E6 (T:TypeId)(w:Wd)(base:Nat)(hb:base<=w.heap.size):OwnC T (w.alloc (.cells #[] T)) base (.slice (some ⟨w.heap.size,0,none⟩) 0 0) [] :=
 World.ownsRow_made w #[] 0 hb (by unfold maxLen;omega) (by simp)
theorem Mg (T:TypeId)(w:Wd)(base:Nat):OwnC T w base (.slice none 0 0) []:=World.ownsRow_nil w base T 1
theorem Ee (E:Ec T ST z b)(wr:Wd){o:Oper}(hgd:o.guard=none)(s x:Operand)
 (ho:o.op=.call { callee:=.builtin .append,args:=#[s,x],argTypes:=#[ST,ST] })
 (base:Nat) (v:Value) (xs:List Value) (y:Value) (hs:a.eval s=v) {N:Nat} (hx:a.eval x=.slice (some ⟨N,0,none⟩) 1 1)
 (hW:W=wr.alloc (.cells #[y] T)) (hN:N=wr.heap.size) (hy:y.oneCell'=true)
 (hown:OwnC T wr base v xs) (hlen:xs.length<1099511627776) (hbase:base<=wr.heap.size)
 (h:∀ v' w',OwnC T w' base v' (xs++[y])->w'.os=wr.os->w'.tape=wr.tape->w'.output=wr.output->wr.heap.size<=w'.heap.size->Cf v v' wr w'->wpList prog ops Q rest (a.put o.dst v') w') :
 wpList prog ops Q (o::rest) a W:=by
 obtain⟨i,hi,hz,g1,g3⟩:=Y9 E.info;subst hN;subst hW
 have g2:=E.small;refine wpList_append_own_at (w:=wr.alloc (.cells #[y] T)) hgd s x ST ho base T i z 1 b E.under hi hz g1 g3 (by rw[E.one];rfl) (by decide)
  v xs.length xs hs (hown.alloc _) ⟨wr.heap.size,0,none⟩ 1 1 [y] hx rfl (cell_one_new _ _ _) (by intro u hu;simp at hu;subst hu;exact hy) (by unfold maxLen;omega) (by
   have h1:(xs.length+1)*b<=1099511627776*100:=Nat.mul_le_mul (by omega) g2;omega) (by simp;omega) ?_
 intro v' w' h1 h2 _ g0;refine h v' w' ?_ h2.os h2.tape h2.output ?_ ⟨GS h2,g0.imp id fun e=>⟨_,e,by simp⟩⟩
 . unfold OwnC;rw[WY];exact h1
 . have:=h2.size;simp at this;omega
theorem Jg (hb:Below base w0 wr)(hown:OwnC T wr base v xs)(h1:w'.os=wr.os)(h2:w'.tape=wr.tape)(h3:w'.output=wr.output)(h4:wr.heap.size<=w'.heap.size)(hk:Cf v v' wr w')(hbase:base<=wr.heap.size):Below base w0 w' :=
 ⟨h1.trans hb.os,h2.trans hb.tape,h3.trans hb.output,WU hb.size h4,fun k hkb=>(hk.keep k (by omega) (fun e=>by have:=(hown.lt k e.symm).1;omega)).trans (hb.block k hkb)⟩
theorem DB (E:Ec T ST z b){o:Oper}(hgd:o.guard=none)(l c:Operand)
 (ho:o.op=.makeSlice ST l c) (base:Nat) (w0:Wd) (L:Int) (n:Nat) (hl:a.eval l=.int .i64 L) (hc:a.eval c=.int .i64 L) (hL:L=n) (hn:n<1099511627776)
 (hbase:base<=wr.heap.size) (hb:Below base w0 wr)
 (h:∀ g w',OwnC T w' base (.slice (some ⟨g,0,none⟩) n n) (List.replicate n z)->Below base w0 w'->base<=w'.heap.size->CJ none wr w'->base<=g->g=wr.heap.size ->
  wpList prog ops Q rest (a.put o.dst (.slice (some ⟨g,0,none⟩) n n)) w') :
 wpList prog ops Q (o::rest) a wr:=by
 obtain⟨i,hi,hz,g0,g2⟩:=Y9 E.info;have g1:=E.small
 refine wpList_make_full wr hgd l c ST ho base T i z 1 E.under hi hz g0 .i64 .i64 L L n hl hc hL hL (by
  have h1:i.bytes*n<=100*1099511627776:=Nat.mul_le_mul (by omega) (by omega);omega) (by unfold maxLen;omega) hbase ?_
 intro w' h1 h2;refine h wr.heap.size w' ?_ (hb.grown h2 hbase (by simp)) (by have:=h2.size;omega) (F5 h2) hbase rfl;unfold OwnC;have e1:List.replicate n z=(madeCells z.cells (n*1)).toList:=by
  rw[E.one];simp[madeCells];apply Yl
  . simp
  . intro j h3 h4;simp[Nat.mod_one]
 rw[XR,e1];exact h1
end
def AO (bs:List Bool):List Value:=bs.map Value.bool
theorem Gp (bs:List Bool):(AO bs).length=bs.length:=by simp[AO]
theorem getElem?_boolsV (h:k<bs.length):(AO bs)[k]?=some (.bool (bs.getD k false)):=by
 simp[AO,List.getD,h]
abbrev OwnB (w:Wd)(base:Nat)(v:Value)(bs:List Bool):Prop:=OwnC 4 w base v (AO bs)
def AS (w:Wd)(v:Value)(bs:List Bool):Prop:=∃ a c,v=.slice a bs.length c/\Cz w a bs/\(a=none->c=0)
theorem AS.below {w w':Wd}{v:Value}{bs:List Bool}(h:AS w v bs)(hb:Bw w w'):AS w' v bs:=by
 obtain⟨a,c,rfl,h1,h2⟩:=h;exact⟨a,c,rfl,h1.below hb,h2⟩
theorem AS.same (h:AS w v bs)(hk:∀ k,v.ownBlock=some k->w'.heap[k]?=w.heap[k]?):AS w' v bs:=by
 obtain⟨a,c,rfl,h1,h2⟩:=h;refine⟨a,c,rfl,⟨h1.len,fun k g0=>?_⟩,h2⟩;obtain⟨g,off,rfl,hc⟩:=h1.cells k g0;exact⟨g,off,rfl,Co hc (hk g rfl)⟩
theorem OwnC.boolsIs {base:Nat}(h:OwnB w base v bs)(hl:bs.length<=1000000):AS w v bs:=by
 obtain⟨a,c,hv,hn⟩:=h.slice;have g1:=hv;rw[Gp] at g1;refine⟨a,c,g1,⟨hl,fun k hk=>?_⟩,hn⟩;obtain⟨g,cap,g0,hb,hg⟩:=h.shape (by rw[Gp];omega);have ea:a=some ⟨g,0,none⟩:=by rw[hv] at g0;injection g0
 subst ea;refine⟨g,0,rfl,?_⟩;subst hv;rw[Xw,h.cell k (by rw[Gp];exact hk),getElem?_boolsV hk]
theorem OwnC.setB {base:Nat}(h:OwnB w base (.slice (some ⟨g,0,none⟩) n cap) bs)(k:Nat)(y:Bool):OwnB (w.setCell ⟨g,k,none⟩ (.bool y)) base (.slice (some ⟨g,0,none⟩) n cap) (bs.set k y):=by
 have:=h.stored k (.bool y);unfold OwnB;rw[show AO (bs.set k y)=(AO bs).set k (.bool y) by simp[AO,Yv]];exact this
theorem OwnC.cellB {base:Nat}(h:OwnB w base (.slice (some ⟨g,0,none⟩) n cap) bs)(k:Nat)(hk:k<bs.length):w.cell? ⟨g,k,none⟩=some (.bool (bs.getD k false)):=by
 rw[h.cell k (by rw[Gp];exact hk),getElem?_boolsV hk]
def bitB (i v:Nat):Bool:=decide (i/2^v%2=1)
def AP (i n:Nat):List Bool:=(List.range n).map (bitB i)
def tabB (n:Nat)(F:BF):List Bool:=(List.range (2^n)).map fun i=>F (A6 (AP i n))
theorem Mh (i n:Nat):(AP i n).length=n:=by simp[AP]
theorem SD (n:Nat)(F:BF):(tabB n F).length=2^n:=by simp[tabB]
theorem Mi (hi:i<2^n):(tabB n F).getD i false=F (A6 (AP i n)):=by simp[tabB,List.getD,hi]
theorem SE {v:Nat}:A6 (AP i n) v=(decide (v<n)&&bitB i v):=by
 unfold A6 AP
 by_cases h:v<n
 . simp[List.getD,h]
 . simp[List.getD,h]
theorem SF (h:k<=20):2^k<=1048576:=Xo (by omega) h
theorem SG (v:Nat)(hv:v<=20)(w:Wd):Calls prog 104 #[.int .i64 v] w (Sm (.int .i64 (2^v:Nat)) w):=by
 have HS:Hq (∀ k,k<=v->2^k<=1048576):=Hd fun k hk=>SF (by omega)
 go_enter func104,ntmps104
 go_wp2_with fail
 go_loopw [3,4] (fun s3 s4 wr=>∃ k p:Nat,k<=v/\s3=.int .i64 p/\s4=.int .i64 k/\w=wr/\Hq (2^k=p)) (fun _ s4 _=>v-(intOf s4).toNat)
 case atStart=>exact⟨0,1,WX _,rfl,rfl,rfl,Hd rfl⟩
 case round =>
  obtain⟨k,p,hk,rfl,rfl,rfl,HP⟩:=hrel
  by_cases g0:k<v
  ·have hp:p<=1048576:=by rw[<- HP.o];exact HS.o k hk
   go_wp2_with fail;go_roundw
   case rel=>exact⟨k+1,2*p,by omega,by go_num,by go_num,by simp,Hd (by rw[X4,HP.o];omega)⟩
   case measure=>simp[intOf];omega
  ·have he:k=v:=by omega
   have HE:Hq (2^v=p):=by rw[<- he];exact HP
   clear he;go_wp2_with fail;go_ret;exact⟨by rw[HE.o];rfl,rfl⟩
theorem SH {α:Type}{l m:List α}{y:α}(hk:k<l.length)(hm:k<m.length)(hy:m[k]=y):(m.take k++l.drop k).set k y=m.take (k+1)++l.drop (k+1):=by
 have h1:(m.take k).length=k:=by simp;omega
 rw[Zp _ _ (by omega),h1,Nat.sub_self,X2 hk,List.set_cons_zero,WZ hm,hy,Xf];rfl
theorem SI (i n:Nat):AP i (n+1)=AP i n++[bitB i n]:=by simp[AP,YI]
section
variable {o:Own}
theorem SatE.vars_any (h:SatE K n Od room w0 mb fs nx w o m V):Calls prog 69 #[Pt mb] w (Sm (.int .i64 n) w):=by
 have:=D7 h.is;rw[h.vars] at this;exact this
end
structure LawL (W:Wd)(o:Own)(base:Nat)(vl:Value)(ks:List Int):Prop where
 own:OwnC 3 W base vl (As ks)
 no:∀ k,vl.ownBlock=some k->o k=none
structure LawB (W:Wd)(o:Own)(base:Nat)(v:Value)(bs:List Bool):Prop where
 is:AS W v bs
 no:∀ k,v.ownBlock=some k->base<=k/\k<W.heap.size/\o k=none/\∃ cur,W.heap[k]?=some (.cells cur 4 (0,0))
structure LawX (W:Wd)(o:Own)(base:Nat)(vx:Value)(us:List (List Bool)):Prop where
 ex:∃ rs:List Value,rs.length=us.length/\OwnC 54 W base vx rs/\∀ i v,rs[i]?=some v->LawB W o base v (us.getD i [])
 no:∀ k,vx.ownBlock=some k->o k=none
section
variable {o:Own}{base:Nat}{us:List (List Bool)}
theorem LawL.chg (h:LawL W o base vl ks)(hc:ChgX NoB o o' W W'):LawL W' o' base vl ks :=
 ⟨h.own.same fun k hk=>hc.block k (h.own.lt k hk).2 (h.no k hk) (fun e=>e),fun k hk=>hc.none' (h.own.lt k hk).2 (h.no k hk)⟩
theorem LawB.chg (h:LawB W o base v bs)(hc:ChgX NoB o o' W W'):LawB W' o' base v bs :=
 ⟨h.is.same fun k hk=>hc.block k (h.no k hk).2.1 (h.no k hk).2.2.1 (fun e=>e),fun k hk=>by
  obtain⟨h1,h2,h3,cur,h4⟩:=h.no k hk;exact⟨h1,Xh h2 hc.size,hc.none' h2 h3,cur,(hc.block k h2 h3 (fun e=>e)).trans h4⟩⟩
theorem LawX.chg (h:LawX W o base vx us)(hc:ChgX NoB o o' W W'):LawX W' o' base vx us:=by
 obtain⟨rs,h1,h2,h3⟩:=h.ex;exact⟨⟨rs,h1,h2.same fun k hk=>hc.block k (h2.lt k hk).2 (h.no k hk) (fun e=>e),fun i v hv=>(h3 i v hv).chg hc⟩,fun k hk=>hc.none' (h2.lt k hk).2 (h.no k hk)⟩
theorem CE (hb:Bw W W')(o:Own):ChgX NoB o o W W':=ChgX.of_below hb o NoB
theorem LawL.typ (h:LawL W o base vl ks)(hw:Wr C W W')(hT:T≠3)(hC:∀ k,C k->∃ cur,W.heap[k]?=some (.cells cur T (0,0))):LawL W' o base vl ks :=
 ⟨h.own.same fun k hk=>hw.keep k (h.own.lt k hk).2 fun e=>by
  obtain⟨c1,h1⟩:=hC k e;obtain⟨c2,h2⟩:=h.own.typed k hk;rw[h1] at h2;cases h2;exact hT rfl,h.no⟩
theorem LawB.typ (h:LawB W o base v bs)(hw:Wr C W W')(hT:T≠4)(hC:∀ k,C k->∃ cur,W.heap[k]?=some (.cells cur T (0,0))):LawB W' o base v bs:=by
 have hk:∀ k,v.ownBlock=some k->W'.heap[k]?=W.heap[k]?:=fun k hk=>by
  obtain⟨h1,h2,h3,cur,h4⟩:=h.no k hk;exact hw.keep k h2 fun e=>by
   obtain⟨c1,q1⟩:=hC k e;rw[q1] at h4;cases h4;exact hT rfl
 exact⟨h.is.same hk,fun k g0=>by
  obtain⟨h1,h2,h3,cur,h4⟩:=h.no k g0;exact⟨h1,Xh h2 hw.size,h3,cur,(hk k g0).trans h4⟩⟩
theorem LawX.typ {C:Nat->Prop}(h:LawX W o base vx us)(hw:Wr C W W'){T:TypeId}(hT:T≠4)(hT2:T≠54)(hC:∀ k,C k->∃ cur,W.heap[k]?=some (.cells cur T (0,0))):LawX W' o base vx us:=by
 obtain⟨rs,h1,h2,h3⟩:=h.ex
 exact⟨⟨rs,h1,h2.same fun k hk=>hw.keep k (h2.lt k hk).2 fun e=>by
  obtain⟨c1,q1⟩:=hC k e;obtain⟨c2,q2⟩:=h2.typed k hk;rw[q1] at q2;cases q2;exact hT2 rfl,fun i v hv=>(h3 i v hv).typ hw hT hC⟩,h.no⟩
theorem Gq (h1:W'.os=W.os)(h2:W'.tape=W.tape)(h3:W'.output=W.output)(h4:W.heap.size<=W'.heap.size)(hk:Cf v v' W W'):Wr (fun k=>v.ownBlock=some k) W W' :=
 ⟨h1,h2,h3,h4,fun k hlt hn=>hk.keep k hlt (fun e=>hn e.symm)⟩
theorem LawL.app {k:Int}(h:LawL W o base vl ks)(hlt:Ab o W)(hn:OwnC 3 W' base v' (As ks++[.int .i64 k]))(hk:Cf vl v' W W'):LawL W' o base v' (ks++[k]):=by
 refine⟨by rw[show As (ks++[k])=As ks++[.int .i64 k] by simp[As]];exact hn,fun q hq=>?_⟩;rcases hk.loc with e|⟨g,e,hg⟩
 . exact h.no q (by rw[<- e];exact hq)
 . rw[e] at hq;cases hq;exact hlt.none hg
theorem LawX.app (h:LawX W o base vx us)(hlt:Ab o W){rs:List Value}(hrs:rs.length=us.length)(hall:∀ i v,rs[i]?=some v->LawB W o base v (us.getD i []))(hw:Wr (fun k=>vx.ownBlock=some k) W W')(hT:∀ k,vx.ownBlock=some k->∃ cur,W.heap[k]?=some (.cells cur 54 (0,0)))
 (hb:LawB W o base v bs) (hn:OwnC 54 W' base v' (rs++[v])) (hk:Cf vx v' W W'):LawX W' o base v' (us++[bs]):=by
 refine⟨⟨rs++[v],by simp[hrs],hn,fun i u hu=>?_⟩,fun q hq=>?_⟩
 ·rcases Xe i rs.length with hi|hi
  ·rw[Xj hi] at hu;have e:(us++[bs]).getD i []=us.getD i []:=by simp[List.getD,Xj (show i<us.length by omega)]
   rw[e];exact(hall i u hu).typ hw (by decide) hT
  ·rw[Xu hi] at hu;have g0:i=rs.length:=by
    have:=(Xk.1 hu).1;simp at this;omega
   subst g0;simp at hu;subst hu;have e:(us++[bs]).getD rs.length []=bs:=by rw[hrs];simp[List.getD]
   rw[e];exact hb.typ hw (by decide) hT
 ·rcases hk.loc with e|⟨g,e,hg⟩
  . exact h.no q (by rw[<- e];exact hq)
  . rw[e] at hq;cases hq;exact hlt.none hg
theorem SJ {n:Nat}(h:OwnB W' W.heap.size v bs)(hl:bs.length<=1000000)(hlt:Ab o W)(hb:base<=W.heap.size):LawB W' o base v bs :=
 ⟨OwnC.boolsIs h hl,fun k hk=>by
  have h1:=h.lt k hk;exact⟨by omega,h1.2,hlt.none h1.1,h.typed k hk⟩⟩
end
def okI (z:Int):Prop:=-9223372036854775808<=z/\z<=9223372036854775807
inductive ExT where
 | nil
 | mk (op v:Int) (n:Nat) (kid:Nat->ExT)
def sumN:Nat->(Nat->Nat)->Nat
 | 0,_=>0
 | k+1,f=>sumN k f+f k
theorem Mj {f:Nat->Nat}{j:Nat}:∀ (k:Nat),j<k->f j<=sumN k f
 | 0,h=>by omega
 | k+1,h=>by
   unfold sumN
   by_cases e:j=k
   . subst e;omega
   . have:=Mj (f:=f) k (show j<k by omega);omega
def ExT.size:ExT->Nat
 | .nil=>1
 | .mk _ _ n kid=>1+sumN n fun i=>(kid i).size
theorem ExT.size_pos (e:ExT):1<=e.size:=by cases e<;>unfold ExT.size<;>omega
instance:Inhabited ExT:=⟨.nil⟩
theorem ExT.kid_size {v:Int}{kid:Nat->ExT}(h:i<n):(kid i).size<(ExT.mk op v n kid).size:=by
 have h1:(kid i).size<=sumN n fun i=>(kid i).size:=Mj (f:=fun i=>(kid i).size) n h
 show (kid i).size<1+sumN n fun i=>(kid i).size
 omega
def A0 (w:Wd):ExT->Value->Prop
 | .nil,_=>False
 | .mk op v n kid,x=>∃ a c,x=.agg #[.int .i64 op,.int .i64 v,.slice a n c]/\okI op/\okI v/\n<=9223372036854775807 /\
  ∀ k,k<n->∃ b off x0 x1 x2,a=some ⟨b,off,none⟩/\w.cell? ⟨b,off+k*3,none⟩=some x0/\w.cell? ⟨b,off+k*3+1,none⟩=some x1/\w.cell? ⟨b,off+k*3+2,none⟩=some x2/\A0 w (kid k) (.agg #[x0,x1,x2])
theorem A0.below {w w':Wd}(hb:Bw w w'):∀ (e:ExT) {x:Value},A0 w e x->A0 w' e x
 | .nil,_,h=>by unfold A0 at h;exact h.elim
 | .mk op v n kid,x,h=>by
   unfold A0 at h ⊢;obtain⟨a,c,h1,h2,h3,h4,h5⟩:=h;refine⟨a,c,h1,h2,h3,h4,fun k hk=>?_⟩;obtain⟨b,off,x0,x1,x2,rfl,c0,c1,c2,hx⟩:=h5 k hk;exact⟨b,off,x0,x1,x2,rfl,(Cq hb c0),(Cq hb c1),(Cq hb c2),A0.below hb (kid k) hx⟩
theorem Mk:∀ (e:ExT) (x:Value) (q:Nat) (w:Wd),q<=1000->A0 w e x ->
 Calls prog 55 #[x,.int .i64 q] w fun y w'=>(∃ r:Nat,y=.returned (.int .i64 r)/\1<=r/\r<=q+1/\(r<=q->r=e.size))/\Bw w w'
 | .nil,x,q,w,hq,h=>by unfold A0 at h;exact h.elim
 | .mk op v n kid,x,q,w,hq,h=>by
   unfold A0 at h;obtain⟨a,c,rfl,h2,h3,h4,h5⟩:=h;have H5:=Hd h5;have HSZ:Hq ((ExT.mk op v n kid).size=1+sumN n fun i=>(kid i).size):=Hd rfl;have IH:Hq (∀ (i:Nat) (x:Value) (z:Int) (q:Nat) (W:Wd),z=(q:Int)->q<=1000->A0 W (kid i) x->Calls prog 55 #[x,.int .i64 z] W fun y w'=>(∃ r:Nat,y=.returned (.int .i64 r)/\1<=r/\r<=q+1/\(r<=q->r=(kid i).size))/\Bw W w') :=
    Hd fun i x z q W hz h1 h2=>by subst hz;exact Mk (kid i) x q W h1 h2
   obtain⟨E,hE⟩:=Ex (ExT.mk op v n kid);rw[<- hE] at HSZ ⊢;obtain⟨w1,hw1⟩:=Ex (w.alloc (.cells #[.int .i64 op,.int .i64 v,.slice a n c] 36));have HW1:Hq (_=w1):=Hd hw1.symm;have HB1:Hq (Bw w w1):=by rw[hw1];exact Hd (Af _ _)
   have g6:w1.heap[w.heap.size]?=some (.cells #[.int .i64 op,.int .i64 v,.slice a n c] 36 (0,0)):=by rw[hw1];exact WN _ _
   have hs1:w1.heap.size=w.heap.size+1:=by rw[hw1];simp
   have d2:w1.cell? ⟨w.heap.size,2,none⟩=some (.slice a n c):=by rw[WQ _ _ 2 _ _ _ g6];rfl
   clear h5 hE hw1 g6 h2 h3
   go_enter func55,ntmps55
   go_upto_region 1 with fail;rw[HW1.o];go_wp2_with fail
   go_loopw [5,6] (fun s5 s6 wr=>∃ i r:Nat,i<=n/\1<=r/\i<r/\r<=q+1/\s5=.int .i64 r/\s6=.int .i64 i/\Bw w1 wr/\Hq (r<=q->r=1+sumN i fun i=>(kid i).size)) (fun _ s6 _=>n-(intOf s6).toNat)
   case atStart=>exact⟨0,1,by omega,by omega,by omega,by omega,rfl,rfl,Xd _ _,Hd fun _=>rfl⟩
   case round =>
    obtain⟨i,r,hi,g8,gf,g7,rfl,rfl,g5,HR⟩:=hrel;have d2':=Cq g5 d2;have g0:=Hd g5;clear g5
    by_cases gb:i<n
    ·by_cases ge:r<=q
     ·obtain⟨b,off,x0,x1,x2,rfl,c0,c1,c2,hx⟩:=H5.o i gb;have g4:=HB1.o.trans (g0.o.mono HB1.o.size);have e0:=Cq g4 c0;have e1:=Cq g4 c1;have e2:=Cq g4 c2;have HX:=Hd (hx.below g4);clear c0 c1 c2 hx g4;have g9:(i:Int)<n:=by omega
      go_wp2_with fail;refine(IH.o i _ _ (q-r) _ (by omega) (by omega) HX.o).mono ?_;rintro y w3 ⟨⟨r2,rfl,g1,g2,g3⟩,ga⟩;have gd:=Hd (g0.o.trans (ga.mono g0.o.size));have gc:Hq (r+r2<=q->r+r2=1+sumN (i+1) fun i=>(kid i).size):=Hd fun hh=>by
       have e1:=HR.o (by omega);have e2:=g3 (by omega)
       show _=1+(sumN i (fun i=>(kid i).size)+(kid i).size)
       omega
      clear ga g3 e0 e1 e2;go_wp2_with fail;go_roundw
      case rel=>exact⟨i+1,r+r2,by omega,by omega,by omega,by omega,by go_num,by go_num,gd.o,gc⟩
      case measure=>simp[intOf];omega
     ·have g9:(i:Int)<n:=by omega
      have HF:Hq ((∃ r':Nat,Ending.returned (.int .i64 (r:Nat))=.returned (.int .i64 r')/\1<=r'/\r'<=q+1/\(r'<=q->r'=E.size))/\Bw w wr) :=
       Hd ⟨⟨r,rfl,g8,g7,fun hh=>by omega⟩,HB1.o.trans (g0.o.mono HB1.o.size)⟩
      go_wp2_with fail;go_ret;exact HF.o
    ·have he:i=n:=by omega
     have HF:Hq ((∃ r':Nat,Ending.returned (.int .i64 (r:Nat))=.returned (.int .i64 r')/\1<=r'/\r'<=q+1/\(r'<=q->r'=E.size))/\Bw w wr) :=
      Hd ⟨⟨r,rfl,g8,g7,fun hh=>by rw[HSZ.o,HR.o hh,he]⟩,HB1.o.trans (g0.o.mono HB1.o.size)⟩
     have g9:¬ (i:Int)<n:=by omega
     go_wp2_with fail;go_ret;exact HF.o
theorem Ef {f:Nat->Nat}{i:Nat}:∀ {n:Nat},i<n->sumN i f+f i<=sumN n f
 | 0,h=>by omega
 | k+1,h=>by
   rcases Xe i k with h'|h'
   ·have:=Ef (f:=f) h'
    show _<=sumN k f+f k
    omega
   ·obtain rfl:i=k:=by omega
    exact WM _
def Bb (op:Int):Int×Int :=
 if op=1\/op=2\/op=3 then (0,0) else if op=4 then (1,1) else if op=5\/op=6\/op=7 then (0,64) else if op=8\/op=9 then (2,2) else if op=10 then (3,3) else (-1,-1)
def okT:ExT->Nat->Prop
 | .nil,_=>False
 | .mk op v n kid,deep=>deep<=64/\0<=(Bb op).1/\(op=3->0<=v/\v<64)/\(op≠3->v=0)/\(Bb op).1<=n/\(n:Int)<=(Bb op).2/\∀ i,i<n->okT (kid i) (deep+1)
def Gr:ExT->Prop
 | .nil=>False
 | .mk op v n kid=>0<=(Bb op).1/\(op=3->0<=v/\v<64)/\(op≠3->v=0)/\(Bb op).1<=n/\(n:Int)<=(Bb op).2/\∀ i,i<n->Gr (kid i)
theorem okT.valid:∀ {e:ExT} {deep:Nat},okT e deep->Gr e
 | .nil,_,h=>h.elim
 | .mk op v n kid,deep,h=>by
   obtain⟨_,h1,h2,h3,h4,h5,h6⟩:=h;exact⟨h1,h2,h3,h4,h5,fun i hi=>(h6 i hi).valid⟩
theorem SK (op:Int)(w:Wd):Calls prog 150 #[.int .i64 op] w (Sm (.tuple #[.int .i64 (Bb op).1,.int .i64 (Bb op).2]) w):=by
 obtain⟨p,hp⟩:=Ex (Bb op);rw[<- hp];unfold Bb at hp;rcases(by omega:op=1\/op=2\/op=3\/op=4\/op=5\/op=6\/op=7\/op=8\/op=9\/op=10\/(op<1\/10<op)) with rfl|rfl|rfl|rfl|rfl|rfl|rfl|rfl|rfl|rfl|h
 all_goals
  first
  | (simp at hp
     subst hp
     go_enter func150,ntmps150
     go_wp2_with fail
     go_ret2
     exact⟨rfl,rfl⟩)
  | (have h1 : (op == 1) = false := by simp; omega
     have h2:(op == 2)=false:=by simp;omega
     have h3:(op == 3)=false:=by simp;omega
     have h4:(op == 4)=false:=by simp;omega
     have h5:(op == 5)=false:=by simp;omega
     have h6:(op == 6)=false:=by simp;omega
     have h7:(op == 7)=false:=by simp;omega
     have h8:(op == 8)=false:=by simp;omega
     have h9:(op == 9)=false:=by simp;omega
     have g0:(op == 10)=false:=by simp;omega
     rw[WO (by omega),WO (by omega),WO (by omega),WO (by omega),WO (by omega)] at hp;subst hp;clear h
     go_enter func150,ntmps150
     go_wp2_with fail
     go_ret2
     exact⟨rfl,rfl⟩)
def E7 (e:ExT)(deep parts:Nat)(w:Wd)(y:Ending)(w':Wd):Prop:=∃ err m:Int,y=.returned (.tuple #[.int .i64 err,.int .i64 m])/\okI m/\(err=0↔okT e deep)/\(err=0->m=(parts+e.size:Nat))/\Bw w w'
theorem Ml:∀ (e:ExT) (x:Value) (deep parts:Nat) (w:Wd),deep<=65->parts+e.size<=4096->A0 w e x ->
 Calls prog 111 #[x,.int .i64 deep,.int .i64 parts] w (E7 e deep parts w)
 | .nil,x,deep,parts,w,hd,hp,h=>by unfold A0 at h;exact h.elim
 | .mk op v n kid,x,deep,parts,w,hd,hp,h=>by
   unfold A0 at h;obtain⟨a,c,rfl,h2,h3,h4,h5⟩:=h;have H5:=Hd h5;have HSZ:Hq ((ExT.mk op v n kid).size=1+sumN n fun i=>(kid i).size):=Hd rfl;have HKS:Hq (∀ i,i<n->(kid i).size<(ExT.mk op v n kid).size):=Hd fun i hi=>ExT.kid_size hi
   have HV:Hq (∀ l hh:Int,l=(Bb op).1->hh=(Bb op).2->(okT (ExT.mk op v n kid) deep↔deep<=64/\0<=l/\(op=3->0<=v/\v<64)/\(op≠3->v=0)/\l<=n/\(n:Int)<=hh/\∀ i,i<n->okT (kid i) (deep+1))):=by
    refine Hd ?_;rintro l hh rfl rfl;exact Iff.rfl
   have IH:Hq (∀ (i:Nat) (x:Value) (z1 z2:Int) (deep parts:Nat) (W:Wd),z1=(deep:Int)->z2=(parts:Int)->deep<=65->parts+(kid i).size<=4096->A0 W (kid i) x->Calls prog 111 #[x,.int .i64 z1,.int .i64 z2] W (E7 (kid i) deep parts W)) :=
    Hd fun i x z1 z2 deep parts W e1 e2 h1 h2 h3=>by subst e1;subst e2;exact Ml (kid i) x deep parts W h1 h2 h3
   have HK:=Hd (fun W=>SK op W);obtain⟨E,hE⟩:=Ex (ExT.mk op v n kid);have gA:1<=E.size:=E.size_pos;rw[<- hE] at HSZ hp HV HKS ⊢;obtain⟨l,hl⟩:=Ex ((Bb op).1);obtain⟨hi,gp⟩:=Ex ((Bb op).2);rw[<- hl,<- gp] at HK;have g4:=Hd (HV.o l hi hl gp);obtain⟨w1,gk⟩:=Ex (w.alloc (.cells #[.int .i64 op,.int .i64 v,.slice a n c] 36));have HW1:Hq (_=w1):=Hd gk.symm;have g8:Hq (Bw w w1):=by rw[gk];exact Hd (Af _ _)
   have gi:w1.heap[w.heap.size]?=some (.cells #[.int .i64 op,.int .i64 v,.slice a n c] 36 (0,0)):=by rw[gk];exact WN _ _
   have hs1:w1.heap.size=w.heap.size+1:=by rw[gk];simp
   have d0:w1.cell? ⟨w.heap.size,0,none⟩=some (.int .i64 op):=by rw[WQ _ _ 0 _ _ _ gi];rfl
   have d1:w1.cell? ⟨w.heap.size,1,none⟩=some (.int .i64 v):=by rw[WQ _ _ 1 _ _ _ gi];rfl
   have d2:w1.cell? ⟨w.heap.size,2,none⟩=some (.slice a n c):=by rw[WQ _ _ 2 _ _ _ gi];rfl
   have g0:Hq (∀ (k m:Int) (W:Wd),k≠0->¬ okT E deep->okI m->Bw w1 W->E7 E deep parts w (.returned (.tuple #[.int .i64 k,.int .i64 m])) W) :=
    Hd fun k m W hk gu hm hb=>⟨k,m,rfl,hm,⟨fun e=>(hk e).elim,fun e=>(gu e).elim⟩,fun e=>(hk e).elim,g8.o.trans (hb.mono g8.o.size)⟩
   unfold okI at h2 h3;clear h5 hE gk gi HV hl gp
   go_enter func111,ntmps111
   go_upto_region 1 with fail;rw[HW1.o]
   by_cases gC:(deep:Int)>64
   ·go_wp2_with fail
    go_ret2
    exact g0.o 17 _ _ (by decide) (fun h=>by have:=(g4.o.1 h).1;omega) (by unfold okI;omega) (Xd _ _)
   go_wp2_with fail;refine(HK.o _).mono ?_;rintro y w' ⟨rfl,rfl⟩
   by_cases gB:l<0
   ·go_wp2_with fail
    go_ret2
    exact g0.o 11 _ _ (by decide) (fun h=>by have:=(g4.o.1 h).2.1;omega) (by unfold okI;omega) (Xd _ _)
   have gr:((op == 3)=true/\op=3)\/((op == 3)=false/\(op != 3)=true/\op≠3):=by
    by_cases e:op=3
    . exact .inl ⟨by simp[e],e⟩
    . exact .inr ⟨by simpa using e,by simpa using e,e⟩
   rcases gr with ⟨g1,g2⟩|⟨g1,g2,g3⟩
   ·subst g2
    by_cases gb:v<0
    ·go_wp2_with fail
     go_ret2
     exact g0.o 9 _ _ (by decide) (fun h=>by have:=(g4.o.1 h).2.2.1 (by trivial);omega) (by unfold okI;omega) (Xd _ _)
    by_cases gs:v>=64
    ·go_wp2_with fail
     go_ret2
     exact g0.o 9 _ _ (by decide) (fun h=>by have:=(g4.o.1 h).2.2.1 (by trivial);omega) (by unfold okI;omega) (Xd _ _)
    have HG:Hq ((3:Int)=3->0<=v/\v<64):=Hd fun _=>⟨by omega,by omega⟩
    have gq:Hq ((3:Int)≠3->v=0):=Hd fun e=>(e rfl).elim
    go_upto_region 9 with fail
    by_cases gv:(n:Int)<l
    ·go_wp2_with fail
     go_ret2
     exact g0.o 3 _ _ (by decide) (fun h=>by have:=(g4.o.1 h).2.2.2.2.1;omega) (by unfold okI;omega) (Xd _ _)
    by_cases gw:(n:Int)>hi
    ·go_wp2_with fail
     go_ret2
     exact g0.o 3 _ _ (by decide) (fun h=>by have:=(g4.o.1 h).2.2.2.2.2.1;omega) (by unfold okI;omega) (Xd _ _)
    go_wp2_with fail
    go_loopw [2,10,11,12] (fun s2 s10 s11 s12 wr=>∃ i p:Nat,i<=n/\p<=4096/\s2=.int .i64 p/\s10=.int .i64 i/\Bw w1 wr/\Hq (p=parts+(1+sumN i fun i=>(kid i).size))/\Hq (∀ j,j<i->okT (kid j) (deep+1))) (fun _ s10 _ _ _=>n-(intOf s10).toNat)
    case atStart=>exact⟨0,parts+1,by omega,by omega,by go_num,rfl,Xd _ _,Hd rfl,Hd fun j hj=>by omega⟩
    case round =>
     obtain⟨i,p,gy,gt,rfl,rfl,g9,HP,gg⟩:=hrel;have d2':=Cq g9 d2;have g5:=Hd g9;clear g9
     by_cases gd:i<n
     ·obtain⟨b,off,x0,x1,x2,rfl,c0,c1,c2,hx⟩:=H5.o i gd;have g7:=g8.o.trans (g5.o.mono g8.o.size);have e0:=Cq g7 c0;have e1:=Cq g7 c1;have e2:=Cq g7 c2;have HX:=Hd (hx.below g7);have gc:p+(kid i).size<=4096:=by
       have s1:(kid i).size+sumN i (fun i=>(kid i).size)<=sumN n fun i=>(kid i).size:=by
        have:=Ef (f:=fun i=>(kid i).size) gd;omega
       have s2:=HP.o;have s3:=HSZ.o;omega
      have gh:Hq (p+(kid i).size=parts+(1+sumN (i+1) fun i=>(kid i).size)):=Hd (by
       have s2:=HP.o
       show _=parts+(1+(sumN i (fun i=>(kid i).size)+(kid i).size))
       omega)
      have go:(i:Int)<n:=by omega
      clear c0 c1 c2 hx g7;go_wp2_with fail;refine(IH.o i _ _ _ (deep+1) p _ (by go_num) rfl (by omega) gc HX.o).mono ?_;rintro y w3 ⟨err,m,rfl,hm,ge,gl,gm⟩;have gn:=Hd (g5.o.trans (gm.mono g5.o.size));have gf:=Hd gl;have ga:=Hd ge;clear gm gl ge e0 e1 e2;unfold okI at hm
      by_cases g6:err=0
      ·subst g6;have q1:=ga.o.1 rfl;have q2:=gf.o rfl;obtain⟨p2,hp2⟩:=Ex (p+(kid i).size);have gj:Hq (∀ j,j<i+1->okT (kid j) (deep+1)):=Hd fun j hj=>by
        rcases Xe j i with h|h
        . exact gg.o j h
        ·obtain rfl:j=i:=by omega
         exact q1
       rw[<- hp2] at q2 gc gh;subst q2;clear hp2 q1 gf ga;go_wp2_with fail;go_roundw
       case rel=>exact⟨i+1,p2,by omega,by omega,rfl,by go_num,gn.o,gh,gj⟩
       case measure=>simp[intOf];omega
      ·have gx:(err != 0)=true:=by simpa using g6
       have HF:=Hd (g0.o err m w3 g6 (fun h=>g6 (ga.o.2 ((g4.o.1 h).2.2.2.2.2.2 i gd))) hm gn.o);clear g6 gf ga;go_wp2_with fail
       go_ret2
       exact HF.o
     ·have he:i=n:=by omega
      have go:¬ (i:Int)<n:=by omega
      have HF:Hq (E7 E deep parts w (.returned (.tuple #[.int .i64 0,.int .i64 (p:Nat)])) wr):=Hd ⟨0,p,rfl,by unfold okI;omega,⟨fun _=>g4.o.2 ⟨by omega,by omega,HG.o,gq.o,by omega,by omega,fun j hj=>gg.o j (by omega)⟩,fun _=>rfl⟩,fun _=>by rw[HP.o,HSZ.o,he],g8.o.trans (g5.o.mono g8.o.size)⟩;go_wp2_with fail
      go_ret2
      exact HF.o
   ·by_cases gb:v=0
    ·have gs:(v != 0)=false:=by simp[gb]
     have HG:Hq (op=3->0<=v/\v<64):=Hd fun e=>(g3 e).elim
     have gq:Hq (op≠3->v=0):=Hd fun _=>gb
     clear gb g3;go_upto_region 9 with fail
     by_cases gv:(n:Int)<l
     ·go_wp2_with fail
      go_ret2
      exact g0.o 3 _ _ (by decide) (fun h=>by have:=(g4.o.1 h).2.2.2.2.1;omega) (by unfold okI;omega) (Xd _ _)
     by_cases gw:(n:Int)>hi
     ·go_wp2_with fail
      go_ret2
      exact g0.o 3 _ _ (by decide) (fun h=>by have:=(g4.o.1 h).2.2.2.2.2.1;omega) (by unfold okI;omega) (Xd _ _)
     go_wp2_with fail
     go_loopw [2,10,11,12] (fun s2 s10 s11 s12 wr=>∃ i p:Nat,i<=n/\p<=4096/\s2=.int .i64 p/\s10=.int .i64 i/\Bw w1 wr/\Hq (p=parts+(1+sumN i fun i=>(kid i).size))/\Hq (∀ j,j<i->okT (kid j) (deep+1))) (fun _ s10 _ _ _=>n-(intOf s10).toNat)
     case atStart=>exact⟨0,parts+1,by omega,by omega,by go_num,rfl,Xd _ _,Hd rfl,Hd fun j hj=>by omega⟩
     case round =>
      obtain⟨i,p,gy,gt,rfl,rfl,g9,HP,gg⟩:=hrel;have d2':=Cq g9 d2;have g5:=Hd g9;clear g9
      by_cases gd:i<n
      ·obtain⟨b,off,x0,x1,x2,rfl,c0,c1,c2,hx⟩:=H5.o i gd;have g7:=g8.o.trans (g5.o.mono g8.o.size);have e0:=Cq g7 c0;have e1:=Cq g7 c1;have e2:=Cq g7 c2;have HX:=Hd (hx.below g7);have gc:p+(kid i).size<=4096:=by
        have s1:(kid i).size+sumN i (fun i=>(kid i).size)<=sumN n fun i=>(kid i).size:=by
         have:=Ef (f:=fun i=>(kid i).size) gd;omega
        have s2:=HP.o;have s3:=HSZ.o;omega
       have gh:Hq (p+(kid i).size=parts+(1+sumN (i+1) fun i=>(kid i).size)):=Hd (by
        have s2:=HP.o
        show _=parts+(1+(sumN i (fun i=>(kid i).size)+(kid i).size))
        omega)
       have go:(i:Int)<n:=by omega
       clear c0 c1 c2 hx g7;go_wp2_with fail;refine(IH.o i _ _ _ (deep+1) p _ (by go_num) rfl (by omega) gc HX.o).mono ?_;rintro y w3 ⟨err,m,rfl,hm,ge,gl,gm⟩;have gn:=Hd (g5.o.trans (gm.mono g5.o.size));have gf:=Hd gl;have ga:=Hd ge;clear gm gl ge e0 e1 e2;unfold okI at hm
       by_cases g6:err=0
       ·subst g6;have q1:=ga.o.1 rfl;have q2:=gf.o rfl;obtain⟨p2,hp2⟩:=Ex (p+(kid i).size);have gj:Hq (∀ j,j<i+1->okT (kid j) (deep+1)):=Hd fun j hj=>by
         rcases Xe j i with h|h
         . exact gg.o j h
         ·obtain rfl:j=i:=by omega
          exact q1
        rw[<- hp2] at q2 gc gh;subst q2;clear hp2 q1 gf ga;go_wp2_with fail;go_roundw
        case rel=>exact⟨i+1,p2,by omega,by omega,rfl,by go_num,gn.o,gh,gj⟩
        case measure=>simp[intOf];omega
       ·have gx:(err != 0)=true:=by simpa using g6
        have HF:=Hd (g0.o err m w3 g6 (fun h=>g6 (ga.o.2 ((g4.o.1 h).2.2.2.2.2.2 i gd))) hm gn.o);clear g6 gf ga;go_wp2_with fail
        go_ret2
        exact HF.o
      ·have he:i=n:=by omega
       have go:¬ (i:Int)<n:=by omega
       have HF:Hq (E7 E deep parts w (.returned (.tuple #[.int .i64 0,.int .i64 (p:Nat)])) wr):=Hd ⟨0,p,rfl,by unfold okI;omega,⟨fun _=>g4.o.2 ⟨by omega,by omega,HG.o,gq.o,by omega,by omega,fun j hj=>gg.o j (by omega)⟩,fun _=>rfl⟩,fun _=>by rw[HP.o,HSZ.o,he],g8.o.trans (g5.o.mono g8.o.size)⟩;go_wp2_with fail
       go_ret2
       exact HF.o
    ·have gs:(v != 0)=true:=by simpa using gb
     have gz:Hq (¬ okT E deep):=Hd fun h=>gb ((g4.o.1 h).2.2.2.1 g3)
     clear gb g3;go_wp2_with fail
     go_ret2
     exact g0.o 9 _ _ (by decide) gz.o (by unfold okI;omega) (Xd _ _)
theorem Jh (e:ExT)(x:Value)(w:Wd)(hs:e.size<=4096)(h:A0 w e x) :
 Calls prog 56 #[x] w fun y w'=>∃ err:Int,y=.returned (.int .i64 err)/\(err=0↔okT e 1)/\Bw w w':=by
 have HC:Hq (∀ W,Bw w W->∀ u,u=x->Calls prog 111 #[u,.int .i64 1,.int .i64 0] W (E7 e 1 0 W)):=Hd fun W hb u hu=>by subst hu;exact Ml e _ 1 0 W (by omega) (by omega) (h.below hb)
 obtain⟨x0,x1,x2,hx⟩:∃ x0 x1 x2,x=.agg #[x0,x1,x2]:=by
  cases e with
  | nil=>unfold A0 at h;exact h.elim
  | mk op v n kid =>
    unfold A0 at h;obtain⟨a,c,rfl,_⟩:=h;exact⟨_,_,_,rfl⟩
 subst hx;obtain⟨w1,g1⟩:=Ex (w.alloc (.cells #[x0,x1,x2] 36));have HW1:Hq (_=w1):=Hd g1.symm;have g2:Hq (Bw w w1):=by rw[g1];exact Hd (Af _ _)
 have g0:w1.heap[w.heap.size]?=some (.cells #[x0,x1,x2] 36 (0,0)):=by rw[g1];exact WN _ _
 have d0:w1.cell? ⟨w.heap.size,0,none⟩=some x0:=by rw[WQ _ _ 0 _ _ _ g0];rfl
 have d1:w1.cell? ⟨w.heap.size,1,none⟩=some x1:=by rw[WQ _ _ 1 _ _ _ g0];rfl
 have d2:w1.cell? ⟨w.heap.size,2,none⟩=some x2:=by rw[WQ _ _ 2 _ _ _ g0];rfl
 have g3:x0.cells=#[x0]/\x1.cells=#[x1]/\x2.cells=#[x2]:=by
  cases e with
  | nil=>unfold A0 at h;exact h.elim
  | mk op v n kid =>
    unfold A0 at h;obtain⟨a,c,h1,_⟩:=h;cases h1;exact⟨rfl,rfl,rfl⟩
 obtain⟨o0,o1,o2⟩:=g3;clear h g1 g0
 go_enter func56,ntmps56
 go_upto_region 1 with fail;rw[HW1.o];go_wp2_with fail;refine(HC.o _ g2.o _ rfl).mono ?_;rintro y w2 ⟨err,m,rfl,hm,hv,_,hb⟩;have HF:Hq (∃ err':Int,Ending.returned (.int .i64 err)=.returned (.int .i64 err')/\(err'=0↔okT e 1)/\Bw w w2):=Hd ⟨err,rfl,hv,g2.o.trans (hb.mono g2.o.size)⟩;clear hv hb;go_wp2_with fail;go_ret;exact HF.o
def BL:Nat->(Nat->List Int)->List Int
 | 0,_=>[]
 | k+1,f=>BL k f++f k
def AG:ExT->List Int
 | .nil=>[]
 | .mk op v n kid=>(if op=3 then [v] else [])++BL n fun i=>AG (kid i)
theorem Gt {f:Nat->List Int}{g:Nat->Nat}:∀ (n:Nat),(∀ i,i<n->(f i).length<=g i)->(BL n f).length<=sumN n g
 | 0,_=>WM _
 | k+1,h=>by
   show (BL k f++f k).length<=sumN k g+g k
   rw[WY];have:=Gt (f:=f) (g:=g) k (fun i hi=>h i (by omega));have:=h k (by omega);omega
theorem E8:∀ e:ExT,(AG e).length<=e.size
 | .nil=>by simp[AG]
 | .mk op v n kid=>by
   show ((if op=3 then [v] else [])++BL n fun i=>AG (kid i)).length<=1+sumN n fun i=>(kid i).size
   rw[WY];have h1:=Gt (f:=fun i=>AG (kid i)) (g:=fun i=>(kid i).size) n (fun i _=>E8 (kid i));have h2:(if op=3 then [v] else []:List Int).length<=1:=by split<;>simp
   omega
theorem Mm:∀ (e:ExT) (x:Value) (w:Wd),e.size<=4096->A0 w e x ->
 Calls prog 113 #[x] w fun y w'=>∃ u,y=.returned u/\OwnI w' w.heap.size u (AG e)/\Bw w w'
 | .nil,x,w,hp,h=>by unfold A0 at h;exact h.elim
 | .mk op v n kid,x,w,hp,h=>by
   unfold A0 at h;obtain⟨a,c,rfl,h2,h3,h4,h5⟩:=h;have H5:=Hd h5;have HSZ:Hq ((ExT.mk op v n kid).size=1+sumN n fun i=>(kid i).size):=Hd rfl;have HKS:Hq (∀ i,i<n->(kid i).size<(ExT.mk op v n kid).size):=Hd fun i hi=>ExT.kid_size hi
   have HVT:Hq (AG (ExT.mk op v n kid)=(if op=3 then [v] else [])++BL n fun i=>AG (kid i)):=Hd rfl;have IH:Hq (∀ (i:Nat) (x:Value) (W:Wd),(kid i).size<=4096->A0 W (kid i) x->Calls prog 113 #[x] W fun y w'=>∃ u,y=.returned u/\OwnI w' W.heap.size u (AG (kid i))/\Bw W w') :=
    Hd fun i x W h1 h2=>Mm (kid i) x W h1 h2
   obtain⟨E,hE⟩:=Ex (ExT.mk op v n kid);rw[<- hE] at HSZ hp HVT HKS ⊢;obtain⟨w1,hw1⟩:=Ex (w.alloc (.cells #[.int .i64 op,.int .i64 v,.slice a n c] 36));have HW1:Hq (_=w1):=Hd hw1.symm;have HB1:Hq (Bw w w1):=by rw[hw1];exact Hd (Af _ _)
   have g9:w1.heap[w.heap.size]?=some (.cells #[.int .i64 op,.int .i64 v,.slice a n c] 36 (0,0)):=by rw[hw1];exact WN _ _
   have hs1:w1.heap.size=w.heap.size+1:=by rw[hw1];simp
   have d0:w1.cell? ⟨w.heap.size,0,none⟩=some (.int .i64 op):=by rw[WQ _ _ 0 _ _ _ g9];rfl
   have d1:w1.cell? ⟨w.heap.size,1,none⟩=some (.int .i64 v):=by rw[WQ _ _ 1 _ _ _ g9];rfl
   have d2:w1.cell? ⟨w.heap.size,2,none⟩=some (.slice a n c):=by rw[WQ _ _ 2 _ _ _ g9];rfl
   unfold okI at h2 h3;obtain⟨w2,gd⟩:=Ex (w1.alloc (.cells #[] 3));have gq:Hq (_=w2):=Hd gd.symm;have HB2:Hq (Bw w1 w2):=by rw[gd];exact Hd (Af _ _)
   have gi:Hq (OwnI w2 w1.heap.size (.slice (some ⟨w.heap.size+1,0,none⟩) 0 0) []):=by rw[gd,<- hs1];exact Hd (F4 _ _ (WM _))
   clear h5 hE hw1 gd g9
   go_enter func113,ntmps113
   go_upto_region 1 with fail;rw[HW1.o];go_upto_region 2 with fail;obtain⟨Z,hZ⟩:=Ex (if op=3 then [v] else []:List Int)
   have HZ:=Hd hZ;have gl:Hq (Z.length<=1):=Hd (by rw[hZ];split<;>simp);rw[gq.o];have gk:w1.heap.size<=w2.heap.size:=HB2.o.size;have d0':=Cq HB2.o d0;have d1':=Cq HB2.o d1
   by_cases h3:op=3
   ·rw[WR h3] at hZ;subst h3;clear h2;go_wp2_with (at_builtin;refine Dn _ rfl _ _ rfl w1.heap.size w1 _ [] _ rfl rfl rfl rfl (by exact gi.o) (by simp) gk HB2.o ?_;intro v3 w3 gj g7 gn _)
    go_loopw [3,4] (fun s3 s4 wr=>∃ i:Nat,i<=n/\s4=.int .i64 i/\Bw w1 wr/\OwnI wr w1.heap.size s3 (Z++BL i fun i=>AG (kid i))/\w1.heap.size<=wr.heap.size) (fun _ s4 _=>n-(intOf s4).toNat)
    case atStart=>exact⟨0,WX _,rfl,g7,by rw[hZ];simpa [BL] using gj,gn⟩
    case round =>
     obtain⟨i,gp,rfl,g2,g5,gm⟩:=hrel;have d2':=Cq g2 d2;have g0:=Hd g2;have gb:=Hd g5;clear g2 g5
     by_cases g6:i<n
     ·obtain⟨b,off,x0,x1,x2,rfl,c0,c1,c2,hx⟩:=H5.o i g6;have g1:=HB1.o.trans (g0.o.mono HB1.o.size);have e0:=Cq g1 c0;have e1:=Cq g1 c1;have e2:=Cq g1 c2;have HX:=Hd (hx.below g1);have gg:(i:Int)<n:=by omega
      have go:=HKS.o i g6
      have gc:Hq ((Z++BL i fun i=>AG (kid i)).length+(AG (kid i)).length<=4096):=Hd (by
       have s1:=Ef (f:=fun i=>(kid i).size) g6;have s2:=HSZ.o;have s3:=Gt (f:=fun i=>AG (kid i)) (g:=fun i=>(kid i).size) i (fun i _=>E8 (kid i));have s4:=E8 (kid i);have s5:=gl.o;rw[WY];omega)
      clear c0 c1 c2 hx g1;go_upto_region 7 with fail
      go_wp2_with (first
       | (go_at_call 113;refine(IH.o i _ _ (by omega) HX.o).mono ?_;rintro y w3 ⟨u,rfl,hu,g7⟩;obtain⟨au,cu,rfl,ga,ge⟩:=hu.sliceIs (by have:=gc.o;omega);have HU:=Hd ga;have g8:=Hd g7;clear hu ga g7)
       | (at_builtin;refine GT rfl _ _ rfl w1.heap.size w1 _ (Z++BL i fun i=>AG (kid i)) (AG (kid i)) au cu rfl rfl (by exact gb.o.below g8.o) (by exact HU.o) (by have:=gc.o;omega) (by have:=g8.o.size;omega) (by exact g0.o.trans (g8.o.mono g0.o.size)) ge ?_;intro v4 w4 g4 gh gf _))
      go_roundw
      case rel=>exact⟨i+1,by omega,by go_num,gh,by rw[Xf] at g4;exact g4,gf⟩
      case measure=>simp[intOf];omega
     ·have he:i=n:=by omega
      have gg:¬ (i:Int)<n:=by omega
      have HF:Hq (∃ u,Ending.returned u3=.returned u/\OwnI wr w.heap.size u (AG E)/\Bw w wr):=Hd ⟨u3,rfl,by rw[HVT.o,<- HZ.o,<- he];exact gb.o.lower (by omega),HB1.o.trans (g0.o.mono HB1.o.size)⟩;go_wp2_with fail;go_ret;exact HF.o
   ·rw[WO h3] at hZ;have g3:(op == 3)=false:=by simpa using h3
    clear h3;go_wp2_with fail
    go_loopw [3,4] (fun s3 s4 wr=>∃ i:Nat,i<=n/\s4=.int .i64 i/\Bw w1 wr/\OwnI wr w1.heap.size s3 (Z++BL i fun i=>AG (kid i))/\w1.heap.size<=wr.heap.size) (fun _ s4 _=>n-(intOf s4).toNat)
    case atStart=>exact⟨0,WX _,rfl,HB2.o,by rw[hZ];simpa [BL] using gi.o,gk⟩
    case round =>
     obtain⟨i,gp,rfl,g2,g5,gm⟩:=hrel;have d2':=Cq g2 d2;have g0:=Hd g2;have gb:=Hd g5;clear g2 g5
     by_cases g6:i<n
     ·obtain⟨b,off,x0,x1,x2,rfl,c0,c1,c2,hx⟩:=H5.o i g6;have g1:=HB1.o.trans (g0.o.mono HB1.o.size);have e0:=Cq g1 c0;have e1:=Cq g1 c1;have e2:=Cq g1 c2;have HX:=Hd (hx.below g1);have gg:(i:Int)<n:=by omega
      have go:=HKS.o i g6
      have gc:Hq ((Z++BL i fun i=>AG (kid i)).length+(AG (kid i)).length<=4096):=Hd (by
       have s1:=Ef (f:=fun i=>(kid i).size) g6;have s2:=HSZ.o;have s3:=Gt (f:=fun i=>AG (kid i)) (g:=fun i=>(kid i).size) i (fun i _=>E8 (kid i));have s4:=E8 (kid i);have s5:=gl.o;rw[WY];omega)
      clear c0 c1 c2 hx g1;go_upto_region 7 with fail
      go_wp2_with (first
       | (go_at_call 113;refine(IH.o i _ _ (by omega) HX.o).mono ?_;rintro y w3 ⟨u,rfl,hu,g7⟩;obtain⟨au,cu,rfl,ga,ge⟩:=hu.sliceIs (by have:=gc.o;omega);have HU:=Hd ga;have g8:=Hd g7;clear hu ga g7)
       | (at_builtin;refine GT rfl _ _ rfl w1.heap.size w1 _ (Z++BL i fun i=>AG (kid i)) (AG (kid i)) au cu rfl rfl (by exact gb.o.below g8.o) (by exact HU.o) (by have:=gc.o;omega) (by have:=g8.o.size;omega) (by exact g0.o.trans (g8.o.mono g0.o.size)) ge ?_;intro v4 w4 g4 gh gf _))
      go_roundw
      case rel=>exact⟨i+1,by omega,by go_num,gh,by rw[Xf] at g4;exact g4,gf⟩
      case measure=>simp[intOf];omega
     ·have he:i=n:=by omega
      have gg:¬ (i:Int)<n:=by omega
      have HF:Hq (∃ u,Ending.returned u3=.returned u/\OwnI wr w.heap.size u (AG E)/\Bw w wr):=Hd ⟨u3,rfl,by rw[HVT.o,<- HZ.o,<- he];exact gb.o.lower (by omega),HB1.o.trans (g0.o.mono HB1.o.size)⟩;go_wp2_with fail;go_ret;exact HF.o
theorem SL (a:Option Addr)(c:Nat)(zs:List Int)(v:Int)(w:Wd)(hl:zs.length<=1000000)(h:An w a zs) :
 Calls prog 151 #[.slice a zs.length c,.int .i64 v] w (Sm (.bool (decide (v∈zs))) w):=by
 have HI:=Hd h;clear h;have g4:Hq ((∀ j,j<zs.length->at0 zs j≠v)->decide (v∈zs)=false):=Hd fun hh=>X8 fun hm=>by
  obtain⟨j,hj,e⟩:=XX hm;exact hh j hj (by rw[AI hj];exact e)
 have g2:Hq (∀ j,j<zs.length->at0 zs j=v->decide (v∈zs)=true):=Hd fun j hj e=>XA (by rw[AI hj] at e;rw[<- e];exact Xp hj)
 go_enter func151,ntmps151
 go_wp2_with fail
 go_loopw [5] (fun s5 wr=>∃ i:Nat,i<=zs.length/\s5=.int .i64 i/\w=wr/\Hq (∀ j,j<i->at0 zs j≠v)) (fun s5 _=>zs.length-(intOf s5).toNat)
 case atStart=>exact⟨0,WX _,rfl,rfl,Hd fun j hj=>by omega⟩
 case round =>
  obtain⟨i,hi,rfl,rfl,HN⟩:=hrel
  by_cases g1:i<zs.length
  ·obtain⟨b,off,rfl,hc⟩:=HI.o.cells i g1;have g3:(i:Int)<zs.length:=by omega
   obtain⟨z,hz⟩:=Ex (at0 zs i);rw[<- hz] at hc
   by_cases he:z=v
   . have HY:=Hd (g2.o i g1 (by rw[<- hz,he]));subst he;clear hz;go_wp2_with fail;go_ret;exact⟨by rw[HY.o];rfl,rfl⟩
   ·have g5:(z == v)=false:=by simpa using he
    have g0:Hq (∀ j,j<i+1->at0 zs j≠v):=Hd fun j hj=>by
     rcases Xe j i with h|h
     . exact HN.o j h
     ·obtain rfl:j=i:=by omega
      rw[<- hz];exact he
    clear hz he;go_wp2_with fail;go_roundw
    case rel=>exact⟨i+1,by omega,by go_num,by simp,g0⟩
    case measure=>simp[intOf];omega
  ·have g0:=Hd (g4.o fun j hj=>HN.o j (by omega));have g3:¬ (i:Int)<zs.length:=by omega
   go_wp2_with fail;go_ret;exact⟨by rw[g0.o];rfl,rfl⟩
structure PutS (zs:List Int)(v:Int)(i:Nat)(d:Bool)(os:List Int):Prop where
 mem:∀ x,x∈os↔x∈zs.take i\/(d=true/\x=v)
 len:os.length=i+if d then 1 else 0
 srt:os.Pairwise (· < ·)
 low:d=false->∀ x∈os,x<v
 up:d=true->∀ x∈os,∀ y∈zs.drop i,x<y
theorem Mn {os:List Int}{z:Int}(h:os.Pairwise (· < ·))(hz:∀ x∈os,x<z):(os++[z]).Pairwise (· < ·) :=
 List.pairwise_append.2 ⟨h,List.pairwise_singleton ..,fun x hx y hy=>by rw[Xg.1 hy];exact hz x hx⟩
theorem Mo (hs:zs.Pairwise (· < ·))(hi:i<zs.length):(∀ y∈zs.drop i,at0 zs i<=y)/\(∀ y∈zs.drop (i+1),at0 zs i<y)/\(∀ x∈zs.take i,x<at0 zs i):=by
 have e:zs.drop i=at0 zs i::zs.drop (i+1):=by rw[AI hi];exact(X2 hi)
 have hd:(zs.drop i).Pairwise (· < ·):=hs.sublist (List.drop_sublist ..);rw[e,List.pairwise_cons] at hd;have h2:=hs;rw[<- Yj i zs,List.pairwise_append] at h2;refine⟨fun y hy=>?_,hd.1,fun x hx=>h2.2.2 x hx _ (by rw[e];exact Xr ..)⟩;rw[e] at hy;rcases XI.1 hy with h|h
 . omega
 . have:=hd.1 y h;omega
theorem PutS.here {v:Int}{os:List Int}(h:PutS zs v i false os)(hu:∀ y∈zs.drop i,v<y):PutS zs v i true (os++[v]):=by
 refine⟨fun x=>?_,by simp[h.len],Mn h.srt (h.low rfl),by simp,fun _ x hx y hy=>?_⟩
 . have:=h.mem x;simp only[Zb,false_and,or_false] at this;simp[this]
 ·rcases Xa.1 hx with h1|h1
  . have:=h.low rfl x h1;have:=hu y hy;omega
  . rw[Xg.1 h1];exact hu y hy
theorem PutS.next {v:Int}{d:Bool}{os:List Int}(h:PutS zs v i d os)(hs:zs.Pairwise (· < ·))(hi:i<zs.length)(hd:d=false->at0 zs i<v):PutS zs v (i+1) d (os++[at0 zs i]):=by
 obtain⟨q1,q2,q3⟩:=Mo hs hi;have g0:∀ x∈os,x<at0 zs i:=fun x hx=>by
  cases d with
  | true=>exact h.up rfl x hx _ (by rw[X2 hi,AI hi];exact Xr ..)
  | false =>
    rcases(h.mem x).1 hx with h1|⟨h1,_⟩
    . exact q3 x h1
    . cases h1
 refine⟨fun x=>?_,by have:=h.len;simp[this];omega,Mn h.srt g0,fun e x hx=>?_,fun e x hx y hy=>?_⟩
 ·rw[WZ hi,Xa,Xa,h.mem x,AI hi];simp only[Xg];constructor
  ·rintro((h1|h1)|h1)
   . exact .inl (.inl h1)
   . exact .inr h1
   . exact .inl (.inr h1)
  ·rintro((h1|h1)|h1)
   . exact .inl (.inl h1)
   . exact .inr h1
   . exact .inl (.inr h1)
 ·rcases Xa.1 hx with h1|h1
  . exact h.low e x h1
  . rw[Xg.1 h1];exact hd e
 ·have g1:=q2 y hy;rcases Xa.1 hx with h1|h1
  . have:=g0 x h1;omega
  . rw[Xg.1 h1];exact g1
theorem SM (a:Option Addr)(c:Nat)(zs:List Int)(v:Int)(w:Wd)(hl:zs.length<=1000000)(h:An w a zs)(hsr:zs.Pairwise (· < ·))(hnm:v∉zs) :
 Calls prog 152 #[.slice a zs.length c,.int .i64 v] w fun y w'=>∃ u os,y=.returned u/\OwnI w' w.heap.size u os/\((∀ x,x∈os↔x∈zs\/x=v)/\os.Pairwise (· < ·))/\os.length=zs.length+1/\Bw w w':=by
 have HI:=Hd h;have g9:=Hd hsr;have gh:Hq (∀ i,i<zs.length->at0 zs i≠v):=Hd fun i hi e=>hnm (by rw[<- e,AI hi];exact Xp hi)
 clear h hsr hnm;have ga:Hq (∀ os,PutS zs v zs.length true os->((∀ x,x∈os↔x∈zs\/x=v)/\os.Pairwise (· < ·))/\os.length=zs.length+1):=Hd fun os h=>⟨⟨fun x=>by have:=h.mem x;rw[Xx] at this;simpa using this,h.srt⟩,by simpa using h.len⟩
 go_enter func152,ntmps152
 go_wp2_with fail
 go_loopw [5,6,7] (fun s5 s6 s7 wr=>∃ (i:Nat) (d:Bool) (os:List Int),i<=zs.length/\s6=.bool d/\s7=.int .i64 i/\OwnI wr w.heap.size s5 os/\w.heap.size<=wr.heap.size/\Bw w wr/\Hq (PutS zs v i d os)) (fun _ _ s7 _=>zs.length-(intOf s7).toNat)
 case atStart=>exact⟨0,false,[],WX _,rfl,rfl,F4 w _ (WM _),by simp,Af w _,Hd ⟨fun x=>by simp,by simp,List.Pairwise.nil,by simp,by simp⟩⟩
 case round =>
  obtain⟨i,d,os,hi,rfl,rfl,g7,g8,g5,HP⟩:=hrel;have gj:os.length<=i+1:=by rw[HP.o.len];split<;>omega
  by_cases g4:i<zs.length
  ·obtain⟨b,off,rfl,hc⟩:=(HI.o.below g5).cells i g4;have g6:=Hd g7;have g3:=Hd g5;have gf:(i:Int)<zs.length:=by omega
   obtain⟨z,hz⟩:=Ex (at0 zs i);rw[<- hz] at hc;have HZ:=Hd hz;clear g7 g5 hz;cases d with
   | true =>
     go_wp2_with (at_builtin;refine Dn _ rfl _ _ rfl w.heap.size w _ os _ rfl rfl rfl rfl (by exact g6.o) (by omega) g8 g3.o ?_;intro v1 w1 g1 g0 g2 _);go_roundw
     case rel=>exact⟨i+1,true,_,by omega,rfl,by go_num,g1,g2,g0,Hd (by rw[HZ.o];exact HP.o.next g9.o g4 (by simp))⟩
     case measure=>simp[intOf];omega
   | false =>
     by_cases gk:z>v
     ·have cne:∀ W:Wd,Bw wr W->W.cell? ⟨b,off+i,none⟩=some (.int .i64 z):=fun W hb=>(Cq hb hc)
      have ge:b<w.heap.size:=by
       obtain⟨b',o',e,c'⟩:=HI.o.cells i g4;cases e;exact Ag c'
      go_upto_region 8 with (at_builtin;refine Dn _ rfl _ _ rfl w.heap.size w _ os _ rfl rfl rfl rfl (by exact g6.o) (by omega) g8 g3.o ?_;intro v1 w1 g1 g0 g2 _)
      have gl:w1.cell? ⟨b,off+i,none⟩=some (.int .i64 z):=by
       obtain⟨b',o',e,c'⟩:=HI.o.cells i g4;cases e;rw[(g0.cell (p:=⟨b,off+i,none⟩) ge),HZ.o];exact c'
      have gg:=Hd g1;have gi:=Hd g0;clear g1 g0 hc cne;go_wp2_with (at_builtin;refine Dn _ rfl _ _ rfl w.heap.size w _ (os++[v]) _ rfl rfl rfl rfl (by exact gg.o) (by simp;omega) g2 gi.o ?_;intro v2 w2 gb gc gd _);go_roundw
      case rel=>exact⟨i+1,true,_,by omega,rfl,by go_num,gb,gd,gc,Hd (by rw[HZ.o];exact(HP.o.here fun y hy=>by have:=(Mo g9.o g4).1 y hy;have:=HZ.o;omega).next g9.o g4 (by simp))⟩
      case measure=>simp[intOf];omega
     ·go_wp2_with (at_builtin;refine Dn _ rfl _ _ rfl w.heap.size w _ os _ rfl rfl rfl rfl (by exact g6.o) (by omega) g8 g3.o ?_;intro v1 w1 g1 g0 g2 _);go_roundw
      case rel=>exact⟨i+1,false,_,by omega,rfl,by go_num,g1,g2,g0,Hd (by rw[HZ.o];exact HP.o.next g9.o g4 fun _=>by have:=gh.o i g4;have:=HZ.o;omega)⟩
      case measure=>simp[intOf];omega
  ·have he:i=zs.length:=by omega
   have gf:¬ (i:Int)<zs.length:=by omega
   have g6:=Hd g7;have g3:=Hd g5;have HE:=Hd he;clear g7 g5 he;cases d with
   | true =>
     have HF:=ga.o os (by rw[<- HE.o];exact HP.o);go_wp2_with fail;go_ret;exact⟨_,rfl,os,g6.o,HF.1,HF.2,g3.o⟩
   | false =>
     have HF:=Hd (ga.o (os++[v]) (by rw[<- HE.o];exact HP.o.here (by rw[HE.o];simp)));go_wp2_with (at_builtin;refine Dn _ rfl _ _ rfl w.heap.size w _ os _ rfl rfl rfl rfl (by exact g6.o) (by omega) g8 g3.o ?_;intro v1 w1 g1 g0 g2 _);go_ret;exact⟨_,rfl,_,g1,HF.o.1,HF.o.2,g0⟩
theorem Mp (hi:i<zs.length)(x:Int):x∈zs.take (i+1)↔x∈zs.take i\/x=at0 zs i:=by
 rw[WZ hi,Xa,AI hi,Xg]
theorem SN (a:Option Addr)(c:Nat)(zs:List Int)(w:Wd)(hl:zs.length<=900000)(h:An w a zs) :
 Calls prog 112 #[.slice a zs.length c] w fun y w'=>∃ u os,y=.returned u/\OwnI w' w.heap.size u os/\((∀ x,x∈os↔x∈zs)/\os.Pairwise (· < ·))/\os.length<=zs.length/\Bw w w':=by
 have HI:=Hd h;clear h
 go_enter func112,ntmps112
 go_wp2_with fail
 go_loopw [3,4] (fun s3 s4 wr=>∃ (i:Nat) (os:List Int),i<=zs.length/\s4=.int .i64 i/\OwnI wr w.heap.size s3 os/\w.heap.size<=wr.heap.size/\Bw w wr/\os.length<=i/\Hq ((∀ x,x∈os↔x∈zs.take i)/\os.Pairwise (· < ·))) (fun _ s4 _=>zs.length-(intOf s4).toNat)
 case atStart=>exact⟨0,[],WX _,rfl,F4 w _ (WM _),by simp,Af w _,by simp,Hd ⟨fun x=>by simp,List.Pairwise.nil⟩⟩
 case round =>
  obtain⟨i,os,hi,rfl,g0,g6,g1,gj,HP⟩:=hrel
  by_cases gc:i<zs.length
  ·obtain⟨b,off,rfl,hc⟩:=(HI.o.below g1).cells i gc;have gf:(i:Int)<zs.length:=by omega
   obtain⟨z,hz⟩:=Ex (at0 zs i);rw[<- hz] at hc;obtain⟨ao,co,rfl,g8,gi⟩:=g0.sliceIs (by omega);have g4:=Hd (SL ao co os z wr (by omega) g8);have g3:Hq (z∉os->_):=Hd fun h=>SM ao co os z wr (by omega) g8 HP.o.2 h
   have ga:=Hd g0;have g5:=Hd g1;have HT:=Hd (Mp gc);have HZ:=Hd hz;clear g0 g1 hz g8
   by_cases hm:z∈os
   ·have hb:decide (z∈os)=true:=by simp[hm]
    rw[hb] at g4
    have gb:Hq ((∀ x,x∈os↔x∈zs.take (i+1))/\os.Pairwise (· < ·)):=Hd ⟨fun x=>by
     rw[HT.o x,<- HZ.o];constructor
     . intro h;exact .inl ((HP.o.1 x).1 h)
     ·rintro(h|rfl)
      . exact(HP.o.1 x).2 h
      . exact hm,HP.o.2⟩
    clear hm hb g3;go_wp2_with fail;refine g4.o.mono ?_;rintro y w' ⟨rfl,rfl⟩;go_wp2_with fail;go_roundw
    case rel=>exact⟨i+1,os,by omega,by go_num,ga.o,g6,g5.o,by omega,gb⟩
    case measure=>simp[intOf];omega
   ·have hb:decide (z∈os)=false:=by simp[hm]
    rw[hb] at g4;have g3:=Hd (g3.o hm);clear hm hb;go_wp2_with fail;refine g4.o.mono ?_;rintro y w' ⟨rfl,rfl⟩;go_wp2_with fail;refine g3.o.mono ?_;rintro y w2 ⟨u,os2,rfl,g7,g2,gh,g9⟩
    have gb:Hq ((∀ x,x∈os2↔x∈zs.take (i+1))/\os2.Pairwise (· < ·)):=Hd ⟨fun x=>by
     rw[g2.1 x,HT.o x,<- HZ.o,HP.o.1 x],g2.2⟩
    have gg:Hq (OwnI w2 w.heap.size u os2):=Hd (g7.lower g6);have HB2:=Hd (g5.o.trans (g9.mono g6));have ge:w.heap.size<=w2.heap.size:=WU g6 g9.size;clear g7 g2 g9;go_wp2_with fail;go_roundw
    case rel=>exact⟨i+1,os2,by omega,by go_num,gg.o,ge,HB2.o,by omega,gb⟩
    case measure=>simp[intOf];omega
  ·have he:i=zs.length:=by omega
   have gf:¬ (i:Int)<zs.length:=by omega
   have ga:=Hd g0;have g5:=Hd g1;have HM:Hq ((∀ x,x∈os↔x∈zs)/\os.Pairwise (· < ·)):=Hd ⟨fun x=>by have:=HP.o.1 x;rw[he,Xx] at this;exact this,HP.o.2⟩;have gd:os.length<=zs.length:=by omega
   clear g0 g1 he;go_wp2_with fail;go_ret;exact⟨_,rfl,os,ga.o,HM.o,gd,g5.o⟩
theorem A0.agg {w:Wd}{e:ExT}{x:Value}(h:A0 w e x):∃ x0 x1 x2,x=.agg #[x0,x1,x2]/\x0.cells=#[x0]/\x1.cells=#[x1]/\x2.cells=#[x2]:=by
 cases e with
 | nil=>unfold A0 at h;exact h.elim
 | mk op v n kid =>
   unfold A0 at h;obtain⟨a,c,rfl,_⟩:=h;exact⟨_,_,_,rfl,rfl,rfl,rfl⟩
theorem SO (e:ExT)(x:Value)(w:Wd)(hs:e.size<=4096)(h:A0 w e x) :
 Calls prog 57 #[x] w fun y w'=>∃ u os,y=.returned u/\SliceIs w' u os/\os.length<=4096/\(okT e 1->(∀ v,v∈os↔v∈AG e)/\os.Pairwise (· < ·))/\Bw w w':=by
 have HC:Hq (∀ W,Bw w W->∀ u,u=x->Calls prog 56 #[u] W fun y w'=>∃ err:Int,y=.returned (.int .i64 err)/\(err=0↔okT e 1)/\Bw W w'):=Hd fun W hb u hu=>by subst hu;exact Jh e _ W hs (h.below hb)
 have HV:Hq (∀ W,Bw w W->∀ u,u=x->Calls prog 113 #[u] W fun y w'=>∃ u,y=.returned u/\OwnI w' W.heap.size u (AG e)/\Bw W w'):=Hd fun W hb u hu=>by subst hu;exact Mm e _ W hs (h.below hb)
 have gd:=E8 e;obtain⟨x0,x1,x2,hx,o0,o1,o2⟩:=h.agg;subst hx;obtain⟨w1,g2⟩:=Ex (w.alloc (.cells #[x0,x1,x2] 36));have HW1:Hq (_=w1):=Hd g2.symm;have g6:Hq (Bw w w1):=by rw[g2];exact Hd (Af _ _)
 have g0:w1.heap[w.heap.size]?=some (.cells #[x0,x1,x2] 36 (0,0)):=by rw[g2];exact WN _ _
 have d0:w1.cell? ⟨w.heap.size,0,none⟩=some x0:=by rw[WQ _ _ 0 _ _ _ g0];rfl
 have d1:w1.cell? ⟨w.heap.size,1,none⟩=some x1:=by rw[WQ _ _ 1 _ _ _ g0];rfl
 have d2:w1.cell? ⟨w.heap.size,2,none⟩=some x2:=by rw[WQ _ _ 2 _ _ _ g0];rfl
 clear h g2 g0
 go_enter func57,ntmps57
 go_upto_region 1 with fail;rw[HW1.o];go_wp2_with fail;refine(HC.o _ g6.o _ rfl).mono ?_;rintro y w2 ⟨err,rfl,g5,g1⟩;have HB2:=Hd (g6.o.trans (g1.mono g6.o.size));have gc:=Hd g5;have e0:=Cq g1 d0;have e1:=Cq g1 d1;have e2:=Cq g1 d2;clear g1 g5 d0 d1 d2
 by_cases he:err=0
 . subst he;go_wp2_with fail;refine(HV.o _ HB2.o _ rfl).mono ?_;rintro y w3 ⟨u,rfl,hu,g9⟩;obtain⟨au,cu,rfl,g7,ge⟩:=hu.sliceIs (by omega);have HO:=Hd (SN au cu (AG e) w3 (by omega) g7);have ga:=Hd (HB2.o.trans (g9.mono HB2.o.size));clear hu g7 g9 e0 e1 e2;go_wp2_with fail;refine HO.o.mono ?_;rintro y w4 ⟨u4,os,rfl,g3,g4,gb,g8⟩;have HF:Hq (∃ u os,Ending.returned u4=.returned u/\SliceIs w4 u os/\os.length<=4096/\(okT e 1->(∀ v,v∈os↔v∈AG e)/\os.Pairwise (· < ·))/\Bw w w4):=Hd ⟨u4,os,rfl,g3.sliceIs (by omega),by omega,fun _=>g4,ga.o.trans (g8.mono ga.o.size)⟩;clear g3 g4 gb g8;go_wp2_with fail;go_ret;exact HF.o
 ·have gf:(err != 0)=true:=by simpa using he
  have HF:Hq (∃ u os,Ending.returned (.slice none 0 0)=.returned u/\SliceIs w2 u os/\os.length<=4096/\(okT e 1->(∀ v,v∈os↔v∈AG e)/\os.Pairwise (· < ·))/\Bw w w2):=Hd ⟨_,[],rfl,Kb w2,by simp,fun h=>(he (gc.o.2 h)).elim,HB2.o⟩;clear he e0 e1 e2;go_wp2_with fail;go_ret;exact HF.o
theorem SP (e:ExT)(x:Value)(w:Wd)(hs:e.size<=4096)(h:A0 w e x) :
 Calls prog 57 #[x] w fun y w'=>∃ u os,y=.returned u/\SliceIs w' u os/\os.length<=4096/\(okT e 1->∀ v∈AG e,v∈os)/\Bw w w' :=
 (SO e x w hs h).mono fun _ _ ⟨u,os,h1,h2,h3,h4,h5⟩=>⟨u,os,h1,h2,h3,fun hk v hv=>((h4 hk).1 v).2 hv,h5⟩
structure EvsAt (w:Wd)(a:Option Addr)(l:List Ev):Prop where
 len:l.length<=9223372036854775807
 cells:∀ k,∀ hk:k<l.length,∃ b off,a=some ⟨b,off,none⟩/\w.cell? ⟨b,off+k*3,none⟩=some (.int .i64 l[k].after)/\w.cell? ⟨b,off+k*3+1,none⟩=some (.int .i64 l[k].kind)/\w.cell? ⟨b,off+k*3+2,none⟩=some (.int .i64 l[k].level)
theorem EvsAt.below {a:Option Addr}{l:List Ev}(h:EvsAt w a l)(hb:Bw w w'):EvsAt w' a l :=
 ⟨h.len,fun k hk=>by
  obtain⟨b,off,e,c0,c1,c2⟩:=h.cells k hk;exact⟨b,off,e,(Cq hb c0),(Cq hb c1),(Cq hb c2)⟩⟩
def CT (vars:Int)(e:Ev):Int:=if e.kind<1\/e.kind>3 then 11 else if e.after<1\/(e.kind=2/\(e.level<0\/e.level>vars-2)) then 2 else 0
def CU (vars:Int):List Ev->Int
 | []=>0
 | e::r=>if CT vars e=0 then CU vars r else CT vars e
def Be (vars waits:Int)(l:List Ev):Int:=if (l.length:Int)>256-waits then 18 else CU vars l
theorem Gu {vars:Int}{l:List Ev}(hi:i<l.length):CU vars (l.drop i)=if CT vars l[i]=0 then CU vars (l.drop (i+1)) else CT vars l[i]:=by
 rw[X2 hi];rfl
theorem SQ (vars waits:Int)(hv:0<=vars/\vars<=1000)(hw:0<=waits/\waits<=1000)(a:Option Addr)(c:Nat)(l:List Ev)(w:Wd)(h:EvsAt w a l) :
 Calls prog 54 #[.int .i64 vars,.int .i64 waits,.slice a l.length c] w (Sm (.int .i64 (Be vars waits l)) w):=by
 have HI:=Hd h;have hl:=h.len;clear h
 by_cases g1:(l.length:Int)>256-waits
 ·have HR:Hq (Be vars waits l=18):=Hd (by unfold Be;rw[WR g1])
  go_enter func54,ntmps54
  go_wp2_with fail;go_ret;exact⟨by rw[HR.o];rfl,rfl⟩
 have HR:Hq (Be vars waits l=CU vars (l.drop 0)):=Hd (by unfold Be;rw[WO g1];rfl);obtain⟨P,hP⟩:=Ex (Be vars waits l);rw[<- hP] at HR ⊢;clear hP
 go_enter func54,ntmps54
 go_wp2_with fail
 go_loopw [7] (fun s7 wr=>∃ i:Nat,i<=l.length/\s7=.int .i64 i/\w=wr/\Hq (P=CU vars (l.drop i))) (fun s7 _=>l.length-(intOf s7).toNat)
 case atStart=>exact⟨0,WX _,rfl,rfl,HR⟩
 case round =>
  clear HR;obtain⟨i,hi,rfl,rfl,HP⟩:=hrel
  by_cases g2:i<l.length
  ·obtain⟨b,off,rfl,c0,c1,c2⟩:=HI.o.cells i g2;have g8:(i:Int)<l.length:=by omega
   have HC:Hq (∀ z:Int,CT vars l[i]=z->z≠0->P=z):=Hd fun z hz h0=>by rw[HP.o,Gu g2,hz,WO h0]
   have HN:Hq (CT vars l[i]=0->P=CU vars (l.drop (i+1))):=Hd fun hz=>by rw[HP.o,Gu g2,hz,WR rfl]
   have HE:Hq (CT vars l[i]=if l[i].kind<1\/l[i].kind>3 then 11 else if l[i].after<1\/(l[i].kind=2/\(l[i].level<0\/l[i].level>vars-2)) then 2 else 0):=Hd rfl;obtain⟨ev,g3⟩:=Ex (l[i]);rw[<- g3] at c0 c1 c2 HC HN HE;obtain⟨af,ki,le⟩:=ev;dsimp only at c0 c1 c2 HE;clear g3 HP;have g6:ki<1\/ki>3\/(ki=2)\/(ki=1\/ki=3):=by omega
   rcases g6 with hk|hk|hk|hk
   . have g0:=Hd (HC.o 11 (by rw[HE.o,WR (.inl hk)]) (by decide));go_wp2_with fail;go_ret;exact⟨by rw[g0.o];rfl,rfl⟩
   ·have g0:=Hd (HC.o 11 (by rw[HE.o,WR (.inr hk)]) (by decide));have g7:¬ ki<1:=by omega
    go_wp2_with fail;go_ret;exact⟨by rw[g0.o];rfl,rfl⟩
   ·by_cases ha:af<1
    . have g0:=Hd (HC.o 2 (by rw[HE.o,WO (by omega),WR (.inl ha)]) (by decide));subst hk;go_wp2_with fail;go_ret;exact⟨by rw[g0.o];rfl,rfl⟩
    ·by_cases g5:le<0
     . have g0:=Hd (HC.o 2 (by rw[HE.o,WO (by omega),WR (.inr ⟨hk,.inl g5⟩)]) (by decide));subst hk;go_wp2_with fail;go_ret;exact⟨by rw[g0.o];rfl,rfl⟩
     ·by_cases g4:le>vars-2
      . have g0:=Hd (HC.o 2 (by rw[HE.o,WO (by omega),WR (.inr ⟨hk,.inr g4⟩)]) (by decide));subst hk;go_wp2_with fail;go_ret;exact⟨by rw[g0.o];rfl,rfl⟩
      ·have g0:=Hd (HN.o (by rw[HE.o,WO (by omega),WO (by omega)]));subst hk;go_wp2_with fail;go_roundw
       case rel=>exact⟨i+1,by omega,by go_num,by simp,g0⟩
       case measure=>simp[intOf];omega
   ·have g7:¬ ki<1:=by omega
    have ga:¬ ki>3:=by omega
    have g9:(ki == 2)=false:=by simp;omega
    by_cases ha:af<1
    . have g0:=Hd (HC.o 2 (by rw[HE.o,WO (by omega),WR (.inl ha)]) (by decide));clear hk;go_wp2_with fail;go_ret;exact⟨by rw[g0.o];rfl,rfl⟩
    ·have g0:=Hd (HN.o (by rw[HE.o,WO (by omega),WO (by omega)]));clear hk;go_wp2_with fail;go_roundw
     case rel=>exact⟨i+1,by omega,by go_num,by simp,g0⟩
     case measure=>simp[intOf];omega
  ·have he:i=l.length:=by omega
   have g8:¬ (i:Int)<l.length:=by omega
   have g0:Hq (P=0):=Hd (by rw[HP.o,he,List.drop_length];rfl);clear he;go_wp2_with fail;go_ret;exact⟨by rw[g0.o];rfl,rfl⟩
def cntP (zs:List Int)(v:Int)(i:Nat):Nat:=((zs.take i).filter (fun z=>decide (z=v))).length
theorem Eg {v:Int}(hi:i<zs.length)(h:at0 zs i=v):cntP zs v (i+1)=cntP zs v i+1:=by
 rw[AI hi] at h;unfold cntP;rw[WZ hi,XO];simp[h]
theorem Ji {v:Int}(hi:i<zs.length)(h:at0 zs i≠v):cntP zs v (i+1)=cntP zs v i:=by
 rw[AI hi] at h;unfold cntP;rw[WZ hi,XO];simp[h]
theorem SR (zs:List Int)(v:Int)(i:Nat):cntP zs v i<=i:=by
 unfold cntP;refine WU (XG _ _) ?_;rw[Yk];omega
def BE (zs:List Int)(n:Int):Bool:=decide ((zs.length:Int)=n/\∀ v,v<zs.length->cntP zs (v:Nat) zs.length=1)
theorem SS (a:Option Addr)(c:Nat)(zs:List Int)(n:Int)(w:Wd)(hz:An w a zs)(hl:zs.length<=1000000) :
 Calls prog 53 #[.slice a zs.length c,.int .i64 n] w (Sm (.bool (BE zs n)) w):=by
 have HZ:=Hd hz;clear hz
 by_cases hn:(zs.length:Int)=n
 ·subst hn;have HR:Hq (∀ b:Bool,(b=true↔∀ v,v<zs.length->cntP zs (v:Nat) zs.length=1)->BE zs zs.length=b):=by
   refine Hd fun b hb=>?_
   unfold BE;rw[Bool.eq_iff_iff,hb];simp
  go_enter func53,ntmps53
  go_wp2_with fail
  go_loopw [5] (fun s5 wr=>∃ k:Nat,k<=zs.length/\s5=.int .i64 k/\w=wr/\∀ v,v<k->cntP zs (v:Nat) zs.length=1) (fun s5 _=>zs.length-(intOf s5).toNat)
  case atStart=>exact⟨0,WX _,rfl,rfl,fun v hv=>by omega⟩
  case round =>
   obtain⟨k,hk,rfl,rfl,g2⟩:=hrel;have HA:=Hd g2;clear g2
   by_cases g3:k<zs.length
   ·have g4:(k:Int)<zs.length:=by omega
    go_wp2_with fail
    go_loopw [6,7] (fun s6 s7 wx=>∃ i:Nat,i<=zs.length/\s7=.int .i64 i/\s6=.int .i64 (cntP zs (k:Nat) i:Nat)/\w=wx) (fun _ s7 _=>zs.length-(intOf s7).toNat)
    case atStart=>exact⟨0,WX _,rfl,rfl,rfl⟩
    case round =>
     obtain⟨i,hi,rfl,rfl,rfl⟩:=hrel;have g6:=SR zs (k:Nat) i
     by_cases g1:i<zs.length
     ·obtain⟨b,off,ha,hc⟩:=HZ.o.cells i g1;subst ha;have g5:(i:Int)<zs.length:=by omega
      by_cases he:at0 zs i=(k:Nat)
      ·rw[he] at hc;have HY:=Hd (Eg g1 he);go_wp2_with fail;go_roundw
       case rel=>exact⟨i+1,by omega,by go_num,by rw[HY.o];go_num,trivial⟩
       case measure=>simp[intOf];omega
      ·have g0:((at0 zs i:Int) == (k:Nat))=false:=by simpa using he
       have HY:=Hd (Ji g1 he)
       generalize at0 zs i=z at hc g0
       clear he;go_wp2_with fail;go_roundw
       case rel=>exact⟨i+1,by omega,by go_num,by rw[HY.o],trivial⟩
       case measure=>simp[intOf];omega
     ·obtain rfl:i=zs.length:=by omega
      generalize hq:cntP zs (k:Nat) zs.length=q at *
      by_cases h1:q=1
      ·subst h1;have HQ:=Hd hq;clear hq;go_wp2_with fail;go_roundw
       case rel =>
        refine⟨k+1,by omega,by go_num,trivial,fun v hv=>?_⟩
        by_cases e:v=k
        . subst e;exact HQ.o
        . exact HA.o v (by omega)
       case measure=>simp[intOf];omega
      ·have g0:((q:Int) == 1)=false:=by simp;omega
       have HQ:=Hd hq;clear hq;go_wp2_with fail;go_ret;refine⟨?_,rfl⟩
       rw[HR.o false (by
        simp only[Zb,false_iff];intro hh;exact h1 ((HQ.o).symm.trans (hh k g3)))]
       rfl
   ·obtain rfl:k=zs.length:=by omega
    go_wp2_with fail;go_ret;refine⟨?_,rfl⟩;rw[HR.o true (by simp only[true_iff];exact HA.o)];rfl
 ·have g0:(((zs.length:Nat):Int) == n)=false:=by simpa using hn
  have HR:Hq (BE zs n=false):=by
   refine Hd ?_
   show BE zs n=false
   unfold BE;simp[hn]
  go_enter func53,ntmps53
  go_wp2_with fail;go_ret;exact⟨by rw[HR.o];rfl,rfl⟩
theorem SU (a:Option Addr)(c:Nat)(zs:List Int)(n:Int)(w:Wd)(hz:An w a zs)(hn:(zs.length:Int)≠n) :
 Calls prog 53 #[.slice a zs.length c,.int .i64 n] w (Sm (.bool false) w):=by
 have hl:=hz.len;have g0:(((zs.length:Nat):Int) == n)=false:=by simpa using hn
 clear hz
 go_enter func53,ntmps53
 go_wp2_with fail;go_ret;exact⟨rfl,rfl⟩
theorem SV (a:Option Addr)(c:Nat)(zs:List Int)(n:Int)(w:Wd)(hz:An w a zs)(hn:n<=1000) :
 Calls prog 53 #[.slice a zs.length c,.int .i64 n] w (Sm (.bool (BE zs n)) w):=by
 by_cases h:(zs.length:Int)=n
 . exact SS a c zs n w hz (by omega)
 ·have:BE zs n=false:=by unfold BE;simp[h]
  rw[this];exact SU a c zs n w hz h
theorem A0.parts {e:ExT}{x0 x1 x2:Value}(h:A0 w e (.agg #[x0,x1,x2])):∃ op v a n c,x0=.int .i64 op/\x1=.int .i64 v/\x2=.slice a n c:=by
 cases e with
 | nil=>unfold A0 at h;exact h.elim
 | mk op v n kid =>
   unfold A0 at h;obtain⟨a,c,hx,_⟩:=h;cases hx;exact⟨_,_,_,_,_,rfl,rfl,rfl⟩
structure Fo (w:Wd)(a:Option Addr)(l:List ExT):Prop where
 len:l.length<=9223372036854775807
 cells:∀ k,∀ hk:k<l.length,∃ b off x0 x1 x2,a=some ⟨b,off,none⟩/\w.cell? ⟨b,off+k*3,none⟩=some x0/\w.cell? ⟨b,off+k*3+1,none⟩=some x1/\w.cell? ⟨b,off+k*3+2,none⟩=some x2/\A0 w l[k] (.agg #[x0,x1,x2])
theorem Fo.below {w w':Wd}{a:Option Addr}{l:List ExT}(h:Fo w a l)(hb:Bw w w'):Fo w' a l :=
 ⟨h.len,fun k hk=>by
  obtain⟨b,off,x0,x1,x2,e,c0,c1,c2,hx⟩:=h.cells k hk;exact⟨b,off,x0,x1,x2,e,(Cq hb c0),(Cq hb c1),(Cq hb c2),hx.below hb⟩⟩
structure AskD where
 vars:Int
 order:List Int
 es:List ExT
 plan:List Ev
structure AskAt (w:Wd)(q:AskD)(ao ae ap:Option Addr):Prop where
 vars:okI q.vars
 order:An w ao q.order
 es:Fo w ae q.es
 plan:EvsAt w ap q.plan
theorem AskAt.below {w w':Wd}{q:AskD}{ao ae ap:Option Addr}(h:AskAt w q ao ae ap)(hb:Bw w w'):AskAt w' q ao ae ap:=⟨h.vars,h.order.below hb,h.es.below hb,h.plan.below hb⟩
structure E9 (q:AskD):Prop where
 lo:1<=q.vars
 hi:q.vars<=6
 es:q.es.length<=5
 plan:q.plan.length<=6
 order:q.order.length>0->BE q.order q.vars=true
 planOk:Be q.vars 0 q.plan=0
 after:∀ ev∈q.plan,ev.after<=300
 expr:∀ e∈q.es,e.size<=40/\okT e 1/\∀ v∈AG e,v<q.vars
def askV (q:AskD)(ao ae ap:Option Addr)(co ce cp:Nat):Value:=.agg #[.int .i64 q.vars,.slice ao q.order.length co,.slice ae q.es.length ce,.slice ap q.plan.length cp]
theorem SX (q:AskD)(ao ae ap:Option Addr)(co ce cp:Nat)(w:Wd)(h:AskAt w q ao ae ap) :
 Calls prog 12 #[askV q ao ae ap co ce cp] w fun y w'=>∃ b,y=.returned (.bool b)/\(b=true->E9 q)/\Bw w w':=by
 obtain⟨vars,order,es,plan⟩:=q;obtain⟨hv,ho,he,hp⟩:=h;dsimp only [askV] at hv ho he hp ⊢;unfold okI at hv;have ha:=ho.len;have hf:=he.len;have h9:=hp.len;have HO:=Hd ho;have HE:=Hd he;have HP:=Hd hp;obtain⟨w1,gg⟩:=Ex (w.alloc (.cells #[.int .i64 vars,.slice ao order.length co,.slice ae es.length ce,.slice ap plan.length cp] 26));have HW1:Hq (_=w1):=Hd gg.symm;have g9:Hq (Bw w w1):=by rw[gg];exact Hd (Af _ _)
 have g0:w1.heap[w.heap.size]?=some (.cells #[.int .i64 vars,.slice ao order.length co,.slice ae es.length ce,.slice ap plan.length cp] 26 (0,0)):=by rw[gg];exact WN _ _
 have d0:w1.cell? ⟨w.heap.size,0,none⟩=some (.int .i64 vars):=by rw[WQ _ _ 0 _ _ _ g0];rfl
 have d1:w1.cell? ⟨w.heap.size,1,none⟩=some (.slice ao order.length co):=by rw[WQ _ _ 1 _ _ _ g0];rfl
 have d2:w1.cell? ⟨w.heap.size,2,none⟩=some (.slice ae es.length ce):=by rw[WQ _ _ 2 _ _ _ g0];rfl
 have d3:w1.cell? ⟨w.heap.size,3,none⟩=some (.slice ap plan.length cp):=by rw[WQ _ _ 3 _ _ _ g0];rfl
 have hs1:w1.heap.size=w.heap.size+1:=by rw[gg];simp
 have gd:Hq (vars<=6->Calls prog 53 #[.slice ao order.length co,.int .i64 vars] w1 (Sm (.bool (BE order vars)) w1)):=Hd fun hh=>SV ao co order vars w1 (HO.o.below g9.o) (by omega)
 have ge:Hq (0<=vars->vars<=6->Calls prog 54 #[.int .i64 vars,.int .i64 0,.slice ap plan.length cp] w1 (Sm (.int .i64 (Be vars 0 plan)) w1)):=Hd fun h1 h2=>SQ vars 0 ⟨h1,by omega⟩ ⟨by omega,by omega⟩ ap cp plan w1 (HP.o.below g9.o)
 obtain⟨P,hP⟩:=Ex (fun y w'=>∃ b,y=.returned (.bool b)/\(b=true->E9 ⟨vars,order,es,plan⟩)/\Bw w w':Ending->Wd->Prop)
 have gk:Hq (∀ W,Bw w1 W->P (.returned (.bool false)) W):=by rw[hP];exact Hd fun W hb=>⟨false,rfl,by simp,g9.o.trans (hb.mono g9.o.size)⟩
 have gK:Hq (E9 ⟨vars,order,es,plan⟩->∀ W,Bw w1 W->P (.returned (.bool true)) W):=by rw[hP];exact Hd fun hq W hb=>⟨true,rfl,fun _=>hq,g9.o.trans (hb.mono g9.o.size)⟩
 rw[<- hP];clear ho he hp gg g0 hP
 go_enter func12,ntmps12
 go_upto_region 1 with fail;rw[HW1.o]
 go_cut [50] (fun s50 wx=>∃ bad:Bool,s50=.bool bad/\wx=w1/\Hq (bad=false->1<=vars/\vars<=6/\es.length<=5/\plan.length<=6/\(order.length>0->BE order vars=true)/\Be vars 0 plan=0))
 case first =>
  by_cases h1:vars<1
  ·go_wp2_with fail;go_meet
   case rel=>exact⟨true,rfl,rfl,Hd (by simp)⟩
  by_cases h2:vars>6
  ·go_wp2_with fail;go_meet
   case rel=>exact⟨true,rfl,rfl,Hd (by simp)⟩
  by_cases h3:(es.length:Int)>5
  ·go_wp2_with fail;go_meet
   case rel=>exact⟨true,rfl,rfl,Hd (by simp)⟩
  by_cases h4:(plan.length:Int)>6
  ·go_wp2_with fail;go_meet
   case rel=>exact⟨true,rfl,rfl,Hd (by simp)⟩
  have ge:=Hd (ge.o (by omega) (by omega));have gd:=Hd (gd.o (by omega));obtain⟨pr,gp⟩:=Ex (Be vars 0 plan);rw[<- gp] at ge;have gG:=Hd gp;clear gp
  by_cases h5:(order.length:Int)>0
  ·obtain⟨rb,go⟩:=Ex (BE order vars);rw[<- go] at gd;have gS:=Hd go;clear go;cases rb with
   | false =>
     go_wp2_with fail;refine gd.o.mono ?_;rintro y w' ⟨rfl,rfl⟩;go_wp2_with fail;go_meet
     case rel=>exact⟨true,rfl,rfl,Hd (by simp)⟩
   | true =>
     go_wp2_with fail;refine gd.o.mono ?_;rintro y w' ⟨rfl,rfl⟩;go_wp2_with fail;refine ge.o.mono ?_;rintro y w' ⟨rfl,rfl⟩
     by_cases h6:pr=0
     ·have gf:Hq (1<=vars/\vars<=6/\es.length<=5/\plan.length<=6/\(order.length>0->BE order vars=true)/\Be vars 0 plan=0):=Hd ⟨by omega,by omega,by omega,by omega,fun _=>gS.o.symm,by rw[<- gG.o,h6]⟩;subst h6;go_wp2_with fail;go_meet
      case rel=>exact⟨false,rfl,rfl,Hd fun _=>gf.o⟩
     ·have gQ:(pr != 0)=true:=by simpa using h6
      clear h6;go_wp2_with fail;go_meet
      case rel=>exact⟨true,rfl,rfl,Hd (by simp)⟩
  ·go_wp2_with fail;refine ge.o.mono ?_;rintro y w' ⟨rfl,rfl⟩
   by_cases h6:pr=0
   ·have gf:Hq (1<=vars/\vars<=6/\es.length<=5/\plan.length<=6/\(order.length>0->BE order vars=true)/\Be vars 0 plan=0):=Hd ⟨by omega,by omega,by omega,by omega,fun _=>by omega,by rw[<- gG.o,h6]⟩;subst h6;go_wp2_with fail;go_meet
    case rel=>exact⟨false,rfl,rfl,Hd fun _=>gf.o⟩
   ·have gQ:(pr != 0)=true:=by simpa using h6
    clear h6;go_wp2_with fail;go_meet
    case rel=>exact⟨true,rfl,rfl,Hd (by simp)⟩
 case rest =>
  obtain⟨bad,rfl,rfl,gz⟩:=hcut;clear gd ge;cases bad with
  | true =>
    go_wp2_with fail;exact gk.o _ (Xd _ _)
  | false =>
    obtain⟨g1,g2,g3,g4,g5,g6⟩:=gz.o rfl;have gX:=Hd g5;have gV:=Hd g6;clear g5 g6 gz;go_upto_region 3 with fail;go_wp2_with fail
    go_loopw [4,54] (fun s4 s54 wr=>∃ k:Nat,k<=plan.length/\s54=.int .i64 k/\Bw wc wr/\Hq (∀ ev∈plan.take k,ev.after<=300)) (fun _ s54 _=>plan.length-(intOf s54).toNat)
    case atStart=>exact⟨0,WX _,rfl,Xd _ _,Hd fun ev he=>by simp at he⟩
    case round =>
     obtain⟨k,hk,rfl,g7,HA⟩:=hrel
     by_cases gh:k<plan.length
     ·obtain⟨b,off,rfl,c0,c1,c2⟩:=((HP.o.below g9.o).below g7).cells k gh;have gN:(k:Int)<plan.length:=by omega
      have g8:=Hd g7;have gj:Hq (∀ ev∈plan.take (k+1),ev∈plan.take k\/ev=plan[k]):=Hd fun ev he=>by
       rw[WZ gh,Xa,Xg] at he;exact he
      obtain⟨ev,ga⟩:=Ex (plan[k]);rw[<- ga] at c0 c1 c2 gj;obtain⟨af,ki,le⟩:=ev;dsimp only at c0 c1 c2;clear ga g7
      by_cases hg:af>300
      . have HF:=Hd (gk.o _ (g8.o.trans ((Af wr (.cells #[.int .i64 af,.int .i64 ki,.int .i64 le] 105)).mono g8.o.size)));go_wp2_with fail;exact HF.o
      ·have HF:=Hd (g8.o.trans ((Af wr (.cells #[.int .i64 af,.int .i64 ki,.int .i64 le] 105)).mono g8.o.size));have gZ:Hq (∀ ev∈plan.take (k+1),ev.after<=300):=Hd fun ev he=>by
        rcases gj.o ev he with h|rfl
        . exact HA.o ev h
        . dsimp only;omega
       go_wp2_with fail;go_roundw
       case rel=>exact⟨k+1,by omega,by go_num,HF.o,gZ⟩
       case measure=>simp[intOf];omega
     ·have gY:Hq (∀ ev∈plan,ev.after<=300):=Hd fun ev ga=>HA.o ev (by rw[Xn (by omega)];exact ga)
      have gN:¬ (k:Int)<plan.length:=by omega
      have d0':=Cq g7 d0;have d2':=Cq g7 d2;have g8:=Hd g7;obtain⟨wA,h8⟩:=Ex wr;clear g7;go_wp2_with fail
      go_loopw [6,8,65] (fun s6 s8 s65 wx=>∃ k:Nat,k<=es.length/\s65=.int .i64 k/\Bw wc wx/\Hq (∀ e∈es.take k,e.size<=40/\okT e 1/\∀ v∈AG e,v<vars)) (fun _ _ s65 _=>es.length-(intOf s65).toNat)
      case atStart=>exact⟨0,WX _,rfl,g8.o,Hd fun ev he=>by simp at he⟩
      case round =>
       rename Wd=>wy
       obtain⟨j,hj,rfl,gi,HB⟩:=hrel
       by_cases gh:j<es.length
       ·obtain⟨b,off,x0,x1,x2,rfl,c0,c1,c2,hx⟩:=((HE.o.below g9.o).below gi).cells j gh;have gO:(j:Int)<es.length:=by omega
        have gI:=Hd gi;have gj:Hq (∀ e∈es.take (j+1),e∈es.take j\/e=es[j]):=Hd fun e he=>by
         rw[WZ gh,Xa,Xg] at he;exact he
        have gt:=Cq gi d0;obtain⟨e,ga⟩:=Ex (es[j]);rw[<- ga] at hx gj;have HX:=Hd hx;obtain⟨zo,zv,za,zn,zc,rfl,rfl,rfl⟩:=hx.parts;clear ga gi hx;go_upto_region 12 with fail;obtain⟨wz,gl⟩:=Ex (wy.alloc (.cells #[.int .i64 zo,.int .i64 zv,.slice za zn zc] 36));have gn:Bw wy wz:=by rw[gl];exact Af _ _
        have g0:wz.heap[wy.heap.size]?=some (.cells #[.int .i64 zo,.int .i64 zv,.slice za zn zc] 36 (0,0)):=by rw[gl];exact WN _ _
        have k0:wz.cell? ⟨wy.heap.size,0,none⟩=some (.int .i64 zo):=by rw[WQ _ _ 0 _ _ _ g0];rfl
        have k1:wz.cell? ⟨wy.heap.size,1,none⟩=some (.int .i64 zv):=by rw[WQ _ _ 1 _ _ _ g0];rfl
        have k2:wz.cell? ⟨wy.heap.size,2,none⟩=some (.slice za zn zc):=by rw[WQ _ _ 2 _ _ _ g0];rfl
        have kd:=Cq gn gt;have gv:=Hd (HX.o.below gn);have gH:=Hd (gI.o.trans (gn.mono gI.o.size));rw[<- gl];clear gl gn g0 c0 c1 c2 gt;go_wp2_with fail;refine(Mk e _ 40 _ (by omega) gv.o).mono ?_;rintro y wp ⟨⟨r,rfl,_,_,gB⟩,gc⟩;have gy:=Hd (gH.o.trans (gc.mono gH.o.size));have gw:=Hd (gv.o.below gc);have m0:=Cq gc k0;have m1:=Cq gc k1;have m2:=Cq gc k2;have md:=Cq gc kd;clear gc k0 k1 k2 kd
        by_cases hr:(r:Int)>40
        . have HF:=Hd (gk.o _ gy.o);go_wp2_with fail;exact HF.o
        have gA:e.size<=40:=by have:=gB (by omega);omega
        clear gB;go_wp2_with fail;refine(Jh e _ _ (by omega) gw.o).mono ?_;rintro y wq ⟨err,rfl,gs,gb⟩;have gx:=Hd (gy.o.trans (gb.mono gy.o.size));have gD:=Hd (gw.o.below gb);have n0:=Cq gb m0;have n1:=Cq gb m1;have n2:=Cq gb m2;have nd:=Cq gb md;have gU:=Hd gs;clear gb m0 m1 m2 md gs
        by_cases gm:err=0
        ·have gf:=Hd (gU.o.1 gm);subst gm;go_wp2_with fail;refine(SP e _ _ (by omega) gD.o).mono ?_;rintro y ws ⟨u,os,rfl,gM,h0,gq,gu⟩;obtain⟨au,cu,rfl,gC,hc⟩:=gM;have gJ:=Hd (gx.o.trans (gu.mono gx.o.size));have pd:=Cq gu nd;have gT:=Hd gC;have gL:=Hd (gq gf.o);clear gu n0 n1 n2 nd gC gq HX gv gw gD;go_wp2_with fail
         go_loopw [8,80] (fun s8 s80 wt=>∃ i:Nat,i<=os.length/\s80=.int .i64 i/\wt=ws/\Hq (∀ v∈os.take i,v<vars)) (fun _ s80 _=>os.length-(intOf s80).toNat)
         case atStart=>exact⟨0,WX _,rfl,rfl,Hd fun v hv=>by simp at hv⟩
         case round =>
          obtain⟨i,hi,rfl,rfl,gE⟩:=hrel
          by_cases gr:i<os.length
          ·obtain⟨b2,of2,rfl,cc⟩:=gT.o.cells i gr;have gP:(i:Int)<os.length:=by omega
           have gF:=Hd (Mp gr);obtain⟨z,hz⟩:=Ex (at0 os i);rw[<- hz] at cc gF;clear hz
           by_cases h7:z>=vars
           . have HF:=Hd (gk.o _ gJ.o);go_wp2_with fail;exact HF.o
           ·have gR:Hq (∀ v∈os.take (i+1),v<vars):=Hd fun v hv=>by
             rcases(gF.o v).1 hv with h|rfl
             . exact gE.o v h
             . omega
            go_wp2_with fail;go_roundw
            case rel=>exact⟨i+1,by omega,by go_num,by simp,gR⟩
            case measure=>simp[intOf];omega
          ·have gP:¬ (i:Int)<os.length:=by omega
           have HB2:Hq (∀ e∈es.take (j+1),e.size<=40/\okT e 1/\∀ v∈AG e,v<vars):=Hd fun e' he'=>by
            rcases gj.o e' he' with h|rfl
            . exact HB.o e' h
            . exact⟨gA,gf.o,fun v hv=>gE.o v (by rw[Xn (by omega)];exact gL.o v hv)⟩
           go_wp2_with fail;go_roundw
           case rel=>exact⟨j+1,by omega,by go_num,gJ.o,HB2⟩
           case measure=>simp[intOf];omega
        ·have hd:(err != 0)=true:=by simpa using gm
         have HF:=Hd (gk.o _ gx.o);clear gm;go_wp2_with fail;exact HF.o
       ·have gO:¬ (j:Int)<es.length:=by omega
        have HF:=Hd (gK.o ⟨g1,g2,g3,g4,gX.o,gV.o,gY.o,fun e he=>HB.o e (by rw[Xn (by omega)];exact he)⟩ _ gi);go_wp2_with fail;exact HF.o
end Go.Proofs.YtgmbklaolcmljaaGreat
