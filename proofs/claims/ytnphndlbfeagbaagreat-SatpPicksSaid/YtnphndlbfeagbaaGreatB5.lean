/- Several texts in one file: contracts of the program's functions and what follows from them. -/
import Derived.Test.YtnphndlbfeagbaaGreatB4
import Derived.Shelf.Slices.Reverse
import Derived.Ground.Names2Prog
import Derived.Shelf.Slices.Cells
import Derived.Shelf.Slices.Empties
set_option linter.all false
set_option maxRecDepth 100000
set_option maxHeartbeats 8000000
namespace Go.Proofs.YtnphndlbfeagbaaGreat
open Go.Proofs.Tryz
open Go.RowKit
variable {K:Law}{Od:List Nat->Prop}{Q:Exit->Act->Wd->Prop}{R:Role->Prop}{V V':Nat->BF}{W W' w w' w0 w1 wr:Wd}{a:Act}{c g j k mb n room sb x:Nat}{d d' d0:Af}{fs:List (Int×BF)}{m m':ManD}{nx:Int}{o' o1:Own}{ops:Array Oper}{rest:List Oper}{s:BP}{ts:List TN}{v:Value}{zs:List Int}
def SB {I:List Nat}(Z:I.Nodup)(Y:∀i∈I,d.pool.tk i=true)(U:∀i,d.pool.tk i=true->i<d.pool.at_.length)(b:(d.pool.many:Int)=Ah d.pool.at_.length (λi=>if d.pool.tk i=true then 1 else 0)):I.length<=d.pool.many:=by
 have key:∀(l:List Nat),l.Nodup->(∀i∈l,d.pool.tk i=true)->∀H,(∀i∈l,i<H)->(l.length:Int)<=Ah H (λi=>if d.pool.tk i=true then 1 else 0):=by
  intro l hl g0 H
  induction H generalizing l with
  | zero=>
    intro h;cases l with
    | nil=>simp[Ah]
    | cons a l=>have:=h a (by simp);omega
  | succ H X=>
    intro h
    show(l.length:Int)<=Ah H (λi=>if d.pool.tk i=true then 1 else 0)+(if d.pool.tk H=true then 1 else 0)
    by_cases O:H∈l
    ·have h1:=X (l.erase H) (hl.erase H) (λi hi=>g0 i (ZK hi)) (λi hi=>by
      have h2:=h i (ZK hi);have h3:i≠H:=λe=>by subst e;exact(List.Nodup.not_mem_erase hl) hi
      omega)
     rw[List.length_erase_of_mem O]at h1;have g1:0<l.length:=aJ O;have:=g0 H O;simp only[this,Y1];omega
    ·have h1:=X l hl g0 (λi hi=>by
      have h2:=h i hi;have h3:i≠H:=λe=>by subst e;exact O hi
      omega)
     have:(0:Int)<=if d.pool.tk H=true then 1 else 0:=by split<;>omega
     omega
 have:=key I Z Y d.pool.at_.length (λi hi=>U i (Y i hi));omega
def SC (ts:List TN):(ts.flatMap BB).length=2*ts.length:=by
 induction ts with
 | nil=>rfl
 | cons a l H=>simp[YY,BB,H];omega
structure CutI (d0:Af)(k x:Nat)(ids:List Nat)(sb:Nat)(s:BP)(o1:Own)(w1:Wd)(base:Nat)(v:Value)(ts:List TN)(j:Nat)(W:Wd)(o:Own)(d:Af):Prop where
 st:Ap o W sb d s
 lt:Ac o W
 cut:CutS d0 k x (λi=>i∈ids.take j) d
 row:TRow W base v ts
 no:0<ts.length->∀g,v.ownBlock=some g->o g=none
 chg:Chg Am o1 o w1 W
def CutI.move {H:List Nat}{base:Nat}{o:Own}(h:CutI d0 k x H sb s o1 w1 base v ts j W o d)(st:Ap o' W' sb d' s)(I:Chg R o o' W W')(Y:∀r,R r->Am r)(lt:Ac o' W'){O:Nat}(cut:CutS d0 k x (λi=>i∈H.take O) d'):
 CutI d0 k x H sb s o1 w1 base v ts O W' o' d':=
 ⟨st,lt,cut,h.row.chg I h.no,λU g X=>I.alien' (h.row.blk U g X).2 (h.no U g X),h.chg.trans (I.mono Y)⟩
def CutS.congr {g g':Nat->Prop}(h:CutS d0 k x g d)(e:∀i,g i↔g' i):CutS d0 k x g' d:=by
 have H:g=g':=funext λi=>propext (e i)
 rw[<-H];exact h
abbrev Z0:=@Nat.succ_le_of_lt
theorem SD {o:Own}(st:A3 o w sb d)(I:Ac o w)(hk:Ai d V)(k:Nat)(hk1:k+1<d.vars.length)(F:∀i,Al d i<=549755813888):
 Cl 135 #[Pt sb,Iv k] w λq w'=>∃o' d0,AN d d0/\Ac o' w'/\Chg Am o o' w w' /\
  ((q=.returned (Iv 7)/\A3 o' w' sb d0/\d0.pool.room<3*d0.pool.many)\/(q=.returned (Iv 0)/\∃d' V',A3 o' w' sb d'/\FA d0 V k d' V')):=by
 obtain⟨P,hP⟩:∃P:Ending->Wd->Prop,P=λq w'=>∃o' d0,AN d d0/\Ac o' w'/\Chg Am o o' w w' /\
  ((q=.returned (Iv 7)/\A3 o' w' sb d0/\d0.pool.room<3*d0.pool.many)\/(q=.returned (Iv 0)/\∃d' V',A3 o' w' sb d'/\FA d0 V k d' V')):=⟨_,rfl⟩
 rw[<-hP];have kz:=Hd hP;clear hP;obtain⟨s0,h0⟩:=id st;obtain⟨c0,c1,c2,c3,c4,f0⟩:=cells5 h0.blk;obtain⟨l0,l1,_⟩:=cells2 h0.lev;obtain⟨gv,cv,gA,gR,_⟩:=h0.vars.shape (by omega);rw[gA]at l0;have HA:=hk.small;have kj:=Hd (J0 st I hk);have HK:=Hd hk;have H0:¬ ((k:Int)>=(d.vars.length:Int)-1):=by omega
 have kK:=Hd F;clear h0 gA st I hk gR F c1 c2 c3 c4 f0 l1
 go_enter func135,ntmps135
 go_wp2_with fail;refine kj.o.mono ?_;rintro q w1 ⟨rfl,o1,d0,⟨s,h1⟩,hd,gF,kv⟩;have gQ:=gF.ok HK.o;obtain⟨x,hx⟩:=Ex (d0.vars.getD k 0);obtain⟨y,hy⟩:=Ex (d0.vars.getD (k+1) 0);have kp:d0.vars.length=d.vars.length:=by rw[gF.vars]
 have FR:SwF d0 V k x y:=⟨⟨by omega,hx.symm,hy.symm⟩,gQ,h1.len,λi=>by
  cases hi:Aa d0 i with
  | none=>rw[EI hi];omega
  | some b=>rw[gF.ext i b hi];exact kK.o i⟩
 have gh:=FR.facts.1;have H2:=FR.facts.2.1;obtain⟨c0,c1,c2,c3,c4,f0⟩:=cells5 h1.blk;obtain⟨l0,l1,_⟩:=cells2 h1.lev;obtain⟨gv,cv,gA,gR,_⟩:=h1.vars.shape (by omega);have U:=h1.vars;rw[gA]at U l0;have a0:=U.cell k (by simp;omega);have a1:=U.cell (k+1) (by simp;omega);rw[ES (by omega),<-hx]at a0;rw[ES (by omega),<-hy]at a1;have H9:(k:Int)<d0.vars.length:=by omega
 have H8:(k:Int)+1<d0.vars.length:=by omega
 have kl:=Hd (S0 ⟨s,h1.below hd (An w1 1)⟩ (hd.mono (An w1 1).size) gQ x y gh);have g1:=Hd FR;have B:=Hd h1;have kh:=Hd hd;have ke:=Hd gF;have kF:=Hd kv;have Hx:d0.vars.length<=64:=by omega
 have HG:=Hd kp;have H5:IntKind.i64.wrap ((k:Int)+1)=((k+1:Nat):Int):=by rw[aK _ (by omega)];rfl
 clear h1 hd gF kv gQ gA gR U hx hy FR kj kp H0;go_upto_region 6 with fail;refine AJ (λW:Wd=>W.cell? (Av sb)=some (Pt s.lb)/\W.cell? (Av s.lb)=some (.slice (some (Av gv)) d0.vars.length cv)/\W.cell? (Aw gv k)=some (Iv (x:Nat))/\W.cell? (Aw gv (k+1))=some (Iv (y:Nat))) false 23 [(0,false),(1,false),(2,false),(3,false),(4,false),(5,false),(6,false),(7,false),(8,false),(9,false),(10,false),(11,false),(12,false),(13,false),(14,false),(15,false),(16,false),(17,false),(18,false),(19,false),(20,false),(21,false),(22,false)] (by kernel_rfl) (by kernel_rfl) ⟨c0,l0,a0,a1⟩ ?_;simp only[planned,AI]
 iterate 23
  refine A0 rfl ?_;apply Exists.intro;refine⟨λw' A=>?_,?_⟩
  . obtain⟨h1,h2,h3,h4⟩:=A;go_simp;rfl
  simp only[Ab]
 refine B6 ?_;go_wp2_with fail;refine kl.o.mono ?_;rintro q w2 ⟨v,H,rfl,hR,gT,gq,go⟩;obtain⟨ts,gZ⟩:=Ex (H.map (tnOf d0 y));rw[<-gZ]at gq;have gl:Bw w1 w2:=⟨go.os,go.tape,go.output,go.size,λq hq=>go.block q hq⟩;have h2:=B.o.below kh.o gl;have gJ:=kh.o.mono gl.size;have hA:Hq (∀i∈H,∃b,J1 d0 V x y i b):=Hd λi hi=>S8 g1.o B.o ((gT i).1 hi)
 have k8:∀t∈ts,t.ll<eMax/\t.lh<eMax/\t.hl<eMax/\t.hh<eMax:=by
  intro t ht;rw[gZ]at ht;obtain⟨i,hi,rfl⟩:=X6.1 ht;obtain⟨b,O⟩:=hA.o i hi;have q1:=B.o.edge_lt O.val.f1.1;have q2:=B.o.edge_lt O.val.f2.1;have q3:=B.o.edge_lt O.val.f3.1;have q4:=B.o.edge_lt O.val.f4.1;unfold eMax;omega
 have hu:=Hd (Sn h2 gJ x gh gq k8);have kc:=Hd λW (hb:Bw w2 W)=>S9 ⟨s,h2.below gJ hb⟩
 have Hqz:=Hd λW (hb:Bw w2 W)=>SA ⟨s,h2.below gJ hb⟩
 have HD:=B.o.pool.many;have HB:=B.o.pool.top;have HC:=B.o.pool.room
 have Ht:Hq (H.length<=d0.pool.many):=Hd (SB hR (λi hi=>by
  obtain⟨b,O⟩:=hA.o i hi;exact(BQ O.node).1) (λi hi=>(B.o.pool.tk_lt hi).2) B.o.pool.cnt)
 have kE:=Hd h2;have hF:=Hd gJ;have HB2:=Hd gl;have gx:=Hd gq;have gV:=Hd gT;have kB:=Hd hR;have hv:=Hd gZ;have HE:w1.heap.size<=w2.heap.size:=gl.size;clear go gl h2 gJ gq gT hR k8 c0 c1 c2 c3 c4 f0 l0 l1 a0 a1 H9 H8 H5 gZ;go_wp2_with fail;refine hu.o.mono ?_;rintro q w3 ⟨Wt,rfl,hL,hn⟩;have gL:=Hd hL;have S:=Hd hn;have H6:Wt.length<=2*ts.length:=by have:=hL.len;rw[SC]at this;exact this
 have h5:ts.length=H.length:=by rw[hv.o,XT]
 have Hc:=Ht.o;have kL:=Hd (kc.o w3 hn);have kR:=Hd (Hqz.o w3 hn);clear hL hn hu;go_wp2_with fail;refine kL.o.mono ?_;rintro q w' ⟨rfl,rfl⟩;go_wp2_with fail;refine kR.o.mono ?_;rintro q w' ⟨rfl,rfl⟩
 by_cases Hy:(Wt.length:Int)>(d0.pool.room:Int)-(d0.pool.many:Int)
 ·have HF:Hq (P (.returned (Iv 7)) w3):=by
   rw[kz.o];exact Hd ⟨o1,d0,ke.o,hF.o.mono S.o.size,kF.o.trans ((Chg.of_below HB2.o _ _).trans (Chg.of_below S.o _ _)),.inl ⟨rfl,⟨s,kE.o.below hF.o S.o⟩,by omega⟩⟩
  clear h5;go_wp2_with fail;exact HF.o
 have ki:Hq (d0.pool.many+Wt.length<=d0.pool.room):=Hd (by omega);have h3:=kE.o.below hF.o S.o;have kt:=hF.o.mono S.o.size;obtain⟨c0,c1,c2,c3,c4,f0⟩:=cells5 h3.blk;have hB:=Hd (Sa h3 k (by have:=g1.o.v.k1;exact this) g1.o.ok.small (by rw[h3.len];rw[g1.o.v.x];exact gh) (by rw[h3.len];rw[g1.o.v.y];exact H2));have HM:=Hd h3;have Hs:=Hd kt;clear h3 kt;go_wp2_with fail;refine hB.o.mono ?_;rintro q w4 ⟨rfl,h4,hf⟩;have h6:=(gx.o.below S.o);have gS:0<ts.length->∀g,v.ownBlock=some g->o1 g=none:=λhp g hg=>kh.o.none (gx.o.blk hp g hg).1
 have Hu:Hq (CutI d0 k x H sb s o1 w1 w1.heap.size v ts 0 w4 o1 (Bd d0 k)):=Hd ⟨h4,Hs.o.mono hf.size,(CutS.start d0 k x).congr (λi=>by simp),h6.chg hf gS,gS,(Chg.of_below HB2.o _ _).trans ((Chg.of_below S.o _ _).trans hf)⟩;obtain⟨av,X,ko,_⟩:=gx.o.ex;rw[h5]at ko;have hG:Hq (H.length<=1048578):=Hd (by have:=gx.o.small;omega);clear h6 gS h4 hf hB c0 c1 c2 c3 c4 f0 Hc H6;subst ko;go_wp2
 go_loopw [77] (λL wr=>∃j:Nat,j<=H.length/\L=Iv j/\Hq (∃o d,CutI d0 k x H sb s o1 w1 w1.heap.size (.slice av H.length X) ts j wr o d)) (λL _=>H.length-(intOf L).toNat)
 case atStart=>exact⟨0,X0 _,rfl,Hd ⟨o1,_,Hu.o⟩⟩
 case round=>
  obtain⟨j,hj,rfl,HCI⟩:=hrel
  by_cases I:j<H.length
  ·obtain⟨D,Y,g2⟩:=HCI.o;obtain⟨a',c',ea,g3⟩:=g2.row.ex;rw[h5]at ea;injection ea with ea1 ea2 ea3
   obtain⟨g,hg,_,g0⟩:=g3 j (by omega);rw[hg]at ea1;subst ea1;obtain⟨i,hi⟩:=Ex (H[j]);have gD:ts[j]'(by omega)=tnOf d0 y i:=by rw[hi];simp[hv.o]
   rw[gD]at g0;obtain⟨b,O⟩:=hA.o i (by rw[hi];exact XM I);have gC:tnOf d0 y i=⟨d0.pool.nd i,(tnOf d0 y i).ll,(tnOf d0 y i).lh,(tnOf d0 y i).hl,(tnOf d0 y i).hh⟩:=rfl;obtain⟨N,G⟩:=Ex (d0.pool.nd i);obtain⟨ll,ga⟩:∃q,q=(tnOf d0 y i).ll:=⟨_,rfl⟩;obtain⟨lh,gb⟩:∃q,q=(tnOf d0 y i).lh:=⟨_,rfl⟩;obtain⟨hl,gc⟩:∃q,q=(tnOf d0 y i).hl:=⟨_,rfl⟩;obtain⟨hh,gd⟩:∃q,q=(tnOf d0 y i).hh:=⟨_,rfl⟩;rw[gC,<-G,<-ga,<-gb,<-gc,<-gd]at g0;have e0:wr.cell? (Aw g (j*9))=some _:=g0 0 _ rfl;have e1:=g0 1 _ rfl;have e2:=g0 2 _ rfl;have e3:=g0 3 _ rfl;have e4:=g0 4 _ rfl;have e5:=g0 5 _ rfl;have e6:=g0 6 _ rfl;have e7:=g0 7 _ rfl;have e8:=g0 8 _ rfl;have hU:N.lo=b.lo:=by rw[G];exact O.lo
   have hW:N.hi=b.hi:=by rw[G];exact O.hi
   have Hz:=Hd g2;have HJ:=Hd hi;have T:=Hd O;have HI:=Hd hU;have HL:=Hd hW;have Ha:(j:Int)<H.length:=by omega
   have He:=hG.o;have Hb:(j:Int)+1<=1048578:=by omega
   have gh:=g1.o.facts.1;have hO:d0.tab x (N.lo,N.hi)=some i:=by
    rw[hU,hW];refine(g1.o.ok.tab x gh _ _ _).2 ?_;rw[O.node,<-O.v]
   have gG:¬ i∈H.take j:=by
    intro hm;have gH:=kB.o;rw[<-YV j H,Yl]at gH;refine gH.2.2 i hm i ?_ rfl;rw[Yc I,hi];exact XX
   have ku:Y.tab x (N.lo,N.hi)=some i:=g2.cut.has hO gG;have hM:x<Y.vars.length:=by rw[g2.cut.vars,GB];exact gh
   have Hg:(λu=>if u=x then putF (Y.tab u) (N.lo,N.hi) none else Y.tab u)=(λu=>if u=x then putF (Y.tab x) (N.lo,N.hi) none else Y.tab u):=by funext u;by_cases e:u=x<;>simp[e]
   have kP:Hq (CutS d0 k x (λq=>q∈H.take (j+1)) { Y with tab:=λu=>if u=x then putF (Y.tab x) (N.lo,N.hi) none else Y.tab u }):=Hd (by
    have q1:=(g2.cut.next g1.o.ok gh hO).congr (g':=λq=>q∈H.take (j+1)) (λq=>by
     rw[XA I,XD,XB,hi])
    rw[Hg]at q1;exact q1)
   obtain⟨wz,g7⟩:∃W,W=wr.alloc (.cells #[Iv N.id,Iv N.v,Iv N.lo,Iv N.hi,Iv N.refs,Iv ll,Iv lh,Iv hl,Iv hh] 234):=⟨_,rfl⟩;have ge:Bw wr wz:=by rw[g7];exact Ag wr _
   have a:=Xv wr (.cells #[Iv N.id,Iv N.v,Iv N.lo,Iv N.hi,Iv N.refs,Iv ll,Iv lh,Iv hl,Iv hh] 234);rw[<-g7]at a;have z2:wz.cell? (Aw wr.heap.size 2)=some (Iv N.lo):=by rw[Xw wz _ 2 _ _ _ a];rfl
   have z3:wz.cell? (Aw wr.heap.size 3)=some (Iv N.hi):=by rw[Xw wz _ 3 _ _ _ a];rfl
   have g8:=g2.st.below g2.lt ge;have gj:=g2.lt.mono ge.size;obtain⟨gt,ct,gB,cellx,H7⟩:=g8.tabAt hM;obtain⟨c0,c1,c2,c3,c4,f0⟩:=cells5 g8.blk;rw[gB]at c2;have kn:x<s.ts.length:=by rw[g8.tlen];exact hM
   have H4:(x:Int)<s.ts.length:=by omega
   have kT:=Hd (KV D x (s.ts.getD x 0) (Y.tab x) N.lo N.hi i wz.drew ((g8.below gj (An wz 1)).tab x kn) (gj.mono (An wz 1).size) ku);have gX:Hq (CutI d0 k x H sb s o1 w1 w1.heap.size (.slice (some (Av g)) H.length X) ts j wz.drew D Y):=Hd (g2.move ((g8.below gj (An wz 1))) (Chg.of_below (ge.trans ((An wz 1).mono ge.size)) Am D) (λ_ h=>h) (gj.mono (An wz 1).size) g2.cut);have k9:=Hd g7;have gM:=Hd I;clear g3 g0 gD gC g2 O G ga gb gc gd hi hU hW HCI hO gG ku hM ge a g8 gj gB kn g7 c0 c1 c3 c4 f0;go_upto_region 14 with fail;rw[<-k9.o];refine AJ (λW:Wd=>W=wz.drew) true 13 [(0,false),(1,false),(2,false),(3,false),(4,false),(5,false),(6,false),(7,false),(8,false),(9,false),(10,false),(11,false),(12,false),(13,true)] (by kernel_rfl) (by kernel_rfl) rfl ?_;simp only[planned,AI]
   iterate 13
    refine A0 rfl ?_;apply Exists.intro;refine⟨λw' A=>?_,?_⟩
    . subst A;go_simp;rfl
    simp only[Ab]
   refine ER rfl (by go_simp) (kT.o.mono (R':=λe w'=>∃v,e=.returned v/\(v=Iv 0/\AS D w' x (s.ts.getD x 0) (putF (Y.tab x) (N.lo,N.hi) none)/\Chg (· = .tmap x) D D wz.drew w'/\Ac D w')) (λe w' h=>⟨_,h.1,rfl,h.2⟩)) ?_;rintro _ w5 ⟨rfl,kq,hZ,kr⟩;simp only[Ab];refine C2 ?_;have hD:=Hd (gX.o.move (gX.o.st.setTab gX.o.lt kq hZ) hZ (λr hr=>by simp[Am,hr]) kr kP.o);clear kq hZ kr c2 cellx H4 e0 e1 e2 e3 e4 e5 e6 e7 e8 z2 z3;go_wp2;go_roundw
   case rel=>exact⟨j+1,Z0 gM.o,by go_num,Hd ⟨_,_,hD.o⟩⟩
   case measure=>
    have:=gM.o;have:=hG.o;simp[intOf];omega
  ·obtain rfl:j=H.length:=by omega
   obtain⟨oe,de,gk⟩:=HCI.o;have kd:Hq (∃o d V',RndI sb o1 w1 w1.heap.size (.slice av H.length X) ts wr o d/\A7 d0 V k x y Wt (Al d0) (λi=>i∈H.take 0) d V'):=Hd ⟨oe,de,V,⟨⟨s,gk.st⟩,gk.lt,gk.row,gk.no,gk.chg⟩,(A7.start gk.cut g1.o.ok g1.o.facts.1 ke.o.dead (λi=>by rw[XP];exact(gV.o i).symm) gL.o).congr (λi=>by simp)⟩;clear gk HCI;go_wp2
   go_loopw [98] (λK wr=>∃j:Nat,j<=H.length/\K=Iv j/\Hq (∃o d V',RndI sb o1 w1 w1.heap.size (.slice av H.length X) ts wr o d/\A7 d0 V k x y Wt (Al d0) (λi=>i∈H.take j) d V')) (λK _=>H.length-(intOf K).toNat)
   case atStart=>exact⟨0,X0 _,rfl,kd⟩
   case round=>
    clear kd;obtain⟨j,hj,rfl,hC⟩:=hrel
    by_cases I:j<H.length
    ·obtain⟨D,Y,Vj,gE,gi⟩:=hC.o;obtain⟨a',c',ea,g3⟩:=gE.row.ex;rw[h5]at ea;injection ea with ea1 ea2 ea3
     clear ea2 ea3;obtain⟨g,hg,Hf,g0⟩:=g3 j (by omega);rw[hg]at ea1;subst ea1;obtain⟨i,hi⟩:=Ex (H[j]);have gD:ts[j]'(by omega)=tnOf d0 y i:=by rw[hi];simp[hv.o]
     rw[gD]at g0;have gg:i∈H:=by rw[hi];exact XM I
     obtain⟨b,O⟩:=hA.o i gg;have gC:tnOf d0 y i=⟨d0.pool.nd i,(tnOf d0 y i).ll,(tnOf d0 y i).lh,(tnOf d0 y i).hl,(tnOf d0 y i).hh⟩:=rfl
     have kg:Hq (((tnOf d0 y i).ll,(tnOf d0 y i).hl)∈ts.flatMap BB/\((tnOf d0 y i).lh,(tnOf d0 y i).hh)∈ts.flatMap BB):=Hd (by
      have hm:tnOf d0 y i∈ts:=by rw[hv.o];exact X6.2 ⟨i,gg,rfl⟩
      exact⟨List.mem_flatMap.2 ⟨_,hm,by simp[BB]⟩,List.mem_flatMap.2 ⟨_,hm,by simp[BB]⟩⟩)
     obtain⟨N,G⟩:=Ex (d0.pool.nd i);obtain⟨ll,ga⟩:∃q,q=(tnOf d0 y i).ll:=⟨_,rfl⟩;obtain⟨lh,gb⟩:∃q,q=(tnOf d0 y i).lh:=⟨_,rfl⟩;obtain⟨hl,gc⟩:∃q,q=(tnOf d0 y i).hl:=⟨_,rfl⟩;obtain⟨hh,gd⟩:∃q,q=(tnOf d0 y i).hh:=⟨_,rfl⟩;rw[gC,<-G,<-ga,<-gb,<-gc,<-gd]at g0;rw[<-ga,<-gb,<-gc,<-gd]at kg;have e0:wr.cell? (Aw g (j*9))=some _:=g0 0 _ rfl;have e1:=g0 1 _ rfl;have e2:=g0 2 _ rfl;have e3:=g0 3 _ rfl;have e4:=g0 4 _ rfl;have e5:=g0 5 _ rfl;have e6:=g0 6 _ rfl;have e7:=g0 7 _ rfl;have e8:=g0 8 _ rfl;have gG:¬ i∈H.take j:=by
      intro hm;have gH:=kB.o;rw[<-YV j H,Yl]at gH;refine gH.2.2 i hm i ?_ rfl;rw[Yc I,hi];exact XX
     obtain⟨wz,g7⟩:∃W,W=wr.alloc (.cells #[Iv N.id,Iv N.v,Iv N.lo,Iv N.hi,Iv N.refs,Iv ll,Iv lh,Iv hl,Iv hh] 234):=⟨_,rfl⟩;have ge:Bw wr wz.drew:=by rw[g7];exact Gc wr 1 _
     have a:=Xv wr (.cells #[Iv N.id,Iv N.v,Iv N.lo,Iv N.hi,Iv N.refs,Iv ll,Iv lh,Iv hl,Iv hh] 234);rw[<-g7]at a;obtain⟨bz,gu⟩:∃q,q=wr.heap.size:=⟨_,rfl⟩;rw[<-gu]at a;have z5:wz.cell? (Aw bz 5)=some (Iv ll):=by rw[Xw wz _ 5 _ _ _ a];rfl
     have z6:wz.cell? (Aw bz 6)=some (Iv lh):=by rw[Xw wz _ 6 _ _ _ a];rfl
     have z7:wz.cell? (Aw bz 7)=some (Iv hl):=by rw[Xw wz _ 7 _ _ _ a];rfl
     have z8:wz.cell? (Aw bz 8)=some (Iv hh):=by rw[Xw wz _ 8 _ _ _ a];rfl
     have kW:Hq (Box D wz.drew bz (.cells #[Iv N.id,Iv N.v,Iv N.lo,Iv N.hi,Iv N.refs,Iv ll,Iv lh,Iv hl,Iv hh] 234 (0,0))):=Hd ⟨a,gE.lt.none (by rw[gu];exact Xs _)⟩;have kb:=Hd (gE.below ge)
     have hH:Hq (w1.heap.size<=bz/\g≠bz):=Hd (by
      have h1:=gE.chg.size;have h2:g<wr.heap.size:=Ad e0;exact⟨by omega,by omega⟩)
     have C:=O.val;rw[<-ga,<-gb,<-gc,<-gd]at C;have kG:=Hd (Mi kb.o.st kb.o.lt gi g1.o.ok.dag (gi.acy g1.o) g1.o.facts.1 gi.vlen ll hl C.f1 C.f3 (λh1 h2=>Mr gi g1.o gL.o kg.o.1 C.f1 C.f3 h1 h2) gL.o.nodup ki.o);have HB2:Hq (∀W o d V',A3 o W sb d->Ac o W->A7 d0 V k x y Wt (Al d0) (λi=>i∈H.take j) d V'->_):=Hd (λW o d V' st lt m=>Mi st lt m g1.o.ok.dag (m.acy g1.o) g1.o.facts.1 m.vlen lh hh C.f2 C.f4 (λh1 h2=>Mr m g1.o gL.o kg.o.2 C.f2 C.f4 h1 h2) gL.o.nodup ki.o)
     have km:Hq (∀U l d1 d2 V1 V2,CH d0 V k x y Wt (λi=>i∈H.take j) Y Vj ll hl U d1 V1->CH d0 V k x y Wt (λi=>i∈H.take j) d1 V1 lh hh l d2 V2->FB d0 V k x y Wt (λi=>i∈H.take j) i U l d2 V2):=Hd (by
      intro U l d1 d2 V1 V2 h1 h2;rw[ga,gc]at h1;rw[gb,gd]at h2;exact FB.of g1.o O h1 h2)
     have HN:Hq (N.lo=b.lo/\N.hi=b.hi/\N.id=i/\(N.refs:Int)=Al d0 i):=Hd (by rw[G];exact⟨O.lo,O.hi,O.id,(De (BQ O.node).1).symm⟩);have HT:Hq (Turns (Aa d0) x y i):=Hd ((gV.o i).1 gg);have kA:=Hd gG;have T:=Hd O;have Hk:Hq (∀q,(q∈H.take j\/q=i)↔q∈H.take (j+1)):=Hd (λq=>by rw[XA I,XD,XB,hi]);have Ha:(j:Int)<H.length:=by omega
     have He:=hG.o;have Hb:(j:Int)+1<=1048578:=by omega
     have k9:=Hd g7;have Hw:=Hd gu;have gM:=Hd I;clear g3 g0 gD gC gE gi O C G ga gb gc gd hi hC gG ge a g7 gu gg Hf;go_upto_region 19 with fail;rw[<-Hw.o,<-k9.o];clear e0 e1 e2 e3 e4 e5 e6 e7 e8;refine AJ (λW:Wd=>W.cell? (Aw bz 5)=some (Iv ll)/\W.cell? (Aw bz 6)=some (Iv lh)/\W.cell? (Aw bz 7)=some (Iv hl)/\W.cell? (Aw bz 8)=some (Iv hh)) false 16 [(0,false),(1,false),(2,false),(3,false),(4,false),(5,false),(7,false),(8,false),(9,false),(10,false),(11,false),(12,false),(6,true),(13,true),(14,false),(15,false)] (by kernel_rfl) (by kernel_rfl) ⟨z5,z6,z7,z8⟩ ?_;simp only[planned,AI]
     iterate 12
      refine A0 rfl ?_;apply Exists.intro;refine⟨λw' A=>?_,?_⟩
      . obtain⟨q5,q6,q7,q8⟩:=A;go_simp;rfl
      simp only[Ab]
     refine B7 (R:=λv w'=>∃r:Nat,v=Iv r/\∃o' d' V',RndI sb o1 w1 w1.heap.size (.slice (some (Av g)) H.length X) ts w' o' d'/\CH d0 V k x y Wt (λi=>i∈H.take j) Y Vj ll hl r d' V'/\Box o' w' bz (.cells #[Iv N.id,Iv N.v,Iv N.lo,Iv N.hi,Iv N.refs,Iv ll,Iv lh,Iv hl,Iv hh] 234 (0,0))) rfl (by go_simp) (kG.o.mono (λe w' he=>?_)) ?_
     . obtain⟨r,rfl,o',d',V',f,z,k7,kI,gK⟩:=he;have g4:=kW.o.chg gK;exact⟨_,rfl,⟨g4.cell 5,g4.cell 6,g4.cell 7,g4.cell 8⟩,r,rfl,o',d',V',kb.o.move f z gK (λ_ h=>h),k7,g4⟩
     rintro v w5-⟨U,rfl,o5,d5,V5,ha,gU,k6⟩;simp only[Ab];refine B7 (R:=λv w'=>∃r:Nat,v=Iv r/\∃o' d' V',RndI sb o1 w1 w1.heap.size (.slice (some (Av g)) H.length X) ts w' o' d'/\FB d0 V k x y Wt (λi=>i∈H.take j) i U r d' V'/\Box o' w' bz (.cells #[Iv N.id,Iv N.v,Iv N.lo,Iv N.hi,Iv N.refs,Iv ll,Iv lh,Iv hl,Iv hh] 234 (0,0))) rfl (by go_simp) ((HB2.o w5 o5 d5 V5 ha.st ha.lt gU.mid).mono (λe w' he=>?_)) ?_
     . obtain⟨r,rfl,o',d',V',f,z,k7,kI,gK⟩:=he;have g4:=k6.chg gK;exact⟨_,rfl,⟨g4.cell 5,g4.cell 6,g4.cell 7,g4.cell 8⟩,r,rfl,o',d',V',ha.move f z gK (λ_ h=>h),km.o _ _ _ _ _ _ gU k7,g4⟩
     rintro v w6-⟨l,rfl,E,d6,V6,h8,gf,k5⟩;simp only[Ab]
     iterate 2
      refine A0 rfl ?_;apply Exists.intro;refine⟨λw' A=>?_,?_⟩
      . obtain⟨q5,q6,q7,q8⟩:=A;go_simp;rfl
      simp only[Ab]
     refine B6 ?_;have Hm:=Hd h8;have gp:=Hd gf;have kV:=Hd k5;have Ho:=Hd (Mp h8.st h8.lt g1.o gf.mid gf.e1 (λi=>by have:=g1.o.top i;omega));clear h8 gf k5 ha gU k6 z5 z6 z7 z8 kG HB2;go_wp2_with fail;refine Ho.o.mono ?_;rintro q w7 ⟨rfl,d7,J,Q,m7,n7,p7,c7⟩;have Hl:=Hd (Hm.o.move J Q c7 (λ_ h=>h));have kU:=Hd (kV.o.chg c7)
     have Hn:=Hd (Mp J Q g1.o m7 (n7 ▸ gp.o.e2) (λi=>by
      have:=g1.o.top i;have h2:toE U i<=1:=by unfold toE;split<;>omega
      unfold addE;omega))
     have kD:Hq (Aa d7=Aa d6/\d7.pool=d6.pool):=Hd ⟨n7,p7⟩;clear J Q m7 n7 p7 c7;go_wp2_with fail;refine Hn.o.mono ?_;rintro q c ⟨rfl,d8,st8,lt8,m8,n8,p8,c8⟩;have ky:=Hd (Hl.o.move st8 lt8 c8 (λ_ h=>h));have g6:=Hd (kU.o.chg c8);have hE:=Hd m8;have kC:Hq (Aa d8=Aa d6/\d8.pool=d6.pool):=Hd ⟨n8.trans kD.o.1,p8.trans kD.o.2⟩;clear st8 lt8 m8 n8 p8 c8;have x0:c.cell? (Av bz)=some (Iv N.id):=g6.o.cell 0;have x1:c.cell? (Aw bz 1)=some (Iv N.v):=g6.o.cell 1;have x2:c.cell? (Aw bz 2)=some (Iv N.lo):=g6.o.cell 2;have x3:c.cell? (Aw bz 3)=some (Iv N.hi):=g6.o.cell 3;have x4:c.cell? (Aw bz 4)=some (Iv N.refs):=g6.o.cell 4;have xf:∀q,c.frozen? (Aw bz q)=false:=λq=>by simp[World.frozen?,g6.o.blk]
     go_upto_region 23 with fail;obtain⟨wo,gY⟩:∃W,W=c.alloc (.cells #[Iv N.id,Iv N.v,Iv N.lo,Iv N.hi,Iv N.refs] 203):=⟨_,rfl⟩;have gf:Bw c wo:=by rw[gY];exact Ag c _
     have hc:=Xv c (.cells #[Iv N.id,Iv N.v,Iv N.lo,Iv N.hi,Iv N.refs] 203);rw[<-gY]at hc;obtain⟨bo,gw⟩:∃q,q=c.heap.size:=⟨_,rfl⟩;rw[<-gw]at hc;have gI:bz≠bo:=by
      have:=Ad x0;have h2:bz<c.heap.size:=this;omega
     have g5:Hq (Box E wo bz (.cells #[Iv N.id,Iv N.v,Iv N.lo,Iv N.hi,Iv N.refs,Iv ll,Iv lh,Iv hl,Iv hh] 234 (0,0))):=Hd (g6.o.chg (Chg.of_below gf Am E));have kc:=Hd (ky.o.below gf);have kX:Hq (Box E wo bo (.cells #[Iv N.id,Iv N.v,Iv N.lo,Iv N.hi,Iv N.refs] 203 (0,0))):=Hd ⟨hc,ky.o.lt.none (by rw[gw];exact Xs _)⟩;obtain⟨wa,gz⟩:∃W,W=(wo.setCell (Aw bz 1) (Iv y)).setCell (Aw bz 2) (Iv U):=⟨_,rfl⟩;obtain⟨wb,gy⟩:∃W,W=wa.setCell (Aw bz 3) (Iv l):=⟨_,rfl⟩;have HV:∀q,0<ts.length->Value.ownBlock (.slice (some (Av g)) H.length X)=some q->q≠bz:=λq _ hq=>by cases hq;exact hH.o.2
     have kx:Hq (RndI sb o1 w1 w1.heap.size (.slice (some (Av g)) H.length X) ts wb.drew E d8):=Hd (by
      rw[gy,gz];exact(((kc.o.write g5.o.no hH.o.1 HV 1 _).write g5.o.no hH.o.1 HV 2 _).write g5.o.no hH.o.1 HV 3 _).below (An _ 1))
     have kk:=HN.o.2.2.2
     have g9:Hq (Box E wb.drew bz (.cells #[Iv i,Iv y,Iv U,Iv l,Iv N.refs,Iv ll,Iv lh,Iv hl,Iv hh] 234 (0,0))):=Hd (by
      rw[gy,gz];have h:=((g5.o.set 1 (Iv y)).set 2 (Iv U)).set 3 (Iv l);rw[HN.o.2.2.1]at h;exact⟨h.blk,h.no⟩)
     have kZ:Hq (Box E wb.drew bo (.cells #[Iv i,Iv N.v,Iv b.lo,Iv b.hi,Iv N.refs] 203 (0,0))):=Hd (by
      rw[gy,gz];have h:=((kX.o.other (p:=Aw bz 1) (u:=Iv y) (Ye gI)).other (p:=Aw bz 2) (u:=Iv U) (Ye gI)).other (p:=Aw bz 3) (u:=Iv l) (Ye gI);rw[HN.o.2.2.1,HN.o.1,HN.o.2.1]at h;exact⟨h.blk,h.no⟩)
     have y1:wo.cell? (Aw bz 1)=some (Iv N.v):=g5.o.cell 1;have y2:wo.cell? (Aw bz 2)=some (Iv N.lo):=g5.o.cell 2;have y3:wo.cell? (Aw bz 3)=some (Iv N.hi):=g5.o.cell 3;have yf:∀q,wo.frozen? (Aw bz q)=false:=λq=>by simp[World.frozen?,g5.o.blk]
     have Hh:=Hd gY;have kY:=Hd gw;have Hj:=Hd gz;have Hi:=Hd gy;have HH:=Hd gI;clear gY gf hc gw gI gz gy HV kk x0 x1 x2 x3 x4 xf;rw[<-Hh.o,<-kY.o];go_upto_region 24 with fail;rw[<-Hj.o,<-Hi.o];obtain⟨s9,h9⟩:=kx.o.st;obtain⟨k0,k1,k2,k3,k4,kf⟩:=cells5 h9.blk;have hX:d8.pool.tk i=true:=by
      have h1:Aa d8 i=some b:=hE.o.mid.keep i b T.o.node kA.o;exact(BQ h1).1
     have kw:=Hd (hE.o.turned (n:=⟨i,y,U,l,N.refs⟩) g1.o HT.o kA.o T.o.node (kC.o.1 ▸ gp.o.e1) (kC.o.1 ▸ gp.o.e2) gp.o.reg gp.o.ne gp.o.val rfl HN.o.2.2.2 (h9.pool.tk_lt hX).2);have ka:=Hd (S6 (n:=⟨i,y,U,l,N.refs⟩) kx.o h9 hX g9.o kZ.o);unfold Ao at ka;have n0:wb.cell? (Av bz)=some (Iv i):=g9.o.cell 0;have n1:wb.cell? (Aw bz 1)=some (Iv y):=g9.o.cell 1;have n2:wb.cell? (Aw bz 2)=some (Iv U):=g9.o.cell 2;have n3:wb.cell? (Aw bz 3)=some (Iv l):=g9.o.cell 3;have n4:wb.cell? (Aw bz 4)=some (Iv N.refs):=g9.o.cell 4;have k1':wb.cell? (Aw sb 1)=some (Pt s9.pb):=k1;have Hr:Hq (s9.ts.length=d0.vars.length):=Hd (by rw[h9.tlen,hE.o.vlen]);clear k0 k1 k2 k3 k4 kf h9 hX y1 y2 y3 yf;refine AJ (λW:Wd=>W=wb.drew) true 6 [(0,false),(1,false),(2,false),(3,false),(4,false),(5,false),(6,true)] (by kernel_rfl) (by kernel_rfl) rfl ?_;simp only[planned,AI]
     iterate 6
      refine A0 rfl ?_;apply Exists.intro;refine⟨λw' A=>?_,?_⟩
      . subst A;go_simp;rfl
      simp only[Ab]
     refine ER rfl (by go_simp) ka.o ?_;rintro _ Z ⟨rfl,gP,ho,gO,hK⟩;simp only[Ab];refine C2 ?_;clear n0 n1 n2 n3 n4 k1';have hY:=ho.below gP.lt (An Z 1);have hI:y<s9.ts.length:=by rw[Hr.o];exact g1.o.facts.2.1
     have H3:(y:Int)<s9.ts.length:=by omega
     obtain⟨gt,ct,gB,celly,H7⟩:=ho.tabAt (v:=y) (by show y<d8.vars.length;rw[hE.o.vlen];exact g1.o.facts.2.1);obtain⟨k0,k1,k2,k3,k4,kf⟩:=cells5 ho.blk;rw[gB]at k2;have kO:=Hd (S7 (id:=i) (gP.below (An Z 1)) hY hI kw.o.1 (gO.chg (Chg.of_below (An Z 1) Am E)) (hK.chg (Chg.of_below (An Z 1) Am E)));have n0:Z.cell? (Av bz)=some (Iv i):=gO.cell 0;clear gP ho gO hK hY gB k0 k1 k3 k4 kf hI;go_upto_region 25 with fail;refine AJ (λW:Wd=>W=Z.drew) true 12 [(0,false),(1,false),(2,false),(3,false),(4,false),(5,false),(6,false),(7,false),(8,false),(9,false),(10,false),(11,false),(12,true)] (by kernel_rfl) (by kernel_rfl) rfl ?_;simp only[planned,AI]
     iterate 12
      refine A0 rfl ?_;apply Exists.intro;refine⟨λw' A=>?_,?_⟩
      . subst A;go_simp;rfl
      simp only[Ab]
     refine ER rfl (by go_simp) kO.o ?_;rintro _ w11 ⟨rfl,gr,kH,gN⟩;simp only[Ab];refine C2 ?_;have kN:=Hd gr;have kJ:=Hd gN
     have Hp:=Hd (Mq gr.st gr.lt g1.o kw.o.2 T.o.node T.o.v (.inl rfl) (λq=>by
      have h1:=g1.o.top q;have h2:toE b.lo q<=1:=by unfold toE;split<;>omega
      have h3:toE b.hi q<=1:=by unfold toE;split<;>omega
      unfold addE;omega) (λq=>by
      have h1:0<=Al d0 q:=by unfold Al;split<;>omega
      have h3:0<=toE b.hi q:=by unfold toE;split<;>omega
      unfold addE;omega))
     have u2:w11.cell? (Aw bo 2)=some (Iv b.lo):=gN.cell 2;clear gr kH gN n0 k2 celly H3;go_wp2_with fail;refine Hp.o.mono ?_;rintro q w12 ⟨rfl,d12,st12,lt12,m12,c12⟩;have kM:=Hd (kN.o.move st12 lt12 c12 (λ_ h=>h));have hJ:=kJ.o.chg c12
     have kQ:=Hd (Mq st12 lt12 g1.o m12 T.o.node T.o.v (.inr rfl) (λq=>by
      have h1:=g1.o.top q;have h2:toE b.lo q<=1:=by unfold toE;split<;>omega
      have h3:toE b.hi q<=1:=by unfold toE;split<;>omega
      have h4:0<=toE b.lo q:=by unfold toE;split<;>omega
      unfold addE;omega) (λq=>by
      have h1:0<=Al d0 q:=by unfold Al;split<;>omega
      unfold addE;omega))
     have u3:w12.cell? (Aw bo 3)=some (Iv b.hi):=hJ.cell 3;clear st12 lt12 m12 c12 hJ u2;go_wp2_with fail;refine kQ.o.mono ?_;rintro q w13 ⟨rfl,d13,st13,lt13,M,c13⟩;rw[S3]at M;have hD:=Hd (And.intro (kM.o.move st13 lt13 c13 (λ_ h=>h)) (M.congr Hk.o));clear st13 lt13 M c13 u3;go_wp2;go_roundw
     case rel=>exact⟨j+1,Z0 gM.o,by go_num,Hd ⟨_,_,_,hD.o.1,hD.o.2⟩⟩
     case measure=>
      have:=gM.o;have:=hG.o;simp[intOf];omega
    ·obtain rfl:j=H.length:=by omega
     obtain⟨oe,de,Ve,h7,hS⟩:=hC.o;have hQ:=hS.final g1.o.v g1.o.ok g1.o.lev (λi hT=>by rw[XP];exact(gV.o i).2 hT);have Hv:=Hd (J0 h7.st h7.lt hQ)
     have kS:Hq (∀w' o' d',A3 o' w' sb d'->Ac o' w'->AN de d'->Chg Am oe o' wr w'->P (.returned (Iv 0)) w'):=Hd (by
      intro w' o' d' f z cr' ch';rw[kz.o];exact⟨o',d0,ke.o,z,kF.o.trans (h7.chg.trans ch'),.inr ⟨rfl,d',Ve,f,hS.o hQ cr'⟩⟩)
     clear h7 hS hQ hC;go_wp2_with fail;refine Hv.o.mono ?_;rintro q w14 ⟨rfl,o14,d14,st14,lt14,cr14,ch14⟩;have HF:=Hd (kS.o w14 o14 d14 st14 lt14 cr14 ch14);clear st14 lt14 cr14 ch14;go_wp2_with fail;exact HF.o
section
def Ct.big (h:Ct m){p:Int×Nat}(H:p∈m.hs):p.2/2=0\/1<p.1:=by
 by_cases h1:1<p.1
 . exact .inr h1
 ·left;have g1:=h.lt p H;have hu:∀q∈m.hs,q.1=p.1->q=p:=by
   intro q I e;have g0:=h.nodup;have h1:=DG (l:=encH m.hs) (EO g0) (X6.2 ⟨q,I,rfl⟩);have h2:=DG (l:=encH m.hs) (EO g0) (X6.2 ⟨p,H,rfl⟩);rw[e,h2]at h1;have e2:(p.2:Int)=(q.2:Int):=by injection h1 with h1;injection h1
   exact Prod.ext e (by omega)
  rcases(by omega:p.1=0\/p.1=1)with e|e
  . rw[<-hu _ h.zero e.symm];rfl
  . rw[<-hu _ h.one e.symm];rfl
def Ms {hs:List (Int×Nat)}{p:Int×Nat}(H:p∈hs)(h1:1<p.1):0<AT hs (p.2/2):=by
 unfold AT;refine aJ (YA.2 ⟨H,?_⟩);simp[h1]
def SE (hs:List (Int×Nat))(i:Nat):AT hs i<=hs.length:=Yj _ _
def Mt (h:Ct m)(i:Nat):Al m.d i<=m.next:=by
 cases hb:Aa m.d i with
 | none=>rw[EI hb];have:=h.next;omega
 | some b=>
   rw[h.refs i b hb];have h1:=SE m.hs i;have h2:=h.len;omega
def SF (h:Ct { m with d:=d0 })(hk:Ai d0 V)(s:FA d0 V k d' V'):Ct { m with d:=d' }:=by
 have g1:∀p∈m.hs,okE (Aa d') p.2:=by
  intro p H;rcases h.ok p H with h0|⟨b,hb⟩
  . exact .inl h0
  ·rcases h.big H with h1|h1
   . exact .inl h1
   . refine .inr (s.live _ b hb ?_);have h2:=h.refs _ b hb;have h3:0<AT m.hs (p.2/2):=Ms H h1;have X:Al d0 (p.2/2)=(AT m.hs (p.2/2):Int):=h2;omega
 refine⟨h.nodup,h.zero,h.one,h.lt,h.next,g1,h.len,λi b hb=>?_⟩
 show Al d' i=(AT m.hs i:Int)
 rw[s.ext i b hb];cases I:Aa d0 i with
 | some U=>exact h.refs i U I
 | none=>
   rw[EI I];have hi:i≠0:=by
    rintro rfl;have h0:Aa d' 0=none:=s.ok.dag.none0;have h1:Aa d' 0=some b:=hb;rw[h0]at h1;cases h1
   have:AT m.hs i=0:=by
    unfold AT;rw[Zl,List.filter_eq_nil_iff];intro p H;have O:=h.ok p H;simp only[XH,Yk,ZO,not_and];rintro _ rfl;rcases O with h0|⟨b1,g2⟩
    . exact hi h0
    . have g0:Aa d0 (p.2/2)=some b1:=g2;rw[I]at g0;cases g0
   rw[this];rfl
end
structure Mu (K:Law)(n room:Nat)(w0:Wd)(mb:Nat)(fs:List (Int×BF))(nx:Int)(k:Nat)(o:Own)(w:Wd)(m:ManD)(V:Nat->BF)(e:Ending)(o':Own)(w':Wd)(m':ManD)(V':Nat->BF):Prop where
 sat:SatE K n (λ_=>True) room w0 mb fs nx w' o' m' V'
 waits:m'.waits=m.waits
 calls:m'.calls=m.calls
 chg:Chg (λ_=>True) o o' w w'
 way:∃d0,AN m.d d0/\((e=.returned (Iv 7)/\m'.d=d0/\V'=V/\d0.pool.room<3*d0.pool.many)\/(e=.returned (Iv 0)/\FA d0 V k m'.d V'))
section
variable {o:Own}
def Mv {s:ManW}(h:SatE K n Od room w0 mb fs nx w o m V)(g1:A9 (λ_ _ _ _ _=>False) o w1 mb m s)(g2:Chg (· = .entries) o o w w1)(g3:Ac o w1)(U:k+1<n)(Z:nx<=549755813888):
 Cl 135 #[Pt s.sb,Iv k] w1 λe w'=>∃o' m' V',Mu K n room w0 mb fs nx k o w m V e o' w' m' V':=by
 have g0:=h.next
 refine(SD g1.store g3 h.ok.store k (by rw[h.vars];exact U) (λi=>by have:=Mt h.ok.handles i;omega)).mono ?_;rintro e w' ⟨o',d0,H,lt,ch,X⟩;have O:Chg (λ_=>True) o o' w w':=g2.any.trans ch.any;have h0:=Jj h.ok.handles h.ok.store H;rcases X with ⟨rfl,st,Y⟩|⟨rfl,d',V',st,I⟩
 . refine⟨o',{ m with d:=d0 },V,⟨⟨s,(g1.setStore g3 st ch).mono λ_ _ _ _ _ e=>e.elim⟩,lt,⟨H.ok h.ok.store,h0⟩,by dsimp only;rw[H.vars];exact h.vars,trivial,by dsimp only;rw[H.room];exact h.room,h.next,h.hs,h.chg.lower (ChgX.of_chg O NoB) (λ_ e=>e.elim)⟩,rfl,rfl,O,d0,H,.inl ⟨rfl,rfl,rfl,Y⟩⟩
 ·refine⟨o',{ m with d:=d' },V',⟨⟨s,(g1.setStore g3 st ch).mono λ_ _ _ _ _ e=>e.elim⟩,lt,⟨I.ok,SF h0 (H.ok h.ok.store) I⟩,?_,trivial,?_,h.next,?_,h.chg.lower (ChgX.of_chg O NoB) (λ_ e=>e.elim)⟩,rfl,rfl,O,d0,H,.inr ⟨rfl,I⟩⟩
  ·show d'.vars.length=n
   rw[I.vars,GB,H.vars];exact h.vars
  ·show d'.pool.room=room
   rw[I.room,H.room];exact h.room
  ·show m.hs.map (λp=>(p.1,ef V' p.2))=fs
   rw[LQ (d:=d0) h0.ok I.val];exact h.hs
end
theorem SG {o:Own}(st:A3 o w sb d)(hs:d.vars.length<=64)(z:Int)(U:z<0\/(d.vars.length:Int)-1<=z):
 Cl 135 #[Pt sb,Iv z] w λx w'=>x=.returned (Iv 2)/\w'=w:=by
 obtain⟨I,h0⟩:=id st;obtain⟨b,c1,c2,Z,Y,f0⟩:=cells5 h0.blk;obtain⟨H,O,_⟩:=cells2 h0.lev;obtain⟨av,cv,g0⟩:∃a c,I.vv=.slice a d.vars.length c:=by
  rcases h0.vars with ⟨_,h1|⟨g,cap,c,X,_⟩⟩
  . exact⟨_,_,by rw[h1.1,h1.2]⟩
  . exact⟨_,_,X⟩
 rw[g0]at H;clear st h0 g0 c1 c2 Z Y f0 O
 by_cases e:z<0
 ·clear H b
  go_enter func135,ntmps135
  go_wp2;go_ret;exact⟨rfl,rfl⟩
 ·have h1:z>=(d.vars.length:Int)-1:=by omega
  clear U
  go_enter func135,ntmps135
  go_wp2;go_ret;exact⟨rfl,rfl⟩
section
variable {o:Own}
def SH (h:SatE K n Od room w0 mb fs nx w o m V)(z:Int)(P:Ending->Wd->Prop)
 (H:∀s w1,A9 (K m.d V) o w mb m s->A9 (λ_ _ _ _ _=>False) o w1 mb m s->Chg (· = .entries) o o w w1->Ac o w1->Cl 135 #[Pt s.sb,Iv z] w1 λx w'=>∃q:Int,x=.returned (Iv q)/\P x w'):
 Cl 92 #[Pt mb,Iv z] w P:=by
 obtain⟨s,hs⟩:=h.is;obtain⟨Z,c1,c2,Y,X,U,f0⟩:=cells6 hs.blk;have O:=Hd (λw1=>H s w1 hs);have g0:=Hd (wclear h hs (λ_ _ _ _ _=>False));clear h hs H
 go_enter func92,ntmps92
 go_wp2_with fail;refine g0.o.mono ?_;rintro x w1 ⟨rfl,g1,g2,g3⟩;obtain⟨d0,d1,d2,d3,d4,d5,f1⟩:=cells6 g1.blk;have g4:=Hd (O.o w1 g1 g2 g3);clear g1 g2 g3 Z c1 c2 Y X U f0 g0 O;go_wp2_with fail;refine g4.o.mono ?_;rintro x w2 ⟨q,rfl,I⟩;have HQ:=Hd I;clear I;go_wp2_with fail;exact HQ.o
def SI (h:SatE K n Od room w0 mb fs nx w o m V)(H:k+1<n)(O:nx<=549755813888):
 Cl 92 #[Pt mb,Iv k] w λe w'=>∃o' m' V',Mu K n room w0 mb fs nx k o w m V e o' w' m' V':=
 SH h k _ λs w1 _ g1 g2 g3=>(Mv h g1 g2 g3 H O).mono λe w' ⟨o',m',V',hs⟩=>by
  obtain⟨d0,U,I⟩:=hs.way;rcases I with ⟨e1,_⟩|⟨e1,_⟩
  . exact⟨7,e1,o',m',V',hs⟩
  . exact⟨0,e1,o',m',V',hs⟩
end
def EU (f g:Nat->Int):∀k,Ah k (λi=>f i+g i)=Ah k f+Ah k g
 | 0=>by simp[Ah]
 | k+1=>by simp only[Ah];rw[EU f g k];omega
def GC {f g:Nat->Int}:∀k,(∀i,i<k->f i<=g i)->Ah k f<=Ah k g
 | 0,_=>by simp[Ah]
 | k+1,h=>by
   have h1:=GC k (λi hi=>h i (by omega));have h2:=h k (by omega);simp only[Ah];omega
def J2 (c:Int)(f:Nat->Int):∀k,c*Ah k f=Ah k (λi=>c*f i)
 | 0=>by simp[Ah]
 | k+1=>by simp only[Ah];rw[Int.mul_add,J2 c f k]
def Mw (f:Nat->Nat->Int)(m:Nat):∀k,Ah k (λi=>Ah m (λj=>f i j))=Ah m (λj=>Ah k (λi=>f i j))
 | 0=>by simp only[Ah];rw[DD]
 | k+1=>by
   simp only[Ah];rw[Mw f m k,<-EU]
def J3 {g:Nat->Int}(H:∀i,0<=g i)(e k:Nat):Ah k (λi=>g i*toE e i)<=g (e/2):=by
 by_cases hk:e/2<k
 ·have h1:=Dv (f:=λ_=>0) (g:=λi=>g i*toE e i) (j:=e/2) (λi hi=>by
   have:toE e i=0:=by unfold toE;rw[Xu (Ye hi)]
   simp[this]) k hk
  rw[h1,DD];have:toE e (e/2)=1:=E9 e;simp[this]
 ·rw[B5 (g:=λ_=>0) k (λi hi=>by
   have:toE e i=0:=by unfold toE;rw[Xu (by omega)]
   simp[this]),DD]
  exact H _
def gW (d:Af)(i:Nat):Int:=match Aa d i with
 | some b=>((2^(d.vars.length-levN d b.v):Nat):Int)-1
 | none=>0
def FC (d:Af)(i:Nat):0<=gW d i:=by
 unfold gW;split
 . have:0<2^(d.vars.length-levN d (by assumption:BN).v):=Yg (by decide);omega
 . omega
abbrev X8:=@Nat.pow_le_pow_right
def Mx (d:Af)(i l:Nat)(h:∀b,Aa d i=some b->l<=levN d b.v):gW d i<=((2^(d.vars.length-l):Nat):Int)-1:=by
 unfold gW;split
 ·rename_i b hb
  have h1:=h b hb;have:2^(d.vars.length-levN d b.v)<=2^(d.vars.length-l):=X8 (by decide) (by omega);omega
 . have:0<2^(d.vars.length-l):=Yg (by decide);omega
def SJ (hk:Ai d V){b:BN}(hb:Aa d j=some b):gW d (b.lo/2)+gW d (b.hi/2)<=gW d j-1:=by
 have hl:=hk.dag.lt _ (hk.dag.var _ _ hb);have key:∀e,levN d b.v<lvE d.vars.length (levN d) (Aa d) e->gW d (e/2)<=((2^(d.vars.length-(levN d b.v+1)):Nat):Int)-1:=λe H=>Mx d _ _ (λc I=>by rw[F9 I]at H;omega)
 have h1:=key _ (hk.dag.lvLo _ _ hb);have h2:=key _ (hk.dag.lvHi _ _ hb);have h3:gW d j=((2^(d.vars.length-levN d b.v):Nat):Int)-1:=by unfold gW;rw[hb]
 have O:d.vars.length-levN d b.v=(d.vars.length-(levN d b.v+1))+1:=by omega
 rw[h3,O,XJ];omega
def SK (hk:Ai d V)(h0:d.dead=0)(U:(d.pool.many:Int)=Ah d.pool.at_.length (λi=>if d.pool.tk i=true then 1 else 0)):
 (d.pool.many:Int)<=Ah d.pool.at_.length (λi=>gW d i*Al d i):=by
 obtain⟨k,g0⟩:=Ex d.pool.at_.length;rw[<-g0]at U⊢;have e1:Ah k (λi=>gW d i*(Ak d i:Int))=Ah k (λi=>gW d i*Al d i)+Ah k (λi=>gW d i*Ah k (from1 (Aa d) (Ak d) i)):=by
  rw[<-EU];refine B5 k λi _=>?_
  cases hb:Aa d i with
  | none=>simp[gW,hb]
  | some b=>rw[hk.live.cnt.eq i b hb,Int.mul_add,g0]
 have e2:Ah k (λi=>gW d i*Ah k (from1 (Aa d) (Ak d) i))=Ah k (λj=>Ah k (λi=>gW d i*from1 (Aa d) (Ak d) i j)):=by
  rw[<-Mw];exact B5 k λi _=>J2 _ _ _
 have a:Ah k (λj=>Ah k (λi=>gW d i*from1 (Aa d) (Ak d) i j))<=Ah k (λj=>gW d j + -(if d.pool.tk j=true then 1 else 0)):=by
  refine GC k λj _=>?_
  cases hb:Aa d j with
  | none=>
    have H:d.pool.tk j=false:=IQ hb;rw[B5 (g:=λ_=>0) k (λi _=>by simp[from1,hb]),DD];simp[gW,hb,H]
  | some b=>
    have H:d.pool.tk j=true:=(BQ hb).1;have I:=G6 hk.live h0 hb
    rw[B5 (g:=λi=>gW d i*toE b.lo i+gW d i*toE b.hi i) k (λi _=>by
     simp only[from1,hb,Xx I,C0];rw[Int.mul_add]),EU,H,Xx rfl]
    have h1:=J3 (FC d) b.lo k;have h2:=J3 (FC d) b.hi k;have h3:=SJ hk hb;omega
 have Z:Ah k (λi=>gW d i)<=Ah k (λi=>gW d i*(Ak d i:Int)):=by
  refine GC k λi _=>?_
  cases hb:Aa d i with
  | none=>simp[gW,hb]
  | some b=>
    have I:=G6 hk.live h0 hb;have O:=FC d i;have h1:(1:Int)<=(Ak d i:Int):=by omega
    have h2:=Int.mul_le_mul_of_nonneg_left h1 O;omega
 have Y:Ah k (λj=>gW d j + -(if d.pool.tk j=true then 1 else 0))=Ah k (λj=>gW d j)+Ah k (λj=>-(if d.pool.tk j=true then 1 else 0)):=EU _ _ _;have X:Ah k (λj=>-(if d.pool.tk j=true then(1:Int)else 0))= -Ah k (λj=>if d.pool.tk j=true then 1 else 0):=by
  have:=J2 (-1) (λj=>if d.pool.tk j=true then(1:Int)else 0) k;rw[B5 (g:=λi=>-1*if d.pool.tk i=true then(1:Int)else 0) k (λi _=>by omega),<-this];omega
 omega
abbrev Z8:=@List.filter_cons_of_neg
def My (d:Af)(k:Nat):∀hs:List (Int×Nat),Ah k (λi=>gW d i*(AT hs i:Int))<=hs.length*((2^d.vars.length:Nat):Int)
 | []=>by
   rw[B5 (g:=λ_=>0) k (λi _=>by simp[AT]),DD];simp
 | p::l=>by
   have H:=My d k l;have h1:Ah k (λi=>gW d i*(AT (p::l) i:Int))<=Ah k (λi=>gW d i*(AT l i:Int)+gW d i*toE p.2 i):=by
    refine GC k λi _=>?_
    rw[<-Int.mul_add];refine Int.mul_le_mul_of_nonneg_left ?_ (FC d i);unfold AT toE
    by_cases e:p.2/2=i
    ·rw[Xx e];have:(List.filter (λp=>decide (1<p.1)&&p.2/2 == i) (p::l)).length<=(List.filter (λp=>decide (1<p.1)&&p.2/2 == i) l).length+1:=by
      rw[Zg];split<;>simp
     omega
    . rw[Xu e,Z8 (by simp[e])];omega
   have h2:=J3 (FC d) p.2 k;have h3:=Mx d (p.2/2) 0 (λ_ _=>X0 _);rw[EU]at h1;rw[XL,Int.natCast_add,Int.add_mul];simp only[Nat.sub_zero]at h3;have I:((1:Nat):Int)*((2^d.vars.length:Nat):Int)=((2^d.vars.length:Nat):Int):=by simp
   omega
section
variable {o:Own}
def SatE.few (h:SatE K n Od room w0 mb fs nx w o m V)(h0:m.d.dead=0):m.d.pool.many<=fs.length*2^n:=by
 obtain⟨s,hs⟩:=h.is;obtain⟨I,h2⟩:=hs.store;have h1:=SK h.ok.store h0 h2.pool.cnt;have h3:=My m.d m.d.pool.at_.length m.hs;have U:Ah m.d.pool.at_.length (λi=>gW m.d i*Al m.d i)=Ah m.d.pool.at_.length (λi=>gW m.d i*(AT m.hs i:Int)):=by
  refine B5 _ λi _=>?_
  cases hb:Aa m.d i with
  | none=>simp[gW,hb]
  | some b=>rw[h.ok.handles.refs i b hb]
 have H:fs.length=m.hs.length:=by rw[<-h.hs,XT]
 rw[H,<-h.vars];have O:((m.hs.length*2^m.d.vars.length:Nat):Int)=m.hs.length*((2^m.d.vars.length:Nat):Int):=by rw[Int.natCast_mul]
 omega
end
def SL (zs:List Int)(x:Int)(i:Nat):Fo zs x i=bub zs i (Cy zs x-i).toNat:=rfl
def SM (zs:List Int)(i d:Nat):(bub zs i (d+1)).2=((i+d:Nat):Int)::(bub (D8 zs ((i+d:Nat):Int)) i d).2:=rfl
theorem OwnI.lower {base base':Nat}(h:OwnI w base v zs)(hb:base'<=base):OwnI w base' v zs:=by
 refine⟨h.1,h.2.imp id ?_⟩;rintro⟨g,cap,cur,hv,hg,rest⟩;exact⟨g,cap,cur,hv,Xz hb hg,rest⟩
def Mz (a b:List Int)(w:Wd)(e:Ending)(w':Wd):Prop:=
 ∃v,e=.returned (.tuple #[v,Iv (CL a b)])/\OwnI w' w.heap.size v (CK a b)/\Bw w w'
def GD {a b r:List Int}{E:Int}(I:CL a b=E)(H:CK a b=r)(hs:OwnI w' w.heap.size v r)(hb:Bw w w'):
 Mz a b w (.returned (.tuple #[v,Iv E])) w':=⟨v,by rw[I],by rw[H];exact hs,hb⟩
def metB (zs:List Int)(k:Nat)(v:Int):Bool:=decide (∃j,j<k/\at0 zs j=v)
def SN (zs:List Int)(v:Int):metB zs 0 v=false:=by simp[metB]
def SO (zs:List Int)(k:Nat):metB zs (k+1) (at0 zs k)=true:=by simp only[metB,Yk];exact⟨k,by omega,rfl⟩
abbrev ZT:=@decide_eq_decide
def M4 (zs:List Int)(k:Nat)(v:Int)(h:at0 zs k≠v):metB zs (k+1) v=metB zs k v:=by
 simp only[metB,ZT];constructor
 ·rintro⟨j,hj,he⟩;refine⟨j,?_,he⟩
  by_cases e:j=k
  . subst e;exact(h he).elim
  . omega
 . rintro⟨j,hj,he⟩;exact⟨j,by omega,he⟩
def SP {v:Int}(h:metB zs k v=true):∃j,j<k/\at0 zs j=v:=by simpa [metB]using h
def SQ {v:Int}(h:metB zs k v=false):∀j,j<k->at0 zs j≠v:=by
 intro j H I;have:metB zs k v=true:=by simp only[metB,Yk];exact⟨j,H,I⟩
 rw[h]at this;cases this
def Marks (w:Wd)(g:Nat)(zs:List Int)(k base:Nat):Prop:=
 ∃H,w.heap[g]?=some (.cells H 268 (0,0))/\H.size=64/\∀u,u<64->H[u]?=some (.bool (metB zs k ((base+u:Nat):Int)))
def Marks.cell {w:Wd}{g:Nat}{zs:List Int}{k base:Nat}(h:Marks w g zs k base)(u:Nat)(hu:u<64):w.cell? (Aw g u)=some (.bool (metB zs k ((base+u:Nat):Int))):=by
 obtain⟨H,h1,h2,h3⟩:=h;simp only[World.cell?,h1];exact h3 u hu
def Marks.frozen {w:Wd}{g:Nat}{zs:List Int}{k base:Nat}(h:Marks w g zs k base)(u:Nat):w.frozen? (Aw g u)=false:=by
 obtain⟨H,h1,h2,h3⟩:=h;simp[World.frozen?,h1]
def Marks.step_out {base:Nat}(h:Marks w g zs k base)(hx:¬ ((base:Int)<=at0 zs k/\at0 zs k<base+64)):Marks w g zs (k+1) base:=by
 obtain⟨H,h1,h2,h3⟩:=h;exact⟨H,h1,h2,λu hu=>by rw[M4 _ _ _ (by omega)];exact h3 u hu⟩
def Marks.step_in {base u:Nat}(h:Marks w g zs k base)(hx:at0 zs k=((base+u:Nat):Int))(hu:u<64):
 Marks (w.setCell (Aw g u) (.bool true)) g zs (k+1) base:=by
 obtain⟨H,h1,h2,h3⟩:=h;refine⟨H.setIfInBounds u (.bool true),?_,by simpa using h2,λv I=>?_⟩
 . simp[World.setCell,Zv,h1]
 ·by_cases e:v=u
  . subst e;rw[Array.getElem?_setIfInBounds_self_of_lt (by omega),<-hx,SO]
  . rw[Array.getElem?_setIfInBounds_ne (by omega),M4 _ _ _ (by omega)];exact h3 v I
def SR (w:Wd)(zs:List Int)(base:Nat)(cs:List Value)(H:cs=List.replicate 64 (.bool false)):Marks (w.alloc (.cells cs.toArray 268)) w.heap.size zs 0 base:=
 ⟨_,Xv w _,by simp[H],λu hu=>by rw[SN,List.getElem?_toArray,H,aA,Xx hu]⟩
def FD (zs:List Int)(B:Nat):Prop:=
 1<=B->(∀j,j<zs.length->0<=at0 zs j/\at0 zs j<zs.length)/\∀i,i<zs.length->∀l,l<i->at0 zs l=at0 zs i->(B:Int)<=at0 zs i
def FE (zs:List Int)(B k:Nat):Prop:=
 (∀j,j<k->0<=at0 zs j/\at0 zs j<zs.length)/\(∀i,i<k->∀l,l<i->at0 zs l=at0 zs i->¬ ((B:Int)<=at0 zs i/\at0 zs i<(B:Int)+64))
def SS (zs:List Int):FD zs 0:=λh=>by omega
def SU (zs:List Int)(B:Nat):FE zs B 0:=⟨by omega,by omega⟩
def J4 {B:Nat}(h:FE zs B k)(h1:0<=at0 zs k)(h2:at0 zs k<zs.length)
 (h3:¬ ((B:Int)<=at0 zs k/\at0 zs k<(B:Int)+64)\/metB zs k (at0 zs k)=false):FE zs B (k+1):=by
 refine⟨λj I=>?_,λi hi l hl H=>?_⟩
 ·by_cases e:j=k
  . subst e;exact⟨h1,h2⟩
  . exact h.1 j (by omega)
 ·by_cases e:i=k
  ·subst e;rcases h3 with h3|h3
   . exact h3
   . exact(SQ h3 l hl H).elim
  . exact h.2 i (by omega) l hl H
def SV {B:Nat}(h:FD zs B)(hi:FE zs B zs.length):FD zs (B+64):=by
 refine λ_=>⟨hi.1,λi g0 l hl H=>?_⟩
 have h2:=hi.2 i g0 l hl H;have h3:=(hi.1 i g0).1
 by_cases I:1<=B
 . have:=(h I).2 i g0 l hl H;omega
 . omega
def SX {B:Nat}(h:FD zs B)(I:zs.length<=B):Cg zs=true:=by
 rw[KC]
 by_cases h0:1<=B
 . obtain⟨h1,h2⟩:=h h0;exact⟨h1,λi hi k hk H=>by have:=h2 i hi k hk H;have:=(h1 i hi).2;omega⟩
 . exact⟨by omega,by omega⟩
def M5 (hk:k<zs.length)(h:¬ (0<=at0 zs k/\at0 zs k<zs.length)):Cg zs=false:=KD λhh=>h (hh.1 k hk)
def SY (hk:k<zs.length)(h:metB zs k (at0 zs k)=true):Cg zs=false:=by
 obtain⟨j,H,I⟩:=SP h;exact KD λhh=>hh.2 k hk j H I
def Ez (a:Option Addr)(c:Nat)(zs:List Int)(w:Wd)(h:Aj w a zs)(X:zs.length<1000000):
 Cl 179 #[.slice a zs.length c] w (Bl (.bool (Cg zs)) w):=by
 obtain⟨hl,Y⟩:=h;have l:Hq (∀k,k<zs.length->∃b off,a=some (Aw b off)/\b<w.heap.size/\w.cell? (Aw b (off+k))=some (Iv (at0 zs k))):=λk hk=>by
  obtain⟨b,off,h1,h2⟩:=Y k hk;exact⟨b,off,h1,Ad h2,h2⟩
 clear Y
 go_enter func179,ntmps179
 go_wp2
 go_loopw [3] (λj wr=>∃B:Nat,j=Iv B/\B<=zs.length+63/\FD zs B/\Bw w wr/\w.heap.size<=wr.heap.size) (λi _=>zs.length+64-(intOf i).toNat)
 case atStart=>exact⟨0,rfl,by omega,SS zs,X7 _ _,Xs _⟩
 case round=>
  obtain⟨B,rfl,q,hrel,g9,e⟩:=hrel;have g:=Hd hrel;clear hrel
  by_cases u:B<zs.length
  ·go_wp2
   obtain⟨wo,rfl⟩:=Ex (wr:Wd)
   go_loopw [16] (λi O=>∃k:Nat,k<=zs.length/\i=Iv k/\FE zs B k/\Marks O wo.heap.size zs k B/\Bw w O/\w.heap.size<=O.heap.size) (λi _=>zs.length-(intOf i).toNat)
   case atStart=>exact⟨0,by omega,rfl,SU zs B,SR _ _ _ _ rfl,g9.alloc e _,by simp;omega⟩
   case round=>
    obtain⟨k,hk,rfl,d,U,g0,g2⟩:=hrel;have g4:=Hd d;have H:=Hd U;clear d U
    by_cases g3:k<zs.length
    ·obtain⟨b,off,rfl,m,Z⟩:=l.o k g3;have gk:=(g0.cell (p:=(Aw b (off+k))) m).trans Z;clear Z
     by_cases hx:0<=at0 zs k/\at0 zs k<zs.length
     ·obtain⟨g6,g5⟩:=hx
      by_cases g1:(B:Int)<=at0 zs k/\at0 zs k<(B:Int)+64
      ·obtain⟨x,y⟩:=g1;have g7:((at0 zs k).toNat-B)<64:=by omega
       have g8:at0 zs k=((B+((at0 zs k).toNat-B):Nat):Int):=by omega
       have ge:=H.o.cell _ g7;have r:=H.o.frozen ((at0 zs k).toNat-B);rw[<-g8]at ge;have n:=Hd g8
       generalize gc:metB zs k (at0 zs k)=mb at ge
       have gf:=Hd gc;clear gc g8;cases mb
       ·go_wp2
        go_roundw
        case rel=>exact⟨k+1,by omega,by go_num,J4 g4.o g6 g5 (.inr gf.o),H.o.step_in n.o g7,g0.setCell e _,by simp;omega⟩
        case measure=>simp[intOf];omega
       ·go_wp2
        go_ret;exact⟨CJ (SY g3 gf.o).symm,g0⟩
      ·have I:=Hd g1
       by_cases t:at0 zs k<(B:Int)
       ·clear g1
        go_wp2
        go_roundw
        case rel=>exact⟨k+1,by omega,by go_num,J4 g4.o g6 g5 (.inl I.o),H.o.step_out I.o,g0,g2⟩
        case measure=>simp[intOf];omega
       ·have go:(B:Int)+64<=at0 zs k:=by omega
        clear g1
        go_wp2
        go_roundw
        case rel=>exact⟨k+1,by omega,by go_num,J4 g4.o g6 g5 (.inl I.o),H.o.step_out I.o,g0,g2⟩
        case measure=>simp[intOf];omega
     ·have f:=Hd hx
      by_cases v:at0 zs k<0
      ·clear hx
       go_wp2
       go_ret;exact⟨CJ (M5 g3 f.o).symm,g0⟩
      ·have s:(zs.length:Int)<=at0 zs k:=by omega
       clear hx
       go_wp2
       go_ret;exact⟨CJ (M5 g3 f.o).symm,g0⟩
    ·obtain rfl:k=zs.length:=by omega
     go_wp2
     go_roundw
     case rel=>exact⟨B+64,by go_num,by omega,SV g.o g4.o,g0,g2⟩
     case measure=>simp[intOf];omega
  ·go_wp2
   go_ret;exact⟨CJ (SX g.o (by omega)).symm,g9⟩
abbrev Z9:=@and_true
abbrev ZX:=@wpList_copy_splice
abbrev aL:=@List.drop_eq_nil_of_le
def SZ {o:Oper}(Y:o.guard=none)(d s:Operand)
 (k:o.op=.call { callee:=.builtin .copy,args:=#[d,s],argTypes:=#[22,22] })
 (base g:Nat) (w0:Wd) (zs:List Int) (xs:List Value) (f:Option Addr) (c:Nat) (m:a.eval d=.slice (some (Av g)) zs.length zs.length) (hs:a.eval s=.slice f zs.length c)
 (I:wr.ownsRow base 3 1 (.slice (some (Av g)) zs.length zs.length) zs.length xs) (H:Aj wr f zs) (hb:Below base w0 wr)
 (h:∀v' w',OwnI w' base (.slice (some (Av g)) zs.length zs.length) zs->Below base w0 w'->base<=w'.heap.size->wpList prog ops Q rest (a.put o.dst v') w'):
 wpList prog ops Q (o::rest) a wr:=by
 obtain⟨g9,hx⟩:=I;rcases hx with ⟨U,_⟩|⟨g',cap,O,U,g2,l,p,g5,g1,g8⟩
 . cases U
 ·simp only[ZL,Yd,Addr.mk.injEq,Z9,true_and]at U;obtain⟨rfl,rfl⟩:=U;refine ZX (w:=wr) Y d s 22 22 k 3 underlying22 (by obtain⟨i,hi,_,g4,_⟩:=Zm E8;rw[hi];simp[g4])
   _ _ _ _ _ _ m hs g 0 O.toList 3 (by simpa using l) (Ar zs) (by simp[Ar]) ?_ (by simp[Ar,g1]) (ints_oneCell .i64 zs) base w0 hb g2 ?_
  ·intro e;rw[Iw]at e;obtain⟨b,off,rfl,_⟩:=H.cells 0 e;refine⟨rfl,_,rfl,λj v X=>?_⟩;have g0:j<zs.length:=by
    rcases X9 j zs.length with Z|Z
    . exact Z
    . simp[Ar,XC Z]at X
   obtain⟨q,off',g7,n⟩:=H.cells j g0;cases g7;simp[Ar,getElem?_at0 g0]at X;subst X;have g3:((Aw b off):Addr).add j=(Aw b (off+j)):=by unfold Addr.add;split<;>simp_all
   rw[g3];exact n
  ·intro w' hh g6;refine h _ w' ⟨by simp[Ar],.inr ⟨g,_,(Ar zs).toArray,rfl,g2,?_,Xs _,g5,by simp[Ar],by simp[Ar,XK]⟩⟩ g6 ?_
   ·have:_=_:=hh;rw[this];have hl:O.toList.length=zs.length:=by simp[g1]
    simp[splice,Ar,aL,hl]
   . have h1:_=_:=hh;have:=(Xt.1 h1).1;omega
def M6 (a:Option Addr)(c:Nat)(zs:List Int)(w:Wd)(h:Aj w a zs)(H:zs.length<1000000):
 Cl 180 #[.slice a zs.length c] w λe w'=>∃g,e=.returned (.slice (some (Av g)) zs.length zs.length)/\OwnI w' w.heap.size (.slice (some (Av g)) zs.length zs.length) zs/\Bw w w':=by
 obtain⟨i,hi,I,g3,g4⟩:=Zm E8;have O:=Hd h;clear h
 go_enter func180,ntmps180
 go_wp2_with (first
  | (at_make;refine wpList_make_full _ rfl _ _ 22 rfl w.heap.size 3 i (.int .i64 0) 1 underlying22 hi I g3 .i64 .i64 _ _ zs.length rfl rfl rfl rfl (by rw[g4];omega) (by unfold maxLen;omega) (Xs _) ?_;intro w1 g1 g2)
  | (with_reducible refine SZ rfl (.tmp 7) (.tmp 8) rfl w.heap.size w.heap.size w zs _ a c rfl rfl (by exact g1) (O.o.keep (Fl g2) (by simp)) ((X7 _ _).grown g2 (Xs _) (by simp)) ?_;intro v2 w2 g0 g5 g6))
 go_ret;exact⟨_,rfl,g0,g5⟩
def Ta (a:Option Addr)(c:Nat)(zs:List Int)(x:Int)(w:Wd)(h:Aj w a zs):
 Cl 181 #[.slice a zs.length c,Iv x] w λe w'=>e=.returned (Iv (Cy zs x))/\∃n,w'=w.drewN n:=by
 obtain⟨hl,I⟩:=h;have X:=Hd I;clear I
 go_enter func181,ntmps181
 go_wp2
 go_loop [8] (λi=>∃k:Nat,k<=zs.length/\i=Iv k/\∀j,j<k->at0 zs j≠x) (λi=>zs.length-(intOf i).toNat)
 case atStart=>exact⟨0,X0 _,rfl,by omega⟩
 case round=>
  obtain⟨k,hk,rfl,hrel⟩:=hrel;have H:=Hd hrel;clear hrel
  by_cases g0:k<zs.length
  ·obtain⟨b,off,rfl,g1⟩:=X.o k g0
   by_cases hx:at0 zs k=x
   ·have Y:(x == at0 zs k)=true:=by simpa using hx.symm
    have U:=Hd hx;clear hx
    go_wp2
    go_ret;exact⟨Iu (Pp g0 U.o H.o).symm,0,rfl⟩
   ·have Y:(x == at0 zs k)=false:=by simpa using(λe=>hx e.symm)
    go_wp2
    go_round
    case rel=>exact⟨k+1,by omega,by go_num,λj O=>by
     by_cases e:j=k
     . subst e;exact hx
     . exact H.o j (by omega)⟩
    case measure=>simp[intOf];omega
  ·go_wp2
   go_ret;exact⟨Iu (Pq (λj O=>H.o j (by omega))).symm,0,rfl⟩
def OwnI.len {base:Nat}{a:Option Addr}(h:OwnI w base (.slice a n c) zs):n=zs.length:=by
 rcases h.2 with ⟨H,h0⟩|⟨g,cap,I,H,_⟩
 . simp only[ZL]at H;omega
 . simp only[ZL]at H;omega
def OwnI.intsAt {base:Nat}{a:Option Addr}(h:OwnI w base (.slice a n c) zs)(hl:zs.length<=9223372036854775807):Aj w a zs:=by
 obtain rfl:=h.len;exact K9 hl h
def Tb {a:Option Addr}{x:Int}(H:n=zs.length)(h:Aj w a zs):
 Cl 181 #[.slice a n c,Iv x] w λe w'=>e=.returned (Iv (Cy zs x))/\∃n,w'=w.drewN n:=by
 subst H;exact Ta a c zs x w h
def Tc (D C:Value)(xs H:List Int)(w:Wd)(h:SliceIs w D xs)(h':SliceIs w C H)(E:xs.length<=1000)(u:H.length<=1000):
 Cl 169 #[D,C] w (Mz xs H w):=by
 obtain⟨a,c,rfl,J,gS⟩:=h;obtain⟨b,c',rfl,hb,gR⟩:=h';have m:=Hd J;have t:=Hd hb;clear J hb gS gR
 by_cases U:Cg xs=true
 ·by_cases g1:Cg H=true
  ·by_cases hl:xs.length=H.length
   ·have i:Hq (CL xs H=0):=by unfold CL;rw[Xx ⟨U,g1⟩,Xx hl];rfl
    have f:Hq (CK xs H=Ds xs H 0):=by unfold CK;rw[Xx ⟨U,g1,hl⟩];rfl
    have Z:=Hd U;have g8:=Hd g1;have H3:((xs.length:Int) != H.length)=false:=by simp[hl]
    clear U g1 hl
    go_enter func169,ntmps169
    go_wp2_with fail;refine(Ez _ _ xs _ m.o (by omega)).mono ?_;rintro e w1 ⟨rfl,g0⟩;rw[Z.o];go_wp2_with fail;refine(Ez _ _ H _ (t.o.below g0) (by omega)).mono ?_;rintro e w2 ⟨rfl,g7⟩;rw[g8.o];have g4:Bw w w2:=g0.trans (g7.mono g0.size);go_wp2_with fail;refine(M6 _ _ xs _ (m.o.below g4) (by omega)).mono ?_;rintro e B ⟨g,rfl,gb,z⟩;have s:=g4.size;have G:w2.heap.size<=g:=(gb.lt g rfl).1;have h4:Bw w B:=g4.trans (z.mono s);have gM:w2.heap.size<=B.heap.size:=z.size;go_wp2
    go_loopw [6,30] (λj X wr=>∃(k:Nat) (I O:List Int),k<=H.length/\X=Iv k/\OwnI wr w2.heap.size (.slice (some (Av g)) xs.length xs.length) I/\I.length=xs.length/\OwnI wr w2.heap.size j O/\j.ownBlock≠some g/\O.length<=k*1000/\O++Ds I (H.drop k) k=Ds xs H 0/\w2.heap.size<=wr.heap.size/\Bw w2 wr) (λ_ X _=>H.length-(intOf X).toNat)
    case atStart=>exact⟨0,xs,[],by omega,rfl,gb,rfl,Fk _ _,by simp[Value.ownBlock],by simp,by simp,gM,z⟩
    case round=>
     obtain⟨k,I,O,hk,rfl,gj,S,ge,gt,he,gq,gL,g9⟩:=hrel;have gA:=Hd gq;have y:=Hd S;have h0:=Hd gt;have h6:I.length<=1000:=by omega
     clear gq S gt;have h2:=Hd (t.o.below (g4.trans (g9.mono s)))
     by_cases V:k<H.length
     ·obtain⟨bb,off,rfl,h3⟩:=h2.o.cells k V;have h1:=Hd (Py I H k V);have HCI:=Hd (gj.intsAt (by omega));go_wp2_with fail;refine(Tb y.o.symm (HCI.o.drewN 0)).mono ?_;rintro e w' ⟨rfl,n,rfl⟩;have W:=Pv I (at0 H k);have hp2:=Pw I (at0 H k);have gF:=Hd (SL I (at0 H k) k)
      generalize Cy I (at0 H k)=p at W hp2 gF⊢
      go_wp2_with fail;have gP:p<xs.length\/p<=0:=by have:=y.o;omega
      obtain⟨N,F,HN⟩:∃(N F:List Int),Hq (N=(bub I k (p-k).toNat).1/\F=O++(bub I k (p-k).toNat).2):=⟨_,_,rfl,rfl⟩
      go_loopw [6,10] (λj Y r=>∃(d:Nat) (c1 o1:List Int) (q:Int),Y=Iv q/\-1<=q/\q<=1000/\(q<xs.length\/q<=0)/\(q<=k->d=0)/\(k<q->q=k+d)/\OwnI r w2.heap.size (.slice (some (Av g)) xs.length xs.length) c1/\c1.length=xs.length/\OwnI r w2.heap.size j o1/\j.ownBlock≠some g/\o1.length+d<=(k+1)*1000/\N=(bub c1 k d).1/\F=o1++(bub c1 k d).2/\w2.heap.size<=r.heap.size/\Bw w2 r) (λ_ Y _=>(intOf Y+1).toNat)
      case atStart=>exact⟨(p-k).toNat,I,O,p,rfl,W,by omega,gP,by omega,by omega,gj.drewN n,y.o,ge.drewN n,h0.o,by omega,HN.o.1,HN.o.2,gL,CB g9 n⟩
      case round=>
       obtain⟨d,c1,o1,q,rfl,hd,hc,gO,A,T,g3,gk,g6,gf,h5,K,L,gd,gc⟩:=hrel;have gC:=Hd K;have gE:=Hd L;have v:=Hd gk;have g5:=Hd gf;have h7:c1.length<=1000:=by omega
       clear K L gk gf
       by_cases h9:(k:Int)<q
       ·obtain⟨d,rfl⟩:∃l,d=l+1:=⟨d-1,by omega⟩;have gN:q=(k:Int)+d+1:=by omega
        subst gN;have gT:k+d+1<xs.length:=by omega
        have gI:k+d+1<c1.length:=by rw[v.o];exact gT
        clear A T gO;have h8:IntKind.i64.wrap ((k:Int)+d+1-1)=((k+d:Nat):Int):=by rw[aK _ (by omega)];omega
        have q0:=g3.cell (k+d) (by omega);have q1:=g3.cell (k+d+1) (by omega);have p0:=g3.frozen (k+d);have p1:=g3.frozen (k+d+1);have t0:((k:Int)+d).toNat=k+d:=by omega
        have t1:((k:Int)+d+1).toNat=k+d+1:=by omega
        go_wp2
        go_region
        have gY:=Hd (Ps (zs:=c1) (k:=k+d) gI);have gV:=((g3.stored (k+d) (at0 c1 (k+d+1))).stored (k+d+1) (at0 c1 (k+d))).drewN 1;have gQ:=((g6.setCell_other (a:=(Aw g (k+d))) g5.o (Iv (at0 c1 (k+d+1)))).setCell_other (a:=(Aw g (k+d+1))) g5.o (Iv (at0 c1 (k+d)))).drewN 1;have gX:=CB ((gc.setCell (p:=(Aw g (k+d))) G (Iv (at0 c1 (k+d+1)))).setCell (p:=(Aw g (k+d+1))) G (Iv (at0 c1 (k+d)))) 1;have gU:=(g3.lt g rfl).2;go_wp2_with (at_builtin;go_loud (refine D7 _ rfl _ _ rfl w2.heap.size w2 _ o1 _ rfl rfl (by rfl) (by simp) gQ (by omega) (by simpa using gd) gX ?_);intro v2 w4 go gp gG gg);have R:=gV.keep gg.keep (λx hx gK=>by cases hx;exact g5.o gK.symm);rw[<-gY.o]at R;have gH:=gg.ne g5.o (by simpa using gU);go_roundw
        case rel=>exact⟨d,D8 c1 ((k+d:Nat):Int),o1++[((k+d:Nat):Int)],((k+d:Nat):Int),by go_num,by omega,by omega,by omega,by omega,by omega,R,by rw[Pr];exact v.o,go,gH,by simp;omega,gC.o,by rw[gE.o,SM];simp,gG,gp⟩
        case measure=>simp[intOf];omega
       ·obtain rfl:=A (by omega);have gZ:=Hd g6;have Q:N=c1:=gC.o;have M:F=o1:=by rw[gE.o];simp[bub]
        have gB:=Hd Q;have gD:=Hd M;clear Q M A T g6
        go_wp2
        go_roundw
        case rel=>exact⟨k+1,N,F,by omega,by go_num,by rw[gB.o];exact g3,by rw[gB.o];exact v.o,by rw[gD.o];exact gZ.o,g5.o,by rw[gD.o];omega,by
         rw[HN.o.1,HN.o.2,<-gA.o,h1.o,gF.o];simp,gd,gc⟩
        case measure=>simp[intOf];omega
     ·obtain rfl:k=H.length:=by omega
      have gh:Ds xs H 0=O:=by rw[<-gA.o];simp[Ds]
      have gJ:=Hd gh;clear gh
      go_wp2
      go_ret2
      exact GD i.o (f.o.trans gJ.o) (ge.lower s) (g4.trans (g9.mono s))
   ·have i:Hq (CL xs H=3):=by unfold CL;rw[Xx ⟨U,g1⟩,Xu hl];rfl
    have f:Hq (CK xs H=[]):=by unfold CK;rw[Xu (λhh=>hl hh.2.2)];rfl
    have Z:=Hd U;have g8:=Hd g1;have H3:((xs.length:Int) != H.length)=true:=by simp;omega
    clear U g1 hl
    go_enter func169,ntmps169
    go_wp2_with fail;refine(Ez _ _ xs _ m.o (by omega)).mono ?_;rintro e w1 ⟨rfl,g0⟩;rw[Z.o];go_wp2_with fail;refine(Ez _ _ H _ (t.o.below g0) (by omega)).mono ?_;rintro e w2 ⟨rfl,g7⟩;rw[g8.o];go_wp2
    go_ret2
    exact GD i.o f.o (Fk _ _) (g0.trans (g7.mono g0.size))
  ·have i:Hq (CL xs H=1):=by unfold CL;rw[Xu (λhh=>g1 hh.2)];rfl
   have f:Hq (CK xs H=[]):=by unfold CK;rw[Xu (λhh=>g1 hh.2.1)];rfl
   have g2:Cg H=false:=by simpa using g1
   have Z:=Hd U;have g8:=Hd g2;clear U g1 g2
   go_enter func169,ntmps169
   go_wp2_with fail;refine(Ez _ _ xs _ m.o (by omega)).mono ?_;rintro e w1 ⟨rfl,g0⟩;rw[Z.o];go_wp2_with fail;refine(Ez _ _ H _ (t.o.below g0) (by omega)).mono ?_;rintro e w2 ⟨rfl,g7⟩;rw[g8.o];go_wp2
   go_ret2
   exact GD i.o f.o (Fk _ _) (g0.trans (g7.mono g0.size))
 ·have i:Hq (CL xs H=1):=by unfold CL;rw[Xu (λhh=>U hh.1)];rfl
  have f:Hq (CK xs H=[]):=by unfold CK;rw[Xu (λhh=>U hh.1)];rfl
  have g2:Cg xs=false:=by simpa using U
  have Z:=Hd g2;clear U g2
  go_enter func169,ntmps169
  go_wp2_with fail;refine(Ez _ _ xs _ m.o (by omega)).mono ?_;rintro e w1 ⟨rfl,g0⟩;rw[Z.o];go_wp2
  go_ret2
  exact GD i.o f.o (Fk _ _) g0
end Go.Proofs.YtnphndlbfeagbaaGreat
namespace Go.Proofs
open Go.Proofs.Tryz
open Go.Shelf
def Tryz.lays112_ren:Go.Shelf.Ren:=⟨λ|112=>182|n=>n,λ|28=>22|3=>3|4=>4|0=>0|n=>n,λ|n=>n⟩
def Tryz.lays112:Go.Proofs.Lays.n112 prog Tryz.lays112_ren:={
 mixed:=by kernel_rfl
 f112:=func182.trans (congrArg some (by kernel_rfl))
 t0:=underlying0
 a0:=Tryz.isAgg0
 z0:=Tryz.sizeOf0
 v0:=zeroValue0
 t3:=underlying3
 a3:=Tryz.isAgg3
 z3:=Tryz.sizeOf3
 v3:=zeroValue3
 t4:=underlying4
 a4:=Tryz.isAgg4
 z4:=Tryz.sizeOf4
 v4:=zeroValue4
 t28:=underlying22
 a28:=Tryz.isAgg22
 z28:=Tryz.sizeOf22
 v28:=zeroValue22 }
def Tryz.slices_Reverse_int_cells (b off n c:Nat)(zs:List Int)(w:World)(I:n<=zs.length)(H:n<=9223372036854775807)(U:∀j,j<zs.length->w.cell? ⟨b,off+j,none⟩=some (.int .i64 (zs.getD j 0)))(O:∀j,j<n->w.frozen? ⟨b,off+j,none⟩=false):
 Calls prog 182 #[.slice (some ⟨b,off,none⟩) n c] w λe w'=>e=.returned (.tuple #[])/\∃q,w'=(w.drewN q).setCells b off ((zs.take n).reverse.map (Value.int .i64)):=Any.slices_Reverse_int_cells Tryz.lays112 b off n c zs w I H U O
end Go.Proofs
namespace Go.Proofs.YtnphndlbfeagbaaGreat
open Go.Proofs.Tryz
open Go.RowKit
variable {C:Nat->Prop}{F:BF}{K:Law}{N:Nat->Option BN}{Od:List Nat->Prop}{Q:Exit->Act->Wd->Prop}{R:Role->Prop}{ST T:TypeId}{V V':Nat->BF}{W W' w w' w0 w1 w2 wr:Wd}{a:Act}{b c e f g gop i j k mb n room sb xb:Nat}{bs:List Bool}{d':Af}{ev:Ev}{fs hs:List (Int×BF)}{ks zs:List Int}{lim:Option Nat}{lop:Array Value}{m m':ManD}{nx op:Int}{o' o1 o2:Own}{ops:Array Oper}{rest:List Oper}{v v' vl vx z:Value}{ws0:List Ev}{xs:List Value}
def Td {B:Nat}{a:Wd}(O:B<=g)(H:List Value):∀(w:Wd) (o:Nat),Below B a w->Below B a (w.setCells g o H):=by
 induction H with
 | nil=>intro w o h;exact h
 | cons y H I=>intro w o h;exact I _ _ (h.setCell O _)
def OwnI.setCells {base g n c:Nat}(H:List Int):∀(w:Wd) (o:Nat) (zs:List Int),OwnI w base (.slice (some (Av g)) n c) zs->o+H.length<=zs.length ->
 OwnI (w.setCells g o (Ar H)) base (.slice (some (Av g)) n c) (zs.take o++H++zs.drop (o+H.length)):=by
 induction H with
 | nil=>intro w o zs h _;simpa [Ar,World.setCells]using h
 | cons y H I=>
   intro w o zs h hl;simp only[XL]at hl;have h1:=I (w.setCell (Aw g o) (Iv y)) (o+1) (zs.set o y) (h.stored o y) (by simp;omega);have e:(zs.set o y).take (o+1)++H++(zs.set o y).drop (o+1+H.length)=zs.take o++(y::H)++zs.drop (o+(y::H).length):=by
    have e1:(zs.set o y).take (o+1)=zs.take o++[y]:=by
     rw[List.set_eq_take_append_cons_drop,Xx (by omega),List.take_append];simp;have:min o zs.length=o:=by omega
     rw[this];simp
     exact XK (by simp;omega)
    have e2:(zs.set o y).drop (o+1+H.length)=zs.drop (o+1+H.length):=by
     rw[List.drop_set];rw[Xx (by omega)]
    rw[e1,e2];simp[Zq,Nat.add_comm 1 H.length]
   rw[e]at h1;exact h1
def Te (a:Option Addr)(c:Nat)(zs:List Int)(w:Wd)(h:Aj w a zs)(H:zs.length<1000000):
 Cl 170 #[.slice a zs.length c] w λe w'=>∃v,e=.returned v/\SliceIs w' v zs.reverse/\Bw w w':=by
 have U:=Hd h;clear h
 go_enter func170,ntmps170
 go_wp2_with fail;refine(M6 _ _ zs _ U.o H).mono ?_;rintro e w1 ⟨g,rfl,g0,g3⟩;have O:w.heap.size<=g:=(g0.lt g rfl).1;go_wp2_with fail;refine(Tryz.slices_Reverse_int_cells g 0 zs.length zs.length zs w1 (Xs _) (by omega) (λj I=>by rw[XO];exact g0.cell j I) (λj I=>by rw[XO];exact g0.frozen j)).mono ?_;rintro e w2 ⟨rfl,q,g1⟩;have h2:=OwnI.setCells zs.reverse (w1.drewN q) 0 zs (g0.drewN q) (by simp);have e:zs.drop (0+zs.reverse.length)=[]:=YZ (by simp);rw[e,aF,Yv,Y5]at h2;have g2:Bw w ((w1.drewN q).setCells g 0 (Ar zs.reverse)):=Td O _ _ _ (CB g3 _);rw[XP]at g1
 change w2=(w1.drewN q).setCells g 0 (Ar zs.reverse)at g1
 rw[<-g1]at h2 g2;clear g1;go_wp2;go_ret;exact⟨_,rfl,h2.sliceIs (by simp;omega),g2⟩
abbrev KF:Law:=λ_ _ _ _ _ _ _=>False
section
variable {o:Own}
def SatE.full (h:SatE KF n Od room w0 mb fs nx w o m V):SatE K n Od room w0 mb fs nx w o m V:=by
 obtain⟨s,hs⟩:=h.is;exact⟨⟨s,hs.mono λ_ _ _ _ _ e=>e.elim⟩,h.lt,h.ok,h.vars,h.od,h.room,h.next,h.hs,h.chg⟩
def SatE.cleared {s:ManW}(h:SatE K n Od room w0 mb fs nx w o m V)(g1:A9 (λ_ _ _ _ _=>False) o w1 mb m s)(g2:Chg (· = .entries) o o w w1)(g3:Ac o w1):SatE KF n Od room w0 mb fs nx w1 o m V:=
 ⟨⟨s,g1⟩,g3,h.ok,h.vars,h.od,h.room,h.next,h.hs,h.chg.lower (ChgX.of_chg g2.any NoB) (λ_ e=>e.elim)⟩
structure HapS (n room:Nat)(w0:Wd)(mb:Nat)(fs:List (Int×BF))(nx:Int)(o:Own)(w:Wd)(m:ManD)(o':Own)(w':Wd)(m':ManD)(V':Nat->BF):Prop where
 sat:SatE KF n (λ_=>True) room w0 mb fs nx w' o' m' V'
 waits:m'.waits=m.waits
 calls:m'.calls=m.calls
 chg:Chg (λ_=>True) o o' w w'
 many:m'.d.pool.many<=m.d.pool.many\/m'.d.pool.many<=fs.length*2^n
def HapS.trans {o'':Own}{w'':Wd}{H:ManD}{O:Nat->BF}(h:HapS n room w0 mb fs nx o w m o' w' m' V')(I:HapS n room w0 mb fs nx o' w' m' o'' w'' H O):HapS n room w0 mb fs nx o w m o'' w'' H O:=
 ⟨I.sat,I.waits.trans h.waits,I.calls.trans h.calls,h.chg.trans I.chg,by
  rcases I.many with h1|h1
  . exact h.many.imp (λh2=>Xz h1 h2) (λh2=>Xz h1 h2)
  . exact .inr h1⟩
def M7 {s:ManW}(h:SatE KF n (λ_=>True) room w0 mb fs nx w o m V)(hs:A9 (λ_ _ _ _ _=>False) o w mb m s)(X:nx<=549755813888)(z:Int):
 Cl 135 #[Pt s.sb,Iv z] w λe w'=>∃q:Int,e=.returned (Iv q)/\∃o' m' V',HapS n room w0 mb fs nx o w m o' w' m' V':=by
 by_cases O:z<0\/(n:Int)-1<=z
 . refine(SG hs.store h.ok.store.small z (by rw[h.vars];exact O)).mono ?_;rintro e w' ⟨rfl,rfl⟩;exact⟨2,rfl,o,m,V,h,rfl,rfl,Chg.refl _ _ _,.inl (Xs _)⟩
 ·obtain⟨k,rfl⟩:∃k:Nat,z=k:=⟨z.toNat,by omega⟩;refine(Mv h hs (Chg.refl _ _ _) h.lt (by omega) X).mono ?_;rintro e w' ⟨o',m',V',H⟩;obtain⟨d0,Y,U⟩:=H.way;rcases U with ⟨e1,e2,_⟩|⟨e1,I⟩
  . exact⟨7,e1,o',m',V',H.sat,H.waits,H.calls,H.chg,.inr (H.sat.few (by rw[e2];exact Y.dead))⟩
  . exact⟨0,e1,o',m',V',H.sat,H.waits,H.calls,H.chg,.inr (H.sat.few I.dead)⟩
def Tf {s:ManW}(h:SatE KF n (λ_=>True) room w0 mb fs nx w o m V)(hs:A9 (λ_ _ _ _ _=>False) o w mb m s):
 Cl 157 #[Pt s.sb] w λe w'=>∃q:Int,e=.returned (Iv q)/\∃o' m' V',HapS n room w0 mb fs nx o w m o' w' m' V':=by
 refine(J0 hs.store h.lt h.ok.store).mono ?_;rintro e w' ⟨rfl,o',d',st,lt,H,ch⟩;have g0:SatE KF n (λ_=>True) room w0 mb fs nx w' o' { m with d:=d' } V:=⟨⟨s,hs.setStore h.lt st ch⟩,lt,⟨H.ok h.ok.store,Jj h.ok.handles h.ok.store H⟩,by dsimp only;rw[H.vars];exact h.vars,trivial,by dsimp only;rw[H.room];exact h.room,h.next,h.hs,h.chg.lower (ChgX.of_chg ch.any NoB) (λ_ e=>e.elim)⟩;exact⟨_,rfl,o',{ m with d:=d' },V,g0,rfl,rfl,ch.any,.inr (g0.few H.dead)⟩
def Tg {base:Nat}(h:OwnI w base v zs):zs.length<=9223372036854775807:=by
 rcases h.2 with ⟨_,h0⟩|⟨g,cap,H,_,_,_,h1,h2,_⟩
 . omega
 . unfold maxLen at h2;omega
def Aj.chg {a:Option Addr}(h:Aj w a zs)(O:Chg R o o' w w')(I:∀x,a=some x->o x.block=none):Aj w' a zs:=
 ⟨h.len,λk hk=>by
  obtain⟨b,off,rfl,H⟩:=h.cells k hk;exact⟨b,off,rfl,O.cell (p:=(Aw b (off+k))) H (I (Aw b off) rfl)⟩⟩
def M8 (G:nx<=549755813888)(ev:Ev):HapG K n (λ_=>True) room w0 mb fs nx ev:=by
 intro o W m V h;obtain⟨P,hP⟩:∃P:Ending->Wd->Prop,P=λx w'=>x=.returned (.tuple #[]) /\
  ∃o' m' V',SatE K n (λ_=>True) room w0 mb fs nx w' o' m' V'/\m'.waits=m.waits/\m'.calls=m.calls/\(m'.d.pool.many<=m.d.pool.many\/m'.d.pool.many<=fs.length*2^n)/\ChgX NoB o o' W w':=⟨_,rfl⟩
 rw[<-hP];obtain⟨W1,g7⟩:=Ex (W.alloc (.cells #[Iv ev.after,Iv ev.kind,Iv ev.level] 76));have y:Bw W W1:=by rw[g7];exact Ag W _
 obtain⟨bx,g0⟩:∃q,q=W.heap.size:=⟨_,rfl⟩;have gA:Hq (Box o W1 bx (.cells #[Iv ev.after,Iv ev.kind,Iv ev.level] 76 (0,0))):=Hd ⟨by rw[g7,g0];exact Xv W _,h.lt.none (by rw[g0];exact Xs _)⟩;have h1:=h.below y
 have HP:Hq (∀o' w' m' V',HapS n room w0 mb fs nx o W1 m o' w' m' V'->P (.returned (.tuple #[])) w'):=Hd (by
  intro o' w' m' V' hh;rw[hP];exact⟨rfl,o',m',V',hh.sat.full,hh.waits,hh.calls,hh.many,(ChgX.of_below y o NoB).trans (ChgX.of_chg hh.chg NoB) (λ_ _ e=>e)⟩)
 obtain⟨s,hs⟩:=h1.is;obtain⟨Y,c1,c2,X,U,O,f0⟩:=cells6 hs.blk;have J:=Hd (wclear h1 hs (λ_ _ _ _ _=>False));have H1:=Hd h1;obtain⟨kd,gq⟩:∃z,z=ev.kind:=⟨_,rfl⟩;obtain⟨lv,go⟩:∃z,z=ev.level:=⟨_,rfl⟩;obtain⟨af,gv⟩:∃z,z=ev.after:=⟨_,rfl⟩;have HN:=Hd G;unfold evA;rw[<-gq,<-go,<-gv]at gA g7⊢;have HW:=Hd g7;have HX:=Hd g0;clear h h1 hs hP y g0 gq go gv G g7
 go_enter func139,ntmps139
 go_upto_region 1 with fail;rw[<-HW.o,<-HX.o];go_wp2_with fail;refine J.o.mono ?_;rintro x w1 ⟨rfl,g1,g2,g3⟩;have g4:=Hd (H1.o.cleared g1 g2 g3);have HB2:=Hd (gA.o.chg g2);have p:=Hd g1;have t:Hq (Chg (λ_=>True) o o W1 w1):=Hd g2.any;have b1:w1.cell? (Aw bx 1)=some (Iv kd):=HB2.o.cell 1;have b2:w1.cell? (Aw bx 2)=some (Iv lv):=HB2.o.cell 2;clear Y c1 c2 X U O f0 J g1 g2 g3;obtain⟨Y,c1,c2,X,U,O,f0⟩:=cells6 p.o.blk
 by_cases k1:kd=1
 . subst k1;have g:=Hd (Tf g4.o p.o);go_wp2_with fail;refine g.o.mono ?_;rintro x w2 ⟨q,rfl,o',m',V',hh⟩;have f:=Hd (HP.o o' w2 m' V' ⟨hh.sat,hh.waits,hh.calls,t.o.trans hh.chg,hh.many⟩);clear hh;go_wp2_with fail;refine YW (Y7 rfl _ _ _) rfl ?_;exact f.o
 ·have e1:(kd == 1)=false:=by simp[k1]
  by_cases k2:kd=2
  ·subst k2;clear k1 e1;have g:=Hd (M7 (g4.o.below (An w1 1)) (p.o.below g4.o.lt (An w1 1)) HN.o lv);go_upto_region 13 with fail;refine AJ (λW:Wd=>W=w1.drew) true 6 [(0,false),(1,false),(2,false),(3,false),(4,false),(5,false),(6,true)] (by kernel_rfl) (by kernel_rfl) rfl ?_;simp only[planned,AI]
   iterate 6
    refine A0 rfl ?_;apply Exists.intro;refine⟨λw' hw=>?_,?_⟩
    . subst hw;go_simp;rfl
    simp only[Ab]
   refine ER rfl (by go_simp) (g.o.mono (R':=λe w'=>∃v,e=.returned v/\∃o' m' V',HapS n room w0 mb fs nx o w1.drew m o' w' m' V') (λe w' h=>by obtain⟨q,e1,h2⟩:=h;exact⟨_,e1,h2⟩)) ?_;rintro v w2 ⟨o',m',V',hh⟩;simp only[Ab];refine C2 ?_;have f:=Hd (HP.o o' w2 m' V' ⟨hh.sat,hh.waits,hh.calls,t.o.trans ((Chg.of_below (An w1 1) _ _).trans hh.chg),hh.many⟩);clear hh;go_wp2_with fail;refine YW (Y7 rfl _ _ _) rfl ?_;exact f.o
  ·have e2:(kd == 2)=false:=by simp[k2]
   clear k1 k2;have A:m.d.vars.length<=64:=g4.o.ok.store.small;have HO:=Hd (LF p.o.store g4.o.lt A);go_wp2_with fail;refine HO.o.mono ?_;rintro x w2 ⟨v,rfl,g8,Q⟩;obtain⟨zs,B⟩:=Ex (m.d.vars.map Int.ofNat);have gB:zs.length<=64:=by rw[B,XT];exact A
   rw[<-B]at g8;obtain⟨a,c,rfl,r,S⟩:=g8.sliceIs (by omega);have HT:=Hd (Te a c zs w2 r (by omega));have gE:Hq (SliceIs w2 (.slice a zs.length c) zs):=Hd ⟨a,c,rfl,r,S⟩;have g9:=Hd Q;have gJ:=Hd gB;clear g8 Q B r S A Y c1 c2 X U O f0 b1 b2 HO;go_wp2_with fail;refine HT.o.mono ?_;rintro x w3 ⟨vt,rfl,gC,gf⟩;obtain⟨Z,I,gl,E,D⟩:=gC;rw[List.length_reverse]at gl;subst gl;have N:=Hd (Tc (.slice a zs.length c) (.slice Z zs.length I) zs zs.reverse w3 (gE.o.below gf) ⟨Z,I,by rw[List.length_reverse],E,D⟩ (by omega) (by simp;omega));have gk:=Hd gf;clear gf HT E D;go_wp2_with fail;refine N.o.mono ?_;rintro x i ⟨vr,rfl,g6,gt⟩;obtain⟨rs,T⟩:=Ex (CK zs zs.reverse);obtain⟨er,gr⟩:∃z,z=CL zs zs.reverse:=⟨_,rfl⟩;rw[<-T]at g6;rw[<-gr];have g0:Bw w1 i:=g9.o.trans ((gk.o.trans (gt.mono gk.o.size)).mono g9.o.size);have gd:=g6.lt;have gD:rs.length<=9223372036854775807:=Tg g6;obtain⟨l,cr,rfl,hi,_⟩:=g6.sliceIs gD
   have u:Hq (∃o' m' V',HapS n room w0 mb fs nx o w1 m o' i m' V'/\Aj i l rs/\(∀x,l=some x->o' x.block=none)):=Hd ⟨o,m,V,(⟨g4.o.below g0,rfl,rfl,Chg.of_below g0 _ _,.inl (Xs _)⟩:HapS n room w0 mb fs nx o w1 m o i m V),hi,λx hx=>by
    subst hx;refine g4.o.lt.none ?_;have h1:=(gd _ rfl).1;have h2:=g9.o.size;have h3:=gk.o.size;omega⟩
   clear gr T g6 gt g0 gd hi N;go_wp2
   go_loopw [30] (λH wr=>∃j:Nat,j<=rs.length/\H=Iv j/\Hq (∃o' m' V',HapS n room w0 mb fs nx o w1 m o' wr m' V'/\Aj wr l rs/\(∀x,l=some x->o' x.block=none))) (λH _=>rs.length-(intOf H).toNat)
   case atStart=>exact⟨0,X0 _,rfl,u⟩
   case round=>
    obtain⟨j,hj,rfl,C⟩:=hrel;obtain⟨oj,mj,Vj,hh,hi,gc⟩:=C.o
    by_cases R:j<rs.length
    ·obtain⟨b,off,rfl,g5⟩:=hi.cells j R;obtain⟨s',hs'⟩:=hh.sat.is;obtain⟨Y,c1,c2,X,U,O,f0⟩:=cells6 hs'.blk;have gI:(j:Int)<rs.length:=by omega
     obtain⟨z,F⟩:=Ex (at0 rs j);rw[<-F]at g5;have g:=Hd (M7 hh.sat hs' HN.o z);have gG:=Hd hh;have gF:=Hd hi;have M:=Hd gc;have ge:b<wr.heap.size:=Ad g5;have gH:=Hd ge;have L:=Hd R;clear hh hi gc hs' C u F ge;go_wp2_with fail;refine g.o.mono ?_;rintro x w5 ⟨q,rfl,o5,m5,V5,k⟩;have w:=Hd (And.intro (gG.o.trans k) (And.intro (gF.o.chg k.chg M.o) (λx (hx:some _=some x)=>k.chg.alien' (by cases hx;exact gH.o) (M.o x hx))));clear k Y c1 c2 X U O f0 g5;go_wp2;go_roundw
     case rel=>exact⟨j+1,Z0 L.o,by go_num,Hd ⟨_,_,_,w.o.1,w.o.2.1,w.o.2.2⟩⟩
     case measure=>
      have:=L.o;simp[intOf];omega
    ·obtain rfl:j=rs.length:=by omega
     have f:=Hd (HP.o oj wr mj Vj ⟨hh.sat,hh.waits,hh.calls,t.o.trans hh.chg,hh.many⟩);clear hh hi gc C u;go_wp2_with fail;refine YW (Y7 rfl _ _ _) rfl ?_;exact f.o
end
section
variable {o:Own}
structure NewH (K:Law)(n:Nat)(Od:List Nat->Prop)(room:Nat)(w0:Wd)(mb:Nat)(fs:List (Int×BF))(nx:Int)(o:Own)(w:Wd)(m:ManD)(V:Nat->BF)(F:BF)(o':Own)(w':Wd)(m':ManD):Prop where
 sat:SatE K n Od room w0 mb (fs++[(nx,F)]) (nx+1) w' o' m' V
 waits:m'.waits=m.waits
 calls:m'.calls=m.calls
 nodes:Aa m'.d=Aa m.d
 vars:m'.d.vars=m.d.vars
 many:m'.d.pool.many=m.d.pool.many
 chg:Chg (λ_=>True) o o' w w'
def M9 (X:AC K)(h:SatE K n Od room w0 mb fs nx w o m V)(Y:nx<549755813888){k:Int}(hk:(k,F)∈fs):
 Cl 93 #[Pt mb,Iv k] w λx w'=>x=.returned (.tuple #[Iv nx,Iv 0])/\∃o' m',NewH K n Od room w0 mb fs nx o w m V F o' w' m':=by
 obtain⟨f,O,rfl⟩:=h.find hk;obtain⟨s,hs⟩:=h.is;obtain⟨c,c1,c2,b,a,Z,f0⟩:=cells6 hs.blk;have hl:=EP hs h.ok.handles.nodup O;have hnx:=h.next
 have U:=Hd (Jd X h.is h.lt h.ok f (h.ok.handles.ok _ O) (by rw[hnx];omega));have H:=Hd h;rw[hnx]at U;clear hs h O hk hnx
 go_enter func93,ntmps93
 go_wp2_with fail;refine U.o.mono ?_;rintro x w1 ⟨rfl,o',m',I⟩;have HQ:Hq (NewH K n Od room w0 mb fs nx o w m V (ef V f) o' w1 m'):=Hd ⟨H.o.gave I,I.waits,I.calls,I.nodes,I.vars,I.many,I.chg⟩;clear I;go_wp2
 go_ret2
 exact⟨rfl,_,_,HQ.o⟩
def Th (h:okE N e):okE N (enot e):=by
 unfold okE at h⊢;rw[DA];exact h
def Ti (X:AC K)(h:SatE K n Od room w0 mb fs nx w o m V)(Z:nx<549755813888){k:Int}(hk:(k,F)∈fs):
 Cl 96 #[Pt mb,Iv k] w λx w'=>x=.returned (.tuple #[Iv nx,Iv 0])/\∃o' m',NewH K n Od room w0 mb fs nx o w m V (fun ρ => !F ρ) o' w' m':=by
 obtain⟨f,O,rfl⟩:=h.find hk;obtain⟨s,hs⟩:=h.is;obtain⟨d,c1,c2,c,b,a,f0⟩:=cells6 hs.blk;have hl:=EP hs h.ok.handles.nodup O;have hnx:=h.next
 have g0:=h.ok.handles.ok _ O;have g1:f<eMax:=by
  obtain⟨Y,h2⟩:=hs.store;have:=h2.edge_lt g0;unfold eMax;omega
 have U:=Hd (Jd X h.is h.lt h.ok (enot f) (Th g0) (by rw[hnx];omega));have g2:=Hd (Gh f w g1);have H:=Hd h;rw[hnx]at U;clear hs h O hk hnx g0 g1
 go_enter func96,ntmps96
 go_wp2_with fail;refine g2.o.mono ?_;rintro x w1 ⟨rfl,rfl⟩;go_wp2_with fail;refine U.o.mono ?_;rintro x w1 ⟨rfl,o',m',I⟩
 have HQ:Hq (NewH K n Od room w0 mb fs nx o w m V (fun ρ => !ef V f ρ) o' w1 m'):=Hd (by
  have e:(fun ρ => !ef V f ρ)=ef V (enot f):=by funext ρ;rw[DB]
  rw[e];exact⟨H.o.gave I,I.waits,I.calls,I.nodes,I.vars,I.many,I.chg⟩)
 clear I;go_wp2
 go_ret2
 exact⟨rfl,_,_,HQ.o⟩
def SatE.nofind (h:SatE K n Od room w0 mb fs nx w o m V){k:Int}(hk:∀p∈fs,p.1≠k):∀f,(k,f)∉m.hs:=by
 intro f H;refine hk (k,ef V f) ?_ rfl;rw[<-h.hs];exact X6.2 ⟨(k,f),H,rfl⟩
def MA (h:SatE K n Od room w0 mb fs nx w o m V){k:Int}(hk:(k,F)∈fs):
 Cl 100 #[Pt mb,Iv k] w (Sm (.bool true) w):=by
 obtain⟨f,H,rfl⟩:=h.find hk;obtain⟨s,hs⟩:=h.is;obtain⟨X,c1,c2,U,O,I,f0⟩:=cells6 hs.blk;have hl:=EP hs h.ok.handles.nodup H;clear hs h H hk
 go_enter func100,ntmps100
 go_wp2;go_ret;exact⟨rfl,rfl⟩
def Tj (h:SatE K n Od room w0 mb fs nx w o m V){k:Int}(hk:∀p∈fs,p.1≠k):
 Cl 100 #[Pt mb,Iv k] w (Sm (.bool false) w):=by
 have g0:=h.nofind hk;obtain⟨s,hs⟩:=h.is;obtain⟨U,c1,c2,O,I,H,f0⟩:=cells6 hs.blk;have hl:=Rs hs g0;clear hs h g0 hk
 go_enter func100,ntmps100
 go_wp2;go_ret;exact⟨rfl,rfl⟩
end
def delK {α:Type}(k:Int)(l:List (Int×α)):List (Int×α):=l.filter λp=>decide (p.1≠k)
def J5 {α:Type}{k:Int}{l:List (Int×α)}(h:∀p∈l,p.1≠k):delK k l=l:=by
 unfold delK;rw[List.filter_eq_self];intro p H;simp[h p H]
def J6 {α:Type}{x:Int×α}{l:List (Int×α)}(h:((x::l).map Prod.fst).Nodup):∀p∈l,p.1≠x.1:=by
 intro p H e;rw[Yz,YO]at h;exact h.1 (X6.2 ⟨p,H,e⟩)
def MB {α:Type}{x:Int×α}{l:List (Int×α)}(h:((x::l).map Prod.fst).Nodup):delK x.1 (x::l)=l:=by
 have h1:=J5 (J6 h);unfold delK at h1⊢;rw[Z8 (by simp),h1]
abbrev aB:=@List.filter_cons_of_pos
def MC {α:Type}{k:Int}{x:Int×α}{l:List (Int×α)}(h:x.1≠k):delK k (x::l)=x::delK k l:=by
 unfold delK;rw[aB (by simp[h])]
def MD {α:Type}{k:Int}:∀(l:List (Int×α)) (j:Nat) (I:j<l.length),(l.map Prod.fst).Nodup->l[j].1=k->l.eraseIdx j=delK k l
 | x::l,0,_,hn,hk=>by
   have e:x.1=k:=hk;subst e;rw[MB hn];rfl
 | x::l,j+1,I,hn,hk=>by
   have H:j<l.length:=by simpa using I
   have g0:l[j].1=k:=by simpa using hk
   have hx:x.1≠k:=by
    intro e;exact J6 hn l[j] (XM H) (g0.trans e.symm)
   have g1:(l.map Prod.fst).Nodup:=by rw[Yz,YO]at hn;exact hn.2
   rw[MC hx,List.eraseIdx_cons_succ,MD l j H g1 g0]
def ME {α β:Type}(k:Int)(l:List (Int×α))(g:Int×α->Int×β)(H:∀p,(g p).1=p.1):(delK k l).map g=delK k (l.map g):=by
 unfold delK;rw[List.filter_map];congr 1;refine List.filter_congr λp _=>?_
 simp[H]
def Tk {k:Int}{l:List (Int×Value)}(H:(l.map Prod.fst).Nodup)(hk:(k,v)∈l):delL k l=delK k l:=by
 unfold delL;cases e:AH k l 0 with
 | none=>
   have h1:=DG H hk;unfold getL at h1;rw[e]at h1;cases h1
 | some p=>
   obtain⟨j,u⟩:=p;have h2:=Dy e;obtain⟨q,h3,X⟩:=h2;have I:j=q:=by omega
   subst I;obtain⟨U,O⟩:=XI.1 X;exact MD l j U H (by rw[O])
def GE {α:Type}{k:Int}{l:List (Int×α)}{p:Int×α}:p∈delK k l↔p∈l/\p.1≠k:=by
 unfold delK;rw[YA];simp
def MF {k:Int}{f:Nat}(h1:1<k):∀(hs:List (Int×Nat)),(hs.map Prod.fst).Nodup->(k,f)∈hs->∀i,AT hs i=AT (delK k hs) i+(if f/2=i then 1 else 0)
 | [],_,h,_=>by cases h
 | x::l,hn,hm,i=>by
   have I:(l.map Prod.fst).Nodup:=by rw[Yz,YO]at hn;exact hn.2
   by_cases e:x.1=k
   ·have hx:x=(k,f):=by
     rcases Yy.1 hm with h|h
     . exact h.symm
     . exact((J6 hn _ h) e.symm).elim
    subst hx;rw[MB hn];unfold AT
    by_cases e2:f/2=i
    . rw[aB (by simp[h1,e2]),XL,Xx e2]
    . rw[Z8 (by simp[e2]),Xu e2];rfl
   ·have g0:(k,f)∈l:=by
     rcases Yy.1 hm with h|h
     . rw[<-h]at e;exact(e rfl).elim
     . exact h
    have O:=MF h1 l I g0 i;rw[MC e];unfold AT at O⊢
    by_cases H:(decide (1<x.1)&&x.2/2 == i)=true
    . rw[aB (p:=λp:Int×Nat=>decide (1<p.1)&&p.2/2 == i) H,aB (p:=λp:Int×Nat=>decide (1<p.1)&&p.2/2 == i) H,XL,XL];omega
    . rw[Z8 (p:=λp:Int×Nat=>decide (1<p.1)&&p.2/2 == i) H,Z8 (p:=λp:Int×Nat=>decide (1<p.1)&&p.2/2 == i) H];exact O
def Tl {k:Int}(h:Ct m)(r:DM m.d d' f (-1))(hk:(k,f)∈m.hs)(h1:1<k)(h0:Aa m.d 0=none):Ct { m with d:=d',hs:=delK k m.hs }:=by
 have g1:∀{p:Int×Nat},p∈delK k m.hs->p∈m.hs:=λH=>(GE.1 H).1
 refine⟨?_,GE.2 ⟨h.zero,by dsimp only;omega⟩,GE.2 ⟨h.one,by dsimp only;omega⟩,λp H=>h.lt p (g1 H),h.next,λp H=>?_,?_,λi b hb=>?_⟩
 . exact h.nodup.sublist ((List.filter_sublist).map _)
 ·show okE (Aa d') p.2
  rw[r.nodes];exact h.ok p (g1 H)
 ·have h2:(delK k m.hs).length<=m.hs.length:=Yj _ _;have h3:=h.len
  show((delK k m.hs).length:Int)<=m.next
  omega
 ·have g0:Aa m.d i=some b:=by
   have:Aa d' i=some b:=hb;rw[r.nodes]at this;exact this
  have hi:i≠0:=by rintro rfl;rw[h0]at g0;cases g0
  show Al d' i=(AT (delK k m.hs) i:Int)
  rw[r.ext i hi,h.refs i b g0,MF h1 m.hs h.nodup hk i];unfold toE;split<;>(simp;try omega)
section
variable {o:Own}
def Tm (h:A3 o w sb m.d)(H:Ac o w)(hk:EK m V){k:Int}(U:(k,f)∈m.hs)(h1:1<k)(Y:m.next<549755813888):
 Cl 120 #[Pt sb,Iv f] w λx w'=>x=.returned (Iv 0)/\∃d',A3 o w' sb d'/\Ac o w'/\DM m.d d' f (-1)/\Chg Am o o w w':=by
 have g0:∀y b,Aa m.d y=some b->Al m.d y<1099511627776:=λy b _=>by have:=Mt hk.handles y;omega
 have g1:=hk.handles.ok _ U;obtain⟨s,h⟩:=h;have g2:=h.edge_lt g1;rcases g1 with h0|⟨b,hb⟩
 . refine(Q5 h H hk.store.live f (by unfold eMax;omega) h0).mono ?_;rintro e w' ⟨d',h1,h2,h3,I,O⟩;exact⟨h1,d',⟨s,h2⟩,h3,I,O⟩
 ·have g4:=h.pool.top;have g3:=h.pool.room;refine(Q6 h H hk.store.live (LC hk.store) f (b:=b) hb g0 ?_ (λy c X=>?_)).mono ?_
  . have h2:=hk.handles.refs (enode f) b hb;have h3:0<AT m.hs (f/2):=Ms U h1;have I:Al m.d (enode f)=(AT m.hs (f/2):Int):=h2;omega
  . have h1:=hk.store.live.cnt.le X;have h2:=g0 y c X;omega
  . rintro e w' ⟨d',h1,h2,h3,I,O⟩;exact⟨h1,d',⟨s,h2⟩,h3,I,O⟩
end
def Cc {α:Type}(l:List (Int×α))(ks:List Int):List (Int×α):=ks.foldl (λl k=>if 1<k then delK k l else l) l
def MG {α:Type}{l:List (Int×α)}(H:j<ks.length):Cc l (ks.take (j+1))=if 1<at0 ks j then delK (at0 ks j) (Cc l (ks.take j))else Cc l (ks.take j):=by
 unfold Cc;rw[XA H,Zz,A8 H];rfl
section
variable {o:Own}
structure CI (K:Law)(n:Nat)(Od:List Nat->Prop)(room:Nat)(w0:Wd)(mb:Nat)(fs:List (Int×BF))(nx:Int)(o:Own)(w:Wd)(m:ManD)(V:Nat->BF)(o':Own)(w':Wd)(m':ManD):Prop where
 sat:SatE K n Od room w0 mb fs nx w' o' m' V
 waits:m'.waits=m.waits
 calls:m'.calls=m.calls
 nodes:Aa m'.d=Aa m.d
 many:m'.d.pool.many=m.d.pool.many
 chg:Chg (λ_=>True) o o' w w'
def CI.trans {fs' fs'':List (Int×BF)}{o'':Own}{w'':Wd}{I:ManD}(h:CI K n Od room w0 mb fs' nx o w m V o' w' m')(H:CI K n Od room w0 mb fs'' nx o' w' m' V o'' w'' I):CI K n Od room w0 mb fs'' nx o w m V o'' w'' I:=
 ⟨H.sat,H.waits.trans h.waits,H.calls.trans h.calls,H.nodes.trans h.nodes,H.many.trans h.many,h.chg.trans H.chg⟩
def Tn (i:AC K)(h:SatE K n Od room w0 mb fs nx w o m V){k:Int}(X:(k,f)∈m.hs)(h1:1<k){s:ManW}(hs:A9 (K m.d V) o w mb m s)(U:A3 o w1 s.sb d')(I:Ac o w1)(H:DM m.d d' f (-1))(O:Chg Am o o w w1):
 A9 (K m.d V) o w1 mb { m with d:=d' } s/\∃w2,(Builtin.delete_ #[115,3] 0 #[.map (some s.hb),Iv k]).run prog w1=.ok (.tuple #[]) w2/\CI K n Od room w0 mb (delK k fs) nx o w m V o w2 { m with d:=d',hs:=delK k m.hs }:=by
 have g0:=hs.setStore h.lt U O;refine⟨g0,?_⟩;obtain⟨w2,g3,g5,g1⟩:=g0.map.delete kI underlying115 k 0;refine⟨w2,g3,?_⟩;have Z:delL k (encH m.hs)=encH (delK k m.hs):=by
  rw[Tk (EO h.ok.handles.nodup) (v:=Iv (f:Nat)) (X6.2 ⟨(k,f),X,rfl⟩)];exact(ME k m.hs (λp=>(p.1,Value.int .i64 (p.2:Nat))) (λ_=>rfl)).symm
 have g4:Au w2 s.hb (Value.int .i64) (encH (delK k m.hs)):=by rw[<-Z];exact g5
 have g7:=g0.setMap I g4 g1;have g6:Ac o w2:=I.mono g1.size;have g2:Chg (λ_=>True) o o w w2:=O.any.grown g1 (λg Y=>by cases Y;exact⟨_,g0.ownh,trivial⟩);refine⟨⟨⟨s,g7.mono λop a b c r q=>i.same _ _ _ _ _ _ _ _ H.vars H.level H.nodes q⟩,g6,⟨H.ok h.ok.store,Tl h.ok.handles H X h1 h.ok.store.dag.none0⟩,?_,?_,?_,h.next,?_,h.chg.lower (ChgX.of_chg g2 NoB) (λ_ e=>e.elim)⟩,rfl,rfl,H.nodes,H.many,g2⟩
 ·show d'.vars.length=n
  rw[H.vars];exact h.vars
 ·show Od d'.vars
  rw[H.vars];exact h.od
 ·show d'.pool.room=room
  rw[H.room];exact h.room
 ·show(delK k m.hs).map (λp=>(p.1,ef V p.2))=delK k fs
  rw[ME k m.hs (λp=>(p.1,ef V p.2)) (λ_=>rfl),h.hs]
def To (q:AC K)(h:SatE K n Od room w0 mb fs nx w o m V)(p:nx<549755813888){a:Option Addr}(O:Aj w a ks)(H:∀x,a=some x->o x.block=none)
 (X:∀j,j<ks.length->∃F,(at0 ks j,F)∈Cc fs (ks.take j)):
 Cl 74 #[Pt mb,.slice a ks.length c] w λx w'=>x=.returned (Iv 0)/\∃o' m',CI K n Od room w0 mb (Cc fs ks) nx o w m V o' w' m':=by
 have Q:=O.len;have g5:Hq (∃o' m',CI K n Od room w0 mb (Cc fs (ks.take 0)) nx o w m V o' w m'/\Aj w a ks/\(∀x,a=some x->o' x.block=none)):=Hd ⟨o,m,⟨h,rfl,rfl,rfl,rfl,Chg.refl _ _ _⟩,O,H⟩;have B:=Hd X;have L:=Hd p;have gf:=Hd q;clear h p O H X q
 go_enter func74,ntmps74
 go_wp2
 go_loopw [13] (λI wr=>∃j:Nat,j<=ks.length/\I=Iv j/\Hq (∃o' m',CI K n Od room w0 mb (Cc fs (ks.take j)) nx o w m V o' wr m'/\Aj wr a ks/\(∀x,a=some x->o' x.block=none))) (λI _=>ks.length-(intOf I).toNat)
 case atStart=>exact⟨0,X0 _,rfl,g5⟩
 case round=>
  obtain⟨j,N,rfl,i⟩:=hrel;obtain⟨U,Z,hh,hi,H⟩:=i.o
  by_cases g6:j<ks.length
  ·obtain⟨b,off,rfl,g3⟩:=hi.cells j g6;obtain⟨s,hs⟩:=hh.sat.is;obtain⟨G,c1,c2,E,D,C,f0⟩:=cells6 hs.blk;have gk:(j:Int)<ks.length:=by omega
   obtain⟨z,e⟩:=Ex (at0 ks j);obtain⟨F,g⟩:=B.o j g6;rw[<-e]at g g3;obtain⟨f,Y,t⟩:=hh.sat.find g;have hl:=EP hs hh.sat.ok.handles.nodup Y;have g8:=Hd hh;have ge:=Hd hi;have g7:=Hd H;have A:Hq (b<wr.heap.size):=Hd (Ad g3);have g2:=Hd g6;have v:=Hd e;have J:=Hd hs;have k:=Hd Y
   by_cases h1:z>1
   ·have M:=Hd (Tm hs.store hh.sat.lt hh.sat.ok Y h1 (by rw[hh.sat.next];exact L.o));have y:=Hd h1;clear hh hi H hs i g5 e g Y t;go_wp2_with fail;refine M.o.mono ?_;rintro x w1 ⟨rfl,d',g9,u,l,gc⟩;obtain⟨r,w2,R,g4⟩:=Tn gf.o g8.o.sat k.o y.o J.o g9 u l gc;obtain⟨e0,e1,e2,W,T,S,g0⟩:=cells6 r.blk
    have g1:Hq (CI K n Od room w0 mb (Cc fs (ks.take (j+1))) nx o w m V U w2 { Z with d:=d',hs:=delK z Z.hs }/\Aj w2 (some (Aw b off)) ks/\(∀x,some ((Aw b off):Addr)=some x->U x.block=none)):=Hd ⟨by
     rw[MG g2.o,<-v.o,Xx y.o];exact g8.o.trans g4,ge.o.chg g4.chg g7.o,λx hx=>g4.chg.alien' (by cases hx;exact A.o) (g7.o x hx)⟩
    clear r g9 u l gc g4 G c1 c2 E D C f0 g3 hl;go_wp2;go_roundw
    case rel=>exact⟨j+1,Z0 g2.o,by go_num,Hd ⟨_,_,g1.o.1,g1.o.2.1,g1.o.2.2⟩⟩
    case measure=>
     have:=g2.o;simp[intOf];omega
   ·have g1:Hq (CI K n Od room w0 mb (Cc fs (ks.take (j+1))) nx o w m V U wr Z/\Aj wr (some (Aw b off)) ks/\(∀x,some ((Aw b off):Addr)=some x->U x.block=none)):=Hd ⟨by
     rw[MG g2.o,<-v.o,Xu h1];exact g8.o,ge.o,g7.o⟩
    clear hh hi H hs i g5 e g Y t;go_wp2;go_roundw
    case rel=>exact⟨j+1,Z0 g2.o,by go_num,Hd ⟨_,_,g1.o.1,g1.o.2.1,g1.o.2.2⟩⟩
    case measure=>
     have:=g2.o;simp[intOf];omega
  ·obtain rfl:j=ks.length:=by omega
   have k:Hq (∃o' m',CI K n Od room w0 mb (Cc fs ks) nx o w m V o' wr m'):=Hd ⟨U,Z,by rw[XP]at hh;exact hh⟩;clear hh hi H i g5;go_wp2;go_ret;exact⟨rfl,k.o⟩
end
section
variable {o:Own}
structure Swapped (K:Law)(n room:Nat)(w0:Wd)(mb:Nat)(fs:List (Int×BF))(nx:Int)(k:Nat)(o:Own)(w:Wd)(m:ManD)(o':Own)(w':Wd)(m':ManD)(V':Nat->BF):Prop where
 sat:SatE K n (λl=>l=(Bd m.d k).vars) room w0 mb fs nx w' o' m' V'
 waits:m'.waits=m.waits
 calls:m'.calls=m.calls
 dead:m'.d.dead=0
 chg:Chg (λ_=>True) o o' w w'
def Tp (h:SatE K n Od room w0 mb fs nx w o m V)(I:k+1<n)(X:nx<=549755813888)(Y:3*(fs.length*2^n)<=room):
 Cl 92 #[Pt mb,Iv k] w λe w'=>e=.returned (Iv 0)/\∃o' m' V',Swapped K n room w0 mb fs nx k o w m o' w' m' V':=by
 refine(SI h I X).mono ?_;rintro e w' ⟨o',m',V',H⟩;obtain⟨d0,U,⟨rfl,e1,e2,g0⟩|⟨rfl,O⟩⟩:=H.way
 . exfalso;have h1:=H.sat.few (by rw[e1];exact U.dead);have h2:=H.sat.room;rw[e1]at h1 h2;omega
 . refine⟨rfl,o',m',V',⟨H.sat.withOd ?_,H.waits,H.calls,O.dead,H.chg⟩⟩;rw[O.vars];unfold Bd;dsimp only;rw[U.vars]
end
def MH {α:Type}{p:Int×α}:∀{ks:List Int} {l:List (Int×α)},p∈l->p.1∉ks->p∈Cc l ks
 | [],l,h,_=>h
 | k::ks,l,h,hn=>by
   show p∈Cc (if 1<k then delK k l else l) ks
   simp only[Yy,not_or]at hn;refine MH ?_ hn.2;split
   . exact GE.2 ⟨h,hn.1⟩
   . exact h
def Tq {α:Type}{l r:List (Int×α)}{p:Int×α}(h:((l++p::r).map Prod.fst).Nodup):delK p.1 (l++p::r)=l++r:=by
 rw[XG,Yz,Yl]at h;obtain⟨h1,h2,h3⟩:=h;have hl:∀q∈l,q.1≠p.1:=λq H e=>h3 q.1 (X6.2 ⟨q,H,rfl⟩) p.1 (XX ..) e
 have I:∀q∈r,q.1≠p.1:=λq H e=>(YO.1 h2).1 (X6.2 ⟨q,H,e⟩)
 have e1:delK p.1 (l++p::r)=delK p.1 l++delK p.1 r:=by
  unfold delK;rw[Yi,Zg];simp
 rw[e1,J5 hl,J5 I]
abbrev Ys:=@List.mem_cons_of_mem
def MI {α:Type}:∀(hs l r:List (Int×α)),((l++(hs++r)).map Prod.fst).Nodup->(∀p∈hs,1<p.1)->Cc (l++(hs++r)) (hs.map Prod.fst)=l++r
 | [],l,r,_,_=>rfl
 | p::hs,l,r,hn,h1=>by
   show Cc (if 1<p.1 then delK p.1 (l++(p::(hs++r)))else l++(p::(hs++r))) (hs.map Prod.fst)=_
   have H:((l++p::(hs++r)).map Prod.fst).Nodup:=hn;rw[Xx (h1 p (XX ..)),Tq H];refine MI hs l r ?_ (λq Y=>h1 q (Ys _ Y));have:=hn;rw[XG,Yl]at this⊢;obtain⟨U,O,I⟩:=this;exact⟨U,(YO.1 O).2,λx hx y X=>I x hx y (Ys _ X)⟩
section
variable {o:Own}
def SatE.fst (h:SatE K n Od room w0 mb fs nx w o m V):fs.map Prod.fst=m.hs.map Prod.fst:=by rw[<-h.hs,Y9];rfl
def SatE.nodup (h:SatE K n Od room w0 mb fs nx w o m V):(fs.map Prod.fst).Nodup:=by rw[h.fst];exact h.ok.handles.nodup
def SatE.range (h:SatE K n Od room w0 mb fs nx w o m V):∀p∈fs,0<=p.1/\p.1<nx:=by
 intro p H;rw[<-h.hs]at H;obtain⟨q,I,rfl⟩:=X6.1 H;rw[<-h.next];exact h.ok.handles.lt q I
structure B2 (fs:List (Int×BF)):Prop where
 zero:(0,λ_=>false)∈fs
 one:(1,λ_=>true)∈fs
def B2.app (h:B2 fs)(hs:List (Int×BF)):B2 (fs++hs):=⟨YL _ h.zero,YL _ h.one⟩
abbrev Zf:=@List.mem_append_right
def SatE.gt (h:SatE K n Od room w0 mb (fs++hs) nx w o m V)(hb:B2 fs):∀p∈hs,1<p.1:=by
 intro p H;have h1:=(h.range p (Zf _ H)).1;have h2:=h.nodup;rw[XG,Yl]at h2;have h3:=λk hk=>h2.2.2 k hk p.1 (X6.2 ⟨p,H,rfl⟩)
 have O:=h3 0 (X6.2 ⟨_,hb.zero,rfl⟩);have I:=h3 1 (X6.2 ⟨_,hb.one,rfl⟩);omega
abbrev Yn:=@List.getElem_of_mem
abbrev aM:=@List.getElem_take
def MJ (Z:AC K){r:List (Int×BF)}(h:SatE K n Od room w0 mb (fs++(hs++r)) nx w o m V)(hb:B2 fs)(X:nx<549755813888){a:Option Addr}(I:Aj w a (hs.map Prod.fst))(H:∀x,a=some x->o x.block=none):
 Cl 74 #[Pt mb,.slice a hs.length c] w λx w'=>x=.returned (Iv 0)/\∃o' m',CI K n Od room w0 mb (fs++r) nx o w m V o' w' m':=by
 have g0:=h.nodup;have g3:=h.gt hb;have e:Cc (fs++(hs++r)) (hs.map Prod.fst)=fs++r:=MI hs fs r g0 (λp U=>g3 p (YL _ U));have:=To Z h X (c:=c) I H λj O=>by
  have g1:j<hs.length:=by simpa using O
  have e1:at0 (hs.map Prod.fst) j=hs[j].1:=by rw[A8 O];simp
  refine⟨hs[j].2,?_⟩;rw[e1];refine MH (Zf _ (YL _ (XM g1))) ?_;rw[XG,Yl,XG,Yl]at g0;have hh:=g0.2.1.1;intro Y;obtain⟨i,hi,e2⟩:=Yn Y;have g2:i<j:=by simp at hi;omega
  rw[aM]at e2;exact(Zd.1 hh) i j (by simp;omega) O g2 (by rw[e2];simp)
 rw[e,XT]at this;exact this
def Tr {x:Ending}(I:DS K n Od room w0 mb fs nx ws0 lim k F o w x w')(hk:k<=2^n)(H:(fs.length+1)*2^n<=room):
 ∃o' m' V',ChgX NoB o o' w w'/\m'.waits <:+ ws0/\x=.returned (.tuple #[Iv nx,Iv 0])/\SatE K n Od room w0 mb (fs++[(nx,F)]) (nx+1) w' o' m' V':=by
 obtain⟨o',m',V',h1,h2,⟨h3,_,U⟩|⟨_,_,_,m0,⟨W,X,Z,hs⟩,O,Y⟩⟩:=I
 . exact⟨o',m',V',h1,h2,h3,U⟩
 . exfalso;have:=hs.few O;rw[Y8]at H;omega
def MK {M:Nat}{x:Ending}(H:DS K n Od room w0 mb fs nx [] (some M) k F o w x w'):
 ∃o' m' V',ChgX NoB o o' w w'/\(m'.waits=[]/\m'.d.pool.many<=M+k)/\x=.returned (.tuple #[Iv nx,Iv 0])/\SatE K n Od room w0 mb (fs++[(nx,F)]) (nx+1) w' o' m' V':=by
 obtain⟨o',m',V',h1,h2,⟨h3,I,O⟩|⟨_,h,_⟩⟩:=H
 . exact⟨o',m',V',h1,⟨by simpa using h2,I M rfl⟩,h3,O⟩
 . cases h
end
structure AtC (K:Law)(k:Nat)(o:Own)(w:Wd)(mb:Nat)(m:ManD)(V:Nat->BF)(o':Own)(w':Wd)(m':ManD)(V':Nat->BF):Prop where
 st:Step K o w mb m V o' w' m' V'
 waits:m'.waits=m.waits
 many:m'.d.pool.many<=m.d.pool.many+k
def DU (K:Law)(k:Nat)(o:Own)(w:Wd)(mb:Nat)(m:ManD)(V:Nat->BF)(er:Int)(H:Bool)(ev:Ev)(w':Wd):Prop:=
 ∃o' m' V',Step K o w mb m V o' w' m' V'/\((er=7/\H=false/\ev=ev0/\m'.waits=m.waits/\m'.d.pool.many=m'.d.pool.room/\m'.d.pool.many+1<=m.d.pool.many+k)\/(er=0/\H=true/\m.waits=ev::m'.waits))
def AO (K:Law)(k:Nat)(o:Own)(w:Wd)(mb:Nat)(m:ManD)(V:Nat->BF)(A:Af->(Nat->BF)->Nat->Prop)(e:Ending)(w':Wd):Prop:=
 (∃r o' m' V',e=.returned (Iv (r:Nat))/\AtC K k o w mb m V o' w' m' V'/\okE (Aa m'.d) r/\A m'.d V' r)\/(∃er H ev,e=A1 er H ev/\DU K k o w mb m V er H ev w')
section
variable {k1 k2:Nat}{o:Own}{m1 m2:ManD}{V1 V2:Nat->BF}
def AtC.refl (h:AF (K m.d V) o w mb m)(hl:Ac o w)(hk:Ai m.d V):AtC K 0 o w mb m V o w m V:=⟨⟨h,hl,Chg.refl _ _ _,hk,Ext.refl _ _,rfl,rfl⟩,rfl,Xs _⟩
def AtC.trans (h:AtC K k1 o w mb m V o1 w1 m1 V1)(H:AtC K k2 o1 w1 mb m1 V1 o2 w2 m2 V2):AtC K (k1+k2) o w mb m V o2 w2 m2 V2:=
 ⟨h.st.trans H.st,H.waits.trans h.waits,by have:=h.many;have:=H.many;omega⟩
def AtC.mono (h:AtC K k1 o w mb m V o1 w1 m1 V1)(hk:k1<=k2):AtC K k2 o w mb m V o1 w1 m1 V1:=⟨h.st,h.waits,Xz h.many (by omega)⟩
def AtC.below (h:AtC K k o w mb m V o1 w1 m1 V1)(hb:Bw w1 w2):AtC K k o w mb m V o1 w2 m1 V1:=⟨h.st.below hb,h.waits,h.many⟩
def AtC.vars (h:AtC K k o w mb m V o1 w1 m1 V1)(H:m.d.vars.length=n):m1.d.vars.length=n:=by rw[h.st.ext.vars];exact H
def DU.after {er:Int}{H:Bool}(h:AtC K k1 o w mb m V o1 w1 m1 V1)(O:DU K k2 o1 w1 mb m1 V1 er H ev w2)(hk:k1+k2<=k):DU K k o w mb m V er H ev w2:=by
 obtain⟨o2,m2,V2,st,⟨I,a2,a3,a4,a5,U⟩|⟨I,a2,a3⟩⟩:=O
 . have:=h.many;exact⟨o2,m2,V2,h.st.trans st,.inl ⟨I,a2,a3,a4.trans h.waits,a5,by omega⟩⟩
 . exact⟨o2,m2,V2,h.st.trans st,.inr ⟨I,a2,by rw[<-h.waits];exact a3⟩⟩
def ML (Z:AC K)(h:AF (K m.d V) o w mb m)(H:Ac o w)(hx:AR o w xb mb)(hk:Ai m.d V)(v lo hi:Nat)(c:v<m.d.vars.length)(I:okE (Aa m.d) lo)(O:okE (Aa m.d) hi)
 (X:levN m.d v<lvE m.d.vars.length (levN m.d) (Aa m.d) lo) (Y:levN m.d v<lvE m.d.vars.length (levN m.d) (Aa m.d) hi):
 Cl 88 #[Pt xb,Iv v,Iv lo,Iv hi] w (AO K 1 o w mb m V λd V' r=>ef V' r=iteF v (ef V hi) (ef V lo)/\levN m.d v<=lvE m.d.vars.length (levN d) (Aa d) r):=by
 refine(IY Z h H hx hk v lo hi I O).mono ?_;rintro e w' ⟨o',m',V',st,⟨ev,h1,_,_,_,_,rfl⟩|⟨h1,_,_,(⟨er,g0,U,_,rfl⟩|⟨_,_,r,rfl,h2,h3,b,a⟩)⟩⟩
 . exact .inr ⟨0,true,ev,rfl,o',m',V',st,.inr ⟨rfl,rfl,h1⟩⟩
 ·rcases g0 with ⟨_,h⟩|⟨_,_,_,h⟩|⟨rfl,h⟩
  . exact(h ⟨by omega,by omega⟩).elim
  . simp only[YH]at h;omega
  . exact .inr ⟨7,false,ev0,rfl,o',m',V',st,.inl ⟨rfl,rfl,rfl,h1,by rw[U];exact h,by rw[U];omega⟩⟩
 . exact .inl ⟨r,o',m',V',rfl,⟨st,h1,a⟩,h2,h3,b⟩
def Ts (O:AC K)(h:AF (K m.d V) o w mb m)(H:Ac o w)(hx:AR o w xb mb)(hk:Ai m.d V)(v:Nat)(I:v<m.d.vars.length):
 Cl 88 #[Pt xb,Iv v,Iv (1:Nat),Iv (0:Nat)] w (AO K 1 o w mb m V λ_ V' r=>ef V' r=varF v):=by
 have g0:=hk.dag.lt v I;refine(ML O h H hx hk v 1 0 I (.inl rfl) (.inl rfl) (by rw[F5 hk rfl];exact g0) (by rw[F5 hk rfl];exact g0)).mono ?_;rintro e w' (⟨r,o',m',V',rfl,h1,h2,h3,_⟩|h)
 ·refine .inl ⟨r,o',m',V',rfl,h1,h2,?_⟩
  show ef V' r=varF v
  rw[h3];funext ρ;simp only[iteF,varF,Eo hk.dag.one,Ep hk.dag.one];cases ρ v<;>rfl
 . exact .inr h
def MM (X:AC K)(h:AF (K m.d V) o w mb m)(H:Ac o w)(hx:AR o w xb mb)(hk:Ai m.d V)(Y:m.d.vars.length=n)(f g e:Nat)(O:okE (Aa m.d) f)(I:okE (Aa m.d) g)(U:okE (Aa m.d) e):
 Cl 117 #[Pt xb,Iv f,Iv g,Iv e] w (AO K (2^n-1) o w mb m V λ_ V' r=>ef V' r=Ba (ef V f) (ef V g) (ef V e)):=by
 have hp2:0<2^n:=Yg (by omega);refine(L6 X n o w xb mb m V f g e h H hx hk O I U (by omega)).mono ?_;rintro x w' ⟨o',m',V',st,⟨r,rfl,h1,h2,h3⟩|⟨rfl,h2,h3,Z⟩|⟨ev,rfl,h1⟩⟩
 ·refine .inl ⟨r,o',m',V',rfl,⟨st,h2,by omega⟩,h1.okR,?_⟩
  show ef V' r=Ba (ef V f) (ef V g) (ef V e)
  funext ρ;rw[h1.val ρ,st.ext.ef O,st.ext.ef I,st.ext.ef U];rfl
 . exact .inr ⟨7,false,ev0,rfl,o',m',V',st,.inl ⟨rfl,rfl,rfl,h2,h3,by omega⟩⟩
 . exact .inr ⟨0,true,ev,rfl,o',m',V',st,.inr ⟨rfl,rfl,h1⟩⟩
def Tt {B:Wd->Prop}(ws0:List Ev)(lim:Option Nat)(H:Eu ws0 lim k room)(I:∀ev∈ws0,HapG K n Od room w0 mb fs nx ev)
 (Y:∀W W',B W->(∀c,C c->W'.heap[c]?=W.heap[c]?)->B W')
 (O:∀(o:Own) (W:Wd) (m:ManD) (V:Nat->BF) (xb:Nat),SatE K n Od room w0 mb fs nx W o m V->B W->(∀k,C k->k<W.heap.size/\o k=none)->AR o W xb mb->¬ C xb->Calls prog gop (#[Pt xb]++lop) W (AO K k o W mb m V λ_ V' r=>ef V' r=F)):
 OpG K n Od room w0 mb fs nx C B (StL ws0 lim) gop lop (QF ws0 lim k F) (EL (SatX K n Od room w0 mb fs nx) k ws0 lim):=by
 intro o W m V xb g3 hb U g0 g5 hnx;refine(O o W m V xb g3 hb U g5 hnx).mono ?_;have g2:∀{o':Own} {w':Wd} {m':ManD} {V':Nat->BF},Step K o W mb m V o' w' m' V'->B w':=λst=>Y _ _ hb λc X=>st.chg.alien (U c X).1 (U c X).2
 rintro e w' (⟨r,o',m',V',rfl,h1,h2,h3⟩|⟨er,Z,ev,rfl,o',m',V',st,⟨rfl,rfl,rfl,a4,a5,a⟩|⟨rfl,rfl,a3⟩⟩)
 . exact⟨o',m',V',h1.st.toX _,g2 h1.st,.inl ⟨r,rfl,h2,h3,by rw[h1.waits];exact g0.1,λM e=>by have:=g0.2 M e;have:=h1.many;omega⟩⟩
 . have g4:lim=none:=Jq (m':=m') H g0.2 (by rw[<-a5];omega) (by rw[st.ext.room];exact g3.room);exact⟨o',m',V',st.toX _,g2 st,.inr (.inl ⟨7,rfl,by omega,a4,⟨by unfold Et;rw[a4];exact g0.1,by subst g4;exact λM e=>by cases e⟩,g4,rfl,⟨_,_,_,g3⟩,a5,a,by rw[a4];exact g0.1⟩)⟩
 . have g1:m.waits <:+ ws0:=g0.1;rw[a3]at g1;exact⟨o',m',V',st.toX _,g2 st,.inr (.inr ⟨ev,rfl,a3,λ_ _ _ _ _ e _ _=>⟨by unfold Et;rw[e];exact(List.suffix_cons ev m'.waits).trans g1,Jr H g1⟩,I ev (g1.subset (XX ..))⟩)⟩
end
structure Dg (T ST:TypeId)(z:Value)(b:Nat):Prop where
 under:prog.underlying ST=some (.slice T)
 info:(prog.info? T).map (λi=>(i.zero,i.size,i.bytes))=some (some z,1,b)
 one:z.cells=#[z]
 small:b<=100
def GF:Dg 3 22 (Iv 0) 8:=⟨underlying22,by kernel_rfl,rfl,by omega⟩
def C6:Dg 4 28 (.bool false) 1:=⟨underlying28,by kernel_rfl,rfl,by omega⟩
def Tu:Dg 28 34 (.slice none 0 0) 24:=⟨underlying34,by kernel_rfl,rfl,by omega⟩
def OwnC (T:TypeId)(w:Wd)(base:Nat)(v:Value)(xs:List Value):Prop:=w.ownsRow base T 1 v xs.length xs
section
variable {base:Nat}
def OwnC.alloc (h:OwnC T w base v xs)(o:Obj):OwnC T (w.alloc o) base v xs:=World.ownsRow.alloc h o
def OwnC.lt (h:OwnC T w base v xs):∀k,v.ownBlock=some k->base<=k/\k<w.heap.size:=World.ownsRow.lt h
def OwnC.same (h:OwnC T w base v xs)(hk:∀k,v.ownBlock=some k->w'.heap[k]?=w.heap[k]?):OwnC T w' base v xs:=by
 refine⟨h.1,?_⟩;rcases h.2 with I|⟨g,cap,H,rfl,hb,g0,rest⟩
 . exact .inl I
 . refine .inr ⟨g,cap,H,rfl,hb,?_,rest⟩;rw[hk g rfl];exact g0
def OwnC.below (h:OwnC T w base v xs)(hb:Bw w w'):OwnC T w' base v xs:=h.same λk hk=>hb.block k (h.lt k hk).2
def OwnC.shape (h:OwnC T w base v xs)(U:0<xs.length):∃g cap,v=.slice (some (Av g)) xs.length cap/\base<=g/\g<w.heap.size:=by
 rcases h.2 with ⟨_,h0⟩|⟨g,cap,O,H,I,hh,_⟩
 . omega
 . exact⟨g,cap,H,I,(Xt.1 hh).1⟩
def OwnC.slice (h:OwnC T w base v xs):∃a cap,v=.slice a xs.length cap/\(a=none->cap=0):=by
 rcases h.2 with ⟨H,h0⟩|⟨g,cap,I,H,O,hh,_⟩
 . exact⟨none,0,by rw[H,h0],λ_=>rfl⟩
 . exact⟨_,cap,H,by simp⟩
def OwnC.cell {g cap n:Nat}(h:OwnC T w base (.slice (some (Av g)) n cap) xs)(k:Nat)(hk:k<xs.length):w.cell? (Aw g k)=xs[k]?:=by
 have I:n=xs.length:=by
  rcases h.2 with ⟨H,_⟩|⟨_,_,_,H,_⟩
  . cases H
  . cases H;rfl
 subst I;exact World.ownsRow.cellAt h k (by omega)
def OwnC.frozen {g cap n:Nat}(h:OwnC T w base (.slice (some (Av g)) n cap) xs)(k:Nat):w.frozen? (Aw g k)=false:=by
 rcases h.2 with ⟨H,_⟩|⟨_,_,_,H,_⟩
 . cases H
 . cases H;exact World.ownsRow.frozenAt h k
def OwnC.stored {g cap n:Nat}(h:OwnC T w base (.slice (some (Av g)) n cap) xs)(k:Nat)(y:Value):OwnC T (w.setCell (Aw g k) y) base (.slice (some (Av g)) n cap) (xs.set k y):=by
 rcases h.2 with ⟨H,_⟩|⟨_,_,_,H,_⟩
 . cases H
 . cases H;have:=(World.ownsRow.stored h k y).1;unfold OwnC;rw[XE];exact this
def OwnC.typed (h:OwnC T w base v xs):∀k,v.ownBlock=some k->∃H,w.heap[k]?=some (.cells H T (0,0)):=by
 intro k hk;rcases h.2 with ⟨rfl,_⟩|⟨g,cap,H,rfl,_,I,_⟩
 . cases hk
 . cases hk;exact⟨H,I⟩
def D1 (T:TypeId)(w:Wd)(base:Nat)(hb:base<=w.heap.size):OwnC T (w.alloc (.cells #[] T)) base (.slice (some (Av w.heap.size)) 0 0) []:=
 World.ownsRow_made w #[] 0 hb (by unfold maxLen;omega) (by simp)
def J7 (T:TypeId)(w:Wd)(base:Nat):OwnC T w base (.slice none 0 0) []:=World.ownsRow_nil w base T 1
theorem Dh (E:Dg T ST z b)(wr:Wd){o:Oper}(I:o.guard=none)(s x:Operand)
 (Z:o.op=.call { callee:=.builtin .append,args:=#[s,x],argTypes:=#[ST,ST] })
 (base:Nat) (v:Value) (xs:List Value) (y:Value) (hs:a.eval s=v) {N:Nat} (hx:a.eval x=.slice (some (Av N)) 1 1)
 (c:W=wr.alloc (.cells #[y] T)) (d:N=wr.heap.size) (Y:y.oneCell'=true)
 (H:OwnC T wr base v xs) (U:xs.length<1099511627776) (O:base<=wr.heap.size)
 (h:∀v' w',OwnC T w' base v' (xs++[y])->w'.os=wr.os->w'.tape=wr.tape->w'.output=wr.output->wr.heap.size<=w'.heap.size->BG v v' wr w'->wpList prog ops Q rest (a.put o.dst v') w'):
 wpList prog ops Q (o::rest) a W:=by
 obtain⟨i,hi,X,g1,g3⟩:=Zm E.info;subst d;subst c
 have g2:=E.small;refine ZM (w:=wr.alloc (.cells #[y] T)) I s x ST Z base T i z 1 b E.under hi X g1 g3 (by rw[E.one];rfl) (by decide)
  v xs.length xs hs (H.alloc _) (Av wr.heap.size) 1 1 [y] hx rfl (cell_one_new _ _ _) (by intro u hu;simp at hu;subst hu;exact Y) (by unfold maxLen;omega) (by
   have h1:(xs.length+1)*b<=1099511627776*100:=aG (by omega) g2;omega) (by simp;omega) ?_
 intro v' w' h1 h2 _ g0;refine h v' w' ?_ h2.os h2.tape h2.output ?_ ⟨Gb h2,g0.imp id λe=>⟨_,e,by simp⟩⟩
 . unfold OwnC;rw[X4];exact h1
 . have:=h2.size;simp at this;omega
def FF (hb:Below base w0 wr)(H:OwnC T wr base v xs)(h1:w'.os=wr.os)(h2:w'.tape=wr.tape)(h3:w'.output=wr.output)(U:wr.heap.size<=w'.heap.size)(hk:BG v v' wr w')(O:base<=wr.heap.size):Below base w0 w':=
 ⟨h1.trans hb.os,h2.trans hb.tape,h3.trans hb.output,Xz hb.size U,λk I=>(hk.keep k (by omega) (λe=>by have:=(H.lt k e.symm).1;omega)).trans (hb.block k I)⟩
def C7 (E:Dg T ST z b){o:Oper}(I:o.guard=none)(l c:Operand)
 (X:o.op=.makeSlice ST l c) (base:Nat) (w0:Wd) (L:Int) (n:Nat) (hl:a.eval l=Iv L) (Y:a.eval c=Iv L) (O:L=n) (Z:n<1099511627776)
 (H:base<=wr.heap.size) (hb:Below base w0 wr)
 (h:∀g w',OwnC T w' base (.slice (some (Av g)) n n) (List.replicate n z)->Below base w0 w'->base<=w'.heap.size->CW none wr w'->base<=g->g=wr.heap.size ->
  wpList prog ops Q rest (a.put o.dst (.slice (some (Av g)) n n)) w'):
 wpList prog ops Q (o::rest) a wr:=by
 obtain⟨i,hi,U,g0,g2⟩:=Zm E.info;have g1:=E.small
 refine wpList_make_full wr I l c ST X base T i z 1 E.under hi U g0 .i64 .i64 L L n hl Y O O (by
  have h1:i.bytes*n<=100*1099511627776:=aG (by omega) (by omega);omega) (by unfold maxLen;omega) H ?_
 intro w' h1 h2;refine h wr.heap.size w' ?_ (hb.grown h2 H (by simp)) (by have:=h2.size;omega) (Fl h2) H rfl;unfold OwnC;have e1:List.replicate n z=(madeCells z.cells (n*1)).toList:=by
  rw[E.one];simp[madeCells];apply Ym
  . simp
  . intro j h3 d;simp[Nat.mod_one]
 rw[Yp,e1];exact h1
end
def AA (bs:List Bool):List Value:=bs.map Value.bool
def EV (bs:List Bool):(AA bs).length=bs.length:=by simp[AA]
def getElem?_boolsV (h:k<bs.length):(AA bs)[k]?=some (.bool (bs.getD k false)):=by
 simp[AA,List.getD,h]
abbrev OwnB (w:Wd)(base:Nat)(v:Value)(bs:List Bool):Prop:=OwnC 4 w base v (AA bs)
def Ay (w:Wd)(v:Value)(bs:List Bool):Prop:=∃a c,v=.slice a bs.length c/\AM w a bs/\(a=none->c=0)
def Ay.below {w w':Wd}{v:Value}{bs:List Bool}(h:Ay w v bs)(hb:Bw w w'):Ay w' v bs:=by
 obtain⟨a,c,rfl,h1,h2⟩:=h;exact⟨a,c,rfl,h1.below hb,h2⟩
def Ay.same (h:Ay w v bs)(hk:∀k,v.ownBlock=some k->w'.heap[k]?=w.heap[k]?):Ay w' v bs:=by
 obtain⟨a,c,rfl,h1,h2⟩:=h;refine⟨a,c,rfl,⟨h1.len,λk g0=>?_⟩,h2⟩;obtain⟨g,off,rfl,H⟩:=h1.cells k g0;exact⟨g,off,rfl,Co H (hk g rfl)⟩
def OwnC.boolsIs {base:Nat}(h:OwnB w base v bs)(hl:bs.length<=1000000):Ay w v bs:=by
 obtain⟨a,c,H,I⟩:=h.slice;have g1:=H;rw[EV]at g1;refine⟨a,c,g1,⟨hl,λk hk=>?_⟩,I⟩;obtain⟨g,cap,g0,hb,U⟩:=h.shape (by rw[EV];omega);have O:a=some (Av g):=by rw[H]at g0;injection g0
 subst O;refine⟨g,0,rfl,?_⟩;subst H;rw[XO,h.cell k (by rw[EV];exact hk),getElem?_boolsV hk]
def OwnC.setB {base cap:Nat}(h:OwnB w base (.slice (some (Av g)) n cap) bs)(k:Nat)(y:Bool):OwnB (w.setCell (Aw g k) (.bool y)) base (.slice (some (Av g)) n cap) (bs.set k y):=by
 have:=h.stored k (.bool y);unfold OwnB;rw[show AA (bs.set k y)=(AA bs).set k (.bool y)by simp[AA,Zp]];exact this
def OwnC.cellB {base cap:Nat}(h:OwnB w base (.slice (some (Av g)) n cap) bs)(k:Nat)(hk:k<bs.length):w.cell? (Aw g k)=some (.bool (bs.getD k false)):=by
 rw[h.cell k (by rw[EV];exact hk),getElem?_boolsV hk]
def bitB (i v:Nat):Bool:=decide (i/2^v%2=1)
def AE (i n:Nat):List Bool:=(List.range n).map (bitB i)
def tabB (n:Nat)(F:BF):List Bool:=(List.range (2^n)).map λi=>F (A4 (AE i n))
def MN (i n:Nat):(AE i n).length=n:=by simp[AE]
def BU (n:Nat)(F:BF):(tabB n F).length=2^n:=by simp[tabB]
def EW (hi:i<2^n):(tabB n F).getD i false=F (A4 (AE i n)):=by simp[tabB,List.getD,hi]
def FG {v:Nat}:A4 (AE i n) v=(decide (v<n)&&bitB i v):=by
 unfold A4 AE
 by_cases h:v<n
 . simp[List.getD,h]
 . simp[List.getD,h]
def Tv (hl:bs.length=2^n)(h:∀i,i<2^n->bs.getD i false=F (A4 (AE i n))):bs=tabB n F:=by
 refine Ym (by rw[hl,BU]) λi h1 h2=>?_
 have:=h i (by omega);have e:(tabB n F).getD i false=F (A4 (AE i n)):=EW (by omega);rw[<-this]at e;simpa [List.getD,h1,h2]using e.symm
def GG (h:k<=20):2^k<=1048576:=X8 (by omega) h
def J8 (v:Nat)(Y:v<=20)(w:Wd):Cl 64 #[Iv v] w (Sm (Iv (2^v:Nat)) w):=by
 have U:Hq (∀k,k<=v->2^k<=1048576):=Hd λk hk=>GG (by omega)
 go_enter func64,ntmps64
 go_wp2
 go_loopw [3,4] (λO H wr=>∃k p:Nat,k<=v/\O=Iv p/\H=Iv k/\w=wr/\Hq (2^k=p)) (λ_ H _=>v-(intOf H).toNat)
 case atStart=>exact⟨0,1,X0 _,rfl,rfl,rfl,Hd rfl⟩
 case round=>
  obtain⟨k,p,hk,rfl,rfl,rfl,HP⟩:=hrel
  by_cases g0:k<v
  ·have Z:p<=1048576:=by rw[<-HP.o];exact U.o k hk
   go_wp2;go_roundw
   case rel=>exact⟨k+1,2*p,by omega,by go_num,by go_num,by simp,Hd (by rw[XJ,HP.o];omega)⟩
   case measure=>simp[intOf];omega
  ·have I:k=v:=by omega
   have X:Hq (2^v=p):=by rw[<-I];exact HP
   clear I;go_wp2;go_ret;exact⟨by rw[X.o];rfl,rfl⟩
abbrev YR:=@beq_eq_false_iff_ne
def J9 (i v:Nat)(hi:i<=1048576)(I:v<=20)(w:Wd):Cl 52 #[Iv i,Iv v] w (Sm (.bool (bitB i v)) w):=by
 have O:=Hd (J8 v I w);have g0:0<2^v:=Yg (by omega);have g2:=GG I;obtain⟨p,H⟩:=Ex (2^v);rw[<-H]at g0 g2 O;have g1:i/p<=i:=Nat.div_le_self _ _;have U:Hq (((wrap64 ((i:Int)/(p:Int))).tmod 2 == 1)=bitB i v):=by
  refine Hd ?_;unfold bitB;rw[<-H];have e0:(i:Int)/(p:Int)=((i/p:Nat):Int):=rfl;rw[e0]
  generalize i/p=q at g1⊢
  rw[IntWalk.wrap64_in _ (by omega)];have e1:Int.tmod (q:Int) 2=((q%2:Nat):Int):=by rw[YI (by omega)];rfl
  rw[e1]
  by_cases h:q%2=1
  . rw[h];rfl
  ·have:((q%2:Nat):Int)≠1:=by omega
   rw[YR.2 this,XW h]
 clear H
 go_enter func52,ntmps52
 go_wp2_with fail;refine O.o.mono ?_;rintro x w' ⟨rfl,rfl⟩;go_wp2;go_ret;exact⟨by rw[<-U.o];rfl,rfl⟩
def Tw {α:Type}(a b:α)(k n:Nat)(h:k<n):(List.replicate k a++List.replicate (n-k) b).set k a=List.replicate (k+1) a++List.replicate (n-(k+1)) b:=by
 have e:n-k=(n-(k+1))+1:=by omega
 rw[e,List.replicate_succ,ZJ _ _ (by simp),Yp,Nat.sub_self,List.set_cons_zero,List.replicate_succ',XF];rfl
def Tx (b:Bool)(n:Nat)(d:n<=16)(w:Wd):Cl 19 #[.bool b,Iv n] w λx w'=>∃g,x=.returned (.slice (some (Av g)) (2^n) (2^n))/\OwnB w' w.heap.size (.slice (some (Av g)) (2^n) (2^n)) (List.replicate (2^n) b)/\Bw w w':=by
 have Y:Hq (∀k,k<=n->2^k<=1048576):=Hd λk hk=>GG (by omega)
 obtain⟨L,H⟩:=Ex (2^n);have Z:=Hd H;have g8:L<=1048576:=by rw[H];exact GG (by omega)
 rw[<-H];clear H
 go_enter func19,ntmps19
 go_wp2
 go_loopw [5,6] (λX I wr=>∃k p:Nat,k<=n/\X=Iv p/\I=Iv k/\w=wr/\Hq (2^k=p)) (λ_ I _=>n-(intOf I).toNat)
 case atStart=>exact⟨0,1,X0 _,rfl,rfl,rfl,Hd rfl⟩
 case round=>
  obtain⟨k,p,hk,rfl,rfl,rfl,HP⟩:=hrel
  by_cases g3:k<n
  ·have O:p<=1048576:=by rw[<-HP.o];exact Y.o k hk
   go_wp2;go_roundw
   case rel=>exact⟨k+1,2*p,by omega,by go_num,by go_num,by simp,Hd (by rw[XJ,HP.o];omega)⟩
   case measure=>simp[intOf];omega
  ·have U:k=n:=by omega
   have O:p=L:=by rw[<-HP.o,U,Z.o]
   subst O;clear U;go_wp2_with (at_make;refine C7 C6 rfl _ _ rfl w.heap.size w _ p rfl rfl rfl (by omega) (Xs _) (X7 _ _) ?_;intro g w1 g2 g6 hs1 g7 g5 g4;clear g4)
   go_loopw [8] (λi wr=>∃j:Nat,j<=p/\i=Iv j/\OwnB wr w.heap.size (.slice (some (Av g)) p p) (List.replicate j b++List.replicate (p-j) false)/\Bw w wr) (λi _=>p-(intOf i).toNat)
   case atStart=>exact⟨0,by omega,rfl,by unfold OwnB;rw[show AA (List.replicate 0 b++List.replicate (p-0) false)=List.replicate p (Value.bool false)by simp[AA]];exact g2,g6⟩
   case round=>
    obtain⟨j,e,rfl,g0,g1⟩:=hrel
    by_cases g3:j<p
    ·have a:=g0.cellB j (by simp;omega);have c:=g0.frozen j;go_wp2;go_roundw
     case rel=>exact⟨j+1,by omega,by go_num,by rw[<-Tw b false j p g3];exact g0.setB j b,g1.setCell g5 _⟩
     case measure=>simp[intOf];omega
    ·obtain rfl:j=p:=by omega
     go_wp2;go_ret;exact⟨_,rfl,by simpa using g0,g1⟩
def MO {α:Type}{l m:List α}{y:α}(hk:k<l.length)(I:k<m.length)(H:m[k]=y):(m.take k++l.drop k).set k y=m.take (k+1)++l.drop (k+1):=by
 have h1:(m.take k).length=k:=by simp;omega
 rw[ZJ _ _ (by omega),h1,Nat.sub_self,Yc hk,List.set_cons_zero,XA I,H,XF];rfl
def Ty (i n:Nat):AE i (n+1)=AE i n++[bitB i n]:=by simp[AE,Zn]
section
variable {o:Own}
def SatE.vars_any (h:SatE K n Od room w0 mb fs nx w o m V):Cl 46 #[Pt mb] w (Sm (Iv n) w):=by
 have:=DR h.is;rw[h.vars]at this;exact this
def SatE.handles_any (h:SatE K n Od room w0 mb fs nx w o m V):Cl 55 #[Pt mb] w (Sm (Iv (fs.length:Nat)) w):=by
 have e:fs.length=m.hs.length:=by rw[<-h.hs,XT]
 rw[e];exact Go.Proofs.YtnphndlbfeagbaaGreat.Xr h.is
def JA (h:SatE K n Od room w0 mb fs nx w o m V)(q:Nat)(O:q<=1000000):
 Cl 17 #[Pt mb,Iv q] w (Sm (.bool (decide (fs.length=q+2))) w):=by
 have H:=Hd h.handles_any;have I:Hq ((((fs.length:Nat):Int) == (q:Int)+2)=decide (fs.length=q+2)):=by
  refine Hd ?_
  show(((fs.length:Nat):Int) == (q:Int)+2)=_
  by_cases e:fs.length=q+2
  . rw[XQ e,ZO];omega
  . rw[XW e,YR];omega
 clear h
 go_enter func17,ntmps17
 go_wp2_with fail;refine H.o.mono ?_;rintro x w' ⟨rfl,rfl⟩;go_wp2;go_ret;exact⟨by rw[<-I.o];rfl,rfl⟩
end
structure Tz (P:Nat->Prop)(w:Wd)(a:Option Addr)(us:List (List Bool)):Prop where
 len:us.length<=1000000
 cells:∀k,k<us.length->∃b off v,a=some (Aw b off)/\w.cell? (Aw b (off+k))=some v/\Ay w v (us.getD k [])/\∀g,v.ownBlock=some g->P g
structure LawR (P:Nat->Prop)(n:Nat)(fs:List (Int×BF))(w:Wd)(vl vx:Value)(hs:List (Int×BF)):Prop where
 sub:∀p∈hs,p∈fs
 small:hs.length<=1000
 l:∃a c,vl=.slice a hs.length c/\Aj w a (hs.map Prod.fst)
 x:∃a c,vx=.slice a hs.length c/\Tz P w a (hs.map λp=>tabB n p.2)
def T0 (n:Nat)(b:Bool):List.replicate (2^n) b=tabB n λ_=>b:=Tv (by simp) λi hi=>by simp[List.getD,hi]
structure LawL (W:Wd)(o:Own)(base:Nat)(vl:Value)(ks:List Int):Prop where
 own:OwnC 3 W base vl (Ar ks)
 no:∀k,vl.ownBlock=some k->o k=none
structure LawB (W:Wd)(o:Own)(base:Nat)(v:Value)(bs:List Bool):Prop where
 is:Ay W v bs
 no:∀k,v.ownBlock=some k->base<=k/\k<W.heap.size/\o k=none/\∃cur,W.heap[k]?=some (.cells cur 4 (0,0))
structure LawX (W:Wd)(o:Own)(base:Nat)(vx:Value)(us:List (List Bool)):Prop where
 ex:∃rs:List Value,rs.length=us.length/\OwnC 28 W base vx rs/\∀i v,rs[i]?=some v->LawB W o base v (us.getD i [])
 no:∀k,vx.ownBlock=some k->o k=none
section
variable {o:Own}{base:Nat}{us:List (List Bool)}
def LawL.chg (h:LawL W o base vl ks)(H:ChgX NoB o o' W W'):LawL W' o' base vl ks:=
 ⟨h.own.same λk hk=>H.block k (h.own.lt k hk).2 (h.no k hk) (λe=>e),λk hk=>H.none' (h.own.lt k hk).2 (h.no k hk)⟩
def LawB.chg (h:LawB W o base v bs)(H:ChgX NoB o o' W W'):LawB W' o' base v bs:=
 ⟨h.is.same λk hk=>H.block k (h.no k hk).2.1 (h.no k hk).2.2.1 (λe=>e),λk hk=>by
  obtain⟨h1,h2,h3,I,O⟩:=h.no k hk;exact⟨h1,X5 h2 H.size,H.none' h2 h3,I,(H.block k h2 h3 (λe=>e)).trans O⟩⟩
def LawX.chg (h:LawX W o base vx us)(H:ChgX NoB o o' W W'):LawX W' o' base vx us:=by
 obtain⟨rs,h1,h2,h3⟩:=h.ex;exact⟨⟨rs,h1,h2.same λk hk=>H.block k (h2.lt k hk).2 (h.no k hk) (λe=>e),λi v I=>(h3 i v I).chg H⟩,λk hk=>H.none' (h2.lt k hk).2 (h.no k hk)⟩
def Di (hb:Bw W W')(o:Own):ChgX NoB o o W W':=ChgX.of_below hb o NoB
def LawL.typ (h:LawL W o base vl ks)(I:Wr C W W')(O:T≠3)(U:∀k,C k->∃H,W.heap[k]?=some (.cells H T (0,0))):LawL W' o base vl ks:=
 ⟨h.own.same λk hk=>I.keep k (h.own.lt k hk).2 λe=>by
  obtain⟨c1,h1⟩:=U k e;obtain⟨c2,h2⟩:=h.own.typed k hk;rw[h1]at h2;cases h2;exact O rfl,h.no⟩
def LawB.typ (h:LawB W o base v bs)(O:Wr C W W')(X:T≠4)(Y:∀k,C k->∃H,W.heap[k]?=some (.cells H T (0,0))):LawB W' o base v bs:=by
 have hk:∀k,v.ownBlock=some k->W'.heap[k]?=W.heap[k]?:=λk hk=>by
  obtain⟨h1,h2,h3,H,I⟩:=h.no k hk;exact O.keep k h2 λe=>by
   obtain⟨c1,U⟩:=Y k e;rw[U]at I;cases I;exact X rfl
 exact⟨h.is.same hk,λk g0=>by
  obtain⟨h1,h2,h3,H,I⟩:=h.no k g0;exact⟨h1,X5 h2 O.size,h3,H,(hk k g0).trans I⟩⟩
def LawX.typ {C:Nat->Prop}(h:LawX W o base vx us)(U:Wr C W W'){T:TypeId}(a:T≠4)(H:T≠28)(X:∀k,C k->∃I,W.heap[k]?=some (.cells I T (0,0))):LawX W' o base vx us:=by
 obtain⟨rs,h1,h2,h3⟩:=h.ex
 exact⟨⟨rs,h1,h2.same λk hk=>U.keep k (h2.lt k hk).2 λe=>by
  obtain⟨c1,Y⟩:=X k e;obtain⟨c2,O⟩:=h2.typed k hk;rw[Y]at O;cases O;exact H rfl,λi v Z=>(h3 i v Z).typ U a X⟩,h.no⟩
def GH (h1:W'.os=W.os)(h2:W'.tape=W.tape)(h3:W'.output=W.output)(O:W.heap.size<=W'.heap.size)(hk:BG v v' W W'):Wr (λk=>v.ownBlock=some k) W W':=
 ⟨h1,h2,h3,O,λk H I=>hk.keep k H (λe=>I e.symm)⟩
def LawL.app {k:Int}(h:LawL W o base vl ks)(I:Ac o W)(O:OwnC 3 W' base v' (Ar ks++[Iv k]))(hk:BG vl v' W W'):LawL W' o base v' (ks++[k]):=by
 refine⟨by rw[show Ar (ks++[k])=Ar ks++[Iv k]by simp[Ar]];exact O,λq H=>?_⟩;rcases hk.loc with e|⟨g,e,U⟩
 . exact h.no q (by rw[<-e];exact H)
 . rw[e]at H;cases H;exact I.none U
def LawX.app (h:LawX W o base vx us)(U:Ac o W){rs:List Value}(H:rs.length=us.length)(I:∀i v,rs[i]?=some v->LawB W o base v (us.getD i []))(Y:Wr (λk=>vx.ownBlock=some k) W W')(Z:∀k,vx.ownBlock=some k->∃X,W.heap[k]?=some (.cells X 28 (0,0)))
 (hb:LawB W o base v bs) (a:OwnC 28 W' base v' (rs++[v])) (hk:BG vx v' W W'):LawX W' o base v' (us++[bs]):=by
 refine⟨⟨rs++[v],by simp[H],a,λi u hu=>?_⟩,λq O=>?_⟩
 ·rcases X9 i rs.length with hi|hi
  ·rw[XN hi]at hu;have e:(us++[bs]).getD i []=us.getD i []:=by simp[List.getD,XN (show i<us.length by omega)]
   rw[e];exact(I i u hu).typ Y (by decide) Z
  ·rw[Ya hi]at hu;have g0:i=rs.length:=by
    have:=(XI.1 hu).1;simp at this;omega
   subst g0;simp at hu;subst hu;have e:(us++[bs]).getD rs.length []=bs:=by rw[H];simp[List.getD]
   rw[e];exact hb.typ Y (by decide) Z
 ·rcases hk.loc with e|⟨g,e,b⟩
  . exact h.no q (by rw[<-e];exact O)
  . rw[e]at O;cases O;exact U.none b
def T1 {n:Nat}(h:OwnB W' W.heap.size v bs)(hl:bs.length<=1000000)(H:Ac o W)(hb:base<=W.heap.size):LawB W' o base v bs:=
 ⟨OwnC.boolsIs h hl,λk hk=>by
  have h1:=h.lt k hk;exact⟨by omega,h1.2,H.none h1.1,h.typed k hk⟩⟩
def T2 (hl:LawL W o base vl (hs.map Prod.fst))(hx:LawX W o base vx (hs.map λp=>tabB n p.2))(I:∀p∈hs,p∈fs)(X:hs.length<=1000):
 LawR (λg=>base<=g/\g<W.heap.size/\o g=none/\∃Y,W.heap[g]?=some (.cells Y 4 (0,0))) n fs W vl vx hs:=by
 obtain⟨rs,h1,h2,h3⟩:=hx.ex;obtain⟨c,cl,e1,_⟩:=hl.own.slice;obtain⟨b,a,e2,_⟩:=h2.slice;have U:(Ar (hs.map Prod.fst)).length=hs.length:=by simp[Ar]
 have Z:rs.length=hs.length:=by rw[h1];simp
 rw[U]at e1;rw[Z]at e2;refine⟨I,X,⟨c,cl,e1,⟨by simp;omega,λk hk=>?_⟩⟩,⟨b,a,e2,⟨by simp;omega,λk hk=>?_⟩⟩⟩
 ·obtain⟨g,cap,H,_⟩:=hl.own.shape (by rw[U];simp at hk;omega);rw[e1]at H;injection H with H
  subst H;have O:=hl.own;rw[e1]at O;refine⟨g,0,rfl,?_⟩;rw[XO,O.cell k (by rw[U];simpa using hk),Ar,Yq,getElem?_at0 hk];rfl
 ·obtain⟨g,cap,H,_⟩:=h2.shape (by rw[Z];simp at hk;omega);rw[e2]at H;injection H with H
  subst H;have O:=h2;rw[e2]at O;have g0:k<rs.length:=by rw[h1];exact hk
  have hb:=h3 k rs[k] (Xy g0);refine⟨g,0,rs[k],rfl,?_,hb.is,hb.no⟩;rw[XO,O.cell k g0,Xy g0]
end
def okI (z:Int):Prop:=-9223372036854775808<=z/\z<=9223372036854775807
inductive ExT where
 | nil
 | mk (op v:Int) (n:Nat) (kid:Nat->ExT)
def sumN:Nat->(Nat->Nat)->Nat
 | 0,_=>0
 | k+1,f=>sumN k f+f k
def MP {f:Nat->Nat}{j:Nat}:∀(k:Nat),j<k->f j<=sumN k f
 | 0,h=>by omega
 | k+1,h=>by
   unfold sumN
   by_cases e:j=k
   . subst e;omega
   . have:=MP (f:=f) k (show j<k by omega);omega
def ExT.size:ExT->Nat
 | .nil=>1
 | .mk _ _ n kid=>1+sumN n λi=>(kid i).size
def ExT.size_pos (e:ExT):1<=e.size:=by cases e<;>unfold ExT.size<;>omega
instance:Inhabited ExT:=⟨.nil⟩
def ExT.kid_size {v:Int}{kid:Nat->ExT}(h:i<n):(kid i).size<(ExT.mk op v n kid).size:=by
 have h1:(kid i).size<=sumN n λi=>(kid i).size:=MP (f:=λi=>(kid i).size) n h
 show(kid i).size<1+sumN n λi=>(kid i).size
 omega
def A6 (w:Wd):ExT->Value->Prop
 | .nil,_=>False
 | .mk op v n kid,x=>∃a c,x=.agg #[.int .i64 op,.int .i64 v,.slice a n c]/\okI op/\okI v/\n<=9223372036854775807 /\
  ∀k,k<n->∃b off O I H,a=some (Aw b off)/\w.cell? (Aw b (off+k*3))=some O/\w.cell? (Aw b (off+k*3+1))=some I/\w.cell? (Aw b (off+k*3+2))=some H/\A6 w (kid k) (.agg #[O,I,H])
def A6.below {w w':Wd}(hb:Bw w w'):∀(e:ExT) {x:Value},A6 w e x->A6 w' e x
 | .nil,_,h=>by unfold A6 at h;exact h.elim
 | .mk op v n kid,x,h=>by
   unfold A6 at h⊢;obtain⟨a,c,h1,h2,h3,X,U⟩:=h;refine⟨a,c,h1,h2,h3,X,λk hk=>?_⟩;obtain⟨b,off,O,I,H,rfl,Y,c1,c2,hx⟩:=U k hk;exact⟨b,off,O,I,H,rfl,(Cq hb Y),(Cq hb c1),(Cq hb c2),A6.below hb (kid k) hx⟩
def MQ:∀(e:ExT) (x:Value) (q:Nat) (w:Wd),q<=1000->A6 w e x ->
 Cl 34 #[x,Iv q] w λy w'=>(∃r:Nat,y=.returned (Iv r)/\1<=r/\r<=q+1/\(r<=q->r=e.size))/\Bw w w'
 | .nil,x,q,w,hq,h=>by unfold A6 at h;exact h.elim
 | .mk op v n kid,x,q,w,hq,h=>by
   unfold A6 at h;obtain⟨a,c,rfl,h2,h3,F,d⟩:=h;have H5:=Hd d;have HSZ:Hq ((ExT.mk op v n kid).size=1+sumN n λi=>(kid i).size):=Hd rfl;have IH:Hq (∀(i:Nat) (x:Value) (z:Int) (q:Nat) (W:Wd),z=(q:Int)->q<=1000->A6 W (kid i) x->Cl 34 #[x,Iv z] W λy w'=>(∃r:Nat,y=.returned (Iv r)/\1<=r/\r<=q+1/\(r<=q->r=(kid i).size))/\Bw W w'):=
    Hd λi x z q W l h1 h2=>by subst l;exact MQ (kid i) x q W h1 h2
   obtain⟨E,Z⟩:=Ex (ExT.mk op v n kid);rw[<-Z]at HSZ⊢;obtain⟨w1,O⟩:=Ex (w.alloc (.cells #[Iv op,Iv v,.slice a n c] 78));have HW1:Hq (_=w1):=Hd O.symm;have H:Hq (Bw w w1):=by rw[O];exact Hd (Ag _ _)
   have g6:w1.heap[w.heap.size]?=some (.cells #[Iv op,Iv v,.slice a n c] 78 (0,0)):=by rw[O];exact Xv _ _
   have hs1:w1.heap.size=w.heap.size+1:=by rw[O];simp
   have d2:w1.cell? (Aw w.heap.size 2)=some (.slice a n c):=by rw[Xw _ _ 2 _ _ _ g6];rfl
   clear d Z O g6 h2 h3
   go_enter func34,ntmps34
   go_upto_region 1 with fail;rw[HW1.o];go_wp2
   go_loopw [5,6] (λk U wr=>∃i r:Nat,i<=n/\1<=r/\i<r/\r<=q+1/\k=Iv r/\U=Iv i/\Bw w1 wr/\Hq (r<=q->r=1+sumN i λi=>(kid i).size)) (λ_ U _=>n-(intOf U).toNat)
   case atStart=>exact⟨0,1,by omega,by omega,by omega,by omega,rfl,rfl,X7 _ _,Hd λ_=>rfl⟩
   case round=>
    obtain⟨i,r,hi,g8,gf,g7,rfl,rfl,g5,j⟩:=hrel;have t:=Cq g5 d2;have g0:=Hd g5;clear g5
    by_cases s:i<n
    ·by_cases ge:r<=q
     ·obtain⟨b,off,C,B,A,rfl,g,c1,c2,hx⟩:=H5.o i s;have g4:=H.o.trans (g0.o.mono H.o.size);have e0:=Cq g4 g;have e1:=Cq g4 c1;have e2:=Cq g4 c2;have u:=Hd (hx.below g4);clear g c1 c2 hx g4;have g9:(i:Int)<n:=by omega
      go_wp2_with fail;refine(IH.o i _ _ (q-r) _ (by omega) (by omega) u.o).mono ?_;rintro y D ⟨⟨X,rfl,g1,g2,g3⟩,f⟩;have p:=Hd (g0.o.trans (f.mono g0.o.size));have gc:Hq (r+X<=q->r+X=1+sumN (i+1) λi=>(kid i).size):=Hd λhh=>by
       have e1:=j.o (by omega);have e2:=g3 (by omega)
       show _=1+(sumN i (λi=>(kid i).size)+(kid i).size)
       omega
      clear f g3 e0 e1 e2;go_wp2;go_roundw
      case rel=>exact⟨i+1,r+X,by omega,by omega,by omega,by omega,by go_num,by go_num,p.o,gc⟩
      case measure=>simp[intOf];omega
     ·have g9:(i:Int)<n:=by omega
      have Y:Hq ((∃I:Nat,Ending.returned (Iv (r:Nat))=.returned (Iv I)/\1<=I/\I<=q+1/\(I<=q->I=E.size))/\Bw w wr):=
       Hd ⟨⟨r,rfl,g8,g7,λhh=>by omega⟩,H.o.trans (g0.o.mono H.o.size)⟩
      go_wp2;go_ret;exact Y.o
    ·have m:i=n:=by omega
     have Y:Hq ((∃I:Nat,Ending.returned (Iv (r:Nat))=.returned (Iv I)/\1<=I/\I<=q+1/\(I<=q->I=E.size))/\Bw w wr):=
      Hd ⟨⟨r,rfl,g8,g7,λhh=>by rw[HSZ.o,j.o hh,m]⟩,H.o.trans (g0.o.mono H.o.size)⟩
     have g9:¬ (i:Int)<n:=by omega
     go_wp2;go_ret;exact Y.o
def E0 {f:Nat->Nat}{i:Nat}:∀{n:Nat},i<n->sumN i f+f i<=sumN n f
 | 0,h=>by omega
 | k+1,h=>by
   rcases X9 i k with H|H
   ·have:=E0 (f:=f) H
    show _<=sumN k f+f k
    omega
   ·obtain rfl:i=k:=by omega
    exact Xs _
def Bg (op:Int):Int×Int:=
 if op=1\/op=2\/op=3 then(0,0)else if op=4 then(1,1)else if op=5\/op=6\/op=7 then(0,64)else if op=8\/op=9 then(2,2)else if op=10 then(3,3)else(-1,-1)
def okT:ExT->Nat->Prop
 | .nil,_=>False
 | .mk op v n kid,deep=>deep<=64/\0<=(Bg op).1/\(op=3->0<=v/\v<64)/\(op≠3->v=0)/\(Bg op).1<=n/\(n:Int)<=(Bg op).2/\∀i,i<n->okT (kid i) (deep+1)
def GI:ExT->Prop
 | .nil=>False
 | .mk op v n kid=>0<=(Bg op).1/\(op=3->0<=v/\v<64)/\(op≠3->v=0)/\(Bg op).1<=n/\(n:Int)<=(Bg op).2/\∀i,i<n->GI (kid i)
def okT.valid:∀{e:ExT} {deep:Nat},okT e deep->GI e
 | .nil,_,h=>h.elim
 | .mk op v n kid,deep,h=>by
   obtain⟨_,h1,h2,h3,O,I,H⟩:=h;exact⟨h1,h2,h3,O,I,λi hi=>(H i hi).valid⟩
def T3 (op:Int)(w:Wd):Cl 122 #[Iv op] w (Sm (.tuple #[Iv (Bg op).1,Iv (Bg op).2]) w):=by
 obtain⟨p,H⟩:=Ex (Bg op);rw[<-H];unfold Bg at H;rcases(by omega:op=1\/op=2\/op=3\/op=4\/op=5\/op=6\/op=7\/op=8\/op=9\/op=10\/(op<1\/10<op))with rfl|rfl|rfl|rfl|rfl|rfl|rfl|rfl|rfl|rfl|h
 all_goals
  first
  | (simp at H
     subst H
     go_enter func122,ntmps122
     go_wp2
     go_ret2
     exact⟨rfl,rfl⟩)
  | (have h1: (op == 1)=false:= by simp; omega
     have h2:(op == 2)=false:=by simp;omega
     have h3:(op == 3)=false:=by simp;omega
     have Z:(op == 4)=false:=by simp;omega
     have Y:(op == 5)=false:=by simp;omega
     have X:(op == 6)=false:=by simp;omega
     have U:(op == 7)=false:=by simp;omega
     have O:(op == 8)=false:=by simp;omega
     have I:(op == 9)=false:=by simp;omega
     have g0:(op == 10)=false:=by simp;omega
     rw[Xu (by omega),Xu (by omega),Xu (by omega),Xu (by omega),Xu (by omega)]at H;subst H;clear h
     go_enter func122,ntmps122
     go_wp2
     go_ret2
     exact⟨rfl,rfl⟩)
def EX (e:ExT)(deep parts:Nat)(w:Wd)(y:Ending)(w':Wd):Prop:=∃err m:Int,y=.returned (.tuple #[Iv err,Iv m])/\okI m/\(err=0↔okT e deep)/\(err=0->m=(parts+e.size:Nat))/\Bw w w'
def MR:∀(e:ExT) (x:Value) (deep parts:Nat) (w:Wd),deep<=65->parts+e.size<=4096->A6 w e x ->
 Cl 80 #[x,Iv deep,Iv parts] w (EX e deep parts w)
 | .nil,x,deep,parts,w,hd,hp,h=>by unfold A6 at h;exact h.elim
 | .mk op v n kid,x,deep,parts,w,hd,hp,h=>by
   unfold A6 at h;obtain⟨a,c,rfl,h2,h3,h4,h5⟩:=h;have H5:=Hd h5;have HSZ:Hq ((ExT.mk op v n kid).size=1+sumN n λi=>(kid i).size):=Hd rfl;have HKS:Hq (∀i,i<n->(kid i).size<(ExT.mk op v n kid).size):=Hd λi hi=>ExT.kid_size hi
   have S:Hq (∀l hh:Int,l=(Bg op).1->hh=(Bg op).2->(okT (ExT.mk op v n kid) deep↔deep<=64/\0<=l/\(op=3->0<=v/\v<64)/\(op≠3->v=0)/\l<=n/\(n:Int)<=hh/\∀i,i<n->okT (kid i) (deep+1))):=by
    refine Hd ?_;rintro l hh rfl rfl;exact Iff.rfl
   have IH:Hq (∀(i:Nat) (x:Value) (C z2:Int) (deep parts:Nat) (W:Wd),C=(deep:Int)->z2=(parts:Int)->deep<=65->parts+(kid i).size<=4096->A6 W (kid i) x->Cl 80 #[x,Iv C,Iv z2] W (EX (kid i) deep parts W)):=
    Hd λi x C z2 deep parts W e1 e2 h1 h2 h3=>by subst e1;subst e2;exact MR (kid i) x deep parts W h1 h2 h3
   have HK:=Hd (λW=>T3 op W);obtain⟨E,V⟩:=Ex (ExT.mk op v n kid);have gB:1<=E.size:=E.size_pos;rw[<-V]at HSZ hp S HKS⊢;obtain⟨l,hl⟩:=Ex ((Bg op).1);obtain⟨hi,M⟩:=Ex ((Bg op).2);rw[<-hl,<-M]at HK;have g4:=Hd (S.o l hi hl M);obtain⟨w1,gk⟩:=Ex (w.alloc (.cells #[Iv op,Iv v,.slice a n c] 78));have HW1:Hq (_=w1):=Hd gk.symm;have g8:Hq (Bw w w1):=by rw[gk];exact Hd (Ag _ _)
   have B:w1.heap[w.heap.size]?=some (.cells #[Iv op,Iv v,.slice a n c] 78 (0,0)):=by rw[gk];exact Xv _ _
   have hs1:w1.heap.size=w.heap.size+1:=by rw[gk];simp
   have d0:w1.cell? (Av w.heap.size)=some (Iv op):=by rw[Xw _ _ 0 _ _ _ B];rfl
   have d1:w1.cell? (Aw w.heap.size 1)=some (Iv v):=by rw[Xw _ _ 1 _ _ _ B];rfl
   have d2:w1.cell? (Aw w.heap.size 2)=some (.slice a n c):=by rw[Xw _ _ 2 _ _ _ B];rfl
   have g0:Hq (∀(k m:Int) (W:Wd),k≠0->¬ okT E deep->okI m->Bw w1 W->EX E deep parts w (.returned (.tuple #[Iv k,Iv m])) W):=
    Hd λk m W hk gv U hb=>⟨k,m,rfl,U,⟨λe=>(hk e).elim,λe=>(gv e).elim⟩,λe=>(hk e).elim,g8.o.trans (hb.mono g8.o.size)⟩
   unfold okI at h2 h3;clear h5 V gk B S hl M
   go_enter func80,ntmps80
   go_upto_region 1 with fail;rw[HW1.o]
   by_cases gD:(deep:Int)>64
   ·go_wp2
    go_ret2
    exact g0.o 17 _ _ (by decide) (λh=>by have:=(g4.o.1 h).1;omega) (by unfold okI;omega) (X7 _ _)
   go_wp2_with fail;refine(HK.o _).mono ?_;rintro y w' ⟨rfl,rfl⟩
   by_cases gC:l<0
   ·go_wp2
    go_ret2
    exact g0.o 11 _ _ (by decide) (λh=>by have:=(g4.o.1 h).2.1;omega) (by unfold okI;omega) (X7 _ _)
   have gr:((op == 3)=true/\op=3)\/((op == 3)=false/\(op != 3)=true/\op≠3):=by
    by_cases e:op=3
    . exact .inl ⟨by simp[e],e⟩
    . exact .inr ⟨by simpa using e,by simpa using e,e⟩
   rcases gr with ⟨g1,g2⟩|⟨g1,g2,g3⟩
   ·subst g2
    by_cases Y:v<0
    ·go_wp2
     go_ret2
     exact g0.o 9 _ _ (by decide) (λh=>by have:=(g4.o.1 h).2.2.1 (by trivial);omega) (by unfold okI;omega) (X7 _ _)
    by_cases gt:v>=64
    ·go_wp2
     go_ret2
     exact g0.o 9 _ _ (by decide) (λh=>by have:=(g4.o.1 h).2.2.1 (by trivial);omega) (by unfold okI;omega) (X7 _ _)
    have T:Hq ((3:Int)=3->0<=v/\v<64):=Hd λ_=>⟨by omega,by omega⟩
    have L:Hq ((3:Int)≠3->v=0):=Hd λe=>(e rfl).elim
    go_upto_region 9 with fail
    by_cases gw:(n:Int)<l
    ·go_wp2
     go_ret2
     exact g0.o 3 _ _ (by decide) (λh=>by have:=(g4.o.1 h).2.2.2.2.1;omega) (by unfold okI;omega) (X7 _ _)
    by_cases gx:(n:Int)>hi
    ·go_wp2
     go_ret2
     exact g0.o 3 _ _ (by decide) (λh=>by have:=(g4.o.1 h).2.2.2.2.2.1;omega) (by unfold okI;omega) (X7 _ _)
    go_wp2
    go_loopw [2,10,11,12] (λO H G F wr=>∃i p:Nat,i<=n/\p<=4096/\O=Iv p/\H=Iv i/\Bw w1 wr/\Hq (p=parts+(1+sumN i λi=>(kid i).size))/\Hq (∀j,j<i->okT (kid j) (deep+1))) (λ_ H _ _ _=>n-(intOf H).toNat)
    case atStart=>exact⟨0,parts+1,by omega,by omega,by go_num,rfl,X7 _ _,Hd rfl,Hd λj q=>by omega⟩
    case round=>
     obtain⟨i,p,gz,gu,rfl,rfl,g9,HP,z⟩:=hrel;have Q:=Cq g9 d2;have g5:=Hd g9;clear g9
     by_cases X:i<n
     ·obtain⟨b,off,x0,x1,x2,rfl,A,c1,c2,hx⟩:=H5.o i X;have g7:=g8.o.trans (g5.o.mono g8.o.size);have e0:=Cq g7 A;have e1:=Cq g7 c1;have e2:=Cq g7 c2;have R:=Hd (hx.below g7);have gc:p+(kid i).size<=4096:=by
       have s1:(kid i).size+sumN i (λi=>(kid i).size)<=sumN n λi=>(kid i).size:=by
        have:=E0 (f:=λi=>(kid i).size) X;omega
       have O:=HP.o;have s3:=HSZ.o;omega
      have u:Hq (p+(kid i).size=parts+(1+sumN (i+1) λi=>(kid i).size)):=Hd (by
       have O:=HP.o
       show _=parts+(1+(sumN i (λi=>(kid i).size)+(kid i).size))
       omega)
      have go:(i:Int)<n:=by omega
      clear A c1 c2 hx g7;go_wp2_with fail;refine(IH.o i _ _ _ (deep+1) p _ (by go_num) rfl (by omega) gc R.o).mono ?_;rintro y D ⟨err,m,rfl,U,ge,t,s⟩;have r:=Hd (g5.o.trans (s.mono g5.o.size));have gf:=Hd t;have I:=Hd ge;clear s t ge e0 e1 e2;unfold okI at U
      by_cases g6:err=0
      ·subst g6;have g:=I.o.1 rfl;have d:=gf.o rfl;obtain⟨J,hp2⟩:=Ex (p+(kid i).size);have N:Hq (∀j,j<i+1->okT (kid j) (deep+1)):=Hd λj q=>by
        rcases X9 j i with h|h
        . exact z.o j h
        ·obtain rfl:j=i:=by omega
         exact g
       rw[<-hp2]at d gc u;subst d;clear hp2 g gf I;go_wp2;go_roundw
       case rel=>exact⟨i+1,J,by omega,by omega,rfl,by go_num,r.o,u,N⟩
       case measure=>simp[intOf];omega
      ·have gy:(err != 0)=true:=by simpa using g6
       have Z:=Hd (g0.o err m D g6 (λh=>g6 (I.o.2 ((g4.o.1 h).2.2.2.2.2.2 i X))) U r.o);clear g6 gf I;go_wp2
       go_ret2
       exact Z.o
     ·have K:i=n:=by omega
      have go:¬ (i:Int)<n:=by omega
      have Z:Hq (EX E deep parts w (.returned (.tuple #[Iv 0,Iv (p:Nat)])) wr):=Hd ⟨0,p,rfl,by unfold okI;omega,⟨λ_=>g4.o.2 ⟨by omega,by omega,T.o,L.o,by omega,by omega,λj q=>z.o j (by omega)⟩,λ_=>rfl⟩,λ_=>by rw[HP.o,HSZ.o,K],g8.o.trans (g5.o.mono g8.o.size)⟩;go_wp2
      go_ret2
      exact Z.o
   ·by_cases Y:v=0
    ·have gt:(v != 0)=false:=by simp[Y]
     have T:Hq (op=3->0<=v/\v<64):=Hd λe=>(g3 e).elim
     have L:Hq (op≠3->v=0):=Hd λ_=>Y
     clear Y g3;go_upto_region 9 with fail
     by_cases gw:(n:Int)<l
     ·go_wp2
      go_ret2
      exact g0.o 3 _ _ (by decide) (λh=>by have:=(g4.o.1 h).2.2.2.2.1;omega) (by unfold okI;omega) (X7 _ _)
     by_cases gx:(n:Int)>hi
     ·go_wp2
      go_ret2
      exact g0.o 3 _ _ (by decide) (λh=>by have:=(g4.o.1 h).2.2.2.2.2.1;omega) (by unfold okI;omega) (X7 _ _)
     go_wp2
     go_loopw [2,10,11,12] (λO H G F wr=>∃i p:Nat,i<=n/\p<=4096/\O=Iv p/\H=Iv i/\Bw w1 wr/\Hq (p=parts+(1+sumN i λi=>(kid i).size))/\Hq (∀j,j<i->okT (kid j) (deep+1))) (λ_ H _ _ _=>n-(intOf H).toNat)
     case atStart=>exact⟨0,parts+1,by omega,by omega,by go_num,rfl,X7 _ _,Hd rfl,Hd λj q=>by omega⟩
     case round=>
      obtain⟨i,p,gz,gu,rfl,rfl,g9,HP,z⟩:=hrel;have Q:=Cq g9 d2;have g5:=Hd g9;clear g9
      by_cases X:i<n
      ·obtain⟨b,off,x0,x1,x2,rfl,A,c1,c2,hx⟩:=H5.o i X;have g7:=g8.o.trans (g5.o.mono g8.o.size);have e0:=Cq g7 A;have e1:=Cq g7 c1;have e2:=Cq g7 c2;have R:=Hd (hx.below g7);have gc:p+(kid i).size<=4096:=by
        have s1:(kid i).size+sumN i (λi=>(kid i).size)<=sumN n λi=>(kid i).size:=by
         have:=E0 (f:=λi=>(kid i).size) X;omega
        have O:=HP.o;have s3:=HSZ.o;omega
       have u:Hq (p+(kid i).size=parts+(1+sumN (i+1) λi=>(kid i).size)):=Hd (by
        have O:=HP.o
        show _=parts+(1+(sumN i (λi=>(kid i).size)+(kid i).size))
        omega)
       have go:(i:Int)<n:=by omega
       clear A c1 c2 hx g7;go_wp2_with fail;refine(IH.o i _ _ _ (deep+1) p _ (by go_num) rfl (by omega) gc R.o).mono ?_;rintro y D ⟨err,m,rfl,U,ge,t,s⟩;have r:=Hd (g5.o.trans (s.mono g5.o.size));have gf:=Hd t;have I:=Hd ge;clear s t ge e0 e1 e2;unfold okI at U
       by_cases g6:err=0
       ·subst g6;have g:=I.o.1 rfl;have d:=gf.o rfl;obtain⟨J,hp2⟩:=Ex (p+(kid i).size);have N:Hq (∀j,j<i+1->okT (kid j) (deep+1)):=Hd λj q=>by
         rcases X9 j i with h|h
         . exact z.o j h
         ·obtain rfl:j=i:=by omega
          exact g
        rw[<-hp2]at d gc u;subst d;clear hp2 g gf I;go_wp2;go_roundw
        case rel=>exact⟨i+1,J,by omega,by omega,rfl,by go_num,r.o,u,N⟩
        case measure=>simp[intOf];omega
       ·have gy:(err != 0)=true:=by simpa using g6
        have Z:=Hd (g0.o err m D g6 (λh=>g6 (I.o.2 ((g4.o.1 h).2.2.2.2.2.2 i X))) U r.o);clear g6 gf I;go_wp2
        go_ret2
        exact Z.o
      ·have K:i=n:=by omega
       have go:¬ (i:Int)<n:=by omega
       have Z:Hq (EX E deep parts w (.returned (.tuple #[Iv 0,Iv (p:Nat)])) wr):=Hd ⟨0,p,rfl,by unfold okI;omega,⟨λ_=>g4.o.2 ⟨by omega,by omega,T.o,L.o,by omega,by omega,λj q=>z.o j (by omega)⟩,λ_=>rfl⟩,λ_=>by rw[HP.o,HSZ.o,K],g8.o.trans (g5.o.mono g8.o.size)⟩;go_wp2
       go_ret2
       exact Z.o
    ·have gt:(v != 0)=true:=by simpa using Y
     have gA:Hq (¬ okT E deep):=Hd λh=>Y ((g4.o.1 h).2.2.2.1 g3)
     clear Y g3;go_wp2
     go_ret2
     exact g0.o 9 _ _ (by decide) gA.o (by unfold okI;omega) (X7 _ _)
def JB (e:ExT)(x:Value)(w:Wd)(hs:e.size<=4096)(h:A6 w e x):
 Cl 35 #[x] w λy w'=>∃err:Int,y=.returned (Iv err)/\(err=0↔okT e 1)/\Bw w w':=by
 have Y:Hq (∀W,Bw w W->∀u,u=x->Cl 80 #[u,Iv 1,Iv 0] W (EX e 1 0 W)):=Hd λW hb u hu=>by subst hu;exact MR e _ 1 0 W (by omega) (by omega) (h.below hb)
 obtain⟨O,I,H,hx⟩:∃O I H,x=.agg #[O,I,H]:=by
  cases e with
  | nil=>unfold A6 at h;exact h.elim
  | mk op v n kid=>
    unfold A6 at h;obtain⟨a,c,rfl,_⟩:=h;exact⟨_,_,_,rfl⟩
 subst hx;obtain⟨w1,g1⟩:=Ex (w.alloc (.cells #[O,I,H] 78));have HW1:Hq (_=w1):=Hd g1.symm;have g2:Hq (Bw w w1):=by rw[g1];exact Hd (Ag _ _)
 have g0:w1.heap[w.heap.size]?=some (.cells #[O,I,H] 78 (0,0)):=by rw[g1];exact Xv _ _
 have d0:w1.cell? (Av w.heap.size)=some O:=by rw[Xw _ _ 0 _ _ _ g0];rfl
 have d1:w1.cell? (Aw w.heap.size 1)=some I:=by rw[Xw _ _ 1 _ _ _ g0];rfl
 have d2:w1.cell? (Aw w.heap.size 2)=some H:=by rw[Xw _ _ 2 _ _ _ g0];rfl
 have g3:O.cells=#[O]/\I.cells=#[I]/\H.cells=#[H]:=by
  cases e with
  | nil=>unfold A6 at h;exact h.elim
  | mk op v n kid=>
    unfold A6 at h;obtain⟨a,c,h1,_⟩:=h;cases h1;exact⟨rfl,rfl,rfl⟩
 obtain⟨o0,o1,o2⟩:=g3;clear h g1 g0
 go_enter func35,ntmps35
 go_upto_region 1 with fail;rw[HW1.o];go_wp2_with fail;refine(Y.o _ g2.o _ rfl).mono ?_;rintro y w2 ⟨err,m,rfl,Z,U,_,hb⟩;have X:Hq (∃err':Int,Ending.returned (Iv err)=.returned (Iv err')/\(err'=0↔okT e 1)/\Bw w w2):=Hd ⟨err,rfl,U,g2.o.trans (hb.mono g2.o.size)⟩;clear U hb;go_wp2;go_ret;exact X.o
def Cd:Nat->(Nat->List Int)->List Int
 | 0,_=>[]
 | k+1,f=>Cd k f++f k
def AP:ExT->List Int
 | .nil=>[]
 | .mk op v n kid=>(if op=3 then [v]else [])++Cd n λi=>AP (kid i)
def GJ {f:Nat->List Int}{g:Nat->Nat}:∀(n:Nat),(∀i,i<n->(f i).length<=g i)->(Cd n f).length<=sumN n g
 | 0,_=>Xs _
 | k+1,h=>by
   show(Cd k f++f k).length<=sumN k g+g k
   rw[X4];have:=GJ (f:=f) (g:=g) k (λi hi=>h i (by omega));have:=h k (by omega);omega
def EY:∀e:ExT,(AP e).length<=e.size
 | .nil=>by simp[AP]
 | .mk op v n kid=>by
   show((if op=3 then [v]else [])++Cd n λi=>AP (kid i)).length<=1+sumN n λi=>(kid i).size
   rw[X4];have h1:=GJ (f:=λi=>AP (kid i)) (g:=λi=>(kid i).size) n (λi _=>EY (kid i));have h2:(if op=3 then [v]else []:List Int).length<=1:=by split<;>simp
   omega
def MS:∀(e:ExT) (x:Value) (w:Wd),e.size<=4096->A6 w e x ->
 Cl 82 #[x] w λy w'=>∃u,y=.returned u/\OwnI w' w.heap.size u (AP e)/\Bw w w'
 | .nil,x,w,hp,h=>by unfold A6 at h;exact h.elim
 | .mk op v n kid,x,w,hp,h=>by
   unfold A6 at h;obtain⟨a,c,rfl,h2,h3,h4,C⟩:=h;have H5:=Hd C;have HSZ:Hq ((ExT.mk op v n kid).size=1+sumN n λi=>(kid i).size):=Hd rfl;have HKS:Hq (∀i,i<n->(kid i).size<(ExT.mk op v n kid).size):=Hd λi hi=>ExT.kid_size hi
   have U:Hq (AP (ExT.mk op v n kid)=(if op=3 then [v]else [])++Cd n λi=>AP (kid i)):=Hd rfl;have IH:Hq (∀(i:Nat) (x:Value) (W:Wd),(kid i).size<=4096->A6 W (kid i) x->Cl 82 #[x] W λy w'=>∃u,y=.returned u/\OwnI w' W.heap.size u (AP (kid i))/\Bw W w'):=
    Hd λi x W h1 h2=>MS (kid i) x W h1 h2
   obtain⟨E,B⟩:=Ex (ExT.mk op v n kid);rw[<-B]at HSZ hp U HKS⊢;obtain⟨w1,I⟩:=Ex (w.alloc (.cells #[Iv op,Iv v,.slice a n c] 78));have HW1:Hq (_=w1):=Hd I.symm;have H:Hq (Bw w w1):=by rw[I];exact Hd (Ag _ _)
   have g9:w1.heap[w.heap.size]?=some (.cells #[Iv op,Iv v,.slice a n c] 78 (0,0)):=by rw[I];exact Xv _ _
   have hs1:w1.heap.size=w.heap.size+1:=by rw[I];simp
   have d0:w1.cell? (Av w.heap.size)=some (Iv op):=by rw[Xw _ _ 0 _ _ _ g9];rfl
   have d1:w1.cell? (Aw w.heap.size 1)=some (Iv v):=by rw[Xw _ _ 1 _ _ _ g9];rfl
   have d2:w1.cell? (Aw w.heap.size 2)=some (.slice a n c):=by rw[Xw _ _ 2 _ _ _ g9];rfl
   unfold okI at h2 h3;obtain⟨w2,l⟩:=Ex (w1.alloc (.cells #[] 3));have S:Hq (_=w2):=Hd l.symm;have HB2:Hq (Bw w1 w2):=by rw[l];exact Hd (Ag _ _)
   have F:Hq (OwnI w2 w1.heap.size (.slice (some (Av (w.heap.size+1))) 0 0) []):=by rw[l,<-hs1];exact Hd (Ga _ _ (Xs _))
   clear C B I l g9
   go_enter func82,ntmps82
   go_upto_region 1 with fail;rw[HW1.o];go_upto_region 2 with fail;obtain⟨Z,X⟩:=Ex (if op=3 then [v]else []:List Int)
   have G:=Hd X;have D:Hq (Z.length<=1):=Hd (by rw[X];split<;>simp);rw[S.o];have gk:w1.heap.size<=w2.heap.size:=HB2.o.size;have d0':=Cq HB2.o d0;have d1':=Cq HB2.o d1
   by_cases h3:op=3
   ·rw[Xx h3]at X;subst h3;clear h2;go_wp2_with (at_builtin;refine D7 _ rfl _ _ rfl w1.heap.size w1 _ [] _ rfl rfl rfl rfl (by exact F.o) (by simp) gk HB2.o ?_;intro v3 A gj g7 V _)
    go_loopw [3,4] (λY O wr=>∃i:Nat,i<=n/\O=Iv i/\Bw w1 wr/\OwnI wr w1.heap.size Y (Z++Cd i λi=>AP (kid i))/\w1.heap.size<=wr.heap.size) (λ_ O _=>n-(intOf O).toNat)
    case atStart=>exact⟨0,X0 _,rfl,g7,by rw[X];simpa [Cd]using gj,V⟩
    case round=>
     obtain⟨i,T,rfl,g2,g5,gm⟩:=hrel;have r:=Cq g2 d2;have g0:=Hd g2;have d:=Hd g5;clear g2 g5
     by_cases g6:i<n
     ·obtain⟨b,off,L,K,J,rfl,k,c1,c2,hx⟩:=H5.o i g6;have g1:=H.o.trans (g0.o.mono H.o.size);have e0:=Cq g1 k;have e1:=Cq g1 c1;have e2:=Cq g1 c2;have s:=Hd (hx.below g1);have q:(i:Int)<n:=by omega
      have go:=HKS.o i g6
      have gc:Hq ((Z++Cd i λi=>AP (kid i)).length+(AP (kid i)).length<=4096):=Hd (by
       have R:=E0 (f:=λi=>(kid i).size) g6;have Q:=HSZ.o;have Y:=GJ (f:=λi=>AP (kid i)) (g:=λi=>(kid i).size) i (λi _=>EY (kid i));have O:=EY (kid i);have N:=D.o;rw[X4];omega)
      clear k c1 c2 hx g1;go_upto_region 7 with fail
      go_wp2_with (first
       | (go_at_call 82;refine(IH.o i _ _ (by omega) s.o).mono ?_;rintro y A ⟨u,rfl,hu,g7⟩;obtain⟨au,cu,rfl,j,ge⟩:=hu.sliceIs (by have:=gc.o;omega);have t:=Hd j;have g8:=Hd g7;clear hu j g7)
       | (at_builtin;refine Ix rfl _ _ rfl w1.heap.size w1 _ (Z++Cd i λi=>AP (kid i)) (AP (kid i)) au cu rfl rfl (by exact d.o.below g8.o) (by exact t.o) (by have:=gc.o;omega) (by have:=g8.o.size;omega) (by exact g0.o.trans (g8.o.mono g0.o.size)) ge ?_;intro v4 M g4 p gf _))
      go_roundw
      case rel=>exact⟨i+1,by omega,by go_num,p,by rw[XF]at g4;exact g4,gf⟩
      case measure=>simp[intOf];omega
     ·have m:i=n:=by omega
      have q:¬ (i:Int)<n:=by omega
      have z:Hq (∃u,Ending.returned u3=.returned u/\OwnI wr w.heap.size u (AP E)/\Bw w wr):=Hd ⟨u3,rfl,by rw[U.o,<-G.o,<-m];exact d.o.lower (by omega),H.o.trans (g0.o.mono H.o.size)⟩;go_wp2;go_ret;exact z.o
   ·rw[Xu h3]at X;have g3:(op == 3)=false:=by simpa using h3
    clear h3;go_wp2
    go_loopw [3,4] (λY O wr=>∃i:Nat,i<=n/\O=Iv i/\Bw w1 wr/\OwnI wr w1.heap.size Y (Z++Cd i λi=>AP (kid i))/\w1.heap.size<=wr.heap.size) (λ_ O _=>n-(intOf O).toNat)
    case atStart=>exact⟨0,X0 _,rfl,HB2.o,by rw[X];simpa [Cd]using F.o,gk⟩
    case round=>
     obtain⟨i,T,rfl,g2,g5,gm⟩:=hrel;have r:=Cq g2 d2;have g0:=Hd g2;have d:=Hd g5;clear g2 g5
     by_cases g6:i<n
     ·obtain⟨b,off,L,K,J,rfl,k,c1,c2,hx⟩:=H5.o i g6;have g1:=H.o.trans (g0.o.mono H.o.size);have e0:=Cq g1 k;have e1:=Cq g1 c1;have e2:=Cq g1 c2;have s:=Hd (hx.below g1);have q:(i:Int)<n:=by omega
      have go:=HKS.o i g6
      have gc:Hq ((Z++Cd i λi=>AP (kid i)).length+(AP (kid i)).length<=4096):=Hd (by
       have R:=E0 (f:=λi=>(kid i).size) g6;have Q:=HSZ.o;have Y:=GJ (f:=λi=>AP (kid i)) (g:=λi=>(kid i).size) i (λi _=>EY (kid i));have O:=EY (kid i);have N:=D.o;rw[X4];omega)
      clear k c1 c2 hx g1;go_upto_region 7 with fail
      go_wp2_with (first
       | (go_at_call 82;refine(IH.o i _ _ (by omega) s.o).mono ?_;rintro y A ⟨u,rfl,hu,g7⟩;obtain⟨au,cu,rfl,j,ge⟩:=hu.sliceIs (by have:=gc.o;omega);have t:=Hd j;have g8:=Hd g7;clear hu j g7)
       | (at_builtin;refine Ix rfl _ _ rfl w1.heap.size w1 _ (Z++Cd i λi=>AP (kid i)) (AP (kid i)) au cu rfl rfl (by exact d.o.below g8.o) (by exact t.o) (by have:=gc.o;omega) (by have:=g8.o.size;omega) (by exact g0.o.trans (g8.o.mono g0.o.size)) ge ?_;intro v4 M g4 p gf _))
      go_roundw
      case rel=>exact⟨i+1,by omega,by go_num,p,by rw[XF]at g4;exact g4,gf⟩
      case measure=>simp[intOf];omega
     ·have m:i=n:=by omega
      have q:¬ (i:Int)<n:=by omega
      have z:Hq (∃u,Ending.returned u3=.returned u/\OwnI wr w.heap.size u (AP E)/\Bw w wr):=Hd ⟨u3,rfl,by rw[U.o,<-G.o,<-m];exact d.o.lower (by omega),H.o.trans (g0.o.mono H.o.size)⟩;go_wp2;go_ret;exact z.o
def T4 (a:Option Addr)(c:Nat)(zs:List Int)(v:Int)(w:Wd)(hl:zs.length<=1000000)(h:Aj w a zs):
 Cl 123 #[.slice a zs.length c,Iv v] w (Sm (.bool (decide (v∈zs))) w):=by
 have f:=Hd h;clear h;have g4:Hq ((∀j,j<zs.length->at0 zs j≠v)->decide (v∈zs)=false):=Hd λhh=>XW λY=>by
  obtain⟨j,H,e⟩:=Yn Y;exact hh j H (by rw[A8 H];exact e)
 have g2:Hq (∀j,j<zs.length->at0 zs j=v->decide (v∈zs)=true):=Hd λj H e=>XQ (by rw[A8 H]at e;rw[<-e];exact XM H)
 go_enter func123,ntmps123
 go_wp2
 go_loopw [5] (λU wr=>∃i:Nat,i<=zs.length/\U=Iv i/\w=wr/\Hq (∀j,j<i->at0 zs j≠v)) (λU _=>zs.length-(intOf U).toNat)
 case atStart=>exact⟨0,X0 _,rfl,rfl,Hd λj H=>by omega⟩
 case round=>
  obtain⟨i,hi,rfl,rfl,X⟩:=hrel
  by_cases g1:i<zs.length
  ·obtain⟨b,off,rfl,Z⟩:=f.o.cells i g1;have g3:(i:Int)<zs.length:=by omega
   obtain⟨z,I⟩:=Ex (at0 zs i);rw[<-I]at Z
   by_cases O:z=v
   . have d:=Hd (g2.o i g1 (by rw[<-I,O]));subst O;clear I;go_wp2;go_ret;exact⟨by rw[d.o];rfl,rfl⟩
   ·have g5:(z == v)=false:=by simpa using O
    have g0:Hq (∀j,j<i+1->at0 zs j≠v):=Hd λj H=>by
     rcases X9 j i with h|h
     . exact X.o j h
     ·obtain rfl:j=i:=by omega
      rw[<-I];exact O
    clear I O;go_wp2;go_roundw
    case rel=>exact⟨i+1,by omega,by go_num,by simp,g0⟩
    case measure=>simp[intOf];omega
  ·have g0:=Hd (g4.o λj H=>X.o j (by omega));have g3:¬ (i:Int)<zs.length:=by omega
   go_wp2;go_ret;exact⟨by rw[g0.o];rfl,rfl⟩
structure PutS (zs:List Int)(v:Int)(i:Nat)(d:Bool)(os:List Int):Prop where
 mem:∀x,x∈os↔x∈zs.take i\/(d=true/\x=v)
 len:os.length=i+if d then 1 else 0
 srt:os.Pairwise (· < ·)
 low:d=false->∀x∈os,x<v
 up:d=true->∀x∈os,∀y∈zs.drop i,x<y
def MT {os:List Int}{z:Int}(h:os.Pairwise (· < ·))(H:∀x∈os,x<z):(os++[z]).Pairwise (· < ·):=
 List.pairwise_append.2 ⟨h,List.pairwise_singleton ..,λx hx y I=>by rw[XB.1 I];exact H x hx⟩
def MU (hs:zs.Pairwise (· < ·))(hi:i<zs.length):(∀y∈zs.drop i,at0 zs i<=y)/\(∀y∈zs.drop (i+1),at0 zs i<y)/\(∀x∈zs.take i,x<at0 zs i):=by
 have e:zs.drop i=at0 zs i::zs.drop (i+1):=by rw[A8 hi];exact(Yc hi)
 have H:(zs.drop i).Pairwise (· < ·):=hs.sublist (List.drop_sublist ..);rw[e,List.pairwise_cons]at H;have h2:=hs;rw[<-YV i zs,List.pairwise_append]at h2;refine⟨λy I=>?_,H.1,λx hx=>h2.2.2 x hx _ (by rw[e];exact XX ..)⟩;rw[e]at I;rcases Yy.1 I with h|h
 . omega
 . have:=H.1 y h;omega
def PutS.here {v:Int}{os:List Int}(h:PutS zs v i false os)(hu:∀y∈zs.drop i,v<y):PutS zs v i true (os++[v]):=by
 refine⟨λx=>?_,by simp[h.len],MT h.srt (h.low rfl),by simp,λ_ x hx y H=>?_⟩
 . have:=h.mem x;simp only[ZF,false_and,or_false]at this;simp[this]
 ·rcases XD.1 hx with h1|h1
  . have:=h.low rfl x h1;have:=hu y H;omega
  . rw[XB.1 h1];exact hu y H
def PutS.next {v:Int}{d:Bool}{os:List Int}(h:PutS zs v i d os)(hs:zs.Pairwise (· < ·))(hi:i<zs.length)(U:d=false->at0 zs i<v):PutS zs v (i+1) d (os++[at0 zs i]):=by
 obtain⟨X,I,H⟩:=MU hs hi;have g0:∀x∈os,x<at0 zs i:=λx hx=>by
  cases d with
  | true=>exact h.up rfl x hx _ (by rw[Yc hi,A8 hi];exact XX ..)
  | false=>
    rcases(h.mem x).1 hx with h1|⟨h1,_⟩
    . exact H x h1
    . cases h1
 refine⟨λx=>?_,by have:=h.len;simp[this];omega,MT h.srt g0,λe x hx=>?_,λe x hx y O=>?_⟩
 ·rw[XA hi,XD,XD,h.mem x,A8 hi];simp only[XB];constructor
  ·rintro((h1|h1)|h1)
   . exact .inl (.inl h1)
   . exact .inr h1
   . exact .inl (.inr h1)
  ·rintro((h1|h1)|h1)
   . exact .inl (.inl h1)
   . exact .inr h1
   . exact .inl (.inr h1)
 ·rcases XD.1 hx with h1|h1
  . exact h.low e x h1
  . rw[XB.1 h1];exact U e
 ·have g1:=I y O;rcases XD.1 hx with h1|h1
  . have:=g0 x h1;omega
  . rw[XB.1 h1];exact g1
def T5 (a:Option Addr)(c:Nat)(zs:List Int)(v:Int)(w:Wd)(hl:zs.length<=1000000)(h:Aj w a zs)(I:zs.Pairwise (· < ·))(O:v∉zs):
 Cl 124 #[.slice a zs.length c,Iv v] w λy w'=>∃u os,y=.returned u/\OwnI w' w.heap.size u os/\((∀x,x∈os↔x∈zs\/x=v)/\os.Pairwise (· < ·))/\os.length=zs.length+1/\Bw w w':=by
 have j:=Hd h;have g9:=Hd I;have t:Hq (∀i,i<zs.length->at0 zs i≠v):=Hd λi hi e=>O (by rw[<-e,A8 hi];exact XM hi)
 clear h I O;have m:Hq (∀os,PutS zs v zs.length true os->((∀x,x∈os↔x∈zs\/x=v)/\os.Pairwise (· < ·))/\os.length=zs.length+1):=Hd λos h=>⟨⟨λx=>by have:=h.mem x;rw[XP]at this;simpa using this,h.srt⟩,by simpa using h.len⟩
 go_enter func124,ntmps124
 go_wp2
 go_loopw [5,6,7] (λq n X wr=>∃(i:Nat) (d:Bool) (os:List Int),i<=zs.length/\n=.bool d/\X=Iv i/\OwnI wr w.heap.size q os/\w.heap.size<=wr.heap.size/\Bw w wr/\Hq (PutS zs v i d os)) (λ_ _ X _=>zs.length-(intOf X).toNat)
 case atStart=>exact⟨0,false,[],X0 _,rfl,rfl,Ga w _ (Xs _),by simp,Ag w _,Hd ⟨λx=>by simp,by simp,List.Pairwise.nil,by simp,by simp⟩⟩
 case round=>
  obtain⟨i,d,os,hi,rfl,rfl,g7,g8,g5,HP⟩:=hrel;have F:os.length<=i+1:=by rw[HP.o.len];split<;>omega
  by_cases g4:i<zs.length
  ·obtain⟨b,off,rfl,Z⟩:=(j.o.below g5).cells i g4;have g6:=Hd g7;have g3:=Hd g5;have gf:(i:Int)<zs.length:=by omega
   obtain⟨z,Y⟩:=Ex (at0 zs i);rw[<-Y]at Z;have H:=Hd Y;clear g7 g5 Y;cases d with
   | true=>
     go_wp2_with (at_builtin;refine D7 _ rfl _ _ rfl w.heap.size w _ os _ rfl rfl rfl rfl (by exact g6.o) (by omega) g8 g3.o ?_;intro v1 w1 g1 g0 g2 _);go_roundw
     case rel=>exact⟨i+1,true,_,by omega,rfl,by go_num,g1,g2,g0,Hd (by rw[H.o];exact HP.o.next g9.o g4 (by simp))⟩
     case measure=>simp[intOf];omega
   | false=>
     by_cases gk:z>v
     ·have f:∀W:Wd,Bw wr W->W.cell? (Aw b (off+i))=some (Iv z):=λW hb=>(Cq hb Z)
      have ge:b<w.heap.size:=by
       obtain⟨D,o',e,g⟩:=j.o.cells i g4;cases e;exact Ad g
      go_upto_region 8 with (at_builtin;refine D7 _ rfl _ _ rfl w.heap.size w _ os _ rfl rfl rfl rfl (by exact g6.o) (by omega) g8 g3.o ?_;intro v1 w1 g1 g0 g2 _)
      have E:w1.cell? (Aw b (off+i))=some (Iv z):=by
       obtain⟨D,o',e,g⟩:=j.o.cells i g4;cases e;rw[(g0.cell (p:=(Aw b (off+i))) ge),H.o];exact g
      have A:=Hd g1;have s:=Hd g0;clear g1 g0 Z f;go_wp2_with (at_builtin;refine D7 _ rfl _ _ rfl w.heap.size w _ (os++[v]) _ rfl rfl rfl rfl (by exact A.o) (by simp;omega) g2 s.o ?_;intro v2 w2 C gc B _);go_roundw
      case rel=>exact⟨i+1,true,_,by omega,rfl,by go_num,C,B,gc,Hd (by rw[H.o];exact(HP.o.here λy r=>by have:=(MU g9.o g4).1 y r;have:=H.o;omega).next g9.o g4 (by simp))⟩
      case measure=>simp[intOf];omega
     ·go_wp2_with (at_builtin;refine D7 _ rfl _ _ rfl w.heap.size w _ os _ rfl rfl rfl rfl (by exact g6.o) (by omega) g8 g3.o ?_;intro v1 w1 g1 g0 g2 _);go_roundw
      case rel=>exact⟨i+1,false,_,by omega,rfl,by go_num,g1,g2,g0,Hd (by rw[H.o];exact HP.o.next g9.o g4 λ_=>by have:=t.o i g4;have:=H.o;omega)⟩
      case measure=>simp[intOf];omega
  ·have l:i=zs.length:=by omega
   have gf:¬ (i:Int)<zs.length:=by omega
   have g6:=Hd g7;have g3:=Hd g5;have k:=Hd l;clear g7 g5 l;cases d with
   | true=>
     have U:=m.o os (by rw[<-k.o];exact HP.o);go_wp2;go_ret;exact⟨_,rfl,os,g6.o,U.1,U.2,g3.o⟩
   | false=>
     have U:=Hd (m.o (os++[v]) (by rw[<-k.o];exact HP.o.here (by rw[k.o];simp)));go_wp2_with (at_builtin;refine D7 _ rfl _ _ rfl w.heap.size w _ os _ rfl rfl rfl rfl (by exact g6.o) (by omega) g8 g3.o ?_;intro v1 w1 g1 g0 g2 _);go_ret;exact⟨_,rfl,_,g1,U.o.1,U.o.2,g0⟩
def MV (hi:i<zs.length)(x:Int):x∈zs.take (i+1)↔x∈zs.take i\/x=at0 zs i:=by
 rw[XA hi,XD,A8 hi,XB]
def T6 (a:Option Addr)(c:Nat)(zs:List Int)(w:Wd)(hl:zs.length<=900000)(h:Aj w a zs):
 Cl 81 #[.slice a zs.length c] w λy w'=>∃u os,y=.returned u/\OwnI w' w.heap.size u os/\((∀x,x∈os↔x∈zs)/\os.Pairwise (· < ·))/\os.length<=zs.length/\Bw w w':=by
 have p:=Hd h;clear h
 go_enter func81,ntmps81
 go_wp2
 go_loopw [3,4] (λj O wr=>∃(i:Nat) (os:List Int),i<=zs.length/\O=Iv i/\OwnI wr w.heap.size j os/\w.heap.size<=wr.heap.size/\Bw w wr/\os.length<=i/\Hq ((∀x,x∈os↔x∈zs.take i)/\os.Pairwise (· < ·))) (λ_ O _=>zs.length-(intOf O).toNat)
 case atStart=>exact⟨0,[],X0 _,rfl,Ga w _ (Xs _),by simp,Ag w _,by simp,Hd ⟨λx=>by simp,List.Pairwise.nil⟩⟩
 case round=>
  obtain⟨i,os,hi,rfl,g0,g6,g1,q,HP⟩:=hrel
  by_cases gc:i<zs.length
  ·obtain⟨b,off,rfl,k⟩:=(p.o.below g1).cells i gc;have gf:(i:Int)<zs.length:=by omega
   obtain⟨z,U⟩:=Ex (at0 zs i);rw[<-U]at k;obtain⟨e,d,rfl,g8,r⟩:=g0.sliceIs (by omega);have g4:=Hd (T4 e d os z wr (by omega) g8);have g3:Hq (z∉os->_):=Hd λh=>T5 e d os z wr (by omega) g8 HP.o.2 h
   have Y:=Hd g0;have g5:=Hd g1;have g:=Hd (MV gc);have f:=Hd U;clear g0 g1 U g8
   by_cases I:z∈os
   ·have hb:decide (z∈os)=true:=by simp[I]
    rw[hb]at g4
    have X:Hq ((∀x,x∈os↔x∈zs.take (i+1))/\os.Pairwise (· < ·)):=Hd ⟨λx=>by
     rw[g.o x,<-f.o];constructor
     . intro h;exact .inl ((HP.o.1 x).1 h)
     ·rintro(h|rfl)
      . exact(HP.o.1 x).2 h
      . exact I,HP.o.2⟩
    clear I hb g3;go_wp2_with fail;refine g4.o.mono ?_;rintro y w' ⟨rfl,rfl⟩;go_wp2;go_roundw
    case rel=>exact⟨i+1,os,by omega,by go_num,Y.o,g6,g5.o,by omega,X⟩
    case measure=>simp[intOf];omega
   ·have hb:decide (z∈os)=false:=by simp[I]
    rw[hb]at g4;have g3:=Hd (g3.o I);clear I hb;go_wp2_with fail;refine g4.o.mono ?_;rintro y w' ⟨rfl,rfl⟩;go_wp2_with fail;refine g3.o.mono ?_;rintro y w2 ⟨u,H,rfl,g7,g2,s,g9⟩
    have X:Hq ((∀x,x∈H↔x∈zs.take (i+1))/\H.Pairwise (· < ·)):=Hd ⟨λx=>by
     rw[g2.1 x,g.o x,<-f.o,HP.o.1 x],g2.2⟩
    have l:Hq (OwnI w2 w.heap.size u H):=Hd (g7.lower g6);have HB2:=Hd (g5.o.trans (g9.mono g6));have ge:w.heap.size<=w2.heap.size:=Xz g6 g9.size;clear g7 g2 g9;go_wp2;go_roundw
    case rel=>exact⟨i+1,H,by omega,by go_num,l.o,ge,HB2.o,by omega,X⟩
    case measure=>simp[intOf];omega
  ·have Z:i=zs.length:=by omega
   have gf:¬ (i:Int)<zs.length:=by omega
   have Y:=Hd g0;have g5:=Hd g1;have n:Hq ((∀x,x∈os↔x∈zs)/\os.Pairwise (· < ·)):=Hd ⟨λx=>by have:=HP.o.1 x;rw[Z,XP]at this;exact this,HP.o.2⟩;have m:os.length<=zs.length:=by omega
   clear g0 g1 Z;go_wp2;go_ret;exact⟨_,rfl,os,Y.o,n.o,m,g5.o⟩
def A6.agg {w:Wd}{e:ExT}{x:Value}(h:A6 w e x):∃O I H,x=.agg #[O,I,H]/\O.cells=#[O]/\I.cells=#[I]/\H.cells=#[H]:=by
 cases e with
 | nil=>unfold A6 at h;exact h.elim
 | mk op v n kid=>
   unfold A6 at h;obtain⟨a,c,rfl,_⟩:=h;exact⟨_,_,_,rfl,rfl,rfl,rfl⟩
def T7 (e:ExT)(x:Value)(w:Wd)(hs:e.size<=4096)(h:A6 w e x):
 Cl 36 #[x] w λy w'=>∃u os,y=.returned u/\SliceIs w' u os/\os.length<=4096/\(okT e 1->(∀v,v∈os↔v∈AP e)/\os.Pairwise (· < ·))/\Bw w w':=by
 have g:Hq (∀W,Bw w W->∀u,u=x->Cl 35 #[u] W λy w'=>∃err:Int,y=.returned (Iv err)/\(err=0↔okT e 1)/\Bw W w'):=Hd λW hb u hu=>by subst hu;exact JB e _ W hs (h.below hb)
 have d:Hq (∀W,Bw w W->∀u,u=x->Cl 82 #[u] W λy w'=>∃u,y=.returned u/\OwnI w' W.heap.size u (AP e)/\Bw W w'):=Hd λW hb u hu=>by subst hu;exact MS e _ W hs (h.below hb)
 have i:=EY e;obtain⟨U,O,I,hx,o0,o1,o2⟩:=h.agg;subst hx;obtain⟨w1,g2⟩:=Ex (w.alloc (.cells #[U,O,I] 78));have HW1:Hq (_=w1):=Hd g2.symm;have g6:Hq (Bw w w1):=by rw[g2];exact Hd (Ag _ _)
 have g0:w1.heap[w.heap.size]?=some (.cells #[U,O,I] 78 (0,0)):=by rw[g2];exact Xv _ _
 have d0:w1.cell? (Av w.heap.size)=some U:=by rw[Xw _ _ 0 _ _ _ g0];rfl
 have d1:w1.cell? (Aw w.heap.size 1)=some O:=by rw[Xw _ _ 1 _ _ _ g0];rfl
 have d2:w1.cell? (Aw w.heap.size 2)=some I:=by rw[Xw _ _ 2 _ _ _ g0];rfl
 clear h g2 g0
 go_enter func36,ntmps36
 go_upto_region 1 with fail;rw[HW1.o];go_wp2_with fail;refine(g.o _ g6.o _ rfl).mono ?_;rintro y w2 ⟨err,rfl,g5,g1⟩;have HB2:=Hd (g6.o.trans (g1.mono g6.o.size));have gc:=Hd g5;have e0:=Cq g1 d0;have e1:=Cq g1 d1;have e2:=Cq g1 d2;clear g1 g5 d0 d1 d2
 by_cases H:err=0
 . subst H;go_wp2_with fail;refine(d.o _ HB2.o _ rfl).mono ?_;rintro y b ⟨u,rfl,hu,g9⟩;obtain⟨au,cu,rfl,g7,ge⟩:=hu.sliceIs (by omega);have f:=Hd (T6 au cu (AP e) b (by omega) g7);have a:=Hd (HB2.o.trans (g9.mono HB2.o.size));clear hu g7 g9 e0 e1 e2;go_wp2_with fail;refine f.o.mono ?_;rintro y Y ⟨Z,os,rfl,g3,g4,c,g8⟩;have X:Hq (∃u os,Ending.returned Z=.returned u/\SliceIs Y u os/\os.length<=4096/\(okT e 1->(∀v,v∈os↔v∈AP e)/\os.Pairwise (· < ·))/\Bw w Y):=Hd ⟨Z,os,rfl,g3.sliceIs (by omega),by omega,λ_=>g4,a.o.trans (g8.mono a.o.size)⟩;clear g3 g4 c g8;go_wp2;go_ret;exact X.o
 ·have gf:(err != 0)=true:=by simpa using H
  have X:Hq (∃u os,Ending.returned (.slice none 0 0)=.returned u/\SliceIs w2 u os/\os.length<=4096/\(okT e 1->(∀v,v∈os↔v∈AP e)/\os.Pairwise (· < ·))/\Bw w w2):=Hd ⟨_,[],rfl,KB w2,by simp,λh=>(H (gc.o.2 h)).elim,HB2.o⟩;clear H e0 e1 e2;go_wp2;go_ret;exact X.o
def T8 (e:ExT)(x:Value)(w:Wd)(hs:e.size<=4096)(h:A6 w e x):
 Cl 36 #[x] w λy w'=>∃u os,y=.returned u/\SliceIs w' u os/\os.length<=4096/\(okT e 1->∀v∈AP e,v∈os)/\Bw w w':=
 (T7 e x w hs h).mono λ_ _ ⟨u,os,h1,h2,h3,O,I⟩=>⟨u,os,h1,h2,h3,λhk v H=>((O hk).1 v).2 H,I⟩
structure EvsAt (w:Wd)(a:Option Addr)(l:List Ev):Prop where
 len:l.length<=9223372036854775807
 cells:∀k,∀hk:k<l.length,∃b off,a=some (Aw b off)/\w.cell? (Aw b (off+k*3))=some (Iv l[k].after)/\w.cell? (Aw b (off+k*3+1))=some (Iv l[k].kind)/\w.cell? (Aw b (off+k*3+2))=some (Iv l[k].level)
def EvsAt.below {a:Option Addr}{l:List Ev}(h:EvsAt w a l)(hb:Bw w w'):EvsAt w' a l:=
 ⟨h.len,λk hk=>by
  obtain⟨b,off,e,H,c1,c2⟩:=h.cells k hk;exact⟨b,off,e,(Cq hb H),(Cq hb c1),(Cq hb c2)⟩⟩
def Dj (vars:Int)(e:Ev):Int:=if e.kind<1\/e.kind>3 then 11 else if e.after<1\/(e.kind=2/\(e.level<0\/e.level>vars-2))then 2 else 0
def Dk (vars:Int):List Ev->Int
 | []=>0
 | e::r=>if Dj vars e=0 then Dk vars r else Dj vars e
def Bj (vars waits:Int)(l:List Ev):Int:=if(l.length:Int)>256-waits then 18 else Dk vars l
def GK {vars:Int}{l:List Ev}(hi:i<l.length):Dk vars (l.drop i)=if Dj vars l[i]=0 then Dk vars (l.drop (i+1))else Dj vars l[i]:=by
 rw[Yc hi];rfl
abbrev aW:=@List.drop_length
def T9 (vars waits:Int)(n:0<=vars/\vars<=1000)(m:0<=waits/\waits<=1000)(a:Option Addr)(c:Nat)(l:List Ev)(w:Wd)(h:EvsAt w a l):
 Cl 33 #[Iv vars,Iv waits,.slice a l.length c] w (Sm (Iv (Bj vars waits l)) w):=by
 have k:=Hd h;have hl:=h.len;clear h
 by_cases g1:(l.length:Int)>256-waits
 ·have U:Hq (Bj vars waits l=18):=Hd (by unfold Bj;rw[Xx g1])
  go_enter func33,ntmps33
  go_wp2;go_ret;exact⟨by rw[U.o];rfl,rfl⟩
 have U:Hq (Bj vars waits l=Dk vars (l.drop 0)):=Hd (by unfold Bj;rw[Xu g1];rfl);obtain⟨P,f⟩:=Ex (Bj vars waits l);rw[<-f]at U⊢;clear f
 go_enter func33,ntmps33
 go_wp2
 go_loopw [7] (λX wr=>∃i:Nat,i<=l.length/\X=Iv i/\w=wr/\Hq (P=Dk vars (l.drop i))) (λX _=>l.length-(intOf X).toNat)
 case atStart=>exact⟨0,X0 _,rfl,rfl,U⟩
 case round=>
  clear U;obtain⟨i,hi,rfl,rfl,HP⟩:=hrel
  by_cases g2:i<l.length
  ·obtain⟨b,off,rfl,g,c1,c2⟩:=k.o.cells i g2;have g8:(i:Int)<l.length:=by omega
   have O:Hq (∀z:Int,Dj vars l[i]=z->z≠0->P=z):=Hd λz Y h0=>by rw[HP.o,GK g2,Y,Xu h0]
   have d:Hq (Dj vars l[i]=0->P=Dk vars (l.drop (i+1))):=Hd λY=>by rw[HP.o,GK g2,Y,Xx rfl]
   have H:Hq (Dj vars l[i]=if l[i].kind<1\/l[i].kind>3 then 11 else if l[i].after<1\/(l[i].kind=2/\(l[i].level<0\/l[i].level>vars-2))then 2 else 0):=Hd rfl;obtain⟨ev,g3⟩:=Ex (l[i]);rw[<-g3]at g c1 c2 O d H;obtain⟨j,I,le⟩:=ev;dsimp only at g c1 c2 H;clear g3 HP;have g6:I<1\/I>3\/(I=2)\/(I=1\/I=3):=by omega
   rcases g6 with hk|hk|hk|hk
   . have g0:=Hd (O.o 11 (by rw[H.o,Xx (.inl hk)]) (by decide));go_wp2;go_ret;exact⟨by rw[g0.o];rfl,rfl⟩
   ·have g0:=Hd (O.o 11 (by rw[H.o,Xx (.inr hk)]) (by decide));have g7:¬ I<1:=by omega
    go_wp2;go_ret;exact⟨by rw[g0.o];rfl,rfl⟩
   ·by_cases Z:j<1
    . have g0:=Hd (O.o 2 (by rw[H.o,Xu (by omega),Xx (.inl Z)]) (by decide));subst hk;go_wp2;go_ret;exact⟨by rw[g0.o];rfl,rfl⟩
    ·by_cases g5:le<0
     . have g0:=Hd (O.o 2 (by rw[H.o,Xu (by omega),Xx (.inr ⟨hk,.inl g5⟩)]) (by decide));subst hk;go_wp2;go_ret;exact⟨by rw[g0.o];rfl,rfl⟩
     ·by_cases g4:le>vars-2
      . have g0:=Hd (O.o 2 (by rw[H.o,Xu (by omega),Xx (.inr ⟨hk,.inr g4⟩)]) (by decide));subst hk;go_wp2;go_ret;exact⟨by rw[g0.o];rfl,rfl⟩
      ·have g0:=Hd (d.o (by rw[H.o,Xu (by omega),Xu (by omega)]));subst hk;go_wp2;go_roundw
       case rel=>exact⟨i+1,by omega,by go_num,by simp,g0⟩
       case measure=>simp[intOf];omega
   ·have g7:¬ I<1:=by omega
    have p:¬ I>3:=by omega
    have g9:(I == 2)=false:=by simp;omega
    by_cases Z:j<1
    . have g0:=Hd (O.o 2 (by rw[H.o,Xu (by omega),Xx (.inl Z)]) (by decide));clear hk;go_wp2;go_ret;exact⟨by rw[g0.o];rfl,rfl⟩
    ·have g0:=Hd (d.o (by rw[H.o,Xu (by omega),Xu (by omega)]));clear hk;go_wp2;go_roundw
     case rel=>exact⟨i+1,by omega,by go_num,by simp,g0⟩
     case measure=>simp[intOf];omega
  ·have e:i=l.length:=by omega
   have g8:¬ (i:Int)<l.length:=by omega
   have g0:Hq (P=0):=Hd (by rw[HP.o,e,aW];rfl);clear e;go_wp2;go_ret;exact⟨by rw[g0.o];rfl,rfl⟩
def cntP (zs:List Int)(v:Int)(i:Nat):Nat:=((zs.take i).filter (λz=>decide (z=v))).length
def E3 {v:Int}(hi:i<zs.length)(h:at0 zs i=v):cntP zs v (i+1)=cntP zs v i+1:=by
 rw[A8 hi]at h;unfold cntP;rw[XA hi,Yi];simp[h]
def JC {v:Int}(hi:i<zs.length)(h:at0 zs i≠v):cntP zs v (i+1)=cntP zs v i:=by
 rw[A8 hi]at h;unfold cntP;rw[XA hi,Yi];simp[h]
def TA (zs:List Int)(v:Int)(i:Nat):cntP zs v i<=i:=by
 unfold cntP;refine Xz (Yj _ _) ?_;rw[YB];omega
def BW (zs:List Int)(n:Int):Bool:=decide ((zs.length:Int)=n/\∀v,v<zs.length->cntP zs (v:Nat) zs.length=1)
abbrev Zw:=@Bool.eq_iff_iff
def TB (a:Option Addr)(c:Nat)(zs:List Int)(n:Int)(w:Wd)(Z:Aj w a zs)(hl:zs.length<=1000000):
 Cl 32 #[.slice a zs.length c,Iv n] w (Sm (.bool (BW zs n)) w):=by
 have l:=Hd Z;clear Z
 by_cases X:(zs.length:Int)=n
 ·subst X;have I:Hq (∀b:Bool,(b=true↔∀v,v<zs.length->cntP zs (v:Nat) zs.length=1)->BW zs zs.length=b):=by
   refine Hd λb hb=>?_
   unfold BW;rw[Zw,hb];simp
  go_enter func32,ntmps32
  go_wp2
  go_loopw [5] (λU wr=>∃k:Nat,k<=zs.length/\U=Iv k/\w=wr/\∀v,v<k->cntP zs (v:Nat) zs.length=1) (λU _=>zs.length-(intOf U).toNat)
  case atStart=>exact⟨0,X0 _,rfl,rfl,λv h=>by omega⟩
  case round=>
   obtain⟨k,hk,rfl,rfl,g2⟩:=hrel;have f:=Hd g2;clear g2
   by_cases g3:k<zs.length
   ·have g4:(k:Int)<zs.length:=by omega
    go_wp2
    go_loopw [6,7] (λg O wx=>∃i:Nat,i<=zs.length/\O=Iv i/\g=Iv (cntP zs (k:Nat) i:Nat)/\w=wx) (λ_ O _=>zs.length-(intOf O).toNat)
    case atStart=>exact⟨0,X0 _,rfl,rfl,rfl⟩
    case round=>
     obtain⟨i,hi,rfl,rfl,rfl⟩:=hrel;have g6:=TA zs (k:Nat) i
     by_cases g1:i<zs.length
     ·obtain⟨b,off,j,d⟩:=l.o.cells i g1;subst j;have g5:(i:Int)<zs.length:=by omega
      by_cases H:at0 zs i=(k:Nat)
      ·rw[H]at d;have Y:=Hd (E3 g1 H);go_wp2;go_roundw
       case rel=>exact⟨i+1,by omega,by go_num,by rw[Y.o];go_num,trivial⟩
       case measure=>simp[intOf];omega
      ·have g0:((at0 zs i:Int) == (k:Nat))=false:=by simpa using H
       have Y:=Hd (JC g1 H)
       generalize at0 zs i=z at d g0
       clear H;go_wp2;go_roundw
       case rel=>exact⟨i+1,by omega,by go_num,by rw[Y.o],trivial⟩
       case measure=>simp[intOf];omega
     ·obtain rfl:i=zs.length:=by omega
      generalize hq:cntP zs (k:Nat) zs.length=q at *
      by_cases h1:q=1
      ·subst h1;have HQ:=Hd hq;clear hq;go_wp2;go_roundw
       case rel=>
        refine⟨k+1,by omega,by go_num,trivial,λv h=>?_⟩
        by_cases e:v=k
        . subst e;exact HQ.o
        . exact f.o v (by omega)
       case measure=>simp[intOf];omega
      ·have g0:((q:Int) == 1)=false:=by simp;omega
       have HQ:=Hd hq;clear hq;go_wp2;go_ret;refine⟨?_,rfl⟩
       rw[I.o false (by
        simp only[ZF,false_iff];intro hh;exact h1 ((HQ.o).symm.trans (hh k g3)))]
       rfl
   ·obtain rfl:k=zs.length:=by omega
    go_wp2;go_ret;refine⟨?_,rfl⟩;rw[I.o true (by simp only[true_iff];exact f.o)];rfl
 ·have g0:(((zs.length:Nat):Int) == n)=false:=by simpa using X
  have I:Hq (BW zs n=false):=by
   refine Hd ?_
   show BW zs n=false
   unfold BW;simp[X]
  go_enter func32,ntmps32
  go_wp2;go_ret;exact⟨by rw[I.o];rfl,rfl⟩
end Go.Proofs.YtnphndlbfeagbaaGreat
