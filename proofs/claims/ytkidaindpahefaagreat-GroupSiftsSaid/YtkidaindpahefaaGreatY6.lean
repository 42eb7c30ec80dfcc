/- Several texts in one file: contracts of the program's functions and what follows from them. -/
import Derived.Test.YtkidaindpahefaaGreatY5
import Derived.Shelf.Slices.Reverse
import Derived.Ground.Names2Prog
import Derived.Shelf.Slices.Cells
import Derived.Shelf.Slices.Empties
import Derived.Deep.CutBlock
set_option linter.unusedSimpArgs false
set_option linter.unusedVariables false
set_option linter.unusedSectionVars false
set_option linter.unnecessarySimpa false
set_option maxRecDepth 100000
set_option maxHeartbeats 8000000
namespace Go.Proofs.YtkidaindpahefaaGreat
open Go.Proofs.Tryz
open Go.RowKit
variable {K:Law}{Od:List Nat->Prop}{Q:Exit->Act->Wd->Prop}{R:Role->Prop}{V V':Nat->BF}{W W' w w' w0 w1 wr:Wd}{a:Act}{b:BN}{base c g j k mb n room sb x:Nat}{d d' d0:Ae}{fs:List (Int×BF)}{m m':ManD}{nx:Int}{o' o1:Own}{ops:Array Oper}{rest:List Oper}{s:BL}{ts:List TN}{v:Value}{zs:List Int}
theorem Sh {ids:List Nat}(hn:ids.Nodup)(ht:∀ i∈ids,d.pool.tk i=true)(hlt:∀ i,d.pool.tk i=true->i<d.pool.at_.length)(hc:(d.pool.many:Int)=Ag d.pool.at_.length (fun i=>if d.pool.tk i=true then 1 else 0)):ids.length<=d.pool.many:=by
 have key:∀ (l:List Nat),l.Nodup->(∀ i∈l,d.pool.tk i=true)->∀ kk,(∀ i∈l,i<kk)->(l.length:Int)<=Ag kk (fun i=>if d.pool.tk i=true then 1 else 0):=by
  intro l hl g0 kk
  induction kk generalizing l with
  | zero =>
    intro h;cases l with
    | nil=>simp[Ag]
    | cons a l=>have:=h a (by simp);omega
  | succ kk ih =>
    intro h
    show (l.length:Int)<=Ag kk (fun i=>if d.pool.tk i=true then 1 else 0)+(if d.pool.tk kk=true then 1 else 0)
    by_cases hm:kk∈l
    ·have h1:=ih (l.erase kk) (hl.erase kk) (fun i hi=>g0 i (List.mem_of_mem_erase hi)) (fun i hi=>by
      have h2:=h i (List.mem_of_mem_erase hi);have h3:i≠kk:=fun e=>by subst e;exact(List.Nodup.not_mem_erase hl) hi
      omega)
     rw[List.length_erase_of_mem hm] at h1;have g1:0<l.length:=XD hm;have:=g0 kk hm;simp only[this,Ws];omega
    ·have h1:=ih l hl g0 (fun i hi=>by
      have h2:=h i hi;have h3:i≠kk:=fun e=>by subst e;exact hm hi
      omega)
     have:(0:Int)<=if d.pool.tk kk=true then 1 else 0:=by split<;>omega
     omega
 have:=key ids hn ht d.pool.at_.length (fun i hi=>hlt i (ht i hi));omega
theorem Si (ts:List TN):(ts.flatMap B8).length=2*ts.length:=by
 induction ts with
 | nil=>rfl
 | cons a l ih=>simp[WO,B8,ih];omega
structure CutI (d0:Ae)(k x:Nat)(ids:List Nat)(sb:Nat)(s:BL)(o1:Own)(w1:Wd)(base:Nat)(v:Value)(ts:List TN)(j:Nat)(W:Wd)(o:Own)(d:Ae):Prop where
 st:Ao o W sb d s
 lt:Ab o W
 cut:CutS d0 k x (fun i=>i∈ids.take j) d
 row:TRow W base v ts
 no:0<ts.length->∀ g,v.ownBlock=some g->o g=none
 chg:Chg Al o1 o w1 W
theorem CutI.move {ids:List Nat}{o:Own}(h:CutI d0 k x ids sb s o1 w1 base v ts j W o d)(st:Ao o' W' sb d' s)(hc:Chg R o o' W W')(hR:∀ r,R r->Al r)(lt:Ab o' W'){j':Nat}(cut:CutS d0 k x (fun i=>i∈ids.take j') d') :
 CutI d0 k x ids sb s o1 w1 base v ts j' W' o' d' :=
 ⟨st,lt,cut,h.row.chg hc h.no,fun hp g hg=>hc.alien' (h.row.blk hp g hg).2 (h.no hp g hg),h.chg.trans (hc.mono hR)⟩
theorem CutS.congr {g g':Nat->Prop}(h:CutS d0 k x g d)(e:∀ i,g i↔g' i):CutS d0 k x g' d:=by
 have e':g=g':=funext fun i=>propext (e i)
 rw[<- e'];exact h
abbrev XI:=@Nat.succ_le_of_lt
theorem Sj {o:Own}(st:A2 o w sb d)(hlt:Ab o w)(hk:Ak d V)(k:Nat)(hk1:k+1<d.vars.length)(htop:∀ i,Aj d i<=549755813888) :
 Cl 160 #[Pt sb,Iv k] w fun q w'=>∃ o' d0,AJ d d0/\Ab o' w'/\Chg Al o o' w w' /\
  ((q=.returned (Iv 7)/\A2 o' w' sb d0/\d0.pool.room<3*d0.pool.many)\/(q=.returned (Iv 0)/\∃ d' V',A2 o' w' sb d'/\Fg d0 V k d' V')):=by
 obtain⟨P,hP⟩:∃ P:Ending->Wd->Prop,P=fun q w'=>∃ o' d0,AJ d d0/\Ab o' w'/\Chg Al o o' w w' /\
  ((q=.returned (Iv 7)/\A2 o' w' sb d0/\d0.pool.room<3*d0.pool.many)\/(q=.returned (Iv 0)/\∃ d' V',A2 o' w' sb d'/\Fg d0 V k d' V')):=⟨_,rfl⟩
 rw[<- hP];have kA:=Hd hP;clear hP;obtain⟨s0,h0⟩:=id st;obtain⟨c0,c1,c2,c3,c4,f0⟩:=cells5 h0.blk;obtain⟨l0,l1,_⟩:=cells2 h0.lev;obtain⟨gv,cv,gB,gS,_⟩:=h0.vars.shape (by omega);rw[gB] at l0;have HB:=hk.small;have kk:=Hd (LP st hlt hk);have HK:=Hd hk;have H2:¬ ((k:Int)>=(d.vars.length:Int)-1):=by omega
 have kL:=Hd htop;clear h0 gB st hlt hk gS htop c1 c2 c3 c4 f0 l1
 go_enter func160,ntmps160
 go_wp2_with fail;refine kk.o.mono ?_;rintro q w1 ⟨rfl,o1,d0,⟨s,h1⟩,hf,gG,kw⟩;have gR:=gG.ok HK.o;obtain⟨x,hx⟩:=Ex (d0.vars.getD k 0);obtain⟨y,hy⟩:=Ex (d0.vars.getD (k+1) 0);have kq:d0.vars.length=d.vars.length:=by rw[gG.vars]
 have FR:SwF d0 V k x y:=⟨⟨by omega,hx.symm,hy.symm⟩,gR,h1.len,fun i=>by
  cases hi:Aa d0 i with
  | none=>rw[Ej hi];omega
  | some b=>rw[gG.ext i b hi];exact kL.o i⟩
 have gi:=FR.facts.1;have H3:=FR.facts.2.1;obtain⟨c0,c1,c2,c3,c4,f0⟩:=cells5 h1.blk;obtain⟨l0,l1,_⟩:=cells2 h1.lev;obtain⟨gv,cv,gB,gS,_⟩:=h1.vars.shape (by omega);have r1:=h1.vars;rw[gB] at r1 l0;have a0:=r1.cell k (by simp;omega);have a1:=r1.cell (k+1) (by simp;omega);rw[E1 (by omega),<- hx] at a0;rw[E1 (by omega),<- hy] at a1;have Ha:(k:Int)<d0.vars.length:=by omega
 have H9:(k:Int)+1<d0.vars.length:=by omega
 have km:=Hd (RW ⟨s,h1.below hf (An w1 1)⟩ (hf.mono (An w1 1).size) gR x y gi);have g1:=Hd FR;have H1:=Hd h1;have ki:=Hd hf;have kg:=Hd gG;have kG:=Hd kw;have Hy:d0.vars.length<=64:=by omega
 have HH:=Hd kq;have H6:IntKind.i64.wrap ((k:Int)+1)=((k+1:Nat):Int):=by rw[Wq _ (by omega)];rfl
 clear h1 hf gG kw gR gB gS r1 hx hy FR kk kq H2;go_upto_region 6 with fail;refine AD (fun W:Wd=>W.cell? (Av sb)=some (Pt s.lb)/\W.cell? (Av s.lb)=some (.slice (some (Av gv)) d0.vars.length cv)/\W.cell? (Aw gv k)=some (Iv (x:Nat))/\W.cell? (Aw gv (k+1))=some (Iv (y:Nat))) false 23 [(0,false),(1,false),(2,false),(3,false),(4,false),(5,false),(6,false),(7,false),(8,false),(9,false),(10,false),(11,false),(12,false),(13,false),(14,false),(15,false),(16,false),(17,false),(18,false),(19,false),(20,false),(21,false),(22,false)] (by kernel_rfl) (by kernel_rfl) ⟨c0,l0,a0,a1⟩ ?_;simp only[planned,AC]
 iterate 23
  refine As rfl ?_;apply Exists.intro;refine⟨fun w' hw=>?_,?_⟩
  . obtain⟨h1,h2,h3,h4⟩:=hw;go_simp;rfl
  simp only[Ac]
 refine Bs ?_;go_wp2_with fail;refine km.o.mono ?_;rintro q w2 ⟨v,ids,rfl,hS,gU,gr,gp⟩;obtain⟨ts,h5⟩:=Ex (ids.map (tnOf d0 y));rw[<- h5] at gr;have gm:Bw w1 w2:=⟨gp.os,gp.tape,gp.output,gp.size,fun q hq=>gp.block q hq⟩;have h2:=H1.o.below ki.o gm;have gK:=ki.o.mono gm.size;have hB:Hq (∀ i∈ids,∃ b,IS d0 V x y i b):=Hd fun i hi=>Se g1.o H1.o ((gU i).1 hi)
 have k9:∀ t∈ts,t.ll<eMax/\t.lh<eMax/\t.hl<eMax/\t.hh<eMax:=by
  intro t ht;rw[h5] at ht;obtain⟨i,hi,rfl⟩:=Vz.1 ht;obtain⟨b,tb⟩:=hB.o i hi;have q1:=H1.o.edge_lt tb.val.f1.1;have q2:=H1.o.edge_lt tb.val.f2.1;have q3:=H1.o.edge_lt tb.val.f3.1;have q4:=H1.o.edge_lt tb.val.f4.1;unfold eMax;omega
 have hv:=Hd (RJ h2 gK x gi gr k9);have kd:=Hd fun W (hb:Bw w2 W)=>Sf ⟨s,h2.below gK hb⟩
 have Hr:=Hd fun W (hb:Bw w2 W)=>Sg ⟨s,h2.below gK hb⟩
 have HE:=H1.o.pool.many;have HC:=H1.o.pool.top;have HD:=H1.o.pool.room
 have Hu:Hq (ids.length<=d0.pool.many):=Hd (Sh hS (fun i hi=>by
  obtain⟨b,tb⟩:=hB.o i hi;exact(BM tb.node).1) (fun i hi=>(H1.o.pool.tk_lt hi).2) H1.o.pool.cnt)
 have kF:=Hd h2;have hG:=Hd gK;have HB2:=Hd gm;have gy:=Hd gr;have gX:=Hd gU;have kC:=Hd hS;have hA:=Hd h5;have HG:w1.heap.size<=w2.heap.size:=gm.size;clear gp gm h2 gK gr gU hS k9 c0 c1 c2 c3 c4 f0 l0 l1 a0 a1 Ha H9 H6 h5;go_wp2_with fail;refine hv.o.mono ?_;rintro q w3 ⟨Wt,rfl,hM,ho⟩;have gM:=Hd hM;have go:=Hd ho;have H7:Wt.length<=2*ts.length:=by have:=hM.len;rw[Si] at this;exact this
 have h6:ts.length=ids.length:=by rw[hA.o,Vw]
 have He:=Hu.o;have kM:=Hd (kd.o w3 ho);have kS:=Hd (Hr.o w3 ho);clear hM ho hv;go_wp2_with fail;refine kM.o.mono ?_;rintro q w' ⟨rfl,rfl⟩;go_wp2_with fail;refine kS.o.mono ?_;rintro q w' ⟨rfl,rfl⟩
 by_cases Hz:(Wt.length:Int)>(d0.pool.room:Int)-(d0.pool.many:Int)
 ·have HF:Hq (P (.returned (Iv 7)) w3):=by
   rw[kA.o];exact Hd ⟨o1,d0,kg.o,hG.o.mono go.o.size,kG.o.trans ((Chg.of_below HB2.o _ _).trans (Chg.of_below go.o _ _)),.inl ⟨rfl,⟨s,kF.o.below hG.o go.o⟩,by omega⟩⟩
  clear h6;go_wp2_with fail;exact HF.o
 have kj:Hq (d0.pool.many+Wt.length<=d0.pool.room):=Hd (by omega);have h3:=kF.o.below hG.o go.o;have ku:=hG.o.mono go.o.size;obtain⟨c0,c1,c2,c3,c4,f0⟩:=cells5 h3.blk;have hC:=Hd (R7 h3 k (by have:=g1.o.v.k1;exact this) g1.o.ok.small (by rw[h3.len];rw[g1.o.v.x];exact gi) (by rw[h3.len];rw[g1.o.v.y];exact H3));have HO:=Hd h3;have Ht:=Hd ku;clear h3 ku;go_wp2_with fail;refine hC.o.mono ?_;rintro q w4 ⟨rfl,h4,hn⟩;have h7:=(gy.o.below go.o);have gT:0<ts.length->∀ g,v.ownBlock=some g->o1 g=none:=fun hp g hg=>ki.o.none (gy.o.blk hp g hg).1
 have Hv:Hq (CutI d0 k x ids sb s o1 w1 w1.heap.size v ts 0 w4 o1 (Be d0 k)):=Hd ⟨h4,Ht.o.mono hn.size,(CutS.start d0 k x).congr (fun i=>by simp),h7.chg hn gT,gT,(Chg.of_below HB2.o _ _).trans ((Chg.of_below go.o _ _).trans hn)⟩;obtain⟨av,cvv,kp,_⟩:=gy.o.ex;rw[h6] at kp;have hH:Hq (ids.length<=1048578):=Hd (by have:=gy.o.small;omega);clear h7 gT h4 hn hC c0 c1 c2 c3 c4 f0 He H7;subst kp;go_wp2_with fail
 go_loopw [77] (fun s77 wr=>∃ j:Nat,j<=ids.length/\s77=Iv j/\Hq (∃ o d,CutI d0 k x ids sb s o1 w1 w1.heap.size (.slice av ids.length cvv) ts j wr o d)) (fun s77 _=>ids.length-(intOf s77).toNat)
 case atStart=>exact⟨0,Vu _,rfl,Hd ⟨o1,_,Hv.o⟩⟩
 case round =>
  obtain⟨j,hj,rfl,HCI⟩:=hrel
  by_cases hlt:j<ids.length
  ·obtain⟨oj,dj,g2⟩:=HCI.o;obtain⟨a',c',ea,g3⟩:=g2.row.ex;rw[h6] at ea;injection ea with ea1 ea2 ea3
   obtain⟨g,hg,_,g0⟩:=g3 j (by omega);rw[hg] at ea1;subst ea1;obtain⟨i,hi⟩:=Ex (ids[j]);have gE:ts[j]'(by omega)=tnOf d0 y i:=by rw[hi];simp[hA.o]
   rw[gE] at g0;obtain⟨b,tb⟩:=hB.o i (by rw[hi];exact Vv hlt);have gD:tnOf d0 y i=⟨d0.pool.nd i,(tnOf d0 y i).ll,(tnOf d0 y i).lh,(tnOf d0 y i).hl,(tnOf d0 y i).hh⟩:=rfl;obtain⟨N,hN⟩:=Ex (d0.pool.nd i);obtain⟨ll,ga⟩:∃ q,q=(tnOf d0 y i).ll:=⟨_,rfl⟩;obtain⟨lh,gc⟩:∃ q,q=(tnOf d0 y i).lh:=⟨_,rfl⟩;obtain⟨hl,gd⟩:∃ q,q=(tnOf d0 y i).hl:=⟨_,rfl⟩;obtain⟨hh,ge⟩:∃ q,q=(tnOf d0 y i).hh:=⟨_,rfl⟩;rw[gD,<- hN,<- ga,<- gc,<- gd,<- ge] at g0;have e0:wr.cell? (Aw g (j*9))=some _:=g0 0 _ rfl;have e1:=g0 1 _ rfl;have e2:=g0 2 _ rfl;have e3:=g0 3 _ rfl;have e4:=g0 4 _ rfl;have e5:=g0 5 _ rfl;have e6:=g0 6 _ rfl;have e7:=g0 7 _ rfl;have e8:=g0 8 _ rfl;have hW:N.lo=b.lo:=by rw[hN];exact tb.lo
   have hX:N.hi=b.hi:=by rw[hN];exact tb.hi
   have HA:=Hd g2;have HL:=Hd hi;have gn:=Hd tb;have HJ:=Hd hW;have HM:=Hd hX;have Hb:(j:Int)<ids.length:=by omega
   have Hf:=hH.o;have Hc:(j:Int)+1<=1048578:=by omega
   have gi:=g1.o.facts.1;have hQ:d0.tab x (N.lo,N.hi)=some i:=by
    rw[hW,hX];refine(g1.o.ok.tab x gi _ _ _).2 ?_;rw[tb.node,<- tb.v]
   have gH:¬ i∈ids.take j:=by
    intro hm;have gI:=kC.o;rw[<- Wy j ids,Wg] at gI;refine gI.2.2 i hm i ?_ rfl;rw[VT hlt,hi];exact VW
   have kv:dj.tab x (N.lo,N.hi)=some i:=g2.cut.has hQ gH;have hO:x<dj.vars.length:=by rw[g2.cut.vars,Gp];exact gi
   have Hh:(fun u=>if u=x then putF (dj.tab u) (N.lo,N.hi) none else dj.tab u)=(fun u=>if u=x then putF (dj.tab x) (N.lo,N.hi) none else dj.tab u):=by funext u;by_cases e:u=x<;>simp[e]
   have kQ:Hq (CutS d0 k x (fun q=>q∈ids.take (j+1)) { dj with tab:=fun u=>if u=x then putF (dj.tab x) (N.lo,N.hi) none else dj.tab u }):=Hd (by
    have q1:=(g2.cut.next g1.o.ok gi hQ).congr (g':=fun q=>q∈ids.take (j+1)) (fun q=>by
     rw[Vt hlt,Vy,VF,hi])
    rw[Hh] at q1;exact q1)
   obtain⟨wz,g7⟩:∃ W,W=wr.alloc (.cells #[Iv N.id,Iv N.v,Iv N.lo,Iv N.hi,Iv N.refs,Iv ll,Iv lh,Iv hl,Iv hh] 256):=⟨_,rfl⟩;have gf:Bw wr wz:=by rw[g7];exact Af wr _
   have hz:=Vq wr (.cells #[Iv N.id,Iv N.v,Iv N.lo,Iv N.hi,Iv N.refs,Iv ll,Iv lh,Iv hl,Iv hh] 256);rw[<- g7] at hz;have z2:wz.cell? (Aw wr.heap.size 2)=some (Iv N.lo):=by rw[Vp wz _ 2 _ _ _ hz];rfl
   have z3:wz.cell? (Aw wr.heap.size 3)=some (Iv N.hi):=by rw[Vp wz _ 3 _ _ _ hz];rfl
   have g8:=g2.st.below g2.lt gf;have gk:=g2.lt.mono gf.size;obtain⟨gt,ct,gC,cellx,H8⟩:=g8.tabAt hO;obtain⟨c0,c1,c2,c3,c4,f0⟩:=cells5 g8.blk;rw[gC] at c2;have ko:x<s.ts.length:=by rw[g8.tlen];exact hO
   have H5:(x:Int)<s.ts.length:=by omega
   have kU:=Hd (JU oj x (s.ts.getD x 0) (dj.tab x) N.lo N.hi i wz.drew ((g8.below gk (An wz 1)).tab x ko) (gk.mono (An wz 1).size) kv);have gY:Hq (CutI d0 k x ids sb s o1 w1 w1.heap.size (.slice (some (Av g)) ids.length cvv) ts j wz.drew oj dj):=Hd (g2.move ((g8.below gk (An wz 1))) (Chg.of_below (gf.trans ((An wz 1).mono gf.size)) Al oj) (fun _ h=>h) (gk.mono (An wz 1).size) g2.cut);have ka:=Hd g7;have gN:=Hd hlt;clear g3 g0 gE gD g2 tb hN ga gc gd ge hi hW hX HCI hQ gH kv hO gf hz g8 gk gC ko g7 c0 c1 c3 c4 f0;go_upto_region 14 with fail;rw[<- ka.o];refine AD (fun W:Wd=>W=wz.drew) true 13 [(0,false),(1,false),(2,false),(3,false),(4,false),(5,false),(6,false),(7,false),(8,false),(9,false),(10,false),(11,false),(12,false),(13,true)] (by kernel_rfl) (by kernel_rfl) rfl ?_;simp only[planned,AC]
   iterate 13
    refine As rfl ?_;apply Exists.intro;refine⟨fun w' hw=>?_,?_⟩
    . subst hw;go_simp;rfl
    simp only[Ac]
   refine EZ rfl (by go_simp) (kU.o.mono (R':=fun e w'=>∃ v,e=.returned v/\(v=Iv 0/\AN oj w' x (s.ts.getD x 0) (putF (dj.tab x) (N.lo,N.hi) none)/\Chg (· = .tmap x) oj oj wz.drew w'/\Ab oj w')) (fun e w' h=>⟨_,h.1,rfl,h.2⟩)) ?_;rintro _ w5 ⟨rfl,kr,k5,kt⟩;simp only[Ac];refine C6 ?_;have hE:=Hd (gY.o.move (gY.o.st.setTab gY.o.lt kr k5) k5 (fun r hr=>by simp[Al,hr]) kt kQ.o);clear kr k5 kt c2 cellx H5 e0 e1 e2 e3 e4 e5 e6 e7 e8 z2 z3;go_wp2_with fail;go_roundw
   case rel=>exact⟨j+1,XI gN.o,by go_num,Hd ⟨_,_,hE.o⟩⟩
   case measure =>
    have:=gN.o;have:=hH.o;simp[intOf];omega
  ·obtain rfl:j=ids.length:=by omega
   obtain⟨oe,de,gl⟩:=HCI.o;have ke:Hq (∃ o d V',RndI sb o1 w1 w1.heap.size (.slice av ids.length cvv) ts wr o d/\A4 d0 V k x y Wt (Aj d0) (fun i=>i∈ids.take 0) d V'):=Hd ⟨oe,de,V,⟨⟨s,gl.st⟩,gl.lt,gl.row,gl.no,gl.chg⟩,(A4.start gl.cut g1.o.ok g1.o.facts.1 kg.o.dead (fun i=>by rw[VI];exact(gX.o i).symm) gM.o).congr (fun i=>by simp)⟩;clear gl HCI;go_wp2_with fail
   go_loopw [98] (fun s98 wr=>∃ j:Nat,j<=ids.length/\s98=Iv j/\Hq (∃ o d V',RndI sb o1 w1 w1.heap.size (.slice av ids.length cvv) ts wr o d/\A4 d0 V k x y Wt (Aj d0) (fun i=>i∈ids.take j) d V')) (fun s98 _=>ids.length-(intOf s98).toNat)
   case atStart=>exact⟨0,Vu _,rfl,ke⟩
   case round =>
    clear ke;obtain⟨j,hj,rfl,hD⟩:=hrel
    by_cases hlt:j<ids.length
    ·obtain⟨oj,dj,Vj,gF,gj⟩:=hD.o;obtain⟨a',c',ea,g3⟩:=gF.row.ex;rw[h6] at ea;injection ea with ea1 ea2 ea3
     clear ea2 ea3;obtain⟨g,hg,Hg,g0⟩:=g3 j (by omega);rw[hg] at ea1;subst ea1;obtain⟨i,hi⟩:=Ex (ids[j]);have gE:ts[j]'(by omega)=tnOf d0 y i:=by rw[hi];simp[hA.o]
     rw[gE] at g0;have gh:i∈ids:=by rw[hi];exact Vv hlt
     obtain⟨b,tb⟩:=hB.o i gh;have gD:tnOf d0 y i=⟨d0.pool.nd i,(tnOf d0 y i).ll,(tnOf d0 y i).lh,(tnOf d0 y i).hl,(tnOf d0 y i).hh⟩:=rfl
     have kh:Hq (((tnOf d0 y i).ll,(tnOf d0 y i).hl)∈ts.flatMap B8/\((tnOf d0 y i).lh,(tnOf d0 y i).hh)∈ts.flatMap B8):=Hd (by
      have hm:tnOf d0 y i∈ts:=by rw[hA.o];exact Vz.2 ⟨i,gh,rfl⟩
      exact⟨XP.2 ⟨_,hm,by simp[B8]⟩,XP.2 ⟨_,hm,by simp[B8]⟩⟩)
     obtain⟨N,hN⟩:=Ex (d0.pool.nd i);obtain⟨ll,ga⟩:∃ q,q=(tnOf d0 y i).ll:=⟨_,rfl⟩;obtain⟨lh,gc⟩:∃ q,q=(tnOf d0 y i).lh:=⟨_,rfl⟩;obtain⟨hl,gd⟩:∃ q,q=(tnOf d0 y i).hl:=⟨_,rfl⟩;obtain⟨hh,ge⟩:∃ q,q=(tnOf d0 y i).hh:=⟨_,rfl⟩;rw[gD,<- hN,<- ga,<- gc,<- gd,<- ge] at g0;rw[<- ga,<- gc,<- gd,<- ge] at kh;have e0:wr.cell? (Aw g (j*9))=some _:=g0 0 _ rfl;have e1:=g0 1 _ rfl;have e2:=g0 2 _ rfl;have e3:=g0 3 _ rfl;have e4:=g0 4 _ rfl;have e5:=g0 5 _ rfl;have e6:=g0 6 _ rfl;have e7:=g0 7 _ rfl;have e8:=g0 8 _ rfl;have gH:¬ i∈ids.take j:=by
      intro hm;have gI:=kC.o;rw[<- Wy j ids,Wg] at gI;refine gI.2.2 i hm i ?_ rfl;rw[VT hlt,hi];exact VW
     obtain⟨wz,g7⟩:∃ W,W=wr.alloc (.cells #[Iv N.id,Iv N.v,Iv N.lo,Iv N.hi,Iv N.refs,Iv ll,Iv lh,Iv hl,Iv hh] 256):=⟨_,rfl⟩;have gf:Bw wr wz.drew:=by rw[g7];exact Fw wr 1 _
     have hz:=Vq wr (.cells #[Iv N.id,Iv N.v,Iv N.lo,Iv N.hi,Iv N.refs,Iv ll,Iv lh,Iv hl,Iv hh] 256);rw[<- g7] at hz;obtain⟨bz,gw⟩:∃ q,q=wr.heap.size:=⟨_,rfl⟩;rw[<- gw] at hz;have z5:wz.cell? (Aw bz 5)=some (Iv ll):=by rw[Vp wz _ 5 _ _ _ hz];rfl
     have z6:wz.cell? (Aw bz 6)=some (Iv lh):=by rw[Vp wz _ 6 _ _ _ hz];rfl
     have z7:wz.cell? (Aw bz 7)=some (Iv hl):=by rw[Vp wz _ 7 _ _ _ hz];rfl
     have z8:wz.cell? (Aw bz 8)=some (Iv hh):=by rw[Vp wz _ 8 _ _ _ hz];rfl
     have kX:Hq (Box oj wz.drew bz (.cells #[Iv N.id,Iv N.v,Iv N.lo,Iv N.hi,Iv N.refs,Iv ll,Iv lh,Iv hl,Iv hh] 256 (0,0))):=Hd ⟨hz,gF.lt.none (by rw[gw];exact Vo _)⟩;have kc:=Hd (gF.below gf)
     have hI:Hq (w1.heap.size<=bz/\g≠bz):=Hd (by
      have h1:=gF.chg.size;have h2:g<wr.heap.size:=Ah e0;exact⟨by omega,by omega⟩)
     have tv:=tb.val;rw[<- ga,<- gc,<- gd,<- ge] at tv;have kH:=Hd (LG kc.o.st kc.o.lt gj g1.o.ok.dag (gj.acy g1.o) g1.o.facts.1 gj.vlen ll hl tv.f1 tv.f3 (fun h1 h2=>LQ gj g1.o gM.o kh.o.1 tv.f1 tv.f3 h1 h2) gM.o.nodup kj.o);have HB2:Hq (∀ W o d V',A2 o W sb d->Ab o W->A4 d0 V k x y Wt (Aj d0) (fun i=>i∈ids.take j) d V'->_):=Hd (fun W o d V' st lt m=>LG st lt m g1.o.ok.dag (m.acy g1.o) g1.o.facts.1 m.vlen lh hh tv.f2 tv.f4 (fun h1 h2=>LQ m g1.o gM.o kh.o.2 tv.f2 tv.f4 h1 h2) gM.o.nodup kj.o)
     have kn:Hq (∀ r1 r2 d1 d2 V1 V2,CB d0 V k x y Wt (fun i=>i∈ids.take j) dj Vj ll hl r1 d1 V1->CB d0 V k x y Wt (fun i=>i∈ids.take j) d1 V1 lh hh r2 d2 V2->Fh d0 V k x y Wt (fun i=>i∈ids.take j) i r1 r2 d2 V2):=Hd (by
      intro r1 r2 d1 d2 V1 V2 h1 h2;rw[ga,gd] at h1;rw[gc,ge] at h2;exact Fh.of g1.o tb h1 h2)
     have HN:Hq (N.lo=b.lo/\N.hi=b.hi/\N.id=i/\(N.refs:Int)=Aj d0 i):=Hd (by rw[hN];exact⟨tb.lo,tb.hi,tb.id,(CS (BM tb.node).1).symm⟩);have HT:Hq (Turns (Aa d0) x y i):=Hd ((gX.o i).1 gh);have kB:=Hd gH;have gn:=Hd tb;have Hl:Hq (∀ q,(q∈ids.take j\/q=i)↔q∈ids.take (j+1)):=Hd (fun q=>by rw[Vt hlt,Vy,VF,hi]);have Hb:(j:Int)<ids.length:=by omega
     have Hf:=hH.o;have Hc:(j:Int)+1<=1048578:=by omega
     have ka:=Hd g7;have Hx:=Hd gw;have gN:=Hd hlt;clear g3 g0 gE gD gF gj tb tv hN ga gc gd ge hi hD gH gf hz g7 gw gh Hg;go_upto_region 19 with fail;rw[<- Hx.o,<- ka.o];clear e0 e1 e2 e3 e4 e5 e6 e7 e8;refine AD (fun W:Wd=>W.cell? (Aw bz 5)=some (Iv ll)/\W.cell? (Aw bz 6)=some (Iv lh)/\W.cell? (Aw bz 7)=some (Iv hl)/\W.cell? (Aw bz 8)=some (Iv hh)) false 16 [(0,false),(1,false),(2,false),(3,false),(4,false),(5,false),(7,false),(8,false),(9,false),(10,false),(11,false),(12,false),(6,true),(13,true),(14,false),(15,false)] (by kernel_rfl) (by kernel_rfl) ⟨z5,z6,z7,z8⟩ ?_;simp only[planned,AC]
     iterate 12
      refine As rfl ?_;apply Exists.intro;refine⟨fun w' hw=>?_,?_⟩
      . obtain⟨q5,q6,q7,q8⟩:=hw;go_simp;rfl
      simp only[Ac]
     refine Cd (R:=fun v w'=>∃ r:Nat,v=Iv r/\∃ o' d' V',RndI sb o1 w1 w1.heap.size (.slice (some (Av g)) ids.length cvv) ts w' o' d'/\CB d0 V k x y Wt (fun i=>i∈ids.take j) dj Vj ll hl r d' V'/\Box o' w' bz (.cells #[Iv N.id,Iv N.v,Iv N.lo,Iv N.hi,Iv N.refs,Iv ll,Iv lh,Iv hl,Iv hh] 256 (0,0))) rfl (by go_simp) (kH.o.mono (fun e w' he=>?_)) ?_
     . obtain⟨r,rfl,o',d',V',st',lt',k8,kJ,gL⟩:=he;have g4:=kX.o.chg gL;exact⟨_,rfl,⟨g4.cell 5,g4.cell 6,g4.cell 7,g4.cell 8⟩,r,rfl,o',d',V',kc.o.move st' lt' gL (fun _ h=>h),k8,g4⟩
     rintro v w5-⟨r1,rfl,o5,d5,V5,hc,gV,k7⟩;simp only[Ac];refine Cd (R:=fun v w'=>∃ r:Nat,v=Iv r/\∃ o' d' V',RndI sb o1 w1 w1.heap.size (.slice (some (Av g)) ids.length cvv) ts w' o' d'/\Fh d0 V k x y Wt (fun i=>i∈ids.take j) i r1 r d' V'/\Box o' w' bz (.cells #[Iv N.id,Iv N.v,Iv N.lo,Iv N.hi,Iv N.refs,Iv ll,Iv lh,Iv hl,Iv hh] 256 (0,0))) rfl (by go_simp) ((HB2.o w5 o5 d5 V5 hc.st hc.lt gV.mid).mono (fun e w' he=>?_)) ?_
     . obtain⟨r,rfl,o',d',V',st',lt',k8,kJ,gL⟩:=he;have g4:=k7.chg gL;exact⟨_,rfl,⟨g4.cell 5,g4.cell 6,g4.cell 7,g4.cell 8⟩,r,rfl,o',d',V',hc.move st' lt' gL (fun _ h=>h),kn.o _ _ _ _ _ _ gV k8,g4⟩
     rintro v w6-⟨r2,rfl,o6,d6,V6,ha,gg,k6⟩;simp only[Ac]
     iterate 2
      refine As rfl ?_;apply Exists.intro;refine⟨fun w' hw=>?_,?_⟩
      . obtain⟨q5,q6,q7,q8⟩:=hw;go_simp;rfl
      simp only[Ac]
     refine Bs ?_;have Hn:=Hd ha;have gq:=Hd gg;have kW:=Hd k6;have Hp:=Hd (LN ha.st ha.lt g1.o gg.mid gg.e1 (fun i=>by have:=g1.o.top i;omega));clear ha gg k6 hc gV k7 z5 z6 z7 z8 kH HB2;go_wp2_with fail;refine Hp.o.mono ?_;rintro q w7 ⟨rfl,d7,st7,lt7,m7,n7,p7,c7⟩;have Hm:=Hd (Hn.o.move st7 lt7 c7 (fun _ h=>h));have kV:=Hd (kW.o.chg c7)
     have Ho:=Hd (LN st7 lt7 g1.o m7 (n7 ▸ gq.o.e2) (fun i=>by
      have:=g1.o.top i;have h2:toE r1 i<=1:=by unfold toE;split<;>omega
      unfold addE;omega))
     have kE:Hq (Aa d7=Aa d6/\d7.pool=d6.pool):=Hd ⟨n7,p7⟩;clear st7 lt7 m7 n7 p7 c7;go_wp2_with fail;refine Ho.o.mono ?_;rintro q w8 ⟨rfl,d8,st8,lt8,m8,n8,p8,c8⟩;have kz:=Hd (Hm.o.move st8 lt8 c8 (fun _ h=>h));have g6:=Hd (kV.o.chg c8);have hF:=Hd m8;have kD:Hq (Aa d8=Aa d6/\d8.pool=d6.pool):=Hd ⟨n8.trans kE.o.1,p8.trans kE.o.2⟩;clear st8 lt8 m8 n8 p8 c8;have x0:w8.cell? (Av bz)=some (Iv N.id):=g6.o.cell 0;have x1:w8.cell? (Aw bz 1)=some (Iv N.v):=g6.o.cell 1;have x2:w8.cell? (Aw bz 2)=some (Iv N.lo):=g6.o.cell 2;have x3:w8.cell? (Aw bz 3)=some (Iv N.hi):=g6.o.cell 3;have x4:w8.cell? (Aw bz 4)=some (Iv N.refs):=g6.o.cell 4;have xf:∀ q,w8.frozen? (Aw bz q)=false:=fun q=>by simp[World.frozen?,g6.o.blk]
     go_upto_region 23 with fail;obtain⟨wo,gZ⟩:∃ W,W=w8.alloc (.cells #[Iv N.id,Iv N.v,Iv N.lo,Iv N.hi,Iv N.refs] 254):=⟨_,rfl⟩;have gg:Bw w8 wo:=by rw[gZ];exact Af w8 _
     have hd:=Vq w8 (.cells #[Iv N.id,Iv N.v,Iv N.lo,Iv N.hi,Iv N.refs] 254);rw[<- gZ] at hd;obtain⟨bo,gx⟩:∃ q,q=w8.heap.size:=⟨_,rfl⟩;rw[<- gx] at hd;have gJ:bz≠bo:=by
      have:=Ah x0;have h2:bz<w8.heap.size:=this;omega
     have g5:Hq (Box o6 wo bz (.cells #[Iv N.id,Iv N.v,Iv N.lo,Iv N.hi,Iv N.refs,Iv ll,Iv lh,Iv hl,Iv hh] 256 (0,0))):=Hd (g6.o.chg (Chg.of_below gg Al o6));have kd:=Hd (kz.o.below gg);have kY:Hq (Box o6 wo bo (.cells #[Iv N.id,Iv N.v,Iv N.lo,Iv N.hi,Iv N.refs] 254 (0,0))):=Hd ⟨hd,kz.o.lt.none (by rw[gx];exact Vo _)⟩;obtain⟨wa,gA⟩:∃ W,W=(wo.setCell (Aw bz 1) (Iv y)).setCell (Aw bz 2) (Iv r1):=⟨_,rfl⟩;obtain⟨wb,gz⟩:∃ W,W=wa.setCell (Aw bz 3) (Iv r2):=⟨_,rfl⟩;have HV:∀ q,0<ts.length->Value.ownBlock (.slice (some (Av g)) ids.length cvv)=some q->q≠bz:=fun q _ hq=>by cases hq;exact hI.o.2
     have ky:Hq (RndI sb o1 w1 w1.heap.size (.slice (some (Av g)) ids.length cvv) ts wb.drew o6 d8):=Hd (by
      rw[gz,gA];exact(((kd.o.write g5.o.no hI.o.1 HV 1 _).write g5.o.no hI.o.1 HV 2 _).write g5.o.no hI.o.1 HV 3 _).below (An _ 1))
     have kl:=HN.o.2.2.2
     have g9:Hq (Box o6 wb.drew bz (.cells #[Iv i,Iv y,Iv r1,Iv r2,Iv N.refs,Iv ll,Iv lh,Iv hl,Iv hh] 256 (0,0))):=Hd (by
      rw[gz,gA];have h:=((g5.o.set 1 (Iv y)).set 2 (Iv r1)).set 3 (Iv r2);rw[HN.o.2.2.1] at h;exact⟨h.blk,h.no⟩)
     have H0:Hq (Box o6 wb.drew bo (.cells #[Iv i,Iv N.v,Iv b.lo,Iv b.hi,Iv N.refs] 254 (0,0))):=Hd (by
      rw[gz,gA];have h:=((kY.o.other (p:=Aw bz 1) (u:=Iv y) (Wi gJ)).other (p:=Aw bz 2) (u:=Iv r1) (Wi gJ)).other (p:=Aw bz 3) (u:=Iv r2) (Wi gJ);rw[HN.o.2.2.1,HN.o.1,HN.o.2.1] at h;exact⟨h.blk,h.no⟩)
     have y1:wo.cell? (Aw bz 1)=some (Iv N.v):=g5.o.cell 1;have y2:wo.cell? (Aw bz 2)=some (Iv N.lo):=g5.o.cell 2;have y3:wo.cell? (Aw bz 3)=some (Iv N.hi):=g5.o.cell 3;have yf:∀ q,wo.frozen? (Aw bz q)=false:=fun q=>by simp[World.frozen?,g5.o.blk]
     have Hi:=Hd gZ;have kZ:=Hd gx;have Hk:=Hd gA;have Hj:=Hd gz;have HI:=Hd gJ;clear gZ gg hd gx gJ gA gz HV kl x0 x1 x2 x3 x4 xf;rw[<- Hi.o,<- kZ.o];go_upto_region 24 with fail;rw[<- Hk.o,<- Hj.o];obtain⟨s9,h9⟩:=ky.o.st;obtain⟨k0,k1,k2,k3,k4,kf⟩:=cells5 h9.blk;have hY:d8.pool.tk i=true:=by
      have h1:Aa d8 i=some b:=hF.o.mid.keep i b gn.o.node kB.o;exact(BM h1).1
     have kx:=Hd (hF.o.turned (n:=⟨i,y,r1,r2,N.refs⟩) g1.o HT.o kB.o gn.o.node (kD.o.1 ▸ gq.o.e1) (kD.o.1 ▸ gq.o.e2) gq.o.reg gq.o.ne gq.o.val rfl HN.o.2.2.2 (h9.pool.tk_lt hY).2);have kb:=Hd (Sc (n:=⟨i,y,r1,r2,N.refs⟩) ky.o h9 hY g9.o H0.o);unfold Am at kb;have n0:wb.cell? (Av bz)=some (Iv i):=g9.o.cell 0;have n1:wb.cell? (Aw bz 1)=some (Iv y):=g9.o.cell 1;have n2:wb.cell? (Aw bz 2)=some (Iv r1):=g9.o.cell 2;have n3:wb.cell? (Aw bz 3)=some (Iv r2):=g9.o.cell 3;have n4:wb.cell? (Aw bz 4)=some (Iv N.refs):=g9.o.cell 4;have k1':wb.cell? (Aw sb 1)=some (Pt s9.pb):=k1;have Hs:Hq (s9.ts.length=d0.vars.length):=Hd (by rw[h9.tlen,hF.o.vlen]);clear k0 k1 k2 k3 k4 kf h9 hY y1 y2 y3 yf;refine AD (fun W:Wd=>W=wb.drew) true 6 [(0,false),(1,false),(2,false),(3,false),(4,false),(5,false),(6,true)] (by kernel_rfl) (by kernel_rfl) rfl ?_;simp only[planned,AC]
     iterate 6
      refine As rfl ?_;apply Exists.intro;refine⟨fun w' hw=>?_,?_⟩
      . subst hw;go_simp;rfl
      simp only[Ac]
     refine EZ rfl (by go_simp) kb.o ?_;rintro _ w10 ⟨rfl,gQ,hu,gP,hL⟩;simp only[Ac];refine C6 ?_;clear n0 n1 n2 n3 n4 k1';have hZ:=hu.below gQ.lt (An w10 1);have hJ:y<s9.ts.length:=by rw[Hs.o];exact g1.o.facts.2.1
     have H4:(y:Int)<s9.ts.length:=by omega
     obtain⟨gt,ct,gC,celly,H8⟩:=hu.tabAt (v:=y) (by show y<d8.vars.length;rw[hF.o.vlen];exact g1.o.facts.2.1);obtain⟨k0,k1,k2,k3,k4,kf⟩:=cells5 hu.blk;rw[gC] at k2;have kP:=Hd (Sd (id:=i) (gQ.below (An w10 1)) hZ hJ kx.o.1 (gP.chg (Chg.of_below (An w10 1) Al o6)) (hL.chg (Chg.of_below (An w10 1) Al o6)));have n0:w10.cell? (Av bz)=some (Iv i):=gP.cell 0;clear gQ hu gP hL hZ gC k0 k1 k3 k4 kf hJ;go_upto_region 25 with fail;refine AD (fun W:Wd=>W=w10.drew) true 12 [(0,false),(1,false),(2,false),(3,false),(4,false),(5,false),(6,false),(7,false),(8,false),(9,false),(10,false),(11,false),(12,true)] (by kernel_rfl) (by kernel_rfl) rfl ?_;simp only[planned,AC]
     iterate 12
      refine As rfl ?_;apply Exists.intro;refine⟨fun w' hw=>?_,?_⟩
      . subst hw;go_simp;rfl
      simp only[Ac]
     refine EZ rfl (by go_simp) kP.o ?_;rintro _ w11 ⟨rfl,gu,kI,gO⟩;simp only[Ac];refine C6 ?_;have kO:=Hd gu;have kK:=Hd gO
     have Hqz:=Hd (LO gu.st gu.lt g1.o kx.o.2 gn.o.node gn.o.v (.inl rfl) (fun q=>by
      have h1:=g1.o.top q;have h2:toE b.lo q<=1:=by unfold toE;split<;>omega
      have h3:toE b.hi q<=1:=by unfold toE;split<;>omega
      unfold addE;omega) (fun q=>by
      have h1:0<=Aj d0 q:=by unfold Aj;split<;>omega
      have h3:0<=toE b.hi q:=by unfold toE;split<;>omega
      unfold addE;omega))
     have u2:w11.cell? (Aw bo 2)=some (Iv b.lo):=gO.cell 2;clear gu kI gO n0 k2 celly H4;go_wp2_with fail;refine Hqz.o.mono ?_;rintro q w12 ⟨rfl,d12,st12,lt12,m12,c12⟩;have kN:=Hd (kO.o.move st12 lt12 c12 (fun _ h=>h));have hK:=kK.o.chg c12
     have kR:=Hd (LO st12 lt12 g1.o m12 gn.o.node gn.o.v (.inr rfl) (fun q=>by
      have h1:=g1.o.top q;have h2:toE b.lo q<=1:=by unfold toE;split<;>omega
      have h3:toE b.hi q<=1:=by unfold toE;split<;>omega
      have h4:0<=toE b.lo q:=by unfold toE;split<;>omega
      unfold addE;omega) (fun q=>by
      have h1:0<=Aj d0 q:=by unfold Aj;split<;>omega
      unfold addE;omega))
     have u3:w12.cell? (Aw bo 3)=some (Iv b.hi):=hK.cell 3;clear st12 lt12 m12 c12 hK u2;go_wp2_with fail;refine kR.o.mono ?_;rintro q w13 ⟨rfl,d13,st13,lt13,m13,c13⟩;rw[RZ] at m13;have hE:=Hd (And.intro (kN.o.move st13 lt13 c13 (fun _ h=>h)) (m13.congr Hl.o));clear st13 lt13 m13 c13 u3;go_wp2_with fail;go_roundw
     case rel=>exact⟨j+1,XI gN.o,by go_num,Hd ⟨_,_,_,hE.o.1,hE.o.2⟩⟩
     case measure =>
      have:=gN.o;have:=hH.o;simp[intOf];omega
    ·obtain rfl:j=ids.length:=by omega
     obtain⟨oe,de,Ve,h8,hU⟩:=hD.o;have hR:=hU.final g1.o.v g1.o.ok g1.o.lev (fun i hT=>by rw[VI];exact(gX.o i).2 hT);have Hw:=Hd (LP h8.st h8.lt hR)
     have kT:Hq (∀ w' o' d',A2 o' w' sb d'->Ab o' w'->AJ de d'->Chg Al oe o' wr w'->P (.returned (Iv 0)) w'):=Hd (by
      intro w' o' d' st' lt' cr' ch';rw[kA.o];exact⟨o',d0,kg.o,lt',kG.o.trans (h8.chg.trans ch'),.inr ⟨rfl,d',Ve,st',hU.o hR cr'⟩⟩)
     clear h8 hU hR hD;go_wp2_with fail;refine Hw.o.mono ?_;rintro q w14 ⟨rfl,o14,d14,st14,lt14,cr14,ch14⟩;have HF:=Hd (kT.o w14 o14 d14 st14 lt14 cr14 ch14);clear st14 lt14 cr14 ch14;go_wp2_with fail;exact HF.o
section
theorem Ck.big (h:Ck m){p:Int×Nat}(hp:p∈m.hs):p.2/2=0\/1<p.1:=by
 by_cases h1:1<p.1
 . exact .inr h1
 ·left;have g1:=h.lt p hp;have hu:∀ q∈m.hs,q.1=p.1->q=p:=by
   intro q hq e;have g0:=h.nodup;have h1:=DK (l:=encH m.hs) (Ep g0) (Vz.2 ⟨q,hq,rfl⟩);have h2:=DK (l:=encH m.hs) (Ep g0) (Vz.2 ⟨p,hp,rfl⟩);rw[e,h2] at h1;have e2:(p.2:Int)=(q.2:Int):=by injection h1 with h1;injection h1
   exact Prod.ext e (by omega)
  rcases(by omega:p.1=0\/p.1=1) with e|e
  . rw[<- hu _ h.zero e.symm];rfl
  . rw[<- hu _ h.one e.symm];rfl
theorem LR {hs:List (Int×Nat)}{p:Int×Nat}(hp:p∈hs)(h1:1<p.1):0<AP hs (p.2/2):=by
 unfold AP;refine XD (WD.2 ⟨hp,?_⟩);simp[h1]
theorem Sk (hs:List (Int×Nat))(i:Nat):AP hs i<=hs.length:=Wk _ _
theorem LS (h:Ck m)(i:Nat):Aj m.d i<=m.next:=by
 cases hb:Aa m.d i with
 | none=>rw[Ej hb];have:=h.next;omega
 | some b =>
   rw[h.refs i b hb];have h1:=Sk m.hs i;have h2:=h.len;omega
theorem Sl (h:Ck { m with d:=d0 })(hk:Ak d0 V)(s:Fg d0 V k d' V'):Ck { m with d:=d' }:=by
 have g1:∀ p∈m.hs,okE (Aa d') p.2:=by
  intro p hp;rcases h.ok p hp with h0|⟨b,hb⟩
  . exact .inl h0
  ·rcases h.big hp with h1|h1
   . exact .inl h1
   . refine .inr (s.live _ b hb ?_);have h2:=h.refs _ b hb;have h3:0<AP m.hs (p.2/2):=LR hp h1;have h4:Aj d0 (p.2/2)=(AP m.hs (p.2/2):Int):=h2;omega
 refine⟨h.nodup,h.zero,h.one,h.lt,h.next,g1,h.len,fun i b hb=>?_⟩
 show Aj d' i=(AP m.hs i:Int)
 rw[s.ext i b hb];cases hn:Aa d0 i with
 | some b0=>exact h.refs i b0 hn
 | none =>
   rw[Ej hn];have hi:i≠0:=by
    rintro rfl;have h0:Aa d' 0=none:=s.ok.dag.none0;have h1:Aa d' 0=some b:=hb;rw[h0] at h1;cases h1
   have:AP m.hs i=0:=by
    unfold AP;rw[List.length_eq_zero_iff,List.filter_eq_nil_iff];intro p hp;have ho:=h.ok p hp;simp only[Wu,WB,beq_iff_eq,not_and];rintro _ rfl;rcases ho with h0|⟨b1,g2⟩
    . exact hi h0
    . have g0:Aa d0 (p.2/2)=some b1:=g2;rw[hn] at g0;cases g0
   rw[this];rfl
end
structure LU (K:Law)(n room:Nat)(w0:Wd)(mb:Nat)(fs:List (Int×BF))(nx:Int)(k:Nat)(o:Own)(w:Wd)(m:ManD)(V:Nat->BF)(e:Ending)(o':Own)(w':Wd)(m':ManD)(V':Nat->BF):Prop where
 sat:SatE K n (fun _=>True) room w0 mb fs nx w' o' m' V'
 waits:m'.waits=m.waits
 calls:m'.calls=m.calls
 chg:Chg (fun _=>True) o o' w w'
 way:∃ d0,AJ m.d d0/\((e=.returned (Iv 7)/\m'.d=d0/\V'=V/\d0.pool.room<3*d0.pool.many)\/(e=.returned (Iv 0)/\Fg d0 V k m'.d V'))
section
variable {o:Own}
theorem Sn {s:ManW}(h:SatE K n Od room w0 mb fs nx w o m V)(g1:A7 (fun _ _ _ _ _=>False) o w1 mb m s)(g2:Chg (· = .entries) o o w w1)(g3:Ab o w1)(hk1:k+1<n)(hn:nx<=549755813888) :
 Cl 160 #[Pt s.sb,Iv k] w1 fun e w'=>∃ o' m' V',LU K n room w0 mb fs nx k o w m V e o' w' m' V':=by
 have g0:=h.next
 refine(Sj g1.store g3 h.ok.store k (by rw[h.vars];exact hk1) (fun i=>by have:=LS h.ok.handles i;omega)).mono ?_;rintro e w' ⟨o',d0,cr,lt,ch,hw⟩;have hc:Chg (fun _=>True) o o' w w':=g2.any.trans ch.any;have h0:=Ls h.ok.handles h.ok.store cr;rcases hw with ⟨rfl,st,hr⟩|⟨rfl,d',V',st,so⟩
 . refine⟨o',{ m with d:=d0 },V,⟨⟨s,(g1.setStore g3 st ch).mono fun _ _ _ _ _ e=>e.elim⟩,lt,⟨cr.ok h.ok.store,h0⟩,by dsimp only;rw[cr.vars];exact h.vars,trivial,by dsimp only;rw[cr.room];exact h.room,h.next,h.hs,h.chg.lower (ChgX.of_chg hc NoB) (fun _ e=>e.elim)⟩,rfl,rfl,hc,d0,cr,.inl ⟨rfl,rfl,rfl,hr⟩⟩
 ·refine⟨o',{ m with d:=d' },V',⟨⟨s,(g1.setStore g3 st ch).mono fun _ _ _ _ _ e=>e.elim⟩,lt,⟨so.ok,Sl h0 (cr.ok h.ok.store) so⟩,?_,trivial,?_,h.next,?_,h.chg.lower (ChgX.of_chg hc NoB) (fun _ e=>e.elim)⟩,rfl,rfl,hc,d0,cr,.inr ⟨rfl,so⟩⟩
  ·show d'.vars.length=n
   rw[so.vars,Gp,cr.vars];exact h.vars
  ·show d'.pool.room=room
   rw[so.room,cr.room];exact h.room
  ·show m.hs.map (fun p=>(p.1,ef V' p.2))=fs
   rw[Lr (d:=d0) h0.ok so.val];exact h.hs
end
section
variable {o:Own}
theorem So (h:SatE K n Od room w0 mb fs nx w o m V)(z:Int)(P:Ending->Wd->Prop)
 (hsw:∀ s w1,A7 (K m.d V) o w mb m s->A7 (fun _ _ _ _ _=>False) o w1 mb m s->Chg (· = .entries) o o w w1->Ab o w1->Cl 160 #[Pt s.sb,Iv z] w1 fun x w'=>∃ q:Int,x=.returned (Iv q)/\P x w') :
 Cl 113 #[Pt mb,Iv z] w P:=by
 obtain⟨s,hs⟩:=h.is;obtain⟨c0,c1,c2,c3,c4,c5,f0⟩:=cells6 hs.blk;have HC:=Hd (fun w1=>hsw s w1 hs);have g0:=Hd (wclear h hs (fun _ _ _ _ _=>False));clear h hs hsw
 go_enter func113,ntmps113
 go_wp2_with fail;refine g0.o.mono ?_;rintro x w1 ⟨rfl,g1,g2,g3⟩;obtain⟨d0,d1,d2,d3,d4,d5,f1⟩:=cells6 g1.blk;have g4:=Hd (HC.o w1 g1 g2 g3);clear g1 g2 g3 c0 c1 c2 c3 c4 c5 f0 g0 HC;go_wp2_with fail;refine g4.o.mono ?_;rintro x w2 ⟨q,rfl,hq⟩;have HQ:=Hd hq;clear hq;go_wp2_with fail;exact HQ.o
theorem Sp (h:SatE K n Od room w0 mb fs nx w o m V)(hk1:k+1<n)(hn:nx<=549755813888) :
 Cl 113 #[Pt mb,Iv k] w fun e w'=>∃ o' m' V',LU K n room w0 mb fs nx k o w m V e o' w' m' V' :=
 So h k _ fun s w1 _ g1 g2 g3=>(Sn h g1 g2 g3 hk1 hn).mono fun e w' ⟨o',m',V',hs⟩=>by
  obtain⟨d0,cr,hw⟩:=hs.way;rcases hw with ⟨e1,_⟩|⟨e1,_⟩
  . exact⟨7,e1,o',m',V',hs⟩
  . exact⟨0,e1,o',m',V',hs⟩
end
theorem E4 (f g:Nat->Int):∀ k,Ag k (fun i=>f i+g i)=Ag k f+Ag k g
 | 0=>by simp[Ag]
 | k+1=>by simp only[Ag];rw[E4 f g k];omega
theorem Gq {f g:Nat->Int}:∀ k,(∀ i,i<k->f i<=g i)->Ag k f<=Ag k g
 | 0,_=>by simp[Ag]
 | k+1,h=>by
   have h1:=Gq k (fun i hi=>h i (by omega));have h2:=h k (by omega);simp only[Ag];omega
theorem IT (c:Int)(f:Nat->Int):∀ k,c*Ag k f=Ag k (fun i=>c*f i)
 | 0=>by simp[Ag]
 | k+1=>by simp only[Ag];rw[Int.mul_add,IT c f k]
theorem LV (f:Nat->Nat->Int)(m:Nat):∀ k,Ag k (fun i=>Ag m (fun j=>f i j))=Ag m (fun j=>Ag k (fun i=>f i j))
 | 0=>by simp only[Ag];rw[Dr]
 | k+1=>by
   simp only[Ag];rw[LV f m k,<- E4]
theorem IU {g:Nat->Int}(hg:∀ i,0<=g i)(e k:Nat):Ag k (fun i=>g i*toE e i)<=g (e/2):=by
 by_cases hk:e/2<k
 ·have h1:=Dc (f:=fun _=>0) (g:=fun i=>g i*toE e i) (j:=e/2) (fun i hi=>by
   have:toE e i=0:=by unfold toE;rw[Vn (Wi hi)]
   simp[this]) k hk
  rw[h1,Dr];have:toE e (e/2)=1:=Ee e;simp[this]
 ·rw[B6 (g:=fun _=>0) k (fun i hi=>by
   have:toE e i=0:=by unfold toE;rw[Vn (by omega)]
   simp[this]),Dr]
  exact hg _
def gW (d:Ae)(i:Nat):Int:=match Aa d i with
 | some b=>((2^(d.vars.length-levN d b.v):Nat):Int)-1
 | none=>0
theorem Fi (d:Ae)(i:Nat):0<=gW d i:=by
 unfold gW;split
 . have:0<2^(d.vars.length-levN d (by assumption:BN).v):=WR (by decide);omega
 . omega
theorem LW (d:Ae)(i l:Nat)(h:∀ b,Aa d i=some b->l<=levN d b.v):gW d i<=((2^(d.vars.length-l):Nat):Int)-1:=by
 unfold gW;split
 ·rename_i b hb
  have h1:=h b hb;have:2^(d.vars.length-levN d b.v)<=2^(d.vars.length-l):=Wo (by decide) (by omega);omega
 . have:0<2^(d.vars.length-l):=WR (by decide);omega
theorem Sq (hk:Ak d V)(hb:Aa d j=some b):gW d (b.lo/2)+gW d (b.hi/2)<=gW d j-1:=by
 have hl:=hk.dag.lt _ (hk.dag.var _ _ hb);have key:∀ e,levN d b.v<lvE d.vars.length (levN d) (Aa d) e->gW d (e/2)<=((2^(d.vars.length-(levN d b.v+1)):Nat):Int)-1:=fun e he=>LW d _ _ (fun c hc=>by rw[Ff hc] at he;omega)
 have h1:=key _ (hk.dag.lvLo _ _ hb);have h2:=key _ (hk.dag.lvHi _ _ hb);have h3:gW d j=((2^(d.vars.length-levN d b.v):Nat):Int)-1:=by unfold gW;rw[hb]
 have h4:d.vars.length-levN d b.v=(d.vars.length-(levN d b.v+1))+1:=by omega
 rw[h3,h4,WS];omega
theorem Sr (hk:Ak d V)(h0:d.dead=0)(hc:(d.pool.many:Int)=Ag d.pool.at_.length (fun i=>if d.pool.tk i=true then 1 else 0)) :
 (d.pool.many:Int)<=Ag d.pool.at_.length (fun i=>gW d i*Aj d i):=by
 obtain⟨k,g0⟩:=Ex d.pool.at_.length;rw[<- g0] at hc ⊢;have e1:Ag k (fun i=>gW d i*(Ai d i:Int))=Ag k (fun i=>gW d i*Aj d i)+Ag k (fun i=>gW d i*Ag k (from1 (Aa d) (Ai d) i)):=by
  rw[<- E4];refine B6 k fun i _=>?_
  cases hb:Aa d i with
  | none=>simp[gW,hb]
  | some b=>rw[hk.live.cnt.eq i b hb,Int.mul_add,g0]
 have e2:Ag k (fun i=>gW d i*Ag k (from1 (Aa d) (Ai d) i))=Ag k (fun j=>Ag k (fun i=>gW d i*from1 (Aa d) (Ai d) i j)):=by
  rw[<- LV];exact B6 k fun i _=>IT _ _ _
 have e3:Ag k (fun j=>Ag k (fun i=>gW d i*from1 (Aa d) (Ai d) i j))<=Ag k (fun j=>gW d j + -(if d.pool.tk j=true then 1 else 0)):=by
  refine Gq k fun j _=>?_
  cases hb:Aa d j with
  | none =>
    have ht:d.pool.tk j=false:=Ie hb;rw[B6 (g:=fun _=>0) k (fun i _=>by simp[from1,hb]),Dr];simp[gW,hb,ht]
  | some b =>
    have ht:d.pool.tk j=true:=(BM hb).1;have hp:=Gg hk.live h0 hb
    rw[B6 (g:=fun i=>gW d i*toE b.lo i+gW d i*toE b.hi i) k (fun i _=>by
     simp only[from1,hb,Vs hp,Cu];rw[Int.mul_add]),E4,ht,Vs rfl]
    have h1:=IU (Fi d) b.lo k;have h2:=IU (Fi d) b.hi k;have h3:=Sq hk hb;omega
 have e4:Ag k (fun i=>gW d i)<=Ag k (fun i=>gW d i*(Ai d i:Int)):=by
  refine Gq k fun i _=>?_
  cases hb:Aa d i with
  | none=>simp[gW,hb]
  | some b =>
    have hp:=Gg hk.live h0 hb;have hg:=Fi d i;have h1:(1:Int)<=(Ai d i:Int):=by omega
    have h2:=Int.mul_le_mul_of_nonneg_left h1 hg;omega
 have e5:Ag k (fun j=>gW d j + -(if d.pool.tk j=true then 1 else 0))=Ag k (fun j=>gW d j)+Ag k (fun j=>-(if d.pool.tk j=true then 1 else 0)):=E4 _ _ _;have e6:Ag k (fun j=>-(if d.pool.tk j=true then (1:Int) else 0)) = -Ag k (fun j=>if d.pool.tk j=true then 1 else 0):=by
  have:=IT (-1) (fun j=>if d.pool.tk j=true then (1:Int) else 0) k;rw[B6 (g:=fun i=>-1*if d.pool.tk i=true then (1:Int) else 0) k (fun i _=>by omega),<- this];omega
 omega
abbrev XA:=@List.filter_cons_of_neg
theorem LX (d:Ae)(k:Nat):∀ hs:List (Int×Nat),Ag k (fun i=>gW d i*(AP hs i:Int))<=hs.length*((2^d.vars.length:Nat):Int)
 | []=>by
   rw[B6 (g:=fun _=>0) k (fun i _=>by simp[AP]),Dr];simp
 | p::l=>by
   have ih:=LX d k l;have h1:Ag k (fun i=>gW d i*(AP (p::l) i:Int))<=Ag k (fun i=>gW d i*(AP l i:Int)+gW d i*toE p.2 i):=by
    refine Gq k fun i _=>?_
    rw[<- Int.mul_add];refine Int.mul_le_mul_of_nonneg_left ?_ (Fi d i);unfold AP toE
    by_cases e:p.2/2=i
    ·rw[Vs e];have:(List.filter (fun p=>decide (1<p.1)&&p.2/2 == i) (p::l)).length<=(List.filter (fun p=>decide (1<p.1)&&p.2/2 == i) l).length+1:=by
      rw[List.filter_cons];split<;>simp
     omega
    . rw[Vn e,XA (by simp[e])];omega
   have h2:=IU (Fi d) p.2 k;have h3:=LW d (p.2/2) 0 (fun _ _=>Vu _);rw[E4] at h1;rw[VG,Int.natCast_add,Int.add_mul];simp only[Nat.sub_zero] at h3;have h4:((1:Nat):Int)*((2^d.vars.length:Nat):Int)=((2^d.vars.length:Nat):Int):=by simp
   omega
section
variable {o:Own}
theorem SatE.few (h:SatE K n Od room w0 mb fs nx w o m V)(h0:m.d.dead=0):m.d.pool.many<=fs.length*2^n:=by
 obtain⟨s,hs⟩:=h.is;obtain⟨s2,h2⟩:=hs.store;have h1:=Sr h.ok.store h0 h2.pool.cnt;have h3:=LX m.d m.d.pool.at_.length m.hs;have h4:Ag m.d.pool.at_.length (fun i=>gW m.d i*Aj m.d i)=Ag m.d.pool.at_.length (fun i=>gW m.d i*(AP m.hs i:Int)):=by
  refine B6 _ fun i _=>?_
  cases hb:Aa m.d i with
  | none=>simp[gW,hb]
  | some b=>rw[h.ok.handles.refs i b hb]
 have h5:fs.length=m.hs.length:=by rw[<- h.hs,Vw]
 rw[h5,<- h.vars];have h6:((m.hs.length*2^m.d.vars.length:Nat):Int)=m.hs.length*((2^m.d.vars.length:Nat):Int):=by rw[Int.natCast_mul]
 omega
end
theorem Ss (zs:List Int)(x:Int)(i:Nat):DC zs x i=bub zs i (Ar zs x-i).toNat:=rfl
theorem Su (zs:List Int)(i d:Nat):(bub zs i (d+1)).2=((i+d:Nat):Int)::(bub (AZ zs ((i+d:Nat):Int)) i d).2:=rfl
def IV (a b:List Int)(w:Wd)(e:Ending)(w':Wd):Prop :=
 ∃ v,e=.returned (.tuple #[v,Iv (C0 a b)])/\OwnI w' w.heap.size v (Ca a b)/\Bw w w'
theorem Gr {a b r:List Int}{E:Int}(hE:C0 a b=E)(hr:Ca a b=r)(hs:OwnI w' w.heap.size v r)(hb:Bw w w') :
 IV a b w (.returned (.tuple #[v,Iv E])) w':=⟨v,by rw[hE],by rw[hr];exact hs,hb⟩
def metB (zs:List Int)(k:Nat)(v:Int):Bool:=decide (∃ j,j<k/\at0 zs j=v)
theorem Sv (zs:List Int)(v:Int):metB zs 0 v=false:=by simp[metB]
theorem Sw (zs:List Int)(k:Nat):metB zs (k+1) (at0 zs k)=true:=by simp only[metB,WB];exact⟨k,by omega,rfl⟩
theorem LY (zs:List Int)(k:Nat)(v:Int)(h:at0 zs k≠v):metB zs (k+1) v=metB zs k v:=by
 simp only[metB,decide_eq_decide];constructor
 ·rintro⟨j,hj,he⟩;refine⟨j,?_,he⟩
  by_cases e:j=k
  . subst e;exact(h he).elim
  . omega
 . rintro⟨j,hj,he⟩;exact⟨j,by omega,he⟩
theorem Sx {v:Int}(h:metB zs k v=true):∃ j,j<k/\at0 zs j=v:=by simpa [metB] using h
theorem Sy {v:Int}(h:metB zs k v=false):∀ j,j<k->at0 zs j≠v:=by
 intro j hj he;have:metB zs k v=true:=by simp only[metB,WB];exact⟨j,hj,he⟩
 rw[h] at this;cases this
def Marks (w:Wd)(g:Nat)(zs:List Int)(k base:Nat):Prop :=
 ∃ cur,w.heap[g]?=some (.cells cur 157 (0,0))/\cur.size=64/\∀ u,u<64->cur[u]?=some (.bool (metB zs k ((base+u:Nat):Int)))
theorem Marks.cell {w:Wd}{g:Nat}{zs:List Int}{k base:Nat}(h:Marks w g zs k base)(u:Nat)(hu:u<64):w.cell? (Aw g u)=some (.bool (metB zs k ((base+u:Nat):Int))):=by
 obtain⟨cur,h1,h2,h3⟩:=h;simp only[World.cell?,h1];exact h3 u hu
theorem Marks.frozen {w:Wd}{g:Nat}{zs:List Int}{k base:Nat}(h:Marks w g zs k base)(u:Nat):w.frozen? (Aw g u)=false:=by
 obtain⟨cur,h1,h2,h3⟩:=h;simp[World.frozen?,h1]
theorem Marks.step_out (h:Marks w g zs k base)(hx:¬ ((base:Int)<=at0 zs k/\at0 zs k<base+64)):Marks w g zs (k+1) base:=by
 obtain⟨cur,h1,h2,h3⟩:=h;exact⟨cur,h1,h2,fun u hu=>by rw[LY _ _ _ (by omega)];exact h3 u hu⟩
theorem Marks.step_in {u:Nat}(h:Marks w g zs k base)(hx:at0 zs k=((base+u:Nat):Int))(hu:u<64) :
 Marks (w.setCell (Aw g u) (.bool true)) g zs (k+1) base:=by
 obtain⟨cur,h1,h2,h3⟩:=h;refine⟨cur.setIfInBounds u (.bool true),?_,by simpa using h2,fun v hv=>?_⟩
 . simp[World.setCell,XG,h1]
 ·by_cases e:v=u
  . subst e;rw[Array.getElem?_setIfInBounds_self_of_lt (by omega),<- hx,Sw]
  . rw[Array.getElem?_setIfInBounds_ne (by omega),LY _ _ _ (by omega)];exact h3 v hv
theorem Sz (w:Wd)(zs:List Int)(base:Nat)(cs:List Value)(hcs:cs=List.replicate 64 (.bool false)):Marks (w.alloc (.cells cs.toArray 157)) w.heap.size zs 0 base :=
 ⟨_,Vq w _,by simp[hcs],fun u hu=>by rw[Sv,List.getElem?_toArray,hcs,XV,Vs hu]⟩
def Fj (zs:List Int)(B:Nat):Prop :=
 1<=B->(∀ j,j<zs.length->0<=at0 zs j/\at0 zs j<zs.length)/\∀ i,i<zs.length->∀ l,l<i->at0 zs l=at0 zs i->(B:Int)<=at0 zs i
def Fk (zs:List Int)(B k:Nat):Prop :=
 (∀ j,j<k->0<=at0 zs j/\at0 zs j<zs.length)/\(∀ i,i<k->∀ l,l<i->at0 zs l=at0 zs i->¬ ((B:Int)<=at0 zs i/\at0 zs i<(B:Int)+64))
theorem S0 (zs:List Int):Fj zs 0:=fun h=>by omega
theorem S1 (zs:List Int)(B:Nat):Fk zs B 0:=⟨by omega,by omega⟩
theorem IW {B:Nat}(h:Fk zs B k)(h1:0<=at0 zs k)(h2:at0 zs k<zs.length)
 (h3:¬ ((B:Int)<=at0 zs k/\at0 zs k<(B:Int)+64)\/metB zs k (at0 zs k)=false):Fk zs B (k+1):=by
 refine⟨fun j hj=>?_,fun i hi l hl he=>?_⟩
 ·by_cases e:j=k
  . subst e;exact⟨h1,h2⟩
  . exact h.1 j (by omega)
 ·by_cases e:i=k
  ·subst e;rcases h3 with h3|h3
   . exact h3
   . exact(Sy h3 l hl he).elim
  . exact h.2 i (by omega) l hl he
theorem S3 {B:Nat}(h:Fj zs B)(hi:Fk zs B zs.length):Fj zs (B+64):=by
 refine fun _=>⟨hi.1,fun i g0 l hl he=>?_⟩
 have h2:=hi.2 i g0 l hl he;have h3:=(hi.1 i g0).1
 by_cases hB:1<=B
 . have:=(h hB).2 i g0 l hl he;omega
 . omega
theorem S4 {B:Nat}(h:Fj zs B)(hB:zs.length<=B):Ay zs=true:=by
 rw[BI]
 by_cases h0:1<=B
 . obtain⟨h1,h2⟩:=h h0;exact⟨h1,fun i hi k hk he=>by have:=h2 i hi k hk he;have:=(h1 i hi).2;omega⟩
 . exact⟨by omega,by omega⟩
theorem LZ (hk:k<zs.length)(h:¬ (0<=at0 zs k/\at0 zs k<zs.length)):Ay zs=false:=J5 fun hh=>h (hh.1 k hk)
theorem S5 (hk:k<zs.length)(h:metB zs k (at0 zs k)=true):Ay zs=false:=by
 obtain⟨j,hj,he⟩:=Sx h;exact J5 fun hh=>hh.2 k hk j hj he
theorem CC (a:Option Addr)(c:Nat)(zs:List Int)(w:Wd)(h:Au w a zs)(hlen:zs.length<1000000) :
 Cl 68 #[.slice a zs.length c] w (Bl (.bool (Ay zs)) w):=by
 obtain⟨hl,hc⟩:=h;have gi:Hq (∀ k,k<zs.length->∃ b off,a=some (Aw b off)/\b<w.heap.size/\w.cell? (Aw b (off+k))=some (Iv (at0 zs k))):=fun k hk=>by
  obtain⟨b,off,h1,h2⟩:=hc k hk;exact⟨b,off,h1,Ah h2,h2⟩
 clear hc
 go_enter func68,ntmps68
 go_wp2
 go_loopw [3] (fun s3 wr=>∃ B:Nat,s3=Iv B/\B<=zs.length+63/\Fj zs B/\Bw w wr/\w.heap.size<=wr.heap.size) (fun i _=>zs.length+64-(intOf i).toNat)
 case atStart=>exact⟨0,rfl,by omega,S0 zs,VA _ _,Vo _⟩
 case round =>
  obtain⟨B,rfl,hB,hrel,g9,ga⟩:=hrel;have HR:=Hd hrel;clear hrel
  by_cases gn:B<zs.length
  ·go_wp2
   obtain⟨wo,rfl⟩:=Ex (wr:Wd)
   go_loopw [16] (fun i wi=>∃ k:Nat,k<=zs.length/\i=Iv k/\Fk zs B k/\Marks wi wo.heap.size zs k B/\Bw w wi/\w.heap.size<=wi.heap.size) (fun i _=>zs.length-(intOf i).toNat)
   case atStart=>exact⟨0,by omega,rfl,S1 zs B,Sz _ _ _ _ rfl,g9.alloc ga _,by simp;omega⟩
   case round =>
    obtain⟨k,hk,rfl,gc,hm,g0,g2⟩:=hrel;have g4:=Hd gc;have HM:=Hd hm;clear gc hm
    by_cases g3:k<zs.length
    ·obtain⟨b,off,rfl,gh,ge⟩:=gi.o k g3;have gl:=(g0.cell (p:=(Aw b (off+k))) gh).trans ge;clear ge
     by_cases hx:0<=at0 zs k/\at0 zs k<zs.length
     ·obtain⟨g6,g5⟩:=hx
      by_cases g1:(B:Int)<=at0 zs k/\at0 zs k<(B:Int)+64
      ·obtain⟨gk,gj⟩:=g1;have g7:((at0 zs k).toNat-B)<64:=by omega
       have g8:at0 zs k=((B+((at0 zs k).toNat-B):Nat):Int):=by omega
       have gf:=HM.o.cell _ g7;have gr:=HM.o.frozen ((at0 zs k).toNat-B);rw[<- g8] at gf;have HU:=Hd g8
       generalize gd:metB zs k (at0 zs k)=mb at gf
       have gg:=Hd gd;clear gd g8;cases mb
       ·go_wp2
        go_roundw
        case rel=>exact⟨k+1,by omega,by go_num,IW g4.o g6 g5 (.inr gg.o),HM.o.step_in HU.o g7,g0.setCell ga _,by simp;omega⟩
        case measure=>simp[intOf];omega
       ·go_wp2
        go_ret;exact⟨BH (S5 g3 gg.o).symm,g0⟩
      ·have HW:=Hd g1
       by_cases go:at0 zs k<(B:Int)
       ·clear g1
        go_wp2
        go_roundw
        case rel=>exact⟨k+1,by omega,by go_num,IW g4.o g6 g5 (.inl HW.o),HM.o.step_out HW.o,g0,g2⟩
        case measure=>simp[intOf];omega
       ·have gp:(B:Int)+64<=at0 zs k:=by omega
        clear g1
        go_wp2
        go_roundw
        case rel=>exact⟨k+1,by omega,by go_num,IW g4.o g6 g5 (.inl HW.o),HM.o.step_out HW.o,g0,g2⟩
        case measure=>simp[intOf];omega
     ·have HX:=Hd hx
      by_cases gm:at0 zs k<0
      ·clear hx
       go_wp2
       go_ret;exact⟨BH (LZ g3 HX.o).symm,g0⟩
      ·have gq:(zs.length:Int)<=at0 zs k:=by omega
       clear hx
       go_wp2
       go_ret;exact⟨BH (LZ g3 HX.o).symm,g0⟩
    ·obtain rfl:k=zs.length:=by omega
     go_wp2
     go_roundw
     case rel=>exact⟨B+64,by go_num,by omega,S3 HR.o g4.o,g0,g2⟩
     case measure=>simp[intOf];omega
  ·go_wp2
   go_ret;exact⟨BH (S4 HR.o (by omega)).symm,g9⟩
theorem S6 {o:Oper}(hgd:o.guard=none)(d s:Operand)
 (ho:o.op=.call { callee:=.builtin .copy,args:=#[d,s],argTypes:=#[22,22] })
 (base g:Nat) (w0:Wd) (zs:List Int) (xs:List Value) (ao:Option Addr) (c:Nat) (hd:a.eval d=.slice (some (Av g)) zs.length zs.length) (hs:a.eval s=.slice ao zs.length c)
 (hown:wr.ownsRow base 3 1 (.slice (some (Av g)) zs.length zs.length) zs.length xs) (hzs:Au wr ao zs) (hb:Below base w0 wr)
 (h:∀ v' w',OwnI w' base (.slice (some (Av g)) zs.length zs.length) zs->Below base w0 w'->base<=w'.heap.size->wpList prog ops Q rest (a.put o.dst v') w') :
 wpList prog ops Q (o::rest) a wr:=by
 obtain⟨g9,hx⟩:=hown;rcases hx with ⟨hv,_⟩|⟨g',cap,cur,hv,g2,hg,ga,g5,g1,g8⟩
 . cases hv
 ·simp only[X1,VY,Addr.mk.injEq,and_true,true_and] at hv;obtain⟨rfl,rfl⟩:=hv;refine wpList_copy_splice (w:=wr) hgd d s 22 22 ho 3 underlying22 (by obtain⟨i,hi,_,g4,_⟩:=Xv Ed;rw[hi];simp[g4])
   _ _ _ _ _ _ hd hs g 0 cur.toList 3 (by simpa using hg) (Aq zs) (by simp[Aq]) ?_ (by simp[Aq,g1]) (ints_oneCell .i64 zs) base w0 hb g2 ?_
  ·intro hp;rw[Fv] at hp;obtain⟨b,off,rfl,_⟩:=hzs.cells 0 hp;refine⟨rfl,_,rfl,fun j v hj=>?_⟩;have g0:j<zs.length:=by
    rcases VB j zs.length with h'|h'
    . exact h'
    . simp[Aq,VE h'] at hj
   obtain⟨b',off',g7,hc⟩:=hzs.cells j g0;cases g7;simp[Aq,getElem?_at0 g0] at hj;subst hj;have g3:((Aw b off):Addr).add j=(Aw b (off+j)):=by unfold Addr.add;split<;>simp_all
   rw[g3];exact hc
  ·intro w' hh g6;refine h _ w' ⟨by simp[Aq],.inr ⟨g,_,(Aq zs).toArray,rfl,g2,?_,Vo _,g5,by simp[Aq],by simp[Aq,WA]⟩⟩ g6 ?_
   ·have:_=_:=hh;rw[this];have hl:cur.toList.length=zs.length:=by simp[g1]
    simp[splice,Aq,List.drop_eq_nil_of_le,hl]
   . have h1:_=_:=hh;have:=(Vm.1 h1).1;omega
theorem E5 (a:Option Addr)(c:Nat)(zs:List Int)(w:Wd)(h:Au w a zs)(hlen:zs.length<1000000) :
 Cl 154 #[.slice a zs.length c] w fun e w'=>∃ g,e=.returned (.slice (some (Av g)) zs.length zs.length)/\OwnI w' w.heap.size (.slice (some (Av g)) zs.length zs.length) zs/\Bw w w':=by
 obtain⟨i,hi,hz,g3,g4⟩:=Xv Ed;have HI:=Hd h;clear h
 go_enter func154,ntmps154
 go_wp2_with (first
  | (at_make;refine wpList_make_full _ rfl _ _ 22 rfl w.heap.size 3 i (.int .i64 0) 1 underlying22 hi hz g3 .i64 .i64 _ _ zs.length rfl rfl rfl rfl (by rw[g4];omega) (by unfold maxLen;omega) (Vo _) ?_;intro w1 g1 g2)
  | (with_reducible refine S6 rfl (.tmp 7) (.tmp 8) rfl w.heap.size w.heap.size w zs _ a c rfl rfl (by exact g1) (HI.o.keep (EA g2) (by simp)) ((VA _ _).grown g2 (Vo _) (by simp)) ?_;intro v2 w2 g0 g5 g6))
 go_ret;exact⟨_,rfl,g0,g5⟩
theorem S7 (a:Option Addr)(c:Nat)(zs:List Int)(x:Int)(w:Wd)(h:Au w a zs) :
 Cl 76 #[.slice a zs.length c,Iv x] w fun e w'=>e=.returned (Iv (Ar zs x))/\∃ n,w'=w.drewN n:=by
 obtain⟨hl,hc⟩:=h;have HC:=Hd hc;clear hc
 go_enter func76,ntmps76
 go_wp2
 go_loop [8] (fun i=>∃ k:Nat,k<=zs.length/\i=Iv k/\∀ j,j<k->at0 zs j≠x) (fun i=>zs.length-(intOf i).toNat)
 case atStart=>exact⟨0,Vu _,rfl,by omega⟩
 case round =>
  obtain⟨k,hk,rfl,hrel⟩:=hrel;have HR:=Hd hrel;clear hrel
  by_cases g0:k<zs.length
  ·obtain⟨b,off,rfl,g1⟩:=HC.o k g0
   by_cases hx:at0 zs k=x
   ·have H1:(x == at0 zs k)=true:=by simpa using hx.symm
    have HX:=Hd hx;clear hx
    go_wp2
    go_ret;exact⟨G8 (GB g0 HX.o HR.o).symm,0,rfl⟩
   ·have H1:(x == at0 zs k)=false:=by simpa using(fun e=>hx e.symm)
    go_wp2
    go_round
    case rel=>exact⟨k+1,by omega,by go_num,fun j hj=>by
     by_cases e:j=k
     . subst e;exact hx
     . exact HR.o j (by omega)⟩
    case measure=>simp[intOf];omega
  ·go_wp2
   go_ret;exact⟨G8 (J4 (fun j hj=>HR.o j (by omega))).symm,0,rfl⟩
theorem OwnI.len {a:Option Addr}(h:OwnI w base (.slice a n c) zs):n=zs.length:=by
 rcases h.2 with ⟨hv,h0⟩|⟨g,cap,cur,hv,_⟩
 . simp only[X1] at hv;omega
 . simp only[X1] at hv;omega
theorem OwnI.intsAt {a:Option Addr}(h:OwnI w base (.slice a n c) zs)(hl:zs.length<=9223372036854775807):Au w a zs:=by
 obtain rfl:=h.len;exact G9 hl h
theorem S8 {a:Option Addr}{x:Int}(hn:n=zs.length)(h:Au w a zs) :
 Cl 76 #[.slice a n c,Iv x] w fun e w'=>e=.returned (Iv (Ar zs x))/\∃ n,w'=w.drewN n:=by
 subst hn;exact S7 a c zs x w h
theorem S9 (va vb:Value)(xs ys:List Int)(w:Wd)(h:SliceIs w va xs)(h':SliceIs w vb ys)(hlen:xs.length<=1000)(hlen':ys.length<=1000) :
 Cl 151 #[va,vb] w (IV xs ys w):=by
 obtain⟨a,c,rfl,ha,gT⟩:=h;obtain⟨b,c',rfl,hb,gS⟩:=h';have HA:=Hd ha;have HB:=Hd hb;clear ha hb gT gS
 by_cases hr:Ay xs=true
 ·by_cases g1:Ay ys=true
  ·by_cases hl:xs.length=ys.length
   ·have HE:Hq (C0 xs ys=0):=by unfold C0;rw[Vs ⟨hr,g1⟩,Vs hl];rfl
    have HF:Hq (Ca xs ys=Ct xs ys 0):=by unfold Ca;rw[Vs ⟨hr,g1,hl⟩];rfl
    have HR:=Hd hr;have g8:=Hd g1;have H3:((xs.length:Int) != ys.length)=false:=by simp[hl]
    clear hr g1 hl
    go_enter func151,ntmps151
    go_wp2_with fail;refine(CC _ _ xs _ HA.o (by omega)).mono ?_;rintro e w1 ⟨rfl,g0⟩;rw[HR.o];go_wp2_with fail;refine(CC _ _ ys _ (HB.o.below g0) (by omega)).mono ?_;rintro e w2 ⟨rfl,g7⟩;rw[g8.o];have g4:Bw w w2:=g0.trans (g7.mono g0.size);go_wp2_with fail;refine(E5 _ _ xs _ (HA.o.below g4) (by omega)).mono ?_;rintro e w3 ⟨g,rfl,gc,gm⟩;have ga:=g4.size;have hg:w2.heap.size<=g:=(gc.lt g rfl).1;have h5:Bw w w3:=g4.trans (gm.mono ga);have gN:w2.heap.size<=w3.heap.size:=gm.size;go_wp2_with fail
    go_loopw [6,30] (fun s6 s30 wr=>∃ (k:Nat) (cur out:List Int),k<=ys.length/\s30=Iv k/\OwnI wr w2.heap.size (.slice (some (Av g)) xs.length xs.length) cur/\cur.length=xs.length/\OwnI wr w2.heap.size s6 out/\s6.ownBlock≠some g/\out.length<=k*1000/\out++Ct cur (ys.drop k) k=Ct xs ys 0/\w2.heap.size<=wr.heap.size/\Bw w2 wr) (fun _ s30 _=>ys.length-(intOf s30).toNat)
    case atStart=>exact⟨0,xs,[],by omega,rfl,gc,rfl,DB _ _,by simp[Value.ownBlock],by simp,by simp,gN,gm⟩
    case round =>
     obtain⟨k,cur,out,hk,rfl,gk,gx,gf,gu,hf,gr,gM,g9⟩:=hrel;have gB:=Hd gr;have gn:=Hd gx;have h1:=Hd gu;have h7:cur.length<=1000:=by omega
     clear gr gx gu;have h3:=Hd (HB.o.below (g4.trans (g9.mono ga)))
     by_cases gv:k<ys.length
     ·obtain⟨bb,off,rfl,h4⟩:=h3.o.cells k gv;have h2:=Hd (J9 cur ys k gv);have HCI:=Hd (gk.intsAt (by omega));go_wp2_with fail;refine(S8 gn.o.symm (HCI.o.drewN 0)).mono ?_;rintro e w' ⟨rfl,n,rfl⟩;have gt:=J7 cur (at0 ys k);have hp2:=J8 cur (at0 ys k);have gG:=Hd (Ss cur (at0 ys k) k)
      generalize Ar cur (at0 ys k)=p at gt hp2 gG ⊢
      go_wp2_with fail;have gQ:p<xs.length\/p<=0:=by have:=gn.o;omega
      obtain⟨N,F,HN⟩:∃ (N F:List Int),Hq (N=(bub cur k (p-k).toNat).1/\F=out++(bub cur k (p-k).toNat).2):=⟨_,_,rfl,rfl⟩
      go_loopw [6,10] (fun s6 s10 wi=>∃ (d:Nat) (c1 o1:List Int) (q:Int),s10=Iv q/\-1<=q/\q<=1000/\(q<xs.length\/q<=0)/\(q<=k->d=0)/\(k<q->q=k+d)/\OwnI wi w2.heap.size (.slice (some (Av g)) xs.length xs.length) c1/\c1.length=xs.length/\OwnI wi w2.heap.size s6 o1/\s6.ownBlock≠some g/\o1.length+d<=(k+1)*1000/\N=(bub c1 k d).1/\F=o1++(bub c1 k d).2/\w2.heap.size<=wi.heap.size/\Bw w2 wi) (fun _ s10 _=>(intOf s10+1).toNat)
      case atStart=>exact⟨(p-k).toNat,cur,out,p,rfl,gt,by omega,gQ,by omega,by omega,gk.drewN n,gn.o,gf.drewN n,h1.o,by omega,HN.o.1,HN.o.2,gM,Cr g9 n⟩
      case round =>
       obtain⟨d,c1,o1,q,rfl,he,hd,gP,gj,gw,g3,gl,g6,gg,h6,hN,hF,ge,gd⟩:=hrel;have gD:=Hd hN;have gF:=Hd hF;have go:=Hd gl;have g5:=Hd gg;have h8:c1.length<=1000:=by omega
       clear hN hF gl gg
       by_cases hc:(k:Int)<q
       ·obtain⟨d,rfl⟩:∃ l,d=l+1:=⟨d-1,by omega⟩;have gO:q=(k:Int)+d+1:=by omega
        subst gO;have gU:k+d+1<xs.length:=by omega
        have gJ:k+d+1<c1.length:=by rw[go.o];exact gU
        clear gj gw gP;have h9:IntKind.i64.wrap ((k:Int)+d+1-1)=((k+d:Nat):Int):=by rw[Wq _ (by omega)];omega
        have q0:=g3.cell (k+d) (by omega);have q1:=g3.cell (k+d+1) (by omega);have p0:=g3.frozen (k+d);have p1:=g3.frozen (k+d+1);have t0:((k:Int)+d).toNat=k+d:=by omega
        have t1:((k:Int)+d+1).toNat=k+d+1:=by omega
        go_wp2_with fail
        go_region
        have gZ:=Hd (J6 (zs:=c1) (k:=k+d) gJ);have gX:=((g3.stored (k+d) (at0 c1 (k+d+1))).stored (k+d+1) (at0 c1 (k+d))).drewN 1;have gR:=((g6.setCell_other (a:=(Aw g (k+d))) g5.o (Iv (at0 c1 (k+d+1)))).setCell_other (a:=(Aw g (k+d+1))) g5.o (Iv (at0 c1 (k+d)))).drewN 1;have gY:=Cr ((gd.setCell (p:=(Aw g (k+d))) hg (Iv (at0 c1 (k+d+1)))).setCell (p:=(Aw g (k+d+1))) hg (Iv (at0 c1 (k+d)))) 1;have gV:=(g3.lt g rfl).2;go_wp2_with (at_builtin;go_loud (refine CQ _ rfl _ _ rfl w2.heap.size w2 _ o1 _ rfl rfl (by rfl) (by simp) gR (by omega) (by simpa using ge) gY ?_);intro v2 w4 gp gq gH gh);have gy:=gX.keep gh.keep (fun x hx gL=>by cases hx;exact g5.o gL.symm);rw[<- gZ.o] at gy;have gI:=gh.ne g5.o (by simpa using gV);go_roundw
        case rel=>exact⟨d,AZ c1 ((k+d:Nat):Int),o1++[((k+d:Nat):Int)],((k+d:Nat):Int),by go_num,by omega,by omega,by omega,by omega,by omega,gy,by rw[EB];exact go.o,gp,gI,by simp;omega,gD.o,by rw[gF.o,Su];simp,gH,gq⟩
        case measure=>simp[intOf];omega
       ·obtain rfl:=gj (by omega);have h0:=Hd g6;have gz:N=c1:=gD.o;have gA:F=o1:=by rw[gF.o];simp[bub]
        have gC:=Hd gz;have gE:=Hd gA;clear gz gA gj gw g6
        go_wp2
        go_roundw
        case rel=>exact⟨k+1,N,F,by omega,by go_num,by rw[gC.o];exact g3,by rw[gC.o];exact go.o,by rw[gE.o];exact h0.o,g5.o,by rw[gE.o];omega,by
         rw[HN.o.1,HN.o.2,<- gB.o,h2.o,gG.o];simp,ge,gd⟩
        case measure=>simp[intOf];omega
     ·obtain rfl:k=ys.length:=by omega
      have gi:Ct xs ys 0=out:=by rw[<- gB.o];simp[Ct]
      have gK:=Hd gi;clear gi
      go_wp2
      go_ret2
      exact Gr HE.o (HF.o.trans gK.o) (gf.lower ga) (g4.trans (g9.mono ga))
   ·have HE:Hq (C0 xs ys=3):=by unfold C0;rw[Vs ⟨hr,g1⟩,Vn hl];rfl
    have HF:Hq (Ca xs ys=[]):=by unfold Ca;rw[Vn (fun hh=>hl hh.2.2)];rfl
    have HR:=Hd hr;have g8:=Hd g1;have H3:((xs.length:Int) != ys.length)=true:=by simp;omega
    clear hr g1 hl
    go_enter func151,ntmps151
    go_wp2_with fail;refine(CC _ _ xs _ HA.o (by omega)).mono ?_;rintro e w1 ⟨rfl,g0⟩;rw[HR.o];go_wp2_with fail;refine(CC _ _ ys _ (HB.o.below g0) (by omega)).mono ?_;rintro e w2 ⟨rfl,g7⟩;rw[g8.o];go_wp2_with fail
    go_ret2
    exact Gr HE.o HF.o (DB _ _) (g0.trans (g7.mono g0.size))
  ·have HE:Hq (C0 xs ys=1):=by unfold C0;rw[Vn (fun hh=>g1 hh.2)];rfl
   have HF:Hq (Ca xs ys=[]):=by unfold Ca;rw[Vn (fun hh=>g1 hh.2.1)];rfl
   have g2:Ay ys=false:=by simpa using g1
   have HR:=Hd hr;have g8:=Hd g2;clear hr g1 g2
   go_enter func151,ntmps151
   go_wp2_with fail;refine(CC _ _ xs _ HA.o (by omega)).mono ?_;rintro e w1 ⟨rfl,g0⟩;rw[HR.o];go_wp2_with fail;refine(CC _ _ ys _ (HB.o.below g0) (by omega)).mono ?_;rintro e w2 ⟨rfl,g7⟩;rw[g8.o];go_wp2_with fail
   go_ret2
   exact Gr HE.o HF.o (DB _ _) (g0.trans (g7.mono g0.size))
 ·have HE:Hq (C0 xs ys=1):=by unfold C0;rw[Vn (fun hh=>hr hh.1)];rfl
  have HF:Hq (Ca xs ys=[]):=by unfold Ca;rw[Vn (fun hh=>hr hh.1)];rfl
  have g2:Ay xs=false:=by simpa using hr
  have HR:=Hd g2;clear hr g2
  go_enter func151,ntmps151
  go_wp2_with fail;refine(CC _ _ xs _ HA.o (by omega)).mono ?_;rintro e w1 ⟨rfl,g0⟩;rw[HR.o];go_wp2_with fail
  go_ret2
  exact Gr HE.o HF.o (DB _ _) g0
end Go.Proofs.YtkidaindpahefaaGreat
namespace Go.Proofs
open Go.Proofs.Tryz
open Go.Shelf
end Go.Proofs
namespace Go.Proofs.YtkidaindpahefaaGreat
open Go.Proofs.Tryz
open Go.RowKit
variable {C:Nat->Prop}{F G:BF}{K:Law}{N:Nat->Option BN}{Od P':List Nat->Prop}{P:Program}{Q:Exit->Act->Wd->Prop}{R:Role->Prop}{S:Wd->Prop}{T:TypeId}{V V':Nat->BF}{W W' w w' w'' w0 w1:Wd}{a:Act}{args:Array Value}{base c e f g i j k mb n nk room sb:Nat}{bs:List Bool}{d d':Ae}{fs fs' hs:List (Int×BF)}{ks zs:List Int}{last:Bool}{m m':ManD}{nx nx' op:Int}{o':Own}{ops:Array Oper}{r:List (Option Oper×Bool)}{v v' vl vx z:Value}{xs:List Value}
theorem Gt {B:Nat}{a:Wd}(hg:B<=g)(ys:List Value):∀ (w:Wd) (o:Nat),Below B a w->Below B a (w.setCells g o ys):=by
 induction ys with
 | nil=>intro w o h;exact h
 | cons y ys ih=>intro w o h;exact ih _ _ (h.setCell hg _)
theorem OwnI.setCells {base g n c:Nat}(ys:List Int):∀ (w:Wd) (o:Nat) (zs:List Int),OwnI w base (.slice (some (Av g)) n c) zs->o+ys.length<=zs.length ->
 OwnI (w.setCells g o (Aq ys)) base (.slice (some (Av g)) n c) (zs.take o++ys++zs.drop (o+ys.length)):=by
 induction ys with
 | nil=>intro w o zs h _;simpa [Aq,World.setCells] using h
 | cons y ys ih =>
   intro w o zs h hl;simp only[VG] at hl;have h1:=ih (w.setCell (Aw g o) (Iv y)) (o+1) (zs.set o y) (h.stored o y) (by simp;omega);have e:(zs.set o y).take (o+1)++ys++(zs.set o y).drop (o+1+ys.length)=zs.take o++(y::ys)++zs.drop (o+(y::ys).length):=by
    have e1:(zs.set o y).take (o+1)=zs.take o++[y]:=by
     rw[List.set_eq_take_append_cons_drop,Vs (by omega),List.take_append];simp;have:min o zs.length=o:=by omega
     rw[this];simp
     exact WA (by simp;omega)
    have e2:(zs.set o y).drop (o+1+ys.length)=zs.drop (o+1+ys.length):=by
     rw[List.drop_set];rw[Vs (by omega)]
    rw[e1,e2];simp[Xu,Nat.add_comm 1 ys.length]
   rw[e] at h1;exact h1
section
variable {o:Own}
theorem Au.chg {a:Option Addr}(h:Au w a zs)(hc:Chg R o o' w w')(hn:∀ x,a=some x->o x.block=none):Au w' a zs :=
 ⟨h.len,fun k hk=>by
  obtain⟨b,off,rfl,hc1⟩:=h.cells k hk;exact⟨b,off,rfl,hc.cell (p:=(Aw b (off+k))) hc1 (hn (Aw b off) rfl)⟩⟩
end
section
variable {o:Own}
structure NewH (K:Law)(n:Nat)(Od:List Nat->Prop)(room:Nat)(w0:Wd)(mb:Nat)(fs:List (Int×BF))(nx:Int)(o:Own)(w:Wd)(m:ManD)(V:Nat->BF)(F:BF)(o':Own)(w':Wd)(m':ManD):Prop where
 sat:SatE K n Od room w0 mb (fs++[(nx,F)]) (nx+1) w' o' m' V
 waits:m'.waits=m.waits
 calls:m'.calls=m.calls
 nodes:Aa m'.d=Aa m.d
 vars:m'.d.vars=m.d.vars
 many:m'.d.pool.many=m.d.pool.many
 chg:Chg (fun _=>True) o o' w w'
theorem SA (hK:Bb K)(h:SatE K n Od room w0 mb fs nx w o m V)(hn:nx<549755813888){k:Int}(hk:(k,F)∈fs) :
 Cl 114 #[Pt mb,Iv k] w fun x w'=>x=.returned (.tuple #[Iv nx,Iv 0])/\∃ o' m',NewH K n Od room w0 mb fs nx o w m V F o' w' m':=by
 obtain⟨f,hf,rfl⟩:=h.find hk;obtain⟨s,hs⟩:=h.is;obtain⟨c0,c1,c2,c3,c4,c5,f0⟩:=cells6 hs.blk;have hl:=Er hs h.ok.handles.nodup hf;have hnx:=h.next
 have HG:=Hd (Is hK h.is h.lt h.ok f (h.ok.handles.ok _ hf) (by rw[hnx];omega));have H:=Hd h;rw[hnx] at HG;clear hs h hf hk hnx
 go_enter func114,ntmps114
 go_wp2_with fail;refine HG.o.mono ?_;rintro x w1 ⟨rfl,o',m',hg⟩;have HQ:Hq (NewH K n Od room w0 mb fs nx o w m V (ef V f) o' w1 m'):=Hd ⟨H.o.gave hg,hg.waits,hg.calls,hg.nodes,hg.vars,hg.many,hg.chg⟩;clear hg;go_wp2_with fail
 go_ret2
 exact⟨rfl,_,_,HQ.o⟩
theorem SB (h:okE N e):okE N (enot e):=by
 unfold okE at h ⊢;rw[DE];exact h
theorem SC (hK:Bb K)(h:SatE K n Od room w0 mb fs nx w o m V)(hn:nx<549755813888){k:Int}(hk:(k,F)∈fs) :
 Cl 117 #[Pt mb,Iv k] w fun x w'=>x=.returned (.tuple #[Iv nx,Iv 0])/\∃ o' m',NewH K n Od room w0 mb fs nx o w m V (fun ρ => !F ρ) o' w' m':=by
 obtain⟨f,hf,rfl⟩:=h.find hk;obtain⟨s,hs⟩:=h.is;obtain⟨c0,c1,c2,c3,c4,c5,f0⟩:=cells6 hs.blk;have hl:=Er hs h.ok.handles.nodup hf;have hnx:=h.next
 have g0:=h.ok.handles.ok _ hf;have g1:f<eMax:=by
  obtain⟨s2,h2⟩:=hs.store;have:=h2.edge_lt g0;unfold eMax;omega
 have HG:=Hd (Is hK h.is h.lt h.ok (enot f) (SB g0) (by rw[hnx];omega));have g2:=Hd (GE f w g1);have H:=Hd h;rw[hnx] at HG;clear hs h hf hk hnx g0 g1
 go_enter func117,ntmps117
 go_wp2_with fail;refine g2.o.mono ?_;rintro x w1 ⟨rfl,rfl⟩;go_wp2_with fail;refine HG.o.mono ?_;rintro x w1 ⟨rfl,o',m',hg⟩
 have HQ:Hq (NewH K n Od room w0 mb fs nx o w m V (fun ρ => !ef V f ρ) o' w1 m'):=Hd (by
  have e:(fun ρ => !ef V f ρ)=ef V (enot f):=by funext ρ;rw[DF]
  rw[e];exact⟨H.o.gave hg,hg.waits,hg.calls,hg.nodes,hg.vars,hg.many,hg.chg⟩)
 clear hg;go_wp2_with fail
 go_ret2
 exact⟨rfl,_,_,HQ.o⟩
theorem SatE.nofind (h:SatE K n Od room w0 mb fs nx w o m V){k:Int}(hk:∀ p∈fs,p.1≠k):∀ f,(k,f)∉m.hs:=by
 intro f hf;refine hk (k,ef V f) ?_ rfl;rw[<- h.hs];exact Vz.2 ⟨(k,f),hf,rfl⟩
theorem IX (h:SatE K n Od room w0 mb fs nx w o m V){k:Int}(hk:(k,F)∈fs) :
 Cl 20 #[Pt mb,Iv k] w (Sm (.bool true) w):=by
 obtain⟨f,hf,rfl⟩:=h.find hk;obtain⟨s,hs⟩:=h.is;obtain⟨c0,c1,c2,c3,c4,c5,f0⟩:=cells6 hs.blk;have hl:=Er hs h.ok.handles.nodup hf;clear hs h hf hk
 go_enter func20,ntmps20
 go_wp2_with fail;go_ret;exact⟨rfl,rfl⟩
theorem SD (h:SatE K n Od room w0 mb fs nx w o m V){k:Int}(hk:∀ p∈fs,p.1≠k) :
 Cl 20 #[Pt mb,Iv k] w (Sm (.bool false) w):=by
 have g0:=h.nofind hk;obtain⟨s,hs⟩:=h.is;obtain⟨c0,c1,c2,c3,c4,c5,f0⟩:=cells6 hs.blk;have hl:=PQ hs g0;clear hs h g0 hk
 go_enter func20,ntmps20
 go_wp2_with fail;go_ret;exact⟨rfl,rfl⟩
end
def delK {α:Type}(k:Int)(l:List (Int×α)):List (Int×α):=l.filter fun p=>decide (p.1≠k)
theorem IY {α:Type}{k:Int}{l:List (Int×α)}(h:∀ p∈l,p.1≠k):delK k l=l:=by
 unfold delK;rw[List.filter_eq_self];intro p hp;simp[h p hp]
theorem IZ {α:Type}{x:Int×α}{l:List (Int×α)}(h:((x::l).map Prod.fst).Nodup):∀ p∈l,p.1≠x.1:=by
 intro p hp e;rw[Wx,Xm] at h;exact h.1 (Vz.2 ⟨p,hp,e⟩)
theorem Ma {α:Type}{x:Int×α}{l:List (Int×α)}(h:((x::l).map Prod.fst).Nodup):delK x.1 (x::l)=l:=by
 have h1:=IY (IZ h);unfold delK at h1 ⊢;rw[XA (by simp),h1]
abbrev XW:=@List.filter_cons_of_pos
theorem Mb {α:Type}{k:Int}{x:Int×α}{l:List (Int×α)}(h:x.1≠k):delK k (x::l)=x::delK k l:=by
 unfold delK;rw[XW (by simp[h])]
theorem Mc {α:Type}{k:Int}:∀ (l:List (Int×α)) (j:Nat) (hj:j<l.length),(l.map Prod.fst).Nodup->l[j].1=k->l.eraseIdx j=delK k l
 | x::l,0,_,hn,hk=>by
   have e:x.1=k:=hk;subst e;rw[Ma hn];rfl
 | x::l,j+1,hj,hn,hk=>by
   have hj':j<l.length:=by simpa using hj
   have g0:l[j].1=k:=by simpa using hk
   have hx:x.1≠k:=by
    intro e;exact IZ hn l[j] (Vv hj') (g0.trans e.symm)
   have g1:(l.map Prod.fst).Nodup:=by rw[Wx,Xm] at hn;exact hn.2
   rw[Mb hx,List.eraseIdx_cons_succ,Mc l j hj' g1 g0]
theorem Md {α β:Type}(k:Int)(l:List (Int×α))(g:Int×α->Int×β)(hg:∀ p,(g p).1=p.1):(delK k l).map g=delK k (l.map g):=by
 unfold delK;rw[List.filter_map];congr 1;refine List.filter_congr fun p _=>?_
 simp[hg]
theorem SE {k:Int}{l:List (Int×Value)}(hn:(l.map Prod.fst).Nodup)(hk:(k,v)∈l):delL k l=delK k l:=by
 unfold delL;cases e:AE k l 0 with
 | none =>
   have h1:=DK hn hk;unfold getL at h1;rw[e] at h1;cases h1
 | some p =>
   obtain⟨j,u⟩:=p;have h2:=Dg e;obtain⟨q,h3,h4⟩:=h2;have hq:j=q:=by omega
   subst hq;obtain⟨h5,h6⟩:=Wf.1 h4;exact Mc l j h5 hn (by rw[h6])
theorem Gu {α:Type}{k:Int}{l:List (Int×α)}{p:Int×α}:p∈delK k l↔p∈l/\p.1≠k:=by
 unfold delK;rw[WD];simp
theorem Me {k:Int}{f:Nat}(h1:1<k):∀ (hs:List (Int×Nat)),(hs.map Prod.fst).Nodup->(k,f)∈hs->∀ i,AP hs i=AP (delK k hs) i+(if f/2=i then 1 else 0)
 | [],_,h,_=>by cases h
 | x::l,hn,hm,i=>by
   have hn':(l.map Prod.fst).Nodup:=by rw[Wx,Xm] at hn;exact hn.2
   by_cases e:x.1=k
   ·have hx:x=(k,f):=by
     rcases VX.1 hm with h|h
     . exact h.symm
     . exact((IZ hn _ h) e.symm).elim
    subst hx;rw[Ma hn];unfold AP
    by_cases e2:f/2=i
    . rw[XW (by simp[h1,e2]),VG,Vs e2]
    . rw[XA (by simp[e2]),Vn e2];rfl
   ·have g0:(k,f)∈l:=by
     rcases VX.1 hm with h|h
     . rw[<- h] at e;exact(e rfl).elim
     . exact h
    have ih:=Me h1 l hn' g0 i;rw[Mb e];unfold AP at ih ⊢
    by_cases e3:(decide (1<x.1)&&x.2/2 == i)=true
    . rw[XW (p:=fun p:Int×Nat=>decide (1<p.1)&&p.2/2 == i) e3,XW (p:=fun p:Int×Nat=>decide (1<p.1)&&p.2/2 == i) e3,VG,VG];omega
    . rw[XA (p:=fun p:Int×Nat=>decide (1<p.1)&&p.2/2 == i) e3,XA (p:=fun p:Int×Nat=>decide (1<p.1)&&p.2/2 == i) e3];exact ih
theorem SF {k:Int}(h:Ck m)(r:D0 m.d d' f (-1))(hk:(k,f)∈m.hs)(h1:1<k)(h0:Aa m.d 0=none):Ck { m with d:=d',hs:=delK k m.hs }:=by
 have g1:∀ {p:Int×Nat},p∈delK k m.hs->p∈m.hs:=fun hp=>(Gu.1 hp).1
 refine⟨?_,Gu.2 ⟨h.zero,by dsimp only;omega⟩,Gu.2 ⟨h.one,by dsimp only;omega⟩,fun p hp=>h.lt p (g1 hp),h.next,fun p hp=>?_,?_,fun i b hb=>?_⟩
 . exact h.nodup.sublist ((List.filter_sublist).map _)
 ·show okE (Aa d') p.2
  rw[r.nodes];exact h.ok p (g1 hp)
 ·have h2:(delK k m.hs).length<=m.hs.length:=Wk _ _;have h3:=h.len
  show ((delK k m.hs).length:Int)<=m.next
  omega
 ·have g0:Aa m.d i=some b:=by
   have:Aa d' i=some b:=hb;rw[r.nodes] at this;exact this
  have hi:i≠0:=by rintro rfl;rw[h0] at g0;cases g0
  show Aj d' i=(AP (delK k m.hs) i:Int)
  rw[r.ext i hi,h.refs i b g0,Me h1 m.hs h.nodup hk i];unfold toE;split<;>(simp;try omega)
section
variable {o:Own}
theorem SG (h:A2 o w sb m.d)(hlt:Ab o w)(hk:El m V){k:Int}(hf:(k,f)∈m.hs)(h1:1<k)(hn:m.next<549755813888) :
 Cl 163 #[Pt sb,Iv f] w fun x w'=>x=.returned (Iv 0)/\∃ d',A2 o w' sb d'/\Ab o w'/\D0 m.d d' f (-1)/\Chg Al o o w w':=by
 have g0:∀ y b,Aa m.d y=some b->Aj m.d y<1099511627776:=fun y b _=>by have:=LS hk.handles y;omega
 have g1:=hk.handles.ok _ hf;obtain⟨s,h⟩:=h;have g2:=h.edge_lt g1;rcases g1 with h0|⟨b,hb⟩
 . refine(Pe h hlt hk.store.live f (by unfold eMax;omega) h0).mono ?_;rintro e w' ⟨d',h1,h2,h3,h4,h5⟩;exact⟨h1,d',⟨s,h2⟩,h3,h4,h5⟩
 ·have g4:=h.pool.top;have g3:=h.pool.room;refine(Pf h hlt hk.store.live (K6 hk.store) f (b:=b) hb g0 ?_ (fun y c hc=>?_)).mono ?_
  . have h2:=hk.handles.refs (enode f) b hb;have h3:0<AP m.hs (f/2):=LR hf h1;have h4:Aj m.d (enode f)=(AP m.hs (f/2):Int):=h2;omega
  . have h1:=hk.store.live.cnt.le hc;have h2:=g0 y c hc;omega
  . rintro e w' ⟨d',h1,h2,h3,h4,h5⟩;exact⟨h1,d',⟨s,h2⟩,h3,h4,h5⟩
end
def BY {α:Type}(l:List (Int×α))(ks:List Int):List (Int×α):=ks.foldl (fun l k=>if 1<k then delK k l else l) l
theorem Mf {α:Type}{l:List (Int×α)}(hj:j<ks.length):BY l (ks.take (j+1))=if 1<at0 ks j then delK (at0 ks j) (BY l (ks.take j)) else BY l (ks.take j):=by
 unfold BY;rw[Vt hj,X4,Az hj];rfl
section
variable {o:Own}
structure CD (K:Law)(n:Nat)(Od:List Nat->Prop)(room:Nat)(w0:Wd)(mb:Nat)(fs:List (Int×BF))(nx:Int)(o:Own)(w:Wd)(m:ManD)(V:Nat->BF)(o':Own)(w':Wd)(m':ManD):Prop where
 sat:SatE K n Od room w0 mb fs nx w' o' m' V
 waits:m'.waits=m.waits
 calls:m'.calls=m.calls
 nodes:Aa m'.d=Aa m.d
 many:m'.d.pool.many=m.d.pool.many
 chg:Chg (fun _=>True) o o' w w'
theorem CD.trans {fs' fs'':List (Int×BF)}{o'':Own}{w'':Wd}{m'':ManD}(h:CD K n Od room w0 mb fs' nx o w m V o' w' m')(h':CD K n Od room w0 mb fs'' nx o' w' m' V o'' w'' m''):CD K n Od room w0 mb fs'' nx o w m V o'' w'' m'' :=
 ⟨h'.sat,h'.waits.trans h.waits,h'.calls.trans h.calls,h'.nodes.trans h.nodes,h'.many.trans h.many,h.chg.trans h'.chg⟩
theorem SH (hK:Bb K)(h:SatE K n Od room w0 mb fs nx w o m V){k:Int}(hf:(k,f)∈m.hs)(h1:1<k){s:ManW}(hs:A7 (K m.d V) o w mb m s)(hst:A2 o w1 s.sb d')(hl1:Ab o w1)(hr:D0 m.d d' f (-1))(hc1:Chg Al o o w w1) :
 A7 (K m.d V) o w1 mb { m with d:=d' } s/\∃ w2,(Builtin.delete_ #[98,3] 0 #[.map (some s.hb),Iv k]).run prog w1=.ok (.tuple #[]) w2/\CD K n Od room w0 mb (delK k fs) nx o w m V o w2 { m with d:=d',hs:=delK k m.hs }:=by
 have g0:=hs.setStore h.lt hst hc1;refine⟨g0,?_⟩;obtain⟨w2,g3,g5,g1⟩:=g0.map.delete kI underlying98 k 0;refine⟨w2,g3,?_⟩;have he:delL k (encH m.hs)=encH (delK k m.hs):=by
  rw[SE (Ep h.ok.handles.nodup) (v:=Iv (f:Nat)) (Vz.2 ⟨(k,f),hf,rfl⟩)];exact(Md k m.hs (fun p=>(p.1,Value.int .i64 (p.2:Nat))) (fun _=>rfl)).symm
 have g4:A1 w2 s.hb (Value.int .i64) (encH (delK k m.hs)):=by rw[<- he];exact g5
 have g7:=g0.setMap hl1 g4 g1;have g6:Ab o w2:=hl1.mono g1.size;have g2:Chg (fun _=>True) o o w w2:=hc1.any.grown g1 (fun g hg=>by cases hg;exact⟨_,g0.ownh,trivial⟩);refine⟨⟨⟨s,g7.mono fun op a b c r q=>hK.same _ _ _ _ _ _ _ _ hr.vars hr.level hr.nodes q⟩,g6,⟨hr.ok h.ok.store,SF h.ok.handles hr hf h1 h.ok.store.dag.none0⟩,?_,?_,?_,h.next,?_,h.chg.lower (ChgX.of_chg g2 NoB) (fun _ e=>e.elim)⟩,rfl,rfl,hr.nodes,hr.many,g2⟩
 ·show d'.vars.length=n
  rw[hr.vars];exact h.vars
 ·show Od d'.vars
  rw[hr.vars];exact h.od
 ·show d'.pool.room=room
  rw[hr.room];exact h.room
 ·show (delK k m.hs).map (fun p=>(p.1,ef V p.2))=delK k fs
  rw[Md k m.hs (fun p=>(p.1,ef V p.2)) (fun _=>rfl),h.hs]
theorem SI (hK:Bb K)(h:SatE K n Od room w0 mb fs nx w o m V)(hn:nx<549755813888){a:Option Addr}(hks:Au w a ks)(hno:∀ x,a=some x->o x.block=none)
 (hin:∀ j,j<ks.length->∃ F,(at0 ks j,F)∈BY fs (ks.take j)) :
 Cl 118 #[Pt mb,.slice a ks.length c] w fun x w'=>x=.returned (Iv 0)/\∃ o' m',CD K n Od room w0 mb (BY fs ks) nx o w m V o' w' m':=by
 have gk:=hks.len;have g5:Hq (∃ o' m',CD K n Od room w0 mb (BY fs (ks.take 0)) nx o w m V o' w m'/\Au w a ks/\(∀ x,a=some x->o' x.block=none)):=Hd ⟨o,m,⟨h,rfl,rfl,rfl,rfl,Chg.refl _ _ _⟩,hks,hno⟩;have gh:=Hd hin;have HN:=Hd hn;have gg:=Hd hK;clear h hn hks hno hin hK
 go_enter func118,ntmps118
 go_wp2_with fail
 go_loopw [13] (fun s13 wr=>∃ j:Nat,j<=ks.length/\s13=Iv j/\Hq (∃ o' m',CD K n Od room w0 mb (BY fs (ks.take j)) nx o w m V o' wr m'/\Au wr a ks/\(∀ x,a=some x->o' x.block=none))) (fun s13 _=>ks.length-(intOf s13).toNat)
 case atStart=>exact⟨0,Vu _,rfl,g5⟩
 case round =>
  obtain⟨j,hj,rfl,HH⟩:=hrel;obtain⟨oj,mj,hh,hi,hno⟩:=HH.o
  by_cases g6:j<ks.length
  ·obtain⟨b,off,rfl,g3⟩:=hi.cells j g6;obtain⟨s,hs⟩:=hh.sat.is;obtain⟨c0,c1,c2,c3,c4,c5,f0⟩:=cells6 hs.blk;have gl:(j:Int)<ks.length:=by omega
   obtain⟨z,hz⟩:=Ex (at0 ks j);obtain⟨F,hF⟩:=gh.o j g6;rw[<- hz] at hF g3;obtain⟨f,hf,gc⟩:=hh.sat.find hF;have hl:=Er hs hh.sat.ok.handles.nodup hf;have g8:=Hd hh;have gf:=Hd hi;have g7:=Hd hno;have gi:Hq (b<wr.heap.size):=Hd (Ah g3);have g2:=Hd g6;have HZ:=Hd hz;have HS:=Hd hs;have HF:=Hd hf
   by_cases h1:z>1
   ·have HD:=Hd (SG hs.store hh.sat.lt hh.sat.ok hf h1 (by rw[hh.sat.next];exact HN.o));have H1:=Hd h1;clear hh hi hno hs HH g5 hz hF hf gc;go_wp2_with fail;refine HD.o.mono ?_;rintro x w1 ⟨rfl,d',g9,ga,hr,gd⟩;obtain⟨ge,w2,gj,g4⟩:=SH gg.o g8.o.sat HF.o H1.o HS.o g9 ga hr gd;obtain⟨e0,e1,e2,e3,e4,e5,g0⟩:=cells6 ge.blk
    have g1:Hq (CD K n Od room w0 mb (BY fs (ks.take (j+1))) nx o w m V oj w2 { mj with d:=d',hs:=delK z mj.hs }/\Au w2 (some (Aw b off)) ks/\(∀ x,some ((Aw b off):Addr)=some x->oj x.block=none)):=Hd ⟨by
     rw[Mf g2.o,<- HZ.o,Vs H1.o];exact g8.o.trans g4,gf.o.chg g4.chg g7.o,fun x hx=>g4.chg.alien' (by cases hx;exact gi.o) (g7.o x hx)⟩
    clear ge g9 ga hr gd g4 c0 c1 c2 c3 c4 c5 f0 g3 hl;go_wp2_with fail;go_roundw
    case rel=>exact⟨j+1,XI g2.o,by go_num,Hd ⟨_,_,g1.o.1,g1.o.2.1,g1.o.2.2⟩⟩
    case measure =>
     have:=g2.o;simp[intOf];omega
   ·have g1:Hq (CD K n Od room w0 mb (BY fs (ks.take (j+1))) nx o w m V oj wr mj/\Au wr (some (Aw b off)) ks/\(∀ x,some ((Aw b off):Addr)=some x->oj x.block=none)):=Hd ⟨by
     rw[Mf g2.o,<- HZ.o,Vn h1];exact g8.o,gf.o,g7.o⟩
    clear hh hi hno hs HH g5 hz hF hf gc;go_wp2_with fail;go_roundw
    case rel=>exact⟨j+1,XI g2.o,by go_num,Hd ⟨_,_,g1.o.1,g1.o.2.1,g1.o.2.2⟩⟩
    case measure =>
     have:=g2.o;simp[intOf];omega
  ·obtain rfl:j=ks.length:=by omega
   have HF:Hq (∃ o' m',CD K n Od room w0 mb (BY fs ks) nx o w m V o' wr m'):=Hd ⟨oj,mj,by rw[VI] at hh;exact hh⟩;clear hh hi hno HH g5;go_wp2_with fail;go_ret;exact⟨rfl,HF.o⟩
end
section
variable {o:Own}
structure Swapped (K:Law)(n room:Nat)(w0:Wd)(mb:Nat)(fs:List (Int×BF))(nx:Int)(k:Nat)(o:Own)(w:Wd)(m:ManD)(o':Own)(w':Wd)(m':ManD)(V':Nat->BF):Prop where
 sat:SatE K n (fun l=>l=(Be m.d k).vars) room w0 mb fs nx w' o' m' V'
 waits:m'.waits=m.waits
 calls:m'.calls=m.calls
 dead:m'.d.dead=0
 chg:Chg (fun _=>True) o o' w w'
theorem Mg (h:SatE K n Od room w0 mb fs nx w o m V)(hk1:k+1<n)(hn:nx<=549755813888)(hr:3*(fs.length*2^n)<=room) :
 Cl 113 #[Pt mb,Iv k] w fun e w'=>e=.returned (Iv 0)/\∃ o' m' V',Swapped K n room w0 mb fs nx k o w m o' w' m' V':=by
 refine(Sp h hk1 hn).mono ?_;rintro e w' ⟨o',m',V',hm⟩;obtain⟨d0,cr,⟨rfl,e1,e2,g0⟩|⟨rfl,so⟩⟩:=hm.way
 . exfalso;have h1:=hm.sat.few (by rw[e1];exact cr.dead);have h2:=hm.sat.room;rw[e1] at h1 h2;omega
 . refine⟨rfl,o',m',V',⟨hm.sat.withOd ?_,hm.waits,hm.calls,so.dead,hm.chg⟩⟩;rw[so.vars];unfold Be;dsimp only;rw[cr.vars]
end
theorem Mh {α:Type}{p:Int×α}:∀ {ks:List Int} {l:List (Int×α)},p∈l->p.1∉ks->p∈BY l ks
 | [],l,h,_=>h
 | k::ks,l,h,hn=>by
   show p∈BY (if 1<k then delK k l else l) ks
   simp only[VX,not_or] at hn;refine Mh ?_ hn.2;split
   . exact Gu.2 ⟨h,hn.1⟩
   . exact h
theorem SJ {α:Type}{l r:List (Int×α)}{p:Int×α}(h:((l++p::r).map Prod.fst).Nodup):delK p.1 (l++p::r)=l++r:=by
 rw[VK,Wx,Wg] at h;obtain⟨h1,h2,h3⟩:=h;have hl:∀ q∈l,q.1≠p.1:=fun q hq e=>h3 q.1 (Vz.2 ⟨q,hq,rfl⟩) p.1 (VW ..) e
 have hr:∀ q∈r,q.1≠p.1:=fun q hq e=>(Xm.1 h2).1 (Vz.2 ⟨q,hq,e⟩)
 have e1:delK p.1 (l++p::r)=delK p.1 l++delK p.1 r:=by
  unfold delK;rw[Wl,List.filter_cons];simp
 rw[e1,IY hl,IY hr]
theorem Mi {α:Type}:∀ (hs l r:List (Int×α)),((l++(hs++r)).map Prod.fst).Nodup->(∀ p∈hs,1<p.1)->BY (l++(hs++r)) (hs.map Prod.fst)=l++r
 | [],l,r,_,_=>rfl
 | p::hs,l,r,hn,h1=>by
   show BY (if 1<p.1 then delK p.1 (l++(p::(hs++r))) else l++(p::(hs++r))) (hs.map Prod.fst)=_
   have hn':((l++p::(hs++r)).map Prod.fst).Nodup:=hn;rw[Vs (h1 p (VW ..)),SJ hn'];refine Mi hs l r ?_ (fun q hq=>h1 q (WP _ hq));have:=hn;rw[VK,Wg] at this ⊢;obtain⟨q1,q2,q3⟩:=this;exact⟨q1,(Xm.1 q2).2,fun x hx y hy=>q3 x hx y (WP _ hy)⟩
section
variable {o:Own}
theorem SatE.fst (h:SatE K n Od room w0 mb fs nx w o m V):fs.map Prod.fst=m.hs.map Prod.fst:=by rw[<- h.hs,Xe];rfl
theorem SatE.nodup (h:SatE K n Od room w0 mb fs nx w o m V):(fs.map Prod.fst).Nodup:=by rw[h.fst];exact h.ok.handles.nodup
theorem SatE.range (h:SatE K n Od room w0 mb fs nx w o m V):∀ p∈fs,0<=p.1/\p.1<nx:=by
 intro p hp;rw[<- h.hs] at hp;obtain⟨q,hq,rfl⟩:=Vz.1 hp;rw[<- h.next];exact h.ok.handles.lt q hq
structure B2 (fs:List (Int×BF)):Prop where
 zero:(0,fun _=>false)∈fs
 one:(1,fun _=>true)∈fs
theorem B2.app (h:B2 fs)(hs:List (Int×BF)):B2 (fs++hs):=⟨WQ _ h.zero,WQ _ h.one⟩
abbrev X0:=@List.mem_append_right
theorem SatE.gt (h:SatE K n Od room w0 mb (fs++hs) nx w o m V)(hb:B2 fs):∀ p∈hs,1<p.1:=by
 intro p hp;have h1:=(h.range p (X0 _ hp)).1;have h2:=h.nodup;rw[VK,Wg] at h2;have h3:=fun k hk=>h2.2.2 k hk p.1 (Vz.2 ⟨p,hp,rfl⟩)
 have h4:=h3 0 (Vz.2 ⟨_,hb.zero,rfl⟩);have h5:=h3 1 (Vz.2 ⟨_,hb.one,rfl⟩);omega
theorem SK (hK:Bb K){r:List (Int×BF)}(h:SatE K n Od room w0 mb (fs++(hs++r)) nx w o m V)(hb:B2 fs)(hn:nx<549755813888){a:Option Addr}(hks:Au w a (hs.map Prod.fst))(hno:∀ x,a=some x->o x.block=none) :
 Cl 118 #[Pt mb,.slice a hs.length c] w fun x w'=>x=.returned (Iv 0)/\∃ o' m',CD K n Od room w0 mb (fs++r) nx o w m V o' w' m':=by
 have g0:=h.nodup;have g3:=h.gt hb;have e:BY (fs++(hs++r)) (hs.map Prod.fst)=fs++r:=Mi hs fs r g0 (fun p hp=>g3 p (WQ _ hp));have:=SI hK h hn (c:=c) hks hno fun j hj=>by
  have g1:j<hs.length:=by simpa using hj
  have e1:at0 (hs.map Prod.fst) j=hs[j].1:=by rw[Az hj];simp
  refine⟨hs[j].2,?_⟩;rw[e1];refine Mh (X0 _ (WQ _ (Vv g1))) ?_;rw[VK,Wg,VK,Wg] at g0;have hh:=g0.2.1.1;intro hc;obtain⟨i,hi,e2⟩:=Wj hc;have g2:i<j:=by simp at hi;omega
  rw[List.getElem_take] at e2;exact(VV.1 hh) i j (by simp;omega) hj g2 (by rw[e2];simp)
 rw[e,Vw] at this;exact this
theorem Mj {M:Nat}{x:Ending}(hp:DV K n Od room w0 mb fs nx [] (some M) k F o w x w') :
 ∃ o' m' V',ChgX NoB o o' w w'/\(m'.waits=[]/\m'.d.pool.many<=M+k)/\x=.returned (.tuple #[Iv nx,Iv 0])/\SatE K n Od room w0 mb (fs++[(nx,F)]) (nx+1) w' o' m' V':=by
 obtain⟨o',m',V',h1,h2,⟨h3,h5,h4⟩|⟨_,h,_⟩⟩:=hp
 . exact⟨o',m',V',h1,⟨by simpa using h2,h5 M rfl⟩,h3,h4⟩
 . cases h
end
def cntT:Nat->(Nat->Bool)->Nat
 | 0,_=>0
 | k+1,f=>cntT k f+(if f k then 1 else 0)
theorem E6 (k:Nat)(f:Nat->Bool):cntT (k+1) f=cntT k f+(if f k then 1 else 0):=rfl
theorem Mk (f:Nat->Bool):∀ k,cntT k f<=k
 | 0=>Vo _
 | k+1=>by
   have:=Mk f k;rw[E6];split<;>omega
def opB (op:Int)(n:Nat)(f:Nat->Bool):Bool :=
 if op=1 then true else if op=4 then decide (cntT n f=0) else if op=5 then decide (cntT n f=n) else if op=6 then decide (0<cntT n f) else if op=7 then decide (cntT n f%2=1)
 else if op=8 then (!f 0||f 1) else if op=9 then decide (cntT n f≠1) else if op=10 then iteB (f 0) (f 1) (f 2) else false
def fnT:ExT->BF
 | .nil=>fun _=>false
 | .mk op v n kid=>fun ρ=>if op=3 then ρ v.toNat else opB op n fun i=>fnT (kid i) ρ
def notF (F:BF):BF:=fun ρ => !F ρ
def D9 (op:Int)(F G:BF):BF :=
 if op=5 then Bu F G (fun _=>false) else if op=6 then Bu F (fun _=>true) G else if op=8 then Bu F G (fun _=>true) else if op=7 then Bu F (notF G) G else Bu F G (notF G)
def accT (op:Int)(kid:Nat->ExT):Nat->BF
 | 0=>fun _=>decide (op=5)
 | k+1=>D9 op (accT op kid k) (fnT (kid k))
theorem Ml (kid:Nat->ExT)(ρ:Nat->Bool):∀ k,accT 5 kid k ρ=decide (cntT k (fun i=>fnT (kid i) ρ)=k)
 | 0=>rfl
 | k+1=>by
   have h1:accT 5 kid (k+1) ρ=iteB (accT 5 kid k ρ) (fnT (kid k) ρ) false:=rfl;have h2:=Mk (fun i=>fnT (kid i) ρ) k;rw[h1,Ml kid ρ k,E6];unfold iteB;cases hf:fnT (kid k) ρ
   ·have:(cntT k fun i=>fnT (kid i) ρ)+0≠k+1:=by omega
    simp only[Xy,if_false,VU this];split<;>rfl
   . simp
theorem Mm (kid:Nat->ExT)(ρ:Nat->Bool):∀ k,accT 6 kid k ρ=decide (0<cntT k (fun i=>fnT (kid i) ρ))
 | 0=>rfl
 | k+1=>by
   have h1:accT 6 kid (k+1) ρ=iteB (accT 6 kid k ρ) true (fnT (kid k) ρ):=rfl;rw[h1,Mm kid ρ k,E6];unfold iteB;cases hf:fnT (kid k) ρ<;>simp
theorem Mn (kid:Nat->ExT)(ρ:Nat->Bool):∀ k,accT 7 kid k ρ=decide (cntT k (fun i=>fnT (kid i) ρ)%2=1)
 | 0=>rfl
 | k+1=>by
   have h1:accT 7 kid (k+1) ρ=iteB (accT 7 kid k ρ) (!(fnT (kid k) ρ)) (fnT (kid k) ρ):=rfl;rw[h1,Mn kid ρ k,E6];unfold iteB;rcases WE (cntT k fun i=>fnT (kid i) ρ) with e|e
   . cases hf:fnT (kid k) ρ<;>simp[e]<;>omega
   . cases hf:fnT (kid k) ρ<;>simp[e]<;>omega
theorem SL (h:op=5\/op=6\/op=7)(v:Int)(n:Nat)(kid:Nat->ExT):fnT (.mk op v n kid)=accT op kid n:=by
 funext ρ;rcases h with rfl|rfl|rfl
 . rw[Ml];rfl
 . rw[Mm];rfl
 . rw[Mn];rfl
theorem Mo (f:Nat->Bool):cntT 1 f=if f 0 then 1 else 0:=by rw[E6];exact VJ _
theorem SM (f:Nat->Bool):cntT 2 f=(if f 0 then 1 else 0)+(if f 1 then 1 else 0):=by rw[E6,Mo]
abbrev XE:=@decide_eq_true_iff
theorem SN (v:Int)(kid:Nat->ExT):fnT (.mk 4 v 1 kid)=notF (fnT (kid 0)):=by
 funext ρ
 show decide (cntT 1 (fun i=>fnT (kid i) ρ)=0) = !(fnT (kid 0) ρ)
 rw[XF,XE,Mo];cases fnT (kid 0) ρ<;>simp
theorem SO (v:Int)(kid:Nat->ExT):fnT (.mk 10 v 3 kid)=Bu (fnT (kid 0)) (fnT (kid 1)) (fnT (kid 2)):=rfl
theorem SP (h:op=8\/op=9)(v:Int)(kid:Nat->ExT):fnT (.mk op v 2 kid)=D9 op (fnT (kid 0)) (fnT (kid 1)):=by
 funext ρ;rcases h with rfl|rfl
 ·show (!fnT (kid 0) ρ||fnT (kid 1) ρ)=iteB (fnT (kid 0) ρ) (fnT (kid 1) ρ) true
  unfold iteB;cases fnT (kid 0) ρ<;>simp
 ·show decide (cntT 2 (fun i=>fnT (kid i) ρ)≠1)=iteB (fnT (kid 0) ρ) (fnT (kid 1) ρ) (!fnT (kid 1) ρ)
  rw[XF,XE,SM];unfold iteB;cases fnT (kid 0) ρ<;>cases fnT (kid 1) ρ<;>simp
theorem Mp (h:op=1\/op=2)(v:Int)(n:Nat)(kid:Nat->ExT):fnT (.mk op v n kid)=fun _=>decide (op=1):=by
 rcases h with rfl|rfl<;>rfl
theorem SQ (v:Nat)(n:Nat)(kid:Nat->ExT):fnT (.mk 3 v n kid)=varF v:=by
 funext ρ;rfl
def DepF (n:Nat)(F:BF):Prop:=∀ ρ ρ':Nat->Bool,(∀ i,i<n->ρ i=ρ' i)->F ρ=F ρ'
theorem Mq {f:Nat->List Int}{i:Nat}{x:Int}:∀ {n:Nat},i<n->x∈f i->x∈BW n f
 | 0,h,_=>by omega
 | k+1,h,hx=>by
   unfold BW;rcases VB i k with h'|h'
   . exact WQ _ (Mq h' hx)
   ·obtain rfl:i=k:=by omega
    exact X0 _ hx
abbrev XS:=@Nat.div_eq_of_lt
theorem SR (n:Nat)(ρ:Nat->Bool):∃ i,i<2^n/\∀ v,v<n->bitB i v=ρ v:=by
 induction n with
 | zero=>exact⟨0,by simp,fun v hv=>by omega⟩
 | succ n ih =>
   obtain⟨i,hi,hb⟩:=ih;have hp:0<2^n:=WR (by omega);refine⟨i+(if ρ n then 2^n else 0),by rw[WS];split<;>omega,fun v hv=>?_⟩;rcases VB v n with h|h
   ·rw[<- hb v h];unfold bitB;split
    ·obtain⟨k,rfl⟩:∃ k,n=v+(k+1):=⟨n-v-1,by omega⟩;have e1:(2:Nat)^(v+(k+1))=2^v*(2*2^k):=by rw[Nat.pow_add,WS];ac_rfl
     rw[e1,Nat.add_mul_div_left _ _ (WR (by omega)),Nat.add_mul_mod_self_left]
    . rw[Xj]
   ·obtain rfl:v=n:=by omega
    unfold bitB;cases hr:ρ v with
    | true =>
      rw[Vs rfl,Nat.add_div_right _ hp,XS hi];rfl
    | false =>
      rw[Vn (by simp),Xj,XS hi];rfl
theorem Mr (hF:DepF n F)(hG:DepF n G)(h:tabB n F=tabB n G):F=G:=by
 funext ρ;obtain⟨i,hi,hb⟩:=SR n ρ;have e:∀ v,v<n->ρ v=AF (AO i n) v:=fun v hv=>by rw[I9,hb v hv];simp[hv]
 rw[hF ρ _ e,hG ρ _ e,<- EX (F:=F) hi,<- EX (F:=G) hi,h]
theorem SS {f:Nat->Nat}(h1:∀ i,i<n->f i<n)(h2:∀ i j,i<n->j<n->f i=f j->i=j)(hj:j<n):∃ i,i<n/\f i=j:=by
 by_cases h:∃ i,i<n/\f i=j
 . exact h
 exfalso;have g0:∀ i,i<n->f i≠j:=fun i hi e=>h ⟨i,hi,e⟩
 have g1:(j::(List.range n).map f).Nodup:=by
  refine Xm.2 ⟨?_,?_⟩
  . intro hm;obtain⟨i,hi,e⟩:=Vz.1 hm;exact g0 i (Xb.1 hi) e
  . refine Xk.2 (Yg.imp_of_mem ?_);intro a b ha hb g2 e;exact g2 (h2 a b (Xb.1 ha) (Xb.1 hb) e)
 have:=E3 n _ g1 (fun x hx=>by
  rcases VX.1 hx with rfl|hx
  . exact hj
  . obtain⟨i,hi,rfl⟩:=Vz.1 hx;exact h1 i (Xb.1 hi))
 simp at this;omega
theorem Ms {zs:List Int}{v:Int}{p:Nat}(h:at0 zs p=v)(hu:∀ i,i<zs.length->at0 zs i=v->i=p):∀ k,k<=zs.length->cntP zs v k=if p<k then 1 else 0
 | 0,_=>by simp[cntP]
 | k+1,hk=>by
   have ih:=Ms h hu k (by omega)
   by_cases e:at0 zs k=v
   . have:=hu k (by omega) e;subst this;rw[DW (by omega) e,ih];simp
   ·rw[IG (by omega) e,ih];have:p≠k:=fun e2=>e (by rw[<- e2];exact h)
    by_cases h3:p<k
    . rw[Vs h3,Vs (by omega)]
    . rw[Vn h3,Vn (by omega)]
theorem Fl {zs:List Int}{v:Int}{i:Nat}:∀ {j:Nat},i<=j->j<=zs.length->cntP zs v i<=cntP zs v j
 | 0,h,_=>by
   obtain rfl:i=0:=by omega
   exact Vo _
 | j+1,h,hj=>by
   rcases VB i (j+1) with h'|h'
   ·have:=Fl (zs:=zs) (v:=v) (show i<=j by omega) (by omega)
    by_cases e:at0 zs j=v
    . rw[DW (by omega) e];omega
    . rw[IG (by omega) e];omega
   ·obtain rfl:i=j+1:=by omega
    exact Vo _
theorem Ja (hl:zs.length=n)(h:∀ v:Nat,v<n->∃ p,p<n/\at0 zs p=(v:Nat))(hu:∀ i j,i<n->j<n->at0 zs i=at0 zs j->i=j):Bq zs n=true:=by
 subst hl;unfold Bq;rw[WB];refine⟨rfl,fun v hv=>?_⟩;obtain⟨p,hp,e⟩:=h v hv;rw[Ms e (fun i hi e2=>hu i p hi hp (e2.trans e.symm)) _ (Vo _),Vs hp]
structure Fm (zs:List Int)(n:Nat):Prop where
 len:zs.length=n
 lt:∀ i,i<n->∃ v:Nat,v<n/\at0 zs i=(v:Nat)
 inj:∀ i j,i<n->j<n->at0 zs i=at0 zs j->i=j
theorem Gv (h:Bq zs n=true):Fm zs n:=by
 unfold Bq at h;rw[WB] at h;obtain⟨h1,h2⟩:=h;have g2:zs.length=n:=by omega
 subst g2;have hp:∀ v:Nat,v<zs.length->∃ p,p<zs.length/\at0 zs p=(v:Nat):=by
  intro v hv;have e:=h2 v hv;unfold cntP at e;rw[VI] at e;have hm:0<(zs.filter (fun z=>decide (z=(v:Int)))).length:=by omega
  obtain⟨z,hz⟩:=List.length_pos_iff_exists_mem.1 hm;obtain⟨q1,q2⟩:=WD.1 hz;obtain⟨i,hi,e2⟩:=Wj q1;refine⟨i,hi,?_⟩;rw[Az hi,e2];simpa using q2
 have g0:∀ i,i<zs.length->∃ v,v<zs.length/\at0 zs i=(v:Nat):=by
  have hc:∃ f:Nat->Nat,∀ v,v<zs.length->f v<zs.length/\at0 zs (f v)=(v:Nat):=by
   refine⟨fun v=>if hv:v<zs.length then Classical.choose (hp v hv) else 0,fun v hv=>?_⟩;dsimp only;rw[dif_pos hv];exact Xn (hp v hv)
  obtain⟨f,hf⟩:=hc;intro i hi
  obtain⟨v,hv,e⟩:=SS (n:=zs.length) (f:=f) (fun v hv=>(hf v hv).1) (fun a b ha hb e=>by
   have e1:=(hf a ha).2;have e2:=(hf b hb).2;rw[e,e2] at e1;omega) hi
  exact⟨v,hv,by rw[<- e];exact(hf v hv).2⟩
 refine⟨rfl,g0,fun i j hi hj e=>?_⟩;obtain⟨v,hv,ei⟩:=g0 i hi;have ec:=h2 v hv;have ej:at0 zs j=(v:Nat):=by rw[<- e];exact ei
 rcases X3 i j with g1|rfl|g1
 . have a1:=DW hi ei;have a2:=DW hj ej;have a3:=Fl (zs:=zs) (v:=(v:Nat)) (show i+1<=j by omega) (by omega);have a4:=Fl (zs:=zs) (v:=(v:Nat)) (show j+1<=zs.length by omega) (Vo _);omega
 . rfl
 . have a1:=DW hi ei;have a2:=DW hj ej;have a3:=Fl (zs:=zs) (v:=(v:Nat)) (show j+1<=i by omega) (by omega);have a4:=Fl (zs:=zs) (v:=(v:Nat)) (show i+1<=zs.length by omega) (Vo _);omega
theorem CE {l:List Nat}(hi:i<l.length):at0 (l.map Int.ofNat) i=(l.getD i 0:Nat):=by
 rw[Az (by simpa using hi)];simp[List.getD,hi]
theorem Ak.mem (h:Ak d V){v:Nat}(hv:v<d.vars.length):∃ i,i<d.vars.length/\d.vars.getD i 0=v:=⟨levN d v,h.dag.lt v hv,h.inv v hv⟩
theorem Ak.inj (h:Ak d V)(hi:i<d.vars.length)(hj:j<d.vars.length)(e:d.vars.getD i 0=d.vars.getD j 0):i=j:=by
 have a:=(h.vlt i hi).2;have b:=(h.vlt j hj).2;rw[e,b] at a;exact a.symm
theorem Ak.permB (h:Ak d V):Go.Proofs.YtkidaindpahefaaGreat.Bq (d.vars.map Int.ofNat) d.vars.length=true:=by
 refine Ja (by simp) (fun v hv=>?_) (fun i j hi hj e=>?_)
 . obtain⟨i,hi,e⟩:=h.mem hv;exact⟨i,hi,by rw[CE hi,e]⟩
 . rw[CE hi,CE hj] at e;exact h.inj hi hj (by omega)
def exL (l:List Nat)(k:Nat):List Nat:=(l.set k (l.getD (k+1) 0)).set (k+1) (l.getD k 0)
theorem Mt (l:List Nat)(k:Nat):(exL l k).length=l.length:=by simp[exL]
theorem Mu {l:List Nat}(h:k+1<l.length):(exL l k).getD k 0=l.getD (k+1) 0:=by
 unfold exL;simp[List.getD,VR,h,show k<l.length by omega]
theorem SU {l:List Nat}(h:k+1<l.length):(exL l k).getD (k+1) 0=l.getD k 0:=by
 unfold exL;simp[List.getD,VR,h]
theorem Mv {l:List Nat}(h1:i≠k)(h2:i≠k+1):(exL l k).getD i 0=l.getD i 0:=by
 unfold exL;simp only[List.getD,VR];rw[Vn (fun e=>h2 e.symm),Vn (fun e=>h1 e.symm)]
theorem Mw (d:Ae)(k:Nat):(Be d k).vars=exL d.vars k:=rfl
structure LawT (K:Law)(n:Nat)(Od:List Nat->Prop)(room:Nat)(w0:Wd)(mb:Nat)(fs:List (Int×BF))(nx:Int)(Wt:List Ev->Int->Prop)(hl hx:List (Int×BF))(W:Wd)(o:Own)(m:ManD)(V:Nat->BF)(vl vx:Value):Prop where
 sat:SatE K n Od room w0 mb fs nx W o m V
 b2:B2 fs
 st:Wt m.waits m.calls
 l:LawL W o w0.heap.size vl (hl.map Prod.fst)
 x:LawX W o w0.heap.size vx (hx.map fun p=>tabB n p.2)
section
variable {Wt:List Ev->Int->Prop}{hl hx:List (Int×BF)}{o:Own}{p:Int×BF}
theorem LawT.below (h:LawT K n Od room w0 mb fs nx Wt hl hx W o m V vl vx)(hb:Bw W W'):LawT K n Od room w0 mb fs nx Wt hl hx W' o m V vl vx :=
 ⟨h.sat.below hb,h.b2,h.st,h.l.chg (CU hb o),h.x.chg (CU hb o)⟩
theorem LawT.below0 (h:LawT K n Od room w0 mb fs nx Wt hl hx W o m V vl vx):Bw w0 W:=h.sat.chg.below0
theorem LawT.go {Od':List Nat->Prop}{Wt':List Ev->Int->Prop}(h:LawT K n Od room w0 mb fs nx Wt hl hx W o m V vl vx)(hs:SatE K n Od' room w0 mb fs' nx' W' o' m' V')(hb:B2 fs')(ht:Wt' m'.waits m'.calls)(hc:ChgX NoB o o' W W') :
 LawT K n Od' room w0 mb fs' nx' Wt' hl hx W' o' m' V' vl vx:=⟨hs,hb,ht,h.l.chg hc,h.x.chg hc⟩
theorem LawT.withOd {Od':List Nat->Prop}(h:LawT K n Od room w0 mb fs nx Wt hl hx W o m V vl vx)(hO:Od' m.d.vars):LawT K n Od' room w0 mb fs nx Wt hl hx W o m V vl vx:=⟨h.sat.withOd hO,h.b2,h.st,h.l,h.x⟩
theorem LawT.withSt {Wt':List Ev->Int->Prop}(h:LawT K n Od room w0 mb fs nx Wt hl hx W o m V vl vx)(hO:Wt' m.waits m.calls):LawT K n Od room w0 mb fs nx Wt' hl hx W o m V vl vx:=⟨h.sat,h.b2,hO,h.l,h.x⟩
theorem LawT.appL (h:LawT K n Od room w0 mb fs nx Wt hl hx W o m V vl vx)(hown:OwnC 3 W' w0.heap.size v' (Aq (hl.map Prod.fst)++[Iv p.1]))(e1:W'.os=W.os)(e2:W'.tape=W.tape)(e3:W'.output=W.output)(e4:W.heap.size<=W'.heap.size)(hk:BT vl v' W W') :
 LawT K n Od room w0 mb fs nx Wt (hl++[p]) hx W' o m V v' vx:=by
 have hw:=Gk e1 e2 e3 e4 hk;refine⟨h.sat.other hw (fun k _ hk=>⟨(h.l.own.lt k hk).1,h.l.no k hk⟩),h.b2,h.st,?_,h.x.typ hw (by decide) (by decide) h.l.own.typed⟩;rw[VK];exact h.l.app h.sat.lt hown hk
theorem LawT.appX (h:LawT K n Od room w0 mb fs nx Wt hl hx W o m V vl vx)(hb:LawB W o w0.heap.size v bs)(hbs:bs=tabB n p.2){rs:List Value}(hrs:rs.length=hx.length)(hrow:OwnC 90 W w0.heap.size vx rs)(hall:∀ i v,rs[i]?=some v->LawB W o w0.heap.size v ((hx.map fun p=>tabB n p.2).getD i []))
 (hown:OwnC 90 W' w0.heap.size v' (rs++[v])) (e1:W'.os=W.os) (e2:W'.tape=W.tape) (e3:W'.output=W.output) (e4:W.heap.size<=W'.heap.size) (hk:BT vx v' W W'):LawT K n Od room w0 mb fs nx Wt hl (hx++[p]) W' o m V vl v':=by
 have hw:=Gk e1 e2 e3 e4 hk;refine⟨h.sat.other hw (fun k _ hk=>⟨(hrow.lt k hk).1,h.x.no k hk⟩),h.b2,h.st,h.l.typ hw (by decide) hrow.typed,?_⟩;rw[VK];have:=h.x.app h.sat.lt (by simp[hrs]) hall hw hrow.typed hb hown hk;rw[hbs] at this;exact this
end
def TabA (n:Nat)(W:Wd)(v:Value)(F:BF):Prop:=∃ a c,v=.slice a (2^n) c/\BB W a (tabB n F)
theorem TabA.below {n:Nat}{W W':Wd}{v:Value}{F:BF}(h:TabA n W v F)(hb:Bw W W'):TabA n W' v F:=by
 obtain⟨a,c,e,h1⟩:=h;exact⟨a,c,e,h1.below hb⟩
theorem TabA.is (h:BQ W v (tabB n F)):TabA n W v F:=by
 obtain⟨a,c,e,h1,_⟩:=h;rw[Ch] at e;exact⟨a,c,e,h1⟩
theorem Jb (W:Wd)(zs:List Int)(hl:zs.length<=1000000):Au (W.alloc (.cells (Aq zs).toArray 3)) (some (Av W.heap.size)) zs :=
 ⟨by omega,fun k hk=>⟨W.heap.size,0,rfl,by
  rw[VJ,Vp _ _ k _ _ _ (Vq _ _)];simp[Aq,Az hk,hk]⟩⟩
section
variable {o:Own}
def Goes (K:Law)(n:Nat)(Od:List Nat->Prop)(room:Nat)(w0:Wd)(mb:Nat)(fs:List (Int×BF))(nx:Int)(Wt:List Ev->Int->Nat->Prop)(o:Own)(w w':Wd):Prop :=
 ∃ o' m' V',ChgX NoB o o' w w'/\Wt m'.waits m'.calls m'.d.pool.many/\SatE K n Od room w0 mb fs nx w' o' m' V'
def NoW (M:Nat)(ws:List Ev)(_:Int)(k:Nat):Prop:=ws=[]/\k<=M
theorem Goes.more {M M':Nat}(h:Goes K n Od room w0 mb fs nx (NoW M) o w w')(hm:M<=M'):Goes K n Od room w0 mb fs nx (NoW M') o w w':=by
 obtain⟨o',m',V',h1,h2,h3⟩:=h;exact⟨o',m',V',h1,⟨h2.1,Vx h2.2 hm⟩,h3⟩
theorem Goes.below {Wt:List Ev->Int->Nat->Prop}{w'':Wd}(h:Goes K n Od room w0 mb fs nx Wt o w w')(hb:Bw w' w''):Goes K n Od room w0 mb fs nx Wt o w w'':=by
 obtain⟨o',m',V',h1,h2,h3⟩:=h;exact⟨o',m',V',h1.trans (CU hb o') (fun _ _ e=>e),h2,h3.below hb⟩
theorem Jc (hK:Bb K){M:Nat}(h:Goes K n Od room w0 mb fs nx (NoW M) o w w')(hn:nx<549755813888)(hr:M+(2^n-1)<=room){kf kg kh:Int}{H:BF}(hf:(kf,F)∈fs)(hg:(kg,G)∈fs)(hh:(kh,H)∈fs) :
 Cl 94 #[Pt mb,Iv kf,Iv kg,Iv kh] w' fun x w''=>x=.returned (.tuple #[Iv nx,Iv 0])/\Goes K n Od room w0 mb (fs++[(nx,Bu F G H)]) (nx+1) (NoW (M+(2^n-1))) o w w'':=by
 obtain⟨o',m',V',h1,h2,h3⟩:=h;refine(Rm hK h3 [] (by rw[h2.1];exact List.suffix_refl _) (some M) (fun _ e=>by cases e;exact⟨rfl,hr⟩) (fun _ e=>by cases e;exact h2.2) (by simp) (by omega) hf hg hh).mono ?_;rintro x w'' hp;obtain⟨o2,m2,V2,q1,q2,q3,q4⟩:=Mj hp;exact⟨q3,o2,m2,V2,h1.trans q1 (fun _ _ e=>e),q2,q4⟩
theorem SV (hK:Bb K){M:Nat}(h:Goes K n Od room w0 mb fs nx (NoW M) o w w')(hn:nx<549755813888)(hr:M+1<=room){v:Nat}(hv:v<n) :
 Cl 93 #[Pt mb,Iv v] w' fun x w''=>x=.returned (.tuple #[Iv nx,Iv 0])/\Goes K n Od room w0 mb (fs++[(nx,varF v)]) (nx+1) (NoW (M+1)) o w w'':=by
 obtain⟨o',m',V',h1,h2,h3⟩:=h;refine(Rn hK h3 [] (by rw[h2.1];exact List.suffix_refl _) (some M) (fun _ e=>by cases e;exact⟨rfl,hr⟩) (fun _ e=>by cases e;exact h2.2) (by simp) (by omega) v hv).mono ?_;rintro x w'' hp;obtain⟨o2,m2,V2,q1,q2,q3,q4⟩:=Mj hp;exact⟨q3,o2,m2,V2,h1.trans q1 (fun _ _ e=>e),q2,q4⟩
theorem Mx (hK:Bb K){Wt:List Ev->Int->Nat->Prop}(h:Goes K n Od room w0 mb fs nx Wt o w w')(hn:nx<549755813888){k:Int}(hf:(k,F)∈fs) :
 Cl 117 #[Pt mb,Iv k] w' fun x w''=>x=.returned (.tuple #[Iv nx,Iv 0])/\Goes K n Od room w0 mb (fs++[(nx,notF F)]) (nx+1) Wt o w w'':=by
 obtain⟨o',m',V',h1,h2,h3⟩:=h;refine(SC hK h3 hn hf).mono ?_;rintro x w'' ⟨rfl,o2,m2,q⟩;exact⟨rfl,o2,m2,V',h1.trans (ChgX.of_chg q.chg NoB) (fun _ _ e=>e),by rw[q.waits,q.calls,q.many];exact h2,q.sat⟩
theorem Gw (hK:Bb K){Wt:List Ev->Int->Nat->Prop}(h:Goes K n Od room w0 mb fs nx Wt o w w')(hn:nx<549755813888){k:Int}(hf:(k,F)∈fs) :
 Cl 114 #[Pt mb,Iv k] w' fun x w''=>x=.returned (.tuple #[Iv nx,Iv 0])/\Goes K n Od room w0 mb (fs++[(nx,F)]) (nx+1) Wt o w w'':=by
 obtain⟨o',m',V',h1,h2,h3⟩:=h;refine(SA hK h3 hn hf).mono ?_;rintro x w'' ⟨rfl,o2,m2,q⟩;exact⟨rfl,o2,m2,V',h1.trans (ChgX.of_chg q.chg NoB) (fun _ _ e=>e),by rw[q.waits,q.calls,q.many];exact h2,q.sat⟩
theorem Gx (hK:Bb K){Wt:List Ev->Int->Nat->Prop}{r:List (Int×BF)}(h:Goes K n Od room w0 mb (fs++(hs++r)) nx Wt o w w')(hb:B2 fs)(hn:nx<549755813888)(hl:hs.length<=1000){T:Wd}(hT:T=w'.alloc (.cells (Aq (hs.map Prod.fst)).toArray 3)) :
 Cl 118 #[Pt mb,.slice (some (Av w'.heap.size)) hs.length hs.length] T fun x w''=>x=.returned (Iv 0)/\Goes K n Od room w0 mb (fs++r) nx Wt o w w'':=by
 obtain⟨o',m',V',h1,h2,h3⟩:=h;subst hT;have g0:=Af w' (.cells (Aq (hs.map Prod.fst)).toArray 3);refine(SK hK (h3.below g0) hb hn (Jb w' (hs.map Prod.fst) (by simp;omega)) (fun x hx=>by cases hx;exact h3.lt.none (Vo _))).mono ?_;rintro x w'' ⟨rfl,o2,m2,q⟩;exact⟨rfl,o2,m2,V',(h1.trans (CU g0 o') (fun _ _ e=>e)).trans (ChgX.of_chg q.chg NoB) (fun _ _ e=>e),by rw[q.waits,q.calls,q.many];exact h2,q.sat⟩
theorem My (hK:Bb K){a b:Int}{M:Nat}(h:Goes K n Od room w0 mb (fs++[(a,F),(b,G)]) nx (NoW M) o w w')(hb:B2 fs)(hn:nx+2<549755813888)(hr:M+(2^n-1)<=room)(h5:5<=op)(h9:op<=9) :
 Cl 116 #[Pt mb,Iv op,Iv a,Iv b] w' fun x w''=>∃ k:Int,x=.returned (.tuple #[Iv k,.bool true])/\k<=nx+1/\Goes K n Od room w0 mb (fs++[(k,D9 op F G)]) (k+1) (NoW (M+(2^n-1))) o w w'':=by
 obtain⟨M',ga⟩:=Ex (M+(2^n-1));have g5:Hq (∀ c d e A B C,(c,A)∈fs++[(a,F),(b,G)]->(d,B)∈fs++[(a,F),(b,G)]->(e,C)∈fs++[(a,F),(b,G)]->Cl 94 #[Pt mb,Iv c,Iv d,Iv e] w' fun x w''=>x=.returned (.tuple #[Iv nx,Iv 0])/\Goes K n Od room w0 mb (fs++[(a,F),(b,G)]++[(nx,Bu A B C)]) (nx+1) (NoW (M+(2^n-1))) o w w'') :=
  Hd fun c d e A B C h1 h2 h3=>Jc hK h (by omega) hr h1 h2 h3
 have g6:=Hd (Mx hK h (by omega) (k:=b) (F:=G) (by simp))
 have g0:Hq (∀ W,Goes K n Od room w0 mb (fs++[(a,F),(b,G)]++[(nx,notF G)]) (nx+1) (NoW M) o w W->∀ c d e A B C,(c,A)∈fs++[(a,F),(b,G)]++[(nx,notF G)]->(d,B)∈fs++[(a,F),(b,G)]++[(nx,notF G)]->(e,C)∈fs++[(a,F),(b,G)]++[(nx,notF G)] ->
  Cl 94 #[Pt mb,Iv c,Iv d,Iv e] W fun x w''=>x=.returned (.tuple #[Iv (nx+1),Iv 0])/\Goes K n Od room w0 mb (fs++[(a,F),(b,G)]++[(nx,notF G)]++[(nx+1,Bu A B C)]) (nx+1+1) (NoW (M+(2^n-1))) o w w'') :=
  Hd fun W hW c d e A B C h1 h2 h3=>Jc hK hW (by omega) hr h1 h2 h3
 have g7:Hq (∀ W H T,Goes K n Od room w0 mb (fs++[(a,F),(b,G)]++[(nx,notF G)]++[(nx+1,H)]) (nx+1+1) (NoW M') o w W->T=W.alloc (.cells #[Iv nx] 3)->Cl 118 #[Pt mb,.slice (some (Av W.heap.size)) 1 1] T fun x w''=>x=.returned (Iv 0)/\Goes K n Od room w0 mb (fs++[(a,F),(b,G)]++[(nx+1,H)]) (nx+1+1) (NoW M') o w w'') :=
  Hd fun W H T hW hT=>Gx hK (hs:=[(nx,notF G)]) (r:=[(nx+1,H)]) (by rw[VC] at hW;exact hW) (hb.app _) (by omega) (by simp) hT
 have g8:Hq (∀ W k H T,k+1<549755813888->Goes K n Od room w0 mb (fs++[(a,F),(b,G)]++[(k,H)]) (k+1) (NoW M') o w W->T=W.alloc (.cells #[Iv a,Iv b] 3)->Cl 118 #[Pt mb,.slice (some (Av W.heap.size)) 2 2] T fun x w''=>x=.returned (Iv 0)/\Goes K n Od room w0 mb (fs++[(k,H)]) (k+1) (NoW M') o w w'') :=
  Hd fun W k H T hk hW hT=>Gx hK (hs:=[(a,F),(b,G)]) (r:=[(k,H)]) (by rw[VC] at hW;exact hW) hb (by omega) (by simp) hT
 have m0:(0,fun _=>false)∈fs++[(a,F),(b,G)]:=WQ _ hb.zero;have m1:(1,fun _=>true)∈fs++[(a,F),(b,G)]:=WQ _ hb.one;have ma:(a,F)∈fs++[(a,F),(b,G)]:=by simp
 have mb':(b,G)∈fs++[(a,F),(b,G)]:=by simp
 have pa:(a,F)∈fs++[(a,F),(b,G)]++[(nx,notF G)]:=by simp
 have pb:(b,G)∈fs++[(a,F),(b,G)]++[(nx,notF G)]:=by simp
 have pn:(nx,notF G)∈fs++[(a,F),(b,G)]++[(nx,notF G)]:=by simp
 rw[<- ga] at g5 g0 ⊢;clear h hb hr hK ga;rcases(show op=5\/op=6\/op=7\/op=8\/op=9 by omega) with rfl|rfl|rfl|rfl|rfl
 ·have HI:=Hd (g5.o a b 0 _ _ _ ma mb' m0);clear g5 g0 g6 g7
  go_enter func116,ntmps116
  go_wp2_with fail;refine HI.o.mono ?_;rintro x w1 ⟨rfl,g1⟩;have HD:=Hd (g8.o w1 nx _ _ (by omega) g1 rfl);clear g1 HI;go_wp2_with fail;refine HD.o.mono ?_;rintro x w2 ⟨rfl,g2⟩;have HG:=Hd g2;clear g2 HD;go_wp2_with fail
  go_ret2
  exact⟨nx,rfl,by omega,HG.o⟩
 ·have HI:=Hd (g5.o a 1 b _ _ _ ma m1 mb');clear g5 g0 g6 g7
  go_enter func116,ntmps116
  go_wp2_with fail;refine HI.o.mono ?_;rintro x w1 ⟨rfl,g1⟩;have HD:=Hd (g8.o w1 nx _ _ (by omega) g1 rfl);clear g1 HI;go_wp2_with fail;refine HD.o.mono ?_;rintro x w2 ⟨rfl,g2⟩;have HG:=Hd g2;clear g2 HD;go_wp2_with fail
  go_ret2
  exact⟨nx,rfl,by omega,HG.o⟩
 ·clear g5
  go_enter func116,ntmps116
  go_wp2_with fail;refine g6.o.mono ?_;rintro x w1 ⟨rfl,g1⟩;have HI:=Hd (g0.o w1 g1 a nx b _ _ _ pa pn pb);clear g1 g6 g0;go_wp2_with fail;refine HI.o.mono ?_;rintro x w2 ⟨rfl,g2⟩;have g9:=Hd (g7.o w2 _ _ g2 rfl);clear g2 HI g7;go_wp2_with fail;refine g9.o.mono ?_;rintro x w3 ⟨rfl,g3⟩;have HD:=Hd (g8.o w3 (nx+1) _ _ (by omega) g3 rfl);clear g3 g9;go_wp2_with fail;refine HD.o.mono ?_;rintro x w4 ⟨rfl,g4⟩;have HG:=Hd g4;clear g4 HD;go_wp2_with fail
  go_ret2
  exact⟨nx+1,rfl,by omega,HG.o⟩
 ·have HI:=Hd (g5.o a b 1 _ _ _ ma mb' m1);clear g5 g0 g6 g7
  go_enter func116,ntmps116
  go_wp2_with fail;refine HI.o.mono ?_;rintro x w1 ⟨rfl,g1⟩;have HD:=Hd (g8.o w1 nx _ _ (by omega) g1 rfl);clear g1 HI;go_wp2_with fail;refine HD.o.mono ?_;rintro x w2 ⟨rfl,g2⟩;have HG:=Hd g2;clear g2 HD;go_wp2_with fail
  go_ret2
  exact⟨nx,rfl,by omega,HG.o⟩
 ·clear g5
  go_enter func116,ntmps116
  go_wp2_with fail;refine g6.o.mono ?_;rintro x w1 ⟨rfl,g1⟩;have HI:=Hd (g0.o w1 g1 a b nx _ _ _ pa pb pn);clear g1 g6 g0;go_wp2_with fail;refine HI.o.mono ?_;rintro x w2 ⟨rfl,g2⟩;have g9:=Hd (g7.o w2 _ _ g2 rfl);clear g2 HI g7;go_wp2_with fail;refine g9.o.mono ?_;rintro x w3 ⟨rfl,g3⟩;have HD:=Hd (g8.o w3 (nx+1) _ _ (by omega) g3 rfl);clear g3 g9;go_wp2_with fail;refine HD.o.mono ?_;rintro x w4 ⟨rfl,g4⟩;have HG:=Hd g4;clear g4 HD;go_wp2_with fail
  go_ret2
  exact⟨nx+1,rfl,by omega,HG.o⟩
end
theorem Mz (h:0<=(Bi op).1):1<=op/\op<=10/\(Bi op).2<=64:=by
 unfold Bi at h ⊢;split
 . rename_i h1;exact⟨by omega,by omega,by simp⟩
 ·split
  . rename_i h1;exact⟨by omega,by omega,by simp⟩
  ·split
   . rename_i h1;exact⟨by omega,by omega,by simp⟩
   ·split
    . rename_i h1;exact⟨by omega,by omega,by simp⟩
    ·split
     . rename_i h1;exact⟨by omega,by omega,by simp⟩
     . exfalso;revert h;simp_all
theorem M4 (f:Nat->Bool)(i:Nat):(List.range (i+1)).map f=(List.range i).map f++[f i]:=by simp[Xl]
theorem DA (l:List Bool)(b:Bool):A8 (l++[b])=A8 l++[.bool b]:=by simp[A8]
theorem tmod2 (c:Nat):((c:Int).tmod 2 == 1)=decide (c%2=1):=by
 have e1:Int.tmod (c:Int) 2=((c%2:Nat):Int):=by rw[Xw (by omega)];rfl
 rw[e1]
 by_cases h:c%2=1
 . rw[h];rfl
 ·have:((c%2:Nat):Int)≠1:=by omega
  rw[Xq.2 this,VU h]
theorem Jd (a b:Nat):(((a:Nat):Int) == (b:Int))=decide (a=b):=by
 by_cases h:a=b
 . subst h;simp
 ·have:(a:Int)≠b:=by omega
  rw[Xq.2 this,VU h]
theorem M5 (ls:List Bool)(al:Option Addr)(cl:Nat):∀ (e:ExT) (x:Value) (w:Wd),Ga e->A3 w e x->BB w al ls ->
 Cl 119 #[x,.slice al ls.length cl] w (Bl (.bool (fnT e (AF ls))) w)
 | .nil,x,w,hv,h,_=>by unfold A3 at h;exact h.elim
 | .mk op v n kid,x,w,hval,h,hls=>by
   unfold A3 at h;obtain⟨a,c,rfl,h2,h3,h4,h5⟩:=h;obtain⟨v1,v2,v3,v4,v5,v6⟩:=hval;obtain⟨k1,k2,k3⟩:=Mz v1;have hn64:n<=64:=by omega
   have H5:=Hd h5;have H6:=Hd v6;have gq:=Hd hls;have gH:=hls.len;have HE:Hq (fnT (ExT.mk op v n kid) (AF ls)=if op=3 then AF ls v.toNat else opB op n fun i=>fnT (kid i) (AF ls)):=Hd rfl;have IH:Hq (∀ (i:Nat) (x:Value) (W:Wd),i<n->A3 W (kid i) x->BB W al ls->Cl 119 #[x,.slice al ls.length cl] W (Bl (.bool (fnT (kid i) (AF ls))) W)) :=
    Hd fun i x W hi h1 h2=>M5 ls al cl (kid i) x W (H6.o i hi) h1 h2
   obtain⟨B,hB⟩:=Ex (fnT (ExT.mk op v n kid) (AF ls));obtain⟨f,hf⟩:=Ex (fun i=>fnT (kid i) (AF ls):Nat->Bool)
   have gG:Hq (∀ i,fnT (kid i) (AF ls)=f i):=Hd fun i=>by rw[hf]
   rw[<- hB] at HE ⊢;rw[<- hf] at HE;have gB:op=8\/op=9->n=2:=by rintro(rfl|rfl)<;>(simp[Bi] at v4 v5;omega)
   have gA:op=10->n=3:=by rintro rfl;simp[Bi] at v4 v5;omega
   have gI:op=4->n=1:=by rintro rfl;simp[Bi] at v4 v5;omega
   obtain⟨w1,ga⟩:=Ex (w.alloc (.cells #[Iv op,Iv v,.slice a n c] 79));have HW1:Hq (_=w1):=Hd ga.symm;have g5:Hq (Bw w w1):=by rw[ga];exact Hd (Af _ _)
   have g6:w1.heap[w.heap.size]?=some (.cells #[Iv op,Iv v,.slice a n c] 79 (0,0)):=by rw[ga];exact Vq _ _
   have d0:w1.cell? (Av w.heap.size)=some (Iv op):=by rw[Vp _ _ 0 _ _ _ g6];rfl
   have d1:w1.cell? (Aw w.heap.size 1)=some (Iv v):=by rw[Vp _ _ 1 _ _ _ g6];rfl
   have d2:w1.cell? (Aw w.heap.size 2)=some (.slice a n c):=by rw[Vp _ _ 2 _ _ _ g6];rfl
   unfold okI at h2 h3;obtain⟨w2,gc⟩:=Ex (w1.alloc (.cells #[] 4));have gD:Hq (_=w2):=Hd gc.symm;have HB2:Hq (Bw w1 w2):=by rw[gc];exact Hd (Af _ _)
   have gg:Hq (OwnB w2 w1.heap.size (.slice (some (Av w1.heap.size)) 0 0) []):=by rw[gc];exact Hd (Cv _ _ _ (Vo _))
   have hs1:w1.heap.size=w.heap.size+1:=by rw[ga];simp
   rw[hs1] at gg;clear h5 ga gc g6 hf hB v1 v4 v5 v6 hls
   go_enter func119,ntmps119
   go_upto_region 1 with fail;rw[HW1.o];go_upto_region 3 with fail;rw[gD.o];have gy:w1.heap.size<=w2.heap.size:=HB2.o.size;have d0':=Cq HB2.o d0;have d1':=Cq HB2.o d1;have d2':=Cq HB2.o d2;go_wp2_with fail
   go_loopw [5,6,7,8] (fun s5 s6 s7 s8 wr=>∃ i k:Nat,i<=n/\k<=i/\s5=Iv k/\s7=Iv i/\Hq (k=cntT i f)/\Bw w1 wr/\OwnB wr w1.heap.size s6 ((List.range i).map f)/\w1.heap.size<=wr.heap.size) (fun _ _ s7 _ _=>n-(intOf s7).toNat)
   case atStart=>exact⟨0,0,Vu _,Vo _,rfl,rfl,Hd rfl,HB2.o,by rw[hs1];exact gg.o,gy⟩
   case round =>
    obtain⟨i,k,hi,gJ,rfl,rfl,HK,g2,g0,gx⟩:=hrel;have e0:=Cq g2 d0;have e1:=Cq g2 d1;have e2:=Cq g2 d2;have g3:=Hd g2;have gE:=Hd g0;clear g2 d0' d1' d2'
    by_cases gz:i<n
    ·clear g0;obtain⟨b,off,x0,x1,x2,rfl,c0,c1,c2,hx⟩:=H5.o i gz;have g4:=g5.o.trans (g3.o.mono g5.o.size);have q0:=Cq g4 c0;have q1:=Cq g4 c1;have q2:=Cq g4 c2;have HX:=Hd (hx.below g4);have gF:=Hd (gq.o.below g4);have gC:(i:Int)<n:=by omega
     have gt:Hq (∀ y,f i=y->k+(if y then 1 else 0)=cntT (i+1) f):=Hd fun y hy=>by rw[<- hy,HK.o];rfl
     clear c0 c1 c2 hx g4;go_wp2_with fail;refine(IH.o i _ _ (by omega) HX.o gF.o).mono ?_;rintro y w3 ⟨rfl,go⟩;have gj:=Hd go;clear go;go_upto_region 7 with fail;rw[gG.o];obtain⟨y,hy⟩:∃ y,f i=y:=⟨_,rfl⟩;rw[hy];have gr:=Hd (gt.o y hy);have gi:=Hd (gE.o.below gj.o);have gf:w1.heap.size<=w3.heap.size:=Vx gx gj.o.size;have gk:=Hd (g3.o.trans (gj.o.mono g3.o.size));have gp:Hq (A8 ((List.range (i+1)).map f)=A8 ((List.range i).map f)++[.bool y]):=Hd (by rw[M4,DA,hy]);clear gt hy q0 q1 q2 e0 e1 e2;go_upto_region 8 with (at_builtin;refine BC CK _ rfl _ _ rfl w1.heap.size _ (A8 ((List.range i).map f)) _ rfl rfl rfl rfl rfl (by exact gi.o) (by simp[A8];omega) gf ?_;intro v4 w4 gd q1 q2 q3 q4 gn)
     have gv:=Hd (CA gk.o gi.o q1 q2 q3 q4 gn gf);have gh:=Hd gd;have ge:w1.heap.size<=w4.heap.size:=by omega
     clear gd q1 q2 q3 q4 gn;cases y with
     | true =>
       go_wp2_with fail;go_roundw
       case rel=>exact⟨i+1,k+1,by omega,by omega,by go_num,by go_num,Hd gr.o,gv.o,by unfold OwnB;rw[gp.o];exact gh.o,ge⟩
       case measure=>simp[intOf];omega
     | false =>
       go_wp2_with fail;go_roundw
       case rel=>exact⟨i+1,k,by omega,by omega,by go_num,by go_num,Hd gr.o,gv.o,by unfold OwnB;rw[gp.o];exact gh.o,ge⟩
       case measure=>simp[intOf];omega
    ·have he:i=n:=by omega
     subst he;have gC:¬ (i:Int)<i:=by omega
     have HF:Hq (∀ b:Bool,b=B->Ending.returned (.bool b)=.returned (.bool B)/\Bw w wr):=Hd fun b hb=>⟨by rw[hb],g5.o.trans (g3.o.mono g5.o.size)⟩
     have g1:0<i->∃ g cap,u6=.slice (some (Av g)) i cap/\∀ j,j<i->wr.cell? (Aw g j)=some (.bool (f j)):=by
      intro hp;obtain⟨g,cap,e,_⟩:=g0.shape (by simp[A8];omega);have e':u6=.slice (some (Av g)) i cap:=by rw[e];simp[A8]
      refine⟨g,cap,e',fun j hj=>?_⟩;rw[e'] at g0;have:=g0.cellB j (by simp;omega);rw[this];simp[List.getD,hj]
     clear g0;rcases(show op=1\/op=2\/op=3\/op=4\/op=5\/op=6\/op=7\/op=8\/op=9\/op=10 by omega) with rfl|rfl|rfl|rfl|rfl|rfl|rfl|rfl|rfl|rfl
     . go_wp2_with fail;go_ret;exact HF.o _ (by rw[HE.o];rfl)
     . go_wp2_with fail;go_ret;exact HF.o _ (by rw[HE.o];rfl)
     ·obtain⟨v5,v6⟩:=v2 rfl;obtain⟨u,rfl⟩:∃ u:Nat,v=(u:Int):=⟨v.toNat,by omega⟩;have gu:Hq (B=AF ls u):=Hd (by rw[HE.o];rfl)
      by_cases hu:u<ls.length
      ·obtain⟨bl,ol,rfl,cl0⟩:=(gq.o.below (g5.o.trans (g3.o.mono g5.o.size))).cells u hu;have gw:(u:Int)<ls.length:=by omega
       have g7:Hq (B=ls.getD u false):=gu;obtain⟨yy,gl⟩:=Ex (ls.getD u false);rw[<- gl] at cl0 g7;clear gl;go_wp2_with fail;go_ret;exact HF.o _ g7.o.symm
      ·have gw:¬ (u:Int)<ls.length:=by omega
       have g7:Hq (B=false):=Hd (by rw[gu.o];unfold AF;simp[List.getD,VE (show ls.length<=u by omega)]);go_wp2_with fail;go_ret;exact HF.o _ g7.o.symm
     . have HV:Hq (((k:Int) == 0)=B):=Hd (by rw[HE.o,HK.o];exact Jd _ 0);go_wp2_with fail;go_ret;exact HF.o _ HV.o
     . have HV:Hq (((k:Int) == (i:Int))=B):=Hd (by rw[HE.o,HK.o];exact Jd _ i);go_wp2_with fail;go_ret;exact HF.o _ HV.o
     ·have HV:Hq (decide (0<k)=B):=Hd (by
       rw[HE.o,HK.o];rfl)
      go_wp2_with fail;go_ret;exact HF.o _ HV.o
     . have HV:Hq (((k:Int).tmod 2 == 1)=B):=Hd (by rw[HE.o,HK.o];exact tmod2 _);go_wp2_with fail;go_ret;exact HF.o _ HV.o
     ·have:=gB (.inl rfl);subst this;obtain⟨g,cap,rfl,hc⟩:=g1 (by omega);have c0:=hc 0 (by omega);have c1:=hc 1 (by omega);have HV:Hq ((!(f 0)||f 1)=B):=Hd (by rw[HE.o];rfl);obtain⟨y0,g9⟩:∃ y,y=f 0:=⟨_,rfl⟩;obtain⟨y1,g8⟩:∃ y,y=f 1:=⟨_,rfl⟩;rw[<- g9] at c0 HV;rw[<- g8] at c1 HV;clear g9 g8 hc g1;cases y0 with
      | true =>
        go_wp2_with fail;go_ret;exact HF.o _ HV.o
      | false =>
        go_wp2_with fail;go_ret;exact HF.o _ HV.o
     ·have HV:Hq (((k:Int) != 1)=B):=Hd (by
       rw[HE.o,HK.o]
       show (!((cntT i f:Int) == ((1:Nat):Int)))=decide (cntT i f≠1)
       rw[Jd]
       by_cases h:cntT i f=1<;>simp[h])
      go_wp2_with fail;go_ret;exact HF.o _ HV.o
     ·have:=gA rfl;subst this;obtain⟨g,cap,rfl,hc⟩:=g1 (by omega);have c0:=hc 0 (by omega);have c1:=hc 1 (by omega);have c2:=hc 2 (by omega);have HV:Hq (iteB (f 0) (f 1) (f 2)=B):=Hd (by rw[HE.o];rfl);obtain⟨y0,g9⟩:∃ y,y=f 0:=⟨_,rfl⟩;obtain⟨y1,g8⟩:∃ y,y=f 1:=⟨_,rfl⟩;obtain⟨y2,gm⟩:∃ y,y=f 2:=⟨_,rfl⟩;rw[<- g9] at c0 HV;rw[<- g8] at c1 HV;rw[<- gm] at c2 HV;clear g9 g8 gm hc g1;cases y0 with
      | true =>
        go_wp2_with fail;go_ret;exact HF.o _ HV.o
      | false =>
        go_wp2_with fail;go_ret;exact HF.o _ HV.o
section
theorem SX {o:Oper}(hw:Region.wanted o (yielded ops a.tmps)=true)
 (he:(execOp a.eval o).run P w=.ok (.value v) w') (hS:S w') (h:A6 P ops Q S last r (a.put o.dst v) w'):A6 P ops Q S last ((some o,true)::r) a w:=by
 unfold A6;simp only[hw,Ws,Oper.wp,he,Oper.upon];exact⟨.inr hS,h⟩
theorem SY {o:Oper}{f:FuncId}{R:Value->Wd->Prop}(hw:Region.wanted o (yielded ops a.tmps)=true)
 (he:(execOp a.eval o).run P w=.ok (.enter f args) w) (hc:Calls P f args w fun e w'=>∃ v,e=.returned v/\S w'/\R v w')
 (h:∀ v w',S w'->R v w'->A6 P ops Q S last r (a.put o.dst v) w'):A6 P ops Q S last ((some o,true)::r) a w:=by
 unfold A6;simp only[hw,Ws,Oper.wp,he,Oper.upon];exact hc.mono fun e w' ⟨v,h1,h2,h3⟩=>by subst h1;exact⟨.inr h2,h v w' h2 h3⟩
end
theorem Je (mb:Nat)(b:Bool)(w:Wd):Cl 115 #[Pt mb,.bool b] w (Sm (Iv (if b then 1 else 0)) w):=by
 cases b with
 | true =>
   go_enter func115,ntmps115
   go_wp2_with fail;go_ret;exact⟨rfl,rfl⟩
 | false =>
   go_enter func115,ntmps115
   go_wp2_with fail;go_ret;exact⟨rfl,rfl⟩
theorem SZ {α:Type}{l:List α}(h:l.length=2):∃ a b,l=[a,b]:=by
 match l,h with
 | [a,b],_=>exact⟨a,b,rfl⟩
theorem Ta {α:Type}{l:List α}(h:l.length=3):∃ a b c,l=[a,b,c]:=by
 match l,h with
 | [a,b,c],_=>exact⟨a,b,c,rfl⟩
theorem M6 {f:Nat->Nat}(h:∀ i,1<=f i):∀ k,k<=sumN k f
 | 0=>Vu _
 | k+1=>by
   have:=M6 h k;have:=h k
   show k+1<=sumN k f+f k
   omega
section
variable {o:Own}
theorem Goes.refl {M:Nat}(h:SatE K n Od room w0 mb fs nx w o m V)(hw:m.waits=[]/\m.d.pool.many<=M):Goes K n Od room w0 mb fs nx (NoW M) o w w:=⟨o,m,V,ChgX.of_below (VA _ _) o NoB,hw,h⟩
theorem Goes.after {Wt:List Ev->Int->Nat->Prop}(hc:ChgX NoB o o' w w')(g:Goes K n Od room w0 mb fs nx Wt o' w' w''):Goes K n Od room w0 mb fs nx Wt o w w'':=by
 obtain⟨o2,m2,V2,h1,h2,h3⟩:=g;exact⟨o2,m2,V2,hc.trans h1 (fun _ _ e=>e),h2,h3⟩
theorem Goes.cell {Wt:List Ev->Int->Nat->Prop}(g:Goes K n Od room w0 mb fs nx Wt o w w'){p:Addr}{v:Value}(hc:w.cell? p=some v)(hb:o p.block=none):w'.cell? p=some v:=by
 obtain⟨o2,m2,V2,h1,h2,h3⟩:=g;exact h1.cell hc hb (fun e=>e)
theorem Goes.below0 {Wt:List Ev->Int->Nat->Prop}(g:Goes K n Od room w0 mb fs nx Wt o w w'):Bw w0 w':=by
 obtain⟨o2,m2,V2,h1,h2,h3⟩:=g;exact h3.chg.below0
structure BuiT (K:Law)(n:Nat)(Od:List Nat->Prop)(room:Nat)(w0:Wd)(mb:Nat)(fs:List (Int×BF))(nx:Int)(M:Nat)(o:Own)(w:Wd)(vl:Value)(ks:List Int)(W:Wd)(o':Own)(m':ManD)(V':Nat->BF):Prop where
 sat:SatE K n Od room w0 mb fs nx W o' m' V'
 waits:m'.waits=[]/\m'.d.pool.many<=M
 chg:ChgX NoB o o' w W
 l:LawL W o' w.heap.size vl ks
def BuiS (K:Law)(n:Nat)(Od:List Nat->Prop)(room:Nat)(w0:Wd)(mb:Nat)(fs:List (Int×BF))(nx:Int)(M:Nat)(o:Own)(w:Wd)(vl:Value)(ks:List Int)(W:Wd):Prop:=∃ o' m' V',BuiT K n Od room w0 mb fs nx M o w vl ks W o' m' V'
section
variable {M:Nat}{vl':Value}
theorem BuiT.go (h:BuiT K n Od room w0 mb fs nx M o w vl ks W o' m' V'){M':Nat}(g:Goes K n Od room w0 mb fs' nx' (NoW M') o' W W'):BuiS K n Od room w0 mb fs' nx' M' o w vl ks W':=by
 obtain⟨o2,m2,V2,h1,h2,h3⟩:=g;exact⟨o2,m2,V2,h3,h2,h.chg.trans h1 (fun _ _ e=>e),h.l.chg h1⟩
theorem BuiT.refl (h:BuiT K n Od room w0 mb fs nx M o w vl ks W o' m' V'):Goes K n Od room w0 mb fs nx (NoW M) o' W W:=Goes.refl h.sat h.waits
theorem BuiS.below (h:BuiS K n Od room w0 mb fs nx M o w vl ks W)(hb:Bw W W'):BuiS K n Od room w0 mb fs nx M o w vl ks W':=by
 obtain⟨o',m',V',h⟩:=h;exact h.go (h.refl.below hb)
theorem BuiS.goes (h:BuiS K n Od room w0 mb fs nx M o w vl ks W):Goes K n Od room w0 mb fs nx (NoW M) o w W:=by
 obtain⟨o',m',V',h⟩:=h;exact⟨o',m',V',h.chg,h.waits,h.sat⟩
theorem BuiS.app {k:Int}(h:BuiT K n Od room w0 mb fs nx M o w vl ks W o' m' V')(hown:OwnC 3 W' w.heap.size vl' (Aq ks++[Iv k]))(e1:W'.os=W.os)(e2:W'.tape=W.tape)(e3:W'.output=W.output)(e4:W.heap.size<=W'.heap.size)(hk:BT vl vl' W W')(hw0:w0.heap.size<=w.heap.size) :
 BuiS K n Od room w0 mb fs nx M o w vl' (ks++[k]) W':=by
 have hw:=Gk e1 e2 e3 e4 hk;exact⟨o',m',V',h.sat.other hw (fun k _ hk=>⟨by have:=(h.l.own.lt k hk).1;omega,h.l.no k hk⟩),h.waits,h.chg.trans (ChgX.of_wr (C:=fun k=>w.heap.size<=k) hw o' (fun k _ hk=>(h.l.own.lt k hk).1)) (fun k hk e=>by omega),h.l.app h.sat.lt hown hk⟩
theorem BuiS.cells (h:BuiS K n Od room w0 mb fs nx M o w vl ks W)(hp:0<ks.length):∃ g c,vl=.slice (some (Av g)) ks.length c/\∀ j,j<ks.length->W.cell? (Aw g j)=some (Iv (at0 ks j)):=by
 obtain⟨o',m',V',h⟩:=h;obtain⟨g,c,e,_⟩:=h.l.own.shape (by simpa [Aq] using hp);have e':vl=.slice (some (Av g)) ks.length c:=by rw[e];simp[Aq]
 refine⟨g,c,e',fun j hj=>?_⟩;have ho:=h.l.own;rw[e'] at ho;rw[ho.cell j (by simpa [Aq] using hj)];simp[Aq,Az hj,hj]
theorem BuiS.cellsN (h:BuiS K n Od room w0 mb fs nx M o w vl ks W)(hl:ks.length=i)(hp:0<i):∃ g c,vl=.slice (some (Av g)) i c/\∀ j,j<i->W.cell? (Aw g j)=some (Iv (at0 ks j)):=by
 subst hl;exact h.cells hp
end
def Ci (n s:Nat):Nat:=s*2^n-(2^n-1)
theorem Gy (n:Nat){s:Nat}(h:1<=s):Ci n s+(2^n-1)=s*2^n:=by
 have:=Wn (2^n) h;unfold Ci;omega
def Br (n:Nat)(kid:Nat->ExT)(i:Nat):Nat:=sumN i fun j=>Ci n (kid j).size
theorem M7 (n:Nat)(kid:Nat->ExT):∀ i,Br n kid i+i*(2^n-1)=(sumN i fun i=>(kid i).size)*2^n
 | 0=>by simp[Br,sumN]
 | i+1=>by
   have h1:=M7 n kid i;have h2:=Gy n (kid i).size_pos
   show Br n kid i+Ci n (kid i).size+(i+1)*(2^n-1)=((sumN i fun i=>(kid i).size)+(kid i).size)*2^n
   rw[WY,WY];omega
structure BCtx (K:Law)(n:Nat)(Od:List Nat->Prop)(room:Nat)(w0:Wd)(mb:Nat)(fs:List (Int×BF))(nx:Int)(M:Nat)(w w1:Wd)(o:Own)(m:ManD)(V:Nat->BF)(op v:Int)(nk:Nat)(kid:Nat->ExT)(a:Option Addr)(c:Nat)(E:ExT)(Q:Ending->Wd->Prop):Prop where
 HKK:Hq (Bb K)
 H5:Hq (∀ k,k<nk->∃ b off x0 x1 x2,a=some (Aw b off)/\w0.cell? (Aw b (off+k*3))=some x0/\w0.cell? (Aw b (off+k*3+1))=some x1/\w0.cell? (Aw b (off+k*3+2))=some x2/\A3 w0 (kid k) (.agg #[x0,x1,x2]))
 HKS:Hq (∀ i,i<nk->(sumN i fun i=>(kid i).size)+(kid i).size+1<=E.size)
 HSZ:Hq (E.size=1+sumN nk fun i=>(kid i).size)
 HPOS:Hq (∀ k,k<=sumN k fun i=>(kid i).size)
 IH:Hq (∀ (i:Nat) (x:Value) (fs':List (Int×BF)) (nx':Int) (W:Wd) (o':Own) (m':ManD) (V':Nat->BF) (M':Nat),i<nk->SatE K n Od room w0 mb fs' nx' W o' m' V'->m'.waits=[]/\m'.d.pool.many<=M'->B2 fs'->A3 w0 (kid i) x->nx'+3*(kid i).size<549755813000->M'+(kid i).size*2^n<=room ->
  Cl 59 #[Pt mb,x] W fun y w'=>∃ k:Int,y=.returned (.tuple #[Iv k,.bool true])/\k+3<=nx'+3*(kid i).size/\Goes K n Od room w0 mb (fs'++[(k,fnT (kid i))]) (k+1) (NoW (M'+Ci n (kid i).size)) o' W w')
 HW1:Hq (w.alloc (.cells #[Iv op,Iv v,.slice a nk c] 79)=w1)
 HG1:Hq (Goes K n Od room w0 mb fs nx (NoW M) o w1 w1)
 HSAT1:Hq (SatE K n Od room w0 mb fs nx w1 o m V)
 HWT:Hq (m.waits=[]/\m.d.pool.many<=M)
 HB2:Hq (B2 fs)
 HQ:Hq (∀ (k:Int) F W M',F=fnT E->k+3<=nx+3*E.size->M'<=M+Ci n E.size->Goes K n Od room w0 mb (fs++[(k,F)]) (k+1) (NoW M') o w1 W->Q (.returned (.tuple #[Iv k,.bool true])) W)
 HMR:Hq (∀ i,i<nk->M+(sumN i fun i=>(kid i).size)*2^n+(kid i).size*2^n+2^n<=room)
 HCK:Hq (∀ i,Br n kid i+i*(2^n-1)=(sumN i fun i=>(kid i).size)*2^n)
 HCI:Hq (∀ i,Ci n (kid i).size+(2^n-1)=(kid i).size*2^n)
 HEP:Hq (E.size*2^n=2^n+(sumN nk fun i=>(kid i).size)*2^n/\Ci n E.size+(2^n-1)=E.size*2^n)
 HME:Hq (M+E.size*2^n<=room)
 hn64:nk<=64
 hnx:nx+3*E.size<549755813000
 hE1:1<=E.size
 hs1:w1.heap.size=w.heap.size+1
 d0:w1.cell? (Av w.heap.size)=some (Iv op)
 d1:w1.cell? (Aw w.heap.size 1)=some (Iv v)
 d2:w1.cell? (Aw w.heap.size 2)=some (.slice a nk c)
 on:o w.heap.size=none
 hw0:w0.heap.size<=w1.heap.size
 hp2:0<2^n
 h2 : -9223372036854775808<=op/\op<=9223372036854775807
 h3 : -9223372036854775808<=v/\v<=9223372036854775807
theorem Tb {v:Int}{kid:Nat->ExT}{a:Option Addr}{E:ExT}{Q:Ending->Wd->Prop}{M:Nat}(hctx:BCtx K n Od room w0 mb fs nx M w w1 o m V op v nk kid a c E Q)(h1:op=1)(hF:fnT E=fun _=>true) :
 Cl 59 #[Pt mb,.agg #[Iv op,Iv v,.slice a nk c]] w Q:=by
 obtain⟨HKK,H5,HKS,HSZ,HPOS,IH,HW1,HG1,HSAT1,HWT,HB2,HQ,HMR,HCK,HCI,HEP,HME,hn64,hnx,hE1,hs1,d0,d1,d2,on,hw0,hp2,h2,h3⟩:=hctx;subst h1;have g2:=Hd (Je mb true w1);have g1:=Hd (Gw HKK.o HG1.o (by omega) (k:=1) (F:=fun _=>true) HB2.o.one);have g0:Hq ((fun _=>true)=fnT E):=Hd hF.symm;have g3:Hq (M<=M+Ci n E.size):=Hd (XR _ _);clear IH
 go_enter func59,ntmps59
 go_upto_region 1 with fail;rw[HW1.o];go_wp2_with fail;refine g2.o.mono ?_;rintro y w' ⟨rfl,rfl⟩;go_wp2_with fail;refine g1.o.mono ?_;rintro y w2 ⟨rfl,g⟩;have HF:=Hd (HQ.o nx _ w2 _ g0.o (by omega) g3.o g);clear g;go_wp2_with fail;exact HF.o
theorem Tc {v:Int}{kid:Nat->ExT}{a:Option Addr}{E:ExT}{Q:Ending->Wd->Prop}{M:Nat}(hctx:BCtx K n Od room w0 mb fs nx M w w1 o m V op v nk kid a c E Q)(h1:op=2)(hF:fnT E=fun _=>false) :
 Cl 59 #[Pt mb,.agg #[Iv op,Iv v,.slice a nk c]] w Q:=by
 obtain⟨HKK,H5,HKS,HSZ,HPOS,IH,HW1,HG1,HSAT1,HWT,HB2,HQ,HMR,HCK,HCI,HEP,HME,hn64,hnx,hE1,hs1,d0,d1,d2,on,hw0,hp2,h2,h3⟩:=hctx;subst h1;have g2:=Hd (Je mb false w1);have g1:=Hd (Gw HKK.o HG1.o (by omega) (k:=0) (F:=fun _=>false) HB2.o.zero);have g0:Hq ((fun _=>false)=fnT E):=Hd hF.symm;have g3:Hq (M<=M+Ci n E.size):=Hd (XR _ _);clear IH
 go_enter func59,ntmps59
 go_upto_region 1 with fail;rw[HW1.o];go_wp2_with fail;refine g2.o.mono ?_;rintro y w' ⟨rfl,rfl⟩;go_wp2_with fail;refine g1.o.mono ?_;rintro y w2 ⟨rfl,g⟩;have HF:=Hd (HQ.o nx _ w2 _ g0.o (by omega) g3.o g);clear g;go_wp2_with fail;exact HF.o
theorem Td {v:Int}{kid:Nat->ExT}{a:Option Addr}{E:ExT}{Q:Ending->Wd->Prop}{M:Nat}(hctx:BCtx K n Od room w0 mb fs nx M w w1 o m V op v nk kid a c E Q){u:Nat}(hu:u<n)(h1:op=3)(hvu:v=u)(hF:fnT E=varF u) :
 Cl 59 #[Pt mb,.agg #[Iv op,Iv v,.slice a nk c]] w Q:=by
 obtain⟨HKK,H5,HKS,HSZ,HPOS,IH,HW1,HG1,HSAT1,HWT,HB2,HQ,HMR,HCK,HCI,HEP,HME,hn64,hnx,hE1,hs1,d0,d1,d2,on,hw0,hp2,h2,h3⟩:=hctx;subst hvu;subst h1;have g1:=Hd (SV HKK.o HG1.o (by omega) (by have:=HEP.o;have:=HME.o;omega) hu);have g0:Hq (varF u=fnT E):=Hd hF.symm;have g2:Hq (M+1<=M+Ci n E.size):=Hd (by have:=HEP.o;omega);clear IH
 go_enter func59,ntmps59
 go_upto_region 1 with fail;rw[HW1.o];go_wp2_with fail;refine g1.o.mono ?_;rintro y w2 ⟨rfl,g⟩;have HF:=Hd (HQ.o nx _ w2 _ g0.o (by omega) g2.o g);clear g;go_wp2_with fail;exact HF.o
end
section
variable {o:Own}
theorem Te {v:Int}{kid:Nat->ExT}{a:Option Addr}{E:ExT}{Q:Ending->Wd->Prop}{M:Nat}(hctx:BCtx K n Od room w0 mb fs nx M w w1 o m V op v nk kid a c E Q)(h1:op=5\/op=6\/op=7)(hF:fnT E=accT op kid nk) :
 Cl 59 #[Pt mb,.agg #[Iv op,Iv v,.slice a nk c]] w Q:=by
 obtain⟨HKK,H5,HKS,HSZ,HPOS,IH,HW1,HG1,HSAT1,HWT,HB2,HQ,HMR,HCK,HCI,HEP,HME,hn64,hnx,hE1,hs1,d0,d1,d2,on,hw0,hp2,h2,h3⟩:=hctx;have ga:5<=op/\op<=9:=by omega
 have gc:Hq (accT op kid nk=fnT E):=Hd hF.symm;have gd:=Hd (fun b=>Je mb b w1)
 have g8:Hq (∀ z:Int,z=(if op=5 then 1 else 0)->Cl 114 #[Pt mb,Iv z] w1 fun x w''=>x=.returned (.tuple #[Iv nx,Iv 0])/\Goes K n Od room w0 mb (fs++[(nx,accT op kid 0)]) (nx+1) (NoW M) o w1 w''):=Hd (by
  rintro z rfl
  by_cases e:op=5
  . rw[Vs e,show accT op kid 0=fun _=>true by unfold accT;simp[e]];exact Gw HKK.o HG1.o (by omega) HB2.o.one
  . rw[Vn e,show accT op kid 0=fun _=>false by unfold accT;simp[e]];exact Gw HKK.o HG1.o (by omega) HB2.o.zero)
 obtain⟨A,hA⟩:=Ex (accT op kid:Nat->BF);have gj:Hq (∀ i,D9 op (A i) (fnT (kid i))=A (i+1)):=Hd fun i=>by rw[hA];rfl
 rw[<- hA] at g8 gc;clear hA;rcases h1 with h1|h1|h1
 all_goals
  subst h1
  go_enter func59,ntmps59
  go_upto_region 1 with fail;rw[HW1.o];go_wp2_with fail;refine(gd.o _).mono ?_;rintro y w' ⟨rfl,rfl⟩;go_wp2_with fail;refine(g8.o _ (by rfl)).mono ?_;rintro y w2 ⟨rfl,g⟩;have gi:=Hd g;clear g gd g8;go_wp2_with fail
  go_loopw [10,12,13,14] (fun s10 s12 s13 s14 wr=>∃ (i:Nat) (k:Int),i<=nk/\s10=Iv k/\s12=.bool true/\s13=Iv i/\Hq (k+3<=nx+3*((1+sumN i fun i=>(kid i).size:Nat):Int))/\Hq (Goes K n Od room w0 mb (fs++[(k,A i)]) (k+1) (NoW (M+(sumN i fun i=>(kid i).size)*2^n)) o w1 wr)) (fun _ _ s13 _ _=>nk-(intOf s13).toNat)
  case atStart=>exact⟨0,nx,Vu _,rfl,rfl,rfl,Hd (by show nx+3<=nx+3*((1+0:Nat):Int);omega),Hd (gi.o.more (XR _ _))⟩
  case round =>
   obtain⟨i,k,hi,rfl,rfl,rfl,HN,HG⟩:=hrel;have e0:=HG.o.cell (p:=Av w.heap.size) d0 on;have e2:=HG.o.cell (p:=Aw w.heap.size 2) d2 on
   by_cases g0:i<nk
   ·obtain⟨b,off,x0,x1,x2,rfl,c0,c1,c2,hx⟩:=H5.o i g0;have g1:=HG.o.below0;have q0:=Cq g1 c0;have q1:=Cq g1 c1;have q2:=Cq g1 c2;have gf:(i:Int)<nk:=by omega
    have gl:=HKS.o i g0;obtain⟨o1,m1,V1,g9,g5,g6⟩:=HG.o;have gk:=HN.o;have g2:=Hd (IH.o i _ (fs++[(k,A i)]) (k+1) _ o1 m1 V1 _ g0 g6 g5 (HB2.o.app _) hx (by omega) (by have:=HMR.o i g0;omega));have ge:=Hd g9;clear g1 c0 c1 c2 hx g6 g5 g9;go_wp2_with fail;refine g2.o.mono ?_;rintro y w3 ⟨k2,rfl,gn,g3⟩
    have g7:Hq (Goes K n Od room w0 mb (fs++[(k,A i),(k2,fnT (kid i))]) (k2+1) (NoW (M+(sumN i fun i=>(kid i).size)*2^n+Ci n (kid i).size)) o w1 w3):=Hd (by
     have:=g3.after ge.o;rw[VC] at this;exact this)
    have f0:=g7.o.cell (p:=Av w.heap.size) d0 on;have HJ:=Hd (My HKK.o g7.o HB2.o (by omega) (by have:=HMR.o i g0;have:=HCI.o i;omega) ga.1 ga.2);clear g3 g2 ge q0 q1 q2 e0 e2;go_wp2_with fail;refine HJ.o.mono ?_;rintro y w4 ⟨k4,rfl,gm,g4⟩
    have gh:Hq (Goes K n Od room w0 mb (fs++[(k4,A (i+1))]) (k4+1) (NoW (M+(sumN (i+1) fun i=>(kid i).size)*2^n)) o w1 w4):=Hd (by
     rw[<- gj.o i];refine g4.more ?_
     show _<=M+((sumN i fun i=>(kid i).size)+(kid i).size)*2^n
     rw[WY];have:=HCI.o i;omega)
    have gg:Hq (k4+3<=nx+3*((1+sumN (i+1) fun i=>(kid i).size:Nat):Int)):=Hd (by
     show k4+3<=nx+3*((1+((sumN i fun i=>(kid i).size)+(kid i).size):Nat):Int)
     omega)
    clear g4 HJ f0 g7;go_wp2_with fail;go_roundw
    case rel=>exact⟨i+1,k4,by omega,rfl,rfl,by go_num,gg,gh⟩
    case measure=>simp[intOf];omega
   ·obtain rfl:i=nk:=by omega
    have gf:¬ (i:Int)<i:=by omega
    have HF:=Hd (HQ.o k _ _ _ gc.o (by have:=HN.o;have:=HSZ.o;omega) (by have:=HEP.o;omega) HG.o);go_wp2_with fail;exact HF.o
end
section
variable {o:Own}
theorem Tf {v:Int}{kid:Nat->ExT}{a:Option Addr}{E:ExT}{Q:Ending->Wd->Prop}{M:Nat}(hctx:BCtx K n Od room w0 mb fs nx M w w1 o m V op v nk kid a c E Q)(h1:op=4)(hnk:nk=1)(hF:fnT E=notF (fnT (kid 0))) :
 Cl 59 #[Pt mb,.agg #[Iv op,Iv v,.slice a nk c]] w Q:=by
 obtain⟨HKK,H5,HKS,HSZ,HPOS,IH,HW1,HG1,HSAT1,HWT,HB2,HQ,HMR,HCK,HCI,HEP,HME,hn64,hnx,hE1,hs1,d0,d1,d2,on,hw0,hp2,h2,h3⟩:=hctx;have g1:(op == 1)=false:=by simp;omega
 have g2:(op == 2)=false:=by simp;omega
 have g3:(op == 3)=false:=by simp;omega
 have g5:(op == 5)=false:=by simp;omega
 have g6:(op == 6)=false:=by simp;omega
 have g7:(op == 7)=false:=by simp;omega
 have g4:(op == 4)=true:=by simp;omega
 have gD:=Hd hnk;clear h1 hnk;obtain⟨w2,gf⟩:=Ex (w1.alloc (.cells #[] 3));have gC:Hq (_=w2):=Hd gf.symm;have g9:Bw w1 w2:=by rw[gf];exact Af _ _
 have gm:Hq (BuiS K n Od room w0 mb (fs++[]) nx (M+Br n kid 0) o w1 (.slice (some (Av (w.heap.size+1))) 0 0) (([]:List (Int×BF)).map Prod.fst) w2):=Hd ⟨o,m,V,by rw[WM];exact HSAT1.o.below g9,HWT.o,CU g9 o,by rw[gf,<- hs1];exact Cv _ _ _ (Vo _),fun k hk=>by cases hk;rw[<- hs1];exact HSAT1.o.lt.none (Vo _)⟩;have gn:=Hd g9;clear gf g9
 go_enter func59,ntmps59
 go_upto_region 1 with fail;rw[HW1.o];go_upto_region 23 with fail;rw[gC.o];have e2:=Cq gn.o d2;go_wp2_with fail
 go_loopw [15,106] (fun s15 s106 wr=>∃ (i:Nat) (hs:List (Int×BF)) (nxi:Int),i<=nk/\s106=Iv i/\hs.length=i/\nxi+2*i<=nx+3*((sumN i fun i=>(kid i).size:Nat):Int)/\Hq (∀ j (hj:j<hs.length),hs[j].2=fnT (kid j))/\Hq (BuiS K n Od room w0 mb (fs++hs) nxi (M+Br n kid i) o w1 s15 (hs.map Prod.fst) wr)) (fun _ s106 _=>nk-(intOf s106).toNat)
 case atStart=>exact⟨0,[],nx,Vu _,rfl,rfl,by show nx+2*((0:Nat):Int)<=nx+3*((0:Nat):Int);omega,Hd (fun j hj=>by simp at hj),gm⟩
 case round =>
  clear gm gn e2
  rename Wd=>wy
  obtain⟨i,hs,nxi,hi,rfl,gA,gI,gt,g0⟩:=hrel
  by_cases gi:i<nk
  ·obtain⟨b,off,x0,x1,x2,rfl,c0,c1,c2,hx⟩:=H5.o i gi;have gj:=g0.o.goes.below0;have q0:=Cq gj c0;have q1:=Cq gj c1;have q2:=Cq gj c2;obtain⟨zo,zv,za,zn,zc,rfl,rfl,rfl⟩:=hx.parts;have gz:(i:Int)<nk:=by omega
   have gK:=HKS.o i gi;obtain⟨wz,ge⟩:=Ex (wy.alloc (.cells #[Iv zo,Iv zv,.slice za zn zc] 79));have gB:Hq (_=wz):=Hd ge.symm;have gr:Bw wy wz:=by rw[ge];exact Af _ _
   have g8:wz.heap[wy.heap.size]?=some (.cells #[Iv zo,Iv zv,.slice za zn zc] 79 (0,0)):=by rw[ge];exact Vq _ _
   have p0:wz.cell? (Av wy.heap.size)=some (Iv zo):=by rw[Vp _ _ 0 _ _ _ g8];rfl
   have p1:wz.cell? (Aw wy.heap.size 1)=some (Iv zv):=by rw[Vp _ _ 1 _ _ _ g8];rfl
   have p2:wz.cell? (Aw wy.heap.size 2)=some (.slice za zn zc):=by rw[Vp _ _ 2 _ _ _ g8];rfl
   obtain⟨o1,m1,V1,bt⟩:=g0.o.below gr;have gH:=HPOS.o i;have gk:=Hd (IH.o i _ (fs++hs) nxi wz o1 m1 V1 _ gi bt.sat bt.waits (HB2.o.app _) hx (by omega) (by have:=HMR.o i gi;have:=HCK.o i;omega));have gc:=Hd bt;clear gj c0 c1 c2 hx bt ge gr g8 g0;go_upto_region 26 with fail;rw[gB.o];clear q0 q1 q2;go_wp2_with fail;refine gk.o.mono ?_;rintro y w3 ⟨k2,rfl,gL,gg⟩;have gl:=Hd (gc.o.go (M':=M+Br n kid (i+1)) (gg.more (Nat.le_of_eq (Xu _ _ _))));have gF:Hq (∀ j (hj:j<(hs++[(k2,fnT (kid i))]).length),(hs++[(k2,fnT (kid i))])[j].2=fnT (kid j)):=Hd fun j hj=>by
    rcases VB j hs.length with h|h
    . rw[Wp h];exact gt.o j h
    ·have gy:j=i:=by simp at hj;omega
     subst gy;rw[W9 (by omega)];simp
   clear gg gk gc p0 p1 p2;obtain⟨o3,m3,V3,bt3⟩:=gl.o;have gw:w1.heap.size<=w3.heap.size:=bt3.chg.size;have gd:=Hd bt3;clear bt3;go_upto_region 30 with (at_builtin;refine BC FQ _ rfl _ _ rfl w1.heap.size _ (Aq (hs.map Prod.fst)) _ rfl rfl rfl rfl rfl (by exact gd.o.l.own) (by simp[Aq];omega) gw ?_;intro v5 w5 gh r1 r2 r3 r4 gp)
   have gx:Hq (BuiS K n Od room w0 mb (fs++(hs++[(k2,fnT (kid i))])) (k2+1) (M+Br n kid (i+1)) o w1 v5 ((hs++[(k2,fnT (kid i))]).map Prod.fst) w5):=Hd (by
    have:=BuiS.app gd.o gh r1 r2 r3 r4 gp hw0;rw[VC] at this;rw[VK];exact this)
   clear gh r1 r2 r3 r4 gp gd gl;go_wp2_with fail;go_roundw
   case rel=>exact⟨i+1,hs++[(k2,fnT (kid i))],k2+1,by omega,by go_num,by simp;omega,by
    show k2+1+2*((i+1:Nat):Int)<=nx+3*(((sumN i fun i=>(kid i).size)+(kid i).size:Nat):Int)
    omega,gF,gx⟩
   case measure=>simp[intOf];omega
  ·obtain rfl:i=nk:=by omega
   have gz:¬ (i:Int)<i:=by omega
   have f0:=g0.o.goes.cell (p:=Av w.heap.size) d0 on;have gv:=HSZ.o;have gG:nxi+2*i+3<=nx+3*E.size:=by omega
   have hnk:=gD.o;have gJ:1<=i:=by omega
   clear gv H5 IH HSZ HKS HPOS;obtain⟨o1,m1,V1,bt⟩:=g0.o;have gc:=Hd bt;clear bt;subst hnk;obtain⟨⟨k0,F0⟩,rfl⟩:=List.length_eq_one_iff.1 gA;obtain⟨g,cp,rfl,ga⟩:=g0.o.cellsN (i:=1) rfl (by omega);have c0:wy.cell? (Av g)=some (Iv k0):=ga 0 (by omega);have HF:Hq (notF F0=fnT E):=Hd (by rw[hF,<- gt.o 0 (by simp)];rfl);have HN:=Hd (Mx HKK.o gc.o.refl (by omega) (k:=k0) (F:=F0) (by simp));clear ga;go_wp2_with fail;refine HN.o.mono ?_;rintro y w3 ⟨rfl,g3⟩;have gu:=Hd (gc.o.go g3);obtain⟨g',cp',ev,gq⟩:=gu.o.cellsN (i:=1) rfl (by omega);cases ev;have c3:w3.cell? (Av g)=some (Iv k0):=gq 0 (by omega);have HD:=Hd (Gx HKK.o (hs:=[(k0,F0)]) (r:=[(nxi,notF F0)]) (by have:=gu.o.goes;rw[VC] at this;exact this) HB2.o (by omega) (by simp) (T:=w3.alloc (.cells #[Iv k0] 3)) rfl);clear g3 gq HN;go_wp2_with fail;refine HD.o.mono ?_;rintro y w4 ⟨rfl,g4⟩;have gE:=Hd (HQ.o nxi _ w4 _ HF.o (by omega) (by have:=HEP.o;have:=HCK.o 1;omega) g4);clear g4 HD;go_wp2_with fail;exact gE.o
end
section
variable {o:Own}
theorem Tg {v:Int}{kid:Nat->ExT}{a:Option Addr}{E:ExT}{Q:Ending->Wd->Prop}{M:Nat}(hctx:BCtx K n Od room w0 mb fs nx M w w1 o m V op v nk kid a c E Q)(h1:op=8\/op=9)(hnk:nk=2)(hF:fnT E=D9 op (fnT (kid 0)) (fnT (kid 1))) :
 Cl 59 #[Pt mb,.agg #[Iv op,Iv v,.slice a nk c]] w Q:=by
 obtain⟨HKK,H5,HKS,HSZ,HPOS,IH,HW1,HG1,HSAT1,HWT,HB2,HQ,HMR,HCK,HCI,HEP,HME,hn64,hnx,hE1,hs1,d0,d1,d2,on,hw0,hp2,h2,h3⟩:=hctx;have g1:(op == 1)=false:=by simp;omega
 have g2:(op == 2)=false:=by simp;omega
 have g3:(op == 3)=false:=by simp;omega
 have g5:(op == 5)=false:=by simp;omega
 have g6:(op == 6)=false:=by simp;omega
 have g7:(op == 7)=false:=by simp;omega
 have g4:(op == 4)=false:=by simp;omega
 have g10:(op == 10)=false:=by simp;omega
 have gC:=Hd hnk;have H1:=Hd h1;clear h1 hnk;obtain⟨w2,gf⟩:=Ex (w1.alloc (.cells #[] 3));have gB:Hq (_=w2):=Hd gf.symm;have gc:Bw w1 w2:=by rw[gf];exact Af _ _
 have gn:Hq (BuiS K n Od room w0 mb (fs++[]) nx (M+Br n kid 0) o w1 (.slice (some (Av (w.heap.size+1))) 0 0) (([]:List (Int×BF)).map Prod.fst) w2):=Hd ⟨o,m,V,by rw[WM];exact HSAT1.o.below gc,HWT.o,CU gc o,by rw[gf,<- hs1];exact Cv _ _ _ (Vo _),fun k hk=>by cases hk;rw[<- hs1];exact HSAT1.o.lt.none (Vo _)⟩;have gp:=Hd gc;clear gf gc
 go_enter func59,ntmps59
 go_upto_region 1 with fail;rw[HW1.o];go_upto_region 23 with fail;rw[gB.o];have e2:=Cq gp.o d2;go_wp2_with fail
 go_loopw [15,106] (fun s15 s106 wr=>∃ (i:Nat) (hs:List (Int×BF)) (nxi:Int),i<=nk/\s106=Iv i/\hs.length=i/\nxi+2*i<=nx+3*((sumN i fun i=>(kid i).size:Nat):Int)/\Hq (∀ j (hj:j<hs.length),hs[j].2=fnT (kid j))/\Hq (BuiS K n Od room w0 mb (fs++hs) nxi (M+Br n kid i) o w1 s15 (hs.map Prod.fst) wr)) (fun _ s106 _=>nk-(intOf s106).toNat)
 case atStart=>exact⟨0,[],nx,Vu _,rfl,rfl,by show nx+2*((0:Nat):Int)<=nx+3*((0:Nat):Int);omega,Hd (fun j hj=>by simp at hj),gn⟩
 case round =>
  clear gn gp e2
  rename Wd=>wy
  obtain⟨i,hs,nxi,hi,rfl,gz,gH,gl,g9⟩:=hrel
  by_cases gi:i<nk
  ·obtain⟨b,off,x0,x1,x2,rfl,c0,c1,c2,hx⟩:=H5.o i gi;have gj:=g9.o.goes.below0;have q0:=Cq gj c0;have q1:=Cq gj c1;have q2:=Cq gj c2;obtain⟨zo,zv,za,zn,zc,rfl,rfl,rfl⟩:=hx.parts;have gy:(i:Int)<nk:=by omega
   have gJ:=HKS.o i gi;obtain⟨wz,ge⟩:=Ex (wy.alloc (.cells #[Iv zo,Iv zv,.slice za zn zc] 79));have gA:Hq (_=wz):=Hd ge.symm;have gt:Bw wy wz:=by rw[ge];exact Af _ _
   have ga:wz.heap[wy.heap.size]?=some (.cells #[Iv zo,Iv zv,.slice za zn zc] 79 (0,0)):=by rw[ge];exact Vq _ _
   have p0:wz.cell? (Av wy.heap.size)=some (Iv zo):=by rw[Vp _ _ 0 _ _ _ ga];rfl
   have p1:wz.cell? (Aw wy.heap.size 1)=some (Iv zv):=by rw[Vp _ _ 1 _ _ _ ga];rfl
   have p2:wz.cell? (Aw wy.heap.size 2)=some (.slice za zn zc):=by rw[Vp _ _ 2 _ _ _ ga];rfl
   obtain⟨o1,m1,V1,bt⟩:=g9.o.below gt;have gG:=HPOS.o i;have gk:=Hd (IH.o i _ (fs++hs) nxi wz o1 m1 V1 _ gi bt.sat bt.waits (HB2.o.app _) hx (by omega) (by have:=HMR.o i gi;have:=HCK.o i;omega));have g8:=Hd bt;clear gj c0 c1 c2 hx bt ge gt ga g9;go_upto_region 26 with fail;rw[gA.o];clear q0 q1 q2;go_wp2_with fail;refine gk.o.mono ?_;rintro y w3 ⟨k2,rfl,gK,gg⟩;have gm:=Hd (g8.o.go (M':=M+Br n kid (i+1)) (gg.more (Nat.le_of_eq (Xu _ _ _))));have gE:Hq (∀ j (hj:j<(hs++[(k2,fnT (kid i))]).length),(hs++[(k2,fnT (kid i))])[j].2=fnT (kid j)):=Hd fun j hj=>by
    rcases VB j hs.length with h|h
    . rw[Wp h];exact gl.o j h
    ·have gx:j=i:=by simp at hj;omega
     subst gx;rw[W9 (by omega)];simp
   clear gg gk g8 p0 p1 p2;obtain⟨o3,m3,V3,bt3⟩:=gm.o;have gv:w1.heap.size<=w3.heap.size:=bt3.chg.size;have gd:=Hd bt3;clear bt3;go_upto_region 30 with (at_builtin;refine BC FQ _ rfl _ _ rfl w1.heap.size _ (Aq (hs.map Prod.fst)) _ rfl rfl rfl rfl rfl (by exact gd.o.l.own) (by simp[Aq];omega) gv ?_;intro v5 w5 gh r1 r2 r3 r4 gq)
   have gw:Hq (BuiS K n Od room w0 mb (fs++(hs++[(k2,fnT (kid i))])) (k2+1) (M+Br n kid (i+1)) o w1 v5 ((hs++[(k2,fnT (kid i))]).map Prod.fst) w5):=Hd (by
    have:=BuiS.app gd.o gh r1 r2 r3 r4 gq hw0;rw[VC] at this;rw[VK];exact this)
   clear gh r1 r2 r3 r4 gq gd gm;go_wp2_with fail;go_roundw
   case rel=>exact⟨i+1,hs++[(k2,fnT (kid i))],k2+1,by omega,by go_num,by simp;omega,by
    show k2+1+2*((i+1:Nat):Int)<=nx+3*(((sumN i fun i=>(kid i).size)+(kid i).size:Nat):Int)
    omega,gE,gw⟩
   case measure=>simp[intOf];omega
  ·obtain rfl:i=nk:=by omega
   have gy:¬ (i:Int)<i:=by omega
   have f0:=g9.o.goes.cell (p:=Av w.heap.size) d0 on;have gu:=HSZ.o;have gF:nxi+2*i+3<=nx+3*E.size:=by omega
   have hnk:=gC.o;have gI:1<=i:=by omega
   clear gu H5 IH HSZ HKS HPOS;obtain⟨o1,m1,V1,bt⟩:=g9.o;have g8:=Hd bt;clear bt;subst hnk;obtain⟨⟨k0,F0⟩,⟨k1',F1⟩,rfl⟩:=SZ gz;obtain⟨g,cp,rfl,g0⟩:=g9.o.cellsN (i:=2) rfl (by omega);have c0:wy.cell? (Av g)=some (Iv k0):=g0 0 (by omega);have c1:wy.cell? (Aw g 1)=some (Iv k1'):=g0 1 (by omega);have HF:Hq (D9 op F0 F1=fnT E):=Hd (by rw[hF,<- gl.o 0 (by simp),<- gl.o 1 (by simp)];rfl);have HJ:Hq (∀ W,W=wy.drew->Cl 116 #[Pt mb,Iv op,Iv k0,Iv k1'] W fun x w''=>∃ k:Int,x=.returned (.tuple #[Iv k,.bool true])/\k<=nxi+1/\Goes K n Od room w0 mb (fs++[(k,D9 op F0 F1)]) (k+1) (NoW (M+Br n kid 2+(2^n-1))) o1 wy w'') :=
    Hd fun W hW=>by subst hW;exact My HKK.o (g8.o.refl.below (An wy 1)) HB2.o (by omega) (by have:=HEP.o;have:=HCK.o 2;have:=HME.o;omega) (by have:=H1.o;omega) (by have:=H1.o;omega)
   clear g0;go_upto_region 39 with fail;refine AD (fun W:Wd=>W.cell? (Av w.heap.size)=some (Iv op)/\W.cell? (Av g)=some (Iv k0)/\W.cell? (Aw g 1)=some (Iv k1')) false 14
    [(0,false),(1,false),(2,false),(3,false),(4,false),(5,false),(6,false),(7,false),(8,false),(9,true),(10,false),(11,false),(12,false),(13,false)] (by kernel_rfl) (by kernel_rfl) ⟨f0,c0,c1⟩ ?_
   simp only[planned,AC]
   iterate 9
    refine As rfl ?_;apply Exists.intro;refine⟨fun w' hw=>?_,?_⟩
    . obtain⟨h1,h2,h3⟩:=hw;go_simp;rfl
    simp only[Ac]
   refine Cd (R:=fun v w'=>∃ k:Int,v=.tuple #[Iv k,.bool true]/\k<=nxi+1/\Goes K n Od room w0 mb (fs++[(k,D9 op F0 F1)]) (k+1) (NoW (M+Br n kid 2+(2^n-1))) o1 wy w') rfl (by go_simp) ((HJ.o _ rfl).mono (fun e w' he=>?_)) ?_
   . obtain⟨k,rfl,q1,q2⟩:=he;have hb:=g8.o.go q2;obtain⟨g',cp',ev,gr⟩:=hb.cellsN (i:=2) rfl (by omega);cases ev;exact⟨_,rfl,⟨hb.goes.cell (p:=Av w.heap.size) d0 on,gr 0 (by omega),gr 1 (by omega)⟩,k,rfl,q1,q2⟩
   rintro v w3-⟨k,rfl,q1,q2⟩;have gD:=Hd (HQ.o k _ w3 _ HF.o (by omega) (by have:=HEP.o;have:=HCK.o 2;omega) (g8.o.go q2).goes);clear q2 HJ;simp only[Ac]
   iterate 4
    refine As rfl ?_;apply Exists.intro;refine⟨fun w' hw=>?_,?_⟩
    . obtain⟨h1,h2,h3⟩:=hw;go_simp;rfl
    simp only[Ac]
   refine Bs ?_;go_wp2_with fail;exact gD.o
end
section
variable {o:Own}
theorem Th {v:Int}{kid:Nat->ExT}{a:Option Addr}{E:ExT}{Q:Ending->Wd->Prop}{M:Nat}(hctx:BCtx K n Od room w0 mb fs nx M w w1 o m V op v nk kid a c E Q)(h1:op=10)(hnk:nk=3)(hF:fnT E=Bu (fnT (kid 0)) (fnT (kid 1)) (fnT (kid 2))) :
 Cl 59 #[Pt mb,.agg #[Iv op,Iv v,.slice a nk c]] w Q:=by
 obtain⟨HKK,H5,HKS,HSZ,HPOS,IH,HW1,HG1,HSAT1,HWT,HB2,HQ,HMR,HCK,HCI,HEP,HME,hn64,hnx,hE1,hs1,d0,d1,d2,on,hw0,hp2,h2,h3⟩:=hctx;have g1:(op == 1)=false:=by simp;omega
 have g2:(op == 2)=false:=by simp;omega
 have g3:(op == 3)=false:=by simp;omega
 have g5:(op == 5)=false:=by simp;omega
 have g6:(op == 6)=false:=by simp;omega
 have g7:(op == 7)=false:=by simp;omega
 have g4:(op == 4)=false:=by simp;omega
 have g10:(op == 10)=true:=by simp;omega
 have gE:=Hd hnk;clear h1 hnk;obtain⟨w2,gh⟩:=Ex (w1.alloc (.cells #[] 3));have gD:Hq (_=w2):=Hd gh.symm;have ge:Bw w1 w2:=by rw[gh];exact Af _ _
 have gq:Hq (BuiS K n Od room w0 mb (fs++[]) nx (M+Br n kid 0) o w1 (.slice (some (Av (w.heap.size+1))) 0 0) (([]:List (Int×BF)).map Prod.fst) w2):=Hd ⟨o,m,V,by rw[WM];exact HSAT1.o.below ge,HWT.o,CU ge o,by rw[gh,<- hs1];exact Cv _ _ _ (Vo _),fun k hk=>by cases hk;rw[<- hs1];exact HSAT1.o.lt.none (Vo _)⟩;have gr:=Hd ge;clear gh ge
 go_enter func59,ntmps59
 go_upto_region 1 with fail;rw[HW1.o];go_upto_region 23 with fail;rw[gD.o];have e2:=Cq gr.o d2;go_wp2_with fail
 go_loopw [15,106] (fun s15 s106 wr=>∃ (i:Nat) (hs:List (Int×BF)) (nxi:Int),i<=nk/\s106=Iv i/\hs.length=i/\nxi+2*i<=nx+3*((sumN i fun i=>(kid i).size:Nat):Int)/\Hq (∀ j (hj:j<hs.length),hs[j].2=fnT (kid j))/\Hq (BuiS K n Od room w0 mb (fs++hs) nxi (M+Br n kid i) o w1 s15 (hs.map Prod.fst) wr)) (fun _ s106 _=>nk-(intOf s106).toNat)
 case atStart=>exact⟨0,[],nx,Vu _,rfl,rfl,by show nx+2*((0:Nat):Int)<=nx+3*((0:Nat):Int);omega,Hd (fun j hj=>by simp at hj),gq⟩
 case round =>
  clear gq gr e2
  rename Wd=>wy
  obtain⟨i,hs,nxi,hi,rfl,gA,gJ,gl,ga⟩:=hrel
  by_cases gj:i<nk
  ·obtain⟨b,off,x0,x1,x2,rfl,c0,c1,c2,hx⟩:=H5.o i gj;have gk:=ga.o.goes.below0;have q0:=Cq gk c0;have q1:=Cq gk c1;have q2:=Cq gk c2;obtain⟨zo,zv,za,zn,zc,rfl,rfl,rfl⟩:=hx.parts;have gz:(i:Int)<nk:=by omega
   have gL:=HKS.o i gj;obtain⟨wz,gf⟩:=Ex (wy.alloc (.cells #[Iv zo,Iv zv,.slice za zn zc] 79));have gC:Hq (_=wz):=Hd gf.symm;have gu:Bw wy wz:=by rw[gf];exact Af _ _
   have gd:wz.heap[wy.heap.size]?=some (.cells #[Iv zo,Iv zv,.slice za zn zc] 79 (0,0)):=by rw[gf];exact Vq _ _
   have p0:wz.cell? (Av wy.heap.size)=some (Iv zo):=by rw[Vp _ _ 0 _ _ _ gd];rfl
   have p1:wz.cell? (Aw wy.heap.size 1)=some (Iv zv):=by rw[Vp _ _ 1 _ _ _ gd];rfl
   have p2:wz.cell? (Aw wy.heap.size 2)=some (.slice za zn zc):=by rw[Vp _ _ 2 _ _ _ gd];rfl
   obtain⟨o1,m1,V1,bt⟩:=ga.o.below gu;have gI:=HPOS.o i;have gm:=Hd (IH.o i _ (fs++hs) nxi wz o1 m1 V1 _ gj bt.sat bt.waits (HB2.o.app _) hx (by omega) (by have:=HMR.o i gj;have:=HCK.o i;omega));have gc:=Hd bt;clear gk c0 c1 c2 hx bt gf gu gd ga;go_upto_region 26 with fail;rw[gC.o];clear q0 q1 q2;go_wp2_with fail;refine gm.o.mono ?_;rintro y w3 ⟨k2,rfl,gM,gg⟩;have gp:=Hd (gc.o.go (M':=M+Br n kid (i+1)) (gg.more (Nat.le_of_eq (Xu _ _ _))));have gG:Hq (∀ j (hj:j<(hs++[(k2,fnT (kid i))]).length),(hs++[(k2,fnT (kid i))])[j].2=fnT (kid j)):=Hd fun j hj=>by
    rcases VB j hs.length with h|h
    . rw[Wp h];exact gl.o j h
    ·have gy:j=i:=by simp at hj;omega
     subst gy;rw[W9 (by omega)];simp
   clear gg gm gc p0 p1 p2;obtain⟨o3,m3,V3,bt3⟩:=gp.o;have gw:w1.heap.size<=w3.heap.size:=bt3.chg.size;have g0:=Hd bt3;clear bt3;go_upto_region 30 with (at_builtin;refine BC FQ _ rfl _ _ rfl w1.heap.size _ (Aq (hs.map Prod.fst)) _ rfl rfl rfl rfl rfl (by exact g0.o.l.own) (by simp[Aq];omega) gw ?_;intro v5 w5 gi r1 r2 r3 r4 gt)
   have gx:Hq (BuiS K n Od room w0 mb (fs++(hs++[(k2,fnT (kid i))])) (k2+1) (M+Br n kid (i+1)) o w1 v5 ((hs++[(k2,fnT (kid i))]).map Prod.fst) w5):=Hd (by
    have:=BuiS.app g0.o gi r1 r2 r3 r4 gt hw0;rw[VC] at this;rw[VK];exact this)
   clear gi r1 r2 r3 r4 gt g0 gp;go_wp2_with fail;go_roundw
   case rel=>exact⟨i+1,hs++[(k2,fnT (kid i))],k2+1,by omega,by go_num,by simp;omega,by
    show k2+1+2*((i+1:Nat):Int)<=nx+3*(((sumN i fun i=>(kid i).size)+(kid i).size:Nat):Int)
    omega,gG,gx⟩
   case measure=>simp[intOf];omega
  ·obtain rfl:i=nk:=by omega
   have gz:¬ (i:Int)<i:=by omega
   have f0:=ga.o.goes.cell (p:=Av w.heap.size) d0 on;have gv:=HSZ.o;have gH:nxi+2*i+3<=nx+3*E.size:=by omega
   have hnk:=gE.o;have gK:1<=i:=by omega
   clear gv H5 IH HSZ HKS HPOS;obtain⟨o1,m1,V1,bt⟩:=ga.o;have gc:=Hd bt;clear bt;subst hnk;obtain⟨⟨k0,F0⟩,⟨k1',F1⟩,⟨k2',F2⟩,rfl⟩:=Ta gA;obtain⟨g,cp,rfl,g8⟩:=ga.o.cellsN (i:=3) rfl (by omega);have c0:wy.cell? (Av g)=some (Iv k0):=g8 0 (by omega);have c1:wy.cell? (Aw g 1)=some (Iv k1'):=g8 1 (by omega);have c2:wy.cell? (Aw g 2)=some (Iv k2'):=g8 2 (by omega);have HF:Hq (Bu F0 F1 F2=fnT E):=Hd (by rw[hF,<- gl.o 0 (by simp),<- gl.o 1 (by simp),<- gl.o 2 (by simp)];rfl);have HI:Hq (∀ W,W=wy.drew->Cl 94 #[Pt mb,Iv k0,Iv k1',Iv k2'] W fun x w''=>x=.returned (.tuple #[Iv nxi,Iv 0])/\Goes K n Od room w0 mb (fs++[(k0,F0),(k1',F1),(k2',F2)]++[(nxi,Bu F0 F1 F2)]) (nxi+1) (NoW (M+Br n kid 3+(2^n-1))) o1 wy w'') :=
    Hd fun W hW=>by subst hW;exact Jc HKK.o (gc.o.refl.below (An wy 1)) (by omega) (by have:=HEP.o;have:=HCK.o 3;have:=HME.o;omega) (by simp) (by simp) (by simp)
   clear g8;go_upto_region 36 with fail;refine AD (fun W:Wd=>W.cell? (Av g)=some (Iv k0)/\W.cell? (Aw g 1)=some (Iv k1')/\W.cell? (Aw g 2)=some (Iv k2')) false 16
    [(0,false),(1,false),(2,false),(3,false),(4,false),(5,false),(6,false),(7,false),(8,false),(9,false),(10,true),(11,false),(12,false),(13,false),(14,false),(15,false)] (by kernel_rfl) (by kernel_rfl) ⟨c0,c1,c2⟩ ?_
   simp only[planned,AC]
   iterate 10
    refine As rfl ?_;apply Exists.intro;refine⟨fun w' hw=>?_,?_⟩
    . obtain⟨h1,h2,h3⟩:=hw;go_simp;rfl
    simp only[Ac]
   refine Cd (R:=fun v w'=>v=.tuple #[Iv nxi,Iv 0]/\Goes K n Od room w0 mb (fs++[(k0,F0),(k1',F1),(k2',F2)]++[(nxi,Bu F0 F1 F2)]) (nxi+1) (NoW (M+Br n kid 3+(2^n-1))) o1 wy w') rfl (by go_simp) ((HI.o _ rfl).mono (fun e w' he=>?_)) ?_
   . obtain⟨rfl,q2⟩:=he;have hb:=gc.o.go q2;obtain⟨g',cp',ev,g9⟩:=hb.cellsN (i:=3) rfl (by omega);cases ev;exact⟨_,rfl,⟨g9 0 (by omega),g9 1 (by omega),g9 2 (by omega)⟩,rfl,q2⟩
   rintro v w3 ⟨d0',d1',d2'⟩ ⟨rfl,q2⟩;obtain⟨o3,m3,V3,bt3⟩:=gc.o.go q2;have g0:=Hd bt3;clear q2 HI bt3 c0 c1 c2 ga;simp only[Ac]
   iterate 5
    refine As rfl ?_;apply Exists.intro;refine⟨fun w' hw=>?_,?_⟩
    . obtain⟨h1,h2,h3⟩:=hw;go_simp;rfl
    simp only[Ac]
   refine Bs ?_;have HD:Hq (∀ W T,Bw w3 W->T=W.alloc (.cells #[Iv k0,Iv k1',Iv k2'] 3)->Cl 118 #[Pt mb,.slice (some (Av W.heap.size)) 3 3] T fun x w''=>x=.returned (Iv 0)/\Goes K n Od room w0 mb (fs++[(nxi,Bu F0 F1 F2)]) (nxi+1) (NoW (M+Br n kid 3+(2^n-1))) o3 w3 w'') :=
    Hd fun W T hW hT=>Gx HKK.o (hs:=[(k0,F0),(k1',F1),(k2',F2)]) (r:=[(nxi,Bu F0 F1 F2)]) (by have:=g0.o.refl;rw[VC] at this;exact this.below hW) HB2.o (by omega) (by simp) hT
   go_upto_region 37 with fail;refine AD (fun W:Wd=>W.cell? (Av g)=some (Iv k0)/\W.cell? (Aw g 1)=some (Iv k1')/\W.cell? (Aw g 2)=some (Iv k2')) false 20
    [(0,false),(1,false),(2,false),(3,false),(4,false),(5,false),(6,false),(7,false),(8,false),(9,false),(10,false),(11,false),(12,false),(13,false),(14,true),(15,true),(16,false),(17,false),(18,false),(19,false)] (by kernel_rfl) (by kernel_rfl) ⟨d0',d1',d2'⟩ ?_
   simp only[planned,AC]
   iterate 4
    refine As rfl ?_;apply Exists.intro;refine⟨fun w' hw=>?_,?_⟩
    . obtain⟨h1,h2,h3⟩:=hw;go_simp;rfl
    simp only[Ac]
   iterate 10
    refine DH true (by go_simp) ?_;apply Exists.intro;refine⟨fun gB w' hw=>?_,?_⟩
    . obtain⟨h1,h2,h3⟩:=hw;go_simp;rfl
    simp only[Ac]
   have gn:=Af w3.drew (.cells #[Iv k0,Iv k1',Iv k2'] 3);refine SX (v:=.slice (some (Av w3.heap.size)) 3 3) (w':=w3.drew.alloc (.cells #[Iv k0,Iv k1',Iv k2'] 3)) (by go_simp) (by go_simp) ⟨(gn.cell (p:=Av g) (Ah (w:=w3.drew) d0')).trans d0',(gn.cell (p:=Aw g 1) (Ah (w:=w3.drew) d1')).trans d1',(gn.cell (p:=Aw g 2) (Ah (w:=w3.drew) d2')).trans d2'⟩ ?_;simp only[Ac];refine SY (R:=fun v w'=>v=Iv 0/\Goes K n Od room w0 mb (fs++[(nxi,Bu F0 F1 F2)]) (nxi+1) (NoW (M+Br n kid 3+(2^n-1))) o3 w3 w') (by go_simp) (by go_simp) ((HD.o w3.drew _ (An w3 1) rfl).mono (fun e w' he=>?_)) ?_
   . obtain⟨rfl,q2⟩:=he;have hb:=g0.o.go q2;obtain⟨g',cp',ev,g9⟩:=hb.cellsN (i:=3) rfl (by omega);cases ev;exact⟨_,rfl,⟨g9 0 (by omega),g9 1 (by omega),g9 2 (by omega)⟩,rfl,q2⟩
   rintro v w4-⟨rfl,q2⟩;have gF:=Hd (HQ.o nxi _ w4 _ HF.o (by omega) (by have:=HEP.o;have:=HCK.o 3;omega) (g0.o.go q2).goes);clear q2 HD;simp only[Ac]
   iterate 1
    refine DH true (by go_simp) ?_;apply Exists.intro;refine⟨fun gB w' hw=>?_,?_⟩
    . obtain⟨h1,h2,h3⟩:=hw;go_simp;rfl
    simp only[Ac]
   iterate 3
    refine As rfl ?_;apply Exists.intro;refine⟨fun w' hw=>?_,?_⟩
    . obtain⟨h1,h2,h3⟩:=hw;go_simp;rfl
    simp only[Ac]
   refine Bs ?_;go_wp2_with fail;exact gF.o
end
section
theorem M8 (hK:Bb K):∀ (e:ExT) (x:Value) (fs:List (Int×BF)) (nx:Int) (w:Wd) (o:Own) (m:ManD) (V:Nat->BF) (M:Nat),SatE K n Od room w0 mb fs nx w o m V->m.waits=[]/\m.d.pool.many<=M->B2 fs->Ga e->(∀ v∈AI e,v<(n:Int))->A3 w0 e x->nx+3*e.size<549755813000->M+e.size*2^n<=room ->
 Cl 59 #[Pt mb,x] w fun y w'=>∃ k:Int,y=.returned (.tuple #[Iv k,.bool true])/\k+3<=nx+3*e.size/\Goes K n Od room w0 mb (fs++[(k,fnT e)]) (k+1) (NoW (M+Ci n e.size)) o w w'
 | .nil,x,fs,nx,w,o,m,V,M,_,_,_,hv,_,_,_,_=>hv.elim
 | .mk op v nk kid,x,fs,nx,w,o,m,V,M,hsat,hwt,hb2,hval,hvars,h,hnx,hroom=>by
   unfold A3 at h;obtain⟨a,c,rfl,h2,h3,h4,h5⟩:=h;obtain⟨v1,v2,v3,v4,v5,v6⟩:=hval;obtain⟨k1,k2,k3⟩:=Mz v1;have hblk:(w.alloc (.cells #[Iv op,Iv v,.slice a nk c] 79)).heap[w.heap.size]?=some (.cells #[Iv op,Iv v,.slice a nk c] 79 (0,0)):=Vq _ _;have hb1:=Af w (.cells #[Iv op,Iv v,.slice a nk c] 79);have hep:(ExT.mk op v nk kid).size*2^n=2^n+(sumN nk fun i=>(kid i).size)*2^n:=by
    show (1+sumN nk fun i=>(kid i).size)*2^n=_
    rw[WY,Nat.one_mul]
   have g0:BCtx K n Od room w0 mb fs nx M w (w.alloc (.cells #[Iv op,Iv v,.slice a nk c] 79)) o m V op v nk kid a c (ExT.mk op v nk kid) (fun y w'=>∃ k:Int,y=.returned (.tuple #[Iv k,.bool true])/\k+3<=nx+3*(ExT.mk op v nk kid).size/\Goes K n Od room w0 mb (fs++[(k,fnT (ExT.mk op v nk kid))]) (k+1) (NoW (M+Ci n (ExT.mk op v nk kid).size)) o w w'):=by
    refine⟨Hd hK,Hd h5,Hd fun i hi=>?_,Hd rfl,Hd (M6 fun i=>(kid i).size_pos),Hd fun i x fs' nx' W o' m' V' M' hi q1 q2 q3 q4 q5 q6=>M8 hK (kid i) x fs' nx' W o' m' V' M' q1 q2 q3 (v6 i hi) (fun u hu=>hvars u (by unfold AI;exact X0 _ (Mq hi hu))) q4 q5 q6,Hd rfl,Hd (Goes.refl (hsat.below hb1) hwt),Hd (hsat.below hb1),Hd hwt,Hd hb2,Hd ?_,Hd fun i hi=>?_,Hd (M7 n kid),Hd fun i=>Gy n (kid i).size_pos,Hd ⟨hep,Gy n (ExT.size_pos _)⟩,Hd hroom,by omega,hnx,ExT.size_pos _,by simp,by rw[Vp _ _ 0 _ _ _ hblk];rfl,by rw[Vp _ _ 1 _ _ _ hblk];rfl,by rw[Vp _ _ 2 _ _ _ hblk];rfl,hsat.lt.none (Vo _),?_,WR (by omega),h2,h3⟩
    ·have:=DT (f:=fun i=>(kid i).size) hi
     show _<=1+sumN nk fun i=>(kid i).size
     omega
    . rintro k F W M' rfl hk hm g;exact⟨k,rfl,hk,(g.more hm).after (CU hb1 o)⟩
    . have h1:=DT (f:=fun i=>(kid i).size) hi;have h2:=Wn (2^n) h1;rw[WY] at h2;omega
    . have:=hsat.chg.size;simp;omega
   rcases(show op=1\/op=2\/op=3\/(op=5\/op=6\/op=7)\/op=4\/(op=8\/op=9)\/op=10 by omega) with h1|h1|h1|h1|h1|h1|h1
   . exact Tb g0 h1 (by subst h1;exact Mp (.inl rfl) v nk kid)
   . exact Tc g0 h1 (by subst h1;exact Mp (.inr rfl) v nk kid)
   . have e1:=v2 h1;have e2:=hvars v (by unfold AI;rw[Vs h1];simp);obtain⟨u,rfl⟩:∃ u:Nat,v=u:=⟨v.toNat,by omega⟩;exact Td g0 (u:=u) (by omega) h1 rfl (by subst h1;exact SQ u nk kid)
   . exact Te g0 h1 (SL h1 v nk kid)
   ·have e:nk=1:=by subst h1;simp[Bi] at v4 v5;omega
    exact Tf g0 h1 e (by subst h1;subst e;exact SN v kid)
   ·have e:nk=2:=by rcases h1 with rfl|rfl<;>(simp[Bi] at v4 v5;omega)
    exact Tg g0 h1 e (by subst e;exact SP h1 v kid)
   ·have e:nk=3:=by subst h1;simp[Bi] at v4 v5;omega
    exact Th g0 h1 e (by subst h1;subst e;exact SO v kid)
end
theorem Au.chgX {o:Own}{a:Option Addr}(h:Au w a zs)(hc:ChgX C o o' w w')(hn:0<zs.length->∀ x,a=some x->o x.block=none/\¬ C x.block):Au w' a zs :=
 ⟨h.len,fun k hk=>by
  obtain⟨b,off,rfl,c⟩:=h.cells k hk;have:=hn (by omega) _ rfl;exact⟨b,off,rfl,hc.cell c this.1 this.2⟩⟩
def ArrI (K:Law)(n room:Nat)(w0:Wd)(mb:Nat)(fs:List (Int×BF))(nx:Int)(o:Own)(w:Wd)(m:ManD)(P:List Nat->Prop)(W:Wd):Prop :=
 ∃ o' m' V',SatE K n P room w0 mb fs nx W o' m' V'/\m'.waits=m.waits/\m'.calls=m.calls/\ChgX NoB o o' w W/\(m'.d.pool.many<=m.d.pool.many\/m'.d.pool.many<=fs.length*2^n)
section
variable {o:Own}{P:List Nat->Prop}
theorem ArrI.below (h:ArrI K n room w0 mb fs nx o w m P W)(hb:Bw W W'):ArrI K n room w0 mb fs nx o w m P W':=by
 obtain⟨o',m',V',h1,h2,h3,h4,h5⟩:=h;exact⟨o',m',V',h1.below hb,h2,h3,h4.trans (CU hb o') (fun _ _ e=>e),h5⟩
theorem ArrI.imp (h:ArrI K n room w0 mb fs nx o w m P W)(hP:∀ l,l.length=n->P l->P' l):ArrI K n room w0 mb fs nx o w m P' W:=by
 obtain⟨o',m',V',h1,h2,h3,h4,h5⟩:=h;exact⟨o',m',V',h1.withOd (hP _ h1.vars h1.od),h2,h3,h4,h5⟩
theorem ArrI.swap (h:ArrI K n room w0 mb fs nx o w m P W)(hk1:k+1<n)(hn:nx<=549755813888)(hr:3*(fs.length*2^n)<=room)(hP:∀ l,l.length=n->P l->P' (exL l k)) :
 Cl 113 #[Pt mb,Iv k] W fun e w'=>e=.returned (Iv 0)/\ArrI K n room w0 mb fs nx o w m P' w':=by
 obtain⟨o',m',V',h1,h2,h3,h4,h5⟩:=h;refine(Mg h1 hk1 hn hr).mono ?_;rintro e w' ⟨rfl,o2,m2,V2,s⟩;refine⟨rfl,o2,m2,V2,s.sat.withOd ?_,s.waits.trans h2,s.calls.trans h3,h4.trans (ChgX.of_chg s.chg NoB) (fun _ _ e=>e),.inr (s.sat.few s.dead)⟩;rw[s.sat.od,Mw];exact hP _ h1.vars h1.od
theorem Ti (h:SatE K n Od room w0 mb fs nx w o m V)(hn:nx<=549755813888)(hr:3*(fs.length*2^n)<=room){a:Option Addr}(hz:Au w a zs)(hno:0<zs.length->∀ x,a=some x->o x.block=none)(hp:zs.length=0\/Fm zs n) :
 Cl 58 #[Pt mb,.slice a zs.length c] w fun x w'=>x=.returned (.bool true)/\ArrI K n room w0 mb fs nx o w m (fun l=>∀ j,j<zs.length->((l.getD j 0:Nat):Int)=at0 zs j) w':=by
 have gI:=hz.len;have hn64:n<=64:=by have:=h.ok.store.small;rw[h.vars] at this;exact this
 have HZ:Hq (∀ W P,ArrI K n room w0 mb fs nx o w m P W->Au W a zs):=Hd fun W P ⟨o',m',V',_,_,_,h4,_⟩=>hz.chgX h4 fun h0 x hx=>⟨hno h0 x hx,fun e=>e⟩
 have ge:Hq (∀ W P,ArrI K n room w0 mb fs nx o w m P W->Cl 19 #[Pt mb] W fun x w'=>∃ (a:Option Addr) (c:Nat) (l:List Nat),x=.returned (.slice a n c)/\l.length=n/\Au w' a (l.map Int.ofNat)/\P l/\(∀ v,v<n->∃ i,i<n/\l.getD i 0=v)/\(∀ i j,i<n->j<n->l.getD i 0=l.getD j 0->i=j)/\Bw W w'/\ArrI K n room w0 mb fs nx o w m (fun l'=>l'=l) w'):=by
  refine Hd fun W P hA=>?_
  obtain⟨o',m',V',h1,h2,h3,h4,h5⟩:=hA;refine(Lj h1.is h1.lt (by rw[h1.vars];exact hn64)).mono ?_;rintro x w' ⟨v,rfl,hv,hb⟩;obtain⟨av,cv,rfl,gt,_⟩:=hv.sliceIs (by simp[h1.vars];omega);refine⟨av,cv,m'.d.vars,by rw[Vw,h1.vars],h1.vars,gt,h1.od,fun v hv=>?_,fun i j hi hj e=>?_,hb,o',m',V',(h1.below hb).withOd rfl,h2,h3,h4.trans (CU hb o') (fun _ _ e=>e),h5⟩
  . have:=h1.ok.store.mem (v:=v) (by rw[h1.vars];exact hv);rw[h1.vars] at this;exact this
  . exact h1.ok.store.inj (by rw[h1.vars];exact hi) (by rw[h1.vars];exact hj) e
 have gj:Hq (∀ W P,ArrI K n room w0 mb fs nx o w m P W->∀ (k:Nat),k+1<n->∀ P':List Nat->Prop,(∀ l,l.length=n->P l->P' (exL l k))->Cl 113 #[Pt mb,Iv k] W fun e w'=>e=.returned (Iv 0)/\ArrI K n room w0 mb fs nx o w m P' w') :=
  Hd fun W P hA k hk P' hP=>hA.swap hk hn hr hP
 have HP:=Hd hp;obtain⟨R,hR⟩:=Ex (ArrI K n room w0 mb fs nx o w m:(List Nat->Prop)->Wd->Prop);have gE:Hq (R (fun l=>∀ j,j<0->((l.getD j 0:Nat):Int)=at0 zs j) w):=Hd (by rw[hR];exact⟨o,m,V,h.withOd (fun j hj=>by omega),rfl,rfl,ChgX.of_below (VA _ _) o NoB,.inl (Vo _)⟩);have gB:Hq (∀ P W W',R P W->Bw W W'->R P W'):=Hd (by rw[hR];intro P W W' h1 h2;exact h1.below h2);have gk:Hq (∀ P P' W,R P W->(∀ l,l.length=n->P l->P' l)->R P' W):=Hd (by rw[hR];intro P P' W h1 h2;exact h1.imp h2);rw[<- hR] at HZ ge gj ⊢;clear h hz hno hp hr hn hR
 go_enter func58,ntmps58
 go_wp2_with fail
 go_loopw [5,6,7] (fun s5 s6 s7 wr=>∃ i:Nat,i<=zs.length/\s5=Iv i/\Hq (R (fun l=>∀ j,j<i->((l.getD j 0:Nat):Int)=at0 zs j) wr)) (fun s5 _ _ _=>zs.length-(intOf s5).toNat)
 case atStart=>exact⟨0,Vu _,rfl,gE⟩
 case round =>
  obtain⟨i,hi,rfl,HR⟩:=hrel
  by_cases gx:i<zs.length
  ·have gy:(i:Int)<zs.length:=by omega
   have g3:Fm zs n:=by
    rcases HP.o with e|e
    . omega
    . exact e
   have gq:zs.length=n:=g3.len;obtain⟨zi,gr,ezi⟩:=g3.lt i (by omega);have gn:=Hd (ge.o wr _ HR.o);have gp:=Hd g3.inj;clear g3;go_wp2_with fail;refine gn.o.mono ?_;rintro x w3 ⟨av,cv,l,rfl,gh,gi,g8,ga,gc,gA,g6⟩;obtain⟨p,gg,g7⟩:=ga zi gr;have gz:i<=p:=by
    rcases VB p i with h|h
    . exfalso;have e1:=g8 p h;rw[g7,<- ezi] at e1;have:=gp.o i p (by omega) gg e1;omega
    . exact h
   have go:=Hd gi;have gF:=Hd g8;have g5:=Hd g7;have gG:=Hd gc;have gm:=Hd g6;have gP:((n:Int) != (zs.length:Int))=false:=by rw[gq];simp
   obtain⟨bz,oz,ea,cz⟩:=(HZ.o w3 _ g6).cells i gx;subst ea;rw[ezi] at cz;have EZI:=Hd ezi;clear gi g8 g7 gc g6 ga gn gA ezi;go_wp2_with fail
   go_loopw [7] (fun s7 wr=>∃ q:Nat,i<=q/\q<=p/\s7=Iv q/\Hq (Bw w3 wr)) (fun s7 _=>p-(intOf s7).toNat)
   case atStart=>exact⟨i,Vo _,gz,rfl,Hd (VA _ _)⟩
   case round =>
    rename Wd=>wq
    obtain⟨q,gw,gO,rfl,g0⟩:=hrel;have gM:(q:Int)<(n:Int):=by omega
    have g4:q<n:=by omega
    obtain⟨bv,ov,rfl,cq⟩:=(go.o.below g0.o).cells q (by rw[Vw,gh];exact g4);have cz':=Cq g0.o cz;rw[CE (by rw[gh];exact g4)] at cq;obtain⟨y,hy⟩:=Ex (l.getD q 0);rw[<- hy] at cq;have HY:=Hd hy;clear hy;go_upto_region 8 with fail;refine AD (fun W:Wd=>W.cell? (Aw bv (ov+q))=some (Iv (y:Nat))/\W.cell? (Aw bz (oz+i))=some (Iv (zi:Nat))/\Hq (Bw w3 W)) false 15
     [(0,false),(1,false),(2,false),(3,false),(4,false),(5,false),(6,false),(7,false),(8,false),(9,false),(10,false),(11,false),(12,false),(13,false),(14,false)] (by kernel_rfl) (by kernel_rfl) ⟨cq,cz',Hd (g0.o.trans ((An wq 1).mono g0.o.size))⟩ ?_
    simp only[planned,AC]
    iterate 5
     refine As rfl ?_;apply Exists.intro;refine⟨fun w' hw=>?_,?_⟩
     . obtain⟨h1,h2,_⟩:=hw;go_simp;rfl
     simp only[Ac]
    iterate 9
     refine DH true (by go_simp) ?_;apply Exists.intro;refine⟨fun gQ w' hw=>?_,?_⟩
     . obtain⟨h1,h2,_⟩:=hw;go_simp;rfl
     simp only[Ac]
    iterate 1
     refine As rfl ?_;apply Exists.intro;refine⟨fun w' hw=>?_,?_⟩
     . obtain⟨h1,h2,_⟩:=hw;go_simp;rfl
     simp only[Ac]
    refine Bs ?_
    by_cases gL:q<p
    ·have g9:((y:Int) != (zi:Int))=true:=by
      simp only[bne_iff_ne,ne_eq];intro e;have e2:l.getD q 0=l.getD p 0:=by rw[g5.o,<- HY.o];omega
      have:=gG.o q p g4 gg e2;omega
     go_wp2_with fail;go_roundw
     case rel=>exact⟨q+1,by omega,by omega,by go_num,Hd (g0.o.trans ((An wq 1).mono g0.o.size))⟩
     case measure=>simp[intOf];omega
    ·obtain rfl:q=p:=by omega
     have g9:((y:Int) != (zi:Int))=false:=by
      have:y=zi:=by rw[HY.o,g5.o]
      rw[this];simp
     have gN:((q:Int) == (n:Int))=false:=by simp;omega
     have gl:Hq (R (fun l'=>(∀ j,j<i->((l'.getD j 0:Nat):Int)=at0 zs j)/\l'.getD q 0=zi) wq.drew):=Hd (by
      have h1:=gB.o _ _ _ gm.o (g0.o.trans ((An wq 1).mono g0.o.size));exact gk.o _ _ _ h1 fun l' _ e=>by subst e;exact⟨gF.o,g5.o⟩)
     rw[g9];clear gm g0 go cq cz cz' g9;go_wp2_with fail
     go_loopw [4,7] (fun s4 s7 wr=>∃ q:Nat,i<=q/\q<n/\s7=Iv q/\Hq (R (fun l'=>(∀ j,j<i->((l'.getD j 0:Nat):Int)=at0 zs j)/\l'.getD q 0=zi) wr)) (fun _ s7 _=>(intOf s7).toNat)
     case atStart=>exact⟨q,gw,g4,rfl,gl⟩
     case round =>
      clear gl HY g5
      rename Wd=>wt
      obtain⟨t,gK,gv,rfl,gd⟩:=hrel
      by_cases gJ:i<t
      ·obtain⟨t',rfl⟩:∃ t',t=t'+1:=⟨t-1,by omega⟩;have gu:((t'+1:Nat):Int)>i:=by omega
       have HS:=Hd (gj.o wt _ gd.o t' gv (fun l'=>(∀ j,j<i->((l'.getD j 0:Nat):Int)=at0 zs j)/\l'.getD t' 0=zi) (fun l' hl ⟨g1,g2⟩=>⟨fun j hj=>by rw[Mv (by omega) (by omega)];exact g1 j hj,by rw[Mu (by omega)];exact g2⟩));have gH:((t'+1:Nat):Int)-1=(t':Nat):=by omega
       go_upto_region 14 with fail;go_wp2_with fail;refine HS.o.mono ?_;rintro x w5 ⟨rfl,gf⟩;have gD:=Hd gf;clear gf HS gd;go_wp2_with fail;go_roundw
       case rel=>exact⟨t',by omega,by omega,by go_num,gD⟩
       case measure=>simp[intOf]
      ·obtain rfl:t=i:=by omega
       have gC:Hq (R (fun l=>∀ j,j<t+1->((l.getD j 0:Nat):Int)=at0 zs j) wt):=Hd (by
        refine gk.o _ _ _ gd.o fun l' _ ⟨g1,g2⟩ j hj=>?_
        rcases VB j t with h|h
        . exact g1 j h
        ·obtain rfl:j=t:=by omega
         rw[g2,EZI.o])
       have gu:¬ (t:Int)>t:=by omega
       go_wp2_with fail;go_roundw
       case rel=>exact⟨t+1,by omega,by go_num,gC⟩
       case measure=>simp[intOf];omega
  ·have he:i=zs.length:=by omega
   have gy:¬ (i:Int)<zs.length:=by omega
   go_wp2_with fail;go_ret;exact⟨rfl,by rw[<- he];exact HR.o⟩
end
abbrev Xt:=@Nat.div_div_eq_div_mul
theorem Tj (i n:Nat)(hi:i<=1048576)(hn:n<=16)(w:Wd):Cl 120 #[Iv i,Iv n] w fun x w'=>∃ v,x=.returned v/\OwnB w' w.heap.size v (AO i n)/\Bw w w':=by
 go_enter func120,ntmps120
 go_wp2_with fail
 go_loopw [0,5,6] (fun s0 s5 s6 wr=>∃ j q:Nat,j<=n/\q<=1048576/\s6=Iv j/\s0=Iv q/\Hq (i/2^j=q)/\OwnB wr w.heap.size s5 (AO i j)/\w.heap.size<=wr.heap.size/\Bw w wr) (fun _ _ s6 _=>n-(intOf s6).toNat)
 case atStart=>exact⟨0,i,Vu _,hi,rfl,rfl,Hd (by simp),Cv _ w _ (Vo _),by simp,Af w _⟩
 case round =>
  obtain⟨j,q,hj,hq,rfl,rfl,HQ,g0,g5,g1⟩:=hrel
  by_cases g7:j<n
  ·have HB:Hq (((q:Int).tmod 2 == 1)=bitB i j):=by
    refine Hd ?_;rw[tmod2];unfold bitB;rw[HQ.o]
   have g2:=Hd g0;have g3:=Hd g1;clear g0 g1;go_wp2_with (at_builtin;refine BC CK _ rfl _ _ rfl w.heap.size _ (A8 (AO i j)) _ rfl rfl rfl rfl rfl (by exact g2.o) (by simp[A8,Ge];omega) g5 ?_;intro v1 w1 g4 e1 e2 e3 e4 g6);go_roundw
   case rel =>
    refine⟨j+1,q/2,by omega,by omega,by go_num,by go_num,Hd ?_,?_,by omega,CA g3.o g2.o e1 e2 e3 e4 g6 g5⟩
    . rw[WS,<- Xt,HQ.o]
    . rw[Li];unfold OwnB;rw[DA,<- HB.o];exact g4
   case measure=>simp[intOf];omega
  ·have he:j=n:=by omega
   subst he;have g2:=Hd g0;have g3:=Hd g1;clear g0 g1;go_wp2_with fail;go_ret;exact⟨_,rfl,g2.o,g3.o⟩
theorem Tk {ST:TypeId}{b:Nat}(E:D5 T ST z b)(ty:TypeId)(wr:Wd)(base:Nat)(v:Value)(xs:List Value)(y:Value)(hy:y.oneCell'=true)(hown:OwnC T wr base v xs)(hlen:xs.length<1099511627776)(hbase:base<=wr.heap.size) :
 ∃ v' w',(Builtin.append_ #[ST,ST] ty #[v,.slice (some (Av wr.heap.size)) 1 1]).run prog (wr.alloc (.cells #[y] T))=.ok v' w' /\
  OwnC T w' base v' (xs++[y])/\w'.os=wr.os/\w'.tape=wr.tape/\w'.output=wr.output/\wr.heap.size<=w'.heap.size/\BT v v' wr w':=by
 obtain⟨i,hi,hz,g1,g3⟩:=Xv E.info;have g2:=E.small;obtain⟨v',w',hr,h1,h2,_,g0⟩:=run_append_own_at (P:=prog) (wr.alloc (.cells #[y] T)) base ST ty T i z 1 b E.under hi hz g1 g3 (by rw[E.one];rfl) (by decide)
  v xs.length xs (hown.alloc _) (Av wr.heap.size) 1 1 [y] rfl (cell_one_new _ _ _) (by intro u hu;simp at hu;subst hu;exact hy) (by unfold maxLen;omega) (by
   have h1:(xs.length+1)*b<=1099511627776*100:=Xx (by omega) g2;omega) (by simp;omega)
 refine⟨v',w',hr,?_,h2.os,h2.tape,h2.output,?_,⟨GA h2,g0.imp id fun e=>⟨_,e,by simp⟩⟩⟩
 . unfold OwnC;rw[Vr];exact h1
 . have:=h2.size;simp at this;omega
theorem OwnC.lower {b:Nat}(h:OwnC T w base v xs)(hb:b<=base):OwnC T w b v xs:=by
 refine⟨h.1,?_⟩;rcases h.2 with hn|⟨g,cap,cur,rfl,g0,rest⟩
 . exact .inl hn
 . exact .inr ⟨g,cap,cur,rfl,by omega,rest⟩
theorem Tl (e:ExT)(x:Value)(n:Nat)(hn:n<=12)(w:Wd)(hs:e.size<=4096)(hok:okT e 1)(h:A3 w e x) :
 Cl 60 #[x,Iv n] w fun y w'=>∃ v,y=.returned v/\OwnB w' w.heap.size v (tabB n (fnT e))/\Bw w w':=by
 have gv:Hq (∀ W,Bw w W->∀ u,u=x->Cl 51 #[u] W (Bl (Iv 0) W)):=Hd fun W hb u hu=>by
  subst hu
  exact(I5 e _ W hs (h.below hb)).mono (by
   rintro y w' ⟨err,rfl,h1,h2⟩;rw[h1.2 hok];exact⟨rfl,h2⟩)
 have gz:Hq (∀ W,Bw w W->∀ u,u=x->∀ (ls:List Bool) al cl,BB W al ls->Cl 119 #[u,.slice al ls.length cl] W (Bl (.bool (fnT e (AF ls))) W)):=Hd fun W hb u hu ls al cl hl=>by
  subst hu;exact M5 ls al cl e _ W hok.valid (h.below hb) hl
 have gj:Hq (∀ j,j<=1048576->∀ W,Cl 120 #[Iv (j:Nat),Iv n] W fun x w'=>∃ v,x=.returned v/\OwnB w' W.heap.size v (AO j n)/\Bw W w'):=Hd fun j hj W=>Tj j n hj (by omega) W
 have HS:Hq (∀ k,k<=n->2^k<=4096):=Hd fun k hk=>Vx (Wo (by omega) (show k<=12 by omega)) (by decide)
 obtain⟨x0,x1,x2,hx,o0,o1,o2⟩:=h.agg;subst hx;obtain⟨w1,g5⟩:=Ex (w.alloc (.cells #[x0,x1,x2] 79));have HW1:Hq (_=w1):=Hd g5.symm;have g7:Hq (Bw w w1):=by rw[g5];exact Hd (Af _ _)
 have g4:w1.heap[w.heap.size]?=some (.cells #[x0,x1,x2] 79 (0,0)):=by rw[g5];exact Vq _ _
 have hs1:w1.heap.size=w.heap.size+1:=by rw[g5];simp
 have d0:w1.cell? (Av w.heap.size)=some x0:=by rw[Vp _ _ 0 _ _ _ g4];rfl
 have d1:w1.cell? (Aw w.heap.size 1)=some x1:=by rw[Vp _ _ 1 _ _ _ g4];rfl
 have d2:w1.cell? (Aw w.heap.size 2)=some x2:=by rw[Vp _ _ 2 _ _ _ g4];rfl
 obtain⟨L,hL⟩:=Ex (2^n);have gE:=Hd hL;obtain⟨G,hG⟩:=Ex (fun i=>fnT e (AF (AO i n)):Nat->Bool)
 have HG:Hq (∀ i,fnT e (AF (AO i n))=G i):=Hd fun i=>by rw[hG]
 have HT:Hq (tabB n (fnT e)=(List.range L).map G):=Hd (by rw[hL,hG];rfl);have gK:L<=4096:=by rw[hL];exact HS.o n (Vo _)
 rw[HT.o];clear h g5 g4 hG hL
 go_enter func60,ntmps60
 go_upto_region 1 with fail;rw[HW1.o];have gJ:¬ (n:Int)<0:=by omega
 have gH:¬ (n:Int)>12:=by omega
 go_wp2_with fail;refine(gv.o _ g7.o _ rfl).mono ?_;rintro y w2 ⟨rfl,gr⟩;have HB2:=Hd gr;clear gr gv;go_wp2_with fail
 go_loopw [5,6] (fun s5 s6 wr=>∃ k p:Nat,k<=n/\s5=Iv p/\s6=Iv k/\Hq (wr=w2)/\Hq (2^k=p)) (fun _ s6 _=>n-(intOf s6).toNat)
 case atStart=>exact⟨0,1,Vu _,rfl,rfl,Hd rfl,Hd rfl⟩
 case round =>
  obtain⟨k,p,hk,rfl,rfl,gg,HP⟩:=hrel;have gI:p<=4096:=by rw[<- HP.o];exact HS.o k hk
  by_cases gm:k<n
  ·go_wp2_with fail;go_roundw
   case rel=>exact⟨k+1,2*p,by omega,by go_num,by go_num,gg,Hd (by rw[WS,HP.o];omega)⟩
   case measure=>simp[intOf];omega
  ·obtain rfl:k=n:=by omega
   obtain rfl:p=L:=by rw[<- HP.o,gE.o]
   have gB:=gg.o;subst gB;obtain⟨w3,g8⟩:=Ex (wr.alloc (.cells #[] 4));have gt:Hq (_=w3):=Hd g8.symm;have gf:Bw w1 w3:=by rw[g8];exact HB2.o.trans ((Af _ _).mono HB2.o.size)
   have gh:Hq (OwnB w3 w1.heap.size (.slice (some (Av wr.heap.size)) 0 0) []):=by rw[g8];exact Hd (Cv _ _ _ HB2.o.size)
   have gx:=Hd gf;have gk:w1.heap.size<=w3.heap.size:=gf.size;clear g8 gf gm;go_upto_region 9 with fail;rw[gt.o];go_wp2_with fail
   go_loopw [7,8] (fun s7 s8 wr=>∃ j:Nat,j<=p/\s8=Iv j/\Hq (OwnB wr w1.heap.size s7 ((List.range j).map G))/\Hq (Bw w1 wr)/\w1.heap.size<=wr.heap.size) (fun _ s8 _=>p-(intOf s8).toNat)
   case atStart=>exact⟨0,Vu _,rfl,gh,gx,gk⟩
   case round =>
    clear gh gx gk gt gg HB2
    rename Wd=>wq
    obtain⟨j,hj,rfl,gu,g3,gC⟩:=hrel
    by_cases gm:j<p
    ·have e0:=Cq g3.o d0;have e1:=Cq g3.o d1;have e2:=Cq g3.o d2;have HL:=Hd (gj.o j (by omega) wq.drew);go_upto_region 12 with fail;refine AD (fun W:Wd=>W.cell? (Av w.heap.size)=some x0/\W.cell? (Aw w.heap.size 1)=some x1/\W.cell? (Aw w.heap.size 2)=some x2) false 9
      [(0,false),(1,false),(2,false),(3,false),(4,true),(5,true),(6,true),(7,true),(8,false)] (by kernel_rfl) (by kernel_rfl) ⟨e0,e1,e2⟩ ?_
     simp only[planned,AC]
     iterate 4
      refine As rfl ?_;apply Exists.intro;refine⟨fun w' hw=>?_,?_⟩
      . obtain⟨h1,h2,h3⟩:=hw;go_simp;rfl
      simp only[Ac]
     refine Cd (R:=fun v w'=>BQ w' v (AO j k)/\Bw wq w') rfl (by go_simp) (HL.o.mono (fun e w' he=>?_)) ?_
     . obtain⟨v,rfl,q1,q2⟩:=he;have q3:Bw wq w':=(An wq 1).trans (q2.mono (An wq 1).size);exact⟨v,rfl,⟨(Cq q3 e0),(Cq q3 e1),(Cq q3 e2)⟩,q1.boolsIs (by rw[Ge];omega),q3⟩
     rintro v w4 ⟨f0,f1,f2⟩ ⟨⟨av,cv,rfl,go,-⟩,gq⟩;have gw:=Hd go;have gd:=Hd gq;clear go gq e0 e1 e2 HL;simp only[Ac];refine Cd (R:=fun v w'=>v=.bool (G j)/\Bw w4 w') rfl (by go_simp) ((gz.o w4 (g7.o.trans ((g3.o.trans (gd.o.mono g3.o.size)).mono g7.o.size)) _ rfl (AO j k) av cv gw.o).mono (fun e w' he=>?_)) ?_
     . obtain⟨rfl,q3⟩:=he;exact⟨_,rfl,⟨(Cq q3 f0),(Cq q3 f1),(Cq q3 f2)⟩,by rw[HG.o],q3⟩
     rintro v w5 ⟨g0,g1,g2⟩ ⟨rfl,gp⟩;obtain⟨y,hy⟩:=Ex (G j);rw[<- hy];have gD:Hq (A8 ((List.range (j+1)).map G)=A8 ((List.range j).map G)++[.bool y]):=Hd (by rw[M4,DA,hy]);have ga:=gd.o.trans (gp.mono gd.o.size);have gG:=Hd (g3.o.trans (ga.mono g3.o.size));have gi:=Hd (gu.o.below ga);have ge:w1.heap.size<=w5.heap.size:=Vx gC ga.size;clear gp ga f0 f1 f2 hy gw gd;simp only[Ac];have gc:=Af w5 (.cells #[.bool y] 4);refine Ds (v:=.slice (some (Av w5.heap.size)) 1 1) (w':=w5.alloc (.cells #[.bool y] 4)) rfl (by go_simp) ⟨(Cq gc g0),(Cq gc g1),(Cq gc g2)⟩ ?_;simp only[Ac];obtain⟨v6,w6,gl,g9,q1,q2,q3,q4,gn⟩:=Tk CK 90 w5 w1.heap.size _ (A8 ((List.range j).map G)) (.bool y) rfl gi.o (by simp[A8];omega) ge;have g6:=CA gG.o gi.o q1 q2 q3 q4 gn ge;refine Ds (v:=v6) (w':=w6) rfl (JL rfl rfl rfl gl) ⟨(Cq g6 d0),(Cq g6 d1),(Cq g6 d2)⟩ ?_;simp only[Ac]
     iterate 1
      refine As rfl ?_;apply Exists.intro;refine⟨fun w' hw=>?_,?_⟩
      . obtain⟨h1,h2,h3⟩:=hw;go_simp;rfl
      simp only[Ac]
     refine Bs ?_;have gF:=Hd g6;have gA:=Hd g9;have gy:w1.heap.size<=w6.heap.size:=by omega
     clear g6 g9 q1 q2 q3 q4 gn gl g0 g1 g2 gc;go_wp2_with fail;go_roundw
     case rel=>exact⟨j+1,by omega,by go_num,Hd (by unfold OwnB;rw[gD.o];exact gA.o),gF,gy⟩
     case measure=>simp[intOf];omega
    ·obtain rfl:j=p:=by omega
     have HF:Hq (∃ v,Ending.returned u7=.returned v/\OwnB wq w.heap.size v ((List.range j).map G)/\Bw w wq):=Hd ⟨u7,rfl,gu.o.lower (by omega),g7.o.trans (g3.o.mono g7.o.size)⟩;go_wp2_with fail;go_ret;exact HF.o
end Go.Proofs.YtkidaindpahefaaGreat
