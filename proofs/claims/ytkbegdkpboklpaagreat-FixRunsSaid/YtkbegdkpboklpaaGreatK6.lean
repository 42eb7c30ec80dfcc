/- Several texts in one file: contracts of the program's functions and what follows from them. -/
import Derived.Test.YtkbegdkpboklpaaGreatK5
import Derived.Shelf.Slices.Reverse
import Derived.Ground.Names2Prog
import Derived.Shelf.Slices.Cells
import Derived.Shelf.Slices.Empties
set_option linter.unusedSimpArgs false
set_option linter.unusedVariables false
set_option linter.unusedSectionVars false
set_option linter.unnecessarySimpa false
set_option maxRecDepth 100000
set_option maxHeartbeats 8000000
namespace Go.Proofs.YtkbegdkpboklpaaGreat
open Go.Proofs.Tryz
open Go.RowKit
theorem Zxl {d:Zag}{ids:List Nat}(hn:ids.Nodup)(ht:∀ i∈ids,d.pool.tk i=true)(hlt:∀ i,d.pool.tk i=true->i<d.pool.at_.length)(hc:(d.pool.many:Int)=Zaw d.pool.at_.length (fun i=>if d.pool.tk i=true then 1 else 0)):ids.length<=d.pool.many:=by
 have key:∀ (l:List Nat),l.Nodup->(∀ i∈l,d.pool.tk i=true)->∀ kk,(∀ i∈l,i<kk)->(l.length:Int)<=Zaw kk (fun i=>if d.pool.tk i=true then 1 else 0):=by
  intro l hl g0 kk
  induction kk generalizing l with
  | zero =>
    intro h;cases l with
    | nil=>simp[Zaw]
    | cons a l=>have:=h a (by simp);omega
  | succ kk ih =>
    intro h
    show (l.length:Int)<=Zaw kk (fun i=>if d.pool.tk i=true then 1 else 0)+(if d.pool.tk kk=true then 1 else 0)
    by_cases hm:kk∈l
    .
     have h1:=ih (l.erase kk) (hl.erase kk) (fun i hi=>g0 i (List.mem_of_mem_erase hi)) (fun i hi=>by
      have h2:=h i (List.mem_of_mem_erase hi);have h3:i≠kk:=fun e=>by subst e;exact(List.Nodup.not_mem_erase hl) hi
      omega)
     rw[List.length_erase_of_mem hm] at h1;have g1:0<l.length:=List.length_pos_of_mem hm;have:=g0 kk hm;simp only[this,if_true];omega
    .
     have h1:=ih l hl g0 (fun i hi=>by
      have h2:=h i hi;have h3:i≠kk:=fun e=>by subst e;exact hm hi
      omega)
     have:(0:Int)<=if d.pool.tk kk=true then 1 else 0:=by split<;>omega
     omega
 have:=key ids hn ht d.pool.at_.length (fun i hi=>hlt i (ht i hi));omega
theorem Zv3 (ts:List TN):(ts.flatMap Zck).length=2*ts.length:=by
 induction ts with
 | nil=>rfl
 | cons a l ih=>simp[List.flatMap_cons,Zck,ih];omega
structure CutI (d0:Zag)(k x:Nat)(ids:List Nat)(sb:Nat)(s:Za7)(o1:Own)(w1:World)(base:Nat)(v:Value)(ts:List TN)(j:Nat)(W:World)(o:Own)(d:Zag):Prop where
 st:Zao o W sb d s
 lt:Zaj o W
 cut:CutS d0 k x (fun i=>i∈ids.take j) d
 row:TRow W base v ts
 no:0<ts.length->∀ g,v.ownBlock=some g->o g=none
 chg:Chg Zar o1 o w1 W
theorem CutI.move {d0:Zag}{k x:Nat}{ids:List Nat}{sb:Nat}{s:Za7}{o1:Own}{w1:World}{base:Nat}{v:Value}{ts:List TN}{j:Nat}{W W':World}{o o':Own}{d d':Zag}{R:Role->Prop}(h:CutI d0 k x ids sb s o1 w1 base v ts j W o d)(st:Zao o' W' sb d' s)(hc:Chg R o o' W W')(hR:∀ r,R r->Zar r)(lt:Zaj o' W'){j':Nat}(cut:CutS d0 k x (fun i=>i∈ids.take j') d') :
 CutI d0 k x ids sb s o1 w1 base v ts j' W' o' d' :=
 ⟨st,lt,cut,h.row.chg hc h.no,fun hp g hg=>hc.alien' (h.row.blk hp g hg).2 (h.no hp g hg),h.chg.trans (hc.mono hR)⟩
theorem CutS.congr {d0 d:Zag}{k x:Nat}{g g':Nat->Prop}(h:CutS d0 k x g d)(e:∀ i,g i↔g' i):CutS d0 k x g' d:=by
 have e':g=g':=funext fun i=>propext (e i)
 rw[<- e'];exact h
theorem Znu {o:Own}{w:World}{sb:Nat}{d:Zag}{V:Nat->BF}(st:Zav o w sb d)(hlt:Zaj o w)(hk:Zan d V)(k:Nat)(hk1:k+1<d.vars.length)(htop:∀ i,Za0 d i<=549755813888) :
 Calls prog 182 #[.pointer (some ⟨sb,0,none⟩),.int .i64 k] w fun q w'=>∃ o' d0,Zbg d d0/\Zaj o' w'/\Chg Zar o o' w w' /\
  ((q=.returned (.int .i64 7)/\Zav o' w' sb d0/\d0.pool.room<3*d0.pool.many)\/(q=.returned (.int .i64 0)/\∃ d' V',Zav o' w' sb d'/\Zj6 d0 V k d' V')):=by
 obtain⟨P,hP⟩:∃ P:Ending->World->Prop,P=fun q w'=>∃ o' d0,Zbg d d0/\Zaj o' w'/\Chg Zar o o' w w' /\
  ((q=.returned (.int .i64 7)/\Zav o' w' sb d0/\d0.pool.room<3*d0.pool.many)\/(q=.returned (.int .i64 0)/\∃ d' V',Zav o' w' sb d'/\Zj6 d0 V k d' V')):=⟨_,rfl⟩
 rw[<- hP];have kB:=Hd hP;clear hP;obtain⟨s0,h0⟩:=id st;obtain⟨c0,c1,c2,c3,c4,f0⟩:=cells5 h0.blk;obtain⟨l0,l1,_⟩:=cells2 h0.lev;obtain⟨gv,cv,gz,gQ,_⟩:=h0.vars.shape (by omega);rw[gz] at l0;have HC:=hk.small;have kk:=Hd (Zhl st hlt hk);have HK:=Hd hk;have H3:¬ ((k:Int)>=(d.vars.length:Int)-1):=by omega
 have kM:=Hd htop;clear h0 gz st hlt hk gQ htop c1 c2 c3 c4 f0 l1
 go_enter func182,ntmps182
 go_wp2_with fail;refine kk.out.mono ?_;rintro q w1 ⟨rfl,o1,d0,⟨s,h1⟩,hc,gE,kx⟩;have gP:=gE.ok HK.out;obtain⟨x,hx⟩:∃ x,x=d0.vars.getD k 0:=⟨_,rfl⟩;obtain⟨y,hy⟩:∃ y,y=d0.vars.getD (k+1) 0:=⟨_,rfl⟩;have kq:d0.vars.length=d.vars.length:=by rw[gE.vars]
 have FR:SwF d0 V k x y:=⟨⟨by omega,hx.symm,hy.symm⟩,gP,h1.len,fun i=>by
  cases hi:Zab d0 i with
  | none=>rw[Zes hi];omega
  | some b=>rw[gE.ext i b hi];exact kM.out i⟩
 have gh:=FR.facts.1;have H4:=FR.facts.2.1;obtain⟨c0,c1,c2,c3,c4,f0⟩:=cells5 h1.blk;obtain⟨l0,l1,_⟩:=cells2 h1.lev;obtain⟨gv,cv,gz,gQ,_⟩:=h1.vars.shape (by omega);have r1:=h1.vars;rw[gz] at r1 l0;have a0:=r1.cell k (by simp;omega);have a1:=r1.cell (k+1) (by simp;omega);rw[Zfl (by omega),<- hx] at a0;rw[Zfl (by omega),<- hy] at a1;have Hb:(k:Int)<d0.vars.length:=by omega
 have Ha:(k:Int)+1<d0.vars.length:=by omega
 have km:=Hd (Zyy ⟨s,h1.below hc (Zaf w1 1)⟩ (hc.mono (Zaf w1 1).size) gP x y gh);have g1:=Hd FR;have H1:=Hd h1;have ki:=Hd hc;have ke:=Hd gE;have kH:=Hd kx;have Hz:d0.vars.length<=64:=by omega
 have HI:=Hd kq;have H7:IntKind.i64.wrap ((k:Int)+1)=((k+1:Nat):Int):=by rw[IntWalk.i64_in _ (by omega)];rfl
 clear h1 hc gE kx gP gz gQ r1 hx hy FR kk kq H3;go_upto_region 6 with fail;refine Zap (fun W:World=>W.cell? ⟨sb,0,none⟩=some (.pointer (some ⟨s.lb,0,none⟩))/\W.cell? ⟨s.lb,0,none⟩=some (.slice (some ⟨gv,0,none⟩) d0.vars.length cv)/\W.cell? ⟨gv,k,none⟩=some (.int .i64 (x:Nat))/\W.cell? ⟨gv,k+1,none⟩=some (.int .i64 (y:Nat))) false 23 [(0,false),(1,false),(2,false),(3,false),(4,false),(5,false),(6,false),(7,false),(8,false),(9,false),(10,false),(11,false),(12,false),(13,false),(14,false),(15,false),(16,false),(17,false),(18,false),(19,false),(20,false),(21,false),(22,false)] (by kernel_rfl) (by kernel_rfl) ⟨c0,l0,a0,a1⟩ ?_;simp only[planned,Zc8]
 iterate 23
  refine Zaq rfl ?_;apply Exists.intro;refine⟨fun w' hw=>?_,?_⟩
  . obtain⟨h1,h2,h3,h4⟩:=hw;go_simp;rfl
  simp only[Zah]
 refine Zeg ?_;go_wp2_with fail;refine km.out.mono ?_;rintro q w2 ⟨v,ids,rfl,hR,gS,gq,go⟩;obtain⟨ts,gY⟩:∃ ts,ts=ids.map (tnOf d0 y):=⟨_,rfl⟩;rw[<- gY] at gq;have gl:Below w1.heap.size w1 w2:=⟨go.os,go.tape,go.output,go.size,fun q hq=>go.block q hq⟩;have h2:=H1.out.below ki.out gl;have gI:=ki.out.mono gl.size;have hA:Hid (∀ i∈ids,∃ b,Zzw d0 V x y i b):=Hd fun i hi=>Zwz g1.out H1.out ((gS i).1 hi)
 have k8:∀ t∈ts,t.ll<eMax/\t.lh<eMax/\t.hl<eMax/\t.hh<eMax:=by
  intro t ht;rw[gY] at ht;obtain⟨i,hi,rfl⟩:=List.mem_map.1 ht;obtain⟨b,tb⟩:=hA.out i hi;have q1:=H1.out.edge_lt tb.val.f1.1;have q2:=H1.out.edge_lt tb.val.f2.1;have q3:=H1.out.edge_lt tb.val.f3.1;have q4:=H1.out.edge_lt tb.val.f4.1;unfold eMax;omega
 have ho:=Hd (Zw3 h2 gI x gh gq k8);have kc:=Hd fun W (hb:Below w2.heap.size w2 W)=>Znt ⟨s,h2.below gI hb⟩
 have Hs:=Hd fun W (hb:Below w2.heap.size w2 W)=>Zpv ⟨s,h2.below gI hb⟩
 have HG:=H1.out.pool.many;have HD:=H1.out.pool.top;have HE:=H1.out.pool.room
 have Hv:Hid (ids.length<=d0.pool.many):=Hd (Zxl hR (fun i hi=>by
  obtain⟨b,tb⟩:=hA.out i hi;exact(Za8 tb.node).1) (fun i hi=>(H1.out.pool.tk_lt hi).2) H1.out.pool.cnt)
 have kG:=Hd h2;have hF:=Hd gI;have HB2:=Hd gl;have gw:=Hd gq;have gU:=Hd gS;have kD:=Hd hR;have hu:=Hd gY;have HH:w1.heap.size<=w2.heap.size:=gl.size;clear go gl h2 gI gq gS hR k8 c0 c1 c2 c3 c4 f0 l0 l1 a0 a1 Hb Ha H7 gY;go_wp2_with fail;refine ho.out.mono ?_;rintro q w3 ⟨Wt,rfl,hL,hf⟩;have gK:=Hd hL;have gn:=Hd hf;have H8:Wt.length<=2*ts.length:=by have:=hL.len;rw[Zv3] at this;exact this
 have gZ:ts.length=ids.length:=by rw[hu.out,List.length_map]
 have Hf:=Hv.out;have kN:=Hd (kc.out w3 hf);have kT:=Hd (Hs.out w3 hf);clear hL hf ho;go_wp2_with fail;refine kN.out.mono ?_;rintro q w' ⟨rfl,rfl⟩;go_wp2_with fail;refine kT.out.mono ?_;rintro q w' ⟨rfl,rfl⟩
 by_cases HA:(Wt.length:Int)>(d0.pool.room:Int)-(d0.pool.many:Int)
 .
  have HF:Hid (P (.returned (.int .i64 7)) w3):=by
   rw[kB.out];exact Hd ⟨o1,d0,ke.out,hF.out.mono gn.out.size,kH.out.trans ((Chg.of_below HB2.out _ _).trans (Chg.of_below gn.out _ _)),.inl ⟨rfl,⟨s,kG.out.below hF.out gn.out⟩,by omega⟩⟩
  clear gZ;go_wp2_with fail;exact HF.out
 have kj:Hid (d0.pool.many+Wt.length<=d0.pool.room):=Hd (by omega);have h3:=kG.out.below hF.out gn.out;have kv:=hF.out.mono gn.out.size;obtain⟨c0,c1,c2,c3,c4,f0⟩:=cells5 h3.blk;have hB:=Hd (Zle h3 k (by have:=g1.out.v.k1;exact this) g1.out.ok.small (by rw[h3.len];rw[g1.out.v.x];exact gh) (by rw[h3.len];rw[g1.out.v.y];exact H4));have HQ:=Hd h3;have Hu:=Hd kv;clear h3 kv;go_wp2_with fail;refine hB.out.mono ?_;rintro q w4 ⟨rfl,h4,hd⟩;have h5:=(gw.out.below gn.out);have gR:0<ts.length->∀ g,v.ownBlock=some g->o1 g=none:=fun hp g hg=>ki.out.none (gw.out.blk hp g hg).1
 have Hw:Hid (CutI d0 k x ids sb s o1 w1 w1.heap.size v ts 0 w4 o1 (Zep d0 k)):=Hd ⟨h4,Hu.out.mono hd.size,(CutS.start d0 k x).congr (fun i=>by simp),h5.chg hd gR,gR,(Chg.of_below HB2.out _ _).trans ((Chg.of_below gn.out _ _).trans hd)⟩;obtain⟨av,cvv,kp,_⟩:=gw.out.ex;rw[gZ] at kp;have hG:Hid (ids.length<=1048578):=Hd (by have:=gw.out.small;omega);clear h5 gR h4 hd hB c0 c1 c2 c3 c4 f0 Hf H8;subst kp;go_wp2_with fail
 go_loopw [77] (fun s77 wr=>∃ j:Nat,j<=ids.length/\s77=.int .i64 j/\Hid (∃ o d,CutI d0 k x ids sb s o1 w1 w1.heap.size (.slice av ids.length cvv) ts j wr o d)) (fun s77 _=>ids.length-(intOf s77).toNat)
 case atStart=>exact⟨0,Nat.zero_le _,rfl,Hd ⟨o1,_,Hw.out⟩⟩
 case round =>
  obtain⟨j,hj,rfl,HCI⟩:=hrel
  by_cases hlt:j<ids.length
  .
   obtain⟨oj,dj,g2⟩:=HCI.out;obtain⟨a',c',ea,g3⟩:=g2.row.ex;rw[gZ] at ea;injection ea with ea1 ea2 ea3
   obtain⟨g,hg,_,g0⟩:=g3 j (by omega);rw[hg] at ea1;subst ea1;obtain⟨i,hi⟩:∃ i,i=ids[j]:=⟨_,rfl⟩;have gC:ts[j]'(by omega)=tnOf d0 y i:=by rw[hi];simp[hu.out]
   rw[gC] at g0;obtain⟨b,tb⟩:=hA.out i (by rw[hi];exact List.getElem_mem hlt);have gB:tnOf d0 y i=⟨d0.pool.nd i,(tnOf d0 y i).ll,(tnOf d0 y i).lh,(tnOf d0 y i).hl,(tnOf d0 y i).hh⟩:=rfl;obtain⟨N,hN⟩:∃ N,N=d0.pool.nd i:=⟨_,rfl⟩;obtain⟨ll,ga⟩:∃ q,q=(tnOf d0 y i).ll:=⟨_,rfl⟩;obtain⟨lh,gb⟩:∃ q,q=(tnOf d0 y i).lh:=⟨_,rfl⟩;obtain⟨hl,gc⟩:∃ q,q=(tnOf d0 y i).hl:=⟨_,rfl⟩;obtain⟨hh,gd⟩:∃ q,q=(tnOf d0 y i).hh:=⟨_,rfl⟩;rw[gB,<- hN,<- ga,<- gb,<- gc,<- gd] at g0;have e0:wr.cell? ⟨g,j*9,none⟩=some _:=g0 0 _ rfl;have e1:=g0 1 _ rfl;have e2:=g0 2 _ rfl;have e3:=g0 3 _ rfl;have e4:=g0 4 _ rfl;have e5:=g0 5 _ rfl;have e6:=g0 6 _ rfl;have e7:=g0 7 _ rfl;have e8:=g0 8 _ rfl;have hU:N.lo=b.lo:=by rw[hN];exact tb.lo
   have hW:N.hi=b.hi:=by rw[hN];exact tb.hi
   have HB:=Hd g2;have HM:=Hd hi;have gm:=Hd tb;have HL:=Hd hU;have HO:=Hd hW;have Hc:(j:Int)<ids.length:=by omega
   have Hg:=hG.out;have He:(j:Int)+1<=1048578:=by omega
   have gh:=g1.out.facts.1;have hO:d0.tab x (N.lo,N.hi)=some i:=by
    rw[hU,hW];refine(g1.out.ok.tab x gh _ _ _).2 ?_;rw[tb.node,<- tb.v]
   have gF:¬ i∈ids.take j:=by
    intro hm;have gG:=kD.out;rw[<- List.take_append_drop j ids,List.nodup_append] at gG;refine gG.2.2 i hm i ?_ rfl;rw[List.drop_eq_getElem_cons hlt,hi];exact List.mem_cons_self
   have kw:dj.tab x (N.lo,N.hi)=some i:=g2.cut.has hO gF;have hM:x<dj.vars.length:=by rw[g2.cut.vars,Zin];exact gh
   have Hi:(fun u=>if u=x then putF (dj.tab u) (N.lo,N.hi) none else dj.tab u)=(fun u=>if u=x then putF (dj.tab x) (N.lo,N.hi) none else dj.tab u):=by funext u;by_cases e:u=x<;>simp[e]
   have kR:Hid (CutS d0 k x (fun q=>q∈ids.take (j+1)) { dj with tab:=fun u=>if u=x then putF (dj.tab x) (N.lo,N.hi) none else dj.tab u }):=Hd (by
    have q1:=(g2.cut.next g1.out.ok gh hO).congr (g':=fun q=>q∈ids.take (j+1)) (fun q=>by
     rw[List.take_succ_eq_append_getElem hlt,List.mem_append,List.mem_singleton,hi])
    rw[Hi] at q1;exact q1)
   obtain⟨wz,g7⟩:∃ W,W=wr.alloc (.cells #[.int .i64 N.id,.int .i64 N.v,.int .i64 N.lo,.int .i64 N.hi,.int .i64 N.refs,.int .i64 ll,.int .i64 lh,.int .i64 hl,.int .i64 hh] 279):=⟨_,rfl⟩;have ge:Below wr.heap.size wr wz:=by rw[g7];exact Zad wr _
   have hz:=heap_alloc_new wr (.cells #[.int .i64 N.id,.int .i64 N.v,.int .i64 N.lo,.int .i64 N.hi,.int .i64 N.refs,.int .i64 ll,.int .i64 lh,.int .i64 hl,.int .i64 hh] 279);rw[<- g7] at hz;have z2:wz.cell? ⟨wr.heap.size,2,none⟩=some (.int .i64 N.lo):=by rw[cell_of_row wz _ 2 _ _ _ hz];rfl
   have z3:wz.cell? ⟨wr.heap.size,3,none⟩=some (.int .i64 N.hi):=by rw[cell_of_row wz _ 3 _ _ _ hz];rfl
   have g8:=g2.st.below g2.lt ge;have gj:=g2.lt.mono ge.size;obtain⟨gt,ct,gA,cellx,H9⟩:=g8.tabAt hM;obtain⟨c0,c1,c2,c3,c4,f0⟩:=cells5 g8.blk;rw[gA] at c2;have ko:x<s.ts.length:=by rw[g8.tlen];exact hM
   have H6:(x:Int)<s.ts.length:=by omega
   have kV:=Hd (Zus oj x (s.ts.getD x 0) (dj.tab x) N.lo N.hi i wz.drew ((g8.below gj (Zaf wz 1)).tab x ko) (gj.mono (Zaf wz 1).size) kw);have gV:Hid (CutI d0 k x ids sb s o1 w1 w1.heap.size (.slice (some ⟨g,0,none⟩) ids.length cvv) ts j wz.drew oj dj):=Hd (g2.move ((g8.below gj (Zaf wz 1))) (Chg.of_below (ge.trans ((Zaf wz 1).mono ge.size)) Zar oj) (fun _ h=>h) (gj.mono (Zaf wz 1).size) g2.cut);have k9:=Hd g7;have gL:=Hd hlt;clear g3 g0 gC gB g2 tb hN ga gb gc gd hi hU hW HCI hO gF kw hM ge hz g8 gj gA ko g7 c0 c1 c3 c4 f0;go_upto_region 14 with fail;rw[<- k9.out];refine Zap (fun W:World=>W=wz.drew) true 13 [(0,false),(1,false),(2,false),(3,false),(4,false),(5,false),(6,false),(7,false),(8,false),(9,false),(10,false),(11,false),(12,false),(13,true)] (by kernel_rfl) (by kernel_rfl) rfl ?_;simp only[planned,Zc8]
   iterate 13
    refine Zaq rfl ?_;apply Exists.intro;refine⟨fun w' hw=>?_,?_⟩
    . subst hw;go_simp;rfl
    simp only[Zah]
   refine Zdl rfl (by go_simp) (kV.out.mono (R':=fun e w'=>∃ v,e=.returned v/\(v=.int .i64 0/\Zdg oj w' x (s.ts.getD x 0) (putF (dj.tab x) (N.lo,N.hi) none)/\Chg (· = .tmap x) oj oj wz.drew w'/\Zaj oj w')) (fun e w' h=>⟨_,h.1,rfl,h.2⟩)) ?_;rintro _ w5 ⟨rfl,kr,hZ,ku⟩;simp only[Zah];refine Zbs ?_;have hD:=Hd (gV.out.move (gV.out.st.setTab gV.out.lt kr hZ) hZ (fun r hr=>by simp[Zar,hr]) ku kR.out);clear kr hZ ku c2 cellx H6 e0 e1 e2 e3 e4 e5 e6 e7 e8 z2 z3;go_wp2_with fail;go_roundw
   case rel=>exact⟨j+1,Nat.succ_le_of_lt gL.out,by go_num,Hd ⟨_,_,hD.out⟩⟩
   case measure =>
    have:=gL.out;have:=hG.out;simp[intOf];omega
  .
   obtain rfl:j=ids.length:=by omega
   obtain⟨oe,de,gk⟩:=HCI.out;have kd:Hid (∃ o d V',RndI sb o1 w1 w1.heap.size (.slice av ids.length cvv) ts wr o d/\Zb0 d0 V k x y Wt (Za0 d0) (fun i=>i∈ids.take 0) d V'):=Hd ⟨oe,de,V,⟨⟨s,gk.st⟩,gk.lt,gk.row,gk.no,gk.chg⟩,(Zb0.start gk.cut g1.out.ok g1.out.facts.1 ke.out.dead (fun i=>by rw[List.take_length];exact(gU.out i).symm) gK.out).congr (fun i=>by simp)⟩;clear gk HCI;go_wp2_with fail
   go_loopw [98] (fun s98 wr=>∃ j:Nat,j<=ids.length/\s98=.int .i64 j/\Hid (∃ o d V',RndI sb o1 w1 w1.heap.size (.slice av ids.length cvv) ts wr o d/\Zb0 d0 V k x y Wt (Za0 d0) (fun i=>i∈ids.take j) d V')) (fun s98 _=>ids.length-(intOf s98).toNat)
   case atStart=>exact⟨0,Nat.zero_le _,rfl,kd⟩
   case round =>
    clear kd;obtain⟨j,hj,rfl,hC⟩:=hrel
    by_cases hlt:j<ids.length
    .
     obtain⟨oj,dj,Vj,gD,gi⟩:=hC.out;obtain⟨a',c',ea,g3⟩:=gD.row.ex;rw[gZ] at ea;injection ea with ea1 ea2 ea3
     clear ea2 ea3;obtain⟨g,hg,Hh,g0⟩:=g3 j (by omega);rw[hg] at ea1;subst ea1;obtain⟨i,hi⟩:∃ i,i=ids[j]:=⟨_,rfl⟩;have gC:ts[j]'(by omega)=tnOf d0 y i:=by rw[hi];simp[hu.out]
     rw[gC] at g0;have gg:i∈ids:=by rw[hi];exact List.getElem_mem hlt
     obtain⟨b,tb⟩:=hA.out i gg;have gB:tnOf d0 y i=⟨d0.pool.nd i,(tnOf d0 y i).ll,(tnOf d0 y i).lh,(tnOf d0 y i).hl,(tnOf d0 y i).hh⟩:=rfl
     have kh:Hid (((tnOf d0 y i).ll,(tnOf d0 y i).hl)∈ts.flatMap Zck/\((tnOf d0 y i).lh,(tnOf d0 y i).hh)∈ts.flatMap Zck):=Hd (by
      have hm:tnOf d0 y i∈ts:=by rw[hu.out];exact List.mem_map.2 ⟨i,gg,rfl⟩
      exact⟨List.mem_flatMap.2 ⟨_,hm,by simp[Zck]⟩,List.mem_flatMap.2 ⟨_,hm,by simp[Zck]⟩⟩)
     obtain⟨N,hN⟩:∃ N,N=d0.pool.nd i:=⟨_,rfl⟩;obtain⟨ll,ga⟩:∃ q,q=(tnOf d0 y i).ll:=⟨_,rfl⟩;obtain⟨lh,gb⟩:∃ q,q=(tnOf d0 y i).lh:=⟨_,rfl⟩;obtain⟨hl,gc⟩:∃ q,q=(tnOf d0 y i).hl:=⟨_,rfl⟩;obtain⟨hh,gd⟩:∃ q,q=(tnOf d0 y i).hh:=⟨_,rfl⟩;rw[gB,<- hN,<- ga,<- gb,<- gc,<- gd] at g0;rw[<- ga,<- gb,<- gc,<- gd] at kh;have e0:wr.cell? ⟨g,j*9,none⟩=some _:=g0 0 _ rfl;have e1:=g0 1 _ rfl;have e2:=g0 2 _ rfl;have e3:=g0 3 _ rfl;have e4:=g0 4 _ rfl;have e5:=g0 5 _ rfl;have e6:=g0 6 _ rfl;have e7:=g0 7 _ rfl;have e8:=g0 8 _ rfl;have gF:¬ i∈ids.take j:=by
      intro hm;have gG:=kD.out;rw[<- List.take_append_drop j ids,List.nodup_append] at gG;refine gG.2.2 i hm i ?_ rfl;rw[List.drop_eq_getElem_cons hlt,hi];exact List.mem_cons_self
     obtain⟨wz,g7⟩:∃ W,W=wr.alloc (.cells #[.int .i64 N.id,.int .i64 N.v,.int .i64 N.lo,.int .i64 N.hi,.int .i64 N.refs,.int .i64 ll,.int .i64 lh,.int .i64 hl,.int .i64 hh] 279):=⟨_,rfl⟩;have ge:Below wr.heap.size wr wz.drew:=by rw[g7];exact Zek wr 1 _
     have hz:=heap_alloc_new wr (.cells #[.int .i64 N.id,.int .i64 N.v,.int .i64 N.lo,.int .i64 N.hi,.int .i64 N.refs,.int .i64 ll,.int .i64 lh,.int .i64 hl,.int .i64 hh] 279);rw[<- g7] at hz;obtain⟨bz,gs⟩:∃ q,q=wr.heap.size:=⟨_,rfl⟩;rw[<- gs] at hz;have z5:wz.cell? ⟨bz,5,none⟩=some (.int .i64 ll):=by rw[cell_of_row wz _ 5 _ _ _ hz];rfl
     have z6:wz.cell? ⟨bz,6,none⟩=some (.int .i64 lh):=by rw[cell_of_row wz _ 6 _ _ _ hz];rfl
     have z7:wz.cell? ⟨bz,7,none⟩=some (.int .i64 hl):=by rw[cell_of_row wz _ 7 _ _ _ hz];rfl
     have z8:wz.cell? ⟨bz,8,none⟩=some (.int .i64 hh):=by rw[cell_of_row wz _ 8 _ _ _ hz];rfl
     have kY:Hid (Box oj wz.drew bz (.cells #[.int .i64 N.id,.int .i64 N.v,.int .i64 N.lo,.int .i64 N.hi,.int .i64 N.refs,.int .i64 ll,.int .i64 lh,.int .i64 hl,.int .i64 hh] 279 (0,0))):=Hd ⟨hz,gD.lt.none (by rw[gs];exact Nat.le_refl _)⟩;have kb:=Hd (gD.below ge)
     have hH:Hid (w1.heap.size<=bz/\g≠bz):=Hd (by
      have h1:=gD.chg.size;have h2:g<wr.heap.size:=Zaa e0;exact⟨by omega,by omega⟩)
     have tv:=tb.val;rw[<- ga,<- gb,<- gc,<- gd] at tv;have kI:=Hd (Zn9 kb.out.st kb.out.lt gi g1.out.ok.dag (gi.acy g1.out) g1.out.facts.1 gi.vlen ll hl tv.f1 tv.f3 (fun h1 h2=>Zsa gi g1.out gK.out kh.out.1 tv.f1 tv.f3 h1 h2) gK.out.nodup kj.out);have HB2:Hid (∀ W o d V',Zav o W sb d->Zaj o W->Zb0 d0 V k x y Wt (Za0 d0) (fun i=>i∈ids.take j) d V'->_):=Hd (fun W o d V' st lt m=>Zn9 st lt m g1.out.ok.dag (m.acy g1.out) g1.out.facts.1 m.vlen lh hh tv.f2 tv.f4 (fun h1 h2=>Zsa m g1.out gK.out kh.out.2 tv.f2 tv.f4 h1 h2) gK.out.nodup kj.out)
     have kn:Hid (∀ r1 r2 d1 d2 V1 V2,Zf7 d0 V k x y Wt (fun i=>i∈ids.take j) dj Vj ll hl r1 d1 V1->Zf7 d0 V k x y Wt (fun i=>i∈ids.take j) d1 V1 lh hh r2 d2 V2->Ztw d0 V k x y Wt (fun i=>i∈ids.take j) i r1 r2 d2 V2):=Hd (by
      intro r1 r2 d1 d2 V1 V2 h1 h2;rw[ga,gc] at h1;rw[gb,gd] at h2;exact Ztw.of g1.out tb h1 h2)
     have HN:Hid (N.lo=b.lo/\N.hi=b.hi/\N.id=i/\(N.refs:Int)=Za0 d0 i):=Hd (by rw[hN];exact⟨tb.lo,tb.hi,tb.id,(Zcn (Za8 tb.node).1).symm⟩);have HT:Hid (Turns (Zab d0) x y i):=Hd ((gU.out i).1 gg);have kC:=Hd gF;have gm:=Hd tb;have Hm:Hid (∀ q,(q∈ids.take j\/q=i)↔q∈ids.take (j+1)):=Hd (fun q=>by rw[List.take_succ_eq_append_getElem hlt,List.mem_append,List.mem_singleton,hi]);have Hc:(j:Int)<ids.length:=by omega
     have Hg:=hG.out;have He:(j:Int)+1<=1048578:=by omega
     have k9:=Hd g7;have Hy:=Hd gs;have gL:=Hd hlt;clear g3 g0 gC gB gD gi tb tv hN ga gb gc gd hi hC gF ge hz g7 gs gg Hh;go_upto_region 19 with fail;rw[<- Hy.out,<- k9.out];clear e0 e1 e2 e3 e4 e5 e6 e7 e8;refine Zap (fun W:World=>W.cell? ⟨bz,5,none⟩=some (.int .i64 ll)/\W.cell? ⟨bz,6,none⟩=some (.int .i64 lh)/\W.cell? ⟨bz,7,none⟩=some (.int .i64 hl)/\W.cell? ⟨bz,8,none⟩=some (.int .i64 hh)) false 16 [(0,false),(1,false),(2,false),(3,false),(4,false),(5,false),(7,false),(8,false),(9,false),(10,false),(11,false),(12,false),(6,true),(13,true),(14,false),(15,false)] (by kernel_rfl) (by kernel_rfl) ⟨z5,z6,z7,z8⟩ ?_;simp only[planned,Zc8]
     iterate 12
      refine Zaq rfl ?_;apply Exists.intro;refine⟨fun w' hw=>?_,?_⟩
      . obtain⟨q5,q6,q7,q8⟩:=hw;go_simp;rfl
      simp only[Zah]
     refine Zb5 (R:=fun v w'=>∃ r:Nat,v=.int .i64 r/\∃ o' d' V',RndI sb o1 w1 w1.heap.size (.slice (some ⟨g,0,none⟩) ids.length cvv) ts w' o' d'/\Zf7 d0 V k x y Wt (fun i=>i∈ids.take j) dj Vj ll hl r d' V'/\Box o' w' bz (.cells #[.int .i64 N.id,.int .i64 N.v,.int .i64 N.lo,.int .i64 N.hi,.int .i64 N.refs,.int .i64 ll,.int .i64 lh,.int .i64 hl,.int .i64 hh] 279 (0,0))) rfl (by go_simp) (kI.out.mono (fun e w' he=>?_)) ?_
     . obtain⟨r,rfl,o',d',V',st',lt',k7,kK,gJ⟩:=he;have g4:=kY.out.chg gJ;exact⟨_,rfl,⟨g4.cell 5,g4.cell 6,g4.cell 7,g4.cell 8⟩,r,rfl,o',d',V',kb.out.move st' lt' gJ (fun _ h=>h),k7,g4⟩
     rintro v w5-⟨r1,rfl,o5,d5,V5,h8,gT,k6⟩;simp only[Zah];refine Zb5 (R:=fun v w'=>∃ r:Nat,v=.int .i64 r/\∃ o' d' V',RndI sb o1 w1 w1.heap.size (.slice (some ⟨g,0,none⟩) ids.length cvv) ts w' o' d'/\Ztw d0 V k x y Wt (fun i=>i∈ids.take j) i r1 r d' V'/\Box o' w' bz (.cells #[.int .i64 N.id,.int .i64 N.v,.int .i64 N.lo,.int .i64 N.hi,.int .i64 N.refs,.int .i64 ll,.int .i64 lh,.int .i64 hl,.int .i64 hh] 279 (0,0))) rfl (by go_simp) ((HB2.out w5 o5 d5 V5 h8.st h8.lt gT.mid).mono (fun e w' he=>?_)) ?_
     . obtain⟨r,rfl,o',d',V',st',lt',k7,kK,gJ⟩:=he;have g4:=k6.chg gJ;exact⟨_,rfl,⟨g4.cell 5,g4.cell 6,g4.cell 7,g4.cell 8⟩,r,rfl,o',d',V',h8.move st' lt' gJ (fun _ h=>h),kn.out _ _ _ _ _ _ gT k7,g4⟩
     rintro v w6-⟨r2,rfl,o6,d6,V6,h7,gf,k5⟩;simp only[Zah]
     iterate 2
      refine Zaq rfl ?_;apply Exists.intro;refine⟨fun w' hw=>?_,?_⟩
      . obtain⟨q5,q6,q7,q8⟩:=hw;go_simp;rfl
      simp only[Zah]
     refine Zeg ?_;have Ho:=Hd h7;have gp:=Hd gf;have kX:=Hd k5;have Hq:=Hd (Zrq h7.st h7.lt g1.out gf.mid gf.e1 (fun i=>by have:=g1.out.top i;omega));clear h7 gf k5 h8 gT k6 z5 z6 z7 z8 kI HB2;go_wp2_with fail;refine Hq.out.mono ?_;rintro q w7 ⟨rfl,d7,st7,lt7,m7,n7,p7,c7⟩;have Hn:=Hd (Ho.out.move st7 lt7 c7 (fun _ h=>h));have kW:=Hd (kX.out.chg c7)
     have Hp:=Hd (Zrq st7 lt7 g1.out m7 (n7 ▸ gp.out.e2) (fun i=>by
      have:=g1.out.top i;have h2:toE r1 i<=1:=by unfold toE;split<;>omega
      unfold addE;omega))
     have kF:Hid (Zab d7=Zab d6/\d7.pool=d6.pool):=Hd ⟨n7,p7⟩;clear st7 lt7 m7 n7 p7 c7;go_wp2_with fail;refine Hp.out.mono ?_;rintro q w8 ⟨rfl,d8,st8,lt8,m8,n8,p8,c8⟩;have kA:=Hd (Hn.out.move st8 lt8 c8 (fun _ h=>h));have g6:=Hd (kW.out.chg c8);have hE:=Hd m8;have kE:Hid (Zab d8=Zab d6/\d8.pool=d6.pool):=Hd ⟨n8.trans kF.out.1,p8.trans kF.out.2⟩;clear st8 lt8 m8 n8 p8 c8;have x0:w8.cell? ⟨bz,0,none⟩=some (.int .i64 N.id):=g6.out.cell 0;have x1:w8.cell? ⟨bz,1,none⟩=some (.int .i64 N.v):=g6.out.cell 1;have x2:w8.cell? ⟨bz,2,none⟩=some (.int .i64 N.lo):=g6.out.cell 2;have x3:w8.cell? ⟨bz,3,none⟩=some (.int .i64 N.hi):=g6.out.cell 3;have x4:w8.cell? ⟨bz,4,none⟩=some (.int .i64 N.refs):=g6.out.cell 4;have xf:∀ q,w8.frozen? ⟨bz,q,none⟩=false:=fun q=>by simp[World.frozen?,g6.out.blk]
     go_upto_region 23 with fail;obtain⟨wo,gX⟩:∃ W,W=w8.alloc (.cells #[.int .i64 N.id,.int .i64 N.v,.int .i64 N.lo,.int .i64 N.hi,.int .i64 N.refs] 254):=⟨_,rfl⟩;have gf:Below w8.heap.size w8 wo:=by rw[gX];exact Zad w8 _
     have ha:=heap_alloc_new w8 (.cells #[.int .i64 N.id,.int .i64 N.v,.int .i64 N.lo,.int .i64 N.hi,.int .i64 N.refs] 254);rw[<- gX] at ha;obtain⟨bo,gu⟩:∃ q,q=w8.heap.size:=⟨_,rfl⟩;rw[<- gu] at ha;have gH:bz≠bo:=by
      have:=Zaa x0;have h2:bz<w8.heap.size:=this;omega
     have g5:Hid (Box o6 wo bz (.cells #[.int .i64 N.id,.int .i64 N.v,.int .i64 N.lo,.int .i64 N.hi,.int .i64 N.refs,.int .i64 ll,.int .i64 lh,.int .i64 hl,.int .i64 hh] 279 (0,0))):=Hd (g6.out.chg (Chg.of_below gf Zar o6));have kc:=Hd (kA.out.below gf);have kZ:Hid (Box o6 wo bo (.cells #[.int .i64 N.id,.int .i64 N.v,.int .i64 N.lo,.int .i64 N.hi,.int .i64 N.refs] 254 (0,0))):=Hd ⟨ha,kA.out.lt.none (by rw[gu];exact Nat.le_refl _)⟩;obtain⟨wa,gy⟩:∃ W,W=(wo.setCell ⟨bz,1,none⟩ (.int .i64 y)).setCell ⟨bz,2,none⟩ (.int .i64 r1):=⟨_,rfl⟩;obtain⟨wb,gx⟩:∃ W,W=wa.setCell ⟨bz,3,none⟩ (.int .i64 r2):=⟨_,rfl⟩;have HV:∀ q,0<ts.length->Value.ownBlock (.slice (some ⟨g,0,none⟩) ids.length cvv)=some q->q≠bz:=fun q _ hq=>by cases hq;exact hH.out.2
     have kz:Hid (RndI sb o1 w1 w1.heap.size (.slice (some ⟨g,0,none⟩) ids.length cvv) ts wb.drew o6 d8):=Hd (by
      rw[gx,gy];exact(((kc.out.write g5.out.no hH.out.1 HV 1 _).write g5.out.no hH.out.1 HV 2 _).write g5.out.no hH.out.1 HV 3 _).below (Zaf _ 1))
     have kl:=HN.out.2.2.2
     have g9:Hid (Box o6 wb.drew bz (.cells #[.int .i64 i,.int .i64 y,.int .i64 r1,.int .i64 r2,.int .i64 N.refs,.int .i64 ll,.int .i64 lh,.int .i64 hl,.int .i64 hh] 279 (0,0))):=Hd (by
      rw[gx,gy];have h:=((g5.out.set 1 (.int .i64 y)).set 2 (.int .i64 r1)).set 3 (.int .i64 r2);rw[HN.out.2.2.1] at h;exact⟨h.blk,h.no⟩)
     have H2:Hid (Box o6 wb.drew bo (.cells #[.int .i64 i,.int .i64 N.v,.int .i64 b.lo,.int .i64 b.hi,.int .i64 N.refs] 254 (0,0))):=Hd (by
      rw[gx,gy];have h:=((kZ.out.other (p:=⟨bz,1,none⟩) (u:=.int .i64 y) (Ne.symm gH)).other (p:=⟨bz,2,none⟩) (u:=.int .i64 r1) (Ne.symm gH)).other (p:=⟨bz,3,none⟩) (u:=.int .i64 r2) (Ne.symm gH);rw[HN.out.2.2.1,HN.out.1,HN.out.2.1] at h;exact⟨h.blk,h.no⟩)
     have y1:wo.cell? ⟨bz,1,none⟩=some (.int .i64 N.v):=g5.out.cell 1;have y2:wo.cell? ⟨bz,2,none⟩=some (.int .i64 N.lo):=g5.out.cell 2;have y3:wo.cell? ⟨bz,3,none⟩=some (.int .i64 N.hi):=g5.out.cell 3;have yf:∀ q,wo.frozen? ⟨bz,q,none⟩=false:=fun q=>by simp[World.frozen?,g5.out.blk]
     have Hj:=Hd gX;have H0:=Hd gu;have Hl:=Hd gy;have Hk:=Hd gx;have HJ:=Hd gH;clear gX gf ha gu gH gy gx HV kl x0 x1 x2 x3 x4 xf;rw[<- Hj.out,<- H0.out];go_upto_region 24 with fail;rw[<- Hl.out,<- Hk.out];obtain⟨s9,h9⟩:=kz.out.st;obtain⟨k0,k1,k2,k3,k4,kf⟩:=cells5 h9.blk;have hX:d8.pool.tk i=true:=by
      have h1:Zab d8 i=some b:=hE.out.mid.keep i b gm.out.node kC.out;exact(Za8 h1).1
     have ky:=Hd (hE.out.turned (n:=⟨i,y,r1,r2,N.refs⟩) g1.out HT.out kC.out gm.out.node (kE.out.1 ▸ gp.out.e1) (kE.out.1 ▸ gp.out.e2) gp.out.reg gp.out.ne gp.out.val rfl HN.out.2.2.2 (h9.pool.tk_lt hX).2);have ka:=Hd (Zy0 (n:=⟨i,y,r1,r2,N.refs⟩) kz.out h9 hX g9.out H2.out);unfold Za5 at ka;have n0:wb.cell? ⟨bz,0,none⟩=some (.int .i64 i):=g9.out.cell 0;have n1:wb.cell? ⟨bz,1,none⟩=some (.int .i64 y):=g9.out.cell 1;have n2:wb.cell? ⟨bz,2,none⟩=some (.int .i64 r1):=g9.out.cell 2;have n3:wb.cell? ⟨bz,3,none⟩=some (.int .i64 r2):=g9.out.cell 3;have n4:wb.cell? ⟨bz,4,none⟩=some (.int .i64 N.refs):=g9.out.cell 4;have k1':wb.cell? ⟨sb,1,none⟩=some (.pointer (some ⟨s9.pb,0,none⟩)):=k1;have Ht:Hid (s9.ts.length=d0.vars.length):=Hd (by rw[h9.tlen,hE.out.vlen]);clear k0 k1 k2 k3 k4 kf h9 hX y1 y2 y3 yf;refine Zap (fun W:World=>W=wb.drew) true 6 [(0,false),(1,false),(2,false),(3,false),(4,false),(5,false),(6,true)] (by kernel_rfl) (by kernel_rfl) rfl ?_;simp only[planned,Zc8]
     iterate 6
      refine Zaq rfl ?_;apply Exists.intro;refine⟨fun w' hw=>?_,?_⟩
      . subst hw;go_simp;rfl
      simp only[Zah]
     refine Zdl rfl (by go_simp) ka.out ?_;rintro _ w10 ⟨rfl,gO,hn,gN,hK⟩;simp only[Zah];refine Zbs ?_;clear n0 n1 n2 n3 n4 k1';have hY:=hn.below gO.lt (Zaf w10 1);have hI:y<s9.ts.length:=by rw[Ht.out];exact g1.out.facts.2.1
     have H5:(y:Int)<s9.ts.length:=by omega
     obtain⟨gt,ct,gA,celly,H9⟩:=hn.tabAt (v:=y) (by show y<d8.vars.length;rw[hE.out.vlen];exact g1.out.facts.2.1);obtain⟨k0,k1,k2,k3,k4,kf⟩:=cells5 hn.blk;rw[gA] at k2;have kQ:=Hd (Zyz (id:=i) (gO.below (Zaf w10 1)) hY hI ky.out.1 (gN.chg (Chg.of_below (Zaf w10 1) Zar o6)) (hK.chg (Chg.of_below (Zaf w10 1) Zar o6)));have n0:w10.cell? ⟨bz,0,none⟩=some (.int .i64 i):=gN.cell 0;clear gO hn gN hK hY gA k0 k1 k3 k4 kf hI;go_upto_region 25 with fail;refine Zap (fun W:World=>W=w10.drew) true 12 [(0,false),(1,false),(2,false),(3,false),(4,false),(5,false),(6,false),(7,false),(8,false),(9,false),(10,false),(11,false),(12,true)] (by kernel_rfl) (by kernel_rfl) rfl ?_;simp only[planned,Zc8]
     iterate 12
      refine Zaq rfl ?_;apply Exists.intro;refine⟨fun w' hw=>?_,?_⟩
      . subst hw;go_simp;rfl
      simp only[Zah]
     refine Zdl rfl (by go_simp) kQ.out ?_;rintro _ w11 ⟨rfl,gr,kJ,gM⟩;simp only[Zah];refine Zbs ?_;have kP:=Hd gr;have kL:=Hd gM
     have Hr:=Hd (Zrp gr.st gr.lt g1.out ky.out.2 gm.out.node gm.out.v (.inl rfl) (fun q=>by
      have h1:=g1.out.top q;have h2:toE b.lo q<=1:=by unfold toE;split<;>omega
      have h3:toE b.hi q<=1:=by unfold toE;split<;>omega
      unfold addE;omega) (fun q=>by
      have h1:0<=Za0 d0 q:=by unfold Za0;split<;>omega
      have h3:0<=toE b.hi q:=by unfold toE;split<;>omega
      unfold addE;omega))
     have u2:w11.cell? ⟨bo,2,none⟩=some (.int .i64 b.lo):=gM.cell 2;clear gr kJ gM n0 k2 celly H5;go_wp2_with fail;refine Hr.out.mono ?_;rintro q w12 ⟨rfl,d12,st12,lt12,m12,c12⟩;have kO:=Hd (kP.out.move st12 lt12 c12 (fun _ h=>h));have hJ:=kL.out.chg c12
     have kS:=Hd (Zrp st12 lt12 g1.out m12 gm.out.node gm.out.v (.inr rfl) (fun q=>by
      have h1:=g1.out.top q;have h2:toE b.lo q<=1:=by unfold toE;split<;>omega
      have h3:toE b.hi q<=1:=by unfold toE;split<;>omega
      have h4:0<=toE b.lo q:=by unfold toE;split<;>omega
      unfold addE;omega) (fun q=>by
      have h1:0<=Za0 d0 q:=by unfold Za0;split<;>omega
      unfold addE;omega))
     have u3:w12.cell? ⟨bo,3,none⟩=some (.int .i64 b.hi):=hJ.cell 3;clear st12 lt12 m12 c12 hJ u2;go_wp2_with fail;refine kS.out.mono ?_;rintro q w13 ⟨rfl,d13,st13,lt13,m13,c13⟩;rw[Zt2] at m13;have hD:=Hd (And.intro (kO.out.move st13 lt13 c13 (fun _ h=>h)) (m13.congr Hm.out));clear st13 lt13 m13 c13 u3;go_wp2_with fail;go_roundw
     case rel=>exact⟨j+1,Nat.succ_le_of_lt gL.out,by go_num,Hd ⟨_,_,_,hD.out.1,hD.out.2⟩⟩
     case measure =>
      have:=gL.out;have:=hG.out;simp[intOf];omega
    .
     obtain rfl:j=ids.length:=by omega
     obtain⟨oe,de,Ve,h6,hS⟩:=hC.out;have hQ:=hS.final g1.out.v g1.out.ok g1.out.lev (fun i hT=>by rw[List.take_length];exact(gU.out i).2 hT);have Hx:=Hd (Zhl h6.st h6.lt hQ)
     have kU:Hid (∀ w' o' d',Zav o' w' sb d'->Zaj o' w'->Zbg de d'->Chg Zar oe o' wr w'->P (.returned (.int .i64 0)) w'):=Hd (by
      intro w' o' d' st' lt' cr' ch';rw[kB.out];exact⟨o',d0,ke.out,lt',kH.out.trans (h6.chg.trans ch'),.inr ⟨rfl,d',Ve,st',hS.out hQ cr'⟩⟩)
     clear h6 hS hQ hC;go_wp2_with fail;refine Hx.out.mono ?_;rintro q w14 ⟨rfl,o14,d14,st14,lt14,cr14,ch14⟩;have HF:=Hd (kU.out w14 o14 d14 st14 lt14 cr14 ch14);clear st14 lt14 cr14 ch14;go_wp2_with fail;exact HF.out
open Go.RowKit
section
variable {m:ManD}{V V':Nat->BF}{d0 d':Zag}{k:Nat}
theorem Zcb.big (h:Zcb m){p:Int×Nat}(hp:p∈m.hs):p.2/2=0\/1<p.1:=by
 by_cases h1:1<p.1
 . exact .inr h1
 .
  left;have g1:=h.lt p hp;have hu:∀ q∈m.hs,q.1=p.1->q=p:=by
   intro q hq e;have g0:=h.nodup;have h1:=Zcx (l:=encH m.hs) (Zer g0) (List.mem_map.2 ⟨q,hq,rfl⟩);have h2:=Zcx (l:=encH m.hs) (Zer g0) (List.mem_map.2 ⟨p,hp,rfl⟩);rw[e,h2] at h1;have e2:(p.2:Int)=(q.2:Int):=by injection h1 with h1;injection h1
   exact Prod.ext e (by omega)
  rcases(by omega:p.1=0\/p.1=1) with e|e
  . rw[<- hu _ h.zero e.symm];rfl
  . rw[<- hu _ h.one e.symm];rfl
theorem Zry {hs:List (Int×Nat)}{p:Int×Nat}(hp:p∈hs)(h1:1<p.1):0<Zb8 hs (p.2/2):=by
 unfold Zb8;refine List.length_pos_of_mem (List.mem_filter.2 ⟨hp,?_⟩);simp[h1]
theorem Ya4 (hs:List (Int×Nat))(i:Nat):Zb8 hs i<=hs.length:=List.length_filter_le _ _
theorem Zzf (h:Zcb m)(i:Nat):Za0 m.d i<=m.next:=by
 cases hb:Zab m.d i with
 | none=>rw[Zes hb];have:=h.next;omega
 | some b =>
   rw[h.refs i b hb];have h1:=Ya4 m.hs i;have h2:=h.len;omega
theorem Zoy (h:Zcb { m with d:=d0 })(hk:Zan d0 V)(s:Zj6 d0 V k d' V'):Zcb { m with d:=d' }:=by
 have g1:∀ p∈m.hs,okE (Zab d') p.2:=by
  intro p hp;rcases h.ok p hp with h0|⟨b,hb⟩
  . exact .inl h0
  .
   rcases h.big hp with h1|h1
   . exact .inl h1
   . refine .inr (s.live _ b hb ?_);have h2:=h.refs _ b hb;have h3:0<Zb8 m.hs (p.2/2):=Zry hp h1;have h4:Za0 d0 (p.2/2)=(Zb8 m.hs (p.2/2):Int):=h2;omega
 refine⟨h.nodup,h.zero,h.one,h.lt,h.next,g1,h.len,fun i b hb=>?_⟩
 show Za0 d' i=(Zb8 m.hs i:Int)
 rw[s.ext i b hb];cases hn:Zab d0 i with
 | some b0=>exact h.refs i b0 hn
 | none =>
   rw[Zes hn];have hi:i≠0:=by
    rintro rfl;have h0:Zab d' 0=none:=s.ok.dag.none0;have h1:Zab d' 0=some b:=hb;rw[h0] at h1;cases h1
   have:Zb8 m.hs i=0:=by
    unfold Zb8;rw[List.length_eq_zero_iff,List.filter_eq_nil_iff];intro p hp;have ho:=h.ok p hp;simp only[Bool.and_eq_true,decide_eq_true_eq,beq_iff_eq,not_and];rintro _ rfl;rcases ho with h0|⟨b1,g2⟩
    . exact hi h0
    . have g0:Zab d0 (p.2/2)=some b1:=g2;rw[hn] at g0;cases g0
   rw[this];rfl
end
structure Ybh (K:Law)(n room:Nat)(w0:World)(mb:Nat)(fs:List (Int×BF))(nx:Int)(k:Nat)(o:Own)(w:World)(m:ManD)(V:Nat->BF)(e:Ending)(o':Own)(w':World)(m':ManD)(V':Nat->BF):Prop where
 sat:SatE K n (fun _=>True) room w0 mb fs nx w' o' m' V'
 waits:m'.waits=m.waits
 calls:m'.calls=m.calls
 chg:Chg (fun _=>True) o o' w w'
 way:∃ d0,Zbg m.d d0/\((e=.returned (.int .i64 7)/\m'.d=d0/\V'=V/\d0.pool.room<3*d0.pool.many)\/(e=.returned (.int .i64 0)/\Zj6 d0 V k m'.d V'))
section
variable {K:Law}{n:Nat}{Od:List Nat->Prop}{room:Nat}{w0 w w':World}{mb:Nat}{fs:List (Int×BF)}{nx:Int}{o o':Own}{m:ManD}{V:Nat->BF}
theorem Zwl {k:Nat}{s:ManW}{w1:World}(h:SatE K n Od room w0 mb fs nx w o m V)(g1:Zb7 (fun _ _ _ _ _=>False) o w1 mb m s)(g2:Chg (· = .entries) o o w w1)(g3:Zaj o w1)(hk1:k+1<n)(hn:nx<=549755813888) :
 Calls prog 182 #[.pointer (some ⟨s.sb,0,none⟩),.int .i64 k] w1 fun e w'=>∃ o' m' V',Ybh K n room w0 mb fs nx k o w m V e o' w' m' V':=by
 have g0:=h.next
 refine(Znu g1.store g3 h.ok.store k (by rw[h.vars];exact hk1) (fun i=>by have:=Zzf h.ok.handles i;omega)).mono ?_;rintro e w' ⟨o',d0,cr,lt,ch,hw⟩;have hc:Chg (fun _=>True) o o' w w':=g2.any.trans ch.any;have h0:=Zgi h.ok.handles h.ok.store cr;rcases hw with ⟨rfl,st,hr⟩|⟨rfl,d',V',st,so⟩
 . refine⟨o',{ m with d:=d0 },V,⟨⟨s,(g1.setStore g3 st ch).mono fun _ _ _ _ _ e=>e.elim⟩,lt,⟨cr.ok h.ok.store,h0⟩,by dsimp only;rw[cr.vars];exact h.vars,trivial,by dsimp only;rw[cr.room];exact h.room,h.next,h.hs,h.chg.lower (ChgX.of_chg hc NoB) (fun _ e=>e.elim)⟩,rfl,rfl,hc,d0,cr,.inl ⟨rfl,rfl,rfl,hr⟩⟩
 .
  refine⟨o',{ m with d:=d' },V',⟨⟨s,(g1.setStore g3 st ch).mono fun _ _ _ _ _ e=>e.elim⟩,lt,⟨so.ok,Zoy h0 (cr.ok h.ok.store) so⟩,?_,trivial,?_,h.next,?_,h.chg.lower (ChgX.of_chg hc NoB) (fun _ e=>e.elim)⟩,rfl,rfl,hc,d0,cr,.inr ⟨rfl,so⟩⟩
  .
   show d'.vars.length=n
   rw[so.vars,Zin,cr.vars];exact h.vars
  .
   show d'.pool.room=room
   rw[so.room,cr.room];exact h.room
  .
   show m.hs.map (fun p=>(p.1,ef V' p.2))=fs
   rw[Zzg (d:=d0) h0.ok so.val];exact h.hs
end
open Go.RowKit
theorem Znv {o:Own}{w:World}{sb:Nat}{d:Zag}(st:Zav o w sb d)(hs:d.vars.length<=64)(z:Int)(hz:z<0\/(d.vars.length:Int)-1<=z) :
 Calls prog 182 #[.pointer (some ⟨sb,0,none⟩),.int .i64 z] w fun x w'=>x=.returned (.int .i64 2)/\w'=w:=by
 obtain⟨s0,h0⟩:=id st;obtain⟨c0,c1,c2,c3,c4,f0⟩:=cells5 h0.blk;obtain⟨l0,l1,_⟩:=cells2 h0.lev;obtain⟨av,cv,g0⟩:∃ a c,s0.vv=.slice a d.vars.length c:=by
  rcases h0.vars with ⟨_,h1|⟨g,cap,c,hv,_⟩⟩
  . exact⟨_,_,by rw[h1.1,h1.2]⟩
  . exact⟨_,_,hv⟩
 rw[g0] at l0;clear st h0 g0 c1 c2 c3 c4 f0 l1
 by_cases hn:z<0
 .
  clear l0 c0
  go_enter func182,ntmps182
  go_wp2_with fail;go_ret;exact⟨rfl,rfl⟩
 .
  have h1:z>=(d.vars.length:Int)-1:=by omega
  clear hz
  go_enter func182,ntmps182
  go_wp2_with fail;go_ret;exact⟨rfl,rfl⟩
section
variable {K:Law}{n:Nat}{Od:List Nat->Prop}{room:Nat}{w0 w w':World}{mb:Nat}{fs:List (Int×BF)}{nx:Int}{o o':Own}{m:ManD}{V:Nat->BF}
theorem Zs5 (h:SatE K n Od room w0 mb fs nx w o m V)(z:Int)(P:Ending->World->Prop)
 (hsw:∀ s w1,Zb7 (K m.d V) o w mb m s->Zb7 (fun _ _ _ _ _=>False) o w1 mb m s->Chg (· = .entries) o o w w1->Zaj o w1->Calls prog 182 #[.pointer (some ⟨s.sb,0,none⟩),.int .i64 z] w1 fun x w'=>∃ q:Int,x=.returned (.int .i64 q)/\P x w') :
 Calls prog 130 #[.pointer (some ⟨mb,0,none⟩),.int .i64 z] w P:=by
 obtain⟨s,hs⟩:=h.is;obtain⟨c0,c1,c2,c3,c4,c5,f0⟩:=cells6 hs.blk;have HC:=Hd (fun w1=>hsw s w1 hs);have g0:=Hd (wclear h hs (fun _ _ _ _ _=>False));clear h hs hsw
 go_enter func130,ntmps130
 go_wp2_with fail;refine g0.out.mono ?_;rintro x w1 ⟨rfl,g1,g2,g3⟩;obtain⟨d0,d1,d2,d3,d4,d5,f1⟩:=cells6 g1.blk;have g4:=Hd (HC.out w1 g1 g2 g3);clear g1 g2 g3 c0 c1 c2 c3 c4 c5 f0 g0 HC;go_wp2_with fail;refine g4.out.mono ?_;rintro x w2 ⟨q,rfl,hq⟩;have HQ:=Hd hq;clear hq;go_wp2_with fail;exact HQ.out
theorem Zqs (h:SatE K n Od room w0 mb fs nx w o m V){k:Nat}(hk1:k+1<n)(hn:nx<=549755813888) :
 Calls prog 130 #[.pointer (some ⟨mb,0,none⟩),.int .i64 k] w fun e w'=>∃ o' m' V',Ybh K n room w0 mb fs nx k o w m V e o' w' m' V' :=
 Zs5 h k _ fun s w1 _ g1 g2 g3=>(Zwl h g1 g2 g3 hk1 hn).mono fun e w' ⟨o',m',V',hs⟩=>by
  obtain⟨d0,cr,hw⟩:=hs.way;rcases hw with ⟨e1,_⟩|⟨e1,_⟩
  . exact⟨7,e1,o',m',V',hs⟩
  . exact⟨0,e1,o',m',V',hs⟩
end
open Go.RowKit
theorem Zfp (f g:Nat->Int):∀ k,Zaw k (fun i=>f i+g i)=Zaw k f+Zaw k g
 | 0=>by simp[Zaw]
 | k+1=>by simp only[Zaw];rw[Zfp f g k];omega
theorem Zg7 {f g:Nat->Int}:∀ k,(∀ i,i<k->f i<=g i)->Zaw k f<=Zaw k g
 | 0,_=>by simp[Zaw]
 | k+1,h=>by
   have h1:=Zg7 k (fun i hi=>h i (by omega));have h2:=h k (by omega);simp only[Zaw];omega
theorem Zk3 (c:Int)(f:Nat->Int):∀ k,c*Zaw k f=Zaw k (fun i=>c*f i)
 | 0=>by simp[Zaw]
 | k+1=>by simp only[Zaw];rw[Int.mul_add,Zk3 c f k]
theorem Zmg (f:Nat->Nat->Int)(m:Nat):∀ k,Zaw k (fun i=>Zaw m (fun j=>f i j))=Zaw m (fun j=>Zaw k (fun i=>f i j))
 | 0=>by simp only[Zaw];rw[Zdm]
 | k+1=>by
   simp only[Zaw];rw[Zmg f m k,<- Zfp]
theorem Zk4 {g:Nat->Int}(hg:∀ i,0<=g i)(e k:Nat):Zaw k (fun i=>g i*toE e i)<=g (e/2):=by
 by_cases hk:e/2<k
 .
  have h1:=Zdw (f:=fun _=>0) (g:=fun i=>g i*toE e i) (j:=e/2) (fun i hi=>by
   have:toE e i=0:=by unfold toE;rw[if_neg (Ne.symm hi)]
   simp[this]) k hk
  rw[h1,Zdm];have:toE e (e/2)=1:=Zi2 e;simp[this]
 .
  rw[Zba (g:=fun _=>0) k (fun i hi=>by
   have:toE e i=0:=by unfold toE;rw[if_neg (by omega)]
   simp[this]),Zdm]
  exact hg _
def gW (d:Zag)(i:Nat):Int:=match Zab d i with
 | some b=>((2^(d.vars.length-levN d b.v):Nat):Int)-1
 | none=>0
theorem Zgh (d:Zag)(i:Nat):0<=gW d i:=by
 unfold gW;split
 . have:0<2^(d.vars.length-levN d (by assumption:BN).v):=Nat.pow_pos (by decide);omega
 . omega
theorem Ybo (d:Zag)(i l:Nat)(h:∀ b,Zab d i=some b->l<=levN d b.v):gW d i<=((2^(d.vars.length-l):Nat):Int)-1:=by
 unfold gW;split
 .
  rename_i b hb
  have h1:=h b hb;have:2^(d.vars.length-levN d b.v)<=2^(d.vars.length-l):=Nat.pow_le_pow_right (by decide) (by omega);omega
 . have:0<2^(d.vars.length-l):=Nat.pow_pos (by decide);omega
theorem Zxj {d:Zag}{V:Nat->BF}(hk:Zan d V){j:Nat}{b:BN}(hb:Zab d j=some b):gW d (b.lo/2)+gW d (b.hi/2)<=gW d j-1:=by
 have hl:=hk.dag.lt _ (hk.dag.var _ _ hb);have key:∀ e,levN d b.v<lvE d.vars.length (levN d) (Zab d) e->gW d (e/2)<=((2^(d.vars.length-(levN d b.v+1)):Nat):Int)-1:=fun e he=>Ybo d _ _ (fun c hc=>by rw[Zpa hc] at he;omega)
 have h1:=key _ (hk.dag.lvLo _ _ hb);have h2:=key _ (hk.dag.lvHi _ _ hb);have h3:gW d j=((2^(d.vars.length-levN d b.v):Nat):Int)-1:=by unfold gW;rw[hb]
 have h4:d.vars.length-levN d b.v=(d.vars.length-(levN d b.v+1))+1:=by omega
 rw[h3,h4,Nat.pow_succ];omega
theorem Zxt {d:Zag}{V:Nat->BF}(hk:Zan d V)(h0:d.dead=0)(hc:(d.pool.many:Int)=Zaw d.pool.at_.length (fun i=>if d.pool.tk i=true then 1 else 0)) :
 (d.pool.many:Int)<=Zaw d.pool.at_.length (fun i=>gW d i*Za0 d i):=by
 obtain⟨k,g0⟩:∃ k,k=d.pool.at_.length:=⟨_,rfl⟩;rw[<- g0] at hc ⊢;have e1:Zaw k (fun i=>gW d i*(Zaz d i:Int))=Zaw k (fun i=>gW d i*Za0 d i)+Zaw k (fun i=>gW d i*Zaw k (from1 (Zab d) (Zaz d) i)):=by
  rw[<- Zfp];refine Zba k fun i _=>?_
  cases hb:Zab d i with
  | none=>simp[gW,hb]
  | some b=>rw[hk.live.cnt.eq i b hb,Int.mul_add,g0]
 have e2:Zaw k (fun i=>gW d i*Zaw k (from1 (Zab d) (Zaz d) i))=Zaw k (fun j=>Zaw k (fun i=>gW d i*from1 (Zab d) (Zaz d) i j)):=by
  rw[<- Zmg];exact Zba k fun i _=>Zk3 _ _ _
 have e3:Zaw k (fun j=>Zaw k (fun i=>gW d i*from1 (Zab d) (Zaz d) i j))<=Zaw k (fun j=>gW d j + -(if d.pool.tk j=true then 1 else 0)):=by
  refine Zg7 k fun j _=>?_
  cases hb:Zab d j with
  | none =>
    have ht:d.pool.tk j=false:=Zgm hb;rw[Zba (g:=fun _=>0) k (fun i _=>by simp[from1,hb]),Zdm];simp[gW,hb,ht]
  | some b =>
    have ht:d.pool.tk j=true:=(Za8 hb).1;have hp:=Zjt hk.live h0 hb
    rw[Zba (g:=fun i=>gW d i*toE b.lo i+gW d i*toE b.hi i) k (fun i _=>by
     simp only[from1,hb,if_pos hp,Zd4];rw[Int.mul_add]),Zfp,ht,if_pos rfl]
    have h1:=Zk4 (Zgh d) b.lo k;have h2:=Zk4 (Zgh d) b.hi k;have h3:=Zxj hk hb;omega
 have e4:Zaw k (fun i=>gW d i)<=Zaw k (fun i=>gW d i*(Zaz d i:Int)):=by
  refine Zg7 k fun i _=>?_
  cases hb:Zab d i with
  | none=>simp[gW,hb]
  | some b =>
    have hp:=Zjt hk.live h0 hb;have hg:=Zgh d i;have h1:(1:Int)<=(Zaz d i:Int):=by omega
    have h2:=Int.mul_le_mul_of_nonneg_left h1 hg;omega
 have e5:Zaw k (fun j=>gW d j + -(if d.pool.tk j=true then 1 else 0))=Zaw k (fun j=>gW d j)+Zaw k (fun j=>-(if d.pool.tk j=true then 1 else 0)):=Zfp _ _ _;have e6:Zaw k (fun j=>-(if d.pool.tk j=true then (1:Int) else 0)) = -Zaw k (fun j=>if d.pool.tk j=true then 1 else 0):=by
  have:=Zk3 (-1) (fun j=>if d.pool.tk j=true then (1:Int) else 0) k;rw[Zba (g:=fun i=>-1*if d.pool.tk i=true then (1:Int) else 0) k (fun i _=>by omega),<- this];omega
 omega
theorem Zrz (d:Zag)(k:Nat):∀ hs:List (Int×Nat),Zaw k (fun i=>gW d i*(Zb8 hs i:Int))<=hs.length*((2^d.vars.length:Nat):Int)
 | []=>by
   rw[Zba (g:=fun _=>0) k (fun i _=>by simp[Zb8]),Zdm];simp
 | p::l=>by
   have ih:=Zrz d k l;have h1:Zaw k (fun i=>gW d i*(Zb8 (p::l) i:Int))<=Zaw k (fun i=>gW d i*(Zb8 l i:Int)+gW d i*toE p.2 i):=by
    refine Zg7 k fun i _=>?_
    rw[<- Int.mul_add];refine Int.mul_le_mul_of_nonneg_left ?_ (Zgh d i);unfold Zb8 toE
    by_cases e:p.2/2=i
    .
     rw[if_pos e];have:(List.filter (fun p=>decide (1<p.1)&&p.2/2 == i) (p::l)).length<=(List.filter (fun p=>decide (1<p.1)&&p.2/2 == i) l).length+1:=by
      rw[List.filter_cons];split<;>simp
     omega
    . rw[if_neg e,List.filter_cons_of_neg (by simp[e])];omega
   have h2:=Zk4 (Zgh d) p.2 k;have h3:=Ybo d (p.2/2) 0 (fun _ _=>Nat.zero_le _);rw[Zfp] at h1;rw[List.length_cons,Int.natCast_add,Int.add_mul];simp only[Nat.sub_zero] at h3;have h4:((1:Nat):Int)*((2^d.vars.length:Nat):Int)=((2^d.vars.length:Nat):Int):=by simp
   omega
section
variable {K:Law}{n:Nat}{Od:List Nat->Prop}{room:Nat}{w0 w w':World}{mb:Nat}{fs:List (Int×BF)}{nx:Int}{o o':Own}{m m':ManD}{V V':Nat->BF}
theorem SatE.few (h:SatE K n Od room w0 mb fs nx w o m V)(h0:m.d.dead=0):m.d.pool.many<=fs.length*2^n:=by
 obtain⟨s,hs⟩:=h.is;obtain⟨s2,h2⟩:=hs.store;have h1:=Zxt h.ok.store h0 h2.pool.cnt;have h3:=Zrz m.d m.d.pool.at_.length m.hs;have h4:Zaw m.d.pool.at_.length (fun i=>gW m.d i*Za0 m.d i)=Zaw m.d.pool.at_.length (fun i=>gW m.d i*(Zb8 m.hs i:Int)):=by
  refine Zba _ fun i _=>?_
  cases hb:Zab m.d i with
  | none=>simp[gW,hb]
  | some b=>rw[h.ok.handles.refs i b hb]
 have h5:fs.length=m.hs.length:=by rw[<- h.hs,List.length_map]
 rw[h5,<- h.vars];have h6:((m.hs.length*2^m.d.vars.length:Nat):Int)=m.hs.length*((2^m.d.vars.length:Nat):Int):=by rw[Int.natCast_mul]
 omega
end
open Go.RowKit
theorem Zw8 (zs:List Int)(x:Int)(i:Nat):Zue zs x i=bub zs i (Zfm zs x-i).toNat:=rfl
theorem Zuf (zs:List Int)(i d:Nat):(bub zs i (d+1)).2=((i+d:Nat):Int)::(bub (Zpy zs ((i+d:Nat):Int)) i d).2:=rfl
def Zi5 (a b:List Int)(w:World)(e:Ending)(w':World):Prop :=
 ∃ v,e=.returned (.tuple #[v,.int .i64 (Zdv a b)])/\OwnI w' w.heap.size v (Zey a b)/\Below w.heap.size w w'
theorem Zf2 {a b r:List Int}{w w':World}{v:Value}{E:Int}(hE:Zdv a b=E)(hr:Zey a b=r)(hs:OwnI w' w.heap.size v r)(hb:Below w.heap.size w w') :
 Zi5 a b w (.returned (.tuple #[v,.int .i64 E])) w':=⟨v,by rw[hE],by rw[hr];exact hs,hb⟩
def metB (zs:List Int)(k:Nat)(v:Int):Bool:=decide (∃ j,j<k/\at0 zs j=v)
theorem Zvr (zs:List Int)(v:Int):metB zs 0 v=false:=by simp[metB]
theorem Zpe (zs:List Int)(k:Nat):metB zs (k+1) (at0 zs k)=true:=by simp only[metB,decide_eq_true_eq];exact⟨k,by omega,rfl⟩
theorem Zjd (zs:List Int)(k:Nat)(v:Int)(h:at0 zs k≠v):metB zs (k+1) v=metB zs k v:=by
 simp only[metB,decide_eq_decide];constructor
 .
  rintro⟨j,hj,he⟩;refine⟨j,?_,he⟩
  by_cases e:j=k
  . subst e;exact(h he).elim
  . omega
 . rintro⟨j,hj,he⟩;exact⟨j,by omega,he⟩
theorem Zvq {zs:List Int}{k:Nat}{v:Int}(h:metB zs k v=true):∃ j,j<k/\at0 zs j=v:=by simpa [metB] using h
theorem Zs7 {zs:List Int}{k:Nat}{v:Int}(h:metB zs k v=false):∀ j,j<k->at0 zs j≠v:=by
 intro j hj he;have:metB zs k v=true:=by simp only[metB,decide_eq_true_eq];exact⟨j,hj,he⟩
 rw[h] at this;cases this
def Marks (w:World)(g:Nat)(zs:List Int)(k base:Nat):Prop :=
 ∃ cur,w.heap[g]?=some (.cells cur 182 (0,0))/\cur.size=64/\∀ u,u<64->cur[u]?=some (.bool (metB zs k ((base+u:Nat):Int)))
theorem Marks.cell {w:World}{g:Nat}{zs:List Int}{k base:Nat}(h:Marks w g zs k base)(u:Nat)(hu:u<64):w.cell? ⟨g,u,none⟩=some (.bool (metB zs k ((base+u:Nat):Int))):=by
 obtain⟨cur,h1,h2,h3⟩:=h;simp only[World.cell?,h1];exact h3 u hu
theorem Marks.frozen {w:World}{g:Nat}{zs:List Int}{k base:Nat}(h:Marks w g zs k base)(u:Nat):w.frozen? ⟨g,u,none⟩=false:=by
 obtain⟨cur,h1,h2,h3⟩:=h;simp[World.frozen?,h1]
theorem Marks.step_out {w:World}{g:Nat}{zs:List Int}{k base:Nat}(h:Marks w g zs k base)(hx:¬ ((base:Int)<=at0 zs k/\at0 zs k<base+64)):Marks w g zs (k+1) base:=by
 obtain⟨cur,h1,h2,h3⟩:=h;exact⟨cur,h1,h2,fun u hu=>by rw[Zjd _ _ _ (by omega)];exact h3 u hu⟩
theorem Marks.step_in {w:World}{g:Nat}{zs:List Int}{k base u:Nat}(h:Marks w g zs k base)(hx:at0 zs k=((base+u:Nat):Int))(hu:u<64) :
 Marks (w.setCell ⟨g,u,none⟩ (.bool true)) g zs (k+1) base:=by
 obtain⟨cur,h1,h2,h3⟩:=h;refine⟨cur.setIfInBounds u (.bool true),?_,by simpa using h2,fun v hv=>?_⟩
 . simp[World.setCell,Array.getElem?_modify,h1]
 .
  by_cases e:v=u
  . subst e;rw[Array.getElem?_setIfInBounds_self_of_lt (by omega),<- hx,Zpe]
  . rw[Array.getElem?_setIfInBounds_ne (by omega),Zjd _ _ _ (by omega)];exact h3 v hv
theorem Zvp (w:World)(zs:List Int)(base:Nat)(cs:List Value)(hcs:cs=List.replicate 64 (.bool false)):Marks (w.alloc (.cells cs.toArray 182)) w.heap.size zs 0 base :=
 ⟨_,heap_alloc_new w _,by simp[hcs],fun u hu=>by rw[Zvr,List.getElem?_toArray,hcs,List.getElem?_replicate,if_pos hu]⟩
def Zj3 (zs:List Int)(B:Nat):Prop :=
 1<=B->(∀ j,j<zs.length->0<=at0 zs j/\at0 zs j<zs.length)/\∀ i,i<zs.length->∀ l,l<i->at0 zs l=at0 zs i->(B:Int)<=at0 zs i
def Zj2 (zs:List Int)(B k:Nat):Prop :=
 (∀ j,j<k->0<=at0 zs j/\at0 zs j<zs.length)/\(∀ i,i<k->∀ l,l<i->at0 zs l=at0 zs i->¬ ((B:Int)<=at0 zs i/\at0 zs i<(B:Int)+64))
theorem Zps (zs:List Int):Zj3 zs 0:=fun h=>by omega
theorem Zpq (zs:List Int)(B:Nat):Zj2 zs B 0:=⟨by omega,by omega⟩
theorem Zgq {zs:List Int}{B k:Nat}(h:Zj2 zs B k)(h1:0<=at0 zs k)(h2:at0 zs k<zs.length)
 (h3:¬ ((B:Int)<=at0 zs k/\at0 zs k<(B:Int)+64)\/metB zs k (at0 zs k)=false):Zj2 zs B (k+1):=by
 refine⟨fun j hj=>?_,fun i hi l hl he=>?_⟩
 .
  by_cases e:j=k
  . subst e;exact⟨h1,h2⟩
  . exact h.1 j (by omega)
 .
  by_cases e:i=k
  .
   subst e;rcases h3 with h3|h3
   . exact h3
   . exact(Zs7 h3 l hl he).elim
  . exact h.2 i (by omega) l hl he
theorem Zpr {zs:List Int}{B:Nat}(h:Zj3 zs B)(hi:Zj2 zs B zs.length):Zj3 zs (B+64):=by
 refine fun _=>⟨hi.1,fun i g0 l hl he=>?_⟩
 have h2:=hi.2 i g0 l hl he;have h3:=(hi.1 i g0).1
 by_cases hB:1<=B
 . have:=(h hB).2 i g0 l hl he;omega
 . omega
theorem Zpp {zs:List Int}{B:Nat}(h:Zj3 zs B)(hB:zs.length<=B):Zex zs=true:=by
 rw[Zmd]
 by_cases h0:1<=B
 . obtain⟨h1,h2⟩:=h h0;exact⟨h1,fun i hi k hk he=>by have:=h2 i hi k hk he;have:=(h1 i hi).2;omega⟩
 . exact⟨by omega,by omega⟩
theorem Zgp {zs:List Int}{k:Nat}(hk:k<zs.length)(h:¬ (0<=at0 zs k/\at0 zs k<zs.length)):Zex zs=false:=Zjf fun hh=>h (hh.1 k hk)
theorem Znk {zs:List Int}{k:Nat}(hk:k<zs.length)(h:metB zs k (at0 zs k)=true):Zex zs=false:=by
 obtain⟨j,hj,he⟩:=Zvq h;exact Zjf fun hh=>hh.2 k hk j hj he
theorem Zcj (a:Option Addr)(c:Nat)(zs:List Int)(w:World)(h:Zay w a zs)(hlen:zs.length<1000000) :
 Calls prog 62 #[.slice a zs.length c] w fun e w'=>e=.returned (.bool (Zex zs))/\Below w.heap.size w w':=by
 obtain⟨hl,hc⟩:=h;have gh:Hid (∀ k,k<zs.length->∃ b off,a=some ⟨b,off,none⟩/\b<w.heap.size/\w.cell? ⟨b,off+k,none⟩=some (.int .i64 (at0 zs k))):=fun k hk=>by
  obtain⟨b,off,h1,h2⟩:=hc k hk;exact⟨b,off,h1,Zaa h2,h2⟩
 clear hc
 go_enter func62,ntmps62
 go_wp2
 go_loopw [3] (fun s3 wr=>∃ B:Nat,s3=.int .i64 B/\B<=zs.length+63/\Zj3 zs B/\Below w.heap.size w wr/\w.heap.size<=wr.heap.size) (fun i _=>zs.length+64-(intOf i).toNat)
 case atStart=>exact⟨0,rfl,by omega,Zps zs,Below.refl _ _,Nat.le_refl _⟩
 case round =>
  obtain⟨B,rfl,hB,hrel,g9,ga⟩:=hrel;have HR:=Hd hrel;clear hrel
  by_cases gm:B<zs.length
  .
   go_wp2
   obtain⟨wo,rfl⟩:∃ wo:World,wo=wr:=⟨_,rfl⟩
   go_loopw [16] (fun i wi=>∃ k:Nat,k<=zs.length/\i=.int .i64 k/\Zj2 zs B k/\Marks wi wo.heap.size zs k B/\Below w.heap.size w wi/\w.heap.size<=wi.heap.size) (fun i _=>zs.length-(intOf i).toNat)
   case atStart=>exact⟨0,by omega,rfl,Zpq zs B,Zvp _ _ _ _ rfl,g9.alloc ga _,by simp;omega⟩
   case round =>
    obtain⟨k,hk,rfl,gb,hm,g0,g2⟩:=hrel;have g4:=Hd gb;have HM:=Hd hm;clear gb hm
    by_cases g3:k<zs.length
    .
     obtain⟨b,off,rfl,gg,gd⟩:=gh.out k g3;have gk:=(g0.cell (p:=⟨b,off+k,none⟩) gg).trans gd;clear gd
     by_cases hx:0<=at0 zs k/\at0 zs k<zs.length
     .
      obtain⟨g6,g5⟩:=hx
      by_cases g1:(B:Int)<=at0 zs k/\at0 zs k<(B:Int)+64
      .
       obtain⟨gj,gi⟩:=g1;have g7:((at0 zs k).toNat-B)<64:=by omega
       have g8:at0 zs k=((B+((at0 zs k).toNat-B):Nat):Int):=by omega
       have ge:=HM.out.cell _ g7;have gq:=HM.out.frozen ((at0 zs k).toNat-B);rw[<- g8] at ge;have HU:=Hd g8
       generalize gc:metB zs k (at0 zs k)=mb at ge
       have gf:=Hd gc;clear gc g8;cases mb
       .
        go_wp2
        go_roundw
        case rel=>exact⟨k+1,by omega,by go_num,Zgq g4.out g6 g5 (.inr gf.out),HM.out.step_in HU.out g7,g0.setCell ga _,by simp;omega⟩
        case measure=>simp[intOf];omega
       .
        go_wp2
        go_ret;exact⟨Zdu (Znk g3 gf.out).symm,g0⟩
      .
       have HW:=Hd g1
       by_cases gn:at0 zs k<(B:Int)
       .
        clear g1
        go_wp2
        go_roundw
        case rel=>exact⟨k+1,by omega,by go_num,Zgq g4.out g6 g5 (.inl HW.out),HM.out.step_out HW.out,g0,g2⟩
        case measure=>simp[intOf];omega
       .
        have go:(B:Int)+64<=at0 zs k:=by omega
        clear g1
        go_wp2
        go_roundw
        case rel=>exact⟨k+1,by omega,by go_num,Zgq g4.out g6 g5 (.inl HW.out),HM.out.step_out HW.out,g0,g2⟩
        case measure=>simp[intOf];omega
     .
      have HX:=Hd hx
      by_cases gl:at0 zs k<0
      .
       clear hx
       go_wp2
       go_ret;exact⟨Zdu (Zgp g3 HX.out).symm,g0⟩
      .
       have gp:(zs.length:Int)<=at0 zs k:=by omega
       clear hx
       go_wp2
       go_ret;exact⟨Zdu (Zgp g3 HX.out).symm,g0⟩
    .
     obtain rfl:k=zs.length:=by omega
     go_wp2
     go_roundw
     case rel=>exact⟨B+64,by go_num,by omega,Zpr HR.out g4.out,g0,g2⟩
     case measure=>simp[intOf];omega
  .
   go_wp2
   go_ret;exact⟨Zdu (Zpp HR.out (by omega)).symm,g9⟩
theorem Zlb {ops:Array Oper}{rest:List Oper}{o:Oper}{a:Act}{Q:Exit->Act->World->Prop}{wr:World}(hgd:o.guard=none)(d s:Operand)
 (ho:o.op=.call { callee:=.builtin .copy,args:=#[d,s],argTypes:=#[23,23] })
 (base g:Nat) (w0:World) (zs:List Int) (xs:List Value) (ao:Option Addr) (c:Nat) (hd:a.eval d=.slice (some ⟨g,0,none⟩) zs.length zs.length) (hs:a.eval s=.slice ao zs.length c)
 (hown:wr.ownsRow base 3 1 (.slice (some ⟨g,0,none⟩) zs.length zs.length) zs.length xs) (hzs:Zay wr ao zs) (hb:Below base w0 wr)
 (h:∀ v' w',OwnI w' base (.slice (some ⟨g,0,none⟩) zs.length zs.length) zs->Below base w0 w'->base<=w'.heap.size->wpList prog ops Q rest (a.put o.dst v') w') :
 wpList prog ops Q (o::rest) a wr:=by
 obtain⟨g9,hx⟩:=hown;rcases hx with ⟨hv,_⟩|⟨g',cap,cur,hv,g2,hg,ga,g5,g1,g8⟩
 . cases hv
 .
  simp only[Value.slice.injEq,Option.some.injEq,Addr.mk.injEq,and_true,true_and] at hv;obtain⟨rfl,rfl⟩:=hv;refine wpList_copy_splice (w:=wr) hgd d s 23 23 ho 3 underlying23 (by obtain⟨i,hi,_,g4,_⟩:=info_parts Zis;rw[hi];simp[g4])
   _ _ _ _ _ _ hd hs g 0 cur.toList 3 (by simpa using hg) (Za1 zs) (by simp[Za1]) ?_ (by simp[Za1,g1]) (ints_oneCell .i64 zs) base w0 hb g2 ?_
  .
   intro hp;rw[Zgj] at hp;obtain⟨b,off,rfl,_⟩:=hzs.cells 0 hp;refine⟨rfl,_,rfl,fun j v hj=>?_⟩;have g0:j<zs.length:=by
    rcases Nat.lt_or_ge j zs.length with h'|h'
    . exact h'
    . simp[Za1,List.getElem?_eq_none h'] at hj
   obtain⟨b',off',g7,hc⟩:=hzs.cells j g0;cases g7;simp[Za1,getElem?_at0 g0] at hj;subst hj;have g3:(⟨b,off,none⟩:Addr).add j=⟨b,off+j,none⟩:=by unfold Addr.add;split<;>simp_all
   rw[g3];exact hc
  .
   intro w' hh g6;refine h _ w' ⟨by simp[Za1],.inr ⟨g,_,(Za1 zs).toArray,rfl,g2,?_,Nat.le_refl _,g5,by simp[Za1],by simp[Za1,List.take_of_length_le]⟩⟩ g6 ?_
   .
    have:=hh.out;rw[this];have hl:cur.toList.length=zs.length:=by simp[g1]
    simp[splice,Za1,List.drop_eq_nil_of_le,hl]
   . have h1:=hh.out;have:=(Array.getElem?_eq_some_iff.1 h1).1;omega
theorem Zod (a:Option Addr)(c:Nat)(zs:List Int)(w:World)(h:Zay w a zs)(hlen:zs.length<1000000) :
 Calls prog 176 #[.slice a zs.length c] w fun e w'=>∃ g,e=.returned (.slice (some ⟨g,0,none⟩) zs.length zs.length)/\OwnI w' w.heap.size (.slice (some ⟨g,0,none⟩) zs.length zs.length) zs/\Below w.heap.size w w':=by
 obtain⟨i,hi,hz,g3,g4⟩:=info_parts Zis;have HI:=Hd h;clear h
 go_enter func176,ntmps176
 go_wp2_with (first
  | (at_make;refine wpList_make_full _ rfl _ _ 23 rfl w.heap.size 3 i (.int .i64 0) 1 underlying23 hi hz g3 .i64 .i64 _ _ zs.length rfl rfl rfl rfl (by rw[g4];omega) (by unfold maxLen;omega) (Nat.le_refl _) ?_;intro w1 g1 g2)
  | (with_reducible refine Zlb rfl (.tmp 7) (.tmp 8) rfl w.heap.size w.heap.size w zs _ a c rfl rfl (by exact g1) (HI.out.keep (Zc5 g2) (by simp)) ((Below.refl _ _).grown g2 (Nat.le_refl _) (by simp)) ?_;intro v2 w2 g0 g5 g6))
 go_ret;exact⟨_,rfl,g0,g5⟩
theorem Zu9 (a:Option Addr)(c:Nat)(zs:List Int)(x:Int)(w:World)(h:Zay w a zs) :
 Calls prog 233 #[.slice a zs.length c,.int .i64 x] w fun e w'=>e=.returned (.int .i64 (Zfm zs x))/\∃ n,w'=w.drewN n:=by
 obtain⟨hl,hc⟩:=h;have HC:=Hd hc;clear hc
 go_enter func233,ntmps233
 go_wp2
 go_loop [8] (fun i=>∃ k:Nat,k<=zs.length/\i=.int .i64 k/\∀ j,j<k->at0 zs j≠x) (fun i=>zs.length-(intOf i).toNat)
 case atStart=>exact⟨0,Nat.zero_le _,rfl,by omega⟩
 case round =>
  obtain⟨k,hk,rfl,hrel⟩:=hrel;have HR:=Hd hrel;clear hrel
  by_cases g0:k<zs.length
  .
   obtain⟨b,off,rfl,g1⟩:=HC.out k g0
   by_cases hx:at0 zs k=x
   .
    have H1:(x == at0 zs k)=true:=by simpa using hx.symm
    have HX:=Hd hx;clear hx
    go_wp2
    go_ret;exact⟨Zq1 (Zpj g0 HX.out HR.out).symm,0,rfl⟩
   .
    have H1:(x == at0 zs k)=false:=by simpa using(fun e=>hx e.symm)
    go_wp2
    go_round
    case rel=>exact⟨k+1,by omega,by go_num,fun j hj=>by
     by_cases e:j=k
     . subst e;exact hx
     . exact HR.out j (by omega)⟩
    case measure=>simp[intOf];omega
  .
   go_wp2
   go_ret;exact⟨Zq1 (Zqx (fun j hj=>HR.out j (by omega))).symm,0,rfl⟩
theorem OwnI.len {w:World}{base n c:Nat}{a:Option Addr}{zs:List Int}(h:OwnI w base (.slice a n c) zs):n=zs.length:=by
 rcases h.2 with ⟨hv,h0⟩|⟨g,cap,cur,hv,_⟩
 . simp only[Value.slice.injEq] at hv;omega
 . simp only[Value.slice.injEq] at hv;omega
theorem OwnI.intsAt {w:World}{base n c:Nat}{a:Option Addr}{zs:List Int}(h:OwnI w base (.slice a n c) zs)(hl:zs.length<=9223372036854775807):Zay w a zs:=by
 obtain rfl:=h.len;exact Zhc hl h
theorem Zxm {a:Option Addr}{n c:Nat}{zs:List Int}{x:Int}{w:World}(hn:n=zs.length)(h:Zay w a zs) :
 Calls prog 233 #[.slice a n c,.int .i64 x] w fun e w'=>e=.returned (.int .i64 (Zfm zs x))/\∃ n,w'=w.drewN n:=by
 subst hn;exact Zu9 a c zs x w h
theorem Zng (va vb:Value)(xs ys:List Int)(w:World)(h:SliceIs w va xs)(h':SliceIs w vb ys)(hlen:xs.length<=1000)(hlen':ys.length<=1000) :
 Calls prog 211 #[va,vb] w (Zi5 xs ys w):=by
 obtain⟨a,c,rfl,ha,gR⟩:=h;obtain⟨b,c',rfl,hb,gQ⟩:=h';have HA:=Hd ha;have HB:=Hd hb;clear ha hb gR gQ
 by_cases hr:Zex xs=true
 .
  by_cases g1:Zex ys=true
  .
   by_cases hl:xs.length=ys.length
   .
    have HE:Hid (Zdv xs ys=0):=by unfold Zdv;rw[if_pos ⟨hr,g1⟩,if_pos hl];rfl
    have HF:Hid (Zey xs ys=Zil xs ys 0):=by unfold Zey;rw[if_pos ⟨hr,g1,hl⟩];rfl
    have HR:=Hd hr;have g8:=Hd g1;have H3:((xs.length:Int) != ys.length)=false:=by simp[hl]
    clear hr g1 hl
    go_enter func211,ntmps211
    go_wp2_with fail;refine(Zcj _ _ xs _ HA.out (by omega)).mono ?_;rintro e w1 ⟨rfl,g0⟩;rw[HR.out];go_wp2_with fail;refine(Zcj _ _ ys _ (HB.out.below g0) (by omega)).mono ?_;rintro e w2 ⟨rfl,g7⟩;rw[g8.out];have g4:Below w.heap.size w w2:=g0.trans (g7.mono g0.size);go_wp2_with fail;refine(Zod _ _ xs _ (HA.out.below g4) (by omega)).mono ?_;rintro e w3 ⟨g,rfl,gb,gl⟩;have ga:=g4.size;have hg:w2.heap.size<=g:=(gb.lt g rfl).1;have h3:Below w.heap.size w w3:=g4.trans (gl.mono ga);have gL:w2.heap.size<=w3.heap.size:=gl.size;go_wp2_with fail
    go_loopw [6,30] (fun s6 s30 wr=>∃ (k:Nat) (cur out:List Int),k<=ys.length/\s30=.int .i64 k/\OwnI wr w2.heap.size (.slice (some ⟨g,0,none⟩) xs.length xs.length) cur/\cur.length=xs.length/\OwnI wr w2.heap.size s6 out/\s6.ownBlock≠some g/\out.length<=k*1000/\out++Zil cur (ys.drop k) k=Zil xs ys 0/\w2.heap.size<=wr.heap.size/\Below w2.heap.size w2 wr) (fun _ s30 _=>ys.length-(intOf s30).toNat)
    case atStart=>exact⟨0,xs,[],by omega,rfl,gb,rfl,Zjx _ _,by simp[Value.ownBlock],by simp,by simp,gL,gl⟩
    case round =>
     obtain⟨k,cur,out,hk,rfl,gj,gv,ge,gs,hd,gq,gK,g9⟩:=hrel;have gz:=Hd gq;have gm:=Hd gv;have gZ:=Hd gs;have h5:cur.length<=1000:=by omega
     clear gq gv gs;have h1:=Hd (HB.out.below (g4.trans (g9.mono ga)))
     by_cases gt:k<ys.length
     .
      obtain⟨bb,off,rfl,h2⟩:=h1.out.cells k gt;have h0:=Hd (Zq3 cur ys k gt);have HCI:=Hd (gj.intsAt (by omega));go_wp2_with fail;refine(Zxm gm.out.symm (HCI.out.drewN 0)).mono ?_;rintro e w' ⟨rfl,n,rfl⟩;have gr:=Zv4 cur (at0 ys k);have hp2:=Zv5 cur (at0 ys k);have gE:=Hd (Zw8 cur (at0 ys k) k)
      generalize Zfm cur (at0 ys k)=p at gr hp2 gE ⊢
      go_wp2_with fail;have gO:p<xs.length\/p<=0:=by have:=gm.out;omega
      obtain⟨N,F,HN⟩:∃ (N F:List Int),Hid (N=(bub cur k (p-k).toNat).1/\F=out++(bub cur k (p-k).toNat).2):=⟨_,_,rfl,rfl⟩
      go_loopw [6,10] (fun s6 s10 wi=>∃ (d:Nat) (c1 o1:List Int) (q:Int),s10=.int .i64 q/\-1<=q/\q<=1000/\(q<xs.length\/q<=0)/\(q<=k->d=0)/\(k<q->q=k+d)/\OwnI wi w2.heap.size (.slice (some ⟨g,0,none⟩) xs.length xs.length) c1/\c1.length=xs.length/\OwnI wi w2.heap.size s6 o1/\s6.ownBlock≠some g/\o1.length+d<=(k+1)*1000/\N=(bub c1 k d).1/\F=o1++(bub c1 k d).2/\w2.heap.size<=wi.heap.size/\Below w2.heap.size w2 wi) (fun _ s10 _=>(intOf s10+1).toNat)
      case atStart=>exact⟨(p-k).toNat,cur,out,p,rfl,gr,by omega,gO,by omega,by omega,gj.drewN n,gm.out,ge.drewN n,gZ.out,by omega,HN.out.1,HN.out.2,gK,Zak g9 n⟩
      case round =>
       obtain⟨d,c1,o1,q,rfl,hc,h9,gN,gi,gu,g3,gk,g6,gf,h4,hN,hF,gd,gc⟩:=hrel;have gB:=Hd hN;have gD:=Hd hF;have gn:=Hd gk;have g5:=Hd gf;have h6:c1.length<=1000:=by omega
       clear hN hF gk gf
       by_cases h8:(k:Int)<q
       .
        obtain⟨d,rfl⟩:∃ l,d=l+1:=⟨d-1,by omega⟩;have gM:q=(k:Int)+d+1:=by omega
        subst gM;have gS:k+d+1<xs.length:=by omega
        have gH:k+d+1<c1.length:=by rw[gn.out];exact gS
        clear gi gu gN;have h7:IntKind.i64.wrap ((k:Int)+d+1-1)=((k+d:Nat):Int):=by rw[IntWalk.i64_in _ (by omega)];omega
        have q0:=g3.cell (k+d) (by omega);have q1:=g3.cell (k+d+1) (by omega);have p0:=g3.frozen (k+d);have p1:=g3.frozen (k+d+1);have t0:((k:Int)+d).toNat=k+d:=by omega
        have t1:((k:Int)+d+1).toNat=k+d+1:=by omega
        go_wp2_with fail
        go_region
        have gX:=Hd (Zyu (zs:=c1) (k:=k+d) gH);have gU:=((g3.stored (k+d) (at0 c1 (k+d+1))).stored (k+d+1) (at0 c1 (k+d))).drewN 1;have gP:=((g6.setCell_other (a:=⟨g,k+d,none⟩) g5.out (.int .i64 (at0 c1 (k+d+1)))).setCell_other (a:=⟨g,k+d+1,none⟩) g5.out (.int .i64 (at0 c1 (k+d)))).drewN 1;have gV:=Zak ((gc.setCell (p:=⟨g,k+d,none⟩) hg (.int .i64 (at0 c1 (k+d+1)))).setCell (p:=⟨g,k+d+1,none⟩) hg (.int .i64 (at0 c1 (k+d)))) 1;have gT:=(g3.lt g rfl).2;go_wp2_with (at_builtin;go_loud (refine Zdj _ rfl _ _ rfl w2.heap.size w2 _ o1 _ rfl rfl (by rfl) (by simp) gP (by omega) (by simpa using gd) gV ?_);intro v2 w4 go gp gF gg);have gw:=gU.keep gg.keep (fun x hx gJ=>by cases hx;exact g5.out gJ.symm);rw[<- gX.out] at gw;have gG:=gg.ne g5.out (by simpa using gT);go_roundw
        case rel=>exact⟨d,Zpy c1 ((k+d:Nat):Int),o1++[((k+d:Nat):Int)],((k+d:Nat):Int),by go_num,by omega,by omega,by omega,by omega,by omega,gw,by rw[Zpz];exact gn.out,go,gG,by simp;omega,gB.out,by rw[gD.out,Zuf];simp,gF,gp⟩
        case measure=>simp[intOf];omega
       .
        obtain rfl:=gi (by omega);have gY:=Hd g6;have gx:N=c1:=gB.out;have gy:F=o1:=by rw[gD.out];simp[bub]
        have gA:=Hd gx;have gC:=Hd gy;clear gx gy gi gu g6
        go_wp2
        go_roundw
        case rel=>exact⟨k+1,N,F,by omega,by go_num,by rw[gA.out];exact g3,by rw[gA.out];exact gn.out,by rw[gC.out];exact gY.out,g5.out,by rw[gC.out];omega,by
         rw[HN.out.1,HN.out.2,<- gz.out,h0.out,gE.out];simp,gd,gc⟩
        case measure=>simp[intOf];omega
     .
      obtain rfl:k=ys.length:=by omega
      have gh:Zil xs ys 0=out:=by rw[<- gz.out];simp[Zil]
      have gI:=Hd gh;clear gh
      go_wp2
      go_ret2
      exact Zf2 HE.out (HF.out.trans gI.out) (ge.lower ga) (g4.trans (g9.mono ga))
   .
    have HE:Hid (Zdv xs ys=3):=by unfold Zdv;rw[if_pos ⟨hr,g1⟩,if_neg hl];rfl
    have HF:Hid (Zey xs ys=[]):=by unfold Zey;rw[if_neg (fun hh=>hl hh.2.2)];rfl
    have HR:=Hd hr;have g8:=Hd g1;have H3:((xs.length:Int) != ys.length)=true:=by simp;omega
    clear hr g1 hl
    go_enter func211,ntmps211
    go_wp2_with fail;refine(Zcj _ _ xs _ HA.out (by omega)).mono ?_;rintro e w1 ⟨rfl,g0⟩;rw[HR.out];go_wp2_with fail;refine(Zcj _ _ ys _ (HB.out.below g0) (by omega)).mono ?_;rintro e w2 ⟨rfl,g7⟩;rw[g8.out];go_wp2_with fail
    go_ret2
    exact Zf2 HE.out HF.out (Zjx _ _) (g0.trans (g7.mono g0.size))
  .
   have HE:Hid (Zdv xs ys=1):=by unfold Zdv;rw[if_neg (fun hh=>g1 hh.2)];rfl
   have HF:Hid (Zey xs ys=[]):=by unfold Zey;rw[if_neg (fun hh=>g1 hh.2.1)];rfl
   have g2:Zex ys=false:=by simpa using g1
   have HR:=Hd hr;have g8:=Hd g2;clear hr g1 g2
   go_enter func211,ntmps211
   go_wp2_with fail;refine(Zcj _ _ xs _ HA.out (by omega)).mono ?_;rintro e w1 ⟨rfl,g0⟩;rw[HR.out];go_wp2_with fail;refine(Zcj _ _ ys _ (HB.out.below g0) (by omega)).mono ?_;rintro e w2 ⟨rfl,g7⟩;rw[g8.out];go_wp2_with fail
   go_ret2
   exact Zf2 HE.out HF.out (Zjx _ _) (g0.trans (g7.mono g0.size))
 .
  have HE:Hid (Zdv xs ys=1):=by unfold Zdv;rw[if_neg (fun hh=>hr hh.1)];rfl
  have HF:Hid (Zey xs ys=[]):=by unfold Zey;rw[if_neg (fun hh=>hr hh.1)];rfl
  have g2:Zex xs=false:=by simpa using hr
  have HR:=Hd g2;clear hr g2
  go_enter func211,ntmps211
  go_wp2_with fail;refine(Zcj _ _ xs _ HA.out (by omega)).mono ?_;rintro e w1 ⟨rfl,g0⟩;rw[HR.out];go_wp2_with fail
  go_ret2
  exact Zf2 HE.out HF.out (Zjx _ _) g0
end Go.Proofs.YtkbegdkpboklpaaGreat
namespace Go.Proofs
open Go.Proofs.Tryz
open Go.Shelf
def Tryz.lays112_ren:Go.Shelf.Ren:=⟨fun|112=>243|n=>n,fun|28=>23|3=>3|4=>4|0=>0|n=>n,fun|n=>n⟩
theorem Tryz.lays112:Go.Proofs.Lays.n112 prog Tryz.lays112_ren:={
 mixed:=by kernel_rfl
 f112:=func243.trans (congrArg some (by kernel_rfl))
 t0:=underlying0
 a0:=Tryz.isAgg0
 z0:=Tryz.sizeOf0
 v0:=zeroValue0
 t3:=underlying3
 a3:=Tryz.isAgg3
 z3:=Tryz.sizeOf3
 v3:=zeroValue3
 t4:=underlying4
 a4:=Tryz.isAgg4
 z4:=Tryz.sizeOf4
 v4:=zeroValue4
 t28:=underlying23
 a28:=Tryz.isAgg23
 z28:=Tryz.sizeOf23
 v28:=zeroValue23 }
theorem Tryz.slices_Reverse_int_cells (b off n c:Nat)(zs:List Int)(w:World)(hz:n<=zs.length)(hbig:n<=9223372036854775807)(hc:∀ j,j<zs.length->w.cell? ⟨b,off+j,none⟩=some (.int .i64 (zs.getD j 0)))(hf:∀ j,j<n->w.frozen? ⟨b,off+j,none⟩=false) :
 Calls prog 243 #[.slice (some ⟨b,off,none⟩) n c] w fun e w'=>e=.returned (.tuple #[])/\∃ q,w'=(w.drewN q).setCells b off ((zs.take n).reverse.map (Value.int .i64)):=Any.slices_Reverse_int_cells Tryz.lays112 b off n c zs w hz hbig hc hf
end Go.Proofs
namespace Go.Proofs.YtkbegdkpboklpaaGreat
open Go.Proofs.Tryz
open Go.RowKit
theorem Zlc {B g:Nat}{a:World}(hg:B<=g)(ys:List Value):∀ (w:World) (o:Nat),Below B a w->Below B a (w.setCells g o ys):=by
 induction ys with
 | nil=>intro w o h;exact h
 | cons y ys ih=>intro w o h;exact ih _ _ (h.setCell hg _)
theorem OwnI.setCells {base g n c:Nat}(ys:List Int):∀ (w:World) (o:Nat) (zs:List Int),OwnI w base (.slice (some ⟨g,0,none⟩) n c) zs->o+ys.length<=zs.length ->
 OwnI (w.setCells g o (Za1 ys)) base (.slice (some ⟨g,0,none⟩) n c) (zs.take o++ys++zs.drop (o+ys.length)):=by
 induction ys with
 | nil=>intro w o zs h _;simpa [Za1,World.setCells] using h
 | cons y ys ih =>
   intro w o zs h hl;simp only[List.length_cons] at hl;have h1:=ih (w.setCell ⟨g,o,none⟩ (.int .i64 y)) (o+1) (zs.set o y) (h.stored o y) (by simp;omega);have e:(zs.set o y).take (o+1)++ys++(zs.set o y).drop (o+1+ys.length)=zs.take o++(y::ys)++zs.drop (o+(y::ys).length):=by
    have e1:(zs.set o y).take (o+1)=zs.take o++[y]:=by
     rw[List.set_eq_take_append_cons_drop,if_pos (by omega),List.take_append];simp;have:min o zs.length=o:=by omega
     rw[this];simp
     exact List.take_of_length_le (by simp;omega)
    have e2:(zs.set o y).drop (o+1+ys.length)=zs.drop (o+1+ys.length):=by
     rw[List.drop_set];rw[if_pos (by omega)]
    rw[e1,e2];simp[Nat.add_assoc,Nat.add_comm 1 ys.length]
   rw[e] at h1;exact h1
theorem Zpi (a:Option Addr)(c:Nat)(zs:List Int)(w:World)(h:Zay w a zs)(hlen:zs.length<1000000) :
 Calls prog 241 #[.slice a zs.length c] w fun e w'=>∃ v,e=.returned v/\SliceIs w' v zs.reverse/\Below w.heap.size w w':=by
 have HI:=Hd h;clear h
 go_enter func241,ntmps241
 go_wp2_with fail;refine(Zod _ _ zs _ HI.out hlen).mono ?_;rintro e w1 ⟨g,rfl,g0,g3⟩;have hg:w.heap.size<=g:=(g0.lt g rfl).1;go_wp2_with fail;refine(Tryz.slices_Reverse_int_cells g 0 zs.length zs.length zs w1 (Nat.le_refl _) (by omega) (fun j hj=>by rw[Nat.zero_add];exact g0.cell j hj) (fun j hj=>by rw[Nat.zero_add];exact g0.frozen j)).mono ?_;rintro e w2 ⟨rfl,q,g1⟩;have h2:=OwnI.setCells zs.reverse (w1.drewN q) 0 zs (g0.drewN q) (by simp);have e:zs.drop (0+zs.reverse.length)=[]:=List.drop_of_length_le (by simp);rw[e,List.take_zero,List.nil_append,List.append_nil] at h2;have g2:Below w.heap.size w ((w1.drewN q).setCells g 0 (Za1 zs.reverse)):=Zlc hg _ _ _ (Zak g3 _);rw[List.take_length] at g1
 change w2=(w1.drewN q).setCells g 0 (Za1 zs.reverse) at g1
 rw[<- g1] at h2 g2;clear g1;go_wp2_with fail;go_ret;exact⟨_,rfl,h2.sliceIs (by simp;omega),g2⟩
open Go.RowKit
abbrev KF:Law:=fun _ _ _ _ _ _ _=>False
section
variable {K:Law}{n:Nat}{Od:List Nat->Prop}{room:Nat}{w0 w w':World}{mb:Nat}{fs:List (Int×BF)}{nx:Int}{o o':Own}{m m':ManD}{V V':Nat->BF}
theorem SatE.full (h:SatE KF n Od room w0 mb fs nx w o m V):SatE K n Od room w0 mb fs nx w o m V:=by
 obtain⟨s,hs⟩:=h.is;exact⟨⟨s,hs.mono fun _ _ _ _ _ e=>e.elim⟩,h.lt,h.ok,h.vars,h.od,h.room,h.next,h.hs,h.chg⟩
theorem SatE.cleared {s:ManW}{w1:World}(h:SatE K n Od room w0 mb fs nx w o m V)(g1:Zb7 (fun _ _ _ _ _=>False) o w1 mb m s)(g2:Chg (· = .entries) o o w w1)(g3:Zaj o w1):SatE KF n Od room w0 mb fs nx w1 o m V :=
 ⟨⟨s,g1⟩,g3,h.ok,h.vars,h.od,h.room,h.next,h.hs,h.chg.lower (ChgX.of_chg g2.any NoB) (fun _ e=>e.elim)⟩
structure HapS (n room:Nat)(w0:World)(mb:Nat)(fs:List (Int×BF))(nx:Int)(o:Own)(w:World)(m:ManD)(o':Own)(w':World)(m':ManD)(V':Nat->BF):Prop where
 sat:SatE KF n (fun _=>True) room w0 mb fs nx w' o' m' V'
 waits:m'.waits=m.waits
 calls:m'.calls=m.calls
 chg:Chg (fun _=>True) o o' w w'
 many:m'.d.pool.many<=m.d.pool.many\/m'.d.pool.many<=fs.length*2^n
theorem HapS.trans {o'':Own}{w'':World}{m'':ManD}{V'':Nat->BF}(h:HapS n room w0 mb fs nx o w m o' w' m' V')(h':HapS n room w0 mb fs nx o' w' m' o'' w'' m'' V''):HapS n room w0 mb fs nx o w m o'' w'' m'' V'' :=
 ⟨h'.sat,h'.waits.trans h.waits,h'.calls.trans h.calls,h.chg.trans h'.chg,by
  rcases h'.many with h1|h1
  . exact h.many.imp (fun h2=>Nat.le_trans h1 h2) (fun h2=>Nat.le_trans h1 h2)
  . exact .inr h1⟩
theorem Zu7 {s:ManW}(h:SatE KF n (fun _=>True) room w0 mb fs nx w o m V)(hs:Zb7 (fun _ _ _ _ _=>False) o w mb m s)(hn:nx<=549755813888)(z:Int) :
 Calls prog 182 #[.pointer (some ⟨s.sb,0,none⟩),.int .i64 z] w fun e w'=>∃ q:Int,e=.returned (.int .i64 q)/\∃ o' m' V',HapS n room w0 mb fs nx o w m o' w' m' V':=by
 by_cases hz:z<0\/(n:Int)-1<=z
 . refine(Znv hs.store h.ok.store.small z (by rw[h.vars];exact hz)).mono ?_;rintro e w' ⟨rfl,rfl⟩;exact⟨2,rfl,o,m,V,h,rfl,rfl,Chg.refl _ _ _,.inl (Nat.le_refl _)⟩
 .
  obtain⟨k,rfl⟩:∃ k:Nat,z=k:=⟨z.toNat,by omega⟩;refine(Zwl h hs (Chg.refl _ _ _) h.lt (by omega) hn).mono ?_;rintro e w' ⟨o',m',V',hm⟩;obtain⟨d0,cr,hw⟩:=hm.way;rcases hw with ⟨e1,e2,_⟩|⟨e1,so⟩
  . exact⟨7,e1,o',m',V',hm.sat,hm.waits,hm.calls,hm.chg,.inr (hm.sat.few (by rw[e2];exact cr.dead))⟩
  . exact⟨0,e1,o',m',V',hm.sat,hm.waits,hm.calls,hm.chg,.inr (hm.sat.few so.dead)⟩
theorem Zsr {s:ManW}(h:SatE KF n (fun _=>True) room w0 mb fs nx w o m V)(hs:Zb7 (fun _ _ _ _ _=>False) o w mb m s) :
 Calls prog 212 #[.pointer (some ⟨s.sb,0,none⟩)] w fun e w'=>∃ q:Int,e=.returned (.int .i64 q)/\∃ o' m' V',HapS n room w0 mb fs nx o w m o' w' m' V':=by
 refine(Zhl hs.store h.lt h.ok.store).mono ?_;rintro e w' ⟨rfl,o',d',st,lt,cr,ch⟩;have g0:SatE KF n (fun _=>True) room w0 mb fs nx w' o' { m with d:=d' } V:=⟨⟨s,hs.setStore h.lt st ch⟩,lt,⟨cr.ok h.ok.store,Zgi h.ok.handles h.ok.store cr⟩,by dsimp only;rw[cr.vars];exact h.vars,trivial,by dsimp only;rw[cr.room];exact h.room,h.next,h.hs,h.chg.lower (ChgX.of_chg ch.any NoB) (fun _ e=>e.elim)⟩;exact⟨_,rfl,o',{ m with d:=d' },V,g0,rfl,rfl,ch.any,.inr (g0.few cr.dead)⟩
theorem Zqw {base:Nat}{v:Value}{zs:List Int}(h:OwnI w base v zs):zs.length<=9223372036854775807:=by
 rcases h.2 with ⟨_,h0⟩|⟨g,cap,cur,_,_,_,h1,h2,_⟩
 . omega
 . unfold maxLen at h2;omega
theorem Zay.chg {R:Role->Prop}{a:Option Addr}{zs:List Int}(h:Zay w a zs)(hc:Chg R o o' w w')(hn:∀ x,a=some x->o x.block=none):Zay w' a zs :=
 ⟨h.len,fun k hk=>by
  obtain⟨b,off,rfl,hc1⟩:=h.cells k hk;exact⟨b,off,rfl,hc.cell (p:=⟨b,off+k,none⟩) hc1 (hn ⟨b,off,none⟩ rfl)⟩⟩
theorem Zir (hn:nx<=549755813888)(ev:Ev):HapG K n (fun _=>True) room w0 mb fs nx ev:=by
 intro o W m V h;obtain⟨P,hP⟩:∃ P:Ending->World->Prop,P=fun x w'=>x=.returned (.tuple #[]) /\
  ∃ o' m' V',SatE K n (fun _=>True) room w0 mb fs nx w' o' m' V'/\m'.waits=m.waits/\m'.calls=m.calls/\(m'.d.pool.many<=m.d.pool.many\/m'.d.pool.many<=fs.length*2^n)/\ChgX NoB o o' W w':=⟨_,rfl⟩
 rw[<- hP];obtain⟨W1,g7⟩:∃ W1,W1=W.alloc (.cells #[.int .i64 ev.after,.int .i64 ev.kind,.int .i64 ev.level] 120):=⟨_,rfl⟩;have gg:Below W.heap.size W W1:=by rw[g7];exact Zad W _
 obtain⟨bx,g0⟩:∃ q,q=W.heap.size:=⟨_,rfl⟩;have gz:Hid (Box o W1 bx (.cells #[.int .i64 ev.after,.int .i64 ev.kind,.int .i64 ev.level] 120 (0,0))):=Hd ⟨by rw[g7,g0];exact heap_alloc_new W _,h.lt.none (by rw[g0];exact Nat.le_refl _)⟩;have h1:=h.below gg
 have HP:Hid (∀ o' w' m' V',HapS n room w0 mb fs nx o W1 m o' w' m' V'->P (.returned (.tuple #[])) w'):=Hd (by
  intro o' w' m' V' hh;rw[hP];exact⟨rfl,o',m',V',hh.sat.full,hh.waits,hh.calls,hh.many,(ChgX.of_below gg o NoB).trans (ChgX.of_chg hh.chg NoB) (fun _ _ e=>e)⟩)
 obtain⟨s,hs⟩:=h1.is;obtain⟨c0,c1,c2,c3,c4,c5,f0⟩:=cells6 hs.blk;have gy:=Hd (wclear h1 hs (fun _ _ _ _ _=>False));have H1:=Hd h1;obtain⟨kd,gq⟩:∃ z,z=ev.kind:=⟨_,rfl⟩;obtain⟨lv,go⟩:∃ z,z=ev.level:=⟨_,rfl⟩;obtain⟨af,gu⟩:∃ z,z=ev.after:=⟨_,rfl⟩;have HN:=Hd hn;unfold evA;rw[<- gq,<- go,<- gu] at gz g7 ⊢;have HW:=Hd g7;have HX:=Hd g0;clear h h1 hs hP gg g0 gq go gu hn g7
 go_enter func222,ntmps222
 go_upto_region 1 with fail;rw[<- HW.out,<- HX.out];go_wp2_with fail;refine gy.out.mono ?_;rintro x w1 ⟨rfl,g1,g2,g3⟩;have g4:=Hd (H1.out.cleared g1 g2 g3);have HB2:=Hd (gz.out.chg g2);have HG:=Hd g1;have gj:Hid (Chg (fun _=>True) o o W1 w1):=Hd g2.any;have b1:w1.cell? ⟨bx,1,none⟩=some (.int .i64 kd):=HB2.out.cell 1;have b2:w1.cell? ⟨bx,2,none⟩=some (.int .i64 lv):=HB2.out.cell 2;clear c0 c1 c2 c3 c4 c5 f0 gy g1 g2 g3;obtain⟨c0,c1,c2,c3,c4,c5,f0⟩:=cells6 HG.out.blk
 by_cases k1:kd=1
 . subst k1;have HC:=Hd (Zsr g4.out HG.out);go_wp2_with fail;refine HC.out.mono ?_;rintro x w2 ⟨q,rfl,o',m',V',hh⟩;have HF:=Hd (HP.out o' w2 m' V' ⟨hh.sat,hh.waits,hh.calls,gj.out.trans hh.chg,hh.many⟩);clear hh;go_wp2_with fail;refine bodyPost_end (results_none rfl _ _ _) rfl ?_;exact HF.out
 .
  have e1:(kd == 1)=false:=by simp[k1]
  by_cases k2:kd=2
  .
   subst k2;clear k1 e1;have HC:=Hd (Zu7 (g4.out.below (Zaf w1 1)) (HG.out.below g4.out.lt (Zaf w1 1)) HN.out lv);go_upto_region 13 with fail;refine Zap (fun W:World=>W=w1.drew) true 6 [(0,false),(1,false),(2,false),(3,false),(4,false),(5,false),(6,true)] (by kernel_rfl) (by kernel_rfl) rfl ?_;simp only[planned,Zc8]
   iterate 6
    refine Zaq rfl ?_;apply Exists.intro;refine⟨fun w' hw=>?_,?_⟩
    . subst hw;go_simp;rfl
    simp only[Zah]
   refine Zdl rfl (by go_simp) (HC.out.mono (R':=fun e w'=>∃ v,e=.returned v/\∃ o' m' V',HapS n room w0 mb fs nx o w1.drew m o' w' m' V') (fun e w' h=>by obtain⟨q,e1,h2⟩:=h;exact⟨_,e1,h2⟩)) ?_;rintro v w2 ⟨o',m',V',hh⟩;simp only[Zah];refine Zbs ?_;have HF:=Hd (HP.out o' w2 m' V' ⟨hh.sat,hh.waits,hh.calls,gj.out.trans ((Chg.of_below (Zaf w1 1) _ _).trans hh.chg),hh.many⟩);clear hh;go_wp2_with fail;refine bodyPost_end (results_none rfl _ _ _) rfl ?_;exact HF.out
  .
   have e2:(kd == 2)=false:=by simp[k2]
   clear k1 k2;have gb:m.d.vars.length<=64:=g4.out.ok.store.small;have HO:=Hd (Zhf HG.out.store g4.out.lt gb);go_wp2_with fail;refine HO.out.mono ?_;rintro x w2 ⟨v,rfl,g8,gt⟩;obtain⟨zs,ga⟩:∃ zs,zs=m.d.vars.map Int.ofNat:=⟨_,rfl⟩;have gA:zs.length<=64:=by rw[ga,List.length_map];exact gb
   rw[<- ga] at g8;obtain⟨a,c,rfl,ha,gn⟩:=g8.sliceIs (by omega);have HT:=Hd (Zpi a c zs w2 ha (by omega));have gD:Hid (SliceIs w2 (.slice a zs.length c) zs):=Hd ⟨a,c,rfl,ha,gn⟩;have g9:=Hd gt;have gI:=Hd gA;clear g8 gt ga ha gn gb c0 c1 c2 c3 c4 c5 f0 b1 b2 HO;go_wp2_with fail;refine HT.out.mono ?_;rintro x w3 ⟨vt,rfl,gB,gf⟩;obtain⟨at',ct',gl,q1,q2⟩:=gB;rw[List.length_reverse] at gl;subst gl;have gv:=Hd (Zng (.slice a zs.length c) (.slice at' zs.length ct') zs zs.reverse w3 (gD.out.below gf) ⟨at',ct',by rw[List.length_reverse],q1,q2⟩ (by omega) (by simp;omega));have gk:=Hd gf;clear gf HT q1 q2;go_wp2_with fail;refine gv.out.mono ?_;rintro x w4 ⟨vr,rfl,g6,gs⟩;obtain⟨rs,gm⟩:∃ rs,rs=Zey zs zs.reverse:=⟨_,rfl⟩;obtain⟨er,gr⟩:∃ z,z=Zdv zs zs.reverse:=⟨_,rfl⟩;rw[<- gm] at g6;rw[<- gr];have g0:Below w1.heap.size w1 w4:=g9.out.trans ((gk.out.trans (gs.mono gk.out.size)).mono g9.out.size);have gd:=g6.lt;have gC:rs.length<=9223372036854775807:=Zqw g6;obtain⟨ar,cr,rfl,hi,_⟩:=g6.sliceIs gC
   have gi:Hid (∃ o' m' V',HapS n room w0 mb fs nx o w1 m o' w4 m' V'/\Zay w4 ar rs/\(∀ x,ar=some x->o' x.block=none)):=Hd ⟨o,m,V,(⟨g4.out.below g0,rfl,rfl,Chg.of_below g0 _ _,.inl (Nat.le_refl _)⟩:HapS n room w0 mb fs nx o w1 m o w4 m V),hi,fun x hx=>by
    subst hx;refine g4.out.lt.none ?_;have h1:=(gd _ rfl).1;have h2:=g9.out.size;have h3:=gk.out.size;omega⟩
   clear gr gm g6 gs g0 gd hi gv;go_wp2_with fail
   go_loopw [30] (fun s30 wr=>∃ j:Nat,j<=rs.length/\s30=.int .i64 j/\Hid (∃ o' m' V',HapS n room w0 mb fs nx o w1 m o' wr m' V'/\Zay wr ar rs/\(∀ x,ar=some x->o' x.block=none))) (fun s30 _=>rs.length-(intOf s30).toNat)
   case atStart=>exact⟨0,Nat.zero_le _,rfl,gi⟩
   case round =>
    obtain⟨j,hj,rfl,HH⟩:=hrel;obtain⟨oj,mj,Vj,hh,hi,gc⟩:=HH.out
    by_cases gp:j<rs.length
    .
     obtain⟨b,off,rfl,g5⟩:=hi.cells j gp;obtain⟨s',hs'⟩:=hh.sat.is;obtain⟨c0,c1,c2,c3,c4,c5,f0⟩:=cells6 hs'.blk;have gH:(j:Int)<rs.length:=by omega
     obtain⟨z,hz⟩:∃ z,z=at0 rs j:=⟨_,rfl⟩;rw[<- hz] at g5;have HC:=Hd (Zu7 hh.sat hs' HN.out z);have gF:=Hd hh;have gE:=Hd hi;have gw:=Hd gc;have ge:b<wr.heap.size:=Zaa g5;have gG:=Hd ge;have gx:=Hd gp;clear hh hi gc hs' HH gi hz ge;go_wp2_with fail;refine HC.out.mono ?_;rintro x w5 ⟨q,rfl,o5,m5,V5,h5⟩;have gh:=Hd (And.intro (gF.out.trans h5) (And.intro (gE.out.chg h5.chg gw.out) (fun x (hx:some _=some x)=>h5.chg.alien' (by cases hx;exact gG.out) (gw.out x hx))));clear h5 c0 c1 c2 c3 c4 c5 f0 g5;go_wp2_with fail;go_roundw
     case rel=>exact⟨j+1,Nat.succ_le_of_lt gx.out,by go_num,Hd ⟨_,_,_,gh.out.1,gh.out.2.1,gh.out.2.2⟩⟩
     case measure =>
      have:=gx.out;simp[intOf];omega
    .
     obtain rfl:j=rs.length:=by omega
     have HF:=Hd (HP.out oj wr mj Vj ⟨hh.sat,hh.waits,hh.calls,gj.out.trans hh.chg,hh.many⟩);clear hh hi gc HH gi;go_wp2_with fail;refine bodyPost_end (results_none rfl _ _ _) rfl ?_;exact HF.out
end
open Go.RowKit
section
variable {K:Law}{n:Nat}{Od:List Nat->Prop}{room:Nat}{w0 w w':World}{mb:Nat}{fs:List (Int×BF)}{nx:Int}{o o':Own}{m m':ManD}{V V':Nat->BF}
structure NewH (K:Law)(n:Nat)(Od:List Nat->Prop)(room:Nat)(w0:World)(mb:Nat)(fs:List (Int×BF))(nx:Int)(o:Own)(w:World)(m:ManD)(V:Nat->BF)(F:BF)(o':Own)(w':World)(m':ManD):Prop where
 sat:SatE K n Od room w0 mb (fs++[(nx,F)]) (nx+1) w' o' m' V
 waits:m'.waits=m.waits
 calls:m'.calls=m.calls
 nodes:Zab m'.d=Zab m.d
 vars:m'.d.vars=m.d.vars
 many:m'.d.pool.many=m.d.pool.many
 chg:Chg (fun _=>True) o o' w w'
theorem Zkn (hK:Zbh K)(h:SatE K n Od room w0 mb fs nx w o m V)(hn:nx<549755813888){k:Int}{F:BF}(hk:(k,F)∈fs) :
 Calls prog 88 #[.pointer (some ⟨mb,0,none⟩),.int .i64 k] w fun x w'=>x=.returned (.tuple #[.int .i64 nx,.int .i64 0])/\∃ o' m',NewH K n Od room w0 mb fs nx o w m V F o' w' m':=by
 obtain⟨f,hf,rfl⟩:=h.find hk;obtain⟨s,hs⟩:=h.is;obtain⟨c0,c1,c2,c3,c4,c5,f0⟩:=cells6 hs.blk;have hl:=Zeo hs h.ok.handles.nodup hf;have hnx:=h.next
 have HG:=Hd (Zm1 hK h.is h.lt h.ok f (h.ok.handles.ok _ hf) (by rw[hnx];omega));have H:=Hd h;rw[hnx] at HG;clear hs h hf hk hnx
 go_enter func88,ntmps88
 go_wp2_with fail;refine HG.out.mono ?_;rintro x w1 ⟨rfl,o',m',hg⟩;have HQ:Hid (NewH K n Od room w0 mb fs nx o w m V (ef V f) o' w1 m'):=Hd ⟨H.out.gave hg,hg.waits,hg.calls,hg.nodes,hg.vars,hg.many,hg.chg⟩;clear hg;go_wp2_with fail
 go_ret2
 exact⟨rfl,_,_,HQ.out⟩
theorem Yax {N:Nat->Option BN}{e:Nat}(h:okE N e):okE N (enot e):=by
 unfold okE at h ⊢;rw[Zfj];exact h
theorem Zs4 (hK:Zbh K)(h:SatE K n Od room w0 mb fs nx w o m V)(hn:nx<549755813888){k:Int}{F:BF}(hk:(k,F)∈fs) :
 Calls prog 45 #[.pointer (some ⟨mb,0,none⟩),.int .i64 k] w fun x w'=>x=.returned (.tuple #[.int .i64 nx,.int .i64 0])/\∃ o' m',NewH K n Od room w0 mb fs nx o w m V (fun ρ => !F ρ) o' w' m':=by
 obtain⟨f,hf,rfl⟩:=h.find hk;obtain⟨s,hs⟩:=h.is;obtain⟨c0,c1,c2,c3,c4,c5,f0⟩:=cells6 hs.blk;have hl:=Zeo hs h.ok.handles.nodup hf;have hnx:=h.next
 have g0:=h.ok.handles.ok _ hf;have g1:f<eMax:=by
  obtain⟨s2,h2⟩:=hs.store;have:=h2.edge_lt g0;unfold eMax;omega
 have HG:=Hd (Zm1 hK h.is h.lt h.ok (enot f) (Yax g0) (by rw[hnx];omega));have g2:=Hd (Zht f w g1);have H:=Hd h;rw[hnx] at HG;clear hs h hf hk hnx g0 g1
 go_enter func45,ntmps45
 go_wp2_with fail;refine g2.out.mono ?_;rintro x w1 ⟨rfl,rfl⟩;go_wp2_with fail;refine HG.out.mono ?_;rintro x w1 ⟨rfl,o',m',hg⟩
 have HQ:Hid (NewH K n Od room w0 mb fs nx o w m V (fun ρ => !ef V f ρ) o' w1 m'):=Hd (by
  have e:(fun ρ => !ef V f ρ)=ef V (enot f):=by funext ρ;rw[Zhn]
  rw[e];exact⟨H.out.gave hg,hg.waits,hg.calls,hg.nodes,hg.vars,hg.many,hg.chg⟩)
 clear hg;go_wp2_with fail
 go_ret2
 exact⟨rfl,_,_,HQ.out⟩
theorem SatE.nofind (h:SatE K n Od room w0 mb fs nx w o m V){k:Int}(hk:∀ p∈fs,p.1≠k):∀ f,(k,f)∉m.hs:=by
 intro f hf;refine hk (k,ef V f) ?_ rfl;rw[<- h.hs];exact List.mem_map.2 ⟨(k,f),hf,rfl⟩
theorem Zpb (h:SatE K n Od room w0 mb fs nx w o m V){k:Int}{F:BF}(hk:(k,F)∈fs) :
 Calls prog 55 #[.pointer (some ⟨mb,0,none⟩),.int .i64 k] w fun x w'=>x=.returned (.bool true)/\w=w':=by
 obtain⟨f,hf,rfl⟩:=h.find hk;obtain⟨s,hs⟩:=h.is;obtain⟨c0,c1,c2,c3,c4,c5,f0⟩:=cells6 hs.blk;have hl:=Zeo hs h.ok.handles.nodup hf;clear hs h hf hk
 go_enter func55,ntmps55
 go_wp2_with fail;go_ret;exact⟨rfl,rfl⟩
theorem Zro (h:SatE K n Od room w0 mb fs nx w o m V){k:Int}(hk:∀ p∈fs,p.1≠k) :
 Calls prog 55 #[.pointer (some ⟨mb,0,none⟩),.int .i64 k] w fun x w'=>x=.returned (.bool false)/\w=w':=by
 have g0:=h.nofind hk;obtain⟨s,hs⟩:=h.is;obtain⟨c0,c1,c2,c3,c4,c5,f0⟩:=cells6 hs.blk;have hl:=Yas hs g0;clear hs h g0 hk
 go_enter func55,ntmps55
 go_wp2_with fail;go_ret;exact⟨rfl,rfl⟩
end
open Go.RowKit
def delK {α:Type}(k:Int)(l:List (Int×α)):List (Int×α):=l.filter fun p=>decide (p.1≠k)
theorem Zkd {α:Type}{k:Int}{l:List (Int×α)}(h:∀ p∈l,p.1≠k):delK k l=l:=by
 unfold delK;rw[List.filter_eq_self];intro p hp;simp[h p hp]
theorem Zfy {α:Type}{x:Int×α}{l:List (Int×α)}(h:((x::l).map Prod.fst).Nodup):∀ p∈l,p.1≠x.1:=by
 intro p hp e;rw[List.map_cons,List.nodup_cons] at h;exact h.1 (List.mem_map.2 ⟨p,hp,e⟩)
theorem Zi8 {α:Type}{x:Int×α}{l:List (Int×α)}(h:((x::l).map Prod.fst).Nodup):delK x.1 (x::l)=l:=by
 have h1:=Zkd (Zfy h);unfold delK at h1 ⊢;rw[List.filter_cons_of_neg (by simp),h1]
theorem Zi9 {α:Type}{k:Int}{x:Int×α}{l:List (Int×α)}(h:x.1≠k):delK k (x::l)=x::delK k l:=by
 unfold delK;rw[List.filter_cons_of_pos (by simp[h])]
theorem Zh3 {α:Type}{k:Int}:∀ (l:List (Int×α)) (j:Nat) (hj:j<l.length),(l.map Prod.fst).Nodup->l[j].1=k->l.eraseIdx j=delK k l
 | x::l,0,_,hn,hk=>by
   have e:x.1=k:=hk;subst e;rw[Zi8 hn];rfl
 | x::l,j+1,hj,hn,hk=>by
   have hj':j<l.length:=by simpa using hj
   have g0:l[j].1=k:=by simpa using hk
   have hx:x.1≠k:=by
    intro e;exact Zfy hn l[j] (List.getElem_mem hj') (g0.trans e.symm)
   have g1:(l.map Prod.fst).Nodup:=by rw[List.map_cons,List.nodup_cons] at hn;exact hn.2
   rw[Zi9 hx,List.eraseIdx_cons_succ,Zh3 l j hj' g1 g0]
theorem Zrg {α β:Type}(k:Int)(l:List (Int×α))(g:Int×α->Int×β)(hg:∀ p,(g p).1=p.1):(delK k l).map g=delK k (l.map g):=by
 unfold delK;rw[List.filter_map];congr 1;refine List.filter_congr fun p _=>?_
 simp[hg]
theorem Zz7 {k:Int}{l:List (Int×Value)}(hn:(l.map Prod.fst).Nodup){v:Value}(hk:(k,v)∈l):delL k l=delK k l:=by
 unfold delL;cases e:Zdi k l 0 with
 | none =>
   have h1:=Zcx hn hk;unfold getL at h1;rw[e] at h1;cases h1
 | some p =>
   obtain⟨j,u⟩:=p;have h2:=Zc4 e;obtain⟨q,h3,h4⟩:=h2;have hq:j=q:=by omega
   subst hq;obtain⟨h5,h6⟩:=List.getElem?_eq_some_iff.1 h4;exact Zh3 l j h5 hn (by rw[h6])
theorem Zju {α:Type}{k:Int}{l:List (Int×α)}{p:Int×α}:p∈delK k l↔p∈l/\p.1≠k:=by
 unfold delK;rw[List.mem_filter];simp
theorem Zrx {k:Int}{f:Nat}(h1:1<k):∀ (hs:List (Int×Nat)),(hs.map Prod.fst).Nodup->(k,f)∈hs->∀ i,Zb8 hs i=Zb8 (delK k hs) i+(if f/2=i then 1 else 0)
 | [],_,h,_=>by cases h
 | x::l,hn,hm,i=>by
   have hn':(l.map Prod.fst).Nodup:=by rw[List.map_cons,List.nodup_cons] at hn;exact hn.2
   by_cases e:x.1=k
   .
    have hx:x=(k,f):=by
     rcases List.mem_cons.1 hm with h|h
     . exact h.symm
     . exact((Zfy hn _ h) e.symm).elim
    subst hx;rw[Zi8 hn];unfold Zb8
    by_cases e2:f/2=i
    . rw[List.filter_cons_of_pos (by simp[h1,e2]),List.length_cons,if_pos e2]
    . rw[List.filter_cons_of_neg (by simp[e2]),if_neg e2];rfl
   .
    have g0:(k,f)∈l:=by
     rcases List.mem_cons.1 hm with h|h
     . rw[<- h] at e;exact(e rfl).elim
     . exact h
    have ih:=Zrx h1 l hn' g0 i;rw[Zi9 e];unfold Zb8 at ih ⊢
    by_cases e3:(decide (1<x.1)&&x.2/2 == i)=true
    . rw[List.filter_cons_of_pos (p:=fun p:Int×Nat=>decide (1<p.1)&&p.2/2 == i) e3,List.filter_cons_of_pos (p:=fun p:Int×Nat=>decide (1<p.1)&&p.2/2 == i) e3,List.length_cons,List.length_cons];omega
    . rw[List.filter_cons_of_neg (p:=fun p:Int×Nat=>decide (1<p.1)&&p.2/2 == i) e3,List.filter_cons_of_neg (p:=fun p:Int×Nat=>decide (1<p.1)&&p.2/2 == i) e3];exact ih
theorem Zow {m:ManD}{d':Zag}{k:Int}{f:Nat}(h:Zcb m)(r:Zga m.d d' f (-1))(hk:(k,f)∈m.hs)(h1:1<k)(h0:Zab m.d 0=none):Zcb { m with d:=d',hs:=delK k m.hs }:=by
 have g1:∀ {p:Int×Nat},p∈delK k m.hs->p∈m.hs:=fun hp=>(Zju.1 hp).1
 refine⟨?_,Zju.2 ⟨h.zero,by dsimp only;omega⟩,Zju.2 ⟨h.one,by dsimp only;omega⟩,fun p hp=>h.lt p (g1 hp),h.next,fun p hp=>?_,?_,fun i b hb=>?_⟩
 . exact h.nodup.sublist ((List.filter_sublist).map _)
 .
  show okE (Zab d') p.2
  rw[r.nodes];exact h.ok p (g1 hp)
 .
  have h2:(delK k m.hs).length<=m.hs.length:=List.length_filter_le _ _;have h3:=h.len
  show ((delK k m.hs).length:Int)<=m.next
  omega
 .
  have g0:Zab m.d i=some b:=by
   have:Zab d' i=some b:=hb;rw[r.nodes] at this;exact this
  have hi:i≠0:=by rintro rfl;rw[h0] at g0;cases g0
  show Za0 d' i=(Zb8 (delK k m.hs) i:Int)
  rw[r.ext i hi,h.refs i b g0,Zrx h1 m.hs h.nodup hk i];unfold toE;split<;>(simp;try omega)
section
variable {K:Law}{n:Nat}{Od:List Nat->Prop}{room:Nat}{w0 w w':World}{mb:Nat}{fs:List (Int×BF)}{nx:Int}{o o':Own}{m m':ManD}{V V':Nat->BF}
theorem Zjh {sb:Nat}(h:Zav o w sb m.d)(hlt:Zaj o w)(hk:Zsf m V){k:Int}{f:Nat}(hf:(k,f)∈m.hs)(h1:1<k)(hn:m.next<549755813888) :
 Calls prog 143 #[.pointer (some ⟨sb,0,none⟩),.int .i64 f] w fun x w'=>x=.returned (.int .i64 0)/\∃ d',Zav o w' sb d'/\Zaj o w'/\Zga m.d d' f (-1)/\Chg Zar o o w w':=by
 have g0:∀ y b,Zab m.d y=some b->Za0 m.d y<1099511627776:=fun y b _=>by have:=Zzf hk.handles y;omega
 have g1:=hk.handles.ok _ hf;obtain⟨s,h⟩:=h;have g2:=h.edge_lt g1;rcases g1 with h0|⟨b,hb⟩
 . refine(Zlm h hlt hk.store.live f (by unfold eMax;omega) h0).mono ?_;rintro e w' ⟨d',h1,h2,h3,h4,h5⟩;exact⟨h1,d',⟨s,h2⟩,h3,h4,h5⟩
 .
  have g4:=h.pool.top;have g3:=h.pool.room;refine(Zll h hlt hk.store.live (Zzd hk.store) f (b:=b) hb g0 ?_ (fun y c hc=>?_)).mono ?_
  . have h2:=hk.handles.refs (enode f) b hb;have h3:0<Zb8 m.hs (f/2):=Zry hf h1;have h4:Za0 m.d (enode f)=(Zb8 m.hs (f/2):Int):=h2;omega
  . have h1:=hk.store.live.cnt.le hc;have h2:=g0 y c hc;omega
  . rintro e w' ⟨d',h1,h2,h3,h4,h5⟩;exact⟨h1,d',⟨s,h2⟩,h3,h4,h5⟩
end
open Go.RowKit
def Zd1 {α:Type}(l:List (Int×α))(ks:List Int):List (Int×α):=ks.foldl (fun l k=>if 1<k then delK k l else l) l
theorem Zgy {α:Type}{l:List (Int×α)}{ks:List Int}{j:Nat}(hj:j<ks.length):Zd1 l (ks.take (j+1))=if 1<at0 ks j then delK (at0 ks j) (Zd1 l (ks.take j)) else Zd1 l (ks.take j):=by
 unfold Zd1;rw[List.take_succ_eq_append_getElem hj,List.foldl_append,Zby hj];rfl
section
variable {K:Law}{n:Nat}{Od:List Nat->Prop}{room:Nat}{w0 w w':World}{mb:Nat}{fs:List (Int×BF)}{nx:Int}{o o':Own}{m m':ManD}{V V':Nat->BF}
structure Zfs (K:Law)(n:Nat)(Od:List Nat->Prop)(room:Nat)(w0:World)(mb:Nat)(fs:List (Int×BF))(nx:Int)(o:Own)(w:World)(m:ManD)(V:Nat->BF)(o':Own)(w':World)(m':ManD):Prop where
 sat:SatE K n Od room w0 mb fs nx w' o' m' V
 waits:m'.waits=m.waits
 calls:m'.calls=m.calls
 nodes:Zab m'.d=Zab m.d
 many:m'.d.pool.many=m.d.pool.many
 chg:Chg (fun _=>True) o o' w w'
theorem Zfs.trans {fs' fs'':List (Int×BF)}{o'':Own}{w'':World}{m'':ManD}(h:Zfs K n Od room w0 mb fs' nx o w m V o' w' m')(h':Zfs K n Od room w0 mb fs'' nx o' w' m' V o'' w'' m''):Zfs K n Od room w0 mb fs'' nx o w m V o'' w'' m'' :=
 ⟨h'.sat,h'.waits.trans h.waits,h'.calls.trans h.calls,h'.nodes.trans h.nodes,h'.many.trans h.many,h.chg.trans h'.chg⟩
theorem Zrh (hK:Zbh K)(h:SatE K n Od room w0 mb fs nx w o m V){k:Int}{f:Nat}(hf:(k,f)∈m.hs)(h1:1<k){s:ManW}(hs:Zb7 (K m.d V) o w mb m s){w1:World}{d':Zag}(hst:Zav o w1 s.sb d')(hl1:Zaj o w1)(hr:Zga m.d d' f (-1))(hc1:Chg Zar o o w w1) :
 Zb7 (K m.d V) o w1 mb { m with d:=d' } s/\∃ w2,(Builtin.delete_ #[131,3] 0 #[.map (some s.hb),.int .i64 k]).run prog w1=.ok (.tuple #[]) w2/\Zfs K n Od room w0 mb (delK k fs) nx o w m V o w2 { m with d:=d',hs:=delK k m.hs }:=by
 have g0:=hs.setStore h.lt hst hc1;refine⟨g0,?_⟩;obtain⟨w2,g3,g5,g1⟩:=g0.map.delete kI underlying131 k 0;refine⟨w2,g3,?_⟩;have he:delL k (encH m.hs)=encH (delK k m.hs):=by
  rw[Zz7 (Zer h.ok.handles.nodup) (v:=.int .i64 (f:Nat)) (List.mem_map.2 ⟨(k,f),hf,rfl⟩)];exact(Zrg k m.hs (fun p=>(p.1,Value.int .i64 (p.2:Nat))) (fun _=>rfl)).symm
 have g4:Zb9 w2 s.hb (Value.int .i64) (encH (delK k m.hs)):=by rw[<- he];exact g5
 have g7:=g0.setMap hl1 g4 g1;have g6:Zaj o w2:=hl1.mono g1.size;have g2:Chg (fun _=>True) o o w w2:=hc1.any.grown g1 (fun g hg=>by cases hg;exact⟨_,g0.ownh,trivial⟩);refine⟨⟨⟨s,g7.mono fun op a b c r q=>hK.same _ _ _ _ _ _ _ _ hr.vars hr.level hr.nodes q⟩,g6,⟨hr.ok h.ok.store,Zow h.ok.handles hr hf h1 h.ok.store.dag.none0⟩,?_,?_,?_,h.next,?_,h.chg.lower (ChgX.of_chg g2 NoB) (fun _ e=>e.elim)⟩,rfl,rfl,hr.nodes,hr.many,g2⟩
 .
  show d'.vars.length=n
  rw[hr.vars];exact h.vars
 .
  show Od d'.vars
  rw[hr.vars];exact h.od
 .
  show d'.pool.room=room
  rw[hr.room];exact h.room
 .
  show (delK k m.hs).map (fun p=>(p.1,ef V p.2))=delK k fs
  rw[Zrg k m.hs (fun p=>(p.1,ef V p.2)) (fun _=>rfl),h.hs]
theorem Zhr (hK:Zbh K)(h:SatE K n Od room w0 mb fs nx w o m V)(hn:nx<549755813888){a:Option Addr}{c:Nat}{ks:List Int}(hks:Zay w a ks)(hno:∀ x,a=some x->o x.block=none)
 (hin:∀ j,j<ks.length->∃ F,(at0 ks j,F)∈Zd1 fs (ks.take j)) :
 Calls prog 87 #[.pointer (some ⟨mb,0,none⟩),.slice a ks.length c] w fun x w'=>x=.returned (.int .i64 0)/\∃ o' m',Zfs K n Od room w0 mb (Zd1 fs ks) nx o w m V o' w' m':=by
 have gj:=hks.len;have g5:Hid (∃ o' m',Zfs K n Od room w0 mb (Zd1 fs (ks.take 0)) nx o w m V o' w m'/\Zay w a ks/\(∀ x,a=some x->o' x.block=none)):=Hd ⟨o,m,⟨h,rfl,rfl,rfl,rfl,Chg.refl _ _ _⟩,hks,hno⟩;have gg:=Hd hin;have HN:=Hd hn;have gf:=Hd hK;clear h hn hks hno hin hK
 go_enter func87,ntmps87
 go_wp2_with fail
 go_loopw [13] (fun s13 wr=>∃ j:Nat,j<=ks.length/\s13=.int .i64 j/\Hid (∃ o' m',Zfs K n Od room w0 mb (Zd1 fs (ks.take j)) nx o w m V o' wr m'/\Zay wr a ks/\(∀ x,a=some x->o' x.block=none))) (fun s13 _=>ks.length-(intOf s13).toNat)
 case atStart=>exact⟨0,Nat.zero_le _,rfl,g5⟩
 case round =>
  obtain⟨j,hj,rfl,HH⟩:=hrel;obtain⟨oj,mj,hh,hi,hno⟩:=HH.out
  by_cases g6:j<ks.length
  .
   obtain⟨b,off,rfl,g3⟩:=hi.cells j g6;obtain⟨s,hs⟩:=hh.sat.is;obtain⟨c0,c1,c2,c3,c4,c5,f0⟩:=cells6 hs.blk;have gk:(j:Int)<ks.length:=by omega
   obtain⟨z,hz⟩:∃ z,z=at0 ks j:=⟨_,rfl⟩;obtain⟨F,hF⟩:=gg.out j g6;rw[<- hz] at hF g3;obtain⟨f,hf,gb⟩:=hh.sat.find hF;have hl:=Zeo hs hh.sat.ok.handles.nodup hf;have g8:=Hd hh;have ge:=Hd hi;have g7:=Hd hno;have gh:Hid (b<wr.heap.size):=Hd (Zaa g3);have g2:=Hd g6;have HZ:=Hd hz;have HS:=Hd hs;have HF:=Hd hf
   by_cases h1:z>1
   .
    have HD:=Hd (Zjh hs.store hh.sat.lt hh.sat.ok hf h1 (by rw[hh.sat.next];exact HN.out));have H1:=Hd h1;clear hh hi hno hs HH g5 hz hF hf gb;go_wp2_with fail;refine HD.out.mono ?_;rintro x w1 ⟨rfl,d',g9,ga,hr,gc⟩;obtain⟨gd,w2,gi,g4⟩:=Zrh gf.out g8.out.sat HF.out H1.out HS.out g9 ga hr gc;obtain⟨e0,e1,e2,e3,e4,e5,g0⟩:=cells6 gd.blk
    have g1:Hid (Zfs K n Od room w0 mb (Zd1 fs (ks.take (j+1))) nx o w m V oj w2 { mj with d:=d',hs:=delK z mj.hs }/\Zay w2 (some ⟨b,off,none⟩) ks/\(∀ x,some (⟨b,off,none⟩:Addr)=some x->oj x.block=none)):=Hd ⟨by
     rw[Zgy g2.out,<- HZ.out,if_pos H1.out];exact g8.out.trans g4,ge.out.chg g4.chg g7.out,fun x hx=>g4.chg.alien' (by cases hx;exact gh.out) (g7.out x hx)⟩
    clear gd g9 ga hr gc g4 c0 c1 c2 c3 c4 c5 f0 g3 hl;go_wp2_with fail;go_roundw
    case rel=>exact⟨j+1,Nat.succ_le_of_lt g2.out,by go_num,Hd ⟨_,_,g1.out.1,g1.out.2.1,g1.out.2.2⟩⟩
    case measure =>
     have:=g2.out;simp[intOf];omega
   .
    have g1:Hid (Zfs K n Od room w0 mb (Zd1 fs (ks.take (j+1))) nx o w m V oj wr mj/\Zay wr (some ⟨b,off,none⟩) ks/\(∀ x,some (⟨b,off,none⟩:Addr)=some x->oj x.block=none)):=Hd ⟨by
     rw[Zgy g2.out,<- HZ.out,if_neg h1];exact g8.out,ge.out,g7.out⟩
    clear hh hi hno hs HH g5 hz hF hf gb;go_wp2_with fail;go_roundw
    case rel=>exact⟨j+1,Nat.succ_le_of_lt g2.out,by go_num,Hd ⟨_,_,g1.out.1,g1.out.2.1,g1.out.2.2⟩⟩
    case measure =>
     have:=g2.out;simp[intOf];omega
  .
   obtain rfl:j=ks.length:=by omega
   have HF:Hid (∃ o' m',Zfs K n Od room w0 mb (Zd1 fs ks) nx o w m V o' wr m'):=Hd ⟨oj,mj,by rw[List.take_length] at hh;exact hh⟩;clear hh hi hno HH g5;go_wp2_with fail;go_ret;exact⟨rfl,HF.out⟩
end
open Go.RowKit
section
variable {K:Law}{n:Nat}{Od:List Nat->Prop}{room:Nat}{w0 w w':World}{mb:Nat}{fs:List (Int×BF)}{nx:Int}{o o':Own}{m m':ManD}{V V':Nat->BF}
structure Swapped (K:Law)(n room:Nat)(w0:World)(mb:Nat)(fs:List (Int×BF))(nx:Int)(k:Nat)(o:Own)(w:World)(m:ManD)(o':Own)(w':World)(m':ManD)(V':Nat->BF):Prop where
 sat:SatE K n (fun l=>l=(Zep m.d k).vars) room w0 mb fs nx w' o' m' V'
 waits:m'.waits=m.waits
 calls:m'.calls=m.calls
 dead:m'.d.dead=0
 chg:Chg (fun _=>True) o o' w w'
theorem Zs6 (h:SatE K n Od room w0 mb fs nx w o m V){k:Nat}(hk1:k+1<n)(hn:nx<=549755813888)(hr:3*(fs.length*2^n)<=room) :
 Calls prog 130 #[.pointer (some ⟨mb,0,none⟩),.int .i64 k] w fun e w'=>e=.returned (.int .i64 0)/\∃ o' m' V',Swapped K n room w0 mb fs nx k o w m o' w' m' V':=by
 refine(Zqs h hk1 hn).mono ?_;rintro e w' ⟨o',m',V',hm⟩;obtain⟨d0,cr,⟨rfl,e1,e2,g0⟩|⟨rfl,so⟩⟩:=hm.way
 . exfalso;have h1:=hm.sat.few (by rw[e1];exact cr.dead);have h2:=hm.sat.room;rw[e1] at h1 h2;omega
 . refine⟨rfl,o',m',V',⟨hm.sat.withOd ?_,hm.waits,hm.calls,so.dead,hm.chg⟩⟩;rw[so.vars];unfold Zep;dsimp only;rw[cr.vars]
theorem Zqr (h:SatE K n Od room w0 mb fs nx w o m V){k l:Int}{F G:BF}(hk:(k,F)∈fs)(hl:(l,G)∈fs) :
 Calls prog 84 #[.pointer (some ⟨mb,0,none⟩),.int .i64 k,.int .i64 l] w fun x w'=>∃ b:Bool,x=.returned (.tuple #[.bool b,.int .i64 0])/\(b=true↔F=G)/\w=w':=by
 obtain⟨f,hf,rfl⟩:=h.find hk;obtain⟨g,hg,rfl⟩:=h.find hl;refine(Zyj h.is h.ok.handles.nodup hf hg).mono ?_;rintro x w' ⟨rfl,rfl⟩;refine⟨_,rfl,?_,rfl⟩;rw[beq_iff_eq];exact⟨fun e=>by rw[e],fun e=>h.ok.store.dag.canon (h.ok.handles.ok _ hf) (h.ok.handles.ok _ hg) e⟩
end
open Go.RowKit
theorem Zh9 {α:Type}{p:Int×α}:∀ {ks:List Int} {l:List (Int×α)},p∈l->p.1∉ks->p∈Zd1 l ks
 | [],l,h,_=>h
 | k::ks,l,h,hn=>by
   show p∈Zd1 (if 1<k then delK k l else l) ks
   simp only[List.mem_cons,not_or] at hn;refine Zh9 ?_ hn.2;split
   . exact Zju.2 ⟨h,hn.1⟩
   . exact h
theorem Zxc {α:Type}{l r:List (Int×α)}{p:Int×α}(h:((l++p::r).map Prod.fst).Nodup):delK p.1 (l++p::r)=l++r:=by
 rw[List.map_append,List.map_cons,List.nodup_append] at h;obtain⟨h1,h2,h3⟩:=h;have hl:∀ q∈l,q.1≠p.1:=fun q hq e=>h3 q.1 (List.mem_map.2 ⟨q,hq,rfl⟩) p.1 (List.mem_cons_self ..) e
 have hr:∀ q∈r,q.1≠p.1:=fun q hq e=>(List.nodup_cons.1 h2).1 (List.mem_map.2 ⟨q,hq,e⟩)
 have e1:delK p.1 (l++p::r)=delK p.1 l++delK p.1 r:=by
  unfold delK;rw[List.filter_append,List.filter_cons];simp
 rw[e1,Zkd hl,Zkd hr]
theorem Zke {α:Type}:∀ (hs l r:List (Int×α)),((l++(hs++r)).map Prod.fst).Nodup->(∀ p∈hs,1<p.1)->Zd1 (l++(hs++r)) (hs.map Prod.fst)=l++r
 | [],l,r,_,_=>rfl
 | p::hs,l,r,hn,h1=>by
   show Zd1 (if 1<p.1 then delK p.1 (l++(p::(hs++r))) else l++(p::(hs++r))) (hs.map Prod.fst)=_
   have hn':((l++p::(hs++r)).map Prod.fst).Nodup:=hn;rw[if_pos (h1 p (List.mem_cons_self ..)),Zxc hn'];refine Zke hs l r ?_ (fun q hq=>h1 q (List.mem_cons_of_mem _ hq));have:=hn;rw[List.map_append,List.nodup_append] at this ⊢;obtain⟨q1,q2,q3⟩:=this;exact⟨q1,(List.nodup_cons.1 q2).2,fun x hx y hy=>q3 x hx y (List.mem_cons_of_mem _ hy)⟩
section
variable {K:Law}{n:Nat}{Od:List Nat->Prop}{room:Nat}{w0 w w':World}{mb:Nat}{fs:List (Int×BF)}{nx:Int}{o o':Own}{m m':ManD}{V V':Nat->BF}
theorem SatE.fst (h:SatE K n Od room w0 mb fs nx w o m V):fs.map Prod.fst=m.hs.map Prod.fst:=by rw[<- h.hs,List.map_map];rfl
theorem SatE.nodup (h:SatE K n Od room w0 mb fs nx w o m V):(fs.map Prod.fst).Nodup:=by rw[h.fst];exact h.ok.handles.nodup
theorem SatE.range (h:SatE K n Od room w0 mb fs nx w o m V):∀ p∈fs,0<=p.1/\p.1<nx:=by
 intro p hp;rw[<- h.hs] at hp;obtain⟨q,hq,rfl⟩:=List.mem_map.1 hp;rw[<- h.next];exact h.ok.handles.lt q hq
structure B2 (fs:List (Int×BF)):Prop where
 zero:(0,fun _=>false)∈fs
 one:(1,fun _=>true)∈fs
theorem B2.app {fs:List (Int×BF)}(h:B2 fs)(hs:List (Int×BF)):B2 (fs++hs):=⟨List.mem_append_left _ h.zero,List.mem_append_left _ h.one⟩
theorem SatE.gt {hs:List (Int×BF)}(h:SatE K n Od room w0 mb (fs++hs) nx w o m V)(hb:B2 fs):∀ p∈hs,1<p.1:=by
 intro p hp;have h1:=(h.range p (List.mem_append_right _ hp)).1;have h2:=h.nodup;rw[List.map_append,List.nodup_append] at h2;have h3:=fun k hk=>h2.2.2 k hk p.1 (List.mem_map.2 ⟨p,hp,rfl⟩)
 have h4:=h3 0 (List.mem_map.2 ⟨_,hb.zero,rfl⟩);have h5:=h3 1 (List.mem_map.2 ⟨_,hb.one,rfl⟩);omega
theorem Zko (hK:Zbh K){hs r:List (Int×BF)}(h:SatE K n Od room w0 mb (fs++(hs++r)) nx w o m V)(hb:B2 fs)(hn:nx<549755813888){a:Option Addr}{c:Nat}(hks:Zay w a (hs.map Prod.fst))(hno:∀ x,a=some x->o x.block=none) :
 Calls prog 87 #[.pointer (some ⟨mb,0,none⟩),.slice a hs.length c] w fun x w'=>x=.returned (.int .i64 0)/\∃ o' m',Zfs K n Od room w0 mb (fs++r) nx o w m V o' w' m':=by
 have g0:=h.nodup;have g3:=h.gt hb;have e:Zd1 (fs++(hs++r)) (hs.map Prod.fst)=fs++r:=Zke hs fs r g0 (fun p hp=>g3 p (List.mem_append_left _ hp));have:=Zhr hK h hn (c:=c) hks hno fun j hj=>by
  have g1:j<hs.length:=by simpa using hj
  have e1:at0 (hs.map Prod.fst) j=hs[j].1:=by rw[Zby hj];simp
  refine⟨hs[j].2,?_⟩;rw[e1];refine Zh9 (List.mem_append_right _ (List.mem_append_left _ (List.getElem_mem g1))) ?_;rw[List.map_append,List.nodup_append,List.map_append,List.nodup_append] at g0;have hh:=g0.2.1.1;intro hc;obtain⟨i,hi,e2⟩:=List.getElem_of_mem hc;have g2:i<j:=by simp at hi;omega
  rw[List.getElem_take] at e2;exact(List.pairwise_iff_getElem.1 hh) i j (by simp;omega) hj g2 (by rw[e2];simp)
 rw[e,List.length_map] at this;exact this
theorem Zpg {ws0:List Ev}{lim:Option Nat}{k:Nat}{F:BF}{x:Ending}(hp:Zi4 K n Od room w0 mb fs nx ws0 lim k F o w x w')(hk:k<=2^n)(hr:(fs.length+1)*2^n<=room) :
 ∃ o' m' V',ChgX NoB o o' w w'/\m'.waits <:+ ws0/\x=.returned (.tuple #[.int .i64 nx,.int .i64 0])/\SatE K n Od room w0 mb (fs++[(nx,F)]) (nx+1) w' o' m' V':=by
 obtain⟨o',m',V',h1,h2,⟨h3,_,h4⟩|⟨_,_,_,m0,⟨W,oo,VV,hs⟩,h5,h6⟩⟩:=hp
 . exact⟨o',m',V',h1,h2,h3,h4⟩
 . exfalso;have:=hs.few h5;rw[Nat.add_mul] at hr;omega
theorem Zl5 {M k:Nat}{F:BF}{x:Ending}(hp:Zi4 K n Od room w0 mb fs nx [] (some M) k F o w x w') :
 ∃ o' m' V',ChgX NoB o o' w w'/\(m'.waits=[]/\m'.d.pool.many<=M+k)/\x=.returned (.tuple #[.int .i64 nx,.int .i64 0])/\SatE K n Od room w0 mb (fs++[(nx,F)]) (nx+1) w' o' m' V':=by
 obtain⟨o',m',V',h1,h2,⟨h3,h5,h4⟩|⟨_,h,_⟩⟩:=hp
 . exact⟨o',m',V',h1,⟨by simpa using h2,h5 M rfl⟩,h3,h4⟩
 . cases h
end
open Go.RowKit
def cntT:Nat->(Nat->Bool)->Nat
 | 0,_=>0
 | k+1,f=>cntT k f+(if f k then 1 else 0)
theorem Zfi (k:Nat)(f:Nat->Bool):cntT (k+1) f=cntT k f+(if f k then 1 else 0):=rfl
theorem Zum (f:Nat->Bool):∀ k,cntT k f<=k
 | 0=>Nat.le_refl _
 | k+1=>by
   have:=Zum f k;rw[Zfi];split<;>omega
def opB (op:Int)(n:Nat)(f:Nat->Bool):Bool :=
 if op=1 then true else if op=4 then decide (cntT n f=0) else if op=5 then decide (cntT n f=n) else if op=6 then decide (0<cntT n f) else if op=7 then decide (cntT n f%2=1)
 else if op=8 then (!f 0||f 1) else if op=9 then decide (cntT n f≠1) else if op=10 then iteB (f 0) (f 1) (f 2) else false
def fnT:ExT->BF
 | .nil=>fun _=>false
 | .mk op v n kid=>fun ρ=>if op=3 then ρ v.toNat else opB op n fun i=>fnT (kid i) ρ
def notF (F:BF):BF:=fun ρ => !F ρ
def Zo3 (op:Int)(F G:BF):BF :=
 if op=5 then Zcf F G (fun _=>false) else if op=6 then Zcf F (fun _=>true) G else if op=8 then Zcf F G (fun _=>true) else if op=7 then Zcf F (notF G) G else Zcf F G (notF G)
def accT (op:Int)(kid:Nat->ExT):Nat->BF
 | 0=>fun _=>decide (op=5)
 | k+1=>Zo3 op (accT op kid k) (fnT (kid k))
theorem Zza (kid:Nat->ExT)(ρ:Nat->Bool):∀ k,accT 5 kid k ρ=decide (cntT k (fun i=>fnT (kid i) ρ)=k)
 | 0=>rfl
 | k+1=>by
   have h1:accT 5 kid (k+1) ρ=iteB (accT 5 kid k ρ) (fnT (kid k) ρ) false:=rfl;have h2:=Zum (fun i=>fnT (kid i) ρ) k;rw[h1,Zza kid ρ k,Zfi];unfold iteB;cases hf:fnT (kid k) ρ
   .
    have:(cntT k fun i=>fnT (kid i) ρ)+0≠k+1:=by omega
    simp only[Bool.false_eq_true,if_false,decide_eq_false this];split<;>rfl
   . simp
theorem Zzb (kid:Nat->ExT)(ρ:Nat->Bool):∀ k,accT 6 kid k ρ=decide (0<cntT k (fun i=>fnT (kid i) ρ))
 | 0=>rfl
 | k+1=>by
   have h1:accT 6 kid (k+1) ρ=iteB (accT 6 kid k ρ) true (fnT (kid k) ρ):=rfl;rw[h1,Zzb kid ρ k,Zfi];unfold iteB;cases hf:fnT (kid k) ρ<;>simp
theorem Zzc (kid:Nat->ExT)(ρ:Nat->Bool):∀ k,accT 7 kid k ρ=decide (cntT k (fun i=>fnT (kid i) ρ)%2=1)
 | 0=>rfl
 | k+1=>by
   have h1:accT 7 kid (k+1) ρ=iteB (accT 7 kid k ρ) (!(fnT (kid k) ρ)) (fnT (kid k) ρ):=rfl;rw[h1,Zzc kid ρ k,Zfi];unfold iteB;rcases Nat.mod_two_eq_zero_or_one (cntT k fun i=>fnT (kid i) ρ) with e|e
   . cases hf:fnT (kid k) ρ<;>simp[e]<;>omega
   . cases hf:fnT (kid k) ρ<;>simp[e]<;>omega
theorem Yag {op:Int}(h:op=5\/op=6\/op=7)(v:Int)(n:Nat)(kid:Nat->ExT):fnT (.mk op v n kid)=accT op kid n:=by
 funext ρ;rcases h with rfl|rfl|rfl
 . rw[Zza];rfl
 . rw[Zzb];rfl
 . rw[Zzc];rfl
theorem Zre (f:Nat->Bool):cntT 1 f=if f 0 then 1 else 0:=by rw[Zfi];exact Nat.zero_add _
theorem Zw9 (f:Nat->Bool):cntT 2 f=(if f 0 then 1 else 0)+(if f 1 then 1 else 0):=by rw[Zfi,Zre]
theorem Yai (v:Int)(kid:Nat->ExT):fnT (.mk 4 v 1 kid)=notF (fnT (kid 0)):=by
 funext ρ
 show decide (cntT 1 (fun i=>fnT (kid i) ρ)=0) = !(fnT (kid 0) ρ)
 rw[Bool.eq_iff_iff,decide_eq_true_iff,Zre];cases fnT (kid 0) ρ<;>simp
theorem Yah (v:Int)(kid:Nat->ExT):fnT (.mk 10 v 3 kid)=Zcf (fnT (kid 0)) (fnT (kid 1)) (fnT (kid 2)):=rfl
theorem Zxh {op:Int}(h:op=8\/op=9)(v:Int)(kid:Nat->ExT):fnT (.mk op v 2 kid)=Zo3 op (fnT (kid 0)) (fnT (kid 1)):=by
 funext ρ;rcases h with rfl|rfl
 .
  show (!fnT (kid 0) ρ||fnT (kid 1) ρ)=iteB (fnT (kid 0) ρ) (fnT (kid 1) ρ) true
  unfold iteB;cases fnT (kid 0) ρ<;>simp
 .
  show decide (cntT 2 (fun i=>fnT (kid i) ρ)≠1)=iteB (fnT (kid 0) ρ) (fnT (kid 1) ρ) (!fnT (kid 1) ρ)
  rw[Bool.eq_iff_iff,decide_eq_true_iff,Zw9];unfold iteB;cases fnT (kid 0) ρ<;>cases fnT (kid 1) ρ<;>simp
theorem Zou {op:Int}(h:op=1\/op=2)(v:Int)(n:Nat)(kid:Nat->ExT):fnT (.mk op v n kid)=fun _=>decide (op=1):=by
 rcases h with rfl|rfl<;>rfl
theorem Yaj (v:Nat)(n:Nat)(kid:Nat->ExT):fnT (.mk 3 v n kid)=varF v:=by
 funext ρ;rfl
def DepF (n:Nat)(F:BF):Prop:=∀ ρ ρ':Nat->Bool,(∀ i,i<n->ρ i=ρ' i)->F ρ=F ρ'
theorem Zpd {f:Nat->List Int}{i:Nat}{x:Int}:∀ {n:Nat},i<n->x∈f i->x∈Zg9 n f
 | 0,h,_=>by omega
 | k+1,h,hx=>by
   unfold Zg9;rcases Nat.lt_or_ge i k with h'|h'
   . exact List.mem_append_left _ (Zpd h' hx)
   .
    obtain rfl:i=k:=by omega
    exact List.mem_append_right _ hx
theorem Zuc (n:Nat)(ρ:Nat->Bool):∃ i,i<2^n/\∀ v,v<n->bitB i v=ρ v:=by
 induction n with
 | zero=>exact⟨0,by simp,fun v hv=>by omega⟩
 | succ n ih =>
   obtain⟨i,hi,hb⟩:=ih;have hp:0<2^n:=Nat.pow_pos (by omega);refine⟨i+(if ρ n then 2^n else 0),by rw[Nat.pow_succ];split<;>omega,fun v hv=>?_⟩;rcases Nat.lt_or_ge v n with h|h
   .
    rw[<- hb v h];unfold bitB;split
    .
     obtain⟨k,rfl⟩:∃ k,n=v+(k+1):=⟨n-v-1,by omega⟩;have e1:(2:Nat)^(v+(k+1))=2^v*(2*2^k):=by rw[Nat.pow_add,Nat.pow_succ];ac_rfl
     rw[e1,Nat.add_mul_div_left _ _ (Nat.pow_pos (by omega)),Nat.add_mul_mod_self_left]
    . rw[Nat.add_zero]
   .
    obtain rfl:v=n:=by omega
    unfold bitB;cases hr:ρ v with
    | true =>
      rw[if_pos rfl,Nat.add_div_right _ hp,Nat.div_eq_of_lt hi];rfl
    | false =>
      rw[if_neg (by simp),Nat.add_zero,Nat.div_eq_of_lt hi];rfl
theorem Ya9 {n:Nat}{F G:BF}(hF:DepF n F)(hG:DepF n G)(h:tabB n F=tabB n G):F=G:=by
 funext ρ;obtain⟨i,hi,hb⟩:=Zuc n ρ;have e:∀ v,v<n->ρ v=Zcc (Zcq i n) v:=fun v hv=>by rw[Zfk,hb v hv];simp[hv]
 rw[hF ρ _ e,hG ρ _ e,<- Zfa (F:=F) hi,<- Zfa (F:=G) hi,h]
open Go.RowKit
theorem Zq6 {n:Nat}{f:Nat->Nat}(h1:∀ i,i<n->f i<n)(h2:∀ i j,i<n->j<n->f i=f j->i=j){j:Nat}(hj:j<n):∃ i,i<n/\f i=j:=by
 by_cases h:∃ i,i<n/\f i=j
 . exact h
 exfalso;have g0:∀ i,i<n->f i≠j:=fun i hi e=>h ⟨i,hi,e⟩
 have g1:(j::(List.range n).map f).Nodup:=by
  refine List.nodup_cons.2 ⟨?_,?_⟩
  . intro hm;obtain⟨i,hi,e⟩:=List.mem_map.1 hm;exact g0 i (List.mem_range.1 hi) e
  . refine List.pairwise_map.2 (List.nodup_range.imp_of_mem ?_);intro a b ha hb g2 e;exact g2 (h2 a b (List.mem_range.1 ha) (List.mem_range.1 hb) e)
 have:=Zid n _ g1 (fun x hx=>by
  rcases List.mem_cons.1 hx with rfl|hx
  . exact hj
  . obtain⟨i,hi,rfl⟩:=List.mem_map.1 hx;exact h1 i (List.mem_range.1 hi))
 simp at this;omega
theorem Zz3 {zs:List Int}{v:Int}{p:Nat}(h:at0 zs p=v)(hu:∀ i,i<zs.length->at0 zs i=v->i=p):∀ k,k<=zs.length->cntP zs v k=if p<k then 1 else 0
 | 0,_=>by simp[cntP]
 | k+1,hk=>by
   have ih:=Zz3 h hu k (by omega)
   by_cases e:at0 zs k=v
   . have:=hu k (by omega) e;subst this;rw[Zft (by omega) e,ih];simp
   .
    rw[Zqe (by omega) e,ih];have:p≠k:=fun e2=>e (by rw[<- e2];exact h)
    by_cases h3:p<k
    . rw[if_pos h3,if_pos (by omega)]
    . rw[if_neg h3,if_neg (by omega)]
theorem Zgd {zs:List Int}{v:Int}{i:Nat}:∀ {j:Nat},i<=j->j<=zs.length->cntP zs v i<=cntP zs v j
 | 0,h,_=>by
   obtain rfl:i=0:=by omega
   exact Nat.le_refl _
 | j+1,h,hj=>by
   rcases Nat.lt_or_ge i (j+1) with h'|h'
   .
    have:=Zgd (zs:=zs) (v:=v) (show i<=j by omega) (by omega)
    by_cases e:at0 zs j=v
    . rw[Zft (by omega) e];omega
    . rw[Zqe (by omega) e];omega
   .
    obtain rfl:i=j+1:=by omega
    exact Nat.le_refl _
structure Zzt (zs:List Int)(n:Nat):Prop where
 len:zs.length=n
 lt:∀ i,i<n->∃ v:Nat,v<n/\at0 zs i=(v:Nat)
 inj:∀ i j,i<n->j<n->at0 zs i=at0 zs j->i=j
theorem Zx9 {zs:List Int}{n:Nat}(h:Zgo zs n=true):Zzt zs n:=by
 unfold Zgo at h;rw[decide_eq_true_eq] at h;obtain⟨h1,h2⟩:=h;have g2:zs.length=n:=by omega
 subst g2;have hp:∀ v:Nat,v<zs.length->∃ p,p<zs.length/\at0 zs p=(v:Nat):=by
  intro v hv;have e:=h2 v hv;unfold cntP at e;rw[List.take_length] at e;have hm:0<(zs.filter (fun z=>decide (z=(v:Int)))).length:=by omega
  obtain⟨z,hz⟩:=List.length_pos_iff_exists_mem.1 hm;obtain⟨q1,q2⟩:=List.mem_filter.1 hz;obtain⟨i,hi,e2⟩:=List.getElem_of_mem q1;refine⟨i,hi,?_⟩;rw[Zby hi,e2];simpa using q2
 have g0:∀ i,i<zs.length->∃ v,v<zs.length/\at0 zs i=(v:Nat):=by
  have hc:∃ f:Nat->Nat,∀ v,v<zs.length->f v<zs.length/\at0 zs (f v)=(v:Nat):=by
   refine⟨fun v=>if hv:v<zs.length then Classical.choose (hp v hv) else 0,fun v hv=>?_⟩;dsimp only;rw[dif_pos hv];exact Classical.choose_spec (hp v hv)
  obtain⟨f,hf⟩:=hc;intro i hi
  obtain⟨v,hv,e⟩:=Zq6 (n:=zs.length) (f:=f) (fun v hv=>(hf v hv).1) (fun a b ha hb e=>by
   have e1:=(hf a ha).2;have e2:=(hf b hb).2;rw[e,e2] at e1;omega) hi
  exact⟨v,hv,by rw[<- e];exact(hf v hv).2⟩
 refine⟨rfl,g0,fun i j hi hj e=>?_⟩;obtain⟨v,hv,ei⟩:=g0 i hi;have ec:=h2 v hv;have ej:at0 zs j=(v:Nat):=by rw[<- e];exact ei
 rcases Nat.lt_trichotomy i j with g1|rfl|g1
 . have a1:=Zft hi ei;have a2:=Zft hj ej;have a3:=Zgd (zs:=zs) (v:=(v:Nat)) (show i+1<=j by omega) (by omega);have a4:=Zgd (zs:=zs) (v:=(v:Nat)) (show j+1<=zs.length by omega) (Nat.le_refl _);omega
 . rfl
 . have a1:=Zft hi ei;have a2:=Zft hj ej;have a3:=Zgd (zs:=zs) (v:=(v:Nat)) (show j+1<=i by omega) (by omega);have a4:=Zgd (zs:=zs) (v:=(v:Nat)) (show i+1<=zs.length by omega) (Nat.le_refl _);omega
theorem Zzz {l:List Nat}{i:Nat}(hi:i<l.length):at0 (l.map Int.ofNat) i=(l.getD i 0:Nat):=by
 rw[Zby (by simpa using hi)];simp[List.getD,hi]
theorem Zan.mem {d:Zag}{V:Nat->BF}(h:Zan d V){v:Nat}(hv:v<d.vars.length):∃ i,i<d.vars.length/\d.vars.getD i 0=v:=⟨levN d v,h.dag.lt v hv,h.inv v hv⟩
theorem Zan.inj {d:Zag}{V:Nat->BF}(h:Zan d V){i j:Nat}(hi:i<d.vars.length)(hj:j<d.vars.length)(e:d.vars.getD i 0=d.vars.getD j 0):i=j:=by
 have a:=(h.vlt i hi).2;have b:=(h.vlt j hj).2;rw[e,b] at a;exact a.symm
def exL (l:List Nat)(k:Nat):List Nat:=(l.set k (l.getD (k+1) 0)).set (k+1) (l.getD k 0)
theorem Zxf {l:List Nat}{k:Nat}(h:k+1<l.length):(exL l k).getD k 0=l.getD (k+1) 0:=by
 unfold exL;simp[List.getD,List.getElem?_set,h,show k<l.length by omega]
theorem Ybn {l:List Nat}{k i:Nat}(h1:i≠k)(h2:i≠k+1):(exL l k).getD i 0=l.getD i 0:=by
 unfold exL;simp only[List.getD,List.getElem?_set];rw[if_neg (fun e=>h2 e.symm),if_neg (fun e=>h1 e.symm)]
theorem Zwu (d:Zag)(k:Nat):(Zep d k).vars=exL d.vars k:=rfl
open Go.RowKit
structure LawT (K:Law)(n:Nat)(Od:List Nat->Prop)(room:Nat)(w0:World)(mb:Nat)(fs:List (Int×BF))(nx:Int)(Wt:List Ev->Int->Prop)(hl hx:List (Int×BF))(W:World)(o:Own)(m:ManD)(V:Nat->BF)(vl vx:Value):Prop where
 sat:SatE K n Od room w0 mb fs nx W o m V
 b2:B2 fs
 st:Wt m.waits m.calls
 l:LawL W o w0.heap.size vl (hl.map Prod.fst)
 x:LawX W o w0.heap.size vx (hx.map fun p=>tabB n p.2)
section
variable {K:Law}{n:Nat}{Od:List Nat->Prop}{room:Nat}{w0:World}{mb:Nat}{fs:List (Int×BF)}{nx:Int}{Wt:List Ev->Int->Prop}{hl hx hs:List (Int×BF)}{W W' w:World}{o o':Own}{m m':ManD}{V V':Nat->BF}{vl vx v' v:Value}{p:Int×BF}
theorem LawT.below (h:LawT K n Od room w0 mb fs nx Wt hl hx W o m V vl vx)(hb:Below W.heap.size W W'):LawT K n Od room w0 mb fs nx Wt hl hx W' o m V vl vx :=
 ⟨h.sat.below hb,h.b2,h.st,h.l.chg (Zb3 hb o),h.x.chg (Zb3 hb o)⟩
theorem LawT.below0 (h:LawT K n Od room w0 mb fs nx Wt hl hx W o m V vl vx):Below w0.heap.size w0 W:=h.sat.chg.below0
theorem LawT.go {Od':List Nat->Prop}{fs':List (Int×BF)}{nx':Int}{Wt':List Ev->Int->Prop}(h:LawT K n Od room w0 mb fs nx Wt hl hx W o m V vl vx)(hs:SatE K n Od' room w0 mb fs' nx' W' o' m' V')(hb:B2 fs')(ht:Wt' m'.waits m'.calls)(hc:ChgX NoB o o' W W') :
 LawT K n Od' room w0 mb fs' nx' Wt' hl hx W' o' m' V' vl vx:=⟨hs,hb,ht,h.l.chg hc,h.x.chg hc⟩
theorem LawT.withOd {Od':List Nat->Prop}(h:LawT K n Od room w0 mb fs nx Wt hl hx W o m V vl vx)(hO:Od' m.d.vars):LawT K n Od' room w0 mb fs nx Wt hl hx W o m V vl vx:=⟨h.sat.withOd hO,h.b2,h.st,h.l,h.x⟩
theorem LawT.withSt {Wt':List Ev->Int->Prop}(h:LawT K n Od room w0 mb fs nx Wt hl hx W o m V vl vx)(hO:Wt' m.waits m.calls):LawT K n Od room w0 mb fs nx Wt' hl hx W o m V vl vx:=⟨h.sat,h.b2,hO,h.l,h.x⟩
theorem LawT.appL (h:LawT K n Od room w0 mb fs nx Wt hl hx W o m V vl vx)(hown:OwnC 3 W' w0.heap.size v' (Za1 (hl.map Prod.fst)++[.int .i64 p.1]))(e1:W'.os=W.os)(e2:W'.tape=W.tape)(e3:W'.output=W.output)(e4:W.heap.size<=W'.heap.size)(hk:Zcp vl v' W W') :
 LawT K n Od room w0 mb fs nx Wt (hl++[p]) hx W' o m V v' vx:=by
 have hw:=Zmj e1 e2 e3 e4 hk;refine⟨h.sat.other hw (fun k _ hk=>⟨(h.l.own.lt k hk).1,h.l.no k hk⟩),h.b2,h.st,?_,h.x.typ hw (by decide) (by decide) h.l.own.typed⟩;rw[List.map_append];exact h.l.app h.sat.lt hown hk
theorem LawT.appX {bs:List Bool}(h:LawT K n Od room w0 mb fs nx Wt hl hx W o m V vl vx)(hb:LawB W o w0.heap.size v bs)(hbs:bs=tabB n p.2){rs:List Value}(hrs:rs.length=hx.length)(hrow:OwnC 55 W w0.heap.size vx rs)(hall:∀ i v,rs[i]?=some v->LawB W o w0.heap.size v ((hx.map fun p=>tabB n p.2).getD i []))
 (hown:OwnC 55 W' w0.heap.size v' (rs++[v])) (e1:W'.os=W.os) (e2:W'.tape=W.tape) (e3:W'.output=W.output) (e4:W.heap.size<=W'.heap.size) (hk:Zcp vx v' W W'):LawT K n Od room w0 mb fs nx Wt hl (hx++[p]) W' o m V vl v':=by
 have hw:=Zmj e1 e2 e3 e4 hk;refine⟨h.sat.other hw (fun k _ hk=>⟨(hrow.lt k hk).1,h.x.no k hk⟩),h.b2,h.st,h.l.typ hw (by decide) hrow.typed,?_⟩;rw[List.map_append];have:=h.x.app h.sat.lt (by simp[hrs]) hall hw hrow.typed hb hown hk;rw[hbs] at this;exact this
theorem LawT.row (h:LawT K n Od room w0 mb fs nx Wt hs hs W o m V vl vx)(hsub:∀ p∈hs,p∈fs)(hsm:hs.length<=1000) :
 LawR (fun g=>w0.heap.size<=g/\g<W.heap.size/\o g=none/\∃ cur,W.heap[g]?=some (.cells cur 4 (0,0))) n fs W vl vx hs:=Zvg h.l h.x hsub hsm
structure LawF (W:World)(o:Own)(v:Value)(bs:List Bool):Prop where
 is:Zbw W v bs
 no:∀ k,v.ownBlock=some k->k<W.heap.size/\o k=none/\∃ cur,W.heap[k]?=some (.cells cur 4 (0,0))
theorem LawF.chg {bs:List Bool}(h:LawF W o v bs)(hc:ChgX NoB o o' W W'):LawF W' o' v bs :=
 ⟨h.is.same fun k hk=>hc.block k (h.no k hk).1 (h.no k hk).2.1 (fun e=>e),fun k hk=>by
  obtain⟨h1,h2,cur,h3⟩:=h.no k hk;exact⟨Nat.lt_of_lt_of_le h1 hc.size,hc.none' h1 h2,cur,(hc.block k h1 h2 (fun e=>e)).trans h3⟩⟩
theorem LawF.tab {F:BF}(h:LawF W o v (tabB n F)):∃ a c,v=.slice a (2^n) c/\Zbz W a (tabB n F):=by
 obtain⟨a,c,e,h1,_⟩:=h.is;rw[Za6] at e;exact⟨a,c,e,h1⟩
theorem Zmb (n:Nat)(F G H:BF)(au av aw:Option Addr)(cu cv cw:Nat)(w:World)(h1:Zbz w au (tabB n F))(h2:Zbz w av (tabB n G))(h3:Zbz w aw (tabB n H)) :
 Calls prog 153 #[.slice au (2^n) cu,.slice av (2^n) cv,.slice aw (2^n) cw] w fun x w'=>∃ g,x=.returned (.slice (some ⟨g,0,none⟩) (2^n) (2^n))/\OwnB w' w.heap.size (.slice (some ⟨g,0,none⟩) (2^n) (2^n)) (tabB n (Zcf F G H))/\Below w.heap.size w w':=by
 have:=Ztf (tabB n F) (tabB n G) (tabB n H) (by simp[Za6]) (by simp[Za6]) au av aw cu cv cw w h1 h2 h3;rw[Za6] at this;rw[show iteL (tabB n F) (tabB n G) (tabB n H)=tabB n (Zcf F G H) from Zxo n F G H] at this;exact this
theorem Zqu (h:LawT K n Od room w0 mb fs nx Wt hs hs W o m V vl vx)(hsub:∀ p∈hs,p∈fs)(hn:n<=16)(hl:hs.length<=100)(k:Int) :
 Calls prog 32 #[.int .i64 n,vl,vx,.int .i64 k] W fun x w'=>∃ a F v,x=.returned (.tuple #[.int .i64 a,v])/\(a,F)∈fs/\LawF w' o v (tabB n F)/\Below W.heap.size W w':=by
 refine(Yaz hn h.b2.zero (h.row hsub (by omega)) k).mono ?_;rintro x w' ⟨a,F,v,rfl,h1,h2,h3,h4⟩;refine⟨a,F,v,rfl,h1,⟨h2,fun g hg=>?_⟩,h4⟩;rcases h3 g hg with ⟨_,h6,h7,cur,h8⟩|⟨h5,cur,h6⟩
 . exact⟨Nat.lt_of_lt_of_le h6 h4.size,h7,cur,(h4.block g h6).trans h8⟩
 . exact⟨(Array.getElem?_eq_some_iff.1 h6).1,h.sat.lt.none h5,cur,h6⟩
end
open Go.RowKit
theorem Ztg (bu:List Bool)(au:Option Addr)(cu:Nat)(w:World)(h1:Zbz w au bu) :
 Calls prog 97 #[.slice au bu.length cu] w fun x w'=>∃ g,x=.returned (.slice (some ⟨g,0,none⟩) bu.length bu.length)/\OwnB w' w.heap.size (.slice (some ⟨g,0,none⟩) bu.length bu.length) (bu.map (!·))/\Below w.heap.size w w':=by
 have hlen:=h1.len;obtain⟨L,hL⟩:∃ L,L=bu.length:=⟨_,rfl⟩;have H1:=Hd h1;have g1:=Hd hL;rw[<- hL] at hlen ⊢;clear hL h1
 go_enter func97,ntmps97
 go_wp2_with (at_make;refine Zee Zen rfl _ _ rfl w.heap.size w _ L rfl rfl rfl (by omega) (Nat.le_refl _) (Below.refl _ _) ?_;intro g w1 g3 g6 hs1 ge gc gb;clear gb)
 go_loopw [4] (fun s4 wr=>∃ j:Nat,j<=L/\s4=.int .i64 j/\OwnB wr w.heap.size (.slice (some ⟨g,0,none⟩) L L) ((bu.map (!·)).take j++(List.replicate L false).drop j)/\Below w.heap.size w wr) (fun s4 _=>L-(intOf s4).toNat)
 case atStart=>exact⟨0,by omega,rfl,by unfold OwnB;simpa [Zbq] using g3,g6⟩
 case round =>
  clear g3 g6;obtain⟨j,hj,rfl,g0,g2⟩:=hrel
  by_cases g5:j<L
  .
   have g9:j<(bu.map (!·)).length:=by simp[<- g1.out];exact g5
   obtain⟨b1,of1,e1,c1⟩:=(H1.out.below g2).cells j (by rw[<- g1.out];exact g5);have q0:=g0.cellB j (by have:=g1.out;simp;omega);have p0:=g0.frozen j;subst e1;have g7:=Hd g0;have g8:=Hd g2;obtain⟨y1,g4⟩:∃ y,y=bu.getD j false:=⟨_,rfl⟩;rw[<- g4] at c1
   have HY:Hid ((bu.map (!·))[j] = !y1):=Hd (by
    have ga:j<bu.length:=by rw[<- g1.out];exact g5
    rw[g4];simp[ga])
   clear g0 g2 g4 H1;go_wp2_with fail;go_roundw
   case rel =>
    refine⟨j+1,by omega,by go_num,?_,g8.out.setCell gc _⟩;rw[<- Zdr (by have:=g1.out;simp;omega) g9 HY.out];exact g7.out.setB j _
   case measure=>simp[intOf];omega
  .
   obtain rfl:j=L:=by omega
   have gd:(bu.map (!·)).length=j:=by simp[<- g1.out]
   go_wp2_with fail;go_ret;refine⟨g,rfl,?_,g2⟩;rw[List.take_of_length_le (by omega),List.drop_of_length_le (by simp),List.append_nil] at g0;exact g0
open Go.RowKit
theorem Ybx (n:Nat)(F:BF):(tabB n F).map (fun b => !b)=tabB n (notF F):=by
 unfold tabB;rw[List.map_map];rfl
theorem Zth (n:Nat)(F:BF)(au:Option Addr)(cu:Nat)(w:World)(h1:Zbz w au (tabB n F)) :
 Calls prog 97 #[.slice au (2^n) cu] w fun x w'=>∃ g,x=.returned (.slice (some ⟨g,0,none⟩) (2^n) (2^n))/\Zbw w' (.slice (some ⟨g,0,none⟩) (2^n) (2^n)) (tabB n (notF F))/\Below w.heap.size w w':=by
 have:=Ztg (tabB n F) au cu w h1;rw[Za6] at this;refine this.mono ?_;rintro x w' ⟨g,rfl,h2,h3⟩;rw[Ybx] at h2;exact⟨g,rfl,h2.boolsIs (by have:=h1.len;rw[Za6] at this ⊢;exact this),h3⟩
theorem Yb6 (n v:Nat)(hv:v<n):(List.range (2^n)).map (fun i=>bitB i v)=tabB n (varF v):=by
 refine Znx (by simp) fun i hi=>?_
 have e:varF v (Zcc (Zcq i n))=bitB i v:=by unfold varF;rw[Zfk];simp[hv]
 rw[e];simp[List.getD,hi]
theorem Ztj (v n:Nat)(hv:v<n)(hn:n<=16)(w:World):Calls prog 201 #[.int .i64 v,.int .i64 n] w fun x w'=>∃ g,x=.returned (.slice (some ⟨g,0,none⟩) (2^n) (2^n))/\OwnB w' w.heap.size (.slice (some ⟨g,0,none⟩) (2^n) (2^n)) (tabB n (varF v))/\Below w.heap.size w w':=by
 have:=Zti v n (by omega) hn w;rw[Yb6 n v hv] at this;exact this
theorem Zpo (b:Bool)(n:Nat)(hn:n<=16)(w:World):Calls prog 38 #[.bool b,.int .i64 n] w fun x w'=>∃ g,x=.returned (.slice (some ⟨g,0,none⟩) (2^n) (2^n))/\OwnB w' w.heap.size (.slice (some ⟨g,0,none⟩) (2^n) (2^n)) (tabB n (fun _=>b))/\Below w.heap.size w w':=by
 have:=Ze8 b n hn w;rw[Zf1] at this;exact this
open Go.RowKit
theorem tabs16 {n:Nat}(h:n<=16):2^n<=1000000:=Nat.le_trans (Nat.pow_le_pow_right (by omega) h) (by decide)
def andF (F G:BF):BF:=Zcf F G fun _=>false
def orF (F G:BF):BF:=Zcf F (fun _=>true) G
def Zoj (F G:BF):BF:=Zcf F (notF G) fun _=>false
theorem Yb2 (F G:BF):notF (andF (notF F) (notF G))=orF F G:=by
 funext ρ
 show (!iteB (!F ρ) (!G ρ) false)=iteB (F ρ) true (G ρ)
 cases F ρ<;>cases G ρ<;>rfl
def TabA (n:Nat)(W:World)(v:Value)(F:BF):Prop:=∃ a c,v=.slice a (2^n) c/\Zbz W a (tabB n F)
theorem TabA.below {n:Nat}{W W':World}{v:Value}{F:BF}(h:TabA n W v F)(hb:Below W.heap.size W W'):TabA n W' v F:=by
 obtain⟨a,c,e,h1⟩:=h;exact⟨a,c,e,h1.below hb⟩
theorem TabA.is {n:Nat}{W:World}{v:Value}{F:BF}(h:Zbw W v (tabB n F)):TabA n W v F:=by
 obtain⟨a,c,e,h1,_⟩:=h;rw[Za6] at e;exact⟨a,c,e,h1⟩
section
variable {n:Nat}{F G H:BF}{u v x y z:Value}{w:World}
def RefT (n:Nat)(F:BF)(w:World)(e:Ending)(w':World):Prop:=∃ v,e=.returned v/\Zbw w' v (tabB n F)/\Below w.heap.size w w'
theorem Zq0 (hn:n<=16)(h:TabA n w x F):Calls prog 97 #[x] w (RefT n (notF F) w):=by
 obtain⟨a,c,rfl,h1⟩:=h;refine(Zth n F a c w h1).mono ?_;rintro e w' ⟨g,rfl,h2,h3⟩;exact⟨_,rfl,h2,h3⟩
theorem Zwd (hn:n<=16)(h1:TabA n w x F)(h2:TabA n w y G)(h3:TabA n w z H):Calls prog 153 #[x,y,z] w (RefT n (Zcf F G H) w):=by
 obtain⟨a,c,rfl,k1⟩:=h1;obtain⟨a2,c2,rfl,k2⟩:=h2;obtain⟨a3,c3,rfl,k3⟩:=h3;refine(Zmb n F G H a a2 a3 c c2 c3 w k1 k2 k3).mono ?_;rintro e w' ⟨g,rfl,h4,h5⟩;exact⟨_,rfl,h4.boolsIs (by rw[Za6];exact tabs16 hn),h5⟩
theorem Zwc (b:Bool)(hn:n<=16):Calls prog 38 #[.bool b,.int .i64 n] w (RefT n (fun _=>b) w):=by
 refine(Zpo b n hn w).mono ?_;rintro e w' ⟨g,rfl,h4,h5⟩;exact⟨_,rfl,h4.boolsIs (by rw[Za6];exact tabs16 hn),h5⟩
theorem Ztk (hn:n<=16)(h:TabA n w x F):Calls prog 99 #[x] w (RefT n (fun _=>false) w):=by
 obtain⟨a,c,rfl,h1⟩:=h;have hL:=tabs16 hn;obtain⟨L,g1⟩:∃ L,L=2^n:=⟨_,rfl⟩;have HL:=Hd g1;rw[<- g1] at hL ⊢;clear h1 g1
 go_enter func99,ntmps99
 go_wp2_with (at_make;refine Zee Zen rfl _ _ rfl w.heap.size w _ L rfl rfl rfl (by omega) (Nat.le_refl _) (Below.refl _ _) ?_;intro g w1 g0 g2 hs1 g3 g5 g4;clear g4)
 have HF:Hid (RefT n (fun _=>false) w (.returned (.slice (some ⟨g,0,none⟩) L L)) w1):=Hd ⟨_,rfl,by
  have hw:OwnB w1 w.heap.size (.slice (some ⟨g,0,none⟩) L L) (List.replicate L false):=by unfold OwnB;simpa [Zbq] using g0
  rw[<- Zf1,<- HL.out];exact hw.boolsIs (by simp;omega),g2⟩
 clear g0 g2 hs1 g3 g5;go_wp2_with fail;go_ret;exact HF.out
theorem Zqz (hn:n<=16)(h1:TabA n w x F)(h2:TabA n w y G):Calls prog 95 #[x,y] w (RefT n (andF F G) w):=by
 have HC:=Hd (Ztk (w:=w) hn h1);have HI:Hid (∀ W z,Below w.heap.size w W->TabA n W z (fun _=>false)->Calls prog 153 #[x,y,z] W (RefT n (andF F G) W)):=Hd fun W z hb hz=>Zwd hn (h1.below hb) (h2.below hb) hz
 clear h1 h2
 go_enter func95,ntmps95
 go_wp2_with fail;refine HC.out.mono ?_;rintro e w1 ⟨z,rfl,hz,g0⟩;have g2:=Hd (HI.out w1 z g0 (.is hz));have g3:=Hd g0;clear hz g0 HC HI;go_wp2_with fail;refine g2.out.mono ?_;rintro e w2 ⟨v,rfl,hv,g1⟩;have HF:Hid (RefT n (andF F G) w (.returned v) w2):=Hd ⟨v,rfl,hv,g3.out.trans (g1.mono g3.out.size)⟩;clear hv g1 g2;go_wp2_with fail;go_ret;exact HF.out
theorem Zwe (hn:n<=16)(h1:TabA n w x F)(h2:TabA n w y G):Calls prog 100 #[x,y] w (RefT n (orF F G) w):=by
 have ga:=Hd (Zq0 (w:=w) hn h1);have g9:Hid (∀ W,Below w.heap.size w W->Calls prog 97 #[y] W (RefT n (notF G) W)):=Hd fun W hb=>Zq0 hn (h2.below hb)
 clear h1 h2
 go_enter func100,ntmps100
 go_wp2_with fail;refine ga.out.mono ?_;rintro e w1 ⟨u1,rfl,g5,g1⟩;have gd:=Hd g5;have gc:=Hd g1;have HN:=Hd (g9.out w1 g1);clear g5 g1 ga g9;go_wp2_with fail;refine HN.out.mono ?_;rintro e w2 ⟨u2,rfl,g4,g0⟩;have HA:=Hd (Zqz hn ((TabA.is gd.out).below g0) (TabA.is g4));have HB2:=Hd (gc.out.trans (g0.mono gc.out.size));clear g4 g0 HN;go_wp2_with fail;refine HA.out.mono ?_;rintro e w3 ⟨u3,rfl,g3,g7⟩;have g8:=Hd (Zq0 hn (TabA.is g3));have gb:=Hd (HB2.out.trans (g7.mono HB2.out.size));clear g3 g7 HA;go_wp2_with fail;refine g8.out.mono ?_;rintro e w4 ⟨u4,rfl,g2,g6⟩;have HF:Hid (RefT n (orF F G) w (.returned u4) w4):=Hd ⟨u4,rfl,by rw[<- Yb2];exact g2,gb.out.trans (g6.mono gb.out.size)⟩;clear g2 g6 g8;go_wp2_with fail;go_ret;exact HF.out
end
open Go.RowKit
def Zcy (Φ:BF->BF)(F:BF):Nat->BF
 | 0=>F
 | k+1=>Φ (Zcy Φ F k)
def OnF (Φ:BF->BF)(F:BF)(k:Nat):Prop:=∀ i,i<k->Zcy Φ F (i+1)≠Zcy Φ F i
def EndF (Φ:BF->BF)(F:BF)(k:Nat):Prop:=OnF Φ F k/\Zcy Φ F (k+1)=Zcy Φ F k
theorem EndF.uniq {Φ:BF->BF}{F:BF}{j k:Nat}(h:EndF Φ F j)(h':EndF Φ F k):j=k:=by
 rcases Nat.lt_trichotomy j k with c|c|c
 . exact(h'.1 j c h.2).elim
 . exact c
 . exact(h.1 k c h'.2).elim
theorem EndF.not_on {Φ:BF->BF}{F:BF}{j k:Nat}(h:EndF Φ F j)(h':OnF Φ F k):k<=j:=by
 rcases Nat.lt_or_ge j k with c|c
 . exact(h' j c h.2).elim
 . exact c
theorem OnF.zero (Φ:BF->BF)(F:BF):OnF Φ F 0:=fun i hi=>by omega
theorem OnF.succ {Φ:BF->BF}{F:BF}{k:Nat}(h:OnF Φ F k)(hn:Zcy Φ F (k+1)≠Zcy Φ F k):OnF Φ F (k+1):=fun i hi=>by
 rcases Nat.lt_or_ge i k with c|c
 . exact h i c
 .
  obtain rfl:i=k:=by omega
  exact hn
theorem Zqm (Φ:BF->BF)(F:BF):∀ k,Zcy Φ (Φ F) k=Zcy Φ F (k+1)
 | 0=>rfl
 | k+1=>by show Φ (Zcy Φ (Φ F) k)=Φ (Zcy Φ F (k+1));rw[Zqm Φ F k]
theorem Zh6 {n:Nat}{Φ:BF->BF}(hΦ:∀ F,DepF n F->DepF n (Φ F)){F:BF}(hF:DepF n F):∀ k,DepF n (Zcy Φ F k)
 | 0=>hF
 | k+1=>hΦ _ (Zh6 hΦ hF k)
def allF (Φ:BF->BF)(Q:BF):Nat->BF
 | 0=>Q
 | k+1=>orF (allF Φ Q k) (Zoj (Φ (allF Φ Q k)) (allF Φ Q k))
def Zci (Φ:BF->BF)(Q:BF):Nat->BF
 | 0=>Q
 | k+1=>Zoj (Φ (allF Φ Q k)) (allF Φ Q k)
theorem Zt7 (Φ:BF->BF)(Q:BF)(k:Nat):allF Φ Q (k+1)=orF (allF Φ Q k) (Zci Φ Q (k+1)):=rfl
def Zf8 (Φ:BF->BF)(Q:BF)(k:Nat):Prop:=∀ i,i<k->Zci Φ Q (i+1)≠fun _=>false
def Zj7 (Φ:BF->BF)(Q:BF)(k:Nat):Prop:=Zf8 Φ Q k/\Zci Φ Q (k+1)=fun _=>false
theorem Zj7.uniq {Φ:BF->BF}{F:BF}{j k:Nat}(h:Zj7 Φ F j)(h':Zj7 Φ F k):j=k:=by
 rcases Nat.lt_trichotomy j k with c|c|c
 . exact(h'.1 j c h.2).elim
 . exact c
 . exact(h.1 k c h'.2).elim
theorem Zf8.zero (Φ:BF->BF)(F:BF):Zf8 Φ F 0:=fun i hi=>by omega
theorem Zf8.succ {Φ:BF->BF}{F:BF}{k:Nat}(h:Zf8 Φ F k)(hn:Zci Φ F (k+1)≠fun _=>false):Zf8 Φ F (k+1):=fun i hi=>by
 rcases Nat.lt_or_ge i k with c|c
 . exact h i c
 .
  obtain rfl:i=k:=by omega
  exact hn
theorem Zj7.le {Φ:BF->BF}{F:BF}{j k:Nat}(h:Zj7 Φ F j)(h':Zf8 Φ F k):k<=j:=by
 rcases Nat.lt_or_ge j k with c|c
 . exact(h' j c h.2).elim
 . exact c
theorem Zog {p q:Nat->Bool}:∀ {l:List Nat},(∀ x,p x=true->q x=true)->(∃ x∈l,q x=true/\p x=false)->l.countP p+1<=l.countP q
 | [],_,⟨x,hx,_⟩=>by simp at hx
 | y::l,h,⟨x,hx,h1,h2⟩=>by
   have hle:=List.countP_mono_left (l:=l) fun z _=>h z
   rw[List.countP_cons,List.countP_cons];rcases List.mem_cons.1 hx with rfl|hx
   . rw[if_neg (by rw[h2];simp),if_pos h1];omega
   .
    have ih:=Zog (p:=p) (q:=q) h ⟨x,hx,h1,h2⟩
    by_cases c:p y=true
    . rw[if_pos c,if_pos (h y c)];omega
    . rw[if_neg c];omega
def Ya7 (n:Nat)(F:BF):Nat:=(List.range (2^n)).countP fun i=>F (Zcc (Zcq i n))
theorem Zyp (n:Nat)(F:BF):Ya7 n F<=2^n:=by
 have:=List.countP_le_length (p:=fun i=>F (Zcc (Zcq i n))) (l:=List.range (2^n))
 rwa [List.length_range] at this
theorem Zye (Φ:BF->BF)(Q:BF)(k:Nat)(ρ:Nat->Bool)(h:Zci Φ Q (k+1) ρ=true):allF Φ Q k ρ=false:=by
 have h':iteB (Φ (allF Φ Q k) ρ) (!allF Φ Q k ρ) false=true:=h;cases hc:allF Φ Q k ρ with
 | false=>rfl
 | true=>rw[hc] at h';simp[iteB] at h'
theorem Zt6 (Φ:BF->BF)(Q:BF)(k:Nat)(ρ:Nat->Bool):allF Φ Q (k+1) ρ=(allF Φ Q k ρ||Zci Φ Q (k+1) ρ):=by
 rw[Zt7]
 show iteB (allF Φ Q k ρ) true _=_
 cases allF Φ Q k ρ<;>rfl
theorem Zme {n:Nat}{Φ:BF->BF}{Q:BF}(hd:∀ i,DepF n (Zci Φ Q i)):∀ {k:Nat},Zf8 Φ Q k->k<=Ya7 n (allF Φ Q k)
 | 0,_=>Nat.zero_le _
 | k+1,h=>by
   have ih:=Zme hd (k:=k) fun i hi=>h i (by omega)
   have hne:=h k (by omega)
   obtain⟨ρ,hρ⟩:∃ ρ,Zci Φ Q (k+1) ρ=true:=Classical.byContradiction fun hc=>hne (funext fun ρ=>by
    cases hr:Zci Φ Q (k+1) ρ with
    | false=>rfl
    | true=>exact(hc ⟨ρ,hr⟩).elim)
   obtain⟨i,hi,hb⟩:=Zuc n ρ;have e:∀ v,v<n->ρ v=Zcc (Zcq i n) v:=fun v hv=>by rw[Zfk,hb v hv];simp[hv]
   rw[hd (k+1) ρ _ e] at hρ;have:=Zog (l:=List.range (2^n)) (p:=fun i=>allF Φ Q k (Zcc (Zcq i n))) (q:=fun i=>allF Φ Q (k+1) (Zcc (Zcq i n)))
    (fun x hx=>by rw[Zt6,hx];rfl)
    ⟨i,List.mem_range.2 hi,by rw[Zt6,hρ];simp,Zye _ _ _ _ hρ⟩
   unfold Ya7 at ih ⊢;omega
theorem Zyf {n:Nat}{Φ:BF->BF}{Q:BF}(hd:∀ i,DepF n (Zci Φ Q i)){k:Nat}(h:Zf8 Φ Q k):k<=2^n:=Nat.le_trans (Zme hd h) (Zyp _ _)
theorem Zdq {n:Nat}{F G H:BF}(hF:DepF n F)(hG:DepF n G)(hH:DepF n H):DepF n (Zcf F G H):=fun ρ ρ' hr=>by
 show iteB (F ρ) (G ρ) (H ρ)=iteB (F ρ') (G ρ') (H ρ')
 rw[hF ρ ρ' hr,hG ρ ρ' hr,hH ρ ρ' hr]
theorem Zx1 {n:Nat}{F:BF}(hF:DepF n F):DepF n (notF F):=fun ρ ρ' hr=>by
 show (!F ρ) = !F ρ'
 rw[hF ρ ρ' hr]
theorem Zcm (n:Nat)(c:Bool):DepF n fun _=>c:=fun _ _ _=>rfl
theorem Zrv {n:Nat}{Φ:BF->BF}(hΦ:∀ F,DepF n F->DepF n (Φ F)){Q:BF}(hQ:DepF n Q):∀ k,DepF n (allF Φ Q k)/\DepF n (Zci Φ Q k)
 | 0=>⟨hQ,hQ⟩
 | k+1=>by
   have h:=(Zrv hΦ hQ k).1;have hr:DepF n (Zci Φ Q (k+1)):=Zdq (hΦ _ h) (Zx1 h) (Zcm n false);exact⟨Zdq h (Zcm n true) hr,hr⟩
open Go.RowKit
theorem Zet (W:World)(zs:List Int)(hl:zs.length<=1000000):Zay (W.alloc (.cells (Za1 zs).toArray 3)) (some ⟨W.heap.size,0,none⟩) zs :=
 ⟨by omega,fun k hk=>⟨W.heap.size,0,rfl,by
  rw[Nat.zero_add,cell_of_row _ _ k _ _ _ (heap_alloc_new _ _)];simp[Za1,Zby hk,hk]⟩⟩
section
variable {K:Law}{n:Nat}{Od:List Nat->Prop}{room:Nat}{w0 w w':World}{mb:Nat}{fs:List (Int×BF)}{nx:Int}{o o':Own}{m m':ManD}{V V':Nat->BF}
def Goes (K:Law)(n:Nat)(Od:List Nat->Prop)(room:Nat)(w0:World)(mb:Nat)(fs:List (Int×BF))(nx:Int)(Wt:List Ev->Int->Nat->Prop)(o:Own)(w w':World):Prop :=
 ∃ o' m' V',ChgX NoB o o' w w'/\Wt m'.waits m'.calls m'.d.pool.many/\SatE K n Od room w0 mb fs nx w' o' m' V'
def NoW (M:Nat)(ws:List Ev)(_:Int)(k:Nat):Prop:=ws=[]/\k<=M
abbrev W2 (Wt:List Ev->Int->Prop):List Ev->Int->Nat->Prop:=fun ws c _=>Wt ws c
theorem Goes.more {M M':Nat}(h:Goes K n Od room w0 mb fs nx (NoW M) o w w')(hm:M<=M'):Goes K n Od room w0 mb fs nx (NoW M') o w w':=by
 obtain⟨o',m',V',h1,h2,h3⟩:=h;exact⟨o',m',V',h1,⟨h2.1,Nat.le_trans h2.2 hm⟩,h3⟩
theorem Goes.below {Wt:List Ev->Int->Nat->Prop}{w'':World}(h:Goes K n Od room w0 mb fs nx Wt o w w')(hb:Below w'.heap.size w' w''):Goes K n Od room w0 mb fs nx Wt o w w'':=by
 obtain⟨o',m',V',h1,h2,h3⟩:=h;exact⟨o',m',V',h1.trans (Zb3 hb o') (fun _ _ e=>e),h2,h3.below hb⟩
theorem Zvd (hK:Zbh K){M:Nat}(h:Goes K n Od room w0 mb fs nx (NoW M) o w w')(hn:nx<549755813888)(hr:M+(2^n-1)<=room){kf kg kh:Int}{F G H:BF}(hf:(kf,F)∈fs)(hg:(kg,G)∈fs)(hh:(kh,H)∈fs) :
 Calls prog 83 #[.pointer (some ⟨mb,0,none⟩),.int .i64 kf,.int .i64 kg,.int .i64 kh] w' fun x w''=>x=.returned (.tuple #[.int .i64 nx,.int .i64 0])/\Goes K n Od room w0 mb (fs++[(nx,Zcf F G H)]) (nx+1) (NoW (M+(2^n-1))) o w w'':=by
 obtain⟨o',m',V',h1,h2,h3⟩:=h;refine(Zl1 hK h3 [] (by rw[h2.1];exact List.suffix_refl _) (some M) (fun _ e=>by cases e;exact⟨rfl,hr⟩) (fun _ e=>by cases e;exact h2.2) (by simp) (by omega) hf hg hh).mono ?_;rintro x w'' hp;obtain⟨o2,m2,V2,q1,q2,q3,q4⟩:=Zl5 hp;exact⟨q3,o2,m2,V2,h1.trans q1 (fun _ _ e=>e),q2,q4⟩
theorem Yb9 (hK:Zbh K){M:Nat}(h:Goes K n Od room w0 mb fs nx (NoW M) o w w')(hn:nx<549755813888)(hr:M+1<=room){v:Nat}(hv:v<n) :
 Calls prog 81 #[.pointer (some ⟨mb,0,none⟩),.int .i64 v] w' fun x w''=>x=.returned (.tuple #[.int .i64 nx,.int .i64 0])/\Goes K n Od room w0 mb (fs++[(nx,varF v)]) (nx+1) (NoW (M+1)) o w w'':=by
 obtain⟨o',m',V',h1,h2,h3⟩:=h;refine(Zl2 hK h3 [] (by rw[h2.1];exact List.suffix_refl _) (some M) (fun _ e=>by cases e;exact⟨rfl,hr⟩) (fun _ e=>by cases e;exact h2.2) (by simp) (by omega) v hv).mono ?_;rintro x w'' hp;obtain⟨o2,m2,V2,q1,q2,q3,q4⟩:=Zl5 hp;exact⟨q3,o2,m2,V2,h1.trans q1 (fun _ _ e=>e),q2,q4⟩
theorem Zzi (hK:Zbh K){Wt:List Ev->Int->Nat->Prop}(h:Goes K n Od room w0 mb fs nx Wt o w w')(hn:nx<549755813888){k:Int}{F:BF}(hf:(k,F)∈fs) :
 Calls prog 45 #[.pointer (some ⟨mb,0,none⟩),.int .i64 k] w' fun x w''=>x=.returned (.tuple #[.int .i64 nx,.int .i64 0])/\Goes K n Od room w0 mb (fs++[(nx,notF F)]) (nx+1) Wt o w w'':=by
 obtain⟨o',m',V',h1,h2,h3⟩:=h;refine(Zs4 hK h3 hn hf).mono ?_;rintro x w'' ⟨rfl,o2,m2,q⟩;exact⟨rfl,o2,m2,V',h1.trans (ChgX.of_chg q.chg NoB) (fun _ _ e=>e),by rw[q.waits,q.calls,q.many];exact h2,q.sat⟩
theorem Zms (hK:Zbh K){Wt:List Ev->Int->Nat->Prop}(h:Goes K n Od room w0 mb fs nx Wt o w w')(hn:nx<549755813888){k:Int}{F:BF}(hf:(k,F)∈fs) :
 Calls prog 88 #[.pointer (some ⟨mb,0,none⟩),.int .i64 k] w' fun x w''=>x=.returned (.tuple #[.int .i64 nx,.int .i64 0])/\Goes K n Od room w0 mb (fs++[(nx,F)]) (nx+1) Wt o w w'':=by
 obtain⟨o',m',V',h1,h2,h3⟩:=h;refine(Zkn hK h3 hn hf).mono ?_;rintro x w'' ⟨rfl,o2,m2,q⟩;exact⟨rfl,o2,m2,V',h1.trans (ChgX.of_chg q.chg NoB) (fun _ _ e=>e),by rw[q.waits,q.calls,q.many];exact h2,q.sat⟩
theorem Zmt (hK:Zbh K){Wt:List Ev->Int->Nat->Prop}{hs r:List (Int×BF)}(h:Goes K n Od room w0 mb (fs++(hs++r)) nx Wt o w w')(hb:B2 fs)(hn:nx<549755813888)(hl:hs.length<=1000){T:World}(hT:T=w'.alloc (.cells (Za1 (hs.map Prod.fst)).toArray 3)) :
 Calls prog 87 #[.pointer (some ⟨mb,0,none⟩),.slice (some ⟨w'.heap.size,0,none⟩) hs.length hs.length] T fun x w''=>x=.returned (.int .i64 0)/\Goes K n Od room w0 mb (fs++r) nx Wt o w w'':=by
 obtain⟨o',m',V',h1,h2,h3⟩:=h;subst hT;have g0:=Zad w' (.cells (Za1 (hs.map Prod.fst)).toArray 3);refine(Zko hK (h3.below g0) hb hn (Zet w' (hs.map Prod.fst) (by simp;omega)) (fun x hx=>by cases hx;exact h3.lt.none (Nat.le_refl _))).mono ?_;rintro x w'' ⟨rfl,o2,m2,q⟩;exact⟨rfl,o2,m2,V',(h1.trans (Zb3 g0 o') (fun _ _ e=>e)).trans (ChgX.of_chg q.chg NoB) (fun _ _ e=>e),by rw[q.waits,q.calls,q.many];exact h2,q.sat⟩
theorem Zrm (hK:Zbh K){a b:Int}{F G:BF}{M:Nat}(h:Goes K n Od room w0 mb (fs++[(a,F),(b,G)]) nx (NoW M) o w w')(hb:B2 fs)(hn:nx+2<549755813888)(hr:M+(2^n-1)<=room){op:Int}(h5:5<=op)(h9:op<=9) :
 Calls prog 106 #[.pointer (some ⟨mb,0,none⟩),.int .i64 op,.int .i64 a,.int .i64 b] w' fun x w''=>∃ k:Int,x=.returned (.tuple #[.int .i64 k,.bool true])/\k<=nx+1/\Goes K n Od room w0 mb (fs++[(k,Zo3 op F G)]) (k+1) (NoW (M+(2^n-1))) o w w'':=by
 obtain⟨M',ga⟩:∃ M',M'=M+(2^n-1):=⟨_,rfl⟩;have g5:Hid (∀ c d e A B C,(c,A)∈fs++[(a,F),(b,G)]->(d,B)∈fs++[(a,F),(b,G)]->(e,C)∈fs++[(a,F),(b,G)]->Calls prog 83 #[.pointer (some ⟨mb,0,none⟩),.int .i64 c,.int .i64 d,.int .i64 e] w' fun x w''=>x=.returned (.tuple #[.int .i64 nx,.int .i64 0])/\Goes K n Od room w0 mb (fs++[(a,F),(b,G)]++[(nx,Zcf A B C)]) (nx+1) (NoW (M+(2^n-1))) o w w'') :=
  Hd fun c d e A B C h1 h2 h3=>Zvd hK h (by omega) hr h1 h2 h3
 have g6:=Hd (Zzi hK h (by omega) (k:=b) (F:=G) (by simp))
 have g0:Hid (∀ W,Goes K n Od room w0 mb (fs++[(a,F),(b,G)]++[(nx,notF G)]) (nx+1) (NoW M) o w W->∀ c d e A B C,(c,A)∈fs++[(a,F),(b,G)]++[(nx,notF G)]->(d,B)∈fs++[(a,F),(b,G)]++[(nx,notF G)]->(e,C)∈fs++[(a,F),(b,G)]++[(nx,notF G)] ->
  Calls prog 83 #[.pointer (some ⟨mb,0,none⟩),.int .i64 c,.int .i64 d,.int .i64 e] W fun x w''=>x=.returned (.tuple #[.int .i64 (nx+1),.int .i64 0])/\Goes K n Od room w0 mb (fs++[(a,F),(b,G)]++[(nx,notF G)]++[(nx+1,Zcf A B C)]) (nx+1+1) (NoW (M+(2^n-1))) o w w'') :=
  Hd fun W hW c d e A B C h1 h2 h3=>Zvd hK hW (by omega) hr h1 h2 h3
 have g7:Hid (∀ W H T,Goes K n Od room w0 mb (fs++[(a,F),(b,G)]++[(nx,notF G)]++[(nx+1,H)]) (nx+1+1) (NoW M') o w W->T=W.alloc (.cells #[.int .i64 nx] 3)->Calls prog 87 #[.pointer (some ⟨mb,0,none⟩),.slice (some ⟨W.heap.size,0,none⟩) 1 1] T fun x w''=>x=.returned (.int .i64 0)/\Goes K n Od room w0 mb (fs++[(a,F),(b,G)]++[(nx+1,H)]) (nx+1+1) (NoW M') o w w'') :=
  Hd fun W H T hW hT=>Zmt hK (hs:=[(nx,notF G)]) (r:=[(nx+1,H)]) (by rw[List.append_assoc] at hW;exact hW) (hb.app _) (by omega) (by simp) hT
 have g8:Hid (∀ W k H T,k+1<549755813888->Goes K n Od room w0 mb (fs++[(a,F),(b,G)]++[(k,H)]) (k+1) (NoW M') o w W->T=W.alloc (.cells #[.int .i64 a,.int .i64 b] 3)->Calls prog 87 #[.pointer (some ⟨mb,0,none⟩),.slice (some ⟨W.heap.size,0,none⟩) 2 2] T fun x w''=>x=.returned (.int .i64 0)/\Goes K n Od room w0 mb (fs++[(k,H)]) (k+1) (NoW M') o w w'') :=
  Hd fun W k H T hk hW hT=>Zmt hK (hs:=[(a,F),(b,G)]) (r:=[(k,H)]) (by rw[List.append_assoc] at hW;exact hW) hb (by omega) (by simp) hT
 have m0:(0,fun _=>false)∈fs++[(a,F),(b,G)]:=List.mem_append_left _ hb.zero;have m1:(1,fun _=>true)∈fs++[(a,F),(b,G)]:=List.mem_append_left _ hb.one;have ma:(a,F)∈fs++[(a,F),(b,G)]:=by simp
 have mb':(b,G)∈fs++[(a,F),(b,G)]:=by simp
 have pa:(a,F)∈fs++[(a,F),(b,G)]++[(nx,notF G)]:=by simp
 have pb:(b,G)∈fs++[(a,F),(b,G)]++[(nx,notF G)]:=by simp
 have pn:(nx,notF G)∈fs++[(a,F),(b,G)]++[(nx,notF G)]:=by simp
 rw[<- ga] at g5 g0 ⊢;clear h hb hr hK ga;rcases(show op=5\/op=6\/op=7\/op=8\/op=9 by omega) with rfl|rfl|rfl|rfl|rfl
 .
  have HI:=Hd (g5.out a b 0 _ _ _ ma mb' m0);clear g5 g0 g6 g7
  go_enter func106,ntmps106
  go_wp2_with fail;refine HI.out.mono ?_;rintro x w1 ⟨rfl,g1⟩;have HD:=Hd (g8.out w1 nx _ _ (by omega) g1 rfl);clear g1 HI;go_wp2_with fail;refine HD.out.mono ?_;rintro x w2 ⟨rfl,g2⟩;have HG:=Hd g2;clear g2 HD;go_wp2_with fail
  go_ret2
  exact⟨nx,rfl,by omega,HG.out⟩
 .
  have HI:=Hd (g5.out a 1 b _ _ _ ma m1 mb');clear g5 g0 g6 g7
  go_enter func106,ntmps106
  go_wp2_with fail;refine HI.out.mono ?_;rintro x w1 ⟨rfl,g1⟩;have HD:=Hd (g8.out w1 nx _ _ (by omega) g1 rfl);clear g1 HI;go_wp2_with fail;refine HD.out.mono ?_;rintro x w2 ⟨rfl,g2⟩;have HG:=Hd g2;clear g2 HD;go_wp2_with fail
  go_ret2
  exact⟨nx,rfl,by omega,HG.out⟩
 .
  clear g5
  go_enter func106,ntmps106
  go_wp2_with fail;refine g6.out.mono ?_;rintro x w1 ⟨rfl,g1⟩;have HI:=Hd (g0.out w1 g1 a nx b _ _ _ pa pn pb);clear g1 g6 g0;go_wp2_with fail;refine HI.out.mono ?_;rintro x w2 ⟨rfl,g2⟩;have g9:=Hd (g7.out w2 _ _ g2 rfl);clear g2 HI g7;go_wp2_with fail;refine g9.out.mono ?_;rintro x w3 ⟨rfl,g3⟩;have HD:=Hd (g8.out w3 (nx+1) _ _ (by omega) g3 rfl);clear g3 g9;go_wp2_with fail;refine HD.out.mono ?_;rintro x w4 ⟨rfl,g4⟩;have HG:=Hd g4;clear g4 HD;go_wp2_with fail
  go_ret2
  exact⟨nx+1,rfl,by omega,HG.out⟩
 .
  have HI:=Hd (g5.out a b 1 _ _ _ ma mb' m1);clear g5 g0 g6 g7
  go_enter func106,ntmps106
  go_wp2_with fail;refine HI.out.mono ?_;rintro x w1 ⟨rfl,g1⟩;have HD:=Hd (g8.out w1 nx _ _ (by omega) g1 rfl);clear g1 HI;go_wp2_with fail;refine HD.out.mono ?_;rintro x w2 ⟨rfl,g2⟩;have HG:=Hd g2;clear g2 HD;go_wp2_with fail
  go_ret2
  exact⟨nx,rfl,by omega,HG.out⟩
 .
  clear g5
  go_enter func106,ntmps106
  go_wp2_with fail;refine g6.out.mono ?_;rintro x w1 ⟨rfl,g1⟩;have HI:=Hd (g0.out w1 g1 a b nx _ _ _ pa pb pn);clear g1 g6 g0;go_wp2_with fail;refine HI.out.mono ?_;rintro x w2 ⟨rfl,g2⟩;have g9:=Hd (g7.out w2 _ _ g2 rfl);clear g2 HI g7;go_wp2_with fail;refine g9.out.mono ?_;rintro x w3 ⟨rfl,g3⟩;have HD:=Hd (g8.out w3 (nx+1) _ _ (by omega) g3 rfl);clear g3 g9;go_wp2_with fail;refine HD.out.mono ?_;rintro x w4 ⟨rfl,g4⟩;have HG:=Hd g4;clear g4 HD;go_wp2_with fail
  go_ret2
  exact⟨nx+1,rfl,by omega,HG.out⟩
end
open Go.RowKit
theorem Zvf {op:Int}(h:0<=(Zev op).1):1<=op/\op<=10/\(Zev op).2<=64:=by
 unfold Zev at h ⊢;split
 . rename_i h1;exact⟨by omega,by omega,by simp⟩
 .
  split
  . rename_i h1;exact⟨by omega,by omega,by simp⟩
  .
   split
   . rename_i h1;exact⟨by omega,by omega,by simp⟩
   .
    split
    . rename_i h1;exact⟨by omega,by omega,by simp⟩
    .
     split
     . rename_i h1;exact⟨by omega,by omega,by simp⟩
     . exfalso;revert h;simp_all
theorem Zl9 (f:Nat->Bool)(i:Nat):(List.range (i+1)).map f=(List.range i).map f++[f i]:=by simp[List.range_succ]
theorem Zhj (l:List Bool)(b:Bool):Zbq (l++[b])=Zbq l++[.bool b]:=by simp[Zbq]
theorem tmod2 (c:Nat):((c:Int).tmod 2 == 1)=decide (c%2=1):=by
 have e1:Int.tmod (c:Int) 2=((c%2:Nat):Int):=by rw[Int.tmod_eq_emod_of_nonneg (by omega)];rfl
 rw[e1]
 by_cases h:c%2=1
 . rw[h];rfl
 .
  have:((c%2:Nat):Int)≠1:=by omega
  rw[beq_eq_false_iff_ne.2 this,decide_eq_false h]
theorem Zqt (a b:Nat):(((a:Nat):Int) == (b:Int))=decide (a=b):=by
 by_cases h:a=b
 . subst h;simp
 .
  have:(a:Int)≠b:=by omega
  rw[beq_eq_false_iff_ne.2 this,decide_eq_false h]
theorem Zk8 (ls:List Bool)(al:Option Addr)(cl:Nat):∀ (e:ExT) (x:Value) (w:World),Zr9 e->Zbe w e x->Zbz w al ls ->
 Calls prog 131 #[x,.slice al ls.length cl] w fun y w'=>y=.returned (.bool (fnT e (Zcc ls)))/\Below w.heap.size w w'
 | .nil,x,w,hv,h,_=>by unfold Zbe at h;exact h.elim
 | .mk op v n kid,x,w,hval,h,hls=>by
   unfold Zbe at h;obtain⟨a,c,rfl,h2,h3,h4,h5⟩:=h;obtain⟨v1,v2,v3,v4,v5,v6⟩:=hval;obtain⟨k1,k2,k3⟩:=Zvf v1;have hn64:n<=64:=by omega
   have H5:=Hd h5;have H6:=Hd v6;have gp:=Hd hls;have gF:=hls.len;have HE:Hid (fnT (ExT.mk op v n kid) (Zcc ls)=if op=3 then Zcc ls v.toNat else opB op n fun i=>fnT (kid i) (Zcc ls)):=Hd rfl;have IH:Hid (∀ (i:Nat) (x:Value) (W:World),i<n->Zbe W (kid i) x->Zbz W al ls->Calls prog 131 #[x,.slice al ls.length cl] W fun y w'=>y=.returned (.bool (fnT (kid i) (Zcc ls)))/\Below W.heap.size W w') :=
    Hd fun i x W hi h1 h2=>Zk8 ls al cl (kid i) x W (H6.out i hi) h1 h2
   obtain⟨B,hB⟩:∃ B,B=fnT (ExT.mk op v n kid) (Zcc ls):=⟨_,rfl⟩;obtain⟨f,hf⟩:∃ f:Nat->Bool,f=fun i=>fnT (kid i) (Zcc ls):=⟨_,rfl⟩
   have gE:Hid (∀ i,fnT (kid i) (Zcc ls)=f i):=Hd fun i=>by rw[hf]
   rw[<- hB] at HE ⊢;rw[<- hf] at HE;have gz:op=8\/op=9->n=2:=by rintro(rfl|rfl)<;>(simp[Zev] at v4 v5;omega)
   have gy:op=10->n=3:=by rintro rfl;simp[Zev] at v4 v5;omega
   have gG:op=4->n=1:=by rintro rfl;simp[Zev] at v4 v5;omega
   obtain⟨w1,ga⟩:∃ w1,w1=w.alloc (.cells #[.int .i64 op,.int .i64 v,.slice a n c] 81):=⟨_,rfl⟩;have HW1:Hid (_=w1):=Hd ga.symm;have g5:Hid (Below w.heap.size w w1):=by rw[ga];exact Hd (Zad _ _)
   have g6:w1.heap[w.heap.size]?=some (.cells #[.int .i64 op,.int .i64 v,.slice a n c] 81 (0,0)):=by rw[ga];exact heap_alloc_new _ _
   have d0:w1.cell? ⟨w.heap.size,0,none⟩=some (.int .i64 op):=by rw[cell_of_row _ _ 0 _ _ _ g6];rfl
   have d1:w1.cell? ⟨w.heap.size,1,none⟩=some (.int .i64 v):=by rw[cell_of_row _ _ 1 _ _ _ g6];rfl
   have d2:w1.cell? ⟨w.heap.size,2,none⟩=some (.slice a n c):=by rw[cell_of_row _ _ 2 _ _ _ g6];rfl
   unfold okI at h2 h3;obtain⟨w2,gb⟩:∃ w2,w2=w1.alloc (.cells #[] 4):=⟨_,rfl⟩;have gB:Hid (_=w2):=Hd gb.symm;have HB2:Hid (Below w1.heap.size w1 w2):=by rw[gb];exact Hd (Zad _ _)
   have gf:Hid (OwnB w2 w1.heap.size (.slice (some ⟨w1.heap.size,0,none⟩) 0 0) []):=by rw[gb];exact Hd (Zf0 _ _ _ (Nat.le_refl _))
   have hs1:w1.heap.size=w.heap.size+1:=by rw[ga];simp
   rw[hs1] at gf;clear h5 ga gb g6 hf hB v1 v4 v5 v6 hls
   go_enter func131,ntmps131
   go_upto_region 1 with fail;rw[HW1.out];go_upto_region 3 with fail;rw[gB.out];have gw:w1.heap.size<=w2.heap.size:=HB2.out.size;have d0':=(HB2.out.cell (p:=⟨w.heap.size,0,none⟩) (Zaa d0)).trans d0;have d1':=(HB2.out.cell (p:=⟨w.heap.size,1,none⟩) (Zaa d1)).trans d1;have d2':=(HB2.out.cell (p:=⟨w.heap.size,2,none⟩) (Zaa d2)).trans d2;go_wp2_with fail
   go_loopw [5,6,7,8] (fun s5 s6 s7 s8 wr=>∃ i k:Nat,i<=n/\k<=i/\s5=.int .i64 k/\s7=.int .i64 i/\Hid (k=cntT i f)/\Below w1.heap.size w1 wr/\OwnB wr w1.heap.size s6 ((List.range i).map f)/\w1.heap.size<=wr.heap.size) (fun _ _ s7 _ _=>n-(intOf s7).toNat)
   case atStart=>exact⟨0,0,Nat.zero_le _,Nat.le_refl _,rfl,rfl,Hd rfl,HB2.out,by rw[hs1];exact gf.out,gw⟩
   case round =>
    obtain⟨i,k,hi,gH,rfl,rfl,HK,g2,g0,gv⟩:=hrel;have e0:=(g2.cell (p:=⟨w.heap.size,0,none⟩) (Zaa d0)).trans d0;have e1:=(g2.cell (p:=⟨w.heap.size,1,none⟩) (Zaa d1)).trans d1;have e2:=(g2.cell (p:=⟨w.heap.size,2,none⟩) (Zaa d2)).trans d2;have g3:=Hd g2;have gC:=Hd g0;clear g2 d0' d1' d2'
    by_cases gx:i<n
    .
     clear g0;obtain⟨b,off,x0,x1,x2,rfl,c0,c1,c2,hx⟩:=H5.out i gx;have g4:=g5.out.trans (g3.out.mono g5.out.size);have q0:=(g4.cell (p:=⟨b,off+i*3,none⟩) (Zaa c0)).trans c0;have q1:=(g4.cell (p:=⟨b,off+i*3+1,none⟩) (Zaa c1)).trans c1;have q2:=(g4.cell (p:=⟨b,off+i*3+2,none⟩) (Zaa c2)).trans c2;have HX:=Hd (hx.below g4);have gD:=Hd (gp.out.below g4);have gA:(i:Int)<n:=by omega
     have gr:Hid (∀ y,f i=y->k+(if y then 1 else 0)=cntT (i+1) f):=Hd fun y hy=>by rw[<- hy,HK.out];rfl
     clear c0 c1 c2 hx g4;go_wp2_with fail;refine(IH.out i _ _ (by omega) HX.out gD.out).mono ?_;rintro y w3 ⟨rfl,gn⟩;have gi:=Hd gn;clear gn;go_upto_region 7 with fail;rw[gE.out];obtain⟨y,hy⟩:∃ y,f i=y:=⟨_,rfl⟩;rw[hy];have gq:=Hd (gr.out y hy);have gh:=Hd (gC.out.below gi.out);have ge:w1.heap.size<=w3.heap.size:=Nat.le_trans gv gi.out.size;have gj:=Hd (g3.out.trans (gi.out.mono g3.out.size));have go:Hid (Zbq ((List.range (i+1)).map f)=Zbq ((List.range i).map f)++[.bool y]):=Hd (by rw[Zl9,Zhj,hy]);clear gr hy q0 q1 q2 e0 e1 e2;go_upto_region 8 with (at_builtin;refine Zb6 Zen _ rfl _ _ rfl w1.heap.size _ (Zbq ((List.range i).map f)) _ rfl rfl rfl rfl rfl (by exact gh.out) (by simp[Zbq];omega) ge ?_;intro v4 w4 gc q1 q2 q3 q4 gm)
     have gt:=Hd (Zhz gj.out gh.out q1 q2 q3 q4 gm ge);have gg:=Hd gc;have gd:w1.heap.size<=w4.heap.size:=by omega
     clear gc q1 q2 q3 q4 gm;cases y with
     | true =>
       go_wp2_with fail;go_roundw
       case rel=>exact⟨i+1,k+1,by omega,by omega,by go_num,by go_num,Hd gq.out,gt.out,by unfold OwnB;rw[go.out];exact gg.out,gd⟩
       case measure=>simp[intOf];omega
     | false =>
       go_wp2_with fail;go_roundw
       case rel=>exact⟨i+1,k,by omega,by omega,by go_num,by go_num,Hd gq.out,gt.out,by unfold OwnB;rw[go.out];exact gg.out,gd⟩
       case measure=>simp[intOf];omega
    .
     have he:i=n:=by omega
     subst he;have gA:¬ (i:Int)<i:=by omega
     have HF:Hid (∀ b:Bool,b=B->Ending.returned (.bool b)=.returned (.bool B)/\Below w.heap.size w wr):=Hd fun b hb=>⟨by rw[hb],g5.out.trans (g3.out.mono g5.out.size)⟩
     have g1:0<i->∃ g cap,u6=.slice (some ⟨g,0,none⟩) i cap/\∀ j,j<i->wr.cell? ⟨g,j,none⟩=some (.bool (f j)):=by
      intro hp;obtain⟨g,cap,e,_⟩:=g0.shape (by simp[Zbq];omega);have e':u6=.slice (some ⟨g,0,none⟩) i cap:=by rw[e];simp[Zbq]
      refine⟨g,cap,e',fun j hj=>?_⟩;rw[e'] at g0;have:=g0.cellB j (by simp;omega);rw[this];simp[List.getD,hj]
     clear g0;rcases(show op=1\/op=2\/op=3\/op=4\/op=5\/op=6\/op=7\/op=8\/op=9\/op=10 by omega) with rfl|rfl|rfl|rfl|rfl|rfl|rfl|rfl|rfl|rfl
     . go_wp2_with fail;go_ret;exact HF.out _ (by rw[HE.out];rfl)
     . go_wp2_with fail;go_ret;exact HF.out _ (by rw[HE.out];rfl)
     .
      obtain⟨v5,v6⟩:=v2 rfl;obtain⟨u,rfl⟩:∃ u:Nat,v=(u:Int):=⟨v.toNat,by omega⟩;have gs:Hid (B=Zcc ls u):=Hd (by rw[HE.out];rfl)
      by_cases hu:u<ls.length
      .
       obtain⟨bl,ol,rfl,cl0⟩:=(gp.out.below (g5.out.trans (g3.out.mono g5.out.size))).cells u hu;have gu:(u:Int)<ls.length:=by omega
       have g7:Hid (B=ls.getD u false):=gs;obtain⟨yy,gk⟩:∃ yy,yy=ls.getD u false:=⟨_,rfl⟩;rw[<- gk] at cl0 g7;clear gk;go_wp2_with fail;go_ret;exact HF.out _ g7.out.symm
      .
       have gu:¬ (u:Int)<ls.length:=by omega
       have g7:Hid (B=false):=Hd (by rw[gs.out];unfold Zcc;simp[List.getD,List.getElem?_eq_none (show ls.length<=u by omega)]);go_wp2_with fail;go_ret;exact HF.out _ g7.out.symm
     . have HV:Hid (((k:Int) == 0)=B):=Hd (by rw[HE.out,HK.out];exact Zqt _ 0);go_wp2_with fail;go_ret;exact HF.out _ HV.out
     . have HV:Hid (((k:Int) == (i:Int))=B):=Hd (by rw[HE.out,HK.out];exact Zqt _ i);go_wp2_with fail;go_ret;exact HF.out _ HV.out
     .
      have HV:Hid (decide (0<k)=B):=Hd (by
       rw[HE.out,HK.out];rfl)
      go_wp2_with fail;go_ret;exact HF.out _ HV.out
     . have HV:Hid (((k:Int).tmod 2 == 1)=B):=Hd (by rw[HE.out,HK.out];exact tmod2 _);go_wp2_with fail;go_ret;exact HF.out _ HV.out
     .
      have:=gz (.inl rfl);subst this;obtain⟨g,cap,rfl,hc⟩:=g1 (by omega);have c0:=hc 0 (by omega);have c1:=hc 1 (by omega);have HV:Hid ((!(f 0)||f 1)=B):=Hd (by rw[HE.out];rfl);obtain⟨y0,g9⟩:∃ y,y=f 0:=⟨_,rfl⟩;obtain⟨y1,g8⟩:∃ y,y=f 1:=⟨_,rfl⟩;rw[<- g9] at c0 HV;rw[<- g8] at c1 HV;clear g9 g8 hc g1;cases y0 with
      | true =>
        go_wp2_with fail;go_ret;exact HF.out _ HV.out
      | false =>
        go_wp2_with fail;go_ret;exact HF.out _ HV.out
     .
      have HV:Hid (((k:Int) != 1)=B):=Hd (by
       rw[HE.out,HK.out]
       show (!((cntT i f:Int) == ((1:Nat):Int)))=decide (cntT i f≠1)
       rw[Zqt]
       by_cases h:cntT i f=1<;>simp[h])
      go_wp2_with fail;go_ret;exact HF.out _ HV.out
     .
      have:=gy rfl;subst this;obtain⟨g,cap,rfl,hc⟩:=g1 (by omega);have c0:=hc 0 (by omega);have c1:=hc 1 (by omega);have c2:=hc 2 (by omega);have HV:Hid (iteB (f 0) (f 1) (f 2)=B):=Hd (by rw[HE.out];rfl);obtain⟨y0,g9⟩:∃ y,y=f 0:=⟨_,rfl⟩;obtain⟨y1,g8⟩:∃ y,y=f 1:=⟨_,rfl⟩;obtain⟨y2,gl⟩:∃ y,y=f 2:=⟨_,rfl⟩;rw[<- g9] at c0 HV;rw[<- g8] at c1 HV;rw[<- gl] at c2 HV;clear g9 g8 gl hc g1;cases y0 with
      | true =>
        go_wp2_with fail;go_ret;exact HF.out _ HV.out
      | false =>
        go_wp2_with fail;go_ret;exact HF.out _ HV.out
open Go.RowKit
section
variable {P:Program}{ops:Array Oper}{S:World->Prop}{Q:Exit->Act->World->Prop}{last:Bool}
theorem Zs9 {o:Oper}{r:List (Option Oper×Bool)}{a:Act}{w w':World}{v:Value}(hw:Region.wanted o (yielded ops a.tmps)=true)
 (he:(execOp a.eval o).run P w=.ok (.value v) w') (hS:S w') (h:Zcl P ops Q S last r (a.put o.dst v) w'):Zcl P ops Q S last ((some o,true)::r) a w:=by
 unfold Zcl;simp only[hw,if_true,Oper.wp,he,Oper.upon];exact⟨.inr hS,h⟩
theorem Zs8 {o:Oper}{r:List (Option Oper×Bool)}{a:Act}{w:World}{f:FuncId}{args:Array Value}{R:Value->World->Prop}(hw:Region.wanted o (yielded ops a.tmps)=true)
 (he:(execOp a.eval o).run P w=.ok (.enter f args) w) (hc:Calls P f args w fun e w'=>∃ v,e=.returned v/\S w'/\R v w')
 (h:∀ v w',S w'->R v w'->Zcl P ops Q S last r (a.put o.dst v) w'):Zcl P ops Q S last ((some o,true)::r) a w:=by
 unfold Zcl;simp only[hw,if_true,Oper.wp,he,Oper.upon];exact hc.mono fun e w' ⟨v,h1,h2,h3⟩=>by subst h1;exact⟨.inr h2,h v w' h2 h3⟩
end
theorem Ze6 (mb:Nat)(b:Bool)(w:World):Calls prog 90 #[.pointer (some ⟨mb,0,none⟩),.bool b] w fun x w'=>x=.returned (.int .i64 (if b then 1 else 0))/\w=w':=by
 cases b with
 | true =>
   go_enter func90,ntmps90
   go_wp2_with fail;go_ret;exact⟨rfl,rfl⟩
 | false =>
   go_enter func90,ntmps90
   go_wp2_with fail;go_ret;exact⟨rfl,rfl⟩
theorem Yar {α:Type}{l:List α}(h:l.length=2):∃ a b,l=[a,b]:=by
 match l,h with
 | [a,b],_=>exact⟨a,b,rfl⟩
theorem Zvi {α:Type}{l:List α}(h:l.length=3):∃ a b c,l=[a,b,c]:=by
 match l,h with
 | [a,b,c],_=>exact⟨a,b,c,rfl⟩
theorem Zr4 {f:Nat->Nat}(h:∀ i,1<=f i):∀ k,k<=sumN k f
 | 0=>Nat.zero_le _
 | k+1=>by
   have:=Zr4 h k;have:=h k
   show k+1<=sumN k f+f k
   omega
section
variable {K:Law}{n:Nat}{Od:List Nat->Prop}{room:Nat}{w0 w w' w'':World}{mb:Nat}{fs fs':List (Int×BF)}{nx nx':Int}{o o':Own}{m m':ManD}{V V':Nat->BF}
theorem Goes.refl {M:Nat}(h:SatE K n Od room w0 mb fs nx w o m V)(hw:m.waits=[]/\m.d.pool.many<=M):Goes K n Od room w0 mb fs nx (NoW M) o w w:=⟨o,m,V,ChgX.of_below (Below.refl _ _) o NoB,hw,h⟩
theorem Goes.after {Wt:List Ev->Int->Nat->Prop}(hc:ChgX NoB o o' w w')(g:Goes K n Od room w0 mb fs nx Wt o' w' w''):Goes K n Od room w0 mb fs nx Wt o w w'':=by
 obtain⟨o2,m2,V2,h1,h2,h3⟩:=g;exact⟨o2,m2,V2,hc.trans h1 (fun _ _ e=>e),h2,h3⟩
theorem Goes.cell {Wt:List Ev->Int->Nat->Prop}(g:Goes K n Od room w0 mb fs nx Wt o w w'){p:Addr}{v:Value}(hc:w.cell? p=some v)(hb:o p.block=none):w'.cell? p=some v:=by
 obtain⟨o2,m2,V2,h1,h2,h3⟩:=g;exact h1.cell hc hb (fun e=>e)
theorem Goes.below0 {Wt:List Ev->Int->Nat->Prop}(g:Goes K n Od room w0 mb fs nx Wt o w w'):Below w0.heap.size w0 w':=by
 obtain⟨o2,m2,V2,h1,h2,h3⟩:=g;exact h3.chg.below0
structure BuiT (K:Law)(n:Nat)(Od:List Nat->Prop)(room:Nat)(w0:World)(mb:Nat)(fs:List (Int×BF))(nx:Int)(M:Nat)(o:Own)(w:World)(vl:Value)(ks:List Int)(W:World)(o':Own)(m':ManD)(V':Nat->BF):Prop where
 sat:SatE K n Od room w0 mb fs nx W o' m' V'
 waits:m'.waits=[]/\m'.d.pool.many<=M
 chg:ChgX NoB o o' w W
 l:LawL W o' w.heap.size vl ks
def BuiS (K:Law)(n:Nat)(Od:List Nat->Prop)(room:Nat)(w0:World)(mb:Nat)(fs:List (Int×BF))(nx:Int)(M:Nat)(o:Own)(w:World)(vl:Value)(ks:List Int)(W:World):Prop:=∃ o' m' V',BuiT K n Od room w0 mb fs nx M o w vl ks W o' m' V'
section
variable {M:Nat}{vl vl':Value}{ks:List Int}{W W':World}
theorem BuiT.go (h:BuiT K n Od room w0 mb fs nx M o w vl ks W o' m' V'){M':Nat}(g:Goes K n Od room w0 mb fs' nx' (NoW M') o' W W'):BuiS K n Od room w0 mb fs' nx' M' o w vl ks W':=by
 obtain⟨o2,m2,V2,h1,h2,h3⟩:=g;exact⟨o2,m2,V2,h3,h2,h.chg.trans h1 (fun _ _ e=>e),h.l.chg h1⟩
theorem BuiT.refl (h:BuiT K n Od room w0 mb fs nx M o w vl ks W o' m' V'):Goes K n Od room w0 mb fs nx (NoW M) o' W W:=Goes.refl h.sat h.waits
theorem BuiS.below (h:BuiS K n Od room w0 mb fs nx M o w vl ks W)(hb:Below W.heap.size W W'):BuiS K n Od room w0 mb fs nx M o w vl ks W':=by
 obtain⟨o',m',V',h⟩:=h;exact h.go (h.refl.below hb)
theorem BuiS.goes (h:BuiS K n Od room w0 mb fs nx M o w vl ks W):Goes K n Od room w0 mb fs nx (NoW M) o w W:=by
 obtain⟨o',m',V',h⟩:=h;exact⟨o',m',V',h.chg,h.waits,h.sat⟩
theorem BuiS.app {k:Int}(h:BuiT K n Od room w0 mb fs nx M o w vl ks W o' m' V')(hown:OwnC 3 W' w.heap.size vl' (Za1 ks++[.int .i64 k]))(e1:W'.os=W.os)(e2:W'.tape=W.tape)(e3:W'.output=W.output)(e4:W.heap.size<=W'.heap.size)(hk:Zcp vl vl' W W')(hw0:w0.heap.size<=w.heap.size) :
 BuiS K n Od room w0 mb fs nx M o w vl' (ks++[k]) W':=by
 have hw:=Zmj e1 e2 e3 e4 hk;exact⟨o',m',V',h.sat.other hw (fun k _ hk=>⟨by have:=(h.l.own.lt k hk).1;omega,h.l.no k hk⟩),h.waits,h.chg.trans (ChgX.of_wr (C:=fun k=>w.heap.size<=k) hw o' (fun k _ hk=>(h.l.own.lt k hk).1)) (fun k hk e=>by omega),h.l.app h.sat.lt hown hk⟩
theorem BuiS.cells (h:BuiS K n Od room w0 mb fs nx M o w vl ks W)(hp:0<ks.length):∃ g c,vl=.slice (some ⟨g,0,none⟩) ks.length c/\∀ j,j<ks.length->W.cell? ⟨g,j,none⟩=some (.int .i64 (at0 ks j)):=by
 obtain⟨o',m',V',h⟩:=h;obtain⟨g,c,e,_⟩:=h.l.own.shape (by simpa [Za1] using hp);have e':vl=.slice (some ⟨g,0,none⟩) ks.length c:=by rw[e];simp[Za1]
 refine⟨g,c,e',fun j hj=>?_⟩;have ho:=h.l.own;rw[e'] at ho;rw[ho.cell j (by simpa [Za1] using hj)];simp[Za1,Zby hj,hj]
theorem BuiS.cellsN (h:BuiS K n Od room w0 mb fs nx M o w vl ks W){i:Nat}(hl:ks.length=i)(hp:0<i):∃ g c,vl=.slice (some ⟨g,0,none⟩) i c/\∀ j,j<i->W.cell? ⟨g,j,none⟩=some (.int .i64 (at0 ks j)):=by
 subst hl;exact h.cells hp
end
def Zhm (n s:Nat):Nat:=s*2^n-(2^n-1)
theorem Zh2 (n:Nat){s:Nat}(h:1<=s):Zhm n s+(2^n-1)=s*2^n:=by
 have:=Nat.mul_le_mul_right (2^n) h;unfold Zhm;omega
def Ze1 (n:Nat)(kid:Nat->ExT)(i:Nat):Nat:=sumN i fun j=>Zhm n (kid j).size
theorem Zof (n:Nat)(kid:Nat->ExT):∀ i,Ze1 n kid i+i*(2^n-1)=(sumN i fun i=>(kid i).size)*2^n
 | 0=>by simp[Ze1,sumN]
 | i+1=>by
   have h1:=Zof n kid i;have h2:=Zh2 n (kid i).size_pos
   show Ze1 n kid i+Zhm n (kid i).size+(i+1)*(2^n-1)=((sumN i fun i=>(kid i).size)+(kid i).size)*2^n
   rw[Nat.add_mul,Nat.add_mul];omega
structure BCtx (K:Law)(n:Nat)(Od:List Nat->Prop)(room:Nat)(w0:World)(mb:Nat)(fs:List (Int×BF))(nx:Int)(M:Nat)(w w1:World)(o:Own)(m:ManD)(V:Nat->BF)(op v:Int)(nk:Nat)(kid:Nat->ExT)(a:Option Addr)(c:Nat)(E:ExT)(Q:Ending->World->Prop):Prop where
 HKK:Hid (Zbh K)
 H5:Hid (∀ k,k<nk->∃ b off x0 x1 x2,a=some ⟨b,off,none⟩/\w0.cell? ⟨b,off+k*3,none⟩=some x0/\w0.cell? ⟨b,off+k*3+1,none⟩=some x1/\w0.cell? ⟨b,off+k*3+2,none⟩=some x2/\Zbe w0 (kid k) (.agg #[x0,x1,x2]))
 HKS:Hid (∀ i,i<nk->(sumN i fun i=>(kid i).size)+(kid i).size+1<=E.size)
 HSZ:Hid (E.size=1+sumN nk fun i=>(kid i).size)
 HPOS:Hid (∀ k,k<=sumN k fun i=>(kid i).size)
 IH:Hid (∀ (i:Nat) (x:Value) (fs':List (Int×BF)) (nx':Int) (W:World) (o':Own) (m':ManD) (V':Nat->BF) (M':Nat),i<nk->SatE K n Od room w0 mb fs' nx' W o' m' V'->m'.waits=[]/\m'.d.pool.many<=M'->B2 fs'->Zbe w0 (kid i) x->nx'+3*(kid i).size<549755813000->M'+(kid i).size*2^n<=room ->
  Calls prog 44 #[.pointer (some ⟨mb,0,none⟩),x] W fun y w'=>∃ k:Int,y=.returned (.tuple #[.int .i64 k,.bool true])/\k+3<=nx'+3*(kid i).size/\Goes K n Od room w0 mb (fs'++[(k,fnT (kid i))]) (k+1) (NoW (M'+Zhm n (kid i).size)) o' W w')
 HW1:Hid (w.alloc (.cells #[.int .i64 op,.int .i64 v,.slice a nk c] 81)=w1)
 HG1:Hid (Goes K n Od room w0 mb fs nx (NoW M) o w1 w1)
 HSAT1:Hid (SatE K n Od room w0 mb fs nx w1 o m V)
 HWT:Hid (m.waits=[]/\m.d.pool.many<=M)
 HB2:Hid (B2 fs)
 HQ:Hid (∀ (k:Int) F W M',F=fnT E->k+3<=nx+3*E.size->M'<=M+Zhm n E.size->Goes K n Od room w0 mb (fs++[(k,F)]) (k+1) (NoW M') o w1 W->Q (.returned (.tuple #[.int .i64 k,.bool true])) W)
 HMR:Hid (∀ i,i<nk->M+(sumN i fun i=>(kid i).size)*2^n+(kid i).size*2^n+2^n<=room)
 HCK:Hid (∀ i,Ze1 n kid i+i*(2^n-1)=(sumN i fun i=>(kid i).size)*2^n)
 HCI:Hid (∀ i,Zhm n (kid i).size+(2^n-1)=(kid i).size*2^n)
 HEP:Hid (E.size*2^n=2^n+(sumN nk fun i=>(kid i).size)*2^n/\Zhm n E.size+(2^n-1)=E.size*2^n)
 HME:Hid (M+E.size*2^n<=room)
 hn64:nk<=64
 hnx:nx+3*E.size<549755813000
 hE1:1<=E.size
 hs1:w1.heap.size=w.heap.size+1
 d0:w1.cell? ⟨w.heap.size,0,none⟩=some (.int .i64 op)
 d1:w1.cell? ⟨w.heap.size,1,none⟩=some (.int .i64 v)
 d2:w1.cell? ⟨w.heap.size,2,none⟩=some (.slice a nk c)
 on:o w.heap.size=none
 hw0:w0.heap.size<=w1.heap.size
 hp2:0<2^n
 h2 : -9223372036854775808<=op/\op<=9223372036854775807
 h3 : -9223372036854775808<=v/\v<=9223372036854775807
theorem Zsh {w1:World}{op v:Int}{nk:Nat}{kid:Nat->ExT}{a:Option Addr}{c:Nat}{E:ExT}{Q:Ending->World->Prop}{M:Nat}(hctx:BCtx K n Od room w0 mb fs nx M w w1 o m V op v nk kid a c E Q)(h1:op=1)(hF:fnT E=fun _=>true) :
 Calls prog 44 #[.pointer (some ⟨mb,0,none⟩),.agg #[.int .i64 op,.int .i64 v,.slice a nk c]] w Q:=by
 obtain⟨HKK,H5,HKS,HSZ,HPOS,IH,HW1,HG1,HSAT1,HWT,HB2,HQ,HMR,HCK,HCI,HEP,HME,hn64,hnx,hE1,hs1,d0,d1,d2,on,hw0,hp2,h2,h3⟩:=hctx;subst h1;have g2:=Hd (Ze6 mb true w1);have g1:=Hd (Zms HKK.out HG1.out (by omega) (k:=1) (F:=fun _=>true) HB2.out.one);have g0:Hid ((fun _=>true)=fnT E):=Hd hF.symm;have g3:Hid (M<=M+Zhm n E.size):=Hd (Nat.le_add_right _ _);clear IH
 go_enter func44,ntmps44
 go_upto_region 1 with fail;rw[HW1.out];go_wp2_with fail;refine g2.out.mono ?_;rintro y w' ⟨rfl,rfl⟩;go_wp2_with fail;refine g1.out.mono ?_;rintro y w2 ⟨rfl,g⟩;have HF:=Hd (HQ.out nx _ w2 _ g0.out (by omega) g3.out g);clear g;go_wp2_with fail;exact HF.out
theorem Zqd {w1:World}{op v:Int}{nk:Nat}{kid:Nat->ExT}{a:Option Addr}{c:Nat}{E:ExT}{Q:Ending->World->Prop}{M:Nat}(hctx:BCtx K n Od room w0 mb fs nx M w w1 o m V op v nk kid a c E Q)(h1:op=2)(hF:fnT E=fun _=>false) :
 Calls prog 44 #[.pointer (some ⟨mb,0,none⟩),.agg #[.int .i64 op,.int .i64 v,.slice a nk c]] w Q:=by
 obtain⟨HKK,H5,HKS,HSZ,HPOS,IH,HW1,HG1,HSAT1,HWT,HB2,HQ,HMR,HCK,HCI,HEP,HME,hn64,hnx,hE1,hs1,d0,d1,d2,on,hw0,hp2,h2,h3⟩:=hctx;subst h1;have g2:=Hd (Ze6 mb false w1);have g1:=Hd (Zms HKK.out HG1.out (by omega) (k:=0) (F:=fun _=>false) HB2.out.zero);have g0:Hid ((fun _=>false)=fnT E):=Hd hF.symm;have g3:Hid (M<=M+Zhm n E.size):=Hd (Nat.le_add_right _ _);clear IH
 go_enter func44,ntmps44
 go_upto_region 1 with fail;rw[HW1.out];go_wp2_with fail;refine g2.out.mono ?_;rintro y w' ⟨rfl,rfl⟩;go_wp2_with fail;refine g1.out.mono ?_;rintro y w2 ⟨rfl,g⟩;have HF:=Hd (HQ.out nx _ w2 _ g0.out (by omega) g3.out g);clear g;go_wp2_with fail;exact HF.out
theorem Zuk {w1:World}{op v:Int}{nk:Nat}{kid:Nat->ExT}{a:Option Addr}{c:Nat}{E:ExT}{Q:Ending->World->Prop}{M:Nat}(hctx:BCtx K n Od room w0 mb fs nx M w w1 o m V op v nk kid a c E Q){u:Nat}(hu:u<n)(h1:op=3)(hvu:v=u)(hF:fnT E=varF u) :
 Calls prog 44 #[.pointer (some ⟨mb,0,none⟩),.agg #[.int .i64 op,.int .i64 v,.slice a nk c]] w Q:=by
 obtain⟨HKK,H5,HKS,HSZ,HPOS,IH,HW1,HG1,HSAT1,HWT,HB2,HQ,HMR,HCK,HCI,HEP,HME,hn64,hnx,hE1,hs1,d0,d1,d2,on,hw0,hp2,h2,h3⟩:=hctx;subst hvu;subst h1;have g1:=Hd (Yb9 HKK.out HG1.out (by omega) (by have:=HEP.out;have:=HME.out;omega) hu);have g0:Hid (varF u=fnT E):=Hd hF.symm;have g2:Hid (M+1<=M+Zhm n E.size):=Hd (by have:=HEP.out;omega);clear IH
 go_enter func44,ntmps44
 go_upto_region 1 with fail;rw[HW1.out];go_wp2_with fail;refine g1.out.mono ?_;rintro y w2 ⟨rfl,g⟩;have HF:=Hd (HQ.out nx _ w2 _ g0.out (by omega) g2.out g);clear g;go_wp2_with fail;exact HF.out
end
open Go.RowKit
section
variable {K:Law}{n:Nat}{Od:List Nat->Prop}{room:Nat}{w0 w w' w'':World}{mb:Nat}{fs fs':List (Int×BF)}{nx nx':Int}{o o':Own}{m m':ManD}{V V':Nat->BF}
theorem Zug {w1:World}{op v:Int}{nk:Nat}{kid:Nat->ExT}{a:Option Addr}{c:Nat}{E:ExT}{Q:Ending->World->Prop}{M:Nat}(hctx:BCtx K n Od room w0 mb fs nx M w w1 o m V op v nk kid a c E Q)(h1:op=5\/op=6\/op=7)(hF:fnT E=accT op kid nk) :
 Calls prog 44 #[.pointer (some ⟨mb,0,none⟩),.agg #[.int .i64 op,.int .i64 v,.slice a nk c]] w Q:=by
 obtain⟨HKK,H5,HKS,HSZ,HPOS,IH,HW1,HG1,HSAT1,HWT,HB2,HQ,HMR,HCK,HCI,HEP,HME,hn64,hnx,hE1,hs1,d0,d1,d2,on,hw0,hp2,h2,h3⟩:=hctx;have ga:5<=op/\op<=9:=by omega
 have gb:Hid (accT op kid nk=fnT E):=Hd hF.symm;have gc:=Hd (fun b=>Ze6 mb b w1)
 have g8:Hid (∀ z:Int,z=(if op=5 then 1 else 0)->Calls prog 88 #[.pointer (some ⟨mb,0,none⟩),.int .i64 z] w1 fun x w''=>x=.returned (.tuple #[.int .i64 nx,.int .i64 0])/\Goes K n Od room w0 mb (fs++[(nx,accT op kid 0)]) (nx+1) (NoW M) o w1 w''):=Hd (by
  rintro z rfl
  by_cases e:op=5
  . rw[if_pos e,show accT op kid 0=fun _=>true by unfold accT;simp[e]];exact Zms HKK.out HG1.out (by omega) HB2.out.one
  . rw[if_neg e,show accT op kid 0=fun _=>false by unfold accT;simp[e]];exact Zms HKK.out HG1.out (by omega) HB2.out.zero)
 obtain⟨A,hA⟩:∃ A:Nat->BF,A=accT op kid:=⟨_,rfl⟩;have gi:Hid (∀ i,Zo3 op (A i) (fnT (kid i))=A (i+1)):=Hd fun i=>by rw[hA];rfl
 rw[<- hA] at g8 gb;clear hA;rcases h1 with h1|h1|h1
 all_goals
  subst h1
  go_enter func44,ntmps44
  go_upto_region 1 with fail;rw[HW1.out];go_wp2_with fail;refine(gc.out _).mono ?_;rintro y w' ⟨rfl,rfl⟩;go_wp2_with fail;refine(g8.out _ (by rfl)).mono ?_;rintro y w2 ⟨rfl,g⟩;have gh:=Hd g;clear g gc g8;go_wp2_with fail
  go_loopw [10,12,13,14] (fun s10 s12 s13 s14 wr=>∃ (i:Nat) (k:Int),i<=nk/\s10=.int .i64 k/\s12=.bool true/\s13=.int .i64 i/\Hid (k+3<=nx+3*((1+sumN i fun i=>(kid i).size:Nat):Int))/\Hid (Goes K n Od room w0 mb (fs++[(k,A i)]) (k+1) (NoW (M+(sumN i fun i=>(kid i).size)*2^n)) o w1 wr)) (fun _ _ s13 _ _=>nk-(intOf s13).toNat)
  case atStart=>exact⟨0,nx,Nat.zero_le _,rfl,rfl,rfl,Hd (by show nx+3<=nx+3*((1+0:Nat):Int);omega),Hd (gh.out.more (Nat.le_add_right _ _))⟩
  case round =>
   obtain⟨i,k,hi,rfl,rfl,rfl,HN,HG⟩:=hrel;have e0:=HG.out.cell (p:=⟨w.heap.size,0,none⟩) d0 on;have e2:=HG.out.cell (p:=⟨w.heap.size,2,none⟩) d2 on
   by_cases g0:i<nk
   .
    obtain⟨b,off,x0,x1,x2,rfl,c0,c1,c2,hx⟩:=H5.out i g0;have g1:=HG.out.below0;have q0:=(g1.cell (p:=⟨b,off+i*3,none⟩) (Zaa c0)).trans c0;have q1:=(g1.cell (p:=⟨b,off+i*3+1,none⟩) (Zaa c1)).trans c1;have q2:=(g1.cell (p:=⟨b,off+i*3+2,none⟩) (Zaa c2)).trans c2;have ge:(i:Int)<nk:=by omega
    have gk:=HKS.out i g0;obtain⟨o1,m1,V1,g9,g5,g6⟩:=HG.out;have gj:=HN.out;have g2:=Hd (IH.out i _ (fs++[(k,A i)]) (k+1) _ o1 m1 V1 _ g0 g6 g5 (HB2.out.app _) hx (by omega) (by have:=HMR.out i g0;omega));have gd:=Hd g9;clear g1 c0 c1 c2 hx g6 g5 g9;go_wp2_with fail;refine g2.out.mono ?_;rintro y w3 ⟨k2,rfl,gm,g3⟩
    have g7:Hid (Goes K n Od room w0 mb (fs++[(k,A i),(k2,fnT (kid i))]) (k2+1) (NoW (M+(sumN i fun i=>(kid i).size)*2^n+Zhm n (kid i).size)) o w1 w3):=Hd (by
     have:=g3.after gd.out;rw[List.append_assoc] at this;exact this)
    have f0:=g7.out.cell (p:=⟨w.heap.size,0,none⟩) d0 on;have HJ:=Hd (Zrm HKK.out g7.out HB2.out (by omega) (by have:=HMR.out i g0;have:=HCI.out i;omega) ga.1 ga.2);clear g3 g2 gd q0 q1 q2 e0 e2;go_wp2_with fail;refine HJ.out.mono ?_;rintro y w4 ⟨k4,rfl,gl,g4⟩
    have gg:Hid (Goes K n Od room w0 mb (fs++[(k4,A (i+1))]) (k4+1) (NoW (M+(sumN (i+1) fun i=>(kid i).size)*2^n)) o w1 w4):=Hd (by
     rw[<- gi.out i];refine g4.more ?_
     show _<=M+((sumN i fun i=>(kid i).size)+(kid i).size)*2^n
     rw[Nat.add_mul];have:=HCI.out i;omega)
    have gf:Hid (k4+3<=nx+3*((1+sumN (i+1) fun i=>(kid i).size:Nat):Int)):=Hd (by
     show k4+3<=nx+3*((1+((sumN i fun i=>(kid i).size)+(kid i).size):Nat):Int)
     omega)
    clear g4 HJ f0 g7;go_wp2_with fail;go_roundw
    case rel=>exact⟨i+1,k4,by omega,rfl,rfl,by go_num,gf,gg⟩
    case measure=>simp[intOf];omega
   .
    obtain rfl:i=nk:=by omega
    have ge:¬ (i:Int)<i:=by omega
    have HF:=Hd (HQ.out k _ _ _ gb.out (by have:=HN.out;have:=HSZ.out;omega) (by have:=HEP.out;omega) HG.out);go_wp2_with fail;exact HF.out
end
open Go.RowKit
section
variable {K:Law}{n:Nat}{Od:List Nat->Prop}{room:Nat}{w0 w w' w'':World}{mb:Nat}{fs fs':List (Int×BF)}{nx nx':Int}{o o':Own}{m m':ManD}{V V':Nat->BF}
theorem Zui {w1:World}{op v:Int}{nk:Nat}{kid:Nat->ExT}{a:Option Addr}{c:Nat}{E:ExT}{Q:Ending->World->Prop}{M:Nat}(hctx:BCtx K n Od room w0 mb fs nx M w w1 o m V op v nk kid a c E Q)(h1:op=4)(hnk:nk=1)(hF:fnT E=notF (fnT (kid 0))) :
 Calls prog 44 #[.pointer (some ⟨mb,0,none⟩),.agg #[.int .i64 op,.int .i64 v,.slice a nk c]] w Q:=by
 obtain⟨HKK,H5,HKS,HSZ,HPOS,IH,HW1,HG1,HSAT1,HWT,HB2,HQ,HMR,HCK,HCI,HEP,HME,hn64,hnx,hE1,hs1,d0,d1,d2,on,hw0,hp2,h2,h3⟩:=hctx;have g1:(op == 1)=false:=by simp;omega
 have g2:(op == 2)=false:=by simp;omega
 have g3:(op == 3)=false:=by simp;omega
 have g5:(op == 5)=false:=by simp;omega
 have g6:(op == 6)=false:=by simp;omega
 have g7:(op == 7)=false:=by simp;omega
 have g4:(op == 4)=true:=by simp;omega
 have gB:=Hd hnk;clear h1 hnk;obtain⟨w2,ge⟩:∃ w2,w2=w1.alloc (.cells #[] 3):=⟨_,rfl⟩;have gA:Hid (_=w2):=Hd ge.symm;have g9:Below w1.heap.size w1 w2:=by rw[ge];exact Zad _ _
 have gl:Hid (BuiS K n Od room w0 mb (fs++[]) nx (M+Ze1 n kid 0) o w1 (.slice (some ⟨w.heap.size+1,0,none⟩) 0 0) (([]:List (Int×BF)).map Prod.fst) w2):=Hd ⟨o,m,V,by rw[List.append_nil];exact HSAT1.out.below g9,HWT.out,Zb3 g9 o,by rw[ge,<- hs1];exact Zf0 _ _ _ (Nat.le_refl _),fun k hk=>by cases hk;rw[<- hs1];exact HSAT1.out.lt.none (Nat.le_refl _)⟩;have gm:=Hd g9;clear ge g9
 go_enter func44,ntmps44
 go_upto_region 1 with fail;rw[HW1.out];go_upto_region 23 with fail;rw[gA.out];have e2:=(gm.out.cell (p:=⟨w.heap.size,2,none⟩) (Zaa d2)).trans d2;go_wp2_with fail
 go_loopw [15,106] (fun s15 s106 wr=>∃ (i:Nat) (hs:List (Int×BF)) (nxi:Int),i<=nk/\s106=.int .i64 i/\hs.length=i/\nxi+2*i<=nx+3*((sumN i fun i=>(kid i).size:Nat):Int)/\Hid (∀ j (hj:j<hs.length),hs[j].2=fnT (kid j))/\Hid (BuiS K n Od room w0 mb (fs++hs) nxi (M+Ze1 n kid i) o w1 s15 (hs.map Prod.fst) wr)) (fun _ s106 _=>nk-(intOf s106).toNat)
 case atStart=>exact⟨0,[],nx,Nat.zero_le _,rfl,rfl,by show nx+2*((0:Nat):Int)<=nx+3*((0:Nat):Int);omega,Hd (fun j hj=>by simp at hj),gl⟩
 case round =>
  clear gl gm e2
  rename World=>wy
  obtain⟨i,hs,nxi,hi,rfl,gy,gG,gr,g0⟩:=hrel
  by_cases gh:i<nk
  .
   obtain⟨b,off,x0,x1,x2,rfl,c0,c1,c2,hx⟩:=H5.out i gh;have gi:=g0.out.goes.below0;have q0:=(gi.cell (p:=⟨b,off+i*3,none⟩) (Zaa c0)).trans c0;have q1:=(gi.cell (p:=⟨b,off+i*3+1,none⟩) (Zaa c1)).trans c1;have q2:=(gi.cell (p:=⟨b,off+i*3+2,none⟩) (Zaa c2)).trans c2;obtain⟨zo,zv,za,zn,zc,rfl,rfl,rfl⟩:=hx.parts;have gx:(i:Int)<nk:=by omega
   have gI:=HKS.out i gh;obtain⟨wz,gd⟩:∃ wz,wz=wy.alloc (.cells #[.int .i64 zo,.int .i64 zv,.slice za zn zc] 81):=⟨_,rfl⟩;have gz:Hid (_=wz):=Hd gd.symm;have gq:Below wy.heap.size wy wz:=by rw[gd];exact Zad _ _
   have g8:wz.heap[wy.heap.size]?=some (.cells #[.int .i64 zo,.int .i64 zv,.slice za zn zc] 81 (0,0)):=by rw[gd];exact heap_alloc_new _ _
   have p0:wz.cell? ⟨wy.heap.size,0,none⟩=some (.int .i64 zo):=by rw[cell_of_row _ _ 0 _ _ _ g8];rfl
   have p1:wz.cell? ⟨wy.heap.size,1,none⟩=some (.int .i64 zv):=by rw[cell_of_row _ _ 1 _ _ _ g8];rfl
   have p2:wz.cell? ⟨wy.heap.size,2,none⟩=some (.slice za zn zc):=by rw[cell_of_row _ _ 2 _ _ _ g8];rfl
   obtain⟨o1,m1,V1,bt⟩:=g0.out.below gq;have gF:=HPOS.out i;have gj:=Hd (IH.out i _ (fs++hs) nxi wz o1 m1 V1 _ gh bt.sat bt.waits (HB2.out.app _) hx (by omega) (by have:=HMR.out i gh;have:=HCK.out i;omega));have gb:=Hd bt;clear gi c0 c1 c2 hx bt gd gq g8 g0;go_upto_region 26 with fail;rw[gz.out];clear q0 q1 q2;go_wp2_with fail;refine gj.out.mono ?_;rintro y w3 ⟨k2,rfl,gJ,gg⟩;have gk:=Hd (gb.out.go (M':=M+Ze1 n kid (i+1)) (gg.more (Nat.le_of_eq (Nat.add_assoc _ _ _))));have gD:Hid (∀ j (hj:j<(hs++[(k2,fnT (kid i))]).length),(hs++[(k2,fnT (kid i))])[j].2=fnT (kid j)):=Hd fun j hj=>by
    rcases Nat.lt_or_ge j hs.length with h|h
    . rw[List.getElem_append_left h];exact gr.out j h
    .
     have gw:j=i:=by simp at hj;omega
     subst gw;rw[List.getElem_append_right (by omega)];simp
   clear gg gj gb p0 p1 p2;obtain⟨o3,m3,V3,bt3⟩:=gk.out;have gu:w1.heap.size<=w3.heap.size:=bt3.chg.size;have gc:=Hd bt3;clear bt3;go_upto_region 30 with (at_builtin;refine Zb6 Zhp _ rfl _ _ rfl w1.heap.size _ (Za1 (hs.map Prod.fst)) _ rfl rfl rfl rfl rfl (by exact gc.out.l.own) (by simp[Za1];omega) gu ?_;intro v5 w5 gf r1 r2 r3 r4 gn)
   have gv:Hid (BuiS K n Od room w0 mb (fs++(hs++[(k2,fnT (kid i))])) (k2+1) (M+Ze1 n kid (i+1)) o w1 v5 ((hs++[(k2,fnT (kid i))]).map Prod.fst) w5):=Hd (by
    have:=BuiS.app gc.out gf r1 r2 r3 r4 gn hw0;rw[List.append_assoc] at this;rw[List.map_append];exact this)
   clear gf r1 r2 r3 r4 gn gc gk;go_wp2_with fail;go_roundw
   case rel=>exact⟨i+1,hs++[(k2,fnT (kid i))],k2+1,by omega,by go_num,by simp;omega,by
    show k2+1+2*((i+1:Nat):Int)<=nx+3*(((sumN i fun i=>(kid i).size)+(kid i).size:Nat):Int)
    omega,gD,gv⟩
   case measure=>simp[intOf];omega
  .
   obtain rfl:i=nk:=by omega
   have gx:¬ (i:Int)<i:=by omega
   have f0:=g0.out.goes.cell (p:=⟨w.heap.size,0,none⟩) d0 on;have gt:=HSZ.out;have gE:nxi+2*i+3<=nx+3*E.size:=by omega
   have hnk:=gB.out;have gH:1<=i:=by omega
   clear gt H5 IH HSZ HKS HPOS;obtain⟨o1,m1,V1,bt⟩:=g0.out;have gb:=Hd bt;clear bt;subst hnk;obtain⟨⟨k0,F0⟩,rfl⟩:=List.length_eq_one_iff.1 gy;obtain⟨g,cp,rfl,ga⟩:=g0.out.cellsN (i:=1) rfl (by omega);have c0:wy.cell? ⟨g,0,none⟩=some (.int .i64 k0):=ga 0 (by omega);have HF:Hid (notF F0=fnT E):=Hd (by rw[hF,<- gr.out 0 (by simp)];rfl);have HN:=Hd (Zzi HKK.out gb.out.refl (by omega) (k:=k0) (F:=F0) (by simp));clear ga;go_wp2_with fail;refine HN.out.mono ?_;rintro y w3 ⟨rfl,g3⟩;have gs:=Hd (gb.out.go g3);obtain⟨g',cp',ev,gp⟩:=gs.out.cellsN (i:=1) rfl (by omega);cases ev;have c3:w3.cell? ⟨g,0,none⟩=some (.int .i64 k0):=gp 0 (by omega);have HD:=Hd (Zmt HKK.out (hs:=[(k0,F0)]) (r:=[(nxi,notF F0)]) (by have:=gs.out.goes;rw[List.append_assoc] at this;exact this) HB2.out (by omega) (by simp) (T:=w3.alloc (.cells #[.int .i64 k0] 3)) rfl);clear g3 gp HN;go_wp2_with fail;refine HD.out.mono ?_;rintro y w4 ⟨rfl,g4⟩;have gC:=Hd (HQ.out nxi _ w4 _ HF.out (by omega) (by have:=HEP.out;have:=HCK.out 1;omega) g4);clear g4 HD;go_wp2_with fail;exact gC.out
end
open Go.RowKit
section
variable {K:Law}{n:Nat}{Od:List Nat->Prop}{room:Nat}{w0 w w' w'':World}{mb:Nat}{fs fs':List (Int×BF)}{nx nx':Int}{o o':Own}{m m':ManD}{V V':Nat->BF}
theorem Zuj {w1:World}{op v:Int}{nk:Nat}{kid:Nat->ExT}{a:Option Addr}{c:Nat}{E:ExT}{Q:Ending->World->Prop}{M:Nat}(hctx:BCtx K n Od room w0 mb fs nx M w w1 o m V op v nk kid a c E Q)(h1:op=8\/op=9)(hnk:nk=2)(hF:fnT E=Zo3 op (fnT (kid 0)) (fnT (kid 1))) :
 Calls prog 44 #[.pointer (some ⟨mb,0,none⟩),.agg #[.int .i64 op,.int .i64 v,.slice a nk c]] w Q:=by
 obtain⟨HKK,H5,HKS,HSZ,HPOS,IH,HW1,HG1,HSAT1,HWT,HB2,HQ,HMR,HCK,HCI,HEP,HME,hn64,hnx,hE1,hs1,d0,d1,d2,on,hw0,hp2,h2,h3⟩:=hctx;have g1:(op == 1)=false:=by simp;omega
 have g2:(op == 2)=false:=by simp;omega
 have g3:(op == 3)=false:=by simp;omega
 have g5:(op == 5)=false:=by simp;omega
 have g6:(op == 6)=false:=by simp;omega
 have g7:(op == 7)=false:=by simp;omega
 have g4:(op == 4)=false:=by simp;omega
 have g10:(op == 10)=false:=by simp;omega
 have gA:=Hd hnk;have H1:=Hd h1;clear h1 hnk;obtain⟨w2,ge⟩:∃ w2,w2=w1.alloc (.cells #[] 3):=⟨_,rfl⟩;have gz:Hid (_=w2):=Hd ge.symm;have gb:Below w1.heap.size w1 w2:=by rw[ge];exact Zad _ _
 have gm:Hid (BuiS K n Od room w0 mb (fs++[]) nx (M+Ze1 n kid 0) o w1 (.slice (some ⟨w.heap.size+1,0,none⟩) 0 0) (([]:List (Int×BF)).map Prod.fst) w2):=Hd ⟨o,m,V,by rw[List.append_nil];exact HSAT1.out.below gb,HWT.out,Zb3 gb o,by rw[ge,<- hs1];exact Zf0 _ _ _ (Nat.le_refl _),fun k hk=>by cases hk;rw[<- hs1];exact HSAT1.out.lt.none (Nat.le_refl _)⟩;have gn:=Hd gb;clear ge gb
 go_enter func44,ntmps44
 go_upto_region 1 with fail;rw[HW1.out];go_upto_region 23 with fail;rw[gz.out];have e2:=(gn.out.cell (p:=⟨w.heap.size,2,none⟩) (Zaa d2)).trans d2;go_wp2_with fail
 go_loopw [15,106] (fun s15 s106 wr=>∃ (i:Nat) (hs:List (Int×BF)) (nxi:Int),i<=nk/\s106=.int .i64 i/\hs.length=i/\nxi+2*i<=nx+3*((sumN i fun i=>(kid i).size:Nat):Int)/\Hid (∀ j (hj:j<hs.length),hs[j].2=fnT (kid j))/\Hid (BuiS K n Od room w0 mb (fs++hs) nxi (M+Ze1 n kid i) o w1 s15 (hs.map Prod.fst) wr)) (fun _ s106 _=>nk-(intOf s106).toNat)
 case atStart=>exact⟨0,[],nx,Nat.zero_le _,rfl,rfl,by show nx+2*((0:Nat):Int)<=nx+3*((0:Nat):Int);omega,Hd (fun j hj=>by simp at hj),gm⟩
 case round =>
  clear gm gn e2
  rename World=>wy
  obtain⟨i,hs,nxi,hi,rfl,gx,gF,gk,g9⟩:=hrel
  by_cases gh:i<nk
  .
   obtain⟨b,off,x0,x1,x2,rfl,c0,c1,c2,hx⟩:=H5.out i gh;have gi:=g9.out.goes.below0;have q0:=(gi.cell (p:=⟨b,off+i*3,none⟩) (Zaa c0)).trans c0;have q1:=(gi.cell (p:=⟨b,off+i*3+1,none⟩) (Zaa c1)).trans c1;have q2:=(gi.cell (p:=⟨b,off+i*3+2,none⟩) (Zaa c2)).trans c2;obtain⟨zo,zv,za,zn,zc,rfl,rfl,rfl⟩:=hx.parts;have gw:(i:Int)<nk:=by omega
   have gH:=HKS.out i gh;obtain⟨wz,gd⟩:∃ wz,wz=wy.alloc (.cells #[.int .i64 zo,.int .i64 zv,.slice za zn zc] 81):=⟨_,rfl⟩;have gy:Hid (_=wz):=Hd gd.symm;have gr:Below wy.heap.size wy wz:=by rw[gd];exact Zad _ _
   have ga:wz.heap[wy.heap.size]?=some (.cells #[.int .i64 zo,.int .i64 zv,.slice za zn zc] 81 (0,0)):=by rw[gd];exact heap_alloc_new _ _
   have p0:wz.cell? ⟨wy.heap.size,0,none⟩=some (.int .i64 zo):=by rw[cell_of_row _ _ 0 _ _ _ ga];rfl
   have p1:wz.cell? ⟨wy.heap.size,1,none⟩=some (.int .i64 zv):=by rw[cell_of_row _ _ 1 _ _ _ ga];rfl
   have p2:wz.cell? ⟨wy.heap.size,2,none⟩=some (.slice za zn zc):=by rw[cell_of_row _ _ 2 _ _ _ ga];rfl
   obtain⟨o1,m1,V1,bt⟩:=g9.out.below gr;have gE:=HPOS.out i;have gj:=Hd (IH.out i _ (fs++hs) nxi wz o1 m1 V1 _ gh bt.sat bt.waits (HB2.out.app _) hx (by omega) (by have:=HMR.out i gh;have:=HCK.out i;omega));have g8:=Hd bt;clear gi c0 c1 c2 hx bt gd gr ga g9;go_upto_region 26 with fail;rw[gy.out];clear q0 q1 q2;go_wp2_with fail;refine gj.out.mono ?_;rintro y w3 ⟨k2,rfl,gI,gg⟩;have gl:=Hd (g8.out.go (M':=M+Ze1 n kid (i+1)) (gg.more (Nat.le_of_eq (Nat.add_assoc _ _ _))));have gC:Hid (∀ j (hj:j<(hs++[(k2,fnT (kid i))]).length),(hs++[(k2,fnT (kid i))])[j].2=fnT (kid j)):=Hd fun j hj=>by
    rcases Nat.lt_or_ge j hs.length with h|h
    . rw[List.getElem_append_left h];exact gk.out j h
    .
     have gv:j=i:=by simp at hj;omega
     subst gv;rw[List.getElem_append_right (by omega)];simp
   clear gg gj g8 p0 p1 p2;obtain⟨o3,m3,V3,bt3⟩:=gl.out;have gt:w1.heap.size<=w3.heap.size:=bt3.chg.size;have gc:=Hd bt3;clear bt3;go_upto_region 30 with (at_builtin;refine Zb6 Zhp _ rfl _ _ rfl w1.heap.size _ (Za1 (hs.map Prod.fst)) _ rfl rfl rfl rfl rfl (by exact gc.out.l.own) (by simp[Za1];omega) gt ?_;intro v5 w5 gf r1 r2 r3 r4 gp)
   have gu:Hid (BuiS K n Od room w0 mb (fs++(hs++[(k2,fnT (kid i))])) (k2+1) (M+Ze1 n kid (i+1)) o w1 v5 ((hs++[(k2,fnT (kid i))]).map Prod.fst) w5):=Hd (by
    have:=BuiS.app gc.out gf r1 r2 r3 r4 gp hw0;rw[List.append_assoc] at this;rw[List.map_append];exact this)
   clear gf r1 r2 r3 r4 gp gc gl;go_wp2_with fail;go_roundw
   case rel=>exact⟨i+1,hs++[(k2,fnT (kid i))],k2+1,by omega,by go_num,by simp;omega,by
    show k2+1+2*((i+1:Nat):Int)<=nx+3*(((sumN i fun i=>(kid i).size)+(kid i).size:Nat):Int)
    omega,gC,gu⟩
   case measure=>simp[intOf];omega
  .
   obtain rfl:i=nk:=by omega
   have gw:¬ (i:Int)<i:=by omega
   have f0:=g9.out.goes.cell (p:=⟨w.heap.size,0,none⟩) d0 on;have gs:=HSZ.out;have gD:nxi+2*i+3<=nx+3*E.size:=by omega
   have hnk:=gA.out;have gG:1<=i:=by omega
   clear gs H5 IH HSZ HKS HPOS;obtain⟨o1,m1,V1,bt⟩:=g9.out;have g8:=Hd bt;clear bt;subst hnk;obtain⟨⟨k0,F0⟩,⟨k1',F1⟩,rfl⟩:=Yar gx;obtain⟨g,cp,rfl,g0⟩:=g9.out.cellsN (i:=2) rfl (by omega);have c0:wy.cell? ⟨g,0,none⟩=some (.int .i64 k0):=g0 0 (by omega);have c1:wy.cell? ⟨g,1,none⟩=some (.int .i64 k1'):=g0 1 (by omega);have HF:Hid (Zo3 op F0 F1=fnT E):=Hd (by rw[hF,<- gk.out 0 (by simp),<- gk.out 1 (by simp)];rfl);have HJ:Hid (∀ W,W=wy.drew->Calls prog 106 #[.pointer (some ⟨mb,0,none⟩),.int .i64 op,.int .i64 k0,.int .i64 k1'] W fun x w''=>∃ k:Int,x=.returned (.tuple #[.int .i64 k,.bool true])/\k<=nxi+1/\Goes K n Od room w0 mb (fs++[(k,Zo3 op F0 F1)]) (k+1) (NoW (M+Ze1 n kid 2+(2^n-1))) o1 wy w'') :=
    Hd fun W hW=>by subst hW;exact Zrm HKK.out (g8.out.refl.below (Zaf wy 1)) HB2.out (by omega) (by have:=HEP.out;have:=HCK.out 2;have:=HME.out;omega) (by have:=H1.out;omega) (by have:=H1.out;omega)
   clear g0;go_upto_region 39 with fail;refine Zap (fun W:World=>W.cell? ⟨w.heap.size,0,none⟩=some (.int .i64 op)/\W.cell? ⟨g,0,none⟩=some (.int .i64 k0)/\W.cell? ⟨g,1,none⟩=some (.int .i64 k1')) false 14
    [(0,false),(1,false),(2,false),(3,false),(4,false),(5,false),(6,false),(7,false),(8,false),(9,true),(10,false),(11,false),(12,false),(13,false)] (by kernel_rfl) (by kernel_rfl) ⟨f0,c0,c1⟩ ?_
   simp only[planned,Zc8]
   iterate 9
    refine Zaq rfl ?_;apply Exists.intro;refine⟨fun w' hw=>?_,?_⟩
    . obtain⟨h1,h2,h3⟩:=hw;go_simp;rfl
    simp only[Zah]
   refine Zb5 (R:=fun v w'=>∃ k:Int,v=.tuple #[.int .i64 k,.bool true]/\k<=nxi+1/\Goes K n Od room w0 mb (fs++[(k,Zo3 op F0 F1)]) (k+1) (NoW (M+Ze1 n kid 2+(2^n-1))) o1 wy w') rfl (by go_simp) ((HJ.out _ rfl).mono (fun e w' he=>?_)) ?_
   . obtain⟨k,rfl,q1,q2⟩:=he;have hb:=g8.out.go q2;obtain⟨g',cp',ev,gq⟩:=hb.cellsN (i:=2) rfl (by omega);cases ev;exact⟨_,rfl,⟨hb.goes.cell (p:=⟨w.heap.size,0,none⟩) d0 on,gq 0 (by omega),gq 1 (by omega)⟩,k,rfl,q1,q2⟩
   rintro v w3-⟨k,rfl,q1,q2⟩;have gB:=Hd (HQ.out k _ w3 _ HF.out (by omega) (by have:=HEP.out;have:=HCK.out 2;omega) (g8.out.go q2).goes);clear q2 HJ;simp only[Zah]
   iterate 4
    refine Zaq rfl ?_;apply Exists.intro;refine⟨fun w' hw=>?_,?_⟩
    . obtain⟨h1,h2,h3⟩:=hw;go_simp;rfl
    simp only[Zah]
   refine Zeg ?_;go_wp2_with fail;exact gB.out
end
open Go.RowKit
section
variable {K:Law}{n:Nat}{Od:List Nat->Prop}{room:Nat}{w0 w w' w'':World}{mb:Nat}{fs fs':List (Int×BF)}{nx nx':Int}{o o':Own}{m m':ManD}{V V':Nat->BF}
theorem Zuh {w1:World}{op v:Int}{nk:Nat}{kid:Nat->ExT}{a:Option Addr}{c:Nat}{E:ExT}{Q:Ending->World->Prop}{M:Nat}(hctx:BCtx K n Od room w0 mb fs nx M w w1 o m V op v nk kid a c E Q)(h1:op=10)(hnk:nk=3)(hF:fnT E=Zcf (fnT (kid 0)) (fnT (kid 1)) (fnT (kid 2))) :
 Calls prog 44 #[.pointer (some ⟨mb,0,none⟩),.agg #[.int .i64 op,.int .i64 v,.slice a nk c]] w Q:=by
 obtain⟨HKK,H5,HKS,HSZ,HPOS,IH,HW1,HG1,HSAT1,HWT,HB2,HQ,HMR,HCK,HCI,HEP,HME,hn64,hnx,hE1,hs1,d0,d1,d2,on,hw0,hp2,h2,h3⟩:=hctx;have g1:(op == 1)=false:=by simp;omega
 have g2:(op == 2)=false:=by simp;omega
 have g3:(op == 3)=false:=by simp;omega
 have g5:(op == 5)=false:=by simp;omega
 have g6:(op == 6)=false:=by simp;omega
 have g7:(op == 7)=false:=by simp;omega
 have g4:(op == 4)=false:=by simp;omega
 have g10:(op == 10)=true:=by simp;omega
 have gC:=Hd hnk;clear h1 hnk;obtain⟨w2,gf⟩:∃ w2,w2=w1.alloc (.cells #[] 3):=⟨_,rfl⟩;have gB:Hid (_=w2):=Hd gf.symm;have gd:Below w1.heap.size w1 w2:=by rw[gf];exact Zad _ _
 have gp:Hid (BuiS K n Od room w0 mb (fs++[]) nx (M+Ze1 n kid 0) o w1 (.slice (some ⟨w.heap.size+1,0,none⟩) 0 0) (([]:List (Int×BF)).map Prod.fst) w2):=Hd ⟨o,m,V,by rw[List.append_nil];exact HSAT1.out.below gd,HWT.out,Zb3 gd o,by rw[gf,<- hs1];exact Zf0 _ _ _ (Nat.le_refl _),fun k hk=>by cases hk;rw[<- hs1];exact HSAT1.out.lt.none (Nat.le_refl _)⟩;have gq:=Hd gd;clear gf gd
 go_enter func44,ntmps44
 go_upto_region 1 with fail;rw[HW1.out];go_upto_region 23 with fail;rw[gB.out];have e2:=(gq.out.cell (p:=⟨w.heap.size,2,none⟩) (Zaa d2)).trans d2;go_wp2_with fail
 go_loopw [15,106] (fun s15 s106 wr=>∃ (i:Nat) (hs:List (Int×BF)) (nxi:Int),i<=nk/\s106=.int .i64 i/\hs.length=i/\nxi+2*i<=nx+3*((sumN i fun i=>(kid i).size:Nat):Int)/\Hid (∀ j (hj:j<hs.length),hs[j].2=fnT (kid j))/\Hid (BuiS K n Od room w0 mb (fs++hs) nxi (M+Ze1 n kid i) o w1 s15 (hs.map Prod.fst) wr)) (fun _ s106 _=>nk-(intOf s106).toNat)
 case atStart=>exact⟨0,[],nx,Nat.zero_le _,rfl,rfl,by show nx+2*((0:Nat):Int)<=nx+3*((0:Nat):Int);omega,Hd (fun j hj=>by simp at hj),gp⟩
 case round =>
  clear gp gq e2
  rename World=>wy
  obtain⟨i,hs,nxi,hi,rfl,gy,gH,gk,ga⟩:=hrel
  by_cases gi:i<nk
  .
   obtain⟨b,off,x0,x1,x2,rfl,c0,c1,c2,hx⟩:=H5.out i gi;have gj:=ga.out.goes.below0;have q0:=(gj.cell (p:=⟨b,off+i*3,none⟩) (Zaa c0)).trans c0;have q1:=(gj.cell (p:=⟨b,off+i*3+1,none⟩) (Zaa c1)).trans c1;have q2:=(gj.cell (p:=⟨b,off+i*3+2,none⟩) (Zaa c2)).trans c2;obtain⟨zo,zv,za,zn,zc,rfl,rfl,rfl⟩:=hx.parts;have gx:(i:Int)<nk:=by omega
   have gJ:=HKS.out i gi;obtain⟨wz,ge⟩:∃ wz,wz=wy.alloc (.cells #[.int .i64 zo,.int .i64 zv,.slice za zn zc] 81):=⟨_,rfl⟩;have gA:Hid (_=wz):=Hd ge.symm;have gs:Below wy.heap.size wy wz:=by rw[ge];exact Zad _ _
   have gc:wz.heap[wy.heap.size]?=some (.cells #[.int .i64 zo,.int .i64 zv,.slice za zn zc] 81 (0,0)):=by rw[ge];exact heap_alloc_new _ _
   have p0:wz.cell? ⟨wy.heap.size,0,none⟩=some (.int .i64 zo):=by rw[cell_of_row _ _ 0 _ _ _ gc];rfl
   have p1:wz.cell? ⟨wy.heap.size,1,none⟩=some (.int .i64 zv):=by rw[cell_of_row _ _ 1 _ _ _ gc];rfl
   have p2:wz.cell? ⟨wy.heap.size,2,none⟩=some (.slice za zn zc):=by rw[cell_of_row _ _ 2 _ _ _ gc];rfl
   obtain⟨o1,m1,V1,bt⟩:=ga.out.below gs;have gG:=HPOS.out i;have gl:=Hd (IH.out i _ (fs++hs) nxi wz o1 m1 V1 _ gi bt.sat bt.waits (HB2.out.app _) hx (by omega) (by have:=HMR.out i gi;have:=HCK.out i;omega));have gb:=Hd bt;clear gj c0 c1 c2 hx bt ge gs gc ga;go_upto_region 26 with fail;rw[gA.out];clear q0 q1 q2;go_wp2_with fail;refine gl.out.mono ?_;rintro y w3 ⟨k2,rfl,gK,gg⟩;have gn:=Hd (gb.out.go (M':=M+Ze1 n kid (i+1)) (gg.more (Nat.le_of_eq (Nat.add_assoc _ _ _))));have gE:Hid (∀ j (hj:j<(hs++[(k2,fnT (kid i))]).length),(hs++[(k2,fnT (kid i))])[j].2=fnT (kid j)):=Hd fun j hj=>by
    rcases Nat.lt_or_ge j hs.length with h|h
    . rw[List.getElem_append_left h];exact gk.out j h
    .
     have gw:j=i:=by simp at hj;omega
     subst gw;rw[List.getElem_append_right (by omega)];simp
   clear gg gl gb p0 p1 p2;obtain⟨o3,m3,V3,bt3⟩:=gn.out;have gu:w1.heap.size<=w3.heap.size:=bt3.chg.size;have g0:=Hd bt3;clear bt3;go_upto_region 30 with (at_builtin;refine Zb6 Zhp _ rfl _ _ rfl w1.heap.size _ (Za1 (hs.map Prod.fst)) _ rfl rfl rfl rfl rfl (by exact g0.out.l.own) (by simp[Za1];omega) gu ?_;intro v5 w5 gh r1 r2 r3 r4 gr)
   have gv:Hid (BuiS K n Od room w0 mb (fs++(hs++[(k2,fnT (kid i))])) (k2+1) (M+Ze1 n kid (i+1)) o w1 v5 ((hs++[(k2,fnT (kid i))]).map Prod.fst) w5):=Hd (by
    have:=BuiS.app g0.out gh r1 r2 r3 r4 gr hw0;rw[List.append_assoc] at this;rw[List.map_append];exact this)
   clear gh r1 r2 r3 r4 gr g0 gn;go_wp2_with fail;go_roundw
   case rel=>exact⟨i+1,hs++[(k2,fnT (kid i))],k2+1,by omega,by go_num,by simp;omega,by
    show k2+1+2*((i+1:Nat):Int)<=nx+3*(((sumN i fun i=>(kid i).size)+(kid i).size:Nat):Int)
    omega,gE,gv⟩
   case measure=>simp[intOf];omega
  .
   obtain rfl:i=nk:=by omega
   have gx:¬ (i:Int)<i:=by omega
   have f0:=ga.out.goes.cell (p:=⟨w.heap.size,0,none⟩) d0 on;have gt:=HSZ.out;have gF:nxi+2*i+3<=nx+3*E.size:=by omega
   have hnk:=gC.out;have gI:1<=i:=by omega
   clear gt H5 IH HSZ HKS HPOS;obtain⟨o1,m1,V1,bt⟩:=ga.out;have gb:=Hd bt;clear bt;subst hnk;obtain⟨⟨k0,F0⟩,⟨k1',F1⟩,⟨k2',F2⟩,rfl⟩:=Zvi gy;obtain⟨g,cp,rfl,g8⟩:=ga.out.cellsN (i:=3) rfl (by omega);have c0:wy.cell? ⟨g,0,none⟩=some (.int .i64 k0):=g8 0 (by omega);have c1:wy.cell? ⟨g,1,none⟩=some (.int .i64 k1'):=g8 1 (by omega);have c2:wy.cell? ⟨g,2,none⟩=some (.int .i64 k2'):=g8 2 (by omega);have HF:Hid (Zcf F0 F1 F2=fnT E):=Hd (by rw[hF,<- gk.out 0 (by simp),<- gk.out 1 (by simp),<- gk.out 2 (by simp)];rfl);have HI:Hid (∀ W,W=wy.drew->Calls prog 83 #[.pointer (some ⟨mb,0,none⟩),.int .i64 k0,.int .i64 k1',.int .i64 k2'] W fun x w''=>x=.returned (.tuple #[.int .i64 nxi,.int .i64 0])/\Goes K n Od room w0 mb (fs++[(k0,F0),(k1',F1),(k2',F2)]++[(nxi,Zcf F0 F1 F2)]) (nxi+1) (NoW (M+Ze1 n kid 3+(2^n-1))) o1 wy w'') :=
    Hd fun W hW=>by subst hW;exact Zvd HKK.out (gb.out.refl.below (Zaf wy 1)) (by omega) (by have:=HEP.out;have:=HCK.out 3;have:=HME.out;omega) (by simp) (by simp) (by simp)
   clear g8;go_upto_region 36 with fail;refine Zap (fun W:World=>W.cell? ⟨g,0,none⟩=some (.int .i64 k0)/\W.cell? ⟨g,1,none⟩=some (.int .i64 k1')/\W.cell? ⟨g,2,none⟩=some (.int .i64 k2')) false 16
    [(0,false),(1,false),(2,false),(3,false),(4,false),(5,false),(6,false),(7,false),(8,false),(9,false),(10,true),(11,false),(12,false),(13,false),(14,false),(15,false)] (by kernel_rfl) (by kernel_rfl) ⟨c0,c1,c2⟩ ?_
   simp only[planned,Zc8]
   iterate 10
    refine Zaq rfl ?_;apply Exists.intro;refine⟨fun w' hw=>?_,?_⟩
    . obtain⟨h1,h2,h3⟩:=hw;go_simp;rfl
    simp only[Zah]
   refine Zb5 (R:=fun v w'=>v=.tuple #[.int .i64 nxi,.int .i64 0]/\Goes K n Od room w0 mb (fs++[(k0,F0),(k1',F1),(k2',F2)]++[(nxi,Zcf F0 F1 F2)]) (nxi+1) (NoW (M+Ze1 n kid 3+(2^n-1))) o1 wy w') rfl (by go_simp) ((HI.out _ rfl).mono (fun e w' he=>?_)) ?_
   . obtain⟨rfl,q2⟩:=he;have hb:=gb.out.go q2;obtain⟨g',cp',ev,g9⟩:=hb.cellsN (i:=3) rfl (by omega);cases ev;exact⟨_,rfl,⟨g9 0 (by omega),g9 1 (by omega),g9 2 (by omega)⟩,rfl,q2⟩
   rintro v w3 ⟨d0',d1',d2'⟩ ⟨rfl,q2⟩;obtain⟨o3,m3,V3,bt3⟩:=gb.out.go q2;have g0:=Hd bt3;clear q2 HI bt3 c0 c1 c2 ga;simp only[Zah]
   iterate 5
    refine Zaq rfl ?_;apply Exists.intro;refine⟨fun w' hw=>?_,?_⟩
    . obtain⟨h1,h2,h3⟩:=hw;go_simp;rfl
    simp only[Zah]
   refine Zeg ?_;have HD:Hid (∀ W T,Below w3.heap.size w3 W->T=W.alloc (.cells #[.int .i64 k0,.int .i64 k1',.int .i64 k2'] 3)->Calls prog 87 #[.pointer (some ⟨mb,0,none⟩),.slice (some ⟨W.heap.size,0,none⟩) 3 3] T fun x w''=>x=.returned (.int .i64 0)/\Goes K n Od room w0 mb (fs++[(nxi,Zcf F0 F1 F2)]) (nxi+1) (NoW (M+Ze1 n kid 3+(2^n-1))) o3 w3 w'') :=
    Hd fun W T hW hT=>Zmt HKK.out (hs:=[(k0,F0),(k1',F1),(k2',F2)]) (r:=[(nxi,Zcf F0 F1 F2)]) (by have:=g0.out.refl;rw[List.append_assoc] at this;exact this.below hW) HB2.out (by omega) (by simp) hT
   go_upto_region 37 with fail;refine Zap (fun W:World=>W.cell? ⟨g,0,none⟩=some (.int .i64 k0)/\W.cell? ⟨g,1,none⟩=some (.int .i64 k1')/\W.cell? ⟨g,2,none⟩=some (.int .i64 k2')) false 20
    [(0,false),(1,false),(2,false),(3,false),(4,false),(5,false),(6,false),(7,false),(8,false),(9,false),(10,false),(11,false),(12,false),(13,false),(14,true),(15,true),(16,false),(17,false),(18,false),(19,false)] (by kernel_rfl) (by kernel_rfl) ⟨d0',d1',d2'⟩ ?_
   simp only[planned,Zc8]
   iterate 4
    refine Zaq rfl ?_;apply Exists.intro;refine⟨fun w' hw=>?_,?_⟩
    . obtain⟨h1,h2,h3⟩:=hw;go_simp;rfl
    simp only[Zah]
   iterate 10
    refine Zit true (by go_simp) ?_;apply Exists.intro;refine⟨fun gz w' hw=>?_,?_⟩
    . obtain⟨h1,h2,h3⟩:=hw;go_simp;rfl
    simp only[Zah]
   have gm:=Zad w3.drew (.cells #[.int .i64 k0,.int .i64 k1',.int .i64 k2'] 3);refine Zs9 (v:=.slice (some ⟨w3.heap.size,0,none⟩) 3 3) (w':=w3.drew.alloc (.cells #[.int .i64 k0,.int .i64 k1',.int .i64 k2'] 3)) (by go_simp) (by go_simp) ⟨(gm.cell (p:=⟨g,0,none⟩) (Zaa (w:=w3.drew) d0')).trans d0',(gm.cell (p:=⟨g,1,none⟩) (Zaa (w:=w3.drew) d1')).trans d1',(gm.cell (p:=⟨g,2,none⟩) (Zaa (w:=w3.drew) d2')).trans d2'⟩ ?_;simp only[Zah];refine Zs8 (R:=fun v w'=>v=.int .i64 0/\Goes K n Od room w0 mb (fs++[(nxi,Zcf F0 F1 F2)]) (nxi+1) (NoW (M+Ze1 n kid 3+(2^n-1))) o3 w3 w') (by go_simp) (by go_simp) ((HD.out w3.drew _ (Zaf w3 1) rfl).mono (fun e w' he=>?_)) ?_
   . obtain⟨rfl,q2⟩:=he;have hb:=g0.out.go q2;obtain⟨g',cp',ev,g9⟩:=hb.cellsN (i:=3) rfl (by omega);cases ev;exact⟨_,rfl,⟨g9 0 (by omega),g9 1 (by omega),g9 2 (by omega)⟩,rfl,q2⟩
   rintro v w4-⟨rfl,q2⟩;have gD:=Hd (HQ.out nxi _ w4 _ HF.out (by omega) (by have:=HEP.out;have:=HCK.out 3;omega) (g0.out.go q2).goes);clear q2 HD;simp only[Zah]
   iterate 1
    refine Zit true (by go_simp) ?_;apply Exists.intro;refine⟨fun gz w' hw=>?_,?_⟩
    . obtain⟨h1,h2,h3⟩:=hw;go_simp;rfl
    simp only[Zah]
   iterate 3
    refine Zaq rfl ?_;apply Exists.intro;refine⟨fun w' hw=>?_,?_⟩
    . obtain⟨h1,h2,h3⟩:=hw;go_simp;rfl
    simp only[Zah]
   refine Zeg ?_;go_wp2_with fail;exact gD.out
end
open Go.RowKit
section
variable {K:Law}{n:Nat}{Od:List Nat->Prop}{room:Nat}{w0:World}{mb:Nat}
theorem Zoa (hK:Zbh K):∀ (e:ExT) (x:Value) (fs:List (Int×BF)) (nx:Int) (w:World) (o:Own) (m:ManD) (V:Nat->BF) (M:Nat),SatE K n Od room w0 mb fs nx w o m V->m.waits=[]/\m.d.pool.many<=M->B2 fs->Zr9 e->(∀ v∈Zc1 e,v<(n:Int))->Zbe w0 e x->nx+3*e.size<549755813000->M+e.size*2^n<=room ->
 Calls prog 44 #[.pointer (some ⟨mb,0,none⟩),x] w fun y w'=>∃ k:Int,y=.returned (.tuple #[.int .i64 k,.bool true])/\k+3<=nx+3*e.size/\Goes K n Od room w0 mb (fs++[(k,fnT e)]) (k+1) (NoW (M+Zhm n e.size)) o w w'
 | .nil,x,fs,nx,w,o,m,V,M,_,_,_,hv,_,_,_,_=>hv.elim
 | .mk op v nk kid,x,fs,nx,w,o,m,V,M,hsat,hwt,hb2,hval,hvars,h,hnx,hroom=>by
   unfold Zbe at h;obtain⟨a,c,rfl,h2,h3,h4,h5⟩:=h;obtain⟨v1,v2,v3,v4,v5,v6⟩:=hval;obtain⟨k1,k2,k3⟩:=Zvf v1;have hblk:(w.alloc (.cells #[.int .i64 op,.int .i64 v,.slice a nk c] 81)).heap[w.heap.size]?=some (.cells #[.int .i64 op,.int .i64 v,.slice a nk c] 81 (0,0)):=heap_alloc_new _ _;have hb1:=Zad w (.cells #[.int .i64 op,.int .i64 v,.slice a nk c] 81);have hep:(ExT.mk op v nk kid).size*2^n=2^n+(sumN nk fun i=>(kid i).size)*2^n:=by
    show (1+sumN nk fun i=>(kid i).size)*2^n=_
    rw[Nat.add_mul,Nat.one_mul]
   have g0:BCtx K n Od room w0 mb fs nx M w (w.alloc (.cells #[.int .i64 op,.int .i64 v,.slice a nk c] 81)) o m V op v nk kid a c (ExT.mk op v nk kid) (fun y w'=>∃ k:Int,y=.returned (.tuple #[.int .i64 k,.bool true])/\k+3<=nx+3*(ExT.mk op v nk kid).size/\Goes K n Od room w0 mb (fs++[(k,fnT (ExT.mk op v nk kid))]) (k+1) (NoW (M+Zhm n (ExT.mk op v nk kid).size)) o w w'):=by
    refine⟨Hd hK,Hd h5,Hd fun i hi=>?_,Hd rfl,Hd (Zr4 fun i=>(kid i).size_pos),Hd fun i x fs' nx' W o' m' V' M' hi q1 q2 q3 q4 q5 q6=>Zoa hK (kid i) x fs' nx' W o' m' V' M' q1 q2 q3 (v6 i hi) (fun u hu=>hvars u (by unfold Zc1;exact List.mem_append_right _ (Zpd hi hu))) q4 q5 q6,Hd rfl,Hd (Goes.refl (hsat.below hb1) hwt),Hd (hsat.below hb1),Hd hwt,Hd hb2,Hd ?_,Hd fun i hi=>?_,Hd (Zof n kid),Hd fun i=>Zh2 n (kid i).size_pos,Hd ⟨hep,Zh2 n (ExT.size_pos _)⟩,Hd hroom,by omega,hnx,ExT.size_pos _,by simp,by rw[cell_of_row _ _ 0 _ _ _ hblk];rfl,by rw[cell_of_row _ _ 1 _ _ _ hblk];rfl,by rw[cell_of_row _ _ 2 _ _ _ hblk];rfl,hsat.lt.none (Nat.le_refl _),?_,Nat.pow_pos (by omega),h2,h3⟩
    .
     have:=Zf5 (f:=fun i=>(kid i).size) hi
     show _<=1+sumN nk fun i=>(kid i).size
     omega
    . rintro k F W M' rfl hk hm g;exact⟨k,rfl,hk,(g.more hm).after (Zb3 hb1 o)⟩
    . have h1:=Zf5 (f:=fun i=>(kid i).size) hi;have h2:=Nat.mul_le_mul_right (2^n) h1;rw[Nat.add_mul] at h2;omega
    . have:=hsat.chg.size;simp;omega
   rcases(show op=1\/op=2\/op=3\/(op=5\/op=6\/op=7)\/op=4\/(op=8\/op=9)\/op=10 by omega) with h1|h1|h1|h1|h1|h1|h1
   . exact Zsh g0 h1 (by subst h1;exact Zou (.inl rfl) v nk kid)
   . exact Zqd g0 h1 (by subst h1;exact Zou (.inr rfl) v nk kid)
   . have e1:=v2 h1;have e2:=hvars v (by unfold Zc1;rw[if_pos h1];simp);obtain⟨u,rfl⟩:∃ u:Nat,v=u:=⟨v.toNat,by omega⟩;exact Zuk g0 (u:=u) (by omega) h1 rfl (by subst h1;exact Yaj u nk kid)
   . exact Zug g0 h1 (Yag h1 v nk kid)
   .
    have e:nk=1:=by subst h1;simp[Zev] at v4 v5;omega
    exact Zui g0 h1 e (by subst h1;subst e;exact Yai v kid)
   .
    have e:nk=2:=by rcases h1 with rfl|rfl<;>(simp[Zev] at v4 v5;omega)
    exact Zuj g0 h1 e (by subst e;exact Zxh h1 v kid)
   .
    have e:nk=3:=by subst h1;simp[Zev] at v4 v5;omega
    exact Zuh g0 h1 e (by subst h1;subst e;exact Yah v kid)
end
end Go.Proofs.YtkbegdkpboklpaaGreat
