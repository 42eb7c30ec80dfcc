/- Several texts in one file: contracts of the program's functions and what follows from them. -/
import Derived.Test.YtlgogjbkadckkaaGreatM4
import Derived.Shelf.Slices.Reverse
import Derived.Ground.Names2Prog
import Derived.Shelf.Slices.Cells
import Derived.Shelf.Slices.Empties
set_option linter.unusedSimpArgs false
set_option linter.unusedVariables false
set_option linter.unusedSectionVars false
set_option linter.unnecessarySimpa false
set_option maxRecDepth 100000
set_option maxHeartbeats 8000000
namespace Go.Proofs.YtlgogjbkadckkaaGreat
open Go.RowKit
theorem Zze {d:Zac} {ids:List Nat} (hn:ids.Nodup) (ht:∀ i∈ids,d.pool.tk i=true) (hlt:∀ i,d.pool.tk i=true->i<d.pool.at_.length) (hc:(d.pool.many:Int)=Zar d.pool.at_.length (fun i=>if d.pool.tk i=true then 1 else 0)):ids.length<=d.pool.many:=by
 have key:∀ (l:List Nat),l.Nodup->(∀ i∈l,d.pool.tk i=true)->∀ kk,(∀ i∈l,i<kk)->(l.length:Int)<=Zar kk (fun i=>if d.pool.tk i=true then 1 else 0):=by
  intro l hl htl kk
  induction kk generalizing l with
  | zero =>
    intro h;cases l with
    | nil=>simp[Zar]
    | cons a l=>have:=h a (by simp);omega
  | succ kk ih =>
    intro h
    show (l.length:Int)<=Zar kk (fun i=>if d.pool.tk i=true then 1 else 0)+(if d.pool.tk kk=true then 1 else 0)
    by_cases hm:kk∈l
    ·
     have h1:=ih (l.erase kk) (hl.erase kk) (fun i hi=>htl i (List.mem_of_mem_erase hi)) (fun i hi=>by
      have h2:=h i (List.mem_of_mem_erase hi);have h3:i≠kk:=fun e=>by subst e;exact(List.Nodup.not_mem_erase hl) hi
      omega)
     rw[List.length_erase_of_mem hm] at h1;have hpos:0<l.length:=List.length_pos_of_mem hm;have:=htl kk hm;simp only[this,if_true];omega
    ·
     have h1:=ih l hl htl (fun i hi=>by
      have h2:=h i hi;have h3:i≠kk:=fun e=>by subst e;exact hm hi
      omega)
     have:(0:Int)<=if d.pool.tk kk=true then 1 else 0:=by split<;>omega
     omega
 have:=key ids hn ht d.pool.at_.length (fun i hi=>hlt i (ht i hi));omega
theorem Zxq (ts:List TN):(ts.flatMap Zb4).length=2*ts.length:=by
 induction ts with
 | nil=>rfl
 | cons a l ih=>simp[List.flatMap_cons,Zb4,ih];omega
structure CutI (d0:Zac) (k x:Nat) (ids:List Nat) (sb:Nat) (s:Za0) (o1:Own) (w1:World) (base:Nat) (v:Value) (ts:List TN) (j:Nat) (W:World) (o:Own) (d:Zac):Prop where
 st:Zal o W sb d s
 lt:Zai o W
 cut:CutS d0 k x (fun i=>i∈ids.take j) d
 row:TRow W base v ts
 no:0<ts.length->∀ g,v.ownBlock=some g->o g=none
 chg:Chg Zam o1 o w1 W
theorem CutI.move {d0:Zac} {k x:Nat} {ids:List Nat} {sb:Nat} {s:Za0} {o1:Own} {w1:World} {base:Nat} {v:Value} {ts:List TN} {j:Nat} {W W':World} {o o':Own} {d d':Zac} {R:Role->Prop} (h:CutI d0 k x ids sb s o1 w1 base v ts j W o d) (st:Zal o' W' sb d' s) (hc:Chg R o o' W W') (hR:∀ r,R r->Zam r) (lt:Zai o' W') {j':Nat} (cut:CutS d0 k x (fun i=>i∈ids.take j') d') :
 CutI d0 k x ids sb s o1 w1 base v ts j' W' o' d' :=
 ⟨st,lt,cut,h.row.chg hc h.no,fun hp g hg=>hc.alien' (h.row.blk hp g hg).2 (h.no hp g hg),h.chg.trans (hc.mono hR)⟩
theorem CutS.congr {d0 d:Zac} {k x:Nat} {g g':Nat->Prop} (h:CutS d0 k x g d) (e:∀ i,g i↔g' i):CutS d0 k x g' d:=by
 have e':g=g':=funext fun i=>propext (e i)
 rw[<- e'];exact h
theorem Zob {o:Own} {w:World} {sb:Nat} {d:Zac} {V:Nat->BF} (st:Zaq o w sb d) (hlt:Zai o w) (hk:Zaj d V) (k:Nat) (hk1:k+1<d.vars.length) (htop:∀ i,Zat d i<=549755813888) :
 Calls Tryz.prog 127 #[.pointer (some ⟨sb,0,none⟩),.int .i64 k] w fun q w'=>∃ o' d0,Za2 d d0/\Zai o' w'/\Chg Zam o o' w w' /\
  ((q=.returned (.int .i64 7)/\Zaq o' w' sb d0/\d0.pool.room<3*d0.pool.many)\/(q=.returned (.int .i64 0)/\∃ d' V',Zaq o' w' sb d'/\Zj2 d0 V k d' V')):=by
 obtain⟨P,hP⟩:∃ P:Ending->World->Prop,P=fun q w'=>∃ o' d0,Za2 d d0/\Zai o' w'/\Chg Zam o o' w w' /\
  ((q=.returned (.int .i64 7)/\Zaq o' w' sb d0/\d0.pool.room<3*d0.pool.many)\/(q=.returned (.int .i64 0)/\∃ d' V',Zaq o' w' sb d'/\Zj2 d0 V k d' V')):=⟨_,rfl⟩
 rw[<- hP];have HPP:=Hd hP;clear hP;obtain⟨s0,h0⟩:=id st;obtain⟨c0,c1,c2,c3,c4,f0⟩:=cells5 h0.blk;obtain⟨l0,l1,_⟩:=cells2 h0.lev;obtain⟨gv,cv,hvv,hogv,_⟩:=h0.vars.shape (by omega);rw[hvv] at l0;have hsm:=hk.small;have HCOL:=Hd (Zha st hlt hk);have HK:=Hd hk;have hz1:¬ ((k:Int)>=(d.vars.length:Int)-1):=by omega
 have HTOP:=Hd htop;clear h0 hvv st hlt hk hogv htop c1 c2 c3 c4 f0 l1
 go_enter Tryz.func127,Tryz.ntmps127
 go_wp2_with fail;refine HCOL.out.mono ?_;rintro q w1 ⟨rfl,o1,d0,⟨s,h1⟩,hl1,hr1,hc1⟩;have hok1:=hr1.ok HK.out;obtain⟨x,hx⟩:∃ x,x=d0.vars.getD k 0:=⟨_,rfl⟩;obtain⟨y,hy⟩:∃ y,y=d0.vars.getD (k+1) 0:=⟨_,rfl⟩;have hv1:d0.vars.length=d.vars.length:=by rw[hr1.vars]
 have FR:SwF d0 V k x y:=⟨⟨by omega,hx.symm,hy.symm⟩,hok1,h1.len,fun i=>by
  cases hi:Zaa d0 i with
  | none=>rw[Zd5 hi];omega
  | some b=>rw[hr1.ext i b hi];exact HTOP.out i⟩
 have hxl:=FR.facts.1;have hyl:=FR.facts.2.1;obtain⟨c0,c1,c2,c3,c4,f0⟩:=cells5 h1.blk;obtain⟨l0,l1,_⟩:=cells2 h1.lev;obtain⟨gv,cv,hvv,hogv,_⟩:=h1.vars.shape (by omega);have r1:=h1.vars;rw[hvv] at r1 l0;have a0:=r1.cell k (by simp;omega);have a1:=r1.cell (k+1) (by simp;omega);rw[Ze4 (by omega),<- hx] at a0;rw[Ze4 (by omega),<- hy] at a1;have hk0:(k:Int)<d0.vars.length:=by omega
 have hk2:(k:Int)+1<d0.vars.length:=by omega
 have HTURN:=Hd (Yaf ⟨s,h1.below hl1 (Zah w1 1)⟩ (hl1.mono (Zah w1 1).size) hok1 x y hxl);have HFR:=Hd FR;have H1:=Hd h1;have HL1:=Hd hl1;have HR1:=Hd hr1;have HC1:=Hd hc1;have hsm0:d0.vars.length<=64:=by omega
 have HV1:=Hd hv1;have hwr:IntKind.i64.wrap ((k:Int)+1)=((k+1:Nat):Int):=by rw[IntWalk.i64_in _ (by omega)];rfl
 clear h1 hl1 hr1 hc1 hok1 hvv hogv r1 hx hy FR HCOL hv1 hz1;go_upto_region 6 with fail;refine Zan (fun W:World=>W.cell? ⟨sb,0,none⟩=some (.pointer (some ⟨s.lb,0,none⟩))/\W.cell? ⟨s.lb,0,none⟩=some (.slice (some ⟨gv,0,none⟩) d0.vars.length cv)/\W.cell? ⟨gv,k,none⟩=some (.int .i64 (x:Nat))/\W.cell? ⟨gv,k+1,none⟩=some (.int .i64 (y:Nat))) false 23 [(0,false),(1,false),(2,false),(3,false),(4,false),(5,false),(6,false),(7,false),(8,false),(9,false),(10,false),(11,false),(12,false),(13,false),(14,false),(15,false),(16,false),(17,false),(18,false),(19,false),(20,false),(21,false),(22,false)] (by kernel_rfl) (by kernel_rfl) ⟨c0,l0,a0,a1⟩ ?_;simp only[planned,Zd8]
 iterate 23
  refine Zap rfl ?_;apply Exists.intro;refine⟨fun w' hw=>?_,?_⟩
  ·
   obtain⟨h1,h2,h3,h4⟩:=hw;go_simp;rfl
  simp only[Zag]
 refine Zij ?_;go_wp2_with fail;refine HTURN.out.mono ?_;rintro q w2 ⟨v,ids,rfl,hnd,hids,hrow,hb2⟩;obtain⟨ts,hts⟩:∃ ts,ts=ids.map (tnOf d0 y):=⟨_,rfl⟩;rw[<- hts] at hrow;have hb2':Below w1.heap.size w1 w2:=⟨hb2.os,hb2.tape,hb2.output,hb2.size,fun q hq=>hb2.block q hq⟩;have h2:=H1.out.below HL1.out hb2';have hl2:=HL1.out.mono hb2'.size;have HTI:Hid (∀ i∈ids,∃ b,Ybg d0 V x y i b):=Hd fun i hi=>Zyp HFR.out H1.out ((hids i).1 hi)
 have hbnd:∀ t∈ts,t.ll<eMax/\t.lh<eMax/\t.hl<eMax/\t.hh<eMax:=by
  intro t ht;rw[hts] at ht;obtain⟨i,hi,rfl⟩:=List.mem_map.1 ht;obtain⟨b,tb⟩:=HTI.out i hi;have q1:=H1.out.edge_lt tb.val.f1.1;have q2:=H1.out.edge_lt tb.val.f2.1;have q3:=H1.out.edge_lt tb.val.f3.1;have q4:=H1.out.edge_lt tb.val.f4.1;unfold eMax;omega
 have HWANT:=Hd (Zyt h2 hl2 x hxl hrow hbnd);have HRO:=Hd fun W (hb:Below w2.heap.size w2 W)=>Zoa ⟨s,h2.below hl2 hb⟩
 have HLE:=Hd fun W (hb:Below w2.heap.size w2 W)=>Zqh ⟨s,h2.below hl2 hb⟩
 have hpm:=H1.out.pool.many;have hpt:=H1.out.pool.top;have hpr:=H1.out.pool.room
 have HIM:Hid (ids.length<=d0.pool.many):=Hd (Zze hnd (fun i hi=>by
  obtain⟨b,tb⟩:=HTI.out i hi;exact(Zav tb.node).1) (fun i hi=>(H1.out.pool.tk_lt hi).2) H1.out.pool.cnt)
 have HH2:=Hd h2;have HL2:=Hd hl2;have HB2:=Hd hb2';have HROW:=Hd hrow;have HIDS:=Hd hids;have HND:=Hd hnd;have HTS:=Hd hts;have hb0:w1.heap.size<=w2.heap.size:=hb2'.size;clear hb2 hb2' h2 hl2 hrow hids hnd hbnd c0 c1 c2 c3 c4 f0 l0 l1 a0 a1 hk0 hk2 hwr hts;go_wp2_with fail;refine HWANT.out.mono ?_;rintro q w3 ⟨Wt,rfl,hwp,hb3⟩;have HWP:=Hd hwp;have HB3:=Hd hb3;have hwl:Wt.length<=2*ts.length:=by have:=hwp.len;rw[Zxq] at this;exact this
 have htl:ts.length=ids.length:=by rw[HTS.out,List.length_map]
 have him:=HIM.out;have HRO3:=Hd (HRO.out w3 hb3);have HLE3:=Hd (HLE.out w3 hb3);clear hwp hb3 HWANT;go_wp2_with fail;refine HRO3.out.mono ?_;rintro q w' ⟨rfl,rfl⟩;go_wp2_with fail;refine HLE3.out.mono ?_;rintro q w' ⟨rfl,rfl⟩
 by_cases hfit:(Wt.length:Int)>(d0.pool.room:Int)-(d0.pool.many:Int)
 ·
  have HF:Hid (P (.returned (.int .i64 7)) w3):=by
   rw[HPP.out];exact Hd ⟨o1,d0,HR1.out,HL2.out.mono HB3.out.size,HC1.out.trans ((Chg.of_below HB2.out _ _).trans (Chg.of_below HB3.out _ _)),.inl ⟨rfl,⟨s,HH2.out.below HL2.out HB3.out⟩,by omega⟩⟩
  clear htl;go_wp2_with fail;exact HF.out
 have HFIT:Hid (d0.pool.many+Wt.length<=d0.pool.room):=Hd (by omega);have h3:=HH2.out.below HL2.out HB3.out;have hl3:=HL2.out.mono HB3.out.size;obtain⟨c0,c1,c2,c3,c4,f0⟩:=cells5 h3.blk;have HSWAP:=Hd (Zlh h3 k (by have:=HFR.out.v.k1;exact this) HFR.out.ok.small (by rw[h3.len];rw[HFR.out.v.x];exact hxl) (by rw[h3.len];rw[HFR.out.v.y];exact hyl));have HH3:=Hd h3;have HL3:=Hd hl3;clear h3 hl3;go_wp2_with fail;refine HSWAP.out.mono ?_;rintro q w4 ⟨rfl,h4,hc4⟩;have hrow3:=(HROW.out.below HB3.out);have hno3:0<ts.length->∀ g,v.ownBlock=some g->o1 g=none:=fun hp g hg=>HL1.out.none (HROW.out.blk hp g hg).1
 have HI0:Hid (CutI d0 k x ids sb s o1 w1 w1.heap.size v ts 0 w4 o1 (Zex d0 k)):=Hd ⟨h4,HL3.out.mono hc4.size,(CutS.start d0 k x).congr (fun i=>by simp),hrow3.chg hc4 hno3,hno3,(Chg.of_below HB2.out _ _).trans ((Chg.of_below HB3.out _ _).trans hc4)⟩;obtain⟨av,cvv,hvs,_⟩:=HROW.out.ex;rw[htl] at hvs;have HIB:Hid (ids.length<=1048578):=Hd (by have:=HROW.out.small;omega);clear hrow3 hno3 h4 hc4 HSWAP c0 c1 c2 c3 c4 f0 him hwl;subst hvs;go_wp2_with fail
 go_loopw [77] (fun s77 wr=>∃ j:Nat,j<=ids.length/\s77=.int .i64 j/\Hid (∃ o d,CutI d0 k x ids sb s o1 w1 w1.heap.size (.slice av ids.length cvv) ts j wr o d)) (fun s77 _=>ids.length-(intOf s77).toNat)
 case atStart=>exact⟨0,Nat.zero_le _,rfl,Hd ⟨o1,_,HI0.out⟩⟩
 case round =>
  obtain⟨j,hj,rfl,HCI⟩:=hrel
  by_cases hlt:j<ids.length
  ·
   obtain⟨oj,dj,hci⟩:=HCI.out;obtain⟨a',c',ea,hcells⟩:=hci.row.ex;rw[htl] at ea;injection ea with ea1 ea2 ea3
   obtain⟨g,hg,_,hcell⟩:=hcells j (by omega);rw[hg] at ea1;subst ea1;obtain⟨i,hi⟩:∃ i,i=ids[j]:=⟨_,rfl⟩;have htj:ts[j]'(by omega)=tnOf d0 y i:=by rw[hi];simp[HTS.out]
   rw[htj] at hcell;obtain⟨b,tb⟩:=HTI.out i (by rw[hi];exact List.getElem_mem hlt);have htn:tnOf d0 y i=⟨d0.pool.nd i,(tnOf d0 y i).ll,(tnOf d0 y i).lh,(tnOf d0 y i).hl,(tnOf d0 y i).hh⟩:=rfl;obtain⟨N,hN⟩:∃ N,N=d0.pool.nd i:=⟨_,rfl⟩;obtain⟨ll,hll⟩:∃ q,q=(tnOf d0 y i).ll:=⟨_,rfl⟩;obtain⟨lh,hlh⟩:∃ q,q=(tnOf d0 y i).lh:=⟨_,rfl⟩;obtain⟨hl,hhl⟩:∃ q,q=(tnOf d0 y i).hl:=⟨_,rfl⟩;obtain⟨hh,hhh⟩:∃ q,q=(tnOf d0 y i).hh:=⟨_,rfl⟩;rw[htn,<- hN,<- hll,<- hlh,<- hhl,<- hhh] at hcell;have e0:wr.cell? ⟨g,j*9,none⟩=some _:=hcell 0 _ rfl;have e1:=hcell 1 _ rfl;have e2:=hcell 2 _ rfl;have e3:=hcell 3 _ rfl;have e4:=hcell 4 _ rfl;have e5:=hcell 5 _ rfl;have e6:=hcell 6 _ rfl;have e7:=hcell 7 _ rfl;have e8:=hcell 8 _ rfl;have hlo:N.lo=b.lo:=by rw[hN];exact tb.lo
   have hhi:N.hi=b.hi:=by rw[hN];exact tb.hi
   have HCIJ:=Hd hci;have HIJ:=Hd hi;have HTB:=Hd tb;have HLO:=Hd hlo;have HHI:=Hd hhi;have hjz:(j:Int)<ids.length:=by omega
   have hib:=HIB.out;have hjs:(j:Int)+1<=1048578:=by omega
   have hxl:=HFR.out.facts.1;have hti:d0.tab x (N.lo,N.hi)=some i:=by
    rw[hlo,hhi];refine(HFR.out.ok.tab x hxl _ _ _).2 ?_;rw[tb.node,<- tb.v]
   have hnt:¬ i∈ids.take j:=by
    intro hm;have hnn:=HND.out;rw[<- List.take_append_drop j ids,List.nodup_append] at hnn;refine hnn.2.2 i hm i ?_ rfl;rw[List.drop_eq_getElem_cons hlt,hi];exact List.mem_cons_self
   have hft:dj.tab x (N.lo,N.hi)=some i:=hci.cut.has hti hnt;have hvd:x<dj.vars.length:=by rw[hci.cut.vars,Zia];exact hxl
   have hTE:(fun u=>if u=x then putF (dj.tab u) (N.lo,N.hi) none else dj.tab u)=(fun u=>if u=x then putF (dj.tab x) (N.lo,N.hi) none else dj.tab u):=by funext u;by_cases e:u=x<;>simp[e]
   have HNXT:Hid (CutS d0 k x (fun q=>q∈ids.take (j+1)) { dj with tab:=fun u=>if u=x then putF (dj.tab x) (N.lo,N.hi) none else dj.tab u }):=Hd (by
    have q1:=(hci.cut.next HFR.out.ok hxl hti).congr (g':=fun q=>q∈ids.take (j+1)) (fun q=>by
     rw[List.take_succ_eq_append_getElem hlt,List.mem_append,List.mem_singleton,hi])
    rw[hTE] at q1;exact q1)
   obtain⟨wz,hwz⟩:∃ W,W=wr.alloc (.cells #[.int .i64 N.id,.int .i64 N.v,.int .i64 N.lo,.int .i64 N.hi,.int .i64 N.refs,.int .i64 ll,.int .i64 lh,.int .i64 hl,.int .i64 hh] 236):=⟨_,rfl⟩;have hbz:Below wr.heap.size wr wz:=by rw[hwz];exact Zaf wr _
   have hz:=heap_alloc_new wr (.cells #[.int .i64 N.id,.int .i64 N.v,.int .i64 N.lo,.int .i64 N.hi,.int .i64 N.refs,.int .i64 ll,.int .i64 lh,.int .i64 hl,.int .i64 hh] 236);rw[<- hwz] at hz;have z2:wz.cell? ⟨wr.heap.size,2,none⟩=some (.int .i64 N.lo):=by rw[cell_of_row wz _ 2 _ _ _ hz];rfl
   have z3:wz.cell? ⟨wr.heap.size,3,none⟩=some (.int .i64 N.hi):=by rw[cell_of_row wz _ 3 _ _ _ hz];rfl
   have hstz:=hci.st.below hci.lt hbz;have hltz:=hci.lt.mono hbz.size;obtain⟨gt,ct,hvt,cellx,hvl⟩:=hstz.tabAt hvd;obtain⟨c0,c1,c2,c3,c4,f0⟩:=cells5 hstz.blk;rw[hvt] at c2;have hxs:x<s.ts.length:=by rw[hstz.tlen];exact hvd
   have hxi:(x:Int)<s.ts.length:=by omega
   have HCUT:=Hd (Zv8 oj x (s.ts.getD x 0) (dj.tab x) N.lo N.hi i wz.drew ((hstz.below hltz (Zah wz 1)).tab x hxs) (hltz.mono (Zah wz 1).size) hft);have HCI1:Hid (CutI d0 k x ids sb s o1 w1 w1.heap.size (.slice (some ⟨g,0,none⟩) ids.length cvv) ts j wz.drew oj dj):=Hd (hci.move ((hstz.below hltz (Zah wz 1))) (Chg.of_below (hbz.trans ((Zah wz 1).mono hbz.size)) Zam oj) (fun _ h=>h) (hltz.mono (Zah wz 1).size) hci.cut);have HWZ:=Hd hwz;have HJL:=Hd hlt;clear hcells hcell htj htn hci tb hN hll hlh hhl hhh hi hlo hhi HCI hti hnt hft hvd hbz hz hstz hltz hvt hxs hwz c0 c1 c3 c4 f0;go_upto_region 14 with fail;rw[<- HWZ.out];refine Zan (fun W:World=>W=wz.drew) true 13 [(0,false),(1,false),(2,false),(3,false),(4,false),(5,false),(6,false),(7,false),(8,false),(9,false),(10,false),(11,false),(12,false),(13,true)] (by kernel_rfl) (by kernel_rfl) rfl ?_;simp only[planned,Zd8]
   iterate 13
    refine Zap rfl ?_;apply Exists.intro;refine⟨fun w' hw=>?_,?_⟩
    ·
     subst hw;go_simp;rfl
    simp only[Zag]
   refine Zc5 rfl (by go_simp) (HCUT.out.mono (R':=fun e w'=>∃ v,e=.returned v/\(v=.int .i64 0/\Zc0 oj w' x (s.ts.getD x 0) (putF (dj.tab x) (N.lo,N.hi) none)/\Chg (· = .tmap x) oj oj wz.drew w'/\Zai oj w')) (fun e w' h=>⟨_,h.1,rfl,h.2⟩)) ?_;rintro _ w5 ⟨rfl,ht5,hc5,hl5⟩;simp only[Zag];refine Zbx ?_;have HNX:=Hd (HCI1.out.move (HCI1.out.st.setTab HCI1.out.lt ht5 hc5) hc5 (fun r hr=>by simp[Zam,hr]) hl5 HNXT.out);clear ht5 hc5 hl5 c2 cellx hxi e0 e1 e2 e3 e4 e5 e6 e7 e8 z2 z3;go_wp2_with fail;go_roundw
   case rel=>exact⟨j+1,Nat.succ_le_of_lt HJL.out,by go_num,Hd ⟨_,_,HNX.out⟩⟩
   case measure =>
    have:=HJL.out;have:=HIB.out;simp[intOf];omega
  ·
   obtain rfl:j=ids.length:=by omega
   obtain⟨oe,de,hce⟩:=HCI.out;have HRI0:Hid (∃ o d V',RndI sb o1 w1 w1.heap.size (.slice av ids.length cvv) ts wr o d/\Zbj d0 V k x y Wt (Zat d0) (fun i=>i∈ids.take 0) d V'):=Hd ⟨oe,de,V,⟨⟨s,hce.st⟩,hce.lt,hce.row,hce.no,hce.chg⟩,(Zbj.start hce.cut HFR.out.ok HFR.out.facts.1 HR1.out.dead (fun i=>by rw[List.take_length];exact(HIDS.out i).symm) HWP.out).congr (fun i=>by simp)⟩;clear hce HCI;go_wp2_with fail
   go_loopw [98] (fun s98 wr=>∃ j:Nat,j<=ids.length/\s98=.int .i64 j/\Hid (∃ o d V',RndI sb o1 w1 w1.heap.size (.slice av ids.length cvv) ts wr o d/\Zbj d0 V k x y Wt (Zat d0) (fun i=>i∈ids.take j) d V')) (fun s98 _=>ids.length-(intOf s98).toNat)
   case atStart=>exact⟨0,Nat.zero_le _,rfl,HRI0⟩
   case round =>
    clear HRI0;obtain⟨j,hj,rfl,HRI⟩:=hrel
    by_cases hlt:j<ids.length
    ·
     obtain⟨oj,dj,Vj,hri,hmid⟩:=HRI.out;obtain⟨a',c',ea,hcells⟩:=hri.row.ex;rw[htl] at ea;injection ea with ea1 ea2 ea3
     clear ea2 ea3;obtain⟨g,hg,hgb,hcell⟩:=hcells j (by omega);rw[hg] at ea1;subst ea1;obtain⟨i,hi⟩:∃ i,i=ids[j]:=⟨_,rfl⟩;have htj:ts[j]'(by omega)=tnOf d0 y i:=by rw[hi];simp[HTS.out]
     rw[htj] at hcell;have himem:i∈ids:=by rw[hi];exact List.getElem_mem hlt
     obtain⟨b,tb⟩:=HTI.out i himem;have htn:tnOf d0 y i=⟨d0.pool.nd i,(tnOf d0 y i).ll,(tnOf d0 y i).lh,(tnOf d0 y i).hl,(tnOf d0 y i).hh⟩:=rfl
     have HPR:Hid (((tnOf d0 y i).ll,(tnOf d0 y i).hl)∈ts.flatMap Zb4/\((tnOf d0 y i).lh,(tnOf d0 y i).hh)∈ts.flatMap Zb4):=Hd (by
      have hm:tnOf d0 y i∈ts:=by rw[HTS.out];exact List.mem_map.2 ⟨i,himem,rfl⟩
      exact⟨List.mem_flatMap.2 ⟨_,hm,by simp[Zb4]⟩,List.mem_flatMap.2 ⟨_,hm,by simp[Zb4]⟩⟩)
     obtain⟨N,hN⟩:∃ N,N=d0.pool.nd i:=⟨_,rfl⟩;obtain⟨ll,hll⟩:∃ q,q=(tnOf d0 y i).ll:=⟨_,rfl⟩;obtain⟨lh,hlh⟩:∃ q,q=(tnOf d0 y i).lh:=⟨_,rfl⟩;obtain⟨hl,hhl⟩:∃ q,q=(tnOf d0 y i).hl:=⟨_,rfl⟩;obtain⟨hh,hhh⟩:∃ q,q=(tnOf d0 y i).hh:=⟨_,rfl⟩;rw[htn,<- hN,<- hll,<- hlh,<- hhl,<- hhh] at hcell;rw[<- hll,<- hlh,<- hhl,<- hhh] at HPR;have e0:wr.cell? ⟨g,j*9,none⟩=some _:=hcell 0 _ rfl;have e1:=hcell 1 _ rfl;have e2:=hcell 2 _ rfl;have e3:=hcell 3 _ rfl;have e4:=hcell 4 _ rfl;have e5:=hcell 5 _ rfl;have e6:=hcell 6 _ rfl;have e7:=hcell 7 _ rfl;have e8:=hcell 8 _ rfl;have hnt:¬ i∈ids.take j:=by
      intro hm;have hnn:=HND.out;rw[<- List.take_append_drop j ids,List.nodup_append] at hnn;refine hnn.2.2 i hm i ?_ rfl;rw[List.drop_eq_getElem_cons hlt,hi];exact List.mem_cons_self
     obtain⟨wz,hwz⟩:∃ W,W=wr.alloc (.cells #[.int .i64 N.id,.int .i64 N.v,.int .i64 N.lo,.int .i64 N.hi,.int .i64 N.refs,.int .i64 ll,.int .i64 lh,.int .i64 hl,.int .i64 hh] 236):=⟨_,rfl⟩;have hbz:Below wr.heap.size wr wz.drew:=by rw[hwz];exact Zd1 wr 1 _
     have hz:=heap_alloc_new wr (.cells #[.int .i64 N.id,.int .i64 N.v,.int .i64 N.lo,.int .i64 N.hi,.int .i64 N.refs,.int .i64 ll,.int .i64 lh,.int .i64 hl,.int .i64 hh] 236);rw[<- hwz] at hz;obtain⟨bz,hbzz⟩:∃ q,q=wr.heap.size:=⟨_,rfl⟩;rw[<- hbzz] at hz;have z5:wz.cell? ⟨bz,5,none⟩=some (.int .i64 ll):=by rw[cell_of_row wz _ 5 _ _ _ hz];rfl
     have z6:wz.cell? ⟨bz,6,none⟩=some (.int .i64 lh):=by rw[cell_of_row wz _ 6 _ _ _ hz];rfl
     have z7:wz.cell? ⟨bz,7,none⟩=some (.int .i64 hl):=by rw[cell_of_row wz _ 7 _ _ _ hz];rfl
     have z8:wz.cell? ⟨bz,8,none⟩=some (.int .i64 hh):=by rw[cell_of_row wz _ 8 _ _ _ hz];rfl
     have HBOX:Hid (Box oj wz.drew bz (.cells #[.int .i64 N.id,.int .i64 N.v,.int .i64 N.lo,.int .i64 N.hi,.int .i64 N.refs,.int .i64 ll,.int .i64 lh,.int .i64 hl,.int .i64 hh] 236 (0,0))):=Hd ⟨hz,hri.lt.none (by rw[hbzz];exact Nat.le_refl _)⟩;have HRZ:=Hd (hri.below hbz)
     have HGB:Hid (w1.heap.size<=bz/\g≠bz):=Hd (by
      have h1:=hri.chg.size;have h2:g<wr.heap.size:=Zab e0;exact⟨by omega,by omega⟩)
     have tv:=tb.val;rw[<- hll,<- hlh,<- hhl,<- hhh] at tv;have HB1:=Hd (Zor HRZ.out.st HRZ.out.lt hmid HFR.out.ok.dag (hmid.acy HFR.out) HFR.out.facts.1 hmid.vlen ll hl tv.f1 tv.f3 (fun h1 h2=>Ztk hmid HFR.out HWP.out HPR.out.1 tv.f1 tv.f3 h1 h2) HWP.out.nodup HFIT.out);have HB2:Hid (∀ W o d V',Zaq o W sb d->Zai o W->Zbj d0 V k x y Wt (Zat d0) (fun i=>i∈ids.take j) d V'->_):=Hd (fun W o d V' st lt m=>Zor st lt m HFR.out.ok.dag (m.acy HFR.out) HFR.out.facts.1 m.vlen lh hh tv.f2 tv.f4 (fun h1 h2=>Ztk m HFR.out HWP.out HPR.out.2 tv.f2 tv.f4 h1 h2) HWP.out.nodup HFIT.out)
     have HBOTH:Hid (∀ r1 r2 d1 d2 V1 V2,Zfp d0 V k x y Wt (fun i=>i∈ids.take j) dj Vj ll hl r1 d1 V1->Zfp d0 V k x y Wt (fun i=>i∈ids.take j) d1 V1 lh hh r2 d2 V2->Zu9 d0 V k x y Wt (fun i=>i∈ids.take j) i r1 r2 d2 V2):=Hd (by
      intro r1 r2 d1 d2 V1 V2 h1 h2;rw[hll,hhl] at h1;rw[hlh,hhh] at h2;exact Zu9.of HFR.out tb h1 h2)
     have HN:Hid (N.lo=b.lo/\N.hi=b.hi/\N.id=i/\(N.refs:Int)=Zat d0 i):=Hd (by rw[hN];exact⟨tb.lo,tb.hi,tb.id,(Zb9 (Zav tb.node).1).symm⟩);have HT:Hid (Turns (Zaa d0) x y i):=Hd ((HIDS.out i).1 himem);have HNT:=Hd hnt;have HTB:=Hd tb;have HTK:Hid (∀ q,(q∈ids.take j\/q=i)↔q∈ids.take (j+1)):=Hd (fun q=>by rw[List.take_succ_eq_append_getElem hlt,List.mem_append,List.mem_singleton,hi]);have hjz:(j:Int)<ids.length:=by omega
     have hib:=HIB.out;have hjs:(j:Int)+1<=1048578:=by omega
     have HWZ:=Hd hwz;have HBZ:=Hd hbzz;have HJL:=Hd hlt;clear hcells hcell htj htn hri hmid tb tv hN hll hlh hhl hhh hi HRI hnt hbz hz hwz hbzz himem hgb;go_upto_region 19 with fail;rw[<- HBZ.out,<- HWZ.out];clear e0 e1 e2 e3 e4 e5 e6 e7 e8;refine Zan (fun W:World=>W.cell? ⟨bz,5,none⟩=some (.int .i64 ll)/\W.cell? ⟨bz,6,none⟩=some (.int .i64 lh)/\W.cell? ⟨bz,7,none⟩=some (.int .i64 hl)/\W.cell? ⟨bz,8,none⟩=some (.int .i64 hh)) false 16 [(0,false),(1,false),(2,false),(3,false),(4,false),(5,false),(7,false),(8,false),(9,false),(10,false),(11,false),(12,false),(6,true),(13,true),(14,false),(15,false)] (by kernel_rfl) (by kernel_rfl) ⟨z5,z6,z7,z8⟩ ?_;simp only[planned,Zd8]
     iterate 12
      refine Zap rfl ?_;apply Exists.intro;refine⟨fun w' hw=>?_,?_⟩
      ·
       obtain⟨q5,q6,q7,q8⟩:=hw;go_simp;rfl
      simp only[Zag]
     refine Zch (R:=fun v w'=>∃ r:Nat,v=.int .i64 r/\∃ o' d' V',RndI sb o1 w1 w1.heap.size (.slice (some ⟨g,0,none⟩) ids.length cvv) ts w' o' d'/\Zfp d0 V k x y Wt (fun i=>i∈ids.take j) dj Vj ll hl r d' V'/\Box o' w' bz (.cells #[.int .i64 N.id,.int .i64 N.v,.int .i64 N.lo,.int .i64 N.hi,.int .i64 N.refs,.int .i64 ll,.int .i64 lh,.int .i64 hl,.int .i64 hh] 236 (0,0))) rfl (by go_simp) (HB1.out.mono (fun e w' he=>?_)) ?_
     ·
      obtain⟨r,rfl,o',d',V',st',lt',hbr,hvl',hc'⟩:=he;have hb':=HBOX.out.chg hc';exact⟨_,rfl,⟨hb'.cell 5,hb'.cell 6,hb'.cell 7,hb'.cell 8⟩,r,rfl,o',d',V',HRZ.out.move st' lt' hc' (fun _ h=>h),hbr,hb'⟩
     rintro v w5-⟨r1,rfl,o5,d5,V5,hr5,hbr5,hbx5⟩;simp only[Zag];refine Zch (R:=fun v w'=>∃ r:Nat,v=.int .i64 r/\∃ o' d' V',RndI sb o1 w1 w1.heap.size (.slice (some ⟨g,0,none⟩) ids.length cvv) ts w' o' d'/\Zu9 d0 V k x y Wt (fun i=>i∈ids.take j) i r1 r d' V'/\Box o' w' bz (.cells #[.int .i64 N.id,.int .i64 N.v,.int .i64 N.lo,.int .i64 N.hi,.int .i64 N.refs,.int .i64 ll,.int .i64 lh,.int .i64 hl,.int .i64 hh] 236 (0,0))) rfl (by go_simp) ((HB2.out w5 o5 d5 V5 hr5.st hr5.lt hbr5.mid).mono (fun e w' he=>?_)) ?_
     ·
      obtain⟨r,rfl,o',d',V',st',lt',hbr,hvl',hc'⟩:=he;have hb':=hbx5.chg hc';exact⟨_,rfl,⟨hb'.cell 5,hb'.cell 6,hb'.cell 7,hb'.cell 8⟩,r,rfl,o',d',V',hr5.move st' lt' hc' (fun _ h=>h),HBOTH.out _ _ _ _ _ _ hbr5 hbr,hb'⟩
     rintro v w6-⟨r2,rfl,o6,d6,V6,hr6,hbo,hbx6⟩;simp only[Zag]
     iterate 2
      refine Zap rfl ?_;apply Exists.intro;refine⟨fun w' hw=>?_,?_⟩
      ·
       obtain⟨q5,q6,q7,q8⟩:=hw;go_simp;rfl
      simp only[Zag]
     refine Zij ?_;have HR6:=Hd hr6;have HBO:=Hd hbo;have HBX6:=Hd hbx6;have HM1:=Hd (Zsp hr6.st hr6.lt HFR.out hbo.mid hbo.e1 (fun i=>by have:=HFR.out.top i;omega));clear hr6 hbo hbx6 hr5 hbr5 hbx5 z5 z6 z7 z8 HB1 HB2;go_wp2_with fail;refine HM1.out.mono ?_;rintro q w7 ⟨rfl,d7,st7,lt7,m7,n7,p7,c7⟩;have HR7:=Hd (HR6.out.move st7 lt7 c7 (fun _ h=>h));have HBX7:=Hd (HBX6.out.chg c7)
     have HM2:=Hd (Zsp st7 lt7 HFR.out m7 (n7 ▸ HBO.out.e2) (fun i=>by
      have:=HFR.out.top i;have h2:toE r1 i<=1:=by unfold toE;split<;>omega
      unfold addE;omega))
     have HN7:Hid (Zaa d7=Zaa d6/\d7.pool=d6.pool):=Hd ⟨n7,p7⟩;clear st7 lt7 m7 n7 p7 c7;go_wp2_with fail;refine HM2.out.mono ?_;rintro q w8 ⟨rfl,d8,st8,lt8,m8,n8,p8,c8⟩;have HR8:=Hd (HR7.out.move st8 lt8 c8 (fun _ h=>h));have HBX8:=Hd (HBX7.out.chg c8);have HM8:=Hd m8;have HN8:Hid (Zaa d8=Zaa d6/\d8.pool=d6.pool):=Hd ⟨n8.trans HN7.out.1,p8.trans HN7.out.2⟩;clear st8 lt8 m8 n8 p8 c8;have x0:w8.cell? ⟨bz,0,none⟩=some (.int .i64 N.id):=HBX8.out.cell 0;have x1:w8.cell? ⟨bz,1,none⟩=some (.int .i64 N.v):=HBX8.out.cell 1;have x2:w8.cell? ⟨bz,2,none⟩=some (.int .i64 N.lo):=HBX8.out.cell 2;have x3:w8.cell? ⟨bz,3,none⟩=some (.int .i64 N.hi):=HBX8.out.cell 3;have x4:w8.cell? ⟨bz,4,none⟩=some (.int .i64 N.refs):=HBX8.out.cell 4;have xf:∀ q,w8.frozen? ⟨bz,q,none⟩=false:=fun q=>by simp[World.frozen?,HBX8.out.blk]
     go_upto_region 23 with fail;obtain⟨wo,hwo⟩:∃ W,W=w8.alloc (.cells #[.int .i64 N.id,.int .i64 N.v,.int .i64 N.lo,.int .i64 N.hi,.int .i64 N.refs] 65):=⟨_,rfl⟩;have hbo:Below w8.heap.size w8 wo:=by rw[hwo];exact Zaf w8 _
     have hob:=heap_alloc_new w8 (.cells #[.int .i64 N.id,.int .i64 N.v,.int .i64 N.lo,.int .i64 N.hi,.int .i64 N.refs] 65);rw[<- hwo] at hob;obtain⟨bo,hboo⟩:∃ q,q=w8.heap.size:=⟨_,rfl⟩;rw[<- hboo] at hob;have hne:bz≠bo:=by
      have:=Zab x0;have h2:bz<w8.heap.size:=this;omega
     have HBXO:Hid (Box o6 wo bz (.cells #[.int .i64 N.id,.int .i64 N.v,.int .i64 N.lo,.int .i64 N.hi,.int .i64 N.refs,.int .i64 ll,.int .i64 lh,.int .i64 hl,.int .i64 hh] 236 (0,0))):=Hd (HBX8.out.chg (Chg.of_below hbo Zam o6));have HRO:=Hd (HR8.out.below hbo);have HBOO:Hid (Box o6 wo bo (.cells #[.int .i64 N.id,.int .i64 N.v,.int .i64 N.lo,.int .i64 N.hi,.int .i64 N.refs] 65 (0,0))):=Hd ⟨hob,HR8.out.lt.none (by rw[hboo];exact Nat.le_refl _)⟩;obtain⟨wa,hwa⟩:∃ W,W=(wo.setCell ⟨bz,1,none⟩ (.int .i64 y)).setCell ⟨bz,2,none⟩ (.int .i64 r1):=⟨_,rfl⟩;obtain⟨wb,hwb⟩:∃ W,W=wa.setCell ⟨bz,3,none⟩ (.int .i64 r2):=⟨_,rfl⟩;have HV:∀ q,0<ts.length->Value.ownBlock (.slice (some ⟨g,0,none⟩) ids.length cvv)=some q->q≠bz:=fun q _ hq=>by cases hq;exact HGB.out.2
     have HRB:Hid (RndI sb o1 w1 w1.heap.size (.slice (some ⟨g,0,none⟩) ids.length cvv) ts wb.drew o6 d8):=Hd (by
      rw[hwb,hwa];exact(((HRO.out.write HBXO.out.no HGB.out.1 HV 1 _).write HBXO.out.no HGB.out.1 HV 2 _).write HBXO.out.no HGB.out.1 HV 3 _).below (Zah _ 1))
     have hrefs:=HN.out.2.2.2
     have HBXB:Hid (Box o6 wb.drew bz (.cells #[.int .i64 i,.int .i64 y,.int .i64 r1,.int .i64 r2,.int .i64 N.refs,.int .i64 ll,.int .i64 lh,.int .i64 hl,.int .i64 hh] 236 (0,0))):=Hd (by
      rw[hwb,hwa];have h:=((HBXO.out.set 1 (.int .i64 y)).set 2 (.int .i64 r1)).set 3 (.int .i64 r2);rw[HN.out.2.2.1] at h;exact⟨h.blk,h.no⟩)
     have HBOB:Hid (Box o6 wb.drew bo (.cells #[.int .i64 i,.int .i64 N.v,.int .i64 b.lo,.int .i64 b.hi,.int .i64 N.refs] 65 (0,0))):=Hd (by
      rw[hwb,hwa];have h:=((HBOO.out.other (p:=⟨bz,1,none⟩) (u:=.int .i64 y) (Ne.symm hne)).other (p:=⟨bz,2,none⟩) (u:=.int .i64 r1) (Ne.symm hne)).other (p:=⟨bz,3,none⟩) (u:=.int .i64 r2) (Ne.symm hne);rw[HN.out.2.2.1,HN.out.1,HN.out.2.1] at h;exact⟨h.blk,h.no⟩)
     have y1:wo.cell? ⟨bz,1,none⟩=some (.int .i64 N.v):=HBXO.out.cell 1;have y2:wo.cell? ⟨bz,2,none⟩=some (.int .i64 N.lo):=HBXO.out.cell 2;have y3:wo.cell? ⟨bz,3,none⟩=some (.int .i64 N.hi):=HBXO.out.cell 3;have yf:∀ q,wo.frozen? ⟨bz,q,none⟩=false:=fun q=>by simp[World.frozen?,HBXO.out.blk]
     have HWO:=Hd hwo;have HBOE:=Hd hboo;have HWA:=Hd hwa;have HWB:=Hd hwb;have HNE:=Hd hne;clear hwo hbo hob hboo hne hwa hwb HV hrefs x0 x1 x2 x3 x4 xf;rw[<- HWO.out,<- HBOE.out];go_upto_region 24 with fail;rw[<- HWA.out,<- HWB.out];obtain⟨s9,h9⟩:=HRB.out.st;obtain⟨k0,k1,k2,k3,k4,kf⟩:=cells5 h9.blk;have hdi:d8.pool.tk i=true:=by
      have h1:Zaa d8 i=some b:=HM8.out.mid.keep i b HTB.out.node HNT.out;exact(Zav h1).1
     have HTD:=Hd (HM8.out.turned (n:=⟨i,y,r1,r2,N.refs⟩) HFR.out HT.out HNT.out HTB.out.node (HN8.out.1 ▸ HBO.out.e1) (HN8.out.1 ▸ HBO.out.e2) HBO.out.reg HBO.out.ne HBO.out.val rfl HN.out.2.2.2 (h9.pool.tk_lt hdi).2);have HSET:=Hd (Yah (n:=⟨i,y,r1,r2,N.refs⟩) HRB.out h9 hdi HBXB.out HBOB.out);unfold Zau at HSET;have n0:wb.cell? ⟨bz,0,none⟩=some (.int .i64 i):=HBXB.out.cell 0;have n1:wb.cell? ⟨bz,1,none⟩=some (.int .i64 y):=HBXB.out.cell 1;have n2:wb.cell? ⟨bz,2,none⟩=some (.int .i64 r1):=HBXB.out.cell 2;have n3:wb.cell? ⟨bz,3,none⟩=some (.int .i64 r2):=HBXB.out.cell 3;have n4:wb.cell? ⟨bz,4,none⟩=some (.int .i64 N.refs):=HBXB.out.cell 4;have k1':wb.cell? ⟨sb,1,none⟩=some (.pointer (some ⟨s9.pb,0,none⟩)):=k1;have HL9:Hid (s9.ts.length=d0.vars.length):=Hd (by rw[h9.tlen,HM8.out.vlen]);clear k0 k1 k2 k3 k4 kf h9 hdi y1 y2 y3 yf;refine Zan (fun W:World=>W=wb.drew) true 6 [(0,false),(1,false),(2,false),(3,false),(4,false),(5,false),(6,true)] (by kernel_rfl) (by kernel_rfl) rfl ?_;simp only[planned,Zd8]
     iterate 6
      refine Zap rfl ?_;apply Exists.intro;refine⟨fun w' hw=>?_,?_⟩
      ·
       subst hw;go_simp;rfl
      simp only[Zag]
     refine Zc5 rfl (by go_simp) HSET.out ?_;rintro _ w10 ⟨rfl,hr10,h10,hx10,hy10⟩;simp only[Zag];refine Zbx ?_;clear n0 n1 n2 n3 n4 k1';have hd10:=h10.below hr10.lt (Zah w10 1);have hyl2:y<s9.ts.length:=by rw[HL9.out];exact HFR.out.facts.2.1
     have hyi:(y:Int)<s9.ts.length:=by omega
     obtain⟨gt,ct,hvt,celly,hvl⟩:=h10.tabAt (v:=y) (by show y<d8.vars.length;rw[HM8.out.vlen];exact HFR.out.facts.2.1);obtain⟨k0,k1,k2,k3,k4,kf⟩:=cells5 h10.blk;rw[hvt] at k2;have HPUT:=Hd (Yag (id:=i) (hr10.below (Zah w10 1)) hd10 hyl2 HTD.out.1 (hx10.chg (Chg.of_below (Zah w10 1) Zam o6)) (hy10.chg (Chg.of_below (Zah w10 1) Zam o6)));have n0:w10.cell? ⟨bz,0,none⟩=some (.int .i64 i):=hx10.cell 0;clear hr10 h10 hx10 hy10 hd10 hvt k0 k1 k3 k4 kf hyl2;go_upto_region 25 with fail;refine Zan (fun W:World=>W=w10.drew) true 12 [(0,false),(1,false),(2,false),(3,false),(4,false),(5,false),(6,false),(7,false),(8,false),(9,false),(10,false),(11,false),(12,true)] (by kernel_rfl) (by kernel_rfl) rfl ?_;simp only[planned,Zd8]
     iterate 12
      refine Zap rfl ?_;apply Exists.intro;refine⟨fun w' hw=>?_,?_⟩
      ·
       subst hw;go_simp;rfl
      simp only[Zag]
     refine Zc5 rfl (by go_simp) HPUT.out ?_;rintro _ w11 ⟨rfl,hr11,hx11,hy11⟩;simp only[Zag];refine Zbx ?_;have HR11:=Hd hr11;have HY11:=Hd hy11
     have HLS:=Hd (Zso hr11.st hr11.lt HFR.out HTD.out.2 HTB.out.node HTB.out.v (.inl rfl) (fun q=>by
      have h1:=HFR.out.top q;have h2:toE b.lo q<=1:=by unfold toE;split<;>omega
      have h3:toE b.hi q<=1:=by unfold toE;split<;>omega
      unfold addE;omega) (fun q=>by
      have h1:0<=Zat d0 q:=by unfold Zat;split<;>omega
      have h3:0<=toE b.hi q:=by unfold toE;split<;>omega
      unfold addE;omega))
     have u2:w11.cell? ⟨bo,2,none⟩=some (.int .i64 b.lo):=hy11.cell 2;clear hr11 hx11 hy11 n0 k2 celly hyi;go_wp2_with fail;refine HLS.out.mono ?_;rintro q w12 ⟨rfl,d12,st12,lt12,m12,c12⟩;have HR12:=Hd (HR11.out.move st12 lt12 c12 (fun _ h=>h));have hy12:=HY11.out.chg c12
     have HLS2:=Hd (Zso st12 lt12 HFR.out m12 HTB.out.node HTB.out.v (.inr rfl) (fun q=>by
      have h1:=HFR.out.top q;have h2:toE b.lo q<=1:=by unfold toE;split<;>omega
      have h3:toE b.hi q<=1:=by unfold toE;split<;>omega
      have h4:0<=toE b.lo q:=by unfold toE;split<;>omega
      unfold addE;omega) (fun q=>by
      have h1:0<=Zat d0 q:=by unfold Zat;split<;>omega
      unfold addE;omega))
     have u3:w12.cell? ⟨bo,3,none⟩=some (.int .i64 b.hi):=hy12.cell 3;clear st12 lt12 m12 c12 hy12 u2;go_wp2_with fail;refine HLS2.out.mono ?_;rintro q w13 ⟨rfl,d13,st13,lt13,m13,c13⟩;rw[Zvl] at m13;have HNX:=Hd (And.intro (HR12.out.move st13 lt13 c13 (fun _ h=>h)) (m13.congr HTK.out));clear st13 lt13 m13 c13 u3;go_wp2_with fail;go_roundw
     case rel=>exact⟨j+1,Nat.succ_le_of_lt HJL.out,by go_num,Hd ⟨_,_,_,HNX.out.1,HNX.out.2⟩⟩
     case measure =>
      have:=HJL.out;have:=HIB.out;simp[intOf];omega
    ·
     obtain rfl:j=ids.length:=by omega
     obtain⟨oe,de,Ve,hre,hme⟩:=HRI.out;have hok:=hme.final HFR.out.v HFR.out.ok HFR.out.lev (fun i hT=>by rw[List.take_length];exact(HIDS.out i).2 hT);have HCE:=Hd (Zha hre.st hre.lt hok)
     have HFIN:Hid (∀ w' o' d',Zaq o' w' sb d'->Zai o' w'->Za2 de d'->Chg Zam oe o' wr w'->P (.returned (.int .i64 0)) w'):=Hd (by
      intro w' o' d' st' lt' cr' ch';rw[HPP.out];exact⟨o',d0,HR1.out,lt',HC1.out.trans (hre.chg.trans ch'),.inr ⟨rfl,d',Ve,st',hme.out hok cr'⟩⟩)
     clear hre hme hok HRI;go_wp2_with fail;refine HCE.out.mono ?_;rintro q w14 ⟨rfl,o14,d14,st14,lt14,cr14,ch14⟩;have HF:=Hd (HFIN.out w14 o14 d14 st14 lt14 cr14 ch14);clear st14 lt14 cr14 ch14;go_wp2_with fail;exact HF.out
open Go.RowKit
section
variable {m:ManD} {V V':Nat->BF} {d0 d':Zac} {k:Nat}
theorem Zbr.big (h:Zbr m) {p:Int×Nat} (hp:p∈m.hs):p.2/2=0\/1<p.1:=by
 by_cases h1:1<p.1
 ·
  exact .inr h1
 ·
  left;have hlt:=h.lt p hp;have hu:∀ q∈m.hs,q.1=p.1->q=p:=by
   intro q hq e;have hnd:=h.nodup;have h1:=Zcg (l:=encH m.hs) (Zd4 hnd) (List.mem_map.2 ⟨q,hq,rfl⟩);have h2:=Zcg (l:=encH m.hs) (Zd4 hnd) (List.mem_map.2 ⟨p,hp,rfl⟩);rw[e,h2] at h1;have e2:(p.2:Int)=(q.2:Int):=by injection h1 with h1;injection h1
   exact Prod.ext e (by omega)
  rcases(by omega:p.1=0\/p.1=1) with e|e
  ·
   rw[<- hu _ h.zero e.symm];rfl
  ·
   rw[<- hu _ h.one e.symm];rfl
theorem Zsx {hs:List (Int×Nat)} {p:Int×Nat} (hp:p∈hs) (h1:1<p.1):0<Zbo hs (p.2/2):=by
 unfold Zbo;refine List.length_pos_of_mem (List.mem_filter.2 ⟨hp,?_⟩);simp[h1]
theorem Yci (hs:List (Int×Nat)) (i:Nat):Zbo hs i<=hs.length:=List.length_filter_le _ _
theorem Yaw (h:Zbr m) (i:Nat):Zat m.d i<=m.next:=by
 cases hb:Zaa m.d i with
 | none=>rw[Zd5 hb];have:=h.next;omega
 | some b =>
   rw[h.refs i b hb];have h1:=Yci m.hs i;have h2:=h.len;omega
theorem Zpf (h:Zbr { m with d:=d0 }) (hk:Zaj d0 V) (s:Zj2 d0 V k d' V'):Zbr { m with d:=d' }:=by
 have hok:∀ p∈m.hs,okE (Zaa d') p.2:=by
  intro p hp;rcases h.ok p hp with h0|⟨b,hb⟩
  ·
   exact .inl h0
  ·
   rcases h.big hp with h1|h1
   ·
    exact .inl h1
   ·
    refine .inr (s.live _ b hb ?_);have h2:=h.refs _ b hb;have h3:0<Zbo m.hs (p.2/2):=Zsx hp h1;have h4:Zat d0 (p.2/2)=(Zbo m.hs (p.2/2):Int):=h2;omega
 refine⟨h.nodup,h.zero,h.one,h.lt,h.next,hok,h.len,fun i b hb=>?_⟩
 show Zat d' i=(Zbo m.hs i:Int)
 rw[s.ext i b hb];cases hn:Zaa d0 i with
 | some b0=>exact h.refs i b0 hn
 | none =>
   rw[Zd5 hn];have hi:i≠0:=by
    rintro rfl;have h0:Zaa d' 0=none:=s.ok.dag.none0;have h1:Zaa d' 0=some b:=hb;rw[h0] at h1;cases h1
   have:Zbo m.hs i=0:=by
    unfold Zbo;rw[List.length_eq_zero_iff,List.filter_eq_nil_iff];intro p hp;have ho:=h.ok p hp;simp only[Bool.and_eq_true,decide_eq_true_eq,beq_iff_eq,not_and];rintro _ rfl;rcases ho with h0|⟨b1,hb1⟩
    ·
     exact hi h0
    ·
     have hb2:Zaa d0 (p.2/2)=some b1:=hb1;rw[hn] at hb2;cases hb2
   rw[this];rfl
end
structure Ydn (K:Law) (n room:Nat) (w0:World) (mb:Nat) (fs:List (Int×BF)) (nx:Int) (k:Nat) (o:Own) (w:World) (m:ManD) (V:Nat->BF) (e:Ending) (o':Own) (w':World) (m':ManD) (V':Nat->BF):Prop where
 sat:SatE K n (fun _=>True) room w0 mb fs nx w' o' m' V'
 waits:m'.waits=m.waits
 calls:m'.calls=m.calls
 chg:Chg (fun _=>True) o o' w w'
 way:∃ d0,Za2 m.d d0/\((e=.returned (.int .i64 7)/\m'.d=d0/\V'=V/\d0.pool.room<3*d0.pool.many)\/(e=.returned (.int .i64 0)/\Zj2 d0 V k m'.d V'))
section
variable {K:Law} {n:Nat} {Od:List Nat->Prop} {room:Nat} {w0 w w':World} {mb:Nat} {fs:List (Int×BF)} {nx:Int} {o o':Own} {m:ManD} {V:Nat->BF}
theorem Ycj {k:Nat} {s:ManW} {w1:World} (h:SatE K n Od room w0 mb fs nx w o m V) (g1:Zbz (fun _ _ _ _ _=>False) o w1 mb m s) (g2:Chg (· = .entries) o o w w1) (g3:Zai o w1) (hk1:k+1<n) (hn:nx<=549755813888) :
 Calls Tryz.prog 127 #[.pointer (some ⟨s.sb,0,none⟩),.int .i64 k] w1 fun e w'=>∃ o' m' V',Ydn K n room w0 mb fs nx k o w m V e o' w' m' V':=by
 have hnext:=h.next
 refine(Zob g1.store g3 h.ok.store k (by rw[h.vars];exact hk1) (fun i=>by have:=Yaw h.ok.handles i;omega)).mono ?_;rintro e w' ⟨o',d0,cr,lt,ch,hw⟩;have hc:Chg (fun _=>True) o o' w w':=g2.any.trans ch.any;have h0:=Zf3 h.ok.handles h.ok.store cr;rcases hw with ⟨rfl,st,hr⟩|⟨rfl,d',V',st,so⟩
 ·
  refine⟨o',{ m with d:=d0 },V,⟨⟨s,(g1.setStore g3 st ch).mono fun _ _ _ _ _ e=>e.elim⟩,lt,⟨cr.ok h.ok.store,h0⟩,by dsimp only;rw[cr.vars];exact h.vars,trivial,by dsimp only;rw[cr.room];exact h.room,h.next,h.hs,h.chg.lower (ChgX.of_chg hc NoB) (fun _ e=>e.elim)⟩,rfl,rfl,hc,d0,cr,.inl ⟨rfl,rfl,rfl,hr⟩⟩
 ·
  refine⟨o',{ m with d:=d' },V',⟨⟨s,(g1.setStore g3 st ch).mono fun _ _ _ _ _ e=>e.elim⟩,lt,⟨so.ok,Zpf h0 (cr.ok h.ok.store) so⟩,?_,trivial,?_,h.next,?_,h.chg.lower (ChgX.of_chg hc NoB) (fun _ e=>e.elim)⟩,rfl,rfl,hc,d0,cr,.inr ⟨rfl,so⟩⟩
  ·
   show d'.vars.length=n
   rw[so.vars,Zia,cr.vars];exact h.vars
  ·
   show d'.pool.room=room
   rw[so.room,cr.room];exact h.room
  ·
   show m.hs.map (fun p=>(p.1,ef V' p.2))=fs
   rw[Ya0 (d:=d0) h0.ok so.val];exact h.hs
end
open Go.RowKit
theorem Zoc {o:Own} {w:World} {sb:Nat} {d:Zac} (st:Zaq o w sb d) (hs:d.vars.length<=64) (z:Int) (hz:z<0\/(d.vars.length:Int)-1<=z) :
 Calls Tryz.prog 127 #[.pointer (some ⟨sb,0,none⟩),.int .i64 z] w fun x w'=>x=.returned (.int .i64 2)/\w'=w:=by
 obtain⟨s0,h0⟩:=id st;obtain⟨c0,c1,c2,c3,c4,f0⟩:=cells5 h0.blk;obtain⟨l0,l1,_⟩:=cells2 h0.lev;obtain⟨av,cv,hvv⟩:∃ a c,s0.vv=.slice a d.vars.length c:=by
  rcases h0.vars with ⟨_,h1|⟨g,cap,c,hv,_⟩⟩
  ·
   exact⟨_,_,by rw[h1.1,h1.2]⟩
  ·
   exact⟨_,_,hv⟩
 rw[hvv] at l0;clear st h0 hvv c1 c2 c3 c4 f0 l1
 by_cases hn:z<0
 ·
  clear l0 c0
  go_enter Tryz.func127,Tryz.ntmps127
  go_wp2_with fail;go_ret;exact⟨rfl,rfl⟩
 ·
  have h1:z>=(d.vars.length:Int)-1:=by omega
  clear hz
  go_enter Tryz.func127,Tryz.ntmps127
  go_wp2_with fail;go_ret;exact⟨rfl,rfl⟩
section
variable {K:Law} {n:Nat} {Od:List Nat->Prop} {room:Nat} {w0 w w':World} {mb:Nat} {fs:List (Int×BF)} {nx:Int} {o o':Own} {m:ManD} {V:Nat->BF}
end
open Go.RowKit
theorem Ze8 (f g:Nat->Int):∀ k,Zar k (fun i=>f i+g i)=Zar k f+Zar k g
 | 0=>by simp[Zar]
 | k+1=>by simp only[Zar];rw[Ze8 f g k];omega
theorem Zgw {f g:Nat->Int}:∀ k,(∀ i,i<k->f i<=g i)->Zar k f<=Zar k g
 | 0,_=>by simp[Zar]
 | k+1,h=>by
   have h1:=Zgw k (fun i hi=>h i (by omega));have h2:=h k (by omega);simp only[Zar];omega
theorem Zk5 (c:Int) (f:Nat->Int):∀ k,c*Zar k f=Zar k (fun i=>c*f i)
 | 0=>by simp[Zar]
 | k+1=>by simp only[Zar];rw[Int.mul_add,Zk5 c f k]
theorem Zmo (f:Nat->Nat->Int) (m:Nat):∀ k,Zar k (fun i=>Zar m (fun j=>f i j))=Zar m (fun j=>Zar k (fun i=>f i j))
 | 0=>by simp only[Zar];rw[Zc6]
 | k+1=>by
   simp only[Zar];rw[Zmo f m k,<- Ze8]
theorem Zk6 {g:Nat->Int} (hg:∀ i,0<=g i) (e k:Nat):Zar k (fun i=>g i*toE e i)<=g (e/2):=by
 by_cases hk:e/2<k
 ·
  have h1:=Zdg (f:=fun _=>0) (g:=fun i=>g i*toE e i) (j:=e/2) (fun i hi=>by
   have:toE e i=0:=by unfold toE;rw[if_neg (Ne.symm hi)]
   simp[this]) k hk
  rw[h1,Zc6];have:toE e (e/2)=1:=Ziv e;simp[this]
 ·
  rw[Zax (g:=fun _=>0) k (fun i hi=>by
   have:toE e i=0:=by unfold toE;rw[if_neg (by omega)]
   simp[this]),Zc6]
  exact hg _
def gW (d:Zac) (i:Nat):Int:=match Zaa d i with
 | some b=>((2^(d.vars.length-levN d b.v):Nat):Int)-1
 | none=>0
theorem Zf2 (d:Zac) (i:Nat):0<=gW d i:=by
 unfold gW;split
 ·
  have:0<2^(d.vars.length-levN d (by assumption:BN).v):=Nat.pow_pos (by decide);omega
 ·
  omega
theorem Yc4 (d:Zac) (i l:Nat) (h:∀ b,Zaa d i=some b->l<=levN d b.v):gW d i<=((2^(d.vars.length-l):Nat):Int)-1:=by
 unfold gW;split
 ·
  rename_i b hb
  have h1:=h b hb;have:2^(d.vars.length-levN d b.v)<=2^(d.vars.length-l):=Nat.pow_le_pow_right (by decide) (by omega);omega
 ·
  have:0<2^(d.vars.length-l):=Nat.pow_pos (by decide);omega
theorem Zzb {d:Zac} {V:Nat->BF} (hk:Zaj d V) {j:Nat} {b:BN} (hb:Zaa d j=some b):gW d (b.lo/2)+gW d (b.hi/2)<=gW d j-1:=by
 have hl:=hk.dag.lt _ (hk.dag.var _ _ hb);have key:∀ e,levN d b.v<lvE d.vars.length (levN d) (Zaa d) e->gW d (e/2)<=((2^(d.vars.length-(levN d b.v+1)):Nat):Int)-1:=fun e he=>Yc4 d _ _ (fun c hc=>by rw[Zpt hc] at he;omega)
 have h1:=key _ (hk.dag.lvLo _ _ hb);have h2:=key _ (hk.dag.lvHi _ _ hb);have h3:gW d j=((2^(d.vars.length-levN d b.v):Nat):Int)-1:=by unfold gW;rw[hb]
 have h4:d.vars.length-levN d b.v=(d.vars.length-(levN d b.v+1))+1:=by omega
 rw[h3,h4,Nat.pow_succ];omega
theorem Zzk {d:Zac} {V:Nat->BF} (hk:Zaj d V) (h0:d.dead=0) (hc:(d.pool.many:Int)=Zar d.pool.at_.length (fun i=>if d.pool.tk i=true then 1 else 0)) :
 (d.pool.many:Int)<=Zar d.pool.at_.length (fun i=>gW d i*Zat d i):=by
 obtain⟨k,hkk⟩:∃ k,k=d.pool.at_.length:=⟨_,rfl⟩;rw[<- hkk] at hc ⊢;have e1:Zar k (fun i=>gW d i*(Zas d i:Int))=Zar k (fun i=>gW d i*Zat d i)+Zar k (fun i=>gW d i*Zar k (from1 (Zaa d) (Zas d) i)):=by
  rw[<- Ze8];refine Zax k fun i _=>?_
  cases hb:Zaa d i with
  | none=>simp[gW,hb]
  | some b=>rw[hk.live.cnt.eq i b hb,Int.mul_add,hkk]
 have e2:Zar k (fun i=>gW d i*Zar k (from1 (Zaa d) (Zas d) i))=Zar k (fun j=>Zar k (fun i=>gW d i*from1 (Zaa d) (Zas d) i j)):=by
  rw[<- Zmo];exact Zax k fun i _=>Zk5 _ _ _
 have e3:Zar k (fun j=>Zar k (fun i=>gW d i*from1 (Zaa d) (Zas d) i j))<=Zar k (fun j=>gW d j + -(if d.pool.tk j=true then 1 else 0)):=by
  refine Zgw k fun j _=>?_
  cases hb:Zaa d j with
  | none =>
    have ht:d.pool.tk j=false:=Zga hb;rw[Zax (g:=fun _=>0) k (fun i _=>by simp[from1,hb]),Zc6];simp[gW,hb,ht]
  | some b =>
    have ht:d.pool.tk j=true:=(Zav hb).1;have hp:=Zjp hk.live h0 hb
    rw[Zax (g:=fun i=>gW d i*toE b.lo i+gW d i*toE b.hi i) k (fun i _=>by
     simp only[from1,hb,if_pos hp,Zdl];rw[Int.mul_add]),Ze8,ht,if_pos rfl]
    have h1:=Zk6 (Zf2 d) b.lo k;have h2:=Zk6 (Zf2 d) b.hi k;have h3:=Zzb hk hb;omega
 have e4:Zar k (fun i=>gW d i)<=Zar k (fun i=>gW d i*(Zas d i:Int)):=by
  refine Zgw k fun i _=>?_
  cases hb:Zaa d i with
  | none=>simp[gW,hb]
  | some b =>
    have hp:=Zjp hk.live h0 hb;have hg:=Zf2 d i;have h1:(1:Int)<=(Zas d i:Int):=by omega
    have h2:=Int.mul_le_mul_of_nonneg_left h1 hg;omega
 have e5:Zar k (fun j=>gW d j + -(if d.pool.tk j=true then 1 else 0))=Zar k (fun j=>gW d j)+Zar k (fun j=>-(if d.pool.tk j=true then 1 else 0)):=Ze8 _ _ _;have e6:Zar k (fun j=>-(if d.pool.tk j=true then (1:Int) else 0)) = -Zar k (fun j=>if d.pool.tk j=true then 1 else 0):=by
  have:=Zk5 (-1) (fun j=>if d.pool.tk j=true then (1:Int) else 0) k;rw[Zax (g:=fun i=>-1*if d.pool.tk i=true then (1:Int) else 0) k (fun i _=>by omega),<- this];omega
 omega
theorem Zsy (d:Zac) (k:Nat):∀ hs:List (Int×Nat),Zar k (fun i=>gW d i*(Zbo hs i:Int))<=hs.length*((2^d.vars.length:Nat):Int)
 | []=>by
   rw[Zax (g:=fun _=>0) k (fun i _=>by simp[Zbo]),Zc6];simp
 | p::l=>by
   have ih:=Zsy d k l;have h1:Zar k (fun i=>gW d i*(Zbo (p::l) i:Int))<=Zar k (fun i=>gW d i*(Zbo l i:Int)+gW d i*toE p.2 i):=by
    refine Zgw k fun i _=>?_
    rw[<- Int.mul_add];refine Int.mul_le_mul_of_nonneg_left ?_ (Zf2 d i);unfold Zbo toE
    by_cases e:p.2/2=i
    ·
     rw[if_pos e];have:(List.filter (fun p=>decide (1<p.1)&&p.2/2 == i) (p::l)).length<=(List.filter (fun p=>decide (1<p.1)&&p.2/2 == i) l).length+1:=by
      rw[List.filter_cons];split<;>simp
     omega
    ·
     rw[if_neg e,List.filter_cons_of_neg (by simp[e])];omega
   have h2:=Zk6 (Zf2 d) p.2 k;have h3:=Yc4 d (p.2/2) 0 (fun _ _=>Nat.zero_le _);rw[Ze8] at h1;rw[List.length_cons,Int.natCast_add,Int.add_mul];simp only[Nat.sub_zero] at h3;have h4:((1:Nat):Int)*((2^d.vars.length:Nat):Int)=((2^d.vars.length:Nat):Int):=by simp
   omega
section
variable {K:Law} {n:Nat} {Od:List Nat->Prop} {room:Nat} {w0 w w':World} {mb:Nat} {fs:List (Int×BF)} {nx:Int} {o o':Own} {m m':ManD} {V V':Nat->BF}
theorem SatE.few (h:SatE K n Od room w0 mb fs nx w o m V) (h0:m.d.dead=0):m.d.pool.many<=fs.length*2^n:=by
 obtain⟨s,hs⟩:=h.is;obtain⟨s2,h2⟩:=hs.store;have h1:=Zzk h.ok.store h0 h2.pool.cnt;have h3:=Zsy m.d m.d.pool.at_.length m.hs;have h4:Zar m.d.pool.at_.length (fun i=>gW m.d i*Zat m.d i)=Zar m.d.pool.at_.length (fun i=>gW m.d i*(Zbo m.hs i:Int)):=by
  refine Zax _ fun i _=>?_
  cases hb:Zaa m.d i with
  | none=>simp[gW,hb]
  | some b=>rw[h.ok.handles.refs i b hb]
 have h5:fs.length=m.hs.length:=by rw[<- h.hs,List.length_map]
 rw[h5,<- h.vars];have h6:((m.hs.length*2^m.d.vars.length:Nat):Int)=m.hs.length*((2^m.d.vars.length:Nat):Int):=by rw[Int.natCast_mul]
 omega
end
open Go.RowKit
theorem Zyy (zs:List Int) (x:Int) (i:Nat):Zvu zs x i=bub zs i (Ze5 zs x-i).toNat:=rfl
theorem Zvv (zs:List Int) (i d:Nat):(bub zs i (d+1)).2=((i+d:Nat):Int)::(bub (Zql zs ((i+d:Nat):Int)) i d).2:=rfl
theorem OwnI.lower {w:World} {base base':Nat} {v:Value} {zs:List Int} (h:OwnI w base v zs) (hb:base'<=base):OwnI w base' v zs:=by
 refine⟨h.1,h.2.imp id ?_⟩;rintro⟨g,cap,cur,hv,hg,rest⟩;exact⟨g,cap,cur,hv,Nat.le_trans hb hg,rest⟩
def Ziy (a b:List Int) (w:World) (e:Ending) (w':World):Prop :=
 ∃ v,e=.returned (.tuple #[v,.int .i64 (Zdf a b)])/\OwnI w' w.heap.size v (Zeb a b)/\Below w.heap.size w w'
theorem Zfj {a b r:List Int} {w w':World} {v:Value} {E:Int} (hE:Zdf a b=E) (hr:Zeb a b=r) (hs:OwnI w' w.heap.size v r) (hb:Below w.heap.size w w') :
 Ziy a b w (.returned (.tuple #[v,.int .i64 E])) w':=⟨v,by rw[hE],by rw[hr];exact hs,hb⟩
def metB (zs:List Int) (k:Nat) (v:Int):Bool:=decide (∃ j,j<k/\at0 zs j=v)
theorem Zxb (zs:List Int) (v:Int):metB zs 0 v=false:=by simp[metB]
theorem Zpw (zs:List Int) (k:Nat):metB zs (k+1) (at0 zs k)=true:=by simp only[metB,decide_eq_true_eq];exact⟨k,by omega,rfl⟩
theorem Zi6 (zs:List Int) (k:Nat) (v:Int) (h:at0 zs k≠v):metB zs (k+1) v=metB zs k v:=by
 simp only[metB,decide_eq_decide];constructor
 ·
  rintro⟨j,hj,he⟩;refine⟨j,?_,he⟩
  by_cases e:j=k
  ·
   subst e;exact(h he).elim
  ·
   omega
 ·
  rintro⟨j,hj,he⟩;exact⟨j,by omega,he⟩
theorem Zxa {zs:List Int} {k:Nat} {v:Int} (h:metB zs k v=true):∃ j,j<k/\at0 zs j=v:=by simpa [metB] using h
theorem Zun {zs:List Int} {k:Nat} {v:Int} (h:metB zs k v=false):∀ j,j<k->at0 zs j≠v:=by
 intro j hj he;have:metB zs k v=true:=by simp only[metB,decide_eq_true_eq];exact⟨j,hj,he⟩
 rw[h] at this;cases this
def Marks (w:World) (g:Nat) (zs:List Int) (k base:Nat):Prop :=
 ∃ cur,w.heap[g]?=some (.cells cur 260 (0,0))/\cur.size=64/\∀ u,u<64->cur[u]?=some (.bool (metB zs k ((base+u:Nat):Int)))
theorem Marks.cell {w:World} {g:Nat} {zs:List Int} {k base:Nat} (h:Marks w g zs k base) (u:Nat) (hu:u<64):w.cell? ⟨g,u,none⟩=some (.bool (metB zs k ((base+u:Nat):Int))):=by
 obtain⟨cur,h1,h2,h3⟩:=h;simp only[World.cell?,h1];exact h3 u hu
theorem Marks.frozen {w:World} {g:Nat} {zs:List Int} {k base:Nat} (h:Marks w g zs k base) (u:Nat):w.frozen? ⟨g,u,none⟩=false:=by
 obtain⟨cur,h1,h2,h3⟩:=h;simp[World.frozen?,h1]
theorem Marks.step_out {w:World} {g:Nat} {zs:List Int} {k base:Nat} (h:Marks w g zs k base) (hx:¬ ((base:Int)<=at0 zs k/\at0 zs k<base+64)):Marks w g zs (k+1) base:=by
 obtain⟨cur,h1,h2,h3⟩:=h;exact⟨cur,h1,h2,fun u hu=>by rw[Zi6 _ _ _ (by omega)];exact h3 u hu⟩
theorem Marks.step_in {w:World} {g:Nat} {zs:List Int} {k base u:Nat} (h:Marks w g zs k base) (hx:at0 zs k=((base+u:Nat):Int)) (hu:u<64) :
 Marks (w.setCell ⟨g,u,none⟩ (.bool true)) g zs (k+1) base:=by
 obtain⟨cur,h1,h2,h3⟩:=h;refine⟨cur.setIfInBounds u (.bool true),?_,by simpa using h2,fun v hv=>?_⟩
 ·
  simp[World.setCell,Array.getElem?_modify,h1]
 ·
  by_cases e:v=u
  ·
   subst e;rw[Array.getElem?_setIfInBounds_self_of_lt (by omega),<- hx,Zpw]
  ·
   rw[Array.getElem?_setIfInBounds_ne (by omega),Zi6 _ _ _ (by omega)];exact h3 v hv
theorem Zw9 (w:World) (zs:List Int) (base:Nat) (cs:List Value) (hcs:cs=List.replicate 64 (.bool false)):Marks (w.alloc (.cells cs.toArray 260)) w.heap.size zs 0 base :=
 ⟨_,heap_alloc_new w _,by simp[hcs],fun u hu=>by rw[Zxb,List.getElem?_toArray,hcs,List.getElem?_replicate,if_pos hu]⟩
def Zjz (zs:List Int) (B:Nat):Prop :=
 1<=B->(∀ j,j<zs.length->0<=at0 zs j/\at0 zs j<zs.length)/\∀ i,i<zs.length->∀ l,l<i->at0 zs l=at0 zs i->(B:Int)<=at0 zs i
def Zjy (zs:List Int) (B k:Nat):Prop :=
 (∀ j,j<k->0<=at0 zs j/\at0 zs j<zs.length)/\(∀ i,i<k->∀ l,l<i->at0 zs l=at0 zs i->¬ ((B:Int)<=at0 zs i/\at0 zs i<(B:Int)+64))
theorem Zqa (zs:List Int):Zjz zs 0:=fun h=>by omega
theorem Zp8 (zs:List Int) (B:Nat):Zjy zs B 0:=⟨by omega,by omega⟩
theorem Zgd {zs:List Int} {B k:Nat} (h:Zjy zs B k) (h1:0<=at0 zs k) (h2:at0 zs k<zs.length)
 (h3:¬ ((B:Int)<=at0 zs k/\at0 zs k<(B:Int)+64)\/metB zs k (at0 zs k)=false):Zjy zs B (k+1):=by
 refine⟨fun j hj=>?_,fun i hi l hl he=>?_⟩
 ·
  by_cases e:j=k
  ·
   subst e;exact⟨h1,h2⟩
  ·
   exact h.1 j (by omega)
 ·
  by_cases e:i=k
  ·
   subst e;rcases h3 with h3|h3
   ·
    exact h3
   ·
    exact(Zun h3 l hl he).elim
  ·
   exact h.2 i (by omega) l hl he
theorem Zp9 {zs:List Int} {B:Nat} (h:Zjz zs B) (hi:Zjy zs B zs.length):Zjz zs (B+64):=by
 refine fun _=>⟨hi.1,fun i hlt l hl he=>?_⟩
 have h2:=hi.2 i hlt l hl he;have h3:=(hi.1 i hlt).1
 by_cases hB:1<=B
 ·
  have:=(h hB).2 i hlt l hl he;omega
 ·
  omega
theorem Zp7 {zs:List Int} {B:Nat} (h:Zjz zs B) (hB:zs.length<=B):Zea zs=true:=by
 rw[Zml]
 by_cases h0:1<=B
 ·
  obtain⟨h1,h2⟩:=h h0;exact⟨h1,fun i hi k hk he=>by have:=h2 i hi k hk he;have:=(h1 i hi).2;omega⟩
 ·
  exact⟨by omega,by omega⟩
theorem Zgc {zs:List Int} {k:Nat} (hk:k<zs.length) (h:¬ (0<=at0 zs k/\at0 zs k<zs.length)):Zea zs=false:=Zja fun hh=>h (hh.1 k hk)
theorem Znz {zs:List Int} {k:Nat} (hk:k<zs.length) (h:metB zs k (at0 zs k)=true):Zea zs=false:=by
 obtain⟨j,hj,he⟩:=Zxa h;exact Zja fun hh=>hh.2 k hk j hj he
theorem Zb3 (a:Option Addr) (c:Nat) (zs:List Int) (w:World) (h:Zay w a zs) (hlen:zs.length<1000000) :
 Calls Tryz.prog 173 #[.slice a zs.length c] w fun e w'=>e=.returned (.bool (Zea zs))/\Below w.heap.size w w':=by
 obtain⟨hl,hc⟩:=h;have HC1:Hid (∀ k,k<zs.length->∃ b off,a=some ⟨b,off,none⟩/\b<w.heap.size/\w.cell? ⟨b,off+k,none⟩=some (.int .i64 (at0 zs k))):=fun k hk=>by
  obtain⟨b,off,h1,h2⟩:=hc k hk;exact⟨b,off,h1,Zab h2,h2⟩
 clear hc
 go_enter Tryz.func173,Tryz.ntmps173
 go_wp2
 go_loopw [3] (fun s3 wr=>∃ B:Nat,s3=.int .i64 B/\B<=zs.length+63/\Zjz zs B/\Below w.heap.size w wr/\w.heap.size<=wr.heap.size) (fun i _=>zs.length+64-(intOf i).toNat)
 case atStart=>exact⟨0,rfl,by omega,Zqa zs,Below.refl _ _,Nat.le_refl _⟩
 case round =>
  obtain⟨B,rfl,hB,hrel,hbel,hsz⟩:=hrel;have HR:=Hd hrel;clear hrel
  by_cases hlt:B<zs.length
  ·
   go_wp2
   obtain⟨wo,rfl⟩:∃ wo:World,wo=wr:=⟨_,rfl⟩
   go_loopw [16] (fun i wi=>∃ k:Nat,k<=zs.length/\i=.int .i64 k/\Zjy zs B k/\Marks wi wo.heap.size zs k B/\Below w.heap.size w wi/\w.heap.size<=wi.heap.size) (fun i _=>zs.length-(intOf i).toNat)
   case atStart=>exact⟨0,by omega,rfl,Zp8 zs B,Zw9 _ _ _ _ rfl,hbel.alloc hsz _,by simp;omega⟩
   case round =>
    obtain⟨k,hk,rfl,hr1,hm,hbel2,hsz2⟩:=hrel;have HR1:=Hd hr1;have HM:=Hd hm;clear hr1 hm
    by_cases hkn:k<zs.length
    ·
     obtain⟨b,off,rfl,hbw,hcw⟩:=HC1.out k hkn;have hcell:=(hbel2.cell (p:=⟨b,off+k,none⟩) hbw).trans hcw;clear hcw
     by_cases hx:0<=at0 zs k/\at0 zs k<zs.length
     ·
      obtain⟨hx1,hx2⟩:=hx
      by_cases hwin:(B:Int)<=at0 zs k/\at0 zs k<(B:Int)+64
      ·
       obtain⟨hwin1,hwin2⟩:=hwin;have hu64:((at0 zs k).toNat-B)<64:=by omega
       have hu0:at0 zs k=((B+((at0 zs k).toNat-B):Nat):Int):=by omega
       have hcm:=HM.out.cell _ hu64;have hfm:=HM.out.frozen ((at0 zs k).toNat-B);rw[<- hu0] at hcm;have HU:=Hd hu0
       generalize hmb:metB zs k (at0 zs k)=mb at hcm
       have HMB:=Hd hmb;clear hmb hu0;cases mb
       ·
        go_wp2
        go_roundw
        case rel=>exact⟨k+1,by omega,by go_num,Zgd HR1.out hx1 hx2 (.inr HMB.out),HM.out.step_in HU.out hu64,hbel2.setCell hsz _,by simp;omega⟩
        case measure=>simp[intOf];omega
       ·
        go_wp2
        go_ret;exact⟨Zde (Znz hkn HMB.out).symm,hbel2⟩
      ·
       have HW:=Hd hwin
       by_cases hlo:at0 zs k<(B:Int)
       ·
        clear hwin
        go_wp2
        go_roundw
        case rel=>exact⟨k+1,by omega,by go_num,Zgd HR1.out hx1 hx2 (.inl HW.out),HM.out.step_out HW.out,hbel2,hsz2⟩
        case measure=>simp[intOf];omega
       ·
        have hhi:(B:Int)+64<=at0 zs k:=by omega
        clear hwin
        go_wp2
        go_roundw
        case rel=>exact⟨k+1,by omega,by go_num,Zgd HR1.out hx1 hx2 (.inl HW.out),HM.out.step_out HW.out,hbel2,hsz2⟩
        case measure=>simp[intOf];omega
     ·
      have HX:=Hd hx
      by_cases hneg:at0 zs k<0
      ·
       clear hx
       go_wp2
       go_ret;exact⟨Zde (Zgc hkn HX.out).symm,hbel2⟩
      ·
       have hge:(zs.length:Int)<=at0 zs k:=by omega
       clear hx
       go_wp2
       go_ret;exact⟨Zde (Zgc hkn HX.out).symm,hbel2⟩
    ·
     obtain rfl:k=zs.length:=by omega
     go_wp2
     go_roundw
     case rel=>exact⟨B+64,by go_num,by omega,Zp9 HR.out HR1.out,hbel2,hsz2⟩
     case measure=>simp[intOf];omega
  ·
   go_wp2
   go_ret;exact⟨Zde (Zp7 HR.out (by omega)).symm,hbel⟩
theorem Zlc {ops:Array Oper} {rest:List Oper} {o:Oper} {a:Act} {Q:Exit->Act->World->Prop} {wr:World} (hgd:o.guard=none) (d s:Operand)
 (ho:o.op=.call { callee:=.builtin .copy,args:=#[d,s],argTypes:=#[22,22] })
 (base g:Nat) (w0:World) (zs:List Int) (xs:List Value) (ao:Option Addr) (c:Nat) (hd:a.eval d=.slice (some ⟨g,0,none⟩) zs.length zs.length) (hs:a.eval s=.slice ao zs.length c)
 (hown:wr.ownsRow base 3 1 (.slice (some ⟨g,0,none⟩) zs.length zs.length) zs.length xs) (hzs:Zay wr ao zs) (hb:Below base w0 wr)
 (h:∀ v' w',OwnI w' base (.slice (some ⟨g,0,none⟩) zs.length zs.length) zs->Below base w0 w'->base<=w'.heap.size->wpList Tryz.prog ops Q rest (a.put o.dst v') w') :
 wpList Tryz.prog ops Q (o::rest) a wr:=by
 obtain⟨hxl,hx⟩:=hown;rcases hx with ⟨hv,_⟩|⟨g',cap,cur,hv,hbg,hg,hnc,hcm,hcs,htake⟩
 ·
  cases hv
 ·
  simp only[Value.slice.injEq,Option.some.injEq,Addr.mk.injEq,and_true,true_and] at hv;obtain⟨rfl,rfl⟩:=hv;refine wpList_copy_splice (w:=wr) hgd d s 22 22 ho 3 Tryz.underlying22 (by obtain⟨i,hi,_,hsz,_⟩:=info_parts Zii;rw[hi];simp[hsz])
   _ _ _ _ _ _ hd hs g 0 cur.toList 3 (by simpa using hg) (Za7 zs) (by simp[Za7]) ?_ (by simp[Za7,hcs]) (ints_oneCell .i64 zs) base w0 hb hbg ?_
  ·
   intro hp;rw[Zf5] at hp;obtain⟨b,off,rfl,_⟩:=hzs.cells 0 hp;refine⟨rfl,_,rfl,fun j v hj=>?_⟩;have hlt:j<zs.length:=by
    rcases Nat.lt_or_ge j zs.length with h'|h'
    ·
     exact h'
    ·
     simp[Za7,List.getElem?_eq_none h'] at hj
   obtain⟨b',off',hab,hc⟩:=hzs.cells j hlt;cases hab;simp[Za7,getElem?_at0 hlt] at hj;subst hj;have hadd:(⟨b,off,none⟩:Addr).add j=⟨b,off+j,none⟩:=by unfold Addr.add;split<;>simp_all
   rw[hadd];exact hc
  ·
   intro w' hh hb';refine h _ w' ⟨by simp[Za7],.inr ⟨g,_,(Za7 zs).toArray,rfl,hbg,?_,Nat.le_refl _,hcm,by simp[Za7],by simp[Za7,List.take_of_length_le]⟩⟩ hb' ?_
   ·
    have:_=_:=hh;rw[this];have hl:cur.toList.length=zs.length:=by simp[hcs]
    simp[splice,Za7,List.drop_eq_nil_of_le,hl]
   ·
    have h1:_=_:=hh;have:=(Array.getElem?_eq_some_iff.1 h1).1;omega
theorem Zov (a:Option Addr) (c:Nat) (zs:List Int) (w:World) (h:Zay w a zs) (hlen:zs.length<1000000) :
 Calls Tryz.prog 174 #[.slice a zs.length c] w fun e w'=>∃ g,e=.returned (.slice (some ⟨g,0,none⟩) zs.length zs.length)/\OwnI w' w.heap.size (.slice (some ⟨g,0,none⟩) zs.length zs.length) zs/\Below w.heap.size w w':=by
 obtain⟨i,hi,hz,hsz,hby⟩:=info_parts Zii;have HI:=Hd h;clear h
 go_enter Tryz.func174,Tryz.ntmps174
 go_wp2_with (first
  | (at_make;refine wpList_make_full _ rfl _ _ 22 rfl w.heap.size 3 i (.int .i64 0) 1 Tryz.underlying22 hi hz hsz .i64 .i64 _ _ zs.length rfl rfl rfl rfl (by rw[hby];omega) (by unfold maxLen;omega) (Nat.le_refl _) ?_;intro w1 hown1 hg1)
  | (with_reducible refine Zlc rfl (.tmp 7) (.tmp 8) rfl w.heap.size w.heap.size w zs _ a c rfl rfl (by exact hown1) (HI.out.keep (Zco hg1) (by simp)) ((Below.refl _ _).grown hg1 (Nat.le_refl _) (by simp)) ?_;intro v2 w2 hown2 hb2 hs2))
 go_ret;exact⟨_,rfl,hown2,hb2⟩
theorem Zwr (a:Option Addr) (c:Nat) (zs:List Int) (x:Int) (w:World) (h:Zay w a zs) :
 Calls Tryz.prog 175 #[.slice a zs.length c,.int .i64 x] w fun e w'=>e=.returned (.int .i64 (Ze5 zs x))/\∃ n,w'=w.drewN n:=by
 obtain⟨hl,hc⟩:=h;have HC:=Hd hc;clear hc
 go_enter Tryz.func175,Tryz.ntmps175
 go_wp2
 go_loop [8] (fun i=>∃ k:Nat,k<=zs.length/\i=.int .i64 k/\∀ j,j<k->at0 zs j≠x) (fun i=>zs.length-(intOf i).toNat)
 case atStart=>exact⟨0,Nat.zero_le _,rfl,by omega⟩
 case round =>
  obtain⟨k,hk,rfl,hrel⟩:=hrel;have HR:=Hd hrel;clear hrel
  by_cases hlt:k<zs.length
  ·
   obtain⟨b,off,rfl,hcell⟩:=HC.out k hlt
   by_cases hx:at0 zs k=x
   ·
    have H1:(x == at0 zs k)=true:=by simpa using hx.symm
    have HX:=Hd hx;clear hx
    go_wp2
    go_ret;exact⟨Zrs (Zp2 hlt HX.out HR.out).symm,0,rfl⟩
   ·
    have H1:(x == at0 zs k)=false:=by simpa using(fun e=>hx e.symm)
    go_wp2
    go_round
    case rel=>exact⟨k+1,by omega,by go_num,fun j hj=>by
     by_cases e:j=k
     ·
      subst e;exact hx
     ·
      exact HR.out j (by omega)⟩
    case measure=>simp[intOf];omega
  ·
   go_wp2
   go_ret;exact⟨Zrs (Zrp (fun j hj=>HR.out j (by omega))).symm,0,rfl⟩
theorem OwnI.len {w:World} {base n c:Nat} {a:Option Addr} {zs:List Int} (h:OwnI w base (.slice a n c) zs):n=zs.length:=by
 rcases h.2 with ⟨hv,h0⟩|⟨g,cap,cur,hv,_⟩
 ·
  simp only[Value.slice.injEq] at hv;omega
 ·
  simp only[Value.slice.injEq] at hv;omega
theorem OwnI.intsAt {w:World} {base n c:Nat} {a:Option Addr} {zs:List Int} (h:OwnI w base (.slice a n c) zs) (hl:zs.length<=9223372036854775807):Zay w a zs:=by
 obtain rfl:=h.len;exact Zg1 hl h
theorem Zzf {a:Option Addr} {n c:Nat} {zs:List Int} {x:Int} {w:World} (hn:n=zs.length) (h:Zay w a zs) :
 Calls Tryz.prog 175 #[.slice a n c,.int .i64 x] w fun e w'=>e=.returned (.int .i64 (Ze5 zs x))/\∃ n,w'=w.drewN n:=by
 subst hn;exact Zwr a c zs x w h
theorem Znw (va vb:Value) (xs ys:List Int) (w:World) (h:SliceIs w va xs) (h':SliceIs w vb ys) (hlen:xs.length<=1000) (hlen':ys.length<=1000) :
 Calls Tryz.prog 160 #[va,vb] w (Ziy xs ys w):=by
 obtain⟨a,c,rfl,ha,hna⟩:=h;obtain⟨b,c',rfl,hb,hnb⟩:=h';have HA:=Hd ha;have HB:=Hd hb;clear ha hb hna hnb
 by_cases hr:Zea xs=true
 ·
  by_cases hr':Zea ys=true
  ·
   by_cases hl:xs.length=ys.length
   ·
    have HE:Hid (Zdf xs ys=0):=by unfold Zdf;rw[if_pos ⟨hr,hr'⟩,if_pos hl];rfl
    have HF:Hid (Zeb xs ys=Zh7 xs ys 0):=by unfold Zeb;rw[if_pos ⟨hr,hr',hl⟩];rfl
    have HR:=Hd hr;have HR':=Hd hr';have H3:((xs.length:Int) != ys.length)=false:=by simp[hl]
    clear hr hr' hl
    go_enter Tryz.func160,Tryz.ntmps160
    go_wp2_with fail;refine(Zb3 _ _ xs _ HA.out (by omega)).mono ?_;rintro e w1 ⟨rfl,hb1⟩;rw[HR.out];go_wp2_with fail;refine(Zb3 _ _ ys _ (HB.out.below hb1) (by omega)).mono ?_;rintro e w2 ⟨rfl,hb2⟩;rw[HR'.out];have hb12:Below w.heap.size w w2:=hb1.trans (hb2.mono hb1.size);go_wp2_with fail;refine(Zov _ _ xs _ (HA.out.below hb12) (by omega)).mono ?_;rintro e w3 ⟨g,rfl,hown3,hb3⟩;have hs2:=hb12.size;have hg:w2.heap.size<=g:=(hown3.lt g rfl).1;have hbel3:Below w.heap.size w w3:=hb12.trans (hb3.mono hs2);have hs3:w2.heap.size<=w3.heap.size:=hb3.size;go_wp2_with fail
    go_loopw [6,30] (fun s6 s30 wr=>∃ (k:Nat) (cur out:List Int),k<=ys.length/\s30=.int .i64 k/\OwnI wr w2.heap.size (.slice (some ⟨g,0,none⟩) xs.length xs.length) cur/\cur.length=xs.length/\OwnI wr w2.heap.size s6 out/\s6.ownBlock≠some g/\out.length<=k*1000/\out++Zh7 cur (ys.drop k) k=Zh7 xs ys 0/\w2.heap.size<=wr.heap.size/\Below w2.heap.size w2 wr) (fun _ s30 _=>ys.length-(intOf s30).toNat)
    case atStart=>exact⟨0,xs,[],by omega,rfl,hown3,rfl,Zh2 _ _,by simp[Value.ownBlock],by simp,by simp,hs3,hb3⟩
    case round =>
     obtain⟨k,cur,out,hk,rfl,hcur,hcl,hown,hne,hol,hst,hsz,hbel⟩:=hrel;have HST:=Hd hst;have HCL:=Hd hcl;have HNE:=Hd hne;have hcl1:cur.length<=1000:=by omega
     clear hst hcl hne;have HB1:=Hd (HB.out.below (hb12.trans (hbel.mono hs2)))
     by_cases hlt:k<ys.length
     ·
      obtain⟨bb,off,rfl,hcell⟩:=HB1.out.cells k hlt;have HDR:=Hd (Zru cur ys k hlt);have HCI:=Hd (hcur.intsAt (by omega));go_wp2_with fail;refine(Zzf HCL.out.symm (HCI.out.drewN 0)).mono ?_;rintro e w' ⟨rfl,n,rfl⟩;have hp1:=Zxr cur (at0 ys k);have hp2:=Zxs cur (at0 ys k);have HBT:=Hd (Zyy cur (at0 ys k) k)
      generalize Ze5 cur (at0 ys k)=p at hp1 hp2 HBT ⊢
      go_wp2_with fail;have hpl:p<xs.length\/p<=0:=by have:=HCL.out;omega
      obtain⟨N,F,HN⟩:∃ (N F:List Int),Hid (N=(bub cur k (p-k).toNat).1/\F=out++(bub cur k (p-k).toNat).2):=⟨_,_,rfl,rfl⟩
      go_loopw [6,10] (fun s6 s10 wi=>∃ (d:Nat) (c1 o1:List Int) (q:Int),s10=.int .i64 q/\-1<=q/\q<=1000/\(q<xs.length\/q<=0)/\(q<=k->d=0)/\(k<q->q=k+d)/\OwnI wi w2.heap.size (.slice (some ⟨g,0,none⟩) xs.length xs.length) c1/\c1.length=xs.length/\OwnI wi w2.heap.size s6 o1/\s6.ownBlock≠some g/\o1.length+d<=(k+1)*1000/\N=(bub c1 k d).1/\F=o1++(bub c1 k d).2/\w2.heap.size<=wi.heap.size/\Below w2.heap.size w2 wi) (fun _ s10 _=>(intOf s10+1).toNat)
      case atStart=>exact⟨(p-k).toNat,cur,out,p,rfl,hp1,by omega,hpl,by omega,by omega,hcur.drewN n,HCL.out,hown.drewN n,HNE.out,by omega,HN.out.1,HN.out.2,hsz,Zbi hbel n⟩
      case round =>
       obtain⟨d,c1,o1,q,rfl,hq1,hq2,hq3,hd1,hd2,hc1,hc1l,hown1,hne1,hol1,hN,hF,hsz1,hbel1⟩:=hrel;have HN1:=Hd hN;have HF1:=Hd hF;have HC1:=Hd hc1l;have HNE1:=Hd hne1;have hc1m:c1.length<=1000:=by omega
       clear hN hF hc1l hne1
       by_cases hqk:(k:Int)<q
       ·
        obtain⟨d,rfl⟩:∃ l,d=l+1:=⟨d-1,by omega⟩;have hqe:q=(k:Int)+d+1:=by omega
        subst hqe;have hkd:k+d+1<xs.length:=by omega
        have hkd1:k+d+1<c1.length:=by rw[HC1.out];exact hkd
        clear hd1 hd2 hq3;have hw1:IntKind.i64.wrap ((k:Int)+d+1-1)=((k+d:Nat):Int):=by rw[IntWalk.i64_in _ (by omega)];omega
        have q0:=hc1.cell (k+d) (by omega);have q1:=hc1.cell (k+d+1) (by omega);have p0:=hc1.frozen (k+d);have p1:=hc1.frozen (k+d+1);have t0:((k:Int)+d).toNat=k+d:=by omega
        have t1:((k:Int)+d+1).toNat=k+d+1:=by omega
        go_wp2_with fail
        go_region
        have HSW:=Hd (Yaa (zs:=c1) (k:=k+d) hkd1);have hc3:=((hc1.stored (k+d) (at0 c1 (k+d+1))).stored (k+d+1) (at0 c1 (k+d))).drewN 1;have ho3:=((hown1.setCell_other (a:=⟨g,k+d,none⟩) HNE1.out (.int .i64 (at0 c1 (k+d+1)))).setCell_other (a:=⟨g,k+d+1,none⟩) HNE1.out (.int .i64 (at0 c1 (k+d)))).drewN 1;have hb4:=Zbi ((hbel1.setCell (p:=⟨g,k+d,none⟩) hg (.int .i64 (at0 c1 (k+d+1)))).setCell (p:=⟨g,k+d+1,none⟩) hg (.int .i64 (at0 c1 (k+d)))) 1;have hg1:=(hc1.lt g rfl).2;go_wp2_with (at_builtin;go_loud (refine Zcj _ rfl _ _ rfl w2.heap.size w2 _ o1 _ rfl rfl (by rfl) (by simp) ho3 (by omega) (by simpa using hsz1) hb4 ?_);intro v2 w4 hown4 hbel4 hsz4 hkb4);have hc4:=hc3.keep hkb4.keep (fun x hx hxx=>by cases hx;exact HNE1.out hxx.symm);rw[<- HSW.out] at hc4;have hne4:=hkb4.ne HNE1.out (by simpa using hg1);go_roundw
        case rel=>exact⟨d,Zql c1 ((k+d:Nat):Int),o1++[((k+d:Nat):Int)],((k+d:Nat):Int),by go_num,by omega,by omega,by omega,by omega,by omega,hc4,by rw[Zqm];exact HC1.out,hown4,hne4,by simp;omega,HN1.out,by rw[HF1.out,Zvv];simp,hsz4,hbel4⟩
        case measure=>simp[intOf];omega
       ·
        obtain rfl:=hd1 (by omega);have HOW:=Hd hown1;have hN2:N=c1:=HN1.out;have hF2:F=o1:=by rw[HF1.out];simp[bub]
        have HNN:=Hd hN2;have HFF:=Hd hF2;clear hN2 hF2 hd1 hd2 hown1
        go_wp2
        go_roundw
        case rel=>exact⟨k+1,N,F,by omega,by go_num,by rw[HNN.out];exact hc1,by rw[HNN.out];exact HC1.out,by rw[HFF.out];exact HOW.out,HNE1.out,by rw[HFF.out];omega,by
         rw[HN.out.1,HN.out.2,<- HST.out,HDR.out,HBT.out];simp,hsz1,hbel1⟩
        case measure=>simp[intOf];omega
     ·
      obtain rfl:k=ys.length:=by omega
      have hfin:Zh7 xs ys 0=out:=by rw[<- HST.out];simp[Zh7]
      have HFIN:=Hd hfin;clear hfin
      go_wp2
      go_ret2
      exact Zfj HE.out (HF.out.trans HFIN.out) (hown.lower hs2) (hb12.trans (hbel.mono hs2))
   ·
    have HE:Hid (Zdf xs ys=3):=by unfold Zdf;rw[if_pos ⟨hr,hr'⟩,if_neg hl];rfl
    have HF:Hid (Zeb xs ys=[]):=by unfold Zeb;rw[if_neg (fun hh=>hl hh.2.2)];rfl
    have HR:=Hd hr;have HR':=Hd hr';have H3:((xs.length:Int) != ys.length)=true:=by simp;omega
    clear hr hr' hl
    go_enter Tryz.func160,Tryz.ntmps160
    go_wp2_with fail;refine(Zb3 _ _ xs _ HA.out (by omega)).mono ?_;rintro e w1 ⟨rfl,hb1⟩;rw[HR.out];go_wp2_with fail;refine(Zb3 _ _ ys _ (HB.out.below hb1) (by omega)).mono ?_;rintro e w2 ⟨rfl,hb2⟩;rw[HR'.out];go_wp2_with fail
    go_ret2
    exact Zfj HE.out HF.out (Zh2 _ _) (hb1.trans (hb2.mono hb1.size))
  ·
   have HE:Hid (Zdf xs ys=1):=by unfold Zdf;rw[if_neg (fun hh=>hr' hh.2)];rfl
   have HF:Hid (Zeb xs ys=[]):=by unfold Zeb;rw[if_neg (fun hh=>hr' hh.2.1)];rfl
   have hr'':Zea ys=false:=by simpa using hr'
   have HR:=Hd hr;have HR':=Hd hr'';clear hr hr' hr''
   go_enter Tryz.func160,Tryz.ntmps160
   go_wp2_with fail;refine(Zb3 _ _ xs _ HA.out (by omega)).mono ?_;rintro e w1 ⟨rfl,hb1⟩;rw[HR.out];go_wp2_with fail;refine(Zb3 _ _ ys _ (HB.out.below hb1) (by omega)).mono ?_;rintro e w2 ⟨rfl,hb2⟩;rw[HR'.out];go_wp2_with fail
   go_ret2
   exact Zfj HE.out HF.out (Zh2 _ _) (hb1.trans (hb2.mono hb1.size))
 ·
  have HE:Hid (Zdf xs ys=1):=by unfold Zdf;rw[if_neg (fun hh=>hr hh.1)];rfl
  have HF:Hid (Zeb xs ys=[]):=by unfold Zeb;rw[if_neg (fun hh=>hr hh.1)];rfl
  have hr'':Zea xs=false:=by simpa using hr
  have HR:=Hd hr'';clear hr hr''
  go_enter Tryz.func160,Tryz.ntmps160
  go_wp2_with fail;refine(Zb3 _ _ xs _ HA.out (by omega)).mono ?_;rintro e w1 ⟨rfl,hb1⟩;rw[HR.out];go_wp2_with fail
  go_ret2
  exact Zfj HE.out HF.out (Zh2 _ _) hb1
end Go.Proofs.YtlgogjbkadckkaaGreat
namespace Go.Proofs
open Go.Shelf
def Tryz.lays112_ren:Go.Shelf.Ren:=⟨fun|112=>176|n=>n,fun|28=>22|3=>3|4=>4|0=>0|n=>n,fun|n=>n⟩
theorem Tryz.lays112:Go.Proofs.Lays.n112 Tryz.prog Tryz.lays112_ren:={
 mixed:=by kernel_rfl
 f112:=Tryz.func176.trans (congrArg some (by kernel_rfl))
 t0:=Tryz.underlying0
 a0:=Tryz.isAgg0
 z0:=Tryz.sizeOf0
 v0:=Tryz.zeroValue0
 t3:=Tryz.underlying3
 a3:=Tryz.isAgg3
 z3:=Tryz.sizeOf3
 v3:=Tryz.zeroValue3
 t4:=Tryz.underlying4
 a4:=Tryz.isAgg4
 z4:=Tryz.sizeOf4
 v4:=Tryz.zeroValue4
 t28:=Tryz.underlying22
 a28:=Tryz.isAgg22
 z28:=Tryz.sizeOf22
 v28:=Tryz.zeroValue22 }
theorem Tryz.slices_Reverse_int_cells (b off n c:Nat) (zs:List Int) (w:World) (hz:n<=zs.length) (hbig:n<=9223372036854775807) (hc:∀ j,j<zs.length->w.cell? ⟨b,off+j,none⟩=some (.int .i64 (zs.getD j 0))) (hf:∀ j,j<n->w.frozen? ⟨b,off+j,none⟩=false) :
 Calls Tryz.prog 176 #[.slice (some ⟨b,off,none⟩) n c] w fun e w'=>e=.returned (.tuple #[])/\∃ q,w'=(w.drewN q).setCells b off ((zs.take n).reverse.map (Value.int .i64)):=Any.slices_Reverse_int_cells Tryz.lays112 b off n c zs w hz hbig hc hf
end Go.Proofs
namespace Go.Proofs.YtlgogjbkadckkaaGreat
open Go.RowKit
theorem Zlf {B g:Nat} {a:World} (hg:B<=g) (ys:List Value):∀ (w:World) (o:Nat),Below B a w->Below B a (w.setCells g o ys):=by
 induction ys with
 | nil=>intro w o h;exact h
 | cons y ys ih=>intro w o h;exact ih _ _ (h.setCell hg _)
theorem OwnI.setCells {base g n c:Nat} (ys:List Int):∀ (w:World) (o:Nat) (zs:List Int),OwnI w base (.slice (some ⟨g,0,none⟩) n c) zs->o+ys.length<=zs.length ->
 OwnI (w.setCells g o (Za7 ys)) base (.slice (some ⟨g,0,none⟩) n c) (zs.take o++ys++zs.drop (o+ys.length)):=by
 induction ys with
 | nil=>intro w o zs h _;simpa [Za7,World.setCells] using h
 | cons y ys ih =>
   intro w o zs h hl;simp only[List.length_cons] at hl;have h1:=ih (w.setCell ⟨g,o,none⟩ (.int .i64 y)) (o+1) (zs.set o y) (h.stored o y) (by simp;omega);have e:(zs.set o y).take (o+1)++ys++(zs.set o y).drop (o+1+ys.length)=zs.take o++(y::ys)++zs.drop (o+(y::ys).length):=by
    have e1:(zs.set o y).take (o+1)=zs.take o++[y]:=by
     rw[List.set_eq_take_append_cons_drop,if_pos (by omega),List.take_append];simp;have:min o zs.length=o:=by omega
     rw[this];simp
     exact List.take_of_length_le (by simp;omega)
    have e2:(zs.set o y).drop (o+1+ys.length)=zs.drop (o+1+ys.length):=by
     rw[List.drop_set];rw[if_pos (by omega)]
    rw[e1,e2];simp[Nat.add_assoc,Nat.add_comm 1 ys.length]
   rw[e] at h1;exact h1
theorem Zp1 (a:Option Addr) (c:Nat) (zs:List Int) (w:World) (h:Zay w a zs) (hlen:zs.length<1000000) :
 Calls Tryz.prog 161 #[.slice a zs.length c] w fun e w'=>∃ v,e=.returned v/\SliceIs w' v zs.reverse/\Below w.heap.size w w':=by
 have HI:=Hd h;clear h
 go_enter Tryz.func161,Tryz.ntmps161
 go_wp2_with fail;refine(Zov _ _ zs _ HI.out hlen).mono ?_;rintro e w1 ⟨g,rfl,hown,hbel⟩;have hg:w.heap.size<=g:=(hown.lt g rfl).1;go_wp2_with fail;refine(Tryz.slices_Reverse_int_cells g 0 zs.length zs.length zs w1 (Nat.le_refl _) (by omega) (fun j hj=>by rw[Nat.zero_add];exact hown.cell j hj) (fun j hj=>by rw[Nat.zero_add];exact hown.frozen j)).mono ?_;rintro e w2 ⟨rfl,q,hw2⟩;have h2:=OwnI.setCells zs.reverse (w1.drewN q) 0 zs (hown.drewN q) (by simp);have e:zs.drop (0+zs.reverse.length)=[]:=List.drop_of_length_le (by simp);rw[e,List.take_zero,List.nil_append,List.append_nil] at h2;have hb2:Below w.heap.size w ((w1.drewN q).setCells g 0 (Za7 zs.reverse)):=Zlf hg _ _ _ (Zbi hbel _);rw[List.take_length] at hw2
 change w2=(w1.drewN q).setCells g 0 (Za7 zs.reverse) at hw2
 rw[<- hw2] at h2 hb2;clear hw2;go_wp2_with fail;go_ret;exact⟨_,rfl,h2.sliceIs (by simp;omega),hb2⟩
open Go.RowKit
abbrev KF:Law:=fun _ _ _ _ _ _ _=>False
section
variable {K:Law} {n:Nat} {Od:List Nat->Prop} {room:Nat} {w0 w w':World} {mb:Nat} {fs:List (Int×BF)} {nx:Int} {o o':Own} {m m':ManD} {V V':Nat->BF}
theorem SatE.full (h:SatE KF n Od room w0 mb fs nx w o m V):SatE K n Od room w0 mb fs nx w o m V:=by
 obtain⟨s,hs⟩:=h.is;exact⟨⟨s,hs.mono fun _ _ _ _ _ e=>e.elim⟩,h.lt,h.ok,h.vars,h.od,h.room,h.next,h.hs,h.chg⟩
theorem SatE.cleared {s:ManW} {w1:World} (h:SatE K n Od room w0 mb fs nx w o m V) (g1:Zbz (fun _ _ _ _ _=>False) o w1 mb m s) (g2:Chg (· = .entries) o o w w1) (g3:Zai o w1):SatE KF n Od room w0 mb fs nx w1 o m V :=
 ⟨⟨s,g1⟩,g3,h.ok,h.vars,h.od,h.room,h.next,h.hs,h.chg.lower (ChgX.of_chg g2.any NoB) (fun _ e=>e.elim)⟩
structure HapS (n room:Nat) (w0:World) (mb:Nat) (fs:List (Int×BF)) (nx:Int) (o:Own) (w:World) (m:ManD) (o':Own) (w':World) (m':ManD) (V':Nat->BF):Prop where
 sat:SatE KF n (fun _=>True) room w0 mb fs nx w' o' m' V'
 waits:m'.waits=m.waits
 calls:m'.calls=m.calls
 chg:Chg (fun _=>True) o o' w w'
 many:m'.d.pool.many<=m.d.pool.many\/m'.d.pool.many<=fs.length*2^n
theorem HapS.trans {o'':Own} {w'':World} {m'':ManD} {V'':Nat->BF} (h:HapS n room w0 mb fs nx o w m o' w' m' V') (h':HapS n room w0 mb fs nx o' w' m' o'' w'' m'' V''):HapS n room w0 mb fs nx o w m o'' w'' m'' V'' :=
 ⟨h'.sat,h'.waits.trans h.waits,h'.calls.trans h.calls,h.chg.trans h'.chg,by
  rcases h'.many with h1|h1
  ·
   exact h.many.imp (fun h2=>Nat.le_trans h1 h2) (fun h2=>Nat.le_trans h1 h2)
  ·
   exact .inr h1⟩
theorem Zwp {s:ManW} (h:SatE KF n (fun _=>True) room w0 mb fs nx w o m V) (hs:Zbz (fun _ _ _ _ _=>False) o w mb m s) (hn:nx<=549755813888) (z:Int) :
 Calls Tryz.prog 127 #[.pointer (some ⟨s.sb,0,none⟩),.int .i64 z] w fun e w'=>∃ q:Int,e=.returned (.int .i64 q)/\∃ o' m' V',HapS n room w0 mb fs nx o w m o' w' m' V':=by
 by_cases hz:z<0\/(n:Int)-1<=z
 ·
  refine(Zoc hs.store h.ok.store.small z (by rw[h.vars];exact hz)).mono ?_;rintro e w' ⟨rfl,rfl⟩;exact⟨2,rfl,o,m,V,h,rfl,rfl,Chg.refl _ _ _,.inl (Nat.le_refl _)⟩
 ·
  obtain⟨k,rfl⟩:∃ k:Nat,z=k:=⟨z.toNat,by omega⟩;refine(Ycj h hs (Chg.refl _ _ _) h.lt (by omega) hn).mono ?_;rintro e w' ⟨o',m',V',hm⟩;obtain⟨d0,cr,hw⟩:=hm.way;rcases hw with ⟨e1,e2,_⟩|⟨e1,so⟩
  ·
   exact⟨7,e1,o',m',V',hm.sat,hm.waits,hm.calls,hm.chg,.inr (hm.sat.few (by rw[e2];exact cr.dead))⟩
  ·
   exact⟨0,e1,o',m',V',hm.sat,hm.waits,hm.calls,hm.chg,.inr (hm.sat.few so.dead)⟩
theorem Zub {s:ManW} (h:SatE KF n (fun _=>True) room w0 mb fs nx w o m V) (hs:Zbz (fun _ _ _ _ _=>False) o w mb m s) :
 Calls Tryz.prog 65 #[.pointer (some ⟨s.sb,0,none⟩)] w fun e w'=>∃ q:Int,e=.returned (.int .i64 q)/\∃ o' m' V',HapS n room w0 mb fs nx o w m o' w' m' V':=by
 refine(Zha hs.store h.lt h.ok.store).mono ?_;rintro e w' ⟨rfl,o',d',st,lt,cr,ch⟩;have hst:SatE KF n (fun _=>True) room w0 mb fs nx w' o' { m with d:=d' } V:=⟨⟨s,hs.setStore h.lt st ch⟩,lt,⟨cr.ok h.ok.store,Zf3 h.ok.handles h.ok.store cr⟩,by dsimp only;rw[cr.vars];exact h.vars,trivial,by dsimp only;rw[cr.room];exact h.room,h.next,h.hs,h.chg.lower (ChgX.of_chg ch.any NoB) (fun _ e=>e.elim)⟩;exact⟨_,rfl,o',{ m with d:=d' },V,hst,rfl,rfl,ch.any,.inr (hst.few cr.dead)⟩
theorem Zro {base:Nat} {v:Value} {zs:List Int} (h:OwnI w base v zs):zs.length<=9223372036854775807:=by
 rcases h.2 with ⟨_,h0⟩|⟨g,cap,cur,_,_,_,h1,h2,_⟩
 ·
  omega
 ·
  unfold maxLen at h2;omega
theorem Zay.chg {R:Role->Prop} {a:Option Addr} {zs:List Int} (h:Zay w a zs) (hc:Chg R o o' w w') (hn:∀ x,a=some x->o x.block=none):Zay w' a zs :=
 ⟨h.len,fun k hk=>by
  obtain⟨b,off,rfl,hc1⟩:=h.cells k hk;exact⟨b,off,rfl,hc.cell (p:=⟨b,off+k,none⟩) hc1 (hn ⟨b,off,none⟩ rfl)⟩⟩
theorem Zl7 (hn:nx<=549755813888) (ev:Ev):HapG K n (fun _=>True) room w0 mb fs nx ev:=by
 intro o W m V h;obtain⟨P,hP⟩:∃ P:Ending->World->Prop,P=fun x w'=>x=.returned (.tuple #[]) /\
  ∃ o' m' V',SatE K n (fun _=>True) room w0 mb fs nx w' o' m' V'/\m'.waits=m.waits/\m'.calls=m.calls/\(m'.d.pool.many<=m.d.pool.many\/m'.d.pool.many<=fs.length*2^n)/\ChgX NoB o o' W w':=⟨_,rfl⟩
 rw[<- hP];obtain⟨W1,hW1⟩:∃ W1,W1=W.alloc (.cells #[.int .i64 ev.after,.int .i64 ev.kind,.int .i64 ev.level] 73):=⟨_,rfl⟩;have hb1:Below W.heap.size W W1:=by rw[hW1];exact Zaf W _
 obtain⟨bx,hbx⟩:∃ q,q=W.heap.size:=⟨_,rfl⟩;have HB1:Hid (Box o W1 bx (.cells #[.int .i64 ev.after,.int .i64 ev.kind,.int .i64 ev.level] 73 (0,0))):=Hd ⟨by rw[hW1,hbx];exact heap_alloc_new W _,h.lt.none (by rw[hbx];exact Nat.le_refl _)⟩;have h1:=h.below hb1
 have HP:Hid (∀ o' w' m' V',HapS n room w0 mb fs nx o W1 m o' w' m' V'->P (.returned (.tuple #[])) w'):=Hd (by
  intro o' w' m' V' hh;rw[hP];exact⟨rfl,o',m',V',hh.sat.full,hh.waits,hh.calls,hh.many,(ChgX.of_below hb1 o NoB).trans (ChgX.of_chg hh.chg NoB) (fun _ _ e=>e)⟩)
 obtain⟨s,hs⟩:=h1.is;obtain⟨c0,c1,c2,c3,c4,c5,f0⟩:=cells6 hs.blk;have HCL:=Hd (wclear h1 hs (fun _ _ _ _ _=>False));have H1:=Hd h1;obtain⟨kd,hkd⟩:∃ z,z=ev.kind:=⟨_,rfl⟩;obtain⟨lv,hlv⟩:∃ z,z=ev.level:=⟨_,rfl⟩;obtain⟨af,haf⟩:∃ z,z=ev.after:=⟨_,rfl⟩;have HN:=Hd hn;unfold evA;rw[<- hkd,<- hlv,<- haf] at HB1 hW1 ⊢;have HW:=Hd hW1;have HX:=Hd hbx;clear h h1 hs hP hb1 hbx hkd hlv haf hn hW1
 go_enter Tryz.func129,Tryz.ntmps129
 go_upto_region 1 with fail;rw[<- HW.out,<- HX.out];go_wp2_with fail;refine HCL.out.mono ?_;rintro x w1 ⟨rfl,g1,g2,g3⟩;have HS1:=Hd (H1.out.cleared g1 g2 g3);have HB2:=Hd (HB1.out.chg g2);have HG:=Hd g1;have HCH:Hid (Chg (fun _=>True) o o W1 w1):=Hd g2.any;have b1:w1.cell? ⟨bx,1,none⟩=some (.int .i64 kd):=HB2.out.cell 1;have b2:w1.cell? ⟨bx,2,none⟩=some (.int .i64 lv):=HB2.out.cell 2;clear c0 c1 c2 c3 c4 c5 f0 HCL g1 g2 g3;obtain⟨c0,c1,c2,c3,c4,c5,f0⟩:=cells6 HG.out.blk
 by_cases k1:kd=1
 ·
  subst k1;have HC:=Hd (Zub HS1.out HG.out);go_wp2_with fail;refine HC.out.mono ?_;rintro x w2 ⟨q,rfl,o',m',V',hh⟩;have HF:=Hd (HP.out o' w2 m' V' ⟨hh.sat,hh.waits,hh.calls,HCH.out.trans hh.chg,hh.many⟩);clear hh;go_wp2_with fail;refine bodyPost_end (results_none rfl _ _ _) rfl ?_;exact HF.out
 ·
  have e1:(kd == 1)=false:=by simp[k1]
  by_cases k2:kd=2
  ·
   subst k2;clear k1 e1;have HC:=Hd (Zwp (HS1.out.below (Zah w1 1)) (HG.out.below HS1.out.lt (Zah w1 1)) HN.out lv);go_upto_region 13 with fail;refine Zan (fun W:World=>W=w1.drew) true 6 [(0,false),(1,false),(2,false),(3,false),(4,false),(5,false),(6,true)] (by kernel_rfl) (by kernel_rfl) rfl ?_;simp only[planned,Zd8]
   iterate 6
    refine Zap rfl ?_;apply Exists.intro;refine⟨fun w' hw=>?_,?_⟩
    ·
     subst hw;go_simp;rfl
    simp only[Zag]
   refine Zc5 rfl (by go_simp) (HC.out.mono (R':=fun e w'=>∃ v,e=.returned v/\∃ o' m' V',HapS n room w0 mb fs nx o w1.drew m o' w' m' V') (fun e w' h=>by obtain⟨q,e1,h2⟩:=h;exact⟨_,e1,h2⟩)) ?_;rintro v w2 ⟨o',m',V',hh⟩;simp only[Zag];refine Zbx ?_;have HF:=Hd (HP.out o' w2 m' V' ⟨hh.sat,hh.waits,hh.calls,HCH.out.trans ((Chg.of_below (Zah w1 1) _ _).trans hh.chg),hh.many⟩);clear hh;go_wp2_with fail;refine bodyPost_end (results_none rfl _ _ _) rfl ?_;exact HF.out
  ·
   have e2:(kd == 2)=false:=by simp[k2]
   clear k1 k2;have hvl:m.d.vars.length<=64:=HS1.out.ok.store.small;have HO:=Hd (Zlr HG.out.store HS1.out.lt hvl);go_wp2_with fail;refine HO.out.mono ?_;rintro x w2 ⟨v,rfl,hown,hb2⟩;obtain⟨zs,hzs⟩:∃ zs,zs=m.d.vars.map Int.ofNat:=⟨_,rfl⟩;have hzl:zs.length<=64:=by rw[hzs,List.length_map];exact hvl
   rw[<- hzs] at hown;obtain⟨a,c,rfl,ha,hna⟩:=hown.sliceIs (by omega);have HT:=Hd (Zp1 a c zs w2 ha (by omega));have HSL:Hid (SliceIs w2 (.slice a zs.length c) zs):=Hd ⟨a,c,rfl,ha,hna⟩;have HB22:=Hd hb2;have HZL:=Hd hzl;clear hown hb2 hzs ha hna hvl c0 c1 c2 c3 c4 c5 f0 b1 b2 HO;go_wp2_with fail;refine HT.out.mono ?_;rintro x w3 ⟨vt,rfl,hst,hb3⟩;obtain⟨at',ct',hvt,q1,q2⟩:=hst;rw[List.length_reverse] at hvt;subst hvt;have HST:=Hd (Znw (.slice a zs.length c) (.slice at' zs.length ct') zs zs.reverse w3 (HSL.out.below hb3) ⟨at',ct',by rw[List.length_reverse],q1,q2⟩ (by omega) (by simp;omega));have HB3:=Hd hb3;clear hb3 HT q1 q2;go_wp2_with fail;refine HST.out.mono ?_;rintro x w4 ⟨vr,rfl,hor,hb4⟩;obtain⟨rs,hrs⟩:∃ rs,rs=Zeb zs zs.reverse:=⟨_,rfl⟩;obtain⟨er,her⟩:∃ z,z=Zdf zs zs.reverse:=⟨_,rfl⟩;rw[<- hrs] at hor;rw[<- her];have hbx:Below w1.heap.size w1 w4:=HB22.out.trans ((HB3.out.trans (hb4.mono HB3.out.size)).mono HB22.out.size);have hlow:=hor.lt;have hrl:rs.length<=9223372036854775807:=Zro hor;obtain⟨ar,cr,rfl,hi,_⟩:=hor.sliceIs hrl
   have HI0:Hid (∃ o' m' V',HapS n room w0 mb fs nx o w1 m o' w4 m' V'/\Zay w4 ar rs/\(∀ x,ar=some x->o' x.block=none)):=Hd ⟨o,m,V,(⟨HS1.out.below hbx,rfl,rfl,Chg.of_below hbx _ _,.inl (Nat.le_refl _)⟩:HapS n room w0 mb fs nx o w1 m o w4 m V),hi,fun x hx=>by
    subst hx;refine HS1.out.lt.none ?_;have h1:=(hlow _ rfl).1;have h2:=HB22.out.size;have h3:=HB3.out.size;omega⟩
   clear her hrs hor hb4 hbx hlow hi HST;go_wp2_with fail
   go_loopw [30] (fun s30 wr=>∃ j:Nat,j<=rs.length/\s30=.int .i64 j/\Hid (∃ o' m' V',HapS n room w0 mb fs nx o w1 m o' wr m' V'/\Zay wr ar rs/\(∀ x,ar=some x->o' x.block=none))) (fun s30 _=>rs.length-(intOf s30).toNat)
   case atStart=>exact⟨0,Nat.zero_le _,rfl,HI0⟩
   case round =>
    obtain⟨j,hj,rfl,HH⟩:=hrel;obtain⟨oj,mj,Vj,hh,hi,hno⟩:=HH.out
    by_cases hlt:j<rs.length
    ·
     obtain⟨b,off,rfl,hcell⟩:=hi.cells j hlt;obtain⟨s',hs'⟩:=hh.sat.is;obtain⟨c0,c1,c2,c3,c4,c5,f0⟩:=cells6 hs'.blk;have hjz:(j:Int)<rs.length:=by omega
     obtain⟨z,hz⟩:∃ z,z=at0 rs j:=⟨_,rfl⟩;rw[<- hz] at hcell;have HC:=Hd (Zwp hh.sat hs' HN.out z);have HHJ:=Hd hh;have HIJ:=Hd hi;have HNO:=Hd hno;have hblt:b<wr.heap.size:=Zab hcell;have HBL:=Hd hblt;have HJL:=Hd hlt;clear hh hi hno hs' HH HI0 hz hblt;go_wp2_with fail;refine HC.out.mono ?_;rintro x w5 ⟨q,rfl,o5,m5,V5,h5⟩;have HNX:=Hd (And.intro (HHJ.out.trans h5) (And.intro (HIJ.out.chg h5.chg HNO.out) (fun x (hx:some _=some x)=>h5.chg.alien' (by cases hx;exact HBL.out) (HNO.out x hx))));clear h5 c0 c1 c2 c3 c4 c5 f0 hcell;go_wp2_with fail;go_roundw
     case rel=>exact⟨j+1,Nat.succ_le_of_lt HJL.out,by go_num,Hd ⟨_,_,_,HNX.out.1,HNX.out.2.1,HNX.out.2.2⟩⟩
     case measure =>
      have:=HJL.out;simp[intOf];omega
    ·
     obtain rfl:j=rs.length:=by omega
     have HF:=Hd (HP.out oj wr mj Vj ⟨hh.sat,hh.waits,hh.calls,HCH.out.trans hh.chg,hh.many⟩);clear hh hi hno HH HI0;go_wp2_with fail;refine bodyPost_end (results_none rfl _ _ _) rfl ?_;exact HF.out
end
open Go.RowKit
section
variable {K:Law} {n:Nat} {Od:List Nat->Prop} {room:Nat} {w0 w w':World} {mb:Nat} {fs:List (Int×BF)} {nx:Int} {o o':Own} {m m':ManD} {V V':Nat->BF}
structure NewH (K:Law) (n:Nat) (Od:List Nat->Prop) (room:Nat) (w0:World) (mb:Nat) (fs:List (Int×BF)) (nx:Int) (o:Own) (w:World) (m:ManD) (V:Nat->BF) (F:BF) (o':Own) (w':World) (m':ManD):Prop where
 sat:SatE K n Od room w0 mb (fs++[(nx,F)]) (nx+1) w' o' m' V
 waits:m'.waits=m.waits
 calls:m'.calls=m.calls
 nodes:Zaa m'.d=Zaa m.d
 vars:m'.d.vars=m.d.vars
 many:m'.d.pool.many=m.d.pool.many
 chg:Chg (fun _=>True) o o' w w'
theorem Zrj (hK:Zc8 K) (h:SatE K n Od room w0 mb fs nx w o m V) (hn:nx<549755813888) {k:Int} {F:BF} (hk:(k,F)∈fs) :
 Calls Tryz.prog 35 #[.pointer (some ⟨mb,0,none⟩),.int .i64 k] w fun x w'=>x=.returned (.tuple #[.int .i64 nx,.int .i64 0])/\∃ o' m',NewH K n Od room w0 mb fs nx o w m V F o' w' m':=by
 obtain⟨f,hf,rfl⟩:=h.find hk;obtain⟨s,hs⟩:=h.is;obtain⟨c0,c1,c2,c3,c4,c5,f0⟩:=cells6 hs.blk;have hl:=Zht hs h.ok.handles.nodup hf;have hnx:=h.next
 have HG:=Hd (Znc hK h.is h.lt h.ok f (h.ok.handles.ok _ hf) (by rw[hnx];omega));have H:=Hd h;rw[hnx] at HG;clear hs h hf hk hnx
 go_enter Tryz.func35,Tryz.ntmps35
 go_wp2_with fail;refine HG.out.mono ?_;rintro x w1 ⟨rfl,o',m',hg⟩;have HQ:Hid (NewH K n Od room w0 mb fs nx o w m V (ef V f) o' w1 m'):=Hd ⟨H.out.gave hg,hg.waits,hg.calls,hg.nodes,hg.vars,hg.many,hg.chg⟩;clear hg;go_wp2_with fail
 go_ret2
 exact⟨rfl,_,_,HQ.out⟩
theorem Ycf {N:Nat->Option BN} {e:Nat} (h:okE N e):okE N (enot e):=by
 unfold okE at h ⊢;rw[Zdt];exact h
theorem Zum (hK:Zc8 K) (h:SatE K n Od room w0 mb fs nx w o m V) (hn:nx<549755813888) {k:Int} {F:BF} (hk:(k,F)∈fs) :
 Calls Tryz.prog 9 #[.pointer (some ⟨mb,0,none⟩),.int .i64 k] w fun x w'=>x=.returned (.tuple #[.int .i64 nx,.int .i64 0])/\∃ o' m',NewH K n Od room w0 mb fs nx o w m V (fun ρ => !F ρ) o' w' m':=by
 obtain⟨f,hf,rfl⟩:=h.find hk;obtain⟨s,hs⟩:=h.is;obtain⟨c0,c1,c2,c3,c4,c5,f0⟩:=cells6 hs.blk;have hl:=Zht hs h.ok.handles.nodup hf;have hnx:=h.next
 have hok:=h.ok.handles.ok _ hf;have hlt:f<eMax:=by
  obtain⟨s2,h2⟩:=hs.store;have:=h2.edge_lt hok;unfold eMax;omega
 have HG:=Hd (Znc hK h.is h.lt h.ok (enot f) (Ycf hok) (by rw[hnx];omega));have HNOT:=Hd (Zno f w hlt);have H:=Hd h;rw[hnx] at HG;clear hs h hf hk hnx hok hlt
 go_enter Tryz.func9,Tryz.ntmps9
 go_wp2_with fail;refine HNOT.out.mono ?_;rintro x w1 ⟨rfl,rfl⟩;go_wp2_with fail;refine HG.out.mono ?_;rintro x w1 ⟨rfl,o',m',hg⟩
 have HQ:Hid (NewH K n Od room w0 mb fs nx o w m V (fun ρ => !ef V f ρ) o' w1 m'):=Hd (by
  have e:(fun ρ => !ef V f ρ)=ef V (enot f):=by funext ρ;rw[Zfz]
  rw[e];exact⟨H.out.gave hg,hg.waits,hg.calls,hg.nodes,hg.vars,hg.many,hg.chg⟩)
 clear hg;go_wp2_with fail
 go_ret2
 exact⟨rfl,_,_,HQ.out⟩
theorem SatE.nofind (h:SatE K n Od room w0 mb fs nx w o m V) {k:Int} (hk:∀ p∈fs,p.1≠k):∀ f,(k,f)∉m.hs:=by
 intro f hf;refine hk (k,ef V f) ?_ rfl;rw[<- h.hs];exact List.mem_map.2 ⟨(k,f),hf,rfl⟩
theorem Zpu (h:SatE K n Od room w0 mb fs nx w o m V) {k:Int} {F:BF} (hk:(k,F)∈fs) :
 Calls Tryz.prog 24 #[.pointer (some ⟨mb,0,none⟩),.int .i64 k] w fun x w'=>x=.returned (.bool true)/\w=w':=by
 obtain⟨f,hf,rfl⟩:=h.find hk;obtain⟨s,hs⟩:=h.is;obtain⟨c0,c1,c2,c3,c4,c5,f0⟩:=cells6 hs.blk;have hl:=Zht hs h.ok.handles.nodup hf;clear hs h hf hk
 go_enter Tryz.func24,Tryz.ntmps24
 go_wp2_with fail;go_ret;exact⟨rfl,rfl⟩
theorem Zzj (h:SatE K n Od room w0 mb fs nx w o m V) {k:Int} (hk:∀ p∈fs,p.1≠k) :
 Calls Tryz.prog 24 #[.pointer (some ⟨mb,0,none⟩),.int .i64 k] w fun x w'=>x=.returned (.bool false)/\w=w':=by
 have hno:=h.nofind hk;obtain⟨s,hs⟩:=h.is;obtain⟨c0,c1,c2,c3,c4,c5,f0⟩:=cells6 hs.blk;have hl:=Yb9 hs hno;clear hs h hno hk
 go_enter Tryz.func24,Tryz.ntmps24
 go_wp2_with fail;go_ret;exact⟨rfl,rfl⟩
end
open Go.RowKit
def delK {α:Type} (k:Int) (l:List (Int×α)):List (Int×α):=l.filter fun p=>decide (p.1≠k)
theorem Zkd {α:Type} {k:Int} {l:List (Int×α)} (h:∀ p∈l,p.1≠k):delK k l=l:=by
 unfold delK;rw[List.filter_eq_self];intro p hp;simp[h p hp]
theorem Zfh {α:Type} {x:Int×α} {l:List (Int×α)} (h:((x::l).map Prod.fst).Nodup):∀ p∈l,p.1≠x.1:=by
 intro p hp e;rw[List.map_cons,List.nodup_cons] at h;exact h.1 (List.mem_map.2 ⟨p,hp,e⟩)
theorem Zi2 {α:Type} {x:Int×α} {l:List (Int×α)} (h:((x::l).map Prod.fst).Nodup):delK x.1 (x::l)=l:=by
 have h1:=Zkd (Zfh h);unfold delK at h1 ⊢;rw[List.filter_cons_of_neg (by simp),h1]
theorem Zi3 {α:Type} {k:Int} {x:Int×α} {l:List (Int×α)} (h:x.1≠k):delK k (x::l)=x::delK k l:=by
 unfold delK;rw[List.filter_cons_of_pos (by simp[h])]
theorem Zhn {α:Type} {k:Int}:∀ (l:List (Int×α)) (j:Nat) (hj:j<l.length),(l.map Prod.fst).Nodup->l[j].1=k->l.eraseIdx j=delK k l
 | x::l,0,_,hn,hk=>by
   have e:x.1=k:=hk;subst e;rw[Zi2 hn];rfl
 | x::l,j+1,hj,hn,hk=>by
   have hj':j<l.length:=by simpa using hj
   have hk':l[j].1=k:=by simpa using hk
   have hx:x.1≠k:=by
    intro e;exact Zfh hn l[j] (List.getElem_mem hj') (hk'.trans e.symm)
   have hn':(l.map Prod.fst).Nodup:=by rw[List.map_cons,List.nodup_cons] at hn;exact hn.2
   rw[Zi3 hx,List.eraseIdx_cons_succ,Zhn l j hj' hn' hk']
theorem Zsb {α β:Type} (k:Int) (l:List (Int×α)) (g:Int×α->Int×β) (hg:∀ p,(g p).1=p.1):(delK k l).map g=delK k (l.map g):=by
 unfold delK;rw[List.filter_map];congr 1;refine List.filter_congr fun p _=>?_
 simp[hg]
theorem Ybp {k:Int} {l:List (Int×Value)} (hn:(l.map Prod.fst).Nodup) {v:Value} (hk:(k,v)∈l):delL k l=delK k l:=by
 unfold delL;cases e:Zbw k l 0 with
 | none =>
   have h1:=Zcg hn hk;unfold getL at h1;rw[e] at h1;cases h1
 | some p =>
   obtain⟨j,u⟩:=p;have h2:=Zcn e;obtain⟨q,h3,h4⟩:=h2;have hq:j=q:=by omega
   subst hq;obtain⟨h5,h6⟩:=List.getElem?_eq_some_iff.1 h4;exact Zhn l j h5 hn (by rw[h6])
theorem Zjq {α:Type} {k:Int} {l:List (Int×α)} {p:Int×α}:p∈delK k l↔p∈l/\p.1≠k:=by
 unfold delK;rw[List.mem_filter];simp
theorem Zsw {k:Int} {f:Nat} (h1:1<k):∀ (hs:List (Int×Nat)),(hs.map Prod.fst).Nodup->(k,f)∈hs->∀ i,Zbo hs i=Zbo (delK k hs) i+(if f/2=i then 1 else 0)
 | [],_,h,_=>by cases h
 | x::l,hn,hm,i=>by
   have hn':(l.map Prod.fst).Nodup:=by rw[List.map_cons,List.nodup_cons] at hn;exact hn.2
   by_cases e:x.1=k
   ·
    have hx:x=(k,f):=by
     rcases List.mem_cons.1 hm with h|h
     ·
      exact h.symm
     ·
      exact((Zfh hn _ h) e.symm).elim
    subst hx;rw[Zi2 hn];unfold Zbo
    by_cases e2:f/2=i
    ·
     rw[List.filter_cons_of_pos (by simp[h1,e2]),List.length_cons,if_pos e2]
    ·
     rw[List.filter_cons_of_neg (by simp[e2]),if_neg e2];rfl
   ·
    have hm':(k,f)∈l:=by
     rcases List.mem_cons.1 hm with h|h
     ·
      rw[<- h] at e;exact(e rfl).elim
     ·
      exact h
    have ih:=Zsw h1 l hn' hm' i;rw[Zi3 e];unfold Zbo at ih ⊢
    by_cases e3:(decide (1<x.1)&&x.2/2 == i)=true
    ·
     rw[List.filter_cons_of_pos (p:=fun p:Int×Nat=>decide (1<p.1)&&p.2/2 == i) e3,List.filter_cons_of_pos (p:=fun p:Int×Nat=>decide (1<p.1)&&p.2/2 == i) e3,List.length_cons,List.length_cons];omega
    ·
     rw[List.filter_cons_of_neg (p:=fun p:Int×Nat=>decide (1<p.1)&&p.2/2 == i) e3,List.filter_cons_of_neg (p:=fun p:Int×Nat=>decide (1<p.1)&&p.2/2 == i) e3];exact ih
theorem Zpd {m:ManD} {d':Zac} {k:Int} {f:Nat} (h:Zbr m) (r:Zfs m.d d' f (-1)) (hk:(k,f)∈m.hs) (h1:1<k) (h0:Zaa m.d 0=none):Zbr { m with d:=d',hs:=delK k m.hs }:=by
 have hne:∀ {p:Int×Nat},p∈delK k m.hs->p∈m.hs:=fun hp=>(Zjq.1 hp).1
 refine⟨?_,Zjq.2 ⟨h.zero,by dsimp only;omega⟩,Zjq.2 ⟨h.one,by dsimp only;omega⟩,fun p hp=>h.lt p (hne hp),h.next,fun p hp=>?_,?_,fun i b hb=>?_⟩
 ·
  exact h.nodup.sublist ((List.filter_sublist).map _)
 ·
  show okE (Zaa d') p.2
  rw[r.nodes];exact h.ok p (hne hp)
 ·
  have h2:(delK k m.hs).length<=m.hs.length:=List.length_filter_le _ _;have h3:=h.len
  show ((delK k m.hs).length:Int)<=m.next
  omega
 ·
  have hb':Zaa m.d i=some b:=by
   have:Zaa d' i=some b:=hb;rw[r.nodes] at this;exact this
  have hi:i≠0:=by rintro rfl;rw[h0] at hb';cases hb'
  show Zat d' i=(Zbo (delK k m.hs) i:Int)
  rw[r.ext i hi,h.refs i b hb',Zsw h1 m.hs h.nodup hk i];unfold toE;split<;>(simp;try omega)
section
variable {K:Law} {n:Nat} {Od:List Nat->Prop} {room:Nat} {w0 w w':World} {mb:Nat} {fs:List (Int×BF)} {nx:Int} {o o':Own} {m m':ManD} {V V':Nat->BF}
theorem Zqg {sb:Nat} (h:Zaq o w sb m.d) (hlt:Zai o w) (hk:Zvd m V) {k:Int} {f:Nat} (hf:(k,f)∈m.hs) (h1:1<k) (hn:m.next<549755813888) :
 Calls Tryz.prog 79 #[.pointer (some ⟨sb,0,none⟩),.int .i64 f] w fun x w'=>x=.returned (.int .i64 0)/\∃ d',Zaq o w' sb d'/\Zai o w'/\Zfs m.d d' f (-1)/\Chg Zam o o w w':=by
 have htop:∀ y b,Zaa m.d y=some b->Zat m.d y<1099511627776:=fun y b _=>by have:=Yaw hk.handles y;omega
 have hok:=hk.handles.ok _ hf;obtain⟨s,h⟩:=h;have hlt':=h.edge_lt hok;rcases hok with h0|⟨b,hb⟩
 ·
  refine(Zln h hlt hk.store.live f (by unfold eMax;omega) h0).mono ?_;rintro e w' ⟨d',h1,h2,h3,h4,h5⟩;exact⟨h1,d',⟨s,h2⟩,h3,h4,h5⟩
 ·
  have hat:=h.pool.top;have hrm:=h.pool.room;refine(Zlm h hlt hk.store.live (Yau hk.store) f (b:=b) hb htop ?_ (fun y c hc=>?_)).mono ?_
  ·
   have h2:=hk.handles.refs (enode f) b hb;have h3:0<Zbo m.hs (f/2):=Zsx hf h1;have h4:Zat m.d (enode f)=(Zbo m.hs (f/2):Int):=h2;omega
  ·
   have h1:=hk.store.live.cnt.le hc;have h2:=htop y c hc;omega
  ·
   rintro e w' ⟨d',h1,h2,h3,h4,h5⟩;exact⟨h1,d',⟨s,h2⟩,h3,h4,h5⟩
end
open Go.RowKit
def Zgz {α:Type} (l:List (Int×α)) (ks:List Int):List (Int×α):=ks.foldl (fun l k=>if 1<k then delK k l else l) l
theorem Zl1 {α:Type} {l:List (Int×α)} {ks:List Int} {j:Nat} (hj:j<ks.length):Zgz l (ks.take (j+1))=if 1<at0 ks j then delK (at0 ks j) (Zgz l (ks.take j)) else Zgz l (ks.take j):=by
 unfold Zgz;rw[List.take_succ_eq_append_getElem hj,List.foldl_append,Zb0 hj];rfl
section
variable {K:Law} {n:Nat} {Od:List Nat->Prop} {room:Nat} {w0 w w':World} {mb:Nat} {fs:List (Int×BF)} {nx:Int} {o o':Own} {m m':ManD} {V V':Nat->BF}
structure Zje (K:Law) (n:Nat) (Od:List Nat->Prop) (room:Nat) (w0:World) (mb:Nat) (fs:List (Int×BF)) (nx:Int) (o:Own) (w:World) (m:ManD) (V:Nat->BF) (o':Own) (w':World) (m':ManD):Prop where
 sat:SatE K n Od room w0 mb fs nx w' o' m' V
 waits:m'.waits=m.waits
 calls:m'.calls=m.calls
 nodes:Zaa m'.d=Zaa m.d
 many:m'.d.pool.many=m.d.pool.many
 chg:Chg (fun _=>True) o o' w w'
theorem Zje.trans {fs' fs'':List (Int×BF)} {o'':Own} {w'':World} {m'':ManD} (h:Zje K n Od room w0 mb fs' nx o w m V o' w' m') (h':Zje K n Od room w0 mb fs'' nx o' w' m' V o'' w'' m''):Zje K n Od room w0 mb fs'' nx o w m V o'' w'' m'' :=
 ⟨h'.sat,h'.waits.trans h.waits,h'.calls.trans h.calls,h'.nodes.trans h.nodes,h'.many.trans h.many,h.chg.trans h'.chg⟩
theorem Zy6 (hK:Zc8 K) (h:SatE K n Od room w0 mb fs nx w o m V) {k:Int} {f:Nat} (hf:(k,f)∈m.hs) (h1:1<k) {s:ManW} (hs:Zbz (K m.d V) o w mb m s) {w1:World} {d':Zac} (hst:Zaq o w1 s.sb d') (hl1:Zai o w1) (hr:Zfs m.d d' f (-1)) (hc1:Chg Zam o o w w1) :
 Zbz (K m.d V) o w1 mb { m with d:=d' } s/\∃ w2,(Builtin.delete_ #[84,3] 0 #[.map (some s.hb),.int .i64 k]).run Tryz.prog w1=.ok (.tuple #[]) w2/\Zje K n Od room w0 mb (delK k fs) nx o w m V o w2 { m with d:=d',hs:=delK k m.hs }:=by
 have hM1:=hs.setStore h.lt hst hc1;refine⟨hM1,?_⟩;obtain⟨w2,hrun,hm2,hg2⟩:=hM1.map.delete kI Tryz.underlying84 k 0;refine⟨w2,hrun,?_⟩;have he:delL k (encH m.hs)=encH (delK k m.hs):=by
  rw[Ybp (Zd4 h.ok.handles.nodup) (v:=.int .i64 (f:Nat)) (List.mem_map.2 ⟨(k,f),hf,rfl⟩)];exact(Zsb k m.hs (fun p=>(p.1,Value.int .i64 (p.2:Nat))) (fun _=>rfl)).symm
 have hm3:Zaz w2 s.hb (Value.int .i64) (encH (delK k m.hs)):=by rw[<- he];exact hm2
 have hM2:=hM1.setMap hl1 hm3 hg2;have hl2:Zai o w2:=hl1.mono hg2.size;have hc2:Chg (fun _=>True) o o w w2:=hc1.any.grown hg2 (fun g hg=>by cases hg;exact⟨_,hM1.ownh,trivial⟩);refine⟨⟨⟨s,hM2.mono fun op a b c r q=>hK.same _ _ _ _ _ _ _ _ hr.vars hr.level hr.nodes q⟩,hl2,⟨hr.ok h.ok.store,Zpd h.ok.handles hr hf h1 h.ok.store.dag.none0⟩,?_,?_,?_,h.next,?_,h.chg.lower (ChgX.of_chg hc2 NoB) (fun _ e=>e.elim)⟩,rfl,rfl,hr.nodes,hr.many,hc2⟩
 ·
  show d'.vars.length=n
  rw[hr.vars];exact h.vars
 ·
  show Od d'.vars
  rw[hr.vars];exact h.od
 ·
  show d'.pool.room=room
  rw[hr.room];exact h.room
 ·
  show (delK k m.hs).map (fun p=>(p.1,ef V p.2))=delK k fs
  rw[Zsb k m.hs (fun p=>(p.1,ef V p.2)) (fun _=>rfl),h.hs]
theorem Zrk (hK:Zc8 K) (h:SatE K n Od room w0 mb fs nx w o m V) (hn:nx<549755813888) {a:Option Addr} {c:Nat} {ks:List Int} (hks:Zay w a ks) (hno:∀ x,a=some x->o x.block=none)
 (hin:∀ j,j<ks.length->∃ F,(at0 ks j,F)∈Zgz fs (ks.take j)) :
 Calls Tryz.prog 38 #[.pointer (some ⟨mb,0,none⟩),.slice a ks.length c] w fun x w'=>x=.returned (.int .i64 0)/\∃ o' m',Zje K n Od room w0 mb (Zgz fs ks) nx o w m V o' w' m':=by
 have hrl:=hks.len;have HI0:Hid (∃ o' m',Zje K n Od room w0 mb (Zgz fs (ks.take 0)) nx o w m V o' w m'/\Zay w a ks/\(∀ x,a=some x->o' x.block=none)):=Hd ⟨o,m,⟨h,rfl,rfl,rfl,rfl,Chg.refl _ _ _⟩,hks,hno⟩;have HIN:=Hd hin;have HN:=Hd hn;have HLAW:=Hd hK;clear h hn hks hno hin hK
 go_enter Tryz.func38,Tryz.ntmps38
 go_wp2_with fail
 go_loopw [13] (fun s13 wr=>∃ j:Nat,j<=ks.length/\s13=.int .i64 j/\Hid (∃ o' m',Zje K n Od room w0 mb (Zgz fs (ks.take j)) nx o w m V o' wr m'/\Zay wr a ks/\(∀ x,a=some x->o' x.block=none))) (fun s13 _=>ks.length-(intOf s13).toNat)
 case atStart=>exact⟨0,Nat.zero_le _,rfl,HI0⟩
 case round =>
  obtain⟨j,hj,rfl,HH⟩:=hrel;obtain⟨oj,mj,hh,hi,hno⟩:=HH.out
  by_cases hlt:j<ks.length
  ·
   obtain⟨b,off,rfl,hcell⟩:=hi.cells j hlt;obtain⟨s,hs⟩:=hh.sat.is;obtain⟨c0,c1,c2,c3,c4,c5,f0⟩:=cells6 hs.blk;have hjz:(j:Int)<ks.length:=by omega
   obtain⟨z,hz⟩:∃ z,z=at0 ks j:=⟨_,rfl⟩;obtain⟨F,hF⟩:=HIN.out j hlt;rw[<- hz] at hF hcell;obtain⟨f,hf,hfF⟩:=hh.sat.find hF;have hl:=Zht hs hh.sat.ok.handles.nodup hf;have HHJ:=Hd hh;have HIJ:=Hd hi;have HNO:=Hd hno;have HBL:Hid (b<wr.heap.size):=Hd (Zab hcell);have HJL:=Hd hlt;have HZ:=Hd hz;have HS:=Hd hs;have HF:=Hd hf
   by_cases h1:z>1
   ·
    have HD:=Hd (Zqg hs.store hh.sat.lt hh.sat.ok hf h1 (by rw[hh.sat.next];exact HN.out));have H1:=Hd h1;clear hh hi hno hs HH HI0 hz hF hf hfF;go_wp2_with fail;refine HD.out.mono ?_;rintro x w1 ⟨rfl,d',hst,hl1,hr,hc1⟩;obtain⟨hM1,w2,hrun,hdh⟩:=Zy6 HLAW.out HHJ.out.sat HF.out H1.out HS.out hst hl1 hr hc1;obtain⟨e0,e1,e2,e3,e4,e5,g0⟩:=cells6 hM1.blk
    have HNX:Hid (Zje K n Od room w0 mb (Zgz fs (ks.take (j+1))) nx o w m V oj w2 { mj with d:=d',hs:=delK z mj.hs }/\Zay w2 (some ⟨b,off,none⟩) ks/\(∀ x,some (⟨b,off,none⟩:Addr)=some x->oj x.block=none)):=Hd ⟨by
     rw[Zl1 HJL.out,<- HZ.out,if_pos H1.out];exact HHJ.out.trans hdh,HIJ.out.chg hdh.chg HNO.out,fun x hx=>hdh.chg.alien' (by cases hx;exact HBL.out) (HNO.out x hx)⟩
    clear hM1 hst hl1 hr hc1 hdh c0 c1 c2 c3 c4 c5 f0 hcell hl;go_wp2_with fail;go_roundw
    case rel=>exact⟨j+1,Nat.succ_le_of_lt HJL.out,by go_num,Hd ⟨_,_,HNX.out.1,HNX.out.2.1,HNX.out.2.2⟩⟩
    case measure =>
     have:=HJL.out;simp[intOf];omega
   ·
    have HNX:Hid (Zje K n Od room w0 mb (Zgz fs (ks.take (j+1))) nx o w m V oj wr mj/\Zay wr (some ⟨b,off,none⟩) ks/\(∀ x,some (⟨b,off,none⟩:Addr)=some x->oj x.block=none)):=Hd ⟨by
     rw[Zl1 HJL.out,<- HZ.out,if_neg h1];exact HHJ.out,HIJ.out,HNO.out⟩
    clear hh hi hno hs HH HI0 hz hF hf hfF;go_wp2_with fail;go_roundw
    case rel=>exact⟨j+1,Nat.succ_le_of_lt HJL.out,by go_num,Hd ⟨_,_,HNX.out.1,HNX.out.2.1,HNX.out.2.2⟩⟩
    case measure =>
     have:=HJL.out;simp[intOf];omega
  ·
   obtain rfl:j=ks.length:=by omega
   have HF:Hid (∃ o' m',Zje K n Od room w0 mb (Zgz fs ks) nx o w m V o' wr m'):=Hd ⟨oj,mj,by rw[List.take_length] at hh;exact hh⟩;clear hh hi hno HH HI0;go_wp2_with fail;go_ret;exact⟨rfl,HF.out⟩
end
open Go.RowKit
section
variable {K:Law} {n:Nat} {Od:List Nat->Prop} {room:Nat} {w0 w w':World} {mb:Nat} {fs:List (Int×BF)} {nx:Int} {o o':Own} {m m':ManD} {V V':Nat->BF}
end
open Go.RowKit
theorem Zpv {α:Type} {p:Int×α}:∀ {ks:List Int} {l:List (Int×α)},p∈l->p.1∉ks->p∈Zgz l ks
 | [],l,h,_=>h
 | k::ks,l,h,hn=>by
   show p∈Zgz (if 1<k then delK k l else l) ks
   simp only[List.mem_cons,not_or] at hn;refine Zpv ?_ hn.2;split
   ·
    exact Zjq.2 ⟨h,hn.1⟩
   ·
    exact h
theorem Zy4 {α:Type} {l r:List (Int×α)} {p:Int×α} (h:((l++p::r).map Prod.fst).Nodup):delK p.1 (l++p::r)=l++r:=by
 rw[List.map_append,List.map_cons,List.nodup_append] at h;obtain⟨h1,h2,h3⟩:=h;have hl:∀ q∈l,q.1≠p.1:=fun q hq e=>h3 q.1 (List.mem_map.2 ⟨q,hq,rfl⟩) p.1 (List.mem_cons_self ..) e
 have hr:∀ q∈r,q.1≠p.1:=fun q hq e=>(List.nodup_cons.1 h2).1 (List.mem_map.2 ⟨q,hq,e⟩)
 have e1:delK p.1 (l++p::r)=delK p.1 l++delK p.1 r:=by
  unfold delK;rw[List.filter_append,List.filter_cons];simp
 rw[e1,Zkd hl,Zkd hr]
theorem Zo4 {α:Type}:∀ (hs l r:List (Int×α)),((l++(hs++r)).map Prod.fst).Nodup->(∀ p∈hs,1<p.1)->Zgz (l++(hs++r)) (hs.map Prod.fst)=l++r
 | [],l,r,_,_=>rfl
 | p::hs,l,r,hn,h1=>by
   show Zgz (if 1<p.1 then delK p.1 (l++(p::(hs++r))) else l++(p::(hs++r))) (hs.map Prod.fst)=_
   have hn':((l++p::(hs++r)).map Prod.fst).Nodup:=hn;rw[if_pos (h1 p (List.mem_cons_self ..)),Zy4 hn'];refine Zo4 hs l r ?_ (fun q hq=>h1 q (List.mem_cons_of_mem _ hq));have:=hn;rw[List.map_append,List.nodup_append] at this ⊢;obtain⟨q1,q2,q3⟩:=this;exact⟨q1,(List.nodup_cons.1 q2).2,fun x hx y hy=>q3 x hx y (List.mem_cons_of_mem _ hy)⟩
section
variable {K:Law} {n:Nat} {Od:List Nat->Prop} {room:Nat} {w0 w w':World} {mb:Nat} {fs:List (Int×BF)} {nx:Int} {o o':Own} {m m':ManD} {V V':Nat->BF}
theorem SatE.fst (h:SatE K n Od room w0 mb fs nx w o m V):fs.map Prod.fst=m.hs.map Prod.fst:=by rw[<- h.hs,List.map_map];rfl
theorem SatE.nodup (h:SatE K n Od room w0 mb fs nx w o m V):(fs.map Prod.fst).Nodup:=by rw[h.fst];exact h.ok.handles.nodup
theorem SatE.range (h:SatE K n Od room w0 mb fs nx w o m V):∀ p∈fs,0<=p.1/\p.1<nx:=by
 intro p hp;rw[<- h.hs] at hp;obtain⟨q,hq,rfl⟩:=List.mem_map.1 hp;rw[<- h.next];exact h.ok.handles.lt q hq
structure B2 (fs:List (Int×BF)):Prop where
 zero:(0,fun _=>false)∈fs
 one:(1,fun _=>true)∈fs
theorem B2.app {fs:List (Int×BF)} (h:B2 fs) (hs:List (Int×BF)):B2 (fs++hs):=⟨List.mem_append_left _ h.zero,List.mem_append_left _ h.one⟩
theorem SatE.gt {hs:List (Int×BF)} (h:SatE K n Od room w0 mb (fs++hs) nx w o m V) (hb:B2 fs):∀ p∈hs,1<p.1:=by
 intro p hp;have h1:=(h.range p (List.mem_append_right _ hp)).1;have h2:=h.nodup;rw[List.map_append,List.nodup_append] at h2;have h3:=fun k hk=>h2.2.2 k hk p.1 (List.mem_map.2 ⟨p,hp,rfl⟩)
 have h4:=h3 0 (List.mem_map.2 ⟨_,hb.zero,rfl⟩);have h5:=h3 1 (List.mem_map.2 ⟨_,hb.one,rfl⟩);omega
theorem Zrl (hK:Zc8 K) {hs r:List (Int×BF)} (h:SatE K n Od room w0 mb (fs++(hs++r)) nx w o m V) (hb:B2 fs) (hn:nx<549755813888) {a:Option Addr} {c:Nat} (hks:Zay w a (hs.map Prod.fst)) (hno:∀ x,a=some x->o x.block=none) :
 Calls Tryz.prog 38 #[.pointer (some ⟨mb,0,none⟩),.slice a hs.length c] w fun x w'=>x=.returned (.int .i64 0)/\∃ o' m',Zje K n Od room w0 mb (fs++r) nx o w m V o' w' m':=by
 have hnd:=h.nodup;have hgt:=h.gt hb;have e:Zgz (fs++(hs++r)) (hs.map Prod.fst)=fs++r:=Zo4 hs fs r hnd (fun p hp=>hgt p (List.mem_append_left _ hp));have:=Zrk hK h hn (c:=c) hks hno fun j hj=>by
  have hj':j<hs.length:=by simpa using hj
  have e1:at0 (hs.map Prod.fst) j=hs[j].1:=by rw[Zb0 hj];simp
  refine⟨hs[j].2,?_⟩;rw[e1];refine Zpv (List.mem_append_right _ (List.mem_append_left _ (List.getElem_mem hj'))) ?_;rw[List.map_append,List.nodup_append,List.map_append,List.nodup_append] at hnd;have hh:=hnd.2.1.1;intro hc;obtain⟨i,hi,e2⟩:=List.getElem_of_mem hc;have hi2:i<j:=by simp at hi;omega
  rw[List.getElem_take] at e2;exact(List.pairwise_iff_getElem.1 hh) i j (by simp;omega) hj hi2 (by rw[e2];simp)
 rw[e,List.length_map] at this;exact this
theorem Zpz {ws0:List Ev} {lim:Option Nat} {k:Nat} {F:BF} {x:Ending} (hp:Zfv K n Od room w0 mb fs nx ws0 lim k F o w x w') (hk:k<=2^n) (hr:(fs.length+1)*2^n<=room) :
 ∃ o' m' V',ChgX NoB o o' w w'/\m'.waits <:+ ws0/\x=.returned (.tuple #[.int .i64 nx,.int .i64 0])/\SatE K n Od room w0 mb (fs++[(nx,F)]) (nx+1) w' o' m' V':=by
 obtain⟨o',m',V',h1,h2,⟨h3,_,h4⟩|⟨_,_,_,m0,⟨W,oo,VV,hs⟩,h5,h6⟩⟩:=hp
 ·
  exact⟨o',m',V',h1,h2,h3,h4⟩
 ·
  exfalso;have:=hs.few h5;rw[Nat.add_mul] at hr;omega
theorem Zmg {M k:Nat} {F:BF} {x:Ending} (hp:Zfv K n Od room w0 mb fs nx [] (some M) k F o w x w') :
 ∃ o' m' V',ChgX NoB o o' w w'/\(m'.waits=[]/\m'.d.pool.many<=M+k)/\x=.returned (.tuple #[.int .i64 nx,.int .i64 0])/\SatE K n Od room w0 mb (fs++[(nx,F)]) (nx+1) w' o' m' V':=by
 obtain⟨o',m',V',h1,h2,⟨h3,h5,h4⟩|⟨_,h,_⟩⟩:=hp
 ·
  exact⟨o',m',V',h1,⟨by simpa using h2,h5 M rfl⟩,h3,h4⟩
 ·
  cases h
end
open Go.RowKit
section
variable {K:Law} {n k k1 k2:Nat} {Od:List Nat->Prop} {room:Nat} {w0 w w' w1 w2:World} {mb:Nat} {fs:List (Int×BF)} {nx:Int} {o o' o1 o2:Own} {m m' m1 m2:ManD} {V V' V1 V2:Nat->BF} {xb:Nat}
end
open Go.RowKit
structure Zyw (T ST:TypeId) (z:Value) (b:Nat):Prop where
 under:Tryz.prog.underlying ST=some (.slice T)
 info:(Tryz.prog.info? T).map (fun i=>(i.zero,i.size,i.bytes))=some (some z,1,b)
 one:z.cells=#[z]
 small:b<=100
theorem Zra:Zyw 3 22 (.int .i64 0) 8:=⟨Tryz.underlying22,by kernel_rfl,rfl,by omega⟩
def OwnC (T:TypeId) (w:World) (base:Nat) (v:Value) (xs:List Value):Prop:=w.ownsRow base T 1 v xs.length xs
section
variable {T ST:TypeId} {z:Value} {b:Nat} {w w':World} {base:Nat} {v:Value} {xs:List Value}
theorem OwnC.alloc (h:OwnC T w base v xs) (o:Obj):OwnC T (w.alloc o) base v xs:=World.ownsRow.alloc h o
theorem OwnC.lt (h:OwnC T w base v xs):∀ k,v.ownBlock=some k->base<=k/\k<w.heap.size:=World.ownsRow.lt h
theorem OwnC.same (h:OwnC T w base v xs) (hk:∀ k,v.ownBlock=some k->w'.heap[k]?=w.heap[k]?):OwnC T w' base v xs:=by
 refine⟨h.1,?_⟩;rcases h.2 with hn|⟨g,cap,cur,rfl,hb,hgg,rest⟩
 ·
  exact .inl hn
 ·
  refine .inr ⟨g,cap,cur,rfl,hb,?_,rest⟩;rw[hk g rfl];exact hgg
theorem OwnC.shape (h:OwnC T w base v xs) (hp:0<xs.length):∃ g cap,v=.slice (some ⟨g,0,none⟩) xs.length cap/\base<=g/\g<w.heap.size:=by
 rcases h.2 with ⟨_,h0⟩|⟨g,cap,cur,hv,hg,hh,_⟩
 ·
  omega
 ·
  exact⟨g,cap,hv,hg,(Array.getElem?_eq_some_iff.1 hh).1⟩
theorem OwnC.cell {g cap n:Nat} (h:OwnC T w base (.slice (some ⟨g,0,none⟩) n cap) xs) (k:Nat) (hk:k<xs.length):w.cell? ⟨g,k,none⟩=xs[k]?:=by
 have hn:n=xs.length:=by
  rcases h.2 with ⟨hv,_⟩|⟨_,_,_,hv,_⟩
  ·
   cases hv
  ·
   cases hv;rfl
 subst hn;exact World.ownsRow.cellAt h k (by omega)
theorem Znu (T:TypeId) (w:World) (base:Nat) (hb:base<=w.heap.size):OwnC T (w.alloc (.cells #[] T)) base (.slice (some ⟨w.heap.size,0,none⟩) 0 0) [] :=
 World.ownsRow_made w #[] 0 hb (by unfold maxLen;omega) (by simp)
theorem Zhh (E:Zyw T ST z b) (wr:World) {ops:Array Oper} {rest:List Oper} {o:Oper} {a:Act} {Q:Exit->Act->World->Prop} {W:World} (hgd:o.guard=none) (s x:Operand)
 (ho:o.op=.call { callee:=.builtin .append,args:=#[s,x],argTypes:=#[ST,ST] })
 (base:Nat) (v:Value) (xs:List Value) (y:Value) (hs:a.eval s=v) {N:Nat} (hx:a.eval x=.slice (some ⟨N,0,none⟩) 1 1)
 (hW:W=wr.alloc (.cells #[y] T)) (hN:N=wr.heap.size) (hy:y.oneCell'=true)
 (hown:OwnC T wr base v xs) (hlen:xs.length<1099511627776) (hbase:base<=wr.heap.size)
 (h:∀ v' w',OwnC T w' base v' (xs++[y])->w'.os=wr.os->w'.tape=wr.tape->w'.output=wr.output->wr.heap.size<=w'.heap.size->Zft v v' wr w'->wpList Tryz.prog ops Q rest (a.put o.dst v') w') :
 wpList Tryz.prog ops Q (o::rest) a W:=by
 obtain⟨i,hi,hz,hsz,hby⟩:=info_parts E.info;subst hN;subst hW
 have hsm:=E.small;refine wpList_append_own_at (w:=wr.alloc (.cells #[y] T)) hgd s x ST ho base T i z 1 b E.under hi hz hsz hby (by rw[E.one];rfl) (by decide)
  v xs.length xs hs (hown.alloc _) ⟨wr.heap.size,0,none⟩ 1 1 [y] hx rfl (cell_one_new _ _ _) (by intro u hu;simp at hu;subst hu;exact hy) (by unfold maxLen;omega) (by
   have h1:(xs.length+1)*b<=1099511627776*100:=Nat.mul_le_mul (by omega) hsm;omega) (by simp;omega) ?_
 intro v' w' h1 h2 _ hloc;refine h v' w' ?_ h2.os h2.tape h2.output ?_ ⟨Zfq h2,hloc.imp id fun e=>⟨_,e,by simp⟩⟩
 ·
  unfold OwnC;rw[List.length_append];exact h1
 ·
  have:=h2.size;simp at this;omega
theorem Zeq (E:Zyw T ST z b) {ops:Array Oper} {rest:List Oper} {o:Oper} {a:Act} {Q:Exit->Act->World->Prop} {wr:World} (hgd:o.guard=none) (l c:Operand)
 (ho:o.op=.makeSlice ST l c) (base:Nat) (w0:World) (L:Int) (n:Nat) (hl:a.eval l=.int .i64 L) (hc:a.eval c=.int .i64 L) (hL:L=n) (hn:n<1099511627776)
 (hbase:base<=wr.heap.size) (hb:Below base w0 wr)
 (h:∀ g w',OwnC T w' base (.slice (some ⟨g,0,none⟩) n n) (List.replicate n z)->Below base w0 w'->base<=w'.heap.size->Zes none wr w'->base<=g->g=wr.heap.size ->
  wpList Tryz.prog ops Q rest (a.put o.dst (.slice (some ⟨g,0,none⟩) n n)) w') :
 wpList Tryz.prog ops Q (o::rest) a wr:=by
 obtain⟨i,hi,hz,hsz,hby⟩:=info_parts E.info;have hsm:=E.small
 refine wpList_make_full wr hgd l c ST ho base T i z 1 E.under hi hz hsz .i64 .i64 L L n hl hc hL hL (by
  have h1:i.bytes*n<=100*1099511627776:=Nat.mul_le_mul (by omega) (by omega);omega) (by unfold maxLen;omega) hbase ?_
 intro w' h1 h2;refine h wr.heap.size w' ?_ (hb.grown h2 hbase (by simp)) (by have:=h2.size;omega) (Zco h2) hbase rfl;unfold OwnC;have e1:List.replicate n z=(madeCells z.cells (n*1)).toList:=by
  rw[E.one];simp[madeCells];apply List.ext_getElem
  ·
   simp
  ·
   intro j h3 h4;simp[Nat.mod_one]
 rw[List.length_replicate,e1];exact h1
end
def Zmu (w:World) (v:Value) (bs:List Bool):Prop:=∃ a c,v=.slice a bs.length c/\Ybb w a bs/\(a=none->c=0)
theorem Zmu.same {w w':World} {v:Value} {bs:List Bool} (h:Zmu w v bs) (hk:∀ k,v.ownBlock=some k->w'.heap[k]?=w.heap[k]?):Zmu w' v bs:=by
 obtain⟨a,c,rfl,h1,h2⟩:=h;refine⟨a,c,rfl,⟨h1.len,fun k hlt=>?_⟩,h2⟩;obtain⟨g,off,rfl,hc⟩:=h1.cells k hlt;exact⟨g,off,rfl,(World.cell?_of_block (w:=w) (a:=⟨g,off+k,none⟩) (hk g rfl)).trans hc⟩
open Go.RowKit
def bitB (i v:Nat):Bool:=decide (i/2^v%2=1)
def Zet (i n:Nat):List Bool:=(List.range n).map (bitB i)
def tabB (n:Nat) (F:BF):List Bool:=(List.range (2^n)).map fun i=>F (Zeu (Zet i n))
theorem Ztb {n:Nat} {F:BF} {i:Nat} (hi:i<2^n):(tabB n F).getD i false=F (Zeu (Zet i n)):=by simp[tabB,List.getD,hi]
theorem Zt8 {i n v:Nat}:Zeu (Zet i n) v=(decide (v<n)&&bitB i v):=by
 unfold Zeu Zet
 by_cases h:v<n
 ·
  simp[List.getD,h]
 ·
  simp[List.getD,h]
open Go.RowKit
section
variable {K:Law} {n:Nat} {Od:List Nat->Prop} {room:Nat} {w0 w:World} {mb:Nat} {fs:List (Int×BF)} {nx:Int} {o:Own} {m:ManD} {V:Nat->BF}
end
section
variable {K:Law} {n:Nat} {Od:List Nat->Prop} {room:Nat} {w0 w:World} {mb:Nat} {fs:List (Int×BF)} {nx:Int} {o:Own} {m:ManD} {V:Nat->BF}
end
open Go.RowKit
structure LawL (W:World) (o:Own) (base:Nat) (vl:Value) (ks:List Int):Prop where
 own:OwnC 3 W base vl (Za7 ks)
 no:∀ k,vl.ownBlock=some k->o k=none
section
variable {W W':World} {o o':Own} {base:Nat} {vl vx v:Value} {ks:List Int} {us:List (List Bool)} {bs:List Bool}
theorem LawL.chg (h:LawL W o base vl ks) (hc:ChgX NoB o o' W W'):LawL W' o' base vl ks :=
 ⟨h.own.same fun k hk=>hc.block k (h.own.lt k hk).2 (h.no k hk) (fun e=>e),fun k hk=>hc.none' (h.own.lt k hk).2 (h.no k hk)⟩
theorem Ze1 (hb:Below W.heap.size W W') (o:Own):ChgX NoB o o W W':=ChgX.of_below hb o NoB
theorem Ydl {v':Value} (h1:W'.os=W.os) (h2:W'.tape=W.tape) (h3:W'.output=W.output) (h4:W.heap.size<=W'.heap.size) (hk:Zft v v' W W'):Wr (fun k=>v.ownBlock=some k) W W' :=
 ⟨h1,h2,h3,h4,fun k hlt hn=>hk.keep k hlt (fun e=>hn e.symm)⟩
theorem LawL.app {v':Value} {k:Int} (h:LawL W o base vl ks) (hlt:Zai o W) (hn:OwnC 3 W' base v' (Za7 ks++[.int .i64 k])) (hk:Zft vl v' W W'):LawL W' o base v' (ks++[k]):=by
 refine⟨by rw[show Za7 (ks++[k])=Za7 ks++[.int .i64 k] by simp[Za7]];exact hn,fun q hq=>?_⟩;rcases hk.loc with e|⟨g,e,hg⟩
 ·
  exact h.no q (by rw[<- e];exact hq)
 ·
  rw[e] at hq;cases hq;exact hlt.none hg
end
open Go.RowKit
def okI (z:Int):Prop:=-9223372036854775808<=z/\z<=9223372036854775807
inductive ExT where
 | nil
 | mk (op v:Int) (n:Nat) (kid:Nat->ExT)
def sumN:Nat->(Nat->Nat)->Nat
 | 0,_=>0
 | k+1,f=>sumN k f+f k
theorem Zyb {f:Nat->Nat} {j:Nat}:∀ (k:Nat),j<k->f j<=sumN k f
 | 0,h=>by omega
 | k+1,h=>by
   unfold sumN
   by_cases e:j=k
   ·
    subst e;omega
   ·
    have:=Zyb (f:=f) k (show j<k by omega);omega
def ExT.size:ExT->Nat
 | .nil=>1
 | .mk _ _ n kid=>1+sumN n fun i=>(kid i).size
theorem ExT.size_pos (e:ExT):1<=e.size:=by cases e<;>unfold ExT.size<;>omega
instance:Inhabited ExT:=⟨.nil⟩
theorem ExT.kid_size {op v:Int} {n:Nat} {kid:Nat->ExT} {i:Nat} (h:i<n):(kid i).size<(ExT.mk op v n kid).size:=by
 have h1:(kid i).size<=sumN n fun i=>(kid i).size:=Zyb (f:=fun i=>(kid i).size) n h
 show (kid i).size<1+sumN n fun i=>(kid i).size
 omega
def Za4 (w:World):ExT->Value->Prop
 | .nil,_=>False
 | .mk op v n kid,x=>∃ a c,x=.agg #[.int .i64 op,.int .i64 v,.slice a n c]/\okI op/\okI v/\n<=9223372036854775807 /\
  ∀ k,k<n->∃ b off x0 x1 x2,a=some ⟨b,off,none⟩/\w.cell? ⟨b,off+k*3,none⟩=some x0/\w.cell? ⟨b,off+k*3+1,none⟩=some x1/\w.cell? ⟨b,off+k*3+2,none⟩=some x2/\Za4 w (kid k) (.agg #[x0,x1,x2])
theorem Za4.below {w w':World} (hb:Below w.heap.size w w'):∀ (e:ExT) {x:Value},Za4 w e x->Za4 w' e x
 | .nil,_,h=>by unfold Za4 at h;exact h.elim
 | .mk op v n kid,x,h=>by
   unfold Za4 at h ⊢;obtain⟨a,c,h1,h2,h3,h4,h5⟩:=h;refine⟨a,c,h1,h2,h3,h4,fun k hk=>?_⟩;obtain⟨b,off,x0,x1,x2,rfl,c0,c1,c2,hx⟩:=h5 k hk;exact⟨b,off,x0,x1,x2,rfl,(hb.cell (p:=⟨b,off+k*3,none⟩) (Zab c0)).trans c0,(hb.cell (p:=⟨b,off+k*3+1,none⟩) (Zab c1)).trans c1,(hb.cell (p:=⟨b,off+k*3+2,none⟩) (Zab c2)).trans c2,Za4.below hb (kid k) hx⟩
theorem Zp0:∀ (e:ExT) (x:Value) (q:Nat) (w:World),q<=1000->Za4 w e x ->
 Calls Tryz.prog 27 #[x,.int .i64 q] w fun y w'=>(∃ r:Nat,y=.returned (.int .i64 r)/\1<=r/\r<=q+1/\(r<=q->r=e.size))/\Below w.heap.size w w'
 | .nil,x,q,w,hq,h=>by unfold Za4 at h;exact h.elim
 | .mk op v n kid,x,q,w,hq,h=>by
   unfold Za4 at h;obtain⟨a,c,rfl,h2,h3,h4,h5⟩:=h;have H5:=Hd h5;have HSZ:Hid ((ExT.mk op v n kid).size=1+sumN n fun i=>(kid i).size):=Hd rfl;have IH:Hid (∀ (i:Nat) (x:Value) (z:Int) (q:Nat) (W:World),z=(q:Int)->q<=1000->Za4 W (kid i) x->Calls Tryz.prog 27 #[x,.int .i64 z] W fun y w'=>(∃ r:Nat,y=.returned (.int .i64 r)/\1<=r/\r<=q+1/\(r<=q->r=(kid i).size))/\Below W.heap.size W w') :=
    Hd fun i x z q W hz h1 h2=>by subst hz;exact Zp0 (kid i) x q W h1 h2
   obtain⟨E,hE⟩:∃ E,E=ExT.mk op v n kid:=⟨_,rfl⟩;rw[<- hE] at HSZ ⊢;obtain⟨w1,hw1⟩:∃ w1,w1=w.alloc (.cells #[.int .i64 op,.int .i64 v,.slice a n c] 36):=⟨_,rfl⟩;have HW1:Hid (_=w1):=Hd hw1.symm;have HB1:Hid (Below w.heap.size w w1):=by rw[hw1];exact Hd (Zaf _ _)
   have hblk:w1.heap[w.heap.size]?=some (.cells #[.int .i64 op,.int .i64 v,.slice a n c] 36 (0,0)):=by rw[hw1];exact heap_alloc_new _ _
   have hs1:w1.heap.size=w.heap.size+1:=by rw[hw1];simp
   have d2:w1.cell? ⟨w.heap.size,2,none⟩=some (.slice a n c):=by rw[cell_of_row _ _ 2 _ _ _ hblk];rfl
   clear h5 hE hw1 hblk h2 h3
   go_enter Tryz.func27,Tryz.ntmps27
   go_upto_region 1 with fail;rw[HW1.out];go_wp2_with fail
   go_loopw [5,6] (fun s5 s6 wr=>∃ i r:Nat,i<=n/\1<=r/\i<r/\r<=q+1/\s5=.int .i64 r/\s6=.int .i64 i/\Below w1.heap.size w1 wr/\Hid (r<=q->r=1+sumN i fun i=>(kid i).size)) (fun _ s6 _=>n-(intOf s6).toNat)
   case atStart=>exact⟨0,1,by omega,by omega,by omega,by omega,rfl,rfl,Below.refl _ _,Hd fun _=>rfl⟩
   case round =>
    obtain⟨i,r,hi,hr1,hir,hr2,rfl,rfl,hbel,HR⟩:=hrel;have d2':=(hbel.cell (p:=⟨w.heap.size,2,none⟩) (Zab d2)).trans d2;have HBEL:=Hd hbel;clear hbel
    by_cases hlt:i<n
    ·
     by_cases hle:r<=q
     ·
      obtain⟨b,off,x0,x1,x2,rfl,c0,c1,c2,hx⟩:=H5.out i hlt;have hb0:=HB1.out.trans (HBEL.out.mono HB1.out.size);have e0:=(hb0.cell (p:=⟨b,off+i*3,none⟩) (Zab c0)).trans c0;have e1:=(hb0.cell (p:=⟨b,off+i*3+1,none⟩) (Zab c1)).trans c1;have e2:=(hb0.cell (p:=⟨b,off+i*3+2,none⟩) (Zab c2)).trans c2;have HX:=Hd (hx.below hb0);clear c0 c1 c2 hx hb0;have hin:(i:Int)<n:=by omega
      go_wp2_with fail;refine(IH.out i _ _ (q-r) _ (by omega) (by omega) HX.out).mono ?_;rintro y w3 ⟨⟨r2,rfl,g1,g2,g3⟩,hb3⟩;have HB3:=Hd (HBEL.out.trans (hb3.mono HBEL.out.size));have HR2:Hid (r+r2<=q->r+r2=1+sumN (i+1) fun i=>(kid i).size):=Hd fun hh=>by
       have e1:=HR.out (by omega);have e2:=g3 (by omega)
       show _=1+(sumN i (fun i=>(kid i).size)+(kid i).size)
       omega
      clear hb3 g3 e0 e1 e2;go_wp2_with fail;go_roundw
      case rel=>exact⟨i+1,r+r2,by omega,by omega,by omega,by omega,by go_num,by go_num,HB3.out,HR2⟩
      case measure=>simp[intOf];omega
     ·
      have hin:(i:Int)<n:=by omega
      have HF:Hid ((∃ r':Nat,Ending.returned (.int .i64 (r:Nat))=.returned (.int .i64 r')/\1<=r'/\r'<=q+1/\(r'<=q->r'=E.size))/\Below w.heap.size w wr) :=
       Hd ⟨⟨r,rfl,hr1,hr2,fun hh=>by omega⟩,HB1.out.trans (HBEL.out.mono HB1.out.size)⟩
      go_wp2_with fail;go_ret;exact HF.out
    ·
     have he:i=n:=by omega
     have HF:Hid ((∃ r':Nat,Ending.returned (.int .i64 (r:Nat))=.returned (.int .i64 r')/\1<=r'/\r'<=q+1/\(r'<=q->r'=E.size))/\Below w.heap.size w wr) :=
      Hd ⟨⟨r,rfl,hr1,hr2,fun hh=>by rw[HSZ.out,HR.out hh,he]⟩,HB1.out.trans (HBEL.out.mono HB1.out.size)⟩
     have hin:¬ (i:Int)<n:=by omega
     go_wp2_with fail;go_ret;exact HF.out
open Go.RowKit
theorem Zfm {f:Nat->Nat} {i:Nat}:∀ {n:Nat},i<n->sumN i f+f i<=sumN n f
 | 0,h=>by omega
 | k+1,h=>by
   rcases Nat.lt_or_ge i k with h'|h'
   ·
    have:=Zfm (f:=f) h'
    show _<=sumN k f+f k
    omega
   ·
    obtain rfl:i=k:=by omega
    exact Nat.le_refl _
def Zeh (op:Int):Int×Int :=
 if op=1\/op=2\/op=3 then (0,0) else if op=4 then (1,1) else if op=5\/op=6\/op=7 then (0,64) else if op=8\/op=9 then (2,2) else if op=10 then (3,3) else (-1,-1)
def okT:ExT->Nat->Prop
 | .nil,_=>False
 | .mk op v n kid,deep=>deep<=64/\0<=(Zeh op).1/\(op=3->0<=v/\v<64)/\(op≠3->v=0)/\(Zeh op).1<=n/\(n:Int)<=(Zeh op).2/\∀ i,i<n->okT (kid i) (deep+1)
def Ztj:ExT->Prop
 | .nil=>False
 | .mk op v n kid=>0<=(Zeh op).1/\(op=3->0<=v/\v<64)/\(op≠3->v=0)/\(Zeh op).1<=n/\(n:Int)<=(Zeh op).2/\∀ i,i<n->Ztj (kid i)
theorem okT.valid:∀ {e:ExT} {deep:Nat},okT e deep->Ztj e
 | .nil,_,h=>h.elim
 | .mk op v n kid,deep,h=>by
   obtain⟨_,h1,h2,h3,h4,h5,h6⟩:=h;exact⟨h1,h2,h3,h4,h5,fun i hi=>(h6 i hi).valid⟩
theorem Zuh (op:Int) (w:World):Calls Tryz.prog 112 #[.int .i64 op] w fun y w'=>y=.returned (.tuple #[.int .i64 (Zeh op).1,.int .i64 (Zeh op).2])/\w=w':=by
 obtain⟨p,hp⟩:∃ p,p=Zeh op:=⟨_,rfl⟩;rw[<- hp];unfold Zeh at hp;rcases(by omega:op=1\/op=2\/op=3\/op=4\/op=5\/op=6\/op=7\/op=8\/op=9\/op=10\/(op<1\/10<op)) with rfl|rfl|rfl|rfl|rfl|rfl|rfl|rfl|rfl|rfl|h
 all_goals
  first
  | (simp at hp
     subst hp
     go_enter Tryz.func112,Tryz.ntmps112
     go_wp2_with fail
     go_ret2
     exact⟨rfl,rfl⟩)
  | (have h1 : (op == 1) = false := by simp; omega
     have h2:(op == 2)=false:=by simp;omega
     have h3:(op == 3)=false:=by simp;omega
     have h4:(op == 4)=false:=by simp;omega
     have h5:(op == 5)=false:=by simp;omega
     have h6:(op == 6)=false:=by simp;omega
     have h7:(op == 7)=false:=by simp;omega
     have h8:(op == 8)=false:=by simp;omega
     have h9:(op == 9)=false:=by simp;omega
     have h10:(op == 10)=false:=by simp;omega
     rw[if_neg (by omega),if_neg (by omega),if_neg (by omega),if_neg (by omega),if_neg (by omega)] at hp;subst hp;clear h
     go_enter Tryz.func112,Tryz.ntmps112
     go_wp2_with fail
     go_ret2
     exact⟨rfl,rfl⟩)
def Zez (e:ExT) (deep parts:Nat) (w:World) (y:Ending) (w':World):Prop:=∃ err m:Int,y=.returned (.tuple #[.int .i64 err,.int .i64 m])/\okI m/\(err=0↔okT e deep)/\(err=0->m=(parts+e.size:Nat))/\Below w.heap.size w w'
theorem Zou:∀ (e:ExT) (x:Value) (deep parts:Nat) (w:World),deep<=65->parts+e.size<=4096->Za4 w e x ->
 Calls Tryz.prog 66 #[x,.int .i64 deep,.int .i64 parts] w (Zez e deep parts w)
 | .nil,x,deep,parts,w,hd,hp,h=>by unfold Za4 at h;exact h.elim
 | .mk op v n kid,x,deep,parts,w,hd,hp,h=>by
   unfold Za4 at h;obtain⟨a,c,rfl,h2,h3,h4,h5⟩:=h;have H5:=Hd h5;have HSZ:Hid ((ExT.mk op v n kid).size=1+sumN n fun i=>(kid i).size):=Hd rfl;have HKS:Hid (∀ i,i<n->(kid i).size<(ExT.mk op v n kid).size):=Hd fun i hi=>ExT.kid_size hi
   have HV:Hid (∀ l hh:Int,l=(Zeh op).1->hh=(Zeh op).2->(okT (ExT.mk op v n kid) deep↔deep<=64/\0<=l/\(op=3->0<=v/\v<64)/\(op≠3->v=0)/\l<=n/\(n:Int)<=hh/\∀ i,i<n->okT (kid i) (deep+1))):=by
    refine Hd ?_;rintro l hh rfl rfl;exact Iff.rfl
   have IH:Hid (∀ (i:Nat) (x:Value) (z1 z2:Int) (deep parts:Nat) (W:World),z1=(deep:Int)->z2=(parts:Int)->deep<=65->parts+(kid i).size<=4096->Za4 W (kid i) x->Calls Tryz.prog 66 #[x,.int .i64 z1,.int .i64 z2] W (Zez (kid i) deep parts W)) :=
    Hd fun i x z1 z2 deep parts W e1 e2 h1 h2 h3=>by subst e1;subst e2;exact Zou (kid i) x deep parts W h1 h2 h3
   have HK:=Hd (fun W=>Zuh op W);obtain⟨E,hE⟩:∃ E,E=ExT.mk op v n kid:=⟨_,rfl⟩;have hpos:1<=E.size:=E.size_pos;rw[<- hE] at HSZ hp HV HKS ⊢;obtain⟨l,hl⟩:∃ l,l=(Zeh op).1:=⟨_,rfl⟩;obtain⟨hi,hhi⟩:∃ hi,hi=(Zeh op).2:=⟨_,rfl⟩;rw[<- hl,<- hhi] at HK;have HVV:=Hd (HV.out l hi hl hhi);obtain⟨w1,hw1⟩:∃ w1,w1=w.alloc (.cells #[.int .i64 op,.int .i64 v,.slice a n c] 36):=⟨_,rfl⟩;have HW1:Hid (_=w1):=Hd hw1.symm;have HB1:Hid (Below w.heap.size w w1):=by rw[hw1];exact Hd (Zaf _ _)
   have hblk:w1.heap[w.heap.size]?=some (.cells #[.int .i64 op,.int .i64 v,.slice a n c] 36 (0,0)):=by rw[hw1];exact heap_alloc_new _ _
   have hs1:w1.heap.size=w.heap.size+1:=by rw[hw1];simp
   have d0:w1.cell? ⟨w.heap.size,0,none⟩=some (.int .i64 op):=by rw[cell_of_row _ _ 0 _ _ _ hblk];rfl
   have d1:w1.cell? ⟨w.heap.size,1,none⟩=some (.int .i64 v):=by rw[cell_of_row _ _ 1 _ _ _ hblk];rfl
   have d2:w1.cell? ⟨w.heap.size,2,none⟩=some (.slice a n c):=by rw[cell_of_row _ _ 2 _ _ _ hblk];rfl
   have HERR:Hid (∀ (k m:Int) (W:World),k≠0->¬ okT E deep->okI m->Below w1.heap.size w1 W->Zez E deep parts w (.returned (.tuple #[.int .i64 k,.int .i64 m])) W) :=
    Hd fun k m W hk hno hm hb=>⟨k,m,rfl,hm,⟨fun e=>(hk e).elim,fun e=>(hno e).elim⟩,fun e=>(hk e).elim,HB1.out.trans (hb.mono HB1.out.size)⟩
   unfold okI at h2 h3;clear h5 hE hw1 hblk HV hl hhi
   go_enter Tryz.func66,Tryz.ntmps66
   go_upto_region 1 with fail;rw[HW1.out]
   by_cases hdp:(deep:Int)>64
   ·
    go_wp2_with fail
    go_ret2
    exact HERR.out 17 _ _ (by decide) (fun h=>by have:=(HVV.out.1 h).1;omega) (by unfold okI;omega) (Below.refl _ _)
   go_wp2_with fail;refine(HK.out _).mono ?_;rintro y w' ⟨rfl,rfl⟩
   by_cases hl0:l<0
   ·
    go_wp2_with fail
    go_ret2
    exact HERR.out 11 _ _ (by decide) (fun h=>by have:=(HVV.out.1 h).2.1;omega) (by unfold okI;omega) (Below.refl _ _)
   have hgood:((op == 3)=true/\op=3)\/((op == 3)=false/\(op != 3)=true/\op≠3):=by
    by_cases e:op=3
    ·
     exact .inl ⟨by simp[e],e⟩
    ·
     exact .inr ⟨by simpa using e,by simpa using e,e⟩
   rcases hgood with ⟨g1,g2⟩|⟨g1,g2,g3⟩
   ·
    subst g2
    by_cases hv0:v<0
    ·
     go_wp2_with fail
     go_ret2
     exact HERR.out 9 _ _ (by decide) (fun h=>by have:=(HVV.out.1 h).2.2.1 (by trivial);omega) (by unfold okI;omega) (Below.refl _ _)
    by_cases hv1:v>=64
    ·
     go_wp2_with fail
     go_ret2
     exact HERR.out 9 _ _ (by decide) (fun h=>by have:=(HVV.out.1 h).2.2.1 (by trivial);omega) (by unfold okI;omega) (Below.refl _ _)
    have HG:Hid ((3:Int)=3->0<=v/\v<64):=Hd fun _=>⟨by omega,by omega⟩
    have HG2:Hid ((3:Int)≠3->v=0):=Hd fun e=>(e rfl).elim
    go_upto_region 9 with fail
    by_cases hnl:(n:Int)<l
    ·
     go_wp2_with fail
     go_ret2
     exact HERR.out 3 _ _ (by decide) (fun h=>by have:=(HVV.out.1 h).2.2.2.2.1;omega) (by unfold okI;omega) (Below.refl _ _)
    by_cases hnh:(n:Int)>hi
    ·
     go_wp2_with fail
     go_ret2
     exact HERR.out 3 _ _ (by decide) (fun h=>by have:=(HVV.out.1 h).2.2.2.2.2.1;omega) (by unfold okI;omega) (Below.refl _ _)
    go_wp2_with fail
    go_loopw [2,10,11,12] (fun s2 s10 s11 s12 wr=>∃ i p:Nat,i<=n/\p<=4096/\s2=.int .i64 p/\s10=.int .i64 i/\Below w1.heap.size w1 wr/\Hid (p=parts+(1+sumN i fun i=>(kid i).size))/\Hid (∀ j,j<i->okT (kid j) (deep+1))) (fun _ s10 _ _ _=>n-(intOf s10).toNat)
    case atStart=>exact⟨0,parts+1,by omega,by omega,by go_num,rfl,Below.refl _ _,Hd rfl,Hd fun j hj=>by omega⟩
    case round =>
     obtain⟨i,p,hin,hp4,rfl,rfl,hbel,HP,HVAL⟩:=hrel;have d2':=(hbel.cell (p:=⟨w.heap.size,2,none⟩) (Zab d2)).trans d2;have HBEL:=Hd hbel;clear hbel
     by_cases hlt:i<n
     ·
      obtain⟨b,off,x0,x1,x2,rfl,c0,c1,c2,hx⟩:=H5.out i hlt;have hb0:=HB1.out.trans (HBEL.out.mono HB1.out.size);have e0:=(hb0.cell (p:=⟨b,off+i*3,none⟩) (Zab c0)).trans c0;have e1:=(hb0.cell (p:=⟨b,off+i*3+1,none⟩) (Zab c1)).trans c1;have e2:=(hb0.cell (p:=⟨b,off+i*3+2,none⟩) (Zab c2)).trans c2;have HX:=Hd (hx.below hb0);have hsum:p+(kid i).size<=4096:=by
       have s1:(kid i).size+sumN i (fun i=>(kid i).size)<=sumN n fun i=>(kid i).size:=by
        have:=Zfm (f:=fun i=>(kid i).size) hlt;omega
       have s2:=HP.out;have s3:=HSZ.out;omega
      have HSUM:Hid (p+(kid i).size=parts+(1+sumN (i+1) fun i=>(kid i).size)):=Hd (by
       have s2:=HP.out
       show _=parts+(1+(sumN i (fun i=>(kid i).size)+(kid i).size))
       omega)
      have hiz:(i:Int)<n:=by omega
      clear c0 c1 c2 hx hb0;go_wp2_with fail;refine(IH.out i _ _ _ (deep+1) p _ (by go_num) rfl (by omega) hsum HX.out).mono ?_;rintro y w3 ⟨err,m,rfl,hm,hiff,hvv,hb3⟩;have HB3:=Hd (HBEL.out.trans (hb3.mono HBEL.out.size));have HVN:=Hd hvv;have HIF:=Hd hiff;clear hb3 hvv hiff e0 e1 e2;unfold okI at hm
      by_cases he0:err=0
      ·
       subst he0;have q1:=HIF.out.1 rfl;have q2:=HVN.out rfl;obtain⟨p2,hp2⟩:∃ p2,p2=p+(kid i).size:=⟨_,rfl⟩;have HVAL2:Hid (∀ j,j<i+1->okT (kid j) (deep+1)):=Hd fun j hj=>by
        rcases Nat.lt_or_ge j i with h|h
        ·
         exact HVAL.out j h
        ·
         obtain rfl:j=i:=by omega
         exact q1
       rw[<- hp2] at q2 hsum HSUM;subst q2;clear hp2 q1 HVN HIF;go_wp2_with fail;go_roundw
       case rel=>exact⟨i+1,p2,by omega,by omega,rfl,by go_num,HB3.out,HSUM,HVAL2⟩
       case measure=>simp[intOf];omega
      ·
       have hne:(err != 0)=true:=by simpa using he0
       have HF:=Hd (HERR.out err m w3 he0 (fun h=>he0 (HIF.out.2 ((HVV.out.1 h).2.2.2.2.2.2 i hlt))) hm HB3.out);clear he0 HVN HIF;go_wp2_with fail
       go_ret2
       exact HF.out
     ·
      have he:i=n:=by omega
      have hiz:¬ (i:Int)<n:=by omega
      have HF:Hid (Zez E deep parts w (.returned (.tuple #[.int .i64 0,.int .i64 (p:Nat)])) wr):=Hd ⟨0,p,rfl,by unfold okI;omega,⟨fun _=>HVV.out.2 ⟨by omega,by omega,HG.out,HG2.out,by omega,by omega,fun j hj=>HVAL.out j (by omega)⟩,fun _=>rfl⟩,fun _=>by rw[HP.out,HSZ.out,he],HB1.out.trans (HBEL.out.mono HB1.out.size)⟩;go_wp2_with fail
      go_ret2
      exact HF.out
   ·
    by_cases hv0:v=0
    ·
     have hv1:(v != 0)=false:=by simp[hv0]
     have HG:Hid (op=3->0<=v/\v<64):=Hd fun e=>(g3 e).elim
     have HG2:Hid (op≠3->v=0):=Hd fun _=>hv0
     clear hv0 g3;go_upto_region 9 with fail
     by_cases hnl:(n:Int)<l
     ·
      go_wp2_with fail
      go_ret2
      exact HERR.out 3 _ _ (by decide) (fun h=>by have:=(HVV.out.1 h).2.2.2.2.1;omega) (by unfold okI;omega) (Below.refl _ _)
     by_cases hnh:(n:Int)>hi
     ·
      go_wp2_with fail
      go_ret2
      exact HERR.out 3 _ _ (by decide) (fun h=>by have:=(HVV.out.1 h).2.2.2.2.2.1;omega) (by unfold okI;omega) (Below.refl _ _)
     go_wp2_with fail
     go_loopw [2,10,11,12] (fun s2 s10 s11 s12 wr=>∃ i p:Nat,i<=n/\p<=4096/\s2=.int .i64 p/\s10=.int .i64 i/\Below w1.heap.size w1 wr/\Hid (p=parts+(1+sumN i fun i=>(kid i).size))/\Hid (∀ j,j<i->okT (kid j) (deep+1))) (fun _ s10 _ _ _=>n-(intOf s10).toNat)
     case atStart=>exact⟨0,parts+1,by omega,by omega,by go_num,rfl,Below.refl _ _,Hd rfl,Hd fun j hj=>by omega⟩
     case round =>
      obtain⟨i,p,hin,hp4,rfl,rfl,hbel,HP,HVAL⟩:=hrel;have d2':=(hbel.cell (p:=⟨w.heap.size,2,none⟩) (Zab d2)).trans d2;have HBEL:=Hd hbel;clear hbel
      by_cases hlt:i<n
      ·
       obtain⟨b,off,x0,x1,x2,rfl,c0,c1,c2,hx⟩:=H5.out i hlt;have hb0:=HB1.out.trans (HBEL.out.mono HB1.out.size);have e0:=(hb0.cell (p:=⟨b,off+i*3,none⟩) (Zab c0)).trans c0;have e1:=(hb0.cell (p:=⟨b,off+i*3+1,none⟩) (Zab c1)).trans c1;have e2:=(hb0.cell (p:=⟨b,off+i*3+2,none⟩) (Zab c2)).trans c2;have HX:=Hd (hx.below hb0);have hsum:p+(kid i).size<=4096:=by
        have s1:(kid i).size+sumN i (fun i=>(kid i).size)<=sumN n fun i=>(kid i).size:=by
         have:=Zfm (f:=fun i=>(kid i).size) hlt;omega
        have s2:=HP.out;have s3:=HSZ.out;omega
       have HSUM:Hid (p+(kid i).size=parts+(1+sumN (i+1) fun i=>(kid i).size)):=Hd (by
        have s2:=HP.out
        show _=parts+(1+(sumN i (fun i=>(kid i).size)+(kid i).size))
        omega)
       have hiz:(i:Int)<n:=by omega
       clear c0 c1 c2 hx hb0;go_wp2_with fail;refine(IH.out i _ _ _ (deep+1) p _ (by go_num) rfl (by omega) hsum HX.out).mono ?_;rintro y w3 ⟨err,m,rfl,hm,hiff,hvv,hb3⟩;have HB3:=Hd (HBEL.out.trans (hb3.mono HBEL.out.size));have HVN:=Hd hvv;have HIF:=Hd hiff;clear hb3 hvv hiff e0 e1 e2;unfold okI at hm
       by_cases he0:err=0
       ·
        subst he0;have q1:=HIF.out.1 rfl;have q2:=HVN.out rfl;obtain⟨p2,hp2⟩:∃ p2,p2=p+(kid i).size:=⟨_,rfl⟩;have HVAL2:Hid (∀ j,j<i+1->okT (kid j) (deep+1)):=Hd fun j hj=>by
         rcases Nat.lt_or_ge j i with h|h
         ·
          exact HVAL.out j h
         ·
          obtain rfl:j=i:=by omega
          exact q1
        rw[<- hp2] at q2 hsum HSUM;subst q2;clear hp2 q1 HVN HIF;go_wp2_with fail;go_roundw
        case rel=>exact⟨i+1,p2,by omega,by omega,rfl,by go_num,HB3.out,HSUM,HVAL2⟩
        case measure=>simp[intOf];omega
       ·
        have hne:(err != 0)=true:=by simpa using he0
        have HF:=Hd (HERR.out err m w3 he0 (fun h=>he0 (HIF.out.2 ((HVV.out.1 h).2.2.2.2.2.2 i hlt))) hm HB3.out);clear he0 HVN HIF;go_wp2_with fail
        go_ret2
        exact HF.out
      ·
       have he:i=n:=by omega
       have hiz:¬ (i:Int)<n:=by omega
       have HF:Hid (Zez E deep parts w (.returned (.tuple #[.int .i64 0,.int .i64 (p:Nat)])) wr):=Hd ⟨0,p,rfl,by unfold okI;omega,⟨fun _=>HVV.out.2 ⟨by omega,by omega,HG.out,HG2.out,by omega,by omega,fun j hj=>HVAL.out j (by omega)⟩,fun _=>rfl⟩,fun _=>by rw[HP.out,HSZ.out,he],HB1.out.trans (HBEL.out.mono HB1.out.size)⟩;go_wp2_with fail
       go_ret2
       exact HF.out
    ·
     have hv1:(v != 0)=true:=by simpa using hv0
     have HNO:Hid (¬ okT E deep):=Hd fun h=>hv0 ((HVV.out.1 h).2.2.2.1 g3)
     clear hv0 g3;go_wp2_with fail
     go_ret2
     exact HERR.out 9 _ _ (by decide) HNO.out (by unfold okI;omega) (Below.refl _ _)
open Go.RowKit
theorem Zj4 (e:ExT) (x:Value) (w:World) (hs:e.size<=4096) (h:Za4 w e x) :
 Calls Tryz.prog 28 #[x] w fun y w'=>∃ err:Int,y=.returned (.int .i64 err)/\(err=0↔okT e 1)/\Below w.heap.size w w':=by
 have HC:Hid (∀ W,Below w.heap.size w W->∀ u,u=x->Calls Tryz.prog 66 #[u,.int .i64 1,.int .i64 0] W (Zez e 1 0 W)):=Hd fun W hb u hu=>by subst hu;exact Zou e _ 1 0 W (by omega) (by omega) (h.below hb)
 obtain⟨x0,x1,x2,hx⟩:∃ x0 x1 x2,x=.agg #[x0,x1,x2]:=by
  cases e with
  | nil=>unfold Za4 at h;exact h.elim
  | mk op v n kid =>
    unfold Za4 at h;obtain⟨a,c,rfl,_⟩:=h;exact⟨_,_,_,rfl⟩
 subst hx;obtain⟨w1,hw1⟩:∃ w1,w1=w.alloc (.cells #[x0,x1,x2] 36):=⟨_,rfl⟩;have HW1:Hid (_=w1):=Hd hw1.symm;have HB1:Hid (Below w.heap.size w w1):=by rw[hw1];exact Hd (Zaf _ _)
 have hblk:w1.heap[w.heap.size]?=some (.cells #[x0,x1,x2] 36 (0,0)):=by rw[hw1];exact heap_alloc_new _ _
 have d0:w1.cell? ⟨w.heap.size,0,none⟩=some x0:=by rw[cell_of_row _ _ 0 _ _ _ hblk];rfl
 have d1:w1.cell? ⟨w.heap.size,1,none⟩=some x1:=by rw[cell_of_row _ _ 1 _ _ _ hblk];rfl
 have d2:w1.cell? ⟨w.heap.size,2,none⟩=some x2:=by rw[cell_of_row _ _ 2 _ _ _ hblk];rfl
 have hone:x0.cells=#[x0]/\x1.cells=#[x1]/\x2.cells=#[x2]:=by
  cases e with
  | nil=>unfold Za4 at h;exact h.elim
  | mk op v n kid =>
    unfold Za4 at h;obtain⟨a,c,h1,_⟩:=h;cases h1;exact⟨rfl,rfl,rfl⟩
 obtain⟨o0,o1,o2⟩:=hone;clear h hw1 hblk
 go_enter Tryz.func28,Tryz.ntmps28
 go_upto_region 1 with fail;rw[HW1.out];go_wp2_with fail;refine(HC.out _ HB1.out _ rfl).mono ?_;rintro y w2 ⟨err,m,rfl,hm,hv,_,hb⟩;have HF:Hid (∃ err':Int,Ending.returned (.int .i64 err)=.returned (.int .i64 err')/\(err'=0↔okT e 1)/\Below w.heap.size w w2):=Hd ⟨err,rfl,hv,HB1.out.trans (hb.mono HB1.out.size)⟩;clear hv hb;go_wp2_with fail;go_ret;exact HF.out
def Zg0:Nat->(Nat->List Int)->List Int
 | 0,_=>[]
 | k+1,f=>Zg0 k f++f k
def Zb6:ExT->List Int
 | .nil=>[]
 | .mk op v n kid=>(if op=3 then [v] else [])++Zg0 n fun i=>Zb6 (kid i)
theorem Zho {f:Nat->List Int} {g:Nat->Nat}:∀ (n:Nat),(∀ i,i<n->(f i).length<=g i)->(Zg0 n f).length<=sumN n g
 | 0,_=>Nat.le_refl _
 | k+1,h=>by
   show (Zg0 k f++f k).length<=sumN k g+g k
   rw[List.length_append];have:=Zho (f:=f) (g:=g) k (fun i hi=>h i (by omega));have:=h k (by omega);omega
theorem Zfa:∀ e:ExT,(Zb6 e).length<=e.size
 | .nil=>by simp[Zb6]
 | .mk op v n kid=>by
   show ((if op=3 then [v] else [])++Zg0 n fun i=>Zb6 (kid i)).length<=1+sumN n fun i=>(kid i).size
   rw[List.length_append];have h1:=Zho (f:=fun i=>Zb6 (kid i)) (g:=fun i=>(kid i).size) n (fun i _=>Zfa (kid i));have h2:(if op=3 then [v] else []:List Int).length<=1:=by split<;>simp
   omega
theorem Zmr:∀ (e:ExT) (x:Value) (w:World),e.size<=4096->Za4 w e x ->
 Calls Tryz.prog 68 #[x] w fun y w'=>∃ u,y=.returned u/\OwnI w' w.heap.size u (Zb6 e)/\Below w.heap.size w w'
 | .nil,x,w,hp,h=>by unfold Za4 at h;exact h.elim
 | .mk op v n kid,x,w,hp,h=>by
   unfold Za4 at h;obtain⟨a,c,rfl,h2,h3,h4,h5⟩:=h;have H5:=Hd h5;have HSZ:Hid ((ExT.mk op v n kid).size=1+sumN n fun i=>(kid i).size):=Hd rfl;have HKS:Hid (∀ i,i<n->(kid i).size<(ExT.mk op v n kid).size):=Hd fun i hi=>ExT.kid_size hi
   have HVT:Hid (Zb6 (ExT.mk op v n kid)=(if op=3 then [v] else [])++Zg0 n fun i=>Zb6 (kid i)):=Hd rfl;have IH:Hid (∀ (i:Nat) (x:Value) (W:World),(kid i).size<=4096->Za4 W (kid i) x->Calls Tryz.prog 68 #[x] W fun y w'=>∃ u,y=.returned u/\OwnI w' W.heap.size u (Zb6 (kid i))/\Below W.heap.size W w') :=
    Hd fun i x W h1 h2=>Zmr (kid i) x W h1 h2
   obtain⟨E,hE⟩:∃ E,E=ExT.mk op v n kid:=⟨_,rfl⟩;rw[<- hE] at HSZ hp HVT HKS ⊢;obtain⟨w1,hw1⟩:∃ w1,w1=w.alloc (.cells #[.int .i64 op,.int .i64 v,.slice a n c] 36):=⟨_,rfl⟩;have HW1:Hid (_=w1):=Hd hw1.symm;have HB1:Hid (Below w.heap.size w w1):=by rw[hw1];exact Hd (Zaf _ _)
   have hblk:w1.heap[w.heap.size]?=some (.cells #[.int .i64 op,.int .i64 v,.slice a n c] 36 (0,0)):=by rw[hw1];exact heap_alloc_new _ _
   have hs1:w1.heap.size=w.heap.size+1:=by rw[hw1];simp
   have d0:w1.cell? ⟨w.heap.size,0,none⟩=some (.int .i64 op):=by rw[cell_of_row _ _ 0 _ _ _ hblk];rfl
   have d1:w1.cell? ⟨w.heap.size,1,none⟩=some (.int .i64 v):=by rw[cell_of_row _ _ 1 _ _ _ hblk];rfl
   have d2:w1.cell? ⟨w.heap.size,2,none⟩=some (.slice a n c):=by rw[cell_of_row _ _ 2 _ _ _ hblk];rfl
   unfold okI at h2 h3;obtain⟨w2,hw2⟩:∃ w2,w2=w1.alloc (.cells #[] 3):=⟨_,rfl⟩;have HW2:Hid (_=w2):=Hd hw2.symm;have HB2:Hid (Below w1.heap.size w1 w2):=by rw[hw2];exact Hd (Zaf _ _)
   have HOWN:Hid (OwnI w2 w1.heap.size (.slice (some ⟨w.heap.size+1,0,none⟩) 0 0) []):=by rw[hw2,<- hs1];exact Hd (Zjr _ _ (Nat.le_refl _))
   clear h5 hE hw1 hw2 hblk
   go_enter Tryz.func68,Tryz.ntmps68
   go_upto_region 1 with fail;rw[HW1.out];go_upto_region 2 with fail;obtain⟨Z,hZ⟩:∃ Z:List Int,Z=if op=3 then [v] else []:=⟨_,rfl⟩
   have HZ:=Hd hZ;have HZ1:Hid (Z.length<=1):=Hd (by rw[hZ];split<;>simp);rw[HW2.out];have hs2:w1.heap.size<=w2.heap.size:=HB2.out.size;have d0':=(HB2.out.cell (p:=⟨w.heap.size,0,none⟩) (Zab d0)).trans d0;have d1':=(HB2.out.cell (p:=⟨w.heap.size,1,none⟩) (Zab d1)).trans d1
   by_cases h3:op=3
   ·
    rw[if_pos h3] at hZ;subst h3;clear h2;go_wp2_with (at_builtin;refine Zcj _ rfl _ _ rfl w1.heap.size w1 _ [] _ rfl rfl rfl rfl (by exact HOWN.out) (by simp) hs2 HB2.out ?_;intro v3 w3 hown3 hb3 hs3 _)
    go_loopw [3,4] (fun s3 s4 wr=>∃ i:Nat,i<=n/\s4=.int .i64 i/\Below w1.heap.size w1 wr/\OwnI wr w1.heap.size s3 (Z++Zg0 i fun i=>Zb6 (kid i))/\w1.heap.size<=wr.heap.size) (fun _ s4 _=>n-(intOf s4).toNat)
    case atStart=>exact⟨0,Nat.zero_le _,rfl,hb3,by rw[hZ];simpa [Zg0] using hown3,hs3⟩
    case round =>
     obtain⟨i,hin,rfl,hbel,hown,hsz⟩:=hrel;have d2':=(hbel.cell (p:=⟨w.heap.size,2,none⟩) (Zab d2)).trans d2;have HBEL:=Hd hbel;have HOW:=Hd hown;clear hbel hown
     by_cases hlt:i<n
     ·
      obtain⟨b,off,x0,x1,x2,rfl,c0,c1,c2,hx⟩:=H5.out i hlt;have hb0:=HB1.out.trans (HBEL.out.mono HB1.out.size);have e0:=(hb0.cell (p:=⟨b,off+i*3,none⟩) (Zab c0)).trans c0;have e1:=(hb0.cell (p:=⟨b,off+i*3+1,none⟩) (Zab c1)).trans c1;have e2:=(hb0.cell (p:=⟨b,off+i*3+2,none⟩) (Zab c2)).trans c2;have HX:=Hd (hx.below hb0);have hiz:(i:Int)<n:=by omega
      have hk1:=HKS.out i hlt
      have HLN:Hid ((Z++Zg0 i fun i=>Zb6 (kid i)).length+(Zb6 (kid i)).length<=4096):=Hd (by
       have s1:=Zfm (f:=fun i=>(kid i).size) hlt;have s2:=HSZ.out;have s3:=Zho (f:=fun i=>Zb6 (kid i)) (g:=fun i=>(kid i).size) i (fun i _=>Zfa (kid i));have s4:=Zfa (kid i);have s5:=HZ1.out;rw[List.length_append];omega)
      clear c0 c1 c2 hx hb0;go_upto_region 7 with fail
      go_wp2_with (first
       | (go_at_call 68;refine(IH.out i _ _ (by omega) HX.out).mono ?_;rintro y w3 ⟨u,rfl,hu,hb3⟩;obtain⟨au,cu,rfl,hua,hun⟩:=hu.sliceIs (by have:=HLN.out;omega);have HU:=Hd hua;have HB3:=Hd hb3;clear hu hua hb3)
       | (at_builtin;refine Zfo rfl _ _ rfl w1.heap.size w1 _ (Z++Zg0 i fun i=>Zb6 (kid i)) (Zb6 (kid i)) au cu rfl rfl (by exact HOW.out.below HB3.out) (by exact HU.out) (by have:=HLN.out;omega) (by have:=HB3.out.size;omega) (by exact HBEL.out.trans (HB3.out.mono HBEL.out.size)) hun ?_;intro v4 w4 hown4 hb4 hs4 _))
      go_roundw
      case rel=>exact⟨i+1,by omega,by go_num,hb4,by rw[List.append_assoc] at hown4;exact hown4,hs4⟩
      case measure=>simp[intOf];omega
     ·
      have he:i=n:=by omega
      have hiz:¬ (i:Int)<n:=by omega
      have HF:Hid (∃ u,Ending.returned u3=.returned u/\OwnI wr w.heap.size u (Zb6 E)/\Below w.heap.size w wr):=Hd ⟨u3,rfl,by rw[HVT.out,<- HZ.out,<- he];exact HOW.out.lower (by omega),HB1.out.trans (HBEL.out.mono HB1.out.size)⟩;go_wp2_with fail;go_ret;exact HF.out
   ·
    rw[if_neg h3] at hZ;have g3:(op == 3)=false:=by simpa using h3
    clear h3;go_wp2_with fail
    go_loopw [3,4] (fun s3 s4 wr=>∃ i:Nat,i<=n/\s4=.int .i64 i/\Below w1.heap.size w1 wr/\OwnI wr w1.heap.size s3 (Z++Zg0 i fun i=>Zb6 (kid i))/\w1.heap.size<=wr.heap.size) (fun _ s4 _=>n-(intOf s4).toNat)
    case atStart=>exact⟨0,Nat.zero_le _,rfl,HB2.out,by rw[hZ];simpa [Zg0] using HOWN.out,hs2⟩
    case round =>
     obtain⟨i,hin,rfl,hbel,hown,hsz⟩:=hrel;have d2':=(hbel.cell (p:=⟨w.heap.size,2,none⟩) (Zab d2)).trans d2;have HBEL:=Hd hbel;have HOW:=Hd hown;clear hbel hown
     by_cases hlt:i<n
     ·
      obtain⟨b,off,x0,x1,x2,rfl,c0,c1,c2,hx⟩:=H5.out i hlt;have hb0:=HB1.out.trans (HBEL.out.mono HB1.out.size);have e0:=(hb0.cell (p:=⟨b,off+i*3,none⟩) (Zab c0)).trans c0;have e1:=(hb0.cell (p:=⟨b,off+i*3+1,none⟩) (Zab c1)).trans c1;have e2:=(hb0.cell (p:=⟨b,off+i*3+2,none⟩) (Zab c2)).trans c2;have HX:=Hd (hx.below hb0);have hiz:(i:Int)<n:=by omega
      have hk1:=HKS.out i hlt
      have HLN:Hid ((Z++Zg0 i fun i=>Zb6 (kid i)).length+(Zb6 (kid i)).length<=4096):=Hd (by
       have s1:=Zfm (f:=fun i=>(kid i).size) hlt;have s2:=HSZ.out;have s3:=Zho (f:=fun i=>Zb6 (kid i)) (g:=fun i=>(kid i).size) i (fun i _=>Zfa (kid i));have s4:=Zfa (kid i);have s5:=HZ1.out;rw[List.length_append];omega)
      clear c0 c1 c2 hx hb0;go_upto_region 7 with fail
      go_wp2_with (first
       | (go_at_call 68;refine(IH.out i _ _ (by omega) HX.out).mono ?_;rintro y w3 ⟨u,rfl,hu,hb3⟩;obtain⟨au,cu,rfl,hua,hun⟩:=hu.sliceIs (by have:=HLN.out;omega);have HU:=Hd hua;have HB3:=Hd hb3;clear hu hua hb3)
       | (at_builtin;refine Zfo rfl _ _ rfl w1.heap.size w1 _ (Z++Zg0 i fun i=>Zb6 (kid i)) (Zb6 (kid i)) au cu rfl rfl (by exact HOW.out.below HB3.out) (by exact HU.out) (by have:=HLN.out;omega) (by have:=HB3.out.size;omega) (by exact HBEL.out.trans (HB3.out.mono HBEL.out.size)) hun ?_;intro v4 w4 hown4 hb4 hs4 _))
      go_roundw
      case rel=>exact⟨i+1,by omega,by go_num,hb4,by rw[List.append_assoc] at hown4;exact hown4,hs4⟩
      case measure=>simp[intOf];omega
     ·
      have he:i=n:=by omega
      have hiz:¬ (i:Int)<n:=by omega
      have HF:Hid (∃ u,Ending.returned u3=.returned u/\OwnI wr w.heap.size u (Zb6 E)/\Below w.heap.size w wr):=Hd ⟨u3,rfl,by rw[HVT.out,<- HZ.out,<- he];exact HOW.out.lower (by omega),HB1.out.trans (HBEL.out.mono HB1.out.size)⟩;go_wp2_with fail;go_ret;exact HF.out
open Go.RowKit
theorem Zwq (a:Option Addr) (c:Nat) (zs:List Int) (v:Int) (w:World) (hl:zs.length<=1000000) (h:Zay w a zs) :
 Calls Tryz.prog 113 #[.slice a zs.length c,.int .i64 v] w fun y w'=>y=.returned (.bool (decide (v∈zs)))/\w=w':=by
 have HI:=Hd h;clear h;have HNO:Hid ((∀ j,j<zs.length->at0 zs j≠v)->decide (v∈zs)=false):=Hd fun hh=>decide_eq_false fun hm=>by
  obtain⟨j,hj,e⟩:=List.getElem_of_mem hm;exact hh j hj (by rw[Zb0 hj];exact e)
 have HYES:Hid (∀ j,j<zs.length->at0 zs j=v->decide (v∈zs)=true):=Hd fun j hj e=>decide_eq_true (by rw[Zb0 hj] at e;rw[<- e];exact List.getElem_mem hj)
 go_enter Tryz.func113,Tryz.ntmps113
 go_wp2_with fail
 go_loopw [5] (fun s5 wr=>∃ i:Nat,i<=zs.length/\s5=.int .i64 i/\w=wr/\Hid (∀ j,j<i->at0 zs j≠v)) (fun s5 _=>zs.length-(intOf s5).toNat)
 case atStart=>exact⟨0,Nat.zero_le _,rfl,rfl,Hd fun j hj=>by omega⟩
 case round =>
  obtain⟨i,hi,rfl,rfl,HN⟩:=hrel
  by_cases hlt:i<zs.length
  ·
   obtain⟨b,off,rfl,hc⟩:=HI.out.cells i hlt;have hiz:(i:Int)<zs.length:=by omega
   obtain⟨z,hz⟩:∃ z,z=at0 zs i:=⟨_,rfl⟩;rw[<- hz] at hc
   by_cases he:z=v
   ·
    have HY:=Hd (HYES.out i hlt (by rw[<- hz,he]));subst he;clear hz;go_wp2_with fail;go_ret;exact⟨by rw[HY.out];rfl,rfl⟩
   ·
    have hne:(z == v)=false:=by simpa using he
    have HN2:Hid (∀ j,j<i+1->at0 zs j≠v):=Hd fun j hj=>by
     rcases Nat.lt_or_ge j i with h|h
     ·
      exact HN.out j h
     ·
      obtain rfl:j=i:=by omega
      rw[<- hz];exact he
    clear hz he;go_wp2_with fail;go_roundw
    case rel=>exact⟨i+1,by omega,by go_num,by simp,HN2⟩
    case measure=>simp[intOf];omega
  ·
   have HN2:=Hd (HNO.out fun j hj=>HN.out j (by omega));have hiz:¬ (i:Int)<zs.length:=by omega
   go_wp2_with fail;go_ret;exact⟨by rw[HN2.out];rfl,rfl⟩
structure PutS (zs:List Int) (v:Int) (i:Nat) (d:Bool) (os:List Int):Prop where
 mem:∀ x,x∈os↔x∈zs.take i\/(d=true/\x=v)
 len:os.length=i+if d then 1 else 0
 srt:os.Pairwise (· < ·)
 low:d=false->∀ x∈os,x<v
 up:d=true->∀ x∈os,∀ y∈zs.drop i,x<y
theorem Zs5 {os:List Int} {z:Int} (h:os.Pairwise (· < ·)) (hz:∀ x∈os,x<z):(os++[z]).Pairwise (· < ·) :=
 List.pairwise_append.2 ⟨h,List.pairwise_singleton ..,fun x hx y hy=>by rw[List.mem_singleton.1 hy];exact hz x hx⟩
theorem Zs4 {zs:List Int} (hs:zs.Pairwise (· < ·)) {i:Nat} (hi:i<zs.length):(∀ y∈zs.drop i,at0 zs i<=y)/\(∀ y∈zs.drop (i+1),at0 zs i<y)/\(∀ x∈zs.take i,x<at0 zs i):=by
 have e:zs.drop i=at0 zs i::zs.drop (i+1):=by rw[Zb0 hi];exact(List.drop_eq_getElem_cons hi)
 have hd:(zs.drop i).Pairwise (· < ·):=hs.sublist (List.drop_sublist ..);rw[e,List.pairwise_cons] at hd;have h2:=hs;rw[<- List.take_append_drop i zs,List.pairwise_append] at h2;refine⟨fun y hy=>?_,hd.1,fun x hx=>h2.2.2 x hx _ (by rw[e];exact List.mem_cons_self ..)⟩;rw[e] at hy;rcases List.mem_cons.1 hy with h|h
 ·
  omega
 ·
  have:=hd.1 y h;omega
theorem PutS.here {zs:List Int} {v:Int} {i:Nat} {os:List Int} (h:PutS zs v i false os) (hu:∀ y∈zs.drop i,v<y):PutS zs v i true (os++[v]):=by
 refine⟨fun x=>?_,by simp[h.len],Zs5 h.srt (h.low rfl),by simp,fun _ x hx y hy=>?_⟩
 ·
  have:=h.mem x;simp only[Bool.false_eq_true,false_and,or_false] at this;simp[this]
 ·
  rcases List.mem_append.1 hx with h1|h1
  ·
   have:=h.low rfl x h1;have:=hu y hy;omega
  ·
   rw[List.mem_singleton.1 h1];exact hu y hy
theorem PutS.next {zs:List Int} {v:Int} {i:Nat} {d:Bool} {os:List Int} (h:PutS zs v i d os) (hs:zs.Pairwise (· < ·)) (hi:i<zs.length) (hd:d=false->at0 zs i<v):PutS zs v (i+1) d (os++[at0 zs i]):=by
 obtain⟨q1,q2,q3⟩:=Zs4 hs hi;have hlt:∀ x∈os,x<at0 zs i:=fun x hx=>by
  cases d with
  | true=>exact h.up rfl x hx _ (by rw[List.drop_eq_getElem_cons hi,Zb0 hi];exact List.mem_cons_self ..)
  | false =>
    rcases(h.mem x).1 hx with h1|⟨h1,_⟩
    ·
     exact q3 x h1
    ·
     cases h1
 refine⟨fun x=>?_,by have:=h.len;simp[this];omega,Zs5 h.srt hlt,fun e x hx=>?_,fun e x hx y hy=>?_⟩
 ·
  rw[List.take_succ_eq_append_getElem hi,List.mem_append,List.mem_append,h.mem x,Zb0 hi];simp only[List.mem_singleton];constructor
  ·
   rintro((h1|h1)|h1)
   ·
    exact .inl (.inl h1)
   ·
    exact .inr h1
   ·
    exact .inl (.inr h1)
  ·
   rintro((h1|h1)|h1)
   ·
    exact .inl (.inl h1)
   ·
    exact .inr h1
   ·
    exact .inl (.inr h1)
 ·
  rcases List.mem_append.1 hx with h1|h1
  ·
   exact h.low e x h1
  ·
   rw[List.mem_singleton.1 h1];exact hd e
 ·
  have hy':=q2 y hy;rcases List.mem_append.1 hx with h1|h1
  ·
   have:=hlt x h1;omega
  ·
   rw[List.mem_singleton.1 h1];exact hy'
theorem Zxv (a:Option Addr) (c:Nat) (zs:List Int) (v:Int) (w:World) (hl:zs.length<=1000000) (h:Zay w a zs) (hsr:zs.Pairwise (· < ·)) (hnm:v∉zs) :
 Calls Tryz.prog 114 #[.slice a zs.length c,.int .i64 v] w fun y w'=>∃ u os,y=.returned u/\OwnI w' w.heap.size u os/\((∀ x,x∈os↔x∈zs\/x=v)/\os.Pairwise (· < ·))/\os.length=zs.length+1/\Below w.heap.size w w':=by
 have HI:=Hd h;have HSR:=Hd hsr;have HNM:Hid (∀ i,i<zs.length->at0 zs i≠v):=Hd fun i hi e=>hnm (by rw[<- e,Zb0 hi];exact List.getElem_mem hi)
 clear h hsr hnm;have HFIN:Hid (∀ os,PutS zs v zs.length true os->((∀ x,x∈os↔x∈zs\/x=v)/\os.Pairwise (· < ·))/\os.length=zs.length+1):=Hd fun os h=>⟨⟨fun x=>by have:=h.mem x;rw[List.take_length] at this;simpa using this,h.srt⟩,by simpa using h.len⟩
 go_enter Tryz.func114,Tryz.ntmps114
 go_wp2_with fail
 go_loopw [5,6,7] (fun s5 s6 s7 wr=>∃ (i:Nat) (d:Bool) (os:List Int),i<=zs.length/\s6=.bool d/\s7=.int .i64 i/\OwnI wr w.heap.size s5 os/\w.heap.size<=wr.heap.size/\Below w.heap.size w wr/\Hid (PutS zs v i d os)) (fun _ _ s7 _=>zs.length-(intOf s7).toNat)
 case atStart=>exact⟨0,false,[],Nat.zero_le _,rfl,rfl,Zjr w _ (Nat.le_refl _),by simp,Zaf w _,Hd ⟨fun x=>by simp,by simp,List.Pairwise.nil,by simp,by simp⟩⟩
 case round =>
  obtain⟨i,d,os,hi,rfl,rfl,hown,hsz,hbel,HP⟩:=hrel;have hol:os.length<=i+1:=by rw[HP.out.len];split<;>omega
  by_cases hlt:i<zs.length
  ·
   obtain⟨b,off,rfl,hc⟩:=(HI.out.below hbel).cells i hlt;have HOW:=Hd hown;have HBEL:=Hd hbel;have hiz:(i:Int)<zs.length:=by omega
   obtain⟨z,hz⟩:∃ z,z=at0 zs i:=⟨_,rfl⟩;rw[<- hz] at hc;have HZ:=Hd hz;clear hown hbel hz;cases d with
   | true =>
     go_wp2_with (at_builtin;refine Zcj _ rfl _ _ rfl w.heap.size w _ os _ rfl rfl rfl rfl (by exact HOW.out) (by omega) hsz HBEL.out ?_;intro v1 w1 hown1 hbel1 hsz1 _);go_roundw
     case rel=>exact⟨i+1,true,_,by omega,rfl,by go_num,hown1,hsz1,hbel1,Hd (by rw[HZ.out];exact HP.out.next HSR.out hlt (by simp))⟩
     case measure=>simp[intOf];omega
   | false =>
     by_cases hgt:z>v
     ·
      have cne:∀ W:World,Below wr.heap.size wr W->W.cell? ⟨b,off+i,none⟩=some (.int .i64 z):=fun W hb=>(hb.cell (p:=⟨b,off+i,none⟩) (Zab hc)).trans hc
      have hblt:b<w.heap.size:=by
       obtain⟨b',o',e,c'⟩:=HI.out.cells i hlt;cases e;exact Zab c'
      go_upto_region 8 with (at_builtin;refine Zcj _ rfl _ _ rfl w.heap.size w _ os _ rfl rfl rfl rfl (by exact HOW.out) (by omega) hsz HBEL.out ?_;intro v1 w1 hown1 hbel1 hsz1 _)
      have hc1:w1.cell? ⟨b,off+i,none⟩=some (.int .i64 z):=by
       obtain⟨b',o',e,c'⟩:=HI.out.cells i hlt;cases e;rw[(hbel1.cell (p:=⟨b,off+i,none⟩) hblt),HZ.out];exact c'
      have HO1:=Hd hown1;have HB1:=Hd hbel1;clear hown1 hbel1 hc cne;go_wp2_with (at_builtin;refine Zcj _ rfl _ _ rfl w.heap.size w _ (os++[v]) _ rfl rfl rfl rfl (by exact HO1.out) (by simp;omega) hsz1 HB1.out ?_;intro v2 w2 hown2 hbel2 hsz2 _);go_roundw
      case rel=>exact⟨i+1,true,_,by omega,rfl,by go_num,hown2,hsz2,hbel2,Hd (by rw[HZ.out];exact(HP.out.here fun y hy=>by have:=(Zs4 HSR.out hlt).1 y hy;have:=HZ.out;omega).next HSR.out hlt (by simp))⟩
      case measure=>simp[intOf];omega
     ·
      go_wp2_with (at_builtin;refine Zcj _ rfl _ _ rfl w.heap.size w _ os _ rfl rfl rfl rfl (by exact HOW.out) (by omega) hsz HBEL.out ?_;intro v1 w1 hown1 hbel1 hsz1 _);go_roundw
      case rel=>exact⟨i+1,false,_,by omega,rfl,by go_num,hown1,hsz1,hbel1,Hd (by rw[HZ.out];exact HP.out.next HSR.out hlt fun _=>by have:=HNM.out i hlt;have:=HZ.out;omega)⟩
      case measure=>simp[intOf];omega
  ·
   have he:i=zs.length:=by omega
   have hiz:¬ (i:Int)<zs.length:=by omega
   have HOW:=Hd hown;have HBEL:=Hd hbel;have HE:=Hd he;clear hown hbel he;cases d with
   | true =>
     have HF:=HFIN.out os (by rw[<- HE.out];exact HP.out);go_wp2_with fail;go_ret;exact⟨_,rfl,os,HOW.out,HF.1,HF.2,HBEL.out⟩
   | false =>
     have HF:=Hd (HFIN.out (os++[v]) (by rw[<- HE.out];exact HP.out.here (by rw[HE.out];simp)));go_wp2_with (at_builtin;refine Zcj _ rfl _ _ rfl w.heap.size w _ os _ rfl rfl rfl rfl (by exact HOW.out) (by omega) hsz HBEL.out ?_;intro v1 w1 hown1 hbel1 hsz1 _);go_ret;exact⟨_,rfl,_,hown1,HF.out.1,HF.out.2,hbel1⟩
theorem Zhw {zs:List Int} {i:Nat} (hi:i<zs.length) (x:Int):x∈zs.take (i+1)↔x∈zs.take i\/x=at0 zs i:=by
 rw[List.take_succ_eq_append_getElem hi,List.mem_append,Zb0 hi,List.mem_singleton]
theorem Zzs (a:Option Addr) (c:Nat) (zs:List Int) (w:World) (hl:zs.length<=900000) (h:Zay w a zs) :
 Calls Tryz.prog 67 #[.slice a zs.length c] w fun y w'=>∃ u os,y=.returned u/\OwnI w' w.heap.size u os/\((∀ x,x∈os↔x∈zs)/\os.Pairwise (· < ·))/\os.length<=zs.length/\Below w.heap.size w w':=by
 have HI:=Hd h;clear h
 go_enter Tryz.func67,Tryz.ntmps67
 go_wp2_with fail
 go_loopw [3,4] (fun s3 s4 wr=>∃ (i:Nat) (os:List Int),i<=zs.length/\s4=.int .i64 i/\OwnI wr w.heap.size s3 os/\w.heap.size<=wr.heap.size/\Below w.heap.size w wr/\os.length<=i/\Hid ((∀ x,x∈os↔x∈zs.take i)/\os.Pairwise (· < ·))) (fun _ s4 _=>zs.length-(intOf s4).toNat)
 case atStart=>exact⟨0,[],Nat.zero_le _,rfl,Zjr w _ (Nat.le_refl _),by simp,Zaf w _,by simp,Hd ⟨fun x=>by simp,List.Pairwise.nil⟩⟩
 case round =>
  obtain⟨i,os,hi,rfl,hown,hsz,hbel,hol,HP⟩:=hrel
  by_cases hlt:i<zs.length
  ·
   obtain⟨b,off,rfl,hc⟩:=(HI.out.below hbel).cells i hlt;have hiz:(i:Int)<zs.length:=by omega
   obtain⟨z,hz⟩:∃ z,z=at0 zs i:=⟨_,rfl⟩;rw[<- hz] at hc;obtain⟨ao,co,rfl,hoi,hon⟩:=hown.sliceIs (by omega);have HHAS:=Hd (Zwq ao co os z wr (by omega) hoi);have HPUT:Hid (z∉os->_):=Hd fun h=>Zxv ao co os z wr (by omega) hoi HP.out.2 h
   have HOW:=Hd hown;have HBEL:=Hd hbel;have HT:=Hd (Zhw hlt);have HZ:=Hd hz;clear hown hbel hz hoi
   by_cases hm:z∈os
   ·
    have hb:decide (z∈os)=true:=by simp[hm]
    rw[hb] at HHAS
    have HM2:Hid ((∀ x,x∈os↔x∈zs.take (i+1))/\os.Pairwise (· < ·)):=Hd ⟨fun x=>by
     rw[HT.out x,<- HZ.out];constructor
     ·
      intro h;exact .inl ((HP.out.1 x).1 h)
     ·
      rintro(h|rfl)
      ·
       exact(HP.out.1 x).2 h
      ·
       exact hm,HP.out.2⟩
    clear hm hb HPUT;go_wp2_with fail;refine HHAS.out.mono ?_;rintro y w' ⟨rfl,rfl⟩;go_wp2_with fail;go_roundw
    case rel=>exact⟨i+1,os,by omega,by go_num,HOW.out,hsz,HBEL.out,by omega,HM2⟩
    case measure=>simp[intOf];omega
   ·
    have hb:decide (z∈os)=false:=by simp[hm]
    rw[hb] at HHAS;have HPUT:=Hd (HPUT.out hm);clear hm hb;go_wp2_with fail;refine HHAS.out.mono ?_;rintro y w' ⟨rfl,rfl⟩;go_wp2_with fail;refine HPUT.out.mono ?_;rintro y w2 ⟨u,os2,rfl,hown2,hmem2,hlen2,hb2⟩
    have HM2:Hid ((∀ x,x∈os2↔x∈zs.take (i+1))/\os2.Pairwise (· < ·)):=Hd ⟨fun x=>by
     rw[hmem2.1 x,HT.out x,<- HZ.out,HP.out.1 x],hmem2.2⟩
    have HO2:Hid (OwnI w2 w.heap.size u os2):=Hd (hown2.lower hsz);have HB2:=Hd (HBEL.out.trans (hb2.mono hsz));have hs2:w.heap.size<=w2.heap.size:=Nat.le_trans hsz hb2.size;clear hown2 hmem2 hb2;go_wp2_with fail;go_roundw
    case rel=>exact⟨i+1,os2,by omega,by go_num,HO2.out,hs2,HB2.out,by omega,HM2⟩
    case measure=>simp[intOf];omega
  ·
   have he:i=zs.length:=by omega
   have hiz:¬ (i:Int)<zs.length:=by omega
   have HOW:=Hd hown;have HBEL:=Hd hbel;have HM:Hid ((∀ x,x∈os↔x∈zs)/\os.Pairwise (· < ·)):=Hd ⟨fun x=>by have:=HP.out.1 x;rw[he,List.take_length] at this;exact this,HP.out.2⟩;have hol2:os.length<=zs.length:=by omega
   clear hown hbel he;go_wp2_with fail;go_ret;exact⟨_,rfl,os,HOW.out,HM.out,hol2,HBEL.out⟩
theorem Za4.agg {w:World} {e:ExT} {x:Value} (h:Za4 w e x):∃ x0 x1 x2,x=.agg #[x0,x1,x2]/\x0.cells=#[x0]/\x1.cells=#[x1]/\x2.cells=#[x2]:=by
 cases e with
 | nil=>unfold Za4 at h;exact h.elim
 | mk op v n kid =>
   unfold Za4 at h;obtain⟨a,c,rfl,_⟩:=h;exact⟨_,_,_,rfl,rfl,rfl,rfl⟩
theorem Zog (e:ExT) (x:Value) (w:World) (hs:e.size<=4096) (h:Za4 w e x) :
 Calls Tryz.prog 29 #[x] w fun y w'=>∃ u os,y=.returned u/\SliceIs w' u os/\os.length<=4096/\(okT e 1->(∀ v,v∈os↔v∈Zb6 e)/\os.Pairwise (· < ·))/\Below w.heap.size w w':=by
 have HC:Hid (∀ W,Below w.heap.size w W->∀ u,u=x->Calls Tryz.prog 28 #[u] W fun y w'=>∃ err:Int,y=.returned (.int .i64 err)/\(err=0↔okT e 1)/\Below W.heap.size W w'):=Hd fun W hb u hu=>by subst hu;exact Zj4 e _ W hs (h.below hb)
 have HV:Hid (∀ W,Below w.heap.size w W->∀ u,u=x->Calls Tryz.prog 68 #[u] W fun y w'=>∃ u,y=.returned u/\OwnI w' W.heap.size u (Zb6 e)/\Below W.heap.size W w'):=Hd fun W hb u hu=>by subst hu;exact Zmr e _ W hs (h.below hb)
 have hvl:=Zfa e;obtain⟨x0,x1,x2,hx,o0,o1,o2⟩:=h.agg;subst hx;obtain⟨w1,hw1⟩:∃ w1,w1=w.alloc (.cells #[x0,x1,x2] 36):=⟨_,rfl⟩;have HW1:Hid (_=w1):=Hd hw1.symm;have HB1:Hid (Below w.heap.size w w1):=by rw[hw1];exact Hd (Zaf _ _)
 have hblk:w1.heap[w.heap.size]?=some (.cells #[x0,x1,x2] 36 (0,0)):=by rw[hw1];exact heap_alloc_new _ _
 have d0:w1.cell? ⟨w.heap.size,0,none⟩=some x0:=by rw[cell_of_row _ _ 0 _ _ _ hblk];rfl
 have d1:w1.cell? ⟨w.heap.size,1,none⟩=some x1:=by rw[cell_of_row _ _ 1 _ _ _ hblk];rfl
 have d2:w1.cell? ⟨w.heap.size,2,none⟩=some x2:=by rw[cell_of_row _ _ 2 _ _ _ hblk];rfl
 clear h hw1 hblk
 go_enter Tryz.func29,Tryz.ntmps29
 go_upto_region 1 with fail;rw[HW1.out];go_wp2_with fail;refine(HC.out _ HB1.out _ rfl).mono ?_;rintro y w2 ⟨err,rfl,hiff,hb2⟩;have HB2:=Hd (HB1.out.trans (hb2.mono HB1.out.size));have HIF:=Hd hiff;have e0:=(hb2.cell (p:=⟨w.heap.size,0,none⟩) (Zab d0)).trans d0;have e1:=(hb2.cell (p:=⟨w.heap.size,1,none⟩) (Zab d1)).trans d1;have e2:=(hb2.cell (p:=⟨w.heap.size,2,none⟩) (Zab d2)).trans d2;clear hb2 hiff d0 d1 d2
 by_cases he:err=0
 ·
  subst he;go_wp2_with fail;refine(HV.out _ HB2.out _ rfl).mono ?_;rintro y w3 ⟨u,rfl,hu,hb3⟩;obtain⟨au,cu,rfl,hua,hun⟩:=hu.sliceIs (by omega);have HO:=Hd (Zzs au cu (Zb6 e) w3 (by omega) hua);have HB3:=Hd (HB2.out.trans (hb3.mono HB2.out.size));clear hu hua hb3 e0 e1 e2;go_wp2_with fail;refine HO.out.mono ?_;rintro y w4 ⟨u4,os,rfl,hown,hmem,hlen,hb4⟩;have HF:Hid (∃ u os,Ending.returned u4=.returned u/\SliceIs w4 u os/\os.length<=4096/\(okT e 1->(∀ v,v∈os↔v∈Zb6 e)/\os.Pairwise (· < ·))/\Below w.heap.size w w4):=Hd ⟨u4,os,rfl,hown.sliceIs (by omega),by omega,fun _=>hmem,HB3.out.trans (hb4.mono HB3.out.size)⟩;clear hown hmem hlen hb4;go_wp2_with fail;go_ret;exact HF.out
 ·
  have hne:(err != 0)=true:=by simpa using he
  have HF:Hid (∃ u os,Ending.returned (.slice none 0 0)=.returned u/\SliceIs w2 u os/\os.length<=4096/\(okT e 1->(∀ v,v∈os↔v∈Zb6 e)/\os.Pairwise (· < ·))/\Below w.heap.size w w2):=Hd ⟨_,[],rfl,Zk2 w2,by simp,fun h=>(he (HIF.out.2 h)).elim,HB2.out⟩;clear he e0 e1 e2;go_wp2_with fail;go_ret;exact HF.out
theorem Zof (e:ExT) (x:Value) (w:World) (hs:e.size<=4096) (h:Za4 w e x) :
 Calls Tryz.prog 29 #[x] w fun y w'=>∃ u os,y=.returned u/\SliceIs w' u os/\os.length<=4096/\(okT e 1->∀ v∈Zb6 e,v∈os)/\Below w.heap.size w w' :=
 (Zog e x w hs h).mono fun _ _ ⟨u,os,h1,h2,h3,h4,h5⟩=>⟨u,os,h1,h2,h3,fun hk v hv=>((h4 hk).1 v).2 hv,h5⟩
open Go.RowKit
structure EvsAt (w:World) (a:Option Addr) (l:List Ev):Prop where
 len:l.length<=9223372036854775807
 cells:∀ k,∀ hk:k<l.length,∃ b off,a=some ⟨b,off,none⟩/\w.cell? ⟨b,off+k*3,none⟩=some (.int .i64 l[k].after)/\w.cell? ⟨b,off+k*3+1,none⟩=some (.int .i64 l[k].kind)/\w.cell? ⟨b,off+k*3+2,none⟩=some (.int .i64 l[k].level)
theorem EvsAt.below {w w':World} {a:Option Addr} {l:List Ev} (h:EvsAt w a l) (hb:Below w.heap.size w w'):EvsAt w' a l :=
 ⟨h.len,fun k hk=>by
  obtain⟨b,off,e,c0,c1,c2⟩:=h.cells k hk;exact⟨b,off,e,(hb.cell (p:=⟨b,off+k*3,none⟩) (Zab c0)).trans c0,(hb.cell (p:=⟨b,off+k*3+1,none⟩) (Zab c1)).trans c1,(hb.cell (p:=⟨b,off+k*3+2,none⟩) (Zab c2)).trans c2⟩⟩
def Zkf (vars:Int) (e:Ev):Int:=if e.kind<1\/e.kind>3 then 11 else if e.after<1\/(e.kind=2/\(e.level<0\/e.level>vars-2)) then 2 else 0
def Zrq (vars:Int):List Ev->Int
 | []=>0
 | e::r=>if Zkf vars e=0 then Zrq vars r else Zkf vars e
def Zji (vars waits:Int) (l:List Ev):Int:=if (l.length:Int)>256-waits then 18 else Zrq vars l
theorem Zmj {vars:Int} {l:List Ev} {i:Nat} (hi:i<l.length):Zrq vars (l.drop i)=if Zkf vars l[i]=0 then Zrq vars (l.drop (i+1)) else Zkf vars l[i]:=by
 rw[List.drop_eq_getElem_cons hi];rfl
theorem Zut (vars waits:Int) (hv:0<=vars/\vars<=1000) (hw:0<=waits/\waits<=1000) (a:Option Addr) (c:Nat) (l:List Ev) (w:World) (h:EvsAt w a l) :
 Calls Tryz.prog 26 #[.int .i64 vars,.int .i64 waits,.slice a l.length c] w fun y w'=>y=.returned (.int .i64 (Zji vars waits l))/\w=w':=by
 have HI:=Hd h;have hl:=h.len;clear h
 by_cases hmany:(l.length:Int)>256-waits
 ·
  have HR:Hid (Zji vars waits l=18):=Hd (by unfold Zji;rw[if_pos hmany])
  go_enter Tryz.func26,Tryz.ntmps26
  go_wp2_with fail;go_ret;exact⟨by rw[HR.out];rfl,rfl⟩
 have HR:Hid (Zji vars waits l=Zrq vars (l.drop 0)):=Hd (by unfold Zji;rw[if_neg hmany];rfl);obtain⟨P,hP⟩:∃ P,P=Zji vars waits l:=⟨_,rfl⟩;rw[<- hP] at HR ⊢;clear hP
 go_enter Tryz.func26,Tryz.ntmps26
 go_wp2_with fail
 go_loopw [7] (fun s7 wr=>∃ i:Nat,i<=l.length/\s7=.int .i64 i/\w=wr/\Hid (P=Zrq vars (l.drop i))) (fun s7 _=>l.length-(intOf s7).toNat)
 case atStart=>exact⟨0,Nat.zero_le _,rfl,rfl,HR⟩
 case round =>
  clear HR;obtain⟨i,hi,rfl,rfl,HP⟩:=hrel
  by_cases hlt:i<l.length
  ·
   obtain⟨b,off,rfl,c0,c1,c2⟩:=HI.out.cells i hlt;have hiz:(i:Int)<l.length:=by omega
   have HC:Hid (∀ z:Int,Zkf vars l[i]=z->z≠0->P=z):=Hd fun z hz h0=>by rw[HP.out,Zmj hlt,hz,if_neg h0]
   have HN:Hid (Zkf vars l[i]=0->P=Zrq vars (l.drop (i+1))):=Hd fun hz=>by rw[HP.out,Zmj hlt,hz,if_pos rfl]
   have HE:Hid (Zkf vars l[i]=if l[i].kind<1\/l[i].kind>3 then 11 else if l[i].after<1\/(l[i].kind=2/\(l[i].level<0\/l[i].level>vars-2)) then 2 else 0):=Hd rfl;obtain⟨ev,hev⟩:∃ ev,ev=l[i]:=⟨_,rfl⟩;rw[<- hev] at c0 c1 c2 HC HN HE;obtain⟨af,ki,le⟩:=ev;dsimp only at c0 c1 c2 HE;clear hev HP;have hki:ki<1\/ki>3\/(ki=2)\/(ki=1\/ki=3):=by omega
   rcases hki with hk|hk|hk|hk
   ·
    have HPP:=Hd (HC.out 11 (by rw[HE.out,if_pos (.inl hk)]) (by decide));go_wp2_with fail;go_ret;exact⟨by rw[HPP.out];rfl,rfl⟩
   ·
    have HPP:=Hd (HC.out 11 (by rw[HE.out,if_pos (.inr hk)]) (by decide));have hk1:¬ ki<1:=by omega
    go_wp2_with fail;go_ret;exact⟨by rw[HPP.out];rfl,rfl⟩
   ·
    by_cases ha:af<1
    ·
     have HPP:=Hd (HC.out 2 (by rw[HE.out,if_neg (by omega),if_pos (.inl ha)]) (by decide));subst hk;go_wp2_with fail;go_ret;exact⟨by rw[HPP.out];rfl,rfl⟩
    ·
     by_cases hl0:le<0
     ·
      have HPP:=Hd (HC.out 2 (by rw[HE.out,if_neg (by omega),if_pos (.inr ⟨hk,.inl hl0⟩)]) (by decide));subst hk;go_wp2_with fail;go_ret;exact⟨by rw[HPP.out];rfl,rfl⟩
     ·
      by_cases hl1:le>vars-2
      ·
       have HPP:=Hd (HC.out 2 (by rw[HE.out,if_neg (by omega),if_pos (.inr ⟨hk,.inr hl1⟩)]) (by decide));subst hk;go_wp2_with fail;go_ret;exact⟨by rw[HPP.out];rfl,rfl⟩
      ·
       have HPP:=Hd (HN.out (by rw[HE.out,if_neg (by omega),if_neg (by omega)]));subst hk;go_wp2_with fail;go_roundw
       case rel=>exact⟨i+1,by omega,by go_num,by simp,HPP⟩
       case measure=>simp[intOf];omega
   ·
    have hk1:¬ ki<1:=by omega
    have hk2:¬ ki>3:=by omega
    have hk3:(ki == 2)=false:=by simp;omega
    by_cases ha:af<1
    ·
     have HPP:=Hd (HC.out 2 (by rw[HE.out,if_neg (by omega),if_pos (.inl ha)]) (by decide));clear hk;go_wp2_with fail;go_ret;exact⟨by rw[HPP.out];rfl,rfl⟩
    ·
     have HPP:=Hd (HN.out (by rw[HE.out,if_neg (by omega),if_neg (by omega)]));clear hk;go_wp2_with fail;go_roundw
     case rel=>exact⟨i+1,by omega,by go_num,by simp,HPP⟩
     case measure=>simp[intOf];omega
  ·
   have he:i=l.length:=by omega
   have hiz:¬ (i:Int)<l.length:=by omega
   have HPP:Hid (P=0):=Hd (by rw[HP.out,he,List.drop_length];rfl);clear he;go_wp2_with fail;go_ret;exact⟨by rw[HPP.out];rfl,rfl⟩
open Go.RowKit
def cntP (zs:List Int) (v:Int) (i:Nat):Nat:=((zs.take i).filter (fun z=>decide (z=v))).length
theorem Zy1 {zs:List Int} {v:Int} {i:Nat} (hi:i<zs.length) (h:at0 zs i=v):cntP zs v (i+1)=cntP zs v i+1:=by
 rw[Zb0 hi] at h;unfold cntP;rw[List.take_succ_eq_append_getElem hi,List.filter_append];simp[h]
theorem Ybm {zs:List Int} {v:Int} {i:Nat} (hi:i<zs.length) (h:at0 zs i≠v):cntP zs v (i+1)=cntP zs v i:=by
 rw[Zb0 hi] at h;unfold cntP;rw[List.take_succ_eq_append_getElem hi,List.filter_append];simp[h]
theorem Ybl (zs:List Int) (v:Int) (i:Nat):cntP zs v i<=i:=by
 unfold cntP;refine Nat.le_trans (List.length_filter_le _ _) ?_;rw[List.length_take];omega
def Zhc (zs:List Int) (n:Int):Bool:=decide ((zs.length:Int)=n/\∀ v,v<zs.length->cntP zs (v:Nat) zs.length=1)
theorem Zxz (a:Option Addr) (c:Nat) (zs:List Int) (n:Int) (w:World) (hz:Zay w a zs) (hl:zs.length<=1000000) :
 Calls Tryz.prog 25 #[.slice a zs.length c,.int .i64 n] w fun x w'=>x=.returned (.bool (Zhc zs n))/\w=w':=by
 have HZ:=Hd hz;clear hz
 by_cases hn:(zs.length:Int)=n
 ·
  subst hn;have HR:Hid (∀ b:Bool,(b=true↔∀ v,v<zs.length->cntP zs (v:Nat) zs.length=1)->Zhc zs zs.length=b):=by
   refine Hd fun b hb=>?_
   unfold Zhc;rw[Bool.eq_iff_iff,hb];simp
  go_enter Tryz.func25,Tryz.ntmps25
  go_wp2_with fail
  go_loopw [5] (fun s5 wr=>∃ k:Nat,k<=zs.length/\s5=.int .i64 k/\w=wr/\∀ v,v<k->cntP zs (v:Nat) zs.length=1) (fun s5 _=>zs.length-(intOf s5).toNat)
  case atStart=>exact⟨0,Nat.zero_le _,rfl,rfl,fun v hv=>by omega⟩
  case round =>
   obtain⟨k,hk,rfl,rfl,hall⟩:=hrel;have HA:=Hd hall;clear hall
   by_cases hlt:k<zs.length
   ·
    have hk1:(k:Int)<zs.length:=by omega
    go_wp2_with fail
    go_loopw [6,7] (fun s6 s7 wx=>∃ i:Nat,i<=zs.length/\s7=.int .i64 i/\s6=.int .i64 (cntP zs (k:Nat) i:Nat)/\w=wx) (fun _ s7 _=>zs.length-(intOf s7).toNat)
    case atStart=>exact⟨0,Nat.zero_le _,rfl,rfl,rfl⟩
    case round =>
     obtain⟨i,hi,rfl,rfl,rfl⟩:=hrel;have hcl:=Ybl zs (k:Nat) i
     by_cases hit:i<zs.length
     ·
      obtain⟨b,off,ha,hc⟩:=HZ.out.cells i hit;subst ha;have hi1:(i:Int)<zs.length:=by omega
      by_cases he:at0 zs i=(k:Nat)
      ·
       rw[he] at hc;have HY:=Hd (Zy1 hit he);go_wp2_with fail;go_roundw
       case rel=>exact⟨i+1,by omega,by go_num,by rw[HY.out];go_num,trivial⟩
       case measure=>simp[intOf];omega
      ·
       have hne:((at0 zs i:Int) == (k:Nat))=false:=by simpa using he
       have HY:=Hd (Ybm hit he)
       generalize at0 zs i=z at hc hne
       clear he;go_wp2_with fail;go_roundw
       case rel=>exact⟨i+1,by omega,by go_num,by rw[HY.out],trivial⟩
       case measure=>simp[intOf];omega
     ·
      obtain rfl:i=zs.length:=by omega
      generalize hq:cntP zs (k:Nat) zs.length=q at *
      by_cases h1:q=1
      ·
       subst h1;have HQ:=Hd hq;clear hq;go_wp2_with fail;go_roundw
       case rel =>
        refine⟨k+1,by omega,by go_num,trivial,fun v hv=>?_⟩
        by_cases e:v=k
        ·
         subst e;exact HQ.out
        ·
         exact HA.out v (by omega)
       case measure=>simp[intOf];omega
      ·
       have hne:((q:Int) == 1)=false:=by simp;omega
       have HQ:=Hd hq;clear hq;go_wp2_with fail;go_ret;refine⟨?_,rfl⟩
       rw[HR.out false (by
        simp only[Bool.false_eq_true,false_iff];intro hh;exact h1 ((HQ.out).symm.trans (hh k hlt)))]
       rfl
   ·
    obtain rfl:k=zs.length:=by omega
    go_wp2_with fail;go_ret;refine⟨?_,rfl⟩;rw[HR.out true (by simp only[true_iff];exact HA.out)];rfl
 ·
  have hne:(((zs.length:Nat):Int) == n)=false:=by simpa using hn
  have HR:Hid (Zhc zs n=false):=by
   refine Hd ?_
   show Zhc zs n=false
   unfold Zhc;simp[hn]
  go_enter Tryz.func25,Tryz.ntmps25
  go_wp2_with fail;go_ret;exact⟨by rw[HR.out];rfl,rfl⟩
open Go.RowKit
theorem Zzy (a:Option Addr) (c:Nat) (zs:List Int) (n:Int) (w:World) (hz:Zay w a zs) (hn:(zs.length:Int)≠n) :
 Calls Tryz.prog 25 #[.slice a zs.length c,.int .i64 n] w fun x w'=>x=.returned (.bool false)/\w=w':=by
 have hl:=hz.len;have hne:(((zs.length:Nat):Int) == n)=false:=by simpa using hn
 clear hz
 go_enter Tryz.func25,Tryz.ntmps25
 go_wp2_with fail;go_ret;exact⟨rfl,rfl⟩
theorem Zxy (a:Option Addr) (c:Nat) (zs:List Int) (n:Int) (w:World) (hz:Zay w a zs) (hn:n<=1000) :
 Calls Tryz.prog 25 #[.slice a zs.length c,.int .i64 n] w fun x w'=>x=.returned (.bool (Zhc zs n))/\w=w':=by
 by_cases h:(zs.length:Int)=n
 ·
  exact Zxz a c zs n w hz (by omega)
 ·
  have:Zhc zs n=false:=by unfold Zhc;simp[h]
  rw[this];exact Zzy a c zs n w hz h
theorem Za4.parts {w:World} {e:ExT} {x0 x1 x2:Value} (h:Za4 w e (.agg #[x0,x1,x2])):∃ op v a n c,x0=.int .i64 op/\x1=.int .i64 v/\x2=.slice a n c:=by
 cases e with
 | nil=>unfold Za4 at h;exact h.elim
 | mk op v n kid =>
   unfold Za4 at h;obtain⟨a,c,hx,_⟩:=h;cases hx;exact⟨_,_,_,_,_,rfl,rfl,rfl⟩
structure Zjw (w:World) (a:Option Addr) (l:List ExT):Prop where
 len:l.length<=9223372036854775807
 cells:∀ k,∀ hk:k<l.length,∃ b off x0 x1 x2,a=some ⟨b,off,none⟩/\w.cell? ⟨b,off+k*3,none⟩=some x0/\w.cell? ⟨b,off+k*3+1,none⟩=some x1/\w.cell? ⟨b,off+k*3+2,none⟩=some x2/\Za4 w l[k] (.agg #[x0,x1,x2])
theorem Zjw.below {w w':World} {a:Option Addr} {l:List ExT} (h:Zjw w a l) (hb:Below w.heap.size w w'):Zjw w' a l :=
 ⟨h.len,fun k hk=>by
  obtain⟨b,off,x0,x1,x2,e,c0,c1,c2,hx⟩:=h.cells k hk;exact⟨b,off,x0,x1,x2,e,(hb.cell (p:=⟨b,off+k*3,none⟩) (Zab c0)).trans c0,(hb.cell (p:=⟨b,off+k*3+1,none⟩) (Zab c1)).trans c1,(hb.cell (p:=⟨b,off+k*3+2,none⟩) (Zab c2)).trans c2,hx.below hb⟩⟩
structure AskD where
 vars:Int
 order:List Int
 es:List ExT
 plan:List Ev
structure AskAt (w:World) (q:AskD) (ao ae ap:Option Addr):Prop where
 vars:okI q.vars
 order:Zay w ao q.order
 es:Zjw w ae q.es
 plan:EvsAt w ap q.plan
theorem AskAt.below {w w':World} {q:AskD} {ao ae ap:Option Addr} (h:AskAt w q ao ae ap) (hb:Below w.heap.size w w'):AskAt w' q ao ae ap:=⟨h.vars,h.order.below hb,h.es.below hb,h.plan.below hb⟩
structure Zr6 (q:AskD):Prop where
 lo:1<=q.vars
 hi:q.vars<=6
 es:q.es.length<=5
 plan:q.plan.length<=6
 order:q.order.length>0->Zhc q.order q.vars=true
 planOk:Zji q.vars 0 q.plan=0
 after:∀ ev∈q.plan,ev.after<=300
 expr:∀ e∈q.es,e.size<=40/\okT e 1/\∀ v∈Zb6 e,v<q.vars
def askV (q:AskD) (ao ae ap:Option Addr) (co ce cp:Nat):Value:=.agg #[.int .i64 q.vars,.slice ao q.order.length co,.slice ae q.es.length ce,.slice ap q.plan.length cp]
theorem Zx8 (q:AskD) (ao ae ap:Option Addr) (co ce cp:Nat) (w:World) (h:AskAt w q ao ae ap) :
 Calls Tryz.prog 5 #[askV q ao ae ap co ce cp] w fun y w'=>∃ b,y=.returned (.bool b)/\(b=true->Zr6 q)/\Below w.heap.size w w':=by
 obtain⟨vars,order,es,plan⟩:=q;obtain⟨hv,ho,he,hp⟩:=h;dsimp only [askV] at hv ho he hp ⊢;unfold okI at hv;have hol:=ho.len;have hel:=he.len;have hpl:=hp.len;have HO:=Hd ho;have HE:=Hd he;have HP:=Hd hp;obtain⟨w1,hw1⟩:∃ w1,w1=w.alloc (.cells #[.int .i64 vars,.slice ao order.length co,.slice ae es.length ce,.slice ap plan.length cp] 26):=⟨_,rfl⟩;have HW1:Hid (_=w1):=Hd hw1.symm;have HB1:Hid (Below w.heap.size w w1):=by rw[hw1];exact Hd (Zaf _ _)
 have hblk:w1.heap[w.heap.size]?=some (.cells #[.int .i64 vars,.slice ao order.length co,.slice ae es.length ce,.slice ap plan.length cp] 26 (0,0)):=by rw[hw1];exact heap_alloc_new _ _
 have d0:w1.cell? ⟨w.heap.size,0,none⟩=some (.int .i64 vars):=by rw[cell_of_row _ _ 0 _ _ _ hblk];rfl
 have d1:w1.cell? ⟨w.heap.size,1,none⟩=some (.slice ao order.length co):=by rw[cell_of_row _ _ 1 _ _ _ hblk];rfl
 have d2:w1.cell? ⟨w.heap.size,2,none⟩=some (.slice ae es.length ce):=by rw[cell_of_row _ _ 2 _ _ _ hblk];rfl
 have d3:w1.cell? ⟨w.heap.size,3,none⟩=some (.slice ap plan.length cp):=by rw[cell_of_row _ _ 3 _ _ _ hblk];rfl
 have hs1:w1.heap.size=w.heap.size+1:=by rw[hw1];simp
 have HRT:Hid (vars<=6->Calls Tryz.prog 25 #[.slice ao order.length co,.int .i64 vars] w1 fun x w'=>x=.returned (.bool (Zhc order vars))/\w1=w'):=Hd fun hh=>Zxy ao co order vars w1 (HO.out.below HB1.out) (by omega)
 have HPL:Hid (0<=vars->vars<=6->Calls Tryz.prog 26 #[.int .i64 vars,.int .i64 0,.slice ap plan.length cp] w1 fun x w'=>x=.returned (.int .i64 (Zji vars 0 plan))/\w1=w'):=Hd fun h1 h2=>Zut vars 0 ⟨h1,by omega⟩ ⟨by omega,by omega⟩ ap cp plan w1 (HP.out.below HB1.out)
 obtain⟨P,hP⟩:∃ P:Ending->World->Prop,P=fun y w'=>∃ b,y=.returned (.bool b)/\(b=true->Zr6 ⟨vars,order,es,plan⟩)/\Below w.heap.size w w':=⟨_,rfl⟩
 have HNO:Hid (∀ W,Below w1.heap.size w1 W->P (.returned (.bool false)) W):=by rw[hP];exact Hd fun W hb=>⟨false,rfl,by simp,HB1.out.trans (hb.mono HB1.out.size)⟩
 have HYES:Hid (Zr6 ⟨vars,order,es,plan⟩->∀ W,Below w1.heap.size w1 W->P (.returned (.bool true)) W):=by rw[hP];exact Hd fun hq W hb=>⟨true,rfl,fun _=>hq,HB1.out.trans (hb.mono HB1.out.size)⟩
 rw[<- hP];clear ho he hp hw1 hblk hP
 go_enter Tryz.func5,Tryz.ntmps5
 go_upto_region 1 with fail;rw[HW1.out]
 go_cut [50] (fun s50 wx=>∃ bad:Bool,s50=.bool bad/\wx=w1/\Hid (bad=false->1<=vars/\vars<=6/\es.length<=5/\plan.length<=6/\(order.length>0->Zhc order vars=true)/\Zji vars 0 plan=0))
 case first =>
  by_cases h1:vars<1
  ·
   go_wp2_with fail;go_meet
   case rel=>exact⟨true,rfl,rfl,Hd (by simp)⟩
  by_cases h2:vars>6
  ·
   go_wp2_with fail;go_meet
   case rel=>exact⟨true,rfl,rfl,Hd (by simp)⟩
  by_cases h3:(es.length:Int)>5
  ·
   go_wp2_with fail;go_meet
   case rel=>exact⟨true,rfl,rfl,Hd (by simp)⟩
  by_cases h4:(plan.length:Int)>6
  ·
   go_wp2_with fail;go_meet
   case rel=>exact⟨true,rfl,rfl,Hd (by simp)⟩
  have HPL:=Hd (HPL.out (by omega) (by omega));have HRT:=Hd (HRT.out (by omega));obtain⟨pr,hpr⟩:∃ pr,pr=Zji vars 0 plan:=⟨_,rfl⟩;rw[<- hpr] at HPL;have HPR:=Hd hpr;clear hpr
  by_cases h5:(order.length:Int)>0
  ·
   obtain⟨rb,hrb⟩:∃ rb,rb=Zhc order vars:=⟨_,rfl⟩;rw[<- hrb] at HRT;have HRB:=Hd hrb;clear hrb;cases rb with
   | false =>
     go_wp2_with fail;refine HRT.out.mono ?_;rintro y w' ⟨rfl,rfl⟩;go_wp2_with fail;go_meet
     case rel=>exact⟨true,rfl,rfl,Hd (by simp)⟩
   | true =>
     go_wp2_with fail;refine HRT.out.mono ?_;rintro y w' ⟨rfl,rfl⟩;go_wp2_with fail;refine HPL.out.mono ?_;rintro y w' ⟨rfl,rfl⟩
     by_cases h6:pr=0
     ·
      have HOK:Hid (1<=vars/\vars<=6/\es.length<=5/\plan.length<=6/\(order.length>0->Zhc order vars=true)/\Zji vars 0 plan=0):=Hd ⟨by omega,by omega,by omega,by omega,fun _=>HRB.out.symm,by rw[<- HPR.out,h6]⟩;subst h6;go_wp2_with fail;go_meet
      case rel=>exact⟨false,rfl,rfl,Hd fun _=>HOK.out⟩
     ·
      have h6':(pr != 0)=true:=by simpa using h6
      clear h6;go_wp2_with fail;go_meet
      case rel=>exact⟨true,rfl,rfl,Hd (by simp)⟩
  ·
   go_wp2_with fail;refine HPL.out.mono ?_;rintro y w' ⟨rfl,rfl⟩
   by_cases h6:pr=0
   ·
    have HOK:Hid (1<=vars/\vars<=6/\es.length<=5/\plan.length<=6/\(order.length>0->Zhc order vars=true)/\Zji vars 0 plan=0):=Hd ⟨by omega,by omega,by omega,by omega,fun _=>by omega,by rw[<- HPR.out,h6]⟩;subst h6;go_wp2_with fail;go_meet
    case rel=>exact⟨false,rfl,rfl,Hd fun _=>HOK.out⟩
   ·
    have h6':(pr != 0)=true:=by simpa using h6
    clear h6;go_wp2_with fail;go_meet
    case rel=>exact⟨true,rfl,rfl,Hd (by simp)⟩
 case rest =>
  obtain⟨bad,rfl,rfl,HBAD⟩:=hcut;clear HRT HPL;cases bad with
  | true =>
    go_wp2_with fail;exact HNO.out _ (Below.refl _ _)
  | false =>
    obtain⟨g1,g2,g3,g4,g5,g6⟩:=HBAD.out rfl;have HG5:=Hd g5;have HG6:=Hd g6;clear g5 g6 HBAD;go_upto_region 3 with fail;go_wp2_with fail
    go_loopw [4,54] (fun s4 s54 wr=>∃ k:Nat,k<=plan.length/\s54=.int .i64 k/\Below wc.heap.size wc wr/\Hid (∀ ev∈plan.take k,ev.after<=300)) (fun _ s54 _=>plan.length-(intOf s54).toNat)
    case atStart=>exact⟨0,Nat.zero_le _,rfl,Below.refl _ _,Hd fun ev he=>by simp at he⟩
    case round =>
     obtain⟨k,hk,rfl,hbel,HA⟩:=hrel
     by_cases hlt:k<plan.length
     ·
      obtain⟨b,off,rfl,c0,c1,c2⟩:=((HP.out.below HB1.out).below hbel).cells k hlt;have hkz:(k:Int)<plan.length:=by omega
      have HBEL:=Hd hbel;have HTK:Hid (∀ ev∈plan.take (k+1),ev∈plan.take k\/ev=plan[k]):=Hd fun ev he=>by
       rw[List.take_succ_eq_append_getElem hlt,List.mem_append,List.mem_singleton] at he;exact he
      obtain⟨ev,hev⟩:∃ ev,ev=plan[k]:=⟨_,rfl⟩;rw[<- hev] at c0 c1 c2 HTK;obtain⟨af,ki,le⟩:=ev;dsimp only at c0 c1 c2;clear hev hbel
      by_cases haf:af>300
      ·
       have HF:=Hd (HNO.out _ (HBEL.out.trans ((Zaf wr (.cells #[.int .i64 af,.int .i64 ki,.int .i64 le] 73)).mono HBEL.out.size)));go_wp2_with fail;exact HF.out
      ·
       have HF:=Hd (HBEL.out.trans ((Zaf wr (.cells #[.int .i64 af,.int .i64 ki,.int .i64 le] 73)).mono HBEL.out.size));have HA2:Hid (∀ ev∈plan.take (k+1),ev.after<=300):=Hd fun ev he=>by
        rcases HTK.out ev he with h|rfl
        ·
         exact HA.out ev h
        ·
         dsimp only;omega
       go_wp2_with fail;go_roundw
       case rel=>exact⟨k+1,by omega,by go_num,HF.out,HA2⟩
       case measure=>simp[intOf];omega
     ·
      have HAF:Hid (∀ ev∈plan,ev.after<=300):=Hd fun ev hev=>HA.out ev (by rw[List.take_of_length_le (by omega)];exact hev)
      have hkz:¬ (k:Int)<plan.length:=by omega
      have d0':=(hbel.cell (p:=⟨w.heap.size,0,none⟩) (Zab d0)).trans d0;have d2':=(hbel.cell (p:=⟨w.heap.size,2,none⟩) (Zab d2)).trans d2;have HBEL:=Hd hbel;obtain⟨wA,hwA⟩:∃ wA,wA=wr:=⟨_,rfl⟩;clear hbel;go_wp2_with fail
      go_loopw [6,8,65] (fun s6 s8 s65 wx=>∃ k:Nat,k<=es.length/\s65=.int .i64 k/\Below wc.heap.size wc wx/\Hid (∀ e∈es.take k,e.size<=40/\okT e 1/\∀ v∈Zb6 e,v<vars)) (fun _ _ s65 _=>es.length-(intOf s65).toNat)
      case atStart=>exact⟨0,Nat.zero_le _,rfl,HBEL.out,Hd fun ev he=>by simp at he⟩
      case round =>
       rename World=>wy
       obtain⟨j,hj,rfl,hbx,HB⟩:=hrel
       by_cases hlt:j<es.length
       ·
        obtain⟨b,off,x0,x1,x2,rfl,c0,c1,c2,hx⟩:=((HE.out.below HB1.out).below hbx).cells j hlt;have hjz:(j:Int)<es.length:=by omega
        have HBX:=Hd hbx;have HTK:Hid (∀ e∈es.take (j+1),e∈es.take j\/e=es[j]):=Hd fun e he=>by
         rw[List.take_succ_eq_append_getElem hlt,List.mem_append,List.mem_singleton] at he;exact he
        have hd0:=(hbx.cell (p:=⟨w.heap.size,0,none⟩) (Zab d0)).trans d0;obtain⟨e,hev⟩:∃ e,e=es[j]:=⟨_,rfl⟩;rw[<- hev] at hx HTK;have HX:=Hd hx;obtain⟨zo,zv,za,zn,zc,rfl,rfl,rfl⟩:=hx.parts;clear hev hbx hx;go_upto_region 12 with fail;obtain⟨wz,hwz⟩:∃ wz,wz=wy.alloc (.cells #[.int .i64 zo,.int .i64 zv,.slice za zn zc] 36):=⟨_,rfl⟩;have hbz:Below wy.heap.size wy wz:=by rw[hwz];exact Zaf _ _
        have hblk:wz.heap[wy.heap.size]?=some (.cells #[.int .i64 zo,.int .i64 zv,.slice za zn zc] 36 (0,0)):=by rw[hwz];exact heap_alloc_new _ _
        have k0:wz.cell? ⟨wy.heap.size,0,none⟩=some (.int .i64 zo):=by rw[cell_of_row _ _ 0 _ _ _ hblk];rfl
        have k1:wz.cell? ⟨wy.heap.size,1,none⟩=some (.int .i64 zv):=by rw[cell_of_row _ _ 1 _ _ _ hblk];rfl
        have k2:wz.cell? ⟨wy.heap.size,2,none⟩=some (.slice za zn zc):=by rw[cell_of_row _ _ 2 _ _ _ hblk];rfl
        have kd:=(hbz.cell (p:=⟨w.heap.size,0,none⟩) (Zab hd0)).trans hd0;have HXZ:=Hd (HX.out.below hbz);have HBZ:=Hd (HBX.out.trans (hbz.mono HBX.out.size));rw[<- hwz];clear hwz hbz hblk c0 c1 c2 hd0;go_wp2_with fail;refine(Zp0 e _ 40 _ (by omega) HXZ.out).mono ?_;rintro y wp ⟨⟨r,rfl,_,_,hr3⟩,hbp⟩;have HBP:=Hd (HBZ.out.trans (hbp.mono HBZ.out.size));have HXP:=Hd (HXZ.out.below hbp);have m0:=(hbp.cell (p:=⟨wy.heap.size,0,none⟩) (Zab k0)).trans k0;have m1:=(hbp.cell (p:=⟨wy.heap.size,1,none⟩) (Zab k1)).trans k1;have m2:=(hbp.cell (p:=⟨wy.heap.size,2,none⟩) (Zab k2)).trans k2;have md:=(hbp.cell (p:=⟨w.heap.size,0,none⟩) (Zab kd)).trans kd;clear hbp k0 k1 k2 kd
        by_cases hr:(r:Int)>40
        ·
         have HF:=Hd (HNO.out _ HBP.out);go_wp2_with fail;exact HF.out
        have hsz40:e.size<=40:=by have:=hr3 (by omega);omega
        clear hr3;go_wp2_with fail;refine(Zj4 e _ _ (by omega) HXP.out).mono ?_;rintro y wq ⟨err,rfl,hiff,hbq⟩;have HBQ:=Hd (HBP.out.trans (hbq.mono HBP.out.size));have HXQ:=Hd (HXP.out.below hbq);have n0:=(hbq.cell (p:=⟨wy.heap.size,0,none⟩) (Zab m0)).trans m0;have n1:=(hbq.cell (p:=⟨wy.heap.size,1,none⟩) (Zab m1)).trans m1;have n2:=(hbq.cell (p:=⟨wy.heap.size,2,none⟩) (Zab m2)).trans m2;have nd:=(hbq.cell (p:=⟨w.heap.size,0,none⟩) (Zab md)).trans md;have HIF:=Hd hiff;clear hbq m0 m1 m2 md hiff
        by_cases her:err=0
        ·
         have HOK:=Hd (HIF.out.1 her);subst her;go_wp2_with fail;refine(Zof e _ _ (by omega) HXQ.out).mono ?_;rintro y ws ⟨u,os,rfl,hsl,hosl,hmem,hbs⟩;obtain⟨au,cu,rfl,hiu,hnu⟩:=hsl;have HBS:=Hd (HBQ.out.trans (hbs.mono HBQ.out.size));have pd:=(hbs.cell (p:=⟨w.heap.size,0,none⟩) (Zab nd)).trans nd;have HIU:=Hd hiu;have HMEM:=Hd (hmem HOK.out);clear hbs n0 n1 n2 nd hiu hmem HX HXZ HXP HXQ;go_wp2_with fail
         go_loopw [8,80] (fun s8 s80 wt=>∃ i:Nat,i<=os.length/\s80=.int .i64 i/\wt=ws/\Hid (∀ v∈os.take i,v<vars)) (fun _ s80 _=>os.length-(intOf s80).toNat)
         case atStart=>exact⟨0,Nat.zero_le _,rfl,rfl,Hd fun v hv=>by simp at hv⟩
         case round =>
          obtain⟨i,hi,rfl,rfl,HVS⟩:=hrel
          by_cases hlt2:i<os.length
          ·
           obtain⟨b2,of2,rfl,cc⟩:=HIU.out.cells i hlt2;have hiz:(i:Int)<os.length:=by omega
           have HT2:=Hd (Zhw hlt2);obtain⟨z,hz⟩:∃ z,z=at0 os i:=⟨_,rfl⟩;rw[<- hz] at cc HT2;clear hz
           by_cases hzv:z>=vars
           ·
            have HF:=Hd (HNO.out _ HBS.out);go_wp2_with fail;exact HF.out
           ·
            have HV2:Hid (∀ v∈os.take (i+1),v<vars):=Hd fun v hv=>by
             rcases(HT2.out v).1 hv with h|rfl
             ·
              exact HVS.out v h
             ·
              omega
            go_wp2_with fail;go_roundw
            case rel=>exact⟨i+1,by omega,by go_num,by simp,HV2⟩
            case measure=>simp[intOf];omega
          ·
           have hiz:¬ (i:Int)<os.length:=by omega
           have HB2:Hid (∀ e∈es.take (j+1),e.size<=40/\okT e 1/\∀ v∈Zb6 e,v<vars):=Hd fun e' he'=>by
            rcases HTK.out e' he' with h|rfl
            ·
             exact HB.out e' h
            ·
             exact⟨hsz40,HOK.out,fun v hv=>HVS.out v (by rw[List.take_of_length_le (by omega)];exact HMEM.out v hv)⟩
           go_wp2_with fail;go_roundw
           case rel=>exact⟨j+1,by omega,by go_num,HBS.out,HB2⟩
           case measure=>simp[intOf];omega
        ·
         have hne:(err != 0)=true:=by simpa using her
         have HF:=Hd (HNO.out _ HBQ.out);clear her;go_wp2_with fail;exact HF.out
       ·
        have hjz:¬ (j:Int)<es.length:=by omega
        have HF:=Hd (HYES.out ⟨g1,g2,g3,g4,HG5.out,HG6.out,HAF.out,fun e he=>HB.out e (by rw[List.take_of_length_le (by omega)];exact he)⟩ _ hbx);go_wp2_with fail;exact HF.out
open Go.RowKit
def cntT:Nat->(Nat->Bool)->Nat
 | 0,_=>0
 | k+1,f=>cntT k f+(if f k then 1 else 0)
theorem Zds (k:Nat) (f:Nat->Bool):cntT (k+1) f=cntT k f+(if f k then 1 else 0):=rfl
theorem Zv2 (f:Nat->Bool):∀ k,cntT k f<=k
 | 0=>Nat.le_refl _
 | k+1=>by
   have:=Zv2 f k;rw[Zds];split<;>omega
def opB (op:Int) (n:Nat) (f:Nat->Bool):Bool :=
 if op=1 then true else if op=4 then decide (cntT n f=0) else if op=5 then decide (cntT n f=n) else if op=6 then decide (0<cntT n f) else if op=7 then decide (cntT n f%2=1)
 else if op=8 then (!f 0||f 1) else if op=9 then decide (cntT n f≠1) else if op=10 then iteB (f 0) (f 1) (f 2) else false
def fnT:ExT->BF
 | .nil=>fun _=>false
 | .mk op v n kid=>fun ρ=>if op=3 then ρ v.toNat else opB op n fun i=>fnT (kid i) ρ
theorem Yax (op v:Int) (n:Nat) (kid:Nat->ExT) (ρ:Nat->Bool):fnT (.mk op v n kid) ρ=if op=3 then ρ v.toNat else opB op n fun i=>fnT (kid i) ρ:=rfl
def notF (F:BF):BF:=fun ρ => !F ρ
def Zlg (op:Int) (F G:BF):BF :=
 if op=5 then Zdc F G (fun _=>false) else if op=6 then Zdc F (fun _=>true) G else if op=8 then Zdc F G (fun _=>true) else if op=7 then Zdc F (notF G) G else Zdc F G (notF G)
def accT (op:Int) (kid:Nat->ExT):Nat->BF
 | 0=>fun _=>decide (op=5)
 | k+1=>Zlg op (accT op kid k) (fnT (kid k))
theorem Yar (kid:Nat->ExT) (ρ:Nat->Bool):∀ k,accT 5 kid k ρ=decide (cntT k (fun i=>fnT (kid i) ρ)=k)
 | 0=>rfl
 | k+1=>by
   have h1:accT 5 kid (k+1) ρ=iteB (accT 5 kid k ρ) (fnT (kid k) ρ) false:=rfl;have h2:=Zv2 (fun i=>fnT (kid i) ρ) k;rw[h1,Yar kid ρ k,Zds];unfold iteB;cases hf:fnT (kid k) ρ
   ·
    have:(cntT k fun i=>fnT (kid i) ρ)+0≠k+1:=by omega
    simp only[Bool.false_eq_true,if_false,decide_eq_false this];split<;>rfl
   ·
    simp
theorem Yas (kid:Nat->ExT) (ρ:Nat->Bool):∀ k,accT 6 kid k ρ=decide (0<cntT k (fun i=>fnT (kid i) ρ))
 | 0=>rfl
 | k+1=>by
   have h1:accT 6 kid (k+1) ρ=iteB (accT 6 kid k ρ) true (fnT (kid k) ρ):=rfl;rw[h1,Yas kid ρ k,Zds];unfold iteB;cases hf:fnT (kid k) ρ<;>simp
theorem Yat (kid:Nat->ExT) (ρ:Nat->Bool):∀ k,accT 7 kid k ρ=decide (cntT k (fun i=>fnT (kid i) ρ)%2=1)
 | 0=>rfl
 | k+1=>by
   have h1:accT 7 kid (k+1) ρ=iteB (accT 7 kid k ρ) (!(fnT (kid k) ρ)) (fnT (kid k) ρ):=rfl;rw[h1,Yat kid ρ k,Zds];unfold iteB;rcases Nat.mod_two_eq_zero_or_one (cntT k fun i=>fnT (kid i) ρ) with e|e
   ·
    cases hf:fnT (kid k) ρ<;>simp[e]<;>omega
   ·
    cases hf:fnT (kid k) ρ<;>simp[e]<;>omega
theorem Yby {op:Int} (h:op=5\/op=6\/op=7) (v:Int) (n:Nat) (kid:Nat->ExT):fnT (.mk op v n kid)=accT op kid n:=by
 funext ρ;rcases h with rfl|rfl|rfl
 ·
  rw[Yar];rfl
 ·
  rw[Yas];rfl
 ·
  rw[Yat];rfl
theorem Zr9 (f:Nat->Bool):cntT 1 f=if f 0 then 1 else 0:=by rw[Zds];exact Nat.zero_add _
theorem Zy2 (f:Nat->Bool):cntT 2 f=(if f 0 then 1 else 0)+(if f 1 then 1 else 0):=by rw[Zds,Zr9]
theorem Yb0 (v:Int) (kid:Nat->ExT):fnT (.mk 4 v 1 kid)=notF (fnT (kid 0)):=by
 funext ρ
 show decide (cntT 1 (fun i=>fnT (kid i) ρ)=0) = !(fnT (kid 0) ρ)
 rw[Bool.eq_iff_iff,decide_eq_true_iff,Zr9];cases fnT (kid 0) ρ<;>simp
theorem Ybz (v:Int) (kid:Nat->ExT):fnT (.mk 10 v 3 kid)=Zdc (fnT (kid 0)) (fnT (kid 1)) (fnT (kid 2)):=rfl
theorem Zy9 {op:Int} (h:op=8\/op=9) (v:Int) (kid:Nat->ExT):fnT (.mk op v 2 kid)=Zlg op (fnT (kid 0)) (fnT (kid 1)):=by
 funext ρ;rcases h with rfl|rfl
 ·
  show (!fnT (kid 0) ρ||fnT (kid 1) ρ)=iteB (fnT (kid 0) ρ) (fnT (kid 1) ρ) true
  unfold iteB;cases fnT (kid 0) ρ<;>simp
 ·
  show decide (cntT 2 (fun i=>fnT (kid i) ρ)≠1)=iteB (fnT (kid 0) ρ) (fnT (kid 1) ρ) (!fnT (kid 1) ρ)
  rw[Bool.eq_iff_iff,decide_eq_true_iff,Zy2];unfold iteB;cases fnT (kid 0) ρ<;>cases fnT (kid 1) ρ<;>simp
theorem Zpb {op:Int} (h:op=1\/op=2) (v:Int) (n:Nat) (kid:Nat->ExT):fnT (.mk op v n kid)=fun _=>decide (op=1):=by
 rcases h with rfl|rfl<;>rfl
theorem Yb1 (v:Nat) (n:Nat) (kid:Nat->ExT):fnT (.mk 3 v n kid)=varF v:=by
 funext ρ;rfl
def DepF (n:Nat) (F:BF):Prop:=∀ ρ ρ':Nat->Bool,(∀ i,i<n->ρ i=ρ' i)->F ρ=F ρ'
theorem Zhv {f:Nat->List Int} {i:Nat} {x:Int}:∀ {n:Nat},i<n->x∈f i->x∈Zg0 n f
 | 0,h,_=>by omega
 | k+1,h,hx=>by
   unfold Zg0;rcases Nat.lt_or_ge i k with h'|h'
   ·
    exact List.mem_append_left _ (Zhv h' hx)
   ·
    obtain rfl:i=k:=by omega
    exact List.mem_append_right _ hx
theorem Zl0 {f g:Nat->Bool}:∀ {n:Nat},(∀ i,i<n->f i=g i)->cntT n f=cntT n g
 | 0,_=>rfl
 | k+1,h=>by rw[Zds,Zds,Zl0 fun i hi=>h i (by omega),h k (by omega)]
theorem Zwi {n:Nat}:∀ {e:ExT},Ztj e->(∀ v∈Zb6 e,v<(n:Int))->DepF n (fnT e)
 | .nil,h,_=>h.elim
 | .mk op v m kid,h,hv=>by
   obtain⟨h1,h2,h3,h4,h5,h6⟩:=h;intro ρ ρ' hr;rw[Yax,Yax]
   by_cases e3:op=3
   ·
    rw[if_pos e3,if_pos e3];have hv0:=h2 e3;refine hr _ ?_;have:=hv v (by unfold Zb6;rw[if_pos e3];simp);omega
   ·
    rw[if_neg e3,if_neg e3];have IH:∀ i,i<m->fnT (kid i) ρ=fnT (kid i) ρ':=fun i hi=>Zwi (h6 i hi) (fun x hx=>hv x (by unfold Zb6;exact List.mem_append_right _ (Zhv hi hx))) ρ ρ' hr
    have hc:=Zl0 IH
    by_cases e8:op=8
    ·
     subst e8;have:m=2:=by simp[Zeh] at h4 h5;omega
     subst this
     show (!fnT (kid 0) ρ||fnT (kid 1) ρ)=(!fnT (kid 0) ρ'||fnT (kid 1) ρ')
     rw[IH 0 (by omega),IH 1 (by omega)]
    by_cases e10:op=10
    ·
     subst e10;have:m=3:=by simp[Zeh] at h4 h5;omega
     subst this
     show iteB (fnT (kid 0) ρ) (fnT (kid 1) ρ) (fnT (kid 2) ρ)=iteB (fnT (kid 0) ρ') (fnT (kid 1) ρ') (fnT (kid 2) ρ')
     rw[IH 0 (by omega),IH 1 (by omega),IH 2 (by omega)]
    unfold opB;rw[hc];simp only[e8,e10,if_false]
theorem Ybj (n:Nat) (ρ:Nat->Bool):∃ i,i<2^n/\∀ v,v<n->bitB i v=ρ v:=by
 induction n with
 | zero=>exact⟨0,by simp,fun v hv=>by omega⟩
 | succ n ih =>
   obtain⟨i,hi,hb⟩:=ih;have hp:0<2^n:=Nat.pow_pos (by omega);refine⟨i+(if ρ n then 2^n else 0),by rw[Nat.pow_succ];split<;>omega,fun v hv=>?_⟩;rcases Nat.lt_or_ge v n with h|h
   ·
    rw[<- hb v h];unfold bitB;split
    ·
     obtain⟨k,rfl⟩:∃ k,n=v+(k+1):=⟨n-v-1,by omega⟩;have e1:(2:Nat)^(v+(k+1))=2^v*(2*2^k):=by rw[Nat.pow_add,Nat.pow_succ];ac_rfl
     rw[e1,Nat.add_mul_div_left _ _ (Nat.pow_pos (by omega)),Nat.add_mul_mod_self_left]
    ·
     rw[Nat.add_zero]
   ·
    obtain rfl:v=n:=by omega
    unfold bitB;cases hr:ρ v with
    | true =>
      rw[if_pos rfl,Nat.add_div_right _ hp,Nat.div_eq_of_lt hi];rfl
    | false =>
      rw[if_neg (by simp),Nat.add_zero,Nat.div_eq_of_lt hi];rfl
theorem Zye {n:Nat} {F G:BF} (hF:DepF n F) (hG:DepF n G) (h:tabB n F=tabB n G):F=G:=by
 funext ρ;obtain⟨i,hi,hb⟩:=Ybj n ρ;have e:∀ v,v<n->ρ v=Zeu (Zet i n) v:=fun v hv=>by rw[Zt8,hb v hv];simp[hv]
 rw[hF ρ _ e,hG ρ _ e,<- Ztb (F:=F) hi,<- Ztb (F:=G) hi,h]
open Go.RowKit
end Go.Proofs.YtlgogjbkadckkaaGreat

namespace Go.Proofs.YtlgogjbkadckkaaGreat
open Go.RowKit
section
variable {K:Law} {n:Nat} {Od:List Nat->Prop} {room:Nat} {w0:World} {mb:Nat} {fs:List (Int×BF)} {nx:Int} {Wt:List Ev->Int->Prop} {hl hx hs:List (Int×BF)} {W W' w:World} {o o':Own} {m m':ManD} {V V':Nat->BF} {vl vx v' v:Value} {p:Int×BF}
structure LawF (W:World) (o:Own) (v:Value) (bs:List Bool):Prop where
 is:Zmu W v bs
 no:∀ k,v.ownBlock=some k->k<W.heap.size/\o k=none/\∃ cur,W.heap[k]?=some (.cells cur 4 (0,0))
theorem LawF.chg {bs:List Bool} (h:LawF W o v bs) (hc:ChgX NoB o o' W W'):LawF W' o' v bs :=
 ⟨h.is.same fun k hk=>hc.block k (h.no k hk).1 (h.no k hk).2.1 (fun e=>e),fun k hk=>by
  obtain⟨h1,h2,cur,h3⟩:=h.no k hk;exact⟨Nat.lt_of_lt_of_le h1 hc.size,hc.none' h1 h2,cur,(hc.block k h1 h2 (fun e=>e)).trans h3⟩⟩
end
open Go.RowKit
end Go.Proofs.YtlgogjbkadckkaaGreat

namespace Go.Proofs.YtlgogjbkadckkaaGreat
open Go.RowKit
open Go.RowKit
section
variable {n:Nat} {F G H:BF} {u v x y z:Value} {w:World}
end
open Go.RowKit
theorem Ybv (V:Nat->BF) (e:Nat):ef V (enot e)=notF (ef V e):=funext fun ρ=>Zfz V e ρ
section
variable {K:Law} {n:Nat}
theorem Zgl {o:Own} {w:World} {mb:Nat} {m:ManD} {V:Nat->BF} (h:Zd0 (K m.d V) o w mb m) {e:Nat} (he:okE (Zaa m.d) e):e<eMax:=by
 obtain⟨s,hs⟩:=h;obtain⟨s2,h2⟩:=hs.store;have:=h2.edge_lt he;unfold eMax;omega
end
open Go.RowKit
section
variable {K:Law} {n:Nat} {Od:List Nat->Prop} {room:Nat} {w0 w:World} {mb xb:Nat} {fs:List (Int×BF)} {nx:Int} {o:Own} {m:ManD} {V:Nat->BF}
end
open Go.RowKit
section
variable {K:Law} {n k:Nat} {room:Nat} {w0 w w1:World} {mb:Nat} {fs:List (Int×BF)} {nx:Int} {o:Own} {m:ManD} {V:Nat->BF}
end
open Go.RowKit
def Ycy (e0:Nat):BF:=fun _=>decide (e0=0)
theorem Zwe {d:Zac} {V:Nat->BF} (hk:Zaj d V) {e0:Nat} (h:e0/2=0):ef V e0=Ycy e0:=by
 rcases(show e0=0\/e0=1 by omega) with rfl|rfl
 ·
  rw[hk.dag.ef0];rfl
 ·
  rw[hk.dag.ef1];rfl
section
variable {K:Law} {n:Nat} {room:Nat} {w0 w:World} {mb:Nat} {fs:List (Int×BF)} {nx:Int} {o:Own} {m:ManD} {V:Nat->BF} {ws0:List Ev}
end
end Go.Proofs.YtlgogjbkadckkaaGreat
