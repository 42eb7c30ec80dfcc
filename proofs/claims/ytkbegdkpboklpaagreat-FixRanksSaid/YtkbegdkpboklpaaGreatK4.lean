/- Several texts in one file: contracts of the program's functions and what follows from them. -/
import Derived.Test.YtkbegdkpboklpaaGreatK3
set_option linter.unusedSimpArgs false
set_option linter.unusedVariables false
set_option linter.unusedSectionVars false
set_option linter.unnecessarySimpa false
set_option maxRecDepth 100000
set_option maxHeartbeats 8000000
namespace Go.Proofs.YtkbegdkpboklpaaGreat
open Go.Proofs.Tryz
open Go.RowKit Go.Shelf
attribute [local go_sem] Oper.semAt_some
structure EaS (n₀:Nat)(o:Own)(w0:World)(pb:Nat)(p:Zam)(Bp By l:Nat)(M0 M:Nat->Prop)(W0 W:World):Prop where
 it:ItS n₀ o w0 pb p Bp M0 M W0 W
 boxy:W.cell? ⟨By,0,none⟩=some (.func (.yield l) #[] #[])
 ny:¬ M By
 ge:∀ k,M k->n₀<=k
theorem Zmr {M:Nat->Prop}{W W':World}{b k:Nat}{v:Value}(h:Wr M W W')(hc:W.cell? ⟨b,k,none⟩=some v)(hn:¬ M b):W'.cell? ⟨b,k,none⟩=some v :=
 (World.cell?_of_block (w:=W) (a:=⟨b,k,none⟩) (h.keep b (Zaa hc) hn)).trans hc
theorem EaS.go {n₀:Nat}{o:Own}{w0:World}{pb:Nat}{p:Zam}{Bp By l:Nat}{M0 M M':Nat->Prop}{W0 W W':World}(h:EaS n₀ o w0 pb p Bp By l M0 M W0 W)(hn:n₀<=W0.heap.size)(hw:Wr M W W')
 (hM:∀ k,M' k->M k\/W.heap.size<=k):EaS n₀ o w0 pb p Bp By l M0 M' W0 W':=by
 have hs:=h.it.wr.size;have hb:By<W.heap.size:=Zaa h.boxy;refine⟨h.it.go hn h.ge hw hM,Zmr hw h.boxy h.ny,fun e=>?_,fun k hk=>?_⟩
 .
  rcases hM By e with h1|h1
  . exact h.ny h1
  . omega
 .
  rcases hM k hk with h1|h1
  . exact h.ge k h1
  . omega
theorem Zqg (F:Fence)(n:Nat)(hF1:F.fn 244)(hF2:F.fn 245)(hF3:F.fn 252)(hro:F.round=none)(hn:4<=n)(Bp n₀ pb:Nat){o:Own}{w0:World}{p:Zam}(hp:Zat o w0 pb p)(hlt:Zaj o w0)(h0:w0.heap.size<=n₀)(w:World)
 (hw:Below n₀ w0 w) (hn0:n₀<=w.heap.size) (hBn:n₀<=Bp) (hBp:w.cell? ⟨Bp,0,none⟩=some (.pointer (some ⟨pb,0,none⟩))) :
 Gives F n 2 prog 244 #[.pointer (some ⟨Bp,0,none⟩)] (fun i:Nat=>#[Za5 (p.nd i)]) n₀ (· = Bp) (Zd2 p) w:=by
 intro l J M W g6 g7 g3 gn hY hJ;have gw:Bp<w.heap.size:=Zaa hBp;have gR:Bp<W.heap.size:=Nat.lt_of_lt_of_le gw g3.size;have gc:n₀<=W.heap.size:=Nat.le_trans hn0 g3.size;have gg:W.cell? ⟨Bp,0,none⟩=some (.pointer (some ⟨pb,0,none⟩)):=Zmr g3 hBp (fun h=>h.2 rfl);have gd:Below n₀ w0 W:=hw.trans (g3.below (fun k h=>h.1) hn0);obtain⟨V,hV⟩:∃ V,V=(W.alloc (.cells #[.func (.yield l) #[] #[]] 310)).alloc (.cells #[.pointer (some ⟨pb,0,none⟩)] 190):=⟨_,rfl⟩;have g4:∀ N,Wr N W V:=fun N=>by rw[hV];exact((Wr.refl N W).alloc _).alloc _
 have gj:J [] M V:=g7 _ _ _ _ hJ (g4 _);have g2:=g6 _ _ _ hJ;have g9:V.cell? ⟨W.heap.size,0,none⟩=some (.func (.yield l) #[] #[]):=by rw[hV];simp
 have gb:V.cell? ⟨W.heap.size+1,0,none⟩=some (.pointer (some ⟨pb,0,none⟩)):=by rw[hV];simp
 have gm:V.cell? ⟨Bp,0,none⟩=some (.pointer (some ⟨pb,0,none⟩)):=Zmr (g4 (fun _=>False)) gg (fun h=>h);have g1:Below n₀ w0 V:=gd.trans ((g4 (fun k=>n₀<=k)).below (fun _ h=>h) gc);have gh:V.heap.size=W.heap.size+2:=by rw[hV];simp
 have gk:EaS n₀ o w0 pb p Bp W.heap.size l M M V V:=⟨⟨g1,gm,Wr.refl _ _,fun k h=>.inl h,gn Bp rfl⟩,g9,fun e=>by have:=(g2 _ e).2;omega,fun k h=>(g2 k h).1⟩;have HP:∀ W',Below n₀ w0 W'->Zat o W' pb p:=fun W' hb=>hp.below (hb.mono h0) hlt
 have HG:=Hd (Zsu F (n-1) hF3 hro (by omega) (W.heap.size+1) n₀ pb hp hlt h0 V g1 (by omega) gb);have gp:=Hd HP;have gA:=Hd hY;have gE:=Hd gk;have gC:=Hd g6;have gr:=Hd g2;have g8:=Hd g7;have gD:=Hd gj;have gB:=Hd g4;have hlen:=hp.len;have gq:=hp.pos;have gG:=hp.top;have gF:=hp.room;have h1:1<=n:=by omega
 have gN:(W.alloc (.cells #[.func (.yield l) #[] #[]] 310)).cell? ⟨Bp,0,none⟩=some (.pointer (some ⟨pb,0,none⟩)):=Zmr ((Wr.refl (fun _=>False) W).alloc _) gg (fun h=>h);refine callsIn_of_wp_marks func244 rfl hF1 ?_ hro;simp only[ntmps244,List.size_toArray,List.length_cons,List.length_nil,Nat.reduceAdd,Nat.reduceSub,Array.replicate_succ,Array.replicate_zero,List.push_toArray,List.append_toArray,List.nil_append,List.cons_append];clear g6 g7 g3 gn hY hJ gj g2 g9 gb gm g1 gk HP hp hlt h0 hw hBp gd g4 gh
 gi_wp2_with (gi_at_call 245;refine(Ybp F (n-1) hF2 hro _ _).mono ?_;rintro e w' ⟨rfl,rfl⟩)
 rw[<- hV];have gh:V.heap.size=W.heap.size+2:=by rw[hV];simp
 clear hV;have gJ:prog.follows .mixedOrders=true:=by kernel_rfl
 refine Zsc hro h1 (gf:=252) (lb:=#[.pointer (some ⟨W.heap.size+1,0,none⟩)]) rfl hF3 (enters_of func252 (by kernel_rfl) rfl) HG.out
  (by omega) (by rintro k rfl;omega) (fun x=>rfl)
  (fun pre N V'=>∃ M1,(∀ k,N k↔M1 k\/k=W.heap.size\/k=Bp)/\J pre M1 V'/\EaS n₀ o w0 pb p Bp W.heap.size l M M1 V V')
  ?_ ?_ (fun k=>M k\/k=W.heap.size\/k=Bp) ?_ ⟨M,fun k=>Iff.rfl,gD.out,gE.out⟩
  (fun x a' _ _=>a'={
   tmps :=
    #[Value.func (Fn.yield l) #[] #[],Value.pointer (some { block:=Bp,off:=0 }),
     Value.pointer (some { block:=W.heap.size,off:=0 }),Value.int IntKind.i64 ↑x,
     Value.pointer (some { block:=pb,off:=0 }),
     Value.func (Fn.func 252) #[] #[Value.pointer (some { block:=W.heap.size+1,off:=0 })],
     Value.int IntKind.i64 ↑x,undef,undef,undef,undef,undef,undef,undef,undef,undef,undef],
   defers:=[] }) ?_ ?_ ?_ ?_
 .
  rintro pre N V' ⟨M1,hN,hj,hE⟩ k hk;rcases(hN k).1 hk with h|h|h
  . exact gC.out _ _ _ hj k h
  . subst h;exact⟨gc,Zaa hE.boxy⟩
  . subst h;exact⟨hBn,Zaa hE.it.box⟩
 .
  rintro pre N V' V'' ⟨M1,hN,hj,hE⟩ hw
  have g5:∀ k,k<V'.heap.size->(k<n₀\/N k)->V''.heap[k]?=V'.heap[k]?:=fun k hk hn=>hw.keep k hk (fun⟨a,b⟩=>by
   rcases hn with h|h
   . omega
   . exact b h)
  refine⟨M1,hN,g8.out _ _ _ _ hj (hw.mono fun k ⟨a,b⟩=>⟨a,fun h=>b ((hN k).2 (.inl h))⟩),⟨⟨?_,?_,?_,hE.it.sub,hE.it.nb⟩,?_,hE.ny,hE.ge⟩⟩
  . exact hE.it.low.trans (hw.below (fun k h=>h.1) (by have:=hE.it.wr.size;omega))
  . exact(World.cell?_of_block (w:=V') (a:=⟨Bp,0,none⟩) (g5 _ (Zaa hE.it.box) (.inr ((hN _).2 (.inr (.inr rfl)))))).trans hE.it.box
  . exact hE.it.wr.trans hw (fun _ _ h=>h) (fun k _ h=>h.1)
  . exact(World.cell?_of_block (w:=V') (a:=⟨W.heap.size,0,none⟩) (g5 _ (Zaa hE.boxy) (.inr ((hN _).2 (.inr (.inl rfl)))))).trans hE.boxy
 .
  rintro k rfl h;have gP:W.heap.size+1<W.heap.size\/W.heap.size+1=W.heap.size\/W.heap.size+1=Bp:=by
   rcases h with h|h
   . left;exact(gr.out _ h).2
   . right;exact h
  omega
 . intro x a' W' W1 W2 l' _ h _;exact h
 .
  intro l' pre x N V' K hI hK
  gi_wp2
  exact hK _ _ (Wr.refl _ _) rfl
 .
  rintro l' pre x a' N W0 W1 ⟨M1,hN,hj,hE⟩ rfl gI hs1 g0;obtain⟨suf,g0⟩:=g0;have hx:p.tk x=true:=Zl3 g0;obtain⟨vs,vt,vf,d0,d1,d2,d3,d4,hs,ht,_⟩:=(gp.out W1 hE.it.low).cells;have gM:=hE.it.box;have gL:=hE.boxy;obtain⟨gs,cs,rfl,gv⟩:=hs.shape gq;have gt:=((gp.out W1 hE.it.low).tk_lt hx).2;have gK:=Zat.node hs (k:=x) gt;have gH:(x:Int)<p.at_.length:=by omega
  obtain⟨fn,tmps,assign,body,hy,hR⟩:=gA.out _ x M1 W1.drew (g8.out _ _ _ _ hj ((Wr.refl _ W1).drew)) ⟨suf,g0⟩;simp only[Za5] at hy;have HR:=Hd hR;have HE:=Hd hE;have HN:=Hd hN;clear hs hE hj hR hN g0 gv
  gi_wp2
  gi_region_with_o (refine⟨fun _=>by omega,HR.out.mono ?_⟩;rintro e W3 ⟨rfl,M3,gx,ga,gi⟩)
  all_goals gi_wp2
  all_goals exact⟨fun k=>M3 k\/k=W.heap.size\/k=Bp,⟨M3,fun k=>Iff.rfl,gx,HE.out.go (by omega) (Wr.trans ((Wr.refl M1 W1).drew) ga (fun _ _ h=>h) (fun _ _ h=>h)) gi⟩,
   Wr.trans ((Wr.refl M1 W1).drew) ga (fun k _ h=>.inl ((HN.out k).2 (.inl h))) (fun k _ h=>.inl ((HN.out k).2 (.inl h))),
   fun k hk=>by
    rcases hk with hk|hk
    .
     rcases gi k hk with h|h
     . exact .inl ((HN.out k).2 (.inl h))
     . right;have:W1.heap.size<=k:=h;omega
    . exact .inl ((HN.out k).2 (.inr hk))⟩
 .
  rintro D N W2 gQ gz ⟨M1,hN,hj,hE⟩ gO gu gy
  gi_wp2
  refine⟨by simp,.inl ⟨_,_,rfl,run_takeDeferred gy,?_⟩⟩;have gl:n₀<=D:=by omega
  refine⟨_,results_none rfl _ _ _,⟨_,rfl⟩,M1,?_,?_,?_⟩
  . exact g8.out _ _ _ _ hj ((Wr.refl _ _).putObj (.inl ⟨gl,fun h=>gz ((hN D).2 (.inl h))⟩) _)
  . exact((gB.out (fun k=>n₀<=k)).trans gu (fun _ _ h=>h) (fun _ _ h=>h)).putObj (.inl gl) _
  .
   intro k hk;rcases hE.it.sub k hk with h|h
   . exact .inl h
   . right;omega
open Go.RowKit
def Zcr (d:Zag):List Nat:=(Zd2 d.pool).filter (fun i=>decide (Zaz d i=0))
theorem Zp0 (p:Zam):(Zd2 p).Nodup:=(List.nodup_range).filter _
theorem Zqf (d:Zag):(Zcr d).Nodup:=(Zp0 d.pool).filter _
theorem Zkq {d:Zag}{i:Nat}(h:i∈Zcr d):d.pool.tk i=true/\Zaz d i=0:=by
 unfold Zcr at h;rw[List.mem_filter] at h;exact⟨(List.mem_filter.1 h.1).2,by simpa using h.2⟩
theorem Zly (f g:Nat->Bool):∀ k,((((List.range k).filter f).filter g).length:Int)=Zaw k (fun i=>if f i=true then (if g i=true then 1 else 0) else 0)
 | 0=>by simp[Zaw]
 | k+1=>by
   rw[List.range_succ,List.filter_append,List.filter_append,List.length_append];have ih:=Zly f g k;rw[Int.natCast_add,ih];cases hf:f k<;>cases hg:g k<;>simp[Zaw,hf,hg,List.filter]
theorem Zoi {d:Zag}{ext:Nat->Int}(h:Zch d ext):(Zcr d).length=d.dead:=by
 have h1:=h.dead;have h2:((Zcr d).length:Int)=Zaw d.pool.at_.length (dead1 (Zab d) (Zaz d)):=by
  unfold Zcr Zd2 Zej;rw[Zly];refine Zba _ fun i _=>?_
  unfold dead1 Zab Zam.get;cases ht:d.pool.tk i<;>simp
 unfold Zem at h1;omega
structure Zd3 (d:Zag)(k:Nat)(d':Zag):Prop where
 vars:d'.vars=d.vars
 level:d'.level=d.level
 counts:d'.counts=d.counts
 dead:d'.dead=d.dead
 room:d'.pool.room=d.pool.room
 alen:d'.pool.at_.length=d.pool.at_.length
 keep:∀ i,i∉(Zcr d).take k->d'.pool.tk i=d.pool.tk i/\d'.pool.nd i=d.pool.nd i
 gone:∀ i,i∈(Zcr d).take k->d'.pool.tk i=false
 tab:∀ v,v<d.vars.length->∀ lo hi id,d'.tab v (lo,hi)=some id↔Zab d' id=some ⟨v,lo,hi⟩
 many:d'.pool.many+k=d.pool.many
theorem Zd3.start {d:Zag}(ht:∀ v,v<d.vars.length->∀ lo hi id,d.tab v (lo,hi)=some id↔Zab d id=some ⟨v,lo,hi⟩):Zd3 d 0 d :=
 ⟨rfl,rfl,rfl,rfl,rfl,rfl,fun _ _=>⟨rfl,rfl⟩,fun i h=>by simp at h,ht,rfl⟩
def Zux (d:Zag)(i:Nat)(b:BN):Zag:={ d with pool:=d.pool.give i,tab:=fun v=>if v=b.v then putF (d.tab v) (b.lo,b.hi) none else d.tab v }
theorem Zd3.at {d d':Zag}{k i:Nat}(h:Zd3 d k d')(hi:(Zcr d)[k]?=some i):d'.pool.tk i=true/\d'.pool.nd i=d.pool.nd i:=by
 obtain⟨g0,e⟩:=List.getElem?_eq_some_iff.1 hi;have hm:i∈Zcr d:=e ▸ List.getElem_mem g0;have hn:i∉(Zcr d).take k:=by
  intro hh;rw[List.mem_take_iff_getElem] at hh;obtain⟨j,hj,e2⟩:=hh;have g1:=List.pairwise_iff_getElem.1 (Zqf d) j k (by omega) g0 (by omega);exact g1 (e2.trans e.symm)
 have:=h.keep i hn;exact⟨this.1.trans (Zkq hm).1,this.2⟩
theorem Zd3.next {d d':Zag}{k i:Nat}(h:Zd3 d k d')(hi:(Zcr d)[k]?=some i)(hl:d'.pool.taken.length=d'.pool.at_.length)(hat:i<d'.pool.at_.length)(hm:1<=d'.pool.many) :
 Zd3 d (k+1) (Zux d' i (bnOf (d'.pool.nd i))):=by
 obtain⟨g2,e⟩:=List.getElem?_eq_some_iff.1 hi;obtain⟨ht,g3⟩:=h.at hi;have e1:(Zcr d).take (k+1)=(Zcr d).take k++[i]:=by rw[List.take_succ_eq_append_getElem g2,e]
 have tk:∀ j,(d'.pool.give i).tk j=if j=i then false else d'.pool.tk j:=fun j=>Zk7 (by rw[hl];exact hat) j
 have nd:∀ j,(d'.pool.give i).nd j=if j=i then rn0 else d'.pool.nd j:=fun j=>Zic hat j
 have g0:Zab d' i=some (bnOf (d'.pool.nd i)):=by unfold Zab Zam.get;rw[if_pos ht];rfl
 have g1:∀ j,Zab (Zux d' i (bnOf (d'.pool.nd i))) j=if j=i then none else Zab d' j:=fun j=>by
  unfold Zab
  show ((d'.pool.give i).get j).map bnOf=_
  rw[Zam.give_get (by rw[hl];exact hat) hat]
  by_cases e:j=i<;>simp[e]
 refine⟨h.vars,h.level,h.counts,h.dead,h.room,?_,fun j hj=>?_,fun j hj=>?_,fun v hv lo hY id=>?_,?_⟩
 .
  show (d'.pool.at_.set i rn0).length=_
  rw[List.length_set];exact h.alen
 .
  rw[e1] at hj;simp only[List.mem_append,List.mem_singleton,not_or] at hj
  show (d'.pool.give i).tk j=_/\(d'.pool.give i).nd j=_
  rw[tk,nd,if_neg hj.2,if_neg hj.2];exact h.keep j hj.1
 .
  rw[e1] at hj;simp only[List.mem_append,List.mem_singleton] at hj
  show (d'.pool.give i).tk j=_
  rw[tk]
  by_cases e2:j=i
  . rw[if_pos e2]
  . rw[if_neg e2];exact h.gone j (hj.resolve_right e2)
 .
  rw[g1];have h0:=h.tab v hv lo hY id
  show (if v=(bnOf (d'.pool.nd i)).v then putF (d'.tab v) ((bnOf (d'.pool.nd i)).lo,(bnOf (d'.pool.nd i)).hi) none else d'.tab v) (lo,hY)=some id↔_
  by_cases e2:id=i
  .
   subst e2;simp only[if_true];constructor
   .
    intro hh;exfalso
    by_cases e3:v=(bnOf (d'.pool.nd id)).v
    .
     rw[if_pos e3] at hh;unfold putF at hh
     by_cases e4:(lo,hY)=((bnOf (d'.pool.nd id)).lo,(bnOf (d'.pool.nd id)).hi)
     . rw[if_pos e4] at hh;cases hh
     . rw[if_neg e4,h0,g0] at hh;cases hh;exact e4 rfl
    . rw[if_neg e3,h0,g0] at hh;cases hh;exact e3 rfl
   . intro hh;cases hh
  .
   rw[if_neg e2,<- h0]
   by_cases e3:v=(bnOf (d'.pool.nd i)).v
   .
    rw[if_pos e3];unfold putF
    by_cases e4:(lo,hY)=((bnOf (d'.pool.nd i)).lo,(bnOf (d'.pool.nd i)).hi)
    .
     rw[if_pos e4];constructor
     . intro hh;cases hh
     . intro hh;exfalso;have q:=(h.tab v hv lo hY i).2 (by rw[g0];cases e4;rw[e3]);rw[hh] at q;cases q;exact e2 rfl
    . rw[if_neg e4]
   . rw[if_neg e3]
 .
  show d'.pool.many-1+(k+1)=_
  have:=h.many;omega
structure Zbg (d d':Zag):Prop where
 vars:d'.vars=d.vars
 level:d'.level=d.level
 counts:d'.counts=d.counts
 room:d'.pool.room=d.pool.room
 dead:d'.dead=0
 alen:d'.pool.at_.length=d.pool.at_.length
 nodes:∀ i,Zab d' i=if 0<Zaz d i then Zab d i else none
 ext:∀ i b,Zab d' i=some b->Za0 d' i=Za0 d i
 tab:∀ v,v<d.vars.length->∀ lo hi id,d'.tab v (lo,hi)=some id↔Zab d' id=some ⟨v,lo,hi⟩
 many:d'.pool.many+d.dead=d.pool.many
theorem Zd3.done {d d':Zag}{ext:Nat->Int}(h:Zd3 d (Zcr d).length d')(hl:Zch d ext)(hat:∀ i,d.pool.tk i=true->i<d.pool.at_.length):Zbg d { d' with dead:=0 }:=by
 have hk:(Zcr d).take (Zcr d).length=Zcr d:=List.take_length;have g1:∀ i,d.pool.tk i=true->Zaz d i=0->i∈Zcr d:=fun i h1 h2=>by
  unfold Zcr Zd2 Zej;simp only[List.mem_filter,List.mem_range,decide_eq_true_eq];exact⟨⟨hat i h1,h1⟩,h2⟩
 refine⟨h.vars,h.level,h.counts,h.room,rfl,h.alen,fun i=>?_,fun i b hb=>?_,h.tab,by rw[<- Zoi hl];exact h.many⟩
 .
  show (d'.pool.get i).map bnOf=if 0<Zaz d i then (d.pool.get i).map bnOf else none
  unfold Zam.get
  by_cases hc:i∈Zcr d
  . have h1:=h.gone i (by rw[hk];exact hc);have h2:=(Zkq hc).2;simp[h1,h2]
  .
   obtain⟨h1,h2⟩:=h.keep i (by rw[hk];exact hc);rw[h1,h2]
   by_cases h3:0<Zaz d i
   . rw[if_pos h3]
   .
    rw[if_neg h3];cases ht:d.pool.tk i with
    | false=>rfl
    | true=>exact absurd (g1 i ht (by omega)) hc
 .
  have g0:(d'.pool.get i).map bnOf=some b:=hb;have ht:d'.pool.tk i=true:=by
   unfold Zam.get at g0;cases ht:d'.pool.tk i with
   | true=>rfl
   | false=>rw[ht] at g0;simp at g0
  have hc:i∉Zcr d:=fun hc=>by rw[h.gone i (by rw[hk];exact hc)] at ht;cases ht
  obtain⟨h1,h2⟩:=h.keep i (by rw[hk];exact hc)
  show (if d'.pool.tk i=true then ((d'.pool.nd i).refs:Int) else 0)=if d.pool.tk i=true then ((d.pool.nd i).refs:Int) else 0
  rw[h1,h2]
theorem Zjt {d:Zag}{ext:Nat->Int}(hl:Zch d ext)(h0:d.dead=0){i:Nat}{b:BN}(hb:Zab d i=some b):0<Zaz d i:=by
 have h1:=hl.dead;rw[h0] at h1;have h2:=Zjz (f:=dead1 (Zab d) (Zaz d)) d.pool.at_.length (fun i _=>Zi7 _ _ i) (hl.cnt.lt i b hb);unfold Zem at h1;unfold dead1 at h2;rw[hb] at h2
 by_cases h:Zaz d i=0
 . simp only[h,if_true] at h2;unfold dead1 at h1;omega
 . omega
theorem Zbg.none {d:Zag}{V:Nat->BF}(hk:Zan d V)(h0:d.dead=0):Zbg d d:=by
 refine⟨rfl,rfl,rfl,rfl,h0,rfl,fun i=>?_,fun _ _ _=>rfl,hk.tab,by omega⟩;cases hb:Zab d i with
 | none=>simp
 | some b=>rw[if_pos (Zjt hk.live h0 hb)]
theorem Zot (d:Zag)(i:Nat):0<=Za0 d i:=by unfold Za0;split<;>omega
section
variable {d d':Zag}{V:Nat->BF}
theorem Zbg.sub (r:Zbg d d'){i:Nat}{b:BN}(h:Zab d' i=some b):Zab d i=some b/\0<Zaz d i:=by
 rw[r.nodes] at h;split at h
 . rename_i hc;exact⟨h,hc⟩
 . cases h
theorem Zbg.cnt (r:Zbg d d'):Zaz d'=Zaz d:=by funext i;unfold Zaz;rw[r.counts]
theorem Zbg.lev (r:Zbg d d'):levN d'=levN d:=by funext v;unfold levN;rw[r.level]
theorem Zbg.kid (r:Zbg d d')(hk:Zan d V){i:Nat}{b:BN}(h:Zab d' i=some b){e:Nat}(he:e=b.lo\/e=b.hi):okE (Zab d') e:=by
 obtain⟨h1,h2⟩:=r.sub h;have ho:okE (Zab d) e:=by
  rcases he with rfl|rfl
  . exact hk.dag.okLo i b h1
  . exact hk.dag.okHi i b h1
 rcases ho with h0|⟨c,hc⟩
 . exact .inl h0
 . refine .inr ⟨c,?_⟩;rw[r.nodes,if_pos (hk.live.cnt.pos_of_live h1 h2 he hc (Zot d _))];exact hc
theorem Zbg.lvE (r:Zbg d d')(h0:Zab d 0=Option.none){n:Nat}{lev:Nat->Nat}{e:Nat}(he:okE (Zab d') e):Go.Proofs.YtkbegdkpboklpaaGreat.lvE n lev (Zab d') e=Go.Proofs.YtkbegdkpboklpaaGreat.lvE n lev (Zab d) e:=by
 unfold Go.Proofs.YtkbegdkpboklpaaGreat.lvE;rcases he with he|⟨b,hb⟩
 .
  have:Zab d' 0=Option.none:=by rw[r.nodes,h0];simp
  rw[he,h0,this]
 . rw[hb,(r.sub hb).1]
theorem Zbg.ok (r:Zbg d d')(hk:Zan d V):Zan d' V:=by
 have g0:∀ e,okE (Zab d') e->Go.Proofs.YtkbegdkpboklpaaGreat.lvE d.vars.length (levN d) (Zab d') e=Go.Proofs.YtkbegdkpboklpaaGreat.lvE d.vars.length (levN d) (Zab d) e:=fun e he=>r.lvE hk.dag.none0 he
 refine⟨?_,⟨?_,?_,fun i b hb=>by rw[r.counts];exact hk.live.has i b (r.sub hb).1⟩,by rw[r.vars];exact r.tab,by rw[r.counts];exact hk.clen,by rw[r.vars];exact hk.small,by rw[r.vars,r.lev];exact hk.inv,by rw[r.vars,r.lev];exact hk.vlt⟩
 . rw[r.vars,r.lev];exact hk.dag.restrict (Zab d') (fun i b h=>(r.sub h).1) (fun i b h=>⟨r.kid hk h (.inl rfl),r.kid hk h (.inr rfl)⟩)
 . rw[r.alen,r.cnt];exact(hk.live.cnt.collect (Zab d') r.nodes).congr (fun x b hb=>r.ext x b hb)
 .
  rw[r.dead];unfold Zem;rw[Zba (g:=fun _=>0) _ (fun i _=>?_),Zdm]
  . rfl
  .
   unfold dead1;cases hb:Zab d' i with
   | none=>rfl
   | some b=>have:=(r.sub hb).2;rw[r.cnt];simp;omega
end
end Go.Proofs.YtkbegdkpboklpaaGreat

namespace Go.Proofs.YtkbegdkpboklpaaGreat
open Go.Proofs.Tryz
open Go.RowKit Go.Shelf
attribute [local go_sem] Oper.semAt_some
theorem Ze0 {F:Fence}{fu:Nat}(T e:TypeId)(size bytes:Nat)(z:Value)(hT:prog.underlying T=some (.slice e))(he:(prog.info? e).map (fun i=>(i.zero,i.size,i.bytes))=some (some z,size,bytes))(hzs:z.cells.size=size)(hsz:0<size)
 {wr:World} {ops:Array Oper} {rest:List Oper} {op:Oper} {a:Act} {Q:Exit->Act->World->Prop} {W:World} (hgd:op.guard=none) (s x:Operand)
 (hop:op.op=.call { callee:=.builtin .append,args:=#[s,x],argTypes:=#[T,T] })
 {o:Own} {r:Role} {v:Value} {n:Nat} {xs:List Value} (hs:a.eval s=v) {N:Nat} (hx:a.eval x=.slice (some ⟨N,0,none⟩) 1 1) {news:Array Value}
 (hW:W=wr.alloc (.cells news e)) (hN:N=wr.heap.size) (hl:news.size=size) (h1:∀ u∈news.toList,u.oneCell'=true) (h:RowR o wr r e size v n xs) (hlt:Zaj o wr) (hn:n<1000000000) (hb:bytes<=10000)
 (hK:∀ g cap w' o',RowR o' w' r e size (.slice (some ⟨g,0,none⟩) (n+1) cap) (n+1) (xs++news.toList)->Chg (· = r) o o' wr w'->Zaj o' w'->wpListIn F fu prog ops Q rest (a.put op.dst (.slice (some ⟨g,0,none⟩) (n+1) cap)) w'):wpListIn F fu prog ops Q (op::rest) a W:=by
 subst hN;subst hW
 obtain⟨g,cap,w',o',hr,h2,h3,h4⟩:=Zi0 T e op.type size bytes z hT he hzs hsz news hl h1 h hlt hn hb;refine wpListIn_plain hgd fun K g1=>?_
 unfold Oper.wpIn;refine⟨?_,?_⟩
 . simp[Oper.about,hop,resolve,Target.leads,Sem.run_pure]
 . rw[Oper.semAt_plain F _ _ (by rw[hop];intro c g0;cases g0)];simp only[execOp,hop,resolve,invoke,builtin,Sem.run_bind,Sem.run_pure,Result.andThen_ok,List.map_toArray,List.map_cons,List.map_nil,hs,hx,hr];exact g1 _ _ (hK g cap w' o' h2 h3 h4)
theorem Zgx (w:World)(o:Obj):(w.alloc o).drew=w.drew.alloc o:=rfl
theorem Zp4 {F:Fence}{n:Nat}{P:Program}{c:Code}{Q:Exit->Act->World->Prop}{a:Act}{w:World}(W1:World)(h:∃ A,c.wpIn F n P (fun e a' W'=>e=.normal/\a'=A/\W'=W1) a w/\Q .normal A W1):c.wpIn F n P Q a w:=by
 obtain⟨A,h1,h2⟩:=h;refine wpIn_mono h1 ?_;rintro _ _ _ ⟨rfl,rfl,rfl⟩;exact h2
def Zfw (d:Zag)(pre:List Nat):List Nat:=pre.filter (fun i=>decide (Zaz d i=0))
structure GatS (d:Zag)(w:World)(sb:Nat)(pre:List Nat)(M:Nat->Prop)(W:World)(v:Value)(oG:Own):Prop where
 mm:∀ k,M k↔(k=w.heap.size\/k=w.heap.size+1\/oG k=some .slots)
 low:Below w.heap.size w W
 boxs:W.heap[w.heap.size]?=some (.cells #[.pointer (some ⟨sb,0,none⟩)] 129 (0,0))
 boxg:W.heap[w.heap.size+1]?=some (.cells #[v] 262 (0,0))
 row:RowR oG W .slots 254 5 v (Zfw d pre).length ((Zfw d pre).flatMap fun i=>rnV (d.pool.nd i))
 lt:Zaj oG W
 ge:∀ k r,oG k=some r->r=.slots/\w.heap.size+2<=k
def Gat (d:Zag)(w:World)(sb:Nat)(pre:List Nat)(M:Nat->Prop)(W:World):Prop:=∃ v oG,GatS d w sb pre M W v oG
theorem GatS.minds {d:Zag}{w:World}{sb:Nat}{pre:List Nat}{M:Nat->Prop}{W W':World}{v:Value}{oG:Own}(h:GatS d w sb pre M W v oG)(hw:Wr (fun k=>w.heap.size<=k/\¬ M k) W W'):GatS d w sb pre M W' v oG:=by
 have hk:∀ k,k<W.heap.size->M k->W'.heap[k]?=W.heap[k]?:=fun k h1 h2=>hw.keep k h1 (fun e=>e.2 h2)
 have hm:=h.mm
 refine⟨hm,h.low.trans (hw.below (fun k h=>h.1) h.low.size),(hk _ (Array.getElem?_eq_some_iff.1 h.boxs).1 ((hm _).2 (.inl rfl))).trans h.boxs,(hk _ (Array.getElem?_eq_some_iff.1 h.boxg).1 ((hm _).2 (.inr (.inl rfl)))).trans h.boxg,
  h.row.keep (fun g hg=>hk g (h.lt g _ hg) ((hm g).2 (.inr (.inr hg)))) (fun _ h=>h),h.lt.mono hw.size,h.ge⟩
theorem Zu5 {d:Zag}{pre:List Nat}{x:Nat}(h:Zaz d x=0):Zfw d (pre++[x])=Zfw d pre++[x]:=by unfold Zfw;rw[List.filter_append];simp[h]
theorem Zxk {d:Zag}{pre:List Nat}{x:Nat}(h:Zaz d x≠0):Zfw d (pre++[x])=Zfw d pre:=by unfold Zfw;rw[List.filter_append];simp[h]
theorem GatS.add {d:Zag}{w:World}{sb:Nat}{pre:List Nat}{M:Nat->Prop}{W W1:World}{v v':Value}{oG oG':Own}{x:Nat}(h:GatS d w sb pre M W v oG)(hc:Zaz d x=0)
 (hr:RowR oG' W1 .slots 254 5 v' ((Zfw d pre).length+1) (((Zfw d pre).flatMap fun i=>rnV (d.pool.nd i))++rnV (d.pool.nd x))) (hg:Chg (· = .slots) oG oG' W W1) (hl:Zaj oG' W1) {n:Nat} (hn:n<=W.heap.size) :
 ∃ M',Gat d w sb (pre++[x]) M' (W1.setCell ⟨w.heap.size+1,0,none⟩ v')/\Wr (fun k=>M k\/n<=k) W (W1.setCell ⟨w.heap.size+1,0,none⟩ v')/\∀ k,M' k->M k\/n<=k:=by
 have none:∀ k,k<w.heap.size+2->oG k=Option.none:=fun k hk=>by
  cases e:oG k with
  | none=>rfl
  | some r=>have:=(h.ge k r e).2;omega
 have g0:w.heap.size+1<W.heap.size:=(Array.getElem?_eq_some_iff.1 h.boxg).1;have k0:=(hg.alien (by omega) (none w.heap.size (by omega))).trans h.boxs;have k1:=(hg.alien g0 (none (w.heap.size+1) (by omega))).trans h.boxg;have ge':∀ k r,oG' k=some r->r=.slots/\w.heap.size+2<=k:=fun k r hk=>by
  by_cases e:oG' k=oG k
  . rw[e] at hk;exact h.ge k r hk
  .
   obtain⟨a1,q,a2,a3⟩:=hg.new k e;rw[hk] at a2;cases a2
   exact⟨a3,by omega⟩
 refine⟨fun k=>k=w.heap.size\/k=w.heap.size+1\/oG' k=some .slots,⟨v',oG',⟨fun k=>Iff.rfl,?_,?_,Zae k1 _,?_,hl.mono (by simp[World.setCell]),ge'⟩⟩,?_,fun k hk=>?_⟩
 . have:Below w.heap.size w W1:=h.low.trans ⟨hg.os,hg.tape,hg.output,hg.size,fun k hk=>hg.alien (Nat.lt_of_lt_of_le hk h.low.size) (none k (by omega))⟩;exact this.setCell (p:=⟨w.heap.size+1,0,Option.none⟩) (by show _<=w.heap.size+1;omega) _
 . exact(Zai (by show _≠w.heap.size+1;omega) _).trans k0
 . rw[Zu5 hc,List.length_append,List.flatMap_append];simp only[List.length_singleton,List.flatMap_cons,List.flatMap_nil,List.append_nil];exact hr.setCell_other (fun e=>by have:=(ge' _ _ e).2;simp at this) _
 . have:Wr (fun k=>M k\/n<=k) W W1:=⟨hg.os,hg.tape,hg.output,hg.size,fun k hk hm=>hg.block k hk fun r hr e=>hm (.inl ((h.mm k).2 (.inr (.inr (by rw[hr,e])))))⟩;exact this.setCell (p:=⟨w.heap.size+1,0,Option.none⟩) (.inl (.inl ((h.mm _).2 (.inr (.inl rfl))))) _
 .
  rcases hk with hk|hk|hk
  . exact .inl ((h.mm k).2 (.inl hk))
  . exact .inl ((h.mm k).2 (.inr (.inl hk)))
  .
   by_cases e:oG' k=oG k
   . rw[e] at hk;exact .inl ((h.mm k).2 (.inr (.inr hk)))
   . have:=(hg.new k e).1;right;omega
theorem GatS.no {d:Zag}{w:World}{sb:Nat}{pre:List Nat}{M:Nat->Prop}{W:World}{v:Value}{oG:Own}(h:GatS d w sb pre M W v oG)(k:Nat)(hk:k<w.heap.size+2):oG k=none:=by
 cases e:oG k with
 | none=>rfl
 | some r=>have:=(h.ge k r e).2;omega
theorem GatS.drew {d:Zag}{w:World}{sb:Nat}{pre:List Nat}{M:Nat->Prop}{W:World}{v:Value}{oG:Own}(h:GatS d w sb pre M W v oG):GatS d w sb pre M W.drew v oG:=h.minds ((Wr.refl _ W).drew)
def Zw5 (o:Own)(W2:World)(sb:Nat)(d:Zag)(s:Za7)(k:Nat)(wr:World):Prop:=∃ o1 d1,Zao o1 wr sb d1 s/\Zaj o1 wr/\Zd3 d k d1/\Chg Zar o o1 W2 wr
theorem Zw5.next {o o1 o2:Own}{W2 wr w3 w4 w4' w5:World}{sb:Nat}{d d1:Zag}{s:Za7}{k i:Nat}{N:RN}(hs1:Zao o1 wr sb d1 s)(hl1:Zaj o1 wr)(hr1:Zd3 d k d1)(hc1:Chg Zar o o1 W2 wr)(hi:(Zcr d)[k]?=some i)(hN:d1.pool.nd i=N)(hb3:Below wr.heap.size wr w3)
 (ht:Zdg o1 w4 N.v (s.ts.getD N.v 0) (putF (d1.tab N.v) (N.lo,N.hi) none)) (hct:Chg (· = .tmap N.v) o1 o1 w3 w4) (hl4:Zaj o1 w4) (hb:Below w4.heap.size w4 w4')
 (hp:Zat o2 w5 s.pb (d1.pool.give i)) (hcp:Chg (fun r=>r=.pool\/r=.slots\/r=.taken\/r=.free) o1 o2 w4' w5) (hl5:Zaj o2 w5):Zw5 o W2 sb d s (k+1) w5:=by
 have h3:=hs1.below hl1 hb3;have g1:=hl1.mono hb3.size;have h4:=h3.setTab g1 ht hct;have g2:=h4.below hl4 hb;have h5:=g2.setPool (hl4.mono hb.size) hp hcp;have g0:i<d1.pool.at_.length:=(hs1.pool.tk_lt (hr1.at hi).1).2;have e:(fun u=>if u=N.v then putF (d1.tab N.v) (N.lo,N.hi) none else d1.tab u)=(fun u=>if u=N.v then putF (d1.tab u) (N.lo,N.hi) none else d1.tab u):=by
  funext u
  by_cases h:u=N.v
  . subst h;rfl
  . simp[h]
 rw[e] at h5;refine⟨o2,Zux d1 i (bnOf N),h5,hl5,?_,hc1.trans ((Chg.of_below hb3 _ o1).trans ((hct.mono ?_).trans ((Chg.of_below hb _ o1).trans (hcp.mono ?_))))⟩
 .
  have:=hr1.next hi hs1.pool.len g0 (by
   have h1:=hs1.pool.cnt;have h2:=Zpx (f:=fun j=>if d1.pool.tk j=true then (1:Int) else 0) (fun j _=>by split<;>omega) g0 (by simp[(hr1.at hi).1]);omega)
  rw[hN] at this;exact this
 . rintro r rfl;exact .inr (.inr (.inr (.inr (.inr (.inr (.inl ⟨_,.inr rfl⟩))))))
 . rintro r h;exact .inr (.inr (.inr (.inr (.inl h))))
theorem Zdl {P:Program}{S:World->Prop}{Q:Exit->Act->World->Prop}{ops:Array Oper}{o:Oper}{a:Act}{w:World}{f:FuncId}{args:Array Value}{R:Value->World->Prop}(hg:o.guard=none)
 (he:(execOp a.eval o).run P w=.ok (.enter f args) w) (hc:Calls P f args w fun e w'=>∃ v,e=.returned v/\R v w') (h:∀ v w',R v w'->Q .normal (a.put o.dst v) w'):Zcl P ops Q S true [(some o,true)] a w:=by
 refine Zdd hg fun K hK=>?_
 unfold Oper.wp;simp only[he,Oper.upon];exact hc.mono fun e w' ⟨v,h1,h2⟩=>by subst h1;exact hK _ _ (h v w' h2)
theorem Zh0 {o:Own}{w:World}{sb:Nat}{d:Zag}(h:Zav o w sb d)(h0:d.dead=0) :
 Calls prog 212 #[.pointer (some ⟨sb,0,none⟩)] w fun x w'=>x=.returned (.int .i64 0)/\Below w.heap.size w w':=by
 obtain⟨s,h⟩:=h;obtain⟨c0,c1,c2,c3,c4,f0⟩:=cells5 h.blk;rw[h0] at c4;obtain⟨w1,g0⟩:∃ w1,w1=w.alloc (.cells #[.pointer (some ⟨sb,0,none⟩)] 129):=⟨_,rfl⟩;have g1:Below w.heap.size w w1:=by rw[g0];exact Zad w _
 have cB:w1.cell? ⟨w.heap.size,0,none⟩=some (.pointer (some ⟨sb,0,none⟩)):=by rw[g0];exact cell1 (heap_alloc_new w _)
 have c4':=(g1.cell (p:=⟨sb,4,none⟩) (Zaa c4)).trans c4;have HW:Hid (_=w1):=Hd g0.symm;have HB:=Hd g1;clear h c0 c1 c2 c3 c4 f0 g0 g1 h0;refine(callsIn_wide (n:=9)).1 ?_;refine callsIn_of_wp_marks func212 rfl trivial ?_;refine wpIn_wide.2 ?_;simp only[ntmps212,List.size_toArray,List.length_cons,List.length_nil,Nat.reduceAdd,Nat.reduceSub,Array.replicate_succ,Array.replicate_zero,List.push_toArray,List.append_toArray,List.nil_append,List.cons_append];go_upto_region 1 with fail;rw[HW.out];go_wp2_with fail;exact⟨_,results_tmp rfl _ _ _,rfl,HB.out⟩
theorem Zj9 {o:Own}{w:World}{sb:Nat}{d:Zag}{V:Nat->BF}(h:Zav o w sb d)(hlt:Zaj o w)(hk:Zan d V)(h0:d.dead≠0) :
 Calls prog 212 #[.pointer (some ⟨sb,0,none⟩)] w fun x w'=>x=.returned (.int .i64 d.dead)/\∃ o' d',Zav o' w' sb d'/\Zaj o' w'/\Zbg d d'/\Chg Zar o o' w w':=by
 obtain⟨s,h⟩:=h;obtain⟨c0,c1,c2,c3,c4,f0⟩:=cells5 h.blk;have kn:((d.dead:Int) == 0)=false:=by simpa using h0
 obtain⟨w1,gm⟩:∃ w1,w1=w.alloc (.cells #[.pointer (some ⟨sb,0,none⟩)] 129):=⟨_,rfl⟩;have gJ:Below w.heap.size w w1:=by rw[gm];exact Zad w _
 have hB:w1.heap[w.heap.size]?=some (.cells #[.pointer (some ⟨sb,0,none⟩)] 129 (0,0)):=by rw[gm];exact heap_alloc_new w _
 have hs1:w1.heap.size=w.heap.size+1:=by rw[gm];simp
 obtain⟨w2,g6⟩:∃ w2,w2=w1.alloc (.cells #[.slice none 0 0] 262):=⟨_,rfl⟩;have gI:Below w.heap.size w w2:=by rw[g6];exact gJ.alloc (by omega) _
 have gL:w2.heap[w.heap.size]?=some (.cells #[.pointer (some ⟨sb,0,none⟩)] 129 (0,0)):=by rw[g6];exact(Below.heap_alloc w1 _ _ (by omega)).trans hB
 have hh:w2.heap[w.heap.size+1]?=some (.cells #[.slice none 0 0] 262 (0,0)):=by rw[g6,<- hs1];exact heap_alloc_new w1 _
 have gD:w2.heap.size=w.heap.size+2:=by rw[g6];simp[hs1]
 have cB1:=cell1 hB;have cB2:=cell1 gL;have cS1:=(gJ.cell (p:=⟨sb,4,none⟩) (Zaa c4)).trans c4;have cS2:=(gI.cell (p:=⟨sb,1,none⟩) (Zaa c1)).trans c1;have HW1:Hid (_=w1):=Hd gm.symm;have hq:Hid (_=w2):=Hd g6.symm;have HB2:=Hd gI;have HH:=Hd h;have HE:=Hd (callsIn_wide.1 (Yaa Fence.wide 9 trivial rfl s.pb w2));clear h c0 c1 c2 c3 c4 f0 gm g6 gJ gI;refine(callsIn_wide (n:=9)).1 ?_;refine callsIn_of_wp_marks func212 rfl trivial ?_;refine wpIn_wide.2 ?_;simp only[ntmps212,List.size_toArray,List.length_cons,List.length_nil,Nat.reduceAdd,Nat.reduceSub,Array.replicate_succ,Array.replicate_zero,List.push_toArray,List.append_toArray,List.nil_append,List.cons_append];go_upto_region 1 with fail;rw[HW1.out];go_upto_region 4 with fail;rw[hq.out];go_wp2_with fail;refine HE.out.mono ?_;rintro x w3 ⟨rfl,gl⟩;go_wp2_with fail;obtain⟨w3',g4⟩:∃ w3',w3'=w2.alloc (.cells #[.pointer (some ⟨s.pb,0,none⟩)] 190):=⟨_,rfl⟩;rw[<- g4];have kj:w3'.heap.size=w.heap.size+3:=by rw[g4];simp[gD]
 have g5:Below w.heap.size w w3':=by rw[g4];exact HB2.out.alloc (by omega) _
 have hp:w3'.heap[w.heap.size]?=some (.cells #[.pointer (some ⟨sb,0,none⟩)] 129 (0,0)):=by rw[g4];exact(Below.heap_alloc w2 _ _ (by omega)).trans gL
 have hd:w3'.heap[w.heap.size+1]?=some (.cells #[.slice none 0 0] 262 (0,0)):=by rw[g4];exact(Below.heap_alloc w2 _ _ (by omega)).trans hh
 have hb:w3'.cell? ⟨w.heap.size+2,0,none⟩=some (.pointer (some ⟨s.pb,0,none⟩)):=by rw[g4,<- gD];exact cell1 (heap_alloc_new w2 _)
 have gh:Hid (Zao o w sb d s):=HH;have g7:=Hd hlt;have HK:=Hd hk;have HG:=Hd (Zqg Fence.wide 8 trivial trivial trivial rfl (by omega) (w.heap.size+2) w.heap.size s.pb HH.out.pool hlt (Nat.le_refl _) w3' g5 (by omega) (by omega) hb);clear g4 hB gL hh cB1 cB2 cS1 cS2 HE HW1 hq hs1 gD hb;refine(wpIn_wide (n:=9)).1 ?_;refine Zsc rfl (by omega) (gf:=244) (lb:=#[.pointer (some ⟨w.heap.size+2,0,none⟩)]) rfl trivial (enters_of func244 (by kernel_rfl) rfl) HG.out (by omega) (by rintro k rfl;omega) (fun x=>rfl)
  (Gat d w sb) ?_ ?_ (fun k=>k=w.heap.size\/k=w.heap.size+1) (by rintro k rfl h;omega) ⟨.slice none 0 0,fun _=>none,(⟨fun k=>by simp,g5,hp,hd,RowR.nil _ _ _ _ _,fun k r h=>(by cases h),fun k r h=>(by cases h)⟩:GatS d w sb [] _ w3' (.slice none 0 0) (fun _=>none))⟩
  (fun x a' W W1=>∃ Bn,W.heap.size<=Bn/\W1.heap[Bn]?=some (.cells #[.int .i64 (d.pool.nd x).id,.int .i64 (d.pool.nd x).v,.int .i64 (d.pool.nd x).lo,.int .i64 (d.pool.nd x).hi,.int .i64 (d.pool.nd x).refs] 254 (0,0))/\a'={ tmps:=#[Value.pointer (some { block:=sb,off:=0 }),Value.pointer (some { block:=w.heap.size,off:=0 }),Value.int IntKind.i64 0,Value.pointer (some { block:=w.heap.size+1,off:=0 }),Value.pointer (some { block:=Bn,off:=0 }),undef,undef,Value.pointer (some { block:=sb,off:=0 }),Value.bool false,Value.bool false,Value.pointer (some { block:=sb,off:=0 }),Value.pointer (some { block:=sb,off:=0 }),Value.pointer (some { block:=sb,off:=4 }),Value.int IntKind.i64 ↑d.dead,Value.bool false,Value.bool false,Value.pointer (some { block:=sb,off:=0 }),Value.pointer (some { block:=sb,off:=0 }),Value.pointer (some { block:=sb,off:=1 }),Value.pointer (some { block:=s.pb,off:=0 }),Value.func (Fn.func 244) #[] #[Value.pointer (some { block:=w.heap.size+2,off:=0 })],Za5 (d.pool.nd x),undef,undef,undef,undef,undef,undef,undef,undef,undef,undef,undef,undef,undef,undef,undef,undef,undef,undef,undef,undef,undef,undef,undef,undef,undef,undef,undef,undef,undef,undef,undef,undef,undef,undef,undef,undef,undef,undef,undef,undef,undef,undef,undef,undef,undef],defers:=[] }) ?_ ?_ ?_ ?_
 .
  rintro pre M W ⟨v,oG,hS⟩ k hk;rcases(hS.mm k).1 hk with rfl|rfl|hg
  . exact⟨Nat.le_refl _,(Array.getElem?_eq_some_iff.1 hS.boxs).1⟩
  . exact⟨by omega,(Array.getElem?_eq_some_iff.1 hS.boxg).1⟩
  . have:=(hS.ge k _ hg).2;exact⟨by omega,hS.lt k _ hg⟩
 . rintro pre M W W' ⟨v,oG,hS⟩ hw;exact⟨v,oG,hS.minds hw⟩
 . rintro x a' W W1 W2 l hl ⟨Bn,h1,h2,h3⟩ hw;exact⟨Bn,h1,(hw.keep Bn (Array.getElem?_eq_some_iff.1 h2).1 (by omega)).trans h2,h3⟩
 .
  intro l pre x M W K hI hK;simp only[Za5]
  gi_wp2
  exact hK _ _ ((Wr.refl _ W).alloc _) ⟨W.heap.size,Nat.le_refl _,heap_alloc_new W _,rfl⟩
 .
  rintro l pre x a' M W0 W ⟨v,oG,hS⟩ ⟨Bn,ko,h8,rfl⟩ hT hs1 g9;obtain⟨suf,g9⟩:=g9;have hx:d.pool.tk x=true:=Zl3 g9;have gn:=gh.out.below g7.out hS.low;obtain⟨q0,q1,q2,q3,q4,_⟩:=cells5 gn.blk;obtain⟨n0,n1,n2,n3,n4,_⟩:=cells5 h8;have hid:=gn.pool.id x hx;rw[hid] at n0;have gg:Zab d x=some (bnOf (d.pool.nd x)):=by unfold Zab Zam.get;rw[if_pos hx];rfl
  have gA:x<d.counts.length:=HK.out.live.has x _ gg;obtain⟨gc,cc,gS,_⟩:=gn.counts.shape (by omega);have gk:=gn.counts;rw[gS] at gk q3;have h6:=gk.cell x (by simpa using gA);have gB:(d.counts.map nat64)[x]?=some (.int .i64 (Zaz d x:Nat)):=by
   rw[List.getElem?_map,List.getElem?_eq_getElem gA];simp[nat64,Zaz,List.getD,gA]
  rw[gB] at h6;have ke:(x:Int)<d.counts.length:=by omega
  have cb:=cell1 hS.boxs;have cg:=cell1 hS.boxg;have HS:=Hd hS;have kq:=Hd h8;have hF:=Hd g9;have k9:=Hd hid;have kk:prog.follows .mixedOrders=true:=by kernel_rfl
  clear gn gk gB gS g9 hS hid gg
  by_cases hc:Zaz d x=0
  .
   rw[hc] at h6;have hlen:(Zfw d pre).length<1000000000:=by
    have h1:=gh.out.below g7.out HS.out.low;have h2:=h1.pool.top;have h3:=h1.pool.room;have h4:(Zfw d pre).length<=(Zd2 d.pool).length:=by rw[<- hF.out];unfold Zfw;refine Nat.le_trans (List.length_filter_le _ _) ?_;simp
    have h5:(Zd2 d.pool).length<=d.pool.at_.length:=by unfold Zd2 Zej;refine Nat.le_trans (List.length_filter_le _ _) ?_;simp
    omega
   have hM:=Hd hlen;have HC:=Hd hc;clear hlen
   gi_wp2
   refine Zp4 W.drew ?_;apply Exists.intro;refine⟨?_,?_⟩
   .
    gi_region_o
    all_goals exact⟨rfl,rfl,rfl⟩
   gi_wp2_with (gi_at_builtin
                rw[Zgx];refine Ze0 (wr:=W.drew) 262 254 5 40 _ underlying262 Zjs rfl (by decide) rfl _ _ rfl rfl rfl rfl rfl rfl (by simp[Value.oneCell']) HS.out.drew.row HS.out.drew.lt hM.out (by decide) ?_;intro g1 k1 w1 o1 g2 g0 g3;have gr:=Hd g2;have g8:=Hd g0;have gi:=Hd g3;clear g2 g0 g3 q0 q1 q2 q3 q4 cb;have gv:=(g8.out.alien (Array.getElem?_eq_some_iff.1 HS.out.boxg).1 (HS.out.no _ (by omega))).trans HS.out.boxg;have cg1:=cell1 gv;have fz:∀ k,w1.frozen? ⟨w.heap.size+1,k,none⟩=false:=fun k=>by simp[World.frozen?,gv]
                clear cg gv)
   have hE:=HS.out.drew.add HC.out (W1:=w1) (v':=.slice (some ⟨g1,0,none⟩) ((Zfw d pre).length+1) k1) (by
    have e:rnV (d.pool.nd x)=[.int .i64 (x:Nat),.int .i64 (d.pool.nd x).v,.int .i64 (d.pool.nd x).lo,.int .i64 (d.pool.nd x).hi,.int .i64 (d.pool.nd x).refs]:=by unfold rnV;rw[k9.out]
    rw[e];exact gr.out) g8.out gi.out hT
   obtain⟨M',a1,a2,a3⟩:=hE;exact⟨M',a1,Wr.trans ((Wr.refl (fun _=>False) W).drew) a2 (fun _ _ e=>e.elim) (fun _ _ e=>e),a3⟩
  .
   have g0:((Zaz d x:Int) == 0)=false:=by simpa using hc
   gi_wp2
   refine Zp4 W.drew ?_;apply Exists.intro;refine⟨?_,?_⟩
   .
    gi_region_o
    all_goals exact⟨rfl,rfl,rfl⟩
   gi_wp2
   exact⟨M,⟨v,oG,by have:=HS.out.drew;exact⟨this.mm,this.low,this.boxs,this.boxg,by rw[Zxk hc];exact this.row,this.lt,this.ge⟩⟩,(Wr.refl _ W).drew,fun k hk=>.inl hk⟩
 .
  rintro D M W2 hD hZ ⟨v,oG,hS⟩ _ g6 ho;have HS:=Hd hS;have hu:=Hd ho;have cg:=cell1 hS.boxg;obtain⟨ag,cpg,rfl,_⟩:=hS.row.slice;clear hS ho hZ g6 HG hp hd g5;go_wp2_with fail;have gp:∀ k i,(Zcr d)[k]?=some i->∃ g,ag=some ⟨g,0,none⟩/\o g=none/\∀ j u,(rnV (d.pool.nd i))[j]?=some u->W2.cell? ⟨g,k*5+j,none⟩=some u:=by
   intro k i hi;have kl:k<(Zcr d).length:=(List.getElem?_eq_some_iff.1 hi).1;obtain⟨g,cp,he,gb,_⟩:=HS.out.row.shape (by show 0<(Zcr d).length;omega);cases he;refine⟨g,rfl,?_,fun j u hj=>?_⟩
   . have:=(HS.out.ge g _ gb).2;exact g7.out.none (by omega)
   .
    have h5:j<5:=by have:=(List.getElem?_eq_some_iff.1 hj).1;simpa [rnV] using this
    have hf:=Zfv (fun i=>rnV (d.pool.nd i)) 5 (fun _=>rfl) (Zcr d) k j i hi h5;have hlen:((Zcr d).flatMap fun i=>rnV (d.pool.nd i)).length=(Zcr d).length*5:=Zbi _ 5 (fun _=>rfl) _;have hc:=HS.out.row.cell (k*5+j) (by show _<((Zcr d).flatMap fun i=>rnV (d.pool.nd i)).length;rw[hlen];omega);rw[hc];exact hf.trans hj
  have ka:=Hd gp;have gM:Hid ((Zfw d (Zd2 d.pool)).length=(Zcr d).length):=Hd rfl;have gs:Hid (o w.heap.size=none/\o (w.heap.size+1)=none):=Hd ⟨g7.out.none (by omega),g7.out.none (by omega)⟩;have gj:=gh.out.below g7.out HS.out.low;have gE:Zaj o W2:=g7.out.mono HS.out.low.size;have hH:=Hd gj;have hL:=Hd gE;have gF:w.heap.size<W2.heap.size:=(Array.getElem?_eq_some_iff.1 HS.out.boxs).1;have gU:w.heap.size+1<W2.heap.size:=(Array.getElem?_eq_some_iff.1 HS.out.boxg).1;have hC:(Zfw d (Zd2 d.pool)).length<=1048577:=by
   show (Zcr d).length<=_
   have h2:=gj.pool.top;have h3:=gj.pool.room;have h5:(Zcr d).length<=d.pool.at_.length:=by unfold Zcr Zd2 Zej;refine Nat.le_trans (List.length_filter_le _ _) (Nat.le_trans (List.length_filter_le _ _) ?_);simp
   omega
  clear gp cg gj gE;obtain⟨m,hm⟩:∃ m,m=(Zfw d (Zd2 d.pool)).length:=⟨_,rfl⟩;rw[<- hm] at hC gM ⊢;have HM:=Hd hm;clear hm
  go_loopw [37] (fun i wr=>∃ k:Nat,k<=m/\i=.int .i64 k/\Zw5 o W2 sb d s k wr) (fun i _=>m-(intOf i).toNat)
  case atStart=>exact⟨0,Nat.zero_le _,rfl,o,d,hH.out,hL.out,Zd3.start HK.out.tab,Chg.refl _ _ _⟩
  case round =>
   obtain⟨k,hk,rfl,gZ⟩:=hrel;have gG:=gZ;obtain⟨o1,d1,hs1,g3,g2,g0⟩:=gZ
   by_cases kd:k<m
   .
    obtain⟨i,hi⟩:∃ i,(Zcr d)[k]?=some i:=⟨_,List.getElem?_eq_getElem (by have:=gM.out;omega)⟩;obtain⟨gw,go⟩:=g2.at hi;obtain⟨g,hX,gb,gd⟩:=ka.out k i hi;subst hX;obtain⟨N,hN⟩:∃ N,N=d.pool.nd i:=⟨_,rfl⟩;rw[<- hN] at gd go;have e0:=g0.cell (gd 0 _ rfl) gb;have e1:=g0.cell (gd 1 _ rfl) gb;have e2:=g0.cell (gd 2 _ rfl) gb;have e3:=g0.cell (gd 3 _ rfl) gb;have e4:=g0.cell (gd 4 _ rfl) gb;rw[Nat.add_zero] at e0;have cb:=cell1 ((g0.alien gF gs.out.1).trans HS.out.boxs);have km:(k:Int)<m:=by omega
    obtain⟨w3,gl⟩:∃ w3,w3=wr.alloc (.cells #[.int .i64 N.id,.int .i64 N.v,.int .i64 N.lo,.int .i64 N.hi,.int .i64 N.refs] 254):=⟨_,rfl⟩;obtain⟨b6,gH⟩:∃ b6,b6=wr.heap.size:=⟨_,rfl⟩;have g5:Below wr.heap.size wr w3:=by rw[gl];exact Zad _ _
    have gg:w3.heap[b6]?=some (.cells #[.int .i64 N.id,.int .i64 N.v,.int .i64 N.lo,.int .i64 N.hi,.int .i64 N.refs] 254 (0,0)):=by rw[gl,gH];exact heap_alloc_new _ _
    have hz:o1 b6=none:=g3.none (by omega);have hJ:Hid (o1 w.heap.size=none):=Hd (g0.alien' gF gs.out.1);have k3:Hid (_=w3):=Hd gl.symm;have kc:Hid (_=b6):=Hd gH.symm;have HN:=Hd hN;have hid:N.id=i:=by rw[<- go];exact hs1.pool.id i gw
    have h9:Zab d1 i=some ⟨N.v,N.lo,N.hi⟩:=by unfold Zab Zam.get;rw[if_pos gw,go];rfl
    have hv:N.v<d1.vars.length:=by rw[g2.vars];exact HK.out.dag.var i ⟨N.v,N.lo,N.hi⟩ (by unfold Zab Zam.get;rw[if_pos (Zkq ((List.getElem?_eq_some_iff.1 hi).2 ▸ List.getElem_mem _)).1,<- hN];rfl)
    have gY:d1.tab N.v (N.lo,N.hi)=some i:=(g2.tab N.v (by rw[<- g2.vars];exact hv) _ _ _).2 h9;have ga:=hs1.below g3 g5;have gy:=g3.mono g5.size;obtain⟨gt,ct,gQ,hW,gR,kh⟩:=ga.tabAt hv;obtain⟨q0,q1,q2,q3,q4,_⟩:=cells5 ga.blk;rw[gQ] at q2;obtain⟨n0,n1,n2,n3,n4,_⟩:=cells5 gg;have cb3:=(g5.cell (p:=⟨w.heap.size,0,none⟩) (Zaa cb)).trans cb;have hQ:(N.v:Int)<s.ts.length:=by omega
    have hP:=Hd (Zus o1 N.v (s.ts.getD N.v 0) (d1.tab N.v) N.lo N.hi i w3.drew ((ga.below gy (Zaf w3 1)).tab N.v gR) (gy.mono (Zaf w3 1).size) gY);have gz:=Hd hs1;have gi:=Hd g3;have gr:=Hd g2;have g8:=Hd g0;have HI:=Hd hi;have k7:=Hd go;have hy:=Hd g5;have kp:=Hd gg;have k4:=Hd gw;have hO:=Hd hid;have hG:=Hd ga;have ht:=Hd gy;clear gd gG hs1 g3 g2 g0 hi go g5 gg gw hid h9 hv gY ga gy gQ gl gH hN gR;go_upto_region 11 with fail;rw[k3.out,kc.out];refine Zap (fun W:World=>W=w3.drew) true 12 [(0,false),(1,false),(2,false),(3,false),(4,false),(5,false),(6,false),(7,false),(8,false),(9,false),(10,false),(11,false),(12,true)] (by kernel_rfl) (by kernel_rfl) rfl ?_;simp only[planned,Zc8]
    iterate 12
     refine Zaq rfl ?_;apply Exists.intro;refine⟨fun w' hw=>?_,?_⟩
     . subst hw;go_simp;rfl
     simp only[Zah]
    refine Zdl rfl (by go_simp) (hP.out.mono (R':=fun e w'=>∃ v,e=.returned v/\(v=.int .i64 0/\Zdg o1 w' N.v (s.ts.getD N.v 0) (putF (d1.tab N.v) (N.lo,N.hi) none)/\Chg (· = .tmap N.v) o1 o1 w3.drew w'/\Zaj o1 w')) (fun e w' h=>⟨_,h.1,rfl,h.2⟩)) ?_;rintro _ w4 ⟨rfl,gC,gq,gx⟩;simp only[Zah];refine Zbs ?_;have gu:=(hG.out.below ht.out (Zaf w3 1)).setTab (ht.out.mono (Zaf w3 1).size) gC gq;have cb4:=gq.cell (w:=w3.drew) (p:=⟨w.heap.size,0,none⟩) cb3 (hJ.out);have n0':=gq.cell (w:=w3.drew) (p:=⟨b6,0,none⟩) n0 hz;obtain⟨p0,p1,p2,p3,p4,_⟩:=cells5 gu.blk;rw[hO.out] at n0';have gP:=Hd (Zpl o1 s.pb d1.pool i w4.drew (gu.below gx (Zaf w4 1)).pool (gx.mono (Zaf w4 1).size) k4.out);have k5:=Hd gC;have kb:=Hd gq;have k8:=Hd gx;clear gC gq gx gu n0 n1 n2 n3 n4 q0 q1 q2 q3 q4 cb3 cb e0 e1 e2 e3 e4 hW hQ;go_upto_region 12 with fail;refine Zap (fun W:World=>W=w4.drew) true 6 [(0,false),(1,false),(2,false),(3,false),(4,false),(5,false),(6,true)] (by kernel_rfl) (by kernel_rfl) rfl ?_;simp only[planned,Zc8]
    iterate 6
     refine Zaq rfl ?_;apply Exists.intro;refine⟨fun w' hw=>?_,?_⟩
     . subst hw;go_simp;rfl
     simp only[Zah]
    refine Zdl rfl (by go_simp) (gP.out.mono (R':=fun e w'=>∃ v,e=.returned v/\(v=.int .i64 0/\∃ o',Zat o' w' s.pb (d1.pool.give i)/\Chg (fun r=>r=.pool\/r=.slots\/r=.taken\/r=.free) o1 o' w4.drew w'/\Zaj o' w')) (fun e w' h=>⟨_,h.1,rfl,h.2⟩)) ?_;rintro _ w5 ⟨rfl,o2,gT,h7,gV⟩;simp only[Zah];refine Zbs ?_;have k6:=Hd (Zw5.next gz.out gi.out gr.out g8.out HI.out k7.out (hy.out.trans ((Zaf w3 1).mono hy.out.size)) k5.out kb.out k8.out (Zaf w4 1) gT h7 gV);clear gT h7 gV p0 p1 p2 p3 p4 cb4 n0' gU;go_wp2_with fail;go_roundw
    case rel=>exact⟨k+1,by omega,by go_num,k6.out⟩
    case measure=>simp[intOf];omega
   .
    obtain rfl:k=m:=by omega
    have ha:=(g0.alien gF gs.out.1).trans HS.out.boxs;have gX:=(g0.alien gU gs.out.2).trans HS.out.boxg;have cb:=cell1 ha;have cg:=cell1 gX;obtain⟨q0,q1,q2,q3,q4,qf⟩:=cells5 hs1.blk;have gz:=Hd hs1;have gi:=Hd g3;have gr:=Hd g2;have g8:=Hd g0;have ki:sb≠w.heap.size+1:=fun e=>by have h1:=gs.out.2;have h2:=gh.out.own;rw[e] at h2;rw[h1] at h2;cases h2
    clear gG hs1 g3 g2 g0 ha gX;go_wp2_with fail;have gK:o D=none:=g7.out.none (by omega);have hn:D<W2.heap.size:=(Array.getElem?_eq_some_iff.1 hu.out).1;have hY:=(g8.out.alien hn gK).trans hu.out;have k0:o1 D=none:=g8.out.alien' hn gK;have hR:D≠sb:=by rintro rfl;have:=gh.out.own;rw[gK] at this;cases this
    have hU:k=(Zcr d).length:=gM.out;refine⟨by simp,.inl ⟨D,_,rfl,run_takeDeferred ((Zai hR _).trans hY),?_⟩⟩;have hA:Zao o1 (wr.setCell ⟨sb,4,none⟩ (.int .i64 0)) sb (d1.cd d1.counts 0) s:=gz.out.setDead gi.out 0;have gO:Zbg d (d1.cd d1.counts 0):=(hU ▸ gr.out:Zd3 d (Zcr d).length d1).done HK.out.live (fun i hi=>(gh.out.pool.tk_lt hi).2);have gN:Zav o1 ((wr.setCell ⟨sb,4,none⟩ (.int .i64 0)).putObj D (.deferred none)) sb (d1.cd d1.counts 0) :=
     Zav.keepR ⟨s,hA⟩ (fun g r hg _=>World.putObj_heap_other (by rintro rfl;rw[k0] at hg;cases hg)) (fun _ _ h=>h)
    refine⟨_,results_tmp rfl _ _ _,?_,o1,_,gN,gi.out.mono (by simp[World.setCell]),gO,?_⟩
    .
     show Ending.returned (.int .i64 ((Zfw d (Zd2 d.pool)).length:Nat))=_
     have:(Zfw d (Zd2 d.pool)).length=d.dead:=Zoi HK.out.live;rw[this]
    . have hc:=(Chg.of_below HS.out.low Zar o).trans (g8.out.setCell (p:=⟨sb,4,none⟩) (r:=.store) gz.out.own (.inl rfl) (.int .i64 0));exact⟨hc.os,hc.tape,hc.output,by have:=hc.size;simpa [World.setCell] using this,fun k hk hr=>(World.putObj_heap_other (by omega)).trans (hc.block k hk hr),hc.ext,hc.new⟩
open Go.RowKit
structure ChgX (C:Nat->Prop)(o o':Own)(w w':World):Prop where
 os:w'.os=w.os
 tape:w'.tape=w.tape
 output:w'.output=w.output
 size:w.heap.size<=w'.heap.size
 block:∀ k,k<w.heap.size->o k=none->¬ C k->w'.heap[k]?=w.heap[k]?
 ext:∀ k r,o k=some r->o' k=some r
 new:∀ k,o' k≠o k->w.heap.size<=k
abbrev NoB:Nat->Prop:=fun _=>False
section
variable {C D:Nat->Prop}{R:Role->Prop}{o o' o'':Own}{w w' w'':World}
theorem ChgX.of_chg (h:Chg R o o' w w')(C:Nat->Prop):ChgX C o o' w w':=⟨h.os,h.tape,h.output,h.size,fun _ hk ho _=>h.alien hk ho,h.ext,fun k hk=>(h.new k hk).1⟩
theorem ChgX.of_wr (h:Wr D w w')(o:Own)(hD:∀ k,k<w.heap.size->D k->C k):ChgX C o o w w':=⟨h.os,h.tape,h.output,h.size,fun k hk _ hc=>h.keep k hk (fun e=>hc (hD k hk e)),fun _ _ h=>h,fun _ h=>(h rfl).elim⟩
theorem ChgX.of_below (h:Below w.heap.size w w')(o:Own)(C:Nat->Prop):ChgX C o o w w':=ChgX.of_wr (Wr.of_below h NoB) o (fun _ _ h=>h.elim)
theorem ChgX.none' (h:ChgX C o o' w w'){k:Nat}(hk:k<w.heap.size)(ho:o k=none):o' k=none:=by
 by_cases e:o' k=o k
 . rw[e];exact ho
 . have:=h.new k e;omega
theorem ChgX.trans (h:ChgX C o o' w w')(h':ChgX D o' o'' w' w'')(hD:∀ k,k<w.heap.size->D k->C k):ChgX C o o'' w w'':=by
 refine⟨h'.os.trans h.os,h'.tape.trans h.tape,h'.output.trans h.output,Nat.le_trans h.size h'.size,fun k hk ho hc=>?_,fun k r hr=>h'.ext k r (h.ext k r hr),fun k hk=>?_⟩
 . exact(h'.block k (Nat.lt_of_lt_of_le hk h.size) (h.none' hk ho) (fun e=>hc (hD k hk e))).trans (h.block k hk ho hc)
 .
  by_cases e:o' k=o k
  . have:=h'.new k (by rw[e];exact hk);exact Nat.le_trans h.size this
  . exact h.new k e
theorem ChgX.mono (h:ChgX C o o' w w')(hD:∀ k,C k->D k):ChgX D o o' w w':=⟨h.os,h.tape,h.output,h.size,fun k hk ho hc=>h.block k hk ho (fun e=>hc (hD k e)),h.ext,h.new⟩
theorem ChgX.cell (h:ChgX C o o' w w'){p:Addr}{v:Value}(hc:w.cell? p=some v)(hb:o p.block=none)(hn:¬ C p.block):w'.cell? p=some v :=
 (World.cell?_of_block (w:=w) (h.block p.block (World.block_lt_of_cell? w p hc) hb hn)).trans hc
theorem ChgX.below0 (h:ChgX NoB (fun _=>none) o w w'):Below w.heap.size w w':=⟨h.os,h.tape,h.output,h.size,fun k hk=>h.block k hk rfl (fun e=>e)⟩
theorem ChgX.lower (h:ChgX C (fun _=>none) o w w')(h':ChgX D o o' w' w'')(hD:∀ k,D k->w.heap.size<=k):ChgX C (fun _=>none) o' w w'':=h.trans h' (fun k hk e=>by have:=hD k e;omega)
end
structure Zmm (C:Nat->Prop)(K:Law)(o:Own)(w:World)(mb:Nat)(m:ManD)(V:Nat->BF)(o':Own)(w':World)(m':ManD)(V':Nat->BF):Prop where
 is:Zdo (K m'.d V') o' w' mb m'
 lt:Zaj o' w'
 chg:ChgX C o o' w w'
 ok:Zan m'.d V'
 ext:Ext m.d V m'.d V'
 hs:m'.hs=m.hs
 next:m'.next=m.next
theorem Step.toX {K:Law}{o o':Own}{w w':World}{mb:Nat}{m m':ManD}{V V':Nat->BF}(h:Step K o w mb m V o' w' m' V')(C:Nat->Prop):Zmm C K o w mb m V o' w' m' V':=⟨h.is,h.lt,ChgX.of_chg h.chg C,h.ok,h.ext,h.hs,h.next⟩
theorem Zql {m m':ManD}{V V':Nat->BF}(h:Zcb m)(ext:Ext m.d V m'.d V')(ok:Zan m'.d V')(e1:m'.hs=m.hs)(e2:m'.next=m.next):Zcb m':=by
 refine⟨by rw[e1];exact h.nodup,by rw[e1];exact h.zero,by rw[e1];exact h.one,by rw[e1,e2];exact h.lt,by rw[e2];exact h.next,fun p hp=>?_,by rw[e1,e2];exact h.len,fun i b hb=>?_⟩
 . rw[e1] at hp;exact ext.ok (h.ok p hp)
 .
  rw[e1];cases hn:Zab m.d i with
  | some b0=>rw[ext.ext i b0 hn];exact h.refs i b0 hn
  | none =>
    rw[ext.ext0 i hn];have hi:i≠0:=by rintro rfl;rw[ok.dag.none0] at hb;cases hb
    have:Zb8 m.hs i=0:=by
     unfold Zb8;rw[List.length_eq_zero_iff,List.filter_eq_nil_iff];intro p hp;have ho:=h.ok p hp;simp only[Bool.and_eq_true,decide_eq_true_eq,beq_iff_eq,not_and];rintro _ rfl;rcases ho with h0|⟨b1,g0⟩
     . exact hi h0
     . rw[hn] at g0;cases g0
    rw[this];rfl
structure SatE (K:Law)(n:Nat)(Od:List Nat->Prop)(room:Nat)(w0:World)(mb:Nat)(fs:List (Int×BF))(nx:Int)(w:World)(o:Own)(m:ManD)(V:Nat->BF):Prop where
 is:Zdo (K m.d V) o w mb m
 lt:Zaj o w
 ok:Zsf m V
 vars:m.d.vars.length=n
 od:Od m.d.vars
 room:m.d.pool.room=room
 next:m.next=nx
 hs:m.hs.map (fun p=>(p.1,ef V p.2))=fs
 chg:ChgX NoB (fun _=>none) o w0 w
section
variable {K:Law}{n:Nat}{Od:List Nat->Prop}{room:Nat}{w0 w w':World}{mb:Nat}{fs:List (Int×BF)}{nx:Int}{o o':Own}{m m':ManD}{V V':Nat->BF}
theorem SatE.find (h:SatE K n Od room w0 mb fs nx w o m V){k:Int}{F:BF}(hk:(k,F)∈fs):∃ f,(k,f)∈m.hs/\ef V f=F:=by
 rw[<- h.hs] at hk;obtain⟨p,hp,e⟩:=List.mem_map.1 hk;cases e;exact⟨p.2,hp,rfl⟩
theorem SatE.none0 (h:SatE K n Od room w0 mb fs nx w o m V){k:Nat}(hk:k<w0.heap.size):o k=none:=h.chg.none' hk rfl
theorem Zzg {hs:List (Int×Nat)}{d:Zag}(hok:∀ p∈hs,okE (Zab d) p.2)(hv:∀ i,(i=0\/∃ b,Zab d i=some b)->V' i=V i):hs.map (fun p=>(p.1,ef V' p.2))=hs.map (fun p=>(p.1,ef V p.2)):=by
 refine List.map_congr_left fun p hp=>?_
 have e:ef V' p.2=ef V p.2:=by
  funext ρ;unfold ef;rw[hv (p.2/2) (hok p hp)]
 rw[e]
theorem SatE.withOd {Od':List Nat->Prop}(h:SatE K n Od room w0 mb fs nx w o m V)(hO:Od' m.d.vars):SatE K n Od' room w0 mb fs nx w o m V :=
 ⟨h.is,h.lt,h.ok,h.vars,hO,h.room,h.next,h.hs,h.chg⟩
theorem SatE.step {C:Nat->Prop}(h:SatE K n Od room w0 mb fs nx w o m V)(s:Zmm C K o w mb m V o' w' m' V')(hC:∀ k,C k->w0.heap.size<=k):SatE K n Od room w0 mb fs nx w' o' m' V' :=
 ⟨s.is,s.lt,⟨s.ok,Zql h.ok.handles s.ext s.ok s.hs s.next⟩,by rw[s.ext.vars];exact h.vars,by rw[s.ext.vars];exact h.od,by rw[s.ext.room];exact h.room,s.next.trans h.next,
  by rw[s.hs,Zzg h.ok.handles.ok s.ext.val];exact h.hs,h.chg.lower s.chg hC⟩
theorem SatE.other {C:Nat->Prop}(h:SatE K n Od room w0 mb fs nx w o m V)(hx:Wr C w w')(hC:∀ k,k<w.heap.size->C k->w0.heap.size<=k/\o k=none):SatE K n Od room w0 mb fs nx w' o m V:=by
 obtain⟨s,hm⟩:=h.is;refine⟨⟨s,hm.keep (fun g r hg=>hx.keep g (h.lt g r hg) (fun e=>?_)) (fun _ _ h=>h)⟩,h.lt.mono hx.size,h.ok,h.vars,h.od,h.room,h.next,h.hs,h.chg.trans (ChgX.of_wr (C:=fun k=>w0.heap.size<=k) hx o (fun k hk e=>(hC k hk e).1)) (fun k hk e=>by omega)⟩;have:=(hC g (h.lt g r hg) e).2;rw[hg] at this;cases this
theorem SatE.below (h:SatE K n Od room w0 mb fs nx w o m V)(hb:Below w.heap.size w w'):SatE K n Od room w0 mb fs nx w' o m V:=h.other (Wr.of_below hb NoB) (fun _ _ e=>e.elim)
theorem SatE.gave (h:SatE K n Od room w0 mb fs nx w o m V){r:Nat}(g:Gave K o w mb m V r o' w' m'):SatE K n Od room w0 mb (fs++[(nx,ef V r)]) (nx+1) w' o' m' V :=
 ⟨g.is,g.lt,g.ok,by rw[g.vars];exact h.vars,by rw[g.vars];exact h.od,by rw[g.room];exact h.room,by rw[g.next,h.next],by rw[g.hs,List.map_append,h.hs,<- h.next];rfl,h.chg.lower (ChgX.of_chg g.chg NoB) (fun _ e=>e.elim)⟩
theorem Zgi {d':Zag}(h:Zcb m)(hk:Zan m.d V)(r:Zbg m.d d'):Zcb { m with d:=d' }:=by
 have g1:∀ p∈m.hs,okE (Zab d') p.2:=by
  intro p hp;rcases h.ok p hp with h0|⟨b,hb⟩
  . exact .inl h0
  .
   by_cases h1:1<p.1
   .
    refine .inr ⟨b,?_⟩;rw[r.nodes,if_pos]
    . exact hb
    .
     refine hk.live.cnt.pos_of_ext hb ?_;rw[h.refs _ _ hb];have:0<Zb8 m.hs (p.2/2):=by
      unfold Zb8;refine List.length_pos_of_mem (List.mem_filter.2 ⟨hp,?_⟩);simp[h1]
     omega
   .
    refine .inl ?_;have g2:=h.lt p hp;have hu:∀ q∈m.hs,q.1=p.1->q=p:=by
     intro q hq e;have g0:=h.nodup;have h1:=Zcx (l:=encH m.hs) (Zer g0) (List.mem_map.2 ⟨q,hq,rfl⟩);have h2:=Zcx (l:=encH m.hs) (Zer g0) (List.mem_map.2 ⟨p,hp,rfl⟩);rw[e,h2] at h1;have e2:(p.2:Int)=(q.2:Int):=by injection h1 with h1;injection h1
     exact Prod.ext e (by omega)
    rcases(by omega:p.1=0\/p.1=1) with e|e
    . rw[<- hu _ h.zero e.symm];rfl
    . rw[<- hu _ h.one e.symm];rfl
 exact⟨h.nodup,h.zero,h.one,h.lt,h.next,g1,h.len,fun i b hb=>by rw[r.ext i b hb];exact h.refs i b (r.sub hb).1⟩
end
theorem wclear {K:Law}{n:Nat}{Od:List Nat->Prop}{room:Nat}{w0 w:World}{mb:Nat}{fs:List (Int×BF)}{nx:Int}{o:Own}{m:ManD}{V:Nat->BF}{s:ManW}(h:SatE K n Od room w0 mb fs nx w o m V)(hs:Zb7 (K m.d V) o w mb m s)(G:Phi) :
 Calls prog 181 #[.pointer (some ⟨s.me,0,none⟩)] w fun x w'=>x=.returned (.tuple #[])/\Zb7 G o w' mb m s/\Chg (· = .entries) o o w w'/\Zaj o w':=by
 refine(Zsj o s.me (K m.d V) G w hs.memo h.lt).mono ?_;rintro x w' ⟨h1,h2,h3,h4⟩;exact⟨h1,hs.setMemo h.lt h2 (h3.mono fun r e=>.inr e),h3,h4⟩
theorem Zlf {K:Law}{n:Nat}{Od:List Nat->Prop}{room:Nat}{w0 w:World}{mb:Nat}{fs:List (Int×BF)}{nx:Int}{o:Own}{m:ManD}{V:Nat->BF}(h:SatE K n Od room w0 mb fs nx w o m V) :
 Calls prog 223 #[.pointer (some ⟨mb,0,none⟩)] w fun x w'=>x=.returned (.int .i64 m.d.dead)/\∃ o' d',SatE K n Od room w0 mb fs nx w' o' { m with d:=d' } V/\Zbg m.d d'/\Chg (fun _=>True) o o' w w':=by
 obtain⟨s,hs⟩:=h.is;obtain⟨c0,c1,c2,c3,c4,c5,f0⟩:=cells6 hs.blk;have HC:Hid (∀ w1,Zb7 (fun _ _ _ _ _=>False) o w1 mb m s/\Chg (· = .entries) o o w w1/\Zaj o w1->Calls prog 212 #[.pointer (some ⟨s.sb,0,none⟩)] w1 fun x w'=>x=.returned (.int .i64 m.d.dead)/\∃ o' d',SatE K n Od room w0 mb fs nx w' o' { m with d:=d' } V/\Zbg m.d d'/\Chg (fun _=>True) o o' w w'):=by
  refine Hd ?_;rintro w1 ⟨g1,g2,g3⟩;have fin:∀ o' w' d',Zb7 (fun _ _ _ _ _=>False) o' w' mb { m with d:=d' } s->Zaj o' w'->Zbg m.d d'->Chg Zar o o' w1 w'->∃ o' d',SatE K n Od room w0 mb fs nx w' o' { m with d:=d' } V/\Zbg m.d d'/\Chg (fun _=>True) o o' w w':=by
   intro o' w' d' a1 a2 a3 a4;have hc:Chg (fun _=>True) o o' w w':=g2.any.trans a4.any;refine⟨o',d',⟨⟨s,a1.mono fun _ _ _ _ _ e=>e.elim⟩,a2,⟨a3.ok h.ok.store,Zgi h.ok.handles h.ok.store a3⟩,by dsimp only;rw[a3.vars];exact h.vars,by dsimp only;rw[a3.vars];exact h.od,by dsimp only;rw[a3.room];exact h.room,h.next,h.hs,h.chg.lower (ChgX.of_chg hc NoB) (fun _ e=>e.elim)⟩,a3,hc⟩
  by_cases h0:m.d.dead=0
  . refine(Zh0 g1.store h0).mono ?_;rintro x w' ⟨rfl,hb⟩;exact⟨by rw[h0];rfl,fin o w' m.d (g1.below g3 hb) (g3.mono hb.size) (Zbg.none h.ok.store h0) (Chg.of_below hb _ _)⟩
  . refine(Zj9 g1.store g3 h.ok.store h0).mono ?_;rintro x w' ⟨rfl,o',d',b1,b2,b3,b4⟩;exact⟨rfl,fin o' w' d' (g1.setStore g3 b1 b4) b2 b3 b4⟩
 have g0:=Hd (wclear h hs (fun _ _ _ _ _=>False));clear h hs
 go_enter func223,ntmps223
 go_wp2_with fail;refine g0.out.mono ?_;rintro x w1 ⟨rfl,g1,g2,g3⟩;obtain⟨d0,d1,d2,d3,d4,d5,f1⟩:=cells6 g1.blk;have g4:=Hd (HC.out w1 ⟨g1,g2,g3⟩);clear g1 g2 g3 c0 c1 c2 c3 c4 c5 f0 g0 HC;go_wp2_with fail;refine g4.out.mono ?_;rintro x w2 ⟨rfl,hq⟩;have HQ:=Hd hq;clear hq;go_wp2_with fail;go_ret;exact⟨rfl,HQ.out⟩
open Go.RowKit
def HapG (K:Law)(n:Nat)(Od:List Nat->Prop)(room:Nat)(w0:World)(mb:Nat)(fs:List (Int×BF))(nx:Int)(ev:Ev):Prop :=
 ∀ (o:Own) (W:World) (m:ManD) (V:Nat->BF),SatE K n Od room w0 mb fs nx W o m V->Calls prog 222 #[.pointer (some ⟨mb,0,none⟩),evA ev] W fun x w'=>x=.returned (.tuple #[]) /\
  ∃ o' m' V',SatE K n Od room w0 mb fs nx w' o' m' V'/\m'.waits=m.waits/\m'.calls=m.calls/\(m'.d.pool.many<=m.d.pool.many\/m'.d.pool.many<=fs.length*2^n)/\ChgX NoB o o' W w'
def StE (K:Law)(n:Nat)(Od:List Nat->Prop)(room:Nat)(w0:World)(mb:Nat)(fs:List (Int×BF))(nx:Int)(St:ManD->Prop)(m':ManD):Prop :=
 ∀ (o:Own) (W:World) (m:ManD) (V:Nat->BF),SatE K n Od room w0 mb fs nx W o m V->m.waits=m'.waits->m.calls=m'.calls->(m.d.pool.many<=m'.d.pool.many\/m.d.pool.many<=fs.length*2^n)->St m
def OpG (K:Law)(n:Nat)(Od:List Nat->Prop)(room:Nat)(w0:World)(mb:Nat)(fs:List (Int×BF))(nx:Int)(C:Nat->Prop)(B:World->Prop)(St:ManD->Prop)(gop:Nat)(lop:Array Value)(Q:World->ManD->(Nat->BF)->Nat->Prop)(E:Int->ManD->ManD->Prop):Prop :=
 ∀ (o:Own) (W:World) (m:ManD) (V:Nat->BF) (xb:Nat),SatE K n Od room w0 mb fs nx W o m V->B W->(∀ k,C k->k<W.heap.size/\o k=none)->St m->Zdz o W xb mb->¬ C xb ->
  Calls prog gop (#[.pointer (some ⟨xb,0,none⟩)]++lop) W fun e w'=>∃ (o':Own) (m':ManD) (V':Nat->BF),Zmm C K o W mb m V o' w' m' V'/\B w' /\
   ((∃ r:Nat,e=.returned (.int .i64 r)/\okE (Zab m'.d) r/\Q w' m' V' r) \/
    (∃ er:Int,e=Zcg er false ev0/\er≠0/\m'.waits=m.waits/\St m'/\E er m m') \/
    (∃ ev,e=Zcg 0 true ev/\m.waits=ev::m'.waits/\StE K n Od room w0 mb fs nx St m'/\HapG K n Od room w0 mb fs nx ev))
theorem Zz8 (gop:Nat)(lop:Array Value)(W:World)(xb ob fb:Nat)(R:Nat->World->Prop)(R2:Int->Bool->Ev->World->Prop)(eg:∀ args w,(callFunc gop args).run prog w=.ok (.enter gop args) w)
 (hob:W.cell? ⟨ob,0,none⟩=some (.func (.func gop) #[] lop)) (hop:Calls prog gop (#[.pointer (some ⟨xb,0,none⟩)]++lop) W fun e w'=>(∃ r:Nat,e=.returned (.int .i64 r)/\R r w'/\(∃ z:Int,w'.cell? ⟨fb,0,none⟩=some (.int .i64 z))/\w'.frozen? ⟨fb,0,none⟩=false) \/
  ∃ er evt ev,e=Zcg er evt ev/\R2 er evt ev w') :
 Calls prog 187 #[.pointer (some ⟨xb,0,none⟩),.pointer (some ⟨ob,0,none⟩),.pointer (some ⟨fb,0,none⟩)] W fun e w'=>(e=.returned (.tuple #[])/\∃ r w1,R r w1/\w'=w1.setCell ⟨fb,0,none⟩ (.int .i64 (r:Nat)))\/∃ er evt ev,e=Zcg er evt ev/\R2 er evt ev w':=by
 have g0:=Hd hop;clear hop
 go_enter func187,ntmps187
 go_wp2_with fail;refine g0.out.mono ?_;rintro e w' (⟨r,rfl,hr,⟨z,hc⟩,hf⟩|⟨er,evt,ev,rfl,hr⟩)
 . have HR:=Hd hr;clear hr;go_wp2_with fail;go_end0;exact .inl ⟨rfl,r,w',HR.out,rfl⟩
 . have HR:=Hd hr;clear hr;unfold Zcg;go_wp2_with fail;exact⟨rfl,.inr ⟨er,evt,ev,rfl,HR.out⟩⟩
structure RunI (K:Law)(n:Nat)(Od:List Nat->Prop)(room:Nat)(w0:World)(mb:Nat)(fs:List (Int×BF))(nx:Int)(C:Nat->Prop)(B:World->Prop)(St:ManD->Prop)(gop:Nat)(lop:Array Value)(o0:Own)(w:World)(k:Nat)(full:Bool)(W:World)(o:Own)(m:ManD)(V:Nat->BF):Prop where
 sat:SatE K n Od room w0 mb fs nx W o m V
 bok:B W
 st:St m
 len:m.waits.length=k
 cok:∀ c,C c->c<w.heap.size/\o c=none
 chg:ChgX C o0 o w W
 size:w.heap.size+2<=W.heap.size
 obn:o w.heap.size=none
 fbn:o (w.heap.size+1)=none
 ob:W.heap[w.heap.size]?=some (.cells #[.func (.func gop) #[] lop] 202 (0,0))
 fb:∃ z:Int,W.heap[w.heap.size+1]?=some (.cells #[.int .i64 z] 151 (0,0))
 clean:full=true->m.d.dead=0
def RunF (K:Law)(n:Nat)(Od:List Nat->Prop)(room:Nat)(w0:World)(mb:Nat)(fs:List (Int×BF))(nx:Int)(C:Nat->Prop)(B:World->Prop)(Q:World->ManD->(Nat->BF)->Nat->Prop)(E:Int->ManD->ManD->Prop)(o0:Own)(w:World)(er:Int)(W:World):Prop :=
 ∃ o m V,SatE K n Od room w0 mb fs nx W o m V/\B W/\ChgX C o0 o w W/\w.heap.size+2<=W.heap.size/\o (w.heap.size+1)=none /\
  ((er=0/\∃ r:Nat,okE (Zab m.d) r/\Q W m V r/\W.heap[w.heap.size+1]?=some (.cells #[.int .i64 r] 151 (0,0))) \/
   (er≠0/\∃ m0:ManD,E er m0 m/\(er=7->m0.d.dead=0)))
theorem Zz9 {K:Law}{n:Nat}{Od:List Nat->Prop}{room:Nat}{w0:World}{mb:Nat}{fs:List (Int×BF)}{nx:Int}{C:Nat->Prop}{B:World->Prop}{St:ManD->Prop}{gop:Nat}{lop:Array Value}{Q:World->ManD->(Nat->BF)->Nat->Prop}{E:Int->ManD->ManD->Prop}
 (hB:∀ W W',B W->(∀ c,C c->W'.heap[c]?=W.heap[c]?)->B W') (hQ:∀ W W' m V r,Q W m V r->(∀ c,C c->W'.heap[c]?=W.heap[c]?)->Q W' m V r) (hSt:∀ (m:ManD) (d:Zag),St m->Zbg m.d d->St { m with d:=d }) (hC0:∀ c,C c->w0.heap.size<=c) (eg:∀ args w,(callFunc gop args).run prog w=.ok (.enter gop args) w)
 (hop:OpG K n Od room w0 mb fs nx C B St gop lop Q E) {o:Own} {w:World} {m:ManD} {V:Nat->BF} (h:SatE K n Od room w0 mb fs nx w o m V) (hb:B w) (hC:∀ c,C c->c<w.heap.size/\o c=none) (hst:St m) :
 Calls prog 186 #[.pointer (some ⟨mb,0,none⟩),.func (.func 187) #[] #[.pointer (some ⟨w.heap.size,0,none⟩),.pointer (some ⟨w.heap.size+1,0,none⟩)]] (doW gop lop w) fun x w'=>∃ er,x=.returned (.int .i64 er)/\RunF K n Od room w0 mb fs nx C B Q E o w er w':=by
 have hz:(doW gop lop w).heap.size=w.heap.size+2:=by simp[doW]
 have gh:Below w.heap.size w (doW gop lop w):=(Zad w _).alloc (by simp) _;have gr:(doW gop lop w).heap[w.heap.size+1]?=some (.cells #[.int .i64 0] 151 (0,0)):=by
  have:=heap_alloc_new (w.alloc (.cells #[.func (.func gop) #[] lop] 202)) (.cells #[.int .i64 0] 151);rw[World.size_alloc] at this;exact this
 have gp:(doW gop lop w).heap[w.heap.size]?=some (.cells #[.func (.func gop) #[] lop] 202 (0,0)):=(Go.heap_alloc_old _ _ (by simp)).trans (heap_alloc_new w _);have hw0:=h.chg.size;have gf:RunI K n Od room w0 mb fs nx C B St gop lop o w m.waits.length false (doW gop lop w) o m V :=
  ⟨h.below gh,hB _ _ hb (fun c hc=>gh.block c (hC c hc).1),hst,rfl,hC,ChgX.of_below gh o C,by omega,h.lt.none (Nat.le_refl _),h.lt.none (by omega),gp,⟨0,gr⟩,by simp⟩
 have g8:∀ {k full W W' o1 m1 V1},RunI K n Od room w0 mb fs nx C B St gop lop o w k full W o1 m1 V1->∀ {s:Nat},w.heap.size+2<=s->o1 s=none->o1 (s+1)=none->Ali s W W'->RunI K n Od room w0 mb fs nx C B St gop lop o w k full W' o1 m1 V1:=by
  intro k full W W' o1 m1 V1 hi s hs n0 n1 a;have gi:=hi.size;have hk:∀ k,k<w.heap.size+2->W'.heap[k]?=W.heap[k]?:=fun k hk=>a.keep k (by omega) (by omega)
  refine⟨hi.sat.other a (fun k _ e=>?_),hB _ _ hi.bok (fun c hc=>hk c (by have:=(hi.cok c hc).1;omega)),hi.st,hi.len,hi.cok,hi.chg.trans (ChgX.of_wr (C:=fun k=>w.heap.size<=k) a o1 (fun k _ e=>by omega)) (fun k hk e=>by omega),Nat.le_trans hi.size a.size,hi.obn,hi.fbn,(hk _ (by omega)).trans hi.ob,?_,hi.clean⟩
  .
   rcases e with rfl|rfl
   . exact⟨by omega,n0⟩
   . exact⟨by omega,n1⟩
  . obtain⟨z,hz⟩:=hi.fb;exact⟨z,(hk _ (by omega)).trans hz⟩
 have ge:∀ {k full full' W W' o1 m1 V1 o2 m2 V2},RunI K n Od room w0 mb fs nx C B St gop lop o w k full W o1 m1 V1->SatE K n Od room w0 mb fs nx W' o2 m2 V2->ChgX NoB o1 o2 W W'->m2.waits=m1.waits->St m2->(full'=true->m2.d.dead=0)->RunI K n Od room w0 mb fs nx C B St gop lop o w k full' W' o2 m2 V2:=by
  intro k full full' W W' o1 m1 V1 o2 m2 V2 hi gl hc e1 e2 e3;have gi:=hi.size;obtain⟨z,hz⟩:=hi.fb
  exact⟨gl,hB _ _ hi.bok (fun c ga=>hc.block c (by have:=(hi.cok c ga).1;omega) (hi.cok c ga).2 (fun e=>e)),e2,by rw[e1];exact hi.len,fun c ga=>⟨(hi.cok c ga).1,hc.none' (by have:=(hi.cok c ga).1;omega) (hi.cok c ga).2⟩,
   hi.chg.trans hc (fun _ _ e=>e.elim),Nat.le_trans hi.size hc.size,hc.none' (by omega) hi.obn,hc.none' (by omega) hi.fbn,(hc.block _ (by omega) hi.obn (fun e=>e)).trans hi.ob,⟨z,(hc.block _ (by omega) hi.fbn (fun e=>e)).trans hz⟩,e3⟩
 refine Ya5 mb _ _ _ Zsn (fun k full W=>∃ o1 m1 V1,RunI K n Od room w0 mb fs nx C B St gop lop o w k full W o1 m1 V1) _ ?_ _ ⟨o,m,V,gf⟩;rintro k full W ⟨o1,m1,V1,hi⟩;have gi:=hi.size;obtain⟨s,hs⟩:∃ s,s=W.heap.size:=⟨_,rfl⟩
 refine⟨fun st W1=>match st with
  | none=>∃ (o':Own) (m':ManD) (V':Nat->BF) (r:Nat) (w1:World),SatE K n Od room w0 mb fs nx w1 o' m' V'/\B w1/\ChgX C o o' w w1/\s+3<=w1.heap.size/\(∀ q,w.heap.size<=q->q<s+3->o1 q=none->o' q=none)/\(∃ z:Int,w1.heap[w.heap.size+1]?=some (.cells #[.int .i64 z] 151 (0,0)))/\okE (Zab m'.d) r/\Q w1 m' V' r/\W1=w1.setCell ⟨w.heap.size+1,0,none⟩ (.int .i64 (r:Nat))
  | some (er,evt,ev)=>∃ (o':Own) (m':ManD) (V':Nat->BF),RunI K n Od room w0 mb fs nx C B St gop lop o w m'.waits.length false W1 o' m' V'/\s+3<=W1.heap.size/\(∀ q,w.heap.size<=q->q<s+3->o1 q=none->o' q=none) /\
   ((evt=false/\er≠0/\m'.waits=m1.waits/\E er m1 m')\/(evt=true/\m1.waits=ev::m'.waits/\StE K n Od room w0 mb fs nx St m'/\HapG K n Od room w0 mb fs nx ev)),?_,?_,?_,?_,?_⟩
 .
  unfold Zw6;have g9:Below W.heap.size W (tryW mb W):=((Zad _ _).alloc (by simp) _).alloc (by simp;omega) _;have gn:(tryW mb W).heap.size=W.heap.size+3:=by unfold tryW;simp
  obtain⟨T,hT⟩:∃ T,T=tryW mb W:=⟨_,rfl⟩;have h1:(tryW mb W).heap[W.heap.size+2]?=some (.cells #[.pointer (some ⟨mb,0,none⟩)] 243 (0,0)):=by
   have:=heap_alloc_new ((W.alloc (.cells #[.int .i64 0,.bool false,.int .i64 0,.int .i64 0,.int .i64 0] 245)).alloc (.cells #[.bool false] 4)) (.cells #[.pointer (some ⟨mb,0,none⟩)] 243);rw[World.size_alloc,World.size_alloc] at this;exact this
  rw[<- hT] at g9 gn h1 ⊢;clear hT;have g7:=hi.sat.below g9;have gt:Zdz o1 T (W.heap.size+2) mb:=⟨cell1 h1,hi.sat.lt.none (by omega)⟩;have gm:=hop o1 T m1 V1 (W.heap.size+2) g7 (hB _ _ hi.bok (fun c hc=>g9.block c (by have:=(hi.cok c hc).1;omega))) (fun c hc=>⟨by have:=(hi.cok c hc).1;omega,(hi.cok c hc).2⟩) hi.st gt (fun e=>by have:=(hi.cok _ e).1;omega);have gg:=(g9.block w.heap.size (by omega)).trans hi.ob;obtain⟨z,hz⟩:=hi.fb;have gd:=(g9.block (w.heap.size+1) (by omega)).trans hz;have gw:∀ q,w.heap.size<=q->¬ C q:=fun q hq e=>by have:=(hi.cok q e).1;omega
  have g0:∀ {o':Own} {w1:World},ChgX C o1 o' T w1->∀ q,w.heap.size<=q->q<s+3->o1 q=none->w1.heap[q]?=T.heap[q]?:=fun hc q h1 h2 h3=>hc.block q (by omega) h3 (gw q h1)
  refine(Zz8 gop lop T (W.heap.size+2) w.heap.size (w.heap.size+1) (fun r w1=>∃ o' m' V',Zmm C K o1 T mb m1 V1 o' w1 m' V'/\B w1/\okE (Zab m'.d) r/\Q w1 m' V' r)
   (fun er evt ev w1=>∃ o' m' V',Zmm C K o1 T mb m1 V1 o' w1 m' V'/\B w1/\((evt=false/\er≠0/\m'.waits=m1.waits/\St m'/\E er m1 m')\/(evt=true/\m1.waits=ev::m'.waits/\StE K n Od room w0 mb fs nx St m'/\HapG K n Od room w0 mb fs nx ev))) eg (cell1 gg) (gm.mono ?_)).mono ?_
  .
   rintro e w1 ⟨o',m',V',st,b1,(⟨r,rfl,q1,q2⟩|⟨er,rfl,q1,q2,q3,q4⟩|⟨ev,rfl,q1,q2,q3⟩)⟩
   . have hf:=(g0 st.chg (w.heap.size+1) (by omega) (by omega) hi.fbn).trans gd;exact .inl ⟨r,rfl,⟨o',m',V',st,b1,q1,q2⟩,⟨z,cell1 hf⟩,by simp[World.frozen?,hf]⟩
   . exact .inr ⟨er,false,ev0,rfl,o',m',V',st,b1,.inl ⟨rfl,q1,q2,q3,q4⟩⟩
   . exact .inr ⟨0,true,ev,rfl,o',m',V',st,b1,.inr ⟨rfl,q1,q2,q3⟩⟩
  .
   have n0:o1 W.heap.size=none:=hi.sat.lt.none (Nat.le_refl _);have n1:o1 (W.heap.size+1)=none:=hi.sat.lt.none (by omega);rintro e W' (⟨rfl,r,w1,⟨o',m',V',st,b1,q1,q2⟩,rfl⟩|⟨er,evt,ev,rfl,o',m',V',st,b1,q⟩)
   .
    have hf:=(g0 st.chg (w.heap.size+1) (by omega) (by omega) hi.fbn).trans gd;have gk:=st.chg.size;refine⟨by simp[World.setCell];omega,?_,?_,.inl ⟨rfl,o',m',V',r,w1,g7.step st hC0,b1,(hi.chg.trans (ChgX.of_below g9 o1 C) (fun _ _ e=>e)).trans st.chg (fun _ _ e=>e),by omega,fun q _ h2 h3=>st.chg.none' (by omega) h3,⟨z,hf⟩,q1,q2,rfl⟩⟩
    . exact(Zai (by show _≠w.heap.size+1;omega) _).trans (g0 st.chg _ (by omega) (by omega) n0)
    . exact(Zai (by show _≠w.heap.size+1;omega) _).trans (g0 st.chg _ (by omega) (by omega) n1)
   .
    have gk:=st.chg.size;have b2:St m':=by
     rcases q with ⟨_,_,_,q,_⟩|⟨_,_,q,_⟩
     . exact q
     . exact q _ _ _ _ (g7.step st hC0) rfl rfl (.inl (Nat.le_refl _))
    have gu:=(hi.chg.trans (ChgX.of_below g9 o1 C) (fun _ _ e=>e)).trans st.chg (fun _ _ e=>e);refine⟨by omega,g0 st.chg _ (by omega) (by omega) n0,g0 st.chg _ (by omega) (by omega) n1,.inr ⟨er,evt,ev,rfl,o',m',V',?_,by omega,fun q _ h2 h3=>st.chg.none' (by omega) h3,q.imp (fun⟨a1,a2,a3,_,a4⟩=>⟨a1,a2,a3,a4⟩) id⟩⟩
    exact⟨g7.step st hC0,b1,b2,rfl,fun c hc=>⟨(hi.cok c hc).1,st.chg.none' (by have:=(hi.cok c hc).1;omega) (hi.cok c hc).2⟩,gu,by omega,st.chg.none' (by omega) hi.obn,st.chg.none' (by omega) hi.fbn,
     (g0 st.chg _ (by omega) (by omega) hi.obn).trans gg,⟨z,(g0 st.chg (w.heap.size+1) (by omega) (by omega) hi.fbn).trans gd⟩,by simp⟩
 .
  rintro W1 W2 ⟨o',m',V',r,w1,a1,a2,a3,a4,a5,⟨z,a6⟩,a7,a8,rfl⟩ al;have gb:Wr (fun k=>k=w.heap.size+1\/k=s\/k=s+1) w1 W2:=Wr.trans ((Wr.refl (fun k=>k=w.heap.size+1) w1).setCell (p:=⟨w.heap.size+1,0,none⟩) (.inl rfl) _) al (fun k _ e=>.inl e) (fun k _ e=>.inr (by rw[hs];exact e));have n0:o' s=none:=a5 s (by omega) (by omega) (by rw[hs];exact hi.sat.lt.none (Nat.le_refl _));have n1:o' (s+1)=none:=a5 (s+1) (by omega) (by omega) (by rw[hs];exact hi.sat.lt.none (by omega));have nf:o' (w.heap.size+1)=none:=a5 _ (by omega) (by omega) hi.fbn;have hf:=(al.keep (w.heap.size+1) (by simp[World.setCell];omega) (by omega)).trans (Zae a6 _);refine⟨o',m',V',a1.other gb (fun k _ e=>?_),hB _ _ a2 (fun c hc=>gb.keep c (by have:=(hi.cok c hc).1;omega) (by have:=(hi.cok c hc).1;omega)),a3.trans (ChgX.of_wr (C:=fun k=>w.heap.size<=k) gb o' (fun k _ e=>by omega)) (fun k hk e=>by omega),by have:=gb.size;omega,nf,.inl ⟨rfl,r,a7,hQ _ _ _ _ _ a8 (fun c hc=>gb.keep c (by have:=(hi.cok c hc).1;omega) (by have:=(hi.cok c hc).1;omega)),hf⟩⟩;rcases e with rfl|rfl|rfl
  . exact⟨by omega,nf⟩
  . exact⟨by omega,n0⟩
  . exact⟨by omega,n1⟩
 .
  rintro er ev W1 W2 ⟨o',m',V',gc,a4,a5,(⟨h1,_⟩|⟨_,gs,go,gv⟩)⟩ al
  . cases h1
  rw[<- hs] at al;have n0:o' s=none:=a5 s (by omega) (by omega) (by rw[hs];exact hi.sat.lt.none (Nat.le_refl _));have n1:o' (s+1)=none:=a5 (s+1) (by omega) (by omega) (by rw[hs];exact hi.sat.lt.none (by omega));have g6:=g8 gc (by omega) n0 n1 al;refine(gv o' W2 m' V' g6.sat).mono ?_;rintro x w' ⟨rfl,o2,m2,V2,g1,g2,g3,g5,g4⟩;refine⟨rfl,m'.waits.length,by rw[<- hi.len,gs];simp,o2,m2,V2,ge g6 g1 g4 g2 (go _ _ _ _ g1 g2 g3 g5) (by simp)⟩
 .
  rintro ev W1 W2 ⟨o',m',V',gc,a4,a5,(⟨_,_,hw,_⟩|⟨h1,_⟩)⟩ al gx
  . rw[<- hs] at al;have n0:o' s=none:=a5 s (by omega) (by omega) (by rw[hs];exact hi.sat.lt.none (Nat.le_refl _));have n1:o' (s+1)=none:=a5 (s+1) (by omega) (by omega) (by rw[hs];exact hi.sat.lt.none (by omega));have g6:=g8 gc (by omega) n0 n1 al;refine(Zlf g6.sat).mono ?_;rintro x w' ⟨rfl,o2,d2,g1,g2,g3⟩;have gj:=ge (full':=true) g6 g1 (ChgX.of_chg g3 NoB) rfl (hSt _ _ g6.st g2) (fun _=>g2.dead);rw[hw,hi.len] at gj;exact⟨⟨_,rfl⟩,o2,_,V',gj⟩
  . cases h1
 .
  rintro er ev W1 W2 ⟨o',m',V',gc,a4,a5,(⟨_,h0,hw,hE⟩|⟨h1,_⟩)⟩ al gq
  .
   rw[<- hs] at al;have n0:o' s=none:=a5 s (by omega) (by omega) (by rw[hs];exact hi.sat.lt.none (Nat.le_refl _));have n1:o' (s+1)=none:=a5 (s+1) (by omega) (by omega) (by rw[hs];exact hi.sat.lt.none (by omega));have g6:=g8 gc (by omega) n0 n1 al;refine⟨o',m',V',g6.sat,g6.bok,g6.chg,g6.size,g6.fbn,.inr ⟨h0,m1,hE,fun e7=>hi.clean ?_⟩⟩;cases full with
   | true=>rfl
   | false=>exact(gq ⟨e7,rfl⟩).elim
  . cases h1
def Ztx (K:Law)(n:Nat)(Od:List Nat->Prop)(room:Nat)(w0:World)(mb:Nat)(fs:List (Int×BF))(nx:Int)(C:Nat->Prop)(B:World->Prop)(Q:World->ManD->(Nat->BF)->Nat->Prop)(E:Int->ManD->ManD->Prop)(o:Own)(w:World)(x:Ending)(w':World):Prop :=
 ∃ o' m' V',B w'/\ChgX C o o' w w' /\
  ((∃ r m1,x=.returned (.tuple #[.int .i64 nx,.int .i64 0])/\SatE K n Od room w0 mb (fs++[(nx,ef V' r)]) (nx+1) w' o' m' V'/\Q w' m1 V' r/\okE (Zab m1.d) r/\Zab m'.d=Zab m1.d/\m'.d.vars=m1.d.vars/\m'.d.level=m1.d.level/\m'.d.pool.many=m1.d.pool.many/\m'.waits=m1.waits/\m'.calls=m1.calls) \/
   (∃ er m0,er≠0/\x=.returned (.tuple #[.int .i64 0,.int .i64 er])/\SatE K n Od room w0 mb fs nx w' o' m' V'/\E er m0 m'/\(er=7->m0.d.dead=0)))
theorem Zuv {K:Law}(hK:Zbh K){n:Nat}{Od:List Nat->Prop}{room:Nat}{w0:World}{mb:Nat}{fs:List (Int×BF)}{nx:Int}{C:Nat->Prop}{B:World->Prop}{St:ManD->Prop}{gop:Nat}{lop:Array Value}{Q:World->ManD->(Nat->BF)->Nat->Prop}{E:Int->ManD->ManD->Prop}
 (hB:∀ W W',B W->(∀ c,C c->W'.heap[c]?=W.heap[c]?)->B W') (hQ:∀ W W' m V r,Q W m V r->(∀ c,C c->W'.heap[c]?=W.heap[c]?)->Q W' m V r) (hSt:∀ (m:ManD) (d:Zag),St m->Zbg m.d d->St { m with d:=d }) (hC0:∀ c,C c->w0.heap.size<=c) (eg:∀ args w,(callFunc gop args).run prog w=.ok (.enter gop args) w)
 (hop:OpG K n Od room w0 mb fs nx C B St gop lop Q E) {o:Own} {w:World} {m:ManD} {V:Nat->BF} (h:SatE K n Od room w0 mb fs nx w o m V) (hb:B w) (hC:∀ c,C c->c<w.heap.size/\o c=none) (hst:St m) (hn:nx<1099511627776) :
 Calls prog 137 #[.pointer (some ⟨mb,0,none⟩),.func (.func gop) #[] lop] w (Ztx K n Od room w0 mb fs nx C B Q E o w):=by
 have gq:∀ (fn:Fn) (first cap:Array Value) (w:World),(Instr.makeFunc fn first cap).run prog w=.ok (.func fn first cap) w:=fun _ _ _ _=>rfl
 have g5:=Hd (Zz9 hB hQ hSt hC0 eg hop h hb hC hst);have gh:=Hd hK;have gl:=Hd hB;have gk:=Hd hQ;have gc:=Hd hn;have gd:=Hd hC;have gp:=Ybm (w.alloc (.cells #[.func (.func gop) #[] lop] 202)) (.func gop) #[] lop;have HW:Hid ((w.alloc (.cells #[.func (.func gop) #[] lop] 202)).alloc (.cells #[.int .i64 0] 151)=doW gop lop w):=Hd rfl;clear h hb hK hB hQ hSt hC0 hop hC hst hn
 go_enter func137,ntmps137
 go_wp2_with fail;rw[HW.out];refine g5.out.mono ?_;rintro x w1 ⟨er,rfl,o1,m1,V1,sat,b1,g6,g7,g4,(⟨rfl,r,hr,hq,ga⟩|⟨h0,m0,hE,h7⟩)⟩
 rotate_left
 .
  have HF:Hid (Ztx K n Od room w0 mb fs nx C B Q E o w (.returned (.tuple #[.int .i64 0,.int .i64 er])) w1):=Hd ⟨o1,m1,V1,b1,g6,.inr ⟨er,m0,h0,rfl,sat,hE,h7⟩⟩;have gr:(er == 0)=false:=by simpa using h0
  clear h0 hE h7 sat b1 g6 g7 g4 g5 HW;go_wp2_with fail
  go_ret2
  exact HF.out
 have g1:=cell1 ga;obtain⟨s1,g9⟩:=sat.is;obtain⟨c0,c1,c2,c3,c4,c5,f0⟩:=cells6 g9.blk;obtain⟨ss,g8⟩:=g9.store;have gg:r<eMax:=by have:=g8.edge_lt hr;unfold eMax;omega
 have gj:Hid (Calls prog 188 #[.pointer (some ⟨s1.sb,0,none⟩),.int .i64 r] w1.drew fun x w'=>x=.returned (.bool true)/\Below w1.heap.size w1 w'):=by
  have h1:=Zbj (g8.below sat.lt (Zaf w1 1)) (sat.lt.mono (Zaf w1 1).size) r gg;rw[Zkj hr] at h1;exact Hd (h1.mono fun x w' ⟨a,b⟩=>⟨a,Zhi (n:=1) b⟩)
 have gi:=Hd sat;have HR:=Hd hr;have HQ:=Hd hq;have gm:=Hd b1;have ge:=Hd g6;have gs:=Hd g4;have lmb:mb<w1.heap.size:=Zaa c0;have lfb:w.heap.size+1<w1.heap.size:=Zaa g1;clear sat g9 g8 hr hq b1 g6 g4 g7 g5 HW;go_upto_region 9 with fail;refine Zbp (fun W:World=>Below w1.heap.size w1 W) 7 (by kernel_rfl) (Zaf w1 1) ?_;refine Zac 0 rfl rfl (by kernel_rfl) ?_;apply Exists.intro;refine⟨fun w' hw=>?_,?_⟩
 . have q1:=(hw.cell (p:=⟨mb,0,none⟩) lmb).trans c0;have q2:=(hw.cell (p:=⟨w.heap.size+1,0,none⟩) lfb).trans g1;go_simp;rfl
 simp only[Zah];refine Zac 1 rfl rfl (by kernel_rfl) ?_;apply Exists.intro;refine⟨fun w' hw=>?_,?_⟩
 . have q1:=(hw.cell (p:=⟨mb,0,none⟩) lmb).trans c0;have q2:=(hw.cell (p:=⟨w.heap.size+1,0,none⟩) lfb).trans g1;go_simp;rfl
 simp only[Zah];refine Zac 2 rfl rfl (by kernel_rfl) ?_;apply Exists.intro;refine⟨fun w' hw=>?_,?_⟩
 . have q1:=(hw.cell (p:=⟨mb,0,none⟩) lmb).trans c0;have q2:=(hw.cell (p:=⟨w.heap.size+1,0,none⟩) lfb).trans g1;go_simp;rfl
 simp only[Zah];refine Zac 3 rfl rfl (by kernel_rfl) ?_;apply Exists.intro;refine⟨fun w' hw=>?_,?_⟩
 . have q1:=(hw.cell (p:=⟨mb,0,none⟩) lmb).trans c0;have q2:=(hw.cell (p:=⟨w.heap.size+1,0,none⟩) lfb).trans g1;go_simp;rfl
 simp only[Zah];refine Zac 4 rfl rfl (by kernel_rfl) ?_;apply Exists.intro;refine⟨fun w' hw=>?_,?_⟩
 . have q1:=(hw.cell (p:=⟨mb,0,none⟩) lmb).trans c0;have q2:=(hw.cell (p:=⟨w.heap.size+1,0,none⟩) lfb).trans g1;go_simp;rfl
 simp only[Zah];refine Zal [5] (by kernel_rfl) (fun i hi hS o ho=>?_);simp only[Zbb] at hi;subst hi;simp only[Za2] at ho;subst ho;refine⟨rfl,?_⟩;refine Zas (v:=.bool true) (R:=fun w'=>Below w1.heap.size w1 w') (by go_simp) gj.out ?_;rintro w2 g3;refine⟨g3,?_⟩;simp only[Zah];have go:=(g3.cell (p:=⟨w.heap.size+1,0,none⟩) lfb).trans g1;have d0:=(g3.cell (p:=⟨mb,0,none⟩) lmb).trans c0;have g0:=Hd (gi.out.below g3);refine Zac 6 rfl rfl (by kernel_rfl) ?_;apply Exists.intro;refine⟨fun w' hw=>?_,?_⟩
 . have q1:=(hw.cell (p:=⟨mb,0,none⟩) lmb).trans c0;have q2:=(hw.cell (p:=⟨w.heap.size+1,0,none⟩) lfb).trans g1;go_simp;rfl
 simp only[Zah];have gb:=g3;clear c0 c1 c2 c3 c4 c5 f0 g1 ga g3;refine Zbk (by kernel_rfl) ?_;have HG:=Hd (Zm1 gh.out g0.out.is g0.out.lt g0.out.ok r HR.out (by rw[g0.out.next];exact gc.out));have HB2:=Hd gb;clear gb;go_wp2_with fail;refine HG.out.mono ?_;rintro x w3 ⟨rfl,o3,m3,hg⟩;have g2:=Hd hg;have gc:Hid (m1.next=nx):=Hd g0.out.next
 clear hg;go_wp2_with fail
 go_ret2
 have gn:=g0.out.lt;have gf:∀ c,C c->w3.heap[c]?=w1.heap[c]?:=fun c hc=>by
  have h1:=(gd.out c hc).1;have h2:=ge.out.size;have h3:=HB2.out.size;exact(g2.out.chg.alien (by omega) (ge.out.none' h1 (gd.out c hc).2)).trans (HB2.out.block c (by omega))
 refine⟨o3,m3,V1,gl.out _ _ gm.out gf,(ge.out.trans (ChgX.of_below HB2.out o1 C) (fun _ _ e=>e)).trans (ChgX.of_chg g2.out.chg C) (fun _ _ e=>e),.inl ⟨r,m1,by rw[<- gc.out];rfl,g0.out.gave g2.out,gk.out _ _ _ _ _ HQ.out gf,HR.out,g2.out.nodes,g2.out.vars,g2.out.level,g2.out.many,g2.out.waits,g2.out.calls⟩⟩
open Go.RowKit
section
variable {P:Program}{S:World->Prop}{Q:Exit->Act->World->Prop}{R:List PanicEntry->World->Prop}{m:Nat}
def PP (R:List PanicEntry->World->Prop)(Q:Exit->Act->World->Prop):Exit->Act->World->Prop
 | .panic c,a,w=>a.defers=[]/\R c w
 | e,a,w=>Q e a w
theorem Ztd (a:Act)(d:Option Nat)(v:Value):(a.put d v).defers=a.defers:=by cases d<;>rfl
theorem Yb3 (c:List PanicEntry)(a:Act)(d:Option Nat)(v:Value)(w:World)(h:PP R Q (.panic c) (a.put d v) w):PP R Q (.panic c) a w:=⟨(Ztd a d v).symm.trans h.1,h.2⟩
theorem Zy4 {s:Code}{a:Act}{w:World}(hR:∀ c (a:Act) w,a.defers=[]->R c w->Q (.panic c) a w)(h:s.wp P (PP R Q) a w):s.wp P Q a w :=
 Code.wp_mono (fun e a w h=>by cases e<;>first|exact h|exact hR _ _ _ h.1 h.2) h
structure Zml (P:Program)(l:List Oper)(Q:Exit->Act->World->Prop)(R:List PanicEntry->World->Prop)(S:World->Prop)(m f:Nat)(L:Array Bool)(a:Act)(w:World):Prop where
 goes:Closed l.toArray L->S w->Zk9 P l.toArray (PP R Q) S m f L a w
theorem Zdy {id:Nat}{a:Act}{w:World}{l:List Oper}(S:World->Prop)(R:List PanicEntry->World->Prop)(m:Nat)(hR:∀ c (a:Act) w,a.defers=[]->R c w->Q (.panic c) a w)(hm:P.follows .mixedOrders=true)(hS:S w.drew)
 (h:Zml P l Q R S m l.length (Array.replicate l.toArray.size false) a w.drew):(Code.region id l.toArray true).wp P Q a w :=
 Zy4 hR (wp_region_any hm (Zg8 _ _ _ _ (h.goes (Zgc _) hS)))
theorem Zsz {l:List Oper}{f:Nat}{L:Array Bool}{a:Act}{w:World}(i:Nat)(o:Oper)(v:Value)(hi:l[i]?=some o)
 (hB:(Region.noSelect l.toArray&&(Region.ready .any l.toArray L).contains i&&Region.free .any l.toArray L i&&(decide (l.toArray.size<=m)||reaches l.toArray l.toArray.size i m))=true)
 (hy:∀ w,S w->YieldsIf P l.toArray S o v a) (h:Zml P l Q R S m f (L.setIfInBounds i true) (a.put o.dst v) w):Zml P l Q R S m (f+1) L a w:=by
 refine⟨fun hc hS=>?_⟩;simp only[Bool.and_eq_true] at hB;obtain⟨⟨⟨hs,hr⟩,hf⟩,hm⟩:=hB;have g1:l.toArray[i]?=some o:=by simpa using hi
 have g0:i∈Region.ready .any l.toArray L:=by simpa using hr
 exact Zgt g1 hs Yb3 hm f L a w hc (Region.free_spec g1 hf) g0 (hy w hS) hS (h.goes (hc.set g0) hS)
theorem Za4 {l:List Oper}{f:Nat}{L:Array Bool}{a:Act}{w:World}(i:Nat){o:Oper}(hi:l[i]?=some o)(hg:o.guard=none)
 (hB:(Region.noSelect l.toArray&&(Region.ready .any l.toArray L).contains i&&Region.free .any l.toArray L i&&(decide (l.toArray.size<=m)||reaches l.toArray l.toArray.size i m))=true)
 (h:∃ v,(∀ w,S w->(execOp a.eval o).run P w=.ok (.value v) w)/\Zml P l Q R S m f (L.setIfInBounds i true) (a.put o.dst v) w):Zml P l Q R S m (f+1) L a w:=by
 obtain⟨v,h1,h2⟩:=h;exact Zsz i o v hi hB (fun w _=>.inl ⟨by simp[Region.wanted,hg],h1⟩) h2
theorem Zc6 {l:List Oper}{f:Nat}{L:Array Bool}{a:Act}{w:World}(is:List Nat)(hr:(decide (Region.ready .any l.toArray L=is) && !is.isEmpty)=true)
 (h:∀ i∈is,S w->∀ o,l[i]?=some o->Region.wanted o (yielded l.toArray a.tmps)=true/\o.wp P a w (fun a' w'=>S w'/\Zml P l Q R S m f (L.setIfInBounds i true) a' w') (PP R Q)):Zml P l Q R S m (f+1) L a w:=by
 refine⟨fun hc hS=>?_⟩;simp only[Bool.and_eq_true,decide_eq_true_eq] at hr;obtain⟨hr,g1⟩:=hr;refine⟨fun h0=>(by rw[h0] at hr;subst hr;simp at g1),fun i hi=>?_⟩;have g2:i∈is:=by rw[<- hr];exact hi
 obtain⟨_,o,ho,_⟩:=mem_ready.1 hi;obtain⟨hw,g0⟩:=h i g2 hS o (by simpa using ho);unfold wpOp;rw[ho];simp only[hw,if_true];left;refine Oper.wp_mono ?_ g0;intro a' w' ⟨h1,h2⟩;exact⟨.inr h1,h2.goes (hc.set hi) h1⟩
theorem Zh7 {l:List Oper}{L:Array Bool}{a:Act}{w:World}(hr:(Region.ready .any l.toArray L).isEmpty=true)(h:Q .normal a w):Zml P l Q R S m 0 L a w :=
 ⟨fun _ _=>⟨by simpa [List.isEmpty_iff] using hr,h⟩⟩
end
open Go.RowKit
theorem Zg1 {P:Program}{o:Oper}{a:Act}{w:World}{K:Act->World->Prop}{Q:Exit->Act->World->Prop}{f:FuncId}{args:Array Value}{R:Value->World->Prop}{R2:List PanicEntry->World->Prop}(he:(execOp a.eval o).run P w=.ok (.enter f args) w)
 (hc:Calls P f args w fun e w'=>(∃ v,e=.returned v/\R v w')\/(∃ ch,e=.panicked ch/\R2 ch w')) (h:∀ v w',R v w'->K (a.put o.dst v) w') (h2:∀ ch w',R2 ch w'->Q (.panic ch) a w'):o.wp P a w K Q:=by
 unfold Oper.wp;simp only[he,Oper.upon];refine hc.mono fun e w' hh=>?_
 rcases hh with ⟨v,h1,h3⟩|⟨ch,h1,h3⟩
 . subst h1;exact h v w' h3
 . subst h1;exact h2 ch w' h3
abbrev C3 (bf bg bh:Nat):Nat->Prop:=fun k=>k=bf\/k=bg\/k=bh
structure B3 (bf bg bh:Nat)(kf kg kh:Int)(W:World):Prop where
 f:W.cell? ⟨bf,0,none⟩=some (.int .i64 kf)
 g:W.cell? ⟨bg,0,none⟩=some (.int .i64 kg)
 h:W.cell? ⟨bh,0,none⟩=some (.int .i64 kh)
theorem B3.keep {bf bg bh:Nat}{kf kg kh:Int}(W W':World)(h:B3 bf bg bh kf kg kh W)(hk:∀ c,C3 bf bg bh c->W'.heap[c]?=W.heap[c]?):B3 bf bg bh kf kg kh W' :=
 ⟨(World.cell?_of_block (w:=W) (a:=⟨bf,0,none⟩) (hk _ (.inl rfl))).trans h.f,(World.cell?_of_block (w:=W) (a:=⟨bg,0,none⟩) (hk _ (.inr (.inl rfl)))).trans h.g,(World.cell?_of_block (w:=W) (a:=⟨bh,0,none⟩) (hk _ (.inr (.inr rfl)))).trans h.h⟩
def Zcf (F G H:BF):BF:=fun ρ=>iteB (F ρ) (G ρ) (H ρ)
def SatX (K:Law)(n:Nat)(Od:List Nat->Prop)(room:Nat)(w0:World)(mb:Nat)(fs:List (Int×BF))(nx:Int)(m:ManD):Prop:=∃ W o V,SatE K n Od room w0 mb fs nx W o m V
def Zp8 (lim:Option Nat)(k:Nat)(m:ManD):Prop:=∀ M,lim=some M->m.d.pool.many<=M+k
def QF (ws0:List Ev)(lim:Option Nat)(k:Nat)(F:BF)(_:World)(m':ManD)(V':Nat->BF)(r:Nat):Prop:=ef V' r=F/\m'.waits <:+ ws0/\Zp8 lim k m'
def EF (A:ManD->Prop)(k:Nat)(ws0:List Ev)(er:Int)(m m':ManD):Prop:=er=7/\A m/\m'.d.pool.many=m'.d.pool.room/\m'.d.pool.many+1<=m.d.pool.many+k/\m'.waits <:+ ws0
abbrev Zj5 (ws0:List Ev)(m:ManD):Prop:=m.waits <:+ ws0
abbrev StL (ws0:List Ev)(lim:Option Nat)(m:ManD):Prop:=Zj5 ws0 m/\Zp8 lim 0 m
def EL (A:ManD->Prop)(k:Nat)(ws0:List Ev)(lim:Option Nat)(er:Int)(m m':ManD):Prop:=lim=none/\EF A k ws0 er m m'
def Zp7 (ws0:List Ev)(lim:Option Nat)(k room:Nat):Prop:=∀ M,lim=some M->ws0=[]/\M+k<=room
theorem Zm7 {ws0:List Ev}{lim:Option Nat}{k room:Nat}{m m':ManD}(h:Zp7 ws0 lim k room)(h1:Zp8 lim 0 m)(h2:m'.d.pool.room+1<=m.d.pool.many+k)(h3:m'.d.pool.room=room):lim=none:=by
 cases lim with
 | none=>rfl
 | some M =>
   have:=(h M rfl).2;have:=h1 M rfl;omega
theorem Zvm {ws0 ws:List Ev}{ev:Ev}{lim:Option Nat}{k k' room:Nat}{m:ManD}(h:Zp7 ws0 lim k room)(h1:ev::ws <:+ ws0):Zp8 lim k' m:=fun M e=>by
 have:=(h M e).1;subst this;simp at h1
theorem Zxn {K:Law}(hK:Zbh K){n:Nat}{Od:List Nat->Prop}{room:Nat}{w0:World}{mb:Nat}{fs:List (Int×BF)}{nx:Int}(ws0:List Ev)(lim:Option Nat)(hlim:Zp7 ws0 lim (2^n-1) room)(hhap:∀ ev∈ws0,HapG K n Od room w0 mb fs nx ev)(bf bg bh:Nat){kf kg kh:Int}{F G H:BF}(hf:(kf,F)∈fs)(hg:(kg,G)∈fs)(hh:(kh,H)∈fs) :
 OpG K n Od room w0 mb fs nx (C3 bf bg bh) (B3 bf bg bh kf kg kh) (StL ws0 lim) 140 #[.pointer (some ⟨bf,0,none⟩),.pointer (some ⟨bg,0,none⟩),.pointer (some ⟨bh,0,none⟩)] (QF ws0 lim (2^n-1) (Zcf F G H)) (EL (SatX K n Od room w0 mb fs nx) (2^n-1) ws0 lim):=by
 intro o W m V xb g0 hB hC g1 g7 hnx;obtain⟨f,hf,ef1⟩:=g0.find hf;obtain⟨g,hg,ef2⟩:=g0.find hg;obtain⟨h,hh,ef3⟩:=g0.find hh;have hk:=g0.ok;have g8:=g0.lt;have gc:=hk.store;obtain⟨s,hm⟩:=g0.is;have g2:Below W.heap.size W W.drew:=Zaf W 1;have g6:=hm.below g8 g2;have ga:=g8.mono g2.size;have g5:Zdz o W.drew xb mb:=⟨(g2.cell (p:=⟨xb,0,none⟩) (Zaa g7.cell)).trans g7.cell,g7.own⟩;have df:=(g2.cell (p:=⟨bf,0,none⟩) (Zaa hB.f)).trans hB.f;have dg:=(g2.cell (p:=⟨bg,0,none⟩) (Zaa hB.g)).trans hB.g;have dh:=(g2.cell (p:=⟨bh,0,none⟩) (Zaa hB.h)).trans hB.h;have of:=(hC bf (.inl rfl)).2;have og:=(hC bg (.inr (.inl rfl))).2;have oh:=(hC bh (.inr (.inr rfl))).2;have gi:=Hd (Zdh ⟨s,g6⟩ g5 hk.handles.nodup hf);have gh:=Hd (Zdh ⟨s,g6⟩ g5 hk.handles.nodup hg);have gg:=Hd (Zdh ⟨s,g6⟩ g5 hk.handles.nodup hh);have gd:=Hd (Zlu hK n o W.drew xb mb m V f g h ⟨s,g6⟩ ga g5 gc (hk.handles.ok _ hf) (hk.handles.ok _ hg) (hk.handles.ok _ hh) (by rw[g0.vars];omega));obtain⟨P,hP⟩:∃ P:Ending->World->Prop,P=fun e w'=>∃ (o':Own) (m':ManD) (V':Nat->BF),Zmm (C3 bf bg bh) K o W mb m V o' w' m' V'/\B3 bf bg bh kf kg kh w' /\
  ((∃ r:Nat,e=.returned (.int .i64 r)/\okE (Zab m'.d) r/\QF ws0 lim (2^n-1) (Zcf F G H) w' m' V' r) \/
   (∃ er:Int,e=Zcg er false ev0/\er≠0/\m'.waits=m.waits/\StL ws0 lim m'/\EL (SatX K n Od room w0 mb fs nx) (2^n-1) ws0 lim er m m') \/
   (∃ ev,e=Zcg 0 true ev/\m.waits=ev::m'.waits/\StE K n Od room w0 mb fs nx (StL ws0 lim) m'/\HapG K n Od room w0 mb fs nx ev)):=⟨_,rfl⟩
 have ge:Hid (∀ e w',Ztz K n o W.drew mb m V f g h e w'->(∃ v,e=.returned v/\(w'.cell? ⟨bf,0,none⟩=some (.int .i64 kf)/\w'.cell? ⟨bg,0,none⟩=some (.int .i64 kg)/\w'.cell? ⟨bh,0,none⟩=some (.int .i64 kh))/\P (.returned v) w')\/(∃ ch,e=.panicked ch/\P (.panicked ch) w')):=by
  refine Hd ?_;subst hP;rintro e w' ⟨o',m',V',st,g9⟩;have g3:B3 bf bg bh kf kg kh w':=⟨st.chg.cell df of,st.chg.cell dg og,st.chg.cell dh oh⟩;have stx:Zmm (C3 bf bg bh) K o W mb m V o' w' m' V':=Step.toX (K:=K) ⟨st.is,st.lt,(Chg.of_below g2 _ o).trans st.chg,st.ok,st.ext,st.hs,st.next⟩ _;have hp2:0<2^n:=Nat.pow_pos (by omega);rcases g9 with ⟨r,rfl,h1,h2,h3⟩|⟨rfl,h2,h3,h4⟩|⟨ev,rfl,h1⟩
  . refine .inl ⟨_,rfl,⟨g3.f,g3.g,g3.h⟩,o',m',V',stx,g3,.inl ⟨r,rfl,h1.okR,?_,by rw[h2];exact g1.1,fun M e=>by have:=g1.2 M e;omega⟩⟩;have e1:=(st.ext.ef (hk.handles.ok _ hf)).trans ef1;have e2:=(st.ext.ef (hk.handles.ok _ hg)).trans ef2;have e3:=(st.ext.ef (hk.handles.ok _ hh)).trans ef3;dsimp only at e1 e2 e3;funext ρ;rw[h1.val ρ,e1,e2,e3];rfl
  . have gb:lim=none:=Zm7 hlim g1.2 (by rw[<- h3];omega) (by rw[st.ext.room];exact g0.room);exact .inr ⟨_,rfl,o',m',V',stx,g3,.inr (.inl ⟨7,rfl,by omega,h2,⟨by unfold Zj5;rw[h2];exact g1.1,by subst gb;exact fun M e=>by cases e⟩,gb,rfl,⟨_,_,_,g0⟩,h3,by omega,by rw[h2];exact g1.1⟩)⟩
  .
   refine .inr ⟨_,rfl,o',m',V',stx,g3,.inr (.inr ⟨ev,rfl,h1,?_,?_⟩)⟩
   all_goals
    have g4:m.waits <:+ ws0:=g1.1;rw[h1] at g4
    first|exact fun _ _ _ _ _ e _ _=>⟨by unfold Zj5;rw[e];exact(List.suffix_cons ev m'.waits).trans g4,Zvm hlim g4⟩|exact hhap ev (g4.subset (List.mem_cons_self ..))
 rw[<- hP];clear hm gc hk g7 hB hC g1 hnx hhap hlim hK g8 hf hg hh of og oh g6 ga g5 g2 g0 hP ef1 ef2 ef3
 go_enter func140,ntmps140
 go_upto_region 1 with fail;refine Zdy (fun W:World=>W.cell? ⟨bf,0,none⟩=some (.int .i64 kf)/\W.cell? ⟨bg,0,none⟩=some (.int .i64 kg)/\W.cell? ⟨bh,0,none⟩=some (.int .i64 kh)) (fun ch w'=>P (.panicked ch) w') 12 (fun c a w hd h=>⟨hd,h⟩) (by kernel_rfl) ⟨df,dg,dh⟩ ?_;refine Za4 0 rfl rfl (by kernel_rfl) ?_;apply Exists.intro;refine⟨fun w' hw=>?_,?_⟩
 . obtain⟨q1,q2,q3⟩:=hw;go_simp;rfl
 simp only[Zah];refine Za4 1 rfl rfl (by kernel_rfl) ?_;apply Exists.intro;refine⟨fun w' hw=>?_,?_⟩
 . obtain⟨q1,q2,q3⟩:=hw;go_simp;rfl
 simp only[Zah];refine Za4 2 rfl rfl (by kernel_rfl) ?_;apply Exists.intro;refine⟨fun w' hw=>?_,?_⟩
 . obtain⟨q1,q2,q3⟩:=hw;go_simp;rfl
 simp only[Zah];refine Za4 4 rfl rfl (by kernel_rfl) ?_;apply Exists.intro;refine⟨fun w' hw=>?_,?_⟩
 . obtain⟨q1,q2,q3⟩:=hw;go_simp;rfl
 simp only[Zah];refine Za4 5 rfl rfl (by kernel_rfl) ?_;apply Exists.intro;refine⟨fun w' hw=>?_,?_⟩
 . obtain⟨q1,q2,q3⟩:=hw;go_simp;rfl
 simp only[Zah];refine Za4 7 rfl rfl (by kernel_rfl) ?_;apply Exists.intro;refine⟨fun w' hw=>?_,?_⟩
 . obtain⟨q1,q2,q3⟩:=hw;go_simp;rfl
 simp only[Zah];refine Za4 8 rfl rfl (by kernel_rfl) ?_;apply Exists.intro;refine⟨fun w' hw=>?_,?_⟩
 . obtain⟨q1,q2,q3⟩:=hw;go_simp;rfl
 simp only[Zah];refine Zc6 [3] (by kernel_rfl) (fun i hi hS o ho=>?_);simp only[Zbb] at hi;subst hi;simp only[Za2] at ho;subst ho;refine⟨rfl,?_⟩;refine Zas (v:=.int .i64 (f:Nat)) (R:=fun w'=>W.drew=w') (by go_simp) gi.out ?_;rintro w' rfl;refine⟨⟨df,dg,dh⟩,?_⟩;simp only[Zah];refine Zc6 [6] (by kernel_rfl) (fun i hi hS o ho=>?_);simp only[Zbb] at hi;subst hi;simp only[Za2] at ho;subst ho;refine⟨rfl,?_⟩;refine Zas (v:=.int .i64 (g:Nat)) (R:=fun w'=>W.drew=w') (by go_simp) gh.out ?_;rintro w' rfl;refine⟨⟨df,dg,dh⟩,?_⟩;simp only[Zah];refine Zc6 [9] (by kernel_rfl) (fun i hi hS o ho=>?_);simp only[Zbb] at hi;subst hi;simp only[Za2] at ho;subst ho;refine⟨rfl,?_⟩;refine Zas (v:=.int .i64 (h:Nat)) (R:=fun w'=>W.drew=w') (by go_simp) gg.out ?_;rintro w' rfl;refine⟨⟨df,dg,dh⟩,?_⟩;simp only[Zah];refine Zc6 [10] (by kernel_rfl) (fun i hi hS o ho=>?_);simp only[Zbb] at hi;subst hi;simp only[Za2] at ho;subst ho;refine⟨rfl,?_⟩;refine Zg1 (R:=fun v w'=>(w'.cell? ⟨bf,0,none⟩=some (.int .i64 kf)/\w'.cell? ⟨bg,0,none⟩=some (.int .i64 kg)/\w'.cell? ⟨bh,0,none⟩=some (.int .i64 kh))/\P (.returned v) w') (R2:=fun ch w'=>P (.panicked ch) w') (by go_simp) (gd.out.mono ge.out) ?_ ?_
 .
  rintro v w' ⟨hS,g1⟩;refine⟨hS,?_⟩;have gf:=Hd g1;clear g1;simp only[Zah];refine Za4 11 rfl rfl (by kernel_rfl) ?_;apply Exists.intro;refine⟨fun w' hw=>?_,?_⟩
  . go_simp;rfl
  simp only[Zah];refine Zh7 (by kernel_rfl) ?_;clear hS df dg dh;go_wp2_with fail;exact gf.out
 . intro ch w' g1;exact⟨rfl,g1⟩
abbrev C1 (b:Nat):Nat->Prop:=fun k=>k=b
structure B1 (b:Nat)(v:Int)(W:World):Prop where
 c:W.cell? ⟨b,0,none⟩=some (.int .i64 v)
theorem B1.keep {b:Nat}{v:Int}(W W':World)(h:B1 b v W)(hk:∀ c,C1 b c->W'.heap[c]?=W.heap[c]?):B1 b v W':=⟨(World.cell?_of_block (w:=W) (a:=⟨b,0,none⟩) (hk _ rfl)).trans h.c⟩
theorem Zy2 {K:Law}(hK:Zbh K){n:Nat}{Od:List Nat->Prop}{room:Nat}{w0:World}{mb:Nat}{fs:List (Int×BF)}{nx:Int}(ws0:List Ev)(lim:Option Nat)(hlim:Zp7 ws0 lim 1 room)(hhap:∀ ev∈ws0,HapG K n Od room w0 mb fs nx ev)(v vb:Nat)(hv:v<n) :
 OpG K n Od room w0 mb fs nx (C1 vb) (B1 vb v) (StL ws0 lim) 138 #[.pointer (some ⟨vb,0,none⟩)] (QF ws0 lim 1 (varF v)) (EL (SatX K n Od room w0 mb fs nx) 1 ws0 lim):=by
 intro o W m V xb g1 hB hC g0 hx hnx;have hk:=g1.ok;have g9:=g1.lt;have g2:=hk.store;have o0:okE (Zab m.d) 0:=.inl rfl;have o1:okE (Zab m.d) 1:=.inl rfl;have g4:lvE m.d.vars.length (levN m.d) (Zab m.d) 0=m.d.vars.length:=Zgk g2 rfl;have gc:lvE m.d.vars.length (levN m.d) (Zab m.d) 1=m.d.vars.length:=Zgk g2 rfl;have g8:v<m.d.vars.length:=by rw[g1.vars];exact hv
 have gb:=g2.dag.lt v g8;have ge:=Hd (Zkc hK g1.is g9 hx g2 v 1 0 o1 o0);have cvb:=hB.c;have ob:=(hC vb rfl).2;obtain⟨P,hP⟩:∃ P:Ending->World->Prop,P=fun e w'=>∃ (o':Own) (m':ManD) (V':Nat->BF),Zmm (C1 vb) K o W mb m V o' w' m' V'/\B1 vb v w' /\
  ((∃ r:Nat,e=.returned (.int .i64 r)/\okE (Zab m'.d) r/\QF ws0 lim 1 (varF v) w' m' V' r) \/
   (∃ er:Int,e=Zcg er false ev0/\er≠0/\m'.waits=m.waits/\StL ws0 lim m'/\EL (SatX K n Od room w0 mb fs nx) 1 ws0 lim er m m') \/
   (∃ ev,e=Zcg 0 true ev/\m.waits=ev::m'.waits/\StE K n Od room w0 mb fs nx (StL ws0 lim) m'/\HapG K n Od room w0 mb fs nx ev)):=⟨_,rfl⟩
 have ga:Hid (∀ e w',Zhy K o W mb m V v 1 0 e w'->(∃ r:Nat,e=.returned (.int .i64 r)/\P (.returned (.int .i64 r)) w')\/(∃ er evt ev,e=Zcg er evt ev/\P (Zcg er evt ev) w')):=by
  refine Hd ?_;subst hP;rintro e w' ⟨o',m',V',st,g7⟩;have g5:B1 vb v w':=⟨st.chg.cell cvb ob⟩;have stx:Zmm (C1 vb) K o W mb m V o' w' m' V':=st.toX _;rcases g7 with ⟨ev,h1,_,_,_,_,rfl⟩|⟨h1,_,_,(⟨er,gd,hd,_,rfl⟩|⟨_,_,r,rfl,h2,h3,_,h5⟩)⟩
  .
   refine .inr ⟨0,true,ev,rfl,o',m',V',stx,g5,.inr (.inr ⟨ev,rfl,h1,?_,?_⟩)⟩
   all_goals
    have g3:m.waits <:+ ws0:=g0.1;rw[h1] at g3
    first|exact fun _ _ _ _ _ e _ _=>⟨by unfold Zj5;rw[e];exact(List.suffix_cons ev m'.waits).trans g3,Zvm hlim g3⟩|exact hhap ev (g3.subset (List.mem_cons_self ..))
  .
   refine .inr ⟨er,false,ev0,rfl,o',m',V',stx,g5,.inr (.inl ?_)⟩;rcases gd with ⟨_,h⟩|⟨_,_,_,h⟩|⟨rfl,h⟩
   . exact(h ⟨by omega,by omega⟩).elim
   . simp only[Int.toNat_natCast] at h;omega
   . have g4:lim=none:=Zm7 (m':=m') hlim g0.2 (by rw[hd];omega) (by rw[st.ext.room];exact g1.room);exact⟨7,rfl,by omega,h1,⟨by unfold Zj5;rw[h1];exact g0.1,by subst g4;exact fun M e=>by cases e⟩,g4,rfl,⟨_,_,_,g1⟩,by rw[hd];exact h,by rw[hd];omega,by rw[h1];exact g0.1⟩
  . refine .inl ⟨r,rfl,o',m',V',stx,g5,.inl ⟨r,rfl,h2,?_,by rw[h1];exact g0.1,fun M e=>by have:=g0.2 M e;omega⟩⟩;rw[h3];funext ρ;have a0:=Zho g2.dag.one ρ;have a1:=Zkf g2.dag.one ρ;simp only[iteF,varF,Int.toNat_natCast,a0,a1];cases ρ v<;>rfl
 rw[<- hP];clear g2 o0 o1 g4 gc gb g8 hk hx hC hK hv g9 hB hnx g0 hP ob g1 hlim
 go_enter func138,ntmps138
 go_wp2_with fail;refine ge.out.mono ?_;intro e w' hp;rcases ga.out e w' hp with ⟨r,rfl,g0⟩|⟨er,evt,ev,rfl,g0⟩
 . have g6:=Hd g0;clear hp g0;go_wp2_with fail;exact g6.out
 . have g6:=Hd g0;clear hp g0;unfold Zcg;go_wp2_with fail;exact⟨rfl,g6.out⟩
def Zi4 (K:Law)(n:Nat)(Od:List Nat->Prop)(room:Nat)(w0:World)(mb:Nat)(fs:List (Int×BF))(nx:Int)(ws0:List Ev)(lim:Option Nat)(k:Nat)(F:BF)(o:Own)(w:World)(x:Ending)(w':World):Prop :=
 ∃ o' m' V',ChgX NoB o o' w w'/\m'.waits <:+ ws0/\((x=.returned (.tuple #[.int .i64 nx,.int .i64 0])/\Zp8 lim k m'/\SatE K n Od room w0 mb (fs++[(nx,F)]) (nx+1) w' o' m' V') \/
  (x=.returned (.tuple #[.int .i64 0,.int .i64 7])/\lim=none/\SatE K n Od room w0 mb fs nx w' o' m' V'/\∃ m0,SatX K n Od room w0 mb fs nx m0/\m0.d.dead=0/\room+1<=m0.d.pool.many+k))
theorem StL.coll {ws0:List Ev}{lim:Option Nat}(m:ManD)(d:Zag)(h:StL ws0 lim m)(r:Zbg m.d d):StL ws0 lim { m with d:=d }:=⟨h.1,fun M e=>by have:=h.2 M e;have:=r.many;show d.pool.many<=M+0;omega⟩
theorem Zpf {K:Law}{n:Nat}{Od:List Nat->Prop}{room:Nat}{w0:World}{mb:Nat}{fs:List (Int×BF)}{nx:Int}{ws0:List Ev}{lim:Option Nat}{k:Nat}{F:BF}{o:Own}{w w1 w':World}{C:Nat->Prop}{B:World->Prop}{x:Ending}(hb:Below w.heap.size w w1)(hC:∀ c,C c->w.heap.size<=c)
 (h:Ztx K n Od room w0 mb fs nx C B (QF ws0 lim k F) (EL (SatX K n Od room w0 mb fs nx) k ws0 lim) o w1 x w'):Zi4 K n Od room w0 mb fs nx ws0 lim k F o w x w':=by
 obtain⟨o',m',V',_,hc,g0⟩:=h;have g1:ChgX NoB o o' w w':=(ChgX.of_below hb o NoB).trans hc (fun k hk e=>by have:=hC k e;omega);rcases g0 with ⟨r,m1,rfl,hs,⟨q1,q2,q4⟩,_,_,_,_,q5,q3,_⟩|⟨er,m0,_,rfl,hs,⟨g3,rfl,g2,h1,h2,h3⟩,h7⟩
 . exact⟨o',m',V',g1,by rw[q3];exact q2,.inl ⟨rfl,fun M e=>by rw[q5];exact q4 M e,by rw[<- q1];exact hs⟩⟩
 . refine⟨o',m',V',g1,h3,.inr ⟨rfl,g3,hs,m0,g2,h7 rfl,?_⟩⟩;have:=hs.room;omega
theorem Zl1 {K:Law}(hK:Zbh K){n:Nat}{Od:List Nat->Prop}{room:Nat}{w0:World}{mb:Nat}{fs:List (Int×BF)}{nx:Int}{w:World}{o:Own}{m:ManD}{V:Nat->BF}(h:SatE K n Od room w0 mb fs nx w o m V)(ws0:List Ev)(hws:m.waits <:+ ws0)(lim:Option Nat)(hlim:Zp7 ws0 lim (2^n-1) room)(hl0:Zp8 lim 0 m)(hhap:∀ ev∈ws0,HapG K n Od room w0 mb fs nx ev)(hn:nx<1099511627776)
 {kf kg kh:Int} {F G H:BF} (hf:(kf,F)∈fs) (hg:(kg,G)∈fs) (hh:(kh,H)∈fs) :
 Calls prog 83 #[.pointer (some ⟨mb,0,none⟩),.int .i64 kf,.int .i64 kg,.int .i64 kh] w (Zi4 K n Od room w0 mb fs nx ws0 lim (2^n-1) (Zcf F G H) o w):=by
 have g1:∀ (fn:Fn) (first cap:Array Value) (w:World),(Instr.makeFunc fn first cap).run prog w=.ok (.func fn first cap) w:=fun _ _ _ _=>rfl
 obtain⟨hb,cf,cg,ch⟩:=Zz2 kf kg kh w;have hw0:=h.chg.size;have hz:(box3 kf kg kh w).heap.size=w.heap.size+3:=by simp[box3]
 have g0:Hid (Calls prog 137 #[.pointer (some ⟨mb,0,none⟩),.func (.func 140) #[] #[.pointer (some ⟨w.heap.size,0,none⟩),.pointer (some ⟨w.heap.size+1,0,none⟩),.pointer (some ⟨w.heap.size+1+1,0,none⟩)]] (box3 kf kg kh w) (Zi4 K n Od room w0 mb fs nx ws0 lim (2^n-1) (Zcf F G H) o w)):=by
  refine Hd ?_;refine(Zuv hK B3.keep (fun _ _ _ _ _ h _=>h) StL.coll ?_ Zqi (Zxn hK ws0 lim hlim hhap w.heap.size (w.heap.size+1) (w.heap.size+1+1) hf hg hh) (h.below hb) ⟨cf,cg,ch⟩ ?_ ⟨hws,hl0⟩ hn).mono fun x w' hp=>Zpf hb ?_ hp
  . rintro c (rfl|rfl|rfl)<;>omega
  . rintro c (rfl|rfl|rfl)<;>exact⟨by omega,h.lt.none (by omega)⟩
  . rintro c (rfl|rfl|rfl)<;>omega
 have HW:Hid (_=box3 kf kg kh w):=Hd (show ((w.alloc (.cells #[.int .i64 kf] 3)).alloc (.cells #[.int .i64 kg] 3)).alloc (.cells #[.int .i64 kh] 3)=box3 kf kg kh w from rfl);clear h hK hws hhap hn hf hg hh hb cf cg ch hw0 hz hlim hl0;obtain⟨P,hP⟩:∃ P,P=Zi4 K n Od room w0 mb fs nx ws0 lim (2^n-1) (Zcf F G H) o w:=⟨_,rfl⟩;rw[<- hP] at g0 ⊢;have HT:Hid (∀ x w',P x w'->∃ a b,x=.returned (.tuple #[.int .i64 a,.int .i64 b])):=by
  refine Hd ?_;subst hP;rintro x w' ⟨_,_,_,_,_,(⟨rfl,_⟩|⟨rfl,_⟩)⟩
  . exact⟨_,_,rfl⟩
  . exact⟨_,_,rfl⟩
 clear hP
 go_enter func83,ntmps83
 go_wp2_with fail;rw[HW.out];refine g0.out.mono ?_;intro x w' hd;obtain⟨a,b,rfl⟩:=HT.out x w' hd;have HD:=Hd hd;clear hd;go_wp2_with fail;exact HD.out
theorem Zl2 {K:Law}(hK:Zbh K){n:Nat}{Od:List Nat->Prop}{room:Nat}{w0:World}{mb:Nat}{fs:List (Int×BF)}{nx:Int}{w:World}{o:Own}{m:ManD}{V:Nat->BF}(h:SatE K n Od room w0 mb fs nx w o m V)(ws0:List Ev)(hws:m.waits <:+ ws0)(lim:Option Nat)(hlim:Zp7 ws0 lim 1 room)(hl0:Zp8 lim 0 m)(hhap:∀ ev∈ws0,HapG K n Od room w0 mb fs nx ev)(hn:nx<1099511627776)
 (v:Nat) (hv:v<n) :
 Calls prog 81 #[.pointer (some ⟨mb,0,none⟩),.int .i64 v] w (Zi4 K n Od room w0 mb fs nx ws0 lim 1 (varF v) o w):=by
 have gb:∀ (fn:Fn) (first cap:Array Value) (w:World),(Instr.makeFunc fn first cap).run prog w=.ok (.func fn first cap) w:=fun _ _ _ _=>rfl
 obtain⟨w1,g0⟩:∃ w1,w1=w.alloc (.cells #[.int .i64 (v:Nat)] 3):=⟨_,rfl⟩;have g1:Below w.heap.size w w1:=by rw[g0];exact Zad w _
 have g5:w1.heap[w.heap.size]?=some (.cells #[.int .i64 (v:Nat)] 3 (0,0)):=by rw[g0];exact heap_alloc_new w _
 have cvb:w1.cell? ⟨w.heap.size,0,none⟩=some (.int .i64 (v:Nat)):=cell1 g5;have g8:w1.heap.size=w.heap.size+1:=by rw[g0];simp
 have hw0:=h.chg.size;obtain⟨s,g6⟩:=h.is;have g3:=g6.below h.lt g1;obtain⟨c0,c1,c2,c3,c4,c5,f0⟩:=cells6 g3.blk;obtain⟨ss,g2⟩:=g3.store;have g7:Zf9 m.d v=(levN m.d v:Nat):=Zo9 (by rw[g2.len,h.vars];exact hv);have g9:Hid (∀ n,Calls prog 136 #[.pointer (some ⟨s.sb,0,none⟩),.int .i64 (v:Nat)] (w1.drewN n) fun x w'=>x=.returned (.int .i64 (levN m.d v:Nat))/\w1.drewN n=w'):=by
  refine Hd fun n=>?_
  have:=Zhv (g2.below (h.lt.mono g1.size) (Zaf w1 n)) v (by rw[g2.len];have:=h.ok.store.small;omega);rw[g7] at this;exact this
 obtain⟨P,hP⟩:∃ P,P=Zi4 K n Od room w0 mb fs nx ws0 lim 1 (varF v) o w:=⟨_,rfl⟩;have ga:Hid (∀ q,Calls prog 137 #[.pointer (some ⟨mb,0,none⟩),.func (.func 138) #[] #[.pointer (some ⟨w.heap.size,0,none⟩)]] (w1.drewN q) P):=by
  refine Hd fun q=>?_
  rw[hP];have g4:Below w.heap.size w (w1.drewN q):=g1.trans ((Zaf w1 q).mono g1.size);refine(Zuv hK B1.keep (fun _ _ _ _ _ h _=>h) StL.coll ?_ Zqj (Zy2 hK ws0 lim hlim hhap v w.heap.size hv) (h.below g4) ⟨cvb⟩ ?_ ⟨hws,hl0⟩ hn).mono fun x w' hp=>Zpf g4 ?_ hp
  . rintro c rfl;omega
  . rintro c rfl;exact⟨by have:=g4.size;show w.heap.size<w1.heap.size;omega,h.lt.none (by omega)⟩
  . rintro c rfl;omega
 have HT:Hid (∀ x w',P x w'->∃ a b,x=.returned (.tuple #[.int .i64 a,.int .i64 b])):=by
  refine Hd ?_;rw[hP];rintro x w' ⟨_,_,_,_,_,(⟨rfl,_⟩|⟨rfl,_⟩)⟩
  . exact⟨_,_,rfl⟩
  . exact⟨_,_,rfl⟩
 rw[<- hP];have HW:Hid (w.alloc (.cells #[.int .i64 (v:Nat)] 3)=w1):=Hd g0.symm;clear g3 g2 g7 g6 g1 g5 g0 hK hn hv hws hhap h hw0 g8 hP hlim hl0
 go_enter func81,ntmps81
 go_upto_region 3 with fail;rw[HW.out]
 go_quiet (with_reducible exact Zbx (g9.out _))
 go_wp2_with fail;refine(ga.out _).mono ?_;intro x w' hd;obtain⟨a,b,rfl⟩:=HT.out x w' hd;have HD:=Hd hd;clear hd;go_wp2_with fail;exact HD.out
open Go.RowKit
section
variable {K:Law}{n:Nat}{Od:List Nat->Prop}{room:Nat}{w0 w:World}{mb:Nat}{fs:List (Int×BF)}{nx:Int}{o:Own}{m:ManD}{V:Nat->BF}
theorem SatE.eval (h:SatE K n Od room w0 mb fs nx w o m V){k:Int}{F:BF}(hk:(k,F)∈fs){v:Value}{bs:List Bool}(hbs:Zbw w v bs) :
 Calls prog 134 #[.pointer (some ⟨mb,0,none⟩),.int .i64 k,v] w fun x w'=>x=.returned (.tuple #[.bool (F (Zcc bs)),.int .i64 0])/\Below w.heap.size w w':=by
 obtain⟨f,hf,e1⟩:=h.find hk;obtain⟨a,c,rfl,h1,_⟩:=hbs;rw[<- e1];exact Zxe h.is h.lt h.ok hf a c bs h1
theorem SatE.vars_any (h:SatE K n Od room w0 mb fs nx w o m V):Calls prog 58 #[.pointer (some ⟨mb,0,none⟩)] w fun x w'=>x=.returned (.int .i64 n)/\w=w':=by
 have:=Zkp h.is;rw[h.vars] at this;exact this
theorem SatE.handles_any (h:SatE K n Od room w0 mb fs nx w o m V):Calls prog 80 #[.pointer (some ⟨mb,0,none⟩)] w fun x w'=>x=.returned (.int .i64 (fs.length:Nat))/\w=w':=by
 have e:fs.length=m.hs.length:=by rw[<- h.hs,List.length_map]
 rw[e];exact Go.Proofs.YtkbegdkpboklpaaGreat.Yan h.is
theorem Zxs (h:SatE K n Od room w0 mb fs nx w o m V)(q:Nat)(hq:q<=1000000) :
 Calls prog 29 #[.pointer (some ⟨mb,0,none⟩),.int .i64 q] w fun x w'=>x=.returned (.bool (decide (fs.length=q+2)))/\w=w':=by
 have HH:=Hd h.handles_any;have HF:Hid ((((fs.length:Nat):Int) == (q:Int)+2)=decide (fs.length=q+2)):=by
  refine Hd ?_
  show (((fs.length:Nat):Int) == (q:Int)+2)=_
  by_cases e:fs.length=q+2
  . rw[decide_eq_true e,beq_iff_eq];omega
  . rw[decide_eq_false e,beq_eq_false_iff_ne];omega
 clear h
 go_enter func29,ntmps29
 go_wp2_with fail;refine HH.out.mono ?_;rintro x w' ⟨rfl,rfl⟩;go_wp2_with fail;go_ret;exact⟨by rw[<- HF.out];rfl,rfl⟩
theorem Zxa (i:Nat)(hi:i<=1048576):(IntKind.u64).wrap (i:Int)=(i:Int):=by
 simp[IntKind.wrap,IntKind.bits];omega
theorem Zzh (h:SatE K n Od room w0 mb fs nx w o m V)(hn:n<=16){k:Int}{F:BF}(hk:(k,F)∈fs){v:Value}{bs:List Bool}(hbs:Zbw w v bs) :
 Calls prog 79 #[.pointer (some ⟨mb,0,none⟩),.int .i64 k,v] w fun x w'=>∃ b,x=.returned (.bool b)/\(b=true↔bs=tabB n F)/\Below w.heap.size w w':=by
 have HV:=Hd h.vars_any;have HC:=Hd (Ze8 false n hn w);have gj:Hid (∀ W,Below w.heap.size w W->∀ u cs,Zbw W u cs->Calls prog 134 #[.pointer (some ⟨mb,0,none⟩),.int .i64 k,u] W fun x w'=>x=.returned (.tuple #[.bool (F (Zcc cs)),.int .i64 0])/\Below W.heap.size W w') :=
  Hd fun W hb u cs hu=>(h.below hb).eval hk hu
 have gi:Hid (∀ i,i<=1048576->∀ W,Calls prog 135 #[.int .u64 (i:Nat),.int .i64 n] W fun x w'=>∃ v,x=.returned v/\OwnB w' W.heap.size v (Zcq i n)/\Below W.heap.size W w'):=Hd fun i hi W=>Zwa i n hi hn W
 obtain⟨a,c,rfl,gb,gf⟩:=hbs;have gk:=Hd gb;have gn:=gb.len;have hp:=Zfn (show n<=20 by omega);obtain⟨L,hL⟩:∃ L,L=2^n:=⟨_,rfl⟩;have HL:=Hd hL;rw[<- hL] at hp HC;clear h hL gb gf
 go_enter func79,ntmps79
 go_wp2_with fail;refine HV.out.mono ?_;rintro x w' ⟨rfl,rfl⟩;go_wp2_with fail;refine HC.out.mono ?_;rintro x w1 ⟨g,rfl,_,g4⟩
 by_cases hlen:bs.length=L
 .
  have gg:((bs.length:Int) != (L:Int))=false:=by rw[hlen];simp
  have gd:=Hd g4;clear g4 HC HV;go_wp2_with fail
  go_loopw [8,21] (fun s8 s21 wr=>∃ j:Nat,j<=L/\s21=.int .i64 j/\Below w.heap.size w wr/\Hid (∀ q,q<j->bs.getD q false=F (Zcc (Zcq q n)))) (fun _ s21 _=>L-(intOf s21).toNat)
  case atStart=>exact⟨0,Nat.zero_le _,rfl,gd.out,Hd fun q hq=>by omega⟩
  case round =>
   obtain⟨j,hj,rfl,g1,HQ⟩:=hrel
   by_cases gh:j<L
   .
    have g0:=Hd g1;clear g1;have gm:=Zxa j (by omega);have gl:(j:Int)<bs.length:=by omega
    obtain⟨b1,of1,rfl,c1⟩:=(gk.out.below g0.out).cells j (by omega);go_wp2_with fail;refine(gi.out j (by omega) _).mono ?_;rintro x w3 ⟨u,rfl,g8,ga⟩;have gc:=Hd ga;have c3:=(ga.cell (p:=⟨b1,of1+j,none⟩) (Zaa c1)).trans c1;have HU:=Hd (g8.boolsIs (by rw[Ze5];omega));clear g8 ga c1;go_wp2_with fail;refine(gj.out _ (g0.out.trans (gc.out.mono g0.out.size)) _ _ HU.out).mono ?_;rintro x w4 ⟨rfl,g9⟩;have c4:=(g9.cell (p:=⟨b1,of1+j,none⟩) (Zaa c3)).trans c3;have g6:=Hd (g0.out.trans ((gc.out.trans (g9.mono gc.out.size)).mono g0.out.size));clear g9 c3;obtain⟨y1,g3⟩:∃ y,y=bs.getD j false:=⟨_,rfl⟩;obtain⟨y2,g2⟩:∃ y,y=F (Zcc (Zcq j n)):=⟨_,rfl⟩;rw[<- g3] at c4;rw[<- g2];have ge:Hid (y2=y1->∀ q,q<j+1->bs.getD q false=F (Zcc (Zcq q n))):=Hd fun g7 q hq=>by
     rcases Nat.lt_or_ge q j with h|h
     . exact HQ.out q h
     .
      obtain rfl:q=j:=by omega
      rw[<- g3,<- g2,g7]
    have g5:Hid (y2≠y1->bs≠tabB n F):=Hd fun g7 e=>g7 (by rw[g3,g2,e,Zfa (by rw[<- HL.out];exact gh)])
    clear g3 g2;cases y1<;>cases y2
    .
     go_wp2_with fail;go_roundw
     case rel=>exact⟨j+1,by omega,by go_num,g6.out,Hd (ge.out (by simp))⟩
     case measure=>simp[intOf];omega
    . go_wp2_with fail;go_ret;exact⟨false,rfl,by simpa using g5.out (by simp),g6.out⟩
    . go_wp2_with fail;go_ret;exact⟨false,rfl,by simpa using g5.out (by simp),g6.out⟩
    .
     go_wp2_with fail;go_roundw
     case rel=>exact⟨j+1,by omega,by go_num,g6.out,Hd (ge.out (by simp))⟩
     case measure=>simp[intOf];omega
   .
    have he:j=L:=by omega
    have g0:=Hd g1;have HE:Hid (bs=tabB n F):=Hd (Znx (by rw[hlen,HL.out]) (fun i hi=>HQ.out i (by rw[he,HL.out];exact hi)));clear g1;go_wp2_with fail;go_ret;exact⟨true,rfl,by simpa using HE.out,g0.out⟩
 .
  have gg:((bs.length:Int) != (L:Int))=true:=by simp;omega
  have gd:=Hd g4;have g5:Hid (bs≠tabB n F):=Hd fun e=>hlen (by rw[e,Za6,HL.out])
  clear g4 HC HV hlen;go_wp2_with fail;go_ret;exact⟨false,rfl,by simpa using g5.out,gd.out⟩
end
structure Zrb (P:Nat->Prop)(w:World)(a:Option Addr)(us:List (List Bool)):Prop where
 len:us.length<=1000000
 cells:∀ k,k<us.length->∃ b off v,a=some ⟨b,off,none⟩/\w.cell? ⟨b,off+k,none⟩=some v/\Zbw w v (us.getD k [])/\∀ g,v.ownBlock=some g->P g
theorem Zrb.below {P:Nat->Prop}{w w':World}{a:Option Addr}{us:List (List Bool)}(h:Zrb P w a us)(hb:Below w.heap.size w w'):Zrb P w' a us :=
 ⟨h.len,fun k hk=>by
  obtain⟨b,off,v,rfl,hc,hv,hp⟩:=h.cells k hk;exact⟨b,off,v,rfl,(hb.cell (p:=⟨b,off+k,none⟩) (Zaa hc)).trans hc,hv.below hb,hp⟩⟩
structure LawR (P:Nat->Prop)(n:Nat)(fs:List (Int×BF))(w:World)(vl vx:Value)(hs:List (Int×BF)):Prop where
 sub:∀ p∈hs,p∈fs
 small:hs.length<=1000
 l:∃ a c,vl=.slice a hs.length c/\Zay w a (hs.map Prod.fst)
 x:∃ a c,vx=.slice a hs.length c/\Zrb P w a (hs.map fun p=>tabB n p.2)
section
variable {K:Law}{n:Nat}{Od:List Nat->Prop}{room:Nat}{w0 w:World}{mb:Nat}{fs:List (Int×BF)}{nx:Int}{o:Own}{m:ManD}{V:Nat->BF}
theorem Zzy (h:SatE K n Od room w0 mb fs nx w o m V)(hn:n<=16){vl vx:Value}{hs:List (Int×BF)}{P:Nat->Prop}(hr:LawR P n fs w vl vx hs) :
 Calls prog 28 #[.pointer (some ⟨mb,0,none⟩),vl,vx] w fun x w'=>x=.returned (.bool true)/\Below w.heap.size w w':=by
 obtain⟨al,cl,rfl,hl⟩:=hr.l;obtain⟨ax,cx,rfl,hx⟩:=hr.x;have HL:=Hd hl;have HX:=Hd hx;have ga:=hr.small;have g8:Hid (∀ W,Below w.heap.size w W->∀ j v,∀ hj:j<hs.length,Zbw W v (tabB n hs[j].2)->Calls prog 79 #[.pointer (some ⟨mb,0,none⟩),.int .i64 hs[j].1,v] W fun x w'=>x=.returned (.bool true)/\Below W.heap.size W w'):=by
  refine Hd fun W hb j v hj hv=>(Zzh (h.below hb) hn (hr.sub _ (List.getElem_mem hj)) hv).mono ?_
  rintro x w' ⟨b,rfl,g6,g5⟩;rw[g6.2 rfl];exact⟨rfl,g5⟩
 clear h hr hl hx
 go_enter func28,ntmps28
 go_wp2_with fail
 go_loopw [7,10] (fun s7 s10 wr=>∃ j:Nat,j<=hs.length/\s10=.int .i64 j/\Below w.heap.size w wr) (fun _ s10 _=>hs.length-(intOf s10).toNat)
 case atStart=>exact⟨0,Nat.zero_le _,rfl,Below.refl _ _⟩
 case round =>
  obtain⟨j,hj,rfl,g1⟩:=hrel
  by_cases g2:j<hs.length
  .
   obtain⟨b1,of1,rfl,c1⟩:=(HL.out.below g1).cells j (by simpa using g2);obtain⟨b2,of2,v2,rfl,c2,g3,_⟩:=(HX.out.below g1).cells j (by simpa using g2);have e1:at0 (hs.map Prod.fst) j=hs[j].1:=by rw[Zby (by simpa using g2)];simp
   have e2:(hs.map fun p=>tabB n p.2).getD j []=tabB n hs[j].2:=by simp[List.getD,g2]
   rw[e1] at c1;rw[e2] at g3;have g7:=Hd g3;have g0:=Hd g1;obtain⟨k1,g4⟩:∃ k1,k1=hs[j].1:=⟨_,rfl⟩;have HI:Hid (∀ W,Below w.heap.size w W->∀ v,Zbw W v (tabB n hs[j].2)->Calls prog 79 #[.pointer (some ⟨mb,0,none⟩),.int .i64 k1,v] W fun x w'=>x=.returned (.bool true)/\Below W.heap.size W w'):=by
    rw[g4];exact Hd fun W hb v hv=>g8.out W hb j v g2 hv
   rw[<- g4] at c1;clear g3 g1 e1 e2 g4;have gb:(j:Int)<(hs.length:Int):=by omega
   go_upto_region 4 with fail;refine Zap (fun W:World=>W.cell? ⟨b1,of1+j,none⟩=some (.int .i64 k1)/\W.cell? ⟨b2,of2+j,none⟩=some v2/\Hid (Below w.heap.size w W)) false 11 [(0,false),(1,false),(2,false),(3,false),(4,false),(5,false),(6,false),(7,false),(8,false),(9,true),(10,false)] (by kernel_rfl) (by kernel_rfl) ⟨c1,c2,Hd (g0.out.trans ((Zaf wr 1).mono g0.out.size))⟩ ?_;simp only[planned,Zc8]
   iterate 9
    refine Zaq rfl ?_;apply Exists.intro;refine⟨fun w' hw=>?_,?_⟩
    . obtain⟨h1,h2,_⟩:=hw;go_simp;rfl
    simp only[Zah]
   refine Zxu (v:=.bool true) rfl (by go_simp) ((HI.out wr.drew (g0.out.trans ((Zaf wr 1).mono g0.out.size)) v2 (g7.out.below (Zaf wr 1))).mono ?_) ?_
   . rintro x w' ⟨rfl,hb⟩;exact⟨rfl,(hb.cell (p:=⟨b1,of1+j,none⟩) (Zaa (w:=wr.drew) c1)).trans c1,(hb.cell (p:=⟨b2,of2+j,none⟩) (Zaa (w:=wr.drew) c2)).trans c2,Hd (g0.out.trans (((Zaf wr 1).trans (hb.mono (Zaf wr 1).size)).mono g0.out.size))⟩
   rintro w' ⟨_,_,g9⟩;simp only[Zah]
   iterate 1
    refine Zaq rfl ?_;apply Exists.intro;refine⟨fun w' hw=>?_,?_⟩
    . obtain⟨h1,h2,_⟩:=hw;go_simp;rfl
    simp only[Zah]
   refine Zeg ?_;clear g0 c1 c2;go_wp2_with fail;go_roundw
   case rel=>exact⟨j+1,by omega,by go_num,g9.out⟩
   case measure=>simp[intOf];omega
  . have g0:=Hd g1;clear g1;go_wp2_with fail;go_ret;exact⟨rfl,g0.out⟩
end
theorem Zf1 (n:Nat)(b:Bool):List.replicate (2^n) b=tabB n fun _=>b:=Znx (by simp) fun i hi=>by simp[List.getD,hi]
theorem Yaz {n:Nat}{fs:List (Int×BF)}{w:World}(hn:n<=16)(h0:(0,fun _=>false)∈fs){vl vx:Value}{hs:List (Int×BF)}{P:Nat->Prop}(hr:LawR P n fs w vl vx hs)(k:Int) :
 Calls prog 32 #[.int .i64 n,vl,vx,.int .i64 k] w fun x w'=>∃ a F v,x=.returned (.tuple #[.int .i64 a,v])/\(a,F)∈fs/\Zbw w' v (tabB n F)/\(∀ g,v.ownBlock=some g->P g\/w.heap.size<=g/\∃ cur,w'.heap[g]?=some (.cells cur 4 (0,0)))/\Below w.heap.size w w':=by
 obtain⟨al,cl,rfl,hl⟩:=hr.l;obtain⟨ax,cx,rfl,hx⟩:=hr.x;have g5:=hr.small;have g4:=Hd hr.sub;obtain⟨L,hL⟩:∃ L,L=hs.length:=⟨_,rfl⟩;have g8:=Hd hL;rw[<- hL] at g5 ⊢;clear hr
 by_cases hz:L=0
 .
  subst hz;have HC:=Hd (Ze8 false n hn w);have hp:2^n<=65536:=Nat.pow_le_pow_right (by omega) hn;have H0:=Hd h0;clear hL hl hx h0
  go_enter func32,ntmps32
  go_wp2_with fail;refine HC.out.mono ?_;rintro x w1 ⟨g,rfl,g0,hb⟩;have HF:Hid (∃ a F v,Ending.returned (.tuple #[.int .i64 0,.slice (some ⟨g,0,none⟩) (2^n) (2^n)])=.returned (.tuple #[.int .i64 a,v])/\(a,F)∈fs/\Zbw w1 v (tabB n F)/\(∀ g,v.ownBlock=some g->P g\/w.heap.size<=g/\∃ cur,w1.heap[g]?=some (.cells cur 4 (0,0)))/\Below w.heap.size w w1) :=
   Hd ⟨0,fun _=>false,_,rfl,H0.out,by rw[<- Zf1];exact(show OwnB w1 w.heap.size (.slice (some ⟨g,0,none⟩) (2^n) (2^n)) (List.replicate (2^n) false) from g0).boolsIs (by rw[List.length_replicate];omega),fun q hq=>.inr ⟨by cases hq;exact(g0.lt g rfl).1,g0.typed q hq⟩,hb⟩
  clear g0 hb;go_wp2_with fail
  go_ret2
  exact HF.out
 .
  have g6:0<L:=by omega
  have e1:Int.tmod k L<L:=Int.tmod_lt_of_pos k (by omega);have e2 : -(L:Int)<Int.tmod k L:=by
   have:=Int.tmod_lt_of_pos (-k) (show (0:Int)<L by omega);rw[Int.neg_tmod] at this;omega
  obtain⟨i,hi,hI⟩:∃ i,i<L/\Int.tmod (Int.tmod k L+L) L=((i:Nat):Int):=by
   refine⟨(Int.tmod (Int.tmod k L+L) L).toNat,?_,?_⟩
   . have:=Int.tmod_lt_of_pos (Int.tmod k L+L) (show (0:Int)<L by omega);have:=Int.tmod_nonneg (L:Int) (show 0<=Int.tmod k L+L by omega);omega
   . have:=Int.tmod_nonneg (L:Int) (show 0<=Int.tmod k L+L by omega);omega
  obtain⟨b1,of1,rfl,c1⟩:=hl.cells i (by simp;omega);obtain⟨b2,of2,v2,rfl,c2,g2,hp2⟩:=hx.cells i (by simp;omega);have g1:i<hs.length:=by omega
  have q1:at0 (hs.map Prod.fst) i=hs[i].1:=by rw[Zby (by simpa using g1)];simp
  have q2:(hs.map fun p=>tabB n p.2).getD i []=tabB n hs[i].2:=by simp[List.getD,g1]
  rw[q1] at c1;rw[q2] at g2;have HF:Hid (∀ w',Below w.heap.size w w'->∃ a F v,Ending.returned (.tuple #[.int .i64 hs[i].1,v2])=.returned (.tuple #[.int .i64 a,v])/\(a,F)∈fs/\Zbw w' v (tabB n F)/\(∀ g,v.ownBlock=some g->P g\/w.heap.size<=g/\∃ cur,w'.heap[g]?=some (.cells cur 4 (0,0)))/\Below w.heap.size w w') :=
   Hd fun w' hb=>⟨hs[i].1,hs[i].2,v2,rfl,g4.out _ (List.getElem_mem g1),g2.below hb,fun g hg=>.inl (hp2 g hg),hb⟩
  obtain⟨k1,g3⟩:∃ k1,k1=hs[i].1:=⟨_,rfl⟩;rw[<- g3] at c1 HF;have g7:((L:Int) == 0)=false:=by simp;omega
  clear hL hl hx g2 hp2 q1 q2 g3 hz g1 h0
  go_enter func32,ntmps32
  go_upto_region 4 with fail;refine Zap (fun W:World=>W.cell? ⟨b1,of1+i,none⟩=some (.int .i64 k1)/\W.cell? ⟨b2,of2+i,none⟩=some v2) false 10 [(0,false),(1,false),(2,false),(3,false),(4,false),(5,false),(6,false),(7,false),(8,false),(9,false)] (by kernel_rfl) (by kernel_rfl) ⟨c1,c2⟩ ?_;simp only[planned,Zc8]
  iterate 10
   refine Zaq rfl ?_;apply Exists.intro;refine⟨fun w' hw=>?_,?_⟩
   . obtain⟨h1,h2⟩:=hw;go_simp;rfl
   simp only[Zah]
  refine Zeg ?_;go_wp2_with fail
  go_ret2
  exact HF.out _ (Zaf w 1)
open Go.RowKit
structure LawL (W:World)(o:Own)(base:Nat)(vl:Value)(ks:List Int):Prop where
 own:OwnC 3 W base vl (Za1 ks)
 no:∀ k,vl.ownBlock=some k->o k=none
structure LawB (W:World)(o:Own)(base:Nat)(v:Value)(bs:List Bool):Prop where
 is:Zbw W v bs
 no:∀ k,v.ownBlock=some k->base<=k/\k<W.heap.size/\o k=none/\∃ cur,W.heap[k]?=some (.cells cur 4 (0,0))
structure LawX (W:World)(o:Own)(base:Nat)(vx:Value)(us:List (List Bool)):Prop where
 ex:∃ rs:List Value,rs.length=us.length/\OwnC 55 W base vx rs/\∀ i v,rs[i]?=some v->LawB W o base v (us.getD i [])
 no:∀ k,vx.ownBlock=some k->o k=none
section
variable {W W':World}{o o':Own}{base:Nat}{vl vx v:Value}{ks:List Int}{us:List (List Bool)}{bs:List Bool}
theorem LawL.chg (h:LawL W o base vl ks)(hc:ChgX NoB o o' W W'):LawL W' o' base vl ks :=
 ⟨h.own.same fun k hk=>hc.block k (h.own.lt k hk).2 (h.no k hk) (fun e=>e),fun k hk=>hc.none' (h.own.lt k hk).2 (h.no k hk)⟩
theorem LawB.chg (h:LawB W o base v bs)(hc:ChgX NoB o o' W W'):LawB W' o' base v bs :=
 ⟨h.is.same fun k hk=>hc.block k (h.no k hk).2.1 (h.no k hk).2.2.1 (fun e=>e),fun k hk=>by
  obtain⟨h1,h2,h3,cur,h4⟩:=h.no k hk;exact⟨h1,Nat.lt_of_lt_of_le h2 hc.size,hc.none' h2 h3,cur,(hc.block k h2 h3 (fun e=>e)).trans h4⟩⟩
theorem LawX.chg (h:LawX W o base vx us)(hc:ChgX NoB o o' W W'):LawX W' o' base vx us:=by
 obtain⟨rs,h1,h2,h3⟩:=h.ex;exact⟨⟨rs,h1,h2.same fun k hk=>hc.block k (h2.lt k hk).2 (h.no k hk) (fun e=>e),fun i v hv=>(h3 i v hv).chg hc⟩,fun k hk=>hc.none' (h2.lt k hk).2 (h.no k hk)⟩
theorem Zb3 (hb:Below W.heap.size W W')(o:Own):ChgX NoB o o W W':=ChgX.of_below hb o NoB
theorem LawL.typ {C:Nat->Prop}(h:LawL W o base vl ks)(hw:Wr C W W'){T:TypeId}(hT:T≠3)(hC:∀ k,C k->∃ cur,W.heap[k]?=some (.cells cur T (0,0))):LawL W' o base vl ks :=
 ⟨h.own.same fun k hk=>hw.keep k (h.own.lt k hk).2 fun e=>by
  obtain⟨c1,h1⟩:=hC k e;obtain⟨c2,h2⟩:=h.own.typed k hk;rw[h1] at h2;cases h2;exact hT rfl,h.no⟩
theorem LawB.typ {C:Nat->Prop}(h:LawB W o base v bs)(hw:Wr C W W'){T:TypeId}(hT:T≠4)(hC:∀ k,C k->∃ cur,W.heap[k]?=some (.cells cur T (0,0))):LawB W' o base v bs:=by
 have hk:∀ k,v.ownBlock=some k->W'.heap[k]?=W.heap[k]?:=fun k hk=>by
  obtain⟨h1,h2,h3,cur,h4⟩:=h.no k hk;exact hw.keep k h2 fun e=>by
   obtain⟨c1,q1⟩:=hC k e;rw[q1] at h4;cases h4;exact hT rfl
 exact⟨h.is.same hk,fun k g0=>by
  obtain⟨h1,h2,h3,cur,h4⟩:=h.no k g0;exact⟨h1,Nat.lt_of_lt_of_le h2 hw.size,h3,cur,(hk k g0).trans h4⟩⟩
theorem LawX.typ {C:Nat->Prop}(h:LawX W o base vx us)(hw:Wr C W W'){T:TypeId}(hT:T≠4)(hT2:T≠55)(hC:∀ k,C k->∃ cur,W.heap[k]?=some (.cells cur T (0,0))):LawX W' o base vx us:=by
 obtain⟨rs,h1,h2,h3⟩:=h.ex
 exact⟨⟨rs,h1,h2.same fun k hk=>hw.keep k (h2.lt k hk).2 fun e=>by
  obtain⟨c1,q1⟩:=hC k e;obtain⟨c2,q2⟩:=h2.typed k hk;rw[q1] at q2;cases q2;exact hT2 rfl,fun i v hv=>(h3 i v hv).typ hw hT hC⟩,h.no⟩
theorem Zmj {v':Value}(h1:W'.os=W.os)(h2:W'.tape=W.tape)(h3:W'.output=W.output)(h4:W.heap.size<=W'.heap.size)(hk:Zcp v v' W W'):Wr (fun k=>v.ownBlock=some k) W W' :=
 ⟨h1,h2,h3,h4,fun k hlt hn=>hk.keep k hlt (fun e=>hn e.symm)⟩
theorem LawL.app {v':Value}{k:Int}(h:LawL W o base vl ks)(hlt:Zaj o W)(hn:OwnC 3 W' base v' (Za1 ks++[.int .i64 k]))(hk:Zcp vl v' W W'):LawL W' o base v' (ks++[k]):=by
 refine⟨by rw[show Za1 (ks++[k])=Za1 ks++[.int .i64 k] by simp[Za1]];exact hn,fun q hq=>?_⟩;rcases hk.loc with e|⟨g,e,hg⟩
 . exact h.no q (by rw[<- e];exact hq)
 . rw[e] at hq;cases hq;exact hlt.none hg
theorem LawX.app {v':Value}(h:LawX W o base vx us)(hlt:Zaj o W){rs:List Value}(hrs:rs.length=us.length)(hall:∀ i v,rs[i]?=some v->LawB W o base v (us.getD i []))(hw:Wr (fun k=>vx.ownBlock=some k) W W')(hT:∀ k,vx.ownBlock=some k->∃ cur,W.heap[k]?=some (.cells cur 55 (0,0)))
 (hb:LawB W o base v bs) (hn:OwnC 55 W' base v' (rs++[v])) (hk:Zcp vx v' W W'):LawX W' o base v' (us++[bs]):=by
 refine⟨⟨rs++[v],by simp[hrs],hn,fun i u hu=>?_⟩,fun q hq=>?_⟩
 .
  rcases Nat.lt_or_ge i rs.length with hi|hi
  .
   rw[List.getElem?_append_left hi] at hu;have e:(us++[bs]).getD i []=us.getD i []:=by simp[List.getD,List.getElem?_append_left (show i<us.length by omega)]
   rw[e];exact(hall i u hu).typ hw (by decide) hT
  .
   rw[List.getElem?_append_right hi] at hu;have g0:i=rs.length:=by
    have:=(List.getElem?_eq_some_iff.1 hu).1;simp at this;omega
   subst g0;simp at hu;subst hu;have e:(us++[bs]).getD rs.length []=bs:=by rw[hrs];simp[List.getD]
   rw[e];exact hb.typ hw (by decide) hT
 .
  rcases hk.loc with e|⟨g,e,hg⟩
  . exact h.no q (by rw[<- e];exact hq)
  . rw[e] at hq;cases hq;exact hlt.none hg
theorem Zxr {n:Nat}(h:OwnB W' W.heap.size v bs)(hl:bs.length<=1000000)(hlt:Zaj o W)(hb:base<=W.heap.size):LawB W' o base v bs :=
 ⟨OwnC.boolsIs h hl,fun k hk=>by
  have h1:=h.lt k hk;exact⟨by omega,h1.2,hlt.none h1.1,h.typed k hk⟩⟩
theorem Zvg {n:Nat}{fs hs:List (Int×BF)}(hl:LawL W o base vl (hs.map Prod.fst))(hx:LawX W o base vx (hs.map fun p=>tabB n p.2))(hsub:∀ p∈hs,p∈fs)(hsm:hs.length<=1000) :
 LawR (fun g=>base<=g/\g<W.heap.size/\o g=none/\∃ cur,W.heap[g]?=some (.cells cur 4 (0,0))) n fs W vl vx hs:=by
 obtain⟨rs,h1,h2,h3⟩:=hx.ex;obtain⟨al,cl,e1,_⟩:=hl.own.slice;obtain⟨ax,cx,e2,_⟩:=h2.slice;have l1:(Za1 (hs.map Prod.fst)).length=hs.length:=by simp[Za1]
 have l2:rs.length=hs.length:=by rw[h1];simp
 rw[l1] at e1;rw[l2] at e2;refine⟨hsub,hsm,⟨al,cl,e1,⟨by simp;omega,fun k hk=>?_⟩⟩,⟨ax,cx,e2,⟨by simp;omega,fun k hk=>?_⟩⟩⟩
 .
  obtain⟨g,cap,e3,_⟩:=hl.own.shape (by rw[l1];simp at hk;omega);rw[e1] at e3;injection e3 with e3
  subst e3;have hc:=hl.own;rw[e1] at hc;refine⟨g,0,rfl,?_⟩;rw[Nat.zero_add,hc.cell k (by rw[l1];simpa using hk),Za1,List.getElem?_map,getElem?_at0 hk];rfl
 .
  obtain⟨g,cap,e3,_⟩:=h2.shape (by rw[l2];simp at hk;omega);rw[e2] at e3;injection e3 with e3
  subst e3;have hc:=h2;rw[e2] at hc;have g0:k<rs.length:=by rw[h1];exact hk
  have hb:=h3 k rs[k] (List.getElem?_eq_getElem g0);refine⟨g,0,rs[k],rfl,?_,hb.is,hb.no⟩;rw[Nat.zero_add,hc.cell k g0,List.getElem?_eq_getElem g0]
end
open Go.RowKit
def okI (z:Int):Prop:=-9223372036854775808<=z/\z<=9223372036854775807
inductive ExT where
 | nil
 | mk (op v:Int) (n:Nat) (kid:Nat->ExT)
def sumN:Nat->(Nat->Nat)->Nat
 | 0,_=>0
 | k+1,f=>sumN k f+f k
theorem Zws {f:Nat->Nat}{j:Nat}:∀ (k:Nat),j<k->f j<=sumN k f
 | 0,h=>by omega
 | k+1,h=>by
   unfold sumN
   by_cases e:j=k
   . subst e;omega
   . have:=Zws (f:=f) k (show j<k by omega);omega
def ExT.size:ExT->Nat
 | .nil=>1
 | .mk _ _ n kid=>1+sumN n fun i=>(kid i).size
theorem ExT.size_pos (e:ExT):1<=e.size:=by cases e<;>unfold ExT.size<;>omega
instance:Inhabited ExT:=⟨.nil⟩
theorem ExT.kid_size {op v:Int}{n:Nat}{kid:Nat->ExT}{i:Nat}(h:i<n):(kid i).size<(ExT.mk op v n kid).size:=by
 have h1:(kid i).size<=sumN n fun i=>(kid i).size:=Zws (f:=fun i=>(kid i).size) n h
 show (kid i).size<1+sumN n fun i=>(kid i).size
 omega
def Zbe (w:World):ExT->Value->Prop
 | .nil,_=>False
 | .mk op v n kid,x=>∃ a c,x=.agg #[.int .i64 op,.int .i64 v,.slice a n c]/\okI op/\okI v/\n<=9223372036854775807 /\
  ∀ k,k<n->∃ b off x0 x1 x2,a=some ⟨b,off,none⟩/\w.cell? ⟨b,off+k*3,none⟩=some x0/\w.cell? ⟨b,off+k*3+1,none⟩=some x1/\w.cell? ⟨b,off+k*3+2,none⟩=some x2/\Zbe w (kid k) (.agg #[x0,x1,x2])
theorem Zbe.below {w w':World}(hb:Below w.heap.size w w'):∀ (e:ExT) {x:Value},Zbe w e x->Zbe w' e x
 | .nil,_,h=>by unfold Zbe at h;exact h.elim
 | .mk op v n kid,x,h=>by
   unfold Zbe at h ⊢;obtain⟨a,c,h1,h2,h3,h4,h5⟩:=h;refine⟨a,c,h1,h2,h3,h4,fun k hk=>?_⟩;obtain⟨b,off,x0,x1,x2,rfl,c0,c1,c2,hx⟩:=h5 k hk;exact⟨b,off,x0,x1,x2,rfl,(hb.cell (p:=⟨b,off+k*3,none⟩) (Zaa c0)).trans c0,(hb.cell (p:=⟨b,off+k*3+1,none⟩) (Zaa c1)).trans c1,(hb.cell (p:=⟨b,off+k*3+2,none⟩) (Zaa c2)).trans c2,Zbe.below hb (kid k) hx⟩
theorem Zph:∀ (e:ExT) (x:Value) (q:Nat) (w:World),q<=1000->Zbe w e x ->
 Calls prog 68 #[x,.int .i64 q] w fun y w'=>(∃ r:Nat,y=.returned (.int .i64 r)/\1<=r/\r<=q+1/\(r<=q->r=e.size))/\Below w.heap.size w w'
 | .nil,x,q,w,hq,h=>by unfold Zbe at h;exact h.elim
 | .mk op v n kid,x,q,w,hq,h=>by
   unfold Zbe at h;obtain⟨a,c,rfl,h2,h3,h4,h5⟩:=h;have H5:=Hd h5;have HSZ:Hid ((ExT.mk op v n kid).size=1+sumN n fun i=>(kid i).size):=Hd rfl;have IH:Hid (∀ (i:Nat) (x:Value) (z:Int) (q:Nat) (W:World),z=(q:Int)->q<=1000->Zbe W (kid i) x->Calls prog 68 #[x,.int .i64 z] W fun y w'=>(∃ r:Nat,y=.returned (.int .i64 r)/\1<=r/\r<=q+1/\(r<=q->r=(kid i).size))/\Below W.heap.size W w') :=
    Hd fun i x z q W hz h1 h2=>by subst hz;exact Zph (kid i) x q W h1 h2
   obtain⟨E,hE⟩:∃ E,E=ExT.mk op v n kid:=⟨_,rfl⟩;rw[<- hE] at HSZ ⊢;obtain⟨w1,hw1⟩:∃ w1,w1=w.alloc (.cells #[.int .i64 op,.int .i64 v,.slice a n c] 81):=⟨_,rfl⟩;have HW1:Hid (_=w1):=Hd hw1.symm;have HB1:Hid (Below w.heap.size w w1):=by rw[hw1];exact Hd (Zad _ _)
   have g6:w1.heap[w.heap.size]?=some (.cells #[.int .i64 op,.int .i64 v,.slice a n c] 81 (0,0)):=by rw[hw1];exact heap_alloc_new _ _
   have hs1:w1.heap.size=w.heap.size+1:=by rw[hw1];simp
   have d2:w1.cell? ⟨w.heap.size,2,none⟩=some (.slice a n c):=by rw[cell_of_row _ _ 2 _ _ _ g6];rfl
   clear h5 hE hw1 g6 h2 h3
   go_enter func68,ntmps68
   go_upto_region 1 with fail;rw[HW1.out];go_wp2_with fail
   go_loopw [5,6] (fun s5 s6 wr=>∃ i r:Nat,i<=n/\1<=r/\i<r/\r<=q+1/\s5=.int .i64 r/\s6=.int .i64 i/\Below w1.heap.size w1 wr/\Hid (r<=q->r=1+sumN i fun i=>(kid i).size)) (fun _ s6 _=>n-(intOf s6).toNat)
   case atStart=>exact⟨0,1,by omega,by omega,by omega,by omega,rfl,rfl,Below.refl _ _,Hd fun _=>rfl⟩
   case round =>
    obtain⟨i,r,hi,g8,gf,g7,rfl,rfl,g5,HR⟩:=hrel;have d2':=(g5.cell (p:=⟨w.heap.size,2,none⟩) (Zaa d2)).trans d2;have g0:=Hd g5;clear g5
    by_cases gb:i<n
    .
     by_cases ge:r<=q
     .
      obtain⟨b,off,x0,x1,x2,rfl,c0,c1,c2,hx⟩:=H5.out i gb;have g4:=HB1.out.trans (g0.out.mono HB1.out.size);have e0:=(g4.cell (p:=⟨b,off+i*3,none⟩) (Zaa c0)).trans c0;have e1:=(g4.cell (p:=⟨b,off+i*3+1,none⟩) (Zaa c1)).trans c1;have e2:=(g4.cell (p:=⟨b,off+i*3+2,none⟩) (Zaa c2)).trans c2;have HX:=Hd (hx.below g4);clear c0 c1 c2 hx g4;have g9:(i:Int)<n:=by omega
      go_wp2_with fail;refine(IH.out i _ _ (q-r) _ (by omega) (by omega) HX.out).mono ?_;rintro y w3 ⟨⟨r2,rfl,g1,g2,g3⟩,ga⟩;have gd:=Hd (g0.out.trans (ga.mono g0.out.size));have gc:Hid (r+r2<=q->r+r2=1+sumN (i+1) fun i=>(kid i).size):=Hd fun hh=>by
       have e1:=HR.out (by omega);have e2:=g3 (by omega)
       show _=1+(sumN i (fun i=>(kid i).size)+(kid i).size)
       omega
      clear ga g3 e0 e1 e2;go_wp2_with fail;go_roundw
      case rel=>exact⟨i+1,r+r2,by omega,by omega,by omega,by omega,by go_num,by go_num,gd.out,gc⟩
      case measure=>simp[intOf];omega
     .
      have g9:(i:Int)<n:=by omega
      have HF:Hid ((∃ r':Nat,Ending.returned (.int .i64 (r:Nat))=.returned (.int .i64 r')/\1<=r'/\r'<=q+1/\(r'<=q->r'=E.size))/\Below w.heap.size w wr) :=
       Hd ⟨⟨r,rfl,g8,g7,fun hh=>by omega⟩,HB1.out.trans (g0.out.mono HB1.out.size)⟩
      go_wp2_with fail;go_ret;exact HF.out
    .
     have he:i=n:=by omega
     have HF:Hid ((∃ r':Nat,Ending.returned (.int .i64 (r:Nat))=.returned (.int .i64 r')/\1<=r'/\r'<=q+1/\(r'<=q->r'=E.size))/\Below w.heap.size w wr) :=
      Hd ⟨⟨r,rfl,g8,g7,fun hh=>by rw[HSZ.out,HR.out hh,he]⟩,HB1.out.trans (g0.out.mono HB1.out.size)⟩
     have g9:¬ (i:Int)<n:=by omega
     go_wp2_with fail;go_ret;exact HF.out
open Go.RowKit
theorem Zf5 {f:Nat->Nat}{i:Nat}:∀ {n:Nat},i<n->sumN i f+f i<=sumN n f
 | 0,h=>by omega
 | k+1,h=>by
   rcases Nat.lt_or_ge i k with h'|h'
   .
    have:=Zf5 (f:=f) h'
    show _<=sumN k f+f k
    omega
   .
    obtain rfl:i=k:=by omega
    exact Nat.le_refl _
def Zev (op:Int):Int×Int :=
 if op=1\/op=2\/op=3 then (0,0) else if op=4 then (1,1) else if op=5\/op=6\/op=7 then (0,64) else if op=8\/op=9 then (2,2) else if op=10 then (3,3) else (-1,-1)
def okT:ExT->Nat->Prop
 | .nil,_=>False
 | .mk op v n kid,deep=>deep<=64/\0<=(Zev op).1/\(op=3->0<=v/\v<64)/\(op≠3->v=0)/\(Zev op).1<=n/\(n:Int)<=(Zev op).2/\∀ i,i<n->okT (kid i) (deep+1)
def Zr9:ExT->Prop
 | .nil=>False
 | .mk op v n kid=>0<=(Zev op).1/\(op=3->0<=v/\v<64)/\(op≠3->v=0)/\(Zev op).1<=n/\(n:Int)<=(Zev op).2/\∀ i,i<n->Zr9 (kid i)
theorem okT.valid:∀ {e:ExT} {deep:Nat},okT e deep->Zr9 e
 | .nil,_,h=>h.elim
 | .mk op v n kid,deep,h=>by
   obtain⟨_,h1,h2,h3,h4,h5,h6⟩:=h;exact⟨h1,h2,h3,h4,h5,fun i hi=>(h6 i hi).valid⟩
theorem Zsy (op:Int)(w:World):Calls prog 180 #[.int .i64 op] w fun y w'=>y=.returned (.tuple #[.int .i64 (Zev op).1,.int .i64 (Zev op).2])/\w=w':=by
 obtain⟨p,hp⟩:∃ p,p=Zev op:=⟨_,rfl⟩;rw[<- hp];unfold Zev at hp;rcases(by omega:op=1\/op=2\/op=3\/op=4\/op=5\/op=6\/op=7\/op=8\/op=9\/op=10\/(op<1\/10<op)) with rfl|rfl|rfl|rfl|rfl|rfl|rfl|rfl|rfl|rfl|h
 all_goals
  first
  | (simp at hp
     subst hp
     go_enter func180,ntmps180
     go_wp2_with fail
     go_ret2
     exact⟨rfl,rfl⟩)
  | (have h1 : (op == 1) = false := by simp; omega
     have h2:(op == 2)=false:=by simp;omega
     have h3:(op == 3)=false:=by simp;omega
     have h4:(op == 4)=false:=by simp;omega
     have h5:(op == 5)=false:=by simp;omega
     have h6:(op == 6)=false:=by simp;omega
     have h7:(op == 7)=false:=by simp;omega
     have h8:(op == 8)=false:=by simp;omega
     have h9:(op == 9)=false:=by simp;omega
     have g0:(op == 10)=false:=by simp;omega
     rw[if_neg (by omega),if_neg (by omega),if_neg (by omega),if_neg (by omega),if_neg (by omega)] at hp;subst hp;clear h
     go_enter func180,ntmps180
     go_wp2_with fail
     go_ret2
     exact⟨rfl,rfl⟩)
def Zff (e:ExT)(deep parts:Nat)(w:World)(y:Ending)(w':World):Prop:=∃ err m:Int,y=.returned (.tuple #[.int .i64 err,.int .i64 m])/\okI m/\(err=0↔okT e deep)/\(err=0->m=(parts+e.size:Nat))/\Below w.heap.size w w'
theorem Zoc:∀ (e:ExT) (x:Value) (deep parts:Nat) (w:World),deep<=65->parts+e.size<=4096->Zbe w e x ->
 Calls prog 127 #[x,.int .i64 deep,.int .i64 parts] w (Zff e deep parts w)
 | .nil,x,deep,parts,w,hd,hp,h=>by unfold Zbe at h;exact h.elim
 | .mk op v n kid,x,deep,parts,w,hd,hp,h=>by
   unfold Zbe at h;obtain⟨a,c,rfl,h2,h3,h4,h5⟩:=h;have H5:=Hd h5;have HSZ:Hid ((ExT.mk op v n kid).size=1+sumN n fun i=>(kid i).size):=Hd rfl;have HKS:Hid (∀ i,i<n->(kid i).size<(ExT.mk op v n kid).size):=Hd fun i hi=>ExT.kid_size hi
   have HV:Hid (∀ l hh:Int,l=(Zev op).1->hh=(Zev op).2->(okT (ExT.mk op v n kid) deep↔deep<=64/\0<=l/\(op=3->0<=v/\v<64)/\(op≠3->v=0)/\l<=n/\(n:Int)<=hh/\∀ i,i<n->okT (kid i) (deep+1))):=by
    refine Hd ?_;rintro l hh rfl rfl;exact Iff.rfl
   have IH:Hid (∀ (i:Nat) (x:Value) (z1 z2:Int) (deep parts:Nat) (W:World),z1=(deep:Int)->z2=(parts:Int)->deep<=65->parts+(kid i).size<=4096->Zbe W (kid i) x->Calls prog 127 #[x,.int .i64 z1,.int .i64 z2] W (Zff (kid i) deep parts W)) :=
    Hd fun i x z1 z2 deep parts W e1 e2 h1 h2 h3=>by subst e1;subst e2;exact Zoc (kid i) x deep parts W h1 h2 h3
   have HK:=Hd (fun W=>Zsy op W);obtain⟨E,hE⟩:∃ E,E=ExT.mk op v n kid:=⟨_,rfl⟩;have gA:1<=E.size:=E.size_pos;rw[<- hE] at HSZ hp HV HKS ⊢;obtain⟨l,hl⟩:∃ l,l=(Zev op).1:=⟨_,rfl⟩;obtain⟨hi,gp⟩:∃ hi,hi=(Zev op).2:=⟨_,rfl⟩;rw[<- hl,<- gp] at HK;have g4:=Hd (HV.out l hi hl gp);obtain⟨w1,gk⟩:∃ w1,w1=w.alloc (.cells #[.int .i64 op,.int .i64 v,.slice a n c] 81):=⟨_,rfl⟩;have HW1:Hid (_=w1):=Hd gk.symm;have g8:Hid (Below w.heap.size w w1):=by rw[gk];exact Hd (Zad _ _)
   have gi:w1.heap[w.heap.size]?=some (.cells #[.int .i64 op,.int .i64 v,.slice a n c] 81 (0,0)):=by rw[gk];exact heap_alloc_new _ _
   have hs1:w1.heap.size=w.heap.size+1:=by rw[gk];simp
   have d0:w1.cell? ⟨w.heap.size,0,none⟩=some (.int .i64 op):=by rw[cell_of_row _ _ 0 _ _ _ gi];rfl
   have d1:w1.cell? ⟨w.heap.size,1,none⟩=some (.int .i64 v):=by rw[cell_of_row _ _ 1 _ _ _ gi];rfl
   have d2:w1.cell? ⟨w.heap.size,2,none⟩=some (.slice a n c):=by rw[cell_of_row _ _ 2 _ _ _ gi];rfl
   have g0:Hid (∀ (k m:Int) (W:World),k≠0->¬ okT E deep->okI m->Below w1.heap.size w1 W->Zff E deep parts w (.returned (.tuple #[.int .i64 k,.int .i64 m])) W) :=
    Hd fun k m W hk gu hm hb=>⟨k,m,rfl,hm,⟨fun e=>(hk e).elim,fun e=>(gu e).elim⟩,fun e=>(hk e).elim,g8.out.trans (hb.mono g8.out.size)⟩
   unfold okI at h2 h3;clear h5 hE gk gi HV hl gp
   go_enter func127,ntmps127
   go_upto_region 1 with fail;rw[HW1.out]
   by_cases gC:(deep:Int)>64
   .
    go_wp2_with fail
    go_ret2
    exact g0.out 17 _ _ (by decide) (fun h=>by have:=(g4.out.1 h).1;omega) (by unfold okI;omega) (Below.refl _ _)
   go_wp2_with fail;refine(HK.out _).mono ?_;rintro y w' ⟨rfl,rfl⟩
   by_cases gB:l<0
   .
    go_wp2_with fail
    go_ret2
    exact g0.out 11 _ _ (by decide) (fun h=>by have:=(g4.out.1 h).2.1;omega) (by unfold okI;omega) (Below.refl _ _)
   have gr:((op == 3)=true/\op=3)\/((op == 3)=false/\(op != 3)=true/\op≠3):=by
    by_cases e:op=3
    . exact .inl ⟨by simp[e],e⟩
    . exact .inr ⟨by simpa using e,by simpa using e,e⟩
   rcases gr with ⟨g1,g2⟩|⟨g1,g2,g3⟩
   .
    subst g2
    by_cases gb:v<0
    .
     go_wp2_with fail
     go_ret2
     exact g0.out 9 _ _ (by decide) (fun h=>by have:=(g4.out.1 h).2.2.1 (by trivial);omega) (by unfold okI;omega) (Below.refl _ _)
    by_cases gs:v>=64
    .
     go_wp2_with fail
     go_ret2
     exact g0.out 9 _ _ (by decide) (fun h=>by have:=(g4.out.1 h).2.2.1 (by trivial);omega) (by unfold okI;omega) (Below.refl _ _)
    have HG:Hid ((3:Int)=3->0<=v/\v<64):=Hd fun _=>⟨by omega,by omega⟩
    have gq:Hid ((3:Int)≠3->v=0):=Hd fun e=>(e rfl).elim
    go_upto_region 9 with fail
    by_cases gv:(n:Int)<l
    .
     go_wp2_with fail
     go_ret2
     exact g0.out 3 _ _ (by decide) (fun h=>by have:=(g4.out.1 h).2.2.2.2.1;omega) (by unfold okI;omega) (Below.refl _ _)
    by_cases gw:(n:Int)>hi
    .
     go_wp2_with fail
     go_ret2
     exact g0.out 3 _ _ (by decide) (fun h=>by have:=(g4.out.1 h).2.2.2.2.2.1;omega) (by unfold okI;omega) (Below.refl _ _)
    go_wp2_with fail
    go_loopw [2,10,11,12] (fun s2 s10 s11 s12 wr=>∃ i p:Nat,i<=n/\p<=4096/\s2=.int .i64 p/\s10=.int .i64 i/\Below w1.heap.size w1 wr/\Hid (p=parts+(1+sumN i fun i=>(kid i).size))/\Hid (∀ j,j<i->okT (kid j) (deep+1))) (fun _ s10 _ _ _=>n-(intOf s10).toNat)
    case atStart=>exact⟨0,parts+1,by omega,by omega,by go_num,rfl,Below.refl _ _,Hd rfl,Hd fun j hj=>by omega⟩
    case round =>
     obtain⟨i,p,gy,gt,rfl,rfl,g9,HP,gg⟩:=hrel;have d2':=(g9.cell (p:=⟨w.heap.size,2,none⟩) (Zaa d2)).trans d2;have g5:=Hd g9;clear g9
     by_cases gd:i<n
     .
      obtain⟨b,off,x0,x1,x2,rfl,c0,c1,c2,hx⟩:=H5.out i gd;have g7:=g8.out.trans (g5.out.mono g8.out.size);have e0:=(g7.cell (p:=⟨b,off+i*3,none⟩) (Zaa c0)).trans c0;have e1:=(g7.cell (p:=⟨b,off+i*3+1,none⟩) (Zaa c1)).trans c1;have e2:=(g7.cell (p:=⟨b,off+i*3+2,none⟩) (Zaa c2)).trans c2;have HX:=Hd (hx.below g7);have gc:p+(kid i).size<=4096:=by
       have s1:(kid i).size+sumN i (fun i=>(kid i).size)<=sumN n fun i=>(kid i).size:=by
        have:=Zf5 (f:=fun i=>(kid i).size) gd;omega
       have s2:=HP.out;have s3:=HSZ.out;omega
      have gh:Hid (p+(kid i).size=parts+(1+sumN (i+1) fun i=>(kid i).size)):=Hd (by
       have s2:=HP.out
       show _=parts+(1+(sumN i (fun i=>(kid i).size)+(kid i).size))
       omega)
      have go:(i:Int)<n:=by omega
      clear c0 c1 c2 hx g7;go_wp2_with fail;refine(IH.out i _ _ _ (deep+1) p _ (by go_num) rfl (by omega) gc HX.out).mono ?_;rintro y w3 ⟨err,m,rfl,hm,ge,gl,gm⟩;have gn:=Hd (g5.out.trans (gm.mono g5.out.size));have gf:=Hd gl;have ga:=Hd ge;clear gm gl ge e0 e1 e2;unfold okI at hm
      by_cases g6:err=0
      .
       subst g6;have q1:=ga.out.1 rfl;have q2:=gf.out rfl;obtain⟨p2,hp2⟩:∃ p2,p2=p+(kid i).size:=⟨_,rfl⟩;have gj:Hid (∀ j,j<i+1->okT (kid j) (deep+1)):=Hd fun j hj=>by
        rcases Nat.lt_or_ge j i with h|h
        . exact gg.out j h
        .
         obtain rfl:j=i:=by omega
         exact q1
       rw[<- hp2] at q2 gc gh;subst q2;clear hp2 q1 gf ga;go_wp2_with fail;go_roundw
       case rel=>exact⟨i+1,p2,by omega,by omega,rfl,by go_num,gn.out,gh,gj⟩
       case measure=>simp[intOf];omega
      .
       have gx:(err != 0)=true:=by simpa using g6
       have HF:=Hd (g0.out err m w3 g6 (fun h=>g6 (ga.out.2 ((g4.out.1 h).2.2.2.2.2.2 i gd))) hm gn.out);clear g6 gf ga;go_wp2_with fail
       go_ret2
       exact HF.out
     .
      have he:i=n:=by omega
      have go:¬ (i:Int)<n:=by omega
      have HF:Hid (Zff E deep parts w (.returned (.tuple #[.int .i64 0,.int .i64 (p:Nat)])) wr):=Hd ⟨0,p,rfl,by unfold okI;omega,⟨fun _=>g4.out.2 ⟨by omega,by omega,HG.out,gq.out,by omega,by omega,fun j hj=>gg.out j (by omega)⟩,fun _=>rfl⟩,fun _=>by rw[HP.out,HSZ.out,he],g8.out.trans (g5.out.mono g8.out.size)⟩;go_wp2_with fail
      go_ret2
      exact HF.out
   .
    by_cases gb:v=0
    .
     have gs:(v != 0)=false:=by simp[gb]
     have HG:Hid (op=3->0<=v/\v<64):=Hd fun e=>(g3 e).elim
     have gq:Hid (op≠3->v=0):=Hd fun _=>gb
     clear gb g3;go_upto_region 9 with fail
     by_cases gv:(n:Int)<l
     .
      go_wp2_with fail
      go_ret2
      exact g0.out 3 _ _ (by decide) (fun h=>by have:=(g4.out.1 h).2.2.2.2.1;omega) (by unfold okI;omega) (Below.refl _ _)
     by_cases gw:(n:Int)>hi
     .
      go_wp2_with fail
      go_ret2
      exact g0.out 3 _ _ (by decide) (fun h=>by have:=(g4.out.1 h).2.2.2.2.2.1;omega) (by unfold okI;omega) (Below.refl _ _)
     go_wp2_with fail
     go_loopw [2,10,11,12] (fun s2 s10 s11 s12 wr=>∃ i p:Nat,i<=n/\p<=4096/\s2=.int .i64 p/\s10=.int .i64 i/\Below w1.heap.size w1 wr/\Hid (p=parts+(1+sumN i fun i=>(kid i).size))/\Hid (∀ j,j<i->okT (kid j) (deep+1))) (fun _ s10 _ _ _=>n-(intOf s10).toNat)
     case atStart=>exact⟨0,parts+1,by omega,by omega,by go_num,rfl,Below.refl _ _,Hd rfl,Hd fun j hj=>by omega⟩
     case round =>
      obtain⟨i,p,gy,gt,rfl,rfl,g9,HP,gg⟩:=hrel;have d2':=(g9.cell (p:=⟨w.heap.size,2,none⟩) (Zaa d2)).trans d2;have g5:=Hd g9;clear g9
      by_cases gd:i<n
      .
       obtain⟨b,off,x0,x1,x2,rfl,c0,c1,c2,hx⟩:=H5.out i gd;have g7:=g8.out.trans (g5.out.mono g8.out.size);have e0:=(g7.cell (p:=⟨b,off+i*3,none⟩) (Zaa c0)).trans c0;have e1:=(g7.cell (p:=⟨b,off+i*3+1,none⟩) (Zaa c1)).trans c1;have e2:=(g7.cell (p:=⟨b,off+i*3+2,none⟩) (Zaa c2)).trans c2;have HX:=Hd (hx.below g7);have gc:p+(kid i).size<=4096:=by
        have s1:(kid i).size+sumN i (fun i=>(kid i).size)<=sumN n fun i=>(kid i).size:=by
         have:=Zf5 (f:=fun i=>(kid i).size) gd;omega
        have s2:=HP.out;have s3:=HSZ.out;omega
       have gh:Hid (p+(kid i).size=parts+(1+sumN (i+1) fun i=>(kid i).size)):=Hd (by
        have s2:=HP.out
        show _=parts+(1+(sumN i (fun i=>(kid i).size)+(kid i).size))
        omega)
       have go:(i:Int)<n:=by omega
       clear c0 c1 c2 hx g7;go_wp2_with fail;refine(IH.out i _ _ _ (deep+1) p _ (by go_num) rfl (by omega) gc HX.out).mono ?_;rintro y w3 ⟨err,m,rfl,hm,ge,gl,gm⟩;have gn:=Hd (g5.out.trans (gm.mono g5.out.size));have gf:=Hd gl;have ga:=Hd ge;clear gm gl ge e0 e1 e2;unfold okI at hm
       by_cases g6:err=0
       .
        subst g6;have q1:=ga.out.1 rfl;have q2:=gf.out rfl;obtain⟨p2,hp2⟩:∃ p2,p2=p+(kid i).size:=⟨_,rfl⟩;have gj:Hid (∀ j,j<i+1->okT (kid j) (deep+1)):=Hd fun j hj=>by
         rcases Nat.lt_or_ge j i with h|h
         . exact gg.out j h
         .
          obtain rfl:j=i:=by omega
          exact q1
        rw[<- hp2] at q2 gc gh;subst q2;clear hp2 q1 gf ga;go_wp2_with fail;go_roundw
        case rel=>exact⟨i+1,p2,by omega,by omega,rfl,by go_num,gn.out,gh,gj⟩
        case measure=>simp[intOf];omega
       .
        have gx:(err != 0)=true:=by simpa using g6
        have HF:=Hd (g0.out err m w3 g6 (fun h=>g6 (ga.out.2 ((g4.out.1 h).2.2.2.2.2.2 i gd))) hm gn.out);clear g6 gf ga;go_wp2_with fail
        go_ret2
        exact HF.out
      .
       have he:i=n:=by omega
       have go:¬ (i:Int)<n:=by omega
       have HF:Hid (Zff E deep parts w (.returned (.tuple #[.int .i64 0,.int .i64 (p:Nat)])) wr):=Hd ⟨0,p,rfl,by unfold okI;omega,⟨fun _=>g4.out.2 ⟨by omega,by omega,HG.out,gq.out,by omega,by omega,fun j hj=>gg.out j (by omega)⟩,fun _=>rfl⟩,fun _=>by rw[HP.out,HSZ.out,he],g8.out.trans (g5.out.mono g8.out.size)⟩;go_wp2_with fail
       go_ret2
       exact HF.out
    .
     have gs:(v != 0)=true:=by simpa using gb
     have gz:Hid (¬ okT E deep):=Hd fun h=>gb ((g4.out.1 h).2.2.2.1 g3)
     clear gb g3;go_wp2_with fail
     go_ret2
     exact g0.out 9 _ _ (by decide) gz.out (by unfold okI;omega) (Below.refl _ _)
open Go.RowKit
theorem Zhk (e:ExT)(x:Value)(w:World)(hs:e.size<=4096)(h:Zbe w e x) :
 Calls prog 69 #[x] w fun y w'=>∃ err:Int,y=.returned (.int .i64 err)/\(err=0↔okT e 1)/\Below w.heap.size w w':=by
 have HC:Hid (∀ W,Below w.heap.size w W->∀ u,u=x->Calls prog 127 #[u,.int .i64 1,.int .i64 0] W (Zff e 1 0 W)):=Hd fun W hb u hu=>by subst hu;exact Zoc e _ 1 0 W (by omega) (by omega) (h.below hb)
 obtain⟨x0,x1,x2,hx⟩:∃ x0 x1 x2,x=.agg #[x0,x1,x2]:=by
  cases e with
  | nil=>unfold Zbe at h;exact h.elim
  | mk op v n kid =>
    unfold Zbe at h;obtain⟨a,c,rfl,_⟩:=h;exact⟨_,_,_,rfl⟩
 subst hx;obtain⟨w1,g1⟩:∃ w1,w1=w.alloc (.cells #[x0,x1,x2] 81):=⟨_,rfl⟩;have HW1:Hid (_=w1):=Hd g1.symm;have g2:Hid (Below w.heap.size w w1):=by rw[g1];exact Hd (Zad _ _)
 have g0:w1.heap[w.heap.size]?=some (.cells #[x0,x1,x2] 81 (0,0)):=by rw[g1];exact heap_alloc_new _ _
 have d0:w1.cell? ⟨w.heap.size,0,none⟩=some x0:=by rw[cell_of_row _ _ 0 _ _ _ g0];rfl
 have d1:w1.cell? ⟨w.heap.size,1,none⟩=some x1:=by rw[cell_of_row _ _ 1 _ _ _ g0];rfl
 have d2:w1.cell? ⟨w.heap.size,2,none⟩=some x2:=by rw[cell_of_row _ _ 2 _ _ _ g0];rfl
 have g3:x0.cells=#[x0]/\x1.cells=#[x1]/\x2.cells=#[x2]:=by
  cases e with
  | nil=>unfold Zbe at h;exact h.elim
  | mk op v n kid =>
    unfold Zbe at h;obtain⟨a,c,h1,_⟩:=h;cases h1;exact⟨rfl,rfl,rfl⟩
 obtain⟨o0,o1,o2⟩:=g3;clear h g1 g0
 go_enter func69,ntmps69
 go_upto_region 1 with fail;rw[HW1.out];go_wp2_with fail;refine(HC.out _ g2.out _ rfl).mono ?_;rintro y w2 ⟨err,m,rfl,hm,hv,_,hb⟩;have HF:Hid (∃ err':Int,Ending.returned (.int .i64 err)=.returned (.int .i64 err')/\(err'=0↔okT e 1)/\Below w.heap.size w w2):=Hd ⟨err,rfl,hv,g2.out.trans (hb.mono g2.out.size)⟩;clear hv hb;go_wp2_with fail;go_ret;exact HF.out
def Zg9:Nat->(Nat->List Int)->List Int
 | 0,_=>[]
 | k+1,f=>Zg9 k f++f k
def Zc1:ExT->List Int
 | .nil=>[]
 | .mk op v n kid=>(if op=3 then [v] else [])++Zg9 n fun i=>Zc1 (kid i)
theorem Zh4 {f:Nat->List Int}{g:Nat->Nat}:∀ (n:Nat),(∀ i,i<n->(f i).length<=g i)->(Zg9 n f).length<=sumN n g
 | 0,_=>Nat.le_refl _
 | k+1,h=>by
   show (Zg9 k f++f k).length<=sumN k g+g k
   rw[List.length_append];have:=Zh4 (f:=f) (g:=g) k (fun i hi=>h i (by omega));have:=h k (by omega);omega
theorem Zfr:∀ e:ExT,(Zc1 e).length<=e.size
 | .nil=>by simp[Zc1]
 | .mk op v n kid=>by
   show ((if op=3 then [v] else [])++Zg9 n fun i=>Zc1 (kid i)).length<=1+sumN n fun i=>(kid i).size
   rw[List.length_append];have h1:=Zh4 (f:=fun i=>Zc1 (kid i)) (g:=fun i=>(kid i).size) n (fun i _=>Zfr (kid i));have h2:(if op=3 then [v] else []:List Int).length<=1:=by split<;>simp
   omega
theorem OwnI.lower {w:World}{base b:Nat}{v:Value}{zs:List Int}(h:OwnI w base v zs)(hb:b<=base):OwnI w b v zs:=by
 refine⟨h.1,?_⟩;rcases h.2 with hn|⟨g,cap,cur,rfl,g0,rest⟩
 . exact .inl hn
 . exact .inr ⟨g,cap,cur,rfl,by omega,rest⟩
theorem Zmi:∀ (e:ExT) (x:Value) (w:World),e.size<=4096->Zbe w e x ->
 Calls prog 128 #[x] w fun y w'=>∃ u,y=.returned u/\OwnI w' w.heap.size u (Zc1 e)/\Below w.heap.size w w'
 | .nil,x,w,hp,h=>by unfold Zbe at h;exact h.elim
 | .mk op v n kid,x,w,hp,h=>by
   unfold Zbe at h;obtain⟨a,c,rfl,h2,h3,h4,h5⟩:=h;have H5:=Hd h5;have HSZ:Hid ((ExT.mk op v n kid).size=1+sumN n fun i=>(kid i).size):=Hd rfl;have HKS:Hid (∀ i,i<n->(kid i).size<(ExT.mk op v n kid).size):=Hd fun i hi=>ExT.kid_size hi
   have HVT:Hid (Zc1 (ExT.mk op v n kid)=(if op=3 then [v] else [])++Zg9 n fun i=>Zc1 (kid i)):=Hd rfl;have IH:Hid (∀ (i:Nat) (x:Value) (W:World),(kid i).size<=4096->Zbe W (kid i) x->Calls prog 128 #[x] W fun y w'=>∃ u,y=.returned u/\OwnI w' W.heap.size u (Zc1 (kid i))/\Below W.heap.size W w') :=
    Hd fun i x W h1 h2=>Zmi (kid i) x W h1 h2
   obtain⟨E,hE⟩:∃ E,E=ExT.mk op v n kid:=⟨_,rfl⟩;rw[<- hE] at HSZ hp HVT HKS ⊢;obtain⟨w1,hw1⟩:∃ w1,w1=w.alloc (.cells #[.int .i64 op,.int .i64 v,.slice a n c] 81):=⟨_,rfl⟩;have HW1:Hid (_=w1):=Hd hw1.symm;have HB1:Hid (Below w.heap.size w w1):=by rw[hw1];exact Hd (Zad _ _)
   have g9:w1.heap[w.heap.size]?=some (.cells #[.int .i64 op,.int .i64 v,.slice a n c] 81 (0,0)):=by rw[hw1];exact heap_alloc_new _ _
   have hs1:w1.heap.size=w.heap.size+1:=by rw[hw1];simp
   have d0:w1.cell? ⟨w.heap.size,0,none⟩=some (.int .i64 op):=by rw[cell_of_row _ _ 0 _ _ _ g9];rfl
   have d1:w1.cell? ⟨w.heap.size,1,none⟩=some (.int .i64 v):=by rw[cell_of_row _ _ 1 _ _ _ g9];rfl
   have d2:w1.cell? ⟨w.heap.size,2,none⟩=some (.slice a n c):=by rw[cell_of_row _ _ 2 _ _ _ g9];rfl
   unfold okI at h2 h3;obtain⟨w2,gd⟩:∃ w2,w2=w1.alloc (.cells #[] 3):=⟨_,rfl⟩;have gq:Hid (_=w2):=Hd gd.symm;have HB2:Hid (Below w1.heap.size w1 w2):=by rw[gd];exact Hd (Zad _ _)
   have gi:Hid (OwnI w2 w1.heap.size (.slice (some ⟨w.heap.size+1,0,none⟩) 0 0) []):=by rw[gd,<- hs1];exact Hd (Zjw _ _ (Nat.le_refl _))
   clear h5 hE hw1 gd g9
   go_enter func128,ntmps128
   go_upto_region 1 with fail;rw[HW1.out];go_upto_region 2 with fail;obtain⟨Z,hZ⟩:∃ Z:List Int,Z=if op=3 then [v] else []:=⟨_,rfl⟩
   have HZ:=Hd hZ;have gl:Hid (Z.length<=1):=Hd (by rw[hZ];split<;>simp);rw[gq.out];have gk:w1.heap.size<=w2.heap.size:=HB2.out.size;have d0':=(HB2.out.cell (p:=⟨w.heap.size,0,none⟩) (Zaa d0)).trans d0;have d1':=(HB2.out.cell (p:=⟨w.heap.size,1,none⟩) (Zaa d1)).trans d1
   by_cases h3:op=3
   .
    rw[if_pos h3] at hZ;subst h3;clear h2;go_wp2_with (at_builtin;refine Zdj _ rfl _ _ rfl w1.heap.size w1 _ [] _ rfl rfl rfl rfl (by exact gi.out) (by simp) gk HB2.out ?_;intro v3 w3 gj g7 gn _)
    go_loopw [3,4] (fun s3 s4 wr=>∃ i:Nat,i<=n/\s4=.int .i64 i/\Below w1.heap.size w1 wr/\OwnI wr w1.heap.size s3 (Z++Zg9 i fun i=>Zc1 (kid i))/\w1.heap.size<=wr.heap.size) (fun _ s4 _=>n-(intOf s4).toNat)
    case atStart=>exact⟨0,Nat.zero_le _,rfl,g7,by rw[hZ];simpa [Zg9] using gj,gn⟩
    case round =>
     obtain⟨i,gp,rfl,g2,g5,gm⟩:=hrel;have d2':=(g2.cell (p:=⟨w.heap.size,2,none⟩) (Zaa d2)).trans d2;have g0:=Hd g2;have gb:=Hd g5;clear g2 g5
     by_cases g6:i<n
     .
      obtain⟨b,off,x0,x1,x2,rfl,c0,c1,c2,hx⟩:=H5.out i g6;have g1:=HB1.out.trans (g0.out.mono HB1.out.size);have e0:=(g1.cell (p:=⟨b,off+i*3,none⟩) (Zaa c0)).trans c0;have e1:=(g1.cell (p:=⟨b,off+i*3+1,none⟩) (Zaa c1)).trans c1;have e2:=(g1.cell (p:=⟨b,off+i*3+2,none⟩) (Zaa c2)).trans c2;have HX:=Hd (hx.below g1);have gg:(i:Int)<n:=by omega
      have go:=HKS.out i g6
      have gc:Hid ((Z++Zg9 i fun i=>Zc1 (kid i)).length+(Zc1 (kid i)).length<=4096):=Hd (by
       have s1:=Zf5 (f:=fun i=>(kid i).size) g6;have s2:=HSZ.out;have s3:=Zh4 (f:=fun i=>Zc1 (kid i)) (g:=fun i=>(kid i).size) i (fun i _=>Zfr (kid i));have s4:=Zfr (kid i);have s5:=gl.out;rw[List.length_append];omega)
      clear c0 c1 c2 hx g1;go_upto_region 7 with fail
      go_wp2_with (first
       | (go_at_call 128;refine(IH.out i _ _ (by omega) HX.out).mono ?_;rintro y w3 ⟨u,rfl,hu,g7⟩;obtain⟨au,cu,rfl,ga,ge⟩:=hu.sliceIs (by have:=gc.out;omega);have HU:=Hd ga;have g8:=Hd g7;clear hu ga g7)
       | (at_builtin;refine Zf6 rfl _ _ rfl w1.heap.size w1 _ (Z++Zg9 i fun i=>Zc1 (kid i)) (Zc1 (kid i)) au cu rfl rfl (by exact gb.out.below g8.out) (by exact HU.out) (by have:=gc.out;omega) (by have:=g8.out.size;omega) (by exact g0.out.trans (g8.out.mono g0.out.size)) ge ?_;intro v4 w4 g4 gh gf _))
      go_roundw
      case rel=>exact⟨i+1,by omega,by go_num,gh,by rw[List.append_assoc] at g4;exact g4,gf⟩
      case measure=>simp[intOf];omega
     .
      have he:i=n:=by omega
      have gg:¬ (i:Int)<n:=by omega
      have HF:Hid (∃ u,Ending.returned u3=.returned u/\OwnI wr w.heap.size u (Zc1 E)/\Below w.heap.size w wr):=Hd ⟨u3,rfl,by rw[HVT.out,<- HZ.out,<- he];exact gb.out.lower (by omega),HB1.out.trans (g0.out.mono HB1.out.size)⟩;go_wp2_with fail;go_ret;exact HF.out
   .
    rw[if_neg h3] at hZ;have g3:(op == 3)=false:=by simpa using h3
    clear h3;go_wp2_with fail
    go_loopw [3,4] (fun s3 s4 wr=>∃ i:Nat,i<=n/\s4=.int .i64 i/\Below w1.heap.size w1 wr/\OwnI wr w1.heap.size s3 (Z++Zg9 i fun i=>Zc1 (kid i))/\w1.heap.size<=wr.heap.size) (fun _ s4 _=>n-(intOf s4).toNat)
    case atStart=>exact⟨0,Nat.zero_le _,rfl,HB2.out,by rw[hZ];simpa [Zg9] using gi.out,gk⟩
    case round =>
     obtain⟨i,gp,rfl,g2,g5,gm⟩:=hrel;have d2':=(g2.cell (p:=⟨w.heap.size,2,none⟩) (Zaa d2)).trans d2;have g0:=Hd g2;have gb:=Hd g5;clear g2 g5
     by_cases g6:i<n
     .
      obtain⟨b,off,x0,x1,x2,rfl,c0,c1,c2,hx⟩:=H5.out i g6;have g1:=HB1.out.trans (g0.out.mono HB1.out.size);have e0:=(g1.cell (p:=⟨b,off+i*3,none⟩) (Zaa c0)).trans c0;have e1:=(g1.cell (p:=⟨b,off+i*3+1,none⟩) (Zaa c1)).trans c1;have e2:=(g1.cell (p:=⟨b,off+i*3+2,none⟩) (Zaa c2)).trans c2;have HX:=Hd (hx.below g1);have gg:(i:Int)<n:=by omega
      have go:=HKS.out i g6
      have gc:Hid ((Z++Zg9 i fun i=>Zc1 (kid i)).length+(Zc1 (kid i)).length<=4096):=Hd (by
       have s1:=Zf5 (f:=fun i=>(kid i).size) g6;have s2:=HSZ.out;have s3:=Zh4 (f:=fun i=>Zc1 (kid i)) (g:=fun i=>(kid i).size) i (fun i _=>Zfr (kid i));have s4:=Zfr (kid i);have s5:=gl.out;rw[List.length_append];omega)
      clear c0 c1 c2 hx g1;go_upto_region 7 with fail
      go_wp2_with (first
       | (go_at_call 128;refine(IH.out i _ _ (by omega) HX.out).mono ?_;rintro y w3 ⟨u,rfl,hu,g7⟩;obtain⟨au,cu,rfl,ga,ge⟩:=hu.sliceIs (by have:=gc.out;omega);have HU:=Hd ga;have g8:=Hd g7;clear hu ga g7)
       | (at_builtin;refine Zf6 rfl _ _ rfl w1.heap.size w1 _ (Z++Zg9 i fun i=>Zc1 (kid i)) (Zc1 (kid i)) au cu rfl rfl (by exact gb.out.below g8.out) (by exact HU.out) (by have:=gc.out;omega) (by have:=g8.out.size;omega) (by exact g0.out.trans (g8.out.mono g0.out.size)) ge ?_;intro v4 w4 g4 gh gf _))
      go_roundw
      case rel=>exact⟨i+1,by omega,by go_num,gh,by rw[List.append_assoc] at g4;exact g4,gf⟩
      case measure=>simp[intOf];omega
     .
      have he:i=n:=by omega
      have gg:¬ (i:Int)<n:=by omega
      have HF:Hid (∃ u,Ending.returned u3=.returned u/\OwnI wr w.heap.size u (Zc1 E)/\Below w.heap.size w wr):=Hd ⟨u3,rfl,by rw[HVT.out,<- HZ.out,<- he];exact gb.out.lower (by omega),HB1.out.trans (g0.out.mono HB1.out.size)⟩;go_wp2_with fail;go_ret;exact HF.out
open Go.RowKit
theorem Zu8 (a:Option Addr)(c:Nat)(zs:List Int)(v:Int)(w:World)(hl:zs.length<=1000000)(h:Zay w a zs) :
 Calls prog 76 #[.slice a zs.length c,.int .i64 v] w fun y w'=>y=.returned (.bool (decide (v∈zs)))/\w=w':=by
 have HI:=Hd h;clear h;have g4:Hid ((∀ j,j<zs.length->at0 zs j≠v)->decide (v∈zs)=false):=Hd fun hh=>decide_eq_false fun hm=>by
  obtain⟨j,hj,e⟩:=List.getElem_of_mem hm;exact hh j hj (by rw[Zby hj];exact e)
 have g2:Hid (∀ j,j<zs.length->at0 zs j=v->decide (v∈zs)=true):=Hd fun j hj e=>decide_eq_true (by rw[Zby hj] at e;rw[<- e];exact List.getElem_mem hj)
 go_enter func76,ntmps76
 go_wp2_with fail
 go_loopw [5] (fun s5 wr=>∃ i:Nat,i<=zs.length/\s5=.int .i64 i/\w=wr/\Hid (∀ j,j<i->at0 zs j≠v)) (fun s5 _=>zs.length-(intOf s5).toNat)
 case atStart=>exact⟨0,Nat.zero_le _,rfl,rfl,Hd fun j hj=>by omega⟩
 case round =>
  obtain⟨i,hi,rfl,rfl,HN⟩:=hrel
  by_cases g1:i<zs.length
  .
   obtain⟨b,off,rfl,hc⟩:=HI.out.cells i g1;have g3:(i:Int)<zs.length:=by omega
   obtain⟨z,hz⟩:∃ z,z=at0 zs i:=⟨_,rfl⟩;rw[<- hz] at hc
   by_cases he:z=v
   . have HY:=Hd (g2.out i g1 (by rw[<- hz,he]));subst he;clear hz;go_wp2_with fail;go_ret;exact⟨by rw[HY.out];rfl,rfl⟩
   .
    have g5:(z == v)=false:=by simpa using he
    have g0:Hid (∀ j,j<i+1->at0 zs j≠v):=Hd fun j hj=>by
     rcases Nat.lt_or_ge j i with h|h
     . exact HN.out j h
     .
      obtain rfl:j=i:=by omega
      rw[<- hz];exact he
    clear hz he;go_wp2_with fail;go_roundw
    case rel=>exact⟨i+1,by omega,by go_num,by simp,g0⟩
    case measure=>simp[intOf];omega
  .
   have g0:=Hd (g4.out fun j hj=>HN.out j (by omega));have g3:¬ (i:Int)<zs.length:=by omega
   go_wp2_with fail;go_ret;exact⟨by rw[g0.out];rfl,rfl⟩
structure PutS (zs:List Int)(v:Int)(i:Nat)(d:Bool)(os:List Int):Prop where
 mem:∀ x,x∈os↔x∈zs.take i\/(d=true/\x=v)
 len:os.length=i+if d then 1 else 0
 srt:os.Pairwise (· < ·)
 low:d=false->∀ x∈os,x<v
 up:d=true->∀ x∈os,∀ y∈zs.drop i,x<y
theorem Zr3 {os:List Int}{z:Int}(h:os.Pairwise (· < ·))(hz:∀ x∈os,x<z):(os++[z]).Pairwise (· < ·) :=
 List.pairwise_append.2 ⟨h,List.pairwise_singleton ..,fun x hx y hy=>by rw[List.mem_singleton.1 hy];exact hz x hx⟩
theorem Zr2 {zs:List Int}(hs:zs.Pairwise (· < ·)){i:Nat}(hi:i<zs.length):(∀ y∈zs.drop i,at0 zs i<=y)/\(∀ y∈zs.drop (i+1),at0 zs i<y)/\(∀ x∈zs.take i,x<at0 zs i):=by
 have e:zs.drop i=at0 zs i::zs.drop (i+1):=by rw[Zby hi];exact(List.drop_eq_getElem_cons hi)
 have hd:(zs.drop i).Pairwise (· < ·):=hs.sublist (List.drop_sublist ..);rw[e,List.pairwise_cons] at hd;have h2:=hs;rw[<- List.take_append_drop i zs,List.pairwise_append] at h2;refine⟨fun y hy=>?_,hd.1,fun x hx=>h2.2.2 x hx _ (by rw[e];exact List.mem_cons_self ..)⟩;rw[e] at hy;rcases List.mem_cons.1 hy with h|h
 . omega
 . have:=hd.1 y h;omega
theorem PutS.here {zs:List Int}{v:Int}{i:Nat}{os:List Int}(h:PutS zs v i false os)(hu:∀ y∈zs.drop i,v<y):PutS zs v i true (os++[v]):=by
 refine⟨fun x=>?_,by simp[h.len],Zr3 h.srt (h.low rfl),by simp,fun _ x hx y hy=>?_⟩
 . have:=h.mem x;simp only[Bool.false_eq_true,false_and,or_false] at this;simp[this]
 .
  rcases List.mem_append.1 hx with h1|h1
  . have:=h.low rfl x h1;have:=hu y hy;omega
  . rw[List.mem_singleton.1 h1];exact hu y hy
theorem PutS.next {zs:List Int}{v:Int}{i:Nat}{d:Bool}{os:List Int}(h:PutS zs v i d os)(hs:zs.Pairwise (· < ·))(hi:i<zs.length)(hd:d=false->at0 zs i<v):PutS zs v (i+1) d (os++[at0 zs i]):=by
 obtain⟨q1,q2,q3⟩:=Zr2 hs hi;have g0:∀ x∈os,x<at0 zs i:=fun x hx=>by
  cases d with
  | true=>exact h.up rfl x hx _ (by rw[List.drop_eq_getElem_cons hi,Zby hi];exact List.mem_cons_self ..)
  | false =>
    rcases(h.mem x).1 hx with h1|⟨h1,_⟩
    . exact q3 x h1
    . cases h1
 refine⟨fun x=>?_,by have:=h.len;simp[this];omega,Zr3 h.srt g0,fun e x hx=>?_,fun e x hx y hy=>?_⟩
 .
  rw[List.take_succ_eq_append_getElem hi,List.mem_append,List.mem_append,h.mem x,Zby hi];simp only[List.mem_singleton];constructor
  .
   rintro((h1|h1)|h1)
   . exact .inl (.inl h1)
   . exact .inr h1
   . exact .inl (.inr h1)
  .
   rintro((h1|h1)|h1)
   . exact .inl (.inl h1)
   . exact .inr h1
   . exact .inl (.inr h1)
 .
  rcases List.mem_append.1 hx with h1|h1
  . exact h.low e x h1
  . rw[List.mem_singleton.1 h1];exact hd e
 .
  have g1:=q2 y hy;rcases List.mem_append.1 hx with h1|h1
  . have:=g0 x h1;omega
  . rw[List.mem_singleton.1 h1];exact g1
theorem Zv7 (a:Option Addr)(c:Nat)(zs:List Int)(v:Int)(w:World)(hl:zs.length<=1000000)(h:Zay w a zs)(hsr:zs.Pairwise (· < ·))(hnm:v∉zs) :
 Calls prog 133 #[.slice a zs.length c,.int .i64 v] w fun y w'=>∃ u os,y=.returned u/\OwnI w' w.heap.size u os/\((∀ x,x∈os↔x∈zs\/x=v)/\os.Pairwise (· < ·))/\os.length=zs.length+1/\Below w.heap.size w w':=by
 have HI:=Hd h;have g9:=Hd hsr;have gh:Hid (∀ i,i<zs.length->at0 zs i≠v):=Hd fun i hi e=>hnm (by rw[<- e,Zby hi];exact List.getElem_mem hi)
 clear h hsr hnm;have ga:Hid (∀ os,PutS zs v zs.length true os->((∀ x,x∈os↔x∈zs\/x=v)/\os.Pairwise (· < ·))/\os.length=zs.length+1):=Hd fun os h=>⟨⟨fun x=>by have:=h.mem x;rw[List.take_length] at this;simpa using this,h.srt⟩,by simpa using h.len⟩
 go_enter func133,ntmps133
 go_wp2_with fail
 go_loopw [5,6,7] (fun s5 s6 s7 wr=>∃ (i:Nat) (d:Bool) (os:List Int),i<=zs.length/\s6=.bool d/\s7=.int .i64 i/\OwnI wr w.heap.size s5 os/\w.heap.size<=wr.heap.size/\Below w.heap.size w wr/\Hid (PutS zs v i d os)) (fun _ _ s7 _=>zs.length-(intOf s7).toNat)
 case atStart=>exact⟨0,false,[],Nat.zero_le _,rfl,rfl,Zjw w _ (Nat.le_refl _),by simp,Zad w _,Hd ⟨fun x=>by simp,by simp,List.Pairwise.nil,by simp,by simp⟩⟩
 case round =>
  obtain⟨i,d,os,hi,rfl,rfl,g7,g8,g5,HP⟩:=hrel;have gj:os.length<=i+1:=by rw[HP.out.len];split<;>omega
  by_cases g4:i<zs.length
  .
   obtain⟨b,off,rfl,hc⟩:=(HI.out.below g5).cells i g4;have g6:=Hd g7;have g3:=Hd g5;have gf:(i:Int)<zs.length:=by omega
   obtain⟨z,hz⟩:∃ z,z=at0 zs i:=⟨_,rfl⟩;rw[<- hz] at hc;have HZ:=Hd hz;clear g7 g5 hz;cases d with
   | true =>
     go_wp2_with (at_builtin;refine Zdj _ rfl _ _ rfl w.heap.size w _ os _ rfl rfl rfl rfl (by exact g6.out) (by omega) g8 g3.out ?_;intro v1 w1 g1 g0 g2 _);go_roundw
     case rel=>exact⟨i+1,true,_,by omega,rfl,by go_num,g1,g2,g0,Hd (by rw[HZ.out];exact HP.out.next g9.out g4 (by simp))⟩
     case measure=>simp[intOf];omega
   | false =>
     by_cases gk:z>v
     .
      have cne:∀ W:World,Below wr.heap.size wr W->W.cell? ⟨b,off+i,none⟩=some (.int .i64 z):=fun W hb=>(hb.cell (p:=⟨b,off+i,none⟩) (Zaa hc)).trans hc
      have ge:b<w.heap.size:=by
       obtain⟨b',o',e,c'⟩:=HI.out.cells i g4;cases e;exact Zaa c'
      go_upto_region 8 with (at_builtin;refine Zdj _ rfl _ _ rfl w.heap.size w _ os _ rfl rfl rfl rfl (by exact g6.out) (by omega) g8 g3.out ?_;intro v1 w1 g1 g0 g2 _)
      have gl:w1.cell? ⟨b,off+i,none⟩=some (.int .i64 z):=by
       obtain⟨b',o',e,c'⟩:=HI.out.cells i g4;cases e;rw[(g0.cell (p:=⟨b,off+i,none⟩) ge),HZ.out];exact c'
      have gg:=Hd g1;have gi:=Hd g0;clear g1 g0 hc cne;go_wp2_with (at_builtin;refine Zdj _ rfl _ _ rfl w.heap.size w _ (os++[v]) _ rfl rfl rfl rfl (by exact gg.out) (by simp;omega) g2 gi.out ?_;intro v2 w2 gb gc gd _);go_roundw
      case rel=>exact⟨i+1,true,_,by omega,rfl,by go_num,gb,gd,gc,Hd (by rw[HZ.out];exact(HP.out.here fun y hy=>by have:=(Zr2 g9.out g4).1 y hy;have:=HZ.out;omega).next g9.out g4 (by simp))⟩
      case measure=>simp[intOf];omega
     .
      go_wp2_with (at_builtin;refine Zdj _ rfl _ _ rfl w.heap.size w _ os _ rfl rfl rfl rfl (by exact g6.out) (by omega) g8 g3.out ?_;intro v1 w1 g1 g0 g2 _);go_roundw
      case rel=>exact⟨i+1,false,_,by omega,rfl,by go_num,g1,g2,g0,Hd (by rw[HZ.out];exact HP.out.next g9.out g4 fun _=>by have:=gh.out i g4;have:=HZ.out;omega)⟩
      case measure=>simp[intOf];omega
  .
   have he:i=zs.length:=by omega
   have gf:¬ (i:Int)<zs.length:=by omega
   have g6:=Hd g7;have g3:=Hd g5;have HE:=Hd he;clear g7 g5 he;cases d with
   | true =>
     have HF:=ga.out os (by rw[<- HE.out];exact HP.out);go_wp2_with fail;go_ret;exact⟨_,rfl,os,g6.out,HF.1,HF.2,g3.out⟩
   | false =>
     have HF:=Hd (ga.out (os++[v]) (by rw[<- HE.out];exact HP.out.here (by rw[HE.out];simp)));go_wp2_with (at_builtin;refine Zdj _ rfl _ _ rfl w.heap.size w _ os _ rfl rfl rfl rfl (by exact g6.out) (by omega) g8 g3.out ?_;intro v1 w1 g1 g0 g2 _);go_ret;exact⟨_,rfl,_,g1,HF.out.1,HF.out.2,g0⟩
theorem Zia {zs:List Int}{i:Nat}(hi:i<zs.length)(x:Int):x∈zs.take (i+1)↔x∈zs.take i\/x=at0 zs i:=by
 rw[List.take_succ_eq_append_getElem hi,List.mem_append,Zby hi,List.mem_singleton]
theorem Zx2 (a:Option Addr)(c:Nat)(zs:List Int)(w:World)(hl:zs.length<=900000)(h:Zay w a zs) :
 Calls prog 75 #[.slice a zs.length c] w fun y w'=>∃ u os,y=.returned u/\OwnI w' w.heap.size u os/\((∀ x,x∈os↔x∈zs)/\os.Pairwise (· < ·))/\os.length<=zs.length/\Below w.heap.size w w':=by
 have HI:=Hd h;clear h
 go_enter func75,ntmps75
 go_wp2_with fail
 go_loopw [3,4] (fun s3 s4 wr=>∃ (i:Nat) (os:List Int),i<=zs.length/\s4=.int .i64 i/\OwnI wr w.heap.size s3 os/\w.heap.size<=wr.heap.size/\Below w.heap.size w wr/\os.length<=i/\Hid ((∀ x,x∈os↔x∈zs.take i)/\os.Pairwise (· < ·))) (fun _ s4 _=>zs.length-(intOf s4).toNat)
 case atStart=>exact⟨0,[],Nat.zero_le _,rfl,Zjw w _ (Nat.le_refl _),by simp,Zad w _,by simp,Hd ⟨fun x=>by simp,List.Pairwise.nil⟩⟩
 case round =>
  obtain⟨i,os,hi,rfl,g0,g6,g1,gj,HP⟩:=hrel
  by_cases gc:i<zs.length
  .
   obtain⟨b,off,rfl,hc⟩:=(HI.out.below g1).cells i gc;have gf:(i:Int)<zs.length:=by omega
   obtain⟨z,hz⟩:∃ z,z=at0 zs i:=⟨_,rfl⟩;rw[<- hz] at hc;obtain⟨ao,co,rfl,g8,gi⟩:=g0.sliceIs (by omega);have g4:=Hd (Zu8 ao co os z wr (by omega) g8);have g3:Hid (z∉os->_):=Hd fun h=>Zv7 ao co os z wr (by omega) g8 HP.out.2 h
   have ga:=Hd g0;have g5:=Hd g1;have HT:=Hd (Zia gc);have HZ:=Hd hz;clear g0 g1 hz g8
   by_cases hm:z∈os
   .
    have hb:decide (z∈os)=true:=by simp[hm]
    rw[hb] at g4
    have gb:Hid ((∀ x,x∈os↔x∈zs.take (i+1))/\os.Pairwise (· < ·)):=Hd ⟨fun x=>by
     rw[HT.out x,<- HZ.out];constructor
     . intro h;exact .inl ((HP.out.1 x).1 h)
     .
      rintro(h|rfl)
      . exact(HP.out.1 x).2 h
      . exact hm,HP.out.2⟩
    clear hm hb g3;go_wp2_with fail;refine g4.out.mono ?_;rintro y w' ⟨rfl,rfl⟩;go_wp2_with fail;go_roundw
    case rel=>exact⟨i+1,os,by omega,by go_num,ga.out,g6,g5.out,by omega,gb⟩
    case measure=>simp[intOf];omega
   .
    have hb:decide (z∈os)=false:=by simp[hm]
    rw[hb] at g4;have g3:=Hd (g3.out hm);clear hm hb;go_wp2_with fail;refine g4.out.mono ?_;rintro y w' ⟨rfl,rfl⟩;go_wp2_with fail;refine g3.out.mono ?_;rintro y w2 ⟨u,os2,rfl,g7,g2,gh,g9⟩
    have gb:Hid ((∀ x,x∈os2↔x∈zs.take (i+1))/\os2.Pairwise (· < ·)):=Hd ⟨fun x=>by
     rw[g2.1 x,HT.out x,<- HZ.out,HP.out.1 x],g2.2⟩
    have gg:Hid (OwnI w2 w.heap.size u os2):=Hd (g7.lower g6);have HB2:=Hd (g5.out.trans (g9.mono g6));have ge:w.heap.size<=w2.heap.size:=Nat.le_trans g6 g9.size;clear g7 g2 g9;go_wp2_with fail;go_roundw
    case rel=>exact⟨i+1,os2,by omega,by go_num,gg.out,ge,HB2.out,by omega,gb⟩
    case measure=>simp[intOf];omega
  .
   have he:i=zs.length:=by omega
   have gf:¬ (i:Int)<zs.length:=by omega
   have ga:=Hd g0;have g5:=Hd g1;have HM:Hid ((∀ x,x∈os↔x∈zs)/\os.Pairwise (· < ·)):=Hd ⟨fun x=>by have:=HP.out.1 x;rw[he,List.take_length] at this;exact this,HP.out.2⟩;have gd:os.length<=zs.length:=by omega
   clear g0 g1 he;go_wp2_with fail;go_ret;exact⟨_,rfl,os,ga.out,HM.out,gd,g5.out⟩
theorem Zbe.agg {w:World}{e:ExT}{x:Value}(h:Zbe w e x):∃ x0 x1 x2,x=.agg #[x0,x1,x2]/\x0.cells=#[x0]/\x1.cells=#[x1]/\x2.cells=#[x2]:=by
 cases e with
 | nil=>unfold Zbe at h;exact h.elim
 | mk op v n kid =>
   unfold Zbe at h;obtain⟨a,c,rfl,_⟩:=h;exact⟨_,_,_,rfl,rfl,rfl,rfl⟩
theorem Zn1 (e:ExT)(x:Value)(w:World)(hs:e.size<=4096)(h:Zbe w e x) :
 Calls prog 70 #[x] w fun y w'=>∃ u os,y=.returned u/\SliceIs w' u os/\os.length<=4096/\(okT e 1->(∀ v,v∈os↔v∈Zc1 e)/\os.Pairwise (· < ·))/\Below w.heap.size w w':=by
 have HC:Hid (∀ W,Below w.heap.size w W->∀ u,u=x->Calls prog 69 #[u] W fun y w'=>∃ err:Int,y=.returned (.int .i64 err)/\(err=0↔okT e 1)/\Below W.heap.size W w'):=Hd fun W hb u hu=>by subst hu;exact Zhk e _ W hs (h.below hb)
 have HV:Hid (∀ W,Below w.heap.size w W->∀ u,u=x->Calls prog 128 #[u] W fun y w'=>∃ u,y=.returned u/\OwnI w' W.heap.size u (Zc1 e)/\Below W.heap.size W w'):=Hd fun W hb u hu=>by subst hu;exact Zmi e _ W hs (h.below hb)
 have gc:=Zfr e;obtain⟨x0,x1,x2,hx,o0,o1,o2⟩:=h.agg;subst hx;obtain⟨w1,g2⟩:∃ w1,w1=w.alloc (.cells #[x0,x1,x2] 81):=⟨_,rfl⟩;have HW1:Hid (_=w1):=Hd g2.symm;have g6:Hid (Below w.heap.size w w1):=by rw[g2];exact Hd (Zad _ _)
 have g0:w1.heap[w.heap.size]?=some (.cells #[x0,x1,x2] 81 (0,0)):=by rw[g2];exact heap_alloc_new _ _
 have d0:w1.cell? ⟨w.heap.size,0,none⟩=some x0:=by rw[cell_of_row _ _ 0 _ _ _ g0];rfl
 have d1:w1.cell? ⟨w.heap.size,1,none⟩=some x1:=by rw[cell_of_row _ _ 1 _ _ _ g0];rfl
 have d2:w1.cell? ⟨w.heap.size,2,none⟩=some x2:=by rw[cell_of_row _ _ 2 _ _ _ g0];rfl
 clear h g2 g0
 go_enter func70,ntmps70
 go_upto_region 1 with fail;rw[HW1.out];go_wp2_with fail;refine(HC.out _ g6.out _ rfl).mono ?_;rintro y w2 ⟨err,rfl,g5,g1⟩;have HB2:=Hd (g6.out.trans (g1.mono g6.out.size));have gb:=Hd g5;have e0:=(g1.cell (p:=⟨w.heap.size,0,none⟩) (Zaa d0)).trans d0;have e1:=(g1.cell (p:=⟨w.heap.size,1,none⟩) (Zaa d1)).trans d1;have e2:=(g1.cell (p:=⟨w.heap.size,2,none⟩) (Zaa d2)).trans d2;clear g1 g5 d0 d1 d2
 by_cases he:err=0
 . subst he;go_wp2_with fail;refine(HV.out _ HB2.out _ rfl).mono ?_;rintro y w3 ⟨u,rfl,hu,g9⟩;obtain⟨au,cu,rfl,g7,gd⟩:=hu.sliceIs (by omega);have HO:=Hd (Zx2 au cu (Zc1 e) w3 (by omega) g7);have ga:=Hd (HB2.out.trans (g9.mono HB2.out.size));clear hu g7 g9 e0 e1 e2;go_wp2_with fail;refine HO.out.mono ?_;rintro y w4 ⟨u4,os,rfl,g3,g4,hlen,g8⟩;have HF:Hid (∃ u os,Ending.returned u4=.returned u/\SliceIs w4 u os/\os.length<=4096/\(okT e 1->(∀ v,v∈os↔v∈Zc1 e)/\os.Pairwise (· < ·))/\Below w.heap.size w w4):=Hd ⟨u4,os,rfl,g3.sliceIs (by omega),by omega,fun _=>g4,ga.out.trans (g8.mono ga.out.size)⟩;clear g3 g4 hlen g8;go_wp2_with fail;go_ret;exact HF.out
 .
  have ge:(err != 0)=true:=by simpa using he
  have HF:Hid (∃ u os,Ending.returned (.slice none 0 0)=.returned u/\SliceIs w2 u os/\os.length<=4096/\(okT e 1->(∀ v,v∈os↔v∈Zc1 e)/\os.Pairwise (· < ·))/\Below w.heap.size w w2):=Hd ⟨_,[],rfl,Zkz w2,by simp,fun h=>(he (gb.out.2 h)).elim,HB2.out⟩;clear he e0 e1 e2;go_wp2_with fail;go_ret;exact HF.out
theorem Zn0 (e:ExT)(x:Value)(w:World)(hs:e.size<=4096)(h:Zbe w e x) :
 Calls prog 70 #[x] w fun y w'=>∃ u os,y=.returned u/\SliceIs w' u os/\os.length<=4096/\(okT e 1->∀ v∈Zc1 e,v∈os)/\Below w.heap.size w w' :=
 (Zn1 e x w hs h).mono fun _ _ ⟨u,os,h1,h2,h3,h4,h5⟩=>⟨u,os,h1,h2,h3,fun hk v hv=>((h4 hk).1 v).2 hv,h5⟩
open Go.RowKit
structure EvsAt (w:World)(a:Option Addr)(l:List Ev):Prop where
 len:l.length<=9223372036854775807
 cells:∀ k,∀ hk:k<l.length,∃ b off,a=some ⟨b,off,none⟩/\w.cell? ⟨b,off+k*3,none⟩=some (.int .i64 l[k].after)/\w.cell? ⟨b,off+k*3+1,none⟩=some (.int .i64 l[k].kind)/\w.cell? ⟨b,off+k*3+2,none⟩=some (.int .i64 l[k].level)
theorem EvsAt.below {w w':World}{a:Option Addr}{l:List Ev}(h:EvsAt w a l)(hb:Below w.heap.size w w'):EvsAt w' a l :=
 ⟨h.len,fun k hk=>by
  obtain⟨b,off,e,c0,c1,c2⟩:=h.cells k hk;exact⟨b,off,e,(hb.cell (p:=⟨b,off+k*3,none⟩) (Zaa c0)).trans c0,(hb.cell (p:=⟨b,off+k*3+1,none⟩) (Zaa c1)).trans c1,(hb.cell (p:=⟨b,off+k*3+2,none⟩) (Zaa c2)).trans c2⟩⟩
def Zhb (vars:Int)(e:Ev):Int:=if e.kind<1\/e.kind>3 then 11 else if e.after<1\/(e.kind=2/\(e.level<0\/e.level>vars-2)) then 2 else 0
def Zlg (vars:Int):List Ev->Int
 | []=>0
 | e::r=>if Zhb vars e=0 then Zlg vars r else Zhb vars e
def Ze3 (vars waits:Int)(l:List Ev):Int:=if (l.length:Int)>256-waits then 18 else Zlg vars l
theorem Zg2 {vars:Int}{l:List Ev}{i:Nat}(hi:i<l.length):Zlg vars (l.drop i)=if Zhb vars l[i]=0 then Zlg vars (l.drop (i+1)) else Zhb vars l[i]:=by
 rw[List.drop_eq_getElem_cons hi];rfl
theorem Ztc (vars waits:Int)(hv:0<=vars/\vars<=1000)(hw:0<=waits/\waits<=1000)(a:Option Addr)(c:Nat)(l:List Ev)(w:World)(h:EvsAt w a l) :
 Calls prog 67 #[.int .i64 vars,.int .i64 waits,.slice a l.length c] w fun y w'=>y=.returned (.int .i64 (Ze3 vars waits l))/\w=w':=by
 have HI:=Hd h;have hl:=h.len;clear h
 by_cases g1:(l.length:Int)>256-waits
 .
  have HR:Hid (Ze3 vars waits l=18):=Hd (by unfold Ze3;rw[if_pos g1])
  go_enter func67,ntmps67
  go_wp2_with fail;go_ret;exact⟨by rw[HR.out];rfl,rfl⟩
 have HR:Hid (Ze3 vars waits l=Zlg vars (l.drop 0)):=Hd (by unfold Ze3;rw[if_neg g1];rfl);obtain⟨P,hP⟩:∃ P,P=Ze3 vars waits l:=⟨_,rfl⟩;rw[<- hP] at HR ⊢;clear hP
 go_enter func67,ntmps67
 go_wp2_with fail
 go_loopw [7] (fun s7 wr=>∃ i:Nat,i<=l.length/\s7=.int .i64 i/\w=wr/\Hid (P=Zlg vars (l.drop i))) (fun s7 _=>l.length-(intOf s7).toNat)
 case atStart=>exact⟨0,Nat.zero_le _,rfl,rfl,HR⟩
 case round =>
  clear HR;obtain⟨i,hi,rfl,rfl,HP⟩:=hrel
  by_cases g2:i<l.length
  .
   obtain⟨b,off,rfl,c0,c1,c2⟩:=HI.out.cells i g2;have g8:(i:Int)<l.length:=by omega
   have HC:Hid (∀ z:Int,Zhb vars l[i]=z->z≠0->P=z):=Hd fun z hz h0=>by rw[HP.out,Zg2 g2,hz,if_neg h0]
   have HN:Hid (Zhb vars l[i]=0->P=Zlg vars (l.drop (i+1))):=Hd fun hz=>by rw[HP.out,Zg2 g2,hz,if_pos rfl]
   have HE:Hid (Zhb vars l[i]=if l[i].kind<1\/l[i].kind>3 then 11 else if l[i].after<1\/(l[i].kind=2/\(l[i].level<0\/l[i].level>vars-2)) then 2 else 0):=Hd rfl;obtain⟨ev,g3⟩:∃ ev,ev=l[i]:=⟨_,rfl⟩;rw[<- g3] at c0 c1 c2 HC HN HE;obtain⟨af,ki,le⟩:=ev;dsimp only at c0 c1 c2 HE;clear g3 HP;have g6:ki<1\/ki>3\/(ki=2)\/(ki=1\/ki=3):=by omega
   rcases g6 with hk|hk|hk|hk
   . have g0:=Hd (HC.out 11 (by rw[HE.out,if_pos (.inl hk)]) (by decide));go_wp2_with fail;go_ret;exact⟨by rw[g0.out];rfl,rfl⟩
   .
    have g0:=Hd (HC.out 11 (by rw[HE.out,if_pos (.inr hk)]) (by decide));have g7:¬ ki<1:=by omega
    go_wp2_with fail;go_ret;exact⟨by rw[g0.out];rfl,rfl⟩
   .
    by_cases ha:af<1
    . have g0:=Hd (HC.out 2 (by rw[HE.out,if_neg (by omega),if_pos (.inl ha)]) (by decide));subst hk;go_wp2_with fail;go_ret;exact⟨by rw[g0.out];rfl,rfl⟩
    .
     by_cases g5:le<0
     . have g0:=Hd (HC.out 2 (by rw[HE.out,if_neg (by omega),if_pos (.inr ⟨hk,.inl g5⟩)]) (by decide));subst hk;go_wp2_with fail;go_ret;exact⟨by rw[g0.out];rfl,rfl⟩
     .
      by_cases g4:le>vars-2
      . have g0:=Hd (HC.out 2 (by rw[HE.out,if_neg (by omega),if_pos (.inr ⟨hk,.inr g4⟩)]) (by decide));subst hk;go_wp2_with fail;go_ret;exact⟨by rw[g0.out];rfl,rfl⟩
      .
       have g0:=Hd (HN.out (by rw[HE.out,if_neg (by omega),if_neg (by omega)]));subst hk;go_wp2_with fail;go_roundw
       case rel=>exact⟨i+1,by omega,by go_num,by simp,g0⟩
       case measure=>simp[intOf];omega
   .
    have g7:¬ ki<1:=by omega
    have ga:¬ ki>3:=by omega
    have g9:(ki == 2)=false:=by simp;omega
    by_cases ha:af<1
    . have g0:=Hd (HC.out 2 (by rw[HE.out,if_neg (by omega),if_pos (.inl ha)]) (by decide));clear hk;go_wp2_with fail;go_ret;exact⟨by rw[g0.out];rfl,rfl⟩
    .
     have g0:=Hd (HN.out (by rw[HE.out,if_neg (by omega),if_neg (by omega)]));clear hk;go_wp2_with fail;go_roundw
     case rel=>exact⟨i+1,by omega,by go_num,by simp,g0⟩
     case measure=>simp[intOf];omega
  .
   have he:i=l.length:=by omega
   have g8:¬ (i:Int)<l.length:=by omega
   have g0:Hid (P=0):=Hd (by rw[HP.out,he,List.drop_length];rfl);clear he;go_wp2_with fail;go_ret;exact⟨by rw[g0.out];rfl,rfl⟩
open Go.RowKit
def cntP (zs:List Int)(v:Int)(i:Nat):Nat:=((zs.take i).filter (fun z=>decide (z=v))).length
theorem Zft {zs:List Int}{v:Int}{i:Nat}(hi:i<zs.length)(h:at0 zs i=v):cntP zs v (i+1)=cntP zs v i+1:=by
 rw[Zby hi] at h;unfold cntP;rw[List.take_succ_eq_append_getElem hi,List.filter_append];simp[h]
theorem Zqe {zs:List Int}{v:Int}{i:Nat}(hi:i<zs.length)(h:at0 zs i≠v):cntP zs v (i+1)=cntP zs v i:=by
 rw[Zby hi] at h;unfold cntP;rw[List.take_succ_eq_append_getElem hi,List.filter_append];simp[h]
theorem Zz4 (zs:List Int)(v:Int)(i:Nat):cntP zs v i<=i:=by
 unfold cntP;refine Nat.le_trans (List.length_filter_le _ _) ?_;rw[List.length_take];omega
def Zgo (zs:List Int)(n:Int):Bool:=decide ((zs.length:Int)=n/\∀ v,v<zs.length->cntP zs (v:Nat) zs.length=1)
theorem Zwh (a:Option Addr)(c:Nat)(zs:List Int)(n:Int)(w:World)(hz:Zay w a zs)(hl:zs.length<=1000000) :
 Calls prog 66 #[.slice a zs.length c,.int .i64 n] w fun x w'=>x=.returned (.bool (Zgo zs n))/\w=w':=by
 have HZ:=Hd hz;clear hz
 by_cases hn:(zs.length:Int)=n
 .
  subst hn;have HR:Hid (∀ b:Bool,(b=true↔∀ v,v<zs.length->cntP zs (v:Nat) zs.length=1)->Zgo zs zs.length=b):=by
   refine Hd fun b hb=>?_
   unfold Zgo;rw[Bool.eq_iff_iff,hb];simp
  go_enter func66,ntmps66
  go_wp2_with fail
  go_loopw [5] (fun s5 wr=>∃ k:Nat,k<=zs.length/\s5=.int .i64 k/\w=wr/\∀ v,v<k->cntP zs (v:Nat) zs.length=1) (fun s5 _=>zs.length-(intOf s5).toNat)
  case atStart=>exact⟨0,Nat.zero_le _,rfl,rfl,fun v hv=>by omega⟩
  case round =>
   obtain⟨k,hk,rfl,rfl,g2⟩:=hrel;have HA:=Hd g2;clear g2
   by_cases g3:k<zs.length
   .
    have g4:(k:Int)<zs.length:=by omega
    go_wp2_with fail
    go_loopw [6,7] (fun s6 s7 wx=>∃ i:Nat,i<=zs.length/\s7=.int .i64 i/\s6=.int .i64 (cntP zs (k:Nat) i:Nat)/\w=wx) (fun _ s7 _=>zs.length-(intOf s7).toNat)
    case atStart=>exact⟨0,Nat.zero_le _,rfl,rfl,rfl⟩
    case round =>
     obtain⟨i,hi,rfl,rfl,rfl⟩:=hrel;have g6:=Zz4 zs (k:Nat) i
     by_cases g1:i<zs.length
     .
      obtain⟨b,off,ha,hc⟩:=HZ.out.cells i g1;subst ha;have g5:(i:Int)<zs.length:=by omega
      by_cases he:at0 zs i=(k:Nat)
      .
       rw[he] at hc;have HY:=Hd (Zft g1 he);go_wp2_with fail;go_roundw
       case rel=>exact⟨i+1,by omega,by go_num,by rw[HY.out];go_num,trivial⟩
       case measure=>simp[intOf];omega
      .
       have g0:((at0 zs i:Int) == (k:Nat))=false:=by simpa using he
       have HY:=Hd (Zqe g1 he)
       generalize at0 zs i=z at hc g0
       clear he;go_wp2_with fail;go_roundw
       case rel=>exact⟨i+1,by omega,by go_num,by rw[HY.out],trivial⟩
       case measure=>simp[intOf];omega
     .
      obtain rfl:i=zs.length:=by omega
      generalize hq:cntP zs (k:Nat) zs.length=q at *
      by_cases h1:q=1
      .
       subst h1;have HQ:=Hd hq;clear hq;go_wp2_with fail;go_roundw
       case rel =>
        refine⟨k+1,by omega,by go_num,trivial,fun v hv=>?_⟩
        by_cases e:v=k
        . subst e;exact HQ.out
        . exact HA.out v (by omega)
       case measure=>simp[intOf];omega
      .
       have g0:((q:Int) == 1)=false:=by simp;omega
       have HQ:=Hd hq;clear hq;go_wp2_with fail;go_ret;refine⟨?_,rfl⟩
       rw[HR.out false (by
        simp only[Bool.false_eq_true,false_iff];intro hh;exact h1 ((HQ.out).symm.trans (hh k g3)))]
       rfl
   .
    obtain rfl:k=zs.length:=by omega
    go_wp2_with fail;go_ret;refine⟨?_,rfl⟩;rw[HR.out true (by simp only[true_iff];exact HA.out)];rfl
 .
  have g0:(((zs.length:Nat):Int) == n)=false:=by simpa using hn
  have HR:Hid (Zgo zs n=false):=by
   refine Hd ?_
   show Zgo zs n=false
   unfold Zgo;simp[hn]
  go_enter func66,ntmps66
  go_wp2_with fail;go_ret;exact⟨by rw[HR.out];rfl,rfl⟩
open Go.RowKit
theorem Zyd (a:Option Addr)(c:Nat)(zs:List Int)(n:Int)(w:World)(hz:Zay w a zs)(hn:(zs.length:Int)≠n) :
 Calls prog 66 #[.slice a zs.length c,.int .i64 n] w fun x w'=>x=.returned (.bool false)/\w=w':=by
 have hl:=hz.len;have g0:(((zs.length:Nat):Int) == n)=false:=by simpa using hn
 clear hz
 go_enter func66,ntmps66
 go_wp2_with fail;go_ret;exact⟨rfl,rfl⟩
theorem Zwg (a:Option Addr)(c:Nat)(zs:List Int)(n:Int)(w:World)(hz:Zay w a zs)(hn:n<=1000) :
 Calls prog 66 #[.slice a zs.length c,.int .i64 n] w fun x w'=>x=.returned (.bool (Zgo zs n))/\w=w':=by
 by_cases h:(zs.length:Int)=n
 . exact Zwh a c zs n w hz (by omega)
 .
  have:Zgo zs n=false:=by unfold Zgo;simp[h]
  rw[this];exact Zyd a c zs n w hz h
theorem Zbe.parts {w:World}{e:ExT}{x0 x1 x2:Value}(h:Zbe w e (.agg #[x0,x1,x2])):∃ op v a n c,x0=.int .i64 op/\x1=.int .i64 v/\x2=.slice a n c:=by
 cases e with
 | nil=>unfold Zbe at h;exact h.elim
 | mk op v n kid =>
   unfold Zbe at h;obtain⟨a,c,hx,_⟩:=h;cases hx;exact⟨_,_,_,_,_,rfl,rfl,rfl⟩
structure Zj1 (w:World)(a:Option Addr)(l:List ExT):Prop where
 len:l.length<=9223372036854775807
 cells:∀ k,∀ hk:k<l.length,∃ b off x0 x1 x2,a=some ⟨b,off,none⟩/\w.cell? ⟨b,off+k*3,none⟩=some x0/\w.cell? ⟨b,off+k*3+1,none⟩=some x1/\w.cell? ⟨b,off+k*3+2,none⟩=some x2/\Zbe w l[k] (.agg #[x0,x1,x2])
theorem Zj1.below {w w':World}{a:Option Addr}{l:List ExT}(h:Zj1 w a l)(hb:Below w.heap.size w w'):Zj1 w' a l :=
 ⟨h.len,fun k hk=>by
  obtain⟨b,off,x0,x1,x2,e,c0,c1,c2,hx⟩:=h.cells k hk;exact⟨b,off,x0,x1,x2,e,(hb.cell (p:=⟨b,off+k*3,none⟩) (Zaa c0)).trans c0,(hb.cell (p:=⟨b,off+k*3+1,none⟩) (Zaa c1)).trans c1,(hb.cell (p:=⟨b,off+k*3+2,none⟩) (Zaa c2)).trans c2,hx.below hb⟩⟩
structure AskD where
 vars:Int
 order:List Int
 es:List ExT
 plan:List Ev
structure AskAt (w:World)(q:AskD)(ao ae ap:Option Addr):Prop where
 vars:okI q.vars
 order:Zay w ao q.order
 es:Zj1 w ae q.es
 plan:EvsAt w ap q.plan
theorem AskAt.below {w w':World}{q:AskD}{ao ae ap:Option Addr}(h:AskAt w q ao ae ap)(hb:Below w.heap.size w w'):AskAt w' q ao ae ap:=⟨h.vars,h.order.below hb,h.es.below hb,h.plan.below hb⟩
structure Zlr (q:AskD):Prop where
 lo:1<=q.vars
 hi:q.vars<=6
 es:q.es.length<=5
 plan:q.plan.length<=6
 order:q.order.length>0->Zgo q.order q.vars=true
 planOk:Ze3 q.vars 0 q.plan=0
 after:∀ ev∈q.plan,ev.after<=300
 expr:∀ e∈q.es,e.size<=40/\okT e 1/\∀ v∈Zc1 e,v<q.vars
def askV (q:AskD)(ao ae ap:Option Addr)(co ce cp:Nat):Value:=.agg #[.int .i64 q.vars,.slice ao q.order.length co,.slice ae q.es.length ce,.slice ap q.plan.length cp]
theorem Zwq (q:AskD)(ao ae ap:Option Addr)(co ce cp:Nat)(w:World)(h:AskAt w q ao ae ap) :
 Calls prog 19 #[askV q ao ae ap co ce cp] w fun y w'=>∃ b,y=.returned (.bool b)/\(b=true->Zlr q)/\Below w.heap.size w w':=by
 obtain⟨vars,order,es,plan⟩:=q;obtain⟨hv,ho,he,hp⟩:=h;dsimp only [askV] at hv ho he hp ⊢;unfold okI at hv;have ha:=ho.len;have hf:=he.len;have h9:=hp.len;have HO:=Hd ho;have HE:=Hd he;have HP:=Hd hp;obtain⟨w1,gg⟩:∃ w1,w1=w.alloc (.cells #[.int .i64 vars,.slice ao order.length co,.slice ae es.length ce,.slice ap plan.length cp] 39):=⟨_,rfl⟩;have HW1:Hid (_=w1):=Hd gg.symm;have g9:Hid (Below w.heap.size w w1):=by rw[gg];exact Hd (Zad _ _)
 have g0:w1.heap[w.heap.size]?=some (.cells #[.int .i64 vars,.slice ao order.length co,.slice ae es.length ce,.slice ap plan.length cp] 39 (0,0)):=by rw[gg];exact heap_alloc_new _ _
 have d0:w1.cell? ⟨w.heap.size,0,none⟩=some (.int .i64 vars):=by rw[cell_of_row _ _ 0 _ _ _ g0];rfl
 have d1:w1.cell? ⟨w.heap.size,1,none⟩=some (.slice ao order.length co):=by rw[cell_of_row _ _ 1 _ _ _ g0];rfl
 have d2:w1.cell? ⟨w.heap.size,2,none⟩=some (.slice ae es.length ce):=by rw[cell_of_row _ _ 2 _ _ _ g0];rfl
 have d3:w1.cell? ⟨w.heap.size,3,none⟩=some (.slice ap plan.length cp):=by rw[cell_of_row _ _ 3 _ _ _ g0];rfl
 have hs1:w1.heap.size=w.heap.size+1:=by rw[gg];simp
 have gd:Hid (vars<=6->Calls prog 66 #[.slice ao order.length co,.int .i64 vars] w1 fun x w'=>x=.returned (.bool (Zgo order vars))/\w1=w'):=Hd fun hh=>Zwg ao co order vars w1 (HO.out.below g9.out) (by omega)
 have ge:Hid (0<=vars->vars<=6->Calls prog 67 #[.int .i64 vars,.int .i64 0,.slice ap plan.length cp] w1 fun x w'=>x=.returned (.int .i64 (Ze3 vars 0 plan))/\w1=w'):=Hd fun h1 h2=>Ztc vars 0 ⟨h1,by omega⟩ ⟨by omega,by omega⟩ ap cp plan w1 (HP.out.below g9.out)
 obtain⟨P,hP⟩:∃ P:Ending->World->Prop,P=fun y w'=>∃ b,y=.returned (.bool b)/\(b=true->Zlr ⟨vars,order,es,plan⟩)/\Below w.heap.size w w':=⟨_,rfl⟩
 have gk:Hid (∀ W,Below w1.heap.size w1 W->P (.returned (.bool false)) W):=by rw[hP];exact Hd fun W hb=>⟨false,rfl,by simp,g9.out.trans (hb.mono g9.out.size)⟩
 have gK:Hid (Zlr ⟨vars,order,es,plan⟩->∀ W,Below w1.heap.size w1 W->P (.returned (.bool true)) W):=by rw[hP];exact Hd fun hq W hb=>⟨true,rfl,fun _=>hq,g9.out.trans (hb.mono g9.out.size)⟩
 rw[<- hP];clear ho he hp gg g0 hP
 go_enter func19,ntmps19
 go_upto_region 1 with fail;rw[HW1.out]
 go_cut [50] (fun s50 wx=>∃ bad:Bool,s50=.bool bad/\wx=w1/\Hid (bad=false->1<=vars/\vars<=6/\es.length<=5/\plan.length<=6/\(order.length>0->Zgo order vars=true)/\Ze3 vars 0 plan=0))
 case first =>
  by_cases h1:vars<1
  .
   go_wp2_with fail;go_meet
   case rel=>exact⟨true,rfl,rfl,Hd (by simp)⟩
  by_cases h2:vars>6
  .
   go_wp2_with fail;go_meet
   case rel=>exact⟨true,rfl,rfl,Hd (by simp)⟩
  by_cases h3:(es.length:Int)>5
  .
   go_wp2_with fail;go_meet
   case rel=>exact⟨true,rfl,rfl,Hd (by simp)⟩
  by_cases h4:(plan.length:Int)>6
  .
   go_wp2_with fail;go_meet
   case rel=>exact⟨true,rfl,rfl,Hd (by simp)⟩
  have ge:=Hd (ge.out (by omega) (by omega));have gd:=Hd (gd.out (by omega));obtain⟨pr,gp⟩:∃ pr,pr=Ze3 vars 0 plan:=⟨_,rfl⟩;rw[<- gp] at ge;have gG:=Hd gp;clear gp
  by_cases h5:(order.length:Int)>0
  .
   obtain⟨rb,go⟩:∃ rb,rb=Zgo order vars:=⟨_,rfl⟩;rw[<- go] at gd;have gS:=Hd go;clear go;cases rb with
   | false =>
     go_wp2_with fail;refine gd.out.mono ?_;rintro y w' ⟨rfl,rfl⟩;go_wp2_with fail;go_meet
     case rel=>exact⟨true,rfl,rfl,Hd (by simp)⟩
   | true =>
     go_wp2_with fail;refine gd.out.mono ?_;rintro y w' ⟨rfl,rfl⟩;go_wp2_with fail;refine ge.out.mono ?_;rintro y w' ⟨rfl,rfl⟩
     by_cases h6:pr=0
     .
      have gf:Hid (1<=vars/\vars<=6/\es.length<=5/\plan.length<=6/\(order.length>0->Zgo order vars=true)/\Ze3 vars 0 plan=0):=Hd ⟨by omega,by omega,by omega,by omega,fun _=>gS.out.symm,by rw[<- gG.out,h6]⟩;subst h6;go_wp2_with fail;go_meet
      case rel=>exact⟨false,rfl,rfl,Hd fun _=>gf.out⟩
     .
      have gQ:(pr != 0)=true:=by simpa using h6
      clear h6;go_wp2_with fail;go_meet
      case rel=>exact⟨true,rfl,rfl,Hd (by simp)⟩
  .
   go_wp2_with fail;refine ge.out.mono ?_;rintro y w' ⟨rfl,rfl⟩
   by_cases h6:pr=0
   .
    have gf:Hid (1<=vars/\vars<=6/\es.length<=5/\plan.length<=6/\(order.length>0->Zgo order vars=true)/\Ze3 vars 0 plan=0):=Hd ⟨by omega,by omega,by omega,by omega,fun _=>by omega,by rw[<- gG.out,h6]⟩;subst h6;go_wp2_with fail;go_meet
    case rel=>exact⟨false,rfl,rfl,Hd fun _=>gf.out⟩
   .
    have gQ:(pr != 0)=true:=by simpa using h6
    clear h6;go_wp2_with fail;go_meet
    case rel=>exact⟨true,rfl,rfl,Hd (by simp)⟩
 case rest =>
  obtain⟨bad,rfl,rfl,gz⟩:=hcut;clear gd ge;cases bad with
  | true =>
    go_wp2_with fail;exact gk.out _ (Below.refl _ _)
  | false =>
    obtain⟨g1,g2,g3,g4,g5,g6⟩:=gz.out rfl;have gX:=Hd g5;have gV:=Hd g6;clear g5 g6 gz;go_upto_region 3 with fail;go_wp2_with fail
    go_loopw [4,54] (fun s4 s54 wr=>∃ k:Nat,k<=plan.length/\s54=.int .i64 k/\Below wc.heap.size wc wr/\Hid (∀ ev∈plan.take k,ev.after<=300)) (fun _ s54 _=>plan.length-(intOf s54).toNat)
    case atStart=>exact⟨0,Nat.zero_le _,rfl,Below.refl _ _,Hd fun ev he=>by simp at he⟩
    case round =>
     obtain⟨k,hk,rfl,g7,HA⟩:=hrel
     by_cases gh:k<plan.length
     .
      obtain⟨b,off,rfl,c0,c1,c2⟩:=((HP.out.below g9.out).below g7).cells k gh;have gN:(k:Int)<plan.length:=by omega
      have g8:=Hd g7;have gj:Hid (∀ ev∈plan.take (k+1),ev∈plan.take k\/ev=plan[k]):=Hd fun ev he=>by
       rw[List.take_succ_eq_append_getElem gh,List.mem_append,List.mem_singleton] at he;exact he
      obtain⟨ev,ga⟩:∃ ev,ev=plan[k]:=⟨_,rfl⟩;rw[<- ga] at c0 c1 c2 gj;obtain⟨af,ki,le⟩:=ev;dsimp only at c0 c1 c2;clear ga g7
      by_cases hg:af>300
      . have HF:=Hd (gk.out _ (g8.out.trans ((Zad wr (.cells #[.int .i64 af,.int .i64 ki,.int .i64 le] 120)).mono g8.out.size)));go_wp2_with fail;exact HF.out
      .
       have HF:=Hd (g8.out.trans ((Zad wr (.cells #[.int .i64 af,.int .i64 ki,.int .i64 le] 120)).mono g8.out.size));have gZ:Hid (∀ ev∈plan.take (k+1),ev.after<=300):=Hd fun ev he=>by
        rcases gj.out ev he with h|rfl
        . exact HA.out ev h
        . dsimp only;omega
       go_wp2_with fail;go_roundw
       case rel=>exact⟨k+1,by omega,by go_num,HF.out,gZ⟩
       case measure=>simp[intOf];omega
     .
      have gY:Hid (∀ ev∈plan,ev.after<=300):=Hd fun ev ga=>HA.out ev (by rw[List.take_of_length_le (by omega)];exact ga)
      have gN:¬ (k:Int)<plan.length:=by omega
      have d0':=(g7.cell (p:=⟨w.heap.size,0,none⟩) (Zaa d0)).trans d0;have d2':=(g7.cell (p:=⟨w.heap.size,2,none⟩) (Zaa d2)).trans d2;have g8:=Hd g7;obtain⟨wA,h8⟩:∃ wA,wA=wr:=⟨_,rfl⟩;clear g7;go_wp2_with fail
      go_loopw [6,8,65] (fun s6 s8 s65 wx=>∃ k:Nat,k<=es.length/\s65=.int .i64 k/\Below wc.heap.size wc wx/\Hid (∀ e∈es.take k,e.size<=40/\okT e 1/\∀ v∈Zc1 e,v<vars)) (fun _ _ s65 _=>es.length-(intOf s65).toNat)
      case atStart=>exact⟨0,Nat.zero_le _,rfl,g8.out,Hd fun ev he=>by simp at he⟩
      case round =>
       rename World=>wy
       obtain⟨j,hj,rfl,gi,HB⟩:=hrel
       by_cases gh:j<es.length
       .
        obtain⟨b,off,x0,x1,x2,rfl,c0,c1,c2,hx⟩:=((HE.out.below g9.out).below gi).cells j gh;have gO:(j:Int)<es.length:=by omega
        have gI:=Hd gi;have gj:Hid (∀ e∈es.take (j+1),e∈es.take j\/e=es[j]):=Hd fun e he=>by
         rw[List.take_succ_eq_append_getElem gh,List.mem_append,List.mem_singleton] at he;exact he
        have gt:=(gi.cell (p:=⟨w.heap.size,0,none⟩) (Zaa d0)).trans d0;obtain⟨e,ga⟩:∃ e,e=es[j]:=⟨_,rfl⟩;rw[<- ga] at hx gj;have HX:=Hd hx;obtain⟨zo,zv,za,zn,zc,rfl,rfl,rfl⟩:=hx.parts;clear ga gi hx;go_upto_region 12 with fail;obtain⟨wz,gl⟩:∃ wz,wz=wy.alloc (.cells #[.int .i64 zo,.int .i64 zv,.slice za zn zc] 81):=⟨_,rfl⟩;have gn:Below wy.heap.size wy wz:=by rw[gl];exact Zad _ _
        have g0:wz.heap[wy.heap.size]?=some (.cells #[.int .i64 zo,.int .i64 zv,.slice za zn zc] 81 (0,0)):=by rw[gl];exact heap_alloc_new _ _
        have k0:wz.cell? ⟨wy.heap.size,0,none⟩=some (.int .i64 zo):=by rw[cell_of_row _ _ 0 _ _ _ g0];rfl
        have k1:wz.cell? ⟨wy.heap.size,1,none⟩=some (.int .i64 zv):=by rw[cell_of_row _ _ 1 _ _ _ g0];rfl
        have k2:wz.cell? ⟨wy.heap.size,2,none⟩=some (.slice za zn zc):=by rw[cell_of_row _ _ 2 _ _ _ g0];rfl
        have kd:=(gn.cell (p:=⟨w.heap.size,0,none⟩) (Zaa gt)).trans gt;have gv:=Hd (HX.out.below gn);have gH:=Hd (gI.out.trans (gn.mono gI.out.size));rw[<- gl];clear gl gn g0 c0 c1 c2 gt;go_wp2_with fail;refine(Zph e _ 40 _ (by omega) gv.out).mono ?_;rintro y wp ⟨⟨r,rfl,_,_,gB⟩,gc⟩;have gy:=Hd (gH.out.trans (gc.mono gH.out.size));have gw:=Hd (gv.out.below gc);have m0:=(gc.cell (p:=⟨wy.heap.size,0,none⟩) (Zaa k0)).trans k0;have m1:=(gc.cell (p:=⟨wy.heap.size,1,none⟩) (Zaa k1)).trans k1;have m2:=(gc.cell (p:=⟨wy.heap.size,2,none⟩) (Zaa k2)).trans k2;have md:=(gc.cell (p:=⟨w.heap.size,0,none⟩) (Zaa kd)).trans kd;clear gc k0 k1 k2 kd
        by_cases hr:(r:Int)>40
        . have HF:=Hd (gk.out _ gy.out);go_wp2_with fail;exact HF.out
        have gA:e.size<=40:=by have:=gB (by omega);omega
        clear gB;go_wp2_with fail;refine(Zhk e _ _ (by omega) gw.out).mono ?_;rintro y wq ⟨err,rfl,gs,gb⟩;have gx:=Hd (gy.out.trans (gb.mono gy.out.size));have gD:=Hd (gw.out.below gb);have n0:=(gb.cell (p:=⟨wy.heap.size,0,none⟩) (Zaa m0)).trans m0;have n1:=(gb.cell (p:=⟨wy.heap.size,1,none⟩) (Zaa m1)).trans m1;have n2:=(gb.cell (p:=⟨wy.heap.size,2,none⟩) (Zaa m2)).trans m2;have nd:=(gb.cell (p:=⟨w.heap.size,0,none⟩) (Zaa md)).trans md;have gU:=Hd gs;clear gb m0 m1 m2 md gs
        by_cases gm:err=0
        .
         have gf:=Hd (gU.out.1 gm);subst gm;go_wp2_with fail;refine(Zn0 e _ _ (by omega) gD.out).mono ?_;rintro y ws ⟨u,os,rfl,gM,h0,gq,gu⟩;obtain⟨au,cu,rfl,gC,hc⟩:=gM;have gJ:=Hd (gx.out.trans (gu.mono gx.out.size));have pd:=(gu.cell (p:=⟨w.heap.size,0,none⟩) (Zaa nd)).trans nd;have gT:=Hd gC;have gL:=Hd (gq gf.out);clear gu n0 n1 n2 nd gC gq HX gv gw gD;go_wp2_with fail
         go_loopw [8,80] (fun s8 s80 wt=>∃ i:Nat,i<=os.length/\s80=.int .i64 i/\wt=ws/\Hid (∀ v∈os.take i,v<vars)) (fun _ s80 _=>os.length-(intOf s80).toNat)
         case atStart=>exact⟨0,Nat.zero_le _,rfl,rfl,Hd fun v hv=>by simp at hv⟩
         case round =>
          obtain⟨i,hi,rfl,rfl,gE⟩:=hrel
          by_cases gr:i<os.length
          .
           obtain⟨b2,of2,rfl,cc⟩:=gT.out.cells i gr;have gP:(i:Int)<os.length:=by omega
           have gF:=Hd (Zia gr);obtain⟨z,hz⟩:∃ z,z=at0 os i:=⟨_,rfl⟩;rw[<- hz] at cc gF;clear hz
           by_cases h7:z>=vars
           . have HF:=Hd (gk.out _ gJ.out);go_wp2_with fail;exact HF.out
           .
            have gR:Hid (∀ v∈os.take (i+1),v<vars):=Hd fun v hv=>by
             rcases(gF.out v).1 hv with h|rfl
             . exact gE.out v h
             . omega
            go_wp2_with fail;go_roundw
            case rel=>exact⟨i+1,by omega,by go_num,by simp,gR⟩
            case measure=>simp[intOf];omega
          .
           have gP:¬ (i:Int)<os.length:=by omega
           have HB2:Hid (∀ e∈es.take (j+1),e.size<=40/\okT e 1/\∀ v∈Zc1 e,v<vars):=Hd fun e' he'=>by
            rcases gj.out e' he' with h|rfl
            . exact HB.out e' h
            . exact⟨gA,gf.out,fun v hv=>gE.out v (by rw[List.take_of_length_le (by omega)];exact gL.out v hv)⟩
           go_wp2_with fail;go_roundw
           case rel=>exact⟨j+1,by omega,by go_num,gJ.out,HB2⟩
           case measure=>simp[intOf];omega
        .
         have hd:(err != 0)=true:=by simpa using gm
         have HF:=Hd (gk.out _ gx.out);clear gm;go_wp2_with fail;exact HF.out
       .
        have gO:¬ (j:Int)<es.length:=by omega
        have HF:=Hd (gK.out ⟨g1,g2,g3,g4,gX.out,gV.out,gY.out,fun e he=>HB.out e (by rw[List.take_of_length_le (by omega)];exact he)⟩ _ gi);go_wp2_with fail;exact HF.out
end Go.Proofs.YtkbegdkpboklpaaGreat
